/-
  A link: Offer, whatever act does.
-/
import Derived.Test.YtfmkdoachjgjbaaGreatDoorLw1
set_option maxRecDepth 100000
set_option maxHeartbeats 8000000
set_option linter.unusedVariables false
set_option linter.unusedSimpArgs false
namespace Go.Proofs.YtfmkdoachjgjbaaGreatDoor
open Go.RowKit
attribute [local go_sem ↓ high] qy qz zb zf qae zl
attribute [local go_sem] qas qat qax qv zx qck qbf
theorem qxm(g:Nat)(S:Nat→Prop)(n r:Nat)(h:List Int)(x:Int)(V:MsgV)(er:Int)(LL:Lk)(sp en lo:Nat)(w:World)(Z:∀k,S k→k<w.heap.size)(hl:h.length=32)(h0:n<2 ^ (8*8))(hr:r<18446744073709551616)(hwx:IntKind.u64.wrap x=(r:Int))(v:V.hash.length=32)
  (f9:∀T U R Y w3,qu w w3→w.heap.size≤T→w.heap.size≤U→w.heap.size≤R→w.heap.size≤Y→w3.cell? ⟨T,0,none⟩=some (.pointer (some ⟨g,0,none⟩))→w3.cell? ⟨U,0,none⟩=some (.int .u64 (n:Int))→zj w3 R 0 32=some (qs h).toArray→w3.cell? ⟨Y,0,none⟩=some (.int .i64 x)→∀B W,qu w3 W→w3.heap.size≤B→W.heap[B]? = some (.cells #[.string (zc 1 1),.string (zc n 8),.string (strOfNums h),.string (qf5 r 4)] 9 (0,0))→Calls Tryz.prog 45 #[.pointer (some ⟨g,0,none⟩),.func (.func 46) #[] #[.pointer (some ⟨T,0,none⟩),.pointer (some ⟨U,0,none⟩),.pointer (some ⟨R,0,none⟩),.pointer (some ⟨Y,0,none⟩)],.slice (some ⟨B,0,none⟩) 4 4] W fun e W'=>e = .returned (.tuple #[.agg V.cells.toArray,.int .i64 er])∧LkE W' g (Fr S W W') sp en lo LL∧Upd S W W') :
  Calls Tryz.prog 11 #[.pointer (some ⟨g,0,none⟩),.int .u64 (n:Int),.agg (qs h).toArray,.int .i64 x] w fun e w'=>e = .returned (.tuple #[.int .u64 V.id,.int .i64 er])∧LkS w' g (Fr S w w') LL∧Upd S w w':=by
 have hmf:∀(fn:Fn) (first cap:Array Value) (w:World),(Instr.makeFunc fn first cap).run Tryz.prog w = .ok (.func fn first cap) w:=fun _ _ _ _=>rfl
 obtain⟨p,I⟩:∃p,p=(((w.alloc (.cells #[.pointer (some ⟨g,0,none⟩)] 28)).alloc (.cells #[.int .u64 (n:Int)] 22)).alloc (.cells (qs h).toArray 35)).alloc (.cells #[.int .i64 x] 3):=⟨_,rfl⟩
 have n4:qu w p:=by rw[I];exact(((((Upd.refl _ _).alloc _).alloc _).alloc _).alloc _)
 have N:p.cell? ⟨w.heap.size,0,none⟩=some (.pointer (some ⟨g,0,none⟩)):=by
  rw[I];exact qg (qq (qq (qq (qh _ _) _) _) _) 0
 have L:p.cell? ⟨w.heap.size+1,0,none⟩=some (.int .u64 (n:Int)):=by
  rw[I];have:=qh (w.alloc (.cells #[.pointer (some ⟨g,0,none⟩)] 28)) (.cells #[.int .u64 (n:Int)] 22);rw[World.size_alloc] at this;exact qg (qq (qq this _) _) 0
 have H:zj p (w.heap.size+1+1) 0 32=some (qs h).toArray:=by
  rw[I];have:=qh ((w.alloc (.cells #[.pointer (some ⟨g,0,none⟩)] 28)).alloc (.cells #[.int .u64 (n:Int)] 22)) (.cells (qs h).toArray 35);rw[World.size_alloc,World.size_alloc] at this;exact qai (qq this _) 32 (by rw[List.size_toArray,qaj,hl])
 have F:p.cell? ⟨w.heap.size+1+1+1,0,none⟩=some (.int .i64 x):=by
  rw[I];have:=qh (((w.alloc (.cells #[.pointer (some ⟨g,0,none⟩)] 28)).alloc (.cells #[.int .u64 (n:Int)] 22)).alloc (.cells (qs h).toArray 35)) (.cells #[.int .i64 x] 3);rw[World.size_alloc,World.size_alloc,World.size_alloc] at this;exact qg this 0
 go_enter Tryz.func11,Tryz.ntmps11
 go_upto_region 1 with fail
 rw[←I]
 have z4:w.heap.size+1+1+1<p.heap.size:=by rw[I];simp only[World.size_alloc];omega
 clear I
 obtain⟨T,m0⟩:∃X,X=w.heap.size:=⟨_,rfl⟩
 rw[←m0] at N L H F z4 ⊢
 obtain⟨U,m7⟩:∃X,X=T+1:=⟨_,rfl⟩
 rw[←m7] at L H F z4 ⊢
 obtain⟨R,l9⟩:∃X,X=U+1:=⟨_,rfl⟩
 rw[←l9] at H F z4 ⊢
 obtain⟨Y,m8⟩:∃X,X=R+1:=⟨_,rfl⟩
 rw[←m8] at F z4 ⊢
 have e9:¬S T∧¬S U∧¬S R∧¬S Y:=⟨fun e=>by have:=Z _ e;omega,fun e=>by have:=Z _ e;omega,fun e=>by have:=Z _ e;omega,fun e=>by have:=Z _ e;omega⟩
 have a7:w.heap.size≤T∧w.heap.size≤U∧w.heap.size≤R∧w.heap.size≤Y:=⟨by omega,by omega,by omega,by omega⟩
 have j5:=qb n4
 have z:∀k,S k→k<p.heap.size:=fun k e=>Nat.lt_of_lt_of_le (Z k e) n4.size
 have hA:=fun B W (nW:qu p W) hB hr=>f9 T U R Y p n4 a7.1 a7.2.1 a7.2.2.1 a7.2.2.2 N L H F B W nW hB hr
 clear m0 m7 l9 m8 z4 n4 f9 a7
 have c1:p.drew.cell? ⟨T,0,none⟩=some (.pointer (some ⟨g,0,none⟩))∧p.drew.cell? ⟨U,0,none⟩=some (.int .u64 (n:Int))∧zj p.drew R 0 32=some (qs h).toArray∧p.drew.cell? ⟨Y,0,none⟩=some (.int .i64 x):=⟨N,L,H,F⟩
 have f:∀X,qu p X→X.cell? ⟨T,0,none⟩=some (.pointer (some ⟨g,0,none⟩))∧X.cell? ⟨U,0,none⟩=some (.int .u64 (n:Int))∧zj X R 0 32=some (qs h).toArray∧X.cell? ⟨Y,0,none⟩=some (.int .i64 x):=fun X q=>⟨q.cell N (fun h=>h),q.cell L (fun h=>h),qbc H q (fun h=>h),q.cell F (fun h=>h)⟩
 have u9:∀X S',LkE X g S' sp en lo LL→Upd S p X→X.cell? ⟨T,0,none⟩=some (.pointer (some ⟨g,0,none⟩))∧X.cell? ⟨U,0,none⟩=some (.int .u64 (n:Int))∧zj X R 0 32=some (qs h).toArray∧X.cell? ⟨Y,0,none⟩=some (.int .i64 x):=fun X S' _ q=>⟨q.cell N e9.1,q.cell L e9.2.1,qbc H q e9.2.2.1,q.cell F e9.2.2.2⟩
 have n00:qu p p.drew:=(Upd.refl _ _).drew
 clear N L H F
 go_cut [10,11] from 12 to 26 (fun kv ev wx=>∃K,kv = .pointer (some ⟨K,0,none⟩)∧ev = .int .i64 er∧MsB wx K V∧LkE wx g (Fr S p wx) sp en lo LL∧Upd S p wx∧p.heap.size≤K)
 case first =>
  refine qaw (fun w'=>w'.cell? ⟨T,0,none⟩=some (.pointer (some ⟨g,0,none⟩))∧w'.cell? ⟨U,0,none⟩=some (.int .u64 (n:Int))∧zj w' R 0 32=some (qs h).toArray∧w'.cell? ⟨Y,0,none⟩=some (.int .i64 x)) [0,3,5,7,8] (.fork (.of [15,0,1,2,3,4,5,6,7,8,9,10,11,12,13,14,16,17]) (Plan.pre [0,1,2] (.fork (.of [15,3,4,5,6,7,8,9,10,11,12,13,14,16,17]) (Plan.pre [3,4] (.fork (.of [15,5,6,7,8,9,10,11,12,13,14,16,17]) (Plan.pre [5,6] (.fork (.of [15,7,8,9,10,11,12,13,14,16,17]) (Plan.pre [7,8,9] (.fork (.of [15,10,11,12,13,14,16,17]) (Plan.pre [10] (.fork (.of [15,11,12,13,14,16,17]) (.of [11,12,13,14,15,16,17])))))))))))) (by kernel_rfl) (by kernel_rfl) c1 ?_;simp only[Plan.of,Plan.pre];refine qf ?_ ?_
  ·skip
   try go_wp2_with ((with_reducible first|rfl|refine' ut ?_ ?_;rotate_left|refine' uu ?_)<;>intros)
   have m1:qu p (p.alloc (.cells MsgV.zero.cells.toArray 101)).drew:=((Upd.refl _ _).alloc _).drew;have b1:MsB (p.alloc (.cells MsgV.zero.cells.toArray 101)).drew p.heap.size MsgV.zero:=(qan p MsgV.zero ql).new (Upd.drew (Upd.refl (fun _=>False) _));obtain⟨K1,e1⟩:∃K,K=p.heap.size:=⟨_,rfl⟩;have n1:qu p (p.alloc (.cells MsgV.zero.cells.toArray 101)).drew:=m1
   first | refine⟨f _ n1,?_⟩ | skip
   have y1:=b1.lt;generalize (p.alloc (.cells MsgV.zero.cells.toArray 101)).drew=y4 at m1 b1 n1 y1 ⊢;have q1:=f _ n1;rw[←e1] at b1 y1 ⊢;have E1:=qb e1;have g1:p.heap.size≤K1:=by rw[e1];exact Nat.le_refl _
   clear e1
   try go_wp2_with ((with_reducible first|rfl|refine' ut ?_ ?_;rotate_left|refine' uu ?_)<;>intros)
   refine(qbi 1 1 y4 (by decide) (by decide) (by decide)).mono ?_;rintro e q8 ⟨rfl,m2⟩;have n2:qu p q8:=n1.trans m2;have b2:=b1.new m2;have q2:=f _ n2;go_wp2_with (first | ((with_reducible first|rfl|refine' ut ?_ ?_;rotate_left|refine' uu ?_)<;>intros) | refine⟨f _ n2,?_⟩);refine(qbi n 8 q8 (by decide) (by decide) h0).mono ?_;rintro e r0 ⟨rfl,m3⟩;have n3:qu p r0:=n2.trans m3;have b3:=b2.new m3;have q3:=f _ n3;go_wp2_with (first | ((with_reducible first|rfl|refine' ut ?_ ?_;rotate_left|refine' uu ?_)<;>intros) | refine⟨f _ n3,?_⟩);refine(qd9 h r0 hl).mono ?_;rintro e r1 ⟨rfl,m4⟩;have n4:qu p r1:=n3.trans m4;have b4:=b3.new m4;have q4:=f _ n4;go_wp2_with (first | ((with_reducible first|rfl|refine' ut ?_ ?_;rotate_left|refine' uu ?_)<;>intros) | refine⟨f _ n4,?_⟩);refine(qdu r 4 r1 (by decide) (by decide) hr).mono ?_;rintro e r2 ⟨rfl,m5⟩;have n5:qu p r2:=n4.trans m5;have b5:=b4.new m5;have q5:=f _ n5;go_wp2_with (first | ((with_reducible first|rfl|refine' ut ?_ ?_;rotate_left|refine' uu ?_)<;>intros) | refine⟨f _ n5,?_⟩);obtain⟨B6,y5,i6,e6,m6,r6,z6⟩:=qcq r2 #[.string (zc 1 1),.string (zc n 8),.string (strOfNums h),.string (qf5 r 4)];have n6:=n5.trans m6;have y6:=n5.size;have b6:=b5.new m6;have a6:=b5.lt;rw[i6,e6]
   first | refine⟨f _ n6,?_⟩ | skip
   clear m6 i6;have q6:=f _ n6
   try go_wp2_with ((with_reducible first|rfl|refine' ut ?_ ?_;rotate_left|refine' uu ?_)<;>intros)
   have m:=hA B6 y5 n6 (by omega) r6;refine m.mono ?_;rintro e i7 ⟨rfl,l7,v7⟩;have u7:Upd S p i7:=(n6.mono (fun _ _ h=>h.elim)).trans v7;have x7:=n6.size;have y7:=v7.size;have b7:=b6.upd v7 (fun e=>by have:=z _ e;omega);clear m v7;have O:=b7.stOk v;have c8:=b7.put v;have x8:Upd (· = K1) i7 _:=qx (w:=i7) (b:=K1) V.cells;have J:=qb (And.intro c8 (And.intro x8 (And.intro l7 u7)));have xx8:=x8.size;clear c8 x8
   try go_wp2_with ((with_reducible first|rfl|refine' ut ?_ ?_;rotate_left|refine' uu ?_)<;>intros)
   go_meet
   case rel =>
    obtain⟨c,x,l,u⟩:=qa J;have E:=qa E1;exact⟨K1,rfl,rfl,c,qbu l x z (by omega) (by omega) (by omega),u.then x (fun i hi e=>by omega),by omega⟩
  ·skip
   try go_wp2_with ((with_reducible first|rfl|refine' ut ?_ ?_;rotate_left|refine' uu ?_)<;>intros)
   refine(qbi 1 1 p.drew (by decide) (by decide) (by decide)).mono ?_;rintro e i5 ⟨rfl,m9⟩;replace m9:=m9.ofDrew;have n9:qu p i5:=m9;have q9:=f _ n9;go_wp2_with (first | ((with_reducible first|rfl|refine' ut ?_ ?_;rotate_left|refine' uu ?_)<;>intros) | refine⟨f _ n9,?_⟩);refine qf ?_ ?_
   ·skip
    try go_wp2_with ((with_reducible first|rfl|refine' ut ?_ ?_;rotate_left|refine' uu ?_)<;>intros)
    obtain⟨d4,p7,n7,e2,w2,j6⟩:=qdn i5;rw[n7,e2];have h7:=n9.trans w2
    first | refine⟨f _ h7,?_⟩ | skip
    have y10:=j6.lt;have q10:=f _ h7;have s5:=qb e2.symm;have g10:p.heap.size≤d4:=by rw[←e2];exact n9.size
    clear e2 n7
    try go_wp2_with ((with_reducible first|rfl|refine' ut ?_ ?_;rotate_left|refine' uu ?_)<;>intros)
    refine(qbi n 8 p7 (by decide) (by decide) h0).mono ?_;rintro e g2 ⟨rfl,o8⟩;have h8:qu p g2:=h7.trans o8;have t2:=j6.new o8;have q11:=f _ h8;go_wp2_with (first | ((with_reducible first|rfl|refine' ut ?_ ?_;rotate_left|refine' uu ?_)<;>intros) | refine⟨f _ h8,?_⟩);refine(qd9 h g2 hl).mono ?_;rintro e g3 ⟨rfl,o9⟩;have h9:qu p g3:=h8.trans o9;have t6:=t2.new o9;have q12:=f _ h9;go_wp2_with (first | ((with_reducible first|rfl|refine' ut ?_ ?_;rotate_left|refine' uu ?_)<;>intros) | refine⟨f _ h9,?_⟩);refine(qdu r 4 g3 (by decide) (by decide) hr).mono ?_;rintro e g4 ⟨rfl,p0⟩;have f1:qu p g4:=h9.trans p0;have j7:=t6.new p0;have q13:=f _ f1;go_wp2_with (first | ((with_reducible first|rfl|refine' ut ?_ ?_;rotate_left|refine' uu ?_)<;>intros) | refine⟨f _ f1,?_⟩);obtain⟨r9,r3,n8,u3,h2,x1,z14⟩:=qcq g4 #[.string (zc 1 1),.string (zc n 8),.string (strOfNums h),.string (qf5 r 4)];have a8:=f1.trans h2;have y14:=f1.size;have t7:=j7.new h2;have a14:=j7.lt;rw[n8,u3]
    first | refine⟨f _ a8,?_⟩ | skip
    clear h2 n8;have q14:=f _ a8
    try go_wp2_with ((with_reducible first|rfl|refine' ut ?_ ?_;rotate_left|refine' uu ?_)<;>intros)
    have m:=hA r9 r3 a8 (by omega) x1;refine m.mono ?_;rintro e c9 ⟨rfl,v1,f5⟩;have x6:Upd S p c9:=(a8.mono (fun _ _ h=>h.elim)).trans f5;have x15:=a8.size;have y15:=f5.size;have j8:=t7.upd f5 (fun e=>by have:=z _ e;omega);clear m f5;have O:=j8.stOk v;have l0:=j8.put v;have i8:Upd (· = d4) c9 _:=qx (w:=c9) (b:=d4) V.cells;have J:=qb (And.intro l0 (And.intro i8 (And.intro v1 x6)));have y9:=i8.size;clear l0 i8
    try go_wp2_with ((with_reducible first|rfl|refine' ut ?_ ?_;rotate_left|refine' uu ?_)<;>intros)
    go_meet
    case rel =>
     obtain⟨c,x,l,u⟩:=qa J;have E:=qa s5;exact⟨d4,rfl,rfl,c,qbu l x z (by omega) (by omega) (by omega),u.then x (fun i hi e=>by omega),by omega⟩
   ·skip
    try go_wp2_with ((with_reducible first|rfl|refine' ut ?_ ?_;rotate_left|refine' uu ?_)<;>intros)
    refine(qbi n 8 i5 (by decide) (by decide) h0).mono ?_;rintro e c5 ⟨rfl,w5⟩;have b8:qu p c5:=n9.trans w5;have q17:=f _ b8;go_wp2_with (first | ((with_reducible first|rfl|refine' ut ?_ ?_;rotate_left|refine' uu ?_)<;>intros) | refine⟨f _ b8,?_⟩);refine qf ?_ ?_
    ·skip
     try go_wp2_with ((with_reducible first|rfl|refine' ut ?_ ?_;rotate_left|refine' uu ?_)<;>intros)
     obtain⟨d5,p8,o0,e3,w6,j9⟩:=qdn c5;rw[o0,e3];have i0:=b8.trans w6
     first | refine⟨f _ i0,?_⟩ | skip
     have y18:=j9.lt;have q18:=f _ i0;have s6:=qb e3.symm;have g18:p.heap.size≤d5:=by rw[←e3];exact b8.size
     clear e3 o0
     try go_wp2_with ((with_reducible first|rfl|refine' ut ?_ ?_;rotate_left|refine' uu ?_)<;>intros)
     refine(qd9 h p8 hl).mono ?_;rintro e g5 ⟨rfl,p1⟩;have i1:qu p g5:=i0.trans p1;have t8:=j9.new p1;have q19:=f _ i1;go_wp2_with (first | ((with_reducible first|rfl|refine' ut ?_ ?_;rotate_left|refine' uu ?_)<;>intros) | refine⟨f _ i1,?_⟩);refine(qdu r 4 g5 (by decide) (by decide) hr).mono ?_;rintro e g6 ⟨rfl,p2⟩;have f2:qu p g6:=i1.trans p2;have k0:=t8.new p2;have q20:=f _ f2;go_wp2_with (first | ((with_reducible first|rfl|refine' ut ?_ ?_;rotate_left|refine' uu ?_)<;>intros) | refine⟨f _ f2,?_⟩);obtain⟨s0,r4,o1,u4,h3,x2,z21⟩:=qcq g6 #[.string (zc 1 1),.string (zc n 8),.string (strOfNums h),.string (qf5 r 4)];have b9:=f2.trans h3;have y21:=f2.size;have u0:=k0.new h3;have a21:=k0.lt;rw[o1,u4]
     first | refine⟨f _ b9,?_⟩ | skip
     clear h3 o1;have q21:=f _ b9
     try go_wp2_with ((with_reducible first|rfl|refine' ut ?_ ?_;rotate_left|refine' uu ?_)<;>intros)
     have m:=hA s0 r4 b9 (by omega) x2;refine m.mono ?_;rintro e d0 ⟨rfl,v2,f6⟩;have x9:Upd S p d0:=(b9.mono (fun _ _ h=>h.elim)).trans f6;have x22:=b9.size;have y22:=f6.size;have k3:=u0.upd f6 (fun e=>by have:=z _ e;omega);clear m f6;have O:=k3.stOk v;have l3:=k3.put v;have i9:Upd (· = d5) d0 _:=qx (w:=d0) (b:=d5) V.cells;have J:=qb (And.intro l3 (And.intro i9 (And.intro v2 x9)));have z1:=i9.size;clear l3 i9
     try go_wp2_with ((with_reducible first|rfl|refine' ut ?_ ?_;rotate_left|refine' uu ?_)<;>intros)
     go_meet
     case rel =>
      obtain⟨c,x,l,u⟩:=qa J;have E:=qa s6;exact⟨d5,rfl,rfl,c,qbu l x z (by omega) (by omega) (by omega),u.then x (fun i hi e=>by omega),by omega⟩
    ·skip
     try go_wp2_with ((with_reducible first|rfl|refine' ut ?_ ?_;rotate_left|refine' uu ?_)<;>intros)
     refine(qd9 h c5 hl).mono ?_;rintro e c6 ⟨rfl,w7⟩;have c0:qu p c6:=b8.trans w7;have q24:=f _ c0;go_wp2_with (first | ((with_reducible first|rfl|refine' ut ?_ ?_;rotate_left|refine' uu ?_)<;>intros) | refine⟨f _ c0,?_⟩);refine qf ?_ ?_
     ·skip
      try go_wp2_with ((with_reducible first|rfl|refine' ut ?_ ?_;rotate_left|refine' uu ?_)<;>intros)
      obtain⟨d6,p9,o2,e4,w8,k4⟩:=qdn c6;rw[o2,e4];have i2:=c0.trans w8
      first | refine⟨f _ i2,?_⟩ | skip
      have y25:=k4.lt;have q25:=f _ i2;have s7:=qb e4.symm;have g25:p.heap.size≤d6:=by rw[←e4];exact c0.size
      clear e4 o2
      try go_wp2_with ((with_reducible first|rfl|refine' ut ?_ ?_;rotate_left|refine' uu ?_)<;>intros)
      refine(qdu r 4 p9 (by decide) (by decide) hr).mono ?_;rintro e g7 ⟨rfl,p3⟩;have f3:qu p g7:=i2.trans p3;have k5:=k4.new p3;have q26:=f _ f3;go_wp2_with (first | ((with_reducible first|rfl|refine' ut ?_ ?_;rotate_left|refine' uu ?_)<;>intros) | refine⟨f _ f3,?_⟩);obtain⟨s3,r5,o3,u5,h4,x3,z27⟩:=qcq g7 #[.string (zc 1 1),.string (zc n 8),.string (strOfNums h),.string (qf5 r 4)];have c2:=f3.trans h4;have y27:=f3.size;have u1:=k5.new h4;have a27:=k5.lt;rw[o3,u5]
      first | refine⟨f _ c2,?_⟩ | skip
      clear h4 o3;have q27:=f _ c2
      try go_wp2_with ((with_reducible first|rfl|refine' ut ?_ ?_;rotate_left|refine' uu ?_)<;>intros)
      have m:=hA s3 r5 c2 (by omega) x3;refine m.mono ?_;rintro e d1 ⟨rfl,v6,f7⟩;have y0:Upd S p d1:=(c2.mono (fun _ _ h=>h.elim)).trans f7;have x28:=c2.size;have y28:=f7.size;have k6:=u1.upd f7 (fun e=>by have:=z _ e;omega);clear m f7;have O:=k6.stOk v;have l4:=k6.put v;have j0:Upd (· = d6) d1 _:=qx (w:=d1) (b:=d6) V.cells;have J:=qb (And.intro l4 (And.intro j0 (And.intro v6 y0)));have z2:=j0.size;clear l4 j0
      try go_wp2_with ((with_reducible first|rfl|refine' ut ?_ ?_;rotate_left|refine' uu ?_)<;>intros)
      go_meet
      case rel =>
       obtain⟨c,x,l,u⟩:=qa J;have E:=qa s7;exact⟨d6,rfl,rfl,c,qbu l x z (by omega) (by omega) (by omega),u.then x (fun i hi e=>by omega),by omega⟩
     ·skip
      try go_wp2_with ((with_reducible first|rfl|refine' ut ?_ ?_;rotate_left|refine' uu ?_)<;>intros)
      refine(qdu r 4 c6 (by decide) (by decide) hr).mono ?_;rintro e c7 ⟨rfl,w9⟩;have P:qu p c7:=c0.trans w9;have q30:=f _ P;go_wp2_with (first | ((with_reducible first|rfl|refine' ut ?_ ?_;rotate_left|refine' uu ?_)<;>intros) | refine⟨f _ P,?_⟩);refine qf ?_ ?_
      ·skip
       try go_wp2_with ((with_reducible first|rfl|refine' ut ?_ ?_;rotate_left|refine' uu ?_)<;>intros)
       obtain⟨d7,q0,o4,e5,x0,g9⟩:=qdn c7;rw[o4,e5];have f4:=P.trans x0
       first | refine⟨f _ f4,?_⟩ | skip
       have y31:=g9.lt;have q31:=f _ f4;have s8:=qb e5.symm;have g31:p.heap.size≤d7:=by rw[←e5];exact P.size
       clear e5 o4
       try go_wp2_with ((with_reducible first|rfl|refine' ut ?_ ?_;rotate_left|refine' uu ?_)<;>intros)
       obtain⟨s4,r7,o5,u6,h5,x4,z32⟩:=qcq q0 #[.string (zc 1 1),.string (zc n 8),.string (strOfNums h),.string (qf5 r 4)];have c3:=f4.trans h5;have y32:=f4.size;have u2:=g9.new h5;have a32:=g9.lt;rw[o5,u6]
       first | refine⟨f _ c3,?_⟩ | skip
       clear h5 o5;have q32:=f _ c3
       try go_wp2_with ((with_reducible first|rfl|refine' ut ?_ ?_;rotate_left|refine' uu ?_)<;>intros)
       have m:=hA s4 r7 c3 (by omega) x4;refine m.mono ?_;rintro e d2 ⟨rfl,v8,f8⟩;have y2:Upd S p d2:=(c3.mono (fun _ _ h=>h.elim)).trans f8;have x33:=c3.size;have y33:=f8.size;have k7:=u2.upd f8 (fun e=>by have:=z _ e;omega);clear m f8;have O:=k7.stOk v;have l5:=k7.put v;have j1:Upd (· = d7) d2 _:=qx (w:=d2) (b:=d7) V.cells;have J:=qb (And.intro l5 (And.intro j1 (And.intro v8 y2)));have z7:=j1.size;clear l5 j1
       try go_wp2_with ((with_reducible first|rfl|refine' ut ?_ ?_;rotate_left|refine' uu ?_)<;>intros)
       go_meet
       case rel =>
        obtain⟨c,x,l,u⟩:=qa J;have E:=qa s8;exact⟨d7,rfl,rfl,c,qbu l x z (by omega) (by omega) (by omega),u.then x (fun i hi e=>by omega),by omega⟩
      ·skip
       try go_wp2_with ((with_reducible first|rfl|refine' ut ?_ ?_;rotate_left|refine' uu ?_)<;>intros)
       obtain⟨j4,g8,o6,u8,p4,p5,y8⟩:=qcq c7 #[.string (zc 1 1),.string (zc n 8),.string (strOfNums h),.string (qf5 r 4)];have M:=P.trans p4;have y35:=P.size;rw[o6,u8]
       first | refine⟨f _ M,?_⟩ | skip
       clear p4 o6;have q35:=f _ M;refine qf ?_ ?_
       ·skip
        try go_wp2_with ((with_reducible first|rfl|refine' ut ?_ ?_;rotate_left|refine' uu ?_)<;>intros)
        obtain⟨d8,q7,o7,e7,h6,k8⟩:=qdn g8;rw[o7,e7];have c4:=M.trans h6
        first | refine⟨f _ c4,?_⟩ | skip
        have y36:=k8.lt;have q36:=f _ c4;have x5:=h6.old p5 (fun h=>h);have z36:=Nat.lt_of_lt_of_le y8 h6.size;have s9:=qb e7.symm;have g36:p.heap.size≤d8:=by rw[←e7];exact M.size
        clear e7 o7
        try go_wp2_with ((with_reducible first|rfl|refine' ut ?_ ?_;rotate_left|refine' uu ?_)<;>intros)
        have m:=hA j4 q7 c4 (by omega) x5;refine m.mono ?_;rintro e d3 ⟨rfl,w0,v37⟩;have y3:Upd S p d3:=(c4.mono (fun _ _ h=>h.elim)).trans v37;have x37:=c4.size;have y37:=v37.size;have k9:=k8.upd v37 (fun e=>by have:=z _ e;omega);clear m v37;have O:=k9.stOk v;have l6:=k9.put v;have j2:Upd (· = d8) d3 _:=qx (w:=d3) (b:=d8) V.cells;have J:=qb (And.intro l6 (And.intro j2 (And.intro w0 y3)));have z8:=j2.size;clear l6 j2
        try go_wp2_with ((with_reducible first|rfl|refine' ut ?_ ?_;rotate_left|refine' uu ?_)<;>intros)
        go_meet
        case rel =>
         obtain⟨c,x,l,u⟩:=qa J;have E:=qa s9;exact⟨d8,rfl,rfl,c,qbu l x z (by omega) (by omega) (by omega),u.then x (fun i hi e=>by omega),by omega⟩
       ·skip
        try go_wp2_with ((with_reducible first|rfl|refine' ut ?_ ?_;rotate_left|refine' uu ?_)<;>intros)
        have m:=hA j4 g8 M (by omega) p5;refine m.mono ?_;rintro e C ⟨rfl,w1,i4⟩;have p6:Upd S p C:=(M.mono (fun _ _ h=>h.elim)).trans i4;have x39:=M.size;have y39:=i4.size;clear m i4
        try go_wp2_with ((with_reducible first|rfl|refine' ut ?_ ?_;rotate_left|refine' uu ?_)<;>intros)
        have f0:qu C (C.alloc (.cells MsgV.zero.cells.toArray 101)):=((Upd.refl _ _).alloc _);have e0:MsB (C.alloc (.cells MsgV.zero.cells.toArray 101)) C.heap.size MsgV.zero:=qan C MsgV.zero ql;obtain⟨d9,e8⟩:∃K,K=C.heap.size:=⟨_,rfl⟩;have h1:=w1.new f0;have i3:=p6.trans (f0.mono (fun _ _ h=>h.elim));have r8:=f0.size;generalize (C.alloc (.cells MsgV.zero.cells.toArray 101))=g0 at f0 e0 h1 i3 r8 ⊢
        first | refine⟨u9 _ _ h1 i3,?_⟩ | skip
        rw[←e8] at e0 r8 ⊢;have t1:=qb e8;have g40:p.heap.size≤d9:=by rw[e8];exact p6.size
        clear e8;have O:=e0.stOk v;have l8:=e0.put v;have j3:Upd (· = d9) g0 _:=qx (w:=g0) (b:=d9) V.cells;have J:=qb (And.intro l8 (And.intro j3 (And.intro h1 i3)));have xx41:=j3.size;clear l8 j3
        try go_wp2_with ((with_reducible first|rfl|refine' ut ?_ ?_;rotate_left|refine' uu ?_)<;>intros)
        go_meet
        case rel =>
         obtain⟨c,x,l,u⟩:=qa J;have E:=qa t1;exact⟨d9,rfl,rfl,c,qi2 l x z (by omega) (by omega) (by omega),u.then x (fun i hi e=>by omega),by omega⟩
 case rest =>
  obtain⟨K,rfl,rfl,hM,n0,u,hK⟩:=hcut;obtain⟨w3,rfl⟩:∃w3:World,w3=wc:=⟨_,rfl⟩;have hid:=hM.cells.2.2.1;have J:=qb (And.intro n0 u);clear n0 u hM hA;go_wp2_with ((with_reducible first|rfl|refine' ut ?_ ?_;rotate_left|refine' uu ?_)<;>intros);go_ret2;exact⟨rfl,((qa J).1.s).later (qa j5).size,((qa j5).mono (fun _ _ h=>h.elim)).trans (qa J).2⟩
end Go.Proofs.YtfmkdoachjgjbaaGreatDoor
