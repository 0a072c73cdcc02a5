/-
  A link: Offer, whatever act does.
-/
import Derived.Test.YtfmkdoachjgjbaaGreatDoorLw1
set_option maxRecDepth 100000
set_option maxHeartbeats 8000000
set_option linter.unusedVariables false
set_option linter.unusedSimpArgs false
namespace Go.Proofs.YtfmkdoachjgjbaaGreatDoor
open Go.RowKit
attribute [local go_sem ↓ high] ze zf zg zj qak zl
attribute [local go_sem] qau qav qaw qy zz qck qa9
theorem qwq(g:Nat)(S:Nat→Prop)(n r:Nat)(h:List Int)(x:Int)(V:MsgV)(er:Int)(LL:Lk)(sp en lo:Nat)(w:World)(Z:∀k,S k→k<w.heap.size)(hl:h.length=32)(g8:n<2 ^ (8*8))(hr:r<18446744073709551616)(hwx:IntKind.u64.wrap x=(r:Int))(v:V.hash.length=32)
  (f7:∀T U R Y w3,qq w w3→w.heap.size≤T→w.heap.size≤U→w.heap.size≤R→w.heap.size≤Y→w3.cell? ⟨T,0,none⟩=some (.pointer (some ⟨g,0,none⟩))→w3.cell? ⟨U,0,none⟩=some (.int .u64 (n:Int))→zt w3 R 0 32=some (qw h).toArray→w3.cell? ⟨Y,0,none⟩=some (.int .i64 x)→∀B W,qq w3 W→w3.heap.size≤B→W.heap[B]? = some (.cells #[.string (zr 1 1),.string (zr n 8),.string (strOfNums h),.string (qi4 r 4)] 9 (0,0))→Calls Tryz.prog 45 #[.pointer (some ⟨g,0,none⟩),.func (.func 46) #[] #[.pointer (some ⟨T,0,none⟩),.pointer (some ⟨U,0,none⟩),.pointer (some ⟨R,0,none⟩),.pointer (some ⟨Y,0,none⟩)],.slice (some ⟨B,0,none⟩) 4 4] W fun e W'=>e = .returned (.tuple #[.agg V.cells.toArray,.int .i64 er])∧LkE W' g (Fr S W W') sp en lo LL∧Upd S W W') :
  Calls Tryz.prog 11 #[.pointer (some ⟨g,0,none⟩),.int .u64 (n:Int),.agg (qw h).toArray,.int .i64 x] w fun e w'=>e = .returned (.tuple #[.int .u64 V.id,.int .i64 er])∧LkS w' g (Fr S w w') LL∧Upd S w w':=by
 have hmf:∀(fn:Fn) (first cap:Array Value) (w:World),(Instr.makeFunc fn first cap).run Tryz.prog w = .ok (.func fn first cap) w:=fun _ _ _ _=>rfl
 obtain⟨t,H⟩:∃t,t=(((w.alloc (.cells #[.pointer (some ⟨g,0,none⟩)] 28)).alloc (.cells #[.int .u64 (n:Int)] 22)).alloc (.cells (qw h).toArray 35)).alloc (.cells #[.int .i64 x] 3):=⟨_,rfl⟩
 have n4:qq w t:=by rw[H];exact(((((Upd.refl _ _).alloc _).alloc _).alloc _).alloc _)
 have N:t.cell? ⟨w.heap.size,0,none⟩=some (.pointer (some ⟨g,0,none⟩)):=by
  rw[H];exact qk (qx (qx (qx (ql _ _) _) _) _) 0
 have J:t.cell? ⟨w.heap.size+1,0,none⟩=some (.int .u64 (n:Int)):=by
  rw[H];have:=ql (w.alloc (.cells #[.pointer (some ⟨g,0,none⟩)] 28)) (.cells #[.int .u64 (n:Int)] 22);rw[World.size_alloc] at this;exact qk (qx (qx this _) _) 0
 have D:zt t (w.heap.size+1+1) 0 32=some (qw h).toArray:=by
  rw[H];have:=ql ((w.alloc (.cells #[.pointer (some ⟨g,0,none⟩)] 28)).alloc (.cells #[.int .u64 (n:Int)] 22)) (.cells (qw h).toArray 35);rw[World.size_alloc,World.size_alloc] at this;exact qaj (qx this _) 32 (by rw[List.size_toArray,qal,hl])
 have C:t.cell? ⟨w.heap.size+1+1+1,0,none⟩=some (.int .i64 x):=by
  rw[H];have:=ql (((w.alloc (.cells #[.pointer (some ⟨g,0,none⟩)] 28)).alloc (.cells #[.int .u64 (n:Int)] 22)).alloc (.cells (qw h).toArray 35)) (.cells #[.int .i64 x] 3);rw[World.size_alloc,World.size_alloc,World.size_alloc] at this;exact qk this 0
 go_enter Tryz.func11,Tryz.ntmps11
 go_upto_region 1 with fail
 rw[←H]
 have z4:w.heap.size+1+1+1<t.heap.size:=by rw[H];simp only[World.size_alloc];omega
 clear H
 obtain⟨T,l3⟩:∃X,X=w.heap.size:=⟨_,rfl⟩
 rw[←l3] at N J D C z4 ⊢
 obtain⟨U,l4⟩:∃X,X=T+1:=⟨_,rfl⟩
 rw[←l4] at J D C z4 ⊢
 obtain⟨R,l2⟩:∃X,X=U+1:=⟨_,rfl⟩
 rw[←l2] at D C z4 ⊢
 obtain⟨Y,l5⟩:∃X,X=R+1:=⟨_,rfl⟩
 rw[←l5] at C z4 ⊢
 have e7:¬S T∧¬S U∧¬S R∧¬S Y:=⟨fun e=>by have:=Z _ e;omega,fun e=>by have:=Z _ e;omega,fun e=>by have:=Z _ e;omega,fun e=>by have:=Z _ e;omega⟩
 have a1:w.heap.size≤T∧w.heap.size≤U∧w.heap.size≤R∧w.heap.size≤Y:=⟨by omega,by omega,by omega,by omega⟩
 have j3:=qj n4
 have y:∀k,S k→k<t.heap.size:=fun k e=>Nat.lt_of_lt_of_le (Z k e) n4.size
 have hA:=fun B W (nW:qq t W) hB hr=>f7 T U R Y t n4 a1.1 a1.2.1 a1.2.2.1 a1.2.2.2 N J D C B W nW hB hr
 clear l3 l4 l2 l5 z4 n4 f7 a1
 have c1:t.drew.cell? ⟨T,0,none⟩=some (.pointer (some ⟨g,0,none⟩))∧t.drew.cell? ⟨U,0,none⟩=some (.int .u64 (n:Int))∧zt t.drew R 0 32=some (qw h).toArray∧t.drew.cell? ⟨Y,0,none⟩=some (.int .i64 x):=⟨N,J,D,C⟩
 have m:∀X,qq t X→X.cell? ⟨T,0,none⟩=some (.pointer (some ⟨g,0,none⟩))∧X.cell? ⟨U,0,none⟩=some (.int .u64 (n:Int))∧zt X R 0 32=some (qw h).toArray∧X.cell? ⟨Y,0,none⟩=some (.int .i64 x):=fun X q=>⟨q.cell N (fun h=>h),q.cell J (fun h=>h),qbg D q (fun h=>h),q.cell C (fun h=>h)⟩
 have u2:∀X S',LkE X g S' sp en lo LL→Upd S t X→X.cell? ⟨T,0,none⟩=some (.pointer (some ⟨g,0,none⟩))∧X.cell? ⟨U,0,none⟩=some (.int .u64 (n:Int))∧zt X R 0 32=some (qw h).toArray∧X.cell? ⟨Y,0,none⟩=some (.int .i64 x):=fun X S' _ q=>⟨q.cell N e7.1,q.cell J e7.2.1,qbg D q e7.2.2.1,q.cell C e7.2.2.2⟩
 have n00:qq t t.drew:=(Upd.refl _ _).drew
 clear N J D C
 go_cut [10,11] from 12 to 26 (fun kv ev wx=>∃K,kv = .pointer (some ⟨K,0,none⟩)∧ev = .int .i64 er∧MsB wx K V∧LkE wx g (Fr S t wx) sp en lo LL∧Upd S t wx∧t.heap.size≤K)
 case first =>
  refine qay (fun w'=>w'.cell? ⟨T,0,none⟩=some (.pointer (some ⟨g,0,none⟩))∧w'.cell? ⟨U,0,none⟩=some (.int .u64 (n:Int))∧zt w' R 0 32=some (qw h).toArray∧w'.cell? ⟨Y,0,none⟩=some (.int .i64 x)) [0,3,5,7,8] (.fork (.of [15,0,1,2,3,4,5,6,7,8,9,10,11,12,13,14,16,17]) (Plan.pre [0,1,2] (.fork (.of [15,3,4,5,6,7,8,9,10,11,12,13,14,16,17]) (Plan.pre [3,4] (.fork (.of [15,5,6,7,8,9,10,11,12,13,14,16,17]) (Plan.pre [5,6] (.fork (.of [15,7,8,9,10,11,12,13,14,16,17]) (Plan.pre [7,8,9] (.fork (.of [15,10,11,12,13,14,16,17]) (Plan.pre [10] (.fork (.of [15,11,12,13,14,16,17]) (.of [11,12,13,14,15,16,17])))))))))))) (by kernel_rfl) (by kernel_rfl) c1 ?_;simp only[Plan.of,Plan.pre];refine qf ?_ ?_
  ·skip
   try go_wp2_with ((with_reducible first|rfl|refine' ut ?_ ?_;rotate_left|refine' uu ?_)<;>intros)
   have m1:qq t (t.alloc (.cells MsgV.zero.cells.toArray 101)).drew:=((Upd.refl _ _).alloc _).drew;have b1:MsB (t.alloc (.cells MsgV.zero.cells.toArray 101)).drew t.heap.size MsgV.zero:=(qa6 t MsgV.zero qu).new (Upd.drew (Upd.refl (fun _=>False) _));obtain⟨K1,e1⟩:∃K,K=t.heap.size:=⟨_,rfl⟩;have n1:qq t (t.alloc (.cells MsgV.zero.cells.toArray 101)).drew:=m1
   first | refine⟨m _ n1,?_⟩ | skip
   have y1:=b1.lt;generalize (t.alloc (.cells MsgV.zero.cells.toArray 101)).drew=x6 at m1 b1 n1 y1 ⊢;have q1:=m _ n1;rw[←e1] at b1 y1 ⊢;have E1:=qj e1;have g1:t.heap.size≤K1:=by rw[e1];exact Nat.le_refl _
   clear e1
   try go_wp2_with ((with_reducible first|rfl|refine' ut ?_ ?_;rotate_left|refine' uu ?_)<;>intros)
   refine(qcy 1 1 x6 (by decide) (by decide) (by decide)).mono ?_;rintro e p8 ⟨rfl,m2⟩;have n2:qq t p8:=n1.trans m2;have b2:=b1.new m2;have q2:=m _ n2;go_wp2_with (first | ((with_reducible first|rfl|refine' ut ?_ ?_;rotate_left|refine' uu ?_)<;>intros) | refine⟨m _ n2,?_⟩);refine(qcy n 8 p8 (by decide) (by decide) g8).mono ?_;rintro e p9 ⟨rfl,m3⟩;have n3:qq t p9:=n2.trans m3;have b3:=b2.new m3;have q3:=m _ n3;go_wp2_with (first | ((with_reducible first|rfl|refine' ut ?_ ?_;rotate_left|refine' uu ?_)<;>intros) | refine⟨m _ n3,?_⟩);refine(qih h p9 hl).mono ?_;rintro e q0 ⟨rfl,m4⟩;have n4:qq t q0:=n3.trans m4;have b4:=b3.new m4;have q4:=m _ n4;go_wp2_with (first | ((with_reducible first|rfl|refine' ut ?_ ?_;rotate_left|refine' uu ?_)<;>intros) | refine⟨m _ n4,?_⟩);refine(qgc r 4 q0 (by decide) (by decide) hr).mono ?_;rintro e q7 ⟨rfl,m5⟩;have n5:qq t q7:=n4.trans m5;have b5:=b4.new m5;have q5:=m _ n5;go_wp2_with (first | ((with_reducible first|rfl|refine' ut ?_ ?_;rotate_left|refine' uu ?_)<;>intros) | refine⟨m _ n5,?_⟩);obtain⟨B6,x9,i6,e6,m6,r6,z6⟩:=qer q7 #[.string (zr 1 1),.string (zr n 8),.string (strOfNums h),.string (qi4 r 4)];have n6:=n5.trans m6;have y6:=n5.size;have b6:=b5.new m6;have a6:=b5.lt;rw[i6,e6]
   first | refine⟨m _ n6,?_⟩ | skip
   clear m6 i6;have q6:=m _ n6
   try go_wp2_with ((with_reducible first|rfl|refine' ut ?_ ?_;rotate_left|refine' uu ?_)<;>intros)
   have o:=hA B6 x9 n6 (by omega) r6;refine o.mono ?_;rintro e i4 ⟨rfl,l7,v7⟩;have u7:Upd S t i4:=(n6.mono (fun _ _ h=>h.elim)).trans v7;have x7:=n6.size;have y7:=v7.size;have b7:=b6.upd v7 (fun e=>by have:=y _ e;omega);clear o v7;have O:=b7.stOk v;have c8:=b7.put v;have x8:Upd (· = K1) i4 _:=zy (w:=i4) (b:=K1) V.cells;have I:=qj (And.intro c8 (And.intro x8 (And.intro l7 u7)));have xx8:=x8.size;clear c8 x8
   try go_wp2_with ((with_reducible first|rfl|refine' ut ?_ ?_;rotate_left|refine' uu ?_)<;>intros)
   go_meet
   case rel =>
    obtain⟨c,x,l,u⟩:=qg I;have E:=qg E1;exact⟨K1,rfl,rfl,c,qdm l x y (by omega) (by omega) (by omega),u.then x (fun i hi e=>by omega),by omega⟩
  ·skip
   try go_wp2_with ((with_reducible first|rfl|refine' ut ?_ ?_;rotate_left|refine' uu ?_)<;>intros)
   refine(qcy 1 1 t.drew (by decide) (by decide) (by decide)).mono ?_;rintro e i3 ⟨rfl,m9⟩;replace m9:=m9.ofDrew;have n9:qq t i3:=m9;have q9:=m _ n9;go_wp2_with (first | ((with_reducible first|rfl|refine' ut ?_ ?_;rotate_left|refine' uu ?_)<;>intros) | refine⟨m _ n9,?_⟩);refine qf ?_ ?_
   ·skip
    try go_wp2_with ((with_reducible first|rfl|refine' ut ?_ ?_;rotate_left|refine' uu ?_)<;>intros)
    obtain⟨d1,p3,l8,d8,v1,j4⟩:=qgv i3;rw[l8,d8];have h5:=n9.trans v1
    first | refine⟨m _ h5,?_⟩ | skip
    have y10:=j4.lt;have q10:=m _ h5;have r9:=qj d8.symm;have g10:t.heap.size≤d1:=by rw[←d8];exact n9.size
    clear d8 l8
    try go_wp2_with ((with_reducible first|rfl|refine' ut ?_ ?_;rotate_left|refine' uu ?_)<;>intros)
    refine(qcy n 8 p3 (by decide) (by decide) g8).mono ?_;rintro e f9 ⟨rfl,o4⟩;have h6:qq t f9:=h5.trans o4;have s5:=j4.new o4;have q11:=m _ h6;go_wp2_with (first | ((with_reducible first|rfl|refine' ut ?_ ?_;rotate_left|refine' uu ?_)<;>intros) | refine⟨m _ h6,?_⟩);refine(qih h f9 hl).mono ?_;rintro e g0 ⟨rfl,o5⟩;have h7:qq t g0:=h6.trans o5;have s6:=s5.new o5;have q12:=m _ h7;go_wp2_with (first | ((with_reducible first|rfl|refine' ut ?_ ?_;rotate_left|refine' uu ?_)<;>intros) | refine⟨m _ h7,?_⟩);refine(qgc r 4 g0 (by decide) (by decide) hr).mono ?_;rintro e g2 ⟨rfl,o6⟩;have e9:qq t g2:=h7.trans o6;have j5:=s6.new o6;have q13:=m _ e9;go_wp2_with (first | ((with_reducible first|rfl|refine' ut ?_ ?_;rotate_left|refine' uu ?_)<;>intros) | refine⟨m _ e9,?_⟩);obtain⟨r4,q8,l9,t6,h0,w5,z14⟩:=qer g2 #[.string (zr 1 1),.string (zr n 8),.string (strOfNums h),.string (qi4 r 4)];have a2:=e9.trans h0;have y14:=e9.size;have s7:=j5.new h0;have z1:=j5.lt;rw[l9,t6]
    first | refine⟨m _ a2,?_⟩ | skip
    clear h0 l9;have q14:=m _ a2
    try go_wp2_with ((with_reducible first|rfl|refine' ut ?_ ?_;rotate_left|refine' uu ?_)<;>intros)
    have o:=hA r4 q8 a2 (by omega) w5;refine o.mono ?_;rintro e c5 ⟨rfl,u3,f3⟩;have x0:Upd S t c5:=(a2.mono (fun _ _ h=>h.elim)).trans f3;have x15:=a2.size;have y15:=f3.size;have j6:=s7.upd f3 (fun e=>by have:=y _ e;omega);clear o f3;have O:=j6.stOk v;have k6:=j6.put v;have i5:Upd (· = d1) c5 _:=zy (w:=c5) (b:=d1) V.cells;have I:=qj (And.intro k6 (And.intro i5 (And.intro u3 x0)));have y2:=i5.size;clear k6 i5
    try go_wp2_with ((with_reducible first|rfl|refine' ut ?_ ?_;rotate_left|refine' uu ?_)<;>intros)
    go_meet
    case rel =>
     obtain⟨c,x,l,u⟩:=qg I;have E:=qg r9;exact⟨d1,rfl,rfl,c,qdm l x y (by omega) (by omega) (by omega),u.then x (fun i hi e=>by omega),by omega⟩
   ·skip
    try go_wp2_with ((with_reducible first|rfl|refine' ut ?_ ?_;rotate_left|refine' uu ?_)<;>intros)
    refine(qcy n 8 i3 (by decide) (by decide) g8).mono ?_;rintro e c2 ⟨rfl,v2⟩;have a7:qq t c2:=n9.trans v2;have q17:=m _ a7;go_wp2_with (first | ((with_reducible first|rfl|refine' ut ?_ ?_;rotate_left|refine' uu ?_)<;>intros) | refine⟨m _ a7,?_⟩);refine qf ?_ ?_
    ·skip
     try go_wp2_with ((with_reducible first|rfl|refine' ut ?_ ?_;rotate_left|refine' uu ?_)<;>intros)
     obtain⟨d2,p4,m0,d9,v6,j7⟩:=qgv c2;rw[m0,d9];have h8:=a7.trans v6
     first | refine⟨m _ h8,?_⟩ | skip
     have y18:=j7.lt;have q18:=m _ h8;have s0:=qj d9.symm;have g18:t.heap.size≤d2:=by rw[←d9];exact a7.size
     clear d9 m0
     try go_wp2_with ((with_reducible first|rfl|refine' ut ?_ ?_;rotate_left|refine' uu ?_)<;>intros)
     refine(qih h p4 hl).mono ?_;rintro e g3 ⟨rfl,o7⟩;have h9:qq t g3:=h8.trans o7;have s8:=j7.new o7;have q19:=m _ h9;go_wp2_with (first | ((with_reducible first|rfl|refine' ut ?_ ?_;rotate_left|refine' uu ?_)<;>intros) | refine⟨m _ h9,?_⟩);refine(qgc r 4 g3 (by decide) (by decide) hr).mono ?_;rintro e g4 ⟨rfl,o8⟩;have f0:qq t g4:=h9.trans o8;have j8:=s8.new o8;have q20:=m _ f0;go_wp2_with (first | ((with_reducible first|rfl|refine' ut ?_ ?_;rotate_left|refine' uu ?_)<;>intros) | refine⟨m _ f0,?_⟩);obtain⟨r5,r0,m7,t7,h1,w6,z21⟩:=qer g4 #[.string (zr 1 1),.string (zr n 8),.string (strOfNums h),.string (qi4 r 4)];have a8:=f0.trans h1;have y21:=f0.size;have s9:=j8.new h1;have z2:=j8.lt;rw[m7,t7]
     first | refine⟨m _ a8,?_⟩ | skip
     clear h1 m7;have q21:=m _ a8
     try go_wp2_with ((with_reducible first|rfl|refine' ut ?_ ?_;rotate_left|refine' uu ?_)<;>intros)
     have o:=hA r5 r0 a8 (by omega) w6;refine o.mono ?_;rintro e c6 ⟨rfl,u4,f4⟩;have x1:Upd S t c6:=(a8.mono (fun _ _ h=>h.elim)).trans f4;have x22:=a8.size;have y22:=f4.size;have j9:=s9.upd f4 (fun e=>by have:=y _ e;omega);clear o f4;have O:=j9.stOk v;have k7:=j9.put v;have i7:Upd (· = d2) c6 _:=zy (w:=c6) (b:=d2) V.cells;have I:=qj (And.intro k7 (And.intro i7 (And.intro u4 x1)));have y3:=i7.size;clear k7 i7
     try go_wp2_with ((with_reducible first|rfl|refine' ut ?_ ?_;rotate_left|refine' uu ?_)<;>intros)
     go_meet
     case rel =>
      obtain⟨c,x,l,u⟩:=qg I;have E:=qg s0;exact⟨d2,rfl,rfl,c,qdm l x y (by omega) (by omega) (by omega),u.then x (fun i hi e=>by omega),by omega⟩
    ·skip
     try go_wp2_with ((with_reducible first|rfl|refine' ut ?_ ?_;rotate_left|refine' uu ?_)<;>intros)
     refine(qih h c2 hl).mono ?_;rintro e c3 ⟨rfl,v8⟩;have b0:qq t c3:=a7.trans v8;have q24:=m _ b0;go_wp2_with (first | ((with_reducible first|rfl|refine' ut ?_ ?_;rotate_left|refine' uu ?_)<;>intros) | refine⟨m _ b0,?_⟩);refine qf ?_ ?_
     ·skip
      try go_wp2_with ((with_reducible first|rfl|refine' ut ?_ ?_;rotate_left|refine' uu ?_)<;>intros)
      obtain⟨d3,p5,m8,e2,w0,k0⟩:=qgv c3;rw[m8,e2];have i0:=b0.trans w0
      first | refine⟨m _ i0,?_⟩ | skip
      have y25:=k0.lt;have q25:=m _ i0;have s1:=qj e2.symm;have g25:t.heap.size≤d3:=by rw[←e2];exact b0.size
      clear e2 m8
      try go_wp2_with ((with_reducible first|rfl|refine' ut ?_ ?_;rotate_left|refine' uu ?_)<;>intros)
      refine(qgc r 4 p5 (by decide) (by decide) hr).mono ?_;rintro e g5 ⟨rfl,o9⟩;have f1:qq t g5:=i0.trans o9;have k1:=k0.new o9;have q26:=m _ f1;go_wp2_with (first | ((with_reducible first|rfl|refine' ut ?_ ?_;rotate_left|refine' uu ?_)<;>intros) | refine⟨m _ f1,?_⟩);obtain⟨r7,r1,n7,t8,h2,w7,z27⟩:=qer g5 #[.string (zr 1 1),.string (zr n 8),.string (strOfNums h),.string (qi4 r 4)];have b8:=f1.trans h2;have y27:=f1.size;have t1:=k1.new h2;have z7:=k1.lt;rw[n7,t8]
      first | refine⟨m _ b8,?_⟩ | skip
      clear h2 n7;have q27:=m _ b8
      try go_wp2_with ((with_reducible first|rfl|refine' ut ?_ ?_;rotate_left|refine' uu ?_)<;>intros)
      have o:=hA r7 r1 b8 (by omega) w7;refine o.mono ?_;rintro e c7 ⟨rfl,u5,f5⟩;have x2:Upd S t c7:=(b8.mono (fun _ _ h=>h.elim)).trans f5;have x28:=b8.size;have y28:=f5.size;have k2:=t1.upd f5 (fun e=>by have:=y _ e;omega);clear o f5;have O:=k2.stOk v;have k8:=k2.put v;have i8:Upd (· = d3) c7 _:=zy (w:=c7) (b:=d3) V.cells;have I:=qj (And.intro k8 (And.intro i8 (And.intro u5 x2)));have y4:=i8.size;clear k8 i8
      try go_wp2_with ((with_reducible first|rfl|refine' ut ?_ ?_;rotate_left|refine' uu ?_)<;>intros)
      go_meet
      case rel =>
       obtain⟨c,x,l,u⟩:=qg I;have E:=qg s1;exact⟨d3,rfl,rfl,c,qdm l x y (by omega) (by omega) (by omega),u.then x (fun i hi e=>by omega),by omega⟩
     ·skip
      try go_wp2_with ((with_reducible first|rfl|refine' ut ?_ ?_;rotate_left|refine' uu ?_)<;>intros)
      refine(qgc r 4 c3 (by decide) (by decide) hr).mono ?_;rintro e c4 ⟨rfl,w1⟩;have P:qq t c4:=b0.trans w1;have q30:=m _ P;go_wp2_with (first | ((with_reducible first|rfl|refine' ut ?_ ?_;rotate_left|refine' uu ?_)<;>intros) | refine⟨m _ P,?_⟩);refine qf ?_ ?_
      ·skip
       try go_wp2_with ((with_reducible first|rfl|refine' ut ?_ ?_;rotate_left|refine' uu ?_)<;>intros)
       obtain⟨d4,p6,o0,e3,w2,g7⟩:=qgv c4;rw[o0,e3];have f2:=P.trans w2
       first | refine⟨m _ f2,?_⟩ | skip
       have y31:=g7.lt;have q31:=m _ f2;have s2:=qj e3.symm;have g31:t.heap.size≤d4:=by rw[←e3];exact P.size
       clear e3 o0
       try go_wp2_with ((with_reducible first|rfl|refine' ut ?_ ?_;rotate_left|refine' uu ?_)<;>intros)
       obtain⟨r8,r2,o1,u0,h3,w8,z32⟩:=qer p6 #[.string (zr 1 1),.string (zr n 8),.string (strOfNums h),.string (qi4 r 4)];have b9:=f2.trans h3;have y32:=f2.size;have t2:=g7.new h3;have z8:=g7.lt;rw[o1,u0]
       first | refine⟨m _ b9,?_⟩ | skip
       clear h3 o1;have q32:=m _ b9
       try go_wp2_with ((with_reducible first|rfl|refine' ut ?_ ?_;rotate_left|refine' uu ?_)<;>intros)
       have o:=hA r8 r2 b9 (by omega) w8;refine o.mono ?_;rintro e c9 ⟨rfl,u6,f6⟩;have x3:Upd S t c9:=(b9.mono (fun _ _ h=>h.elim)).trans f6;have x33:=b9.size;have y33:=f6.size;have k3:=t2.upd f6 (fun e=>by have:=y _ e;omega);clear o f6;have O:=k3.stOk v;have k9:=k3.put v;have i9:Upd (· = d4) c9 _:=zy (w:=c9) (b:=d4) V.cells;have I:=qj (And.intro k9 (And.intro i9 (And.intro u6 x3)));have y5:=i9.size;clear k9 i9
       try go_wp2_with ((with_reducible first|rfl|refine' ut ?_ ?_;rotate_left|refine' uu ?_)<;>intros)
       go_meet
       case rel =>
        obtain⟨c,x,l,u⟩:=qg I;have E:=qg s2;exact⟨d4,rfl,rfl,c,qdm l x y (by omega) (by omega) (by omega),u.then x (fun i hi e=>by omega),by omega⟩
      ·skip
       try go_wp2_with ((with_reducible first|rfl|refine' ut ?_ ?_;rotate_left|refine' uu ?_)<;>intros)
       obtain⟨j2,g6,o2,u1,p0,p1,y0⟩:=qer c4 #[.string (zr 1 1),.string (zr n 8),.string (strOfNums h),.string (qi4 r 4)];have M:=P.trans p0;have y35:=P.size;rw[o2,u1]
       first | refine⟨m _ M,?_⟩ | skip
       clear p0 o2;have q35:=m _ M;refine qf ?_ ?_
       ·skip
        try go_wp2_with ((with_reducible first|rfl|refine' ut ?_ ?_;rotate_left|refine' uu ?_)<;>intros)
        obtain⟨d5,p7,o3,e4,h4,k4⟩:=qgv g6;rw[o3,e4];have c0:=M.trans h4
        first | refine⟨m _ c0,?_⟩ | skip
        have y36:=k4.lt;have q36:=m _ c0;have w9:=h4.old p1 (fun h=>h);have z36:=Nat.lt_of_lt_of_le y0 h4.size;have s3:=qj e4.symm;have g36:t.heap.size≤d5:=by rw[←e4];exact M.size
        clear e4 o3
        try go_wp2_with ((with_reducible first|rfl|refine' ut ?_ ?_;rotate_left|refine' uu ?_)<;>intros)
        have o:=hA j2 p7 c0 (by omega) w9;refine o.mono ?_;rintro e d0 ⟨rfl,u8,v37⟩;have x5:Upd S t d0:=(c0.mono (fun _ _ h=>h.elim)).trans v37;have x37:=c0.size;have y37:=v37.size;have k5:=k4.upd v37 (fun e=>by have:=y _ e;omega);clear o v37;have O:=k5.stOk v;have l0:=k5.put v;have j0:Upd (· = d5) d0 _:=zy (w:=d0) (b:=d5) V.cells;have I:=qj (And.intro l0 (And.intro j0 (And.intro u8 x5)));have y8:=j0.size;clear l0 j0
        try go_wp2_with ((with_reducible first|rfl|refine' ut ?_ ?_;rotate_left|refine' uu ?_)<;>intros)
        go_meet
        case rel =>
         obtain⟨c,x,l,u⟩:=qg I;have E:=qg s3;exact⟨d5,rfl,rfl,c,qdm l x y (by omega) (by omega) (by omega),u.then x (fun i hi e=>by omega),by omega⟩
       ·skip
        try go_wp2_with ((with_reducible first|rfl|refine' ut ?_ ?_;rotate_left|refine' uu ?_)<;>intros)
        have o:=hA j2 g6 M (by omega) p1;refine o.mono ?_;rintro e z ⟨rfl,u9,i2⟩;have p2:Upd S t z:=(M.mono (fun _ _ h=>h.elim)).trans i2;have x39:=M.size;have y39:=i2.size;clear o i2
        try go_wp2_with ((with_reducible first|rfl|refine' ut ?_ ?_;rotate_left|refine' uu ?_)<;>intros)
        have e8:qq z (z.alloc (.cells MsgV.zero.cells.toArray 101)):=((Upd.refl _ _).alloc _);have d7:MsB (z.alloc (.cells MsgV.zero.cells.toArray 101)) z.heap.size MsgV.zero:=qa6 z MsgV.zero qu;obtain⟨d6,e5⟩:∃K,K=z.heap.size:=⟨_,rfl⟩;have g9:=u9.new e8;have i1:=p2.trans (e8.mono (fun _ _ h=>h.elim));have r3:=e8.size;generalize (z.alloc (.cells MsgV.zero.cells.toArray 101))=f8 at e8 d7 g9 i1 r3 ⊢
        first | refine⟨u2 _ _ g9 i1,?_⟩ | skip
        rw[←e5] at d7 r3 ⊢;have s4:=qj e5;have g40:t.heap.size≤d6:=by rw[e5];exact p2.size
        clear e5;have O:=d7.stOk v;have l1:=d7.put v;have j1:Upd (· = d6) f8 _:=zy (w:=f8) (b:=d6) V.cells;have I:=qj (And.intro l1 (And.intro j1 (And.intro g9 i1)));have y9:=j1.size;clear l1 j1
        try go_wp2_with ((with_reducible first|rfl|refine' ut ?_ ?_;rotate_left|refine' uu ?_)<;>intros)
        go_meet
        case rel =>
         obtain⟨c,x,l,u⟩:=qg I;have E:=qg s4;exact⟨d6,rfl,rfl,c,qnu l x y (by omega) (by omega) (by omega),u.then x (fun i hi e=>by omega),by omega⟩
 case rest =>
  obtain⟨K,rfl,rfl,hM,l6,u,hK⟩:=hcut;obtain⟨w3,rfl⟩:∃w3:World,w3=wc:=⟨_,rfl⟩;have hid:=hM.cells.2.2.1;have I:=qj (And.intro l6 u);clear l6 u hM hA;go_wp2_with ((with_reducible first|rfl|refine' ut ?_ ?_;rotate_left|refine' uu ?_)<;>intros);go_ret2;exact⟨rfl,((qg I).1.s).later (qg j3).size,((qg j3).mono (fun _ _ h=>h.elim)).trans (qg I).2⟩
end Go.Proofs.YtfmkdoachjgjbaaGreatDoor
