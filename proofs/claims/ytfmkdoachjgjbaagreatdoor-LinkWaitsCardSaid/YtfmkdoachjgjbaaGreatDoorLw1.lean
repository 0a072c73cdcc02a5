/-
  A link: numbers of any size; Fulfill and Fail, whatever act does.
-/
import Derived.Test.YtfmkdoachjgjbaaGreatDoorMbj
import Derived.Test.YtfmkdoachjgjbaaGreatDoorMbi
set_option maxRecDepth 100000
set_option maxHeartbeats 8000000
set_option linter.unusedVariables false
set_option linter.unusedSimpArgs false
namespace Go.Proofs.YtfmkdoachjgjbaaGreatDoor
open Go.RowKit
theorem quy(g n f:Nat)(s:ByteArray)(w:World)(N:Wr w g s)(I:1≤f)(J:f≤7)(q:2 ^ (8*f)≤n)(i:n<18446744073709551616) :
  Calls Tryz.prog 92 #[.pointer (some ⟨g,0,none⟩),.int .u64 n,.int .i64 f] w fun e w'=>e = .returned (.int .i64 1)∧qu w w':=by
 have L:(8*(f:Int)).toNat=8*f:=by omega
 have v:(1:Int)≤f:=by omega
 have z:(f:Int)≤8:=by omega
 have F:decide ((f:Int)<1)=false:=by simp;omega
 have E:decide ((8:Int)<(f:Int))=false:=by simp;omega
 have p:¬(f:Int)<1:=by omega
 have m:¬(8:Int)<(f:Int):=by omega
 have O:1≤(n:Int) / 2 ^ (8*f):=by
  have C:(0:Int)<2 ^ (8*f):=Int.pow_pos (by decide);rw[Int.le_ediv_iff_mul_le C,Int.one_mul];exact_mod_cast q
 have H:(n:Int) / 2 ^ (8*f)<18446744073709551616:=Int.lt_of_le_of_lt (Int.ediv_le_self _ (by omega)) (by omega)
 have K:IntKind.u64.wrap ((n:Int) / 2 ^ (8*f))=(n:Int) / 2 ^ (8*f):=by rw[IntKind.wrap_u64];omega
 generalize M:(n:Int) / 2 ^ (8*f)=Q at *
 have P:(Q != 0)=true:=by simp;omega
 clear q i
 go_enter Tryz.func92,Tryz.ntmps92
 go_wp2_with fail
 go_ret
 exact⟨rfl,Upd.refl _ _⟩
def qf5(n f:Nat):ByteArray:=if n<2 ^ (8*f) then zc n f else ⟨#[]⟩
theorem q2f(n f:Nat):(qf5 n f).size≤f:=by
 unfold qf5;split
 ·rw[qak];exact Nat.le_refl _
 ·exact Nat.zero_le _
theorem qdu(n f:Nat)(w:World)(m:1≤f)(q:f≤8)(z:n<18446744073709551616) :
  Calls Tryz.prog 48 #[.int .u64 n,.int .i64 f] w (qa1 (.string (qf5 n f)) w):=by
 by_cases h:n<2 ^ (8*f)
 ·unfold qf5;rw[if_pos h];exact qbi n f w m q h
 ·have v:f≤7:=by
   rcases (by omega:f≤7∨f=8) with v | rfl
   ·exact v
   ·exact absurd z (by simpa using h)
  unfold qf5;rw[if_neg h];go_enter Tryz.func48,Tryz.ntmps48;go_upto_region 2 with fail;have b1:Wr (w.alloc (.cells #[.string ⟨#[]⟩] 174)) w.heap.size ⟨#[]⟩:=qh _ _;have p:qu w (w.alloc (.cells #[.string ⟨#[]⟩] 174)):=(Upd.refl _ _).alloc _;generalize w.alloc (.cells #[.string ⟨#[]⟩] 174)=w1 at b1 p ⊢;generalize H:w.heap.size=B at b1 ⊢;have i:=quy B n f ⟨#[]⟩ w1 b1 m v (by omega) z;have E:=qb (And.intro b1 p);clear b1 p H h m q z v;go_wp2_with fail;refine i.mono ?_;rintro e I ⟨rfl,C⟩;obtain⟨b1,p⟩:=qa E;have b2:=b1.new C;have F:=qb (p.trans C);clear i b1 p C E;go_wp2_with fail;refine(qfx _ _ _ b2).mono ?_;rintro e J ⟨rfl,rfl⟩;go_wp2_with fail;go_ret;exact⟨rfl,qa F⟩
attribute [local go_sem ↓ high] qy qz zb zf qae zl
attribute [local go_sem] qas qat qax qv zx qck qbf
theorem qsm(g:Nat)(S:Nat→Prop)(n:Nat)(h:List Int)(MM:MsgV)(er:Int)(LL:Lk)(sp en lo:Nat)(w:World)(d3:∀k,S k→k<w.heap.size)(hl:h.length=32)(f4:n<2 ^ (8*8))(z:MM.hash.length=32)
  (e4:∀O P R w3,qu w w3→w.heap.size≤O→w.heap.size≤P→w.heap.size≤R→w3.cell? ⟨O,0,none⟩=some (.pointer (some ⟨g,0,none⟩))→w3.cell? ⟨P,0,none⟩=some (.int .u64 (n:Int))→zj w3 R 0 32=some (qs h).toArray→∀B W,qu w3 W→w3.heap.size≤B→W.heap[B]? = some (.cells #[.string (zc 2 1),.string (zc n 8),.string (strOfNums h)] 9 (0,0))→Calls Tryz.prog 45 #[.pointer (some ⟨g,0,none⟩),.func (.func 54) #[] #[.pointer (some ⟨O,0,none⟩),.pointer (some ⟨P,0,none⟩),.pointer (some ⟨R,0,none⟩)],.slice (some ⟨B,0,none⟩) 3 3] W fun e W'=>e = .returned (.tuple #[.agg MM.cells.toArray,.int .i64 er])∧LkE W' g (Fr S W W') sp en lo LL∧Upd S W W') :
  Calls Tryz.prog 18 #[.pointer (some ⟨g,0,none⟩),.int .u64 (n:Int),.agg (qs h).toArray] w fun e w'=>e = .returned (.int .i64 er)∧LkS w' g (Fr S w w') LL∧Upd S w w':=by
 have u1:∀(fn:Fn) (first cap:Array Value) (w:World),(Instr.makeFunc fn first cap).run Tryz.prog w = .ok (.func fn first cap) w:=fun _ _ _ _=>rfl
 obtain⟨p,I⟩:∃p,p=((w.alloc (.cells #[.pointer (some ⟨g,0,none⟩)] 28)).alloc (.cells #[.int .u64 (n:Int)] 22)).alloc (.cells (qs h).toArray 35):=⟨_,rfl⟩
 have n4:qu w p:=by rw[I];exact((((Upd.refl _ _).alloc _).alloc _).alloc _)
 have M:p.cell? ⟨w.heap.size,0,none⟩=some (.pointer (some ⟨g,0,none⟩)):=by
  rw[I];exact qg (qq (qq (qh _ _) _) _) 0
 have H:p.cell? ⟨w.heap.size+1,0,none⟩=some (.int .u64 (n:Int)):=by
  rw[I];have:=qh (w.alloc (.cells #[.pointer (some ⟨g,0,none⟩)] 28)) (.cells #[.int .u64 (n:Int)] 22);rw[World.size_alloc] at this;exact qg (qq this _) 0
 have F:zj p (w.heap.size+1+1) 0 32=some (qs h).toArray:=by
  rw[I];have:=qh ((w.alloc (.cells #[.pointer (some ⟨g,0,none⟩)] 28)).alloc (.cells #[.int .u64 (n:Int)] 22)) (.cells (qs h).toArray 35);rw[World.size_alloc,World.size_alloc] at this;exact qai this 32 (by rw[List.size_toArray,qaj,hl])
 go_enter Tryz.func18,Tryz.ntmps18
 go_upto_region 1 with fail
 rw[←I]
 have z4:w.heap.size+1+1<p.heap.size:=by rw[I];simp only[World.size_alloc];omega
 clear I
 obtain⟨O,j1⟩:∃X,X=w.heap.size:=⟨_,rfl⟩
 rw[←j1] at M H F z4 ⊢
 obtain⟨P,j2⟩:∃X,X=O+1:=⟨_,rfl⟩
 rw[←j2] at H F z4 ⊢
 obtain⟨R,j0⟩:∃X,X=P+1:=⟨_,rfl⟩
 rw[←j0] at F z4 ⊢
 have f3:¬S O∧¬S P∧¬S R:=⟨fun e=>by have:=d3 _ e;omega,fun e=>by have:=d3 _ e;omega,fun e=>by have:=d3 _ e;omega⟩
 have d4:w.heap.size≤O∧w.heap.size≤P∧w.heap.size≤R:=⟨by omega,by omega,by omega⟩
 have h4:=qb n4
 have C:∀k,S k→k<p.heap.size:=fun k e=>Nat.lt_of_lt_of_le (d3 k e) n4.size
 have hA:=fun B W (nW:qu p W) hB hr=>e4 O P R p n4 d4.1 d4.2.1 d4.2.2 M H F B W nW hB hr
 clear j1 j2 j0 z4 n4 e4 d4
 have c1:p.drew.cell? ⟨O,0,none⟩=some (.pointer (some ⟨g,0,none⟩))∧p.drew.cell? ⟨P,0,none⟩=some (.int .u64 (n:Int))∧zj p.drew R 0 32=some (qs h).toArray:=⟨M,H,F⟩
 have f:∀X,qu p X→X.cell? ⟨O,0,none⟩=some (.pointer (some ⟨g,0,none⟩))∧X.cell? ⟨P,0,none⟩=some (.int .u64 (n:Int))∧zj X R 0 32=some (qs h).toArray:=fun X q=>⟨q.cell M (fun h=>h),q.cell H (fun h=>h),qbc F q (fun h=>h)⟩
 have p1:∀X S',LkE X g S' sp en lo LL→Upd S p X→X.cell? ⟨O,0,none⟩=some (.pointer (some ⟨g,0,none⟩))∧X.cell? ⟨P,0,none⟩=some (.int .u64 (n:Int))∧zj X R 0 32=some (qs h).toArray:=fun X S' _ q=>⟨q.cell M f3.1,q.cell H f3.2.1,qbc F q f3.2.2⟩
 have u2:qu p p.drew:=(Upd.refl _ _).drew
 clear M H F
 go_cut [7,8] from 9 to 20 (fun kv ev wx=>∃K,kv = .pointer (some ⟨K,0,none⟩)∧ev = .int .i64 er∧MsB wx K MM∧LkE wx g (Fr S p wx) sp en lo LL∧Upd S p wx∧p.heap.size≤K)
 case first =>
  refine qaw (fun w'=>w'.cell? ⟨O,0,none⟩=some (.pointer (some ⟨g,0,none⟩))∧w'.cell? ⟨P,0,none⟩=some (.int .u64 (n:Int))∧zj w' R 0 32=some (qs h).toArray) [0,3,5] (.fork (.of [12,0,1,2,3,4,5,6,7,8,9,10,11,13,14]) (Plan.pre [0,1,2] (.fork (.of [12,3,4,5,6,7,8,9,10,11,13,14]) (Plan.pre [3,4] (.fork (.of [12,5,6,7,8,9,10,11,13,14]) (Plan.pre [5,6] (.fork (.of [12,7,8,9,10,11,13,14]) (Plan.pre [7] (.fork (.of [12,8,9,10,11,13,14]) (.of [8,9,10,11,12,13,14])))))))))) (by kernel_rfl) (by kernel_rfl) c1 ?_;simp only[Plan.of,Plan.pre];refine qf ?_ ?_
  ·skip
   try go_wp2_with ((with_reducible first|rfl|refine' ut ?_ ?_;rotate_left|refine' uu ?_)<;>intros)
   have m1:qu p (p.alloc (.cells MsgV.zero.cells.toArray 101)).drew:=((Upd.refl _ _).alloc _).drew;have b1:MsB (p.alloc (.cells MsgV.zero.cells.toArray 101)).drew p.heap.size MsgV.zero:=(qan p MsgV.zero ql).new (Upd.drew (Upd.refl (fun _=>False) _));obtain⟨K1,e1⟩:∃K,K=p.heap.size:=⟨_,rfl⟩;have n1:qu p (p.alloc (.cells MsgV.zero.cells.toArray 101)).drew:=m1
   first | refine⟨f _ n1,?_⟩ | skip
   have y1:=b1.lt;generalize (p.alloc (.cells MsgV.zero.cells.toArray 101)).drew=r7 at m1 b1 n1 y1 ⊢;have q1:=f _ n1;rw[←e1] at b1 y1 ⊢;have E1:=qb e1;have g1:p.heap.size≤K1:=by rw[e1];exact Nat.le_refl _
   clear e1
   try go_wp2_with ((with_reducible first|rfl|refine' ut ?_ ?_;rotate_left|refine' uu ?_)<;>intros)
   refine(qbi 2 1 r7 (by decide) (by decide) (by decide)).mono ?_;rintro e l4 ⟨rfl,m2⟩;have n2:qu p l4:=n1.trans m2;have b2:=b1.new m2;have q2:=f _ n2;go_wp2_with (first | ((with_reducible first|rfl|refine' ut ?_ ?_;rotate_left|refine' uu ?_)<;>intros) | refine⟨f _ n2,?_⟩);refine(qbi n 8 l4 (by decide) (by decide) f4).mono ?_;rintro e l5 ⟨rfl,m3⟩;have n3:qu p l5:=n2.trans m3;have b3:=b2.new m3;have q3:=f _ n3;go_wp2_with (first | ((with_reducible first|rfl|refine' ut ?_ ?_;rotate_left|refine' uu ?_)<;>intros) | refine⟨f _ n3,?_⟩);refine(qd9 h l5 hl).mono ?_;rintro e l7 ⟨rfl,m4⟩;have n4:qu p l7:=n3.trans m4;have b4:=b3.new m4;have q4:=f _ n4;go_wp2_with (first | ((with_reducible first|rfl|refine' ut ?_ ?_;rotate_left|refine' uu ?_)<;>intros) | refine⟨f _ n4,?_⟩);obtain⟨B5,r9,i5,e5,m5,r5,z5⟩:=qcq l7 #[.string (zc 2 1),.string (zc n 8),.string (strOfNums h)];have n5:=n4.trans m5;have y5:=n4.size;have b5:=b4.new m5;have a5:=b4.lt;rw[i5,e5]
   first | refine⟨f _ n5,?_⟩ | skip
   clear m5 i5;have q5:=f _ n5
   try go_wp2_with ((with_reducible first|rfl|refine' ut ?_ ?_;rotate_left|refine' uu ?_)<;>intros)
   have m:=hA B5 r9 n5 (by omega) r5;refine m.mono ?_;rintro e g6 ⟨rfl,l6,v6⟩;have u6:Upd S p g6:=(n5.mono (fun _ _ h=>h.elim)).trans v6;have x6:=n5.size;have y6:=v6.size;have b6:=b5.upd v6 (fun e=>by have:=C _ e;omega);clear m v6;have T:=b6.stOk z;have c7:=b6.put z;have x7:Upd (· = K1) g6 _:=qx (w:=g6) (b:=K1) MM.cells;have L:=qb (And.intro c7 (And.intro x7 (And.intro l6 u6)));have w9:=x7.size;clear c7 x7
   try go_wp2_with ((with_reducible first|rfl|refine' ut ?_ ?_;rotate_left|refine' uu ?_)<;>intros)
   go_meet
   case rel =>
    obtain⟨c,x,l,u⟩:=qa L;have E:=qa E1;exact⟨K1,rfl,rfl,c,qbu l x C (by omega) (by omega) (by omega),u.then x (fun i hi e=>by omega),by omega⟩
  ·skip
   try go_wp2_with ((with_reducible first|rfl|refine' ut ?_ ?_;rotate_left|refine' uu ?_)<;>intros)
   refine(qbi 2 1 p.drew (by decide) (by decide) (by decide)).mono ?_;rintro e g5 ⟨rfl,m8⟩;replace m8:=m8.ofDrew;have n8:qu p g5:=m8;have q8:=f _ n8;go_wp2_with (first | ((with_reducible first|rfl|refine' ut ?_ ?_;rotate_left|refine' uu ?_)<;>intros) | refine⟨f _ n8,?_⟩);refine qf ?_ ?_
   ·skip
    try go_wp2_with ((with_reducible first|rfl|refine' ut ?_ ?_;rotate_left|refine' uu ?_)<;>intros)
    obtain⟨K9,r8,i9,e9,m9,b9⟩:=qdn g5;rw[i9,e9];have n9:=n8.trans m9
    first | refine⟨f _ n9,?_⟩ | skip
    have y9:=b9.lt;have q9:=f _ n9;have E9:=qb e9.symm;have g9:p.heap.size≤K9:=by rw[←e9];exact n8.size
    clear e9 i9
    try go_wp2_with ((with_reducible first|rfl|refine' ut ?_ ?_;rotate_left|refine' uu ?_)<;>intros)
    refine(qbi n 8 r8 (by decide) (by decide) f4).mono ?_;rintro e e7 ⟨rfl,k3⟩;have g0:qu p e7:=n9.trans k3;have o3:=b9.new k3;have u3:=f _ g0;go_wp2_with (first | ((with_reducible first|rfl|refine' ut ?_ ?_;rotate_left|refine' uu ?_)<;>intros) | refine⟨f _ g0,?_⟩);refine(qd9 h e7 hl).mono ?_;rintro e e8 ⟨rfl,k4⟩;have d6:qu p e8:=g0.trans k4;have h5:=o3.new k4;have u4:=f _ d6;go_wp2_with (first | ((with_reducible first|rfl|refine' ut ?_ ?_;rotate_left|refine' uu ?_)<;>intros) | refine⟨f _ d6,?_⟩);obtain⟨m7,l8,j4,o7,f6,q6,y7⟩:=qcq e8 #[.string (zc 2 1),.string (zc n 8),.string (strOfNums h)];have U:=d6.trans f6;have x0:=d6.size;have o4:=h5.new f6;have s8:=h5.lt;rw[j4,o7]
    first | refine⟨f _ U,?_⟩ | skip
    clear f6 j4;have u5:=f _ U
    try go_wp2_with ((with_reducible first|rfl|refine' ut ?_ ?_;rotate_left|refine' uu ?_)<;>intros)
    have m:=hA m7 l8 U (by omega) q6;refine m.mono ?_;rintro e b7 ⟨rfl,p2,d9⟩;have r2:Upd S p b7:=(U.mono (fun _ _ h=>h.elim)).trans d9;have w2:=U.size;have x1:=d9.size;have h6:=o4.upd d9 (fun e=>by have:=C _ e;omega);clear m d9;have T:=h6.stOk z;have i3:=h6.put z;have g7:Upd (· = K9) b7 _:=qx (w:=b7) (b:=K9) MM.cells;have L:=qb (And.intro i3 (And.intro g7 (And.intro p2 r2)));have s3:=g7.size;clear i3 g7
    try go_wp2_with ((with_reducible first|rfl|refine' ut ?_ ?_;rotate_left|refine' uu ?_)<;>intros)
    go_meet
    case rel =>
     obtain⟨c,x,l,u⟩:=qa L;have E:=qa E9;exact⟨K9,rfl,rfl,c,qbu l x C (by omega) (by omega) (by omega),u.then x (fun i hi e=>by omega),by omega⟩
   ·skip
    try go_wp2_with ((with_reducible first|rfl|refine' ut ?_ ?_;rotate_left|refine' uu ?_)<;>intros)
    refine(qbi n 8 g5 (by decide) (by decide) f4).mono ?_;rintro e a7 ⟨rfl,p7⟩;have V:qu p a7:=n8.trans p7;have u7:=f _ V;go_wp2_with (first | ((with_reducible first|rfl|refine' ut ?_ ?_;rotate_left|refine' uu ?_)<;>intros) | refine⟨f _ V,?_⟩);refine qf ?_ ?_
    ·skip
     try go_wp2_with ((with_reducible first|rfl|refine' ut ?_ ?_;rotate_left|refine' uu ?_)<;>intros)
     obtain⟨c3,k9,j5,c9,p8,h7⟩:=qdn a7;rw[j5,c9];have g2:=V.trans p8
     first | refine⟨f _ g2,?_⟩ | skip
     have x2:=h7.lt;have u8:=f _ g2;have n7:=qb c9.symm;have t2:p.heap.size≤c3:=by rw[←c9];exact V.size
     clear c9 j5
     try go_wp2_with ((with_reducible first|rfl|refine' ut ?_ ?_;rotate_left|refine' uu ?_)<;>intros)
     refine(qd9 h k9 hl).mono ?_;rintro e f0 ⟨rfl,k5⟩;have d7:qu p f0:=g2.trans k5;have h8:=h7.new k5;have u9:=f _ d7;go_wp2_with (first | ((with_reducible first|rfl|refine' ut ?_ ?_;rotate_left|refine' uu ?_)<;>intros) | refine⟨f _ d7,?_⟩);obtain⟨n0,l9,j6,o8,f7,q7,y8⟩:=qcq f0 #[.string (zc 2 1),.string (zc n 8),.string (strOfNums h)];have Y:=d7.trans f7;have x3:=d7.size;have o5:=h8.new f7;have s9:=h8.lt;rw[j6,o8]
     first | refine⟨f _ Y,?_⟩ | skip
     clear f7 j6;have v1:=f _ Y
     try go_wp2_with ((with_reducible first|rfl|refine' ut ?_ ?_;rotate_left|refine' uu ?_)<;>intros)
     have m:=hA n0 l9 Y (by omega) q7;refine m.mono ?_;rintro e b8 ⟨rfl,p3,e0⟩;have r3:Upd S p b8:=(Y.mono (fun _ _ h=>h.elim)).trans e0;have w5:=Y.size;have x4:=e0.size;have h9:=o5.upd e0 (fun e=>by have:=C _ e;omega);clear m e0;have T:=h9.stOk z;have i4:=h9.put z;have g8:Upd (· = c3) b8 _:=qx (w:=b8) (b:=c3) MM.cells;have L:=qb (And.intro i4 (And.intro g8 (And.intro p3 r3)));have s4:=g8.size;clear i4 g8
     try go_wp2_with ((with_reducible first|rfl|refine' ut ?_ ?_;rotate_left|refine' uu ?_)<;>intros)
     go_meet
     case rel =>
      obtain⟨c,x,l,u⟩:=qa L;have E:=qa n7;exact⟨c3,rfl,rfl,c,qbu l x C (by omega) (by omega) (by omega),u.then x (fun i hi e=>by omega),by omega⟩
    ·skip
     try go_wp2_with ((with_reducible first|rfl|refine' ut ?_ ?_;rotate_left|refine' uu ?_)<;>intros)
     refine(qd9 h a7 hl).mono ?_;rintro e a8 ⟨rfl,p9⟩;have N:qu p a8:=V.trans p9;have v2:=f _ N;go_wp2_with (first | ((with_reducible first|rfl|refine' ut ?_ ?_;rotate_left|refine' uu ?_)<;>intros) | refine⟨f _ N,?_⟩);refine qf ?_ ?_
     ·skip
      try go_wp2_with ((with_reducible first|rfl|refine' ut ?_ ?_;rotate_left|refine' uu ?_)<;>intros)
      obtain⟨c4,l0,j7,d0,q0,f2⟩:=qdn a8;rw[j7,d0];have d8:=N.trans q0
      first | refine⟨f _ d8,?_⟩ | skip
      have x5:=f2.lt;have v7:=f _ d8;have o0:=qb d0.symm;have t6:p.heap.size≤c4:=by rw[←d0];exact N.size
      clear d0 j7
      try go_wp2_with ((with_reducible first|rfl|refine' ut ?_ ?_;rotate_left|refine' uu ?_)<;>intros)
      obtain⟨n6,m0,j8,o9,f8,r0,z1⟩:=qcq l0 #[.string (zc 2 1),.string (zc n 8),.string (strOfNums h)];have Z:=d8.trans f8;have x8:=d8.size;have o6:=f2.new f8;have t1:=f2.lt;rw[j8,o9]
      first | refine⟨f _ Z,?_⟩ | skip
      clear f8 j8;have v8:=f _ Z
      try go_wp2_with ((with_reducible first|rfl|refine' ut ?_ ?_;rotate_left|refine' uu ?_)<;>intros)
      have m:=hA n6 m0 Z (by omega) r0;refine m.mono ?_;rintro e c0 ⟨rfl,p4,e2⟩;have r4:Upd S p c0:=(Z.mono (fun _ _ h=>h.elim)).trans e2;have w6:=Z.size;have x9:=e2.size;have i0:=o6.upd e2 (fun e=>by have:=C _ e;omega);clear m e2;have T:=i0.stOk z;have i6:=i0.put z;have h0:Upd (· = c4) c0 _:=qx (w:=c0) (b:=c4) MM.cells;have L:=qb (And.intro i6 (And.intro h0 (And.intro p4 r4)));have s5:=h0.size;clear i6 h0
      try go_wp2_with ((with_reducible first|rfl|refine' ut ?_ ?_;rotate_left|refine' uu ?_)<;>intros)
      go_meet
      case rel =>
       obtain⟨c,x,l,u⟩:=qa L;have E:=qa o0;exact⟨c4,rfl,rfl,c,qbu l x C (by omega) (by omega) (by omega),u.then x (fun i hi e=>by omega),by omega⟩
     ·skip
      try go_wp2_with ((with_reducible first|rfl|refine' ut ?_ ?_;rotate_left|refine' uu ?_)<;>intros)
      obtain⟨h3,f1,j9,p0,k6,k7,s0⟩:=qcq a8 #[.string (zc 2 1),.string (zc n 8),.string (strOfNums h)];have J:=N.trans k6;have y0:=N.size;rw[j9,p0]
      first | refine⟨f _ J,?_⟩ | skip
      clear k6 j9;have w0:=f _ J;refine qf ?_ ?_
      ·skip
       try go_wp2_with ((with_reducible first|rfl|refine' ut ?_ ?_;rotate_left|refine' uu ?_)<;>intros)
       obtain⟨c5,l3,k0,d1,f9,i1⟩:=qdn f1;rw[k0,d1];have a6:=J.trans f9
       first | refine⟨f _ a6,?_⟩ | skip
       have y2:=i1.lt;have w1:=f _ a6;have r1:=f9.old k7 (fun h=>h);have z2:=Nat.lt_of_lt_of_le s0 f9.size;have o1:=qb d1.symm;have t7:p.heap.size≤c5:=by rw[←d1];exact J.size
       clear d1 k0
       try go_wp2_with ((with_reducible first|rfl|refine' ut ?_ ?_;rotate_left|refine' uu ?_)<;>intros)
       have m:=hA h3 l3 a6 (by omega) r1;refine m.mono ?_;rintro e c2 ⟨rfl,p5,e3⟩;have r6:Upd S p c2:=(a6.mono (fun _ _ h=>h.elim)).trans e3;have w7:=a6.size;have y3:=e3.size;have i2:=i1.upd e3 (fun e=>by have:=C _ e;omega);clear m e3;have T:=i2.stOk z;have i7:=i2.put z;have h1:Upd (· = c5) c2 _:=qx (w:=c2) (b:=c5) MM.cells;have L:=qb (And.intro i7 (And.intro h1 (And.intro p5 r6)));have s6:=h1.size;clear i7 h1
       try go_wp2_with ((with_reducible first|rfl|refine' ut ?_ ?_;rotate_left|refine' uu ?_)<;>intros)
       go_meet
       case rel =>
        obtain⟨c,x,l,u⟩:=qa L;have E:=qa o1;exact⟨c5,rfl,rfl,c,qbu l x C (by omega) (by omega) (by omega),u.then x (fun i hi e=>by omega),by omega⟩
      ·skip
       try go_wp2_with ((with_reducible first|rfl|refine' ut ?_ ?_;rotate_left|refine' uu ?_)<;>intros)
       have m:=hA h3 f1 J (by omega) k7;refine m.mono ?_;rintro e v ⟨rfl,p6,g4⟩;have k8:Upd S p v:=(J.mono (fun _ _ h=>h.elim)).trans g4;have w8:=J.size;have y4:=g4.size;clear m g4
       try go_wp2_with ((with_reducible first|rfl|refine' ut ?_ ?_;rotate_left|refine' uu ?_)<;>intros)
       have d5:qu v (v.alloc (.cells MsgV.zero.cells.toArray 101)):=((Upd.refl _ _).alloc _);have c8:MsB (v.alloc (.cells MsgV.zero.cells.toArray 101)) v.heap.size MsgV.zero:=qan v MsgV.zero ql;obtain⟨c6,d2⟩:∃K,K=v.heap.size:=⟨_,rfl⟩;have f5:=p6.new d5;have g3:=k8.trans (d5.mono (fun _ _ h=>h.elim));have m6:=d5.size;generalize (v.alloc (.cells MsgV.zero.cells.toArray 101))=e6 at d5 c8 f5 g3 m6 ⊢
       first | refine⟨p1 _ _ f5 g3,?_⟩ | skip
       rw[←d2] at c8 m6 ⊢;have o2:=qb d2;have t8:p.heap.size≤c6:=by rw[d2];exact k8.size
       clear d2;have T:=c8.stOk z;have i8:=c8.put z;have h2:Upd (· = c6) e6 _:=qx (w:=e6) (b:=c6) MM.cells;have L:=qb (And.intro i8 (And.intro h2 (And.intro f5 g3)));have s7:=h2.size;clear i8 h2
       try go_wp2_with ((with_reducible first|rfl|refine' ut ?_ ?_;rotate_left|refine' uu ?_)<;>intros)
       go_meet
       case rel =>
        obtain⟨c,x,l,u⟩:=qa L;have E:=qa o2;exact⟨c6,rfl,rfl,c,qi2 l x C (by omega) (by omega) (by omega),u.then x (fun i hi e=>by omega),by omega⟩
 case rest =>
  obtain⟨K,rfl,rfl,hM,j3,u,hK⟩:=hcut;obtain⟨w3,rfl⟩:∃w3:World,w3=wc:=⟨_,rfl⟩;have u0:=hM.cells.2.2.1;have L:=qb (And.intro j3 u);clear j3 u hM hA;go_wp2_with ((with_reducible first|rfl|refine' ut ?_ ?_;rotate_left|refine' uu ?_)<;>intros);go_ret;exact⟨rfl,((qa L).1.s).later (qa h4).size,((qa h4).mono (fun _ _ h=>h.elim)).trans (qa L).2⟩
theorem q1r(g:Nat)(S:Nat→Prop)(n r:Nat)(x:Int)(MM:MsgV)(er:Int)(LL:Lk)(sp en lo:Nat)(w:World)(d3:∀k,S k→k<w.heap.size)(f4:n<2 ^ (8*8))(hr:r<18446744073709551616)(u2:IntKind.u64.wrap x=(r:Int))(z:MM.hash.length=32)
  (e4:∀O P R w3,qu w w3→w.heap.size≤O→w.heap.size≤P→w.heap.size≤R→w3.cell? ⟨O,0,none⟩=some (.pointer (some ⟨g,0,none⟩))→w3.cell? ⟨P,0,none⟩=some (.int .u64 (n:Int))→w3.cell? ⟨R,0,none⟩=some (.int .i64 x)→∀B W,qu w3 W→w3.heap.size≤B→W.heap[B]? = some (.cells #[.string (zc 3 1),.string (zc n 8),.string (qf5 r 2)] 9 (0,0))→Calls Tryz.prog 45 #[.pointer (some ⟨g,0,none⟩),.func (.func 52) #[] #[.pointer (some ⟨O,0,none⟩),.pointer (some ⟨P,0,none⟩),.pointer (some ⟨R,0,none⟩)],.slice (some ⟨B,0,none⟩) 3 3] W fun e W'=>e = .returned (.tuple #[.agg MM.cells.toArray,.int .i64 er])∧LkE W' g (Fr S W W') sp en lo LL∧Upd S W W') :
  Calls Tryz.prog 17 #[.pointer (some ⟨g,0,none⟩),.int .u64 (n:Int),.int .i64 x] w fun e w'=>e = .returned (.int .i64 er)∧LkS w' g (Fr S w w') LL∧Upd S w w':=by
 have u1:∀(fn:Fn) (first cap:Array Value) (w:World),(Instr.makeFunc fn first cap).run Tryz.prog w = .ok (.func fn first cap) w:=fun _ _ _ _=>rfl
 obtain⟨p,I⟩:∃p,p=((w.alloc (.cells #[.pointer (some ⟨g,0,none⟩)] 28)).alloc (.cells #[.int .u64 (n:Int)] 22)).alloc (.cells #[.int .i64 x] 3):=⟨_,rfl⟩
 have n4:qu w p:=by rw[I];exact((((Upd.refl _ _).alloc _).alloc _).alloc _)
 have M:p.cell? ⟨w.heap.size,0,none⟩=some (.pointer (some ⟨g,0,none⟩)):=by
  rw[I];exact qg (qq (qq (qh _ _) _) _) 0
 have H:p.cell? ⟨w.heap.size+1,0,none⟩=some (.int .u64 (n:Int)):=by
  rw[I];have:=qh (w.alloc (.cells #[.pointer (some ⟨g,0,none⟩)] 28)) (.cells #[.int .u64 (n:Int)] 22);rw[World.size_alloc] at this;exact qg (qq this _) 0
 have F:p.cell? ⟨w.heap.size+1+1,0,none⟩=some (.int .i64 x):=by
  rw[I];have:=qh ((w.alloc (.cells #[.pointer (some ⟨g,0,none⟩)] 28)).alloc (.cells #[.int .u64 (n:Int)] 22)) (.cells #[.int .i64 x] 3);rw[World.size_alloc,World.size_alloc] at this;exact qg this 0
 go_enter Tryz.func17,Tryz.ntmps17
 go_upto_region 1 with fail
 rw[←I]
 have z4:w.heap.size+1+1<p.heap.size:=by rw[I];simp only[World.size_alloc];omega
 clear I
 obtain⟨O,j0⟩:∃X,X=w.heap.size:=⟨_,rfl⟩
 rw[←j0] at M H F z4 ⊢
 obtain⟨P,j1⟩:∃X,X=O+1:=⟨_,rfl⟩
 rw[←j1] at H F z4 ⊢
 obtain⟨R,j2⟩:∃X,X=P+1:=⟨_,rfl⟩
 rw[←j2] at F z4 ⊢
 have f3:¬S O∧¬S P∧¬S R:=⟨fun e=>by have:=d3 _ e;omega,fun e=>by have:=d3 _ e;omega,fun e=>by have:=d3 _ e;omega⟩
 have d4:w.heap.size≤O∧w.heap.size≤P∧w.heap.size≤R:=⟨by omega,by omega,by omega⟩
 have h4:=qb n4
 have C:∀k,S k→k<p.heap.size:=fun k e=>Nat.lt_of_lt_of_le (d3 k e) n4.size
 have hA:=fun B W (nW:qu p W) hB hr=>e4 O P R p n4 d4.1 d4.2.1 d4.2.2 M H F B W nW hB hr
 clear j0 j1 j2 z4 n4 e4 d4
 have c1:p.drew.cell? ⟨O,0,none⟩=some (.pointer (some ⟨g,0,none⟩))∧p.drew.cell? ⟨P,0,none⟩=some (.int .u64 (n:Int))∧p.drew.cell? ⟨R,0,none⟩=some (.int .i64 x):=⟨M,H,F⟩
 have f:∀X,qu p X→X.cell? ⟨O,0,none⟩=some (.pointer (some ⟨g,0,none⟩))∧X.cell? ⟨P,0,none⟩=some (.int .u64 (n:Int))∧X.cell? ⟨R,0,none⟩=some (.int .i64 x):=fun X q=>⟨q.cell M (fun h=>h),q.cell H (fun h=>h),q.cell F (fun h=>h)⟩
 have p1:∀X S',LkE X g S' sp en lo LL→Upd S p X→X.cell? ⟨O,0,none⟩=some (.pointer (some ⟨g,0,none⟩))∧X.cell? ⟨P,0,none⟩=some (.int .u64 (n:Int))∧X.cell? ⟨R,0,none⟩=some (.int .i64 x):=fun X S' _ q=>⟨q.cell M f3.1,q.cell H f3.2.1,q.cell F f3.2.2⟩
 have u3:qu p p.drew:=(Upd.refl _ _).drew
 clear M H F
 go_cut [7,8] from 9 to 21 (fun kv ev wx=>∃K,kv = .pointer (some ⟨K,0,none⟩)∧ev = .int .i64 er∧MsB wx K MM∧LkE wx g (Fr S p wx) sp en lo LL∧Upd S p wx∧p.heap.size≤K)
 case first =>
  refine qaw (fun w'=>w'.cell? ⟨O,0,none⟩=some (.pointer (some ⟨g,0,none⟩))∧w'.cell? ⟨P,0,none⟩=some (.int .u64 (n:Int))∧w'.cell? ⟨R,0,none⟩=some (.int .i64 x)) [0,3,5,6] (.fork (.of [13,0,1,2,3,4,5,6,7,8,9,10,11,12,14,15]) (Plan.pre [0,1,2] (.fork (.of [13,3,4,5,6,7,8,9,10,11,12,14,15]) (Plan.pre [3,4] (.fork (.of [13,5,6,7,8,9,10,11,12,14,15]) (Plan.pre [5,6,7] (.fork (.of [13,8,9,10,11,12,14,15]) (Plan.pre [8] (.fork (.of [13,9,10,11,12,14,15]) (.of [9,10,11,12,13,14,15])))))))))) (by kernel_rfl) (by kernel_rfl) c1 ?_;simp only[Plan.of,Plan.pre];refine qf ?_ ?_
  ·skip
   try go_wp2_with ((with_reducible first|rfl|refine' ut ?_ ?_;rotate_left|refine' uu ?_)<;>intros)
   have m1:qu p (p.alloc (.cells MsgV.zero.cells.toArray 101)).drew:=((Upd.refl _ _).alloc _).drew;have b1:MsB (p.alloc (.cells MsgV.zero.cells.toArray 101)).drew p.heap.size MsgV.zero:=(qan p MsgV.zero ql).new (Upd.drew (Upd.refl (fun _=>False) _));obtain⟨K1,e1⟩:∃K,K=p.heap.size:=⟨_,rfl⟩;have n1:qu p (p.alloc (.cells MsgV.zero.cells.toArray 101)).drew:=m1
   first | refine⟨f _ n1,?_⟩ | skip
   have y1:=b1.lt;generalize (p.alloc (.cells MsgV.zero.cells.toArray 101)).drew=r7 at m1 b1 n1 y1 ⊢;have q1:=f _ n1;rw[←e1] at b1 y1 ⊢;have E1:=qb e1;have g1:p.heap.size≤K1:=by rw[e1];exact Nat.le_refl _
   clear e1
   try go_wp2_with ((with_reducible first|rfl|refine' ut ?_ ?_;rotate_left|refine' uu ?_)<;>intros)
   refine(qbi 3 1 r7 (by decide) (by decide) (by decide)).mono ?_;rintro e l4 ⟨rfl,m2⟩;have n2:qu p l4:=n1.trans m2;have b2:=b1.new m2;have q2:=f _ n2;go_wp2_with (first | ((with_reducible first|rfl|refine' ut ?_ ?_;rotate_left|refine' uu ?_)<;>intros) | refine⟨f _ n2,?_⟩);refine(qbi n 8 l4 (by decide) (by decide) f4).mono ?_;rintro e l5 ⟨rfl,m3⟩;have n3:qu p l5:=n2.trans m3;have b3:=b2.new m3;have q3:=f _ n3;go_wp2_with (first | ((with_reducible first|rfl|refine' ut ?_ ?_;rotate_left|refine' uu ?_)<;>intros) | refine⟨f _ n3,?_⟩);refine(qdu r 2 l5 (by decide) (by decide) hr).mono ?_;rintro e l7 ⟨rfl,m4⟩;have n4:qu p l7:=n3.trans m4;have b4:=b3.new m4;have q4:=f _ n4;go_wp2_with (first | ((with_reducible first|rfl|refine' ut ?_ ?_;rotate_left|refine' uu ?_)<;>intros) | refine⟨f _ n4,?_⟩);obtain⟨B5,r9,i5,e5,m5,r5,z5⟩:=qcq l7 #[.string (zc 3 1),.string (zc n 8),.string (qf5 r 2)];have n5:=n4.trans m5;have y5:=n4.size;have b5:=b4.new m5;have a5:=b4.lt;rw[i5,e5]
   first | refine⟨f _ n5,?_⟩ | skip
   clear m5 i5;have q5:=f _ n5
   try go_wp2_with ((with_reducible first|rfl|refine' ut ?_ ?_;rotate_left|refine' uu ?_)<;>intros)
   have m:=hA B5 r9 n5 (by omega) r5;refine m.mono ?_;rintro e g6 ⟨rfl,l6,v6⟩;have u6:Upd S p g6:=(n5.mono (fun _ _ h=>h.elim)).trans v6;have x6:=n5.size;have y6:=v6.size;have b6:=b5.upd v6 (fun e=>by have:=C _ e;omega);clear m v6;have T:=b6.stOk z;have c7:=b6.put z;have x7:Upd (· = K1) g6 _:=qx (w:=g6) (b:=K1) MM.cells;have L:=qb (And.intro c7 (And.intro x7 (And.intro l6 u6)));have x0:=x7.size;clear c7 x7
   try go_wp2_with ((with_reducible first|rfl|refine' ut ?_ ?_;rotate_left|refine' uu ?_)<;>intros)
   go_meet
   case rel =>
    obtain⟨c,x,l,u⟩:=qa L;have E:=qa E1;exact⟨K1,rfl,rfl,c,qbu l x C (by omega) (by omega) (by omega),u.then x (fun i hi e=>by omega),by omega⟩
  ·skip
   try go_wp2_with ((with_reducible first|rfl|refine' ut ?_ ?_;rotate_left|refine' uu ?_)<;>intros)
   refine(qbi 3 1 p.drew (by decide) (by decide) (by decide)).mono ?_;rintro e g5 ⟨rfl,m8⟩;replace m8:=m8.ofDrew;have n8:qu p g5:=m8;have q8:=f _ n8;go_wp2_with (first | ((with_reducible first|rfl|refine' ut ?_ ?_;rotate_left|refine' uu ?_)<;>intros) | refine⟨f _ n8,?_⟩);refine qf ?_ ?_
   ·skip
    try go_wp2_with ((with_reducible first|rfl|refine' ut ?_ ?_;rotate_left|refine' uu ?_)<;>intros)
    obtain⟨K9,r8,i9,e9,m9,b9⟩:=qdn g5;rw[i9,e9];have n9:=n8.trans m9
    first | refine⟨f _ n9,?_⟩ | skip
    have y9:=b9.lt;have q9:=f _ n9;have E9:=qb e9.symm;have g9:p.heap.size≤K9:=by rw[←e9];exact n8.size
    clear e9 i9
    try go_wp2_with ((with_reducible first|rfl|refine' ut ?_ ?_;rotate_left|refine' uu ?_)<;>intros)
    refine(qbi n 8 r8 (by decide) (by decide) f4).mono ?_;rintro e e7 ⟨rfl,k3⟩;have g0:qu p e7:=n9.trans k3;have o3:=b9.new k3;have u4:=f _ g0;go_wp2_with (first | ((with_reducible first|rfl|refine' ut ?_ ?_;rotate_left|refine' uu ?_)<;>intros) | refine⟨f _ g0,?_⟩);refine(qdu r 2 e7 (by decide) (by decide) hr).mono ?_;rintro e e8 ⟨rfl,k4⟩;have d6:qu p e8:=g0.trans k4;have h5:=o3.new k4;have u5:=f _ d6;go_wp2_with (first | ((with_reducible first|rfl|refine' ut ?_ ?_;rotate_left|refine' uu ?_)<;>intros) | refine⟨f _ d6,?_⟩);obtain⟨m7,l8,j4,o7,f6,q6,y8⟩:=qcq e8 #[.string (zc 3 1),.string (zc n 8),.string (qf5 r 2)];have U:=d6.trans f6;have x1:=d6.size;have o4:=h5.new f6;have s8:=h5.lt;rw[j4,o7]
    first | refine⟨f _ U,?_⟩ | skip
    clear f6 j4;have u7:=f _ U
    try go_wp2_with ((with_reducible first|rfl|refine' ut ?_ ?_;rotate_left|refine' uu ?_)<;>intros)
    have m:=hA m7 l8 U (by omega) q6;refine m.mono ?_;rintro e b7 ⟨rfl,p2,d9⟩;have r2:Upd S p b7:=(U.mono (fun _ _ h=>h.elim)).trans d9;have w5:=U.size;have x2:=d9.size;have h6:=o4.upd d9 (fun e=>by have:=C _ e;omega);clear m d9;have T:=h6.stOk z;have i3:=h6.put z;have g7:Upd (· = K9) b7 _:=qx (w:=b7) (b:=K9) MM.cells;have L:=qb (And.intro i3 (And.intro g7 (And.intro p2 r2)));have s3:=g7.size;clear i3 g7
    try go_wp2_with ((with_reducible first|rfl|refine' ut ?_ ?_;rotate_left|refine' uu ?_)<;>intros)
    go_meet
    case rel =>
     obtain⟨c,x,l,u⟩:=qa L;have E:=qa E9;exact⟨K9,rfl,rfl,c,qbu l x C (by omega) (by omega) (by omega),u.then x (fun i hi e=>by omega),by omega⟩
   ·skip
    try go_wp2_with ((with_reducible first|rfl|refine' ut ?_ ?_;rotate_left|refine' uu ?_)<;>intros)
    refine(qbi n 8 g5 (by decide) (by decide) f4).mono ?_;rintro e a7 ⟨rfl,p7⟩;have V:qu p a7:=n8.trans p7;have u8:=f _ V;go_wp2_with (first | ((with_reducible first|rfl|refine' ut ?_ ?_;rotate_left|refine' uu ?_)<;>intros) | refine⟨f _ V,?_⟩);refine qf ?_ ?_
    ·skip
     try go_wp2_with ((with_reducible first|rfl|refine' ut ?_ ?_;rotate_left|refine' uu ?_)<;>intros)
     obtain⟨c3,k9,j5,c9,p8,h7⟩:=qdn a7;rw[j5,c9];have g2:=V.trans p8
     first | refine⟨f _ g2,?_⟩ | skip
     have x3:=h7.lt;have u9:=f _ g2;have n7:=qb c9.symm;have t2:p.heap.size≤c3:=by rw[←c9];exact V.size
     clear c9 j5
     try go_wp2_with ((with_reducible first|rfl|refine' ut ?_ ?_;rotate_left|refine' uu ?_)<;>intros)
     refine(qdu r 2 k9 (by decide) (by decide) hr).mono ?_;rintro e f0 ⟨rfl,k5⟩;have d7:qu p f0:=g2.trans k5;have h8:=h7.new k5;have v1:=f _ d7;go_wp2_with (first | ((with_reducible first|rfl|refine' ut ?_ ?_;rotate_left|refine' uu ?_)<;>intros) | refine⟨f _ d7,?_⟩);obtain⟨n0,l9,j6,o8,f7,q7,z1⟩:=qcq f0 #[.string (zc 3 1),.string (zc n 8),.string (qf5 r 2)];have Y:=d7.trans f7;have x4:=d7.size;have o5:=h8.new f7;have s9:=h8.lt;rw[j6,o8]
     first | refine⟨f _ Y,?_⟩ | skip
     clear f7 j6;have v2:=f _ Y
     try go_wp2_with ((with_reducible first|rfl|refine' ut ?_ ?_;rotate_left|refine' uu ?_)<;>intros)
     have m:=hA n0 l9 Y (by omega) q7;refine m.mono ?_;rintro e b8 ⟨rfl,p3,e0⟩;have r3:Upd S p b8:=(Y.mono (fun _ _ h=>h.elim)).trans e0;have w6:=Y.size;have x5:=e0.size;have h9:=o5.upd e0 (fun e=>by have:=C _ e;omega);clear m e0;have T:=h9.stOk z;have i4:=h9.put z;have g8:Upd (· = c3) b8 _:=qx (w:=b8) (b:=c3) MM.cells;have L:=qb (And.intro i4 (And.intro g8 (And.intro p3 r3)));have s4:=g8.size;clear i4 g8
     try go_wp2_with ((with_reducible first|rfl|refine' ut ?_ ?_;rotate_left|refine' uu ?_)<;>intros)
     go_meet
     case rel =>
      obtain⟨c,x,l,u⟩:=qa L;have E:=qa n7;exact⟨c3,rfl,rfl,c,qbu l x C (by omega) (by omega) (by omega),u.then x (fun i hi e=>by omega),by omega⟩
    ·skip
     try go_wp2_with ((with_reducible first|rfl|refine' ut ?_ ?_;rotate_left|refine' uu ?_)<;>intros)
     refine(qdu r 2 a7 (by decide) (by decide) hr).mono ?_;rintro e a8 ⟨rfl,p9⟩;have N:qu p a8:=V.trans p9;have v7:=f _ N;go_wp2_with (first | ((with_reducible first|rfl|refine' ut ?_ ?_;rotate_left|refine' uu ?_)<;>intros) | refine⟨f _ N,?_⟩);refine qf ?_ ?_
     ·skip
      try go_wp2_with ((with_reducible first|rfl|refine' ut ?_ ?_;rotate_left|refine' uu ?_)<;>intros)
      obtain⟨c4,l0,j7,d0,q0,f2⟩:=qdn a8;rw[j7,d0];have d8:=N.trans q0
      first | refine⟨f _ d8,?_⟩ | skip
      have x8:=f2.lt;have v8:=f _ d8;have o0:=qb d0.symm;have t6:p.heap.size≤c4:=by rw[←d0];exact N.size
      clear d0 j7
      try go_wp2_with ((with_reducible first|rfl|refine' ut ?_ ?_;rotate_left|refine' uu ?_)<;>intros)
      obtain⟨n6,m0,j8,o9,f8,r0,z2⟩:=qcq l0 #[.string (zc 3 1),.string (zc n 8),.string (qf5 r 2)];have Z:=d8.trans f8;have x9:=d8.size;have o6:=f2.new f8;have t1:=f2.lt;rw[j8,o9]
      first | refine⟨f _ Z,?_⟩ | skip
      clear f8 j8;have w0:=f _ Z
      try go_wp2_with ((with_reducible first|rfl|refine' ut ?_ ?_;rotate_left|refine' uu ?_)<;>intros)
      have m:=hA n6 m0 Z (by omega) r0;refine m.mono ?_;rintro e c0 ⟨rfl,p4,e2⟩;have r4:Upd S p c0:=(Z.mono (fun _ _ h=>h.elim)).trans e2;have w7:=Z.size;have y0:=e2.size;have i0:=o6.upd e2 (fun e=>by have:=C _ e;omega);clear m e2;have T:=i0.stOk z;have i6:=i0.put z;have h0:Upd (· = c4) c0 _:=qx (w:=c0) (b:=c4) MM.cells;have L:=qb (And.intro i6 (And.intro h0 (And.intro p4 r4)));have s5:=h0.size;clear i6 h0
      try go_wp2_with ((with_reducible first|rfl|refine' ut ?_ ?_;rotate_left|refine' uu ?_)<;>intros)
      go_meet
      case rel =>
       obtain⟨c,x,l,u⟩:=qa L;have E:=qa o0;exact⟨c4,rfl,rfl,c,qbu l x C (by omega) (by omega) (by omega),u.then x (fun i hi e=>by omega),by omega⟩
     ·skip
      try go_wp2_with ((with_reducible first|rfl|refine' ut ?_ ?_;rotate_left|refine' uu ?_)<;>intros)
      obtain⟨h3,f1,j9,p0,k6,k7,s0⟩:=qcq a8 #[.string (zc 3 1),.string (zc n 8),.string (qf5 r 2)];have J:=N.trans k6;have y2:=N.size;rw[j9,p0]
      first | refine⟨f _ J,?_⟩ | skip
      clear k6 j9;have w1:=f _ J;refine qf ?_ ?_
      ·skip
       try go_wp2_with ((with_reducible first|rfl|refine' ut ?_ ?_;rotate_left|refine' uu ?_)<;>intros)
       obtain⟨c5,l3,k0,d1,f9,i1⟩:=qdn f1;rw[k0,d1];have a6:=J.trans f9
       first | refine⟨f _ a6,?_⟩ | skip
       have y3:=i1.lt;have w2:=f _ a6;have r1:=f9.old k7 (fun h=>h);have z6:=Nat.lt_of_lt_of_le s0 f9.size;have o1:=qb d1.symm;have t7:p.heap.size≤c5:=by rw[←d1];exact J.size
       clear d1 k0
       try go_wp2_with ((with_reducible first|rfl|refine' ut ?_ ?_;rotate_left|refine' uu ?_)<;>intros)
       have m:=hA h3 l3 a6 (by omega) r1;refine m.mono ?_;rintro e c2 ⟨rfl,p5,e3⟩;have r6:Upd S p c2:=(a6.mono (fun _ _ h=>h.elim)).trans e3;have w8:=a6.size;have y4:=e3.size;have i2:=i1.upd e3 (fun e=>by have:=C _ e;omega);clear m e3;have T:=i2.stOk z;have i7:=i2.put z;have h1:Upd (· = c5) c2 _:=qx (w:=c2) (b:=c5) MM.cells;have L:=qb (And.intro i7 (And.intro h1 (And.intro p5 r6)));have s6:=h1.size;clear i7 h1
       try go_wp2_with ((with_reducible first|rfl|refine' ut ?_ ?_;rotate_left|refine' uu ?_)<;>intros)
       go_meet
       case rel =>
        obtain⟨c,x,l,u⟩:=qa L;have E:=qa o1;exact⟨c5,rfl,rfl,c,qbu l x C (by omega) (by omega) (by omega),u.then x (fun i hi e=>by omega),by omega⟩
      ·skip
       try go_wp2_with ((with_reducible first|rfl|refine' ut ?_ ?_;rotate_left|refine' uu ?_)<;>intros)
       have m:=hA h3 f1 J (by omega) k7;refine m.mono ?_;rintro e v ⟨rfl,p6,g4⟩;have k8:Upd S p v:=(J.mono (fun _ _ h=>h.elim)).trans g4;have w9:=J.size;have y7:=g4.size;clear m g4
       try go_wp2_with ((with_reducible first|rfl|refine' ut ?_ ?_;rotate_left|refine' uu ?_)<;>intros)
       have d5:qu v (v.alloc (.cells MsgV.zero.cells.toArray 101)):=((Upd.refl _ _).alloc _);have c8:MsB (v.alloc (.cells MsgV.zero.cells.toArray 101)) v.heap.size MsgV.zero:=qan v MsgV.zero ql;obtain⟨c6,d2⟩:∃K,K=v.heap.size:=⟨_,rfl⟩;have f5:=p6.new d5;have g3:=k8.trans (d5.mono (fun _ _ h=>h.elim));have m6:=d5.size;generalize (v.alloc (.cells MsgV.zero.cells.toArray 101))=e6 at d5 c8 f5 g3 m6 ⊢
       first | refine⟨p1 _ _ f5 g3,?_⟩ | skip
       rw[←d2] at c8 m6 ⊢;have o2:=qb d2;have t8:p.heap.size≤c6:=by rw[d2];exact k8.size
       clear d2;have T:=c8.stOk z;have i8:=c8.put z;have h2:Upd (· = c6) e6 _:=qx (w:=e6) (b:=c6) MM.cells;have L:=qb (And.intro i8 (And.intro h2 (And.intro f5 g3)));have s7:=h2.size;clear i8 h2
       try go_wp2_with ((with_reducible first|rfl|refine' ut ?_ ?_;rotate_left|refine' uu ?_)<;>intros)
       go_meet
       case rel =>
        obtain⟨c,x,l,u⟩:=qa L;have E:=qa o2;exact⟨c6,rfl,rfl,c,qi2 l x C (by omega) (by omega) (by omega),u.then x (fun i hi e=>by omega),by omega⟩
 case rest =>
  obtain⟨K,rfl,rfl,hM,j3,u,hK⟩:=hcut;obtain⟨w3,rfl⟩:∃w3:World,w3=wc:=⟨_,rfl⟩;have u0:=hM.cells.2.2.1;have L:=qb (And.intro j3 u);clear j3 u hM hA;go_wp2_with ((with_reducible first|rfl|refine' ut ?_ ?_;rotate_left|refine' uu ?_)<;>intros);go_ret;exact⟨rfl,((qa L).1.s).later (qa h4).size,((qa h4).mono (fun _ _ h=>h.elim)).trans (qa L).2⟩
end Go.Proofs.YtfmkdoachjgjbaaGreatDoor
