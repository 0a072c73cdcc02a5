/-
  A link: numbers of any size; Fulfill and Fail, whatever act does.
-/
import Derived.Test.YtfmkdoachjgjbaaGreatDoorMcg
import Derived.Test.YtfmkdoachjgjbaaGreatDoorMce
set_option maxRecDepth 100000
set_option maxHeartbeats 8000000
set_option linter.unusedVariables false
set_option linter.unusedSimpArgs false
namespace Go.Proofs.YtfmkdoachjgjbaaGreatDoor
open Go.RowKit
theorem quy(g n f:Nat)(s:ByteArray)(w:World)(N:Wr w g s)(I:1≤f)(J:f≤7)(r:2 ^ (8*f)≤n)(i:n<18446744073709551616) :
  Calls Tryz.prog 92 #[.pointer (some ⟨g,0,none⟩),.int .u64 n,.int .i64 f] w fun e w'=>e = .returned (.int .i64 1)∧qq w w':=by
 have L:(8*(f:Int)).toNat=8*f:=by omega
 have v:(1:Int)≤f:=by omega
 have z:(f:Int)≤8:=by omega
 have F:decide ((f:Int)<1)=false:=by simp;omega
 have E:decide ((8:Int)<(f:Int))=false:=by simp;omega
 have q:¬(f:Int)<1:=by omega
 have m:¬(8:Int)<(f:Int):=by omega
 have O:1≤(n:Int) / 2 ^ (8*f):=by
  have C:(0:Int)<2 ^ (8*f):=Int.pow_pos (by decide);rw[Int.le_ediv_iff_mul_le C,Int.one_mul];exact_mod_cast r
 have H:(n:Int) / 2 ^ (8*f)<18446744073709551616:=Int.lt_of_le_of_lt (Int.ediv_le_self _ (by omega)) (by omega)
 have K:IntKind.u64.wrap ((n:Int) / 2 ^ (8*f))=(n:Int) / 2 ^ (8*f):=by rw[IntKind.wrap_u64];omega
 generalize M:(n:Int) / 2 ^ (8*f)=Q at *
 have P:(Q != 0)=true:=by simp;omega
 clear r i
 go_enter Tryz.func92,Tryz.ntmps92
 go_wp2_with fail
 go_ret
 exact⟨rfl,Upd.refl _ _⟩
def qb0(n f:Nat):ByteArray:=if n<2 ^ (8*f) then qw n f else ⟨#[]⟩
theorem q2b(n f:Nat):(qb0 n f).size≤f:=by
 unfold qb0;split
 ·rw[qat];exact Nat.le_refl _
 ·exact Nat.zero_le _
theorem qdw(n f:Nat)(w:World)(m:1≤f)(r:f≤8)(z:n<18446744073709551616) :
  Calls Tryz.prog 48 #[.int .u64 n,.int .i64 f] w (qa7 (.string (qb0 n f)) w):=by
 by_cases h:n<2 ^ (8*f)
 ·unfold qb0;rw[if_pos h];exact qbv n f w m r h
 ·have v:f≤7:=by
   rcases (by omega:f≤7∨f=8) with v | rfl
   ·exact v
   ·exact absurd z (by simpa using h)
  unfold qb0;rw[if_neg h];go_enter Tryz.func48,Tryz.ntmps48;go_upto_region 2 with fail;have b1:Wr (w.alloc (.cells #[.string ⟨#[]⟩] 174)) w.heap.size ⟨#[]⟩:=qj _ _;have q:qq w (w.alloc (.cells #[.string ⟨#[]⟩] 174)):=(Upd.refl _ _).alloc _;generalize w.alloc (.cells #[.string ⟨#[]⟩] 174)=w1 at b1 q ⊢;generalize H:w.heap.size=B at b1 ⊢;have i:=quy B n f ⟨#[]⟩ w1 b1 m v (by omega) z;have E:=qb (And.intro b1 q);clear b1 q H h m r z v;go_wp2_with fail;refine i.mono ?_;rintro e I ⟨rfl,C⟩;obtain⟨b1,q⟩:=qa E;have b2:=b1.new C;have F:=qb (q.trans C);clear i b1 q C E;go_wp2_with fail;refine(qf3 _ _ _ b2).mono ?_;rintro e J ⟨rfl,rfl⟩;go_wp2_with fail;go_ret;exact⟨rfl,qa F⟩
attribute [local go_sem ↓ high] qz zb ze zi qak zl
attribute [local go_sem] qax qay qa4 qx qab qco qbl
theorem qsm(g:Nat)(S:Nat→Prop)(n:Nat)(h:List Int)(MM:MsgV)(er:Int)(LL:Lk)(sp en lo:Nat)(w:World)(e2:∀k,S k→k<w.heap.size)(hl:h.length=32)(g2:n<2 ^ (8*8))(M:MM.hash.length=32)
  (f7:∀PL PN PH w3,qq w w3→w.heap.size≤PL→w.heap.size≤PN→w.heap.size≤PH→w3.cell? ⟨PL,0,none⟩=some (.pointer (some ⟨g,0,none⟩))→w3.cell? ⟨PN,0,none⟩=some (.int .u64 (n:Int))→zf w3 PH 0 32=some (qu h).toArray→∀B W,qq w3 W→w3.heap.size≤B→W.heap[B]? = some (.cells #[.string (qw 2 1),.string (qw n 8),.string (strOfNums h)] 9 (0,0))→Calls Tryz.prog 45 #[.pointer (some ⟨g,0,none⟩),.func (.func 54) #[] #[.pointer (some ⟨PL,0,none⟩),.pointer (some ⟨PN,0,none⟩),.pointer (some ⟨PH,0,none⟩)],.slice (some ⟨B,0,none⟩) 3 3] W fun e W'=>e = .returned (.tuple #[.agg MM.cells.toArray,.int .i64 er])∧LkE W' g (Fr S W W') sp en lo LL∧Upd S W W') :
  Calls Tryz.prog 18 #[.pointer (some ⟨g,0,none⟩),.int .u64 (n:Int),.agg (qu h).toArray] w fun e w'=>e = .returned (.int .i64 er)∧LkS w' g (Fr S w w') LL∧Upd S w w':=by
 have s6:∀(fn:Fn) (first cap:Array Value) (w:World),(Instr.makeFunc fn first cap).run Tryz.prog w = .ok (.func fn first cap) w:=fun _ _ _ _=>rfl
 obtain⟨v,V⟩:∃v,v=((w.alloc (.cells #[.pointer (some ⟨g,0,none⟩)] 28)).alloc (.cells #[.int .u64 (n:Int)] 22)).alloc (.cells (qu h).toArray 35):=⟨_,rfl⟩
 have n4:qq w v:=by rw[V];exact((((Upd.refl _ _).alloc _).alloc _).alloc _)
 have Z:v.cell? ⟨w.heap.size,0,none⟩=some (.pointer (some ⟨g,0,none⟩)):=by
  rw[V];exact qg (qs (qs (qj _ _) _) _) 0
 have U:v.cell? ⟨w.heap.size+1,0,none⟩=some (.int .u64 (n:Int)):=by
  rw[V];have:=qj (w.alloc (.cells #[.pointer (some ⟨g,0,none⟩)] 28)) (.cells #[.int .u64 (n:Int)] 22);rw[World.size_alloc] at this;exact qg (qs this _) 0
 have P:zf v (w.heap.size+1+1) 0 32=some (qu h).toArray:=by
  rw[V];have:=qj ((w.alloc (.cells #[.pointer (some ⟨g,0,none⟩)] 28)).alloc (.cells #[.int .u64 (n:Int)] 22)) (.cells (qu h).toArray 35);rw[World.size_alloc,World.size_alloc] at this;exact qas this 32 (by rw[List.size_toArray,qal,hl])
 go_enter Tryz.func18,Tryz.ntmps18
 go_upto_region 1 with fail
 rw[←V]
 have z4:w.heap.size+1+1<v.heap.size:=by rw[V];simp only[World.size_alloc];omega
 clear V
 obtain⟨PL,j3⟩:∃X,X=w.heap.size:=⟨_,rfl⟩
 rw[←j3] at Z U P z4 ⊢
 obtain⟨PN,j4⟩:∃X,X=PL+1:=⟨_,rfl⟩
 rw[←j4] at U P z4 ⊢
 obtain⟨PH,j2⟩:∃X,X=PN+1:=⟨_,rfl⟩
 rw[←j2] at P z4 ⊢
 have g0:¬S PL∧¬S PN∧¬S PH:=⟨fun e=>by have:=e2 _ e;omega,fun e=>by have:=e2 _ e;omega,fun e=>by have:=e2 _ e;omega⟩
 have e3:w.heap.size≤PL∧w.heap.size≤PN∧w.heap.size≤PH:=⟨by omega,by omega,by omega⟩
 have h7:=qb n4
 have C:∀k,S k→k<v.heap.size:=fun k e=>Nat.lt_of_lt_of_le (e2 k e) n4.size
 have hA:=fun B W (nW:qq v W) hB hr=>f7 PL PN PH v n4 e3.1 e3.2.1 e3.2.2 Z U P B W nW hB hr
 clear j3 j4 j2 z4 n4 f7 e3
 have c1:v.drew.cell? ⟨PL,0,none⟩=some (.pointer (some ⟨g,0,none⟩))∧v.drew.cell? ⟨PN,0,none⟩=some (.int .u64 (n:Int))∧zf v.drew PH 0 32=some (qu h).toArray:=⟨Z,U,P⟩
 have m:∀X,qq v X→X.cell? ⟨PL,0,none⟩=some (.pointer (some ⟨g,0,none⟩))∧X.cell? ⟨PN,0,none⟩=some (.int .u64 (n:Int))∧zf X PH 0 32=some (qu h).toArray:=fun X q=>⟨q.cell Z (fun h=>h),q.cell U (fun h=>h),qap P q (fun h=>h)⟩
 have o4:∀X S',LkE X g S' sp en lo LL→Upd S v X→X.cell? ⟨PL,0,none⟩=some (.pointer (some ⟨g,0,none⟩))∧X.cell? ⟨PN,0,none⟩=some (.int .u64 (n:Int))∧zf X PH 0 32=some (qu h).toArray:=fun X S' _ q=>⟨q.cell Z g0.1,q.cell U g0.2.1,qap P q g0.2.2⟩
 have s7:qq v v.drew:=(Upd.refl _ _).drew
 clear Z U P
 go_cut [7,8] from 9 to 20 (fun kv ev wx=>∃K,kv = .pointer (some ⟨K,0,none⟩)∧ev = .int .i64 er∧MsB wx K MM∧LkE wx g (Fr S v wx) sp en lo LL∧Upd S v wx∧v.heap.size≤K)
 case first =>
  refine qa1 (fun w'=>w'.cell? ⟨PL,0,none⟩=some (.pointer (some ⟨g,0,none⟩))∧w'.cell? ⟨PN,0,none⟩=some (.int .u64 (n:Int))∧zf w' PH 0 32=some (qu h).toArray) [0,3,5] (.fork (.of [12,0,1,2,3,4,5,6,7,8,9,10,11,13,14]) (Plan.pre [0,1,2] (.fork (.of [12,3,4,5,6,7,8,9,10,11,13,14]) (Plan.pre [3,4] (.fork (.of [12,5,6,7,8,9,10,11,13,14]) (Plan.pre [5,6] (.fork (.of [12,7,8,9,10,11,13,14]) (Plan.pre [7] (.fork (.of [12,8,9,10,11,13,14]) (.of [8,9,10,11,12,13,14])))))))))) (by kernel_rfl) (by kernel_rfl) c1 ?_;simp only[Plan.of,Plan.pre];refine qf ?_ ?_
  ·skip
   try go_wp2_with (with_reducible first|(first|refine' zv (qh ?_) ?_|refine' zx (qh ?_) ?_|refine' zy (qh ?_) ?_);rotate_left|refine' zz (qh ?_)|refine' qw5 (qh ?_)|rfl|apply qn)
   have m1:qq v (v.alloc (.cells MsgV.zero.cells.toArray 101)).drew:=((Upd.refl _ _).alloc _).drew;have b1:MsB (v.alloc (.cells MsgV.zero.cells.toArray 101)).drew v.heap.size MsgV.zero:=(zt v MsgV.zero qm).new (Upd.drew (Upd.refl (fun _=>False) _));obtain⟨K1,e1⟩:∃K,K=v.heap.size:=⟨_,rfl⟩;have n1:qq v (v.alloc (.cells MsgV.zero.cells.toArray 101)).drew:=m1
   first | refine⟨m _ n1,?_⟩ | skip
   have y1:=b1.lt;generalize (v.alloc (.cells MsgV.zero.cells.toArray 101)).drew=p7 at m1 b1 n1 y1 ⊢;have q1:=m _ n1;rw[←e1] at b1 y1 ⊢;have E1:=qb e1;have g1:v.heap.size≤K1:=by rw[e1];exact Nat.le_refl _
   clear e1
   try go_wp2_with (with_reducible first|(first|refine' zv (qh ?_) ?_|refine' zx (qh ?_) ?_|refine' zy (qh ?_) ?_);rotate_left|refine' zz (qh ?_)|refine' qw5 (qh ?_)|rfl|apply qn)
   refine(qbv 2 1 p7 (by decide) (by decide) (by decide)).mono ?_;rintro e k9 ⟨rfl,m2⟩;have n2:qq v k9:=n1.trans m2;have b2:=b1.new m2;have q2:=m _ n2;go_wp2_with (first | (with_reducible first|(first|refine' zv (qh ?_) ?_|refine' zx (qh ?_) ?_|refine' zy (qh ?_) ?_);rotate_left|refine' zz (qh ?_)|refine' qw5 (qh ?_)|rfl|apply qn) | refine⟨m _ n2,?_⟩);refine(qbv n 8 k9 (by decide) (by decide) g2).mono ?_;rintro e l0 ⟨rfl,m3⟩;have n3:qq v l0:=n2.trans m3;have b3:=b2.new m3;have q3:=m _ n3;go_wp2_with (first | (with_reducible first|(first|refine' zv (qh ?_) ?_|refine' zx (qh ?_) ?_|refine' zy (qh ?_) ?_);rotate_left|refine' zz (qh ?_)|refine' qw5 (qh ?_)|rfl|apply qn) | refine⟨m _ n3,?_⟩);refine(qd6 h l0 hl).mono ?_;rintro e T ⟨rfl,m4⟩;have n4:qq v T:=n3.trans m4;have b4:=b3.new m4;have q4:=m _ n4;go_wp2_with (first | (with_reducible first|(first|refine' zv (qh ?_) ?_|refine' zx (qh ?_) ?_|refine' zy (qh ?_) ?_);rotate_left|refine' zz (qh ?_)|refine' qw5 (qh ?_)|rfl|apply qn) | refine⟨m _ n4,?_⟩);have m5:qq T (T.alloc (.cells #[.string (qw 2 1),.string (qw n 8),.string (strOfNums h)] 9)):=(Upd.refl _ _).alloc _;have n5:=n4.trans m5;have r5:=qj T (.cells #[.string (qw 2 1),.string (qw n 8),.string (strOfNums h)] 9);have z5:T.heap.size<(T.alloc (.cells #[.string (qw 2 1),.string (qw n 8),.string (strOfNums h)] 9)).heap.size:=by rw[World.size_alloc];omega
   have y5:=n4.size;have b5:=b4.new m5;have a5:=b4.lt;generalize T.alloc (.cells #[.string (qw 2 1),.string (qw n 8),.string (strOfNums h)] 9)=p9 at m5 n5 r5 z5 b5 ⊢
   first | refine⟨m _ n5,?_⟩ | skip
   clear m5;have q5:=m _ n5;generalize T.heap.size=B5 at *
   try go_wp2_with (with_reducible first|(first|refine' zv (qh ?_) ?_|refine' zx (qh ?_) ?_|refine' zy (qh ?_) ?_);rotate_left|refine' zz (qh ?_)|refine' qw5 (qh ?_)|rfl|apply qn)
   have r:=hA B5 p9 n5 (by omega) r5;refine r.mono ?_;rintro e h0 ⟨rfl,l6,v6⟩;have u6:Upd S v h0:=(n5.mono (fun _ _ h=>h.elim)).trans v6;have x6:=n5.size;have y6:=v6.size;have b6:=b5.upd v6 (fun e=>by have:=C _ e;omega);clear r v6;have c2:=b6.stOk M;have c7:=b6.put M;have x7:Upd (· = K1) h0 _:=zc (w:=h0) (b:=K1) MM.cells;have Y:=qb (And.intro c7 (And.intro x7 (And.intro l6 u6)));have v2:=x7.size;clear c7 x7
   try go_wp2_with (with_reducible first|(first|refine' zv (qh ?_) ?_|refine' zx (qh ?_) ?_|refine' zy (qh ?_) ?_);rotate_left|refine' zz (qh ?_)|refine' qw5 (qh ?_)|rfl|apply qn)
   go_meet
   case rel =>
    obtain⟨c,x,l,u⟩:=qa Y;refine⟨K1,rfl,rfl,c,?_,u.then x (fun i hi e=>by omega),by omega⟩;have E:=qa E1;refine(l.upd x (fun k f e=> ?_)).wider (fun k f=> ?_) (fun k f=> ?_)
    ·rcases f with f | f
     ·have:=C k f;omega
     ·omega
    ·rcases f with f | f
     ·exact .inl f
     ·exact .inr ⟨by omega,by omega⟩
    ·rcases f with f | f
     ·have:=C k f;omega
     ·exact f.2
  ·skip
   try go_wp2_with (with_reducible first|(first|refine' zv (qh ?_) ?_|refine' zx (qh ?_) ?_|refine' zy (qh ?_) ?_);rotate_left|refine' zz (qh ?_)|refine' qw5 (qh ?_)|rfl|apply qn)
   refine(qbv 2 1 v.drew (by decide) (by decide) (by decide)).mono ?_;rintro e O ⟨rfl,m8⟩;replace m8:=m8.ofDrew;have n8:qq v O:=m8;have q8:=m _ n8;go_wp2_with (first | (with_reducible first|(first|refine' zv (qh ?_) ?_|refine' zx (qh ?_) ?_|refine' zy (qh ?_) ?_);rotate_left|refine' zz (qh ?_)|refine' qw5 (qh ?_)|rfl|apply qn) | refine⟨m _ n8,?_⟩);refine qf ?_ ?_
   ·skip
    try go_wp2_with (with_reducible first|(first|refine' zv (qh ?_) ?_|refine' zx (qh ?_) ?_|refine' zy (qh ?_) ?_);rotate_left|refine' zz (qh ?_)|refine' qw5 (qh ?_)|rfl|apply qn)
    have m9:qq O (O.alloc (.cells MsgV.zero.cells.toArray 101)):=((Upd.refl _ _).alloc _);have b9:MsB (O.alloc (.cells MsgV.zero.cells.toArray 101)) O.heap.size MsgV.zero:=zt O MsgV.zero qm;obtain⟨K9,e9⟩:∃K,K=O.heap.size:=⟨_,rfl⟩;have n9:qq v (O.alloc (.cells MsgV.zero.cells.toArray 101)):=n8.trans m9
    first | refine⟨m _ n9,?_⟩ | skip
    have y9:=b9.lt;generalize (O.alloc (.cells MsgV.zero.cells.toArray 101))=p8 at m9 b9 n9 y9 ⊢;have q9:=m _ n9;rw[←e9] at b9 y9 ⊢;have E9:=qb e9;have g9:v.heap.size≤K9:=by rw[e9];exact n8.size
    clear e9
    try go_wp2_with (with_reducible first|(first|refine' zv (qh ?_) ?_|refine' zx (qh ?_) ?_|refine' zy (qh ?_) ?_);rotate_left|refine' zz (qh ?_)|refine' qw5 (qh ?_)|rfl|apply qn)
    refine(qbv n 8 p8 (by decide) (by decide) g2).mono ?_;rintro e f9 ⟨rfl,j6⟩;have g5:qq v f9:=n9.trans j6;have o3:=b9.new j6;have s8:=m _ g5;go_wp2_with (first | (with_reducible first|(first|refine' zv (qh ?_) ?_|refine' zx (qh ?_) ?_|refine' zy (qh ?_) ?_);rotate_left|refine' zz (qh ?_)|refine' qw5 (qh ?_)|rfl|apply qn) | refine⟨m _ g5,?_⟩);refine(qd6 h f9 hl).mono ?_;rintro e I ⟨rfl,j7⟩;have f0:qq v I:=g5.trans j7;have h8:=o3.new j7;have s9:=m _ f0;go_wp2_with (first | (with_reducible first|(first|refine' zv (qh ?_) ?_|refine' zx (qh ?_) ?_|refine' zy (qh ?_) ?_);rotate_left|refine' zz (qh ?_)|refine' qw5 (qh ?_)|rfl|apply qn) | refine⟨m _ f0,?_⟩);have e4:qq I (I.alloc (.cells #[.string (qw 2 1),.string (qw n 8),.string (strOfNums h)] 9)):=(Upd.refl _ _).alloc _;have a6:=f0.trans e4;have k3:=qj I (.cells #[.string (qw 2 1),.string (qw n 8),.string (strOfNums h)] 9);have q0:I.heap.size<(I.alloc (.cells #[.string (qw 2 1),.string (qw n 8),.string (strOfNums h)] 9)).heap.size:=by rw[World.size_alloc];omega
    have v7:=f0.size;have h9:=h8.new e4;have r6:=h8.lt;generalize I.alloc (.cells #[.string (qw 2 1),.string (qw n 8),.string (strOfNums h)] 9)=l3 at e4 a6 k3 q0 h9 ⊢
    first | refine⟨m _ a6,?_⟩ | skip
    clear e4;have t1:=m _ a6;generalize I.heap.size=m7 at *
    try go_wp2_with (with_reducible first|(first|refine' zv (qh ?_) ?_|refine' zx (qh ?_) ?_|refine' zy (qh ?_) ?_);rotate_left|refine' zz (qh ?_)|refine' qw5 (qh ?_)|rfl|apply qn)
    have r:=hA m7 l3 a6 (by omega) k3;refine r.mono ?_;rintro e c5 ⟨rfl,o5,f3⟩;have p3:Upd S v c5:=(a6.mono (fun _ _ h=>h.elim)).trans f3;have u5:=a6.size;have v8:=f3.size;have i0:=h9.upd f3 (fun e=>by have:=C _ e;omega);clear r f3;have c2:=i0.stOk M;have i7:=i0.put M;have h1:Upd (· = K9) c5 _:=zc (w:=c5) (b:=K9) MM.cells;have Y:=qb (And.intro i7 (And.intro h1 (And.intro o5 p3)));have r0:=h1.size;clear i7 h1
    try go_wp2_with (with_reducible first|(first|refine' zv (qh ?_) ?_|refine' zx (qh ?_) ?_|refine' zy (qh ?_) ?_);rotate_left|refine' zz (qh ?_)|refine' qw5 (qh ?_)|rfl|apply qn)
    go_meet
    case rel =>
     obtain⟨c,x,l,u⟩:=qa Y;refine⟨K9,rfl,rfl,c,?_,u.then x (fun i hi e=>by omega),by omega⟩;have E:=qa E9;refine(l.upd x (fun k f e=> ?_)).wider (fun k f=> ?_) (fun k f=> ?_)
     ·rcases f with f | f
      ·have:=C k f;omega
      ·omega
     ·rcases f with f | f
      ·exact .inl f
      ·exact .inr ⟨by omega,by omega⟩
     ·rcases f with f | f
      ·have:=C k f;omega
      ·exact f.2
   ·skip
    try go_wp2_with (with_reducible first|(first|refine' zv (qh ?_) ?_|refine' zx (qh ?_) ?_|refine' zy (qh ?_) ?_);rotate_left|refine' zz (qh ?_)|refine' qw5 (qh ?_)|rfl|apply qn)
    refine(qbv n 8 O (by decide) (by decide) g2).mono ?_;rintro e F ⟨rfl,p0⟩;have c3:qq v F:=n8.trans p0;have t2:=m _ c3;go_wp2_with (first | (with_reducible first|(first|refine' zv (qh ?_) ?_|refine' zx (qh ?_) ?_|refine' zy (qh ?_) ?_);rotate_left|refine' zz (qh ?_)|refine' qw5 (qh ?_)|rfl|apply qn) | refine⟨m _ c3,?_⟩);refine qf ?_ ?_
    ·skip
     try go_wp2_with (with_reducible first|(first|refine' zv (qh ?_) ?_|refine' zx (qh ?_) ?_|refine' zy (qh ?_) ?_);rotate_left|refine' zz (qh ?_)|refine' qw5 (qh ?_)|rfl|apply qn)
     have j8:qq F (F.alloc (.cells MsgV.zero.cells.toArray 101)):=((Upd.refl _ _).alloc _);have d4:MsB (F.alloc (.cells MsgV.zero.cells.toArray 101)) F.heap.size MsgV.zero:=zt F MsgV.zero qm;obtain⟨d0,d7⟩:∃K,K=F.heap.size:=⟨_,rfl⟩;have f1:qq v (F.alloc (.cells MsgV.zero.cells.toArray 101)):=c3.trans j8
     first | refine⟨m _ f1,?_⟩ | skip
     have l7:=d4.lt;generalize (F.alloc (.cells MsgV.zero.cells.toArray 101))=k7 at j8 d4 f1 l7 ⊢;have t6:=m _ f1;rw[←d7] at d4 l7 ⊢;have n7:=qb d7;have r9:v.heap.size≤d0:=by rw[d7];exact c3.size
     clear d7
     try go_wp2_with (with_reducible first|(first|refine' zv (qh ?_) ?_|refine' zx (qh ?_) ?_|refine' zy (qh ?_) ?_);rotate_left|refine' zz (qh ?_)|refine' qw5 (qh ?_)|rfl|apply qn)
     refine(qd6 h k7 hl).mono ?_;rintro e J ⟨rfl,j9⟩;have f2:qq v J:=f1.trans j9;have i1:=d4.new j9;have t7:=m _ f2;go_wp2_with (first | (with_reducible first|(first|refine' zv (qh ?_) ?_|refine' zx (qh ?_) ?_|refine' zy (qh ?_) ?_);rotate_left|refine' zz (qh ?_)|refine' qw5 (qh ?_)|rfl|apply qn) | refine⟨m _ f2,?_⟩);have e5:qq J (J.alloc (.cells #[.string (qw 2 1),.string (qw n 8),.string (strOfNums h)] 9)):=(Upd.refl _ _).alloc _;have a7:=f2.trans e5;have k4:=qj J (.cells #[.string (qw 2 1),.string (qw n 8),.string (strOfNums h)] 9);have q6:J.heap.size<(J.alloc (.cells #[.string (qw 2 1),.string (qw n 8),.string (strOfNums h)] 9)).heap.size:=by rw[World.size_alloc];omega
     have w0:=f2.size;have i2:=i1.new e5;have r7:=i1.lt;generalize J.alloc (.cells #[.string (qw 2 1),.string (qw n 8),.string (strOfNums h)] 9)=l4 at e5 a7 k4 q6 i2 ⊢
     first | refine⟨m _ a7,?_⟩ | skip
     clear e5;have t8:=m _ a7;generalize J.heap.size=n0 at *
     try go_wp2_with (with_reducible first|(first|refine' zv (qh ?_) ?_|refine' zx (qh ?_) ?_|refine' zy (qh ?_) ?_);rotate_left|refine' zz (qh ?_)|refine' qw5 (qh ?_)|rfl|apply qn)
     have r:=hA n0 l4 a7 (by omega) k4;refine r.mono ?_;rintro e c6 ⟨rfl,o6,f4⟩;have p4:Upd S v c6:=(a7.mono (fun _ _ h=>h.elim)).trans f4;have u7:=a7.size;have w1:=f4.size;have i3:=i2.upd f4 (fun e=>by have:=C _ e;omega);clear r f4;have c2:=i3.stOk M;have i8:=i3.put M;have h2:Upd (· = d0) c6 _:=zc (w:=c6) (b:=d0) MM.cells;have Y:=qb (And.intro i8 (And.intro h2 (And.intro o6 p4)));have r1:=h2.size;clear i8 h2
     try go_wp2_with (with_reducible first|(first|refine' zv (qh ?_) ?_|refine' zx (qh ?_) ?_|refine' zy (qh ?_) ?_);rotate_left|refine' zz (qh ?_)|refine' qw5 (qh ?_)|rfl|apply qn)
     go_meet
     case rel =>
      obtain⟨c,x,l,u⟩:=qa Y;refine⟨d0,rfl,rfl,c,?_,u.then x (fun i hi e=>by omega),by omega⟩;have E:=qa n7;refine(l.upd x (fun k f e=> ?_)).wider (fun k f=> ?_) (fun k f=> ?_)
      ·rcases f with f | f
       ·have:=C k f;omega
       ·omega
      ·rcases f with f | f
       ·exact .inl f
       ·exact .inr ⟨by omega,by omega⟩
      ·rcases f with f | f
       ·have:=C k f;omega
       ·exact f.2
    ·skip
     try go_wp2_with (with_reducible first|(first|refine' zv (qh ?_) ?_|refine' zx (qh ?_) ?_|refine' zy (qh ?_) ?_);rotate_left|refine' zz (qh ?_)|refine' qw5 (qh ?_)|rfl|apply qn)
     refine(qd6 h F hl).mono ?_;rintro e z ⟨rfl,p1⟩;have a8:qq v z:=c3.trans p1;have u0:=m _ a8;go_wp2_with (first | (with_reducible first|(first|refine' zv (qh ?_) ?_|refine' zx (qh ?_) ?_|refine' zy (qh ?_) ?_);rotate_left|refine' zz (qh ?_)|refine' qw5 (qh ?_)|rfl|apply qn) | refine⟨m _ a8,?_⟩);refine qf ?_ ?_
     ·skip
      try go_wp2_with (with_reducible first|(first|refine' zv (qh ?_) ?_|refine' zx (qh ?_) ?_|refine' zy (qh ?_) ?_);rotate_left|refine' zz (qh ?_)|refine' qw5 (qh ?_)|rfl|apply qn)
      have k0:qq z (z.alloc (.cells MsgV.zero.cells.toArray 101)):=((Upd.refl _ _).alloc _);have c0:MsB (z.alloc (.cells MsgV.zero.cells.toArray 101)) z.heap.size MsgV.zero:=zt z MsgV.zero qm;obtain⟨d1,d8⟩:∃K,K=z.heap.size:=⟨_,rfl⟩;have c4:qq v (z.alloc (.cells MsgV.zero.cells.toArray 101)):=a8.trans k0
      first | refine⟨m _ c4,?_⟩ | skip
      have l8:=c0.lt;generalize (z.alloc (.cells MsgV.zero.cells.toArray 101))=N at k0 c0 c4 l8 ⊢;have u1:=m _ c4;rw[←d8] at c0 l8 ⊢;have o0:=qb d8;have s0:v.heap.size≤d1:=by rw[d8];exact a8.size
      clear d8
      try go_wp2_with (with_reducible first|(first|refine' zv (qh ?_) ?_|refine' zx (qh ?_) ?_|refine' zy (qh ?_) ?_);rotate_left|refine' zz (qh ?_)|refine' qw5 (qh ?_)|rfl|apply qn)
      have e6:qq N (N.alloc (.cells #[.string (qw 2 1),.string (qw n 8),.string (strOfNums h)] 9)):=(Upd.refl _ _).alloc _;have b7:=c4.trans e6;have k5:=qj N (.cells #[.string (qw 2 1),.string (qw n 8),.string (strOfNums h)] 9);have q7:N.heap.size<(N.alloc (.cells #[.string (qw 2 1),.string (qw n 8),.string (strOfNums h)] 9)).heap.size:=by rw[World.size_alloc];omega
      have w2:=c4.size;have i4:=c0.new e6;have r8:=c0.lt;generalize N.alloc (.cells #[.string (qw 2 1),.string (qw n 8),.string (strOfNums h)] 9)=l5 at e6 b7 k5 q7 i4 ⊢
      first | refine⟨m _ b7,?_⟩ | skip
      clear e6;have u2:=m _ b7;generalize N.heap.size=n6 at *
      try go_wp2_with (with_reducible first|(first|refine' zv (qh ?_) ?_|refine' zx (qh ?_) ?_|refine' zy (qh ?_) ?_);rotate_left|refine' zz (qh ?_)|refine' qw5 (qh ?_)|rfl|apply qn)
      have r:=hA n6 l5 b7 (by omega) k5;refine r.mono ?_;rintro e c8 ⟨rfl,o7,f5⟩;have p5:Upd S v c8:=(b7.mono (fun _ _ h=>h.elim)).trans f5;have u8:=b7.size;have w5:=f5.size;have i5:=i4.upd f5 (fun e=>by have:=C _ e;omega);clear r f5;have c2:=i5.stOk M;have i9:=i5.put M;have h3:Upd (· = d1) c8 _:=zc (w:=c8) (b:=d1) MM.cells;have Y:=qb (And.intro i9 (And.intro h3 (And.intro o7 p5)));have r2:=h3.size;clear i9 h3
      try go_wp2_with (with_reducible first|(first|refine' zv (qh ?_) ?_|refine' zx (qh ?_) ?_|refine' zy (qh ?_) ?_);rotate_left|refine' zz (qh ?_)|refine' qw5 (qh ?_)|rfl|apply qn)
      go_meet
      case rel =>
       obtain⟨c,x,l,u⟩:=qa Y;refine⟨d1,rfl,rfl,c,?_,u.then x (fun i hi e=>by omega),by omega⟩;have E:=qa o0;refine(l.upd x (fun k f e=> ?_)).wider (fun k f=> ?_) (fun k f=> ?_)
       ·rcases f with f | f
        ·have:=C k f;omega
        ·omega
       ·rcases f with f | f
        ·exact .inl f
        ·exact .inr ⟨by omega,by omega⟩
       ·rcases f with f | f
        ·have:=C k f;omega
        ·exact f.2
     ·skip
      try go_wp2_with (with_reducible first|(first|refine' zv (qh ?_) ?_|refine' zx (qh ?_) ?_|refine' zy (qh ?_) ?_);rotate_left|refine' zz (qh ?_)|refine' qw5 (qh ?_)|rfl|apply qn)
      have g4:qq z (z.alloc (.cells #[.string (qw 2 1),.string (qw n 8),.string (strOfNums h)] 9)):=(Upd.refl _ _).alloc _;have R:=a8.trans g4;have g6:=qj z (.cells #[.string (qw 2 1),.string (qw n 8),.string (strOfNums h)] 9);have m6:z.heap.size<(z.alloc (.cells #[.string (qw 2 1),.string (qw n 8),.string (strOfNums h)] 9)).heap.size:=by rw[World.size_alloc];omega
      have w6:=a8.size;generalize z.alloc (.cells #[.string (qw 2 1),.string (qw n 8),.string (strOfNums h)] 9)=H at g4 R g6 m6 ⊢
      first | refine⟨m _ R,?_⟩ | skip
      clear g4;have u3:=m _ R;generalize z.heap.size=h6 at *
      refine qf ?_ ?_
      ·skip
       try go_wp2_with (with_reducible first|(first|refine' zv (qh ?_) ?_|refine' zx (qh ?_) ?_|refine' zy (qh ?_) ?_);rotate_left|refine' zz (qh ?_)|refine' qw5 (qh ?_)|rfl|apply qn)
       have e7:qq H (H.alloc (.cells MsgV.zero.cells.toArray 101)):=((Upd.refl _ _).alloc _);have d5:MsB (H.alloc (.cells MsgV.zero.cells.toArray 101)) H.heap.size MsgV.zero:=zt H MsgV.zero qm;obtain⟨d2,d9⟩:∃K,K=H.heap.size:=⟨_,rfl⟩;have b8:qq v (H.alloc (.cells MsgV.zero.cells.toArray 101)):=R.trans e7
       first | refine⟨m _ b8,?_⟩ | skip
       have l9:=d5.lt;generalize (H.alloc (.cells MsgV.zero.cells.toArray 101))=k8 at e7 d5 b8 l9 ⊢;have u4:=m _ b8;have p2:=e7.old g6 (fun h=>h);have w9:=Nat.lt_of_lt_of_le m6 e7.size;rw[←d9] at d5 l9 ⊢;have o1:=qb d9;have s3:v.heap.size≤d2:=by rw[d9];exact R.size
       clear d9
       try go_wp2_with (with_reducible first|(first|refine' zv (qh ?_) ?_|refine' zx (qh ?_) ?_|refine' zy (qh ?_) ?_);rotate_left|refine' zz (qh ?_)|refine' qw5 (qh ?_)|rfl|apply qn)
       have r:=hA h6 k8 b8 (by omega) p2;refine r.mono ?_;rintro e c9 ⟨rfl,o8,f6⟩;have p6:Upd S v c9:=(b8.mono (fun _ _ h=>h.elim)).trans f6;have u9:=b8.size;have w7:=f6.size;have i6:=d5.upd f6 (fun e=>by have:=C _ e;omega);clear r f6;have c2:=i6.stOk M;have j0:=i6.put M;have h4:Upd (· = d2) c9 _:=zc (w:=c9) (b:=d2) MM.cells;have Y:=qb (And.intro j0 (And.intro h4 (And.intro o8 p6)));have r3:=h4.size;clear j0 h4
       try go_wp2_with (with_reducible first|(first|refine' zv (qh ?_) ?_|refine' zx (qh ?_) ?_|refine' zy (qh ?_) ?_);rotate_left|refine' zz (qh ?_)|refine' qw5 (qh ?_)|rfl|apply qn)
       go_meet
       case rel =>
        obtain⟨c,x,l,u⟩:=qa Y;refine⟨d2,rfl,rfl,c,?_,u.then x (fun i hi e=>by omega),by omega⟩;have E:=qa o1;refine(l.upd x (fun k f e=> ?_)).wider (fun k f=> ?_) (fun k f=> ?_)
        ·rcases f with f | f
         ·have:=C k f;omega
         ·omega
        ·rcases f with f | f
         ·exact .inl f
         ·exact .inr ⟨by omega,by omega⟩
        ·rcases f with f | f
         ·have:=C k f;omega
         ·exact f.2
      ·skip
       try go_wp2_with (with_reducible first|(first|refine' zv (qh ?_) ?_|refine' zx (qh ?_) ?_|refine' zy (qh ?_) ?_);rotate_left|refine' zz (qh ?_)|refine' qw5 (qh ?_)|rfl|apply qn)
       have r:=hA h6 H R (by omega) g6;refine r.mono ?_;rintro e L ⟨rfl,o9,g8⟩;have k6:Upd S v L:=(R.mono (fun _ _ h=>h.elim)).trans g8;have v1:=R.size;have w8:=g8.size;clear r g8
       try go_wp2_with (with_reducible first|(first|refine' zv (qh ?_) ?_|refine' zx (qh ?_) ?_|refine' zy (qh ?_) ?_);rotate_left|refine' zz (qh ?_)|refine' qw5 (qh ?_)|rfl|apply qn)
       have e8:qq L (L.alloc (.cells MsgV.zero.cells.toArray 101)):=((Upd.refl _ _).alloc _);have d6:MsB (L.alloc (.cells MsgV.zero.cells.toArray 101)) L.heap.size MsgV.zero:=zt L MsgV.zero qm;obtain⟨d3,e0⟩:∃K,K=L.heap.size:=⟨_,rfl⟩;have g3:=o9.new e8;have g7:=k6.trans (e8.mono (fun _ _ h=>h.elim));have m0:=e8.size;generalize (L.alloc (.cells MsgV.zero.cells.toArray 101))=f8 at e8 d6 g3 g7 m0 ⊢
       first | refine⟨o4 _ _ g3 g7,?_⟩ | skip
       rw[←e0] at d6 m0 ⊢;have o2:=qb e0;have s4:v.heap.size≤d3:=by rw[e0];exact k6.size
       clear e0;have c2:=d6.stOk M;have j1:=d6.put M;have h5:Upd (· = d3) f8 _:=zc (w:=f8) (b:=d3) MM.cells;have Y:=qb (And.intro j1 (And.intro h5 (And.intro g3 g7)));have r4:=h5.size;clear j1 h5
       try go_wp2_with (with_reducible first|(first|refine' zv (qh ?_) ?_|refine' zx (qh ?_) ?_|refine' zy (qh ?_) ?_);rotate_left|refine' zz (qh ?_)|refine' qw5 (qh ?_)|rfl|apply qn)
       go_meet
       case rel =>
        obtain⟨c,x,l,u⟩:=qa Y;refine⟨d3,rfl,rfl,c,?_,u.then x (fun i hi e=>by omega),by omega⟩;have E:=qa o2;refine(l.upd x (fun k f e=> ?_)).wider (fun k f=> ?_) (fun k f=> ?_)
        ·rcases f with f | f
         ·have:=C k f;omega
         ·omega
        ·rcases f with f | f
         ·exact .inl f
         ·exact .inr ⟨by omega,by omega⟩
        ·rcases f with f | f
         ·have:=C k f;omega
         ·exact f.2
 case rest =>
  obtain⟨K,rfl,rfl,hM,j5,u,hK⟩:=hcut;obtain⟨w3,rfl⟩:∃w3:World,w3=wc:=⟨_,rfl⟩;have s5:=hM.cells.2.2.1;have Y:=qb (And.intro j5 u);clear j5 u hM hA;go_wp2_with (with_reducible first|(first|refine' tw1 (qh ?_) ?_|refine' tw2 (qh ?_) ?_);rotate_left|refine' tw3 (qh ?_)|rfl|apply tn|refine' tw4 ?_);go_ret;exact⟨rfl,((qa Y).1.s).later (qa h7).size,((qa h7).mono (fun _ _ h=>h.elim)).trans (qa Y).2⟩
theorem q1m(g:Nat)(S:Nat→Prop)(n r:Nat)(x:Int)(MM:MsgV)(er:Int)(LL:Lk)(sp en lo:Nat)(w:World)(e3:∀k,S k→k<w.heap.size)(g3:n<2 ^ (8*8))(hr:r<18446744073709551616)(s8:IntKind.u64.wrap x=(r:Int))(N:MM.hash.length=32)
  (f8:∀PL PN PX w3,qq w w3→w.heap.size≤PL→w.heap.size≤PN→w.heap.size≤PX→w3.cell? ⟨PL,0,none⟩=some (.pointer (some ⟨g,0,none⟩))→w3.cell? ⟨PN,0,none⟩=some (.int .u64 (n:Int))→w3.cell? ⟨PX,0,none⟩=some (.int .i64 x)→∀B W,qq w3 W→w3.heap.size≤B→W.heap[B]? = some (.cells #[.string (qw 3 1),.string (qw n 8),.string (qb0 r 2)] 9 (0,0))→Calls Tryz.prog 45 #[.pointer (some ⟨g,0,none⟩),.func (.func 52) #[] #[.pointer (some ⟨PL,0,none⟩),.pointer (some ⟨PN,0,none⟩),.pointer (some ⟨PX,0,none⟩)],.slice (some ⟨B,0,none⟩) 3 3] W fun e W'=>e = .returned (.tuple #[.agg MM.cells.toArray,.int .i64 er])∧LkE W' g (Fr S W W') sp en lo LL∧Upd S W W') :
  Calls Tryz.prog 17 #[.pointer (some ⟨g,0,none⟩),.int .u64 (n:Int),.int .i64 x] w fun e w'=>e = .returned (.int .i64 er)∧LkS w' g (Fr S w w') LL∧Upd S w w':=by
 have s7:∀(fn:Fn) (first cap:Array Value) (w:World),(Instr.makeFunc fn first cap).run Tryz.prog w = .ok (.func fn first cap) w:=fun _ _ _ _=>rfl
 obtain⟨z,Y⟩:∃z,z=((w.alloc (.cells #[.pointer (some ⟨g,0,none⟩)] 28)).alloc (.cells #[.int .u64 (n:Int)] 22)).alloc (.cells #[.int .i64 x] 3):=⟨_,rfl⟩
 have n4:qq w z:=by rw[Y];exact((((Upd.refl _ _).alloc _).alloc _).alloc _)
 have a6:z.cell? ⟨w.heap.size,0,none⟩=some (.pointer (some ⟨g,0,none⟩)):=by
  rw[Y];exact qg (qs (qs (qj _ _) _) _) 0
 have V:z.cell? ⟨w.heap.size+1,0,none⟩=some (.int .u64 (n:Int)):=by
  rw[Y];have:=qj (w.alloc (.cells #[.pointer (some ⟨g,0,none⟩)] 28)) (.cells #[.int .u64 (n:Int)] 22);rw[World.size_alloc] at this;exact qg (qs this _) 0
 have R:z.cell? ⟨w.heap.size+1+1,0,none⟩=some (.int .i64 x):=by
  rw[Y];have:=qj ((w.alloc (.cells #[.pointer (some ⟨g,0,none⟩)] 28)).alloc (.cells #[.int .u64 (n:Int)] 22)) (.cells #[.int .i64 x] 3);rw[World.size_alloc,World.size_alloc] at this;exact qg this 0
 go_enter Tryz.func17,Tryz.ntmps17
 go_upto_region 1 with fail
 rw[←Y]
 have z4:w.heap.size+1+1<z.heap.size:=by rw[Y];simp only[World.size_alloc];omega
 clear Y
 obtain⟨PL,j3⟩:∃X,X=w.heap.size:=⟨_,rfl⟩
 rw[←j3] at a6 V R z4 ⊢
 obtain⟨PN,j4⟩:∃X,X=PL+1:=⟨_,rfl⟩
 rw[←j4] at V R z4 ⊢
 obtain⟨PX,j5⟩:∃X,X=PN+1:=⟨_,rfl⟩
 rw[←j5] at R z4 ⊢
 have g2:¬S PL∧¬S PN∧¬S PX:=⟨fun e=>by have:=e3 _ e;omega,fun e=>by have:=e3 _ e;omega,fun e=>by have:=e3 _ e;omega⟩
 have e4:w.heap.size≤PL∧w.heap.size≤PN∧w.heap.size≤PX:=⟨by omega,by omega,by omega⟩
 have h8:=qb n4
 have F:∀k,S k→k<z.heap.size:=fun k e=>Nat.lt_of_lt_of_le (e3 k e) n4.size
 have hA:=fun B W (nW:qq z W) hB hr=>f8 PL PN PX z n4 e4.1 e4.2.1 e4.2.2 a6 V R B W nW hB hr
 clear j3 j4 j5 z4 n4 f8 e4
 have c1:z.drew.cell? ⟨PL,0,none⟩=some (.pointer (some ⟨g,0,none⟩))∧z.drew.cell? ⟨PN,0,none⟩=some (.int .u64 (n:Int))∧z.drew.cell? ⟨PX,0,none⟩=some (.int .i64 x):=⟨a6,V,R⟩
 have m:∀X,qq z X→X.cell? ⟨PL,0,none⟩=some (.pointer (some ⟨g,0,none⟩))∧X.cell? ⟨PN,0,none⟩=some (.int .u64 (n:Int))∧X.cell? ⟨PX,0,none⟩=some (.int .i64 x):=fun X q=>⟨q.cell a6 (fun h=>h),q.cell V (fun h=>h),q.cell R (fun h=>h)⟩
 have o5:∀X S',LkE X g S' sp en lo LL→Upd S z X→X.cell? ⟨PL,0,none⟩=some (.pointer (some ⟨g,0,none⟩))∧X.cell? ⟨PN,0,none⟩=some (.int .u64 (n:Int))∧X.cell? ⟨PX,0,none⟩=some (.int .i64 x):=fun X S' _ q=>⟨q.cell a6 g2.1,q.cell V g2.2.1,q.cell R g2.2.2⟩
 have s9:qq z z.drew:=(Upd.refl _ _).drew
 clear a6 V R
 go_cut [7,8] from 9 to 21 (fun kv ev wx=>∃K,kv = .pointer (some ⟨K,0,none⟩)∧ev = .int .i64 er∧MsB wx K MM∧LkE wx g (Fr S z wx) sp en lo LL∧Upd S z wx∧z.heap.size≤K)
 case first =>
  refine qa1 (fun w'=>w'.cell? ⟨PL,0,none⟩=some (.pointer (some ⟨g,0,none⟩))∧w'.cell? ⟨PN,0,none⟩=some (.int .u64 (n:Int))∧w'.cell? ⟨PX,0,none⟩=some (.int .i64 x)) [0,3,5,6] (.fork (.of [13,0,1,2,3,4,5,6,7,8,9,10,11,12,14,15]) (Plan.pre [0,1,2] (.fork (.of [13,3,4,5,6,7,8,9,10,11,12,14,15]) (Plan.pre [3,4] (.fork (.of [13,5,6,7,8,9,10,11,12,14,15]) (Plan.pre [5,6,7] (.fork (.of [13,8,9,10,11,12,14,15]) (Plan.pre [8] (.fork (.of [13,9,10,11,12,14,15]) (.of [9,10,11,12,13,14,15])))))))))) (by kernel_rfl) (by kernel_rfl) c1 ?_;simp only[Plan.of,Plan.pre];refine qf ?_ ?_
  ·skip
   try go_wp2_with (with_reducible first|(first|refine' zv (qh ?_) ?_|refine' zx (qh ?_) ?_|refine' zy (qh ?_) ?_);rotate_left|refine' zz (qh ?_)|refine' qw5 (qh ?_)|rfl|apply qn)
   have m1:qq z (z.alloc (.cells MsgV.zero.cells.toArray 101)).drew:=((Upd.refl _ _).alloc _).drew;have b1:MsB (z.alloc (.cells MsgV.zero.cells.toArray 101)).drew z.heap.size MsgV.zero:=(zt z MsgV.zero qm).new (Upd.drew (Upd.refl (fun _=>False) _));obtain⟨K1,e1⟩:∃K,K=z.heap.size:=⟨_,rfl⟩;have n1:qq z (z.alloc (.cells MsgV.zero.cells.toArray 101)).drew:=m1
   first | refine⟨m _ n1,?_⟩ | skip
   have y1:=b1.lt;generalize (z.alloc (.cells MsgV.zero.cells.toArray 101)).drew=p8 at m1 b1 n1 y1 ⊢;have q1:=m _ n1;rw[←e1] at b1 y1 ⊢;have E1:=qb e1;have g1:z.heap.size≤K1:=by rw[e1];exact Nat.le_refl _
   clear e1
   try go_wp2_with (with_reducible first|(first|refine' zv (qh ?_) ?_|refine' zx (qh ?_) ?_|refine' zy (qh ?_) ?_);rotate_left|refine' zz (qh ?_)|refine' qw5 (qh ?_)|rfl|apply qn)
   refine(qbv 3 1 p8 (by decide) (by decide) (by decide)).mono ?_;rintro e l0 ⟨rfl,m2⟩;have n2:qq z l0:=n1.trans m2;have b2:=b1.new m2;have q2:=m _ n2;go_wp2_with (first | (with_reducible first|(first|refine' zv (qh ?_) ?_|refine' zx (qh ?_) ?_|refine' zy (qh ?_) ?_);rotate_left|refine' zz (qh ?_)|refine' qw5 (qh ?_)|rfl|apply qn) | refine⟨m _ n2,?_⟩);refine(qbv n 8 l0 (by decide) (by decide) g3).mono ?_;rintro e l3 ⟨rfl,m3⟩;have n3:qq z l3:=n2.trans m3;have b3:=b2.new m3;have q3:=m _ n3;go_wp2_with (first | (with_reducible first|(first|refine' zv (qh ?_) ?_|refine' zx (qh ?_) ?_|refine' zy (qh ?_) ?_);rotate_left|refine' zz (qh ?_)|refine' qw5 (qh ?_)|rfl|apply qn) | refine⟨m _ n3,?_⟩);refine(qdw r 2 l3 (by decide) (by decide) hr).mono ?_;rintro e U ⟨rfl,m4⟩;have n4:qq z U:=n3.trans m4;have b4:=b3.new m4;have q4:=m _ n4;go_wp2_with (first | (with_reducible first|(first|refine' zv (qh ?_) ?_|refine' zx (qh ?_) ?_|refine' zy (qh ?_) ?_);rotate_left|refine' zz (qh ?_)|refine' qw5 (qh ?_)|rfl|apply qn) | refine⟨m _ n4,?_⟩);have m5:qq U (U.alloc (.cells #[.string (qw 3 1),.string (qw n 8),.string (qb0 r 2)] 9)):=(Upd.refl _ _).alloc _;have n5:=n4.trans m5;have r5:=qj U (.cells #[.string (qw 3 1),.string (qw n 8),.string (qb0 r 2)] 9);have z5:U.heap.size<(U.alloc (.cells #[.string (qw 3 1),.string (qw n 8),.string (qb0 r 2)] 9)).heap.size:=by rw[World.size_alloc];omega
   have y5:=n4.size;have b5:=b4.new m5;have a5:=b4.lt;generalize U.alloc (.cells #[.string (qw 3 1),.string (qw n 8),.string (qb0 r 2)] 9)=q0 at m5 n5 r5 z5 b5 ⊢
   first | refine⟨m _ n5,?_⟩ | skip
   clear m5;have q5:=m _ n5;generalize U.heap.size=B5 at *
   try go_wp2_with (with_reducible first|(first|refine' zv (qh ?_) ?_|refine' zx (qh ?_) ?_|refine' zy (qh ?_) ?_);rotate_left|refine' zz (qh ?_)|refine' qw5 (qh ?_)|rfl|apply qn)
   have v:=hA B5 q0 n5 (by omega) r5;refine v.mono ?_;rintro e h1 ⟨rfl,l6,v6⟩;have u6:Upd S z h1:=(n5.mono (fun _ _ h=>h.elim)).trans v6;have x6:=n5.size;have y6:=v6.size;have b6:=b5.upd v6 (fun e=>by have:=F _ e;omega);clear v v6;have c3:=b6.stOk N;have c7:=b6.put N;have x7:Upd (· = K1) h1 _:=zc (w:=h1) (b:=K1) MM.cells;have Z:=qb (And.intro c7 (And.intro x7 (And.intro l6 u6)));have v8:=x7.size;clear c7 x7
   try go_wp2_with (with_reducible first|(first|refine' zv (qh ?_) ?_|refine' zx (qh ?_) ?_|refine' zy (qh ?_) ?_);rotate_left|refine' zz (qh ?_)|refine' qw5 (qh ?_)|rfl|apply qn)
   go_meet
   case rel =>
    obtain⟨c,x,l,u⟩:=qa Z;refine⟨K1,rfl,rfl,c,?_,u.then x (fun i hi e=>by omega),by omega⟩;have E:=qa E1;refine(l.upd x (fun k f e=> ?_)).wider (fun k f=> ?_) (fun k f=> ?_)
    ·rcases f with f | f
     ·have:=F k f;omega
     ·omega
    ·rcases f with f | f
     ·exact .inl f
     ·exact .inr ⟨by omega,by omega⟩
    ·rcases f with f | f
     ·have:=F k f;omega
     ·exact f.2
  ·skip
   try go_wp2_with (with_reducible first|(first|refine' zv (qh ?_) ?_|refine' zx (qh ?_) ?_|refine' zy (qh ?_) ?_);rotate_left|refine' zz (qh ?_)|refine' qw5 (qh ?_)|rfl|apply qn)
   refine(qbv 3 1 z.drew (by decide) (by decide) (by decide)).mono ?_;rintro e P ⟨rfl,m8⟩;replace m8:=m8.ofDrew;have n8:qq z P:=m8;have q8:=m _ n8;go_wp2_with (first | (with_reducible first|(first|refine' zv (qh ?_) ?_|refine' zx (qh ?_) ?_|refine' zy (qh ?_) ?_);rotate_left|refine' zz (qh ?_)|refine' qw5 (qh ?_)|rfl|apply qn) | refine⟨m _ n8,?_⟩);refine qf ?_ ?_
   ·skip
    try go_wp2_with (with_reducible first|(first|refine' zv (qh ?_) ?_|refine' zx (qh ?_) ?_|refine' zy (qh ?_) ?_);rotate_left|refine' zz (qh ?_)|refine' qw5 (qh ?_)|rfl|apply qn)
    have m9:qq P (P.alloc (.cells MsgV.zero.cells.toArray 101)):=((Upd.refl _ _).alloc _);have b9:MsB (P.alloc (.cells MsgV.zero.cells.toArray 101)) P.heap.size MsgV.zero:=zt P MsgV.zero qm;obtain⟨K9,e9⟩:∃K,K=P.heap.size:=⟨_,rfl⟩;have n9:qq z (P.alloc (.cells MsgV.zero.cells.toArray 101)):=n8.trans m9
    first | refine⟨m _ n9,?_⟩ | skip
    have y9:=b9.lt;generalize (P.alloc (.cells MsgV.zero.cells.toArray 101))=p9 at m9 b9 n9 y9 ⊢;have q9:=m _ n9;rw[←e9] at b9 y9 ⊢;have E9:=qb e9;have g9:z.heap.size≤K9:=by rw[e9];exact n8.size
    clear e9
    try go_wp2_with (with_reducible first|(first|refine' zv (qh ?_) ?_|refine' zx (qh ?_) ?_|refine' zy (qh ?_) ?_);rotate_left|refine' zz (qh ?_)|refine' qw5 (qh ?_)|rfl|apply qn)
    refine(qbv n 8 p9 (by decide) (by decide) g3).mono ?_;rintro e g0 ⟨rfl,j7⟩;have g6:qq z g0:=n9.trans j7;have o4:=b9.new j7;have t1:=m _ g6;go_wp2_with (first | (with_reducible first|(first|refine' zv (qh ?_) ?_|refine' zx (qh ?_) ?_|refine' zy (qh ?_) ?_);rotate_left|refine' zz (qh ?_)|refine' qw5 (qh ?_)|rfl|apply qn) | refine⟨m _ g6,?_⟩);refine(qdw r 2 g0 (by decide) (by decide) hr).mono ?_;rintro e J ⟨rfl,j8⟩;have f1:qq z J:=g6.trans j8;have h9:=o4.new j8;have t2:=m _ f1;go_wp2_with (first | (with_reducible first|(first|refine' zv (qh ?_) ?_|refine' zx (qh ?_) ?_|refine' zy (qh ?_) ?_);rotate_left|refine' zz (qh ?_)|refine' qw5 (qh ?_)|rfl|apply qn) | refine⟨m _ f1,?_⟩);have e5:qq J (J.alloc (.cells #[.string (qw 3 1),.string (qw n 8),.string (qb0 r 2)] 9)):=(Upd.refl _ _).alloc _;have a7:=f1.trans e5;have k4:=qj J (.cells #[.string (qw 3 1),.string (qw n 8),.string (qb0 r 2)] 9);have q6:J.heap.size<(J.alloc (.cells #[.string (qw 3 1),.string (qw n 8),.string (qb0 r 2)] 9)).heap.size:=by rw[World.size_alloc];omega
    have w0:=f1.size;have i0:=h9.new e5;have r7:=h9.lt;generalize J.alloc (.cells #[.string (qw 3 1),.string (qw n 8),.string (qb0 r 2)] 9)=l4 at e5 a7 k4 q6 i0 ⊢
    first | refine⟨m _ a7,?_⟩ | skip
    clear e5;have t6:=m _ a7;generalize J.heap.size=n0 at *
    try go_wp2_with (with_reducible first|(first|refine' zv (qh ?_) ?_|refine' zx (qh ?_) ?_|refine' zy (qh ?_) ?_);rotate_left|refine' zz (qh ?_)|refine' qw5 (qh ?_)|rfl|apply qn)
    have v:=hA n0 l4 a7 (by omega) k4;refine v.mono ?_;rintro e c6 ⟨rfl,o6,f4⟩;have p4:Upd S z c6:=(a7.mono (fun _ _ h=>h.elim)).trans f4;have u8:=a7.size;have w1:=f4.size;have i1:=i0.upd f4 (fun e=>by have:=F _ e;omega);clear v f4;have c3:=i1.stOk N;have i8:=i1.put N;have h2:Upd (· = K9) c6 _:=zc (w:=c6) (b:=K9) MM.cells;have Z:=qb (And.intro i8 (And.intro h2 (And.intro o6 p4)));have r1:=h2.size;clear i8 h2
    try go_wp2_with (with_reducible first|(first|refine' zv (qh ?_) ?_|refine' zx (qh ?_) ?_|refine' zy (qh ?_) ?_);rotate_left|refine' zz (qh ?_)|refine' qw5 (qh ?_)|rfl|apply qn)
    go_meet
    case rel =>
     obtain⟨c,x,l,u⟩:=qa Z;refine⟨K9,rfl,rfl,c,?_,u.then x (fun i hi e=>by omega),by omega⟩;have E:=qa E9;refine(l.upd x (fun k f e=> ?_)).wider (fun k f=> ?_) (fun k f=> ?_)
     ·rcases f with f | f
      ·have:=F k f;omega
      ·omega
     ·rcases f with f | f
      ·exact .inl f
      ·exact .inr ⟨by omega,by omega⟩
     ·rcases f with f | f
      ·have:=F k f;omega
      ·exact f.2
   ·skip
    try go_wp2_with (with_reducible first|(first|refine' zv (qh ?_) ?_|refine' zx (qh ?_) ?_|refine' zy (qh ?_) ?_);rotate_left|refine' zz (qh ?_)|refine' qw5 (qh ?_)|rfl|apply qn)
    refine(qbv n 8 P (by decide) (by decide) g3).mono ?_;rintro e H ⟨rfl,p1⟩;have c4:qq z H:=n8.trans p1;have t7:=m _ c4;go_wp2_with (first | (with_reducible first|(first|refine' zv (qh ?_) ?_|refine' zx (qh ?_) ?_|refine' zy (qh ?_) ?_);rotate_left|refine' zz (qh ?_)|refine' qw5 (qh ?_)|rfl|apply qn) | refine⟨m _ c4,?_⟩);refine qf ?_ ?_
    ·skip
     try go_wp2_with (with_reducible first|(first|refine' zv (qh ?_) ?_|refine' zx (qh ?_) ?_|refine' zy (qh ?_) ?_);rotate_left|refine' zz (qh ?_)|refine' qw5 (qh ?_)|rfl|apply qn)
     have j9:qq H (H.alloc (.cells MsgV.zero.cells.toArray 101)):=((Upd.refl _ _).alloc _);have d5:MsB (H.alloc (.cells MsgV.zero.cells.toArray 101)) H.heap.size MsgV.zero:=zt H MsgV.zero qm;obtain⟨d1,d8⟩:∃K,K=H.heap.size:=⟨_,rfl⟩;have f2:qq z (H.alloc (.cells MsgV.zero.cells.toArray 101)):=c4.trans j9
     first | refine⟨m _ f2,?_⟩ | skip
     have l8:=d5.lt;generalize (H.alloc (.cells MsgV.zero.cells.toArray 101))=k8 at j9 d5 f2 l8 ⊢;have t8:=m _ f2;rw[←d8] at d5 l8 ⊢;have o0:=qb d8;have s0:z.heap.size≤d1:=by rw[d8];exact c4.size
     clear d8
     try go_wp2_with (with_reducible first|(first|refine' zv (qh ?_) ?_|refine' zx (qh ?_) ?_|refine' zy (qh ?_) ?_);rotate_left|refine' zz (qh ?_)|refine' qw5 (qh ?_)|rfl|apply qn)
     refine(qdw r 2 k8 (by decide) (by decide) hr).mono ?_;rintro e L ⟨rfl,k0⟩;have f3:qq z L:=f2.trans k0;have i2:=d5.new k0;have u0:=m _ f3;go_wp2_with (first | (with_reducible first|(first|refine' zv (qh ?_) ?_|refine' zx (qh ?_) ?_|refine' zy (qh ?_) ?_);rotate_left|refine' zz (qh ?_)|refine' qw5 (qh ?_)|rfl|apply qn) | refine⟨m _ f3,?_⟩);have e6:qq L (L.alloc (.cells #[.string (qw 3 1),.string (qw n 8),.string (qb0 r 2)] 9)):=(Upd.refl _ _).alloc _;have a8:=f3.trans e6;have k5:=qj L (.cells #[.string (qw 3 1),.string (qw n 8),.string (qb0 r 2)] 9);have q7:L.heap.size<(L.alloc (.cells #[.string (qw 3 1),.string (qw n 8),.string (qb0 r 2)] 9)).heap.size:=by rw[World.size_alloc];omega
     have w2:=f3.size;have i3:=i2.new e6;have r8:=i2.lt;generalize L.alloc (.cells #[.string (qw 3 1),.string (qw n 8),.string (qb0 r 2)] 9)=l5 at e6 a8 k5 q7 i3 ⊢
     first | refine⟨m _ a8,?_⟩ | skip
     clear e6;have u1:=m _ a8;generalize L.heap.size=n6 at *
     try go_wp2_with (with_reducible first|(first|refine' zv (qh ?_) ?_|refine' zx (qh ?_) ?_|refine' zy (qh ?_) ?_);rotate_left|refine' zz (qh ?_)|refine' qw5 (qh ?_)|rfl|apply qn)
     have v:=hA n6 l5 a8 (by omega) k5;refine v.mono ?_;rintro e c8 ⟨rfl,o7,f5⟩;have p5:Upd S z c8:=(a8.mono (fun _ _ h=>h.elim)).trans f5;have u9:=a8.size;have w5:=f5.size;have i4:=i3.upd f5 (fun e=>by have:=F _ e;omega);clear v f5;have c3:=i4.stOk N;have i9:=i4.put N;have h3:Upd (· = d1) c8 _:=zc (w:=c8) (b:=d1) MM.cells;have Z:=qb (And.intro i9 (And.intro h3 (And.intro o7 p5)));have r2:=h3.size;clear i9 h3
     try go_wp2_with (with_reducible first|(first|refine' zv (qh ?_) ?_|refine' zx (qh ?_) ?_|refine' zy (qh ?_) ?_);rotate_left|refine' zz (qh ?_)|refine' qw5 (qh ?_)|rfl|apply qn)
     go_meet
     case rel =>
      obtain⟨c,x,l,u⟩:=qa Z;refine⟨d1,rfl,rfl,c,?_,u.then x (fun i hi e=>by omega),by omega⟩;have E:=qa o0;refine(l.upd x (fun k f e=> ?_)).wider (fun k f=> ?_) (fun k f=> ?_)
      ·rcases f with f | f
       ·have:=F k f;omega
       ·omega
      ·rcases f with f | f
       ·exact .inl f
       ·exact .inr ⟨by omega,by omega⟩
      ·rcases f with f | f
       ·have:=F k f;omega
       ·exact f.2
    ·skip
     try go_wp2_with (with_reducible first|(first|refine' zv (qh ?_) ?_|refine' zx (qh ?_) ?_|refine' zy (qh ?_) ?_);rotate_left|refine' zz (qh ?_)|refine' qw5 (qh ?_)|rfl|apply qn)
     refine(qdw r 2 H (by decide) (by decide) hr).mono ?_;rintro e C ⟨rfl,p2⟩;have b7:qq z C:=c4.trans p2;have u2:=m _ b7;go_wp2_with (first | (with_reducible first|(first|refine' zv (qh ?_) ?_|refine' zx (qh ?_) ?_|refine' zy (qh ?_) ?_);rotate_left|refine' zz (qh ?_)|refine' qw5 (qh ?_)|rfl|apply qn) | refine⟨m _ b7,?_⟩);refine qf ?_ ?_
     ·skip
      try go_wp2_with (with_reducible first|(first|refine' zv (qh ?_) ?_|refine' zx (qh ?_) ?_|refine' zy (qh ?_) ?_);rotate_left|refine' zz (qh ?_)|refine' qw5 (qh ?_)|rfl|apply qn)
      have k3:qq C (C.alloc (.cells MsgV.zero.cells.toArray 101)):=((Upd.refl _ _).alloc _);have c2:MsB (C.alloc (.cells MsgV.zero.cells.toArray 101)) C.heap.size MsgV.zero:=zt C MsgV.zero qm;obtain⟨d2,d9⟩:∃K,K=C.heap.size:=⟨_,rfl⟩;have c5:qq z (C.alloc (.cells MsgV.zero.cells.toArray 101)):=b7.trans k3
      first | refine⟨m _ c5,?_⟩ | skip
      have l9:=c2.lt;generalize (C.alloc (.cells MsgV.zero.cells.toArray 101))=O at k3 c2 c5 l9 ⊢;have u3:=m _ c5;rw[←d9] at c2 l9 ⊢;have o1:=qb d9;have s3:z.heap.size≤d2:=by rw[d9];exact b7.size
      clear d9
      try go_wp2_with (with_reducible first|(first|refine' zv (qh ?_) ?_|refine' zx (qh ?_) ?_|refine' zy (qh ?_) ?_);rotate_left|refine' zz (qh ?_)|refine' qw5 (qh ?_)|rfl|apply qn)
      have e7:qq O (O.alloc (.cells #[.string (qw 3 1),.string (qw n 8),.string (qb0 r 2)] 9)):=(Upd.refl _ _).alloc _;have b8:=c5.trans e7;have k6:=qj O (.cells #[.string (qw 3 1),.string (qw n 8),.string (qb0 r 2)] 9);have r0:O.heap.size<(O.alloc (.cells #[.string (qw 3 1),.string (qw n 8),.string (qb0 r 2)] 9)).heap.size:=by rw[World.size_alloc];omega
      have w6:=c5.size;have i5:=c2.new e7;have r9:=c2.lt;generalize O.alloc (.cells #[.string (qw 3 1),.string (qw n 8),.string (qb0 r 2)] 9)=l7 at e7 b8 k6 r0 i5 ⊢
      first | refine⟨m _ b8,?_⟩ | skip
      clear e7;have u4:=m _ b8;generalize O.heap.size=n7 at *
      try go_wp2_with (with_reducible first|(first|refine' zv (qh ?_) ?_|refine' zx (qh ?_) ?_|refine' zy (qh ?_) ?_);rotate_left|refine' zz (qh ?_)|refine' qw5 (qh ?_)|rfl|apply qn)
      have v:=hA n7 l7 b8 (by omega) k6;refine v.mono ?_;rintro e c9 ⟨rfl,o8,f6⟩;have p6:Upd S z c9:=(b8.mono (fun _ _ h=>h.elim)).trans f6;have v1:=b8.size;have w7:=f6.size;have i6:=i5.upd f6 (fun e=>by have:=F _ e;omega);clear v f6;have c3:=i6.stOk N;have j0:=i6.put N;have h4:Upd (· = d2) c9 _:=zc (w:=c9) (b:=d2) MM.cells;have Z:=qb (And.intro j0 (And.intro h4 (And.intro o8 p6)));have r3:=h4.size;clear j0 h4
      try go_wp2_with (with_reducible first|(first|refine' zv (qh ?_) ?_|refine' zx (qh ?_) ?_|refine' zy (qh ?_) ?_);rotate_left|refine' zz (qh ?_)|refine' qw5 (qh ?_)|rfl|apply qn)
      go_meet
      case rel =>
       obtain⟨c,x,l,u⟩:=qa Z;refine⟨d2,rfl,rfl,c,?_,u.then x (fun i hi e=>by omega),by omega⟩;have E:=qa o1;refine(l.upd x (fun k f e=> ?_)).wider (fun k f=> ?_) (fun k f=> ?_)
       ·rcases f with f | f
        ·have:=F k f;omega
        ·omega
       ·rcases f with f | f
        ·exact .inl f
        ·exact .inr ⟨by omega,by omega⟩
       ·rcases f with f | f
        ·have:=F k f;omega
        ·exact f.2
     ·skip
      try go_wp2_with (with_reducible first|(first|refine' zv (qh ?_) ?_|refine' zx (qh ?_) ?_|refine' zy (qh ?_) ?_);rotate_left|refine' zz (qh ?_)|refine' qw5 (qh ?_)|rfl|apply qn)
      have g5:qq C (C.alloc (.cells #[.string (qw 3 1),.string (qw n 8),.string (qb0 r 2)] 9)):=(Upd.refl _ _).alloc _;have T:=b7.trans g5;have g7:=qj C (.cells #[.string (qw 3 1),.string (qw n 8),.string (qb0 r 2)] 9);have m7:C.heap.size<(C.alloc (.cells #[.string (qw 3 1),.string (qw n 8),.string (qb0 r 2)] 9)).heap.size:=by rw[World.size_alloc];omega
      have w8:=b7.size;generalize C.alloc (.cells #[.string (qw 3 1),.string (qw n 8),.string (qb0 r 2)] 9)=I at g5 T g7 m7 ⊢
      first | refine⟨m _ T,?_⟩ | skip
      clear g5;have u5:=m _ T;generalize C.heap.size=h7 at *
      refine qf ?_ ?_
      ·skip
       try go_wp2_with (with_reducible first|(first|refine' zv (qh ?_) ?_|refine' zx (qh ?_) ?_|refine' zy (qh ?_) ?_);rotate_left|refine' zz (qh ?_)|refine' qw5 (qh ?_)|rfl|apply qn)
       have e8:qq I (I.alloc (.cells MsgV.zero.cells.toArray 101)):=((Upd.refl _ _).alloc _);have d6:MsB (I.alloc (.cells MsgV.zero.cells.toArray 101)) I.heap.size MsgV.zero:=zt I MsgV.zero qm;obtain⟨d3,e0⟩:∃K,K=I.heap.size:=⟨_,rfl⟩;have c0:qq z (I.alloc (.cells MsgV.zero.cells.toArray 101)):=T.trans e8
       first | refine⟨m _ c0,?_⟩ | skip
       have m0:=d6.lt;generalize (I.alloc (.cells MsgV.zero.cells.toArray 101))=k9 at e8 d6 c0 m0 ⊢;have u7:=m _ c0;have p3:=e8.old g7 (fun h=>h);have x1:=Nat.lt_of_lt_of_le m7 e8.size;rw[←e0] at d6 m0 ⊢;have o2:=qb e0;have s4:z.heap.size≤d3:=by rw[e0];exact T.size
       clear e0
       try go_wp2_with (with_reducible first|(first|refine' zv (qh ?_) ?_|refine' zx (qh ?_) ?_|refine' zy (qh ?_) ?_);rotate_left|refine' zz (qh ?_)|refine' qw5 (qh ?_)|rfl|apply qn)
       have v:=hA h7 k9 c0 (by omega) p3;refine v.mono ?_;rintro e d0 ⟨rfl,o9,f7⟩;have p7:Upd S z d0:=(c0.mono (fun _ _ h=>h.elim)).trans f7;have v2:=c0.size;have w9:=f7.size;have i7:=d6.upd f7 (fun e=>by have:=F _ e;omega);clear v f7;have c3:=i7.stOk N;have j1:=i7.put N;have h5:Upd (· = d3) d0 _:=zc (w:=d0) (b:=d3) MM.cells;have Z:=qb (And.intro j1 (And.intro h5 (And.intro o9 p7)));have r4:=h5.size;clear j1 h5
       try go_wp2_with (with_reducible first|(first|refine' zv (qh ?_) ?_|refine' zx (qh ?_) ?_|refine' zy (qh ?_) ?_);rotate_left|refine' zz (qh ?_)|refine' qw5 (qh ?_)|rfl|apply qn)
       go_meet
       case rel =>
        obtain⟨c,x,l,u⟩:=qa Z;refine⟨d3,rfl,rfl,c,?_,u.then x (fun i hi e=>by omega),by omega⟩;have E:=qa o2;refine(l.upd x (fun k f e=> ?_)).wider (fun k f=> ?_) (fun k f=> ?_)
        ·rcases f with f | f
         ·have:=F k f;omega
         ·omega
        ·rcases f with f | f
         ·exact .inl f
         ·exact .inr ⟨by omega,by omega⟩
        ·rcases f with f | f
         ·have:=F k f;omega
         ·exact f.2
      ·skip
       try go_wp2_with (with_reducible first|(first|refine' zv (qh ?_) ?_|refine' zx (qh ?_) ?_|refine' zy (qh ?_) ?_);rotate_left|refine' zz (qh ?_)|refine' qw5 (qh ?_)|rfl|apply qn)
       have v:=hA h7 I T (by omega) g7;refine v.mono ?_;rintro e M ⟨rfl,p0,h0⟩;have k7:Upd S z M:=(T.mono (fun _ _ h=>h.elim)).trans h0;have v7:=T.size;have x0:=h0.size;clear v h0
       try go_wp2_with (with_reducible first|(first|refine' zv (qh ?_) ?_|refine' zx (qh ?_) ?_|refine' zy (qh ?_) ?_);rotate_left|refine' zz (qh ?_)|refine' qw5 (qh ?_)|rfl|apply qn)
       have f0:qq M (M.alloc (.cells MsgV.zero.cells.toArray 101)):=((Upd.refl _ _).alloc _);have d7:MsB (M.alloc (.cells MsgV.zero.cells.toArray 101)) M.heap.size MsgV.zero:=zt M MsgV.zero qm;obtain⟨d4,e2⟩:∃K,K=M.heap.size:=⟨_,rfl⟩;have g4:=p0.new f0;have g8:=k7.trans (f0.mono (fun _ _ h=>h.elim));have m6:=f0.size;generalize (M.alloc (.cells MsgV.zero.cells.toArray 101))=f9 at f0 d7 g4 g8 m6 ⊢
       first | refine⟨o5 _ _ g4 g8,?_⟩ | skip
       rw[←e2] at d7 m6 ⊢;have o3:=qb e2;have s5:z.heap.size≤d4:=by rw[e2];exact k7.size
       clear e2;have c3:=d7.stOk N;have j2:=d7.put N;have h6:Upd (· = d4) f9 _:=zc (w:=f9) (b:=d4) MM.cells;have Z:=qb (And.intro j2 (And.intro h6 (And.intro g4 g8)));have r6:=h6.size;clear j2 h6
       try go_wp2_with (with_reducible first|(first|refine' zv (qh ?_) ?_|refine' zx (qh ?_) ?_|refine' zy (qh ?_) ?_);rotate_left|refine' zz (qh ?_)|refine' qw5 (qh ?_)|rfl|apply qn)
       go_meet
       case rel =>
        obtain⟨c,x,l,u⟩:=qa Z;refine⟨d4,rfl,rfl,c,?_,u.then x (fun i hi e=>by omega),by omega⟩;have E:=qa o3;refine(l.upd x (fun k f e=> ?_)).wider (fun k f=> ?_) (fun k f=> ?_)
        ·rcases f with f | f
         ·have:=F k f;omega
         ·omega
        ·rcases f with f | f
         ·exact .inl f
         ·exact .inr ⟨by omega,by omega⟩
        ·rcases f with f | f
         ·have:=F k f;omega
         ·exact f.2
 case rest =>
  obtain⟨K,rfl,rfl,hM,j6,u,hK⟩:=hcut;obtain⟨w3,rfl⟩:∃w3:World,w3=wc:=⟨_,rfl⟩;have s6:=hM.cells.2.2.1;have Z:=qb (And.intro j6 u);clear j6 u hM hA;go_wp2_with (with_reducible first|(first|refine' tw1 (qh ?_) ?_|refine' tw2 (qh ?_) ?_);rotate_left|refine' tw3 (qh ?_)|rfl|apply tn|refine' tw4 ?_);go_ret;exact⟨rfl,((qa Z).1.s).later (qa h8).size,((qa h8).mono (fun _ _ h=>h.elim)).trans (qa Z).2⟩
end Go.Proofs.YtfmkdoachjgjbaaGreatDoor
