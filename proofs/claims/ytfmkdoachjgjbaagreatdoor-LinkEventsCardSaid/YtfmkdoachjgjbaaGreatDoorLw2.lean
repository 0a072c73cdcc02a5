/-
  A link: Offer, whatever act does.
-/
import Derived.Test.YtfmkdoachjgjbaaGreatDoorLw1
set_option maxRecDepth 100000
set_option maxHeartbeats 8000000
set_option linter.unusedVariables false
set_option linter.unusedSimpArgs false
namespace Go.Proofs.YtfmkdoachjgjbaaGreatDoor
open Go.RowKit
attribute [local go_sem ↓ high] qz zb ze zi qak zl
attribute [local go_sem] qax qay qa4 qx qab qco qbl
theorem qxq(g:Nat)(S:Nat→Prop)(n r:Nat)(h:List Int)(x:Int)(MM:MsgV)(er:Int)(LL:Lk)(sp en lo:Nat)(w:World)(c9:∀k,S k→k<w.heap.size)(hl:h.length=32)(i0:n<2 ^ (8*8))(hr:r<18446744073709551616)(hwx:IntKind.u64.wrap x=(r:Int))(J:MM.hash.length=32)
  (h5:∀PL PN PH PX w3,qq w w3→w.heap.size≤PL→w.heap.size≤PN→w.heap.size≤PH→w.heap.size≤PX→w3.cell? ⟨PL,0,none⟩=some (.pointer (some ⟨g,0,none⟩))→w3.cell? ⟨PN,0,none⟩=some (.int .u64 (n:Int))→zf w3 PH 0 32=some (qu h).toArray→w3.cell? ⟨PX,0,none⟩=some (.int .i64 x)→∀B W,qq w3 W→w3.heap.size≤B→W.heap[B]? = some (.cells #[.string (qw 1 1),.string (qw n 8),.string (strOfNums h),.string (qb0 r 4)] 9 (0,0))→Calls Tryz.prog 45 #[.pointer (some ⟨g,0,none⟩),.func (.func 46) #[] #[.pointer (some ⟨PL,0,none⟩),.pointer (some ⟨PN,0,none⟩),.pointer (some ⟨PH,0,none⟩),.pointer (some ⟨PX,0,none⟩)],.slice (some ⟨B,0,none⟩) 4 4] W fun e W'=>e = .returned (.tuple #[.agg MM.cells.toArray,.int .i64 er])∧LkE W' g (Fr S W W') sp en lo LL∧Upd S W W') :
  Calls Tryz.prog 11 #[.pointer (some ⟨g,0,none⟩),.int .u64 (n:Int),.agg (qu h).toArray,.int .i64 x] w fun e w'=>e = .returned (.tuple #[.int .u64 MM.id,.int .i64 er])∧LkS w' g (Fr S w w') LL∧Upd S w w':=by
 have z8:∀(fn:Fn) (first cap:Array Value) (w:World),(Instr.makeFunc fn first cap).run Tryz.prog w = .ok (.func fn first cap) w:=fun _ _ _ _=>rfl
 obtain⟨z,Y⟩:∃z,z=(((w.alloc (.cells #[.pointer (some ⟨g,0,none⟩)] 28)).alloc (.cells #[.int .u64 (n:Int)] 22)).alloc (.cells (qu h).toArray 35)).alloc (.cells #[.int .i64 x] 3):=⟨_,rfl⟩
 have n4:qq w z:=by rw[Y];exact(((((Upd.refl _ _).alloc _).alloc _).alloc _).alloc _)
 have b8:z.cell? ⟨w.heap.size,0,none⟩=some (.pointer (some ⟨g,0,none⟩)):=by
  rw[Y];exact qg (qs (qs (qs (qj _ _) _) _) _) 0
 have a8:z.cell? ⟨w.heap.size+1,0,none⟩=some (.int .u64 (n:Int)):=by
  rw[Y];have:=qj (w.alloc (.cells #[.pointer (some ⟨g,0,none⟩)] 28)) (.cells #[.int .u64 (n:Int)] 22);rw[World.size_alloc] at this;exact qg (qs (qs this _) _) 0
 have V:zf z (w.heap.size+1+1) 0 32=some (qu h).toArray:=by
  rw[Y];have:=qj ((w.alloc (.cells #[.pointer (some ⟨g,0,none⟩)] 28)).alloc (.cells #[.int .u64 (n:Int)] 22)) (.cells (qu h).toArray 35);rw[World.size_alloc,World.size_alloc] at this;exact qas (qs this _) 32 (by rw[List.size_toArray,qal,hl])
 have U:z.cell? ⟨w.heap.size+1+1+1,0,none⟩=some (.int .i64 x):=by
  rw[Y];have:=qj (((w.alloc (.cells #[.pointer (some ⟨g,0,none⟩)] 28)).alloc (.cells #[.int .u64 (n:Int)] 22)).alloc (.cells (qu h).toArray 35)) (.cells #[.int .i64 x] 3);rw[World.size_alloc,World.size_alloc,World.size_alloc] at this;exact qg this 0
 go_enter Tryz.func11,Tryz.ntmps11
 go_upto_region 1 with fail
 rw[←Y]
 have z4:w.heap.size+1+1+1<z.heap.size:=by rw[Y];simp only[World.size_alloc];omega
 clear Y
 obtain⟨PL,m8⟩:∃X,X=w.heap.size:=⟨_,rfl⟩
 rw[←m8] at b8 a8 V U z4 ⊢
 obtain⟨PN,n0⟩:∃X,X=PL+1:=⟨_,rfl⟩
 rw[←n0] at a8 V U z4 ⊢
 obtain⟨PH,m7⟩:∃X,X=PN+1:=⟨_,rfl⟩
 rw[←m7] at V U z4 ⊢
 obtain⟨PX,n7⟩:∃X,X=PH+1:=⟨_,rfl⟩
 rw[←n7] at U z4 ⊢
 have f7:¬S PL∧¬S PN∧¬S PH∧¬S PX:=⟨fun e=>by have:=c9 _ e;omega,fun e=>by have:=c9 _ e;omega,fun e=>by have:=c9 _ e;omega,fun e=>by have:=c9 _ e;omega⟩
 have d0:w.heap.size≤PL∧w.heap.size≤PN∧w.heap.size≤PH∧w.heap.size≤PX:=⟨by omega,by omega,by omega,by omega⟩
 have j7:=qb n4
 have F:∀k,S k→k<z.heap.size:=fun k e=>Nat.lt_of_lt_of_le (c9 k e) n4.size
 have hA:=fun B W (nW:qq z W) hB hr=>h5 PL PN PH PX z n4 d0.1 d0.2.1 d0.2.2.1 d0.2.2.2 b8 a8 V U B W nW hB hr
 clear m8 n0 m7 n7 z4 n4 h5 d0
 have c1:z.drew.cell? ⟨PL,0,none⟩=some (.pointer (some ⟨g,0,none⟩))∧z.drew.cell? ⟨PN,0,none⟩=some (.int .u64 (n:Int))∧zf z.drew PH 0 32=some (qu h).toArray∧z.drew.cell? ⟨PX,0,none⟩=some (.int .i64 x):=⟨b8,a8,V,U⟩
 have m:∀X,qq z X→X.cell? ⟨PL,0,none⟩=some (.pointer (some ⟨g,0,none⟩))∧X.cell? ⟨PN,0,none⟩=some (.int .u64 (n:Int))∧zf X PH 0 32=some (qu h).toArray∧X.cell? ⟨PX,0,none⟩=some (.int .i64 x):=fun X q=>⟨q.cell b8 (fun h=>h),q.cell a8 (fun h=>h),qap V q (fun h=>h),q.cell U (fun h=>h)⟩
 have u1:∀X S',LkE X g S' sp en lo LL→Upd S z X→X.cell? ⟨PL,0,none⟩=some (.pointer (some ⟨g,0,none⟩))∧X.cell? ⟨PN,0,none⟩=some (.int .u64 (n:Int))∧zf X PH 0 32=some (qu h).toArray∧X.cell? ⟨PX,0,none⟩=some (.int .i64 x):=fun X S' _ q=>⟨q.cell b8 f7.1,q.cell a8 f7.2.1,qap V q f7.2.2.1,q.cell U f7.2.2.2⟩
 have n00:qq z z.drew:=(Upd.refl _ _).drew
 clear b8 a8 V U
 go_cut [10,11] from 12 to 26 (fun kv ev wx=>∃K,kv = .pointer (some ⟨K,0,none⟩)∧ev = .int .i64 er∧MsB wx K MM∧LkE wx g (Fr S z wx) sp en lo LL∧Upd S z wx∧z.heap.size≤K)
 case first =>
  refine qa1 (fun w'=>w'.cell? ⟨PL,0,none⟩=some (.pointer (some ⟨g,0,none⟩))∧w'.cell? ⟨PN,0,none⟩=some (.int .u64 (n:Int))∧zf w' PH 0 32=some (qu h).toArray∧w'.cell? ⟨PX,0,none⟩=some (.int .i64 x)) [0,3,5,7,8] (.fork (.of [15,0,1,2,3,4,5,6,7,8,9,10,11,12,13,14,16,17]) (Plan.pre [0,1,2] (.fork (.of [15,3,4,5,6,7,8,9,10,11,12,13,14,16,17]) (Plan.pre [3,4] (.fork (.of [15,5,6,7,8,9,10,11,12,13,14,16,17]) (Plan.pre [5,6] (.fork (.of [15,7,8,9,10,11,12,13,14,16,17]) (Plan.pre [7,8,9] (.fork (.of [15,10,11,12,13,14,16,17]) (Plan.pre [10] (.fork (.of [15,11,12,13,14,16,17]) (.of [11,12,13,14,15,16,17])))))))))))) (by kernel_rfl) (by kernel_rfl) c1 ?_;simp only[Plan.of,Plan.pre];refine qf ?_ ?_
  ·skip
   try go_wp2_with (with_reducible first|(first|refine' zv (qh ?_) ?_|refine' zx (qh ?_) ?_|refine' zy (qh ?_) ?_);rotate_left|refine' zz (qh ?_)|refine' qw5 (qh ?_)|rfl|apply qn)
   have m1:qq z (z.alloc (.cells MsgV.zero.cells.toArray 101)).drew:=((Upd.refl _ _).alloc _).drew;have b1:MsB (z.alloc (.cells MsgV.zero.cells.toArray 101)).drew z.heap.size MsgV.zero:=(zt z MsgV.zero qm).new (Upd.drew (Upd.refl (fun _=>False) _));obtain⟨K1,e1⟩:∃K,K=z.heap.size:=⟨_,rfl⟩;have n1:qq z (z.alloc (.cells MsgV.zero.cells.toArray 101)).drew:=m1
   first | refine⟨m _ n1,?_⟩ | skip
   have y1:=b1.lt;generalize (z.alloc (.cells MsgV.zero.cells.toArray 101)).drew=w6 at m1 b1 n1 y1 ⊢;have q1:=m _ n1;rw[←e1] at b1 y1 ⊢;have E1:=qb e1;have g1:z.heap.size≤K1:=by rw[e1];exact Nat.le_refl _
   clear e1
   try go_wp2_with (with_reducible first|(first|refine' zv (qh ?_) ?_|refine' zx (qh ?_) ?_|refine' zy (qh ?_) ?_);rotate_left|refine' zz (qh ?_)|refine' qw5 (qh ?_)|rfl|apply qn)
   refine(qbv 1 1 w6 (by decide) (by decide) (by decide)).mono ?_;rintro e p9 ⟨rfl,m2⟩;have n2:qq z p9:=n1.trans m2;have b2:=b1.new m2;have q2:=m _ n2;go_wp2_with (first | (with_reducible first|(first|refine' zv (qh ?_) ?_|refine' zx (qh ?_) ?_|refine' zy (qh ?_) ?_);rotate_left|refine' zz (qh ?_)|refine' qw5 (qh ?_)|rfl|apply qn) | refine⟨m _ n2,?_⟩);refine(qbv n 8 p9 (by decide) (by decide) i0).mono ?_;rintro e q0 ⟨rfl,m3⟩;have n3:qq z q0:=n2.trans m3;have b3:=b2.new m3;have q3:=m _ n3;go_wp2_with (first | (with_reducible first|(first|refine' zv (qh ?_) ?_|refine' zx (qh ?_) ?_|refine' zy (qh ?_) ?_);rotate_left|refine' zz (qh ?_)|refine' qw5 (qh ?_)|rfl|apply qn) | refine⟨m _ n3,?_⟩);refine(qd6 h q0 hl).mono ?_;rintro e q7 ⟨rfl,m4⟩;have n4:qq z q7:=n3.trans m4;have b4:=b3.new m4;have q4:=m _ n4;go_wp2_with (first | (with_reducible first|(first|refine' zv (qh ?_) ?_|refine' zx (qh ?_) ?_|refine' zy (qh ?_) ?_);rotate_left|refine' zz (qh ?_)|refine' qw5 (qh ?_)|rfl|apply qn) | refine⟨m _ n4,?_⟩);refine(qdw r 4 q7 (by decide) (by decide) hr).mono ?_;rintro e a7 ⟨rfl,m5⟩;have n5:qq z a7:=n4.trans m5;have b5:=b4.new m5;have q5:=m _ n5;go_wp2_with (first | (with_reducible first|(first|refine' zv (qh ?_) ?_|refine' zx (qh ?_) ?_|refine' zy (qh ?_) ?_);rotate_left|refine' zz (qh ?_)|refine' qw5 (qh ?_)|rfl|apply qn) | refine⟨m _ n5,?_⟩);have m6:qq a7 (a7.alloc (.cells #[.string (qw 1 1),.string (qw n 8),.string (strOfNums h),.string (qb0 r 4)] 9)):=(Upd.refl _ _).alloc _;have n6:=n5.trans m6
   have r6:=qj a7 (.cells #[.string (qw 1 1),.string (qw n 8),.string (strOfNums h),.string (qb0 r 4)] 9);have z6:a7.heap.size<(a7.alloc (.cells #[.string (qw 1 1),.string (qw n 8),.string (strOfNums h),.string (qb0 r 4)] 9)).heap.size:=by rw[World.size_alloc];omega
   have y6:=n5.size;have b6:=b5.new m6;have a6:=b5.lt;generalize a7.alloc (.cells #[.string (qw 1 1),.string (qw n 8),.string (strOfNums h),.string (qb0 r 4)] 9)=w7 at m6 n6 r6 z6 b6 ⊢
   first | refine⟨m _ n6,?_⟩ | skip
   clear m6;have q6:=m _ n6;generalize a7.heap.size=B6 at *
   try go_wp2_with (with_reducible first|(first|refine' zv (qh ?_) ?_|refine' zx (qh ?_) ?_|refine' zy (qh ?_) ?_);rotate_left|refine' zz (qh ?_)|refine' qw5 (qh ?_)|rfl|apply qn)
   have v:=hA B6 w7 n6 (by omega) r6;refine v.mono ?_;rintro e i9 ⟨rfl,l7,v7⟩;have u7:Upd S z i9:=(n6.mono (fun _ _ h=>h.elim)).trans v7;have x7:=n6.size;have y7:=v7.size;have b7:=b6.upd v7 (fun e=>by have:=F _ e;omega);clear v v7;have b9:=b7.stOk J;have c8:=b7.put J;have x8:Upd (· = K1) i9 _:=zc (w:=i9) (b:=K1) MM.cells;have HE:=qb (And.intro c8 (And.intro x8 (And.intro l7 u7)));have xx8:=x8.size;clear c8 x8
   try go_wp2_with (with_reducible first|(first|refine' zv (qh ?_) ?_|refine' zx (qh ?_) ?_|refine' zy (qh ?_) ?_);rotate_left|refine' zz (qh ?_)|refine' qw5 (qh ?_)|rfl|apply qn)
   go_meet
   case rel =>
    obtain⟨c,x,l,u⟩:=qa HE;refine⟨K1,rfl,rfl,c,?_,u.then x (fun i hi e=>by omega),by omega⟩;have E:=qa E1;refine(l.upd x (fun k f e=> ?_)).wider (fun k f=> ?_) (fun k f=> ?_)
    ·rcases f with f | f
     ·have:=F k f;omega
     ·omega
    ·rcases f with f | f
     ·exact .inl f
     ·exact .inr ⟨by omega,by omega⟩
    ·rcases f with f | f
     ·have:=F k f;omega
     ·exact f.2
  ·skip
   try go_wp2_with (with_reducible first|(first|refine' zv (qh ?_) ?_|refine' zx (qh ?_) ?_|refine' zy (qh ?_) ?_);rotate_left|refine' zz (qh ?_)|refine' qw5 (qh ?_)|rfl|apply qn)
   refine(qbv 1 1 z.drew (by decide) (by decide) (by decide)).mono ?_;rintro e T ⟨rfl,m9⟩;replace m9:=m9.ofDrew;have n9:qq z T:=m9;have q9:=m _ n9;go_wp2_with (first | (with_reducible first|(first|refine' zv (qh ?_) ?_|refine' zx (qh ?_) ?_|refine' zy (qh ?_) ?_);rotate_left|refine' zz (qh ?_)|refine' qw5 (qh ?_)|rfl|apply qn) | refine⟨m _ n9,?_⟩);refine qf ?_ ?_
   ·skip
    try go_wp2_with (with_reducible first|(first|refine' zv (qh ?_) ?_|refine' zx (qh ?_) ?_|refine' zy (qh ?_) ?_);rotate_left|refine' zz (qh ?_)|refine' qw5 (qh ?_)|rfl|apply qn)
    have o0:qq T (T.alloc (.cells MsgV.zero.cells.toArray 101)):=((Upd.refl _ _).alloc _);have e6:MsB (T.alloc (.cells MsgV.zero.cells.toArray 101)) T.heap.size MsgV.zero:=zt T MsgV.zero qm;obtain⟨d9,f1⟩:∃K,K=T.heap.size:=⟨_,rfl⟩;have g5:qq z (T.alloc (.cells MsgV.zero.cells.toArray 101)):=n9.trans o0
    first | refine⟨m _ g5,?_⟩ | skip
    have r3:=e6.lt;generalize (T.alloc (.cells MsgV.zero.cells.toArray 101))=p5 at o0 e6 g5 r3 ⊢;have q10:=m _ g5;rw[←f1] at e6 r3 ⊢;have s7:=qb f1;have y4:z.heap.size≤d9:=by rw[f1];exact n9.size
    clear f1
    try go_wp2_with (with_reducible first|(first|refine' zv (qh ?_) ?_|refine' zx (qh ?_) ?_|refine' zy (qh ?_) ?_);rotate_left|refine' zz (qh ?_)|refine' qw5 (qh ?_)|rfl|apply qn)
    refine(qbv n 8 p5 (by decide) (by decide) i0).mono ?_;rintro e h7 ⟨rfl,o1⟩;have i3:qq z h7:=g5.trans o1;have t7:=e6.new o1;have q11:=m _ i3;go_wp2_with (first | (with_reducible first|(first|refine' zv (qh ?_) ?_|refine' zx (qh ?_) ?_|refine' zy (qh ?_) ?_);rotate_left|refine' zz (qh ?_)|refine' qw5 (qh ?_)|rfl|apply qn) | refine⟨m _ i3,?_⟩);refine(qd6 h h7 hl).mono ?_;rintro e h8 ⟨rfl,o2⟩;have i4:qq z h8:=i3.trans o2;have t8:=t7.new o2;have q12:=m _ i4;go_wp2_with (first | (with_reducible first|(first|refine' zv (qh ?_) ?_|refine' zx (qh ?_) ?_|refine' zy (qh ?_) ?_);rotate_left|refine' zz (qh ?_)|refine' qw5 (qh ?_)|rfl|apply qn) | refine⟨m _ i4,?_⟩);refine(qdw r 4 h8 (by decide) (by decide) hr).mono ?_;rintro e M ⟨rfl,o3⟩;have g6:qq z M:=i4.trans o3;have j8:=t8.new o3;have q13:=m _ g6;go_wp2_with (first | (with_reducible first|(first|refine' zv (qh ?_) ?_|refine' zx (qh ?_) ?_|refine' zy (qh ?_) ?_);rotate_left|refine' zz (qh ?_)|refine' qw5 (qh ?_)|rfl|apply qn) | refine⟨m _ g6,?_⟩);have f8:qq M (M.alloc (.cells #[.string (qw 1 1),.string (qw n 8),.string (strOfNums h),.string (qb0 r 4)] 9)):=(Upd.refl _ _).alloc _;have c0:=g6.trans f8;have p0:=qj M (.cells #[.string (qw 1 1),.string (qw n 8),.string (strOfNums h),.string (qb0 r 4)] 9);have w8:M.heap.size<(M.alloc (.cells #[.string (qw 1 1),.string (qw n 8),.string (strOfNums h),.string (qb0 r 4)] 9)).heap.size:=by rw[World.size_alloc];omega
    have y14:=g6.size;have j9:=j8.new f8;have x9:=j8.lt;generalize M.alloc (.cells #[.string (qw 1 1),.string (qw n 8),.string (strOfNums h),.string (qb0 r 4)] 9)=q8 at f8 c0 p0 w8 j9 ⊢
    first | refine⟨m _ c0,?_⟩ | skip
    clear f8;have q14:=m _ c0;generalize M.heap.size=s3 at *
    try go_wp2_with (with_reducible first|(first|refine' zv (qh ?_) ?_|refine' zx (qh ?_) ?_|refine' zy (qh ?_) ?_);rotate_left|refine' zz (qh ?_)|refine' qw5 (qh ?_)|rfl|apply qn)
    have v:=hA s3 q8 c0 (by omega) p0;refine v.mono ?_;rintro e d4 ⟨rfl,u2,h1⟩;have v8:Upd S z d4:=(c0.mono (fun _ _ h=>h.elim)).trans h1;have x15:=c0.size;have y15:=h1.size;have k0:=j9.upd h1 (fun e=>by have:=F _ e;omega);clear v h1;have b9:=k0.stOk J;have l4:=k0.put J;have j0:Upd (· = d9) d4 _:=zc (w:=d4) (b:=d9) MM.cells;have HE:=qb (And.intro l4 (And.intro j0 (And.intro u2 v8)));have x1:=j0.size;clear l4 j0
    try go_wp2_with (with_reducible first|(first|refine' zv (qh ?_) ?_|refine' zx (qh ?_) ?_|refine' zy (qh ?_) ?_);rotate_left|refine' zz (qh ?_)|refine' qw5 (qh ?_)|rfl|apply qn)
    go_meet
    case rel =>
     obtain⟨c,x,l,u⟩:=qa HE;refine⟨d9,rfl,rfl,c,?_,u.then x (fun i hi e=>by omega),by omega⟩;have E:=qa s7;refine(l.upd x (fun k f e=> ?_)).wider (fun k f=> ?_) (fun k f=> ?_)
     ·rcases f with f | f
      ·have:=F k f;omega
      ·omega
     ·rcases f with f | f
      ·exact .inl f
      ·exact .inr ⟨by omega,by omega⟩
     ·rcases f with f | f
      ·have:=F k f;omega
      ·exact f.2
   ·skip
    try go_wp2_with (with_reducible first|(first|refine' zv (qh ?_) ?_|refine' zx (qh ?_) ?_|refine' zy (qh ?_) ?_);rotate_left|refine' zz (qh ?_)|refine' qw5 (qh ?_)|rfl|apply qn)
    refine(qbv n 8 T (by decide) (by decide) i0).mono ?_;rintro e H ⟨rfl,u9⟩;have d1:qq z H:=n9.trans u9;have q17:=m _ d1;go_wp2_with (first | (with_reducible first|(first|refine' zv (qh ?_) ?_|refine' zx (qh ?_) ?_|refine' zy (qh ?_) ?_);rotate_left|refine' zz (qh ?_)|refine' qw5 (qh ?_)|rfl|apply qn) | refine⟨m _ d1,?_⟩);refine qf ?_ ?_
    ·skip
     try go_wp2_with (with_reducible first|(first|refine' zv (qh ?_) ?_|refine' zx (qh ?_) ?_|refine' zy (qh ?_) ?_);rotate_left|refine' zz (qh ?_)|refine' qw5 (qh ?_)|rfl|apply qn)
     have o4:qq H (H.alloc (.cells MsgV.zero.cells.toArray 101)):=((Upd.refl _ _).alloc _);have e7:MsB (H.alloc (.cells MsgV.zero.cells.toArray 101)) H.heap.size MsgV.zero:=zt H MsgV.zero qm;obtain⟨e0,f2⟩:∃K,K=H.heap.size:=⟨_,rfl⟩;have g7:qq z (H.alloc (.cells MsgV.zero.cells.toArray 101)):=d1.trans o4
     first | refine⟨m _ g7,?_⟩ | skip
     have r4:=e7.lt;generalize (H.alloc (.cells MsgV.zero.cells.toArray 101))=p6 at o4 e7 g7 r4 ⊢;have q18:=m _ g7;rw[←f2] at e7 r4 ⊢;have s8:=qb f2;have y5:z.heap.size≤e0:=by rw[f2];exact d1.size
     clear f2
     try go_wp2_with (with_reducible first|(first|refine' zv (qh ?_) ?_|refine' zx (qh ?_) ?_|refine' zy (qh ?_) ?_);rotate_left|refine' zz (qh ?_)|refine' qw5 (qh ?_)|rfl|apply qn)
     refine(qd6 h p6 hl).mono ?_;rintro e h9 ⟨rfl,o5⟩;have i5:qq z h9:=g7.trans o5;have u0:=e7.new o5;have q19:=m _ i5;go_wp2_with (first | (with_reducible first|(first|refine' zv (qh ?_) ?_|refine' zx (qh ?_) ?_|refine' zy (qh ?_) ?_);rotate_left|refine' zz (qh ?_)|refine' qw5 (qh ?_)|rfl|apply qn) | refine⟨m _ i5,?_⟩);refine(qdw r 4 h9 (by decide) (by decide) hr).mono ?_;rintro e N ⟨rfl,o6⟩;have g8:qq z N:=i5.trans o6;have k3:=u0.new o6;have q20:=m _ g8;go_wp2_with (first | (with_reducible first|(first|refine' zv (qh ?_) ?_|refine' zx (qh ?_) ?_|refine' zy (qh ?_) ?_);rotate_left|refine' zz (qh ?_)|refine' qw5 (qh ?_)|rfl|apply qn) | refine⟨m _ g8,?_⟩);have f9:qq N (N.alloc (.cells #[.string (qw 1 1),.string (qw n 8),.string (strOfNums h),.string (qb0 r 4)] 9)):=(Upd.refl _ _).alloc _;have c2:=g8.trans f9;have p1:=qj N (.cells #[.string (qw 1 1),.string (qw n 8),.string (strOfNums h),.string (qb0 r 4)] 9);have w9:N.heap.size<(N.alloc (.cells #[.string (qw 1 1),.string (qw n 8),.string (strOfNums h),.string (qb0 r 4)] 9)).heap.size:=by rw[World.size_alloc];omega
     have y21:=g8.size;have k4:=k3.new f9;have y0:=k3.lt;generalize N.alloc (.cells #[.string (qw 1 1),.string (qw n 8),.string (strOfNums h),.string (qb0 r 4)] 9)=r0 at f9 c2 p1 w9 k4 ⊢
     first | refine⟨m _ c2,?_⟩ | skip
     clear f9;have q21:=m _ c2;generalize N.heap.size=s4 at *
     try go_wp2_with (with_reducible first|(first|refine' zv (qh ?_) ?_|refine' zx (qh ?_) ?_|refine' zy (qh ?_) ?_);rotate_left|refine' zz (qh ?_)|refine' qw5 (qh ?_)|rfl|apply qn)
     have v:=hA s4 r0 c2 (by omega) p1;refine v.mono ?_;rintro e d5 ⟨rfl,u3,h2⟩;have w0:Upd S z d5:=(c2.mono (fun _ _ h=>h.elim)).trans h2;have x22:=c2.size;have y22:=h2.size;have k5:=k4.upd h2 (fun e=>by have:=F _ e;omega);clear v h2;have b9:=k5.stOk J;have l5:=k5.put J;have j1:Upd (· = e0) d5 _:=zc (w:=d5) (b:=e0) MM.cells;have HE:=qb (And.intro l5 (And.intro j1 (And.intro u3 w0)));have x2:=j1.size;clear l5 j1
     try go_wp2_with (with_reducible first|(first|refine' zv (qh ?_) ?_|refine' zx (qh ?_) ?_|refine' zy (qh ?_) ?_);rotate_left|refine' zz (qh ?_)|refine' qw5 (qh ?_)|rfl|apply qn)
     go_meet
     case rel =>
      obtain⟨c,x,l,u⟩:=qa HE;refine⟨e0,rfl,rfl,c,?_,u.then x (fun i hi e=>by omega),by omega⟩;have E:=qa s8;refine(l.upd x (fun k f e=> ?_)).wider (fun k f=> ?_) (fun k f=> ?_)
      ·rcases f with f | f
       ·have:=F k f;omega
       ·omega
      ·rcases f with f | f
       ·exact .inl f
       ·exact .inr ⟨by omega,by omega⟩
      ·rcases f with f | f
       ·have:=F k f;omega
       ·exact f.2
    ·skip
     try go_wp2_with (with_reducible first|(first|refine' zv (qh ?_) ?_|refine' zx (qh ?_) ?_|refine' zy (qh ?_) ?_);rotate_left|refine' zz (qh ?_)|refine' qw5 (qh ?_)|rfl|apply qn)
     refine(qd6 h H hl).mono ?_;rintro e I ⟨rfl,v1⟩;have d2:qq z I:=d1.trans v1;have q24:=m _ d2;go_wp2_with (first | (with_reducible first|(first|refine' zv (qh ?_) ?_|refine' zx (qh ?_) ?_|refine' zy (qh ?_) ?_);rotate_left|refine' zz (qh ?_)|refine' qw5 (qh ?_)|rfl|apply qn) | refine⟨m _ d2,?_⟩);refine qf ?_ ?_
     ·skip
      try go_wp2_with (with_reducible first|(first|refine' zv (qh ?_) ?_|refine' zx (qh ?_) ?_|refine' zy (qh ?_) ?_);rotate_left|refine' zz (qh ?_)|refine' qw5 (qh ?_)|rfl|apply qn)
      have o7:qq I (I.alloc (.cells MsgV.zero.cells.toArray 101)):=((Upd.refl _ _).alloc _);have e8:MsB (I.alloc (.cells MsgV.zero.cells.toArray 101)) I.heap.size MsgV.zero:=zt I MsgV.zero qm;obtain⟨e2,f3⟩:∃K,K=I.heap.size:=⟨_,rfl⟩;have g9:qq z (I.alloc (.cells MsgV.zero.cells.toArray 101)):=d2.trans o7
      first | refine⟨m _ g9,?_⟩ | skip
      have r5:=e8.lt;generalize (I.alloc (.cells MsgV.zero.cells.toArray 101))=p7 at o7 e8 g9 r5 ⊢;have q25:=m _ g9;rw[←f3] at e8 r5 ⊢;have s9:=qb f3;have y8:z.heap.size≤e2:=by rw[f3];exact d2.size
      clear f3
      try go_wp2_with (with_reducible first|(first|refine' zv (qh ?_) ?_|refine' zx (qh ?_) ?_|refine' zy (qh ?_) ?_);rotate_left|refine' zz (qh ?_)|refine' qw5 (qh ?_)|rfl|apply qn)
      refine(qdw r 4 p7 (by decide) (by decide) hr).mono ?_;rintro e O ⟨rfl,o8⟩;have h0:qq z O:=g9.trans o8;have k6:=e8.new o8;have q26:=m _ h0;go_wp2_with (first | (with_reducible first|(first|refine' zv (qh ?_) ?_|refine' zx (qh ?_) ?_|refine' zy (qh ?_) ?_);rotate_left|refine' zz (qh ?_)|refine' qw5 (qh ?_)|rfl|apply qn) | refine⟨m _ h0,?_⟩);have g0:qq O (O.alloc (.cells #[.string (qw 1 1),.string (qw n 8),.string (strOfNums h),.string (qb0 r 4)] 9)):=(Upd.refl _ _).alloc _;have c3:=h0.trans g0;have p2:=qj O (.cells #[.string (qw 1 1),.string (qw n 8),.string (strOfNums h),.string (qb0 r 4)] 9);have x0:O.heap.size<(O.alloc (.cells #[.string (qw 1 1),.string (qw n 8),.string (strOfNums h),.string (qb0 r 4)] 9)).heap.size:=by rw[World.size_alloc];omega
      have y27:=h0.size;have k7:=k6.new g0;have y2:=k6.lt;generalize O.alloc (.cells #[.string (qw 1 1),.string (qw n 8),.string (strOfNums h),.string (qb0 r 4)] 9)=r1 at g0 c3 p2 x0 k7 ⊢
      first | refine⟨m _ c3,?_⟩ | skip
      clear g0;have q27:=m _ c3;generalize O.heap.size=s5 at *
      try go_wp2_with (with_reducible first|(first|refine' zv (qh ?_) ?_|refine' zx (qh ?_) ?_|refine' zy (qh ?_) ?_);rotate_left|refine' zz (qh ?_)|refine' qw5 (qh ?_)|rfl|apply qn)
      have v:=hA s5 r1 c3 (by omega) p2;refine v.mono ?_;rintro e d6 ⟨rfl,u4,h3⟩;have w1:Upd S z d6:=(c3.mono (fun _ _ h=>h.elim)).trans h3;have x28:=c3.size;have y28:=h3.size;have k8:=k7.upd h3 (fun e=>by have:=F _ e;omega);clear v h3;have b9:=k8.stOk J;have l6:=k8.put J;have j2:Upd (· = e2) d6 _:=zc (w:=d6) (b:=e2) MM.cells;have HE:=qb (And.intro l6 (And.intro j2 (And.intro u4 w1)));have x3:=j2.size;clear l6 j2
      try go_wp2_with (with_reducible first|(first|refine' zv (qh ?_) ?_|refine' zx (qh ?_) ?_|refine' zy (qh ?_) ?_);rotate_left|refine' zz (qh ?_)|refine' qw5 (qh ?_)|rfl|apply qn)
      go_meet
      case rel =>
       obtain⟨c,x,l,u⟩:=qa HE;refine⟨e2,rfl,rfl,c,?_,u.then x (fun i hi e=>by omega),by omega⟩;have E:=qa s9;refine(l.upd x (fun k f e=> ?_)).wider (fun k f=> ?_) (fun k f=> ?_)
       ·rcases f with f | f
        ·have:=F k f;omega
        ·omega
       ·rcases f with f | f
        ·exact .inl f
        ·exact .inr ⟨by omega,by omega⟩
       ·rcases f with f | f
        ·have:=F k f;omega
        ·exact f.2
     ·skip
      try go_wp2_with (with_reducible first|(first|refine' zv (qh ?_) ?_|refine' zx (qh ?_) ?_|refine' zy (qh ?_) ?_);rotate_left|refine' zz (qh ?_)|refine' qw5 (qh ?_)|rfl|apply qn)
      refine(qdw r 4 I (by decide) (by decide) hr).mono ?_;rintro e C ⟨rfl,v2⟩;have c4:qq z C:=d2.trans v2;have q30:=m _ c4;go_wp2_with (first | (with_reducible first|(first|refine' zv (qh ?_) ?_|refine' zx (qh ?_) ?_|refine' zy (qh ?_) ?_);rotate_left|refine' zz (qh ?_)|refine' qw5 (qh ?_)|rfl|apply qn) | refine⟨m _ c4,?_⟩);refine qf ?_ ?_
      ·skip
       try go_wp2_with (with_reducible first|(first|refine' zv (qh ?_) ?_|refine' zx (qh ?_) ?_|refine' zy (qh ?_) ?_);rotate_left|refine' zz (qh ?_)|refine' qw5 (qh ?_)|rfl|apply qn)
       have o9:qq C (C.alloc (.cells MsgV.zero.cells.toArray 101)):=((Upd.refl _ _).alloc _);have c7:MsB (C.alloc (.cells MsgV.zero.cells.toArray 101)) C.heap.size MsgV.zero:=zt C MsgV.zero qm;obtain⟨e3,f4⟩:∃K,K=C.heap.size:=⟨_,rfl⟩;have d3:qq z (C.alloc (.cells MsgV.zero.cells.toArray 101)):=c4.trans o9
       first | refine⟨m _ d3,?_⟩ | skip
       have r7:=c7.lt;generalize (C.alloc (.cells MsgV.zero.cells.toArray 101))=R at o9 c7 d3 r7 ⊢;have q31:=m _ d3;rw[←f4] at c7 r7 ⊢;have t1:=qb f4;have y9:z.heap.size≤e3:=by rw[f4];exact c4.size
       clear f4
       try go_wp2_with (with_reducible first|(first|refine' zv (qh ?_) ?_|refine' zx (qh ?_) ?_|refine' zy (qh ?_) ?_);rotate_left|refine' zz (qh ?_)|refine' qw5 (qh ?_)|rfl|apply qn)
       have g2:qq R (R.alloc (.cells #[.string (qw 1 1),.string (qw n 8),.string (strOfNums h),.string (qb0 r 4)] 9)):=(Upd.refl _ _).alloc _;have c5:=d3.trans g2;have p3:=qj R (.cells #[.string (qw 1 1),.string (qw n 8),.string (strOfNums h),.string (qb0 r 4)] 9);have z32:R.heap.size<(R.alloc (.cells #[.string (qw 1 1),.string (qw n 8),.string (strOfNums h),.string (qb0 r 4)] 9)).heap.size:=by rw[World.size_alloc];omega
       have y32:=d3.size;have k9:=c7.new g2;have y3:=c7.lt;generalize R.alloc (.cells #[.string (qw 1 1),.string (qw n 8),.string (strOfNums h),.string (qb0 r 4)] 9)=r2 at g2 c5 p3 z32 k9 ⊢
       first | refine⟨m _ c5,?_⟩ | skip
       clear g2;have q32:=m _ c5;generalize R.heap.size=s6 at *
       try go_wp2_with (with_reducible first|(first|refine' zv (qh ?_) ?_|refine' zx (qh ?_) ?_|refine' zy (qh ?_) ?_);rotate_left|refine' zz (qh ?_)|refine' qw5 (qh ?_)|rfl|apply qn)
       have v:=hA s6 r2 c5 (by omega) p3;refine v.mono ?_;rintro e d7 ⟨rfl,u5,h4⟩;have w2:Upd S z d7:=(c5.mono (fun _ _ h=>h.elim)).trans h4;have x33:=c5.size;have y33:=h4.size;have l0:=k9.upd h4 (fun e=>by have:=F _ e;omega);clear v h4;have b9:=l0.stOk J;have l8:=l0.put J;have j3:Upd (· = e3) d7 _:=zc (w:=d7) (b:=e3) MM.cells;have HE:=qb (And.intro l8 (And.intro j3 (And.intro u5 w2)));have x4:=j3.size;clear l8 j3
       try go_wp2_with (with_reducible first|(first|refine' zv (qh ?_) ?_|refine' zx (qh ?_) ?_|refine' zy (qh ?_) ?_);rotate_left|refine' zz (qh ?_)|refine' qw5 (qh ?_)|rfl|apply qn)
       go_meet
       case rel =>
        obtain⟨c,x,l,u⟩:=qa HE;refine⟨e3,rfl,rfl,c,?_,u.then x (fun i hi e=>by omega),by omega⟩;have E:=qa t1;refine(l.upd x (fun k f e=> ?_)).wider (fun k f=> ?_) (fun k f=> ?_)
        ·rcases f with f | f
         ·have:=F k f;omega
         ·omega
        ·rcases f with f | f
         ·exact .inl f
         ·exact .inr ⟨by omega,by omega⟩
        ·rcases f with f | f
         ·have:=F k f;omega
         ·exact f.2
      ·skip
       try go_wp2_with (with_reducible first|(first|refine' zv (qh ?_) ?_|refine' zx (qh ?_) ?_|refine' zy (qh ?_) ?_);rotate_left|refine' zz (qh ?_)|refine' qw5 (qh ?_)|rfl|apply qn)
       have i2:qq C (C.alloc (.cells #[.string (qw 1 1),.string (qw n 8),.string (strOfNums h),.string (qb0 r 4)] 9)):=(Upd.refl _ _).alloc _;have Z:=c4.trans i2;have i6:=qj C (.cells #[.string (qw 1 1),.string (qw n 8),.string (strOfNums h),.string (qb0 r 4)] 9);have s0:C.heap.size<(C.alloc (.cells #[.string (qw 1 1),.string (qw n 8),.string (strOfNums h),.string (qb0 r 4)] 9)).heap.size:=by rw[World.size_alloc];omega
       have y35:=c4.size;generalize C.alloc (.cells #[.string (qw 1 1),.string (qw n 8),.string (strOfNums h),.string (qb0 r 4)] 9)=L at i2 Z i6 s0 ⊢
       first | refine⟨m _ Z,?_⟩ | skip
       clear i2;have q35:=m _ Z;generalize C.heap.size=j6 at *
       refine qf ?_ ?_
       ·skip
        try go_wp2_with (with_reducible first|(first|refine' zv (qh ?_) ?_|refine' zx (qh ?_) ?_|refine' zy (qh ?_) ?_);rotate_left|refine' zz (qh ?_)|refine' qw5 (qh ?_)|rfl|apply qn)
        have g3:qq L (L.alloc (.cells MsgV.zero.cells.toArray 101)):=((Upd.refl _ _).alloc _);have e9:MsB (L.alloc (.cells MsgV.zero.cells.toArray 101)) L.heap.size MsgV.zero:=zt L MsgV.zero qm;obtain⟨e4,f5⟩:∃K,K=L.heap.size:=⟨_,rfl⟩;have c6:qq z (L.alloc (.cells MsgV.zero.cells.toArray 101)):=Z.trans g3
        first | refine⟨m _ c6,?_⟩ | skip
        have r8:=e9.lt;generalize (L.alloc (.cells MsgV.zero.cells.toArray 101))=p8 at g3 e9 c6 r8 ⊢;have q36:=m _ c6;have v6:=g3.old i6 (fun h=>h);have z36:=Nat.lt_of_lt_of_le s0 g3.size;rw[←f5] at e9 r8 ⊢;have t2:=qb f5;have z1:z.heap.size≤e4:=by rw[f5];exact Z.size
        clear f5
        try go_wp2_with (with_reducible first|(first|refine' zv (qh ?_) ?_|refine' zx (qh ?_) ?_|refine' zy (qh ?_) ?_);rotate_left|refine' zz (qh ?_)|refine' qw5 (qh ?_)|rfl|apply qn)
        have v:=hA j6 p8 c6 (by omega) v6;refine v.mono ?_;rintro e d8 ⟨rfl,u6,v37⟩;have w5:Upd S z d8:=(c6.mono (fun _ _ h=>h.elim)).trans v37;have x37:=c6.size;have y37:=v37.size;have l3:=e9.upd v37 (fun e=>by have:=F _ e;omega);clear v v37;have b9:=l3.stOk J;have l9:=l3.put J;have j4:Upd (· = e4) d8 _:=zc (w:=d8) (b:=e4) MM.cells;have HE:=qb (And.intro l9 (And.intro j4 (And.intro u6 w5)));have x5:=j4.size;clear l9 j4
        try go_wp2_with (with_reducible first|(first|refine' zv (qh ?_) ?_|refine' zx (qh ?_) ?_|refine' zy (qh ?_) ?_);rotate_left|refine' zz (qh ?_)|refine' qw5 (qh ?_)|rfl|apply qn)
        go_meet
        case rel =>
         obtain⟨c,x,l,u⟩:=qa HE;refine⟨e4,rfl,rfl,c,?_,u.then x (fun i hi e=>by omega),by omega⟩;have E:=qa t2;refine(l.upd x (fun k f e=> ?_)).wider (fun k f=> ?_) (fun k f=> ?_)
         ·rcases f with f | f
          ·have:=F k f;omega
          ·omega
         ·rcases f with f | f
          ·exact .inl f
          ·exact .inr ⟨by omega,by omega⟩
         ·rcases f with f | f
          ·have:=F k f;omega
          ·exact f.2
       ·skip
        try go_wp2_with (with_reducible first|(first|refine' zv (qh ?_) ?_|refine' zx (qh ?_) ?_|refine' zy (qh ?_) ?_);rotate_left|refine' zz (qh ?_)|refine' qw5 (qh ?_)|rfl|apply qn)
        have v:=hA j6 L Z (by omega) i6;refine v.mono ?_;rintro e P ⟨rfl,u8,i8⟩;have p4:Upd S z P:=(Z.mono (fun _ _ h=>h.elim)).trans i8;have x39:=Z.size;have y39:=i8.size;clear v i8
        try go_wp2_with (with_reducible first|(first|refine' zv (qh ?_) ?_|refine' zx (qh ?_) ?_|refine' zy (qh ?_) ?_);rotate_left|refine' zz (qh ?_)|refine' qw5 (qh ?_)|rfl|apply qn)
        have g4:qq P (P.alloc (.cells MsgV.zero.cells.toArray 101)):=((Upd.refl _ _).alloc _);have f0:MsB (P.alloc (.cells MsgV.zero.cells.toArray 101)) P.heap.size MsgV.zero:=zt P MsgV.zero qm;obtain⟨e5,f6⟩:∃K,K=P.heap.size:=⟨_,rfl⟩;have i1:=u8.new g4;have i7:=p4.trans (g4.mono (fun _ _ h=>h.elim));have r9:=g4.size;generalize (P.alloc (.cells MsgV.zero.cells.toArray 101))=h6 at g4 f0 i1 i7 r9 ⊢
        first | refine⟨u1 _ _ i1 i7,?_⟩ | skip
        rw[←f6] at f0 r9 ⊢;have t6:=qb f6;have z2:z.heap.size≤e5:=by rw[f6];exact p4.size
        clear f6;have b9:=f0.stOk J;have m0:=f0.put J;have j5:Upd (· = e5) h6 _:=zc (w:=h6) (b:=e5) MM.cells;have HE:=qb (And.intro m0 (And.intro j5 (And.intro i1 i7)));have x6:=j5.size;clear m0 j5
        try go_wp2_with (with_reducible first|(first|refine' zv (qh ?_) ?_|refine' zx (qh ?_) ?_|refine' zy (qh ?_) ?_);rotate_left|refine' zz (qh ?_)|refine' qw5 (qh ?_)|rfl|apply qn)
        go_meet
        case rel =>
         obtain⟨c,x,l,u⟩:=qa HE;refine⟨e5,rfl,rfl,c,?_,u.then x (fun i hi e=>by omega),by omega⟩;have E:=qa t6;refine(l.upd x (fun k f e=> ?_)).wider (fun k f=> ?_) (fun k f=> ?_)
         ·rcases f with f | f
          ·have:=F k f;omega
          ·omega
         ·rcases f with f | f
          ·exact .inl f
          ·exact .inr ⟨by omega,by omega⟩
         ·rcases f with f | f
          ·have:=F k f;omega
          ·exact f.2
 case rest =>
  obtain⟨K,rfl,rfl,hM,n8,u,hK⟩:=hcut;obtain⟨w3,rfl⟩:∃w3:World,w3=wc:=⟨_,rfl⟩;have z7:=hM.cells.2.2.1;have HE:=qb (And.intro n8 u);clear n8 u hM hA;go_wp2_with (with_reducible first|(first|refine' tw1 (qh ?_) ?_|refine' tw2 (qh ?_) ?_);rotate_left|refine' tw3 (qh ?_)|rfl|apply tn|refine' tw4 ?_);go_ret2;exact⟨rfl,((qa HE).1.s).later (qa j7).size,((qa j7).mono (fun _ _ h=>h.elim)).trans (qa HE).2⟩
end Go.Proofs.YtfmkdoachjgjbaaGreatDoor
