/-
  view.Of: its sums (the closure), its loop.
-/
import Derived.Test.YthnohmjbbeahmaaGreatDoorMah
import Derived.Deep.CutRange
set_option linter.unusedVariables false
set_option linter.unusedSimpArgs false
namespace Go.Proofs.YthnohmjbbeahmaaGreatDoor
open Go.RowKit Go.Sort
attribute [local go_sem ↓ high] qdf qwk qeb qvp qvr
attribute [local go_sem] qh5 zd6 qj8 zc9 zdd
def qqv(w:World)(v:Value)(X:List Item):Prop:=(∃a c,v = .slice a 0 c∧X=[])∨∃g cap,v = .slice (some ⟨g,0,none⟩) X.length cap∧qdr w g 0 X
theorem qqv.new{w w':World}{v:Value}{X:List Item}(h:qqv w v X)(u:qu w w'):qqv w' v X:=by
 rcases h with h | ⟨g,cap,e,h⟩
 ·exact .inl h
 ·exact .inr ⟨g,cap,e,h.upd u (fun h=>h)⟩
def qz(ours:Bool)(xs:List Live):List Item:=(xs.filter fun x=>qcx ours x.own x.state).map fun x=>⟨x.own==ours,x.h⟩
def qc9(g:Bool)(n:Int)(p:Int × Int):Int × Int:=if g then (IntKind.u64.wrap (p.1+n),p.2) else (p.1,IntKind.u64.wrap (p.2+n))
def qbp(ours:Bool)(p:Int × Int)(x:Live):Int × Int :=
 if qcx ours x.own x.state then p else if qen ours x.own x.state&&x.paid then qc9 (!x.own) x.h.amount p else qc9 x.own x.h.amount p
def zq(ours:Bool)(l r:Int)(xs:List Live):Int × Int:=xs.foldl (qbp ours) (l,r)
set_option maxHeartbeats 1000000 in
theorem qnc(l:Bool)(n:Int)(b1 b2:Nat)(m:b1≠b2)(T:TypeId)(x y:Int)(w:World)(g:w.heap[b1]? = some (.cells #[.int .u64 x] T (0,0)))(i:w.heap[b2]? = some (.cells #[.int .u64 y] T (0,0))) :
  Calls Tryz.prog 75 #[.bool l,.int .u64 n,.pointer (some ⟨b1,0,none⟩),.pointer (some ⟨b2,0,none⟩)] w fun e w'=>e = .returned (.tuple #[])∧Upd (fun k=>k=b1∨k=b2) w w'∧w'.heap[b1]? = some (.cells #[.int .u64 (qc9 l n (x,y)).1] T (0,0))∧w'.heap[b2]? = some (.cells #[.int .u64 (qc9 l n (x,y)).2] T (0,0)):=by
 have o:w.cell? ⟨b1,0,none⟩=some (.int .u64 x):=qh g 0
 have q:w.cell? ⟨b2,0,none⟩=some (.int .u64 y):=qh i 0
 have t:w.frozen? ⟨b1,0,none⟩=false:=qv g 0
 have v:w.frozen? ⟨b2,0,none⟩=false:=qv i 0
 cases l
 ·go_enter Tryz.func75,Tryz.ntmps75;go_wp2;go_end0;exact⟨rfl,(Upd.refl _ _).setCell (fun _=> .inr rfl) _,(((Upd.refl (· = b2) w).set1 0 _).old g (fun e=>m e)),z7 i 0 _⟩
 ·go_enter Tryz.func75,Tryz.ntmps75;go_wp2;go_end0;exact⟨rfl,(Upd.refl _ _).setCell (fun _=> .inl rfl) _,z7 g 0 _,(((Upd.refl (· = b1) w).set1 0 _).old i (fun e=>m e.symm))⟩
theorem Tryz.infoItemB:(Tryz.prog.info? 146).map (fun i=>(i.size,i.bytes,i.zero.map (·.cells.size)))=some (36,64,some 36):=by kernel_rfl
theorem q6q:∃i z,Tryz.prog.info? 146=some i∧i.zero=some z∧i.size=36∧i.bytes=64∧z.cells.size=36:=by
 have h:=Tryz.infoItemB;cases m:Tryz.prog.info? 146 with
 | none=>rw[m] at h;simp at h
 | some i =>
  rw[m] at h;simp only[Option.map_some,Option.some.injEq,Prod.mk.injEq] at h;obtain⟨o,q,g⟩:=h;cases l:i.zero with
  | none=>rw[l] at g;simp at g
  | some z=>rw[l] at g;simp at g;exact⟨i,z,rfl,l,o,q,g⟩
theorem qdd(w:World)(x y:Obj)(n:Nat)(i:w.heap.size=n):((w.alloc x).alloc y).drew.heap[n]? = some x∧((w.alloc x).alloc y).drew.heap[n+1]? = some y∧qu w ((w.alloc x).alloc y).drew:=by
 subst i;refine⟨zj (qi w x) y,?_,(((Upd.refl _ _).alloc _).alloc _).drew⟩;have:=qi (w.alloc x) y;have g:(w.alloc x).heap.size=w.heap.size+1:=by simp
 rw[g] at this;exact this
theorem Tryz.infoView:(Tryz.prog.info? 126).map (·.size)=some 3:=by kernel_rfl
def q4g(w:World)(k:Nat)(A B C:Value):World:=((w.setCell ⟨k,0,none⟩ A).setCell ⟨k,1,none⟩ B).setCell ⟨k,2,none⟩ C
theorem qlu{w:World}{k:Nat}{a b c:Value}{T:TypeId}(A B C:Value)(h:w.heap[k]? = some (.cells #[a,b,c] T (0,0))):(q4g w k A B C).heap[k]? = some (.cells #[A,B,C] T (0,0)):=by
 unfold q4g;rw[z7 (z7 (z7 h 0 A) 1 B) 2 C];simp
theorem qot(w:World)(k:Nat)(A B C:Value):Upd (· = k) w (q4g w k A B C):=(((Upd.refl (· = k) w).set1 0 A).set1 1 B).set1 2 C
theorem qlv{w0 w:World}{k:Nat}(h:qu w0 w)(l:w0.heap.size≤k)(A B C:Value):qu w0 (q4g w k A B C):=h.then (qot w k A B C) (fun i g e=>by omega)
set_option maxRecDepth 100000 in
set_option maxHeartbeats 4000000 in
theorem zhg(ours:Bool)(l r:Int)(v:Value)(xs:List Live)(hl:xs.length≤19)(w:World)(hG:Spans w)(hv:qio w v xs) :
  Calls Tryz.prog 61 #[.bool ours,.agg #[.int .u64 l,.int .u64 r],v] w fun e w'=>∃u X,e = .returned (.agg #[.int .u64 (if ours then (zq ours l r xs).1 else (zq ours l r xs).2),.int .u64 (if ours then (zq ours l r xs).2 else (zq ours l r xs).1),u]) ∧
   qu w w'∧qqv w' u X∧∃M,M.Perm (qz ours xs).zipIdx∧Srt M∧X=its M:=by
 obtain⟨va,vn,vc,rfl,g8⟩:∃a n c,v = .slice a n c∧n=xs.length:=by
  rcases hv with ⟨_,_,rfl,rfl⟩ | ⟨g,off,cap,rfl,_⟩
  ·exact⟨_,_,_,rfl,rfl⟩
  ·exact⟨_,_,_,rfl,rfl⟩
 go_enter Tryz.func61,Tryz.ntmps61
 go_upto_region 1 with fail
 obtain⟨E,W⟩:∃E:World,E=(w.alloc (.cells #[.int .u64 l,.int .u64 r] 42)).alloc (.cells #[.int .u64 0,.int .u64 0,.slice none 0 0] 126):=⟨_,rfl⟩
 have V:E.heap.size=w.heap.size+2:=by rw[W];simp
 have nA:qu w E:=by rw[W];exact((Upd.refl _ _).alloc _).alloc _
 have kA:E.heap[w.heap.size]? = some (.cells #[.int .u64 l,.int .u64 r] 42 (0,0)):=by rw[W];exact zj (qi _ _) _
 have rA:E.heap[w.heap.size+1]? = some (.cells #[.int .u64 0,.int .u64 0,.slice none 0 0] 126 (0,0)):=by
  rw[W];have:=qi (w.alloc (.cells #[.int .u64 l,.int .u64 r] 42)) (.cells #[.int .u64 0,.int .u64 0,.slice none 0 0] 126);simpa using this
 rw[←W]
 clear W
 have c1:E.cell? ⟨w.heap.size,0,none⟩=some (.int .u64 l):=qh kA 0
 have c2:E.cell? ⟨w.heap.size,1,none⟩=some (.int .u64 r):=qh kA 1
 have f1:E.drew.cell? ⟨w.heap.size,0,none⟩=some (.int .u64 l):=c1
 have f2:E.drew.cell? ⟨w.heap.size,1,none⟩=some (.int .u64 r):=c2
 go_cut [7,8] from 15 to 18 (fun p q wx=>∃b1 b2:Nat,p = .pointer (some ⟨b1,0,none⟩)∧q = .pointer (some ⟨b2,0,none⟩)∧b1≠b2∧w.heap.size+2≤b1∧w.heap.size+2≤b2 ∧
  wx.heap[b1]? = some (.cells #[.int .u64 l] 27 (0,0))∧wx.heap[b2]? = some (.cells #[.int .u64 r] 27 (0,0))∧qu E wx)
 case first =>
  go_region
  ·go_wp2;go_meet
   case rel =>
    first
    | exact⟨w.heap.size+2,w.heap.size+2+1,rfl,rfl,by omega,by omega,by omega,(qdd E _ _ _ V).1,(qdd E _ _ _ V).2.1,(qdd E _ _ _ V).2.2⟩
    | exact⟨w.heap.size+2+1,w.heap.size+2,rfl,rfl,by omega,by omega,by omega,(qdd E _ _ _ V).2.1,(qdd E _ _ _ V).1,(qdd E _ _ _ V).2.2⟩
  ·go_wp2;go_meet
   case rel =>
    first
    | exact⟨w.heap.size+2,w.heap.size+2+1,rfl,rfl,by omega,by omega,by omega,(qdd E _ _ _ V).1,(qdd E _ _ _ V).2.1,(qdd E _ _ _ V).2.2⟩
    | exact⟨w.heap.size+2+1,w.heap.size+2,rfl,rfl,by omega,by omega,by omega,(qdd E _ _ _ V).2.1,(qdd E _ _ _ V).1,(qdd E _ _ _ V).2.2⟩
 case rest =>
  obtain⟨b1,b2,rfl,rfl,b6,g1,g2,h1,F,nB⟩:=hcut;obtain⟨wB,rfl⟩:∃wB:World,wB=wc:=⟨_,rfl⟩;have rB:=nB.old rA (fun h=>h);have nW:=nA.trans nB;have Y:=qb g1;have Z:=qb g2;have e8:=qb hv;have e7:=qb hG;have sB:=nB.size;rw[V] at sB;have b9:=qb sB;have D:=qb (And.intro (z6 h1) (And.intro (z6 F) (z6 rB)));clear c1 c2 f1 f2 kA rA hv hG V nA nB g1 g2 sB;go_wp2_with fail
  go_loopw [10,22] (fun sv iv wr=>∃(n:Nat),iv = .int .i64 (n:Int)∧n≤xs.length∧(∃a k c,sv = .slice a k c)∧Hid (wr.ownsRow wB.heap.size 146 36 sv (qz ours (xs.take n)).length ((qz ours (xs.take n)).flatMap zf)) ∧
   wr.heap[b1]? = some (.cells #[.int .u64 (zq ours l r (xs.take n)).1] 27 (0,0))∧wr.heap[b2]? = some (.cells #[.int .u64 (zq ours l r (xs.take n)).2] 27 (0,0)) ∧
   wr.heap[w.heap.size+1]? = some (.cells #[.int .u64 0,.int .u64 0,.slice none 0 0] 126 (0,0))∧qu w wr∧wB.heap.size≤wr.heap.size) (fun _ iv _=>xs.length-(intOf iv).toNat)
  case atStart=>exact⟨0,rfl,Nat.zero_le _,⟨_,_,_,rfl⟩,qb (by rw[List.take_zero];exact World.ownsRow_nil _ _ _ _),by rw[List.take_zero];exact h1,by rw[List.take_zero];exact F,rB,nW,Nat.le_refl _⟩
  case round =>
   obtain⟨n,rfl,hn,⟨sa,sk,sc,rfl⟩,HO,k1,k2,kr,nr,g7⟩:=hrel;clear h1 F rB nW;by_cases d0:n<xs.length
   ·obtain⟨x,hx⟩:∃x,xs[n]? = some x:=⟨_,List.getElem?_eq_getElem d0⟩;rcases (qa e8).new nr with ⟨_,_,e,e2⟩ | ⟨g,off,cap,e,hh⟩
    ·rw[e2] at d0;simp at d0
    ·obtain⟨rfl,_,rfl⟩:va=some ⟨g,off,none⟩∧xs.length=xs.length∧vc=cap:=by cases e;exact⟨rfl,rfl,rfl⟩
     have b8:=hh.row hx;have g6:(n:Int)<(xs.length:Int):=by omega
     have e5:stOk (wr.alloc (.cells #[.int .u64 0,.int .u64 0,.int .u8 0,.int .u8 0,.int .u8 0,.int .u8 0,.int .u8 0,.int .u8 0,.int .u8 0,.int .u8 0,.int .u8 0,.int .u8 0,.int .u8 0,.int .u8 0,.int .u8 0,.int .u8 0,.int .u8 0,.int .u8 0,.int .u8 0,.int .u8 0,.int .u8 0,.int .u8 0,.int .u8 0,.int .u8 0,.int .u8 0,.int .u8 0,.int .u8 0,.int .u8 0,.int .u8 0,.int .u8 0,.int .u8 0,.int .u8 0,.int .u8 0,.int .u8 0,.int .i64 0,.bool false,.int .i64 0,.bool false] 56)) wr.heap.size 0 38 (ql x).toArray=true:=qf3 (qi _ _) (by decide) (by rw[List.size_toArray,qa5]) (by rw[List.all_toArray,List.all_eq_true];exact qet x);have a5:=qnl wr #[.int .u64 0,.int .u64 0,.int .u8 0,.int .u8 0,.int .u8 0,.int .u8 0,.int .u8 0,.int .u8 0,.int .u8 0,.int .u8 0,.int .u8 0,.int .u8 0,.int .u8 0,.int .u8 0,.int .u8 0,.int .u8 0,.int .u8 0,.int .u8 0,.int .u8 0,.int .u8 0,.int .u8 0,.int .u8 0,.int .u8 0,.int .u8 0,.int .u8 0,.int .u8 0,.int .u8 0,.int .u8 0,.int .u8 0,.int .u8 0,.int .u8 0,.int .u8 0,.int .u8 0,.int .u8 0,.int .i64 0,.bool false,.int .i64 0,.bool false] 56 (ql x) (by rw[qa5];rfl);have v0:=qwl x;have d3:=qh6 x;have d4:=qgm x;have d5:=qnm x;have vh:((ql x).toArray).extract 0 35=(ze x.h).toArray:=by
      apply Array.ext';simp[ql,List.take_append_of_le_length,qbh,List.extract_eq_take_drop]
     have K:=qa5 x;generalize ql x=C at b8 e5 a5 v0 d3 d4 d5 vh K;go_upto_region 7 with fail;obtain⟨b7,nC⟩:=a5;generalize (wr.alloc (.cells #[.int .u64 0,.int .u64 0,.int .u8 0,.int .u8 0,.int .u8 0,.int .u8 0,.int .u8 0,.int .u8 0,.int .u8 0,.int .u8 0,.int .u8 0,.int .u8 0,.int .u8 0,.int .u8 0,.int .u8 0,.int .u8 0,.int .u8 0,.int .u8 0,.int .u8 0,.int .u8 0,.int .u8 0,.int .u8 0,.int .u8 0,.int .u8 0,.int .u8 0,.int .u8 0,.int .u8 0,.int .u8 0,.int .u8 0,.int .u8 0,.int .u8 0,.int .u8 0,.int .u8 0,.int .u8 0,.int .i64 0,.bool false,.int .i64 0,.bool false] 56)).setCells wr.heap.size 0 C=wC at b7 nC ⊢;have f4:C.take 38=C:=List.take_of_length_le (by omega);have e4:zm wC wr.heap.size 0 38=some C.toArray:=by rw[qbz b7 0 38 (by simp[K])];simp[f4]
     have d8:Spans wC:=(qa e7).new (nr.trans nC);have c6:C.toArray[35]? = some (.bool x.own):=by rw[List.getElem?_toArray];exact d3
     have d7:C.toArray[36]? = some (.int .i64 x.state):=by rw[List.getElem?_toArray];exact d4
     clear e5 b8;go_wp2_with fail;refine(q7i ours x.own x.state C.toArray wC d8 c6 d7).mono ?_;rintro e w1 ⟨rfl,n1⟩;have a4:=n1.old b7 (fun h=>h);have s0:w1.cell? ⟨wr.heap.size,1,none⟩=some (.int .u64 x.h.amount):=by rw[qh a4,List.getElem?_toArray];exact v0
     have g4:w1.cell? ⟨wr.heap.size,35,none⟩=some (.bool x.own):=by rw[qh a4];exact c6
     have b3:w1.cell? ⟨wr.heap.size,37,none⟩=some (.bool x.paid):=by rw[qh a4,List.getElem?_toArray];exact d5
     have e6:zm w1 wr.heap.size 0 35=some (ze x.h).toArray:=by rw[qbz a4 0 35 (by simp[K])];rw[Nat.zero_add,vh]
     have P:=nC.trans n1;have j1:=P.old k1 (fun h=>h);have j2:=P.old k2 (fun h=>h);have jr:=P.old kr (fun h=>h);have d9:w1.ownsRow wB.heap.size 146 36 (.slice sa sk sc) (qz ours (xs.take n)).length ((qz ours (xs.take n)).flatMap zf):=qzu (qa HO) P;have H:=qb d9;have b4:=qb (And.intro (show w.heap.size+1≠b1 by have:=qa Y;omega) (show w.heap.size+1≠b2 by have:=qa Z;omega));have I:=qb (P.size);have a9:=nr.trans P;clear d9 d8 c6 d7 v0 d3 d4 d5 vh e4 b7 nC a4 n1 P k1 k2 kr HO hh nr;cases o:qcx ours x.own x.state with
     | true =>
      obtain⟨i9,z9,hi,hz,f5,f6,f7⟩:=q6q;have ht:qz ours (xs.take (n+1))=qz ours (xs.take n)++[⟨x.own==ours,x.h⟩]:=by
       rw[List.take_add_one,hx];simp[qz,List.filter_append,o]
      have U:zq ours l r (xs.take (n+1))=zq ours l r (xs.take n):=by
       rw[List.take_add_one,hx];simp[zq,qbp,o]
      have HT:=qb ht;have T:=qb U;clear ht U o;have g5:=qbh x.h;have e1:(qz ours (xs.take n)).length≤n:=by
       unfold qz;rw[List.length_map];exact Nat.le_trans (List.length_filter_le _ _) (by rw[List.length_take];omega)
      have d6:=qb e1;clear e1;go_wp2_with (at_builtin;refine wpList_append_own _ rfl (.tmp 41) (.tmp 49) 124 rfl wB.heap.size 146 i9 _ 36 64 Tryz.underlying124 hi hz f5 f6 f7 (by decide) _ _ _ rfl ((qa H).alloc _) ⟨w1.heap.size,0,none⟩ 1 1 (zf ⟨x.own==ours,x.h⟩) rfl (qco _) ?c1 (qrz _) ?c3 ?c4 ?c5 ?_)
      case c1 =>
       intro j u hj;have e0:(⟨w1.heap.size,0,none⟩:Addr).add j=⟨w1.heap.size,j,none⟩:=by unfold Addr.add;split<;>simp_all
       rw[e0,qh (qi _ _)];simpa [zf] using hj
      case c3=>have:=qa d6;unfold maxLen;omega
      case c4=>have:=qa d6;omega
      case c5=>have:=qa I;simp;omega
      intro v' w5 O t _;have f8:=(t.block b1 (by have:=qa D;have:=qa I;simp;omega) (by intro h;have:=(qa H).lt _ h.symm;have:=qa D;omega)).trans (zj j1 _);have f9:=(t.block b2 (by have:=qa D;have:=qa I;simp;omega) (by intro h;have:=(qa H).lt _ h.symm;have:=qa D;omega)).trans (zj j2 _);have g0:=(t.block (w.heap.size+1) (by have:=qa D;have:=qa I;simp;omega) (by intro h;have:=(qa H).lt _ h.symm;have:=qa D;omega)).trans (zj jr _);have g3:qu w w5:=(a9.alloc _).grown t (fun k h hk=>by have:=(qa H).lt k h;have:=qa b9;omega);have f0:=qb t.size;obtain⟨g9,h3,h0,rfl⟩:=qoy O;have e9:=qb O;clear O t s0 g4 b3 e6 j1 j2 jr;go_wp2;go_roundw
      case rel =>
       refine⟨n+1,by go_num,by omega,⟨_,_,_,rfl⟩,qb ?_,?_,?_,g0,g3,by have:=qa f0;have:=qa I;simp at *;omega⟩
       ·rw[qa HT,List.length_append,List.flatMap_append];simpa using qa e9
       ·rw[qa T];exact f8
       ·rw[qa T];exact f9
      case measure=>simp[intOf];omega
     | false =>
      have ht:qz ours (xs.take (n+1))=qz ours (xs.take n):=by
       rw[List.take_add_one,hx];simp[qz,List.filter_append,o]
      have L:True:=trivial;cases hg:qen ours x.own x.state<;>cases hp:x.paid
      ·have U:zq ours l r (xs.take (n+1))=qc9 (x.own) x.h.amount (zq ours l r (xs.take n)):=by
        rw[List.take_add_one,hx];simp[zq,qbp,o,hg,hp]
       have HT:=qb ht;have T:=qb U;have c0:=qb L;rw[hp] at b3;clear ht U L o hg;go_wp2_with fail;refine(qnc (x.own) x.h.amount b1 b2 b6 27 _ _ _ j1 j2).mono ?_;rintro e J ⟨rfl,z,m1,m2⟩;have N:=qb (And.intro m1 m2);clear m1 m2;go_wp2;go_roundw
       case rel =>
        obtain⟨a6,a7,a8⟩:=qa D;obtain⟨d1,d2⟩:=qa b4;have c7:=qa Y;have c8:=qa Z;refine⟨n+1,by go_num,by omega,⟨_,_,_,rfl⟩,qb ?_,?_,?_,z.old jr (by omega),a9.then z (fun i h1 F=>by omega),by have:=z.size;have:=qa I;omega⟩
        ·rw[qa HT];exact qnv (qa H) z (fun k h1 F=>by omega)
        ·rw[qa T];exact(qa N).1
        ·rw[qa T];exact(qa N).2
       case measure=>simp[intOf];omega
      ·have U:zq ours l r (xs.take (n+1))=qc9 (x.own) x.h.amount (zq ours l r (xs.take n)):=by
        rw[List.take_add_one,hx];simp[zq,qbp,o,hg,hp]
       have HT:=qb ht;have T:=qb U;have c0:=qb L;rw[hp] at b3;clear ht U L o hg;go_wp2_with fail;refine(qnc (x.own) x.h.amount b1 b2 b6 27 _ _ _ j1 j2).mono ?_;rintro e J ⟨rfl,z,m1,m2⟩;have N:=qb (And.intro m1 m2);clear m1 m2;go_wp2;go_roundw
       case rel =>
        obtain⟨a6,a7,a8⟩:=qa D;obtain⟨d1,d2⟩:=qa b4;have c7:=qa Y;have c8:=qa Z;refine⟨n+1,by go_num,by omega,⟨_,_,_,rfl⟩,qb ?_,?_,?_,z.old jr (by omega),a9.then z (fun i h1 F=>by omega),by have:=z.size;have:=qa I;omega⟩
        ·rw[qa HT];exact qnv (qa H) z (fun k h1 F=>by omega)
        ·rw[qa T];exact(qa N).1
        ·rw[qa T];exact(qa N).2
       case measure=>simp[intOf];omega
      ·have U:zq ours l r (xs.take (n+1))=qc9 (x.own) x.h.amount (zq ours l r (xs.take n)):=by
        rw[List.take_add_one,hx];simp[zq,qbp,o,hg,hp]
       have HT:=qb ht;have T:=qb U;have c0:=qb L;rw[hp] at b3;clear ht U L o hg;go_wp2_with fail;refine(qnc (x.own) x.h.amount b1 b2 b6 27 _ _ _ j1 j2).mono ?_;rintro e J ⟨rfl,z,m1,m2⟩;have N:=qb (And.intro m1 m2);clear m1 m2;go_wp2;go_roundw
       case rel =>
        obtain⟨a6,a7,a8⟩:=qa D;obtain⟨d1,d2⟩:=qa b4;have c7:=qa Y;have c8:=qa Z;refine⟨n+1,by go_num,by omega,⟨_,_,_,rfl⟩,qb ?_,?_,?_,z.old jr (by omega),a9.then z (fun i h1 F=>by omega),by have:=z.size;have:=qa I;omega⟩
        ·rw[qa HT];exact qnv (qa H) z (fun k h1 F=>by omega)
        ·rw[qa T];exact(qa N).1
        ·rw[qa T];exact(qa N).2
       case measure=>simp[intOf];omega
      ·have U:zq ours l r (xs.take (n+1))=qc9 (!x.own) x.h.amount (zq ours l r (xs.take n)):=by
        rw[List.take_add_one,hx];simp[zq,qbp,o,hg,hp]
       have HT:=qb ht;have T:=qb U;have c0:=qb L;rw[hp] at b3;clear ht U L o hg;go_wp2_with fail;refine(qnc (!x.own) x.h.amount b1 b2 b6 27 _ _ _ j1 j2).mono ?_;rintro e J ⟨rfl,z,m1,m2⟩;have N:=qb (And.intro m1 m2);clear m1 m2;go_wp2;go_roundw
       case rel =>
        obtain⟨a6,a7,a8⟩:=qa D;obtain⟨d1,d2⟩:=qa b4;have c7:=qa Y;have c8:=qa Z;refine⟨n+1,by go_num,by omega,⟨_,_,_,rfl⟩,qb ?_,?_,?_,z.old jr (by omega),a9.then z (fun i h1 F=>by omega),by have:=z.size;have:=qa I;omega⟩
        ·rw[qa HT];exact qnv (qa H) z (fun k h1 F=>by omega)
        ·rw[qa T];exact(qa N).1
        ·rw[qa T];exact(qa N).2
       case measure=>simp[intOf];omega
   ·obtain rfl:n=xs.length:=by omega
    rw[List.take_length] at HO k1 k2;have K:(qz ours xs).length≤19:=by
     unfold qz;rw[List.length_map];exact Nat.le_trans (List.length_filter_le _ _) hl
    obtain⟨_,e3⟩:=qwg (qa HO);clear HO;generalize hX:qz ours xs=X at K e3;have HX:=qb hX;generalize hP:zq ours l r xs=p at k1 k2;have b5:=qb hP;clear hX hP;rcases e3 with ⟨e,e2⟩ | ⟨g,cap,e,f3,hh⟩
    ·cases e;subst e2;cases ours
     ·go_wp2_with fail;refine(qkh _).mono ?_;rintro e J ⟨rfl,q2⟩;have c1:J.cell? ⟨b1,0,none⟩=some (.int .u64 p.1):=qh (q2.old k1) 0;have c2:J.cell? ⟨b2,0,none⟩=some (.int .u64 p.2):=qh (q2.old k2) 0;have R:qu w J:=nr.then (q2.upd (fun _=>False)) (fun _ _ h=>h.elim);have m:=q2.old kr;have r0:=qh m 0;have r1:=qh m 1;have r2:=qh m 2;have z0:=qv m 0;have z1:=qv m 1;have z2:=qv m 2;simp at r0 r1 r2;go_wp2_with fail;refine bodyPost_ret (results_cell_row rfl _ _ (w.heap.size+1) _ _ _ _ rfl (qlu _ _ _ m) Tryz.underlying126 rfl Tryz.infoView) rfl ?_;exact⟨_,by rw[qa b5],qlv R (by omega) _ _ _,[],.inl ⟨_,_,rfl,rfl⟩,[],by rw[qa HX];exact List.Perm.refl _,List.Pairwise.nil,rfl⟩
     ·go_wp2_with fail;refine(qkh _).mono ?_;rintro e J ⟨rfl,q2⟩;have c1:J.cell? ⟨b1,0,none⟩=some (.int .u64 p.1):=qh (q2.old k1) 0;have c2:J.cell? ⟨b2,0,none⟩=some (.int .u64 p.2):=qh (q2.old k2) 0;have R:qu w J:=nr.then (q2.upd (fun _=>False)) (fun _ _ h=>h.elim);have m:=q2.old kr;have r0:=qh m 0;have r1:=qh m 1;have r2:=qh m 2;have z0:=qv m 0;have z1:=qv m 1;have z2:=qv m 2;simp at r0 r1 r2;go_wp2_with fail;refine bodyPost_ret (results_cell_row rfl _ _ (w.heap.size+1) _ _ _ _ rfl (qlu _ _ _ m) Tryz.underlying126 rfl Tryz.infoView) rfl ?_;exact⟨_,by rw[qa b5],qlv R (by omega) _ _ _,[],.inl ⟨_,_,rfl,rfl⟩,[],by rw[qa HX];exact List.Perm.refl _,List.Pairwise.nil,rfl⟩
    ·cases e;cases ours
     ·go_wp2_with fail;refine(qll g 0 _ X.length X rfl (by omega) _ hh).mono ?_;rintro e J ⟨rfl,z,M,p2,s2,F⟩;have N:=qb (And.intro p2 (And.intro s2 F));clear p2 s2 F;obtain⟨a6,a7,a8⟩:=qa D;have c1:J.cell? ⟨b1,0,none⟩=some (.int .u64 p.1):=qh (z.old k1 (by omega)) 0;have c2:J.cell? ⟨b2,0,none⟩=some (.int .u64 p.2):=qh (z.old k2 (by omega)) 0;have R:qu w J:=nr.then z (fun i hi e=>by have:=qa b9;omega);have m:=z.old kr (by omega);have r0:=qh m 0;have r1:=qh m 1;have r2:=qh m 2;have z0:=qv m 0;have z1:=qv m 1;have z2:=qv m 2;simp at r0 r1 r2;go_wp2_with fail;refine bodyPost_ret (results_cell_row rfl _ _ (w.heap.size+1) _ _ _ _ rfl (qlu _ _ _ m) Tryz.underlying126 rfl Tryz.infoView) rfl ?_;obtain⟨p2,s2,F⟩:=qa N;have c9:(its M).length=X.length:=by have:=p2.length_eq;simpa using this
      exact⟨_,by rw[qa b5],qlv R (by omega) _ _ _,its M,.inr ⟨g,_,by rw[c9],F.upd (qot _ _ _ _ _) (by omega)⟩,M,by rw[qa HX];exact p2,s2,rfl⟩
     ·go_wp2_with fail;refine(qll g 0 _ X.length X rfl (by omega) _ hh).mono ?_;rintro e J ⟨rfl,z,M,p2,s2,F⟩;have N:=qb (And.intro p2 (And.intro s2 F));clear p2 s2 F;obtain⟨a6,a7,a8⟩:=qa D;have c1:J.cell? ⟨b1,0,none⟩=some (.int .u64 p.1):=qh (z.old k1 (by omega)) 0;have c2:J.cell? ⟨b2,0,none⟩=some (.int .u64 p.2):=qh (z.old k2 (by omega)) 0;have R:qu w J:=nr.then z (fun i hi e=>by have:=qa b9;omega);have m:=z.old kr (by omega);have r0:=qh m 0;have r1:=qh m 1;have r2:=qh m 2;have z0:=qv m 0;have z1:=qv m 1;have z2:=qv m 2;simp at r0 r1 r2;go_wp2_with fail;refine bodyPost_ret (results_cell_row rfl _ _ (w.heap.size+1) _ _ _ _ rfl (qlu _ _ _ m) Tryz.underlying126 rfl Tryz.infoView) rfl ?_;obtain⟨p2,s2,F⟩:=qa N;have c9:(its M).length=X.length:=by have:=p2.length_eq;simpa using this
      exact⟨_,by rw[qa b5],qlv R (by omega) _ _ _,its M,.inr ⟨g,_,by rw[c9],F.upd (qot _ _ _ _ _) (by omega)⟩,M,by rw[qa HX];exact p2,s2,rfl⟩
end Go.Proofs.YthnohmjbbeahmaaGreatDoor
