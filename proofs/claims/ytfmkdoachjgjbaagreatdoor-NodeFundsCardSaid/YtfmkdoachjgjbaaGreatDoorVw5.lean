/-
  view.Of: its sums (the closure), its loop.
-/
import Derived.Test.YtfmkdoachjgjbaaGreatDoorMaj
import Derived.Deep.CutRange
set_option maxRecDepth 100000
set_option maxHeartbeats 4000000
set_option linter.unusedVariables false
set_option linter.unusedSimpArgs false
namespace Go.Proofs.YtfmkdoachjgjbaaGreatDoor
open Go.RowKit Go.Sort
attribute [local go_sem ↓ high] qa5 qr0 qbd qra qrd
attribute [local go_sem] qc5 q7l qdo q6u q6y
def qmt(w:World)(v:Value)(X:List Item):Prop:=(∃a c,v = .slice a 0 c∧X=[])∨∃g cap,v = .slice (some ⟨g,0,none⟩) X.length cap∧qco w g 0 X
theorem qmt.new{w w':World}{v:Value}{X:List Item}(h:qmt w v X)(u:qq w w'):qmt w' v X:=by
 rcases h with h | ⟨g,cap,e,h⟩
 ·exact .inl h
 ·exact .inr ⟨g,cap,e,h.upd u (fun h=>h)⟩
def qas(ours:Bool)(xs:List Live):List Item:=(xs.filter fun x=>q7f ours x.own x.state).map fun x=>⟨x.own==ours,x.h⟩
def qf5(i:Bool)(n:Int)(p:Int × Int):Int × Int:=if i then (IntKind.u64.wrap (p.1+n),p.2) else (p.1,IntKind.u64.wrap (p.2+n))
def qh7(ours:Bool)(p:Int × Int)(x:Live):Int × Int :=
 if q7f ours x.own x.state then p else if q3z ours x.own x.state&&x.paid then qf5 (!x.own) x.h.amount p else qf5 x.own x.h.amount p
def qa8(ours:Bool)(l r:Int)(xs:List Live):Int × Int:=xs.foldl (qh7 ours) (l,r)
theorem qjd(t:Bool)(n:Int)(i m:Nat)(v:i≠m)(T:TypeId)(x y:Int)(w:World)(o:w.heap[i]? = some (.cells #[.int .u64 x] T (0,0)))(q:w.heap[m]? = some (.cells #[.int .u64 y] T (0,0))) :
  Calls Tryz.prog 158 #[.bool t,.int .u64 n,.pointer (some ⟨i,0,none⟩),.pointer (some ⟨m,0,none⟩)] w fun e w'=>e = .returned (.tuple #[])∧Upd (fun k=>k=i∨k=m) w w'∧w'.heap[i]? = some (.cells #[.int .u64 (qf5 t n (x,y)).1] T (0,0))∧w'.heap[m]? = some (.cells #[.int .u64 (qf5 t n (x,y)).2] T (0,0)):=by
 have z:w.cell? ⟨i,0,none⟩=some (.int .u64 x):=qk o 0
 have C:w.cell? ⟨m,0,none⟩=some (.int .u64 y):=qk q 0
 have D:w.frozen? ⟨i,0,none⟩=false:=qo o 0
 have E:w.frozen? ⟨m,0,none⟩=false:=qo q 0
 cases t
 ·go_enter Tryz.func158,Tryz.ntmps158;go_wp2;go_end0;exact⟨rfl,(Upd.refl _ _).setCell (fun _=> .inr rfl) _,(((Upd.refl (· = m) w).set1 0 _).old o (fun e=>v e)),zq q 0 _⟩
 ·go_enter Tryz.func158,Tryz.ntmps158;go_wp2;go_end0;exact⟨rfl,(Upd.refl _ _).setCell (fun _=> .inl rfl) _,zq o 0 _,(((Upd.refl (· = i) w).set1 0 _).old q (fun e=>v e.symm))⟩
theorem Tryz.infoItemB:(Tryz.prog.info? 254).map (fun i=>(i.size,i.bytes,i.zero.map (·.cells.size)))=some (36,64,some 36):=by kernel_rfl
theorem q0a:∃i z,Tryz.prog.info? 254=some i∧i.zero=some z∧i.size=36∧i.bytes=64∧z.cells.size=36:=by
 have h:=Tryz.infoItemB;cases q:Tryz.prog.info? 254 with
 | none=>rw[q] at h;simp at h
 | some i =>
  rw[q] at h;simp only[Option.map_some,Option.some.injEq,Prod.mk.injEq] at h;obtain⟨t,v,m⟩:=h;cases o:i.zero with
  | none=>rw[o] at m;simp at m
  | some z=>rw[o] at m;simp at m;exact⟨i,z,rfl,o,t,v,m⟩
theorem qcd(w:World)(x y:Obj)(n:Nat)(m:w.heap.size=n):((w.alloc x).alloc y).drew.heap[n]? = some x∧((w.alloc x).alloc y).drew.heap[n+1]? = some y∧qq w ((w.alloc x).alloc y).drew:=by
 subst m;refine⟨qx (ql w x) y,?_,(((Upd.refl _ _).alloc _).alloc _).drew⟩;have:=ql (w.alloc x) y;have i:(w.alloc x).heap.size=w.heap.size+1:=by simp
 rw[i] at this;exact this
theorem Tryz.infoView:(Tryz.prog.info? 201).map (·.size)=some 3:=by kernel_rfl
def qya(w:World)(k:Nat)(A B C:Value):World:=((w.setCell ⟨k,0,none⟩ A).setCell ⟨k,1,none⟩ B).setCell ⟨k,2,none⟩ C
theorem qie{w:World}{k:Nat}{a b c:Value}{T:TypeId}(A B C:Value)(h:w.heap[k]? = some (.cells #[a,b,c] T (0,0))):(qya w k A B C).heap[k]? = some (.cells #[A,B,C] T (0,0)):=by
 unfold qya;rw[zq (zq (zq h 0 A) 1 B) 2 C];simp
theorem qki(w:World)(k:Nat)(A B C:Value):Upd (· = k) w (qya w k A B C):=(((Upd.refl (· = k) w).set1 0 A).set1 1 B).set1 2 C
theorem qif{w0 w:World}{k:Nat}(h:qq w0 w)(o:w0.heap.size≤k)(A B C:Value):qq w0 (qya w k A B C):=h.then (qki w k A B C) (fun i m e=>by omega)
theorem q98(ours:Bool)(l r:Int)(v:Value)(xs:List Live)(hl:xs.length≤19)(w:World)(hG:Spans w)(hv:qf0 w v xs) :
  Calls Tryz.prog 121 #[.bool ours,.agg #[.int .u64 l,.int .u64 r],v] w fun e w'=>∃u X,e = .returned (.agg #[.int .u64 (if ours then (qa8 ours l r xs).1 else (qa8 ours l r xs).2),.int .u64 (if ours then (qa8 ours l r xs).2 else (qa8 ours l r xs).1),u]) ∧
   qq w w'∧qmt w' u X∧∃M,M.Perm (qas ours xs).zipIdx∧Srt M∧X=its M:=by
 obtain⟨va,vn,vc,rfl,h3⟩:∃a n c,v = .slice a n c∧n=xs.length:=by
  rcases hv with ⟨_,_,rfl,rfl⟩ | ⟨g,off,cap,rfl,_⟩
  ·exact⟨_,_,_,rfl,rfl⟩
  ·exact⟨_,_,_,rfl,rfl⟩
 go_enter Tryz.func121,Tryz.ntmps121
 go_upto_region 1 with fail
 obtain⟨D,a1⟩:∃D:World,D=(w.alloc (.cells #[.int .u64 l,.int .u64 r] 59)).alloc (.cells #[.int .u64 0,.int .u64 0,.slice none 0 0] 201):=⟨_,rfl⟩
 have Z:D.heap.size=w.heap.size+2:=by rw[a1];simp
 have nA:qq w D:=by rw[a1];exact((Upd.refl _ _).alloc _).alloc _
 have kA:D.heap[w.heap.size]? = some (.cells #[.int .u64 l,.int .u64 r] 59 (0,0)):=by rw[a1];exact qx (ql _ _) _
 have rA:D.heap[w.heap.size+1]? = some (.cells #[.int .u64 0,.int .u64 0,.slice none 0 0] 201 (0,0)):=by
  rw[a1];have:=ql (w.alloc (.cells #[.int .u64 l,.int .u64 r] 59)) (.cells #[.int .u64 0,.int .u64 0,.slice none 0 0] 201);simpa using this
 rw[←a1]
 clear a1
 have c1:D.cell? ⟨w.heap.size,0,none⟩=some (.int .u64 l):=qk kA 0
 have c2:D.cell? ⟨w.heap.size,1,none⟩=some (.int .u64 r):=qk kA 1
 have f4:D.drew.cell? ⟨w.heap.size,0,none⟩=some (.int .u64 l):=c1
 have f5:D.drew.cell? ⟨w.heap.size,1,none⟩=some (.int .u64 r):=c2
 go_cut [7,8] from 15 to 18 (fun p q wx=>∃O P:Nat,p = .pointer (some ⟨O,0,none⟩)∧q = .pointer (some ⟨P,0,none⟩)∧O≠P∧w.heap.size+2≤O∧w.heap.size+2≤P ∧
  wx.heap[O]? = some (.cells #[.int .u64 l] 22 (0,0))∧wx.heap[P]? = some (.cells #[.int .u64 r] 22 (0,0))∧qq D wx)
 case first =>
  go_region
  ·go_wp2;go_meet
   case rel =>
    first
    | exact⟨w.heap.size+2,w.heap.size+2+1,rfl,rfl,by omega,by omega,by omega,(qcd D _ _ _ Z).1,(qcd D _ _ _ Z).2.1,(qcd D _ _ _ Z).2.2⟩
    | exact⟨w.heap.size+2+1,w.heap.size+2,rfl,rfl,by omega,by omega,by omega,(qcd D _ _ _ Z).2.1,(qcd D _ _ _ Z).1,(qcd D _ _ _ Z).2.2⟩
  ·go_wp2;go_meet
   case rel =>
    first
    | exact⟨w.heap.size+2,w.heap.size+2+1,rfl,rfl,by omega,by omega,by omega,(qcd D _ _ _ Z).1,(qcd D _ _ _ Z).2.1,(qcd D _ _ _ Z).2.2⟩
    | exact⟨w.heap.size+2+1,w.heap.size+2,rfl,rfl,by omega,by omega,by omega,(qcd D _ _ _ Z).2.1,(qcd D _ _ _ Z).1,(qcd D _ _ _ Z).2.2⟩
 case rest =>
  obtain⟨O,P,rfl,rfl,b9,g1,g2,h1,E,nB⟩:=hcut;obtain⟨wB,rfl⟩:∃wB:World,wB=wc:=⟨_,rfl⟩;have rB:=nB.old rA (fun h=>h);have nW:=nA.trans nB;have a2:=qj g1;have a6:=qj g2;have f1:=qj hv;have f0:=qj hG;have sB:=nB.size;rw[Z] at sB;have c7:=qj sB;have z:=qj (And.intro (zi h1) (And.intro (zi E) (zi rB)));clear c1 c2 f4 f5 kA rA hv hG Z nA nB g1 g2 sB;go_wp2_with fail
  go_loopw [10,22] (fun sv iv wr=>∃(n:Nat),iv = .int .i64 (n:Int)∧n≤xs.length∧(∃a k c,sv = .slice a k c)∧Hid (wr.ownsRow wB.heap.size 254 36 sv (qas ours (xs.take n)).length ((qas ours (xs.take n)).flatMap zk)) ∧
   wr.heap[O]? = some (.cells #[.int .u64 (qa8 ours l r (xs.take n)).1] 22 (0,0))∧wr.heap[P]? = some (.cells #[.int .u64 (qa8 ours l r (xs.take n)).2] 22 (0,0)) ∧
   wr.heap[w.heap.size+1]? = some (.cells #[.int .u64 0,.int .u64 0,.slice none 0 0] 201 (0,0))∧qq w wr∧wB.heap.size≤wr.heap.size) (fun _ iv _=>xs.length-(intOf iv).toNat)
  case atStart=>exact⟨0,rfl,Nat.zero_le _,⟨_,_,_,rfl⟩,qj (by rw[List.take_zero];exact World.ownsRow_nil _ _ _ _),by rw[List.take_zero];exact h1,by rw[List.take_zero];exact E,rB,nW,Nat.le_refl _⟩
  case round =>
   obtain⟨n,rfl,hn,⟨sa,sk,sc,rfl⟩,HO,k1,k2,kr,nr,h0⟩:=hrel;clear h1 E rB nW;by_cases d3:n<xs.length
   ·obtain⟨x,hx⟩:∃x,xs[n]? = some x:=⟨_,List.getElem?_eq_getElem d3⟩;rcases (qg f1).new nr with ⟨_,_,e,e2⟩ | ⟨g,off,cap,e,hh⟩
    ·rw[e2] at d3;simp at d3
    ·obtain⟨rfl,_,rfl⟩:va=some ⟨g,off,none⟩∧xs.length=xs.length∧vc=cap:=by cases e;exact⟨rfl,rfl,rfl⟩
     have c6:=hh.row hx;have g9:(n:Int)<(xs.length:Int):=by omega
     have e8:stOk (wr.alloc (.cells #[.int .u64 0,.int .u64 0,.int .u8 0,.int .u8 0,.int .u8 0,.int .u8 0,.int .u8 0,.int .u8 0,.int .u8 0,.int .u8 0,.int .u8 0,.int .u8 0,.int .u8 0,.int .u8 0,.int .u8 0,.int .u8 0,.int .u8 0,.int .u8 0,.int .u8 0,.int .u8 0,.int .u8 0,.int .u8 0,.int .u8 0,.int .u8 0,.int .u8 0,.int .u8 0,.int .u8 0,.int .u8 0,.int .u8 0,.int .u8 0,.int .u8 0,.int .u8 0,.int .u8 0,.int .u8 0,.int .i64 0,.bool false,.int .i64 0,.bool false] 69)) wr.heap.size 0 38 (qm x).toArray=true:=qd4 (ql _ _) (by decide) (by rw[List.size_toArray,qbb]) (by rw[List.all_toArray,List.all_eq_true];exact qem x);have a8:=qjh wr #[.int .u64 0,.int .u64 0,.int .u8 0,.int .u8 0,.int .u8 0,.int .u8 0,.int .u8 0,.int .u8 0,.int .u8 0,.int .u8 0,.int .u8 0,.int .u8 0,.int .u8 0,.int .u8 0,.int .u8 0,.int .u8 0,.int .u8 0,.int .u8 0,.int .u8 0,.int .u8 0,.int .u8 0,.int .u8 0,.int .u8 0,.int .u8 0,.int .u8 0,.int .u8 0,.int .u8 0,.int .u8 0,.int .u8 0,.int .u8 0,.int .u8 0,.int .u8 0,.int .u8 0,.int .u8 0,.int .i64 0,.bool false,.int .i64 0,.bool false] 69 (qm x) (by rw[qbb];rfl);have v0:=qwn x;have d6:=qee x;have d7:=qew x;have v37:=qjk x;have vh:((qm x).toArray).extract 0 35=(qv x.h).toArray:=by
      apply Array.ext';simp[qm,List.take_append_of_le_length,qba,List.extract_eq_take_drop]
     have K:=qbb x;generalize qm x=C at c6 e8 a8 v0 d6 d7 v37 vh K;go_upto_region 7 with fail;obtain⟨c0,nC⟩:=a8;generalize (wr.alloc (.cells #[.int .u64 0,.int .u64 0,.int .u8 0,.int .u8 0,.int .u8 0,.int .u8 0,.int .u8 0,.int .u8 0,.int .u8 0,.int .u8 0,.int .u8 0,.int .u8 0,.int .u8 0,.int .u8 0,.int .u8 0,.int .u8 0,.int .u8 0,.int .u8 0,.int .u8 0,.int .u8 0,.int .u8 0,.int .u8 0,.int .u8 0,.int .u8 0,.int .u8 0,.int .u8 0,.int .u8 0,.int .u8 0,.int .u8 0,.int .u8 0,.int .u8 0,.int .u8 0,.int .u8 0,.int .u8 0,.int .i64 0,.bool false,.int .i64 0,.bool false] 69)).setCells wr.heap.size 0 C=wC at c0 nC ⊢;have f7:C.take 38=C:=List.take_of_length_le (by omega);have e7:zt wC wr.heap.size 0 38=some C.toArray:=by rw[qby c0 0 38 (by simp[K])];simp[f7]
     have e1:Spans wC:=(qg f0).new (nr.trans nC);have c9:C.toArray[35]? = some (.bool x.own):=by rw[List.getElem?_toArray];exact d6
     have d9:C.toArray[36]? = some (.int .i64 x.state):=by rw[List.getElem?_toArray];exact d7
     clear e8 c6;go_wp2_with fail;refine(q03 ours x.own x.state C.toArray wC e1 c9 d9).mono ?_;rintro e w1 ⟨rfl,n1⟩;have a7:=n1.old c0 (fun h=>h);have s0:w1.cell? ⟨wr.heap.size,1,none⟩=some (.int .u64 x.h.amount):=by rw[qk a7,List.getElem?_toArray];exact v0
     have g7:w1.cell? ⟨wr.heap.size,35,none⟩=some (.bool x.own):=by rw[qk a7];exact c9
     have b6:w1.cell? ⟨wr.heap.size,37,none⟩=some (.bool x.paid):=by rw[qk a7,List.getElem?_toArray];exact v37
     have e9:zt w1 wr.heap.size 0 35=some (qv x.h).toArray:=by rw[qby a7 0 35 (by simp[K])];rw[Nat.zero_add,vh]
     have U:=nC.trans n1;have j1:=U.old k1 (fun h=>h);have j2:=U.old k2 (fun h=>h);have jr:=U.old kr (fun h=>h);have e3:w1.ownsRow wB.heap.size 254 36 (.slice sa sk sc) (qas ours (xs.take n)).length ((qas ours (xs.take n)).flatMap zk):=qcg (qg HO) U;have H:=qj e3;have b7:=qj (And.intro (show w.heap.size+1≠O by have:=qg a2;omega) (show w.heap.size+1≠P by have:=qg a6;omega));have I:=qj (U.size);have b5:=nr.trans U;clear e3 e1 c9 d9 v0 d6 d7 v37 vh e7 c0 nC a7 n1 U k1 k2 kr HO hh nr;cases o:q7f ours x.own x.state with
     | true =>
      obtain⟨i9,z9,hi,hz,f8,f9,g0⟩:=q0a;have ht:qas ours (xs.take (n+1))=qas ours (xs.take n)++[⟨x.own==ours,x.h⟩]:=by
       rw[List.take_add_one,hx];simp[qas,List.filter_append,o]
      have Y:qa8 ours l r (xs.take (n+1))=qa8 ours l r (xs.take n):=by
       rw[List.take_add_one,hx];simp[qa8,qh7,o]
      have HT:=qj ht;have W:=qj Y;clear ht Y o;have g8:=qba x.h;have e5:(qas ours (xs.take n)).length≤n:=by
       unfold qas;rw[List.length_map];exact Nat.le_trans (List.length_filter_le _ _) (by rw[List.length_take];omega)
      have d8:=qj e5;clear e5;go_wp2_with (at_builtin;refine wpList_append_own _ rfl (.tmp 41) (.tmp 49) 199 rfl wB.heap.size 254 i9 _ 36 64 Tryz.underlying199 hi hz f8 f9 g0 (by decide) _ _ _ rfl ((qg H).alloc _) ⟨w1.heap.size,0,none⟩ 1 1 (zk ⟨x.own==ours,x.h⟩) rfl (qbx _) ?c1 (qno _) ?c3 ?c4 ?c5 ?_)
      case c1 =>
       intro j u hj;have e4:(⟨w1.heap.size,0,none⟩:Addr).add j=⟨w1.heap.size,j,none⟩:=by unfold Addr.add;split<;>simp_all
       rw[e4,qk (ql _ _)];simpa [zk] using hj
      case c3=>have:=qg d8;unfold maxLen;omega
      case c4=>have:=qg d8;omega
      case c5=>have:=qg I;simp;omega
      intro v' w5 T t _;have g3:=(t.block O (by have:=qg z;have:=qg I;simp;omega) (by intro h;have:=(qg H).lt _ h.symm;have:=qg z;omega)).trans (qx j1 _);have g4:=(t.block P (by have:=qg z;have:=qg I;simp;omega) (by intro h;have:=(qg H).lt _ h.symm;have:=qg z;omega)).trans (qx j2 _);have g5:=(t.block (w.heap.size+1) (by have:=qg z;have:=qg I;simp;omega) (by intro h;have:=(qg H).lt _ h.symm;have:=qg z;omega)).trans (qx jr _);have g6:qq w w5:=(b5.alloc _).grown t (fun k h hk=>by have:=(qg H).lt k h;have:=qg c7;omega);have f3:=qj t.size;obtain⟨h4,h6,h5,rfl⟩:=qkq T;have f2:=qj T;clear T t s0 g7 b6 e9 j1 j2 jr;go_wp2;go_roundw
      case rel =>
       refine⟨n+1,by go_num,by omega,⟨_,_,_,rfl⟩,qj ?_,?_,?_,g5,g6,by have:=qg f3;have:=qg I;simp at *;omega⟩
       ·rw[qg HT,List.length_append,List.flatMap_append];simpa using qg f2
       ·rw[qg W];exact g3
       ·rw[qg W];exact g4
      case measure=>simp[intOf];omega
     | false =>
      have ht:qas ours (xs.take (n+1))=qas ours (xs.take n):=by
       rw[List.take_add_one,hx];simp[qas,List.filter_append,o]
      have N:True:=trivial;cases hg:q3z ours x.own x.state<;>cases hp:x.paid
      ·have Y:qa8 ours l r (xs.take (n+1))=qf5 (x.own) x.h.amount (qa8 ours l r (xs.take n)):=by
        rw[List.take_add_one,hx];simp[qa8,qh7,o,hg,hp]
       have HT:=qj ht;have W:=qj Y;have c8:=qj N;rw[hp] at b6;clear ht Y N o hg;go_wp2_with fail;refine(qjd (x.own) x.h.amount O P b9 22 _ _ _ j1 j2).mono ?_;rintro e J ⟨rfl,y,m1,m2⟩;have R:=qj (And.intro m1 m2);clear m1 m2;go_wp2;go_roundw
       case rel =>
        obtain⟨b0,b3,b4⟩:=qg z;obtain⟨d4,d5⟩:=qg b7;have d0:=qg a2;have d1:=qg a6;refine⟨n+1,by go_num,by omega,⟨_,_,_,rfl⟩,qj ?_,?_,?_,y.old jr (by omega),b5.then y (fun i h1 E=>by omega),by have:=y.size;have:=qg I;omega⟩
        ·rw[qg HT];exact qjt (qg H) y (fun k h1 E=>by omega)
        ·rw[qg W];exact(qg R).1
        ·rw[qg W];exact(qg R).2
       case measure=>simp[intOf];omega
      ·have Y:qa8 ours l r (xs.take (n+1))=qf5 (x.own) x.h.amount (qa8 ours l r (xs.take n)):=by
        rw[List.take_add_one,hx];simp[qa8,qh7,o,hg,hp]
       have HT:=qj ht;have W:=qj Y;have c8:=qj N;rw[hp] at b6;clear ht Y N o hg;go_wp2_with fail;refine(qjd (x.own) x.h.amount O P b9 22 _ _ _ j1 j2).mono ?_;rintro e J ⟨rfl,y,m1,m2⟩;have R:=qj (And.intro m1 m2);clear m1 m2;go_wp2;go_roundw
       case rel =>
        obtain⟨b0,b3,b4⟩:=qg z;obtain⟨d4,d5⟩:=qg b7;have d0:=qg a2;have d1:=qg a6;refine⟨n+1,by go_num,by omega,⟨_,_,_,rfl⟩,qj ?_,?_,?_,y.old jr (by omega),b5.then y (fun i h1 E=>by omega),by have:=y.size;have:=qg I;omega⟩
        ·rw[qg HT];exact qjt (qg H) y (fun k h1 E=>by omega)
        ·rw[qg W];exact(qg R).1
        ·rw[qg W];exact(qg R).2
       case measure=>simp[intOf];omega
      ·have Y:qa8 ours l r (xs.take (n+1))=qf5 (x.own) x.h.amount (qa8 ours l r (xs.take n)):=by
        rw[List.take_add_one,hx];simp[qa8,qh7,o,hg,hp]
       have HT:=qj ht;have W:=qj Y;have c8:=qj N;rw[hp] at b6;clear ht Y N o hg;go_wp2_with fail;refine(qjd (x.own) x.h.amount O P b9 22 _ _ _ j1 j2).mono ?_;rintro e J ⟨rfl,y,m1,m2⟩;have R:=qj (And.intro m1 m2);clear m1 m2;go_wp2;go_roundw
       case rel =>
        obtain⟨b0,b3,b4⟩:=qg z;obtain⟨d4,d5⟩:=qg b7;have d0:=qg a2;have d1:=qg a6;refine⟨n+1,by go_num,by omega,⟨_,_,_,rfl⟩,qj ?_,?_,?_,y.old jr (by omega),b5.then y (fun i h1 E=>by omega),by have:=y.size;have:=qg I;omega⟩
        ·rw[qg HT];exact qjt (qg H) y (fun k h1 E=>by omega)
        ·rw[qg W];exact(qg R).1
        ·rw[qg W];exact(qg R).2
       case measure=>simp[intOf];omega
      ·have Y:qa8 ours l r (xs.take (n+1))=qf5 (!x.own) x.h.amount (qa8 ours l r (xs.take n)):=by
        rw[List.take_add_one,hx];simp[qa8,qh7,o,hg,hp]
       have HT:=qj ht;have W:=qj Y;have c8:=qj N;rw[hp] at b6;clear ht Y N o hg;go_wp2_with fail;refine(qjd (!x.own) x.h.amount O P b9 22 _ _ _ j1 j2).mono ?_;rintro e J ⟨rfl,y,m1,m2⟩;have R:=qj (And.intro m1 m2);clear m1 m2;go_wp2;go_roundw
       case rel =>
        obtain⟨b0,b3,b4⟩:=qg z;obtain⟨d4,d5⟩:=qg b7;have d0:=qg a2;have d1:=qg a6;refine⟨n+1,by go_num,by omega,⟨_,_,_,rfl⟩,qj ?_,?_,?_,y.old jr (by omega),b5.then y (fun i h1 E=>by omega),by have:=y.size;have:=qg I;omega⟩
        ·rw[qg HT];exact qjt (qg H) y (fun k h1 E=>by omega)
        ·rw[qg W];exact(qg R).1
        ·rw[qg W];exact(qg R).2
       case measure=>simp[intOf];omega
   ·obtain rfl:n=xs.length:=by omega
    rw[List.take_length] at HO k1 k2;have K:(qas ours xs).length≤19:=by
     unfold qas;rw[List.length_map];exact Nat.le_trans (List.length_filter_le _ _) hl
    obtain⟨_,e6⟩:=qrx (qg HO);clear HO;generalize hX:qas ours xs=X at K e6;have HX:=qj hX;generalize hP:qa8 ours l r xs=p at k1 k2;have b8:=qj hP;clear hX hP;rcases e6 with ⟨e,e2⟩ | ⟨g,cap,e,f6,hh⟩
    ·cases e;subst e2;cases ours
     ·go_wp2_with fail;refine(qhj _).mono ?_;rintro e J ⟨rfl,q2⟩;have c1:J.cell? ⟨O,0,none⟩=some (.int .u64 p.1):=qk (q2.old k1) 0;have c2:J.cell? ⟨P,0,none⟩=some (.int .u64 p.2):=qk (q2.old k2) 0;have V:qq w J:=nr.then (q2.upd (fun _=>False)) (fun _ _ h=>h.elim);have m:=q2.old kr;have r0:=qk m 0;have r1:=qk m 1;have r2:=qk m 2;have z0:=qo m 0;have z1:=qo m 1;have z2:=qo m 2;simp at r0 r1 r2;go_wp2_with fail;refine bodyPost_ret (results_cell_row rfl _ _ (w.heap.size+1) _ _ _ _ rfl (qie _ _ _ m) Tryz.underlying201 rfl Tryz.infoView) rfl ?_;exact⟨_,by rw[qg b8],qif V (by omega) _ _ _,[],.inl ⟨_,_,rfl,rfl⟩,[],by rw[qg HX];exact List.Perm.refl _,List.Pairwise.nil,rfl⟩
     ·go_wp2_with fail;refine(qhj _).mono ?_;rintro e J ⟨rfl,q2⟩;have c1:J.cell? ⟨O,0,none⟩=some (.int .u64 p.1):=qk (q2.old k1) 0;have c2:J.cell? ⟨P,0,none⟩=some (.int .u64 p.2):=qk (q2.old k2) 0;have V:qq w J:=nr.then (q2.upd (fun _=>False)) (fun _ _ h=>h.elim);have m:=q2.old kr;have r0:=qk m 0;have r1:=qk m 1;have r2:=qk m 2;have z0:=qo m 0;have z1:=qo m 1;have z2:=qo m 2;simp at r0 r1 r2;go_wp2_with fail;refine bodyPost_ret (results_cell_row rfl _ _ (w.heap.size+1) _ _ _ _ rfl (qie _ _ _ m) Tryz.underlying201 rfl Tryz.infoView) rfl ?_;exact⟨_,by rw[qg b8],qif V (by omega) _ _ _,[],.inl ⟨_,_,rfl,rfl⟩,[],by rw[qg HX];exact List.Perm.refl _,List.Pairwise.nil,rfl⟩
    ·cases e;cases ours
     ·go_wp2_with fail;refine(qh6 g 0 _ X.length X rfl (by omega) _ hh).mono ?_;rintro e J ⟨rfl,y,M,p2,s2,E⟩;have R:=qj (And.intro p2 (And.intro s2 E));clear p2 s2 E;obtain⟨b0,b3,b4⟩:=qg z;have c1:J.cell? ⟨O,0,none⟩=some (.int .u64 p.1):=qk (y.old k1 (by omega)) 0;have c2:J.cell? ⟨P,0,none⟩=some (.int .u64 p.2):=qk (y.old k2 (by omega)) 0;have V:qq w J:=nr.then y (fun i hi e=>by have:=qg c7;omega);have m:=y.old kr (by omega);have r0:=qk m 0;have r1:=qk m 1;have r2:=qk m 2;have z0:=qo m 0;have z1:=qo m 1;have z2:=qo m 2;simp at r0 r1 r2;go_wp2_with fail;refine bodyPost_ret (results_cell_row rfl _ _ (w.heap.size+1) _ _ _ _ rfl (qie _ _ _ m) Tryz.underlying201 rfl Tryz.infoView) rfl ?_;obtain⟨p2,s2,E⟩:=qg R;have d2:(its M).length=X.length:=by have:=p2.length_eq;simpa using this
      exact⟨_,by rw[qg b8],qif V (by omega) _ _ _,its M,.inr ⟨g,_,by rw[d2],E.upd (qki _ _ _ _ _) (by omega)⟩,M,by rw[qg HX];exact p2,s2,rfl⟩
     ·go_wp2_with fail;refine(qh6 g 0 _ X.length X rfl (by omega) _ hh).mono ?_;rintro e J ⟨rfl,y,M,p2,s2,E⟩;have R:=qj (And.intro p2 (And.intro s2 E));clear p2 s2 E;obtain⟨b0,b3,b4⟩:=qg z;have c1:J.cell? ⟨O,0,none⟩=some (.int .u64 p.1):=qk (y.old k1 (by omega)) 0;have c2:J.cell? ⟨P,0,none⟩=some (.int .u64 p.2):=qk (y.old k2 (by omega)) 0;have V:qq w J:=nr.then y (fun i hi e=>by have:=qg c7;omega);have m:=y.old kr (by omega);have r0:=qk m 0;have r1:=qk m 1;have r2:=qk m 2;have z0:=qo m 0;have z1:=qo m 1;have z2:=qo m 2;simp at r0 r1 r2;go_wp2_with fail;refine bodyPost_ret (results_cell_row rfl _ _ (w.heap.size+1) _ _ _ _ rfl (qie _ _ _ m) Tryz.underlying201 rfl Tryz.infoView) rfl ?_;obtain⟨p2,s2,E⟩:=qg R;have d2:(its M).length=X.length:=by have:=p2.length_eq;simpa using this
      exact⟨_,by rw[qg b8],qif V (by omega) _ _ _,its M,.inr ⟨g,_,by rw[d2],E.upd (qki _ _ _ _ _) (by omega)⟩,M,by rw[qg HX];exact p2,s2,rfl⟩
end Go.Proofs.YtfmkdoachjgjbaaGreatDoor
