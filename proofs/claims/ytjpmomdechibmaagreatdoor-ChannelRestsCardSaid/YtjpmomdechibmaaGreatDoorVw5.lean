/-
  view.Of: its sums (the closure), its loop.
-/
import Derived.Test.YtjpmomdechibmaaGreatDoorMai
import Derived.Deep.CutRange
set_option linter.unusedVariables false
set_option linter.unusedSimpArgs false
namespace Go.Proofs.YtjpmomdechibmaaGreatDoor
open Go.RowKit Go.Sort
attribute [local go_sem ↓ high] qc6 qva qdx quh quj
attribute [local go_sem] qhk zbr qjw zat zax
def qpp(w:World)(v:Value)(X:List Item):Prop:=(∃a c,v = .slice a 0 c∧X=[])∨∃g cap,v = .slice (some ⟨g,0,none⟩) X.length cap∧qdf w g 0 X
theorem qpp.new{w w':World}{v:Value}{X:List Item}(h:qpp w v X)(u:qy w w'):qpp w' v X:=by
 rcases h with h | ⟨g,cap,e,h⟩
 ·exact .inl h
 ·exact .inr ⟨g,cap,e,h.upd u (fun h=>h)⟩
def zb(ours:Bool)(xs:List Live):List Item:=(xs.filter fun x=>qcs ours x.own x.state).map fun x=>⟨x.own==ours,x.h⟩
def qc1(f:Bool)(n:Int)(p:Int × Int):Int × Int:=if f then (IntKind.u64.wrap (p.1+n),p.2) else (p.1,IntKind.u64.wrap (p.2+n))
def qbj(ours:Bool)(p:Int × Int)(x:Live):Int × Int :=
 if qcs ours x.own x.state then p else if qd5 ours x.own x.state&&x.paid then qc1 (!x.own) x.h.amount p else qc1 x.own x.h.amount p
def zn(ours:Bool)(l r:Int)(xs:List Live):Int × Int:=xs.foldl (qbj ours) (l,r)
set_option maxHeartbeats 1000000 in
theorem qmd(i:Bool)(n:Int)(b1 b2:Nat)(l:b1≠b2)(T:TypeId)(x y:Int)(w:World)(f:w.heap[b1]? = some (.cells #[.int .u64 x] T (0,0)))(g:w.heap[b2]? = some (.cells #[.int .u64 y] T (0,0))) :
  Calls Tryz.prog 60 #[.bool i,.int .u64 n,.pointer (some ⟨b1,0,none⟩),.pointer (some ⟨b2,0,none⟩)] w fun e w'=>e = .returned (.tuple #[])∧Upd (fun k=>k=b1∨k=b2) w w'∧w'.heap[b1]? = some (.cells #[.int .u64 (qc1 i n (x,y)).1] T (0,0))∧w'.heap[b2]? = some (.cells #[.int .u64 (qc1 i n (x,y)).2] T (0,0)):=by
 have m:w.cell? ⟨b1,0,none⟩=some (.int .u64 x):=qh f 0
 have o:w.cell? ⟨b2,0,none⟩=some (.int .u64 y):=qh g 0
 have q:w.frozen? ⟨b1,0,none⟩=false:=qq f 0
 have t:w.frozen? ⟨b2,0,none⟩=false:=qq g 0
 cases i
 ·go_enter Tryz.func60,Tryz.ntmps60
  go_wp2
  go_end0
  exact⟨rfl,(Upd.refl _ _).setCell (fun _=> .inr rfl) _,(((Upd.refl (· = b2) w).set1 0 _).old f (fun e=>l e)),zz g 0 _⟩
 ·go_enter Tryz.func60,Tryz.ntmps60
  go_wp2
  go_end0
  exact⟨rfl,(Upd.refl _ _).setCell (fun _=> .inl rfl) _,zz f 0 _,(((Upd.refl (· = b1) w).set1 0 _).old g (fun e=>l e.symm))⟩
theorem Tryz.infoItemB:(Tryz.prog.info? 129).map (fun i=>(i.size,i.bytes,i.zero.map (·.cells.size)))=some (36,64,some 36):=by kernel_rfl
theorem q4u:∃i z,Tryz.prog.info? 129=some i∧i.zero=some z∧i.size=36∧i.bytes=64∧z.cells.size=36:=by
 have h:=Tryz.infoItemB
 cases l:Tryz.prog.info? 129 with
 | none=>rw[l] at h;simp at h
 | some i =>
  rw[l] at h
  simp only[Option.map_some,Option.some.injEq,Prod.mk.injEq] at h
  obtain⟨m,o,f⟩:=h
  cases g:i.zero with
  | none=>rw[g] at f;simp at f
  | some z=>rw[g] at f;simp at f;exact⟨i,z,rfl,g,m,o,f⟩
theorem qc4(w:World)(x y:Obj)(n:Nat)(g:w.heap.size=n):((w.alloc x).alloc y).drew.heap[n]? = some x∧((w.alloc x).alloc y).drew.heap[n+1]? = some y∧qy w ((w.alloc x).alloc y).drew:=by
 subst g
 refine⟨zl (qi w x) y,?_,(((Upd.refl _ _).alloc _).alloc _).drew⟩
 have:=qi (w.alloc x) y
 have f:(w.alloc x).heap.size=w.heap.size+1:=by simp
 rw[f] at this
 exact this
theorem Tryz.infoView:(Tryz.prog.info? 100).map (·.size)=some 3:=by kernel_rfl
def q2t(w:World)(k:Nat)(A B C:Value):World:=((w.setCell ⟨k,0,none⟩ A).setCell ⟨k,1,none⟩ B).setCell ⟨k,2,none⟩ C
theorem qk6{w:World}{k:Nat}{a b c:Value}{T:TypeId}(A B C:Value)(h:w.heap[k]? = some (.cells #[a,b,c] T (0,0))):(q2t w k A B C).heap[k]? = some (.cells #[A,B,C] T (0,0)):=by
 unfold q2t
 rw[zz (zz (zz h 0 A) 1 B) 2 C]
 simp
theorem qnm(w:World)(k:Nat)(A B C:Value):Upd (· = k) w (q2t w k A B C):=(((Upd.refl (· = k) w).set1 0 A).set1 1 B).set1 2 C
theorem qk7{w0 w:World}{k:Nat}(h:qy w0 w)(g:w0.heap.size≤k)(A B C:Value):qy w0 (q2t w k A B C):=h.then (qnm w k A B C) (fun i f e=>by omega)
set_option maxRecDepth 100000 in
set_option maxHeartbeats 4000000 in
theorem zep(ours:Bool)(l r:Int)(v:Value)(xs:List Live)(hl:xs.length≤19)(w:World)(hG:Spans w)(hv:qh6 w v xs) :
  Calls Tryz.prog 42 #[.bool ours,.agg #[.int .u64 l,.int .u64 r],v] w fun e w'=>∃u X,e = .returned (.agg #[.int .u64 (if ours then (zn ours l r xs).1 else (zn ours l r xs).2),.int .u64 (if ours then (zn ours l r xs).2 else (zn ours l r xs).1),u]) ∧
   qy w w'∧qpp w' u X∧∃M,M.Perm (zb ours xs).zipIdx∧Srt M∧X=its M:=by
 obtain⟨va,vn,vc,rfl,g7⟩:∃a n c,v = .slice a n c∧n=xs.length:=by
  rcases hv with ⟨_,_,rfl,rfl⟩ | ⟨g,off,cap,rfl,_⟩
  ·exact⟨_,_,_,rfl,rfl⟩
  ·exact⟨_,_,_,rfl,rfl⟩
 go_enter Tryz.func42,Tryz.ntmps42
 go_upto_region 1 with fail
 obtain⟨z,U⟩:∃z:World,z=(w.alloc (.cells #[.int .u64 l,.int .u64 r] 53)).alloc (.cells #[.int .u64 0,.int .u64 0,.slice none 0 0] 100):=⟨_,rfl⟩
 have T:z.heap.size=w.heap.size+2:=by rw[U];simp
 have nA:qy w z:=by rw[U];exact((Upd.refl _ _).alloc _).alloc _
 have kA:z.heap[w.heap.size]? = some (.cells #[.int .u64 l,.int .u64 r] 53 (0,0)):=by rw[U];exact zl (qi _ _) _
 have rA:z.heap[w.heap.size+1]? = some (.cells #[.int .u64 0,.int .u64 0,.slice none 0 0] 100 (0,0)):=by
  rw[U]
  have:=qi (w.alloc (.cells #[.int .u64 l,.int .u64 r] 53)) (.cells #[.int .u64 0,.int .u64 0,.slice none 0 0] 100)
  simpa using this
 rw[←U]
 clear U
 have c1:z.cell? ⟨w.heap.size,0,none⟩=some (.int .u64 l):=qh kA 0
 have c2:z.cell? ⟨w.heap.size,1,none⟩=some (.int .u64 r):=qh kA 1
 have f0:z.drew.cell? ⟨w.heap.size,0,none⟩=some (.int .u64 l):=c1
 have f1:z.drew.cell? ⟨w.heap.size,1,none⟩=some (.int .u64 r):=c2
 go_cut [7,8] from 15 to 18 (fun p q wx=>∃b1 b2:Nat,p = .pointer (some ⟨b1,0,none⟩)∧q = .pointer (some ⟨b2,0,none⟩)∧b1≠b2∧w.heap.size+2≤b1∧w.heap.size+2≤b2 ∧
  wx.heap[b1]? = some (.cells #[.int .u64 l] 22 (0,0))∧wx.heap[b2]? = some (.cells #[.int .u64 r] 22 (0,0))∧qy z wx)
 case first =>
  go_region
  ·go_wp2
   go_meet
   case rel =>
    first
    | exact⟨w.heap.size+2,w.heap.size+2+1,rfl,rfl,by omega,by omega,by omega,(qc4 z _ _ _ T).1,(qc4 z _ _ _ T).2.1,(qc4 z _ _ _ T).2.2⟩
    | exact⟨w.heap.size+2+1,w.heap.size+2,rfl,rfl,by omega,by omega,by omega,(qc4 z _ _ _ T).2.1,(qc4 z _ _ _ T).1,(qc4 z _ _ _ T).2.2⟩
  ·go_wp2
   go_meet
   case rel =>
    first
    | exact⟨w.heap.size+2,w.heap.size+2+1,rfl,rfl,by omega,by omega,by omega,(qc4 z _ _ _ T).1,(qc4 z _ _ _ T).2.1,(qc4 z _ _ _ T).2.2⟩
    | exact⟨w.heap.size+2+1,w.heap.size+2,rfl,rfl,by omega,by omega,by omega,(qc4 z _ _ _ T).2.1,(qc4 z _ _ _ T).1,(qc4 z _ _ _ T).2.2⟩
 case rest =>
  obtain⟨b1,b2,rfl,rfl,b5,g1,g2,Y,D,nB⟩:=hcut
  obtain⟨wB,rfl⟩:∃wB:World,wB=wc:=⟨_,rfl⟩
  have rB:=nB.old rA (fun h=>h)
  have nW:=nA.trans nB
  have V:=qb g1
  have W:=qb g2
  have e7:=qb hv
  have e6:=qb hG
  have sB:=nB.size
  rw[T] at sB
  have b8:=qb sB
  have y:=qb (And.intro (zw Y) (And.intro (zw D) (zw rB)))
  clear c1 c2 f0 f1 kA rA hv hG T nA nB g1 g2 sB
  go_wp2_with fail
  go_loopw [10,22] (fun sv iv wr=>∃(n:Nat),iv = .int .i64 (n:Int)∧n≤xs.length∧(∃a k c,sv = .slice a k c)∧Hid (wr.ownsRow wB.heap.size 129 36 sv (zb ours (xs.take n)).length ((zb ours (xs.take n)).flatMap zi)) ∧
   wr.heap[b1]? = some (.cells #[.int .u64 (zn ours l r (xs.take n)).1] 22 (0,0))∧wr.heap[b2]? = some (.cells #[.int .u64 (zn ours l r (xs.take n)).2] 22 (0,0)) ∧
   wr.heap[w.heap.size+1]? = some (.cells #[.int .u64 0,.int .u64 0,.slice none 0 0] 100 (0,0))∧qy w wr∧wB.heap.size≤wr.heap.size) (fun _ iv _=>xs.length-(intOf iv).toNat)
  case atStart=>exact⟨0,rfl,Nat.zero_le _,⟨_,_,_,rfl⟩,qb (by rw[List.take_zero];exact World.ownsRow_nil _ _ _ _),by rw[List.take_zero];exact Y,by rw[List.take_zero];exact D,rB,nW,Nat.le_refl _⟩
  case round =>
   obtain⟨n,rfl,hn,⟨sa,sk,sc,rfl⟩,HO,k1,k2,kr,nr,g6⟩:=hrel
   clear Y D rB nW
   by_cases c9:n<xs.length
   ·obtain⟨x,hx⟩:∃x,xs[n]? = some x:=⟨_,List.getElem?_eq_getElem c9⟩
    rcases (qa e7).new nr with ⟨_,_,e,e2⟩ | ⟨g,off,cap,e,hh⟩
    ·rw[e2] at c9;simp at c9
    ·obtain⟨rfl,_,rfl⟩:va=some ⟨g,off,none⟩∧xs.length=xs.length∧vc=cap:=by cases e;exact⟨rfl,rfl,rfl⟩
     have b7:=hh.row hx
     have g5:(n:Int)<(xs.length:Int):=by omega
     have e4:stOk (wr.alloc (.cells #[.int .u64 0,.int .u64 0,.int .u8 0,.int .u8 0,.int .u8 0,.int .u8 0,.int .u8 0,.int .u8 0,.int .u8 0,.int .u8 0,.int .u8 0,.int .u8 0,.int .u8 0,.int .u8 0,.int .u8 0,.int .u8 0,.int .u8 0,.int .u8 0,.int .u8 0,.int .u8 0,.int .u8 0,.int .u8 0,.int .u8 0,.int .u8 0,.int .u8 0,.int .u8 0,.int .u8 0,.int .u8 0,.int .u8 0,.int .u8 0,.int .u8 0,.int .u8 0,.int .u8 0,.int .u8 0,.int .i64 0,.bool false,.int .i64 0,.bool false] 81)) wr.heap.size 0 38 (qm x).toArray=true:=qff (qi _ _) (by decide) (by rw[List.size_toArray,qa0]) (by rw[List.all_toArray,List.all_eq_true];exact qd9 x)
     have a4:=qmk wr #[.int .u64 0,.int .u64 0,.int .u8 0,.int .u8 0,.int .u8 0,.int .u8 0,.int .u8 0,.int .u8 0,.int .u8 0,.int .u8 0,.int .u8 0,.int .u8 0,.int .u8 0,.int .u8 0,.int .u8 0,.int .u8 0,.int .u8 0,.int .u8 0,.int .u8 0,.int .u8 0,.int .u8 0,.int .u8 0,.int .u8 0,.int .u8 0,.int .u8 0,.int .u8 0,.int .u8 0,.int .u8 0,.int .u8 0,.int .u8 0,.int .u8 0,.int .u8 0,.int .u8 0,.int .u8 0,.int .i64 0,.bool false,.int .i64 0,.bool false] 81 (qm x) (by rw[qa0];rfl)
     have v0:=q0t x
     have d2:=qhl x
     have d3:=qfa x
     have d4:=qml x
     have vh:((qm x).toArray).extract 0 35=(q9 x.h).toArray:=by
      apply Array.ext'
      simp[qm,List.take_append_of_le_length,qbd,List.extract_eq_take_drop]
     have I:=qa0 x
     generalize qm x=C at b7 e4 a4 v0 d2 d3 d4 vh I
     go_upto_region 7 with fail
     obtain⟨b6,nC⟩:=a4
     generalize (wr.alloc (.cells #[.int .u64 0,.int .u64 0,.int .u8 0,.int .u8 0,.int .u8 0,.int .u8 0,.int .u8 0,.int .u8 0,.int .u8 0,.int .u8 0,.int .u8 0,.int .u8 0,.int .u8 0,.int .u8 0,.int .u8 0,.int .u8 0,.int .u8 0,.int .u8 0,.int .u8 0,.int .u8 0,.int .u8 0,.int .u8 0,.int .u8 0,.int .u8 0,.int .u8 0,.int .u8 0,.int .u8 0,.int .u8 0,.int .u8 0,.int .u8 0,.int .u8 0,.int .u8 0,.int .u8 0,.int .u8 0,.int .i64 0,.bool false,.int .i64 0,.bool false] 81)).setCells wr.heap.size 0 C=wC at b6 nC ⊢
     have f3:C.take 38=C:=List.take_of_length_le (by omega)
     have e3:zx wC wr.heap.size 0 38=some C.toArray:=by rw[qca b6 0 38 (by simp[I])];simp[f3]
     have d7:Spans wC:=(qa e6).new (nr.trans nC)
     have c0:C.toArray[35]? = some (.bool x.own):=by rw[List.getElem?_toArray];exact d2
     have d6:C.toArray[36]? = some (.int .i64 x.state):=by rw[List.getElem?_toArray];exact d3
     clear e4 b7
     go_wp2_with fail
     refine(q5h ours x.own x.state C.toArray wC d7 c0 d6).mono ?_
     rintro e w1 ⟨rfl,n1⟩
     have Z:=n1.old b6 (fun h=>h)
     have s0:w1.cell? ⟨wr.heap.size,1,none⟩=some (.int .u64 x.h.amount):=by rw[qh Z,List.getElem?_toArray];exact v0
     have g3:w1.cell? ⟨wr.heap.size,35,none⟩=some (.bool x.own):=by rw[qh Z];exact c0
     have a9:w1.cell? ⟨wr.heap.size,37,none⟩=some (.bool x.paid):=by rw[qh Z,List.getElem?_toArray];exact d4
     have e5:zx w1 wr.heap.size 0 35=some (q9 x.h).toArray:=by rw[qca Z 0 35 (by simp[I])];rw[Nat.zero_add,vh]
     have N:=nC.trans n1
     have j1:=N.old k1 (fun h=>h)
     have j2:=N.old k2 (fun h=>h)
     have jr:=N.old kr (fun h=>h)
     have d8:w1.ownsRow wB.heap.size 129 36 (.slice sa sk sc) (zb ours (xs.take n)).length ((zb ours (xs.take n)).flatMap zi):=qyc (qa HO) N
     have E:=qb d8
     have b3:=qb (And.intro (show w.heap.size+1≠b1 by have:=qa V;omega) (show w.heap.size+1≠b2 by have:=qa W;omega))
     have F:=qb (N.size)
     have a8:=nr.trans N
     clear d8 d7 c0 d6 v0 d2 d3 d4 vh e3 b6 nC Z n1 N k1 k2 kr HO hh nr
     cases m:qcs ours x.own x.state with
     | true =>
      obtain⟨i9,z9,hi,hz,f4,f5,f6⟩:=q4u
      have ht:zb ours (xs.take (n+1))=zb ours (xs.take n)++[⟨x.own==ours,x.h⟩]:=by
       rw[List.take_add_one,hx]
       simp[zb,List.filter_append,m]
      have R:zn ours l r (xs.take (n+1))=zn ours l r (xs.take n):=by
       rw[List.take_add_one,hx]
       simp[zn,qbj,m]
      have HT:=qb ht
      have P:=qb R
      clear ht R m
      have g4:=qbd x.h
      have e0:(zb ours (xs.take n)).length≤n:=by
       unfold zb;rw[List.length_map]
       exact Nat.le_trans (List.length_filter_le _ _) (by rw[List.length_take];omega)
      have d5:=qb e0
      clear e0
      go_wp2_with (at_builtin;refine wpList_append_own _ rfl (.tmp 41) (.tmp 49) 98 rfl wB.heap.size 129 i9 _ 36 64 Tryz.underlying98 hi hz f4 f5 f6 (by decide) _ _ _ rfl ((qa E).alloc _) ⟨w1.heap.size,0,none⟩ 1 1 (zi ⟨x.own==ours,x.h⟩) rfl (qcg _) ?c1 (qqp _) ?c3 ?c4 ?c5 ?_)
      case c1 =>
       intro j u hj
       have d9:(⟨w1.heap.size,0,none⟩:Addr).add j=⟨w1.heap.size,j,none⟩:=by unfold Addr.add;split<;>simp_all
       rw[d9,qh (qi _ _)]
       simpa [zi] using hj
      case c3=>have:=qa d5;unfold maxLen;omega
      case c4=>have:=qa d5;omega
      case c5=>have:=qa F;simp;omega
      intro v' w5 L o _
      have f7:=(o.block b1 (by have:=qa y;have:=qa F;simp;omega) (by intro h;have:=(qa E).lt _ h.symm;have:=qa y;omega)).trans (zl j1 _)
      have f8:=(o.block b2 (by have:=qa y;have:=qa F;simp;omega) (by intro h;have:=(qa E).lt _ h.symm;have:=qa y;omega)).trans (zl j2 _)
      have f9:=(o.block (w.heap.size+1) (by have:=qa y;have:=qa F;simp;omega) (by intro h;have:=(qa E).lt _ h.symm;have:=qa y;omega)).trans (zl jr _)
      have g0:qy w w5:=(a8.alloc _).grown o (fun k h hk=>by have:=(qa E).lt k h;have:=qa b8;omega)
      have e9:=qb o.size
      obtain⟨g8,h0,g9,rfl⟩:=qnt L
      have e8:=qb L
      clear L o s0 g3 a9 e5 j1 j2 jr
      go_wp2
      go_roundw
      case rel =>
       refine⟨n+1,by go_num,by omega,⟨_,_,_,rfl⟩,qb ?_,?_,?_,f9,g0,by have:=qa e9;have:=qa F;simp at *;omega⟩
       ·rw[qa HT,List.length_append,List.flatMap_append];simpa using qa e8
       ·rw[qa P];exact f7
       ·rw[qa P];exact f8
      case measure=>simp[intOf];omega
     | false =>
      have ht:zb ours (xs.take (n+1))=zb ours (xs.take n):=by
       rw[List.take_add_one,hx]
       simp[zb,List.filter_append,m]
      have J:True:=trivial
      cases hg:qd5 ours x.own x.state<;>cases hp:x.paid
      ·have R:zn ours l r (xs.take (n+1))=qc1 (x.own) x.h.amount (zn ours l r (xs.take n)):=by
        rw[List.take_add_one,hx]
        simp[zn,qbj,m,hg,hp]
       have HT:=qb ht
       have P:=qb R
       have b9:=qb J
       rw[hp] at a9
       clear ht R J m hg
       go_wp2_with fail
       refine(qmd (x.own) x.h.amount b1 b2 b5 22 _ _ _ j1 j2).mono ?_
       rintro e H ⟨rfl,t,m1,m2⟩
       have K:=qb (And.intro m1 m2)
       clear m1 m2
       go_wp2
       go_roundw
       case rel =>
        obtain⟨a5,a6,a7⟩:=qa y
        obtain⟨d0,d1⟩:=qa b3
        have c6:=qa V
        have c7:=qa W
        refine⟨n+1,by go_num,by omega,⟨_,_,_,rfl⟩,qb ?_,?_,?_,t.old jr (by omega),a8.then t (fun i Y D=>by omega),by have:=t.size;have:=qa F;omega⟩
        ·rw[qa HT];exact qmu (qa E) t (fun k Y D=>by omega)
        ·rw[qa P];exact(qa K).1
        ·rw[qa P];exact(qa K).2
       case measure=>simp[intOf];omega
      ·have R:zn ours l r (xs.take (n+1))=qc1 (x.own) x.h.amount (zn ours l r (xs.take n)):=by
        rw[List.take_add_one,hx]
        simp[zn,qbj,m,hg,hp]
       have HT:=qb ht
       have P:=qb R
       have b9:=qb J
       rw[hp] at a9
       clear ht R J m hg
       go_wp2_with fail
       refine(qmd (x.own) x.h.amount b1 b2 b5 22 _ _ _ j1 j2).mono ?_
       rintro e H ⟨rfl,t,m1,m2⟩
       have K:=qb (And.intro m1 m2)
       clear m1 m2
       go_wp2
       go_roundw
       case rel =>
        obtain⟨a5,a6,a7⟩:=qa y
        obtain⟨d0,d1⟩:=qa b3
        have c6:=qa V
        have c7:=qa W
        refine⟨n+1,by go_num,by omega,⟨_,_,_,rfl⟩,qb ?_,?_,?_,t.old jr (by omega),a8.then t (fun i Y D=>by omega),by have:=t.size;have:=qa F;omega⟩
        ·rw[qa HT];exact qmu (qa E) t (fun k Y D=>by omega)
        ·rw[qa P];exact(qa K).1
        ·rw[qa P];exact(qa K).2
       case measure=>simp[intOf];omega
      ·have R:zn ours l r (xs.take (n+1))=qc1 (x.own) x.h.amount (zn ours l r (xs.take n)):=by
        rw[List.take_add_one,hx]
        simp[zn,qbj,m,hg,hp]
       have HT:=qb ht
       have P:=qb R
       have b9:=qb J
       rw[hp] at a9
       clear ht R J m hg
       go_wp2_with fail
       refine(qmd (x.own) x.h.amount b1 b2 b5 22 _ _ _ j1 j2).mono ?_
       rintro e H ⟨rfl,t,m1,m2⟩
       have K:=qb (And.intro m1 m2)
       clear m1 m2
       go_wp2
       go_roundw
       case rel =>
        obtain⟨a5,a6,a7⟩:=qa y
        obtain⟨d0,d1⟩:=qa b3
        have c6:=qa V
        have c7:=qa W
        refine⟨n+1,by go_num,by omega,⟨_,_,_,rfl⟩,qb ?_,?_,?_,t.old jr (by omega),a8.then t (fun i Y D=>by omega),by have:=t.size;have:=qa F;omega⟩
        ·rw[qa HT];exact qmu (qa E) t (fun k Y D=>by omega)
        ·rw[qa P];exact(qa K).1
        ·rw[qa P];exact(qa K).2
       case measure=>simp[intOf];omega
      ·have R:zn ours l r (xs.take (n+1))=qc1 (!x.own) x.h.amount (zn ours l r (xs.take n)):=by
        rw[List.take_add_one,hx]
        simp[zn,qbj,m,hg,hp]
       have HT:=qb ht
       have P:=qb R
       have b9:=qb J
       rw[hp] at a9
       clear ht R J m hg
       go_wp2_with fail
       refine(qmd (!x.own) x.h.amount b1 b2 b5 22 _ _ _ j1 j2).mono ?_
       rintro e H ⟨rfl,t,m1,m2⟩
       have K:=qb (And.intro m1 m2)
       clear m1 m2
       go_wp2
       go_roundw
       case rel =>
        obtain⟨a5,a6,a7⟩:=qa y
        obtain⟨d0,d1⟩:=qa b3
        have c6:=qa V
        have c7:=qa W
        refine⟨n+1,by go_num,by omega,⟨_,_,_,rfl⟩,qb ?_,?_,?_,t.old jr (by omega),a8.then t (fun i Y D=>by omega),by have:=t.size;have:=qa F;omega⟩
        ·rw[qa HT];exact qmu (qa E) t (fun k Y D=>by omega)
        ·rw[qa P];exact(qa K).1
        ·rw[qa P];exact(qa K).2
       case measure=>simp[intOf];omega
   ·obtain rfl:n=xs.length:=by omega
    rw[List.take_length] at HO k1 k2
    have I:(zb ours xs).length≤19:=by
     unfold zb;rw[List.length_map]
     exact Nat.le_trans (List.length_filter_le _ _) hl
    obtain⟨_,e1⟩:=qu5 (qa HO)
    clear HO
    generalize hX:zb ours xs=X at I e1
    have HX:=qb hX
    generalize hP:zn ours l r xs=p at k1 k2
    have b4:=qb hP
    clear hX hP
    rcases e1 with ⟨e,e2⟩ | ⟨g,cap,e,f2,hh⟩
    ·cases e
     subst e2
     cases ours
     ·go_wp2_with fail
      refine(qj2 _).mono ?_
      rintro e H ⟨rfl,q2⟩
      have c1:H.cell? ⟨b1,0,none⟩=some (.int .u64 p.1):=qh (q2.old k1) 0
      have c2:H.cell? ⟨b2,0,none⟩=some (.int .u64 p.2):=qh (q2.old k2) 0
      have O:qy w H:=nr.then (q2.upd (fun _=>False)) (fun _ _ h=>h.elim)
      have f:=q2.old kr
      have r0:=qh f 0
      have r1:=qh f 1
      have r2:=qh f 2
      have z0:=qq f 0
      have z1:=qq f 1
      have z2:=qq f 2
      simp at r0 r1 r2
      go_wp2_with fail
      refine bodyPost_ret (results_cell_row rfl _ _ (w.heap.size+1) _ _ _ _ rfl (qk6 _ _ _ f) Tryz.underlying100 rfl Tryz.infoView) rfl ?_
      exact⟨_,by rw[qa b4],qk7 O (by omega) _ _ _,[],.inl ⟨_,_,rfl,rfl⟩,[],by rw[qa HX];exact List.Perm.refl _,List.Pairwise.nil,rfl⟩
     ·go_wp2_with fail
      refine(qj2 _).mono ?_
      rintro e H ⟨rfl,q2⟩
      have c1:H.cell? ⟨b1,0,none⟩=some (.int .u64 p.1):=qh (q2.old k1) 0
      have c2:H.cell? ⟨b2,0,none⟩=some (.int .u64 p.2):=qh (q2.old k2) 0
      have O:qy w H:=nr.then (q2.upd (fun _=>False)) (fun _ _ h=>h.elim)
      have f:=q2.old kr
      have r0:=qh f 0
      have r1:=qh f 1
      have r2:=qh f 2
      have z0:=qq f 0
      have z1:=qq f 1
      have z2:=qq f 2
      simp at r0 r1 r2
      go_wp2_with fail
      refine bodyPost_ret (results_cell_row rfl _ _ (w.heap.size+1) _ _ _ _ rfl (qk6 _ _ _ f) Tryz.underlying100 rfl Tryz.infoView) rfl ?_
      exact⟨_,by rw[qa b4],qk7 O (by omega) _ _ _,[],.inl ⟨_,_,rfl,rfl⟩,[],by rw[qa HX];exact List.Perm.refl _,List.Pairwise.nil,rfl⟩
    ·cases e
     cases ours
     ·go_wp2_with fail
      refine(qky g 0 _ X.length X rfl (by omega) _ hh).mono ?_
      rintro e H ⟨rfl,t,M,p2,s2,D⟩
      have K:=qb (And.intro p2 (And.intro s2 D))
      clear p2 s2 D
      obtain⟨a5,a6,a7⟩:=qa y
      have c1:H.cell? ⟨b1,0,none⟩=some (.int .u64 p.1):=qh (t.old k1 (by omega)) 0
      have c2:H.cell? ⟨b2,0,none⟩=some (.int .u64 p.2):=qh (t.old k2 (by omega)) 0
      have O:qy w H:=nr.then t (fun i hi e=>by have:=qa b8;omega)
      have f:=t.old kr (by omega)
      have r0:=qh f 0
      have r1:=qh f 1
      have r2:=qh f 2
      have z0:=qq f 0
      have z1:=qq f 1
      have z2:=qq f 2
      simp at r0 r1 r2
      go_wp2_with fail
      refine bodyPost_ret (results_cell_row rfl _ _ (w.heap.size+1) _ _ _ _ rfl (qk6 _ _ _ f) Tryz.underlying100 rfl Tryz.infoView) rfl ?_
      obtain⟨p2,s2,D⟩:=qa K
      have c8:(its M).length=X.length:=by have:=p2.length_eq;simpa using this
      exact⟨_,by rw[qa b4],qk7 O (by omega) _ _ _,its M,.inr ⟨g,_,by rw[c8],D.upd (qnm _ _ _ _ _) (by omega)⟩,M,by rw[qa HX];exact p2,s2,rfl⟩
     ·go_wp2_with fail
      refine(qky g 0 _ X.length X rfl (by omega) _ hh).mono ?_
      rintro e H ⟨rfl,t,M,p2,s2,D⟩
      have K:=qb (And.intro p2 (And.intro s2 D))
      clear p2 s2 D
      obtain⟨a5,a6,a7⟩:=qa y
      have c1:H.cell? ⟨b1,0,none⟩=some (.int .u64 p.1):=qh (t.old k1 (by omega)) 0
      have c2:H.cell? ⟨b2,0,none⟩=some (.int .u64 p.2):=qh (t.old k2 (by omega)) 0
      have O:qy w H:=nr.then t (fun i hi e=>by have:=qa b8;omega)
      have f:=t.old kr (by omega)
      have r0:=qh f 0
      have r1:=qh f 1
      have r2:=qh f 2
      have z0:=qq f 0
      have z1:=qq f 1
      have z2:=qq f 2
      simp at r0 r1 r2
      go_wp2_with fail
      refine bodyPost_ret (results_cell_row rfl _ _ (w.heap.size+1) _ _ _ _ rfl (qk6 _ _ _ f) Tryz.underlying100 rfl Tryz.infoView) rfl ?_
      obtain⟨p2,s2,D⟩:=qa K
      have c8:(its M).length=X.length:=by have:=p2.length_eq;simpa using this
      exact⟨_,by rw[qa b4],qk7 O (by omega) _ _ _,its M,.inr ⟨g,_,by rw[c8],D.upd (qnm _ _ _ _ _) (by omega)⟩,M,by rw[qa HX];exact p2,s2,rfl⟩
end Go.Proofs.YtjpmomdechibmaaGreatDoor
