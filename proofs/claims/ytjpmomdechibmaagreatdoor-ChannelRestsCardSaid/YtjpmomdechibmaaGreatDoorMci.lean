/-
  XDag's law, wider: what is known of an operation may name the values of those that it looks at; and each operation has its own relation between worlds (a store into a block that the region made).
-/
import Derived.Test.YtjpmomdechibmaaGreatDoorDag
import Derived.Test.YtjpmomdechibmaaGreatDoorMbe
import Derived.Test.YtjpmomdechibmaaGreatDoorMaa
import Derived.Test.YtjpmomdechibmaaGreatDoorShR3
import Derived.Test.YtjpmomdechibmaaGreatDoorMbf
set_option linter.unusedVariables false
set_option linter.unusedSimpArgs false
namespace Go.Proofs.YtjpmomdechibmaaGreatDoor
open Go.RowKit
section
variable {P:Program}{l:List Oper}{A:List (List Nat)}{L:List (List (Nat × Nat))}{n:Nat}
def upV(ql:Nat→Value)(k:Nat)(v:Value):Nat→Value:=fun j=>if j=k then v else ql j
theorem qrr(ql:Nat→Value)(k:Nat)(v:Value):upV ql k v k=v:=by simp[upV]
theorem qix(ql:Nat→Value){k j:Nat}(v:Value)(h:j≠k):upV ql k v j=ql j:=by simp[upV,h]
def qpo(P:Program)(a0:Act)(S:World→Prop)(R:Nat→World→World→Prop)(Φ:Nat→(Nat→Value)→World→Prop)(i:Nat)(o:Oper)(Li:List (Nat × Nat)):Prop :=
 ∀(ql:Nat→Value) (w:World),S w→(∀p∈Li,Φ p.1 ql w) →
  match o.guard with
  | none=>zk P o (putL a0 ql Li).eval w fun v w'=>R i w w'∧S w'∧Φ i (upV ql i v) w'
  | some (g,b)=>Φ g ql w→(ql g = .bool b→zk P o (putL a0 ql Li).eval w fun v w'=>R i w w'∧S w'∧Φ i (upV ql i v) w')∧(ql g ≠ .bool b→Φ i (upV ql i undef) w)
def qal(P:Program)(a0:Act)(S:World→Prop)(R:Nat→World→World→Prop)(Φ:Nat→(Nat→Value)→World→Prop):Nat→List Oper→List (List (Nat × Nat))→Prop
 | _,[],_=>True
 | i,o::os,L=>qpo P a0 S R Φ i o (L.headD [])∧qal P a0 S R Φ (i+1) os L.tail
theorem qal.nil{a0:Act}{S:World→Prop}{R:Nat→World→World→Prop}{Φ:Nat→(Nat→Value)→World→Prop}{i:Nat}{L:List (List (Nat × Nat))} : qal P a0 S R Φ i [] L:=trivial
theorem qal.cons{a0:Act}{S:World→Prop}{R:Nat→World→World→Prop}{Φ:Nat→(Nat→Value)→World→Prop}{i:Nat}{o:Oper}{os:List Oper}{Li:List (Nat × Nat)}{L:List (List (Nat × Nat))}(h:qpo P a0 S R Φ i o Li)
  (k:qal P a0 S R Φ (i+1) os L):qal P a0 S R Φ i (o::os) (Li::L):=⟨h,k⟩
def qsi(Φ:Nat→(Nat→Value)→World→Prop)(ql:Nat→Value)(w:World):List (Nat × Nat)→Prop
 | []=>True
 | p::r=>Φ p.1 ql w∧qsi Φ ql w r
theorem qyf{Φ:Nat→(Nat→Value)→World→Prop}{ql:Nat→Value}{w:World} : ∀ {L:List (Nat × Nat)},(∀p∈L,Φ p.1 ql w)→qsi Φ ql w L
 | [],_=>trivial
 | p::r,h=>⟨h p (List.mem_cons_self ..),qyf fun q f=>h q (List.mem_cons_of_mem _ f)⟩
theorem qal.plain{a0:Act}{S:World→Prop}{R:Nat→World→World→Prop}{Φ:Nat→(Nat→Value)→World→Prop}{i:Nat}{o:Oper}{os:List Oper}{Li:List (Nat × Nat)}{L:List (List (Nat × Nat))}(g:o.guard=none)
  (h:∀(ql:Nat→Value) (w:World),S w→qsi Φ ql w Li→zk P o (putL a0 ql Li).eval w fun v w'=>R i w w'∧S w'∧Φ i (upV ql i v) w')
  (k:qal P a0 S R Φ (i+1) os L):qal P a0 S R Φ i (o::os) (Li::L) :=
 ⟨fun ql w f m=>by rw[g];exact h ql w f (qyf m),k⟩
theorem qal.at{a0:Act}{S:World→Prop}{R:Nat→World→World→Prop}{Φ:Nat→(Nat→Value)→World→Prop} : ∀ {os:List Oper} {L:List (List (Nat × Nat))} {k:Nat},qal P a0 S R Φ k os L→∀(i:Nat) o,os[i]? = some o→qpo P a0 S R Φ (k+i) o (L.getD i [])
 | [],_,_,_,_,_,h=>by simp at h
 | o::os,L,k,h,0,g,f=>by
  simp only[List.getElem?_cons_zero,Option.some.injEq] at f
  subst f
  have:=h.1
  cases L<;>exact this
 | o::os,L,k,h,i+1,g,f=>by
  have:=qal.at h.2 i g (by simpa using f)
  rw[show k+(i+1)=k+1+i by omega]
  cases L<;>exact this
structure DagInvG(l:List Oper)(A:List (List Nat))(a0:Act)(S:World→Prop)(Φ:Nat→(Nat→Value)→World→Prop)(listed:Array Bool)(a:Act)(w:World)(ql:Nat→Value):Prop where
 size:listed.size=l.length
 s:S w
 phi:∀i,listed.getD i false=true→Φ i ql w
 shut:∀i,listed.getD i false=true→∀k∈A.getD i [],listed.getD k false=true
 defers:a.defers=a0.defers
 tmps:a.tmps.size=a0.tmps.size
 other:∀t,(∀i,listed.getD i false=true→qbh l i≠some t)→a.tmps[t]? = a0.tmps[t]?
 at_:∀i t,listed.getD i false=true→qbh l i=some t→a.tmps[t]? = some (ql i)
theorem q7d(D:Dag l A L n){a0:Act}(hn:a0.tmps.size=n){S:World→Prop}{R:Nat→World→World→Prop}{Φ:Nat→(Nat→Value)→World→Prop}{Q:Exit→Act→World→Prop}
  (b7:∀i w,R i w w) (loc:∀i k ql v w,k≠i→(∀p∈L.getD i [],p.1≠k)→Φ i ql w→Φ i (upV ql k v) w) (Z:∀i j ql w w',i≠j→S w→S w'→R j w w'→Φ i ql w→Φ i ql w') (a6:qal P a0 S R Φ 0 l L)
  (b8:∀ql w,S w→(∀i,i<l.length→Φ i ql w)→Q .normal (putL a0 ql (qa3 l)) w) :
  ∀(E:Nat) (f:Array Bool) (a:Act) (w:World) (ql:Nat→Value),DagInvG l A a0 S Φ f a w ql→(List.range l.length).countP (fun i=> !f.getD i false)≤E→wpAny P .any l.toArray Q E f a w:=by
 have W:∀(f:Array Bool) (a:Act) (w:World) (ql:Nat→Value),DagInvG l A a0 S Φ f a w ql→Region.ready .any l.toArray f=[]→Q .normal a w:=by
  intro f a w ql I hr
  have all:∀(i:Nat),i<l.length→f.getD i false=true:=by
   intro i
   induction i using Nat.strongRecOn with
   | _ i ih =>
    intro M
    cases hl:f.getD i false with
    | true=>rfl
    | false =>
     exfalso
     have:i∈Region.ready .any l.toArray f:=by
      rw[mem_ready]
      have ho:l[i]? = some l[i]:=List.getElem?_eq_getElem M
      refine⟨?_,l[i],by simp[M],fun e he hb=> ?_⟩
      ·rw[Array.getD_eq_getD_getElem?] at hl ⊢
       have:i<f.size:=by rw[I.size];exact M
       rw[Array.getElem?_eq_getElem this] at hl ⊢
       simpa using hl
      ·have K:=(D.edge i _ ho e he hb).1
       have h2:=(D.anc i _ ho _ K).1
       exact ih _ h2 (by omega)
     rw[hr] at this
     cases this
  have ha:a=putL a0 ql (qa3 l):=by
   refine qzh (by rw[qhm];exact I.defers) fun t=> ?_
   by_cases h:∃i,qbh l i=some t
   ·obtain⟨i,M⟩:=h
    have J:=(qlg M).1
    rw[I.at_ i t (all i J) M]
    have hm:(i,t)∈qa3 l:=by
     unfold qa3
     rw[List.mem_filterMap]
     exact⟨i,List.mem_range.2 J,by rw[M];rfl⟩
    refine(qjo ql (qa3 l) a0 (i,t) hm (fun q hq e=> ?_) (by rw[hn];exact(D.slot i t M).1)).symm
    unfold qa3 at hq
    rw[List.mem_filterMap] at hq
    obtain⟨j,_,z⟩:=hq
    rw[Option.map_eq_some_iff] at z
    obtain⟨t',a5,rfl⟩:=z
    simp only at e
    subst e
    exact(D.slot i _ M).2 j a5
   ·rw[I.other t fun i _ O=>h ⟨i,O⟩,qef]
    intro p X e
    unfold qa3 at X
    rw[List.mem_filterMap] at X
    obtain⟨j,_,z⟩:=X
    rw[Option.map_eq_some_iff] at z
    obtain⟨t',a5,rfl⟩:=z
    exact h ⟨j,by rw[a5,←e]⟩
  rw[ha]
  exact b8 ql w I.s fun i M=>I.phi i (all i M)
 intro E
 induction E with
 | zero =>
  intro f a w ql I hc
  have hr:Region.ready .any l.toArray f=[]:=by
   rw[List.eq_nil_iff_forall_not_mem]
   intro i M
   obtain⟨h0,o,ho,_⟩:=mem_ready.1 M
   have J:i<l.length:=by simpa using (Array.getElem?_eq_some_iff.1 ho).1
   have:(List.range l.length).countP (fun i=> !f.getD i false)=0:=by omega
   rw[List.countP_eq_zero] at this
   have:=this i (List.mem_range.2 J)
   rw[Array.getD_eq_getD_getElem?] at h0 this
   have O:i<f.size:=by rw[I.size];exact J
   rw[Array.getElem?_eq_getElem O] at h0 this
   simp at h0 this
   rw[h0] at this
   cases this
  exact⟨hr,W f a w ql I hr⟩
 | succ E ih =>
  intro f a w ql I hc
  refine⟨fun hr=>W f a w ql I hr,fun i M=> ?_⟩
  obtain⟨h0,o,ho,a7⟩:=mem_ready.1 M
  have J:i<l.length:=by simpa using (Array.getElem?_eq_some_iff.1 ho).1
  have O:i<f.size:=by rw[I.size];exact J
  have F:l[i]? = some o:=by simpa using ho
  have V:f.getD i false=false:=by
   rw[Array.getD_eq_getD_getElem?] at h0 ⊢
   rw[Array.getElem?_eq_getElem O] at h0 ⊢
   simpa using h0
  have T:∀k∈A.getD i [],f.getD k false=true:=by
   intro k hk
   obtain⟨_,e,he,hb,h⟩:=D.anc i o F k hk
   have K:=a7 e he hb
   rcases h with rfl | h
   ·exact K
   ·exact I.shut _ K k h
  have a4:∀t∈o.looksAt l.toArray,a.tmps[t]? = (putL a0 ql (L.getD i [])).tmps[t]? := by
   intro t ht
   by_cases h:∃j,f.getD j false=true∧qbh l j=some t
   ·obtain⟨j,z,C⟩:=h
    rcases D.look i o F t ht j C with K | ⟨K,h2⟩
    ·have:=I.shut j z i K
     rw[V] at this
     cases this
    ·rw[I.at_ j t z C]
     refine(qjo ql _ a0 (j,t) h2 (fun q hq e=> ?_) (by rw[hn];exact(D.slot j t C).1)).symm
     have:=(D.lis i o F q hq).2
     rw[e] at this
     exact(D.slot j t C).2 _ this
   ·rw[I.other t fun j z O=>h ⟨j,z,O⟩,qef]
    intro p X e
    obtain⟨K,h2⟩:=D.lis i o F p X
    exact h ⟨p.1,T _ K,by rw[h2,e]⟩
  have U:execOp a.eval o=execOp (putL a0 ql (L.getD i [])).eval o:=by
   refine execOp_congr o (D.sel i o F) fun x hx=> ?_
   cases x with
   | tmp t =>
    have:=a4 t (List.mem_append_left _ (List.mem_filterMap.2 ⟨.tmp t,by simpa using hx,rfl⟩))
    simp only[Act.eval,Array.getD_eq_getD_getElem?,this]
   | _=>rfl
  have b6:=a6.at i o F
  rw[Nat.zero_add] at b6
  have H:=b6 ql w I.s fun p X=>I.phi _ (T _ (D.lis i o F p X).1)
  have next:∀v w',R i w w'→S w'→Φ i (upV ql i v) w'→wpAny P .any l.toArray Q E (f.setIfInBounds i true) (a.put o.dst v) w':=by
   intro v w' hR hS hΦ
   have Y:qbh l i=o.dst:=by unfold qbh;rw[F];rfl
   refine ih (f.setIfInBounds i true) (a.put o.dst v) w' (upV ql i v) ⟨?_,hS,?_,?_,?_,?_,?_,?_⟩ ?_
   ·rw[Array.size_setIfInBounds];exact I.size
   ·intro j z
    rcases (z7 O).1 z with rfl | y
    ·exact hΦ
    ·have N:j≠i:=by rintro rfl;rw[V] at y;cases y
     have c1:j<l.length:=by
      rcases Nat.lt_or_ge j l.length with h | h
      ·exact h
      ·rw[Array.getD_eq_getD_getElem?,Array.getElem?_eq_none (by rw[I.size];exact h)] at y
       cases y
     refine Z j i _ w w' N I.s hS hR (loc j i ql v w (Ne.symm N) (fun p X e=> ?_) (I.phi j y))
     have hA:=(D.lis j _ (List.getElem?_eq_getElem c1) p X).1
     have:=I.shut j y _ hA
     rw[e,V] at this
     cases this
   ·intro j z k hk
    refine(z7 O).2 ?_
    rcases (z7 O).1 z with rfl | y
    ·exact .inr (T k hk)
    ·exact .inr (I.shut j y k hk)
   ·cases o.dst<;>exact I.defers
   ·cases hd:o.dst with
    | none=>exact I.tmps
    | some d=>simpa [Act.put] using I.tmps
   ·intro t ht
    have K:=I.other t fun j z=>ht j ((z7 O).2 (.inr z))
    have h2:=ht i ((z7 O).2 (.inl rfl))
    rw[Y] at h2
    cases hd:o.dst with
    | none=>exact K
    | some d =>
     have N:d≠t:=by rintro rfl;exact h2 hd
     simpa [Act.put,Array.getElem?_setIfInBounds_ne N] using K
   ·intro j t z C
    rcases (z7 O).1 z with rfl | y
    ·rw[Y] at C
     rw[C,qrr]
     have:t<a.tmps.size:=by rw[I.tmps,hn];exact(D.slot j t (by rw[Y,C])).1
     simp[Act.put,this]
    ·have N:j≠i:=by rintro rfl;rw[V] at y;cases y
     rw[qix _ _ N]
     have K:=I.at_ j t y C
     cases hd:o.dst with
     | none=>exact K
     | some d =>
      have b5:d≠t:=by
       rintro rfl
       exact N ((D.slot i d (by rw[Y,hd])).2 j C)
      simpa [Act.put,Array.getElem?_setIfInBounds_ne b5] using K
   ·have K:(List.range l.length).countP (fun j=> !(f.setIfInBounds i true).getD j false)<(List.range l.length).countP (fun j=> !f.getD j false):=by
     have b4:i∈List.range l.length:=List.mem_range.2 J
     obtain⟨s,r,c2⟩:=List.append_of_mem b4
     rw[c2,List.countP_append,List.countP_append,List.countP_cons,List.countP_cons]
     have m:∀xs:List Nat,xs.countP (fun j=> !(f.setIfInBounds i true).getD j false)≤xs.countP (fun j=> !f.getD j false):=by
      intro xs
      refine List.countP_mono_left fun j _ z=> ?_
      cases h:f.getD j false with
      | false=>rfl
      | true=>rw[(z7 O).2 (.inr h)] at z;cases z
     have m1:=m s
     have m2:=m r
     rw[qf2 O,V]
     simp only[Bool.not_true,Bool.not_false,Bool.false_eq_true,if_false,if_true]
     omega
    omega
  unfold wpOp
  rw[ho]
  simp only
  cases hg:o.guard with
  | none =>
   rw[hg] at H
   rw[if_pos (by unfold Region.wanted;rw[hg])]
   exact .inl (qim U H fun v w' h=>next v w' h.1 h.2.1 h.2.2)
  | some gb =>
   obtain⟨g,b⟩:=gb
   rw[hg] at H
   obtain⟨c0,t,b3⟩:=D.guard i o F g b hg
   have a9:=T g c0
   have b9:=I.at_ g t a9 b3
   obtain⟨p1,p2⟩:=H (I.phi g a9)
   have hy:Region.wanted o (yielded l.toArray a.tmps)=true↔ql g = .bool b:=by
    unfold Region.wanted yielded
    rw[hg]
    have e1:(l.toArray[g]?).bind (·.dst)=some t:=by simpa [qbh] using b3
    simp only[e1,Option.bind_some,b9]
    constructor
    ·intro h
     split at h
     ·rename_i b' a8
      simp only[Option.some.injEq] at a8
      simp at h
      rw[a8,h]
     ·simp at h
    ·intro h
     rw[h]
     simp
   by_cases hw:Region.wanted o (yielded l.toArray a.tmps)=true
   ·rw[if_pos hw]
    exact .inl (qim U (p1 (hy.1 hw)) fun v w' h=>next v w' h.1 h.2.1 h.2.2)
   ·rw[if_neg hw]
    exact next undef w (b7 i w) I.s (p2 fun h=>hw (hy.2 h))
theorem zck{id:Nat}{a:Act}{w:World}{Q:Exit→Act→World→Prop}(C:P.follows .mixedOrders=true)(L:List (List (Nat × Nat)))(n:Nat)(D:a.tmps.size=n)(y:q7c l (que l []) L n=true)(A:List (Nat × Nat))(x:qa3 l=A)
  (S:World→Prop) (R:Nat→World→World→Prop) (Φ:Nat→(Nat→Value)→World→Prop) (z:S w.drew) (o:∀i w,R i w w) (loc:∀i k ql v w,k≠i→(∀p∈L.getD i [],p.1≠k)→Φ i ql w→Φ i (upV ql k v) w) (f:∀i j ql w w',i≠j→S w→S w'→R j w w'→Φ i ql w→Φ i ql w')
  (m:qal P a S R Φ 0 l L) (q:∀ql w,S w→(∀i,i<l.length→Φ i ql w)→Q .normal (putL a ql A) w) :
  (Code.region id l.toArray true).wp P Q a w:=by
 subst x
 refine wp_region_any C ?_
 refine q7d (qzy y) D o loc f m q _ _ a _ (fun _=>undef) ⟨by simp,z,?_,?_,rfl,rfl,fun _ _=>rfl,?_⟩ ?_
 ·intro i g;rw[qbu] at g;cases g
 ·intro i g;rw[qbu] at g;cases g
 ·intro i t g;rw[qbu] at g;cases g
 ·refine Nat.le_trans List.countP_le_length ?_
  simp
end
def zdt(B:Nat)(w w':World):Prop:=Upd (fun k=>B≤k) w w'∧∀(g:Nat) (T:TypeId) (cs:Array Value),w.heap[g]? = some (.cells cs T (0,0))→∃f:Array Value,f.size=cs.size∧w'.heap[g]? = some (.cells f T (0,0))
def RN(B st j:Nat)(w w':World):Prop:=if j=st then zdt B w w' else qy w w'
theorem RN.refl(B st j:Nat)(w:World):RN B st j w w:=by
 unfold RN
 split
 ·exact⟨Upd.refl _ _,fun g T cs h=>⟨cs,rfl,h⟩⟩
 ·exact Upd.refl _ _
def isN(B al st n:Nat)(r:Array Value)(xs:List Value)(i:Nat)(ql:Nat→Value)(w:World):Prop :=
 if i=al then ∃(g:Nat) (T:TypeId) (cs:Array Value),ql al = .pointer (some ⟨g,0,none⟩)∧B≤g∧w.heap[g]? = some (.cells cs T (0,0))∧cs.size=n
 else if i=st then ∃(g:Nat) (T:TypeId),ql al = .pointer (some ⟨g,0,none⟩)∧B≤g∧w.heap[g]? = some (.cells r T (0,0))
 else ql i=xs.getD i undef
theorem zbo{B al st n:Nat}{r:Array Value}{xs:List Value}{i:Nat}{ql:Nat→Value}{w:World}(f:i≠al)(g:i≠st)(h:isN B al st n r xs i ql w):ql i=xs.getD i undef:=by
 unfold isN at h
 rwa [if_neg f,if_neg g] at h
theorem zea{B al st n:Nat}{r:Array Value}{xs:List Value}{i:Nat}{ql:Nat→Value}{v:Value}{w:World}(f:i≠al)(g:i≠st)(h:v=xs.getD i undef):isN B al st n r xs i (upV ql i v) w:=by
 unfold isN
 rw[if_neg f,if_neg g,qrr]
 exact h
def isX(xs:List Value)(i:Nat)(v:Value):Prop:=v=xs.getD i undef
section
variable {P:Program}{l:List Oper}{A:List (Nat × Nat)}{L:List (List (Nat × Nat))}{n:Nat}
theorem zcl{id:Nat}{a:Act}{w:World}{Q:Exit→Act→World→Prop}(hm:P.follows .mixedOrders=true)(L:List (List (Nat × Nat)))(n:Nat)(hn:a.tmps.size=n)(hL:q7c l (que l []) L n=true)(A:List (Nat × Nat))(Z:qa3 l=A)
  (al st m:Nat) (N:(al==st)=false) (a4:decide (al<l.length)=true) (V:decide (st<l.length)=true) (J:((L.getD st []).any fun p=>p.1==al)=true) (r:Array Value) (xs:List Value)
  (x:qal P a (fun w'=>qy w w') (RN w.heap.size st) (isN w.heap.size al st m r xs) 0 l L)
  (I:∀(ql:Nat→Value) (w':World) (g:Nat) (T:TypeId),qy w w'→ql al = .pointer (some ⟨g,0,none⟩)→w.heap.size≤g→w'.heap[g]? = some (.cells r T (0,0))→(∀i,i<l.length→i≠al→i≠st→ql i=xs.getD i undef)→Q .normal (putL a ql A) w') :
  (Code.region id l.toArray true).wp P Q a w:=by
 have E:al≠st:=by simpa using N
 refine zck hm L n hn hL A Z (fun w'=>qy w w') (RN w.heap.size st) (isN w.heap.size al st m r xs) (Upd.refl _ _).drew (fun i w=>RN.refl _ _ _ _) ?_ ?_ x ?_
 ·intro i k ql v w' D hp h
  unfold isN at h ⊢
  by_cases f:i=al
  ·rw[if_pos f] at h ⊢
   subst f
   rw[qix _ _ (fun e=>D e.symm)]
   exact h
  ·rw[if_neg f] at h ⊢
   by_cases q:i=st
   ·rw[if_pos q] at h ⊢
    subst q
    obtain⟨p,R,O⟩:=List.any_eq_true.1 J
    have:=hp p R
    have F:p.1=al:=by simpa using O
    rw[qix _ _ (fun e=>this (F.trans e))]
    exact h
   ·rw[if_neg q] at h ⊢
    rw[qix _ _ (fun e=>D e.symm)]
    exact h
 ·intro i j ql w1 w2 M _ _ t h
  unfold isN at h ⊢
  unfold RN at t
  by_cases f:i=al
  ·rw[if_pos f] at h ⊢
   obtain⟨g,T,cs,y,z,C,X⟩:=h
   by_cases W:j=st
   ·rw[if_pos W] at t
    obtain⟨H,U,K⟩:=t.2 g T cs C
    exact⟨g,T,H,y,z,K,U.trans X⟩
   ·rw[if_neg W] at t
    exact⟨g,T,cs,y,z,t.old C (fun h=>h),X⟩
  ·rw[if_neg f] at h ⊢
   by_cases q:i=st
   ·rw[if_pos q] at h ⊢
    obtain⟨g,T,y,z,C⟩:=h
    rw[if_neg (fun e=>M (q.trans e.symm))] at t
    exact⟨g,T,y,z,t.old C (fun h=>h)⟩
   ·rw[if_neg q] at h ⊢
    exact h
 ·intro ql w' hS Y
  have f:=Y st (by simpa using V)
  unfold isN at f
  rw[if_neg (fun e=>E e.symm),if_pos rfl] at f
  obtain⟨g,T,y,z,C⟩:=f
  exact I ql w' g T hS y z C fun i hi f q=>zbo f q (Y i hi)
variable {a0:Act}{wo:World}{al st m i:Nat}{r:Array Value}{xs:List Value}{o:Oper}{os:List Oper}{Li:List (Nat × Nat)}{L':List (List (Nat × Nat))}
theorem qal.nval(z:o.guard=none)(x:(i==al)=false)(y:(i==st)=false)
  (h:∀(ql:Nat→Value) (w:World),qy wo w→qsi (isN wo.heap.size al st m r xs) ql w Li→zk P o (putL a0 ql Li).eval w fun v w'=>qy w w'∧isX xs i v)
  (k:qal P a0 (fun w'=>qy wo w') (RN wo.heap.size st) (isN wo.heap.size al st m r xs) (i+1) os L'):qal P a0 (fun w'=>qy wo w') (RN wo.heap.size st) (isN wo.heap.size al st m r xs) i (o::os) (Li::L') :=
 qal.plain z (fun ql w t C=>qlz (h ql w t C) fun v w' q=>by
  have g:i≠al:=by simpa using x
  have f:i≠st:=by simpa using y
  refine⟨?_,t.trans q.1,zea g f q.2⟩
  unfold RN
  rw[if_neg f]
  exact q.1) k
theorem qal.nalloc(y:o.guard=none)(t:(i==al)=true)(v:(i==st)=false)(C:Array Value)(T:TypeId)(x:C.size=m)
  (h:∀(ql:Nat→Value) (w:World),(execOp (putL a0 ql Li).eval o).run P w = .ok (.value (.pointer (some ⟨w.heap.size,0,none⟩))) (w.alloc (.cells C T)))
  (k:qal P a0 (fun w'=>qy wo w') (RN wo.heap.size st) (isN wo.heap.size al st m r xs) (i+1) os L'):qal P a0 (fun w'=>qy wo w') (RN wo.heap.size st) (isN wo.heap.size al st m r xs) i (o::os) (Li::L') :=
 qal.plain y (fun ql w q z=>qx9 (h ql w) (by
  have f:i=al:=by simpa using t
  have g:i≠st:=by simpa using v
  refine⟨?_,Upd.alloc q _,?_⟩
  ·unfold RN
   rw[if_neg g]
   exact(Upd.refl _ _).alloc _
  ·unfold isN
   rw[if_pos f,←f,qrr]
   exact⟨_,T,C,rfl,q.size,qi _ _,x⟩)) k
theorem qal.nstore(R:o.guard=none)(M:(i==al)=false)(N:(i==st)=true)(D:(Li.any fun p=>p.1==al)=true)(hr:r.size=m)
  (h:∀(ql:Nat→Value) (w:World) (g:Nat) (T:TypeId) (cs:Array Value),ql al = .pointer (some ⟨g,0,none⟩)→w.heap[g]? = some (.cells cs T (0,0))→cs.size=m→qsi (isN wo.heap.size al st m r xs) ql w Li →
   zk P o (putL a0 ql Li).eval w fun _ w'=>w'=w.setCells g 0 r.toList)
  (k:qal P a0 (fun w'=>qy wo w') (RN wo.heap.size st) (isN wo.heap.size al st m r xs) (i+1) os L'):qal P a0 (fun w'=>qy wo w') (RN wo.heap.size st) (isN wo.heap.size al st m r xs) i (o::os) (Li::L') :=
 qal.plain R (fun ql w O z=>by
  have t:i≠al:=by simpa using M
  have x:i=st:=by simpa using N
  obtain⟨g,T,cs,H,I,E,F⟩:∃(g:Nat) (T:TypeId) (cs:Array Value),ql al = .pointer (some ⟨g,0,none⟩)∧wo.heap.size≤g∧w.heap[g]? = some (.cells cs T (0,0))∧cs.size=m:=by
   have key:∀Li:List (Nat × Nat),(Li.any fun p=>p.1==al)=true→qsi (isN wo.heap.size al st m r xs) ql w Li→isN wo.heap.size al st m r xs al ql w:=by
    intro Li
    induction Li with
    | nil=>intro h;simp at h
    | cons p Li V =>
     intro q z
     rw[List.any_cons,Bool.or_eq_true] at q
     rcases q with q | q
     ·have:p.1=al:=by simpa using q
      rw[←this]
      exact this▸z.1
     ·exact V q z.2
   have:=key Li D z
   unfold isN at this
   rwa [if_pos rfl] at this
  refine qlz (h ql w g T cs H E F z) fun v w' U=> ?_
  subst U
  have y:=qa9 E 0 r.toList
  have K:Upd (fun k=>wo.heap.size≤k) w (w.setCells g 0 r.toList):=((Upd.refl (· = g) w).setCells 0 r.toList).mono (fun k _ e=>by subst e;exact I)
  refine⟨?_,?_,?_⟩
  ·unfold RN
   rw[if_pos x]
   refine⟨K,fun g' Y C f=> ?_⟩
   by_cases J:g'=g
   ·subst J
    rw[E] at f
    cases f
    exact⟨_,qqu _ _ _,y⟩
   ·exact⟨C,rfl,((Upd.refl (· = g) w).setCells 0 r.toList).old f J⟩
  ·exact O.then K (fun k hk e=>by omega)
  ·unfold isN
   rw[if_neg t,if_pos x,qix _ _ (fun e=>t e.symm)]
   refine⟨g,T,H,I,?_⟩
   rw[y]
   congr 2
   refine Array.ext_getElem? fun j=> ?_
   rw[qif cs 0 r.toList j (by rw[Array.length_toList];omega)]
   by_cases Z:j<r.size
   ·rw[if_pos (by rw[Array.length_toList];omega)];simp
   ·have W:cs[j]? = none:=Array.getElem?_eq_none (by omega)
    have X:r[j]? = none:=Array.getElem?_eq_none (by omega)
    rw[if_neg (by rw[Array.length_toList];omega),W,X]) k
end
theorem qvy(s:ByteArray)(f:List Int):strOfNums (qdi s++f)=s++strOfNums f:=by
 unfold strOfNums qdi
 rw[List.map_append,List.map_map]
 have:(s.data.toList.map ((fun n:Int=>UInt8.ofNat n.toNat) ∘ fun c:UInt8=>(c.toNat:Int)))=s.data.toList:=by
  conv=>rhs;rw[←List.map_id s.data.toList]
  refine List.map_congr_left fun c _=> ?_
  simp
 rw[this]
 apply ByteArray.ext
 simp
theorem q9d(n k:Nat)(h:k<qdo n):(n+(k+1))%64≠56:=by unfold qdo at h;omega
theorem q9c(n:Nat):(n+(qdo n+1))%64=56:=by unfold qdo;omega
set_option maxRecDepth 100000 in
set_option maxHeartbeats 1000000 in
theorem q9b(s:ByteArray)(w:World)(hs:s.size≤1000000000) :
  Calls Tryz.prog 73 #[.string s] w (qa7 (.string (qin s)) w):=by
 have hz:=qmv s.size
 have a9:(s.size:Int)≤1000000000:=by omega
 have M:=qlr s
 have K:∀w:World,(convert 9 111 (.string s)).run Tryz.prog w = .ok (.slice (some ⟨w.heap.size,0,none⟩) s.size (grownCap w s.size 0 5)) (w.drew.alloc (.cells (bytesRow s (grownCap w s.size 0 5)) 5 ((bytesRow s (grownCap w s.size 0 5)).size,(bytesRow s (grownCap w s.size 0 5)).size+1))) :=
  fun w=>run_bytes_of_string w _ _ _ s Tryz.underlying9 Tryz.underlying111 Tryz.underlying5
 have hG:=qds.ofS w s (grownCap w s.size 0 5) w.heap.size (Nat.le_refl _) (grownCap_ge _ _ _ _)
 have X:Upd (fun k=>w.heap.size≤k) w (w.drew.alloc (.cells (bytesRow s (grownCap w s.size 0 5)) 5 ((bytesRow s (grownCap w s.size 0 5)).size,(bytesRow s (grownCap w s.size 0 5)).size+1))):=(Upd.refl _ _).drew.alloc _
 have T:=qb hG
 have i:=qb M
 clear hG M
 go_enter Tryz.func73,Tryz.ntmps73
 go_upto_region 2 with fail
 generalize L:grownCap w s.size 0 5=E at *
 have z:=K w
 rw[L] at z
 clear K L
 refine wp_region_lit ?_
 refine zc rfl (v:= .string s) (w':=w) (by kernel_rfl) ?_
 refine zc rfl (v:= .slice (some ⟨w.heap.size,0,none⟩) s.size E) (w':=w.drew.alloc (.cells (bytesRow s E) 5 ((bytesRow s E).size,(bytesRow s E).size+1))) (by simp only[execOp];go_simp) ?_
 generalize w.drew.alloc (.cells (bytesRow s E) 5 ((bytesRow s E).size,(bytesRow s E).size+1))=w1 at T X ⊢
 clear z
 refine zc rfl (v:= .slice (some ⟨w1.heap.size,0,none⟩) 1 1) (w':=w1.alloc (.cells #[.int .u8 128] 5)) (by kernel_rfl) ?_
 refine qi5 rfl (.tmp 11) (.tmp 12) rfl w.heap.size _ _ rfl 128 _ _ rfl (qa T) (by rw[qa i];omega) X.size ?_
 intro v2 w2 x u2
 have u3:=X.then u2 (fun q _ h=>((qa T).ge h).1)
 clear u2 T X
 have g:(qdi s++[128]).length=s.size+1:=by rw[List.length_append,qa i];rfl
 obtain⟨a2,c2,rfl⟩:=x.shape
 rw[g] at x ⊢
 have o:=qb x
 clear x g
 go_wp2_with fail
 go_loopw [4] (fun D wr=>∃(k:Nat) (a:Addr) (c:Nat),D = .slice (some a) (s.size+1+k) c∧k≤qdo s.size∧Hid (qds wr w.heap.size D (qdi s++(128::List.replicate k 0)))∧Upd (fun k=>w.heap.size≤k) w wr) (fun D _=>s.size+100-(match D with | .slice _ l _=>l | _=>0))
 case atStart=>exact⟨0,_,_,rfl,Nat.zero_le _,o,u3⟩
 case round =>
  obtain⟨k,a,c,rfl,hk,o,I⟩:=hrel
  by_cases O:k<qdo s.size
  ·have F:=q9d s.size k O
   have h1:((((s.size:Int)+1+(k:Int)))%64 != 56)=true:=by rw[bne_iff_ne];omega
   have a4:(k:Int)<64:=by omega
   have Z:=I.size
   have y:(qdi s++(128::List.replicate k (0:Int))).length≤1073741824:=by rw[List.length_append,qa i];simp;omega
   clear F
   go_wp2_with (at_builtin;refine qi5 rfl (.tmp 18) (.tmp 19) rfl w.heap.size _ _ rfl 0 _ _ rfl (qa o) y Z ?_)
   intro v' w5 f R
   have u6:=I.then R (fun q _ h=>((qa o).ge h).1)
   obtain⟨U,V,rfl⟩:=f.shape
   replace f:qds w5 w.heap.size (Value.slice (some U) (qdi s++(128::(List.replicate k (0:Int)++[0]))).length V) (qdi s++(128::(List.replicate k 0++[0]))):=f
   rw[←List.replicate_succ'] at f
   have g:(qdi s++(128::(List.replicate k (0:Int)++[0]))).length=s.size+1+(k+1):=by rw[List.length_append,qa i];simp;omega
   have N:(qdi s++(128::(List.replicate (k+1) (0:Int)))).length=s.size+1+(k+1):=by rw[List.length_append,qa i];simp;omega
   rw[N] at f
   rw[g]
   have C:=qb f
   clear f R o g N
   go_wp2
   go_roundw
   case rel=>exact⟨k+1,U,V,rfl,by omega,C,u6⟩
   case measure=>simp;omega
  ·obtain rfl:k=qdo s.size:=by omega
   have F:=q9c s.size
   have h1:((((s.size:Int)+1+(qdo s.size:Int)))%64 != 56)=false:=by rw[bne_eq_false_iff_eq];omega
   have a4:(qdo s.size:Int)<64:=by omega
   obtain⟨wo,rfl⟩:∃wo:World,wo=wr:=⟨_,rfl⟩
   clear F
   go_wp2_with fail
   go_loopw [4,5] (fun D iv wr=>∃(m:Nat) (a:Addr) (c:Nat),iv = .int .i64 (7-(m:Int))∧m≤8∧D = .slice (some a) (s.size+1+qdo s.size+m) c∧Hid (qds wr w.heap.size D (qdi s++(128::List.replicate (qdo s.size) 0)++(List.range m).map (qko s.size)))∧Upd (fun k=>w.heap.size≤k) w wr) (fun _ iv _=>(intOf iv+1).toNat)
   case atStart=>exact⟨0,_,_,rfl,by omega,rfl,by simpa using o,I⟩
   case round =>
    obtain⟨m,a,c,rfl,hm,rfl,o,I⟩:=hrel
    by_cases O:m<8
    ·have a8:(m:Int)<8:=by omega
     have Z:=I.size
     have y:(qdi s++(128::List.replicate (qdo s.size) (0:Int))++(List.range m).map (qko s.size)).length≤1073741824:=by rw[List.length_append,List.length_append,qa i];simp;omega
     have H:∀W,Calls Tryz.prog 75 #[.int .u64 ((s.size:Int)*8),.int .i64 (8*(7-(m:Int)))] W fun e w'=>e = .returned (.int .u64 ((s.size:Int)*8 / 2 ^ (8*(7-(m:Int))).toNat))∧W=w' :=
      fun W=>qle ((s.size:Int)*8) (8*(7-(m:Int))) W (by omega) (by omega) (by omega) (by omega)
     have hq:qko s.size m=((s.size:Int)*8 / 2 ^ (8*(7-(m:Int))).toNat)%256:=by
      unfold qko
      rw[show (8*(7-(m:Int))).toNat=56-8*m by omega,Int.mul_comm]
     have P:0≤(s.size:Int)*8 / 2 ^ (8*(7-(m:Int))).toNat∧(s.size:Int)*8 / 2 ^ (8*(7-(m:Int))).toNat≤8000000000:=by
      have hp:(1:Int)≤2 ^ (8*(7-(m:Int))).toNat:=Int.pow_pos (by decide)
      refine⟨Int.ediv_nonneg (by omega) (by omega),?_⟩
      refine Int.le_trans (Int.ediv_le_self _ (by omega)) (by omega)
     generalize (s.size:Int)*8 / 2 ^ (8*(7-(m:Int))).toNat=q at H hq P
     have Y:=qb H
     have HQ:=qb hq
     clear H hq
     obtain⟨q0,q1⟩:=P
     go_wp2_with fail
     refine(qa Y _).mono ?_
     rintro e w' ⟨rfl,rfl⟩
     go_wp2_with (at_builtin;refine qi5 rfl (.tmp 25) (.tmp 32) rfl w.heap.size _ _ rfl _ _ _ rfl (qa o) y Z ?_)
     intro v' w5 f R
     have u6:=I.then R (fun q _ h=>((qa o).ge h).1)
     obtain⟨U,V,rfl⟩:=f.shape
     have e1:qdi s++(128::List.replicate (qdo s.size) 0)++(List.range (m+1)).map (qko s.size)=qdi s++(128::(List.replicate (qdo s.size) 0++((List.range m).map (qko s.size)++[q%256]))):=by rw[List.range_succ,List.map_append,List.map_cons,List.map_nil,qa HQ];simp
     have g:(qdi s++(128::(List.replicate (qdo s.size) (0:Int)++((List.range m).map (qko s.size)++[q%256])))).length=s.size+1+qdo s.size+(m+1):=by rw[List.length_append,qa i];simp;omega
     rw[g] at f ⊢
     rw[←e1] at f
     have C:=qb f
     clear f R o e1 g y
     go_wp2
     go_roundw
     case rel=>exact⟨m+1,U,V,by congr 1;omega,by omega,rfl,C,u6⟩
     case measure=>simp[intOf];omega
    ·obtain rfl:m=8:=by omega
     rw[show (7:Int)-((8:Nat):Int) = -1 from rfl]
     have a6:=qvv (qa o)
     have t:strOfNums (qdi s++(128::List.replicate (qdo s.size) 0)++(List.range 8).map (qko s.size))=qin s:=by
      unfold qin qov
      rw[List.append_assoc,qvy]
     generalize strOfNums (qdi s++(128::List.replicate (qdo s.size) 0)++(List.range 8).map (qko s.size))=a7 at a6 t
     have J:=qb t
     clear t
     go_wp2
     go_ret
     exact⟨by rw[qa J];rfl,I.below' (Nat.le_refl _) (fun _ h=>h) |> fun h=>Upd.of_below h (Nat.le_refl _)⟩
theorem q5e(s:ByteArray):(qin s).size%64=0∧(qin s).size≤s.size+73:=by
 unfold qin
 rw[ByteArray.size_append,strOfNums_size,qnz]
 have:=qmv s.size
 have:=q24 s.size
 omega
theorem q4a(p:ByteArray)(i:Nat)(h:i+64≤p.size):(p.extract i p.size).extract 0 64=p.extract i (i+64):=by
 rw[ByteArray.extract_extract]
 congr 1
 omega
theorem q7h(p:ByteArray)(i:Nat)(h:i+64≤p.size):(p.extract i p.size).extract 64 (p.extract i p.size).size=p.extract (i+64) p.size:=by
 rw[ByteArray.extract_extract]
 congr 1
 rw[ByteArray.size_extract]
 omega
theorem q3k(p:ByteArray)(n:Nat)(h:List Int)(i:p.size%64=0)(f:64*n+64≤p.size) :
  qj4 ((p.size-64*n) / 64) h (p.extract (64*n) p.size)=qj4 ((p.size-64*(n+1)) / 64) (qmb h (p.extract (64*n) (64*n+64))) (p.extract (64*(n+1)) p.size):=by
 obtain⟨k,g⟩:∃k,(p.size-64*n) / 64=k+1:=⟨(p.size-64*n) / 64-1,by omega⟩
 rw[g,show (p.size-64*(n+1)) / 64=k by omega]
 show qj4 k (qmb h ((p.extract (64*n) p.size).extract 0 64)) ((p.extract (64*n) p.size).extract 64 (p.extract (64*n) p.size).size)=_
 rw[q4a p _ f,q7h p _ f,show 64*n+64=64*(n+1) by omega]
def z32:Array Value:=((List.replicate 32 (0:Int)).map (Value.int .u8)).toArray
def z8r:Array Value:=((List.replicate 8 (0:Int)).map (Value.int .u64)).toArray
def q0c:Array Value:=(qjf.map (Value.int .u64)).toArray
attribute [local go_sem ↓ high] qqw qro qkn qkz
attribute [local go_sem] zc7 zdm q0q q1v
set_option maxRecDepth 100000 in
set_option maxHeartbeats 2000000 in
theorem q93(s:ByteArray)(w:World)(hs:s.size≤1000000000) :
  Calls Tryz.prog 46 #[.string s] w fun e w'=>e = .returned (.agg ((qf7 s).map (Value.int .u8)).toArray)∧qy w w':=by
 obtain⟨b9,c2⟩:=q5e s
 have hp:=fun W=>q9b s W hs
 have J:qf7 s=qgv (qj4 ((qin s).size / 64) qjf (qin s)) 32:=rfl
 generalize qin s=p at b9 c2 hp J
 have HP:=qb hp
 have R:=qb J
 clear hp J
 go_enter Tryz.func46,Tryz.ntmps46
 go_upto_region 0 with fail
 refine wp_region_lit ?_
 refine zc rfl (v:= .pointer (some ⟨w.heap.size,0,none⟩)) (w':=w.alloc (.cells z32 28)) (by kernel_rfl) ?_
 have n0:qy w (w.alloc (.cells z32 28)):=(Upd.refl _ _).alloc _
 have M:(w.alloc (.cells z32 28)).heap[w.heap.size]? = some (.cells z32 28 (0,0)):=qi _ _
 generalize w.alloc (.cells z32 28)=w1 at n0 M ⊢
 go_upto_region 1 with fail
 refine wp_region_lit ?_
 refine zc rfl (v:= .agg q0c) (w':=w1) (by kernel_rfl) ?_
 refine zc rfl (v:= .pointer (some ⟨w1.heap.size,0,none⟩)) (w':=w1.alloc (.cells z8r 141)) (by kernel_rfl) ?_
 have n2:qy w1 (w1.alloc (.cells z8r 141)):=(Upd.refl _ _).alloc _
 have y:(w1.alloc (.cells z8r 141)).heap[w1.heap.size]? = some (.cells z8r 141 (0,0)):=qi _ _
 generalize w1.alloc (.cells z8r 141)=w2 at n2 y ⊢
 refine wpList_store_row rfl _ _ _ rfl w1.heap.size q0c rfl rfl 141 _ y (by kernel_rfl) (by kernel_rfl) (by kernel_rfl) ?_
 have E:(w2.setRow w1.heap.size q0c).heap[w1.heap.size]? = some (.cells q0c 141 (0,0)):=setRow_heap w2 w1.heap.size _ q0c 141 (0,0) y
 have K:qy w1 (w2.setRow w1.heap.size q0c):=n2.setRow (fun h=>by omega) _
 generalize w2.setRow w1.heap.size q0c=w3 at E K ⊢
 have d7:w.heap.size<w1.heap.size:=zw M
 have vR:=K.old M (fun h=>h)
 have nA:=n0.trans K
 have vH:qba .u64 w3 w1.heap.size qjf:=⟨_,E⟩
 have d9:=vH.lt
 generalize w1.heap.size=B at vH d7 d9 ⊢
 clear n0 M n2 y E K
 go_wp2_with fail
 refine(qa HP w3).mono ?_
 rintro e w4 ⟨rfl,n4⟩
 have f4:=n4.size
 replace vR:=n4.old vR (fun h=>h)
 replace vH:=vH.upd n4 (fun h=>h)
 replace nA:=nA.trans n4
 clear n4 HP
 go_wp2_with fail
 go_loopw [5,6,7] (fun iv _ _ wr=>∃(n:Nat) (f:List Int),iv = .int .i64 (64*(n:Int))∧64*n≤p.size∧f.length=8∧qfh f∧Hid (qj4 ((p.size-64*n) / 64) f (p.extract (64*n) p.size)=qj4 (p.size / 64) qjf p)∧qba .u64 wr B f∧Upd (fun k=>k=B) w4 wr) (fun iv _ _ _=>p.size-(intOf iv).toNat)
 case atStart=>exact⟨0,qjf,rfl,by omega,rfl,qmf,by rw[show 64*0=0 from rfl,Nat.sub_zero];exact qb (by simp),vH,Upd.refl _ _⟩
 case round =>
  clear vH
  obtain⟨n,f,rfl,hn,a4,a5,HE,hH,F⟩:=hrel
  by_cases f1:64*n<p.size
  ·have b4:64*n+64≤p.size:=by omega
   have I:(p.extract (64*n) (64*n+64)).size=64:=by rw[ByteArray.size_extract];omega
   have hC:=fun W=>qr0 f (p.extract (64*n) (64*n+64)) W a4 a5 I
   have a7:=quv f (p.extract (64*n) (64*n+64)) ⟨a4,a5⟩
   have D:=(q3k p n f b9 b4).symm.trans (qa HE)
   obtain⟨TH,hb⟩:=hH
   generalize Z:p.extract (64*n) (64*n+64)=bl at hC a7 D
   generalize qmb f bl=d at hC a7 D
   obtain⟨d8,du⟩:=a7
   have HC:=qb hC
   have c3:=qb Z
   have L:=qb D
   clear hC I D Z HE
   obtain⟨m,rfl⟩:∃m:World,m=wr:=⟨_,rfl⟩
   have e3:=F.size
   generalize a6:(f.map (Value.int .u64)).toArray=cv at hb HC
   have b3:cv.size=8:=by rw[←a6];simpa using a4
   have e5:=qb a6
   clear a6
   have b6:=qaq hb 8 b3
   have d0:64*(n:Int)<(p.size:Int):=by omega
   have f2:64*(n:Int)+64≤(p.size:Int):=by omega
   have f3:(p.size:Int)≤2000000000:=by omega
   have d1:(64*(n:Int)).toNat=64*n:=by omega
   have d3:IntKind.i64.wrap (64*(n:Int)+64)=64*(n:Int)+64:=IntWalk.i64_in _ (by omega)
   have d4:0≤64*(n:Int):=by omega
   have d5:0≤64*(n:Int)+64:=by omega
   have d6:64*(n:Int)≤64*(n:Int)+64:=by omega
   have d2:(64*(n:Int)+64).toNat=64*n+64:=by omega
   go_wp2_with fail
   refine zcl (by kernel_rfl) [[],[],[],[],[(3,23)],[(1,21),(2,22),(4,24)],[(0,20),(5,25)],[(6,26)],[(7,19)],[(7,19)],[],[(10,6),(8,27)],[(9,28)]] 49 rfl (by kernel_rfl) [(0,20),(1,21),(2,22),(3,23),(4,24),(5,25),(6,26),(7,19),(8,27),(9,28),(10,6),(12,7)] (by kernel_rfl) 10 11 8 rfl rfl rfl rfl ((d.map (Value.int .u64)).toArray)
    [.agg cv,.string p,.int .i64 (64*(n:Int)),.int .i64 (64*(n:Int)),.int .i64 (64*(n:Int)+64),.string bl,.tuple #[.agg (d.map (Value.int .u64)).toArray,.bool true],.tuple #[.agg (d.map (Value.int .u64)).toArray,.bool true],.agg (d.map (Value.int .u64)).toArray,.bool true,undef,undef,.bool true] ?_ ?_
   ·refine .nval rfl rfl rfl ?_ <| .nval rfl rfl rfl ?_ <| .nval rfl rfl rfl ?_ <| .nval rfl rfl rfl ?_ <| .nval rfl rfl rfl ?_ <| .nval rfl rfl rfl ?_ <| .nval rfl rfl rfl ?_ <| .nval rfl rfl rfl ?_ <| .nval rfl rfl rfl ?_ <| .nval rfl rfl rfl ?_ <| .nalloc rfl rfl rfl z8r 141 rfl ?_ <| .nstore rfl rfl rfl rfl (by simp[d8]) ?_ <| .nval rfl rfl rfl ?_ <| .nil
    ·intro ql t H _
     have hr:=qis b6 H (fun h=>h)
     unfold zk;simp only[putL];go_simp
     exact⟨Upd.refl _ _,rfl⟩
    ·intro ql t H _
     unfold zk;simp only[putL];go_simp
     exact⟨Upd.refl _ _,rfl⟩
    ·intro ql t H _
     unfold zk;simp only[putL];go_simp
     exact⟨Upd.refl _ _,rfl⟩
    ·intro ql t H _
     unfold zk;simp only[putL];go_simp
     exact⟨Upd.refl _ _,rfl⟩
    ·rintro ql t H ⟨l,-⟩
     replace l:ql 3 = .int .i64 (64*(n:Int)):=l
     unfold zk;simp only[putL];go_simp
     exact⟨Upd.refl _ _,rfl⟩
    ·rintro ql t H ⟨l,O,p2,-⟩
     replace l:ql 1 = .string p:=l
     replace O:ql 2 = .int .i64 (64*(n:Int)):=O
     replace p2:ql 4 = .int .i64 (64*(n:Int)+64):=p2
     have Z:=qa c3
     unfold zk;simp only[putL];go_simp
     exact⟨Upd.refl _ _,rfl⟩
    ·rintro ql t H ⟨l,O,-⟩
     replace l:ql 0 = .agg cv:=l
     replace O:ql 5 = .string bl:=O
     unfold zk;simp only[putL];go_simp
     refine(qa HC t).mono ?_
     rintro e w6 ⟨rfl,n6⟩
     exact⟨_,rfl,n6,rfl⟩
    ·rintro ql t H ⟨l,-⟩
     replace l:ql 6 = .tuple #[.agg (d.map (Value.int .u64)).toArray,.bool true]:=l
     generalize (d.map (Value.int .u64)).toArray=dv at l ⊢
     unfold zk;simp only[putL];go_simp
     exact⟨Upd.refl _ _,rfl⟩
    ·rintro ql t H ⟨l,-⟩
     replace l:ql 7 = .tuple #[.agg (d.map (Value.int .u64)).toArray,.bool true]:=l
     generalize (d.map (Value.int .u64)).toArray=dv at l ⊢
     unfold zk;simp only[putL];go_simp
     exact⟨Upd.refl _ _,rfl⟩
    ·rintro ql t H ⟨l,-⟩
     replace l:ql 7 = .tuple #[.agg (d.map (Value.int .u64)).toArray,.bool true]:=l
     generalize (d.map (Value.int .u64)).toArray=dv at l ⊢
     unfold zk;simp only[putL];go_simp
     exact⟨Upd.refl _ _,rfl⟩
    ·intro ql t
     rfl
    ·rintro ql t g T cs e1 hg e9 ⟨-,O,-⟩
     replace O:ql 8 = .agg (d.map (Value.int .u64)).toArray:=O
     have b7:=qff (o:=0) (n:=8) (A:=(d.map (Value.int .u64)).toArray) hg (by omega) (by simp[d8]) (by simp[Value.oneCell'])
     generalize (d.map (Value.int .u64)).toArray=dv at O b7 ⊢
     unfold zk;simp only[putL];go_simp
    ·rintro ql t H ⟨l,-⟩
     replace l:ql 9 = .bool true:=l
     unfold zk;simp only[putL];go_simp
     exact⟨Upd.refl _ _,rfl⟩
   ·intro ql t g T n5 c7 f0 hg hv
    have b8:ql 12 = .bool true:=hv 12 (by decide) (by decide) (by decide)
    clear hv
    simp only[putL,c7,b8]
    clear d3 d4 d5 d6 d1 d2
    go_simp
    have Y:=n5.old hb (fun h=>h)
    have u5:=F.then n5 (fun _ _ h=>h.elim)
    clear b6 hb HC n5 F
    go_upto_region 7 with fail
    refine wp_region_lit ?_
    refine wpList_load_row rfl _ _ rfl g rfl T _ _ _ hg Tryz.underlying141 rfl (by rw[List.size_toArray,List.length_map,d8];exact Tryz.infoR8) ?_
    refine wpList_store_row rfl _ _ _ rfl B (d.map (Value.int .u64)).toArray rfl rfl TH _ Y (by rw[List.size_toArray,List.length_map,d8];exact Tryz.infoR8) (by simp[d8,b3]) (by simp[Value.oneCell']) ?_
    have hF:=setRow_heap t B _ (d.map (Value.int .u64)).toArray TH (0,0) Y
    have u6:=u5.setRow (g:=B) (fun _=>rfl) (d.map (Value.int .u64)).toArray
    generalize t.setRow B (d.map (Value.int .u64)).toArray=w6 at hF u6 ⊢
    clear hg Y u5
    go_wp2
    go_roundw
    case rel=>exact⟨n+1,d,by congr 1,by omega,d8,du,L,⟨TH,hF⟩,u6⟩
    case measure=>simp[intOf];omega
  ·have he:64*n=p.size:=by omega
   have X:=qa HE
   rw[show (p.size-64*n) / 64=0 by omega] at X
   have V:qf7 s=qgv f 32:=by rw[qa R,←X];rfl
   have a9:=qb V
   clear V X HE R
   have d0:¬64*(n:Int)<(p.size:Int):=by omega
   have e3:=F.size
   have P:=F.old vR (by omega)
   have nB:=nA.then F (fun q hq e=>by omega)
   clear vR nA F
   obtain⟨m,rfl⟩:∃m:World,m=wr:=⟨_,rfl⟩
   go_upto_region 8 with fail
   refine wp_region_lit ?_
   refine zc rfl (v:= .agg z32) (w':=m) (by kernel_rfl) ?_
   refine zc rfl (v:= .pointer (some ⟨m.heap.size,0,none⟩)) (w':=m.alloc (.cells z32 28)) (by kernel_rfl) ?_
   have n2:qy m (m.alloc (.cells z32 28)):=(Upd.refl _ _).alloc _
   have y:(m.alloc (.cells z32 28)).heap[m.heap.size]? = some (.cells z32 28 (0,0)):=qi _ _
   generalize m.alloc (.cells z32 28)=t at n2 y ⊢
   refine wpList_store_row rfl _ _ _ rfl m.heap.size z32 rfl rfl 28 _ y (by kernel_rfl) (by kernel_rfl) (by kernel_rfl) ?_
   have E:(t.setRow m.heap.size z32).heap[m.heap.size]? = some (.cells z32 28 (0,0)):=setRow_heap t m.heap.size _ z32 28 (0,0) y
   have K:qy m (t.setRow m.heap.size z32):=n2.setRow (fun h=>by omega) _
   generalize t.setRow m.heap.size z32=w6 at E K ⊢
   have vO:qba .u8 w6 m.heap.size (List.replicate 32 0):=⟨_,E⟩
   have e2:=vO.lt
   have e0:B<m.heap.size:=hH.lt
   replace hH:=hH.upd K (fun h=>h)
   replace P:=K.old P (fun h=>h)
   replace nB:=nB.trans K
   generalize m.heap.size=C at vO e0 e2 ⊢
   clear n2 y E K
   go_wp2_with fail
   go_loopw [9] (fun iv wr=>∃i:Nat,iv = .int .i64 (i:Int)∧i≤32∧qba .u8 wr C (qgv f i)∧Upd (fun k=>k=C) w6 wr) (fun iv _=>32-(intOf iv).toNat)
   case atStart=>exact⟨0,rfl,by omega,by rw[qi8];exact vO,Upd.refl _ _⟩
   case round =>
    obtain⟨i,rfl,hi,U,F⟩:=hrel
    by_cases e4:i<32
    ·have c0:wr.cell? ⟨B,i / 4,none⟩=some (.int .u64 (wd f (i / 4))):=(hH.upd F (by omega)).cell (by omega)
     obtain⟨a0,c6⟩:=a5.at (i / 4)
     obtain⟨v1,c1⟩:∃v,wr.cell? ⟨C,i,none⟩=some v:=⟨_,U.cell (by rw[qh7];omega)⟩
     have z1:=U.free i
     have e6:(i:Int)<32:=by omega
     have c8:IntKind.i64.wrap ((i:Int) / 4)=(i:Int) / 4:=IntWalk.i64_in _ (by omega)
     have c9:((i:Int) / 4).toNat=i / 4:=by omega
     have e7:(0:Int)≤(i:Int) / 4:=by omega
     have e8:(i:Int) / 4<8:=by omega
     have D:=U.set i (byI f i)
     rw[←qi7] at D
     have L:=qb D
     clear D
     have hq:byI f i=wd f (i / 4) / 2 ^ (24-8*((i:Int)%4)).toNat%256:=by
      unfold byI
      rw[show (24-8*((i:Int)%4)).toNat=24-8*(i%4) by omega]
     have N:∀W,Calls Tryz.prog 75 #[.int .u64 (wd f (i / 4)),.int .i64 (24-8*((i:Int)%4))] W fun e w'=>e = .returned (.int .u64 (wd f (i / 4) / 2 ^ (24-8*((i:Int)%4)).toNat))∧W=w' :=
      fun W=>qle (wd f (i / 4)) (24-8*((i:Int)%4)) W a0 (by omega) (by omega) (by omega)
     have b5:0≤wd f (i / 4) / 2 ^ (24-8*((i:Int)%4)).toNat∧wd f (i / 4) / 2 ^ (24-8*((i:Int)%4)).toNat<4294967296:=by
      have hp:(1:Int)≤2 ^ (24-8*((i:Int)%4)).toNat:=Int.pow_pos (by decide)
      refine⟨Int.ediv_nonneg a0 (by omega),?_⟩
      exact Int.lt_of_le_of_lt (Int.ediv_le_self _ a0) c6
     generalize wd f (i / 4) / 2 ^ (24-8*((i:Int)%4)).toNat=q at N hq b5
     generalize wd f (i / 4)=x at c0 N
     have c5:=qb N
     rw[hq] at L
     have us:=qb (F.set1 i (.int .u8 (q%256)))
     clear N hq
     obtain⟨q0,q1⟩:=b5
     go_wp2_with fail
     refine(qa c5 _).mono ?_
     rintro e w' ⟨rfl,rfl⟩
     go_wp2
     clear c8 c9
     go_roundw
     case rel=>exact⟨i+1,by go_num,by omega,qa L,qa us⟩
     case measure=>simp[intOf];omega
    ·obtain rfl:i=32:=by omega
     rw[show ((32:Nat):Int)=32 from rfl]
     have a8:=F.old P (by omega)
     have nn:=nB.then F (by intro q hq h;omega)
     have z:=qh7 f 32
     generalize I:qgv f 32=bs at U z
     have c4:=qb I
     clear I P nB F vO
     obtain⟨TO,U⟩:=U
     go_upto_region 13 with fail
     refine wp_region_lit ?_
     refine wpList_load_row rfl _ _ rfl C rfl TO _ _ _ U Tryz.underlying28 rfl (by rw[List.size_toArray,List.length_map,z];exact Tryz.infoHash) ?_
     refine wpList_store_row rfl _ _ _ rfl w.heap.size (bs.map (Value.int .u8)).toArray rfl rfl 28 _ a8 (by rw[List.size_toArray,List.length_map,z];exact Tryz.infoHash) (by have h9:z32.size=32:=rfl;rw[h9];simp[z]) (by simp[Value.oneCell']) ?_
     have hF:=setRow_heap wr w.heap.size _ (bs.map (Value.int .u8)).toArray 28 (0,0) a8
     have nF:=nn.setRow (g:=w.heap.size) (fun h=>by omega) (bs.map (Value.int .u8)).toArray
     generalize wr.setRow w.heap.size (bs.map (Value.int .u8)).toArray=wF at hF nF ⊢
     clear nn U a8
     go_wp2_with fail
     refine bodyPost_ret (results_cell_row rfl _ _ w.heap.size 28 _ _ _ rfl hF Tryz.underlying28 rfl (by rw[List.size_toArray,List.length_map,z];exact Tryz.infoHash)) rfl ?_
     exact⟨by rw[qa a9,qa c4],nF⟩
end Go.Proofs.YtjpmomdechibmaaGreatDoor
