/-
  XDag's law, wider: what is known of an operation may name the values of those that it looks at; and each operation has its own relation between worlds (a store into a block that the region made).
-/
import Derived.Test.YtjpmomdechibmaaGreatDoorDag
import Derived.Test.YtjpmomdechibmaaGreatDoorMbf
import Derived.Test.YtjpmomdechibmaaGreatDoorMaa
set_option linter.unusedVariables false
set_option linter.unusedSimpArgs false
namespace Go.Proofs.YtjpmomdechibmaaGreatDoor
open Go.RowKit
section
variable {P:Program}{l:List Oper}{A:List (List Nat)}{L:List (List (Nat × Nat))}{n:Nat}
def upV(qk:Nat→Value)(k:Nat)(v:Value):Nat→Value:=fun j=>if j=k then v else qk j
theorem qqn(qk:Nat→Value)(k:Nat)(v:Value):upV qk k v k=v:=by simp[upV]
theorem qii(qk:Nat→Value){k j:Nat}(v:Value)(h:j≠k):upV qk k v j=qk j:=by simp[upV,h]
def qot(P:Program)(a0:Act)(S:World→Prop)(R:Nat→World→World→Prop)(Φ:Nat→(Nat→Value)→World→Prop)(i:Nat)(o:Oper)(Li:List (Nat × Nat)):Prop :=
 ∀(qk:Nat→Value) (w:World),S w→(∀p∈Li,Φ p.1 qk w) →
  match o.guard with
  | none=>zg P o (putL a0 qk Li).eval w fun v w'=>R i w w'∧S w'∧Φ i (upV qk i v) w'
  | some (g,b)=>Φ g qk w→(qk g = .bool b→zg P o (putL a0 qk Li).eval w fun v w'=>R i w w'∧S w'∧Φ i (upV qk i v) w')∧(qk g ≠ .bool b→Φ i (upV qk i undef) w)
def qae(P:Program)(a0:Act)(S:World→Prop)(R:Nat→World→World→Prop)(Φ:Nat→(Nat→Value)→World→Prop):Nat→List Oper→List (List (Nat × Nat))→Prop
 | _,[],_=>True
 | i,o::os,L=>qot P a0 S R Φ i o (L.headD [])∧qae P a0 S R Φ (i+1) os L.tail
theorem qae.nil{a0:Act}{S:World→Prop}{R:Nat→World→World→Prop}{Φ:Nat→(Nat→Value)→World→Prop}{i:Nat}{L:List (List (Nat × Nat))} : qae P a0 S R Φ i [] L:=trivial
theorem qae.cons{a0:Act}{S:World→Prop}{R:Nat→World→World→Prop}{Φ:Nat→(Nat→Value)→World→Prop}{i:Nat}{o:Oper}{os:List Oper}{Li:List (Nat × Nat)}{L:List (List (Nat × Nat))}(h:qot P a0 S R Φ i o Li)
  (k:qae P a0 S R Φ (i+1) os L):qae P a0 S R Φ i (o::os) (Li::L):=⟨h,k⟩
def qrg(Φ:Nat→(Nat→Value)→World→Prop)(qk:Nat→Value)(w:World):List (Nat × Nat)→Prop
 | []=>True
 | p::r=>Φ p.1 qk w∧qrg Φ qk w r
theorem qw6{Φ:Nat→(Nat→Value)→World→Prop}{qk:Nat→Value}{w:World} : ∀ {L:List (Nat × Nat)},(∀p∈L,Φ p.1 qk w)→qrg Φ qk w L
 | [],_=>trivial
 | p::r,h=>⟨h p (List.mem_cons_self ..),qw6 fun q f=>h q (List.mem_cons_of_mem _ f)⟩
theorem qae.plain{a0:Act}{S:World→Prop}{R:Nat→World→World→Prop}{Φ:Nat→(Nat→Value)→World→Prop}{i:Nat}{o:Oper}{os:List Oper}{Li:List (Nat × Nat)}{L:List (List (Nat × Nat))}(g:o.guard=none)
  (h:∀(qk:Nat→Value) (w:World),S w→qrg Φ qk w Li→zg P o (putL a0 qk Li).eval w fun v w'=>R i w w'∧S w'∧Φ i (upV qk i v) w')
  (k:qae P a0 S R Φ (i+1) os L):qae P a0 S R Φ i (o::os) (Li::L) :=
 ⟨fun qk w f j=>by rw[g];exact h qk w f (qw6 j),k⟩
theorem qae.at{a0:Act}{S:World→Prop}{R:Nat→World→World→Prop}{Φ:Nat→(Nat→Value)→World→Prop} : ∀ {os:List Oper} {L:List (List (Nat × Nat))} {k:Nat},qae P a0 S R Φ k os L→∀(i:Nat) o,os[i]? = some o→qot P a0 S R Φ (k+i) o (L.getD i [])
 | [],_,_,_,_,_,h=>by simp at h
 | o::os,L,k,h,0,g,f=>by
  simp only[List.getElem?_cons_zero,Option.some.injEq] at f
  subst f
  have:=h.1
  cases L<;>exact this
 | o::os,L,k,h,i+1,g,f=>by
  have:=qae.at h.2 i g (by simpa using f)
  rw[show k+(i+1)=k+1+i by omega]
  cases L<;>exact this
structure DagInvG(l:List Oper)(A:List (List Nat))(a0:Act)(S:World→Prop)(Φ:Nat→(Nat→Value)→World→Prop)(listed:Array Bool)(a:Act)(w:World)(qk:Nat→Value):Prop where
 size:listed.size=l.length
 s:S w
 phi:∀i,listed.getD i false=true→Φ i qk w
 shut:∀i,listed.getD i false=true→∀k∈A.getD i [],listed.getD k false=true
 defers:a.defers=a0.defers
 tmps:a.tmps.size=a0.tmps.size
 other:∀t,(∀i,listed.getD i false=true→qa8 l i≠some t)→a.tmps[t]? = a0.tmps[t]?
 at_:∀i t,listed.getD i false=true→qa8 l i=some t→a.tmps[t]? = some (qk i)
theorem q5n(D:Dag l A L n){a0:Act}(hn:a0.tmps.size=n){S:World→Prop}{R:Nat→World→World→Prop}{Φ:Nat→(Nat→Value)→World→Prop}{Q:Exit→Act→World→Prop}
  (b8:∀i w,R i w w) (loc:∀i k qk v w,k≠i→(∀p∈L.getD i [],p.1≠k)→Φ i qk w→Φ i (upV qk k v) w) (Z:∀i j qk w w',i≠j→S w→S w'→R j w w'→Φ i qk w→Φ i qk w') (a6:qae P a0 S R Φ 0 l L)
  (b9:∀qk w,S w→(∀i,i<l.length→Φ i qk w)→Q .normal (putL a0 qk (qav l)) w) :
  ∀(E:Nat) (f:Array Bool) (a:Act) (w:World) (qk:Nat→Value),DagInvG l A a0 S Φ f a w qk→(List.range l.length).countP (fun i=> !f.getD i false)≤E→wpAny P .any l.toArray Q E f a w:=by
 have W:∀(f:Array Bool) (a:Act) (w:World) (qk:Nat→Value),DagInvG l A a0 S Φ f a w qk→Region.ready .any l.toArray f=[]→Q .normal a w:=by
  intro f a w qk I hr
  have a7:∀(i:Nat),i<l.length→f.getD i false=true:=by
   intro i
   induction i using Nat.strongRecOn with
   | _ i ih =>
    intro M
    cases hl:f.getD i false with
    | true=>rfl
    | false =>
     exfalso
     have:i∈Region.ready .any l.toArray f:=by
      rw[mem_ready]
      have ho:l[i]? = some l[i]:=List.getElem?_eq_getElem M
      refine⟨?_,l[i],by simp[M],fun e he hb=> ?_⟩
      ·rw[Array.getD_eq_getD_getElem?] at hl ⊢
       have:i<f.size:=by rw[I.size];exact M
       rw[Array.getElem?_eq_getElem this] at hl ⊢
       simpa using hl
      ·have K:=(D.edge i _ ho e he hb).1
       have h2:=(D.anc i _ ho _ K).1
       exact ih _ h2 (by omega)
     rw[hr] at this
     cases this
  have ha:a=putL a0 qk (qav l):=by
   refine qya (by rw[qg7];exact I.defers) fun t=> ?_
   by_cases h:∃i,qa8 l i=some t
   ·obtain⟨i,M⟩:=h
    have J:=(qkw M).1
    rw[I.at_ i t (a7 i J) M]
    have hm:(i,t)∈qav l:=by
     unfold qav
     rw[List.mem_filterMap]
     exact⟨i,List.mem_range.2 J,by rw[M];rfl⟩
    refine(qi7 qk (qav l) a0 (i,t) hm (fun q hq e=> ?_) (by rw[hn];exact(D.slot i t M).1)).symm
    unfold qav at hq
    rw[List.mem_filterMap] at hq
    obtain⟨j,_,z⟩:=hq
    rw[Option.map_eq_some_iff] at z
    obtain⟨t',a5,rfl⟩:=z
    simp only at e
    subst e
    exact(D.slot i _ M).2 j a5
   ·rw[I.other t fun i _ O=>h ⟨i,O⟩,qd2]
    intro p X e
    unfold qav at X
    rw[List.mem_filterMap] at X
    obtain⟨j,_,z⟩:=X
    rw[Option.map_eq_some_iff] at z
    obtain⟨t',a5,rfl⟩:=z
    exact h ⟨j,by rw[a5,←e]⟩
  rw[ha]
  exact b9 qk w I.s fun i M=>I.phi i (a7 i M)
 intro E
 induction E with
 | zero =>
  intro f a w qk I hc
  have hr:Region.ready .any l.toArray f=[]:=by
   rw[List.eq_nil_iff_forall_not_mem]
   intro i M
   obtain⟨h0,o,ho,_⟩:=mem_ready.1 M
   have J:i<l.length:=by simpa using (Array.getElem?_eq_some_iff.1 ho).1
   have:(List.range l.length).countP (fun i=> !f.getD i false)=0:=by omega
   rw[List.countP_eq_zero] at this
   have:=this i (List.mem_range.2 J)
   rw[Array.getD_eq_getD_getElem?] at h0 this
   have O:i<f.size:=by rw[I.size];exact J
   rw[Array.getElem?_eq_getElem O] at h0 this
   simp at h0 this
   rw[h0] at this
   cases this
  exact⟨hr,W f a w qk I hr⟩
 | succ E ih =>
  intro f a w qk I hc
  refine⟨fun hr=>W f a w qk I hr,fun i M=> ?_⟩
  obtain⟨h0,o,ho,a8⟩:=mem_ready.1 M
  have J:i<l.length:=by simpa using (Array.getElem?_eq_some_iff.1 ho).1
  have O:i<f.size:=by rw[I.size];exact J
  have F:l[i]? = some o:=by simpa using ho
  have V:f.getD i false=false:=by
   rw[Array.getD_eq_getD_getElem?] at h0 ⊢
   rw[Array.getElem?_eq_getElem O] at h0 ⊢
   simpa using h0
  have T:∀k∈A.getD i [],f.getD k false=true:=by
   intro k hk
   obtain⟨_,e,he,hb,h⟩:=D.anc i o F k hk
   have K:=a8 e he hb
   rcases h with rfl | h
   ·exact K
   ·exact I.shut _ K k h
  have a4:∀t∈o.looksAt l.toArray,a.tmps[t]? = (putL a0 qk (L.getD i [])).tmps[t]? := by
   intro t ht
   by_cases h:∃j,f.getD j false=true∧qa8 l j=some t
   ·obtain⟨j,z,C⟩:=h
    rcases D.look i o F t ht j C with K | ⟨K,h2⟩
    ·have:=I.shut j z i K
     rw[V] at this
     cases this
    ·rw[I.at_ j t z C]
     refine(qi7 qk _ a0 (j,t) h2 (fun q hq e=> ?_) (by rw[hn];exact(D.slot j t C).1)).symm
     have:=(D.lis i o F q hq).2
     rw[e] at this
     exact(D.slot j t C).2 _ this
   ·rw[I.other t fun j z O=>h ⟨j,z,O⟩,qd2]
    intro p X e
    obtain⟨K,h2⟩:=D.lis i o F p X
    exact h ⟨p.1,T _ K,by rw[h2,e]⟩
  have U:execOp a.eval o=execOp (putL a0 qk (L.getD i [])).eval o:=by
   refine execOp_congr o (D.sel i o F) fun x hx=> ?_
   cases x with
   | tmp t =>
    have:=a4 t (List.mem_append_left _ (List.mem_filterMap.2 ⟨.tmp t,by simpa using hx,rfl⟩))
    simp only[Act.eval,Array.getD_eq_getD_getElem?,this]
   | _=>rfl
  have b7:=a6.at i o F
  rw[Nat.zero_add] at b7
  have H:=b7 qk w I.s fun p X=>I.phi _ (T _ (D.lis i o F p X).1)
  have next:∀v w',R i w w'→S w'→Φ i (upV qk i v) w'→wpAny P .any l.toArray Q E (f.setIfInBounds i true) (a.put o.dst v) w':=by
   intro v w' hR hS hΦ
   have Y:qa8 l i=o.dst:=by unfold qa8;rw[F];rfl
   refine ih (f.setIfInBounds i true) (a.put o.dst v) w' (upV qk i v) ⟨?_,hS,?_,?_,?_,?_,?_,?_⟩ ?_
   ·rw[Array.size_setIfInBounds];exact I.size
   ·intro j z
    rcases (zw O).1 z with rfl | y
    ·exact hΦ
    ·have N:j≠i:=by rintro rfl;rw[V] at y;cases y
     have c2:j<l.length:=by
      rcases Nat.lt_or_ge j l.length with h | h
      ·exact h
      ·rw[Array.getD_eq_getD_getElem?,Array.getElem?_eq_none (by rw[I.size];exact h)] at y
       cases y
     refine Z j i _ w w' N I.s hS hR (loc j i qk v w (Ne.symm N) (fun p X e=> ?_) (I.phi j y))
     have hA:=(D.lis j _ (List.getElem?_eq_getElem c2) p X).1
     have:=I.shut j y _ hA
     rw[e,V] at this
     cases this
   ·intro j z k hk
    refine(zw O).2 ?_
    rcases (zw O).1 z with rfl | y
    ·exact .inr (T k hk)
    ·exact .inr (I.shut j y k hk)
   ·cases o.dst<;>exact I.defers
   ·cases hd:o.dst with
    | none=>exact I.tmps
    | some d=>simpa [Act.put] using I.tmps
   ·intro t ht
    have K:=I.other t fun j z=>ht j ((zw O).2 (.inr z))
    have h2:=ht i ((zw O).2 (.inl rfl))
    rw[Y] at h2
    cases hd:o.dst with
    | none=>exact K
    | some d =>
     have N:d≠t:=by rintro rfl;exact h2 hd
     simpa [Act.put,Array.getElem?_setIfInBounds_ne N] using K
   ·intro j t z C
    rcases (zw O).1 z with rfl | y
    ·rw[Y] at C
     rw[C,qqn]
     have:t<a.tmps.size:=by rw[I.tmps,hn];exact(D.slot j t (by rw[Y,C])).1
     simp[Act.put,this]
    ·have N:j≠i:=by rintro rfl;rw[V] at y;cases y
     rw[qii _ _ N]
     have K:=I.at_ j t y C
     cases hd:o.dst with
     | none=>exact K
     | some d =>
      have b6:d≠t:=by
       rintro rfl
       exact N ((D.slot i d (by rw[Y,hd])).2 j C)
      simpa [Act.put,Array.getElem?_setIfInBounds_ne b6] using K
   ·have K:(List.range l.length).countP (fun j=> !(f.setIfInBounds i true).getD j false)<(List.range l.length).countP (fun j=> !f.getD j false):=by
     have b5:i∈List.range l.length:=List.mem_range.2 J
     obtain⟨s,r,c3⟩:=List.append_of_mem b5
     rw[c3,List.countP_append,List.countP_append,List.countP_cons,List.countP_cons]
     have m:∀xs:List Nat,xs.countP (fun j=> !(f.setIfInBounds i true).getD j false)≤xs.countP (fun j=> !f.getD j false):=by
      intro xs
      refine List.countP_mono_left fun j _ z=> ?_
      cases h:f.getD j false with
      | false=>rfl
      | true=>rw[(zw O).2 (.inr h)] at z;cases z
     have m1:=m s
     have m2:=m r
     rw[qfj O,V]
     simp only[Bool.not_true,Bool.not_false,Bool.false_eq_true,if_false,if_true]
     omega
    omega
  unfold wpOp
  rw[ho]
  simp only
  cases hg:o.guard with
  | none =>
   rw[hg] at H
   rw[if_pos (by unfold Region.wanted;rw[hg])]
   exact .inl (qh8 U H fun v w' h=>next v w' h.1 h.2.1 h.2.2)
  | some gb =>
   obtain⟨g,b⟩:=gb
   rw[hg] at H
   obtain⟨c1,t,b4⟩:=D.guard i o F g b hg
   have b3:=T g c1
   have c0:=I.at_ g t b3 b4
   obtain⟨p1,p2⟩:=H (I.phi g b3)
   have hy:Region.wanted o (yielded l.toArray a.tmps)=true↔qk g = .bool b:=by
    unfold Region.wanted yielded
    rw[hg]
    have e1:(l.toArray[g]?).bind (·.dst)=some t:=by simpa [qa8] using b4
    simp only[e1,Option.bind_some,c0]
    constructor
    ·intro h
     split at h
     ·rename_i b' a9
      simp only[Option.some.injEq] at a9
      simp at h
      rw[a9,h]
     ·simp at h
    ·intro h
     rw[h]
     simp
   by_cases hw:Region.wanted o (yielded l.toArray a.tmps)=true
   ·rw[if_pos hw]
    exact .inl (qh8 U (p1 (hy.1 hw)) fun v w' h=>next v w' h.1 h.2.1 h.2.2)
   ·rw[if_neg hw]
    exact next undef w (b8 i w) I.s (p2 fun h=>hw (hy.2 h))
theorem zau{id:Nat}{a:Act}{w:World}{Q:Exit→Act→World→Prop}(C:P.follows .mixedOrders=true)(L:List (List (Nat × Nat)))(n:Nat)(D:a.tmps.size=n)(y:q5m l (qs6 l []) L n=true)(A:List (Nat × Nat))(x:qav l=A)
  (S:World→Prop) (R:Nat→World→World→Prop) (Φ:Nat→(Nat→Value)→World→Prop) (z:S w.drew) (o:∀i w,R i w w) (loc:∀i k qk v w,k≠i→(∀p∈L.getD i [],p.1≠k)→Φ i qk w→Φ i (upV qk k v) w) (f:∀i j qk w w',i≠j→S w→S w'→R j w w'→Φ i qk w→Φ i qk w')
  (m:qae P a S R Φ 0 l L) (q:∀qk w,S w→(∀i,i<l.length→Φ i qk w)→Q .normal (putL a qk A) w) :
  (Code.region id l.toArray true).wp P Q a w:=by
 subst x
 refine wp_region_any C ?_
 refine q5n (qyp y) D o loc f m q _ _ a _ (fun _=>undef) ⟨by simp,z,?_,?_,rfl,rfl,fun _ _=>rfl,?_⟩ ?_
 ·intro i g;rw[qbn] at g;cases g
 ·intro i g;rw[qbn] at g;cases g
 ·intro i t g;rw[qbn] at g;cases g
 ·refine Nat.le_trans List.countP_le_length ?_
  simp
end
def zby(B:Nat)(w w':World):Prop:=Upd (fun k=>B≤k) w w'∧∀(g:Nat) (T:TypeId) (cs:Array Value),w.heap[g]? = some (.cells cs T (0,0))→∃f:Array Value,f.size=cs.size∧w'.heap[g]? = some (.cells f T (0,0))
def RN(B st j:Nat)(w w':World):Prop:=if j=st then zby B w w' else qx w w'
theorem RN.refl(B st j:Nat)(w:World):RN B st j w w:=by
 unfold RN
 split
 ·exact⟨Upd.refl _ _,fun g T cs h=>⟨cs,rfl,h⟩⟩
 ·exact Upd.refl _ _
def isN(B al st n:Nat)(r:Array Value)(xs:List Value)(i:Nat)(qk:Nat→Value)(w:World):Prop :=
 if i=al then ∃(g:Nat) (T:TypeId) (cs:Array Value),qk al = .pointer (some ⟨g,0,none⟩)∧B≤g∧w.heap[g]? = some (.cells cs T (0,0))∧cs.size=n
 else if i=st then ∃(g:Nat) (T:TypeId),qk al = .pointer (some ⟨g,0,none⟩)∧B≤g∧w.heap[g]? = some (.cells r T (0,0))
 else qk i=xs.getD i undef
theorem q9x{B al st n:Nat}{r:Array Value}{xs:List Value}{i:Nat}{qk:Nat→Value}{w:World}(f:i≠al)(g:i≠st)(h:isN B al st n r xs i qk w):qk i=xs.getD i undef:=by
 unfold isN at h
 rwa [if_neg f,if_neg g] at h
theorem zcd{B al st n:Nat}{r:Array Value}{xs:List Value}{i:Nat}{qk:Nat→Value}{v:Value}{w:World}(f:i≠al)(g:i≠st)(h:v=xs.getD i undef):isN B al st n r xs i (upV qk i v) w:=by
 unfold isN
 rw[if_neg f,if_neg g,qqn]
 exact h
def isX(xs:List Value)(i:Nat)(v:Value):Prop:=v=xs.getD i undef
section
variable {P:Program}{l:List Oper}{A:List (Nat × Nat)}{L:List (List (Nat × Nat))}{n:Nat}
theorem zav{id:Nat}{a:Act}{w:World}{Q:Exit→Act→World→Prop}(hm:P.follows .mixedOrders=true)(L:List (List (Nat × Nat)))(n:Nat)(hn:a.tmps.size=n)(hL:q5m l (qs6 l []) L n=true)(A:List (Nat × Nat))(Z:qav l=A)
  (al st m:Nat) (N:(al==st)=false) (a4:decide (al<l.length)=true) (V:decide (st<l.length)=true) (J:((L.getD st []).any fun p=>p.1==al)=true) (r:Array Value) (xs:List Value)
  (x:qae P a (fun w'=>qx w w') (RN w.heap.size st) (isN w.heap.size al st m r xs) 0 l L)
  (I:∀(qk:Nat→Value) (w':World) (g:Nat) (T:TypeId),qx w w'→qk al = .pointer (some ⟨g,0,none⟩)→w.heap.size≤g→w'.heap[g]? = some (.cells r T (0,0))→(∀i,i<l.length→i≠al→i≠st→qk i=xs.getD i undef)→Q .normal (putL a qk A) w') :
  (Code.region id l.toArray true).wp P Q a w:=by
 have E:al≠st:=by simpa using N
 refine zau hm L n hn hL A Z (fun w'=>qx w w') (RN w.heap.size st) (isN w.heap.size al st m r xs) (Upd.refl _ _).drew (fun i w=>RN.refl _ _ _ _) ?_ ?_ x ?_
 ·intro i k qk v w' D hp h
  unfold isN at h ⊢
  by_cases f:i=al
  ·rw[if_pos f] at h ⊢
   subst f
   rw[qii _ _ (fun e=>D e.symm)]
   exact h
  ·rw[if_neg f] at h ⊢
   by_cases q:i=st
   ·rw[if_pos q] at h ⊢
    subst q
    obtain⟨p,R,O⟩:=List.any_eq_true.1 J
    have:=hp p R
    have F:p.1=al:=by simpa using O
    rw[qii _ _ (fun e=>this (F.trans e))]
    exact h
   ·rw[if_neg q] at h ⊢
    rw[qii _ _ (fun e=>D e.symm)]
    exact h
 ·intro i j qk w1 w2 M _ _ t h
  unfold isN at h ⊢
  unfold RN at t
  by_cases f:i=al
  ·rw[if_pos f] at h ⊢
   obtain⟨g,T,cs,y,z,C,X⟩:=h
   by_cases W:j=st
   ·rw[if_pos W] at t
    obtain⟨H,U,K⟩:=t.2 g T cs C
    exact⟨g,T,H,y,z,K,U.trans X⟩
   ·rw[if_neg W] at t
    exact⟨g,T,cs,y,z,t.old C (fun h=>h),X⟩
  ·rw[if_neg f] at h ⊢
   by_cases q:i=st
   ·rw[if_pos q] at h ⊢
    obtain⟨g,T,y,z,C⟩:=h
    rw[if_neg (fun e=>M (q.trans e.symm))] at t
    exact⟨g,T,y,z,t.old C (fun h=>h)⟩
   ·rw[if_neg q] at h ⊢
    exact h
 ·intro qk w' hS Y
  have f:=Y st (by simpa using V)
  unfold isN at f
  rw[if_neg (fun e=>E e.symm),if_pos rfl] at f
  obtain⟨g,T,y,z,C⟩:=f
  exact I qk w' g T hS y z C fun i hi f q=>q9x f q (Y i hi)
variable {a0:Act}{wo:World}{al st m i:Nat}{r:Array Value}{xs:List Value}{o:Oper}{os:List Oper}{Li:List (Nat × Nat)}{L':List (List (Nat × Nat))}
theorem qae.nval(y:o.guard=none)(t:(i==al)=false)(x:(i==st)=false)
  (h:∀(qk:Nat→Value) (w:World),qx wo w→qrg (isN wo.heap.size al st m r xs) qk w Li→zg P o (putL a0 qk Li).eval w fun v w'=>qx w w'∧isX xs i v)
  (k:qae P a0 (fun w'=>qx wo w') (RN wo.heap.size st) (isN wo.heap.size al st m r xs) (i+1) os L'):qae P a0 (fun w'=>qx wo w') (RN wo.heap.size st) (isN wo.heap.size al st m r xs) i (o::os) (Li::L') :=
 qae.plain y (fun qk w q z=>qlb (h qk w q z) fun v w' j=>by
  have g:i≠al:=by simpa using t
  have f:i≠st:=by simpa using x
  refine⟨?_,q.trans j.1,zcd g f j.2⟩
  unfold RN
  rw[if_neg f]
  exact j.1) k
theorem qae.nalloc(x:o.guard=none)(q:(i==al)=true)(t:(i==st)=false)(C:Array Value)(T:TypeId)(v:C.size=m)
  (h:∀(qk:Nat→Value) (w:World),(execOp (putL a0 qk Li).eval o).run P w = .ok (.value (.pointer (some ⟨w.heap.size,0,none⟩))) (w.alloc (.cells C T)))
  (k:qae P a0 (fun w'=>qx wo w') (RN wo.heap.size st) (isN wo.heap.size al st m r xs) (i+1) os L'):qae P a0 (fun w'=>qx wo w') (RN wo.heap.size st) (isN wo.heap.size al st m r xs) i (o::os) (Li::L') :=
 qae.plain x (fun qk w j y=>qwv (h qk w) (by
  have f:i=al:=by simpa using q
  have g:i≠st:=by simpa using t
  refine⟨?_,Upd.alloc j _,?_⟩
  ·unfold RN
   rw[if_neg g]
   exact(Upd.refl _ _).alloc _
  ·unfold isN
   rw[if_pos f,←f,qqn]
   exact⟨_,T,C,rfl,j.size,qi _ _,v⟩)) k
theorem qae.nstore(R:o.guard=none)(M:(i==al)=false)(N:(i==st)=true)(D:(Li.any fun p=>p.1==al)=true)(hr:r.size=m)
  (h:∀(qk:Nat→Value) (w:World) (g:Nat) (T:TypeId) (cs:Array Value),qk al = .pointer (some ⟨g,0,none⟩)→w.heap[g]? = some (.cells cs T (0,0))→cs.size=m→qrg (isN wo.heap.size al st m r xs) qk w Li →
   zg P o (putL a0 qk Li).eval w fun _ w'=>w'=w.setCells g 0 r.toList)
  (k:qae P a0 (fun w'=>qx wo w') (RN wo.heap.size st) (isN wo.heap.size al st m r xs) (i+1) os L'):qae P a0 (fun w'=>qx wo w') (RN wo.heap.size st) (isN wo.heap.size al st m r xs) i (o::os) (Li::L') :=
 qae.plain R (fun qk w O z=>by
  have t:i≠al:=by simpa using M
  have x:i=st:=by simpa using N
  obtain⟨g,T,cs,H,I,E,F⟩:∃(g:Nat) (T:TypeId) (cs:Array Value),qk al = .pointer (some ⟨g,0,none⟩)∧wo.heap.size≤g∧w.heap[g]? = some (.cells cs T (0,0))∧cs.size=m:=by
   have key:∀Li:List (Nat × Nat),(Li.any fun p=>p.1==al)=true→qrg (isN wo.heap.size al st m r xs) qk w Li→isN wo.heap.size al st m r xs al qk w:=by
    intro Li
    induction Li with
    | nil=>intro h;simp at h
    | cons p Li V =>
     intro q z
     rw[List.any_cons,Bool.or_eq_true] at q
     rcases q with q | q
     ·have:p.1=al:=by simpa using q
      rw[←this]
      exact this▸z.1
     ·exact V q z.2
   have:=key Li D z
   unfold isN at this
   rwa [if_pos rfl] at this
  refine qlb (h qk w g T cs H E F z) fun v w' U=> ?_
  subst U
  have y:=qa1 E 0 r.toList
  have K:Upd (fun k=>wo.heap.size≤k) w (w.setCells g 0 r.toList):=((Upd.refl (· = g) w).setCells 0 r.toList).mono (fun k _ e=>by subst e;exact I)
  refine⟨?_,?_,?_⟩
  ·unfold RN
   rw[if_pos x]
   refine⟨K,fun g' Y C f=> ?_⟩
   by_cases J:g'=g
   ·subst J
    rw[E] at f
    cases f
    exact⟨_,qpu _ _ _,y⟩
   ·exact⟨C,rfl,((Upd.refl (· = g) w).setCells 0 r.toList).old f J⟩
  ·exact O.then K (fun k hk e=>by omega)
  ·unfold isN
   rw[if_neg t,if_pos x,qii _ _ (fun e=>t e.symm)]
   refine⟨g,T,H,I,?_⟩
   rw[y]
   congr 2
   refine Array.ext_getElem? fun j=> ?_
   rw[qh0 cs 0 r.toList j (by rw[Array.length_toList];omega)]
   by_cases Z:j<r.size
   ·rw[if_pos (by rw[Array.length_toList];omega)];simp
   ·have W:cs[j]? = none:=Array.getElem?_eq_none (by omega)
    have X:r[j]? = none:=Array.getElem?_eq_none (by omega)
    rw[if_neg (by rw[Array.length_toList];omega),W,X]) k
end
end Go.Proofs.YtjpmomdechibmaaGreatDoor
