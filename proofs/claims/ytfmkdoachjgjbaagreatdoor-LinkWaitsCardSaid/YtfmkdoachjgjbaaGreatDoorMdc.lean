/-
  XDag's law, wider: what is known of an operation may name the values of those that it looks at; and each operation has its own relation between worlds (a store into a block that the region made).
-/
import Derived.Test.YtfmkdoachjgjbaaGreatDoorMaa
import Derived.Test.YtfmkdoachjgjbaaGreatDoorMac
import Derived.Test.YtfmkdoachjgjbaaGreatDoorShR3
import Derived.Test.YtfmkdoachjgjbaaGreatDoorMbi
import Derived.Test.YtfmkdoachjgjbaaGreatDoorMbj
import Derived.Test.YtfmkdoachjgjbaaGreatDoorMcc
import Derived.Deep.Onto
import Derived.Maps.AppendAt
import Derived.Deep.AppendLies
import Derived.Laws.OwnMore
import Derived.Test.YtfmkdoachjgjbaaGreatDoorMba
import Derived.Test.YtfmkdoachjgjbaaGreatDoorMda
set_option maxRecDepth 100000
set_option maxHeartbeats 2000000
set_option linter.unusedVariables false
set_option linter.unusedSimpArgs false
namespace Go.Proofs.YtfmkdoachjgjbaaGreatDoor
section
open Go.RowKit
section
variable {P:Program}{l:List Oper}{A:List (List Nat)}{L:List (List (Nat × Nat))}{n:Nat}
def upV(qj:Nat→Value)(k:Nat)(v:Value):Nat→Value:=fun j=>if j=k then v else qj j
theorem qpg(qj:Nat→Value)(k:Nat)(v:Value):upV qj k v k=v:=by simp[upV]
theorem qhk(qj:Nat→Value){k j:Nat}(v:Value)(h:j≠k):upV qj k v j=qj j:=by simp[upV,h]
def qta(P:Program)(a0:Act)(S:World→Prop)(R:Nat→World→World→Prop)(Φ:Nat→(Nat→Value)→World→Prop)(i:Nat)(o:Oper)(Li:List (Nat × Nat)):Prop :=
 ∀(qj:Nat→Value) (w:World),S w→(∀p∈Li,Φ p.1 qj w) →
  match o.guard with
  | none=>zm P o (putL a0 qj Li).eval w fun v w'=>R i w w'∧S w'∧Φ i (upV qj i v) w'
  | some (g,b)=>Φ g qj w→(qj g = .bool b→zm P o (putL a0 qj Li).eval w fun v w'=>R i w w'∧S w'∧Φ i (upV qj i v) w')∧(qj g ≠ .bool b→Φ i (upV qj i undef) w)
def qau(P:Program)(a0:Act)(S:World→Prop)(R:Nat→World→World→Prop)(Φ:Nat→(Nat→Value)→World→Prop):Nat→List Oper→List (List (Nat × Nat))→Prop
 | _,[],_=>True
 | i,o::os,L=>qta P a0 S R Φ i o (L.headD [])∧qau P a0 S R Φ (i+1) os L.tail
theorem qau.nil{a0:Act}{S:World→Prop}{R:Nat→World→World→Prop}{Φ:Nat→(Nat→Value)→World→Prop}{i:Nat}{L:List (List (Nat × Nat))} : qau P a0 S R Φ i [] L:=trivial
def qp2(Φ:Nat→(Nat→Value)→World→Prop)(qj:Nat→Value)(w:World):List (Nat × Nat)→Prop
 | []=>True
 | p::r=>Φ p.1 qj w∧qp2 Φ qj w r
theorem qu5{Φ:Nat→(Nat→Value)→World→Prop}{qj:Nat→Value}{w:World} : ∀ {L:List (Nat × Nat)},(∀p∈L,Φ p.1 qj w)→qp2 Φ qj w L
 | [],_=>trivial
 | p::r,h=>⟨h p (List.mem_cons_self ..),qu5 fun q f=>h q (List.mem_cons_of_mem _ f)⟩
theorem qau.plain{a0:Act}{S:World→Prop}{R:Nat→World→World→Prop}{Φ:Nat→(Nat→Value)→World→Prop}{i:Nat}{o:Oper}{os:List Oper}{Li:List (Nat × Nat)}{L:List (List (Nat × Nat))}(m:o.guard=none)
  (h:∀(qj:Nat→Value) (w:World),S w→qp2 Φ qj w Li→zm P o (putL a0 qj Li).eval w fun v w'=>R i w w'∧S w'∧Φ i (upV qj i v) w')
  (k:qau P a0 S R Φ (i+1) os L):qau P a0 S R Φ i (o::os) (Li::L) :=
 ⟨fun qj w f p=>by rw[m];exact h qj w f (qu5 p),k⟩
theorem qau.at{a0:Act}{S:World→Prop}{R:Nat→World→World→Prop}{Φ:Nat→(Nat→Value)→World→Prop} : ∀ {os:List Oper} {L:List (List (Nat × Nat))} {k:Nat},qau P a0 S R Φ k os L→∀(i:Nat) o,os[i]? = some o→qta P a0 S R Φ (k+i) o (L.getD i [])
 | [],_,_,_,_,_,h=>by simp at h
 | o::os,L,k,h,0,m,f=>by
  simp only[List.getElem?_cons_zero,Option.some.injEq] at f;subst f;have:=h.1;cases L<;>exact this
 | o::os,L,k,h,i+1,m,f=>by
  have:=qau.at h.2 i m (by simpa using f);rw[show k+(i+1)=k+1+i by omega];cases L<;>exact this
structure DagInvG(l:List Oper)(A:List (List Nat))(a0:Act)(S:World→Prop)(Φ:Nat→(Nat→Value)→World→Prop)(listed:Array Bool)(a:Act)(w:World)(qj:Nat→Value):Prop where
 size:listed.size=l.length
 s:S w
 phi:∀i,listed.getD i false=true→Φ i qj w
 shut:∀i,listed.getD i false=true→∀k∈A.getD i [],listed.getD k false=true
 defers:a.defers=a0.defers
 tmps:a.tmps.size=a0.tmps.size
 other:∀t,(∀i,listed.getD i false=true→qbj l i≠some t)→a.tmps[t]? = a0.tmps[t]?
 at_:∀i t,listed.getD i false=true→qbj l i=some t→a.tmps[t]? = some (qj i)
theorem q4x(D:Dag l A L n){a0:Act}(hn:a0.tmps.size=n){S:World→Prop}{R:Nat→World→World→Prop}{Φ:Nat→(Nat→Value)→World→Prop}{Q:Exit→Act→World→Prop}
  (c2:∀i w,R i w w) (loc:∀i k qj v w,k≠i→(∀p∈L.getD i [],p.1≠k)→Φ i qj w→Φ i (upV qj k v) w) (a6:∀i j qj w w',i≠j→S w→S w'→R j w w'→Φ i qj w→Φ i qj w') (b3:qau P a0 S R Φ 0 l L)
  (c3:∀qj w,S w→(∀i,i<l.length→Φ i qj w)→Q .normal (putL a0 qj (qa6 l)) w) :
  ∀(F:Nat) (f:Array Bool) (a:Act) (w:World) (qj:Nat→Value),DagInvG l A a0 S Φ f a w qj→(List.range l.length).countP (fun i=> !f.getD i false)≤F→wpAny P .any l.toArray Q F f a w:=by
 have X:∀(f:Array Bool) (a:Act) (w:World) (qj:Nat→Value),DagInvG l A a0 S Φ f a w qj→Region.ready .any l.toArray f=[]→Q .normal a w:=by
  intro f a w qj I hr;have b4:∀(i:Nat),i<l.length→f.getD i false=true:=by
   intro i
   induction i using Nat.strongRecOn with
   | _ i ih =>
    intro N;cases hl:f.getD i false with
    | true=>rfl
    | false =>
     exfalso;have:i∈Region.ready .any l.toArray f:=by
      rw[mem_ready];have ho:l[i]? = some l[i]:=List.getElem?_eq_getElem N;refine⟨?_,l[i],by simp[N],fun e he hb=> ?_⟩
      ·rw[Array.getD_eq_getD_getElem?] at hl ⊢;have:i<f.size:=by rw[I.size];exact N
       rw[Array.getElem?_eq_getElem this] at hl ⊢;simpa using hl
      ·have M:=(D.edge i _ ho e he hb).1;have h2:=(D.anc i _ ho _ M).1;exact ih _ h2 (by omega)
     rw[hr] at this;cases this
  have ha:a=putL a0 qj (qa6 l):=by
   refine qv2 (by rw[qgk];exact I.defers) fun t=> ?_
   by_cases h:∃i,qbj l i=some t
   ·obtain⟨i,N⟩:=h;have K:=(qjs N).1;rw[I.at_ i t (b4 i K) N];have hm:(i,t)∈qa6 l:=by
     unfold qa6;rw[List.mem_filterMap];exact⟨i,List.mem_range.2 K,by rw[N];rfl⟩
    refine(qh4 qj (qa6 l) a0 (i,t) hm (fun q hq e=> ?_) (by rw[hn];exact(D.slot i t N).1)).symm;unfold qa6 at hq;rw[List.mem_filterMap] at hq;obtain⟨j,_,C⟩:=hq;rw[Option.map_eq_some_iff] at C;obtain⟨t',a8,rfl⟩:=C;simp only at e;subst e;exact(D.slot i _ N).2 j a8
   ·rw[I.other t fun i _ T=>h ⟨i,T⟩,qdp];intro p Y e;unfold qa6 at Y;rw[List.mem_filterMap] at Y;obtain⟨j,_,C⟩:=Y;rw[Option.map_eq_some_iff] at C;obtain⟨t',a8,rfl⟩:=C;exact h ⟨j,by rw[a8,←e]⟩
  rw[ha];exact c3 qj w I.s fun i N=>I.phi i (b4 i N)
 intro F
 induction F with
 | zero =>
  intro f a w qj I hc;have hr:Region.ready .any l.toArray f=[]:=by
   rw[List.eq_nil_iff_forall_not_mem];intro i N;obtain⟨h0,o,ho,_⟩:=mem_ready.1 N;have K:i<l.length:=by simpa using (Array.getElem?_eq_some_iff.1 ho).1
   have:(List.range l.length).countP (fun i=> !f.getD i false)=0:=by omega
   rw[List.countP_eq_zero] at this;have:=this i (List.mem_range.2 K);rw[Array.getD_eq_getD_getElem?] at h0 this;have T:i<f.size:=by rw[I.size];exact K
   rw[Array.getElem?_eq_getElem T] at h0 this;simp at h0 this;rw[h0] at this;cases this
  exact⟨hr,X f a w qj I hr⟩
 | succ F ih =>
  intro f a w qj I hc;refine⟨fun hr=>X f a w qj I hr,fun i N=> ?_⟩;obtain⟨h0,o,ho,b5⟩:=mem_ready.1 N;have K:i<l.length:=by simpa using (Array.getElem?_eq_some_iff.1 ho).1
  have T:i<f.size:=by rw[I.size];exact K
  have H:l[i]? = some o:=by simpa using ho
  have W:f.getD i false=false:=by
   rw[Array.getD_eq_getD_getElem?] at h0 ⊢;rw[Array.getElem?_eq_getElem T] at h0 ⊢;simpa using h0
  have U:∀k∈A.getD i [],f.getD k false=true:=by
   intro k hk;obtain⟨_,e,he,hb,h⟩:=D.anc i o H k hk;have M:=b5 e he hb;rcases h with rfl | h
   ·exact M
   ·exact I.shut _ M k h
  have a7:∀t∈o.looksAt l.toArray,a.tmps[t]? = (putL a0 qj (L.getD i [])).tmps[t]? := by
   intro t ht;by_cases h:∃j,f.getD j false=true∧qbj l j=some t
   ·obtain⟨j,C,E⟩:=h;rcases D.look i o H t ht j E with M | ⟨M,h2⟩
    ·have:=I.shut j C i M;rw[W] at this;cases this
    ·rw[I.at_ j t C E];refine(qh4 qj _ a0 (j,t) h2 (fun q hq e=> ?_) (by rw[hn];exact(D.slot j t E).1)).symm;have:=(D.lis i o H q hq).2;rw[e] at this;exact(D.slot j t E).2 _ this
   ·rw[I.other t fun j C T=>h ⟨j,C,T⟩,qdp];intro p Y e;obtain⟨M,h2⟩:=D.lis i o H p Y;exact h ⟨p.1,U _ M,by rw[h2,e]⟩
  have V:execOp a.eval o=execOp (putL a0 qj (L.getD i [])).eval o:=by
   refine execOp_congr o (D.sel i o H) fun x hx=> ?_
   cases x with
   | tmp t =>
    have:=a7 t (List.mem_append_left _ (List.mem_filterMap.2 ⟨.tmp t,by simpa using hx,rfl⟩));simp only[Act.eval,Array.getD_eq_getD_getElem?,this]
   | _=>rfl
  have c1:=b3.at i o H;rw[Nat.zero_add] at c1;have J:=c1 qj w I.s fun p Y=>I.phi _ (U _ (D.lis i o H p Y).1)
  have next:∀v w',R i w w'→S w'→Φ i (upV qj i v) w'→wpAny P .any l.toArray Q F (f.setIfInBounds i true) (a.put o.dst v) w':=by
   intro v w' hR hS hΦ;have Z:qbj l i=o.dst:=by unfold qbj;rw[H];rfl
   refine ih (f.setIfInBounds i true) (a.put o.dst v) w' (upV qj i v) ⟨?_,hS,?_,?_,?_,?_,?_,?_⟩ ?_
   ·rw[Array.size_setIfInBounds];exact I.size
   ·intro j C;rcases (qac T).1 C with rfl | z
    ·exact hΦ
    ·have O:j≠i:=by rintro rfl;rw[W] at z;cases z
     have c6:j<l.length:=by
      rcases Nat.lt_or_ge j l.length with h | h
      ·exact h
      ·rw[Array.getD_eq_getD_getElem?,Array.getElem?_eq_none (by rw[I.size];exact h)] at z;cases z
     refine a6 j i _ w w' O I.s hS hR (loc j i qj v w (Ne.symm O) (fun p Y e=> ?_) (I.phi j z));have hA:=(D.lis j _ (List.getElem?_eq_getElem c6) p Y).1;have:=I.shut j z _ hA;rw[e,W] at this;cases this
   ·intro j C k hk;refine(qac T).2 ?_;rcases (qac T).1 C with rfl | z
    ·exact .inr (U k hk)
    ·exact .inr (I.shut j z k hk)
   ·cases o.dst<;>exact I.defers
   ·cases hd:o.dst with
    | none=>exact I.tmps
    | some d=>simpa [Act.put] using I.tmps
   ·intro t ht;have M:=I.other t fun j C=>ht j ((qac T).2 (.inr C))
    have h2:=ht i ((qac T).2 (.inl rfl));rw[Z] at h2;cases hd:o.dst with
    | none=>exact M
    | some d =>
     have O:d≠t:=by rintro rfl;exact h2 hd
     simpa [Act.put,Array.getElem?_setIfInBounds_ne O] using M
   ·intro j t C E;rcases (qac T).1 C with rfl | z
    ·rw[Z] at E;rw[E,qpg];have:t<a.tmps.size:=by rw[I.tmps,hn];exact(D.slot j t (by rw[Z,E])).1
     simp[Act.put,this]
    ·have O:j≠i:=by rintro rfl;rw[W] at z;cases z
     rw[qhk _ _ O];have M:=I.at_ j t z E;cases hd:o.dst with
     | none=>exact M
     | some d =>
      have c0:d≠t:=by
       rintro rfl;exact O ((D.slot i d (by rw[Z,hd])).2 j E)
      simpa [Act.put,Array.getElem?_setIfInBounds_ne c0] using M
   ·have M:(List.range l.length).countP (fun j=> !(f.setIfInBounds i true).getD j false)<(List.range l.length).countP (fun j=> !f.getD j false):=by
     have b9:i∈List.range l.length:=List.mem_range.2 K;obtain⟨s,r,c7⟩:=List.append_of_mem b9;rw[c7,List.countP_append,List.countP_append,List.countP_cons,List.countP_cons];have m:∀xs:List Nat,xs.countP (fun j=> !(f.setIfInBounds i true).getD j false)≤xs.countP (fun j=> !f.getD j false):=by
      intro xs;refine List.countP_mono_left fun j _ C=> ?_
      cases h:f.getD j false with
      | false=>rfl
      | true=>rw[(qac T).2 (.inr h)] at C;cases C
     have m1:=m s;have m2:=m r;rw[qey T,W];simp only[Bool.not_true,Bool.not_false,Bool.false_eq_true,if_false,if_true];omega
    omega
  unfold wpOp;rw[ho];simp only;cases hg:o.guard with
  | none =>
   rw[hg] at J;rw[if_pos (by unfold Region.wanted;rw[hg])];exact .inl (qhb V J fun v w' h=>next v w' h.1 h.2.1 h.2.2)
  | some gb =>
   obtain⟨g,b⟩:=gb;rw[hg] at J;obtain⟨c5,t,b8⟩:=D.guard i o H g b hg;have b7:=U g c5;have c4:=I.at_ g t b7 b8;obtain⟨p1,p2⟩:=J (I.phi g b7);have hy:Region.wanted o (yielded l.toArray a.tmps)=true↔qj g = .bool b:=by
    unfold Region.wanted yielded;rw[hg];have e1:(l.toArray[g]?).bind (·.dst)=some t:=by simpa [qbj] using b8
    simp only[e1,Option.bind_some,c4];constructor
    ·intro h;split at h
     ·rename_i b' b6;simp only[Option.some.injEq] at b6;simp at h;rw[b6,h]
     ·simp at h
    ·intro h;rw[h];simp
   by_cases hw:Region.wanted o (yielded l.toArray a.tmps)=true
   ·rw[if_pos hw];exact .inl (qhb V (p1 (hy.1 hw)) fun v w' h=>next v w' h.1 h.2.1 h.2.2)
   ·rw[if_neg hw];exact next undef w (c2 i w) I.s (p2 fun h=>hw (hy.2 h))
theorem zam{id:Nat}{a:Act}{w:World}{Q:Exit→Act→World→Prop}(I:P.follows .mixedOrders=true)(L:List (List (Nat × Nat)))(n:Nat)(J:a.tmps.size=n)(F:q4w l (qrp l []) L n=true)(A:List (Nat × Nat))(E:qa6 l=A)
  (S:World→Prop) (R:Nat→World→World→Prop) (Φ:Nat→(Nat→Value)→World→Prop) (H:S w.drew) (z:∀i w,R i w w) (loc:∀i k qj v w,k≠i→(∀p∈L.getD i [],p.1≠k)→Φ i qj w→Φ i (upV qj k v) w) (f:∀i j qj w w',i≠j→S w→S w'→R j w w'→Φ i qj w→Φ i qj w')
  (q:qau P a S R Φ 0 l L) (C:∀qj w,S w→(∀i,i<l.length→Φ i qj w)→Q .normal (putL a qj A) w) :
  (Code.region id l.toArray true).wp P Q a w:=by
 subst E
 refine wp_region_any I ?_
 refine q4x (qwn F) J z loc f q C _ _ a _ (fun _=>undef) ⟨by simp,H,?_,?_,rfl,rfl,fun _ _=>rfl,?_⟩ ?_
 ·intro i m;rw[qbt] at m;cases m
 ·intro i m;rw[qbt] at m;cases m
 ·intro i t m;rw[qbt] at m;cases m
 ·refine Nat.le_trans List.countP_le_length ?_;simp
end
def zbq(B:Nat)(w w':World):Prop:=Upd (fun k=>B≤k) w w'∧∀(g:Nat) (T:TypeId) (cs:Array Value),w.heap[g]? = some (.cells cs T (0,0))→∃f:Array Value,f.size=cs.size∧w'.heap[g]? = some (.cells f T (0,0))
def RN(B st j:Nat)(w w':World):Prop:=if j=st then zbq B w w' else qu w w'
theorem RN.refl(B st j:Nat)(w:World):RN B st j w w:=by
 unfold RN;split
 ·exact⟨Upd.refl _ _,fun g T cs h=>⟨cs,rfl,h⟩⟩
 ·exact Upd.refl _ _
def isN(B al st n:Nat)(r:Array Value)(xs:List Value)(i:Nat)(qj:Nat→Value)(w:World):Prop :=
 if i=al then ∃(g:Nat) (T:TypeId) (cs:Array Value),qj al = .pointer (some ⟨g,0,none⟩)∧B≤g∧w.heap[g]? = some (.cells cs T (0,0))∧cs.size=n
 else if i=st then ∃(g:Nat) (T:TypeId),qj al = .pointer (some ⟨g,0,none⟩)∧B≤g∧w.heap[g]? = some (.cells r T (0,0))
 else qj i=xs.getD i undef
theorem q9t{B al st n:Nat}{r:Array Value}{xs:List Value}{i:Nat}{qj:Nat→Value}{w:World}(f:i≠al)(p:i≠st)(h:isN B al st n r xs i qj w):qj i=xs.getD i undef:=by
 unfold isN at h;rwa [if_neg f,if_neg p] at h
theorem zca{B al st n:Nat}{r:Array Value}{xs:List Value}{i:Nat}{qj:Nat→Value}{v:Value}{w:World}(f:i≠al)(p:i≠st)(h:v=xs.getD i undef):isN B al st n r xs i (upV qj i v) w:=by
 unfold isN;rw[if_neg f,if_neg p,qpg];exact h
def isX(xs:List Value)(i:Nat)(v:Value):Prop:=v=xs.getD i undef
section
variable {P:Program}{l:List Oper}{A:List (Nat × Nat)}{L:List (List (Nat × Nat))}{n:Nat}
theorem zan{id:Nat}{a:Act}{w:World}{Q:Exit→Act→World→Prop}(hm:P.follows .mixedOrders=true)(L:List (List (Nat × Nat)))(n:Nat)(hn:a.tmps.size=n)(hL:q4w l (qrp l []) L n=true)(A:List (Nat × Nat))(hA:qa6 l=A)
  (al st m:Nat) (U:(al==st)=false) (a6:decide (al<l.length)=true) (Y:decide (st<l.length)=true) (O:((L.getD st []).any fun p=>p.1==al)=true) (r:Array Value) (xs:List Value)
  (C:qau P a (fun w'=>qu w w') (RN w.heap.size st) (isN w.heap.size al st m r xs) 0 l L)
  (N:∀(qj:Nat→Value) (w':World) (g:Nat) (T:TypeId),qu w w'→qj al = .pointer (some ⟨g,0,none⟩)→w.heap.size≤g→w'.heap[g]? = some (.cells r T (0,0))→(∀i,i<l.length→i≠al→i≠st→qj i=xs.getD i undef)→Q .normal (putL a qj A) w') :
  (Code.region id l.toArray true).wp P Q a w:=by
 have J:al≠st:=by simpa using U
 refine zam hm L n hn hL A hA (fun w'=>qu w w') (RN w.heap.size st) (isN w.heap.size al st m r xs) (Upd.refl _ _).drew (fun i w=>RN.refl _ _ _ _) ?_ ?_ C ?_
 ·intro i k qj v w' I hp h;unfold isN at h ⊢;by_cases f:i=al
  ·rw[if_pos f] at h ⊢;subst f;rw[qhk _ _ (fun e=>I e.symm)];exact h
  ·rw[if_neg f] at h ⊢;by_cases q:i=st
   ·rw[if_pos q] at h ⊢;subst q;obtain⟨p,W,V⟩:=List.any_eq_true.1 O;have:=hp p W;have K:p.1=al:=by simpa using V
    rw[qhk _ _ (fun e=>this (K.trans e))];exact h
   ·rw[if_neg q] at h ⊢;rw[qhk _ _ (fun e=>I e.symm)];exact h
 ·intro i j qj w1 w2 S _ _ z h;unfold isN at h ⊢;unfold RN at z;by_cases f:i=al
  ·rw[if_pos f] at h ⊢;obtain⟨g,T,cs,E,F,H,hs⟩:=h;by_cases Z:j=st
   ·rw[if_pos Z] at z;obtain⟨M,X,R⟩:=z.2 g T cs H;exact⟨g,T,M,E,F,R,X.trans hs⟩
   ·rw[if_neg Z] at z;exact⟨g,T,cs,E,F,z.old H (fun h=>h),hs⟩
  ·rw[if_neg f] at h ⊢;by_cases q:i=st
   ·rw[if_pos q] at h ⊢;obtain⟨g,T,E,F,H⟩:=h;rw[if_neg (fun e=>S (q.trans e.symm))] at z;exact⟨g,T,E,F,z.old H (fun h=>h)⟩
   ·rw[if_neg q] at h ⊢;exact h
 ·intro qj w' hS hΦ;have f:=hΦ st (by simpa using Y);unfold isN at f;rw[if_neg (fun e=>J e.symm),if_pos rfl] at f;obtain⟨g,T,E,F,H⟩:=f;exact N qj w' g T hS E F H fun i hi f q=>q9t f q (hΦ i hi)
variable {a0:Act}{wo:World}{al st m i:Nat}{r:Array Value}{xs:List Value}{o:Oper}{os:List Oper}{Li:List (Nat × Nat)}{L':List (List (Nat × Nat))}
theorem qau.nval(F:o.guard=none)(C:(i==al)=false)(E:(i==st)=false)
  (h:∀(qj:Nat→Value) (w:World),qu wo w→qp2 (isN wo.heap.size al st m r xs) qj w Li→zm P o (putL a0 qj Li).eval w fun v w'=>qu w w'∧isX xs i v)
  (k:qau P a0 (fun w'=>qu wo w') (RN wo.heap.size st) (isN wo.heap.size al st m r xs) (i+1) os L'):qau P a0 (fun w'=>qu wo w') (RN wo.heap.size st) (isN wo.heap.size al st m r xs) i (o::os) (Li::L') :=
 qau.plain F (fun qj w z H=>qkb (h qj w z H) fun v w' q=>by
  have p:i≠al:=by simpa using C
  have f:i≠st:=by simpa using E
  refine⟨?_,z.trans q.1,zca p f q.2⟩;unfold RN;rw[if_neg f];exact q.1) k
theorem qau.nalloc(F:o.guard=none)(v:(i==al)=true)(z:(i==st)=false)(C:Array Value)(T:TypeId)(E:C.size=m)
  (h:∀(qj:Nat→Value) (w:World),(execOp (putL a0 qj Li).eval o).run P w = .ok (.value (.pointer (some ⟨w.heap.size,0,none⟩))) (w.alloc (.cells C T)))
  (k:qau P a0 (fun w'=>qu wo w') (RN wo.heap.size st) (isN wo.heap.size al st m r xs) (i+1) os L'):qau P a0 (fun w'=>qu wo w') (RN wo.heap.size st) (isN wo.heap.size al st m r xs) i (o::os) (Li::L') :=
 qau.plain F (fun qj w q H=>qu1 (h qj w) (by
  have f:i=al:=by simpa using v
  have p:i≠st:=by simpa using z
  refine⟨?_,Upd.alloc q _,?_⟩
  ·unfold RN;rw[if_neg p];exact(Upd.refl _ _).alloc _
  ·unfold isN;rw[if_pos f,←f,qpg];exact⟨_,T,C,rfl,q.size,qh _ _,E⟩)) k
theorem qau.nstore(W:o.guard=none)(S:(i==al)=false)(U:(i==st)=true)(I:(Li.any fun p=>p.1==al)=true)(hr:r.size=m)
  (h:∀(qj:Nat→Value) (w:World) (g:Nat) (T:TypeId) (cs:Array Value),qj al = .pointer (some ⟨g,0,none⟩)→w.heap[g]? = some (.cells cs T (0,0))→cs.size=m→qp2 (isN wo.heap.size al st m r xs) qj w Li →
   zm P o (putL a0 qj Li).eval w fun _ w'=>w'=w.setCells g 0 r.toList)
  (k:qau P a0 (fun w'=>qu wo w') (RN wo.heap.size st) (isN wo.heap.size al st m r xs) (i+1) os L'):qau P a0 (fun w'=>qu wo w') (RN wo.heap.size st) (isN wo.heap.size al st m r xs) i (o::os) (Li::L') :=
 qau.plain W (fun qj w V F=>by
  have z:i≠al:=by simpa using S
  have C:i=st:=by simpa using U
  obtain⟨g,T,cs,M,N,J,K⟩:∃(g:Nat) (T:TypeId) (cs:Array Value),qj al = .pointer (some ⟨g,0,none⟩)∧wo.heap.size≤g∧w.heap[g]? = some (.cells cs T (0,0))∧cs.size=m:=by
   have key:∀Li:List (Nat × Nat),(Li.any fun p=>p.1==al)=true→qp2 (isN wo.heap.size al st m r xs) qj w Li→isN wo.heap.size al st m r xs al qj w:=by
    intro Li
    induction Li with
    | nil=>intro h;simp at h
    | cons p Li Y =>
     intro q F;rw[List.any_cons,Bool.or_eq_true] at q;rcases q with q | q
     ·have:p.1=al:=by simpa using q
      rw[←this];exact this▸F.1
     ·exact Y q F.2
   have:=key Li I F;unfold isN at this;rwa [if_pos rfl] at this
  refine qkb (h qj w g T cs M J K F) fun v w' X=> ?_
  subst X;have E:=qa3 J 0 r.toList;have uu:Upd (fun k=>wo.heap.size≤k) w (w.setCells g 0 r.toList):=((Upd.refl (· = g) w).setCells 0 r.toList).mono (fun k _ e=>by subst e;exact N);refine⟨?_,?_,?_⟩
  ·unfold RN;rw[if_pos C];refine⟨uu,fun R T' H f=> ?_⟩;by_cases O:R=g
   ·subst O;rw[J] at f;cases f;exact⟨_,qor _ _ _,E⟩
   ·exact⟨H,rfl,((Upd.refl (· = g) w).setCells 0 r.toList).old f O⟩
  ·exact V.then uu (fun k hk e=>by omega)
  ·unfold isN;rw[if_neg z,if_pos C,qhk _ _ (fun e=>z e.symm)];refine⟨g,T,M,N,?_⟩;rw[E];congr 2;refine Array.ext_getElem? fun j=> ?_
   rw[qg5 cs 0 r.toList j (by rw[Array.length_toList];omega)];by_cases hj:j<r.size
   ·rw[if_pos (by rw[Array.length_toList];omega)];simp
   ·have Z:cs[j]? = none:=Array.getElem?_eq_none (by omega);have z2:r[j]? = none:=Array.getElem?_eq_none (by omega);rw[if_neg (by rw[Array.length_toList];omega),Z,z2]) k
end
theorem qs2(s:ByteArray)(f:List Int):strOfNums (qc1 s++f)=s++strOfNums f:=by
 unfold strOfNums qc1;rw[List.map_append,List.map_map];have:(s.data.toList.map ((fun n:Int=>UInt8.ofNat n.toNat) ∘ fun c:UInt8=>(c.toNat:Int)))=s.data.toList:=by
  conv=>rhs;rw[←List.map_id s.data.toList]
  refine List.map_congr_left fun c _=> ?_
  simp
 rw[this];apply ByteArray.ext;simp
theorem q7h(n k:Nat)(h:k<qc8 n):(n+(k+1))%64≠56:=by unfold qc8 at h;omega
theorem q7g(n:Nat):(n+(qc8 n+1))%64=56:=by unfold qc8;omega
theorem q7f(s:ByteArray)(w:World)(hs:s.size≤1000000000) :
  Calls Tryz.prog 94 #[.string s] w (qa1 (.string (qhc s)) w):=by
 have hz:=qk7 s.size
 have b5:(s.size:Int)≤1000000000:=by omega
 have R:=qj5 s
 have O:∀w:World,(convert 9 95 (.string s)).run Tryz.prog w = .ok (.slice (some ⟨w.heap.size,0,none⟩) s.size (grownCap w s.size 0 5)) (w.drew.alloc (.cells (bytesRow s (grownCap w s.size 0 5)) 5 ((bytesRow s (grownCap w s.size 0 5)).size,(bytesRow s (grownCap w s.size 0 5)).size+1))) :=
  fun w=>run_bytes_of_string w _ _ _ s Tryz.underlying9 Tryz.underlying95 Tryz.underlying5
 have hG:=qdv.ofS w s (grownCap w s.size 0 5) w.heap.size (Nat.le_refl _) (grownCap_ge _ _ _ _)
 have Z:Upd (fun k=>w.heap.size≤k) w (w.drew.alloc (.cells (bytesRow s (grownCap w s.size 0 5)) 5 ((bytesRow s (grownCap w s.size 0 5)).size,(bytesRow s (grownCap w s.size 0 5)).size+1))):=(Upd.refl _ _).drew.alloc _
 have X:=qb hG
 have p:=qb R
 clear hG R
 go_enter Tryz.func94,Tryz.ntmps94
 go_upto_region 2 with fail
 generalize P:grownCap w s.size 0 5=K at *
 have H:=O w
 rw[P] at H
 clear O P
 refine wp_region_lit ?_
 refine zg rfl (v:= .string s) (w':=w) (by kernel_rfl) ?_
 refine zg rfl (v:= .slice (some ⟨w.heap.size,0,none⟩) s.size K) (w':=w.drew.alloc (.cells (bytesRow s K) 5 ((bytesRow s K).size,(bytesRow s K).size+1))) (by simp only[execOp];go_simp) ?_
 generalize w.drew.alloc (.cells (bytesRow s K) 5 ((bytesRow s K).size,(bytesRow s K).size+1))=w1 at X Z ⊢
 clear H
 refine zg rfl (v:= .slice (some ⟨w1.heap.size,0,none⟩) 1 1) (w':=w1.alloc (.cells #[.int .u8 128] 5)) (by kernel_rfl) ?_
 refine qhq rfl (.tmp 11) (.tmp 12) rfl w.heap.size _ _ rfl 128 _ _ rfl (qa X) (by rw[qa p];omega) Z.size ?_
 intro v2 w2 E u2
 have u3:=Z.then u2 (fun q _ h=>((qa X).ge h).1)
 clear u2 X Z
 have i:(qc1 s++[128]).length=s.size+1:=by rw[List.length_append,qa p];rfl
 obtain⟨a2,c2,rfl⟩:=E.shape
 rw[i] at E ⊢
 have z:=qb E
 clear E i
 go_wp2_with fail
 go_loopw [4] (fun J wr=>∃(k:Nat) (a:Addr) (c:Nat),J = .slice (some a) (s.size+1+k) c∧k≤qc8 s.size∧Hid (qdv wr w.heap.size J (qc1 s++(128::List.replicate k 0)))∧Upd (fun k=>w.heap.size≤k) w wr) (fun J _=>s.size+100-(match J with | .slice _ l _=>l | _=>0))
 case atStart=>exact⟨0,_,_,rfl,Nat.zero_le _,z,u3⟩
 case round =>
  obtain⟨k,a,c,rfl,hk,z,ur⟩:=hrel;by_cases T:k<qc8 s.size
  ·have L:=q7h s.size k T;have h1:((((s.size:Int)+1+(k:Int)))%64 != 56)=true:=by rw[bne_iff_ne];omega
   have a7:(k:Int)<64:=by omega
   have hb:=ur.size;have F:(qc1 s++(128::List.replicate k (0:Int))).length≤1073741824:=by rw[List.length_append,qa p];simp;omega
   clear L;go_wp2_with (at_builtin;refine qhq rfl (.tmp 18) (.tmp 19) rfl w.heap.size _ _ rfl 0 _ _ rfl (qa z) F hb ?_);intro v' w5 f V;have u6:=ur.then V (fun q _ h=>((qa z).ge h).1);obtain⟨a5,Y,rfl⟩:=f.shape;replace f:qdv w5 w.heap.size (Value.slice (some a5) (qc1 s++(128::(List.replicate k (0:Int)++[0]))).length Y) (qc1 s++(128::(List.replicate k 0++[0]))):=f;rw[←List.replicate_succ'] at f;have i:(qc1 s++(128::(List.replicate k (0:Int)++[0]))).length=s.size+1+(k+1):=by rw[List.length_append,qa p];simp;omega
   have S:(qc1 s++(128::(List.replicate (k+1) (0:Int)))).length=s.size+1+(k+1):=by rw[List.length_append,qa p];simp;omega
   rw[S] at f;rw[i];have I:=qb f;clear f V z i S;go_wp2;go_roundw
   case rel=>exact⟨k+1,a5,Y,rfl,by omega,I,u6⟩
   case measure=>simp;omega
  ·obtain rfl:k=qc8 s.size:=by omega
   have L:=q7g s.size;have h1:((((s.size:Int)+1+(qc8 s.size:Int)))%64 != 56)=false:=by rw[bne_eq_false_iff_eq];omega
   have a7:(qc8 s.size:Int)<64:=by omega
   obtain⟨wo,rfl⟩:∃wo:World,wo=wr:=⟨_,rfl⟩;clear L;go_wp2_with fail
   go_loopw [4,5] (fun J iv wr=>∃(m:Nat) (a:Addr) (c:Nat),iv = .int .i64 (7-(m:Int))∧m≤8∧J = .slice (some a) (s.size+1+qc8 s.size+m) c∧Hid (qdv wr w.heap.size J (qc1 s++(128::List.replicate (qc8 s.size) 0)++(List.range m).map (qi1 s.size)))∧Upd (fun k=>w.heap.size≤k) w wr) (fun _ iv _=>(intOf iv+1).toNat)
   case atStart=>exact⟨0,_,_,rfl,by omega,rfl,by simpa using z,ur⟩
   case round =>
    obtain⟨m,a,c,rfl,hm,rfl,z,ur⟩:=hrel;by_cases T:m<8
    ·have b4:(m:Int)<8:=by omega
     have hb:=ur.size;have F:(qc1 s++(128::List.replicate (qc8 s.size) (0:Int))++(List.range m).map (qi1 s.size)).length≤1073741824:=by rw[List.length_append,List.length_append,qa p];simp;omega
     have M:∀W,Calls Tryz.prog 96 #[.int .u64 ((s.size:Int)*8),.int .i64 (8*(7-(m:Int)))] W fun e w'=>e = .returned (.int .u64 ((s.size:Int)*8 / 2 ^ (8*(7-(m:Int))).toNat))∧W=w' :=
      fun W=>qjr ((s.size:Int)*8) (8*(7-(m:Int))) W (by omega) (by omega) (by omega) (by omega)
     have hq:qi1 s.size m=((s.size:Int)*8 / 2 ^ (8*(7-(m:Int))).toNat)%256:=by
      unfold qi1;rw[show (8*(7-(m:Int))).toNat=56-8*m by omega,Int.mul_comm]
     have U:0≤(s.size:Int)*8 / 2 ^ (8*(7-(m:Int))).toNat∧(s.size:Int)*8 / 2 ^ (8*(7-(m:Int))).toNat≤8000000000:=by
      have hp:(1:Int)≤2 ^ (8*(7-(m:Int))).toNat:=Int.pow_pos (by decide);refine⟨Int.ediv_nonneg (by omega) (by omega),?_⟩;refine Int.le_trans (Int.ediv_le_self _ (by omega)) (by omega)
     generalize (s.size:Int)*8 / 2 ^ (8*(7-(m:Int))).toNat=q at M hq U;have a6:=qb M;have HQ:=qb hq;clear M hq;obtain⟨q0,q1⟩:=U;go_wp2_with fail;refine(qa a6 _).mono ?_;rintro e w' ⟨rfl,rfl⟩;go_wp2_with (at_builtin;refine qhq rfl (.tmp 25) (.tmp 32) rfl w.heap.size _ _ rfl _ _ _ rfl (qa z) F hb ?_);intro v' w5 f V;have u6:=ur.then V (fun q _ h=>((qa z).ge h).1);obtain⟨a5,Y,rfl⟩:=f.shape;have e1:qc1 s++(128::List.replicate (qc8 s.size) 0)++(List.range (m+1)).map (qi1 s.size)=qc1 s++(128::(List.replicate (qc8 s.size) 0++((List.range m).map (qi1 s.size)++[q%256]))):=by rw[List.range_succ,List.map_append,List.map_cons,List.map_nil,qa HQ];simp
     have i:(qc1 s++(128::(List.replicate (qc8 s.size) (0:Int)++((List.range m).map (qi1 s.size)++[q%256])))).length=s.size+1+qc8 s.size+(m+1):=by rw[List.length_append,qa p];simp;omega
     rw[i] at f ⊢;rw[←e1] at f;have I:=qb f;clear f V z e1 i F;go_wp2;go_roundw
     case rel=>exact⟨m+1,a5,Y,by congr 1;omega,by omega,rfl,I,u6⟩
     case measure=>simp[intOf];omega
    ·obtain rfl:m=8:=by omega
     rw[show (7:Int)-((8:Nat):Int) = -1 from rfl];have a8:=qs1 (qa z);have C:strOfNums (qc1 s++(128::List.replicate (qc8 s.size) 0)++(List.range 8).map (qi1 s.size))=qhc s:=by
      unfold qhc qmt;rw[List.append_assoc,qs2]
     generalize strOfNums (qc1 s++(128::List.replicate (qc8 s.size) 0)++(List.range 8).map (qi1 s.size))=b3 at a8 C;have N:=qb C;clear C;go_wp2;go_ret;exact⟨by rw[qa N];rfl,ur.below' (Nat.le_refl _) (fun _ h=>h) |> fun h=>Upd.of_below h (Nat.le_refl _)⟩
theorem q2j(s:ByteArray):(qhc s).size%64=0∧(qhc s).size≤s.size+73:=by
 unfold qhc;rw[ByteArray.size_append,strOfNums_size,ql2];have:=qk7 s.size;have:=qzi s.size;omega
theorem q0p(p:ByteArray)(i:Nat)(h:i+64≤p.size):(p.extract i p.size).extract 0 64=p.extract i (i+64):=by
 rw[ByteArray.extract_extract];congr 1;omega
theorem q5b(p:ByteArray)(i:Nat)(h:i+64≤p.size):(p.extract i p.size).extract 64 (p.extract i p.size).size=p.extract (i+64) p.size:=by
 rw[ByteArray.extract_extract];congr 1;rw[ByteArray.size_extract];omega
theorem qzz(p:ByteArray)(n:Nat)(h:List Int)(m:p.size%64=0)(f:64*n+64≤p.size) :
  qij ((p.size-64*n) / 64) h (p.extract (64*n) p.size)=qij ((p.size-64*(n+1)) / 64) (qkq h (p.extract (64*n) (64*n+64))) (p.extract (64*(n+1)) p.size):=by
 obtain⟨k,i⟩:∃k,(p.size-64*n) / 64=k+1:=⟨(p.size-64*n) / 64-1,by omega⟩
 rw[i,show (p.size-64*(n+1)) / 64=k by omega]
 show qij k (qkq h ((p.extract (64*n) p.size).extract 0 64)) ((p.extract (64*n) p.size).extract 64 (p.extract (64*n) p.size).size)=_
 rw[q0p p _ f,q5b p _ f,show 64*n+64=64*(n+1) by omega]
def z32:Array Value:=((List.replicate 32 (0:Int)).map (Value.int .u8)).toArray
def z8r:Array Value:=((List.replicate 8 (0:Int)).map (Value.int .u64)).toArray
def qw1:Array Value:=(qhz.map (Value.int .u64)).toArray
attribute [local go_sem ↓ high] qot qpd qi0 qja
attribute [local go_sem] zba zbl qxh qyc
theorem q76(s:ByteArray)(w:World)(hs:s.size≤1000000000) :
  Calls Tryz.prog 50 #[.string s] w fun e w'=>e = .returned (.agg ((qek s).map (Value.int .u8)).toArray)∧qu w w':=by
 obtain⟨c6,c7⟩:=q2j s
 have hp:=fun W=>q7f s W hs
 have M:qek s=qfw (qij ((qhc s).size / 64) qhz (qhc s)) 32:=rfl
 generalize qhc s=p at c6 c7 hp M
 have HP:=qb hp
 have V:=qb M
 clear hp M
 go_enter Tryz.func50,Tryz.ntmps50
 go_upto_region 0 with fail
 refine wp_region_lit ?_
 refine zg rfl (v:= .pointer (some ⟨w.heap.size,0,none⟩)) (w':=w.alloc (.cells z32 35)) (by kernel_rfl) ?_
 have n0:qu w (w.alloc (.cells z32 35)):=(Upd.refl _ _).alloc _
 have P:(w.alloc (.cells z32 35)).heap[w.heap.size]? = some (.cells z32 35 (0,0)):=qh _ _
 generalize w.alloc (.cells z32 35)=w1 at n0 P ⊢
 go_upto_region 1 with fail
 refine wp_region_lit ?_
 refine zg rfl (v:= .agg qw1) (w':=w1) (by kernel_rfl) ?_
 refine zg rfl (v:= .pointer (some ⟨w1.heap.size,0,none⟩)) (w':=w1.alloc (.cells z8r 175)) (by kernel_rfl) ?_
 have n2:qu w1 (w1.alloc (.cells z8r 175)):=(Upd.refl _ _).alloc _
 have F:(w1.alloc (.cells z8r 175)).heap[w1.heap.size]? = some (.cells z8r 175 (0,0)):=qh _ _
 generalize w1.alloc (.cells z8r 175)=w2 at n2 F ⊢
 refine wpList_store_row rfl _ _ _ rfl w1.heap.size qw1 rfl rfl 175 _ F (by kernel_rfl) (by kernel_rfl) (by kernel_rfl) ?_
 have J:(w2.setRow w1.heap.size qw1).heap[w1.heap.size]? = some (.cells qw1 175 (0,0)):=setRow_heap w2 w1.heap.size _ qw1 175 (0,0) F
 have N:qu w1 (w2.setRow w1.heap.size qw1):=n2.setRow (fun h=>by omega) _
 generalize w2.setRow w1.heap.size qw1=w3 at J N ⊢
 have e4:w.heap.size<w1.heap.size:=zr P
 have vR:=N.old P (fun h=>h)
 have nA:=n0.trans N
 have vH:qbd .u64 w3 w1.heap.size qhz:=⟨_,J⟩
 have e5:=vH.lt
 generalize w1.heap.size=B at vH e4 e5 ⊢
 clear n0 P n2 F J N
 go_wp2_with fail
 refine(qa HP w3).mono ?_
 rintro e w4 ⟨rfl,n4⟩
 have f9:=n4.size
 replace vR:=n4.old vR (fun h=>h)
 replace vH:=vH.upd n4 (fun h=>h)
 replace nA:=nA.trans n4
 clear n4 HP
 go_wp2_with fail
 go_loopw [5,6,7] (fun iv _ _ wr=>∃(n:Nat) (f:List Int),iv = .int .i64 (64*(n:Int))∧64*n≤p.size∧f.length=8∧qen f∧Hid (qij ((p.size-64*n) / 64) f (p.extract (64*n) p.size)=qij (p.size / 64) qhz p)∧qbd .u64 wr B f∧Upd (fun k=>k=B) w4 wr) (fun iv _ _ _=>p.size-(intOf iv).toNat)
 case atStart=>exact⟨0,qhz,rfl,by omega,rfl,qkv,by rw[show 64*0=0 from rfl,Nat.sub_zero];exact qb (by simp),vH,Upd.refl _ _⟩
 case round =>
  clear vH;obtain⟨n,f,rfl,hn,a8,b3,HE,hH,ur⟩:=hrel;by_cases f6:64*n<p.size
  ·have b9:64*n+64≤p.size:=by omega
   have L:(p.extract (64*n) (64*n+64)).size=64:=by rw[ByteArray.size_extract];omega
   have hC:=fun W=>qpm f (p.extract (64*n) (64*n+64)) W a8 b3 L
   have b5:=qr9 f (p.extract (64*n) (64*n+64)) ⟨a8,b3⟩;have I:=(qzz p n f c6 b9).symm.trans (qa HE);obtain⟨TH,hb⟩:=hH;generalize a7:p.extract (64*n) (64*n+64)=bl at hC b5 I;generalize qkq f bl=d at hC b5 I;obtain⟨d8,du⟩:=b5;have HC:=qb hC;have c8:=qb a7;have O:=qb I;clear hC L I a7 HE;obtain⟨z,rfl⟩:∃z:World,z=wr:=⟨_,rfl⟩;have e8:=ur.size;generalize b4:(f.map (Value.int .u64)).toArray=cv at hb HC;have b8:cv.size=8:=by rw[←b4];simpa using a8
   have f0:=qb b4;clear b4;have c3:=qai hb 8 b8;have d5:64*(n:Int)<(p.size:Int):=by omega
   have f7:64*(n:Int)+64≤(p.size:Int):=by omega
   have f8:(p.size:Int)≤2000000000:=by omega
   have d6:(64*(n:Int)).toNat=64*n:=by omega
   have d9:IntKind.i64.wrap (64*(n:Int)+64)=64*(n:Int)+64:=IntWalk.i64_in _ (by omega);have e0:0≤64*(n:Int):=by omega
   have e2:0≤64*(n:Int)+64:=by omega
   have e3:64*(n:Int)≤64*(n:Int)+64:=by omega
   have d7:(64*(n:Int)+64).toNat=64*n+64:=by omega
   go_wp2_with fail;refine zan (by kernel_rfl) [[],[],[],[],[(3,23)],[(1,21),(2,22),(4,24)],[(0,20),(5,25)],[(6,26)],[(7,19)],[(7,19)],[],[(10,6),(8,27)],[(9,28)]] 49 rfl (by kernel_rfl) [(0,20),(1,21),(2,22),(3,23),(4,24),(5,25),(6,26),(7,19),(8,27),(9,28),(10,6),(12,7)] (by kernel_rfl) 10 11 8 rfl rfl rfl rfl ((d.map (Value.int .u64)).toArray)
    [.agg cv,.string p,.int .i64 (64*(n:Int)),.int .i64 (64*(n:Int)),.int .i64 (64*(n:Int)+64),.string bl,.tuple #[.agg (d.map (Value.int .u64)).toArray,.bool true],.tuple #[.agg (d.map (Value.int .u64)).toArray,.bool true],.agg (d.map (Value.int .u64)).toArray,.bool true,undef,undef,.bool true] ?_ ?_
   ·refine .nval rfl rfl rfl ?_ <| .nval rfl rfl rfl ?_ <| .nval rfl rfl rfl ?_ <| .nval rfl rfl rfl ?_ <| .nval rfl rfl rfl ?_ <| .nval rfl rfl rfl ?_ <| .nval rfl rfl rfl ?_ <| .nval rfl rfl rfl ?_ <| .nval rfl rfl rfl ?_ <| .nval rfl rfl rfl ?_ <| .nalloc rfl rfl rfl z8r 175 rfl ?_ <| .nstore rfl rfl rfl rfl (by simp[d8]) ?_ <| .nval rfl rfl rfl ?_ <| .nil
    ·intro qj E K _;have hr:=qbc c3 K (fun h=>h);unfold zm;simp only[putL];go_simp;exact⟨Upd.refl _ _,rfl⟩
    ·intro qj E K _;unfold zm;simp only[putL];go_simp;exact⟨Upd.refl _ _,rfl⟩
    ·intro qj E K _;unfold zm;simp only[putL];go_simp;exact⟨Upd.refl _ _,rfl⟩
    ·intro qj E K _;unfold zm;simp only[putL];go_simp;exact⟨Upd.refl _ _,rfl⟩
    ·rintro qj E K ⟨m,-⟩;replace m:qj 3 = .int .i64 (64*(n:Int)):=m;unfold zm;simp only[putL];go_simp;exact⟨Upd.refl _ _,rfl⟩
    ·rintro qj E K ⟨m,S,p2,-⟩;replace m:qj 1 = .string p:=m;replace S:qj 2 = .int .i64 (64*(n:Int)):=S;replace p2:qj 4 = .int .i64 (64*(n:Int)+64):=p2;have a7:=qa c8;unfold zm;simp only[putL];go_simp;exact⟨Upd.refl _ _,rfl⟩
    ·rintro qj E K ⟨m,S,-⟩;replace m:qj 0 = .agg cv:=m;replace S:qj 5 = .string bl:=S;unfold zm;simp only[putL];go_simp;refine(qa HC E).mono ?_;rintro e w6 ⟨rfl,n6⟩;exact⟨_,rfl,n6,rfl⟩
    ·rintro qj E K ⟨m,-⟩;replace m:qj 6 = .tuple #[.agg (d.map (Value.int .u64)).toArray,.bool true]:=m;generalize (d.map (Value.int .u64)).toArray=dv at m ⊢;unfold zm;simp only[putL];go_simp;exact⟨Upd.refl _ _,rfl⟩
    ·rintro qj E K ⟨m,-⟩;replace m:qj 7 = .tuple #[.agg (d.map (Value.int .u64)).toArray,.bool true]:=m;generalize (d.map (Value.int .u64)).toArray=dv at m ⊢;unfold zm;simp only[putL];go_simp;exact⟨Upd.refl _ _,rfl⟩
    ·rintro qj E K ⟨m,-⟩;replace m:qj 7 = .tuple #[.agg (d.map (Value.int .u64)).toArray,.bool true]:=m;generalize (d.map (Value.int .u64)).toArray=dv at m ⊢;unfold zm;simp only[putL];go_simp;exact⟨Upd.refl _ _,rfl⟩
    ·intro qj E;rfl
    ·rintro qj E g T cs e1 hg f4 ⟨-,S,-⟩;replace S:qj 8 = .agg (d.map (Value.int .u64)).toArray:=S;have c4:=qdf (o:=0) (n:=8) (A:=(d.map (Value.int .u64)).toArray) hg (by omega) (by simp[d8]) (by simp[Value.oneCell']);generalize (d.map (Value.int .u64)).toArray=dv at S c4 ⊢;unfold zm;simp only[putL];go_simp
    ·rintro qj E K ⟨m,-⟩;replace m:qj 9 = .bool true:=m;unfold zm;simp only[putL];go_simp;exact⟨Upd.refl _ _,rfl⟩
   ·intro qj E g T n5 d2 f5 hg hv;have c5:qj 12 = .bool true:=hv 12 (by decide) (by decide) (by decide);clear hv;simp only[putL,d2,c5];clear d9 e0 e2 e3 d6 d7;go_simp;have a6:=n5.old hb (fun h=>h);have u5:=ur.then n5 (fun _ _ h=>h.elim);clear c3 hb HC n5 ur;go_upto_region 7 with fail;refine wp_region_lit ?_;refine wpList_load_row rfl _ _ rfl g rfl T _ _ _ hg Tryz.underlying175 rfl (by rw[List.size_toArray,List.length_map,d8];exact Tryz.infoR8) ?_;refine wpList_store_row rfl _ _ _ rfl B (d.map (Value.int .u64)).toArray rfl rfl TH _ a6 (by rw[List.size_toArray,List.length_map,d8];exact Tryz.infoR8) (by simp[d8,b8]) (by simp[Value.oneCell']) ?_;have hF:=setRow_heap E B _ (d.map (Value.int .u64)).toArray TH (0,0) a6;have u6:=u5.setRow (g:=B) (fun _=>rfl) (d.map (Value.int .u64)).toArray;generalize E.setRow B (d.map (Value.int .u64)).toArray=w6 at hF u6 ⊢;clear hg a6 u5;go_wp2;go_roundw
    case rel=>exact⟨n+1,d,by congr 1,by omega,d8,du,O,⟨TH,hF⟩,u6⟩
    case measure=>simp[intOf];omega
  ·have he:64*n=p.size:=by omega
   have Z:=qa HE;rw[show (p.size-64*n) / 64=0 by omega] at Z;have Y:qek s=qfw f 32:=by rw[qa V,←Z];rfl
   have b7:=qb Y;clear Y Z HE V;have d5:¬64*(n:Int)<(p.size:Int):=by omega
   have e8:=ur.size;have U:=ur.old vR (by omega);have nB:=nA.then ur (fun q hq e=>by omega);clear vR nA ur;obtain⟨z,rfl⟩:∃z:World,z=wr:=⟨_,rfl⟩;go_upto_region 8 with fail;refine wp_region_lit ?_;refine zg rfl (v:= .agg z32) (w':=z) (by kernel_rfl) ?_;refine zg rfl (v:= .pointer (some ⟨z.heap.size,0,none⟩)) (w':=z.alloc (.cells z32 35)) (by kernel_rfl) ?_;have n2:qu z (z.alloc (.cells z32 35)):=(Upd.refl _ _).alloc _;have F:(z.alloc (.cells z32 35)).heap[z.heap.size]? = some (.cells z32 35 (0,0)):=qh _ _;generalize z.alloc (.cells z32 35)=E at n2 F ⊢;refine wpList_store_row rfl _ _ _ rfl z.heap.size z32 rfl rfl 35 _ F (by kernel_rfl) (by kernel_rfl) (by kernel_rfl) ?_;have J:(E.setRow z.heap.size z32).heap[z.heap.size]? = some (.cells z32 35 (0,0)):=setRow_heap E z.heap.size _ z32 35 (0,0) F;have N:qu z (E.setRow z.heap.size z32):=n2.setRow (fun h=>by omega) _;generalize E.setRow z.heap.size z32=w6 at J N ⊢;have vO:qbd .u8 w6 z.heap.size (List.replicate 32 0):=⟨_,J⟩;have e7:=vO.lt;have e6:B<z.heap.size:=hH.lt;replace hH:=hH.upd N (fun h=>h);replace U:=N.old U (fun h=>h);replace nB:=nB.trans N;generalize z.heap.size=C at vO e6 e7 ⊢;clear n2 F J N;go_wp2_with fail
   go_loopw [9] (fun iv wr=>∃i:Nat,iv = .int .i64 (i:Int)∧i≤32∧qbd .u8 wr C (qfw f i)∧Upd (fun k=>k=C) w6 wr) (fun iv _=>32-(intOf iv).toNat)
   case atStart=>exact⟨0,rfl,by omega,by rw[qhu];exact vO,Upd.refl _ _⟩
   case round =>
    obtain⟨i,rfl,hi,X,ur⟩:=hrel;by_cases e9:i<32
    ·have c0:wr.cell? ⟨B,i / 4,none⟩=some (.int .u64 (wd f (i / 4))):=(hH.upd ur (by omega)).cell (by omega);obtain⟨a0,d1⟩:=b3.at (i / 4);obtain⟨v1,c1⟩:∃v,wr.cell? ⟨C,i,none⟩=some v:=⟨_,X.cell (by rw[qgw];omega)⟩;have z1:=X.free i;have f1:(i:Int)<32:=by omega
     have d3:IntKind.i64.wrap ((i:Int) / 4)=(i:Int) / 4:=IntWalk.i64_in _ (by omega);have d4:((i:Int) / 4).toNat=i / 4:=by omega
     have f2:(0:Int)≤(i:Int) / 4:=by omega
     have f3:(i:Int) / 4<8:=by omega
     have I:=X.set i (byI f i);rw[←qht] at I;have O:=qb I;clear I;have hq:byI f i=wd f (i / 4) / 2 ^ (24-8*((i:Int)%4)).toNat%256:=by
      unfold byI;rw[show (24-8*((i:Int)%4)).toNat=24-8*(i%4) by omega]
     have R:∀W,Calls Tryz.prog 96 #[.int .u64 (wd f (i / 4)),.int .i64 (24-8*((i:Int)%4))] W fun e w'=>e = .returned (.int .u64 (wd f (i / 4) / 2 ^ (24-8*((i:Int)%4)).toNat))∧W=w' :=
      fun W=>qjr (wd f (i / 4)) (24-8*((i:Int)%4)) W a0 (by omega) (by omega) (by omega)
     have c2:0≤wd f (i / 4) / 2 ^ (24-8*((i:Int)%4)).toNat∧wd f (i / 4) / 2 ^ (24-8*((i:Int)%4)).toNat<4294967296:=by
      have hp:(1:Int)≤2 ^ (24-8*((i:Int)%4)).toNat:=Int.pow_pos (by decide);refine⟨Int.ediv_nonneg a0 (by omega),?_⟩;exact Int.lt_of_le_of_lt (Int.ediv_le_self _ a0) d1
     generalize wd f (i / 4) / 2 ^ (24-8*((i:Int)%4)).toNat=q at R hq c2;generalize wd f (i / 4)=x at c0 R;have d0:=qb R;rw[hq] at O;have us:=qb (ur.set1 i (.int .u8 (q%256)));clear R hq;obtain⟨q0,q1⟩:=c2;go_wp2_with fail;refine(qa d0 _).mono ?_;rintro e w' ⟨rfl,rfl⟩;go_wp2;clear d3 d4;go_roundw
     case rel=>exact⟨i+1,by go_num,by omega,qa O,qa us⟩
     case measure=>simp[intOf];omega
    ·obtain rfl:i=32:=by omega
     rw[show ((32:Nat):Int)=32 from rfl];have b6:=ur.old U (by omega);have nn:=nB.then ur (by intro q hq h;omega);have H:=qgw f 32;generalize L:qfw f 32=bs at X H;have c9:=qb L;clear L U nB ur vO;obtain⟨TO,X⟩:=X;go_upto_region 13 with fail;refine wp_region_lit ?_;refine wpList_load_row rfl _ _ rfl C rfl TO _ _ _ X Tryz.underlying35 rfl (by rw[List.size_toArray,List.length_map,H];exact Tryz.infoHash) ?_;refine wpList_store_row rfl _ _ _ rfl w.heap.size (bs.map (Value.int .u8)).toArray rfl rfl 35 _ b6 (by rw[List.size_toArray,List.length_map,H];exact Tryz.infoHash) (by have h9:z32.size=32:=rfl;rw[h9];simp[H]) (by simp[Value.oneCell']) ?_;have hF:=setRow_heap wr w.heap.size _ (bs.map (Value.int .u8)).toArray 35 (0,0) b6;have nF:=nn.setRow (g:=w.heap.size) (fun h=>by omega) (bs.map (Value.int .u8)).toArray;generalize wr.setRow w.heap.size (bs.map (Value.int .u8)).toArray=wF at hF nF ⊢;clear nn X b6;go_wp2_with fail;refine bodyPost_ret (results_cell_row rfl _ _ w.heap.size 35 _ _ _ rfl hF Tryz.underlying35 rfl (by rw[List.size_toArray,List.length_map,H];exact Tryz.infoHash)) rfl ?_;exact⟨by rw[qa b7,qa c9],nF⟩
end
section
open Go.RowKit
attribute [local go_sem ↓ high] zl qaa qad qam
attribute [local go_sem] qbf qci qcj qv
theorem q8t(x y:Int)(w:World):(qyx #[(0,.int .u8 x),(1,.int .u8 y)]).run Tryz.prog w = .ok (.agg (qs (x::y::List.replicate 30 0)).toArray) w:=run_build w _ _ _ (by kernel_rfl)
theorem q2v(p:List Int)(H:p.length=32)(w:World):Calls Tryz.prog 12 #[.agg (qs p).toArray] w (qa1 (.agg (qs (ofI p)).toArray) w):=by
 have F:(ofI p).length=32:=qb5 _;go_enter Tryz.func12,Tryz.ntmps12;go_upto_region 1 with fail;have E:=(qb4 w p H).new ((Upd.refl _ _).alloc (.cells (qs ze).toArray 35));have z:=qb4 (w.alloc (.cells (qs p).toArray 35)) ze ql;rw[World.size_alloc] at z;have I:qu w ((w.alloc (.cells (qs p).toArray 35)).alloc (.cells (qs ze).toArray 35)):=((Upd.refl _ _).alloc _).alloc _;generalize (w.alloc (.cells (qs p).toArray 35)).alloc (.cells (qs ze).toArray 35)=w1 at E z I ⊢;obtain⟨A,v⟩:∃A,A=w.heap.size:=⟨_,rfl⟩;obtain⟨B,C⟩:∃B,B=w.heap.size+1:=⟨_,rfl⟩;rw[←C] at z ⊢;rw[←v] at E ⊢;have O:w.heap.size≤B:=by omega
 clear v C;have q:(convert 95 9 (.slice (some ⟨A,0,none⟩) 32 32)).run Tryz.prog w1 = .ok (.string (strOfNums p)) w1 :=
  qc5 w1 _ _ _ Tryz.underlying95 Tryz.underlying5 Tryz.underlying9 A 32 _ _ _ 32 H E.at_
 have f:Calls Tryz.prog 50 #[.string (strOfNums p)] w1 (fun e w'=>e = .returned (.agg (qs (ofI p)).toArray)∧qu w1 w'):=q76 (strOfNums p) w1 (by rw[strOfNums_size,H];omega);have L:=qb z;clear E z;generalize ofI p=K at *
 go_wp2_with fail;refine f.mono ?_;rintro e S ⟨rfl,J⟩;have m:=(qa L).new J;have R:=m.stOk K F;have M:=qb (m.put K F);have N:=qb ((I.trans J).then (qx (w:=S) (b:=B) (qs K)) (fun i T e=>by omega));clear m I J f q;go_wp2_with fail;have P:=qa M;exact bodyPost_ret (results_cell_row rfl _ _ B _ _ _ _ rfl P.at_ Tryz.underlying35 rfl (by rw[List.size_toArray,qaj,F];exact Tryz.infoHsh)) rfl ⟨rfl,qa N⟩
def qmp(x:Int):List Int:=x::List.replicate 31 0
def zaa(ours cap:Int):SetupV:=⟨7,cap,ours,qmp 1,⟨#[97]⟩,⟨#[98]⟩⟩
def zem(ours cap:Int):SetupV:=⟨7,cap,IntKind.u64.wrap (cap-ours),qmp 2,⟨#[98]⟩,⟨#[97]⟩⟩
def q4b(p:Array (Nat × Value)):Sem Value:=Instr.build 78 p
theorem qmb(p:Array (Nat × Value)):Instr.build 78 p=q4b p:=rfl
theorem q8w(ours cap:Int)(w:World):(q4b #[(0,.int .u32 7),(1,.int .u64 cap),(2,.int .u64 ours),(3,.agg (qs (qmp 1)).toArray),(4,.string ⟨#[97]⟩),(5,.string ⟨#[98]⟩)]).run Tryz.prog w = .ok (.agg (zaa ours cap).cells.toArray) w:=run_build w _ _ _ (by kernel_rfl)
theorem q8x(o cap:Int)(w:World):(q4b #[(0,.int .u32 7),(1,.int .u64 cap),(2,.int .u64 o),(3,.agg (qs (qmp 2)).toArray),(4,.string ⟨#[98]⟩),(5,.string ⟨#[97]⟩)]).run Tryz.prog w = .ok (.agg (SetupV.cells ⟨7,cap,o,qmp 2,⟨#[98]⟩,⟨#[97]⟩⟩).toArray) w:=run_build w _ _ _ (by kernel_rfl)
def zav(p:Array (Nat × Value)):Sem Value:=Instr.build 97 p
theorem qmc(p:Array (Nat × Value)):Instr.build 97 p=zav p:=rfl
def zdz(a b:SetupV):List Value:=a.cells++b.cells
theorem Tryz.infoSt2:(Tryz.prog.info? 97).map (·.size)=some 74:=by kernel_rfl
def zbk(x v:Value):Sem Unit:=Instr.storeAt 97 x v
theorem qjb(x v:Value):Instr.storeAt 97 x v=zbk x v:=rfl
theorem qye(b o:Nat)(A:Array Value)(w:World):(zbk (.pointer (some ⟨b,o,none⟩)) (.agg A)).run Tryz.prog w=if stOk w b o 74 A=true then .ok () (w.setCells b o A.toList) else qd3 Tryz.prog 97 w b o A :=
 qap 97 74 Tryz.infoSt2 b o A w
def zeo:List Value:=ql3++ql3
def zau:Sem Value:=Instr.alloc 97 true (.tuple #[])
theorem qip:Instr.alloc 97 true (.tuple #[])=zau:=rfl
theorem qv5(w:World):zau.run Tryz.prog w = .ok (.pointer (some ⟨w.heap.size,0,none⟩)) (w.alloc (.cells zeo.toArray 97)):=by kernel_rfl
theorem zbu(m f p i:Int)(w:World):(zav #[(0,.agg (zaa m f).cells.toArray),(1,.agg (SetupV.cells ⟨7,i,p,qmp 2,⟨#[98]⟩,⟨#[97]⟩⟩).toArray)]).run Tryz.prog w = .ok (.agg (zdz (zaa m f) ⟨7,i,p,qmp 2,⟨#[98]⟩,⟨#[97]⟩⟩).toArray) w:=run_build w _ _ _ (by kernel_rfl)
attribute [local go_sem ↓ high] qmb qmc qjb qip
attribute [local go_sem] zbu qye qv5 q8w q8x
end
section
open Go.RowKit
theorem q3g{c:Ch}(h:qei c=0):c.sign=((c.signing.say (qcm c)).turned,(qcm c).on c.s.ch,0):=by unfold Ch.sign;rw[if_pos h]
theorem qps{c:Ch}{m:MsgV}(f:qa8 3 c.xs=true)(i:m.number=c.k.heard+1)(p:qj8 c m=false):c.hearSign m=(c.signedBy,[c.signedBy.revocation],0):=by
 have h:qcu c m=0:=by
  unfold qcu;rw[f,p,if_neg (by decide),if_neg (fun h=>h i),if_neg (by decide)]
 unfold Ch.hearSign;rw[if_pos h]
def a0:Ch:=Ch.new (zaa 10 10)
def b0:Ch:=Ch.new (zem 10 10)
section
variable (hv:Vector Int 32)
def a1:Ch:=(a0.offer 4 hv 9).1
def m1:MsgV:=(a0.offer 4 hv 9).2.1
def b1:Ch:=(b0.hearAdd (m1 hv)).1
noncomputable def a2:Ch:=(a1 hv).sign.1
noncomputable def b2:Ch:=(b1 hv).signedBy
noncomputable def a3:Ch:=((a2 hv).hearRevoke ⟨7,7,0,0,qc2 (qmp 2) 65535 16,0,0⟩).1
end
attribute [local go_sem ↓ high] zl qaa qad qam qy qz zb zf qmb qmc qjb qip qb2
attribute [local go_sem] qbf qci qcj qdh qv qas qat qax qye qv5 qee q0z q00
end
section
open Go.RowKit
section
variable {w0 w w':World}{p gA gB:Nat}{SA SB:Nat→Prop}{a b a' b':Ch}{wa wb:List MsgV}{ua ub:Value}{bad:Bool}
end
attribute [local go_sem ↓ high] qjb qip qb2
attribute [local go_sem] qv qye qv5 qee
end
section
open Go.RowKit
section
variable {w0 w wD w':World}{p gA gB:Nat}{SA SB S:Nat→Prop}{a b a' b':Ch}{wa wb:List MsgV}{ua ub:Value}{bad:Bool}
end
attribute [local go_sem ↓ high] qy qz zb zf qae
attribute [local go_sem] qas qat qax qck qv
end
section
open Go.RowKit
theorem q81(w:World):(q4j 0 #[]).run Tryz.prog w = .ok (.slice (some ⟨w.heap.size,0,none⟩) 0 0) (w.alloc (.cells #[] 101)):=by
 obtain⟨i,z,m,q,v⟩:=qcn Tryz.zeroMsg;have f:i.size=38:=by have:=Tryz.infoMsg;rw[m] at this;simpa using this
 show (Instr.buildSlice 124 0 #[]).run Tryz.prog w=_;simp[Instr.buildSlice,run_underlying Tryz.underlying124,sizeOf,typeInfo,zeroValue,m,q,f,Instr.fill,newRow];rw[Array.eq_empty_of_size_eq_zero (xs:=Array.map _ (Array.range 0)) (by simp)]
section
variable {w0 w:World}{p gA gB:Nat}{SA SB:Nat→Prop}{a b:Ch}{wa wb:List MsgV}{ua ub:Value}{bad:Bool}
end
attribute [local go_sem ↓ high] qy qz zb zf qae
attribute [local go_sem] qas qat qax qck q81 qv
end
section
open Go.RowKit
section
variable {w0 w w':World}{p K:Nat}{S T:Nat→Prop}{a b a' b':Ch}{wa wb wa' wb':List MsgV}{bad bad':Bool}{m m':MsgV}
end
theorem qqk(i:Nat){k p d:Nat}(f:k≤p)(q:p≤d):hiB i d k=hiB i d p++hiB i p k:=by
 unfold hiB;rw[←List.filter_append,←List.reverse_append];congr 2;have e:=List.range'_append_1 (s:=k) (m:=p-k) (n:=d-p);rw[show k+(p-k)=p by omega,show p-k+(d-p)=d-k by omega] at e;exact e.symm
theorem q59{i p:Nat}(h:∀b,b<p→i.testBit b=false):hiB i p 0=[]:=by
 unfold hiB;rw[List.filter_eq_nil_iff];intro b f;rw[List.mem_reverse,List.mem_range'_1] at f;rw[h b (by omega)];decide
theorem q58{f t d p:Nat}(h:f / 2 ^ p=t / 2 ^ p):hiB f d p=hiB t d p:=by
 unfold hiB;refine List.filter_congr fun b q=> ?_
 rw[List.mem_reverse,List.mem_range'_1] at q;have i:=Nat.testBit_div_two_pow (n:=p) f (b-p);have m:=Nat.testBit_div_two_pow (n:=p) t (b-p);rw[show b-p+p=b by omega] at i m;rw[←i,←m,h]
theorem q2n{f:Int}(q:qcy f=true):∀b,b<qbm f→f.toNat.testBit b=false:=by
 intro b i;unfold qbm at i;rw[if_pos q] at i;by_cases p:f.toNat=0
 ·rw[p];exact Nat.zero_testBit b
 ·have C:=qlw q;obtain⟨m,v,-⟩:=Lib.ctzFrom_spec 64 f.toNat (by omega) (by omega);have e:Lib.ctz 64 f.toNat=Lib.ctzFrom 64 f.toNat:=by unfold Lib.ctz;rw[if_neg p]
  rw[e] at i;generalize Lib.ctzFrom 64 f.toNat=z at i v;rw[v,Nat.testBit_two_pow_mul];simp only[Bool.and_eq_false_imp,decide_eq_true_eq];intro h;omega
theorem qtv(h:List Int){f t:Int}(m:qkm f t=true):qcg (qc4 h f).1 f t=((qc4 h t).1,0):=by
 have i:=m;unfold qkm at i;simp only[Bool.and_eq_true,beq_iff_eq] at i;obtain⟨p,v,hd⟩:=i;have q:=qjn f;unfold qcg qc4;rw[if_pos m,if_pos p,if_pos v];have e:qc2 (qc2 h f.toNat 16) t.toNat (qbm f)=qc2 h t.toNat 16:=by
  unfold qc2;rw[←List.foldl_append,qqk t.toNat (Nat.zero_le _) q,qqk f.toNat (Nat.zero_le _) q,q59 (q2n p),q58 hd,List.append_nil]
 rw[e]
def zeb(h:List Int)(k:KeptV):Prop:=qbg k.told∧(k.full=true→k.told=(qc4 h k.number).1)
def qft(h:List Int)(ps:List KeptV):Prop:=∀k∈ps,zeb h k
theorem qq9(h:List Int):qft h (List.replicate 17 .zero):=by
 intro k f;rw[List.eq_of_mem_replicate f];exact⟨qca,fun h=>by cases h⟩
theorem qmo(h:List Int)(f:qbg h)(i:Int):qbg (qc4 h i).1:=by
 unfold qc4;split
 ·exact qko h f _ _
 ·exact qca
theorem qxx{h:List Int}{i:Int}{k:KeptV}(m:k.told=(qc4 h k.number).1):qgt (qc4 h i).1 i k=false:=by
 unfold qgt;cases f:qkm i k.number with
 | false =>
  have e:qcg (qc4 h i).1 i k.number=(ze,1):=by unfold qcg;rw[if_neg (by rw[f];decide)]
  rw[e];rfl
 | true =>
  rw[qtv h f,m];simp
theorem q0b{i:Int}(h:qcy i=true):qkm i i=true:=by
 unfold qkm;rw[h];simp
theorem zb9{h:List Int}{i:Int}{ps:List KeptV}(m:qcy i=true)(q:qft h ps):qeu (qc4 h i).1 i ps=0:=by
 have e:qk0 (qc4 h i).1 i (ps.take (qbm i))=none:=by
  unfold qk0;rw[List.find?_eq_none];intro k p;cases f:k.full with
  | false=>simp
  | true =>
   rw[qxx ((q k (List.mem_of_mem_take p)).2 f)];decide
 unfold qeu;rw[q0b m,e];rfl
theorem q6c{h:List Int}(m:qbg h){i:Int}{ps:List KeptV}(f:qft h ps):qft h (qlq (qc4 h i).1 i ps):=by
 unfold qlq;split
 ·intro k p;rcases List.mem_or_eq_of_mem_set p with e | e
  ·exact f k e
  ·rw[e];exact⟨qmo h m i,fun _=>rfl⟩
 ·exact f
section
variable {c:Ch}{m:MsgV}
theorem q9m(p:qaf m=true)(f:m.ch=c.s.ch)(i:m.kind=3):c.hear m=((c.hearAdd m).1,[],(c.hearAdd m).2):=by
 unfold Ch.hear;rw[if_neg (by rw[p,f];simp),if_pos i]
theorem q9n(p:qaf m=true)(f:m.ch=c.s.ch)(i:m.kind=6):c.hear m=c.hearSign m:=by
 unfold Ch.hear;rw[if_neg (by rw[p,f];simp),if_neg (by omega),if_neg (by omega),if_neg (by omega),if_pos i]
theorem q9o(p:qaf m=true)(f:m.ch=c.s.ch)(i:m.kind=7):c.hear m=((c.hearRevoke m).1,[],(c.hearRevoke m).2):=by
 unfold Ch.hear;rw[if_neg (by rw[p,f];simp),if_neg (by omega),if_neg (by omega),if_neg (by omega),if_neg (by omega),if_pos i]
end
theorem q03(l:List Live):∀c:Ch,(∀z∈l,z.state≠9)→l.foldl qct c=c:=by
 induction l with
 | nil=>intro c _;rfl
 | cons z l i =>
  intro c h;rw[List.foldl_cons,show qct c z=c by unfold qct;rw[if_neg (h z (List.mem_cons_self ..))],i c fun y f=>h y (List.mem_cons_of_mem _ f)]
theorem qji{c:Ch}{ev:Int}{L:List Live}(h:qal ev c.xs=L)(f:∀z∈L,z.state≠9):c.goOn ev = {c with xs:=L} := by
 unfold Ch.goOn;rw[h,q03 L c f];have:qff L=L:=by
  unfold qff;rw[List.filter_eq_self];intro z i;have:=f z i;simpa using this
 rw[this]
section
variable {s:SetupV}{sg hd no nt x y k:Int}{f1 f2 rv aw:Bool}{L L1 L2:List Live}{z:Live}{sh:List KeptV}{nw la:List MsgV}{T:List Int}
theorem zcr(v:sg≠65535)(p:qa8 1 L=true)(i:qal 1 L=L1)(f:∀z∈L1,z.state≠9) :
  (Ch.mk s ⟨sg,hd,false,no,nt,f1,f2,rv⟩ x y L sh nw la).sign=(Ch.mk s ⟨sg+1,hd,true,no,nt,f1,f2,false⟩ x y L1 sh [] (nw++[⟨6,s.ch,0,0,qbo false s.key s.ch (sg+1) x y L1,0,sg+1⟩]),⟨6,s.ch,0,0,qbo false s.key s.ch (sg+1) x y L1,0,sg+1⟩,0):=by
 have e:qei (Ch.mk s ⟨sg,hd,false,no,nt,f1,f2,rv⟩ x y L sh nw la)=0:=by
  unfold qei;rw[if_neg (by simp),if_neg (by rw[p];simp),if_neg v]
 have g:(Ch.mk s ⟨sg,hd,false,no,nt,f1,f2,rv⟩ x y L sh nw la).signing=Ch.mk s ⟨sg+1,hd,true,no,nt,f1,f2,false⟩ x y L1 sh nw la:=by
  unfold Ch.signing;rw[qji (L:=L1) i f]
 have q:qcm (Ch.mk s ⟨sg,hd,false,no,nt,f1,f2,rv⟩ x y L sh nw la)=⟨6,0,0,0,qbo false s.key s.ch (sg+1) x y L1,0,sg+1⟩:=by
  unfold qcm;rw[g]
 rw[q3g e,g,q]
 generalize qbo false s.key s.ch (sg+1) x y L1=T
 rfl
theorem zcs(c:Ch)(h:c.k.awaits=true∨qa8 1 c.xs=false):c.sign=(c,MsgV.zero,5):=by
 refine qvo ?_ (by decide);unfold qei;by_cases f:c.k.awaits=true
 ·rw[if_pos f]
 ·rw[if_neg f,if_pos (h.resolve_left f)]
theorem zcq(f:0≤hd):(Ch.mk s ⟨sg,hd+1,aw,no,nt,f1,f2,true⟩ x y L sh nw la).revocation=⟨7,s.ch,0,0,(qc4 s.seed (65535-hd)).1,0,hd⟩:=by
 unfold Ch.revocation;have e:(Ch.mk s ⟨sg,hd+1,aw,no,nt,f1,f2,true⟩ x y L sh nw la).secret hd=qc4 s.seed (65535-hd):=by
  unfold Ch.secret;rw[if_neg (by show ¬(hd<0∨hd+1≤hd);omega)]
 show (⟨7,s.ch,0,0,((Ch.mk s ⟨sg,hd+1,aw,no,nt,f1,f2,true⟩ x y L sh nw la).secret (hd+1-1)).1,0,hd+1-1⟩:MsgV)=_;rw[show hd+1-1=hd by omega,e]
theorem zb8(H:0≤hd)(F:qa8 3 L=true)(p:qal 3 L=L1)(f:∀z∈L1,z.state≠9)(C:qal 4 L1=L2)(i:∀z∈L2,z.state≠9)(E:T=qbo true s.peer s.ch (hd+1) x y L1) :
  (Ch.mk s ⟨sg,hd,aw,no,nt,f1,f2,rv⟩ x y L sh nw la).hearSign ⟨6,s.ch,0,0,T,0,hd+1⟩=(Ch.mk s ⟨sg,hd+1,aw,no,nt,f1,f2,true⟩ x y L2 sh nw la,[⟨7,s.ch,0,0,(qc4 s.seed (65535-hd)).1,0,hd⟩],0):=by
 have e:qj8 (Ch.mk s ⟨sg,hd,aw,no,nt,f1,f2,rv⟩ x y L sh nw la) ⟨6,s.ch,0,0,T,0,hd+1⟩=false:=by
  unfold qj8;show (T != qbo true s.peer s.ch (hd+1) x y (qal 3 L))=false;rw[p,E];exact bne_self_eq_false _
 have g:(Ch.mk s ⟨sg,hd,aw,no,nt,f1,f2,rv⟩ x y L sh nw la).signedBy=Ch.mk s ⟨sg,hd+1,aw,no,nt,f1,f2,true⟩ x y L2 sh nw la:=by
  have q:(Ch.mk s ⟨sg,hd,aw,no,nt,f1,f2,rv⟩ x y L sh nw la).goOn 3=Ch.mk s ⟨sg,hd,aw,no,nt,f1,f2,rv⟩ x y L1 sh nw la:=qji (L:=L1) p f;have v:(Ch.mk s ⟨sg,hd+1,aw,no,nt,f1,f2,rv⟩ x y L1 sh nw la).goOn 4=Ch.mk s ⟨sg,hd+1,aw,no,nt,f1,f2,rv⟩ x y L2 sh nw la:=qji (L:=L2) C i;unfold Ch.signedBy;rw[q];show ((Ch.mk s ⟨sg,hd+1,aw,no,nt,f1,f2,rv⟩ x y L1 sh nw la).goOn 4).revokes=_;rw[v];rfl
 rw[qps F rfl e,g,zcq H]
theorem q9s{c:Ch}{R:List Int}{ch:Int}(f:c.k.awaits=true)(i:c.k.signed=k+1)(p:qeu R (65535-k) c.shelf=0):c.hearRevoke ⟨7,ch,0,0,R,0,k⟩=(((c.shelved ⟨7,ch,0,0,R,0,k⟩).goOn 2).unawait,0):=by
 have e:ql1 c ⟨7,ch,0,0,R,0,k⟩=0:=by
  unfold ql1;rw[if_neg (by rw[f];decide),if_neg (by rw[i];show ¬(k≠k+1-1);omega),if_neg (by show ¬(qeu R (65535-k) c.shelf≠0);rw[p];decide)]
 unfold Ch.hearRevoke;rw[if_pos e]
theorem zb7{R:List Int}{ch:Int}(p:qeu R (65535-k) sh=0)(f:qal 2 L=L1)(i:∀z∈L1,z.state≠9) :
  (Ch.mk s ⟨k+1,hd,true,no,nt,f1,f2,rv⟩ x y L sh nw la).hearRevoke ⟨7,ch,0,0,R,0,k⟩=(Ch.mk s ⟨k+1,hd,false,no,nt,f1,f2,rv⟩ x y L1 (qlq R (65535-k) sh) nw la,0):=by
 rw[q9s rfl rfl p]
 rw[qji (L:=L1) (by exact f) i]
 rfl
end
section
variable {a b a1 b1 a2 b2:Ch}{wa wb wa1 wb2 l0 l1:List MsgV}{bad g0 g1:Bool}{Ma Mb:MsgV}{Ea Eb:Int}{n:Nat}
end
structure Duo(s t:SetupV):Prop where
 ch:s.ch=t.ch
 chb:0≤s.ch∧s.ch<4294967296
 k1:s.key=t.peer
 k2:s.peer=t.key
 s1:s.key.size≤1000
 s2:t.key.size≤1000
 sl:s.seed.length=32
 tl:t.seed.length=32
 sb:qbg s.seed
 tb:qbg t.seed
theorem Duo.symm{s t:SetupV}(D:Duo s t):Duo t s:=⟨D.ch.symm,D.ch▸D.chb,D.k2.symm,D.k1.symm,D.s2,D.s1,D.tl,D.sl,D.tb,D.sb⟩
def qlo(j n:Int)(h:Vector Int 32)(e:Int)(ow:Bool)(st:Int)(pd:Bool):Live:=⟨⟨j,n,h,e⟩,ow,st,pd⟩
noncomputable def qwy(s:SetupV)(k x y:Int)(xs:List Live):MsgV:=⟨6,s.ch,0,0,qbo false s.key s.ch k x y xs,0,k⟩
def qt7(s:SetupV)(k:Int):MsgV:=⟨7,s.ch,0,0,(qc4 s.seed (65535-k)).1,0,k⟩
def qwx(s:SetupV)(j n:Int)(h:Vector Int 32)(e:Int):MsgV:=⟨3,s.ch,j,n,h.toList,e,0⟩
def qt6(s:SetupV)(j:Int)(p:List Int):MsgV:=⟨4,s.ch,j,0,p,0,0⟩
def q5x(s:SetupV)(j r:Int):MsgV:=⟨5,s.ch,j,0,ze,0,r⟩
theorem q6y(c:Int)(T:List Int){n:Int}(f:0≤n∧n≤65535):qaf ⟨7,c,0,0,T,0,n⟩=true:=by
 unfold qaf;show (if (0:Int)<0∨1073741824<(0:Int)∨n<0∨65535<n∨1125899906842624<(0:Int) then false else decide (qfh _ _=qa9 7))=true;rw[if_neg (by omega)];kernel_rfl
theorem q6w(c i:Int)(h:List Int):qaf ⟨4,c,i,0,h,0,0⟩=true:=by kernel_rfl
theorem q6v(c i:Int){r:Int}(f:0≤r∧r≤65535):qaf ⟨5,c,i,0,ze,0,r⟩=true:=by
 unfold qaf;show (if (0:Int)<0∨1073741824<(0:Int)∨r<0∨65535<r∨1125899906842624<(0:Int) then false else decide (qfh _ _=qa9 5))=true;rw[if_neg (by omega)];kernel_rfl
section
variable {s t:SetupV}{sg hd no nt x y j n e k r:Int}{f1 f2 rv aw pd ow:Bool}{h:Vector Int 32}{L L1 L2 xs:List Live}{sh:List KeptV}{nw la:List MsgV}{p:List Int}{c:Ch}
theorem qof(i:0≤s.ch∧s.ch<4294967296)(f:0≤k∧k≤65535):SayOk (qwy s k x y xs) :=
 qf7 (by decide) i (by decide) (by decide) (qgp _ _ _ _ _ _ _) (qpj _ _ _ _ _ _ _) (by decide) f (qqu _ _ f)
theorem qoe(m:0≤s.ch∧s.ch<4294967296)(q:s.seed.length=32)(i:qbg s.seed)(f:0≤k∧k≤65535):SayOk (qt7 s k) :=
 qf7 (by decide) m (by decide) (by decide) (qlu _ q _) (qmo _ i _) (by decide) f (q6y _ _ f)
theorem qkr(q:0≤s.ch∧s.ch<4294967296)(v:0≤j∧j<18446744073709551616)(i:0≤n∧n≤1125899906842624)(m:∀b∈h.toList,0≤b∧b≤255)(f:0≤e∧e≤1073741824):SayOk (qwx s j n h e) :=
 qf7 (by decide) q v i (by simp) m f (by decide) (q6t _ i.2 f)
theorem q5z(i:0≤s.ch∧s.ch<4294967296)(m:0≤j∧j<18446744073709551616)(q:p.length=32)(f:qbg p):SayOk (qt6 s j p) :=
 qf7 (by decide) i m (by decide) q f (by decide) (by decide) (q6w _ _ _)
theorem q5y(i:0≤s.ch∧s.ch<4294967296)(m:0≤j∧j<18446744073709551616)(f:0≤r∧r≤65535):SayOk (q5x s j r) :=
 qf7 (by decide) i m (by decide) ql qca (by decide) f (q6v _ _ f)
theorem q9j(D:Duo s t)(m:qft t.seed sh)(q:hd≤65535)(f:L.length≤16):(Ch.mk s ⟨sg,hd,aw,no,nt,f1,f2,rv⟩ x y L sh nw la).Inv :=
 ⟨fun p i=>(m p i).1,by show s.peer.size≤_;rw[D.k2];have:=D.s2;omega,D.chb,by show hd<_;omega,f⟩
theorem qol{m:MsgV}(h:m.kind≠9):c.hears m=c.hear m:=by unfold Ch.hears;rw[if_neg h]
theorem zaz(D:Duo s t)(C:0≤sg∧sg≤60000)(m:qa8 1 L=true)(i:qal 1 L=L1)(f:∀z∈L1,z.state≠9)(v:nw.length≤1000)(q:L.length≤16) :
  SignC (Ch.mk s ⟨sg,hd,false,no,nt,f1,f2,rv⟩ x y L sh nw la) (Ch.mk s ⟨sg+1,hd,true,no,nt,f1,f2,false⟩ x y L1 sh [] (nw++[qwy s (sg+1) x y L1])) [qwy s (sg+1) x y L1] :=
 ⟨.inl ⟨_,zcr (by omega) m i f,rfl,qof D.chb ⟨by omega,by omega⟩⟩,by show s.key.size≤_;have:=D.s1;omega,D.chb,by show nw.length<_;omega,q⟩
theorem za1(D:Duo s t)(f:c.s=s)(h:c.k.awaits=true∨qa8 1 c.xs=false)(m:c.news.length≤1000)(i:c.xs.length≤16):SignC c c [] :=
 ⟨.inr ⟨zcs c h,rfl,rfl⟩,by rw[f];have:=D.s1;omega,by rw[f];exact D.chb,by omega,i⟩
theorem zdj(D:Duo s t)(J:0≤hd∧hd≤60000)(m:qft t.seed sh)(C:L.length≤16)(E:L2.length≤16)(I:la.length≤1000)(F:qa8 3 L=true)(q:qal 3 L=xs.map qfz)(f:∀z∈xs.map qfz,z.state≠9)(v:qal 4 (xs.map qfz)=L2)(i:∀z∈L2,z.state≠9) :
  HearC (Ch.mk s ⟨sg,hd,aw,no,nt,f1,f2,rv⟩ x y L sh nw la) (qwy t (hd+1) y x xs) (Ch.mk s ⟨sg,hd+1,aw,no,nt,f1,f2,true⟩ x y L2 sh nw la) [qt7 s hd]:=by
 refine⟨qof D.symm.chb ⟨by omega,by omega⟩,⟨by show (3:Int)≤6;decide,by show (6:Int)≤9;decide⟩,?_,q9j D m (by omega) C,by show la.length≤_;omega,(fun l H=>by rw[List.mem_singleton.1 H];exact qoe D.chb D.sl D.sb ⟨by omega,by omega⟩),by show (1:Nat)≤_;decide,by show L2.length≤_;omega⟩
 rw[qol (by show (6:Int)≠9;decide)]
 refine(q9n (qof D.symm.chb ⟨by omega,by omega⟩).may (by exact D.ch.symm) (by rfl)).trans ?_
 have e:=zb8 (s:=s) (sg:=sg) (hd:=hd) (no:=no) (nt:=nt) (x:=x) (y:=y) (f1:=f1) (f2:=f2) (rv:=rv) (aw:=aw) (sh:=sh) (nw:=nw) (la:=la) (T:=qbo false t.key t.ch (hd+1) y x xs) J.1 F q f v i (by rw[D.k2,←D.ch];exact(qpi _ _ _ _ _ _).symm)
 unfold qwy qt7
 rw[←D.ch] at e ⊢
 exact e
theorem zdi(D:Duo s t)(I:0≤sg∧sg≤60000)(f:qft t.seed sh)(E:hd≤65535)(v:L.length≤16)(C:L1.length≤16)(H:la.length≤1000)(m:qal 2 L=L1)(q:∀z∈L1,z.state≠9) :
  HearC (Ch.mk s ⟨sg+1,hd,true,no,nt,f1,f2,rv⟩ x y L sh nw la) (qt7 t sg) (Ch.mk s ⟨sg+1,hd,false,no,nt,f1,f2,rv⟩ x y L1 (qlq (qt7 t sg).hash (65535-sg) sh) nw la) []:=by
 refine⟨qoe D.symm.chb D.tl D.tb ⟨by omega,by omega⟩,⟨by show (3:Int)≤7;decide,by show (7:Int)≤9;decide⟩,?_,q9j D f E v,by show la.length≤_;omega,(fun l F=>by cases F),Nat.zero_le _,by show L1.length≤_;omega⟩
 rw[qol (by show (7:Int)≠9;decide)]
 refine(q9o (qoe D.symm.chb D.tl D.tb ⟨by omega,by omega⟩).may (by exact D.ch.symm) (by rfl)).trans ?_
 have e:=zb7 (s:=s) (hd:=hd) (no:=no) (nt:=nt) (x:=x) (y:=y) (f1:=f1) (f2:=f2) (rv:=rv) (nw:=nw) (la:=la) (ch:=t.ch) (zb9 (h:=t.seed) (i:=65535-sg) (ps:=sh) (qzg (by omega) (by omega)) f) m q
 exact congrArg (fun p:Ch × Int=>(p.1,([]:List MsgV),p.2)) e
theorem za0(D:Duo s t)(f:qft t.seed sh):qft t.seed (qlq (qt7 t sg).hash (65535-sg) sh):=q6c D.tb f
theorem qw7(h:Vector Int 32):qa5 h.toList=h:=by
 unfold qa5;rw[dif_pos (by simp)];rfl
theorem zdh(D:Duo s t)(I:1≤n∧n≤1125899906842624)(H:0≤j∧j≤60000)(J:n≤y)(F:1≤e∧e≤1073741824)(v:∀b∈h.toList,0≤b∧b≤255)(i:qft t.seed sh)(z:hd≤65535)(E:la.length≤1000) :
  HearC (Ch.mk s ⟨sg,hd,aw,no,j,f1,false,rv⟩ x y [] sh nw la) (qwx t j n h e) (Ch.mk s ⟨sg,hd,aw,no,j+1,f1,false,rv⟩ x (y-n) [qlo j n h e false 0 false] sh nw la) []:=by
 have f:SayOk (qwx t j n h e):=qkr D.symm.chb ⟨by omega,by omega⟩ ⟨by omega,by omega⟩ v ⟨by omega,by omega⟩
 refine⟨f,⟨by show (3:Int)≤3;decide,by show (3:Int)≤9;decide⟩,?_,q9j D i z (Nat.zero_le _),by show la.length≤_;omega,(fun l C=>by cases C),Nat.zero_le _,by show (1:Nat)≤_;decide⟩
 rw[qol (by show (3:Int)≠9;decide)]
 refine(q9m f.may (by exact D.ch.symm) (by rfl)).trans ?_
 have m:qa0 (Ch.mk s ⟨sg,hd,aw,no,j,f1,false,rv⟩ x y [] sh nw la) (qwx t j n h e)=0:=by
  unfold qa0;rw[if_neg (by show ¬(false=true);decide),if_neg (by show ¬(n=0);omega),if_neg (by show ¬(j≠j);omega),if_neg (by show ¬(e=0);omega),if_neg (by show ¬(8≤0);decide),if_neg (by show ¬(y<n);omega)]
 have a:(Ch.mk s ⟨sg,hd,aw,no,j,f1,false,rv⟩ x y [] sh nw la).added (qwx t j n h e)=Ch.mk s ⟨sg,hd,aw,no,j+1,f1,false,rv⟩ x (y-n) [qlo j n h e false 0 false] sh nw la:=by
  show (Ch.mk s ⟨sg,hd,aw,no,IntKind.u64.wrap (j+1),f1,false,rv⟩ x (y-n) [⟨⟨j,n,qa5 h.toList,e⟩,false,0,false⟩] sh nw la)=_;rw[qw7,qel (by omega) (by omega)];rfl
 have q:(Ch.mk s ⟨sg,hd,aw,no,j,f1,false,rv⟩ x y [] sh nw la).hearAdd (qwx t j n h e)=(Ch.mk s ⟨sg,hd,aw,no,j+1,f1,false,rv⟩ x (y-n) [qlo j n h e false 0 false] sh nw la,0):=by
  unfold Ch.hearAdd;rw[if_pos m,a]
 exact congrArg (fun p:Ch × Int=>(p.1,([]:List MsgV),p.2)) q
theorem qtm:qdc ow j [qlo j n h e ow 4 false]=some (0,qlo j n h e ow 4 false):=by
 unfold qdc;have:qfv ow j (qlo j n h e ow 4 false)=true:=by simp[qfv,qlo]
 simp[List.findIdx?_cons,this]
end
structure En where
 c:Ch
 t:Nat
 wt:Bool
 w:List MsgV
 o:List MsgV
 es:List EvV
structure StE(A:En)(n:Nat)(l:Lk)(way:ByteArray)(es:List EvV):Prop where
 l:LkC l A.c A.t A.wt (zz A.o ⟨#[]⟩) ⟨#[]⟩ n
 way:way=zz A.w ⟨#[]⟩
 es:es=A.es
 sw:∀m∈A.w,SayOk m
 so:∀m∈A.o,SayOk m
 lw:A.w.length≤200
 lo:A.o.length≤200
structure StP(A B:En)(n:Nat)(P:Pw):Prop where
 a:StE A n (P.l 0) (P.way 0) (P.es 0)
 b:StE B n (P.l 1) (P.way 1) (P.es 1)
 bad:P.bad=false
 n:n≤900000
theorem StE.mono{A:En}{n m:Nat}{l:Lk}{way:ByteArray}{es:List EvV}(h:StE A n l way es)(f:n≤m):StE A m l way es:=⟨h.l.mono f,h.way,h.es,h.sw,h.so,h.lw,h.lo⟩
theorem qbr{M:List MsgV}(h:∀m∈M,SayOk m)(f:M.length≤1000):(zz M ⟨#[]⟩).size≤2000000:=by
 have:=qhg ⟨#[]⟩ M h ⟨#[]⟩;have e:(⟨#[]⟩:ByteArray).size=0:=rfl;omega
theorem q9f(s:ByteArray):s.extract 0 s.size=s:=bx (by rw[qr1,List.drop_zero,Nat.sub_zero,List.take_of_length_le (by rw[qjh];exact Nat.le_refl _)])
theorem q9g(s:ByteArray):s.extract s.size s.size=⟨#[]⟩:=bx (by rw[qr1,Nat.sub_self,List.take_zero])
def En.heard(A:En)(c:Ch)(wt:Bool)(es:List EvV)(s:List MsgV):En:= {A with c:=c,wt:=wt,es:=es,w:=[],o:=A.o++s}
def En.goes(A B:En):En:= {A with o:=[],w:=A.w++B.o}
theorem StP.flowOk{A B:En}{n:Nat}{P:Pw}(h:StP A B n P):FlowOk P:=by
 refine⟨fun k f=> ?_,fun k f=> ?_⟩
 ·rcases (by omega:k=0∨k=1) with rfl | rfl
  ·exact h.a.l.dead
  ·exact h.b.l.dead
 ·have a1:=qbr h.a.sw (by have:=h.a.lw;omega);have a2:=qbr h.a.so (by have:=h.a.lo;omega);have b1:=qbr h.b.sw (by have:=h.b.lw;omega);have b2:=qbr h.b.so (by have:=h.b.lo;omega);rcases (by omega:k=0∨k=1) with rfl | rfl
  ·rw[h.a.way,h.a.l.out];omega
  ·rw[h.b.way,h.b.l.out];omega
theorem qq3(o:ByteArray)(M:List MsgV):o++zz M ⟨#[]⟩=zz M o:=(q29 M o).symm
theorem StP.flow{A B:En}{n:Nat}{P:Pw}(h:StP A B n P)(i:A.w.length+B.o.length≤200∧B.w.length+A.o.length≤200):StP (A.goes B) (B.goes A) n P.flow:=by
 have wa:P.flow.way 0=P.way 0++(P.l 1).out:=rfl;have wb:P.flow.way 1=P.way 1++(P.l 0).out:=rfl;refine⟨⟨h.a.l.outs,?_,h.a.es,?_,(fun m f=>by cases f),?_,Nat.zero_le _⟩,⟨h.b.l.outs,?_,h.b.es,?_,(fun m f=>by cases f),?_,Nat.zero_le _⟩,h.bad,h.n⟩
 ·rw[wa,h.a.way,h.b.l.out];show _=zz (A.w++B.o) ⟨#[]⟩;rw[qfs,qq3]
 ·exact fun m f=>(List.mem_append.1 f).elim (h.a.sw m) (h.b.so m)
 ·show (A.w++B.o).length≤_;rw[List.length_append];omega
 ·rw[wb,h.b.way,h.a.l.out];show _=zz (B.w++A.o) ⟨#[]⟩;rw[qfs,qq3]
 ·exact fun m f=>(List.mem_append.1 f).elim (h.b.sw m) (h.a.so m)
 ·show (B.w++A.o).length≤_;rw[List.length_append];omega
theorem StE.hears{A:En}{n:Nat}{l:Lk}{way:ByteArray}{es:List EvV}(h:StE A n l way es){c:Ch}{wt:Bool}{es':List EvV}{s:List MsgV}(p:HearL A.c A.wt A.es A.w c wt es' s)(E:A.o.length+s.length≤200)(C:n≤900000) :
  ∃L,Bts {l with rest:=l.rest++way.extract 0 way.size} es L es' 0∧StE (A.heard c wt es' s) (n+500) L (way.extract way.size way.size) es':=by
 have i:=h.l.comes (way.extract 0 way.size)
 have e:(⟨#[]⟩:ByteArray)++way.extract 0 way.size=zz A.w ⟨#[]⟩:=by
  rw[q9f,←h.way];exact ByteArray.empty_append
 rw[e] at i
 have z:=h.lw
 obtain⟨L,v,q⟩:=q82 p i (by omega)
 rw[h.es]
 refine⟨L,v,?_,q9g _,rfl,(fun m f=>by cases f),?_,Nat.zero_le _,?_⟩
 ·show LkC L c A.t wt (zz (A.o++s) ⟨#[]⟩) ⟨#[]⟩ (n+500);rw[qfs];exact q.mono (by omega)
 ·exact fun m f=>(List.mem_append.1 f).elim (h.so m) (p.say.2 m)
 ·show (A.o++s).length≤_;rw[List.length_append];omega
theorem StP.come0{A B:En}{n:Nat}{P:Pw}(h:StP A B n P){c:Ch}{wt:Bool}{es':List EvV}{s:List MsgV}(q:HearL A.c A.wt A.es A.w c wt es' s)(I:A.o.length+s.length≤100∧B.o.length≤100∧B.w.length≤100)(H:n≤800000) :
  ∃L,ComeOk P 0 (P.way 0).size L es' 0∧StP ((A.heard c wt es' s).goes B) (B.goes (A.heard c wt es' s)) (n+500) (P.all 0 L es' 0):=by
 obtain⟨L,p,i⟩:=h.a.hears q (by omega) (by omega)
 have f:=h.flowOk
 have a1:=qbr h.a.sw (by have:=h.a.lw;omega)
 have a2:=qbr h.a.so (by have:=h.a.lo;omega)
 have b1:=qbr h.b.sw (by have:=h.b.lw;omega)
 have b2:=qbr h.b.so (by have:=h.b.lo;omega)
 have C:=qbr i.so (by have:=i.lo;omega)
 have z:StP (A.heard c wt es' s) B (n+500) (P.came 0 ((P.way 0).extract (P.way 0).size (P.way 0).size) L es' 0):=by
  have m:(P.bad || (0:Int) != 0)=false:=by rw[h.bad];rfl
  exact⟨i,(h.b.mono (by omega)),m,by omega⟩
 refine⟨L,⟨f.dead,h.a.l.broken,by rw[h.a.l.rest];rfl,by rw[h.a.l.rest];exact Nat.zero_le _,?_,?_,Nat.le_refl _,p,i.l.dead,by rw[i.l.out];omega⟩,z.flow ?_⟩
 ·intro j v;rcases (by omega:j=0∨j=1) with rfl | rfl
  ·rw[h.a.way];omega
  ·rw[h.b.way];omega
 ·intro j v;rcases (by omega:j=0∨j=1) with rfl | rfl
  ·rw[h.a.l.out];omega
  ·rw[h.b.l.out];omega
 ·have E:([]:List MsgV).length=0:=rfl;have F:(A.o++s).length=A.o.length+s.length:=List.length_append;exact⟨by show ([]:List MsgV).length+_≤_;omega,by show _+(A.o++s).length≤_;omega⟩
theorem StP.come1{A B:En}{n:Nat}{P:Pw}(h:StP A B n P){c:Ch}{wt:Bool}{es':List EvV}{s:List MsgV}(q:HearL B.c B.wt B.es B.w c wt es' s)(I:B.o.length+s.length≤100∧A.o.length≤100∧A.w.length≤100)(H:n≤800000) :
  ∃L,ComeOk P 1 (P.way 1).size L es' 0∧StP (A.goes (B.heard c wt es' s)) ((B.heard c wt es' s).goes A) (n+500) (P.all 1 L es' 0):=by
 obtain⟨L,p,i⟩:=h.b.hears q (by omega) (by omega)
 have f:=h.flowOk
 have a1:=qbr h.a.sw (by have:=h.a.lw;omega)
 have a2:=qbr h.a.so (by have:=h.a.lo;omega)
 have b1:=qbr h.b.sw (by have:=h.b.lw;omega)
 have b2:=qbr h.b.so (by have:=h.b.lo;omega)
 have C:=qbr i.so (by have:=i.lo;omega)
 have z:StP A (B.heard c wt es' s) (n+500) (P.came 1 ((P.way 1).extract (P.way 1).size (P.way 1).size) L es' 0):=by
  have m:(P.bad || (0:Int) != 0)=false:=by rw[h.bad];rfl
  exact⟨(h.a.mono (by omega)),i,m,by omega⟩
 refine⟨L,⟨f.dead,h.b.l.broken,by rw[h.b.l.rest];rfl,by rw[h.b.l.rest];exact Nat.zero_le _,?_,?_,Nat.le_refl _,p,i.l.dead,by rw[i.l.out];omega⟩,z.flow ?_⟩
 ·intro j v;rcases (by omega:j=0∨j=1) with rfl | rfl
  ·rw[h.a.way];omega
  ·rw[h.b.way];omega
 ·intro j v;rcases (by omega:j=0∨j=1) with rfl | rfl
  ·rw[h.a.l.out];omega
  ·rw[h.b.l.out];omega
 ·have E:([]:List MsgV).length=0:=rfl;have F:(B.o++s).length=B.o.length+s.length:=List.length_append;exact⟨by show _+(B.o++s).length≤_;omega,by show ([]:List MsgV).length+_≤_;omega⟩
structure EndB(c:Ch):Prop where
 key:c.s.key.size≤100000000
 ch:0≤c.s.ch∧c.s.ch<4294967296
 sg:0≤c.k.signed∧c.k.signed≤65535
 news:c.news.length<1000000
 xs:c.xs.length≤16
def qgv(t:Nat)(wt:Bool)(c c':Ch)(M:List MsgV):Prop:=EndB c∧(if wt=true∨(t+1)%3≠0 then c'=c∧M=[] else SignC c c' M)
def En.ticks(A:En)(c:Ch)(M:List MsgV):En:= {A with c:=c,t:=A.t+1,o:=A.o++M}
theorem StE.ticks{A:En}{n:Nat}{l:Lk}{way:ByteArray}{es:List EvV}(h:StE A n l way es){c':Ch}{M:List MsgV}(v:qgv A.t A.wt A.c c' M)(T:A.o.length≤150)(S:n≤900000)(P:A.t<900000) :
  TickOk l A.t∧l.tickE A.t=0∧StE (A.ticks c' M) (n+1) (l.tick A.t) way es:=by
 obtain⟨q,v⟩:=v
 obtain⟨E,N⟩:=zab q.ch q.sg
 have p:=h.l.c
 have L:TickOk l A.t:=⟨h.l.ok (by omega),h.l.ticks,by omega,by rw[p];exact E,by rw[p];exact N,by rw[p];exact q.key,by rw[p];exact q.ch,by rw[p];exact q.news,by rw[p];exact q.xs⟩
 refine⟨L,?_⟩
 have O:LkC ({l with ticks:=(A.t:Int)+1} : Lk) A.c ((A.t:Int)+1) A.wt (zz A.o ⟨#[]⟩) ⟨#[]⟩ n:=⟨h.l.c,rfl,h.l.waits,h.l.out,h.l.rest,h.l.dead,h.l.broken,h.l.fused,h.l.off,h.l.many,h.l.len,h.l.outn⟩
 have i:(l.waits=true∨(A.t+1)%3≠0)↔(A.wt=true∨(A.t+1)%3≠0):=by rw[h.l.waits]
 have I:=O.mono (m:=n+1) (by omega)
 by_cases f:A.wt=true∨(A.t+1)%3≠0
 ·have F:l.tickE A.t=0:=by unfold Lk.tickE;rw[if_pos (i.2 f)]
  have H:l.tick A.t = {l with ticks:=(A.t:Int)+1} := by unfold Lk.tick;rw[if_pos (i.2 f)]
  rw[if_pos f] at v;obtain⟨rfl,rfl⟩:=v;rw[F,H];refine⟨rfl,?_,h.way,h.es,h.sw,?_,h.lw,?_⟩
  ·show LkC _ A.c ((A.t:Int)+1) A.wt (zz (A.o++[]) ⟨#[]⟩) ⟨#[]⟩ (n+1);rw[List.append_nil];exact I
  ·exact fun m C=>(List.mem_append.1 C).elim (h.so m) (fun e=>by cases e)
  ·show (A.o++[]).length≤_;rw[List.append_nil];omega
 ·have F:l.tickE A.t=qlg A.c.sign.2.2:=by unfold Lk.tickE;rw[if_neg (fun e=>f (i.1 e)),p]
  have H:l.tick A.t=({l with ticks:=(A.t:Int)+1} : Lk).signs:=by unfold Lk.tick;rw[if_neg (fun e=>f (i.1 e))]
  rw[if_neg f] at v;have z:LkC (({l with ticks:=(A.t:Int)+1} : Lk).signs) A.c.sign.1 ((A.t:Int)+1) A.wt (if A.c.sign.2.2=0 then zz A.o ⟨#[]⟩++qdw A.c.sign.2.1 else zz A.o ⟨#[]⟩) ⟨#[]⟩ (n+1):=by
   have:=O.acts (rec:=zc 4 1) (c':=A.c.sign.1) (m:=A.c.sign.2.1) (er:=A.c.sign.2.2) (by rw[qak];decide) E;unfold Lk.signs;show LkC (Lk.acts _ l.c.sign.1 (zc 4 1) l.c.sign.2.1 l.c.sign.2.2) _ _ _ _ _ _;rw[p];exact this
  rw[F,H];generalize ({l with ticks:=(A.t:Int)+1} : Lk).signs=l2 at z;rcases v.eq with ⟨m,J,rfl,C⟩ | ⟨J,rfl,rfl⟩
  ·rw[J] at z ⊢;refine⟨rfl,?_,h.way,h.es,h.sw,?_,h.lw,?_⟩
   ·show LkC l2 c' ((A.t:Int)+1) A.wt (zz (A.o++[m]) ⟨#[]⟩) ⟨#[]⟩ (n+1);rw[qfs];exact z
   ·exact fun R K=>(List.mem_append.1 K).elim (h.so R) (fun e=>by rw[List.mem_singleton.1 e];exact C)
   ·show (A.o++[m]).length≤_;rw[List.length_append,List.length_singleton];omega
  ·rw[J] at z ⊢;refine⟨rfl,?_,h.way,h.es,h.sw,?_,h.lw,?_⟩
   ·show LkC l2 A.c ((A.t:Int)+1) A.wt (zz (A.o++[]) ⟨#[]⟩) ⟨#[]⟩ (n+1);rw[List.append_nil];exact z
   ·exact fun m C=>(List.mem_append.1 C).elim (h.so m) (fun e=>by cases e)
   ·show (A.o++[]).length≤_;rw[List.append_nil];omega
structure RoundG(A B A' B':En):Prop where
 ex:∃a1 wta ea s0 b1 wtb eb s1 a2 Ma b2 Mb,HearL A.c A.wt A.es A.w a1 wta ea s0∧HearL B.c B.wt B.es (B.w++s0) b1 wtb eb s1∧qgv A.t wta a1 a2 Ma∧qgv B.t wtb b1 b2 Mb ∧
  s0.length≤30∧s1.length≤30∧Ma.length≤1∧Mb.length≤1∧A'=⟨a2,A.t+1,wta,s1++Mb,[],ea⟩∧B'=⟨b2,B.t+1,wtb,Ma,[],eb⟩
 oa:A.o=[]
 ob:B.o=[]
 wa:A.w.length≤40
 wb:B.w.length≤40
 ta:A.t<800000
 tb:B.t<800000
theorem StP.round{A B J K:En}{n:Nat}{P:Pw}(h:StP A B n P)(r:RoundG A B J K)(hn:n≤700000):∃Q,qyw P Q∧StP J K (n+1010) Q:=by
 obtain⟨a1,f,i,s0,b1,p,m,s1,a2,Ma,b2,Mb,V,W,Y,Z,l0,l1,lA,lB,rfl,rfl⟩:=r.ex;have oa:=r.oa;have ob:=r.ob;have wa:=r.wa;have wb:=r.wb;have z:([]:List MsgV).length=0:=rfl;obtain⟨v,H,L⟩:=h.come0 V (by rw[oa,ob];omega) (by omega);have R:(A.heard a1 f i s0).goes B=⟨a1,A.t,f,[],[],i⟩:=by
  show En.mk a1 A.t f ([]++B.o) [] i=_;rw[ob];rfl
 have S:B.goes (A.heard a1 f i s0)=⟨B.c,B.t,B.wt,B.w++s0,[],B.es⟩:=by
  show En.mk B.c B.t B.wt (B.w++(A.o++s0)) [] B.es=_;rw[oa];rfl
 rw[R,S] at L;have e2:(B.w++s0).length=B.w.length+s0.length:=List.length_append;obtain⟨L1,I,C⟩:=L.come1 (c:=b1) (wt:=p) (es':=m) (s:=s1) W ⟨by show 0+s1.length≤_;omega,Nat.zero_le _,Nat.zero_le _⟩ (by omega);have C:StP ⟨a1,A.t,f,s1,[],i⟩ ⟨b1,B.t,p,[],[],m⟩ (n+500+500) ((P.all 0 v i 0).all 1 L1 m 0):=C;obtain⟨t0,N,T⟩:=C.a.ticks (c':=a2) (M:=Ma) Y (Nat.zero_le _) (by omega) (by have:=r.ta;show A.t<_;omega);have q:StP ((⟨a1,A.t,f,s1,[],i⟩:En).ticks a2 Ma) ⟨b1,B.t,p,[],[],m⟩ (n+500+500+1) (((P.all 0 v i 0).all 1 L1 m 0).ticked 0 A.t):=by
  refine⟨T,C.b.mono (by omega),?_,by omega⟩;show (_ != 0 || ((P.all 0 v i 0).all 1 L1 m 0).bad)=false;rw[N,C.bad];rfl
 obtain⟨X,O,U⟩:=q.b.ticks (c':=b2) (M:=Mb) Z (Nat.zero_le _) (by omega) (by have:=r.tb;show B.t<_;omega);have E:StP ((⟨a1,A.t,f,s1,[],i⟩:En).ticks a2 Ma) ((⟨b1,B.t,p,[],[],m⟩:En).ticks b2 Mb) (n+500+500+1+1) ((((P.all 0 v i 0).all 1 L1 m 0).ticked 0 A.t).ticked 1 B.t):=by
  refine⟨q.a.mono (by omega),U,?_,by omega⟩;show (_ != 0 || (((P.all 0 v i 0).all 1 L1 m 0).ticked 0 A.t).bad)=false;rw[O,q.bad];rfl
 have F:=E.flow ⟨by show s1.length+([]++Mb).length≤_;rw[List.nil_append];omega,by show 0+([]++Ma).length≤_;rw[List.nil_append];omega⟩;refine⟨_,⟨v,i,0,L1,m,0,A.t,B.t,H,I,t0,X,E.flowOk,rfl⟩,?_⟩;exact⟨F.a.mono (by omega),F.b.mono (by omega),F.bad,by omega⟩
structure Pay where
 s:SetupV
 t:SetupV
 sa:Int
 sb:Int
 j:Int
 n:Int
 h:Vector Int 32
 e:Int
 x:Int
 y:Int
 sha:List KeptV
 shb:List KeptV
 la:List MsgV
 lb:List MsgV
 nt:Int
 no:Int
 ra:Bool
 rb:Bool
structure PayOk(q:Pay):Prop where
 D:Duo q.s q.t
 sa:0≤q.sa∧q.sa≤50000
 sb:0≤q.sb∧q.sb≤50000
 j:0≤q.j∧q.j≤50000
 n:1≤q.n∧q.n≤1125899906842624
 h:∀b∈q.h.toList,0≤b∧b≤255
 e:1≤q.e∧q.e≤1073741824
 x:0≤q.x
 sha:qft q.t.seed q.sha
 shb:qft q.s.seed q.shb
 la:q.la.length≤900
 lb:q.lb.length≤900
section
variable (q:Pay)(pd:Bool)(F:MsgV)
def Pay.I(f:Bool)(st:Int)(pd:Bool):Live:=qlo q.j q.n q.h q.e f st pd
def Pay.add:MsgV:=qwx q.s q.j q.n q.h q.e
noncomputable def Pay.s1:MsgV:=qwy q.s (q.sa+1) q.x q.y [q.I true 1 false]
noncomputable def Pay.s2:MsgV:=qwy q.t (q.sb+1) q.y q.x [q.I false 3 false]
def Pay.r1:MsgV:=qt7 q.t q.sa
def Pay.r2:MsgV:=qt7 q.s q.sb
def Pay.ha1:List KeptV:=qlq q.r1.hash (65535-q.sa) q.sha
def Pay.hb1:List KeptV:=qlq q.r2.hash (65535-q.sb) q.shb
noncomputable def Pay.la1:List MsgV:=[q.add]++[q.s1]
noncomputable def Pay.lb1:List MsgV:=[]++[q.s2]
def Pay.a0:Ch:=⟨q.s,⟨q.sa,q.sb,false,q.j+1,q.nt,false,false,q.ra⟩,q.x,q.y,[q.I true 0 false],q.sha,[q.add],q.la⟩
def Pay.b0:Ch:=⟨q.t,⟨q.sb,q.sa,false,q.no,q.j,false,false,q.rb⟩,q.y,q.x+q.n,[],q.shb,[],q.lb⟩
def Pay.b1:Ch:=⟨q.t,⟨q.sb,q.sa,false,q.no,q.j+1,false,false,q.rb⟩,q.y,q.x,[q.I false 0 false],q.shb,[],q.lb⟩
noncomputable def Pay.a1:Ch:=⟨q.s,⟨q.sa+1,q.sb,true,q.j+1,q.nt,false,false,false⟩,q.x,q.y,[q.I true 1 false],q.sha,[],q.la1⟩
def Pay.b2:Ch:=⟨q.t,⟨q.sb,q.sa+1,false,q.no,q.j+1,false,false,true⟩,q.y,q.x,[q.I false 2 false],q.shb,[],q.lb⟩
noncomputable def Pay.a2:Ch:=⟨q.s,⟨q.sa+1,q.sb,false,q.j+1,q.nt,false,false,false⟩,q.x,q.y,[q.I true 2 false],q.ha1,[],q.la1⟩
noncomputable def Pay.b3:Ch:=⟨q.t,⟨q.sb+1,q.sa+1,true,q.no,q.j+1,false,false,false⟩,q.y,q.x,[q.I false 3 false],q.shb,[],q.lb1⟩
noncomputable def Pay.a3:Ch:=⟨q.s,⟨q.sa+1,q.sb+1,false,q.j+1,q.nt,false,false,true⟩,q.x,q.y,[q.I true 4 false],q.ha1,[],q.la1⟩
noncomputable def Pay.b4:Ch:=⟨q.t,⟨q.sb+1,q.sa+1,false,q.no,q.j+1,false,false,false⟩,q.y,q.x,[q.I false 4 false],q.hb1,[],q.lb1⟩
noncomputable def Pay.b5:Ch:=⟨q.t,⟨q.sb+1,q.sa+1,false,q.no,q.j+1,false,false,false⟩,q.y,q.x,[q.I false 5 pd],q.hb1,[F],q.lb1⟩
end
section
variable {q:Pay}{pd:Bool}{F:MsgV}{p:List Int}{r:Int}
theorem stI{i:Bool}{st:Int}(h:st≠9):∀z∈[q.I i st pd],z.state≠9:=by
 intro z f;rw[List.mem_singleton.1 f];exact h
theorem Pay.h0(k:PayOk q):HearC q.b0 q.add q.b1 []:=by
 have h:=zdh (s:=q.t) (t:=q.s) (sg:=q.sb) (hd:=q.sa) (aw:=false) (no:=q.no) (f1:=false) (rv:=q.rb) (x:=q.y) (y:=q.x+q.n) (nw:=[]) (la:=q.lb) k.D.symm k.n ⟨k.j.1,by have:=k.j.2;omega⟩ (by have:=k.x;omega) k.e k.h k.shb (by have:=k.sa;omega) (by have:=k.lb;omega);rw[show q.x+q.n-q.n=q.x by omega] at h;exact h
theorem Pay.g1(k:PayOk q):SignC q.a0 q.a1 [q.s1] :=
 zaz (L1:=[q.I true 1 false]) k.D ⟨k.sa.1,by have:=k.sa.2;omega⟩ rfl rfl (stI (by decide)) (by show (1:Nat)≤_;decide) (by show (1:Nat)≤_;decide)
theorem Pay.h1(k:PayOk q):HearC q.b1 q.s1 q.b2 [q.r1] :=
 zdj (xs:=[q.I true 1 false]) (L2:=[q.I false 2 false]) k.D.symm ⟨k.sa.1,by have:=k.sa.2;omega⟩ k.shb (by show (1:Nat)≤_;decide) (by show (1:Nat)≤_;decide) (by have:=k.lb;omega) rfl rfl (stI (st:=1) (by decide)) rfl (stI (by decide))
theorem Pay.h2(k:PayOk q):HearC q.a1 q.r1 q.a2 [] :=
 zdi (L1:=[q.I true 2 false]) k.D ⟨k.sa.1,by have:=k.sa.2;omega⟩ k.sha (by have:=k.sb.2;omega) (by show (1:Nat)≤_;decide) (by show (1:Nat)≤_;decide) (by show (2:Nat)≤_;decide) rfl (stI (by decide))
theorem Pay.g2(k:PayOk q):SignC q.b2 q.b3 [q.s2] :=
 zaz (L1:=[q.I false 3 false]) k.D.symm ⟨k.sb.1,by have:=k.sb.2;omega⟩ rfl rfl (stI (by decide)) (by show (0:Nat)≤_;decide) (by show (1:Nat)≤_;decide)
theorem PayOk.ta(k:PayOk q):qft q.t.seed q.ha1:=za0 k.D k.sha
theorem PayOk.tb(k:PayOk q):qft q.s.seed q.hb1:=za0 k.D.symm k.shb
theorem Pay.h3(k:PayOk q):HearC q.a2 q.s2 q.a3 [q.r2] :=
 zdj (xs:=[q.I false 3 false]) (L2:=[q.I true 4 false]) k.D ⟨k.sb.1,by have:=k.sb.2;omega⟩ k.ta (by show (1:Nat)≤_;decide) (by show (1:Nat)≤_;decide) (by show (2:Nat)≤_;decide) rfl rfl (stI (st:=3) (by decide)) rfl (stI (by decide))
theorem Pay.h4(k:PayOk q):HearC q.b3 q.r2 q.b4 [] :=
 zdi (L1:=[q.I false 4 false]) k.D.symm ⟨k.sb.1,by have:=k.sb.2;omega⟩ k.shb (by have:=k.sa.2;omega) (by show (1:Nat)≤_;decide) (by show (1:Nat)≤_;decide) (by show (1:Nat)≤_;decide) rfl (stI (by decide))
end
end
end Go.Proofs.YtfmkdoachjgjbaaGreatDoor
