/-
  XDag's law, wider: what is known of an operation may name the values of those that it looks at; and each operation has its own relation between worlds (a store into a block that the region made).
-/
import Derived.Test.YtfmkdoachjgjbaaGreatDoorMaa
import Derived.Test.YtfmkdoachjgjbaaGreatDoorMac
import Derived.Test.YtfmkdoachjgjbaaGreatDoorShR3
import Derived.Test.YtfmkdoachjgjbaaGreatDoorMad
import Derived.Test.YtfmkdoachjgjbaaGreatDoorMce
import Derived.Test.YtfmkdoachjgjbaaGreatDoorMcj
import Derived.Deep.Onto
import Derived.Maps.AppendAt
import Derived.Deep.AppendLies
import Derived.Laws.OwnMore
import Derived.Test.YtfmkdoachjgjbaaGreatDoorMda
import Derived.Test.YtfmkdoachjgjbaaGreatDoorMbg
set_option maxRecDepth 100000
set_option maxHeartbeats 2000000
set_option linter.unusedVariables false
set_option linter.unusedSimpArgs false
namespace Go.Proofs.YtfmkdoachjgjbaaGreatDoor
section
open Go.RowKit
section
variable {P:Program}{l:List Oper}{A:List (List Nat)}{L:List (List (Nat × Nat))}{n:Nat}
def upV(ql:Nat→Value)(k:Nat)(v:Value):Nat→Value:=fun j=>if j=k then v else ql j
theorem qpk(ql:Nat→Value)(k:Nat)(v:Value):upV ql k v k=v:=by simp[upV]
theorem qho(ql:Nat→Value){k j:Nat}(v:Value)(h:j≠k):upV ql k v j=ql j:=by simp[upV,h]
def qtb(P:Program)(a0:Act)(S:World→Prop)(R:Nat→World→World→Prop)(Φ:Nat→(Nat→Value)→World→Prop)(i:Nat)(o:Oper)(Li:List (Nat × Nat)):Prop :=
 ∀(ql:Nat→Value) (w:World),S w→(∀p∈Li,Φ p.1 ql w) →
  match o.guard with
  | none=>zm P o (qaa a0 ql Li).eval w fun v w'=>R i w w'∧S w'∧Φ i (upV ql i v) w'
  | some (g,b)=>Φ g ql w→(ql g = .bool b→zm P o (qaa a0 ql Li).eval w fun v w'=>R i w w'∧S w'∧Φ i (upV ql i v) w')∧(ql g ≠ .bool b→Φ i (upV ql i undef) w)
def qaz(P:Program)(a0:Act)(S:World→Prop)(R:Nat→World→World→Prop)(Φ:Nat→(Nat→Value)→World→Prop):Nat→List Oper→List (List (Nat × Nat))→Prop
 | _,[],_=>True
 | i,o::os,L=>qtb P a0 S R Φ i o (L.headD [])∧qaz P a0 S R Φ (i+1) os L.tail
theorem qaz.nil{a0:Act}{S:World→Prop}{R:Nat→World→World→Prop}{Φ:Nat→(Nat→Value)→World→Prop}{i:Nat}{L:List (List (Nat × Nat))} : qaz P a0 S R Φ i [] L:=trivial
def qp3(Φ:Nat→(Nat→Value)→World→Prop)(ql:Nat→Value)(w:World):List (Nat × Nat)→Prop
 | []=>True
 | p::r=>Φ p.1 ql w∧qp3 Φ ql w r
theorem qu4{Φ:Nat→(Nat→Value)→World→Prop}{ql:Nat→Value}{w:World} : ∀ {L:List (Nat × Nat)},(∀p∈L,Φ p.1 ql w)→qp3 Φ ql w L
 | [],_=>trivial
 | p::r,h=>⟨h p (List.mem_cons_self ..),qu4 fun q f=>h q (List.mem_cons_of_mem _ f)⟩
theorem qaz.plain{a0:Act}{S:World→Prop}{R:Nat→World→World→Prop}{Φ:Nat→(Nat→Value)→World→Prop}{i:Nat}{o:Oper}{os:List Oper}{Li:List (Nat × Nat)}{L:List (List (Nat × Nat))}(m:o.guard=none)
  (h:∀(ql:Nat→Value) (w:World),S w→qp3 Φ ql w Li→zm P o (qaa a0 ql Li).eval w fun v w'=>R i w w'∧S w'∧Φ i (upV ql i v) w')
  (k:qaz P a0 S R Φ (i+1) os L):qaz P a0 S R Φ i (o::os) (Li::L) :=
 ⟨fun ql w f q=>by rw[m];exact h ql w f (qu4 q),k⟩
theorem qaz.at{a0:Act}{S:World→Prop}{R:Nat→World→World→Prop}{Φ:Nat→(Nat→Value)→World→Prop} : ∀ {os:List Oper} {L:List (List (Nat × Nat))} {k:Nat},qaz P a0 S R Φ k os L→∀(i:Nat) o,os[i]? = some o→qtb P a0 S R Φ (k+i) o (L.getD i [])
 | [],_,_,_,_,_,h=>by simp at h
 | o::os,L,k,h,0,m,f=>by
  simp only[List.getElem?_cons_zero,Option.some.injEq] at f;subst f;have:=h.1;cases L<;>exact this
 | o::os,L,k,h,i+1,m,f=>by
  have:=qaz.at h.2 i m (by simpa using f);rw[show k+(i+1)=k+1+i by omega];cases L<;>exact this
structure DagInvG(l:List Oper)(A:List (List Nat))(a0:Act)(S:World→Prop)(Φ:Nat→(Nat→Value)→World→Prop)(listed:Array Bool)(a:Act)(w:World)(ql:Nat→Value):Prop where
 size:listed.size=l.length
 s:S w
 phi:∀i,listed.getD i false=true→Φ i ql w
 shut:∀i,listed.getD i false=true→∀k∈A.getD i [],listed.getD k false=true
 defers:a.defers=a0.defers
 tmps:a.tmps.size=a0.tmps.size
 other:∀t,(∀i,listed.getD i false=true→qbp l i≠some t)→a.tmps[t]? = a0.tmps[t]?
 at_:∀i t,listed.getD i false=true→qbp l i=some t→a.tmps[t]? = some (ql i)
theorem q4n(D:Dag l A L n){a0:Act}(hn:a0.tmps.size=n){S:World→Prop}{R:Nat→World→World→Prop}{Φ:Nat→(Nat→Value)→World→Prop}{Q:Exit→Act→World→Prop}
  (c2:∀i w,R i w w) (loc:∀i k ql v w,k≠i→(∀p∈L.getD i [],p.1≠k)→Φ i ql w→Φ i (upV ql k v) w) (a6:∀i j ql w w',i≠j→S w→S w'→R j w w'→Φ i ql w→Φ i ql w') (b3:qaz P a0 S R Φ 0 l L)
  (c3:∀ql w,S w→(∀i,i<l.length→Φ i ql w)→Q .normal (qaa a0 ql (qbc l)) w) :
  ∀(F:Nat) (f:Array Bool) (a:Act) (w:World) (ql:Nat→Value),DagInvG l A a0 S Φ f a w ql→(List.range l.length).countP (fun i=> !f.getD i false)≤F→wpAny P .any l.toArray Q F f a w:=by
 have X:∀(f:Array Bool) (a:Act) (w:World) (ql:Nat→Value),DagInvG l A a0 S Φ f a w ql→Region.ready .any l.toArray f=[]→Q .normal a w:=by
  intro f a w ql I hr;have b4:∀(i:Nat),i<l.length→f.getD i false=true:=by
   intro i
   induction i using Nat.strongRecOn with
   | _ i ih =>
    intro N;cases hl:f.getD i false with
    | true=>rfl
    | false =>
     exfalso;have:i∈Region.ready .any l.toArray f:=by
      rw[mem_ready];have ho:l[i]? = some l[i]:=List.getElem?_eq_getElem N;refine⟨?_,l[i],by simp[N],fun e he hb=> ?_⟩
      ·rw[Array.getD_eq_getD_getElem?] at hl ⊢;have:i<f.size:=by rw[I.size];exact N
       rw[Array.getElem?_eq_getElem this] at hl ⊢;simpa using hl
      ·have M:=(D.edge i _ ho e he hb).1;have h2:=(D.anc i _ ho _ M).1;exact ih _ h2 (by omega)
     rw[hr] at this;cases this
  have ha:a=qaa a0 ql (qbc l):=by
   refine qv3 (by rw[qgn];exact I.defers) fun t=> ?_
   by_cases h:∃i,qbp l i=some t
   ·obtain⟨i,N⟩:=h;have K:=(qjv N).1;rw[I.at_ i t (b4 i K) N];have hm:(i,t)∈qbc l:=by
     unfold qbc;rw[List.mem_filterMap];exact⟨i,List.mem_range.2 K,by rw[N];rfl⟩
    refine(qh8 ql (qbc l) a0 (i,t) hm (fun q hq e=> ?_) (by rw[hn];exact(D.slot i t N).1)).symm;unfold qbc at hq;rw[List.mem_filterMap] at hq;obtain⟨j,_,C⟩:=hq;rw[Option.map_eq_some_iff] at C;obtain⟨t',a8,rfl⟩:=C;simp only at e;subst e;exact(D.slot i _ N).2 j a8
   ·rw[I.other t fun i _ T=>h ⟨i,T⟩,qdt];intro p Y e;unfold qbc at Y;rw[List.mem_filterMap] at Y;obtain⟨j,_,C⟩:=Y;rw[Option.map_eq_some_iff] at C;obtain⟨t',a8,rfl⟩:=C;exact h ⟨j,by rw[a8,←e]⟩
  rw[ha];exact c3 ql w I.s fun i N=>I.phi i (b4 i N)
 intro F
 induction F with
 | zero =>
  intro f a w ql I hc;have hr:Region.ready .any l.toArray f=[]:=by
   rw[List.eq_nil_iff_forall_not_mem];intro i N;obtain⟨h0,o,ho,_⟩:=mem_ready.1 N;have K:i<l.length:=by simpa using (Array.getElem?_eq_some_iff.1 ho).1
   have:(List.range l.length).countP (fun i=> !f.getD i false)=0:=by omega
   rw[List.countP_eq_zero] at this;have:=this i (List.mem_range.2 K);rw[Array.getD_eq_getD_getElem?] at h0 this;have T:i<f.size:=by rw[I.size];exact K
   rw[Array.getElem?_eq_getElem T] at h0 this;simp at h0 this;rw[h0] at this;cases this
  exact⟨hr,X f a w ql I hr⟩
 | succ F ih =>
  intro f a w ql I hc;refine⟨fun hr=>X f a w ql I hr,fun i N=> ?_⟩;obtain⟨h0,o,ho,b5⟩:=mem_ready.1 N;have K:i<l.length:=by simpa using (Array.getElem?_eq_some_iff.1 ho).1
  have T:i<f.size:=by rw[I.size];exact K
  have H:l[i]? = some o:=by simpa using ho
  have W:f.getD i false=false:=by
   rw[Array.getD_eq_getD_getElem?] at h0 ⊢;rw[Array.getElem?_eq_getElem T] at h0 ⊢;simpa using h0
  have U:∀k∈A.getD i [],f.getD k false=true:=by
   intro k hk;obtain⟨_,e,he,hb,h⟩:=D.anc i o H k hk;have M:=b5 e he hb;rcases h with rfl | h
   ·exact M
   ·exact I.shut _ M k h
  have a7:∀t∈o.looksAt l.toArray,a.tmps[t]? = (qaa a0 ql (L.getD i [])).tmps[t]? := by
   intro t ht;by_cases h:∃j,f.getD j false=true∧qbp l j=some t
   ·obtain⟨j,C,E⟩:=h;rcases D.look i o H t ht j E with M | ⟨M,h2⟩
    ·have:=I.shut j C i M;rw[W] at this;cases this
    ·rw[I.at_ j t C E];refine(qh8 ql _ a0 (j,t) h2 (fun q hq e=> ?_) (by rw[hn];exact(D.slot j t E).1)).symm;have:=(D.lis i o H q hq).2;rw[e] at this;exact(D.slot j t E).2 _ this
   ·rw[I.other t fun j C T=>h ⟨j,C,T⟩,qdt];intro p Y e;obtain⟨M,h2⟩:=D.lis i o H p Y;exact h ⟨p.1,U _ M,by rw[h2,e]⟩
  have V:execOp a.eval o=execOp (qaa a0 ql (L.getD i [])).eval o:=by
   refine execOp_congr o (D.sel i o H) fun x hx=> ?_
   cases x with
   | tmp t =>
    have:=a7 t (List.mem_append_left _ (List.mem_filterMap.2 ⟨.tmp t,by simpa using hx,rfl⟩));simp only[Act.eval,Array.getD_eq_getD_getElem?,this]
   | _=>rfl
  have c1:=b3.at i o H;rw[Nat.zero_add] at c1;have J:=c1 ql w I.s fun p Y=>I.phi _ (U _ (D.lis i o H p Y).1)
  have next:∀v w',R i w w'→S w'→Φ i (upV ql i v) w'→wpAny P .any l.toArray Q F (f.setIfInBounds i true) (a.put o.dst v) w':=by
   intro v w' hR hS hΦ;have Z:qbp l i=o.dst:=by unfold qbp;rw[H];rfl
   refine ih (f.setIfInBounds i true) (a.put o.dst v) w' (upV ql i v) ⟨?_,hS,?_,?_,?_,?_,?_,?_⟩ ?_
   ·rw[Array.size_setIfInBounds];exact I.size
   ·intro j C;rcases (qai T).1 C with rfl | z
    ·exact hΦ
    ·have O:j≠i:=by rintro rfl;rw[W] at z;cases z
     have c6:j<l.length:=by
      rcases Nat.lt_or_ge j l.length with h | h
      ·exact h
      ·rw[Array.getD_eq_getD_getElem?,Array.getElem?_eq_none (by rw[I.size];exact h)] at z;cases z
     refine a6 j i _ w w' O I.s hS hR (loc j i ql v w (Ne.symm O) (fun p Y e=> ?_) (I.phi j z));have hA:=(D.lis j _ (List.getElem?_eq_getElem c6) p Y).1;have:=I.shut j z _ hA;rw[e,W] at this;cases this
   ·intro j C k hk;refine(qai T).2 ?_;rcases (qai T).1 C with rfl | z
    ·exact .inr (U k hk)
    ·exact .inr (I.shut j z k hk)
   ·cases o.dst<;>exact I.defers
   ·cases hd:o.dst with
    | none=>exact I.tmps
    | some d=>simpa [Act.put] using I.tmps
   ·intro t ht;have M:=I.other t fun j C=>ht j ((qai T).2 (.inr C))
    have h2:=ht i ((qai T).2 (.inl rfl));rw[Z] at h2;cases hd:o.dst with
    | none=>exact M
    | some d =>
     have O:d≠t:=by rintro rfl;exact h2 hd
     simpa [Act.put,Array.getElem?_setIfInBounds_ne O] using M
   ·intro j t C E;rcases (qai T).1 C with rfl | z
    ·rw[Z] at E;rw[E,qpk];have:t<a.tmps.size:=by rw[I.tmps,hn];exact(D.slot j t (by rw[Z,E])).1
     simp[Act.put,this]
    ·have O:j≠i:=by rintro rfl;rw[W] at z;cases z
     rw[qho _ _ O];have M:=I.at_ j t z E;cases hd:o.dst with
     | none=>exact M
     | some d =>
      have c0:d≠t:=by
       rintro rfl;exact O ((D.slot i d (by rw[Z,hd])).2 j E)
      simpa [Act.put,Array.getElem?_setIfInBounds_ne c0] using M
   ·have M:(List.range l.length).countP (fun j=> !(f.setIfInBounds i true).getD j false)<(List.range l.length).countP (fun j=> !f.getD j false):=by
     have b9:i∈List.range l.length:=List.mem_range.2 K;obtain⟨s,r,c7⟩:=List.append_of_mem b9;rw[c7,List.countP_append,List.countP_append,List.countP_cons,List.countP_cons];have m:∀xs:List Nat,xs.countP (fun j=> !(f.setIfInBounds i true).getD j false)≤xs.countP (fun j=> !f.getD j false):=by
      intro xs;refine List.countP_mono_left fun j _ C=> ?_
      cases h:f.getD j false with
      | false=>rfl
      | true=>rw[(qai T).2 (.inr h)] at C;cases C
     have m1:=m s;have m2:=m r;rw[qe2 T,W];simp only[Bool.not_true,Bool.not_false,Bool.false_eq_true,if_false,if_true];omega
    omega
  unfold wpOp;rw[ho];simp only;cases hg:o.guard with
  | none =>
   rw[hg] at J;rw[if_pos (by unfold Region.wanted;rw[hg])];exact .inl (qhf V J fun v w' h=>next v w' h.1 h.2.1 h.2.2)
  | some gb =>
   obtain⟨g,b⟩:=gb;rw[hg] at J;obtain⟨c5,t,b8⟩:=D.guard i o H g b hg;have b7:=U g c5;have c4:=I.at_ g t b7 b8;obtain⟨p1,p2⟩:=J (I.phi g b7);have hy:Region.wanted o (yielded l.toArray a.tmps)=true↔ql g = .bool b:=by
    unfold Region.wanted yielded;rw[hg];have e1:(l.toArray[g]?).bind (·.dst)=some t:=by simpa [qbp] using b8
    simp only[e1,Option.bind_some,c4];constructor
    ·intro h;split at h
     ·rename_i b' b6;simp only[Option.some.injEq] at b6;simp at h;rw[b6,h]
     ·simp at h
    ·intro h;rw[h];simp
   by_cases hw:Region.wanted o (yielded l.toArray a.tmps)=true
   ·rw[if_pos hw];exact .inl (qhf V (p1 (hy.1 hw)) fun v w' h=>next v w' h.1 h.2.1 h.2.2)
   ·rw[if_neg hw];exact next undef w (c2 i w) I.s (p2 fun h=>hw (hy.2 h))
theorem q97{id:Nat}{a:Act}{w:World}{Q:Exit→Act→World→Prop}(H:P.follows .mixedOrders=true)(L:List (List (Nat × Nat)))(n:Nat)(I:a.tmps.size=n)(E:q4m l (qrr l []) L n=true)(A:List (Nat × Nat))(C:qbc l=A)
  (S:World→Prop) (R:Nat→World→World→Prop) (Φ:Nat→(Nat→Value)→World→Prop) (F:S w.drew) (r:∀i w,R i w w) (loc:∀i k ql v w,k≠i→(∀p∈L.getD i [],p.1≠k)→Φ i ql w→Φ i (upV ql k v) w) (f:∀i j ql w w',i≠j→S w→S w'→R j w w'→Φ i ql w→Φ i ql w')
  (q:qaz P a S R Φ 0 l L) (z:∀ql w,S w→(∀i,i<l.length→Φ i ql w)→Q .normal (qaa a ql A) w) :
  (Code.region id l.toArray true).wp P Q a w:=by
 subst C
 refine wp_region_any H ?_
 refine q4n (qwj E) I r loc f q z _ _ a _ (fun _=>undef) ⟨by simp,F,?_,?_,rfl,rfl,fun _ _=>rfl,?_⟩ ?_
 ·intro i m;rw[qby] at m;cases m
 ·intro i m;rw[qby] at m;cases m
 ·intro i t m;rw[qby] at m;cases m
 ·refine Nat.le_trans List.countP_le_length ?_;simp
end
def zba(B:Nat)(w w':World):Prop:=Upd (fun k=>B≤k) w w'∧∀(g:Nat) (T:TypeId) (cs:Array Value),w.heap[g]? = some (.cells cs T (0,0))→∃f:Array Value,f.size=cs.size∧w'.heap[g]? = some (.cells f T (0,0))
def RN(B st j:Nat)(w w':World):Prop:=if j=st then zba B w w' else qq w w'
theorem RN.refl(B st j:Nat)(w:World):RN B st j w w:=by
 unfold RN;split
 ·exact⟨Upd.refl _ _,fun g T cs h=>⟨cs,rfl,h⟩⟩
 ·exact Upd.refl _ _
def isN(B al st n:Nat)(r:Array Value)(xs:List Value)(i:Nat)(ql:Nat→Value)(w:World):Prop :=
 if i=al then ∃(g:Nat) (T:TypeId) (cs:Array Value),ql al = .pointer (some ⟨g,0,none⟩)∧B≤g∧w.heap[g]? = some (.cells cs T (0,0))∧cs.size=n
 else if i=st then ∃(g:Nat) (T:TypeId),ql al = .pointer (some ⟨g,0,none⟩)∧B≤g∧w.heap[g]? = some (.cells r T (0,0))
 else ql i=xs.getD i undef
theorem q9e{B al st n:Nat}{r:Array Value}{xs:List Value}{i:Nat}{ql:Nat→Value}{w:World}(f:i≠al)(q:i≠st)(h:isN B al st n r xs i ql w):ql i=xs.getD i undef:=by
 unfold isN at h;rwa [if_neg f,if_neg q] at h
theorem zbu{B al st n:Nat}{r:Array Value}{xs:List Value}{i:Nat}{ql:Nat→Value}{v:Value}{w:World}(f:i≠al)(q:i≠st)(h:v=xs.getD i undef):isN B al st n r xs i (upV ql i v) w:=by
 unfold isN;rw[if_neg f,if_neg q,qpk];exact h
def isX(xs:List Value)(i:Nat)(v:Value):Prop:=v=xs.getD i undef
section
variable {P:Program}{l:List Oper}{A:List (Nat × Nat)}{L:List (List (Nat × Nat))}{n:Nat}
theorem q98{id:Nat}{a:Act}{w:World}{Q:Exit→Act→World→Prop}(hm:P.follows .mixedOrders=true)(L:List (List (Nat × Nat)))(n:Nat)(hn:a.tmps.size=n)(hL:q4m l (qrr l []) L n=true)(A:List (Nat × Nat))(hA:qbc l=A)
  (al st m:Nat) (U:(al==st)=false) (a6:decide (al<l.length)=true) (Y:decide (st<l.length)=true) (O:((L.getD st []).any fun p=>p.1==al)=true) (r:Array Value) (xs:List Value)
  (C:qaz P a (fun w'=>qq w w') (RN w.heap.size st) (isN w.heap.size al st m r xs) 0 l L)
  (N:∀(ql:Nat→Value) (w':World) (g:Nat) (T:TypeId),qq w w'→ql al = .pointer (some ⟨g,0,none⟩)→w.heap.size≤g→w'.heap[g]? = some (.cells r T (0,0))→(∀i,i<l.length→i≠al→i≠st→ql i=xs.getD i undef)→Q .normal (qaa a ql A) w') :
  (Code.region id l.toArray true).wp P Q a w:=by
 have J:al≠st:=by simpa using U
 refine q97 hm L n hn hL A hA (fun w'=>qq w w') (RN w.heap.size st) (isN w.heap.size al st m r xs) (Upd.refl _ _).drew (fun i w=>RN.refl _ _ _ _) ?_ ?_ C ?_
 ·intro i k ql v w' I hp h;unfold isN at h ⊢;by_cases f:i=al
  ·rw[if_pos f] at h ⊢;subst f;rw[qho _ _ (fun e=>I e.symm)];exact h
  ·rw[if_neg f] at h ⊢;by_cases q:i=st
   ·rw[if_pos q] at h ⊢;subst q;obtain⟨p,W,V⟩:=List.any_eq_true.1 O;have:=hp p W;have K:p.1=al:=by simpa using V
    rw[qho _ _ (fun e=>this (K.trans e))];exact h
   ·rw[if_neg q] at h ⊢;rw[qho _ _ (fun e=>I e.symm)];exact h
 ·intro i j ql w1 w2 S _ _ z h;unfold isN at h ⊢;unfold RN at z;by_cases f:i=al
  ·rw[if_pos f] at h ⊢;obtain⟨g,T,cs,E,F,H,hs⟩:=h;by_cases Z:j=st
   ·rw[if_pos Z] at z;obtain⟨M,X,R⟩:=z.2 g T cs H;exact⟨g,T,M,E,F,R,X.trans hs⟩
   ·rw[if_neg Z] at z;exact⟨g,T,cs,E,F,z.old H (fun h=>h),hs⟩
  ·rw[if_neg f] at h ⊢;by_cases q:i=st
   ·rw[if_pos q] at h ⊢;obtain⟨g,T,E,F,H⟩:=h;rw[if_neg (fun e=>S (q.trans e.symm))] at z;exact⟨g,T,E,F,z.old H (fun h=>h)⟩
   ·rw[if_neg q] at h ⊢;exact h
 ·intro ql w' hS hΦ;have f:=hΦ st (by simpa using Y);unfold isN at f;rw[if_neg (fun e=>J e.symm),if_pos rfl] at f;obtain⟨g,T,E,F,H⟩:=f;exact N ql w' g T hS E F H fun i hi f q=>q9e f q (hΦ i hi)
variable {a0:Act}{wo:World}{al st m i:Nat}{r:Array Value}{xs:List Value}{o:Oper}{os:List Oper}{Li:List (Nat × Nat)}{L':List (List (Nat × Nat))}
theorem qaz.nval(H:o.guard=none)(E:(i==al)=false)(F:(i==st)=false)
  (h:∀(ql:Nat→Value) (w:World),qq wo w→qp3 (isN wo.heap.size al st m r xs) ql w Li→zm P o (qaa a0 ql Li).eval w fun v w'=>qq w w'∧isX xs i v)
  (k:qaz P a0 (fun w'=>qq wo w') (RN wo.heap.size st) (isN wo.heap.size al st m r xs) (i+1) os L'):qaz P a0 (fun w'=>qq wo w') (RN wo.heap.size st) (isN wo.heap.size al st m r xs) i (o::os) (Li::L') :=
 qaz.plain H (fun ql w C I=>qke (h ql w C I) fun v w' z=>by
  have q:i≠al:=by simpa using E
  have f:i≠st:=by simpa using F
  refine⟨?_,C.trans z.1,zbu q f z.2⟩;unfold RN;rw[if_neg f];exact z.1) k
theorem qaz.nalloc(H:o.guard=none)(z:(i==al)=true)(E:(i==st)=false)(C:Array Value)(T:TypeId)(F:C.size=m)
  (h:∀(ql:Nat→Value) (w:World),(execOp (qaa a0 ql Li).eval o).run P w = .ok (.value (.pointer (some ⟨w.heap.size,0,none⟩))) (w.alloc (.cells C T)))
  (k:qaz P a0 (fun w'=>qq wo w') (RN wo.heap.size st) (isN wo.heap.size al st m r xs) (i+1) os L'):qaz P a0 (fun w'=>qq wo w') (RN wo.heap.size st) (isN wo.heap.size al st m r xs) i (o::os) (Li::L') :=
 qaz.plain H (fun ql w v I=>qu1 (h ql w) (by
  have f:i=al:=by simpa using z
  have q:i≠st:=by simpa using E
  refine⟨?_,Upd.alloc v _,?_⟩
  ·unfold RN;rw[if_neg q];exact(Upd.refl _ _).alloc _
  ·unfold isN;rw[if_pos f,←f,qpk];exact⟨_,T,C,rfl,v.size,qj _ _,F⟩)) k
theorem qaz.nstore(X:o.guard=none)(U:(i==al)=false)(V:(i==st)=true)(I:(Li.any fun p=>p.1==al)=true)(hr:r.size=m)
  (h:∀(ql:Nat→Value) (w:World) (g:Nat) (T:TypeId) (cs:Array Value),ql al = .pointer (some ⟨g,0,none⟩)→w.heap[g]? = some (.cells cs T (0,0))→cs.size=m→qp3 (isN wo.heap.size al st m r xs) ql w Li →
   zm P o (qaa a0 ql Li).eval w fun _ w'=>w'=w.setCells g 0 r.toList)
  (k:qaz P a0 (fun w'=>qq wo w') (RN wo.heap.size st) (isN wo.heap.size al st m r xs) (i+1) os L'):qaz P a0 (fun w'=>qq wo w') (RN wo.heap.size st) (isN wo.heap.size al st m r xs) i (o::os) (Li::L') :=
 qaz.plain X (fun ql w W F=>by
  have z:i≠al:=by simpa using U
  have C:i=st:=by simpa using V
  obtain⟨g,T,cs,M,N,J,K⟩:∃(g:Nat) (T:TypeId) (cs:Array Value),ql al = .pointer (some ⟨g,0,none⟩)∧wo.heap.size≤g∧w.heap[g]? = some (.cells cs T (0,0))∧cs.size=m:=by
   have key:∀Li:List (Nat × Nat),(Li.any fun p=>p.1==al)=true→qp3 (isN wo.heap.size al st m r xs) ql w Li→isN wo.heap.size al st m r xs al ql w:=by
    intro Li
    induction Li with
    | nil=>intro h;simp at h
    | cons p Li Z =>
     intro q F;rw[List.any_cons,Bool.or_eq_true] at q;rcases q with q | q
     ·have:p.1=al:=by simpa using q
      rw[←this];exact this▸F.1
     ·exact Z q F.2
   have:=key Li I F;unfold isN at this;rwa [if_pos rfl] at this
  refine qke (h ql w g T cs M J K F) fun v w' Y=> ?_
  subst Y;have E:=qba J 0 r.toList;have R:Upd (fun k=>wo.heap.size≤k) w (w.setCells g 0 r.toList):=((Upd.refl (· = g) w).setCells 0 r.toList).mono (fun k _ e=>by subst e;exact N);refine⟨?_,?_,?_⟩
  ·unfold RN;rw[if_pos C];refine⟨R,fun S T' H f=> ?_⟩;by_cases O:S=g
   ·subst O;rw[J] at f;cases f;exact⟨_,qov _ _ _,E⟩
   ·exact⟨H,rfl,((Upd.refl (· = g) w).setCells 0 r.toList).old f O⟩
  ·exact W.then R (fun k hk e=>by omega)
  ·unfold isN;rw[if_neg z,if_pos C,qho _ _ (fun e=>z e.symm)];refine⟨g,T,M,N,?_⟩;rw[E];congr 2;refine Array.ext_getElem? fun j=> ?_
   rw[qg9 cs 0 r.toList j (by rw[Array.length_toList];omega)];by_cases hj:j<r.size
   ·rw[if_pos (by rw[Array.length_toList];omega)];simp
   ·have z1:cs[j]? = none:=Array.getElem?_eq_none (by omega);have z2:r[j]? = none:=Array.getElem?_eq_none (by omega);rw[if_neg (by rw[Array.length_toList];omega),z1,z2]) k
end
theorem qs3(s:ByteArray)(f:List Int):strOfNums (qc7 s++f)=s++strOfNums f:=by
 unfold strOfNums qc7;rw[List.map_append,List.map_map];have:(s.data.toList.map ((fun n:Int=>UInt8.ofNat n.toNat) ∘ fun c:UInt8=>(c.toNat:Int)))=s.data.toList:=by
  conv=>rhs;rw[←List.map_id s.data.toList]
  refine List.map_congr_left fun c _=> ?_
  simp
 rw[this];apply ByteArray.ext;simp
theorem q63(n k:Nat)(h:k<qdc n):(n+(k+1))%64≠56:=by unfold qdc at h;omega
theorem q62(n:Nat):(n+(qdc n+1))%64=56:=by unfold qdc;omega
theorem q61(s:ByteArray)(w:World)(hs:s.size≤1000000000) :
  Calls Tryz.prog 94 #[.string s] w (qa7 (.string (qhg s)) w):=by
 have hz:=qla s.size
 have b5:(s.size:Int)≤1000000000:=by omega
 have S:=qj8 s
 have P:∀w:World,(convert 9 95 (.string s)).run Tryz.prog w = .ok (.slice (some ⟨w.heap.size,0,none⟩) s.size (grownCap w s.size 0 5)) (w.drew.alloc (.cells (bytesRow s (grownCap w s.size 0 5)) 5 ((bytesRow s (grownCap w s.size 0 5)).size,(bytesRow s (grownCap w s.size 0 5)).size+1))) :=
  fun w=>run_bytes_of_string w _ _ _ s Tryz.underlying9 Tryz.underlying95 Tryz.underlying5
 have hG:=qdx.ofS w s (grownCap w s.size 0 5) w.heap.size (Nat.le_refl _) (grownCap_ge _ _ _ _)
 have u0:Upd (fun k=>w.heap.size≤k) w (w.drew.alloc (.cells (bytesRow s (grownCap w s.size 0 5)) 5 ((bytesRow s (grownCap w s.size 0 5)).size,(bytesRow s (grownCap w s.size 0 5)).size+1))):=(Upd.refl _ _).drew.alloc _
 have Y:=qb hG
 have r:=qb S
 clear hG S
 go_enter Tryz.func94,Tryz.ntmps94
 go_upto_region 2 with fail
 generalize R:grownCap w s.size 0 5=K at *
 have H:=P w
 rw[R] at H
 clear P R
 refine wp_region_lit ?_
 refine zj rfl (v:= .string s) (w':=w) (by kernel_rfl) ?_
 refine zj rfl (v:= .slice (some ⟨w.heap.size,0,none⟩) s.size K) (w':=w.drew.alloc (.cells (bytesRow s K) 5 ((bytesRow s K).size,(bytesRow s K).size+1))) (by simp only[execOp];go_simp) ?_
 generalize w.drew.alloc (.cells (bytesRow s K) 5 ((bytesRow s K).size,(bytesRow s K).size+1))=w1 at Y u0 ⊢
 clear H
 refine zj rfl (v:= .slice (some ⟨w1.heap.size,0,none⟩) 1 1) (w':=w1.alloc (.cells #[.int .u8 128] 5)) (by kernel_rfl) ?_
 refine qhu rfl (.tmp 11) (.tmp 12) rfl w.heap.size _ _ rfl 128 _ _ rfl (qa Y) (by rw[qa r];omega) u0.size ?_
 intro v2 w2 E u2
 have u3:=u0.then u2 (fun q _ h=>((qa Y).ge h).1)
 clear u2 Y u0
 have i:(qc7 s++[128]).length=s.size+1:=by rw[List.length_append,qa r];rfl
 obtain⟨a2,c2,rfl⟩:=E.shape
 rw[i] at E ⊢
 have z:=qb E
 clear E i
 go_wp2_with fail
 go_loopw [4] (fun J wr=>∃(k:Nat) (a:Addr) (c:Nat),J = .slice (some a) (s.size+1+k) c∧k≤qdc s.size∧Hid (qdx wr w.heap.size J (qc7 s++(128::List.replicate k 0)))∧Upd (fun k=>w.heap.size≤k) w wr) (fun J _=>s.size+100-(match J with | .slice _ l _=>l | _=>0))
 case atStart=>exact⟨0,_,_,rfl,Nat.zero_le _,z,u3⟩
 case round =>
  obtain⟨k,a,c,rfl,hk,z,N⟩:=hrel;by_cases U:k<qdc s.size
  ·have L:=q63 s.size k U;have h1:((((s.size:Int)+1+(k:Int)))%64 != 56)=true:=by rw[bne_iff_ne];omega
   have a7:(k:Int)<64:=by omega
   have hb:=N.size;have F:(qc7 s++(128::List.replicate k (0:Int))).length≤1073741824:=by rw[List.length_append,qa r];simp;omega
   clear L;go_wp2_with (at_builtin;refine qhu rfl (.tmp 18) (.tmp 19) rfl w.heap.size _ _ rfl 0 _ _ rfl (qa z) F hb ?_);intro v' w5 f X;have u6:=N.then X (fun q _ h=>((qa z).ge h).1);obtain⟨a5,Z,rfl⟩:=f.shape;replace f:qdx w5 w.heap.size (Value.slice (some a5) (qc7 s++(128::(List.replicate k (0:Int)++[0]))).length Z) (qc7 s++(128::(List.replicate k 0++[0]))):=f;rw[←List.replicate_succ'] at f;have i:(qc7 s++(128::(List.replicate k (0:Int)++[0]))).length=s.size+1+(k+1):=by rw[List.length_append,qa r];simp;omega
   have T:(qc7 s++(128::(List.replicate (k+1) (0:Int)))).length=s.size+1+(k+1):=by rw[List.length_append,qa r];simp;omega
   rw[T] at f;rw[i];have I:=qb f;clear f X z i T;go_wp2;go_roundw
   case rel=>exact⟨k+1,a5,Z,rfl,by omega,I,u6⟩
   case measure=>simp;omega
  ·obtain rfl:k=qdc s.size:=by omega
   have L:=q62 s.size;have h1:((((s.size:Int)+1+(qdc s.size:Int)))%64 != 56)=false:=by rw[bne_eq_false_iff_eq];omega
   have a7:(qdc s.size:Int)<64:=by omega
   obtain⟨wo,rfl⟩:∃wo:World,wo=wr:=⟨_,rfl⟩;clear L;go_wp2_with fail
   go_loopw [4,5] (fun J iv wr=>∃(m:Nat) (a:Addr) (c:Nat),iv = .int .i64 (7-(m:Int))∧m≤8∧J = .slice (some a) (s.size+1+qdc s.size+m) c∧Hid (qdx wr w.heap.size J (qc7 s++(128::List.replicate (qdc s.size) 0)++(List.range m).map (qi6 s.size)))∧Upd (fun k=>w.heap.size≤k) w wr) (fun _ iv _=>(intOf iv+1).toNat)
   case atStart=>exact⟨0,_,_,rfl,by omega,rfl,by simpa using z,N⟩
   case round =>
    obtain⟨m,a,c,rfl,hm,rfl,z,N⟩:=hrel;by_cases U:m<8
    ·have b4:(m:Int)<8:=by omega
     have hb:=N.size;have F:(qc7 s++(128::List.replicate (qdc s.size) (0:Int))++(List.range m).map (qi6 s.size)).length≤1073741824:=by rw[List.length_append,List.length_append,qa r];simp;omega
     have M:∀W,Calls Tryz.prog 96 #[.int .u64 ((s.size:Int)*8),.int .i64 (8*(7-(m:Int)))] W fun e w'=>e = .returned (.int .u64 ((s.size:Int)*8 / 2 ^ (8*(7-(m:Int))).toNat))∧W=w' :=
      fun W=>qju ((s.size:Int)*8) (8*(7-(m:Int))) W (by omega) (by omega) (by omega) (by omega)
     have hq:qi6 s.size m=((s.size:Int)*8 / 2 ^ (8*(7-(m:Int))).toNat)%256:=by
      unfold qi6;rw[show (8*(7-(m:Int))).toNat=56-8*m by omega,Int.mul_comm]
     have V:0≤(s.size:Int)*8 / 2 ^ (8*(7-(m:Int))).toNat∧(s.size:Int)*8 / 2 ^ (8*(7-(m:Int))).toNat≤8000000000:=by
      have hp:(1:Int)≤2 ^ (8*(7-(m:Int))).toNat:=Int.pow_pos (by decide);refine⟨Int.ediv_nonneg (by omega) (by omega),?_⟩;refine Int.le_trans (Int.ediv_le_self _ (by omega)) (by omega)
     generalize (s.size:Int)*8 / 2 ^ (8*(7-(m:Int))).toNat=q at M hq V;have a6:=qb M;have HQ:=qb hq;clear M hq;obtain⟨q0,q1⟩:=V;go_wp2_with fail;refine(qa a6 _).mono ?_;rintro e w' ⟨rfl,rfl⟩;go_wp2_with (at_builtin;refine qhu rfl (.tmp 25) (.tmp 32) rfl w.heap.size _ _ rfl _ _ _ rfl (qa z) F hb ?_);intro v' w5 f X;have u6:=N.then X (fun q _ h=>((qa z).ge h).1);obtain⟨a5,Z,rfl⟩:=f.shape;have e1:qc7 s++(128::List.replicate (qdc s.size) 0)++(List.range (m+1)).map (qi6 s.size)=qc7 s++(128::(List.replicate (qdc s.size) 0++((List.range m).map (qi6 s.size)++[q%256]))):=by rw[List.range_succ,List.map_append,List.map_cons,List.map_nil,qa HQ];simp
     have i:(qc7 s++(128::(List.replicate (qdc s.size) (0:Int)++((List.range m).map (qi6 s.size)++[q%256])))).length=s.size+1+qdc s.size+(m+1):=by rw[List.length_append,qa r];simp;omega
     rw[i] at f ⊢;rw[←e1] at f;have I:=qb f;clear f X z e1 i F;go_wp2;go_roundw
     case rel=>exact⟨m+1,a5,Z,by congr 1;omega,by omega,rfl,I,u6⟩
     case measure=>simp[intOf];omega
    ·obtain rfl:m=8:=by omega
     rw[show (7:Int)-((8:Nat):Int) = -1 from rfl];have a8:=qs2 (qa z);have C:strOfNums (qc7 s++(128::List.replicate (qdc s.size) 0)++(List.range 8).map (qi6 s.size))=qhg s:=by
      unfold qhg qm2;rw[List.append_assoc,qs3]
     generalize strOfNums (qc7 s++(128::List.replicate (qdc s.size) 0)++(List.range 8).map (qi6 s.size))=b3 at a8 C;have O:=qb C;clear C;go_wp2;go_ret;exact⟨by rw[qa O];rfl,N.below' (Nat.le_refl _) (fun _ h=>h) |> fun h=>Upd.of_below h (Nat.le_refl _)⟩
theorem q2f(s:ByteArray):(qhg s).size%64=0∧(qhg s).size≤s.size+73:=by
 unfold qhg;rw[ByteArray.size_append,strOfNums_size,ql7];have:=qla s.size;have:=qzk s.size;omega
theorem q0l(p:ByteArray)(i:Nat)(h:i+64≤p.size):(p.extract i p.size).extract 0 64=p.extract i (i+64):=by
 rw[ByteArray.extract_extract];congr 1;omega
theorem q40(p:ByteArray)(i:Nat)(h:i+64≤p.size):(p.extract i p.size).extract 64 (p.extract i p.size).size=p.extract (i+64) p.size:=by
 rw[ByteArray.extract_extract];congr 1;rw[ByteArray.size_extract];omega
theorem qz0(p:ByteArray)(n:Nat)(h:List Int)(m:p.size%64=0)(f:64*n+64≤p.size) :
  qin ((p.size-64*n) / 64) h (p.extract (64*n) p.size)=qin ((p.size-64*(n+1)) / 64) (qks h (p.extract (64*n) (64*n+64))) (p.extract (64*(n+1)) p.size):=by
 obtain⟨k,i⟩:∃k,(p.size-64*n) / 64=k+1:=⟨(p.size-64*n) / 64-1,by omega⟩
 rw[i,show (p.size-64*(n+1)) / 64=k by omega]
 show qin k (qks h ((p.extract (64*n) p.size).extract 0 64)) ((p.extract (64*n) p.size).extract 64 (p.extract (64*n) p.size).size)=_
 rw[q0l p _ f,q40 p _ f,show 64*n+64=64*(n+1) by omega]
def z32:Array Value:=((List.replicate 32 (0:Int)).map (Value.int .u8)).toArray
def z8r:Array Value:=((List.replicate 8 (0:Int)).map (Value.int .u64)).toArray
def qw7:Array Value:=(qh3.map (Value.int .u64)).toArray
attribute [local go_sem ↓ high] qox qph qi5 qjd
attribute [local go_sem] zat za4 qxm qyi
theorem q7t(s:ByteArray)(w:World)(hs:s.size≤1000000000) :
  Calls Tryz.prog 50 #[.string s] w fun e w'=>e = .returned (.agg ((qen s).map (Value.int .u8)).toArray)∧qq w w':=by
 obtain⟨c6,c7⟩:=q2f s
 have hp:=fun W=>q61 s W hs
 have M:qen s=qf2 (qin ((qhg s).size / 64) qh3 (qhg s)) 32:=rfl
 generalize qhg s=p at c6 c7 hp M
 have HP:=qb hp
 have V:=qb M
 clear hp M
 go_enter Tryz.func50,Tryz.ntmps50
 go_upto_region 0 with fail
 refine wp_region_lit ?_
 refine zj rfl (v:= .pointer (some ⟨w.heap.size,0,none⟩)) (w':=w.alloc (.cells z32 35)) (by kernel_rfl) ?_
 have n0:qq w (w.alloc (.cells z32 35)):=(Upd.refl _ _).alloc _
 have P:(w.alloc (.cells z32 35)).heap[w.heap.size]? = some (.cells z32 35 (0,0)):=qj _ _
 generalize w.alloc (.cells z32 35)=w1 at n0 P ⊢
 go_upto_region 1 with fail
 refine wp_region_lit ?_
 refine zj rfl (v:= .agg qw7) (w':=w1) (by kernel_rfl) ?_
 refine zj rfl (v:= .pointer (some ⟨w1.heap.size,0,none⟩)) (w':=w1.alloc (.cells z8r 175)) (by kernel_rfl) ?_
 have n2:qq w1 (w1.alloc (.cells z8r 175)):=(Upd.refl _ _).alloc _
 have E:(w1.alloc (.cells z8r 175)).heap[w1.heap.size]? = some (.cells z8r 175 (0,0)):=qj _ _
 generalize w1.alloc (.cells z8r 175)=w2 at n2 E ⊢
 refine wpList_store_row rfl _ _ _ rfl w1.heap.size qw7 rfl rfl 175 _ E (by kernel_rfl) (by kernel_rfl) (by kernel_rfl) ?_
 have I:(w2.setRow w1.heap.size qw7).heap[w1.heap.size]? = some (.cells qw7 175 (0,0)):=setRow_heap w2 w1.heap.size _ qw7 175 (0,0) E
 have N:qq w1 (w2.setRow w1.heap.size qw7):=n2.setRow (fun h=>by omega) _
 generalize w2.setRow w1.heap.size qw7=w3 at I N ⊢
 have e4:w.heap.size<w1.heap.size:=zr P
 have vR:=N.old P (fun h=>h)
 have nA:=n0.trans N
 have vH:qbg .u64 w3 w1.heap.size qh3:=⟨_,I⟩
 have e5:=vH.lt
 generalize w1.heap.size=B at vH e4 e5 ⊢
 clear n0 P n2 E I N
 go_wp2_with fail
 refine(qa HP w3).mono ?_
 rintro e w4 ⟨rfl,n4⟩
 have f9:=n4.size
 replace vR:=n4.old vR (fun h=>h)
 replace vH:=vH.upd n4 (fun h=>h)
 replace nA:=nA.trans n4
 clear n4 HP
 go_wp2_with fail
 go_loopw [5,6,7] (fun iv _ _ wr=>∃(n:Nat) (f:List Int),iv = .int .i64 (64*(n:Int))∧64*n≤p.size∧f.length=8∧qep f∧Hid (qin ((p.size-64*n) / 64) f (p.extract (64*n) p.size)=qin (p.size / 64) qh3 p)∧qbg .u64 wr B f∧Upd (fun k=>k=B) w4 wr) (fun iv _ _ _=>p.size-(intOf iv).toNat)
 case atStart=>exact⟨0,qh3,rfl,by omega,rfl,qkx,by rw[show 64*0=0 from rfl,Nat.sub_zero];exact qb (by simp),vH,Upd.refl _ _⟩
 case round =>
  clear vH;obtain⟨n,f,rfl,hn,a8,b3,HE,hH,J⟩:=hrel;by_cases f6:64*n<p.size
  ·have b9:64*n+64≤p.size:=by omega
   have L:(p.extract (64*n) (64*n+64)).size=64:=by rw[ByteArray.size_extract];omega
   have hC:=fun W=>qpq f (p.extract (64*n) (64*n+64)) W a8 b3 L
   have b5:=qsb f (p.extract (64*n) (64*n+64)) ⟨a8,b3⟩;have H:=(qz0 p n f c6 b9).symm.trans (qa HE);obtain⟨TH,hb⟩:=hH;generalize a7:p.extract (64*n) (64*n+64)=bl at hC b5 H;generalize qks f bl=d at hC b5 H;obtain⟨d8,du⟩:=b5;have HC:=qb hC;have c8:=qb a7;have O:=qb H;clear hC L H a7 HE;obtain⟨r,rfl⟩:∃r:World,r=wr:=⟨_,rfl⟩;have e8:=J.size;generalize b4:(f.map (Value.int .u64)).toArray=cv at hb HC;have b8:cv.size=8:=by rw[←b4];simpa using a8
   have f0:=qb b4;clear b4;have c3:=qas hb 8 b8;have d5:64*(n:Int)<(p.size:Int):=by omega
   have f7:64*(n:Int)+64≤(p.size:Int):=by omega
   have f8:(p.size:Int)≤2000000000:=by omega
   have d6:(64*(n:Int)).toNat=64*n:=by omega
   have d9:IntKind.i64.wrap (64*(n:Int)+64)=64*(n:Int)+64:=IntWalk.i64_in _ (by omega);have e0:0≤64*(n:Int):=by omega
   have e2:0≤64*(n:Int)+64:=by omega
   have e3:64*(n:Int)≤64*(n:Int)+64:=by omega
   have d7:(64*(n:Int)+64).toNat=64*n+64:=by omega
   go_wp2_with fail;refine q98 (by kernel_rfl) [[],[],[],[],[(3,23)],[(1,21),(2,22),(4,24)],[(0,20),(5,25)],[(6,26)],[(7,19)],[(7,19)],[],[(10,6),(8,27)],[(9,28)]] 49 rfl (by kernel_rfl) [(0,20),(1,21),(2,22),(3,23),(4,24),(5,25),(6,26),(7,19),(8,27),(9,28),(10,6),(12,7)] (by kernel_rfl) 10 11 8 rfl rfl rfl rfl ((d.map (Value.int .u64)).toArray)
    [.agg cv,.string p,.int .i64 (64*(n:Int)),.int .i64 (64*(n:Int)),.int .i64 (64*(n:Int)+64),.string bl,.tuple #[.agg (d.map (Value.int .u64)).toArray,.bool true],.tuple #[.agg (d.map (Value.int .u64)).toArray,.bool true],.agg (d.map (Value.int .u64)).toArray,.bool true,undef,undef,.bool true] ?_ ?_
   ·refine .nval rfl rfl rfl ?_ <| .nval rfl rfl rfl ?_ <| .nval rfl rfl rfl ?_ <| .nval rfl rfl rfl ?_ <| .nval rfl rfl rfl ?_ <| .nval rfl rfl rfl ?_ <| .nval rfl rfl rfl ?_ <| .nval rfl rfl rfl ?_ <| .nval rfl rfl rfl ?_ <| .nval rfl rfl rfl ?_ <| .nalloc rfl rfl rfl z8r 175 rfl ?_ <| .nstore rfl rfl rfl rfl (by simp[d8]) ?_ <| .nval rfl rfl rfl ?_ <| .nil
    ·intro ql z K _;have hr:=qap c3 K (fun h=>h);unfold zm;simp only[qaa];go_simp;exact⟨Upd.refl _ _,rfl⟩
    ·intro ql z K _;unfold zm;simp only[qaa];go_simp;exact⟨Upd.refl _ _,rfl⟩
    ·intro ql z K _;unfold zm;simp only[qaa];go_simp;exact⟨Upd.refl _ _,rfl⟩
    ·intro ql z K _;unfold zm;simp only[qaa];go_simp;exact⟨Upd.refl _ _,rfl⟩
    ·rintro ql z K ⟨m,-⟩;replace m:ql 3 = .int .i64 (64*(n:Int)):=m;unfold zm;simp only[qaa];go_simp;exact⟨Upd.refl _ _,rfl⟩
    ·rintro ql z K ⟨m,S,p2,-⟩;replace m:ql 1 = .string p:=m;replace S:ql 2 = .int .i64 (64*(n:Int)):=S;replace p2:ql 4 = .int .i64 (64*(n:Int)+64):=p2;have a7:=qa c8;unfold zm;simp only[qaa];go_simp;exact⟨Upd.refl _ _,rfl⟩
    ·rintro ql z K ⟨m,S,-⟩;replace m:ql 0 = .agg cv:=m;replace S:ql 5 = .string bl:=S;unfold zm;simp only[qaa];go_simp;refine(qa HC z).mono ?_;rintro e w6 ⟨rfl,n6⟩;exact⟨_,rfl,n6,rfl⟩
    ·rintro ql z K ⟨m,-⟩;replace m:ql 6 = .tuple #[.agg (d.map (Value.int .u64)).toArray,.bool true]:=m;generalize (d.map (Value.int .u64)).toArray=dv at m ⊢;unfold zm;simp only[qaa];go_simp;exact⟨Upd.refl _ _,rfl⟩
    ·rintro ql z K ⟨m,-⟩;replace m:ql 7 = .tuple #[.agg (d.map (Value.int .u64)).toArray,.bool true]:=m;generalize (d.map (Value.int .u64)).toArray=dv at m ⊢;unfold zm;simp only[qaa];go_simp;exact⟨Upd.refl _ _,rfl⟩
    ·rintro ql z K ⟨m,-⟩;replace m:ql 7 = .tuple #[.agg (d.map (Value.int .u64)).toArray,.bool true]:=m;generalize (d.map (Value.int .u64)).toArray=dv at m ⊢;unfold zm;simp only[qaa];go_simp;exact⟨Upd.refl _ _,rfl⟩
    ·intro ql z;rfl
    ·rintro ql z g T cs e1 hg f4 ⟨-,S,-⟩;replace S:ql 8 = .agg (d.map (Value.int .u64)).toArray:=S;have c4:=qd0 (o:=0) (n:=8) (A:=(d.map (Value.int .u64)).toArray) hg (by omega) (by simp[d8]) (by simp[Value.oneCell']);generalize (d.map (Value.int .u64)).toArray=dv at S c4 ⊢;unfold zm;simp only[qaa];go_simp
    ·rintro ql z K ⟨m,-⟩;replace m:ql 9 = .bool true:=m;unfold zm;simp only[qaa];go_simp;exact⟨Upd.refl _ _,rfl⟩
   ·intro ql z g T n5 d2 f5 hg hv;have c5:ql 12 = .bool true:=hv 12 (by decide) (by decide) (by decide);clear hv;simp only[qaa,d2,c5];clear d9 e0 e2 e3 d6 d7;go_simp;have a6:=n5.old hb (fun h=>h);have u5:=J.then n5 (fun _ _ h=>h.elim);clear c3 hb HC n5 J;go_upto_region 7 with fail;refine wp_region_lit ?_;refine wpList_load_row rfl _ _ rfl g rfl T _ _ _ hg Tryz.underlying175 rfl (by rw[List.size_toArray,List.length_map,d8];exact Tryz.infoR8) ?_;refine wpList_store_row rfl _ _ _ rfl B (d.map (Value.int .u64)).toArray rfl rfl TH _ a6 (by rw[List.size_toArray,List.length_map,d8];exact Tryz.infoR8) (by simp[d8,b8]) (by simp[Value.oneCell']) ?_;have hF:=setRow_heap z B _ (d.map (Value.int .u64)).toArray TH (0,0) a6;have u6:=u5.setRow (g:=B) (fun _=>rfl) (d.map (Value.int .u64)).toArray;generalize z.setRow B (d.map (Value.int .u64)).toArray=w6 at hF u6 ⊢;clear hg a6 u5;go_wp2;go_roundw
    case rel=>exact⟨n+1,d,by congr 1,by omega,d8,du,O,⟨TH,hF⟩,u6⟩
    case measure=>simp[intOf];omega
  ·have he:64*n=p.size:=by omega
   have Z:=qa HE;rw[show (p.size-64*n) / 64=0 by omega] at Z;have Y:qen s=qf2 f 32:=by rw[qa V,←Z];rfl
   have b7:=qb Y;clear Y Z HE V;have d5:¬64*(n:Int)<(p.size:Int):=by omega
   have e8:=J.size;have U:=J.old vR (by omega);have nB:=nA.then J (fun q hq e=>by omega);clear vR nA J;obtain⟨r,rfl⟩:∃r:World,r=wr:=⟨_,rfl⟩;go_upto_region 8 with fail;refine wp_region_lit ?_;refine zj rfl (v:= .agg z32) (w':=r) (by kernel_rfl) ?_;refine zj rfl (v:= .pointer (some ⟨r.heap.size,0,none⟩)) (w':=r.alloc (.cells z32 35)) (by kernel_rfl) ?_;have n2:qq r (r.alloc (.cells z32 35)):=(Upd.refl _ _).alloc _;have E:(r.alloc (.cells z32 35)).heap[r.heap.size]? = some (.cells z32 35 (0,0)):=qj _ _;generalize r.alloc (.cells z32 35)=z at n2 E ⊢;refine wpList_store_row rfl _ _ _ rfl r.heap.size z32 rfl rfl 35 _ E (by kernel_rfl) (by kernel_rfl) (by kernel_rfl) ?_;have I:(z.setRow r.heap.size z32).heap[r.heap.size]? = some (.cells z32 35 (0,0)):=setRow_heap z r.heap.size _ z32 35 (0,0) E;have N:qq r (z.setRow r.heap.size z32):=n2.setRow (fun h=>by omega) _;generalize z.setRow r.heap.size z32=w6 at I N ⊢;have vO:qbg .u8 w6 r.heap.size (List.replicate 32 0):=⟨_,I⟩;have e7:=vO.lt;have e6:B<r.heap.size:=hH.lt;replace hH:=hH.upd N (fun h=>h);replace U:=N.old U (fun h=>h);replace nB:=nB.trans N;generalize r.heap.size=C at vO e6 e7 ⊢;clear n2 E I N;go_wp2_with fail
   go_loopw [9] (fun iv wr=>∃i:Nat,iv = .int .i64 (i:Int)∧i≤32∧qbg .u8 wr C (qf2 f i)∧Upd (fun k=>k=C) w6 wr) (fun iv _=>32-(intOf iv).toNat)
   case atStart=>exact⟨0,rfl,by omega,by rw[qhy];exact vO,Upd.refl _ _⟩
   case round =>
    obtain⟨i,rfl,hi,X,J⟩:=hrel;by_cases e9:i<32
    ·have c0:wr.cell? ⟨B,i / 4,none⟩=some (.int .u64 (wd f (i / 4))):=(hH.upd J (by omega)).cell (by omega);obtain⟨a0,d1⟩:=b3.at (i / 4);obtain⟨v1,c1⟩:∃v,wr.cell? ⟨C,i,none⟩=some v:=⟨_,X.cell (by rw[qgy];omega)⟩;have z1:=X.free i;have f1:(i:Int)<32:=by omega
     have d3:IntKind.i64.wrap ((i:Int) / 4)=(i:Int) / 4:=IntWalk.i64_in _ (by omega);have d4:((i:Int) / 4).toNat=i / 4:=by omega
     have f2:(0:Int)≤(i:Int) / 4:=by omega
     have f3:(i:Int) / 4<8:=by omega
     have H:=X.set i (byI f i);rw[←qhx] at H;have O:=qb H;clear H;have hq:byI f i=wd f (i / 4) / 2 ^ (24-8*((i:Int)%4)).toNat%256:=by
      unfold byI;rw[show (24-8*((i:Int)%4)).toNat=24-8*(i%4) by omega]
     have R:∀W,Calls Tryz.prog 96 #[.int .u64 (wd f (i / 4)),.int .i64 (24-8*((i:Int)%4))] W fun e w'=>e = .returned (.int .u64 (wd f (i / 4) / 2 ^ (24-8*((i:Int)%4)).toNat))∧W=w' :=
      fun W=>qju (wd f (i / 4)) (24-8*((i:Int)%4)) W a0 (by omega) (by omega) (by omega)
     have c2:0≤wd f (i / 4) / 2 ^ (24-8*((i:Int)%4)).toNat∧wd f (i / 4) / 2 ^ (24-8*((i:Int)%4)).toNat<4294967296:=by
      have hp:(1:Int)≤2 ^ (24-8*((i:Int)%4)).toNat:=Int.pow_pos (by decide);refine⟨Int.ediv_nonneg a0 (by omega),?_⟩;exact Int.lt_of_le_of_lt (Int.ediv_le_self _ a0) d1
     generalize wd f (i / 4) / 2 ^ (24-8*((i:Int)%4)).toNat=q at R hq c2;generalize wd f (i / 4)=x at c0 R;have d0:=qb R;rw[hq] at O;have us:=qb (J.set1 i (.int .u8 (q%256)));clear R hq;obtain⟨q0,q1⟩:=c2;go_wp2_with fail;refine(qa d0 _).mono ?_;rintro e w' ⟨rfl,rfl⟩;go_wp2;clear d3 d4;go_roundw
     case rel=>exact⟨i+1,by go_num,by omega,qa O,qa us⟩
     case measure=>simp[intOf];omega
    ·obtain rfl:i=32:=by omega
     rw[show ((32:Nat):Int)=32 from rfl];have b6:=J.old U (by omega);have nn:=nB.then J (by intro q hq h;omega);have F:=qgy f 32;generalize L:qf2 f 32=bs at X F;have c9:=qb L;clear L U nB J vO;obtain⟨TO,X⟩:=X;go_upto_region 13 with fail;refine wp_region_lit ?_;refine wpList_load_row rfl _ _ rfl C rfl TO _ _ _ X Tryz.underlying35 rfl (by rw[List.size_toArray,List.length_map,F];exact Tryz.infoHash) ?_;refine wpList_store_row rfl _ _ _ rfl w.heap.size (bs.map (Value.int .u8)).toArray rfl rfl 35 _ b6 (by rw[List.size_toArray,List.length_map,F];exact Tryz.infoHash) (by have h9:z32.size=32:=rfl;rw[h9];simp[F]) (by simp[Value.oneCell']) ?_;have hF:=setRow_heap wr w.heap.size _ (bs.map (Value.int .u8)).toArray 35 (0,0) b6;have nF:=nn.setRow (g:=w.heap.size) (fun h=>by omega) (bs.map (Value.int .u8)).toArray;generalize wr.setRow w.heap.size (bs.map (Value.int .u8)).toArray=wF at hF nF ⊢;clear nn X b6;go_wp2_with fail;refine bodyPost_ret (results_cell_row rfl _ _ w.heap.size 35 _ _ _ rfl hF Tryz.underlying35 rfl (by rw[List.size_toArray,List.length_map,F];exact Tryz.infoHash)) rfl ?_;exact⟨by rw[qa b7,qa c9],nF⟩
end
section
open Go.RowKit
attribute [local go_sem ↓ high] zl qag qaj qar
attribute [local go_sem] qbl qcl qcn qx
theorem q8h(x y:Int)(w:World):(qy0 #[(0,.int .u8 x),(1,.int .u8 y)]).run Tryz.prog w = .ok (.agg (qu (x::y::List.replicate 30 0)).toArray) w:=run_build w _ _ _ (by kernel_rfl)
theorem q2q(p:List Int)(F:p.length=32)(w:World):Calls Tryz.prog 12 #[.agg (qu p).toArray] w (qa7 (.agg (qu (ofI p)).toArray) w):=by
 have E:(ofI p).length=32:=qb9 _;go_enter Tryz.func12,Tryz.ntmps12;go_upto_region 1 with fail;have C:=(qb7 w p F).new ((Upd.refl _ _).alloc (.cells (qu zg).toArray 35));have v:=qb7 (w.alloc (.cells (qu p).toArray 35)) zg qm;rw[World.size_alloc] at v;have H:qq w ((w.alloc (.cells (qu p).toArray 35)).alloc (.cells (qu zg).toArray 35)):=((Upd.refl _ _).alloc _).alloc _;generalize (w.alloc (.cells (qu p).toArray 35)).alloc (.cells (qu zg).toArray 35)=w1 at C v H ⊢;obtain⟨A,r⟩:∃A,A=w.heap.size:=⟨_,rfl⟩;obtain⟨B,z⟩:∃B,B=w.heap.size+1:=⟨_,rfl⟩;rw[←z] at v ⊢;rw[←r] at C ⊢;have N:w.heap.size≤B:=by omega
 clear r z;have q:(convert 95 9 (.slice (some ⟨A,0,none⟩) 32 32)).run Tryz.prog w1 = .ok (.string (strOfNums p)) w1 :=
  qda w1 _ _ _ Tryz.underlying95 Tryz.underlying5 Tryz.underlying9 A 32 _ _ _ 32 F C.at_
 have f:Calls Tryz.prog 50 #[.string (strOfNums p)] w1 (fun e w'=>e = .returned (.agg (qu (ofI p)).toArray)∧qq w1 w'):=q7t (strOfNums p) w1 (by rw[strOfNums_size,F];omega);have J:=qb v;clear C v;generalize ofI p=K at *
 go_wp2_with fail;refine f.mono ?_;rintro e R ⟨rfl,I⟩;have m:=(qa J).new I;have P:=m.stOk K E;have L:=qb (m.put K E);have M:=qb ((H.trans I).then (zc (w:=R) (b:=B) (qu K)) (fun i S e=>by omega));clear m H I f q;go_wp2_with fail;have O:=qa L;exact bodyPost_ret (results_cell_row rfl _ _ B _ _ _ _ rfl O.at_ Tryz.underlying35 rfl (by rw[List.size_toArray,qal,E];exact Tryz.infoHsh)) rfl ⟨rfl,qa M⟩
def qmx(x:Int):List Int:=x::List.replicate 31 0
def q9v(ours cap:Int):SetupV:=⟨7,cap,ours,qmx 1,⟨#[97]⟩,⟨#[98]⟩⟩
def zdv(ours cap:Int):SetupV:=⟨7,cap,IntKind.u64.wrap (cap-ours),qmx 2,⟨#[98]⟩,⟨#[97]⟩⟩
def q33(p:Array (Nat × Value)):Sem Value:=Instr.build 78 p
theorem qmg(p:Array (Nat × Value)):Instr.build 78 p=q33 p:=rfl
theorem q8k(ours cap:Int)(w:World):(q33 #[(0,.int .u32 7),(1,.int .u64 cap),(2,.int .u64 ours),(3,.agg (qu (qmx 1)).toArray),(4,.string ⟨#[97]⟩),(5,.string ⟨#[98]⟩)]).run Tryz.prog w = .ok (.agg (q9v ours cap).cells.toArray) w:=run_build w _ _ _ (by kernel_rfl)
theorem q8l(o cap:Int)(w:World):(q33 #[(0,.int .u32 7),(1,.int .u64 cap),(2,.int .u64 o),(3,.agg (qu (qmx 2)).toArray),(4,.string ⟨#[98]⟩),(5,.string ⟨#[97]⟩)]).run Tryz.prog w = .ok (.agg (SetupV.cells ⟨7,cap,o,qmx 2,⟨#[98]⟩,⟨#[97]⟩⟩).toArray) w:=run_build w _ _ _ (by kernel_rfl)
def zag(p:Array (Nat × Value)):Sem Value:=Instr.build 97 p
theorem qmh(p:Array (Nat × Value)):Instr.build 97 p=zag p:=rfl
def zdc(a b:SetupV):List Value:=a.cells++b.cells
theorem Tryz.infoSt2:(Tryz.prog.info? 97).map (·.size)=some 74:=by kernel_rfl
def za3(x v:Value):Sem Unit:=Instr.storeAt 97 x v
theorem qje(x v:Value):Instr.storeAt 97 x v=za3 x v:=rfl
theorem qyj(b o:Nat)(A:Array Value)(w:World):(za3 (.pointer (some ⟨b,o,none⟩)) (.agg A)).run Tryz.prog w=if stOk w b o 74 A=true then .ok () (w.setCells b o A.toList) else qel Tryz.prog 97 w b o A :=
 qaw 97 74 Tryz.infoSt2 b o A w
def zdx:List Value:=ql9++ql9
def zaf:Sem Value:=Instr.alloc 97 true (.tuple #[])
theorem qis:Instr.alloc 97 true (.tuple #[])=zaf:=rfl
theorem qv4(w:World):zaf.run Tryz.prog w = .ok (.pointer (some ⟨w.heap.size,0,none⟩)) (w.alloc (.cells zdx.toArray 97)):=by kernel_rfl
theorem zbe(m f q i:Int)(w:World):(zag #[(0,.agg (q9v m f).cells.toArray),(1,.agg (SetupV.cells ⟨7,i,q,qmx 2,⟨#[98]⟩,⟨#[97]⟩⟩).toArray)]).run Tryz.prog w = .ok (.agg (zdc (q9v m f) ⟨7,i,q,qmx 2,⟨#[98]⟩,⟨#[97]⟩⟩).toArray) w:=run_build w _ _ _ (by kernel_rfl)
attribute [local go_sem ↓ high] qmg qmh qje qis
attribute [local go_sem] zbe qyj qv4 q8k q8l
end
section
open Go.RowKit
theorem q3a{c:Ch}(h:qek c=0):c.sign=((c.signing.say (qcs c)).turned,(qcs c).on c.s.ch,0):=by unfold Ch.sign;rw[if_pos h]
theorem qj3{c:Ch}{m:MsgV}(f:qa9 3 c.xs=true)(i:m.number=c.k.heard+1)(q:qh5 c m=false):c.hearSign m=(c.signedBy,[c.signedBy.revocation],0):=by
 have h:qcy c m=0:=by
  unfold qcy;rw[f,q,if_neg (by decide),if_neg (fun h=>h i),if_neg (by decide)]
 unfold Ch.hearSign;rw[if_pos h]
def a0:Ch:=Ch.new (q9v 10 10)
def b0:Ch:=Ch.new (zdv 10 10)
section
variable (hv:Vector Int 32)
def a1:Ch:=(a0.offer 4 hv 9).1
def m1:MsgV:=(a0.offer 4 hv 9).2.1
def b1:Ch:=(b0.hearAdd (m1 hv)).1
noncomputable def a2:Ch:=(a1 hv).sign.1
noncomputable def b2:Ch:=(b1 hv).signedBy
noncomputable def a3:Ch:=((a2 hv).hearRevoke ⟨7,7,0,0,qc8 (qmx 2) 65535 16,0,0⟩).1
end
attribute [local go_sem ↓ high] zl qag qaj qar qz zb ze zi qmg qmh qje qis qb5
attribute [local go_sem] qbl qcl qcn qdm qx qax qay qa4 qyj qv4 qeg q0u q0v
end
section
open Go.RowKit
section
variable {w0 w w':World}{p gA gB:Nat}{SA SB:Nat→Prop}{a b a' b':Ch}{wa wb:List MsgV}{ua ub:Value}{bad:Bool}
end
attribute [local go_sem ↓ high] qje qis qb5
attribute [local go_sem] qx qyj qv4 qeg
end
section
open Go.RowKit
section
variable {w0 w wD w':World}{p gA gB:Nat}{SA SB S:Nat→Prop}{a b a' b':Ch}{wa wb:List MsgV}{ua ub:Value}{bad:Bool}
end
attribute [local go_sem ↓ high] qz zb ze zi qak
attribute [local go_sem] qax qay qa4 qco qx
end
section
open Go.RowKit
theorem q8p(w:World):(q4d 0 #[]).run Tryz.prog w = .ok (.slice (some ⟨w.heap.size,0,none⟩) 0 0) (w.alloc (.cells #[] 101)):=by
 obtain⟨i,z,m,q,r⟩:=qc6 Tryz.zeroMsg;have f:i.size=38:=by have:=Tryz.infoMsg;rw[m] at this;simpa using this
 show (Instr.buildSlice 124 0 #[]).run Tryz.prog w=_;simp[Instr.buildSlice,run_underlying Tryz.underlying124,sizeOf,typeInfo,zeroValue,m,q,f,Instr.fill,newRow];rw[Array.eq_empty_of_size_eq_zero (xs:=Array.map _ (Array.range 0)) (by simp)]
section
variable {w0 w:World}{p gA gB:Nat}{SA SB:Nat→Prop}{a b:Ch}{wa wb:List MsgV}{ua ub:Value}{bad:Bool}
end
attribute [local go_sem ↓ high] qz zb ze zi qak
attribute [local go_sem] qax qay qa4 qco q8p qx
end
section
open Go.RowKit
section
variable {w0 w w':World}{p K:Nat}{S T:Nat→Prop}{a b a' b':Ch}{wa wb wa' wb':List MsgV}{bad bad':Bool}{m m':MsgV}
end
structure Pr where
 a:Ch
 b:Ch
 wa:List MsgV
 wb:List MsgV
 bad:Bool
noncomputable def Pr.hears0(P:Pr):Pr × Bool:=match P.wa with
 | []=>(P,false)
 | m::ms=>(⟨(P.a.hear m).1,P.b,ms,P.wb++(P.a.hear m).2.1,P.bad || decide ((P.a.hear m).2.2≠0)⟩,true)
noncomputable def Pr.hears1(P:Pr):Pr × Bool:=match P.wb with
 | []=>(P,false)
 | m::ms=>(⟨P.a,(P.b.hear m).1,P.wa++(P.b.hear m).2.1,ms,P.bad || decide ((P.b.hear m).2.2≠0)⟩,true)
structure HearOk(c:Ch)(m:MsgV)(other:List MsgV):Prop where
 inv:c.Inv
 kind:m.kind=3∨m.kind=4∨m.kind=5∨m.kind=6∨m.kind=7∨m.kind=8
 says:∀l∈(c.hear m).2.1,MsgOk l
 few:other.length+(c.hear m).2.1.length≤1000000
def Pr.Ok0(P:Pr):Prop:=match P.wa with | []=>True | m::ms=>MsgOk m∧HearOk P.a m P.wb∧ms.length<1000000
def Pr.Ok1(P:Pr):Prop:=match P.wb with | []=>True | m::ms=>MsgOk m∧HearOk P.b m P.wa∧ms.length<1000000
structure SignOk(c:Ch):Prop where
 key:c.s.key.size≤100000000
 ch:0≤c.s.ch∧c.s.ch<4294967296
 few:c.news.length<1000000
 xs:c.xs.length≤16
noncomputable def Pr.sign0(P:Pr):Pr:= {P with a:=P.a.sign.1,wb:=if P.a.sign.2.2=0 then P.wb++[P.a.sign.2.1] else P.wb}
noncomputable def Pr.sign1(P:Pr):Pr:= {P with b:=P.b.sign.1,wa:=if P.b.sign.2.2=0 then P.wa++[P.b.sign.2.1] else P.wa}
noncomputable def Pr.round(P:Pr):Pr:=P.hears0.1.hears1.1.sign0.sign1
noncomputable def Pr.went(P:Pr):Bool:=P.hears0.1.hears1.2 || P.hears0.2 || (P.hears0.1.hears1.1.a.sign.2.2==0) || (P.hears0.1.hears1.1.sign0.b.sign.2.2==0)
theorem qql(i:Nat){k p d:Nat}(f:k≤p)(q:p≤d):hiB i d k=hiB i d p++hiB i p k:=by
 unfold hiB;rw[←List.filter_append,←List.reverse_append];congr 2;have e:=List.range'_append_1 (s:=k) (m:=p-k) (n:=d-p);rw[show k+(p-k)=p by omega,show p-k+(d-p)=d-k by omega] at e;exact e.symm
theorem q5v{i p:Nat}(h:∀b,b<p→i.testBit b=false):hiB i p 0=[]:=by
 unfold hiB;rw[List.filter_eq_nil_iff];intro b f;rw[List.mem_reverse,List.mem_range'_1] at f;rw[h b (by omega)];decide
theorem q5u{f t d p:Nat}(h:f / 2 ^ p=t / 2 ^ p):hiB f d p=hiB t d p:=by
 unfold hiB;refine List.filter_congr fun b q=> ?_
 rw[List.mem_reverse,List.mem_range'_1] at q;have i:=Nat.testBit_div_two_pow (n:=p) f (b-p);have m:=Nat.testBit_div_two_pow (n:=p) t (b-p);rw[show b-p+p=b by omega] at i m;rw[←i,←m,h]
theorem q2j{f:Int}(r:qc1 f=true):∀b,b<qbr f→f.toNat.testBit b=false:=by
 intro b i;unfold qbr at i;rw[if_pos r] at i;by_cases q:f.toNat=0
 ·rw[q];exact Nat.zero_testBit b
 ·have C:=ql0 r;obtain⟨m,v,-⟩:=Lib.ctzFrom_spec 64 f.toNat (by omega) (by omega);have e:Lib.ctz 64 f.toNat=Lib.ctzFrom 64 f.toNat:=by unfold Lib.ctz;rw[if_neg q]
  rw[e] at i;generalize Lib.ctzFrom 64 f.toNat=z at i v;rw[v,Nat.testBit_two_pow_mul];simp only[Bool.and_eq_false_imp,decide_eq_true_eq];intro h;omega
theorem qtu(h:List Int){f t:Int}(m:qkp f t=true):qcj (qc4 h f).1 f t=((qc4 h t).1,0):=by
 have i:=m;unfold qkp at i;simp only[Bool.and_eq_true,beq_iff_eq] at i;obtain⟨q,v,hd⟩:=i;have r:=qjs f;unfold qcj qc4;rw[if_pos m,if_pos q,if_pos v];have e:qc8 (qc8 h f.toNat 16) t.toNat (qbr f)=qc8 h t.toNat 16:=by
  unfold qc8;rw[←List.foldl_append,qql t.toNat (Nat.zero_le _) r,qql f.toNat (Nat.zero_le _) r,q5v (q2j q),q5u hd,List.append_nil]
 rw[e]
def zdk(h:List Int)(k:KeptV):Prop:=qbm k.told∧(k.full=true→k.told=(qc4 h k.number).1)
def qec(h:List Int)(ps:List KeptV):Prop:=∀k∈ps,zdk h k
theorem qrb(h:List Int):qec h (List.replicate 17 .zero):=by
 intro k f;rw[List.eq_of_mem_replicate f];exact⟨qc3,fun h=>by cases h⟩
theorem qmu(h:List Int)(f:qbm h)(i:Int):qbm (qc4 h i).1:=by
 unfold qc4;split
 ·exact qkr h f _ _
 ·exact qc3
theorem qx1{h:List Int}{i:Int}{k:KeptV}(m:k.told=(qc4 h k.number).1):qgw (qc4 h i).1 i k=false:=by
 unfold qgw;cases f:qkp i k.number with
 | false =>
  have e:qcj (qc4 h i).1 i k.number=(zg,1):=by unfold qcj;rw[if_neg (by rw[f];decide)]
  rw[e];rfl
 | true =>
  rw[qtu h f,m];simp
theorem q0c{i:Int}(h:qc1 i=true):qkp i i=true:=by
 unfold qkp;rw[h];simp
theorem q5z{h:List Int}{i:Int}{ps:List KeptV}(m:qc1 i=true)(r:qec h ps):qee (qc4 h i).1 i ps=0:=by
 have e:qk4 (qc4 h i).1 i (ps.take (qbr i))=none:=by
  unfold qk4;rw[List.find?_eq_none];intro k q;cases f:k.full with
  | false=>simp
  | true =>
   rw[qx1 ((r k (List.mem_of_mem_take q)).2 f)];decide
 unfold qee;rw[q0c m,e];rfl
theorem q50{h:List Int}(m:qbm h){i:Int}{ps:List KeptV}(f:qec h ps):qec h (qi3 (qc4 h i).1 i ps):=by
 unfold qi3;split
 ·intro k q;rcases List.mem_or_eq_of_mem_set q with e | e
  ·exact f k e
  ·rw[e];exact⟨qmu h m i,fun _=>rfl⟩
 ·exact f
end
end Go.Proofs.YtfmkdoachjgjbaaGreatDoor
