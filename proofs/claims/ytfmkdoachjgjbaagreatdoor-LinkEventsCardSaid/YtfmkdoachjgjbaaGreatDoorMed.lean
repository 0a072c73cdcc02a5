/-
  XDag's law, wider: what is known of an operation may name the values of those that it looks at; and each operation has its own relation between worlds (a store into a block that the region made).
-/
import Derived.Test.YtfmkdoachjgjbaaGreatDoorMaa
import Derived.Test.YtfmkdoachjgjbaaGreatDoorMac
import Derived.Test.YtfmkdoachjgjbaaGreatDoorShR3
import Derived.Test.YtfmkdoachjgjbaaGreatDoorMad
set_option linter.unusedVariables false
set_option linter.unusedSimpArgs false
namespace Go.Proofs.YtfmkdoachjgjbaaGreatDoor
open Go.RowKit
section
variable {P:Program}{l:List Oper}{A:List (List Nat)}{L:List (List (Nat × Nat))}{n:Nat}
def upV(ql:Nat→Value)(k:Nat)(v:Value):Nat→Value:=fun j=>if j=k then v else ql j
theorem qpc(ql:Nat→Value)(k:Nat)(v:Value):upV ql k v k=v:=by simp[upV]
theorem qhc(ql:Nat→Value){k j:Nat}(v:Value)(h:j≠k):upV ql k v j=ql j:=by simp[upV,h]
def qnu(P:Program)(a0:Act)(S:World→Prop)(R:Nat→World→World→Prop)(Φ:Nat→(Nat→Value)→World→Prop)(i:Nat)(o:Oper)(Li:List (Nat × Nat)):Prop :=
 ∀(ql:Nat→Value) (w:World),S w→(∀p∈Li,Φ p.1 ql w) →
  match o.guard with
  | none=>zm P o (putL a0 ql Li).eval w fun v w'=>R i w w'∧S w'∧Φ i (upV ql i v) w'
  | some (g,b)=>Φ g ql w→(ql g = .bool b→zm P o (putL a0 ql Li).eval w fun v w'=>R i w w'∧S w'∧Φ i (upV ql i v) w')∧(ql g ≠ .bool b→Φ i (upV ql i undef) w)
def qao(P:Program)(a0:Act)(S:World→Prop)(R:Nat→World→World→Prop)(Φ:Nat→(Nat→Value)→World→Prop):Nat→List Oper→List (List (Nat × Nat))→Prop
 | _,[],_=>True
 | i,o::os,L=>qnu P a0 S R Φ i o (L.headD [])∧qao P a0 S R Φ (i+1) os L.tail
theorem qao.nil{a0:Act}{S:World→Prop}{R:Nat→World→World→Prop}{Φ:Nat→(Nat→Value)→World→Prop}{i:Nat}{L:List (List (Nat × Nat))} : qao P a0 S R Φ i [] L:=trivial
theorem qao.cons{a0:Act}{S:World→Prop}{R:Nat→World→World→Prop}{Φ:Nat→(Nat→Value)→World→Prop}{i:Nat}{o:Oper}{os:List Oper}{Li:List (Nat × Nat)}{L:List (List (Nat × Nat))}(h:qnu P a0 S R Φ i o Li)
  (k:qao P a0 S R Φ (i+1) os L):qao P a0 S R Φ i (o::os) (Li::L):=⟨h,k⟩
def qpw(Φ:Nat→(Nat→Value)→World→Prop)(ql:Nat→Value)(w:World):List (Nat × Nat)→Prop
 | []=>True
 | p::r=>Φ p.1 ql w∧qpw Φ ql w r
theorem quu{Φ:Nat→(Nat→Value)→World→Prop}{ql:Nat→Value}{w:World} : ∀ {L:List (Nat × Nat)},(∀p∈L,Φ p.1 ql w)→qpw Φ ql w L
 | [],_=>trivial
 | p::r,h=>⟨h p (List.mem_cons_self ..),quu fun q f=>h q (List.mem_cons_of_mem _ f)⟩
theorem qao.plain{a0:Act}{S:World→Prop}{R:Nat→World→World→Prop}{Φ:Nat→(Nat→Value)→World→Prop}{i:Nat}{o:Oper}{os:List Oper}{Li:List (Nat × Nat)}{L:List (List (Nat × Nat))}(m:o.guard=none)
  (h:∀(ql:Nat→Value) (w:World),S w→qpw Φ ql w Li→zm P o (putL a0 ql Li).eval w fun v w'=>R i w w'∧S w'∧Φ i (upV ql i v) w')
  (k:qao P a0 S R Φ (i+1) os L):qao P a0 S R Φ i (o::os) (Li::L) :=
 ⟨fun ql w f q=>by rw[m];exact h ql w f (quu q),k⟩
theorem qao.at{a0:Act}{S:World→Prop}{R:Nat→World→World→Prop}{Φ:Nat→(Nat→Value)→World→Prop} : ∀ {os:List Oper} {L:List (List (Nat × Nat))} {k:Nat},qao P a0 S R Φ k os L→∀(i:Nat) o,os[i]? = some o→qnu P a0 S R Φ (k+i) o (L.getD i [])
 | [],_,_,_,_,_,h=>by simp at h
 | o::os,L,k,h,0,m,f=>by
  simp only[List.getElem?_cons_zero,Option.some.injEq] at f;subst f;have:=h.1;cases L<;>exact this
 | o::os,L,k,h,i+1,m,f=>by
  have:=qao.at h.2 i m (by simpa using f);rw[show k+(i+1)=k+1+i by omega];cases L<;>exact this
structure DagInvG(l:List Oper)(A:List (List Nat))(a0:Act)(S:World→Prop)(Φ:Nat→(Nat→Value)→World→Prop)(listed:Array Bool)(a:Act)(w:World)(ql:Nat→Value):Prop where
 size:listed.size=l.length
 s:S w
 phi:∀i,listed.getD i false=true→Φ i ql w
 shut:∀i,listed.getD i false=true→∀k∈A.getD i [],listed.getD k false=true
 defers:a.defers=a0.defers
 tmps:a.tmps.size=a0.tmps.size
 other:∀t,(∀i,listed.getD i false=true→qbl l i≠some t)→a.tmps[t]? = a0.tmps[t]?
 at_:∀i t,listed.getD i false=true→qbl l i=some t→a.tmps[t]? = some (ql i)
theorem q4c(D:Dag l A L n){a0:Act}(hn:a0.tmps.size=n){S:World→Prop}{R:Nat→World→World→Prop}{Φ:Nat→(Nat→Value)→World→Prop}{Q:Exit→Act→World→Prop}
  (c2:∀i w,R i w w) (loc:∀i k ql v w,k≠i→(∀p∈L.getD i [],p.1≠k)→Φ i ql w→Φ i (upV ql k v) w) (a6:∀i j ql w w',i≠j→S w→S w'→R j w w'→Φ i ql w→Φ i ql w') (b3:qao P a0 S R Φ 0 l L)
  (c3:∀ql w,S w→(∀i,i<l.length→Φ i ql w)→Q .normal (putL a0 ql (qba l)) w) :
  ∀(F:Nat) (f:Array Bool) (a:Act) (w:World) (ql:Nat→Value),DagInvG l A a0 S Φ f a w ql→(List.range l.length).countP (fun i=> !f.getD i false)≤F→wpAny P .any l.toArray Q F f a w:=by
 have X:∀(f:Array Bool) (a:Act) (w:World) (ql:Nat→Value),DagInvG l A a0 S Φ f a w ql→Region.ready .any l.toArray f=[]→Q .normal a w:=by
  intro f a w ql I hr;have b4:∀(i:Nat),i<l.length→f.getD i false=true:=by
   intro i
   induction i using Nat.strongRecOn with
   | _ i ih =>
    intro N;cases hl:f.getD i false with
    | true=>rfl
    | false =>
     exfalso;have:i∈Region.ready .any l.toArray f:=by
      rw[mem_ready];have ho:l[i]? = some l[i]:=List.getElem?_eq_getElem N;refine⟨?_,l[i],by simp[N],fun e he hb=> ?_⟩
      ·rw[Array.getD_eq_getD_getElem?] at hl ⊢;have:i<f.size:=by rw[I.size];exact N
       rw[Array.getElem?_eq_getElem this] at hl ⊢;simpa using hl
      ·have M:=(D.edge i _ ho e he hb).1;have h2:=(D.anc i _ ho _ M).1;exact ih _ h2 (by omega)
     rw[hr] at this;cases this
  have ha:a=putL a0 ql (qba l):=by
   refine qvt (by rw[qgd];exact I.defers) fun t=> ?_
   by_cases h:∃i,qbl l i=some t
   ·obtain⟨i,N⟩:=h;have K:=(qjn N).1;rw[I.at_ i t (b4 i K) N];have hm:(i,t)∈qba l:=by
     unfold qba;rw[List.mem_filterMap];exact⟨i,List.mem_range.2 K,by rw[N];rfl⟩
    refine(qhv ql (qba l) a0 (i,t) hm (fun q hq e=> ?_) (by rw[hn];exact(D.slot i t N).1)).symm;unfold qba at hq;rw[List.mem_filterMap] at hq;obtain⟨j,_,C⟩:=hq;rw[Option.map_eq_some_iff] at C;obtain⟨t',a8,rfl⟩:=C;simp only at e;subst e;exact(D.slot i _ N).2 j a8
   ·rw[I.other t fun i _ T=>h ⟨i,T⟩,qdo];intro p Y e;unfold qba at Y;rw[List.mem_filterMap] at Y;obtain⟨j,_,C⟩:=Y;rw[Option.map_eq_some_iff] at C;obtain⟨t',a8,rfl⟩:=C;exact h ⟨j,by rw[a8,←e]⟩
  rw[ha];exact c3 ql w I.s fun i N=>I.phi i (b4 i N)
 intro F
 induction F with
 | zero =>
  intro f a w ql I hc;have hr:Region.ready .any l.toArray f=[]:=by
   rw[List.eq_nil_iff_forall_not_mem];intro i N;obtain⟨h0,o,ho,_⟩:=mem_ready.1 N;have K:i<l.length:=by simpa using (Array.getElem?_eq_some_iff.1 ho).1
   have:(List.range l.length).countP (fun i=> !f.getD i false)=0:=by omega
   rw[List.countP_eq_zero] at this;have:=this i (List.mem_range.2 K);rw[Array.getD_eq_getD_getElem?] at h0 this;have T:i<f.size:=by rw[I.size];exact K
   rw[Array.getElem?_eq_getElem T] at h0 this;simp at h0 this;rw[h0] at this;cases this
  exact⟨hr,X f a w ql I hr⟩
 | succ F ih =>
  intro f a w ql I hc;refine⟨fun hr=>X f a w ql I hr,fun i N=> ?_⟩;obtain⟨h0,o,ho,b5⟩:=mem_ready.1 N;have K:i<l.length:=by simpa using (Array.getElem?_eq_some_iff.1 ho).1
  have T:i<f.size:=by rw[I.size];exact K
  have H:l[i]? = some o:=by simpa using ho
  have W:f.getD i false=false:=by
   rw[Array.getD_eq_getD_getElem?] at h0 ⊢;rw[Array.getElem?_eq_getElem T] at h0 ⊢;simpa using h0
  have U:∀k∈A.getD i [],f.getD k false=true:=by
   intro k hk;obtain⟨_,e,he,hb,h⟩:=D.anc i o H k hk;have M:=b5 e he hb;rcases h with rfl | h
   ·exact M
   ·exact I.shut _ M k h
  have a7:∀t∈o.looksAt l.toArray,a.tmps[t]? = (putL a0 ql (L.getD i [])).tmps[t]? := by
   intro t ht;by_cases h:∃j,f.getD j false=true∧qbl l j=some t
   ·obtain⟨j,C,E⟩:=h;rcases D.look i o H t ht j E with M | ⟨M,h2⟩
    ·have:=I.shut j C i M;rw[W] at this;cases this
    ·rw[I.at_ j t C E];refine(qhv ql _ a0 (j,t) h2 (fun q hq e=> ?_) (by rw[hn];exact(D.slot j t E).1)).symm;have:=(D.lis i o H q hq).2;rw[e] at this;exact(D.slot j t E).2 _ this
   ·rw[I.other t fun j C T=>h ⟨j,C,T⟩,qdo];intro p Y e;obtain⟨M,h2⟩:=D.lis i o H p Y;exact h ⟨p.1,U _ M,by rw[h2,e]⟩
  have V:execOp a.eval o=execOp (putL a0 ql (L.getD i [])).eval o:=by
   refine execOp_congr o (D.sel i o H) fun x hx=> ?_
   cases x with
   | tmp t =>
    have:=a7 t (List.mem_append_left _ (List.mem_filterMap.2 ⟨.tmp t,by simpa using hx,rfl⟩));simp only[Act.eval,Array.getD_eq_getD_getElem?,this]
   | _=>rfl
  have c1:=b3.at i o H;rw[Nat.zero_add] at c1;have J:=c1 ql w I.s fun p Y=>I.phi _ (U _ (D.lis i o H p Y).1)
  have next:∀v w',R i w w'→S w'→Φ i (upV ql i v) w'→wpAny P .any l.toArray Q F (f.setIfInBounds i true) (a.put o.dst v) w':=by
   intro v w' hR hS hΦ;have Z:qbl l i=o.dst:=by unfold qbl;rw[H];rfl
   refine ih (f.setIfInBounds i true) (a.put o.dst v) w' (upV ql i v) ⟨?_,hS,?_,?_,?_,?_,?_,?_⟩ ?_
   ·rw[Array.size_setIfInBounds];exact I.size
   ·intro j C;rcases (qaf T).1 C with rfl | z
    ·exact hΦ
    ·have O:j≠i:=by rintro rfl;rw[W] at z;cases z
     have c6:j<l.length:=by
      rcases Nat.lt_or_ge j l.length with h | h
      ·exact h
      ·rw[Array.getD_eq_getD_getElem?,Array.getElem?_eq_none (by rw[I.size];exact h)] at z;cases z
     refine a6 j i _ w w' O I.s hS hR (loc j i ql v w (Ne.symm O) (fun p Y e=> ?_) (I.phi j z));have hA:=(D.lis j _ (List.getElem?_eq_getElem c6) p Y).1;have:=I.shut j z _ hA;rw[e,W] at this;cases this
   ·intro j C k hk;refine(qaf T).2 ?_;rcases (qaf T).1 C with rfl | z
    ·exact .inr (U k hk)
    ·exact .inr (I.shut j z k hk)
   ·cases o.dst<;>exact I.defers
   ·cases hd:o.dst with
    | none=>exact I.tmps
    | some d=>simpa [Act.put] using I.tmps
   ·intro t ht;have M:=I.other t fun j C=>ht j ((qaf T).2 (.inr C))
    have h2:=ht i ((qaf T).2 (.inl rfl));rw[Z] at h2;cases hd:o.dst with
    | none=>exact M
    | some d =>
     have O:d≠t:=by rintro rfl;exact h2 hd
     simpa [Act.put,Array.getElem?_setIfInBounds_ne O] using M
   ·intro j t C E;rcases (qaf T).1 C with rfl | z
    ·rw[Z] at E;rw[E,qpc];have:t<a.tmps.size:=by rw[I.tmps,hn];exact(D.slot j t (by rw[Z,E])).1
     simp[Act.put,this]
    ·have O:j≠i:=by rintro rfl;rw[W] at z;cases z
     rw[qhc _ _ O];have M:=I.at_ j t z E;cases hd:o.dst with
     | none=>exact M
     | some d =>
      have c0:d≠t:=by
       rintro rfl;exact O ((D.slot i d (by rw[Z,hd])).2 j E)
      simpa [Act.put,Array.getElem?_setIfInBounds_ne c0] using M
   ·have M:(List.range l.length).countP (fun j=> !(f.setIfInBounds i true).getD j false)<(List.range l.length).countP (fun j=> !f.getD j false):=by
     have b9:i∈List.range l.length:=List.mem_range.2 K;obtain⟨s,r,c7⟩:=List.append_of_mem b9;rw[c7,List.countP_append,List.countP_append,List.countP_cons,List.countP_cons];have m:∀xs:List Nat,xs.countP (fun j=> !(f.setIfInBounds i true).getD j false)≤xs.countP (fun j=> !f.getD j false):=by
      intro xs;refine List.countP_mono_left fun j _ C=> ?_
      cases h:f.getD j false with
      | false=>rfl
      | true=>rw[(qaf T).2 (.inr h)] at C;cases C
     have m1:=m s;have m2:=m r;rw[qeu T,W];simp only[Bool.not_true,Bool.not_false,Bool.false_eq_true,if_false,if_true];omega
    omega
  unfold wpOp;rw[ho];simp only;cases hg:o.guard with
  | none =>
   rw[hg] at J;rw[if_pos (by unfold Region.wanted;rw[hg])];exact .inl (qg4 V J fun v w' h=>next v w' h.1 h.2.1 h.2.2)
  | some gb =>
   obtain⟨g,b⟩:=gb;rw[hg] at J;obtain⟨c5,t,b8⟩:=D.guard i o H g b hg;have b7:=U g c5;have c4:=I.at_ g t b7 b8;obtain⟨p1,p2⟩:=J (I.phi g b7);have hy:Region.wanted o (yielded l.toArray a.tmps)=true↔ql g = .bool b:=by
    unfold Region.wanted yielded;rw[hg];have e1:(l.toArray[g]?).bind (·.dst)=some t:=by simpa [qbl] using b8
    simp only[e1,Option.bind_some,c4];constructor
    ·intro h;split at h
     ·rename_i b' b6;simp only[Option.some.injEq] at b6;simp at h;rw[b6,h]
     ·simp at h
    ·intro h;rw[h];simp
   by_cases hw:Region.wanted o (yielded l.toArray a.tmps)=true
   ·rw[if_pos hw];exact .inl (qg4 V (p1 (hy.1 hw)) fun v w' h=>next v w' h.1 h.2.1 h.2.2)
   ·rw[if_neg hw];exact next undef w (c2 i w) I.s (p2 fun h=>hw (hy.2 h))
theorem q9x{id:Nat}{a:Act}{w:World}{Q:Exit→Act→World→Prop}(I:P.follows .mixedOrders=true)(L:List (List (Nat × Nat)))(n:Nat)(J:a.tmps.size=n)(F:q4b l (qrj l []) L n=true)(A:List (Nat × Nat))(E:qba l=A)
  (S:World→Prop) (R:Nat→World→World→Prop) (Φ:Nat→(Nat→Value)→World→Prop) (H:S w.drew) (z:∀i w,R i w w) (loc:∀i k ql v w,k≠i→(∀p∈L.getD i [],p.1≠k)→Φ i ql w→Φ i (upV ql k v) w) (f:∀i j ql w w',i≠j→S w→S w'→R j w w'→Φ i ql w→Φ i ql w')
  (q:qao P a S R Φ 0 l L) (C:∀ql w,S w→(∀i,i<l.length→Φ i ql w)→Q .normal (putL a ql A) w) :
  (Code.region id l.toArray true).wp P Q a w:=by
 subst E
 refine wp_region_any I ?_
 refine q4c (qv9 F) J z loc f q C _ _ a _ (fun _=>undef) ⟨by simp,H,?_,?_,rfl,rfl,fun _ _=>rfl,?_⟩ ?_
 ·intro i m;rw[qbw] at m;cases m
 ·intro i m;rw[qbw] at m;cases m
 ·intro i t m;rw[qbw] at m;cases m
 ·refine Nat.le_trans List.countP_le_length ?_;simp
end
def za0(B:Nat)(w w':World):Prop:=Upd (fun k=>B≤k) w w'∧∀(g:Nat) (T:TypeId) (cs:Array Value),w.heap[g]? = some (.cells cs T (0,0))→∃f:Array Value,f.size=cs.size∧w'.heap[g]? = some (.cells f T (0,0))
def RN(B st j:Nat)(w w':World):Prop:=if j=st then za0 B w w' else qq w w'
theorem RN.refl(B st j:Nat)(w:World):RN B st j w w:=by
 unfold RN;split
 ·exact⟨Upd.refl _ _,fun g T cs h=>⟨cs,rfl,h⟩⟩
 ·exact Upd.refl _ _
def isN(B al st n:Nat)(r:Array Value)(xs:List Value)(i:Nat)(ql:Nat→Value)(w:World):Prop :=
 if i=al then ∃(g:Nat) (T:TypeId) (cs:Array Value),ql al = .pointer (some ⟨g,0,none⟩)∧B≤g∧w.heap[g]? = some (.cells cs T (0,0))∧cs.size=n
 else if i=st then ∃(g:Nat) (T:TypeId),ql al = .pointer (some ⟨g,0,none⟩)∧B≤g∧w.heap[g]? = some (.cells r T (0,0))
 else ql i=xs.getD i undef
theorem q82{B al st n:Nat}{r:Array Value}{xs:List Value}{i:Nat}{ql:Nat→Value}{w:World}(f:i≠al)(q:i≠st)(h:isN B al st n r xs i ql w):ql i=xs.getD i undef:=by
 unfold isN at h;rwa [if_neg f,if_neg q] at h
theorem zbl{B al st n:Nat}{r:Array Value}{xs:List Value}{i:Nat}{ql:Nat→Value}{v:Value}{w:World}(f:i≠al)(q:i≠st)(h:v=xs.getD i undef):isN B al st n r xs i (upV ql i v) w:=by
 unfold isN;rw[if_neg f,if_neg q,qpc];exact h
def isX(xs:List Value)(i:Nat)(v:Value):Prop:=v=xs.getD i undef
section
variable {P:Program}{l:List Oper}{A:List (Nat × Nat)}{L:List (List (Nat × Nat))}{n:Nat}
theorem q9y{id:Nat}{a:Act}{w:World}{Q:Exit→Act→World→Prop}(hm:P.follows .mixedOrders=true)(L:List (List (Nat × Nat)))(n:Nat)(hn:a.tmps.size=n)(hL:q4b l (qrj l []) L n=true)(A:List (Nat × Nat))(hA:qba l=A)
  (al st m:Nat) (U:(al==st)=false) (a6:decide (al<l.length)=true) (Y:decide (st<l.length)=true) (O:((L.getD st []).any fun p=>p.1==al)=true) (r:Array Value) (xs:List Value)
  (C:qao P a (fun w'=>qq w w') (RN w.heap.size st) (isN w.heap.size al st m r xs) 0 l L)
  (N:∀(ql:Nat→Value) (w':World) (g:Nat) (T:TypeId),qq w w'→ql al = .pointer (some ⟨g,0,none⟩)→w.heap.size≤g→w'.heap[g]? = some (.cells r T (0,0))→(∀i,i<l.length→i≠al→i≠st→ql i=xs.getD i undef)→Q .normal (putL a ql A) w') :
  (Code.region id l.toArray true).wp P Q a w:=by
 have J:al≠st:=by simpa using U
 refine q9x hm L n hn hL A hA (fun w'=>qq w w') (RN w.heap.size st) (isN w.heap.size al st m r xs) (Upd.refl _ _).drew (fun i w=>RN.refl _ _ _ _) ?_ ?_ C ?_
 ·intro i k ql v w' I hp h;unfold isN at h ⊢;by_cases f:i=al
  ·rw[if_pos f] at h ⊢;subst f;rw[qhc _ _ (fun e=>I e.symm)];exact h
  ·rw[if_neg f] at h ⊢;by_cases q:i=st
   ·rw[if_pos q] at h ⊢;subst q;obtain⟨p,W,V⟩:=List.any_eq_true.1 O;have:=hp p W;have K:p.1=al:=by simpa using V
    rw[qhc _ _ (fun e=>this (K.trans e))];exact h
   ·rw[if_neg q] at h ⊢;rw[qhc _ _ (fun e=>I e.symm)];exact h
 ·intro i j ql w1 w2 S _ _ z h;unfold isN at h ⊢;unfold RN at z;by_cases f:i=al
  ·rw[if_pos f] at h ⊢;obtain⟨g,T,cs,E,F,H,hs⟩:=h;by_cases Z:j=st
   ·rw[if_pos Z] at z;obtain⟨M,X,R⟩:=z.2 g T cs H;exact⟨g,T,M,E,F,R,X.trans hs⟩
   ·rw[if_neg Z] at z;exact⟨g,T,cs,E,F,z.old H (fun h=>h),hs⟩
  ·rw[if_neg f] at h ⊢;by_cases q:i=st
   ·rw[if_pos q] at h ⊢;obtain⟨g,T,E,F,H⟩:=h;rw[if_neg (fun e=>S (q.trans e.symm))] at z;exact⟨g,T,E,F,z.old H (fun h=>h)⟩
   ·rw[if_neg q] at h ⊢;exact h
 ·intro ql w' hS hΦ;have f:=hΦ st (by simpa using Y);unfold isN at f;rw[if_neg (fun e=>J e.symm),if_pos rfl] at f;obtain⟨g,T,E,F,H⟩:=f;exact N ql w' g T hS E F H fun i hi f q=>q82 f q (hΦ i hi)
variable {a0:Act}{wo:World}{al st m i:Nat}{r:Array Value}{xs:List Value}{o:Oper}{os:List Oper}{Li:List (Nat × Nat)}{L':List (List (Nat × Nat))}
theorem qao.nval(H:o.guard=none)(E:(i==al)=false)(F:(i==st)=false)
  (h:∀(ql:Nat→Value) (w:World),qq wo w→qpw (isN wo.heap.size al st m r xs) ql w Li→zm P o (putL a0 ql Li).eval w fun v w'=>qq w w'∧isX xs i v)
  (k:qao P a0 (fun w'=>qq wo w') (RN wo.heap.size st) (isN wo.heap.size al st m r xs) (i+1) os L'):qao P a0 (fun w'=>qq wo w') (RN wo.heap.size st) (isN wo.heap.size al st m r xs) i (o::os) (Li::L') :=
 qao.plain H (fun ql w C I=>qkb (h ql w C I) fun v w' z=>by
  have q:i≠al:=by simpa using E
  have f:i≠st:=by simpa using F
  refine⟨?_,C.trans z.1,zbl q f z.2⟩;unfold RN;rw[if_neg f];exact z.1) k
theorem qao.nalloc(H:o.guard=none)(z:(i==al)=true)(E:(i==st)=false)(C:Array Value)(T:TypeId)(F:C.size=m)
  (h:∀(ql:Nat→Value) (w:World),(execOp (putL a0 ql Li).eval o).run P w = .ok (.value (.pointer (some ⟨w.heap.size,0,none⟩))) (w.alloc (.cells C T)))
  (k:qao P a0 (fun w'=>qq wo w') (RN wo.heap.size st) (isN wo.heap.size al st m r xs) (i+1) os L'):qao P a0 (fun w'=>qq wo w') (RN wo.heap.size st) (isN wo.heap.size al st m r xs) i (o::os) (Li::L') :=
 qao.plain H (fun ql w v I=>quq (h ql w) (by
  have f:i=al:=by simpa using z
  have q:i≠st:=by simpa using E
  refine⟨?_,Upd.alloc v _,?_⟩
  ·unfold RN;rw[if_neg q];exact(Upd.refl _ _).alloc _
  ·unfold isN;rw[if_pos f,←f,qpc];exact⟨_,T,C,rfl,v.size,qj _ _,F⟩)) k
theorem qao.nstore(X:o.guard=none)(U:(i==al)=false)(V:(i==st)=true)(I:(Li.any fun p=>p.1==al)=true)(hr:r.size=m)
  (h:∀(ql:Nat→Value) (w:World) (g:Nat) (T:TypeId) (cs:Array Value),ql al = .pointer (some ⟨g,0,none⟩)→w.heap[g]? = some (.cells cs T (0,0))→cs.size=m→qpw (isN wo.heap.size al st m r xs) ql w Li →
   zm P o (putL a0 ql Li).eval w fun _ w'=>w'=w.setCells g 0 r.toList)
  (k:qao P a0 (fun w'=>qq wo w') (RN wo.heap.size st) (isN wo.heap.size al st m r xs) (i+1) os L'):qao P a0 (fun w'=>qq wo w') (RN wo.heap.size st) (isN wo.heap.size al st m r xs) i (o::os) (Li::L') :=
 qao.plain X (fun ql w W F=>by
  have z:i≠al:=by simpa using U
  have C:i=st:=by simpa using V
  obtain⟨g,T,cs,M,N,J,K⟩:∃(g:Nat) (T:TypeId) (cs:Array Value),ql al = .pointer (some ⟨g,0,none⟩)∧wo.heap.size≤g∧w.heap[g]? = some (.cells cs T (0,0))∧cs.size=m:=by
   have key:∀Li:List (Nat × Nat),(Li.any fun p=>p.1==al)=true→qpw (isN wo.heap.size al st m r xs) ql w Li→isN wo.heap.size al st m r xs al ql w:=by
    intro Li
    induction Li with
    | nil=>intro h;simp at h
    | cons p Li Z =>
     intro q F;rw[List.any_cons,Bool.or_eq_true] at q;rcases q with q | q
     ·have:p.1=al:=by simpa using q
      rw[←this];exact this▸F.1
     ·exact Z q F.2
   have:=key Li I F;unfold isN at this;rwa [if_pos rfl] at this
  refine qkb (h ql w g T cs M J K F) fun v w' Y=> ?_
  subst Y;have E:=qa8 J 0 r.toList;have R:Upd (fun k=>wo.heap.size≤k) w (w.setCells g 0 r.toList):=((Upd.refl (· = g) w).setCells 0 r.toList).mono (fun k _ e=>by subst e;exact N);refine⟨?_,?_,?_⟩
  ·unfold RN;rw[if_pos C];refine⟨R,fun S T' H f=> ?_⟩;by_cases O:S=g
   ·subst O;rw[J] at f;cases f;exact⟨_,qon _ _ _,E⟩
   ·exact⟨H,rfl,((Upd.refl (· = g) w).setCells 0 r.toList).old f O⟩
  ·exact W.then R (fun k hk e=>by omega)
  ·unfold isN;rw[if_neg z,if_pos C,qhc _ _ (fun e=>z e.symm)];refine⟨g,T,M,N,?_⟩;rw[E];congr 2;refine Array.ext_getElem? fun j=> ?_
   rw[qgy cs 0 r.toList j (by rw[Array.length_toList];omega)];by_cases hj:j<r.size
   ·rw[if_pos (by rw[Array.length_toList];omega)];simp
   ·have z1:cs[j]? = none:=Array.getElem?_eq_none (by omega);have z2:r[j]? = none:=Array.getElem?_eq_none (by omega);rw[if_neg (by rw[Array.length_toList];omega),z1,z2]) k
end
theorem qsv(s:ByteArray)(f:List Int):strOfNums (qc3 s++f)=s++strOfNums f:=by
 unfold strOfNums qc3;rw[List.map_append,List.map_map];have:(s.data.toList.map ((fun n:Int=>UInt8.ofNat n.toNat) ∘ fun c:UInt8=>(c.toNat:Int)))=s.data.toList:=by
  conv=>rhs;rw[←List.map_id s.data.toList]
  refine List.map_congr_left fun c _=> ?_
  simp
 rw[this];apply ByteArray.ext;simp
theorem q6s(n k:Nat)(h:k<qc7 n):(n+(k+1))%64≠56:=by unfold qc7 at h;omega
theorem q6r(n:Nat):(n+(qc7 n+1))%64=56:=by unfold qc7;omega
set_option maxRecDepth 100000 in
set_option maxHeartbeats 1000000 in
theorem q6q(s:ByteArray)(w:World)(hs:s.size≤1000000000) :
  Calls Tryz.prog 94 #[.string s] w (qa5 (.string (qg5 s)) w):=by
 have hz:=qk7 s.size
 have b5:(s.size:Int)≤1000000000:=by omega
 have T:=qj2 s
 have R:∀w:World,(convert 9 95 (.string s)).run Tryz.prog w = .ok (.slice (some ⟨w.heap.size,0,none⟩) s.size (grownCap w s.size 0 5)) (w.drew.alloc (.cells (bytesRow s (grownCap w s.size 0 5)) 5 ((bytesRow s (grownCap w s.size 0 5)).size,(bytesRow s (grownCap w s.size 0 5)).size+1))) :=
  fun w=>run_bytes_of_string w _ _ _ s Tryz.underlying9 Tryz.underlying95 Tryz.underlying5
 have hG:=qdc.ofS w s (grownCap w s.size 0 5) w.heap.size (Nat.le_refl _) (grownCap_ge _ _ _ _)
 have u0:Upd (fun k=>w.heap.size≤k) w (w.drew.alloc (.cells (bytesRow s (grownCap w s.size 0 5)) 5 ((bytesRow s (grownCap w s.size 0 5)).size,(bytesRow s (grownCap w s.size 0 5)).size+1))):=(Upd.refl _ _).drew.alloc _
 have Z:=qb hG
 have z:=qb T
 clear hG T
 go_enter Tryz.func94,Tryz.ntmps94
 go_upto_region 2 with fail
 generalize S:grownCap w s.size 0 5=L at *
 have I:=R w
 rw[S] at I
 clear R S
 refine wp_region_lit ?_
 refine zi rfl (v:= .string s) (w':=w) (by kernel_rfl) ?_
 refine zi rfl (v:= .slice (some ⟨w.heap.size,0,none⟩) s.size L) (w':=w.drew.alloc (.cells (bytesRow s L) 5 ((bytesRow s L).size,(bytesRow s L).size+1))) (by simp only[execOp];go_simp) ?_
 generalize w.drew.alloc (.cells (bytesRow s L) 5 ((bytesRow s L).size,(bytesRow s L).size+1))=w1 at Z u0 ⊢
 clear I
 refine zi rfl (v:= .slice (some ⟨w1.heap.size,0,none⟩) 1 1) (w':=w1.alloc (.cells #[.int .u8 128] 5)) (by kernel_rfl) ?_
 refine qhi rfl (.tmp 11) (.tmp 12) rfl w.heap.size _ _ rfl 128 _ _ rfl (qa Z) (by rw[qa z];omega) u0.size ?_
 intro v2 w2 F u2
 have u3:=u0.then u2 (fun q _ h=>((qa Z).ge h).1)
 clear u2 Z u0
 have i:(qc3 s++[128]).length=s.size+1:=by rw[List.length_append,qa z];rfl
 obtain⟨a2,c2,rfl⟩:=F.shape
 rw[i] at F ⊢
 have C:=qb F
 clear F i
 go_wp2_with fail
 go_loopw [4] (fun K wr=>∃(k:Nat) (a:Addr) (c:Nat),K = .slice (some a) (s.size+1+k) c∧k≤qc7 s.size∧Hid (qdc wr w.heap.size K (qc3 s++(128::List.replicate k 0)))∧Upd (fun k=>w.heap.size≤k) w wr) (fun K _=>s.size+100-(match K with | .slice _ l _=>l | _=>0))
 case atStart=>exact⟨0,_,_,rfl,Nat.zero_le _,C,u3⟩
 case round =>
  obtain⟨k,a,c,rfl,hk,C,O⟩:=hrel;by_cases V:k<qc7 s.size
  ·have M:=q6s s.size k V;have h1:((((s.size:Int)+1+(k:Int)))%64 != 56)=true:=by rw[bne_iff_ne];omega
   have a7:(k:Int)<64:=by omega
   have hb:=O.size;have H:(qc3 s++(128::List.replicate k (0:Int))).length≤1073741824:=by rw[List.length_append,qa z];simp;omega
   clear M;go_wp2_with (at_builtin;refine qhi rfl (.tmp 18) (.tmp 19) rfl w.heap.size _ _ rfl 0 _ _ rfl (qa C) H hb ?_);intro v' w5 f Y;have u6:=O.then Y (fun q _ h=>((qa C).ge h).1);obtain⟨a5,c5,rfl⟩:=f.shape;replace f:qdc w5 w.heap.size (Value.slice (some a5) (qc3 s++(128::(List.replicate k (0:Int)++[0]))).length c5) (qc3 s++(128::(List.replicate k 0++[0]))):=f;rw[←List.replicate_succ'] at f;have i:(qc3 s++(128::(List.replicate k (0:Int)++[0]))).length=s.size+1+(k+1):=by rw[List.length_append,qa z];simp;omega
   have U:(qc3 s++(128::(List.replicate (k+1) (0:Int)))).length=s.size+1+(k+1):=by rw[List.length_append,qa z];simp;omega
   rw[U] at f;rw[i];have J:=qb f;clear f Y C i U;go_wp2;go_roundw
   case rel=>exact⟨k+1,a5,c5,rfl,by omega,J,u6⟩
   case measure=>simp;omega
  ·obtain rfl:k=qc7 s.size:=by omega
   have M:=q6r s.size;have h1:((((s.size:Int)+1+(qc7 s.size:Int)))%64 != 56)=false:=by rw[bne_eq_false_iff_eq];omega
   have a7:(qc7 s.size:Int)<64:=by omega
   obtain⟨wo,rfl⟩:∃wo:World,wo=wr:=⟨_,rfl⟩;clear M;go_wp2_with fail
   go_loopw [4,5] (fun K iv wr=>∃(m:Nat) (a:Addr) (c:Nat),iv = .int .i64 (7-(m:Int))∧m≤8∧K = .slice (some a) (s.size+1+qc7 s.size+m) c∧Hid (qdc wr w.heap.size K (qc3 s++(128::List.replicate (qc7 s.size) 0)++(List.range m).map (qiw s.size)))∧Upd (fun k=>w.heap.size≤k) w wr) (fun _ iv _=>(intOf iv+1).toNat)
   case atStart=>exact⟨0,_,_,rfl,by omega,rfl,by simpa using C,O⟩
   case round =>
    obtain⟨m,a,c,rfl,hm,rfl,C,O⟩:=hrel;by_cases V:m<8
    ·have b4:(m:Int)<8:=by omega
     have hb:=O.size;have H:(qc3 s++(128::List.replicate (qc7 s.size) (0:Int))++(List.range m).map (qiw s.size)).length≤1073741824:=by rw[List.length_append,List.length_append,qa z];simp;omega
     have N:∀W,Calls Tryz.prog 96 #[.int .u64 ((s.size:Int)*8),.int .i64 (8*(7-(m:Int)))] W fun e w'=>e = .returned (.int .u64 ((s.size:Int)*8 / 2 ^ (8*(7-(m:Int))).toNat))∧W=w' :=
      fun W=>qjm ((s.size:Int)*8) (8*(7-(m:Int))) W (by omega) (by omega) (by omega) (by omega)
     have hq:qiw s.size m=((s.size:Int)*8 / 2 ^ (8*(7-(m:Int))).toNat)%256:=by
      unfold qiw;rw[show (8*(7-(m:Int))).toNat=56-8*m by omega,Int.mul_comm]
     have X:0≤(s.size:Int)*8 / 2 ^ (8*(7-(m:Int))).toNat∧(s.size:Int)*8 / 2 ^ (8*(7-(m:Int))).toNat≤8000000000:=by
      have hp:(1:Int)≤2 ^ (8*(7-(m:Int))).toNat:=Int.pow_pos (by decide);refine⟨Int.ediv_nonneg (by omega) (by omega),?_⟩;refine Int.le_trans (Int.ediv_le_self _ (by omega)) (by omega)
     generalize (s.size:Int)*8 / 2 ^ (8*(7-(m:Int))).toNat=q at N hq X;have a6:=qb N;have HQ:=qb hq;clear N hq;obtain⟨q0,q1⟩:=X;go_wp2_with fail;refine(qa a6 _).mono ?_;rintro e w' ⟨rfl,rfl⟩;go_wp2_with (at_builtin;refine qhi rfl (.tmp 25) (.tmp 32) rfl w.heap.size _ _ rfl _ _ _ rfl (qa C) H hb ?_);intro v' w5 f Y;have u6:=O.then Y (fun q _ h=>((qa C).ge h).1);obtain⟨a5,c5,rfl⟩:=f.shape;have e1:qc3 s++(128::List.replicate (qc7 s.size) 0)++(List.range (m+1)).map (qiw s.size)=qc3 s++(128::(List.replicate (qc7 s.size) 0++((List.range m).map (qiw s.size)++[q%256]))):=by rw[List.range_succ,List.map_append,List.map_cons,List.map_nil,qa HQ];simp
     have i:(qc3 s++(128::(List.replicate (qc7 s.size) (0:Int)++((List.range m).map (qiw s.size)++[q%256])))).length=s.size+1+qc7 s.size+(m+1):=by rw[List.length_append,qa z];simp;omega
     rw[i] at f ⊢;rw[←e1] at f;have J:=qb f;clear f Y C e1 i H;go_wp2;go_roundw
     case rel=>exact⟨m+1,a5,c5,by congr 1;omega,by omega,rfl,J,u6⟩
     case measure=>simp[intOf];omega
    ·obtain rfl:m=8:=by omega
     rw[show (7:Int)-((8:Nat):Int) = -1 from rfl];have a8:=qst (qa C);have E:strOfNums (qc3 s++(128::List.replicate (qc7 s.size) 0)++(List.range 8).map (qiw s.size))=qg5 s:=by
      unfold qg5 qmz;rw[List.append_assoc,qsv]
     generalize strOfNums (qc3 s++(128::List.replicate (qc7 s.size) 0)++(List.range 8).map (qiw s.size))=b3 at a8 E;have P:=qb E;clear E;go_wp2;go_ret;exact⟨by rw[qa P];rfl,O.below' (Nat.le_refl _) (fun _ h=>h) |> fun h=>Upd.of_below h (Nat.le_refl _)⟩
theorem q1u(s:ByteArray):(qg5 s).size%64=0∧(qg5 s).size≤s.size+73:=by
 unfold qg5;rw[ByteArray.size_append,strOfNums_size,ql5];have:=qk7 s.size;have:=qy6 s.size;omega
theorem qz9(p:ByteArray)(i:Nat)(h:i+64≤p.size):(p.extract i p.size).extract 0 64=p.extract i (i+64):=by
 rw[ByteArray.extract_extract];congr 1;omega
theorem q4p(p:ByteArray)(i:Nat)(h:i+64≤p.size):(p.extract i p.size).extract 64 (p.extract i p.size).size=p.extract (i+64) p.size:=by
 rw[ByteArray.extract_extract];congr 1;rw[ByteArray.size_extract];omega
theorem qzo(p:ByteArray)(n:Nat)(h:List Int)(m:p.size%64=0)(f:64*n+64≤p.size) :
  qh9 ((p.size-64*n) / 64) h (p.extract (64*n) p.size)=qh9 ((p.size-64*(n+1)) / 64) (qkp h (p.extract (64*n) (64*n+64))) (p.extract (64*(n+1)) p.size):=by
 obtain⟨k,i⟩:∃k,(p.size-64*n) / 64=k+1:=⟨(p.size-64*n) / 64-1,by omega⟩
 rw[i,show (p.size-64*(n+1)) / 64=k by omega]
 show qh9 k (qkp h ((p.extract (64*n) p.size).extract 0 64)) ((p.extract (64*n) p.size).extract 64 (p.extract (64*n) p.size).size)=_
 rw[qz9 p _ f,q4p p _ f,show 64*n+64=64*(n+1) by omega]
def z32:Array Value:=((List.replicate 32 (0:Int)).map (Value.int .u8)).toArray
def z8r:Array Value:=((List.replicate 8 (0:Int)).map (Value.int .u64)).toArray
def qwp:Array Value:=(qhp.map (Value.int .u64)).toArray
attribute [local go_sem ↓ high] qop qo9 qiv qi3
attribute [local go_sem] zaj zau qw9 qx4
set_option maxRecDepth 100000 in
set_option maxHeartbeats 2000000 in
theorem q7h(s:ByteArray)(w:World)(hs:s.size≤1000000000) :
  Calls Tryz.prog 50 #[.string s] w fun e w'=>e = .returned (.agg ((qef s).map (Value.int .u8)).toArray)∧qq w w':=by
 obtain⟨c7,c8⟩:=q1u s
 have hp:=fun W=>q6q s W hs
 have N:qef s=qfs (qh9 ((qg5 s).size / 64) qhp (qg5 s)) 32:=rfl
 generalize qg5 s=p at c7 c8 hp N
 have HP:=qb hp
 have X:=qb N
 clear hp N
 go_enter Tryz.func50,Tryz.ntmps50
 go_upto_region 0 with fail
 refine wp_region_lit ?_
 refine zi rfl (v:= .pointer (some ⟨w.heap.size,0,none⟩)) (w':=w.alloc (.cells z32 35)) (by kernel_rfl) ?_
 have n0:qq w (w.alloc (.cells z32 35)):=(Upd.refl _ _).alloc _
 have R:(w.alloc (.cells z32 35)).heap[w.heap.size]? = some (.cells z32 35 (0,0)):=qj _ _
 generalize w.alloc (.cells z32 35)=w1 at n0 R ⊢
 go_upto_region 1 with fail
 refine wp_region_lit ?_
 refine zi rfl (v:= .agg qwp) (w':=w1) (by kernel_rfl) ?_
 refine zi rfl (v:= .pointer (some ⟨w1.heap.size,0,none⟩)) (w':=w1.alloc (.cells z8r 175)) (by kernel_rfl) ?_
 have n2:qq w1 (w1.alloc (.cells z8r 175)):=(Upd.refl _ _).alloc _
 have F:(w1.alloc (.cells z8r 175)).heap[w1.heap.size]? = some (.cells z8r 175 (0,0)):=qj _ _
 generalize w1.alloc (.cells z8r 175)=w2 at n2 F ⊢
 refine wpList_store_row rfl _ _ _ rfl w1.heap.size qwp rfl rfl 175 _ F (by kernel_rfl) (by kernel_rfl) (by kernel_rfl) ?_
 have J:(w2.setRow w1.heap.size qwp).heap[w1.heap.size]? = some (.cells qwp 175 (0,0)):=setRow_heap w2 w1.heap.size _ qwp 175 (0,0) F
 have O:qq w1 (w2.setRow w1.heap.size qwp):=n2.setRow (fun h=>by omega) _
 generalize w2.setRow w1.heap.size qwp=w3 at J O ⊢
 have e5:w.heap.size<w1.heap.size:=zr R
 have vR:=O.old R (fun h=>h)
 have nA:=n0.trans O
 have vH:qbd .u64 w3 w1.heap.size qhp:=⟨_,J⟩
 have e6:=vH.lt
 generalize w1.heap.size=B at vH e5 e6 ⊢
 clear n0 R n2 F J O
 go_wp2_with fail
 refine(qa HP w3).mono ?_
 rintro e w4 ⟨rfl,n4⟩
 have g0:=n4.size
 replace vR:=n4.old vR (fun h=>h)
 replace vH:=vH.upd n4 (fun h=>h)
 replace nA:=nA.trans n4
 clear n4 HP
 go_wp2_with fail
 go_loopw [5,6,7] (fun iv _ _ wr=>∃(n:Nat) (f:List Int),iv = .int .i64 (64*(n:Int))∧64*n≤p.size∧f.length=8∧qeh f∧Hid (qh9 ((p.size-64*n) / 64) f (p.extract (64*n) p.size)=qh9 (p.size / 64) qhp p)∧qbd .u64 wr B f∧Upd (fun k=>k=B) w4 wr) (fun iv _ _ _=>p.size-(intOf iv).toNat)
 case atStart=>exact⟨0,qhp,rfl,by omega,rfl,qkv,by rw[show 64*0=0 from rfl,Nat.sub_zero];exact qb (by simp),vH,Upd.refl _ _⟩
 case round =>
  clear vH;obtain⟨n,f,rfl,hn,b3,b4,HE,hH,K⟩:=hrel;by_cases f7:64*n<p.size
  ·have c2:64*n+64≤p.size:=by omega
   have M:(p.extract (64*n) (64*n+64)).size=64:=by rw[ByteArray.size_extract];omega
   have hC:=fun W=>qpi f (p.extract (64*n) (64*n+64)) W b3 b4 M
   have b6:=qr3 f (p.extract (64*n) (64*n+64)) ⟨b3,b4⟩;have I:=(qzo p n f c7 c2).symm.trans (qa HE);obtain⟨TH,hb⟩:=hH;generalize a8:p.extract (64*n) (64*n+64)=bl at hC b6 I;generalize qkp f bl=d at hC b6 I;obtain⟨d8,du⟩:=b6;have HC:=qb hC;have c9:=qb a8;have P:=qb I;clear hC M I a8 HE;obtain⟨z,rfl⟩:∃z:World,z=wr:=⟨_,rfl⟩;have e9:=K.size;generalize b5:(f.map (Value.int .u64)).toArray=cv at hb HC;have b9:cv.size=8:=by rw[←b5];simpa using b3
   have f1:=qb b5;clear b5;have c4:=qat hb 8 b9;have d6:64*(n:Int)<(p.size:Int):=by omega
   have f8:64*(n:Int)+64≤(p.size:Int):=by omega
   have f9:(p.size:Int)≤2000000000:=by omega
   have d7:(64*(n:Int)).toNat=64*n:=by omega
   have e0:IntKind.i64.wrap (64*(n:Int)+64)=64*(n:Int)+64:=IntWalk.i64_in _ (by omega);have e2:0≤64*(n:Int):=by omega
   have e3:0≤64*(n:Int)+64:=by omega
   have e4:64*(n:Int)≤64*(n:Int)+64:=by omega
   have d9:(64*(n:Int)+64).toNat=64*n+64:=by omega
   go_wp2_with fail;refine q9y (by kernel_rfl) [[],[],[],[],[(3,23)],[(1,21),(2,22),(4,24)],[(0,20),(5,25)],[(6,26)],[(7,19)],[(7,19)],[],[(10,6),(8,27)],[(9,28)]] 49 rfl (by kernel_rfl) [(0,20),(1,21),(2,22),(3,23),(4,24),(5,25),(6,26),(7,19),(8,27),(9,28),(10,6),(12,7)] (by kernel_rfl) 10 11 8 rfl rfl rfl rfl ((d.map (Value.int .u64)).toArray)
    [.agg cv,.string p,.int .i64 (64*(n:Int)),.int .i64 (64*(n:Int)),.int .i64 (64*(n:Int)+64),.string bl,.tuple #[.agg (d.map (Value.int .u64)).toArray,.bool true],.tuple #[.agg (d.map (Value.int .u64)).toArray,.bool true],.agg (d.map (Value.int .u64)).toArray,.bool true,undef,undef,.bool true] ?_ ?_
   ·refine .nval rfl rfl rfl ?_ <| .nval rfl rfl rfl ?_ <| .nval rfl rfl rfl ?_ <| .nval rfl rfl rfl ?_ <| .nval rfl rfl rfl ?_ <| .nval rfl rfl rfl ?_ <| .nval rfl rfl rfl ?_ <| .nval rfl rfl rfl ?_ <| .nval rfl rfl rfl ?_ <| .nval rfl rfl rfl ?_ <| .nalloc rfl rfl rfl z8r 175 rfl ?_ <| .nstore rfl rfl rfl rfl (by simp[d8]) ?_ <| .nval rfl rfl rfl ?_ <| .nil
    ·intro ql E L _;have hr:=qav c4 L (fun h=>h);unfold zm;simp only[putL];go_simp;exact⟨Upd.refl _ _,rfl⟩
    ·intro ql E L _;unfold zm;simp only[putL];go_simp;exact⟨Upd.refl _ _,rfl⟩
    ·intro ql E L _;unfold zm;simp only[putL];go_simp;exact⟨Upd.refl _ _,rfl⟩
    ·intro ql E L _;unfold zm;simp only[putL];go_simp;exact⟨Upd.refl _ _,rfl⟩
    ·rintro ql E L ⟨m,-⟩;replace m:ql 3 = .int .i64 (64*(n:Int)):=m;unfold zm;simp only[putL];go_simp;exact⟨Upd.refl _ _,rfl⟩
    ·rintro ql E L ⟨m,U,p2,-⟩;replace m:ql 1 = .string p:=m;replace U:ql 2 = .int .i64 (64*(n:Int)):=U;replace p2:ql 4 = .int .i64 (64*(n:Int)+64):=p2;have a8:=qa c9;unfold zm;simp only[putL];go_simp;exact⟨Upd.refl _ _,rfl⟩
    ·rintro ql E L ⟨m,U,-⟩;replace m:ql 0 = .agg cv:=m;replace U:ql 5 = .string bl:=U;unfold zm;simp only[putL];go_simp;refine(qa HC E).mono ?_;rintro e w6 ⟨rfl,n6⟩;exact⟨_,rfl,n6,rfl⟩
    ·rintro ql E L ⟨m,-⟩;replace m:ql 6 = .tuple #[.agg (d.map (Value.int .u64)).toArray,.bool true]:=m;generalize (d.map (Value.int .u64)).toArray=dv at m ⊢;unfold zm;simp only[putL];go_simp;exact⟨Upd.refl _ _,rfl⟩
    ·rintro ql E L ⟨m,-⟩;replace m:ql 7 = .tuple #[.agg (d.map (Value.int .u64)).toArray,.bool true]:=m;generalize (d.map (Value.int .u64)).toArray=dv at m ⊢;unfold zm;simp only[putL];go_simp;exact⟨Upd.refl _ _,rfl⟩
    ·rintro ql E L ⟨m,-⟩;replace m:ql 7 = .tuple #[.agg (d.map (Value.int .u64)).toArray,.bool true]:=m;generalize (d.map (Value.int .u64)).toArray=dv at m ⊢;unfold zm;simp only[putL];go_simp;exact⟨Upd.refl _ _,rfl⟩
    ·intro ql E;rfl
    ·rintro ql E g T cs e1 hg f5 ⟨-,U,-⟩;replace U:ql 8 = .agg (d.map (Value.int .u64)).toArray:=U;have c5:=qdu (o:=0) (n:=8) (A:=(d.map (Value.int .u64)).toArray) hg (by omega) (by simp[d8]) (by simp[Value.oneCell']);generalize (d.map (Value.int .u64)).toArray=dv at U c5 ⊢;unfold zm;simp only[putL];go_simp
    ·rintro ql E L ⟨m,-⟩;replace m:ql 9 = .bool true:=m;unfold zm;simp only[putL];go_simp;exact⟨Upd.refl _ _,rfl⟩
   ·intro ql E g T n5 d3 f6 hg hv;have c6:ql 12 = .bool true:=hv 12 (by decide) (by decide) (by decide);clear hv;simp only[putL,d3,c6];clear e0 e2 e3 e4 d7 d9;go_simp;have a7:=n5.old hb (fun h=>h);have u5:=K.then n5 (fun _ _ h=>h.elim);clear c4 hb HC n5 K;go_upto_region 7 with fail;refine wp_region_lit ?_;refine wpList_load_row rfl _ _ rfl g rfl T _ _ _ hg Tryz.underlying175 rfl (by rw[List.size_toArray,List.length_map,d8];exact Tryz.infoR8) ?_;refine wpList_store_row rfl _ _ _ rfl B (d.map (Value.int .u64)).toArray rfl rfl TH _ a7 (by rw[List.size_toArray,List.length_map,d8];exact Tryz.infoR8) (by simp[d8,b9]) (by simp[Value.oneCell']) ?_;have hF:=setRow_heap E B _ (d.map (Value.int .u64)).toArray TH (0,0) a7;have u6:=u5.setRow (g:=B) (fun _=>rfl) (d.map (Value.int .u64)).toArray;generalize E.setRow B (d.map (Value.int .u64)).toArray=w6 at hF u6 ⊢;clear hg a7 u5;go_wp2;go_roundw
    case rel=>exact⟨n+1,d,by congr 1,by omega,d8,du,P,⟨TH,hF⟩,u6⟩
    case measure=>simp[intOf];omega
  ·have he:64*n=p.size:=by omega
   have a6:=qa HE;rw[show (p.size-64*n) / 64=0 by omega] at a6;have Z:qef s=qfs f 32:=by rw[qa X,←a6];rfl
   have b8:=qb Z;clear Z a6 HE X;have d6:¬64*(n:Int)<(p.size:Int):=by omega
   have e9:=K.size;have V:=K.old vR (by omega);have nB:=nA.then K (fun q hq e=>by omega);clear vR nA K;obtain⟨z,rfl⟩:∃z:World,z=wr:=⟨_,rfl⟩;go_upto_region 8 with fail;refine wp_region_lit ?_;refine zi rfl (v:= .agg z32) (w':=z) (by kernel_rfl) ?_;refine zi rfl (v:= .pointer (some ⟨z.heap.size,0,none⟩)) (w':=z.alloc (.cells z32 35)) (by kernel_rfl) ?_;have n2:qq z (z.alloc (.cells z32 35)):=(Upd.refl _ _).alloc _;have F:(z.alloc (.cells z32 35)).heap[z.heap.size]? = some (.cells z32 35 (0,0)):=qj _ _;generalize z.alloc (.cells z32 35)=E at n2 F ⊢;refine wpList_store_row rfl _ _ _ rfl z.heap.size z32 rfl rfl 35 _ F (by kernel_rfl) (by kernel_rfl) (by kernel_rfl) ?_;have J:(E.setRow z.heap.size z32).heap[z.heap.size]? = some (.cells z32 35 (0,0)):=setRow_heap E z.heap.size _ z32 35 (0,0) F;have O:qq z (E.setRow z.heap.size z32):=n2.setRow (fun h=>by omega) _;generalize E.setRow z.heap.size z32=w6 at J O ⊢;have vO:qbd .u8 w6 z.heap.size (List.replicate 32 0):=⟨_,J⟩;have e8:=vO.lt;have e7:B<z.heap.size:=hH.lt;replace hH:=hH.upd O (fun h=>h);replace V:=O.old V (fun h=>h);replace nB:=nB.trans O;generalize z.heap.size=C at vO e7 e8 ⊢;clear n2 F J O;go_wp2_with fail
   go_loopw [9] (fun iv wr=>∃i:Nat,iv = .int .i64 (i:Int)∧i≤32∧qbd .u8 wr C (qfs f i)∧Upd (fun k=>k=C) w6 wr) (fun iv _=>32-(intOf iv).toNat)
   case atStart=>exact⟨0,rfl,by omega,by rw[qhk];exact vO,Upd.refl _ _⟩
   case round =>
    obtain⟨i,rfl,hi,Y,K⟩:=hrel;by_cases f0:i<32
    ·have c0:wr.cell? ⟨B,i / 4,none⟩=some (.int .u64 (wd f (i / 4))):=(hH.upd K (by omega)).cell (by omega);obtain⟨a0,d2⟩:=b4.at (i / 4);obtain⟨v1,c1⟩:∃v,wr.cell? ⟨C,i,none⟩=some v:=⟨_,Y.cell (by rw[qgp];omega)⟩;have z1:=Y.free i;have f2:(i:Int)<32:=by omega
     have d4:IntKind.i64.wrap ((i:Int) / 4)=(i:Int) / 4:=IntWalk.i64_in _ (by omega);have d5:((i:Int) / 4).toNat=i / 4:=by omega
     have f3:(0:Int)≤(i:Int) / 4:=by omega
     have f4:(i:Int) / 4<8:=by omega
     have I:=Y.set i (byI f i);rw[←qhj] at I;have P:=qb I;clear I;have hq:byI f i=wd f (i / 4) / 2 ^ (24-8*((i:Int)%4)).toNat%256:=by
      unfold byI;rw[show (24-8*((i:Int)%4)).toNat=24-8*(i%4) by omega]
     have S:∀W,Calls Tryz.prog 96 #[.int .u64 (wd f (i / 4)),.int .i64 (24-8*((i:Int)%4))] W fun e w'=>e = .returned (.int .u64 (wd f (i / 4) / 2 ^ (24-8*((i:Int)%4)).toNat))∧W=w' :=
      fun W=>qjm (wd f (i / 4)) (24-8*((i:Int)%4)) W a0 (by omega) (by omega) (by omega)
     have c3:0≤wd f (i / 4) / 2 ^ (24-8*((i:Int)%4)).toNat∧wd f (i / 4) / 2 ^ (24-8*((i:Int)%4)).toNat<4294967296:=by
      have hp:(1:Int)≤2 ^ (24-8*((i:Int)%4)).toNat:=Int.pow_pos (by decide);refine⟨Int.ediv_nonneg a0 (by omega),?_⟩;exact Int.lt_of_le_of_lt (Int.ediv_le_self _ a0) d2
     generalize wd f (i / 4) / 2 ^ (24-8*((i:Int)%4)).toNat=q at S hq c3;generalize wd f (i / 4)=x at c0 S;have d1:=qb S;rw[hq] at P;have us:=qb (K.set1 i (.int .u8 (q%256)));clear S hq;obtain⟨q0,q1⟩:=c3;go_wp2_with fail;refine(qa d1 _).mono ?_;rintro e w' ⟨rfl,rfl⟩;go_wp2;clear d4 d5;go_roundw
     case rel=>exact⟨i+1,by go_num,by omega,qa P,qa us⟩
     case measure=>simp[intOf];omega
    ·obtain rfl:i=32:=by omega
     rw[show ((32:Nat):Int)=32 from rfl];have b7:=K.old V (by omega);have nn:=nB.then K (by intro q hq h;omega);have H:=qgp f 32;generalize M:qfs f 32=bs at Y H;have d0:=qb M;clear M V nB K vO;obtain⟨TO,Y⟩:=Y;go_upto_region 13 with fail;refine wp_region_lit ?_;refine wpList_load_row rfl _ _ rfl C rfl TO _ _ _ Y Tryz.underlying35 rfl (by rw[List.size_toArray,List.length_map,H];exact Tryz.infoHash) ?_;refine wpList_store_row rfl _ _ _ rfl w.heap.size (bs.map (Value.int .u8)).toArray rfl rfl 35 _ b7 (by rw[List.size_toArray,List.length_map,H];exact Tryz.infoHash) (by have h9:z32.size=32:=rfl;rw[h9];simp[H]) (by simp[Value.oneCell']) ?_;have hF:=setRow_heap wr w.heap.size _ (bs.map (Value.int .u8)).toArray 35 (0,0) b7;have nF:=nn.setRow (g:=w.heap.size) (fun h=>by omega) (bs.map (Value.int .u8)).toArray;generalize wr.setRow w.heap.size (bs.map (Value.int .u8)).toArray=wF at hF nF ⊢;clear nn Y b7;go_wp2_with fail;refine bodyPost_ret (results_cell_row rfl _ _ w.heap.size 35 _ _ _ rfl hF Tryz.underlying35 rfl (by rw[List.size_toArray,List.length_map,H];exact Tryz.infoHash)) rfl ?_;exact⟨by rw[qa b8,qa d0],nF⟩
end Go.Proofs.YtfmkdoachjgjbaaGreatDoor
