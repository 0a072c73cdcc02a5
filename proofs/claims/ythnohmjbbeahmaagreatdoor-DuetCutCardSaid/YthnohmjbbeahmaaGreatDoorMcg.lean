/-
  XDag's law, wider: what is known of an operation may name the values of those that it looks at; and each operation has its own relation between worlds (a store into a block that the region made).
-/
import Derived.Test.YthnohmjbbeahmaaGreatDoorMaa
import Derived.Test.YthnohmjbbeahmaaGreatDoorMbc
set_option linter.unusedVariables false
set_option linter.unusedSimpArgs false
namespace Go.Proofs.YthnohmjbbeahmaaGreatDoor
open Go.RowKit
section
variable {P:Program}{l:List Oper}{A:List (List Nat)}{L:List (List (Nat × Nat))}{n:Nat}
def upV(qm:Nat→Value)(k:Nat)(v:Value):Nat→Value:=fun j=>if j=k then v else qm j
theorem qtu(qm:Nat→Value)(k:Nat)(v:Value):upV qm k v k=v:=by simp[upV]
theorem qju(qm:Nat→Value){k j:Nat}(v:Value)(h:j≠k):upV qm k v j=qm j:=by simp[upV,h]
def qrk(P:Program)(a0:Act)(S:World→Prop)(R:Nat→World→World→Prop)(Φ:Nat→(Nat→Value)→World→Prop)(i:Nat)(o:Oper)(Li:List (Nat × Nat)):Prop :=
 ∀(qm:Nat→Value) (w:World),S w→(∀p∈Li,Φ p.1 qm w) →
  match o.guard with
  | none=>zq P o (putL a0 qm Li).eval w fun v w'=>R i w w'∧S w'∧Φ i (upV qm i v) w'
  | some (g,b)=>Φ g qm w→(qm g = .bool b→zq P o (putL a0 qm Li).eval w fun v w'=>R i w w'∧S w'∧Φ i (upV qm i v) w')∧(qm g ≠ .bool b→Φ i (upV qm i undef) w)
def qas(P:Program)(a0:Act)(S:World→Prop)(R:Nat→World→World→Prop)(Φ:Nat→(Nat→Value)→World→Prop):Nat→List Oper→List (List (Nat × Nat))→Prop
 | _,[],_=>True
 | i,o::os,L=>qrk P a0 S R Φ i o (L.headD [])∧qas P a0 S R Φ (i+1) os L.tail
theorem qas.nil{a0:Act}{S:World→Prop}{R:Nat→World→World→Prop}{Φ:Nat→(Nat→Value)→World→Prop}{i:Nat}{L:List (List (Nat × Nat))} : qas P a0 S R Φ i [] L:=trivial
theorem qas.cons{a0:Act}{S:World→Prop}{R:Nat→World→World→Prop}{Φ:Nat→(Nat→Value)→World→Prop}{i:Nat}{o:Oper}{os:List Oper}{Li:List (Nat × Nat)}{L:List (List (Nat × Nat))}(h:qrk P a0 S R Φ i o Li)
  (k:qas P a0 S R Φ (i+1) os L):qas P a0 S R Φ i (o::os) (Li::L):=⟨h,k⟩
def qur(Φ:Nat→(Nat→Value)→World→Prop)(qm:Nat→Value)(w:World):List (Nat × Nat)→Prop
 | []=>True
 | p::r=>Φ p.1 qm w∧qur Φ qm w r
theorem q08{Φ:Nat→(Nat→Value)→World→Prop}{qm:Nat→Value}{w:World} : ∀ {L:List (Nat × Nat)},(∀p∈L,Φ p.1 qm w)→qur Φ qm w L
 | [],_=>trivial
 | p::r,h=>⟨h p (List.mem_cons_self ..),q08 fun q g=>h q (List.mem_cons_of_mem _ g)⟩
theorem qas.plain{a0:Act}{S:World→Prop}{R:Nat→World→World→Prop}{Φ:Nat→(Nat→Value)→World→Prop}{i:Nat}{o:Oper}{os:List Oper}{Li:List (Nat × Nat)}{L:List (List (Nat × Nat))}(m:o.guard=none)
  (h:∀(qm:Nat→Value) (w:World),S w→qur Φ qm w Li→zq P o (putL a0 qm Li).eval w fun v w'=>R i w w'∧S w'∧Φ i (upV qm i v) w')
  (k:qas P a0 S R Φ (i+1) os L):qas P a0 S R Φ i (o::os) (Li::L) :=
 ⟨fun qm w g q=>by rw[m];exact h qm w g (q08 q),k⟩
theorem qas.at{a0:Act}{S:World→Prop}{R:Nat→World→World→Prop}{Φ:Nat→(Nat→Value)→World→Prop} : ∀ {os:List Oper} {L:List (List (Nat × Nat))} {k:Nat},qas P a0 S R Φ k os L→∀(i:Nat) o,os[i]? = some o→qrk P a0 S R Φ (k+i) o (L.getD i [])
 | [],_,_,_,_,_,h=>by simp at h
 | o::os,L,k,h,0,m,g=>by
  simp only[List.getElem?_cons_zero,Option.some.injEq] at g;subst g;have:=h.1;cases L<;>exact this
 | o::os,L,k,h,i+1,m,g=>by
  have:=qas.at h.2 i m (by simpa using g);rw[show k+(i+1)=k+1+i by omega];cases L<;>exact this
structure DagInvG(l:List Oper)(A:List (List Nat))(a0:Act)(S:World→Prop)(Φ:Nat→(Nat→Value)→World→Prop)(listed:Array Bool)(a:Act)(w:World)(qm:Nat→Value):Prop where
 size:listed.size=l.length
 s:S w
 phi:∀i,listed.getD i false=true→Φ i qm w
 shut:∀i,listed.getD i false=true→∀k∈A.getD i [],listed.getD k false=true
 defers:a.defers=a0.defers
 tmps:a.tmps.size=a0.tmps.size
 other:∀t,(∀i,listed.getD i false=true→qbp l i≠some t)→a.tmps[t]? = a0.tmps[t]?
 at_:∀i t,listed.getD i false=true→qbp l i=some t→a.tmps[t]? = some (qm i)
theorem za2(D:Dag l A L n){a0:Act}(hn:a0.tmps.size=n){S:World→Prop}{R:Nat→World→World→Prop}{Φ:Nat→(Nat→Value)→World→Prop}{Q:Exit→Act→World→Prop}
  (b9:∀i w,R i w w) (loc:∀i k qm v w,k≠i→(∀p∈L.getD i [],p.1≠k)→Φ i qm w→Φ i (upV qm k v) w) (a4:∀i j qm w w',i≠j→S w→S w'→R j w w'→Φ i qm w→Φ i qm w') (a7:qas P a0 S R Φ 0 l L)
  (c0:∀qm w,S w→(∀i,i<l.length→Φ i qm w)→Q .normal (putL a0 qm (qbc l)) w) :
  ∀(F:Nat) (y:Array Bool) (a:Act) (w:World) (qm:Nat→Value),DagInvG l A a0 S Φ y a w qm→(List.range l.length).countP (fun i=> !y.getD i false)≤F→wpAny P .any l.toArray Q F y a w:=by
 have X:∀(y:Array Bool) (a:Act) (w:World) (qm:Nat→Value),DagInvG l A a0 S Φ y a w qm→Region.ready .any l.toArray y=[]→Q .normal a w:=by
  intro y a w qm I hr;have a8:∀(i:Nat),i<l.length→y.getD i false=true:=by
   intro i
   induction i using Nat.strongRecOn with
   | _ i ih =>
    intro N;cases hl:y.getD i false with
    | true=>rfl
    | false =>
     exfalso;have:i∈Region.ready .any l.toArray y:=by
      rw[mem_ready];have ho:l[i]? = some l[i]:=List.getElem?_eq_getElem N;refine⟨?_,l[i],by simp[N],fun e he hb=> ?_⟩
      ·rw[Array.getD_eq_getD_getElem?] at hl ⊢;have:i<y.size:=by rw[I.size];exact N
       rw[Array.getElem?_eq_getElem this] at hl ⊢;simpa using hl
      ·have M:=(D.edge i _ ho e he hb).1;have h2:=(D.anc i _ ho _ M).1;exact ih _ h2 (by omega)
     rw[hr] at this;cases this
  have ha:a=putL a0 qm (qbc l):=by
   refine q2h (by rw[qip];exact I.defers) fun t=> ?_
   by_cases h:∃i,qbp l i=some t
   ·obtain⟨i,N⟩:=h;have K:=(qmw N).1;rw[I.at_ i t (a8 i K) N];have hm:(i,t)∈qbc l:=by
     unfold qbc;rw[List.mem_filterMap];exact⟨i,List.mem_range.2 K,by rw[N];rfl⟩
    refine(qkj qm (qbc l) a0 (i,t) hm (fun q hq e=> ?_) (by rw[hn];exact(D.slot i t N).1)).symm;unfold qbc at hq;rw[List.mem_filterMap] at hq;obtain⟨j,_,C⟩:=hq;rw[Option.map_eq_some_iff] at C;obtain⟨t',a6,rfl⟩:=C;simp only at e;subst e;exact(D.slot i _ N).2 j a6
   ·rw[I.other t fun i _ T=>h ⟨i,T⟩,qey];intro p Y e;unfold qbc at Y;rw[List.mem_filterMap] at Y;obtain⟨j,_,C⟩:=Y;rw[Option.map_eq_some_iff] at C;obtain⟨t',a6,rfl⟩:=C;exact h ⟨j,by rw[a6,←e]⟩
  rw[ha];exact c0 qm w I.s fun i N=>I.phi i (a8 i N)
 intro F
 induction F with
 | zero =>
  intro y a w qm I hc;have hr:Region.ready .any l.toArray y=[]:=by
   rw[List.eq_nil_iff_forall_not_mem];intro i N;obtain⟨h0,o,ho,_⟩:=mem_ready.1 N;have K:i<l.length:=by simpa using (Array.getElem?_eq_some_iff.1 ho).1
   have:(List.range l.length).countP (fun i=> !y.getD i false)=0:=by omega
   rw[List.countP_eq_zero] at this;have:=this i (List.mem_range.2 K);rw[Array.getD_eq_getD_getElem?] at h0 this;have T:i<y.size:=by rw[I.size];exact K
   rw[Array.getElem?_eq_getElem T] at h0 this;simp at h0 this;rw[h0] at this;cases this
  exact⟨hr,X y a w qm I hr⟩
 | succ F ih =>
  intro y a w qm I hc;refine⟨fun hr=>X y a w qm I hr,fun i N=> ?_⟩;obtain⟨h0,o,ho,a9⟩:=mem_ready.1 N;have K:i<l.length:=by simpa using (Array.getElem?_eq_some_iff.1 ho).1
  have T:i<y.size:=by rw[I.size];exact K
  have H:l[i]? = some o:=by simpa using ho
  have W:y.getD i false=false:=by
   rw[Array.getD_eq_getD_getElem?] at h0 ⊢;rw[Array.getElem?_eq_getElem T] at h0 ⊢;simpa using h0
  have U:∀k∈A.getD i [],y.getD k false=true:=by
   intro k hk;obtain⟨_,e,he,hb,h⟩:=D.anc i o H k hk;have M:=a9 e he hb;rcases h with rfl | h
   ·exact M
   ·exact I.shut _ M k h
  have a5:∀t∈o.looksAt l.toArray,a.tmps[t]? = (putL a0 qm (L.getD i [])).tmps[t]? := by
   intro t ht;by_cases h:∃j,y.getD j false=true∧qbp l j=some t
   ·obtain⟨j,C,E⟩:=h;rcases D.look i o H t ht j E with M | ⟨M,h2⟩
    ·have:=I.shut j C i M;rw[W] at this;cases this
    ·rw[I.at_ j t C E];refine(qkj qm _ a0 (j,t) h2 (fun q hq e=> ?_) (by rw[hn];exact(D.slot j t E).1)).symm;have:=(D.lis i o H q hq).2;rw[e] at this;exact(D.slot j t E).2 _ this
   ·rw[I.other t fun j C T=>h ⟨j,C,T⟩,qey];intro p Y e;obtain⟨M,h2⟩:=D.lis i o H p Y;exact h ⟨p.1,U _ M,by rw[h2,e]⟩
  have V:execOp a.eval o=execOp (putL a0 qm (L.getD i [])).eval o:=by
   refine execOp_congr o (D.sel i o H) fun x hx=> ?_
   cases x with
   | tmp t =>
    have:=a5 t (List.mem_append_left _ (List.mem_filterMap.2 ⟨.tmp t,by simpa using hx,rfl⟩));simp only[Act.eval,Array.getD_eq_getD_getElem?,this]
   | _=>rfl
  have b8:=a7.at i o H;rw[Nat.zero_add] at b8;have J:=b8 qm w I.s fun p Y=>I.phi _ (U _ (D.lis i o H p Y).1)
  have next:∀v w',R i w w'→S w'→Φ i (upV qm i v) w'→wpAny P .any l.toArray Q F (y.setIfInBounds i true) (a.put o.dst v) w':=by
   intro v w' hR hS hΦ;have Z:qbp l i=o.dst:=by unfold qbp;rw[H];rfl
   refine ih (y.setIfInBounds i true) (a.put o.dst v) w' (upV qm i v) ⟨?_,hS,?_,?_,?_,?_,?_,?_⟩ ?_
   ·rw[Array.size_setIfInBounds];exact I.size
   ·intro j C;rcases (qai T).1 C with rfl | z
    ·exact hΦ
    ·have O:j≠i:=by rintro rfl;rw[W] at z;cases z
     have c3:j<l.length:=by
      rcases Nat.lt_or_ge j l.length with h | h
      ·exact h
      ·rw[Array.getD_eq_getD_getElem?,Array.getElem?_eq_none (by rw[I.size];exact h)] at z;cases z
     refine a4 j i _ w w' O I.s hS hR (loc j i qm v w (Ne.symm O) (fun p Y e=> ?_) (I.phi j z));have hA:=(D.lis j _ (List.getElem?_eq_getElem c3) p Y).1;have:=I.shut j z _ hA;rw[e,W] at this;cases this
   ·intro j C k hk;refine(qai T).2 ?_;rcases (qai T).1 C with rfl | z
    ·exact .inr (U k hk)
    ·exact .inr (I.shut j z k hk)
   ·cases o.dst<;>exact I.defers
   ·cases hd:o.dst with
    | none=>exact I.tmps
    | some d=>simpa [Act.put] using I.tmps
   ·intro t ht;have M:=I.other t fun j C=>ht j ((qai T).2 (.inr C))
    have h2:=ht i ((qai T).2 (.inl rfl));rw[Z] at h2;cases hd:o.dst with
    | none=>exact M
    | some d =>
     have O:d≠t:=by rintro rfl;exact h2 hd
     simpa [Act.put,Array.getElem?_setIfInBounds_ne O] using M
   ·intro j t C E;rcases (qai T).1 C with rfl | z
    ·rw[Z] at E;rw[E,qtu];have:t<a.tmps.size:=by rw[I.tmps,hn];exact(D.slot j t (by rw[Z,E])).1
     simp[Act.put,this]
    ·have O:j≠i:=by rintro rfl;rw[W] at z;cases z
     rw[qju _ _ O];have M:=I.at_ j t z E;cases hd:o.dst with
     | none=>exact M
     | some d =>
      have b7:d≠t:=by
       rintro rfl;exact O ((D.slot i d (by rw[Z,hd])).2 j E)
      simpa [Act.put,Array.getElem?_setIfInBounds_ne b7] using M
   ·have M:(List.range l.length).countP (fun j=> !(y.setIfInBounds i true).getD j false)<(List.range l.length).countP (fun j=> !y.getD j false):=by
     have b6:i∈List.range l.length:=List.mem_range.2 K;obtain⟨s,r,c4⟩:=List.append_of_mem b6;rw[c4,List.countP_append,List.countP_append,List.countP_cons,List.countP_cons];have m:∀xs:List Nat,xs.countP (fun j=> !(y.setIfInBounds i true).getD j false)≤xs.countP (fun j=> !y.getD j false):=by
      intro xs;refine List.countP_mono_left fun j _ C=> ?_
      cases h:y.getD j false with
      | false=>rfl
      | true=>rw[(qai T).2 (.inr h)] at C;cases C
     have m1:=m s;have m2:=m r;rw[qgk T,W];simp only[Bool.not_true,Bool.not_false,Bool.false_eq_true,if_false,if_true];omega
    omega
  unfold wpOp;rw[ho];simp only;cases hg:o.guard with
  | none =>
   rw[hg] at J;rw[if_pos (by unfold Region.wanted;rw[hg])];exact .inl (qjl V J fun v w' h=>next v w' h.1 h.2.1 h.2.2)
  | some gb =>
   obtain⟨g,b⟩:=gb;rw[hg] at J;obtain⟨c2,t,b5⟩:=D.guard i o H g b hg;have b4:=U g c2;have c1:=I.at_ g t b4 b5;obtain⟨p1,p2⟩:=J (I.phi g b4);have hy:Region.wanted o (yielded l.toArray a.tmps)=true↔qm g = .bool b:=by
    unfold Region.wanted yielded;rw[hg];have e1:(l.toArray[g]?).bind (·.dst)=some t:=by simpa [qbp] using b5
    simp only[e1,Option.bind_some,c1];constructor
    ·intro h;split at h
     ·rename_i b' b3;simp only[Option.some.injEq] at b3;simp at h;rw[b3,h]
     ·simp at h
    ·intro h;rw[h];simp
   by_cases hw:Region.wanted o (yielded l.toArray a.tmps)=true
   ·rw[if_pos hw];exact .inl (qjl V (p1 (hy.1 hw)) fun v w' h=>next v w' h.1 h.2.1 h.2.2)
   ·rw[if_neg hw];exact next undef w (b9 i w) I.s (p2 fun h=>hw (hy.2 h))
theorem zgu{id:Nat}{a:Act}{w:World}{Q:Exit→Act→World→Prop}(D:P.follows .mixedOrders=true)(L:List (List (Nat × Nat)))(n:Nat)(E:a.tmps.size=n)(z:za1 l (qwp l []) L n=true)(A:List (Nat × Nat))(y:qbc l=A)
  (S:World→Prop) (R:Nat→World→World→Prop) (Φ:Nat→(Nat→Value)→World→Prop) (C:S w.drew) (q:∀i w,R i w w) (loc:∀i k qm v w,k≠i→(∀p∈L.getD i [],p.1≠k)→Φ i qm w→Φ i (upV qm k v) w) (g:∀i j qm w w',i≠j→S w→S w'→R j w w'→Φ i qm w→Φ i qm w')
  (o:qas P a S R Φ 0 l L) (x:∀qm w,S w→(∀i,i<l.length→Φ i qm w)→Q .normal (putL a qm A) w) :
  (Code.region id l.toArray true).wp P Q a w:=by
 subst y
 refine wp_region_any D ?_
 refine za2 (q2w z) E q loc g o x _ _ a _ (fun _=>undef) ⟨by simp,C,?_,?_,rfl,rfl,fun _ _=>rfl,?_⟩ ?_
 ·intro i m;rw[qb1] at m;cases m
 ·intro i m;rw[qb1] at m;cases m
 ·intro i t m;rw[qb1] at m;cases m
 ·refine Nat.le_trans List.countP_le_length ?_;simp
end
def zh1(B:Nat)(w w':World):Prop:=Upd (fun k=>B≤k) w w'∧∀(g:Nat) (T:TypeId) (cs:Array Value),w.heap[g]? = some (.cells cs T (0,0))→∃q:Array Value,q.size=cs.size∧w'.heap[g]? = some (.cells q T (0,0))
def RN(B st j:Nat)(w w':World):Prop:=if j=st then zh1 B w w' else qq w w'
theorem RN.refl(B st j:Nat)(w:World):RN B st j w w:=by
 unfold RN;split
 ·exact⟨Upd.refl _ _,fun g T cs h=>⟨cs,rfl,h⟩⟩
 ·exact Upd.refl _ _
def isN(B al st n:Nat)(r:Array Value)(xs:List Value)(i:Nat)(qm:Nat→Value)(w:World):Prop :=
 if i=al then ∃(g:Nat) (T:TypeId) (cs:Array Value),qm al = .pointer (some ⟨g,0,none⟩)∧B≤g∧w.heap[g]? = some (.cells cs T (0,0))∧cs.size=n
 else if i=st then ∃(g:Nat) (T:TypeId),qm al = .pointer (some ⟨g,0,none⟩)∧B≤g∧w.heap[g]? = some (.cells r T (0,0))
 else qm i=xs.getD i undef
theorem zfx{B al st n:Nat}{r:Array Value}{xs:List Value}{i:Nat}{qm:Nat→Value}{w:World}(g:i≠al)(q:i≠st)(h:isN B al st n r xs i qm w):qm i=xs.getD i undef:=by
 unfold isN at h;rwa [if_neg g,if_neg q] at h
theorem zio{B al st n:Nat}{r:Array Value}{xs:List Value}{i:Nat}{qm:Nat→Value}{v:Value}{w:World}(g:i≠al)(q:i≠st)(h:v=xs.getD i undef):isN B al st n r xs i (upV qm i v) w:=by
 unfold isN;rw[if_neg g,if_neg q,qtu];exact h
def isX(xs:List Value)(i:Nat)(v:Value):Prop:=v=xs.getD i undef
section
variable {P:Program}{l:List Oper}{A:List (Nat × Nat)}{L:List (List (Nat × Nat))}{n:Nat}
theorem zgv{id:Nat}{a:Act}{w:World}{Q:Exit→Act→World→Prop}(hm:P.follows .mixedOrders=true)(L:List (List (Nat × Nat)))(n:Nat)(hn:a.tmps.size=n)(hL:za1 l (qwp l []) L n=true)(A:List (Nat × Nat))(hA:qbc l=A)
  (al st m:Nat) (O:(al==st)=false) (a4:decide (al<l.length)=true) (W:decide (st<l.length)=true) (K:((L.getD st []).any fun p=>p.1==al)=true) (r:Array Value) (xs:List Value)
  (y:qas P a (fun w'=>qq w w') (RN w.heap.size st) (isN w.heap.size al st m r xs) 0 l L)
  (J:∀(qm:Nat→Value) (w':World) (g:Nat) (T:TypeId),qq w w'→qm al = .pointer (some ⟨g,0,none⟩)→w.heap.size≤g→w'.heap[g]? = some (.cells r T (0,0))→(∀i,i<l.length→i≠al→i≠st→qm i=xs.getD i undef)→Q .normal (putL a qm A) w') :
  (Code.region id l.toArray true).wp P Q a w:=by
 have F:al≠st:=by simpa using O
 refine zgu hm L n hn hL A hA (fun w'=>qq w w') (RN w.heap.size st) (isN w.heap.size al st m r xs) (Upd.refl _ _).drew (fun i w=>RN.refl _ _ _ _) ?_ ?_ y ?_
 ·intro i k qm v w' E hp h;unfold isN at h ⊢;by_cases q:i=al
  ·rw[if_pos q] at h ⊢;subst q;rw[qju _ _ (fun e=>E e.symm)];exact h
  ·rw[if_neg q] at h ⊢;by_cases t:i=st
   ·rw[if_pos t] at h ⊢;subst t;obtain⟨p,U,R⟩:=List.any_eq_true.1 K;have:=hp p U;have H:p.1=al:=by simpa using R
    rw[qju _ _ (fun e=>this (H.trans e))];exact h
   ·rw[if_neg t] at h ⊢;rw[qju _ _ (fun e=>E e.symm)];exact h
 ·intro i j qm w1 w2 N _ _ x h;unfold isN at h ⊢;unfold RN at x;by_cases q:i=al
  ·rw[if_pos q] at h ⊢;obtain⟨g,T,cs,z,C,D,Y⟩:=h;by_cases X:j=st
   ·rw[if_pos X] at x;obtain⟨I,V,M⟩:=x.2 g T cs D;exact⟨g,T,I,z,C,M,V.trans Y⟩
   ·rw[if_neg X] at x;exact⟨g,T,cs,z,C,x.old D (fun h=>h),Y⟩
  ·rw[if_neg q] at h ⊢;by_cases t:i=st
   ·rw[if_pos t] at h ⊢;obtain⟨g,T,z,C,D⟩:=h;rw[if_neg (fun e=>N (t.trans e.symm))] at x;exact⟨g,T,z,C,x.old D (fun h=>h)⟩
   ·rw[if_neg t] at h ⊢;exact h
 ·intro qm w' hS Z;have q:=Z st (by simpa using W);unfold isN at q;rw[if_neg (fun e=>F e.symm),if_pos rfl] at q;obtain⟨g,T,z,C,D⟩:=q;exact J qm w' g T hS z C D fun i hi q t=>zfx q t (Z i hi)
variable {a0:Act}{wo:World}{al st m i:Nat}{r:Array Value}{xs:List Value}{o:Oper}{os:List Oper}{Li:List (Nat × Nat)}{L':List (List (Nat × Nat))}
theorem qas.nval(z:o.guard=none)(x:(i==al)=false)(y:(i==st)=false)
  (h:∀(qm:Nat→Value) (w:World),qq wo w→qur (isN wo.heap.size al st m r xs) qm w Li→zq P o (putL a0 qm Li).eval w fun v w'=>qq w w'∧isX xs i v)
  (k:qas P a0 (fun w'=>qq wo w') (RN wo.heap.size st) (isN wo.heap.size al st m r xs) (i+1) os L'):qas P a0 (fun w'=>qq wo w') (RN wo.heap.size st) (isN wo.heap.size al st m r xs) i (o::os) (Li::L') :=
 qas.plain z (fun qm w t C=>qnp (h qm w t C) fun v w' hv=>by
  have q:i≠al:=by simpa using x
  have g:i≠st:=by simpa using y
  refine⟨?_,t.trans hv.1,zio q g hv.2⟩;unfold RN;rw[if_neg g];exact hv.1) k
theorem qas.nalloc(z:o.guard=none)(v:(i==al)=true)(x:(i==st)=false)(C:Array Value)(T:TypeId)(y:C.size=m)
  (h:∀(qm:Nat→Value) (w:World),(execOp (putL a0 qm Li).eval o).run P w = .ok (.value (.pointer (some ⟨w.heap.size,0,none⟩))) (w.alloc (.cells C T)))
  (k:qas P a0 (fun w'=>qq wo w') (RN wo.heap.size st) (isN wo.heap.size al st m r xs) (i+1) os L'):qas P a0 (fun w'=>qq wo w') (RN wo.heap.size st) (isN wo.heap.size al st m r xs) i (o::os) (Li::L') :=
 qas.plain z (fun qm w t D=>q01 (h qm w) (by
  have g:i=al:=by simpa using v
  have q:i≠st:=by simpa using x
  refine⟨?_,Upd.alloc t _,?_⟩
  ·unfold RN;rw[if_neg q];exact(Upd.refl _ _).alloc _
  ·unfold isN;rw[if_pos g,←g,qtu];exact⟨_,T,C,rfl,t.size,qi _ _,y⟩)) k
theorem qas.nstore(U:o.guard=none)(N:(i==al)=false)(O:(i==st)=true)(E:(Li.any fun p=>p.1==al)=true)(hr:r.size=m)
  (h:∀(qm:Nat→Value) (w:World) (g:Nat) (T:TypeId) (cs:Array Value),qm al = .pointer (some ⟨g,0,none⟩)→w.heap[g]? = some (.cells cs T (0,0))→cs.size=m→qur (isN wo.heap.size al st m r xs) qm w Li →
   zq P o (putL a0 qm Li).eval w fun _ w'=>w'=w.setCells g 0 r.toList)
  (k:qas P a0 (fun w'=>qq wo w') (RN wo.heap.size st) (isN wo.heap.size al st m r xs) (i+1) os L'):qas P a0 (fun w'=>qq wo w') (RN wo.heap.size st) (isN wo.heap.size al st m r xs) i (o::os) (Li::L') :=
 qas.plain U (fun qm w R C=>by
  have x:i≠al:=by simpa using N
  have y:i=st:=by simpa using O
  obtain⟨g,T,cs,I,J,F,H⟩:∃(g:Nat) (T:TypeId) (cs:Array Value),qm al = .pointer (some ⟨g,0,none⟩)∧wo.heap.size≤g∧w.heap[g]? = some (.cells cs T (0,0))∧cs.size=m:=by
   have key:∀Li:List (Nat × Nat),(Li.any fun p=>p.1==al)=true→qur (isN wo.heap.size al st m r xs) qm w Li→isN wo.heap.size al st m r xs al qm w:=by
    intro Li
    induction Li with
    | nil=>intro h;simp at h
    | cons p Li W =>
     intro t C;rw[List.any_cons,Bool.or_eq_true] at t;rcases t with t | t
     ·have:p.1=al:=by simpa using t
      rw[←this];exact this▸C.1
     ·exact W t C.2
   have:=key Li E C;unfold isN at this;rwa [if_pos rfl] at this
  refine qnp (h qm w g T cs I F H C) fun v w' V=> ?_
  subst V;have z:=qa4 F 0 r.toList;have M:Upd (fun k=>wo.heap.size≤k) w (w.setCells g 0 r.toList):=((Upd.refl (· = g) w).setCells 0 r.toList).mono (fun k _ e=>by subst e;exact J);refine⟨?_,?_,?_⟩
  ·unfold RN;rw[if_pos y];refine⟨M,fun g' Z D q=> ?_⟩;by_cases K:g'=g
   ·subst K;rw[F] at q;cases q;exact⟨_,qnk _ _ _,z⟩
   ·exact⟨D,rfl,((Upd.refl (· = g) w).setCells 0 r.toList).old q K⟩
  ·exact R.then M (fun k hk e=>by omega)
  ·unfold isN;rw[if_neg x,if_pos y,qju _ _ (fun e=>x e.symm)];refine⟨g,T,I,J,?_⟩;rw[z];congr 2;refine Array.ext_getElem? fun j=> ?_
   rw[qhm cs 0 r.toList j (by rw[Array.length_toList];omega)];by_cases hj:j<r.size
   ·rw[if_pos (by rw[Array.length_toList];omega)];simp
   ·have X:cs[j]? = none:=Array.getElem?_eq_none (by omega);have Y:r[j]? = none:=Array.getElem?_eq_none (by omega);rw[if_neg (by rw[Array.length_toList];omega),X,Y]) k
end
end Go.Proofs.YthnohmjbbeahmaaGreatDoor
