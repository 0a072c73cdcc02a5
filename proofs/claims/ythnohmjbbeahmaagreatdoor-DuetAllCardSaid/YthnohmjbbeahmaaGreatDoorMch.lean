/-
  XDag's law, wider: what is known of an operation may name the values of those that it looks at; and each operation has its own relation between worlds (a store into a block that the region made).
-/
import Derived.Test.YthnohmjbbeahmaaGreatDoorDag
import Derived.Test.YthnohmjbbeahmaaGreatDoorMbd
import Derived.Test.YthnohmjbbeahmaaGreatDoorMaa
import Derived.Test.YthnohmjbbeahmaaGreatDoorShR3
import Derived.Test.YthnohmjbbeahmaaGreatDoorMbe
import Derived.Test.YthnohmjbbeahmaaGreatDoorMbg
import Derived.Test.YthnohmjbbeahmaaGreatDoorMcf
import Derived.Deep.Onto
import Derived.Maps.AppendAt
import Derived.Deep.AppendLies
set_option linter.unusedVariables false
set_option linter.unusedSimpArgs false
namespace Go.Proofs.YthnohmjbbeahmaaGreatDoor
open Go.RowKit
section
variable {P:Program}{l:List Oper}{A:List (List Nat)}{L:List (List (Nat × Nat))}{n:Nat}
def upV(qk:Nat→Value)(k:Nat)(v:Value):Nat→Value:=fun j=>if j=k then v else qk j
theorem qs1(qk:Nat→Value)(k:Nat)(v:Value):upV qk k v k=v:=by simp[upV]
theorem qjd(qk:Nat→Value){k j:Nat}(v:Value)(h:j≠k):upV qk k v j=qk j:=by simp[upV,h]
def qqt(P:Program)(a0:Act)(S:World→Prop)(R:Nat→World→World→Prop)(Φ:Nat→(Nat→Value)→World→Prop)(i:Nat)(o:Oper)(Li:List (Nat × Nat)):Prop :=
 ∀(qk:Nat→Value) (w:World),S w→(∀p∈Li,Φ p.1 qk w) →
  match o.guard with
  | none=>zi P o (putL a0 qk Li).eval w fun v w'=>R i w w'∧S w'∧Φ i (upV qk i v) w'
  | some (g,b)=>Φ g qk w→(qk g = .bool b→zi P o (putL a0 qk Li).eval w fun v w'=>R i w w'∧S w'∧Φ i (upV qk i v) w')∧(qk g ≠ .bool b→Φ i (upV qk i undef) w)
def qar(P:Program)(a0:Act)(S:World→Prop)(R:Nat→World→World→Prop)(Φ:Nat→(Nat→Value)→World→Prop):Nat→List Oper→List (List (Nat × Nat))→Prop
 | _,[],_=>True
 | i,o::os,L=>qqt P a0 S R Φ i o (L.headD [])∧qar P a0 S R Φ (i+1) os L.tail
theorem qar.nil{a0:Act}{S:World→Prop}{R:Nat→World→World→Prop}{Φ:Nat→(Nat→Value)→World→Prop}{i:Nat}{L:List (List (Nat × Nat))} : qar P a0 S R Φ i [] L:=trivial
theorem qar.cons{a0:Act}{S:World→Prop}{R:Nat→World→World→Prop}{Φ:Nat→(Nat→Value)→World→Prop}{i:Nat}{o:Oper}{os:List Oper}{Li:List (Nat × Nat)}{L:List (List (Nat × Nat))}(h:qqt P a0 S R Φ i o Li)
  (k:qar P a0 S R Φ (i+1) os L):qar P a0 S R Φ i (o::os) (Li::L):=⟨h,k⟩
def qtt(Φ:Nat→(Nat→Value)→World→Prop)(qk:Nat→Value)(w:World):List (Nat × Nat)→Prop
 | []=>True
 | p::r=>Φ p.1 qk w∧qtt Φ qk w r
theorem qzx{Φ:Nat→(Nat→Value)→World→Prop}{qk:Nat→Value}{w:World} : ∀ {L:List (Nat × Nat)},(∀p∈L,Φ p.1 qk w)→qtt Φ qk w L
 | [],_=>trivial
 | p::r,h=>⟨h p (List.mem_cons_self ..),qzx fun q g=>h q (List.mem_cons_of_mem _ g)⟩
theorem qar.plain{a0:Act}{S:World→Prop}{R:Nat→World→World→Prop}{Φ:Nat→(Nat→Value)→World→Prop}{i:Nat}{o:Oper}{os:List Oper}{Li:List (Nat × Nat)}{L:List (List (Nat × Nat))}(m:o.guard=none)
  (h:∀(qk:Nat→Value) (w:World),S w→qtt Φ qk w Li→zi P o (putL a0 qk Li).eval w fun v w'=>R i w w'∧S w'∧Φ i (upV qk i v) w')
  (k:qar P a0 S R Φ (i+1) os L):qar P a0 S R Φ i (o::os) (Li::L) :=
 ⟨fun qk w g q=>by rw[m];exact h qk w g (qzx q),k⟩
theorem qar.at{a0:Act}{S:World→Prop}{R:Nat→World→World→Prop}{Φ:Nat→(Nat→Value)→World→Prop} : ∀ {os:List Oper} {L:List (List (Nat × Nat))} {k:Nat},qar P a0 S R Φ k os L→∀(i:Nat) o,os[i]? = some o→qqt P a0 S R Φ (k+i) o (L.getD i [])
 | [],_,_,_,_,_,h=>by simp at h
 | o::os,L,k,h,0,m,g=>by
  simp only[List.getElem?_cons_zero,Option.some.injEq] at g;subst g;have:=h.1;cases L<;>exact this
 | o::os,L,k,h,i+1,m,g=>by
  have:=qar.at h.2 i m (by simpa using g);rw[show k+(i+1)=k+1+i by omega];cases L<;>exact this
structure DagInvG(l:List Oper)(A:List (List Nat))(a0:Act)(S:World→Prop)(Φ:Nat→(Nat→Value)→World→Prop)(listed:Array Bool)(a:Act)(w:World)(qk:Nat→Value):Prop where
 size:listed.size=l.length
 s:S w
 phi:∀i,listed.getD i false=true→Φ i qk w
 shut:∀i,listed.getD i false=true→∀k∈A.getD i [],listed.getD k false=true
 defers:a.defers=a0.defers
 tmps:a.tmps.size=a0.tmps.size
 other:∀t,(∀i,listed.getD i false=true→qbn l i≠some t)→a.tmps[t]? = a0.tmps[t]?
 at_:∀i t,listed.getD i false=true→qbn l i=some t→a.tmps[t]? = some (qk i)
theorem q9c(D:Dag l A L n){a0:Act}(hn:a0.tmps.size=n){S:World→Prop}{R:Nat→World→World→Prop}{Φ:Nat→(Nat→Value)→World→Prop}{Q:Exit→Act→World→Prop}
  (c0:∀i w,R i w w) (loc:∀i k qk v w,k≠i→(∀p∈L.getD i [],p.1≠k)→Φ i qk w→Φ i (upV qk k v) w) (a5:∀i j qk w w',i≠j→S w→S w'→R j w w'→Φ i qk w→Φ i qk w') (a8:qar P a0 S R Φ 0 l L)
  (c1:∀qk w,S w→(∀i,i<l.length→Φ i qk w)→Q .normal (putL a0 qk (qbc l)) w) :
  ∀(H:Nat) (z:Array Bool) (a:Act) (w:World) (qk:Nat→Value),DagInvG l A a0 S Φ z a w qk→(List.range l.length).countP (fun i=> !z.getD i false)≤H→wpAny P .any l.toArray Q H z a w:=by
 have Y:∀(z:Array Bool) (a:Act) (w:World) (qk:Nat→Value),DagInvG l A a0 S Φ z a w qk→Region.ready .any l.toArray z=[]→Q .normal a w:=by
  intro z a w qk I hr;have a9:∀(i:Nat),i<l.length→z.getD i false=true:=by
   intro i
   induction i using Nat.strongRecOn with
   | _ i ih =>
    intro O;cases hl:z.getD i false with
    | true=>rfl
    | false =>
     exfalso;have:i∈Region.ready .any l.toArray z:=by
      rw[mem_ready];have ho:l[i]? = some l[i]:=List.getElem?_eq_getElem O;refine⟨?_,l[i],by simp[O],fun e he hb=> ?_⟩
      ·rw[Array.getD_eq_getD_getElem?] at hl ⊢;have:i<z.size:=by rw[I.size];exact O
       rw[Array.getElem?_eq_getElem this] at hl ⊢;simpa using hl
      ·have N:=(D.edge i _ ho e he hb).1;have h2:=(D.anc i _ ho _ N).1;exact ih _ h2 (by omega)
     rw[hr] at this;cases this
  have ha:a=putL a0 qk (qbc l):=by
   refine q00 (by rw[qh9];exact I.defers) fun t=> ?_
   by_cases h:∃i,qbn l i=some t
   ·obtain⟨i,O⟩:=h;have M:=(ql6 O).1;rw[I.at_ i t (a9 i M) O];have hm:(i,t)∈qbc l:=by
     unfold qbc;rw[List.mem_filterMap];exact⟨i,List.mem_range.2 M,by rw[O];rfl⟩
    refine(qj2 qk (qbc l) a0 (i,t) hm (fun q hq e=> ?_) (by rw[hn];exact(D.slot i t O).1)).symm;unfold qbc at hq;rw[List.mem_filterMap] at hq;obtain⟨j,_,E⟩:=hq;rw[Option.map_eq_some_iff] at E;obtain⟨t',a7,rfl⟩:=E;simp only at e;subst e;exact(D.slot i _ O).2 j a7
   ·rw[I.other t fun i _ U=>h ⟨i,U⟩,qew];intro p Z e;unfold qbc at Z;rw[List.mem_filterMap] at Z;obtain⟨j,_,E⟩:=Z;rw[Option.map_eq_some_iff] at E;obtain⟨t',a7,rfl⟩:=E;exact h ⟨j,by rw[a7,←e]⟩
  rw[ha];exact c1 qk w I.s fun i O=>I.phi i (a9 i O)
 intro H
 induction H with
 | zero =>
  intro z a w qk I hc;have hr:Region.ready .any l.toArray z=[]:=by
   rw[List.eq_nil_iff_forall_not_mem];intro i O;obtain⟨h0,o,ho,_⟩:=mem_ready.1 O;have M:i<l.length:=by simpa using (Array.getElem?_eq_some_iff.1 ho).1
   have:(List.range l.length).countP (fun i=> !z.getD i false)=0:=by omega
   rw[List.countP_eq_zero] at this;have:=this i (List.mem_range.2 M);rw[Array.getD_eq_getD_getElem?] at h0 this;have U:i<z.size:=by rw[I.size];exact M
   rw[Array.getElem?_eq_getElem U] at h0 this;simp at h0 this;rw[h0] at this;cases this
  exact⟨hr,Y z a w qk I hr⟩
 | succ H ih =>
  intro z a w qk I hc;refine⟨fun hr=>Y z a w qk I hr,fun i O=> ?_⟩;obtain⟨h0,o,ho,b3⟩:=mem_ready.1 O;have M:i<l.length:=by simpa using (Array.getElem?_eq_some_iff.1 ho).1
  have U:i<z.size:=by rw[I.size];exact M
  have J:l[i]? = some o:=by simpa using ho
  have X:z.getD i false=false:=by
   rw[Array.getD_eq_getD_getElem?] at h0 ⊢;rw[Array.getElem?_eq_getElem U] at h0 ⊢;simpa using h0
  have V:∀k∈A.getD i [],z.getD k false=true:=by
   intro k hk;obtain⟨_,e,he,hb,h⟩:=D.anc i o J k hk;have N:=b3 e he hb;rcases h with rfl | h
   ·exact N
   ·exact I.shut _ N k h
  have a6:∀t∈o.looksAt l.toArray,a.tmps[t]? = (putL a0 qk (L.getD i [])).tmps[t]? := by
   intro t ht;by_cases h:∃j,z.getD j false=true∧qbn l j=some t
   ·obtain⟨j,E,F⟩:=h;rcases D.look i o J t ht j F with N | ⟨N,h2⟩
    ·have:=I.shut j E i N;rw[X] at this;cases this
    ·rw[I.at_ j t E F];refine(qj2 qk _ a0 (j,t) h2 (fun q hq e=> ?_) (by rw[hn];exact(D.slot j t F).1)).symm;have:=(D.lis i o J q hq).2;rw[e] at this;exact(D.slot j t F).2 _ this
   ·rw[I.other t fun j E U=>h ⟨j,E,U⟩,qew];intro p Z e;obtain⟨N,h2⟩:=D.lis i o J p Z;exact h ⟨p.1,V _ N,by rw[h2,e]⟩
  have W:execOp a.eval o=execOp (putL a0 qk (L.getD i [])).eval o:=by
   refine execOp_congr o (D.sel i o J) fun x hx=> ?_
   cases x with
   | tmp t =>
    have:=a6 t (List.mem_append_left _ (List.mem_filterMap.2 ⟨.tmp t,by simpa using hx,rfl⟩));simp only[Act.eval,Array.getD_eq_getD_getElem?,this]
   | _=>rfl
  have b9:=a8.at i o J;rw[Nat.zero_add] at b9;have K:=b9 qk w I.s fun p Z=>I.phi _ (V _ (D.lis i o J p Z).1)
  have next:∀v w',R i w w'→S w'→Φ i (upV qk i v) w'→wpAny P .any l.toArray Q H (z.setIfInBounds i true) (a.put o.dst v) w':=by
   intro v w' hR hS hΦ;have a4:qbn l i=o.dst:=by unfold qbn;rw[J];rfl
   refine ih (z.setIfInBounds i true) (a.put o.dst v) w' (upV qk i v) ⟨?_,hS,?_,?_,?_,?_,?_,?_⟩ ?_
   ·rw[Array.size_setIfInBounds];exact I.size
   ·intro j E;rcases (qaf U).1 E with rfl | C
    ·exact hΦ
    ·have T:j≠i:=by rintro rfl;rw[X] at C;cases C
     have c4:j<l.length:=by
      rcases Nat.lt_or_ge j l.length with h | h
      ·exact h
      ·rw[Array.getD_eq_getD_getElem?,Array.getElem?_eq_none (by rw[I.size];exact h)] at C;cases C
     refine a5 j i _ w w' T I.s hS hR (loc j i qk v w (Ne.symm T) (fun p Z e=> ?_) (I.phi j C));have hA:=(D.lis j _ (List.getElem?_eq_getElem c4) p Z).1;have:=I.shut j C _ hA;rw[e,X] at this;cases this
   ·intro j E k hk;refine(qaf U).2 ?_;rcases (qaf U).1 E with rfl | C
    ·exact .inr (V k hk)
    ·exact .inr (I.shut j C k hk)
   ·cases o.dst<;>exact I.defers
   ·cases hd:o.dst with
    | none=>exact I.tmps
    | some d=>simpa [Act.put] using I.tmps
   ·intro t ht;have N:=I.other t fun j E=>ht j ((qaf U).2 (.inr E))
    have h2:=ht i ((qaf U).2 (.inl rfl));rw[a4] at h2;cases hd:o.dst with
    | none=>exact N
    | some d =>
     have T:d≠t:=by rintro rfl;exact h2 hd
     simpa [Act.put,Array.getElem?_setIfInBounds_ne T] using N
   ·intro j t E F;rcases (qaf U).1 E with rfl | C
    ·rw[a4] at F;rw[F,qs1];have:t<a.tmps.size:=by rw[I.tmps,hn];exact(D.slot j t (by rw[a4,F])).1
     simp[Act.put,this]
    ·have T:j≠i:=by rintro rfl;rw[X] at C;cases C
     rw[qjd _ _ T];have N:=I.at_ j t C F;cases hd:o.dst with
     | none=>exact N
     | some d =>
      have b8:d≠t:=by
       rintro rfl;exact T ((D.slot i d (by rw[a4,hd])).2 j F)
      simpa [Act.put,Array.getElem?_setIfInBounds_ne b8] using N
   ·have N:(List.range l.length).countP (fun j=> !(z.setIfInBounds i true).getD j false)<(List.range l.length).countP (fun j=> !z.getD j false):=by
     have b7:i∈List.range l.length:=List.mem_range.2 M;obtain⟨s,r,c5⟩:=List.append_of_mem b7;rw[c5,List.countP_append,List.countP_append,List.countP_cons,List.countP_cons];have m:∀xs:List Nat,xs.countP (fun j=> !(z.setIfInBounds i true).getD j false)≤xs.countP (fun j=> !z.getD j false):=by
      intro xs;refine List.countP_mono_left fun j _ E=> ?_
      cases h:z.getD j false with
      | false=>rfl
      | true=>rw[(qaf U).2 (.inr h)] at E;cases E
     have m1:=m s;have m2:=m r;rw[qgl U,X];simp only[Bool.not_true,Bool.not_false,Bool.false_eq_true,if_false,if_true];omega
    omega
  unfold wpOp;rw[ho];simp only;cases hg:o.guard with
  | none =>
   rw[hg] at K;rw[if_pos (by unfold Region.wanted;rw[hg])];exact .inl (qi4 W K fun v w' h=>next v w' h.1 h.2.1 h.2.2)
  | some gb =>
   obtain⟨g,b⟩:=gb;rw[hg] at K;obtain⟨c3,t,b6⟩:=D.guard i o J g b hg;have b5:=V g c3;have c2:=I.at_ g t b5 b6;obtain⟨p1,p2⟩:=K (I.phi g b5);have hy:Region.wanted o (yielded l.toArray a.tmps)=true↔qk g = .bool b:=by
    unfold Region.wanted yielded;rw[hg];have e1:(l.toArray[g]?).bind (·.dst)=some t:=by simpa [qbn] using b6
    simp only[e1,Option.bind_some,c2];constructor
    ·intro h;split at h
     ·rename_i b' b4;simp only[Option.some.injEq] at b4;simp at h;rw[b4,h]
     ·simp at h
    ·intro h;rw[h];simp
   by_cases hw:Region.wanted o (yielded l.toArray a.tmps)=true
   ·rw[if_pos hw];exact .inl (qi4 W (p1 (hy.1 hw)) fun v w' h=>next v w' h.1 h.2.1 h.2.2)
   ·rw[if_neg hw];exact next undef w (c0 i w) I.s (p2 fun h=>hw (hy.2 h))
theorem ze0{id:Nat}{a:Act}{w:World}{Q:Exit→Act→World→Prop}(F:P.follows .mixedOrders=true)(L:List (List (Nat × Nat)))(n:Nat)(H:a.tmps.size=n)(D:q9b l (qvm l []) L n=true)(A:List (Nat × Nat))(C:qbc l=A)
  (S:World→Prop) (R:Nat→World→World→Prop) (Φ:Nat→(Nat→Value)→World→Prop) (E:S w.drew) (q:∀i w,R i w w) (loc:∀i k qk v w,k≠i→(∀p∈L.getD i [],p.1≠k)→Φ i qk w→Φ i (upV qk k v) w) (g:∀i j qk w w',i≠j→S w→S w'→R j w w'→Φ i qk w→Φ i qk w')
  (o:qar P a S R Φ 0 l L) (z:∀qk w,S w→(∀i,i<l.length→Φ i qk w)→Q .normal (putL a qk A) w) :
  (Code.region id l.toArray true).wp P Q a w:=by
 subst C
 refine wp_region_any F ?_
 refine q9c (q1g D) H q loc g o z _ _ a _ (fun _=>undef) ⟨by simp,E,?_,?_,rfl,rfl,fun _ _=>rfl,?_⟩ ?_
 ·intro i m;rw[qb2] at m;cases m
 ·intro i m;rw[qb2] at m;cases m
 ·intro i t m;rw[qb2] at m;cases m
 ·refine Nat.le_trans List.countP_le_length ?_;simp
end
def zf7(B:Nat)(w w':World):Prop:=Upd (fun k=>B≤k) w w'∧∀(g:Nat) (T:TypeId) (cs:Array Value),w.heap[g]? = some (.cells cs T (0,0))→∃q:Array Value,q.size=cs.size∧w'.heap[g]? = some (.cells q T (0,0))
def RN(B st j:Nat)(w w':World):Prop:=if j=st then zf7 B w w' else qu w w'
theorem RN.refl(B st j:Nat)(w:World):RN B st j w w:=by
 unfold RN;split
 ·exact⟨Upd.refl _ _,fun g T cs h=>⟨cs,rfl,h⟩⟩
 ·exact Upd.refl _ _
def isN(B al st n:Nat)(r:Array Value)(xs:List Value)(i:Nat)(qk:Nat→Value)(w:World):Prop :=
 if i=al then ∃(g:Nat) (T:TypeId) (cs:Array Value),qk al = .pointer (some ⟨g,0,none⟩)∧B≤g∧w.heap[g]? = some (.cells cs T (0,0))∧cs.size=n
 else if i=st then ∃(g:Nat) (T:TypeId),qk al = .pointer (some ⟨g,0,none⟩)∧B≤g∧w.heap[g]? = some (.cells r T (0,0))
 else qk i=xs.getD i undef
theorem zd3{B al st n:Nat}{r:Array Value}{xs:List Value}{i:Nat}{qk:Nat→Value}{w:World}(g:i≠al)(q:i≠st)(h:isN B al st n r xs i qk w):qk i=xs.getD i undef:=by
 unfold isN at h;rwa [if_neg g,if_neg q] at h
theorem zg0{B al st n:Nat}{r:Array Value}{xs:List Value}{i:Nat}{qk:Nat→Value}{v:Value}{w:World}(g:i≠al)(q:i≠st)(h:v=xs.getD i undef):isN B al st n r xs i (upV qk i v) w:=by
 unfold isN;rw[if_neg g,if_neg q,qs1];exact h
def isX(xs:List Value)(i:Nat)(v:Value):Prop:=v=xs.getD i undef
section
variable {P:Program}{l:List Oper}{A:List (Nat × Nat)}{L:List (List (Nat × Nat))}{n:Nat}
theorem ze1{id:Nat}{a:Act}{w:World}{Q:Exit→Act→World→Prop}(hm:P.follows .mixedOrders=true)(L:List (List (Nat × Nat)))(n:Nat)(hn:a.tmps.size=n)(hL:q9b l (qvm l []) L n=true)(A:List (Nat × Nat))(hA:qbc l=A)
  (al st m:Nat) (U:(al==st)=false) (a4:decide (al<l.length)=true) (Y:decide (st<l.length)=true) (N:((L.getD st []).any fun p=>p.1==al)=true) (r:Array Value) (xs:List Value)
  (C:qar P a (fun w'=>qu w w') (RN w.heap.size st) (isN w.heap.size al st m r xs) 0 l L)
  (M:∀(qk:Nat→Value) (w':World) (g:Nat) (T:TypeId),qu w w'→qk al = .pointer (some ⟨g,0,none⟩)→w.heap.size≤g→w'.heap[g]? = some (.cells r T (0,0))→(∀i,i<l.length→i≠al→i≠st→qk i=xs.getD i undef)→Q .normal (putL a qk A) w') :
  (Code.region id l.toArray true).wp P Q a w:=by
 have I:al≠st:=by simpa using U
 refine ze0 hm L n hn hL A hA (fun w'=>qu w w') (RN w.heap.size st) (isN w.heap.size al st m r xs) (Upd.refl _ _).drew (fun i w=>RN.refl _ _ _ _) ?_ ?_ C ?_
 ·intro i k qk v w' H hp h;unfold isN at h ⊢;by_cases q:i=al
  ·rw[if_pos q] at h ⊢;subst q;rw[qjd _ _ (fun e=>H e.symm)];exact h
  ·rw[if_neg q] at h ⊢;by_cases t:i=st
   ·rw[if_pos t] at h ⊢;subst t;obtain⟨p,W,V⟩:=List.any_eq_true.1 N;have:=hp p W;have J:p.1=al:=by simpa using V
    rw[qjd _ _ (fun e=>this (J.trans e))];exact h
   ·rw[if_neg t] at h ⊢;rw[qjd _ _ (fun e=>H e.symm)];exact h
 ·intro i j qk w1 w2 R _ _ z h;unfold isN at h ⊢;unfold RN at z;by_cases q:i=al
  ·rw[if_pos q] at h ⊢;obtain⟨g,T,cs,D,E,F,hs⟩:=h;by_cases Z:j=st
   ·rw[if_pos Z] at z;obtain⟨K,X,O⟩:=z.2 g T cs F;exact⟨g,T,K,D,E,O,X.trans hs⟩
   ·rw[if_neg Z] at z;exact⟨g,T,cs,D,E,z.old F (fun h=>h),hs⟩
  ·rw[if_neg q] at h ⊢;by_cases t:i=st
   ·rw[if_pos t] at h ⊢;obtain⟨g,T,D,E,F⟩:=h;rw[if_neg (fun e=>R (t.trans e.symm))] at z;exact⟨g,T,D,E,z.old F (fun h=>h)⟩
   ·rw[if_neg t] at h ⊢;exact h
 ·intro qk w' hS hΦ;have q:=hΦ st (by simpa using Y);unfold isN at q;rw[if_neg (fun e=>I e.symm),if_pos rfl] at q;obtain⟨g,T,D,E,F⟩:=q;exact M qk w' g T hS D E F fun i hi q t=>zd3 q t (hΦ i hi)
variable {a0:Act}{wo:World}{al st m i:Nat}{r:Array Value}{xs:List Value}{o:Oper}{os:List Oper}{Li:List (Nat × Nat)}{L':List (List (Nat × Nat))}
theorem qar.nval(D:o.guard=none)(z:(i==al)=false)(C:(i==st)=false)
  (h:∀(qk:Nat→Value) (w:World),qu wo w→qtt (isN wo.heap.size al st m r xs) qk w Li→zi P o (putL a0 qk Li).eval w fun v w'=>qu w w'∧isX xs i v)
  (k:qar P a0 (fun w'=>qu wo w') (RN wo.heap.size st) (isN wo.heap.size al st m r xs) (i+1) os L'):qar P a0 (fun w'=>qu wo w') (RN wo.heap.size st) (isN wo.heap.size al st m r xs) i (o::os) (Li::L') :=
 qar.plain D (fun qk w t E=>qmv (h qk w t E) fun v w' hv=>by
  have q:i≠al:=by simpa using z
  have g:i≠st:=by simpa using C
  refine⟨?_,t.trans hv.1,zg0 q g hv.2⟩;unfold RN;rw[if_neg g];exact hv.1) k
theorem qar.nalloc(E:o.guard=none)(v:(i==al)=true)(z:(i==st)=false)(C:Array Value)(T:TypeId)(D:C.size=m)
  (h:∀(qk:Nat→Value) (w:World),(execOp (putL a0 qk Li).eval o).run P w = .ok (.value (.pointer (some ⟨w.heap.size,0,none⟩))) (w.alloc (.cells C T)))
  (k:qar P a0 (fun w'=>qu wo w') (RN wo.heap.size st) (isN wo.heap.size al st m r xs) (i+1) os L'):qar P a0 (fun w'=>qu wo w') (RN wo.heap.size st) (isN wo.heap.size al st m r xs) i (o::os) (Li::L') :=
 qar.plain E (fun qk w t F=>qzq (h qk w) (by
  have g:i=al:=by simpa using v
  have q:i≠st:=by simpa using z
  refine⟨?_,Upd.alloc t _,?_⟩
  ·unfold RN;rw[if_neg q];exact(Upd.refl _ _).alloc _
  ·unfold isN;rw[if_pos g,←g,qs1];exact⟨_,T,C,rfl,t.size,qi _ _,D⟩)) k
theorem qar.nstore(W:o.guard=none)(R:(i==al)=false)(U:(i==st)=true)(H:(Li.any fun p=>p.1==al)=true)(hr:r.size=m)
  (h:∀(qk:Nat→Value) (w:World) (g:Nat) (T:TypeId) (cs:Array Value),qk al = .pointer (some ⟨g,0,none⟩)→w.heap[g]? = some (.cells cs T (0,0))→cs.size=m→qtt (isN wo.heap.size al st m r xs) qk w Li →
   zi P o (putL a0 qk Li).eval w fun _ w'=>w'=w.setCells g 0 r.toList)
  (k:qar P a0 (fun w'=>qu wo w') (RN wo.heap.size st) (isN wo.heap.size al st m r xs) (i+1) os L'):qar P a0 (fun w'=>qu wo w') (RN wo.heap.size st) (isN wo.heap.size al st m r xs) i (o::os) (Li::L') :=
 qar.plain W (fun qk w V E=>by
  have z:i≠al:=by simpa using R
  have C:i=st:=by simpa using U
  obtain⟨g,T,cs,K,M,I,J⟩:∃(g:Nat) (T:TypeId) (cs:Array Value),qk al = .pointer (some ⟨g,0,none⟩)∧wo.heap.size≤g∧w.heap[g]? = some (.cells cs T (0,0))∧cs.size=m:=by
   have key:∀Li:List (Nat × Nat),(Li.any fun p=>p.1==al)=true→qtt (isN wo.heap.size al st m r xs) qk w Li→isN wo.heap.size al st m r xs al qk w:=by
    intro Li
    induction Li with
    | nil=>intro h;simp at h
    | cons p Li Y =>
     intro t E;rw[List.any_cons,Bool.or_eq_true] at t;rcases t with t | t
     ·have:p.1=al:=by simpa using t
      rw[←this];exact this▸E.1
     ·exact Y t E.2
   have:=key Li H E;unfold isN at this;rwa [if_pos rfl] at this
  refine qmv (h qk w g T cs K I J E) fun v w' X=> ?_
  subst X;have D:=qa2 I 0 r.toList;have O:Upd (fun k=>wo.heap.size≤k) w (w.setCells g 0 r.toList):=((Upd.refl (· = g) w).setCells 0 r.toList).mono (fun k _ e=>by subst e;exact M);refine⟨?_,?_,?_⟩
  ·unfold RN;rw[if_pos C];refine⟨O,fun g' T' F q=> ?_⟩;by_cases N:g'=g
   ·subst N;rw[I] at q;cases q;exact⟨_,qmr _ _ _,D⟩
   ·exact⟨F,rfl,((Upd.refl (· = g) w).setCells 0 r.toList).old q N⟩
  ·exact V.then O (fun k hk e=>by omega)
  ·unfold isN;rw[if_neg z,if_pos C,qjd _ _ (fun e=>z e.symm)];refine⟨g,T,K,M,?_⟩;rw[D];congr 2;refine Array.ext_getElem? fun j=> ?_
   rw[qha cs 0 r.toList j (by rw[Array.length_toList];omega)];by_cases hj:j<r.size
   ·rw[if_pos (by rw[Array.length_toList];omega)];simp
   ·have Z:cs[j]? = none:=Array.getElem?_eq_none (by omega);have z2:r[j]? = none:=Array.getElem?_eq_none (by omega);rw[if_neg (by rw[Array.length_toList];omega),Z,z2]) k
end
theorem qxk(s:ByteArray)(g:List Int):strOfNums (qdu s++g)=s++strOfNums g:=by
 unfold strOfNums qdu;rw[List.map_append,List.map_map];have:(s.data.toList.map ((fun n:Int=>UInt8.ofNat n.toNat) ∘ fun c:UInt8=>(c.toNat:Int)))=s.data.toList:=by
  conv=>rhs;rw[←List.map_id s.data.toList]
  refine List.map_congr_left fun c _=> ?_
  simp
 rw[this];apply ByteArray.ext;simp
theorem zbp(n k:Nat)(h:k<qd3 n):(n+(k+1))%64≠56:=by unfold qd3 at h;omega
theorem zbo(n:Nat):(n+(qd3 n+1))%64=56:=by unfold qd3;omega
set_option maxRecDepth 100000 in
set_option maxHeartbeats 1000000 in
theorem zbn(s:ByteArray)(w:World)(hs:s.size≤1000000000) :
  Calls Tryz.prog 50 #[.string s] w (qbr (.string (qi5 s)) w):=by
 have hz:=qnw s.size
 have b3:(s.size:Int)≤1000000000:=by omega
 have P:=qmi s
 have N:∀w:World,(convert 9 22 (.string s)).run Tryz.prog w = .ok (.slice (some ⟨w.heap.size,0,none⟩) s.size (grownCap w s.size 0 5)) (w.drew.alloc (.cells (bytesRow s (grownCap w s.size 0 5)) 5 ((bytesRow s (grownCap w s.size 0 5)).size,(bytesRow s (grownCap w s.size 0 5)).size+1))) :=
  fun w=>run_bytes_of_string w _ _ _ s Tryz.underlying9 Tryz.underlying22 Tryz.underlying5
 have hG:=qd8.ofS w s (grownCap w s.size 0 5) w.heap.size (Nat.le_refl _) (grownCap_ge _ _ _ _)
 have u0:Upd (fun k=>w.heap.size≤k) w (w.drew.alloc (.cells (bytesRow s (grownCap w s.size 0 5)) 5 ((bytesRow s (grownCap w s.size 0 5)).size,(bytesRow s (grownCap w s.size 0 5)).size+1))):=(Upd.refl _ _).drew.alloc _
 have X:=qb hG
 have o:=qb P
 clear hG P
 go_enter Tryz.func50,Tryz.ntmps50
 go_upto_region 2 with fail
 generalize O:grownCap w s.size 0 5=I at *
 have E:=N w
 rw[O] at E
 clear N O
 refine wp_region_lit ?_
 refine q8 rfl (v:= .string s) (w':=w) (by kernel_rfl) ?_
 refine q8 rfl (v:= .slice (some ⟨w.heap.size,0,none⟩) s.size I) (w':=w.drew.alloc (.cells (bytesRow s I) 5 ((bytesRow s I).size,(bytesRow s I).size+1))) (by simp only[execOp];go_simp) ?_
 generalize w.drew.alloc (.cells (bytesRow s I) 5 ((bytesRow s I).size,(bytesRow s I).size+1))=w1 at X u0 ⊢
 clear E
 refine q8 rfl (v:= .slice (some ⟨w1.heap.size,0,none⟩) 1 1) (w':=w1.alloc (.cells #[.int .u8 128] 5)) (by kernel_rfl) ?_
 refine qjl rfl (.tmp 11) (.tmp 12) rfl w.heap.size _ _ rfl 128 _ _ rfl (qa X) (by rw[qa o];omega) u0.size ?_
 intro v2 w2 C u2
 have u3:=u0.then u2 (fun q _ h=>((qa X).ge h).1)
 clear u2 X u0
 have i:(qdu s++[128]).length=s.size+1:=by rw[List.length_append,qa o];rfl
 obtain⟨a2,c2,rfl⟩:=C.shape
 rw[i] at C ⊢
 have t:=qb C
 clear C i
 go_wp2_with fail
 go_loopw [4] (fun H wr=>∃(k:Nat) (a:Addr) (c:Nat),H = .slice (some a) (s.size+1+k) c∧k≤qd3 s.size∧Hid (qd8 wr w.heap.size H (qdu s++(128::List.replicate k 0)))∧Upd (fun k=>w.heap.size≤k) w wr) (fun H _=>s.size+100-(match H with | .slice _ l _=>l | _=>0))
 case atStart=>exact⟨0,_,_,rfl,Nat.zero_le _,t,u3⟩
 case round =>
  obtain⟨k,a,c,rfl,hk,t,L⟩:=hrel;by_cases T:k<qd3 s.size
  ·have J:=zbp s.size k T;have h1:((((s.size:Int)+1+(k:Int)))%64 != 56)=true:=by rw[bne_iff_ne];omega
   have a6:(k:Int)<64:=by omega
   have hb:=L.size;have D:(qdu s++(128::List.replicate k (0:Int))).length≤1073741824:=by rw[List.length_append,qa o];simp;omega
   clear J;go_wp2_with (at_builtin;refine qjl rfl (.tmp 18) (.tmp 19) rfl w.heap.size _ _ rfl 0 _ _ rfl (qa t) D hb ?_);intro v' w5 g V;have u6:=L.then V (fun q _ h=>((qa t).ge h).1);obtain⟨Y,Z,rfl⟩:=g.shape;replace g:qd8 w5 w.heap.size (Value.slice (some Y) (qdu s++(128::(List.replicate k (0:Int)++[0]))).length Z) (qdu s++(128::(List.replicate k 0++[0]))):=g;rw[←List.replicate_succ'] at g;have i:(qdu s++(128::(List.replicate k (0:Int)++[0]))).length=s.size+1+(k+1):=by rw[List.length_append,qa o];simp;omega
   have R:(qdu s++(128::(List.replicate (k+1) (0:Int)))).length=s.size+1+(k+1):=by rw[List.length_append,qa o];simp;omega
   rw[R] at g;rw[i];have F:=qb g;clear g V t i R;go_wp2;go_roundw
   case rel=>exact⟨k+1,Y,Z,rfl,by omega,F,u6⟩
   case measure=>simp;omega
  ·obtain rfl:k=qd3 s.size:=by omega
   have J:=zbo s.size;have h1:((((s.size:Int)+1+(qd3 s.size:Int)))%64 != 56)=false:=by rw[bne_eq_false_iff_eq];omega
   have a6:(qd3 s.size:Int)<64:=by omega
   obtain⟨wo,rfl⟩:∃wo:World,wo=wr:=⟨_,rfl⟩;clear J;go_wp2_with fail
   go_loopw [4,5] (fun H iv wr=>∃(m:Nat) (a:Addr) (c:Nat),iv = .int .i64 (7-(m:Int))∧m≤8∧H = .slice (some a) (s.size+1+qd3 s.size+m) c∧Hid (qd8 wr w.heap.size H (qdu s++(128::List.replicate (qd3 s.size) 0)++(List.range m).map (qk9 s.size)))∧Upd (fun k=>w.heap.size≤k) w wr) (fun _ iv _=>(intOf iv+1).toNat)
   case atStart=>exact⟨0,_,_,rfl,by omega,rfl,by simpa using t,L⟩
   case round =>
    obtain⟨m,a,c,rfl,hm,rfl,t,L⟩:=hrel;by_cases T:m<8
    ·have a9:(m:Int)<8:=by omega
     have hb:=L.size;have D:(qdu s++(128::List.replicate (qd3 s.size) (0:Int))++(List.range m).map (qk9 s.size)).length≤1073741824:=by rw[List.length_append,List.length_append,qa o];simp;omega
     have K:∀W,Calls Tryz.prog 52 #[.int .u64 ((s.size:Int)*8),.int .i64 (8*(7-(m:Int)))] W fun e w'=>e = .returned (.int .u64 ((s.size:Int)*8 / 2 ^ (8*(7-(m:Int))).toNat))∧W=w' :=
      fun W=>ql4 ((s.size:Int)*8) (8*(7-(m:Int))) W (by omega) (by omega) (by omega) (by omega)
     have hq:qk9 s.size m=((s.size:Int)*8 / 2 ^ (8*(7-(m:Int))).toNat)%256:=by
      unfold qk9;rw[show (8*(7-(m:Int))).toNat=56-8*m by omega,Int.mul_comm]
     have U:0≤(s.size:Int)*8 / 2 ^ (8*(7-(m:Int))).toNat∧(s.size:Int)*8 / 2 ^ (8*(7-(m:Int))).toNat≤8000000000:=by
      have hp:(1:Int)≤2 ^ (8*(7-(m:Int))).toNat:=Int.pow_pos (by decide);refine⟨Int.ediv_nonneg (by omega) (by omega),?_⟩;refine Int.le_trans (Int.ediv_le_self _ (by omega)) (by omega)
     generalize (s.size:Int)*8 / 2 ^ (8*(7-(m:Int))).toNat=q at K hq U;have a4:=qb K;have HQ:=qb hq;clear K hq;obtain⟨q0,q1⟩:=U;go_wp2_with fail;refine(qa a4 _).mono ?_;rintro e w' ⟨rfl,rfl⟩;go_wp2_with (at_builtin;refine qjl rfl (.tmp 25) (.tmp 32) rfl w.heap.size _ _ rfl _ _ _ rfl (qa t) D hb ?_);intro v' w5 g V;have u6:=L.then V (fun q _ h=>((qa t).ge h).1);obtain⟨Y,Z,rfl⟩:=g.shape;have e1:qdu s++(128::List.replicate (qd3 s.size) 0)++(List.range (m+1)).map (qk9 s.size)=qdu s++(128::(List.replicate (qd3 s.size) 0++((List.range m).map (qk9 s.size)++[q%256]))):=by rw[List.range_succ,List.map_append,List.map_cons,List.map_nil,qa HQ];simp
     have i:(qdu s++(128::(List.replicate (qd3 s.size) (0:Int)++((List.range m).map (qk9 s.size)++[q%256])))).length=s.size+1+qd3 s.size+(m+1):=by rw[List.length_append,qa o];simp;omega
     rw[i] at g ⊢;rw[←e1] at g;have F:=qb g;clear g V t e1 i D;go_wp2;go_roundw
     case rel=>exact⟨m+1,Y,Z,by congr 1;omega,by omega,rfl,F,u6⟩
     case measure=>simp[intOf];omega
    ·obtain rfl:m=8:=by omega
     rw[show (7:Int)-((8:Nat):Int) = -1 from rfl];have a7:=qxe (qa t);have z:strOfNums (qdu s++(128::List.replicate (qd3 s.size) 0)++(List.range 8).map (qk9 s.size))=qi5 s:=by
      unfold qi5 qpz;rw[List.append_assoc,qxk]
     generalize strOfNums (qdu s++(128::List.replicate (qd3 s.size) 0)++(List.range 8).map (qk9 s.size))=a8 at a7 z;have M:=qb z;clear z;go_wp2;go_ret;exact⟨by rw[qa M];rfl,L.below' (Nat.le_refl _) (fun _ h=>h) |> fun h=>Upd.of_below h (Nat.le_refl _)⟩
theorem q7f(s:ByteArray):(qi5 s).size%64=0∧(qi5 s).size≤s.size+73:=by
 unfold qi5;rw[ByteArray.size_append,strOfNums_size,qo5];have:=qnw s.size;have:=q4r s.size;omega
theorem q5y(p:ByteArray)(i:Nat)(h:i+64≤p.size):(p.extract i p.size).extract 0 64=p.extract i (i+64):=by
 rw[ByteArray.extract_extract];congr 1;omega
theorem q9j(p:ByteArray)(i:Nat)(h:i+64≤p.size):(p.extract i p.size).extract 64 (p.extract i p.size).size=p.extract (i+64) p.size:=by
 rw[ByteArray.extract_extract];congr 1;rw[ByteArray.size_extract];omega
theorem q5a(p:ByteArray)(n:Nat)(h:List Int)(l:p.size%64=0)(g:64*n+64≤p.size) :
  qkk ((p.size-64*n) / 64) h (p.extract (64*n) p.size)=qkk ((p.size-64*(n+1)) / 64) (qm9 h (p.extract (64*n) (64*n+64))) (p.extract (64*(n+1)) p.size):=by
 obtain⟨k,i⟩:∃k,(p.size-64*n) / 64=k+1:=⟨(p.size-64*n) / 64-1,by omega⟩
 rw[i,show (p.size-64*(n+1)) / 64=k by omega]
 show qkk k (qm9 h ((p.extract (64*n) p.size).extract 0 64)) ((p.extract (64*n) p.size).extract 64 (p.extract (64*n) p.size).size)=_
 rw[q5y p _ g,q9j p _ g,show 64*n+64=64*(n+1) by omega]
def z32:Array Value:=((List.replicate 32 (0:Int)).map (Value.int .u8)).toArray
def z8r:Array Value:=((List.replicate 8 (0:Int)).map (Value.int .u64)).toArray
def q1z:Array Value:=(qjw.map (Value.int .u64)).toArray
attribute [local go_sem ↓ high] qr5 qsy qk6 qln
attribute [local go_sem] zfl zfx q2a q3g
set_option maxRecDepth 100000 in
set_option maxHeartbeats 2000000 in
theorem zcl(s:ByteArray)(w:World)(hs:s.size≤1000000000) :
  Calls Tryz.prog 31 #[.string s] w fun e w'=>e = .returned (.agg ((qgs s).map (Value.int .u8)).toArray)∧qu w w':=by
 obtain⟨c2,c3⟩:=q7f s
 have hp:=fun W=>zbn s W hs
 have L:qgs s=qhh (qkk ((qi5 s).size / 64) qjw (qi5 s)) 32:=rfl
 generalize qi5 s=p at c2 c3 hp L
 have HP:=qb hp
 have V:=qb L
 clear hp L
 go_enter Tryz.func31,Tryz.ntmps31
 go_upto_region 0 with fail
 refine wp_region_lit ?_
 refine q8 rfl (v:= .pointer (some ⟨w.heap.size,0,none⟩)) (w':=w.alloc (.cells z32 33)) (by kernel_rfl) ?_
 have n0:qu w (w.alloc (.cells z32 33)):=(Upd.refl _ _).alloc _
 have O:(w.alloc (.cells z32 33)).heap[w.heap.size]? = some (.cells z32 33 (0,0)):=qi _ _
 generalize w.alloc (.cells z32 33)=w1 at n0 O ⊢
 go_upto_region 1 with fail
 refine wp_region_lit ?_
 refine q8 rfl (v:= .agg q1z) (w':=w1) (by kernel_rfl) ?_
 refine q8 rfl (v:= .pointer (some ⟨w1.heap.size,0,none⟩)) (w':=w1.alloc (.cells z8r 113)) (by kernel_rfl) ?_
 have n2:qu w1 (w1.alloc (.cells z8r 113)):=(Upd.refl _ _).alloc _
 have D:(w1.alloc (.cells z8r 113)).heap[w1.heap.size]? = some (.cells z8r 113 (0,0)):=qi _ _
 generalize w1.alloc (.cells z8r 113)=w2 at n2 D ⊢
 refine wpList_store_row rfl _ _ _ rfl w1.heap.size q1z rfl rfl 113 _ D (by kernel_rfl) (by kernel_rfl) (by kernel_rfl) ?_
 have H:(w2.setRow w1.heap.size q1z).heap[w1.heap.size]? = some (.cells q1z 113 (0,0)):=setRow_heap w2 w1.heap.size _ q1z 113 (0,0) D
 have M:qu w1 (w2.setRow w1.heap.size q1z):=n2.setRow (fun h=>by omega) _
 generalize w2.setRow w1.heap.size q1z=w3 at H M ⊢
 have d9:w.heap.size<w1.heap.size:=z6 O
 have vR:=M.old O (fun h=>h)
 have nA:=n0.trans M
 have vH:qbd .u64 w3 w1.heap.size qjw:=⟨_,H⟩
 have e0:=vH.lt
 generalize w1.heap.size=B at vH d9 e0 ⊢
 clear n0 O n2 D H M
 go_wp2_with fail
 refine(qa HP w3).mono ?_
 rintro e w4 ⟨rfl,n4⟩
 have f5:=n4.size
 replace vR:=n4.old vR (fun h=>h)
 replace vH:=vH.upd n4 (fun h=>h)
 replace nA:=nA.trans n4
 clear n4 HP
 go_wp2_with fail
 go_loopw [5,6,7] (fun iv _ _ wr=>∃(n:Nat) (l:List Int),iv = .int .i64 (64*(n:Int))∧64*n≤p.size∧l.length=8∧qf6 l∧Hid (qkk ((p.size-64*n) / 64) l (p.extract (64*n) p.size)=qkk (p.size / 64) qjw p)∧qbd .u64 wr B l∧Upd (fun k=>k=B) w4 wr) (fun iv _ _ _=>p.size-(intOf iv).toNat)
 case atStart=>exact⟨0,qjw,rfl,by omega,rfl,qne,by rw[show 64*0=0 from rfl,Nat.sub_zero];exact qb (by simp),vH,Upd.refl _ _⟩
 case round =>
  clear vH;obtain⟨n,l,rfl,hn,a6,a7,HE,hH,I⟩:=hrel;by_cases f2:64*n<p.size
  ·have b5:64*n+64≤p.size:=by omega
   have K:(p.extract (64*n) (64*n+64)).size=64:=by rw[ByteArray.size_extract];omega
   have hC:=fun W=>qs9 l (p.extract (64*n) (64*n+64)) W a6 a7 K
   have hok:=qv3 l (p.extract (64*n) (64*n+64)) ⟨a6,a7⟩;have F:=(q5a p n l c2 b5).symm.trans (qa HE);obtain⟨TH,hb⟩:=hH;generalize a5:p.extract (64*n) (64*n+64)=bl at hC hok F;generalize qm9 l bl=d at hC hok F;obtain⟨d8,du⟩:=hok;have HC:=qb hC;have c4:=qb a5;have N:=qb F;clear hC K F a5 HE;obtain⟨t,rfl⟩:∃t:World,t=wr:=⟨_,rfl⟩;have e4:=I.size;generalize a8:(l.map (Value.int .u64)).toArray=cv at hb HC;have b4:cv.size=8:=by rw[←a8];simpa using a6
   have e6:=qb a8;clear a8;have b7:=qad hb 8 b4;have d1:64*(n:Int)<(p.size:Int):=by omega
   have f3:64*(n:Int)+64≤(p.size:Int):=by omega
   have f4:(p.size:Int)≤2000000000:=by omega
   have d2:(64*(n:Int)).toNat=64*n:=by omega
   have d4:IntKind.i64.wrap (64*(n:Int)+64)=64*(n:Int)+64:=IntWalk.i64_in _ (by omega);have d5:0≤64*(n:Int):=by omega
   have d6:0≤64*(n:Int)+64:=by omega
   have d7:64*(n:Int)≤64*(n:Int)+64:=by omega
   have d3:(64*(n:Int)+64).toNat=64*n+64:=by omega
   go_wp2_with fail;refine ze1 (by kernel_rfl) [[],[],[],[],[(3,23)],[(1,21),(2,22),(4,24)],[(0,20),(5,25)],[(6,26)],[(7,19)],[(7,19)],[],[(10,6),(8,27)],[(9,28)]] 49 rfl (by kernel_rfl) [(0,20),(1,21),(2,22),(3,23),(4,24),(5,25),(6,26),(7,19),(8,27),(9,28),(10,6),(12,7)] (by kernel_rfl) 10 11 8 rfl rfl rfl rfl ((d.map (Value.int .u64)).toArray)
    [.agg cv,.string p,.int .i64 (64*(n:Int)),.int .i64 (64*(n:Int)),.int .i64 (64*(n:Int)+64),.string bl,.tuple #[.agg (d.map (Value.int .u64)).toArray,.bool true],.tuple #[.agg (d.map (Value.int .u64)).toArray,.bool true],.agg (d.map (Value.int .u64)).toArray,.bool true,undef,undef,.bool true] ?_ ?_
   ·refine .nval rfl rfl rfl ?_ <| .nval rfl rfl rfl ?_ <| .nval rfl rfl rfl ?_ <| .nval rfl rfl rfl ?_ <| .nval rfl rfl rfl ?_ <| .nval rfl rfl rfl ?_ <| .nval rfl rfl rfl ?_ <| .nval rfl rfl rfl ?_ <| .nval rfl rfl rfl ?_ <| .nval rfl rfl rfl ?_ <| .nalloc rfl rfl rfl z8r 113 rfl ?_ <| .nstore rfl rfl rfl rfl (by simp[d8]) ?_ <| .nval rfl rfl rfl ?_ <| .nil
    ·intro qk z J _;have hr:=qa9 b7 J (fun h=>h);unfold zi;simp only[putL];go_simp;exact⟨Upd.refl _ _,rfl⟩
    ·intro qk z J _;unfold zi;simp only[putL];go_simp;exact⟨Upd.refl _ _,rfl⟩
    ·intro qk z J _;unfold zi;simp only[putL];go_simp;exact⟨Upd.refl _ _,rfl⟩
    ·intro qk z J _;unfold zi;simp only[putL];go_simp;exact⟨Upd.refl _ _,rfl⟩
    ·rintro qk z J ⟨m,-⟩;replace m:qk 3 = .int .i64 (64*(n:Int)):=m;unfold zi;simp only[putL];go_simp;exact⟨Upd.refl _ _,rfl⟩
    ·rintro qk z J ⟨m,R,p2,-⟩;replace m:qk 1 = .string p:=m;replace R:qk 2 = .int .i64 (64*(n:Int)):=R;replace p2:qk 4 = .int .i64 (64*(n:Int)+64):=p2;have a5:=qa c4;unfold zi;simp only[putL];go_simp;exact⟨Upd.refl _ _,rfl⟩
    ·rintro qk z J ⟨m,R,-⟩;replace m:qk 0 = .agg cv:=m;replace R:qk 5 = .string bl:=R;unfold zi;simp only[putL];go_simp;refine(qa HC z).mono ?_;rintro e w6 ⟨rfl,n6⟩;exact⟨_,rfl,n6,rfl⟩
    ·rintro qk z J ⟨m,-⟩;replace m:qk 6 = .tuple #[.agg (d.map (Value.int .u64)).toArray,.bool true]:=m;generalize (d.map (Value.int .u64)).toArray=dv at m ⊢;unfold zi;simp only[putL];go_simp;exact⟨Upd.refl _ _,rfl⟩
    ·rintro qk z J ⟨m,-⟩;replace m:qk 7 = .tuple #[.agg (d.map (Value.int .u64)).toArray,.bool true]:=m;generalize (d.map (Value.int .u64)).toArray=dv at m ⊢;unfold zi;simp only[putL];go_simp;exact⟨Upd.refl _ _,rfl⟩
    ·rintro qk z J ⟨m,-⟩;replace m:qk 7 = .tuple #[.agg (d.map (Value.int .u64)).toArray,.bool true]:=m;generalize (d.map (Value.int .u64)).toArray=dv at m ⊢;unfold zi;simp only[putL];go_simp;exact⟨Upd.refl _ _,rfl⟩
    ·intro qk z;rfl
    ·rintro qk z g T cs e1 hg f0 ⟨-,R,-⟩;replace R:qk 8 = .agg (d.map (Value.int .u64)).toArray:=R;have b8:=qf3 (o:=0) (n:=8) (A:=(d.map (Value.int .u64)).toArray) hg (by omega) (by simp[d8]) (by simp[Value.oneCell']);generalize (d.map (Value.int .u64)).toArray=dv at R b8 ⊢;unfold zi;simp only[putL];go_simp
    ·rintro qk z J ⟨m,-⟩;replace m:qk 9 = .bool true:=m;unfold zi;simp only[putL];go_simp;exact⟨Upd.refl _ _,rfl⟩
   ·intro qk z g T n5 c8 f1 hg hv;have b9:qk 12 = .bool true:=hv 12 (by decide) (by decide) (by decide);clear hv;simp only[putL,c8,b9];clear d4 d5 d6 d7 d2 d3;go_simp;have a4:=n5.old hb (fun h=>h);have u5:=I.then n5 (fun _ _ h=>h.elim);clear b7 hb HC n5 I;go_upto_region 7 with fail;refine wp_region_lit ?_;refine wpList_load_row rfl _ _ rfl g rfl T _ _ _ hg Tryz.underlying113 rfl (by rw[List.size_toArray,List.length_map,d8];exact Tryz.infoR8) ?_;refine wpList_store_row rfl _ _ _ rfl B (d.map (Value.int .u64)).toArray rfl rfl TH _ a4 (by rw[List.size_toArray,List.length_map,d8];exact Tryz.infoR8) (by simp[d8,b4]) (by simp[Value.oneCell']) ?_;have hF:=setRow_heap z B _ (d.map (Value.int .u64)).toArray TH (0,0) a4;have u6:=u5.setRow (g:=B) (fun _=>rfl) (d.map (Value.int .u64)).toArray;generalize z.setRow B (d.map (Value.int .u64)).toArray=w6 at hF u6 ⊢;clear hg a4 u5;go_wp2;go_roundw
    case rel=>exact⟨n+1,d,by congr 1,by omega,d8,du,N,⟨TH,hF⟩,u6⟩
    case measure=>simp[intOf];omega
  ·have he:64*n=p.size:=by omega
   have Z:=qa HE;rw[show (p.size-64*n) / 64=0 by omega] at Z;have Y:qgs s=qhh l 32:=by rw[qa V,←Z];rfl
   have b3:=qb Y;clear Y Z HE V;have d1:¬64*(n:Int)<(p.size:Int):=by omega
   have e4:=I.size;have U:=I.old vR (by omega);have nB:=nA.then I (fun q hq e=>by omega);clear vR nA I;obtain⟨t,rfl⟩:∃t:World,t=wr:=⟨_,rfl⟩;go_upto_region 8 with fail;refine wp_region_lit ?_;refine q8 rfl (v:= .agg z32) (w':=t) (by kernel_rfl) ?_;refine q8 rfl (v:= .pointer (some ⟨t.heap.size,0,none⟩)) (w':=t.alloc (.cells z32 33)) (by kernel_rfl) ?_;have n2:qu t (t.alloc (.cells z32 33)):=(Upd.refl _ _).alloc _;have D:(t.alloc (.cells z32 33)).heap[t.heap.size]? = some (.cells z32 33 (0,0)):=qi _ _;generalize t.alloc (.cells z32 33)=z at n2 D ⊢;refine wpList_store_row rfl _ _ _ rfl t.heap.size z32 rfl rfl 33 _ D (by kernel_rfl) (by kernel_rfl) (by kernel_rfl) ?_;have H:(z.setRow t.heap.size z32).heap[t.heap.size]? = some (.cells z32 33 (0,0)):=setRow_heap z t.heap.size _ z32 33 (0,0) D;have M:qu t (z.setRow t.heap.size z32):=n2.setRow (fun h=>by omega) _;generalize z.setRow t.heap.size z32=w6 at H M ⊢;have vO:qbd .u8 w6 t.heap.size (List.replicate 32 0):=⟨_,H⟩;have e3:=vO.lt;have e2:B<t.heap.size:=hH.lt;replace hH:=hH.upd M (fun h=>h);replace U:=M.old U (fun h=>h);replace nB:=nB.trans M;generalize t.heap.size=C at vO e2 e3 ⊢;clear n2 D H M;go_wp2_with fail
   go_loopw [9] (fun iv wr=>∃i:Nat,iv = .int .i64 (i:Int)∧i≤32∧qbd .u8 wr C (qhh l i)∧Upd (fun k=>k=C) w6 wr) (fun iv _=>32-(intOf iv).toNat)
   case atStart=>exact⟨0,rfl,by omega,by rw[qjp];exact vO,Upd.refl _ _⟩
   case round =>
    obtain⟨i,rfl,hi,X,I⟩:=hrel;by_cases e5:i<32
    ·have c0:wr.cell? ⟨B,i / 4,none⟩=some (.int .u64 (wd l (i / 4))):=(hH.upd I (by omega)).cell (by omega);obtain⟨a0,c7⟩:=a7.at (i / 4);obtain⟨v1,c1⟩:∃v,wr.cell? ⟨C,i,none⟩=some v:=⟨_,X.cell (by rw[qir];omega)⟩;have z1:=X.free i;have e7:(i:Int)<32:=by omega
     have c9:IntKind.i64.wrap ((i:Int) / 4)=(i:Int) / 4:=IntWalk.i64_in _ (by omega);have d0:((i:Int) / 4).toNat=i / 4:=by omega
     have e8:(0:Int)≤(i:Int) / 4:=by omega
     have e9:(i:Int) / 4<8:=by omega
     have F:=X.set i (byI l i);rw[←qjo] at F;have N:=qb F;clear F;have hq:byI l i=wd l (i / 4) / 2 ^ (24-8*((i:Int)%4)).toNat%256:=by
      unfold byI;rw[show (24-8*((i:Int)%4)).toNat=24-8*(i%4) by omega]
     have P:∀W,Calls Tryz.prog 52 #[.int .u64 (wd l (i / 4)),.int .i64 (24-8*((i:Int)%4))] W fun e w'=>e = .returned (.int .u64 (wd l (i / 4) / 2 ^ (24-8*((i:Int)%4)).toNat))∧W=w' :=
      fun W=>ql4 (wd l (i / 4)) (24-8*((i:Int)%4)) W a0 (by omega) (by omega) (by omega)
     have b6:0≤wd l (i / 4) / 2 ^ (24-8*((i:Int)%4)).toNat∧wd l (i / 4) / 2 ^ (24-8*((i:Int)%4)).toNat<4294967296:=by
      have hp:(1:Int)≤2 ^ (24-8*((i:Int)%4)).toNat:=Int.pow_pos (by decide);refine⟨Int.ediv_nonneg a0 (by omega),?_⟩;exact Int.lt_of_le_of_lt (Int.ediv_le_self _ a0) c7
     generalize wd l (i / 4) / 2 ^ (24-8*((i:Int)%4)).toNat=q at P hq b6;generalize wd l (i / 4)=x at c0 P;have c6:=qb P;rw[hq] at N;have us:=qb (I.set1 i (.int .u8 (q%256)));clear P hq;obtain⟨q0,q1⟩:=b6;go_wp2_with fail;refine(qa c6 _).mono ?_;rintro e w' ⟨rfl,rfl⟩;go_wp2;clear c9 d0;go_roundw
     case rel=>exact⟨i+1,by go_num,by omega,qa N,qa us⟩
     case measure=>simp[intOf];omega
    ·obtain rfl:i=32:=by omega
     rw[show ((32:Nat):Int)=32 from rfl];have a9:=I.old U (by omega);have nn:=nB.then I (by intro q hq h;omega);have E:=qir l 32;generalize K:qhh l 32=bs at X E;have c5:=qb K;clear K U nB I vO;obtain⟨TO,X⟩:=X;go_upto_region 13 with fail;refine wp_region_lit ?_;refine wpList_load_row rfl _ _ rfl C rfl TO _ _ _ X Tryz.underlying33 rfl (by rw[List.size_toArray,List.length_map,E];exact Tryz.infoHash) ?_;refine wpList_store_row rfl _ _ _ rfl w.heap.size (bs.map (Value.int .u8)).toArray rfl rfl 33 _ a9 (by rw[List.size_toArray,List.length_map,E];exact Tryz.infoHash) (by have h9:z32.size=32:=rfl;rw[h9];simp[E]) (by simp[Value.oneCell']) ?_;have hF:=setRow_heap wr w.heap.size _ (bs.map (Value.int .u8)).toArray 33 (0,0) a9;have nF:=nn.setRow (g:=w.heap.size) (fun h=>by omega) (bs.map (Value.int .u8)).toArray;generalize wr.setRow w.heap.size (bs.map (Value.int .u8)).toArray=wF at hF nF ⊢;clear nn X a9;go_wp2_with fail;refine bodyPost_ret (results_cell_row rfl _ _ w.heap.size 33 _ _ _ rfl hF Tryz.underlying33 rfl (by rw[List.size_toArray,List.length_map,E];exact Tryz.infoHash)) rfl ?_;exact⟨by rw[qa b3,qa c5],nF⟩
end Go.Proofs.YthnohmjbbeahmaaGreatDoor
namespace Go.Proofs.YthnohmjbbeahmaaGreatDoor
open Go.RowKit
attribute [local go_sem ↓ high] zy qak qaq qat qyl
attribute [local go_sem] qcl qdb qdn qgw zb
def ofI(p:List Int):List Int:=qgs (strOfNums p)
def qby(p h:List Int):Bool:=ofI p==h
set_option maxRecDepth 100000 in
set_option maxHeartbeats 1000000 in
theorem q25(p:List Int)(D:p.length=32)(w:World)(M:Tabs w) :
  Calls Tryz.prog 70 #[.agg (qx p).toArray] w (qbr (.agg (qx (ofI p)).toArray) w):=by
 have C:(ofI p).length=32:=qc4 _
 go_enter Tryz.func70,Tryz.ntmps70
 go_upto_region 1 with fail
 have v:=(qch w p D).new ((Upd.refl _ _).alloc (.cells (qx zv).toArray 33))
 have q:=qch (w.alloc (.cells (qx p).toArray 33)) zv qs
 rw[World.size_alloc] at q
 have z:qu w ((w.alloc (.cells (qx p).toArray 33)).alloc (.cells (qx zv).toArray 33)):=((Upd.refl _ _).alloc _).alloc _
 generalize (w.alloc (.cells (qx p).toArray 33)).alloc (.cells (qx zv).toArray 33)=w1 at v q z ⊢
 obtain⟨A,o⟩:∃A,A=w.heap.size:=⟨_,rfl⟩
 obtain⟨B,t⟩:∃B,B=w.heap.size+1:=⟨_,rfl⟩
 rw[←t] at q ⊢
 rw[←o] at v ⊢
 have J:w.heap.size≤B:=by omega
 clear o t
 have m:(convert 22 9 (.slice (some ⟨A,0,none⟩) 32 32)).run Tryz.prog w1 = .ok (.string (strOfNums p)) w1 :=
  qe6 w1 _ _ _ Tryz.underlying22 Tryz.underlying5 Tryz.underlying9 A 32 _ _ _ 32 D v.at_
 have g:Calls Tryz.prog 89 #[.string (strOfNums p)] w1 (fun e w'=>e = .returned (.agg (qx (ofI p)).toArray)∧qu w1 w'):=qj9 (strOfNums p) w1 (by rw[strOfNums_size,D];omega) (M.new z)
 have F:=qb q
 clear v q
 generalize ofI p=K at *
 go_wp2_with fail
 refine g.mono ?_
 rintro e O ⟨rfl,E⟩
 have l:=(qa F).new E
 have N:=l.stOk K C
 have H:=qb (l.put K C)
 have I:=qb ((z.trans E).then (zz (w:=O) (b:=B) (qx K)) (fun i P e=>by omega))
 clear l z E g m
 go_wp2_with fail
 have L:=qa H
 exact bodyPost_ret (results_cell_row rfl _ _ B _ _ _ _ rfl L.at_ Tryz.underlying33 rfl (by rw[List.size_toArray,qa0,C];exact Tryz.infoHsh)) rfl ⟨rfl,qa I⟩
set_option maxRecDepth 100000 in
set_option maxHeartbeats 1000000 in
theorem qur(p h:List Int)(E:p.length=32)(C:h.length=32)(O:qal h)(w:World)(M:Tabs w) :
  Calls Tryz.prog 57 #[.agg (qx p).toArray,.agg (qx h).toArray] w (qbr (.bool (qby p h)) w):=by
 have R:(ofI p).length=32:=qc4 _
 have v:qal (ofI p):=qhu _
 go_enter Tryz.func57,Tryz.ntmps57
 go_upto_region 1 with fail
 have q:=(qch w p E).new ((Upd.refl _ _).alloc (.cells (qx h).toArray 33))
 have i:=qch (w.alloc (.cells (qx p).toArray 33)) h C
 rw[World.size_alloc] at i
 have t:qu w ((w.alloc (.cells (qx p).toArray 33)).alloc (.cells (qx h).toArray 33)):=((Upd.refl _ _).alloc _).alloc _
 generalize (w.alloc (.cells (qx p).toArray 33)).alloc (.cells (qx h).toArray 33)=w1 at q i t ⊢
 obtain⟨A,l⟩:∃A,A=w.heap.size:=⟨_,rfl⟩
 obtain⟨B,m⟩:∃B,B=w.heap.size+1:=⟨_,rfl⟩
 rw[←m] at i ⊢
 rw[←l] at q ⊢
 clear l m
 have P:=fun W=>zgn R C v O W
 have o:=fun W (N:Tabs W)=>q25 p E W N
 have D:qby p h=(ofI p==h):=rfl
 have L:=qb D
 clear D
 generalize ofI p=K at *
 have T:zm w1.drew A 0 32=some (qx p).toArray:=q.row
 have H:zm w1.drew B 0 32=some (qx h).toArray:=i.row
 have I:=qb i
 refine qc7 (fun w'=>zm w' B 0 32=some (qx h).toArray) [2] (.of [0,1,2,3,4]) (by kernel_rfl) (by kernel_rfl) H ?_
 simp only[Plan.of]
 clear q i
 go_wp2_with (with_reducible first|(first|refine' qw1 (qg ?_) ?_|refine' qw2 (qg ?_) ?_|refine' qw3 (qg ?_) ?_);rotate_left|refine' qw4 (qg ?_)|refine' qw5 (qg ?_)|rfl|apply qn)
 refine(o w1.drew (M.new (t.drew))).mono ?_
 rintro e U ⟨rfl,F⟩
 have g:qu w1 U:=F.ofDrew
 have z:=((qa I).new g).row
 have J:=qb (t.trans g)
 clear o T H F g t
 go_wp2_with (with_reducible first|(first|refine' qw1 (qg ?_) ?_|refine' qw2 (qg ?_) ?_|refine' qw3 (qg ?_) ?_);rotate_left|refine' qw4 (qg ?_)|refine' qw5 (qg ?_)|rfl|apply qn)
 refine⟨z,?_⟩
 go_wp2_with (with_reducible first|(first|refine' qw1 (qg ?_) ?_|refine' qw2 (qg ?_) ?_|refine' qw3 (qg ?_) ?_);rotate_left|refine' qw4 (qg ?_)|refine' qw5 (qg ?_)|rfl|apply qn)
 go_ret
 exact⟨by rw[qa L];rfl,qa J⟩
end Go.Proofs.YthnohmjbbeahmaaGreatDoor
namespace Go.Proofs.YthnohmjbbeahmaaGreatDoor
open Go.RowKit
attribute [local go_sem ↓ high] zy qak qaq qat
attribute [local go_sem] qcl qdb qdn zb
theorem q3t(x:Int)(w:World):(q3s #[(0,.int .u8 x)]).run Tryz.prog w = .ok (.agg (qx (x::List.replicate 31 0)).toArray) w:=run_build w _ _ _ (by kernel_rfl)
theorem zc8(x y:Int)(w:World):(q3s #[(0,.int .u8 x),(1,.int .u8 y)]).run Tryz.prog w = .ok (.agg (qx (x::y::List.replicate 30 0)).toArray) w:=run_build w _ _ _ (by kernel_rfl)
def zbq(p:Int):List Int:=(p%4)::9::List.replicate 30 0
theorem zbr(p:Int):(zbq p).length=32:=rfl
theorem q2v(p:Int):qal (zbq p):=by
 intro b g;unfold zbq at g;simp only[List.mem_cons,List.mem_replicate] at g;rcases g with rfl | rfl | ⟨_,rfl⟩<;>omega
set_option maxRecDepth 100000 in
set_option maxHeartbeats 1000000 in
theorem quv(p:List Int)(C:p.length=32)(w:World):Calls Tryz.prog 11 #[.agg (qx p).toArray] w (qbr (.agg (qx (ofI p)).toArray) w):=by
 have z:(ofI p).length=32:=qc4 _;go_enter Tryz.func11,Tryz.ntmps11;go_upto_region 1 with fail;have v:=(qch w p C).new ((Upd.refl _ _).alloc (.cells (qx zv).toArray 33));have q:=qch (w.alloc (.cells (qx p).toArray 33)) zv qs;rw[World.size_alloc] at q;have D:qu w ((w.alloc (.cells (qx p).toArray 33)).alloc (.cells (qx zv).toArray 33)):=((Upd.refl _ _).alloc _).alloc _;generalize (w.alloc (.cells (qx p).toArray 33)).alloc (.cells (qx zv).toArray 33)=w1 at v q D ⊢;obtain⟨A,o⟩:∃A,A=w.heap.size:=⟨_,rfl⟩;obtain⟨B,t⟩:∃B,B=w.heap.size+1:=⟨_,rfl⟩;rw[←t] at q ⊢;rw[←o] at v ⊢;have J:w.heap.size≤B:=by omega
 clear o t;have m:(convert 22 9 (.slice (some ⟨A,0,none⟩) 32 32)).run Tryz.prog w1 = .ok (.string (strOfNums p)) w1 :=
  qe6 w1 _ _ _ Tryz.underlying22 Tryz.underlying5 Tryz.underlying9 A 32 _ _ _ 32 C v.at_
 have g:Calls Tryz.prog 31 #[.string (strOfNums p)] w1 (fun e w'=>e = .returned (.agg (qx (ofI p)).toArray)∧qu w1 w'):=zcl (strOfNums p) w1 (by rw[strOfNums_size,C];omega);have F:=qb q;clear v q;generalize ofI p=K at *
 go_wp2_with fail;refine g.mono ?_;rintro e N ⟨rfl,E⟩;have l:=(qa F).new E;have M:=l.stOk K z;have H:=qb (l.put K z);have I:=qb ((D.trans E).then (zz (w:=N) (b:=B) (qx K)) (fun i O e=>by omega));clear l D E g m;go_wp2_with fail;have L:=qa H;exact bodyPost_ret (results_cell_row rfl _ _ B _ _ _ _ rfl L.at_ Tryz.underlying33 rfl (by rw[List.size_toArray,qa0,z];exact Tryz.infoHsh)) rfl ⟨rfl,qa I⟩
def zn(x:Int):List Int:=x::List.replicate 31 0
def zel(ours cap:Int):SetupV:=⟨7,cap,ours,zn 1,⟨#[97]⟩,⟨#[98]⟩⟩
def zi4(ours cap:Int):SetupV:=⟨7,cap,IntKind.u64.wrap (cap-ours),zn 2,⟨#[98]⟩,⟨#[97]⟩⟩
def qx1(p:Array (Nat × Value)):Sem Value:=Instr.build 66 p
theorem qku(p:Array (Nat × Value)):Instr.build 66 p=qx1 p:=rfl
theorem zdb(ours cap:Int)(w:World):(qx1 #[(0,.int .u32 7),(1,.int .u64 cap),(2,.int .u64 ours),(3,.agg (qx (zn 1)).toArray),(4,.string ⟨#[97]⟩),(5,.string ⟨#[98]⟩)]).run Tryz.prog w = .ok (.agg (zel ours cap).cells.toArray) w:=run_build w _ _ _ (by kernel_rfl)
theorem zdc(o cap:Int)(w:World):(qx1 #[(0,.int .u32 7),(1,.int .u64 cap),(2,.int .u64 o),(3,.agg (qx (zn 2)).toArray),(4,.string ⟨#[98]⟩),(5,.string ⟨#[97]⟩)]).run Tryz.prog w = .ok (.agg (SetupV.cells ⟨7,cap,o,zn 2,⟨#[98]⟩,⟨#[97]⟩⟩).toArray) w:=run_build w _ _ _ (by kernel_rfl)
def q8y(p:Array (Nat × Value)):Sem Value:=Instr.build 67 p
theorem qkv(p:Array (Nat × Value)):Instr.build 67 p=q8y p:=rfl
def qkg(a b:SetupV):List Value:=a.cells++b.cells
theorem Tryz.infoSt2:(Tryz.prog.info? 67).map (·.size)=some 74:=by kernel_rfl
def zfw(x v:Value):Sem Unit:=Instr.storeAt 67 x v
theorem qgr(x v:Value):Instr.storeAt 67 x v=zfw x v:=rfl
theorem qsz(b o:Nat)(A:Array Value)(w:World):(zfw (.pointer (some ⟨b,o,none⟩)) (.agg A)).run Tryz.prog w=if stOk w b o 74 A=true then .ok () (w.setCells b o A.toList) else qf2 Tryz.prog 67 w b o A :=
 qax 67 74 Tryz.infoSt2 b o A w
def qts:List Value:=qxp++qxp
def zfa:Sem Value:=Instr.alloc 67 true (.tuple #[])
theorem qgp:Instr.alloc 67 true (.tuple #[])=zfa:=rfl
theorem qqz(w:World):zfa.run Tryz.prog w = .ok (.pointer (some ⟨w.heap.size,0,none⟩)) (w.alloc (.cells qts.toArray 67)):=by kernel_rfl
theorem zgf(l g m i:Int)(w:World):(q8y #[(0,.agg (zel l g).cells.toArray),(1,.agg (SetupV.cells ⟨7,i,m,zn 2,⟨#[98]⟩,⟨#[97]⟩⟩).toArray)]).run Tryz.prog w = .ok (.agg (qkg (zel l g) ⟨7,i,m,zn 2,⟨#[98]⟩,⟨#[97]⟩⟩).toArray) w:=run_build w _ _ _ (by kernel_rfl)
theorem SetupV.one(s:SetupV):∀v∈s.cells,v.oneCell'=true:=by
 intro v hv;simp only[SetupV.cells,List.mem_cons,List.mem_append,List.mem_map,List.not_mem_nil,or_false] at hv;rcases hv with rfl | rfl | rfl | ⟨n,_,rfl⟩ | rfl | rfl<;>rfl
structure St2(w:World)(b:Nat)(s t:SetupV):Prop where
 at_:w.heap[b]? = some (.cells (qkg s t).toArray 67 (0,0))
 l1:s.seed.length=32
 l2:t.seed.length=32
theorem ql2{s t:SetupV}(g:s.seed.length=32)(i:t.seed.length=32):(qkg s t).length=74:=by unfold qkg;rw[List.length_append,s.len g,t.len i]
theorem St2.upd{S:Nat→Prop}{w w':World}{b:Nat}{s t:SetupV}(a:St2 w b s t)(u:Upd S w w')(n:¬S b):St2 w' b s t:=⟨u.old a.at_ n,a.l1,a.l2⟩
theorem St2.new{w w':World}{b:Nat}{s t:SetupV}(a:St2 w b s t)(u:qu w w'):St2 w' b s t:=a.upd u (fun h=>h)
theorem St2.row0{w:World}{b:Nat}{s t:SetupV}(a:St2 w b s t):zm w b 0 37=some s.cells.toArray:=by
 rw[qbz a.at_ 0 37 (by rw[List.size_toArray,ql2 a.l1 a.l2];omega)];congr 1;apply Array.ext';rw[Array.toList_extract];show List.extract (s.cells++t.cells) 0 37=s.cells;rw[List.extract_eq_take_drop,List.drop_zero,List.take_append_of_le_length (by rw[s.len a.l1];exact Nat.le_refl _),List.take_of_length_le (by rw[s.len a.l1];exact Nat.le_refl _)]
theorem St2.row1{w:World}{b:Nat}{s t:SetupV}(a:St2 w b s t):zm w b 37 37=some t.cells.toArray:=by
 rw[qbz a.at_ 37 37 (by rw[List.size_toArray,ql2 a.l1 a.l2];omega)];congr 1;apply Array.ext';rw[Array.toList_extract];show List.extract (s.cells++t.cells) 37 74=t.cells;rw[List.extract_eq_take_drop,qq9 (s.len a.l1),List.take_of_length_le (by rw[t.len a.l2];exact Nat.le_refl _)]
theorem qu1{w:World}{b:Nat}(h:w.heap[b]? = some (.cells qts.toArray 67 (0,0))){s t:SetupV}(g:s.seed.length=32)(i:t.seed.length=32) :
  stOk w b 0 74 (qkg s t).toArray=true∧St2 (w.setCells b 0 (qkg s t)) b s t:=by
 have l:=ql2 g i
 refine⟨qfb (C:=qts.toArray) h (by rw[l];rfl) (fun v hv=>(List.mem_append.1 hv).elim (s.one v) (t.one v)),⟨?_,g,i⟩⟩
 rw[qa2 h 0 _]
 exact congrArg (fun z=>some (Obj.cells z 67 (0,0))) (qcz qts.toArray (qkg s t) (by rw[l];rfl))
attribute [local go_sem ↓ high] qku qkv qgr qgp
attribute [local go_sem] zgf qsz qqz zdb zdc
end Go.Proofs.YthnohmjbbeahmaaGreatDoor
namespace Go.Proofs.YthnohmjbbeahmaaGreatDoor
open Go.RowKit
structure Two(w0 w:World)(gA gB:Nat)(SA SB:Nat→Prop)(a b:Ch):Prop where
 A:ChS w gA SA a
 B:ChS w gB SB b
 geA:∀k,SA k→w0.heap.size≤k
 geB:∀k,SB k→w0.heap.size≤k
 sep:∀k,SA k→¬SB k
 n:qu w0 w
section
variable {w0 w w':World}{gA gB:Nat}{SA SB:Nat→Prop}{a b a' b':Ch}
theorem Two.new(h:Two w0 w gA gB SA SB a b)(u:qu w w'):Two w0 w' gA gB SA SB a b:=⟨h.A.new u,h.B.new u,h.geA,h.geB,h.sep,h.n.trans u⟩
theorem Two.swap(h:Two w0 w gA gB SA SB a b):Two w0 w gB gA SB SA b a:=⟨h.B,h.A,h.geB,h.geA,fun k i g=>h.sep k g i,h.n⟩
theorem q8p{S:Nat→Prop}(t:Tb w0)(g:∀k,S k→w0.heap.size≤k):Apart S:=by
 obtain⟨a,b,c,d,e⟩:=t.lt;exact⟨fun h=>by have:=g _ h;omega,fun h=>by have:=g _ h;omega,fun h=>by have:=g _ h;omega,fun h=>by have:=g _ h;omega,fun h=>by have:=g _ h;omega⟩
structure Off(w:World)(SA SB:Nat→Prop)(K:Nat):Prop where
 lt:K<w.heap.size
 a:¬SA K
 b:¬SB K
theorem Off.new{K:Nat}(h:Off w SA SB K)(u:w.heap.size≤w'.heap.size):Off w' SA SB K:=⟨by have:=h.lt;omega,h.a,h.b⟩
theorem Two.put{K:Nat}(h:Two w0 w gA gB SA SB a b)(o:Off w SA SB K)(l:w0.heap.size≤K)(u:Upd (· = K) w w'):Two w0 w' gA gB SA SB a b :=
 ⟨h.A.upd u (fun k g e=>o.a (e▸g)),h.B.upd u (fun k g e=>o.b (e▸g)),h.geA,h.geB,h.sep,h.n.then u (fun i m e=>by omega)⟩
end
theorem q2p(g:Nat)(S:Nat→Prop)(c:Ch)(n:Int)(h:List Int)(ex:Int)(w:World)(o:ChS w g S c)(l:h.length=32)(m:qal h)(q:0≤n∧n<18446744073709551616)(t : -9223372036854775808≤ex∧ex≤9223372036854775807)(i:c.news.length<1000000∧c.xs.length<1000000) :
  Calls Tryz.prog 30 #[.pointer (some ⟨g,0,none⟩),.int .u64 n,.agg (qx h).toArray,.int .i64 ex] w fun e w' =>
   e = .returned (.tuple #[.agg (c.offer n (qbm h) ex).2.1.cells.toArray,.int .i64 (c.offer n (qbm h) ex).2.2])∧ChS w' g (Fr S w w') (c.offer n (qbm h) ex).1∧Upd S w w':=by
 have:=q7c g S c n (qbm h) ex w o q t (by rw[qdc l];exact m) i
 rw[qdc l] at this
 exact this
theorem q49(g:Nat)(S:Nat→Prop)(c:Ch)(w:World)(h:ChS w g S c):Calls Tryz.prog 19 #[.pointer (some ⟨g,0,none⟩)] w (qbr (.agg #[.int .u64 c.loc,.int .u64 c.rem]) w):=by
 obtain⟨l,nv,i,h⟩:=h;exact q8s g _ w h.toR
theorem qc0.row0{base:Nat}{w:World}{v:Value}{m:MsgV}{ms:List MsgV}(h:qc0 base w v (m::ms))(q:m.hash.length=32):∃g cap,v = .slice (some ⟨g,0,none⟩) (m::ms).length cap∧base≤g∧zm w g 0 38=some m.cells.toArray∧g<w.heap.size:=by
 rcases h.2 with ⟨e,e0⟩ | ⟨g,cap,i,e,t,o,z,_,C,E⟩
 ·simp at e0
 ·refine⟨g,cap,e,t,?_,z6 o⟩;have D:38≤i.size:=by rw[C];simp at z;omega
  rw[qbz o 0 38 (by omega)];congr 1;apply Array.ext';rw[Array.toList_extract,List.extract_eq_take_drop,List.drop_zero];have l:(i.toList.take ((m::ms).length*38)).take 38=((m::ms).flatMap MsgV.cells).take 38:=by rw[E]
  rw[List.take_take,Nat.min_eq_left (by rw[List.length_cons];omega)] at l;show i.toList.take 38=m.cells;rw[l,List.flatMap_cons,List.take_append_of_le_length (by rw[m.len q];exact Nat.le_refl _),List.take_of_length_le (by rw[m.len q];exact Nat.le_refl _)]
theorem qoo(a b:Int)(w:World):(Instr.field 42 (.agg #[.int .u64 a,.int .u64 b]) 0).run Tryz.prog w = .ok (.int .u64 a) w:=by kernel_rfl
theorem qop(a b:Int)(w:World):(Instr.field 42 (.agg #[.int .u64 a,.int .u64 b]) 1).run Tryz.prog w = .ok (.int .u64 b) w:=by kernel_rfl
theorem qey(key:ByteArray)(ch n l r:Int)(xs:List Live):zt true key ch n r l (xs.map qdw)=zt false key ch n l r xs:=by
 have g:=q17 false xs;have i:=q73 false l r xs;unfold zt qie qif;simp only[Bool.not_false] at g i;rw[g,i];rfl
theorem zik{m:MsgV}{k i a:Int}{h:List Int}{e n:Int}(ch:Int)(g:m=⟨k,0,i,a,h,e,n⟩):m.on ch=⟨k,ch,i,a,h,e,n⟩:=by subst g;rfl
theorem qu0{c:Ch}(h:qa3 c=0):c.sign=((c.signing.say (qbb c)).turned,(qbb c).on c.s.ch,0):=by unfold Ch.sign;rw[if_pos h]
theorem qik{c:Ch}{m:MsgV}(g:zl 3 c.xs=true)(i:m.number=c.k.heard+1)(l:qgx c m=false):c.hearSign m=(c.signedBy,[c.signedBy.revocation],0):=by
 have h:qcg c m=0:=by
  unfold qcg;rw[g,l,if_neg (by decide),if_neg (fun h=>h i),if_neg (by decide)]
 unfold Ch.hearSign;rw[if_pos h]
theorem qej{k ch i a e n:Int}{h:List Int}(v:0≤k∧k≤9)(m:0≤ch∧ch<4294967296)(o:0≤i∧i<18446744073709551616)(g:0≤a∧a<18446744073709551616)(q:h.length=32)(l:qal h)(t:0≤e∧e≤2147483648)(w:0≤n∧n≤65536):MsgOk ⟨k,ch,i,a,h,e,n⟩ :=
 ⟨⟨by show _≤k;omega,by show k≤_;omega⟩,m,o,g,q,l,⟨by show _≤e;omega,by show e≤_;omega⟩,⟨by show _≤n;omega,by show n≤_;omega⟩⟩
theorem qgv:MsgOk MsgV.zero:=qej ⟨by decide,by decide⟩ ⟨by decide,by decide⟩ ⟨by decide,by decide⟩ ⟨by decide,by decide⟩ qs qc6 ⟨by decide,by decide⟩ ⟨by decide,by decide⟩
def a0:Ch:=Ch.new (zel 10 10)
def b0:Ch:=Ch.new (zi4 10 10)
section
variable (hv:Vector Int 32)
def a1:Ch:=(a0.offer 4 hv 9).1
def m1:MsgV:=(a0.offer 4 hv 9).2.1
def b1:Ch:=(b0.hearAdd (m1 hv)).1
noncomputable def a2:Ch:=(a1 hv).sign.1
noncomputable def b2:Ch:=(b1 hv).signedBy
theorem qic(x:Int)(h:0≤x∧x≤255):qal (zn x):=by
 intro b g;unfold zn at g;rcases List.mem_cons.1 g with rfl | g
 ·exact h
 ·rw[List.eq_of_mem_replicate g];decide
noncomputable def a3:Ch:=((a2 hv).hearRevoke ⟨7,7,0,0,qdv (zn 2) 65535 16,0,0⟩).1
end
attribute [local go_sem ↓ high] zy qak qaq qat zr zu zw zx qku qkv qgr qgp qfa
attribute [local go_sem] qcl qdb qdn qgw zb qb3 qb9 qcf qsz qqz qk8 qoo qop
end Go.Proofs.YthnohmjbbeahmaaGreatDoor
namespace Go.Proofs.YthnohmjbbeahmaaGreatDoor
open Go.RowKit
section
variable {w0 w w':World}{p gA gB:Nat}{SA SB:Nat→Prop}{a b a' b':Ch}{wa wb:List MsgV}{ua ub:Value}{bad:Bool}
end
attribute [local go_sem ↓ high] qgr qgp qfa
attribute [local go_sem] zb qsz qqz qk8
end Go.Proofs.YthnohmjbbeahmaaGreatDoor
namespace Go.Proofs.YthnohmjbbeahmaaGreatDoor
open Go.RowKit
section
variable {w0 w wD w':World}{p gA gB:Nat}{SA SB S:Nat→Prop}{a b a' b':Ch}{wa wb:List MsgV}{ua ub:Value}{bad:Bool}
end
attribute [local go_sem ↓ high] zr zu zw zx qd4
attribute [local go_sem] qb3 qb9 qcf qkw zb
end Go.Proofs.YthnohmjbbeahmaaGreatDoor
