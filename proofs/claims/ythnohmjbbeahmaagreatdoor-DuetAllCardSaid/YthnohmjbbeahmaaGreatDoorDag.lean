/-
  A region that draws its order, by invariants: each operation is shown once, out of what is known of the operations that it looks at; whatever the order is.
-/
import Derived.Test.YthnohmjbbeahmaaGreatDoorMaa
import Derived.Orders
set_option linter.unusedVariables false
set_option linter.unusedSimpArgs false
namespace Go.Proofs.YthnohmjbbeahmaaGreatDoor
open Go.RowKit
def zi(P:Program)(o:Oper)(ρ:Operand→Value)(w:World)(K:Value→World→Prop):Prop :=
 match (execOp ρ o).run P w with
 | .ok (.value v) w'=>K v w'
 | .ok .skip w'=>K undef w'
 | .ok (.enter f args) w'=>Calls P f args w' fun e g=>∃v,e = .returned v∧K v g
 | _=>False
theorem qi4{P:Program}{o:Oper}{a:Act}{ρ:Operand→Value}{w:World}{K:Value→World→Prop}{m:Act→World→Prop}{Q:Exit→Act→World→Prop}(g:execOp a.eval o=execOp ρ o)
  (h:zi P o ρ w K) (i:∀v w',K v w'→m (a.put o.dst v) w'):o.wp P a w m Q:=by
 unfold zi at h
 unfold Oper.wp
 rw[g]
 generalize (execOp ρ o).run P w=r at h ⊢
 cases r with
 | ok n w' =>
  cases n<;>simp only at h<;>simp only[Oper.upon]
  ·exact i _ _ h
  ·exact i _ _ h
  ·refine h.mono fun e q g=> ?_
   obtain⟨v,rfl,hv⟩:=g;exact i _ _ hv
 | halt x w'=>simp only at h
def putL(a:Act)(qk:Nat→Value):List (Nat × Nat)→Act
 | []=>a
 | p::r=>putL (a.put (some p.2) (qk p.1)) qk r
theorem qh9(qk:Nat→Value):∀(L:List (Nat × Nat)) (a:Act),(putL a qk L).defers=a.defers
 | [],_=>rfl
 | p::r,a=>qh9 qk r _
theorem qew(qk:Nat→Value):∀(L:List (Nat × Nat)) (a:Act) (t:Nat),(∀p∈L,p.2≠t)→(putL a qk L).tmps[t]? = a.tmps[t]?
 | [],_,_,_=>rfl
 | p::r,a,t,h=>by
  rw[putL,qew qk r _ t fun q g=>h q (List.mem_cons_of_mem _ g)];have:=h p (List.mem_cons_self ..);simp[Act.put,Array.getElem?_setIfInBounds_ne this]
theorem qj2(qk:Nat→Value):∀(L:List (Nat × Nat)) (a:Act) (p:Nat × Nat),p∈L→(∀q∈L,q.2=p.2→q.1=p.1)→p.2<a.tmps.size→(putL a qk L).tmps[p.2]? = some (qk p.1)
 | [],_,_,h,_,_=>by cases h
 | q::r,a,p,h,v,t=>by
  rw[putL];by_cases o:∃i∈r,i.2=p.2
  ·obtain⟨i,g,e⟩:=o;have w:=v i (List.mem_cons_of_mem _ g) e;have m:p∈r:=by
    have:i=p:=Prod.ext w e;exact this▸g
   exact qj2 qk r _ p m (fun q C=>v q (List.mem_cons_of_mem _ C)) (by simpa [Act.put] using t)
  ·have z:p=q:=by
    rcases List.mem_cons.1 h with h | h
    ·exact h
    ·exact absurd ⟨p,h,rfl⟩ o
   rw[qew qk r _ p.2 fun i g e=>o ⟨i,g,e⟩,←z];simp[Act.put,t]
def qvm:List Oper→List (List Nat)→List (List Nat)
 | [],g=>g
 | o::r,g=>qvm r (g++[((o.after.toList.filter (Region.binds .any)).flatMap fun e=>e.on::g.getD e.on []).foldl (fun s k=>if s.contains k then s else k::s) []])
def qbn(l:List Oper)(j:Nat):Option Nat:=(l[j]?).bind (·.dst)
def looks(l:List Oper)(o:Oper):List Nat:=o.looksAt l.toArray
def q9b(l:List Oper)(A:List (List Nat))(L:List (List (Nat × Nat)))(n:Nat):Bool :=
 (List.range l.length).all fun i=>match l[i]? with
  | none=>true
  | some o =>
   (o.after.toList.all fun e=> !Region.binds .any e || ((A.getD i []).contains e.on&&(A.getD e.on []).all fun k=>(A.getD i []).contains k)) &&
   ((A.getD i []).all fun k=>o.after.toList.any fun e=>Region.binds .any e&&(k==e.on || (A.getD e.on []).contains k)) &&
   ((A.getD i []).all fun k=>k<i) &&
   ((looks l o).all fun t=>(List.range l.length).all fun j=>qbn l j != some t || (A.getD j []).contains i || ((A.getD i []).contains j&&(L.getD i []).contains (j,t))) &&
   ((L.getD i []).all fun p=>(A.getD i []).contains p.1&&qbn l p.1==some p.2) &&
   (match o.dst with
    | some t=>t<n&&(List.range l.length).all fun j=>j==i || qbn l j != some t
    | none=>true) &&
   (match o.guard with | some (g,_)=>(A.getD i []).contains g&&(qbn l g).isSome | none=>true) &&
   (match o.op with | .select .. => false | _=>true)
section
variable {P:Program}{l:List Oper}{A:List (List Nat)}{L:List (List (Nat × Nat))}{n:Nat}
structure Dag(l:List Oper)(A:List (List Nat))(L:List (List (Nat × Nat)))(n:Nat):Prop where
 edge:∀(i:Nat) o,l[i]? = some o→∀e∈o.after,Region.binds .any e=true→e.on∈A.getD i []∧∀k∈A.getD e.on [],k∈A.getD i []
 anc:∀(i:Nat) o,l[i]? = some o→∀k∈A.getD i [],k<i∧∃e∈o.after,Region.binds .any e=true∧(k=e.on∨k∈A.getD e.on [])
 look:∀(i:Nat) o,l[i]? = some o→∀t∈o.looksAt l.toArray,∀j,qbn l j=some t→i∈A.getD j []∨(j∈A.getD i []∧(j,t)∈L.getD i [])
 lis:∀(i:Nat) o,l[i]? = some o→∀p∈L.getD i [],p.1∈A.getD i []∧qbn l p.1=some p.2
 slot:∀(i:Nat) t,qbn l i=some t→t<n∧∀j,qbn l j=some t→j=i
 guard:∀(i:Nat) o,l[i]? = some o→∀g b,o.guard=some (g,b)→g∈A.getD i []∧∃t,qbn l g=some t
 sel:∀(i:Nat) o,l[i]? = some o→∀cs b,o.op ≠ .select cs b
theorem ql6{i t:Nat}(h:qbn l i=some t):i<l.length∧∃o,l[i]? = some o∧o.dst=some t:=by
 unfold qbn at h;cases g:l[i]? with
 | none=>rw[g] at h;cases h
 | some o=>rw[g] at h;exact⟨(List.getElem?_eq_some_iff.1 g).1,o,rfl,h⟩
theorem q1g(h:q9b l A L n=true):Dag l A L n:=by
 have key:∀(i:Nat) o,l[i]? = some o→_:=fun i o m=>by
  have D:i<l.length:=(List.getElem?_eq_some_iff.1 m).1;have:=List.all_eq_true.1 h i (List.mem_range.2 D);rw[m] at this;simp only[Bool.and_eq_true] at this;exact this
 refine⟨?_,?_,?_,?_,?_,?_,?_⟩
 ·intro i o m e C v;obtain⟨⟨⟨⟨⟨⟨⟨k,_⟩,_⟩,_⟩,_⟩,_⟩,_⟩,_⟩:=key i o m;have:=List.all_eq_true.1 k e (by simpa using C);simpa [v] using this
 ·intro i o m k E;obtain⟨⟨⟨⟨⟨⟨⟨_,K⟩,M⟩,_⟩,_⟩,_⟩,_⟩,_⟩:=key i o m;have w:=List.all_eq_true.1 K k E;have z:=List.all_eq_true.1 M k E;obtain⟨e,C,v⟩:=List.any_eq_true.1 w;simp only[Bool.and_eq_true,Bool.or_eq_true,beq_iff_eq,List.contains_iff_mem] at v;exact⟨by simpa using z,e,by simpa using C,v⟩
 ·intro i o m t J j q;obtain⟨⟨⟨⟨⟨⟨⟨_,_⟩,_⟩,k⟩,_⟩,_⟩,_⟩,_⟩:=key i o m;have w:=List.all_eq_true.1 k t J;have z:=List.all_eq_true.1 w j (List.mem_range.2 (ql6 q).1);simpa [q] using z
 ·intro i o m p H;obtain⟨⟨⟨⟨⟨⟨⟨_,_⟩,_⟩,_⟩,k⟩,_⟩,_⟩,_⟩:=key i o m;have:=List.all_eq_true.1 k p H;simpa using this
 ·intro i t D;obtain⟨_,o,m,hd⟩:=ql6 D;obtain⟨⟨⟨⟨⟨⟨⟨_,_⟩,_⟩,_⟩,_⟩,k⟩,_⟩,_⟩:=key i o m;rw[hd] at k;simp only[Bool.and_eq_true,decide_eq_true_eq] at k;refine⟨k.1,fun j q=> ?_⟩;have:=List.all_eq_true.1 k.2 j (List.mem_range.2 (ql6 q).1);simpa [q] using this
 ·intro i o m g b F;obtain⟨⟨⟨⟨⟨⟨⟨_,_⟩,_⟩,_⟩,_⟩,_⟩,k⟩,_⟩:=key i o m;rw[F] at k;simp only[Bool.and_eq_true,List.contains_iff_mem] at k;exact⟨k.1,Option.isSome_iff_exists.1 k.2⟩
 ·intro i o m cs b I;obtain⟨⟨⟨⟨⟨⟨⟨_,_⟩,_⟩,_⟩,_⟩,_⟩,_⟩,k⟩:=key i o m;rw[I] at k;cases k
def qvj(P:Program)(a0:Act)(S:World→Prop)(R:World→World→Prop)(Φ:Nat→Value→World→Prop)(i:Nat)(o:Oper)(Li:List (Nat × Nat)):Prop :=
 ∀(qk:Nat→Value) (w:World),S w→(∀p∈Li,Φ p.1 (qk p.1) w) →
  match o.guard with
  | none=>zi P o (putL a0 qk Li).eval w fun v w'=>R w w'∧S w'∧Φ i v w'
  | some (g,b)=>Φ g (qk g) w→(qk g = .bool b→zi P o (putL a0 qk Li).eval w fun v w'=>R w w'∧S w'∧Φ i v w')∧(qk g ≠ .bool b→Φ i undef w)
def qaa(P:Program)(a0:Act)(S:World→Prop)(R:World→World→Prop)(Φ:Nat→Value→World→Prop):Nat→List Oper→List (List (Nat × Nat))→Prop
 | _,[],_=>True
 | i,o::os,L=>qvj P a0 S R Φ i o (L.headD [])∧qaa P a0 S R Φ (i+1) os L.tail
theorem qaa.nil{a0:Act}{S:World→Prop}{R:World→World→Prop}{Φ:Nat→Value→World→Prop}{i:Nat}{L:List (List (Nat × Nat))} : qaa P a0 S R Φ i [] L:=trivial
theorem qaa.cons{a0:Act}{S:World→Prop}{R:World→World→Prop}{Φ:Nat→Value→World→Prop}{i:Nat}{o:Oper}{os:List Oper}{Li:List (Nat × Nat)}{L:List (List (Nat × Nat))}(h:qvj P a0 S R Φ i o Li)
  (k:qaa P a0 S R Φ (i+1) os L):qaa P a0 S R Φ i (o::os) (Li::L):=⟨h,k⟩
def q42(Φ:Nat→Value→World→Prop)(qk:Nat→Value)(w:World):List (Nat × Nat)→Prop
 | []=>True
 | p::r=>Φ p.1 (qk p.1) w∧q42 Φ qk w r
theorem qnz{Φ:Nat→Value→World→Prop}{qk:Nat→Value}{w:World} : ∀ {L:List (Nat × Nat)},(∀p∈L,Φ p.1 (qk p.1) w)→q42 Φ qk w L
 | [],_=>trivial
 | p::r,h=>⟨h p (List.mem_cons_self ..),qnz fun q g=>h q (List.mem_cons_of_mem _ g)⟩
theorem qaa.plain{a0:Act}{S:World→Prop}{R:World→World→Prop}{Φ:Nat→Value→World→Prop}{i:Nat}{o:Oper}{os:List Oper}{Li:List (Nat × Nat)}{L:List (List (Nat × Nat))}(m:o.guard=none)
  (h:∀(qk:Nat→Value) (w:World),S w→q42 Φ qk w Li→zi P o (putL a0 qk Li).eval w fun v w'=>R w w'∧S w'∧Φ i v w')
  (k:qaa P a0 S R Φ (i+1) os L):qaa P a0 S R Φ i (o::os) (Li::L) :=
 ⟨fun qk w g q=>by rw[m];exact h qk w g (qnz q),k⟩
theorem qzq{o:Oper}{ρ:Operand→Value}{w:World}{v:Value}{w':World}{K:Value→World→Prop}(h:(execOp ρ o).run P w = .ok (.value v) w')(k:K v w'):zi P o ρ w K:=by
 unfold zi;rw[h];exact k
theorem qaa.at{a0:Act}{S:World→Prop}{R:World→World→Prop}{Φ:Nat→Value→World→Prop} : ∀ {os:List Oper} {L:List (List (Nat × Nat))} {k:Nat},qaa P a0 S R Φ k os L→∀(i:Nat) o,os[i]? = some o→qvj P a0 S R Φ (k+i) o (L.getD i [])
 | [],_,_,_,_,_,h=>by simp at h
 | o::os,L,k,h,0,m,g=>by
  simp only[List.getElem?_cons_zero,Option.some.injEq] at g;subst g;have:=h.1;cases L<;>exact this
 | o::os,L,k,h,i+1,m,g=>by
  have:=qaa.at h.2 i m (by simpa using g);rw[show k+(i+1)=k+1+i by omega];cases L<;>exact this
def qbc(l:List Oper):List (Nat × Nat):=(List.range l.length).filterMap fun i=>(qbn l i).map fun t=>(i,t)
structure DagInv(l:List Oper)(A:List (List Nat))(a0:Act)(S:World→Prop)(Φ:Nat→Value→World→Prop)(listed:Array Bool)(a:Act)(w:World)(qk:Nat→Value):Prop where
 size:listed.size=l.length
 s:S w
 phi:∀i,listed.getD i false=true→Φ i (qk i) w
 shut:∀i,listed.getD i false=true→∀k∈A.getD i [],listed.getD k false=true
 defers:a.defers=a0.defers
 tmps:a.tmps.size=a0.tmps.size
 other:∀t,(∀i,listed.getD i false=true→qbn l i≠some t)→a.tmps[t]? = a0.tmps[t]?
 at_:∀i t,listed.getD i false=true→qbn l i=some t→a.tmps[t]? = some (qk i)
theorem q00{a b:Act}(hd:a.defers=b.defers)(g:∀t:Nat,a.tmps[t]? = b.tmps[t]?):a=b:=by
 cases a;cases b;simp only at hd g;subst hd;congr 1;exact Array.ext_getElem? g
theorem qgl{g:Array Bool}{i:Nat}(h:i<g.size):(g.setIfInBounds i true).getD i false=true:=by simp[h]
theorem qaf{g:Array Bool}{i j:Nat}(h:i<g.size):(g.setIfInBounds i true).getD j false=true↔j=i∨g.getD j false=true:=by
 by_cases e:i=j
 ·subst e;simp[h]
 ·rw[getD_set_ne false e];constructor
  ·exact .inr
  ·rintro (rfl | h)
   ·exact absurd rfl e
   ·exact h
theorem zdm(D:Dag l A L n){a0:Act}(hn:a0.tmps.size=n){S:World→Prop}{R:World→World→Prop}{Φ:Nat→Value→World→Prop}{Q:Exit→Act→World→Prop}
  (b9:∀w,R w w) (a4:∀i v w w',S w→S w'→R w w'→Φ i v w→Φ i v w') (a7:qaa P a0 S R Φ 0 l L)
  (c0:∀qk w,S w→(∀i,i<l.length→Φ i (qk i) w)→Q .normal (putL a0 qk (qbc l)) w) :
  ∀(F:Nat) (z:Array Bool) (a:Act) (w:World) (qk:Nat→Value),DagInv l A a0 S Φ z a w qk→(List.range l.length).countP (fun i=> !z.getD i false)≤F→wpAny P .any l.toArray Q F z a w:=by
 have X:∀(z:Array Bool) (a:Act) (w:World) (qk:Nat→Value),DagInv l A a0 S Φ z a w qk→Region.ready .any l.toArray z=[]→Q .normal a w:=by
  intro z a w qk I hr;have a8:∀(i:Nat),i<l.length→z.getD i false=true:=by
   intro i
   induction i using Nat.strongRecOn with
   | _ i ih =>
    intro O;cases hl:z.getD i false with
    | true=>rfl
    | false =>
     exfalso;have:i∈Region.ready .any l.toArray z:=by
      rw[mem_ready];have ho:l[i]? = some l[i]:=List.getElem?_eq_getElem O;refine⟨?_,l[i],by simp[O],fun e he hb=> ?_⟩
      ·rw[Array.getD_eq_getD_getElem?] at hl ⊢;have:i<z.size:=by rw[I.size];exact O
       rw[Array.getElem?_eq_getElem this] at hl ⊢;simpa using hl
      ·have N:=(D.edge i _ ho e he hb).1;have h2:=(D.anc i _ ho _ N).1;exact ih _ h2 (by omega)
     rw[hr] at this;cases this
  have ha:a=putL a0 qk (qbc l):=by
   refine q00 (by rw[qh9];exact I.defers) fun t=> ?_
   by_cases h:∃i,qbn l i=some t
   ·obtain⟨i,O⟩:=h;have M:=(ql6 O).1;rw[I.at_ i t (a8 i M) O];have hm:(i,t)∈qbc l:=by
     unfold qbc;rw[List.mem_filterMap];exact⟨i,List.mem_range.2 M,by rw[O];rfl⟩
    refine(qj2 qk (qbc l) a0 (i,t) hm (fun q hq e=> ?_) (by rw[hn];exact(D.slot i t O).1)).symm;unfold qbc at hq;rw[List.mem_filterMap] at hq;obtain⟨j,_,C⟩:=hq;rw[Option.map_eq_some_iff] at C;obtain⟨t',a6,rfl⟩:=C;simp only at e;subst e;exact(D.slot i _ O).2 j a6
   ·rw[I.other t fun i _ T=>h ⟨i,T⟩,qew];intro p hp e;unfold qbc at hp;rw[List.mem_filterMap] at hp;obtain⟨j,_,C⟩:=hp;rw[Option.map_eq_some_iff] at C;obtain⟨t',a6,rfl⟩:=C;exact h ⟨j,by rw[a6,←e]⟩
  rw[ha];exact c0 qk w I.s fun i O=>I.phi i (a8 i O)
 intro F
 induction F with
 | zero =>
  intro z a w qk I hc;have hr:Region.ready .any l.toArray z=[]:=by
   rw[List.eq_nil_iff_forall_not_mem];intro i O;obtain⟨h0,o,ho,_⟩:=mem_ready.1 O;have M:i<l.length:=by simpa using (Array.getElem?_eq_some_iff.1 ho).1
   have:(List.range l.length).countP (fun i=> !z.getD i false)=0:=by omega
   rw[List.countP_eq_zero] at this;have:=this i (List.mem_range.2 M);rw[Array.getD_eq_getD_getElem?] at h0 this;have T:i<z.size:=by rw[I.size];exact M
   rw[Array.getElem?_eq_getElem T] at h0 this;simp at h0 this;rw[h0] at this;cases this
  exact⟨hr,X z a w qk I hr⟩
 | succ F ih =>
  intro z a w qk I hc;refine⟨fun hr=>X z a w qk I hr,fun i O=> ?_⟩;obtain⟨h0,o,ho,a9⟩:=mem_ready.1 O;have M:i<l.length:=by simpa using (Array.getElem?_eq_some_iff.1 ho).1
  have T:i<z.size:=by rw[I.size];exact M
  have J:l[i]? = some o:=by simpa using ho
  have Z:z.getD i false=false:=by
   rw[Array.getD_eq_getD_getElem?] at h0 ⊢;rw[Array.getElem?_eq_getElem T] at h0 ⊢;simpa using h0
  have U:∀k∈A.getD i [],z.getD k false=true:=by
   intro k hk;obtain⟨_,e,he,hb,h⟩:=D.anc i o J k hk;have N:=a9 e he hb;rcases h with rfl | h
   ·exact N
   ·exact I.shut _ N k h
  have a5:∀t∈o.looksAt l.toArray,a.tmps[t]? = (putL a0 qk (L.getD i [])).tmps[t]? := by
   intro t ht;by_cases h:∃j,z.getD j false=true∧qbn l j=some t
   ·obtain⟨j,C,E⟩:=h;rcases D.look i o J t ht j E with N | ⟨N,h2⟩
    ·have:=I.shut j C i N;rw[Z] at this;cases this
    ·rw[I.at_ j t C E];refine(qj2 qk _ a0 (j,t) h2 (fun q hq e=> ?_) (by rw[hn];exact(D.slot j t E).1)).symm;have:=(D.lis i o J q hq).2;rw[e] at this;exact(D.slot j t E).2 _ this
   ·rw[I.other t fun j C T=>h ⟨j,C,T⟩,qew];intro p hp e;obtain⟨N,h2⟩:=D.lis i o J p hp;exact h ⟨p.1,U _ N,by rw[h2,e]⟩
  have V:execOp a.eval o=execOp (putL a0 qk (L.getD i [])).eval o:=by
   refine execOp_congr o (D.sel i o J) fun x hx=> ?_
   cases x with
   | tmp t =>
    have:=a5 t (List.mem_append_left _ (List.mem_filterMap.2 ⟨.tmp t,by simpa using hx,rfl⟩));simp only[Act.eval,Array.getD_eq_getD_getElem?,this]
   | _=>rfl
  have b8:=a7.at i o J;rw[Nat.zero_add] at b8;have K:=b8 qk w I.s fun p hp=>I.phi _ (U _ (D.lis i o J p hp).1)
  have next:∀v w',R w w'→S w'→Φ i v w'→wpAny P .any l.toArray Q F (z.setIfInBounds i true) (a.put o.dst v) w':=by
   intro v w' hR hS hΦ;have Y:qbn l i=o.dst:=by unfold qbn;rw[J];rfl
   refine ih (z.setIfInBounds i true) (a.put o.dst v) w' (fun j=>if j=i then v else qk j) ⟨?_,hS,?_,?_,?_,?_,?_,?_⟩ ?_
   ·rw[Array.size_setIfInBounds];exact I.size
   ·intro j C;rcases (qaf T).1 C with rfl | H
    ·simpa using hΦ
    ·have W:j≠i:=by rintro rfl;rw[Z] at H;cases H
     simp only[if_neg W];exact a4 j _ w w' I.s hS hR (I.phi j H)
   ·intro j C k hk;refine(qaf T).2 ?_;rcases (qaf T).1 C with rfl | H
    ·exact .inr (U k hk)
    ·exact .inr (I.shut j H k hk)
   ·cases o.dst<;>exact I.defers
   ·cases hd:o.dst with
    | none=>exact I.tmps
    | some d=>simpa [Act.put] using I.tmps
   ·intro t ht;have N:=I.other t fun j C=>ht j ((qaf T).2 (.inr C))
    have h2:=ht i ((qaf T).2 (.inl rfl));rw[Y] at h2;cases hd:o.dst with
    | none=>exact N
    | some d =>
     have W:d≠t:=by rintro rfl;exact h2 hd
     simpa [Act.put,Array.getElem?_setIfInBounds_ne W] using N
   ·intro j t C E;rcases (qaf T).1 C with rfl | H
    ·rw[Y] at E;rw[E,if_pos rfl];have:t<a.tmps.size:=by rw[I.tmps,hn];exact(D.slot j t (by rw[Y,E])).1
     simp[Act.put,this]
    ·have W:j≠i:=by rintro rfl;rw[Z] at H;cases H
     rw[if_neg W];have N:=I.at_ j t H E;cases hd:o.dst with
     | none=>exact N
     | some d =>
      have b7:d≠t:=by
       rintro rfl;exact W ((D.slot i d (by rw[Y,hd])).2 j E)
      simpa [Act.put,Array.getElem?_setIfInBounds_ne b7] using N
   ·have N:(List.range l.length).countP (fun j=> !(z.setIfInBounds i true).getD j false)<(List.range l.length).countP (fun j=> !z.getD j false):=by
     have b6:i∈List.range l.length:=List.mem_range.2 M;obtain⟨s,r,c3⟩:=List.append_of_mem b6;rw[c3,List.countP_append,List.countP_append,List.countP_cons,List.countP_cons];have m:∀xs:List Nat,xs.countP (fun j=> !(z.setIfInBounds i true).getD j false)≤xs.countP (fun j=> !z.getD j false):=by
      intro xs;refine List.countP_mono_left fun j _ C=> ?_
      cases h:z.getD j false with
      | false=>rfl
      | true=>rw[(qaf T).2 (.inr h)] at C;cases C
     have m1:=m s;have m2:=m r;rw[qgl T,Z];simp only[Bool.not_true,Bool.not_false,Bool.false_eq_true,if_false,if_true];omega
    omega
  unfold wpOp;rw[ho];simp only;cases hg:o.guard with
  | none =>
   rw[hg] at K;rw[if_pos (by unfold Region.wanted;rw[hg])];exact .inl (qi4 V K fun v w' h=>next v w' h.1 h.2.1 h.2.2)
  | some gb =>
   obtain⟨g,b⟩:=gb;rw[hg] at K;obtain⟨c2,t,b5⟩:=D.guard i o J g b hg;have b4:=U g c2;have c1:=I.at_ g t b4 b5;obtain⟨p1,p2⟩:=K (I.phi g b4);have hy:Region.wanted o (yielded l.toArray a.tmps)=true↔qk g = .bool b:=by
    unfold Region.wanted yielded;rw[hg];have e1:(l.toArray[g]?).bind (·.dst)=some t:=by simpa [qbn] using b5
    simp only[e1,Option.bind_some,c1];constructor
    ·intro h;split at h
     ·rename_i b' b3;simp only[Option.some.injEq] at b3;simp at h;rw[b3,h]
     ·simp at h
    ·intro h;rw[h];simp
   by_cases hw:Region.wanted o (yielded l.toArray a.tmps)=true
   ·rw[if_pos hw];exact .inl (qi4 V (p1 (hy.1 hw)) fun v w' h=>next v w' h.1 h.2.1 h.2.2)
   ·rw[if_neg hw];exact next undef w (b9 w) I.s (p2 fun h=>hw (hy.2 h))
theorem qb2(n i:Nat):(Array.replicate n false).getD i false=false:=by
 rw[Array.getD_eq_getD_getElem?,Array.getElem?_replicate];split<;>rfl
theorem zhx{id:Nat}{a:Act}{w:World}{Q:Exit→Act→World→Prop}(F:P.follows .mixedOrders=true)(L:List (List (Nat × Nat)))(n:Nat)(H:a.tmps.size=n)(D:q9b l (qvm l []) L n=true)(A:List (Nat × Nat))(C:qbc l=A)
  (S:World→Prop) (R:World→World→Prop) (Φ:Nat→Value→World→Prop) (E:S w.drew) (q:∀w,R w w) (g:∀i v w w',S w→S w'→R w w'→Φ i v w→Φ i v w')
  (o:qaa P a S R Φ 0 l L) (z:∀qk w,S w→(∀i,i<l.length→Φ i (qk i) w)→Q .normal (putL a qk A) w) :
  (Code.region id l.toArray true).wp P Q a w:=by
 subst C
 refine wp_region_any F ?_
 refine zdm (q1g D) H q g o z _ _ a _ (fun _=>undef) ⟨by simp,E,?_,?_,rfl,rfl,fun _ _=>rfl,?_⟩ ?_
 ·intro i m;rw[qb2] at m;cases m
 ·intro i m;rw[qb2] at m;cases m
 ·intro i t m;rw[qb2] at m;cases m
 ·refine Nat.le_trans List.countP_le_length ?_;simp
end
end Go.Proofs.YthnohmjbbeahmaaGreatDoor
