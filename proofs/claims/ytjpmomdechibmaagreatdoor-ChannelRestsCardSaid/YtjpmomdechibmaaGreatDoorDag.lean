/-
  A region that draws its order, by invariants: each operation is shown once, out of what is known of the operations that it looks at; whatever the order is.
-/
import Derived.Test.YtjpmomdechibmaaGreatDoorMaa
import Derived.Orders
set_option linter.unusedVariables false
set_option linter.unusedSimpArgs false
namespace Go.Proofs.YtjpmomdechibmaaGreatDoor
open Go.RowKit
def zk(P:Program)(o:Oper)(ρ:Operand→Value)(w:World)(K:Value→World→Prop):Prop :=
 match (execOp ρ o).run P w with
 | .ok (.value v) w'=>K v w'
 | .ok .skip w'=>K undef w'
 | .ok (.enter f args) w'=>Calls P f args w' fun e g=>∃v,e = .returned v∧K v g
 | _=>False
theorem qim{P:Program}{o:Oper}{a:Act}{ρ:Operand→Value}{w:World}{K:Value→World→Prop}{i:Act→World→Prop}{Q:Exit→Act→World→Prop}(f:execOp a.eval o=execOp ρ o)
  (h:zk P o ρ w K) (g:∀v w',K v w'→i (a.put o.dst v) w'):o.wp P a w i Q:=by
 unfold zk at h
 unfold Oper.wp
 rw[f]
 generalize (execOp ρ o).run P w=r at h ⊢
 cases r with
 | ok n w' =>
  cases n<;>simp only at h<;>simp only[Oper.upon]
  ·exact g _ _ h
  ·exact g _ _ h
  ·refine h.mono fun e q f=> ?_
   obtain⟨v,rfl,m⟩:=f
   exact g _ _ m
 | halt x w'=>simp only at h
def putL(a:Act)(ql:Nat→Value):List (Nat × Nat)→Act
 | []=>a
 | p::r=>putL (a.put (some p.2) (ql p.1)) ql r
theorem qhm(ql:Nat→Value):∀(L:List (Nat × Nat)) (a:Act),(putL a ql L).defers=a.defers
 | [],_=>rfl
 | p::r,a=>qhm ql r _
theorem qef(ql:Nat→Value):∀(L:List (Nat × Nat)) (a:Act) (t:Nat),(∀p∈L,p.2≠t)→(putL a ql L).tmps[t]? = a.tmps[t]?
 | [],_,_,_=>rfl
 | p::r,a,t,h=>by
  rw[putL,qef ql r _ t fun q f=>h q (List.mem_cons_of_mem _ f)]
  have:=h p (List.mem_cons_self ..)
  simp[Act.put,Array.getElem?_setIfInBounds_ne this]
theorem qjo(ql:Nat→Value):∀(L:List (Nat × Nat)) (a:Act) (p:Nat × Nat),p∈L→(∀q∈L,q.2=p.2→q.1=p.1)→p.2<a.tmps.size→(putL a ql L).tmps[p.2]? = some (ql p.1)
 | [],_,_,h,_,_=>by cases h
 | q::r,a,p,h,t,o=>by
  rw[putL]
  by_cases m:∃g∈r,g.2=p.2
  ·obtain⟨g,f,e⟩:=m
   have v:=t g (List.mem_cons_of_mem _ f) e
   have i:p∈r:=by
    have:g=p:=Prod.ext v e
    exact this▸f
   exact qjo ql r _ p i (fun q x=>t q (List.mem_cons_of_mem _ x)) (by simpa [Act.put] using o)
  ·have w:p=q:=by
    rcases List.mem_cons.1 h with h | h
    ·exact h
    ·exact absurd ⟨p,h,rfl⟩ m
   rw[qef ql r _ p.2 fun g f e=>m ⟨g,f,e⟩,←w]
   simp[Act.put,o]
def que:List Oper→List (List Nat)→List (List Nat)
 | [],f=>f
 | o::r,f=>que r (f++[((o.after.toList.filter (Region.binds .any)).flatMap fun e=>e.on::f.getD e.on []).foldl (fun s k=>if s.contains k then s else k::s) []])
def qbh(l:List Oper)(j:Nat):Option Nat:=(l[j]?).bind (·.dst)
def looks(l:List Oper)(o:Oper):List Nat:=o.looksAt l.toArray
def q7c(l:List Oper)(A:List (List Nat))(L:List (List (Nat × Nat)))(n:Nat):Bool :=
 (List.range l.length).all fun i=>match l[i]? with
  | none=>true
  | some o =>
   (o.after.toList.all fun e=> !Region.binds .any e || ((A.getD i []).contains e.on&&(A.getD e.on []).all fun k=>(A.getD i []).contains k)) &&
   ((A.getD i []).all fun k=>o.after.toList.any fun e=>Region.binds .any e&&(k==e.on || (A.getD e.on []).contains k)) &&
   ((A.getD i []).all fun k=>k<i) &&
   ((looks l o).all fun t=>(List.range l.length).all fun j=>qbh l j != some t || (A.getD j []).contains i || ((A.getD i []).contains j&&(L.getD i []).contains (j,t))) &&
   ((L.getD i []).all fun p=>(A.getD i []).contains p.1&&qbh l p.1==some p.2) &&
   (match o.dst with
    | some t=>t<n&&(List.range l.length).all fun j=>j==i || qbh l j != some t
    | none=>true) &&
   (match o.guard with | some (g,_)=>(A.getD i []).contains g&&(qbh l g).isSome | none=>true) &&
   (match o.op with | .select .. => false | _=>true)
section
variable {P:Program}{l:List Oper}{A:List (List Nat)}{L:List (List (Nat × Nat))}{n:Nat}
structure Dag(l:List Oper)(A:List (List Nat))(L:List (List (Nat × Nat)))(n:Nat):Prop where
 edge:∀(i:Nat) o,l[i]? = some o→∀e∈o.after,Region.binds .any e=true→e.on∈A.getD i []∧∀k∈A.getD e.on [],k∈A.getD i []
 anc:∀(i:Nat) o,l[i]? = some o→∀k∈A.getD i [],k<i∧∃e∈o.after,Region.binds .any e=true∧(k=e.on∨k∈A.getD e.on [])
 look:∀(i:Nat) o,l[i]? = some o→∀t∈o.looksAt l.toArray,∀j,qbh l j=some t→i∈A.getD j []∨(j∈A.getD i []∧(j,t)∈L.getD i [])
 lis:∀(i:Nat) o,l[i]? = some o→∀p∈L.getD i [],p.1∈A.getD i []∧qbh l p.1=some p.2
 slot:∀(i:Nat) t,qbh l i=some t→t<n∧∀j,qbh l j=some t→j=i
 guard:∀(i:Nat) o,l[i]? = some o→∀g b,o.guard=some (g,b)→g∈A.getD i []∧∃t,qbh l g=some t
 sel:∀(i:Nat) o,l[i]? = some o→∀cs b,o.op ≠ .select cs b
theorem qlg{i t:Nat}(h:qbh l i=some t):i<l.length∧∃o,l[i]? = some o∧o.dst=some t:=by
 unfold qbh at h
 cases f:l[i]? with
 | none=>rw[f] at h;cases h
 | some o=>rw[f] at h;exact⟨(List.getElem?_eq_some_iff.1 f).1,o,rfl,h⟩
theorem qzy(h:q7c l A L n=true):Dag l A L n:=by
 have key:∀(i:Nat) o,l[i]? = some o→_:=fun i o f=>by
  have y:i<l.length:=(List.getElem?_eq_some_iff.1 f).1
  have:=List.all_eq_true.1 h i (List.mem_range.2 y)
  rw[f] at this
  simp only[Bool.and_eq_true] at this
  exact this
 refine⟨?_,?_,?_,?_,?_,?_,?_⟩
 ·intro i o f e x q
  obtain⟨⟨⟨⟨⟨⟨⟨k,_⟩,_⟩,_⟩,_⟩,_⟩,_⟩,_⟩:=key i o f
  have:=List.all_eq_true.1 k e (by simpa using x)
  simpa [q] using this
 ·intro i o f k z
  obtain⟨⟨⟨⟨⟨⟨⟨_,I⟩,J⟩,_⟩,_⟩,_⟩,_⟩,_⟩:=key i o f
  have v:=List.all_eq_true.1 I k z
  have w:=List.all_eq_true.1 J k z
  obtain⟨e,x,q⟩:=List.any_eq_true.1 v
  simp only[Bool.and_eq_true,Bool.or_eq_true,beq_iff_eq,List.contains_iff_mem] at q
  exact⟨by simpa using w,e,by simpa using x,q⟩
 ·intro i o f t H j m
  obtain⟨⟨⟨⟨⟨⟨⟨_,_⟩,_⟩,k⟩,_⟩,_⟩,_⟩,_⟩:=key i o f
  have v:=List.all_eq_true.1 k t H
  have w:=List.all_eq_true.1 v j (List.mem_range.2 (qlg m).1)
  simpa [m] using w
 ·intro i o f p E
  obtain⟨⟨⟨⟨⟨⟨⟨_,_⟩,_⟩,_⟩,k⟩,_⟩,_⟩,_⟩:=key i o f
  have:=List.all_eq_true.1 k p E
  simpa using this
 ·intro i t y
  obtain⟨_,o,f,C⟩:=qlg y
  obtain⟨⟨⟨⟨⟨⟨⟨_,_⟩,_⟩,_⟩,_⟩,k⟩,_⟩,_⟩:=key i o f
  rw[C] at k
  simp only[Bool.and_eq_true,decide_eq_true_eq] at k
  refine⟨k.1,fun j m=> ?_⟩
  have:=List.all_eq_true.1 k.2 j (List.mem_range.2 (qlg m).1)
  simpa [m] using this
 ·intro i o f g b D
  obtain⟨⟨⟨⟨⟨⟨⟨_,_⟩,_⟩,_⟩,_⟩,_⟩,k⟩,_⟩:=key i o f
  rw[D] at k
  simp only[Bool.and_eq_true,List.contains_iff_mem] at k
  exact⟨k.1,Option.isSome_iff_exists.1 k.2⟩
 ·intro i o f cs b F
  obtain⟨⟨⟨⟨⟨⟨⟨_,_⟩,_⟩,_⟩,_⟩,_⟩,_⟩,k⟩:=key i o f
  rw[F] at k
  cases k
def qub(P:Program)(a0:Act)(S:World→Prop)(R:World→World→Prop)(Φ:Nat→Value→World→Prop)(i:Nat)(o:Oper)(Li:List (Nat × Nat)):Prop :=
 ∀(ql:Nat→Value) (w:World),S w→(∀p∈Li,Φ p.1 (ql p.1) w) →
  match o.guard with
  | none=>zk P o (putL a0 ql Li).eval w fun v w'=>R w w'∧S w'∧Φ i v w'
  | some (g,b)=>Φ g (ql g) w→(ql g = .bool b→zk P o (putL a0 ql Li).eval w fun v w'=>R w w'∧S w'∧Φ i v w')∧(ql g ≠ .bool b→Φ i undef w)
def z6(P:Program)(a0:Act)(S:World→Prop)(R:World→World→Prop)(Φ:Nat→Value→World→Prop):Nat→List Oper→List (List (Nat × Nat))→Prop
 | _,[],_=>True
 | i,o::os,L=>qub P a0 S R Φ i o (L.headD [])∧z6 P a0 S R Φ (i+1) os L.tail
theorem z6.nil{a0:Act}{S:World→Prop}{R:World→World→Prop}{Φ:Nat→Value→World→Prop}{i:Nat}{L:List (List (Nat × Nat))} : z6 P a0 S R Φ i [] L:=trivial
theorem z6.cons{a0:Act}{S:World→Prop}{R:World→World→Prop}{Φ:Nat→Value→World→Prop}{i:Nat}{o:Oper}{os:List Oper}{Li:List (Nat × Nat)}{L:List (List (Nat × Nat))}(h:qub P a0 S R Φ i o Li)
  (k:z6 P a0 S R Φ (i+1) os L):z6 P a0 S R Φ i (o::os) (Li::L):=⟨h,k⟩
def q3g(Φ:Nat→Value→World→Prop)(ql:Nat→Value)(w:World):List (Nat × Nat)→Prop
 | []=>True
 | p::r=>Φ p.1 (ql p.1) w∧q3g Φ ql w r
theorem qmx{Φ:Nat→Value→World→Prop}{ql:Nat→Value}{w:World} : ∀ {L:List (Nat × Nat)},(∀p∈L,Φ p.1 (ql p.1) w)→q3g Φ ql w L
 | [],_=>trivial
 | p::r,h=>⟨h p (List.mem_cons_self ..),qmx fun q f=>h q (List.mem_cons_of_mem _ f)⟩
theorem z6.plain{a0:Act}{S:World→Prop}{R:World→World→Prop}{Φ:Nat→Value→World→Prop}{i:Nat}{o:Oper}{os:List Oper}{Li:List (Nat × Nat)}{L:List (List (Nat × Nat))}(g:o.guard=none)
  (h:∀(ql:Nat→Value) (w:World),S w→q3g Φ ql w Li→zk P o (putL a0 ql Li).eval w fun v w'=>R w w'∧S w'∧Φ i v w')
  (k:z6 P a0 S R Φ (i+1) os L):z6 P a0 S R Φ i (o::os) (Li::L) :=
 ⟨fun ql w f m=>by rw[g];exact h ql w f (qmx m),k⟩
theorem qx9{o:Oper}{ρ:Operand→Value}{w:World}{v:Value}{w':World}{K:Value→World→Prop}(h:(execOp ρ o).run P w = .ok (.value v) w')(k:K v w'):zk P o ρ w K:=by
 unfold zk
 rw[h]
 exact k
theorem z6.at{a0:Act}{S:World→Prop}{R:World→World→Prop}{Φ:Nat→Value→World→Prop} : ∀ {os:List Oper} {L:List (List (Nat × Nat))} {k:Nat},z6 P a0 S R Φ k os L→∀(i:Nat) o,os[i]? = some o→qub P a0 S R Φ (k+i) o (L.getD i [])
 | [],_,_,_,_,_,h=>by simp at h
 | o::os,L,k,h,0,g,f=>by
  simp only[List.getElem?_cons_zero,Option.some.injEq] at f
  subst f
  have:=h.1
  cases L<;>exact this
 | o::os,L,k,h,i+1,g,f=>by
  have:=z6.at h.2 i g (by simpa using f)
  rw[show k+(i+1)=k+1+i by omega]
  cases L<;>exact this
def qa3(l:List Oper):List (Nat × Nat):=(List.range l.length).filterMap fun i=>(qbh l i).map fun t=>(i,t)
structure DagInv(l:List Oper)(A:List (List Nat))(a0:Act)(S:World→Prop)(Φ:Nat→Value→World→Prop)(listed:Array Bool)(a:Act)(w:World)(ql:Nat→Value):Prop where
 size:listed.size=l.length
 s:S w
 phi:∀i,listed.getD i false=true→Φ i (ql i) w
 shut:∀i,listed.getD i false=true→∀k∈A.getD i [],listed.getD k false=true
 defers:a.defers=a0.defers
 tmps:a.tmps.size=a0.tmps.size
 other:∀t,(∀i,listed.getD i false=true→qbh l i≠some t)→a.tmps[t]? = a0.tmps[t]?
 at_:∀i t,listed.getD i false=true→qbh l i=some t→a.tmps[t]? = some (ql i)
theorem qzh{a b:Act}(f:a.defers=b.defers)(g:∀t:Nat,a.tmps[t]? = b.tmps[t]?):a=b:=by
 cases a;cases b
 simp only at f g
 subst f
 congr 1
 exact Array.ext_getElem? g
theorem qf2{f:Array Bool}{i:Nat}(h:i<f.size):(f.setIfInBounds i true).getD i false=true:=by simp[h]
theorem z7{f:Array Bool}{i j:Nat}(h:i<f.size):(f.setIfInBounds i true).getD j false=true↔j=i∨f.getD j false=true:=by
 by_cases e:i=j
 ·subst e;simp[h]
 ·rw[getD_set_ne false e]
  constructor
  ·exact .inr
  ·rintro (rfl | h)
   ·exact absurd rfl e
   ·exact h
theorem za6(D:Dag l A L n){a0:Act}(hn:a0.tmps.size=n){S:World→Prop}{R:World→World→Prop}{Φ:Nat→Value→World→Prop}{Q:Exit→Act→World→Prop}
  (b7:∀w,R w w) (Y:∀i v w w',S w→S w'→R w w'→Φ i v w→Φ i v w') (a6:z6 P a0 S R Φ 0 l L)
  (b8:∀ql w,S w→(∀i,i<l.length→Φ i (ql i) w)→Q .normal (putL a0 ql (qa3 l)) w) :
  ∀(C:Nat) (f:Array Bool) (a:Act) (w:World) (ql:Nat→Value),DagInv l A a0 S Φ f a w ql→(List.range l.length).countP (fun i=> !f.getD i false)≤C→wpAny P .any l.toArray Q C f a w:=by
 have V:∀(f:Array Bool) (a:Act) (w:World) (ql:Nat→Value),DagInv l A a0 S Φ f a w ql→Region.ready .any l.toArray f=[]→Q .normal a w:=by
  intro f a w ql I hr
  have all:∀(i:Nat),i<l.length→f.getD i false=true:=by
   intro i
   induction i using Nat.strongRecOn with
   | _ i ih =>
    intro M
    cases hl:f.getD i false with
    | true=>rfl
    | false =>
     exfalso
     have:i∈Region.ready .any l.toArray f:=by
      rw[mem_ready]
      have ho:l[i]? = some l[i]:=List.getElem?_eq_getElem M
      refine⟨?_,l[i],by simp[M],fun e he hb=> ?_⟩
      ·rw[Array.getD_eq_getD_getElem?] at hl ⊢
       have:i<f.size:=by rw[I.size];exact M
       rw[Array.getElem?_eq_getElem this] at hl ⊢
       simpa using hl
      ·have K:=(D.edge i _ ho e he hb).1
       have h2:=(D.anc i _ ho _ K).1
       exact ih _ h2 (by omega)
     rw[hr] at this
     cases this
  have ha:a=putL a0 ql (qa3 l):=by
   refine qzh (by rw[qhm];exact I.defers) fun t=> ?_
   by_cases h:∃i,qbh l i=some t
   ·obtain⟨i,M⟩:=h
    have J:=(qlg M).1
    rw[I.at_ i t (all i J) M]
    have hm:(i,t)∈qa3 l:=by
     unfold qa3
     rw[List.mem_filterMap]
     exact⟨i,List.mem_range.2 J,by rw[M];rfl⟩
    refine(qjo ql (qa3 l) a0 (i,t) hm (fun q hq e=> ?_) (by rw[hn];exact(D.slot i t M).1)).symm
    unfold qa3 at hq
    rw[List.mem_filterMap] at hq
    obtain⟨j,_,y⟩:=hq
    rw[Option.map_eq_some_iff] at y
    obtain⟨t',a5,rfl⟩:=y
    simp only at e
    subst e
    exact(D.slot i _ M).2 j a5
   ·rw[I.other t fun i _ N=>h ⟨i,N⟩,qef]
    intro p hp e
    unfold qa3 at hp
    rw[List.mem_filterMap] at hp
    obtain⟨j,_,y⟩:=hp
    rw[Option.map_eq_some_iff] at y
    obtain⟨t',a5,rfl⟩:=y
    exact h ⟨j,by rw[a5,←e]⟩
  rw[ha]
  exact b8 ql w I.s fun i M=>I.phi i (all i M)
 intro C
 induction C with
 | zero =>
  intro f a w ql I hc
  have hr:Region.ready .any l.toArray f=[]:=by
   rw[List.eq_nil_iff_forall_not_mem]
   intro i M
   obtain⟨Z,o,ho,_⟩:=mem_ready.1 M
   have J:i<l.length:=by simpa using (Array.getElem?_eq_some_iff.1 ho).1
   have:(List.range l.length).countP (fun i=> !f.getD i false)=0:=by omega
   rw[List.countP_eq_zero] at this
   have:=this i (List.mem_range.2 J)
   rw[Array.getD_eq_getD_getElem?] at Z this
   have N:i<f.size:=by rw[I.size];exact J
   rw[Array.getElem?_eq_getElem N] at Z this
   simp at Z this
   rw[Z] at this
   cases this
  exact⟨hr,V f a w ql I hr⟩
 | succ C ih =>
  intro f a w ql I hc
  refine⟨fun hr=>V f a w ql I hr,fun i M=> ?_⟩
  obtain⟨Z,o,ho,a7⟩:=mem_ready.1 M
  have J:i<l.length:=by simpa using (Array.getElem?_eq_some_iff.1 ho).1
  have N:i<f.size:=by rw[I.size];exact J
  have F:l[i]? = some o:=by simpa using ho
  have X:f.getD i false=false:=by
   rw[Array.getD_eq_getD_getElem?] at Z ⊢
   rw[Array.getElem?_eq_getElem N] at Z ⊢
   simpa using Z
  have O:∀k∈A.getD i [],f.getD k false=true:=by
   intro k hk
   obtain⟨_,e,he,hb,h⟩:=D.anc i o F k hk
   have K:=a7 e he hb
   rcases h with rfl | h
   ·exact K
   ·exact I.shut _ K k h
  have a4:∀t∈o.looksAt l.toArray,a.tmps[t]? = (putL a0 ql (L.getD i [])).tmps[t]? := by
   intro t ht
   by_cases h:∃j,f.getD j false=true∧qbh l j=some t
   ·obtain⟨j,y,z⟩:=h
    rcases D.look i o F t ht j z with K | ⟨K,h2⟩
    ·have:=I.shut j y i K
     rw[X] at this
     cases this
    ·rw[I.at_ j t y z]
     refine(qjo ql _ a0 (j,t) h2 (fun q hq e=> ?_) (by rw[hn];exact(D.slot j t z).1)).symm
     have:=(D.lis i o F q hq).2
     rw[e] at this
     exact(D.slot j t z).2 _ this
   ·rw[I.other t fun j y N=>h ⟨j,y,N⟩,qef]
    intro p hp e
    obtain⟨K,h2⟩:=D.lis i o F p hp
    exact h ⟨p.1,O _ K,by rw[h2,e]⟩
  have T:execOp a.eval o=execOp (putL a0 ql (L.getD i [])).eval o:=by
   refine execOp_congr o (D.sel i o F) fun x hx=> ?_
   cases x with
   | tmp t =>
    have:=a4 t (List.mem_append_left _ (List.mem_filterMap.2 ⟨.tmp t,by simpa using hx,rfl⟩))
    simp only[Act.eval,Array.getD_eq_getD_getElem?,this]
   | _=>rfl
  have b6:=a6.at i o F
  rw[Nat.zero_add] at b6
  have H:=b6 ql w I.s fun p hp=>I.phi _ (O _ (D.lis i o F p hp).1)
  have next:∀v w',R w w'→S w'→Φ i v w'→wpAny P .any l.toArray Q C (f.setIfInBounds i true) (a.put o.dst v) w':=by
   intro v w' hR hS hΦ
   have W:qbh l i=o.dst:=by unfold qbh;rw[F];rfl
   refine ih (f.setIfInBounds i true) (a.put o.dst v) w' (fun j=>if j=i then v else ql j) ⟨?_,hS,?_,?_,?_,?_,?_,?_⟩ ?_
   ·rw[Array.size_setIfInBounds];exact I.size
   ·intro j y
    rcases (z7 N).1 y with rfl | E
    ·simpa using hΦ
    ·have U:j≠i:=by rintro rfl;rw[X] at E;cases E
     simp only[if_neg U]
     exact Y j _ w w' I.s hS hR (I.phi j E)
   ·intro j y k hk
    refine(z7 N).2 ?_
    rcases (z7 N).1 y with rfl | E
    ·exact .inr (O k hk)
    ·exact .inr (I.shut j E k hk)
   ·cases o.dst<;>exact I.defers
   ·cases hd:o.dst with
    | none=>exact I.tmps
    | some d=>simpa [Act.put] using I.tmps
   ·intro t ht
    have K:=I.other t fun j y=>ht j ((z7 N).2 (.inr y))
    have h2:=ht i ((z7 N).2 (.inl rfl))
    rw[W] at h2
    cases hd:o.dst with
    | none=>exact K
    | some d =>
     have U:d≠t:=by rintro rfl;exact h2 hd
     simpa [Act.put,Array.getElem?_setIfInBounds_ne U] using K
   ·intro j t y z
    rcases (z7 N).1 y with rfl | E
    ·rw[W] at z
     rw[z,if_pos rfl]
     have:t<a.tmps.size:=by rw[I.tmps,hn];exact(D.slot j t (by rw[W,z])).1
     simp[Act.put,this]
    ·have U:j≠i:=by rintro rfl;rw[X] at E;cases E
     rw[if_neg U]
     have K:=I.at_ j t E z
     cases hd:o.dst with
     | none=>exact K
     | some d =>
      have b5:d≠t:=by
       rintro rfl
       exact U ((D.slot i d (by rw[W,hd])).2 j z)
      simpa [Act.put,Array.getElem?_setIfInBounds_ne b5] using K
   ·have K:(List.range l.length).countP (fun j=> !(f.setIfInBounds i true).getD j false)<(List.range l.length).countP (fun j=> !f.getD j false):=by
     have b4:i∈List.range l.length:=List.mem_range.2 J
     obtain⟨s,r,c1⟩:=List.append_of_mem b4
     rw[c1,List.countP_append,List.countP_append,List.countP_cons,List.countP_cons]
     have m:∀xs:List Nat,xs.countP (fun j=> !(f.setIfInBounds i true).getD j false)≤xs.countP (fun j=> !f.getD j false):=by
      intro xs
      refine List.countP_mono_left fun j _ y=> ?_
      cases h:f.getD j false with
      | false=>rfl
      | true=>rw[(z7 N).2 (.inr h)] at y;cases y
     have m1:=m s
     have m2:=m r
     rw[qf2 N,X]
     simp only[Bool.not_true,Bool.not_false,Bool.false_eq_true,if_false,if_true]
     omega
    omega
  unfold wpOp
  rw[ho]
  simp only
  cases hg:o.guard with
  | none =>
   rw[hg] at H
   rw[if_pos (by unfold Region.wanted;rw[hg])]
   exact .inl (qim T H fun v w' h=>next v w' h.1 h.2.1 h.2.2)
  | some gb =>
   obtain⟨g,b⟩:=gb
   rw[hg] at H
   obtain⟨c0,t,b3⟩:=D.guard i o F g b hg
   have a9:=O g c0
   have b9:=I.at_ g t a9 b3
   obtain⟨p1,p2⟩:=H (I.phi g a9)
   have hy:Region.wanted o (yielded l.toArray a.tmps)=true↔ql g = .bool b:=by
    unfold Region.wanted yielded
    rw[hg]
    have e1:(l.toArray[g]?).bind (·.dst)=some t:=by simpa [qbh] using b3
    simp only[e1,Option.bind_some,b9]
    constructor
    ·intro h
     split at h
     ·rename_i b' a8
      simp only[Option.some.injEq] at a8
      simp at h
      rw[a8,h]
     ·simp at h
    ·intro h
     rw[h]
     simp
   by_cases hw:Region.wanted o (yielded l.toArray a.tmps)=true
   ·rw[if_pos hw]
    exact .inl (qim T (p1 (hy.1 hw)) fun v w' h=>next v w' h.1 h.2.1 h.2.2)
   ·rw[if_neg hw]
    exact next undef w (b7 w) I.s (p2 fun h=>hw (hy.2 h))
theorem qbu(n i:Nat):(Array.replicate n false).getD i false=false:=by
 rw[Array.getD_eq_getD_getElem?,Array.getElem?_replicate]
 split<;>rfl
theorem ze9{id:Nat}{a:Act}{w:World}{Q:Exit→Act→World→Prop}(C:P.follows .mixedOrders=true)(L:List (List (Nat × Nat)))(n:Nat)(D:a.tmps.size=n)(y:q7c l (que l []) L n=true)(A:List (Nat × Nat))(x:qa3 l=A)
  (S:World→Prop) (R:World→World→Prop) (Φ:Nat→Value→World→Prop) (z:S w.drew) (o:∀w,R w w) (f:∀i v w w',S w→S w'→R w w'→Φ i v w→Φ i v w')
  (m:z6 P a S R Φ 0 l L) (q:∀ql w,S w→(∀i,i<l.length→Φ i (ql i) w)→Q .normal (putL a ql A) w) :
  (Code.region id l.toArray true).wp P Q a w:=by
 subst x
 refine wp_region_any C ?_
 refine za6 (qzy y) D o f m q _ _ a _ (fun _=>undef) ⟨by simp,z,?_,?_,rfl,rfl,fun _ _=>rfl,?_⟩ ?_
 ·intro i g;rw[qbu] at g;cases g
 ·intro i g;rw[qbu] at g;cases g
 ·intro i t g;rw[qbu] at g;cases g
 ·refine Nat.le_trans List.countP_le_length ?_
  simp
end
end Go.Proofs.YtjpmomdechibmaaGreatDoor
