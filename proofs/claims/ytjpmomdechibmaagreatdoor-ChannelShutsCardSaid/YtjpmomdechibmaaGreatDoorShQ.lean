/-
  The protocol, plain: behind both Shuts all that is live is let fail; at rest then nothing is live.
-/
import Derived.Test.YtjpmomdechibmaaGreatDoorMee
set_option linter.unusedVariables false
set_option linter.unusedSimpArgs false
namespace Go.Proofs.YtjpmomdechibmaaGreatDoor
open Go.RowKit
def q6i(xs:List Live):Prop:=xs.Pairwise fun x y=>¬(x.own=y.own∧x.h.id=y.h.id)
theorem qvg{xs:List Live}(h:q6i xs){i j:Nat}{x y:Live}(m:xs[i]? = some x)(o:xs[j]? = some y)(f:i<j):¬(x.own=y.own∧x.h.id=y.h.id):=by
 obtain⟨g,rfl⟩:=List.getElem?_eq_some_iff.1 m
 obtain⟨l,rfl⟩:=List.getElem?_eq_some_iff.1 o
 exact List.pairwise_iff_getElem.1 h i j g l f
section
variable {K:Kon}{n k:Nat}{P:Pr}
theorem qb2.keys{s:Bool}{a b:Ch}{wa wb:List MsgV}(h:qb2 K n s a b wa wb):q6i a.xs:=by
 obtain⟨Q,h,rfl,rfl,rfl,rfl,rfl⟩:=h
 unfold q6i
 rw[h.ea.perm.pairwise_iff (fun {x y} E e=>E ⟨e.1.symm,e.2.symm⟩),List.pairwise_filterMap]
 have pw:=h.pw
 rw[List.pairwise_map] at pw
 refine List.Pairwise.imp_of_mem ?_ pw
 intro g g' q t D x f y H
 have key:∀ {g:Gi} {x:Live},g∈Q.G→(qs Q.s).show g=some x→0≤g.so∧x.own=(g.own==Q.s)∧x.h=g.h:=by
  intro g x q f
  have f:qaw (g.own==Q.s) g.h (if g.own=Q.s then g.so else g.st) g.paid=some x:=f
  have F:0≤g.st→g.st≤8→0≤g.so∧g.so≤8:=qkt _ (h.it g q)
  have w:0≤(if g.own=Q.s then g.so else g.st)→(if g.own=Q.s then g.so else g.st)≤8→0≤g.so:=by
   split
   ·exact fun h _=>h
   ·exact fun m o=>(F m o).1
  generalize (if g.own=Q.s then g.so else g.st)=z at f w
  unfold qaw at f
  by_cases i:0≤z∧z≤8
  ·rw[if_pos i] at f
   obtain rfl:=Option.some.inj f
   exact⟨w i.1 i.2,rfl,rfl⟩
  ·rw[if_neg i] at f
   cases f
 obtain⟨a1,a2,a3⟩:=key q f
 obtain⟨b1,b2,C⟩:=key t H
 rintro ⟨l,v⟩
 rw[a2,b2] at l
 rw[a3,C] at v
 refine D ⟨decide_eq_true a1,decide_eq_true b1,?_,v⟩
 show g.own=g'.own
 cases m:g.own<;>cases o:g'.own<;>rw[m,o] at l<;>cases Q.s<;>simp at l ⊢
structure Left(xs:List Live)(R:List Int):Prop where
 all:∀x∈xs,x.own=false→5≤x.state∨(x.state=4∧x.h.id∈R)
 has:∀id∈R,∃x∈xs,x.own=false∧x.h.id=id∧x.state=4
 nd:R.Nodup
theorem Left.step{xs:List Live}{id:Int}{R:List Int}(h:Left xs (id::R))(z:q6i xs):∃i x,qb7 false id xs=some (i,x)∧Left (xs.set i {x with state:=5,paid:=false}) R:=by
 obtain⟨x,J,E,w,O⟩:=h.has id (List.mem_cons_self ..)
 have g:∀y∈xs,y.own=false→y.h.id=id→y=x:=by
  intro y v l q
  obtain⟨i,m⟩:=List.getElem?_of_mem J
  obtain⟨j,f⟩:=List.getElem?_of_mem v
  rcases Nat.lt_trichotomy i j with e | e | e
  ·exact absurd ⟨by rw[E,l],by rw[w,q]⟩ (qvg z m f e)
  ·subst e
   rw[m] at f
   exact(Option.some.inj f).symm
  ·exact absurd ⟨by rw[E,l],by rw[w,q]⟩ (qvg z f m e)
 obtain⟨i,F⟩:=qoc J E w O g
 have o:=(qey F).1
 obtain⟨t,N⟩:=List.nodup_cons.1 h.nd
 refine⟨i,x,F,fun y v l=> ?_,fun r I=> ?_,N⟩
 ·obtain⟨j,f⟩:=List.getElem?_of_mem v
  rw[List.getElem?_set] at f
  split at f
  ·split at f
   ·obtain rfl:=Option.some.inj f
    exact .inl (Int.le_refl _)
   ·cases f
  ·rename_i D
   have H:=List.mem_of_getElem? f
   rcases h.all y H l with e | ⟨e,L⟩
   ·exact .inl e
   ·rcases List.mem_cons.1 L with C | C
    ·have:=g y H l C
     subst this
     exfalso
     rcases Nat.lt_trichotomy i j with e | e | e
     ·exact(qvg z o f e) ⟨rfl,rfl⟩
     ·exact D e
     ·exact(qvg z f o e) ⟨rfl,rfl⟩
    ·exact .inr ⟨e,C⟩
 ·obtain⟨y,v,l,q,M⟩:=h.has r (List.mem_cons_of_mem _ I)
  refine⟨y,?_,l,q,M⟩
  obtain⟨j,f⟩:=List.getElem?_of_mem v
  refine List.mem_of_getElem? (i:=j) ?_
  rw[List.getElem?_set,if_neg]
  ·exact f
  ·rintro rfl
   rw[o] at f
   obtain rfl:=Option.some.inj f
   rw[w] at q
   rw[q] at t
   exact t I
structure Fails(Ra Rb:List Int)(P:Pr):Prop where
 a:Left P.a.xs Ra
 b:Left P.b.xs Rb
 wa:∀m∈P.wa,m.kind≠3
 wb:∀m∈P.wb,m.kind≠3
 sa:P.a.k.shutSaid=true
 sb:P.b.k.shutSaid=true
end
def qdp(own:Bool)(l:List Live):List Int:=(l.filter fun x=>x.own==own).map fun x=>x.h.id
theorem qxq{own:Bool}{l:List Live}(h:q6i l):(qdp own l).Nodup:=by
 unfold qdp List.Nodup
 rw[List.pairwise_map]
 refine List.Pairwise.imp_of_mem ?_ (h.filter _)
 intro x y m o i e
 have f:=(List.mem_filter.1 m).2
 have g:=(List.mem_filter.1 o).2
 exact i ⟨(beq_iff_eq.1 f).trans (beq_iff_eq.1 g).symm,e⟩
theorem qs7(x:Live)(l:List Live):qdp x.own (x::l)=x.h.id::qdp x.own l:=by
 unfold qdp
 rw[List.filter_cons,if_pos (by simp)]
 rfl
theorem qxr{own:Bool}{x:Live}(h:x.own = !own)(l:List Live):qdp own (x::l)=qdp own l:=by
 unfold qdp
 rw[List.filter_cons,if_neg (by rw[h];cases own<;>decide)]
section
variable {K:Kon}{n k:Nat}{P:Pr}
theorem q2y{own:Bool}{l:List Live}{x:Live}(g:x∈l)(f:x.own=own):x.h.id∈qdp own l :=
 List.mem_map.2 ⟨x,List.mem_filter.2 ⟨g,by rw[f];simp⟩,rfl⟩
theorem Fails.start(z:n<65535)(h:PInv K n P)(v:P.Rest)(sa:P.a.k.shutSaid=true)(sb:P.b.k.shutSaid=true):Fails (qdp false P.a.xs) (qdp true P.a.xs) P:=by
 have q:=quiet_of z h v
 have w:=h.prot.keys
 refine⟨⟨fun x f l=> .inr ⟨(q.four x f).1,q2y f l⟩,fun id g=> ?_,qxq w⟩,⟨fun y C l=> ?_,fun id g=> ?_,qxq w⟩,?_,?_,sa,sb⟩
 ·obtain⟨x,f,e⟩:=List.mem_map.1 g
  obtain⟨i,o⟩:=List.mem_filter.1 f
  exact⟨x,i,beq_iff_eq.1 o,e,(q.four x i).1⟩
 ·obtain⟨x,f,rfl⟩:=List.mem_map.1 (q.mir.mem_iff.1 C)
  have l:(!x.own)=false:=l
  exact .inr ⟨(q.four x f).1,show x.h.id∈qdp true P.a.xs from q2y f (by simpa using l)⟩
 ·obtain⟨x,f,e⟩:=List.mem_map.1 g
  obtain⟨i,o⟩:=List.mem_filter.1 f
  refine⟨qmc x,q.mir.mem_iff.2 (List.mem_map.2 ⟨x,i,rfl⟩),?_,e,(q.four x i).1⟩
  show (!x.own)=false
  rw[beq_iff_eq.1 o]
  rfl
 ·rw[v.wa];intro m t;cases t
 ·rw[v.wb];intro m t;cases t
theorem qk9{w:List MsgV}{m:MsgV}{e:Int}(h:∀x∈w,x.kind≠3)(g:m.kind≠3):∀x∈qed w m e,x.kind≠3:=by
 unfold qed
 split
 ·intro x f
  rcases List.mem_append.1 f with f | f
  ·exact h x f
  ·rw[List.mem_singleton.1 f];exact g
 ·exact h
def qkg(x:Live):Nat:=if x.own then 1 else 0
def Pr.fails(P:Pr)(x:Live):Pr:=P.act (qkg x) ((P.en (qkg x)).fail x.h.id 1)
theorem Fails.step{x:Live}{l:List Live}(h:PInv K n P)(F:Fails (qdp false (x::l)) (qdp true (x::l)) P):((P.en (qkg x)).fail x.h.id 1).2.2=0∧Fails (qdp false l) (qdp true l) (P.fails x):=by
 obtain⟨g,o,wa,wb,sa,sb⟩:=F
 unfold Pr.fails qkg
 cases q:x.own with
 | false =>
  have t:qdp false (x::l)=x.h.id::qdp false l:=by have:=qs7 x l;rwa [q] at this
  have v:qdp true (x::l)=qdp true l:=qxr q l
  rw[t] at g
  rw[v] at o
  obtain⟨i,z,w,y⟩:=g.step h.prot.keys
  have f:=qni (c:=P.a) (r:=1) w (by decide)
  have f:(P.en 0).fail x.h.id 1=((P.a.removed i z false).say (qcq x.h.id 1),(qcq x.h.id 1).on P.a.s.ch,0):=f
  simp only[Bool.false_eq_true,if_false]
  rw[f]
  exact⟨rfl,⟨y,o,wa,qk9 (m:=(qcq x.h.id 1).on P.a.s.ch) (e:=0) wb (by show (5:Int)≠3;decide),sa,sb⟩⟩
 | true =>
  have t:qdp true (x::l)=x.h.id::qdp true l:=by have:=qs7 x l;rwa [q] at this
  have v:qdp false (x::l)=qdp false l:=qxr q l
  rw[t] at o
  rw[v] at g
  obtain⟨i,z,w,y⟩:=o.step h.prot.flip.keys
  have f:(P.en 1).fail x.h.id 1=((P.b.removed i z false).say (qcq x.h.id 1),(qcq x.h.id 1).on P.b.s.ch,0):=qni (c:=P.b) (r:=1) w (by decide)
  simp only[if_true]
  rw[f]
  exact⟨rfl,⟨g,y,qk9 (m:=(qcq x.h.id 1).on P.b.s.ch) (e:=0) wa (by show (5:Int)≠3;decide),wb,sa,sb⟩⟩
theorem Left.goOn{xs:List Live}(i:St8 xs)(h:Left xs []){ev:Nat}(l:ev<5):Left (qa8 (qz ev xs)) []:=by
 refine⟨fun y q m=> ?_,(fun _ h=>by cases h),List.nodup_nil⟩
 obtain⟨x,f,rfl⟩:=List.mem_map.1 (List.mem_filter.1 q).1
 have o:=i x f
 rcases h.all x f m with e | ⟨-,e⟩
 ·refine .inl ?_
  show 5≤qv x.state x.own ev
  rcases q9j o x.own l with g | ⟨g,-⟩<;>omega
 ·cases e
theorem Left.remove{xs:List Live}(h:Left xs []){i:Nat}{x:Live}{paid:Bool} : Left (xs.set i {x with state:=5,paid:=paid}) []:=by
 refine⟨fun y f g=> ?_,(fun _ h=>by cases h),List.nodup_nil⟩
 rcases List.mem_or_eq_of_mem_set f with f | rfl
 ·exact h.all y f g
 ·exact .inl (Int.le_refl _)
theorem Left.hears{c:Ch}{m:MsgV}(q:St8 c.xs)(h:Left c.xs [])(g:c.k.shutSaid=true)(E:Said K.ch m)(C:m.kind≠3)(f:(c.hears m).2.2=0):Left (c.hears m).1.xs []∧(c.hears m).1.k.shutSaid=true∧∀l∈(c.hears m).2.1,l.kind≠3:=by
 rw[qqj E] at f ⊢
 unfold Ch.hear at f ⊢
 by_cases t:qam m=false∨m.ch≠c.s.ch
 ·rw[if_pos t] at f;cases f
 rw[if_neg t,if_neg C] at f ⊢
 have nil:∀l∈([]:List MsgV),l.kind≠3:=fun l h=>by cases h
 by_cases v:m.kind=4
 ·rw[if_pos v] at f ⊢
  show Left (c.hearFulfill m).1.xs []∧(c.hearFulfill m).1.k.shutSaid=true∧_
  cases o:qb7 true m.id c.xs with
  | none=>rw[qjg o];exact⟨h,g,nil⟩
  | some p =>
   obtain⟨i,x⟩:=p
   rw[qjh o]
   split
   ·exact⟨h.remove,g,nil⟩
   ·exact⟨h,g,nil⟩
 rw[if_neg v] at f ⊢
 by_cases w:m.kind=5
 ·rw[if_pos w] at f ⊢
  show Left (c.hearFail m).1.xs []∧(c.hearFail m).1.k.shutSaid=true∧_
  cases o:qb7 true m.id c.xs with
  | none=>rw[qhz o];exact⟨h,g,nil⟩
  | some p =>
   obtain⟨i,x⟩:=p
   rw[qh0 o]
   exact⟨h.remove,g,nil⟩
 rw[if_neg w] at f ⊢
 by_cases y:m.kind=6
 ·rw[if_pos y] at f ⊢
  unfold Ch.hearSign at f ⊢
  split
  ·refine⟨(h.goOn q (ev:=3) (by decide)).goOn (qir q (ev:=3) (by decide)).2.2 (ev:=4) (by decide),?_,?_⟩
   ·show (((c.goOn 3).heardOne.goOn 4).k).shutSaid=true
    rw[qfq]
    show ((c.goOn 3).k).shutSaid=true
    rw[qfq]
    exact g
   ·intro l D
    rw[List.mem_singleton.1 D]
    show (7:Int)≠3
    decide
  ·exact⟨h,g,nil⟩
 rw[if_neg y] at f ⊢
 by_cases z:m.kind=7
 ·rw[if_pos z] at f ⊢
  show Left (c.hearRevoke m).1.xs []∧(c.hearRevoke m).1.k.shutSaid=true∧_
  unfold Ch.hearRevoke
  split
  ·refine⟨h.goOn q (ev:=2) (by decide),?_,nil⟩
   show (((c.shelved m).goOn 2).k).shutSaid=true
   rw[qfq]
   exact g
  ·exact⟨h,g,nil⟩
 rw[if_neg z] at f ⊢
 show Left c.hearShut.1.xs []∧c.hearShut.1.k.shutSaid=true∧_
 unfold Ch.hearShut
 split
 ·exact⟨h,g,nil⟩
 ·exact⟨h,g,nil⟩
theorem Left.signs{c:Ch}(g:St8 c.xs)(h:Left c.xs [])(f:c.k.shutSaid=true):Left c.sign.1.xs []∧c.sign.1.k.shutSaid=true∧c.sign.2.1.kind≠3:=by
 unfold Ch.sign
 split
 ·refine⟨h.goOn g (ev:=1) (by decide),?_,by show (6:Int)≠3;decide⟩
  show ((c.goOn 1).k).shutSaid=true
  rw[qfq]
  exact f
 ·exact⟨h,f,by show (0:Int)≠3;decide⟩
theorem q2b{a b:List MsgV}(f:∀x∈a,x.kind≠3)(g:∀x∈b,x.kind≠3):∀x∈a++b,x.kind≠3:=fun x i=>(List.mem_append.1 i).elim (f x) (g x)
theorem qw0(E:K.Ok):Stays K (Fails [] []):=by
 constructor
 ·intro n k P H z h F
  have v:=(h.side z).1
  obtain⟨a,b,wa,wb,bad⟩:=P
  obtain⟨q,t,f,g,sa,sb⟩:=F
  rcases (by omega:k=0∨k=1) with rfl | rfl
  ·cases wa with
   | nil=>exact⟨q,t,f,g,sa,sb⟩
   | cons m I =>
    obtain⟨w,y,-⟩:=v.hears E (by omega)
    obtain⟨i,l,o⟩:=Left.hears (c:=a) v.st8 q sa w (f m (List.mem_cons_self ..)) y
    exact⟨i,t,fun x C=>f x (List.mem_cons_of_mem _ C),q2b g o,l,sb⟩
  ·cases wb with
   | nil=>exact⟨q,t,f,g,sa,sb⟩
   | cons m I =>
    obtain⟨w,y,-⟩:=v.hears E (by omega)
    obtain⟨i,l,o⟩:=Left.hears (c:=b) v.st8 t sb w (g m (List.mem_cons_self ..)) y
    exact⟨q,i,q2b f o,fun x C=>g x (List.mem_cons_of_mem _ C),sa,l⟩
 ·intro n k P H z h F
  have D:=(h.side z).1.st8
  obtain⟨q,t,f,g,sa,sb⟩:=F
  rcases (by omega:k=0∨k=1) with rfl | rfl
  ·obtain⟨i,l,o⟩:=Left.signs (c:=P.a) D q sa
   exact⟨i,t,f,qk9 g o,l,sb⟩
  ·obtain⟨i,l,o⟩:=Left.signs (c:=P.b) D t sb
   exact⟨q,i,qk9 f o,g,sa,l⟩
theorem Fails.none(t:n<65535)(h:PInv K n P)(v:P.Rest)(F:Fails [] [] P):P.a.xs=[]∧P.b.xs=[]:=by
 have q:=quiet_of t h v
 have g:P.a.xs=[]:=by
  cases w:P.a.xs with
  | nil=>rfl
  | cons x l =>
   have f:x∈P.a.xs:=by rw[w];exact List.mem_cons_self ..
   have m:=(q.four x f).1
   exfalso
   cases i:x.own with
   | false=>rcases F.a.all x f i with e | ⟨-,e⟩;omega;cases e
   | true =>
    have o:qmc x∈P.b.xs:=q.mir.mem_iff.2 (List.mem_map.2 ⟨x,f,rfl⟩)
    have y:(qmc x).state=4:=m
    rcases F.b.all _ o (by show (!x.own)=false;rw[i];rfl) with e | ⟨-,e⟩
    ·omega
    ·cases e
 refine⟨g,?_⟩
 have:=q.mir.length_eq
 rw[g] at this
 exact List.length_eq_zero_iff.1 this
def q6h(P:Pr):Prop:=P.a.k.shutSaid=true∧P.b.k.shutSaid=true
theorem qln(c:Ch)(m:MsgV):(c.hears m).1.k.shutSaid=c.k.shutSaid:=by
 unfold Ch.hears
 split
 ·split<;>rfl
 ·unfold Ch.hear
  split
  ·rfl
  split
  ·unfold Ch.hearAdd;split<;>rfl
  split
  ·unfold Ch.hearFulfill
   split
   ·rfl
   ·split<;>rfl
  split
  ·unfold Ch.hearFail
   split<;>rfl
  split
  ·unfold Ch.hearSign
   split
   ·show (((c.goOn 3).heardOne.goOn 4).k).shutSaid=_
    rw[qfq]
    show ((c.goOn 3).k).shutSaid=_
    rw[qfq]
   ·rfl
  split
  ·unfold Ch.hearRevoke
   split
   ·show (((c.shelved m).goOn 2).k).shutSaid=_
    rw[qfq]
    rfl
   ·rfl
  unfold Ch.hearShut
  split<;>rfl
theorem qlo(c:Ch):c.sign.1.k.shutSaid=c.k.shutSaid:=by
 unfold Ch.sign
 split
 ·show ((c.goOn 1).k).shutSaid=_
  rw[qfq]
 ·rfl
theorem q1p:Stays K q6h:=by
 constructor
 ·intro n k P _ f _ h
  obtain⟨a,b,wa,wb,bad⟩:=P
  rcases (by omega:k=0∨k=1) with rfl | rfl
  ·cases wa with
   | nil=>exact h
   | cons m g=>exact⟨(qln a m).trans h.1,h.2⟩
  ·cases wb with
   | nil=>exact h
   | cons m g=>exact⟨h.1,(qln b m).trans h.2⟩
 ·intro n k P _ f _ h
  rcases (by omega:k=0∨k=1) with rfl | rfl
  ·exact⟨(qlo P.a).trans h.1,h.2⟩
  ·exact⟨h.1,(qlo P.b).trans h.2⟩
end
end Go.Proofs.YtjpmomdechibmaaGreatDoor
