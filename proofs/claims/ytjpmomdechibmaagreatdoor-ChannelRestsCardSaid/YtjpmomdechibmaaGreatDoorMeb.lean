/-
  The protocol, plain: a Sign that is heard keeps the invariant.
-/
import Derived.Test.YtjpmomdechibmaaGreatDoorMea
set_option linter.unusedVariables false
set_option linter.unusedSimpArgs false
namespace Go.Proofs.YtjpmomdechibmaaGreatDoor
open Go.RowKit
section
variable {K:Kon}{n:Nat}{s t:Bool}{c d:Ch}{eo ei es:List En}{G:List Gi}{la nu lb nv:List Nat}{g g':Gi}{j:Nat}
theorem zaa(o:K.Ok)(ea:EndI K s c G nu)(eb:EndI K (!s) d G nv)(it:∀g∈G,g.it s (qk eo) (qk ei)∈qav)(ok:∀g∈G,GiOk K.ch g)(pw:(G.map Gi.pk).Pairwise Apt)(E:qy6 (qk ei)=true)(q:∀g∈G,Gi.pend (!s) g=true→g.cov=false)(f:Int) :
  z8 true c.s.peer c.s.ch f c.loc c.rem (qz 3 c.xs)=z8 false d.s.key d.s.ch f d.loc d.rem d.xs:=by
 have x:=qka ok
 have F:=o.cap
 have H:=o.sum s
 have w:=o.sum (!s)
 rw[Bool.not_not] at w
 obtain⟨U,V⟩:=ea.tag o (qep it s) x
 obtain⟨C,D⟩:=eb.tag o (qep it (!s)) x
 have I:z8 true c.s.peer c.s.ch f c.loc c.rem (qz 3 c.xs)=z8 true c.s.peer c.s.ch f (c.goOn 3).loc (c.goOn 3).rem (c.goOn 3).xs :=
  (qfy _ _ _ (qtv true (qz 3 c.xs) c) (qqq true (qz 3 c.xs))).symm
 have M:c.s.peer=d.s.key:=by
  rw[ea.set,eb.set,o.key (!s),Bool.not_not]
 have J:c.s.ch=d.s.ch:=by rw[ea.set,eb.set,o.ch,o.ch]
 rw[I,M,J]
 have cl:=qh8 (qs s) 3 G x
 have T:=qjc (qs s) ((qs s).on 3) G (L:=(K.S s).ours) (R:=(K.S (!s)).ours) (fun g i=>qlx (qep it s g i)) x cl.1 cl.2 (by rw[←ea.loc];exact ea.pos.1) (by rw[←ea.rem];exact ea.pos.2)
 obtain⟨N,O,P⟩:=qib (qs s) 3 G ea.perm ea.loc ea.rem (qex (qs s) x ea.perm) ea.pos.1 ea.pos.2 (by omega) (by omega)
 have y:=eb.loc
 have m:=eb.rem
 rw[Bool.not_not] at m
 have W:=ze3 (qs (!s)) false (G:=G) x
 have X:=ze6 (qs (!s)) false (qep it (!s)) x
 refine q57 (va:=qs (!s)) (vb:=(qs s).on 3) (L:=(K.S (!s)).ours) (R:=(K.S s).ours) ⟨?_,fun _ _=>rfl,fun _ _=>rfl,qep it (!s),fun g i=>qlx (qep it s g i),?_⟩ d.s.key d.s.ch f eb.perm N y m O P ⟨C.1,by omega⟩ ⟨D.1,by omega⟩ ⟨by omega,by omega⟩ ⟨by omega,by omega⟩ ⟨by omega,by omega⟩ ⟨by omega,by omega⟩ ?_
 ·intro g _
  show (g.own==s) = !(g.own == !s)
  cases g.own<;>cases s<;>rfl
 ·intro g i
  show tvC true (g.own==s) (zm (if g.own=s then g.so else g.st) (g.own==s) 3) g.paid=tvC false (g.own == !s) (if g.own = !s then g.so else g.st) g.paid
  have z:=it g i
  rcases za g.own s with e | e
  ·rw[qdd e] at z
   rw[if_pos e,if_neg (qg6 e),show (g.own==s)=true by rw[e];simp,show (g.own == !s)=false by rw[e];simp]
   refine q1a _ z g.paid E ?_
   rintro ⟨v,l⟩
   have v:g.up=2:=v
   have l:g.cov=true:=l
   rw[q g i (by unfold Gi.pend;rw[e,v];simp)] at l
   cases l
  ·rw[qdj e] at z
   rw[if_pos e,if_neg (qbv e),show (g.own==s)=false by rw[e];simp,show (g.own == !s)=true by rw[e];simp]
   refine q1b _ z g.paid E ?_
   rintro ⟨v,l⟩
   have v:g.up=1:=v
   have l:g.cov=true:=l
   rw[q g i (by unfold Gi.pend;rw[e,v];simp)] at l
   cases l
 ·exact qhw.perm (zbq (!s) false pw fun g i=>⟨(qft it g i).1.1,fun e=>((qft it g i).2.2.1 e).1⟩) (qlw false eb.perm.symm)
theorem zd7(c:Ch)(ch m:Int)(T:List Int):qh1 c ⟨6,ch,0,0,T,0,m⟩=(T != z8 true c.s.peer c.s.ch m c.loc c.rem (qz 3 c.xs)):=by unfold qh1;rfl
theorem qqh{P:Pt}(hK:K.Ok)(h:Inv K n P)(he:P.ei = .sgn::es):Hears K n P P.d.sgnOf (msE (!P.s) P.d P.G es):=by
 obtain⟨s,c,d,eo,ei,G,la,nu,lb,nv⟩:=P
 obtain⟨ea,eb,ab,ba,it,ok,pw,few⟩:=h
 simp only at ea eb ab ba it ok pw few he ⊢
 have c6:d.s.ch=K.ch:=by rw[eb.set];exact hK.ch _
 have b7:c.s.ch=K.ch:=by rw[ea.set];exact hK.ch _
 have b5:=ba.w9
 rw[he] at b5
 have C:=qgo b5
 rw[←he] at C
 have Z:qas (qk ei)=true:=by rcases C with ⟨-,e⟩ | ⟨-,e⟩<;>rw[e]<;>rfl
 have T:qy6 (qk ei)=true:=by rcases C with ⟨-,e⟩ | ⟨-,e⟩<;>rw[e]<;>rfl
 have O:qas (qk es)=false:=by rcases C with ⟨e,-⟩ | ⟨e,-⟩<;>rw[e]<;>rfl
 have X:qk es≠9:=by rcases C with ⟨e,-⟩ | ⟨e,-⟩<;>rw[e]<;>decide
 have a8:qbq (qk es)=qbq (qk ei):=by rcases C with ⟨e,N⟩ | ⟨e,N⟩<;>rw[e,N]<;>rfl
 have d1:q6f (qk ei)=qk es:=by rcases C with ⟨e,N⟩ | ⟨e,N⟩<;>rw[e,N]<;>rfl
 have Y:qbq (qk eo)=false:=ba.xor Z
 have a9:qk eo=0∨qk eo=1:=zdr (qgb eo ab.w9) Y
 have z:qk (eo++[.rev])=qvz (qk eo):=qt5 eo a9
 have b4:qbb G es:=by have:=ba.along;rw[he] at this;exact this
 have I:ups ei=ups es:=by rw[he];rfl
 have nn:=qka ok
 have m:=qft it
 have d2:=hK.cap
 have d3:=hK.sum s
 have F:=ba.sig
 rw[Z] at F
 replace F:d.k.signed=c.k.heard+1:=by simpa using F
 have E:∀g∈G,Gi.pend (!s) g=true→g.cov=false:=by
  intro g o hp
  obtain⟨j,hj⟩:=List.getElem?_of_mem o
  have c8:j∈ups es:=by rw[←I];exact(ba.upd.iff j).2 ⟨g,hj,hp⟩
  have c5:∀e:List En,qk e≠9→qas (qk e)=false→qbb G e→j∈ups e→g.cov=false:=by
   intro e
   induction e with
   | nil=>intro _ _ _ h;cases h
   | cons x e ih =>
    intro h9 hS ha hm
    obtain⟨k9,kS⟩:=qrx h9 hS
    cases x with
    | upd i =>
     rcases List.mem_cons.1 hm with N | hm
     ·subst N
      rw[(ha.1 g hj).1]
      exact kS
     ·exact ih k9 kS ha.2 hm
    | sgn=>exact ih k9 kS ha hm
    | rev=>exact ih k9 kS ha hm
    | shut=>exact ih k9 kS ha hm
  exact c5 es X O b4 c8
 have c2:=zaa hK ea eb it ok pw T E d.k.signed
 have b8:qaj 3 c.xs=true:=by
  obtain⟨g,o,U⟩:=ba.ex Z
  have hi:=it g o
  unfold Gi.moved at U
  have key:(0≤(if g.own=s then g.so else g.st)∧(if g.own=s then g.so else g.st)≤8)∧qv (if g.own=s then g.so else g.st) (g.own==s) 3≠if g.own=s then g.so else g.st:=by
   rcases za g.own s with e | e
   ·rw[qdd e] at hi
    rw[e] at U
    rw[if_pos e,show (g.own==s)=true by rw[e];simp]
    refine q5k _ hi T ?_ (by simpa using U)
    rintro ⟨D,v⟩
    have D:g.up=2:=D
    have v:g.cov=true:=v
    rw[E g o (by unfold Gi.pend;rw[e,D];simp)] at v
    cases v
   ·rw[qdj e] at hi
    rw[e] at U
    rw[if_neg (qbv e),show (g.own==s)=false by rw[e];simp]
    refine q5l _ hi T ?_ (by simpa using U)
    rintro ⟨D,v⟩
    have D:g.up=1:=D
    have v:g.cov=true:=v
    rw[E g o (by unfold Gi.pend;rw[e,D];simp)] at v
    cases v
  unfold qaj
  rw[List.any_eq_true]
  refine⟨⟨g.h,g.own==s,if g.own=s then g.so else g.st,g.paid&&decide (5≤if g.own=s then g.so else g.st)⟩,ea.perm.symm.subset (List.mem_filterMap.2 ⟨g,o,?_⟩),?_⟩
  ·show qaw (g.own==s) g.h (if g.own=s then g.so else g.st) g.paid=_
   unfold qaw
   rw[if_pos key.1]
  ·unfold chg
   simpa using key.2
 have w:Said K.ch d.sgnOf:=qyr hK.chb c6 eb.nums.2.1
 have e1:c.hear d.sgnOf=(c.signedBy,[c.signedBy.revocation],0):=by
  rw[zbh w.may (by rw[b7];exact w.ch) rfl]
  refine qlm b8 F ?_
  have:qh1 c d.sgnOf=(z8 false d.s.key d.s.ch d.k.signed d.loc d.rem d.xs != z8 true c.s.peer c.s.ch d.k.signed c.loc c.rem (qz 3 c.xs)):=by unfold Ch.sgnOf;rw[zd7]
  rw[this,c2]
  exact bne_self_eq_false _
 have cl:=qh8 (qs s) 3 G nn
 have b6:=qjc (qs s) ((qs s).on 3) G (L:=(K.S s).ours) (R:=(K.S (!s)).ours) (fun g o=>qlx (qep it s g o)) nn cl.1 cl.2 (by rw[←ea.loc];exact ea.pos.1) (by rw[←ea.rem];exact ea.pos.2)
 have b3:=qh8 ((qs s).on 3) 4 G nn
 have a4:=qjc ((qs s).on 3) (((qs s).on 3).on 4) G (L:=(K.S s).ours) (R:=(K.S (!s)).ours) (fun g o=>qlx (qlx (qep it s g o))) nn b3.1 b3.2 b6.1.1 b6.2.1
 obtain⟨s1,s2,s3,J,s5,s6,s7,s8⟩:=qsg (qs s) G nn ea.perm ea.loc ea.rem ea.pos.1 ea.pos.2 (by omega) (by omega) (by omega) (by omega)
 have c7:c.rem≤c.signedBy.rem:=by rw[s3,ea.rem];omega
 obtain⟨m1,m2,m3⟩:=qkw (hsG s) (qs s) (((qs s).on 3).on 4) (G:=G) fun g _=>⟨rfl,by
  show (if g.own=s then (hsG s g).so else (hsG s g).st)=zm (zm (if g.own=s then g.so else g.st) (g.own==s) 3) (g.own==s) 4
  rcases za g.own s with e | e
  ·rw[if_pos e,if_pos e,(qel e).1,e];simp
  ·rw[if_neg (qbv e),if_neg (qbv e),(qe7 e).2,e];simp,rfl,rfl⟩
 have a6:=qsf ea.perm s5 (by rw[J])
 obtain⟨-,a5⟩:=qrh hK.chb (c:=c.signedBy) (by rw[s5];exact b7) (by rw[J];obtain⟨n1,-,-⟩:=ea.nums;obtain⟨-,n2,-⟩:=eb.nums;show 1≤c.k.heard+1∧c.k.heard+1≤65536;omega) (by rw[s5,ea.set];exact hK.seed s)
 clear c2
 generalize c4:d.sgnOf=M at w e1 ⊢
 clear c4
 have f2:(c.hear M).2.1=[c.signedBy.revocation]:=by rw[e1]
 have f3:(c.hear M).2.2=0:=by rw[e1]
 have f1:(c.hear M).1=c.signedBy:=by rw[e1]
 refine⟨w,f3,?_,fun l hl=> ?_,?_⟩
 ·show ∃P',Goes K n ⟨s,c,d,eo,ei,G,la,nu,lb,nv⟩ (c.hear M).1 (msE s c G eo++(c.hear M).2.1) (msE (!s) d G es) P'
  rw[f1,f2]
  clear f1 f2 f3 e1 w
  clear a5
  generalize c.signedBy=c' at *
  have ho:∀k,k=0∨k=1→∀g∈G,oGe s k (hsG s g)=oGe s k g:=fun k hk g o=>by
   unfold oGe
   rw[show (hsG s g).own=g.own from rfl]
   rcases za g.own s with e | e
   ·have v:=(qd2 (m g o).1).1
    rw[(qel e).1]
    rcases hk with rfl | rfl
    ·rw[show decide ((0:Int)≤_)=decide ((0:Int)≤g.so) from v 0]
    ·rw[show decide ((1:Int)≤_)=decide ((1:Int)≤g.so) from v 1]
   ·rw[e];simp
  have d4:∀k,∀g∈G,oGe (!s) k (hsG s g)=oGe (!s) k g:=fun k g o=>by
   unfold oGe
   rw[show (hsG s g).own=g.own from rfl]
   rcases za g.own s with e | e
   ·rw[e];simp
   ·rw[(qe7 e).1]
  have d0:∀k,∀g∈G,pGe s k (hsG s g)=pGe s k g:=fun k g o=>by
   unfold pGe
   rw[show (hsG s g).own=g.own from rfl]
   rcases za g.own s with e | e
   ·rw[(qel e).2]
   ·rw[e];simp
  have c9:∀g∈G,pGe (!s) 0 (hsG s g)=pGe (!s) 0 g:=fun g o=>by
   unfold pGe
   rw[show (hsG s g).own=g.own from rfl]
   rcases za g.own s with e | e
   ·rw[e];simp
   ·rw[(qe7 e).2,(qd2 (m g o).2.1).2.2.2.2.2.2.2.2.1]
  have q:∀k:Nat,((G.map (hsG s))[k]?).map Gi.key=(G[k]?).map Gi.key:=fun k=>qmh (f:=hsG s) (fun g=>rfl) G k
  have b9:∀g∈G,Gi.covd s (hsG s g)=Gi.covd s g:=fun g o=>by
   unfold Gi.covd
   rw[show (hsG s g).own=g.own from rfl]
   rcases za g.own s with e | e
   ·rw[(qel e).1,(qd2 (m g o).1).2.2.2.1,e];simp
   ·rw[(qe7 e).2,(qd2 (m g o).2.1).2.2.2.2.1,e];simp
  have c1:∀g∈G,Gi.moved s (hsG s g)=Gi.moved s g:=fun g o=>by
   unfold Gi.moved
   rw[show (hsG s g).own=g.own from rfl]
   rcases za g.own s with e | e
   ·rw[(qel e).1,(qd2 (m g o).1).2.2.2.1,(qd2 (m g o).1).2.2.2.2.2.1,e];simp
   ·rw[(qe7 e).2,(qd2 (m g o).2.1).2.2.2.2.1,(qd2 (m g o).2.1).2.2.2.2.2.2.1,e];simp
  have hu:ups (eo++[.rev])=ups eo:=by rw[qgm];exact List.append_nil _
  refine⟨⟨s,c',d,eo++[.rev],es,G.map (hsG s),la,nu,lb,nv⟩,⟨?_,?_,?_,?_,?_,?_,?_,?_⟩,rfl,rfl,rfl,?_,?_⟩
  ·refine⟨s5.trans ea.set,by rw[m1];exact s1,by rw[m2];exact s2,by rw[m3];exact s3,⟨by rw[s2];exact a4.1.1,by rw[s3];exact a4.2.1⟩,?_,?_,?_,ea.nuS.map _ ?_,?_,?_,?_,by rw[s8];exact ea.shelf,?_⟩
   ·rw[J,qbf (ho 0 (.inl rfl))];exact ea.nOwn
   ·rw[J,qbf c9];exact ea.nTh
   ·rw[qbf (ho 1 (.inr rfl))]
    intro y hy e1 e2
    obtain⟨g,o,rfl⟩:=List.mem_map.1 hy
    have c0:g.own=s:=e1
    refine ea.low g o c0 ?_
    rw[(qel c0).1] at e2
    have v:=(qd2 (m g o).1).1 1
    have v:decide ((1:Int)≤zm (zm g.so true 3) true 4)=decide ((1:Int)≤g.so):=v
    rw[decide_eq_true e2] at v
    simpa using v.symm
   ·intro g o
    unfold Gi.unsg
    rw[show (hsG s g).own=g.own from rfl]
    rcases za g.own s with e | e
    ·rw[(qel e).1,(qd2 (m g o).1).2.1,e];simp
    ·rw[(qe7 e).2,(qd2 (m g o).2.1).2.2.1,e];simp
   ·rw[qbf (ho 1 (.inr rfl)),J]
    exact ea.nuI.congr fun k _=>q k
   ·rw[s6,ea.news]
    exact(qbz s5 fun k _=>q k).symm
   ·show cnt (qbi s) (G.map (hsG s))≤8
    rw[qbf fun g o=> ?_]
    ·exact ea.many
    ·unfold qbi
     rw[show (hsG s g).own=g.own from rfl]
     rcases za g.own s with e | e
     ·have v:=(qd2 (m g o).1).1 0
      have v:decide ((0:Int)≤zm (zm g.so true 3) true 4)=decide ((0:Int)≤g.so):=v
      rw[(qel e).1,v,(qd2 (m g o).1).2.2.2.2.2.2.2.1]
     ·rw[e];simp
   ·rw[J]
    obtain⟨n1,n2,n3⟩:=ea.nums
    exact⟨by show 0≤c.k.heard+1;omega,n2,n3⟩
  ·refine eb.mapS (fun _=>rfl) (fun _=>rfl) (fun _=>rfl) (fun g o=> ?_) fun _=>rfl
   show (if g.own = !s then (hsG s g).so else (hsG s g).st)=if g.own = !s then g.so else g.st
   rcases za g.own s with e | e
   ·rw[if_neg (qg6 e),if_neg (qg6 e),(qel e).2]
   ·rw[if_pos e,if_pos e,(qe7 e).1]
  ·have H:qas (qvz (qk eo))=qas (qk eo)∧qbq (qvz (qk eo))=true∧qvz (qk eo)≠9∧qvz (qk eo)≠4:=by
    rcases a9 with e | e<;>rw[e]<;>decide
   refine⟨by rw[z];exact H.2.2.1,?_,?_,?_,?_,?_,?_,?_,?_,?_,by rw[s7];exact ab.last,?_,?_,?_⟩
   ·rw[z,H.1,a8];exact ab.xor
   ·rw[z,H.1,J];exact ab.sig
   ·rw[z,H.1,a8,J];exact ab.aw
   ·intro _;rw[J]
   ·rw[z];exact fun e=>absurd e H.2.2.2
   ·rw[hu];exact ab.upd.map _ fun g _=>rfl
   ·refine ab.along.rev ab.w9 Y fun j hj g o=>⟨rfl,?_⟩
    show (if Gi.pend s g=true then true else g.pre)=true
    rw[if_pos (ab.upd.yes hj o)]
   ·rw[hu,J]
    exact ab.ids.congr fun k _=>q k
   ·rw[z,H.1]
    intro e
    obtain⟨i1,i2,i3⟩:=ab.laS e
    refine⟨i1.map _ b9,?_,?_⟩
    ·rw[qbf (d0 1),qbf (ho 1 (.inr rfl))]
     exact i2.congr fun k _=>q k
    ·rw[s7,i3,a6]
     congr 1
     exact(qbz s5 fun k _=>q k).symm
   ·rw[J]
    exact qbe.snoc (by intro e;cases e) (fun _ _ e=>by cases e) (ab.shut.congr fun k _=>q k)
   ·intro _
    have D:=q9f it Y nn
    have v:amt (qai s) (G.map (hsG s))=amt (ql7 s) G:=by
     rw[ql8]
     refine qd1 fun g o=> ?_
     have:qai s (hsG s g)=ql7 s g:=by
      unfold qai ql7
      show (g.own==s&&(g.up==1&&if Gi.pend s g=true then true else g.pre))=_
      rcases za g.own s with e | e
      ·rw[qip e]
       cases h:(g.up==1)<;>simp
      ·rw[e];simp
     rw[this]
     rfl
    rw[v]
    have h3:=ea.loc
    have h4:=eb.rem
    rw[Bool.not_not] at h4
    have h5:=ea.pos.1
    show _≤d.rem
    omega
   ·rw[z,H.1]
    exact fun e=>qux (fun g o h=>(c1 g o).trans h) (ab.ex e)
  ·refine⟨X,fun e=>(by rw[O] at e;cases e),?_,?_,fun e=> ?_,fun e=> ?_,?_,?_,?_,fun e=>(by rw[O] at e;cases e),ba.last,?_,fun e=> ?_,fun e=>(by rw[O] at e;cases e)⟩
   ·rw[O,J,F]
    show c.k.heard+1=c.k.heard+1+if false=true then 1 else 0
    simp
   ·rw[ba.aw,Z,O,z]
    rcases a9 with e | e<;>rw[e]<;>rfl
   ·rcases C with ⟨N,-⟩ | ⟨N,-⟩<;>rw[N] at e<;>cases e
   ·rcases C with ⟨N,-⟩ | ⟨N,-⟩<;>rw[N] at e<;>cases e
   ·rw[←I];exact ba.upd.map _ fun g _=>rfl
   ·refine qk3 b4 fun j hj g o=>⟨rfl,?_⟩
    have hp:=ba.upd.yes (by rw[I];exact hj) o
    show (if Gi.pend s g=true then true else g.pre)=g.pre
    rw[if_neg]
    intro W
    unfold Gi.pend at hp W
    rcases za g.own s with e | e
    ·rw[e] at hp W;simp at hp W;omega
    ·rw[e] at hp W;simp at hp W;omega
   ·rw[J]
    have:=ba.ids
    rw[I] at this
    exact this.congr fun k _=>q k
   ·rw[J]
    have:=ba.shut
    rw[he] at this
    have this:qbe G (!s) d.k.shutSaid c.k.shutHeard es:=this
    exact this.congr fun k _=>q k
   ·have D:=ba.m1 (by rw[←a8];exact e)
    have v:amt (qai (!s)) (G.map (hsG s))=amt (qai (!s)) G:=by
     rw[ql8]
     refine qd1 fun g o=> ?_
     have:qai (!s) (hsG s g)=qai (!s) g:=by
      unfold qai
      show (g.own == !s&&(g.up==1&&if Gi.pend s g=true then true else g.pre))=_
      rcases za g.own s with e | e
      ·rw[e];simp
      ·rw[qmw e]
       by_cases c3:g.up=1
       ·rw[c3];simp
       ·have:(g.up==1)=false:=by simpa using c3
        rw[this];simp
     rw[this]
     rfl
    rw[v]
    show _≤c'.rem
    omega
  ·intro y hy
   show y.it s (qk (eo++[.rev])) (qk es)∈qav
   obtain⟨g,o,rfl⟩:=List.mem_map.1 hy
   have hi:=it g o
   rw[z,←d1]
   rcases za g.own s with e | e
   ·rw[qdd (g:=hsG s g) (s:=s) e,(qel e).1,(qel e).2,(qd2 (m g o).1).2.2.2.2.2.2.2.2.2.1]
    rw[qdd e] at hi
    refine qvj _ hi T ?_
    rintro ⟨D,v⟩
    have D:g.up=2:=D
    have v:g.cov=true:=v
    rw[E g o (by unfold Gi.pend;rw[e,D];simp)] at v
    cases v
   ·rw[qdj (g:=hsG s g) (s:=s) e,(qe7 e).1,(qe7 e).2,(qd2 (m g o).2.1).2.2.2.2.2.2.2.2.2.2]
    rw[qdj e] at hi
    refine qvk _ hi T ?_
    rintro ⟨D,v⟩
    have D:g.up=1:=D
    have v:g.cov=true:=v
    rw[E g o (by unfold Gi.pend;rw[e,D];simp)] at v
    cases v
  ·intro y hy
   obtain⟨g,o,rfl⟩:=List.mem_map.1 hy
   have V:=ok g o
   refine⟨V.id,V.amount,V.hash,V.expiry,fun e=> ?_⟩
   refine V.um ?_
   rcases za g.own s with a7 | a7
   ·rw[(qel a7).2] at e
    exact e
   ·rw[(qe7 a7).2] at e
    have h5:=(qd2 (m g o).2.1).2.2.1
    have h6:=(qd2 (m g o).2.1).2.2.2.2.1
    rcases e with e | e
    ·rw[e] at h5;exact .inl (by simpa using h5.symm)
    ·rw[e] at h6;exact .inr (by simpa using h6.symm)
  ·show ((G.map (hsG s)).map Gi.pk).Pairwise Apt
   rw[q07 fun g o=> ?_]
   ·exact pw
   ·unfold Gi.pk
    rcases za g.own s with e | e
    ·have v:=(qd2 (m g o).1).1 0
     have v:decide ((0:Int)≤zm (zm g.so true 3) true 4)=decide ((0:Int)≤g.so):=v
     rw[(qel e).1,v];rfl
    ·rw[(qe7 e).1];rfl
  ·show (G.map (hsG s)).length≤n
   rw[List.length_map]
   omega
  ·show msE s c' (G.map (hsG s)) (eo++[.rev])=msE s c G eo++[c'.revocation]
   unfold msE
   rw[List.map_append]
   congr 1
   exact qc9 ab.w9 s5 (fun k _=>q k) (fun _=>a6) (fun e=>by rw[Y] at e;cases e)
  ·exact qc9 X rfl (fun k _=>q k) (fun _=>rfl) (fun _=>rfl)
 ·have hl:l∈(c.hear M).2.1:=hl
  rw[f2] at hl
  rw[List.mem_singleton.1 hl]
  exact a5.ok
 ·show (c.hear M).2.1.length≤1
  rw[f2]
  exact Nat.le_refl _
end
theorem qje:∀ {x:Int},-1≤x∧x≤9→(∀k:Fin 2,∀m:Bool,decide ((k.val:Int)≤zm x m 2)=decide ((k.val:Int)≤x))∧(zm x true 2==0)=(x==0)∧(zm x false 2==5)=(x==5)∧(zm x true 2≤8→x≤8)∧(zm x false 2=5∨zm x false 2=6→x=5∨x=6) :=
 qlt (p:=fun x=>(∀k:Fin 2,∀m:Bool,decide ((k.val:Int)≤zm x m 2)=decide ((k.val:Int)≤x))∧(zm x true 2==0)=(x==0)∧(zm x false 2==5)=(x==5)∧(zm x true 2≤8→x≤8)∧(zm x false 2=5∨zm x false 2=6→x=5∨x=6)) (by decide +kernel)
def rvG(s:Bool)(g:Gi):Gi:= {g with so:=if g.own=s then zm g.so true 2 else g.so,st:=if g.own=s then g.st else zm g.st false 2}
section
variable {K:Kon}{n:Nat}{s t:Bool}{c d:Ch}{eo ei es:List En}{G:List Gi}{la nu lb nv:List Nat}{g g':Gi}{j:Nat}
theorem qeo{g:Gi}(h:g.own=s):(rvG s g).so=zm g.so true 2∧(rvG s g).st=g.st:=by unfold rvG;simp only[h,if_true];exact⟨trivial,trivial⟩
theorem qfc{g:Gi}(h:g.own = !s):(rvG s g).so=g.so∧(rvG s g).st=zm g.st false 2:=by unfold rvG;simp only[if_neg (qbv h)];exact⟨trivial,trivial⟩
theorem qr6{P:Pt}(V:K.Ok)(h:Inv K n P)(Y:P.ei = .rev::es):Hears K n P P.d.revocation (msE (!P.s) P.d P.G es):=by
 obtain⟨s,c,d,eo,ei,G,la,nu,lb,nv⟩:=P
 obtain⟨ea,eb,ab,ba,it,ok,pw,few⟩:=h
 simp only at ea eb ab ba it ok pw few Y ⊢
 have b7:d.s.ch=K.ch:=by rw[eb.set];exact V.ch _
 have b6:c.s.ch=K.ch:=by rw[ea.set];exact V.ch _
 have a7:=ba.w9
 rw[Y] at a7
 have v:=qgn a7
 rw[←Y] at v
 have W:qbq (qk ei)=true:=by rcases v with ⟨-,e⟩ | ⟨-,e⟩<;>rw[e]<;>rfl
 have a4:ze1 (qk ei)=true:=by rcases v with ⟨-,e⟩ | ⟨-,e⟩<;>rw[e]<;>rfl
 have Z:qbq (qk es)=false:=by rcases v with ⟨e,-⟩ | ⟨e,-⟩<;>rw[e]<;>rfl
 have O:qk es≠9:=by rcases v with ⟨e,-⟩ | ⟨e,-⟩<;>rw[e]<;>decide
 have E:qas (qk es)=qas (qk ei):=by rcases v with ⟨e,D⟩ | ⟨e,D⟩<;>rw[e,D]<;>rfl
 have b9:q6f (qk ei)=qk es:=by rcases v with ⟨e,D⟩ | ⟨e,D⟩<;>rw[e,D]<;>rfl
 have C:qas (qk eo)=false:=by
  cases e:qas (qk eo) with
  | false=>rfl
  | true=>rw[ab.xor e] at W;cases W
 have b5:qbb G es:=by have:=ba.along;rw[Y] at this;exact this
 have N:ups ei=ups es:=by rw[Y];rfl
 have nn:=qka ok
 have m:=qft it
 have c0:=V.cap
 have c1:=V.sum s
 have a6:c.k.awaits=true:=by rw[ab.aw,W,Bool.or_true]
 have J:=ab.sig
 rw[C] at J
 replace J:c.k.signed=d.k.heard:=by simpa using J
 have c2:=ea.nums.2.2 a6
 have c3:=ea.nums.2.1
 obtain⟨er,q⟩:=qrh V.chb b7 (c:=d) (by omega) (by rw[eb.set];exact V.seed _)
 have X:d.s.seed=(K.S (!s)).seed:=by rw[eb.set]
 have H:d.revocation.number=d.k.heard-1:=by rw[er]
 have F:d.revocation.hash=(qc7 (K.S (!s)).seed (65535-(d.k.heard-1))).1:=by rw[er,X]
 have b3:qc3 (65535-(d.k.heard-1))=true:=q21 (by omega) (by omega)
 have T:c.hear d.revocation=(((c.shelved d.revocation).goOn 2).unawait,[],0):=by
  rw[zbi q.may (by rw[b6];exact q.ch) (by rw[er])]
  have:qjr c d.revocation=0:=by
   unfold qjr
   rw[if_neg (by rw[a6];decide),if_neg (by rw[H];omega),if_neg (by rw[H,F,zd9 b3 ea.shelf];decide)]
  unfold Ch.hearRevoke
  rw[if_pos this]
 have cl:=qh8 (qs s) 2 G nn
 have a8:=qjc (qs s) ((qs s).on 2) G (L:=(K.S s).ours) (R:=(K.S (!s)).ours) (fun g o=>qlx (qep it s g o)) nn cl.1 cl.2 (by rw[←ea.loc];exact ea.pos.1) (by rw[←ea.rem];exact ea.pos.2)
 obtain⟨s1,s2,s3,x,s5,s6,s7,s8⟩:=qvo d.revocation (qs s) G nn ea.perm ea.loc ea.rem ea.pos.1 ea.pos.2 (by omega) (by omega)
 have z:qpr (K.S (!s)).seed (((c.shelved d.revocation).goOn 2).unawait).shelf:=by
  rw[s8,H,F]
  exact q8c (V.seed (!s)).2 ea.shelf
 obtain⟨m1,m2,m3⟩:=qkw (rvG s) (qs s) ((qs s).on 2) (G:=G) fun g _=>⟨rfl,by
  show (if g.own=s then (rvG s g).so else (rvG s g).st)=zm (if g.own=s then g.so else g.st) (g.own==s) 2
  rcases za g.own s with e | e
  ·rw[if_pos e,if_pos e,(qeo e).1,e];simp
  ·rw[if_neg (qbv e),if_neg (qbv e),(qfc e).2,e];simp,rfl,rfl⟩
 generalize d.revocation=M at q T s1 s2 s3 x s5 s6 s7 s8 z ⊢
 have f1:(c.hear M).1=((c.shelved M).goOn 2).unawait:=by rw[T]
 have f2:(c.hear M).2.1=[]:=by rw[T]
 have f3:(c.hear M).2.2=0:=by rw[T]
 refine⟨q,f3,?_,fun l hl=> ?_,?_⟩
 ·show ∃P',Goes K n ⟨s,c,d,eo,ei,G,la,nu,lb,nv⟩ (c.hear M).1 (msE s c G eo++(c.hear M).2.1) (msE (!s) d G es) P'
  rw[f1,f2]
  clear f1 f2 f3 T q s8
  generalize ((c.shelved M).goOn 2).unawait=c' at *
  have ho:∀k,k=0∨k=1→∀g∈G,oGe s k (rvG s g)=oGe s k g:=fun k hk g o=>by
   unfold oGe
   rw[show (rvG s g).own=g.own from rfl]
   rcases za g.own s with e | e
   ·have w:=(qje (m g o).1).1
    rw[(qeo e).1]
    rcases hk with rfl | rfl
    ·rw[show decide ((0:Int)≤_)=decide ((0:Int)≤g.so) from w 0 true]
    ·rw[show decide ((1:Int)≤_)=decide ((1:Int)≤g.so) from w 1 true]
   ·rw[e];simp
  have b8:∀k,∀g∈G,oGe (!s) k (rvG s g)=oGe (!s) k g:=fun k g o=>by
   unfold oGe
   rw[show (rvG s g).own=g.own from rfl]
   rcases za g.own s with e | e
   ·rw[e];simp
   ·rw[(qfc e).1]
  have c4:∀k,∀g∈G,pGe s k (rvG s g)=pGe s k g:=fun k g o=>by
   unfold pGe
   rw[show (rvG s g).own=g.own from rfl]
   rcases za g.own s with e | e
   ·rw[(qeo e).2]
   ·rw[e];simp
  have b4:∀k,k=0∨k=1→∀g∈G,pGe (!s) k (rvG s g)=pGe (!s) k g:=fun k hk g o=>by
   unfold pGe
   rw[show (rvG s g).own=g.own from rfl]
   rcases za g.own s with e | e
   ·rw[e];simp
   ·have w:=(qje (m g o).2.1).1
    rw[(qfc e).2]
    rcases hk with rfl | rfl
    ·rw[show decide ((0:Int)≤_)=decide ((0:Int)≤g.st) from w 0 false]
    ·rw[show decide ((1:Int)≤_)=decide ((1:Int)≤g.st) from w 1 false]
  have i:∀k:Nat,((G.map (rvG s))[k]?).map Gi.key=(G[k]?).map Gi.key:=fun k=>qmh (f:=rvG s) (fun g=>rfl) G k
  have a5:∀t,amt (qai t) (G.map (rvG s))=amt (qai t) G:=fun t=>qwb (fun _ _=>rfl) fun _ _=>rfl
  refine⟨⟨s,c',d,eo,es,G.map (rvG s),la,nu,lb,nv⟩,⟨?_,?_,?_,?_,?_,?_,?_,?_⟩,rfl,rfl,rfl,?_,?_⟩
  ·refine⟨s5.trans ea.set,by rw[m1];exact s1,by rw[m2];exact s2,by rw[m3];exact s3,⟨by rw[s2];exact a8.1.1,by rw[s3];exact a8.2.1⟩,?_,?_,?_,ea.nuS.map _ ?_,?_,?_,?_,z,?_⟩
   ·rw[x,qbf (ho 0 (.inl rfl))];exact ea.nOwn
   ·rw[x,qbf (b4 0 (.inl rfl))];exact ea.nTh
   ·rw[qbf (ho 1 (.inr rfl))]
    intro y hy T e2
    obtain⟨g,o,rfl⟩:=List.mem_map.1 hy
    have a9:g.own=s:=T
    refine ea.low g o a9 ?_
    rw[(qeo a9).1] at e2
    have w:=(qje (m g o).1).1 1 true
    have w:decide ((1:Int)≤zm g.so true 2)=decide ((1:Int)≤g.so):=w
    rw[decide_eq_true e2] at w
    simpa using w.symm
   ·intro g o
    unfold Gi.unsg
    rw[show (rvG s g).own=g.own from rfl]
    rcases za g.own s with e | e
    ·rw[(qeo e).1,(qje (m g o).1).2.1,e];simp
    ·rw[(qfc e).2,(qje (m g o).2.1).2.2.1,e];simp
   ·rw[qbf (ho 1 (.inr rfl)),x]
    exact ea.nuI.congr fun k _=>i k
   ·rw[s6,ea.news]
    exact(qbz s5 fun k _=>i k).symm
   ·show cnt (qbi s) (G.map (rvG s))≤8
    rw[qf1]
    refine Int.le_trans (qls fun g o h=> ?_) ea.many
    unfold qbi at h ⊢
    rw[show (rvG s g).own=g.own from rfl] at h
    rcases za g.own s with e | e
    ·have w:=(qje (m g o).1).1 0 true
     have w:decide ((0:Int)≤zm g.so true 2)=decide ((0:Int)≤g.so):=w
     rw[(qeo e).1,w,e] at h
     have h3:=(qje (m g o).1).2.2.2.1
     simp at h
     rw[e]
     simp
     exact⟨h.1,h3 h.2⟩
    ·rw[e] at h;simp at h
   ·rw[x]
    obtain⟨n1,n2,-⟩:=ea.nums
    exact⟨n1,n2,fun e=>by cases e⟩
  ·refine eb.mapS (fun _=>rfl) (fun _=>rfl) (fun _=>rfl) (fun g o=> ?_) fun _=>rfl
   show (if g.own = !s then (rvG s g).so else (rvG s g).st)=if g.own = !s then g.so else g.st
   rcases za g.own s with e | e
   ·rw[if_neg (qg6 e),if_neg (qg6 e),(qeo e).2]
   ·rw[if_pos e,if_pos e,(qfc e).1]
  ·refine⟨ab.w9,fun e=>(by rw[C] at e;cases e),?_,?_,?_,?_,ab.upd.map _ fun g _=>rfl,qk3 ab.along fun _ _ _ _=>⟨rfl,rfl⟩,?_,fun e=>(by rw[C] at e;cases e),by rw[s7];exact ab.last,?_,fun e=> ?_,fun e=>(by rw[C] at e;cases e)⟩
   ·rw[x];exact ab.sig
   ·rw[x,C,Z];rfl
   ·rw[x];exact ab.rv3
   ·rw[x];exact ab.rv4
   ·rw[x];exact ab.ids.congr fun k _=>i k
   ·rw[x];exact ab.shut.congr fun k _=>i k
   ·rw[a5];exact ab.m1 e
  ·refine⟨O,fun e=> ?_,?_,?_,fun e=> ?_,fun e=> ?_,?_,qk3 b5 fun _ _ _ _=>⟨rfl,rfl⟩,?_,fun e=> ?_,ba.last,?_,fun e=>(by rw[Z] at e;cases e),fun e=> ?_⟩
   ·rw[E] at e;exact ba.xor e
   ·rw[E,x];exact ba.sig
   ·rw[E];exact ba.aw
   ·rcases v with ⟨D,-⟩ | ⟨D,-⟩<;>rw[D] at e<;>cases e
   ·rcases v with ⟨D,-⟩ | ⟨D,-⟩<;>rw[D] at e<;>cases e
   ·rw[←N];exact ba.upd.map _ fun g _=>rfl
   ·rw[x]
    have:=ba.ids
    rw[N] at this
    exact this.congr fun k _=>i k
   ·rw[E] at e
    obtain⟨i1,i2,i3⟩:=ba.laS e
    refine⟨i1.map _ fun g o=> ?_,?_,?_⟩
    ·unfold Gi.covd
     rw[show (rvG s g).own=g.own from rfl]
     rcases za g.own s with e | e
     ·rw[(qeo e).2,e];simp
     ·rw[(qfc e).1,e];simp
    ·rw[qbf (b4 1 (.inr rfl)),qbf (b8 1)]
     exact i2.congr fun k _=>i k
    ·rw[i3]
     congr 1
     exact(qbz rfl fun k _=>i k).symm
   ·rw[x]
    have:=ba.shut
    rw[Y] at this
    have this:qbe G (!s) d.k.shutSaid c.k.shutHeard es:=this
    exact this.congr fun k _=>i k
   ·rw[E] at e
    refine qux (fun g o h=> ?_) (ba.ex e)
    rw[←h]
    unfold Gi.moved
    rw[show (rvG s g).own=g.own from rfl]
    rcases za g.own s with e | e
    ·rw[(qeo e).2,e];simp
    ·rw[(qfc e).1,e];simp
  ·intro y hy
   show y.it s (qk eo) (qk es)∈qav
   obtain⟨g,o,rfl⟩:=List.mem_map.1 hy
   have hi:=it g o
   rw[←b9]
   rcases za g.own s with e | e
   ·rw[qdd (g:=rvG s g) (s:=s) e,(qeo e).1,(qeo e).2,(qhh (m g o).1 true).2.1]
    rw[qdd e] at hi
    exact qvh _ hi a4
   ·rw[qdj (g:=rvG s g) (s:=s) e,(qfc e).1,(qfc e).2,(qhh (m g o).2.1 false).2.1]
    rw[qdj e] at hi
    exact qvi _ hi a4
  ·intro y hy
   obtain⟨g,o,rfl⟩:=List.mem_map.1 hy
   have I:=ok g o
   refine⟨I.id,I.amount,I.hash,I.expiry,fun e=>I.um ?_⟩
   rcases za g.own s with U | U
   ·rw[(qeo U).2] at e
    exact e
   ·rw[(qfc U).2] at e
    exact(qje (m g o).2.1).2.2.2.2 e
  ·show ((G.map (rvG s)).map Gi.pk).Pairwise Apt
   rw[q07 fun g o=> ?_]
   ·exact pw
   ·unfold Gi.pk
    rcases za g.own s with e | e
    ·have w:=(qje (m g o).1).1 0 true
     have w:decide ((0:Int)≤zm g.so true 2)=decide ((0:Int)≤g.so):=w
     rw[(qeo e).1,w];rfl
    ·rw[(qfc e).1];rfl
  ·show (G.map (rvG s)).length≤n
   rw[List.length_map]
   omega
  ·show msE s c' (G.map (rvG s)) eo=msE s c G eo++[]
   rw[List.append_nil]
   exact qc9 ab.w9 s5 (fun k _=>i k) (fun e=>by rw[C] at e;cases e) (fun _=>qiq s5 (by rw[x]))
  ·exact qc9 O rfl (fun k _=>i k) (fun _=>rfl) (fun _=>rfl)
 ·have hl:l∈(c.hear M).2.1:=hl
  rw[f2] at hl
  cases hl
 ·show (c.hear M).2.1.length≤1
  rw[f2]
  exact Nat.zero_le _
theorem q4q{P:Pt}{x:En}(i:K.Ok)(h:Inv K n P)(o:n<1000000000)(f:P.ei=x::es):Hears K n P (enM (!P.s) P.d P.G x) (msE (!P.s) P.d P.G es):=by
 cases x with
 | sgn=>exact qqh i h f
 | rev=>exact qr6 i h f
 | shut=>exact qqg i h f
 | upd j =>
  have m:j∈ups P.ei:=by rw[f];exact List.mem_cons_self ..
  obtain⟨g,l,-⟩:=(h.ba.upd.iff j).1 m
  rcases za g.own P.s with e | e
  ·exact qr5 i h f l e
  ·exact qr4 i h o f l e
end
end Go.Proofs.YtjpmomdechibmaaGreatDoor
