/-
  The protocol, plain: a Sign that is heard keeps the invariant.
-/
import Derived.Test.YthnohmjbbeahmaaGreatDoorMdg
set_option linter.unusedVariables false
set_option linter.unusedSimpArgs false
namespace Go.Proofs.YthnohmjbbeahmaaGreatDoor
open Go.RowKit
section
variable {K:Kon}{n:Nat}{s t:Bool}{c d:Ch}{eo ei es:List En}{G:List Gi}{la nu lb nv:List Nat}{g g':Gi}{j:Nat}
theorem zeg(q:K.Ok)(ea:EndI K s c G nu)(eb:EndI K (!s) d G nv)(it:∀g∈G,g.it s (ql eo) (ql ei)∈qa3)(ok:∀g∈G,GiOk K.ch g)(pw:(G.map Gi.pk).Pairwise Apt)(F:q1y (ql ei)=true)(v:∀g∈G,Gi.pend (!s) g=true→g.cov=false)(i:Int) :
  zx true c.s.peer c.s.ch i c.loc c.rem (qv 3 c.xs)=zx false d.s.key d.s.ch i d.loc d.rem d.xs:=by
 have y:=qla ok
 have H:=q.cap
 have I:=q.sum s
 have x:=q.sum (!s)
 rw[Bool.not_not] at x
 obtain⟨bl,V⟩:=ea.tag q (qe7 it s) y
 obtain⟨D,E⟩:=eb.tag q (qe7 it (!s)) y
 have J:zx true c.s.peer c.s.ch i c.loc c.rem (qv 3 c.xs)=zx true c.s.peer c.s.ch i (c.goOn 3).loc (c.goOn 3).rem (c.goOn 3).xs :=
  (qgh _ _ _ (qv4 true (qv 3 c.xs) c) (qss true (qv 3 c.xs))).symm
 have N:c.s.peer=d.s.key:=by
  rw[ea.set,eb.set,q.key (!s),Bool.not_not]
 have M:c.s.ch=d.s.ch:=by rw[ea.set,eb.set,q.ch,q.ch]
 rw[J,N,M]
 have cl:=qi8 (qo s) 3 G y
 have U:=qj9 (qo s) ((qo s).on 3) G (L:=(K.S s).ours) (R:=(K.S (!s)).ours) (fun g l=>qnn (qe7 it s g l)) y cl.1 cl.2 (by rw[←ea.loc];exact ea.pos.1) (by rw[←ea.rem];exact ea.pos.2)
 obtain⟨O,P,T⟩:=qja (qo s) 3 G ea.perm ea.loc ea.rem (qfl (qo s) y ea.perm) ea.pos.1 ea.pos.2 (by omega) (by omega)
 have z:=eb.loc
 have o:=eb.rem
 rw[Bool.not_not] at o
 have W:=zjf (qo (!s)) false (G:=G) y
 have X:=zji (qo (!s)) false (qe7 it (!s)) y
 refine q9u (va:=qo (!s)) (vb:=(qo s).on 3) (L:=(K.S (!s)).ours) (R:=(K.S s).ours) ⟨?_,fun _ _=>rfl,fun _ _=>rfl,qe7 it (!s),fun g l=>qnn (qe7 it s g l),?_⟩ d.s.key d.s.ch i eb.perm O z o P T ⟨D.1,by omega⟩ ⟨E.1,by omega⟩ ⟨by omega,by omega⟩ ⟨by omega,by omega⟩ ⟨by omega,by omega⟩ ⟨by omega,by omega⟩ ?_
 ·intro g _;show (g.own==s) = !(g.own == !s);cases g.own<;>cases s<;>rfl
 ·intro g l;show tvC true (g.own==s) (zt (if g.own=s then g.so else g.st) (g.own==s) 3) g.paid=tvC false (g.own == !s) (if g.own = !s then g.so else g.st) g.paid;have C:=it g l;rcases za g.own s with e | e
  ·rw[qdp e] at C;rw[if_pos e,if_neg (qh7 e),show (g.own==s)=true by rw[e];simp,show (g.own == !s)=false by rw[e];simp];refine q39 _ C g.paid F ?_;rintro ⟨w,m⟩;have w:g.up=2:=w;have m:g.cov=true:=m;rw[v g l (by unfold Gi.pend;rw[e,w];simp)] at m;cases m
  ·rw[qdv e] at C;rw[if_pos e,if_neg (qb3 e),show (g.own==s)=false by rw[e];simp,show (g.own == !s)=true by rw[e];simp];refine q4a _ C g.paid F ?_;rintro ⟨w,m⟩;have w:g.up=1:=w;have m:g.cov=true:=m;rw[v g l (by unfold Gi.pend;rw[e,w];simp)] at m;cases m
 ·exact qiy.perm (zfz (!s) false pw fun g l=>⟨(qge it g l).1.1,fun e=>((qge it g l).2.2.1 e).1⟩) (qnj false eb.perm.symm)
theorem zin(c:Ch)(ch m:Int)(T:List Int):qg3 c ⟨6,ch,0,0,T,0,m⟩=(T != zx true c.s.peer c.s.ch m c.loc c.rem (qv 3 c.xs)):=by unfold qg3;rfl
theorem qsh{P:Pt}(hK:K.Ok)(h:Inv K n P)(he:P.ei = .sgn::es):Hears K n P P.d.sgnOf (msE (!P.s) P.d P.G es):=by
 obtain⟨s,c,d,eo,ei,G,la,nu,lb,nv⟩:=P;obtain⟨ea,eb,ab,ba,it,ok,pw,few⟩:=h;simp only at ea eb ab ba it ok pw few he ⊢;have c6:d.s.ch=K.ch:=by rw[eb.set];exact hK.ch _
 have b7:c.s.ch=K.ch:=by rw[ea.set];exact hK.ch _
 have b5:=ba.w9;rw[he] at b5;have C:=qhi b5;rw[←he] at C;have Y:qay (ql ei)=true:=by rcases C with ⟨-,e⟩ | ⟨-,e⟩<;>rw[e]<;>rfl
 have T:q1y (ql ei)=true:=by rcases C with ⟨-,e⟩ | ⟨-,e⟩<;>rw[e]<;>rfl
 have O:qay (ql es)=false:=by rcases C with ⟨e,-⟩ | ⟨e,-⟩<;>rw[e]<;>rfl
 have W:ql es≠9:=by rcases C with ⟨e,-⟩ | ⟨e,-⟩<;>rw[e]<;>decide
 have a8:qbw (ql es)=qbw (ql ei):=by rcases C with ⟨e,N⟩ | ⟨e,N⟩<;>rw[e,N]<;>rfl
 have d1:q94 (ql ei)=ql es:=by rcases C with ⟨e,N⟩ | ⟨e,N⟩<;>rw[e,N]<;>rfl
 have X:qbw (ql eo)=false:=ba.xor Y;have a9:ql eo=0∨ql eo=1:=zhx (qg5 eo ab.w9) X;have z:ql (eo++[.rev])=qyt (ql eo):=qwf eo a9;have b4:qbh G es:=by have:=ba.along;rw[he] at this;exact this
 have I:ups ei=ups es:=by rw[he];rfl
 have nn:=qla ok;have m:=qge it;have d2:=hK.cap;have d3:=hK.sum s;have F:=ba.sig;rw[Y] at F;replace F:d.k.signed=c.k.heard+1:=by simpa using F
 have E:∀g∈G,Gi.pend (!s) g=true→g.cov=false:=by
  intro g o hp;obtain⟨j,hj⟩:=List.getElem?_of_mem o;have c8:j∈ups es:=by rw[←I];exact(ba.upd.iff j).2 ⟨g,hj,hp⟩
  have c5:∀e:List En,ql e≠9→qay (ql e)=false→qbh G e→j∈ups e→g.cov=false:=by
   intro e
   induction e with
   | nil=>intro _ _ _ h;cases h
   | cons x e ih =>
    intro h9 hS ha hm;obtain⟨k9,kS⟩:=qtz h9 hS;cases x with
    | upd i =>
     rcases List.mem_cons.1 hm with N | hm
     ·subst N;rw[(ha.1 g hj).1];exact kS
     ·exact ih k9 kS ha.2 hm
    | sgn=>exact ih k9 kS ha hm
    | rev=>exact ih k9 kS ha hm
    | shut=>exact ih k9 kS ha hm
  exact c5 es W O b4 c8
 have c2:=zeg hK ea eb it ok pw T E d.k.signed;have b8:zv 3 c.xs=true:=by
  obtain⟨g,o,U⟩:=ba.ex Y;have Z:=it g o;unfold Gi.moved at U;have key:(0≤(if g.own=s then g.so else g.st)∧(if g.own=s then g.so else g.st)≤8)∧qx (if g.own=s then g.so else g.st) (g.own==s) 3≠if g.own=s then g.so else g.st:=by
   rcases za g.own s with e | e
   ·rw[qdp e] at Z;rw[e] at U;rw[if_pos e,show (g.own==s)=true by rw[e];simp];refine q88 _ Z T ?_ (by simpa using U);rintro ⟨D,v⟩;have D:g.up=2:=D;have v:g.cov=true:=v;rw[E g o (by unfold Gi.pend;rw[e,D];simp)] at v;cases v
   ·rw[qdv e] at Z;rw[e] at U;rw[if_neg (qb3 e),show (g.own==s)=false by rw[e];simp];refine q89 _ Z T ?_ (by simpa using U);rintro ⟨D,v⟩;have D:g.up=1:=D;have v:g.cov=true:=v;rw[E g o (by unfold Gi.pend;rw[e,D];simp)] at v;cases v
  unfold zv;rw[List.any_eq_true];refine⟨⟨g.h,g.own==s,if g.own=s then g.so else g.st,g.paid&&decide (5≤if g.own=s then g.so else g.st)⟩,ea.perm.symm.subset (List.mem_filterMap.2 ⟨g,o,?_⟩),?_⟩
  ·show qa9 (g.own==s) g.h (if g.own=s then g.so else g.st) g.paid=_;unfold qa9;rw[if_pos key.1]
  ·unfold chg;simpa using key.2
 have w:Said K.ch d.sgnOf:=q1k hK.chb c6 eb.nums.2.1;have e1:c.hear d.sgnOf=(c.signedBy,[c.signedBy.revocation],0):=by
  rw[qq7 w.may (by rw[b7];exact w.ch) rfl];refine qi4 b8 F ?_;have:qg3 c d.sgnOf=(zx false d.s.key d.s.ch d.k.signed d.loc d.rem d.xs != zx true c.s.peer c.s.ch d.k.signed c.loc c.rem (qv 3 c.xs)):=by unfold Ch.sgnOf;rw[zin]
  rw[this,c2];exact bne_self_eq_false _
 have cl:=qi8 (qo s) 3 G nn;have b6:=qj9 (qo s) ((qo s).on 3) G (L:=(K.S s).ours) (R:=(K.S (!s)).ours) (fun g o=>qnn (qe7 it s g o)) nn cl.1 cl.2 (by rw[←ea.loc];exact ea.pos.1) (by rw[←ea.rem];exact ea.pos.2);have b3:=qi8 ((qo s).on 3) 4 G nn;have a4:=qj9 ((qo s).on 3) (((qo s).on 3).on 4) G (L:=(K.S s).ours) (R:=(K.S (!s)).ours) (fun g o=>qnn (qnn (qe7 it s g o))) nn b3.1 b3.2 b6.1.1 b6.2.1;obtain⟨s1,s2,s3,J,s5,s6,s7,s8⟩:=quo (qo s) G nn ea.perm ea.loc ea.rem ea.pos.1 ea.pos.2 (by omega) (by omega) (by omega) (by omega);have c7:c.rem≤c.signedBy.rem:=by rw[s3,ea.rem];omega
 obtain⟨m1,m2,m3⟩:=ql4 (hsG s) (qo s) (((qo s).on 3).on 4) (G:=G) fun g _=>⟨rfl,by
  show (if g.own=s then (hsG s g).so else (hsG s g).st)=zt (zt (if g.own=s then g.so else g.st) (g.own==s) 3) (g.own==s) 4;rcases za g.own s with e | e
  ·rw[if_pos e,if_pos e,(qe2 e).1,e];simp
  ·rw[if_neg (qb3 e),if_neg (qb3 e),(qfw e).2,e];simp,rfl,rfl⟩
 have a6:=qun ea.perm s5 (by rw[J]);obtain⟨-,a5⟩:=qtl hK.chb (c:=c.signedBy) (by rw[s5];exact b7) (by rw[J];obtain⟨n1,-,-⟩:=ea.nums;obtain⟨-,n2,-⟩:=eb.nums;show 1≤c.k.heard+1∧c.k.heard+1≤65536;omega) (by rw[s5,ea.set];exact hK.seed s);clear c2;generalize c4:d.sgnOf=M at w e1 ⊢;clear c4;have f2:(c.hear M).2.1=[c.signedBy.revocation]:=by rw[e1]
 have f3:(c.hear M).2.2=0:=by rw[e1]
 have f1:(c.hear M).1=c.signedBy:=by rw[e1]
 refine⟨w,f3,?_,fun l hl=> ?_,?_⟩
 ·show ∃P',Goes K n ⟨s,c,d,eo,ei,G,la,nu,lb,nv⟩ (c.hear M).1 (msE s c G eo++(c.hear M).2.1) (msE (!s) d G es) P';rw[f1,f2];clear f1 f2 f3 e1 w;clear a5;generalize c.signedBy=c' at *
  have ho:∀k,k=0∨k=1→∀g∈G,oGe s k (hsG s g)=oGe s k g:=fun k hk g o=>by
   unfold oGe;rw[show (hsG s g).own=g.own from rfl];rcases za g.own s with e | e
   ·have v:=(qej (m g o).1).1;rw[(qe2 e).1];rcases hk with rfl | rfl
    ·rw[show decide ((0:Int)≤_)=decide ((0:Int)≤g.so) from v 0]
    ·rw[show decide ((1:Int)≤_)=decide ((1:Int)≤g.so) from v 1]
   ·rw[e];simp
  have d4:∀k,∀g∈G,oGe (!s) k (hsG s g)=oGe (!s) k g:=fun k g o=>by
   unfold oGe;rw[show (hsG s g).own=g.own from rfl];rcases za g.own s with e | e
   ·rw[e];simp
   ·rw[(qfw e).1]
  have d0:∀k,∀g∈G,pGe s k (hsG s g)=pGe s k g:=fun k g o=>by
   unfold pGe;rw[show (hsG s g).own=g.own from rfl];rcases za g.own s with e | e
   ·rw[(qe2 e).2]
   ·rw[e];simp
  have c9:∀g∈G,pGe (!s) 0 (hsG s g)=pGe (!s) 0 g:=fun g o=>by
   unfold pGe;rw[show (hsG s g).own=g.own from rfl];rcases za g.own s with e | e
   ·rw[e];simp
   ·rw[(qfw e).2,(qej (m g o).2.1).2.2.2.2.2.2.2.2.1]
  have q:∀k:Nat,((G.map (hsG s))[k]?).map Gi.key=(G[k]?).map Gi.key:=fun k=>qoa (f:=hsG s) (fun g=>rfl) G k
  have b9:∀g∈G,Gi.covd s (hsG s g)=Gi.covd s g:=fun g o=>by
   unfold Gi.covd;rw[show (hsG s g).own=g.own from rfl];rcases za g.own s with e | e
   ·rw[(qe2 e).1,(qej (m g o).1).2.2.2.1,e];simp
   ·rw[(qfw e).2,(qej (m g o).2.1).2.2.2.2.1,e];simp
  have c1:∀g∈G,Gi.moved s (hsG s g)=Gi.moved s g:=fun g o=>by
   unfold Gi.moved;rw[show (hsG s g).own=g.own from rfl];rcases za g.own s with e | e
   ·rw[(qe2 e).1,(qej (m g o).1).2.2.2.1,(qej (m g o).1).2.2.2.2.2.1,e];simp
   ·rw[(qfw e).2,(qej (m g o).2.1).2.2.2.2.1,(qej (m g o).2.1).2.2.2.2.2.2.1,e];simp
  have hu:ups (eo++[.rev])=ups eo:=by rw[qhg];exact List.append_nil _
  refine⟨⟨s,c',d,eo++[.rev],es,G.map (hsG s),la,nu,lb,nv⟩,⟨?_,?_,?_,?_,?_,?_,?_,?_⟩,rfl,rfl,rfl,?_,?_⟩
  ·refine⟨s5.trans ea.set,by rw[m1];exact s1,by rw[m2];exact s2,by rw[m3];exact s3,⟨by rw[s2];exact a4.1.1,by rw[s3];exact a4.2.1⟩,?_,?_,?_,ea.nuS.map _ ?_,?_,?_,?_,by rw[s8];exact ea.shelf,?_⟩
   ·rw[J,qbm (ho 0 (.inl rfl))];exact ea.nOwn
   ·rw[J,qbm c9];exact ea.nTh
   ·rw[qbm (ho 1 (.inr rfl))];intro y hy e1 e2;obtain⟨g,o,rfl⟩:=List.mem_map.1 hy;have c0:g.own=s:=e1;refine ea.low g o c0 ?_;rw[(qe2 c0).1] at e2;have v:=(qej (m g o).1).1 1;have v:decide ((1:Int)≤zt (zt g.so true 3) true 4)=decide ((1:Int)≤g.so):=v;rw[decide_eq_true e2] at v;simpa using v.symm
   ·intro g o;unfold Gi.unsg;rw[show (hsG s g).own=g.own from rfl];rcases za g.own s with e | e
    ·rw[(qe2 e).1,(qej (m g o).1).2.1,e];simp
    ·rw[(qfw e).2,(qej (m g o).2.1).2.2.1,e];simp
   ·rw[qbm (ho 1 (.inr rfl)),J];exact ea.nuI.congr fun k _=>q k
   ·rw[s6,ea.news];exact(qb8 s5 fun k _=>q k).symm
   ·show cnt (qbq s) (G.map (hsG s))≤8;rw[qbm fun g o=> ?_]
    ·exact ea.many
    ·unfold qbq;rw[show (hsG s g).own=g.own from rfl];rcases za g.own s with e | e
     ·have v:=(qej (m g o).1).1 0;have v:decide ((0:Int)≤zt (zt g.so true 3) true 4)=decide ((0:Int)≤g.so):=v;rw[(qe2 e).1,v,(qej (m g o).1).2.2.2.2.2.2.2.1]
     ·rw[e];simp
   ·rw[J];obtain⟨n1,n2,n3⟩:=ea.nums;exact⟨by show 0≤c.k.heard+1;omega,n2,n3⟩
  ·refine eb.mapS (fun _=>rfl) (fun _=>rfl) (fun _=>rfl) (fun g o=> ?_) fun _=>rfl
   show (if g.own = !s then (hsG s g).so else (hsG s g).st)=if g.own = !s then g.so else g.st;rcases za g.own s with e | e
   ·rw[if_neg (qh7 e),if_neg (qh7 e),(qe2 e).2]
   ·rw[if_pos e,if_pos e,(qfw e).1]
  ·have H:qay (qyt (ql eo))=qay (ql eo)∧qbw (qyt (ql eo))=true∧qyt (ql eo)≠9∧qyt (ql eo)≠4:=by
    rcases a9 with e | e<;>rw[e]<;>decide
   refine⟨by rw[z];exact H.2.2.1,?_,?_,?_,?_,?_,?_,?_,?_,?_,by rw[s7];exact ab.last,?_,?_,?_⟩
   ·rw[z,H.1,a8];exact ab.xor
   ·rw[z,H.1,J];exact ab.sig
   ·rw[z,H.1,a8,J];exact ab.aw
   ·intro _;rw[J]
   ·rw[z];exact fun e=>absurd e H.2.2.2
   ·rw[hu];exact ab.upd.map _ fun g _=>rfl
   ·refine ab.along.rev ab.w9 X fun j hj g o=>⟨rfl,?_⟩
    show (if Gi.pend s g=true then true else g.pre)=true;rw[if_pos (ab.upd.yes hj o)]
   ·rw[hu,J];exact ab.ids.congr fun k _=>q k
   ·rw[z,H.1];intro e;obtain⟨i1,i2,i3⟩:=ab.laS e;refine⟨i1.map _ b9,?_,?_⟩
    ·rw[qbm (d0 1),qbm (ho 1 (.inr rfl))];exact i2.congr fun k _=>q k
    ·rw[s7,i3,a6];congr 1;exact(qb8 s5 fun k _=>q k).symm
   ·rw[J];exact qbl.snoc (by intro e;cases e) (fun _ _ e=>by cases e) (ab.shut.congr fun k _=>q k)
   ·intro _;have D:=zdf it X nn;have v:amt (qao s) (G.map (hsG s))=amt (qnz s) G:=by
     rw[qn0];refine qei fun g o=> ?_
     have:qao s (hsG s g)=qnz s g:=by
      unfold qao qnz;show (g.own==s&&(g.up==1&&if Gi.pend s g=true then true else g.pre))=_;rcases za g.own s with e | e
      ·rw[qjo e];cases h:(g.up==1)<;>simp
      ·rw[e];simp
     rw[this];rfl
    rw[v];have h3:=ea.loc;have h4:=eb.rem;rw[Bool.not_not] at h4;have h5:=ea.pos.1;show _≤d.rem;omega
   ·rw[z,H.1];exact fun e=>qxg (fun g o h=>(c1 g o).trans h) (ab.ex e)
  ·refine⟨W,fun e=>(by rw[O] at e;cases e),?_,?_,fun e=> ?_,fun e=> ?_,?_,?_,?_,fun e=>(by rw[O] at e;cases e),ba.last,?_,fun e=> ?_,fun e=>(by rw[O] at e;cases e)⟩
   ·rw[O,J,F];show c.k.heard+1=c.k.heard+1+if false=true then 1 else 0;simp
   ·rw[ba.aw,Y,O,z];rcases a9 with e | e<;>rw[e]<;>rfl
   ·rcases C with ⟨N,-⟩ | ⟨N,-⟩<;>rw[N] at e<;>cases e
   ·rcases C with ⟨N,-⟩ | ⟨N,-⟩<;>rw[N] at e<;>cases e
   ·rw[←I];exact ba.upd.map _ fun g _=>rfl
   ·refine qmb b4 fun j hj g o=>⟨rfl,?_⟩
    have hp:=ba.upd.yes (by rw[I];exact hj) o;show (if Gi.pend s g=true then true else g.pre)=g.pre;rw[if_neg];intro V;unfold Gi.pend at hp V;rcases za g.own s with e | e
    ·rw[e] at hp V;simp at hp V;omega
    ·rw[e] at hp V;simp at hp V;omega
   ·rw[J];have:=ba.ids;rw[I] at this;exact this.congr fun k _=>q k
   ·rw[J];have:=ba.shut;rw[he] at this;have this:qbl G (!s) d.k.shutSaid c.k.shutHeard es:=this;exact this.congr fun k _=>q k
   ·have D:=ba.m1 (by rw[←a8];exact e);have v:amt (qao (!s)) (G.map (hsG s))=amt (qao (!s)) G:=by
     rw[qn0];refine qei fun g o=> ?_
     have:qao (!s) (hsG s g)=qao (!s) g:=by
      unfold qao;show (g.own == !s&&(g.up==1&&if Gi.pend s g=true then true else g.pre))=_;rcases za g.own s with e | e
      ·rw[e];simp
      ·rw[qoq e];by_cases c3:g.up=1
       ·rw[c3];simp
       ·have:(g.up==1)=false:=by simpa using c3
        rw[this];simp
     rw[this];rfl
    rw[v];show _≤c'.rem;omega
  ·intro y hy;show y.it s (ql (eo++[.rev])) (ql es)∈qa3;obtain⟨g,o,rfl⟩:=List.mem_map.1 hy;have Z:=it g o;rw[z,←d1];rcases za g.own s with e | e
   ·rw[qdp (g:=hsG s g) (s:=s) e,(qe2 e).1,(qe2 e).2,(qej (m g o).1).2.2.2.2.2.2.2.2.2.1];rw[qdp e] at Z;refine qx8 _ Z T ?_;rintro ⟨D,v⟩;have D:g.up=2:=D;have v:g.cov=true:=v;rw[E g o (by unfold Gi.pend;rw[e,D];simp)] at v;cases v
   ·rw[qdv (g:=hsG s g) (s:=s) e,(qfw e).1,(qfw e).2,(qej (m g o).2.1).2.2.2.2.2.2.2.2.2.2];rw[qdv e] at Z;refine qx9 _ Z T ?_;rintro ⟨D,v⟩;have D:g.up=1:=D;have v:g.cov=true:=v;rw[E g o (by unfold Gi.pend;rw[e,D];simp)] at v;cases v
  ·intro y hy;obtain⟨g,o,rfl⟩:=List.mem_map.1 hy;have hok:=ok g o;refine⟨hok.id,hok.amount,hok.hash,hok.expiry,fun e=> ?_⟩;refine hok.um ?_;rcases za g.own s with a7 | a7
   ·rw[(qe2 a7).2] at e;exact e
   ·rw[(qfw a7).2] at e;have h5:=(qej (m g o).2.1).2.2.1;have h6:=(qej (m g o).2.1).2.2.2.2.1;rcases e with e | e
    ·rw[e] at h5;exact .inl (by simpa using h5.symm)
    ·rw[e] at h6;exact .inr (by simpa using h6.symm)
  ·show ((G.map (hsG s)).map Gi.pk).Pairwise Apt;rw[q35 fun g o=> ?_]
   ·exact pw
   ·unfold Gi.pk;rcases za g.own s with e | e
    ·have v:=(qej (m g o).1).1 0;have v:decide ((0:Int)≤zt (zt g.so true 3) true 4)=decide ((0:Int)≤g.so):=v;rw[(qe2 e).1,v];rfl
    ·rw[(qfw e).1];rfl
  ·show (G.map (hsG s)).length≤n;rw[List.length_map];omega
  ·show msE s c' (G.map (hsG s)) (eo++[.rev])=msE s c G eo++[c'.revocation];unfold msE;rw[List.map_append];congr 1;exact qdi ab.w9 s5 (fun k _=>q k) (fun _=>a6) (fun e=>by rw[X] at e;cases e)
  ·exact qdi W rfl (fun k _=>q k) (fun _=>rfl) (fun _=>rfl)
 ·have hl:l∈(c.hear M).2.1:=hl;rw[f2] at hl;rw[List.mem_singleton.1 hl];exact a5.ok
 ·show (c.hear M).2.1.length≤1;rw[f2];exact Nat.le_refl _
end
theorem qkb:∀ {x:Int},-1≤x∧x≤9→(∀k:Fin 2,∀m:Bool,decide ((k.val:Int)≤zt x m 2)=decide ((k.val:Int)≤x))∧(zt x true 2==0)=(x==0)∧(zt x false 2==5)=(x==5)∧(zt x true 2≤8→x≤8)∧(zt x false 2=5∨zt x false 2=6→x=5∨x=6) :=
 qnc (p:=fun x=>(∀k:Fin 2,∀m:Bool,decide ((k.val:Int)≤zt x m 2)=decide ((k.val:Int)≤x))∧(zt x true 2==0)=(x==0)∧(zt x false 2==5)=(x==5)∧(zt x true 2≤8→x≤8)∧(zt x false 2=5∨zt x false 2=6→x=5∨x=6)) (by decide +kernel)
def rvG(s:Bool)(g:Gi):Gi:= {g with so:=if g.own=s then zt g.so true 2 else g.so,st:=if g.own=s then g.st else zt g.st false 2}
section
variable {K:Kon}{n:Nat}{s t:Bool}{c d:Ch}{eo ei es:List En}{G:List Gi}{la nu lb nv:List Nat}{g g':Gi}{j:Nat}
theorem qe5{g:Gi}(h:g.own=s):(rvG s g).so=zt g.so true 2∧(rvG s g).st=g.st:=by unfold rvG;simp only[h,if_true];exact⟨trivial,trivial⟩
theorem qf1{g:Gi}(h:g.own = !s):(rvG s g).so=g.so∧(rvG s g).st=zt g.st false 2:=by unfold rvG;simp only[if_neg (qb3 h)];exact⟨trivial,trivial⟩
theorem quc{P:Pt}(U:K.Ok)(h:Inv K n P)(X:P.ei = .rev::es):Hears K n P P.d.revocation (msE (!P.s) P.d P.G es):=by
 obtain⟨s,c,d,eo,ei,G,la,nu,lb,nv⟩:=P;obtain⟨ea,eb,ab,ba,it,ok,pw,few⟩:=h;simp only at ea eb ab ba it ok pw few X ⊢;have b6:d.s.ch=K.ch:=by rw[eb.set];exact U.ch _
 have b5:c.s.ch=K.ch:=by rw[ea.set];exact U.ch _
 have a6:=ba.w9;rw[X] at a6;have v:=qhh a6;rw[←X] at v;have V:qbw (ql ei)=true:=by rcases v with ⟨-,e⟩ | ⟨-,e⟩<;>rw[e]<;>rfl
 have Z:zje (ql ei)=true:=by rcases v with ⟨-,e⟩ | ⟨-,e⟩<;>rw[e]<;>rfl
 have Y:qbw (ql es)=false:=by rcases v with ⟨e,-⟩ | ⟨e,-⟩<;>rw[e]<;>rfl
 have N:ql es≠9:=by rcases v with ⟨e,-⟩ | ⟨e,-⟩<;>rw[e]<;>decide
 have E:qay (ql es)=qay (ql ei):=by rcases v with ⟨e,D⟩ | ⟨e,D⟩<;>rw[e,D]<;>rfl
 have b8:q94 (ql ei)=ql es:=by rcases v with ⟨e,D⟩ | ⟨e,D⟩<;>rw[e,D]<;>rfl
 have C:qay (ql eo)=false:=by
  cases e:qay (ql eo) with
  | false=>rfl
  | true=>rw[ab.xor e] at V;cases V
 have b4:qbh G es:=by have:=ba.along;rw[X] at this;exact this
 have J:ups ei=ups es:=by rw[X];rfl
 have nn:=qla ok;have m:=qge it;have b9:=U.cap;have c0:=U.sum s;have a5:c.k.awaits=true:=by rw[ab.aw,V,Bool.or_true]
 have I:=ab.sig;rw[C] at I;replace I:c.k.signed=d.k.heard:=by simpa using I
 have c1:=ea.nums.2.2 a5;have c2:=ea.nums.2.1;obtain⟨er,q⟩:=qtl U.chb b6 (c:=d) (by omega) (by rw[eb.set];exact U.seed _);have W:d.s.seed=(K.S (!s)).seed:=by rw[eb.set]
 have H:d.revocation.number=d.k.heard-1:=by rw[er]
 have F:d.revocation.hash=(qcu (K.S (!s)).seed (65535-(d.k.heard-1))).1:=by rw[er,W]
 have a9:qdd (65535-(d.k.heard-1))=true:=qol (by omega) (by omega);have O:c.hear d.revocation=(((c.shelved d.revocation).goOn 2).unawait,[],0):=by
  rw[qq8 q.may (by rw[b5];exact q.ch) (by rw[er])];have:qkm c d.revocation=0:=by
   unfold qkm;rw[if_neg (by rw[a5];decide),if_neg (by rw[H];omega),if_neg (by rw[H,F,qxt a9 ea.shelf];decide)]
  unfold Ch.hearRevoke;rw[if_pos this]
 have cl:=qi8 (qo s) 2 G nn;have a7:=qj9 (qo s) ((qo s).on 2) G (L:=(K.S s).ours) (R:=(K.S (!s)).ours) (fun g o=>qnn (qe7 it s g o)) nn cl.1 cl.2 (by rw[←ea.loc];exact ea.pos.1) (by rw[←ea.rem];exact ea.pos.2);obtain⟨s1,s2,s3,x,s5,s6,s7,s8⟩:=qyf d.revocation (qo s) G nn ea.perm ea.loc ea.rem ea.pos.1 ea.pos.2 (by omega) (by omega);have z:qdb (K.S (!s)).seed (((c.shelved d.revocation).goOn 2).unawait).shelf:=by
  rw[s8,H,F];exact qsn (U.seed (!s)).2 ea.shelf
 obtain⟨m1,m2,m3⟩:=ql4 (rvG s) (qo s) ((qo s).on 2) (G:=G) fun g _=>⟨rfl,by
  show (if g.own=s then (rvG s g).so else (rvG s g).st)=zt (if g.own=s then g.so else g.st) (g.own==s) 2;rcases za g.own s with e | e
  ·rw[if_pos e,if_pos e,(qe5 e).1,e];simp
  ·rw[if_neg (qb3 e),if_neg (qb3 e),(qf1 e).2,e];simp,rfl,rfl⟩
 generalize d.revocation=M at q O s1 s2 s3 x s5 s6 s7 s8 z ⊢;have f1:(c.hear M).1=((c.shelved M).goOn 2).unawait:=by rw[O]
 have f2:(c.hear M).2.1=[]:=by rw[O]
 have f3:(c.hear M).2.2=0:=by rw[O]
 refine⟨q,f3,?_,fun l hl=> ?_,?_⟩
 ·show ∃P',Goes K n ⟨s,c,d,eo,ei,G,la,nu,lb,nv⟩ (c.hear M).1 (msE s c G eo++(c.hear M).2.1) (msE (!s) d G es) P';rw[f1,f2];clear f1 f2 f3 O q s8;generalize ((c.shelved M).goOn 2).unawait=c' at *
  have ho:∀k,k=0∨k=1→∀g∈G,oGe s k (rvG s g)=oGe s k g:=fun k hk g o=>by
   unfold oGe;rw[show (rvG s g).own=g.own from rfl];rcases za g.own s with e | e
   ·have w:=(qkb (m g o).1).1;rw[(qe5 e).1];rcases hk with rfl | rfl
    ·rw[show decide ((0:Int)≤_)=decide ((0:Int)≤g.so) from w 0 true]
    ·rw[show decide ((1:Int)≤_)=decide ((1:Int)≤g.so) from w 1 true]
   ·rw[e];simp
  have b7:∀k,∀g∈G,oGe (!s) k (rvG s g)=oGe (!s) k g:=fun k g o=>by
   unfold oGe;rw[show (rvG s g).own=g.own from rfl];rcases za g.own s with e | e
   ·rw[e];simp
   ·rw[(qf1 e).1]
  have c3:∀k,∀g∈G,pGe s k (rvG s g)=pGe s k g:=fun k g o=>by
   unfold pGe;rw[show (rvG s g).own=g.own from rfl];rcases za g.own s with e | e
   ·rw[(qe5 e).2]
   ·rw[e];simp
  have b3:∀k,k=0∨k=1→∀g∈G,pGe (!s) k (rvG s g)=pGe (!s) k g:=fun k hk g o=>by
   unfold pGe;rw[show (rvG s g).own=g.own from rfl];rcases za g.own s with e | e
   ·rw[e];simp
   ·have w:=(qkb (m g o).2.1).1;rw[(qf1 e).2];rcases hk with rfl | rfl
    ·rw[show decide ((0:Int)≤_)=decide ((0:Int)≤g.st) from w 0 false]
    ·rw[show decide ((1:Int)≤_)=decide ((1:Int)≤g.st) from w 1 false]
  have i:∀k:Nat,((G.map (rvG s))[k]?).map Gi.key=(G[k]?).map Gi.key:=fun k=>qoa (f:=rvG s) (fun g=>rfl) G k
  have a4:∀t,amt (qao t) (G.map (rvG s))=amt (qao t) G:=fun t=>qy5 (fun _ _=>rfl) fun _ _=>rfl
  refine⟨⟨s,c',d,eo,es,G.map (rvG s),la,nu,lb,nv⟩,⟨?_,?_,?_,?_,?_,?_,?_,?_⟩,rfl,rfl,rfl,?_,?_⟩
  ·refine⟨s5.trans ea.set,by rw[m1];exact s1,by rw[m2];exact s2,by rw[m3];exact s3,⟨by rw[s2];exact a7.1.1,by rw[s3];exact a7.2.1⟩,?_,?_,?_,ea.nuS.map _ ?_,?_,?_,?_,z,?_⟩
   ·rw[x,qbm (ho 0 (.inl rfl))];exact ea.nOwn
   ·rw[x,qbm (b3 0 (.inl rfl))];exact ea.nTh
   ·rw[qbm (ho 1 (.inr rfl))];intro y hy O e2;obtain⟨g,o,rfl⟩:=List.mem_map.1 hy;have a8:g.own=s:=O;refine ea.low g o a8 ?_;rw[(qe5 a8).1] at e2;have w:=(qkb (m g o).1).1 1 true;have w:decide ((1:Int)≤zt g.so true 2)=decide ((1:Int)≤g.so):=w;rw[decide_eq_true e2] at w;simpa using w.symm
   ·intro g o;unfold Gi.unsg;rw[show (rvG s g).own=g.own from rfl];rcases za g.own s with e | e
    ·rw[(qe5 e).1,(qkb (m g o).1).2.1,e];simp
    ·rw[(qf1 e).2,(qkb (m g o).2.1).2.2.1,e];simp
   ·rw[qbm (ho 1 (.inr rfl)),x];exact ea.nuI.congr fun k _=>i k
   ·rw[s6,ea.news];exact(qb8 s5 fun k _=>i k).symm
   ·show cnt (qbq s) (G.map (rvG s))≤8;rw[qgj];refine Int.le_trans (qm8 fun g o h=> ?_) ea.many;unfold qbq at h ⊢;rw[show (rvG s g).own=g.own from rfl] at h;rcases za g.own s with e | e
    ·have w:=(qkb (m g o).1).1 0 true;have w:decide ((0:Int)≤zt g.so true 2)=decide ((0:Int)≤g.so):=w;rw[(qe5 e).1,w,e] at h;have h3:=(qkb (m g o).1).2.2.2.1;simp at h;rw[e];simp;exact⟨h.1,h3 h.2⟩
    ·rw[e] at h;simp at h
   ·rw[x];obtain⟨n1,n2,-⟩:=ea.nums;exact⟨n1,n2,fun e=>by cases e⟩
  ·refine eb.mapS (fun _=>rfl) (fun _=>rfl) (fun _=>rfl) (fun g o=> ?_) fun _=>rfl
   show (if g.own = !s then (rvG s g).so else (rvG s g).st)=if g.own = !s then g.so else g.st;rcases za g.own s with e | e
   ·rw[if_neg (qh7 e),if_neg (qh7 e),(qe5 e).2]
   ·rw[if_pos e,if_pos e,(qf1 e).1]
  ·refine⟨ab.w9,fun e=>(by rw[C] at e;cases e),?_,?_,?_,?_,ab.upd.map _ fun g _=>rfl,qmb ab.along fun _ _ _ _=>⟨rfl,rfl⟩,?_,fun e=>(by rw[C] at e;cases e),by rw[s7];exact ab.last,?_,fun e=> ?_,fun e=>(by rw[C] at e;cases e)⟩
   ·rw[x];exact ab.sig
   ·rw[x,C,Y];rfl
   ·rw[x];exact ab.rv3
   ·rw[x];exact ab.rv4
   ·rw[x];exact ab.ids.congr fun k _=>i k
   ·rw[x];exact ab.shut.congr fun k _=>i k
   ·rw[a4];exact ab.m1 e
  ·refine⟨N,fun e=> ?_,?_,?_,fun e=> ?_,fun e=> ?_,?_,qmb b4 fun _ _ _ _=>⟨rfl,rfl⟩,?_,fun e=> ?_,ba.last,?_,fun e=>(by rw[Y] at e;cases e),fun e=> ?_⟩
   ·rw[E] at e;exact ba.xor e
   ·rw[E,x];exact ba.sig
   ·rw[E];exact ba.aw
   ·rcases v with ⟨D,-⟩ | ⟨D,-⟩<;>rw[D] at e<;>cases e
   ·rcases v with ⟨D,-⟩ | ⟨D,-⟩<;>rw[D] at e<;>cases e
   ·rw[←J];exact ba.upd.map _ fun g _=>rfl
   ·rw[x];have:=ba.ids;rw[J] at this;exact this.congr fun k _=>i k
   ·rw[E] at e;obtain⟨i1,i2,i3⟩:=ba.laS e;refine⟨i1.map _ fun g o=> ?_,?_,?_⟩
    ·unfold Gi.covd;rw[show (rvG s g).own=g.own from rfl];rcases za g.own s with e | e
     ·rw[(qe5 e).2,e];simp
     ·rw[(qf1 e).1,e];simp
    ·rw[qbm (b3 1 (.inr rfl)),qbm (b7 1)];exact i2.congr fun k _=>i k
    ·rw[i3];congr 1;exact(qb8 rfl fun k _=>i k).symm
   ·rw[x];have:=ba.shut;rw[X] at this;have this:qbl G (!s) d.k.shutSaid c.k.shutHeard es:=this;exact this.congr fun k _=>i k
   ·rw[E] at e;refine qxg (fun g o h=> ?_) (ba.ex e);rw[←h];unfold Gi.moved;rw[show (rvG s g).own=g.own from rfl];rcases za g.own s with e | e
    ·rw[(qe5 e).2,e];simp
    ·rw[(qf1 e).1,e];simp
  ·intro y hy;show y.it s (ql eo) (ql es)∈qa3;obtain⟨g,o,rfl⟩:=List.mem_map.1 hy;have hi:=it g o;rw[←b8];rcases za g.own s with e | e
   ·rw[qdp (g:=rvG s g) (s:=s) e,(qe5 e).1,(qe5 e).2,(qij (m g o).1 true).2.1];rw[qdp e] at hi;exact qx6 _ hi Z
   ·rw[qdv (g:=rvG s g) (s:=s) e,(qf1 e).1,(qf1 e).2,(qij (m g o).2.1 false).2.1];rw[qdv e] at hi;exact qx7 _ hi Z
  ·intro y hy;obtain⟨g,o,rfl⟩:=List.mem_map.1 hy;have hok:=ok g o;refine⟨hok.id,hok.amount,hok.hash,hok.expiry,fun e=>hok.um ?_⟩;rcases za g.own s with T | T
   ·rw[(qe5 T).2] at e;exact e
   ·rw[(qf1 T).2] at e;exact(qkb (m g o).2.1).2.2.2.2 e
  ·show ((G.map (rvG s)).map Gi.pk).Pairwise Apt;rw[q35 fun g o=> ?_]
   ·exact pw
   ·unfold Gi.pk;rcases za g.own s with e | e
    ·have w:=(qkb (m g o).1).1 0 true;have w:decide ((0:Int)≤zt g.so true 2)=decide ((0:Int)≤g.so):=w;rw[(qe5 e).1,w];rfl
    ·rw[(qf1 e).1];rfl
  ·show (G.map (rvG s)).length≤n;rw[List.length_map];omega
  ·show msE s c' (G.map (rvG s)) eo=msE s c G eo++[];rw[List.append_nil];exact qdi ab.w9 s5 (fun k _=>i k) (fun e=>by rw[C] at e;cases e) (fun _=>qjp s5 (by rw[x]))
  ·exact qdi N rfl (fun k _=>i k) (fun _=>rfl) (fun _=>rfl)
 ·have hl:l∈(c.hear M).2.1:=hl;rw[f2] at hl;cases hl
 ·show (c.hear M).2.1.length≤1;rw[f2];exact Nat.zero_le _
theorem q75{P:Pt}{x:En}(l:K.Ok)(h:Inv K n P)(q:n<1000000000)(i:P.ei=x::es):Hears K n P (enM (!P.s) P.d P.G x) (msE (!P.s) P.d P.G es):=by
 cases x with
 | sgn=>exact qsh l h i
 | rev=>exact quc l h i
 | shut=>exact qsg l h i
 | upd j =>
  have o:j∈ups P.ei:=by rw[i];exact List.mem_cons_self ..
  obtain⟨g,m,-⟩:=(h.ba.upd.iff j).1 o;rcases za g.own P.s with e | e
  ·exact qub l h i m e
  ·exact qua l h q i m e
end
end Go.Proofs.YthnohmjbbeahmaaGreatDoor
