/-
  The protocol, plain: the ghost list goes on as a whole; a Sign keeps the invariant; so does a Shut.
-/
import Derived.Test.YtjpmomdechibmaaGreatDoorMdi
set_option linter.unusedVariables false
set_option linter.unusedSimpArgs false
namespace Go.Proofs.YtjpmomdechibmaaGreatDoor
open Go.RowKit
theorem zd5:∀i:Fin 11,∀m:Bool,(zm ((i.val:Int)-1) m 1=qv ((i.val:Int)-1) m 1∧zm ((i.val:Int)-1) m 2=qv ((i.val:Int)-1) m 2∧zm ((i.val:Int)-1) m 3=qv ((i.val:Int)-1) m 3∧zm ((i.val:Int)-1) m 4=qv ((i.val:Int)-1) m 4):=by decide +kernel
theorem qlt{p:Int→Prop}(h:∀i:Fin 11,p ((i.val:Int)-1)){x:Int}(g : -1≤x∧x≤9):p x:=by
 have:=h ⟨(x+1).toNat,by omega⟩
 rwa [show (((x+1).toNat:Nat):Int)-1=x by omega] at this
theorem qhh{x:Int}(g : -1≤x∧x≤9)(m:Bool):zm x m 1=qv x m 1∧zm x m 2=qv x m 2∧zm x m 3=qv x m 3∧zm x m 4=qv x m 4:=qlt (p:=fun x=>zm x m 1=qv x m 1∧zm x m 2=qv x m 2∧zm x m 3=qv x m 3∧zm x m 4=qv x m 4) (fun i=>zd5 i m) g
theorem qfo:∀ {x:Int},-1≤x∧x≤9→zm x true 1≠0∧zm x false 1≠5∧decide (1≤zm x true 1)=decide (0≤x)∧decide (0≤zm x true 1)=decide (0≤x)∧decide (0≤zm x false 1)=decide (0≤x)∧decide (zm x true 1≤8)=decide (x≤8)∧(zm x true 1≠x→zm x true 1=1∨zm x true 1=8)∧(zm x false 1≠x→zm x false 1=3∨zm x false 1=6)∧(x≠1→(zm x true 1==1)=(x==0))∧(x≠6→(zm x false 1==6)=(x==5)) :=
 qlt (p:=fun x=>zm x true 1≠0∧zm x false 1≠5∧decide (1≤zm x true 1)=decide (0≤x)∧decide (0≤zm x true 1)=decide (0≤x)∧decide (0≤zm x false 1)=decide (0≤x)∧decide (zm x true 1≤8)=decide (x≤8)∧(zm x true 1≠x→zm x true 1=1∨zm x true 1=8)∧(zm x false 1≠x→zm x false 1=3∨zm x false 1=6)∧(x≠1→(zm x true 1==1)=(x==0))∧(x≠6→(zm x false 1==6)=(x==5))) (by decide +kernel)
section
variable {K:Kon}{n:Nat}{s t:Bool}{c d:Ch}{eo ei:List En}{G:List Gi}{la nu lb nv:List Nat}{f:Gi→Gi}
theorem qk3{e:List En}(h:qbb G e)(m:∀j∈ups e,∀g,G[j]? = some g→(f g).cov=g.cov∧(f g).pre=g.pre):qbb (G.map f) e:=by
 refine h.congr fun k o y i=> ?_
 rw[List.getElem?_map] at i
 cases l:G[k]? with
 | none=>rw[l] at i;cases i
 | some g =>
  rw[l] at i
  injection i with i
  subst i
  exact⟨g,rfl,m k o g l⟩
theorem qux{p:Gi→Bool}(m:∀g∈G,p g=true→p (f g)=true)(h:∃y∈G,p y=true):∃y∈G.map f,p y=true:=by
 obtain⟨y,l,i⟩:=h
 exact⟨f y,List.mem_map_of_mem l,m y l i⟩
theorem qbf{p:Gi→Bool}(i:∀g∈G,p (f g)=p g):cnt p (G.map f)=cnt p G:=by rw[qf1];exact qej i
theorem qwb{p:Gi→Bool}(l:∀g∈G,(f g).h=g.h)(m:∀g∈G,p (f g)=p g):amt p (G.map f)=amt p G:=by
 rw[ql8]
 exact qd1 fun g i=>by rw[m g i,l g i]
theorem EndI.mapS(h:EndI K t c G nu)(m:∀g,(f g).own=g.own)(w:∀g,(f g).h=g.h)(E:∀g,(f g).um=g.um)(x:∀g∈G,(qs t).st (f g)=(qs t).st g)(D:∀g,(f g).paid=g.paid):EndI K t c (G.map f) nu:=by
 have q:∀g∈G,g.own=t→(f g).so=g.so:=fun g i e=>by
  have:(if (f g).own=t then (f g).so else (f g).st)=if g.own=t then g.so else g.st:=x g i
  rwa [m,if_pos e,if_pos e] at this
 have C:∀g∈G,¬g.own=t→(f g).st=g.st:=fun g i e=>by
  have:(if (f g).own=t then (f g).so else (f g).st)=if g.own=t then g.so else g.st:=x g i
  rwa [m,if_neg e,if_neg e] at this
 obtain⟨m1,H,I⟩:=qkw f (qs t) (qs t) (G:=G) fun g i=>⟨by show ((f g).own==t)=(g.own==t);rw[m],x g i,w g,D g⟩
 have o:∀k,∀g∈G,oGe t k (f g)=oGe t k g:=fun k g i=>by
  unfold oGe
  rw[m]
  rcases za g.own t with e | e
  ·rw[q g i e]
  ·rw[e];simp
 have l:∀k∈nu,((G.map f)[k]?).map Gi.key=(G[k]?).map Gi.key:=fun k _=>qmh (fun g=>by unfold Gi.key;rw[m,w,E]) G k
 refine⟨h.set,by rw[m1];exact h.perm,by rw[H];exact h.loc,by rw[I];exact h.rem,h.pos,by rw[qbf (o 0)];exact h.nOwn,?_,?_,h.nuS.map f ?_,?_,?_,?_,h.shelf,h.nums⟩
 ·rw[qbf fun g i=> ?_]
  ·exact h.nTh
  ·unfold pGe
   rw[m]
   rcases za g.own t with e | e
   ·rw[e];simp
   ·rw[C g i (qbv e)]
 ·rw[qbf (o 1)]
  intro y F v z
  obtain⟨g,i,rfl⟩:=List.mem_map.1 F
  rw[m] at v
  rw[q g i v] at z
  rw[w]
  exact h.low g i v z
 ·intro g i
  unfold Gi.unsg
  rw[m]
  rcases za g.own t with e | e
  ·rw[q g i e,e];simp
  ·rw[C g i (qbv e),e];simp
 ·rw[qbf (o 1)]
  exact h.nuI.congr l
 ·rw[h.news]
  exact(qbz rfl l).symm
 ·rw[qbf fun g i=> ?_]
  ·exact h.many
  ·unfold qbi
   rw[m]
   rcases za g.own t with e | e
   ·rw[q g i e]
   ·rw[e];simp
end
def qdm(s:Bool)(g:Gi):Gi:= {g with so:=if g.own=s then zm g.so true 1 else g.so,st:=if g.own=s then g.st else zm g.st false 1,cov:=if Gi.pend s g=true then true else g.cov}
theorem qyi:∀x∈qav,qas x.2.2.2.2.1=false→qbq x.2.2.2.2.2=false→x.1≠1∧decide (1≤x.2.1)=decide (1≤x.1):=by decide +kernel
theorem qvl:∀x∈qav,qas x.2.2.2.2.2=false→qbq x.2.2.2.2.1=false→x.2.1≠6:=by decide +kernel
section
variable {K:Kon}{n:Nat}{s t:Bool}{c d:Ch}{eo ei:List En}{G:List Gi}{la nu lb nv:List Nat}
theorem qcj{g:Gi}(h:g.own=s):(qdm s g).so=zm g.so true 1∧(qdm s g).st=g.st:=by unfold qdm;simp only[h,if_true];exact⟨trivial,trivial⟩
theorem qdb{g:Gi}(h:g.own = !s):(qdm s g).so=g.so∧(qdm s g).st=zm g.st false 1:=by unfold qdm;simp only[if_neg (qbv h)];exact⟨trivial,trivial⟩
theorem qip{g:Gi}(h:g.own=s):Gi.pend s g=(g.up==1):=by unfold Gi.pend;rw[h];simp
theorem qmw{g:Gi}(h:g.own = !s):Gi.pend s g=(g.up==2):=by unfold Gi.pend;rw[h];simp
theorem qrx{x:En}{e:List En}(i:qk (x::e)≠9)(g:qas (qk (x::e))=false):qk e≠9∧qas (qk e)=false:=by
 cases x with
 | upd j=>exact⟨i,g⟩
 | shut=>exact⟨i,g⟩
 | sgn=>rcases qgo i with ⟨-,e⟩ | ⟨-,e⟩<;>rw[e] at g<;>cases g
 | rev =>
  rcases qgn i with ⟨l,e⟩ | ⟨-,e⟩
  ·rw[l];exact⟨by decide,rfl⟩
  ·rw[e] at g;cases g
theorem zds{w:Nat}(h:w≤4)(g:qas w=false):w=0∨w=2:=by
 have:w=0∨w=1∨w=2∨w=3∨w=4:=by omega
 rcases this with rfl | rfl | rfl | rfl | rfl
 ·exact .inl rfl
 ·cases g
 ·exact .inr rfl
 ·cases g
 ·cases g
theorem qbb.sgn{f:Gi→Gi} : ∀ {e:List En},qk e≠9→qas (qk e)=false→(∀j∈ups e,∀g,G[j]? = some g→(f g).cov=true∧(f g).pre=g.pre)→qbb G e→qbb (G.map f) (e++[.sgn])
 | [],_,_,_,_=>trivial
 | .upd i::es,m,l,q,h=>by
  refine⟨fun y o=> ?_,qbb.sgn m l (fun j C=>q j (List.mem_cons_of_mem _ C)) h.2⟩
  show y.cov=qas (qk (es++[.sgn]))∧y.pre=qbq (qk (es++[.sgn]))
  rw[List.getElem?_map] at o
  cases v:G[i]? with
  | none=>rw[v] at o;cases o
  | some g =>
   rw[v] at o
   injection o with o
   subst o
   obtain⟨x,z⟩:=q i (List.mem_cons_self ..) g v
   have w:qk es=0∨qk es=2:=zds (qgb es m) l
   rw[x,z,(h.1 g v).2,qt6 es w]
   rcases w with e | e<;>rw[e]<;>exact⟨rfl,rfl⟩
 | .sgn::es,m,l,_,_=>by
  rcases qgo m with ⟨-,e⟩ | ⟨-,e⟩<;>rw[e] at l<;>cases l
 | .rev::es,m,l,q,h=>qbb.sgn (e:=es) (qrx m l).1 (qrx m l).2 q h
 | .shut::es,m,l,q,h=>qbb.sgn (e:=es) m l q h
theorem q9r(g:Ch)(M:MsgV):((g.say M).turned).sgnOf=⟨6,g.s.ch,0,0,z8 false g.s.key g.s.ch g.k.signed g.loc g.rem g.xs,0,g.k.signed⟩:=by
 unfold Ch.sgnOf
 rfl
theorem q5z{P:Pt}(hK:K.Ok)(h:Inv K n P)(I:qbo P.c=0) :
  ∃P',Goes K (n+1) P P.c.sign.1 (P.out++[P.c.sign.2.1]) P.inn P':=by
 obtain⟨s,c,d,eo,ei,G,la,nu,lb,nv⟩:=P
 obtain⟨ea,eb,ab,ba,it,ok,pw,few⟩:=h
 simp only at ea eb ab ba it ok pw few I
 have e1:c.sign=((c.signing.say (qax c)).turned,(qax c).on c.s.ch,0):=qtu I
 unfold qbo at I
 split at I
 ·cases I
 rename_i h1
 split at I
 ·cases I
 rename_i h2
 split at I
 ·cases I
 rename_i h3
 have a9:c.k.awaits=false:=by simpa using h1
 have a5:qaj 1 c.xs=true:=by simpa using h2
 have hb:=ab.aw
 rw[a9] at hb
 have H:qas (qk eo)=false:=by cases e:qas (qk eo)<;>rw[e] at hb<;>simp at hb ⊢
 have Z:qbq (qk ei)=false:=by rw[H] at hb;simpa using hb.symm
 have hw:qk eo=0∨qk eo=2:=zds (qgb eo ab.w9) H
 have w:qk (eo++[.sgn])=qv0 (qk eo):=qt6 eo hw
 have nn:=qka ok
 have l:=qft it
 have b6:=hK.cap
 have b7:=hK.sum s
 have cl:=qh8 (qs s) 1 G nn
 have b8:=qjc (qs s) ((qs s).on 1) G (L:=(K.S s).ours) (R:=(K.S (!s)).ours) (fun g m=>qlx (qep it s g m)) nn cl.1 cl.2 (by rw[←ea.loc];exact ea.pos.1) (by rw[←ea.rem];exact ea.pos.2)
 obtain⟨s1,s2,s3,v,T,s6,s7,s8⟩:=qvx (qs s) G nn ea.perm ea.loc ea.rem ea.pos.1 ea.pos.2 (by omega) (by omega)
 obtain⟨m1,m2,m3⟩:=qkw (qdm s) (qs s) ((qs s).on 1) (G:=G) fun g _=>⟨rfl,by
  show (if g.own=s then (qdm s g).so else (qdm s g).st)=zm (if g.own=s then g.so else g.st) (g.own==s) 1
  rcases za g.own s with e | e
  ·rw[if_pos e,if_pos e,(qcj e).1,e];simp
  ·rw[if_neg (qbv e),if_neg (qbv e),(qdb e).2,e];simp,rfl,rfl⟩
 have b4:∀g∈G,oGe s 1 (qdm s g)=oGe s 0 g:=fun g m=>by
  unfold oGe
  rw[show (qdm s g).own=g.own from rfl]
  rcases za g.own s with e | e
  ·rw[(qcj e).1,(qfo (l g m).1).2.2.1]
  ·rw[e];simp
 have b3:∀g∈G,oGe s 0 (qdm s g)=oGe s 0 g:=fun g m=>by
  unfold oGe
  rw[show (qdm s g).own=g.own from rfl]
  rcases za g.own s with e | e
  ·rw[(qcj e).1,(qfo (l g m).1).2.2.2.1]
  ·rw[e];simp
 have hq:∀g∈G,g.own=s→g.so≠1∧decide (1≤g.st)=decide (1≤g.so):=fun g m e=>by
  have:=qyi _ (it g m)
  rw[qdd e] at this
  exact this H Z
 have b5:∀g∈G,g.own = !s→g.st≠6:=fun g m e=>by
  have:=qvl _ (it g m)
  rw[qdj e] at this
  exact this H Z
 have W:cnt (oGe s 1) (G.map (qdm s))=c.k.nextOwn:=by rw[qf1,qej b4,ea.nOwn]
 have o:∀k:Nat,((G.map (qdm s))[k]?).map Gi.key=(G[k]?).map Gi.key:=fun k=>qmh (f:=qdm s) (fun g=>rfl) G k
 have b9:∀t,∀g∈G,Gi.pend t (qdm s g)=Gi.pend t g:=fun t g _=>rfl
 have a6:∀t,amt (qai t) (G.map (qdm s))=amt (qai t) G:=fun t=>qwb (fun _ _=>rfl) fun _ _=>rfl
 have F:((c.signing.say (qax c)).turned).sgnOf=(qax c).on c.s.ch:=by
  rw[zdc c.s.ch (show qax c=⟨6,0,0,0,z8 false c.s.key c.s.ch (c.k.signed+1) c.signing.loc c.signing.rem c.signing.xs,0,c.k.signed+1⟩ by unfold qax;rfl),q9r,T,v]
 have V:((c.signing.say (qax c)).turned).news=[]:=rfl
 have z:((c.signing.say (qax c)).turned).last=c.news++[(qax c).on c.s.ch]:=by
  show c.signing.news++[(qax c).on c.signing.s.ch]=_
  rw[T,s6]
 replace s1:((c.signing.say (qax c)).turned).xs.Perm _:=s1
 replace s2:((c.signing.say (qax c)).turned).loc=_:=s2
 replace s3:((c.signing.say (qax c)).turned).rem=_:=s3
 replace v:((c.signing.say (qax c)).turned).k=_:=v
 replace T:((c.signing.say (qax c)).turned).s=_:=T
 replace s8:((c.signing.say (qax c)).turned).shelf=_:=s8
 rw[e1]
 generalize (c.signing.say (qax c)).turned=c' at *
 generalize (qax c).on c.s.ch=M at *
 clear e1 s6 s7
 show ∃P',Goes K (n+1) ⟨s,c,d,eo,ei,G,la,nu,lb,nv⟩ c' (msE s c G eo++[M]) (msE (!s) d G ei) P'
 refine⟨⟨s,c',d,eo++[.sgn],ei,G.map (qdm s),nu,[],lb,nv⟩,⟨?_,?_,?_,?_,?_,?_,?_,?_⟩,rfl,rfl,rfl,?_,?_⟩
 ·refine⟨T.trans ea.set,?_,?_,?_,?_,?_,?_,?_,Idx.none ?_,?_,V,?_,?_,?_⟩
  ·rw[m1];exact s1
  ·rw[m2];exact s2
  ·rw[m3];exact s3
  ·exact⟨by show 0≤c'.loc;omega,by show 0≤c'.rem;omega⟩
  ·show c'.k.nextOwn=_
   rw[v,qf1,qej b3];exact ea.nOwn
  ·show c'.k.nextTheirs=_
   rw[v,qbf fun g m=> ?_]
   ·exact ea.nTh
   ·unfold pGe
    rw[show (qdm s g).own=g.own from rfl]
    rcases za g.own s with e | e
    ·rw[e];simp
    ·rw[(qdb e).2,(qfo (l g m).2.1).2.2.2.2.1]
  ·intro y Y e1 _
   rw[W]
   obtain⟨g,m,rfl⟩:=List.mem_map.1 Y
   have J:g.own=s:=e1
   show g.h.id<_
   rename_i N
   rw[(qcj J).1] at N
   have h0:0≤g.so:=by
    have:=(qfo (l g m).1).2.2.1
    rw[decide_eq_true N] at this
    simpa using this.symm
   by_cases a8:1≤g.so
   ·have:=ea.low g m J a8
    have:=ea.nuI.rng.1
    omega
   ·obtain⟨j,hj⟩:=List.getElem?_of_mem m
    have a7:g.so=0:=by omega
    exact(ea.nuI.rng.2 j ((ea.nuS.iff j).2 ⟨g,hj,by unfold Gi.unsg;rw[J,a7];simp⟩) g hj J).2
  ·intro y Y
   obtain⟨g,m,rfl⟩:=List.mem_map.1 Y
   unfold Gi.unsg
   rw[show (qdm s g).own=g.own from rfl]
   rcases za g.own s with e | e
   ·have:=(qfo (l g m).1).1
    rw[(qcj e).1,e];simp[this]
   ·have:=(qfo (l g m).2.1).2.1
    rw[(qdb e).2,e];simp[this]
  ·show Ids _ s _ [] c'.k.nextOwn
   rw[v,W]
   rfl
  ·rw[show cnt (qbi s) (G.map (qdm s))=cnt (qbi s) G from qbf fun g m=> ?_]
   ·exact ea.many
   ·unfold qbi
    rw[show (qdm s g).own=g.own from rfl]
    rcases za g.own s with e | e
    ·rw[(qcj e).1,(qfo (l g m).1).2.2.2.1,(qfo (l g m).1).2.2.2.2.2.1]
    ·rw[e];simp
  ·show qpr _ c'.shelf
   rw[s8];exact ea.shelf
  ·rw[v]
   obtain⟨n1,n2,-⟩:=ea.nums
   exact⟨n1,⟨by show 0≤c.k.signed+1;omega,by show c.k.signed+1≤65535;omega⟩,fun _=>by show 1≤c.k.signed+1;omega⟩
 ·refine eb.mapS (fun _=>rfl) (fun _=>rfl) (fun _=>rfl) (fun g m=> ?_) fun _=>rfl
  show (if g.own = !s then (qdm s g).so else (qdm s g).st)=if g.own = !s then g.so else g.st
  rcases za g.own s with e | e
  ·rw[if_neg (qg6 e),if_neg (qg6 e),(qcj e).2]
  ·rw[if_pos e,if_pos e,(qdb e).1]
 ·have hu:ups (eo++[.sgn])=ups eo:=by rw[qgm];exact List.append_nil _
  have C:qas (qv0 (qk eo))=true∧qbq (qv0 (qk eo))=qbq (qk eo)∧qv0 (qk eo)≠9∧qv0 (qk eo)≠3:=by
   rcases hw with e | e<;>rw[e]<;>decide
  refine⟨by rw[w];exact C.2.2.1,fun _=>Z,?_,?_,?_,?_,?_,?_,?_,?_,?_,?_,?_,?_⟩
  ·show c'.k.signed=_
   have O:=ab.sig
   rw[H] at O
   rw[v,w,C.1]
   show c.k.signed+1=_
   rw[O]
   simp
  ·show c'.k.awaits=_
   rw[v,w,C.1]
   rfl
  ·rw[w];exact fun e=>absurd e C.2.2.2
  ·intro _
   show c'.k.revoked=false
   rw[v]
  ·rw[hu];exact ab.upd.map _ fun g _=>rfl
  ·refine ab.along.sgn ab.w9 H fun j hj g m=>⟨?_,rfl⟩
   show (if Gi.pend s g=true then true else g.cov)=true
   rw[if_pos (ab.upd.yes hj m)]
  ·rw[hu]
   show Ids _ s d.k.nextTheirs _ c'.k.nextOwn
   rw[v]
   exact ab.ids.congr fun k _=>o k
  ·intro _
   refine⟨ea.nuS.map _ fun g m=> ?_,?_,?_⟩
   ·unfold Gi.covd Gi.unsg
    rw[show (qdm s g).own=g.own from rfl]
    rcases za g.own s with e | e
    ·rw[(qcj e).1,(qfo (l g m).1).2.2.2.2.2.2.2.2.1 (hq g m e).1,e];simp
    ·rw[(qdb e).2,(qfo (l g m).2.1).2.2.2.2.2.2.2.2.2 (b5 g m e),e];simp
   ·rw[W]
    have D:cnt (pGe s 1) (G.map (qdm s))=cnt (oGe s 1) G:=by
     rw[qf1]
     refine qej fun g m=> ?_
     unfold pGe oGe
     rw[show (qdm s g).own=g.own from rfl]
     rcases za g.own s with e | e
     ·rw[(qcj e).2,(hq g m e).2]
     ·rw[e];simp
    rw[D]
    exact ea.nuI.congr fun k _=>o k
   ·rw[F,z,ea.news]
    congr 1
    exact(qbz T fun k _=>o k).symm
  ·show c'.last.length≤n+1
   have:=ea.nuS.len
   rw[z,ea.news,List.length_append,List.length_singleton]
   unfold msU
   rw[List.length_map]
   omega
  ·show qbe _ s c'.k.shutSaid d.k.shutHeard _
   rw[v]
   exact qbe.snoc (by intro e;cases e) (fun _ _ e=>by cases e) (ab.shut.congr fun k _=>o k)
  ·rw[w,C.2.1,a6];exact ab.m1
  ·intro _
   obtain⟨x,hx,a4⟩:=List.any_eq_true.1 a5
   obtain⟨j,g,m,ex,hb⟩:=qfv ea.perm hx
   have X:=List.mem_of_getElem? m
   refine⟨qdm s g,List.mem_map_of_mem X,?_⟩
   have q:qv x.state x.own 1≠x.state:=by unfold chg at a4;simpa using a4
   rw[ex] at q
   have q:qv (if g.own=s then g.so else g.st) (g.own==s) 1≠if g.own=s then g.so else g.st:=q
   unfold Gi.moved
   rw[show (qdm s g).own=g.own from rfl]
   rcases za g.own s with e | e
   ·rw[if_pos e,e] at q
    have q:qv g.so true 1≠g.so:=by simpa using q
    have:=(qfo (l g X).1).2.2.2.2.2.2.1
    rw[(qhh (l g X).1 true).1] at this
    rw[(qcj e).1,(qhh (l g X).1 true).1,e]
    rcases this q with N | N<;>rw[N]<;>simp
   ·rw[if_neg (qbv e),e] at q
    have q:qv g.st false 1≠g.st:=by simpa using q
    have:=(qfo (l g X).2.1).2.2.2.2.2.2.2.1
    rw[(qhh (l g X).2.1 false).1] at this
    rw[(qdb e).2,(qhh (l g X).2.1 false).1,e]
    rcases this q with N | N<;>rw[N]<;>simp
 ·refine(ba.mono (Nat.le_succ n)).keep ⟨rfl,rfl,rfl,rfl,rfl⟩ rfl rfl (fun _=>rfl) ⟨?_,?_,?_⟩ ?_ ?_ (ba.upd.map _ fun g _=>rfl) ?_ (fun k _=>o k) (fun _ i=>⟨i.map _ fun g m=> ?_,fun k _=>o k⟩) (qbf fun g m=> ?_) (qbf fun g m=> ?_) (qux fun g m=> ?_)
  ·show c'.k.heard=_;rw[v]
  ·show c'.k.nextTheirs=_;rw[v]
  ·show c'.k.shutHeard=_;rw[v]
  ·rw[w];rcases hw with e | e<;>rw[e]<;>rfl
  ·intro e
   rw[Z] at e
   cases e
  ·refine qk3 ba.along fun j hj g m=>⟨?_,rfl⟩
   have D:=ba.upd.yes hj m
   show (if Gi.pend s g=true then true else g.cov)=g.cov
   rw[if_neg]
   intro E
   unfold Gi.pend at D E
   rcases za g.own s with e | e
   ·rw[e] at D E;simp at D E;omega
   ·rw[e] at D E;simp at D E;omega
  ·unfold Gi.covd
   rw[show (qdm s g).own=g.own from rfl]
   rcases za g.own s with e | e
   ·rw[(qcj e).2,e];simp
   ·rw[(qdb e).1,e];simp
  ·unfold pGe
   rw[show (qdm s g).own=g.own from rfl]
   rcases za g.own s with e | e
   ·rw[e];simp
   ·rw[(qdb e).2]
    have:∀ {x:Int},-1≤x∧x≤9→decide (1≤zm x false 1)=decide (1≤x):=qlt (p:=fun x=>decide (1≤zm x false 1)=decide (1≤x)) (by decide +kernel)
    rw[this (l g m).2.1]
  ·unfold oGe
   rw[show (qdm s g).own=g.own from rfl]
   rcases za g.own s with e | e
   ·rw[e];simp
   ·rw[(qdb e).1]
  ·unfold Gi.moved
   rw[show (qdm s g).own=g.own from rfl]
   rcases za g.own s with e | e
   ·rw[(qcj e).2,e];simp
   ·rw[(qdb e).1,e];simp
 ·intro y Y
  show y.it s (qk (eo++[.sgn])) (qk ei)∈qav
  obtain⟨g,m,rfl⟩:=List.mem_map.1 Y
  have hi:=it g m
  rw[w]
  rcases za g.own s with e | e
  ·rw[qdd (g:=qdm s g) (s:=s) e,(qcj e).1,(qcj e).2,(qhh (l g m).1 true).1]
   rw[qdd e] at hi
   have D:(qdm s g).cov=if g.up=1 then true else g.cov:=by
    show (if Gi.pend s g=true then true else g.cov)=_
    rw[qip e];simp
   rw[D]
   exact qyj _ hi H Z
  ·rw[qdj (g:=qdm s g) (s:=s) e,(qdb e).1,(qdb e).2,(qhh (l g m).2.1 false).1]
   rw[qdj e] at hi
   have D:(qdm s g).cov=if g.up=2 then true else g.cov:=by
    show (if Gi.pend s g=true then true else g.cov)=_
    rw[qmw e];simp
   rw[D]
   exact qyk _ hi H Z
 ·intro y Y
  obtain⟨g,m,rfl⟩:=List.mem_map.1 Y
  have ho:=ok g m
  refine⟨ho.id,ho.amount,ho.hash,ho.expiry,fun e=> ?_⟩
  refine ho.um ?_
  rcases za g.own s with U | U
  ·rw[(qcj U).2] at e
   exact e
  ·rw[(qdb U).2] at e
   have:∀ {x:Int},-1≤x∧x≤9→(zm x false 1=5∨zm x false 1=6→x=5∨x=6):=qlt (p:=fun x=>zm x false 1=5∨zm x false 1=6→x=5∨x=6) (by decide +kernel)
   exact this (l g m).2.1 e
 ·show ((G.map (qdm s)).map Gi.pk).Pairwise Apt
  rw[q07 fun g m=> ?_]
  ·exact pw
  ·unfold Gi.pk
   rcases za g.own s with e | e
   ·rw[(qcj e).1,(qfo (l g m).1).2.2.2.1];rfl
   ·rw[(qdb e).1];rfl
 ·show (G.map (qdm s)).length≤n+1
  rw[List.length_map]
  omega
 ·show msE s c' (G.map (qdm s)) (eo++[.sgn])=msE s c G eo++[M]
  unfold msE
  rw[List.map_append]
  congr 1
  ·refine qc9 ab.w9 T (fun k _=>o k) (fun e=>by rw[H] at e;cases e) (fun _=>qiq T ?_)
   show c'.k.heard=_
   rw[v]
  ·show [c'.sgnOf]=_
   rw[F]
 ·exact qc9 ba.w9 rfl (fun k _=>o k) (fun _=>rfl) (fun _=>rfl)
end
end Go.Proofs.YtjpmomdechibmaaGreatDoor
