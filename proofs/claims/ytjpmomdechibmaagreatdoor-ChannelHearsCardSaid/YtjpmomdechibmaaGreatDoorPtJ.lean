/-
  The protocol, plain: the ghost list goes on as a whole; a Sign keeps the invariant; so does a Shut.
-/
import Derived.Test.YtjpmomdechibmaaGreatDoorMef
set_option linter.unusedVariables false
set_option linter.unusedSimpArgs false
namespace Go.Proofs.YtjpmomdechibmaaGreatDoor
open Go.RowKit
theorem zb8:∀i:Fin 11,∀m:Bool,(zl ((i.val:Int)-1) m 1=q8 ((i.val:Int)-1) m 1∧zl ((i.val:Int)-1) m 2=q8 ((i.val:Int)-1) m 2∧zl ((i.val:Int)-1) m 3=q8 ((i.val:Int)-1) m 3∧zl ((i.val:Int)-1) m 4=q8 ((i.val:Int)-1) m 4):=by decide +kernel
theorem qk7{p:Int→Prop}(h:∀i:Fin 11,p ((i.val:Int)-1)){x:Int}(g : -1≤x∧x≤9):p x:=by
 have:=h ⟨(x+1).toNat,by omega⟩
 rwa [show (((x+1).toNat:Nat):Int)-1=x by omega] at this
theorem qg4{x:Int}(g : -1≤x∧x≤9)(m:Bool):zl x m 1=q8 x m 1∧zl x m 2=q8 x m 2∧zl x m 3=q8 x m 3∧zl x m 4=q8 x m 4:=qk7 (p:=fun x=>zl x m 1=q8 x m 1∧zl x m 2=q8 x m 2∧zl x m 3=q8 x m 3∧zl x m 4=q8 x m 4) (fun i=>zb8 i m) g
theorem qe8:∀ {x:Int},-1≤x∧x≤9→zl x true 1≠0∧zl x false 1≠5∧decide (1≤zl x true 1)=decide (0≤x)∧decide (0≤zl x true 1)=decide (0≤x)∧decide (0≤zl x false 1)=decide (0≤x)∧decide (zl x true 1≤8)=decide (x≤8)∧(zl x true 1≠x→zl x true 1=1∨zl x true 1=8)∧(zl x false 1≠x→zl x false 1=3∨zl x false 1=6)∧(x≠1→(zl x true 1==1)=(x==0))∧(x≠6→(zl x false 1==6)=(x==5)) :=
 qk7 (p:=fun x=>zl x true 1≠0∧zl x false 1≠5∧decide (1≤zl x true 1)=decide (0≤x)∧decide (0≤zl x true 1)=decide (0≤x)∧decide (0≤zl x false 1)=decide (0≤x)∧decide (zl x true 1≤8)=decide (x≤8)∧(zl x true 1≠x→zl x true 1=1∨zl x true 1=8)∧(zl x false 1≠x→zl x false 1=3∨zl x false 1=6)∧(x≠1→(zl x true 1==1)=(x==0))∧(x≠6→(zl x false 1==6)=(x==5))) (by decide +kernel)
section
variable {K:Kon}{n:Nat}{s t:Bool}{c d:Ch}{eo ei:List En}{G:List Gi}{la nu lb nv:List Nat}{f:Gi→Gi}
theorem qkk{e:List En}(h:qa3 G e)(m:∀j∈ups e,∀g,G[j]? = some g→(f g).cov=g.cov∧(f g).pre=g.pre):qa3 (G.map f) e:=by
 refine h.congr fun k o y i=> ?_
 rw[List.getElem?_map] at i
 cases l:G[k]? with
 | none=>rw[l] at i;cases i
 | some g =>
  rw[l] at i
  injection i with i
  subst i
  exact⟨g,rfl,m k o g l⟩
theorem qtp{p:Gi→Bool}(l:∀g∈G,p g=true→p (f g)=true)(h:∃y∈G,p y=true):∃y∈G.map f,p y=true:=by
 obtain⟨y,j,i⟩:=h
 exact⟨f y,List.mem_map_of_mem j,l y j i⟩
theorem qa7{p:Gi→Bool}(i:∀g∈G,p (f g)=p g):cnt p (G.map f)=cnt p G:=by rw[qfi];exact qd6 i
theorem qu7{p:Gi→Bool}(j:∀g∈G,(f g).h=g.h)(l:∀g∈G,p (f g)=p g):amt p (G.map f)=amt p G:=by
 rw[qlk]
 exact qeo fun g i=>by rw[l g i,j g i]
theorem EndI.mapS(h:EndI K t c G nu)(l:∀g,(f g).own=g.own)(v:∀g,(f g).h=g.h)(D:∀g,(f g).um=g.um)(w:∀g∈G,(qs t).st (f g)=(qs t).st g)(C:∀g,(f g).paid=g.paid):EndI K t c (G.map f) nu:=by
 have o:∀g∈G,g.own=t→(f g).so=g.so:=fun g i e=>by
  have:(if (f g).own=t then (f g).so else (f g).st)=if g.own=t then g.so else g.st:=w g i
  rwa [l,if_pos e,if_pos e] at this
 have z:∀g∈G,¬g.own=t→(f g).st=g.st:=fun g i e=>by
  have:(if (f g).own=t then (f g).so else (f g).st)=if g.own=t then g.so else g.st:=w g i
  rwa [l,if_neg e,if_neg e] at this
 obtain⟨m1,F,H⟩:=qkd f (qs t) (qs t) (G:=G) fun g i=>⟨by show ((f g).own==t)=(g.own==t);rw[l],w g i,v g,C g⟩
 have m:∀k,∀g∈G,oGe t k (f g)=oGe t k g:=fun k g i=>by
  unfold oGe
  rw[l]
  rcases qy g.own t with e | e
  ·rw[o g i e]
  ·rw[e];simp
 have j:∀k∈nu,((G.map f)[k]?).map Gi.key=(G[k]?).map Gi.key:=fun k _=>qls (fun g=>by unfold Gi.key;rw[l,v,D]) G k
 refine⟨h.set,by rw[m1];exact h.perm,by rw[F];exact h.loc,by rw[H];exact h.rem,h.pos,by rw[qa7 (m 0)];exact h.nOwn,?_,?_,h.nuS.map f ?_,?_,?_,?_,h.shelf,h.nums⟩
 ·rw[qa7 fun g i=> ?_]
  ·exact h.nTh
  ·unfold pGe
   rw[l]
   rcases qy g.own t with e | e
   ·rw[e];simp
   ·rw[z g i (qbt e)]
 ·rw[qa7 (m 1)]
  intro y E q x
  obtain⟨g,i,rfl⟩:=List.mem_map.1 E
  rw[l] at q
  rw[o g i q] at x
  rw[v]
  exact h.low g i q x
 ·intro g i
  unfold Gi.unsg
  rw[l]
  rcases qy g.own t with e | e
  ·rw[o g i e,e];simp
  ·rw[z g i (qbt e),e];simp
 ·rw[qa7 (m 1)]
  exact h.nuI.congr j
 ·rw[h.news]
  exact(qbr rfl j).symm
 ·rw[qa7 fun g i=> ?_]
  ·exact h.many
  ·unfold qbf
   rw[l]
   rcases qy g.own t with e | e
   ·rw[o g i e]
   ·rw[e];simp
end
def qdb(s:Bool)(g:Gi):Gi:= {g with so:=if g.own=s then zl g.so true 1 else g.so,st:=if g.own=s then g.st else zl g.st false 1,cov:=if Gi.pend s g=true then true else g.cov}
theorem qw8:∀x∈qat,qak x.2.2.2.2.1=false→qbi x.2.2.2.2.2=false→x.1≠1∧decide (1≤x.2.1)=decide (1≤x.1):=by decide +kernel
theorem quf:∀x∈qat,qak x.2.2.2.2.2=false→qbi x.2.2.2.2.1=false→x.2.1≠6:=by decide +kernel
section
variable {K:Kon}{n:Nat}{s t:Bool}{c d:Ch}{eo ei:List En}{G:List Gi}{la nu lb nv:List Nat}
theorem qb7{g:Gi}(h:g.own=s):(qdb s g).so=zl g.so true 1∧(qdb s g).st=g.st:=by unfold qdb;simp only[h,if_true];exact⟨trivial,trivial⟩
theorem qc0{g:Gi}(h:g.own = !s):(qdb s g).so=g.so∧(qdb s g).st=zl g.st false 1:=by unfold qdb;simp only[if_neg (qbt h)];exact⟨trivial,trivial⟩
theorem qib{g:Gi}(h:g.own=s):Gi.pend s g=(g.up==1):=by unfold Gi.pend;rw[h];simp
theorem ql7{g:Gi}(h:g.own = !s):Gi.pend s g=(g.up==2):=by unfold Gi.pend;rw[h];simp
theorem qqt{x:En}{e:List En}(i:qj (x::e)≠9)(g:qak (qj (x::e))=false):qj e≠9∧qak (qj e)=false:=by
 cases x with
 | upd j=>exact⟨i,g⟩
 | shut=>exact⟨i,g⟩
 | sgn=>rcases qgb i with ⟨-,e⟩ | ⟨-,e⟩<;>rw[e] at g<;>cases g
 | rev =>
  rcases qga i with ⟨l,e⟩ | ⟨-,e⟩
  ·rw[l];exact⟨by decide,rfl⟩
  ·rw[e] at g;cases g
theorem zbx{w:Nat}(h:w≤4)(g:qak w=false):w=0∨w=2:=by
 have:w=0∨w=1∨w=2∨w=3∨w=4:=by omega
 rcases this with rfl | rfl | rfl | rfl | rfl
 ·exact .inl rfl
 ·cases g
 ·exact .inr rfl
 ·cases g
 ·cases g
theorem qa3.sgn{f:Gi→Gi} : ∀ {e:List En},qj e≠9→qak (qj e)=false→(∀j∈ups e,∀g,G[j]? = some g→(f g).cov=true∧(f g).pre=g.pre)→qa3 G e→qa3 (G.map f) (e++[.sgn])
 | [],_,_,_,_=>trivial
 | .upd i::es,m,l,q,h=>by
  refine⟨fun y o=> ?_,qa3.sgn m l (fun j C=>q j (List.mem_cons_of_mem _ C)) h.2⟩
  show y.cov=qak (qj (es++[.sgn]))∧y.pre=qbi (qj (es++[.sgn]))
  rw[List.getElem?_map] at o
  cases v:G[i]? with
  | none=>rw[v] at o;cases o
  | some g =>
   rw[v] at o
   injection o with o
   subst o
   obtain⟨x,z⟩:=q i (List.mem_cons_self ..) g v
   have w:qj es=0∨qj es=2:=zbx (qfz es m) l
   rw[x,z,(h.1 g v).2,qsy es w]
   rcases w with e | e<;>rw[e]<;>exact⟨rfl,rfl⟩
 | .sgn::es,m,l,_,_=>by
  rcases qgb m with ⟨-,e⟩ | ⟨-,e⟩<;>rw[e] at l<;>cases l
 | .rev::es,m,l,q,h=>qa3.sgn (e:=es) (qqt m l).1 (qqt m l).2 q h
 | .shut::es,m,l,q,h=>qa3.sgn (e:=es) m l q h
theorem q7z(g:Ch)(M:MsgV):((g.say M).turned).sgnOf=⟨6,g.s.ch,0,0,zx false g.s.key g.s.ch g.k.signed g.loc g.rem g.xs,0,g.k.signed⟩:=by
 unfold Ch.sgnOf
 rfl
theorem q4b{P:Pt}(hK:K.Ok)(h:Inv K n P)(I:qfn P.c=0) :
  ∃P',Goes K (n+1) P P.c.sign.1 (P.out++[P.c.sign.2.1]) P.inn P':=by
 obtain⟨s,c,d,eo,ei,G,la,nu,lb,nv⟩:=P
 obtain⟨ea,eb,ab,ba,it,ok,pw,few⟩:=h
 simp only at ea eb ab ba it ok pw few I
 have e1:c.sign=((c.signing.say (qao c)).turned,(qao c).on c.s.ch,0):=qsm I
 unfold qfn at I
 split at I
 ·cases I
 rename_i h1
 split at I
 ·cases I
 rename_i h2
 split at I
 ·cases I
 rename_i h3
 have a9:c.k.awaits=false:=by simpa using h1
 have a5:qbe 1 c.xs=true:=by simpa using h2
 have hb:=ab.aw
 rw[a9] at hb
 have H:qak (qj eo)=false:=by cases e:qak (qj eo)<;>rw[e] at hb<;>simp at hb ⊢
 have Z:qbi (qj ei)=false:=by rw[H] at hb;simpa using hb.symm
 have hw:qj eo=0∨qj eo=2:=zbx (qfz eo ab.w9) H
 have w:qj (eo++[.sgn])=quv (qj eo):=qsy eo hw
 have nn:=qjr ok
 have l:=qfc it
 have b6:=hK.cap
 have b7:=hK.sum s
 have cl:=qht (qs s) 1 G nn
 have b8:=qix (qs s) ((qs s).on 1) G (L:=(K.S s).ours) (R:=(K.S (!s)).ours) (fun g m=>qk9 (qe1 it s g m)) nn cl.1 cl.2 (by rw[←ea.loc];exact ea.pos.1) (by rw[←ea.rem];exact ea.pos.2)
 obtain⟨s1,s2,s3,v,T,s6,s7,s8⟩:=qur (qs s) G nn ea.perm ea.loc ea.rem ea.pos.1 ea.pos.2 (by omega) (by omega)
 obtain⟨m1,m2,m3⟩:=qkd (qdb s) (qs s) ((qs s).on 1) (G:=G) fun g _=>⟨rfl,by
  show (if g.own=s then (qdb s g).so else (qdb s g).st)=zl (if g.own=s then g.so else g.st) (g.own==s) 1
  rcases qy g.own s with e | e
  ·rw[if_pos e,if_pos e,(qb7 e).1,e];simp
  ·rw[if_neg (qbt e),if_neg (qbt e),(qc0 e).2,e];simp,rfl,rfl⟩
 have b4:∀g∈G,oGe s 1 (qdb s g)=oGe s 0 g:=fun g m=>by
  unfold oGe
  rw[show (qdb s g).own=g.own from rfl]
  rcases qy g.own s with e | e
  ·rw[(qb7 e).1,(qe8 (l g m).1).2.2.1]
  ·rw[e];simp
 have b3:∀g∈G,oGe s 0 (qdb s g)=oGe s 0 g:=fun g m=>by
  unfold oGe
  rw[show (qdb s g).own=g.own from rfl]
  rcases qy g.own s with e | e
  ·rw[(qb7 e).1,(qe8 (l g m).1).2.2.2.1]
  ·rw[e];simp
 have hq:∀g∈G,g.own=s→g.so≠1∧decide (1≤g.st)=decide (1≤g.so):=fun g m e=>by
  have:=qw8 _ (it g m)
  rw[qc8 e] at this
  exact this H Z
 have b5:∀g∈G,g.own = !s→g.st≠6:=fun g m e=>by
  have:=quf _ (it g m)
  rw[qdi e] at this
  exact this H Z
 have W:cnt (oGe s 1) (G.map (qdb s))=c.k.nextOwn:=by rw[qfi,qd6 b4,ea.nOwn]
 have o:∀k:Nat,((G.map (qdb s))[k]?).map Gi.key=(G[k]?).map Gi.key:=fun k=>qls (f:=qdb s) (fun g=>rfl) G k
 have b9:∀t,∀g∈G,Gi.pend t (qdb s g)=Gi.pend t g:=fun t g _=>rfl
 have a6:∀t,amt (z8 t) (G.map (qdb s))=amt (z8 t) G:=fun t=>qu7 (fun _ _=>rfl) fun _ _=>rfl
 have F:((c.signing.say (qao c)).turned).sgnOf=(qao c).on c.s.ch:=by
  rw[zbk c.s.ch (show qao c=⟨6,0,0,0,zx false c.s.key c.s.ch (c.k.signed+1) c.signing.loc c.signing.rem c.signing.xs,0,c.k.signed+1⟩ by unfold qao;rfl),q7z,T,v]
 have V:((c.signing.say (qao c)).turned).news=[]:=rfl
 have z:((c.signing.say (qao c)).turned).last=c.news++[(qao c).on c.s.ch]:=by
  show c.signing.news++[(qao c).on c.signing.s.ch]=_
  rw[T,s6]
 replace s1:((c.signing.say (qao c)).turned).xs.Perm _:=s1
 replace s2:((c.signing.say (qao c)).turned).loc=_:=s2
 replace s3:((c.signing.say (qao c)).turned).rem=_:=s3
 replace v:((c.signing.say (qao c)).turned).k=_:=v
 replace T:((c.signing.say (qao c)).turned).s=_:=T
 replace s8:((c.signing.say (qao c)).turned).shelf=_:=s8
 rw[e1]
 generalize (c.signing.say (qao c)).turned=c' at *
 generalize (qao c).on c.s.ch=M at *
 clear e1 s6 s7
 show ∃P',Goes K (n+1) ⟨s,c,d,eo,ei,G,la,nu,lb,nv⟩ c' (msE s c G eo++[M]) (msE (!s) d G ei) P'
 refine⟨⟨s,c',d,eo++[.sgn],ei,G.map (qdb s),nu,[],lb,nv⟩,⟨?_,?_,?_,?_,?_,?_,?_,?_⟩,rfl,rfl,rfl,?_,?_⟩
 ·refine⟨T.trans ea.set,?_,?_,?_,?_,?_,?_,?_,Idx.none ?_,?_,V,?_,?_,?_⟩
  ·rw[m1];exact s1
  ·rw[m2];exact s2
  ·rw[m3];exact s3
  ·exact⟨by show 0≤c'.loc;omega,by show 0≤c'.rem;omega⟩
  ·show c'.k.nextOwn=_
   rw[v,qfi,qd6 b3];exact ea.nOwn
  ·show c'.k.nextTheirs=_
   rw[v,qa7 fun g m=> ?_]
   ·exact ea.nTh
   ·unfold pGe
    rw[show (qdb s g).own=g.own from rfl]
    rcases qy g.own s with e | e
    ·rw[e];simp
    ·rw[(qc0 e).2,(qe8 (l g m).2.1).2.2.2.2.1]
  ·intro y Y e1 _
   rw[W]
   obtain⟨g,m,rfl⟩:=List.mem_map.1 Y
   have J:g.own=s:=e1
   show g.h.id<_
   rename_i N
   rw[(qb7 J).1] at N
   have h0:0≤g.so:=by
    have:=(qe8 (l g m).1).2.2.1
    rw[decide_eq_true N] at this
    simpa using this.symm
   by_cases a8:1≤g.so
   ·have:=ea.low g m J a8
    have:=ea.nuI.rng.1
    omega
   ·obtain⟨j,hj⟩:=List.getElem?_of_mem m
    have a7:g.so=0:=by omega
    exact(ea.nuI.rng.2 j ((ea.nuS.iff j).2 ⟨g,hj,by unfold Gi.unsg;rw[J,a7];simp⟩) g hj J).2
  ·intro y Y
   obtain⟨g,m,rfl⟩:=List.mem_map.1 Y
   unfold Gi.unsg
   rw[show (qdb s g).own=g.own from rfl]
   rcases qy g.own s with e | e
   ·have:=(qe8 (l g m).1).1
    rw[(qb7 e).1,e];simp[this]
   ·have:=(qe8 (l g m).2.1).2.1
    rw[(qc0 e).2,e];simp[this]
  ·show Ids _ s _ [] c'.k.nextOwn
   rw[v,W]
   rfl
  ·rw[show cnt (qbf s) (G.map (qdb s))=cnt (qbf s) G from qa7 fun g m=> ?_]
   ·exact ea.many
   ·unfold qbf
    rw[show (qdb s g).own=g.own from rfl]
    rcases qy g.own s with e | e
    ·rw[(qb7 e).1,(qe8 (l g m).1).2.2.2.1,(qe8 (l g m).1).2.2.2.2.2.1]
    ·rw[e];simp
  ·show qow _ c'.shelf
   rw[s8];exact ea.shelf
  ·rw[v]
   obtain⟨n1,n2,-⟩:=ea.nums
   exact⟨n1,⟨by show 0≤c.k.signed+1;omega,by show c.k.signed+1≤65535;omega⟩,fun _=>by show 1≤c.k.signed+1;omega⟩
 ·refine eb.mapS (fun _=>rfl) (fun _=>rfl) (fun _=>rfl) (fun g m=> ?_) fun _=>rfl
  show (if g.own = !s then (qdb s g).so else (qdb s g).st)=if g.own = !s then g.so else g.st
  rcases qy g.own s with e | e
  ·rw[if_neg (qhl e),if_neg (qhl e),(qb7 e).2]
  ·rw[if_pos e,if_pos e,(qc0 e).1]
 ·have hu:ups (eo++[.sgn])=ups eo:=by rw[qf9];exact List.append_nil _
  have C:qak (quv (qj eo))=true∧qbi (quv (qj eo))=qbi (qj eo)∧quv (qj eo)≠9∧quv (qj eo)≠3:=by
   rcases hw with e | e<;>rw[e]<;>decide
  refine⟨by rw[w];exact C.2.2.1,fun _=>Z,?_,?_,?_,?_,?_,?_,?_,?_,?_,?_,?_,?_⟩
  ·show c'.k.signed=_
   have O:=ab.sig
   rw[H] at O
   rw[v,w,C.1]
   show c.k.signed+1=_
   rw[O]
   simp
  ·show c'.k.awaits=_
   rw[v,w,C.1]
   rfl
  ·rw[w];exact fun e=>absurd e C.2.2.2
  ·intro _
   show c'.k.revoked=false
   rw[v]
  ·rw[hu];exact ab.upd.map _ fun g _=>rfl
  ·refine ab.along.sgn ab.w9 H fun j hj g m=>⟨?_,rfl⟩
   show (if Gi.pend s g=true then true else g.cov)=true
   rw[if_pos (ab.upd.yes hj m)]
  ·rw[hu]
   show Ids _ s d.k.nextTheirs _ c'.k.nextOwn
   rw[v]
   exact ab.ids.congr fun k _=>o k
  ·intro _
   refine⟨ea.nuS.map _ fun g m=> ?_,?_,?_⟩
   ·unfold Gi.covd Gi.unsg
    rw[show (qdb s g).own=g.own from rfl]
    rcases qy g.own s with e | e
    ·rw[(qb7 e).1,(qe8 (l g m).1).2.2.2.2.2.2.2.2.1 (hq g m e).1,e];simp
    ·rw[(qc0 e).2,(qe8 (l g m).2.1).2.2.2.2.2.2.2.2.2 (b5 g m e),e];simp
   ·rw[W]
    have D:cnt (pGe s 1) (G.map (qdb s))=cnt (oGe s 1) G:=by
     rw[qfi]
     refine qd6 fun g m=> ?_
     unfold pGe oGe
     rw[show (qdb s g).own=g.own from rfl]
     rcases qy g.own s with e | e
     ·rw[(qb7 e).2,(hq g m e).2]
     ·rw[e];simp
    rw[D]
    exact ea.nuI.congr fun k _=>o k
   ·rw[F,z,ea.news]
    congr 1
    exact(qbr T fun k _=>o k).symm
  ·show c'.last.length≤n+1
   have:=ea.nuS.len
   rw[z,ea.news,List.length_append,List.length_singleton]
   unfold msU
   rw[List.length_map]
   omega
  ·show qa6 _ s c'.k.shutSaid d.k.shutHeard _
   rw[v]
   exact qa6.snoc (by intro e;cases e) (fun _ _ e=>by cases e) (ab.shut.congr fun k _=>o k)
  ·rw[w,C.2.1,a6];exact ab.m1
  ·intro _
   obtain⟨x,hx,a4⟩:=List.any_eq_true.1 a5
   obtain⟨j,g,m,ex,hb⟩:=qgt ea.perm hx
   have X:=List.mem_of_getElem? m
   refine⟨qdb s g,List.mem_map_of_mem X,?_⟩
   have q:q8 x.state x.own 1≠x.state:=by unfold chg at a4;simpa using a4
   rw[ex] at q
   have q:q8 (if g.own=s then g.so else g.st) (g.own==s) 1≠if g.own=s then g.so else g.st:=q
   unfold Gi.moved
   rw[show (qdb s g).own=g.own from rfl]
   rcases qy g.own s with e | e
   ·rw[if_pos e,e] at q
    have q:q8 g.so true 1≠g.so:=by simpa using q
    have:=(qe8 (l g X).1).2.2.2.2.2.2.1
    rw[(qg4 (l g X).1 true).1] at this
    rw[(qb7 e).1,(qg4 (l g X).1 true).1,e]
    rcases this q with N | N<;>rw[N]<;>simp
   ·rw[if_neg (qbt e),e] at q
    have q:q8 g.st false 1≠g.st:=by simpa using q
    have:=(qe8 (l g X).2.1).2.2.2.2.2.2.2.1
    rw[(qg4 (l g X).2.1 false).1] at this
    rw[(qc0 e).2,(qg4 (l g X).2.1 false).1,e]
    rcases this q with N | N<;>rw[N]<;>simp
 ·refine(ba.mono (Nat.le_succ n)).keep ⟨rfl,rfl,rfl,rfl,rfl⟩ rfl rfl (fun _=>rfl) ⟨?_,?_,?_⟩ ?_ ?_ (ba.upd.map _ fun g _=>rfl) ?_ (fun k _=>o k) (fun _ i=>⟨i.map _ fun g m=> ?_,fun k _=>o k⟩) (qa7 fun g m=> ?_) (qa7 fun g m=> ?_) (qtp fun g m=> ?_)
  ·show c'.k.heard=_;rw[v]
  ·show c'.k.nextTheirs=_;rw[v]
  ·show c'.k.shutHeard=_;rw[v]
  ·rw[w];rcases hw with e | e<;>rw[e]<;>rfl
  ·intro e
   rw[Z] at e
   cases e
  ·refine qkk ba.along fun j hj g m=>⟨?_,rfl⟩
   have D:=ba.upd.yes hj m
   show (if Gi.pend s g=true then true else g.cov)=g.cov
   rw[if_neg]
   intro E
   unfold Gi.pend at D E
   rcases qy g.own s with e | e
   ·rw[e] at D E;simp at D E;omega
   ·rw[e] at D E;simp at D E;omega
  ·unfold Gi.covd
   rw[show (qdb s g).own=g.own from rfl]
   rcases qy g.own s with e | e
   ·rw[(qb7 e).2,e];simp
   ·rw[(qc0 e).1,e];simp
  ·unfold pGe
   rw[show (qdb s g).own=g.own from rfl]
   rcases qy g.own s with e | e
   ·rw[e];simp
   ·rw[(qc0 e).2]
    have:∀ {x:Int},-1≤x∧x≤9→decide (1≤zl x false 1)=decide (1≤x):=qk7 (p:=fun x=>decide (1≤zl x false 1)=decide (1≤x)) (by decide +kernel)
    rw[this (l g m).2.1]
  ·unfold oGe
   rw[show (qdb s g).own=g.own from rfl]
   rcases qy g.own s with e | e
   ·rw[e];simp
   ·rw[(qc0 e).1]
  ·unfold Gi.moved
   rw[show (qdb s g).own=g.own from rfl]
   rcases qy g.own s with e | e
   ·rw[(qb7 e).2,e];simp
   ·rw[(qc0 e).1,e];simp
 ·intro y Y
  show y.it s (qj (eo++[.sgn])) (qj ei)∈qat
  obtain⟨g,m,rfl⟩:=List.mem_map.1 Y
  have hi:=it g m
  rw[w]
  rcases qy g.own s with e | e
  ·rw[qc8 (g:=qdb s g) (s:=s) e,(qb7 e).1,(qb7 e).2,(qg4 (l g m).1 true).1]
   rw[qc8 e] at hi
   have D:(qdb s g).cov=if g.up=1 then true else g.cov:=by
    show (if Gi.pend s g=true then true else g.cov)=_
    rw[qib e];simp
   rw[D]
   exact qw9 _ hi H Z
  ·rw[qdi (g:=qdb s g) (s:=s) e,(qc0 e).1,(qc0 e).2,(qg4 (l g m).2.1 false).1]
   rw[qdi e] at hi
   have D:(qdb s g).cov=if g.up=2 then true else g.cov:=by
    show (if Gi.pend s g=true then true else g.cov)=_
    rw[ql7 e];simp
   rw[D]
   exact qxa _ hi H Z
 ·intro y Y
  obtain⟨g,m,rfl⟩:=List.mem_map.1 Y
  have ho:=ok g m
  refine⟨ho.id,ho.amount,ho.hash,ho.expiry,fun e=> ?_⟩
  refine ho.um ?_
  rcases qy g.own s with U | U
  ·rw[(qb7 U).2] at e
   exact e
  ·rw[(qc0 U).2] at e
   have:∀ {x:Int},-1≤x∧x≤9→(zl x false 1=5∨zl x false 1=6→x=5∨x=6):=qk7 (p:=fun x=>zl x false 1=5∨zl x false 1=6→x=5∨x=6) (by decide +kernel)
   exact this (l g m).2.1 e
 ·show ((G.map (qdb s)).map Gi.pk).Pairwise Apt
  rw[qzu fun g m=> ?_]
  ·exact pw
  ·unfold Gi.pk
   rcases qy g.own s with e | e
   ·rw[(qb7 e).1,(qe8 (l g m).1).2.2.2.1];rfl
   ·rw[(qc0 e).1];rfl
 ·show (G.map (qdb s)).length≤n+1
  rw[List.length_map]
  omega
 ·show msE s c' (G.map (qdb s)) (eo++[.sgn])=msE s c G eo++[M]
  unfold msE
  rw[List.map_append]
  congr 1
  ·refine qcy ab.w9 T (fun k _=>o k) (fun e=>by rw[H] at e;cases e) (fun _=>qic T ?_)
   show c'.k.heard=_
   rw[v]
  ·show [c'.sgnOf]=_
   rw[F]
 ·exact qcy ba.w9 rfl (fun k _=>o k) (fun _=>rfl) (fun _=>rfl)
end
end Go.Proofs.YtjpmomdechibmaaGreatDoor
