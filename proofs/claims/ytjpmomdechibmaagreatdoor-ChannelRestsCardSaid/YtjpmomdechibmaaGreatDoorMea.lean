/-
  The protocol, plain: what is said may be heard; an Add, a removal, a Shut that is heard; a Shut that is said.
-/
import Derived.Test.YtjpmomdechibmaaGreatDoorPtJ
import Derived.Test.YtjpmomdechibmaaGreatDoorMcj
set_option linter.unusedVariables false
set_option linter.unusedSimpArgs false
namespace Go.Proofs.YtjpmomdechibmaaGreatDoor
open Go.RowKit
theorem qsh(b:Bool)(key:ByteArray)(ch n l r:Int)(xs:List Live):qa6 (z8 b key ch n l r xs):=by unfold z8 qrq;exact qez _
theorem qxp(h:Vector Int 32):qic h.toList=h:=by
 unfold qic
 rw[dif_pos (by simp)]
 rfl
structure Said(ch:Int)(m:MsgV):Prop where
 may:qam m=true
 ch:m.ch=ch
 ok:MsgOk m
 kind:m.kind=3∨m.kind=4∨m.kind=5∨m.kind=6∨m.kind=7∨m.kind=8
theorem zbt{c i a e:Int}(h:List Int)(f:a≤1125899906842624)(l:0≤e∧e≤1073741824):qam ⟨3,c,i,a,h,e,0⟩=true:=by
 unfold qam
 show (if e<0∨1073741824<e∨(0:Int)<0∨65535<(0:Int)∨1125899906842624<a then false else decide (qhv _ _=qgi 3))=true
 rw[if_neg (by omega)]
 kernel_rfl
theorem q8r(c i:Int)(h:List Int):qam ⟨4,c,i,0,h,0,0⟩=true:=by kernel_rfl
theorem q8q(c i:Int){r:Int}(f:0≤r∧r≤65535):qam ⟨5,c,i,0,qad,0,r⟩=true:=by
 unfold qam
 show (if (0:Int)<0∨1073741824<(0:Int)∨r<0∨65535<r∨1125899906842624<(0:Int) then false else decide (qhv _ _=qgi 5))=true
 rw[if_neg (by omega)]
 kernel_rfl
theorem q8v(c:Int)(T:List Int){n:Int}(f:0≤n∧n≤65535):qam ⟨6,c,0,0,T,0,n⟩=true:=by
 unfold qam
 show (if (0:Int)<0∨1073741824<(0:Int)∨n<0∨65535<n∨1125899906842624<(0:Int) then false else decide (qhv _ _=qgi 6))=true
 rw[if_neg (by omega)]
 kernel_rfl
theorem q8u(c:Int)(T:List Int){n:Int}(f:0≤n∧n≤65535):qam ⟨7,c,0,0,T,0,n⟩=true:=by
 unfold qam
 show (if (0:Int)<0∨1073741824<(0:Int)∨n<0∨65535<n∨1125899906842624<(0:Int) then false else decide (qhv _ _=qgi 7))=true
 rw[if_neg (by omega)]
 kernel_rfl
theorem qtg(c:Int):qam (qbx c)=true:=by kernel_rfl
section
variable {ch:Int}(hc:0≤ch∧ch<4294967296)
include hc
theorem qyp{g:Gi}(h:GiOk ch g):Said ch (qo2 ch g.h) :=
 ⟨zbt _ h.amount.2 ⟨by have:=h.expiry.1;omega,h.expiry.2⟩,rfl,qg5 ⟨by decide,by decide⟩ hc ⟨h.id.1,by have:=h.id.2;omega⟩ ⟨by have:=h.amount.1;omega,by have:=h.amount.2;omega⟩ (by simp) h.hash ⟨by have:=h.expiry.1;omega,by have:=h.expiry.2;omega⟩ ⟨by decide,by decide⟩,.inl rfl⟩
theorem qyq{g:Gi}(h:GiOk ch g)(o:zdu ch g):Said ch g.um:=by
 rcases o with ⟨p,e,m,l,-,-⟩ | ⟨r,e,f,i,-⟩
 ·rw[e,show (qfp g.h.id p).on ch=(⟨4,ch,g.h.id,0,p,0,0⟩:MsgV) from rfl]
  exact⟨q8r _ _ _,rfl,qg5 ⟨by decide,by decide⟩ hc ⟨h.id.1,by have:=h.id.2;omega⟩ ⟨by decide,by decide⟩ m l ⟨by decide,by decide⟩ ⟨by decide,by decide⟩,.inr (.inl rfl)⟩
 ·rw[e,show (qcq g.h.id r).on ch=(⟨5,ch,g.h.id,0,qad,0,r⟩:MsgV) from rfl]
  exact⟨q8q _ _ ⟨f,i⟩,rfl,qg5 ⟨by decide,by decide⟩ hc ⟨h.id.1,by have:=h.id.2;omega⟩ ⟨by decide,by decide⟩ qo qde ⟨by decide,by decide⟩ ⟨f,by show r≤65536;omega⟩,.inr (.inr (.inl rfl))⟩
theorem qyr{c:Ch}(m:c.s.ch=ch)(f:0≤c.k.signed∧c.k.signed≤65535):Said ch c.sgnOf:=by
 unfold Ch.sgnOf
 rw[m]
 have i:=qht false c.s.key ch c.k.signed c.loc c.rem c.xs
 have l:=qsh false c.s.key ch c.k.signed c.loc c.rem c.xs
 generalize z8 false c.s.key ch c.k.signed c.loc c.rem c.xs=T at *
 exact⟨q8v _ _ f,rfl,qg5 ⟨by decide,by decide⟩ hc ⟨by decide,by decide⟩ ⟨by decide,by decide⟩ i l ⟨by decide,by decide⟩ ⟨f.1,by omega⟩,.inr (.inr (.inr (.inl rfl)))⟩
theorem qrh{c:Ch}(m:c.s.ch=ch)(o:1≤c.k.heard∧c.k.heard≤65536)(f:c.s.seed.length=32∧qa6 c.s.seed):c.revocation=⟨7,ch,0,0,(qc7 c.s.seed (65535-(c.k.heard-1))).1,0,c.k.heard-1⟩∧Said ch c.revocation:=by
 have e:c.revocation=⟨7,ch,0,0,(qc7 c.s.seed (65535-(c.k.heard-1))).1,0,c.k.heard-1⟩:=by
  unfold Ch.revocation Ch.secret
  rw[if_neg (by omega),m]
 have i:=qnp _ f.1 (65535-(c.k.heard-1))
 have l:=qon _ f.2 (65535-(c.k.heard-1))
 refine⟨e,?_⟩
 rw[e]
 generalize (qc7 c.s.seed (65535-(c.k.heard-1))).1=T at *
 exact⟨q8u _ _ ⟨by omega,by omega⟩,rfl,qg5 ⟨by decide,by decide⟩ hc ⟨by decide,by decide⟩ ⟨by decide,by decide⟩ i l ⟨by decide,by decide⟩ ⟨by omega,by omega⟩,.inr (.inr (.inr (.inr (.inl rfl))))⟩
theorem qtq:Said ch (qbx ch) :=
 ⟨qtg _,rfl,qg5 ⟨by decide,by decide⟩ hc ⟨by decide,by decide⟩ ⟨by decide,by decide⟩ qo qde ⟨by decide,by decide⟩ ⟨by decide,by decide⟩,.inr (.inr (.inr (.inr (.inr rfl))))⟩
end
theorem qkt:∀x∈qav,0≤x.2.1→x.2.1≤8→0≤x.1∧x.1≤8:=by decide +kernel
theorem qjp:∀x∈qav,(x.1=9→x.2.1=9)∧(qbq x.2.2.2.2.2=false→x.2.1=9→x.1=9)∧(x.2.2.1=2→x.2.1=5∨x.2.1=6):=by decide +kernel
section
variable {K:Kon}{n:Nat}{s t:Bool}{c d:Ch}{eo ei es:List En}{G:List Gi}{la nu lb nv:List Nat}{g g':Gi}{j:Nat}
theorem zb4(it:∀g∈G,g.it s (qk eo) (qk ei)∈qav)(v:qbq (qk ei)=false)(x:∀g∈G,0≤g.h.amount):(qs (!s)).conL G≤(qs s).conR G:=by
 refine qg9 fun g m=> ?_
 have o:=qft it g m
 have h:=qjp _ (it g m)
 have w:=x g m
 show conL (g.own == !s) (if g.own = !s then g.so else g.st) g.paid g.h.amount≤conL (!(g.own==s)) (if g.own=s then g.so else g.st) g.paid g.h.amount
 rcases za g.own s with e | e
 ·rw[qdd e] at h
  rw[if_pos e,if_neg (qg6 e),show (g.own==s)=true by rw[e];simp,show (g.own == !s)=false by rw[e];simp]
  have l:g.st=9→g.so=9:=h.2.1 v
  clear h o
  simp only[conL,Bool.not_true,Bool.false_eq_true,if_false]
  by_cases f:g.st=9
  ·rw[f,l f];exact Int.le_refl _
  ·rw[if_neg f]
   repeat' split
   all_goals omega
 ·rw[qdj e] at h
  rw[if_pos e,if_neg (qbv e),show (g.own==s)=false by rw[e];simp,show (g.own == !s)=true by rw[e];simp]
  have l:g.so=9→g.st=9:=h.1
  have y:g.so = -1→g.st = -1:=fun q=>(o.2.2.1 q).1
  clear h o
  simp only[conL,Bool.not_false,if_true]
  by_cases f:g.so=9
  ·rw[f,l f];exact Int.le_refl _
  ·rw[if_neg f]
   by_cases i:g.so = -1
   ·rw[if_pos i,if_pos (y i)];exact Int.le_refl _
   ·rw[if_neg i]
    repeat' split
    all_goals omega
structure Hears(K:Kon)(n:Nat)(P:Pt)(m:MsgV)(wi:List MsgV):Prop where
 said:Said K.ch m
 ok:(P.c.hear m).2.2=0
 goes:∃P',Goes K n P (P.c.hear m).1 (P.out++(P.c.hear m).2.1) wi P'
 says:∀l∈(P.c.hear m).2.1,MsgOk l
 few:(P.c.hear m).2.1.length≤1
theorem EndI.shutSaid(h:EndI K s c G nu):EndI K s c.shutSaid G nu:=⟨h.set,h.perm,h.loc,h.rem,h.pos,h.nOwn,h.nTh,h.low,h.nuS,h.nuI,h.news,h.many,h.shelf,h.nums⟩
theorem q5w{P:Pt}(h:Inv K n P)(l:P.c.k.shutSaid=false):∃o,Goes K n P P.c.shut.1 (P.out++[P.c.shut.2.1]) P.inn o:=by
 obtain⟨s,c,d,eo,ei,G,la,nu,lb,nv⟩:=P
 obtain⟨ea,eb,ab,ba,it,ok,pw,few⟩:=h
 simp only at ea eb ab ba it ok pw few l
 have q:c.shut=(c.shutSaid,qbx c.s.ch,0):=by unfold Ch.shut;rw[if_neg (by rw[l];decide)]
 have f:qk (eo++[.shut])=qk eo:=qrw eo
 have m:ups (eo++[.shut])=ups eo:=by rw[qgm];exact List.append_nil _
 rw[q]
 refine⟨⟨s,c.shutSaid,d,eo++[.shut],ei,G,la,nu,lb,nv⟩,⟨ea.shutSaid,eb,?_,?_,?_,ok,pw,few⟩,rfl,rfl,rfl,?_,rfl⟩
 ·refine⟨by rw[f];exact ab.w9,by rw[f];exact ab.xor,by rw[f];exact ab.sig,by rw[f];exact ab.aw,by rw[f];exact ab.rv3,by rw[f];exact ab.rv4,by rw[m];exact ab.upd,?_,by rw[m];exact ab.ids,by rw[f];exact ab.laS,ab.last,?_,by rw[f];exact ab.m1,by rw[f];exact ab.ex⟩
  ·exact qbb.snoc (j:=0) (.inr rfl) (fun e=>by cases e) eo ab.along
  ·have:=ab.shut
   rw[l] at this
   exact this.shut
 ·exact ba.keep ⟨rfl,rfl,rfl,rfl,rfl⟩ rfl rfl (fun _=>rfl) ⟨rfl,rfl,rfl⟩ (by rw[f]) ba.m1 ba.upd ba.along (fun _ _=>rfl) (fun _ i=>⟨i,fun _ _=>rfl⟩) rfl rfl id
 ·intro g v
  show g.it s (qk (eo++[.shut])) (qk ei)∈qav
  rw[f]
  exact it g v
 ·show msE s c.shutSaid G (eo++[.shut])=msE s c G eo++[qbx c.s.ch]
  unfold msE
  rw[List.map_append]
  rfl
def Ch.shutHears(c:Ch):Ch:= {c with k:= {c.k with shutHeard:=true}}
theorem EndI.shutHears(h:EndI K s c G nu):EndI K s c.shutHears G nu:=⟨h.set,h.perm,h.loc,h.rem,h.pos,h.nOwn,h.nTh,h.low,h.nuS,h.nuI,h.news,h.many,h.shelf,h.nums⟩
theorem qqg{P:Pt}(q:K.Ok)(h:Inv K n P)(x:P.ei = .shut::es):Hears K n P (qbx P.d.s.ch) (msE (!P.s) P.d P.G es):=by
 obtain⟨s,c,d,eo,ei,G,la,nu,lb,nv⟩:=P
 obtain⟨ea,eb,ab,ba,it,ok,pw,few⟩:=h
 simp only at ea eb ab ba it ok pw few x ⊢
 subst x
 have m:d.s.ch=K.ch:=by rw[eb.set];exact q.ch _
 have v:c.s.ch=K.ch:=by rw[ea.set];exact q.ch _
 obtain⟨z,w⟩:=ba.shut
 have o:c.hear (qbx d.s.ch)=(c.shutHears,[],0):=by
  rw[zbj (qtg _) (by show d.s.ch=_;rw[m,v]) rfl]
  unfold Ch.hearShut
  rw[if_neg (by rw[z];decide)]
  rfl
 have f:Said K.ch (qbx d.s.ch):=by rw[m];exact qtq q.chb
 refine⟨f,by show (c.hear _).2.2=0;rw[o],?_,(by show ∀l∈(c.hear _).2.1,_;rw[o];intro l C;cases C),by show (c.hear _).2.1.length≤1;rw[o];exact Nat.zero_le _⟩
 show ∃y,Goes K n _ (c.hear _).1 (_++(c.hear _).2.1) _ y
 rw[o]
 refine⟨⟨s,c.shutHears,d,eo,es,G,la,nu,lb,nv⟩,⟨ea.shutHears,eb,?_,?_,it,ok,pw,few⟩,rfl,rfl,rfl,?_,rfl⟩
 ·exact ab.keep ⟨rfl,rfl,rfl,rfl,rfl⟩ rfl rfl (fun _=>rfl) ⟨rfl,rfl,rfl⟩ rfl ab.m1 ab.upd ab.along (fun _ _=>rfl) (fun _ i=>⟨i,fun _ _=>rfl⟩) rfl rfl id
 ·exact⟨ba.w9,ba.xor,ba.sig,ba.aw,ba.rv3,ba.rv4,ba.upd,ba.along,ba.ids,ba.laS,ba.last,w,ba.m1,ba.ex⟩
 ·show msE s c.shutHears G eo=msE s c G eo++[]
  rw[List.append_nil]
  rfl
theorem zap{p:Gi→Bool}(m:∀g∈G,0≤g.h.amount)(l:g∈G)(o:p g=true):g.h.amount≤amt p G:=by
 obtain⟨k,f⟩:=List.getElem?_of_mem l
 have e:amt p (G.set k {g with own:=g.own})=amt p G:=by
  rw[qi4 p f]
  show _-_+(if p g=true then g.h.amount else 0)=_
  omega
 have q:=qi4 (fun y=>p y&&decide (y.so≤100)) f {g with so:=101}
 have i:0≤amt p (G.set k {g with h:=⟨g.h.id,0,g.h.hash,g.h.expiry⟩}):=zb2 _ (qew f m (Int.le_refl _))
 rw[qi4 p f,if_pos o] at i
 split at i<;>simp at i<;>omega
def qdg(g:Gi):Gi:= {g with st:=0,up:=0,cov:=false}
theorem qzi(c:Ch)(m:MsgV)(f:0≤c.rem∧c.rem<18446744073709551616):(c.added m).sgnOf=c.sgnOf :=
 qiu rfl rfl (qfy _ _ _ (q1z false c.xs (x:=qd3 m) rfl rfl f) (qqr false c.xs (x:=qd3 m) rfl))
theorem qr4{P:Pt}(N:K.Ok)(h:Inv K n P)(hn:n<1000000000)(he:P.ei = .upd j::es)(f:P.G[j]? = some g)(m:g.own = !P.s):Hears K n P (enM (!P.s) P.d P.G (.upd j)) (msE (!P.s) P.d P.G es):=by
 obtain⟨s,c,d,eo,ei,G,la,nu,lb,nv⟩:=P
 obtain⟨ea,eb,ab,ba,it,ok,pw,few⟩:=h
 simp only at ea eb ab ba it ok pw few he f m ⊢
 subst he
 have D:=List.mem_of_getElem? f
 have a9:d.s.ch=K.ch:=by rw[eb.set];exact N.ch _
 have a8:c.s.ch=K.ch:=by rw[ea.set];exact N.ch _
 have w:¬g.own=s:=qbv m
 have J:Gi.pend (!s) g=true:=ba.upd.yes (List.mem_cons_self ..) f
 have z:g.up=1:=by unfold Gi.pend at J;rw[m] at J;simpa using J
 obtain⟨O,E⟩:=ba.along.1 g f
 have T:=it g D
 rw[qdj m] at T
 obtain⟨b6,b7,b8⟩:=qsa _ T z (by
  show g.cov=true∨qas (qk es)=false
  rw[O]
  cases qas (qk es)
  ·exact .inr rfl
  ·exact .inl rfl)
 have v:g.st = -1:=b7
 have c8:g.so=0∨g.so=1:=b8
 have hM:enM (!s) d G (.upd j)=qo2 K.ch g.h:=by
  rw[qjd f];unfold qo6;rw[if_pos m,a9]
 rw[hM]
 have x:=qyp N.chb (ok g D)
 have Z:=qka ok
 have c4:=N.cap
 obtain⟨bl,br⟩:=ea.tag N (qep it s) Z
 obtain⟨c7,R⟩:g.h.id=c.k.nextTheirs∧Ids G (!s) (c.k.nextTheirs+1) (ups es) d.k.nextOwn:=by
  obtain⟨y,M,hb⟩:=ba.ids
  rw[f] at M
  injection M with M
  subst M
  rw[if_pos m] at hb
  exact hb
 obtain⟨b9,L⟩:=ba.shut
 have c0:c.k.shutHeard=false:=by
  cases e:c.k.shutHeard with
  | false=>rfl
  | true=>exact absurd m (b9 e g f)
 have b5:qc8 false c.xs<8:=by
  have h1:=(qq0 ea.perm).2
  have h2:=qzv (p:=qha s) (q:=qbi (!s)) (G:=G) (fun y M hp=>by
   unfold qha at hp
   unfold qbi
   have:y.own = !s∧0≤y.st∧y.st≤8:=by simpa using hp
   obtain⟨H,e2,e3⟩:=this
   have hi:=it y M
   rw[qdj H] at hi
   have:=qkt _ hi e2 e3
   rw[H];simp;exact this) D (by unfold qha;rw[v];simp) (by unfold qbi;rw[m];simp;omega)
  have:=eb.many
  omega
 have c6:(G.set j (qdg g))[j]? = some (qdg g):=by rw[qfd f,if_pos rfl]
 have V:∀y∈G.set j (qdg g),y.it s (qk eo) (qk es)∈qav:=qew f it (by rw[qdj (g:=qdg g) (s:=s) m];exact b6)
 have c3:∀y∈G.set j (qdg g),0≤y.h.amount:=qew f Z (Z g D)
 obtain⟨X,Y⟩:=qm3 (qs s) f (qdg g)
 have em:(qs s).mine g=false:=by show (g.own==s)=false;rw[m];simp
 have a4:(qs s).mine (qdg g)=false:=em
 have a5:(qs s).st g = -1:=by show (if g.own=s then g.so else g.st) = -1;rw[if_neg w,v]
 have a6:(qs s).st (qdg g)=0:=by show (if g.own=s then g.so else 0)=0;rw[if_neg w]
 rw[em,a5,a4,a6] at X Y
 replace X:(qs s).conL (G.set j (qdg g))=(qs s).conL G-0+0:=X
 replace Y:(qs s).conR (G.set j (qdg g))=(qs s).conR G-0 + -g.h.amount:=Y
 have I:EndI K (!s) d (G.set j (qdg g)) nv:=by
  refine eb.setS f rfl rfl ?_ (.inl rfl) (.inl rfl)
  show (if g.own = !s then g.so else 0)=if g.own = !s then g.so else g.st
  rw[if_pos m,if_pos m]
 have b3:g.h.amount≤c.rem:=by
  cases hR:qbq (qk es) with
  | true =>
   have:=ba.m1 hR
   have:=zap (p:=qai (!s)) Z D (by unfold qai;rw[m,z,E,hR];simp)
   omega
  | false =>
   have h1:=zb4 V hR c3
   have h2:=I.loc
   have h3:=I.pos.1
   have h4:=ea.rem
   omega
 have c5:=(ok g D).amount
 have H:c.hear (qo2 K.ch g.h)=(c.added (qo2 K.ch g.h),[],0):=by
  rw[zbe x.may (by rw[a8];rfl) rfl]
  have:qat c (qo2 K.ch g.h)=0:=by
   unfold qat
   rw[if_neg (by rw[c0];decide),if_neg (by show ¬g.h.amount=0;omega),if_neg (by show ¬(g.h.id≠_);omega),if_neg (by show ¬g.h.expiry=0;have:=(ok g D).expiry;omega),if_neg (by omega),if_neg (by show ¬c.rem<g.h.amount;omega)]
  unfold Ch.hearAdd
  rw[if_pos this]
 have a7:qd3 (qo2 K.ch g.h)=⟨g.h,false,0,false⟩:=by
  unfold qd3 qo2
  rw[qxp]
 refine⟨x,by show (c.hear _).2.2=0;rw[H],?_,(by show ∀l∈(c.hear _).2.1,_;rw[H];intro l hl;cases hl),by show (c.hear _).2.1.length≤1;rw[H];exact Nat.zero_le _⟩
 show ∃P',Goes K n _ (c.hear _).1 (_++(c.hear _).2.1) _ P'
 rw[H]
 have F:=qzi c (qo2 K.ch g.h) ⟨br.1,by omega⟩
 have U:IntKind.u64.wrap (c.k.nextTheirs+1)=c.k.nextTheirs+1:=by
  have:=qpb (pGe (!s) 0) G
  have:=qjb (pGe (!s) 0) G
  exact qeg (by rw[ea.nTh];omega) (by rw[ea.nTh];omega)
 have b4:j∉ups es:=(List.nodup_cons.1 ba.upd.nd).1
 have W:∀t k,oGe t k (qdg g)=oGe t k g:=fun _ _=>rfl
 have q1:∀k,pGe s k (qdg g)=pGe s k g:=fun k=>by unfold pGe qdg;rw[m];simp
 have p1:Gi.pend s (qdg g)=Gi.pend s g:=by unfold Gi.pend qdg;rw[m,z];simp
 have p2:Gi.pend (!s) (qdg g)=false:=by unfold Gi.pend qdg;simp
 have p3:Gi.pend s g=false:=by unfold Gi.pend;rw[m,z];simp
 have v1:Gi.covd s (qdg g)=Gi.covd s g:=by unfold Gi.covd qdg;rw[m,v];simp
 have v2:Gi.covd (!s) (qdg g)=Gi.covd (!s) g:=by unfold Gi.covd qdg;rw[m];simp
 have u1:Gi.unsg s (qdg g)=Gi.unsg s g:=by unfold Gi.unsg qdg;rw[m,v];simp
 have w1:Gi.moved s (qdg g)=Gi.moved s g:=by unfold Gi.moved qdg;rw[m,v];simp
 have w2:Gi.moved (!s) (qdg g)=Gi.moved (!s) g:=by unfold Gi.moved qdg;rw[m];simp
 have a1:qai s g=false:=by unfold qai;rw[m];simp
 have a2:∀t,qai t (qdg g)=false:=fun t=>by unfold qai qdg;simp
 have o:∀k:Nat,((G.set j (qdg g))[k]?).map Gi.key=(G[k]?).map Gi.key:=fun k=>qmi f (.inr rfl)
 refine⟨⟨s,c.added (qo2 K.ch g.h),d,eo,es,G.set j (qdg g),la,nu,lb,nv⟩,⟨?_,I,?_,?_,V,?_,?_,?_⟩,rfl,rfl,rfl,?_,?_⟩
 ·refine⟨ea.set,?_,?_,?_,⟨ea.pos.1,?_⟩,?_,?_,?_,ea.nuS.setS f u1,?_,?_,?_,ea.shelf,ea.nums⟩
  ·refine q3y _ ea.perm f ?_ ?_
   ·show qaw (g.own==s) g.h (if g.own=s then g.so else g.st) g.paid=none
    rw[if_neg w,v];rfl
   ·show qaw (g.own==s) g.h (if g.own=s then g.so else 0) g.paid=some (qd3 (qo2 K.ch g.h))
    rw[if_neg w,a7,show (g.own==s)=false from em];unfold qaw;simp
  ·rw[X]
   show c.loc=(K.S s).ours+_
   rw[ea.loc];omega
  ·rw[Y]
   show c.rem-g.h.amount=(K.S (!s)).ours+_
   rw[ea.rem];omega
  ·show 0≤c.rem-g.h.amount
   omega
  ·rw[qan f (W s 0)];exact ea.nOwn
  ·show IntKind.u64.wrap (c.k.nextTheirs+1)=_
   rw[U,ea.nTh,q2j _ f,show pGe (!s) 0 g=false by unfold pGe;rw[v];simp,show pGe (!s) 0 (qdg g)=true by unfold pGe qdg;rw[m];simp]
   simp
  ·rw[qan f (W s 1)]
   exact qew f ea.low fun e=>absurd e w
  ·rw[qan f (W s 1)]
   exact ea.nuI.congr fun k _=>o k
  ·show c.news=_
   rw[ea.news]
   exact(qbz rfl fun k _=>o k).symm
  ·show cnt (qbi s) (G.set j (qdg g))≤8
   rw[qan f (show qbi s (qdg g)=qbi s g from rfl)];exact ea.many
 ·refine ab.keep ⟨rfl,rfl,rfl,rfl,rfl⟩ rfl rfl (fun _=>F) ⟨rfl,rfl,rfl⟩ rfl ?_ (ab.upd.setS f p1) (qgp f ab.along fun hj=>absurd rfl (ab.upd.off f p3 j hj)) (fun k _=>o k) (fun _ i=>⟨i.setS f v1,fun k _=>o k⟩) (qan f (q1 1)) (qan f (W s 1)) (qp5 f fun e=>w1.trans e)
  intro e
  rw[qi4 _ f,a1,a2]
  have:=ab.m1 e
  simpa using this
 ·refine⟨ba.w9,ba.xor,ba.sig,ba.aw,ba.rv3,ba.rv4,ba.upd.setN f p2,qgp f ba.along.2 fun hj=>absurd hj b4,?_,fun e=> ?_,ba.last,L.congr fun k _=>o k,fun e=> ?_,fun e=>qp5 f (fun e=>w2.trans e) (ba.ex e)⟩
  ·show Ids _ (!s) (IntKind.u64.wrap (c.k.nextTheirs+1)) (ups es) d.k.nextOwn
   rw[U]
   exact R.congr fun k _=>o k
  ·obtain⟨i1,i2,i3⟩:=ba.laS e
   refine⟨i1.setS f v2,?_,?_⟩
   ·rw[qan f (W (!s) 1),qan f (show pGe (!s) 1 (qdg g)=pGe (!s) 1 g by unfold pGe qdg;rw[v];simp)]
    exact i2.congr fun k _=>o k
   ·rw[i3]
    congr 1
    exact(qbz rfl fun k _=>o k).symm
  ·have e:qbq (qk es)=true:=e
   show amt (qai (!s)) (G.set j (qdg g))≤c.rem-g.h.amount
   rw[qi4 _ f,a2,show qai (!s) g=true by unfold qai;rw[m,z,E,e];simp]
   have:=ba.m1 e
   simp
   omega
 ·refine qew f ok ?_
  have C:=ok g D
  exact⟨C.id,C.amount,C.hash,C.expiry,fun e=>by rcases e with e | e<;>exact absurd e (by show ¬(0:Int)=_;decide)⟩
 ·show ((G.set j (qdg g)).map Gi.pk).Pairwise Apt
  rw[q08 (g':=qdg g) f rfl]
  exact pw
 ·show (G.set j _).length≤n
  rw[List.length_set]
  exact few
 ·show msE s (c.added (qo2 K.ch g.h)) (G.set j (qdg g)) eo=msE s c G eo++[]
  rw[List.append_nil]
  exact qc9 ab.w9 rfl (fun k _=>o k) (fun _=>F) (fun _=>qiq rfl rfl)
 ·exact qc9 ba.w9 rfl (fun k _=>o k) (fun _=>rfl) (fun _=>rfl)
end
section
variable {K:Kon}{n:Nat}{s t:Bool}{c d:Ch}{eo ei es:List En}{G:List Gi}{la nu lb nv:List Nat}{g g':Gi}{j:Nat}
theorem q6s(pw:(G.map Gi.pk).Pairwise Apt){j k:Nat}{g y:Gi}(C:G[j]? = some g)(E:G[k]? = some y)(m:0≤g.so)(o:0≤y.so)(w:g.own=y.own)(v:g.h.id=y.h.id):j=k:=by
 obtain⟨x,f⟩:=List.getElem?_eq_some_iff.1 C
 obtain⟨z,i⟩:=List.getElem?_eq_some_iff.1 E
 have D:=List.pairwise_iff_getElem.1 pw
 have q:∀(a b:Nat) (la:a<G.length) (lb:b<G.length),a<b→¬(0≤G[a].so∧0≤G[b].so∧G[a].own=G[b].own∧G[a].h.id=G[b].h.id):=by
  intro a b la lb l ⟨F,H,I,J⟩
  have:=D a b (by rw[List.length_map];exact la) (by rw[List.length_map];exact lb) l
  rw[List.getElem_map,List.getElem_map] at this
  exact this ⟨decide_eq_true F,decide_eq_true H,I,J⟩
 rcases Nat.lt_trichotomy j k with h | h | h
 ·exact absurd ⟨by rw[f];exact m,by rw[i];exact o,by rw[f,i];exact w,by rw[f,i];exact v⟩ (q j k x z h)
 ·exact h
 ·exact absurd ⟨by rw[i];exact o,by rw[f];exact m,by rw[f,i];exact w.symm,by rw[f,i];exact v.symm⟩ (q k j z x h)
theorem q7y(O:c.xs.Perm (G.filterMap (qs s).show))(pw:(G.map Gi.pk).Pairwise Apt)(q:∀g∈G,g.st ≠ -1→g.so ≠ -1)(o:∀g∈G,-1≤g.so)(D:G[j]? = some g){own:Bool}(f:(g.own==s)=own)(v:(if g.own=s then g.so else g.st)=4)(T:g.so ≠ -1) :
  ∃i,qb7 own g.h.id c.xs=some (i,⟨g.h,own,4,false⟩):=by
 have N:=List.mem_of_getElem? D
 have U:(⟨g.h,own,4,false⟩:Live)∈c.xs:=by
  refine O.symm.subset (List.mem_filterMap.2 ⟨g,N,?_⟩)
  show qaw (g.own==s) g.h (if g.own=s then g.so else g.st) g.paid=_
  rw[f,v]
  unfold qaw
  simp
 refine qoc U rfl rfl rfl fun y V x w=> ?_
 obtain⟨k,z,m,J,L⟩:=qfv O V
 rw[J] at x w
 have l:(z.own==s)=own:=x
 have H:z.h.id=g.h.id:=w
 have F:g.own=z.own:=by
  rw[←f] at l
  cases P:g.own<;>cases R:z.own<;>rw[P,R] at l<;>cases s<;>simp at l ⊢
 have C:=List.mem_of_getElem? m
 have I:0≤z.so:=by
  have W:=o z C
  have:z.so ≠ -1:=by
   intro e
   by_cases M:z.own=s
   ·rw[if_pos M] at L;omega
   ·rw[if_neg M] at L
    exact q z C (by omega) e
  omega
 have E:0≤g.so:=by have:=o g N;omega
 have:=q6s pw D m E I F H.symm
 subst this
 rw[D] at m
 injection m with m
 subst m
 rw[J,v,f]
 simp
def qbs(g:Gi):Gi:= {g with so:=5,up:=0,cov:=false}
theorem qvn(c:Ch)(i:Nat)(x:Live)(paid:Bool)(f:c.xs[i]? = some x)(l:x.state=4):(c.removed i x paid).sgnOf=c.sgnOf :=
 qiu rfl rfl (qfy _ _ _ (qy4 false c.loc c.rem (y:= {x with state:=5,paid:=paid}) f (.inl l) (.inr rfl)) (qs9 false (y:= {x with state:=5,paid:=paid}) f (.inl l) (.inr rfl) rfl rfl))
theorem qr5{P:Pt}(hK:K.Ok)(h:Inv K n P)(he:P.ei = .upd j::es)(f:P.G[j]? = some g)(q:g.own=P.s):Hears K n P (enM (!P.s) P.d P.G (.upd j)) (msE (!P.s) P.d P.G es):=by
 obtain⟨s,c,d,eo,ei,G,la,nu,lb,nv⟩:=P
 obtain⟨ea,eb,ab,ba,it,ok,pw,few⟩:=h
 simp only at ea eb ab ba it ok pw few he f q ⊢
 subst he
 have V:=List.mem_of_getElem? f
 have b7:d.s.ch=K.ch:=by rw[eb.set];exact hK.ch _
 have R:c.s.ch=K.ch:=by rw[ea.set];exact hK.ch _
 have D:¬g.own = !s:=qg6 q
 have N:Gi.pend (!s) g=true:=ba.upd.yes (List.mem_cons_self ..) f
 have C:g.up=2:=by unfold Gi.pend at N;rw[q] at N;simpa using N
 obtain⟨T,b6⟩:=ba.along.1 g f
 have M:=it g V
 rw[qdd q] at M
 obtain⟨b3,b4⟩:=qsb _ M C (by
  show g.cov=true∨qas (qk es)=false
  rw[T]
  cases qas (qk es)
  ·exact .inr rfl
  ·exact .inl rfl)
 have v:g.so=4:=b4
 have b5:g.st=5∨g.st=6:=(qjp _ M).2.2 C
 have W:=(ok g V).um b5
 have hM:enM (!s) d G (.upd j)=g.um:=by
  rw[qjd f];unfold qo6;rw[if_neg D]
 rw[hM]
 have m:=qyq hK.chb (ok g V) W
 have F:=qft it
 obtain⟨b9,O⟩:=ba.shut
 have U:Ids G (!s) c.k.nextTheirs (ups es) d.k.nextOwn:=by
  obtain⟨y,I,hb⟩:=ba.ids
  rw[f] at I
  injection I with I
  subst I
  rw[if_neg D] at hb
  exact hb
 have z:(g.own==s)=true:=by rw[q];simp
 obtain⟨i,J⟩:=q7y ea.perm pw (fun y I h1 h2=>h1 ((F y I).2.2.1 h2).1) (fun y I=>(F y I).1.1) f z (by rw[if_pos q,v]) (by omega)
 obtain⟨hi,-,-,-⟩:=qey J
 have Z:c.hear g.um=(c.removed i ⟨g.h,true,4,false⟩ g.paid,[],0):=by
  rcases W with ⟨p,e,-,-,a9,hp⟩ | ⟨r,e,-,-,hp⟩
  ·rw[zbf m.may (by rw[R];exact m.ch) (by rw[e];rfl)]
   have L:g.um.id=g.h.id:=by rw[e];rfl
   have a7:g.um.hash=p:=by rw[e];rfl
   unfold Ch.hearFulfill
   rw[L,J]
   simp only
   rw[a7,if_pos a9,hp]
  ·rw[zbg m.may (by rw[R];exact m.ch) (by rw[e];rfl)]
   have L:g.um.id=g.h.id:=by rw[e];rfl
   unfold Ch.hearFail
   rw[L,J]
   simp only
   rw[hp]
 refine⟨m,by show (c.hear _).2.2=0;rw[Z],?_,(by show ∀l∈(c.hear _).2.1,_;rw[Z];intro l hl;cases hl),by show (c.hear _).2.1.length≤1;rw[Z];exact Nat.zero_le _⟩
 show ∃P',Goes K n _ (c.hear _).1 (_++(c.hear _).2.1) _ P'
 rw[Z]
 have H:=qvn c i ⟨g.h,true,4,false⟩ g.paid hi rfl
 have a8:j∉ups es:=(List.nodup_cons.1 ba.upd.nd).1
 have b8:(G.set j (qbs g))[j]? = some (qbs g):=by rw[qfd f,if_pos rfl]
 have q0:∀k,k≤4→oGe s k (qbs g)=oGe s k g:=fun k hk=>by unfold oGe qbs;rw[v,decide_eq_true hk,decide_eq_true (show k≤5 by omega)]
 have q1:∀k,oGe (!s) k (qbs g)=oGe (!s) k g:=fun k=>by unfold oGe qbs;rw[q];simp
 have q2:∀t k,pGe t k (qbs g)=pGe t k g:=fun _ _=>rfl
 have p1:Gi.pend s (qbs g)=Gi.pend s g:=by unfold Gi.pend qbs;rw[q,C];simp
 have p2:Gi.pend (!s) (qbs g)=false:=by unfold Gi.pend qbs;simp
 have p3:Gi.pend s g=false:=by unfold Gi.pend;rw[q,C];simp
 have v1:Gi.covd s (qbs g)=Gi.covd s g:=by unfold Gi.covd qbs;rw[q,v];simp
 have v2:Gi.covd (!s) (qbs g)=Gi.covd (!s) g:=by unfold Gi.covd qbs;rw[q];simp
 have u1:Gi.unsg s (qbs g)=Gi.unsg s g:=by unfold Gi.unsg qbs;rw[q,v];simp
 have w1:Gi.moved s (qbs g)=Gi.moved s g:=by unfold Gi.moved qbs;rw[q,v];simp
 have w2:Gi.moved (!s) (qbs g)=Gi.moved (!s) g:=by unfold Gi.moved qbs;rw[q];simp
 have a1:∀t,qai t g=false:=fun t=>by unfold qai;rw[C];simp
 have a2:∀t,qai t (qbs g)=false:=fun t=>by unfold qai qbs;simp
 have E:∀t,amt (qai t) (G.set j (qbs g))=amt (qai t) G:=fun t=>by rw[qi4 _ f,a1,a2];simp
 have o:∀k:Nat,((G.set j (qbs g))[k]?).map Gi.key=(G[k]?).map Gi.key:=fun k=>qmi f (.inr rfl)
 refine⟨⟨s,c.removed i ⟨g.h,true,4,false⟩ g.paid,d,eo,es,G.set j (qbs g),la,nu,lb,nv⟩,⟨?_,?_,?_,?_,?_,?_,?_,?_⟩,rfl,rfl,rfl,?_,?_⟩
 ·obtain⟨X,Y⟩:=qm3 (qs s) f (qbs g)
  have em:(qs s).mine g=true:=z
  have a4:(qs s).mine (qbs g)=true:=z
  have a5:(qs s).st g=4:=by show (if g.own=s then g.so else g.st)=4;rw[if_pos q,v]
  have a6:(qs s).st (qbs g)=5:=by show (if g.own=s then (5:Int) else g.st)=5;rw[if_pos q]
  rw[em,a5,a4,a6] at X Y
  replace X:(qs s).conL (G.set j (qbs g))=(qs s).conL G - -g.h.amount + -g.h.amount:=X
  replace Y:(qs s).conR (G.set j (qbs g))=(qs s).conR G-0+0:=Y
  refine⟨ea.set,?_,?_,?_,ea.pos,?_,?_,?_,ea.nuS.setS f u1,?_,?_,?_,ea.shelf,ea.nums⟩
  ·refine qza _ ea.perm f (x:=⟨g.h,true,4,false⟩) (y:=⟨g.h,true,5,g.paid⟩) ?_ ?_ hi
   ·show qaw (g.own==s) g.h (if g.own=s then g.so else g.st) g.paid=_
    rw[if_pos q,z,v];unfold qaw;simp
   ·show qaw (g.own==s) g.h (if g.own=s then (5:Int) else g.st) g.paid=_
    rw[if_pos q,z];unfold qaw;simp
  ·rw[X]
   show c.loc=(K.S s).ours+_
   rw[ea.loc];omega
  ·rw[Y]
   show c.rem=(K.S (!s)).ours+_
   rw[ea.rem];omega
  ·rw[qan f (q0 0 (by decide))];exact ea.nOwn
  ·rw[qan f (q2 (!s) 0)];exact ea.nTh
  ·rw[qan f (q0 1 (by decide))]
   exact qew f ea.low fun e _=>ea.low g V e (by omega)
  ·rw[qan f (q0 1 (by decide))]
   exact ea.nuI.congr fun k _=>o k
  ·show c.news=_
   rw[ea.news]
   exact(qbz rfl fun k _=>o k).symm
  ·show cnt (qbi s) (G.set j (qbs g))≤8
   rw[qan f (show qbi s (qbs g)=qbi s g by unfold qbi qbs;rw[v];simp)];exact ea.many
 ·refine eb.setS f rfl rfl ?_ (.inl rfl) (.inl rfl)
  show (if g.own = !s then (5:Int) else g.st)=if g.own = !s then g.so else g.st
  rw[if_neg D,if_neg D]
 ·refine ab.keep ⟨rfl,rfl,rfl,rfl,rfl⟩ rfl rfl (fun _=>H) ⟨rfl,rfl,rfl⟩ rfl ?_ (ab.upd.setS f p1) (qgp f ab.along fun hj=>absurd rfl (ab.upd.off f p3 j hj)) (fun k _=>o k) (fun _ i=>⟨i.setS f v1,fun k _=>o k⟩) (qan f (q2 s 1)) (qan f (q0 1 (by decide))) (qp5 f fun e=>w1.trans e)
  intro e
  rw[E]
  exact ab.m1 e
 ·refine⟨ba.w9,ba.xor,ba.sig,ba.aw,ba.rv3,ba.rv4,ba.upd.setN f p2,qgp f ba.along.2 fun hj=>absurd hj a8,U.congr fun k _=>o k,fun e=> ?_,ba.last,O.congr fun k _=>o k,fun e=> ?_,fun e=>qp5 f (fun e=>w2.trans e) (ba.ex e)⟩
  ·obtain⟨i1,i2,i3⟩:=ba.laS e
   refine⟨i1.setS f v2,?_,?_⟩
   ·rw[qan f (q1 1),qan f (q2 (!s) 1)]
    exact i2.congr fun k _=>o k
   ·rw[i3]
    congr 1
    exact(qbz rfl fun k _=>o k).symm
  ·rw[E]
   exact ba.m1 e
 ·refine qew f it ?_
  rw[qdd (g:=qbs g) (s:=s) q]
  exact b3
 ·refine qew f ok ?_
  have w:=ok g V
  exact⟨w.id,w.amount,w.hash,w.expiry,w.um⟩
 ·show ((G.set j (qbs g)).map Gi.pk).Pairwise Apt
  rw[q08 (g':=qbs g) f (by unfold Gi.pk qbs;rw[v];rfl)]
  exact pw
 ·show (G.set j _).length≤n
  rw[List.length_set]
  exact few
 ·show msE s (c.removed i ⟨g.h,true,4,false⟩ g.paid) (G.set j (qbs g)) eo=msE s c G eo++[]
  rw[List.append_nil]
  exact qc9 ab.w9 rfl (fun k _=>o k) (fun _=>H) (fun _=>qiq rfl rfl)
 ·exact qc9 ba.w9 rfl (fun k _=>o k) (fun _=>rfl) (fun _=>rfl)
end
theorem qd2:∀ {x:Int},-1≤x∧x≤9→(∀k:Fin 2,decide ((k.val:Int)≤zm (zm x true 3) true 4)=decide ((k.val:Int)≤x))∧(zm (zm x true 3) true 4==0)=(x==0)∧(zm (zm x false 3) false 4==5)=(x==5)∧(zm (zm x true 3) true 4==1)=(x==1)∧(zm (zm x false 3) false 4==6)=(x==6)∧(zm (zm x true 3) true 4==8)=(x==8)∧(zm (zm x false 3) false 4==3)=(x==3)∧decide (zm (zm x true 3) true 4≤8)=decide (x≤8)∧decide (0≤zm (zm x false 3) false 4)=decide (0≤x)∧(zm (zm x true 3) true 4=qv (qv x true 3) true 4∧zm (zm x false 3) false 4=qv (qv x false 3) false 4) :=
 qlt (p:=fun x=>(∀k:Fin 2,decide ((k.val:Int)≤zm (zm x true 3) true 4)=decide ((k.val:Int)≤x))∧(zm (zm x true 3) true 4==0)=(x==0)∧(zm (zm x false 3) false 4==5)=(x==5)∧(zm (zm x true 3) true 4==1)=(x==1)∧(zm (zm x false 3) false 4==6)=(x==6)∧(zm (zm x true 3) true 4==8)=(x==8)∧(zm (zm x false 3) false 4==3)=(x==3)∧decide (zm (zm x true 3) true 4≤8)=decide (x≤8)∧decide (0≤zm (zm x false 3) false 4)=decide (0≤x)∧(zm (zm x true 3) true 4=qv (qv x true 3) true 4∧zm (zm x false 3) false 4=qv (qv x false 3) false 4)) (by decide +kernel)
theorem q5l:∀x∈qav,qy6 x.2.2.2.2.1=true→¬(x.2.2.1=1∧x.2.2.2.1=true)→(x.1=1∨x.1=8)→(0≤x.2.1∧x.2.1≤8)∧qv x.2.1 false 3≠x.2.1:=by decide +kernel
theorem q5k:∀x∈qav,qy6 x.2.2.2.2.2=true→¬(x.2.2.1=2∧x.2.2.2.1=true)→(x.2.1=3∨x.2.1=6)→(0≤x.1∧x.1≤8)∧qv x.1 true 3≠x.1:=by decide +kernel
def hsG(s:Bool)(g:Gi):Gi:= {g with so:=if g.own=s then zm (zm g.so true 3) true 4 else g.so,st:=if g.own=s then g.st else zm (zm g.st false 3) false 4,pre:=if Gi.pend s g=true then true else g.pre}
section
variable {K:Kon}{n:Nat}{s t:Bool}{c d:Ch}{eo ei es:List En}{G:List Gi}{la nu lb nv:List Nat}{g g':Gi}{j:Nat}
theorem qel{g:Gi}(h:g.own=s):(hsG s g).so=zm (zm g.so true 3) true 4∧(hsG s g).st=g.st:=by unfold hsG;simp only[h,if_true];exact⟨trivial,trivial⟩
theorem qe7{g:Gi}(h:g.own = !s):(hsG s g).so=g.so∧(hsG s g).st=zm (zm g.st false 3) false 4:=by unfold hsG;simp only[if_neg (qbv h)];exact⟨trivial,trivial⟩
def ql7(s:Bool)(g:Gi):Bool:=g.own==s&&g.up==1
theorem qhq{α:Type}(f f':α→Int):∀G:List α,(G.map f).sum+(G.map f').sum=(G.map fun g=>f g+f' g).sum
 | []=>rfl
 | g::G=>by
  have:=qhq f f' G
  simp only[List.map_cons,List.sum_cons]
  omega
theorem q5o:∀x∈qav,x.2.2.1=1→x.2.1 = -1∧(x.1=0∨x.1=1):=by decide +kernel
theorem q9f(it:∀g∈G,g.it s (qk eo) (qk ei)∈qav)(x:qbq (qk eo)=false)(z:∀g∈G,0≤g.h.amount):(qs s).conL G+amt (ql7 s) G≤(qs (!s)).conR G:=by
 unfold Seen.conL Seen.conR amt
 rw[qhq]
 refine qg9 fun g i=> ?_
 have q:=qft it g i
 have h:=qjp _ (it g i)
 have f:=q5o _ (it g i)
 have y:=z g i
 show conL (g.own==s) (if g.own=s then g.so else g.st) g.paid g.h.amount+(if ql7 s g=true then g.h.amount else 0)≤conL (!(g.own == !s)) (if g.own = !s then g.so else g.st) g.paid g.h.amount
 rcases za g.own s with e | e
 ·rw[qdd e] at h f
  rw[if_pos e,if_neg (qg6 e),show (g.own==s)=true by rw[e];simp,show (g.own == !s)=false by rw[e];simp,show ql7 s g=(g.up==1) by unfold ql7;rw[e];simp]
  have o:g.so=9→g.st=9:=h.1
  have f:g.up=1→g.st = -1∧(g.so=0∨g.so=1):=f
  have C:g.so = -1→g.st = -1∧g.up=0:=q.2.2.1
  clear h q
  simp only[conL,Bool.not_false,if_true]
  by_cases v:g.up=1
  ·obtain⟨w,D⟩:=f v
   rw[v,w,if_neg (by omega),if_neg (by omega)]
   simp
   omega
  ·rw[if_neg (show ¬(g.up==1)=true by simpa using v)]
   by_cases m:g.so=9
   ·rw[m,o m];omega
   ·rw[if_neg m]
    by_cases l:g.so = -1
    ·rw[if_pos l,if_pos (C l).1];omega
    ·rw[if_neg l]
     repeat' split
     all_goals omega
 ·rw[qdj e] at h
  rw[if_pos e,if_neg (qbv e),show (g.own==s)=false by rw[e];simp,show (g.own == !s)=true by rw[e];simp,show ql7 s g=false by unfold ql7;rw[e];simp]
  have o:g.st=9→g.so=9:=h.2.1 x
  clear h q f
  simp only[conL,Bool.not_true,Bool.false_eq_true,if_false]
  by_cases f:g.st=9
  ·rw[f,o f];omega
  ·rw[if_neg f]
   repeat' split
   all_goals omega
theorem zdr{w:Nat}(h:w≤4)(f:qbq w=false):w=0∨w=1:=by
 have:w=0∨w=1∨w=2∨w=3∨w=4:=by omega
 rcases this with rfl | rfl | rfl | rfl | rfl
 ·exact .inl rfl
 ·exact .inr rfl
 ·cases f
 ·cases f
 ·cases f
theorem qt7{x:En}{e:List En}(i:qk (x::e)≠9)(f:qbq (qk (x::e))=false):qk e≠9∧qbq (qk e)=false:=by
 cases x with
 | upd j=>exact⟨i,f⟩
 | shut=>exact⟨i,f⟩
 | rev=>rcases qgn i with ⟨-,e⟩ | ⟨-,e⟩<;>rw[e] at f<;>cases f
 | sgn =>
  rcases qgo i with ⟨l,e⟩ | ⟨-,e⟩
  ·rw[l];exact⟨by decide,rfl⟩
  ·rw[e] at f;cases f
theorem qbb.rev{f:Gi→Gi} : ∀ {e:List En},qk e≠9→qbq (qk e)=false→(∀j∈ups e,∀g,G[j]? = some g→(f g).cov=g.cov∧(f g).pre=true)→qbb G e→qbb (G.map f) (e++[.rev])
 | [],_,_,_,_=>trivial
 | .upd i::es,m,l,q,h=>by
  refine⟨fun y o=> ?_,qbb.rev m l (fun j C=>q j (List.mem_cons_of_mem _ C)) h.2⟩
  show y.cov=qas (qk (es++[.rev]))∧y.pre=qbq (qk (es++[.rev]))
  rw[List.getElem?_map] at o
  cases v:G[i]? with
  | none=>rw[v] at o;cases o
  | some g =>
   rw[v] at o
   injection o with o
   subst o
   obtain⟨x,z⟩:=q i (List.mem_cons_self ..) g v
   have w:qk es=0∨qk es=1:=zdr (qgb es m) l
   rw[x,z,(h.1 g v).1,qt5 es w]
   rcases w with e | e<;>rw[e]<;>exact⟨rfl,rfl⟩
 | .rev::es,m,l,_,_=>by
  rcases qgn m with ⟨-,e⟩ | ⟨-,e⟩<;>rw[e] at l<;>cases l
 | .sgn::es,m,l,q,h=>qbb.rev (e:=es) (qt7 m l).1 (qt7 m l).2 q h
 | .shut::es,m,l,q,h=>qbb.rev (e:=es) m l q h
theorem zbq(t ours:Bool)(pw:(G.map Gi.pk).Pairwise Apt)(i:∀g∈G,-1≤g.so∧(g.so = -1→g.st = -1)):qhw (zb ours (G.filterMap (qs t).show)):=by
 have e:G.filterMap (qs t).show=(G.filter fun g=>decide (0≤g.so)).filterMap (qs t).show:=by
  rw[List.filterMap_filter]
  refine qgz fun g D=> ?_
  by_cases x:0≤g.so
  ·rw[if_pos (decide_eq_true x)]
  ·rw[if_neg (by simpa using x)]
   have y:=i g D
   have l:g.so = -1:=by omega
   have m:=y.2 l
   show qaw (g.own==t) g.h (if g.own=t then g.so else g.st) g.paid=none
   rw[l,m]
   simp[qaw]
 rw[e]
 refine q4z ?_
 have z:G.Pairwise fun g g'=>¬(0≤g.so∧0≤g'.so∧g.own=g'.own∧g.h.id=g'.h.id):=by
  rw[List.pairwise_map] at pw
  refine pw.imp fun {a b} h=> ?_
  rintro ⟨f,w,E,F⟩
  exact h ⟨decide_eq_true f,decide_eq_true w,E,F⟩
 have C:=z.filter fun g=>decide (0≤g.so)
 refine List.Pairwise.imp_of_mem ?_ C
 rintro a b o q v ⟨f,w⟩
 have o:=(List.mem_filter.1 o).2
 have q:=(List.mem_filter.1 q).2
 refine v ⟨by simpa using o,by simpa using q,?_,w⟩
 have f:(a.own==t)=(b.own==t):=f
 cases l:a.own<;>cases m:b.own<;>rw[l,m] at f<;>cases t<;>simp at f ⊢
theorem ze3(v:Seen Gi)(ours:Bool)(i:∀g∈G,0≤(v.h g).amount):v.conL G≤v.tvL ours G∧v.conR G≤v.tvR ours G:=by
 constructor
 ·refine qg9 fun g f=> ?_
  have l:=i g f
  unfold tvL gvL
  simp only
  repeat' split
  all_goals omega
 ·refine qg9 fun g f=> ?_
  have l:=i g f
  unfold tvR gvR
  simp only
  repeat' split
  all_goals omega
theorem ze6(v:Seen Gi)(ours:Bool)(l:∀g∈G,-1≤v.st g∧v.st g≤9)(m:∀g∈G,0≤(v.h g).amount):v.tvL ours G+v.tvR ours G≤0:=by
 unfold Seen.tvL Seen.tvR
 rw[qhq]
 have:=qg9 (f:=fun g=>tvL ours (v.mine g) (v.st g) (v.paid g) (v.h g).amount+tvR ours (v.mine g) (v.st g) (v.paid g) (v.h g).amount) (f':=fun _:Gi=>(0:Int)) (G:=G) fun g i=>by
  show tvL ours (v.mine g) (v.st g) (v.paid g) (v.h g).amount+tvR ours (v.mine g) (v.st g) (v.paid g) (v.h g).amount≤0
  rw[ze4 _ _ _ _ _ (l g i),ze5 _ _ _ _ _ (l g i)]
  have q:=m g i
  unfold tvK
  cases v.mine g<;>simp<;>repeat' split
  all_goals omega
 have e:(G.map fun _:Gi=>(0:Int)).sum=0:=by
  clear this l m
  induction G with
  | nil=>rfl
  | cons g G o=>rw[List.map_cons,List.sum_cons,o];rfl
 omega
theorem zfu(i:c.xs.Perm (G.filterMap (qs s).show)):qv6 c.xs:=by
 intro x l
 obtain⟨j,g,-,e,f⟩:=qfv i l
 rw[e]
 exact⟨f.1,Int.le_trans f.2 (by decide)⟩
theorem q4n{c:Ch}{ev:Int}(h:qv6 c.xs)(m:∀x∈c.xs,x.state≤8):qv6 (c.goOn ev).xs:=by
 intro x o
 obtain⟨y,f,rfl⟩:=List.mem_map.1 (List.mem_filter.1 (show x∈qa8 (qz ev c.xs) from o)).1
 have i:=h y f
 have l:=m y f
 show 0≤qv y.state y.own ev∧qv y.state y.own ev≤9
 rcases qeb (mine:=y.own) (ev:=ev) ⟨i.1,l⟩ with e | e<;>omega
theorem qsf(l:c.xs.Perm (G.filterMap (qs s).show))(q:c.signedBy.s=c.s)(v:c.signedBy.k.signed=c.k.signed):c.signedBy.sgnOf=c.sgnOf:=by
 have i:∀x∈c.xs,x.state≤8:=fun x w=>by
  obtain⟨j,g,-,e,i⟩:=qfv l w
  rw[e]
  exact i.2
 have f:=zfu l
 refine qiu q v ?_
 have m:=qnb (.inl ⟨rfl,.inr (.inl rfl)⟩:qj8 false 3) c.s.key c.s.ch c.k.signed c f
 have o:=qnb (.inl ⟨rfl,.inr (.inr rfl)⟩:qj8 false 4) c.s.key c.s.ch c.k.signed (c.goOn 3).heardOne (q4n f i)
 exact o.trans m
end
end Go.Proofs.YtjpmomdechibmaaGreatDoor
