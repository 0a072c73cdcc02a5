/-
  The protocol, plain: what is said may be heard; an Add, a removal, a Shut that is heard; a Shut that is said.
-/
import Derived.Test.YthnohmjbbeahmaaGreatDoorMdf
import Derived.Test.YthnohmjbbeahmaaGreatDoorMch
set_option linter.unusedVariables false
set_option linter.unusedSimpArgs false
namespace Go.Proofs.YthnohmjbbeahmaaGreatDoor
open Go.RowKit
theorem qgp(b:Bool)(key:ByteArray)(ch n l r:Int)(xs:List Live):qa7 (zx b key ch n l r xs):=by unfold zx qtt;exact qgg _
theorem qlq(h:Vector Int 32):qcl h.toList=h:=by
 unfold qcl;rw[dif_pos (by simp)];rfl
structure Said(ch:Int)(m:MsgV):Prop where
 may:qam m=true
 ch:m.ch=ch
 ok:MsgOk m
 kind:m.kind=3∨m.kind=4∨m.kind=5∨m.kind=6∨m.kind=7∨m.kind=8
theorem zf2{c i a e:Int}(h:List Int)(l:a≤1125899906842624)(m:0≤e∧e≤1073741824):qam ⟨3,c,i,a,h,e,0⟩=true:=by
 unfold qam;show (if e<0∨1073741824<e∨(0:Int)<0∨65535<(0:Int)∨1125899906842624<a then false else decide (qg1 _ _=qfi 3))=true;rw[if_neg (by omega)];kernel_rfl
theorem zcq(c i:Int)(h:List Int):qam ⟨4,c,i,0,h,0,0⟩=true:=by kernel_rfl
theorem zcp(c i:Int){r:Int}(l:0≤r∧r≤65535):qam ⟨5,c,i,0,qaj,0,r⟩=true:=by
 unfold qam;show (if (0:Int)<0∨1073741824<(0:Int)∨r<0∨65535<r∨1125899906842624<(0:Int) then false else decide (qg1 _ _=qfi 5))=true;rw[if_neg (by omega)];kernel_rfl
theorem zcu(c:Int)(T:List Int){n:Int}(i:0≤n∧n≤65535):qam ⟨6,c,0,0,T,0,n⟩=true:=by
 unfold qam;show (if (0:Int)<0∨1073741824<(0:Int)∨n<0∨65535<n∨1125899906842624<(0:Int) then false else decide (qg1 _ _=qfi 6))=true;rw[if_neg (by omega)];kernel_rfl
theorem zct(c:Int)(T:List Int){n:Int}(i:0≤n∧n≤65535):qam ⟨7,c,0,0,T,0,n⟩=true:=by
 unfold qam;show (if (0:Int)<0∨1073741824<(0:Int)∨n<0∨65535<n∨1125899906842624<(0:Int) then false else decide (qg1 _ _=qfi 7))=true;rw[if_neg (by omega)];kernel_rfl
theorem qvo(c:Int):qam (qb6 c)=true:=by kernel_rfl
section
variable {ch:Int}(hc:0≤ch∧ch<4294967296)
include hc
theorem q1i{g:Gi}(h:GiOk ch g):Said ch (qqx ch g.h) :=
 ⟨zf2 _ h.amount.2 ⟨by have:=h.expiry.1;omega,h.expiry.2⟩,rfl,qg4 ⟨by decide,by decide⟩ hc ⟨h.id.1,by have:=h.id.2;omega⟩ ⟨by have:=h.amount.1;omega,by have:=h.amount.2;omega⟩ (by simp) h.hash ⟨by have:=h.expiry.1;omega,by have:=h.expiry.2;omega⟩ ⟨by decide,by decide⟩,.inl rfl⟩
theorem q1j{g:Gi}(h:GiOk ch g)(q:zh2 ch g):Said ch g.um:=by
 rcases q with ⟨p,e,o,m,-,-⟩ | ⟨r,e,i,l,-⟩
 ·rw[e,show (qgc g.h.id p).on ch=(⟨4,ch,g.h.id,0,p,0,0⟩:MsgV) from rfl];exact⟨zcq _ _ _,rfl,qg4 ⟨by decide,by decide⟩ hc ⟨h.id.1,by have:=h.id.2;omega⟩ ⟨by decide,by decide⟩ o m ⟨by decide,by decide⟩ ⟨by decide,by decide⟩,.inr (.inl rfl)⟩
 ·rw[e,show (qe1 g.h.id r).on ch=(⟨5,ch,g.h.id,0,qaj,0,r⟩:MsgV) from rfl];exact⟨zcp _ _ ⟨i,l⟩,rfl,qg4 ⟨by decide,by decide⟩ hc ⟨h.id.1,by have:=h.id.2;omega⟩ ⟨by decide,by decide⟩ qu qec ⟨by decide,by decide⟩ ⟨i,by show r≤65536;omega⟩,.inr (.inr (.inl rfl))⟩
theorem q1k{c:Ch}(o:c.s.ch=ch)(i:0≤c.k.signed∧c.k.signed≤65535):Said ch c.sgnOf:=by
 unfold Ch.sgnOf;rw[o];have l:=qgz false c.s.key ch c.k.signed c.loc c.rem c.xs;have m:=qgp false c.s.key ch c.k.signed c.loc c.rem c.xs;generalize zx false c.s.key ch c.k.signed c.loc c.rem c.xs=T at *
 exact⟨zcu _ _ i,rfl,qg4 ⟨by decide,by decide⟩ hc ⟨by decide,by decide⟩ ⟨by decide,by decide⟩ l m ⟨by decide,by decide⟩ ⟨i.1,by omega⟩,.inr (.inr (.inr (.inl rfl)))⟩
theorem qtl{c:Ch}(o:c.s.ch=ch)(q:1≤c.k.heard∧c.k.heard≤65536)(i:c.s.seed.length=32∧qa7 c.s.seed):c.revocation=⟨7,ch,0,0,(qcu c.s.seed (65535-(c.k.heard-1))).1,0,c.k.heard-1⟩∧Said ch c.revocation:=by
 have e:c.revocation=⟨7,ch,0,0,(qcu c.s.seed (65535-(c.k.heard-1))).1,0,c.k.heard-1⟩:=by
  unfold Ch.revocation Ch.secret;rw[if_neg (by omega),o]
 have l:=qjg _ i.1 (65535-(c.k.heard-1));have m:=qin _ i.2 (65535-(c.k.heard-1));refine⟨e,?_⟩;rw[e];generalize (qcu c.s.seed (65535-(c.k.heard-1))).1=T at *
 exact⟨zct _ _ ⟨by omega,by omega⟩,rfl,qg4 ⟨by decide,by decide⟩ hc ⟨by decide,by decide⟩ ⟨by decide,by decide⟩ l m ⟨by decide,by decide⟩ ⟨by omega,by omega⟩,.inr (.inr (.inr (.inr (.inl rfl))))⟩
theorem qvy:Said ch (qb6 ch) :=
 ⟨qvo _,rfl,qg4 ⟨by decide,by decide⟩ hc ⟨by decide,by decide⟩ ⟨by decide,by decide⟩ qu qec ⟨by decide,by decide⟩ ⟨by decide,by decide⟩,.inr (.inr (.inr (.inr (.inr rfl))))⟩
end
theorem qqe:∀x∈qa3,0≤x.2.1→x.2.1≤8→0≤x.1∧x.1≤8:=by decide +kernel
theorem qkk:∀x∈qa3,(x.1=9→x.2.1=9)∧(qbw x.2.2.2.2.2=false→x.2.1=9→x.1=9)∧(x.2.2.1=2→x.2.1=5∨x.2.1=6):=by decide +kernel
section
variable {K:Kon}{n:Nat}{s t:Bool}{c d:Ch}{eo ei es:List En}{G:List Gi}{la nu lb nv:List Nat}{g g':Gi}{j:Nat}
theorem zge(it:∀g∈G,g.it s (ql eo) (ql ei)∈qa3)(w:qbw (ql ei)=false)(y:∀g∈G,0≤g.h.amount):(qo (!s)).conL G≤(qo s).conR G:=by
 refine qib fun g o=> ?_
 have q:=qge it g o;have h:=qkk _ (it g o);have x:=y g o;show conL (g.own == !s) (if g.own = !s then g.so else g.st) g.paid g.h.amount≤conL (!(g.own==s)) (if g.own=s then g.so else g.st) g.paid g.h.amount;rcases za g.own s with e | e
 ·rw[qdp e] at h;rw[if_pos e,if_neg (qh7 e),show (g.own==s)=true by rw[e];simp,show (g.own == !s)=false by rw[e];simp];have m:g.st=9→g.so=9:=h.2.1 w;clear h q;simp only[conL,Bool.not_true,Bool.false_eq_true,if_false];by_cases i:g.st=9
  ·rw[i,m i];exact Int.le_refl _
  ·rw[if_neg i]
   repeat' split
   all_goals omega
 ·rw[qdv e] at h;rw[if_pos e,if_neg (qb3 e),show (g.own==s)=false by rw[e];simp,show (g.own == !s)=true by rw[e];simp];have m:g.so=9→g.st=9:=h.1;have z:g.so = -1→g.st = -1:=fun v=>(q.2.2.1 v).1
  clear h q;simp only[conL,Bool.not_false,if_true];by_cases i:g.so=9
  ·rw[i,m i];exact Int.le_refl _
  ·rw[if_neg i];by_cases l:g.so = -1
   ·rw[if_pos l,if_pos (z l)];exact Int.le_refl _
   ·rw[if_neg l]
    repeat' split
    all_goals omega
structure Hears(K:Kon)(n:Nat)(P:Pt)(m:MsgV)(wi:List MsgV):Prop where
 said:Said K.ch m
 ok:(P.c.hear m).2.2=0
 goes:∃P',Goes K n P (P.c.hear m).1 (P.out++(P.c.hear m).2.1) wi P'
 says:∀l∈(P.c.hear m).2.1,MsgOk l
 few:(P.c.hear m).2.1.length≤1
theorem EndI.shutSaid(h:EndI K s c G nu):EndI K s c.shutSaid G nu:=⟨h.set,h.perm,h.loc,h.rem,h.pos,h.nOwn,h.nTh,h.low,h.nuS,h.nuI,h.news,h.many,h.shelf,h.nums⟩
theorem q9k{P:Pt}(h:Inv K n P)(m:P.c.k.shutSaid=false):∃q,Goes K n P P.c.shut.1 (P.out++[P.c.shut.2.1]) P.inn q:=by
 obtain⟨s,c,d,eo,ei,G,la,nu,lb,nv⟩:=P;obtain⟨ea,eb,ab,ba,it,ok,pw,few⟩:=h;simp only at ea eb ab ba it ok pw few m;have v:c.shut=(c.shutSaid,qb6 c.s.ch,0):=by unfold Ch.shut;rw[if_neg (by rw[m];decide)]
 have l:ql (eo++[.shut])=ql eo:=qty eo;have o:ups (eo++[.shut])=ups eo:=by rw[qhg];exact List.append_nil _
 rw[v];refine⟨⟨s,c.shutSaid,d,eo++[.shut],ei,G,la,nu,lb,nv⟩,⟨ea.shutSaid,eb,?_,?_,?_,ok,pw,few⟩,rfl,rfl,rfl,?_,rfl⟩
 ·refine⟨by rw[l];exact ab.w9,by rw[l];exact ab.xor,by rw[l];exact ab.sig,by rw[l];exact ab.aw,by rw[l];exact ab.rv3,by rw[l];exact ab.rv4,by rw[o];exact ab.upd,?_,by rw[o];exact ab.ids,by rw[l];exact ab.laS,ab.last,?_,by rw[l];exact ab.m1,by rw[l];exact ab.ex⟩
  ·exact qbh.snoc (j:=0) (.inr rfl) (fun e=>by cases e) eo ab.along
  ·have:=ab.shut;rw[m] at this;exact this.shut
 ·exact ba.keep ⟨rfl,rfl,rfl,rfl,rfl⟩ rfl rfl (fun _=>rfl) ⟨rfl,rfl,rfl⟩ (by rw[l]) ba.m1 ba.upd ba.along (fun _ _=>rfl) (fun _ i=>⟨i,fun _ _=>rfl⟩) rfl rfl id
 ·intro g w;show g.it s (ql (eo++[.shut])) (ql ei)∈qa3;rw[l];exact it g w
 ·show msE s c.shutSaid G (eo++[.shut])=msE s c G eo++[qb6 c.s.ch];unfold msE;rw[List.map_append];rfl
def Ch.shutHears(c:Ch):Ch:= {c with k:= {c.k with shutHeard:=true}}
theorem EndI.shutHears(h:EndI K s c G nu):EndI K s c.shutHears G nu:=⟨h.set,h.perm,h.loc,h.rem,h.pos,h.nOwn,h.nTh,h.low,h.nuS,h.nuI,h.news,h.many,h.shelf,h.nums⟩
theorem qsg{P:Pt}(v:K.Ok)(h:Inv K n P)(y:P.ei = .shut::es):Hears K n P (qb6 P.d.s.ch) (msE (!P.s) P.d P.G es):=by
 obtain⟨s,c,d,eo,ei,G,la,nu,lb,nv⟩:=P;obtain⟨ea,eb,ab,ba,it,ok,pw,few⟩:=h;simp only at ea eb ab ba it ok pw few y ⊢;subst y;have o:d.s.ch=K.ch:=by rw[eb.set];exact v.ch _
 have w:c.s.ch=K.ch:=by rw[ea.set];exact v.ch _
 obtain⟨C,x⟩:=ba.shut;have q:c.hear (qb6 d.s.ch)=(c.shutHears,[],0):=by
  rw[zfq (qvo _) (by show d.s.ch=_;rw[o,w]) rfl];unfold Ch.hearShut;rw[if_neg (by rw[C];decide)];rfl
 have m:Said K.ch (qb6 d.s.ch):=by rw[o];exact qvy v.chb
 refine⟨m,by show (c.hear _).2.2=0;rw[q],?_,(by show ∀l∈(c.hear _).2.1,_;rw[q];intro l D;cases D),by show (c.hear _).2.1.length≤1;rw[q];exact Nat.zero_le _⟩;show ∃z,Goes K n _ (c.hear _).1 (_++(c.hear _).2.1) _ z;rw[q];refine⟨⟨s,c.shutHears,d,eo,es,G,la,nu,lb,nv⟩,⟨ea.shutHears,eb,?_,?_,it,ok,pw,few⟩,rfl,rfl,rfl,?_,rfl⟩
 ·exact ab.keep ⟨rfl,rfl,rfl,rfl,rfl⟩ rfl rfl (fun _=>rfl) ⟨rfl,rfl,rfl⟩ rfl ab.m1 ab.upd ab.along (fun _ _=>rfl) (fun _ i=>⟨i,fun _ _=>rfl⟩) rfl rfl id
 ·exact⟨ba.w9,ba.xor,ba.sig,ba.aw,ba.rv3,ba.rv4,ba.upd,ba.along,ba.ids,ba.laS,ba.last,x,ba.m1,ba.ex⟩
 ·show msE s c.shutHears G eo=msE s c G eo++[];rw[List.append_nil];rfl
theorem zev{p:Gi→Bool}(o:∀g∈G,0≤g.h.amount)(m:g∈G)(q:p g=true):g.h.amount≤amt p G:=by
 obtain⟨k,i⟩:=List.getElem?_of_mem m;have e:amt p (G.set k {g with own:=g.own})=amt p G:=by
  rw[qj1 p i];show _-_+(if p g=true then g.h.amount else 0)=_;omega
 have v:=qj1 (fun y=>p y&&decide (y.so≤100)) i {g with so:=101};have l:0≤amt p (G.set k {g with h:=⟨g.h.id,0,g.h.hash,g.h.expiry⟩}):=zgc _ (qfj i o (Int.le_refl _));rw[qj1 p i,if_pos q] at l;split at l<;>simp at l<;>omega
def qds(g:Gi):Gi:= {g with st:=0,up:=0,cov:=false}
theorem q2i(c:Ch)(m:MsgV)(i:0≤c.rem∧c.rem<18446744073709551616):(c.added m).sgnOf=c.sgnOf :=
 qjq rfl rfl (qgh _ _ _ (q4v false c.xs (x:=qel m) rfl rfl i) (qst false c.xs (x:=qel m) rfl))
theorem qua{P:Pt}(O:K.Ok)(h:Inv K n P)(hn:n<1000000000)(he:P.ei = .upd j::es)(m:P.G[j]? = some g)(o:g.own = !P.s):Hears K n P (enM (!P.s) P.d P.G (.upd j)) (msE (!P.s) P.d P.G es):=by
 obtain⟨s,c,d,eo,ei,G,la,nu,lb,nv⟩:=P;obtain⟨ea,eb,ab,ba,it,ok,pw,few⟩:=h;simp only at ea eb ab ba it ok pw few he m o ⊢;subst he;have E:=List.mem_of_getElem? m;have a9:d.s.ch=K.ch:=by rw[eb.set];exact O.ch _
 have a8:c.s.ch=K.ch:=by rw[ea.set];exact O.ch _
 have x:¬g.own=s:=qb3 o;have L:Gi.pend (!s) g=true:=ba.upd.yes (List.mem_cons_self ..) m;have C:g.up=1:=by unfold Gi.pend at L;rw[o] at L;simpa using L
 obtain⟨R,F⟩:=ba.along.1 g m;have U:=it g E;rw[qdv o] at U;obtain⟨b6,b7,b8⟩:=qui _ U C (by
  show g.cov=true∨qay (ql es)=false;rw[R];cases qay (ql es)
  ·exact .inr rfl
  ·exact .inl rfl)
 have w:g.st = -1:=b7;have c8:g.so=0∨g.so=1:=b8;have hM:enM (!s) d G (.upd j)=qqx K.ch g.h:=by
  rw[qka m];unfold qq1;rw[if_pos o,a9]
 rw[hM];have z:=q1i O.chb (ok g E);have nn:=qla ok;have c4:=O.cap;obtain⟨bl,br⟩:=ea.tag O (qe7 it s) nn;obtain⟨c7,T⟩:g.h.id=c.k.nextTheirs∧Ids G (!s) (c.k.nextTheirs+1) (ups es) d.k.nextOwn:=by
  obtain⟨y,N,hb⟩:=ba.ids;rw[m] at N;injection N with N;subst N;rw[if_pos o] at hb;exact hb
 obtain⟨b9,M⟩:=ba.shut;have c0:c.k.shutHeard=false:=by
  cases e:c.k.shutHeard with
  | false=>rfl
  | true=>exact absurd o (b9 e g m)
 have b5:qdh false c.xs<8:=by
  have h1:=(qs2 ea.perm).2;have h2:=q2t (p:=qic s) (q:=qbq (!s)) (G:=G) (fun y N hp=>by
   unfold qic at hp;unfold qbq;have:y.own = !s∧0≤y.st∧y.st≤8:=by simpa using hp
   obtain⟨I,e2,e3⟩:=this;have hi:=it y N;rw[qdv I] at hi;have:=qqe _ hi e2 e3;rw[I];simp;exact this) E (by unfold qic;rw[w];simp) (by unfold qbq;rw[o];simp;omega)
  have:=eb.many;omega
 have c6:(G.set j (qds g))[j]? = some (qds g):=by rw[qf2 m,if_pos rfl]
 have W:∀y∈G.set j (qds g),y.it s (ql eo) (ql es)∈qa3:=qfj m it (by rw[qdv (g:=qds g) (s:=s) o];exact b6);have c3:∀y∈G.set j (qds g),0≤y.h.amount:=qfj m nn (nn g E);obtain⟨Y,Z⟩:=qoy (qo s) m (qds g);have em:(qo s).mine g=false:=by show (g.own==s)=false;rw[o];simp
 have a4:(qo s).mine (qds g)=false:=em;have a5:(qo s).st g = -1:=by show (if g.own=s then g.so else g.st) = -1;rw[if_neg x,w]
 have a6:(qo s).st (qds g)=0:=by show (if g.own=s then g.so else 0)=0;rw[if_neg x]
 rw[em,a5,a4,a6] at Y Z;replace Y:(qo s).conL (G.set j (qds g))=(qo s).conL G-0+0:=Y;replace Z:(qo s).conR (G.set j (qds g))=(qo s).conR G-0 + -g.h.amount:=Z;have J:EndI K (!s) d (G.set j (qds g)) nv:=by
  refine eb.setS m rfl rfl ?_ (.inl rfl) (.inl rfl);show (if g.own = !s then g.so else 0)=if g.own = !s then g.so else g.st;rw[if_pos o,if_pos o]
 have b3:g.h.amount≤c.rem:=by
  cases hR:qbw (ql es) with
  | true =>
   have:=ba.m1 hR;have:=zev (p:=qao (!s)) nn E (by unfold qao;rw[o,C,F,hR];simp);omega
  | false =>
   have h1:=zge W hR c3;have h2:=J.loc;have h3:=J.pos.1;have h4:=ea.rem;omega
 have c5:=(ok g E).amount;have I:c.hear (qqx K.ch g.h)=(c.added (qqx K.ch g.h),[],0):=by
  rw[q5p z.may (by rw[a8];rfl) rfl];have:qav c (qqx K.ch g.h)=0:=by
   unfold qav;rw[if_neg (by rw[c0];decide),if_neg (by show ¬g.h.amount=0;omega),if_neg (by show ¬(g.h.id≠_);omega),if_neg (by show ¬g.h.expiry=0;have:=(ok g E).expiry;omega),if_neg (by omega),if_neg (by show ¬c.rem<g.h.amount;omega)]
  unfold Ch.hearAdd;rw[if_pos this]
 have a7:qel (qqx K.ch g.h)=⟨g.h,false,0,false⟩:=by
  unfold qel qqx;rw[qlq]
 refine⟨z,by show (c.hear _).2.2=0;rw[I],?_,(by show ∀l∈(c.hear _).2.1,_;rw[I];intro l hl;cases hl),by show (c.hear _).2.1.length≤1;rw[I];exact Nat.zero_le _⟩;show ∃P',Goes K n _ (c.hear _).1 (_++(c.hear _).2.1) _ P';rw[I];have H:=q2i c (qqx K.ch g.h) ⟨br.1,by omega⟩;have V:IntKind.u64.wrap (c.k.nextTheirs+1)=c.k.nextTheirs+1:=by
  have:=qq4 (pGe (!s) 0) G;have:=qj8 (pGe (!s) 0) G;exact qdq (by rw[ea.nTh];omega) (by rw[ea.nTh];omega)
 have b4:j∉ups es:=(List.nodup_cons.1 ba.upd.nd).1;have X:∀t k,oGe t k (qds g)=oGe t k g:=fun _ _=>rfl
 have q1:∀k,pGe s k (qds g)=pGe s k g:=fun k=>by unfold pGe qds;rw[o];simp
 have p1:Gi.pend s (qds g)=Gi.pend s g:=by unfold Gi.pend qds;rw[o,C];simp
 have p2:Gi.pend (!s) (qds g)=false:=by unfold Gi.pend qds;simp
 have p3:Gi.pend s g=false:=by unfold Gi.pend;rw[o,C];simp
 have v1:Gi.covd s (qds g)=Gi.covd s g:=by unfold Gi.covd qds;rw[o,w];simp
 have v2:Gi.covd (!s) (qds g)=Gi.covd (!s) g:=by unfold Gi.covd qds;rw[o];simp
 have u1:Gi.unsg s (qds g)=Gi.unsg s g:=by unfold Gi.unsg qds;rw[o,w];simp
 have w1:Gi.moved s (qds g)=Gi.moved s g:=by unfold Gi.moved qds;rw[o,w];simp
 have w2:Gi.moved (!s) (qds g)=Gi.moved (!s) g:=by unfold Gi.moved qds;rw[o];simp
 have a1:qao s g=false:=by unfold qao;rw[o];simp
 have a2:∀t,qao t (qds g)=false:=fun t=>by unfold qao qds;simp
 have v:∀k:Nat,((G.set j (qds g))[k]?).map Gi.key=(G[k]?).map Gi.key:=fun k=>qob m (.inr rfl)
 refine⟨⟨s,c.added (qqx K.ch g.h),d,eo,es,G.set j (qds g),la,nu,lb,nv⟩,⟨?_,J,?_,?_,W,?_,?_,?_⟩,rfl,rfl,rfl,?_,?_⟩
 ·refine⟨ea.set,?_,?_,?_,⟨ea.pos.1,?_⟩,?_,?_,?_,ea.nuS.setS m u1,?_,?_,?_,ea.shelf,ea.nums⟩
  ·refine q68 _ ea.perm m ?_ ?_
   ·show qa9 (g.own==s) g.h (if g.own=s then g.so else g.st) g.paid=none;rw[if_neg x,w];rfl
   ·show qa9 (g.own==s) g.h (if g.own=s then g.so else 0) g.paid=some (qel (qqx K.ch g.h));rw[if_neg x,a7,show (g.own==s)=false from em];unfold qa9;simp
  ·rw[Y];show c.loc=(K.S s).ours+_;rw[ea.loc];omega
  ·rw[Z];show c.rem-g.h.amount=(K.S (!s)).ours+_;rw[ea.rem];omega
  ·show 0≤c.rem-g.h.amount;omega
  ·rw[qau m (X s 0)];exact ea.nOwn
  ·show IntKind.u64.wrap (c.k.nextTheirs+1)=_;rw[V,ea.nTh,q5d _ m,show pGe (!s) 0 g=false by unfold pGe;rw[w];simp,show pGe (!s) 0 (qds g)=true by unfold pGe qds;rw[o];simp];simp
  ·rw[qau m (X s 1)];exact qfj m ea.low fun e=>absurd e x
  ·rw[qau m (X s 1)];exact ea.nuI.congr fun k _=>v k
  ·show c.news=_;rw[ea.news];exact(qb8 rfl fun k _=>v k).symm
  ·show cnt (qbq s) (G.set j (qds g))≤8;rw[qau m (show qbq s (qds g)=qbq s g from rfl)];exact ea.many
 ·refine ab.keep ⟨rfl,rfl,rfl,rfl,rfl⟩ rfl rfl (fun _=>H) ⟨rfl,rfl,rfl⟩ rfl ?_ (ab.upd.setS m p1) (qhj m ab.along fun hj=>absurd rfl (ab.upd.off m p3 j hj)) (fun k _=>v k) (fun _ i=>⟨i.setS m v1,fun k _=>v k⟩) (qau m (q1 1)) (qau m (X s 1)) (qr1 m fun e=>w1.trans e);intro e;rw[qj1 _ m,a1,a2];have:=ab.m1 e;simpa using this
 ·refine⟨ba.w9,ba.xor,ba.sig,ba.aw,ba.rv3,ba.rv4,ba.upd.setN m p2,qhj m ba.along.2 fun hj=>absurd hj b4,?_,fun e=> ?_,ba.last,M.congr fun k _=>v k,fun e=> ?_,fun e=>qr1 m (fun e=>w2.trans e) (ba.ex e)⟩
  ·show Ids _ (!s) (IntKind.u64.wrap (c.k.nextTheirs+1)) (ups es) d.k.nextOwn;rw[V];exact T.congr fun k _=>v k
  ·obtain⟨i1,i2,i3⟩:=ba.laS e;refine⟨i1.setS m v2,?_,?_⟩
   ·rw[qau m (X (!s) 1),qau m (show pGe (!s) 1 (qds g)=pGe (!s) 1 g by unfold pGe qds;rw[w];simp)];exact i2.congr fun k _=>v k
   ·rw[i3];congr 1;exact(qb8 rfl fun k _=>v k).symm
  ·have e:qbw (ql es)=true:=e;show amt (qao (!s)) (G.set j (qds g))≤c.rem-g.h.amount;rw[qj1 _ m,a2,show qao (!s) g=true by unfold qao;rw[o,C,F,e];simp];have:=ba.m1 e;simp;omega
 ·refine qfj m ok ?_;have D:=ok g E;exact⟨D.id,D.amount,D.hash,D.expiry,fun e=>by rcases e with e | e<;>exact absurd e (by show ¬(0:Int)=_;decide)⟩
 ·show ((G.set j (qds g)).map Gi.pk).Pairwise Apt;rw[q36 (g':=qds g) m rfl];exact pw
 ·show (G.set j _).length≤n;rw[List.length_set];exact few
 ·show msE s (c.added (qqx K.ch g.h)) (G.set j (qds g)) eo=msE s c G eo++[];rw[List.append_nil];exact qdi ab.w9 rfl (fun k _=>v k) (fun _=>H) (fun _=>qjp rfl rfl)
 ·exact qdi ba.w9 rfl (fun k _=>v k) (fun _=>rfl) (fun _=>rfl)
end
section
variable {K:Kon}{n:Nat}{s t:Bool}{c d:Ch}{eo ei es:List En}{G:List Gi}{la nu lb nv:List Nat}{g g':Gi}{j:Nat}
theorem zah(pw:(G.map Gi.pk).Pairwise Apt){j k:Nat}{g y:Gi}(D:G[j]? = some g)(F:G[k]? = some y)(o:0≤g.so)(q:0≤y.so)(x:g.own=y.own)(w:g.h.id=y.h.id):j=k:=by
 obtain⟨z,i⟩:=List.getElem?_eq_some_iff.1 D;obtain⟨C,l⟩:=List.getElem?_eq_some_iff.1 F;have E:=List.pairwise_iff_getElem.1 pw;have v:∀(a b:Nat) (la:a<G.length) (lb:b<G.length),a<b→¬(0≤G[a].so∧0≤G[b].so∧G[a].own=G[b].own∧G[a].h.id=G[b].h.id):=by
  intro a b la lb m ⟨H,I,J,L⟩;have:=E a b (by rw[List.length_map];exact la) (by rw[List.length_map];exact lb) m;rw[List.getElem_map,List.getElem_map] at this;exact this ⟨decide_eq_true H,decide_eq_true I,J,L⟩
 rcases Nat.lt_trichotomy j k with h | h | h
 ·exact absurd ⟨by rw[i];exact o,by rw[l];exact q,by rw[i,l];exact x,by rw[i,l];exact w⟩ (v j k z C h)
 ·exact h
 ·exact absurd ⟨by rw[l];exact q,by rw[i];exact o,by rw[i,l];exact x.symm,by rw[i,l];exact w.symm⟩ (v k j C z h)
theorem zbo(P:c.xs.Perm (G.filterMap (qo s).show))(pw:(G.map Gi.pk).Pairwise Apt)(v:∀g∈G,g.st ≠ -1→g.so ≠ -1)(q:∀g∈G,-1≤g.so)(E:G[j]? = some g){own:Bool}(l:(g.own==s)=own)(w:(if g.own=s then g.so else g.st)=4)(U:g.so ≠ -1) :
  ∃i,qb0 own g.h.id c.xs=some (i,⟨g.h,own,4,false⟩):=by
 have O:=List.mem_of_getElem? E
 have V:(⟨g.h,own,4,false⟩:Live)∈c.xs:=by
  refine P.symm.subset (List.mem_filterMap.2 ⟨g,O,?_⟩);show qa9 (g.own==s) g.h (if g.own=s then g.so else g.st) g.paid=_;rw[l,w];unfold qa9;simp
 refine qzc V rfl rfl rfl fun y W C x=> ?_
 obtain⟨k,z,o,L,M⟩:=qgf P W
 rw[L] at C x
 have m:(z.own==s)=own:=C
 have I:z.h.id=g.h.id:=x
 have H:g.own=z.own:=by
  rw[←l] at m;cases R:g.own<;>cases T:z.own<;>rw[R,T] at m<;>cases s<;>simp at m ⊢
 have D:=List.mem_of_getElem? o
 have J:0≤z.so:=by
  have X:=q z D;have:z.so ≠ -1:=by
   intro e;by_cases N:z.own=s
   ·rw[if_pos N] at M;omega
   ·rw[if_neg N] at M;exact v z D (by omega) e
  omega
 have F:0≤g.so:=by have:=q g O;omega
 have:=zah pw E o F J H I.symm
 subst this
 rw[E] at o
 injection o with o
 subst o
 rw[L,w,l]
 simp
def qby(g:Gi):Gi:= {g with so:=5,up:=0,cov:=false}
theorem qyc(c:Ch)(i:Nat)(x:Live)(paid:Bool)(l:c.xs[i]? = some x)(m:x.state=4):(c.removed i x paid).sgnOf=c.sgnOf :=
 qjq rfl rfl (qgh _ _ _ (q1w false c.loc c.rem (y:= {x with state:=5,paid:=paid}) l (.inl m) (.inr rfl)) (qvg false (y:= {x with state:=5,paid:=paid}) l (.inl m) (.inr rfl) rfl rfl))
theorem qub{P:Pt}(hK:K.Ok)(h:Inv K n P)(he:P.ei = .upd j::es)(m:P.G[j]? = some g)(v:g.own=P.s):Hears K n P (enM (!P.s) P.d P.G (.upd j)) (msE (!P.s) P.d P.G es):=by
 obtain⟨s,c,d,eo,ei,G,la,nu,lb,nv⟩:=P;obtain⟨ea,eb,ab,ba,it,ok,pw,few⟩:=h;simp only at ea eb ab ba it ok pw few he m v ⊢;subst he;have W:=List.mem_of_getElem? m;have b7:d.s.ch=K.ch:=by rw[eb.set];exact hK.ch _
 have T:c.s.ch=K.ch:=by rw[ea.set];exact hK.ch _
 have E:¬g.own = !s:=qh7 v;have O:Gi.pend (!s) g=true:=ba.upd.yes (List.mem_cons_self ..) m;have D:g.up=2:=by unfold Gi.pend at O;rw[v] at O;simpa using O
 obtain⟨U,b6⟩:=ba.along.1 g m;have N:=it g W;rw[qdp v] at N;obtain⟨b3,b4⟩:=quj _ N D (by
  show g.cov=true∨qay (ql es)=false;rw[U];cases qay (ql es)
  ·exact .inr rfl
  ·exact .inl rfl)
 have w:g.so=4:=b4;have b5:g.st=5∨g.st=6:=(qkk _ N).2.2 D;have X:=(ok g W).um b5;have hM:enM (!s) d G (.upd j)=g.um:=by
  rw[qka m];unfold qq1;rw[if_neg E]
 rw[hM];have o:=q1j hK.chb (ok g W) X;have H:=qge it;obtain⟨b9,R⟩:=ba.shut;have V:Ids G (!s) c.k.nextTheirs (ups es) d.k.nextOwn:=by
  obtain⟨y,J,hb⟩:=ba.ids;rw[m] at J;injection J with J;subst J;rw[if_neg E] at hb;exact hb
 have C:(g.own==s)=true:=by rw[v];simp
 obtain⟨i,L⟩:=zbo ea.perm pw (fun y J h1 h2=>h1 ((H y J).2.2.1 h2).1) (fun y J=>(H y J).1.1) m C (by rw[if_pos v,w]) (by omega);obtain⟨hi,-,-,-⟩:=qes L;have e1:c.hear g.um=(c.removed i ⟨g.h,true,4,false⟩ g.paid,[],0):=by
  rcases X with ⟨p,e,-,-,a9,hp⟩ | ⟨r,e,-,-,hp⟩
  ·rw[q5q o.may (by rw[T];exact o.ch) (by rw[e];rfl)];have M:g.um.id=g.h.id:=by rw[e];rfl
   have a7:g.um.hash=p:=by rw[e];rfl
   unfold Ch.hearFulfill;rw[M,L];simp only;rw[a7,if_pos a9,hp]
  ·rw[zfp o.may (by rw[T];exact o.ch) (by rw[e];rfl)];have M:g.um.id=g.h.id:=by rw[e];rfl
   unfold Ch.hearFail;rw[M,L];simp only;rw[hp]
 refine⟨o,by show (c.hear _).2.2=0;rw[e1],?_,(by show ∀l∈(c.hear _).2.1,_;rw[e1];intro l hl;cases hl),by show (c.hear _).2.1.length≤1;rw[e1];exact Nat.zero_le _⟩;show ∃P',Goes K n _ (c.hear _).1 (_++(c.hear _).2.1) _ P';rw[e1];have I:=qyc c i ⟨g.h,true,4,false⟩ g.paid hi rfl;have a8:j∉ups es:=(List.nodup_cons.1 ba.upd.nd).1;have b8:(G.set j (qby g))[j]? = some (qby g):=by rw[qf2 m,if_pos rfl]
 have q0:∀k,k≤4→oGe s k (qby g)=oGe s k g:=fun k hk=>by unfold oGe qby;rw[w,decide_eq_true hk,decide_eq_true (show k≤5 by omega)]
 have q1:∀k,oGe (!s) k (qby g)=oGe (!s) k g:=fun k=>by unfold oGe qby;rw[v];simp
 have q2:∀t k,pGe t k (qby g)=pGe t k g:=fun _ _=>rfl
 have p1:Gi.pend s (qby g)=Gi.pend s g:=by unfold Gi.pend qby;rw[v,D];simp
 have p2:Gi.pend (!s) (qby g)=false:=by unfold Gi.pend qby;simp
 have p3:Gi.pend s g=false:=by unfold Gi.pend;rw[v,D];simp
 have v1:Gi.covd s (qby g)=Gi.covd s g:=by unfold Gi.covd qby;rw[v,w];simp
 have v2:Gi.covd (!s) (qby g)=Gi.covd (!s) g:=by unfold Gi.covd qby;rw[v];simp
 have u1:Gi.unsg s (qby g)=Gi.unsg s g:=by unfold Gi.unsg qby;rw[v,w];simp
 have w1:Gi.moved s (qby g)=Gi.moved s g:=by unfold Gi.moved qby;rw[v,w];simp
 have w2:Gi.moved (!s) (qby g)=Gi.moved (!s) g:=by unfold Gi.moved qby;rw[v];simp
 have a1:∀t,qao t g=false:=fun t=>by unfold qao;rw[D];simp
 have a2:∀t,qao t (qby g)=false:=fun t=>by unfold qao qby;simp
 have F:∀t,amt (qao t) (G.set j (qby g))=amt (qao t) G:=fun t=>by rw[qj1 _ m,a1,a2];simp
 have q:∀k:Nat,((G.set j (qby g))[k]?).map Gi.key=(G[k]?).map Gi.key:=fun k=>qob m (.inr rfl)
 refine⟨⟨s,c.removed i ⟨g.h,true,4,false⟩ g.paid,d,eo,es,G.set j (qby g),la,nu,lb,nv⟩,⟨?_,?_,?_,?_,?_,?_,?_,?_⟩,rfl,rfl,rfl,?_,?_⟩
 ·obtain⟨Y,Z⟩:=qoy (qo s) m (qby g);have em:(qo s).mine g=true:=C;have a4:(qo s).mine (qby g)=true:=C;have a5:(qo s).st g=4:=by show (if g.own=s then g.so else g.st)=4;rw[if_pos v,w]
  have a6:(qo s).st (qby g)=5:=by show (if g.own=s then (5:Int) else g.st)=5;rw[if_pos v]
  rw[em,a5,a4,a6] at Y Z;replace Y:(qo s).conL (G.set j (qby g))=(qo s).conL G - -g.h.amount + -g.h.amount:=Y;replace Z:(qo s).conR (G.set j (qby g))=(qo s).conR G-0+0:=Z;refine⟨ea.set,?_,?_,?_,ea.pos,?_,?_,?_,ea.nuS.setS m u1,?_,?_,?_,ea.shelf,ea.nums⟩
  ·refine q15 _ ea.perm m (x:=⟨g.h,true,4,false⟩) (y:=⟨g.h,true,5,g.paid⟩) ?_ ?_ hi
   ·show qa9 (g.own==s) g.h (if g.own=s then g.so else g.st) g.paid=_;rw[if_pos v,C,w];unfold qa9;simp
   ·show qa9 (g.own==s) g.h (if g.own=s then (5:Int) else g.st) g.paid=_;rw[if_pos v,C];unfold qa9;simp
  ·rw[Y];show c.loc=(K.S s).ours+_;rw[ea.loc];omega
  ·rw[Z];show c.rem=(K.S (!s)).ours+_;rw[ea.rem];omega
  ·rw[qau m (q0 0 (by decide))];exact ea.nOwn
  ·rw[qau m (q2 (!s) 0)];exact ea.nTh
  ·rw[qau m (q0 1 (by decide))];exact qfj m ea.low fun e _=>ea.low g W e (by omega)
  ·rw[qau m (q0 1 (by decide))];exact ea.nuI.congr fun k _=>q k
  ·show c.news=_;rw[ea.news];exact(qb8 rfl fun k _=>q k).symm
  ·show cnt (qbq s) (G.set j (qby g))≤8;rw[qau m (show qbq s (qby g)=qbq s g by unfold qbq qby;rw[w];simp)];exact ea.many
 ·refine eb.setS m rfl rfl ?_ (.inl rfl) (.inl rfl);show (if g.own = !s then (5:Int) else g.st)=if g.own = !s then g.so else g.st;rw[if_neg E,if_neg E]
 ·refine ab.keep ⟨rfl,rfl,rfl,rfl,rfl⟩ rfl rfl (fun _=>I) ⟨rfl,rfl,rfl⟩ rfl ?_ (ab.upd.setS m p1) (qhj m ab.along fun hj=>absurd rfl (ab.upd.off m p3 j hj)) (fun k _=>q k) (fun _ i=>⟨i.setS m v1,fun k _=>q k⟩) (qau m (q2 s 1)) (qau m (q0 1 (by decide))) (qr1 m fun e=>w1.trans e);intro e;rw[F];exact ab.m1 e
 ·refine⟨ba.w9,ba.xor,ba.sig,ba.aw,ba.rv3,ba.rv4,ba.upd.setN m p2,qhj m ba.along.2 fun hj=>absurd hj a8,V.congr fun k _=>q k,fun e=> ?_,ba.last,R.congr fun k _=>q k,fun e=> ?_,fun e=>qr1 m (fun e=>w2.trans e) (ba.ex e)⟩
  ·obtain⟨i1,i2,i3⟩:=ba.laS e;refine⟨i1.setS m v2,?_,?_⟩
   ·rw[qau m (q1 1),qau m (q2 (!s) 1)];exact i2.congr fun k _=>q k
   ·rw[i3];congr 1;exact(qb8 rfl fun k _=>q k).symm
  ·rw[F];exact ba.m1 e
 ·refine qfj m it ?_;rw[qdp (g:=qby g) (s:=s) v];exact b3
 ·refine qfj m ok ?_;have z:=ok g W;exact⟨z.id,z.amount,z.hash,z.expiry,z.um⟩
 ·show ((G.set j (qby g)).map Gi.pk).Pairwise Apt;rw[q36 (g':=qby g) m (by unfold Gi.pk qby;rw[w];rfl)];exact pw
 ·show (G.set j _).length≤n;rw[List.length_set];exact few
 ·show msE s (c.removed i ⟨g.h,true,4,false⟩ g.paid) (G.set j (qby g)) eo=msE s c G eo++[];rw[List.append_nil];exact qdi ab.w9 rfl (fun k _=>q k) (fun _=>I) (fun _=>qjp rfl rfl)
 ·exact qdi ba.w9 rfl (fun k _=>q k) (fun _=>rfl) (fun _=>rfl)
end
theorem qej:∀ {x:Int},-1≤x∧x≤9→(∀k:Fin 2,decide ((k.val:Int)≤zt (zt x true 3) true 4)=decide ((k.val:Int)≤x))∧(zt (zt x true 3) true 4==0)=(x==0)∧(zt (zt x false 3) false 4==5)=(x==5)∧(zt (zt x true 3) true 4==1)=(x==1)∧(zt (zt x false 3) false 4==6)=(x==6)∧(zt (zt x true 3) true 4==8)=(x==8)∧(zt (zt x false 3) false 4==3)=(x==3)∧decide (zt (zt x true 3) true 4≤8)=decide (x≤8)∧decide (0≤zt (zt x false 3) false 4)=decide (0≤x)∧(zt (zt x true 3) true 4=qx (qx x true 3) true 4∧zt (zt x false 3) false 4=qx (qx x false 3) false 4) :=
 qnc (p:=fun x=>(∀k:Fin 2,decide ((k.val:Int)≤zt (zt x true 3) true 4)=decide ((k.val:Int)≤x))∧(zt (zt x true 3) true 4==0)=(x==0)∧(zt (zt x false 3) false 4==5)=(x==5)∧(zt (zt x true 3) true 4==1)=(x==1)∧(zt (zt x false 3) false 4==6)=(x==6)∧(zt (zt x true 3) true 4==8)=(x==8)∧(zt (zt x false 3) false 4==3)=(x==3)∧decide (zt (zt x true 3) true 4≤8)=decide (x≤8)∧decide (0≤zt (zt x false 3) false 4)=decide (0≤x)∧(zt (zt x true 3) true 4=qx (qx x true 3) true 4∧zt (zt x false 3) false 4=qx (qx x false 3) false 4)) (by decide +kernel)
theorem q89:∀x∈qa3,q1y x.2.2.2.2.1=true→¬(x.2.2.1=1∧x.2.2.2.1=true)→(x.1=1∨x.1=8)→(0≤x.2.1∧x.2.1≤8)∧qx x.2.1 false 3≠x.2.1:=by decide +kernel
theorem q88:∀x∈qa3,q1y x.2.2.2.2.2=true→¬(x.2.2.1=2∧x.2.2.2.1=true)→(x.2.1=3∨x.2.1=6)→(0≤x.1∧x.1≤8)∧qx x.1 true 3≠x.1:=by decide +kernel
def hsG(s:Bool)(g:Gi):Gi:= {g with so:=if g.own=s then zt (zt g.so true 3) true 4 else g.so,st:=if g.own=s then g.st else zt (zt g.st false 3) false 4,pre:=if Gi.pend s g=true then true else g.pre}
section
variable {K:Kon}{n:Nat}{s t:Bool}{c d:Ch}{eo ei es:List En}{G:List Gi}{la nu lb nv:List Nat}{g g':Gi}{j:Nat}
theorem qe2{g:Gi}(h:g.own=s):(hsG s g).so=zt (zt g.so true 3) true 4∧(hsG s g).st=g.st:=by unfold hsG;simp only[h,if_true];exact⟨trivial,trivial⟩
theorem qfw{g:Gi}(h:g.own = !s):(hsG s g).so=g.so∧(hsG s g).st=zt (zt g.st false 3) false 4:=by unfold hsG;simp only[if_neg (qb3 h)];exact⟨trivial,trivial⟩
def qnz(s:Bool)(g:Gi):Bool:=g.own==s&&g.up==1
theorem qiu{α:Type}(f f':α→Int):∀G:List α,(G.map f).sum+(G.map f').sum=(G.map fun g=>f g+f' g).sum
 | []=>rfl
 | g::G=>by
  have:=qiu f f' G;simp only[List.map_cons,List.sum_cons];omega
theorem q9c:∀x∈qa3,x.2.2.1=1→x.2.1 = -1∧(x.1=0∨x.1=1):=by decide +kernel
theorem zdf(it:∀g∈G,g.it s (ql eo) (ql ei)∈qa3)(y:qbw (ql eo)=false)(C:∀g∈G,0≤g.h.amount):(qo s).conL G+amt (qnz s) G≤(qo (!s)).conR G:=by
 unfold Seen.conL Seen.conR amt;rw[qiu];refine qib fun g l=> ?_
 have v:=qge it g l;have h:=qkk _ (it g l);have i:=q9c _ (it g l);have z:=C g l;show conL (g.own==s) (if g.own=s then g.so else g.st) g.paid g.h.amount+(if qnz s g=true then g.h.amount else 0)≤conL (!(g.own == !s)) (if g.own = !s then g.so else g.st) g.paid g.h.amount;rcases za g.own s with e | e
 ·rw[qdp e] at h i;rw[if_pos e,if_neg (qh7 e),show (g.own==s)=true by rw[e];simp,show (g.own == !s)=false by rw[e];simp,show qnz s g=(g.up==1) by unfold qnz;rw[e];simp];have q:g.so=9→g.st=9:=h.1;have i:g.up=1→g.st = -1∧(g.so=0∨g.so=1):=i;have D:g.so = -1→g.st = -1∧g.up=0:=v.2.2.1;clear h v;simp only[conL,Bool.not_false,if_true];by_cases w:g.up=1
  ·obtain⟨x,E⟩:=i w;rw[w,x,if_neg (by omega),if_neg (by omega)];simp;omega
  ·rw[if_neg (show ¬(g.up==1)=true by simpa using w)];by_cases o:g.so=9
   ·rw[o,q o];omega
   ·rw[if_neg o];by_cases m:g.so = -1
    ·rw[if_pos m,if_pos (D m).1];omega
    ·rw[if_neg m]
     repeat' split
     all_goals omega
 ·rw[qdv e] at h;rw[if_pos e,if_neg (qb3 e),show (g.own==s)=false by rw[e];simp,show (g.own == !s)=true by rw[e];simp,show qnz s g=false by unfold qnz;rw[e];simp];have q:g.st=9→g.so=9:=h.2.1 y;clear h v i;simp only[conL,Bool.not_true,Bool.false_eq_true,if_false];by_cases i:g.st=9
  ·rw[i,q i];omega
  ·rw[if_neg i]
   repeat' split
   all_goals omega
theorem zhx{w:Nat}(h:w≤4)(i:qbw w=false):w=0∨w=1:=by
 have:w=0∨w=1∨w=2∨w=3∨w=4:=by omega
 rcases this with rfl | rfl | rfl | rfl | rfl
 ·exact .inl rfl
 ·exact .inr rfl
 ·cases i
 ·cases i
 ·cases i
theorem qwh{x:En}{e:List En}(l:ql (x::e)≠9)(i:qbw (ql (x::e))=false):ql e≠9∧qbw (ql e)=false:=by
 cases x with
 | upd j=>exact⟨l,i⟩
 | shut=>exact⟨l,i⟩
 | rev=>rcases qhh l with ⟨-,e⟩ | ⟨-,e⟩<;>rw[e] at i<;>cases i
 | sgn =>
  rcases qhi l with ⟨m,e⟩ | ⟨-,e⟩
  ·rw[m];exact⟨by decide,rfl⟩
  ·rw[e] at i;cases i
theorem qbh.rev{f:Gi→Gi} : ∀ {e:List En},ql e≠9→qbw (ql e)=false→(∀j∈ups e,∀g,G[j]? = some g→(f g).cov=g.cov∧(f g).pre=true)→qbh G e→qbh (G.map f) (e++[.rev])
 | [],_,_,_,_=>trivial
 | .upd i::es,m,l,q,h=>by
  refine⟨fun y o=> ?_,qbh.rev m l (fun j x=>q j (List.mem_cons_of_mem _ x)) h.2⟩;show y.cov=qay (ql (es++[.rev]))∧y.pre=qbw (ql (es++[.rev]));rw[List.getElem?_map] at o;cases v:G[i]? with
  | none=>rw[v] at o;cases o
  | some g =>
   rw[v] at o;injection o with o;subst o;obtain⟨f1,f2⟩:=q i (List.mem_cons_self ..) g v;have w:ql es=0∨ql es=1:=zhx (qg5 es m) l;rw[f1,f2,(h.1 g v).1,qwf es w];rcases w with e | e<;>rw[e]<;>exact⟨rfl,rfl⟩
 | .rev::es,m,l,_,_=>by
  rcases qhh m with ⟨-,e⟩ | ⟨-,e⟩<;>rw[e] at l<;>cases l
 | .sgn::es,m,l,q,h=>qbh.rev (e:=es) (qwh m l).1 (qwh m l).2 q h
 | .shut::es,m,l,q,h=>qbh.rev (e:=es) m l q h
theorem zfz(t ours:Bool)(pw:(G.map Gi.pk).Pairwise Apt)(l:∀g∈G,-1≤g.so∧(g.so = -1→g.st = -1)):qiy (ze ours (G.filterMap (qo t).show)):=by
 have e:G.filterMap (qo t).show=(G.filter fun g=>decide (0≤g.so)).filterMap (qo t).show:=by
  rw[List.filterMap_filter];refine qhz fun g E=> ?_
  by_cases y:0≤g.so
  ·rw[if_pos (decide_eq_true y)]
  ·rw[if_neg (by simpa using y)];have z:=l g E;have m:g.so = -1:=by omega
   have o:=z.2 m;show qa9 (g.own==t) g.h (if g.own=t then g.so else g.st) g.paid=none;rw[m,o];simp[qa9]
 rw[e];refine q8j ?_;have C:G.Pairwise fun g g'=>¬(0≤g.so∧0≤g'.so∧g.own=g'.own∧g.h.id=g'.h.id):=by
  rw[List.pairwise_map] at pw;refine pw.imp fun {a b} h=> ?_
  rintro ⟨i,x,F,H⟩;exact h ⟨decide_eq_true i,decide_eq_true x,F,H⟩
 have D:=C.filter fun g=>decide (0≤g.so)
 refine List.Pairwise.imp_of_mem ?_ D;rintro a b q v w ⟨i,x⟩;have q:=(List.mem_filter.1 q).2;have v:=(List.mem_filter.1 v).2;refine w ⟨by simpa using q,by simpa using v,?_,x⟩;have i:(a.own==t)=(b.own==t):=i;cases m:a.own<;>cases o:b.own<;>rw[m,o] at i<;>cases t<;>simp at i ⊢
theorem zjf(v:Seen Gi)(ours:Bool)(l:∀g∈G,0≤(v.h g).amount):v.conL G≤v.tvL ours G∧v.conR G≤v.tvR ours G:=by
 constructor
 ·refine qib fun g i=> ?_
  have m:=l g i;unfold tvL gvL;simp only
  repeat' split
  all_goals omega
 ·refine qib fun g i=> ?_
  have m:=l g i;unfold tvR gvR;simp only
  repeat' split
  all_goals omega
theorem zji(v:Seen Gi)(ours:Bool)(l:∀g∈G,-1≤v.st g∧v.st g≤9)(m:∀g∈G,0≤(v.h g).amount):v.tvL ours G+v.tvR ours G≤0:=by
 unfold Seen.tvL Seen.tvR;rw[qiu];have:=qib (f:=fun g=>tvL ours (v.mine g) (v.st g) (v.paid g) (v.h g).amount+tvR ours (v.mine g) (v.st g) (v.paid g) (v.h g).amount) (f':=fun _:Gi=>(0:Int)) (G:=G) fun g i=>by
  show tvL ours (v.mine g) (v.st g) (v.paid g) (v.h g).amount+tvR ours (v.mine g) (v.st g) (v.paid g) (v.h g).amount≤0;rw[zjg _ _ _ _ _ (l g i),zjh _ _ _ _ _ (l g i)];have q:=m g i;unfold tvK;cases v.mine g<;>simp<;>repeat' split
  all_goals omega
 have e:(G.map fun _:Gi=>(0:Int)).sum=0:=by
  clear this l m
  induction G with
  | nil=>rfl
  | cons g G o=>rw[List.map_cons,List.sum_cons,o];rfl
 omega
theorem zke(l:c.xs.Perm (G.filterMap (qo s).show)):qy0 c.xs:=by
 intro x m;obtain⟨j,g,-,e,i⟩:=qgf l m;rw[e];exact⟨i.1,Int.le_trans i.2 (by decide)⟩
theorem q72{c:Ch}{ev:Int}(h:qy0 c.xs)(o:∀x∈c.xs,x.state≤8):qy0 (c.goOn ev).xs:=by
 intro x q;obtain⟨y,i,rfl⟩:=List.mem_map.1 (List.mem_filter.1 (show x∈qa8 (qv ev c.xs) from q)).1;have l:=h y i;have m:=o y i;show 0≤qx y.state y.own ev∧qx y.state y.own ev≤9;rcases qev (mine:=y.own) (ev:=ev) ⟨l.1,m⟩ with e | e<;>omega
theorem qun(m:c.xs.Perm (G.filterMap (qo s).show))(v:c.signedBy.s=c.s)(w:c.signedBy.k.signed=c.k.signed):c.signedBy.sgnOf=c.sgnOf:=by
 have l:∀x∈c.xs,x.state≤8:=fun x y=>by
  obtain⟨j,g,-,e,l⟩:=qgf m y;rw[e];exact l.2
 have i:=zke m;refine qjq v w ?_;have o:=qo6 (.inl ⟨rfl,.inr (.inl rfl)⟩:qk8 false 3) c.s.key c.s.ch c.k.signed c i;have q:=qo6 (.inl ⟨rfl,.inr (.inr rfl)⟩:qk8 false 4) c.s.key c.s.ch c.k.signed (c.goOn 3).heardOne (q72 i l);exact q.trans o
end
end Go.Proofs.YthnohmjbbeahmaaGreatDoor
