/-
  The protocol, plain: what is said may be heard; an Add, a removal, a Shut that is heard; a Shut that is said.
-/
import Derived.Test.YthnohmjbbeahmaaGreatDoorMdd
import Derived.Test.YthnohmjbbeahmaaGreatDoorMch
import Derived.Test.YthnohmjbbeahmaaGreatDoorMcj
import Derived.Test.YthnohmjbbeahmaaGreatDoorMda
set_option linter.unusedVariables false
set_option linter.unusedSimpArgs false
namespace Go.Proofs.YthnohmjbbeahmaaGreatDoor
open Go.RowKit
theorem qin(b:Bool)(key:ByteArray)(ch n l r:Int)(xs:List Live):qal (zt b key ch n l r xs):=by unfold zt qtr;exact qhu _
theorem qh3(h:Vector Int 32):qbm h.toList=h:=by
 unfold qbm;rw[dif_pos (by simp)];rfl
structure Said(ch:Int)(m:MsgV):Prop where
 may:qac m=true
 ch:m.ch=ch
 ok:MsgOk m
 kind:m.kind=3∨m.kind=4∨m.kind=5∨m.kind=6∨m.kind=7∨m.kind=8
theorem zd8{c i a e:Int}(h:List Int)(l:a≤1125899906842624)(m:0≤e∧e≤1073741824):qac ⟨3,c,i,a,h,e,0⟩=true:=by
 unfold qac;show (if e<0∨1073741824<e∨(0:Int)<0∨65535<(0:Int)∨1125899906842624<a then false else decide (qf5 _ _=qeo 3))=true;rw[if_neg (by omega)];kernel_rfl
theorem za3(c i:Int)(h:List Int):qac ⟨4,c,i,0,h,0,0⟩=true:=by kernel_rfl
theorem za2(c i:Int){r:Int}(l:0≤r∧r≤65535):qac ⟨5,c,i,0,zv,0,r⟩=true:=by
 unfold qac;show (if (0:Int)<0∨1073741824<(0:Int)∨r<0∨65535<r∨1125899906842624<(0:Int) then false else decide (qf5 _ _=qeo 5))=true;rw[if_neg (by omega)];kernel_rfl
theorem za7(c:Int)(T:List Int){n:Int}(i:0≤n∧n≤65535):qac ⟨6,c,0,0,T,0,n⟩=true:=by
 unfold qac;show (if (0:Int)<0∨1073741824<(0:Int)∨n<0∨65535<n∨1125899906842624<(0:Int) then false else decide (qf5 _ _=qeo 6))=true;rw[if_neg (by omega)];kernel_rfl
theorem za6(c:Int)(T:List Int){n:Int}(i:0≤n∧n≤65535):qac ⟨7,c,0,0,T,0,n⟩=true:=by
 unfold qac;show (if (0:Int)<0∨1073741824<(0:Int)∨n<0∨65535<n∨1125899906842624<(0:Int) then false else decide (qf5 _ _=qeo 7))=true;rw[if_neg (by omega)];kernel_rfl
theorem qun(c:Int):qac (qdl c)=true:=by kernel_rfl
section
variable {ch:Int}(hc:0≤ch∧ch<4294967296)
include hc
theorem qz6{g:Gi}(h:GiOk ch g):Said ch (qp5 ch g.h) :=
 ⟨zd8 _ h.amount.2 ⟨by have:=h.expiry.1;omega,h.expiry.2⟩,rfl,qej ⟨by decide,by decide⟩ hc ⟨h.id.1,by have:=h.id.2;omega⟩ ⟨by have:=h.amount.1;omega,by have:=h.amount.2;omega⟩ (by simp) h.hash ⟨by have:=h.expiry.1;omega,by have:=h.expiry.2;omega⟩ ⟨by decide,by decide⟩,.inl rfl⟩
theorem qz7{g:Gi}(h:GiOk ch g)(q:zf8 ch g):Said ch g.um:=by
 rcases q with ⟨p,e,o,m,-,-⟩ | ⟨r,e,i,l,-⟩
 ·rw[e,show (qgd g.h.id p).on ch=(⟨4,ch,g.h.id,0,p,0,0⟩:MsgV) from rfl];exact⟨za3 _ _ _,rfl,qej ⟨by decide,by decide⟩ hc ⟨h.id.1,by have:=h.id.2;omega⟩ ⟨by decide,by decide⟩ o m ⟨by decide,by decide⟩ ⟨by decide,by decide⟩,.inr (.inl rfl)⟩
 ·rw[e,show (qe2 g.h.id r).on ch=(⟨5,ch,g.h.id,0,zv,0,r⟩:MsgV) from rfl];exact⟨za2 _ _ ⟨i,l⟩,rfl,qej ⟨by decide,by decide⟩ hc ⟨h.id.1,by have:=h.id.2;omega⟩ ⟨by decide,by decide⟩ qs qc6 ⟨by decide,by decide⟩ ⟨i,by show r≤65536;omega⟩,.inr (.inr (.inl rfl))⟩
theorem qz8{c:Ch}(o:c.s.ch=ch)(i:0≤c.k.signed∧c.k.signed≤65535):Said ch c.sgnOf:=by
 unfold Ch.sgnOf;rw[o];have l:=qgu false c.s.key ch c.k.signed c.loc c.rem c.xs;have m:=qin false c.s.key ch c.k.signed c.loc c.rem c.xs;generalize zt false c.s.key ch c.k.signed c.loc c.rem c.xs=T at *
 exact⟨za7 _ _ i,rfl,qej ⟨by decide,by decide⟩ hc ⟨by decide,by decide⟩ ⟨by decide,by decide⟩ l m ⟨by decide,by decide⟩ ⟨i.1,by omega⟩,.inr (.inr (.inr (.inl rfl)))⟩
theorem qst{c:Ch}(o:c.s.ch=ch)(q:1≤c.k.heard∧c.k.heard≤65536)(i:c.s.seed.length=32∧qal c.s.seed):c.revocation=⟨7,ch,0,0,(qcp c.s.seed (65535-(c.k.heard-1))).1,0,c.k.heard-1⟩∧Said ch c.revocation:=by
 have e:c.revocation=⟨7,ch,0,0,(qcp c.s.seed (65535-(c.k.heard-1))).1,0,c.k.heard-1⟩:=by
  unfold Ch.revocation Ch.secret;rw[if_neg (by omega),o]
 have l:=qiz _ i.1 (65535-(c.k.heard-1));have m:=qh7 _ i.2 (65535-(c.k.heard-1));refine⟨e,?_⟩;rw[e];generalize (qcp c.s.seed (65535-(c.k.heard-1))).1=T at *
 exact⟨za6 _ _ ⟨by omega,by omega⟩,rfl,qej ⟨by decide,by decide⟩ hc ⟨by decide,by decide⟩ ⟨by decide,by decide⟩ l m ⟨by decide,by decide⟩ ⟨by omega,by omega⟩,.inr (.inr (.inr (.inr (.inl rfl))))⟩
theorem qux:Said ch (qdl ch) :=
 ⟨qun _,rfl,qej ⟨by decide,by decide⟩ hc ⟨by decide,by decide⟩ ⟨by decide,by decide⟩ qs qc6 ⟨by decide,by decide⟩ ⟨by decide,by decide⟩,.inr (.inr (.inr (.inr (.inr rfl))))⟩
end
theorem qpp:∀x∈qa1,0≤x.2.1→x.2.1≤8→0≤x.1∧x.1≤8:=by decide +kernel
theorem qj3:∀x∈qa1,(x.1=9→x.2.1=9)∧(qbu x.2.2.2.2.2=false→x.2.1=9→x.1=9)∧(x.2.2.1=2→x.2.1=5∨x.2.1=6):=by decide +kernel
section
variable {K:Kon}{n:Nat}{s t:Bool}{c d:Ch}{eo ei es:List En}{G:List Gi}{la nu lb nv:List Nat}{g g':Gi}{j:Nat}
theorem zej(it:∀g∈G,g.it s (qj eo) (qj ei)∈qa1)(w:qbu (qj ei)=false)(C:∀g∈G,0≤g.h.amount):(qm (!s)).conL G≤(qm s).conR G:=by
 refine qhv fun g o=> ?_
 have q:=qgf it g o;have h:=qj3 _ (it g o);have z:=C g o;show conL (g.own == !s) (if g.own = !s then g.so else g.st) g.paid g.h.amount≤conL (!(g.own==s)) (if g.own=s then g.so else g.st) g.paid g.h.amount;rcases qy g.own s with e | e
 ·rw[qdp e] at h;rw[if_pos e,if_neg (qhr e),show (g.own==s)=true by rw[e];simp,show (g.own == !s)=false by rw[e];simp];have m:g.st=9→g.so=9:=h.2.1 w;clear h q;simp only[conL,Bool.not_true,Bool.false_eq_true,if_false];by_cases i:g.st=9
  ·rw[i,m i];exact Int.le_refl _
  ·rw[if_neg i]
   repeat' split
   all_goals omega
 ·rw[qdx e] at h;rw[if_pos e,if_neg (qb4 e),show (g.own==s)=false by rw[e];simp,show (g.own == !s)=true by rw[e];simp];have m:g.so=9→g.st=9:=h.1;have D:g.so = -1→g.st = -1:=fun v=>(q.2.2.1 v).1
  clear h q;simp only[conL,Bool.not_false,if_true];by_cases i:g.so=9
  ·rw[i,m i];exact Int.le_refl _
  ·rw[if_neg i];by_cases l:g.so = -1
   ·rw[if_pos l,if_pos (D l)];exact Int.le_refl _
   ·rw[if_neg l]
    repeat' split
    all_goals omega
structure Hears(K:Kon)(n:Nat)(P:Pt)(m:MsgV)(wi:List MsgV):Prop where
 said:Said K.ch m
 ok:(P.c.hear m).2.2=0
 goes:∃P',Goes K n P (P.c.hear m).1 (P.out++(P.c.hear m).2.1) wi P'
 says:∀l∈(P.c.hear m).2.1,MsgOk l
 few:(P.c.hear m).2.1.length≤1
theorem EndI.shutSaid(h:EndI K s c G nu):EndI K s c.shutSaid G nu:=⟨h.set,h.perm,h.loc,h.rem,h.pos,h.nOwn,h.nTh,h.low,h.nuS,h.nuI,h.news,h.many,h.shelf,h.nums⟩
theorem q7w{P:Pt}(h:Inv K n P)(m:P.c.k.shutSaid=false):∃q,Goes K n P P.c.shut.1 (P.out++[P.c.shut.2.1]) P.inn q:=by
 obtain⟨s,c,d,eo,ei,G,la,nu,lb,nv⟩:=P;obtain⟨ea,eb,ab,ba,it,ok,pw,few⟩:=h;simp only at ea eb ab ba it ok pw few m;have v:c.shut=(c.shutSaid,qdl c.s.ch,0):=by unfold Ch.shut;rw[if_neg (by rw[m];decide)]
 have l:qj (eo++[.shut])=qj eo:=qs5 eo;have o:ups (eo++[.shut])=ups eo:=by rw[qg5];exact List.append_nil _
 rw[v];refine⟨⟨s,c.shutSaid,d,eo++[.shut],ei,G,la,nu,lb,nv⟩,⟨ea.shutSaid,eb,?_,?_,?_,ok,pw,few⟩,rfl,rfl,rfl,?_,rfl⟩
 ·refine⟨by rw[l];exact ab.w9,by rw[l];exact ab.xor,by rw[l];exact ab.sig,by rw[l];exact ab.aw,by rw[l];exact ab.rv3,by rw[l];exact ab.rv4,by rw[o];exact ab.upd,?_,by rw[o];exact ab.ids,by rw[l];exact ab.laS,ab.last,?_,by rw[l];exact ab.m1,by rw[l];exact ab.ex⟩
  ·exact qbe.snoc (j:=0) (.inr rfl) (fun e=>by cases e) eo ab.along
  ·have:=ab.shut;rw[m] at this;exact this.shut
 ·exact ba.keep ⟨rfl,rfl,rfl,rfl,rfl⟩ rfl rfl (fun _=>rfl) ⟨rfl,rfl,rfl⟩ (by rw[l]) ba.m1 ba.upd ba.along (fun _ _=>rfl) (fun _ i=>⟨i,fun _ _=>rfl⟩) rfl rfl id
 ·intro g w;show g.it s (qj (eo++[.shut])) (qj ei)∈qa1;rw[l];exact it g w
 ·show msE s c.shutSaid G (eo++[.shut])=msE s c G eo++[qdl c.s.ch];unfold msE;rw[List.map_append];rfl
def Ch.shutHears(c:Ch):Ch:= {c with k:= {c.k with shutHeard:=true}}
theorem EndI.shutHears(h:EndI K s c G nu):EndI K s c.shutHears G nu:=⟨h.set,h.perm,h.loc,h.rem,h.pos,h.nOwn,h.nTh,h.low,h.nuS,h.nuI,h.news,h.many,h.shelf,h.nums⟩
theorem qrm{P:Pt}(v:K.Ok)(h:Inv K n P)(C:P.ei = .shut::es):Hears K n P (qdl P.d.s.ch) (msE (!P.s) P.d P.G es):=by
 obtain⟨s,c,d,eo,ei,G,la,nu,lb,nv⟩:=P;obtain⟨ea,eb,ab,ba,it,ok,pw,few⟩:=h;simp only at ea eb ab ba it ok pw few C ⊢;subst C;have o:d.s.ch=K.ch:=by rw[eb.set];exact v.ch _
 have w:c.s.ch=K.ch:=by rw[ea.set];exact v.ch _
 obtain⟨E,z⟩:=ba.shut;have q:c.hear (qdl d.s.ch)=(c.shutHears,[],0):=by
  rw[zdy (qun _) (by show d.s.ch=_;rw[o,w]) rfl];unfold Ch.hearShut;rw[if_neg (by rw[E];decide)];rfl
 have m:Said K.ch (qdl d.s.ch):=by rw[o];exact qux v.chb
 refine⟨m,by show (c.hear _).2.2=0;rw[q],?_,(by show ∀l∈(c.hear _).2.1,_;rw[q];intro l F;cases F),by show (c.hear _).2.1.length≤1;rw[q];exact Nat.zero_le _⟩;show ∃D,Goes K n _ (c.hear _).1 (_++(c.hear _).2.1) _ D;rw[q];refine⟨⟨s,c.shutHears,d,eo,es,G,la,nu,lb,nv⟩,⟨ea.shutHears,eb,?_,?_,it,ok,pw,few⟩,rfl,rfl,rfl,?_,rfl⟩
 ·exact ab.keep ⟨rfl,rfl,rfl,rfl,rfl⟩ rfl rfl (fun _=>rfl) ⟨rfl,rfl,rfl⟩ rfl ab.m1 ab.upd ab.along (fun _ _=>rfl) (fun _ i=>⟨i,fun _ _=>rfl⟩) rfl rfl id
 ·exact⟨ba.w9,ba.xor,ba.sig,ba.aw,ba.rv3,ba.rv4,ba.upd,ba.along,ba.ids,ba.laS,ba.last,z,ba.m1,ba.ex⟩
 ·show msE s c.shutHears G eo=msE s c G eo++[];rw[List.append_nil];rfl
theorem zc5{p:Gi→Bool}(o:∀g∈G,0≤g.h.amount)(m:g∈G)(q:p g=true):g.h.amount≤amt p G:=by
 obtain⟨k,i⟩:=List.getElem?_of_mem m;have e:amt p (G.set k {g with own:=g.own})=amt p G:=by
  rw[qjk p i];show _-_+(if p g=true then g.h.amount else 0)=_;omega
 have v:=qjk (fun y=>p y&&decide (y.so≤100)) i {g with so:=101};have l:0≤amt p (G.set k {g with h:=⟨g.h.id,0,g.h.hash,g.h.expiry⟩}):=zeh _ (qfg i o (Int.le_refl _));rw[qjk p i,if_pos q] at l;split at l<;>simp at l<;>omega
def qds(g:Gi):Gi:= {g with st:=0,up:=0,cov:=false}
theorem q01(c:Ch)(m:MsgV)(i:0≤c.rem∧c.rem<18446744073709551616):(c.added m).sgnOf=c.sgnOf :=
 qi9 rfl rfl (qgi _ _ _ (q3j false c.xs (x:=qel m) rfl rfl i) (qr1 false c.xs (x:=qel m) rfl))
theorem qtf{P:Pt}(R:K.Ok)(h:Inv K n P)(hn:n<1000000000)(he:P.ei = .upd j::es)(m:P.G[j]? = some g)(o:g.own = !P.s):Hears K n P (enM (!P.s) P.d P.G (.upd j)) (msE (!P.s) P.d P.G es):=by
 obtain⟨s,c,d,eo,ei,G,la,nu,lb,nv⟩:=P;obtain⟨ea,eb,ab,ba,it,ok,pw,few⟩:=h;simp only at ea eb ab ba it ok pw few he m o ⊢;subst he;have F:=List.mem_of_getElem? m;have a9:d.s.ch=K.ch:=by rw[eb.set];exact R.ch _
 have a8:c.s.ch=K.ch:=by rw[ea.set];exact R.ch _
 have z:¬g.own=s:=qb4 o;have M:Gi.pend (!s) g=true:=ba.upd.yes (List.mem_cons_self ..) m;have D:g.up=1:=by unfold Gi.pend at M;rw[o] at M;simpa using M
 obtain⟨T,H⟩:=ba.along.1 g m;have V:=it g F;rw[qdx o] at V;obtain⟨b6,b7,b8⟩:=qtl _ V D (by
  show g.cov=true∨qay (qj es)=false;rw[T];cases qay (qj es)
  ·exact .inr rfl
  ·exact .inl rfl)
 have w:g.st = -1:=b7;have c8:g.so=0∨g.so=1:=b8;have hM:enM (!s) d G (.upd j)=qp5 K.ch g.h:=by
  rw[qju m];unfold qp8;rw[if_pos o,a9]
 rw[hM];have C:=qz6 R.chb (ok g F);have nn:=qkq ok;have c4:=R.cap;obtain⟨bl,br⟩:=ea.tag R (qe8 it s) nn;obtain⟨c7,U⟩:g.h.id=c.k.nextTheirs∧Ids G (!s) (c.k.nextTheirs+1) (ups es) d.k.nextOwn:=by
  obtain⟨y,O,hb⟩:=ba.ids;rw[m] at O;injection O with O;subst O;rw[if_pos o] at hb;exact hb
 obtain⟨b9,N⟩:=ba.shut;have c0:c.k.shutHeard=false:=by
  cases e:c.k.shutHeard with
  | false=>rfl
  | true=>exact absurd o (b9 e g m)
 have b5:qdg false c.xs<8:=by
  have h1:=(qr8 ea.perm).2;have h2:=q1e (p:=qhw s) (q:=qbo (!s)) (G:=G) (fun y O hp=>by
   unfold qhw at hp;unfold qbo;have:y.own = !s∧0≤y.st∧y.st≤8:=by simpa using hp
   obtain⟨J,e2,e3⟩:=this;have hi:=it y O;rw[qdx J] at hi;have:=qpp _ hi e2 e3;rw[J];simp;exact this) F (by unfold qhw;rw[w];simp) (by unfold qbo;rw[o];simp;omega)
  have:=eb.many;omega
 have c6:(G.set j (qds g))[j]? = some (qds g):=by rw[qf1 m,if_pos rfl]
 have X:∀y∈G.set j (qds g),y.it s (qj eo) (qj es)∈qa1:=qfg m it (by rw[qdx (g:=qds g) (s:=s) o];exact b6);have c3:∀y∈G.set j (qds g),0≤y.h.amount:=qfg m nn (nn g F);obtain⟨Z,c2⟩:=qn7 (qm s) m (qds g);have em:(qm s).mine g=false:=by show (g.own==s)=false;rw[o];simp
 have a4:(qm s).mine (qds g)=false:=em;have a5:(qm s).st g = -1:=by show (if g.own=s then g.so else g.st) = -1;rw[if_neg z,w]
 have a6:(qm s).st (qds g)=0:=by show (if g.own=s then g.so else 0)=0;rw[if_neg z]
 rw[em,a5,a4,a6] at Z c2;replace Z:(qm s).conL (G.set j (qds g))=(qm s).conL G-0+0:=Z;replace c2:(qm s).conR (G.set j (qds g))=(qm s).conR G-0 + -g.h.amount:=c2;have L:EndI K (!s) d (G.set j (qds g)) nv:=by
  refine eb.setS m rfl rfl ?_ (.inl rfl) (.inl rfl);show (if g.own = !s then g.so else 0)=if g.own = !s then g.so else g.st;rw[if_pos o,if_pos o]
 have b3:g.h.amount≤c.rem:=by
  cases hR:qbu (qj es) with
  | true =>
   have:=ba.m1 hR;have:=zc5 (p:=qam (!s)) nn F (by unfold qam;rw[o,D,H,hR];simp);omega
  | false =>
   have h1:=zej X hR c3;have h2:=L.loc;have h3:=L.pos.1;have h4:=ea.rem;omega
 have c5:=(ok g F).amount;have J:c.hear (qp5 K.ch g.h)=(c.added (qp5 K.ch g.h),[],0):=by
  rw[qqf C.may (by rw[a8];rfl) rfl];have:qab c (qp5 K.ch g.h)=0:=by
   unfold qab;rw[if_neg (by rw[c0];decide),if_neg (by show ¬g.h.amount=0;omega),if_neg (by show ¬(g.h.id≠_);omega),if_neg (by show ¬g.h.expiry=0;have:=(ok g F).expiry;omega),if_neg (by omega),if_neg (by show ¬c.rem<g.h.amount;omega)]
  unfold Ch.hearAdd;rw[if_pos this]
 have a7:qel (qp5 K.ch g.h)=⟨g.h,false,0,false⟩:=by
  unfold qel qp5;rw[qh3]
 refine⟨C,by show (c.hear _).2.2=0;rw[J],?_,(by show ∀l∈(c.hear _).2.1,_;rw[J];intro l hl;cases hl),by show (c.hear _).2.1.length≤1;rw[J];exact Nat.zero_le _⟩;show ∃P',Goes K n _ (c.hear _).1 (_++(c.hear _).2.1) _ P';rw[J];have I:=q01 c (qp5 K.ch g.h) ⟨br.1,by omega⟩;have W:IntKind.u64.wrap (c.k.nextTheirs+1)=c.k.nextTheirs+1:=by
  have:=qqc (pGe (!s) 0) G;have:=qjs (pGe (!s) 0) G;exact qaw (by rw[ea.nTh];omega) (by rw[ea.nTh];omega)
 have b4:j∉ups es:=(List.nodup_cons.1 ba.upd.nd).1;have Y:∀t k,oGe t k (qds g)=oGe t k g:=fun _ _=>rfl
 have q1:∀k,pGe s k (qds g)=pGe s k g:=fun k=>by unfold pGe qds;rw[o];simp
 have p1:Gi.pend s (qds g)=Gi.pend s g:=by unfold Gi.pend qds;rw[o,D];simp
 have p2:Gi.pend (!s) (qds g)=false:=by unfold Gi.pend qds;simp
 have p3:Gi.pend s g=false:=by unfold Gi.pend;rw[o,D];simp
 have v1:Gi.covd s (qds g)=Gi.covd s g:=by unfold Gi.covd qds;rw[o,w];simp
 have v2:Gi.covd (!s) (qds g)=Gi.covd (!s) g:=by unfold Gi.covd qds;rw[o];simp
 have u1:Gi.unsg s (qds g)=Gi.unsg s g:=by unfold Gi.unsg qds;rw[o,w];simp
 have w1:Gi.moved s (qds g)=Gi.moved s g:=by unfold Gi.moved qds;rw[o,w];simp
 have w2:Gi.moved (!s) (qds g)=Gi.moved (!s) g:=by unfold Gi.moved qds;rw[o];simp
 have a1:qam s g=false:=by unfold qam;rw[o];simp
 have a2:∀t,qam t (qds g)=false:=fun t=>by unfold qam qds;simp
 have v:∀k:Nat,((G.set j (qds g))[k]?).map Gi.key=(G[k]?).map Gi.key:=fun k=>qni m (.inr rfl)
 refine⟨⟨s,c.added (qp5 K.ch g.h),d,eo,es,G.set j (qds g),la,nu,lb,nv⟩,⟨?_,L,?_,?_,X,?_,?_,?_⟩,rfl,rfl,rfl,?_,?_⟩
 ·refine⟨ea.set,?_,?_,?_,⟨ea.pos.1,?_⟩,?_,?_,?_,ea.nuS.setS m u1,?_,?_,?_,ea.shelf,ea.nums⟩
  ·refine q5q _ ea.perm m ?_ ?_
   ·show qa6 (g.own==s) g.h (if g.own=s then g.so else g.st) g.paid=none;rw[if_neg z,w];rfl
   ·show qa6 (g.own==s) g.h (if g.own=s then g.so else 0) g.paid=some (qel (qp5 K.ch g.h));rw[if_neg z,a7,show (g.own==s)=false from em];unfold qa6;simp
  ·rw[Z];show c.loc=(K.S s).ours+_;rw[ea.loc];omega
  ·rw[c2];show c.rem-g.h.amount=(K.S (!s)).ours+_;rw[ea.rem];omega
  ·show 0≤c.rem-g.h.amount;omega
  ·rw[qas m (Y s 0)];exact ea.nOwn
  ·show IntKind.u64.wrap (c.k.nextTheirs+1)=_;rw[W,ea.nTh,q31 _ m,show pGe (!s) 0 g=false by unfold pGe;rw[w];simp,show pGe (!s) 0 (qds g)=true by unfold pGe qds;rw[o];simp];simp
  ·rw[qas m (Y s 1)];exact qfg m ea.low fun e=>absurd e z
  ·rw[qas m (Y s 1)];exact ea.nuI.congr fun k _=>v k
  ·show c.news=_;rw[ea.news];exact(qb7 rfl fun k _=>v k).symm
  ·show cnt (qbo s) (G.set j (qds g))≤8;rw[qas m (show qbo s (qds g)=qbo s g from rfl)];exact ea.many
 ·refine ab.keep ⟨rfl,rfl,rfl,rfl,rfl⟩ rfl rfl (fun _=>I) ⟨rfl,rfl,rfl⟩ rfl ?_ (ab.upd.setS m p1) (qg8 m ab.along fun hj=>absurd rfl (ab.upd.off m p3 j hj)) (fun k _=>v k) (fun _ i=>⟨i.setS m v1,fun k _=>v k⟩) (qas m (q1 1)) (qas m (Y s 1)) (qra m fun e=>w1.trans e);intro e;rw[qjk _ m,a1,a2];have:=ab.m1 e;simpa using this
 ·refine⟨ba.w9,ba.xor,ba.sig,ba.aw,ba.rv3,ba.rv4,ba.upd.setN m p2,qg8 m ba.along.2 fun hj=>absurd hj b4,?_,fun e=> ?_,ba.last,N.congr fun k _=>v k,fun e=> ?_,fun e=>qra m (fun e=>w2.trans e) (ba.ex e)⟩
  ·show Ids _ (!s) (IntKind.u64.wrap (c.k.nextTheirs+1)) (ups es) d.k.nextOwn;rw[W];exact U.congr fun k _=>v k
  ·obtain⟨i1,i2,i3⟩:=ba.laS e;refine⟨i1.setS m v2,?_,?_⟩
   ·rw[qas m (Y (!s) 1),qas m (show pGe (!s) 1 (qds g)=pGe (!s) 1 g by unfold pGe qds;rw[w];simp)];exact i2.congr fun k _=>v k
   ·rw[i3];congr 1;exact(qb7 rfl fun k _=>v k).symm
  ·have e:qbu (qj es)=true:=e;show amt (qam (!s)) (G.set j (qds g))≤c.rem-g.h.amount;rw[qjk _ m,a2,show qam (!s) g=true by unfold qam;rw[o,D,H,e];simp];have:=ba.m1 e;simp;omega
 ·refine qfg m ok ?_;have E:=ok g F;exact⟨E.id,E.amount,E.hash,E.expiry,fun e=>by rcases e with e | e<;>exact absurd e (by show ¬(0:Int)=_;decide)⟩
 ·show ((G.set j (qds g)).map Gi.pk).Pairwise Apt;rw[q2u (g':=qds g) m rfl];exact pw
 ·show (G.set j _).length≤n;rw[List.length_set];exact few
 ·show msE s (c.added (qp5 K.ch g.h)) (G.set j (qds g)) eo=msE s c G eo++[];rw[List.append_nil];exact qdh ab.w9 rfl (fun k _=>v k) (fun _=>I) (fun _=>qi8 rfl rfl)
 ·exact qdh ba.w9 rfl (fun k _=>v k) (fun _=>rfl) (fun _=>rfl)
end
theorem bl{a b:Nat}(h:Nat.ble a b=true):a≤b:=Nat.le_of_ble_eq_true h
theorem za1{i a:Int}(h:List Int)(g:0≤a∧a≤1125899906842624):qac ⟨3,3,i,a,h,5,0⟩=true:=by
 unfold qac;show (if (5:Int)<0∨1073741824<(5:Int)∨(0:Int)<0∨65535<(0:Int)∨1125899906842624<a then false else decide (qf5 _ _=qeo 3))=true;rw[if_neg (by omega)];kernel_rfl
theorem qwm(i:Int)(h:List Int):qac ⟨4,3,i,0,h,0,0⟩=true:=by kernel_rfl
theorem q4l(i:Int){r:Int}(g:0≤r∧r≤65535):qac ⟨5,3,i,0,zv,0,r⟩=true:=by
 unfold qac;show (if (0:Int)<0∨1073741824<(0:Int)∨r<0∨65535<r∨1125899906842624<(0:Int) then false else decide (qf5 _ _=qeo 5))=true;rw[if_neg (by omega)];kernel_rfl
theorem qnp(T:List Int){n:Int}(g:0≤n∧n≤65535):qac ⟨6,3,0,0,T,0,n⟩=true:=by
 unfold qac;show (if (0:Int)<0∨1073741824<(0:Int)∨n<0∨65535<n∨1125899906842624<(0:Int) then false else decide (qf5 _ _=qeo 6))=true;rw[if_neg (by omega)];kernel_rfl
theorem qno(T:List Int){n:Int}(g:0≤n∧n≤65535):qac ⟨7,3,0,0,T,0,n⟩=true:=by
 unfold qac;show (if (0:Int)<0∨1073741824<(0:Int)∨n<0∨65535<n∨1125899906842624<(0:Int) then false else decide (qf5 _ _=qeo 7))=true;rw[if_neg (by omega)];kernel_rfl
theorem qz9(x:Int):(zn x).length=32:=rfl
theorem qps:qal (zn 5):=qic 5 ⟨by decide,by decide⟩
theorem qpt:qal (zn 6):=qic 6 ⟨by decide,by decide⟩
section
variable {o c sg x y:Int}{k:CountsV}{L:List Live}{sh:List KeptV}{nw la:List MsgV}
theorem qwi(i:qaj (zn 6) sh)(l:k.heard≤65535)(m:L.length≤16):(Ch.mk (duA o c) k x y L sh nw la).Inv :=
 ⟨fun p g=>(i p g).1,by show (2:Nat)  ≤ _;decide,⟨by show (0:Int)≤3;decide,by show (3:Int)<_;decide⟩,by show k.heard<_;omega,by show L.length≤_;omega⟩
theorem qwj(i:qaj (zn 5) sh)(l:k.heard≤65535)(m:L.length≤16):(Ch.mk (duB o c) k x y L sh nw la).Inv :=
 ⟨fun p g=>(i p g).1,by show (1:Nat)  ≤ _;decide,⟨by show (0:Int)≤3;decide,by show (3:Int)<_;decide⟩,by show k.heard<_;omega,by show L.length≤_;omega⟩
theorem ziq(i:nw.length≤100)(g:L.length≤16):SignOk (Ch.mk (duA o c) k x y L sh nw la) :=
 ⟨by show (1:Nat)  ≤ _;decide,⟨by show (0:Int)≤3;decide,by show (3:Int)<_;decide⟩,by show nw.length<_;omega,g⟩
theorem zir(i:nw.length≤100)(g:L.length≤16):SignOk (Ch.mk (duB o c) k x y L sh nw la) :=
 ⟨by show (2:Nat)  ≤ _;decide,⟨by show (0:Int)≤3;decide,by show (3:Int)<_;decide⟩,by show nw.length<_;omega,g⟩
theorem zce{T:List Int}{n:Int}(i:T.length=32)(g:qal T)(l:0≤n∧n≤65536):MsgOk ⟨6,3,0,0,T,0,n⟩ :=
 qej ⟨by decide,by decide⟩ ⟨by decide,by decide⟩ ⟨by decide,by decide⟩ ⟨by decide,by decide⟩ i g ⟨by decide,by decide⟩ l
theorem zbx{T:List Int}{n:Int}(i:T.length=32)(g:qal T)(l:0≤n∧n≤65536):MsgOk ⟨7,3,0,0,T,0,n⟩ :=
 qej ⟨by decide,by decide⟩ ⟨by decide,by decide⟩ ⟨by decide,by decide⟩ ⟨by decide,by decide⟩ i g ⟨by decide,by decide⟩ l
end
theorem SignSt.none{c:Ch}(h:c.k.awaits=true∨zl 1 c.xs=false)(g:SignOk c):SignSt c c MsgV.zero 5:=⟨zb7 c h,g,qgv⟩
section
variable (o c n x y sg j:Int)(h:Vector Int 32)(ra rb pd:Bool)(sa sb:List KeptV)(nw la lb:List MsgV)
def itm(g:Bool)(st:Int)(pd:Bool):Live:=⟨⟨j,n,h,5⟩,g,st,pd⟩
def pM:MsgV:=⟨3,3,j,n,h.toList,5,0⟩
noncomputable def sgA(xs:List Live):MsgV:=⟨6,3,0,0,zt false ⟨#[120]⟩ 3 (sg+1) x y xs,0,sg+1⟩
noncomputable def sgB(xs:List Live):MsgV:=⟨6,3,0,0,zt false ⟨#[121,121]⟩ 3 (sg+1) y x xs,0,sg+1⟩
def rvA:MsgV:=⟨7,3,0,0,(qcp (zn 5) (65535-sg)).1,0,sg⟩
def rvB:MsgV:=⟨7,3,0,0,(qcp (zn 6) (65535-sg)).1,0,sg⟩
theorem qxi(xs:List Live)(g:0≤sg∧sg≤1000):MsgOk (sgA x y sg xs):=zce (qgu _ _ _ _ _ _ _) (qin _ _ _ _ _ _ _) ⟨by omega,by omega⟩
theorem q3d(xs:List Live)(g:0≤sg∧sg≤1000):MsgOk (sgB x y sg xs):=zce (qgu _ _ _ _ _ _ _) (qin _ _ _ _ _ _ _) ⟨by omega,by omega⟩
theorem qxf(g:0≤sg∧sg≤1000):MsgOk (rvA sg):=zbx (qiz _ (qz9 5) _) (qh7 _ qps _) ⟨by omega,by omega⟩
theorem qo1(g:0≤sg∧sg≤1000):MsgOk (rvB sg):=zbx (qiz _ (qz9 6) _) (qh7 _ qpt _) ⟨by omega,by omega⟩
def eA(k:CountsV)(L:List Live):Ch:=⟨duA o c,k,x,y,L,sa,nw,la⟩
def eB(k:CountsV)(L:List Live):Ch:=⟨duB o c,k,y,x,L,sb,nw,lb⟩
end
section
variable {o c n x y sg j no nt hd:Int}{h:Vector Int 32}{ra rb pd aw f1 f2:Bool}{sa sb:List KeptV}{nw la lb:List MsgV}{k:CountsV}{L L1 L2:List Live}{z:Live}
theorem qdm{st:Int}{l:Bool}(g:st≠9):∀z∈[itm n j h l st pd],z.state≠9:=by
 intro z i;rw[List.mem_singleton.1 i];exact g
theorem signA(t:0≤sg∧sg≤1000)(m:zl 1 L=true)(l:qo 1 L=L1)(g:∀z∈L1,z.state≠9)(q:nw.length≤100)(i:L.length≤16) :
  SignSt (eA o c x y sa nw la ⟨sg,hd,false,no,nt,f1,f2,ra⟩ L) (eA o c x y sa [] (nw++[sgA x y sg L1]) ⟨sg+1,hd,true,no,nt,f1,f2,false⟩ L1) (sgA x y sg L1) 0 :=
 ⟨zb6 (by omega) m l g,ziq q i,qxi _ _ _ _ t⟩
theorem signB(t:0≤sg∧sg≤1000)(m:zl 1 L=true)(l:qo 1 L=L1)(g:∀z∈L1,z.state≠9)(q:nw.length≤100)(i:L.length≤16) :
  SignSt (eB o c x y sb nw lb ⟨sg,hd,false,no,nt,f1,f2,rb⟩ L) (eB o c x y sb [] (nw++[sgB x y sg L1]) ⟨sg+1,hd,true,no,nt,f1,f2,false⟩ L1) (sgB x y sg L1) 0 :=
 ⟨zb6 (by omega) m l g,zir q i,q3d _ _ _ _ t⟩
theorem qdq(h:k.awaits=true∨zl 1 L=false)(i:nw.length≤100)(g:L.length≤16):SignSt (eA o c x y sa nw la k L) (eA o c x y sa nw la k L) MsgV.zero 5:= .none h (ziq i g)
theorem qd2(h:k.awaits=true∨zl 1 L=false)(i:nw.length≤100)(g:L.length≤16):SignSt (eB o c x y sb nw lb k L) (eB o c x y sb nw lb k L) MsgV.zero 5:= .none h (zir i g)
theorem zah{xs:List Live}(m:0≤sg∧sg≤1000)(q:qaj (zn 6) sa)(w:L.length≤16)(C:zl 3 L=true)(t:qo 3 L=xs.map qdw)(g:∀z∈xs.map qdw,z.state≠9)(v:qo 4 (xs.map qdw)=L2)(i:∀z∈L2,z.state≠9) :
  HearSt (eA o c x y sa nw la ⟨hd,sg,aw,no,nt,f1,f2,ra⟩ L) (sgB x y sg xs) (eA o c x y sa nw la ⟨hd,sg+1,aw,no,nt,f1,f2,true⟩ L2) [rvA sg]:=by
 refine⟨q3d _ _ _ _ m,?_,qwi q (by show sg≤_;omega) w,.inr (.inr (.inr (.inl rfl))),(fun l D=>by rw[List.mem_singleton.1 D];exact qxf _ m),bl rfl⟩
 refine(qlr (qnp _ ⟨by omega,by omega⟩) rfl rfl).trans ?_
 exact zaj m.1 C t g v i (qey _ _ _ _ _ _).symm
theorem zai{xs:List Live}(m:0≤sg∧sg≤1000)(q:qaj (zn 5) sb)(w:L.length≤16)(C:zl 3 L=true)(t:qo 3 L=xs.map qdw)(g:∀z∈xs.map qdw,z.state≠9)(v:qo 4 (xs.map qdw)=L2)(i:∀z∈L2,z.state≠9) :
  HearSt (eB o c x y sb nw lb ⟨hd,sg,aw,no,nt,f1,f2,rb⟩ L) (sgA x y sg xs) (eB o c x y sb nw lb ⟨hd,sg+1,aw,no,nt,f1,f2,true⟩ L2) [rvB sg]:=by
 refine⟨qxi _ _ _ _ m,?_,qwj q (by show sg≤_;omega) w,.inr (.inr (.inr (.inl rfl))),(fun l D=>by rw[List.mem_singleton.1 D];exact qo1 _ m),bl rfl⟩
 refine(qlr (qnp _ ⟨by omega,by omega⟩) rfl rfl).trans ?_
 exact zaj m.1 C t g v i (qey _ _ _ _ _ _).symm
def qau(g:Bool)(n x:Int):Int:=if g=true then IntKind.u64.wrap (x+n) else x
theorem q6o{xs:List Live}(i:0≤sg∧sg≤1000)(m:qaj (zn 5) sb)(v:L.length≤16)(w:zl 3 L=true)(q:qo 3 L=xs.map qdw)(g:∀z∈xs.map qdw,z.state≠9)(t:qo 4 (xs.map qdw)=[itm n j h false 9 pd]) :
  HearSt (eB o c x y sb nw lb ⟨hd,sg,aw,no,nt,f1,f2,rb⟩ L) (sgA x y sg xs) (eB o c (qau (!pd) n x) (qau pd n y) sb nw lb ⟨hd,sg+1,aw,no,nt,f1,f2,true⟩ []) [rvB sg]:=by
 refine⟨qxi _ _ _ _ i,?_,qwj m (by show sg≤_;omega) v,.inr (.inr (.inr (.inl rfl))),(fun l C=>by rw[List.mem_singleton.1 C];exact qo1 _ i),bl rfl⟩
 refine(qlr (qnp _ ⟨by omega,by omega⟩) rfl rfl).trans ?_
 refine(qru i.1 w q g t rfl (qey _ _ _ _ _ _).symm).trans ?_
 cases pd<;>rfl
theorem zad(C:0≤sg∧sg≤1000)(g:qaj (zn 6) sa)(v:hd≤65535)(t:L.length≤16)(m:qo 2 L=L1)(q:∀z∈L1,z.state≠9) :
  HearSt (eA o c x y sa nw la ⟨sg+1,hd,true,no,nt,f1,f2,ra⟩ L) (rvB sg) (eA o c x y (qkl (rvB sg).hash (65535-sg) sa) nw la ⟨sg+1,hd,false,no,nt,f1,f2,ra⟩ L1) []:=by
 refine⟨qo1 _ C,?_,qwi g v t,.inr (.inr (.inr (.inr (.inl rfl)))),(fun l w=>by cases w),bl rfl⟩
 refine(qls (qno _ ⟨by omega,by omega⟩) rfl rfl).trans ?_
 have e:=zaf (s:=duA o c) (hd:=hd) (no:=no) (nt:=nt) (x:=x) (y:=y) (f1:=f1) (f2:=f2) (rv:=ra) (nw:=nw) (la:=la) (ch:=3) (qos (h:=zn 6) (i:=65535-sg) (ps:=sa) (qj0 (by omega) (by omega)) g) m q
 exact congrArg (fun p:Ch × Int=>(p.1,([]:List MsgV),p.2)) e
theorem zae(C:0≤sg∧sg≤1000)(g:qaj (zn 5) sb)(v:hd≤65535)(t:L.length≤16)(m:qo 2 L=L1)(q:∀z∈L1,z.state≠9) :
  HearSt (eB o c x y sb nw lb ⟨sg+1,hd,true,no,nt,f1,f2,rb⟩ L) (rvA sg) (eB o c x y (qkl (rvA sg).hash (65535-sg) sb) nw lb ⟨sg+1,hd,false,no,nt,f1,f2,rb⟩ L1) []:=by
 refine⟨qxf _ C,?_,qwj g v t,.inr (.inr (.inr (.inr (.inl rfl)))),(fun l w=>by cases w),bl rfl⟩
 refine(qls (qno _ ⟨by omega,by omega⟩) rfl rfl).trans ?_
 have e:=zaf (s:=duB o c) (hd:=hd) (no:=no) (nt:=nt) (x:=y) (y:=x) (f1:=f1) (f2:=f2) (rv:=rb) (nw:=nw) (la:=lb) (ch:=3) (qos (h:=zn 5) (i:=65535-sg) (ps:=sb) (qj0 (by omega) (by omega)) g) m q
 exact congrArg (fun p:Ch × Int=>(p.1,([]:List MsgV),p.2)) e
theorem q6n(w:0≤sg∧sg≤1000)(g:qaj (zn 6) sa)(t:hd≤65535)(q:L.length≤16)(m:qo 2 L=[itm n j h true 9 pd]) :
  HearSt (eA o c x y sa nw la ⟨sg+1,hd,true,no,nt,f1,f2,ra⟩ L) (rvB sg) (eA o c (qau (!pd) n x) (qau pd n y) (qkl (rvB sg).hash (65535-sg) sa) nw la ⟨sg+1,hd,false,no,nt,f1,f2,ra⟩ []) []:=by
 refine⟨qo1 _ w,?_,qwi g t q,.inr (.inr (.inr (.inr (.inl rfl)))),(fun l v=>by cases v),bl rfl⟩
 refine(qls (qno _ ⟨by omega,by omega⟩) rfl rfl).trans ?_
 have e:=qrr (s:=duA o c) (hd:=hd) (no:=no) (nt:=nt) (x:=x) (y:=y) (f1:=f1) (f2:=f2) (rv:=ra) (nw:=nw) (la:=la) (ch:=3) (qos (h:=zn 6) (i:=65535-sg) (ps:=sa) (qj0 (by omega) (by omega)) g) m rfl
 refine(congrArg (fun p:Ch × Int=>(p.1,([]:List MsgV),p.2)) e).trans ?_
 cases pd<;>rfl
theorem qd1(g:qaj (zn 6) sa):qaj (zn 6) (qkl (rvB sg).hash (65535-sg) sa):=qrv qpt g
theorem qeh(g:qaj (zn 5) sb):qaj (zn 5) (qkl (rvA sg).hash (65535-sg) sb):=qrv qps g
theorem zia(w:1≤n∧n≤1125899906842624)(v:0≤j∧j≤1000)(C:0≤x)(m:∀b∈h.toList,0≤b∧b≤255)(g:qaj (zn 5) sb)(q:hd≤65535) :
  HearSt (eB o c (x+n) y sb nw lb ⟨sg,hd,aw,no,j,f1,false,rb⟩ []) (pM n j h) (eB o c x y sb nw lb ⟨sg,hd,aw,no,j+1,f1,false,rb⟩ [itm n j h false 0 false]) []:=by
 refine⟨qej ⟨by decide,by decide⟩ ⟨by decide,by decide⟩ ⟨by omega,by omega⟩ ⟨by omega,by omega⟩ (by simp) m ⟨by decide,by decide⟩ ⟨by decide,by decide⟩,?_,qwj g q (bl rfl),.inl rfl,(fun l t=>by cases t),bl rfl⟩
 refine(qqf (za1 _ ⟨by omega,by omega⟩) rfl rfl).trans ?_
 have e:qab (eB o c (x+n) y sb nw lb ⟨sg,hd,aw,no,j,f1,false,rb⟩ []) (pM n j h)=0:=by
  unfold qab;rw[if_neg (by show ¬(false=true);decide),if_neg (by show ¬(n=0);omega),if_neg (by show ¬(j≠j);omega),if_neg (by show ¬((5:Int)=0);decide),if_neg (by show ¬(8≤0);decide),if_neg (by show ¬(x+n<n);omega)]
 have a:(eB o c (x+n) y sb nw lb ⟨sg,hd,aw,no,j,f1,false,rb⟩ []).added (pM n j h)=eB o c x y sb nw lb ⟨sg,hd,aw,no,j+1,f1,false,rb⟩ [itm n j h false 0 false]:=by
  show (Ch.mk (duB o c) ⟨sg,hd,aw,no,IntKind.u64.wrap (j+1),f1,false,rb⟩ y (x+n-n) [⟨⟨j,n,qbm h.toList,5⟩,false,0,false⟩] sb nw lb)=_;rw[qh3,qaw (by omega) (by omega),show x+n-n=x by omega];rfl
 have i:(eB o c (x+n) y sb nw lb ⟨sg,hd,aw,no,j,f1,false,rb⟩ []).hearAdd (pM n j h)=(eB o c x y sb nw lb ⟨sg,hd,aw,no,j+1,f1,false,rb⟩ [itm n j h false 0 false],0):=by
  unfold Ch.hearAdd;rw[if_pos e,a]
 exact congrArg (fun p:Ch × Int=>(p.1,([]:List MsgV),p.2)) i
theorem zib{p:List Int}(D:0≤j∧j≤1000)(C:p.length=32)(q:qal p)(w:qby p h.toList=true)(g:qaj (zn 6) sa)(t:k.heard≤65535) :
  HearSt (eA o c x y sa nw la k [itm n j h true 4 false]) ⟨4,3,j,0,p,0,0⟩ (eA o c x y sa nw la k [itm n j h true 5 true]) []:=by
 refine⟨qej ⟨by decide,by decide⟩ ⟨by decide,by decide⟩ ⟨by omega,by omega⟩ ⟨by decide,by decide⟩ C q ⟨by decide,by decide⟩ ⟨by decide,by decide⟩,?_,qwi g t (bl rfl),.inr (.inl rfl),(fun l v=>by cases v),bl rfl⟩
 refine(qqg (qwm _ _) rfl rfl).trans ?_
 have i:qbf true j [itm n j h true 4 false]=some (0,itm n j h true 4 false):=by
  unfold qbf;have:qc8 true j (itm n j h true 4 false)=true:=by simp[qc8,itm]
  simp[List.findIdx?_cons,this]
 have e:=qfr (c:=eA o c x y sa nw la k [itm n j h true 4 false]) (m:=⟨4,3,j,0,p,0,0⟩) i
 rw[if_pos (by exact w)] at e
 rw[e]
 rfl
end
section
variable {o c n x y sg j:Int}{h:Vector Int 32}{ra rb pd bad:Bool}{sa sb:List KeptV}{la lb:List MsgV}{F:MsgV}
theorem qz4(D:0≤sg∧sg≤999)(C:1≤n∧n≤1125899906842624)(z:0≤j∧j≤1000)(E:0≤x)(w:∀b∈h.toList,0≤b∧b≤255)(v:qaj (zn 6) sa)(m:qaj (zn 5) sb) :
  ∃i l q t,qaj (zn 6) i∧qaj (zn 5) l ∧
  Rests 500 ⟨eA o c x y sa [pM n j h] la ⟨sg,sg,false,j+1,0,false,false,ra⟩ [itm n j h true 0 false],eB o c (x+n) y sb [] lb ⟨sg,sg,false,0,j,false,false,rb⟩ [],[],[pM n j h],bad⟩
   ⟨eA o c x y i [] q ⟨sg+1,sg+1,false,j+1,0,false,false,true⟩ [itm n j h true 4 false],eB o c x y l [] t ⟨sg+1,sg+1,false,0,j+1,false,false,false⟩ [itm n j h false 4 false],[],[],bad⟩:=by
 have g:0≤sg∧sg≤1000:=⟨D.1,by omega⟩
 refine⟨_,_,[pM n j h]++[sgA x y sg [itm n j h true 1 false]],[]++[sgB x y sg [itm n j h false 3 false]],qd1 (sg:=sg) v,qeh (sg:=sg) m,?_⟩
 refine go_round (.no _) (.yes (zia C z E w m (by omega))) (signA (L1:=[itm n j h true 1 false]) g (by kernel_rfl) (by kernel_rfl) (qdm (by decide)) (bl rfl) (bl rfl)) (qd2 (.inr (by kernel_rfl)) (bl rfl) (bl rfl)) ⟨bl rfl,bl rfl⟩ ⟨bl rfl,bl rfl⟩ ⟨bl rfl,bl rfl⟩ rfl ?_
 refine go_round (.no _) (.yes (zai (xs:=[itm n j h true 1 false]) (L2:=[itm n j h false 2 false]) g m (bl rfl) (by kernel_rfl) (by kernel_rfl) (by exact qdm (st:=1) (by decide)) (by kernel_rfl) (qdm (by decide)))) (qdq (.inl rfl) (bl rfl) (bl rfl)) (signB (L1:=[itm n j h false 3 false]) g (by kernel_rfl) (by kernel_rfl) (qdm (by decide)) (bl rfl) (bl rfl)) ⟨bl rfl,bl rfl⟩ ⟨bl rfl,bl rfl⟩ ⟨bl rfl,bl rfl⟩ rfl ?_
 refine go_round (.yes (zad (L1:=[itm n j h true 2 false]) g v (by omega) (bl rfl) (by kernel_rfl) (qdm (by decide)))) (.no _) (qdq (.inr (by kernel_rfl)) (bl rfl) (bl rfl)) (qd2 (.inl rfl) (bl rfl) (bl rfl)) ⟨bl rfl,bl rfl⟩ ⟨bl rfl,bl rfl⟩ ⟨bl rfl,bl rfl⟩ rfl ?_
 refine go_round (.yes (zah (xs:=[itm n j h false 3 false]) (L2:=[itm n j h true 4 false]) g (qd1 (sg:=sg) v) (bl rfl) (by kernel_rfl) (by kernel_rfl) (by exact qdm (st:=3) (by decide)) (by kernel_rfl) (qdm (by decide)))) (.yes (zae (L1:=[itm n j h false 4 false]) g m (by omega) (bl rfl) (by kernel_rfl) (qdm (by decide)))) (qdq (.inr (by kernel_rfl)) (bl rfl) (bl rfl)) (qd2 (.inr (by kernel_rfl)) (bl rfl) (bl rfl)) ⟨bl rfl,bl rfl⟩ ⟨bl rfl,bl rfl⟩ ⟨bl rfl,bl rfl⟩ rfl ?_
 exact go_stop (qdq (.inr (by kernel_rfl)) (bl rfl) (bl rfl)) (qd2 (.inr (by kernel_rfl)) (bl rfl) (bl rfl))
theorem qw6(g:0≤sg∧sg≤1000)(t:qaj (zn 6) sa)(v:qaj (zn 5) sb)
  (w:HearSt (eA o c x y sa [] la ⟨sg,sg,false,j+1,0,false,false,true⟩ [itm n j h true 4 false]) F (eA o c x y sa [] la ⟨sg,sg,false,j+1,0,false,false,true⟩ [itm n j h true 5 pd]) []) :
  ∃i l m q,qaj (zn 6) i∧qaj (zn 5) l ∧
  Rests 500 ⟨eA o c x y sa [] la ⟨sg,sg,false,j+1,0,false,false,true⟩ [itm n j h true 4 false],eB o c x y sb [F] lb ⟨sg,sg,false,0,j+1,false,false,false⟩ [itm n j h false 5 pd],[F],[],bad⟩
   ⟨eA o c (qau (!pd) n x) (qau pd n y) i [] m ⟨sg+1,sg+1,false,j+1,0,false,false,false⟩ [],eB o c (qau (!pd) n x) (qau pd n y) l [] q ⟨sg+1,sg+1,false,0,j+1,false,false,true⟩ [],[],[],bad⟩:=by
 refine⟨_,_,[]++[sgA x y sg [itm n j h true 8 pd]],[F]++[sgB x y sg [itm n j h false 6 pd]],qd1 (sg:=sg) t,qeh (sg:=sg) v,?_⟩
 refine go_round (.yes w) (.no _) (qdq (.inr (by kernel_rfl)) (bl rfl) (bl rfl)) (signB (L1:=[itm n j h false 6 pd]) g (by kernel_rfl) (by kernel_rfl) (qdm (by decide)) (bl rfl) (bl rfl)) ⟨bl rfl,bl rfl⟩ ⟨bl rfl,bl rfl⟩ ⟨bl rfl,bl rfl⟩ rfl ?_
 refine go_round (.yes (zah (xs:=[itm n j h false 6 pd]) (L2:=[itm n j h true 7 pd]) g t (bl rfl) (by kernel_rfl) (by kernel_rfl) (by exact qdm (st:=6) (by decide)) (by kernel_rfl) (qdm (by decide)))) (.yes (zae (L1:=[itm n j h false 7 pd]) g v (by omega) (bl rfl) (by kernel_rfl) (qdm (by decide)))) (signA (L1:=[itm n j h true 8 pd]) g (by kernel_rfl) (by kernel_rfl) (qdm (by decide)) (bl rfl) (bl rfl)) (qd2 (.inr (by kernel_rfl)) (bl rfl) (bl rfl)) ⟨bl rfl,bl rfl⟩ ⟨bl rfl,bl rfl⟩ ⟨bl rfl,bl rfl⟩ rfl ?_
 refine go_round (.no _) (.yes (q6o (n:=n) (j:=j) (h:=h) (pd:=pd) (xs:=[itm n j h true 8 pd]) g (qeh (sg:=sg) v) (bl rfl) (by kernel_rfl) (by kernel_rfl) (by exact qdm (st:=8) (by decide)) (by kernel_rfl))) (qdq (.inl rfl) (bl rfl) (bl rfl)) (qd2 (.inr (by kernel_rfl)) (bl rfl) (bl rfl)) ⟨bl rfl,bl rfl⟩ ⟨bl rfl,bl rfl⟩ ⟨bl rfl,bl rfl⟩ rfl ?_
 refine go_round (.yes (q6n (n:=n) (j:=j) (h:=h) (pd:=pd) g t (by omega) (bl rfl) (by kernel_rfl))) (.no _) (qdq (.inr (by kernel_rfl)) (bl rfl) (bl rfl)) (qd2 (.inr (by kernel_rfl)) (bl rfl) (bl rfl)) ⟨bl rfl,bl rfl⟩ ⟨bl rfl,bl rfl⟩ ⟨bl rfl,bl rfl⟩ rfl ?_
 exact go_stop (qdq (.inr (by kernel_rfl)) (bl rfl) (bl rfl)) (qd2 (.inr (by kernel_rfl)) (bl rfl) (bl rfl))
end
end Go.Proofs.YthnohmjbbeahmaaGreatDoor
