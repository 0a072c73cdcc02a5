/-
  The protocol, plain: a cut of both ends, and what they say again.
-/
import Derived.Test.YthnohmjbbeahmaaGreatDoorMdh
set_option linter.unusedVariables false
set_option linter.unusedSimpArgs false
namespace Go.Proofs.YthnohmjbbeahmaaGreatDoor
open Go.RowKit
theorem qcu:∀ {x:Int},-1≤x∧x≤9→(-1≤zg x∧zg x≤9)∧decide (0≤zg x)=decide (1≤x)∧decide (1≤zg x)=decide (1≤x)∧zg x≠0∧zg x≠5∧(zg x==1)=(x==1)∧(zg x==6)=(x==6)∧(zg x==8)=(x==8)∧(zg x==3)=(x==3)∧(zg x≤8→x≤8) :=
 qml (p:=fun x=>(-1≤zg x∧zg x≤9)∧decide (0≤zg x)=decide (1≤x)∧decide (1≤zg x)=decide (1≤x)∧zg x≠0∧zg x≠5∧(zg x==1)=(x==1)∧(zg x==6)=(x==6)∧(zg x==8)=(x==8)∧(zg x==3)=(x==3)∧(zg x≤8→x≤8)) (by decide +kernel)
theorem qsl:∀x∈qa1,(decide (zg x.1=1∧zg x.2.1 = -1)=(x.1==1&&qay x.2.2.2.2.1))∧(decide (zg x.1=4∧zg x.2.1=6)=(x.2.1==6&&qay x.2.2.2.2.2)):=by decide +kernel
theorem qsk:∀x∈qa1,(qay x.2.2.2.2.1=false→decide (1≤x.2.1)=decide (1≤x.1))∧(x.1=1→x.2.1 = -1→x.2.2.1=1∧x.2.2.2.1=true):=by decide +kernel
def qct(code:Bool→Nat)(g:Gi):Gi :=
 {g with so:=zg g.so,st:=zg g.st,up:=if zg g.so=1∧zg g.st = -1 then 1 else if zg g.so=4∧zg g.st=6 then 2 else 0,cov:=if zg g.so=1∧zg g.st = -1 then true else if zg g.so=4∧zg g.st=6 then true else false,pre:=if zg g.so=1∧zg g.st = -1 then decide (code g.own=3) else decide (code (!g.own)=3)}
def qij(w:Nat)(la:List Nat)(said:Bool):List En :=
 (if w=2∨w=4 then [.rev] else [])++((if qay w=true then la.map En.upd++[.sgn] else [])++((if w=3 then [.rev] else [])++(if said=true then [.shut] else [])))
theorem qog(l:List Nat)(e:List En):qj (l.map En.upd++e)=qj e:=by
 induction l with
 | nil=>rfl
 | cons j l i=>exact i
theorem qs2(l:List Nat)(e:List En):ups (l.map En.upd++e)=l++ups e:=by
 induction l with
 | nil=>rfl
 | cons j l i=>show j::ups (l.map En.upd++e)=_;rw[i];rfl
theorem qqp{w:Nat}(h:w≤4):w=0∨w=1∨w=2∨w=3∨w=4:=by omega
theorem qvy(la:List Nat)(said:Bool):qij 0 la said=if said=true then [.shut] else []:=rfl
theorem qvz(la:List Nat)(said:Bool):qij 1 la said=la.map En.upd++(.sgn::if said=true then [.shut] else []):=by
 unfold qij;rw[if_neg (by decide),if_pos (show qay 1=true from rfl),if_neg (by decide)];simp
theorem qv0(la:List Nat)(said:Bool):qij 2 la said = .rev::if said=true then [.shut] else []:=rfl
theorem qv1(la:List Nat)(said:Bool):qij 3 la said=la.map En.upd++(.sgn :: .rev::if said=true then [.shut] else []):=by
 unfold qij;rw[if_neg (by decide),if_pos (show qay 3=true from rfl),if_pos rfl];simp
theorem qv2(la:List Nat)(said:Bool):qij 4 la said = .rev::(la.map En.upd++(.sgn::if said=true then [.shut] else [])):=by
 unfold qij;rw[if_pos (by decide),if_pos (show qay 4=true from rfl),if_neg (by decide)];simp
theorem q0t{e:List En}(h:qj e=1):qj (.rev::e)=4:=by
 show (if qj e=0 then 2 else if qj e=1 then 4 else 9)=4;simp[h]
theorem qqq{w:Nat}(h:w≤4)(la:List Nat)(said:Bool):qj (qij w la said)=w∧ups (qij w la said)=if qay w=true then la else []:=by
 rcases qqp h with rfl | rfl | rfl | rfl | rfl
 ·rw[qvy];cases said<;>exact⟨rfl,rfl⟩
 ·rw[qvz,qog,qs2];cases said<;>exact⟨rfl,List.append_nil _⟩
 ·rw[qv0];cases said<;>exact⟨rfl,rfl⟩
 ·rw[qv1,qog,qs2];cases said<;>exact⟨rfl,List.append_nil _⟩
 ·rw[qv2];refine⟨q0t ?_,?_⟩
  ·rw[qog];cases said<;>rfl
  ·show ups (la.map En.upd++(.sgn::if said=true then [.shut] else []))=la;rw[qs2];cases said<;>exact List.append_nil _
section
variable {K:Kon}{n:Nat}{s t:Bool}{c d:Ch}{eo ei es:List En}{G:List Gi}{la nu lb nv:List Nat}{g g':Gi}{j:Nat}{code:Bool→Nat}
theorem qjj{b1 b2:Bool}{e:List En}(m:qay (qj e)=b1∧qbu (qj e)=b2)(o:qbe G e):∀l:List Nat,(∀j∈l,∀g,G[j]? = some g→g.cov=b1∧g.pre=b2)→qbe G (l.map En.upd++e)
 | [],_=>o
 | j::l,h=>by
  refine⟨fun g q=> ?_,qjj m o l fun i v=>h i (List.mem_cons_of_mem _ v)⟩;show g.cov=qay (qj (l.map En.upd++e))∧g.pre=qbu (qj (l.map En.upd++e));rw[qog,m.1,m.2];exact h j (List.mem_cons_self ..) g q
theorem q48{w:Nat}(h:w≤4)(said:Bool)(l:qay w=true→∀j∈la,∀g,G[j]? = some g→g.cov=true∧g.pre=decide (w=3)):qbe G (qij w la said):=by
 have i:qbe G (if said=true then [En.shut] else []):=by cases said<;>exact trivial
 rcases qqp h with rfl | rfl | rfl | rfl | rfl
 ·rw[qvy];exact i
 ·rw[qvz];refine qjj (b1:=true) (b2:=false) (e:= .sgn::if said=true then [.shut] else []) ?_ i la (l rfl);cases said<;>exact⟨rfl,rfl⟩
 ·rw[qv0];exact i
 ·rw[qv1];refine qjj (b1:=true) (b2:=true) (e:= .sgn :: .rev::if said=true then [.shut] else []) ?_ i la (l rfl);cases said<;>exact⟨rfl,rfl⟩
 ·rw[qv2];show qbe G (la.map En.upd++(.sgn::if said=true then [.shut] else []));refine qjj (b1:=true) (b2:=false) (e:= .sgn::if said=true then [.shut] else []) ?_ i la (l rfl);cases said<;>exact⟨rfl,rfl⟩
theorem ql5{said:Bool}{e:List En}(i:qbj G s said false e):∀l:List Nat,qbj G s said false (l.map En.upd++e)
 | []=>i
 | _::l=>⟨fun e=>(by cases e),ql5 i l⟩
theorem zca{w:Nat}(h:w≤4)(said:Bool):qbj G s said false (qij w la said):=by
 have i:qbj G s said false (if said=true then [En.shut] else []):=by
  cases said
  ·exact rfl
  ·exact⟨rfl,rfl⟩
 rcases qqp h with rfl | rfl | rfl | rfl | rfl
 ·rw[qvy];exact i
 ·rw[qvz];exact ql5 (show qbj G s said false (.sgn::_) from i) la
 ·rw[qv0];exact i
 ·rw[qv1];exact ql5 (show qbj G s said false (.sgn :: .rev::_) from i) la
 ·rw[qv2];exact show qbj G s said false (la.map En.upd++_) from ql5 (show qbj G s said false (.sgn::_) from i) la
def qry(s:Bool)(g:Gi):Bool:=g.own==s&&g.so==0
def qhn(s:Bool)(g:Gi):Bool:=g.own==s&&g.st==0
theorem qob{f:Gi→Option Live}{F:Live→Int}{H:Gi→Int} : ∀ {G:List Gi},(∀g∈G,(f g=none→H g=0)∧∀x,f g=some x→H g=F x)→((G.filterMap f).map F).sum=(G.map H).sum
 | [],_=>rfl
 | g::G,h=>by
  have o:=qob (G:=G) fun y m=>h y (List.mem_cons_of_mem _ m)
  obtain⟨i,l⟩:=h g (List.mem_cons_self ..);rw[List.map_cons,List.sum_cons,←o];cases e:f g with
  | none=>rw[List.filterMap_cons_none e,i e];omega
  | some x=>rw[List.filterMap_cons_some e,List.map_cons,List.sum_cons,l x e]
theorem q2o(s b:Bool)(g:Gi):((qm s).show g=none→(if b then qry s g else qhn (!s) g)=false)∧∀x,(qm s).show g=some x→(if b then qry s g else qhn (!s) g)=decide (x.state=0∧x.own=b)∧x.h=g.h:=by
 have e:(qm s).show g=qa6 (g.own==s) g.h (if g.own=s then g.so else g.st) g.paid:=rfl;have key:(if b then qry s g else qhn (!s) g)=decide ((if g.own=s then g.so else g.st)=0∧(g.own==s)=b):=by
  unfold qry qhn;rcases qy g.own s with h | h
  ·rw[if_pos h,h];cases b<;>simp<;>rfl
  ·rw[if_neg (qb4 h),h];cases b<;>simp<;>rfl
 rw[e,key];generalize (if g.own=s then g.so else g.st)=z;unfold qa6;by_cases l:0≤z∧z≤8
 ·rw[if_pos l];refine⟨fun e=>(by cases e),fun x i=> ?_⟩;injection i with i;subst i;exact⟨rfl,rfl⟩
 ·rw[if_neg l];refine⟨fun _=>decide_eq_false (fun e=>l (by omega)),fun x i=>(by cases i)⟩
theorem zec{xs:List Live}(m:xs.Perm (G.filterMap (qm s).show)):qdi true xs=cnt (qry s) G∧qdi false xs=cnt (qhn (!s)) G:=by
 rw[qnu true m,qnu false m];constructor
 ·refine qob fun g _=> ?_
  obtain⟨i,l⟩:=q2o s true g;simp only[if_true] at i l;refine⟨fun e=>by rw[i e];rfl,fun x e=> ?_⟩;rw[(l x e).1];simp
 ·refine qob fun g _=> ?_
  obtain⟨i,l⟩:=q2o s false g;simp only[Bool.false_eq_true,if_false] at i l;refine⟨fun e=>by rw[i e];rfl,fun x e=> ?_⟩;rw[(l x e).1];simp
theorem zeb(G:List Gi)(s:Bool):qc2 false (G.filterMap (qm s).show)=amt (qhn (!s)) G:=by
 refine qob fun g _=> ?_
 obtain⟨l,i⟩:=q2o s false g;simp only[Bool.false_eq_true,if_false] at l i;refine⟨fun e=>by rw[l e];rfl,fun x e=> ?_⟩;rw[(i x e).1,(i x e).2];simp
theorem q30(G:List Gi):cnt (oGe s 0) G=cnt (oGe s 1) G+cnt (qry s) G∧cnt (pGe s 0) G=cnt (pGe s 1) G+cnt (qhn s) G:=by
 unfold cnt;rw[qid,qid];refine⟨qeg fun g _=> ?_,qeg fun g _=> ?_⟩
 ·unfold oGe qry;cases h:(g.own==s)
  ·simp
  ·simp only[Bool.true_and,decide_eq_true_eq,beq_iff_eq]
   repeat' split
   all_goals omega
 ·unfold pGe qhn;cases h:(g.own==s)
  ·simp
  ·simp only[Bool.true_and,decide_eq_true_eq,beq_iff_eq]
   repeat' split
   all_goals omega
theorem quq(i:c.xs.Perm (G.filterMap (qm s).show))(l:∀g∈G,0≤g.h.amount)(b:Bool):0≤qc2 b (G.filterMap (qm s).show) :=
 qil b _ fun y m=>qfi (qm s) l i y (i.symm.subset m)
theorem qky(c:Ch):c.cut.s=c.s∧c.cut.shelf=c.shelf∧c.cut.news=[]∧c.cut.last=c.last∧c.cut.k.signed=c.k.signed∧c.cut.k.heard=c.k.heard∧c.cut.k.awaits=c.k.awaits∧c.cut.k.shutSaid=c.k.shutSaid∧c.cut.k.shutHeard=false∧c.cut.k.revoked=c.k.revoked:=by
 obtain⟨l,m,-,o,q,v,w,z,-,i⟩:=qtd c.xs c;exact⟨l,m,rfl,o,q,v,w,z,rfl,i⟩
theorem zdl(c:Ch):c.cut.sgnOf=c.sgnOf:=qi9 (qky c).1 (qky c).2.2.2.2.1 (q0s _ _ _ _ c)
theorem qq7(G:List Gi)(k:Nat):((G.map (qct code))[k]?).map Gi.key=(G[k]?).map Gi.key:=qnh (f:=qct code) (fun g=>rfl) G k
theorem qhi(it:∀g∈G,g.it s (qj eo) (qj ei)∈qa1)(t:Bool):cnt (oGe t 0) (G.map (qct code))=cnt (oGe t 1) G∧cnt (oGe t 1) (G.map (qct code))=cnt (oGe t 1) G∧cnt (pGe t 0) (G.map (qct code))=cnt (pGe t 1) G∧cnt (pGe t 1) (G.map (qct code))=cnt (pGe t 1) G:=by
 have l:=qgf it;refine⟨?_,?_,?_,?_⟩
 ·rw[qgk];refine qe0 fun g i=> ?_
  show (g.own==t&&decide (0≤zg g.so))=(g.own==t&&decide (1≤g.so));rw[(qcu (l g i).1).2.1]
 ·rw[qgk];refine qe0 fun g i=> ?_
  show (g.own==t&&decide (1≤zg g.so))=(g.own==t&&decide (1≤g.so));rw[(qcu (l g i).1).2.2.1]
 ·rw[qgk];refine qe0 fun g i=> ?_
  show (g.own==t&&decide (0≤zg g.st))=(g.own==t&&decide (1≤g.st));rw[(qcu (l g i).2.1).2.1]
 ·rw[qgk];refine qe0 fun g i=> ?_
  show (g.own==t&&decide (1≤zg g.st))=(g.own==t&&decide (1≤g.st));rw[(qcu (l g i).2.1).2.2.1]
theorem EndI.cut(J:K.Ok)(h:EndI K t c G nu)(it:∀g∈G,g.it s (qj eo) (qj ei)∈qa1)(w:∀g∈G,0≤g.h.amount)(few:G.length≤1000000000):EndI K t c.cut (G.map (qct code)) []∧c.rem≤c.cut.rem∧c.cut.rem=c.rem+qc2 false (G.filterMap (qm t).show):=by
 have q:=qgf it;have M:=J.cap;have N:=J.sum t;have U:=qya (qm t) G;have V:=qyb (qm t) G;have n1:=quq h.perm w true;have n2:=quq h.perm w false;have m:=qjt (qm t) (qm t).cut G (L:=(K.S t).ours) (R:=(K.S (!t)).ours) (fun g i=>by
  have:=qe8 it t g i;exact(qcu this).1) w (by omega) (by omega) (by rw[←h.loc];exact h.pos.1) (by rw[←h.rem];exact h.pos.2)
 obtain⟨o1,o2⟩:=zec h.perm;obtain⟨q1,-⟩:=q30 (s:=t) G;obtain⟨-,q2⟩:=q30 (s:= !t) G;have l1:=qqc (oGe t 0) G;have l2:=qqc (pGe (!t) 0) G;have z1:=qjs (oGe t 1) G;have z2:=qjs (pGe (!t) 1) G;have C:=h.nOwn;have D:=h.nTh;obtain⟨O,F,z,P,T⟩:=q9a (qm t) G h.perm h.loc h.rem (qfi (qm t) w h.perm) h.pos.1 h.pos.2 (by omega) (by omega) ⟨by omega,by omega⟩ ⟨by omega,by omega⟩;obtain⟨Y,k2,k3,k4,k5,k6,k7,k8,k9,Z⟩:=qky c;obtain⟨m1,m2,m3⟩:=qlh (qct code) (qm t) (qm t).cut (G:=G) fun g _=>⟨rfl,by
  show (if g.own=t then zg g.so else zg g.st)=zg (if g.own=t then g.so else g.st);split<;>rfl,rfl,rfl⟩
 obtain⟨W,H,-,-⟩:=qhi (code:=code) it t;obtain⟨-,-,X,-⟩:=qhi (code:=code) it (!t);have o:c.cut.k.nextOwn=cnt (oGe t 1) G:=by rw[P,o1,C];omega
 have v:c.cut.rem=c.rem+qc2 false (G.filterMap (qm t).show):=by rw[z,h.rem];omega
 refine⟨⟨Y.trans h.set,by rw[m1];exact O,by rw[m2];exact F,by rw[m3];exact z,⟨by rw[F];exact m.1.1,by rw[z];exact m.2.1⟩,by rw[o,W],?_,?_,Idx.none ?_,?_,k3,?_,by rw[k2];exact h.shelf,?_⟩,by omega,v⟩
 ·rw[T,o2,D,X];omega
 ·rw[H];intro y E y1 y2;obtain⟨g,i,rfl⟩:=List.mem_map.1 E;refine h.low g i y1 ?_;have I:=(qcu (q g i).1).2.2.1;rw[decide_eq_true (show 1≤zg g.so from y2)] at I;simpa using I.symm
 ·intro y E;obtain⟨g,i,rfl⟩:=List.mem_map.1 E;have a1:=(qcu (q g i).1).2.2.2.1;have a2:=(qcu (q g i).2.1).2.2.2.2.1;show ((g.own==t&&zg g.so==0) || (g.own == !t&&zg g.st==5))=false;simp[a1,a2]
 ·show cnt (oGe t 1) (G.map (qct code))=c.cut.k.nextOwn;rw[H,o]
 ·rw[qgk];refine Int.le_trans (qmj fun g i l=> ?_) h.many;have l:(g.own==t&&(decide (0≤zg g.so)&&decide (zg g.so≤8)))=true:=l;rw[(qcu (q g i).1).2.1] at l;unfold qbo;simp at l ⊢;exact⟨l.1,by omega,(qcu (q g i).1).2.2.2.2.2.2.2.2.2 l.2.2⟩
 ·rw[k5,k6,k7];exact h.nums
theorem qxx{e:List En}(h:qbe G e)(o:qj e=3∨qj e=2∨qj e=0)(m:j∈ups e)(z:G[j]? = some g)(v:g.cov=true):g.pre=true:=by
 induction e with
 | nil=>cases m
 | cons x e w =>
  cases x with
  | upd i =>
   have q:qj e=3∨qj e=2∨qj e=0:=o;rcases List.mem_cons.1 m with l | m
   ·subst l;obtain⟨a1,a2⟩:=h.1 g z;rw[a2];rw[a1] at v;clear h o;rcases q with l | l | l<;>rw[l] at v ⊢
    ·rfl
    ·cases v
    ·cases v
   ·exact w h.2 q m
  | shut=>exact w h o m
  | sgn =>
   refine w h ?_ m;rcases qg7 (es:=e) (by rcases o with l | l | l<;>rw[l]<;>decide) with ⟨l,-⟩ | ⟨l,-⟩
   ·exact .inr (.inr l)
   ·exact .inr (.inl l)
  | rev =>
   refine w h ?_ m;rcases qg6 (es:=e) (by rcases o with l | l | l<;>rw[l]<;>decide) with ⟨l,-⟩ | ⟨l,e2⟩
   ·exact .inr (.inr l)
   ·rw[e2] at o;omega
theorem qsi(it:∀g∈G,g.it s (qj eo) (qj ei)∈qa1)(o:g∈G):Gi.pend s (qct code g)=(Gi.covd s g&&qay (qj eo)):=by
 have h:=qsl _ (it g o);rcases qy g.own s with e | e
 ·rw[qdp e] at h;have m:decide (zg g.so=1∧zg g.st = -1)=(g.so==1&&qay (qj eo)):=h.1;rw[qi7 (show (qct code g).own=s from e)];have:((qct code g).up==1)=decide (zg g.so=1∧zg g.st = -1):=by
   unfold qct;by_cases l:zg g.so=1∧zg g.st = -1
   ·simp[l]
   ·rw[decide_eq_false l];simp only[if_neg l];split<;>rfl
  rw[this,m];unfold Gi.covd;rw[e];simp
 ·rw[qdx e] at h;have m:decide (zg g.so=4∧zg g.st=6)=(g.st==6&&qay (qj eo)):=h.2;rw[qnx (show (qct code g).own = !s from e)];have:((qct code g).up==2)=decide (zg g.so=4∧zg g.st=6):=by
   unfold qct;by_cases l:zg g.so=1∧zg g.st = -1
   ·have q:¬(zg g.so=4∧zg g.st=6):=fun e=>by omega
    rw[decide_eq_false q];simp only[if_pos l];rfl
   ·simp only[if_neg l];by_cases i:zg g.so=4∧zg g.st=6
    ·simp[i]
    ·rw[decide_eq_false i];simp only[if_neg i];rfl
  rw[this,m];unfold Gi.covd;rw[e];simp
theorem Dir.cut(h:Dir n s c d eo ei G la)(it:∀g∈G,g.it s (qj eo) (qj ei)∈qa1)(nn:∀g∈G,0≤g.h.amount)(o:code s=qj eo)(a4:qj ei≠9)
  (ec:c.cut.k.nextOwn=cnt (oGe s 1) G) (ed:d.cut.k.nextTheirs=cnt (pGe s 1) G) (hd:d.cut.rem=d.rem+qc2 false (G.filterMap (qm (!s)).show)) (a7:0≤d.cut.rem) (a8:0≤d.rem) :
  Dir n s c.cut d.cut (qij (qj eo) la c.k.shutSaid) (qij (qj ei) lb d.k.shutSaid) (G.map (qct code)) la:=by
 have I:=qgf it
 have w4:=qgy eo h.w9
 obtain⟨w1,w2⟩:=qqq w4 la c.k.shutSaid
 obtain⟨v1,-⟩:=qqq (qgy ei a4) lb d.k.shutSaid
 obtain⟨k1,k2,k3,k4,k5,k6,k7,k8,k9,R⟩:=qky c
 obtain⟨j1,j2,j3,j4,j5,j6,j7,j8,j9,a9⟩:=qky d
 obtain⟨e1,e2,e3,e4⟩:=qhi (code:=code) it s
 have C:∀g∈G,Gi.covd s (qct code g)=Gi.covd s g:=fun g i=>by
  show ((g.own==s&&zg g.so==1) || (g.own == !s&&zg g.st==6))=_;rw[(qcu (I g i).1).2.2.2.2.2.1,(qcu (I g i).2.1).2.2.2.2.2.2.1];rfl
 have v:∀g∈G,Gi.moved s (qct code g)=Gi.moved s g:=fun g i=>by
  show ((g.own==s&&(zg g.so==1 || zg g.so==8)) || (g.own == !s&&(zg g.st==3 || zg g.st==6)))=_;rw[(qcu (I g i).1).2.2.2.2.2.1,(qcu (I g i).1).2.2.2.2.2.2.2.1,(qcu (I g i).2.1).2.2.2.2.2.2.1,(qcu (I g i).2.1).2.2.2.2.2.2.2.2.1];rfl
 have w:Idx (G.map (qct code)) (Gi.pend s) (if qay (qj eo)=true then la else []):=by
  cases E:qay (qj eo) with
  | true =>
   rw[if_pos rfl];exact(h.laS E).1.map _ fun g i=>by rw[qsi it i,E,Bool.and_true]
  | false =>
   rw[if_neg (by decide)];refine Idx.none fun y F=> ?_
   obtain⟨g,i,rfl⟩:=List.mem_map.1 F;rw[qsi it i,E,Bool.and_false]
 have M:qay (qj eo)=true→∀j∈la,∀y,(G.map (qct code))[j]? = some y→y.cov=true∧y.pre=decide (qj eo=3):=by
  intro E j T y F;rw[if_pos E] at w;have m:=w.yes T F;rw[List.getElem?_map] at F;cases i:G[j]? with
  | none=>rw[i] at F;cases F
  | some g =>
   rw[i] at F;injection F with F;subst F;rcases qy g.own s with e | e
   ·rw[qi7 (show (qct code g).own=s from e)] at m;have q:zg g.so=1∧zg g.st = -1:=by
     unfold qct at m;by_cases q:zg g.so=1∧zg g.st = -1
     ·exact q
     ·simp only[if_neg q] at m;split at m<;>cases m
    unfold qct;simp only[if_pos q,e,o];exact⟨trivial,trivial⟩
   ·rw[qnx (show (qct code g).own = !s from e)] at m;have q:¬(zg g.so=1∧zg g.st = -1)∧(zg g.so=4∧zg g.st=6):=by
     unfold qct at m;by_cases q:zg g.so=1∧zg g.st = -1
     ·simp only[if_pos q] at m;cases m
     ·refine⟨q,?_⟩;simp only[if_neg q] at m;by_cases L:zg g.so=4∧zg g.st=6
      ·exact L
      ·simp only[if_neg L] at m;cases m
    unfold qct;simp only[if_neg q.1,if_pos q.2,e,Bool.not_not,o];exact⟨trivial,trivial⟩
 refine⟨by rw[w1];exact h.w9,by rw[w1,v1];exact h.xor,by rw[w1,k5,j6];exact h.sig,by rw[w1,v1,k7];exact h.aw,by rw[w1,R];exact h.rv3,by rw[w1,R];exact h.rv4,by rw[w2];exact w,q48 w4 _ M,?_,?_,by rw[k4];exact h.last,?_,?_,?_⟩
 ·rw[w2,ec,ed];cases E:qay (qj eo) with
  | true =>
   rw[if_pos rfl];exact(h.laS E).2.1.congr fun k _=>qq7 G k
  | false =>
   rw[if_neg (by decide)];show cnt (pGe s 1) G=cnt (oGe s 1) G;refine qe0 fun g i=> ?_
   unfold pGe oGe;rcases qy g.own s with e | e
   ·have O:=(qsk _ (it g i)).1;rw[qdp e] at O;rw[show decide (1≤g.st)=decide (1≤g.so) from O E]
   ·rw[e];simp
 ·rw[w1];intro E;obtain⟨i1,i2,i3⟩:=h.laS E;refine⟨i1.map _ C,?_,?_⟩
  ·rw[e2,e4];exact i2.congr fun k _=>qq7 G k
  ·rw[k4,i3,zdl];congr 1;exact(qb7 k1 fun k _=>qq7 G k).symm
 ·rw[k8,j9];exact zca w4 _
 ·rw[w1];intro hR;by_cases V:qj eo=3
  ·have hm:=h.m1 hR;have key:amt (qam s) (G.map (qct code))≤amt (qam s) G+qc2 false (G.filterMap (qm (!s)).show):=by
    rw[zeb,Bool.not_not,qm4];unfold amt;rw[qid];refine qhv fun g i=> ?_
    have N:=nn g i;have a5:0≤if qhn s g=true then g.h.amount else 0:=by
     split
     ·exact N
     ·exact Int.le_refl _
    have a6:0≤if qam s g=true then g.h.amount else 0:=by
     split
     ·exact N
     ·exact Int.le_refl _
    show (if qam s (qct code g)=true then g.h.amount else 0)≤_;by_cases J:qam s (qct code g)=true
    ·rw[if_pos J];have l:(g.own==s&&((qct code g).up==1&&(qct code g).pre))=true:=J;have H:g.own=s:=by
      rcases qy g.own s with e | e
      ·exact e
      ·rw[e] at l;simp at l
     have Z:(qct code g).up=1:=by
      simp at l;exact l.2.1
     have m:=qsi (code:=code) it i;rw[qi7 (show (qct code g).own=s from H),Z] at m;have P:g.so=1:=by
      unfold Gi.covd at m;rw[H] at m;simp at m;exact m.1
     have W:qay (qj eo)=true:=by rw[V];rfl
     have D:g.st = -1∨g.st=0:=by
      have z:=(qsl _ (it g i)).1;rw[qdp H] at z;have z:decide (zg g.so=1∧zg g.st = -1)=(g.so==1&&qay (qj eo)):=z;rw[P,W] at z;have z:zg g.st = -1:=by simp at z;exact z.2
      unfold zg at z;split at z
      ·cases z
      ·split at z
       ·rename_i h0;exact .inr h0
       ·exact .inl z
     rcases D with D | D
     ·have O:=(qsk _ (it g i)).2;rw[qdp H] at O;obtain⟨U,q2⟩:=O P D;have U:g.up=1:=U;have q2:g.cov=true:=q2;obtain⟨j,T⟩:=List.getElem?_of_mem i;have X:j∈ups eo:=(h.upd.iff j).2 ⟨g,T,by rw[qi7 H,U];rfl⟩;have Y:=qxx h.along (.inl V) X T q2;have:qam s g=true:=by unfold qam;rw[H,U,Y];simp
      rw[if_pos this];omega
     ·have:qhn s g=true:=by unfold qhn;rw[H,D];simp
      rw[if_pos this];omega
    ·rw[if_neg J];omega
   rw[hd];omega
  ·have:amt (qam s) (G.map (qct code))≤0:=by
    rw[qm4];have:=qhv (f:=fun g=>if qam s (qct code g)=true then (qct code g).h.amount else 0) (f':=fun _:Gi=>(0:Int)) (G:=G) fun g i=>by
     show (if qam s (qct code g)=true then (qct code g).h.amount else 0)≤0;rw[if_neg]
     ·exact Int.le_refl _
     ·intro J;have l:(g.own==s&&((qct code g).up==1&&(qct code g).pre))=true:=J;have H:g.own=s:=by
       rcases qy g.own s with e | e
       ·exact e
       ·rw[e] at l;simp at l
      simp at l;obtain⟨-,b1,b2⟩:=l;unfold qct at b1 b2;by_cases q:zg g.so=1∧zg g.st = -1
      ·simp only[if_pos q,H,o,decide_eq_true_eq] at b2;exact V b2
      ·simp only[if_neg q] at b1;split at b1<;>cases b1
    have e0:(G.map fun _:Gi=>(0:Int)).sum=0:=by
     clear this;clear M w C v e1 e2 e3 e4 hd ec ed nn it I h
     induction G with
     | nil=>rfl
     | cons g G ih=>rw[List.map_cons,List.sum_cons,ih];rfl
    omega
   omega
 ·rw[w1];exact fun e=>qv4 (fun g i hh=>(v g i).trans hh) (h.ex e)
end
theorem q64(ch i:Int){n:Int}(l:0≤n∧n≤65535):qac ⟨9,ch,i,0,zv,0,n⟩=true:=by
 unfold qac;show (if (0:Int)<0∨1073741824<(0:Int)∨n<0∨65535<n∨1125899906842624<(0:Int) then false else decide (qf5 _ _=qeo 9))=true;rw[if_neg (by omega)];kernel_rfl
section
variable {K:Kon}{n:Nat}{s t:Bool}{c d:Ch}{eo ei es:List En}{G:List Gi}{la nu lb nv:List Nat}{g g':Gi}{j:Nat}
theorem qsc(s:Bool)(c:Ch)(G:List Gi)(l:List Nat)(e:List En):msE s c G (l.map En.upd++e)=msU s c G l++msE s c G e:=by
 unfold msE msU;rw[List.map_append,List.map_map];rfl
theorem quw{c':Ch}{G':List Gi}{w:Nat}(q:w≤4)(i:qay w=true→c'.last=msU s c' G' la++[c'.sgnOf])(m:w=3→c'.k.revoked=true)(o:w=4→c'.k.revoked=false):c'.resaid (qay w) (qbu w)=msE s c' G' (qij w la c'.k.shutSaid):=by
 have l:(if c'.k.shutSaid then [qdl c'.s.ch] else [])=msE s c' G' (if c'.k.shutSaid=true then [.shut] else []):=by
  cases c'.k.shutSaid<;>rfl
 unfold Ch.resaid;rw[l];rcases qqp q with rfl | rfl | rfl | rfl | rfl
 ·rw[qvy];rfl
 ·rw[qvz,qsc];show []++(c'.last++([]++msE s c' G' _))=_;rw[i rfl,List.nil_append,List.nil_append,List.append_assoc];rfl
 ·rw[qv0];show (if (true && !c'.k.revoked)=true then [c'.revocation] else [])++([]++((if (true&&c'.k.revoked)=true then [c'.revocation] else [])++msE s c' G' _))=c'.revocation::msE s c' G' _;cases c'.k.revoked<;>rfl
 ·rw[qv1,qsc];show (if (true && !c'.k.revoked)=true then [c'.revocation] else [])++(c'.last++((if (true&&c'.k.revoked)=true then [c'.revocation] else [])++msE s c' G' _))=_;rw[i rfl,m rfl,List.append_assoc];rfl
 ·rw[qv2];show (if (true && !c'.k.revoked)=true then [c'.revocation] else [])++(c'.last++((if (true&&c'.k.revoked)=true then [c'.revocation] else [])++msE s c' G' _))=c'.revocation::msE s c' G' (la.map En.upd++_);rw[i rfl,o rfl,qsc,List.append_assoc];rfl
theorem qxt{c' m:Ch}{o wi:Nat}(L:c'.s.ch=m.s.ch)(v:qay wi=true→qbu o=false)(sig:c'.k.signed=m.k.heard+if qay o=true then 1 else 0)(i:m.k.signed=c'.k.heard+if qay wi=true then 1 else 0)(aw:qay o=true→c'.k.awaits=true)(l:m.k.awaits=(qay wi || qbu o))(H:m.k.awaits=true→1≤m.k.signed)(M:0≤c'.k.heard∧c'.k.heard≤65535) :
  c'.hearAgain m.again=(c'.resaid (qay o) (qbu o),0):=by
 have D:m.again.id=c'.k.heard-if qbu o=true then 1 else 0:=by
  show IntKind.u64.wrap m.k.told=_;have:m.k.told=c'.k.heard-if qbu o=true then 1 else 0:=by
   unfold CountsV.told;cases w:qay wi with
   | true =>
    rw[w] at l i;rw[v w];rw[show m.k.awaits=true by rw[l];rfl];simp at i ⊢;omega
   | false =>
    rw[w] at l i;cases q:qbu o with
    | true =>
     rw[show m.k.awaits=true by rw[l,q];rfl];simp at i ⊢;omega
    | false =>
     rw[show m.k.awaits=false by rw[l,q];rfl];simp at i ⊢;omega
  rw[this];have I:0≤c'.k.heard-(if qbu o=true then 1 else 0):=by
   cases q:qbu o with
   | false=>simp;omega
   | true =>
    have z:qay wi=false:=by
     cases e:qay wi with
     | false=>rfl
     | true=>rw[v e] at q;cases q
    rw[z] at i l;have:=H (by rw[l,q];rfl);simp at i ⊢;omega
  refine qaw I ?_;split<;>omega
 have F:qfj c' m.again=qbu o:=by
  unfold qfj;rw[D];cases q:qbu o with
  | false=>simp;omega
  | true =>
   have z:qay wi=false:=by
    cases e:qay wi with
    | false=>rfl
    | true=>rw[v e] at q;cases q
   rw[z] at i l;have:=H (by rw[l,q];rfl);simp at i ⊢;omega
 have E:qc5 c' m.again=qay o:=by
  unfold qc5;show (c'.k.awaits&&decide (m.k.heard+1=c'.k.signed))=_;cases w:qay o with
  | true=>rw[w] at sig;rw[aw w];simp at sig ⊢;omega
  | false=>rw[w] at sig;simp at sig ⊢;intro _;omega
 have J:qcm c' m.again=0:=by
  unfold qcm;rw[E,F];rw[if_neg,if_neg]
  ·rintro ⟨q,C⟩;apply C;rw[D,q];simp
  ·rintro ⟨w,C⟩;apply C;rw[w] at sig;show m.k.heard+1=c'.k.signed+1;simp at sig;omega
 unfold Ch.hearAgain
 rw[if_pos J,E,F]
theorem q87{P:Pt}(o:K.Ok)(h:Inv K n P)(hn:n<1000000000) :
  ∃m,m.s=P.s∧m.c=P.c.cut∧m.d=P.d.cut∧Inv K n m∧P.c.cut.hearAgain P.d.cut.again=(m.out,0)∧P.d.cut.hearAgain P.c.cut.again=(m.inn,0):=by
 obtain⟨s,c,d,eo,ei,G,la,nu,lb,nv⟩:=P
 obtain⟨ea,eb,ab,ba,it,ok,pw,few⟩:=h
 simp only at ea eb ab ba it ok pw few ⊢
 have J:=qkq ok
 have T:=qgf it
 let code:Bool→Nat:=fun t=>if t=s then qj eo else qj ei
 have O:code s=qj eo:=if_pos rfl
 have N:code (!s)=qj ei:=if_neg (by cases s<;>decide)
 have z:∀g∈G,g.it (!s) (qj ei) (qj eo)∈qa1:=fun g q=>by rw[q4d];exact it g q
 obtain⟨i,ra,a4⟩:=ea.cut (code:=code) o it J (by omega)
 obtain⟨l,rb,a5⟩:=eb.cut (code:=code) o z J (by omega)
 obtain⟨k1,k2,k3,k4,Y,Z,k7,k8,k9,D⟩:=qky c
 obtain⟨j1,j2,j3,j4,V,W,X,j8,j9,C⟩:=qky d
 have w4:=qgy eo ab.w9
 have v4:=qgy ei ba.w9
 obtain⟨w1,-⟩:=qqq w4 la c.k.shutSaid
 obtain⟨v1,-⟩:=qqq v4 lb d.k.shutSaid
 have q1:=(qhi (code:=code) it s).1
 have q2:=(qhi (code:=code) it (!s)).1
 have q3:=(qhi (code:=code) it s).2.2.1
 have q4:=(qhi (code:=code) it (!s)).2.2.1
 have fa:=i.nOwn
 rw[q1] at fa
 have fb:=l.nOwn
 rw[q2] at fb
 have ga:=i.nTh
 rw[q4] at ga
 have gb:=l.nTh
 rw[Bool.not_not,q3] at gb
 have v:=ab.cut (code:=code) (lb:=lb) it J O ba.w9 fa gb a5 l.pos.2 eb.pos.2
 have w:=ba.cut (code:=code) (lb:=la) z J N ab.w9 fb ga (by rw[Bool.not_not];exact a4) i.pos.2 ea.pos.2
 refine⟨⟨s,c.cut,d.cut,qij (qj eo) la c.k.shutSaid,qij (qj ei) lb d.k.shutSaid,G.map (qct code),la,[],lb,[]⟩,rfl,rfl,rfl,⟨i,l,v,w,?_,?_,?_,?_⟩,?_,?_⟩
 ·intro y U;show y.it s (qj (qij (qj eo) la c.k.shutSaid)) (qj (qij (qj ei) lb d.k.shutSaid))∈qa1;rw[w1,v1];obtain⟨g,q,rfl⟩:=List.mem_map.1 U;have hi:=q7n _ (it g q);have e:(qct code g).it s (qj eo) (qj ei)=It.cut (g.it s (qj eo) (qj ei)):=by
   unfold Gi.it It.cut zh6 qct;simp only;by_cases H:zg g.so=1∧zg g.st = -1
   ·simp only[if_pos H]
   ·simp only[if_neg H];by_cases I:zg g.so=4∧zg g.st=6
    ·simp only[if_pos I]
    ·simp only[if_neg I]
  rw[e];exact hi
 ·intro y U;obtain⟨g,q,rfl⟩:=List.mem_map.1 U;have hok:=ok g q;refine⟨hok.id,hok.amount,hok.hash,hok.expiry,fun e=>hok.um ?_⟩;have e:zg g.st=5∨zg g.st=6:=e;have hc:=qcu (T g q).2.1;rcases e with e | e
  ·exact absurd e hc.2.2.2.2.1
  ·have h6:=hc.2.2.2.2.2.2.1;rw[e] at h6;exact .inr (by simpa using h6.symm)
 ·show ((G.map (qct code)).map Gi.pk).Pairwise Apt;rw[List.map_map,List.pairwise_map];rw[List.pairwise_map] at pw;refine List.Pairwise.imp_of_mem ?_ pw;rintro a b ha hb R ⟨E,F,z3,z4⟩;have E:decide (0≤zg a.so)=true:=E;have F:decide (0≤zg b.so)=true:=F;rw[(qcu (T a ha).1).2.1] at E;rw[(qcu (T b hb).1).2.1] at F;have E:1≤a.so:=by simpa using E
  have F:1≤b.so:=by simpa using F
  exact R ⟨decide_eq_true (show 0≤a.so by omega),decide_eq_true (show 0≤b.so by omega),z3,z4⟩
 ·show (G.map (qct code)).length≤n;rw[List.length_map];exact few
 ·have L:c.cut.hearAgain d.cut.again=(c.cut.resaid (qay (qj eo)) (qbu (qj eo)),0):=by
   refine qxt (wi:=qj ei) (by rw[i.set,l.set,o.ch,o.ch]) ba.xor (by rw[Y,W];exact ab.sig) (by rw[V,Z];exact ba.sig) (fun e=>by rw[k7,ab.aw,e];rfl) (by rw[X];exact ba.aw) (by rw[X,V];exact eb.nums.2.2) ?_;rw[Z];have H:=ea.nums.1;have I:=eb.nums.2.1;have M:=ba.sig;split at M<;>omega
  rw[L];congr 1;show _=msE s c.cut (G.map (qct code)) (qij (qj eo) la c.k.shutSaid);rw[←k8];exact quw w4 (fun e=>(v.laS (by rw[w1];exact e)).2.2) (fun e=>by rw[D];exact ab.rv3 e) (fun e=>by rw[D];exact ab.rv4 e)
 ·have L:d.cut.hearAgain c.cut.again=(d.cut.resaid (qay (qj ei)) (qbu (qj ei)),0):=by
   refine qxt (wi:=qj eo) (by rw[i.set,l.set,o.ch,o.ch]) ab.xor (by rw[V,Z];exact ba.sig) (by rw[Y,W];exact ab.sig) (fun e=>by rw[X,ba.aw,e];rfl) (by rw[k7];exact ab.aw) (by rw[k7,Y];exact ea.nums.2.2) ?_;rw[W];have H:=eb.nums.1;have I:=ea.nums.2.1;have M:=ab.sig;split at M<;>omega
  rw[L];congr 1;show _=msE (!s) d.cut (G.map (qct code)) (qij (qj ei) lb d.k.shutSaid);rw[←j8];exact quw v4 (fun e=>(w.laS (by rw[v1];exact e)).2.2) (fun e=>by rw[C];exact ba.rv3 e) (fun e=>by rw[C];exact ba.rv4 e)
theorem zd2(l:K.Ok)(s:Bool):Inv K 0 ⟨s,Ch.new (K.S s),Ch.new (K.S (!s)),[],[],[],[],[],[],[]⟩:=by
 have m:∀t,EndI K t (Ch.new (K.S t)) [] []:=by
  intro t;have o:=l.ours t;have q:=l.ours (!t);have v:=l.sum t;have w:=l.capS t;refine⟨rfl,List.Perm.refl _,?_,?_,⟨o,?_⟩,rfl,rfl,fun g i=>(by cases i),Idx.none fun g i=>(by cases i),rfl,rfl,(by show (0:Int)≤8;decide),ql7 _,⟨by show (0:Int)≤0;decide,⟨by show (0:Int)≤0;decide,by show (0:Int)≤65535;decide⟩,fun e=>by cases e⟩⟩
  ·show (K.S t).ours=(K.S t).ours+0;omega
  ·show (K.S t).cap-(K.S t).ours=(K.S (!t)).ours+0;omega
  ·show 0≤(K.S t).cap-(K.S t).ours;omega
 have hd:∀t,Dir 0 t (Ch.new (K.S t)) (Ch.new (K.S (!t))) [] [] [] []:=by
  intro t;exact⟨by decide,(fun e=>by cases e),rfl,rfl,(fun e=>by cases e),(fun e=>by cases e),Idx.none fun g i=>(by cases i),trivial,rfl,(fun e=>by cases e),Nat.le_refl _,rfl,(fun e=>by cases e),(fun e=>by cases e)⟩
 refine⟨m s,m (!s),hd s,?_,fun g i=>(by cases i),fun g i=>(by cases i),List.Pairwise.nil,Nat.le_refl _⟩;have:=hd (!s);rw[Bool.not_not] at this;exact this
end
section
variable {K:Kon}{n:Nat}{s:Bool}{c d:Ch}{eo ei es:List En}{G:List Gi}{la nu lb nv:List Nat}
theorem qfd:∀ {e:List En} {h said:Bool},qj e≠9→qbj G s said h e→e.length≤(ups e).length+(if qay (qj e)=true then 1 else 0)+(if qbu (qj e)=true then 1 else 0)+(if h=true then 0 else 1)
 | [],_,_,_,_=>Nat.zero_le _
 | .upd j::es,h,said,t,i=>by
  have g:=qfd (e:=es) t i.2;have v:qj (.upd j::es)=qj es:=rfl;have l:(ups (.upd j::es)).length=(ups es).length+1:=rfl;rw[v,l,List.length_cons];omega
 | .shut::es,h,said,t,i=>by
  have g:=qfd (e:=es) t i.2;have v:qj (.shut::es)=qj es:=rfl;have l:(ups (.shut::es)).length=(ups es).length:=rfl;rw[v,l,List.length_cons,i.1];simp only[if_true,Bool.false_eq_true,if_false] at g ⊢;omega
 | .sgn::es,h,said,t,i=>by
  have l:(ups (.sgn::es)).length=(ups es).length:=rfl;rcases qg7 t with ⟨o,q⟩ | ⟨o,q⟩
  ·have g:=qfd (e:=es) (by omega) (show qbj G s said h es from i);rw[o] at g;rw[q,l,List.length_cons];simp only[show qay 0=false from rfl,show qbu 0=false from rfl,show qay 1=true from rfl,show qbu 1=false from rfl,if_true,Bool.false_eq_true,if_false] at g ⊢;omega
  ·have g:=qfd (e:=es) (by omega) (show qbj G s said h es from i);rw[o] at g;rw[q,l,List.length_cons];simp only[show qay 2=false from rfl,show qbu 2=true from rfl,show qay 3=true from rfl,show qbu 3=true from rfl,if_true,Bool.false_eq_true,if_false] at g ⊢;omega
 | .rev::es,h,said,t,i=>by
  have l:(ups (.rev::es)).length=(ups es).length:=rfl;rcases qg6 t with ⟨o,q⟩ | ⟨o,q⟩
  ·have g:=qfd (e:=es) (by omega) (show qbj G s said h es from i);rw[o] at g;rw[q,l,List.length_cons];simp only[show qay 0=false from rfl,show qbu 0=false from rfl,show qay 2=false from rfl,show qbu 2=true from rfl,if_true,Bool.false_eq_true,if_false] at g ⊢;omega
  ·have g:=qfd (e:=es) (by omega) (show qbj G s said h es from i);rw[o] at g;rw[q,l,List.length_cons];simp only[show qay 1=true from rfl,show qbu 1=false from rfl,show qay 4=true from rfl,show qbu 4=true from rfl,if_true,Bool.false_eq_true,if_false] at g ⊢;omega
theorem qy5{P:Pt}(o:K.Ok)(h:Inv K n P):∀m∈P.inn,Said K.ch m:=by
 obtain⟨s,c,d,eo,ei,G,la,nu,lb,nv⟩:=P;obtain⟨ea,eb,ab,ba,it,ok,pw,few⟩:=h;simp only at ea eb ab ba it ok pw few;intro m H;obtain⟨x,E,rfl⟩:=List.mem_map.1 (show m∈ei.map (enM (!s) d G) from H);have i:d.s.ch=K.ch:=by rw[eb.set,o.ch]
 cases x with
 | sgn=>exact qz8 o.chb i eb.nums.2.1
 | shut =>
  show Said K.ch (qdl d.s.ch);rw[i];exact qux o.chb
 | rev =>
  have t:=qnr ei ba.w9 E;have F:qay (qj eo)=false:=by
   cases e:qay (qj eo) with
   | false=>rfl
   | true=>rw[ab.xor e] at t;cases t
  have C:=ab.sig;have q:=ab.aw;rw[F] at C q;rw[t] at q;have J:=ea.nums.2.2 q;have L:=ea.nums.2.1;simp only[Bool.false_eq_true,if_false] at C;exact(qst o.chb i ⟨by omega,by omega⟩ (by rw[eb.set];exact o.seed _)).2
 | upd j =>
  obtain⟨g,D,z⟩:=(ba.upd.iff j).1 (qlw ei E);have l:=List.mem_of_getElem? D;rw[qju D,i];unfold qp8;by_cases v:g.own = !s
  ·rw[if_pos v];exact qz6 o.chb (ok g l)
  ·rw[if_neg v];have w:g.own=s:=(qy g.own s).resolve_right v;have I:g.up=2:=by
    unfold Gi.pend at z;rw[w,Bool.not_not] at z;simpa using z
   exact qz7 o.chb (ok g l) ((ok g l).um ((qj3 _ (it g l)).2.2 I))
theorem qzt{P:Pt}(g:K.Ok)(h:Inv K n P):∀m∈P.out,Said K.ch m:=by
 have e:P.flip.inn=P.out:=by
  show msE (!(!P.s)) P.c P.G P.eo=msE P.s P.c P.G P.eo;rw[Bool.not_not]
 have:=qy5 g h.flip;rwa [e] at this
theorem zbm{P:Pt}(h:Inv K n P):P.out.length≤n+3:=by
 have g:=qfd h.ab.w9 h.ab.shut;have i:=h.ab.upd.len;have l:=h.few;unfold Pt.out msE;rw[List.length_map]
 repeat' split at g
 all_goals omega
theorem zal{P:Pt}(h:Inv K n P):P.inn.length≤n+3:=by
 have g:=qfd h.ba.w9 h.ba.shut;have i:=h.ba.upd.len;have l:=h.few;unfold Pt.inn msE;rw[List.length_map]
 repeat' split at g
 all_goals omega
theorem qla{K:Kon}{g:Pt}{w:List MsgV}{m:MsgV}(i:K.Ok)(h:Inv K n g)(e:g.out=w++[m]):Said K.ch m :=
 qzt i h m (by rw[e];exact List.mem_append_right _ (List.mem_singleton.2 rfl))
end
theorem za0(xs:List Live):xs.length=qdg true xs+qdg false xs:=by
 unfold qdg
 induction xs with
 | nil=>rfl
 | cons x xs i =>
  rw[List.length_cons,List.filter_cons,List.filter_cons];cases g:x.own
  ·rw[if_neg (by decide),if_pos (by decide),List.length_cons];omega
  ·rw[if_pos (by decide),if_neg (by decide),List.length_cons];omega
theorem qr7{K:Kon}{n:Nat}{P:Pt}(h:Inv K n P):P.c.xs.length≤16:=by
 have o:=qr8 h.ea.perm;have q:=h.ea.many;have t:=h.eb.many;have v:=za0 P.c.xs;have w:cnt (qhw P.s) P.G≤cnt (qbo (!P.s)) P.G:=qmj fun g l i=>by
  unfold qhw at i;simp only[Bool.and_eq_true,beq_iff_eq,decide_eq_true_eq] at i;have:=qpp _ (h.it g l) i.2.1 i.2.2;unfold qbo;simp only[Bool.and_eq_true,beq_iff_eq,decide_eq_true_eq];exact⟨i.1,this⟩
 omega
def qcj(K:Kon)(n:Nat)(s:Bool)(a b:Ch)(wa wb:List MsgV):Prop:=∃Q:Pt,Inv K n Q∧Q.s=s∧Q.c=a∧Q.d=b∧Q.out=wb∧Q.inn=wa
structure EndOk(K:Kon)(n:Nat)(s:Bool)(c:Ch):Prop where
 set:c.s=K.S s
 news:c.news.length≤n
 xs:c.xs.length≤n
 last:c.last.length≤n
 inv:c.Inv
 total:c.total=K.cap
section
variable {K:Kon}{n m:Nat}{s:Bool}{a b:Ch}{wa wb:List MsgV}
theorem qcj.mono(h:qcj K n s a b wa wb)(g:n≤m):qcj K m s a b wa wb:=by
 obtain⟨Q,h,e⟩:=h;exact⟨Q,h.mono g,e⟩
theorem qcj.flip(h:qcj K n s a b wa wb):qcj K n (!s) b a wb wa:=by
 obtain⟨Q,h,rfl,rfl,rfl,rfl,rfl⟩:=h;refine⟨Q.flip,h.flip,rfl,rfl,rfl,rfl,?_⟩;show msE (!(!Q.s)) Q.c Q.G Q.eo=msE Q.s Q.c Q.G Q.eo;rw[Bool.not_not]
theorem qcj.of{Q g:Pt}{c':Ch}{i wi:List MsgV}(h:Goes K n Q c' i wi g):qcj K n Q.s c' Q.d wi i:=⟨g,h.inv,h.s,h.c,h.d,h.out,h.inn⟩
theorem qcj.said(g:K.Ok)(h:qcj K n s a b wa wb):(∀m∈wa,Said K.ch m)∧(∀m∈wb,Said K.ch m):=by
 obtain⟨Q,h,rfl,rfl,rfl,rfl,rfl⟩:=h;exact⟨qy5 g h,qzt g h⟩
theorem qcj.long(h:qcj K n s a b wa wb):wa.length≤n+3∧wb.length≤n+3:=by
 obtain⟨Q,h,rfl,rfl,rfl,rfl,rfl⟩:=h;exact⟨zal h,zbm h⟩
theorem qcj.endA(g:K.Ok)(C:n<1000000)(h:qcj K n s a b wa wb):EndOk K n s a:=by
 obtain⟨Q,h,rfl,rfl,rfl,rfl,rfl⟩:=h;have D:=qkq h.ok;have q:Q.c.xs.length≤n:=by
  rw[h.ea.perm.length_eq];exact Nat.le_trans (List.length_filterMap_le _ _) h.few
 have t:=g.ours Q.s;have v:=g.ours (!Q.s);have i:=g.sum Q.s;have w:=g.cap;have l:=h.ba.sig;have z:=h.eb.nums.2.1;refine⟨h.ea.set,?_,q,h.ab.last,⟨fun p o=>(h.ea.shelf p o).1,?_,?_,?_,qr7 h⟩,?_⟩
 ·rw[h.ea.news];unfold msU;rw[List.length_map];exact Nat.le_trans h.ea.nuS.len h.few
 ·have:=g.keyb (!Q.s);rw[g.key,Bool.not_not] at this;rw[h.ea.set];omega
 ·rw[h.ea.set,g.ch];exact g.chb
 ·split at l<;>omega
 ·rw[q3m (qm Q.s) Q.G h.ea.perm h.ea.loc h.ea.rem (qe8 h.it Q.s) ⟨by omega,by omega⟩,i]
theorem qcj.endB(g:K.Ok)(i:n<1000000)(h:qcj K n s a b wa wb):EndOk K n (!s) b:=h.flip.endA g i
theorem qcj.new(g:K.Ok)(s:Bool):qcj K 0 s (Ch.new (K.S s)) (Ch.new (K.S (!s))) [] []:=⟨_,zd2 g s,rfl,rfl,rfl,rfl,rfl⟩
theorem qcj.offer(l:K.Ok)(h:qcj K n s a b wa wb)(t:n<1000000000){N ex:Int}{hv:Vector Int 32}(o:0≤N)(q:qal hv.toList):qcj K (n+1) s (a.offer N hv ex).1 b wa (qd5 wb (a.offer N hv ex).2.1 (a.offer N hv ex).2.2)∧MsgOk (a.offer N hv ex).2.1:=by
 by_cases i:qa8 a N ex=0
 ·obtain⟨Q,h,rfl,rfl,rfl,rfl,rfl⟩:=h;obtain⟨v,g⟩:=q2q l h t o q i;have e:(Q.c.offer N hv ex).2.2=0:=by unfold Ch.offer;rw[if_pos i]
  unfold qd5;rw[if_pos e];exact⟨.of g,(qla l g.inv g.out).ok⟩
 ·have e:a.offer N hv ex=(a,MsgV.zero,qa8 a N ex):=by unfold Ch.offer;rw[if_neg i]
  rw[e];unfold qd5;rw[if_neg i];exact⟨h.mono (Nat.le_succ n),qgv⟩
theorem qcj.sign(l:K.Ok)(h:qcj K n s a b wa wb):qcj K (n+1) s a.sign.1 b wa (qd5 wb a.sign.2.1 a.sign.2.2)∧MsgOk a.sign.2.1:=by
 by_cases i:qa3 a=0
 ·obtain⟨Q,h,rfl,rfl,rfl,rfl,rfl⟩:=h;obtain⟨o,g⟩:=q7y l h i;have e:Q.c.sign.2.2=0:=by unfold Ch.sign;rw[if_pos i]
  unfold qd5;rw[if_pos e];exact⟨.of g,(qla l g.inv g.out).ok⟩
 ·have e:=qlj rfl i;rw[e];unfold qd5;rw[if_neg i];exact⟨h.mono (Nat.le_succ n),qgv⟩
theorem qcj.shut(l:K.Ok)(h:qcj K n s a b wa wb):qcj K (n+1) s a.shut.1 b wa (qd5 wb a.shut.2.1 a.shut.2.2)∧MsgOk a.shut.2.1:=by
 cases i:a.k.shutSaid with
 | false =>
  obtain⟨Q,h,rfl,rfl,rfl,rfl,rfl⟩:=h;obtain⟨o,g⟩:=q7w h i;have e:Q.c.shut.2.2=0:=by unfold Ch.shut;rw[i];rfl
  unfold qd5;rw[if_pos e];exact⟨(qcj.of g).mono (Nat.le_succ n),(qla l g.inv g.out).ok⟩
 | true =>
  have e:a.shut=(a,MsgV.zero,4):=by unfold Ch.shut;rw[i];rfl
  rw[e];exact⟨h.mono (Nat.le_succ n),qgv⟩
theorem qcj.fail(q:K.Ok)(h:qcj K n s a b wa wb)(id r:Int):qcj K (n+1) s (a.fail id r).1 b wa (qd5 wb (a.fail id r).2.1 (a.fail id r).2.2)∧MsgOk (a.fail id r).2.1:=by
 cases l:qbf false id a.xs with
 | none =>
  rw[qt2 l];exact⟨h.mono (Nat.le_succ n),qgv⟩
 | some p =>
  obtain⟨i,x⟩:=p;by_cases t:r<0∨65535<r
  ·rw[qyn l t];exact⟨h.mono (Nat.le_succ n),qgv⟩
  ·have e:a.fail id r=((a.removed i x false).say (qe2 id r),(qe2 id r).on a.s.ch,0):=by unfold Ch.fail;rw[l];simp only;rw[if_neg t]
   obtain⟨Q,h,rfl,rfl,rfl,rfl,rfl⟩:=h;have o:=(qga l);obtain⟨C,g⟩:=qpq q h l (paid:=false) (m:=qe2 id r) (by
    intro g v w z;exact .inr ⟨r,by rw[z,v,o.2.2.1],by omega,by omega,w⟩)
   rw[e];exact⟨(qcj.of g).mono (Nat.le_succ n),(qla q g.inv g.out).ok⟩
theorem qcj.fulfill(w:K.Ok)(h:qcj K n s a b wa wb)(id:Int)(p:List Int)(C:p.length=32)(D:qal p):qcj K (n+1) s (a.fulfill id p).1 b wa (qd5 wb (a.fulfill id p).2.1 (a.fulfill id p).2.2)∧MsgOk (a.fulfill id p).2.1:=by
 cases l:qbf false id a.xs with
 | none =>
  rw[qys l];exact⟨h.mono (Nat.le_succ n),qgv⟩
 | some q =>
  obtain⟨i,x⟩:=q;rw[qkz l];by_cases v:qby p x.h.hash.toList=true
  ·rw[if_pos v];obtain⟨Q,h,rfl,rfl,rfl,rfl,rfl⟩:=h;have o:=(qga l);obtain⟨F,g⟩:=qpq w h l (paid:=true) (m:=qgd id p) (by
    intro g z t E;exact .inl ⟨p,by rw[E,z,o.2.2.1],C,D,by rw[z];exact v,t⟩)
   exact⟨(qcj.of g).mono (Nat.le_succ n),(qla w g.inv g.out).ok⟩
  ·rw[if_neg v];exact⟨h.mono (Nat.le_succ n),qgv⟩
theorem qcj.hears{x:MsgV}(v:K.Ok)(w:n<1000000000)(h:qcj K n s a b (x::wa) wb):Said K.ch x∧(a.hears x).2.2=0∧qcj K n s (a.hears x).1 b wa (wb++(a.hears x).2.1)∧(∀l∈(a.hears x).2.1,MsgOk l)∧(a.hears x).2.1.length≤1:=by
 obtain⟨Q,h,rfl,rfl,rfl,rfl,e⟩:=h;cases o:Q.ei with
 | nil =>
  have:Q.inn=[]:=by unfold Pt.inn;rw[o];rfl
  rw[this] at e;cases e
 | cons y es =>
  have q:Q.inn=enM (!Q.s) Q.d Q.G y::msE (!Q.s) Q.d Q.G es:=by unfold Pt.inn;rw[o];rfl
  rw[q] at e;injection e with e1 e2;have i:=q6h v h w o;rw[e1,e2] at i;have t:Q.c.hears x=Q.c.hear x:=by
   unfold Ch.hears;rw[if_neg];have:=i.said.kind;omega
  rw[t];obtain⟨z,g⟩:=i.goes;exact⟨i.said,i.ok,.of g,i.says,i.few⟩
theorem qcj.cut(w:K.Ok)(z:n<1000000000)(h:qcj K n s a b wa wb):qcj K n s a.cut b.cut (b.cut.hearAgain a.cut.again).1 (a.cut.hearAgain b.cut.again).1∧(a.cut.hearAgain b.cut.again).2=0∧(b.cut.hearAgain a.cut.again).2=0:=by
 obtain⟨Q,h,rfl,rfl,rfl,rfl,rfl⟩:=h;obtain⟨g,i,l,o,q,t,v⟩:=q87 w h z;rw[t,v];exact⟨⟨g,q,i,l,o,rfl,rfl⟩,rfl,rfl⟩
end
end Go.Proofs.YthnohmjbbeahmaaGreatDoor
