/-
  The protocol, plain: a cut of both ends, and what they say again.
-/
import Derived.Test.YthnohmjbbeahmaaGreatDoorMdh
import Derived.Test.YthnohmjbbeahmaaGreatDoorMdc
set_option linter.unusedVariables false
set_option linter.unusedSimpArgs false
namespace Go.Proofs.YthnohmjbbeahmaaGreatDoor
open Go.RowKit
theorem qcz:∀ {x:Int},-1≤x∧x≤9→(-1≤zn x∧zn x≤9)∧decide (0≤zn x)=decide (1≤x)∧decide (1≤zn x)=decide (1≤x)∧zn x≠0∧zn x≠5∧(zn x==1)=(x==1)∧(zn x==6)=(x==6)∧(zn x==8)=(x==8)∧(zn x==3)=(x==3)∧(zn x≤8→x≤8) :=
 qnc (p:=fun x=>(-1≤zn x∧zn x≤9)∧decide (0≤zn x)=decide (1≤x)∧decide (1≤zn x)=decide (1≤x)∧zn x≠0∧zn x≠5∧(zn x==1)=(x==1)∧(zn x==6)=(x==6)∧(zn x==8)=(x==8)∧(zn x==3)=(x==3)∧(zn x≤8→x≤8)) (by decide +kernel)
theorem qte:∀x∈qa3,(decide (zn x.1=1∧zn x.2.1 = -1)=(x.1==1&&qay x.2.2.2.2.1))∧(decide (zn x.1=4∧zn x.2.1=6)=(x.2.1==6&&qay x.2.2.2.2.2)):=by decide +kernel
theorem qtd:∀x∈qa3,(qay x.2.2.2.2.1=false→decide (1≤x.2.1)=decide (1≤x.1))∧(x.1=1→x.2.1 = -1→x.2.2.1=1∧x.2.2.2.1=true):=by decide +kernel
def qcy(code:Bool→Nat)(g:Gi):Gi :=
 {g with so:=zn g.so,st:=zn g.st,up:=if zn g.so=1∧zn g.st = -1 then 1 else if zn g.so=4∧zn g.st=6 then 2 else 0,cov:=if zn g.so=1∧zn g.st = -1 then true else if zn g.so=4∧zn g.st=6 then true else false,pre:=if zn g.so=1∧zn g.st = -1 then decide (code g.own=3) else decide (code (!g.own)=3)}
def qi1(w:Nat)(la:List Nat)(said:Bool):List En :=
 (if w=2∨w=4 then [.rev] else [])++((if qay w=true then la.map En.upd++[.sgn] else [])++((if w=3 then [.rev] else [])++(if said=true then [.shut] else [])))
theorem qo7(l:List Nat)(e:List En):ql (l.map En.upd++e)=ql e:=by
 induction l with
 | nil=>rfl
 | cons j l i=>exact i
theorem qtv(l:List Nat)(e:List En):ups (l.map En.upd++e)=l++ups e:=by
 induction l with
 | nil=>rfl
 | cons j l i=>show j::ups (l.map En.upd++e)=_;rw[i];rfl
theorem qri{w:Nat}(h:w≤4):w=0∨w=1∨w=2∨w=3∨w=4:=by omega
theorem qw7(la:List Nat)(said:Bool):qi1 0 la said=if said=true then [.shut] else []:=rfl
theorem qw8(la:List Nat)(said:Bool):qi1 1 la said=la.map En.upd++(.sgn::if said=true then [.shut] else []):=by
 unfold qi1;rw[if_neg (by decide),if_pos (show qay 1=true from rfl),if_neg (by decide)];simp
theorem qw9(la:List Nat)(said:Bool):qi1 2 la said = .rev::if said=true then [.shut] else []:=rfl
theorem qxa(la:List Nat)(said:Bool):qi1 3 la said=la.map En.upd++(.sgn :: .rev::if said=true then [.shut] else []):=by
 unfold qi1;rw[if_neg (by decide),if_pos (show qay 3=true from rfl),if_pos rfl];simp
theorem qxb(la:List Nat)(said:Bool):qi1 4 la said = .rev::(la.map En.upd++(.sgn::if said=true then [.shut] else [])):=by
 unfold qi1;rw[if_pos (by decide),if_pos (show qay 4=true from rfl),if_neg (by decide)];simp
theorem q17{e:List En}(h:ql e=1):ql (.rev::e)=4:=by
 show (if ql e=0 then 2 else if ql e=1 then 4 else 9)=4;simp[h]
theorem qrj{w:Nat}(h:w≤4)(la:List Nat)(said:Bool):ql (qi1 w la said)=w∧ups (qi1 w la said)=if qay w=true then la else []:=by
 rcases qri h with rfl | rfl | rfl | rfl | rfl
 ·rw[qw7];cases said<;>exact⟨rfl,rfl⟩
 ·rw[qw8,qo7,qtv];cases said<;>exact⟨rfl,List.append_nil _⟩
 ·rw[qw9];cases said<;>exact⟨rfl,rfl⟩
 ·rw[qxa,qo7,qtv];cases said<;>exact⟨rfl,List.append_nil _⟩
 ·rw[qxb];refine⟨q17 ?_,?_⟩
  ·rw[qo7];cases said<;>rfl
  ·show ups (la.map En.upd++(.sgn::if said=true then [.shut] else []))=la;rw[qtv];cases said<;>exact List.append_nil _
section
variable {K:Kon}{n:Nat}{s t:Bool}{c d:Ch}{eo ei es:List En}{G:List Gi}{la nu lb nv:List Nat}{g g':Gi}{j:Nat}{code:Bool→Nat}
theorem qj0{b1 b2:Bool}{e:List En}(m:qay (ql e)=b1∧qbw (ql e)=b2)(o:qbh G e):∀l:List Nat,(∀j∈l,∀g,G[j]? = some g→g.cov=b1∧g.pre=b2)→qbh G (l.map En.upd++e)
 | [],_=>o
 | j::l,h=>by
  refine⟨fun g q=> ?_,qj0 m o l fun i v=>h i (List.mem_cons_of_mem _ v)⟩;show g.cov=qay (ql (l.map En.upd++e))∧g.pre=qbw (ql (l.map En.upd++e));rw[qo7,m.1,m.2];exact h j (List.mem_cons_self ..) g q
theorem q6r{w:Nat}(h:w≤4)(said:Bool)(l:qay w=true→∀j∈la,∀g,G[j]? = some g→g.cov=true∧g.pre=decide (w=3)):qbh G (qi1 w la said):=by
 have i:qbh G (if said=true then [En.shut] else []):=by cases said<;>exact trivial
 rcases qri h with rfl | rfl | rfl | rfl | rfl
 ·rw[qw7];exact i
 ·rw[qw8];refine qj0 (b1:=true) (b2:=false) (e:= .sgn::if said=true then [.shut] else []) ?_ i la (l rfl);cases said<;>exact⟨rfl,rfl⟩
 ·rw[qw9];exact i
 ·rw[qxa];refine qj0 (b1:=true) (b2:=true) (e:= .sgn :: .rev::if said=true then [.shut] else []) ?_ i la (l rfl);cases said<;>exact⟨rfl,rfl⟩
 ·rw[qxb];show qbh G (la.map En.upd++(.sgn::if said=true then [.shut] else []));refine qj0 (b1:=true) (b2:=false) (e:= .sgn::if said=true then [.shut] else []) ?_ i la (l rfl);cases said<;>exact⟨rfl,rfl⟩
theorem qmv{said:Bool}{e:List En}(i:qbl G s said false e):∀l:List Nat,qbl G s said false (l.map En.upd++e)
 | []=>i
 | _::l=>⟨fun e=>(by cases e),qmv i l⟩
theorem zdy{w:Nat}(h:w≤4)(said:Bool):qbl G s said false (qi1 w la said):=by
 have i:qbl G s said false (if said=true then [En.shut] else []):=by
  cases said
  ·exact rfl
  ·exact⟨rfl,rfl⟩
 rcases qri h with rfl | rfl | rfl | rfl | rfl
 ·rw[qw7];exact i
 ·rw[qw8];exact qmv (show qbl G s said false (.sgn::_) from i) la
 ·rw[qw9];exact i
 ·rw[qxa];exact qmv (show qbl G s said false (.sgn :: .rev::_) from i) la
 ·rw[qxb];exact show qbl G s said false (la.map En.upd++_) from qmv (show qbl G s said false (.sgn::_) from i) la
def qsq(s:Bool)(g:Gi):Bool:=g.own==s&&g.so==0
def qh2(s:Bool)(g:Gi):Bool:=g.own==s&&g.st==0
theorem qo2{f:Gi→Option Live}{F:Live→Int}{H:Gi→Int} : ∀ {G:List Gi},(∀g∈G,(f g=none→H g=0)∧∀x,f g=some x→H g=F x)→((G.filterMap f).map F).sum=(G.map H).sum
 | [],_=>rfl
 | g::G,h=>by
  have o:=qo2 (G:=G) fun y m=>h y (List.mem_cons_of_mem _ m)
  obtain⟨i,l⟩:=h g (List.mem_cons_self ..);rw[List.map_cons,List.sum_cons,←o];cases e:f g with
  | none=>rw[List.filterMap_cons_none e,i e];omega
  | some x=>rw[List.filterMap_cons_some e,List.map_cons,List.sum_cons,l x e]
theorem q30(s b:Bool)(g:Gi):((qo s).show g=none→(if b then qsq s g else qh2 (!s) g)=false)∧∀x,(qo s).show g=some x→(if b then qsq s g else qh2 (!s) g)=decide (x.state=0∧x.own=b)∧x.h=g.h:=by
 have e:(qo s).show g=qa9 (g.own==s) g.h (if g.own=s then g.so else g.st) g.paid:=rfl;have key:(if b then qsq s g else qh2 (!s) g)=decide ((if g.own=s then g.so else g.st)=0∧(g.own==s)=b):=by
  unfold qsq qh2;rcases za g.own s with h | h
  ·rw[if_pos h,h];cases b<;>simp<;>rfl
  ·rw[if_neg (qb3 h),h];cases b<;>simp<;>rfl
 rw[e,key];generalize (if g.own=s then g.so else g.st)=z;unfold qa9;by_cases l:0≤z∧z≤8
 ·rw[if_pos l];refine⟨fun e=>(by cases e),fun x i=> ?_⟩;injection i with i;subst i;exact⟨rfl,rfl⟩
 ·rw[if_neg l];refine⟨fun _=>decide_eq_false (fun e=>l (by omega)),fun x i=>(by cases i)⟩
theorem zf7{xs:List Live}(m:xs.Perm (G.filterMap (qo s).show)):qdj true xs=cnt (qsq s) G∧qdj false xs=cnt (qh2 (!s)) G:=by
 rw[qon true m,qon false m];constructor
 ·refine qo2 fun g _=> ?_
  obtain⟨i,l⟩:=q30 s true g;simp only[if_true] at i l;refine⟨fun e=>by rw[i e];rfl,fun x e=> ?_⟩;rw[(l x e).1];simp
 ·refine qo2 fun g _=> ?_
  obtain⟨i,l⟩:=q30 s false g;simp only[Bool.false_eq_true,if_false] at i l;refine⟨fun e=>by rw[i e];rfl,fun x e=> ?_⟩;rw[(l x e).1];simp
theorem zf6(G:List Gi)(s:Bool):qc7 false (G.filterMap (qo s).show)=amt (qh2 (!s)) G:=by
 refine qo2 fun g _=> ?_
 obtain⟨l,i⟩:=q30 s false g;simp only[Bool.false_eq_true,if_false] at l i;refine⟨fun e=>by rw[l e];rfl,fun x e=> ?_⟩;rw[(i x e).1,(i x e).2];simp
theorem q5c(G:List Gi):cnt (oGe s 0) G=cnt (oGe s 1) G+cnt (qsq s) G∧cnt (pGe s 0) G=cnt (pGe s 1) G+cnt (qh2 s) G:=by
 unfold cnt;rw[qiu,qiu];refine⟨qei fun g _=> ?_,qei fun g _=> ?_⟩
 ·unfold oGe qsq;cases h:(g.own==s)
  ·simp
  ·simp only[Bool.true_and,decide_eq_true_eq,beq_iff_eq]
   repeat' split
   all_goals omega
 ·unfold pGe qh2;cases h:(g.own==s)
  ·simp
  ·simp only[Bool.true_and,decide_eq_true_eq,beq_iff_eq]
   repeat' split
   all_goals omega
theorem qvs(i:c.xs.Perm (G.filterMap (qo s).show))(l:∀g∈G,0≤g.h.amount)(b:Bool):0≤qc7 b (G.filterMap (qo s).show) :=
 qi5 b _ fun y m=>qfl (qo s) l i y (i.symm.subset m)
theorem qli(c:Ch):c.cut.s=c.s∧c.cut.shelf=c.shelf∧c.cut.news=[]∧c.cut.last=c.last∧c.cut.k.signed=c.k.signed∧c.cut.k.heard=c.k.heard∧c.cut.k.awaits=c.k.awaits∧c.cut.k.shutSaid=c.k.shutSaid∧c.cut.k.shutHeard=false∧c.cut.k.revoked=c.k.revoked:=by
 obtain⟨l,m,-,o,q,v,w,x,-,i⟩:=qt8 c.xs c;exact⟨l,m,rfl,o,q,v,w,x,rfl,i⟩
theorem zfb(c:Ch):c.cut.sgnOf=c.sgnOf:=qjq (qli c).1 (qli c).2.2.2.2.1 (q16 _ _ _ _ c)
theorem qrx(G:List Gi)(k:Nat):((G.map (qcy code))[k]?).map Gi.key=(G[k]?).map Gi.key:=qoa (f:=qcy code) (fun g=>rfl) G k
theorem qhx(it:∀g∈G,g.it s (ql eo) (ql ei)∈qa3)(t:Bool):cnt (oGe t 0) (G.map (qcy code))=cnt (oGe t 1) G∧cnt (oGe t 1) (G.map (qcy code))=cnt (oGe t 1) G∧cnt (pGe t 0) (G.map (qcy code))=cnt (pGe t 1) G∧cnt (pGe t 1) (G.map (qcy code))=cnt (pGe t 1) G:=by
 have l:=qge it;refine⟨?_,?_,?_,?_⟩
 ·rw[qgj];refine qe0 fun g i=> ?_
  show (g.own==t&&decide (0≤zn g.so))=(g.own==t&&decide (1≤g.so));rw[(qcz (l g i).1).2.1]
 ·rw[qgj];refine qe0 fun g i=> ?_
  show (g.own==t&&decide (1≤zn g.so))=(g.own==t&&decide (1≤g.so));rw[(qcz (l g i).1).2.2.1]
 ·rw[qgj];refine qe0 fun g i=> ?_
  show (g.own==t&&decide (0≤zn g.st))=(g.own==t&&decide (1≤g.st));rw[(qcz (l g i).2.1).2.1]
 ·rw[qgj];refine qe0 fun g i=> ?_
  show (g.own==t&&decide (1≤zn g.st))=(g.own==t&&decide (1≤g.st));rw[(qcz (l g i).2.1).2.2.1]
theorem EndI.cut(I:K.Ok)(h:EndI K t c G nu)(it:∀g∈G,g.it s (ql eo) (ql ei)∈qa3)(w:∀g∈G,0≤g.h.amount)(few:G.length≤1000000000):EndI K t c.cut (G.map (qcy code)) []∧c.rem≤c.cut.rem∧c.cut.rem=c.rem+qc7 false (G.filterMap (qo t).show):=by
 have q:=qge it;have J:=I.cap;have M:=I.sum t;have T:=qzi (qo t) G;have U:=qzj (qo t) G;have n1:=qvs h.perm w true;have n2:=qvs h.perm w false;have m:=qj9 (qo t) (qo t).cut G (L:=(K.S t).ours) (R:=(K.S (!t)).ours) (fun g i=>by
  have:=qe7 it t g i;exact(qcz this).1) w (by omega) (by omega) (by rw[←h.loc];exact h.pos.1) (by rw[←h.rem];exact h.pos.2)
 obtain⟨o1,o2⟩:=zf7 h.perm;obtain⟨q1,-⟩:=q5c (s:=t) G;obtain⟨-,q2⟩:=q5c (s:= !t) G;have l1:=qq4 (oGe t 0) G;have l2:=qq4 (pGe (!t) 0) G;have z1:=qj8 (oGe t 1) G;have z2:=qj8 (pGe (!t) 1) G;have z:=h.nOwn;have C:=h.nTh;obtain⟨N,E,x,O,P⟩:=za0 (qo t) G h.perm h.loc h.rem (qfl (qo t) w h.perm) h.pos.1 h.pos.2 (by omega) (by omega) ⟨by omega,by omega⟩ ⟨by omega,by omega⟩;obtain⟨X,Z,k3,k4,k5,k6,k7,k8,k9,Y⟩:=qli c;obtain⟨m1,m2,m3⟩:=ql4 (qcy code) (qo t) (qo t).cut (G:=G) fun g _=>⟨rfl,by
  show (if g.own=t then zn g.so else zn g.st)=zn (if g.own=t then g.so else g.st);split<;>rfl,rfl,rfl⟩
 obtain⟨V,F,-,-⟩:=qhx (code:=code) it t;obtain⟨-,-,W,-⟩:=qhx (code:=code) it (!t);have o:c.cut.k.nextOwn=cnt (oGe t 1) G:=by rw[O,o1,z];omega
 have v:c.cut.rem=c.rem+qc7 false (G.filterMap (qo t).show):=by rw[x,h.rem];omega
 refine⟨⟨X.trans h.set,by rw[m1];exact N,by rw[m2];exact E,by rw[m3];exact x,⟨by rw[E];exact m.1.1,by rw[x];exact m.2.1⟩,by rw[o,V],?_,?_,Idx.none ?_,?_,k3,?_,by rw[Z];exact h.shelf,?_⟩,by omega,v⟩
 ·rw[P,o2,C,W];omega
 ·rw[F];intro y D y1 y2;obtain⟨g,i,rfl⟩:=List.mem_map.1 D;refine h.low g i y1 ?_;have H:=(qcz (q g i).1).2.2.1;rw[decide_eq_true (show 1≤zn g.so from y2)] at H;simpa using H.symm
 ·intro y D;obtain⟨g,i,rfl⟩:=List.mem_map.1 D;have a1:=(qcz (q g i).1).2.2.2.1;have a2:=(qcz (q g i).2.1).2.2.2.2.1;show ((g.own==t&&zn g.so==0) || (g.own == !t&&zn g.st==5))=false;simp[a1,a2]
 ·show cnt (oGe t 1) (G.map (qcy code))=c.cut.k.nextOwn;rw[F,o]
 ·rw[qgj];refine Int.le_trans (qm8 fun g i l=> ?_) h.many;have l:(g.own==t&&(decide (0≤zn g.so)&&decide (zn g.so≤8)))=true:=l;rw[(qcz (q g i).1).2.1] at l;unfold qbq;simp at l ⊢;exact⟨l.1,by omega,(qcz (q g i).1).2.2.2.2.2.2.2.2.2 l.2.2⟩
 ·rw[k5,k6,k7];exact h.nums
theorem qy4{e:List En}(h:qbh G e)(o:ql e=3∨ql e=2∨ql e=0)(m:j∈ups e)(y:G[j]? = some g)(v:g.cov=true):g.pre=true:=by
 induction e with
 | nil=>cases m
 | cons x e w =>
  cases x with
  | upd i =>
   have q:ql e=3∨ql e=2∨ql e=0:=o;rcases List.mem_cons.1 m with l | m
   ·subst l;obtain⟨a1,a2⟩:=h.1 g y;rw[a2];rw[a1] at v;clear h o;rcases q with l | l | l<;>rw[l] at v ⊢
    ·rfl
    ·cases v
    ·cases v
   ·exact w h.2 q m
  | shut=>exact w h o m
  | sgn =>
   refine w h ?_ m;rcases qhi (es:=e) (by rcases o with l | l | l<;>rw[l]<;>decide) with ⟨l,-⟩ | ⟨l,-⟩
   ·exact .inr (.inr l)
   ·exact .inr (.inl l)
  | rev =>
   refine w h ?_ m;rcases qhh (es:=e) (by rcases o with l | l | l<;>rw[l]<;>decide) with ⟨l,-⟩ | ⟨l,e2⟩
   ·exact .inr (.inr l)
   ·rw[e2] at o;omega
theorem qta(it:∀g∈G,g.it s (ql eo) (ql ei)∈qa3)(o:g∈G):Gi.pend s (qcy code g)=(Gi.covd s g&&qay (ql eo)):=by
 have h:=qte _ (it g o);rcases za g.own s with e | e
 ·rw[qdp e] at h;have m:decide (zn g.so=1∧zn g.st = -1)=(g.so==1&&qay (ql eo)):=h.1;rw[qjo (show (qcy code g).own=s from e)];have:((qcy code g).up==1)=decide (zn g.so=1∧zn g.st = -1):=by
   unfold qcy;by_cases l:zn g.so=1∧zn g.st = -1
   ·simp[l]
   ·rw[decide_eq_false l];simp only[if_neg l];split<;>rfl
  rw[this,m];unfold Gi.covd;rw[e];simp
 ·rw[qdv e] at h;have m:decide (zn g.so=4∧zn g.st=6)=(g.st==6&&qay (ql eo)):=h.2;rw[qoq (show (qcy code g).own = !s from e)];have:((qcy code g).up==2)=decide (zn g.so=4∧zn g.st=6):=by
   unfold qcy;by_cases l:zn g.so=1∧zn g.st = -1
   ·have q:¬(zn g.so=4∧zn g.st=6):=fun e=>by omega
    rw[decide_eq_false q];simp only[if_pos l];rfl
   ·simp only[if_neg l];by_cases i:zn g.so=4∧zn g.st=6
    ·simp[i]
    ·rw[decide_eq_false i];simp only[if_neg i];rfl
  rw[this,m];unfold Gi.covd;rw[e];simp
theorem Dir.cut(h:Dir n s c d eo ei G la)(it:∀g∈G,g.it s (ql eo) (ql ei)∈qa3)(nn:∀g∈G,0≤g.h.amount)(o:code s=ql eo)(Z:ql ei≠9)
  (ec:c.cut.k.nextOwn=cnt (oGe s 1) G) (ed:d.cut.k.nextTheirs=cnt (pGe s 1) G) (hd:d.cut.rem=d.rem+qc7 false (G.filterMap (qo (!s)).show)) (a6:0≤d.cut.rem) (a7:0≤d.rem) :
  Dir n s c.cut d.cut (qi1 (ql eo) la c.k.shutSaid) (qi1 (ql ei) lb d.k.shutSaid) (G.map (qcy code)) la:=by
 have H:=qge it
 have w4:=qg5 eo h.w9
 obtain⟨w1,w2⟩:=qrj w4 la c.k.shutSaid
 obtain⟨v1,-⟩:=qrj (qg5 ei Z) lb d.k.shutSaid
 obtain⟨k1,k2,k3,k4,k5,k6,k7,k8,k9,P⟩:=qli c
 obtain⟨j1,j2,j3,j4,j5,j6,j7,j8,j9,a8⟩:=qli d
 obtain⟨e1,e2,e3,e4⟩:=qhx (code:=code) it s
 have z:∀g∈G,Gi.covd s (qcy code g)=Gi.covd s g:=fun g i=>by
  show ((g.own==s&&zn g.so==1) || (g.own == !s&&zn g.st==6))=_;rw[(qcz (H g i).1).2.2.2.2.2.1,(qcz (H g i).2.1).2.2.2.2.2.2.1];rfl
 have v:∀g∈G,Gi.moved s (qcy code g)=Gi.moved s g:=fun g i=>by
  show ((g.own==s&&(zn g.so==1 || zn g.so==8)) || (g.own == !s&&(zn g.st==3 || zn g.st==6)))=_;rw[(qcz (H g i).1).2.2.2.2.2.1,(qcz (H g i).1).2.2.2.2.2.2.2.1,(qcz (H g i).2.1).2.2.2.2.2.2.1,(qcz (H g i).2.1).2.2.2.2.2.2.2.2.1];rfl
 have w:Idx (G.map (qcy code)) (Gi.pend s) (if qay (ql eo)=true then la else []):=by
  cases D:qay (ql eo) with
  | true =>
   rw[if_pos rfl];exact(h.laS D).1.map _ fun g i=>by rw[qta it i,D,Bool.and_true]
  | false =>
   rw[if_neg (by decide)];refine Idx.none fun y E=> ?_
   obtain⟨g,i,rfl⟩:=List.mem_map.1 E;rw[qta it i,D,Bool.and_false]
 have L:qay (ql eo)=true→∀j∈la,∀y,(G.map (qcy code))[j]? = some y→y.cov=true∧y.pre=decide (ql eo=3):=by
  intro D j R y E;rw[if_pos D] at w;have m:=w.yes R E;rw[List.getElem?_map] at E;cases i:G[j]? with
  | none=>rw[i] at E;cases E
  | some g =>
   rw[i] at E;injection E with E;subst E;rcases za g.own s with e | e
   ·rw[qjo (show (qcy code g).own=s from e)] at m;have q:zn g.so=1∧zn g.st = -1:=by
     unfold qcy at m;by_cases q:zn g.so=1∧zn g.st = -1
     ·exact q
     ·simp only[if_neg q] at m;split at m<;>cases m
    unfold qcy;simp only[if_pos q,e,o];exact⟨trivial,trivial⟩
   ·rw[qoq (show (qcy code g).own = !s from e)] at m;have q:¬(zn g.so=1∧zn g.st = -1)∧(zn g.so=4∧zn g.st=6):=by
     unfold qcy at m;by_cases q:zn g.so=1∧zn g.st = -1
     ·simp only[if_pos q] at m;cases m
     ·refine⟨q,?_⟩;simp only[if_neg q] at m;by_cases J:zn g.so=4∧zn g.st=6
      ·exact J
      ·simp only[if_neg J] at m;cases m
    unfold qcy;simp only[if_neg q.1,if_pos q.2,e,Bool.not_not,o];exact⟨trivial,trivial⟩
 refine⟨by rw[w1];exact h.w9,by rw[w1,v1];exact h.xor,by rw[w1,k5,j6];exact h.sig,by rw[w1,v1,k7];exact h.aw,by rw[w1,P];exact h.rv3,by rw[w1,P];exact h.rv4,by rw[w2];exact w,q6r w4 _ L,?_,?_,by rw[k4];exact h.last,?_,?_,?_⟩
 ·rw[w2,ec,ed];cases D:qay (ql eo) with
  | true =>
   rw[if_pos rfl];exact(h.laS D).2.1.congr fun k _=>qrx G k
  | false =>
   rw[if_neg (by decide)];show cnt (pGe s 1) G=cnt (oGe s 1) G;refine qe0 fun g i=> ?_
   unfold pGe oGe;rcases za g.own s with e | e
   ·have N:=(qtd _ (it g i)).1;rw[qdp e] at N;rw[show decide (1≤g.st)=decide (1≤g.so) from N D]
   ·rw[e];simp
 ·rw[w1];intro D;obtain⟨i1,i2,i3⟩:=h.laS D;refine⟨i1.map _ z,?_,?_⟩
  ·rw[e2,e4];exact i2.congr fun k _=>qrx G k
  ·rw[k4,i3,zfb];congr 1;exact(qb8 k1 fun k _=>qrx G k).symm
 ·rw[k8,j9];exact zdy w4 _
 ·rw[w1];intro hR;by_cases U:ql eo=3
  ·have hm:=h.m1 hR;have key:amt (qao s) (G.map (qcy code))≤amt (qao s) G+qc7 false (G.filterMap (qo (!s)).show):=by
    rw[zf6,Bool.not_not,qn0];unfold amt;rw[qiu];refine qib fun g i=> ?_
    have M:=nn g i;have a4:0≤if qh2 s g=true then g.h.amount else 0:=by
     split
     ·exact M
     ·exact Int.le_refl _
    have a5:0≤if qao s g=true then g.h.amount else 0:=by
     split
     ·exact M
     ·exact Int.le_refl _
    show (if qao s (qcy code g)=true then g.h.amount else 0)≤_;by_cases I:qao s (qcy code g)=true
    ·rw[if_pos I];have l:(g.own==s&&((qcy code g).up==1&&(qcy code g).pre))=true:=I;have F:g.own=s:=by
      rcases za g.own s with e | e
      ·exact e
      ·rw[e] at l;simp at l
     have Y:(qcy code g).up=1:=by
      simp at l;exact l.2.1
     have m:=qta (code:=code) it i;rw[qjo (show (qcy code g).own=s from F),Y] at m;have O:g.so=1:=by
      unfold Gi.covd at m;rw[F] at m;simp at m;exact m.1
     have V:qay (ql eo)=true:=by rw[U];rfl
     have C:g.st = -1∨g.st=0:=by
      have x:=(qte _ (it g i)).1;rw[qdp F] at x;have x:decide (zn g.so=1∧zn g.st = -1)=(g.so==1&&qay (ql eo)):=x;rw[O,V] at x;have x:zn g.st = -1:=by simp at x;exact x.2
      unfold zn at x;split at x
      ·cases x
      ·split at x
       ·rename_i h0;exact .inr h0
       ·exact .inl x
     rcases C with C | C
     ·have N:=(qtd _ (it g i)).2;rw[qdp F] at N;obtain⟨T,q2⟩:=N O C;have T:g.up=1:=T;have q2:g.cov=true:=q2;obtain⟨j,R⟩:=List.getElem?_of_mem i;have W:j∈ups eo:=(h.upd.iff j).2 ⟨g,R,by rw[qjo F,T];rfl⟩;have X:=qy4 h.along (.inl U) W R q2;have:qao s g=true:=by unfold qao;rw[F,T,X];simp
      rw[if_pos this];omega
     ·have:qh2 s g=true:=by unfold qh2;rw[F,C];simp
      rw[if_pos this];omega
    ·rw[if_neg I];omega
   rw[hd];omega
  ·have:amt (qao s) (G.map (qcy code))≤0:=by
    rw[qn0];have:=qib (f:=fun g=>if qao s (qcy code g)=true then (qcy code g).h.amount else 0) (f':=fun _:Gi=>(0:Int)) (G:=G) fun g i=>by
     show (if qao s (qcy code g)=true then (qcy code g).h.amount else 0)≤0;rw[if_neg]
     ·exact Int.le_refl _
     ·intro I;have l:(g.own==s&&((qcy code g).up==1&&(qcy code g).pre))=true:=I;have F:g.own=s:=by
       rcases za g.own s with e | e
       ·exact e
       ·rw[e] at l;simp at l
      simp at l;obtain⟨-,b1,b2⟩:=l;unfold qcy at b1 b2;by_cases q:zn g.so=1∧zn g.st = -1
      ·simp only[if_pos q,F,o,decide_eq_true_eq] at b2;exact U b2
      ·simp only[if_neg q] at b1;split at b1<;>cases b1
    have e0:(G.map fun _:Gi=>(0:Int)).sum=0:=by
     clear this;clear L w z v e1 e2 e3 e4 hd ec ed nn it H h
     induction G with
     | nil=>rfl
     | cons g G ih=>rw[List.map_cons,List.sum_cons,ih];rfl
    omega
   omega
 ·rw[w1];exact fun e=>qxg (fun g i hh=>(v g i).trans hh) (h.ex e)
end
theorem q8s(ch i:Int){n:Int}(l:0≤n∧n≤65535):qam ⟨9,ch,i,0,qaj,0,n⟩=true:=by
 unfold qam;show (if (0:Int)<0∨1073741824<(0:Int)∨n<0∨65535<n∨1125899906842624<(0:Int) then false else decide (qg1 _ _=qfi 9))=true;rw[if_neg (by omega)];kernel_rfl
section
variable {K:Kon}{n:Nat}{s t:Bool}{c d:Ch}{eo ei es:List En}{G:List Gi}{la nu lb nv:List Nat}{g g':Gi}{j:Nat}
theorem qs6(s:Bool)(c:Ch)(G:List Gi)(l:List Nat)(e:List En):msE s c G (l.map En.upd++e)=msU s c G l++msE s c G e:=by
 unfold msE msU;rw[List.map_append,List.map_map];rfl
theorem qvx{c':Ch}{G':List Gi}{w:Nat}(q:w≤4)(i:qay w=true→c'.last=msU s c' G' la++[c'.sgnOf])(m:w=3→c'.k.revoked=true)(o:w=4→c'.k.revoked=false):c'.resaid (qay w) (qbw w)=msE s c' G' (qi1 w la c'.k.shutSaid):=by
 have l:(if c'.k.shutSaid then [qb6 c'.s.ch] else [])=msE s c' G' (if c'.k.shutSaid=true then [.shut] else []):=by
  cases c'.k.shutSaid<;>rfl
 unfold Ch.resaid;rw[l];rcases qri q with rfl | rfl | rfl | rfl | rfl
 ·rw[qw7];rfl
 ·rw[qw8,qs6];show []++(c'.last++([]++msE s c' G' _))=_;rw[i rfl,List.nil_append,List.nil_append,List.append_assoc];rfl
 ·rw[qw9];show (if (true && !c'.k.revoked)=true then [c'.revocation] else [])++([]++((if (true&&c'.k.revoked)=true then [c'.revocation] else [])++msE s c' G' _))=c'.revocation::msE s c' G' _;cases c'.k.revoked<;>rfl
 ·rw[qxa,qs6];show (if (true && !c'.k.revoked)=true then [c'.revocation] else [])++(c'.last++((if (true&&c'.k.revoked)=true then [c'.revocation] else [])++msE s c' G' _))=_;rw[i rfl,m rfl,List.append_assoc];rfl
 ·rw[qxb];show (if (true && !c'.k.revoked)=true then [c'.revocation] else [])++(c'.last++((if (true&&c'.k.revoked)=true then [c'.revocation] else [])++msE s c' G' _))=c'.revocation::msE s c' G' (la.map En.upd++_);rw[i rfl,o rfl,qs6,List.append_assoc];rfl
theorem qy1{c' m:Ch}{o wi:Nat}(I:c'.s.ch=m.s.ch)(v:qay wi=true→qbw o=false)(sig:c'.k.signed=m.k.heard+if qay o=true then 1 else 0)(i:m.k.signed=c'.k.heard+if qay wi=true then 1 else 0)(aw:qay o=true→c'.k.awaits=true)(l:m.k.awaits=(qay wi || qbw o))(E:m.k.awaits=true→1≤m.k.signed)(J:0≤c'.k.heard∧c'.k.heard≤65535) :
  c'.hearAgain m.again=(c'.resaid (qay o) (qbw o),0):=by
 have z:m.again.id=c'.k.heard-if qbw o=true then 1 else 0:=by
  show IntKind.u64.wrap m.k.told=_;have:m.k.told=c'.k.heard-if qbw o=true then 1 else 0:=by
   unfold CountsV.told;cases w:qay wi with
   | true =>
    rw[w] at l i;rw[v w];rw[show m.k.awaits=true by rw[l];rfl];simp at i ⊢;omega
   | false =>
    rw[w] at l i;cases q:qbw o with
    | true =>
     rw[show m.k.awaits=true by rw[l,q];rfl];simp at i ⊢;omega
    | false =>
     rw[show m.k.awaits=false by rw[l,q];rfl];simp at i ⊢;omega
  rw[this];have F:0≤c'.k.heard-(if qbw o=true then 1 else 0):=by
   cases q:qbw o with
   | false=>simp;omega
   | true =>
    have x:qay wi=false:=by
     cases e:qay wi with
     | false=>rfl
     | true=>rw[v e] at q;cases q
    rw[x] at i l;have:=E (by rw[l,q];rfl);simp at i ⊢;omega
  refine qdq F ?_;split<;>omega
 have D:ql9 c' m.again=qbw o:=by
  unfold ql9;rw[z];cases q:qbw o with
  | false=>simp;omega
  | true =>
   have x:qay wi=false:=by
    cases e:qay wi with
    | false=>rfl
    | true=>rw[v e] at q;cases q
   rw[x] at i l;have:=E (by rw[l,q];rfl);simp at i ⊢;omega
 have C:qgy c' m.again=qay o:=by
  unfold qgy;show (c'.k.awaits&&decide (m.k.heard+1=c'.k.signed))=_;cases w:qay o with
  | true=>rw[w] at sig;rw[aw w];simp at sig ⊢;omega
  | false=>rw[w] at sig;simp at sig ⊢;intro _;omega
 have H:qe9 c' m.again=0:=by
  unfold qe9;rw[C,D];rw[if_neg,if_neg]
  ·rintro ⟨q,y⟩;apply y;rw[z,q];simp
  ·rintro ⟨w,y⟩;apply y;rw[w] at sig;show m.k.heard+1=c'.k.signed+1;simp at sig;omega
 unfold Ch.hearAgain
 rw[if_pos H,C,D]
theorem zax{P:Pt}(o:K.Ok)(h:Inv K n P)(hn:n<1000000000) :
  ∃m,m.s=P.s∧m.c=P.c.cut∧m.d=P.d.cut∧Inv K n m∧P.c.cut.hearAgain P.d.cut.again=(m.out,0)∧P.d.cut.hearAgain P.c.cut.again=(m.inn,0):=by
 obtain⟨s,c,d,eo,ei,G,la,nu,lb,nv⟩:=P
 obtain⟨ea,eb,ab,ba,it,ok,pw,few⟩:=h
 simp only at ea eb ab ba it ok pw few ⊢
 have I:=qla ok
 have R:=qge it
 let code:Bool→Nat:=fun t=>if t=s then ql eo else ql ei
 have N:code s=ql eo:=if_pos rfl
 have M:code (!s)=ql ei:=if_neg (by cases s<;>decide)
 have x:∀g∈G,g.it (!s) (ql ei) (ql eo)∈qa3:=fun g q=>by rw[q5t];exact it g q
 obtain⟨i,ra,a4⟩:=ea.cut (code:=code) o it I (by omega)
 obtain⟨l,rb,a5⟩:=eb.cut (code:=code) o x I (by omega)
 obtain⟨k1,k2,k3,k4,X,Y,Z,k8,k9,C⟩:=qli c
 obtain⟨j1,j2,j3,j4,U,V,W,j8,j9,z⟩:=qli d
 have w4:=qg5 eo ab.w9
 have v4:=qg5 ei ba.w9
 obtain⟨w1,-⟩:=qrj w4 la c.k.shutSaid
 obtain⟨v1,-⟩:=qrj v4 lb d.k.shutSaid
 have q1:=(qhx (code:=code) it s).1
 have q2:=(qhx (code:=code) it (!s)).1
 have q3:=(qhx (code:=code) it s).2.2.1
 have q4:=(qhx (code:=code) it (!s)).2.2.1
 have fa:=i.nOwn
 rw[q1] at fa
 have fb:=l.nOwn
 rw[q2] at fb
 have ga:=i.nTh
 rw[q4] at ga
 have gb:=l.nTh
 rw[Bool.not_not,q3] at gb
 have v:=ab.cut (code:=code) (lb:=lb) it I N ba.w9 fa gb a5 l.pos.2 eb.pos.2
 have w:=ba.cut (code:=code) (lb:=la) x I M ab.w9 fb ga (by rw[Bool.not_not];exact a4) i.pos.2 ea.pos.2
 refine⟨⟨s,c.cut,d.cut,qi1 (ql eo) la c.k.shutSaid,qi1 (ql ei) lb d.k.shutSaid,G.map (qcy code),la,[],lb,[]⟩,rfl,rfl,rfl,⟨i,l,v,w,?_,?_,?_,?_⟩,?_,?_⟩
 ·intro y T;show y.it s (ql (qi1 (ql eo) la c.k.shutSaid)) (ql (qi1 (ql ei) lb d.k.shutSaid))∈qa3;rw[w1,v1];obtain⟨g,q,rfl⟩:=List.mem_map.1 T;have hi:=q9a _ (it g q);have e:(qcy code g).it s (ql eo) (ql ei)=It.cut (g.it s (ql eo) (ql ei)):=by
   unfold Gi.it It.cut zjt qcy;simp only;by_cases F:zn g.so=1∧zn g.st = -1
   ·simp only[if_pos F]
   ·simp only[if_neg F];by_cases H:zn g.so=4∧zn g.st=6
    ·simp only[if_pos H]
    ·simp only[if_neg H]
  rw[e];exact hi
 ·intro y T;obtain⟨g,q,rfl⟩:=List.mem_map.1 T;have hok:=ok g q;refine⟨hok.id,hok.amount,hok.hash,hok.expiry,fun e=>hok.um ?_⟩;have e:zn g.st=5∨zn g.st=6:=e;have hc:=qcz (R g q).2.1;rcases e with e | e
  ·exact absurd e hc.2.2.2.2.1
  ·have h6:=hc.2.2.2.2.2.2.1;rw[e] at h6;exact .inr (by simpa using h6.symm)
 ·show ((G.map (qcy code)).map Gi.pk).Pairwise Apt;rw[List.map_map,List.pairwise_map];rw[List.pairwise_map] at pw;refine List.Pairwise.imp_of_mem ?_ pw;rintro a b ha hb O ⟨D,E,z3,z4⟩;have D:decide (0≤zn a.so)=true:=D;have E:decide (0≤zn b.so)=true:=E;rw[(qcz (R a ha).1).2.1] at D;rw[(qcz (R b hb).1).2.1] at E;have D:1≤a.so:=by simpa using D
  have E:1≤b.so:=by simpa using E
  exact O ⟨decide_eq_true (show 0≤a.so by omega),decide_eq_true (show 0≤b.so by omega),z3,z4⟩
 ·show (G.map (qcy code)).length≤n;rw[List.length_map];exact few
 ·have J:c.cut.hearAgain d.cut.again=(c.cut.resaid (qay (ql eo)) (qbw (ql eo)),0):=by
   refine qy1 (wi:=ql ei) (by rw[i.set,l.set,o.ch,o.ch]) ba.xor (by rw[X,V];exact ab.sig) (by rw[U,Y];exact ba.sig) (fun e=>by rw[Z,ab.aw,e];rfl) (by rw[W];exact ba.aw) (by rw[W,U];exact eb.nums.2.2) ?_;rw[Y];have F:=ea.nums.1;have H:=eb.nums.2.1;have L:=ba.sig;split at L<;>omega
  rw[J];congr 1;show _=msE s c.cut (G.map (qcy code)) (qi1 (ql eo) la c.k.shutSaid);rw[←k8];exact qvx w4 (fun e=>(v.laS (by rw[w1];exact e)).2.2) (fun e=>by rw[C];exact ab.rv3 e) (fun e=>by rw[C];exact ab.rv4 e)
 ·have J:d.cut.hearAgain c.cut.again=(d.cut.resaid (qay (ql ei)) (qbw (ql ei)),0):=by
   refine qy1 (wi:=ql eo) (by rw[i.set,l.set,o.ch,o.ch]) ab.xor (by rw[U,Y];exact ba.sig) (by rw[X,V];exact ab.sig) (fun e=>by rw[W,ba.aw,e];rfl) (by rw[Z];exact ab.aw) (by rw[Z,X];exact ea.nums.2.2) ?_;rw[V];have F:=eb.nums.1;have H:=ea.nums.2.1;have L:=ab.sig;split at L<;>omega
  rw[J];congr 1;show _=msE (!s) d.cut (G.map (qcy code)) (qi1 (ql ei) lb d.k.shutSaid);rw[←j8];exact qvx v4 (fun e=>(w.laS (by rw[v1];exact e)).2.2) (fun e=>by rw[z];exact ba.rv3 e) (fun e=>by rw[z];exact ba.rv4 e)
theorem zfw(l:K.Ok)(s:Bool):Inv K 0 ⟨s,Ch.new (K.S s),Ch.new (K.S (!s)),[],[],[],[],[],[],[]⟩:=by
 have m:∀t,EndI K t (Ch.new (K.S t)) [] []:=by
  intro t;have o:=l.ours t;have q:=l.ours (!t);have v:=l.sum t;have w:=l.capS t;refine⟨rfl,List.Perm.refl _,?_,?_,⟨o,?_⟩,rfl,rfl,fun g i=>(by cases i),Idx.none fun g i=>(by cases i),rfl,rfl,(by show (0:Int)≤8;decide),qv9 _,⟨by show (0:Int)≤0;decide,⟨by show (0:Int)≤0;decide,by show (0:Int)≤65535;decide⟩,fun e=>by cases e⟩⟩
  ·show (K.S t).ours=(K.S t).ours+0;omega
  ·show (K.S t).cap-(K.S t).ours=(K.S (!t)).ours+0;omega
  ·show 0≤(K.S t).cap-(K.S t).ours;omega
 have hd:∀t,Dir 0 t (Ch.new (K.S t)) (Ch.new (K.S (!t))) [] [] [] []:=by
  intro t;exact⟨by decide,(fun e=>by cases e),rfl,rfl,(fun e=>by cases e),(fun e=>by cases e),Idx.none fun g i=>(by cases i),trivial,rfl,(fun e=>by cases e),Nat.le_refl _,rfl,(fun e=>by cases e),(fun e=>by cases e)⟩
 refine⟨m s,m (!s),hd s,?_,fun g i=>(by cases i),fun g i=>(by cases i),List.Pairwise.nil,Nat.le_refl _⟩;have:=hd (!s);rw[Bool.not_not] at this;exact this
end
section
variable {K:Kon}{n:Nat}{s:Bool}{c d:Ch}{eo ei es:List En}{G:List Gi}{la nu lb nv:List Nat}
theorem qff:∀ {e:List En} {h said:Bool},ql e≠9→qbl G s said h e→e.length≤(ups e).length+(if qay (ql e)=true then 1 else 0)+(if qbw (ql e)=true then 1 else 0)+(if h=true then 0 else 1)
 | [],_,_,_,_=>Nat.zero_le _
 | .upd j::es,h,said,t,i=>by
  have g:=qff (e:=es) t i.2;have v:ql (.upd j::es)=ql es:=rfl;have l:(ups (.upd j::es)).length=(ups es).length+1:=rfl;rw[v,l,List.length_cons];omega
 | .shut::es,h,said,t,i=>by
  have g:=qff (e:=es) t i.2;have v:ql (.shut::es)=ql es:=rfl;have l:(ups (.shut::es)).length=(ups es).length:=rfl;rw[v,l,List.length_cons,i.1];simp only[if_true,Bool.false_eq_true,if_false] at g ⊢;omega
 | .sgn::es,h,said,t,i=>by
  have l:(ups (.sgn::es)).length=(ups es).length:=rfl;rcases qhi t with ⟨o,q⟩ | ⟨o,q⟩
  ·have g:=qff (e:=es) (by omega) (show qbl G s said h es from i);rw[o] at g;rw[q,l,List.length_cons];simp only[show qay 0=false from rfl,show qbw 0=false from rfl,show qay 1=true from rfl,show qbw 1=false from rfl,if_true,Bool.false_eq_true,if_false] at g ⊢;omega
  ·have g:=qff (e:=es) (by omega) (show qbl G s said h es from i);rw[o] at g;rw[q,l,List.length_cons];simp only[show qay 2=false from rfl,show qbw 2=true from rfl,show qay 3=true from rfl,show qbw 3=true from rfl,if_true,Bool.false_eq_true,if_false] at g ⊢;omega
 | .rev::es,h,said,t,i=>by
  have l:(ups (.rev::es)).length=(ups es).length:=rfl;rcases qhh t with ⟨o,q⟩ | ⟨o,q⟩
  ·have g:=qff (e:=es) (by omega) (show qbl G s said h es from i);rw[o] at g;rw[q,l,List.length_cons];simp only[show qay 0=false from rfl,show qbw 0=false from rfl,show qay 2=false from rfl,show qbw 2=true from rfl,if_true,Bool.false_eq_true,if_false] at g ⊢;omega
  ·have g:=qff (e:=es) (by omega) (show qbl G s said h es from i);rw[o] at g;rw[q,l,List.length_cons];simp only[show qay 1=true from rfl,show qbw 1=false from rfl,show qay 4=true from rfl,show qbw 4=true from rfl,if_true,Bool.false_eq_true,if_false] at g ⊢;omega
theorem q0i{P:Pt}(o:K.Ok)(h:Inv K n P):∀m∈P.inn,Said K.ch m:=by
 obtain⟨s,c,d,eo,ei,G,la,nu,lb,nv⟩:=P;obtain⟨ea,eb,ab,ba,it,ok,pw,few⟩:=h;simp only at ea eb ab ba it ok pw few;intro m F;obtain⟨x,D,rfl⟩:=List.mem_map.1 (show m∈ei.map (enM (!s) d G) from F);have i:d.s.ch=K.ch:=by rw[eb.set,o.ch]
 cases x with
 | sgn=>exact q1k o.chb i eb.nums.2.1
 | shut =>
  show Said K.ch (qb6 d.s.ch);rw[i];exact qvy o.chb
 | rev =>
  have t:=qoi ei ba.w9 D;have E:qay (ql eo)=false:=by
   cases e:qay (ql eo) with
   | false=>rfl
   | true=>rw[ab.xor e] at t;cases t
  have z:=ab.sig;have q:=ab.aw;rw[E] at z q;rw[t] at q;have I:=ea.nums.2.2 q;have J:=ea.nums.2.1;simp only[Bool.false_eq_true,if_false] at z;exact(qtl o.chb i ⟨by omega,by omega⟩ (by rw[eb.set];exact o.seed _)).2
 | upd j =>
  obtain⟨g,C,y⟩:=(ba.upd.iff j).1 (qmm ei D);have l:=List.mem_of_getElem? C;rw[qka C,i];unfold qq1;by_cases v:g.own = !s
  ·rw[if_pos v];exact q1i o.chb (ok g l)
  ·rw[if_neg v];have w:g.own=s:=(za g.own s).resolve_right v;have H:g.up=2:=by
    unfold Gi.pend at y;rw[w,Bool.not_not] at y;simpa using y
   exact q1j o.chb (ok g l) ((ok g l).um ((qkk _ (it g l)).2.2 H))
theorem q04{P:Pt}(g:K.Ok)(h:Inv K n P):∀m∈P.out,Said K.ch m:=by
 have e:P.flip.inn=P.out:=by
  show msE (!(!P.s)) P.c P.G P.eo=msE P.s P.c P.G P.eo;rw[Bool.not_not]
 have:=q0i g h.flip;rwa [e] at this
theorem zc9{P:Pt}(h:Inv K n P):P.out.length≤n+3:=by
 have g:=qff h.ab.w9 h.ab.shut;have i:=h.ab.upd.len;have l:=h.few;unfold Pt.out msE;rw[List.length_map]
 repeat' split at g
 all_goals omega
theorem zb6{P:Pt}(h:Inv K n P):P.inn.length≤n+3:=by
 have g:=qff h.ba.w9 h.ba.shut;have i:=h.ba.upd.len;have l:=h.few;unfold Pt.inn msE;rw[List.length_map]
 repeat' split at g
 all_goals omega
theorem qlv{K:Kon}{g:Pt}{w:List MsgV}{m:MsgV}(i:K.Ok)(h:Inv K n g)(e:g.out=w++[m]):Said K.ch m :=
 q04 i h m (by rw[e];exact List.mem_append_right _ (List.mem_singleton.2 rfl))
end
theorem zcn(xs:List Live):xs.length=qdh true xs+qdh false xs:=by
 unfold qdh
 induction xs with
 | nil=>rfl
 | cons x xs i =>
  rw[List.length_cons,List.filter_cons,List.filter_cons];cases g:x.own
  ·rw[if_neg (by decide),if_pos (by decide),List.length_cons];omega
  ·rw[if_pos (by decide),if_neg (by decide),List.length_cons];omega
theorem qs0{K:Kon}{n:Nat}{P:Pt}(h:Inv K n P):P.c.xs.length≤16:=by
 have o:=qs2 h.ea.perm;have q:=h.ea.many;have t:=h.eb.many;have v:=zcn P.c.xs;have w:cnt (qic P.s) P.G≤cnt (qbq (!P.s)) P.G:=qm8 fun g l i=>by
  unfold qic at i;simp only[Bool.and_eq_true,beq_iff_eq,decide_eq_true_eq] at i;have:=qqe _ (h.it g l) i.2.1 i.2.2;unfold qbq;simp only[Bool.and_eq_true,beq_iff_eq,decide_eq_true_eq];exact⟨i.1,this⟩
 omega
def qcn(K:Kon)(n:Nat)(s:Bool)(a b:Ch)(wa wb:List MsgV):Prop:=∃Q:Pt,Inv K n Q∧Q.s=s∧Q.c=a∧Q.d=b∧Q.out=wb∧Q.inn=wa
structure EndOk(K:Kon)(n:Nat)(s:Bool)(c:Ch):Prop where
 set:c.s=K.S s
 news:c.news.length≤n
 xs:c.xs.length≤n
 last:c.last.length≤n
 inv:c.Inv
 total:c.total=K.cap
section
variable {K:Kon}{n m:Nat}{s:Bool}{a b:Ch}{wa wb:List MsgV}
theorem qcn.mono(h:qcn K n s a b wa wb)(g:n≤m):qcn K m s a b wa wb:=by
 obtain⟨Q,h,e⟩:=h;exact⟨Q,h.mono g,e⟩
theorem qcn.flip(h:qcn K n s a b wa wb):qcn K n (!s) b a wb wa:=by
 obtain⟨Q,h,rfl,rfl,rfl,rfl,rfl⟩:=h;refine⟨Q.flip,h.flip,rfl,rfl,rfl,rfl,?_⟩;show msE (!(!Q.s)) Q.c Q.G Q.eo=msE Q.s Q.c Q.G Q.eo;rw[Bool.not_not]
theorem qcn.of{Q g:Pt}{c':Ch}{i wi:List MsgV}(h:Goes K n Q c' i wi g):qcn K n Q.s c' Q.d wi i:=⟨g,h.inv,h.s,h.c,h.d,h.out,h.inn⟩
theorem qcn.said(g:K.Ok)(h:qcn K n s a b wa wb):(∀m∈wa,Said K.ch m)∧(∀m∈wb,Said K.ch m):=by
 obtain⟨Q,h,rfl,rfl,rfl,rfl,rfl⟩:=h;exact⟨q0i g h,q04 g h⟩
theorem qcn.long(h:qcn K n s a b wa wb):wa.length≤n+3∧wb.length≤n+3:=by
 obtain⟨Q,h,rfl,rfl,rfl,rfl,rfl⟩:=h;exact⟨zb6 h,zc9 h⟩
theorem qcn.endA(g:K.Ok)(y:n<1000000)(h:qcn K n s a b wa wb):EndOk K n s a:=by
 obtain⟨Q,h,rfl,rfl,rfl,rfl,rfl⟩:=h;have z:=qla h.ok;have q:Q.c.xs.length≤n:=by
  rw[h.ea.perm.length_eq];exact Nat.le_trans (List.length_filterMap_le _ _) h.few
 have t:=g.ours Q.s;have v:=g.ours (!Q.s);have i:=g.sum Q.s;have w:=g.cap;have l:=h.ba.sig;have x:=h.eb.nums.2.1;refine⟨h.ea.set,?_,q,h.ab.last,⟨fun p o=>(h.ea.shelf p o).1,?_,?_,?_,qs0 h⟩,?_⟩
 ·rw[h.ea.news];unfold msU;rw[List.length_map];exact Nat.le_trans h.ea.nuS.len h.few
 ·have:=g.keyb (!Q.s);rw[g.key,Bool.not_not] at this;rw[h.ea.set];omega
 ·rw[h.ea.set,g.ch];exact g.chb
 ·split at l<;>omega
 ·rw[q4y (qo Q.s) Q.G h.ea.perm h.ea.loc h.ea.rem (qe7 h.it Q.s) ⟨by omega,by omega⟩,i]
theorem qcn.endB(g:K.Ok)(i:n<1000000)(h:qcn K n s a b wa wb):EndOk K n (!s) b:=h.flip.endA g i
theorem qcn.new(g:K.Ok)(s:Bool):qcn K 0 s (Ch.new (K.S s)) (Ch.new (K.S (!s))) [] []:=⟨_,zfw g s,rfl,rfl,rfl,rfl,rfl⟩
theorem qcn.offer(l:K.Ok)(h:qcn K n s a b wa wb)(t:n<1000000000){N ex:Int}{hv:Vector Int 32}(o:0≤N)(q:qa7 hv.toList):qcn K (n+1) s (a.offer N hv ex).1 b wa (qd4 wb (a.offer N hv ex).2.1 (a.offer N hv ex).2.2)∧MsgOk (a.offer N hv ex).2.1:=by
 by_cases i:qbo a N ex=0
 ·obtain⟨Q,h,rfl,rfl,rfl,rfl,rfl⟩:=h;obtain⟨v,g⟩:=q32 l h t o q i;have e:(Q.c.offer N hv ex).2.2=0:=by unfold Ch.offer;rw[if_pos i]
  unfold qd4;rw[if_pos e];exact⟨.of g,(qlv l g.inv g.out).ok⟩
 ·have e:a.offer N hv ex=(a,MsgV.zero,qbo a N ex):=by unfold Ch.offer;rw[if_neg i]
  rw[e];unfold qd4;rw[if_neg i];exact⟨h.mono (Nat.le_succ n),qg0⟩
theorem qcn.sign(l:K.Ok)(h:qcn K n s a b wa wb):qcn K (n+1) s a.sign.1 b wa (qd4 wb a.sign.2.1 a.sign.2.2)∧MsgOk a.sign.2.1:=by
 by_cases i:qa0 a=0
 ·obtain⟨Q,h,rfl,rfl,rfl,rfl,rfl⟩:=h;obtain⟨o,g⟩:=q9m l h i;have e:Q.c.sign.2.2=0:=by unfold Ch.sign;rw[if_pos i]
  unfold qd4;rw[if_pos e];exact⟨.of g,(qlv l g.inv g.out).ok⟩
 ·have e:=ql6 rfl i;rw[e];unfold qd4;rw[if_neg i];exact⟨h.mono (Nat.le_succ n),qg0⟩
theorem qcn.shut(l:K.Ok)(h:qcn K n s a b wa wb):qcn K (n+1) s a.shut.1 b wa (qd4 wb a.shut.2.1 a.shut.2.2)∧MsgOk a.shut.2.1:=by
 cases i:a.k.shutSaid with
 | false =>
  obtain⟨Q,h,rfl,rfl,rfl,rfl,rfl⟩:=h;obtain⟨o,g⟩:=q9k h i;have e:Q.c.shut.2.2=0:=by unfold Ch.shut;rw[i];rfl
  unfold qd4;rw[if_pos e];exact⟨(qcn.of g).mono (Nat.le_succ n),(qlv l g.inv g.out).ok⟩
 | true =>
  have e:a.shut=(a,MsgV.zero,4):=by unfold Ch.shut;rw[i];rfl
  rw[e];exact⟨h.mono (Nat.le_succ n),qg0⟩
theorem qcn.fail(q:K.Ok)(h:qcn K n s a b wa wb)(id r:Int):qcn K (n+1) s (a.fail id r).1 b wa (qd4 wb (a.fail id r).2.1 (a.fail id r).2.2)∧MsgOk (a.fail id r).2.1:=by
 cases l:qb0 false id a.xs with
 | none =>
  rw[qu2 l];exact⟨h.mono (Nat.le_succ n),qg0⟩
 | some p =>
  obtain⟨i,x⟩:=p;by_cases t:r<0∨65535<r
  ·rw[qzy l t];exact⟨h.mono (Nat.le_succ n),qg0⟩
  ·have e:a.fail id r=((a.removed i x false).say (qe1 id r),(qe1 id r).on a.s.ch,0):=by unfold Ch.fail;rw[l];simp only;rw[if_neg t]
   obtain⟨Q,h,rfl,rfl,rfl,rfl,rfl⟩:=h;have o:=(qes l);obtain⟨z,g⟩:=qqf q h l (paid:=false) (m:=qe1 id r) (by
    intro g v w y;exact .inr ⟨r,by rw[y,v,o.2.2.1],by omega,by omega,w⟩)
   rw[e];exact⟨(qcn.of g).mono (Nat.le_succ n),(qlv q g.inv g.out).ok⟩
theorem qcn.fulfill(w:K.Ok)(h:qcn K n s a b wa wb)(id:Int)(p:List Int)(z:p.length=32)(C:qa7 p):qcn K (n+1) s (a.fulfill id p).1 b wa (qd4 wb (a.fulfill id p).2.1 (a.fulfill id p).2.2)∧MsgOk (a.fulfill id p).2.1:=by
 cases l:qb0 false id a.xs with
 | none =>
  rw[qz4 l];exact⟨h.mono (Nat.le_succ n),qg0⟩
 | some q =>
  obtain⟨i,x⟩:=q;rw[qr7 l];by_cases v:qfm p x.h.hash.toList=true
  ·rw[if_pos v];obtain⟨Q,h,rfl,rfl,rfl,rfl,rfl⟩:=h;have o:=(qes l);obtain⟨E,g⟩:=qqf w h l (paid:=true) (m:=qgc id p) (by
    intro g y t D;exact .inl ⟨p,by rw[D,y,o.2.2.1],z,C,by rw[y];exact v,t⟩)
   exact⟨(qcn.of g).mono (Nat.le_succ n),(qlv w g.inv g.out).ok⟩
  ·rw[if_neg v];exact⟨h.mono (Nat.le_succ n),qg0⟩
theorem qcn.hears{x:MsgV}(v:K.Ok)(w:n<1000000000)(h:qcn K n s a b (x::wa) wb):Said K.ch x∧(a.hears x).2.2=0∧qcn K n s (a.hears x).1 b wa (wb++(a.hears x).2.1)∧(∀l∈(a.hears x).2.1,MsgOk l)∧(a.hears x).2.1.length≤1:=by
 obtain⟨Q,h,rfl,rfl,rfl,rfl,e⟩:=h;cases o:Q.ei with
 | nil =>
  have:Q.inn=[]:=by unfold Pt.inn;rw[o];rfl
  rw[this] at e;cases e
 | cons y es =>
  have q:Q.inn=enM (!Q.s) Q.d Q.G y::msE (!Q.s) Q.d Q.G es:=by unfold Pt.inn;rw[o];rfl
  rw[q] at e;injection e with e1 e2;have i:=q75 v h w o;rw[e1,e2] at i;have t:Q.c.hears x=Q.c.hear x:=by
   unfold Ch.hears;rw[if_neg];have:=i.said.kind;omega
  rw[t];obtain⟨z,g⟩:=i.goes;exact⟨i.said,i.ok,.of g,i.says,i.few⟩
theorem qcn.cut(w:K.Ok)(x:n<1000000000)(h:qcn K n s a b wa wb):qcn K n s a.cut b.cut (b.cut.hearAgain a.cut.again).1 (a.cut.hearAgain b.cut.again).1∧(a.cut.hearAgain b.cut.again).2=0∧(b.cut.hearAgain a.cut.again).2=0:=by
 obtain⟨Q,h,rfl,rfl,rfl,rfl,rfl⟩:=h;obtain⟨g,i,l,o,q,t,v⟩:=zax w h x;rw[t,v];exact⟨⟨g,q,i,l,o,rfl,rfl⟩,rfl,rfl⟩
end
end Go.Proofs.YthnohmjbbeahmaaGreatDoor
