/-
  The protocol, plain: a cut of both ends, and what they say again.
-/
import Derived.Test.YtjpmomdechibmaaGreatDoorMeb
import Derived.Test.YtjpmomdechibmaaGreatDoorMdf
set_option linter.unusedVariables false
set_option linter.unusedSimpArgs false
namespace Go.Proofs.YtjpmomdechibmaaGreatDoor
open Go.RowKit
theorem qco:∀ {x:Int},-1≤x∧x≤9→(-1≤zj x∧zj x≤9)∧decide (0≤zj x)=decide (1≤x)∧decide (1≤zj x)=decide (1≤x)∧zj x≠0∧zj x≠5∧(zj x==1)=(x==1)∧(zj x==6)=(x==6)∧(zj x==8)=(x==8)∧(zj x==3)=(x==3)∧(zj x≤8→x≤8) :=
 qlt (p:=fun x=>(-1≤zj x∧zj x≤9)∧decide (0≤zj x)=decide (1≤x)∧decide (1≤zj x)=decide (1≤x)∧zj x≠0∧zj x≠5∧(zj x==1)=(x==1)∧(zj x==6)=(x==6)∧(zj x==8)=(x==8)∧(zj x==3)=(x==3)∧(zj x≤8→x≤8)) (by decide +kernel)
theorem qrc:∀x∈qav,(decide (zj x.1=1∧zj x.2.1 = -1)=(x.1==1&&qas x.2.2.2.2.1))∧(decide (zj x.1=4∧zj x.2.1=6)=(x.2.1==6&&qas x.2.2.2.2.2)):=by decide +kernel
theorem qrb:∀x∈qav,(qas x.2.2.2.2.1=false→decide (1≤x.2.1)=decide (1≤x.1))∧(x.1=1→x.2.1 = -1→x.2.2.1=1∧x.2.2.2.1=true):=by decide +kernel
def qcn(code:Bool→Nat)(g:Gi):Gi :=
 {g with so:=zj g.so,st:=zj g.st,up:=if zj g.so=1∧zj g.st = -1 then 1 else if zj g.so=4∧zj g.st=6 then 2 else 0,cov:=if zj g.so=1∧zj g.st = -1 then true else if zj g.so=4∧zj g.st=6 then true else false,pre:=if zj g.so=1∧zj g.st = -1 then decide (code g.own=3) else decide (code (!g.own)=3)}
def qhy(w:Nat)(la:List Nat)(said:Bool):List En :=
 (if w=2∨w=4 then [.rev] else [])++((if qas w=true then la.map En.upd++[.sgn] else [])++((if w=3 then [.rev] else [])++(if said=true then [.shut] else [])))
theorem qnc(l:List Nat)(e:List En):qk (l.map En.upd++e)=qk e:=by
 induction l with
 | nil=>rfl
 | cons j l f=>exact f
theorem qrs(l:List Nat)(e:List En):ups (l.map En.upd++e)=l++ups e:=by
 induction l with
 | nil=>rfl
 | cons j l f=>show j::ups (l.map En.upd++e)=_;rw[f];rfl
theorem qpm{w:Nat}(h:w≤4):w=0∨w=1∨w=2∨w=3∨w=4:=by omega
theorem quq(la:List Nat)(said:Bool):qhy 0 la said=if said=true then [.shut] else []:=rfl
theorem qur(la:List Nat)(said:Bool):qhy 1 la said=la.map En.upd++(.sgn::if said=true then [.shut] else []):=by
 unfold qhy;rw[if_neg (by decide),if_pos (show qas 1=true from rfl),if_neg (by decide)];simp
theorem qus(la:List Nat)(said:Bool):qhy 2 la said = .rev::if said=true then [.shut] else []:=rfl
theorem qut(la:List Nat)(said:Bool):qhy 3 la said=la.map En.upd++(.sgn :: .rev::if said=true then [.shut] else []):=by
 unfold qhy;rw[if_neg (by decide),if_pos (show qas 3=true from rfl),if_pos rfl];simp
theorem quu(la:List Nat)(said:Bool):qhy 4 la said = .rev::(la.map En.upd++(.sgn::if said=true then [.shut] else [])):=by
 unfold qhy;rw[if_pos (by decide),if_pos (show qas 4=true from rfl),if_neg (by decide)];simp
theorem qzc{e:List En}(h:qk e=1):qk (.rev::e)=4:=by
 show (if qk e=0 then 2 else if qk e=1 then 4 else 9)=4
 simp[h]
theorem qpn{w:Nat}(h:w≤4)(la:List Nat)(said:Bool):qk (qhy w la said)=w∧ups (qhy w la said)=if qas w=true then la else []:=by
 rcases qpm h with rfl | rfl | rfl | rfl | rfl
 ·rw[quq];cases said<;>exact⟨rfl,rfl⟩
 ·rw[qur,qnc,qrs];cases said<;>exact⟨rfl,List.append_nil _⟩
 ·rw[qus];cases said<;>exact⟨rfl,rfl⟩
 ·rw[qut,qnc,qrs];cases said<;>exact⟨rfl,List.append_nil _⟩
 ·rw[quu]
  refine⟨qzc ?_,?_⟩
  ·rw[qnc];cases said<;>rfl
  ·show ups (la.map En.upd++(.sgn::if said=true then [.shut] else []))=la
   rw[qrs];cases said<;>exact List.append_nil _
section
variable {K:Kon}{n:Nat}{s t:Bool}{c d:Ch}{eo ei es:List En}{G:List Gi}{la nu lb nv:List Nat}{g g':Gi}{j:Nat}{code:Bool→Nat}
theorem qi3{b1 b2:Bool}{e:List En}(f:qas (qk e)=b1∧qbq (qk e)=b2)(m:qbb G e):∀l:List Nat,(∀j∈l,∀g,G[j]? = some g→g.cov=b1∧g.pre=b2)→qbb G (l.map En.upd++e)
 | [],_=>m
 | j::l,h=>by
  refine⟨fun g o=> ?_,qi3 f m l fun i q=>h i (List.mem_cons_of_mem _ q)⟩
  show g.cov=qas (qk (l.map En.upd++e))∧g.pre=qbq (qk (l.map En.upd++e))
  rw[qnc,f.1,f.2]
  exact h j (List.mem_cons_self ..) g o
theorem q3j{w:Nat}(h:w≤4)(said:Bool)(i:qas w=true→∀j∈la,∀g,G[j]? = some g→g.cov=true∧g.pre=decide (w=3)):qbb G (qhy w la said):=by
 have f:qbb G (if said=true then [En.shut] else []):=by cases said<;>exact trivial
 rcases qpm h with rfl | rfl | rfl | rfl | rfl
 ·rw[quq];exact f
 ·rw[qur]
  refine qi3 (b1:=true) (b2:=false) (e:= .sgn::if said=true then [.shut] else []) ?_ f la (i rfl)
  cases said<;>exact⟨rfl,rfl⟩
 ·rw[qus];exact f
 ·rw[qut]
  refine qi3 (b1:=true) (b2:=true) (e:= .sgn :: .rev::if said=true then [.shut] else []) ?_ f la (i rfl)
  cases said<;>exact⟨rfl,rfl⟩
 ·rw[quu]
  show qbb G (la.map En.upd++(.sgn::if said=true then [.shut] else []))
  refine qi3 (b1:=true) (b2:=false) (e:= .sgn::if said=true then [.shut] else []) ?_ f la (i rfl)
  cases said<;>exact⟨rfl,rfl⟩
theorem qlf{said:Bool}{e:List En}(f:qbe G s said false e):∀l:List Nat,qbe G s said false (l.map En.upd++e)
 | []=>f
 | _::l=>⟨fun e=>(by cases e),qlf f l⟩
theorem q9v{w:Nat}(h:w≤4)(said:Bool):qbe G s said false (qhy w la said):=by
 have f:qbe G s said false (if said=true then [En.shut] else []):=by
  cases said
  ·exact rfl
  ·exact⟨rfl,rfl⟩
 rcases qpm h with rfl | rfl | rfl | rfl | rfl
 ·rw[quq];exact f
 ·rw[qur];exact qlf (show qbe G s said false (.sgn::_) from f) la
 ·rw[qus];exact f
 ·rw[qut];exact qlf (show qbe G s said false (.sgn :: .rev::_) from f) la
 ·rw[quu];exact show qbe G s said false (la.map En.upd++_) from qlf (show qbe G s said false (.sgn::_) from f) la
def qqo(s:Bool)(g:Gi):Bool:=g.own==s&&g.so==0
def qg1(s:Bool)(g:Gi):Bool:=g.own==s&&g.st==0
theorem qm7{f:Gi→Option Live}{F:Live→Int}{H:Gi→Int} : ∀ {G:List Gi},(∀g∈G,(f g=none→H g=0)∧∀x,f g=some x→H g=F x)→((G.filterMap f).map F).sum=(G.map H).sum
 | [],_=>rfl
 | g::G,h=>by
  have o:=qm7 (G:=G) fun y m=>h y (List.mem_cons_of_mem _ m)
  obtain⟨i,l⟩:=h g (List.mem_cons_self ..)
  rw[List.map_cons,List.sum_cons,←o]
  cases e:f g with
  | none=>rw[List.filterMap_cons_none e,i e];omega
  | some x=>rw[List.filterMap_cons_some e,List.map_cons,List.sum_cons,l x e]
theorem q02(s b:Bool)(g:Gi):((qs s).show g=none→(if b then qqo s g else qg1 (!s) g)=false)∧∀x,(qs s).show g=some x→(if b then qqo s g else qg1 (!s) g)=decide (x.state=0∧x.own=b)∧x.h=g.h:=by
 have e:(qs s).show g=qaw (g.own==s) g.h (if g.own=s then g.so else g.st) g.paid:=rfl
 have key:(if b then qqo s g else qg1 (!s) g)=decide ((if g.own=s then g.so else g.st)=0∧(g.own==s)=b):=by
  unfold qqo qg1
  rcases za g.own s with h | h
  ·rw[if_pos h,h]
   cases b<;>simp<;>rfl
  ·rw[if_neg (qbv h),h]
   cases b<;>simp<;>rfl
 rw[e,key]
 generalize (if g.own=s then g.so else g.st)=z
 unfold qaw
 by_cases i:0≤z∧z≤8
 ·rw[if_pos i]
  refine⟨fun e=>(by cases e),fun x f=> ?_⟩
  injection f with f
  subst f
  exact⟨rfl,rfl⟩
 ·rw[if_neg i]
  refine⟨fun _=>decide_eq_false (fun e=>i (by omega)),fun x f=>(by cases f)⟩
theorem zbx{xs:List Live}(l:xs.Perm (G.filterMap (qs s).show)):qda true xs=cnt (qqo s) G∧qda false xs=cnt (qg1 (!s)) G:=by
 rw[qmt true l,qmt false l]
 constructor
 ·refine qm7 fun g _=> ?_
  obtain⟨f,i⟩:=q02 s true g
  simp only[if_true] at f i
  refine⟨fun e=>by rw[f e];rfl,fun x e=> ?_⟩
  rw[(i x e).1]
  simp
 ·refine qm7 fun g _=> ?_
  obtain⟨f,i⟩:=q02 s false g
  simp only[Bool.false_eq_true,if_false] at f i
  refine⟨fun e=>by rw[f e];rfl,fun x e=> ?_⟩
  rw[(i x e).1]
  simp
theorem zbw(G:List Gi)(s:Bool):qcz false (G.filterMap (qs s).show)=amt (qg1 (!s)) G:=by
 refine qm7 fun g _=> ?_
 obtain⟨i,f⟩:=q02 s false g
 simp only[Bool.false_eq_true,if_false] at i f
 refine⟨fun e=>by rw[i e];rfl,fun x e=> ?_⟩
 rw[(f x e).1,(f x e).2]
 simp
theorem q2i(G:List Gi):cnt (oGe s 0) G=cnt (oGe s 1) G+cnt (qqo s) G∧cnt (pGe s 0) G=cnt (pGe s 1) G+cnt (qg1 s) G:=by
 unfold cnt
 rw[qhq,qhq]
 refine⟨qd1 fun g _=> ?_,qd1 fun g _=> ?_⟩
 ·unfold oGe qqo
  cases h:(g.own==s)
  ·simp
  ·simp only[Bool.true_and,decide_eq_true_eq,beq_iff_eq]
   repeat' split
   all_goals omega
 ·unfold pGe qg1
  cases h:(g.own==s)
  ·simp
  ·simp only[Bool.true_and,decide_eq_true_eq,beq_iff_eq]
   repeat' split
   all_goals omega
theorem qtj(f:c.xs.Perm (G.filterMap (qs s).show))(i:∀g∈G,0≤g.h.amount)(b:Bool):0≤qcz b (G.filterMap (qs s).show) :=
 qh4 b _ fun y l=>qex (qs s) i f y (f.symm.subset l)
theorem qkf(c:Ch):c.cut.s=c.s∧c.cut.shelf=c.shelf∧c.cut.news=[]∧c.cut.last=c.last∧c.cut.k.signed=c.k.signed∧c.cut.k.heard=c.k.heard∧c.cut.k.awaits=c.k.awaits∧c.cut.k.shutSaid=c.k.shutSaid∧c.cut.k.shutHeard=false∧c.cut.k.revoked=c.k.revoked:=by
 obtain⟨i,l,-,m,o,q,v,w,-,f⟩:=qr2 c.xs c
 exact⟨i,l,rfl,m,o,q,v,w,rfl,f⟩
theorem za5(c:Ch):c.cut.sgnOf=c.sgnOf:=qiu (qkf c).1 (qkf c).2.2.2.2.1 (qzb _ _ _ _ c)
theorem qp3(G:List Gi)(k:Nat):((G.map (qcn code))[k]?).map Gi.key=(G[k]?).map Gi.key:=qmh (f:=qcn code) (fun g=>rfl) G k
theorem qgx(it:∀g∈G,g.it s (qk eo) (qk ei)∈qav)(t:Bool):cnt (oGe t 0) (G.map (qcn code))=cnt (oGe t 1) G∧cnt (oGe t 1) (G.map (qcn code))=cnt (oGe t 1) G∧cnt (pGe t 0) (G.map (qcn code))=cnt (pGe t 1) G∧cnt (pGe t 1) (G.map (qcn code))=cnt (pGe t 1) G:=by
 have i:=qft it
 refine⟨?_,?_,?_,?_⟩
 ·rw[qf1]
  refine qej fun g f=> ?_
  show (g.own==t&&decide (0≤zj g.so))=(g.own==t&&decide (1≤g.so))
  rw[(qco (i g f).1).2.1]
 ·rw[qf1]
  refine qej fun g f=> ?_
  show (g.own==t&&decide (1≤zj g.so))=(g.own==t&&decide (1≤g.so))
  rw[(qco (i g f).1).2.2.1]
 ·rw[qf1]
  refine qej fun g f=> ?_
  show (g.own==t&&decide (0≤zj g.st))=(g.own==t&&decide (1≤g.st))
  rw[(qco (i g f).2.1).2.1]
 ·rw[qf1]
  refine qej fun g f=> ?_
  show (g.own==t&&decide (1≤zj g.st))=(g.own==t&&decide (1≤g.st))
  rw[(qco (i g f).2.1).2.2.1]
theorem EndI.cut(H:K.Ok)(h:EndI K t c G nu)(it:∀g∈G,g.it s (qk eo) (qk ei)∈qav)(v:∀g∈G,0≤g.h.amount)(few:G.length≤1000000000):EndI K t c.cut (G.map (qcn code)) []∧c.rem≤c.cut.rem∧c.cut.rem=c.rem+qcz false (G.filterMap (qs t).show):=by
 have o:=qft it
 have I:=H.cap
 have J:=H.sum t
 have P:=qwl (qs t) G
 have T:=qwm (qs t) G
 have n1:=qtj h.perm v true
 have n2:=qtj h.perm v false
 have l:=qjc (qs t) (qs t).cut G (L:=(K.S t).ours) (R:=(K.S (!t)).ours) (fun g f=>by
  have:=qep it t g f
  exact(qco this).1) v (by omega) (by omega) (by rw[←h.loc];exact h.pos.1) (by rw[←h.rem];exact h.pos.2)
 obtain⟨o1,o2⟩:=zbx h.perm
 obtain⟨q1,-⟩:=q2i (s:=t) G
 obtain⟨-,q2⟩:=q2i (s:= !t) G
 have l1:=qpb (oGe t 0) G
 have l2:=qpb (pGe (!t) 0) G
 have z1:=qjb (oGe t 1) G
 have z2:=qjb (pGe (!t) 1) G
 have x:=h.nOwn
 have z:=h.nTh
 obtain⟨M,D,w,N,O⟩:=q7b (qs t) G h.perm h.loc h.rem (qex (qs t) v h.perm) h.pos.1 h.pos.2 (by omega) (by omega) ⟨by omega,by omega⟩ ⟨by omega,by omega⟩
 obtain⟨W,Y,Z,k4,k5,k6,k7,k8,k9,X⟩:=qkf c
 obtain⟨m1,m2,m3⟩:=qkw (qcn code) (qs t) (qs t).cut (G:=G) fun g _=>⟨rfl,by
  show (if g.own=t then zj g.so else zj g.st)=zj (if g.own=t then g.so else g.st)
  split<;>rfl,rfl,rfl⟩
 obtain⟨U,E,-,-⟩:=qgx (code:=code) it t
 obtain⟨-,-,V,-⟩:=qgx (code:=code) it (!t)
 have m:c.cut.k.nextOwn=cnt (oGe t 1) G:=by rw[N,o1,x];omega
 have q:c.cut.rem=c.rem+qcz false (G.filterMap (qs t).show):=by rw[w,h.rem];omega
 refine⟨⟨W.trans h.set,by rw[m1];exact M,by rw[m2];exact D,by rw[m3];exact w,⟨by rw[D];exact l.1.1,by rw[w];exact l.2.1⟩,by rw[m,U],?_,?_,Idx.none ?_,?_,Z,?_,by rw[Y];exact h.shelf,?_⟩,by omega,q⟩
 ·rw[O,o2,z,V];omega
 ·rw[E]
  intro y C y1 y2
  obtain⟨g,f,rfl⟩:=List.mem_map.1 C
  refine h.low g f y1 ?_
  have F:=(qco (o g f).1).2.2.1
  rw[decide_eq_true (show 1≤zj g.so from y2)] at F
  simpa using F.symm
 ·intro y C
  obtain⟨g,f,rfl⟩:=List.mem_map.1 C
  have a1:=(qco (o g f).1).2.2.2.1
  have a2:=(qco (o g f).2.1).2.2.2.2.1
  show ((g.own==t&&zj g.so==0) || (g.own == !t&&zj g.st==5))=false
  simp[a1,a2]
 ·show cnt (oGe t 1) (G.map (qcn code))=c.cut.k.nextOwn
  rw[E,m]
 ·rw[qf1]
  refine Int.le_trans (qls fun g f i=> ?_) h.many
  have i:(g.own==t&&(decide (0≤zj g.so)&&decide (zj g.so≤8)))=true:=i
  rw[(qco (o g f).1).2.1] at i
  unfold qbi
  simp at i ⊢
  exact⟨i.1,by omega,(qco (o g f).1).2.2.2.2.2.2.2.2.2 i.2.2⟩
 ·rw[k5,k6,k7];exact h.nums
theorem qwa{e:List En}(h:qbb G e)(m:qk e=3∨qk e=2∨qk e=0)(l:j∈ups e)(w:G[j]? = some g)(q:g.cov=true):g.pre=true:=by
 induction e with
 | nil=>cases l
 | cons x e v =>
  cases x with
  | upd i =>
   have o:qk e=3∨qk e=2∨qk e=0:=m
   rcases List.mem_cons.1 l with f | l
   ·subst f
    obtain⟨a1,a2⟩:=h.1 g w
    rw[a2]
    rw[a1] at q
    clear h m
    rcases o with f | f | f<;>rw[f] at q ⊢
    ·rfl
    ·cases q
    ·cases q
   ·exact v h.2 o l
  | shut=>exact v h m l
  | sgn =>
   refine v h ?_ l
   rcases qgo (es:=e) (by rcases m with f | f | f<;>rw[f]<;>decide) with ⟨f,-⟩ | ⟨f,-⟩
   ·exact .inr (.inr f)
   ·exact .inr (.inl f)
  | rev =>
   refine v h ?_ l
   rcases qgn (es:=e) (by rcases m with f | f | f<;>rw[f]<;>decide) with ⟨f,-⟩ | ⟨f,e2⟩
   ·exact .inr (.inr f)
   ·rw[e2] at m;omega
theorem qq8(it:∀g∈G,g.it s (qk eo) (qk ei)∈qav)(m:g∈G):Gi.pend s (qcn code g)=(Gi.covd s g&&qas (qk eo)):=by
 have h:=qrc _ (it g m)
 rcases za g.own s with e | e
 ·rw[qdd e] at h
  have l:decide (zj g.so=1∧zj g.st = -1)=(g.so==1&&qas (qk eo)):=h.1
  rw[qip (show (qcn code g).own=s from e)]
  have:((qcn code g).up==1)=decide (zj g.so=1∧zj g.st = -1):=by
   unfold qcn
   by_cases i:zj g.so=1∧zj g.st = -1
   ·simp[i]
   ·rw[decide_eq_false i]
    simp only[if_neg i]
    split<;>rfl
  rw[this,l]
  unfold Gi.covd
  rw[e];simp
 ·rw[qdj e] at h
  have l:decide (zj g.so=4∧zj g.st=6)=(g.st==6&&qas (qk eo)):=h.2
  rw[qmw (show (qcn code g).own = !s from e)]
  have:((qcn code g).up==2)=decide (zj g.so=4∧zj g.st=6):=by
   unfold qcn
   by_cases i:zj g.so=1∧zj g.st = -1
   ·have o:¬(zj g.so=4∧zj g.st=6):=fun e=>by omega
    rw[decide_eq_false o]
    simp only[if_pos i]
    rfl
   ·simp only[if_neg i]
    by_cases f:zj g.so=4∧zj g.st=6
    ·simp[f]
    ·rw[decide_eq_false f]
     simp only[if_neg f]
     rfl
  rw[this,l]
  unfold Gi.covd
  rw[e];simp
theorem Dir.cut(h:Dir n s c d eo ei G la)(it:∀g∈G,g.it s (qk eo) (qk ei)∈qav)(nn:∀g∈G,0≤g.h.amount)(o:code s=qk eo)(Z:qk ei≠9)
  (ec:c.cut.k.nextOwn=cnt (oGe s 1) G) (ed:d.cut.k.nextTheirs=cnt (pGe s 1) G) (hd:d.cut.rem=d.rem+qcz false (G.filterMap (qs (!s)).show)) (a6:0≤d.cut.rem) (a7:0≤d.rem) :
  Dir n s c.cut d.cut (qhy (qk eo) la c.k.shutSaid) (qhy (qk ei) lb d.k.shutSaid) (G.map (qcn code)) la:=by
 have H:=qft it
 have w4:=qgb eo h.w9
 obtain⟨w1,w2⟩:=qpn w4 la c.k.shutSaid
 obtain⟨v1,-⟩:=qpn (qgb ei Z) lb d.k.shutSaid
 obtain⟨k1,k2,k3,k4,k5,k6,k7,k8,k9,P⟩:=qkf c
 obtain⟨j1,j2,j3,j4,j5,j6,j7,j8,j9,a8⟩:=qkf d
 obtain⟨e1,e2,e3,e4⟩:=qgx (code:=code) it s
 have z:∀g∈G,Gi.covd s (qcn code g)=Gi.covd s g:=fun g i=>by
  show ((g.own==s&&zj g.so==1) || (g.own == !s&&zj g.st==6))=_
  rw[(qco (H g i).1).2.2.2.2.2.1,(qco (H g i).2.1).2.2.2.2.2.2.1]
  rfl
 have v:∀g∈G,Gi.moved s (qcn code g)=Gi.moved s g:=fun g i=>by
  show ((g.own==s&&(zj g.so==1 || zj g.so==8)) || (g.own == !s&&(zj g.st==3 || zj g.st==6)))=_
  rw[(qco (H g i).1).2.2.2.2.2.1,(qco (H g i).1).2.2.2.2.2.2.2.1,(qco (H g i).2.1).2.2.2.2.2.2.1,(qco (H g i).2.1).2.2.2.2.2.2.2.2.1]
  rfl
 have w:Idx (G.map (qcn code)) (Gi.pend s) (if qas (qk eo)=true then la else []):=by
  cases D:qas (qk eo) with
  | true =>
   rw[if_pos rfl]
   exact(h.laS D).1.map _ fun g i=>by rw[qq8 it i,D,Bool.and_true]
  | false =>
   rw[if_neg (by decide)]
   refine Idx.none fun y E=> ?_
   obtain⟨g,i,rfl⟩:=List.mem_map.1 E
   rw[qq8 it i,D,Bool.and_false]
 have L:qas (qk eo)=true→∀j∈la,∀y,(G.map (qcn code))[j]? = some y→y.cov=true∧y.pre=decide (qk eo=3):=by
  intro D j R y E
  rw[if_pos D] at w
  have m:=w.yes R E
  rw[List.getElem?_map] at E
  cases i:G[j]? with
  | none=>rw[i] at E;cases E
  | some g =>
   rw[i] at E
   injection E with E
   subst E
   rcases za g.own s with e | e
   ·rw[qip (show (qcn code g).own=s from e)] at m
    have q:zj g.so=1∧zj g.st = -1:=by
     unfold qcn at m
     by_cases q:zj g.so=1∧zj g.st = -1
     ·exact q
     ·simp only[if_neg q] at m
      split at m<;>cases m
    unfold qcn
    simp only[if_pos q,e,o]
    exact⟨trivial,trivial⟩
   ·rw[qmw (show (qcn code g).own = !s from e)] at m
    have q:¬(zj g.so=1∧zj g.st = -1)∧(zj g.so=4∧zj g.st=6):=by
     unfold qcn at m
     by_cases q:zj g.so=1∧zj g.st = -1
     ·simp only[if_pos q] at m;cases m
     ·refine⟨q,?_⟩
      simp only[if_neg q] at m
      by_cases J:zj g.so=4∧zj g.st=6
      ·exact J
      ·simp only[if_neg J] at m;cases m
    unfold qcn
    simp only[if_neg q.1,if_pos q.2,e,Bool.not_not,o]
    exact⟨trivial,trivial⟩
 refine⟨by rw[w1];exact h.w9,by rw[w1,v1];exact h.xor,by rw[w1,k5,j6];exact h.sig,by rw[w1,v1,k7];exact h.aw,by rw[w1,P];exact h.rv3,by rw[w1,P];exact h.rv4,by rw[w2];exact w,q3j w4 _ L,?_,?_,by rw[k4];exact h.last,?_,?_,?_⟩
 ·rw[w2,ec,ed]
  cases D:qas (qk eo) with
  | true =>
   rw[if_pos rfl]
   exact(h.laS D).2.1.congr fun k _=>qp3 G k
  | false =>
   rw[if_neg (by decide)]
   show cnt (pGe s 1) G=cnt (oGe s 1) G
   refine qej fun g i=> ?_
   unfold pGe oGe
   rcases za g.own s with e | e
   ·have N:=(qrb _ (it g i)).1
    rw[qdd e] at N
    rw[show decide (1≤g.st)=decide (1≤g.so) from N D]
   ·rw[e];simp
 ·rw[w1]
  intro D
  obtain⟨i1,i2,i3⟩:=h.laS D
  refine⟨i1.map _ z,?_,?_⟩
  ·rw[e2,e4]
   exact i2.congr fun k _=>qp3 G k
  ·rw[k4,i3,za5]
   congr 1
   exact(qbz k1 fun k _=>qp3 G k).symm
 ·rw[k8,j9]
  exact q9v w4 _
 ·rw[w1]
  intro hR
  by_cases U:qk eo=3
  ·have hm:=h.m1 hR
   have key:amt (qai s) (G.map (qcn code))≤amt (qai s) G+qcz false (G.filterMap (qs (!s)).show):=by
    rw[zbw,Bool.not_not,ql8]
    unfold amt
    rw[qhq]
    refine qg9 fun g i=> ?_
    have M:=nn g i
    have a4:0≤if qg1 s g=true then g.h.amount else 0:=by
     split
     ·exact M
     ·exact Int.le_refl _
    have a5:0≤if qai s g=true then g.h.amount else 0:=by
     split
     ·exact M
     ·exact Int.le_refl _
    show (if qai s (qcn code g)=true then g.h.amount else 0)≤_
    by_cases I:qai s (qcn code g)=true
    ·rw[if_pos I]
     have l:(g.own==s&&((qcn code g).up==1&&(qcn code g).pre))=true:=I
     have F:g.own=s:=by
      rcases za g.own s with e | e
      ·exact e
      ·rw[e] at l;simp at l
     have Y:(qcn code g).up=1:=by
      simp at l
      exact l.2.1
     have m:=qq8 (code:=code) it i
     rw[qip (show (qcn code g).own=s from F),Y] at m
     have O:g.so=1:=by
      unfold Gi.covd at m
      rw[F] at m
      simp at m
      exact m.1
     have V:qas (qk eo)=true:=by rw[U];rfl
     have C:g.st = -1∨g.st=0:=by
      have x:=(qrc _ (it g i)).1
      rw[qdd F] at x
      have x:decide (zj g.so=1∧zj g.st = -1)=(g.so==1&&qas (qk eo)):=x
      rw[O,V] at x
      have x:zj g.st = -1:=by simp at x;exact x.2
      unfold zj at x
      split at x
      ·cases x
      ·split at x
       ·rename_i h0;exact .inr h0
       ·exact .inl x
     rcases C with C | C
     ·have N:=(qrb _ (it g i)).2
      rw[qdd F] at N
      obtain⟨T,q2⟩:=N O C
      have T:g.up=1:=T
      have q2:g.cov=true:=q2
      obtain⟨j,R⟩:=List.getElem?_of_mem i
      have W:j∈ups eo:=(h.upd.iff j).2 ⟨g,R,by rw[qip F,T];rfl⟩
      have X:=qwa h.along (.inl U) W R q2
      have:qai s g=true:=by unfold qai;rw[F,T,X];simp
      rw[if_pos this]
      omega
     ·have:qg1 s g=true:=by unfold qg1;rw[F,C];simp
      rw[if_pos this]
      omega
    ·rw[if_neg I]
     omega
   rw[hd]
   omega
  ·have:amt (qai s) (G.map (qcn code))≤0:=by
    rw[ql8]
    have:=qg9 (f:=fun g=>if qai s (qcn code g)=true then (qcn code g).h.amount else 0) (f':=fun _:Gi=>(0:Int)) (G:=G) fun g i=>by
     show (if qai s (qcn code g)=true then (qcn code g).h.amount else 0)≤0
     rw[if_neg]
     ·exact Int.le_refl _
     ·intro I
      have l:(g.own==s&&((qcn code g).up==1&&(qcn code g).pre))=true:=I
      have F:g.own=s:=by
       rcases za g.own s with e | e
       ·exact e
       ·rw[e] at l;simp at l
      simp at l
      obtain⟨-,b1,b2⟩:=l
      unfold qcn at b1 b2
      by_cases q:zj g.so=1∧zj g.st = -1
      ·simp only[if_pos q,F,o,decide_eq_true_eq] at b2
       exact U b2
      ·simp only[if_neg q] at b1
       split at b1<;>cases b1
    have e0:(G.map fun _:Gi=>(0:Int)).sum=0:=by
     clear this
     clear L w z v e1 e2 e3 e4 hd ec ed nn it H h
     induction G with
     | nil=>rfl
     | cons g G ih=>rw[List.map_cons,List.sum_cons,ih];rfl
    omega
   omega
 ·rw[w1]
  exact fun e=>qux (fun g i hh=>(v g i).trans hh) (h.ex e)
end
end Go.Proofs.YtjpmomdechibmaaGreatDoor
