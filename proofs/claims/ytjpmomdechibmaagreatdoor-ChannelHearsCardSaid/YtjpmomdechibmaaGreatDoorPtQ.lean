/-
  The protocol, plain: a cut of both ends, and what they say again.
-/
import Derived.Test.YtjpmomdechibmaaGreatDoorMei
import Derived.Test.YtjpmomdechibmaaGreatDoorMeb
set_option linter.unusedVariables false
set_option linter.unusedSimpArgs false
namespace Go.Proofs.YtjpmomdechibmaaGreatDoor
open Go.RowKit
theorem qcd:∀ {x:Int},-1≤x∧x≤9→(-1≤zf x∧zf x≤9)∧decide (0≤zf x)=decide (1≤x)∧decide (1≤zf x)=decide (1≤x)∧zf x≠0∧zf x≠5∧(zf x==1)=(x==1)∧(zf x==6)=(x==6)∧(zf x==8)=(x==8)∧(zf x==3)=(x==3)∧(zf x≤8→x≤8) :=
 qk7 (p:=fun x=>(-1≤zf x∧zf x≤9)∧decide (0≤zf x)=decide (1≤x)∧decide (1≤zf x)=decide (1≤x)∧zf x≠0∧zf x≠5∧(zf x==1)=(x==1)∧(zf x==6)=(x==6)∧(zf x==8)=(x==8)∧(zf x==3)=(x==3)∧(zf x≤8→x≤8)) (by decide +kernel)
theorem qqa:∀x∈qat,(decide (zf x.1=1∧zf x.2.1 = -1)=(x.1==1&&qak x.2.2.2.2.1))∧(decide (zf x.1=4∧zf x.2.1=6)=(x.2.1==6&&qak x.2.2.2.2.2)):=by decide +kernel
theorem qp9:∀x∈qat,(qak x.2.2.2.2.1=false→decide (1≤x.2.1)=decide (1≤x.1))∧(x.1=1→x.2.1 = -1→x.2.2.1=1∧x.2.2.2.1=true):=by decide +kernel
def qcc(code:Bool→Nat)(g:Gi):Gi :=
 {g with so:=zf g.so,st:=zf g.st,up:=if zf g.so=1∧zf g.st = -1 then 1 else if zf g.so=4∧zf g.st=6 then 2 else 0,cov:=if zf g.so=1∧zf g.st = -1 then true else if zf g.so=4∧zf g.st=6 then true else false,pre:=if zf g.so=1∧zf g.st = -1 then decide (code g.own=3) else decide (code (!g.own)=3)}
def qhh(w:Nat)(la:List Nat)(said:Bool):List En :=
 (if w=2∨w=4 then [.rev] else [])++((if qak w=true then la.map En.upd++[.sgn] else [])++((if w=3 then [.rev] else [])++(if said=true then [.shut] else [])))
theorem qmo(l:List Nat)(e:List En):qj (l.map En.upd++e)=qj e:=by
 induction l with
 | nil=>rfl
 | cons j l f=>exact f
theorem qqo(l:List Nat)(e:List En):ups (l.map En.upd++e)=l++ups e:=by
 induction l with
 | nil=>rfl
 | cons j l f=>show j::ups (l.map En.upd++e)=_;rw[f];rfl
theorem qor{w:Nat}(h:w≤4):w=0∨w=1∨w=2∨w=3∨w=4:=by omega
theorem qti(la:List Nat)(said:Bool):qhh 0 la said=if said=true then [.shut] else []:=rfl
theorem qtj(la:List Nat)(said:Bool):qhh 1 la said=la.map En.upd++(.sgn::if said=true then [.shut] else []):=by
 unfold qhh;rw[if_neg (by decide),if_pos (show qak 1=true from rfl),if_neg (by decide)];simp
theorem qtk(la:List Nat)(said:Bool):qhh 2 la said = .rev::if said=true then [.shut] else []:=rfl
theorem qtl(la:List Nat)(said:Bool):qhh 3 la said=la.map En.upd++(.sgn :: .rev::if said=true then [.shut] else []):=by
 unfold qhh;rw[if_neg (by decide),if_pos (show qak 3=true from rfl),if_pos rfl];simp
theorem qtm(la:List Nat)(said:Bool):qhh 4 la said = .rev::(la.map En.upd++(.sgn::if said=true then [.shut] else [])):=by
 unfold qhh;rw[if_pos (by decide),if_pos (show qak 4=true from rfl),if_neg (by decide)];simp
theorem qx5{e:List En}(h:qj e=1):qj (.rev::e)=4:=by
 show (if qj e=0 then 2 else if qj e=1 then 4 else 9)=4
 simp[h]
theorem qos{w:Nat}(h:w≤4)(la:List Nat)(said:Bool):qj (qhh w la said)=w∧ups (qhh w la said)=if qak w=true then la else []:=by
 rcases qor h with rfl | rfl | rfl | rfl | rfl
 ·rw[qti];cases said<;>exact⟨rfl,rfl⟩
 ·rw[qtj,qmo,qqo];cases said<;>exact⟨rfl,List.append_nil _⟩
 ·rw[qtk];cases said<;>exact⟨rfl,rfl⟩
 ·rw[qtl,qmo,qqo];cases said<;>exact⟨rfl,List.append_nil _⟩
 ·rw[qtm]
  refine⟨qx5 ?_,?_⟩
  ·rw[qmo];cases said<;>rfl
  ·show ups (la.map En.upd++(.sgn::if said=true then [.shut] else []))=la
   rw[qqo];cases said<;>exact List.append_nil _
section
variable {K:Kon}{n:Nat}{s t:Bool}{c d:Ch}{eo ei es:List En}{G:List Gi}{la nu lb nv:List Nat}{g g':Gi}{j:Nat}{code:Bool→Nat}
theorem qio{b1 b2:Bool}{e:List En}(f:qak (qj e)=b1∧qbi (qj e)=b2)(m:qa3 G e):∀l:List Nat,(∀j∈l,∀g,G[j]? = some g→g.cov=b1∧g.pre=b2)→qa3 G (l.map En.upd++e)
 | [],_=>m
 | j::l,h=>by
  refine⟨fun g o=> ?_,qio f m l fun i q=>h i (List.mem_cons_of_mem _ q)⟩
  show g.cov=qak (qj (l.map En.upd++e))∧g.pre=qbi (qj (l.map En.upd++e))
  rw[qmo,f.1,f.2]
  exact h j (List.mem_cons_self ..) g o
theorem q1t{w:Nat}(h:w≤4)(said:Bool)(i:qak w=true→∀j∈la,∀g,G[j]? = some g→g.cov=true∧g.pre=decide (w=3)):qa3 G (qhh w la said):=by
 have f:qa3 G (if said=true then [En.shut] else []):=by cases said<;>exact trivial
 rcases qor h with rfl | rfl | rfl | rfl | rfl
 ·rw[qti];exact f
 ·rw[qtj]
  refine qio (b1:=true) (b2:=false) (e:= .sgn::if said=true then [.shut] else []) ?_ f la (i rfl)
  cases said<;>exact⟨rfl,rfl⟩
 ·rw[qtk];exact f
 ·rw[qtl]
  refine qio (b1:=true) (b2:=true) (e:= .sgn :: .rev::if said=true then [.shut] else []) ?_ f la (i rfl)
  cases said<;>exact⟨rfl,rfl⟩
 ·rw[qtm]
  show qa3 G (la.map En.upd++(.sgn::if said=true then [.shut] else []))
  refine qio (b1:=true) (b2:=false) (e:= .sgn::if said=true then [.shut] else []) ?_ f la (i rfl)
  cases said<;>exact⟨rfl,rfl⟩
theorem qkv{said:Bool}{e:List En}(f:qa6 G s said false e):∀l:List Nat,qa6 G s said false (l.map En.upd++e)
 | []=>f
 | _::l=>⟨fun e=>(by cases e),qkv f l⟩
theorem q73{w:Nat}(h:w≤4)(said:Bool):qa6 G s said false (qhh w la said):=by
 have f:qa6 G s said false (if said=true then [En.shut] else []):=by
  cases said
  ·exact rfl
  ·exact⟨rfl,rfl⟩
 rcases qor h with rfl | rfl | rfl | rfl | rfl
 ·rw[qti];exact f
 ·rw[qtj];exact qkv (show qa6 G s said false (.sgn::_) from f) la
 ·rw[qtk];exact f
 ·rw[qtl];exact qkv (show qa6 G s said false (.sgn :: .rev::_) from f) la
 ·rw[qtm];exact show qa6 G s said false (la.map En.upd++_) from qkv (show qa6 G s said false (.sgn::_) from f) la
def qpp(s:Bool)(g:Gi):Bool:=g.own==s&&g.so==0
def qgp(s:Bool)(g:Gi):Bool:=g.own==s&&g.st==0
theorem qmj{f:Gi→Option Live}{F:Live→Int}{H:Gi→Int} : ∀ {G:List Gi},(∀g∈G,(f g=none→H g=0)∧∀x,f g=some x→H g=F x)→((G.filterMap f).map F).sum=(G.map H).sum
 | [],_=>rfl
 | g::G,h=>by
  have o:=qmj (G:=G) fun y m=>h y (List.mem_cons_of_mem _ m)
  obtain⟨i,l⟩:=h g (List.mem_cons_self ..)
  rw[List.map_cons,List.sum_cons,←o]
  cases e:f g with
  | none=>rw[List.filterMap_cons_none e,i e];omega
  | some x=>rw[List.filterMap_cons_some e,List.map_cons,List.sum_cons,l x e]
theorem qzq(s b:Bool)(g:Gi):((qs s).show g=none→(if b then qpp s g else qgp (!s) g)=false)∧∀x,(qs s).show g=some x→(if b then qpp s g else qgp (!s) g)=decide (x.state=0∧x.own=b)∧x.h=g.h:=by
 have e:(qs s).show g=qax (g.own==s) g.h (if g.own=s then g.so else g.st) g.paid:=rfl
 have key:(if b then qpp s g else qgp (!s) g)=decide ((if g.own=s then g.so else g.st)=0∧(g.own==s)=b):=by
  unfold qpp qgp
  rcases qy g.own s with h | h
  ·rw[if_pos h,h]
   cases b<;>simp<;>rfl
  ·rw[if_neg (qbt h),h]
   cases b<;>simp<;>rfl
 rw[e,key]
 generalize (if g.own=s then g.so else g.st)=z
 unfold qax
 by_cases i:0≤z∧z≤8
 ·rw[if_pos i]
  refine⟨fun e=>(by cases e),fun x f=> ?_⟩
  injection f with f
  subst f
  exact⟨rfl,rfl⟩
 ·rw[if_neg i]
  refine⟨fun _=>decide_eq_false (fun e=>i (by omega)),fun x f=>(by cases f)⟩
theorem q96{xs:List Live}(l:xs.Perm (G.filterMap (qs s).show)):qcz true xs=cnt (qpp s) G∧qcz false xs=cnt (qgp (!s)) G:=by
 rw[ql4 true l,ql4 false l]
 constructor
 ·refine qmj fun g _=> ?_
  obtain⟨f,i⟩:=qzq s true g
  simp only[if_true] at f i
  refine⟨fun e=>by rw[f e];rfl,fun x e=> ?_⟩
  rw[(i x e).1]
  simp
 ·refine qmj fun g _=> ?_
  obtain⟨f,i⟩:=qzq s false g
  simp only[Bool.false_eq_true,if_false] at f i
  refine⟨fun e=>by rw[f e];rfl,fun x e=> ?_⟩
  rw[(i x e).1]
  simp
theorem q95(G:List Gi)(s:Bool):qcm false (G.filterMap (qs s).show)=amt (qgp (!s)) G:=by
 refine qmj fun g _=> ?_
 obtain⟨i,f⟩:=qzq s false g
 simp only[Bool.false_eq_true,if_false] at i f
 refine⟨fun e=>by rw[i e];rfl,fun x e=> ?_⟩
 rw[(f x e).1,(f x e).2]
 simp
theorem q00(G:List Gi):cnt (oGe s 0) G=cnt (oGe s 1) G+cnt (qpp s) G∧cnt (pGe s 0) G=cnt (pGe s 1) G+cnt (qgp s) G:=by
 unfold cnt
 rw[qkx,qkx]
 refine⟨qeo fun g _=> ?_,qeo fun g _=> ?_⟩
 ·unfold oGe qpp
  cases h:(g.own==s)
  ·simp
  ·simp only[Bool.true_and,decide_eq_true_eq,beq_iff_eq]
   repeat' split
   all_goals omega
 ·unfold pGe qgp
  cases h:(g.own==s)
  ·simp
  ·simp only[Bool.true_and,decide_eq_true_eq,beq_iff_eq]
   repeat' split
   all_goals omega
theorem qse(f:c.xs.Perm (G.filterMap (qs s).show))(i:∀g∈G,0≤g.h.amount)(b:Bool):0≤qcm b (G.filterMap (qs s).show) :=
 qhm b _ fun y l=>qek (qs s) i f y (f.symm.subset l)
theorem qjw(c:Ch):c.cut.s=c.s∧c.cut.shelf=c.shelf∧c.cut.news=[]∧c.cut.last=c.last∧c.cut.k.signed=c.k.signed∧c.cut.k.heard=c.k.heard∧c.cut.k.awaits=c.k.awaits∧c.cut.k.shutSaid=c.k.shutSaid∧c.cut.k.shutHeard=false∧c.cut.k.revoked=c.k.revoked:=by
 obtain⟨i,l,-,m,o,q,v,w,-,f⟩:=qqz c.xs c
 exact⟨i,l,rfl,m,o,q,v,w,rfl,f⟩
theorem q9e(c:Ch):c.cut.sgnOf=c.sgnOf:=qif (qjw c).1 (qjw c).2.2.2.2.1 (qx4 _ _ _ _ c)
theorem qo6(G:List Gi)(k:Nat):((G.map (qcc code))[k]?).map Gi.key=(G[k]?).map Gi.key:=qls (f:=qcc code) (fun g=>rfl) G k
theorem qgl(it:∀g∈G,g.it s (qj eo) (qj ei)∈qat)(t:Bool):cnt (oGe t 0) (G.map (qcc code))=cnt (oGe t 1) G∧cnt (oGe t 1) (G.map (qcc code))=cnt (oGe t 1) G∧cnt (pGe t 0) (G.map (qcc code))=cnt (pGe t 1) G∧cnt (pGe t 1) (G.map (qcc code))=cnt (pGe t 1) G:=by
 have i:=qfc it
 refine⟨?_,?_,?_,?_⟩
 ·rw[qfi]
  refine qd6 fun g f=> ?_
  show (g.own==t&&decide (0≤zf g.so))=(g.own==t&&decide (1≤g.so))
  rw[(qcd (i g f).1).2.1]
 ·rw[qfi]
  refine qd6 fun g f=> ?_
  show (g.own==t&&decide (1≤zf g.so))=(g.own==t&&decide (1≤g.so))
  rw[(qcd (i g f).1).2.2.1]
 ·rw[qfi]
  refine qd6 fun g f=> ?_
  show (g.own==t&&decide (0≤zf g.st))=(g.own==t&&decide (1≤g.st))
  rw[(qcd (i g f).2.1).2.1]
 ·rw[qfi]
  refine qd6 fun g f=> ?_
  show (g.own==t&&decide (1≤zf g.st))=(g.own==t&&decide (1≤g.st))
  rw[(qcd (i g f).2.1).2.2.1]
theorem EndI.cut(H:K.Ok)(h:EndI K t c G nu)(it:∀g∈G,g.it s (qj eo) (qj ei)∈qat)(v:∀g∈G,0≤g.h.amount)(few:G.length≤1000000000):EndI K t c.cut (G.map (qcc code)) []∧c.rem≤c.cut.rem∧c.cut.rem=c.rem+qcm false (G.filterMap (qs t).show):=by
 have o:=qfc it
 have I:=H.cap
 have J:=H.sum t
 have P:=qvi (qs t) G
 have T:=qvj (qs t) G
 have n1:=qse h.perm v true
 have n2:=qse h.perm v false
 have l:=qix (qs t) (qs t).cut G (L:=(K.S t).ours) (R:=(K.S (!t)).ours) (fun g f=>by
  have:=qe1 it t g f
  exact(qcd this).1) v (by omega) (by omega) (by rw[←h.loc];exact h.pos.1) (by rw[←h.rem];exact h.pos.2)
 obtain⟨o1,o2⟩:=q96 h.perm
 obtain⟨q1,-⟩:=q00 (s:=t) G
 obtain⟨-,q2⟩:=q00 (s:= !t) G
 have l1:=qoh (oGe t 0) G
 have l2:=qoh (pGe (!t) 0) G
 have z1:=qiw (oGe t 1) G
 have z2:=qiw (pGe (!t) 1) G
 have x:=h.nOwn
 have z:=h.nTh
 obtain⟨M,D,w,N,O⟩:=q5l (qs t) G h.perm h.loc h.rem (qek (qs t) v h.perm) h.pos.1 h.pos.2 (by omega) (by omega) ⟨by omega,by omega⟩ ⟨by omega,by omega⟩
 obtain⟨W,Y,Z,k4,k5,k6,k7,k8,k9,X⟩:=qjw c
 obtain⟨m1,m2,m3⟩:=qkd (qcc code) (qs t) (qs t).cut (G:=G) fun g _=>⟨rfl,by
  show (if g.own=t then zf g.so else zf g.st)=zf (if g.own=t then g.so else g.st)
  split<;>rfl,rfl,rfl⟩
 obtain⟨U,E,-,-⟩:=qgl (code:=code) it t
 obtain⟨-,-,V,-⟩:=qgl (code:=code) it (!t)
 have m:c.cut.k.nextOwn=cnt (oGe t 1) G:=by rw[N,o1,x];omega
 have q:c.cut.rem=c.rem+qcm false (G.filterMap (qs t).show):=by rw[w,h.rem];omega
 refine⟨⟨W.trans h.set,by rw[m1];exact M,by rw[m2];exact D,by rw[m3];exact w,⟨by rw[D];exact l.1.1,by rw[w];exact l.2.1⟩,by rw[m,U],?_,?_,Idx.none ?_,?_,Z,?_,by rw[Y];exact h.shelf,?_⟩,by omega,q⟩
 ·rw[O,o2,z,V];omega
 ·rw[E]
  intro y C y1 y2
  obtain⟨g,f,rfl⟩:=List.mem_map.1 C
  refine h.low g f y1 ?_
  have F:=(qcd (o g f).1).2.2.1
  rw[decide_eq_true (show 1≤zf g.so from y2)] at F
  simpa using F.symm
 ·intro y C
  obtain⟨g,f,rfl⟩:=List.mem_map.1 C
  have a1:=(qcd (o g f).1).2.2.2.1
  have a2:=(qcd (o g f).2.1).2.2.2.2.1
  show ((g.own==t&&zf g.so==0) || (g.own == !t&&zf g.st==5))=false
  simp[a1,a2]
 ·show cnt (oGe t 1) (G.map (qcc code))=c.cut.k.nextOwn
  rw[E,m]
 ·rw[qfi]
  refine Int.le_trans (qk6 fun g f i=> ?_) h.many
  have i:(g.own==t&&(decide (0≤zf g.so)&&decide (zf g.so≤8)))=true:=i
  rw[(qcd (o g f).1).2.1] at i
  unfold qbf
  simp at i ⊢
  exact⟨i.1,by omega,(qcd (o g f).1).2.2.2.2.2.2.2.2.2 i.2.2⟩
 ·rw[k5,k6,k7];exact h.nums
theorem qu6{e:List En}(h:qa3 G e)(m:qj e=3∨qj e=2∨qj e=0)(l:j∈ups e)(w:G[j]? = some g)(q:g.cov=true):g.pre=true:=by
 induction e with
 | nil=>cases l
 | cons x e v =>
  cases x with
  | upd i =>
   have o:qj e=3∨qj e=2∨qj e=0:=m
   rcases List.mem_cons.1 l with f | l
   ·subst f
    obtain⟨a1,a2⟩:=h.1 g w
    rw[a2]
    rw[a1] at q
    clear h m
    rcases o with f | f | f<;>rw[f] at q ⊢
    ·rfl
    ·cases q
    ·cases q
   ·exact v h.2 o l
  | shut=>exact v h m l
  | sgn =>
   refine v h ?_ l
   rcases qgb (es:=e) (by rcases m with f | f | f<;>rw[f]<;>decide) with ⟨f,-⟩ | ⟨f,-⟩
   ·exact .inr (.inr f)
   ·exact .inr (.inl f)
  | rev =>
   refine v h ?_ l
   rcases qga (es:=e) (by rcases m with f | f | f<;>rw[f]<;>decide) with ⟨f,-⟩ | ⟨f,e2⟩
   ·exact .inr (.inr f)
   ·rw[e2] at m;omega
theorem qp6(it:∀g∈G,g.it s (qj eo) (qj ei)∈qat)(m:g∈G):Gi.pend s (qcc code g)=(Gi.covd s g&&qak (qj eo)):=by
 have h:=qqa _ (it g m)
 rcases qy g.own s with e | e
 ·rw[qc8 e] at h
  have l:decide (zf g.so=1∧zf g.st = -1)=(g.so==1&&qak (qj eo)):=h.1
  rw[qib (show (qcc code g).own=s from e)]
  have:((qcc code g).up==1)=decide (zf g.so=1∧zf g.st = -1):=by
   unfold qcc
   by_cases i:zf g.so=1∧zf g.st = -1
   ·simp[i]
   ·rw[decide_eq_false i]
    simp only[if_neg i]
    split<;>rfl
  rw[this,l]
  unfold Gi.covd
  rw[e];simp
 ·rw[qdi e] at h
  have l:decide (zf g.so=4∧zf g.st=6)=(g.st==6&&qak (qj eo)):=h.2
  rw[ql7 (show (qcc code g).own = !s from e)]
  have:((qcc code g).up==2)=decide (zf g.so=4∧zf g.st=6):=by
   unfold qcc
   by_cases i:zf g.so=1∧zf g.st = -1
   ·have o:¬(zf g.so=4∧zf g.st=6):=fun e=>by omega
    rw[decide_eq_false o]
    simp only[if_pos i]
    rfl
   ·simp only[if_neg i]
    by_cases f:zf g.so=4∧zf g.st=6
    ·simp[f]
    ·rw[decide_eq_false f]
     simp only[if_neg f]
     rfl
  rw[this,l]
  unfold Gi.covd
  rw[e];simp
theorem Dir.cut(h:Dir n s c d eo ei G la)(it:∀g∈G,g.it s (qj eo) (qj ei)∈qat)(nn:∀g∈G,0≤g.h.amount)(o:code s=qj eo)(Z:qj ei≠9)
  (ec:c.cut.k.nextOwn=cnt (oGe s 1) G) (ed:d.cut.k.nextTheirs=cnt (pGe s 1) G) (hd:d.cut.rem=d.rem+qcm false (G.filterMap (qs (!s)).show)) (a6:0≤d.cut.rem) (a7:0≤d.rem) :
  Dir n s c.cut d.cut (qhh (qj eo) la c.k.shutSaid) (qhh (qj ei) lb d.k.shutSaid) (G.map (qcc code)) la:=by
 have H:=qfc it
 have w4:=qfz eo h.w9
 obtain⟨w1,w2⟩:=qos w4 la c.k.shutSaid
 obtain⟨v1,-⟩:=qos (qfz ei Z) lb d.k.shutSaid
 obtain⟨k1,k2,k3,k4,k5,k6,k7,k8,k9,P⟩:=qjw c
 obtain⟨j1,j2,j3,j4,j5,j6,j7,j8,j9,a8⟩:=qjw d
 obtain⟨e1,e2,e3,e4⟩:=qgl (code:=code) it s
 have z:∀g∈G,Gi.covd s (qcc code g)=Gi.covd s g:=fun g i=>by
  show ((g.own==s&&zf g.so==1) || (g.own == !s&&zf g.st==6))=_
  rw[(qcd (H g i).1).2.2.2.2.2.1,(qcd (H g i).2.1).2.2.2.2.2.2.1]
  rfl
 have v:∀g∈G,Gi.moved s (qcc code g)=Gi.moved s g:=fun g i=>by
  show ((g.own==s&&(zf g.so==1 || zf g.so==8)) || (g.own == !s&&(zf g.st==3 || zf g.st==6)))=_
  rw[(qcd (H g i).1).2.2.2.2.2.1,(qcd (H g i).1).2.2.2.2.2.2.2.1,(qcd (H g i).2.1).2.2.2.2.2.2.1,(qcd (H g i).2.1).2.2.2.2.2.2.2.2.1]
  rfl
 have w:Idx (G.map (qcc code)) (Gi.pend s) (if qak (qj eo)=true then la else []):=by
  cases D:qak (qj eo) with
  | true =>
   rw[if_pos rfl]
   exact(h.laS D).1.map _ fun g i=>by rw[qp6 it i,D,Bool.and_true]
  | false =>
   rw[if_neg (by decide)]
   refine Idx.none fun y E=> ?_
   obtain⟨g,i,rfl⟩:=List.mem_map.1 E
   rw[qp6 it i,D,Bool.and_false]
 have L:qak (qj eo)=true→∀j∈la,∀y,(G.map (qcc code))[j]? = some y→y.cov=true∧y.pre=decide (qj eo=3):=by
  intro D j R y E
  rw[if_pos D] at w
  have m:=w.yes R E
  rw[List.getElem?_map] at E
  cases i:G[j]? with
  | none=>rw[i] at E;cases E
  | some g =>
   rw[i] at E
   injection E with E
   subst E
   rcases qy g.own s with e | e
   ·rw[qib (show (qcc code g).own=s from e)] at m
    have q:zf g.so=1∧zf g.st = -1:=by
     unfold qcc at m
     by_cases q:zf g.so=1∧zf g.st = -1
     ·exact q
     ·simp only[if_neg q] at m
      split at m<;>cases m
    unfold qcc
    simp only[if_pos q,e,o]
    exact⟨trivial,trivial⟩
   ·rw[ql7 (show (qcc code g).own = !s from e)] at m
    have q:¬(zf g.so=1∧zf g.st = -1)∧(zf g.so=4∧zf g.st=6):=by
     unfold qcc at m
     by_cases q:zf g.so=1∧zf g.st = -1
     ·simp only[if_pos q] at m;cases m
     ·refine⟨q,?_⟩
      simp only[if_neg q] at m
      by_cases J:zf g.so=4∧zf g.st=6
      ·exact J
      ·simp only[if_neg J] at m;cases m
    unfold qcc
    simp only[if_neg q.1,if_pos q.2,e,Bool.not_not,o]
    exact⟨trivial,trivial⟩
 refine⟨by rw[w1];exact h.w9,by rw[w1,v1];exact h.xor,by rw[w1,k5,j6];exact h.sig,by rw[w1,v1,k7];exact h.aw,by rw[w1,P];exact h.rv3,by rw[w1,P];exact h.rv4,by rw[w2];exact w,q1t w4 _ L,?_,?_,by rw[k4];exact h.last,?_,?_,?_⟩
 ·rw[w2,ec,ed]
  cases D:qak (qj eo) with
  | true =>
   rw[if_pos rfl]
   exact(h.laS D).2.1.congr fun k _=>qo6 G k
  | false =>
   rw[if_neg (by decide)]
   show cnt (pGe s 1) G=cnt (oGe s 1) G
   refine qd6 fun g i=> ?_
   unfold pGe oGe
   rcases qy g.own s with e | e
   ·have N:=(qp9 _ (it g i)).1
    rw[qc8 e] at N
    rw[show decide (1≤g.st)=decide (1≤g.so) from N D]
   ·rw[e];simp
 ·rw[w1]
  intro D
  obtain⟨i1,i2,i3⟩:=h.laS D
  refine⟨i1.map _ z,?_,?_⟩
  ·rw[e2,e4]
   exact i2.congr fun k _=>qo6 G k
  ·rw[k4,i3,q9e]
   congr 1
   exact(qbr k1 fun k _=>qo6 G k).symm
 ·rw[k8,j9]
  exact q73 w4 _
 ·rw[w1]
  intro hR
  by_cases U:qj eo=3
  ·have hm:=h.m1 hR
   have key:amt (z8 s) (G.map (qcc code))≤amt (z8 s) G+qcm false (G.filterMap (qs (!s)).show):=by
    rw[q95,Bool.not_not,qlk]
    unfold amt
    rw[qkx]
    refine qhp fun g i=> ?_
    have M:=nn g i
    have a4:0≤if qgp s g=true then g.h.amount else 0:=by
     split
     ·exact M
     ·exact Int.le_refl _
    have a5:0≤if z8 s g=true then g.h.amount else 0:=by
     split
     ·exact M
     ·exact Int.le_refl _
    show (if z8 s (qcc code g)=true then g.h.amount else 0)≤_
    by_cases I:z8 s (qcc code g)=true
    ·rw[if_pos I]
     have l:(g.own==s&&((qcc code g).up==1&&(qcc code g).pre))=true:=I
     have F:g.own=s:=by
      rcases qy g.own s with e | e
      ·exact e
      ·rw[e] at l;simp at l
     have Y:(qcc code g).up=1:=by
      simp at l
      exact l.2.1
     have m:=qp6 (code:=code) it i
     rw[qib (show (qcc code g).own=s from F),Y] at m
     have O:g.so=1:=by
      unfold Gi.covd at m
      rw[F] at m
      simp at m
      exact m.1
     have V:qak (qj eo)=true:=by rw[U];rfl
     have C:g.st = -1∨g.st=0:=by
      have x:=(qqa _ (it g i)).1
      rw[qc8 F] at x
      have x:decide (zf g.so=1∧zf g.st = -1)=(g.so==1&&qak (qj eo)):=x
      rw[O,V] at x
      have x:zf g.st = -1:=by simp at x;exact x.2
      unfold zf at x
      split at x
      ·cases x
      ·split at x
       ·rename_i h0;exact .inr h0
       ·exact .inl x
     rcases C with C | C
     ·have N:=(qp9 _ (it g i)).2
      rw[qc8 F] at N
      obtain⟨T,q2⟩:=N O C
      have T:g.up=1:=T
      have q2:g.cov=true:=q2
      obtain⟨j,R⟩:=List.getElem?_of_mem i
      have W:j∈ups eo:=(h.upd.iff j).2 ⟨g,R,by rw[qib F,T];rfl⟩
      have X:=qu6 h.along (.inl U) W R q2
      have:z8 s g=true:=by unfold z8;rw[F,T,X];simp
      rw[if_pos this]
      omega
     ·have:qgp s g=true:=by unfold qgp;rw[F,C];simp
      rw[if_pos this]
      omega
    ·rw[if_neg I]
     omega
   rw[hd]
   omega
  ·have:amt (z8 s) (G.map (qcc code))≤0:=by
    rw[qlk]
    have:=qhp (f:=fun g=>if z8 s (qcc code g)=true then (qcc code g).h.amount else 0) (f':=fun _:Gi=>(0:Int)) (G:=G) fun g i=>by
     show (if z8 s (qcc code g)=true then (qcc code g).h.amount else 0)≤0
     rw[if_neg]
     ·exact Int.le_refl _
     ·intro I
      have l:(g.own==s&&((qcc code g).up==1&&(qcc code g).pre))=true:=I
      have F:g.own=s:=by
       rcases qy g.own s with e | e
       ·exact e
       ·rw[e] at l;simp at l
      simp at l
      obtain⟨-,b1,b2⟩:=l
      unfold qcc at b1 b2
      by_cases q:zf g.so=1∧zf g.st = -1
      ·simp only[if_pos q,F,o,decide_eq_true_eq] at b2
       exact U b2
      ·simp only[if_neg q] at b1
       split at b1<;>cases b1
    have e0:(G.map fun _:Gi=>(0:Int)).sum=0:=by
     clear this
     clear L w z v e1 e2 e3 e4 hd ec ed nn it H h
     induction G with
     | nil=>rfl
     | cons g G ih=>rw[List.map_cons,List.sum_cons,ih];rfl
    omega
   omega
 ·rw[w1]
  exact fun e=>qtp (fun g i hh=>(v g i).trans hh) (h.ex e)
end
end Go.Proofs.YtjpmomdechibmaaGreatDoor
