/-
  The protocol, plain: each round of rests lessens what is to do; so it ends.
-/
import Derived.Test.YtjpmomdechibmaaGreatDoorMed
set_option linter.unusedVariables false
set_option linter.unusedSimpArgs false
namespace Go.Proofs.YtjpmomdechibmaaGreatDoor
open Go.RowKit
def rk(s:Int):Nat:=if s≤4 then (4-s).toNat else (9-s).toNat
def mwt(m:MsgV):Nat:=if m.kind=3∨m.kind=4∨m.kind=5 then 10 else 1
def rkL(xs:List Live):Nat:=(xs.map fun x=>rk x.state).sum
def mwL(f:List MsgV):Nat:=(f.map mwt).sum
theorem zet:∀s:Fin 9,∀own:Bool,∀ev:Fin 5,(qv (s.val:Int) own (ev.val:Int)=(s.val:Int))∨(qv (s.val:Int) own (ev.val:Int)=(s.val:Int)+1∧rk ((s.val:Int)+1)<rk (s.val:Int)):=by decide +kernel
theorem q9j{x:Int}(h:0≤x∧x≤8)(own:Bool){ev:Nat}(f:ev<5):qv x own ev=x∨(qv x own ev=x+1∧rk (x+1)<rk x):=by
 have:=zet ⟨x.toNat,by omega⟩ own ⟨ev,f⟩
 simp only[Int.toNat_of_nonneg h.1] at this
 exact this
def St8(xs:List Live):Prop:=∀x∈xs,0≤x.state∧x.state≤8
theorem qir{xs:List Live}(h:St8 xs){ev:Nat}(o:ev<5):rkL (qa8 (qz ev xs))≤rkL xs∧(qaj ev xs=true→rkL (qa8 (qz ev xs))<rkL xs)∧St8 (qa8 (qz ev xs)):=by
 induction xs with
 | nil=>exact⟨Nat.le_refl _,(fun h=>by cases h),fun x i=>(by cases i)⟩
 | cons x xs C =>
  obtain⟨E,z,l⟩:=C fun y g=>h y (List.mem_cons_of_mem _ g)
  have i:=h x (List.mem_cons_self ..)
  have q:rkL (x::xs)=rk x.state+rkL xs:=rfl
  have t:qaj ev (x::xs)=(qv x.state x.own ev != x.state || qaj ev xs):=rfl
  have v:qa8 (qz ev (x::xs))=if qv x.state x.own ev=9 then qa8 (qz ev xs) else aft ev x::qa8 (qz ev xs):=by
   show List.filter _ (aft ev x::qz ev xs)=_
   rw[List.filter_cons]
   show (if (!(qv x.state x.own ev==9))=true then _ else _)=_
   by_cases f:qv x.state x.own ev=9
   ·rw[if_pos f,f,if_neg (by decide)];rfl
   ·rw[if_neg f,if_pos (by simpa using f)];rfl
  rw[q,t,v]
  by_cases f:qv x.state x.own ev=9
  ·rw[if_pos f]
   have D:0<rk x.state:=by
    rcases q9j i x.own o with e | ⟨e,w⟩
    ·rw[f] at e;omega
    ·omega
   exact⟨by omega,fun _=>by omega,l⟩
  ·rw[if_neg f]
   have ea:rkL (aft ev x::qa8 (qz ev xs))=rk (qv x.state x.own ev)+rkL (qa8 (qz ev xs)):=rfl
   rw[ea]
   rcases q9j i x.own o with e | ⟨e,w⟩
   ·rw[e]
    refine⟨by omega,fun m=> ?_,?_⟩
    ·rw[bne_self_eq_false,Bool.false_or] at m
     have:=z m
     omega
    ·intro y g
     rcases List.mem_cons.1 g with rfl | g
     ·show 0≤qv x.state x.own ev∧qv x.state x.own ev≤8
      rw[e];exact i
     ·exact l y g
   ·rw[e]
    refine⟨by omega,fun _=>by omega,?_⟩
    intro y g
    rcases List.mem_cons.1 g with rfl | g
    ·show 0≤qv x.state x.own ev∧qv x.state x.own ev≤8
     rw[e] at f ⊢
     omega
    ·exact l y g
theorem q9i(xs:List Live)(x:Live):rkL (xs++[x])=rkL xs+rk x.state:=by
 unfold rkL
 rw[List.map_append,List.sum_append]
 simp
theorem q26:∀ {xs:List Live} {i:Nat} {x y:Live},xs[i]? = some x→rkL (xs.set i y)+rk x.state=rkL xs+rk y.state
 | [],_,_,_,h=>by simp at h
 | z::xs,0,x,y,h=>by
  obtain rfl:z=x:=by simpa using h
  show rk y.state+rkL xs+rk z.state=rk z.state+rkL xs+rk y.state
  omega
 | z::xs,i+1,x,y,h=>by
  have:=q26 (xs:=xs) (i:=i) (x:=x) (y:=y) (by simpa using h)
  show rk z.state+rkL (xs.set i y)+rk x.state=rk z.state+rkL xs+rk y.state
  omega
theorem qph(a b:List MsgV):mwL (a++b)=mwL a+mwL b:=by
 unfold mwL
 rw[List.map_append,List.sum_append]
theorem q4r{c:Ch}{m:MsgV}(E:St8 c.xs)(N:m.kind=3∨m.kind=4∨m.kind=5∨m.kind=6∨m.kind=7∨m.kind=8)(f:(c.hear m).2.2=0) :
  2*rkL (c.hear m).1.xs+mwL (c.hear m).2.1<2*rkL c.xs+mwt m:=by
 unfold Ch.hear at f ⊢
 by_cases z:qam m=false∨m.ch≠c.s.ch
 ·rw[if_pos z] at f;cases f
 rw[if_neg z] at f ⊢
 by_cases q:m.kind=3
 ·rw[if_pos q] at f ⊢
  have o:mwt m=10:=if_pos (.inl q)
  have f:(c.hearAdd m).2=0:=f
  show 2*rkL (c.hearAdd m).1.xs+0<_
  unfold Ch.hearAdd at f ⊢
  by_cases g:qat c m=0
  ·rw[if_pos g]
   show 2*rkL (c.xs++[qd3 m])+0<_
   rw[q9i,show rk (qd3 m).state=4 from rfl,o]
   omega
  ·rw[if_neg g] at f;exact absurd f g
 rw[if_neg q] at f ⊢
 have rem:∀ {i:Nat} {x:Live} (paid own:Bool) (id:Int),qb7 own id c.xs=some (i,x)→2*rkL (c.removed i x paid).xs+0<2*rkL c.xs+10:=by
  intro i x paid own id l
  obtain⟨H,-,-,I⟩:=qey l
  have:=q26 (y:= {x with state:=5,paid:=paid}) H
  rw[I,show rk 4=0 from rfl,show rk ({x with state:=5,paid:=paid} : Live).state=4 from rfl] at this
  show 2*rkL (c.xs.set i {x with state:=5,paid:=paid})+0<_
  omega
 by_cases t:m.kind=4
 ·rw[if_pos t] at f ⊢
  have o:mwt m=10:=if_pos (.inr (.inl t))
  have f:(c.hearFulfill m).2=0:=f
  show 2*rkL (c.hearFulfill m).1.xs+0<_
  rw[o]
  cases l:qb7 true m.id c.xs with
  | none=>rw[qjg l] at f;cases f
  | some p =>
   obtain⟨i,x⟩:=p
   rw[qjh l] at f ⊢
   by_cases F:qg7 m.hash x.h.hash.toList=true
   ·rw[if_pos F];exact rem true true _ l
   ·rw[if_neg F] at f;cases f
 rw[if_neg t] at f ⊢
 by_cases v:m.kind=5
 ·rw[if_pos v] at f ⊢
  have o:mwt m=10:=if_pos (.inr (.inr v))
  have f:(c.hearFail m).2=0:=f
  show 2*rkL (c.hearFail m).1.xs+0<_
  rw[o]
  cases l:qb7 true m.id c.xs with
  | none=>rw[qhz l] at f;cases f
  | some p =>
   obtain⟨i,x⟩:=p
   rw[qh0 l]
   exact rem false true _ l
 rw[if_neg v] at f ⊢
 have o:mwt m=1:=if_neg (by omega)
 rw[o]
 by_cases C:m.kind=6
 ·rw[if_pos C] at f ⊢
  unfold Ch.hearSign at f ⊢
  by_cases g:qb8 c m=0
  ·rw[if_pos g]
   have w:qaj 3 c.xs=true:=by
    unfold qb8 at g
    cases w:qaj 3 c.xs with
    | true=>rfl
    | false=>rw[w,if_pos rfl] at g;cases g
   obtain⟨-,a2,a3⟩:=qir E (ev:=3) (by decide)
   have a2:=a2 w
   obtain⟨b1,-,-⟩:=qir a3 (ev:=4) (by decide)
   show 2*rkL (qa8 (qz 4 (qa8 (qz 3 c.xs))))+mwL [c.signedBy.revocation]<_
   have L:mwL [c.signedBy.revocation]=1:=rfl
   rw[L]
   have b1:rkL (qa8 (qz 4 (qa8 (qz 3 c.xs))))≤rkL (qa8 (qz 3 c.xs)):=b1
   have a2:rkL (qa8 (qz 3 c.xs))<rkL c.xs:=a2
   omega
  ·rw[if_neg g] at f;exact absurd f g
 rw[if_neg C] at f ⊢
 by_cases D:m.kind=7
 ·rw[if_pos D] at f ⊢
  have f:(c.hearRevoke m).2=0:=f
  show 2*rkL (c.hearRevoke m).1.xs+0<_
  unfold Ch.hearRevoke at f ⊢
  by_cases g:qjr c m=0
  ·rw[if_pos g]
   have b1:rkL (qa8 (qz 2 c.xs))≤rkL c.xs:=(qir E (ev:=2) (by decide)).1
   show 2*rkL (qa8 (qz 2 c.xs))+0<_
   omega
  ·rw[if_neg g] at f;exact absurd f g
 rw[if_neg D] at f ⊢
 have f:c.hearShut.2=0:=f
 show 2*rkL c.hearShut.1.xs+0<_
 unfold Ch.hearShut at f ⊢
 split
 ·rename_i M;rw[if_pos M] at f;cases f
 ·show 2*rkL c.xs+0<_
  omega
theorem q50{c:Ch}(i:St8 c.xs)(f:qbo c=0):2*rkL c.sign.1.xs+mwt c.sign.2.1<2*rkL c.xs:=by
 have g:qaj 1 c.xs=true:=by
  unfold qbo at f
  split at f
  ·cases f
  ·cases g:qaj 1 c.xs with
   | true=>rfl
   | false=>rw[g,if_pos rfl] at f;cases f
 unfold Ch.sign
 rw[if_pos f]
 have a2:rkL (qa8 (qz 1 c.xs))<rkL c.xs:=(qir i (ev:=1) (by decide)).2.1 g
 show 2*rkL (qa8 (qz 1 c.xs))+1<_
 omega
def Pr.mu(P:Pr):Nat:=2*(rkL P.a.xs+rkL P.b.xs)+mwL P.wa+mwL P.wb
section
variable {K:Kon}{n k:Nat}{P:Pr}{J:Pr→Prop}
theorem qb2.st8{s:Bool}{a b:Ch}{wa wb:List MsgV}(h:qb2 K n s a b wa wb):St8 a.xs:=by
 obtain⟨Q,h,rfl,rfl,rfl,rfl,rfl⟩:=h
 intro x i
 obtain⟨j,g,-,e,f⟩:=qfv h.ea.perm i
 rw[e]
 exact f
theorem qqj{c:Ch}{m:MsgV}(h:Said K.ch m):c.hears m=c.hear m:=by
 unfold Ch.hears
 rw[if_neg]
 have:=h.kind
 omega
theorem qqk(i:K.Ok)(l:n<100000){s:Bool}{a b:Ch}{m:MsgV}{wa wb:List MsgV}(h:qb2 K n s a b (m::wa) wb):2*rkL (a.hears m).1.xs+mwL (a.hears m).2.1<2*rkL a.xs+mwt m:=by
 obtain⟨f,g,-⟩:=h.hears i (by omega)
 rw[qqj f] at g ⊢
 exact q4r h.st8 f.kind g
theorem PInv.hears_mu(g:K.Ok)(i:n<100000)(h:PInv K n P)(o:k<2):((P.heard k).2=true→(P.heard k).1.mu<P.mu)∧((P.heard k).2=false→(P.heard k).1=P∧P.way k=[]):=by
 have l:=(h.side o).1
 obtain⟨a,b,wa,wb,bad⟩:=P
 rcases (by omega:k=0∨k=1) with rfl | rfl
 ·cases wa with
  | nil=>exact⟨(fun e=>by cases e),fun _=>⟨rfl,rfl⟩⟩
  | cons m f =>
   have q:2*rkL (a.hears m).1.xs+mwL (a.hears m).2.1<2*rkL a.xs+mwt m:=qqk g i l
   refine⟨fun _=> ?_,fun e=>by cases e⟩
   show 2*(rkL (a.hears m).1.xs+rkL b.xs)+mwL f+mwL (wb++(a.hears m).2.1)<2*(rkL a.xs+rkL b.xs)+(mwt m+mwL f)+mwL wb
   rw[qph]
   omega
 ·cases wb with
  | nil=>exact⟨(fun e=>by cases e),fun _=>⟨rfl,rfl⟩⟩
  | cons m f =>
   have q:2*rkL (b.hears m).1.xs+mwL (b.hears m).2.1<2*rkL b.xs+mwt m:=qqk g i l
   refine⟨fun _=> ?_,fun e=>by cases e⟩
   show 2*(rkL a.xs+rkL (b.hears m).1.xs)+mwL (wa++(b.hears m).2.1)+mwL f<2*(rkL a.xs+rkL b.xs)+mwL wa+(mwt m+mwL f)
   rw[qph]
   omega
theorem qy0(c:Ch):c.sign.2.2=qbo c:=by
 unfold Ch.sign
 split
 ·rename_i h;exact h.symm
 ·rfl
theorem q2z(m:MsgV):mwL [m]=mwt m:=by unfold mwL;simp
theorem PInv.sign_mu(h:PInv K n P)(i:k<2):((P.en k).sign.2.2=0→(P.act k (P.en k).sign).mu<P.mu)∧((P.en k).sign.2.2≠0→P.act k (P.en k).sign=P∧qbo (P.en k)≠0):=by
 have g:=(h.side i).1.st8
 refine⟨fun e=> ?_,fun e=> ?_⟩
 ·have f:=q50 g (by rw[←qy0];exact e)
  obtain⟨a,b,wa,wb,bad⟩:=P
  rcases (by omega:k=0∨k=1) with rfl | rfl
  ·have f:2*rkL a.sign.1.xs+mwt a.sign.2.1<2*rkL a.xs:=f
   have e:a.sign.2.2=0:=e
   show 2*(rkL a.sign.1.xs+rkL b.xs)+mwL wa+mwL (qed wb a.sign.2.1 a.sign.2.2)<2*(rkL a.xs+rkL b.xs)+mwL wa+mwL wb
   unfold qed
   rw[if_pos e,qph,q2z]
   omega
  ·have f:2*rkL b.sign.1.xs+mwt b.sign.2.1<2*rkL b.xs:=f
   have e:b.sign.2.2=0:=e
   show 2*(rkL a.xs+rkL b.sign.1.xs)+mwL (qed wa b.sign.2.1 b.sign.2.2)+mwL wb<2*(rkL a.xs+rkL b.xs)+mwL wa+mwL wb
   unfold qed
   rw[if_pos e,qph,q2z]
   omega
 ·rw[qy0] at e
  refine⟨?_,e⟩
  rw[qrl rfl e]
  obtain⟨a,b,wa,wb,bad⟩:=P
  rcases (by omega:k=0∨k=1) with rfl | rfl
  ·have e:qbo a≠0:=e
   show (⟨a,b,wa,qed wb MsgV.zero (qbo a),bad⟩:Pr)=_
   unfold qed
   rw[if_neg e]
  ·have e:qbo b≠0:=e
   show (⟨a,b,qed wa MsgV.zero (qbo b),wb,bad⟩:Pr)=_
   unfold qed
   rw[if_neg e]
structure Pr.Rest(P:Pr):Prop where
 wa:P.wa=[]
 wb:P.wb=[]
 sa:qbo P.a≠0
 sb:qbo P.b≠0
structure Stays(K:Kon)(J:Pr→Prop):Prop where
 hears:∀ {n k:Nat} {P:Pr},n<100000→k<2→PInv K n P→J P→J (P.heard k).1
 signs:∀ {n k:Nat} {P:Pr},n<100000→k<2→PInv K n P→J P→J (P.act k (P.en k).sign)
theorem Stays.triv:Stays K fun _=>True:=⟨fun _ _ _ _=>trivial,fun _ _ _ _=>trivial⟩
structure RdK(K:Kon)(J:Pr→Prop)(n:Nat)(R:Pr)(k:Nat)(P:Pr)(went:Bool):Prop where
 inv:PInv K (n+k) P
 j:J P
 yes:went=true→P.mu<R.mu
 no:went=false→P=R∧R.wa=[]∧R.wb=[]∧(1≤k→qbo R.a≠0)∧(2≤k→qbo R.b≠0)
theorem RdK.start(g:K.Ok)(m:Stays K J)(x:n<99000)(h:PInv K n P)(j:J P):RdK K J n P 0 (((P.heard 0).1).heard 1).1 ((((P.heard 0).1).heard 1).2 || (P.heard 0).2):=by
 have l:=h.heard g (by omega) (k:=0) (by decide)
 have w:=l.heard g (by omega) (k:=1) (by decide)
 obtain⟨a1,a2⟩:=h.hears_mu g (by omega) (k:=0) (by decide)
 obtain⟨b1,b2⟩:=l.hears_mu g (by omega) (k:=1) (by decide)
 refine⟨w,m.hears (by omega) (by decide) l (m.hears (by omega) (by decide) h j),fun e=> ?_,fun e=> ?_⟩
 ·cases i:(P.heard 0).2 with
  | true =>
   have a1:=a1 i
   cases f:((P.heard 0).1.heard 1).2 with
   | true=>have:=b1 f;omega
   | false=>rw[(b2 f).1];exact a1
  | false =>
   rw[i,Bool.or_false] at e
   have:=b1 e
   rw[(a2 i).1] at this ⊢
   exact this
 ·rw[Bool.or_eq_false_iff] at e
  obtain⟨o,q⟩:=a2 e.2
  have f:=e.1
  rw[o] at b2 f ⊢
  obtain⟨t,v⟩:=b2 f
  exact⟨t,q,v,(fun h=>by omega),fun h=>by omega⟩
theorem RdK.step(D:K.Ok)(C:Stays K J)(F:n<99000){R:Pr}{b:Bool}(m:k<2)(h:RdK K J n R k P b):RdK K J n R (k+1) (P.act k (P.en k).sign) (b || ((P.en k).sign.2.2==0)):=by
 obtain⟨i,z,l,o⟩:=h
 obtain⟨q,t⟩:=i.sign_mu m
 refine⟨(i.sign D m).1,C.signs (by omega) m i z,fun e=> ?_,fun e=> ?_⟩
 ·cases b with
  | true =>
   have l:=l rfl
   by_cases f:(P.en k).sign.2.2=0
   ·have:=q f;omega
   ·rw[(t f).1];exact l
  | false =>
   rw[Bool.false_or,beq_iff_eq] at e
   have:=q e
   rw[(o rfl).1] at this ⊢
   exact this
 ·rw[Bool.or_eq_false_iff,beq_eq_false_iff_ne] at e
  obtain⟨rfl,e⟩:=e
  obtain⟨g,v,w,x,E⟩:=o rfl
  obtain⟨y,f⟩:=t e
  rw[y]
  refine⟨g,v,w,fun _=> ?_,fun h=> ?_⟩
  ·rcases (by omega:k=0∨k=1) with rfl | rfl
   ·rw[g] at f;exact f
   ·exact x (by decide)
  ·rcases (by omega:k=0∨k=1) with rfl | rfl
   ·omega
   ·rw[g] at f;exact f
end
attribute [local go_sem ↓ high] qab qac qag
attribute [local go_sem] qcy qc0 qc2 zq
section
variable {w0 w:World}{p:Nat}{g:Nat→Nat}{K:Kon}{n:Nat}{P:Pr}{J:Pr→Prop}
def RsI(K:Kon)(J:Pr→Prop)(w0:World)(p n i:Nat)(wr:World):Prop:=∃R g,PInv K (n+2*i) R∧J R∧R.mu+i<500∧PrK w0 wr p g R []
def RsK(K:Kon)(J:Pr→Prop)(w0:World)(p n i:Nat)(R:Pr)(k:Nat)(b:Bool)(wr:World):Prop:=R.mu+i<500∧∃f g,RdK K J (n+2*i) R k f b∧PrK w0 wr p g f []
theorem RsK.next{i:Nat}{R:Pr}{wr:World}(h:RsK K J w0 p n i R 2 true wr):RsI K J w0 p n (i+1) wr:=by
 obtain⟨o,l,g',f,m⟩:=h
 have:=f.yes rfl
 exact⟨l,g',f.inv,f.j,by omega,m⟩
theorem RsK.stop{i:Nat}{R:Pr}{wr:World}(h:RsK K J w0 p n i R 2 false wr):∃Q g',PrK w0 wr p g' Q []∧PInv K (n+1000) Q∧J Q∧Q.Rest:=by
 obtain⟨x,l,g',f,v⟩:=h
 obtain⟨rfl,m,o,q,t⟩:=f.no rfl
 exact⟨l,g',v,f.inv.mono (by omega),f.j,⟨m,o,q (by decide),t (by decide)⟩⟩
set_option maxRecDepth 100000 in
set_option maxHeartbeats 2000000 in
theorem ql3(hT:Tb w0)(o:K.Ok)(hJ:Stays K J)(hn:n<50000)(H:PrK w0 w p g P [])(hI:PInv K n P)(hj:J P)(hm:P.mu<500) :
  Calls Tryz.prog 26 #[.pointer (some ⟨p,0,none⟩)] w fun e w'=>e = .returned (.tuple #[])∧∃Q g',PrK w0 w' p g' Q []∧PInv K (n+1000) Q∧J Q∧Q.Rest:=by
 have M:Hid (RsI K J w0 p n 0 w):=qb ⟨P,g,hI,hj,by omega,H⟩
 clear H hI hj hm
 go_enter Tryz.func26,Tryz.ntmps26
 go_wp2_with fail
 go_loopw [2] (fun iv wr=>∃i:Nat,iv = .int .i64 (i:Int)∧i<500∧Hid (RsI K J w0 p n i wr)) (fun iv _=>500-(intOf iv).toNat)
 case atStart=>exact⟨0,rfl,by decide,M⟩
 case round =>
  obtain⟨i,rfl,hi,v⟩:=hrel
  obtain⟨T,rfl⟩:∃T:World,T=wr:=⟨_,rfl⟩
  have a9:(i:Int)<500:=by omega
  obtain⟨R,g1,W,j1,m1,H1⟩:=qa v
  have x:=qqi hT H1 (k:=0) (by decide) (W.hok o (by omega) (by decide))
  have i2:=W.heard o (by omega) (k:=0) (by decide)
  have q:=RdK.start o hJ (by omega) W j1
  have okB:=qb (i2.hok o (by omega) (k:=1) (by decide))
  have N:=qb q
  have f:=qb m1
  simp only[Int.ofNat_eq_natCast,Int.natCast_zero] at x
  generalize a4:(R.heard 0).2=b0 at *
  generalize Y:(R.heard 0).1=R0 at *
  clear v M W j1 m1 H1 i2 q a4 Y
  go_wp2_with (with_reducible first|(first|refine' zr (qg ?_) ?_|refine' zt (qg ?_) ?_);rotate_left|refine' zu (qg ?_)|rfl|apply tn|refine' zv ?_)
  refine x.mono ?_
  rintro e wa ⟨rfl,g2,L⟩
  have y:=qqi hT L (k:=1) (by decide) (qa okB)
  simp only[Int.natCast_one] at y
  generalize a5:(R0.heard 1).2=b1 at *
  generalize Z:(R0.heard 1).1=R1 at *
  clear x L okB a5 Z
  go_wp2_with (with_reducible first|(first|refine' zr (qg ?_) ?_|refine' zt (qg ?_) ?_);rotate_left|refine' zu (qg ?_)|rfl|apply tn|refine' zv ?_)
  refine y.mono ?_
  rintro e wb ⟨rfl,g3,l⟩
  have M:Hid (RsK K J w0 p n i R 0 (b1 || b0) wb):=qb ⟨qa f,R1,g3,qa N,l⟩
  clear y l N f
  cases b1<;>cases b0
  all_goals
   go_wp2_with (with_reducible first|(first|refine' zr (qg ?_) ?_|refine' zt (qg ?_) ?_);rotate_left|refine' zu (qg ?_)|rfl|apply tn|refine' zv ?_)
   go_loopw [3,4] (fun gv kv wr=>∃(b:Bool) (k:Nat),gv = .bool b∧kv = .int .i64 (k:Int)∧k≤2∧Hid (RsK K J w0 p n i R k b wr)) (fun _ kv _=>2-(intOf kv).toNat)
   case atStart=>exact⟨_,0,rfl,rfl,by decide,M⟩
   case round =>
    obtain⟨b,k,rfl,rfl,b4,v⟩:=hrel
    obtain⟨T,rfl⟩:∃T:World,T=wr:=⟨_,rfl⟩
    clear M
    by_cases I:k<2
    ·have b3:(k:Int)<2:=by omega
     obtain⟨m1,F,g4,q,E⟩:=qa v
     have he:=q.inv.end o (by omega) I
     have D:=zde hT E I (he.sign o (by omega))
     have C:=(q.inv.sign o I).2
     have a7:=q.inv.long
     have O:=qb (RdK.step o hJ (by omega) I q)
     have f:=qb m1
     have cp:=E.cell I
     have HT:=qb (show (F.set k (F.en k).sign.1).wa.length<1000000∧(F.set k (F.en k).sign.1).wb.length<1000000 by rw[(qci _ _ _).1,(qci _ _ _).2];omega)
     generalize (F.en k).sign=r at *
     obtain⟨c',m,e⟩:=r
     have z:=C.len
     have HM:=qb C
     simp only at D z
     clear v m1 q E he C a7
     go_wp2_with (with_reducible first|(first|refine' zr (qg ?_) ?_|refine' zt (qg ?_) ?_);rotate_left|refine' zu (qg ?_)|rfl|apply tn|refine' zv ?_)
     refine D.mono ?_
     rintro ee X ⟨rfl,L⟩
     obtain⟨a8,hF,nF⟩:=qes X m z
     have l:=L.fresh m z
     have U:=qb hF
     have l:=qb l
     clear D L hF nF cp
     go_upto_region 9 with (with_reducible first|(first|refine' zr (qg ?_) ?_|refine' zt (qg ?_) ?_);rotate_left|refine' zu (qg ?_)|rfl|apply tn|refine' zv ?_)
     change Code.wp _ _ _ _ (qea X m)
     generalize qea X m=w3 at U l ⊢
     generalize X.heap.size=Km at U l ⊢
     have hr:=(qa U).row
     have t:=qop (qa l) I m e (qa HM) (qa HT)
     clear a8
     go_wp2_with (with_reducible first|(first|refine' zr (qg ?_) ?_|refine' zt (qg ?_) ?_);rotate_left|refine' zu (qg ?_)|rfl|apply tn|refine' zv ?_)
     refine t.mono ?_
     rintro ee w4 ⟨rfl,g',E⟩
     have V:Hid (RsK K J w0 p n i R (k+1) (b || (e==0)) w4):=qb ⟨qa f,_,g',qa O,E.drop⟩
     clear t hr U l HM HT O f E
     cases b
     all_goals
      go_wp2_with (with_reducible first|(first|refine' zr (qg ?_) ?_|refine' zt (qg ?_) ?_);rotate_left|refine' zu (qg ?_)|rfl|apply tn|refine' zv ?_)
      all_goals
       go_roundw
       case rel=>exact⟨_,k+1,rfl,by go_num,by omega,by simpa [*] using V⟩
       case measure=>simp[intOf];omega
    ·obtain rfl:k=2:=by omega
     cases b
     ·go_wp2_with (with_reducible first|(first|refine' zr (qg ?_) ?_|refine' zt (qg ?_) ?_);rotate_left|refine' zu (qg ?_)|rfl|apply tn|refine' zv ?_)
      refine bodyPost_ret (results_none rfl _ _ _) rfl ?_
      exact⟨rfl,(qa v).stop⟩
     ·have V:=qb (qa v).next
      have a6:i+1<500:=by
       obtain⟨F,g',-,-,m,-⟩:=qa V
       omega
      go_wp2_with (with_reducible first|(first|refine' zr (qg ?_) ?_|refine' zt (qg ?_) ?_);rotate_left|refine' zu (qg ?_)|rfl|apply tn|refine' zv ?_)
      go_roundw
      case rel=>exact⟨i+1,by go_num,a6,V⟩
      case measure=>simp[intOf];omega
end
end Go.Proofs.YtjpmomdechibmaaGreatDoor
namespace Go.Proofs.YtjpmomdechibmaaGreatDoor
open Go.RowKit
section
variable {p:Gi→Bool}{G:List Gi}
theorem qxs:∀(n:Nat) (l:List Nat),n≤G.length→l.Nodup→(∀j∈l,j<n∧∃g,G[j]? = some g∧p g=true)→(l.length:Int)≤cnt p (G.take n)
 | 0,[],_,_,_=>Int.le_refl _
 | 0,j::l,_,_,h=>absurd (h j (List.mem_cons_self ..)).1 (Nat.not_lt_zero _)
 | n+1,l,x,o,h=>by
  have m:=qxs n (l.erase n) (by omega) (o.erase n) fun j t=>by
   obtain⟨a,b⟩:=h j (List.mem_of_mem_erase t)
   have v:j≠n:=fun e=>by
    subst e
    exact(List.Nodup.not_mem_erase o) t
   exact⟨by omega,b⟩
  obtain⟨g,q⟩:∃g,G[n]? = some g:=⟨_,List.getElem?_eq_getElem (by omega)⟩
  rw[List.take_add_one,q]
  show _≤cnt p (G.take n++[g])
  rw[qcw]
  by_cases i:n∈l
  ·obtain⟨-,g',f,w⟩:=h n i
   rw[q] at f
   obtain rfl:g=g':=Option.some.inj f
   rw[List.length_erase_of_mem i] at m
   have:=List.length_pos_of_mem i
   rw[if_pos w]
   omega
  ·rw[List.erase_of_not_mem i] at m
   split<;>omega
theorem Idx.cnt{l:List Nat}(h:Idx G p l):(l.length:Int)≤cnt p G:=by
 have:=qxs (p:=p) (G:=G) G.length l (Nat.le_refl _) h.nd fun j f=>⟨h.lt f,(h.iff j).1 f⟩
 rwa [List.take_length] at this
end
theorem zem(m:MsgV):mwt m≤10:=by unfold mwt;split<;>decide
theorem qvc(s:Bool)(c:Ch)(G:List Gi):∀e:List En,mwL (msE s c G e)≤9*(ups e).length+e.length
 | []=>Nat.le_refl _
 | x::e=>by
  have l:=qvc s c G e
  have i:mwL (msE s c G (x::e))=mwt (enM s c G x)+mwL (msE s c G e):=rfl
  rw[i,List.length_cons]
  cases x with
  | upd j =>
   have f:(ups (.upd j::e)).length=(ups e).length+1:=rfl
   have:=zem (enM s c G (.upd j))
   rw[f]
   omega
  | sgn =>
   have f:(ups (.sgn::e)).length=(ups e).length:=rfl
   have g:mwt (enM s c G .sgn)=1:=if_neg (show ¬((6:Int)=3∨(6:Int)=4∨(6:Int)=5) by decide)
   rw[f,g]
   omega
  | rev =>
   have f:(ups (.rev::e)).length=(ups e).length:=rfl
   have g:mwt (enM s c G .rev)=1:=if_neg (show ¬((7:Int)=3∨(7:Int)=4∨(7:Int)=5) by decide)
   rw[f,g]
   omega
  | shut =>
   have f:(ups (.shut::e)).length=(ups e).length:=rfl
   have g:mwt (enM s c G .shut)=1:=if_neg (show ¬((8:Int)=3∨(8:Int)=4∨(8:Int)=5) by decide)
   rw[f,g]
   omega
theorem q5n:∀x∈qav,x.2.2.1≠0→0≤x.1∧x.1≤8:=by decide +kernel
section
variable {K:Kon}{n:Nat}
theorem zcg{P:Pt}(h:Inv K n P):(ups P.eo).length+(ups P.ei).length≤16:=by
 have y:=h.ab.upd.cnt
 have z:=h.ba.upd.cnt
 have C:=h.ea.many
 have D:=h.eb.many
 have E:cnt (Gi.pend P.s) P.G+cnt (Gi.pend (!P.s)) P.G≤cnt (qbi P.s) P.G+cnt (qbi (!P.s)) P.G:=by
  unfold cnt
  rw[qhq,qhq]
  refine qg9 fun g w=> ?_
  have x:=h.it g w
  have q:=q5n _ x
  have t:(g.it P.s (qk P.eo) (qk P.ei)).2.2.1=g.up:=rfl
  have v:(g.it P.s (qk P.eo) (qk P.ei)).1=g.so:=rfl
  rw[t,v] at q
  unfold Gi.pend qbi
  rcases za g.own P.s with o | o
  ·rw[o]
   by_cases l:g.up=0
   ·rw[l];simp;split<;>omega
   ·obtain⟨f,i⟩:=q l
    have a1:decide (0≤g.so)=true:=decide_eq_true f
    have a2:decide (g.so≤8)=true:=decide_eq_true i
    by_cases m:g.up=1
    ·simp[m,a1,a2,f,i]
    ·simp[m,a1,a2,f,i];split<;>omega
  ·rw[o]
   by_cases l:g.up=0
   ·rw[l];simp;split<;>omega
   ·obtain⟨f,i⟩:=q l
    have a1:decide (0≤g.so)=true:=decide_eq_true f
    have a2:decide (g.so≤8)=true:=decide_eq_true i
    by_cases m:g.up=1
    ·simp[m,a1,a2,f,i]
    ·simp[m,a1,a2,f,i];split<;>omega
 omega
theorem q9h{xs:List Live}(h:St8 xs):rkL xs≤4*xs.length:=by
 induction xs with
 | nil=>exact Nat.le_refl _
 | cons x xs f =>
  have f:=f fun y g=>h y (List.mem_cons_of_mem _ g)
  have i:=h x (List.mem_cons_self ..)
  have e:rkL (x::xs)=rk x.state+rkL xs:=rfl
  have:rk x.state≤4:=by unfold rk;split<;>omega
  rw[e,List.length_cons]
  omega
theorem PInv.mu{P:Pr}(h:PInv K n P):P.mu<500:=by
 have t:=h.1.st8
 have v:=h.1.flip.st8
 obtain⟨Q,f,-,i,l,m,o⟩:=h.1
 have q:=qqz f
 have g:=qqz f.flip
 have g:Q.d.xs.length≤16:=g
 rw[i] at q
 rw[l] at g
 have x:=q9h t
 have y:=q9h v
 have u:=zcg f
 have l1:=qev f.ab.w9 f.ab.shut
 have l2:=qev f.ba.w9 f.ba.shut
 have m1:mwL P.wb≤9*(ups Q.eo).length+Q.eo.length:=by rw[←m];exact qvc _ _ _ _
 have w:mwL P.wa≤9*(ups Q.ei).length+Q.ei.length:=by rw[←o];exact qvc _ _ _ _
 have l1:Q.eo.length≤(ups Q.eo).length+3:=by
  repeat' split at l1
  all_goals omega
 have l2:Q.ei.length≤(ups Q.ei).length+3:=by
  repeat' split at l2
  all_goals omega
 unfold Pr.mu
 omega
def qmc(x:Live):Live:= {x with own:= !x.own}
structure Quiet(a b:Ch):Prop where
 loc:a.loc=b.rem
 rem:a.rem=b.loc
 mir:b.xs.Perm (a.xs.map qmc)
 four:∀x∈a.xs,x.state=4∧x.paid=false
 sab:a.k.signed=b.k.heard
 sba:b.k.signed=a.k.heard
 aw:a.k.awaits=false∧b.k.awaits=false
 shut:a.k.shutSaid=b.k.shutHeard∧b.k.shutSaid=a.k.shutHeard
theorem qx5(own:Bool):qv (-1) own 1 = -1∧qv 9 own 1=9:=by cases own<;>decide +kernel
theorem qtn{s:Bool}{c:Ch}{G:List Gi}(m:c.xs.Perm (G.filterMap (qs s).show))(i:qaj 1 c.xs=false)(o:∀g∈G,-1≤(qs s).st g∧(qs s).st g≤9):∀g∈G,qv ((qs s).st g) ((qs s).mine g) 1=(qs s).st g:=by
 intro g f
 by_cases h:0≤(qs s).st g∧(qs s).st g≤8
 ·have q:(qs s).show g=some ⟨g.h,(qs s).mine g,(qs s).st g,(qs s).paid g&&decide (5≤(qs s).st g)⟩:=by unfold Seen.show qaw;rw[if_pos h];rfl
  have l:(⟨g.h,(qs s).mine g,(qs s).st g,(qs s).paid g&&decide (5≤(qs s).st g)⟩:Live)∈c.xs:=m.mem_iff.2 (List.mem_filterMap.2 ⟨g,f,q⟩)
  have:=List.any_eq_false.1 i _ l
  unfold chg at this
  simpa using this
 ·have:=o g f
  rcases (by omega:(qs s).st g = -1∨(qs s).st g=9) with e | e
  ·rw[e];exact(qx5 _).1
  ·rw[e];exact(qx5 _).2
theorem qp8{α β:Type}{f h:α→Option β} : ∀ {G:List α},(∀g∈G,f g=h g)→G.filterMap f=G.filterMap h
 | [],_=>rfl
 | g::G,e=>by
  rw[List.filterMap_cons,List.filterMap_cons,e g (List.mem_cons_self ..),qp8 fun y i=>e y (List.mem_cons_of_mem _ i)]
theorem q20{s:Bool}{c:Ch}{G:List Gi}{e:List En}(h:msE s c G e=[]):e=[]:=by
 cases e with
 | nil=>rfl
 | cons x e=>cases h
theorem quiet_of{P:Pr}(hn:n<65535)(h:PInv K n P)(hr:P.Rest):Quiet P.a P.b:=by
 obtain⟨h1,-,sa,sb⟩:=h
 obtain⟨Q,hQ,-,o,m,U,V⟩:=h1
 obtain⟨Z,r2,O,R⟩:=hr
 rw[←o] at O sa ⊢
 rw[←m] at R sb ⊢
 have X:Q.eo=[]:=q20 (U.trans r2)
 have Y:Q.ei=[]:=q20 (V.trans Z)
 clear o m U V Z r2
 obtain⟨s,c,d,eo,ei,G,la,nu,lb,nv⟩:=Q
 obtain⟨ea,eb,ab,ba,it,ok,pw,few⟩:=hQ
 simp only at ea eb ab ba it X Y O R sa sb ⊢
 subst X
 subst Y
 have a1:c.k.awaits=false:=ab.aw
 have a2:d.k.awaits=false:=ba.aw
 have g1:c.k.signed=d.k.heard:=by have:=ab.sig;rw[if_neg (by decide),Int.add_zero] at this;exact this
 have g2:d.k.signed=c.k.heard:=by have:=ba.sig;rw[if_neg (by decide),Int.add_zero] at this;exact this
 have c1:qaj 1 c.xs=false:=by
  cases J:qaj 1 c.xs with
  | false=>rfl
  | true=>exact absurd (by unfold qbo;rw[a1,J,if_neg (by decide),if_neg (by decide),if_neg (by omega)]) O
 have c2:qaj 1 d.xs=false:=by
  cases J:qaj 1 d.xs with
  | false=>rfl
  | true=>exact absurd (by unfold qbo;rw[a2,J,if_neg (by decide),if_neg (by decide),if_neg (by omega)]) R
 have t1:=qtn ea.perm c1 (qep it s)
 have t2:=qtn eb.perm c2 (qep it (!s))
 have N:∀g∈G,g.up=0:=by
  intro g f
  obtain⟨j,F⟩:=List.getElem?_of_mem f
  by_cases H:g.up=0
  ·exact H
  ·have h2:=(qto _ (it g f)).2.2.2.2
   have e1:(g.it s (qk []) (qk [])).2.2.1=g.up:=rfl
   rw[e1] at h2
   rcases za g.own s with i | i
   ·rcases (by omega:g.up=1∨g.up=2) with u | u
    ·have:=(ab.upd.iff j).2 ⟨g,F,by unfold Gi.pend;rw[i,u];simp⟩
     cases this
    ·have:=(ba.upd.iff j).2 ⟨g,F,by unfold Gi.pend;rw[i,u];simp⟩
     cases this
   ·rcases (by omega:g.up=1∨g.up=2) with u | u
    ·have:=(ba.upd.iff j).2 ⟨g,F,by unfold Gi.pend;rw[i,u];simp⟩
     cases this
    ·have:=(ab.upd.iff j).2 ⟨g,F,by unfold Gi.pend;rw[i,u];simp⟩
     cases this
 have t:∀g∈G,(g.so = -1∧g.st = -1)∨(g.so=4∧g.st=4)∨(g.so=9∧g.st=9):=by
  intro g f
  have E:=it g f
  have w:=t1 g f
  have y:=t2 g f
  have H:=N g f
  have m1:(qs s).mine g=(g.own==s):=rfl
  have m2:(qs (!s)).mine g=(g.own == !s):=rfl
  have L:(qs s).st g=if g.own=s then g.so else g.st:=rfl
  have M:(qs (!s)).st g=if g.own = !s then g.so else g.st:=rfl
  rw[m1,L] at w
  rw[m2,M] at y
  rcases za g.own s with i | i
  ·have I:(g.own==s)=true:=by rw[i];simp
   have q:(g.own == !s)=false:=by rw[i];simp
   rw[if_pos i,I] at w
   rw[if_neg (qg6 i),q] at y
   rw[qdd i] at E
   exact qrd _ E H rfl rfl w y
  ·have I:(g.own==s)=false:=by rw[i];simp
   have q:(g.own == !s)=true:=by rw[i];simp
   rw[if_neg (qbv i),I] at w
   rw[if_pos i,q] at y
   rw[qdj i] at E
   exact qrd _ E H rfl rfl y w
 have l:∀g∈G,(qs s).st g=g.so∧(qs (!s)).st g=g.so:=by
  intro g f
  have L:(qs s).st g=if g.own=s then g.so else g.st:=rfl
  have M:(qs (!s)).st g=if g.own = !s then g.so else g.st:=rfl
  have:=t g f
  rw[L,M]
  constructor<;>split<;>omega
 have mine:∀g:Gi,(qs (!s)).mine g = !(qs s).mine g:=by
  intro g
  show (g.own == !s) = !(g.own==s)
  cases g.own<;>cases s<;>rfl
 have T:∀g∈G,(qs (!s)).show g=((qs s).show g).map qmc:=by
  intro g f
  obtain⟨C,D⟩:=l g f
  unfold Seen.show qaw
  rw[C,D,mine]
  by_cases h:0≤g.so∧g.so≤8
  ·rw[if_pos h,if_pos h];rfl
  ·rw[if_neg h,if_neg h];rfl
 have e5:c.loc=d.rem:=by
  rw[ea.loc,eb.rem,Bool.not_not]
  congr 1
  unfold Seen.conL Seen.conR
  refine qd1 fun g f=> ?_
  obtain⟨C,D⟩:=l g f
  rw[C,D,mine,Bool.not_not]
  rfl
 have e6:c.rem=d.loc:=by
  rw[ea.rem,eb.loc]
  congr 1
  unfold Seen.conL Seen.conR
  refine qd1 fun g f=> ?_
  obtain⟨C,D⟩:=l g f
  rw[C,D,mine]
  rfl
 refine⟨e5,e6,?_,?_,g1,g2,⟨a1,a2⟩,ab.shut,ba.shut⟩
 ·refine eb.perm.trans (List.Perm.trans ?_ (ea.perm.map qmc).symm)
  rw[List.map_filterMap]
  have:G.filterMap (qs (!s)).show=G.filterMap fun g=>((qs s).show g).map qmc:=by
   exact qp8 fun g f=>T g f
  rw[this]
 ·intro x hx
  obtain⟨g,f,v⟩:=List.mem_filterMap.1 (ea.perm.mem_iff.1 hx)
  unfold Seen.show qaw at v
  have z:=(l g f).1
  rw[z] at v
  split at v
  ·rename_i h
   obtain rfl:=Option.some.inj v
   have W:g.so=4:=by have:=t g f;omega
   refine⟨W,?_⟩
   show (_&&decide (5≤g.so))=false
   rw[W]
   simp
  ·cases v
end
end Go.Proofs.YtjpmomdechibmaaGreatDoor
