/-
  Law 13: an act, plain: what it makes of the pair; it keeps the protocol.
-/
import Derived.Test.YthnohmjbbeahmaaGreatDoorMdh
import Derived.Test.YthnohmjbbeahmaaGreatDoorMdi
import Derived.Test.YthnohmjbbeahmaaGreatDoorPr3
set_option linter.unusedVariables false
set_option linter.unusedSimpArgs false
namespace Go.Proofs.YthnohmjbbeahmaaGreatDoor
open Go.RowKit
structure ActV where
 kind:Int
 side:Int
 expiry:Int
 n:Int
 id:Int
 p:Int
 rest:List Value
def ActV.cells(x:ActV):List Value:= .int .i64 x.kind :: .int .i64 x.side :: .int .i64 x.expiry :: .int .u64 x.n :: .int .u64 x.id :: .int .u8 x.p::x.rest
structure ActV.Ok(x:ActV):Prop where
 kind : -9223372036854775808≤x.kind∧x.kind≤9223372036854775807
 side : -9223372036854775808≤x.side∧x.side≤9223372036854775807
 expiry : -9223372036854775808≤x.expiry∧x.expiry≤9223372036854775807
 n:0≤x.n∧x.n<18446744073709551616
 id:0≤x.id∧x.id<18446744073709551616
 p:0≤x.p∧x.p≤255
 rest:x.rest.length=38
def ActV.k(x:ActV):Nat:=(x.side%2).toNat
theorem ActV.k_lt(x:ActV):x.k<2:=by unfold ActV.k;omega
def Pr.act(P:Pr)(k:Nat)(r:Ch × MsgV × Int):Pr:=(P.set k r.1).say k r.2.1 r.2.2
def Pr.cuts(P:Pr):Pr:=⟨P.a.cut,P.b.cut,[P.b.cut.again],[P.a.cut.again],P.bad⟩
noncomputable def Pr.does(P:Pr)(x:ActV):Pr :=
 if x.kind=0∨x.kind=1 then P.act x.k ((P.en x.k).offer x.n (qbm (ofI (zbq x.p))) x.expiry)
 else if x.kind=2 then P.act x.k ((P.en x.k).fulfill x.id (zbq x.p))
 else if x.kind=3 then P.act x.k ((P.en x.k).fail x.id x.expiry)
 else if x.kind=4∨x.kind=5 then P.act x.k (P.en x.k).sign
 else if x.kind=6∨x.kind=7∨x.kind=8 then (P.heard x.k).1
 else if x.kind=9 then P.act x.k (P.en x.k).shut
 else if x.kind=11 then (((P.cuts.heard 0).1).heard 1).1
 else P
structure PInv(K:Kon)(n:Nat)(P:Pr):Prop where
 prot:qcj K n true P.a P.b P.wa P.wb
 bad:P.bad=false
 sa:P.a.k.signed≤n
 sb:P.b.k.signed≤n
theorem qwq(c:Ch)(N ex:Int)(hv:Vector Int 32):(c.offer N hv ex).1.k.signed=c.k.signed:=by unfold Ch.offer;split<;>rfl
theorem qyo(c:Ch)(id r:Int):(c.fail id r).1.k.signed=c.k.signed:=by
 unfold Ch.fail;split
 ·rfl
 ·split<;>rfl
theorem qre(c:Ch)(id:Int)(p:List Int):(c.fulfill id p).1.k.signed=c.k.signed:=by
 unfold Ch.fulfill;split
 ·rfl
 ·split<;>rfl
theorem q0f(c:Ch):c.shut.1.k.signed=c.k.signed:=by unfold Ch.shut;split<;>rfl
theorem q0h(c:Ch):c.sign.1.k.signed≤c.k.signed+1:=by
 unfold Ch.sign;split
 ·exact Int.le_refl _
 ·show c.k.signed≤_;omega
theorem qng(c:Ch)(m:MsgV):(c.hears m).1.k.signed=c.k.signed:=by
 unfold Ch.hears;split
 ·split<;>rfl
 ·unfold Ch.hear;split
  ·rfl
  split
  ·unfold Ch.hearAdd;split<;>rfl
  split
  ·unfold Ch.hearFulfill;split
   ·rfl
   ·split<;>rfl
  split
  ·unfold Ch.hearFail;split<;>rfl
  split
  ·unfold Ch.hearSign;split
   ·show (((c.goOn 3).heardOne.goOn 4).k).signed=_;rw[qrh];show ((c.goOn 3).k).signed=_;rw[qrh]
   ·rfl
  split
  ·unfold Ch.hearRevoke;split
   ·show (((c.shelved m).goOn 2).k).signed=_;rw[qrh];rfl
   ·rfl
  unfold Ch.hearShut;split<;>rfl
theorem qgh(p:List Int):(ofI p).length=32:=qc4 _
theorem qfy(p:List Int):qal (ofI p):=qhu _
section
variable {K:Kon}{n m k:Nat}{P:Pr}
theorem qcj.heard{s:Bool}{a b:Ch}{wa wb:List MsgV}(h:qcj K n s a b wa wb):0≤a.k.heard∧a.k.heard≤b.k.signed:=by
 obtain⟨Q,h,rfl,rfl,rfl,rfl,rfl⟩:=h;have g:=h.ea.nums.1;have i:=h.ba.sig;refine⟨g,?_⟩;split at i<;>omega
theorem PInv.side(h:PInv K n P)(g:k<2):qcj K n (k==0) (P.en k) (P.en (1-k)) (P.way k) (P.way (1-k))∧(P.en k).k.signed≤n:=by
 rcases (by omega:k=0∨k=1) with rfl | rfl
 ·exact⟨h.1,h.sa⟩
 ·exact⟨h.1.flip,h.sb⟩
theorem PInv.back(g:PInv K n P)(q:k<2){r:Ch × MsgV × Int}(h:qcj K (n+1) (k==0) r.1 (P.en (1-k)) (P.way k) (qd5 (P.way (1-k)) r.2.1 r.2.2))(i:r.1.k.signed≤(P.en k).k.signed+1):PInv K (n+1) (P.act k r):=by
 have l:=g.sa;have o:=g.sb;rcases (by omega:k=0∨k=1) with rfl | rfl
 ·have i:r.1.k.signed≤P.a.k.signed+1:=i;exact⟨h,g.bad,by show r.1.k.signed≤_;omega,by show P.b.k.signed≤_;omega⟩
 ·have i:r.1.k.signed≤P.b.k.signed+1:=i;exact⟨h.flip,g.bad,by show P.a.k.signed≤_;omega,by show r.1.k.signed≤_;omega⟩
theorem PInv.mono(h:PInv K n P)(g:n≤m):PInv K m P:=⟨h.1.mono g,h.2,by have:=h.sa;omega,by have:=h.sb;omega⟩
theorem PInv.long(h:PInv K n P):P.wa.length≤n+3∧P.wb.length≤n+3:=h.1.long
theorem PInv.end(g:K.Ok)(l:n<1000000)(h:PInv K n P)(i:k<2):EndOk K n (k==0) (P.en k):=(h.side i).1.endA g l
theorem EndOk.sign{s:Bool}{c:Ch}(g:K.Ok)(i:n<1000000)(h:EndOk K n s c):SignOk c:=by
 have:=g.keyb s;refine⟨?_,h.inv.ch,by have:=h.news;omega,h.inv.few⟩;rw[h.set];omega
theorem q98{s:Bool}{a b:Ch}{wa wb:List MsgV}(i:K.Ok)(C:n<100000)(h:qcj K n s a b wa wb):qvk a wa wb:=by
 unfold qvk;cases wa with
 | nil=>trivial
 | cons m ms =>
  obtain⟨g,t,v,o,w⟩:=h.hears i (by omega);have q:=h.long;rw[List.length_cons] at q;have l:=h.endA i (by omega);have z:=g.kind;exact⟨g.ok,⟨l.inv,by omega,o,by omega,by have:=l.last;omega⟩,by omega⟩
theorem PInv.hok(g:K.Ok)(l:n<100000)(h:PInv K n P)(i:k<2):P.Hok k:=by
 have:=q98 g l (h.side i).1;rcases (by omega:k=0∨k=1) with rfl | rfl<;>exact this
theorem PInv.heard(o:K.Ok)(v:n<100000)(h:PInv K n P)(t:k<2):PInv K n (P.heard k).1:=by
 have q:=(h.side t).1;obtain⟨a,b,wa,wb,bad⟩:=P;obtain⟨l,rfl,sa,sb⟩:=h;simp only at sa sb;rcases (by omega:k=0∨k=1) with rfl | rfl
 ·cases wa with
  | nil=>exact⟨l,rfl,sa,sb⟩
  | cons m ms =>
   obtain⟨-,g,i,-⟩:=q.hears o (by omega);refine⟨i,?_,by show (a.hears m).1.k.signed≤n;rw[qng];exact sa,sb⟩;exact(by show (false || decide ((a.hears m).2.2≠0))=false;rw[show (a.hears m).2.2=0 from g];rfl)
 ·cases wb with
  | nil=>exact⟨l,rfl,sa,sb⟩
  | cons m ms =>
   obtain⟨-,g,i,-⟩:=q.hears o (by omega);refine⟨i.flip,?_,sa,by show (b.hears m).1.k.signed≤n;rw[qng];exact sb⟩;exact(by show (false || decide ((b.hears m).2.2≠0))=false;rw[show (b.hears m).2.2=0 from g];rfl)
theorem qfk{c d:Ch}(g:c.s.ch=d.s.ch)(hd:0≤d.k.heard∧d.k.heard≤65534):c.hears d.again=(c,(c.hearAgain d.again).1,(c.hearAgain d.again).2):=by
 unfold Ch.hears;rw[if_pos (show d.again.kind=9 from rfl),if_neg];rintro (e | e)
 ·rw[show d.again=⟨9,d.s.ch,IntKind.u64.wrap d.k.told,0,zv,0,d.k.heard+1⟩ from rfl,q64 _ _ ⟨by omega,by omega⟩] at e;cases e
 ·exact e g.symm
theorem qxu{c:Ch}(g:0≤c.s.ch∧c.s.ch<4294967296)(i:0≤c.k.heard∧c.k.heard≤65535):MsgOk c.again :=
 qej ⟨by decide,by decide⟩ g (qqo _) ⟨by decide,by decide⟩ qs qc6 ⟨by decide,by decide⟩ ⟨by omega,by omega⟩
theorem PInv.cut(g:K.Ok)(R:n<60000)(h:PInv K n P):P.cuts.Hok 0∧((P.cuts.heard 0).1).Hok 1∧PInv K n (((P.cuts.heard 0).1).heard 1).1∧MsgOk P.a.cut.again∧MsgOk P.b.cut.again:=by
 obtain⟨a,b,wa,wb,bad⟩:=P;obtain⟨q,rfl,sa,sb⟩:=h;simp only at q sa sb;have I:=q.heard;have J:=q.flip.heard;obtain⟨o,F,H⟩:=q.cut g (by omega);have ea:=o.endA g (by omega);have eb:=o.endB g (by omega);have t:=o.long;obtain⟨N,O⟩:=o.said g;have z:=(qky a).2.2.2.2.2.1;have C:=(qky b).2.2.2.2.2.1;have i:a.cut.s.ch=b.cut.s.ch:=by rw[ea.set,eb.set,g.ch,g.ch]
 have D:=qxu ea.inv.ch (by rw[z];omega);have E:=qxu eb.inv.ch (by rw[C];omega);have v:=qfk (c:=a.cut) (d:=b.cut) i (by rw[C];omega);have w:=qfk (c:=b.cut) (d:=a.cut) i.symm (by rw[z];omega);have L:(Pr.cuts ⟨a,b,wa,wb,false⟩).heard 0=(⟨a.cut,b.cut,[],[a.cut.again]++(a.cut.hearAgain b.cut.again).1,false⟩,true):=by
  show ((⟨(a.cut.hears b.cut.again).1,b.cut,[],[a.cut.again]++(a.cut.hears b.cut.again).2.1,false || decide ((a.cut.hears b.cut.again).2.2≠0)⟩:Pr),true)=_;rw[v];simp only[F];rfl
 rw[L];have M:(Pr.mk a.cut b.cut [] ([a.cut.again]++(a.cut.hearAgain b.cut.again).1) false).heard 1=(⟨a.cut,b.cut,(b.cut.hearAgain a.cut.again).1,(a.cut.hearAgain b.cut.again).1,false⟩,true):=by
  show ((⟨a.cut,(b.cut.hears a.cut.again).1,[]++(b.cut.hears a.cut.again).2.1,(a.cut.hearAgain b.cut.again).1,false || decide ((b.cut.hears a.cut.again).2.2≠0)⟩:Pr),true)=_;rw[w];simp only[H,List.nil_append];rfl
 rw[M];refine⟨⟨E,⟨ea.inv,⟨by show (3:Int)≤9;decide,by show (9:Int)≤9;decide⟩,?_,?_,by have:=ea.last;show a.cut.last.length≤_;omega⟩,by decide⟩,⟨D,⟨eb.inv,⟨by show (3:Int)≤9;decide,by show (9:Int)≤9;decide⟩,?_,?_,by have:=eb.last;show b.cut.last.length≤_;omega⟩,by show (a.cut.hearAgain b.cut.again).1.length<_;omega⟩,⟨o,rfl,?_,?_⟩,D,E⟩
 ·show ∀l∈(a.cut.hears b.cut.again).2.1,MsgOk l;rw[v];exact fun l t=>(O l t).ok
 ·show ([a.cut.again]:List MsgV).length+(a.cut.hears b.cut.again).2.1.length≤_;rw[v];show 1+(a.cut.hearAgain b.cut.again).1.length≤_;omega
 ·show ∀l∈(b.cut.hears a.cut.again).2.1,MsgOk l;rw[w];exact fun l t=>(N l t).ok
 ·show ([]:List MsgV).length+(b.cut.hears a.cut.again).2.1.length≤_;rw[w];show 0+(b.cut.hearAgain a.cut.again).1.length≤_;omega
 ·show a.cut.k.signed≤n;rw[(qky a).2.2.2.2.1];exact sa
 ·show b.cut.k.signed≤n;rw[(qky b).2.2.2.2.1];exact sb
theorem PInv.offer(o:K.Ok)(v:n<60000)(h:PInv K n P)(g:k<2){N ex:Int}{hv:Vector Int 32}(q:0≤N)(t:qal hv.toList):PInv K (n+1) (P.act k ((P.en k).offer N hv ex))∧MsgOk ((P.en k).offer N hv ex).2.1:=by
 obtain⟨i,l⟩:=(h.side g).1.offer o (by omega) (ex:=ex) q t;exact⟨h.back g i (by rw[qwq];omega),l⟩
theorem PInv.fulfill(o:K.Ok)(h:PInv K n P)(g:k<2)(id:Int)(p:List Int)(q:p.length=32)(t:qal p):PInv K (n+1) (P.act k ((P.en k).fulfill id p))∧MsgOk ((P.en k).fulfill id p).2.1:=by
 obtain⟨i,l⟩:=(h.side g).1.fulfill o id p q t;exact⟨h.back g i (by rw[qre];omega),l⟩
theorem PInv.fail(o:K.Ok)(h:PInv K n P)(g:k<2)(id r:Int):PInv K (n+1) (P.act k ((P.en k).fail id r))∧MsgOk ((P.en k).fail id r).2.1:=by
 obtain⟨i,l⟩:=(h.side g).1.fail o id r;exact⟨h.back g i (by rw[qyo];omega),l⟩
theorem PInv.sign(o:K.Ok)(h:PInv K n P)(g:k<2):PInv K (n+1) (P.act k (P.en k).sign)∧MsgOk (P.en k).sign.2.1:=by
 obtain⟨i,l⟩:=(h.side g).1.sign o;exact⟨h.back g i (q0h _),l⟩
theorem PInv.shut(o:K.Ok)(h:PInv K n P)(g:k<2):PInv K (n+1) (P.act k (P.en k).shut)∧MsgOk (P.en k).shut.2.1:=by
 obtain⟨i,l⟩:=(h.side g).1.shut o;exact⟨h.back g i (by rw[q0f];omega),l⟩
theorem PInv.does(g:K.Ok)(l:n<60000)(h:PInv K n P){x:ActV}(o:x.Ok):PInv K (n+1) (P.does x):=by
 have i:=x.k_lt;unfold Pr.does;split
 ·exact(h.offer g l i o.n.1 (by rw[qdc (qgh _)];exact qfy _)).1
 split
 ·exact(h.fulfill g i _ _ (zbr _) (q2v _)).1
 split
 ·exact(h.fail g i _ _).1
 split
 ·exact(h.sign g i).1
 split
 ·exact(h.heard g (by omega) i).mono (Nat.le_succ n)
 split
 ·exact(h.shut g i).1
 split
 ·exact(h.cut g l).2.2.1.mono (Nat.le_succ n)
 ·exact h.mono (Nat.le_succ n)
end
def rk(s:Int):Nat:=if s≤4 then (4-s).toNat else (9-s).toNat
def mwt(m:MsgV):Nat:=if m.kind=3∨m.kind=4∨m.kind=5 then 10 else 1
def rkL(xs:List Live):Nat:=(xs.map fun x=>rk x.state).sum
def mwL(ms:List MsgV):Nat:=(ms.map mwt).sum
theorem zhi:∀s:Fin 9,∀own:Bool,∀ev:Fin 5,(qw (s.val:Int) own (ev.val:Int)=(s.val:Int))∨(qw (s.val:Int) own (ev.val:Int)=(s.val:Int)+1∧rk ((s.val:Int)+1)<rk (s.val:Int)):=by decide +kernel
theorem zfo{x:Int}(h:0≤x∧x≤8)(own:Bool){ev:Nat}(g:ev<5):qw x own ev=x∨(qw x own ev=x+1∧rk (x+1)<rk x):=by
 have:=zhi ⟨x.toNat,by omega⟩ own ⟨ev,g⟩;simp only[Int.toNat_of_nonneg h.1] at this;exact this
def St8(xs:List Live):Prop:=∀x∈xs,0≤x.state∧x.state≤8
theorem ql1{xs:List Live}(h:St8 xs){ev:Nat}(q:ev<5):rkL (qa7 (qo ev xs))≤rkL xs∧(zl ev xs=true→rkL (qa7 (qo ev xs))<rkL xs)∧St8 (qa7 (qo ev xs)):=by
 induction xs with
 | nil=>exact⟨Nat.le_refl _,(fun h=>by cases h),fun x l=>(by cases l)⟩
 | cons x xs z =>
  obtain⟨i1,i2,m⟩:=z fun y i=>h y (List.mem_cons_of_mem _ i)
  have l:=h x (List.mem_cons_self ..);have e0:rkL (x::xs)=rk x.state+rkL xs:=rfl;have t:zl ev (x::xs)=(qw x.state x.own ev != x.state || zl ev xs):=rfl;have v:qa7 (qo ev (x::xs))=if qw x.state x.own ev=9 then qa7 (qo ev xs) else aft ev x::qa7 (qo ev xs):=by
   show List.filter _ (aft ev x::qo ev xs)=_;rw[List.filter_cons];show (if (!(qw x.state x.own ev==9))=true then _ else _)=_;by_cases g:qw x.state x.own ev=9
   ·rw[if_pos g,g,if_neg (by decide)];rfl
   ·rw[if_neg g,if_pos (by simpa using g)];rfl
  rw[e0,t,v];by_cases g:qw x.state x.own ev=9
  ·rw[if_pos g];have C:0<rk x.state:=by
    rcases zfo l x.own q with e | ⟨e,w⟩
    ·rw[g] at e;omega
    ·omega
   exact⟨by omega,fun _=>by omega,m⟩
  ·rw[if_neg g];have ea:rkL (aft ev x::qa7 (qo ev xs))=rk (qw x.state x.own ev)+rkL (qa7 (qo ev xs)):=rfl;rw[ea];rcases zfo l x.own q with e | ⟨e,w⟩
   ·rw[e];refine⟨by omega,fun o=> ?_,?_⟩
    ·rw[bne_self_eq_false,Bool.false_or] at o;have:=i2 o;omega
    ·intro y i;rcases List.mem_cons.1 i with rfl | i
     ·show 0≤qw x.state x.own ev∧qw x.state x.own ev≤8;rw[e];exact l
     ·exact m y i
   ·rw[e];refine⟨by omega,fun _=>by omega,?_⟩;intro y i;rcases List.mem_cons.1 i with rfl | i
    ·show 0≤qw x.state x.own ev∧qw x.state x.own ev≤8;rw[e] at g ⊢;omega
    ·exact m y i
theorem zbu(xs:List Live)(x:Live):rkL (xs++[x])=rkL xs+rk x.state:=by
 unfold rkL;rw[List.map_append,List.sum_append];simp
theorem q4s:∀ {xs:List Live} {i:Nat} {x y:Live},xs[i]? = some x→rkL (xs.set i y)+rk x.state=rkL xs+rk y.state
 | [],_,_,_,h=>by simp at h
 | z::xs,0,x,y,h=>by
  obtain rfl:z=x:=by simpa using h
  show rk y.state+rkL xs+rk z.state=rk z.state+rkL xs+rk y.state;omega
 | z::xs,i+1,x,y,h=>by
  have:=q4s (xs:=xs) (i:=i) (x:=x) (y:=y) (by simpa using h);show rk z.state+rkL (xs.set i y)+rk x.state=rk z.state+rkL xs+rk y.state;omega
theorem qqk(a b:List MsgV):mwL (a++b)=mwL a+mwL b:=by
 unfold mwL;rw[List.map_append,List.sum_append]
theorem q6i{c:Ch}{m:MsgV}(F:St8 c.xs)(O:m.kind=3∨m.kind=4∨m.kind=5∨m.kind=6∨m.kind=7∨m.kind=8)(g:(c.hear m).2.2=0) :
  2*rkL (c.hear m).1.xs+mwL (c.hear m).2.1<2*rkL c.xs+mwt m:=by
 unfold Ch.hear at g ⊢
 by_cases C:qac m=false∨m.ch≠c.s.ch
 ·rw[if_pos C] at g;cases g
 rw[if_neg C] at g ⊢
 by_cases t:m.kind=3
 ·rw[if_pos t] at g ⊢;have q:mwt m=10:=if_pos (.inl t);have g:(c.hearAdd m).2=0:=g;show 2*rkL (c.hearAdd m).1.xs+0<_;unfold Ch.hearAdd at g ⊢;by_cases l:qab c m=0
  ·rw[if_pos l];show 2*rkL (c.xs++[qel m])+0<_;rw[zbu,show rk (qel m).state=4 from rfl,q];omega
  ·rw[if_neg l] at g;exact absurd g l
 rw[if_neg t] at g ⊢
 have rem:∀ {i:Nat} {x:Live} (paid own:Bool) (id:Int),qbf own id c.xs=some (i,x)→2*rkL (c.removed i x paid).xs+0<2*rkL c.xs+10:=by
  intro i x paid own id o;obtain⟨I,-,-,L⟩:=qga o;have:=q4s (y:= {x with state:=5,paid:=paid}) I;rw[L,show rk 4=0 from rfl,show rk ({x with state:=5,paid:=paid} : Live).state=4 from rfl] at this;show 2*rkL (c.xs.set i {x with state:=5,paid:=paid})+0<_;omega
 by_cases v:m.kind=4
 ·rw[if_pos v] at g ⊢;have q:mwt m=10:=if_pos (.inr (.inl v));have g:(c.hearFulfill m).2=0:=g;show 2*rkL (c.hearFulfill m).1.xs+0<_;rw[q];cases o:qbf true m.id c.xs with
  | none=>rw[qnf o] at g;cases g
  | some p =>
   obtain⟨i,x⟩:=p;rw[qfr o] at g ⊢;by_cases H:qby m.hash x.h.hash.toList=true
   ·rw[if_pos H];exact rem true true _ o
   ·rw[if_neg H] at g;cases g
 rw[if_neg v] at g ⊢
 by_cases w:m.kind=5
 ·rw[if_pos w] at g ⊢;have q:mwt m=10:=if_pos (.inr (.inr w));have g:(c.hearFail m).2=0:=g;show 2*rkL (c.hearFail m).1.xs+0<_;rw[q];cases o:qbf true m.id c.xs with
  | none=>rw[qmc o] at g;cases g
  | some p =>
   obtain⟨i,x⟩:=p;rw[qmd o];exact rem false true _ o
 rw[if_neg w] at g ⊢
 have q:mwt m=1:=if_neg (by omega)
 rw[q]
 by_cases D:m.kind=6
 ·rw[if_pos D] at g ⊢;unfold Ch.hearSign at g ⊢;by_cases l:qcg c m=0
  ·rw[if_pos l];have z:zl 3 c.xs=true:=by
    unfold qcg at l;cases z:zl 3 c.xs with
    | true=>rfl
    | false=>rw[z,if_pos rfl] at l;cases l
   obtain⟨-,a2,a3⟩:=ql1 F (ev:=3) (by decide);have a2:=a2 z;obtain⟨b1,-,-⟩:=ql1 a3 (ev:=4) (by decide);show 2*rkL (qa7 (qo 4 (qa7 (qo 3 c.xs))))+mwL [c.signedBy.revocation]<_;have M:mwL [c.signedBy.revocation]=1:=rfl;rw[M];have b1:rkL (qa7 (qo 4 (qa7 (qo 3 c.xs))))≤rkL (qa7 (qo 3 c.xs)):=b1;have a2:rkL (qa7 (qo 3 c.xs))<rkL c.xs:=a2;omega
  ·rw[if_neg l] at g;exact absurd g l
 rw[if_neg D] at g ⊢
 by_cases E:m.kind=7
 ·rw[if_pos E] at g ⊢;have g:(c.hearRevoke m).2=0:=g;show 2*rkL (c.hearRevoke m).1.xs+0<_;unfold Ch.hearRevoke at g ⊢;by_cases l:qj5 c m=0
  ·rw[if_pos l];have b1:rkL (qa7 (qo 2 c.xs))≤rkL c.xs:=(ql1 F (ev:=2) (by decide)).1;show 2*rkL (qa7 (qo 2 c.xs))+0<_;omega
  ·rw[if_neg l] at g;exact absurd g l
 rw[if_neg E] at g ⊢
 have g:c.hearShut.2=0:=g
 show 2*rkL c.hearShut.1.xs+0<_
 unfold Ch.hearShut at g ⊢
 split
 ·rename_i N;rw[if_pos N] at g;cases g
 ·show 2*rkL c.xs+0<_;omega
theorem q7z{c:Ch}(l:St8 c.xs)(g:qa3 c=0):2*rkL c.sign.1.xs+mwt c.sign.2.1<2*rkL c.xs:=by
 have i:zl 1 c.xs=true:=by
  unfold qa3 at g;split at g
  ·cases g
  ·cases i:zl 1 c.xs with
   | true=>rfl
   | false=>rw[i,if_pos rfl] at g;cases g
 unfold Ch.sign;rw[if_pos g];have a2:rkL (qa7 (qo 1 c.xs))<rkL c.xs:=(ql1 l (ev:=1) (by decide)).2.1 i;show 2*rkL (qa7 (qo 1 c.xs))+1<_;omega
def Pr.mu(P:Pr):Nat:=2*(rkL P.a.xs+rkL P.b.xs)+mwL P.wa+mwL P.wb
section
variable {K:Kon}{n k:Nat}{P:Pr}{J:Pr→Prop}
theorem qcj.st8{s:Bool}{a b:Ch}{wa wb:List MsgV}(h:qcj K n s a b wa wb):St8 a.xs:=by
 obtain⟨Q,h,rfl,rfl,rfl,rfl,rfl⟩:=h;intro x l;obtain⟨j,g,-,e,i⟩:=qgg h.ea.perm l;rw[e];exact i
theorem qmo{c:Ch}{m:MsgV}(h:Said K.ch m):c.hears m=c.hear m:=by
 unfold Ch.hears;rw[if_neg];have:=h.kind;omega
theorem qro(l:K.Ok)(o:n<100000){s:Bool}{a b:Ch}{m:MsgV}{wa wb:List MsgV}(h:qcj K n s a b (m::wa) wb):2*rkL (a.hears m).1.xs+mwL (a.hears m).2.1<2*rkL a.xs+mwt m:=by
 obtain⟨g,i,-⟩:=h.hears l (by omega);rw[qmo g] at i ⊢;exact q6i h.st8 g.kind i
theorem PInv.hears_mu(g:K.Ok)(i:n<100000)(h:PInv K n P)(o:k<2):((P.heard k).2=true→(P.heard k).1.mu<P.mu)∧((P.heard k).2=false→(P.heard k).1=P∧P.way k=[]):=by
 have l:=(h.side o).1;obtain⟨a,b,wa,wb,bad⟩:=P;rcases (by omega:k=0∨k=1) with rfl | rfl
 ·cases wa with
  | nil=>exact⟨(fun e=>by cases e),fun _=>⟨rfl,rfl⟩⟩
  | cons m ms =>
   have q:2*rkL (a.hears m).1.xs+mwL (a.hears m).2.1<2*rkL a.xs+mwt m:=qro g i l;refine⟨fun _=> ?_,fun e=>by cases e⟩;show 2*(rkL (a.hears m).1.xs+rkL b.xs)+mwL ms+mwL (wb++(a.hears m).2.1)<2*(rkL a.xs+rkL b.xs)+(mwt m+mwL ms)+mwL wb;rw[qqk];omega
 ·cases wb with
  | nil=>exact⟨(fun e=>by cases e),fun _=>⟨rfl,rfl⟩⟩
  | cons m ms =>
   have q:2*rkL (b.hears m).1.xs+mwL (b.hears m).2.1<2*rkL b.xs+mwt m:=qro g i l;refine⟨fun _=> ?_,fun e=>by cases e⟩;show 2*(rkL a.xs+rkL (b.hears m).1.xs)+mwL (wa++(b.hears m).2.1)+mwL ms<2*(rkL a.xs+rkL b.xs)+mwL wa+(mwt m+mwL ms);rw[qqk];omega
theorem qlk(c:Ch):c.sign.2.2=qa3 c:=by
 unfold Ch.sign;split
 ·rename_i h;exact h.symm
 ·rfl
theorem q4m(m:MsgV):mwL [m]=mwt m:=by unfold mwL;simp
theorem PInv.sign_mu(h:PInv K n P)(l:k<2):((P.en k).sign.2.2=0→(P.act k (P.en k).sign).mu<P.mu)∧((P.en k).sign.2.2≠0→P.act k (P.en k).sign=P∧qa3 (P.en k)≠0):=by
 have i:=(h.side l).1.st8;refine⟨fun e=> ?_,fun e=> ?_⟩
 ·have g:=q7z i (by rw[←qlk];exact e);obtain⟨a,b,wa,wb,bad⟩:=P;rcases (by omega:k=0∨k=1) with rfl | rfl
  ·have g:2*rkL a.sign.1.xs+mwt a.sign.2.1<2*rkL a.xs:=g;have e:a.sign.2.2=0:=e;show 2*(rkL a.sign.1.xs+rkL b.xs)+mwL wa+mwL (qd5 wb a.sign.2.1 a.sign.2.2)<2*(rkL a.xs+rkL b.xs)+mwL wa+mwL wb;unfold qd5;rw[if_pos e,qqk,q4m];omega
  ·have g:2*rkL b.sign.1.xs+mwt b.sign.2.1<2*rkL b.xs:=g;have e:b.sign.2.2=0:=e;show 2*(rkL a.xs+rkL b.sign.1.xs)+mwL (qd5 wa b.sign.2.1 b.sign.2.2)+mwL wb<2*(rkL a.xs+rkL b.xs)+mwL wa+mwL wb;unfold qd5;rw[if_pos e,qqk,q4m];omega
 ·rw[qlk] at e;refine⟨?_,e⟩;rw[qlj rfl e];obtain⟨a,b,wa,wb,bad⟩:=P;rcases (by omega:k=0∨k=1) with rfl | rfl
  ·have e:qa3 a≠0:=e;show (⟨a,b,wa,qd5 wb MsgV.zero (qa3 a),bad⟩:Pr)=_;unfold qd5;rw[if_neg e]
  ·have e:qa3 b≠0:=e;show (⟨a,b,qd5 wa MsgV.zero (qa3 b),wb,bad⟩:Pr)=_;unfold qd5;rw[if_neg e]
structure Pr.Rest(P:Pr):Prop where
 wa:P.wa=[]
 wb:P.wb=[]
 sa:qa3 P.a≠0
 sb:qa3 P.b≠0
structure Stays(K:Kon)(J:Pr→Prop):Prop where
 hears:∀ {n k:Nat} {P:Pr},n<100000→k<2→PInv K n P→J P→J (P.heard k).1
 signs:∀ {n k:Nat} {P:Pr},n<100000→k<2→PInv K n P→J P→J (P.act k (P.en k).sign)
structure RdK(K:Kon)(J:Pr→Prop)(n:Nat)(R:Pr)(k:Nat)(P:Pr)(went:Bool):Prop where
 inv:PInv K (n+k) P
 j:J P
 yes:went=true→P.mu<R.mu
 no:went=false→P=R∧R.wa=[]∧R.wb=[]∧(1≤k→qa3 R.a≠0)∧(2≤k→qa3 R.b≠0)
theorem RdK.start(i:K.Ok)(m:Stays K J)(z:n<99000)(h:PInv K n P)(j:J P):RdK K J n P 0 (((P.heard 0).1).heard 1).1 ((((P.heard 0).1).heard 1).2 || (P.heard 0).2):=by
 have l:=h.heard i (by omega) (k:=0) (by decide);have w:=l.heard i (by omega) (k:=1) (by decide);obtain⟨a1,a2⟩:=h.hears_mu i (by omega) (k:=0) (by decide);obtain⟨b1,b2⟩:=l.hears_mu i (by omega) (k:=1) (by decide);refine⟨w,m.hears (by omega) (by decide) l (m.hears (by omega) (by decide) h j),fun e=> ?_,fun e=> ?_⟩
 ·cases e0:(P.heard 0).2 with
  | true =>
   have a1:=a1 e0;cases g:((P.heard 0).1.heard 1).2 with
   | true=>have:=b1 g;omega
   | false=>rw[(b2 g).1];exact a1
  | false =>
   rw[e0,Bool.or_false] at e;have:=b1 e;rw[(a2 e0).1] at this ⊢;exact this
 ·rw[Bool.or_eq_false_iff] at e;obtain⟨o,q⟩:=a2 e.2;have g:=e.1;rw[o] at b2 g ⊢;obtain⟨t,v⟩:=b2 g;exact⟨t,q,v,(fun h=>by omega),fun h=>by omega⟩
theorem RdK.step(H:K.Ok)(F:Stays K J)(L:n<99000){R:Pr}{b:Bool}(o:k<2)(h:RdK K J n R k P b):RdK K J n R (k+1) (P.act k (P.en k).sign) (b || ((P.en k).sign.2.2==0)):=by
 obtain⟨l,E,m,q⟩:=h;obtain⟨t,v⟩:=l.sign_mu o;refine⟨(l.sign H o).1,F.signs (by omega) o l E,fun e=> ?_,fun e=> ?_⟩
 ·cases b with
  | true =>
   have m:=m rfl;by_cases g:(P.en k).sign.2.2=0
   ·have:=t g;omega
   ·rw[(v g).1];exact m
  | false =>
   rw[Bool.false_or,beq_iff_eq] at e;have:=t e;rw[(q rfl).1] at this ⊢;exact this
 ·rw[Bool.or_eq_false_iff,beq_eq_false_iff_ne] at e;obtain⟨rfl,e⟩:=e;obtain⟨i,w,z,C,I⟩:=q rfl;obtain⟨D,g⟩:=v e;rw[D];refine⟨i,w,z,fun _=> ?_,fun h=> ?_⟩
  ·rcases (by omega:k=0∨k=1) with rfl | rfl
   ·rw[i] at g;exact g
   ·exact C (by decide)
  ·rcases (by omega:k=0∨k=1) with rfl | rfl
   ·omega
   ·rw[i] at g;exact g
end
section
variable {p:Gi→Bool}{G:List Gi}
theorem qy4:∀(n:Nat) (l:List Nat),n≤G.length→l.Nodup→(∀j∈l,j<n∧∃g,G[j]? = some g∧p g=true)→(l.length:Int)≤cnt p (G.take n)
 | 0,[],_,_,_=>Int.le_refl _
 | 0,j::l,_,_,h=>absurd (h j (List.mem_cons_self ..)).1 (Nat.not_lt_zero _)
 | n+1,l,z,hd,h=>by
  have o:=qy4 n (l.erase n) (by omega) (hd.erase n) fun j t=>by
   obtain⟨a,b⟩:=h j (List.mem_of_mem_erase t);have v:j≠n:=fun e=>by
    subst e;exact(List.Nodup.not_mem_erase hd) t
   exact⟨by omega,b⟩
  obtain⟨g,q⟩:∃g,G[n]? = some g:=⟨_,List.getElem?_eq_getElem (by omega)⟩;rw[List.take_add_one,q];show _≤cnt p (G.take n++[g]);rw[qc1];by_cases m:n∈l
  ·obtain⟨-,g',i,w⟩:=h n m;rw[q] at i;obtain rfl:g=g':=Option.some.inj i;rw[List.length_erase_of_mem m] at o;have:=List.length_pos_of_mem m;rw[if_pos w];omega
  ·rw[List.erase_of_not_mem m] at o;split<;>omega
theorem Idx.cnt{l:List Nat}(h:Idx G p l):(l.length:Int)≤cnt p G:=by
 have:=qy4 (p:=p) (G:=G) G.length l (Nat.le_refl _) h.nd fun j g=>⟨h.lt g,(h.iff j).1 g⟩
 rwa [List.take_length] at this
end
theorem zhd(m:MsgV):mwt m≤10:=by unfold mwt;split<;>decide
theorem qwp(s:Bool)(c:Ch)(G:List Gi):∀e:List En,mwL (msE s c G e)≤9*(ups e).length+e.length
 | []=>Nat.le_refl _
 | x::e=>by
  have l:=qwp s c G e;have e0:mwL (msE s c G (x::e))=mwt (enM s c G x)+mwL (msE s c G e):=rfl;rw[e0,List.length_cons];cases x with
  | upd j =>
   have g:(ups (.upd j::e)).length=(ups e).length+1:=rfl;have:=zhd (enM s c G (.upd j));rw[g];omega
  | sgn =>
   have g:(ups (.sgn::e)).length=(ups e).length:=rfl;have i:mwt (enM s c G .sgn)=1:=if_neg (show ¬((6:Int)=3∨(6:Int)=4∨(6:Int)=5) by decide);rw[g,i];omega
  | rev =>
   have g:(ups (.rev::e)).length=(ups e).length:=rfl;have i:mwt (enM s c G .rev)=1:=if_neg (show ¬((7:Int)=3∨(7:Int)=4∨(7:Int)=5) by decide);rw[g,i];omega
  | shut =>
   have g:(ups (.shut::e)).length=(ups e).length:=rfl;have i:mwt (enM s c G .shut)=1:=if_neg (show ¬((8:Int)=3∨(8:Int)=4∨(8:Int)=5) by decide);rw[g,i];omega
theorem q7o:∀x∈qa1,x.2.2.1≠0→0≤x.1∧x.1≤8:=by decide +kernel
section
variable {K:Kon}{n:Nat}
theorem zev{P:Pt}(h:Inv K n P):(ups P.eo).length+(ups P.ei).length≤16:=by
 have D:=h.ab.upd.cnt;have E:=h.ba.upd.cnt;have F:=h.ea.many;have H:=h.eb.many;have I:cnt (Gi.pend P.s) P.G+cnt (Gi.pend (!P.s)) P.G≤cnt (qbo P.s) P.G+cnt (qbo (!P.s)) P.G:=by
  unfold cnt;rw[qid,qid];refine qhv fun g z=> ?_
  have C:=h.it g z;have t:=q7o _ C;have v:(g.it P.s (qj P.eo) (qj P.ei)).2.2.1=g.up:=rfl;have w:(g.it P.s (qj P.eo) (qj P.ei)).1=g.so:=rfl;rw[v,w] at t;unfold Gi.pend qbo;rcases qy g.own P.s with q | q
  ·rw[q];by_cases m:g.up=0
   ·rw[m];simp;split<;>omega
   ·obtain⟨i,l⟩:=t m;have a1:decide (0≤g.so)=true:=decide_eq_true i;have a2:decide (g.so≤8)=true:=decide_eq_true l;by_cases o:g.up=1
    ·simp[o,a1,a2,i,l]
    ·simp[o,a1,a2,i,l];split<;>omega
  ·rw[q];by_cases m:g.up=0
   ·rw[m];simp;split<;>omega
   ·obtain⟨i,l⟩:=t m;have a1:decide (0≤g.so)=true:=decide_eq_true i;have a2:decide (g.so≤8)=true:=decide_eq_true l;by_cases o:g.up=1
    ·simp[o,a1,a2,i,l]
    ·simp[o,a1,a2,i,l];split<;>omega
 omega
theorem zbt{xs:List Live}(h:St8 xs):rkL xs≤4*xs.length:=by
 induction xs with
 | nil=>exact Nat.le_refl _
 | cons x xs g =>
  have g:=g fun y i=>h y (List.mem_cons_of_mem _ i)
  have l:=h x (List.mem_cons_self ..);have e:rkL (x::xs)=rk x.state+rkL xs:=rfl;have:rk x.state≤4:=by unfold rk;split<;>omega
  rw[e,List.length_cons];omega
theorem PInv.mu{P:Pr}(h:PInv K n P):P.mu<500:=by
 have q:=h.1.st8;have t:=h.1.flip.st8;obtain⟨Q,g,-,i,l,m,o⟩:=h.1;have f1:=qr7 g;have f2:=qr7 g.flip;have f2:Q.d.xs.length≤16:=f2;rw[i] at f1;rw[l] at f2;have w:=zbt q;have z:=zbt t;have u:=zev g;have l1:=qfd g.ab.w9 g.ab.shut;have l2:=qfd g.ba.w9 g.ba.shut;have m1:mwL P.wb≤9*(ups Q.eo).length+Q.eo.length:=by rw[←m];exact qwp _ _ _ _
 have v:mwL P.wa≤9*(ups Q.ei).length+Q.ei.length:=by rw[←o];exact qwp _ _ _ _
 have l1:Q.eo.length≤(ups Q.eo).length+3:=by
  repeat' split at l1
  all_goals omega
 have l2:Q.ei.length≤(ups Q.ei).length+3:=by
  repeat' split at l2
  all_goals omega
 unfold Pr.mu;omega
def q39(x:Live):Live:= {x with own:= !x.own}
structure Quiet(a b:Ch):Prop where
 loc:a.loc=b.rem
 rem:a.rem=b.loc
 mir:b.xs.Perm (a.xs.map q39)
 four:∀x∈a.xs,x.state=4∧x.paid=false
 sab:a.k.signed=b.k.heard
 sba:b.k.signed=a.k.heard
 aw:a.k.awaits=false∧b.k.awaits=false
 shut:a.k.shutSaid=b.k.shutHeard∧b.k.shutSaid=a.k.shutHeard
theorem qzl(own:Bool):qw (-1) own 1 = -1∧qw 9 own 1=9:=by cases own<;>decide +kernel
theorem qut{s:Bool}{c:Ch}{G:List Gi}(o:c.xs.Perm (G.filterMap (qm s).show))(l:zl 1 c.xs=false)(q:∀g∈G,-1≤(qm s).st g∧(qm s).st g≤9):∀g∈G,qw ((qm s).st g) ((qm s).mine g) 1=(qm s).st g:=by
 intro g i;by_cases h:0≤(qm s).st g∧(qm s).st g≤8
 ·have t:(qm s).show g=some ⟨g.h,(qm s).mine g,(qm s).st g,(qm s).paid g&&decide (5≤(qm s).st g)⟩:=by unfold Seen.show qa6;rw[if_pos h];rfl
  have m:(⟨g.h,(qm s).mine g,(qm s).st g,(qm s).paid g&&decide (5≤(qm s).st g)⟩:Live)∈c.xs:=o.mem_iff.2 (List.mem_filterMap.2 ⟨g,i,t⟩);have:=List.any_eq_false.1 l _ m;unfold chg at this;simpa using this
 ·have:=q g i;rcases (by omega:(qm s).st g = -1∨(qm s).st g=9) with e | e
  ·rw[e];exact(qzl _).1
  ·rw[e];exact(qzl _).2
theorem qrd{α β:Type}{f h:α→Option β} : ∀ {G:List α},(∀g∈G,f g=h g)→G.filterMap f=G.filterMap h
 | [],_=>rfl
 | g::G,e=>by
  rw[List.filterMap_cons,List.filterMap_cons,e g (List.mem_cons_self ..),qrd fun y i=>e y (List.mem_cons_of_mem _ i)]
theorem q4n{s:Bool}{c:Ch}{G:List Gi}{e:List En}(h:msE s c G e=[]):e=[]:=by
 cases e with
 | nil=>rfl
 | cons x e=>cases h
theorem quiet_of{P:Pr}(hn:n<65535)(h:PInv K n P)(hr:P.Rest):Quiet P.a P.b:=by
 obtain⟨h1,-,sa,sb⟩:=h;obtain⟨Q,hQ,-,q,o,W,X⟩:=h1;obtain⟨r1,r2,T,U⟩:=hr;rw[←q] at T sa ⊢;rw[←o] at U sb ⊢;have Z:Q.eo=[]:=q4n (W.trans r2);have q2:Q.ei=[]:=q4n (X.trans r1);clear q o W X r1 r2;obtain⟨s,c,d,eo,ei,G,la,nu,lb,nv⟩:=Q;obtain⟨ea,eb,ab,ba,it,ok,pw,few⟩:=hQ;simp only at ea eb ab ba it Z q2 T U sa sb ⊢;subst Z;subst q2;have a1:c.k.awaits=false:=ab.aw;have a2:d.k.awaits=false:=ba.aw;have g1:c.k.signed=d.k.heard:=by have:=ab.sig;rw[if_neg (by decide),Int.add_zero] at this;exact this
 have g2:d.k.signed=c.k.heard:=by have:=ba.sig;rw[if_neg (by decide),Int.add_zero] at this;exact this
 have c1:zl 1 c.xs=false:=by
  cases M:zl 1 c.xs with
  | false=>rfl
  | true=>exact absurd (by unfold qa3;rw[a1,M,if_neg (by decide),if_neg (by decide),if_neg (by omega)]) T
 have c2:zl 1 d.xs=false:=by
  cases M:zl 1 d.xs with
  | false=>rfl
  | true=>exact absurd (by unfold qa3;rw[a2,M,if_neg (by decide),if_neg (by decide),if_neg (by omega)]) U
 have t1:=qut ea.perm c1 (qe8 it s);have t2:=qut eb.perm c2 (qe8 it (!s));have R:∀g∈G,g.up=0:=by
  intro g i;obtain⟨j,I⟩:=List.getElem?_of_mem i;by_cases J:g.up=0
  ·exact J
  ·have h2:=(quu _ (it g i)).2.2.2.2;have e1:(g.it s (qj []) (qj [])).2.2.1=g.up:=rfl;rw[e1] at h2;rcases qy g.own s with l | l
   ·rcases (by omega:g.up=1∨g.up=2) with u | u
    ·have:=(ab.upd.iff j).2 ⟨g,I,by unfold Gi.pend;rw[l,u];simp⟩;cases this
    ·have:=(ba.upd.iff j).2 ⟨g,I,by unfold Gi.pend;rw[l,u];simp⟩;cases this
   ·rcases (by omega:g.up=1∨g.up=2) with u | u
    ·have:=(ba.upd.iff j).2 ⟨g,I,by unfold Gi.pend;rw[l,u];simp⟩;cases this
    ·have:=(ab.upd.iff j).2 ⟨g,I,by unfold Gi.pend;rw[l,u];simp⟩;cases this
 have v:∀g∈G,(g.so = -1∧g.st = -1)∨(g.so=4∧g.st=4)∨(g.so=9∧g.st=9):=by
  intro g i;have H:=it g i;have C:=t1 g i;have D:=t2 g i;have J:=R g i;have m1:(qm s).mine g=(g.own==s):=rfl;have m2:(qm (!s)).mine g=(g.own == !s):=rfl;have N:(qm s).st g=if g.own=s then g.so else g.st:=rfl;have O:(qm (!s)).st g=if g.own = !s then g.so else g.st:=rfl;rw[m1,N] at C;rw[m2,O] at D;rcases qy g.own s with l | l
  ·have L:(g.own==s)=true:=by rw[l];simp
   have t:(g.own == !s)=false:=by rw[l];simp
   rw[if_pos l,L] at C;rw[if_neg (qhr l),t] at D;rw[qdp l] at H;exact qsm _ H J rfl rfl C D
  ·have L:(g.own==s)=false:=by rw[l];simp
   have t:(g.own == !s)=true:=by rw[l];simp
   rw[if_neg (qb4 l),L] at C;rw[if_pos l,t] at D;rw[qdx l] at H;exact qsm _ H J rfl rfl D C
 have m:∀g∈G,(qm s).st g=g.so∧(qm (!s)).st g=g.so:=by
  intro g i;have N:(qm s).st g=if g.own=s then g.so else g.st:=rfl;have O:(qm (!s)).st g=if g.own = !s then g.so else g.st:=rfl;have:=v g i;rw[N,O];constructor<;>split<;>omega
 have mine:∀g:Gi,(qm (!s)).mine g = !(qm s).mine g:=by
  intro g;show (g.own == !s) = !(g.own==s);cases g.own<;>cases s<;>rfl
 have V:∀g∈G,(qm (!s)).show g=((qm s).show g).map q39:=by
  intro g i;obtain⟨E,F⟩:=m g i;unfold Seen.show qa6;rw[E,F,mine];by_cases h:0≤g.so∧g.so≤8
  ·rw[if_pos h,if_pos h];rfl
  ·rw[if_neg h,if_neg h];rfl
 have e5:c.loc=d.rem:=by
  rw[ea.loc,eb.rem,Bool.not_not];congr 1;unfold Seen.conL Seen.conR;refine qeg fun g i=> ?_
  obtain⟨E,F⟩:=m g i;rw[E,F,mine,Bool.not_not];rfl
 have e6:c.rem=d.loc:=by
  rw[ea.rem,eb.loc];congr 1;unfold Seen.conL Seen.conR;refine qeg fun g i=> ?_
  obtain⟨E,F⟩:=m g i;rw[E,F,mine];rfl
 refine⟨e5,e6,?_,?_,g1,g2,⟨a1,a2⟩,ab.shut,ba.shut⟩
 ·refine eb.perm.trans (List.Perm.trans ?_ (ea.perm.map q39).symm);rw[List.map_filterMap];have:G.filterMap (qm (!s)).show=G.filterMap fun g=>((qm s).show g).map q39:=by
   exact qrd fun g i=>V g i
  rw[this]
 ·intro x hx;obtain⟨g,i,w⟩:=List.mem_filterMap.1 (ea.perm.mem_iff.1 hx);unfold Seen.show qa6 at w;have z:=(m g i).1;rw[z] at w;split at w
  ·rename_i h;obtain rfl:=Option.some.inj w;have Y:g.so=4:=by have:=v g i;omega
   refine⟨Y,?_⟩;show (_&&decide (5≤g.so))=false;rw[Y];simp
  ·cases w
end
noncomputable def Pr.heardN(P:Pr)(k:Nat):Nat→Pr
 | 0=>P
 | i+1=>((P.heardN k i).heard k).1
section
variable {K:Kon}{n k:Nat}{P:Pr}
theorem PInv.heardN(g:K.Ok)(m:n<100000)(h:PInv K n P)(l:k<2):∀i,PInv K n (P.heardN k i)
 | 0=>h
 | i+1=>(PInv.heardN g m h l i).heard g m l
theorem q6l(P:Pr):∃r,((P.heard 0).1).b=P.b∧((P.heard 0).1).wa=P.wa.drop 1∧((P.heard 0).1).wb=P.wb++r:=by
 obtain⟨a,b,wa,wb,bad⟩:=P;cases wa with
 | nil=>exact⟨[],rfl,rfl,(List.append_nil _).symm⟩
 | cons m ms=>exact⟨_,rfl,rfl,rfl⟩
theorem q6m(P:Pr):∃r,((P.heard 1).1).a=P.a∧((P.heard 1).1).wb=P.wb.drop 1∧((P.heard 1).1).wa=P.wa++r:=by
 obtain⟨a,b,wa,wb,bad⟩:=P;cases wb with
 | nil=>exact⟨[],rfl,rfl,(List.append_nil _).symm⟩
 | cons m ms=>exact⟨_,rfl,rfl,rfl⟩
theorem qhm(P:Pr):∀i,∃r,(P.heardN 0 i).b=P.b∧(P.heardN 0 i).wa=P.wa.drop i∧(P.heardN 0 i).wb=P.wb++r
 | 0=>⟨[],rfl,rfl,(List.append_nil _).symm⟩
 | i+1=>by
  obtain⟨r,o,t,v⟩:=qhm P i;obtain⟨q,g,l,m⟩:=q6l (P.heardN 0 i);exact⟨r++q,g.trans o,by rw[show P.heardN 0 (i+1)=((P.heardN 0 i).heard 0).1 from rfl,l,t,List.drop_drop],by rw[show P.heardN 0 (i+1)=((P.heardN 0 i).heard 0).1 from rfl,m,v,List.append_assoc]⟩
theorem qmm(P:Pr):∀i,i≤P.wb.length→∃r,(P.heardN 1 i).a=P.a∧(P.heardN 1 i).wb=P.wb.drop i∧(P.heardN 1 i).wa=P.wa++r
 | 0,_=>⟨[],rfl,rfl,(List.append_nil _).symm⟩
 | i+1,w=>by
  obtain⟨r,o,t,v⟩:=qmm P i (by omega);obtain⟨q,g,l,m⟩:=q6m (P.heardN 1 i);exact⟨r++q,g.trans o,by rw[show P.heardN 1 (i+1)=((P.heardN 1 i).heard 1).1 from rfl,l,t,List.drop_drop],by rw[show P.heardN 1 (i+1)=((P.heardN 1 i).heard 1).1 from rfl,m,v,List.append_assoc]⟩
noncomputable def Pr.lets(P:Pr)(i j:Nat):Pr:=⟨(P.heardN 0 i).a,((P.heardN 0 i).heardN 1 j).b,P.wa.drop i,P.wb.drop j,false⟩
structure Many(K:Kon)(a r:Nat)(P:Pr):Prop where
 ex:∃n,PInv K n P∧n≤a+500*r∧n+P.mu≤501*a
theorem Many.inv{a r:Nat}(h:Many K a r P):∃n,PInv K n P∧(a+r≤150→n<60000):=by
 obtain⟨n,g,i,l⟩:=h.ex;exact⟨n,g,fun h=>by omega⟩
end
def qfh(w:World)(B:Nat)(v:Value)(L:List MsgV):Prop :=
 (v = .slice none 0 0∧L=[])∨∃g o cap i,v = .slice (some ⟨g,o,none⟩) L.length cap∧B≤g∧w.heap[g]? = some (.cells i 71 (0,0))∧L.length≤cap∧o+cap*38≤i.size∧∀j u,(L.flatMap MsgV.cells)[j]? = some u→i[o+j]? = some u
section
variable {w w':World}{B:Nat}{v:Value}{L:List MsgV}
theorem qfh.blk(h:qfh w B v L):∀k,v.ownBlock=some k→B≤k∧∃i,w.heap[k]? = some (.cells i 71 (0,0)):=by
 intro k l;rcases h with ⟨rfl,_⟩ | ⟨g,o,cap,i,rfl,m,q,_⟩
 ·simp[Value.ownBlock] at l
 ·simp[Value.ownBlock] at l;exact⟨l▸m,i,l▸q⟩
theorem qfh.upd{S:Nat→Prop}(h:qfh w B v L)(u:Upd S w w')(n:∀k,v.ownBlock=some k→¬S k):qfh w' B v L:=by
 rcases h with h | ⟨g,o,cap,i,rfl,l,m,r⟩
 ·exact .inl h
 ·exact .inr ⟨g,o,cap,i,rfl,l,u.old m (n g rfl),r⟩
theorem qfh.new(h:qfh w B v L)(u:qu w w'):qfh w' B v L:=h.upd u (fun _ _ h=>h)
theorem qfh.nil(w:World)(B:Nat):qfh w B qcd []:= .inl ⟨rfl,rfl⟩
theorem qfh.shape(h:qfh w B v L):∃a cap,v = .slice a L.length cap:=by
 rcases h with ⟨rfl,rfl⟩ | ⟨g,o,cap,i,rfl,_⟩
 ·exact⟨_,_,rfl⟩
 ·exact⟨_,_,rfl⟩
theorem qfh.ofOwn{n:Nat}(h:w.ownsRow B 71 38 v n (L.flatMap MsgV.cells))(z:n=L.length):qfh w B v L:=by
 subst z;rcases h.2 with ⟨e,e0⟩ | ⟨g,cap,l,e,m,q,o,D,E,C⟩
 ·exact .inl ⟨e,List.length_eq_zero_iff.1 e0⟩
 ·refine .inr ⟨g,0,cap,l,e,m,q,o,by omega,?_⟩;intro j u i;rw[Nat.zero_add,←Array.getElem?_toList];rw[←C] at i;have t:=(List.getElem?_eq_some_iff.1 i).1;rw[List.length_take] at t;rw[List.getElem?_take_of_lt (by omega)] at i;exact i
theorem qfh.src(h:qfh w B v L):(v = .slice none 0 0∧L=[])∨∃i c,v = .slice (some i) L.length c∧∀j u,(L.flatMap MsgV.cells)[j]? = some u→w.cell? (i.add j)=some u:=by
 rcases h with h | ⟨g,o,cap,l,e,C,q,D,E,z⟩
 ·exact .inl h
 ·refine .inr ⟨_,_,e,fun j u t=> ?_⟩;have m:(⟨g,o,none⟩:Addr).add j=⟨g,o+j,none⟩:=by cases j<;>simp[Addr.add]
  rw[m,qh q];exact z j u t
theorem qfh.cons{m:MsgV}{ms:List MsgV}(h:qfh w B v (m::ms))(I:m.hash.length=32):∃g o cap,v = .slice (some ⟨g,o,none⟩) (ms.length+1) cap∧ms.length+1≤cap∧zm w g o 38=some m.cells.toArray ∧
  qfh w B (.slice (if cap=1 then some ⟨g,o,none⟩ else some ⟨g,o+38,none⟩) ms.length (cap-1)) ms:=by
 rcases h with ⟨_,e⟩ | ⟨g,o,cap,i,e,E,t,q,J,F⟩
 ·cases e
 ·have q:ms.length+1≤cap:=q;have C:=m.len I;refine⟨g,o,cap,e,q,?_,?_⟩
  ·rw[qbz t o 38 (by omega)];congr 1;apply Array.ext_getElem?;intro j;rw[Array.getElem?_extract];by_cases l:j<38
   ·rw[if_pos (by omega)];have H:m.cells[j]? = some m.cells[j]:=List.getElem?_eq_getElem (by omega);rw[F j m.cells[j] (by rw[List.flatMap_cons,List.getElem?_append_left (by omega)];exact H),List.getElem?_toArray,H]
   ·rw[if_neg (by omega)];symm;rw[List.getElem?_toArray];exact List.getElem?_eq_none (by omega)
  ·by_cases D:cap=1
   ·rw[if_pos D];have z:ms=[]:=List.length_eq_zero_iff.1 (by omega);subst z;exact .inr ⟨g,o,cap-1,i,rfl,E,t,Nat.zero_le _,by omega,fun j u l=>by simp at l⟩
   ·rw[if_neg D];refine .inr ⟨g,o+38,cap-1,i,rfl,E,t,by omega,by omega,fun j u l=> ?_⟩;rw[show o+38+j=o+(38+j) by omega];refine F _ _ ?_;rw[List.flatMap_cons,List.getElem?_append_right (by omega),C,Nat.add_sub_cancel_left];exact l
end
theorem qxc{w:World}(K:TypeId)(B:Nat)(v:Value)(L:List MsgV)(hq:qfh w B v L)(hL:∀l∈L,MsgOk l)(ls:List MsgV)(a6:∀l∈ls,MsgOk l)(xv:Value)
  (T:(xv = .slice none 0 0∧ls=[])∨∃F c,xv = .slice (some F) ls.length c∧∀j u,(ls.flatMap MsgV.cells)[j]? = some u→w.cell? (F.add j)=some u)
  (E:L.length+ls.length≤1000000) (t:B≤w.heap.size) :
  ∃M w',(Builtin.append_ #[58,58] K #[v,xv]).run Tryz.prog w = .ok M w'∧qfh w' B M (L++ls)∧Upd (fun k=>v.ownBlock=some k) w w'∧(M.ownBlock=v.ownBlock∨M.ownBlock=some w.heap.size):=by
 obtain⟨X,z9,b9,z,W,q,U,V,N⟩:=qsd
 have a7:maxLen=9223372036854775807:=rfl
 have H:=qse L (fun l h=>(hL l h).len)
 have Y:=qse ls (fun l h=>(a6 l h).len)
 rcases T with ⟨rfl,rfl⟩ | ⟨F,c,rfl,hc⟩
 ·rw[List.append_nil];rcases hq with ⟨rfl,rfl⟩ | ⟨g,o,cap,D,rfl,hb,I,O,hs,Z⟩
  ·exact⟨_,w,run_append_owned_none (P:=Tryz.prog) (w:=w) B 58 K 71 X 38 Tryz.underlying58 z _ 0 [] (World.ownsRow_nil _ _ _ _),.inl ⟨rfl,rfl⟩,Upd.refl _ _,.inl rfl⟩
  ·have J:=run_append_room_src (P:=Tryz.prog) w 58 58 K 71 X Tryz.underlying58 z g o L.length cap (.slice none 0 0) 0 [] (Src.ofNil w Tryz.underlying58 0) (by omega) (fun j h=>by simp at h) (fun j h=>by simp at h);exact⟨_,_,J,.inr ⟨g,o,cap,D,rfl,hb,I,O,hs,Z⟩,Upd.refl _ _,.inl rfl⟩
 ·rcases hq with ⟨rfl,rfl⟩ | ⟨g,o,cap,D,rfl,hb,I,O,hs,Z⟩
  ·obtain⟨M,w',h1,h2,h3,-,h5⟩:=run_append_own_at (P:=Tryz.prog) w B 58 K 71 X _ 38 b9 Tryz.underlying58 z W q U V (by decide) (.slice none 0 0) 0 [] (World.ownsRow_nil _ _ _ _) F ls.length c (ls.flatMap MsgV.cells) Y hc (qzi ls) (by rw[a7];omega) (by have:=Nat.mul_le_mul E N;simp at this ⊢;omega) t;exact⟨M,w',h1,qfh.ofOwn h2 (by simp),(Upd.refl _ _).grown h3 (fun k hk _=>hk),h5⟩
  ·by_cases C:L.length+ls.length≤cap
   ·have a5:∀j,j<(ls.flatMap MsgV.cells).length→o+L.length*38+j<D.size:=fun j m=>by omega
    have J:=run_append_room_src (P:=Tryz.prog) w 58 58 K 71 X Tryz.underlying58 z g o L.length cap (.slice (some F) ls.length c) ls.length (ls.flatMap MsgV.cells) (Src.ofSlice w Tryz.underlying58 F ls.length c _ (by rw[q];exact Y) hc (qzi ls)) C
     (fun j m=>by rw[q,qh I,Array.getElem?_eq_getElem (a5 j m)];rfl) (fun j m=>qv I _)
    rw[q] at J;refine⟨_,_,J,.inr ⟨g,o,cap,qkd D (o+L.length*38) (ls.flatMap MsgV.cells),by rw[List.length_append],hb,qa2 I _ _,by rw[List.length_append];exact C,by rw[qmr];exact hs,fun j u m=> ?_⟩,?_,.inl rfl⟩
    ·rw[qha _ _ _ _ (by omega)];rw[List.flatMap_append] at m;by_cases a8:j<L.length*38
     ·rw[if_neg (by omega)];rw[List.getElem?_append_left (by omega)] at m;exact Z j u m
     ·rw[List.getElem?_append_right (by omega),H] at m;have R:=(List.getElem?_eq_some_iff.1 m).1;rw[if_pos (by omega),show o+j-(o+L.length*38)=j-L.length*38 by omega];exact m
    ·exact((Upd.refl (fun k=>k=g) w).setCells _ _).mono (fun i _ e=>by simp[Value.ownBlock,e])
   ·have J:=run_append_grow (P:=Tryz.prog) w 58 K 71 X z9 Tryz.underlying58 z W ⟨g,o,none⟩ L.length cap (L.flatMap MsgV.cells) (by rw[q];exact H)
     (fun j u m=>by
      have e2:(⟨g,o,none⟩:Addr).add j=⟨g,o+j,none⟩:=by cases j<;>simp[Addr.add]
      rw[e2,qh I];exact Z j u m)
     F ls.length c (ls.flatMap MsgV.cells) (by rw[q];exact Y) hc (by omega) (by omega) (growslice_fits (by omega) (by rw[U];have:=Nat.mul_le_mul E N;omega))
    have a4:=grownCap_ge w (L.length+ls.length) cap 71;refine⟨_,_,J,.inr ⟨w.heap.size,0,_,_,by rw[List.length_append],t,heap_alloc_new w.drew _,by rw[List.length_append];exact a4,?_,fun j u m=> ?_⟩,?_,.inr rfl⟩
    ·simp only[Array.size_append,List.size_toArray,size_zeroCells,V,H,Y,←Nat.add_mul];rw[Nat.zero_add];refine Nat.mul_le_mul_right _ ?_;omega
    ·rw[List.flatMap_append] at m;have R:=(List.getElem?_eq_some_iff.1 m).1;rw[Nat.zero_add,Array.getElem?_append_left (by simpa using R)];rw[←m,←Array.getElem?_toList];simp
    ·exact((Upd.refl _ _).drew).alloc _
theorem q8q{w:World}{t:Array Oper}{rest:List Oper}{o:Oper}{a:Act}{Q:Exit→Act→World→Prop}(C:o.guard=none)(s x:Operand)
  (N:o.op = .call {callee:= .builtin .append,args:=#[s,x],argTypes:=#[58,58]})
  (B:Nat) (v:Value) (R:a.eval s=v) (L:List MsgV) (O:qfh w B v L) (M:∀l∈L,MsgOk l) (ls:List MsgV) (D:∀l∈ls,MsgOk l) (z:Value) (T:a.eval x=z)
  (q:(z = .slice none 0 0∧ls=[])∨∃E c,z = .slice (some E) ls.length c∧∀j u,(ls.flatMap MsgV.cells)[j]? = some u→w.cell? (E.add j)=some u)
  (m:L.length+ls.length≤1000000) (g:B≤w.heap.size)
  (h:∀i w',qfh w' B i (L++ls)→Upd (fun k=>v.ownBlock=some k) w w'→(i.ownBlock=v.ownBlock∨i.ownBlock=some w.heap.size)→wpList Tryz.prog t Q rest (a.put o.dst i) w') :
  wpList Tryz.prog t Q (o::rest) a w:=by
 refine wpList_plain C fun K J=> ?_
 obtain⟨i,w',P,F,H,I⟩:=qxc o.type B v L O M ls D z q m g
 unfold Oper.wp execOp
 simp only[N,resolve,invoke,builtin,Sem.run_bind,Sem.run_pure,Result.andThen_ok,List.map_toArray,List.map_cons,List.map_nil,R,T,P]
 exact J _ _ (h i w' F H I)
def duC(g:Nat→Nat)(u:Nat→Value):List Value:=[.pointer (some ⟨g 0,0,none⟩),.pointer (some ⟨g 1,0,none⟩),u 0,u 1]
def Pr.setWay2(P:Pr)(k:Nat)(w:List MsgV):Pr:=if k=0 then {P with wa:=w} else {P with wb:=w}
def at2{α:Type}(k:Nat)(x:α)(f:Nat→α):Nat→α:=fun j=>if j=k then x else f j
structure DuP(w0 w:World)(p:Nat)(S:Nat→Prop)(P:Pr)(g:Nat→Nat)(T:Nat→Nat→Prop)(u:Nat→Value):Prop where
 at_:w.heap[p]? = some (.cells (duC g u).toArray 80 (0,0))
 en:∀k,k<2→ChS w (g k) (T k) (P.en k)
 row:∀k,k<2→qfh w w0.heap.size (u k) (P.way k)
 ok:∀k,k<2→∀m∈P.way k,MsgOk m
 sep:∀b,T 0 b→¬T 1 b
 pT:∀k,k<2→¬T k p
 uT:∀j k,j<2→k<2→∀b,(u j).ownBlock=some b→¬T k b
 usep:∀b,(u 0).ownBlock=some b→(u 1).ownBlock≠some b
 pS:S p
 tS:∀k,k<2→∀b,T k b→S b
 uS:∀k,k<2→∀b,(u k).ownBlock=some b→S b
 lt:∀b,S b→w0.heap.size≤b∧b<w.heap.size
 n:qu w0 w
def DuD(w0 w:World)(p:Nat)(S:Nat→Prop)(P:Pr):Prop:=∃g T u,DuP w0 w p S P g T u
theorem qb1{k:Nat}(h:k<2):k=0∨k=1:=by omega
section
variable {w0 w w' wD:World}{p:Nat}{S:Nat→Prop}{P:Pr}{g:Nat→Nat}{T:Nat→Nat→Prop}{u:Nat→Value}{k:Nat}
theorem DuP.up(h:DuP w0 w p S P g T u):p<w.heap.size:=z6 h.at_
theorem DuP.uP(h:DuP w0 w p S P g T u)(m:k<2):(u k).ownBlock≠some p:=fun e=>by
 obtain⟨-,i,l⟩:=(h.row k m).blk p e;exact qao h.at_ l (by decide) rfl
theorem DuP.new(h:DuP w0 w p S P g T u)(n:qu w w'):DuP w0 w' p S P g T u :=
 ⟨n.old h.at_ (fun h=>h),fun k i=>(h.en k i).new n,fun k i=>(h.row k i).new n,h.ok,h.sep,h.pT,h.uT,h.usep,h.pS,h.tS,h.uS,fun b l=>⟨(h.lt b l).1,Nat.lt_of_lt_of_le (h.lt b l).2 n.size⟩,h.n.trans n⟩
theorem Pr.en_set(P:Pr)(c:Ch){j:Nat}(l:k<2)(i:j<2):(P.set k c).en j=at2 k c P.en j:=by
 rcases qb1 l with rfl | rfl<;>rcases qb1 i with rfl | rfl<;>rfl
theorem Pr.way_set(P:Pr)(c:Ch)(j:Nat):(P.set k c).way j=P.way j:=by
 unfold Pr.set Pr.way;by_cases h:k=0<;>simp[h]
theorem Pr.way_setWay(P:Pr)(l:List MsgV){j:Nat}(m:k<2)(i:j<2):(P.setWay2 k l).way j=at2 k l P.way j:=by
 rcases qb1 m with rfl | rfl<;>rcases qb1 i with rfl | rfl<;>rfl
theorem Pr.en_setWay(P:Pr)(l:List MsgV)(j:Nat):(P.setWay2 k l).en j=P.en j:=by
 unfold Pr.setWay2 Pr.en;by_cases h:k=0<;>simp[h]
theorem DuP.op(h:DuP w0 w p S P g T u)(o:k<2){c':Ch}(E:ChS w' (g k) (Fr (T k) w w') c')(U:Upd (T k) w w'):DuP w0 w' p (Fr S w w') (P.set k c') g (at2 k (Fr (T k) w w') T) u:=by
 have F:=U.size;have hd:∀j b,j<2→j≠k→T j b→¬T k b:=fun j b l v m q=>by
  rcases qb1 o with rfl | rfl<;>rcases qb1 l with rfl | rfl
  ·exact v rfl
  ·exact h.sep b q m
  ·exact h.sep b m q
  ·exact v rfl
 have t:∀j b,j<2→T j b→b<w.heap.size:=fun j b l m=>(h.lt b (h.tS j l b m)).2
 refine⟨U.old h.at_ (h.pT k o),?_,?_,?_,?_,?_,?_,h.usep,.inl h.pS,?_,fun j l b m=> .inl (h.uS j l b m),?_,h.n.then U (fun b m e=>by have:=(h.lt b (h.tS k o b e)).1;omega)⟩
 ·intro j l;rw[P.en_set c' o l];unfold at2;by_cases e:j=k
  ·subst e;rw[if_pos rfl,if_pos rfl];exact E
  ·rw[if_neg e,if_neg e];exact(h.en j l).upd U (fun b m=>hd j b l e m)
 ·intro j l;rw[P.way_set];exact(h.row j l).upd U (fun b m=>h.uT j k l o b m)
 ·intro j l;rw[P.way_set];exact h.ok j l
 ·intro b;unfold at2;rcases qb1 o with rfl | rfl
  ·rw[if_pos rfl,if_neg (by decide)];rintro (e | e) C
   ·exact h.sep b e C
   ·have:=t 1 b (by decide) C;omega
  ·rw[if_neg (by decide),if_pos rfl];rintro e0 (e | e)
   ·exact h.sep b e0 e
   ·have:=t 0 b (by decide) e0;omega
 ·intro j l;unfold at2;by_cases e:j=k
  ·rw[if_pos e];rintro (e | e)
   ·exact h.pT k o e
   ·have:=h.up;omega
  ·rw[if_neg e];exact h.pT j l
 ·intro i j z l b m;unfold at2;have D:=(h.lt b (h.uS i z b m)).2;by_cases e:j=k
  ·rw[if_pos e];rintro (e | e)
   ·exact h.uT i k z o b m e
   ·omega
  ·rw[if_neg e];exact h.uT i j z l b m
 ·intro j l b;unfold at2;by_cases e:j=k
  ·rw[if_pos e];rintro (e | e)
   ·exact .inl (h.tS k o b e)
   ·exact .inr e
  ·rw[if_neg e];exact fun m=> .inl (h.tS j l b m)
 ·rintro b (e | e)
  ·exact⟨(h.lt b e).1,Nat.lt_of_lt_of_le (h.lt b e).2 F⟩
  ·exact⟨by have:=h.n.size;omega,e.2⟩
theorem DuP.putWay(h:DuP w0 w p S P g T u)(z:k<2)(U:Upd (fun b=>(u k).ownBlock=some b) w wD){v:Value}{l:List MsgV}(J:qfh wD w0.heap.size v l)(hv:∀b,v.ownBlock=some b→(u k).ownBlock=some b∨w.heap.size≤b)(V:∀m∈l,MsgOk m) :
  DuP w0 (wD.setCell ⟨p,2+k,none⟩ v) p (Fr S w (wD.setCell ⟨p,2+k,none⟩ v)) (P.setWay2 k l) g T (at2 k v u):=by
 have F:Upd (· = p) wD (wD.setCell ⟨p,2+k,none⟩ v):=(Upd.refl _ _).set1 (2+k) _
 have C:=U.old h.at_ (h.uP z)
 have W:=U.size
 have L:=F.size
 have E:∀b,v.ownBlock=some b→b<wD.heap.size:=fun b o=>by
  obtain⟨-,H,I⟩:=J.blk b o;exact z6 I
 have K:v.ownBlock≠some p:=fun e=>by
  obtain⟨-,H,I⟩:=J.blk p e;exact qao C I (by decide) rfl
 refine⟨?_,?_,?_,?_,h.sep,h.pT,?_,?_,.inl h.pS,fun j q b o=> .inl (h.tS j q b o),?_,?_,?_⟩
 ·have:=z7 C (2+k) v;rw[this];rcases qb1 z with rfl | rfl<;>rfl
 ·intro j q;rw[P.en_setWay];exact((h.en j q).upd U (fun b o e=>h.uT k j z q b e o)).upd F (fun b o e=>h.pT j q (e▸o))
 ·intro j q;rw[P.way_setWay l z q];unfold at2;by_cases e:j=k
  ·rw[if_pos e,if_pos e];exact J.upd F (fun b o e=>K (e▸o))
  ·rw[if_neg e,if_neg e];refine((h.row j q).upd U (fun b o D=> ?_)).upd F (fun b o t=>h.uP q (t▸o));rcases qb1 z with rfl | rfl<;>rcases qb1 q with rfl | rfl
   ·exact e rfl
   ·exact h.usep b D o
   ·exact h.usep b o D
   ·exact e rfl
 ·intro j q;rw[P.way_setWay l z q];unfold at2;by_cases e:j=k
  ·rw[if_pos e];exact V
  ·rw[if_neg e];exact h.ok j q
 ·intro i j R q b;unfold at2;by_cases e:i=k
  ·rw[if_pos e];intro o O;rcases hv b o with t | t
   ·exact h.uT k j z q b t O
   ·have:=(h.lt b (h.tS j q b O)).2;omega
  ·rw[if_neg e];exact h.uT i j R q b
 ·intro b;unfold at2;rcases qb1 z with rfl | rfl
  ·rw[if_pos rfl,if_neg (by decide)];intro o N;rcases hv b o with t | t
   ·exact h.usep b t N
   ·have:=(h.lt b (h.uS 1 (by decide) b N)).2;omega
  ·rw[if_neg (by decide),if_pos rfl];intro M o;rcases hv b o with t | t
   ·exact h.usep b M t
   ·have:=(h.lt b (h.uS 0 (by decide) b M)).2;omega
 ·intro j q b;unfold at2;by_cases e:j=k
  ·rw[if_pos e];intro o;rcases hv b o with t | t
   ·exact .inl (h.uS k z b t)
   ·exact .inr ⟨t,Nat.lt_of_lt_of_le (E b o) L⟩
  ·rw[if_neg e];exact fun o=> .inl (h.uS j q b o)
 ·rintro b (e | e)
  ·exact⟨(h.lt b e).1,by have:=(h.lt b e).2;omega⟩
  ·exact⟨by have:=h.n.size;omega,e.2⟩
 ·exact(h.n.then U (fun b o e=>by have:=(h.lt b (h.uS k z b e)).1;omega)).then F (fun b o e=>by have:=(h.lt p h.pS).1;omega)
theorem DuD.new(h:DuD w0 w p S P)(n:qu w w'):DuD w0 w' p S P:=by
 obtain⟨g,T,u,h⟩:=h;exact⟨g,T,u,h.new n⟩
theorem DuD.n(h:DuD w0 w p S P):qu w0 w:=by
 obtain⟨g,T,u,h⟩:=h;exact h.n
theorem DuD.lt(h:DuD w0 w p S P):∀b,S b→w0.heap.size≤b∧b<w.heap.size:=by
 obtain⟨g,T,u,h⟩:=h;exact h.lt
theorem DuD.wider{i:Nat→Prop}(h:DuD w0 w p S P)(l:∀b,S b→i b)(q:∀b,i b→w0.heap.size≤b∧b<w.heap.size):DuD w0 w p i P:=by
 obtain⟨g,T,u,h⟩:=h;exact⟨g,T,u,h.at_,h.en,h.row,h.ok,h.sep,h.pT,h.uT,h.usep,l _ h.pS,fun k o b m=>l b (h.tS k o b m),fun k o b m=>l b (h.uS k o b m),q,h.n⟩
def DSt(w0 w:World)(p:Nat)(S:Nat→Prop)(w':World)(P:Pr):Prop:=DuD w0 w' p (Fr S w w') P∧Upd S w w'
theorem DSt.refl(h:DuD w0 w p S P):DSt w0 w p S w P:=⟨h.wider (fun _ h=> .inl h) (fun b i=>i.elim (h.lt b) (fun e=>by omega)),Upd.refl _ _⟩
theorem DSt.trans{m:World}{o l:Pr}(h:DuD w0 w p S P)(a:DSt w0 w p S w' o)(b:DSt w0 w' p (Fr S w w') m l):DSt w0 w p S m l:=by
 have q:=h.n.size;have t:=a.2.size;have v:=b.2.size;refine⟨b.1.wider ?_ ?_,a.2.fr b.2⟩
 ·rintro i ((e | e) | e)
  ·exact .inl e
  ·exact .inr ⟨e.1,by omega⟩
  ·exact .inr ⟨by omega,e.2⟩
 ·rintro i (e | e)
  ·exact⟨(h.lt i e).1,by have:=(h.lt i e).2;omega⟩
  ·exact⟨by omega,e.2⟩
end
theorem DSt.after{w0 w W w':World}{p:Nat}{S:Nat→Prop}{P Q:Pr}(h:DuD w0 w p S P)(n:qu w W)(a:DSt w0 W p S w' Q):DSt w0 w p S w' Q:=by
 have l:=h.n.size;have m:=n.size;have o:=a.2.size;refine⟨a.1.wider (fun b i=>i.imp id (fun e=>⟨by omega,e.2⟩)) ?_,(n.mono (fun _ _ h=>h.elim)).trans a.2⟩;rintro b (e | e)
 ·exact⟨(h.lt b e).1,by have:=(h.lt b e).2;omega⟩
 ·exact⟨by omega,e.2⟩
theorem DSt.then{w0 w w' l:World}{p:Nat}{S:Nat→Prop}{Q:Pr}(a:DSt w0 w p S w' Q)(z:w0.heap.size≤w.heap.size)(i:∀b,S b→w0.heap.size≤b∧b<w.heap.size)(n:qu w' l):DSt w0 w p S l Q:=by
 have o:=a.2.size;have q:=n.size;refine⟨(a.1.new n).wider (fun b m=>m.imp id (fun e=>⟨e.1,by omega⟩)) ?_,a.2.trans (n.mono (fun _ _ h=>h.elim))⟩;rintro b (e | e)
 ·exact⟨(i b e).1,by have:=(i b e).2;omega⟩
 ·exact⟨by omega,e.2⟩
def b2n(b:Bool):Nat:=if b=true then 1 else 0
noncomputable def Pr.hk(R:Pr):Nat→Pr
 | 0=>R
 | k+1=>((R.hk k).heard k).1
noncomputable def Pr.ck(R:Pr):Nat→Nat
 | 0=>0
 | k+1=>R.ck k+b2n ((R.hk k).heard k).2
noncomputable def Pr.signs(P:Pr)(k:Nat):Pr:=P.act k (P.en k).sign
noncomputable def Pr.sk(R:Pr):Nat→Pr
 | 0=>R.hk 2
 | k+1=>(R.sk k).signs k
noncomputable def Pr.gk(R:Pr):Nat→Bool
 | 0=>decide (0<R.ck 2)
 | k+1=>R.gk k || (((R.sk k).en k).sign.2.2==0)
noncomputable def Pr.rounds:Nat→Pr→Pr
 | 0,P=>P
 | i+1,P=>Pr.rounds i (P.sk 2)
noncomputable def Pr.cnts:Nat→Pr→Nat
 | 0,_=>0
 | i+1,P=>P.ck 2+Pr.cnts i (P.sk 2)
noncomputable def Pr.restD(P:Pr):Pr:=Pr.rounds P.mu P
noncomputable def Pr.restN(P:Pr):Nat:=Pr.cnts P.mu P
def Bnd(K:Kon)(N:Nat)(P:Pr):Prop:=∃n,PInv K n P∧n+P.mu≤N
section
variable {K:Kon}{N n k:Nat}{P R:Pr}
theorem Bnd.of(h:PInv K n P):Bnd K (n+P.mu) P:=⟨n,h,Nat.le_refl _⟩
theorem Bnd.hear(i:K.Ok)(o:N<99000)(h:Bnd K N P)(l:k<2):Bnd K N (P.heard k).1:=by
 obtain⟨n,g,m⟩:=h;obtain⟨a,b⟩:=g.hears_mu i (by omega) l;refine⟨n,g.heard i (by omega) l,?_⟩;cases e:(P.heard k).2 with
 | true=>have:=a e;omega
 | false=>rw[(b e).1];exact m
theorem Bnd.signs(m:K.Ok)(h:Bnd K N P)(i:k<2):Bnd K N (P.signs k):=by
 obtain⟨n,g,l⟩:=h;obtain⟨a,b⟩:=g.sign_mu i;by_cases e:(P.en k).sign.2.2=0
 ·have:=a e;exact⟨n+1,(g.sign m i).1,by unfold Pr.signs;omega⟩
 ·unfold Pr.signs;rw[(b e).1];exact⟨n,g,l⟩
theorem Bnd.hk(g:K.Ok)(l:N<99000)(h:Bnd K N P):∀i,i≤2→Bnd K N (P.hk i)
 | 0,_=>h
 | i+1,m=>(Bnd.hk g l h i (by omega)).hear g l (by omega)
theorem Bnd.sk(g:K.Ok)(l:N<99000)(h:Bnd K N P):∀i,i≤2→Bnd K N (P.sk i)
 | 0,_=>h.hk g l 2 (Nat.le_refl _)
 | i+1,m=>(Bnd.sk g l h i (by omega)).signs g (by omega)
theorem q4a(l:K.Ok)(t:N<99000)(h:Bnd K N P):∀i,i≤2→(P.hk i).mu+P.ck i≤P.mu∧(P.ck i=0→P.hk i=P∧∀k,k<i→P.way k=[])
 | 0,_=>⟨Nat.le_refl _,fun _=>⟨rfl,fun k v=>absurd v (Nat.not_lt_zero _)⟩⟩
 | i+1,H=>by
  obtain⟨F,E⟩:=q4a l t h i (by omega);obtain⟨n,a1,a2⟩:=h.hk l t i (by omega);obtain⟨b1,b2⟩:=a1.hears_mu l (by omega) (show i<2 by omega);have C:P.hk (i+1)=((P.hk i).heard i).1:=rfl;have D:P.ck (i+1)=P.ck i+b2n ((P.hk i).heard i).2:=rfl;rw[C,D];cases e:((P.hk i).heard i).2 with
  | true =>
   have:=b1 e;refine⟨by show _+(_+1)≤_;omega,fun g=> ?_⟩;have g:P.ck i+1=0:=g;omega
  | false =>
   obtain⟨w,o⟩:=b2 e;rw[w];refine⟨by show _+(_+0)≤_;omega,fun g=> ?_⟩;have g:P.ck i+0=0:=g;obtain⟨q,z⟩:=E (by omega);refine⟨q,fun k v=> ?_⟩;by_cases m:k=i
   ·subst m;rw[q] at o;exact o
   ·exact z k (by omega)
theorem qme(o:K.Ok)(q:N<99000)(h:Bnd K N P):∀i,i≤2→(P.gk i=true→(P.sk i).mu<P.mu)∧(P.gk i=false→P.sk i=P∧P.ck 2=0∧(∀k,k<2→P.way k=[])∧∀k,k<i→qa3 (P.en k)≠0)
 | 0,_=>by
  obtain⟨m,g⟩:=q4a o q h 2 (Nat.le_refl _);refine⟨fun e=> ?_,fun e=> ?_⟩
  ·have e:0<P.ck 2:=of_decide_eq_true e;show (P.hk 2).mu<_;omega
  ·have e:¬0<P.ck 2:=of_decide_eq_false e;obtain⟨a,b⟩:=g (by omega);exact⟨a,by omega,b,fun k C=>absurd C (Nat.not_lt_zero _)⟩
 | i+1,L=>by
  obtain⟨m,g⟩:=qme o q h i (by omega);obtain⟨n,a1,a2⟩:=h.sk o q i (by omega);obtain⟨b1,b2⟩:=a1.sign_mu (show i<2 by omega);have I:P.sk (i+1)=(P.sk i).act i ((P.sk i).en i).sign:=rfl;have J:P.gk (i+1)=(P.gk i || (((P.sk i).en i).sign.2.2==0)):=rfl;rw[I,J];by_cases e:((P.sk i).en i).sign.2.2=0
  ·have:=b1 e;refine⟨fun _=> ?_,fun l=> ?_⟩
   ·cases z:P.gk i with
    | true=>have:=m z;omega
    | false=>rw[(g z).1] at this ⊢;exact this
   ·rw[e] at l;simp at l
  ·obtain⟨D,v⟩:=b2 e;rw[D,show (((P.sk i).en i).sign.2.2==0)=false from beq_eq_false_iff_ne.2 e,Bool.or_false];refine⟨m,fun l=> ?_⟩;obtain⟨w,E,F,H⟩:=g l;refine⟨w,E,F,fun k C=> ?_⟩;by_cases t:k=i
   ·subst t;rw[w] at v;exact v
   ·exact H k (by omega)
theorem qht(g:K.Ok)(i:N<99000)(h:Bnd K N R)(l:R.gk 2=false):R.Rest∧R.sk 2=R∧R.ck 2=0:=by
 obtain⟨a,b,c,d⟩:=(qme g i h 2 (Nat.le_refl _)).2 l;exact⟨⟨c 0 (by decide),c 1 (by decide),d 0 (by decide),d 1 (by decide)⟩,a,b⟩
theorem qoq{k:Nat}(i:k<2)(g:R.way k=[]):R.heard k=(R,false):=by
 obtain⟨a,b,wa,wb,bad⟩:=R;rcases qb1 i with rfl | rfl
 ·have g:wa=[]:=g;subst g;rfl
 ·have g:wb=[]:=g;subst g;rfl
theorem Pr.Rest.way(h:R.Rest){k:Nat}(g:k<2):R.way k=[]:=by
 rcases qb1 g with rfl | rfl
 ·exact h.wa
 ·exact h.wb
theorem Pr.Rest.err(h:R.Rest){k:Nat}(g:k<2):qa3 (R.en k)≠0:=by
 rcases qb1 g with rfl | rfl
 ·exact h.sa
 ·exact h.sb
theorem qsp(h:R.Rest){k:Nat}(g:k<2):R.signs k=R:=by
 have e:=h.err g;unfold Pr.signs;rw[qlj rfl e];obtain⟨a,b,wa,wb,bad⟩:=R;rcases qb1 g with rfl | rfl
 ·have e:qa3 a≠0:=e;show (⟨a,b,wa,qd5 wb MsgV.zero (qa3 a),bad⟩:Pr)=_;unfold qd5;rw[if_neg e]
 ·have e:qa3 b≠0:=e;show (⟨a,b,qd5 wa MsgV.zero (qa3 b),wb,bad⟩:Pr)=_;unfold qd5;rw[if_neg e]
theorem q20(h:R.Rest):R.sk 2=R∧R.ck 2=0∧R.gk 2=false:=by
 have e0:=qoq (show 0<2 by decide) (h.way (show 0<2 by decide));have i:=qoq (show 1<2 by decide) (h.way (show 1<2 by decide));have l:R.hk 1=R:=by show (R.heard 0).1=R;rw[e0]
 have m:R.hk 2=R:=by show ((R.hk 1).heard 1).1=R;rw[l,i]
 have o:R.sk 1=R:=by show (R.hk 2).signs 0=R;rw[m];exact qsp h (by decide)
 have v:R.sk 2=R:=by show (R.sk 1).signs 1=R;rw[o];exact qsp h (by decide)
 have q:R.ck 1=0:=by show 0+b2n (R.heard 0).2=0;rw[e0];rfl
 have g:R.ck 2=0:=by show R.ck 1+b2n ((R.hk 1).heard 1).2=0;rw[l,i,q];rfl
 refine⟨v,g,?_⟩;have t:((R.en 0).sign.2.2==0)=false:=by rw[qlk];exact beq_eq_false_iff_ne.2 (h.err (by decide))
 have f1:((R.en 1).sign.2.2==0)=false:=by rw[qlk];exact beq_eq_false_iff_ne.2 (h.err (by decide))
 show ((decide (0<R.ck 2) || (((R.sk 0).en 0).sign.2.2==0)) || (((R.sk 1).en 1).sign.2.2==0))=false;rw[o,show R.sk 0=R from m,t,f1,g];rfl
theorem qdj(h:R.Rest):∀m,Pr.rounds m R=R∧Pr.cnts m R=0
 | 0=>⟨rfl,rfl⟩
 | m+1=>by
  obtain⟨a,b,-⟩:=q20 h;show Pr.rounds m (R.sk 2)=R∧R.ck 2+Pr.cnts m (R.sk 2)=0;rw[a,b];obtain⟨c,d⟩:=qdj h m;exact⟨c,by omega⟩
theorem q32(i:K.Ok)(l:N<99000):∀m (R:Pr),Bnd K N R→Pr.cnts m R≤R.mu
 | 0,_,_=>Nat.zero_le _
 | m+1,R,h=>by
  have v:=q32 i l m (R.sk 2) (h.sk i l 2 (Nat.le_refl _));show R.ck 2+Pr.cnts m (R.sk 2)≤R.mu;have w:=q4a i l h 2 (Nat.le_refl _);have z:(R.sk 2).mu≤(R.hk 2).mu:=by
   have g:∀(P:Pr) (k:Nat),k<2→Bnd K N P→(P.signs k).mu≤P.mu:=fun P k o ⟨n,a1,a2⟩=>by
    obtain⟨b1,b2⟩:=a1.sign_mu o;by_cases e:(P.en k).sign.2.2=0
    ·have:=b1 e;exact Nat.le_of_lt this
    ·exact Nat.le_of_eq (congrArg Pr.mu (b2 e).1)
   have q:=g (R.sk 0) 0 (by decide) (h.sk i l 0 (by decide));have t:=g (R.sk 1) 1 (by decide) (h.sk i l 1 (by decide));exact Nat.le_trans t q
  omega
structure RsD(K:Kon)(N:Nat)(P:Pr)(h:Nat)(go:Bool)(R:Pr):Prop where
 bnd:Bnd K N R
 ex:∃m,Pr.rounds m R=P.restD∧h+Pr.cnts m R=P.restN∧R.mu≤m
 no:go=false→R.Rest
theorem RsD.start(h:Bnd K N P):RsD K N P 0 true P:=⟨h,⟨P.mu,rfl,Nat.zero_add _,Nat.le_refl _⟩,fun e=>by cases e⟩
theorem RsD.next(g:K.Ok)(i:N<99000){h:Nat}(r:RsD K N P h true R):RsD K N P (h+R.ck 2) (R.gk 2) (R.sk 2):=by
 obtain⟨l,⟨m,t,v,D⟩,-⟩:=r;refine⟨l.sk g i 2 (Nat.le_refl _),?_,fun e=> ?_⟩
 ·cases C:R.gk 2 with
  | true =>
   have:=(qme g i l 2 (Nat.le_refl _)).1 C;obtain⟨q,rfl⟩:∃q,m=q+1:=⟨m-1,by omega⟩;exact⟨q,t,by rw[←v,Nat.add_assoc];rfl,by omega⟩
  | false =>
   obtain⟨w,o,z⟩:=qht g i l C;rw[o,z];exact⟨m,t,v,D⟩
 ·obtain⟨w,o,z⟩:=qht g i l e;rw[o];exact w
theorem RsD.stop{h:Nat}(r:RsD K N P h false R):P.restD=R∧P.restN=h∧P.restD.Rest∧Bnd K N P.restD:=by
 obtain⟨o,⟨m,g,l,t⟩,q⟩:=r;have i:=q rfl;obtain⟨c,d⟩:=qdj i m;rw[c] at g;rw[d] at l;exact⟨g.symm,by omega,by rw[←g];exact i,by rw[←g];exact o⟩
theorem RsD.few(i:K.Ok)(l:N<99000){h:Nat}{g:Bool}(r:RsD K N P h g R)(o:Bnd K N P):h≤P.mu:=by
 obtain⟨z,⟨m,q,t,v⟩,C⟩:=r;have:=q32 i l P.mu P o;have w:P.restN≤P.mu:=this;omega
end
attribute [local go_sem ↓ high] zy qak qaq qat zr zu zw zx
attribute [local go_sem] qcl qdb qdn zb qb3 qb9 qcf qbg
theorem zcb(x:Int):bits .and .i64 x 1=((x%2).toNat:Int):=by
 show IntKind.i64.wrap ((BitVec.ofInt 64 x &&& BitVec.ofInt 64 (1:Int)).toNat:Int)=_;rw[BitVec.toNat_and,show (BitVec.ofInt 64 (1:Int)).toNat=1 from rfl,Nat.and_one_is_mod,BitVec.toNat_ofInt];have h:((x%((2 ^ 64:Nat):Int)).toNat%2:Nat)=(x%2).toNat:=by omega
 rw[h];exact qkj (by omega) (by omega)
section
variable {w0 w:World}{p:Nat}{g:Nat→Nat}{K:Kon}{n:Nat}{P:Pr}
end
end Go.Proofs.YthnohmjbbeahmaaGreatDoor
