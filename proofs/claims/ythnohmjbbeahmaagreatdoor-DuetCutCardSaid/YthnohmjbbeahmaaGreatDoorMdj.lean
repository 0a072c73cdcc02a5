/-
  Law 13: an act, plain: what it makes of the pair; it keeps the protocol.
-/
import Derived.Test.YthnohmjbbeahmaaGreatDoorMdc
import Derived.Test.YthnohmjbbeahmaaGreatDoorMdi
set_option linter.unusedVariables false
set_option linter.unusedSimpArgs false
namespace Go.Proofs.YthnohmjbbeahmaaGreatDoor
open Go.RowKit
structure ActV where
 kind:Int
 side:Int
 expiry:Int
 n:Int
 id:Int
 p:Int
 rest:List Value
def ActV.cells(x:ActV):List Value:= .int .i64 x.kind :: .int .i64 x.side :: .int .i64 x.expiry :: .int .u64 x.n :: .int .u64 x.id :: .int .u8 x.p::x.rest
structure ActV.Ok(x:ActV):Prop where
 kind : -9223372036854775808≤x.kind∧x.kind≤9223372036854775807
 side : -9223372036854775808≤x.side∧x.side≤9223372036854775807
 expiry : -9223372036854775808≤x.expiry∧x.expiry≤9223372036854775807
 n:0≤x.n∧x.n<18446744073709551616
 id:0≤x.id∧x.id<18446744073709551616
 p:0≤x.p∧x.p≤255
 rest:x.rest.length=38
def ActV.k(x:ActV):Nat:=(x.side%2).toNat
theorem ActV.k_lt(x:ActV):x.k<2:=by unfold ActV.k;omega
def Pr.act(P:Pr)(k:Nat)(r:Ch × MsgV × Int):Pr:=(P.set k r.1).say k r.2.1 r.2.2
def Pr.cuts(P:Pr):Pr:=⟨P.a.cut,P.b.cut,[P.b.cut.again],[P.a.cut.again],P.bad⟩
noncomputable def Pr.does(P:Pr)(x:ActV):Pr :=
 if x.kind=0∨x.kind=1 then P.act x.k ((P.en x.k).offer x.n (qcl (ofI (zdd x.p))) x.expiry)
 else if x.kind=2 then P.act x.k ((P.en x.k).fulfill x.id (zdd x.p))
 else if x.kind=3 then P.act x.k ((P.en x.k).fail x.id x.expiry)
 else if x.kind=4∨x.kind=5 then P.act x.k (P.en x.k).sign
 else if x.kind=6∨x.kind=7∨x.kind=8 then (P.heard x.k).1
 else if x.kind=9 then P.act x.k (P.en x.k).shut
 else if x.kind=11 then (((P.cuts.heard 0).1).heard 1).1
 else P
structure PInv(K:Kon)(n:Nat)(P:Pr):Prop where
 prot:qcn K n true P.a P.b P.wa P.wb
 bad:P.bad=false
 sa:P.a.k.signed≤n
 sb:P.b.k.signed≤n
theorem qx3(c:Ch)(N ex:Int)(hv:Vector Int 32):(c.offer N hv ex).1.k.signed=c.k.signed:=by unfold Ch.offer;split<;>rfl
theorem qzz(c:Ch)(id r:Int):(c.fail id r).1.k.signed=c.k.signed:=by
 unfold Ch.fail;split
 ·rfl
 ·split<;>rfl
theorem qr8(c:Ch)(id:Int)(p:List Int):(c.fulfill id p).1.k.signed=c.k.signed:=by
 unfold Ch.fulfill;split
 ·rfl
 ·split<;>rfl
theorem q1q(c:Ch):c.shut.1.k.signed=c.k.signed:=by unfold Ch.shut;split<;>rfl
theorem q1s(c:Ch):c.sign.1.k.signed≤c.k.signed+1:=by
 unfold Ch.sign;split
 ·exact Int.le_refl _
 ·show c.k.signed≤_;omega
theorem qn9(c:Ch)(m:MsgV):(c.hears m).1.k.signed=c.k.signed:=by
 unfold Ch.hears;split
 ·split<;>rfl
 ·unfold Ch.hear;split
  ·rfl
  split
  ·unfold Ch.hearAdd;split<;>rfl
  split
  ·unfold Ch.hearFulfill;split
   ·rfl
   ·split<;>rfl
  split
  ·unfold Ch.hearFail;split<;>rfl
  split
  ·unfold Ch.hearSign;split
   ·show (((c.goOn 3).heardOne.goOn 4).k).signed=_;rw[qsb];show ((c.goOn 3).k).signed=_;rw[qsb]
   ·rfl
  split
  ·unfold Ch.hearRevoke;split
   ·show (((c.shelved m).goOn 2).k).signed=_;rw[qsb];rfl
   ·rfl
  unfold Ch.hearShut;split<;>rfl
theorem qlx(p:List Int):(ofI p).length=32:=qc9 _
theorem qgt(p:List Int):qa7 (ofI p):=qgg _
section
variable {K:Kon}{n m k:Nat}{P:Pr}
theorem qcn.heard{s:Bool}{a b:Ch}{wa wb:List MsgV}(h:qcn K n s a b wa wb):0≤a.k.heard∧a.k.heard≤b.k.signed:=by
 obtain⟨Q,h,rfl,rfl,rfl,rfl,rfl⟩:=h;have g:=h.ea.nums.1;have i:=h.ba.sig;refine⟨g,?_⟩;split at i<;>omega
theorem PInv.side(h:PInv K n P)(g:k<2):qcn K n (k==0) (P.en k) (P.en (1-k)) (P.way k) (P.way (1-k))∧(P.en k).k.signed≤n:=by
 rcases (by omega:k=0∨k=1) with rfl | rfl
 ·exact⟨h.1,h.sa⟩
 ·exact⟨h.1.flip,h.sb⟩
theorem PInv.back(g:PInv K n P)(q:k<2){r:Ch × MsgV × Int}(h:qcn K (n+1) (k==0) r.1 (P.en (1-k)) (P.way k) (qd4 (P.way (1-k)) r.2.1 r.2.2))(i:r.1.k.signed≤(P.en k).k.signed+1):PInv K (n+1) (P.act k r):=by
 have l:=g.sa;have o:=g.sb;rcases (by omega:k=0∨k=1) with rfl | rfl
 ·have i:r.1.k.signed≤P.a.k.signed+1:=i;exact⟨h,g.bad,by show r.1.k.signed≤_;omega,by show P.b.k.signed≤_;omega⟩
 ·have i:r.1.k.signed≤P.b.k.signed+1:=i;exact⟨h.flip,g.bad,by show P.a.k.signed≤_;omega,by show r.1.k.signed≤_;omega⟩
theorem PInv.mono(h:PInv K n P)(g:n≤m):PInv K m P:=⟨h.1.mono g,h.2,by have:=h.sa;omega,by have:=h.sb;omega⟩
theorem PInv.long(h:PInv K n P):P.wa.length≤n+3∧P.wb.length≤n+3:=h.1.long
theorem PInv.end(g:K.Ok)(l:n<1000000)(h:PInv K n P)(i:k<2):EndOk K n (k==0) (P.en k):=(h.side i).1.endA g l
theorem EndOk.sign{s:Bool}{c:Ch}(g:K.Ok)(i:n<1000000)(h:EndOk K n s c):SignOk c:=by
 have:=g.keyb s;refine⟨?_,h.inv.ch,by have:=h.news;omega,h.inv.few⟩;rw[h.set];omega
theorem zbx{s:Bool}{a b:Ch}{wa wb:List MsgV}(i:K.Ok)(y:n<100000)(h:qcn K n s a b wa wb):qwn a wa wb:=by
 unfold qwn;cases wa with
 | nil=>trivial
 | cons m ms =>
  obtain⟨g,t,v,o,w⟩:=h.hears i (by omega);have q:=h.long;rw[List.length_cons] at q;have l:=h.endA i (by omega);have x:=g.kind;exact⟨g.ok,⟨l.inv,by omega,o,by omega,by have:=l.last;omega⟩,by omega⟩
theorem PInv.hok(g:K.Ok)(l:n<100000)(h:PInv K n P)(i:k<2):P.Hok k:=by
 have:=zbx g l (h.side i).1;rcases (by omega:k=0∨k=1) with rfl | rfl<;>exact this
theorem PInv.heard(o:K.Ok)(v:n<100000)(h:PInv K n P)(t:k<2):PInv K n (P.heard k).1:=by
 have q:=(h.side t).1;obtain⟨a,b,wa,wb,bad⟩:=P;obtain⟨l,rfl,sa,sb⟩:=h;simp only at sa sb;rcases (by omega:k=0∨k=1) with rfl | rfl
 ·cases wa with
  | nil=>exact⟨l,rfl,sa,sb⟩
  | cons m ms =>
   obtain⟨-,g,i,-⟩:=q.hears o (by omega);refine⟨i,?_,by show (a.hears m).1.k.signed≤n;rw[qn9];exact sa,sb⟩;exact(by show (false || decide ((a.hears m).2.2≠0))=false;rw[show (a.hears m).2.2=0 from g];rfl)
 ·cases wb with
  | nil=>exact⟨l,rfl,sa,sb⟩
  | cons m ms =>
   obtain⟨-,g,i,-⟩:=q.hears o (by omega);refine⟨i.flip,?_,sa,by show (b.hears m).1.k.signed≤n;rw[qn9];exact sb⟩;exact(by show (false || decide ((b.hears m).2.2≠0))=false;rw[show (b.hears m).2.2=0 from g];rfl)
theorem qp8{c d:Ch}(g:c.s.ch=d.s.ch)(hd:0≤d.k.heard∧d.k.heard≤65534):c.hears d.again=(c,(c.hearAgain d.again).1,(c.hearAgain d.again).2):=by
 unfold Ch.hears;rw[if_pos (show d.again.kind=9 from rfl),if_neg];rintro (e | e)
 ·rw[show d.again=⟨9,d.s.ch,IntKind.u64.wrap d.k.told,0,qaj,0,d.k.heard+1⟩ from rfl,q8s _ _ ⟨by omega,by omega⟩] at e;cases e
 ·exact e g.symm
theorem qy2{c:Ch}(g:0≤c.s.ch∧c.s.ch<4294967296)(i:0≤c.k.heard∧c.k.heard≤65535):MsgOk c.again :=
 qg4 ⟨by decide,by decide⟩ g (qrh _) ⟨by decide,by decide⟩ qu qec ⟨by decide,by decide⟩ ⟨by omega,by omega⟩
theorem PInv.cut(g:K.Ok)(N:n<60000)(h:PInv K n P):P.cuts.Hok 0∧((P.cuts.heard 0).1).Hok 1∧PInv K n (((P.cuts.heard 0).1).heard 1).1∧MsgOk P.a.cut.again∧MsgOk P.b.cut.again:=by
 obtain⟨a,b,wa,wb,bad⟩:=P;obtain⟨q,rfl,sa,sb⟩:=h;simp only at q sa sb;have F:=q.heard;have H:=q.flip.heard;obtain⟨o,D,E⟩:=q.cut g (by omega);have ea:=o.endA g (by omega);have eb:=o.endB g (by omega);have t:=o.long;obtain⟨L,M⟩:=o.said g;have x:=(qli a).2.2.2.2.2.1;have y:=(qli b).2.2.2.2.2.1;have i:a.cut.s.ch=b.cut.s.ch:=by rw[ea.set,eb.set,g.ch,g.ch]
 have z:=qy2 ea.inv.ch (by rw[x];omega);have C:=qy2 eb.inv.ch (by rw[y];omega);have v:=qp8 (c:=a.cut) (d:=b.cut) i (by rw[y];omega);have w:=qp8 (c:=b.cut) (d:=a.cut) i.symm (by rw[x];omega);have I:(Pr.cuts ⟨a,b,wa,wb,false⟩).heard 0=(⟨a.cut,b.cut,[],[a.cut.again]++(a.cut.hearAgain b.cut.again).1,false⟩,true):=by
  show ((⟨(a.cut.hears b.cut.again).1,b.cut,[],[a.cut.again]++(a.cut.hears b.cut.again).2.1,false || decide ((a.cut.hears b.cut.again).2.2≠0)⟩:Pr),true)=_;rw[v];simp only[D];rfl
 rw[I];have J:(Pr.mk a.cut b.cut [] ([a.cut.again]++(a.cut.hearAgain b.cut.again).1) false).heard 1=(⟨a.cut,b.cut,(b.cut.hearAgain a.cut.again).1,(a.cut.hearAgain b.cut.again).1,false⟩,true):=by
  show ((⟨a.cut,(b.cut.hears a.cut.again).1,[]++(b.cut.hears a.cut.again).2.1,(a.cut.hearAgain b.cut.again).1,false || decide ((b.cut.hears a.cut.again).2.2≠0)⟩:Pr),true)=_;rw[w];simp only[E,List.nil_append];rfl
 rw[J];refine⟨⟨C,⟨ea.inv,⟨by show (3:Int)≤9;decide,by show (9:Int)≤9;decide⟩,?_,?_,by have:=ea.last;show a.cut.last.length≤_;omega⟩,by decide⟩,⟨z,⟨eb.inv,⟨by show (3:Int)≤9;decide,by show (9:Int)≤9;decide⟩,?_,?_,by have:=eb.last;show b.cut.last.length≤_;omega⟩,by show (a.cut.hearAgain b.cut.again).1.length<_;omega⟩,⟨o,rfl,?_,?_⟩,z,C⟩
 ·show ∀l∈(a.cut.hears b.cut.again).2.1,MsgOk l;rw[v];exact fun l t=>(M l t).ok
 ·show ([a.cut.again]:List MsgV).length+(a.cut.hears b.cut.again).2.1.length≤_;rw[v];show 1+(a.cut.hearAgain b.cut.again).1.length≤_;omega
 ·show ∀l∈(b.cut.hears a.cut.again).2.1,MsgOk l;rw[w];exact fun l t=>(L l t).ok
 ·show ([]:List MsgV).length+(b.cut.hears a.cut.again).2.1.length≤_;rw[w];show 0+(b.cut.hearAgain a.cut.again).1.length≤_;omega
 ·show a.cut.k.signed≤n;rw[(qli a).2.2.2.2.1];exact sa
 ·show b.cut.k.signed≤n;rw[(qli b).2.2.2.2.1];exact sb
theorem PInv.offer(o:K.Ok)(v:n<60000)(h:PInv K n P)(g:k<2){N ex:Int}{hv:Vector Int 32}(q:0≤N)(t:qa7 hv.toList):PInv K (n+1) (P.act k ((P.en k).offer N hv ex))∧MsgOk ((P.en k).offer N hv ex).2.1:=by
 obtain⟨i,l⟩:=(h.side g).1.offer o (by omega) (ex:=ex) q t;exact⟨h.back g i (by rw[qx3];omega),l⟩
theorem PInv.fulfill(o:K.Ok)(h:PInv K n P)(g:k<2)(id:Int)(p:List Int)(q:p.length=32)(t:qa7 p):PInv K (n+1) (P.act k ((P.en k).fulfill id p))∧MsgOk ((P.en k).fulfill id p).2.1:=by
 obtain⟨i,l⟩:=(h.side g).1.fulfill o id p q t;exact⟨h.back g i (by rw[qr8];omega),l⟩
theorem PInv.fail(o:K.Ok)(h:PInv K n P)(g:k<2)(id r:Int):PInv K (n+1) (P.act k ((P.en k).fail id r))∧MsgOk ((P.en k).fail id r).2.1:=by
 obtain⟨i,l⟩:=(h.side g).1.fail o id r;exact⟨h.back g i (by rw[qzz];omega),l⟩
theorem PInv.sign(o:K.Ok)(h:PInv K n P)(g:k<2):PInv K (n+1) (P.act k (P.en k).sign)∧MsgOk (P.en k).sign.2.1:=by
 obtain⟨i,l⟩:=(h.side g).1.sign o;exact⟨h.back g i (q1s _),l⟩
theorem PInv.shut(o:K.Ok)(h:PInv K n P)(g:k<2):PInv K (n+1) (P.act k (P.en k).shut)∧MsgOk (P.en k).shut.2.1:=by
 obtain⟨i,l⟩:=(h.side g).1.shut o;exact⟨h.back g i (by rw[q1q];omega),l⟩
theorem PInv.does(g:K.Ok)(l:n<60000)(h:PInv K n P){x:ActV}(o:x.Ok):PInv K (n+1) (P.does x):=by
 have i:=x.k_lt;unfold Pr.does;split
 ·exact(h.offer g l i o.n.1 (by rw[qeh (qlx _)];exact qgt _)).1
 split
 ·exact(h.fulfill g i _ _ (zde _) (q37 _)).1
 split
 ·exact(h.fail g i _ _).1
 split
 ·exact(h.sign g i).1
 split
 ·exact(h.heard g (by omega) i).mono (Nat.le_succ n)
 split
 ·exact(h.shut g i).1
 split
 ·exact(h.cut g l).2.2.1.mono (Nat.le_succ n)
 ·exact h.mono (Nat.le_succ n)
end
attribute [local go_sem ↓ high] qab qan qar qaw zy zz z7 qaa
attribute [local go_sem] qcr qde qdn zb qb2 qcb qci qbi
theorem zdz(x:Int):bits .and .i64 x 1=((x%2).toNat:Int):=by
 show IntKind.i64.wrap ((BitVec.ofInt 64 x &&& BitVec.ofInt 64 (1:Int)).toNat:Int)=_;rw[BitVec.toNat_and,show (BitVec.ofInt 64 (1:Int)).toNat=1 from rfl,Nat.and_one_is_mod,BitVec.toNat_ofInt];have h:((x%((2 ^ 64:Nat):Int)).toNat%2:Nat)=(x%2).toNat:=by omega
 rw[h];exact qk2 (by omega) (by omega)
section
variable {w0 w:World}{p:Nat}{g:Nat→Nat}{K:Kon}{n:Nat}{P:Pr}
end
end Go.Proofs.YthnohmjbbeahmaaGreatDoor
namespace Go.Proofs.YthnohmjbbeahmaaGreatDoor
open Go.RowKit
def sd(k:Int):Nat:=(k%2).toNat
theorem qeo(k:Int):sd k<2:=by unfold sd;omega
theorem ql3{k:Nat}(h:k<2):sd (k:Int)=k:=by unfold sd;omega
theorem zdn(k:Int):sd (wrap64 (k+1))=1-sd k:=by
 unfold sd wrap64;omega
set_option maxHeartbeats 600000 in
theorem qgu(k:Int)(w:World):Calls Tryz.prog 42 #[.int .i64 k] w (qch (.int .i64 (sd k:Int)) w):=by
 have i:=zdz k;unfold sd;generalize (k%2).toNat=s at i ⊢;go_enter Tryz.func42,Tryz.ntmps42;go_wp2_with fail;go_ret;exact⟨rfl,Q.refl _⟩
section
variable {w0 w w':World}{p:Nat}{S:Nat→Prop}{P:Pr}{g:Nat→Nat}{T:Nat→Nat→Prop}{u:Nat→Value}
theorem DuP.cellE(h:DuP w0 w p S P g T u){k:Nat}(i:k<2):w.cell? ⟨p,k,none⟩=some (.pointer (some ⟨g k,0,none⟩)):=by
 rw[qh h.at_ k];rcases qbk i with rfl | rfl<;>rfl
theorem DuP.cellW(h:DuP w0 w p S P g T u){k:Nat}(i:k<2):w.cell? ⟨p,2+k,none⟩=some (u k):=by
 rw[qh h.at_ (2+k)];rcases qbk i with rfl | rfl<;>rfl
end
set_option maxHeartbeats 600000 in
theorem qmc{w0 w:World}{p:Nat}{S:Nat→Prop}{P:Pr}{g:Nat→Nat}{T:Nat→Nat→Prop}{u:Nat→Value}(h:DuP w0 w p S P g T u)(k:Int)(l:Nat)(i:sd k=l) :
  Calls Tryz.prog 18 #[.pointer (some ⟨p,0,none⟩),.int .i64 k] w (qch (.pointer (some ⟨g l,0,none⟩)) w):=by
 have t:l<2:=i▸qeo k
 have m:=fun W=>qgu k W
 rw[i] at m
 have c:=h.cellE t
 have v:(l:Int)<2:=by omega
 clear h
 go_enter Tryz.func18,Tryz.ntmps18
 go_wp2_with (with_reducible first|(first|refine' zi (qg ?_) ?_|refine' zj (qg ?_) ?_);rotate_left|refine' zk (qg ?_)|rfl|apply tn|refine' zl ?_)
 refine(m _).mono ?_
 rintro e w1 ⟨rfl,q⟩
 have q:=q.ofDrew
 have x:=q.cell c
 have o:=qb q
 clear q m c
 go_wp2_with (with_reducible first|(first|refine' zi (qg ?_) ?_|refine' zj (qg ?_) ?_);rotate_left|refine' zk (qg ?_)|rfl|apply tn|refine' zl ?_)
 go_ret
 exact⟨rfl,qa o⟩
def qm6(w:World)(l:Value)(ls:List MsgV):Prop:=(l = .slice none 0 0∧ls=[])∨∃i c,l = .slice (some i) ls.length c∧∀j u,(ls.flatMap MsgV.cells)[j]? = some u→w.cell? (i.add j)=some u
theorem qm6.new{w w':World}{i:Value}{ls:List MsgV}(h:qm6 w i ls)(n:qq w w'):qm6 w' i ls:=by
 rcases h with h | ⟨l,c,e,h⟩
 ·exact .inl h
 ·exact .inr ⟨l,c,e,fun j u m=>n.cell (h j u m) (fun h=>h)⟩
theorem qm6.shape{w:World}{i:Value}{ls:List MsgV}(h:qm6 w i ls):∃a c,i = .slice a ls.length c:=by
 rcases h with ⟨rfl,rfl⟩ | ⟨l,c,e,-⟩
 ·exact⟨_,_,rfl⟩
 ·exact⟨_,_,e⟩
def DuG(w0 w:World)(p:Nat)(S:Nat→Prop)(P:Pr)(g:Nat→Nat):Prop:=∃T u,DuP w0 w p S P g T u
section
variable {w0 w w' W:World}{p:Nat}{S S' X:Nat→Prop}{P Q:Pr}{g:Nat→Nat}
theorem DuG.toD(h:DuG w0 w p S P g):DuD w0 w p S P:=by
 obtain⟨T,u,h⟩:=h;exact⟨g,T,u,h⟩
theorem DuD.toG(h:DuD w0 w p S P):∃g,DuG w0 w p S P g:=by
 obtain⟨g,T,u,h⟩:=h;exact⟨g,T,u,h⟩
theorem DuG.new(h:DuG w0 w p S P g)(n:qq w w'):DuG w0 w' p S P g:=by
 obtain⟨T,u,h⟩:=h;exact⟨T,u,h.new n⟩
theorem DuG.n(h:DuG w0 w p S P g):qq w0 w:=h.toD.n
theorem DuG.lt(h:DuG w0 w p S P g):∀b,S b→w0.heap.size≤b∧b<w.heap.size:=h.toD.lt
theorem DuG.wider(h:DuG w0 w p S P g)(i:∀b,S b→S' b)(o:∀b,S' b→w0.heap.size≤b∧b<w.heap.size):DuG w0 w p S' P g:=by
 obtain⟨T,u,h⟩:=h;exact⟨T,u,h.at_,h.en,h.row,h.ok,h.sep,h.pT,h.uT,h.usep,i _ h.pS,fun k m b l=>i b (h.tS k m b l),fun k m b l=>i b (h.uS k m b l),o,h.n⟩
theorem DuP.upd{T:Nat→Nat→Prop}{u:Nat→Value}(h:DuP w0 w p S P g T u)(U:Upd X w w')(n:∀b,X b→¬S b∧w0.heap.size≤b):DuP w0 w' p S P g T u :=
 ⟨U.old h.at_ (fun e=>(n p e).1 h.pS),fun k l=>(h.en k l).upd U (fun b i e=>(n b e).1 (h.tS k l b i)),fun k l=>(h.row k l).upd U (fun b i e=>(n b e).1 (h.uS k l b i)),h.ok,h.sep,h.pT,h.uT,h.usep,h.pS,h.tS,h.uS,fun b i=>⟨(h.lt b i).1,Nat.lt_of_lt_of_le (h.lt b i).2 U.size⟩,h.n.then U (fun b i e=>by have:=(n b e).2;omega)⟩
theorem DuG.upd(h:DuG w0 w p S P g)(U:Upd X w w')(n:∀b,X b→¬S b∧w0.heap.size≤b):DuG w0 w' p S P g:=by
 obtain⟨T,u,h⟩:=h;exact⟨T,u,h.upd U n⟩
theorem DuD.upd(h:DuD w0 w p S P)(U:Upd X w w')(n:∀b,X b→¬S b∧w0.heap.size≤b):DuD w0 w' p S P:=by
 obtain⟨g,h⟩:=h.toG;exact(h.upd U n).toD
end
def DSG(w0 w:World)(p:Nat)(S:Nat→Prop)(w':World)(P:Pr)(g:Nat→Nat):Prop:=DuG w0 w' p (Fr S w w') P g∧Upd S w w'
theorem DSG.toD{w0 w w':World}{p:Nat}{S:Nat→Prop}{P:Pr}{g:Nat→Nat}(h:DSG w0 w p S w' P g):DSt w0 w p S w' P:=⟨h.1.toD,h.2⟩
theorem DSt.toG{w0 w w':World}{p:Nat}{S:Nat→Prop}{P:Pr}(h:DSt w0 w p S w' P):∃g,DSG w0 w p S w' P g:=by
 obtain⟨g,i⟩:=h.1.toG;exact⟨g,i,h.2⟩
theorem DSG.after{w0 w W w':World}{p:Nat}{S:Nat→Prop}{P Q:Pr}{g:Nat→Nat}(h:DuD w0 w p S P)(n:qq w W)(a:DSG w0 W p S w' Q g):DSG w0 w p S w' Q g:=by
 have l:=h.n.size;have m:=n.size;have o:=a.2.size;refine⟨a.1.wider (fun b i=>i.imp id (fun e=>⟨by omega,e.2⟩)) ?_,(n.mono (fun _ _ h=>h.elim)).trans a.2⟩;rintro b (e | e)
 ·exact⟨(h.lt b e).1,by have:=(h.lt b e).2;omega⟩
 ·exact⟨by omega,e.2⟩
def Pr.sends(P:Pr)(k:Nat)(ls:List MsgV):Pr:=P.setWay2 (1-k) (P.way (1-k)++ls)
set_option maxRecDepth 100000 in
set_option maxHeartbeats 1000000 in
theorem qnb{w0 w:World}{p:Nat}{S:Nat→Prop}{P:Pr}{g:Nat→Nat}(hG:DuG w0 w p S P g)(k:Int)(L:Nat)(R:sd k=L)(ls:List MsgV)(U:∀l∈ls,MsgOk l)(xv:Value)(hx:qm6 w xv ls)(v:(P.way (1-L)).length+ls.length≤1000000) :
  Calls Tryz.prog 43 #[.pointer (some ⟨p,0,none⟩),.int .i64 k,xv] w fun e w'=>e = .returned (.tuple #[])∧DSG w0 w p S w' (P.sends L ls) g:=by
 have h:=hG.toD
 have hk:L<2:=R▸qeo k
 have o:1-L<2:=by omega
 have H0:=qb h
 obtain⟨T,u,hD⟩:=hG
 clear h
 have hs:=fun W=>qgu (wrap64 (k+1)) W
 rw[zdn,R] at hs
 have I:=(hs w)
 obtain⟨j,hj⟩:∃j,j=1-L:=⟨_,rfl⟩
 have Z:P.sends L ls=P.setWay2 j (P.way j++ls):=by unfold Pr.sends;rw[←hj]
 rw[←hj] at hs I o v
 rw[Z]
 have a9:(j:Int)<2:=by omega
 have HX:=qb hx
 have HD:=qb hD
 have HF:=qb v
 obtain⟨xa,xc,K⟩:=hx.shape
 have N:=qb K
 rw[K]
 clear hx hD hs Z hj K v
 go_enter Tryz.func43,Tryz.ntmps43
 go_wp2_with (with_reducible first|(first|refine' zi (qg ?_) ?_|refine' zj (qg ?_) ?_);rotate_left|refine' zk (qg ?_)|rfl|apply tn|refine' zl ?_)
 refine I.mono ?_
 rintro e w1 ⟨rfl,q⟩
 have n1:qq w w1:=q.upd _
 have i:=(qa HD).new n1
 have c1:=i.cellW o
 have F:=i.row j o
 have y:=i.ok j o
 have x:=(qa HX).new n1
 rw[qa N] at x
 obtain⟨ua,uc,hu⟩:=F.shape
 have a6:=i.n.size
 rw[hu] at c1
 have H:=F.new (Upd.refl (fun _=>False) w1).drew
 have Y:=x.new (Upd.refl (fun _=>False) w1).drew
 rw[hu] at H
 have fz:w1.frozen? ⟨p,2+j,none⟩=false:=qw i.at_ (2+j)
 have HR:=qb H
 have HO:=qb y
 have HS:=qb Y
 have HN:=qb n1
 have HU:=qb hu
 have a5:=qb i
 clear I q F y x n1 hu HX N H Y i HD
 go_wp2_with (first | (at_builtin;refine zag rfl (.tmp 17) (.tmp 18) rfl w0.heap.size _ rfl (P.way j) (qa HR) (qa HO) ls U _ rfl (qa HS) ?few ?base ?_) | (with_reducible first|(first|refine' zi (qg ?_) ?_|refine' zj (qg ?_) ?_);rotate_left|refine' zk (qg ?_)|rfl|apply tn|refine' zl ?_))
 case few=>exact qa HF
 case base=>exact a6
 intro v' w3 E M t
 have M:=M.ofDrew
 rw[←qa HU] at M t
 have i:=qa a5
 have O:=i.putWay o M E (fun b D=>by
  rcases t with e | e
  ·exact .inl (e▸D)
  ·rw[e] at D;injection D with D;exact .inr (by rw[←D];exact Nat.le_refl _)) (fun m hm=>(List.mem_append.1 hm).elim (qa HO m) (U m))
 have a8:(u j).ownBlock≠some p:=i.uP o
 have C:=M.old i.at_ a8
 have c3:w3.cell? ⟨p,2+j,none⟩=some (u j):=by
  rw[qh C (2+j)];rcases qbk o with rfl | rfl<;>rfl
 rw[qa HU] at c3
 have f3:w3.frozen? ⟨p,2+j,none⟩=false:=qw C (2+j)
 have uE:Upd (· = p) w3 (w3.setCell ⟨p,2+j,none⟩ v'):=(Upd.refl _ _).set1 (2+j) _
 have a4:DSG w0 w1 p S (w3.setCell ⟨p,2+j,none⟩ v') (P.setWay2 j (P.way j++ls)) g:=⟨⟨_,_,O⟩,(M.mono (fun b _ D=>i.uS j o b D)).trans (uE.mono (fun b _ e=>by rw[e];exact i.pS))⟩
 have a7:=qa HN
 have V:=i.lt
 obtain⟨va,vc,J⟩:=E.shape
 have HV:=qb J
 have z:=qb a4
 clear E M t O C uE a4 i V c1 fz
 rw[J] at z ⊢
 clear J
 go_wp2_with (with_reducible first|(first|refine' zi (qg ?_) ?_|refine' zj (qg ?_) ?_);rotate_left|refine' zk (qg ?_)|rfl|apply tn|refine' zl ?_)
 go_end0
 rw[List.length_append] at z
 exact⟨rfl,DSG.after (qa H0) a7 (qa z)⟩
theorem qu0{w0 w:World}{p:Nat}{S:Nat→Prop}{P:Pr}(h:DuD w0 w p S P)(k:Int)(m:Nat)(o:sd k=m)(ls:List MsgV)(q:∀l∈ls,MsgOk l)(t:Value)(y:qm6 w t ls)(i:(P.way (1-m)).length+ls.length≤1000000) :
  Calls Tryz.prog 43 #[.pointer (some ⟨p,0,none⟩),.int .i64 k,t] w fun e w'=>e = .returned (.tuple #[])∧DSt w0 w p S w' (P.sends m ls):=by
 obtain⟨g,x⟩:=h.toG
 exact(qnb x k m o ls q t y i).mono fun e w' v=>⟨v.1,v.2.toD⟩
attribute [local go_sem ↓ high] zy zz z7 qaa qd3
attribute [local go_sem] qb2 qcb qci qlg zb
theorem DuP.apart{w0 w:World}{p:Nat}{S:Nat→Prop}{P:Pr}{g:Nat→Nat}{T:Nat→Nat→Prop}{u:Nat→Value}(h:DuP w0 w p S P g T u)(t:Tb w0){k:Nat}(l:k<2):Apart (T k):=zaf t (fun b i=>(h.lt b (h.tS k l b i)).1)
theorem DuD.opEnd{w0 w:World}{p:Nat}{S:Nat→Prop}{P:Pr}(h:DuD w0 w p S P)(t:Tb w0){k:Nat}(i:k<2):∃g l,w.cell? ⟨p,k,none⟩=some (.pointer (some ⟨g,0,none⟩))∧ChS w g l (P.en k)∧Apart l∧Tb w∧∀w' c',ChS w' g (Fr l w w') c'→Upd l w w'→DSt w0 w p S w' (P.set k c'):=by
 obtain⟨g,T,u,h⟩:=h;exact⟨g k,T k,h.cellE i,h.en k i,h.apart t i,t.new h.n,fun w' c' q m=>⟨⟨_,_,_,h.op i q m⟩,m.mono (fun b _ o=>h.tS k i b o)⟩⟩
theorem DSt.ofDrew{w0 w w':World}{p:Nat}{S:Nat→Prop}{Q:Pr}(a:DSt w0 w.drew p S w' Q):DSt w0 w p S w' Q:=⟨a.1,a.2.ofDrew⟩
def Pr.took(P:Pr)(k:Nat)(c':Ch)(ms:List MsgV):Pr:=(P.set k c').setWay2 k ms
theorem q4j(P:Pr)(k:Nat)(c':Ch)(ms:List MsgV):(P.setWay2 k ms).set k c'=P.took k c' ms:=by
 unfold Pr.took Pr.set Pr.setWay2;by_cases h:k=0
 ·simp[h]
 ·simp[h]
set_option maxRecDepth 100000 in
set_option maxHeartbeats 2000000 in
theorem qux{w0 w:World}{p:Nat}{S:Nat→Prop}{P:Pr}(hT:Tb w0)(h:DuD w0 w p S P)(k:Int)(i:Nat)(a7:sd k=i)(m:MsgV)(ms:List MsgV)(hw:P.way i=m::ms)(c':Ch)(ls:List MsgV)(n:Int)(b9:∀l∈ls,MsgOk l)
  (hH:∀(W:World) (g:Nat) (S':Nat→Prop),ChS W g S' (P.en i)→Apart S'→Tb W→Calls Tryz.prog 41 #[.pointer (some ⟨g,0,none⟩),.agg m.cells.toArray] W (qhp g S' W c' ls n)) :
  Calls Tryz.prog 38 #[.pointer (some ⟨p,0,none⟩),.int .i64 k] w fun e w'=>∃v,e = .returned (.tuple #[v,.int .i64 n])∧qm6 w' v ls∧DSt w0 w p S w' (P.took i c' ms):=by
 have X:i<2:=a7▸qeo k
 have D:=qb h
 obtain⟨g,T,u,F⟩:=h
 have R:=qgu k w
 rw[a7] at R
 have hm:MsgOk m:=F.ok i X m (by rw[hw];exact List.mem_cons_self)
 have a8:∀l∈ms,MsgOk l:=fun l hl=>F.ok i X l (by rw[hw];exact List.mem_cons_of_mem _ hl)
 have hr:=F.row i X
 rw[hw] at hr
 obtain⟨gb,o,cap,U,c5,J,z⟩:=hr.cons hm.len
 have c:=F.cellW X
 rw[U] at c
 have b3:(u i).ownBlock=some gb:=by rw[U];rfl
 have c6:(i:Int)<2:=by omega
 have b8:(0:Int)<((ms.length+1:Nat):Int):=by omega
 have F:=qb F
 have HU:=qb (And.intro U b3)
 have HT:=qb z
 have b5:=qb a8
 have c0:=hm.len
 clear hr U b3 z a8 hm hw
 go_enter Tryz.func38,Tryz.ntmps38
 go_wp2_with (with_reducible first|(first|refine' zi (qg ?_) ?_|refine' zj (qg ?_) ?_);rotate_left|refine' zk (qg ?_)|rfl|apply tn|refine' zl ?_)
 refine R.mono ?_
 rintro e w1 ⟨rfl,q⟩
 have n1:qq w w1:=q.upd _
 have c1:=n1.cell c (fun h=>h)
 have N:=qa6 J n1 (fun h=>h)
 obtain⟨c3,hA,nA⟩:=qgs w1 m c0
 have N1:=qb n1
 clear R q n1 c J
 go_upto_region 3 with (with_reducible first|(first|refine' zi (qg ?_) ?_|refine' zj (qg ?_) ?_);rotate_left|refine' zk (qg ?_)|rfl|apply tn|refine' zl ?_)
 change Code.wp _ _ _ _ (qg8 w1 m)
 have n2:=(qa N1).trans nA
 have c2:=nA.cell c1 (fun h=>h)
 have HA:=qb hA
 have Z:=qb n2
 have a4:=qad hA.at_
 have c4:=(qa N1).size
 clear c3 c1 N nA hA n2 N1
 generalize qg8 w1 m=C at HA Z c2 a4 ⊢
 generalize w1.heap.size=A at HA a4 c4 ⊢
 have x:=(qa F).new (qa Z)
 have f2:C.frozen? ⟨p,2+i,none⟩=false:=qw x.at_ (2+i)
 have b7:((ms.length+1:Nat):Int)≤(cap:Int):=by omega
 clear x
 go_upto_region 4 with (with_reducible first|(first|refine' zi (qg ?_) ?_|refine' zj (qg ?_) ?_);rotate_left|refine' zk (qg ?_)|rfl|apply tn|refine' zl ?_)
 obtain⟨H,V⟩:∃H,H=Value.slice (if cap=1 then some (⟨gb,o,none⟩:Addr) else some ⟨gb,o+38,none⟩) ms.length (cap-1):=⟨_,rfl⟩
 rw[←V] at HT ⊢
 have b4:∀b,H.ownBlock=some b→(u i).ownBlock=some b:=by
  intro b M;rw[(qa HU).2];rw[V] at M;by_cases h1:cap=1
  ·rw[if_pos h1] at M;exact M
  ·rw[if_neg h1] at M;exact M
 have x:=(qa F).new (qa Z)
 have a5:=x.putWay X (Upd.refl _ C) ((qa HT).new (qa Z)) (fun b M=> .inl (b4 b M)) (qa b5)
 have uE:Upd (· = p) C (C.setCell ⟨p,2+i,none⟩ H):=(Upd.refl _ _).set1 (2+i) _
 have b6:A≠p:=fun e=>by have:=(qa F).up;omega
 have E:=(qa HA).upd uE b6
 have t:DSt w0 C p S (C.setCell ⟨p,2+i,none⟩ H) (P.setWay2 i ms):=⟨⟨_,_,_,a5⟩,uE.mono (fun b _ e=>by rw[e];exact x.pS)⟩
 have nE:qq (C.setCell ⟨p,2+i,none⟩ H) (C.setCell ⟨p,2+i,none⟩ H).drew:=(Upd.refl _ _).drew
 have t:=(DSt.after (qa D) (qa Z) t).then (qa D).n.size (qa D).lt nE
 replace E:=E.new nE
 have L:=qb E
 have H3:=qb (show DSt w0 w p S (C.setCell ⟨p,2+i,none⟩ H).drew (P.setWay2 i ms) from t)
 clear b4 x uE E t V HT HU f2 c2 HA nE a5
 generalize (C.setCell ⟨p,2+i,none⟩ H).drew=w3 at H3 L ⊢
 have nd:qq w3 w3.drew:=(Upd.refl _ _).drew
 obtain⟨ge,SE,ce,hE,I,a6,a9⟩:=((qa H3).1.new nd).opEnd hT X
 rw[P.en_setWay] at hE
 have hh:=hH w3.drew ge SE hE I a6
 have ce:w3.cell? ⟨p,i,none⟩=some (.pointer (some ⟨ge,0,none⟩)):=ce
 have rA:=(qa L).row
 have Y:=qb a9
 clear hH nd hE I a6 a9
 go_wp2_with (with_reducible first|(first|refine' zi (qg ?_) ?_|refine' zj (qg ?_) ?_);rotate_left|refine' zk (qg ?_)|rfl|apply tn|refine' zl ?_)
 refine hh.mono ?_
 rintro e w4 ⟨v,rfl,y,hc,U⟩
 have K:qm6 w4 v ls:=q6e (fun l hl=>(b9 l hl).len) y
 have O:=(qa Y w4 c' hc U).ofDrew
 rw[q4j] at O
 have HS:=qb (And.intro K (DSt.trans (qa D) (qa H3) O))
 clear K O hh y hc U Y H3 L rA ce
 go_wp2_with (with_reducible first|(first|refine' zi (qg ?_) ?_|refine' zj (qg ?_) ?_);rotate_left|refine' zk (qg ?_)|rfl|apply tn|refine' zl ?_)
 go_ret2
 exact⟨v,rfl,qa HS⟩
end Go.Proofs.YthnohmjbbeahmaaGreatDoor
namespace Go.Proofs.YthnohmjbbeahmaaGreatDoor
open Go.RowKit
theorem DuD.bad{w0 w:World}{p:Nat}{S:Nat→Prop}{P Q:Pr}(h:DuD w0 w p S P)(o:Q.a=P.a)(q:Q.b=P.b)(i:Q.wa=P.wa)(l:Q.wb=P.wb):DuD w0 w p S Q:=by
 obtain⟨a,b,wa,wb,bad⟩:=P;obtain⟨x,y,t,v,m⟩:=Q;subst o q i l;obtain⟨g,T,u,h⟩:=h;exact⟨g,T,u,h.at_,h.en,h.row,h.ok,h.sep,h.pT,h.uT,h.usep,h.pS,h.tS,h.uS,h.lt,h.n⟩
theorem DSt.bad{w0 w w':World}{p:Nat}{S:Nat→Prop}{P Q:Pr}(h:DSt w0 w p S w' P)(l:Q.a=P.a)(m:Q.b=P.b)(g:Q.wa=P.wa)(i:Q.wb=P.wb):DSt w0 w p S w' Q:=⟨h.1.bad l m g i,h.2⟩
theorem qnf{P:Pr}{k:Nat}(i:k<2){m:MsgV}{ms:List MsgV}(g:P.way k=m::ms):(((P.took k ((P.en k).hears m).1 ms).sends k ((P.en k).hears m).2.1).a=((P.heard k).1).a∧((P.took k ((P.en k).hears m).1 ms).sends k ((P.en k).hears m).2.1).b=((P.heard k).1).b ∧
  ((P.took k ((P.en k).hears m).1 ms).sends k ((P.en k).hears m).2.1).wa=((P.heard k).1).wa∧((P.took k ((P.en k).hears m).1 ms).sends k ((P.en k).hears m).2.1).wb=((P.heard k).1).wb)∧(P.heard k).2=true:=by
 obtain⟨a,b,wa,wb,bad⟩:=P
 rcases qbk i with rfl | rfl
 ·have g:wa=m::ms:=g;subst g;exact⟨⟨rfl,rfl,rfl,rfl⟩,rfl⟩
 ·have g:wb=m::ms:=g;subst g;exact⟨⟨rfl,rfl,rfl,rfl⟩,rfl⟩
structure HearsOk(P:Pr)(k:Nat)(m:MsgV)(ms:List MsgV):Prop where
 way:P.way k=m::ms
 hok:P.Hok k
 err:((P.en k).hears m).2.2=0
theorem HearsOk.parts{P:Pr}{k:Nat}{m:MsgV}{ms:List MsgV}(h:HearsOk P k m ms)(l:k<2):MsgOk m∧HeardOk (P.en k) m (P.way (1-k))∧ms.length<1000000:=by
 obtain⟨g,i,-⟩:=h;obtain⟨a,b,wa,wb,bad⟩:=P;rcases qbk l with rfl | rfl
 ·have g:wa=m::ms:=g;subst g;exact i
 ·have g:wb=m::ms:=g;subst g;exact i
set_option maxRecDepth 100000 in
set_option maxHeartbeats 1000000 in
theorem qp1{w0 w:World}{p:Nat}{S:Nat→Prop}{P:Pr}(h:DuD w0 w p S P)(k:Int)(l:Nat)(i:sd k=l)(z:P.way l=[]) :
  Calls Tryz.prog 23 #[.pointer (some ⟨p,0,none⟩),.int .i64 k] w fun e w'=>e = .returned (.int .i64 3)∧DSt w0 w p S w' P:=by
 have x:l<2:=i▸qeo k
 have C:=qb h
 obtain⟨g,T,u,m⟩:=h
 have t:=fun W=>qgu k W
 rw[i] at t
 have o:=m.row l x
 rw[z] at o
 obtain⟨H,I,y⟩:=o.shape
 have c:=m.cellW x
 rw[y] at c
 have E:(l:Int)<2:=by omega
 clear m o y z
 go_enter Tryz.func23,Tryz.ntmps23
 go_wp2_with (with_reducible first|(first|refine' zi (qg ?_) ?_|refine' zj (qg ?_) ?_);rotate_left|refine' zk (qg ?_)|rfl|apply tn|refine' zl ?_)
 refine(t _).mono ?_
 rintro e w1 ⟨rfl,q⟩
 have v:qq w w1:=q.ofDrew.upd _
 have F:=v.cell c (fun h=>h)
 have D:=qb v
 clear t q v c
 go_wp2_with (with_reducible first|(first|refine' zi (qg ?_) ?_|refine' zj (qg ?_) ?_);rotate_left|refine' zk (qg ?_)|rfl|apply tn|refine' zl ?_)
 go_ret
 exact⟨rfl,DSt.ofNew (qa C) (qa D)⟩
set_option maxRecDepth 100000 in
set_option maxHeartbeats 1000000 in
theorem qrz{w0 w:World}{p:Nat}{S:Nat→Prop}{P:Pr}(hT:Tb w0)(h:DuD w0 w p S P)(k:Int)(i:Nat)(D:sd k=i)(m:MsgV)(ms:List MsgV)(ho:HearsOk P i m ms) :
  Calls Tryz.prog 23 #[.pointer (some ⟨p,0,none⟩),.int .i64 k] w fun e w'=>e = .returned (.int .i64 0)∧DSt w0 w p S w' (P.heard i).1:=by
 have N:i<2:=D▸qeo k
 obtain⟨hm,o,a5⟩:=ho.parts N
 obtain⟨R,-,H⟩:=ho
 obtain⟨⟨t1,t2,t3,t4⟩,-⟩:=qnf N R
 have l:=fun(W:World) (n:qq w W)=>qux hT (h.new n) k i D m ms R ((P.en i).hears m).1 ((P.en i).hears m).2.1 ((P.en i).hears m).2.2 o.says (fun W g S' hc ha ht=>qpf g S' (P.en i) m hm W hc o.inv ht ha o.kind o.last)
 have O:(P.took i ((P.en i).hears m).1 ms).way (1-i)=P.way (1-i):=by
  unfold Pr.took;rw[Pr.way_setWay _ _ N (by omega)];unfold at2;rw[if_neg (by omega),Pr.way_set]
 have t:=o.few
 rw[←O] at t
 have y:=o.says
 rw[H] at l
 have F:∀(w':World),DSt w0 w p S w' ((P.took i ((P.en i).hears m).1 ms).sends i ((P.en i).hears m).2.1)→DSt w0 w p S w' (P.heard i).1:=fun _ h=>h.bad t1.symm t2.symm t3.symm t4.symm
 have K:=qb F
 generalize Y:((P.en i).hears m).2.1=ls at *
 generalize (P.took i ((P.en i).hears m).1 ms)=P2 at *
 generalize (P.heard i).1=P3 at *
 have V:=qb h
 obtain⟨g,T,u,X⟩:=h
 have J:=fun W=>qgu k W
 rw[D] at J
 have hr:=X.row i N
 rw[R] at hr
 obtain⟨ua,uc,hu⟩:=hr.shape
 have c:=X.cellW N
 rw[hu] at c
 have a4:(i:Int)<2:=by omega
 have x:¬(((m::ms).length:Nat):Int)=0:=by simp;omega
 have I:((((m::ms).length:Nat):Int)==0)=false:=beq_eq_false_iff_ne.2 x
 generalize (m::ms).length=nl at c x I
 have E:=qb t
 have L:=qb y
 clear X hr hu R Y t y t1 t2 t3 t4 F o O H hm x
 go_enter Tryz.func23,Tryz.ntmps23
 go_wp2_with (with_reducible first|(first|refine' zi (qg ?_) ?_|refine' zj (qg ?_) ?_);rotate_left|refine' zk (qg ?_)|rfl|apply tn|refine' zl ?_)
 refine(J _).mono ?_
 rintro e w1 ⟨rfl,q⟩
 have U:qq w w1:=q.ofDrew.upd _
 have c1:=U.cell c (fun h=>h)
 have hh:=l w1 U
 have N1:=qb U
 clear J q U c l
 go_wp2_with (with_reducible first|(first|refine' zi (qg ?_) ?_|refine' zj (qg ?_) ?_);rotate_left|refine' zk (qg ?_)|rfl|apply tn|refine' zl ?_)
 refine hh.mono ?_
 rintro e w2 ⟨v,rfl,z,C⟩
 have J:=qu0 C.1 k i D ls (qa L) v z (qa E)
 have H2:=qb (DSt.after (qa V) (qa N1) C)
 have Z:=qb (And.intro C (qa N1))
 obtain⟨va,vc,hv⟩:=z.shape
 clear hh C E L c1 z
 subst hv
 go_wp2_with (with_reducible first|(first|refine' zi (qg ?_) ?_|refine' zj (qg ?_) ?_);rotate_left|refine' zk (qg ?_)|rfl|apply tn|refine' zl ?_)
 refine J.mono ?_
 rintro e w3 ⟨rfl,M⟩
 have HF:=qb (DSt.after (qa V) (qa Z).2 (DSt.trans ((qa V).new (qa Z).2) (qa Z).1 M))
 clear J H2 Z M
 go_wp2_with (with_reducible first|(first|refine' zi (qg ?_) ?_|refine' zj (qg ?_) ?_);rotate_left|refine' zk (qg ?_)|rfl|apply tn|refine' zl ?_)
 go_ret
 exact⟨rfl,qa K _ (qa HF)⟩
attribute [local go_sem ↓ high] zy zz z7 qaa qd3
attribute [local go_sem] qb2 qcb qci qlg zb qbi
def qox(r:Ch × MsgV × Int):MsgV:=if r.2.2=0 then r.2.1 else MsgV.zero
theorem q6p{P:Pr}{k:Nat}(g:k<2){r:Ch × MsgV × Int}(h:r.2.2=0):(P.set k r.1).sends k [r.2.1]=P.act k r:=by
 obtain⟨c,m,e⟩:=r;obtain rfl:e=0:=h;rcases qbk g with rfl | rfl<;>rfl
theorem zaa{P:Pr}{k:Nat}{r:Ch × MsgV × Int}(h:r.2.2≠0):P.set k r.1=P.act k r:=by
 obtain⟨c,m,e⟩:=r;unfold Pr.act Pr.say qd4;simp only at h;rw[if_neg h,if_neg h];split<;>rfl
theorem q95(P:Pr)(k:Nat)(c:Ch):(P.set k c).way (1-k)=P.way (1-k):=P.way_set c _
theorem zgk{w:World}{b:Nat}{m:MsgV}(h:MsB w b m):qm6 w (.slice (some ⟨b,0,none⟩) 1 1) [m]:=by
 refine .inr ⟨_,1,rfl,fun j u i=> ?_⟩;have g:(⟨b,0,none⟩:Addr).add j=⟨b,j,none⟩:=by cases j<;>simp[Addr.add]
 rw[g,qh h.at_,List.getElem?_toArray];simpa using i
theorem DSt.fin{w0 w w':World}{p:Nat}{S l:Nat→Prop}{P i:Pr}(h:DuD w0 w p S P)(d:DuD w0 w' p l i)(m:∀b,l b→S b∨w.heap.size≤b)(U:Upd (fun b=>S b∨w.heap.size≤b) w w'):DSt w0 w p S w' i:=by
 have o:=h.n.size;have q:=U.size;refine⟨d.wider (fun b g=>(m b g).imp id (fun e=>⟨e,(d.lt b g).2⟩)) ?_,U.mono ?_⟩
 ·rintro b (e | e)
  ·exact⟨(h.lt b e).1,by have:=(h.lt b e).2;omega⟩
  ·exact⟨by omega,e.2⟩
 ·rintro b g (e | e)
  ·exact e
  ·omega
set_option maxRecDepth 100000 in
set_option maxHeartbeats 2000000 in
theorem qlj{w0 w:World}{p:Nat}{S:Nat→Prop}{P:Pr}(h:DuD w0 w p S P)(k:Int)(E:Nat)(a6:sd k=E)(F:FuncId)(fs z:Array Value)(hE:∀args w,(callFunc F args).run Tryz.prog w = .ok (.enter F args) w)
  (r:Ch × MsgV × Int) (L:MsgOk r.2.1) (c8:(P.way (1-E)).length<1000000)
  (hF:∀W,qq w W→Calls Tryz.prog F (fs++z) W fun e w'=>e = .returned (.tuple #[.agg r.2.1.cells.toArray,.int .i64 r.2.2])∧DSt w0 W p S w' (P.set E r.1)) :
  Calls Tryz.prog 28 #[.pointer (some ⟨p,0,none⟩),.int .i64 k,.func (.func F) fs z] w fun e w'=>e = .returned (.tuple #[.agg (qox r).cells.toArray,.int .i64 r.2.2])∧DSt w0 w p S w' (P.act E r):=by
 have hk:E<2:=a6▸qeo k
 have i:=L.len
 have V:=qbz w MsgV.zero qu
 have n1:qq w (w.alloc (.cells MsgV.zero.cells.toArray 71)):=(Upd.refl _ _).alloc _
 go_enter Tryz.func28,Tryz.ntmps28
 go_upto_region 1 with (with_reducible first|(first|refine' zi (qg ?_) ?_|refine' zj (qg ?_) ?_);rotate_left|refine' zk (qg ?_)|rfl|apply tn|refine' zl ?_)
 generalize w.alloc (.cells MsgV.zero.cells.toArray 71)=w1 at V n1 ⊢
 obtain⟨B,hB⟩:∃B,B=w.heap.size:=⟨_,rfl⟩
 rw[←hB] at V ⊢
 have K:¬S B:=fun e=>by have:=(h.lt B e).2;omega
 have c6:=V.lt
 have a5:=hF w1 n1
 have d1:=h.n.size
 have c7:w.heap.size≤B:=by omega
 clear hB hF
 have H:=qb h
 have N1:=qb n1
 have B6:=qb V
 clear h n1 V
 go_wp2_with (with_reducible first|(first|refine' zi (qg ?_) ?_|refine' zj (qg ?_) ?_);rotate_left|refine' zk (qg ?_)|rfl|apply tn|refine' zl ?_)
 refine a5.mono ?_
 rintro e N ⟨rfl,y⟩
 have d2:=y.2.size
 have D:=(qa B6).upd y.2 K
 obtain⟨c0,hA,nA⟩:=qgs N r.2.1 i
 have o:=qb y
 have x:=qb (D.new nA)
 have T:=qb hA
 have J:=qb nA
 have Z:=hA.lt
 clear a5 y D hA nA B6
 go_upto_region 2 with (with_reducible first|(first|refine' zi (qg ?_) ?_|refine' zj (qg ?_) ?_);rotate_left|refine' zk (qg ?_)|rfl|apply tn|refine' zl ?_)
 change Code.wp _ _ _ _ (qg8 N r.2.1)
 clear c0
 generalize qg8 N r.2.1=O at T J x Z ⊢
 have d3:=(qa J).size
 obtain⟨A,a4⟩:∃A,A=N.heap.size:=⟨_,rfl⟩
 rw[←a4] at T Z ⊢
 have c5:A≠B:=by omega
 have c4:N.heap.size≤A:=by omega
 clear a4
 obtain⟨c,m,X⟩:=r
 simp only at i o T L ⊢
 by_cases Y:X=0
 ·subst Y;have rA:=(qa T).row;have c9:=m.len i;have b7:=qbz O m i;have n7:qq O (O.alloc (.cells m.cells.toArray 71)):=(Upd.refl _ _).alloc _;have v:=fun(W:World) (n:qq N W) (hs:qm6 W (.slice (some ⟨O.heap.size,0,none⟩) 1 1) [m])=>qu0 ((qa o).1.new n) k E a6 [m] (fun l hl=>by rw[List.mem_singleton.1 hl];exact L) _ hs (by rw[q95];simp;omega)
  have a8:=v _ ((qa J).trans n7) (zgk b7);have U:=qb ((qa J).trans n7);have b3:=qb ((qa x).new n7);have b4:=qb ((qa T).new n7);clear b7 n7 v;have b9:=(qa H).lt;have b8:¬S A:=fun e=>by have:=(b9 A e).2;omega
  go_wp2_with (with_reducible first|(first|refine' zi (qg ?_) ?_|refine' zj (qg ?_) ?_);rotate_left|refine' zk (qg ?_)|rfl|apply tn|refine' zl ?_);refine a8.mono ?_;rintro e w5 ⟨rfl,t⟩;have c2:=(qa U).size;have a9:=(qa N1).size;have c1:=(qa H).n.size;have C:¬Fr S w1 N B:=by rintro (e | e);exact K e;omega
  have B5:=(qa b3).upd t.2 C;have A5:=(qa b4).upd t.2 (by rintro (e | e);exact b8 e;omega);have d4:=A5.row;have stB:=B5.stOk i;have R:=B5.put i;have M:Upd (· = B) w5 (w5.setCells B 0 m.cells):=qac _;have g:DSt w0 w p S (w5.setCells B 0 m.cells) (P.act E (c,m,0)):=by
   rw[←q6p hk rfl];refine DSt.fin (qa H) (t.1.upd M (fun b e=> ?_)) ?_ ?_
   ·subst e;refine⟨?_,by omega⟩;rintro (e | e)
    ·exact C e
    ·omega
   ·rintro b ((e | e) | e)
    ·exact .inl e
    ·exact .inr (by omega)
    ·exact .inr (by omega)
   ·refine((((qa N1).mono (fun _ _ h=>h.elim)).trans ((qa o).2.mono (fun _ _ h=> .inl h))).trans ((qa U).mono (fun _ _ h=>h.elim))).trans ((t.2.mono ?_).trans (M.mono ?_))
    ·rintro b hb (e | e)
     ·exact .inl e
     ·exact .inr (by omega)
    ·rintro b hb rfl;exact .inr (by omega)
  have q:=qb g;have I:=qb R;clear a8 t B5 A5 R M g c2 a9 c1;go_wp2_with (with_reducible first|(first|refine' zi (qg ?_) ?_|refine' zj (qg ?_) ?_);rotate_left|refine' zk (qg ?_)|rfl|apply tn|refine' zl ?_);refine bodyPost_ret (qs rfl _ _ B _ _ _ _ rfl (qa I).at_ Tryz.underlying71 rfl (by rw[List.size_toArray,m.len i];exact Tryz.infoMsg)) rfl ?_;exact⟨rfl,qa q⟩
 ·have d0:(X != 0)=true:=by simpa using Y
  have stB:=(qa x).stOk (k:=MsgV.zero) qu;have R:=(qa x).put (k:=MsgV.zero) qu;have M:Upd (· = B) O (O.setCells B 0 MsgV.zero.cells):=qac _;have g:DSt w0 w p S (O.setCells B 0 MsgV.zero.cells) (P.act E (c,m,X)):=by
   have c3:=(qa J).size;have a9:=(qa N1).size;rw[←zaa (r:=(c,m,X)) Y];refine DSt.fin (qa H) (((qa o).1.new (qa J)).upd M (fun b e=> ?_)) ?_ ?_
   ·subst e;refine⟨?_,by omega⟩;rintro (e | e)
    ·exact K e
    ·omega
   ·rintro b (e | e)
    ·exact .inl e
    ·exact .inr (by omega)
   ·refine(((qa N1).mono (fun _ _ h=>h.elim)).trans ((qa o).2.mono (fun _ _ h=> .inl h))).trans (((qa J).mono (fun _ _ h=>h.elim)).trans (M.mono ?_));rintro b hb rfl;exact .inr (by omega)
  have q:=qb g;have I:=qb R;have a7:qox (c,m,X)=MsgV.zero:=if_neg Y;have b5:=qb a7;clear R M g a7 Y;go_wp2_with (with_reducible first|(first|refine' zi (qg ?_) ?_|refine' zj (qg ?_) ?_);rotate_left|refine' zk (qg ?_)|rfl|apply tn|refine' zl ?_);refine bodyPost_ret (qs rfl _ _ B _ _ _ _ rfl (qa I).at_ Tryz.underlying71 rfl (by rw[List.size_toArray,MsgV.len _ qu];exact Tryz.infoMsg)) rfl ?_;exact⟨by rw[qa b5];rfl,qa q⟩
end Go.Proofs.YthnohmjbbeahmaaGreatDoor
namespace Go.Proofs.YthnohmjbbeahmaaGreatDoor
open Go.RowKit
def rk(s:Int):Nat:=if s≤4 then (4-s).toNat else (9-s).toNat
def mwt(m:MsgV):Nat:=if m.kind=3∨m.kind=4∨m.kind=5 then 10 else 1
def rkL(xs:List Live):Nat:=(xs.map fun x=>rk x.state).sum
def mwL(ms:List MsgV):Nat:=(ms.map mwt).sum
theorem zi5:∀s:Fin 9,∀own:Bool,∀ev:Fin 5,(qx (s.val:Int) own (ev.val:Int)=(s.val:Int))∨(qx (s.val:Int) own (ev.val:Int)=(s.val:Int)+1∧rk ((s.val:Int)+1)<rk (s.val:Int)):=by decide +kernel
theorem zhi{x:Int}(h:0≤x∧x≤8)(own:Bool){ev:Nat}(g:ev<5):qx x own ev=x∨(qx x own ev=x+1∧rk (x+1)<rk x):=by
 have:=zi5 ⟨x.toNat,by omega⟩ own ⟨ev,g⟩;simp only[Int.toNat_of_nonneg h.1] at this;exact this
def St8(xs:List Live):Prop:=∀x∈xs,0≤x.state∧x.state≤8
theorem qmr{xs:List Live}(h:St8 xs){ev:Nat}(q:ev<5):rkL (qa8 (qv ev xs))≤rkL xs∧(zv ev xs=true→rkL (qa8 (qv ev xs))<rkL xs)∧St8 (qa8 (qv ev xs)):=by
 induction xs with
 | nil=>exact⟨Nat.le_refl _,(fun h=>by cases h),fun x l=>(by cases l)⟩
 | cons x xs D =>
  obtain⟨F,C,m⟩:=D fun y i=>h y (List.mem_cons_of_mem _ i)
  have l:=h x (List.mem_cons_self ..);have t:rkL (x::xs)=rk x.state+rkL xs:=rfl;have v:zv ev (x::xs)=(qx x.state x.own ev != x.state || zv ev xs):=rfl;have w:qa8 (qv ev (x::xs))=if qx x.state x.own ev=9 then qa8 (qv ev xs) else aft ev x::qa8 (qv ev xs):=by
   show List.filter _ (aft ev x::qv ev xs)=_;rw[List.filter_cons];show (if (!(qx x.state x.own ev==9))=true then _ else _)=_;by_cases g:qx x.state x.own ev=9
   ·rw[if_pos g,g,if_neg (by decide)];rfl
   ·rw[if_neg g,if_pos (by simpa using g)];rfl
  rw[t,v,w];by_cases g:qx x.state x.own ev=9
  ·rw[if_pos g];have E:0<rk x.state:=by
    rcases zhi l x.own q with e | ⟨e,z⟩
    ·rw[g] at e;omega
    ·omega
   exact⟨by omega,fun _=>by omega,m⟩
  ·rw[if_neg g];have ea:rkL (aft ev x::qa8 (qv ev xs))=rk (qx x.state x.own ev)+rkL (qa8 (qv ev xs)):=rfl;rw[ea];rcases zhi l x.own q with e | ⟨e,z⟩
   ·rw[e];refine⟨by omega,fun o=> ?_,?_⟩
    ·rw[bne_self_eq_false,Bool.false_or] at o;have:=C o;omega
    ·intro y i;rcases List.mem_cons.1 i with rfl | i
     ·show 0≤qx x.state x.own ev∧qx x.state x.own ev≤8;rw[e];exact l
     ·exact m y i
   ·rw[e];refine⟨by omega,fun _=>by omega,?_⟩;intro y i;rcases List.mem_cons.1 i with rfl | i
    ·show 0≤qx x.state x.own ev∧qx x.state x.own ev≤8;rw[e] at g ⊢;omega
    ·exact m y i
theorem zdh(xs:List Live)(x:Live):rkL (xs++[x])=rkL xs+rk x.state:=by
 unfold rkL;rw[List.map_append,List.sum_append];simp
theorem q59:∀ {xs:List Live} {i:Nat} {x y:Live},xs[i]? = some x→rkL (xs.set i y)+rk x.state=rkL xs+rk y.state
 | [],_,_,_,h=>by simp at h
 | z::xs,0,x,y,h=>by
  obtain rfl:z=x:=by simpa using h
  show rk y.state+rkL xs+rk z.state=rk z.state+rkL xs+rk y.state;omega
 | z::xs,i+1,x,y,h=>by
  have:=q59 (xs:=xs) (i:=i) (x:=x) (y:=y) (by simpa using h);show rk z.state+rkL (xs.set i y)+rk x.state=rk z.state+rkL xs+rk y.state;omega
theorem qrd(a b:List MsgV):mwL (a++b)=mwL a+mwL b:=by
 unfold mwL;rw[List.map_append,List.sum_append]
theorem zfo(c:Ch)(ev:Int):(c.goOn ev).xs=qa8 (qv ev c.xs):=rfl
theorem q76{c:Ch}{m:MsgV}(F:St8 c.xs)(O:m.kind=3∨m.kind=4∨m.kind=5∨m.kind=6∨m.kind=7∨m.kind=8)(g:(c.hear m).2.2=0) :
  2*rkL (c.hear m).1.xs+mwL (c.hear m).2.1<2*rkL c.xs+mwt m:=by
 unfold Ch.hear at g ⊢
 by_cases C:qam m=false∨m.ch≠c.s.ch
 ·rw[if_pos C] at g;cases g
 rw[if_neg C] at g ⊢
 by_cases t:m.kind=3
 ·rw[if_pos t] at g ⊢;have q:mwt m=10:=if_pos (.inl t);have g:(c.hearAdd m).2=0:=g;show 2*rkL (c.hearAdd m).1.xs+0<_;unfold Ch.hearAdd at g ⊢;by_cases l:qav c m=0
  ·rw[if_pos l];show 2*rkL (c.xs++[qel m])+0<_;rw[zdh,show rk (qel m).state=4 from rfl,q];omega
  ·rw[if_neg l] at g;exact absurd g l
 rw[if_neg t] at g ⊢
 have rem:∀ {i:Nat} {x:Live} (paid own:Bool) (id:Int),qb0 own id c.xs=some (i,x)→2*rkL (c.removed i x paid).xs+0<2*rkL c.xs+10:=by
  intro i x paid own id o;obtain⟨I,-,-,L⟩:=qes o;have:=q59 (y:= {x with state:=5,paid:=paid}) I;rw[L,show rk 4=0 from rfl,show rk ({x with state:=5,paid:=paid} : Live).state=4 from rfl] at this;show 2*rkL (c.xs.set i {x with state:=5,paid:=paid})+0<_;omega
 by_cases v:m.kind=4
 ·rw[if_pos v] at g ⊢;have q:mwt m=10:=if_pos (.inr (.inl v));have g:(c.hearFulfill m).2=0:=g;show 2*rkL (c.hearFulfill m).1.xs+0<_;rw[q];cases o:qb0 true m.id c.xs with
  | none=>rw[qkd o] at g;cases g
  | some p =>
   obtain⟨i,x⟩:=p;rw[qhb o] at g ⊢;by_cases H:qfm m.hash x.h.hash.toList=true
   ·rw[if_pos H];exact rem true true _ o
   ·rw[if_neg H] at g;cases g
 rw[if_neg v] at g ⊢
 by_cases w:m.kind=5
 ·rw[if_pos w] at g ⊢;have q:mwt m=10:=if_pos (.inr (.inr w));have g:(c.hearFail m).2=0:=g;show 2*rkL (c.hearFail m).1.xs+0<_;rw[q];cases o:qb0 true m.id c.xs with
  | none=>rw[qi2 o] at g;cases g
  | some p =>
   obtain⟨i,x⟩:=p;rw[qi3 o];exact rem false true _ o
 rw[if_neg w] at g ⊢
 have q:mwt m=1:=if_neg (by omega)
 rw[q]
 by_cases D:m.kind=6
 ·rw[if_pos D] at g ⊢;unfold Ch.hearSign at g ⊢;by_cases l:qcj c m=0
  ·rw[if_pos l];have z:zv 3 c.xs=true:=by
    unfold qcj at l;cases z:zv 3 c.xs with
    | true=>rfl
    | false=>rw[z,if_pos rfl] at l;cases l
   obtain⟨-,a2,a3⟩:=qmr F (ev:=3) (by decide);have a2:=a2 z;obtain⟨b1,-,-⟩:=qmr a3 (ev:=4) (by decide);show 2*rkL (qa8 (qv 4 (qa8 (qv 3 c.xs))))+mwL [c.signedBy.revocation]<_;have M:mwL [c.signedBy.revocation]=1:=rfl;rw[M];have b1:rkL (qa8 (qv 4 (qa8 (qv 3 c.xs))))≤rkL (qa8 (qv 3 c.xs)):=b1;have a2:rkL (qa8 (qv 3 c.xs))<rkL c.xs:=a2;omega
  ·rw[if_neg l] at g;exact absurd g l
 rw[if_neg D] at g ⊢
 by_cases E:m.kind=7
 ·rw[if_pos E] at g ⊢;have g:(c.hearRevoke m).2=0:=g;show 2*rkL (c.hearRevoke m).1.xs+0<_;unfold Ch.hearRevoke at g ⊢;by_cases l:qkm c m=0
  ·rw[if_pos l];have b1:rkL (qa8 (qv 2 c.xs))≤rkL c.xs:=(qmr F (ev:=2) (by decide)).1;show 2*rkL (qa8 (qv 2 c.xs))+0<_;omega
  ·rw[if_neg l] at g;exact absurd g l
 rw[if_neg E] at g ⊢
 have g:c.hearShut.2=0:=g
 show 2*rkL c.hearShut.1.xs+0<_
 unfold Ch.hearShut at g ⊢
 split
 ·rename_i N;rw[if_pos N] at g;cases g
 ·show 2*rkL c.xs+0<_;omega
theorem q9n{c:Ch}(l:St8 c.xs)(g:qa0 c=0):2*rkL c.sign.1.xs+mwt c.sign.2.1<2*rkL c.xs:=by
 have i:zv 1 c.xs=true:=by
  unfold qa0 at g;split at g
  ·cases g
  ·cases i:zv 1 c.xs with
   | true=>rfl
   | false=>rw[i,if_pos rfl] at g;cases g
 unfold Ch.sign;rw[if_pos g];have a2:rkL (qa8 (qv 1 c.xs))<rkL c.xs:=(qmr l (ev:=1) (by decide)).2.1 i;show 2*rkL (qa8 (qv 1 c.xs))+1<_;omega
def Pr.mu(P:Pr):Nat:=2*(rkL P.a.xs+rkL P.b.xs)+mwL P.wa+mwL P.wb
section
variable {K:Kon}{n k:Nat}{P:Pr}{J:Pr→Prop}
theorem qcn.st8{s:Bool}{a b:Ch}{wa wb:List MsgV}(h:qcn K n s a b wa wb):St8 a.xs:=by
 obtain⟨Q,h,rfl,rfl,rfl,rfl,rfl⟩:=h;intro x l;obtain⟨j,g,-,e,i⟩:=qgf h.ea.perm l;rw[e];exact i
theorem qng{c:Ch}{m:MsgV}(h:Said K.ch m):c.hears m=c.hear m:=by
 unfold Ch.hears;rw[if_neg];have:=h.kind;omega
theorem qsi(l:K.Ok)(o:n<100000){s:Bool}{a b:Ch}{m:MsgV}{wa wb:List MsgV}(h:qcn K n s a b (m::wa) wb):2*rkL (a.hears m).1.xs+mwL (a.hears m).2.1<2*rkL a.xs+mwt m:=by
 obtain⟨g,i,-⟩:=h.hears l (by omega);rw[qng g] at i ⊢;exact q76 h.st8 g.kind i
theorem PInv.hears_mu(g:K.Ok)(i:n<100000)(h:PInv K n P)(o:k<2):((P.heard k).2=true→(P.heard k).1.mu<P.mu)∧((P.heard k).2=false→(P.heard k).1=P∧P.way k=[]):=by
 have l:=(h.side o).1;obtain⟨a,b,wa,wb,bad⟩:=P;rcases (by omega:k=0∨k=1) with rfl | rfl
 ·cases wa with
  | nil=>exact⟨(fun e=>by cases e),fun _=>⟨rfl,rfl⟩⟩
  | cons m ms =>
   have q:2*rkL (a.hears m).1.xs+mwL (a.hears m).2.1<2*rkL a.xs+mwt m:=qsi g i l;refine⟨fun _=> ?_,fun e=>by cases e⟩;show 2*(rkL (a.hears m).1.xs+rkL b.xs)+mwL ms+mwL (wb++(a.hears m).2.1)<2*(rkL a.xs+rkL b.xs)+(mwt m+mwL ms)+mwL wb;rw[qrd];omega
 ·cases wb with
  | nil=>exact⟨(fun e=>by cases e),fun _=>⟨rfl,rfl⟩⟩
  | cons m ms =>
   have q:2*rkL (b.hears m).1.xs+mwL (b.hears m).2.1<2*rkL b.xs+mwt m:=qsi g i l;refine⟨fun _=> ?_,fun e=>by cases e⟩;show 2*(rkL a.xs+rkL (b.hears m).1.xs)+mwL (wa++(b.hears m).2.1)+mwL ms<2*(rkL a.xs+rkL b.xs)+mwL wa+(mwt m+mwL ms);rw[qrd];omega
theorem qjr(c:Ch):c.sign.2.2=qa0 c:=by
 unfold Ch.sign;split
 ·rename_i h;exact h.symm
 ·rfl
theorem q52(m:MsgV):mwL [m]=mwt m:=by unfold mwL;simp
theorem PInv.sign_mu(h:PInv K n P)(l:k<2):((P.en k).sign.2.2=0→(P.act k (P.en k).sign).mu<P.mu)∧((P.en k).sign.2.2≠0→P.act k (P.en k).sign=P∧qa0 (P.en k)≠0):=by
 have i:=(h.side l).1.st8;refine⟨fun e=> ?_,fun e=> ?_⟩
 ·have g:=q9n i (by rw[←qjr];exact e);obtain⟨a,b,wa,wb,bad⟩:=P;rcases (by omega:k=0∨k=1) with rfl | rfl
  ·have g:2*rkL a.sign.1.xs+mwt a.sign.2.1<2*rkL a.xs:=g;have e:a.sign.2.2=0:=e;show 2*(rkL a.sign.1.xs+rkL b.xs)+mwL wa+mwL (qd4 wb a.sign.2.1 a.sign.2.2)<2*(rkL a.xs+rkL b.xs)+mwL wa+mwL wb;unfold qd4;rw[if_pos e,qrd,q52];omega
  ·have g:2*rkL b.sign.1.xs+mwt b.sign.2.1<2*rkL b.xs:=g;have e:b.sign.2.2=0:=e;show 2*(rkL a.xs+rkL b.sign.1.xs)+mwL (qd4 wa b.sign.2.1 b.sign.2.2)+mwL wb<2*(rkL a.xs+rkL b.xs)+mwL wa+mwL wb;unfold qd4;rw[if_pos e,qrd,q52];omega
 ·rw[qjr] at e;refine⟨?_,e⟩;rw[ql6 rfl e];obtain⟨a,b,wa,wb,bad⟩:=P;rcases (by omega:k=0∨k=1) with rfl | rfl
  ·have e:qa0 a≠0:=e;show (⟨a,b,wa,qd4 wb MsgV.zero (qa0 a),bad⟩:Pr)=_;unfold qd4;rw[if_neg e]
  ·have e:qa0 b≠0:=e;show (⟨a,b,qd4 wa MsgV.zero (qa0 b),wb,bad⟩:Pr)=_;unfold qd4;rw[if_neg e]
structure Pr.Rest(P:Pr):Prop where
 wa:P.wa=[]
 wb:P.wb=[]
 sa:qa0 P.a≠0
 sb:qa0 P.b≠0
structure Stays(K:Kon)(J:Pr→Prop):Prop where
 hears:∀ {n k:Nat} {P:Pr},n<100000→k<2→PInv K n P→J P→J (P.heard k).1
 signs:∀ {n k:Nat} {P:Pr},n<100000→k<2→PInv K n P→J P→J (P.act k (P.en k).sign)
structure RdK(K:Kon)(J:Pr→Prop)(n:Nat)(R:Pr)(k:Nat)(P:Pr)(went:Bool):Prop where
 inv:PInv K (n+k) P
 j:J P
 yes:went=true→P.mu<R.mu
 no:went=false→P=R∧R.wa=[]∧R.wb=[]∧(1≤k→qa0 R.a≠0)∧(2≤k→qa0 R.b≠0)
theorem RdK.start(i:K.Ok)(o:Stays K J)(y:n<99000)(h:PInv K n P)(j:J P):RdK K J n P 0 (((P.heard 0).1).heard 1).1 ((((P.heard 0).1).heard 1).2 || (P.heard 0).2):=by
 have m:=h.heard i (by omega) (k:=0) (by decide);have x:=m.heard i (by omega) (k:=1) (by decide);obtain⟨a1,a2⟩:=h.hears_mu i (by omega) (k:=0) (by decide);obtain⟨b1,b2⟩:=m.hears_mu i (by omega) (k:=1) (by decide);refine⟨x,o.hears (by omega) (by decide) m (o.hears (by omega) (by decide) h j),fun e=> ?_,fun e=> ?_⟩
 ·cases l:(P.heard 0).2 with
  | true =>
   have a1:=a1 l;cases g:((P.heard 0).1.heard 1).2 with
   | true=>have:=b1 g;omega
   | false=>rw[(b2 g).1];exact a1
  | false =>
   rw[l,Bool.or_false] at e;have:=b1 e;rw[(a2 l).1] at this ⊢;exact this
 ·rw[Bool.or_eq_false_iff] at e;obtain⟨q,t⟩:=a2 e.2;have g:=e.1;rw[q] at b2 g ⊢;obtain⟨v,w⟩:=b2 g;exact⟨v,t,w,(fun h=>by omega),fun h=>by omega⟩
theorem RdK.step(E:K.Ok)(D:Stays K J)(H:n<99000){R:Pr}{b:Bool}(o:k<2)(h:RdK K J n R k P b):RdK K J n R (k+1) (P.act k (P.en k).sign) (b || ((P.en k).sign.2.2==0)):=by
 obtain⟨l,C,m,q⟩:=h;obtain⟨t,v⟩:=l.sign_mu o;refine⟨(l.sign E o).1,D.signs (by omega) o l C,fun e=> ?_,fun e=> ?_⟩
 ·cases b with
  | true =>
   have m:=m rfl;by_cases g:(P.en k).sign.2.2=0
   ·have:=t g;omega
   ·rw[(v g).1];exact m
  | false =>
   rw[Bool.false_or,beq_iff_eq] at e;have:=t e;rw[(q rfl).1] at this ⊢;exact this
 ·rw[Bool.or_eq_false_iff,beq_eq_false_iff_ne] at e;obtain⟨rfl,e⟩:=e;obtain⟨i,w,x,y,F⟩:=q rfl;obtain⟨z,g⟩:=v e;rw[z];refine⟨i,w,x,fun _=> ?_,fun h=> ?_⟩
  ·rcases (by omega:k=0∨k=1) with rfl | rfl
   ·rw[i] at g;exact g
   ·exact y (by decide)
  ·rcases (by omega:k=0∨k=1) with rfl | rfl
   ·omega
   ·rw[i] at g;exact g
end
end Go.Proofs.YthnohmjbbeahmaaGreatDoor
