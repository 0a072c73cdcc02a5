/-
  Law 14, plain: whatever acts there are, the protocol holds; a payment goes through.
-/
import Derived.Test.YthnohmjbbeahmaaGreatDoorDuT
import Derived.Test.YthnohmjbbeahmaaGreatDoorMec
import Derived.Test.YthnohmjbbeahmaaGreatDoorMdj
set_option linter.unusedVariables false
set_option linter.unusedSimpArgs false
namespace Go.Proofs.YthnohmjbbeahmaaGreatDoor
open Go.RowKit
def qfv(o c:Int):Kon:=⟨fun s=>if s=true then duA o c else duB o c,3,c⟩
theorem qr3{o c:Int}(i:0≤o)(h:1≤c∧c≤1125899906842624∧o≤c):(qfv o c).Ok:=by
 have g:IntKind.u64.wrap (c-o)=c-o:=qaw (by omega) (by omega);refine⟨?_,⟨by show (0:Int)≤3;decide,by show (3:Int)<4294967296;decide⟩,?_,?_,?_,?_,h.2.1,?_,?_⟩
 ·intro s;cases s<;>rfl
 ·intro s;cases s<;>rfl
 ·intro s;cases s
  ·exact(show 2≤64 by decide)
  ·exact(show 1≤64 by decide)
 ·intro s;cases s
  ·show 0≤IntKind.u64.wrap (c-o);rw[g];omega
  ·exact i
 ·intro s;cases s
  ·show IntKind.u64.wrap (c-o)+o=c;rw[g];omega
  ·show o+IntKind.u64.wrap (c-o)=c;rw[g];omega
 ·intro s;cases s<;>rfl
 ·intro s;cases s
  ·exact⟨rfl,qic 6 ⟨by decide,by decide⟩⟩
  ·exact⟨rfl,qic 5 ⟨by decide,by decide⟩⟩
theorem qny{o c:Int}(g:0≤o)(h:1≤c∧c≤1125899906842624∧o≤c):PInv (qfv o c) 0 (qws o c) :=
 ⟨qcj.new (qr3 g h) true,rfl,Int.le_refl _,Int.le_refl _⟩
section
variable {K:Kon}{N n:Nat}{P Q R:Pr}
theorem q4u(l:K.Ok)(o:N<99000):∀(m:Nat) (R:Pr) (h:Nat),R.mu≤m→RsD K N P h true R→∃q t,RsD K N P t false q
 | 0,R,h,v,r=>by
  have g:=r.next l o;cases i:R.gk 2 with
  | true=>have:=(qme l o r.bnd 2 (Nat.le_refl _)).1 i;omega
  | false=>rw[i] at g;exact⟨_,_,g⟩
 | m+1,R,h,v,r=>by
  have g:=r.next l o;cases i:R.gk 2 with
  | true =>
   have:=(qme l o r.bnd 2 (Nat.le_refl _)).1 i;rw[i] at g;exact q4u l o m _ _ (by omega) g
  | false=>rw[i] at g;exact⟨_,_,g⟩
theorem Bnd.rest(l:K.Ok)(m:N<99000)(h:Bnd K N P):Bnd K N P.restD∧P.restD.Rest:=by
 obtain⟨R,k,r⟩:=q4u l m P.mu P 0 (Nat.le_refl _) (RsD.start h);obtain⟨o,q,g,i⟩:=r.stop;exact⟨i,g⟩
theorem qso(h:P.Rest):P.restD=P∧P.restN=0:=qdj h _
theorem qlf(i:K.Ok)(l:N<99000):∀(m k:Nat) (R:Pr),Bnd K N R→R.mu≤m→R.mu≤k→Pr.rounds m R=Pr.rounds k R
 | 0,0,_,_,_,_=>rfl
 | 0,k+1,R,h,t,_=>by
  cases o:R.gk 2 with
  | true=>have:=(qme i l h 2 (Nat.le_refl _)).1 o;omega
  | false =>
   obtain⟨g,-,-⟩:=qht i l h o;rw[(qdj g 0).1,(qdj g (k+1)).1]
 | m+1,0,R,h,_,q=>by
  cases o:R.gk 2 with
  | true=>have:=(qme i l h 2 (Nat.le_refl _)).1 o;omega
  | false =>
   obtain⟨g,-,-⟩:=qht i l h o;rw[(qdj g 0).1,(qdj g (m+1)).1]
 | m+1,k+1,R,h,t,q=>by
  cases o:R.gk 2 with
  | true =>
   have:=(qme i l h 2 (Nat.le_refl _)).1 o;exact qlf i l m k (R.sk 2) (h.sk i l 2 (Nat.le_refl _)) (by omega) (by omega)
  | false =>
   obtain⟨g,-,-⟩:=qht i l h o;rw[(qdj g (m+1)).1,(qdj g (k+1)).1]
theorem qpr(g:K.Ok)(i:N<99000)(h:Bnd K N P):P.restD=(P.sk 2).restD:=by
 have e:P.restD=Pr.rounds (P.mu+1) P:=qlf g i _ _ _ h (Nat.le_refl _) (by omega);have l:(P.sk 2).mu≤P.mu:=by
  obtain⟨a,b⟩:=qme g i h 2 (Nat.le_refl _);cases m:P.gk 2 with
  | true=>exact Nat.le_of_lt (a m)
  | false=>exact Nat.le_of_eq (congrArg Pr.mu (b m).1)
 rw[e];exact qlf g i P.mu (P.sk 2).mu (P.sk 2) (h.sk g i 2 (Nat.le_refl _)) l (Nat.le_refl _)
theorem qwe(g:K.Ok)(l:n<99000)(h:PInv K n P):P.hears0=P.heard 0:=by
 have i:=(h.side (k:=0) (by decide)).1;obtain⟨a,b,wa,wb,bad⟩:=P;cases wa with
 | nil=>rfl
 | cons m ms =>
  have e:=qmo (c:=a) (i.hears g (by omega)).1;show _=((⟨(a.hears m).1,b,ms,wb++(a.hears m).2.1,bad || decide ((a.hears m).2.2≠0)⟩:Pr),true);rw[e];rfl
theorem qwf(g:K.Ok)(l:n<99000)(h:PInv K n P):P.hears1=P.heard 1:=by
 have i:=(h.side (k:=1) (by decide)).1;obtain⟨a,b,wa,wb,bad⟩:=P;cases wb with
 | nil=>rfl
 | cons m ms =>
  have e:=qmo (c:=b) (i.hears g (by omega)).1;show _=((⟨a,(b.hears m).1,wa++(b.hears m).2.1,ms,bad || decide ((b.hears m).2.2≠0)⟩:Pr),true);rw[e];rfl
theorem qsr(g:K.Ok)(o:N<99000)(h:Bnd K N P):P.round=P.sk 2:=by
 obtain⟨n,i,m⟩:=h;have e0:=qwe g (by omega) i;have l:=qwf g (by omega) (i.heard g (by omega) (k:=0) (by decide));show P.hears0.1.hears1.1.sign0.sign1=_;rw[e0,l];rfl
theorem qex(i:K.Ok)(l:N<99000):∀ {m:Nat} {P Q:Pr},Rests m P Q→Bnd K N P→Q.Rest→P.restD=Q:=by
 intro m P Q h
 induction h with
 | out P=>intro _ o;exact(qso o).1
 | stop n P _ _ =>
  intro g o;rw[qpr i l g,←qsr i l g];exact(qso o).1
 | step n P Q _ _ _ q =>
  intro g o;rw[qpr i l g,←qsr i l g];exact q (by rw[qsr i l g];exact g.sk i l 2 (Nat.le_refl _)) o
def qip(K:Kon)(t:Nat)(P:Pr):Prop:=∃a r n,a+r=t∧PInv K n P∧n≤a+500*r∧n+P.mu≤501*a
theorem qip.inv{t:Nat}(h:qip K t P)(m:t≤150):∃n,n<59000∧PInv K n P:=by
 obtain⟨a,r,n,e,g,i,l⟩:=h;exact⟨n,by omega,g⟩
theorem qip.other{t m:Nat}(h:qip K t P)(l:∀n,PInv K n P→n<59000→PInv K (n+1) Q)(v:t≤150):qip K (t+1) Q:=by
 obtain⟨a,r,n,e,i,o,q⟩:=h;have g:=l n i (by omega);have:=g.mu;exact⟨a+1,r,n+1,by omega,g,by omega,by omega⟩
theorem qip.rest{t:Nat}(l:K.Ok)(h:qip K t P)(z:t≤150):qip K (t+1) P.restD:=by
 obtain⟨a,r,n,e,g,q,v⟩:=h;have w:=g.mu;obtain⟨m,i,o⟩:=(Bnd.of g).rest l (by omega) |>.1
 exact⟨a,r+1,m,by omega,i,by omega,by omega⟩
theorem qip.does{t:Nat}(i:K.Ok)(h:qip K t P)(F:t≤150){x:ActD}(H:x.Ok):qip K (t+1) (P.doesD x):=by
 have l:x.k<2:=qkf _;by_cases q:x.kind=11
 ·have e:P.doesD x=P.restD:=by unfold Pr.doesD;rw[if_neg (by omega),if_neg (by omega),if_neg (by omega),if_neg (by omega),if_neg (by omega),if_neg (by omega),if_neg (by omega),if_pos q]
  rw[e];exact h.rest i F
 refine h.other (m:=0) (fun n g I=> ?_) F;unfold Pr.doesD;by_cases v:x.kind=0∨x.kind=1
 ·rw[if_pos v];exact(g.offer i (by omega) l H.n.1 (by rw[qdc (qgh _)];exact qfy _)).1
 rw[if_neg v];by_cases w:x.kind=2
 ·rw[if_pos w];exact(g.fulfill i l x.id (qdt x.p) (qfz _) (qhs _)).1
 rw[if_neg w];by_cases z:x.kind=3
 ·rw[if_pos z];exact(g.fail i l x.id x.expiry).1
 rw[if_neg z];by_cases C:x.kind=4∨x.kind=5
 ·rw[if_pos C];exact(g.sign i l).1
 rw[if_neg C];by_cases D:x.kind=6∨x.kind=7∨x.kind=8
 ·rw[if_pos D];exact(g.heard i (by omega) l).mono (by omega)
 rw[if_neg D];by_cases E:x.kind=9
 ·rw[if_pos E];exact(g.shut i l).1
 rw[if_neg E];by_cases o:x.kind=10
 ·rw[if_pos o];exact(g.cutD i (by omega) _ _).mono (by omega)
 rw[if_neg o,if_neg q];exact g.mono (by omega)
theorem qip.start{o c:Int}(g:0≤o)(h:1≤c∧c≤1125899906842624∧o≤c):qip (qfv o c) 0 (qws o c):=⟨0,0,0,rfl,qny g h,Nat.le_refl _,Nat.le_refl _⟩
end
noncomputable def ql3:Ch × MsgV × Int:=((qws 10 10).en 0).offer 4 (qbm (ofI (qdt 1))) 5
noncomputable def qmz:Pr:=(qws 10 10).act 0 ql3
noncomputable def quz:Ch × MsgV × Int:=(qmz.restD.en 1).fulfill 0 (qdt 1)
noncomputable def qm0:Pr:=qmz.restD.act 1 quz
theorem qnj:(qfv 10 10).Ok:=qr3 (by decide) ⟨by decide,by decide,by decide⟩
theorem q4o:(qbm (ofI (qdt 1))).toList=ofI (qdt 1):=qdc (qgh _)
theorem qfx{c:Ch}(h:c.k.awaits=true∨zl 1 c.xs=false):qa3 c≠0:=by
 rw[←qlk,zb7 c h];show (5:Int)≠0;decide
theorem q7q{P:Pr}{m:MsgV}{ms:List MsgV}(g:P.way 0=m::ms):0<P.restN:=by
 have i:=(qmn (show 0<2 by decide) g).2;have q:1≤P.ck 2:=by
  show 1≤0+b2n (P.heard 0).2+_;rw[i];show 1≤0+1+_;omega
 have t:1≤P.mu:=by
  have g:P.wa=m::ms:=g;have o:1≤mwt m:=by unfold mwt;split<;>decide
  unfold Pr.mu;rw[g];show 1≤_+(mwt m+mwL ms)+_;omega
 unfold Pr.restN;obtain⟨k,l⟩:∃k,P.mu=k+1:=⟨P.mu-1,by omega⟩;rw[l];show 0<P.ck 2+_;omega
theorem q0e:ql3.2.2=0∧(qo2 ql3).id=0∧PInv (qfv 10 10) 1 qmz∧quz.2.2=0∧0<qm0.restN∧(qm0.restD.en 0).loc=6∧(qm0.restD.en 0).rem=4∧Bnd (qfv 10 10) 600 qmz.restD∧Bnd (qfv 10 10) 1200 qm0:=by
 have J:∀b∈(qbm (ofI (qdt 1))).toList,0≤b∧b≤255:=by rw[q4o];exact qfy _
 have q:qby (qdt 1) (qbm (ofI (qdt 1))).toList=true:=by
  rw[q4o];unfold qby;exact beq_self_eq_true _
 have w:=qny (o:=10) (c:=10) (by decide) ⟨by decide,by decide,by decide⟩;have g:PInv (qfv 10 10) 1 qmz:=(w.offer qnj (by decide) (k:=0) (by decide) (N:=4) (ex:=5) (hv:=qbm (ofI (qdt 1))) (by decide) J).1;have C:ql3=(eA 10 10 (10-4) (10-10) (List.replicate 17 .zero) [pM 4 0 (qbm (ofI (qdt 1)))] [] ⟨0,0,false,0+1,0,false,false,false⟩ [itm 4 0 (qbm (ofI (qdt 1))) true 0 false],pM 4 0 (qbm (ofI (qdt 1))),0) :=
  q7b (o:=10) (c:=10) (x:=10) (y:=10-10) (sa:=List.replicate 17 .zero) (la:=[]) ⟨by decide,by decide⟩ ⟨by decide,by decide⟩
 have Z:Ch.new (duB 10 10)=eB 10 10 10 (10-10) (List.replicate 17 .zero) [] [] .zero []:=zij ⟨by decide,by decide⟩ (by decide);have U:∀x,qaj (zn x) (List.replicate 17 .zero):=fun x=>ql7 _
 generalize hh:qbm (ofI (qdt 1))=h at *
 have O:qmz=⟨eA 10 10 6 0 (List.replicate 17 .zero) [pM 4 0 h] [] ⟨0,0,false,0+1,0,false,false,false⟩ [itm 4 0 h true 0 false],eB 10 10 (6+4) 0 (List.replicate 17 .zero) [] [] ⟨0,0,false,0,0,false,false,false⟩ [],[],[pM 4 0 h],false⟩:=by
  unfold qmz;rw[C];show (⟨_,Ch.new (duB 10 10),[],_,false⟩:Pr)=_;rw[Z];rfl
 obtain⟨H,v,t,l,T,tb,W⟩:=qz4 (o:=10) (c:=10) (n:=4) (x:=6) (y:=0) (sg:=0) (j:=0) (h:=h) (ra:=false) (rb:=false) (bad:=false) (la:=[]) (lb:=[]) ⟨by decide,by decide⟩ ⟨by decide,by decide⟩ ⟨by decide,by decide⟩ (by decide) J (U 6) (U 5);have I:=Bnd.of g;have L:=g.mu;have E:=qex qnj (N:=1+qmz.mu) (by omega) W (by rw[←O];exact I) ⟨rfl,rfl,qfx (.inr (by kernel_rfl)),qfx (.inr (by kernel_rfl))⟩;rw[←O] at E;have Bq:=(I.rest qnj (by omega)).1;obtain⟨m1,i1,i2⟩:=Bq;have f1:quz=(eB 10 10 6 0 v [⟨4,3,0,0,qdt 1,0,0⟩] l ⟨1,1,false,0,1,false,false,false⟩ [itm 4 0 h false 5 true],⟨4,3,0,0,qdt 1,0,0⟩,0):=by
  unfold quz;rw[E];exact q58 q
 have D:qm0=⟨eA 10 10 6 0 H [] t ⟨1,1,false,0+1,0,false,false,true⟩ [itm 4 0 h true 4 false],eB 10 10 6 0 v [⟨4,3,0,0,qdt 1,0,0⟩] l ⟨1,1,false,0,0+1,false,false,false⟩ [itm 4 0 h false 5 true],[⟨4,3,0,0,qdt 1,0,0⟩],[],false⟩:=by
  unfold qm0;rw[f1,E];rfl
 have i:PInv (qfv 10 10) (m1+1) qm0:=(i1.fulfill qnj (k:=1) (by decide) 0 (qdt 1) (qfz _) (qhs _)).1;obtain⟨a4,a5,X,Y,-,-,z⟩:=qw6 (o:=10) (c:=10) (n:=4) (x:=6) (y:=0) (sg:=1) (j:=0) (h:=h) (pd:=true) (bad:=false) (lb:=l) ⟨by decide,by decide⟩ T tb (zib (la:=t) (j:=0) (k:=⟨1,1,false,0+1,0,false,false,true⟩) ⟨by decide,by decide⟩ (qfz 1) (qhs 1) q T (by decide));have V:=Bnd.of i;have M:=i.mu;have F:=qex qnj (N:=m1+1+qm0.mu) (by omega) z (by rw[←D];exact V) ⟨rfl,rfl,qfx (.inr (by kernel_rfl)),qfx (.inr (by kernel_rfl))⟩;rw[←D] at F;refine⟨by rw[C],by rw[C];rfl,g,by rw[f1],q7q (m:=⟨4,3,0,0,qdt 1,0,0⟩) (ms:=[]) (by rw[D];rfl),by rw[F];rfl,by rw[F];rfl,⟨m1,i1,by omega⟩,⟨m1+1,i,by omega⟩⟩
def qqu(o c X Y sg ja jb:Int)(P:Pr):Prop:=∃sa sb la lb ra rb,qaj (zn 6) sa∧qaj (zn 5) sb∧P=⟨eA o c X Y sa [] la ⟨sg,sg,false,ja,jb,false,false,ra⟩ [],eB o c X Y sb [] lb ⟨sg,sg,false,jb,ja,false,false,rb⟩ [],[],[],false⟩
def setC(pd:Bool)(c:Ch)(j:Int)(q:List Int):Ch × MsgV × Int:=if pd=true then c.fulfill j q else c.fail j 1
def qb0(pd:Bool)(j:Int)(q:List Int):MsgV:=if pd=true then ⟨4,3,j,0,q,0,0⟩ else ⟨5,3,j,0,zv,0,1⟩
section
variable {o c X Y sg ja jb N j:Int}{h:Vector Int 32}{q:List Int}{pd:Bool}{P:Pr}{K:Kon}{n:Nat}
theorem zip{x y:Int}{sb:List KeptV}{lb:List MsgV}{k:CountsV}(g:qby q h.toList=true):setC pd (eB o c x y sb [] lb k [itn N j h false 4 false]) j q=(eB o c x y sb [qb0 pd j q] lb k [itn N j h false 5 pd],qb0 pd j q,0):=by
 cases pd with
 | true=>exact q1w g
 | false=>exact q1o ⟨by decide,by decide⟩
theorem zio{x y:Int}{sa:List KeptV}{la:List MsgV}{k:CountsV}(g:qby q h.toList=true):setC pd (eA o c y x sa [] la k [itn N j h false 4 false]) j q=(eA o c y x sa [qb0 pd j q] la k [itn N j h false 5 pd],qb0 pd j q,0):=by
 cases pd with
 | true=>exact q1v g
 | false=>exact q1n ⟨by decide,by decide⟩
theorem zgy{x y:Int}{sa:List KeptV}{nw la:List MsgV}{k:CountsV}(l:0≤j∧j≤1000)(t:q.length=32)(m:qal q)(v:qby q h.toList=true)(g:qaj (zn 6) sa)(i:k.heard≤65535):HearSt (eA o c x y sa nw la k [itn N j h true 4 false]) (qb0 pd j q) (eA o c x y sa nw la k [itn N j h true 5 pd]) []:=by
 cases pd with
 | true=>exact zgv l t m v g i
 | false=>exact zgt l ⟨by decide,by decide⟩ g i
theorem zag{x y:Int}{sb:List KeptV}{nw lb:List MsgV}{k:CountsV}(l:0≤j∧j≤1000)(t:q.length=32)(m:qal q)(v:qby q h.toList=true)(g:qaj (zn 5) sb)(i:k.heard≤65535):HearSt (eB o c y x sb nw lb k [itn N j h true 4 false]) (qb0 pd j q) (eB o c y x sb nw lb k [itn N j h true 5 pd]) []:=by
 cases pd with
 | true=>exact zgw l t m v g i
 | false=>exact zgu l ⟨by decide,by decide⟩ g i
theorem PInv.setC(i:K.Ok)(g:PInv K n P){k:Nat}(l:k<2)(t:q.length=32)(m:qal q):PInv K (n+1) (P.act k (setC pd (P.en k) j q)):=by
 cases pd with
 | true=>exact(g.fulfill i l j q t m).1
 | false=>exact(g.fail i l j 1).1
structure Pays(K:Kon)(n k:Nat)(P:Pr)(N id:Int)(h:Vector Int 32)(pd:Bool)(q:List Int):Prop where
 off:((P.en k).offer N h 9).2.2=0∧(qo2 ((P.en k).offer N h 9)).id=id
 i1:PInv K (n+1) (P.act k ((P.en k).offer N h 9))
 i2:∃m,m≤n+501∧PInv K m (P.act k ((P.en k).offer N h 9)).restD∧PInv K (m+1) ((P.act k ((P.en k).offer N h 9)).restD.act (1-k) (setC pd ((P.act k ((P.en k).offer N h 9)).restD.en (1-k)) id q))∧PInv K (m+2) (((P.act k ((P.en k).offer N h 9)).restD.act (1-k) (setC pd ((P.act k ((P.en k).offer N h 9)).restD.en (1-k)) id q)).signs (1-k))
 set_:(setC pd ((P.act k ((P.en k).offer N h 9)).restD.en (1-k)) id q).2.2=0
 sgn:(((P.act k ((P.en k).offer N h 9)).restD.act (1-k) (setC pd ((P.act k ((P.en k).offer N h 9)).restD.en (1-k)) id q)).en (1-k)).sign.2.2=0
noncomputable def Pr.paidD(P:Pr)(k:Nat)(N id:Int)(h:Vector Int 32)(pd:Bool)(q:List Int):Pr:=((P.act k ((P.en k).offer N h 9)).restD.act (1-k) (setC pd ((P.act k ((P.en k).offer N h 9)).restD.en (1-k)) id q)).signs (1-k)
theorem zi2(I:K.Ok)(hn:n<50000)(hI:PInv K n P)(hF:qqu o c X Y sg ja jb P)(hs:0≤sg∧sg≤900)(hN:1≤N∧N≤X)(hX:X≤1125899906842624)(V:0≤ja∧ja≤1000)(hb:qal h.toList)(hl:q.length=32)(hq:qal q)(ho:qby q h.toList=true) :
  Pays K n 0 P N ja h pd q∧qqu o c (qau (!pd) N (X-N)) (qau pd N Y) (sg+2) (ja+1) jb (P.paidD 0 N ja h pd q).restD:=by
 obtain⟨sa,sb,la,lb,ra,rb,ta,tb,rfl⟩:=hF
 have v:=(hI.offer I (by omega) (k:=0) (by decide) (N:=N) (ex:=9) (hv:=h) (by omega) hb).1
 have M:(Pr.en ⟨eA o c X Y sa [] la ⟨sg,sg,false,ja,jb,false,false,ra⟩ [],eB o c X Y sb [] lb ⟨sg,sg,false,jb,ja,false,false,rb⟩ [],[],[],false⟩ 0).offer N h 9=(eA o c (X-N) Y sa [pN N ja h] la ⟨sg,sg,false,ja+1,jb,false,false,ra⟩ [itn N ja h true 0 false],pN N ja h,0):=q2m hN V
 obtain⟨w,g,t,i,R,a8,r1⟩:=zdp (o:=o) (c:=c) (n:=N) (x:=X-N) (y:=Y) (sg:=sg) (j:=ja) (jb:=jb) (h:=h) (ra:=ra) (rb:=rb) (bad:=false) (la:=la) (lb:=lb) ⟨hs.1,by omega⟩ ⟨hN.1,by omega⟩ V (by omega) hb ta tb
 rw[show X-N+N=X by omega] at r1
 have p1:Pr.act ⟨eA o c X Y sa [] la ⟨sg,sg,false,ja,jb,false,false,ra⟩ [],eB o c X Y sb [] lb ⟨sg,sg,false,jb,ja,false,false,rb⟩ [],[],[],false⟩ 0 (eA o c (X-N) Y sa [pN N ja h] la ⟨sg,sg,false,ja+1,jb,false,false,ra⟩ [itn N ja h true 0 false],pN N ja h,0)=⟨eA o c (X-N) Y sa [pN N ja h] la ⟨sg,sg,false,ja+1,jb,false,false,ra⟩ [itn N ja h true 0 false],eB o c X Y sb [] lb ⟨sg,sg,false,jb,ja,false,false,rb⟩ [],[],[pN N ja h],false⟩:=rfl
 generalize hP:(⟨eA o c X Y sa [] la ⟨sg,sg,false,ja,jb,false,false,ra⟩ [],eB o c X Y sb [] lb ⟨sg,sg,false,jb,ja,false,false,rb⟩ [],[],[],false⟩:Pr)=P at *
 rw[M] at v
 have b3:=v.mu
 have T:=qex I (N:=n+1+(P.act 0 (eA o c (X-N) Y sa [pN N ja h] la ⟨sg,sg,false,ja+1,jb,false,false,ra⟩ [itn N ja h true 0 false],pN N ja h,0)).mu) (by omega) r1 (by rw[←p1];exact Bnd.of v) ⟨rfl,rfl,qfx (.inr (by kernel_rfl)),qfx (.inr (by kernel_rfl))⟩
 rw[←p1] at T
 obtain⟨m,i2,j2⟩:=((Bnd.of v).rest I (by omega)).1
 have f1:setC pd (eB o c (X-N) Y g [] i ⟨sg+1,sg+1,false,jb,ja+1,false,false,false⟩ [itn N ja h false 4 false]) ja q=_:=zip (o:=o) (c:=c) (N:=N) (j:=ja) (h:=h) (pd:=pd) (q:=q) ho
 have l:=i2.setC I (k:=1) (by decide) (pd:=pd) (j:=ja) hl hq
 rw[T] at l i2
 have s3:=(signB (o:=o) (c:=c) (x:=X-N) (y:=Y) (sb:=g) (nw:=[qb0 pd ja q]) (lb:=i) (sg:=sg+1) (hd:=sg+1) (no:=jb) (nt:=ja+1) (f1:=false) (f2:=false) (rb:=false) (L:=[itn N ja h false 5 pd]) (L1:=[itn N ja h false 6 pd]) ⟨by omega,by omega⟩ (by kernel_rfl) (by kernel_rfl) (qan (by decide)) (bl rfl) (bl rfl)).eq
 obtain⟨a5,a6,Z,a4,a7,a9,r2⟩:=zb2 (o:=o) (c:=c) (n:=N) (x:=X-N) (y:=Y) (sg:=sg+1) (j:=ja) (jb:=jb) (h:=h) (ra:=true) (pd:=pd) (bad:=false) (la:=t) (lb:=[qb0 pd ja q]++[sgB (X-N) Y (sg+1) [itn N ja h false 6 pd]]) (F:=qb0 pd ja q) ⟨by omega,by omega⟩ R a8 (zgy V hl hq ho R (by show sg+1≤_;omega))
 obtain⟨U,D⟩:∃Q,Q=Pr.mk (eA o c (X-N) Y w [] t ⟨sg+1,sg+1,false,ja+1,jb,false,false,true⟩ [itn N ja h true 4 false]) (eB o c (X-N) Y g [] i ⟨sg+1,sg+1,false,jb,ja+1,false,false,false⟩ [itn N ja h false 4 false]) [] [] false:=⟨_,rfl⟩
 rw[←D] at T l i2
 have E:(P.act 0 ((P.en 0).offer N h 9)).restD=U:=by rw[M];exact T
 have H:setC pd (U.en 1) ja q=(eB o c (X-N) Y g [qb0 pd ja q] i ⟨sg+1,sg+1,false,jb,ja+1,false,false,false⟩ [itn N ja h false 5 pd],qb0 pd ja q,0):=by rw[D];exact f1
 rw[H] at l
 have O:U.act 1 (eB o c (X-N) Y g [qb0 pd ja q] i ⟨sg+1,sg+1,false,jb,ja+1,false,false,false⟩ [itn N ja h false 5 pd],qb0 pd ja q,0)=⟨eA o c (X-N) Y w [] t ⟨sg+1,sg+1,false,ja+1,jb,false,false,true⟩ [itn N ja h true 4 false],eB o c (X-N) Y g [qb0 pd ja q] i ⟨sg+1,sg+1,false,jb,ja+1,false,false,false⟩ [itn N ja h false 5 pd],[qb0 pd ja q],[],false⟩:=by rw[D];rfl
 have C:=(l.sign I (k:=1) (by decide)).1
 rw[O] at l C
 have p3:Pr.signs ⟨eA o c (X-N) Y w [] t ⟨sg+1,sg+1,false,ja+1,jb,false,false,true⟩ [itn N ja h true 4 false],eB o c (X-N) Y g [qb0 pd ja q] i ⟨sg+1,sg+1,false,jb,ja+1,false,false,false⟩ [itn N ja h false 5 pd],[qb0 pd ja q],[],false⟩ 1=⟨eA o c (X-N) Y w [] t ⟨sg+1,sg+1,false,ja+1,jb,false,false,true⟩ [itn N ja h true 4 false],eB o c (X-N) Y g [] ([qb0 pd ja q]++[sgB (X-N) Y (sg+1) [itn N ja h false 6 pd]]) ⟨sg+1+1,sg+1,true,jb,ja+1,false,false,false⟩ [itn N ja h false 6 pd],[qb0 pd ja q,sgB (X-N) Y (sg+1) [itn N ja h false 6 pd]],[],false⟩:=by
  unfold Pr.signs;show Pr.act _ 1 (eB o c (X-N) Y g [qb0 pd ja q] i ⟨sg+1,sg+1,false,jb,ja+1,false,false,false⟩ [itn N ja h false 5 pd]).sign=_;rw[s3];rfl
 have z:PInv K (m+1+1) (Pr.signs ⟨eA o c (X-N) Y w [] t ⟨sg+1,sg+1,false,ja+1,jb,false,false,true⟩ [itn N ja h true 4 false],eB o c (X-N) Y g [qb0 pd ja q] i ⟨sg+1,sg+1,false,jb,ja+1,false,false,false⟩ [itn N ja h false 5 pd],[qb0 pd ja q],[],false⟩ 1):=C
 have W:=z.mu
 have J:=Bnd.of z
 rw[p3] at J
 have q3:=qex I (N:=_) (by rw[p3] at W;omega) r2 J ⟨rfl,rfl,qfx (.inr (by kernel_rfl)),qfx (.inr (by kernel_rfl))⟩
 refine⟨⟨⟨by rw[M],by rw[M];rfl⟩,by rw[M];exact v,⟨m,by omega,by rw[E];exact i2,?_,?_⟩,?_,?_⟩,?_⟩
 ·show PInv K (m+1) ((P.act 0 ((P.en 0).offer N h 9)).restD.act 1 (setC pd ((P.act 0 ((P.en 0).offer N h 9)).restD.en 1) ja q));rw[E,H,O];exact l
 ·show PInv K (m+1+1) (((P.act 0 ((P.en 0).offer N h 9)).restD.act 1 (setC pd ((P.act 0 ((P.en 0).offer N h 9)).restD.en 1) ja q)).signs 1);rw[E,H,O];exact C
 ·show (setC pd ((P.act 0 ((P.en 0).offer N h 9)).restD.en 1) ja q).2.2=0;rw[E,H]
 ·show (((P.act 0 ((P.en 0).offer N h 9)).restD.act 1 (setC pd ((P.act 0 ((P.en 0).offer N h 9)).restD.en 1) ja q)).en 1).sign.2.2=0;rw[E,H,O];exact congrArg (fun r:Ch × MsgV × Int=>r.2.2) s3
 ·refine⟨a5,a6,Z,a4,false,true,a7,a9,?_⟩;show (((P.act 0 ((P.en 0).offer N h 9)).restD.act 1 (setC pd ((P.act 0 ((P.en 0).offer N h 9)).restD.en 1) ja q)).signs 1).restD=_;rw[E,H,O,p3,q3];rw[show sg+1+1=sg+2 by omega]
def zf6(o c X Y sg ja jb N:Int)(h:Vector Int 32)(pd:Bool)(q:List Int)(P:Pr):Prop:=∃g i l,qaj (zn 6) g∧qaj (zn 5) i∧P=⟨eA o c X (Y-N) g [] ([qb0 pd jb q]++[sgA X (Y-N) (sg+1) [itn N jb h false 6 pd]]) ⟨sg+1+1,sg+1,true,ja,jb+1,false,false,false⟩ [itn N jb h false 6 pd],eB o c X (Y-N) i [] l ⟨sg+1,sg+1,false,jb+1,ja,false,false,true⟩ [itn N jb h true 4 false],[],[qb0 pd jb q,sgA X (Y-N) (sg+1) [itn N jb h false 6 pd]],false⟩
theorem zi3(F:K.Ok)(hn:n<50000)(hI:PInv K n P)(hF:qqu o c X Y sg ja jb P)(hs:0≤sg∧sg≤900)(T:1≤N∧N≤Y)(hX:Y≤1125899906842624)(V:0≤jb∧jb≤1000)(U:qal h.toList)(hl:q.length=32)(hq:qal q)(ho:qby q h.toList=true) :
  Pays K n 1 P N jb h pd q∧zf6 o c X Y sg ja jb N h pd q (P.paidD 1 N jb h pd q):=by
 obtain⟨sa,sb,la,lb,ra,rb,ta,tb,rfl⟩:=hF
 have t:=(hI.offer F (by omega) (k:=1) (by decide) (N:=N) (ex:=9) (hv:=h) (by omega) U).1
 have H:(Pr.en ⟨eA o c X Y sa [] la ⟨sg,sg,false,ja,jb,false,false,ra⟩ [],eB o c X Y sb [] lb ⟨sg,sg,false,jb,ja,false,false,rb⟩ [],[],[],false⟩ 1).offer N h 9=(eB o c X (Y-N) sb [pN N jb h] lb ⟨sg,sg,false,jb+1,ja,false,false,rb⟩ [itn N jb h true 0 false],pN N jb h,0):=q2n T V
 obtain⟨g,w,i,v,O,R,Z⟩:=zdq (o:=o) (c:=c) (n:=N) (x:=Y-N) (y:=X) (sg:=sg) (j:=jb) (ja:=ja) (h:=h) (ra:=ra) (rb:=rb) (bad:=false) (la:=la) (lb:=lb) ⟨hs.1,by omega⟩ ⟨T.1,by omega⟩ V (by omega) U ta tb
 rw[show Y-N+N=Y by omega] at Z
 have W:Pr.act ⟨eA o c X Y sa [] la ⟨sg,sg,false,ja,jb,false,false,ra⟩ [],eB o c X Y sb [] lb ⟨sg,sg,false,jb,ja,false,false,rb⟩ [],[],[],false⟩ 1 (eB o c X (Y-N) sb [pN N jb h] lb ⟨sg,sg,false,jb+1,ja,false,false,rb⟩ [itn N jb h true 0 false],pN N jb h,0)=⟨eA o c X Y sa [] la ⟨sg,sg,false,ja,jb,false,false,ra⟩ [],eB o c X (Y-N) sb [pN N jb h] lb ⟨sg,sg,false,jb+1,ja,false,false,rb⟩ [itn N jb h true 0 false],[pN N jb h],[],false⟩:=rfl
 generalize hP:(⟨eA o c X Y sa [] la ⟨sg,sg,false,ja,jb,false,false,ra⟩ [],eB o c X Y sb [] lb ⟨sg,sg,false,jb,ja,false,false,rb⟩ [],[],[],false⟩:Pr)=P at *
 rw[H] at t
 have a4:=t.mu
 have J:=qex F (N:=n+1+(P.act 1 (eB o c X (Y-N) sb [pN N jb h] lb ⟨sg,sg,false,jb+1,ja,false,false,rb⟩ [itn N jb h true 0 false],pN N jb h,0)).mu) (by omega) Z (by rw[←W];exact Bnd.of t) ⟨rfl,rfl,qfx (.inr (by kernel_rfl)),qfx (.inr (by kernel_rfl))⟩
 rw[←W] at J
 obtain⟨m,i2,j2⟩:=((Bnd.of t).rest F (by omega)).1
 have f1:setC pd (eA o c X (Y-N) g [] i ⟨sg+1,sg+1,false,ja,jb+1,false,false,false⟩ [itn N jb h false 4 false]) jb q=_:=zio (o:=o) (c:=c) (N:=N) (j:=jb) (h:=h) (pd:=pd) (q:=q) ho
 have l:=i2.setC F (k:=0) (by decide) (pd:=pd) (j:=jb) hl hq
 rw[J] at l i2
 have s3:=(signA (o:=o) (c:=c) (x:=X) (y:=Y-N) (sa:=g) (nw:=[qb0 pd jb q]) (la:=i) (sg:=sg+1) (hd:=sg+1) (no:=ja) (nt:=jb+1) (f1:=false) (f2:=false) (ra:=false) (L:=[itn N jb h false 5 pd]) (L1:=[itn N jb h false 6 pd]) ⟨by omega,by omega⟩ (by kernel_rfl) (by kernel_rfl) (qan (by decide)) (bl rfl) (bl rfl)).eq
 obtain⟨M,z⟩:∃Q,Q=Pr.mk (eA o c X (Y-N) g [] i ⟨sg+1,sg+1,false,ja,jb+1,false,false,false⟩ [itn N jb h false 4 false]) (eB o c X (Y-N) w [] v ⟨sg+1,sg+1,false,jb+1,ja,false,false,true⟩ [itn N jb h true 4 false]) [] [] false:=⟨_,rfl⟩
 rw[←z] at J l i2
 have C:(P.act 1 ((P.en 1).offer N h 9)).restD=M:=by rw[H];exact J
 have D:setC pd (M.en 0) jb q=(eA o c X (Y-N) g [qb0 pd jb q] i ⟨sg+1,sg+1,false,ja,jb+1,false,false,false⟩ [itn N jb h false 5 pd],qb0 pd jb q,0):=by rw[z];exact f1
 rw[D] at l
 have I:M.act 0 (eA o c X (Y-N) g [qb0 pd jb q] i ⟨sg+1,sg+1,false,ja,jb+1,false,false,false⟩ [itn N jb h false 5 pd],qb0 pd jb q,0)=⟨eA o c X (Y-N) g [qb0 pd jb q] i ⟨sg+1,sg+1,false,ja,jb+1,false,false,false⟩ [itn N jb h false 5 pd],eB o c X (Y-N) w [] v ⟨sg+1,sg+1,false,jb+1,ja,false,false,true⟩ [itn N jb h true 4 false],[],[qb0 pd jb q],false⟩:=by rw[z];rfl
 have E:=(l.sign F (k:=0) (by decide)).1
 rw[I] at l E
 have p3:Pr.signs ⟨eA o c X (Y-N) g [qb0 pd jb q] i ⟨sg+1,sg+1,false,ja,jb+1,false,false,false⟩ [itn N jb h false 5 pd],eB o c X (Y-N) w [] v ⟨sg+1,sg+1,false,jb+1,ja,false,false,true⟩ [itn N jb h true 4 false],[],[qb0 pd jb q],false⟩ 0=⟨eA o c X (Y-N) g [] ([qb0 pd jb q]++[sgA X (Y-N) (sg+1) [itn N jb h false 6 pd]]) ⟨sg+1+1,sg+1,true,ja,jb+1,false,false,false⟩ [itn N jb h false 6 pd],eB o c X (Y-N) w [] v ⟨sg+1,sg+1,false,jb+1,ja,false,false,true⟩ [itn N jb h true 4 false],[],[qb0 pd jb q,sgA X (Y-N) (sg+1) [itn N jb h false 6 pd]],false⟩:=by
  unfold Pr.signs;show Pr.act _ 0 (eA o c X (Y-N) g [qb0 pd jb q] i ⟨sg+1,sg+1,false,ja,jb+1,false,false,false⟩ [itn N jb h false 5 pd]).sign=_;rw[s3];rfl
 refine⟨⟨⟨by rw[H],by rw[H];rfl⟩,by rw[H];exact t,⟨m,by omega,by rw[C];exact i2,?_,?_⟩,?_,?_⟩,?_⟩
 ·show PInv K (m+1) ((P.act 1 ((P.en 1).offer N h 9)).restD.act 0 (setC pd ((P.act 1 ((P.en 1).offer N h 9)).restD.en 0) jb q));rw[C,D,I];exact l
 ·show PInv K (m+1+1) (((P.act 1 ((P.en 1).offer N h 9)).restD.act 0 (setC pd ((P.act 1 ((P.en 1).offer N h 9)).restD.en 0) jb q)).signs 0);rw[C,D,I];exact E
 ·show (setC pd ((P.act 1 ((P.en 1).offer N h 9)).restD.en 0) jb q).2.2=0;rw[C,D]
 ·show (((P.act 1 ((P.en 1).offer N h 9)).restD.act 0 (setC pd ((P.act 1 ((P.en 1).offer N h 9)).restD.en 0) jb q)).en 0).sign.2.2=0;rw[C,D,I];exact congrArg (fun r:Ch × MsgV × Int=>r.2.2) s3
 ·refine⟨g,w,v,O,R,?_⟩;show ((P.act 1 ((P.en 1).offer N h 9)).restD.act 0 (setC pd ((P.act 1 ((P.en 1).offer N h 9)).restD.en 0) jb q)).signs 0=_;rw[C,D,I,p3]
theorem zim(E:K.Ok)(W:n<60000)(D:PInv K n P)(H:zf6 o c X Y sg ja jb N h pd q P)(Z:0≤sg∧sg≤900)(I:0≤jb∧jb≤1000)(J:q.length=32)(M:qal q)(L:qby q h.toList=true):qqu o c (qau pd N X) (qau (!pd) N (Y-N)) (sg+2) ja (jb+1) P.restD:=by
 obtain⟨T,U,l,w,g,rfl⟩:=H;obtain⟨t,v,i,m,z,C,R⟩:=zb3 (o:=o) (c:=c) (n:=N) (x:=Y-N) (y:=X) (sg:=sg+1) (j:=jb) (ja:=ja) (h:=h) (rb:=true) (pd:=pd) (bad:=false) (la:=[qb0 pd jb q]++[sgA X (Y-N) (sg+1) [itn N jb h false 6 pd]]) (lb:=l) (F:=qb0 pd jb q) ⟨by omega,by omega⟩ w g (zag I J M L g (by show sg+1≤_;omega));have V:=D.mu;have O:=qex E (N:=_) (by omega) R (Bnd.of D) ⟨rfl,rfl,qfx (.inr (by kernel_rfl)),qfx (.inr (by kernel_rfl))⟩;rw[O];refine⟨t,v,i,m,true,false,z,C,?_⟩;rw[show sg+1+1=sg+2 by omega]
end
section
variable {o c X Y sg ja jb N:Int}{h:Vector Int 32}{q:List Int}{pd:Bool}{P:Pr}{K:Kon}{n:Nat}
def zf4(o c X Y sg ja jb N:Int)(h:Vector Int 32)(pd:Bool)(q:List Int)(P:Pr):Prop:=∃g i l,qaj (zn 6) g∧qaj (zn 5) i∧P=⟨eA o c X (Y-N) g [] ([qb0 pd jb q]++[sgA X (Y-N) (sg+1) [itn N jb h false 6 pd]]) ⟨sg+1+1,sg+1,true,ja,jb+1,false,false,false⟩ [itn N jb h false 6 pd],eB o c X (Y-N) i [] l ⟨sg+1,sg+1+1,false,jb+1,ja,false,false,true⟩ [itn N jb h true 7 pd],[rvB (sg+1)],[],false⟩
theorem qy1{c c':Ch}{m:MsgV}{l:List MsgV}(h:HearSt c m c' l):c.hears m=(c',l,0):=by
 unfold Ch.hears;rw[if_neg (by have:=h.kind;omega)];exact h.eq
theorem qo6{c:Ch}{m:MsgV}(g:qc5 c m=false)(l:m.number=c.k.signed+1)(i:qfj c m=false)(t:m.id=c.k.heard)(v:c.k.shutSaid=false):c.hearAgain m=([],0):=by
 have e:qcm c m=0:=by
  unfold qcm;rw[g,i,if_neg (fun e=>e.2 l),if_neg (fun e=>e.2 t)]
 unfold Ch.hearAgain;rw[if_pos e,g,i];unfold Ch.resaid;rw[v];rfl
theorem q02{c:Ch}{m:MsgV}(g:qc5 c m=true)(i:qfj c m=false)(l:m.id=c.k.heard)(t:c.k.shutSaid=false):c.hearAgain m=(c.last,0):=by
 have e:qcm c m=0:=by
  unfold qcm;rw[g,i,if_neg (fun e=>by cases e.1),if_neg (fun e=>e.2 l)]
 unfold Ch.hearAgain;rw[if_pos e,g,i];unfold Ch.resaid;rw[t];simp
theorem q45{c:Ch}{m:MsgV}(g:qc5 c m=false)(l:m.number=c.k.signed+1)(i:qfj c m=true)(t:c.k.revoked=true)(v:c.k.shutSaid=false):c.hearAgain m=([c.revocation],0):=by
 have e:qcm c m=0:=by
  unfold qcm;rw[g,i,if_neg (fun e=>e.2 l),if_neg (fun e=>by cases e.1)]
 unfold Ch.hearAgain;rw[if_pos e,g,i];unfold Ch.resaid;rw[v,t];simp
theorem zin(E:K.Ok)(O:n<60000)(D:PInv K n P)(F:zf4 o c X Y sg ja jb N h pd q P)(R:0≤sg∧sg≤900):qqu o c (qau pd N X) (qau (!pd) N (Y-N)) (sg+2) ja (jb+1) P.restD:=by
 obtain⟨J,L,i,v,z,rfl⟩:=F;obtain⟨m,t,g,l,w,C,I⟩:=zb4 (o:=o) (c:=c) (n:=N) (x:=Y-N) (y:=X) (sg:=sg+1) (j:=jb) (ja:=ja) (h:=h) (pd:=pd) (bad:=false) (la:=[qb0 pd jb q]++[sgA X (Y-N) (sg+1) [itn N jb h false 6 pd]]) (lb:=i) ⟨by omega,by omega⟩ v z;have M:=D.mu;have H:=qex E (N:=_) (by omega) I (Bnd.of D) ⟨rfl,rfl,qfx (.inr (by kernel_rfl)),qfx (.inr (by kernel_rfl))⟩;rw[H];refine⟨m,t,g,l,true,false,w,C,?_⟩;rw[show sg+1+1=sg+2 by omega]
theorem zi0(hS:zf6 o c X Y sg ja jb N h pd q P)(hs:0≤sg∧sg≤900)(hj:0≤jb∧jb≤1000)(hl:q.length=32)(hq:qal q)(ho:qby q h.toList=true)(x y:Int):P.cutD x y=P∨zf4 o c X Y sg ja jb N h pd q (P.cutD x y):=by
 obtain⟨T,D,C,Z,H,rfl⟩:=hS;obtain⟨A,E⟩:∃A,A=eA o c X (Y-N) T [] ([qb0 pd jb q]++[sgA X (Y-N) (sg+1) [itn N jb h false 6 pd]]) ⟨sg+1+1,sg+1,true,ja,jb+1,false,false,false⟩ [itn N jb h false 6 pd]:=⟨_,rfl⟩;have U:A.cut=A:=by rw[E];rfl
 have a4:∀(L:List Live) (k:CountsV),A.s.ch=(eB o c X (Y-N) D [] C k L).s.ch:=fun _ _=>by rw[E];rfl
 have w1:IntKind.u64.wrap (sg+1)=sg+1:=qaw (by omega) (by omega);have z:A.again=⟨9,3,sg+1,0,zv,0,sg+1+1⟩:=by
  rw[E];show (⟨9,3,IntKind.u64.wrap (sg+1+1-1),0,zv,0,sg+1+1⟩:MsgV)=_;rw[show sg+1+1-1=sg+1 by omega,w1]
 have i:A.k=⟨sg+1+1,sg+1,true,ja,jb+1,false,false,false⟩:=by rw[E];rfl
 have V:A.last=[qb0 pd jb q,sgA X (Y-N) (sg+1) [itn N jb h false 6 pd]]:=by rw[E];rfl
 obtain⟨g,t⟩:∃B,B=eB o c X (Y-N) D [] C ⟨sg+1,sg+1,false,jb+1,ja,false,false,true⟩ [itn N jb h true 4 false]:=⟨_,rfl⟩;obtain⟨w,F⟩:∃B,B=eB o c X (Y-N) D [] C ⟨sg+1,sg+1,false,jb+1,ja,false,false,true⟩ [itn N jb h true 5 pd]:=⟨_,rfl⟩;obtain⟨l,v⟩:∃B,B=eB o c X (Y-N) D [] C ⟨sg+1,sg+1+1,false,jb+1,ja,false,false,true⟩ [itn N jb h true 7 pd]:=⟨_,rfl⟩;have c0:g.cut=g:=by rw[t];rfl
 have c1:w.cut=g:=by rw[F,t];rfl
 have c2:l.cut=l:=by rw[v];rfl
 have O:g.k=⟨sg+1,sg+1,false,jb+1,ja,false,false,true⟩:=by rw[t];rfl
 have R:l.k=⟨sg+1,sg+1+1,false,jb+1,ja,false,false,true⟩:=by rw[v];rfl
 have a0:g.again=⟨9,3,sg+1,0,zv,0,sg+1+1⟩:=by
  rw[t];show (⟨9,3,IntKind.u64.wrap (sg+1),0,zv,0,sg+1+1⟩:MsgV)=_;rw[w1]
 have a2:l.again=⟨9,3,sg+1,0,zv,0,sg+1+1+1⟩:=by
  rw[v];show (⟨9,3,IntKind.u64.wrap (sg+1),0,zv,0,sg+1+1+1⟩:MsgV)=_;rw[w1]
 have s0:A.s.ch=g.s.ch:=by rw[E,t];rfl
 have s2:A.s.ch=l.s.ch:=by rw[E,v];rfl
 have e1:(A.hears g.again).2.1=[qb0 pd jb q,sgA X (Y-N) (sg+1) [itn N jb h false 6 pd]]:=by
  rw[qfk s0 (by rw[O];show 0≤sg+1∧sg+1≤65534;omega)];show (A.hearAgain g.again).1=_;rw[q02 (by unfold qc5;rw[i,a0];simp) (by unfold qfj;rw[i,a0];simp;omega) (by rw[i,a0]) (by rw[i]),V]
 have e2:(g.hears A.again).2.1=[]:=by
  rw[qfk s0.symm (by rw[i];show 0≤sg+1∧sg+1≤65534;omega)];show (g.hearAgain A.again).1=_;rw[qo6 (by unfold qc5;rw[O];simp) (by rw[O,z]) (by unfold qfj;rw[O,z];simp;omega) (by rw[O,z]) (by rw[O])]
 have e3:(A.hears l.again).2.1=[]:=by
  rw[qfk s2 (by rw[R];show 0≤sg+1+1∧sg+1+1≤65534;omega)];show (A.hearAgain l.again).1=_;rw[qo6 (by unfold qc5;rw[i,a2];simp;omega) (by rw[i,a2]) (by unfold qfj;rw[i,a2];simp;omega) (by rw[i,a2]) (by rw[i])]
 have e4:(l.hears A.again).2.1=[rvB (sg+1)]:=by
  rw[qfk s2.symm (by rw[i];show 0≤sg+1∧sg+1≤65534;omega)];show (l.hearAgain A.again).1=_;rw[q45 (by unfold qc5;rw[R];simp) (by rw[R,z]) (by unfold qfj;rw[R,z];simp;omega) (by rw[R]) (by rw[R])];show [l.revocation]=_;rw[v];exact congrArg (fun m:MsgV=>[m]) (q24 (by omega))
 have f1:g.hears (qb0 pd jb q)=(w,[],0):=by
  rw[t,F];exact qy1 (zag hj hl hq ho H (by show sg+1≤_;omega))
 have f2:w.hears (sgA X (Y-N) (sg+1) [itn N jb h false 6 pd])=(l,[rvB (sg+1)],0):=by
  rw[F,v];exact qy1 (zai (xs:=[itn N jb h false 6 pd]) (L2:=[itn N jb h true 7 pd]) ⟨by omega,by omega⟩ H (bl rfl) (by kernel_rfl) (by kernel_rfl) (by exact qan (st:=6) (by decide)) (by kernel_rfl) (qan (by decide)))
 rw[←E,←t];have I:∀wa wb bad,Pr.told ⟨A,g,wa,wb,bad⟩=⟨A,g,[],[qb0 pd jb q,sgA X (Y-N) (sg+1) [itn N jb h false 6 pd]],false⟩:=fun wa wb bad=>by
  show (⟨A.cut,g.cut,(g.cut.hears A.cut.again).2.1,(A.cut.hears g.cut.again).2.1,false⟩:Pr)=_;rw[U,c0,e1,e2]
 have J:∀wa wb bad,Pr.told ⟨A,w,wa,wb,bad⟩=⟨A,g,[],[qb0 pd jb q,sgA X (Y-N) (sg+1) [itn N jb h false 6 pd]],false⟩:=fun wa wb bad=>by
  show (⟨A.cut,w.cut,(w.cut.hears A.cut.again).2.1,(A.cut.hears w.cut.again).2.1,false⟩:Pr)=_;rw[U,c1,e1,e2]
 have M:∀wa wb bad,Pr.told ⟨A,l,wa,wb,bad⟩=⟨A,l,[rvB (sg+1)],[],false⟩:=fun wa wb bad=>by
  show (⟨A.cut,l.cut,(l.cut.hears A.cut.again).2.1,(A.cut.hears l.cut.again).2.1,false⟩:Pr)=_;rw[U,c2,e3,e4]
 have hx:qed ([]:List MsgV) x=0:=by unfold qed;simp
 have hy:qed [qb0 pd jb q,sgA X (Y-N) (sg+1) [itn N jb h false 6 pd]] y=0∨qed [qb0 pd jb q,sgA X (Y-N) (sg+1) [itn N jb h false 6 pd]] y=1∨qed [qb0 pd jb q,sgA X (Y-N) (sg+1) [itn N jb h false 6 pd]] y=2:=by
  unfold qed;simp only[List.length_cons,List.length_nil];omega
 have W:Pr.cutD ⟨A,g,[],[qb0 pd jb q,sgA X (Y-N) (sg+1) [itn N jb h false 6 pd]],false⟩ x y=((Pr.mk A g [] [qb0 pd jb q,sgA X (Y-N) (sg+1) [itn N jb h false 6 pd]] false).heardN 1 (qed [qb0 pd jb q,sgA X (Y-N) (sg+1) [itn N jb h false 6 pd]] y)).told:=by
  show (((Pr.mk A g [] [qb0 pd jb q,sgA X (Y-N) (sg+1) [itn N jb h false 6 pd]] false).heardN 0 (qed ([]:List MsgV) x)).heardN 1 _).told=_;rw[hx];rfl
 have g1:((Pr.mk A g [] [qb0 pd jb q,sgA X (Y-N) (sg+1) [itn N jb h false 6 pd]] false).heard 1).1=⟨A,w,[],[sgA X (Y-N) (sg+1) [itn N jb h false 6 pd]],false⟩:=by
  show (⟨A,(g.hears (qb0 pd jb q)).1,[]++(g.hears (qb0 pd jb q)).2.1,_,false || decide ((g.hears (qb0 pd jb q)).2.2≠0)⟩:Pr)=_;rw[f1];rfl
 have g2:((Pr.mk A w [] [sgA X (Y-N) (sg+1) [itn N jb h false 6 pd]] false).heard 1).1=⟨A,l,[rvB (sg+1)],[],false⟩:=by
  show (⟨A,(w.hears (sgA X (Y-N) (sg+1) [itn N jb h false 6 pd])).1,[]++(w.hears (sgA X (Y-N) (sg+1) [itn N jb h false 6 pd])).2.1,_,false || decide ((w.hears (sgA X (Y-N) (sg+1) [itn N jb h false 6 pd])).2.2≠0)⟩:Pr)=_;rw[f2];rfl
 rw[W];rcases hy with e | e | e
 ·rw[e];exact .inl (I _ _ _)
 ·rw[e];show Pr.told ((Pr.mk A g [] [qb0 pd jb q,sgA X (Y-N) (sg+1) [itn N jb h false 6 pd]] false).heard 1).1=_∨_;rw[g1];exact .inl (J _ _ _)
 ·rw[e];right;show zf4 o c X Y sg ja jb N h pd q (Pr.told ((((Pr.mk A g [] [qb0 pd jb q,sgA X (Y-N) (sg+1) [itn N jb h false 6 pd]] false).heard 1).1).heard 1).1);rw[g1,g2,M];exact⟨T,D,C,Z,H,by rw[E,v]⟩
end
attribute [local go_sem ↓ high] zr zu zw
attribute [local go_sem] qb3 qb9 qcf zb
section
variable {w0 w:World}{p:Nat}{g:Nat→Nat}{K:Kon}{n:Nat}{P:Pr}{J:Pr→Prop}
end
end Go.Proofs.YthnohmjbbeahmaaGreatDoor
