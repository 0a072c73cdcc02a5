/-
  A node whose funds are told: what it stands by, and what each call makes of it.
-/
import Derived.Test.YtfmkdoachjgjbaaGreatDoorMeb
set_option linter.unusedVariables false
set_option linter.unusedSimpArgs false
namespace Go.Proofs.YtfmkdoachjgjbaaGreatDoor
open Go.RowKit
def qci(f:Nat→Int):Nat→Int
 | 0=>0
 | n+1=>qci f n+f n
theorem qfs{f h:Nat→Int} : ∀n,(∀i,i<n→f i=h i)→qci f n=qci h n
 | 0,_=>rfl
 | n+1,e=>by rw[qci,qci,qfs n (fun i o=>e i (by omega)),e n (by omega)]
theorem qqp{f h:Nat→Int}{j:Nat}(d:Int)(q:h j=f j+d):∀n,j<n→(∀i,i≠j→f i=h i)→qci h n=qci f n+d
 | 0,t,_=>by omega
 | n+1,t,e=>by
  rw[qci,qci];by_cases o:j=n
  ·subst o;rw[qfs (f:=h) (h:=f) j (fun i v=>(e i (by omega)).symm),q];omega
  ·rw[qqp d q n (by omega) e,e n (fun e=>o e.symm)];omega
theorem qj7{f:Nat→Int} : ∀n,(∀i,i<n→0≤f i)→0≤qci f n
 | 0,_=>Int.le_refl _
 | n+1,e=>by
  have:=qj7 n (fun i o=>e i (by omega));have:=e n (by omega);rw[qci];omega
theorem qi6{f:Nat→Int}{k:Nat} : ∀n,k≤n→(∀i,i<n→0≤f i)→qci f k≤qci f n
 | 0,h,_=>by rw[show k=0 by omega];exact Int.le_refl _
 | n+1,h,e=>by
  by_cases o:k=n+1
  ·rw[o];exact Int.le_refl _
  ·have:=qi6 n (show k≤n by omega) (fun i q=>e i (by omega));have:=e n (by omega);rw[qci];omega
def qdh(N:NodeV)(ps:List PeL)(i:Nat):Int:=if N.swept[i]? = some true then 0 else match ps[i]? with | none=>0 | some p=>p.L.c.hasI
structure NFs(G:Nat→Prop)(w0 w:World)(g:Nat)(F:Int)(caps:List Int)(dr:Bool)(n:Nat)(N:NodeV)(R:RelV)(m:Nat)(ps:List PeL):Prop where
 nod:NodM G w g N R m ps
 gw:∀b,G b→w0.heap.size≤b
 n0:qq w0 w
 sh:N.shut.length=8
 sw:N.swept.length=8
 dN:N.drains=dr
 dR:R.drains=dr
 len:ps.length≤8
 cl:caps.length=ps.length
 pe:∀(i:Nat) p c,ps[i]? = some p→caps[i]? = some c→LkF c n p.L
 swp:∀(i:Nat) p,ps[i]? = some p→N.swept[i]? = some true→p.L.c.closed=true
 swf:∀i,ps.length≤i→N.swept[i]? ≠ some true
 fn:0≤N.funds
 tot:N.funds+qci (qdh N ps) ps.length=F
 F:F≤1125899906842624
def NF(G:Nat→Prop)(w0 w:World)(g:Nat)(F:Int)(caps:List Int)(dr:Bool)(n:Nat):Prop:=∃N R m ps,NFs G w0 w g F caps dr n N R m ps
section
variable {G:Nat→Prop}{w0 w w':World}{g:Nat}{F:Int}{caps:List Int}{dr:Bool}{n:Nat}{N:NodeV}{R:RelV}{m:Nat}{ps:List PeL}
theorem NFs.new(h:NFs G w0 w g F caps dr n N R m ps)(u:qq w w'):NFs G w0 w' g F caps dr n N R m ps:=⟨h.nod.new u,h.gw,h.n0.trans u,h.sh,h.sw,h.dN,h.dR,h.len,h.cl,h.pe,h.swp,h.swf,h.fn,h.tot,h.F⟩
theorem NF.new(h:NF G w0 w g F caps dr n)(u:qq w w'):NF G w0 w' g F caps dr n:=by
 obtain⟨N,R,m,ps,h⟩:=h;exact⟨N,R,m,ps,h.new u⟩
theorem NFs.mono{o:Nat}(h:NFs G w0 w g F caps dr n N R m ps)(t:n≤o):NFs G w0 w g F caps dr o N R m ps:=⟨h.nod,h.gw,h.n0,h.sh,h.sw,h.dN,h.dR,h.len,h.cl,fun i p c v q=>(h.pe i p c v q).mono t,h.swp,h.swf,h.fn,h.tot,h.F⟩
theorem NFs.at(h:NFs G w0 w g F caps dr n N R m ps){i:Nat}{p:PeL}(q:ps[i]? = some p):∃c,caps[i]? = some c∧LkF c n p.L:=by
 have t:=(List.getElem?_eq_some_iff.1 q).1;have o:caps[i]? = some (caps[i]'(by rw[h.cl];exact t)):=List.getElem?_eq_getElem _;exact⟨_,o,h.pe i p _ q o⟩
theorem NFs.hasP_ge(h:NFs G w0 w g F caps dr n N R m ps)(i:Nat):0≤qdh N ps i:=by
 unfold qdh;split
 ·exact Int.le_refl _
 ·cases q:ps[i]? with
  | none=>exact Int.le_refl _
  | some p =>
   obtain⟨c,-,o⟩:=h.at q;have:=o.c.bnd;have:=o.c.loc;show 0≤p.L.c.loc+qde p.L.c.xs;omega
theorem NFs.then(h:NFs G w0 w g F caps dr n N R m ps)(u:Upd G w w'):qq w0 w':=h.n0.then u (fun i o e=>by have:=h.gw i e;omega)
theorem NFs.stepS(h:NFs G w0 w g F caps dr n N R m ps){i:Nat}{p:PeL}(D:ps[i]? = some p){C:Nat→Prop}{v:Lk}{I:Nat}(P:n≤I){sh:List Bool}(H:sh.length=8)(M:NodM G w' g {N with shut:=sh} R m (ps.set i ⟨p.ch,p.k,C,v⟩))(u:Upd G w w')(K:∀c,caps[i]? = some c→StepF c I p.L v):NFs G w0 w' g F caps dr I {N with shut:=sh} R m (ps.set i ⟨p.ch,p.k,C,v⟩):=by
 have J:=(List.getElem?_eq_some_iff.1 D).1;obtain⟨c,O,T⟩:=h.at D;have y:=K c O;have t:∀(j:Nat) (q:PeL),(ps.set i ⟨p.ch,p.k,C,v⟩)[j]? = some q→(j=i∧q=⟨p.ch,p.k,C,v⟩)∨(j≠i∧ps[j]? = some q):=by
  intro j q o;by_cases e:j=i
  ·subst e;rw[List.getElem?_set_self J] at o;exact .inl ⟨rfl,(Option.some.inj o).symm⟩
  ·rw[List.getElem?_set_ne (fun E=>e E.symm)] at o;exact .inr ⟨e,o⟩
 refine⟨M,h.gw,h.then u,H,h.sw,h.dN,h.dR,by rw[List.length_set];exact h.len,by rw[List.length_set];exact h.cl,?_,?_,by rw[List.length_set];exact h.swf,h.fn,?_,h.F⟩
 ·intro j q d o hd;rcases t j q o with ⟨rfl,rfl⟩ | ⟨-,o⟩
  ·exact(K d hd).f
  ·exact(h.pe j q d o hd).mono P
 ·intro j q o z;rcases t j q o with ⟨rfl,rfl⟩ | ⟨-,o⟩
  ·have x:=h.swp j p D z;show v.c.closed=true;rw[y.c.shut x];exact x
  ·exact h.swp j q o z
 ·rw[List.length_set,←h.tot];congr 1;refine qfs _ fun j U=> ?_
  unfold qdh;by_cases e:j=i
  ·subst e;rw[List.getElem?_set_self J,D];show (if _ then (0:Int) else v.c.hasI)=_;rw[y.c.has]
  ·rw[List.getElem?_set_ne (fun E=>e E.symm)]
theorem NFs.step(h:NFs G w0 w g F caps dr n N R m ps){i:Nat}{p:PeL}(y:ps[i]? = some p){t:Nat→Prop}{o:Lk}{q:Nat}(x:n≤q)(v:NodM G w' g N R m (ps.set i ⟨p.ch,p.k,t,o⟩))(u:Upd G w w')(z:∀c,caps[i]? = some c→StepF c q p.L o):NFs G w0 w' g F caps dr q N R m (ps.set i ⟨p.ch,p.k,t,o⟩):=h.stepS y x (sh:=N.shut) h.sh v u z
theorem q1m(h:NFs G w0 w g F caps dr n N R m ps){o:NodeV}{i:Nat}{p:PeL}(J:ps[i]? = some p)(O:0≤o.funds)(t:∀j,0≤qdh o ps j)(W:o.funds+qci (qdh o ps) ps.length=F)(hl:o.swept.length=8) :
  0≤(qdr o i p.L.c).funds∧(∀j,0≤qdh (qdr o i p.L.c) ps j)∧(qdr o i p.L.c).funds+qci (qdh (qdr o i p.L.c) ps) ps.length=F∧(∀j:Nat,(qdr o i p.L.c).swept[j]? = some true→o.swept[j]? = some true∨(j=i∧p.L.c.closed=true)):=by
 have V:=(List.getElem?_eq_some_iff.1 J).1
 have Y:=h.len
 unfold qdr
 by_cases E:(p.L.c.closed && !(o.swept.getD i true))=true
 ·rw[if_pos E];rw[Bool.and_eq_true,Bool.not_eq_true'] at E;obtain⟨y,z⟩:=E;have C:o.swept[i]? = some false:=by
   have:o.swept[i]? = some (o.swept[i]'(by omega)):=List.getElem?_eq_getElem _;rw[List.getD_eq_getElem?_getD,this] at z;rw[this];exact congrArg some z
  obtain⟨c,Z,T⟩:=h.at J;have K:=(qe4.1 y).2.2;have M:=T.c.loc;have v:qdh o ps i=p.L.c.loc:=by
   unfold qdh;rw[if_neg (by rw[C];decide),J];show p.L.c.loc+qde p.L.c.xs=_;rw[K];show p.L.c.loc+0=_;omega
  have I:qci (qdh o ps) (i+1)≤qci (qdh o ps) ps.length:=qi6 _ (by omega) (fun j _=>t j);have P:0≤qci (qdh o ps) i:=qj7 _ (fun j _=>t j);have U:=h.F;rw[qci,v] at I;have D:IntKind.u64.wrap (o.funds+p.L.c.loc)=o.funds+p.L.c.loc:=qdl (by omega) (by omega);have q:∀j,qdh {o with funds:=IntKind.u64.wrap (o.funds+p.L.c.loc),swept:=o.swept.set i true} ps j=if j=i then 0 else qdh o ps j:=by
   intro j;unfold qdh;by_cases e:j=i
   ·subst e;rw[if_pos (by show (o.swept.set j true)[j]? = some true;rw[List.getElem?_set_self (by omega)]),if_pos rfl]
   ·rw[if_neg e];show (if (o.swept.set i true)[j]? = some true then (0:Int) else _)=_;rw[List.getElem?_set_ne (fun H=>e H.symm)]
  refine⟨by show 0≤IntKind.u64.wrap _;rw[D];omega,fun j=> ?_,?_,fun j x=> ?_⟩
  ·rw[q j];split
   ·exact Int.le_refl _
   ·exact t j
  ·have X:=qqp (f:=qdh o ps) (h:=qdh {o with funds:=IntKind.u64.wrap (o.funds+p.L.c.loc),swept:=o.swept.set i true} ps) (j:=i) (-p.L.c.loc) (by rw[q i,if_pos rfl,v];omega) ps.length V (fun j e=>by rw[q j,if_neg e]);show IntKind.u64.wrap (o.funds+p.L.c.loc)+qci _ _=F;rw[X,D];omega
  ·by_cases e:j=i
   ·exact .inr ⟨e,y⟩
   ·have x:(o.swept.set i true)[j]? = some true:=x;rw[List.getElem?_set_ne (fun H=>e H.symm)] at x;exact .inl x
 ·rw[if_neg E];exact⟨O,t,W,fun j x=> .inl x⟩
theorem qon(h:NFs G w0 w g F caps dr n N R m ps):∀k,k≤ps.length→0≤(qa7 N ps k).funds∧(∀j,0≤qdh (qa7 N ps k) ps j)∧(qa7 N ps k).funds+qci (qdh (qa7 N ps k) ps) ps.length=F∧(∀j:Nat,(qa7 N ps k).swept[j]? = some true→N.swept[j]? = some true∨∃p:PeL,ps[j]? = some p∧p.L.c.closed=true)
 | 0,_=>⟨h.fn,h.hasP_ge,h.tot,fun j e=> .inl e⟩
 | k+1,E=>by
  obtain⟨o,q,t,v⟩:=qon h k (by omega);have i:ps[k]? = some (ps[k]):=List.getElem?_eq_getElem (by omega);rw[qa7,i];obtain⟨y,z,C,D⟩:=q1m h i o q t (by rw[(qcm N ps k).2.2.2];exact h.sw);refine⟨y,z,C,fun j x=> ?_⟩;rcases D j x with e | ⟨rfl,e⟩
  ·exact v j e
  ·exact .inr ⟨_,i,e⟩
theorem NFs.swept(h:NFs G w0 w g F caps dr n N R m ps)(D:NodM G w' g (qa7 N ps ps.length) R m ps)(u:qq w0 w'):NFs G w0 w' g F caps dr n (qa7 N ps ps.length) R m ps:=by
 obtain⟨z,J,C,v⟩:=qon h ps.length (Nat.le_refl _);obtain⟨K,E,H,I⟩:=qcm N ps ps.length;refine⟨D,h.gw,u,by rw[E];exact h.sh,by rw[I];exact h.sw,by rw[H];exact h.dN,h.dR,h.len,h.cl,h.pe,?_,?_,z,C,h.F⟩
 ·intro i p y t;rcases v i t with e | ⟨q,o,e⟩
  ·exact h.swp i p y e
  ·rw[y] at o;obtain rfl:=Option.some.inj o;exact e
 ·intro i x t;rcases v i t with e | ⟨q,o,e⟩
  ·exact h.swf i x e
  ·rw[List.getElem?_eq_none x] at o;cases o
theorem NFs.drained(h:NFs G w0 w g F caps dr n N R m ps)(i:NodM G w' g N.drain R.drain m ps)(u:qq w0 w'):NFs G w0 w' g F caps true n N.drain R.drain m ps :=
 ⟨i,h.gw,u,h.sh,h.sw,rfl,rfl,h.len,h.cl,h.pe,h.swp,h.swf,h.fn,h.tot,h.F⟩
theorem NFs.opened(h:NFs G w0 w g F caps dr n N R m ps){ch t o:Int}(T:0≤ch∧ch<256)(W:0≤o)(X:o≤N.funds)(V:(SetupV.of ch t o).may)(Y:ps.length<8){v:Value}{k:Nat}{C:Nat→Prop}(P:NodM G w' g {N with funds:=N.funds-o} {R with peers:=v} m (ps++[⟨ch,k,C,.new (Ch.new (.of ch t o))⟩]))(u:qq w0 w'):NFs G w0 w' g F (caps++[t]) dr n {N with funds:=N.funds-o} {R with peers:=v} m (ps++[⟨ch,k,C,.new (Ch.new (.of ch t o))⟩]):=by
 have y:∀(j:Nat) (q:PeL),(ps++[⟨ch,k,C,.new (Ch.new (.of ch t o))⟩])[j]? = some q→ps[j]? = some q∨(j=ps.length∧q=⟨ch,k,C,.new (Ch.new (.of ch t o))⟩):=by
  intro j q e;by_cases H:j<ps.length
  ·rw[List.getElem?_append_left H] at e;exact .inl e
  ·rw[List.getElem?_append_right (by omega)] at e;have I:j-ps.length=0:=by
    have:=(List.getElem?_eq_some_iff.1 e).1;simpa using this
   rw[I] at e;exact .inr ⟨by omega,(by simpa using e:_=q).symm⟩
 have E:(ps++[(⟨ch,k,C,.new (Ch.new (.of ch t o))⟩:PeL)]).length=ps.length+1:=by rw[List.length_append,List.length_singleton]
 have D:LkF t n (.new (Ch.new (.of ch t o))):=by
  have O:LkF t 0 (.new (Ch.new (.of ch t o))):=⟨.new T V W,.new _,⟨0,rfl,Nat.le_refl _⟩,fun _=>rfl⟩;exact O.mono (Nat.zero_le _)
 refine⟨P,h.gw,u,h.sh,h.sw,h.dN,h.dR,by rw[E];omega,by rw[E,List.length_append,h.cl];rfl,?_,?_,?_,?_,?_,h.F⟩
 ·intro i p c z x;rcases y i p z with z | ⟨rfl,rfl⟩
  ·rw[List.getElem?_append_left (by rw[h.cl];exact(List.getElem?_eq_some_iff.1 z).1)] at x;exact h.pe i p c z x
  ·rw[List.getElem?_append_right (by rw[h.cl];exact Nat.le_refl _),h.cl,Nat.sub_self] at x;obtain rfl:t=c:=by simpa using x
   exact D
 ·intro i p z J;rcases y i p z with z | ⟨rfl,-⟩
  ·exact h.swp i p z J
  ·exact absurd J (h.swf _ (Nat.le_refl _))
 ·intro i U;rw[E] at U;exact h.swf i (by omega)
 ·show 0≤N.funds-o;omega
 ·rw[E,qci];have K:qci (qdh {N with funds:=N.funds-o} (ps++[⟨ch,k,C,.new (Ch.new (.of ch t o))⟩])) ps.length=qci (qdh N ps) ps.length:=qfs _ fun j H=>by
   unfold qdh;rw[List.getElem?_append_left H]
  have M:qdh {N with funds:=N.funds-o} (ps++[⟨ch,k,C,.new (Ch.new (.of ch t o))⟩]) ps.length=o:=by
   unfold qdh;rw[if_neg (h.swf _ (Nat.le_refl _)),List.getElem?_append_right (Nat.le_refl _),Nat.sub_self];show o+0=o;omega
  have Z:=h.tot;rw[K,M];show N.funds-o+_=F;omega
theorem q2d{b:Bool}{xs:List Live}(h:∀x∈xs,OurF x):qe2 true b xs=xs.map (fun x=>x.h.amount):=by
 unfold qe2
 induction xs with
 | nil=>rfl
 | cons x xs o =>
  have e:qho true b x=some x.h.amount:=by
   unfold qho;rw[(h x (List.mem_cons_self ..)).own];rfl
  rw[List.filterMap_cons_some e,o (fun y i=>h y (List.mem_cons_of_mem _ i))];rfl
theorem qyo:∀(xs:List Live) (a:Int),0≤a→(∀x∈xs,OurF x)→a+qde xs≤18446744073709551615→qcu (xs.map fun x=>x.h.amount) a=a+qde xs
 | [],a,q,h,o=>by
  show a=a+0;omega
 | x::xs,a,q,h,o=>by
  have v:=(h x (List.mem_cons_self ..)).amt;have t:=qlv (fun y i=>h y (List.mem_cons_of_mem x i));rw[qde] at o;show qcu (xs.map fun x=>x.h.amount) (IntKind.u64.wrap (a+x.h.amount))=_;rw[qdl (by omega) (by omega),qyo xs _ (by omega) (fun y i=>h y (List.mem_cons_of_mem x i)) (by omega),qde];omega
theorem ChF.pend{cap:Int}{c:Ch}(h:ChF cap n c)(b:Bool):qcu (qe2 true b c.xs) 0=qde c.xs:=by
 have:=h.bnd;rw[q2d h.own,qyo _ 0 (Int.le_refl _) h.own (by omega)];omega
structure RowF(cap:Int)(r:RowV):Prop where
 ch:0≤r.ch∧r.ch<256
 loc:0≤r.loc
 rem:0≤r.rem
 pend:0≤r.pend
 capb:cap≤1125899906842624
 open_:r.closed=false→r.loc+r.rem+r.pend=cap
 shut:r.closed=true→r.loc=0∧r.rem=0∧r.pend=0
theorem NFs.rowF(h:NFs G w0 w g F caps dr n N R m ps){i:Nat}{c:Int}(x:caps[i]? = some c):RowF c (qjx N ps i)∧∀p,ps[i]? = some p→(qjx N ps i).ch=p.L.c.s.ch:=by
 have E:i<ps.length:=by have:=(List.getElem?_eq_some_iff.1 x).1;rw[←h.cl];exact this
 have t:ps[i]? = some (ps[i]):=List.getElem?_eq_getElem E;have o:=(h.pe i _ c t x).c;have D:=o.bnd;have y:=o.loc;have z:=o.rem;have C:=o.tot;have v:=o.capb;refine⟨?_,fun p q=> ?_⟩
 ·unfold qjx;rw[t];simp only;split
  ·exact⟨o.chb,Int.le_refl _,Int.le_refl _,Int.le_refl _,v.2,(fun e=>by cases e),fun _=>⟨rfl,rfl,rfl⟩⟩
  ·rw[o.pend];exact⟨o.chb,y,z,D.1,v.2,fun _=>C,fun e=>by cases e⟩
 ·rw[t] at q;obtain rfl:=Option.some.inj q;unfold qjx;rw[t];simp only;split<;>rfl
theorem NFs.total(h:NFs G w0 w g F caps dr n N R m ps):∀k,k≤ps.length→qhl (qor N ps) N.funds k=N.funds+qci (qdh N ps) k
 | 0,_=>by show N.funds=N.funds+0;omega
 | k+1,J=>by
  have z:=h.total k (by omega);have x:ps[k]? = some (ps[k]):=List.getElem?_eq_getElem (by omega);obtain⟨c,I,v⟩:=h.at x;have H:=v.c.bnd;have y:=v.c.loc;have i:=qi6 (f:=qdh N ps) (k:=k+1) ps.length (by omega) (fun j _=>h.hasP_ge j);have E:=qj7 (f:=qdh N ps) k (fun j _=>h.hasP_ge j);have K:=h.tot;have C:=h.F;have D:=h.fn;rw[qhl];rw[qci] at i;rw[qci];by_cases q:N.swept[k]? = some true
  ·have t:qor N ps k=none:=by unfold qor;rw[if_pos q]
   have o:qdh N ps k=0:=by unfold qdh;rw[if_pos q]
   rw[t,o];show qhl (qor N ps) N.funds k=_;rw[z];omega
  ·have o:qdh N ps k=ps[k].L.c.loc+qde ps[k].L.c.xs:=by unfold qdh;rw[if_neg q,x];rfl
   have t:qor N ps k=some (ps[k].L.c.loc+qde ps[k].L.c.xs):=by
    unfold qor;rw[if_neg q,x,Option.map_some,v.c.pend,qdl (by omega) (by omega)]
   rw[t,o];rw[o] at i;show IntKind.u64.wrap (qhl (qor N ps) N.funds k+_)=_;rw[z,qdl (by omega) (by omega)];omega
theorem NFs.totalF(h:NFs G w0 w g F caps dr n N R m ps):qhl (qor N ps) N.funds ps.length=F:=by rw[h.total _ (Nat.le_refl _)];exact h.tot
end
def qjp:List Int:=1::List.replicate 31 0
theorem qko:qjp.length=32:=rfl
theorem qlo:qbt qjp:=by
 intro b i;rcases List.mem_cons.1 i with rfl | i
 ·decide
 ·rw[List.eq_of_mem_replicate i];decide
def NFU(G:Nat→Prop)(w0 w:World)(g:Nat)(F:Int)(caps:List Int)(dr:Bool)(n:Nat)(i:Int):Prop:=∃N R m ps,NFs G w0 w g F caps dr n N R m ps∧N.funds=i
section
variable {G:Nat→Prop}{w0 w w':World}{g:Nat}{F:Int}{caps:List Int}{dr:Bool}{n:Nat}{N:NodeV}{R:RelV}{m:Nat}{ps:List PeL}
theorem NF.toU(h:NF G w0 w g F caps dr n):∃i,NFU G w0 w g F caps dr n i:=by
 obtain⟨N,R,m,ps,h⟩:=h;exact⟨_,N,R,m,ps,h,rfl⟩
theorem NFU.toF{i:Int}(h:NFU G w0 w g F caps dr n i):NF G w0 w g F caps dr n:=by
 obtain⟨N,R,m,ps,h,-⟩:=h;exact⟨N,R,m,ps,h⟩
theorem NFU.new{i:Int}(h:NFU G w0 w g F caps dr n i)(u:qq w w'):NFU G w0 w' g F caps dr n i:=by
 obtain⟨N,R,m,ps,h,e⟩:=h;exact⟨N,R,m,ps,h.new u,e⟩
theorem NFs.skip{G' T:Nat→Prop}(h:NFs G w0 w g F caps dr n N R m ps)(u:Upd T w w')(i:∀b,T b→¬G b∧w0.heap.size≤b)(v:∀b,b<w.heap.size→G b→G' b)(t:∀b,w'.heap.size≤b→G' b)(x:∀b,G' b→w0.heap.size≤b):NFs G' w0 w' g F caps dr n N R m ps:=⟨h.nod.skip u (fun b o=>(i b o).1) v t,x,h.n0.then u (fun b o q=>by have:=(i b q).2;omega),h.sh,h.sw,h.dN,h.dR,h.len,h.cl,h.pe,h.swp,h.swf,h.fn,h.tot,h.F⟩
theorem NFU.skip{i:Int}{G' T:Nat→Prop}(h:NFU G w0 w g F caps dr n i)(u:Upd T w w')(o:∀b,T b→¬G b∧w0.heap.size≤b)(t:∀b,b<w.heap.size→G b→G' b)(q:∀b,w'.heap.size≤b→G' b)(v:∀b,G' b→w0.heap.size≤b):NFU G' w0 w' g F caps dr n i:=by
 obtain⟨N,R,m,ps,h,e⟩:=h;exact⟨N,R,m,ps,h.skip u o t q v,e⟩
theorem NF.skip{G' T:Nat→Prop}(h:NF G w0 w g F caps dr n)(u:Upd T w w')(i:∀b,T b→¬G b∧w0.heap.size≤b)(q:∀b,b<w.heap.size→G b→G' b)(o:∀b,w'.heap.size≤b→G' b)(t:∀b,G' b→w0.heap.size≤b):NF G' w0 w' g F caps dr n:=by
 obtain⟨N,R,m,ps,h⟩:=h;exact⟨N,R,m,ps,h.skip u i q o t⟩
theorem NF.n0(h:NF G w0 w g F caps dr n):qq w0 w:=by
 obtain⟨N,R,m,ps,h⟩:=h;exact h.n0
theorem NF.mono{i:Nat}(h:NF G w0 w g F caps dr n)(o:n≤i):NF G w0 w g F caps dr i:=by
 obtain⟨N,R,m,ps,h⟩:=h;exact⟨N,R,m,ps,h.mono o⟩
theorem NFU.few{i:Int}(h:NFU G w0 w g F caps dr n i):caps.length≤8∧0≤i∧i≤F∧F≤1125899906842624:=by
 obtain⟨N,R,m,ps,h,rfl⟩:=h;have o:=h.tot;have q:=qj7 (f:=qdh N ps) ps.length (fun j _=>h.hasP_ge j);exact⟨by rw[h.cl];exact h.len,h.fn,by omega,h.F⟩
theorem NFs.ap(q:Tb w0)(h:NFs G w0 w g F caps dr n N R m ps){i:Nat}{p:PeL}(t:ps[i]? = some p):Apart p.S:=by
 have o:=fun b e=>h.gw b (h.nod.geS i p t b e)
 obtain⟨a,b,c,d,e⟩:=q.lt;exact⟨fun h=>by have:=o _ h;omega,fun h=>by have:=o _ h;omega,fun h=>by have:=o _ h;omega,fun h=>by have:=o _ h;omega,fun h=>by have:=o _ h;omega⟩
theorem NFU.funds{i:Int}(h:NFU G w0 w g F caps dr n i):Calls Tryz.prog 38 #[.pointer (some ⟨g,0,none⟩)] w (qae (.int .u64 i) w):=by
 obtain⟨N,R,m,ps,h,rfl⟩:=h;exact qkg g N w h.nod.no
theorem NF.total(h:NF G w0 w g F caps dr n):Calls Tryz.prog 40 #[.pointer (some ⟨g,0,none⟩)] w (qar (.int .u64 F) w):=by
 obtain⟨N,R,m,ps,h⟩:=h;have:=zag _ g N R m ps w h.nod h.len h.sh h.sw;rw[h.totalF] at this;exact this
def qi8(w:World)(v:Value)(caps:List Int):Prop:=(caps.length=0∧v = .slice none 0 0)∨∃G cap,v = .slice (some ⟨G,0,none⟩) caps.length cap∧∀(i:Nat) c,caps[i]? = some c→∃r:RowV,RowF c r∧zt w G (i*5) 5=some r.cells.toArray
theorem NF.list(h:NF G w0 w g F caps dr n):Calls Tryz.prog 39 #[.pointer (some ⟨g,0,none⟩)] w fun e w'=>∃v,e = .returned v∧qi8 w' v caps∧qq w w':=by
 obtain⟨N,R,m,ps,h⟩:=h;refine(q82 _ g N R m ps w h.nod h.len h.sh h.sw).mono ?_;rintro e w' ⟨v,rfl,o,J⟩;refine⟨v,rfl,?_,J⟩;by_cases E:ps.length=0
 ·rcases o.2 with ⟨e,-⟩ | ⟨G,cap,D,e,-⟩
  ·exact .inl ⟨h.cl.trans E,e⟩
  ·refine .inr ⟨G,cap,by rw[h.cl];exact e,fun i c t=> ?_⟩;have:=(List.getElem?_eq_some_iff.1 t).1;rw[h.cl] at this;omega
 ·have C:((List.range ps.length).map (qjx N ps)).length=ps.length:=by rw[List.length_map,List.length_range]
  have q:∀i,i<ps.length→((List.range ps.length).map (qjx N ps))[i]? = some (qjx N ps i):=fun i x=>by
   rw[List.getElem?_map,List.getElem?_range x];rfl
  obtain⟨G,cap,e,-,-⟩:=qkr RowV.cells 5 RowV.len o C.symm (q 0 (by omega));refine .inr ⟨G,cap,by rw[h.cl];exact e,fun i c t=> ?_⟩;have x:i<ps.length:=by rw[←h.cl];exact(List.getElem?_eq_some_iff.1 t).1
  obtain⟨G',y,z,-,I⟩:=qkr RowV.cells 5 RowV.len o C.symm (q i x);rw[e] at z;have H:G'=G:=by
   injection z with e1 e2 e3;injection e1 with e1;injection e1 with e1 e2 e3;exact e1.symm
  exact⟨_,(h.rowF t).1,by rw[←H];exact I⟩
theorem NF.close(C:Tb w0)(K:n≤100000)(h:NF G w0 w g F caps dr n)(o:Int):Calls Tryz.prog 36 #[.pointer (some ⟨g,0,none⟩),.int .i64 o] w fun e w'=>∃y:Int,e = .returned (.int .i64 y)∧(y=180↔¬(0≤o∧o<(caps.length:Int)))∧NF G w0 w' g F caps dr (n+1)∧Upd G w w':=by
 obtain⟨N,R,m,ps,h⟩:=h;by_cases E:o<0∨(ps.length:Int)≤o
 ·refine(qvs _ g N R m ps w h.nod o E).mono ?_;rintro e w' ⟨rfl,D⟩;exact⟨_,rfl,⟨fun _=>by rw[h.cl];omega,fun _=>rfl⟩,⟨N,R,m,ps,(h.new D).mono (by omega)⟩,D.mono (fun _ _ h=>h.elim)⟩
 ·obtain⟨i,rfl⟩:=Int.eq_ofNat_of_zero_le (show 0≤o by omega);obtain⟨p,q⟩:∃p,ps[i]? = some p:=⟨_,List.getElem?_eq_getElem (by omega)⟩;obtain⟨c,I,z⟩:=h.at q;have t:=h.ap C q;refine(qze _ g N R m ps w h.nod h.sh i p q h.len (z.lb.ok (by omega)) (qj2 z.c.ch32) (C.tabs.new h.n0) ⟨t.c,t.d⟩).mono ?_;rintro e w' ⟨rfl,H,x,u⟩;have J:p.L.c.shut.2.2=0∨p.L.c.shut.2.2=4:=by
   unfold Ch.shut;split
   ·exact .inr rfl
   ·exact .inl rfl
  refine⟨_,rfl,⟨fun e=>by omega,fun e=>by rw[h.cl] at e;omega⟩,?_,u⟩;have v:∀d,caps[i]? = some d→StepF d (n+1) p.L p.L.shut:=fun d hd=>(h.pe i p d q hd).shut
  unfold NodeV.closesAt at x;split at x
  ·exact⟨_,R,m,_,h.stepS q (by omega) (by rw[List.length_set];exact h.sh) x u v⟩
  ·exact⟨_,R,m,_,h.step q (by omega) x u v⟩
theorem NF.sweep(h:NF G w0 w g F caps dr n):Calls Tryz.prog 33 #[.pointer (some ⟨g,0,none⟩)] w fun e w'=>(∃k:Int,e = .returned (.int .i64 k))∧NF G w0 w' g F caps dr n∧Upd G w w':=by
 obtain⟨N,R,m,ps,h⟩:=h;refine(zad _ g N R m ps w h.nod h.len h.sh h.sw).mono ?_;rintro e w' ⟨t,q,u⟩;have v:=h.nod.ge.1;have o:Upd G w w':=u.mono (fun i _ e=>by rw[e];exact v);exact⟨t,⟨_,R,m,ps,h.swept q (h.then o)⟩,o⟩
theorem NF.drain(h:NF G w0 w g F caps dr n):Calls Tryz.prog 41 #[.pointer (some ⟨g,0,none⟩)] w fun e w'=>e = .returned (.int .i64 (if dr=true then 4 else 0))∧NF G w0 w' g F caps true n∧Upd G w w':=by
 obtain⟨N,R,m,ps,h⟩:=h;refine(q9r _ g N R m ps w h.nod).mono ?_;rintro e w' (⟨hd,rfl,i⟩ | ⟨hd,rfl,o,u⟩)
 ·have e:dr=true:=h.dN.symm.trans hd;subst e;exact⟨rfl,⟨N,R,m,ps,h.new i⟩,i.mono (fun _ _ h=>h.elim)⟩
 ·have e:dr=false:=h.dN.symm.trans hd;subst e;exact⟨rfl,⟨_,_,m,ps,h.drained o (h.then u)⟩,u⟩
theorem NF.pay(y:Tb w0)(W:n≤100000)(h:NF G w0 w g F caps dr n)(H:Int)(a:Nat)(I:a<2 ^ (8*8)):Calls Tryz.prog 37 #[.pointer (some ⟨g,0,none⟩),.int .i64 H,.int .u64 (a:Int),.agg (qw qjp).toArray,.int .i64 9] w fun e w'=>∃id x:Int,e = .returned (.tuple #[.int .u64 id,.int .i64 x])∧(dr=true→x=200)∧NF G w0 w' g F caps dr (n+1)∧Upd G w w':=by
 obtain⟨N,R,m,ps,h⟩:=h;have t:∀ {i:Nat} {p:PeL},ps[i]? = some p→(p.L.c.offer a (qbq qjp) 9).2.2=0→SayOk (p.L.c.offer a (qbq qjp) 9).2.1:=fun {i p} o D=>by
  obtain⟨c,z,q⟩:=h.at o;have V:=q.c.bnd;have K:=q.c.nxt;have v:=D;rw[q0w] at v;unfold qbf at v;split at v
  ·omega
  split at v
  ·omega
  split at v
  ·omega
  split at v
  ·omega
  split at v
  ·omega
  exact q0x qko qlo q.c.ch32 ⟨K.1,by omega⟩ ⟨by omega,by omega⟩ (by decide) D
 have J:∀(i:Nat) (p:PeL),ps[i]? = some p→OfferOk p.L a 9 9 qjp:=fun i p o=>by
  obtain⟨c,z,q⟩:=h.at o;have T:=q.c.news;have U:=q.c.few;exact⟨(q.lb.ok (by omega)).toW,q.lb.waits,⟨by omega,by omega⟩,t o⟩
 refine(za7 _ g N R m ps a 9 9 qjp w h.nod h.sh H h.len J qko qlo I (by decide) (by decide) (by decide) (y.tabs.new h.n0) (fun i p o=>⟨(h.ap y o).c,(h.ap y o).d⟩)).mono ?_;rintro e w' ⟨id,x,rfl,hd,M,E,C,u⟩;refine⟨id,x,rfl,fun e=>hd (h.dR.trans e),?_,u⟩;rcases C with rfl | ⟨i,p,P,O,o,rfl,rfl⟩
 ·exact⟨N,R,m,_,E,h.gw,h.then u,h.sh,h.sw,h.dN,h.dR,h.len,h.cl,fun i p c o z=>(h.pe i p c o z).mono (by omega),h.swp,h.swf,h.fn,h.tot,h.F⟩
 ·exact⟨N,R,m,_,h.step o (by omega) E u (fun d hd=>(h.pe i p d o hd).offer (by omega) a 9 9 qjp qko (t o))⟩
def zat(G:Nat→Prop)(w0 w w':World)(g:Nat)(F:Int)(caps:List Int)(dr:Bool)(n:Nat)(q v o:Int)(t i:Int):Prop :=
 (i=0∧dr=false∧o≤q∧t=(caps.length:Int)∧caps.length<8∧NFU G w0 w' g F (caps++[v]) dr n (q-o)∧Upd G w w') ∨
 (i≠0∧(dr=true→i=200)∧(dr=false→o≤v→q<o→i=61)∧NFU G w0 w' g F caps dr n q∧qq w w')
theorem NFU.open_{D:Int}(h:NFU G w0 w g F caps dr n D)(ch q o:Int)(H:0≤ch∧ch<256)(C:0≤q∧q<18446744073709551616)(I:0≤o∧o<18446744073709551616):Calls Tryz.prog 32 #[.pointer (some ⟨g,0,none⟩),.agg (SetupV.of ch q o).cells.toArray] w fun e w'=>∃i y:Int,e = .returned (.tuple #[.int .i64 i,.int .i64 y])∧zat G w0 w w' g F caps dr n D q o i y:=by
 have V:=h.few;obtain⟨N,R,m,ps,h,rfl⟩:=h;refine(za8 _ g N R m ps w h.nod h.len (.of ch q o) (q84 ch q o ⟨H.1,by omega⟩ C I) ⟨h.fn,by omega⟩).mono ?_;rintro e w' ⟨i,y,rfl,K,M,O⟩;refine⟨i,y,rfl,?_⟩;rcases O with ⟨z,J⟩ | ⟨z,hd,t,T,E,x,v,k,U,P,u⟩
 ·exact .inr ⟨z,fun e=>K (h.dN.trans e),fun e a b=>M (h.dN.trans e) a b,⟨N,R,m,ps,h.new J,rfl⟩,J⟩
 ·exact .inl ⟨z,h.dN.symm.trans hd,t,by rw[h.cl];exact x,by rw[h.cl];exact E,⟨_,_,m,_,h.opened H I.1 t T E P (h.then u),rfl⟩,u⟩
theorem qny(g:Nat)(N:NodeV)(w:World)(h:NoR w g N):Calls Tryz.prog 34 #[.pointer (some ⟨g,0,none⟩)] w (qae (.pointer (some ⟨N.re,0,none⟩)) w):=by
 have i:w.cell? ⟨g,0,none⟩=some (.pointer (some ⟨N.re,0,none⟩)):=qk h 0;go_enter Tryz.func34,Tryz.ntmps34;go_wp2;go_ret;exact⟨rfl,Q.refl _⟩
theorem NFs.relay(h:NFs G w0 w g F caps dr n N R m ps):Calls Tryz.prog 34 #[.pointer (some ⟨g,0,none⟩)] w (qae (.pointer (some ⟨N.re,0,none⟩)) w):=qny g N w h.nod.no
theorem NFs.list2(h:NFs G w0 w g F caps dr n N R m ps){i:Nat}{p:PeL}(y:ps[i]? = some p):Calls Tryz.prog 39 #[.pointer (some ⟨g,0,none⟩)] w fun e w'=>∃K cap,e = .returned (.slice (some ⟨K,0,none⟩) caps.length cap)∧w'.cell? ⟨K,i*5,none⟩=some (.int .u32 p.L.c.s.ch)∧qq w w':=by
 refine(q82 _ g N R m ps w h.nod h.len h.sh h.sw).mono ?_;rintro e w' ⟨v,rfl,o,H⟩;have C:=(List.getElem?_eq_some_iff.1 y).1;have D:((List.range ps.length).map (qjx N ps)).length=ps.length:=by rw[List.length_map,List.length_range]
 rcases qjs RowV.cells 5 RowV.len o D.symm with ⟨-,e⟩ | ⟨K,cap,e,-,-,q⟩
 ·have:((List.range ps.length).map (qjx N ps)).length=0:=by rw[e];rfl
  omega
 ·have E:((List.range ps.length).map (qjx N ps))[i]? = some (qjx N ps i):=by
   rw[List.getElem?_map,List.getElem?_range C];rfl
  have z:=q i 0 _ E (by decide);obtain⟨c,t,-⟩:=h.at y;have x:=(h.rowF t).2 p y;refine⟨K,cap,by rw[h.cl,e],?_,H⟩;rw[←x];exact z
theorem NFs.link(h:NFs G w0 w g F caps dr n N R m ps){i:Nat}{p:PeL}(o:ps[i]? = some p):Calls Tryz.prog 35 #[.pointer (some ⟨N.re,0,none⟩),.int .i64 (i:Int)] w (qae (.pointer (some ⟨p.k,0,none⟩)) w):=za5 _ g N R m ps w h.nod h.len i p o
theorem NFs.tick(y:Tb w0)(O:n≤100000)(h:NFs G w0 w g F caps dr n N R m ps){i:Nat}{p:PeL}(q:ps[i]? = some p):Calls Tryz.prog 28 #[.pointer (some ⟨p.k,0,none⟩)] w fun e w'=>(∃C:Int,e = .returned (.int .i64 C))∧NF G w0 w' g F caps dr (n+1)∧Upd p.S w w':=by
 obtain⟨c,M,o⟩:=h.at q;obtain⟨t,z,E⟩:=o.tick;have v:=h.ap y q;have x:0≤p.L.c.k.signed∧p.L.c.k.signed≤65535:=by rw[o.c.sg];split<;>decide
 obtain⟨H,I⟩:=qym o.c.ch32 x;have J:=o.c.news;have K:=o.c.few;refine(zbj p.k p.S p.L [] t w (h.nod.lk i p q) (o.lb.ok (by omega)).toW z (by omega) H I (y.c.new h.n0) v.cc (by rw[o.c.key.1];decide) o.c.ch32 (by omega) (by omega)).mono ?_;rintro e w' ⟨rfl,D,u⟩;refine⟨⟨_,rfl⟩,⟨N,R,m,_,h.step q (by omega) (h.nod.link q u D) (u.mono (fun b _ e=>h.nod.geS i p q b e)) (fun d hd=>(h.pe i p d q hd).tick1 z)⟩,u⟩
theorem NFs.bytes(z:Tb w0)(P:n≤100000)(h:NFs G w0 w g F caps dr n N R m ps){i:Nat}{p:PeL}(o:ps[i]? = some p)(ch:Nat)(O:p.L.c.s.ch=ch):Calls Tryz.prog 24 #[.pointer (some ⟨p.k,0,none⟩),.string (qca ch)] w fun e w'=>(∃H:Int,e = .returned (.int .i64 H))∧NF G w0 w' g F caps dr (n+1)∧Upd p.S w w':=by
 obtain⟨c,K,t⟩:=h.at o;have x:=h.ap z o;have M:=t.c.chb;cases v:p.L.broken with
 | true =>
  refine(qpc p.k p.S p.L [] (qca ch) w (h.nod.lk i p o) t.lb.dead v).mono ?_;rintro e w' ⟨rfl,q⟩;exact⟨⟨_,rfl⟩,⟨N,R,m,ps,(h.new (q.upd _)).mono (by omega)⟩,q.upd _⟩
 | false =>
  obtain⟨D,E,I,y⟩:=t.bytes v P ch (by omega) O;have C:=t.rest v;refine(zaj p.k p.S p.L D [] [] E (qca ch) w (h.nod.lk i p o) t.lb.dead v (by rw[C];decide) (by rw[C];show 0+7≤1000000000;decide) (z.new h.n0) x I).mono ?_;rintro e w' ⟨rfl,J,u⟩;refine⟨⟨_,rfl⟩,⟨N,R,m,_,h.step o (by omega) (h.nod.link o u J) (u.mono (fun b _ e=>h.nod.geS i p o b e)) (fun d hd=> ?_)⟩,u⟩;rw[K] at hd;obtain rfl:=Option.some.inj hd;exact y
end
end Go.Proofs.YtfmkdoachjgjbaaGreatDoor
