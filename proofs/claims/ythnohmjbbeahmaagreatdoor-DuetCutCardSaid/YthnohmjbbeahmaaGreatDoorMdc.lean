/-
  Hear, of any message: Again too.
-/
import Derived.Test.YthnohmjbbeahmaaGreatDoorHAg
import Derived.Test.YthnohmjbbeahmaaGreatDoorMcj
import Derived.Test.YthnohmjbbeahmaaGreatDoorCut
import Derived.Test.YthnohmjbbeahmaaGreatDoorMca
import Derived.Test.YthnohmjbbeahmaaGreatDoorMbg
set_option linter.unusedVariables false
set_option linter.unusedSimpArgs false
namespace Go.Proofs.YthnohmjbbeahmaaGreatDoor
open Go.RowKit
def qd4(w:List MsgV)(m:MsgV)(e:Int):List MsgV:=if e=0 then w++[m] else w
def Ch.again(c:Ch):MsgV:=⟨9,c.s.ch,IntKind.u64.wrap c.k.told,0,qaj,0,c.k.heard+1⟩
noncomputable def Ch.hears(c:Ch)(m:MsgV):Ch × List MsgV × Int :=
 if m.kind=9 then (if qam m=false∨m.ch≠c.s.ch then (c,[],1) else (c,(c.hearAgain m).1,(c.hearAgain m).2)) else c.hear m
theorem q3g(g:Nat)(S:Nat→Prop)(c:Ch)(m:MsgV)(o:MsgOk m)(w:World)(h:ChS w g S c)(hok:qam m=true)(l:m.ch=c.s.ch)(x:m.kind=9)(v:Tb w)(i:c.last.length≤900000) :
  Calls Tryz.prog 41 #[.pointer (some ⟨g,0,none⟩),.agg m.cells.toArray] w (qhp g S w c (c.hearAgain m).1 (c.hearAgain m).2) :=
 qke _ g S c _ _ _ m o w h hok l (enters_of Tryz.func87 (by kernel_rfl) rfl) (fun t=>by rw[x];exact ziy t) (fun W q=>qt9 g S c m o W (h.new q) (v.new q) i)
theorem qpf(g:Nat)(S:Nat→Prop)(c:Ch)(m:MsgV)(q:MsgOk m)(w:World)(h:ChS w g S c)(z:c.Inv)(t:Tb w)(x:Apart S)(D:3≤m.kind∧m.kind≤9)(l:c.last.length≤900000) :
  Calls Tryz.prog 41 #[.pointer (some ⟨g,0,none⟩),.agg m.cells.toArray] w (qhp g S w (c.hears m).1 (c.hears m).2.1 (c.hears m).2.2):=by
 by_cases o:m.kind=9
 ·by_cases i:qam m=false∨m.ch≠c.s.ch
  ·have e:c.hears m=(c,[],1):=by unfold Ch.hears;rw[if_pos o,if_pos i]
   rw[e];refine(q0a g S c m q w h i).mono ?_;rintro e w' ⟨y,v⟩;exact⟨_,y,qc5.nil _ _,(h.new v).frW,v.mono (fun _ _ h=>h.elim)⟩
  ·have e:c.hears m=(c,(c.hearAgain m).1,(c.hearAgain m).2):=by unfold Ch.hears;rw[if_pos o,if_neg i]
   rw[e];have hok:qam m=true:=by
    cases C:qam m with
    | true=>rfl
    | false=>exact absurd (.inl C) i
   exact q3g g S c m q w h hok (Decidable.of_not_not (fun e=>i (.inr e))) o t l
 ·have e:c.hears m=c.hear m:=by unfold Ch.hears;rw[if_neg o]
  rw[e];exact zbv g S c m q w h z t x (by omega)
def Pr.en(P:Pr)(k:Nat):Ch:=if k=0 then P.a else P.b
def Pr.set(P:Pr)(k:Nat)(c:Ch):Pr:=if k=0 then {P with a:=c} else {P with b:=c}
def Pr.way(P:Pr)(k:Nat):List MsgV:=if k=0 then P.wa else P.wb
def Pr.say(P:Pr)(k:Nat)(m:MsgV)(e:Int):Pr:=if k=0 then {P with wb:=qd4 P.wb m e} else {P with wa:=qd4 P.wa m e}
noncomputable def Pr.heard0(P:Pr):Pr × Bool:=match P.wa with
 | []=>(P,false)
 | m::ms=>(⟨(P.a.hears m).1,P.b,ms,P.wb++(P.a.hears m).2.1,P.bad || decide ((P.a.hears m).2.2≠0)⟩,true)
noncomputable def Pr.heard1(P:Pr):Pr × Bool:=match P.wb with
 | []=>(P,false)
 | m::ms=>(⟨P.a,(P.b.hears m).1,P.wa++(P.b.hears m).2.1,ms,P.bad || decide ((P.b.hears m).2.2≠0)⟩,true)
noncomputable def Pr.heard(P:Pr)(k:Nat):Pr × Bool:=if k=0 then P.heard0 else P.heard1
structure HeardOk(c:Ch)(m:MsgV)(other:List MsgV):Prop where
 inv:c.Inv
 kind:3≤m.kind∧m.kind≤9
 says:∀l∈(c.hears m).2.1,MsgOk l
 few:other.length+(c.hears m).2.1.length≤1000000
 last:c.last.length≤900000
def qwn(c:Ch)(w other:List MsgV):Prop:=match w with | []=>True | m::ms=>MsgOk m∧HeardOk c m other∧ms.length<1000000
def Pr.Hok(P:Pr)(k:Nat):Prop:=if k=0 then qwn P.a P.wa P.wb else qwn P.b P.wb P.wa
abbrev Kp:=Nat × Array Value × TypeId
def q97(w:World)(q:Kp):Prop:=w.heap[q.1]? = some (.cells q.2.1 q.2.2 (0,0))
section
variable {w0 w w':World}{p:Nat}{g:Nat→Nat}{P P':Pr}{Ks Ks':List Kp}{q r:Kp}{S T:Nat→Prop}
theorem q97.upd(h:q97 w q)(u:Upd T w w')(n:¬T q.1):q97 w' q:=u.old h n
theorem q97.lt(h:q97 w q):q.1<w.heap.size:=qad h
end
section
variable {w0 w:World}{p:Nat}{g:Nat→Nat}{P:Pr}{Ks:List Kp}{k:Nat}
end
def duC(g:Nat→Nat)(u:Nat→Value):List Value:=[.pointer (some ⟨g 0,0,none⟩),.pointer (some ⟨g 1,0,none⟩),u 0,u 1]
def Pr.setWay2(P:Pr)(k:Nat)(w:List MsgV):Pr:=if k=0 then {P with wa:=w} else {P with wb:=w}
def at2{α:Type}(k:Nat)(x:α)(f:Nat→α):Nat→α:=fun j=>if j=k then x else f j
structure DuP(w0 w:World)(p:Nat)(S:Nat→Prop)(P:Pr)(g:Nat→Nat)(T:Nat→Nat→Prop)(u:Nat→Value):Prop where
 at_:w.heap[p]? = some (.cells (duC g u).toArray 80 (0,0))
 en:∀k,k<2→ChS w (g k) (T k) (P.en k)
 row:∀k,k<2→qfk w w0.heap.size (u k) (P.way k)
 ok:∀k,k<2→∀m∈P.way k,MsgOk m
 sep:∀b,T 0 b→¬T 1 b
 pT:∀k,k<2→¬T k p
 uT:∀j k,j<2→k<2→∀b,(u j).ownBlock=some b→¬T k b
 usep:∀b,(u 0).ownBlock=some b→(u 1).ownBlock≠some b
 pS:S p
 tS:∀k,k<2→∀b,T k b→S b
 uS:∀k,k<2→∀b,(u k).ownBlock=some b→S b
 lt:∀b,S b→w0.heap.size≤b∧b<w.heap.size
 n:qq w0 w
def DuD(w0 w:World)(p:Nat)(S:Nat→Prop)(P:Pr):Prop:=∃g T u,DuP w0 w p S P g T u
theorem qbk{k:Nat}(h:k<2):k=0∨k=1:=by omega
section
variable {w0 w w' wD:World}{p:Nat}{S:Nat→Prop}{P:Pr}{g:Nat→Nat}{T:Nat→Nat→Prop}{u:Nat→Value}{k:Nat}
theorem DuP.up(h:DuP w0 w p S P g T u):p<w.heap.size:=qad h.at_
theorem DuP.uP(h:DuP w0 w p S P g T u)(m:k<2):(u k).ownBlock≠some p:=fun e=>by
 obtain⟨-,i,l⟩:=(h.row k m).blk p e;exact qap h.at_ l (by decide) rfl
theorem DuP.new(h:DuP w0 w p S P g T u)(n:qq w w'):DuP w0 w' p S P g T u :=
 ⟨n.old h.at_ (fun h=>h),fun k i=>(h.en k i).new n,fun k i=>(h.row k i).new n,h.ok,h.sep,h.pT,h.uT,h.usep,h.pS,h.tS,h.uS,fun b l=>⟨(h.lt b l).1,Nat.lt_of_lt_of_le (h.lt b l).2 n.size⟩,h.n.trans n⟩
theorem Pr.en_set(P:Pr)(c:Ch){j:Nat}(l:k<2)(i:j<2):(P.set k c).en j=at2 k c P.en j:=by
 rcases qbk l with rfl | rfl<;>rcases qbk i with rfl | rfl<;>rfl
theorem Pr.way_set(P:Pr)(c:Ch)(j:Nat):(P.set k c).way j=P.way j:=by
 unfold Pr.set Pr.way;by_cases h:k=0<;>simp[h]
theorem Pr.way_setWay(P:Pr)(l:List MsgV){j:Nat}(m:k<2)(i:j<2):(P.setWay2 k l).way j=at2 k l P.way j:=by
 rcases qbk m with rfl | rfl<;>rcases qbk i with rfl | rfl<;>rfl
theorem Pr.en_setWay(P:Pr)(l:List MsgV)(j:Nat):(P.setWay2 k l).en j=P.en j:=by
 unfold Pr.setWay2 Pr.en;by_cases h:k=0<;>simp[h]
theorem DuP.op(h:DuP w0 w p S P g T u)(o:k<2){c':Ch}(D:ChS w' (g k) (Fr (T k) w w') c')(U:Upd (T k) w w'):DuP w0 w' p (Fr S w w') (P.set k c') g (at2 k (Fr (T k) w w') T) u:=by
 have E:=U.size;have hd:∀j b,j<2→j≠k→T j b→¬T k b:=fun j b l v m q=>by
  rcases qbk o with rfl | rfl<;>rcases qbk l with rfl | rfl
  ·exact v rfl
  ·exact h.sep b q m
  ·exact h.sep b m q
  ·exact v rfl
 have t:∀j b,j<2→T j b→b<w.heap.size:=fun j b l m=>(h.lt b (h.tS j l b m)).2
 refine⟨U.old h.at_ (h.pT k o),?_,?_,?_,?_,?_,?_,h.usep,.inl h.pS,?_,fun j l b m=> .inl (h.uS j l b m),?_,h.n.then U (fun b m e=>by have:=(h.lt b (h.tS k o b e)).1;omega)⟩
 ·intro j l;rw[P.en_set c' o l];unfold at2;by_cases e:j=k
  ·subst e;rw[if_pos rfl,if_pos rfl];exact D
  ·rw[if_neg e,if_neg e];exact(h.en j l).upd U (fun b m=>hd j b l e m)
 ·intro j l;rw[P.way_set];exact(h.row j l).upd U (fun b m=>h.uT j k l o b m)
 ·intro j l;rw[P.way_set];exact h.ok j l
 ·intro b;unfold at2;rcases qbk o with rfl | rfl
  ·rw[if_pos rfl,if_neg (by decide)];rintro (e | e) z
   ·exact h.sep b e z
   ·have:=t 1 b (by decide) z;omega
  ·rw[if_neg (by decide),if_pos rfl];rintro y (e | e)
   ·exact h.sep b y e
   ·have:=t 0 b (by decide) y;omega
 ·intro j l;unfold at2;by_cases e:j=k
  ·rw[if_pos e];rintro (e | e)
   ·exact h.pT k o e
   ·have:=h.up;omega
  ·rw[if_neg e];exact h.pT j l
 ·intro i j x l b m;unfold at2;have C:=(h.lt b (h.uS i x b m)).2;by_cases e:j=k
  ·rw[if_pos e];rintro (e | e)
   ·exact h.uT i k x o b m e
   ·omega
  ·rw[if_neg e];exact h.uT i j x l b m
 ·intro j l b;unfold at2;by_cases e:j=k
  ·rw[if_pos e];rintro (e | e)
   ·exact .inl (h.tS k o b e)
   ·exact .inr e
  ·rw[if_neg e];exact fun m=> .inl (h.tS j l b m)
 ·rintro b (e | e)
  ·exact⟨(h.lt b e).1,Nat.lt_of_lt_of_le (h.lt b e).2 E⟩
  ·exact⟨by have:=h.n.size;omega,e.2⟩
theorem DuP.putWay(h:DuP w0 w p S P g T u)(x:k<2)(U:Upd (fun b=>(u k).ownBlock=some b) w wD){v:Value}{l:List MsgV}(H:qfk wD w0.heap.size v l)(hv:∀b,v.ownBlock=some b→(u k).ownBlock=some b∨w.heap.size≤b)(O:∀m∈l,MsgOk m) :
  DuP w0 (wD.setCell ⟨p,2+k,none⟩ v) p (Fr S w (wD.setCell ⟨p,2+k,none⟩ v)) (P.setWay2 k l) g T (at2 k v u):=by
 have D:Upd (· = p) wD (wD.setCell ⟨p,2+k,none⟩ v):=(Upd.refl _ _).set1 (2+k) _
 have y:=U.old h.at_ (h.uP x)
 have R:=U.size
 have J:=D.size
 have C:∀b,v.ownBlock=some b→b<wD.heap.size:=fun b o=>by
  obtain⟨-,E,F⟩:=H.blk b o;exact qad F
 have I:v.ownBlock≠some p:=fun e=>by
  obtain⟨-,E,F⟩:=H.blk p e;exact qap y F (by decide) rfl
 refine⟨?_,?_,?_,?_,h.sep,h.pT,?_,?_,.inl h.pS,fun j q b o=> .inl (h.tS j q b o),?_,?_,?_⟩
 ·have:=qah y (2+k) v;rw[this];rcases qbk x with rfl | rfl<;>rfl
 ·intro j q;rw[P.en_setWay];exact((h.en j q).upd U (fun b o e=>h.uT k j x q b e o)).upd D (fun b o e=>h.pT j q (e▸o))
 ·intro j q;rw[P.way_setWay l x q];unfold at2;by_cases e:j=k
  ·rw[if_pos e,if_pos e];exact H.upd D (fun b o e=>I (e▸o))
  ·rw[if_neg e,if_neg e];refine((h.row j q).upd U (fun b o z=> ?_)).upd D (fun b o t=>h.uP q (t▸o));rcases qbk x with rfl | rfl<;>rcases qbk q with rfl | rfl
   ·exact e rfl
   ·exact h.usep b z o
   ·exact h.usep b o z
   ·exact e rfl
 ·intro j q;rw[P.way_setWay l x q];unfold at2;by_cases e:j=k
  ·rw[if_pos e];exact O
  ·rw[if_neg e];exact h.ok j q
 ·intro i j N q b;unfold at2;by_cases e:i=k
  ·rw[if_pos e];intro o M;rcases hv b o with t | t
   ·exact h.uT k j x q b t M
   ·have:=(h.lt b (h.tS j q b M)).2;omega
  ·rw[if_neg e];exact h.uT i j N q b
 ·intro b;unfold at2;rcases qbk x with rfl | rfl
  ·rw[if_pos rfl,if_neg (by decide)];intro o L;rcases hv b o with t | t
   ·exact h.usep b t L
   ·have:=(h.lt b (h.uS 1 (by decide) b L)).2;omega
  ·rw[if_neg (by decide),if_pos rfl];intro K o;rcases hv b o with t | t
   ·exact h.usep b K t
   ·have:=(h.lt b (h.uS 0 (by decide) b K)).2;omega
 ·intro j q b;unfold at2;by_cases e:j=k
  ·rw[if_pos e];intro o;rcases hv b o with t | t
   ·exact .inl (h.uS k x b t)
   ·exact .inr ⟨t,Nat.lt_of_lt_of_le (C b o) J⟩
  ·rw[if_neg e];exact fun o=> .inl (h.uS j q b o)
 ·rintro b (e | e)
  ·exact⟨(h.lt b e).1,by have:=(h.lt b e).2;omega⟩
  ·exact⟨by have:=h.n.size;omega,e.2⟩
 ·exact(h.n.then U (fun b o e=>by have:=(h.lt b (h.uS k x b e)).1;omega)).then D (fun b o e=>by have:=(h.lt p h.pS).1;omega)
theorem DuD.new(h:DuD w0 w p S P)(n:qq w w'):DuD w0 w' p S P:=by
 obtain⟨g,T,u,h⟩:=h;exact⟨g,T,u,h.new n⟩
theorem DuD.n(h:DuD w0 w p S P):qq w0 w:=by
 obtain⟨g,T,u,h⟩:=h;exact h.n
theorem DuD.lt(h:DuD w0 w p S P):∀b,S b→w0.heap.size≤b∧b<w.heap.size:=by
 obtain⟨g,T,u,h⟩:=h;exact h.lt
theorem DuD.wider{i:Nat→Prop}(h:DuD w0 w p S P)(l:∀b,S b→i b)(q:∀b,i b→w0.heap.size≤b∧b<w.heap.size):DuD w0 w p i P:=by
 obtain⟨g,T,u,h⟩:=h;exact⟨g,T,u,h.at_,h.en,h.row,h.ok,h.sep,h.pT,h.uT,h.usep,l _ h.pS,fun k o b m=>l b (h.tS k o b m),fun k o b m=>l b (h.uS k o b m),q,h.n⟩
def DSt(w0 w:World)(p:Nat)(S:Nat→Prop)(w':World)(P:Pr):Prop:=DuD w0 w' p (Fr S w w') P∧Upd S w w'
theorem DSt.refl(h:DuD w0 w p S P):DSt w0 w p S w P:=⟨h.wider (fun _ h=> .inl h) (fun b i=>i.elim (h.lt b) (fun e=>by omega)),Upd.refl _ _⟩
theorem DSt.ofNew(h:DuD w0 w p S P)(n:qq w w'):DSt w0 w p S w' P:=by
 have l:=h.n.size;exact⟨(h.new n).wider (fun _ h=> .inl h) (fun b i=>i.elim (fun e=>⟨(h.lt b e).1,Nat.lt_of_lt_of_le (h.lt b e).2 n.size⟩) (fun e=>⟨by omega,e.2⟩)),n.mono (fun _ _ h=>h.elim)⟩
theorem DSt.trans{m:World}{o l:Pr}(h:DuD w0 w p S P)(a:DSt w0 w p S w' o)(b:DSt w0 w' p (Fr S w w') m l):DSt w0 w p S m l:=by
 have q:=h.n.size;have t:=a.2.size;have v:=b.2.size;refine⟨b.1.wider ?_ ?_,a.2.fr b.2⟩
 ·rintro i ((e | e) | e)
  ·exact .inl e
  ·exact .inr ⟨e.1,by omega⟩
  ·exact .inr ⟨by omega,e.2⟩
 ·rintro i (e | e)
  ·exact⟨(h.lt i e).1,by have:=(h.lt i e).2;omega⟩
  ·exact⟨by omega,e.2⟩
end
theorem DSt.after{w0 w W w':World}{p:Nat}{S:Nat→Prop}{P Q:Pr}(h:DuD w0 w p S P)(n:qq w W)(a:DSt w0 W p S w' Q):DSt w0 w p S w' Q:=by
 have l:=h.n.size;have m:=n.size;have o:=a.2.size;refine⟨a.1.wider (fun b i=>i.imp id (fun e=>⟨by omega,e.2⟩)) ?_,(n.mono (fun _ _ h=>h.elim)).trans a.2⟩;rintro b (e | e)
 ·exact⟨(h.lt b e).1,by have:=(h.lt b e).2;omega⟩
 ·exact⟨by omega,e.2⟩
theorem DSt.then{w0 w w' l:World}{p:Nat}{S:Nat→Prop}{Q:Pr}(a:DSt w0 w p S w' Q)(z:w0.heap.size≤w.heap.size)(i:∀b,S b→w0.heap.size≤b∧b<w.heap.size)(n:qq w' l):DSt w0 w p S l Q:=by
 have o:=a.2.size;have q:=n.size;refine⟨(a.1.new n).wider (fun b m=>m.imp id (fun e=>⟨e.1,by omega⟩)) ?_,a.2.trans (n.mono (fun _ _ h=>h.elim))⟩;rintro b (e | e)
 ·exact⟨(i b e).1,by have:=(i b e).2;omega⟩
 ·exact⟨by omega,e.2⟩
end Go.Proofs.YthnohmjbbeahmaaGreatDoor
namespace Go.Proofs.YthnohmjbbeahmaaGreatDoor
open Go.RowKit Go.Sort
def qiy(I:List Item):Prop:=I.Nodup∧∀x∈I,∀y∈I,¬kl x y→¬kl y x→x=y
theorem qiy.perm{I J:List Item}(h:qiy I)(p:I.Perm J):qiy J:=⟨p.nodup_iff.1 h.1,fun x g y i=>h.2 x (p.symm.subset g) y (p.symm.subset i)⟩
theorem zgx{J:List Item}(h:J.Nodup):∃f:Item→Nat,J.zipIdx=J.map fun x=>(x,f x):=by
 classical
 refine⟨fun x=>if h:∃i,J[i]? = some x then h.choose else 0,?_⟩;apply List.ext_getElem?;intro i;rw[List.getElem?_zipIdx,List.getElem?_map];cases y:J[i]? with
 | none=>rfl
 | some x =>
  have l:∃i,J[i]? = some x:=⟨i,y⟩;have z:=l.choose_spec;have C:l.choose=i:=by
   obtain⟨t,o⟩:=List.getElem?_eq_some_iff.1 z;obtain⟨v,q⟩:=List.getElem?_eq_some_iff.1 y;have w:=List.pairwise_iff_getElem.1 h;refine Decidable.of_not_not fun m=> ?_
   rcases Nat.lt_or_gt_of_ne m with g | g
   ·exact w _ _ t v g (o.trans q.symm)
   ·exact w _ _ v t g (q.trans o.symm)
  simp only[Option.map_some];rw[dif_pos l,C,Nat.zero_add]
theorem qp9{I J X:List Item}(m:qiy I)(p:I.Perm J)(h:qfs I X):qfs J X:=by
 classical
 obtain⟨M,pM,C,rfl⟩:=h;have l:(its M).Perm I:=by
  have:=pM.map (·.1);simpa [its,List.zipIdx_map_fst] using this
 have g:(its M).Nodup:=l.nodup_iff.2 m.1;have i:(its M).Pairwise kl:=by
  unfold its at g ⊢;rw[List.pairwise_map];rw[List.Nodup,List.pairwise_map] at g;refine List.Pairwise.imp_of_mem ?_ (g.and C);rintro a b w y ⟨q,o⟩;rcases o with e | ⟨t,-⟩
  ·exact e
  ·refine Decidable.of_not_not fun v=>q ?_
   exact m.2 a.1 (l.subset (List.mem_map_of_mem w)) b.1 (l.subset (List.mem_map_of_mem y)) v t
 obtain⟨f,z⟩:=zgx (p.nodup_iff.1 m.1);refine⟨(its M).map fun x=>(x,f x),?_,?_,?_⟩
 ·rw[z];exact(l.trans p).map _
 ·show List.Pairwise lt' _;rw[List.pairwise_map];exact i.imp fun h=> .inl h
 ·unfold its;rw[List.map_map];exact(List.map_id _).symm
theorem qm5{I J:List Item}(i:qiy I)(p:I.Perm J):qfr I=qfr J:=by
 classical
 by_cases h:∃X,qfs I X
 ·obtain⟨X,g⟩:=h;rw[←qtw g,←qtw (qp9 i p g)]
 ·have l:¬ ∃X,qfs J X:=fun⟨X,g⟩=>h ⟨X,qp9 (i.perm p) p.symm g⟩
  unfold qfr;rw[dif_neg h,dif_neg l]
theorem q96(a n m:Int):IntKind.u64.wrap (IntKind.u64.wrap (a+n)+m)=IntKind.u64.wrap (IntKind.u64.wrap (a+m)+n):=by
 simp only[IntKind.wrap_u64];omega
theorem q7y(u v:Bool)(n m:Int)(p:Int × Int):qdc v m (qdc u n p)=qdc u n (qdc v m p):=by
 unfold qdc;cases u<;>cases v<;>simp[q96]
theorem q9o(ours:Bool)(p:Int × Int)(x y:Live):qbr ours (qbr ours p x) y=qbr ours (qbr ours p y) x:=by
 unfold qbr;split<;>split<;>(try split)<;>(try split)<;>first | rfl | exact q7y _ _ _ _ _ | skip
theorem qnj(ours:Bool){xs g:List Live}(p:xs.Perm g):(ze ours xs).Perm (ze ours g):=by
 unfold ze;exact(p.filter _).map _
end Go.Proofs.YthnohmjbbeahmaaGreatDoor
namespace Go.Proofs.YthnohmjbbeahmaaGreatDoor
open Go.RowKit
noncomputable def Pr.sign0(P:Pr):Pr:= {P with a:=P.a.sign.1,wb:=if P.a.sign.2.2=0 then P.wb++[P.a.sign.2.1] else P.wb}
noncomputable def Pr.sign1(P:Pr):Pr:= {P with b:=P.b.sign.1,wa:=if P.b.sign.2.2=0 then P.wa++[P.b.sign.2.1] else P.wa}
noncomputable def Pr.round(P:Pr):Pr:=P.hears0.1.hears1.1.sign0.sign1
noncomputable def Pr.went(P:Pr):Bool:=P.hears0.1.hears1.2 || P.hears0.2 || (P.hears0.1.hears1.1.a.sign.2.2==0) || (P.hears0.1.hears1.1.sign0.b.sign.2.2==0)
structure Pr.RoundOk(P:Pr):Prop where
 ok0:P.Ok0
 ok1:P.hears0.1.Ok1
 sg0:SignOk P.hears0.1.hears1.1.a
 sg1:SignOk P.hears0.1.hears1.1.sign0.b
 ms0:MsgOk P.hears0.1.hears1.1.a.sign.2.1
 ms1:MsgOk P.hears0.1.hears1.1.sign0.b.sign.2.1
 few0:P.hears0.1.hears1.1.wb.length<1000000
 few1:P.hears0.1.hears1.1.sign0.wa.length<1000000
inductive Rests:Nat→Pr→Pr→Prop
 | out (P:Pr):Rests 0 P P
 | stop (n:Nat) (P:Pr):P.RoundOk→P.went=false→Rests (n+1) P P.round
 | step (n:Nat) (P Q:Pr):P.RoundOk→P.went=true→Rests n P.round Q→Rests (n+1) P Q
theorem qvc(i:Nat){k p d:Nat}(g:k≤p)(l:p≤d):hiB i d k=hiB i d p++hiB i p k:=by
 unfold hiB;rw[←List.filter_append,←List.reverse_append];congr 2;have e:=List.range'_append_1 (s:=k) (m:=p-k) (n:=d-p);rw[show k+(p-k)=p by omega,show p-k+(d-p)=d-k by omega] at e;exact e.symm
theorem zbz{i p:Nat}(h:∀b,b<p→i.testBit b=false):hiB i p 0=[]:=by
 unfold hiB;rw[List.filter_eq_nil_iff];intro b g;rw[List.mem_reverse,List.mem_range'_1] at g;rw[h b (by omega)];decide
theorem zby{f t d p:Nat}(h:f / 2 ^ p=t / 2 ^ p):hiB f d p=hiB t d p:=by
 unfold hiB;refine List.filter_congr fun b l=> ?_
 rw[List.mem_reverse,List.mem_range'_1] at l;have g:=Nat.testBit_div_two_pow (n:=p) f (b-p);have i:=Nat.testBit_div_two_pow (n:=p) t (b-p);rw[show b-p+p=b by omega] at g i;rw[←g,←i,h]
theorem q86{f:Int}(l:qdd f=true):∀b,b<qbs f→f.toNat.testBit b=false:=by
 intro b g;unfold qbs at g;rw[if_pos l] at g;by_cases i:f.toNat=0
 ·rw[i];exact Nat.zero_testBit b
 ·have q:=qpk l;obtain⟨m,o,-⟩:=Lib.ctzFrom_spec 64 f.toNat (by omega) (by omega);have e:Lib.ctz 64 f.toNat=Lib.ctzFrom 64 f.toNat:=by unfold Lib.ctz;rw[if_neg i]
  rw[e] at g;generalize Lib.ctzFrom 64 f.toNat=z at g o;rw[o,Nat.testBit_two_pow_mul];simp only[Bool.and_eq_false_imp,decide_eq_true_eq];intro h;omega
theorem qzq(h:List Int){f t:Int}(i:qn2 f t=true):qc0 (qcu h f).1 f t=((qcu h t).1,0):=by
 have g:=i;unfold qn2 at g;simp only[Bool.and_eq_true,beq_iff_eq] at g;obtain⟨l,o,hd⟩:=g;have m:=qmq f;unfold qc0 qcu;rw[if_pos i,if_pos l,if_pos o];have e:qdu (qdu h f.toNat 16) t.toNat (qbs f)=qdu h t.toNat 16:=by
  unfold qdu;rw[←List.foldl_append,qvc t.toNat (Nat.zero_le _) m,qvc f.toNat (Nat.zero_le _) m,zbz (q86 l),zby hd,List.append_nil]
 rw[e]
def zkh(h:List Int)(k:KeptV):Prop:=qa7 k.told∧(k.full=true→k.told=(qcu h k.number).1)
def qdb(h:List Int)(ps:List KeptV):Prop:=∀k∈ps,zkh h k
theorem qv9(h:List Int):qdb h (List.replicate 17 .zero):=by
 intro k g;rw[List.eq_of_mem_replicate g];exact⟨qec,fun h=>by cases h⟩
theorem qin(h:List Int)(g:qa7 h)(i:Int):qa7 (qcu h i).1:=by
 unfold qcu;split
 ·exact qn3 h g _ _
 ·exact qec
theorem q34{h:List Int}{i:Int}{k:KeptV}(l:k.told=(qcu h k.number).1):qi6 (qcu h i).1 i k=false:=by
 unfold qi6;cases g:qn2 i k.number with
 | false =>
  have e:qc0 (qcu h i).1 i k.number=(qaj,1):=by unfold qc0;rw[if_neg (by rw[g];decide)]
  rw[e];rfl
 | true =>
  rw[qzq h g,l];simp
theorem q63{i:Int}(h:qdd i=true):qn2 i i=true:=by
 unfold qn2;rw[h];simp
theorem qxt{h:List Int}{i:Int}{ps:List KeptV}(l:qdd i=true)(o:qdb h ps):qfx (qcu h i).1 i ps=0:=by
 have e:qog (qcu h i).1 i (ps.take (qbs i))=none:=by
  unfold qog;rw[List.find?_eq_none];intro k m;cases g:k.full with
  | false=>simp
  | true =>
   rw[q34 ((o k (List.mem_of_mem_take m)).2 g)];decide
 unfold qfx;rw[q63 l,e];rfl
theorem qsn{h:List Int}(l:qa7 h){i:Int}{ps:List KeptV}(g:qdb h ps):qdb h (qmz (qcu h i).1 i ps):=by
 unfold qmz;split
 ·intro k m;rcases List.mem_or_eq_of_mem_set m with e | e
  ·exact g k e
  ·rw[e];exact⟨qin h l i,fun _=>rfl⟩
 ·exact g
section
variable {c:Ch}{m:MsgV}
theorem q5p(l:qam m=true)(g:m.ch=c.s.ch)(i:m.kind=3):c.hear m=((c.hearAdd m).1,[],(c.hearAdd m).2):=by
 unfold Ch.hear;rw[if_neg (by rw[l,g];simp),if_pos i]
theorem q5q(l:qam m=true)(g:m.ch=c.s.ch)(i:m.kind=4):c.hear m=((c.hearFulfill m).1,[],(c.hearFulfill m).2):=by
 unfold Ch.hear;rw[if_neg (by rw[l,g];simp),if_neg (by omega),if_pos i]
theorem zfp(l:qam m=true)(g:m.ch=c.s.ch)(i:m.kind=5):c.hear m=((c.hearFail m).1,[],(c.hearFail m).2):=by
 unfold Ch.hear;rw[if_neg (by rw[l,g];simp),if_neg (by omega),if_neg (by omega),if_pos i]
theorem qq7(l:qam m=true)(g:m.ch=c.s.ch)(i:m.kind=6):c.hear m=c.hearSign m:=by
 unfold Ch.hear;rw[if_neg (by rw[l,g];simp),if_neg (by omega),if_neg (by omega),if_neg (by omega),if_pos i]
theorem qq8(l:qam m=true)(g:m.ch=c.s.ch)(i:m.kind=7):c.hear m=((c.hearRevoke m).1,[],(c.hearRevoke m).2):=by
 unfold Ch.hear;rw[if_neg (by rw[l,g];simp),if_neg (by omega),if_neg (by omega),if_neg (by omega),if_neg (by omega),if_pos i]
theorem zfq(i:qam m=true)(g:m.ch=c.s.ch)(l:m.kind=8):c.hear m=(c.hearShut.1,[],c.hearShut.2):=by
 unfold Ch.hear;rw[if_neg (by rw[i,g];simp),if_neg (by omega),if_neg (by omega),if_neg (by omega),if_neg (by omega),if_neg (by omega)]
end
theorem q7u(l:List Live):∀c:Ch,(∀z∈l,z.state≠9)→l.foldl qbn c=c:=by
 induction l with
 | nil=>intro c _;rfl
 | cons z l i =>
  intro c h;rw[List.foldl_cons,show qbn c z=c by unfold qbn;rw[if_neg (h z (List.mem_cons_self ..))],i c fun y g=>h y (List.mem_cons_of_mem _ g)]
theorem qjb{c:Ch}{ev:Int}{L:List Live}(h:qv ev c.xs=L)(g:∀z∈L,z.state≠9):c.goOn ev = {c with xs:=L} := by
 unfold Ch.goOn;rw[h,q7u L c g];have:qa8 L=L:=by
  unfold qa8;rw[List.filter_eq_self];intro z i;have:=g z i;simpa using this
 rw[this]
theorem qva{c:Ch}{ev:Int}{z:Live}(h:qv ev c.xs=[z])(g:z.state=9):c.goOn ev = {c.give (z.own != z.paid) z.h.amount with xs:=[]} := by
 unfold Ch.goOn;rw[h,List.foldl_cons,List.foldl_nil,show qbn c z=c.give (z.own != z.paid) z.h.amount by unfold qbn;rw[if_pos g]];have:qa8 [z]=[]:=by
  unfold qa8;rw[List.filter_eq_nil_iff];intro y i;rw[List.mem_singleton.1 i,g];decide
 rw[this]
section
variable {s:SetupV}{sg hd no nt x y k:Int}{f1 f2 rv aw:Bool}{L L1 L2:List Live}{z:Live}{sh:List KeptV}{nw la:List MsgV}{T:List Int}
theorem zdt(t:sg≠65535)(o:zv 1 L=true)(l:qv 1 L=L1)(i:∀z∈L1,z.state≠9) :
  (Ch.mk s ⟨sg,hd,false,no,nt,f1,f2,rv⟩ x y L sh nw la).sign=(Ch.mk s ⟨sg+1,hd,true,no,nt,f1,f2,false⟩ x y L1 sh [] (nw++[⟨6,s.ch,0,0,zx false s.key s.ch (sg+1) x y L1,0,sg+1⟩]),⟨6,s.ch,0,0,zx false s.key s.ch (sg+1) x y L1,0,sg+1⟩,0):=by
 have e:qa0 (Ch.mk s ⟨sg,hd,false,no,nt,f1,f2,rv⟩ x y L sh nw la)=0:=by
  unfold qa0;rw[if_neg (by simp),if_neg (by rw[o];simp),if_neg t]
 have g:(Ch.mk s ⟨sg,hd,false,no,nt,f1,f2,rv⟩ x y L sh nw la).signing=Ch.mk s ⟨sg+1,hd,true,no,nt,f1,f2,false⟩ x y L1 sh nw la:=by
  unfold Ch.signing;rw[qjb (L:=L1) l i]
 have q:qbb (Ch.mk s ⟨sg,hd,false,no,nt,f1,f2,rv⟩ x y L sh nw la)=⟨6,0,0,0,zx false s.key s.ch (sg+1) x y L1,0,sg+1⟩:=by
  unfold qbb;rw[g]
 rw[qv2 e,g,q]
 generalize zx false s.key s.ch (sg+1) x y L1=T
 rfl
theorem zdu(c:Ch)(h:c.k.awaits=true∨zv 1 c.xs=false):c.sign=(c,MsgV.zero,5):=by
 refine ql6 ?_ (by decide);unfold qa0;by_cases g:c.k.awaits=true
 ·rw[if_pos g]
 ·rw[if_neg g,if_pos (h.resolve_left g)]
theorem zdl(g:0≤hd):(Ch.mk s ⟨sg,hd+1,aw,no,nt,f1,f2,true⟩ x y L sh nw la).revocation=⟨7,s.ch,0,0,(qcu s.seed (65535-hd)).1,0,hd⟩:=by
 unfold Ch.revocation;have e:(Ch.mk s ⟨sg,hd+1,aw,no,nt,f1,f2,true⟩ x y L sh nw la).secret hd=qcu s.seed (65535-hd):=by
  unfold Ch.secret;rw[if_neg (by show ¬(hd<0∨hd+1≤hd);omega)]
 show (⟨7,s.ch,0,0,((Ch.mk s ⟨sg,hd+1,aw,no,nt,f1,f2,true⟩ x y L sh nw la).secret (hd+1-1)).1,0,hd+1-1⟩:MsgV)=_;rw[show hd+1-1=hd by omega,e]
theorem zb4(D:0≤hd)(C:zv 3 L=true)(o:qv 3 L=L1)(i:∀z∈L1,z.state≠9)(v:qv 4 L1=L2)(l:∀z∈L2,z.state≠9)(w:T=zx true s.peer s.ch (hd+1) x y L1) :
  (Ch.mk s ⟨sg,hd,aw,no,nt,f1,f2,rv⟩ x y L sh nw la).hearSign ⟨6,s.ch,0,0,T,0,hd+1⟩=(Ch.mk s ⟨sg,hd+1,aw,no,nt,f1,f2,true⟩ x y L2 sh nw la,[⟨7,s.ch,0,0,(qcu s.seed (65535-hd)).1,0,hd⟩],0):=by
 have e:qg3 (Ch.mk s ⟨sg,hd,aw,no,nt,f1,f2,rv⟩ x y L sh nw la) ⟨6,s.ch,0,0,T,0,hd+1⟩=false:=by
  unfold qg3;show (T != zx true s.peer s.ch (hd+1) x y (qv 3 L))=false;rw[o,w];exact bne_self_eq_false _
 have g:(Ch.mk s ⟨sg,hd,aw,no,nt,f1,f2,rv⟩ x y L sh nw la).signedBy=Ch.mk s ⟨sg,hd+1,aw,no,nt,f1,f2,true⟩ x y L2 sh nw la:=by
  have q:(Ch.mk s ⟨sg,hd,aw,no,nt,f1,f2,rv⟩ x y L sh nw la).goOn 3=Ch.mk s ⟨sg,hd,aw,no,nt,f1,f2,rv⟩ x y L1 sh nw la:=qjb (L:=L1) o i;have t:(Ch.mk s ⟨sg,hd+1,aw,no,nt,f1,f2,rv⟩ x y L1 sh nw la).goOn 4=Ch.mk s ⟨sg,hd+1,aw,no,nt,f1,f2,rv⟩ x y L2 sh nw la:=qjb (L:=L2) v l;unfold Ch.signedBy;rw[q];show ((Ch.mk s ⟨sg,hd+1,aw,no,nt,f1,f2,rv⟩ x y L1 sh nw la).goOn 4).revokes=_;rw[t];rfl
 rw[qi4 C rfl e,g,zdl D]
theorem zb3(D:0≤hd)(C:zv 3 L=true)(o:qv 3 L=L1)(i:∀z∈L1,z.state≠9)(v:qv 4 L1=[z])(l:z.state=9)(w:T=zx true s.peer s.ch (hd+1) x y L1) :
  (Ch.mk s ⟨sg,hd,aw,no,nt,f1,f2,rv⟩ x y L sh nw la).hearSign ⟨6,s.ch,0,0,T,0,hd+1⟩=(Ch.mk s ⟨sg,hd+1,aw,no,nt,f1,f2,true⟩ (if (z.own != z.paid)=true then IntKind.u64.wrap (x+z.h.amount) else x) (if (z.own != z.paid)=true then y else IntKind.u64.wrap (y+z.h.amount)) [] sh nw la,[⟨7,s.ch,0,0,(qcu s.seed (65535-hd)).1,0,hd⟩],0):=by
 have e:qg3 (Ch.mk s ⟨sg,hd,aw,no,nt,f1,f2,rv⟩ x y L sh nw la) ⟨6,s.ch,0,0,T,0,hd+1⟩=false:=by
  unfold qg3;show (T != zx true s.peer s.ch (hd+1) x y (qv 3 L))=false;rw[o,w];exact bne_self_eq_false _
 have g:(Ch.mk s ⟨sg,hd,aw,no,nt,f1,f2,rv⟩ x y L sh nw la).signedBy=Ch.mk s ⟨sg,hd+1,aw,no,nt,f1,f2,true⟩ (if (z.own != z.paid)=true then IntKind.u64.wrap (x+z.h.amount) else x) (if (z.own != z.paid)=true then y else IntKind.u64.wrap (y+z.h.amount)) [] sh nw la:=by
  have q:(Ch.mk s ⟨sg,hd,aw,no,nt,f1,f2,rv⟩ x y L sh nw la).goOn 3=Ch.mk s ⟨sg,hd,aw,no,nt,f1,f2,rv⟩ x y L1 sh nw la:=qjb (L:=L1) o i;have t:(Ch.mk s ⟨sg,hd+1,aw,no,nt,f1,f2,rv⟩ x y L1 sh nw la).goOn 4=_:=qva (z:=z) v l;unfold Ch.signedBy;rw[q];show ((Ch.mk s ⟨sg,hd+1,aw,no,nt,f1,f2,rv⟩ x y L1 sh nw la).goOn 4).revokes=_;rw[t];unfold Ch.give;cases (z.own != z.paid)<;>rfl
 rw[qi4 C rfl e,g,zdl D]
theorem q5s{c:Ch}{R:List Int}{ch:Int}(g:c.k.awaits=true)(i:c.k.signed=k+1)(l:qfx R (65535-k) c.shelf=0):c.hearRevoke ⟨7,ch,0,0,R,0,k⟩=(((c.shelved ⟨7,ch,0,0,R,0,k⟩).goOn 2).unawait,0):=by
 have e:qkm c ⟨7,ch,0,0,R,0,k⟩=0:=by
  unfold qkm;rw[if_neg (by rw[g];decide),if_neg (by rw[i];show ¬(k≠k+1-1);omega),if_neg (by show ¬(qfx R (65535-k) c.shelf≠0);rw[l];decide)]
 unfold Ch.hearRevoke;rw[if_pos e]
theorem zb2{R:List Int}{ch:Int}(l:qfx R (65535-k) sh=0)(g:qv 2 L=L1)(i:∀z∈L1,z.state≠9) :
  (Ch.mk s ⟨k+1,hd,true,no,nt,f1,f2,rv⟩ x y L sh nw la).hearRevoke ⟨7,ch,0,0,R,0,k⟩=(Ch.mk s ⟨k+1,hd,false,no,nt,f1,f2,rv⟩ x y L1 (qmz R (65535-k) sh) nw la,0):=by
 rw[q5s rfl rfl l]
 rw[qjb (L:=L1) (by exact g) i]
 rfl
theorem zb1{R:List Int}{ch:Int}(l:qfx R (65535-k) sh=0)(g:qv 2 L=[z])(i:z.state=9) :
  (Ch.mk s ⟨k+1,hd,true,no,nt,f1,f2,rv⟩ x y L sh nw la).hearRevoke ⟨7,ch,0,0,R,0,k⟩=(Ch.mk s ⟨k+1,hd,false,no,nt,f1,f2,rv⟩ (if (z.own != z.paid)=true then IntKind.u64.wrap (x+z.h.amount) else x) (if (z.own != z.paid)=true then y else IntKind.u64.wrap (y+z.h.amount)) [] (qmz R (65535-k) sh) nw la,0):=by
 rw[q5s rfl rfl l]
 rw[qva (z:=z) (by exact g) i]
 unfold Ch.give
 cases (z.own != z.paid)<;>rfl
end
structure HearSt(c:Ch)(m:MsgV)(c':Ch)(l:List MsgV):Prop where
 ok:MsgOk m
 eq:c.hear m=(c',l,0)
 inv:c.Inv
 kind:m.kind=3∨m.kind=4∨m.kind=5∨m.kind=6∨m.kind=7∨m.kind=8
 says:∀l'∈l,MsgOk l'
 few:l.length≤1000
structure SignSt(c c':Ch)(M:MsgV)(E:Int):Prop where
 eq:c.sign=(c',M,E)
 sok:SignOk c
 ok:MsgOk M
def qfh(c:Ch)(ws:List MsgV)(c':Ch)(l i:List MsgV)(g:Bool):Prop:=(ws=[]∧c'=c∧l=[]∧i=[]∧g=false)∨(∃m,ws=m::i∧HearSt c m c' l∧g=true)
theorem qfh.no(c:Ch):qfh c [] c [] [] false:= .inl ⟨rfl,rfl,rfl,rfl,rfl⟩
theorem qfh.yes{c c':Ch}{m:MsgV}{l ws:List MsgV}(h:HearSt c m c' l):qfh c (m::ws) c' l ws true:= .inr ⟨m,rfl,h,rfl⟩
section
variable {a b a1 b1 a2 b2:Ch}{wa wb wa1 wb2 l0 l1:List MsgV}{bad g0 g1:Bool}{Ma Mb:MsgV}{Ea Eb:Int}{Q:Pr}{n:Nat}
theorem zjv(h:qfh a wa a1 l0 wa1 g0)(f:wa.length≤1000∧wb.length≤1000):Pr.hears0 ⟨a,b,wa,wb,bad⟩=(⟨a1,b,wa1,wb++l0,bad⟩,g0)∧Pr.Ok0 ⟨a,b,wa,wb,bad⟩:=by
 rcases h with ⟨rfl,rfl,rfl,rfl,rfl⟩ | ⟨m,rfl,h,rfl⟩
 ·exact⟨show _=((⟨a1,b,[],wb++[],bad⟩:Pr),false) by rw[List.append_nil];rfl,trivial⟩
 ·refine⟨?_,h.ok,⟨h.inv,h.kind,?_,?_⟩,?_⟩
  ·show ((⟨(a.hear m).1,b,wa1,wb++(a.hear m).2.1,bad || decide ((a.hear m).2.2≠0)⟩:Pr),true)=_;rw[h.eq];simp
  ·rw[h.eq];exact h.says
  ·have:=h.few;rw[h.eq];show wb.length+l0.length≤_;omega
  ·have:=f.1;rw[List.length_cons] at this;omega
theorem zjw(h:qfh b wb b1 l1 wb2 g1)(f:wa.length≤1000∧wb.length≤1000):Pr.hears1 ⟨a,b,wa,wb,bad⟩=(⟨a,b1,wa++l1,wb2,bad⟩,g1)∧Pr.Ok1 ⟨a,b,wa,wb,bad⟩:=by
 rcases h with ⟨rfl,rfl,rfl,rfl,rfl⟩ | ⟨m,rfl,h,rfl⟩
 ·exact⟨show _=((⟨a,b1,wa++[],[],bad⟩:Pr),false) by rw[List.append_nil];rfl,trivial⟩
 ·refine⟨?_,h.ok,⟨h.inv,h.kind,?_,?_⟩,?_⟩
  ·show ((⟨a,(b.hear m).1,wa++(b.hear m).2.1,wb2,bad || decide ((b.hear m).2.2≠0)⟩:Pr),true)=_;rw[h.eq];simp
  ·rw[h.eq];exact h.says
  ·have:=h.few;rw[h.eq];show wa.length+l1.length≤_;omega
  ·have:=f.2;rw[List.length_cons] at this;omega
theorem q1h(C:qfh a wa a1 l0 wa1 g0)(D:qfh b (wb++l0) b1 l1 wb2 g1)(l:SignSt a1 a2 Ma Ea)(o:SignSt b1 b2 Mb Eb)(f:wa.length≤1000∧wb.length≤1000)(f1:wa1.length≤1000∧(wb++l0).length≤1000)(f2:(wa1++l1).length≤1000∧wb2.length≤1000) :
  (Pr.mk a b wa wb bad).RoundOk∧(Pr.mk a b wa wb bad).round=⟨a2,b2,if Eb=0 then wa1++l1++[Mb] else wa1++l1,if Ea=0 then wb2++[Ma] else wb2,bad⟩∧(Pr.mk a b wa wb bad).went=(g1 || g0 || (Ea==0) || (Eb==0)):=by
 obtain⟨t,E⟩:=zjv (b:=b) (bad:=bad) C f
 obtain⟨v,F⟩:=zjw (a:=a1) (bad:=bad) D f1
 have q:(Pr.mk a b wa wb bad).hears0.1=⟨a1,b,wa1,wb++l0,bad⟩:=by rw[t]
 have g:(Pr.mk a b wa wb bad).hears0.1.hears1.1=⟨a1,b1,wa1++l1,wb2,bad⟩:=by rw[q,v]
 have i:(Pr.mk a1 b1 (wa1++l1) wb2 bad).sign0=⟨a2,b1,wa1++l1,if Ea=0 then wb2++[Ma] else wb2,bad⟩:=by
  unfold Pr.sign0;simp only[l.eq]
 have w:(Pr.mk a2 b1 (wa1++l1) (if Ea=0 then wb2++[Ma] else wb2) bad).sign1=⟨a2,b2,if Eb=0 then wa1++l1++[Mb] else wa1++l1,if Ea=0 then wb2++[Ma] else wb2,bad⟩:=by
  unfold Pr.sign1;simp only[o.eq]
 refine⟨⟨E,?_,?_,?_,?_,?_,?_,?_⟩,?_,?_⟩
 ·rw[q];exact F
 ·rw[g];exact l.sok
 ·rw[g,i];exact o.sok
 ·rw[g];show MsgOk a1.sign.2.1;rw[l.eq];exact l.ok
 ·rw[g,i];show MsgOk b1.sign.2.1;rw[o.eq];exact o.ok
 ·rw[g];show wb2.length<_;omega
 ·rw[g,i];show (wa1++l1).length<_;omega
 ·unfold Pr.round;rw[g,i,w]
 ·unfold Pr.went;rw[g,i,q,v,t];simp only[l.eq,o.eq]
theorem go_round(g:qfh a wa a1 l0 wa1 g0)(i:qfh b (wb++l0) b1 l1 wb2 g1)(v:SignSt a1 a2 Ma Ea)(w:SignSt b1 b2 Mb Eb)(f:wa.length≤1000∧wb.length≤1000)(f1:wa1.length≤1000∧(wb++l0).length≤1000)(f2:(wa1++l1).length≤1000∧wb2.length≤1000)
  (l:(g1 || g0 || (Ea==0) || (Eb==0))=true) (next:Rests n ⟨a2,b2,if Eb=0 then wa1++l1++[Mb] else wa1++l1,if Ea=0 then wb2++[Ma] else wb2,bad⟩ Q):Rests (n+1) ⟨a,b,wa,wb,bad⟩ Q:=by
 obtain⟨o,q,t⟩:=q1h (bad:=bad) g i v w f f1 f2
 exact .step n _ Q o (by rw[t];exact l) (by rw[q];exact next)
theorem go_stop(o:SignSt a a Ma 5)(q:SignSt b b Mb 5):Rests (n+1) ⟨a,b,[],[],bad⟩ ⟨a,b,[],[],bad⟩:=by
 obtain⟨g,i,l⟩:=q1h (a:=a) (b:=b) (wa:=[]) (wb:=[]) (l0:=[]) (l1:=[]) (wa1:=[]) (wb2:=[]) (bad:=bad) (qfh.no a) (qfh.no b) o q ⟨by decide,by decide⟩ ⟨by decide,by decide⟩ ⟨by decide,by decide⟩;have h:=Rests.stop n _ g (by rw[l];rfl);rw[i] at h;exact h
end
end Go.Proofs.YthnohmjbbeahmaaGreatDoor
