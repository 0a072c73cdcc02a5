/-
  The protocol, plain: which events change which views.
-/
import Derived.Test.YthnohmjbbeahmaaGreatDoorMdc
import Derived.Test.YthnohmjbbeahmaaGreatDoorMcj
set_option linter.unusedVariables false
set_option linter.unusedSimpArgs false
namespace Go.Proofs.YthnohmjbbeahmaaGreatDoor
open Go.RowKit
def qy0(xs:List Live):Prop:=∀x∈xs,0≤x.state∧x.state≤9
def qk8(ours:Bool)(ev:Int):Prop:=(ours=false∧(ev=2∨ev=3∨ev=4))∨(ours=true∧(ev=1∨ev=2∨ev=4))
theorem q4z:∀(own:Bool) (s:Fin 10),∀ev:Fin 5,∀ours:Bool,((ours=false∧(ev.val=2∨ev.val=3∨ev.val=4))∨(ours=true∧(ev.val=1∨ev.val=2∨ev.val=4))) →
  qc2 ours own (qx (s.val:Int) own (ev.val:Int))=qc2 ours own (s.val:Int)∧(qc2 ours own (s.val:Int)=false→qen ours own (qx (s.val:Int) own (ev.val:Int))=qen ours own (s.val:Int)):=by decide +kernel
theorem qwe{ours own:Bool}{s ev:Int}(h:qk8 ours ev)(m:0≤s∧s≤9):qc2 ours own (qx s own ev)=qc2 ours own s∧(qc2 ours own s=false→qen ours own (qx s own ev)=qen ours own s):=by
 have l:0≤ev∧ev<5:=by rcases h with ⟨-,e | e | e⟩ | ⟨-,e | e | e⟩<;>omega
 have g:((s.toNat:Nat):Int)=s:=by omega
 have i:((ev.toNat:Nat):Int)=ev:=by omega
 have:=q4z own ⟨s.toNat,by omega⟩ ⟨ev.toNat,by omega⟩ ours (by
  rcases h with ⟨a,e | e | e⟩ | ⟨a,e | e | e⟩
  ·exact .inl ⟨a,.inl (by show ev.toNat=2;omega)⟩
  ·exact .inl ⟨a,.inr (.inl (by show ev.toNat=3;omega))⟩
  ·exact .inl ⟨a,.inr (.inr (by show ev.toNat=4;omega))⟩
  ·exact .inr ⟨a,.inl (by show ev.toNat=1;omega)⟩
  ·exact .inr ⟨a,.inr (.inl (by show ev.toNat=2;omega))⟩
  ·exact .inr ⟨a,.inr (.inr (by show ev.toNat=4;omega))⟩)
 simp only[g,i] at this;exact this
theorem zd9{ours:Bool}{ev:Int}(h:qk8 ours ev){x:Live}(m:0≤x.state∧x.state≤9)(p:Int × Int):qbr ours p (aft ev x)=qbr ours p x:=by
 obtain⟨g,i⟩:=qwe (own:=x.own) h m;unfold qbr;show (if qc2 ours x.own (qx x.state x.own ev)=true then p else if (qen ours x.own (qx x.state x.own ev)&&x.paid)=true then _ else _)=_;rw[g];cases l:qc2 ours x.own x.state with
 | true=>rfl
 | false=>rw[i l];rfl
theorem zeb{ours:Bool}{ev:Int}(h:qk8 ours ev)(l r:Int){xs:List Live}(g:qy0 xs):zw ours l r (qv ev xs)=zw ours l r xs:=by
 unfold zw qv;have key:∀(xs:List Live) (p:Int × Int),qy0 xs→(xs.map (aft ev)).foldl (qbr ours) p=xs.foldl (qbr ours) p:=by
  intro xs
  induction xs with
  | nil=>intro p _;rfl
  | cons x xs m =>
   intro p g;rw[List.map_cons,List.foldl_cons,List.foldl_cons,zd9 h (g x (List.mem_cons_self ..)),m _ (fun y i=>g y (List.mem_cons_of_mem _ i))]
 exact key xs (l,r) g
theorem q8f{ours:Bool}{ev:Int}(h:qk8 ours ev){xs:List Live}(i:qy0 xs):ze ours (qv ev xs)=ze ours xs:=by
 unfold ze qv
 induction xs with
 | nil=>rfl
 | cons x xs g =>
  have g:=g (fun y m=>i y (List.mem_cons_of_mem _ m));have l:qc2 ours (aft ev x).own (aft ev x).state=qc2 ours x.own x.state:=(qwe (own:=x.own) h (i x (List.mem_cons_self ..))).1;rw[List.map_cons,List.filter_cons,List.filter_cons,l];cases qc2 ours x.own x.state with
  | true=>simp only[if_true,List.map_cons];rw[g];rfl
  | false=>simpa using g
theorem qi9(ours:Bool)(y:Live)(L:List Live):∀p:Int × Int,L.foldl (qbr ours) (qbr ours p y)=qbr ours (L.foldl (qbr ours) p) y:=by
 induction L with
 | nil=>intro p;rfl
 | cons x L g =>
  intro p;rw[List.foldl_cons,List.foldl_cons,q9o,g]
theorem qz7(ours own:Bool):qc2 ours own 9=false∧qen ours own 9=true:=by cases ours<;>cases own<;>decide
theorem qu8(c:Ch)(g:Bool)(n:Int):((c.give g n).loc,(c.give g n).rem)=qdc g n (c.loc,c.rem):=by
 unfold Ch.give qdc;cases g<;>rfl
theorem qv4(ours:Bool)(g:List Live):∀c:Ch,zw ours (g.foldl qbn c).loc (g.foldl qbn c).rem (qa8 g)=zw ours c.loc c.rem g:=by
 unfold zw
 induction g with
 | nil=>intro c;rfl
 | cons y g o =>
  intro c;rw[List.foldl_cons,List.foldl_cons];by_cases i:y.state=9
  ·have l:qbn c y=c.give (y.own != y.paid) y.h.amount:=by unfold qbn;rw[if_pos i]
   have m:qa8 (y::g)=qa8 g:=by unfold qa8;rw[List.filter_cons,i];rfl
   have q:qbr ours (c.loc,c.rem) y=qdc (y.own != y.paid) y.h.amount (c.loc,c.rem):=by
    unfold qbr;obtain⟨a1,a2⟩:=qz7 ours y.own;rw[i,a1,a2];cases y.own<;>cases y.paid<;>rfl
   rw[l,m,o,qu8,q]
  ·have l:qbn c y=c:=by unfold qbn;rw[if_neg i]
   have m:qa8 (y::g)=y::qa8 g:=by
    unfold qa8;rw[List.filter_cons];have:(!(y.state==9))=true:=by simpa using i
    rw[this];rfl
   rw[l,m,List.foldl_cons,qi9,o,qi9]
theorem qss(ours:Bool)(i:List Live):ze ours (qa8 i)=ze ours i:=by
 unfold ze qa8;rw[List.filter_filter];congr 1;refine List.filter_congr fun x _=> ?_
 by_cases g:x.state=9
 ·rw[g,(qz7 ours x.own).1];rfl
 ·have:(!(x.state==9))=true:=by simpa using g
  rw[this,Bool.and_true]
theorem q93{ours:Bool}{ev:Int}(h:qk8 ours ev)(c:Ch)(g:qy0 c.xs):zw ours (c.goOn ev).loc (c.goOn ev).rem (c.goOn ev).xs=zw ours c.loc c.rem c.xs∧ze ours (c.goOn ev).xs=ze ours c.xs:=by
 refine⟨?_,?_⟩
 ·show zw ours ((qv ev c.xs).foldl qbn c).loc ((qv ev c.xs).foldl qbn c).rem (qa8 (qv ev c.xs))=_;rw[qv4,zeb h _ _ g]
 ·show ze ours (qa8 (qv ev c.xs))=_;rw[qss,q8f h g]
theorem qo6{ours:Bool}{ev:Int}(h:qk8 ours ev)(key:ByteArray)(ch n:Int)(c:Ch)(l:qy0 c.xs):zx ours key ch n (c.goOn ev).loc (c.goOn ev).rem (c.goOn ev).xs=zx ours key ch n c.loc c.rem c.xs:=by
 obtain⟨g,i⟩:=q93 h c l;unfold zx qiv qiw;rw[g,i]
theorem qsc(ours own:Bool):qc2 ours own 0=false∧qen ours own 0=false:=by cases ours<;>cases own<;>decide
theorem qlm(ours own:Bool):qc2 ours own 4=true∧qc2 ours own 5=true:=by cases ours<;>cases own<;>decide
theorem qpo(ours:Bool)(p:Int × Int){x:Live}(h:x.state=0):qbr ours p x=qdc x.own x.h.amount p:=by
 unfold qbr;obtain⟨a1,a2⟩:=qsc ours x.own;rw[h,a1,a2];rfl
theorem qo1(ours:Bool)(p:Int × Int){x:Live}(h:x.state=4∨x.state=5):qbr ours p x=p:=by
 unfold qbr;obtain⟨a1,a2⟩:=qlm ours x.own;rcases h with h | h
 ·rw[h,a1];rfl
 ·rw[h,a2];rfl
theorem qv6(ours:Bool)(l r:Int)(xs:List Live)(x:Live):zw ours l r (xs++[x])=xs.foldl (qbr ours) (qbr ours (l,r) x):=by
 unfold zw;rw[List.foldl_append,List.foldl_cons,List.foldl_nil,qi9]
theorem zee(ours:Bool){l r:Int}(xs:List Live){x:Live}(h:x.state=0)(i:x.own=true)(g:0≤l∧l<18446744073709551616):zw ours (l-x.h.amount) r (xs++[x])=zw ours l r xs:=by
 rw[qv6,qpo ours _ h,i];unfold qdc zw;simp only[if_true];rw[show l-x.h.amount+x.h.amount=l by omega,qdq g.1 (by omega)]
theorem q4v(ours:Bool){l r:Int}(xs:List Live){x:Live}(h:x.state=0)(g:x.own=false)(i:0≤r∧r<18446744073709551616):zw ours l (r-x.h.amount) (xs++[x])=zw ours l r xs:=by
 rw[qv6,qpo ours _ h,g];unfold qdc zw;simp only[Bool.false_eq_true,if_false];rw[show r-x.h.amount+x.h.amount=r by omega,qdq i.1 (by omega)]
theorem qst(ours:Bool)(xs:List Live){x:Live}(h:x.state=0):ze ours (xs++[x])=ze ours xs:=by
 unfold ze;rw[List.filter_append,List.filter_cons,h,(qsc ours x.own).1];simp
theorem q1w(ours:Bool)(l r:Int){xs:List Live}{i:Nat}{x y:Live}(g:xs[i]? = some x)(m:x.state=4∨x.state=5)(o:y.state=4∨y.state=5):zw ours l r (xs.set i y)=zw ours l r xs:=by
 unfold zw;have key:∀(xs:List Live) (i:Nat) (p:Int × Int),xs[i]? = some x→(xs.set i y).foldl (qbr ours) p=xs.foldl (qbr ours) p:=by
  intro xs
  induction xs with
  | nil=>intro i p h;cases h
  | cons z t q =>
   intro i p h;cases i with
   | zero =>
    rw[List.getElem?_cons_zero] at h;injection h with h;subst h;rw[List.set_cons_zero,List.foldl_cons,List.foldl_cons,qo1 ours p m,qo1 ours p o]
   | succ i =>
    rw[List.set_cons_succ,List.foldl_cons,List.foldl_cons];exact q i _ (by rw[List.getElem?_cons_succ] at h;exact h)
 exact key xs i (l,r) g
theorem qvg(ours:Bool){xs:List Live}{i:Nat}{x y:Live}(g:xs[i]? = some x)(v:x.state=4∨x.state=5)(w:y.state=4∨y.state=5)(t:y.own=x.own)(q:y.h=x.h):ze ours (xs.set i y)=ze ours xs:=by
 have l:qc2 ours x.own x.state=true:=by
  obtain⟨a1,a2⟩:=qlm ours x.own;rcases v with e | e<;>rw[e]<;>assumption
 have m:qc2 ours y.own y.state=true:=by
  obtain⟨a1,a2⟩:=qlm ours y.own;rcases w with e | e<;>rw[e]<;>assumption
 unfold ze
 induction xs generalizing i with
 | nil=>cases g
 | cons z C o =>
  cases i with
  | zero =>
   rw[List.getElem?_cons_zero] at g;injection g with g;subst g;rw[List.set_cons_zero,List.filter_cons,List.filter_cons,l,m];simp only[if_true,List.map_cons];rw[t,q]
  | succ i =>
   rw[List.getElem?_cons_succ] at g;rw[List.set_cons_succ,List.filter_cons,List.filter_cons];cases qc2 ours z.own z.state with
   | true=>simp only[if_true,List.map_cons];rw[o g]
   | false=>simpa using o g
theorem zec(ours:Bool)(g:List Live):∀c:Ch,zw ours (g.foldl zc c).loc (g.foldl zc c).rem (qd1 g)=zw ours c.loc c.rem g:=by
 unfold zw
 induction g with
 | nil=>intro c;rfl
 | cons y g q =>
  intro c;rw[List.foldl_cons,List.foldl_cons];by_cases i:y.state=0
  ·have l:qd1 (y::g)=qd1 g:=by unfold qd1;rw[List.filter_cons,i];rfl
   have m:((zc c y).loc,(zc c y).rem)=qdc y.own y.h.amount (c.loc,c.rem):=by
    rw[←qu8];unfold zc;rw[if_pos i];cases y.own<;>rfl
   rw[l,q,m,qpo ours _ i]
  ·have t:zc c y=c:=by unfold zc;rw[if_neg i]
   have l:qd1 (y::g)=qae y::qd1 g:=by
    unfold qd1;rw[List.filter_cons];have:(!(y.state==0))=true:=by simpa using i
    rw[this];rfl
   have m:∀p,qbr ours p (qae y)=qbr ours p y:=by
    intro p;unfold qae;by_cases o:y.state=5
    ·rw[if_pos o,qo1 ours p (.inr o)];exact qo1 ours p (.inl rfl)
    ·rw[if_neg o]
   rw[t,l,List.foldl_cons,qi9,q,m,qi9]
theorem q8g(ours:Bool)(g:List Live):ze ours (qd1 g)=ze ours g:=by
 unfold ze qd1
 induction g with
 | nil=>rfl
 | cons y g m =>
  have v:(y::g).filter (fun x:Live=>qc2 ours x.own x.state)=if qc2 ours y.own y.state=true then y::g.filter (fun x:Live=>qc2 ours x.own x.state) else g.filter (fun x:Live=>qc2 ours x.own x.state):=List.filter_cons ..;rw[v,List.filter_cons];by_cases o:y.state=0
  ·rw[o,(qsc ours y.own).1];simpa using m
  ·have i:(!(y.state==0))=true:=by simpa using o
   rw[i];simp only[if_true,List.map_cons];rw[List.filter_cons];have q:qc2 ours (qae y).own (qae y).state=qc2 ours y.own y.state:=by
    unfold qae;by_cases l:y.state=5
    ·rw[if_pos l,l,(qlm ours y.own).2];exact(qlm ours y.own).1
    ·rw[if_neg l]
   have t:(⟨(qae y).own==ours,(qae y).h⟩:Item)=⟨y.own==ours,y.h⟩:=by
    unfold qae;split<;>rfl
   rw[q];cases qc2 ours y.own y.state with
   | true=>simp only[if_true,List.map_cons];rw[t,m]
   | false=>simpa using m
theorem qgh{ours:Bool}{l r i m:Int}{xs g:List Live}(key:ByteArray)(ch n:Int)(o:zw ours l r xs=zw ours i m g)(q:ze ours xs=ze ours g):zx ours key ch n l r xs=zx ours key ch n i m g:=by
 unfold zx qiv qiw;rw[o,q]
theorem q16(ours:Bool)(key:ByteArray)(ch n:Int)(c:Ch):zx ours key ch n c.cut.loc c.cut.rem c.cut.xs=zx ours key ch n c.loc c.rem c.xs :=
 qgh key ch n (zec ours c.xs c) (q8g ours c.xs)
end Go.Proofs.YthnohmjbbeahmaaGreatDoor
namespace Go.Proofs.YthnohmjbbeahmaaGreatDoor
@[reducible] def It:=Int × Int × Nat × Bool × Nat × Nat
def qa3:List It:=[(-1,-1,0,false,0,0),(-1,-1,0,false,0,2),(-1,-1,0,false,0,4),(-1,-1,0,false,0,1),(-1,-1,0,false,0,3),(-1,-1,0,false,2,0),(-1,-1,0,false,2,2),(-1,-1,0,false,4,0),(-1,-1,0,false,1,0),(-1,-1,0,false,1,1),(-1,-1,0,false,3,0),(0,-1,1,false,0,0),(0,-1,1,false,0,2),(0,-1,1,false,0,4),(0,-1,1,false,0,1),(0,-1,1,false,0,3),(0,-1,1,false,2,0),(0,-1,1,false,2,2),(0,-1,1,false,4,0),(0,-1,1,false,1,0),(0,-1,1,false,1,1),(0,-1,1,false,3,0),(0,0,0,false,0,0),(0,0,0,false,0,2),(0,0,0,false,0,4),(0,0,0,false,0,1),(0,0,0,false,0,3),(0,0,0,false,2,0),(0,0,0,false,2,2),(1,-1,1,true,4,0),(1,-1,1,true,1,0),(1,-1,1,true,1,1),(1,-1,1,true,3,0),(1,0,0,false,4,0),(1,0,0,false,1,0),(1,0,0,false,1,1),(1,0,0,false,3,0),(1,2,0,false,0,2),(1,2,0,false,0,3),(1,2,0,false,2,2),(1,3,0,false,0,4),(2,2,0,false,0,0),(2,2,0,false,0,2),(2,2,0,false,2,0),(2,2,0,false,4,0),(2,2,0,false,1,0),(2,3,0,false,0,4),(2,3,0,false,0,1),(2,3,0,false,0,3),(2,3,0,false,1,1),(4,3,0,false,2,0),(4,3,0,false,2,2),(4,3,0,false,4,0),(4,3,0,false,3,0),(4,4,0,false,0,0),(4,4,0,false,0,2),(4,4,0,false,0,4),(4,4,0,false,0,1),(4,4,0,false,0,3),(4,4,0,false,2,0),(4,4,0,false,2,2),(4,4,0,false,4,0),(4,4,0,false,1,0),(4,4,0,false,1,1),(4,4,0,false,3,0),(4,5,2,false,0,0),(4,5,2,false,0,2),(4,5,2,false,0,4),(4,5,2,false,0,1),(4,5,2,false,0,3),(4,5,2,false,2,0),(4,5,2,false,2,2),(4,5,2,false,4,0),(4,5,2,false,1,0),(4,5,2,false,1,1),(4,5,2,false,3,0),(4,6,2,true,0,4),(4,6,2,true,0,1),(4,6,2,true,0,3),(4,6,2,true,1,1),(5,5,0,false,0,0),(5,5,0,false,0,2),(5,5,0,false,2,0),(5,5,0,false,2,2),(5,5,0,false,4,0),(5,5,0,false,1,0),(5,5,0,false,3,0),(5,6,0,false,0,4),(5,6,0,false,0,1),(5,6,0,false,0,3),(5,6,0,false,1,1),(7,6,0,false,2,0),(7,6,0,false,2,2),(7,6,0,false,3,0),(7,7,0,false,0,0),(7,7,0,false,0,2),(7,7,0,false,0,4),(7,7,0,false,0,1),(7,7,0,false,2,0),(8,6,0,false,4,0),(8,7,0,false,4,0),(8,7,0,false,1,0),(8,7,0,false,1,1),(8,7,0,false,3,0),(8,9,0,false,0,2),(8,9,0,false,0,4),(8,9,0,false,0,3),(8,9,0,false,2,2),(9,9,0,false,0,0),(9,9,0,false,0,2),(9,9,0,false,0,4),(9,9,0,false,0,1),(9,9,0,false,0,3),(9,9,0,false,2,0),(9,9,0,false,2,2),(9,9,0,false,4,0),(9,9,0,false,1,0),(9,9,0,false,1,1),(9,9,0,false,3,0)]
def qyu(w:Nat):Nat:=if w=0 then 1 else if w=2 then 4 else 9
def qyt(w:Nat):Nat:=if w=0 then 2 else if w=1 then 3 else 9
def q94(w:Nat):Nat:=if w=3 then 2 else if w=4 then 1 else 0
def qay(w:Nat):Bool:=w==1 || w==3 || w==4
def qbw(w:Nat):Bool:=w==2 || w==3 || w==4
def q1y(w:Nat):Bool:=w==1 || w==3
def zje(w:Nat):Bool:=w==2 || w==4
def It.offer:It→It | (_,_,_,_,g,i)=>(0,-1,1,false,g,i)
def It.signA:It→It | (sa,sb,up,cov,g,i)=>(qx sa true 1,sb,up,if up=1 then true else cov,qyu g,i)
def It.signB:It→It | (sa,sb,up,cov,g,i)=>(sa,qx sb false 1,up,if up=2 then true else cov,g,qyu i)
def It.remove:It→It | (sa,_,_,_,g,i)=>(sa,5,2,false,g,i)
def It.hearAdd:It→It | (sa,_,_,_,g,i)=>(sa,0,0,false,g,i)
def It.hearRem:It→It | (_,sb,_,_,g,i)=>(5,sb,0,false,g,i)
def It.hearSB:It→It | (sa,sb,up,cov,g,i)=>(sa,qx (qx sb false 3) false 4,up,cov,q94 g,qyt i)
def It.hearSA:It→It | (sa,sb,up,cov,g,i)=>(qx (qx sa true 3) true 4,sb,up,cov,qyt g,q94 i)
def It.hearRA:It→It | (sa,sb,up,cov,g,i)=>(qx sa true 2,sb,up,cov,g,q94 i)
def It.hearRB:It→It | (sa,sb,up,cov,g,i)=>(sa,qx sb false 2,up,cov,q94 g,i)
def zjt(g i:Int)(l m:Nat):It:=if g=1∧i = -1 then (g,i,1,true,l,m) else if g=4∧i=6 then (g,i,2,true,l,m) else (g,i,0,false,l,m)
def zn(s:Int):Int:=if s=5 then 4 else if s=0 then -1 else s
def It.cut:It→It | (sa,sb,_,_,g,i)=>zjt (zn sa) (zn sb) g i
theorem q09:∀x∈qa3,x.1 = -1→x.2.1 = -1→It.offer x∈qa3:=by decide +kernel
theorem q1b:∀x∈qa3,qay x.2.2.2.2.1=false→qbw x.2.2.2.2.2=false→It.signA x∈qa3:=by decide +kernel
theorem q1c:∀x∈qa3,qay x.2.2.2.2.2=false→qbw x.2.2.2.2.1=false→It.signB x∈qa3:=by decide +kernel
theorem qyb:∀x∈qa3,x.2.1=4→It.remove x∈qa3∧x.2.2.1=0:=by decide +kernel
theorem qui:∀x∈qa3,x.2.2.1=1→(x.2.2.2.1=true∨qay x.2.2.2.2.1=false)→It.hearAdd x∈qa3∧x.2.1 = -1∧(x.1=0∨x.1=1):=by decide +kernel
theorem quj:∀x∈qa3,x.2.2.1=2→(x.2.2.2.1=true∨qay x.2.2.2.2.2=false)→It.hearRem x∈qa3∧x.1=4:=by decide +kernel
theorem qx9:∀x∈qa3,q1y x.2.2.2.2.1=true→¬(x.2.2.1=1∧x.2.2.2.1=true)→It.hearSB x∈qa3:=by decide +kernel
theorem qx8:∀x∈qa3,q1y x.2.2.2.2.2=true→¬(x.2.2.1=2∧x.2.2.2.1=true)→It.hearSA x∈qa3:=by decide +kernel
theorem qx6:∀x∈qa3,zje x.2.2.2.2.2=true→It.hearRA x∈qa3:=by decide +kernel
theorem qx7:∀x∈qa3,zje x.2.2.2.2.1=true→It.hearRB x∈qa3:=by decide +kernel
theorem q9a:∀x∈qa3,It.cut x∈qa3:=by decide +kernel
theorem qtf:∀x∈qa3,x.2.2.1=0→x.2.2.2.2.1=0→x.2.2.2.2.2=0→qx x.1 true 1=x.1→qx x.2.1 false 1=x.2.1→(x.1 = -1∧x.2.1 = -1)∨(x.1=4∧x.2.1=4)∨(x.1=9∧x.2.1=9):=by decide +kernel
end Go.Proofs.YthnohmjbbeahmaaGreatDoor
namespace Go.Proofs.YthnohmjbbeahmaaGreatDoor
open Go.RowKit
theorem q71{α:Type}{c:Ch}{ev:Int}{G:List α}(f f':α→Option Live)(t:c.xs.Perm (G.filterMap f))(q:∀g∈G,f' g=((f g).map (aft ev)).filter (fun x=> !(x.state==9))):(c.goOn ev).xs.Perm (G.filterMap f'):=by
 show (qa8 (qv ev c.xs)).Perm _;have o:(qa8 (qv ev c.xs)).Perm (qa8 (qv ev (G.filterMap f))):=by
  unfold qa8 qv;exact(t.map _).filter _
 refine o.trans (List.Perm.of_eq ?_);unfold qa8 qv;clear t o
 induction G with
 | nil=>rfl
 | cons g G m =>
  have m:=m (fun y w=>q y (List.mem_cons_of_mem _ w));have l:=q g (List.mem_cons_self ..);cases i:f g with
  | none =>
   rw[i] at l;rw[List.filterMap_cons_none i,List.filterMap_cons_none l];exact m
  | some x =>
   rw[i] at l;rw[List.filterMap_cons_some i,List.map_cons,List.filter_cons];cases v:(!((aft ev x).state==9)) with
   | true =>
    have e:f' g=some (aft ev x):=by rw[l];simp only[Option.map_some,Option.filter_some,v,if_true]
    rw[List.filterMap_cons_some e,if_pos rfl,m]
   | false =>
    have e:f' g=none:=by rw[l];simp only[Option.map_some,Option.filter_some,v,Bool.false_eq_true,if_false]
    rw[List.filterMap_cons_none e,if_neg (by decide),m]
def qb5(g:Bool)(i:List Live):Int:=(i.map fun y=>if y.state=9∧(y.own != y.paid)=g then y.h.amount else 0).sum
theorem qfv(m:Bool)(g:List Live)(h:∀y∈g,0≤y.h.amount):0≤qb5 m g:=by
 unfold qb5
 induction g with
 | nil=>exact Int.le_refl _
 | cons y g l =>
  rw[List.map_cons,List.sum_cons];have o:=l (fun z i=>h z (List.mem_cons_of_mem _ i));have q:=h y (List.mem_cons_self ..);split<;>omega
theorem qgx{l m:List Int}(p:l.Perm m):l.sum=m.sum:=by
 induction p with
 | nil=>rfl
 | cons x _ o=>rw[List.sum_cons,List.sum_cons,o]
 | swap x y l=>simp only[List.sum_cons];omega
 | trans _ _ g i=>exact g.trans i
theorem qxi(g:Bool){xs i:List Live}(p:xs.Perm i):qb5 g xs=qb5 g i:=by
 unfold qb5;exact qgx (p.map _)
theorem q7t(g:List Live):∀c:Ch,(∀y∈g,0≤y.h.amount)→0≤c.loc→0≤c.rem→c.loc+qb5 true g<18446744073709551616→c.rem+qb5 false g<18446744073709551616 →
  (g.foldl qbn c).loc=c.loc+qb5 true g∧(g.foldl qbn c).rem=c.rem+qb5 false g:=by
 induction g with
 | nil =>
  intro c _ _ _ _ _;exact⟨(Int.add_zero _).symm,(Int.add_zero _).symm⟩
 | cons y g D =>
  intro c E H I q t;have i:∀z∈g,0≤z.h.amount:=fun z J=>E z (List.mem_cons_of_mem _ J)
  have K:=E y (List.mem_cons_self ..);have L:=qfv true g i;have M:=qfv false g i;have e:∀x,qb5 x (y::g)=(if y.state=9∧(y.own != y.paid)=x then y.h.amount else 0)+qb5 x g:=fun x=>by unfold qb5;rw[List.map_cons,List.sum_cons]
  rw[e] at q t;rw[List.foldl_cons,e,e];by_cases l:y.state=9
  ·have C:qbn c y=c.give (y.own != y.paid) y.h.amount:=by unfold qbn;rw[if_pos l]
   rw[C];cases F:(y.own != y.paid) with
   | true =>
    rw[F] at q t;rw[if_pos ⟨l,rfl⟩] at q;rw[if_neg (fun h=>by cases h.2)] at t;rw[if_pos ⟨l,rfl⟩,if_neg (fun h=>by cases h.2)];have m:(c.give true y.h.amount).loc=c.loc+y.h.amount:=by
     show IntKind.u64.wrap (c.loc+y.h.amount)=_;exact qdq (by omega) (by omega)
    have o:(c.give true y.h.amount).rem=c.rem:=rfl;obtain⟨v,w⟩:=D (c.give true y.h.amount) i (by rw[m];omega) (by rw[o];omega) (by rw[m];omega) (by rw[o];omega);rw[v,w,m,o];exact⟨by omega,by omega⟩
   | false =>
    rw[F] at q t;rw[if_neg (fun h=>by cases h.2)] at q;rw[if_pos ⟨l,rfl⟩] at t;rw[if_neg (fun h=>by cases h.2),if_pos ⟨l,rfl⟩];have m:(c.give false y.h.amount).loc=c.loc:=rfl;have o:(c.give false y.h.amount).rem=c.rem+y.h.amount:=by
     show IntKind.u64.wrap (c.rem+y.h.amount)=_;exact qdq (by omega) (by omega)
    obtain⟨v,w⟩:=D (c.give false y.h.amount) i (by rw[m];omega) (by rw[o];omega) (by rw[m];omega) (by rw[o];omega);rw[v,w,m,o];exact⟨by omega,by omega⟩
  ·have C:qbn c y=c:=by unfold qbn;rw[if_neg l]
   rw[if_neg (fun h=>l h.1)] at q t;rw[C,if_neg (fun h=>l h.1),if_neg (fun h=>l h.1)];obtain⟨v,w⟩:=D c i H I (by omega) (by omega);rw[v,w];exact⟨by omega,by omega⟩
theorem q7z(c:Ch)(ev:Int)(l:∀y∈c.xs,0≤y.h.amount)(m:0≤c.loc)(o:0≤c.rem)(g:c.loc+qb5 true (qv ev c.xs)<18446744073709551616)(i:c.rem+qb5 false (qv ev c.xs)<18446744073709551616) :
  (c.goOn ev).loc=c.loc+qb5 true (qv ev c.xs)∧(c.goOn ev).rem=c.rem+qb5 false (qv ev c.xs) :=
 q7t _ c (fun y t=>by
  obtain⟨x,q,rfl⟩:=List.mem_map.1 t;exact l x q) m o g i
theorem qdx{α:Type}(y:α):∀(xs:List α) (i:Nat) (x:α),xs[i]? = some x→xs.Perm (x::xs.eraseIdx i)∧(xs.set i y).Perm (y::xs.eraseIdx i)
 | [],_,_,h=>by cases h
 | z::zs,0,x,h=>by
  rw[List.getElem?_cons_zero] at h;injection h with h;subst h;exact⟨List.Perm.refl _,List.Perm.refl _⟩
 | z::zs,i+1,x,h=>by
  rw[List.getElem?_cons_succ] at h;obtain⟨g,l⟩:=qdx y zs i x h;rw[List.set_cons_succ,List.eraseIdx_cons_succ];exact⟨(g.cons z).trans (List.Perm.swap x z _),(l.cons z).trans (List.Perm.swap y z _)⟩
theorem q15{α:Type}{G:List α}{j:Nat}{g g':α}(f:α→Option Live){xs:List Live}{i:Nat}{x y:Live}(D:xs.Perm (G.filterMap f))(z:G[j]? = some g)(w:f g=some x)(l:f g'=some y)(C:xs[i]? = some x):(xs.set i y).Perm ((G.set j g').filterMap f):=by
 obtain⟨t,v⟩:=qdx g' G j g z;obtain⟨E,F⟩:=qdx y xs i x C;have m:(G.filterMap f).Perm (x::(G.eraseIdx j).filterMap f):=by
  have:=t.filterMap f;rwa [List.filterMap_cons_some w] at this
 have o:((G.set j g').filterMap f).Perm (y::(G.eraseIdx j).filterMap f):=by
  have:=v.filterMap f;rwa [List.filterMap_cons_some l] at this
 have q:(xs.eraseIdx i).Perm ((G.eraseIdx j).filterMap f):=((E.symm.trans D).trans m).cons_inv;exact F.trans ((q.cons y).trans o.symm)
theorem q68{α:Type}{G:List α}{j:Nat}{g g':α}(f:α→Option Live){xs:List Live}{y:Live}(w:xs.Perm (G.filterMap f))(v:G[j]? = some g)(t:f g=none)(i:f g'=some y):(xs++[y]).Perm ((G.set j g').filterMap f):=by
 obtain⟨o,q⟩:=qdx g' G j g v;have l:(G.filterMap f).Perm ((G.eraseIdx j).filterMap f):=by
  have:=o.filterMap f;rwa [List.filterMap_cons_none t] at this
 have m:((G.set j g').filterMap f).Perm (y::(G.eraseIdx j).filterMap f):=by
  have:=q.filterMap f;rwa [List.filterMap_cons_some i] at this
 exact(List.perm_append_singleton y xs).trans (((w.trans l).cons y).trans m.symm)
theorem q9i{α:Type}{G:List α}{j:Nat}{g g':α}(f:α→Option Live){xs:List Live}(w:xs.Perm (G.filterMap f))(v:G[j]? = some g)(t:f g'=f g):xs.Perm ((G.set j g').filterMap f):=by
 obtain⟨o,q⟩:=qdx g' G j g v;have l:=o.filterMap f;have i:=q.filterMap f;have m:(g'::G.eraseIdx j).filterMap f=(g::G.eraseIdx j).filterMap f:=by
  rw[List.filterMap_cons,List.filterMap_cons,t]
 rw[m] at i;exact w.trans (l.trans i.symm)
theorem qes{own:Bool}{id:Int}{xs:List Live}{i:Nat}{x:Live}(h:qb0 own id xs=some (i,x)):xs[i]? = some x∧x.own=own∧x.h.id=id∧x.state=4:=by
 obtain⟨-,l,g⟩:=qhu h;unfold qfo at g;simp only[Bool.and_eq_true,beq_iff_eq] at g;exact⟨l,g.1,g.2.1,g.2.2⟩
theorem qzc{own:Bool}{id:Int}{xs:List Live}{x:Live}(D:x∈xs)(w:x.own=own)(v:x.h.id=id)(z:x.state=4)(C:∀y∈xs,y.own=own→y.h.id=id→y=x):∃i,qb0 own id xs=some (i,x):=by
 cases g:qb0 own id xs with
 | none =>
  exfalso;unfold qb0 at g;cases l:xs.findIdx? (qfo own id) with
  | none =>
   have:=List.findIdx?_eq_none_iff.1 l x D;unfold qfo at this;simp[w,v,z] at this
  | some k =>
   rw[l] at g;have g:Option.map (fun x=>(k,x)) xs[k]? = none:=g;obtain⟨m,-,-⟩:=List.findIdx?_eq_some_iff_getElem.1 l;rw[List.getElem?_eq_getElem m] at g;cases g
 | some p =>
  obtain⟨i,y⟩:=p;obtain⟨o,q,t,-⟩:=qes g;have:=C y (List.mem_of_getElem? o) q t;subst this;exact⟨i,rfl⟩
def qa9(own:Bool)(h:Htlc)(s:Int)(paid:Bool):Option Live:=if 0≤s∧s≤8 then some ⟨h,own,s,paid&&decide (5≤s)⟩ else none
inductive En where
 | upd (j:Nat)
 | sgn
 | rev
 | shut
def ql:List En→Nat
 | []=>0
 | .upd _::es=>ql es
 | .shut::es=>ql es
 | .sgn::es=>if ql es=0 then 1 else if ql es=2 then 3 else 9
 | .rev::es=>if ql es=0 then 2 else if ql es=1 then 4 else 9
theorem qjw(es:List En)(j:Nat):ql (es++[.upd j])=ql es:=by
 induction es with
 | nil=>rfl
 | cons e es g=>cases e<;>simp only[List.cons_append,ql,g]
theorem qty(es:List En):ql (es++[.shut])=ql es:=by
 induction es with
 | nil=>rfl
 | cons e es g=>cases e<;>simp only[List.cons_append,ql,g]
theorem qwg(es:List En)(h:ql es=0∨ql es=2):ql (es++[.sgn])=qyu (ql es):=by
 induction es with
 | nil=>rfl
 | cons e es i =>
  cases e with
  | upd j=>exact i h
  | shut=>exact i h
  | sgn =>
   exfalso;unfold ql at h;split at h
   ·omega
   ·split at h<;>omega
  | rev =>
   have g:ql es=0:=by
    unfold ql at h;split at h
    ·assumption
    ·split at h<;>omega
   have:=i (.inl g);rw[g] at this;show (if ql (es++[.sgn])=0 then 2 else if ql (es++[.sgn])=1 then 4 else 9)=qyu (if ql es=0 then 2 else if ql es=1 then 4 else 9);rw[this,g];rfl
theorem qwf(es:List En)(h:ql es=0∨ql es=1):ql (es++[.rev])=qyt (ql es):=by
 induction es with
 | nil=>rfl
 | cons e es i =>
  cases e with
  | upd j=>exact i h
  | shut=>exact i h
  | rev =>
   exfalso;unfold ql at h;split at h
   ·omega
   ·split at h<;>omega
  | sgn =>
   have g:ql es=0:=by
    unfold ql at h;split at h
    ·assumption
    ·split at h<;>omega
   have:=i (.inl g);rw[g] at this;show (if ql (es++[.rev])=0 then 1 else if ql (es++[.rev])=2 then 3 else 9)=qyt (if ql es=0 then 1 else if ql es=2 then 3 else 9);rw[this,g];rfl
def conL(mine:Bool)(s:Int)(paid:Bool)(n:Int):Int:=if s = -1 then 0 else if s=9 then (if paid then (if mine then -n else n) else 0) else (if mine then -n else 0)
def zt(s:Int)(mine:Bool)(ev:Int):Int:=if 0≤s∧s≤8 then qx s mine ev else s
theorem qev{s:Int}{mine:Bool}{ev:Int}(h:0≤s∧s≤8):qx s mine ev=s∨qx s mine ev=s+1:=by
 unfold qx;split
 ·exact .inr rfl
 ·exact .inl rfl
theorem zat{s:Int}(mine paid:Bool)(ev n:Int)(h:0≤s∧s≤8):conL mine (qx s mine ev) paid n=conL mine s paid n+(if qx s mine ev=9∧(mine != (paid&&decide (5≤s)))=true then n else 0):=by
 by_cases g:qx s mine ev=9
 ·have o:s=8:=by rcases qev (mine:=mine) (ev:=ev) h with e | e<;>omega
  rw[g];subst o;cases mine<;>cases paid<;>simp[conL]<;>omega
 ·rw[if_neg (fun e=>g e.1),Int.add_zero];have m:¬qx s mine ev = -1:=by
   intro q;rcases qev (mine:=mine) (ev:=ev) h with e | e<;>omega
  have i:conL mine (qx s mine ev) paid n=if mine then -n else 0:=by unfold conL;rw[if_neg m,if_neg g]
  have l:conL mine s paid n=if mine then -n else 0:=by unfold conL;rw[if_neg (show ¬s = -1 by omega),if_neg (show ¬s=9 by omega)]
  rw[i,l]
structure Seen(α:Type) where
 mine:α→Bool
 st:α→Int
 h:α→Htlc
 paid:α→Bool
def Seen.show{α:Type}(v:Seen α)(g:α):Option Live:=qa9 (v.mine g) (v.h g) (v.st g) (v.paid g)
def Seen.conL{α:Type}(v:Seen α)(G:List α):Int:=(G.map fun g=>Go.Proofs.YthnohmjbbeahmaaGreatDoor.conL (v.mine g) (v.st g) (v.paid g) (v.h g).amount).sum
def Seen.conR{α:Type}(v:Seen α)(G:List α):Int:=(G.map fun g=>Go.Proofs.YthnohmjbbeahmaaGreatDoor.conL (!v.mine g) (v.st g) (v.paid g) (v.h g).amount).sum
def Seen.on{α:Type}(v:Seen α)(ev:Int):Seen α:= {v with st:=fun g=>zt (v.st g) (v.mine g) ev}
theorem qp7{α:Type}(l:Bool)(f:α→Option Live)(ev:Int)(G:List α):qb5 l (qv ev (G.filterMap f))=(G.map fun g=>match f g with | none=>0 | some x=>if (aft ev x).state=9∧(x.own != x.paid)=l then x.h.amount else 0).sum:=by
 unfold qb5 qv
 induction G with
 | nil=>rfl
 | cons g G m =>
  rw[List.map_cons,List.sum_cons,←m];cases i:f g with
  | none=>rw[List.filterMap_cons_none i];simp only;omega
  | some x =>
   rw[List.filterMap_cons_some i,List.map_cons,List.map_cons,List.sum_cons];rfl
theorem q5f{α:Type}(v:Seen α)(ev:Int)(G:List α):(v.on ev).conL G=v.conL G+qb5 true (qv ev (G.filterMap v.show)):=by
 rw[qp7];unfold Seen.conL
 induction G with
 | nil=>rfl
 | cons g G l =>
  simp only[List.map_cons,List.sum_cons];have i:Go.Proofs.YthnohmjbbeahmaaGreatDoor.conL ((v.on ev).mine g) ((v.on ev).st g) ((v.on ev).paid g) ((v.on ev).h g).amount=Go.Proofs.YthnohmjbbeahmaaGreatDoor.conL (v.mine g) (v.st g) (v.paid g) (v.h g).amount+(match v.show g with | none=>0 | some x=>if (aft ev x).state=9∧(x.own != x.paid)=true then x.h.amount else 0):=by
   show Go.Proofs.YthnohmjbbeahmaaGreatDoor.conL (v.mine g) (zt (v.st g) (v.mine g) ev) (v.paid g) (v.h g).amount=_;unfold Seen.show qa9 zt;by_cases h:0≤v.st g∧v.st g≤8
   ·rw[if_pos h,if_pos h];exact zat _ _ _ _ h
   ·rw[if_neg h,if_neg h];simp
  rw[i,l];omega
theorem q69{s:Int}(mine paid:Bool)(ev n:Int)(h:0≤s∧s≤8):conL (!mine) (qx s mine ev) paid n=conL (!mine) s paid n+(if qx s mine ev=9∧(mine != (paid&&decide (5≤s)))=false then n else 0):=by
 by_cases g:qx s mine ev=9
 ·have o:s=8:=by rcases qev (mine:=mine) (ev:=ev) h with e | e<;>omega
  rw[g];subst o;cases mine<;>cases paid<;>simp[conL]<;>omega
 ·rw[if_neg (fun e=>g e.1),Int.add_zero];have m:¬qx s mine ev = -1:=by
   intro q;rcases qev (mine:=mine) (ev:=ev) h with e | e<;>omega
  have i:conL (!mine) (qx s mine ev) paid n=if !mine then -n else 0:=by unfold conL;rw[if_neg m,if_neg g]
  have l:conL (!mine) s paid n=if !mine then -n else 0:=by unfold conL;rw[if_neg (show ¬s = -1 by omega),if_neg (show ¬s=9 by omega)]
  rw[i,l]
theorem q5g{α:Type}(v:Seen α)(ev:Int)(G:List α):(v.on ev).conR G=v.conR G+qb5 false (qv ev (G.filterMap v.show)):=by
 rw[qp7];unfold Seen.conR
 induction G with
 | nil=>rfl
 | cons g G l =>
  simp only[List.map_cons,List.sum_cons];have i:Go.Proofs.YthnohmjbbeahmaaGreatDoor.conL (!(v.on ev).mine g) ((v.on ev).st g) ((v.on ev).paid g) ((v.on ev).h g).amount=Go.Proofs.YthnohmjbbeahmaaGreatDoor.conL (!v.mine g) (v.st g) (v.paid g) (v.h g).amount+(match v.show g with | none=>0 | some x=>if (aft ev x).state=9∧(x.own != x.paid)=false then x.h.amount else 0):=by
   show Go.Proofs.YthnohmjbbeahmaaGreatDoor.conL (!v.mine g) (zt (v.st g) (v.mine g) ev) (v.paid g) (v.h g).amount=_;unfold Seen.show qa9 zt;by_cases h:0≤v.st g∧v.st g≤8
   ·rw[if_pos h,if_pos h];exact q69 _ _ _ _ h
   ·rw[if_neg h,if_neg h];simp
  rw[i,l];omega
theorem qvq(mine:Bool)(ev:Int):qx 4 mine ev=4:=by
 unfold qx;rw[if_neg];rintro ⟨-,g,i⟩;apply g;rw[←i];cases mine<;>rfl
theorem zfg{s:Int}{mine:Bool}{ev:Int}(h:0≤s∧s≤8):decide (5≤qx s mine ev)=decide (5≤s):=by
 by_cases i:s=4
 ·rw[i,qvq]
 ·rcases qev (mine:=mine) (ev:=ev) h with e | e
  ·rw[e]
  ·rw[e];by_cases g:5≤s
   ·rw[decide_eq_true g,decide_eq_true (by omega)]
   ·rw[decide_eq_false g,decide_eq_false (by omega)]
theorem zgi{α:Type}(v:Seen α)(ev:Int)(g:α):(v.on ev).show g=((v.show g).map (aft ev)).filter (fun x=> !(x.state==9)):=by
 show qa9 (v.mine g) (v.h g) (zt (v.st g) (v.mine g) ev) (v.paid g)=_;unfold Seen.show qa9 zt;by_cases h:0≤v.st g∧v.st g≤8
 ·rw[if_pos h,if_pos h];have o:=qev (mine:=v.mine g) (ev:=ev) h;have l:=zfg (mine:=v.mine g) (ev:=ev) h;show _=(some (aft ev ⟨v.h g,v.mine g,v.st g,v.paid g&&decide (5≤v.st g)⟩)).filter _;have ea:aft ev ⟨v.h g,v.mine g,v.st g,v.paid g&&decide (5≤v.st g)⟩=⟨v.h g,v.mine g,qx (v.st g) (v.mine g) ev,v.paid g&&decide (5≤v.st g)⟩:=rfl;rw[ea,Option.filter_some];by_cases i:qx (v.st g) (v.mine g) ev=9
  ·rw[i,if_neg (by omega),if_neg (by simp)]
  ·have m:0≤qx (v.st g) (v.mine g) ev∧qx (v.st g) (v.mine g) ev≤8:=by rcases o with e | e<;>omega
   rw[if_pos m,if_pos (by simpa using i),l]
 ·rw[if_neg h,if_neg h];rfl
theorem qja{α:Type}{c:Ch}(v:Seen α)(ev:Int)(G:List α){L R:Int}(m:c.xs.Perm (G.filterMap v.show))(D:c.loc=L+v.conL G)(E:c.rem=R+v.conR G)(t:∀y∈c.xs,0≤y.h.amount)(w:0≤c.loc)(x:0≤c.rem)
  (b1:L+(v.on ev).conL G<18446744073709551616) (b2:R+(v.on ev).conR G<18446744073709551616) :
  (c.goOn ev).xs.Perm (G.filterMap (v.on ev).show)∧(c.goOn ev).loc=L+(v.on ev).conL G∧(c.goOn ev).rem=R+(v.on ev).conR G:=by
 have i:∀l,qb5 l (qv ev c.xs)=qb5 l (qv ev (G.filterMap v.show)):=fun l=>qxi l (m.map _)
 have z:=q5f v ev G
 have C:=q5g v ev G
 obtain⟨o,q⟩:=q7z c ev t w x (by rw[i];omega) (by rw[i];omega)
 refine⟨q71 _ _ m (fun g _=>zgi v ev g),?_,?_⟩
 ·rw[o,i];omega
 ·rw[q,i];omega
theorem qrg{α:Type}(f:α→Int){G:List α}{j:Nat}{g g':α}(q:G[j]? = some g):((G.set j g').map f).sum=(G.map f).sum-f g+f g':=by
 obtain⟨m,o⟩:=qdx g' G j g q;have i:=qgx (m.map f);have l:=qgx (o.map f);rw[List.map_cons,List.sum_cons] at i l;rw[l,i];omega
theorem qo3{α:Type}(f:α→Int)(G:List α)(g:α):((G++[g]).map f).sum=(G.map f).sum+f g:=by
 rw[List.map_append,List.sum_append];simp
def qc7(own:Bool)(g:List Live):Int:=(g.map fun y=>if y.state=0∧y.own=own then y.h.amount else 0).sum
def qdj(own:Bool)(g:List Live):Int:=(g.map fun y=>if y.state=0∧y.own=own then (1:Int) else 0).sum
theorem qi5(own:Bool)(g:List Live)(h:∀y∈g,0≤y.h.amount):0≤qc7 own g:=by
 unfold qc7
 induction g with
 | nil=>exact Int.le_refl _
 | cons y g l =>
  rw[List.map_cons,List.sum_cons];have m:=l (fun z i=>h z (List.mem_cons_of_mem _ i));have o:=h y (List.mem_cons_self ..);split<;>omega
theorem qly(own:Bool)(g:List Live):0≤qdj own g:=by
 unfold qdj
 induction g with
 | nil=>exact Int.le_refl _
 | cons y g i =>
  rw[List.map_cons,List.sum_cons];split<;>omega
theorem q00(own:Bool){xs g:List Live}(p:xs.Perm g):qc7 own xs=qc7 own g:=qgx (p.map _)
theorem qon(own:Bool){xs g:List Live}(p:xs.Perm g):qdj own xs=qdj own g:=qgx (p.map _)
theorem qt8(g:List Live):∀c:Ch,(g.foldl zc c).s=c.s∧(g.foldl zc c).shelf=c.shelf∧(g.foldl zc c).news=c.news∧(g.foldl zc c).last=c.last∧(g.foldl zc c).k.signed=c.k.signed∧(g.foldl zc c).k.heard=c.k.heard∧(g.foldl zc c).k.awaits=c.k.awaits∧(g.foldl zc c).k.shutSaid=c.k.shutSaid∧(g.foldl zc c).k.shutHeard=c.k.shutHeard∧(g.foldl zc c).k.revoked=c.k.revoked:=by
 induction g with
 | nil=>intro c;exact⟨rfl,rfl,rfl,rfl,rfl,rfl,rfl,rfl,rfl,rfl⟩
 | cons y g I =>
  intro c;rw[List.foldl_cons];obtain⟨a1,a2,a3,m,o,q,t,v,w,i⟩:=I (zc c y);have e:(zc c y).s=c.s∧(zc c y).shelf=c.shelf∧(zc c y).news=c.news∧(zc c y).last=c.last∧(zc c y).k.signed=c.k.signed∧(zc c y).k.heard=c.k.heard∧(zc c y).k.awaits=c.k.awaits∧(zc c y).k.shutSaid=c.k.shutSaid∧(zc c y).k.shutHeard=c.k.shutHeard∧(zc c y).k.revoked=c.k.revoked:=by
   unfold zc;split
   ·split
    ·exact⟨rfl,rfl,rfl,rfl,rfl,rfl,rfl,rfl,rfl,rfl⟩
    ·exact⟨rfl,rfl,rfl,rfl,rfl,rfl,rfl,rfl,rfl,rfl⟩
   ·exact⟨rfl,rfl,rfl,rfl,rfl,rfl,rfl,rfl,rfl,rfl⟩
  obtain⟨b1,b2,x,z,C,D,E,F,H,l⟩:=e;exact⟨a1.trans b1,a2.trans b2,a3.trans x,m.trans z,o.trans C,q.trans D,t.trans E,v.trans F,w.trans H,i.trans l⟩
theorem zbm(g:List Live):∀c:Ch,(∀y∈g,0≤y.h.amount)→0≤c.loc→0≤c.rem→c.loc+qc7 true g<18446744073709551616→c.rem+qc7 false g<18446744073709551616→qdj true g≤c.k.nextOwn→c.k.nextOwn<18446744073709551616→qdj false g≤c.k.nextTheirs→c.k.nextTheirs<18446744073709551616 →
  (g.foldl zc c).loc=c.loc+qc7 true g∧(g.foldl zc c).rem=c.rem+qc7 false g∧(g.foldl zc c).k.nextOwn=c.k.nextOwn-qdj true g∧(g.foldl zc c).k.nextTheirs=c.k.nextTheirs-qdj false g:=by
 induction g with
 | nil =>
  intro c _ _ _ _ _ _ _ _ _;exact⟨(Int.add_zero _).symm,(Int.add_zero _).symm,(Int.sub_zero _).symm,(Int.sub_zero _).symm⟩
 | cons y g M =>
  intro c N R T H I J O K P;have l:∀z∈g,0≤z.h.amount:=fun z U=>N z (List.mem_cons_of_mem _ U)
  have V:=N y (List.mem_cons_self ..);have W:=qi5 true g l;have X:=qi5 false g l;have Y:=qly true g;have Z:=qly false g;have e:∀o,qc7 o (y::g)=(if y.state=0∧y.own=o then y.h.amount else 0)+qc7 o g:=fun o=>by unfold qc7;rw[List.map_cons,List.sum_cons]
  have L:∀o,qdj o (y::g)=(if y.state=0∧y.own=o then (1:Int) else 0)+qdj o g:=fun o=>by unfold qdj;rw[List.map_cons,List.sum_cons]
  rw[e] at H I;rw[L] at J K;rw[List.foldl_cons,e,e,L,L];by_cases i:y.state=0
  ·cases x:y.own with
   | true =>
    rw[if_pos ⟨i,x⟩] at H J;rw[if_neg (fun h=>by rw[x] at h;cases h.2)] at I K;rw[if_pos ⟨i,rfl⟩,if_neg (fun h=>by cases h.2),if_pos ⟨i,rfl⟩,if_neg (fun h=>by cases h.2)];have m:zc c y = {c.give true y.h.amount with k:= {c.k with nextOwn:=IntKind.u64.wrap (c.k.nextOwn-1)}} := by unfold zc;rw[if_pos i,if_pos x]
    have q:(zc c y).loc=c.loc+y.h.amount:=by rw[m];exact qdq (by omega) (by omega)
    have t:(zc c y).rem=c.rem:=by rw[m];rfl
    have v:(zc c y).k.nextOwn=c.k.nextOwn-1:=by rw[m];exact qdq (by omega) (by omega)
    have w:(zc c y).k.nextTheirs=c.k.nextTheirs:=by rw[m]
    obtain⟨C,D,E,F⟩:=M (zc c y) l (by rw[q];omega) (by rw[t];omega) (by rw[q];omega) (by rw[t];omega) (by rw[v];omega) (by rw[v];omega) (by rw[w];omega) (by rw[w];omega);rw[C,D,E,F,q,t,v,w];exact⟨by omega,by omega,by omega,by omega⟩
   | false =>
    rw[if_neg (fun h=>by rw[x] at h;cases h.2)] at H J;rw[if_pos ⟨i,x⟩] at I K;rw[if_neg (fun h=>by cases h.2),if_pos ⟨i,rfl⟩,if_neg (fun h=>by cases h.2),if_pos ⟨i,rfl⟩];have m:zc c y = {c.give false y.h.amount with k:= {c.k with nextTheirs:=IntKind.u64.wrap (c.k.nextTheirs-1)}} := by unfold zc;rw[if_pos i,if_neg (by rw[x];decide)]
    have q:(zc c y).loc=c.loc:=by rw[m];rfl
    have t:(zc c y).rem=c.rem+y.h.amount:=by rw[m];exact qdq (by omega) (by omega)
    have v:(zc c y).k.nextOwn=c.k.nextOwn:=by rw[m]
    have w:(zc c y).k.nextTheirs=c.k.nextTheirs-1:=by rw[m];exact qdq (by omega) (by omega)
    obtain⟨C,D,E,F⟩:=M (zc c y) l (by rw[q];omega) (by rw[t];omega) (by rw[q];omega) (by rw[t];omega) (by rw[v];omega) (by rw[v];omega) (by rw[w];omega) (by rw[w];omega);rw[C,D,E,F,q,t,v,w];exact⟨by omega,by omega,by omega,by omega⟩
  ·have m:zc c y=c:=by unfold zc;rw[if_neg i]
   rw[if_neg (fun h=>i h.1)] at H I J K;rw[m,if_neg (fun h=>i h.1),if_neg (fun h=>i h.1),if_neg (fun h=>i h.1),if_neg (fun h=>i h.1)];obtain⟨C,D,E,F⟩:=M c l R T (by omega) (by omega) (by omega) O (by omega) P;rw[C,D,E,F];exact⟨by omega,by omega,by omega,by omega⟩
def Seen.cut{α:Type}(v:Seen α):Seen α:= {v with st:=fun g=>zn (v.st g)}
theorem zdw{α:Type}(v:Seen α)(g:α):v.cut.show g=((v.show g).filter (fun x=> !(x.state==0))).map qae:=by
 show qa9 (v.mine g) (v.h g) (zn (v.st g)) (v.paid g)=_;unfold Seen.show qa9 zn;by_cases h:0≤v.st g∧v.st g≤8
 ·rw[if_pos h,Option.filter_some];by_cases i:v.st g=0
  ·rw[i];rfl
  ·have m:(!((⟨v.h g,v.mine g,v.st g,v.paid g&&decide (5≤v.st g)⟩:Live).state==0))=true:=by simpa using i
   rw[if_pos m];show _=some (qae _);by_cases l:v.st g=5
   ·rw[l];simp[qae]
   ·rw[if_neg l,if_neg i,if_pos h];unfold qae;rw[if_neg l]
 ·have l:¬v.st g=5:=by omega
  have i:¬v.st g=0:=by omega
  rw[if_neg l,if_neg i,if_neg h];rfl
theorem zaz{α:Type}(v:Seen α){xs:List Live}{G:List α}(q:xs.Perm (G.filterMap v.show)):(qd1 xs).Perm (G.filterMap v.cut.show):=by
 have o:(qd1 xs).Perm (qd1 (G.filterMap v.show)):=by
  unfold qd1;exact(q.filter _).map _
 refine o.trans (List.Perm.of_eq ?_);clear q o;unfold qd1
 induction G with
 | nil=>rfl
 | cons g G m =>
  have i:=zdw v g;cases l:v.show g with
  | none =>
   rw[l] at i;rw[List.filterMap_cons_none l,List.filterMap_cons_none i];exact m
  | some x =>
   rw[l,Option.filter_some] at i;rw[List.filterMap_cons_some l,List.filter_cons];cases t:(!(x.state==0)) with
   | true =>
    rw[t,if_pos rfl] at i;rw[List.filterMap_cons_some i,if_pos rfl,List.map_cons,m]
   | false =>
    rw[t,if_neg (by decide)] at i;rw[List.filterMap_cons_none i,if_neg (by decide),m]
theorem q56{α:Type}(own:Bool)(f:α→Option Live)(G:List α):qc7 own (G.filterMap f)=(G.map fun g=>match f g with | none=>0 | some x=>if x.state=0∧x.own=own then x.h.amount else 0).sum:=by
 unfold qc7
 induction G with
 | nil=>rfl
 | cons g G l =>
  rw[List.map_cons,List.sum_cons,←l];cases i:f g with
  | none=>rw[List.filterMap_cons_none i];simp only;omega
  | some x =>
   rw[List.filterMap_cons_some i,List.map_cons,List.sum_cons]
theorem ze9(mine side paid:Bool)(s n:Int):conL (mine==side) (zn s) paid n=conL (mine==side) s paid n+(match qa9 mine ⟨0,n,Vector.replicate 32 0,0⟩ s paid with | none=>0 | some x=>if x.state=0∧x.own=side then x.h.amount else 0):=by
 unfold zn qa9;by_cases g:s=0
 ·subst g;cases mine<;>cases side<;>simp[conL]<;>omega
 ·by_cases i:s=5
  ·subst i;cases mine<;>cases side<;>simp[conL]
  ·rw[if_neg i,if_neg g];by_cases h:0≤s∧s≤8
   ·rw[if_pos h];simp only;rw[if_neg (fun e=>g e.1)];omega
   ·rw[if_neg h];simp
theorem qzk(mine side paid:Bool)(s:Int)(h:Htlc):conL (mine==side) (zn s) paid h.amount=conL (mine==side) s paid h.amount+(match qa9 mine h s paid with | none=>0 | some x=>if x.state=0∧x.own=side then x.h.amount else 0):=by
 rw[ze9];congr 1;unfold qa9;by_cases g:0≤s∧s≤8
 ·rw[if_pos g,if_pos g]
 ·rw[if_neg g,if_neg g]
theorem qzi{α:Type}(v:Seen α)(G:List α):v.cut.conL G=v.conL G+qc7 true (G.filterMap v.show):=by
 rw[q56];unfold Seen.conL
 induction G with
 | nil=>rfl
 | cons g G m =>
  simp only[List.map_cons,List.sum_cons];have l:=qzk (v.mine g) true (v.paid g) (v.st g) (v.h g);rw[show (v.mine g==true)=v.mine g by cases v.mine g<;>rfl] at l;have i:Go.Proofs.YthnohmjbbeahmaaGreatDoor.conL (v.cut.mine g) (v.cut.st g) (v.cut.paid g) (v.cut.h g).amount=Go.Proofs.YthnohmjbbeahmaaGreatDoor.conL (v.mine g) (v.st g) (v.paid g) (v.h g).amount+(match v.show g with | none=>0 | some x=>if x.state=0∧x.own=true then x.h.amount else 0):=l;rw[i,m];omega
theorem qzj{α:Type}(v:Seen α)(G:List α):v.cut.conR G=v.conR G+qc7 false (G.filterMap v.show):=by
 rw[q56];unfold Seen.conR
 induction G with
 | nil=>rfl
 | cons g G m =>
  simp only[List.map_cons,List.sum_cons];have l:=qzk (v.mine g) false (v.paid g) (v.st g) (v.h g);rw[show (v.mine g==false) = !v.mine g by cases v.mine g<;>rfl] at l;have i:Go.Proofs.YthnohmjbbeahmaaGreatDoor.conL (!v.cut.mine g) (v.cut.st g) (v.cut.paid g) (v.cut.h g).amount=Go.Proofs.YthnohmjbbeahmaaGreatDoor.conL (!v.mine g) (v.st g) (v.paid g) (v.h g).amount+(match v.show g with | none=>0 | some x=>if x.state=0∧x.own=false then x.h.amount else 0):=l;rw[i,m];omega
theorem za0{α:Type}{c:Ch}(v:Seen α)(G:List α){L R:Int}(i:c.xs.Perm (G.filterMap v.show))(H:c.loc=L+v.conL G)(I:c.rem=R+v.conR G)(z:∀y∈c.xs,0≤y.h.amount)(C:0≤c.loc)(D:0≤c.rem)
  (b1:L+v.cut.conL G<18446744073709551616) (b2:R+v.cut.conR G<18446744073709551616) (l:qdj true c.xs≤c.k.nextOwn∧c.k.nextOwn<18446744073709551616) (m:qdj false c.xs≤c.k.nextTheirs∧c.k.nextTheirs<18446744073709551616) :
  c.cut.xs.Perm (G.filterMap v.cut.show)∧c.cut.loc=L+v.cut.conL G∧c.cut.rem=R+v.cut.conR G∧c.cut.k.nextOwn=c.k.nextOwn-qdj true c.xs∧c.cut.k.nextTheirs=c.k.nextTheirs-qdj false c.xs:=by
 have g:∀o,qc7 o c.xs=qc7 o (G.filterMap v.show):=fun o=>q00 o i
 have E:=qzi v G
 have F:=qzj v G
 obtain⟨q,t,w,x⟩:=zbm c.xs c z C D (by rw[g];omega) (by rw[g];omega) l.1 l.2 m.1 m.2
 refine⟨zaz v i,?_,?_,w,x⟩
 ·show (c.xs.foldl zc c).loc=_;rw[q,g];omega
 ·show (c.xs.foldl zc c).rem=_;rw[t,g];omega
def gvL(ours:Bool)(x:Live):Int:=if qc2 ours x.own x.state then 0 else if qen ours x.own x.state&&x.paid then (if x.own then 0 else x.h.amount) else (if x.own then x.h.amount else 0)
def gvR(ours:Bool)(x:Live):Int:=if qc2 ours x.own x.state then 0 else if qen ours x.own x.state&&x.paid then (if x.own then x.h.amount else 0) else (if x.own then 0 else x.h.amount)
theorem q2b(l n:Int):IntKind.u64.wrap (IntKind.u64.wrap l+n)=IntKind.u64.wrap (l+n):=by
 simp only[IntKind.wrap_u64];omega
theorem q9q(ours:Bool)(l r:Int)(x:Live):qbr ours (IntKind.u64.wrap l,IntKind.u64.wrap r) x=(IntKind.u64.wrap (l+gvL ours x),IntKind.u64.wrap (r+gvR ours x)):=by
 unfold qbr gvL gvR qdc;cases qc2 ours x.own x.state<;>cases (qen ours x.own x.state&&x.paid)<;>cases x.own<;>simp[q2b]
theorem q9s(ours:Bool)(xs:List Live):∀l r:Int,zw ours (IntKind.u64.wrap l) (IntKind.u64.wrap r) xs=(IntKind.u64.wrap (l+(xs.map (gvL ours)).sum),IntKind.u64.wrap (r+(xs.map (gvR ours)).sum)):=by
 unfold zw
 induction xs with
 | nil =>
  intro l r;show (_,_)=(IntKind.u64.wrap (l+0),IntKind.u64.wrap (r+0));rw[Int.add_zero,Int.add_zero]
 | cons x xs g =>
  intro l r;rw[List.foldl_cons,q9q,g,List.map_cons,List.map_cons,List.sum_cons,List.sum_cons,Int.add_assoc,Int.add_assoc]
theorem zed(ours:Bool)(xs:List Live){l r:Int}(m:0≤l∧l<18446744073709551616)(o:0≤r∧r<18446744073709551616)(g:0≤l+(xs.map (gvL ours)).sum∧l+(xs.map (gvL ours)).sum<18446744073709551616)(i:0≤r+(xs.map (gvR ours)).sum∧r+(xs.map (gvR ours)).sum<18446744073709551616):zw ours l r xs=(l+(xs.map (gvL ours)).sum,r+(xs.map (gvR ours)).sum):=by
 have:=q9s ours xs l r;rw[qdq m.1 (by omega),qdq o.1 (by omega),qdq g.1 (by omega),qdq i.1 (by omega)] at this;exact this
def tvL(ours mine:Bool)(s:Int)(paid:Bool)(n:Int):Int:=conL mine s paid n+(if 0≤s∧s≤8 then gvL ours ⟨⟨0,n,Vector.replicate 32 0,0⟩,mine,s,paid&&decide (5≤s)⟩ else 0)
def tvR(ours mine:Bool)(s:Int)(paid:Bool)(n:Int):Int:=conL (!mine) s paid n+(if 0≤s∧s≤8 then gvR ours ⟨⟨0,n,Vector.replicate 32 0,0⟩,mine,s,paid&&decide (5≤s)⟩ else 0)
def tvC(ours mine:Bool)(s:Int)(paid:Bool):Nat:=if 0≤s∧s≤8 then (if qc2 ours mine s then 1 else if qen ours mine s&&paid then 2 else 0) else if s=9∧paid=true then 2 else 0
def tvK(k:Nat)(mine:Bool)(n:Int):Int:=if k=1 then (if mine then -n else 0) else if k=2 then (if mine then -n else n) else 0
theorem q07:∀(ours mine:Bool) (s:Fin 9),qen ours mine (s.val:Int)=true→qc2 ours mine (s.val:Int)=false→5≤s.val:=by decide +kernel
theorem zjg(ours mine:Bool)(s:Int)(paid:Bool)(n:Int)(q : -1≤s∧s≤9):tvL ours mine s paid n=tvK (tvC ours mine s paid) mine n:=by
 unfold tvL tvC;by_cases h:0≤s∧s≤8
 ·rw[if_pos h,if_pos h];have i:¬s = -1:=by omega
  have l:¬s=9:=by omega
  have g:=q07 ours mine ⟨s.toNat,by omega⟩;simp only[show ((s.toNat:Nat):Int)=s by omega] at g;unfold conL gvL tvK;rw[if_neg i,if_neg l];simp only;cases o:qc2 ours mine s with
  | true=>cases mine<;>simp
  | false =>
   cases m:qen ours mine s with
   | false=>cases mine<;>cases paid<;>simp<;>omega
   | true =>
    have:=g m o;rw[decide_eq_true (show (5:Int)≤s by omega)];cases mine<;>cases paid<;>simp<;>omega
 ·rw[if_neg h,if_neg h];have:s = -1∨s=9:=by omega
  rcases this with e | e
  ·subst e;cases paid<;>simp[conL,tvK]
  ·subst e;cases mine<;>cases paid<;>simp[conL,tvK]
theorem zjh(ours mine:Bool)(s:Int)(paid:Bool)(n:Int)(q : -1≤s∧s≤9):tvR ours mine s paid n=tvK (tvC ours mine s paid) (!mine) n:=by
 unfold tvR tvC;by_cases h:0≤s∧s≤8
 ·rw[if_pos h,if_pos h];have i:¬s = -1:=by omega
  have l:¬s=9:=by omega
  have g:=q07 ours mine ⟨s.toNat,by omega⟩;simp only[show ((s.toNat:Nat):Int)=s by omega] at g;unfold conL gvR tvK;rw[if_neg i,if_neg l];simp only;cases o:qc2 ours mine s with
  | true=>cases mine<;>simp
  | false =>
   cases m:qen ours mine s with
   | false=>cases mine<;>cases paid<;>simp<;>omega
   | true =>
    have:=g m o;rw[decide_eq_true (show (5:Int)≤s by omega)];cases mine<;>cases paid<;>simp<;>omega
 ·rw[if_neg h,if_neg h];have:s = -1∨s=9:=by omega
  rcases this with e | e
  ·subst e;cases paid<;>simp[conL,tvK]
  ·subst e;cases mine<;>cases paid<;>simp[conL,tvK]
theorem q4a:∀x∈qa3,∀paid:Bool,q1y x.2.2.2.2.1=true→¬(x.2.2.1=1∧x.2.2.2.1=true)→tvC true false (zt x.2.1 false 3) paid=tvC false true x.1 paid:=by decide +kernel
theorem q39:∀x∈qa3,∀paid:Bool,q1y x.2.2.2.2.2=true→¬(x.2.2.1=2∧x.2.2.2.1=true)→tvC true true (zt x.1 true 3) paid=tvC false false x.2.1 paid:=by decide +kernel
end Go.Proofs.YthnohmjbbeahmaaGreatDoor
