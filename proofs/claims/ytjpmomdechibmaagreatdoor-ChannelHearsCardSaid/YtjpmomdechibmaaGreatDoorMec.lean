/-
  The protocol, plain: offers, removals and cuts change no view.
-/
import Derived.Test.YtjpmomdechibmaaGreatDoorMeb
import Derived.Test.YtjpmomdechibmaaGreatDoorCtP
set_option linter.unusedVariables false
set_option linter.unusedSimpArgs false
namespace Go.Proofs.YtjpmomdechibmaaGreatDoor
open Go.RowKit
theorem qpg(ours own:Bool):qcg ours own 0=false∧qdu ours own 0=false:=by cases ours<;>cases own<;>decide
theorem qjx(ours own:Bool):qcg ours own 4=true∧qcg ours own 5=true:=by cases ours<;>cases own<;>decide
theorem qm7(ours:Bool)(p:Int × Int){x:Live}(h:x.state=0):qa9 ours p x=qcn x.own x.h.amount p:=by
 unfold qa9
 obtain⟨a1,a2⟩:=qpg ours x.own
 rw[h,a1,a2]
 rfl
theorem qmi(ours:Bool)(p:Int × Int){x:Live}(h:x.state=4∨x.state=5):qa9 ours p x=p:=by
 unfold qa9
 obtain⟨a1,a2⟩:=qjx ours x.own
 rcases h with h | h
 ·rw[h,a1];rfl
 ·rw[h,a2];rfl
theorem qsp(ours:Bool)(l r:Int)(xs:List Live)(x:Live):zm ours l r (xs++[x])=xs.foldl (qa9 ours) (qa9 ours (l,r) x):=by
 unfold zm
 rw[List.foldl_append,List.foldl_cons,List.foldl_nil,qhv]
theorem q8f(ours:Bool){l r:Int}(xs:List Live){x:Live}(h:x.state=0)(g:x.own=true)(f:0≤l∧l<18446744073709551616):zm ours (l-x.h.amount) r (xs++[x])=zm ours l r xs:=by
 rw[qsp,qm7 ours _ h,g]
 unfold qcn zm
 simp only[if_true]
 rw[show l-x.h.amount+x.h.amount=l by omega,qd3 f.1 (by omega)]
theorem q0i(ours:Bool){l r:Int}(xs:List Live){x:Live}(h:x.state=0)(f:x.own=false)(g:0≤r∧r<18446744073709551616):zm ours l (r-x.h.amount) (xs++[x])=zm ours l r xs:=by
 rw[qsp,qm7 ours _ h,f]
 unfold qcn zm
 simp only[Bool.false_eq_true,if_false]
 rw[show r-x.h.amount+x.h.amount=r by omega,qd3 g.1 (by omega)]
theorem qps(ours:Bool)(xs:List Live){x:Live}(h:x.state=0):qz ours (xs++[x])=qz ours xs:=by
 unfold qz
 rw[List.filter_append,List.filter_cons,h,(qpg ours x.own).1]
 simp
theorem qxw(ours:Bool)(l r:Int){xs:List Live}{i:Nat}{x y:Live}(f:xs[i]? = some x)(g:x.state=4∨x.state=5)(j:y.state=4∨y.state=5):zm ours l r (xs.set i y)=zm ours l r xs:=by
 unfold zm
 have key:∀(xs:List Live) (i:Nat) (p:Int × Int),xs[i]? = some x→(xs.set i y).foldl (qa9 ours) p=xs.foldl (qa9 ours) p:=by
  intro xs
  induction xs with
  | nil=>intro i p h;cases h
  | cons z o m =>
   intro i p h
   cases i with
   | zero =>
    rw[List.getElem?_cons_zero] at h
    injection h with h
    subst h
    rw[List.set_cons_zero,List.foldl_cons,List.foldl_cons,qmi ours p g,qmi ours p j]
   | succ i =>
    rw[List.set_cons_succ,List.foldl_cons,List.foldl_cons]
    exact m i _ (by rw[List.getElem?_cons_succ] at h;exact h)
 exact key xs i (l,r) f
theorem qr3(ours:Bool){xs:List Live}{i:Nat}{x y:Live}(f:xs[i]? = some x)(q:x.state=4∨x.state=5)(t:y.state=4∨y.state=5)(o:y.own=x.own)(m:y.h=x.h):qz ours (xs.set i y)=qz ours xs:=by
 have g:qcg ours x.own x.state=true:=by
  obtain⟨a1,a2⟩:=qjx ours x.own
  rcases q with e | e<;>rw[e]<;>assumption
 have j:qcg ours y.own y.state=true:=by
  obtain⟨a1,a2⟩:=qjx ours y.own
  rcases t with e | e<;>rw[e]<;>assumption
 unfold qz
 induction xs generalizing i with
 | nil=>cases f
 | cons z v l =>
  cases i with
  | zero =>
   rw[List.getElem?_cons_zero] at f
   injection f with f
   subst f
   rw[List.set_cons_zero,List.filter_cons,List.filter_cons,g,j]
   simp only[if_true,List.map_cons]
   rw[o,m]
  | succ i =>
   rw[List.getElem?_cons_succ] at f
   rw[List.set_cons_succ,List.filter_cons,List.filter_cons]
   cases qcg ours z.own z.state with
   | true=>simp only[if_true,List.map_cons];rw[l f]
   | false=>simpa using l f
theorem q8d(ours:Bool)(f:List Live):∀c:Ch,zm ours (f.foldl zc c).loc (f.foldl zc c).rem (qd7 f)=zm ours c.loc c.rem f:=by
 unfold zm
 induction f with
 | nil=>intro c;rfl
 | cons y f m =>
  intro c
  rw[List.foldl_cons,List.foldl_cons]
  by_cases g:y.state=0
  ·have i:qd7 (y::f)=qd7 f:=by unfold qd7;rw[List.filter_cons,g];rfl
   have j:((zc c y).loc,(zc c y).rem)=qcn y.own y.h.amount (c.loc,c.rem):=by
    rw[←qrv]
    unfold zc
    rw[if_pos g]
    cases y.own<;>rfl
   rw[i,m,j,qm7 ours _ g]
  ·have o:zc c y=c:=by unfold zc;rw[if_neg g]
   have i:qd7 (y::f)=zy y::qd7 f:=by
    unfold qd7
    rw[List.filter_cons]
    have:(!(y.state==0))=true:=by simpa using g
    rw[this]
    rfl
   have j:∀p,qa9 ours p (zy y)=qa9 ours p y:=by
    intro p
    unfold zy
    by_cases l:y.state=5
    ·rw[if_pos l,qmi ours p (.inr l)]
     exact qmi ours p (.inl rfl)
    ·rw[if_neg l]
   rw[o,i,List.foldl_cons,qhv,m,j,qhv]
theorem q29(ours:Bool)(f:List Live):qz ours (qd7 f)=qz ours f:=by
 unfold qz qd7
 induction f with
 | nil=>rfl
 | cons y f j =>
  have q:(y::f).filter (fun x:Live=>qcg ours x.own x.state)=if qcg ours y.own y.state=true then y::f.filter (fun x:Live=>qcg ours x.own x.state) else f.filter (fun x:Live=>qcg ours x.own x.state):=List.filter_cons ..
  rw[q,List.filter_cons]
  by_cases l:y.state=0
  ·rw[l,(qpg ours y.own).1]
   simpa using j
  ·have g:(!(y.state==0))=true:=by simpa using l
   rw[g]
   simp only[if_true,List.map_cons]
   rw[List.filter_cons]
   have m:qcg ours (zy y).own (zy y).state=qcg ours y.own y.state:=by
    unfold zy
    by_cases i:y.state=5
    ·rw[if_pos i,i,(qjx ours y.own).2]
     exact(qjx ours y.own).1
    ·rw[if_neg i]
   have o:(⟨(zy y).own==ours,(zy y).h⟩:Item)=⟨y.own==ours,y.h⟩:=by
    unfold zy
    split<;>rfl
   rw[m]
   cases qcg ours y.own y.state with
   | true=>simp only[if_true,List.map_cons];rw[o,j]
   | false=>simpa using j
theorem qff{ours:Bool}{l r g i:Int}{xs f:List Live}(key:ByteArray)(ch n:Int)(j:zm ours l r xs=zm ours g i f)(m:qz ours xs=qz ours f):zx ours key ch n l r xs=zx ours key ch n g i f:=by
 unfold zx qhb qhc
 rw[j,m]
theorem qx4(ours:Bool)(key:ByteArray)(ch n:Int)(c:Ch):zx ours key ch n c.cut.loc c.cut.rem c.cut.xs=zx ours key ch n c.loc c.rem c.xs :=
 qff key ch n (q8d ours c.xs c) (q29 ours c.xs)
end Go.Proofs.YtjpmomdechibmaaGreatDoor
namespace Go.Proofs.YtjpmomdechibmaaGreatDoor
@[reducible] def It:=Int × Int × Nat × Bool × Nat × Nat
def qat:List It:=[(-1,-1,0,false,0,0),(-1,-1,0,false,0,2),(-1,-1,0,false,0,4),(-1,-1,0,false,0,1),(-1,-1,0,false,0,3),(-1,-1,0,false,2,0),(-1,-1,0,false,2,2),(-1,-1,0,false,4,0),(-1,-1,0,false,1,0),(-1,-1,0,false,1,1),(-1,-1,0,false,3,0),(0,-1,1,false,0,0),(0,-1,1,false,0,2),(0,-1,1,false,0,4),(0,-1,1,false,0,1),(0,-1,1,false,0,3),(0,-1,1,false,2,0),(0,-1,1,false,2,2),(0,-1,1,false,4,0),(0,-1,1,false,1,0),(0,-1,1,false,1,1),(0,-1,1,false,3,0),(0,0,0,false,0,0),(0,0,0,false,0,2),(0,0,0,false,0,4),(0,0,0,false,0,1),(0,0,0,false,0,3),(0,0,0,false,2,0),(0,0,0,false,2,2),(1,-1,1,true,4,0),(1,-1,1,true,1,0),(1,-1,1,true,1,1),(1,-1,1,true,3,0),(1,0,0,false,4,0),(1,0,0,false,1,0),(1,0,0,false,1,1),(1,0,0,false,3,0),(1,2,0,false,0,2),(1,2,0,false,0,3),(1,2,0,false,2,2),(1,3,0,false,0,4),(2,2,0,false,0,0),(2,2,0,false,0,2),(2,2,0,false,2,0),(2,2,0,false,4,0),(2,2,0,false,1,0),(2,3,0,false,0,4),(2,3,0,false,0,1),(2,3,0,false,0,3),(2,3,0,false,1,1),(4,3,0,false,2,0),(4,3,0,false,2,2),(4,3,0,false,4,0),(4,3,0,false,3,0),(4,4,0,false,0,0),(4,4,0,false,0,2),(4,4,0,false,0,4),(4,4,0,false,0,1),(4,4,0,false,0,3),(4,4,0,false,2,0),(4,4,0,false,2,2),(4,4,0,false,4,0),(4,4,0,false,1,0),(4,4,0,false,1,1),(4,4,0,false,3,0),(4,5,2,false,0,0),(4,5,2,false,0,2),(4,5,2,false,0,4),(4,5,2,false,0,1),(4,5,2,false,0,3),(4,5,2,false,2,0),(4,5,2,false,2,2),(4,5,2,false,4,0),(4,5,2,false,1,0),(4,5,2,false,1,1),(4,5,2,false,3,0),(4,6,2,true,0,4),(4,6,2,true,0,1),(4,6,2,true,0,3),(4,6,2,true,1,1),(5,5,0,false,0,0),(5,5,0,false,0,2),(5,5,0,false,2,0),(5,5,0,false,2,2),(5,5,0,false,4,0),(5,5,0,false,1,0),(5,5,0,false,3,0),(5,6,0,false,0,4),(5,6,0,false,0,1),(5,6,0,false,0,3),(5,6,0,false,1,1),(7,6,0,false,2,0),(7,6,0,false,2,2),(7,6,0,false,3,0),(7,7,0,false,0,0),(7,7,0,false,0,2),(7,7,0,false,0,4),(7,7,0,false,0,1),(7,7,0,false,2,0),(8,6,0,false,4,0),(8,7,0,false,4,0),(8,7,0,false,1,0),(8,7,0,false,1,1),(8,7,0,false,3,0),(8,9,0,false,0,2),(8,9,0,false,0,4),(8,9,0,false,0,3),(8,9,0,false,2,2),(9,9,0,false,0,0),(9,9,0,false,0,2),(9,9,0,false,0,4),(9,9,0,false,0,1),(9,9,0,false,0,3),(9,9,0,false,2,0),(9,9,0,false,2,2),(9,9,0,false,4,0),(9,9,0,false,1,0),(9,9,0,false,1,1),(9,9,0,false,3,0)]
def quv(w:Nat):Nat:=if w=0 then 1 else if w=2 then 4 else 9
def quu(w:Nat):Nat:=if w=0 then 2 else if w=1 then 3 else 9
def q4r(w:Nat):Nat:=if w=3 then 2 else if w=4 then 1 else 0
def qak(w:Nat):Bool:=w==1 || w==3 || w==4
def qbi(w:Nat):Bool:=w==2 || w==3 || w==4
def qxy(w:Nat):Bool:=w==1 || w==3
def zc4(w:Nat):Bool:=w==2 || w==4
def It.offer:It→It | (_,_,_,_,f,g)=>(0,-1,1,false,f,g)
def It.signA:It→It | (sa,sb,up,cov,f,g)=>(q8 sa true 1,sb,up,if up=1 then true else cov,quv f,g)
def It.signB:It→It | (sa,sb,up,cov,f,g)=>(sa,q8 sb false 1,up,if up=2 then true else cov,f,quv g)
def It.remove:It→It | (sa,_,_,_,f,g)=>(sa,5,2,false,f,g)
def It.hearAdd:It→It | (sa,_,_,_,f,g)=>(sa,0,0,false,f,g)
def It.hearRem:It→It | (_,sb,_,_,f,g)=>(5,sb,0,false,f,g)
def It.hearSB:It→It | (sa,sb,up,cov,f,g)=>(sa,q8 (q8 sb false 3) false 4,up,cov,q4r f,quu g)
def It.hearSA:It→It | (sa,sb,up,cov,f,g)=>(q8 (q8 sa true 3) true 4,sb,up,cov,quu f,q4r g)
def It.hearRA:It→It | (sa,sb,up,cov,f,g)=>(q8 sa true 2,sb,up,cov,f,q4r g)
def It.hearRB:It→It | (sa,sb,up,cov,f,g)=>(sa,q8 sb false 2,up,cov,q4r f,g)
def zdk(f g:Int)(i j:Nat):It:=if f=1∧g = -1 then (f,g,1,true,i,j) else if f=4∧g=6 then (f,g,2,true,i,j) else (f,g,0,false,i,j)
def zf(s:Int):Int:=if s=5 then 4 else if s=0 then -1 else s
def It.cut:It→It | (sa,sb,_,_,f,g)=>zdk (zf sa) (zf sb) f g
theorem qw7:∀x∈qat,x.1 = -1→x.2.1 = -1→It.offer x∈qat:=by decide +kernel
theorem qw9:∀x∈qat,qak x.2.2.2.2.1=false→qbi x.2.2.2.2.2=false→It.signA x∈qat:=by decide +kernel
theorem qxa:∀x∈qat,qak x.2.2.2.2.2=false→qbi x.2.2.2.2.1=false→It.signB x∈qat:=by decide +kernel
theorem qug:∀x∈qat,x.2.1=4→It.remove x∈qat∧x.2.2.1=0:=by decide +kernel
theorem qq9:∀x∈qat,x.2.2.1=1→(x.2.2.2.1=true∨qak x.2.2.2.2.1=false)→It.hearAdd x∈qat∧x.2.1 = -1∧(x.1=0∨x.1=1):=by decide +kernel
theorem qra:∀x∈qat,x.2.2.1=2→(x.2.2.2.1=true∨qak x.2.2.2.2.2=false)→It.hearRem x∈qat∧x.1=4:=by decide +kernel
theorem que:∀x∈qat,qxy x.2.2.2.2.1=true→¬(x.2.2.1=1∧x.2.2.2.1=true)→It.hearSB x∈qat:=by decide +kernel
theorem qud:∀x∈qat,qxy x.2.2.2.2.2=true→¬(x.2.2.1=2∧x.2.2.2.1=true)→It.hearSA x∈qat:=by decide +kernel
theorem qub:∀x∈qat,zc4 x.2.2.2.2.2=true→It.hearRA x∈qat:=by decide +kernel
theorem quc:∀x∈qat,zc4 x.2.2.2.2.1=true→It.hearRB x∈qat:=by decide +kernel
theorem q30:∀x∈qat,It.cut x∈qat:=by decide +kernel
end Go.Proofs.YtjpmomdechibmaaGreatDoor
namespace Go.Proofs.YtjpmomdechibmaaGreatDoor
open Go.RowKit
theorem q2z{α:Type}{c:Ch}{ev:Int}{G:List α}(f f':α→Option Live)(q:c.xs.Perm (G.filterMap f))(o:∀g∈G,f' g=((f g).map (aft ev)).filter (fun x=> !(x.state==9))):(c.goOn ev).xs.Perm (G.filterMap f'):=by
 show (qcl (zk ev c.xs)).Perm _
 have m:(qcl (zk ev c.xs)).Perm (qcl (zk ev (G.filterMap f))):=by
  unfold qcl zk
  exact(q.map _).filter _
 refine m.trans (List.Perm.of_eq ?_)
 unfold qcl zk
 clear q m
 induction G with
 | nil=>rfl
 | cons g G l =>
  have l:=l (fun y v=>o y (List.mem_cons_of_mem _ v))
  have j:=o g (List.mem_cons_self ..)
  cases i:f g with
  | none =>
   rw[i] at j
   rw[List.filterMap_cons_none i,List.filterMap_cons_none j]
   exact l
  | some x =>
   rw[i] at j
   rw[List.filterMap_cons_some i,List.map_cons,List.filter_cons]
   cases t:(!((aft ev x).state==9)) with
   | true =>
    have e:f' g=some (aft ev x):=by rw[j];simp only[Option.map_some,Option.filter_some,t,if_true]
    rw[List.filterMap_cons_some e,if_pos rfl,l]
   | false =>
    have e:f' g=none:=by rw[j];simp only[Option.map_some,Option.filter_some,t,Bool.false_eq_true,if_false]
    rw[List.filterMap_cons_none e,if_neg (by decide),l]
def qbo(f:Bool)(g:List Live):Int:=(g.map fun y=>if y.state=9∧(y.own != y.paid)=f then y.h.amount else 0).sum
theorem qes(j:Bool)(f:List Live)(h:∀y∈f,0≤y.h.amount):0≤qbo j f:=by
 unfold qbo
 induction f with
 | nil=>exact Int.le_refl _
 | cons y f i =>
  rw[List.map_cons,List.sum_cons]
  have l:=i (fun z g=>h z (List.mem_cons_of_mem _ g))
  have m:=h y (List.mem_cons_self ..)
  split<;>omega
theorem qfu{l m:List Int}(p:l.Perm m):l.sum=m.sum:=by
 induction p with
 | nil=>rfl
 | cons x _ i=>rw[List.sum_cons,List.sum_cons,i]
 | swap x y l=>simp only[List.sum_cons];omega
 | trans _ _ f g=>exact f.trans g
theorem qtr(f:Bool){xs g:List Live}(p:xs.Perm g):qbo f xs=qbo f g:=by
 unfold qbo
 exact qfu (p.map _)
theorem q2u(f:List Live):∀c:Ch,(∀y∈f,0≤y.h.amount)→0≤c.loc→0≤c.rem→c.loc+qbo true f<18446744073709551616→c.rem+qbo false f<18446744073709551616 →
  (f.foldl qbh c).loc=c.loc+qbo true f∧(f.foldl qbh c).rem=c.rem+qbo false f:=by
 induction f with
 | nil =>
  intro c _ _ _ _ _
  exact⟨(Int.add_zero _).symm,(Int.add_zero _).symm⟩
 | cons y f x =>
  intro c C E F m o
  have g:∀z∈f,0≤z.h.amount:=fun z H=>C z (List.mem_cons_of_mem _ H)
  have I:=C y (List.mem_cons_self ..)
  have J:=qes true f g
  have K:=qes false f g
  have e:∀v,qbo v (y::f)=(if y.state=9∧(y.own != y.paid)=v then y.h.amount else 0)+qbo v f:=fun v=>by unfold qbo;rw[List.map_cons,List.sum_cons]
  rw[e] at m o
  rw[List.foldl_cons,e,e]
  by_cases i:y.state=9
  ·have w:qbh c y=c.give (y.own != y.paid) y.h.amount:=by unfold qbh;rw[if_pos i]
   rw[w]
   cases D:(y.own != y.paid) with
   | true =>
    rw[D] at m o
    rw[if_pos ⟨i,rfl⟩] at m
    rw[if_neg (fun h=>by cases h.2)] at o
    rw[if_pos ⟨i,rfl⟩,if_neg (fun h=>by cases h.2)]
    have j:(c.give true y.h.amount).loc=c.loc+y.h.amount:=by
     show IntKind.u64.wrap (c.loc+y.h.amount)=_
     exact qd3 (by omega) (by omega)
    have l:(c.give true y.h.amount).rem=c.rem:=rfl
    obtain⟨q,t⟩:=x (c.give true y.h.amount) g (by rw[j];omega) (by rw[l];omega) (by rw[j];omega) (by rw[l];omega)
    rw[q,t,j,l]
    exact⟨by omega,by omega⟩
   | false =>
    rw[D] at m o
    rw[if_neg (fun h=>by cases h.2)] at m
    rw[if_pos ⟨i,rfl⟩] at o
    rw[if_neg (fun h=>by cases h.2),if_pos ⟨i,rfl⟩]
    have j:(c.give false y.h.amount).loc=c.loc:=rfl
    have l:(c.give false y.h.amount).rem=c.rem+y.h.amount:=by
     show IntKind.u64.wrap (c.rem+y.h.amount)=_
     exact qd3 (by omega) (by omega)
    obtain⟨q,t⟩:=x (c.give false y.h.amount) g (by rw[j];omega) (by rw[l];omega) (by rw[j];omega) (by rw[l];omega)
    rw[q,t,j,l]
    exact⟨by omega,by omega⟩
  ·have w:qbh c y=c:=by unfold qbh;rw[if_neg i]
   rw[if_neg (fun h=>i h.1)] at m o
   rw[w,if_neg (fun h=>i h.1),if_neg (fun h=>i h.1)]
   obtain⟨q,t⟩:=x c g E F (by omega) (by omega)
   rw[q,t]
   exact⟨by omega,by omega⟩
theorem q2x(c:Ch)(ev:Int)(i:∀y∈c.xs,0≤y.h.amount)(j:0≤c.loc)(l:0≤c.rem)(f:c.loc+qbo true (zk ev c.xs)<18446744073709551616)(g:c.rem+qbo false (zk ev c.xs)<18446744073709551616) :
  (c.goOn ev).loc=c.loc+qbo true (zk ev c.xs)∧(c.goOn ev).rem=c.rem+qbo false (zk ev c.xs) :=
 q2u _ c (fun y o=>by
  obtain⟨x,m,rfl⟩:=List.mem_map.1 o
  exact i x m) j l f g
theorem qda{α:Type}(y:α):∀(xs:List α) (i:Nat) (x:α),xs[i]? = some x→xs.Perm (x::xs.eraseIdx i)∧(xs.set i y).Perm (y::xs.eraseIdx i)
 | [],_,_,h=>by cases h
 | z::zs,0,x,h=>by
  rw[List.getElem?_cons_zero] at h
  injection h with h
  subst h
  exact⟨List.Perm.refl _,List.Perm.refl _⟩
 | z::zs,i+1,x,h=>by
  rw[List.getElem?_cons_succ] at h
  obtain⟨f,g⟩:=qda y zs i x h
  rw[List.set_cons_succ,List.eraseIdx_cons_succ]
  exact⟨(f.cons z).trans (List.Perm.swap x z _),(g.cons z).trans (List.Perm.swap y z _)⟩
theorem qx3{α:Type}{G:List α}{j:Nat}{g g':α}(f:α→Option Live){xs:List Live}{i:Nat}{x y:Live}(D:xs.Perm (G.filterMap f))(z:G[j]? = some g)(w:f g=some x)(l:f g'=some y)(C:xs[i]? = some x):(xs.set i y).Perm ((G.set j g').filterMap f):=by
 obtain⟨t,v⟩:=qda g' G j g z
 obtain⟨E,F⟩:=qda y xs i x C
 have m:(G.filterMap f).Perm (x::(G.eraseIdx j).filterMap f):=by
  have:=t.filterMap f
  rwa [List.filterMap_cons_some w] at this
 have o:((G.set j g').filterMap f).Perm (y::(G.eraseIdx j).filterMap f):=by
  have:=v.filterMap f
  rwa [List.filterMap_cons_some l] at this
 have q:(xs.eraseIdx i).Perm ((G.eraseIdx j).filterMap f):=((E.symm.trans D).trans m).cons_inv
 exact F.trans ((q.cons y).trans o.symm)
theorem q2a{α:Type}{G:List α}{j:Nat}{g g':α}(f:α→Option Live){xs:List Live}{y:Live}(w:xs.Perm (G.filterMap f))(v:G[j]? = some g)(t:f g=none)(i:f g'=some y):(xs++[y]).Perm ((G.set j g').filterMap f):=by
 obtain⟨o,q⟩:=qda g' G j g v
 have l:(G.filterMap f).Perm ((G.eraseIdx j).filterMap f):=by
  have:=o.filterMap f
  rwa [List.filterMap_cons_none t] at this
 have m:((G.set j g').filterMap f).Perm (y::(G.eraseIdx j).filterMap f):=by
  have:=q.filterMap f
  rwa [List.filterMap_cons_some i] at this
 exact(List.perm_append_singleton y xs).trans (((w.trans l).cons y).trans m.symm)
theorem q35{α:Type}{G:List α}{j:Nat}{g g':α}(f:α→Option Live){xs:List Live}(w:xs.Perm (G.filterMap f))(v:G[j]? = some g)(t:f g'=f g):xs.Perm ((G.set j g').filterMap f):=by
 obtain⟨o,q⟩:=qda g' G j g v
 have l:=o.filterMap f
 have i:=q.filterMap f
 have m:(g'::G.eraseIdx j).filterMap f=(g::G.eraseIdx j).filterMap f:=by
  rw[List.filterMap_cons,List.filterMap_cons,t]
 rw[m] at i
 exact w.trans (l.trans i.symm)
theorem qgi{own:Bool}{id:Int}{xs:List Live}{i:Nat}{x:Live}(h:qcr own id xs=some (i,x)):xs[i]? = some x∧x.own=own∧x.h.id=id∧x.state=4:=by
 obtain⟨-,g,f⟩:=qgh h
 unfold qf1 at f
 simp only[Bool.and_eq_true,beq_iff_eq] at f
 exact⟨g,f.1,f.2.1,f.2.2⟩
theorem qvd{own:Bool}{id:Int}{xs:List Live}{x:Live}(z:x∈xs)(t:x.own=own)(q:x.h.id=id)(v:x.state=4)(w:∀y∈xs,y.own=own→y.h.id=id→y=x):∃i,qcr own id xs=some (i,x):=by
 cases f:qcr own id xs with
 | none =>
  exfalso
  unfold qcr at f
  cases g:xs.findIdx? (qf1 own id) with
  | none =>
   have:=List.findIdx?_eq_none_iff.1 g x z
   unfold qf1 at this
   simp[t,q,v] at this
  | some k =>
   rw[g] at f
   have f:Option.map (fun x=>(k,x)) xs[k]? = none:=f
   obtain⟨j,-,-⟩:=List.findIdx?_eq_some_iff_getElem.1 g
   rw[List.getElem?_eq_getElem j] at f
   cases f
 | some p =>
  obtain⟨i,y⟩:=p
  obtain⟨l,m,o,-⟩:=qgi f
  have:=w y (List.mem_of_getElem? l) m o
  subst this
  exact⟨i,rfl⟩
def qax(own:Bool)(h:Htlc)(s:Int)(paid:Bool):Option Live:=if 0≤s∧s≤8 then some ⟨h,own,s,paid&&decide (5≤s)⟩ else none
inductive En where
 | upd (j:Nat)
 | sgn
 | rev
 | shut
def qj:List En→Nat
 | []=>0
 | .upd _::es=>qj es
 | .shut::es=>qj es
 | .sgn::es=>if qj es=0 then 1 else if qj es=2 then 3 else 9
 | .rev::es=>if qj es=0 then 2 else if qj es=1 then 4 else 9
theorem qij(es:List En)(j:Nat):qj (es++[.upd j])=qj es:=by
 induction es with
 | nil=>rfl
 | cons e es f=>cases e<;>simp only[List.cons_append,qj,f]
theorem qqs(es:List En):qj (es++[.shut])=qj es:=by
 induction es with
 | nil=>rfl
 | cons e es f=>cases e<;>simp only[List.cons_append,qj,f]
theorem qsy(es:List En)(h:qj es=0∨qj es=2):qj (es++[.sgn])=quv (qj es):=by
 induction es with
 | nil=>rfl
 | cons e es g =>
  cases e with
  | upd j=>exact g h
  | shut=>exact g h
  | sgn =>
   exfalso
   unfold qj at h
   split at h
   ·omega
   ·split at h<;>omega
  | rev =>
   have f:qj es=0:=by
    unfold qj at h
    split at h
    ·assumption
    ·split at h<;>omega
   have:=g (.inl f)
   rw[f] at this
   show (if qj (es++[.sgn])=0 then 2 else if qj (es++[.sgn])=1 then 4 else 9)=quv (if qj es=0 then 2 else if qj es=1 then 4 else 9)
   rw[this,f]
   rfl
theorem qsx(es:List En)(h:qj es=0∨qj es=1):qj (es++[.rev])=quu (qj es):=by
 induction es with
 | nil=>rfl
 | cons e es g =>
  cases e with
  | upd j=>exact g h
  | shut=>exact g h
  | rev =>
   exfalso
   unfold qj at h
   split at h
   ·omega
   ·split at h<;>omega
  | sgn =>
   have f:qj es=0:=by
    unfold qj at h
    split at h
    ·assumption
    ·split at h<;>omega
   have:=g (.inl f)
   rw[f] at this
   show (if qj (es++[.rev])=0 then 1 else if qj (es++[.rev])=2 then 3 else 9)=quu (if qj es=0 then 1 else if qj es=2 then 3 else 9)
   rw[this,f]
   rfl
def conL(mine:Bool)(s:Int)(paid:Bool)(n:Int):Int:=if s = -1 then 0 else if s=9 then (if paid then (if mine then -n else n) else 0) else (if mine then -n else 0)
def zl(s:Int)(mine:Bool)(ev:Int):Int:=if 0≤s∧s≤8 then q8 s mine ev else s
theorem qdz{s:Int}{mine:Bool}{ev:Int}(h:0≤s∧s≤8):q8 s mine ev=s∨q8 s mine ev=s+1:=by
 unfold q8
 split
 ·exact .inr rfl
 ·exact .inl rfl
theorem q5f{s:Int}(mine paid:Bool)(ev n:Int)(h:0≤s∧s≤8):conL mine (q8 s mine ev) paid n=conL mine s paid n+(if q8 s mine ev=9∧(mine != (paid&&decide (5≤s)))=true then n else 0):=by
 by_cases f:q8 s mine ev=9
 ·have l:s=8:=by rcases qdz (mine:=mine) (ev:=ev) h with e | e<;>omega
  rw[f]
  subst l
  cases mine<;>cases paid<;>simp[conL]<;>omega
 ·rw[if_neg (fun e=>f e.1),Int.add_zero]
  have j:¬q8 s mine ev = -1:=by
   intro m
   rcases qdz (mine:=mine) (ev:=ev) h with e | e<;>omega
  have g:conL mine (q8 s mine ev) paid n=if mine then -n else 0:=by unfold conL;rw[if_neg j,if_neg f]
  have i:conL mine s paid n=if mine then -n else 0:=by unfold conL;rw[if_neg (show ¬s = -1 by omega),if_neg (show ¬s=9 by omega)]
  rw[g,i]
structure Seen(α:Type) where
 mine:α→Bool
 st:α→Int
 h:α→Htlc
 paid:α→Bool
def Seen.show{α:Type}(v:Seen α)(g:α):Option Live:=qax (v.mine g) (v.h g) (v.st g) (v.paid g)
def Seen.conL{α:Type}(v:Seen α)(G:List α):Int:=(G.map fun g=>Go.Proofs.YtjpmomdechibmaaGreatDoor.conL (v.mine g) (v.st g) (v.paid g) (v.h g).amount).sum
def Seen.conR{α:Type}(v:Seen α)(G:List α):Int:=(G.map fun g=>Go.Proofs.YtjpmomdechibmaaGreatDoor.conL (!v.mine g) (v.st g) (v.paid g) (v.h g).amount).sum
def Seen.on{α:Type}(v:Seen α)(ev:Int):Seen α:= {v with st:=fun g=>zl (v.st g) (v.mine g) ev}
theorem qno{α:Type}(j:Bool)(f:α→Option Live)(ev:Int)(G:List α):qbo j (zk ev (G.filterMap f))=(G.map fun g=>match f g with | none=>0 | some x=>if (aft ev x).state=9∧(x.own != x.paid)=j then x.h.amount else 0).sum:=by
 unfold qbo zk
 induction G with
 | nil=>rfl
 | cons g G l =>
  rw[List.map_cons,List.sum_cons,←l]
  cases i:f g with
  | none=>rw[List.filterMap_cons_none i];simp only;omega
  | some x =>
   rw[List.filterMap_cons_some i,List.map_cons,List.map_cons,List.sum_cons]
   rfl
theorem q02{α:Type}(v:Seen α)(ev:Int)(G:List α):(v.on ev).conL G=v.conL G+qbo true (zk ev (G.filterMap v.show)):=by
 rw[qno]
 unfold Seen.conL
 induction G with
 | nil=>rfl
 | cons g G i =>
  simp only[List.map_cons,List.sum_cons]
  have f:Go.Proofs.YtjpmomdechibmaaGreatDoor.conL ((v.on ev).mine g) ((v.on ev).st g) ((v.on ev).paid g) ((v.on ev).h g).amount=Go.Proofs.YtjpmomdechibmaaGreatDoor.conL (v.mine g) (v.st g) (v.paid g) (v.h g).amount+(match v.show g with | none=>0 | some x=>if (aft ev x).state=9∧(x.own != x.paid)=true then x.h.amount else 0):=by
   show Go.Proofs.YtjpmomdechibmaaGreatDoor.conL (v.mine g) (zl (v.st g) (v.mine g) ev) (v.paid g) (v.h g).amount=_
   unfold Seen.show qax zl
   by_cases h:0≤v.st g∧v.st g≤8
   ·rw[if_pos h,if_pos h]
    exact q5f _ _ _ _ h
   ·rw[if_neg h,if_neg h]
    simp
  rw[f,i]
  omega
theorem q2b{s:Int}(mine paid:Bool)(ev n:Int)(h:0≤s∧s≤8):conL (!mine) (q8 s mine ev) paid n=conL (!mine) s paid n+(if q8 s mine ev=9∧(mine != (paid&&decide (5≤s)))=false then n else 0):=by
 by_cases f:q8 s mine ev=9
 ·have l:s=8:=by rcases qdz (mine:=mine) (ev:=ev) h with e | e<;>omega
  rw[f]
  subst l
  cases mine<;>cases paid<;>simp[conL]<;>omega
 ·rw[if_neg (fun e=>f e.1),Int.add_zero]
  have j:¬q8 s mine ev = -1:=by
   intro m
   rcases qdz (mine:=mine) (ev:=ev) h with e | e<;>omega
  have g:conL (!mine) (q8 s mine ev) paid n=if !mine then -n else 0:=by unfold conL;rw[if_neg j,if_neg f]
  have i:conL (!mine) s paid n=if !mine then -n else 0:=by unfold conL;rw[if_neg (show ¬s = -1 by omega),if_neg (show ¬s=9 by omega)]
  rw[g,i]
theorem q03{α:Type}(v:Seen α)(ev:Int)(G:List α):(v.on ev).conR G=v.conR G+qbo false (zk ev (G.filterMap v.show)):=by
 rw[qno]
 unfold Seen.conR
 induction G with
 | nil=>rfl
 | cons g G i =>
  simp only[List.map_cons,List.sum_cons]
  have f:Go.Proofs.YtjpmomdechibmaaGreatDoor.conL (!(v.on ev).mine g) ((v.on ev).st g) ((v.on ev).paid g) ((v.on ev).h g).amount=Go.Proofs.YtjpmomdechibmaaGreatDoor.conL (!v.mine g) (v.st g) (v.paid g) (v.h g).amount+(match v.show g with | none=>0 | some x=>if (aft ev x).state=9∧(x.own != x.paid)=false then x.h.amount else 0):=by
   show Go.Proofs.YtjpmomdechibmaaGreatDoor.conL (!v.mine g) (zl (v.st g) (v.mine g) ev) (v.paid g) (v.h g).amount=_
   unfold Seen.show qax zl
   by_cases h:0≤v.st g∧v.st g≤8
   ·rw[if_pos h,if_pos h]
    exact q2b _ _ _ _ h
   ·rw[if_neg h,if_neg h]
    simp
  rw[f,i]
  omega
theorem q3n(mine:Bool)(ev:Int):q8 4 mine ev=4:=by
 unfold q8
 rw[if_neg]
 rintro ⟨-,f,g⟩
 apply f
 rw[←g]
 cases mine<;>rfl
theorem q9g{s:Int}{mine:Bool}{ev:Int}(h:0≤s∧s≤8):decide (5≤q8 s mine ev)=decide (5≤s):=by
 by_cases g:s=4
 ·rw[g,q3n]
 ·rcases qdz (mine:=mine) (ev:=ev) h with e | e
  ·rw[e]
  ·rw[e]
   by_cases f:5≤s
   ·rw[decide_eq_true f,decide_eq_true (by omega)]
   ·rw[decide_eq_false f,decide_eq_false (by omega)]
theorem zai{α:Type}(v:Seen α)(ev:Int)(g:α):(v.on ev).show g=((v.show g).map (aft ev)).filter (fun x=> !(x.state==9)):=by
 show qax (v.mine g) (v.h g) (zl (v.st g) (v.mine g) ev) (v.paid g)=_
 unfold Seen.show qax zl
 by_cases h:0≤v.st g∧v.st g≤8
 ·rw[if_pos h,if_pos h]
  have l:=qdz (mine:=v.mine g) (ev:=ev) h
  have i:=q9g (mine:=v.mine g) (ev:=ev) h
  show _=(some (aft ev ⟨v.h g,v.mine g,v.st g,v.paid g&&decide (5≤v.st g)⟩)).filter _
  have ea:aft ev ⟨v.h g,v.mine g,v.st g,v.paid g&&decide (5≤v.st g)⟩=⟨v.h g,v.mine g,q8 (v.st g) (v.mine g) ev,v.paid g&&decide (5≤v.st g)⟩:=rfl
  rw[ea,Option.filter_some]
  by_cases f:q8 (v.st g) (v.mine g) ev=9
  ·rw[f,if_neg (by omega),if_neg (by simp)]
  ·have j:0≤q8 (v.st g) (v.mine g) ev∧q8 (v.st g) (v.mine g) ev≤8:=by rcases l with e | e<;>omega
   rw[if_pos j,if_pos (by simpa using f),i]
 ·rw[if_neg h,if_neg h]
  rfl
theorem qhw{α:Type}{c:Ch}(v:Seen α)(ev:Int)(G:List α){L R:Int}(j:c.xs.Perm (G.filterMap v.show))(z:c.loc=L+v.conL G)(C:c.rem=R+v.conR G)(o:∀y∈c.xs,0≤y.h.amount)(q:0≤c.loc)(t:0≤c.rem)
  (b1:L+(v.on ev).conL G<18446744073709551616) (b2:R+(v.on ev).conR G<18446744073709551616) :
  (c.goOn ev).xs.Perm (G.filterMap (v.on ev).show)∧(c.goOn ev).loc=L+(v.on ev).conL G∧(c.goOn ev).rem=R+(v.on ev).conR G:=by
 have f:∀i,qbo i (zk ev c.xs)=qbo i (zk ev (G.filterMap v.show)):=fun i=>qtr i (j.map _)
 have w:=q02 v ev G
 have x:=q03 v ev G
 obtain⟨l,m⟩:=q2x c ev o q t (by rw[f];omega) (by rw[f];omega)
 refine⟨q2z _ _ j (fun g _=>zai v ev g),?_,?_⟩
 ·rw[l,f];omega
 ·rw[m,f];omega
end Go.Proofs.YtjpmomdechibmaaGreatDoor
