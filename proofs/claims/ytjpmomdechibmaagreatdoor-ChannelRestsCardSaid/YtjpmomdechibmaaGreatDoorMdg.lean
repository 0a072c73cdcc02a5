/-
  The protocol, plain: offers, removals and cuts change no view.
-/
import Derived.Test.YtjpmomdechibmaaGreatDoorMdf
import Derived.Test.YtjpmomdechibmaaGreatDoorMdc
set_option linter.unusedVariables false
set_option linter.unusedSimpArgs false
namespace Go.Proofs.YtjpmomdechibmaaGreatDoor
open Go.RowKit
theorem qqd(ours own:Bool):qcs ours own 0=false∧qd5 ours own 0=false:=by cases ours<;>cases own<;>decide
theorem qkh(ours own:Bool):qcs ours own 4=true∧qcs ours own 5=true:=by cases ours<;>cases own<;>decide
theorem qnx(ours:Bool)(p:Int × Int){x:Live}(h:x.state=0):qbj ours p x=qc1 x.own x.h.amount p:=by
 unfold qbj
 obtain⟨a1,a2⟩:=qqd ours x.own
 rw[h,a1,a2]
 rfl
theorem qm6(ours:Bool)(p:Int × Int){x:Live}(h:x.state=4∨x.state=5):qbj ours p x=p:=by
 unfold qbj
 obtain⟨a1,a2⟩:=qkh ours x.own
 rcases h with h | h
 ·rw[h,a1];rfl
 ·rw[h,a2];rfl
theorem qtx(ours:Bool)(l r:Int)(xs:List Live)(x:Live):zn ours l r (xs++[x])=xs.foldl (qbj ours) (qbj ours (l,r) x):=by
 unfold zn
 rw[List.foldl_append,List.foldl_cons,List.foldl_nil,qia]
theorem q97(ours:Bool){l r:Int}(xs:List Live){x:Live}(h:x.state=0)(g:x.own=true)(f:0≤l∧l<18446744073709551616):zn ours (l-x.h.amount) r (xs++[x])=zn ours l r xs:=by
 rw[qtx,qnx ours _ h,g]
 unfold qc1 zn
 simp only[if_true]
 rw[show l-x.h.amount+x.h.amount=l by omega,qeg f.1 (by omega)]
theorem q1z(ours:Bool){l r:Int}(xs:List Live){x:Live}(h:x.state=0)(f:x.own=false)(g:0≤r∧r<18446744073709551616):zn ours l (r-x.h.amount) (xs++[x])=zn ours l r xs:=by
 rw[qtx,qnx ours _ h,f]
 unfold qc1 zn
 simp only[Bool.false_eq_true,if_false]
 rw[show r-x.h.amount+x.h.amount=r by omega,qeg g.1 (by omega)]
theorem qqr(ours:Bool)(xs:List Live){x:Live}(h:x.state=0):zb ours (xs++[x])=zb ours xs:=by
 unfold zb
 rw[List.filter_append,List.filter_cons,h,(qqd ours x.own).1]
 simp
theorem qy4(ours:Bool)(l r:Int){xs:List Live}{i:Nat}{x y:Live}(f:xs[i]? = some x)(g:x.state=4∨x.state=5)(m:y.state=4∨y.state=5):zn ours l r (xs.set i y)=zn ours l r xs:=by
 unfold zn
 have key:∀(xs:List Live) (i:Nat) (p:Int × Int),xs[i]? = some x→(xs.set i y).foldl (qbj ours) p=xs.foldl (qbj ours) p:=by
  intro xs
  induction xs with
  | nil=>intro i p h;cases h
  | cons z q o =>
   intro i p h
   cases i with
   | zero =>
    rw[List.getElem?_cons_zero] at h
    injection h with h
    subst h
    rw[List.set_cons_zero,List.foldl_cons,List.foldl_cons,qm6 ours p g,qm6 ours p m]
   | succ i =>
    rw[List.set_cons_succ,List.foldl_cons,List.foldl_cons]
    exact o i _ (by rw[List.getElem?_cons_succ] at h;exact h)
 exact key xs i (l,r) f
theorem qs9(ours:Bool){xs:List Live}{i:Nat}{x y:Live}(f:xs[i]? = some x)(t:x.state=4∨x.state=5)(v:y.state=4∨y.state=5)(q:y.own=x.own)(o:y.h=x.h):zb ours (xs.set i y)=zb ours xs:=by
 have g:qcs ours x.own x.state=true:=by
  obtain⟨a1,a2⟩:=qkh ours x.own
  rcases t with e | e<;>rw[e]<;>assumption
 have l:qcs ours y.own y.state=true:=by
  obtain⟨a1,a2⟩:=qkh ours y.own
  rcases v with e | e<;>rw[e]<;>assumption
 unfold zb
 induction xs generalizing i with
 | nil=>cases f
 | cons z w m =>
  cases i with
  | zero =>
   rw[List.getElem?_cons_zero] at f
   injection f with f
   subst f
   rw[List.set_cons_zero,List.filter_cons,List.filter_cons,g,l]
   simp only[if_true,List.map_cons]
   rw[q,o]
  | succ i =>
   rw[List.getElem?_cons_succ] at f
   rw[List.set_cons_succ,List.filter_cons,List.filter_cons]
   cases qcs ours z.own z.state with
   | true=>simp only[if_true,List.map_cons];rw[m f]
   | false=>simpa using m f
theorem q95(ours:Bool)(f:List Live):∀c:Ch,zn ours (f.foldl zg c).loc (f.foldl zg c).rem (qek f)=zn ours c.loc c.rem f:=by
 unfold zn
 induction f with
 | nil=>intro c;rfl
 | cons y f o =>
  intro c
  rw[List.foldl_cons,List.foldl_cons]
  by_cases g:y.state=0
  ·have i:qek (y::f)=qek f:=by unfold qek;rw[List.filter_cons,g];rfl
   have l:((zg c y).loc,(zg c y).rem)=qc1 y.own y.h.amount (c.loc,c.rem):=by
    rw[←qsz]
    unfold zg
    rw[if_pos g]
    cases y.own<;>rfl
   rw[i,o,l,qnx ours _ g]
  ·have q:zg c y=c:=by unfold zg;rw[if_neg g]
   have i:qek (y::f)=qae y::qek f:=by
    unfold qek
    rw[List.filter_cons]
    have:(!(y.state==0))=true:=by simpa using g
    rw[this]
    rfl
   have l:∀p,qbj ours p (qae y)=qbj ours p y:=by
    intro p
    unfold qae
    by_cases m:y.state=5
    ·rw[if_pos m,qm6 ours p (.inr m)]
     exact qm6 ours p (.inl rfl)
    ·rw[if_neg m]
   rw[q,i,List.foldl_cons,qia,o,l,qia]
theorem q4w(ours:Bool)(f:List Live):zb ours (qek f)=zb ours f:=by
 unfold zb qek
 induction f with
 | nil=>rfl
 | cons y f l =>
  have t:(y::f).filter (fun x:Live=>qcs ours x.own x.state)=if qcs ours y.own y.state=true then y::f.filter (fun x:Live=>qcs ours x.own x.state) else f.filter (fun x:Live=>qcs ours x.own x.state):=List.filter_cons ..
  rw[t,List.filter_cons]
  by_cases m:y.state=0
  ·rw[m,(qqd ours y.own).1]
   simpa using l
  ·have g:(!(y.state==0))=true:=by simpa using m
   rw[g]
   simp only[if_true,List.map_cons]
   rw[List.filter_cons]
   have o:qcs ours (qae y).own (qae y).state=qcs ours y.own y.state:=by
    unfold qae
    by_cases i:y.state=5
    ·rw[if_pos i,i,(qkh ours y.own).2]
     exact(qkh ours y.own).1
    ·rw[if_neg i]
   have q:(⟨(qae y).own==ours,(qae y).h⟩:Item)=⟨y.own==ours,y.h⟩:=by
    unfold qae
    split<;>rfl
   rw[o]
   cases qcs ours y.own y.state with
   | true=>simp only[if_true,List.map_cons];rw[q,l]
   | false=>simpa using l
theorem qfy{ours:Bool}{l r g i:Int}{xs f:List Live}(key:ByteArray)(ch n:Int)(m:zn ours l r xs=zn ours g i f)(o:zb ours xs=zb ours f):z8 ours key ch n l r xs=z8 ours key ch n g i f:=by
 unfold z8 qhr qhs
 rw[m,o]
theorem qzb(ours:Bool)(key:ByteArray)(ch n:Int)(c:Ch):z8 ours key ch n c.cut.loc c.cut.rem c.cut.xs=z8 ours key ch n c.loc c.rem c.xs :=
 qfy key ch n (q95 ours c.xs c) (q4w ours c.xs)
end Go.Proofs.YtjpmomdechibmaaGreatDoor
namespace Go.Proofs.YtjpmomdechibmaaGreatDoor
@[reducible] def It:=Int × Int × Nat × Bool × Nat × Nat
def qav:List It:=[(-1,-1,0,false,0,0),(-1,-1,0,false,0,2),(-1,-1,0,false,0,4),(-1,-1,0,false,0,1),(-1,-1,0,false,0,3),(-1,-1,0,false,2,0),(-1,-1,0,false,2,2),(-1,-1,0,false,4,0),(-1,-1,0,false,1,0),(-1,-1,0,false,1,1),(-1,-1,0,false,3,0),(0,-1,1,false,0,0),(0,-1,1,false,0,2),(0,-1,1,false,0,4),(0,-1,1,false,0,1),(0,-1,1,false,0,3),(0,-1,1,false,2,0),(0,-1,1,false,2,2),(0,-1,1,false,4,0),(0,-1,1,false,1,0),(0,-1,1,false,1,1),(0,-1,1,false,3,0),(0,0,0,false,0,0),(0,0,0,false,0,2),(0,0,0,false,0,4),(0,0,0,false,0,1),(0,0,0,false,0,3),(0,0,0,false,2,0),(0,0,0,false,2,2),(1,-1,1,true,4,0),(1,-1,1,true,1,0),(1,-1,1,true,1,1),(1,-1,1,true,3,0),(1,0,0,false,4,0),(1,0,0,false,1,0),(1,0,0,false,1,1),(1,0,0,false,3,0),(1,2,0,false,0,2),(1,2,0,false,0,3),(1,2,0,false,2,2),(1,3,0,false,0,4),(2,2,0,false,0,0),(2,2,0,false,0,2),(2,2,0,false,2,0),(2,2,0,false,4,0),(2,2,0,false,1,0),(2,3,0,false,0,4),(2,3,0,false,0,1),(2,3,0,false,0,3),(2,3,0,false,1,1),(4,3,0,false,2,0),(4,3,0,false,2,2),(4,3,0,false,4,0),(4,3,0,false,3,0),(4,4,0,false,0,0),(4,4,0,false,0,2),(4,4,0,false,0,4),(4,4,0,false,0,1),(4,4,0,false,0,3),(4,4,0,false,2,0),(4,4,0,false,2,2),(4,4,0,false,4,0),(4,4,0,false,1,0),(4,4,0,false,1,1),(4,4,0,false,3,0),(4,5,2,false,0,0),(4,5,2,false,0,2),(4,5,2,false,0,4),(4,5,2,false,0,1),(4,5,2,false,0,3),(4,5,2,false,2,0),(4,5,2,false,2,2),(4,5,2,false,4,0),(4,5,2,false,1,0),(4,5,2,false,1,1),(4,5,2,false,3,0),(4,6,2,true,0,4),(4,6,2,true,0,1),(4,6,2,true,0,3),(4,6,2,true,1,1),(5,5,0,false,0,0),(5,5,0,false,0,2),(5,5,0,false,2,0),(5,5,0,false,2,2),(5,5,0,false,4,0),(5,5,0,false,1,0),(5,5,0,false,3,0),(5,6,0,false,0,4),(5,6,0,false,0,1),(5,6,0,false,0,3),(5,6,0,false,1,1),(7,6,0,false,2,0),(7,6,0,false,2,2),(7,6,0,false,3,0),(7,7,0,false,0,0),(7,7,0,false,0,2),(7,7,0,false,0,4),(7,7,0,false,0,1),(7,7,0,false,2,0),(8,6,0,false,4,0),(8,7,0,false,4,0),(8,7,0,false,1,0),(8,7,0,false,1,1),(8,7,0,false,3,0),(8,9,0,false,0,2),(8,9,0,false,0,4),(8,9,0,false,0,3),(8,9,0,false,2,2),(9,9,0,false,0,0),(9,9,0,false,0,2),(9,9,0,false,0,4),(9,9,0,false,0,1),(9,9,0,false,0,3),(9,9,0,false,2,0),(9,9,0,false,2,2),(9,9,0,false,4,0),(9,9,0,false,1,0),(9,9,0,false,1,1),(9,9,0,false,3,0)]
def qv0(w:Nat):Nat:=if w=0 then 1 else if w=2 then 4 else 9
def qvz(w:Nat):Nat:=if w=0 then 2 else if w=1 then 3 else 9
def q6f(w:Nat):Nat:=if w=3 then 2 else if w=4 then 1 else 0
def qas(w:Nat):Bool:=w==1 || w==3 || w==4
def qbq(w:Nat):Bool:=w==2 || w==3 || w==4
def qy6(w:Nat):Bool:=w==1 || w==3
def ze1(w:Nat):Bool:=w==2 || w==4
def It.offer:It→It | (_,_,_,_,f,g)=>(0,-1,1,false,f,g)
def It.signA:It→It | (sa,sb,up,cov,f,g)=>(qv sa true 1,sb,up,if up=1 then true else cov,qv0 f,g)
def It.signB:It→It | (sa,sb,up,cov,f,g)=>(sa,qv sb false 1,up,if up=2 then true else cov,f,qv0 g)
def It.remove:It→It | (sa,_,_,_,f,g)=>(sa,5,2,false,f,g)
def It.hearAdd:It→It | (sa,_,_,_,f,g)=>(sa,0,0,false,f,g)
def It.hearRem:It→It | (_,sb,_,_,f,g)=>(5,sb,0,false,f,g)
def It.hearSB:It→It | (sa,sb,up,cov,f,g)=>(sa,qv (qv sb false 3) false 4,up,cov,q6f f,qvz g)
def It.hearSA:It→It | (sa,sb,up,cov,f,g)=>(qv (qv sa true 3) true 4,sb,up,cov,qvz f,q6f g)
def It.hearRA:It→It | (sa,sb,up,cov,f,g)=>(qv sa true 2,sb,up,cov,f,q6f g)
def It.hearRB:It→It | (sa,sb,up,cov,f,g)=>(sa,qv sb false 2,up,cov,q6f f,g)
def zfi(f g:Int)(i l:Nat):It:=if f=1∧g = -1 then (f,g,1,true,i,l) else if f=4∧g=6 then (f,g,2,true,i,l) else (f,g,0,false,i,l)
def zj(s:Int):Int:=if s=5 then 4 else if s=0 then -1 else s
def It.cut:It→It | (sa,sb,_,_,f,g)=>zfi (zj sa) (zj sb) f g
theorem qyh:∀x∈qav,x.1 = -1→x.2.1 = -1→It.offer x∈qav:=by decide +kernel
theorem qyj:∀x∈qav,qas x.2.2.2.2.1=false→qbq x.2.2.2.2.2=false→It.signA x∈qav:=by decide +kernel
theorem qyk:∀x∈qav,qas x.2.2.2.2.2=false→qbq x.2.2.2.2.1=false→It.signB x∈qav:=by decide +kernel
theorem qvm:∀x∈qav,x.2.1=4→It.remove x∈qav∧x.2.2.1=0:=by decide +kernel
theorem qsa:∀x∈qav,x.2.2.1=1→(x.2.2.2.1=true∨qas x.2.2.2.2.1=false)→It.hearAdd x∈qav∧x.2.1 = -1∧(x.1=0∨x.1=1):=by decide +kernel
theorem qsb:∀x∈qav,x.2.2.1=2→(x.2.2.2.1=true∨qas x.2.2.2.2.2=false)→It.hearRem x∈qav∧x.1=4:=by decide +kernel
theorem qvk:∀x∈qav,qy6 x.2.2.2.2.1=true→¬(x.2.2.1=1∧x.2.2.2.1=true)→It.hearSB x∈qav:=by decide +kernel
theorem qvj:∀x∈qav,qy6 x.2.2.2.2.2=true→¬(x.2.2.1=2∧x.2.2.2.1=true)→It.hearSA x∈qav:=by decide +kernel
theorem qvh:∀x∈qav,ze1 x.2.2.2.2.2=true→It.hearRA x∈qav:=by decide +kernel
theorem qvi:∀x∈qav,ze1 x.2.2.2.2.1=true→It.hearRB x∈qav:=by decide +kernel
theorem q5m:∀x∈qav,It.cut x∈qav:=by decide +kernel
theorem qrd:∀x∈qav,x.2.2.1=0→x.2.2.2.2.1=0→x.2.2.2.2.2=0→qv x.1 true 1=x.1→qv x.2.1 false 1=x.2.1→(x.1 = -1∧x.2.1 = -1)∨(x.1=4∧x.2.1=4)∨(x.1=9∧x.2.1=9):=by decide +kernel
end Go.Proofs.YtjpmomdechibmaaGreatDoor
namespace Go.Proofs.YtjpmomdechibmaaGreatDoor
open Go.RowKit
theorem q4m{α:Type}{c:Ch}{ev:Int}{G:List α}(f f':α→Option Live)(t:c.xs.Perm (G.filterMap f))(q:∀g∈G,f' g=((f g).map (aft ev)).filter (fun x=> !(x.state==9))):(c.goOn ev).xs.Perm (G.filterMap f'):=by
 show (qa8 (qz ev c.xs)).Perm _
 have o:(qa8 (qz ev c.xs)).Perm (qa8 (qz ev (G.filterMap f))):=by
  unfold qa8 qz
  exact(t.map _).filter _
 refine o.trans (List.Perm.of_eq ?_)
 unfold qa8 qz
 clear t o
 induction G with
 | nil=>rfl
 | cons g G m =>
  have m:=m (fun y w=>q y (List.mem_cons_of_mem _ w))
  have l:=q g (List.mem_cons_self ..)
  cases i:f g with
  | none =>
   rw[i] at l
   rw[List.filterMap_cons_none i,List.filterMap_cons_none l]
   exact m
  | some x =>
   rw[i] at l
   rw[List.filterMap_cons_some i,List.map_cons,List.filter_cons]
   cases v:(!((aft ev x).state==9)) with
   | true =>
    have e:f' g=some (aft ev x):=by rw[l];simp only[Option.map_some,Option.filter_some,v,if_true]
    rw[List.filterMap_cons_some e,if_pos rfl,m]
   | false =>
    have e:f' g=none:=by rw[l];simp only[Option.map_some,Option.filter_some,v,Bool.false_eq_true,if_false]
    rw[List.filterMap_cons_none e,if_neg (by decide),m]
def qbw(f:Bool)(g:List Live):Int:=(g.map fun y=>if y.state=9∧(y.own != y.paid)=f then y.h.amount else 0).sum
theorem qe6(l:Bool)(f:List Live)(h:∀y∈f,0≤y.h.amount):0≤qbw l f:=by
 unfold qbw
 induction f with
 | nil=>exact Int.le_refl _
 | cons y f i =>
  rw[List.map_cons,List.sum_cons]
  have m:=i (fun z g=>h z (List.mem_cons_of_mem _ g))
  have o:=h y (List.mem_cons_self ..)
  split<;>omega
theorem qf8{l m:List Int}(p:l.Perm m):l.sum=m.sum:=by
 induction p with
 | nil=>rfl
 | cons x _ i=>rw[List.sum_cons,List.sum_cons,i]
 | swap x y l=>simp only[List.sum_cons];omega
 | trans _ _ f g=>exact f.trans g
theorem quz(f:Bool){xs g:List Live}(p:xs.Perm g):qbw f xs=qbw f g:=by
 unfold qbw
 exact qf8 (p.map _)
theorem q4h(f:List Live):∀c:Ch,(∀y∈f,0≤y.h.amount)→0≤c.loc→0≤c.rem→c.loc+qbw true f<18446744073709551616→c.rem+qbw false f<18446744073709551616 →
  (f.foldl qbp c).loc=c.loc+qbw true f∧(f.foldl qbp c).rem=c.rem+qbw false f:=by
 induction f with
 | nil =>
  intro c _ _ _ _ _
  exact⟨(Int.add_zero _).symm,(Int.add_zero _).symm⟩
 | cons y f C =>
  intro c D F H o q
  have g:∀z∈f,0≤z.h.amount:=fun z I=>D z (List.mem_cons_of_mem _ I)
  have J:=D y (List.mem_cons_self ..)
  have K:=qe6 true f g
  have L:=qe6 false f g
  have e:∀w,qbw w (y::f)=(if y.state=9∧(y.own != y.paid)=w then y.h.amount else 0)+qbw w f:=fun w=>by unfold qbw;rw[List.map_cons,List.sum_cons]
  rw[e] at o q
  rw[List.foldl_cons,e,e]
  by_cases i:y.state=9
  ·have x:qbp c y=c.give (y.own != y.paid) y.h.amount:=by unfold qbp;rw[if_pos i]
   rw[x]
   cases E:(y.own != y.paid) with
   | true =>
    rw[E] at o q
    rw[if_pos ⟨i,rfl⟩] at o
    rw[if_neg (fun h=>by cases h.2)] at q
    rw[if_pos ⟨i,rfl⟩,if_neg (fun h=>by cases h.2)]
    have l:(c.give true y.h.amount).loc=c.loc+y.h.amount:=by
     show IntKind.u64.wrap (c.loc+y.h.amount)=_
     exact qeg (by omega) (by omega)
    have m:(c.give true y.h.amount).rem=c.rem:=rfl
    obtain⟨t,v⟩:=C (c.give true y.h.amount) g (by rw[l];omega) (by rw[m];omega) (by rw[l];omega) (by rw[m];omega)
    rw[t,v,l,m]
    exact⟨by omega,by omega⟩
   | false =>
    rw[E] at o q
    rw[if_neg (fun h=>by cases h.2)] at o
    rw[if_pos ⟨i,rfl⟩] at q
    rw[if_neg (fun h=>by cases h.2),if_pos ⟨i,rfl⟩]
    have l:(c.give false y.h.amount).loc=c.loc:=rfl
    have m:(c.give false y.h.amount).rem=c.rem+y.h.amount:=by
     show IntKind.u64.wrap (c.rem+y.h.amount)=_
     exact qeg (by omega) (by omega)
    obtain⟨t,v⟩:=C (c.give false y.h.amount) g (by rw[l];omega) (by rw[m];omega) (by rw[l];omega) (by rw[m];omega)
    rw[t,v,l,m]
    exact⟨by omega,by omega⟩
  ·have x:qbp c y=c:=by unfold qbp;rw[if_neg i]
   rw[if_neg (fun h=>i h.1)] at o q
   rw[x,if_neg (fun h=>i h.1),if_neg (fun h=>i h.1)]
   obtain⟨t,v⟩:=C c g F H (by omega) (by omega)
   rw[t,v]
   exact⟨by omega,by omega⟩
theorem q4k(c:Ch)(ev:Int)(i:∀y∈c.xs,0≤y.h.amount)(l:0≤c.loc)(m:0≤c.rem)(f:c.loc+qbw true (qz ev c.xs)<18446744073709551616)(g:c.rem+qbw false (qz ev c.xs)<18446744073709551616) :
  (c.goOn ev).loc=c.loc+qbw true (qz ev c.xs)∧(c.goOn ev).rem=c.rem+qbw false (qz ev c.xs) :=
 q4h _ c (fun y q=>by
  obtain⟨x,o,rfl⟩:=List.mem_map.1 q
  exact i x o) l m f g
theorem qdl{α:Type}(y:α):∀(xs:List α) (i:Nat) (x:α),xs[i]? = some x→xs.Perm (x::xs.eraseIdx i)∧(xs.set i y).Perm (y::xs.eraseIdx i)
 | [],_,_,h=>by cases h
 | z::zs,0,x,h=>by
  rw[List.getElem?_cons_zero] at h
  injection h with h
  subst h
  exact⟨List.Perm.refl _,List.Perm.refl _⟩
 | z::zs,i+1,x,h=>by
  rw[List.getElem?_cons_succ] at h
  obtain⟨f,g⟩:=qdl y zs i x h
  rw[List.set_cons_succ,List.eraseIdx_cons_succ]
  exact⟨(f.cons z).trans (List.Perm.swap x z _),(g.cons z).trans (List.Perm.swap y z _)⟩
theorem qza{α:Type}{G:List α}{j:Nat}{g g':α}(f:α→Option Live){xs:List Live}{i:Nat}{x y:Live}(D:xs.Perm (G.filterMap f))(z:G[j]? = some g)(w:f g=some x)(l:f g'=some y)(C:xs[i]? = some x):(xs.set i y).Perm ((G.set j g').filterMap f):=by
 obtain⟨t,v⟩:=qdl g' G j g z
 obtain⟨E,F⟩:=qdl y xs i x C
 have m:(G.filterMap f).Perm (x::(G.eraseIdx j).filterMap f):=by
  have:=t.filterMap f
  rwa [List.filterMap_cons_some w] at this
 have o:((G.set j g').filterMap f).Perm (y::(G.eraseIdx j).filterMap f):=by
  have:=v.filterMap f
  rwa [List.filterMap_cons_some l] at this
 have q:(xs.eraseIdx i).Perm ((G.eraseIdx j).filterMap f):=((E.symm.trans D).trans m).cons_inv
 exact F.trans ((q.cons y).trans o.symm)
theorem q3y{α:Type}{G:List α}{j:Nat}{g g':α}(f:α→Option Live){xs:List Live}{y:Live}(w:xs.Perm (G.filterMap f))(v:G[j]? = some g)(t:f g=none)(i:f g'=some y):(xs++[y]).Perm ((G.set j g').filterMap f):=by
 obtain⟨o,q⟩:=qdl g' G j g v
 have l:(G.filterMap f).Perm ((G.eraseIdx j).filterMap f):=by
  have:=o.filterMap f
  rwa [List.filterMap_cons_none t] at this
 have m:((G.set j g').filterMap f).Perm (y::(G.eraseIdx j).filterMap f):=by
  have:=q.filterMap f
  rwa [List.filterMap_cons_some i] at this
 exact(List.perm_append_singleton y xs).trans (((w.trans l).cons y).trans m.symm)
theorem q5s{α:Type}{G:List α}{j:Nat}{g g':α}(f:α→Option Live){xs:List Live}(w:xs.Perm (G.filterMap f))(v:G[j]? = some g)(t:f g'=f g):xs.Perm ((G.set j g').filterMap f):=by
 obtain⟨o,q⟩:=qdl g' G j g v
 have l:=o.filterMap f
 have i:=q.filterMap f
 have m:(g'::G.eraseIdx j).filterMap f=(g::G.eraseIdx j).filterMap f:=by
  rw[List.filterMap_cons,List.filterMap_cons,t]
 rw[m] at i
 exact w.trans (l.trans i.symm)
theorem qey{own:Bool}{id:Int}{xs:List Live}{i:Nat}{x:Live}(h:qb7 own id xs=some (i,x)):xs[i]? = some x∧x.own=own∧x.h.id=id∧x.state=4:=by
 obtain⟨-,g,f⟩:=qgu h
 unfold qge at f
 simp only[Bool.and_eq_true,beq_iff_eq] at f
 exact⟨g,f.1,f.2.1,f.2.2⟩
theorem qoc{own:Bool}{id:Int}{xs:List Live}{x:Live}(C:x∈xs)(v:x.own=own)(t:x.h.id=id)(w:x.state=4)(z:∀y∈xs,y.own=own→y.h.id=id→y=x):∃i,qb7 own id xs=some (i,x):=by
 cases f:qb7 own id xs with
 | none =>
  exfalso
  unfold qb7 at f
  cases g:xs.findIdx? (qge own id) with
  | none =>
   have:=List.findIdx?_eq_none_iff.1 g x C
   unfold qge at this
   simp[v,t,w] at this
  | some k =>
   rw[g] at f
   have f:Option.map (fun x=>(k,x)) xs[k]? = none:=f
   obtain⟨l,-,-⟩:=List.findIdx?_eq_some_iff_getElem.1 g
   rw[List.getElem?_eq_getElem l] at f
   cases f
 | some p =>
  obtain⟨i,y⟩:=p
  obtain⟨m,o,q,-⟩:=qey f
  have:=z y (List.mem_of_getElem? m) o q
  subst this
  exact⟨i,rfl⟩
def qaw(own:Bool)(h:Htlc)(s:Int)(paid:Bool):Option Live:=if 0≤s∧s≤8 then some ⟨h,own,s,paid&&decide (5≤s)⟩ else none
inductive En where
 | upd (j:Nat)
 | sgn
 | rev
 | shut
def qk:List En→Nat
 | []=>0
 | .upd _::es=>qk es
 | .shut::es=>qk es
 | .sgn::es=>if qk es=0 then 1 else if qk es=2 then 3 else 9
 | .rev::es=>if qk es=0 then 2 else if qk es=1 then 4 else 9
theorem qiy(es:List En)(j:Nat):qk (es++[.upd j])=qk es:=by
 induction es with
 | nil=>rfl
 | cons e es f=>cases e<;>simp only[List.cons_append,qk,f]
theorem qrw(es:List En):qk (es++[.shut])=qk es:=by
 induction es with
 | nil=>rfl
 | cons e es f=>cases e<;>simp only[List.cons_append,qk,f]
theorem qt6(es:List En)(h:qk es=0∨qk es=2):qk (es++[.sgn])=qv0 (qk es):=by
 induction es with
 | nil=>rfl
 | cons e es g =>
  cases e with
  | upd j=>exact g h
  | shut=>exact g h
  | sgn =>
   exfalso
   unfold qk at h
   split at h
   ·omega
   ·split at h<;>omega
  | rev =>
   have f:qk es=0:=by
    unfold qk at h
    split at h
    ·assumption
    ·split at h<;>omega
   have:=g (.inl f)
   rw[f] at this
   show (if qk (es++[.sgn])=0 then 2 else if qk (es++[.sgn])=1 then 4 else 9)=qv0 (if qk es=0 then 2 else if qk es=1 then 4 else 9)
   rw[this,f]
   rfl
theorem qt5(es:List En)(h:qk es=0∨qk es=1):qk (es++[.rev])=qvz (qk es):=by
 induction es with
 | nil=>rfl
 | cons e es g =>
  cases e with
  | upd j=>exact g h
  | shut=>exact g h
  | rev =>
   exfalso
   unfold qk at h
   split at h
   ·omega
   ·split at h<;>omega
  | sgn =>
   have f:qk es=0:=by
    unfold qk at h
    split at h
    ·assumption
    ·split at h<;>omega
   have:=g (.inl f)
   rw[f] at this
   show (if qk (es++[.rev])=0 then 1 else if qk (es++[.rev])=2 then 3 else 9)=qvz (if qk es=0 then 1 else if qk es=2 then 3 else 9)
   rw[this,f]
   rfl
def conL(mine:Bool)(s:Int)(paid:Bool)(n:Int):Int:=if s = -1 then 0 else if s=9 then (if paid then (if mine then -n else n) else 0) else (if mine then -n else 0)
def zm(s:Int)(mine:Bool)(ev:Int):Int:=if 0≤s∧s≤8 then qv s mine ev else s
theorem qeb{s:Int}{mine:Bool}{ev:Int}(h:0≤s∧s≤8):qv s mine ev=s∨qv s mine ev=s+1:=by
 unfold qv
 split
 ·exact .inr rfl
 ·exact .inl rfl
theorem q66{s:Int}(mine paid:Bool)(ev n:Int)(h:0≤s∧s≤8):conL mine (qv s mine ev) paid n=conL mine s paid n+(if qv s mine ev=9∧(mine != (paid&&decide (5≤s)))=true then n else 0):=by
 by_cases f:qv s mine ev=9
 ·have m:s=8:=by rcases qeb (mine:=mine) (ev:=ev) h with e | e<;>omega
  rw[f]
  subst m
  cases mine<;>cases paid<;>simp[conL]<;>omega
 ·rw[if_neg (fun e=>f e.1),Int.add_zero]
  have l:¬qv s mine ev = -1:=by
   intro o
   rcases qeb (mine:=mine) (ev:=ev) h with e | e<;>omega
  have g:conL mine (qv s mine ev) paid n=if mine then -n else 0:=by unfold conL;rw[if_neg l,if_neg f]
  have i:conL mine s paid n=if mine then -n else 0:=by unfold conL;rw[if_neg (show ¬s = -1 by omega),if_neg (show ¬s=9 by omega)]
  rw[g,i]
structure Seen(α:Type) where
 mine:α→Bool
 st:α→Int
 h:α→Htlc
 paid:α→Bool
def Seen.show{α:Type}(v:Seen α)(g:α):Option Live:=qaw (v.mine g) (v.h g) (v.st g) (v.paid g)
def Seen.conL{α:Type}(v:Seen α)(G:List α):Int:=(G.map fun g=>Go.Proofs.YtjpmomdechibmaaGreatDoor.conL (v.mine g) (v.st g) (v.paid g) (v.h g).amount).sum
def Seen.conR{α:Type}(v:Seen α)(G:List α):Int:=(G.map fun g=>Go.Proofs.YtjpmomdechibmaaGreatDoor.conL (!v.mine g) (v.st g) (v.paid g) (v.h g).amount).sum
def Seen.on{α:Type}(v:Seen α)(ev:Int):Seen α:= {v with st:=fun g=>zm (v.st g) (v.mine g) ev}
theorem qog{α:Type}(l:Bool)(f:α→Option Live)(ev:Int)(G:List α):qbw l (qz ev (G.filterMap f))=(G.map fun g=>match f g with | none=>0 | some x=>if (aft ev x).state=9∧(x.own != x.paid)=l then x.h.amount else 0).sum:=by
 unfold qbw qz
 induction G with
 | nil=>rfl
 | cons g G m =>
  rw[List.map_cons,List.sum_cons,←m]
  cases i:f g with
  | none=>rw[List.filterMap_cons_none i];simp only;omega
  | some x =>
   rw[List.filterMap_cons_some i,List.map_cons,List.map_cons,List.sum_cons]
   rfl
theorem q2k{α:Type}(v:Seen α)(ev:Int)(G:List α):(v.on ev).conL G=v.conL G+qbw true (qz ev (G.filterMap v.show)):=by
 rw[qog]
 unfold Seen.conL
 induction G with
 | nil=>rfl
 | cons g G i =>
  simp only[List.map_cons,List.sum_cons]
  have f:Go.Proofs.YtjpmomdechibmaaGreatDoor.conL ((v.on ev).mine g) ((v.on ev).st g) ((v.on ev).paid g) ((v.on ev).h g).amount=Go.Proofs.YtjpmomdechibmaaGreatDoor.conL (v.mine g) (v.st g) (v.paid g) (v.h g).amount+(match v.show g with | none=>0 | some x=>if (aft ev x).state=9∧(x.own != x.paid)=true then x.h.amount else 0):=by
   show Go.Proofs.YtjpmomdechibmaaGreatDoor.conL (v.mine g) (zm (v.st g) (v.mine g) ev) (v.paid g) (v.h g).amount=_
   unfold Seen.show qaw zm
   by_cases h:0≤v.st g∧v.st g≤8
   ·rw[if_pos h,if_pos h]
    exact q66 _ _ _ _ h
   ·rw[if_neg h,if_neg h]
    simp
  rw[f,i]
  omega
theorem q3z{s:Int}(mine paid:Bool)(ev n:Int)(h:0≤s∧s≤8):conL (!mine) (qv s mine ev) paid n=conL (!mine) s paid n+(if qv s mine ev=9∧(mine != (paid&&decide (5≤s)))=false then n else 0):=by
 by_cases f:qv s mine ev=9
 ·have m:s=8:=by rcases qeb (mine:=mine) (ev:=ev) h with e | e<;>omega
  rw[f]
  subst m
  cases mine<;>cases paid<;>simp[conL]<;>omega
 ·rw[if_neg (fun e=>f e.1),Int.add_zero]
  have l:¬qv s mine ev = -1:=by
   intro o
   rcases qeb (mine:=mine) (ev:=ev) h with e | e<;>omega
  have g:conL (!mine) (qv s mine ev) paid n=if !mine then -n else 0:=by unfold conL;rw[if_neg l,if_neg f]
  have i:conL (!mine) s paid n=if !mine then -n else 0:=by unfold conL;rw[if_neg (show ¬s = -1 by omega),if_neg (show ¬s=9 by omega)]
  rw[g,i]
theorem q2l{α:Type}(v:Seen α)(ev:Int)(G:List α):(v.on ev).conR G=v.conR G+qbw false (qz ev (G.filterMap v.show)):=by
 rw[qog]
 unfold Seen.conR
 induction G with
 | nil=>rfl
 | cons g G i =>
  simp only[List.map_cons,List.sum_cons]
  have f:Go.Proofs.YtjpmomdechibmaaGreatDoor.conL (!(v.on ev).mine g) ((v.on ev).st g) ((v.on ev).paid g) ((v.on ev).h g).amount=Go.Proofs.YtjpmomdechibmaaGreatDoor.conL (!v.mine g) (v.st g) (v.paid g) (v.h g).amount+(match v.show g with | none=>0 | some x=>if (aft ev x).state=9∧(x.own != x.paid)=false then x.h.amount else 0):=by
   show Go.Proofs.YtjpmomdechibmaaGreatDoor.conL (!v.mine g) (zm (v.st g) (v.mine g) ev) (v.paid g) (v.h g).amount=_
   unfold Seen.show qaw zm
   by_cases h:0≤v.st g∧v.st g≤8
   ·rw[if_pos h,if_pos h]
    exact q3z _ _ _ _ h
   ·rw[if_neg h,if_neg h]
    simp
  rw[f,i]
  omega
theorem q5a(mine:Bool)(ev:Int):qv 4 mine ev=4:=by
 unfold qv
 rw[if_neg]
 rintro ⟨-,f,g⟩
 apply f
 rw[←g]
 cases mine<;>rfl
theorem za7{s:Int}{mine:Bool}{ev:Int}(h:0≤s∧s≤8):decide (5≤qv s mine ev)=decide (5≤s):=by
 by_cases g:s=4
 ·rw[g,q5a]
 ·rcases qeb (mine:=mine) (ev:=ev) h with e | e
  ·rw[e]
  ·rw[e]
   by_cases f:5≤s
   ·rw[decide_eq_true f,decide_eq_true (by omega)]
   ·rw[decide_eq_false f,decide_eq_false (by omega)]
theorem zb8{α:Type}(v:Seen α)(ev:Int)(g:α):(v.on ev).show g=((v.show g).map (aft ev)).filter (fun x=> !(x.state==9)):=by
 show qaw (v.mine g) (v.h g) (zm (v.st g) (v.mine g) ev) (v.paid g)=_
 unfold Seen.show qaw zm
 by_cases h:0≤v.st g∧v.st g≤8
 ·rw[if_pos h,if_pos h]
  have m:=qeb (mine:=v.mine g) (ev:=ev) h
  have i:=za7 (mine:=v.mine g) (ev:=ev) h
  show _=(some (aft ev ⟨v.h g,v.mine g,v.st g,v.paid g&&decide (5≤v.st g)⟩)).filter _
  have ea:aft ev ⟨v.h g,v.mine g,v.st g,v.paid g&&decide (5≤v.st g)⟩=⟨v.h g,v.mine g,qv (v.st g) (v.mine g) ev,v.paid g&&decide (5≤v.st g)⟩:=rfl
  rw[ea,Option.filter_some]
  by_cases f:qv (v.st g) (v.mine g) ev=9
  ·rw[f,if_neg (by omega),if_neg (by simp)]
  ·have l:0≤qv (v.st g) (v.mine g) ev∧qv (v.st g) (v.mine g) ev≤8:=by rcases m with e | e<;>omega
   rw[if_pos l,if_pos (by simpa using f),i]
 ·rw[if_neg h,if_neg h]
  rfl
theorem qib{α:Type}{c:Ch}(v:Seen α)(ev:Int)(G:List α){L R:Int}(l:c.xs.Perm (G.filterMap v.show))(C:c.loc=L+v.conL G)(D:c.rem=R+v.conR G)(q:∀y∈c.xs,0≤y.h.amount)(t:0≤c.loc)(w:0≤c.rem)
  (b1:L+(v.on ev).conL G<18446744073709551616) (b2:R+(v.on ev).conR G<18446744073709551616) :
  (c.goOn ev).xs.Perm (G.filterMap (v.on ev).show)∧(c.goOn ev).loc=L+(v.on ev).conL G∧(c.goOn ev).rem=R+(v.on ev).conR G:=by
 have f:∀i,qbw i (qz ev c.xs)=qbw i (qz ev (G.filterMap v.show)):=fun i=>quz i (l.map _)
 have x:=q2k v ev G
 have z:=q2l v ev G
 obtain⟨m,o⟩:=q4k c ev q t w (by rw[f];omega) (by rw[f];omega)
 refine⟨q4m _ _ l (fun g _=>zb8 v ev g),?_,?_⟩
 ·rw[m,f];omega
 ·rw[o,f];omega
theorem qpk{α:Type}(f:α→Int){G:List α}{j:Nat}{g g':α}(q:G[j]? = some g):((G.set j g').map f).sum=(G.map f).sum-f g+f g':=by
 obtain⟨m,o⟩:=qdl g' G j g q
 have i:=qf8 (m.map f)
 have l:=qf8 (o.map f)
 rw[List.map_cons,List.sum_cons] at i l
 rw[l,i]
 omega
theorem qm8{α:Type}(f:α→Int)(G:List α)(g:α):((G++[g]).map f).sum=(G.map f).sum+f g:=by
 rw[List.map_append,List.sum_append]
 simp
def qcz(own:Bool)(f:List Live):Int:=(f.map fun y=>if y.state=0∧y.own=own then y.h.amount else 0).sum
def qda(own:Bool)(f:List Live):Int:=(f.map fun y=>if y.state=0∧y.own=own then (1:Int) else 0).sum
theorem qh4(own:Bool)(f:List Live)(h:∀y∈f,0≤y.h.amount):0≤qcz own f:=by
 unfold qcz
 induction f with
 | nil=>exact Int.le_refl _
 | cons y f i =>
  rw[List.map_cons,List.sum_cons]
  have l:=i (fun z g=>h z (List.mem_cons_of_mem _ g))
  have m:=h y (List.mem_cons_self ..)
  split<;>omega
theorem qks(own:Bool)(f:List Live):0≤qda own f:=by
 unfold qda
 induction f with
 | nil=>exact Int.le_refl _
 | cons y f g =>
  rw[List.map_cons,List.sum_cons]
  split<;>omega
theorem qx8(own:Bool){xs f:List Live}(p:xs.Perm f):qcz own xs=qcz own f:=qf8 (p.map _)
theorem qmt(own:Bool){xs f:List Live}(p:xs.Perm f):qda own xs=qda own f:=qf8 (p.map _)
theorem qr2(f:List Live):∀c:Ch,(f.foldl zg c).s=c.s∧(f.foldl zg c).shelf=c.shelf∧(f.foldl zg c).news=c.news∧(f.foldl zg c).last=c.last∧(f.foldl zg c).k.signed=c.k.signed∧(f.foldl zg c).k.heard=c.k.heard∧(f.foldl zg c).k.awaits=c.k.awaits∧(f.foldl zg c).k.shutSaid=c.k.shutSaid∧(f.foldl zg c).k.shutHeard=c.k.shutHeard∧(f.foldl zg c).k.revoked=c.k.revoked:=by
 induction f with
 | nil=>intro c;exact⟨rfl,rfl,rfl,rfl,rfl,rfl,rfl,rfl,rfl,rfl⟩
 | cons y f H =>
  intro c
  rw[List.foldl_cons]
  obtain⟨a1,a2,a3,l,m,o,q,t,v,g⟩:=H (zg c y)
  have e:(zg c y).s=c.s∧(zg c y).shelf=c.shelf∧(zg c y).news=c.news∧(zg c y).last=c.last∧(zg c y).k.signed=c.k.signed∧(zg c y).k.heard=c.k.heard∧(zg c y).k.awaits=c.k.awaits∧(zg c y).k.shutSaid=c.k.shutSaid∧(zg c y).k.shutHeard=c.k.shutHeard∧(zg c y).k.revoked=c.k.revoked:=by
   unfold zg
   split
   ·split
    ·exact⟨rfl,rfl,rfl,rfl,rfl,rfl,rfl,rfl,rfl,rfl⟩
    ·exact⟨rfl,rfl,rfl,rfl,rfl,rfl,rfl,rfl,rfl,rfl⟩
   ·exact⟨rfl,rfl,rfl,rfl,rfl,rfl,rfl,rfl,rfl,rfl⟩
  obtain⟨b1,b2,w,x,z,C,D,E,F,i⟩:=e
  exact⟨a1.trans b1,a2.trans b2,a3.trans w,l.trans x,m.trans z,o.trans C,q.trans D,t.trans E,v.trans F,g.trans i⟩
theorem q7w(f:List Live):∀c:Ch,(∀y∈f,0≤y.h.amount)→0≤c.loc→0≤c.rem→c.loc+qcz true f<18446744073709551616→c.rem+qcz false f<18446744073709551616→qda true f≤c.k.nextOwn→c.k.nextOwn<18446744073709551616→qda false f≤c.k.nextTheirs→c.k.nextTheirs<18446744073709551616 →
  (f.foldl zg c).loc=c.loc+qcz true f∧(f.foldl zg c).rem=c.rem+qcz false f∧(f.foldl zg c).k.nextOwn=c.k.nextOwn-qda true f∧(f.foldl zg c).k.nextTheirs=c.k.nextTheirs-qda false f:=by
 induction f with
 | nil =>
  intro c _ _ _ _ _ _ _ _ _
  exact⟨(Int.add_zero _).symm,(Int.add_zero _).symm,(Int.sub_zero _).symm,(Int.sub_zero _).symm⟩
 | cons y f L =>
  intro c M P R F H I N J O
  have i:∀z∈f,0≤z.h.amount:=fun z T=>M z (List.mem_cons_of_mem _ T)
  have U:=M y (List.mem_cons_self ..)
  have V:=qh4 true f i
  have W:=qh4 false f i
  have X:=qks true f
  have Y:=qks false f
  have e:∀o,qcz o (y::f)=(if y.state=0∧y.own=o then y.h.amount else 0)+qcz o f:=fun o=>by unfold qcz;rw[List.map_cons,List.sum_cons]
  have K:∀o,qda o (y::f)=(if y.state=0∧y.own=o then (1:Int) else 0)+qda o f:=fun o=>by unfold qda;rw[List.map_cons,List.sum_cons]
  rw[e] at F H
  rw[K] at I J
  rw[List.foldl_cons,e,e,K,K]
  by_cases g:y.state=0
  ·cases w:y.own with
   | true =>
    rw[if_pos ⟨g,w⟩] at F I
    rw[if_neg (fun h=>by rw[w] at h;cases h.2)] at H J
    rw[if_pos ⟨g,rfl⟩,if_neg (fun h=>by cases h.2),if_pos ⟨g,rfl⟩,if_neg (fun h=>by cases h.2)]
    have l:zg c y = {c.give true y.h.amount with k:= {c.k with nextOwn:=IntKind.u64.wrap (c.k.nextOwn-1)}} := by unfold zg;rw[if_pos g,if_pos w]
    have m:(zg c y).loc=c.loc+y.h.amount:=by rw[l];exact qeg (by omega) (by omega)
    have q:(zg c y).rem=c.rem:=by rw[l];rfl
    have t:(zg c y).k.nextOwn=c.k.nextOwn-1:=by rw[l];exact qeg (by omega) (by omega)
    have v:(zg c y).k.nextTheirs=c.k.nextTheirs:=by rw[l]
    obtain⟨x,C,D,E⟩:=L (zg c y) i (by rw[m];omega) (by rw[q];omega) (by rw[m];omega) (by rw[q];omega) (by rw[t];omega) (by rw[t];omega) (by rw[v];omega) (by rw[v];omega)
    rw[x,C,D,E,m,q,t,v]
    exact⟨by omega,by omega,by omega,by omega⟩
   | false =>
    rw[if_neg (fun h=>by rw[w] at h;cases h.2)] at F I
    rw[if_pos ⟨g,w⟩] at H J
    rw[if_neg (fun h=>by cases h.2),if_pos ⟨g,rfl⟩,if_neg (fun h=>by cases h.2),if_pos ⟨g,rfl⟩]
    have l:zg c y = {c.give false y.h.amount with k:= {c.k with nextTheirs:=IntKind.u64.wrap (c.k.nextTheirs-1)}} := by unfold zg;rw[if_pos g,if_neg (by rw[w];decide)]
    have m:(zg c y).loc=c.loc:=by rw[l];rfl
    have q:(zg c y).rem=c.rem+y.h.amount:=by rw[l];exact qeg (by omega) (by omega)
    have t:(zg c y).k.nextOwn=c.k.nextOwn:=by rw[l]
    have v:(zg c y).k.nextTheirs=c.k.nextTheirs-1:=by rw[l];exact qeg (by omega) (by omega)
    obtain⟨x,C,D,E⟩:=L (zg c y) i (by rw[m];omega) (by rw[q];omega) (by rw[m];omega) (by rw[q];omega) (by rw[t];omega) (by rw[t];omega) (by rw[v];omega) (by rw[v];omega)
    rw[x,C,D,E,m,q,t,v]
    exact⟨by omega,by omega,by omega,by omega⟩
  ·have l:zg c y=c:=by unfold zg;rw[if_neg g]
   rw[if_neg (fun h=>g h.1)] at F H I J
   rw[l,if_neg (fun h=>g h.1),if_neg (fun h=>g h.1),if_neg (fun h=>g h.1),if_neg (fun h=>g h.1)]
   obtain⟨x,C,D,E⟩:=L c i P R (by omega) (by omega) (by omega) N (by omega) O
   rw[x,C,D,E]
   exact⟨by omega,by omega,by omega,by omega⟩
def Seen.cut{α:Type}(v:Seen α):Seen α:= {v with st:=fun g=>zj (v.st g)}
theorem q9t{α:Type}(v:Seen α)(g:α):v.cut.show g=((v.show g).filter (fun x=> !(x.state==0))).map qae:=by
 show qaw (v.mine g) (v.h g) (zj (v.st g)) (v.paid g)=_
 unfold Seen.show qaw zj
 by_cases h:0≤v.st g∧v.st g≤8
 ·rw[if_pos h,Option.filter_some]
  by_cases f:v.st g=0
  ·rw[f]
   rfl
  ·have l:(!((⟨v.h g,v.mine g,v.st g,v.paid g&&decide (5≤v.st g)⟩:Live).state==0))=true:=by simpa using f
   rw[if_pos l]
   show _=some (qae _)
   by_cases i:v.st g=5
   ·rw[i]
    simp[qae]
   ·rw[if_neg i,if_neg f,if_pos h]
    unfold qae
    rw[if_neg i]
 ·have i:¬v.st g=5:=by omega
  have f:¬v.st g=0:=by omega
  rw[if_neg i,if_neg f,if_neg h]
  rfl
theorem q7a{α:Type}(v:Seen α){xs:List Live}{G:List α}(o:xs.Perm (G.filterMap v.show)):(qek xs).Perm (G.filterMap v.cut.show):=by
 have m:(qek xs).Perm (qek (G.filterMap v.show)):=by
  unfold qek
  exact(o.filter _).map _
 refine m.trans (List.Perm.of_eq ?_)
 clear o m
 unfold qek
 induction G with
 | nil=>rfl
 | cons g G l =>
  have f:=q9t v g
  cases i:v.show g with
  | none =>
   rw[i] at f
   rw[List.filterMap_cons_none i,List.filterMap_cons_none f]
   exact l
  | some x =>
   rw[i,Option.filter_some] at f
   rw[List.filterMap_cons_some i,List.filter_cons]
   cases q:(!(x.state==0)) with
   | true =>
    rw[q,if_pos rfl] at f
    rw[List.filterMap_cons_some f,if_pos rfl,List.map_cons,l]
   | false =>
    rw[q,if_neg (by decide)] at f
    rw[List.filterMap_cons_none f,if_neg (by decide),l]
theorem q22{α:Type}(own:Bool)(f:α→Option Live)(G:List α):qcz own (G.filterMap f)=(G.map fun g=>match f g with | none=>0 | some x=>if x.state=0∧x.own=own then x.h.amount else 0).sum:=by
 unfold qcz
 induction G with
 | nil=>rfl
 | cons g G l =>
  rw[List.map_cons,List.sum_cons,←l]
  cases i:f g with
  | none=>rw[List.filterMap_cons_none i];simp only;omega
  | some x =>
   rw[List.filterMap_cons_some i,List.map_cons,List.sum_cons]
theorem za3(mine side paid:Bool)(s n:Int):conL (mine==side) (zj s) paid n=conL (mine==side) s paid n+(match qaw mine ⟨0,n,Vector.replicate 32 0,0⟩ s paid with | none=>0 | some x=>if x.state=0∧x.own=side then x.h.amount else 0):=by
 unfold zj qaw
 by_cases f:s=0
 ·subst f
  cases mine<;>cases side<;>simp[conL]<;>omega
 ·by_cases g:s=5
  ·subst g
   cases mine<;>cases side<;>simp[conL]
  ·rw[if_neg g,if_neg f]
   by_cases h:0≤s∧s≤8
   ·rw[if_pos h]
    simp only
    rw[if_neg (fun e=>f e.1)]
    omega
   ·rw[if_neg h]
    simp
theorem qwn(mine side paid:Bool)(s:Int)(h:Htlc):conL (mine==side) (zj s) paid h.amount=conL (mine==side) s paid h.amount+(match qaw mine h s paid with | none=>0 | some x=>if x.state=0∧x.own=side then x.h.amount else 0):=by
 rw[za3]
 congr 1
 unfold qaw
 by_cases f:0≤s∧s≤8
 ·rw[if_pos f,if_pos f]
 ·rw[if_neg f,if_neg f]
theorem qwl{α:Type}(v:Seen α)(G:List α):v.cut.conL G=v.conL G+qcz true (G.filterMap v.show):=by
 rw[q22]
 unfold Seen.conL
 induction G with
 | nil=>rfl
 | cons g G l =>
  simp only[List.map_cons,List.sum_cons]
  have i:=qwn (v.mine g) true (v.paid g) (v.st g) (v.h g)
  rw[show (v.mine g==true)=v.mine g by cases v.mine g<;>rfl] at i
  have f:Go.Proofs.YtjpmomdechibmaaGreatDoor.conL (v.cut.mine g) (v.cut.st g) (v.cut.paid g) (v.cut.h g).amount=Go.Proofs.YtjpmomdechibmaaGreatDoor.conL (v.mine g) (v.st g) (v.paid g) (v.h g).amount+(match v.show g with | none=>0 | some x=>if x.state=0∧x.own=true then x.h.amount else 0):=i
  rw[f,l]
  omega
theorem qwm{α:Type}(v:Seen α)(G:List α):v.cut.conR G=v.conR G+qcz false (G.filterMap v.show):=by
 rw[q22]
 unfold Seen.conR
 induction G with
 | nil=>rfl
 | cons g G l =>
  simp only[List.map_cons,List.sum_cons]
  have i:=qwn (v.mine g) false (v.paid g) (v.st g) (v.h g)
  rw[show (v.mine g==false) = !v.mine g by cases v.mine g<;>rfl] at i
  have f:Go.Proofs.YtjpmomdechibmaaGreatDoor.conL (!v.cut.mine g) (v.cut.st g) (v.cut.paid g) (v.cut.h g).amount=Go.Proofs.YtjpmomdechibmaaGreatDoor.conL (!v.mine g) (v.st g) (v.paid g) (v.h g).amount+(match v.show g with | none=>0 | some x=>if x.state=0∧x.own=false then x.h.amount else 0):=i
  rw[f,l]
  omega
theorem q7b{α:Type}{c:Ch}(v:Seen α)(G:List α){L R:Int}(g:c.xs.Perm (G.filterMap v.show))(F:c.loc=L+v.conL G)(H:c.rem=R+v.conR G)(x:∀y∈c.xs,0≤y.h.amount)(z:0≤c.loc)(C:0≤c.rem)
  (b1:L+v.cut.conL G<18446744073709551616) (b2:R+v.cut.conR G<18446744073709551616) (i:qda true c.xs≤c.k.nextOwn∧c.k.nextOwn<18446744073709551616) (l:qda false c.xs≤c.k.nextTheirs∧c.k.nextTheirs<18446744073709551616) :
  c.cut.xs.Perm (G.filterMap v.cut.show)∧c.cut.loc=L+v.cut.conL G∧c.cut.rem=R+v.cut.conR G∧c.cut.k.nextOwn=c.k.nextOwn-qda true c.xs∧c.cut.k.nextTheirs=c.k.nextTheirs-qda false c.xs:=by
 have f:∀o,qcz o c.xs=qcz o (G.filterMap v.show):=fun o=>qx8 o g
 have D:=qwl v G
 have E:=qwm v G
 obtain⟨m,q,t,w⟩:=q7w c.xs c x z C (by rw[f];omega) (by rw[f];omega) i.1 i.2 l.1 l.2
 refine⟨q7a v g,?_,?_,t,w⟩
 ·show (c.xs.foldl zg c).loc=_
  rw[m,f];omega
 ·show (c.xs.foldl zg c).rem=_
  rw[q,f];omega
def gvL(ours:Bool)(x:Live):Int:=if qcs ours x.own x.state then 0 else if qd5 ours x.own x.state&&x.paid then (if x.own then 0 else x.h.amount) else (if x.own then x.h.amount else 0)
def gvR(ours:Bool)(x:Live):Int:=if qcs ours x.own x.state then 0 else if qd5 ours x.own x.state&&x.paid then (if x.own then x.h.amount else 0) else (if x.own then 0 else x.h.amount)
theorem qze(l n:Int):IntKind.u64.wrap (IntKind.u64.wrap l+n)=IntKind.u64.wrap (l+n):=by
 simp only[IntKind.wrap_u64]
 omega
theorem q53(ours:Bool)(l r:Int)(x:Live):qbj ours (IntKind.u64.wrap l,IntKind.u64.wrap r) x=(IntKind.u64.wrap (l+gvL ours x),IntKind.u64.wrap (r+gvR ours x)):=by
 unfold qbj gvL gvR qc1
 cases qcs ours x.own x.state<;>cases (qd5 ours x.own x.state&&x.paid)<;>cases x.own<;>simp[qze]
theorem q55(ours:Bool)(xs:List Live):∀l r:Int,zn ours (IntKind.u64.wrap l) (IntKind.u64.wrap r) xs=(IntKind.u64.wrap (l+(xs.map (gvL ours)).sum),IntKind.u64.wrap (r+(xs.map (gvR ours)).sum)):=by
 unfold zn
 induction xs with
 | nil =>
  intro l r
  show (_,_)=(IntKind.u64.wrap (l+0),IntKind.u64.wrap (r+0))
  rw[Int.add_zero,Int.add_zero]
 | cons x xs f =>
  intro l r
  rw[List.foldl_cons,q53,f,List.map_cons,List.map_cons,List.sum_cons,List.sum_cons,Int.add_assoc,Int.add_assoc]
theorem q96(ours:Bool)(xs:List Live){l r:Int}(i:0≤l∧l<18446744073709551616)(m:0≤r∧r<18446744073709551616)(f:0≤l+(xs.map (gvL ours)).sum∧l+(xs.map (gvL ours)).sum<18446744073709551616)(g:0≤r+(xs.map (gvR ours)).sum∧r+(xs.map (gvR ours)).sum<18446744073709551616):zn ours l r xs=(l+(xs.map (gvL ours)).sum,r+(xs.map (gvR ours)).sum):=by
 have:=q55 ours xs l r
 rw[qeg i.1 (by omega),qeg m.1 (by omega),qeg f.1 (by omega),qeg g.1 (by omega)] at this
 exact this
def tvL(ours mine:Bool)(s:Int)(paid:Bool)(n:Int):Int:=conL mine s paid n+(if 0≤s∧s≤8 then gvL ours ⟨⟨0,n,Vector.replicate 32 0,0⟩,mine,s,paid&&decide (5≤s)⟩ else 0)
def tvR(ours mine:Bool)(s:Int)(paid:Bool)(n:Int):Int:=conL (!mine) s paid n+(if 0≤s∧s≤8 then gvR ours ⟨⟨0,n,Vector.replicate 32 0,0⟩,mine,s,paid&&decide (5≤s)⟩ else 0)
def tvC(ours mine:Bool)(s:Int)(paid:Bool):Nat:=if 0≤s∧s≤8 then (if qcs ours mine s then 1 else if qd5 ours mine s&&paid then 2 else 0) else if s=9∧paid=true then 2 else 0
def tvK(k:Nat)(mine:Bool)(n:Int):Int:=if k=1 then (if mine then -n else 0) else if k=2 then (if mine then -n else n) else 0
theorem qye:∀(ours mine:Bool) (s:Fin 9),qd5 ours mine (s.val:Int)=true→qcs ours mine (s.val:Int)=false→5≤s.val:=by decide +kernel
theorem ze4(ours mine:Bool)(s:Int)(paid:Bool)(n:Int)(o : -1≤s∧s≤9):tvL ours mine s paid n=tvK (tvC ours mine s paid) mine n:=by
 unfold tvL tvC
 by_cases h:0≤s∧s≤8
 ·rw[if_pos h,if_pos h]
  have g:¬s = -1:=by omega
  have i:¬s=9:=by omega
  have f:=qye ours mine ⟨s.toNat,by omega⟩
  simp only[show ((s.toNat:Nat):Int)=s by omega] at f
  unfold conL gvL tvK
  rw[if_neg g,if_neg i]
  simp only
  cases m:qcs ours mine s with
  | true=>cases mine<;>simp
  | false =>
   cases l:qd5 ours mine s with
   | false=>cases mine<;>cases paid<;>simp<;>omega
   | true =>
    have:=f l m
    rw[decide_eq_true (show (5:Int)≤s by omega)]
    cases mine<;>cases paid<;>simp<;>omega
 ·rw[if_neg h,if_neg h]
  have:s = -1∨s=9:=by omega
  rcases this with e | e
  ·subst e
   cases paid<;>simp[conL,tvK]
  ·subst e
   cases mine<;>cases paid<;>simp[conL,tvK]
theorem ze5(ours mine:Bool)(s:Int)(paid:Bool)(n:Int)(o : -1≤s∧s≤9):tvR ours mine s paid n=tvK (tvC ours mine s paid) (!mine) n:=by
 unfold tvR tvC
 by_cases h:0≤s∧s≤8
 ·rw[if_pos h,if_pos h]
  have g:¬s = -1:=by omega
  have i:¬s=9:=by omega
  have f:=qye ours mine ⟨s.toNat,by omega⟩
  simp only[show ((s.toNat:Nat):Int)=s by omega] at f
  unfold conL gvR tvK
  rw[if_neg g,if_neg i]
  simp only
  cases m:qcs ours mine s with
  | true=>cases mine<;>simp
  | false =>
   cases l:qd5 ours mine s with
   | false=>cases mine<;>cases paid<;>simp<;>omega
   | true =>
    have:=f l m
    rw[decide_eq_true (show (5:Int)≤s by omega)]
    cases mine<;>cases paid<;>simp<;>omega
 ·rw[if_neg h,if_neg h]
  have:s = -1∨s=9:=by omega
  rcases this with e | e
  ·subst e
   cases paid<;>simp[conL,tvK]
  ·subst e
   cases mine<;>cases paid<;>simp[conL,tvK]
theorem q1b:∀x∈qav,∀paid:Bool,qy6 x.2.2.2.2.1=true→¬(x.2.2.1=1∧x.2.2.2.1=true)→tvC true false (zm x.2.1 false 3) paid=tvC false true x.1 paid:=by decide +kernel
theorem q1a:∀x∈qav,∀paid:Bool,qy6 x.2.2.2.2.2=true→¬(x.2.2.1=2∧x.2.2.2.1=true)→tvC true true (zm x.1 true 3) paid=tvC false false x.2.1 paid:=by decide +kernel
end Go.Proofs.YtjpmomdechibmaaGreatDoor
