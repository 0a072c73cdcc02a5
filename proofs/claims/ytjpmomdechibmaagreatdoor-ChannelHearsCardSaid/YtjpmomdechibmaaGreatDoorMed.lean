/-
  The protocol, plain: sums over the ghost list, one set; what a cut does to an end.
-/
import Derived.Test.YtjpmomdechibmaaGreatDoorMec
import Derived.Test.YtjpmomdechibmaaGreatDoorMdh
set_option linter.unusedVariables false
set_option linter.unusedSimpArgs false
namespace Go.Proofs.YtjpmomdechibmaaGreatDoor
open Go.RowKit
theorem qop{α:Type}(f:α→Int){G:List α}{j:Nat}{g g':α}(q:G[j]? = some g):((G.set j g').map f).sum=(G.map f).sum-f g+f g':=by
 obtain⟨m,o⟩:=qda g' G j g q
 have i:=qfu (m.map f)
 have l:=qfu (o.map f)
 rw[List.map_cons,List.sum_cons] at i l
 rw[l,i]
 omega
theorem qmk{α:Type}(f:α→Int)(G:List α)(g:α):((G++[g]).map f).sum=(G.map f).sum+f g:=by
 rw[List.map_append,List.sum_append]
 simp
def qcm(own:Bool)(f:List Live):Int:=(f.map fun y=>if y.state=0∧y.own=own then y.h.amount else 0).sum
def qcz(own:Bool)(f:List Live):Int:=(f.map fun y=>if y.state=0∧y.own=own then (1:Int) else 0).sum
theorem qhm(own:Bool)(f:List Live)(h:∀y∈f,0≤y.h.amount):0≤qcm own f:=by
 unfold qcm
 induction f with
 | nil=>exact Int.le_refl _
 | cons y f i =>
  rw[List.map_cons,List.sum_cons]
  have j:=i (fun z g=>h z (List.mem_cons_of_mem _ g))
  have l:=h y (List.mem_cons_self ..)
  split<;>omega
theorem qj8(own:Bool)(f:List Live):0≤qcz own f:=by
 unfold qcz
 induction f with
 | nil=>exact Int.le_refl _
 | cons y f g =>
  rw[List.map_cons,List.sum_cons]
  split<;>omega
theorem qwu(own:Bool){xs f:List Live}(p:xs.Perm f):qcm own xs=qcm own f:=qfu (p.map _)
theorem ql4(own:Bool){xs f:List Live}(p:xs.Perm f):qcz own xs=qcz own f:=qfu (p.map _)
theorem qqz(f:List Live):∀c:Ch,(f.foldl zc c).s=c.s∧(f.foldl zc c).shelf=c.shelf∧(f.foldl zc c).news=c.news∧(f.foldl zc c).last=c.last∧(f.foldl zc c).k.signed=c.k.signed∧(f.foldl zc c).k.heard=c.k.heard∧(f.foldl zc c).k.awaits=c.k.awaits∧(f.foldl zc c).k.shutSaid=c.k.shutSaid∧(f.foldl zc c).k.shutHeard=c.k.shutHeard∧(f.foldl zc c).k.revoked=c.k.revoked:=by
 induction f with
 | nil=>intro c;exact⟨rfl,rfl,rfl,rfl,rfl,rfl,rfl,rfl,rfl,rfl⟩
 | cons y f F =>
  intro c
  rw[List.foldl_cons]
  obtain⟨a1,a2,a3,j,l,m,o,q,t,g⟩:=F (zc c y)
  have e:(zc c y).s=c.s∧(zc c y).shelf=c.shelf∧(zc c y).news=c.news∧(zc c y).last=c.last∧(zc c y).k.signed=c.k.signed∧(zc c y).k.heard=c.k.heard∧(zc c y).k.awaits=c.k.awaits∧(zc c y).k.shutSaid=c.k.shutSaid∧(zc c y).k.shutHeard=c.k.shutHeard∧(zc c y).k.revoked=c.k.revoked:=by
   unfold zc
   split
   ·split
    ·exact⟨rfl,rfl,rfl,rfl,rfl,rfl,rfl,rfl,rfl,rfl⟩
    ·exact⟨rfl,rfl,rfl,rfl,rfl,rfl,rfl,rfl,rfl,rfl⟩
   ·exact⟨rfl,rfl,rfl,rfl,rfl,rfl,rfl,rfl,rfl,rfl⟩
  obtain⟨b1,b2,v,w,x,z,C,D,E,i⟩:=e
  exact⟨a1.trans b1,a2.trans b2,a3.trans v,j.trans w,l.trans x,m.trans z,o.trans C,q.trans D,t.trans E,g.trans i⟩
theorem q57(f:List Live):∀c:Ch,(∀y∈f,0≤y.h.amount)→0≤c.loc→0≤c.rem→c.loc+qcm true f<18446744073709551616→c.rem+qcm false f<18446744073709551616→qcz true f≤c.k.nextOwn→c.k.nextOwn<18446744073709551616→qcz false f≤c.k.nextTheirs→c.k.nextTheirs<18446744073709551616 →
  (f.foldl zc c).loc=c.loc+qcm true f∧(f.foldl zc c).rem=c.rem+qcm false f∧(f.foldl zc c).k.nextOwn=c.k.nextOwn-qcz true f∧(f.foldl zc c).k.nextTheirs=c.k.nextTheirs-qcz false f:=by
 induction f with
 | nil =>
  intro c _ _ _ _ _ _ _ _ _
  exact⟨(Int.add_zero _).symm,(Int.add_zero _).symm,(Int.sub_zero _).symm,(Int.sub_zero _).symm⟩
 | cons y f K =>
  intro c L O P E F H M I N
  have i:∀z∈f,0≤z.h.amount:=fun z R=>L z (List.mem_cons_of_mem _ R)
  have T:=L y (List.mem_cons_self ..)
  have U:=qhm true f i
  have V:=qhm false f i
  have W:=qj8 true f
  have X:=qj8 false f
  have e:∀o,qcm o (y::f)=(if y.state=0∧y.own=o then y.h.amount else 0)+qcm o f:=fun o=>by unfold qcm;rw[List.map_cons,List.sum_cons]
  have J:∀o,qcz o (y::f)=(if y.state=0∧y.own=o then (1:Int) else 0)+qcz o f:=fun o=>by unfold qcz;rw[List.map_cons,List.sum_cons]
  rw[e] at E F
  rw[J] at H I
  rw[List.foldl_cons,e,e,J,J]
  by_cases g:y.state=0
  ·cases v:y.own with
   | true =>
    rw[if_pos ⟨g,v⟩] at E H
    rw[if_neg (fun h=>by rw[v] at h;cases h.2)] at F I
    rw[if_pos ⟨g,rfl⟩,if_neg (fun h=>by cases h.2),if_pos ⟨g,rfl⟩,if_neg (fun h=>by cases h.2)]
    have j:zc c y = {c.give true y.h.amount with k:= {c.k with nextOwn:=IntKind.u64.wrap (c.k.nextOwn-1)}} := by unfold zc;rw[if_pos g,if_pos v]
    have l:(zc c y).loc=c.loc+y.h.amount:=by rw[j];exact qd3 (by omega) (by omega)
    have m:(zc c y).rem=c.rem:=by rw[j];rfl
    have q:(zc c y).k.nextOwn=c.k.nextOwn-1:=by rw[j];exact qd3 (by omega) (by omega)
    have t:(zc c y).k.nextTheirs=c.k.nextTheirs:=by rw[j]
    obtain⟨w,x,C,D⟩:=K (zc c y) i (by rw[l];omega) (by rw[m];omega) (by rw[l];omega) (by rw[m];omega) (by rw[q];omega) (by rw[q];omega) (by rw[t];omega) (by rw[t];omega)
    rw[w,x,C,D,l,m,q,t]
    exact⟨by omega,by omega,by omega,by omega⟩
   | false =>
    rw[if_neg (fun h=>by rw[v] at h;cases h.2)] at E H
    rw[if_pos ⟨g,v⟩] at F I
    rw[if_neg (fun h=>by cases h.2),if_pos ⟨g,rfl⟩,if_neg (fun h=>by cases h.2),if_pos ⟨g,rfl⟩]
    have j:zc c y = {c.give false y.h.amount with k:= {c.k with nextTheirs:=IntKind.u64.wrap (c.k.nextTheirs-1)}} := by unfold zc;rw[if_pos g,if_neg (by rw[v];decide)]
    have l:(zc c y).loc=c.loc:=by rw[j];rfl
    have m:(zc c y).rem=c.rem+y.h.amount:=by rw[j];exact qd3 (by omega) (by omega)
    have q:(zc c y).k.nextOwn=c.k.nextOwn:=by rw[j]
    have t:(zc c y).k.nextTheirs=c.k.nextTheirs-1:=by rw[j];exact qd3 (by omega) (by omega)
    obtain⟨w,x,C,D⟩:=K (zc c y) i (by rw[l];omega) (by rw[m];omega) (by rw[l];omega) (by rw[m];omega) (by rw[q];omega) (by rw[q];omega) (by rw[t];omega) (by rw[t];omega)
    rw[w,x,C,D,l,m,q,t]
    exact⟨by omega,by omega,by omega,by omega⟩
  ·have j:zc c y=c:=by unfold zc;rw[if_neg g]
   rw[if_neg (fun h=>g h.1)] at E F H I
   rw[j,if_neg (fun h=>g h.1),if_neg (fun h=>g h.1),if_neg (fun h=>g h.1),if_neg (fun h=>g h.1)]
   obtain⟨w,x,C,D⟩:=K c i O P (by omega) (by omega) (by omega) M (by omega) N
   rw[w,x,C,D]
   exact⟨by omega,by omega,by omega,by omega⟩
def Seen.cut{α:Type}(v:Seen α):Seen α:= {v with st:=fun g=>zf (v.st g)}
theorem q71{α:Type}(v:Seen α)(g:α):v.cut.show g=((v.show g).filter (fun x=> !(x.state==0))).map zy:=by
 show qax (v.mine g) (v.h g) (zf (v.st g)) (v.paid g)=_
 unfold Seen.show qax zf
 by_cases h:0≤v.st g∧v.st g≤8
 ·rw[if_pos h,Option.filter_some]
  by_cases f:v.st g=0
  ·rw[f]
   rfl
  ·have j:(!((⟨v.h g,v.mine g,v.st g,v.paid g&&decide (5≤v.st g)⟩:Live).state==0))=true:=by simpa using f
   rw[if_pos j]
   show _=some (zy _)
   by_cases i:v.st g=5
   ·rw[i]
    simp[zy]
   ·rw[if_neg i,if_neg f,if_pos h]
    unfold zy
    rw[if_neg i]
 ·have i:¬v.st g=5:=by omega
  have f:¬v.st g=0:=by omega
  rw[if_neg i,if_neg f,if_neg h]
  rfl
theorem q5k{α:Type}(v:Seen α){xs:List Live}{G:List α}(m:xs.Perm (G.filterMap v.show)):(qd7 xs).Perm (G.filterMap v.cut.show):=by
 have l:(qd7 xs).Perm (qd7 (G.filterMap v.show)):=by
  unfold qd7
  exact(m.filter _).map _
 refine l.trans (List.Perm.of_eq ?_)
 clear m l
 unfold qd7
 induction G with
 | nil=>rfl
 | cons g G j =>
  have f:=q71 v g
  cases i:v.show g with
  | none =>
   rw[i] at f
   rw[List.filterMap_cons_none i,List.filterMap_cons_none f]
   exact j
  | some x =>
   rw[i,Option.filter_some] at f
   rw[List.filterMap_cons_some i,List.filter_cons]
   cases o:(!(x.state==0)) with
   | true =>
    rw[o,if_pos rfl] at f
    rw[List.filterMap_cons_some f,if_pos rfl,List.map_cons,j]
   | false =>
    rw[o,if_neg (by decide)] at f
    rw[List.filterMap_cons_none f,if_neg (by decide),j]
theorem q1f{α:Type}(own:Bool)(f:α→Option Live)(G:List α):qcm own (G.filterMap f)=(G.map fun g=>match f g with | none=>0 | some x=>if x.state=0∧x.own=own then x.h.amount else 0).sum:=by
 unfold qcm
 induction G with
 | nil=>rfl
 | cons g G j =>
  rw[List.map_cons,List.sum_cons,←j]
  cases i:f g with
  | none=>rw[List.filterMap_cons_none i];simp only;omega
  | some x =>
   rw[List.filterMap_cons_some i,List.map_cons,List.sum_cons]
theorem q9c(mine side paid:Bool)(s n:Int):conL (mine==side) (zf s) paid n=conL (mine==side) s paid n+(match qax mine ⟨0,n,Vector.replicate 32 0,0⟩ s paid with | none=>0 | some x=>if x.state=0∧x.own=side then x.h.amount else 0):=by
 unfold zf qax
 by_cases f:s=0
 ·subst f
  cases mine<;>cases side<;>simp[conL]<;>omega
 ·by_cases g:s=5
  ·subst g
   cases mine<;>cases side<;>simp[conL]
  ·rw[if_neg g,if_neg f]
   by_cases h:0≤s∧s≤8
   ·rw[if_pos h]
    simp only
    rw[if_neg (fun e=>f e.1)]
    omega
   ·rw[if_neg h]
    simp
theorem qvk(mine side paid:Bool)(s:Int)(h:Htlc):conL (mine==side) (zf s) paid h.amount=conL (mine==side) s paid h.amount+(match qax mine h s paid with | none=>0 | some x=>if x.state=0∧x.own=side then x.h.amount else 0):=by
 rw[q9c]
 congr 1
 unfold qax
 by_cases f:0≤s∧s≤8
 ·rw[if_pos f,if_pos f]
 ·rw[if_neg f,if_neg f]
theorem qvi{α:Type}(v:Seen α)(G:List α):v.cut.conL G=v.conL G+qcm true (G.filterMap v.show):=by
 rw[q1f]
 unfold Seen.conL
 induction G with
 | nil=>rfl
 | cons g G j =>
  simp only[List.map_cons,List.sum_cons]
  have i:=qvk (v.mine g) true (v.paid g) (v.st g) (v.h g)
  rw[show (v.mine g==true)=v.mine g by cases v.mine g<;>rfl] at i
  have f:Go.Proofs.YtjpmomdechibmaaGreatDoor.conL (v.cut.mine g) (v.cut.st g) (v.cut.paid g) (v.cut.h g).amount=Go.Proofs.YtjpmomdechibmaaGreatDoor.conL (v.mine g) (v.st g) (v.paid g) (v.h g).amount+(match v.show g with | none=>0 | some x=>if x.state=0∧x.own=true then x.h.amount else 0):=i
  rw[f,j]
  omega
theorem qvj{α:Type}(v:Seen α)(G:List α):v.cut.conR G=v.conR G+qcm false (G.filterMap v.show):=by
 rw[q1f]
 unfold Seen.conR
 induction G with
 | nil=>rfl
 | cons g G j =>
  simp only[List.map_cons,List.sum_cons]
  have i:=qvk (v.mine g) false (v.paid g) (v.st g) (v.h g)
  rw[show (v.mine g==false) = !v.mine g by cases v.mine g<;>rfl] at i
  have f:Go.Proofs.YtjpmomdechibmaaGreatDoor.conL (!v.cut.mine g) (v.cut.st g) (v.cut.paid g) (v.cut.h g).amount=Go.Proofs.YtjpmomdechibmaaGreatDoor.conL (!v.mine g) (v.st g) (v.paid g) (v.h g).amount+(match v.show g with | none=>0 | some x=>if x.state=0∧x.own=false then x.h.amount else 0):=i
  rw[f,j]
  omega
theorem q5l{α:Type}{c:Ch}(v:Seen α)(G:List α){L R:Int}(g:c.xs.Perm (G.filterMap v.show))(E:c.loc=L+v.conL G)(F:c.rem=R+v.conR G)(w:∀y∈c.xs,0≤y.h.amount)(x:0≤c.loc)(z:0≤c.rem)
  (b1:L+v.cut.conL G<18446744073709551616) (b2:R+v.cut.conR G<18446744073709551616) (i:qcz true c.xs≤c.k.nextOwn∧c.k.nextOwn<18446744073709551616) (j:qcz false c.xs≤c.k.nextTheirs∧c.k.nextTheirs<18446744073709551616) :
  c.cut.xs.Perm (G.filterMap v.cut.show)∧c.cut.loc=L+v.cut.conL G∧c.cut.rem=R+v.cut.conR G∧c.cut.k.nextOwn=c.k.nextOwn-qcz true c.xs∧c.cut.k.nextTheirs=c.k.nextTheirs-qcz false c.xs:=by
 have f:∀o,qcm o c.xs=qcm o (G.filterMap v.show):=fun o=>qwu o g
 have C:=qvi v G
 have D:=qvj v G
 obtain⟨l,m,q,t⟩:=q57 c.xs c w x z (by rw[f];omega) (by rw[f];omega) i.1 i.2 j.1 j.2
 refine⟨q5k v g,?_,?_,q,t⟩
 ·show (c.xs.foldl zc c).loc=_
  rw[l,f];omega
 ·show (c.xs.foldl zc c).rem=_
  rw[m,f];omega
def gvL(ours:Bool)(x:Live):Int:=if qcg ours x.own x.state then 0 else if qdu ours x.own x.state&&x.paid then (if x.own then 0 else x.h.amount) else (if x.own then x.h.amount else 0)
def gvR(ours:Bool)(x:Live):Int:=if qcg ours x.own x.state then 0 else if qdu ours x.own x.state&&x.paid then (if x.own then x.h.amount else 0) else (if x.own then 0 else x.h.amount)
theorem qx7(l n:Int):IntKind.u64.wrap (IntKind.u64.wrap l+n)=IntKind.u64.wrap (l+n):=by
 simp only[IntKind.wrap_u64]
 omega
theorem q4e(ours:Bool)(l r:Int)(x:Live):qa9 ours (IntKind.u64.wrap l,IntKind.u64.wrap r) x=(IntKind.u64.wrap (l+gvL ours x),IntKind.u64.wrap (r+gvR ours x)):=by
 unfold qa9 gvL gvR qcn
 cases qcg ours x.own x.state<;>cases (qdu ours x.own x.state&&x.paid)<;>cases x.own<;>simp[qx7]
theorem q4g(ours:Bool)(xs:List Live):∀l r:Int,zm ours (IntKind.u64.wrap l) (IntKind.u64.wrap r) xs=(IntKind.u64.wrap (l+(xs.map (gvL ours)).sum),IntKind.u64.wrap (r+(xs.map (gvR ours)).sum)):=by
 unfold zm
 induction xs with
 | nil =>
  intro l r
  show (_,_)=(IntKind.u64.wrap (l+0),IntKind.u64.wrap (r+0))
  rw[Int.add_zero,Int.add_zero]
 | cons x xs f =>
  intro l r
  rw[List.foldl_cons,q4e,f,List.map_cons,List.map_cons,List.sum_cons,List.sum_cons,Int.add_assoc,Int.add_assoc]
theorem q8e(ours:Bool)(xs:List Live){l r:Int}(i:0≤l∧l<18446744073709551616)(j:0≤r∧r<18446744073709551616)(f:0≤l+(xs.map (gvL ours)).sum∧l+(xs.map (gvL ours)).sum<18446744073709551616)(g:0≤r+(xs.map (gvR ours)).sum∧r+(xs.map (gvR ours)).sum<18446744073709551616):zm ours l r xs=(l+(xs.map (gvL ours)).sum,r+(xs.map (gvR ours)).sum):=by
 have:=q4g ours xs l r
 rw[qd3 i.1 (by omega),qd3 j.1 (by omega),qd3 f.1 (by omega),qd3 g.1 (by omega)] at this
 exact this
def tvL(ours mine:Bool)(s:Int)(paid:Bool)(n:Int):Int:=conL mine s paid n+(if 0≤s∧s≤8 then gvL ours ⟨⟨0,n,Vector.replicate 32 0,0⟩,mine,s,paid&&decide (5≤s)⟩ else 0)
def tvR(ours mine:Bool)(s:Int)(paid:Bool)(n:Int):Int:=conL (!mine) s paid n+(if 0≤s∧s≤8 then gvR ours ⟨⟨0,n,Vector.replicate 32 0,0⟩,mine,s,paid&&decide (5≤s)⟩ else 0)
def tvC(ours mine:Bool)(s:Int)(paid:Bool):Nat:=if 0≤s∧s≤8 then (if qcg ours mine s then 1 else if qdu ours mine s&&paid then 2 else 0) else if s=9∧paid=true then 2 else 0
def tvK(k:Nat)(mine:Bool)(n:Int):Int:=if k=1 then (if mine then -n else 0) else if k=2 then (if mine then -n else n) else 0
theorem qw0:∀(ours mine:Bool) (s:Fin 9),qdu ours mine (s.val:Int)=true→qcg ours mine (s.val:Int)=false→5≤s.val:=by decide +kernel
theorem zc6(ours mine:Bool)(s:Int)(paid:Bool)(n:Int)(m : -1≤s∧s≤9):tvL ours mine s paid n=tvK (tvC ours mine s paid) mine n:=by
 unfold tvL tvC
 by_cases h:0≤s∧s≤8
 ·rw[if_pos h,if_pos h]
  have g:¬s = -1:=by omega
  have i:¬s=9:=by omega
  have f:=qw0 ours mine ⟨s.toNat,by omega⟩
  simp only[show ((s.toNat:Nat):Int)=s by omega] at f
  unfold conL gvL tvK
  rw[if_neg g,if_neg i]
  simp only
  cases l:qcg ours mine s with
  | true=>cases mine<;>simp
  | false =>
   cases j:qdu ours mine s with
   | false=>cases mine<;>cases paid<;>simp<;>omega
   | true =>
    have:=f j l
    rw[decide_eq_true (show (5:Int)≤s by omega)]
    cases mine<;>cases paid<;>simp<;>omega
 ·rw[if_neg h,if_neg h]
  have:s = -1∨s=9:=by omega
  rcases this with e | e
  ·subst e
   cases paid<;>simp[conL,tvK]
  ·subst e
   cases mine<;>cases paid<;>simp[conL,tvK]
theorem zc7(ours mine:Bool)(s:Int)(paid:Bool)(n:Int)(m : -1≤s∧s≤9):tvR ours mine s paid n=tvK (tvC ours mine s paid) (!mine) n:=by
 unfold tvR tvC
 by_cases h:0≤s∧s≤8
 ·rw[if_pos h,if_pos h]
  have g:¬s = -1:=by omega
  have i:¬s=9:=by omega
  have f:=qw0 ours mine ⟨s.toNat,by omega⟩
  simp only[show ((s.toNat:Nat):Int)=s by omega] at f
  unfold conL gvR tvK
  rw[if_neg g,if_neg i]
  simp only
  cases l:qcg ours mine s with
  | true=>cases mine<;>simp
  | false =>
   cases j:qdu ours mine s with
   | false=>cases mine<;>cases paid<;>simp<;>omega
   | true =>
    have:=f j l
    rw[decide_eq_true (show (5:Int)≤s by omega)]
    cases mine<;>cases paid<;>simp<;>omega
 ·rw[if_neg h,if_neg h]
  have:s = -1∨s=9:=by omega
  rcases this with e | e
  ·subst e
   cases paid<;>simp[conL,tvK]
  ·subst e
   cases mine<;>cases paid<;>simp[conL,tvK]
theorem qzx:∀x∈qat,∀paid:Bool,qxy x.2.2.2.2.1=true→¬(x.2.2.1=1∧x.2.2.2.1=true)→tvC true false (zl x.2.1 false 3) paid=tvC false true x.1 paid:=by decide +kernel
theorem qzw:∀x∈qat,∀paid:Bool,qxy x.2.2.2.2.2=true→¬(x.2.2.1=2∧x.2.2.2.1=true)→tvC true true (zl x.1 true 3) paid=tvC false false x.2.1 paid:=by decide +kernel
theorem qp0{α:Type}(f:α→Option Live)(F:Live→Int)(G:List α):((G.filterMap f).map F).sum=(G.map fun g=>match f g with | none=>0 | some x=>F x).sum:=by
 induction G with
 | nil=>rfl
 | cons g G j =>
  rw[List.map_cons,List.sum_cons,←j]
  cases i:f g with
  | none=>rw[List.filterMap_cons_none i];simp only;omega
  | some x =>
   rw[List.filterMap_cons_some i,List.map_cons,List.sum_cons]
def Seen.tvL{α:Type}(v:Seen α)(ours:Bool)(G:List α):Int:=(G.map fun g=>Go.Proofs.YtjpmomdechibmaaGreatDoor.tvL ours (v.mine g) (v.st g) (v.paid g) (v.h g).amount).sum
def Seen.tvR{α:Type}(v:Seen α)(ours:Bool)(G:List α):Int:=(G.map fun g=>Go.Proofs.YtjpmomdechibmaaGreatDoor.tvR ours (v.mine g) (v.st g) (v.paid g) (v.h g).amount).sum
theorem zam{α:Type}(v:Seen α)(ours:Bool)(G:List α):v.tvL ours G=v.conL G+((G.filterMap v.show).map (gvL ours)).sum:=by
 rw[qp0]
 unfold Seen.tvL Seen.conL
 induction G with
 | nil=>rfl
 | cons g G i =>
  simp only[List.map_cons,List.sum_cons]
  have f:Go.Proofs.YtjpmomdechibmaaGreatDoor.tvL ours (v.mine g) (v.st g) (v.paid g) (v.h g).amount=Go.Proofs.YtjpmomdechibmaaGreatDoor.conL (v.mine g) (v.st g) (v.paid g) (v.h g).amount+(match v.show g with | none=>0 | some x=>gvL ours x):=by
   unfold Go.Proofs.YtjpmomdechibmaaGreatDoor.tvL Seen.show qax
   by_cases h:0≤v.st g∧v.st g≤8
   ·rw[if_pos h,if_pos h]
    rfl
   ·rw[if_neg h,if_neg h]
  rw[f,i]
  omega
theorem zan{α:Type}(v:Seen α)(ours:Bool)(G:List α):v.tvR ours G=v.conR G+((G.filterMap v.show).map (gvR ours)).sum:=by
 rw[qp0]
 unfold Seen.tvR Seen.conR
 induction G with
 | nil=>rfl
 | cons g G i =>
  simp only[List.map_cons,List.sum_cons]
  have f:Go.Proofs.YtjpmomdechibmaaGreatDoor.tvR ours (v.mine g) (v.st g) (v.paid g) (v.h g).amount=Go.Proofs.YtjpmomdechibmaaGreatDoor.conL (!v.mine g) (v.st g) (v.paid g) (v.h g).amount+(match v.show g with | none=>0 | some x=>gvR ours x):=by
   unfold Go.Proofs.YtjpmomdechibmaaGreatDoor.tvR Seen.show qax
   by_cases h:0≤v.st g∧v.st g≤8
   ·rw[if_pos h,if_pos h]
    rfl
   ·rw[if_neg h,if_neg h]
  rw[f,i]
  omega
theorem qso{α:Type}(v:Seen α)(ours:Bool){l r L R:Int}{xs:List Live}{G:List α}(f:xs.Perm (G.filterMap v.show))(t:l=L+v.conL G)(w:r=R+v.conR G)(j:0≤l∧l<18446744073709551616)(m:0≤r∧r<18446744073709551616)
  (o:0≤L+v.tvL ours G∧L+v.tvL ours G<18446744073709551616) (q:0≤R+v.tvR ours G∧R+v.tvR ours G<18446744073709551616):zm ours l r xs=(L+v.tvL ours G,R+v.tvR ours G):=by
 have g:(xs.map (gvL ours)).sum=((G.filterMap v.show).map (gvL ours)).sum:=qfu (f.map _)
 have i:(xs.map (gvR ours)).sum=((G.filterMap v.show).map (gvR ours)).sum:=qfu (f.map _)
 have x:=zam v ours G
 have y:=zan v ours G
 rw[q8e ours xs j m (by omega) (by omega),g,i]
 congr 1<;>omega
theorem qi2{α:Type}(v:Seen α)(ours:Bool)(G:List α):qz ours (G.filterMap v.show)=G.filterMap fun g=>if (0≤v.st g∧v.st g≤8)∧qcg ours (v.mine g) (v.st g)=true then some ⟨v.mine g==ours,v.h g⟩ else none:=by
 unfold qz
 induction G with
 | nil=>rfl
 | cons g G i =>
  by_cases h:0≤v.st g∧v.st g≤8
  ·have f:v.show g=some ⟨v.h g,v.mine g,v.st g,v.paid g&&decide (5≤v.st g)⟩:=by unfold Seen.show qax;rw[if_pos h]
   rw[List.filterMap_cons_some f,List.filter_cons]
   cases j:qcg ours (v.mine g) (v.st g) with
   | true =>
    rw[if_pos rfl,List.map_cons,i,List.filterMap_cons_some (b:=⟨v.mine g==ours,v.h g⟩) (by rw[if_pos ⟨h,j⟩])]
   | false =>
    rw[if_neg (by decide),i,List.filterMap_cons_none (by rw[if_neg (fun e=>by rw[j] at e;cases e.2)])]
  ·have f:v.show g=none:=by unfold Seen.show qax;rw[if_neg h]
   rw[List.filterMap_cons_none f,i,List.filterMap_cons_none (by rw[if_neg (fun e=>h e.1)])]
theorem q1p(ours mine:Bool)(s:Int)(paid:Bool):tvC ours mine s paid=1↔(0≤s∧s≤8)∧qcg ours mine s=true:=by
 unfold tvC
 by_cases h:0≤s∧s≤8
 ·rw[if_pos h]
  cases f:qcg ours mine s with
  | true=>simp[h]
  | false =>
   cases g:qdu ours mine s<;>cases paid<;>simp
 ·rw[if_neg h]
  constructor
  ·intro e
   split at e<;>omega
  ·intro e
   exact absurd e.1 h
theorem qgn{α β:Type}{f f':α→Option β}{G:List α}(h:∀g∈G,f g=f' g):G.filterMap f=G.filterMap f':=by
 induction G with
 | nil=>rfl
 | cons g G j =>
  rw[List.filterMap_cons,List.filterMap_cons,h g (List.mem_cons_self ..),j (fun y i=>h y (List.mem_cons_of_mem _ i))]
structure Meet{α:Type}(va vb:Seen α)(G:List α):Prop where
 mine:∀g∈G,vb.mine g = !va.mine g
 h:∀g∈G,vb.h g=va.h g
 paid:∀g∈G,vb.paid g=va.paid g
 sa:∀g∈G,-1≤va.st g∧va.st g≤9
 sb:∀g∈G,-1≤vb.st g∧vb.st g≤9
 cls:∀g∈G,tvC true (vb.mine g) (vb.st g) (vb.paid g)=tvC false (va.mine g) (va.st g) (va.paid g)
theorem qp2{α:Type}{va vb:Seen α}{G:List α}(h:Meet va vb G):qz true (G.filterMap vb.show)=qz false (G.filterMap va.show):=by
 rw[qi2,qi2]
 refine qgn fun g i=> ?_
 have m:=h.cls g i
 have j:=q1p true (vb.mine g) (vb.st g) (vb.paid g)
 have l:=q1p false (va.mine g) (va.st g) (va.paid g)
 by_cases f:tvC false (va.mine g) (va.st g) (va.paid g)=1
 ·rw[if_pos (j.1 (m.trans f)),if_pos (l.1 f),h.mine g i,h.h g i]
  cases va.mine g<;>rfl
 ·rw[if_neg (fun e=>f (m.symm.trans (j.2 e))),if_neg (fun e=>f (l.2 e))]
theorem zcp{α:Type}{va vb:Seen α}{G:List α}(h:Meet va vb G):vb.tvL true G=va.tvR false G∧vb.tvR true G=va.tvL false G:=by
 unfold Seen.tvL Seen.tvR
 refine⟨congrArg List.sum (List.map_congr_left fun g f=> ?_),congrArg List.sum (List.map_congr_left fun g f=> ?_)⟩
 ·rw[zc6 _ _ _ _ _ (h.sb g f),zc7 _ _ _ _ _ (h.sa g f),h.cls g f,h.mine g f,h.h g f]
 ·rw[zc7 _ _ _ _ _ (h.sb g f),zc6 _ _ _ _ _ (h.sa g f),h.cls g f,h.mine g f,h.h g f,Bool.not_not]
theorem q4i{α:Type}{va vb:Seen α}{G:List α}(h:Meet va vb G)(key:ByteArray)(ch n:Int){la f lb g L R:Int}{i j:List Live}(x:i.Perm (G.filterMap va.show))(y:j.Perm (G.filterMap vb.show))
  (D:la=L+va.conL G) (E:f=R+va.conR G) (F:lb=R+vb.conL G) (H:g=L+vb.conR G) (b1:0≤la∧la<18446744073709551616) (b2:0≤f∧f<18446744073709551616) (z:0≤lb∧lb<18446744073709551616) (C:0≤g∧g<18446744073709551616)
  (m:0≤L+va.tvL false G∧L+va.tvL false G<18446744073709551616) (o:0≤R+va.tvR false G∧R+va.tvR false G<18446744073709551616) (q:qhg (qz false i)):zx true key ch n lb g j=zx false key ch n la f i:=by
 obtain⟨m1,t⟩:=zcp h
 have J:=qso va false x D E b1 b2 m o
 have K:=qso vb true y F H z C (by rw[m1];exact o) (by rw[t];exact m)
 have I:qep (qz true j)=qep (qz false i):=by
  have v:=qk8 false x
  have w:=qk8 true y
  have l:qhg (qz true j):=(q.perm v).perm (by rw[←qp2 h];exact w.symm)
  rw[qk4 l w,qp2 h,←qk4 q v]
 unfold zx qhb qhc
 rw[I,J,K,m1,t]
 rfl
theorem qkl(c:Ch)(ev:Int):(c.goOn ev).k=c.k∧(c.goOn ev).s=c.s∧(c.goOn ev).news=c.news∧(c.goOn ev).last=c.last∧(c.goOn ev).shelf=c.shelf:=qf4 (zk ev c.xs) c
theorem qn0{α:Type}{v:Seen α}{g:α}{x:Live}(h:v.show g=some x):x.h=v.h g:=by
 unfold Seen.show qax at h
 split at h
 ·injection h with h
  rw[←h]
 ·cases h
theorem qek{α:Type}(v:Seen α){G:List α}(i:∀g∈G,0≤(v.h g).amount){xs:List Live}(j:xs.Perm (G.filterMap v.show)):∀y∈xs,0≤y.h.amount:=by
 intro y l
 obtain⟨g,f,e⟩:=List.mem_filterMap.1 (j.subset l)
 rw[qn0 e]
 exact i g f
theorem qre{α:Type}{c:Ch}(v:Seen α)(G:List α){L R:Int}(i:∀g∈G,0≤(v.h g).amount)(j:c.xs.Perm (G.filterMap v.show))(w:c.loc=L+v.conL G)(x:c.rem=R+v.conR G)(y:0≤c.loc)(z:0≤c.rem)
  (b1:0≤L+(v.on 3).conL G∧L+(v.on 3).conL G<18446744073709551616) (b2:0≤R+(v.on 3).conR G∧R+(v.on 3).conR G<18446744073709551616) (m:L+((v.on 3).on 4).conL G<18446744073709551616) (o:R+((v.on 3).on 4).conR G<18446744073709551616) :
  c.signedBy.xs.Perm (G.filterMap ((v.on 3).on 4).show)∧c.signedBy.loc=L+((v.on 3).on 4).conL G∧c.signedBy.rem=R+((v.on 3).on 4).conR G∧c.signedBy.k = {c.k with heard:=c.k.heard+1,revoked:=true} ∧ c.signedBy.s=c.s∧c.signedBy.news=c.news∧c.signedBy.last=c.last∧c.signedBy.shelf=c.shelf:=by
 obtain⟨H,l1,l⟩:=qhw v 3 G j w x (qek v i j) y z b1.2 b2.2
 obtain⟨C,K,E,a1,q⟩:=qkl c 3
 have f:(c.goOn 3).heardOne.xs.Perm (G.filterMap (v.on 3).show):=H
 obtain⟨I,l2,J⟩:=qhw (c:=(c.goOn 3).heardOne) (v.on 3) 4 G f l1 l (qek (v.on 3) i f) (by show 0≤(c.goOn 3).loc;rw[l1];exact b1.1) (by show 0≤(c.goOn 3).rem;rw[l];exact b2.1) m o
 obtain⟨D,M,F,a2,t⟩:=qkl (c.goOn 3).heardOne 4
 refine⟨I,l2,J,?_,M.trans K,F.trans E,a2.trans a1,t.trans q⟩
 show {((c.goOn 3).heardOne.goOn 4).k with revoked:=true} = _
 rw[D]
 show ({({(c.goOn 3).k with heard:=(c.goOn 3).k.heard+1} : CountsV) with revoked:=true} : CountsV)=_
 rw[C]
theorem qur{α:Type}{c:Ch}(v:Seen α)(G:List α){L R:Int}(o:∀g∈G,0≤(v.h g).amount)(f:c.xs.Perm (G.filterMap v.show))(j:c.loc=L+v.conL G)(l:c.rem=R+v.conR G)(m:0≤c.loc)(q:0≤c.rem)
  (b1:L+(v.on 1).conL G<18446744073709551616) (b2:R+(v.on 1).conR G<18446744073709551616) :
  c.signing.xs.Perm (G.filterMap (v.on 1).show)∧c.signing.loc=L+(v.on 1).conL G∧c.signing.rem=R+(v.on 1).conR G∧c.signing.k = {c.k with signed:=c.k.signed+1,awaits:=true,revoked:=false} ∧ c.signing.s=c.s∧c.signing.news=c.news∧c.signing.last=c.last∧c.signing.shelf=c.shelf:=by
 obtain⟨x,l1,y⟩:=qhw v 1 G f j l (qek v o f) m q b1 b2
 obtain⟨t,z,w,a1,i⟩:=qkl c 1
 refine⟨x,l1,y,?_,z,w,a1,i⟩
 show ({(c.goOn 1).k with signed:=c.k.signed+1,awaits:=true,revoked:=false} : CountsV)=_
 rw[t]
theorem qui{α:Type}{c:Ch}(m:MsgV)(v:Seen α)(G:List α){L R:Int}(q:∀g∈G,0≤(v.h g).amount)(f:c.xs.Perm (G.filterMap v.show))(j:c.loc=L+v.conL G)(l:c.rem=R+v.conR G)(o:0≤c.loc)(t:0≤c.rem)
  (b1:L+(v.on 2).conL G<18446744073709551616) (b2:R+(v.on 2).conR G<18446744073709551616) :
  (((c.shelved m).goOn 2).unawait).xs.Perm (G.filterMap (v.on 2).show)∧(((c.shelved m).goOn 2).unawait).loc=L+(v.on 2).conL G∧(((c.shelved m).goOn 2).unawait).rem=R+(v.on 2).conR G∧(((c.shelved m).goOn 2).unawait).k = {c.k with awaits:=false} ∧ (((c.shelved m).goOn 2).unawait).s=c.s∧(((c.shelved m).goOn 2).unawait).news=c.news∧(((c.shelved m).goOn 2).unawait).last=c.last∧(((c.shelved m).goOn 2).unawait).shelf=qt2 m.hash (65535-m.number) c.shelf:=by
 obtain⟨y,l1,z⟩:=qhw (c:=c.shelved m) v 2 G f j l (qek v q f) o t b1 b2
 obtain⟨w,C,x,a1,i⟩:=qkl (c.shelved m) 2
 refine⟨y,l1,z,?_,C,x,a1,i⟩
 show ({((c.shelved m).goOn 2).k with awaits:=false} : CountsV)=_
 rw[w]
 rfl
theorem zad{l:List Item}(h:l.Pairwise fun x y=>¬(x.offered=y.offered∧x.h.id=y.h.id)){x y:Item}(o:x∈l)(q:y∈l)(j:x.offered=y.offered∧x.h.id=y.h.id):x=y:=by
 induction l with
 | nil=>cases o
 | cons z l v =>
  obtain⟨m,t⟩:=List.pairwise_cons.1 h
  rcases List.mem_cons.1 o with ex | g
  ·rcases List.mem_cons.1 q with i | f
   ·rw[ex,i]
   ·exact absurd (ex▸j) (m y f)
  ·rcases List.mem_cons.1 q with i | f
   ·exact absurd (i▸⟨j.1.symm,j.2.symm⟩) (m x g)
   ·exact v t g f
theorem q3c{α:Type}{v:Seen α}{ours:Bool}{G:List α}(C:G.Pairwise fun g g'=>¬(v.mine g=v.mine g'∧(v.h g).id=(v.h g').id)):qhg (qz ours (G.filterMap v.show)):=by
 rw[qi2]
 have w:(G.filterMap fun g=>if (0≤v.st g∧v.st g≤8)∧qcg ours (v.mine g) (v.st g)=true then some (⟨v.mine g==ours,v.h g⟩:Item) else none).Pairwise fun x y=>¬(x.offered=y.offered∧x.h.id=y.h.id):=by
  rw[List.pairwise_filterMap]
  refine C.imp ?_
  intro g g' j x f y i
  split at f
  ·injection f with f
   split at i
   ·injection i with i
    subst f
    subst i
    rintro ⟨o,z⟩
    refine j ⟨?_,z⟩
    simp only at o
    revert o
    cases v.mine g<;>cases v.mine g'<;>cases ours<;>simp
   ·cases i
  ·cases f
 refine⟨w.imp fun h e=>h (by rw[e];exact⟨rfl,rfl⟩),?_⟩
 intro x f y i q t
 have D:x.offered=y.offered∧x.h.id=y.h.id:=by
  unfold kl qe5 at q t
  cases l:x.offered<;>cases m:y.offered<;>simp[l,m] at q t ⊢<;>omega
 exact zad w f i D
def qut(n:Int)(xs:List Live):Int:=xs.foldl (fun s x=>IntKind.u64.wrap (s+x.h.amount)) n
def Ch.total(c:Ch):Int:=qut (IntKind.u64.wrap (c.loc+c.rem)) c.xs
theorem q4k{xs:List Live}{i:Nat}{x:Live}(n:Int)(f:xs[i]? = some x):qut n (xs.take (i+1))=IntKind.u64.wrap (qut n (xs.take i)+x.h.amount):=by
 unfold qut
 rw[List.take_add_one,f,List.foldl_append]
 rfl
theorem qwb{w:World}{g:Nat}{xs:List Live}(h:qfo w g 0 xs){i:Nat}{x:Live}(l:xs[i]? = some x):w.cell? ⟨g,i*38+1,none⟩=some (.int .u64 x.h.amount):=by
 obtain⟨C,T,m,f,o,j⟩:=h
 have:=j i x l 1 (by decide)
 rw[qg f]
 rw[Nat.zero_add] at this
 rw[this]
 exact qt5 x
attribute [local go_sem] qrq qrr
set_option maxRecDepth 100000 in
set_option maxHeartbeats 1000000 in
theorem qxz(g:Nat)(S:Nat→Prop)(c:Ch)(w:World)(h:ChS w g S c) :
  Calls Tryz.prog 33 #[.pointer (some ⟨g,0,none⟩)] w (qa5 (.int .u64 c.total) w):=by
 have P:c.xs.length≤1000000:=by
  obtain⟨_,_,_,hp⟩:=h
  exact hp.ok.few
 have L:=qb h
 have l:=qmr g S c w h
 clear h
 go_enter Tryz.func33,Tryz.ntmps33
 go_wp2_with fail
 refine l.mono ?_
 rintro e w1 ⟨rfl,H⟩
 have D:=qb ((qa L).new H)
 have l:=qmr g S c w1 (qa D)
 have M:=qb H
 clear H L
 go_wp2_with fail
 refine l.mono ?_
 rintro e w2 ⟨rfl,I⟩
 have V:=qb ((qa D).new I)
 have z:=qr8 g S c w2 (qa V)
 have Y:=qb ((qa M).trans I)
 clear l I D M
 go_wp2_with fail
 refine z.mono ?_
 rintro e U ⟨u,rfl,T,R⟩
 have Z:=qb ((qa Y).trans T)
 have y:c.total=qut (IntKind.u64.wrap (c.loc+c.rem)) c.xs:=rfl
 have q:=qb y
 have f:∃J m,u = .slice J c.xs.length m∧∀(i:Nat) (x:Live),c.xs[i]? = some x→∃g',J=some ⟨g',0,none⟩∧U.cell? ⟨g',i*38+1,none⟩=some (.int .u64 x.h.amount):=by
  rcases R with ⟨a,k,rfl,e0⟩ | ⟨g',cap,rfl,hg,hh⟩
  ·rw[e0]
   exact⟨a,k,rfl,fun i x C=>by cases C⟩
  ·exact⟨_,cap,rfl,fun i x C=>⟨g',rfl,qwb hh.toL C⟩⟩
 obtain⟨J,m,rfl,f⟩:=f
 have o:=qb f
 clear z R T y f
 obtain⟨B,N⟩:∃B,B=IntKind.u64.wrap (c.loc+c.rem):=⟨_,rfl⟩
 rw[←N] at q
 generalize c.xs=xs at *
 have a5:(xs.length:Int)≤1000000:=by omega
 obtain⟨K,rfl⟩:∃K:World,K=U:=⟨_,rfl⟩
 rw[show c.total=qut B xs from qa q]
 go_wp2_with fail
 go_loopw [3,5] (fun sv F wr=>∃(i:Nat) (t:Int),sv = .int .u64 t∧F = .int .i64 (i:Int)∧i≤xs.length∧Hid (t=qut B (xs.take i))∧wr=K) (fun _ F _=>xs.length-(intOf F).toNat)
 case atStart=>exact⟨0,B,by rw[N],rfl,Nat.zero_le _,qb rfl,rfl⟩
 case round =>
  obtain⟨i,t,rfl,rfl,C,j,rfl⟩:=hrel
  by_cases E:i<xs.length
  ·obtain⟨x,v⟩:∃x,xs[i]? = some x:=⟨_,List.getElem?_eq_getElem E⟩
   obtain⟨g',rfl,hc⟩:=qa o i x v
   have a4:(i:Int)<(xs.length:Int):=by omega
   have X:=qb (q4k B v)
   clear v
   go_wp2_with fail
   go_roundw
   case rel=>exact⟨i+1,_,rfl,by go_num,by omega,qb (by rw[qa X,←qa j]),trivial⟩
   case measure=>simp[intOf];omega
  ·obtain rfl:i=xs.length:=by omega
   rw[List.take_length] at j
   have O:=qa Z
   have W:=qb O
   clear O
   go_wp2_with fail
   go_ret
   exact⟨by first | (rw[qa q,←qa j];rfl) | (rw[←qa j];rfl),qa W⟩
end Go.Proofs.YtjpmomdechibmaaGreatDoor
namespace Go.Proofs.YtjpmomdechibmaaGreatDoor
open Go.RowKit
theorem qvl(mine paid:Bool)(s n:Int)(h : -1≤s∧s≤9):conL mine s paid n+conL (!mine) s paid n+(if 0≤s∧s≤8 then n else 0)=0:=by
 have i:∀m:Bool,conL m s paid n=if s = -1 then 0 else if s=9 then (if paid then (if m then -n else n) else 0) else (if m then -n else 0):=fun m=>rfl
 rw[i,i]
 by_cases f:s = -1
 ·rw[if_pos f,if_pos f,if_neg (show ¬(0≤s∧s≤8) by omega)]
  rfl
 ·rw[if_neg f,if_neg f]
  by_cases g:s=9
  ·rw[if_pos g,if_pos g,if_neg (show ¬(0≤s∧s≤8) by omega)]
   cases mine<;>cases paid<;>simp only[Bool.not_true,Bool.not_false,if_true,Bool.false_eq_true,if_false]<;>omega
  ·rw[if_neg g,if_neg g,if_pos (show 0≤s∧s≤8 by omega)]
   cases mine<;>simp only[Bool.not_true,Bool.not_false,if_true,Bool.false_eq_true,if_false]<;>omega
theorem q4l(xs:List Live):∀n:Int,qut (IntKind.u64.wrap n) xs=IntKind.u64.wrap (n+(xs.map (·.h.amount)).sum):=by
 unfold qut
 induction xs with
 | nil =>
  intro n
  show _=IntKind.u64.wrap (n+0)
  rw[Int.add_zero]
  rfl
 | cons x xs f =>
  intro n
  rw[List.foldl_cons,qx7,f,List.map_cons,List.sum_cons,Int.add_assoc]
theorem q0m{α:Type}{c:Ch}(v:Seen α)(G:List α){L R:Int}(l:c.xs.Perm (G.filterMap v.show))(q:c.loc=L+v.conL G)(t:c.rem=R+v.conR G)(m:∀g∈G,-1≤v.st g∧v.st g≤9)(w:0≤L+R∧L+R<18446744073709551616):c.total=L+R:=by
 have i:(c.xs.map (·.h.amount)).sum=((G.filterMap v.show).map (·.h.amount)).sum:=qfu (l.map _)
 have z:v.conL G+v.conR G+((G.filterMap v.show).map (·.h.amount)).sum=0:=by
  rw[qp0]
  unfold Seen.conL Seen.conR
  clear l q t i
  induction G with
  | nil=>rfl
  | cons g G o =>
   have o:=o (fun y x=>m y (List.mem_cons_of_mem _ x))
   simp only[List.map_cons,List.sum_cons]
   have j:=qvl (v.mine g) (v.paid g) (v.st g) (v.h g).amount (m g (List.mem_cons_self ..))
   by_cases h:0≤v.st g∧v.st g≤8
   ·have f:v.show g=some ⟨v.h g,v.mine g,v.st g,v.paid g&&decide (5≤v.st g)⟩:=by unfold Seen.show qax;rw[if_pos h]
    rw[if_pos h] at j
    rw[f]
    simp only
    omega
   ·have f:v.show g=none:=by unfold Seen.show qax;rw[if_neg h]
    rw[if_neg h] at j
    rw[f]
    simp only
    omega
 unfold Ch.total
 rw[q4l,i]
 have:c.loc+c.rem+((G.filterMap v.show).map (·.h.amount)).sum=L+R:=by omega
 rw[this]
 exact qd3 w.1 (by omega)
end Go.Proofs.YtjpmomdechibmaaGreatDoor
