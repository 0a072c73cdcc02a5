/-
  The protocol, plain: sums over the ghost list, one set; what a cut does to an end.
-/
import Derived.Test.YthnohmjbbeahmaaGreatDoorMda
import Derived.Test.YthnohmjbbeahmaaGreatDoorMcj
set_option linter.unusedVariables false
set_option linter.unusedSimpArgs false
namespace Go.Proofs.YthnohmjbbeahmaaGreatDoor
open Go.RowKit
theorem qqn{α:Type}(f:α→Int){G:List α}{j:Nat}{g g':α}(q:G[j]? = some g):((G.set j g').map f).sum=(G.map f).sum-f g+f g':=by
 obtain⟨m,o⟩:=qdz g' G j g q;have i:=qgt (m.map f);have l:=qgt (o.map f);rw[List.map_cons,List.sum_cons] at i l;rw[l,i];omega
theorem qoc{α:Type}(f:α→Int)(G:List α)(g:α):((G++[g]).map f).sum=(G.map f).sum+f g:=by
 rw[List.map_append,List.sum_append];simp
def qc2(own:Bool)(g:List Live):Int:=(g.map fun y=>if y.state=0∧y.own=own then y.h.amount else 0).sum
def qdi(own:Bool)(g:List Live):Int:=(g.map fun y=>if y.state=0∧y.own=own then (1:Int) else 0).sum
theorem qil(own:Bool)(g:List Live)(h:∀y∈g,0≤y.h.amount):0≤qc2 own g:=by
 unfold qc2
 induction g with
 | nil=>exact Int.le_refl _
 | cons y g l =>
  rw[List.map_cons,List.sum_cons];have m:=l (fun z i=>h z (List.mem_cons_of_mem _ i));have o:=h y (List.mem_cons_self ..);split<;>omega
theorem qlc(own:Bool)(g:List Live):0≤qdi own g:=by
 unfold qdi
 induction g with
 | nil=>exact Int.le_refl _
 | cons y g i =>
  rw[List.map_cons,List.sum_cons];split<;>omega
theorem qzo(own:Bool){xs g:List Live}(p:xs.Perm g):qc2 own xs=qc2 own g:=qgt (p.map _)
theorem qnu(own:Bool){xs g:List Live}(p:xs.Perm g):qdi own xs=qdi own g:=qgt (p.map _)
theorem qtd(g:List Live):∀c:Ch,(g.foldl za c).s=c.s∧(g.foldl za c).shelf=c.shelf∧(g.foldl za c).news=c.news∧(g.foldl za c).last=c.last∧(g.foldl za c).k.signed=c.k.signed∧(g.foldl za c).k.heard=c.k.heard∧(g.foldl za c).k.awaits=c.k.awaits∧(g.foldl za c).k.shutSaid=c.k.shutSaid∧(g.foldl za c).k.shutHeard=c.k.shutHeard∧(g.foldl za c).k.revoked=c.k.revoked:=by
 induction g with
 | nil=>intro c;exact⟨rfl,rfl,rfl,rfl,rfl,rfl,rfl,rfl,rfl,rfl⟩
 | cons y g J =>
  intro c;rw[List.foldl_cons];obtain⟨a1,a2,a3,m,o,q,t,v,w,i⟩:=J (za c y);have e:(za c y).s=c.s∧(za c y).shelf=c.shelf∧(za c y).news=c.news∧(za c y).last=c.last∧(za c y).k.signed=c.k.signed∧(za c y).k.heard=c.k.heard∧(za c y).k.awaits=c.k.awaits∧(za c y).k.shutSaid=c.k.shutSaid∧(za c y).k.shutHeard=c.k.shutHeard∧(za c y).k.revoked=c.k.revoked:=by
   unfold za;split
   ·split
    ·exact⟨rfl,rfl,rfl,rfl,rfl,rfl,rfl,rfl,rfl,rfl⟩
    ·exact⟨rfl,rfl,rfl,rfl,rfl,rfl,rfl,rfl,rfl,rfl⟩
   ·exact⟨rfl,rfl,rfl,rfl,rfl,rfl,rfl,rfl,rfl,rfl⟩
  obtain⟨b1,b2,z,C,D,E,F,H,I,l⟩:=e;exact⟨a1.trans b1,a2.trans b2,a3.trans z,m.trans C,o.trans D,q.trans E,t.trans F,v.trans H,w.trans I,i.trans l⟩
theorem q9y(g:List Live):∀c:Ch,(∀y∈g,0≤y.h.amount)→0≤c.loc→0≤c.rem→c.loc+qc2 true g<18446744073709551616→c.rem+qc2 false g<18446744073709551616→qdi true g≤c.k.nextOwn→c.k.nextOwn<18446744073709551616→qdi false g≤c.k.nextTheirs→c.k.nextTheirs<18446744073709551616 →
  (g.foldl za c).loc=c.loc+qc2 true g∧(g.foldl za c).rem=c.rem+qc2 false g∧(g.foldl za c).k.nextOwn=c.k.nextOwn-qdi true g∧(g.foldl za c).k.nextTheirs=c.k.nextTheirs-qdi false g:=by
 induction g with
 | nil =>
  intro c _ _ _ _ _ _ _ _ _;exact⟨(Int.add_zero _).symm,(Int.add_zero _).symm,(Int.sub_zero _).symm,(Int.sub_zero _).symm⟩
 | cons y g L =>
  intro c M P R F H I N J O;have l:∀z∈g,0≤z.h.amount:=fun z T=>M z (List.mem_cons_of_mem _ T)
  have U:=M y (List.mem_cons_self ..);have V:=qil true g l;have W:=qil false g l;have X:=qlc true g;have Y:=qlc false g;have e:∀o,qc2 o (y::g)=(if y.state=0∧y.own=o then y.h.amount else 0)+qc2 o g:=fun o=>by unfold qc2;rw[List.map_cons,List.sum_cons]
  have K:∀o,qdi o (y::g)=(if y.state=0∧y.own=o then (1:Int) else 0)+qdi o g:=fun o=>by unfold qdi;rw[List.map_cons,List.sum_cons]
  rw[e] at F H;rw[K] at I J;rw[List.foldl_cons,e,e,K,K];by_cases i:y.state=0
  ·cases C:y.own with
   | true =>
    rw[if_pos ⟨i,C⟩] at F I;rw[if_neg (fun h=>by rw[C] at h;cases h.2)] at H J;rw[if_pos ⟨i,rfl⟩,if_neg (fun h=>by cases h.2),if_pos ⟨i,rfl⟩,if_neg (fun h=>by cases h.2)];have m:za c y = {c.give true y.h.amount with k:= {c.k with nextOwn:=IntKind.u64.wrap (c.k.nextOwn-1)}} := by unfold za;rw[if_pos i,if_pos C]
    have q:(za c y).loc=c.loc+y.h.amount:=by rw[m];exact qaw (by omega) (by omega)
    have t:(za c y).rem=c.rem:=by rw[m];rfl
    have v:(za c y).k.nextOwn=c.k.nextOwn-1:=by rw[m];exact qaw (by omega) (by omega)
    have w:(za c y).k.nextTheirs=c.k.nextTheirs:=by rw[m]
    obtain⟨i1,i2,D,E⟩:=L (za c y) l (by rw[q];omega) (by rw[t];omega) (by rw[q];omega) (by rw[t];omega) (by rw[v];omega) (by rw[v];omega) (by rw[w];omega) (by rw[w];omega);rw[i1,i2,D,E,q,t,v,w];exact⟨by omega,by omega,by omega,by omega⟩
   | false =>
    rw[if_neg (fun h=>by rw[C] at h;cases h.2)] at F I;rw[if_pos ⟨i,C⟩] at H J;rw[if_neg (fun h=>by cases h.2),if_pos ⟨i,rfl⟩,if_neg (fun h=>by cases h.2),if_pos ⟨i,rfl⟩];have m:za c y = {c.give false y.h.amount with k:= {c.k with nextTheirs:=IntKind.u64.wrap (c.k.nextTheirs-1)}} := by unfold za;rw[if_pos i,if_neg (by rw[C];decide)]
    have q:(za c y).loc=c.loc:=by rw[m];rfl
    have t:(za c y).rem=c.rem+y.h.amount:=by rw[m];exact qaw (by omega) (by omega)
    have v:(za c y).k.nextOwn=c.k.nextOwn:=by rw[m]
    have w:(za c y).k.nextTheirs=c.k.nextTheirs-1:=by rw[m];exact qaw (by omega) (by omega)
    obtain⟨i1,i2,D,E⟩:=L (za c y) l (by rw[q];omega) (by rw[t];omega) (by rw[q];omega) (by rw[t];omega) (by rw[v];omega) (by rw[v];omega) (by rw[w];omega) (by rw[w];omega);rw[i1,i2,D,E,q,t,v,w];exact⟨by omega,by omega,by omega,by omega⟩
  ·have m:za c y=c:=by unfold za;rw[if_neg i]
   rw[if_neg (fun h=>i h.1)] at F H I J;rw[m,if_neg (fun h=>i h.1),if_neg (fun h=>i h.1),if_neg (fun h=>i h.1),if_neg (fun h=>i h.1)];obtain⟨i1,i2,D,E⟩:=L c l P R (by omega) (by omega) (by omega) N (by omega) O;rw[i1,i2,D,E];exact⟨by omega,by omega,by omega,by omega⟩
def Seen.cut{α:Type}(v:Seen α):Seen α:= {v with st:=fun g=>zg (v.st g)}
theorem zb9{α:Type}(v:Seen α)(g:α):v.cut.show g=((v.show g).filter (fun x=> !(x.state==0))).map qag:=by
 show qa6 (v.mine g) (v.h g) (zg (v.st g)) (v.paid g)=_;unfold Seen.show qa6 zg;by_cases h:0≤v.st g∧v.st g≤8
 ·rw[if_pos h,Option.filter_some];by_cases i:v.st g=0
  ·rw[i];rfl
  ·have m:(!((⟨v.h g,v.mine g,v.st g,v.paid g&&decide (5≤v.st g)⟩:Live).state==0))=true:=by simpa using i
   rw[if_pos m];show _=some (qag _);by_cases l:v.st g=5
   ·rw[l];simp[qag]
   ·rw[if_neg l,if_neg i,if_pos h];unfold qag;rw[if_neg l]
 ·have l:¬v.st g=5:=by omega
  have i:¬v.st g=0:=by omega
  rw[if_neg l,if_neg i,if_neg h];rfl
theorem q89{α:Type}(v:Seen α){xs:List Live}{G:List α}(q:xs.Perm (G.filterMap v.show)):(qe1 xs).Perm (G.filterMap v.cut.show):=by
 have o:(qe1 xs).Perm (qe1 (G.filterMap v.show)):=by
  unfold qe1;exact(q.filter _).map _
 refine o.trans (List.Perm.of_eq ?_);clear q o;unfold qe1
 induction G with
 | nil=>rfl
 | cons g G m =>
  have i:=zb9 v g;cases l:v.show g with
  | none =>
   rw[l] at i;rw[List.filterMap_cons_none l,List.filterMap_cons_none i];exact m
  | some x =>
   rw[l,Option.filter_some] at i;rw[List.filterMap_cons_some l,List.filter_cons];cases t:(!(x.state==0)) with
   | true =>
    rw[t,if_pos rfl] at i;rw[List.filterMap_cons_some i,if_pos rfl,List.map_cons,m]
   | false =>
    rw[t,if_neg (by decide)] at i;rw[List.filterMap_cons_none i,if_neg (by decide),m]
theorem q4p{α:Type}(own:Bool)(f:α→Option Live)(G:List α):qc2 own (G.filterMap f)=(G.map fun g=>match f g with | none=>0 | some x=>if x.state=0∧x.own=own then x.h.amount else 0).sum:=by
 unfold qc2
 induction G with
 | nil=>rfl
 | cons g G l =>
  rw[List.map_cons,List.sum_cons,←l];cases i:f g with
  | none=>rw[List.filterMap_cons_none i];simp only;omega
  | some x =>
   rw[List.filterMap_cons_some i,List.map_cons,List.sum_cons]
theorem zdj(mine side paid:Bool)(s n:Int):conL (mine==side) (zg s) paid n=conL (mine==side) s paid n+(match qa6 mine ⟨0,n,Vector.replicate 32 0,0⟩ s paid with | none=>0 | some x=>if x.state=0∧x.own=side then x.h.amount else 0):=by
 unfold zg qa6;by_cases g:s=0
 ·subst g;cases mine<;>cases side<;>simp[conL]<;>omega
 ·by_cases i:s=5
  ·subst i;cases mine<;>cases side<;>simp[conL]
  ·rw[if_neg i,if_neg g];by_cases h:0≤s∧s≤8
   ·rw[if_pos h];simp only;rw[if_neg (fun e=>g e.1)];omega
   ·rw[if_neg h];simp
theorem qyc(mine side paid:Bool)(s:Int)(h:Htlc):conL (mine==side) (zg s) paid h.amount=conL (mine==side) s paid h.amount+(match qa6 mine h s paid with | none=>0 | some x=>if x.state=0∧x.own=side then x.h.amount else 0):=by
 rw[zdj];congr 1;unfold qa6;by_cases g:0≤s∧s≤8
 ·rw[if_pos g,if_pos g]
 ·rw[if_neg g,if_neg g]
theorem qya{α:Type}(v:Seen α)(G:List α):v.cut.conL G=v.conL G+qc2 true (G.filterMap v.show):=by
 rw[q4p];unfold Seen.conL
 induction G with
 | nil=>rfl
 | cons g G m =>
  simp only[List.map_cons,List.sum_cons];have l:=qyc (v.mine g) true (v.paid g) (v.st g) (v.h g);rw[show (v.mine g==true)=v.mine g by cases v.mine g<;>rfl] at l;have i:Go.Proofs.YthnohmjbbeahmaaGreatDoor.conL (v.cut.mine g) (v.cut.st g) (v.cut.paid g) (v.cut.h g).amount=Go.Proofs.YthnohmjbbeahmaaGreatDoor.conL (v.mine g) (v.st g) (v.paid g) (v.h g).amount+(match v.show g with | none=>0 | some x=>if x.state=0∧x.own=true then x.h.amount else 0):=l;rw[i,m];omega
theorem qyb{α:Type}(v:Seen α)(G:List α):v.cut.conR G=v.conR G+qc2 false (G.filterMap v.show):=by
 rw[q4p];unfold Seen.conR
 induction G with
 | nil=>rfl
 | cons g G m =>
  simp only[List.map_cons,List.sum_cons];have l:=qyc (v.mine g) false (v.paid g) (v.st g) (v.h g);rw[show (v.mine g==false) = !v.mine g by cases v.mine g<;>rfl] at l;have i:Go.Proofs.YthnohmjbbeahmaaGreatDoor.conL (!v.cut.mine g) (v.cut.st g) (v.cut.paid g) (v.cut.h g).amount=Go.Proofs.YthnohmjbbeahmaaGreatDoor.conL (!v.mine g) (v.st g) (v.paid g) (v.h g).amount+(match v.show g with | none=>0 | some x=>if x.state=0∧x.own=false then x.h.amount else 0):=l;rw[i,m];omega
theorem q9a{α:Type}{c:Ch}(v:Seen α)(G:List α){L R:Int}(i:c.xs.Perm (G.filterMap v.show))(I:c.loc=L+v.conL G)(J:c.rem=R+v.conR G)(C:∀y∈c.xs,0≤y.h.amount)(D:0≤c.loc)(E:0≤c.rem)
  (b1:L+v.cut.conL G<18446744073709551616) (b2:R+v.cut.conR G<18446744073709551616) (l:qdi true c.xs≤c.k.nextOwn∧c.k.nextOwn<18446744073709551616) (m:qdi false c.xs≤c.k.nextTheirs∧c.k.nextTheirs<18446744073709551616) :
  c.cut.xs.Perm (G.filterMap v.cut.show)∧c.cut.loc=L+v.cut.conL G∧c.cut.rem=R+v.cut.conR G∧c.cut.k.nextOwn=c.k.nextOwn-qdi true c.xs∧c.cut.k.nextTheirs=c.k.nextTheirs-qdi false c.xs:=by
 have g:∀o,qc2 o c.xs=qc2 o (G.filterMap v.show):=fun o=>qzo o i
 have F:=qya v G
 have H:=qyb v G
 obtain⟨q,t,w,z⟩:=q9y c.xs c C D E (by rw[g];omega) (by rw[g];omega) l.1 l.2 m.1 m.2
 refine⟨q89 v i,?_,?_,w,z⟩
 ·show (c.xs.foldl za c).loc=_;rw[q,g];omega
 ·show (c.xs.foldl za c).rem=_;rw[t,g];omega
def gvL(ours:Bool)(x:Live):Int:=if qcx ours x.own x.state then 0 else if qen ours x.own x.state&&x.paid then (if x.own then 0 else x.h.amount) else (if x.own then x.h.amount else 0)
def gvR(ours:Bool)(x:Live):Int:=if qcx ours x.own x.state then 0 else if qen ours x.own x.state&&x.paid then (if x.own then x.h.amount else 0) else (if x.own then 0 else x.h.amount)
theorem q0v(l n:Int):IntKind.u64.wrap (IntKind.u64.wrap l+n)=IntKind.u64.wrap (l+n):=by
 simp only[IntKind.wrap_u64];omega
theorem q72(ours:Bool)(l r:Int)(x:Live):qbp ours (IntKind.u64.wrap l,IntKind.u64.wrap r) x=(IntKind.u64.wrap (l+gvL ours x),IntKind.u64.wrap (r+gvR ours x)):=by
 unfold qbp gvL gvR qc9;cases qcx ours x.own x.state<;>cases (qen ours x.own x.state&&x.paid)<;>cases x.own<;>simp[q0v]
theorem q74(ours:Bool)(xs:List Live):∀l r:Int,zq ours (IntKind.u64.wrap l) (IntKind.u64.wrap r) xs=(IntKind.u64.wrap (l+(xs.map (gvL ours)).sum),IntKind.u64.wrap (r+(xs.map (gvR ours)).sum)):=by
 unfold zq
 induction xs with
 | nil =>
  intro l r;show (_,_)=(IntKind.u64.wrap (l+0),IntKind.u64.wrap (r+0));rw[Int.add_zero,Int.add_zero]
 | cons x xs g =>
  intro l r;rw[List.foldl_cons,q72,g,List.map_cons,List.map_cons,List.sum_cons,List.sum_cons,Int.add_assoc,Int.add_assoc]
theorem zco(ours:Bool)(xs:List Live){l r:Int}(m:0≤l∧l<18446744073709551616)(o:0≤r∧r<18446744073709551616)(g:0≤l+(xs.map (gvL ours)).sum∧l+(xs.map (gvL ours)).sum<18446744073709551616)(i:0≤r+(xs.map (gvR ours)).sum∧r+(xs.map (gvR ours)).sum<18446744073709551616):zq ours l r xs=(l+(xs.map (gvL ours)).sum,r+(xs.map (gvR ours)).sum):=by
 have:=q74 ours xs l r;rw[qaw m.1 (by omega),qaw o.1 (by omega),qaw g.1 (by omega),qaw i.1 (by omega)] at this;exact this
def tvL(ours mine:Bool)(s:Int)(paid:Bool)(n:Int):Int:=conL mine s paid n+(if 0≤s∧s≤8 then gvL ours ⟨⟨0,n,Vector.replicate 32 0,0⟩,mine,s,paid&&decide (5≤s)⟩ else 0)
def tvR(ours mine:Bool)(s:Int)(paid:Bool)(n:Int):Int:=conL (!mine) s paid n+(if 0≤s∧s≤8 then gvR ours ⟨⟨0,n,Vector.replicate 32 0,0⟩,mine,s,paid&&decide (5≤s)⟩ else 0)
def tvC(ours mine:Bool)(s:Int)(paid:Bool):Nat:=if 0≤s∧s≤8 then (if qcx ours mine s then 1 else if qen ours mine s&&paid then 2 else 0) else if s=9∧paid=true then 2 else 0
def tvK(k:Nat)(mine:Bool)(n:Int):Int:=if k=1 then (if mine then -n else 0) else if k=2 then (if mine then -n else n) else 0
theorem qzw:∀(ours mine:Bool) (s:Fin 9),qen ours mine (s.val:Int)=true→qcx ours mine (s.val:Int)=false→5≤s.val:=by decide +kernel
theorem zht(ours mine:Bool)(s:Int)(paid:Bool)(n:Int)(q : -1≤s∧s≤9):tvL ours mine s paid n=tvK (tvC ours mine s paid) mine n:=by
 unfold tvL tvC;by_cases h:0≤s∧s≤8
 ·rw[if_pos h,if_pos h];have i:¬s = -1:=by omega
  have l:¬s=9:=by omega
  have g:=qzw ours mine ⟨s.toNat,by omega⟩;simp only[show ((s.toNat:Nat):Int)=s by omega] at g;unfold conL gvL tvK;rw[if_neg i,if_neg l];simp only;cases o:qcx ours mine s with
  | true=>cases mine<;>simp
  | false =>
   cases m:qen ours mine s with
   | false=>cases mine<;>cases paid<;>simp<;>omega
   | true =>
    have:=g m o;rw[decide_eq_true (show (5:Int)≤s by omega)];cases mine<;>cases paid<;>simp<;>omega
 ·rw[if_neg h,if_neg h];have:s = -1∨s=9:=by omega
  rcases this with e | e
  ·subst e;cases paid<;>simp[conL,tvK]
  ·subst e;cases mine<;>cases paid<;>simp[conL,tvK]
theorem zhu(ours mine:Bool)(s:Int)(paid:Bool)(n:Int)(q : -1≤s∧s≤9):tvR ours mine s paid n=tvK (tvC ours mine s paid) (!mine) n:=by
 unfold tvR tvC;by_cases h:0≤s∧s≤8
 ·rw[if_pos h,if_pos h];have i:¬s = -1:=by omega
  have l:¬s=9:=by omega
  have g:=qzw ours mine ⟨s.toNat,by omega⟩;simp only[show ((s.toNat:Nat):Int)=s by omega] at g;unfold conL gvR tvK;rw[if_neg i,if_neg l];simp only;cases o:qcx ours mine s with
  | true=>cases mine<;>simp
  | false =>
   cases m:qen ours mine s with
   | false=>cases mine<;>cases paid<;>simp<;>omega
   | true =>
    have:=g m o;rw[decide_eq_true (show (5:Int)≤s by omega)];cases mine<;>cases paid<;>simp<;>omega
 ·rw[if_neg h,if_neg h];have:s = -1∨s=9:=by omega
  rcases this with e | e
  ·subst e;cases paid<;>simp[conL,tvK]
  ·subst e;cases mine<;>cases paid<;>simp[conL,tvK]
theorem q2x:∀x∈qa1,∀paid:Bool,q0n x.2.2.2.2.1=true→¬(x.2.2.1=1∧x.2.2.2.1=true)→tvC true false (zk x.2.1 false 3) paid=tvC false true x.1 paid:=by decide +kernel
theorem q2w:∀x∈qa1,∀paid:Bool,q0n x.2.2.2.2.2=true→¬(x.2.2.1=2∧x.2.2.2.1=true)→tvC true true (zk x.1 true 3) paid=tvC false false x.2.1 paid:=by decide +kernel
theorem qr9{α:Type}(f:α→Option Live)(F:Live→Int)(G:List α):((G.filterMap f).map F).sum=(G.map fun g=>match f g with | none=>0 | some x=>F x).sum:=by
 induction G with
 | nil=>rfl
 | cons g G l =>
  rw[List.map_cons,List.sum_cons,←l];cases i:f g with
  | none=>rw[List.filterMap_cons_none i];simp only;omega
  | some x =>
   rw[List.filterMap_cons_some i,List.map_cons,List.sum_cons]
def Seen.tvL{α:Type}(v:Seen α)(ours:Bool)(G:List α):Int:=(G.map fun g=>Go.Proofs.YthnohmjbbeahmaaGreatDoor.tvL ours (v.mine g) (v.st g) (v.paid g) (v.h g).amount).sum
def Seen.tvR{α:Type}(v:Seen α)(ours:Bool)(G:List α):Int:=(G.map fun g=>Go.Proofs.YthnohmjbbeahmaaGreatDoor.tvR ours (v.mine g) (v.st g) (v.paid g) (v.h g).amount).sum
theorem zer{α:Type}(v:Seen α)(ours:Bool)(G:List α):v.tvL ours G=v.conL G+((G.filterMap v.show).map (gvL ours)).sum:=by
 rw[qr9];unfold Seen.tvL Seen.conL
 induction G with
 | nil=>rfl
 | cons g G l =>
  simp only[List.map_cons,List.sum_cons];have i:Go.Proofs.YthnohmjbbeahmaaGreatDoor.tvL ours (v.mine g) (v.st g) (v.paid g) (v.h g).amount=Go.Proofs.YthnohmjbbeahmaaGreatDoor.conL (v.mine g) (v.st g) (v.paid g) (v.h g).amount+(match v.show g with | none=>0 | some x=>gvL ours x):=by
   unfold Go.Proofs.YthnohmjbbeahmaaGreatDoor.tvL Seen.show qa6;by_cases h:0≤v.st g∧v.st g≤8
   ·rw[if_pos h,if_pos h];rfl
   ·rw[if_neg h,if_neg h]
  rw[i,l];omega
theorem zes{α:Type}(v:Seen α)(ours:Bool)(G:List α):v.tvR ours G=v.conR G+((G.filterMap v.show).map (gvR ours)).sum:=by
 rw[qr9];unfold Seen.tvR Seen.conR
 induction G with
 | nil=>rfl
 | cons g G l =>
  simp only[List.map_cons,List.sum_cons];have i:Go.Proofs.YthnohmjbbeahmaaGreatDoor.tvR ours (v.mine g) (v.st g) (v.paid g) (v.h g).amount=Go.Proofs.YthnohmjbbeahmaaGreatDoor.conL (!v.mine g) (v.st g) (v.paid g) (v.h g).amount+(match v.show g with | none=>0 | some x=>gvR ours x):=by
   unfold Go.Proofs.YthnohmjbbeahmaaGreatDoor.tvR Seen.show qa6;by_cases h:0≤v.st g∧v.st g≤8
   ·rw[if_pos h,if_pos h];rfl
   ·rw[if_neg h,if_neg h]
  rw[i,l];omega
theorem qu3{α:Type}(v:Seen α)(ours:Bool){l r L R:Int}{xs:List Live}{G:List α}(g:xs.Perm (G.filterMap v.show))(z:l=L+v.conL G)(C:r=R+v.conR G)(o:0≤l∧l<18446744073709551616)(q:0≤r∧r<18446744073709551616)
  (t:0≤L+v.tvL ours G∧L+v.tvL ours G<18446744073709551616) (w:0≤R+v.tvR ours G∧R+v.tvR ours G<18446744073709551616):zq ours l r xs=(L+v.tvL ours G,R+v.tvR ours G):=by
 have i:(xs.map (gvL ours)).sum=((G.filterMap v.show).map (gvL ours)).sum:=qgt (g.map _)
 have m:(xs.map (gvR ours)).sum=((G.filterMap v.show).map (gvR ours)).sum:=qgt (g.map _)
 have D:=zer v ours G
 have E:=zes v ours G
 rw[zco ours xs o q (by omega) (by omega),i,m]
 congr 1<;>omega
theorem qjy{α:Type}(v:Seen α)(ours:Bool)(G:List α):qz ours (G.filterMap v.show)=G.filterMap fun g=>if (0≤v.st g∧v.st g≤8)∧qcx ours (v.mine g) (v.st g)=true then some ⟨v.mine g==ours,v.h g⟩ else none:=by
 unfold qz
 induction G with
 | nil=>rfl
 | cons g G l =>
  by_cases h:0≤v.st g∧v.st g≤8
  ·have i:v.show g=some ⟨v.h g,v.mine g,v.st g,v.paid g&&decide (5≤v.st g)⟩:=by unfold Seen.show qa6;rw[if_pos h]
   rw[List.filterMap_cons_some i,List.filter_cons];cases m:qcx ours (v.mine g) (v.st g) with
   | true =>
    rw[if_pos rfl,List.map_cons,l,List.filterMap_cons_some (b:=⟨v.mine g==ours,v.h g⟩) (by rw[if_pos ⟨h,m⟩])]
   | false =>
    rw[if_neg (by decide),l,List.filterMap_cons_none (by rw[if_neg (fun e=>by rw[m] at e;cases e.2)])]
  ·have i:v.show g=none:=by unfold Seen.show qa6;rw[if_neg h]
   rw[List.filterMap_cons_none i,l,List.filterMap_cons_none (by rw[if_neg (fun e=>h e.1)])]
theorem q40(ours mine:Bool)(s:Int)(paid:Bool):tvC ours mine s paid=1↔(0≤s∧s≤8)∧qcx ours mine s=true:=by
 unfold tvC;by_cases h:0≤s∧s≤8
 ·rw[if_pos h];cases g:qcx ours mine s with
  | true=>simp[h]
  | false =>
   cases i:qen ours mine s<;>cases paid<;>simp
 ·rw[if_neg h];constructor
  ·intro e;split at e<;>omega
  ·intro e;exact absurd e.1 h
theorem qhk{α β:Type}{f f':α→Option β}{G:List α}(h:∀g∈G,f g=f' g):G.filterMap f=G.filterMap f':=by
 induction G with
 | nil=>rfl
 | cons g G l =>
  rw[List.filterMap_cons,List.filterMap_cons,h g (List.mem_cons_self ..),l (fun y i=>h y (List.mem_cons_of_mem _ i))]
structure Meet{α:Type}(va vb:Seen α)(G:List α):Prop where
 mine:∀g∈G,vb.mine g = !va.mine g
 h:∀g∈G,vb.h g=va.h g
 paid:∀g∈G,vb.paid g=va.paid g
 sa:∀g∈G,-1≤va.st g∧va.st g≤9
 sb:∀g∈G,-1≤vb.st g∧vb.st g≤9
 cls:∀g∈G,tvC true (vb.mine g) (vb.st g) (vb.paid g)=tvC false (va.mine g) (va.st g) (va.paid g)
theorem qsb{α:Type}{va vb:Seen α}{G:List α}(h:Meet va vb G):qz true (G.filterMap vb.show)=qz false (G.filterMap va.show):=by
 rw[qjy,qjy];refine qhk fun g l=> ?_
 have q:=h.cls g l;have m:=q40 true (vb.mine g) (vb.st g) (vb.paid g);have o:=q40 false (va.mine g) (va.st g) (va.paid g);by_cases i:tvC false (va.mine g) (va.st g) (va.paid g)=1
 ·rw[if_pos (m.1 (q.trans i)),if_pos (o.1 i),h.mine g l,h.h g l];cases va.mine g<;>rfl
 ·rw[if_neg (fun e=>i (q.symm.trans (m.2 e))),if_neg (fun e=>i (o.2 e))]
theorem zhc{α:Type}{va vb:Seen α}{G:List α}(h:Meet va vb G):vb.tvL true G=va.tvR false G∧vb.tvR true G=va.tvL false G:=by
 unfold Seen.tvL Seen.tvR;refine⟨congrArg List.sum (List.map_congr_left fun g i=> ?_),congrArg List.sum (List.map_congr_left fun g i=> ?_)⟩
 ·rw[zht _ _ _ _ _ (h.sb g i),zhu _ _ _ _ _ (h.sa g i),h.cls g i,h.mine g i,h.h g i]
 ·rw[zhu _ _ _ _ _ (h.sb g i),zht _ _ _ _ _ (h.sa g i),h.cls g i,h.mine g i,h.h g i,Bool.not_not]
theorem q76{α:Type}{va vb:Seen α}{G:List α}(h:Meet va vb G)(key:ByteArray)(ch n:Int){la ra lb rb L R:Int}{g i:List Live}(z:g.Perm (G.filterMap va.show))(C:i.Perm (G.filterMap vb.show))
  (F:la=L+va.conL G) (H:ra=R+va.conR G) (I:lb=R+vb.conL G) (J:rb=L+vb.conR G) (b1:0≤la∧la<18446744073709551616) (b2:0≤ra∧ra<18446744073709551616) (D:0≤lb∧lb<18446744073709551616) (E:0≤rb∧rb<18446744073709551616)
  (m:0≤L+va.tvL false G∧L+va.tvL false G<18446744073709551616) (o:0≤R+va.tvR false G∧R+va.tvR false G<18446744073709551616) (q:qii (qz false g)):zt true key ch n lb rb i=zt false key ch n la ra g:=by
 obtain⟨m1,t⟩:=zhc h
 have K:=qu3 va false z F H b1 b2 m o
 have M:=qu3 vb true C I J D E (by rw[m1];exact o) (by rw[t];exact m)
 have i1:qfn (qz true i)=qfn (qz false g):=by
  have v:=qmq false z;have w:=qmq true C;have l:qii (qz true i):=(q.perm v).perm (by rw[←qsb h];exact w.symm);rw[qmg l w,qsb h,←qmg q v]
 unfold zt qie qif
 rw[i1,K,M,m1,t]
 rfl
theorem qlq(c:Ch)(ev:Int):(c.goOn ev).k=c.k∧(c.goOn ev).s=c.s∧(c.goOn ev).news=c.news∧(c.goOn ev).last=c.last∧(c.goOn ev).shelf=c.shelf:=qg1 (qo ev c.xs) c
theorem qpw{α:Type}{v:Seen α}{g:α}{x:Live}(h:v.show g=some x):x.h=v.h g:=by
 unfold Seen.show qa6 at h;split at h
 ·injection h with h;rw[←h]
 ·cases h
theorem qfi{α:Type}(v:Seen α){G:List α}(l:∀g∈G,0≤(v.h g).amount){xs:List Live}(m:xs.Perm (G.filterMap v.show)):∀y∈xs,0≤y.h.amount:=by
 intro y o;obtain⟨g,i,e⟩:=List.mem_filterMap.1 (m.subset o);rw[qpw e];exact l g i
theorem qtq{α:Type}{c:Ch}(v:Seen α)(G:List α){L R:Int}(l:∀g∈G,0≤(v.h g).amount)(m:c.xs.Perm (G.filterMap v.show))(w:c.loc=L+v.conL G)(z:c.rem=R+v.conR G)(C:0≤c.loc)(D:0≤c.rem)
  (b1:0≤L+(v.on 3).conL G∧L+(v.on 3).conL G<18446744073709551616) (b2:0≤R+(v.on 3).conR G∧R+(v.on 3).conR G<18446744073709551616) (q:L+((v.on 3).on 4).conL G<18446744073709551616) (t:R+((v.on 3).on 4).conR G<18446744073709551616) :
  c.signedBy.xs.Perm (G.filterMap ((v.on 3).on 4).show)∧c.signedBy.loc=L+((v.on 3).on 4).conL G∧c.signedBy.rem=R+((v.on 3).on 4).conR G∧c.signedBy.k = {c.k with heard:=c.k.heard+1,revoked:=true} ∧ c.signedBy.s=c.s∧c.signedBy.news=c.news∧c.signedBy.last=c.last∧c.signedBy.shelf=c.shelf:=by
 obtain⟨J,l1,o⟩:=qiu v 3 G m w z (qfi v l m) C D b1.2 b2.2
 obtain⟨E,N,H,a1,f1⟩:=qlq c 3
 have i:(c.goOn 3).heardOne.xs.Perm (G.filterMap (v.on 3).show):=J
 obtain⟨K,l2,M⟩:=qiu (c:=(c.goOn 3).heardOne) (v.on 3) 4 G i l1 o (qfi (v.on 3) l i) (by show 0≤(c.goOn 3).loc;rw[l1];exact b1.1) (by show 0≤(c.goOn 3).rem;rw[o];exact b2.1) q t
 obtain⟨F,O,I,a2,f2⟩:=qlq (c.goOn 3).heardOne 4
 refine⟨K,l2,M,?_,O.trans N,I.trans H,a2.trans a1,f2.trans f1⟩
 show {((c.goOn 3).heardOne.goOn 4).k with revoked:=true} = _
 rw[F]
 show ({({(c.goOn 3).k with heard:=(c.goOn 3).k.heard+1} : CountsV) with revoked:=true} : CountsV)=_
 rw[E]
theorem qxj{α:Type}{c:Ch}(v:Seen α)(G:List α){L R:Int}(q:∀g∈G,0≤(v.h g).amount)(i:c.xs.Perm (G.filterMap v.show))(l:c.loc=L+v.conL G)(m:c.rem=R+v.conR G)(o:0≤c.loc)(t:0≤c.rem)
  (b1:L+(v.on 1).conL G<18446744073709551616) (b2:R+(v.on 1).conR G<18446744073709551616) :
  c.signing.xs.Perm (G.filterMap (v.on 1).show)∧c.signing.loc=L+(v.on 1).conL G∧c.signing.rem=R+(v.on 1).conR G∧c.signing.k = {c.k with signed:=c.k.signed+1,awaits:=true,revoked:=false} ∧ c.signing.s=c.s∧c.signing.news=c.news∧c.signing.last=c.last∧c.signing.shelf=c.shelf:=by
 obtain⟨C,l1,D⟩:=qiu v 1 G i l m (qfi v q i) o t b1 b2
 obtain⟨w,E,z,a1,f1⟩:=qlq c 1
 refine⟨C,l1,D,?_,E,z,a1,f1⟩
 show ({(c.goOn 1).k with signed:=c.k.signed+1,awaits:=true,revoked:=false} : CountsV)=_
 rw[w]
theorem qw7{α:Type}{c:Ch}(m:MsgV)(v:Seen α)(G:List α){L R:Int}(t:∀g∈G,0≤(v.h g).amount)(i:c.xs.Perm (G.filterMap v.show))(l:c.loc=L+v.conL G)(o:c.rem=R+v.conR G)(q:0≤c.loc)(w:0≤c.rem)
  (b1:L+(v.on 2).conL G<18446744073709551616) (b2:R+(v.on 2).conR G<18446744073709551616) :
  (((c.shelved m).goOn 2).unawait).xs.Perm (G.filterMap (v.on 2).show)∧(((c.shelved m).goOn 2).unawait).loc=L+(v.on 2).conL G∧(((c.shelved m).goOn 2).unawait).rem=R+(v.on 2).conR G∧(((c.shelved m).goOn 2).unawait).k = {c.k with awaits:=false} ∧ (((c.shelved m).goOn 2).unawait).s=c.s∧(((c.shelved m).goOn 2).unawait).news=c.news∧(((c.shelved m).goOn 2).unawait).last=c.last∧(((c.shelved m).goOn 2).unawait).shelf=qkl m.hash (65535-m.number) c.shelf:=by
 obtain⟨D,l1,E⟩:=qiu (c:=c.shelved m) v 2 G i l o (qfi v t i) q w b1 b2
 obtain⟨z,F,C,a1,f1⟩:=qlq (c.shelved m) 2
 refine⟨D,l1,E,?_,F,C,a1,f1⟩
 show ({((c.shelved m).goOn 2).k with awaits:=false} : CountsV)=_
 rw[z]
 rfl
theorem zei{l:List Item}(h:l.Pairwise fun x y=>¬(x.offered=y.offered∧x.h.id=y.h.id)){x y:Item}(t:x∈l)(v:y∈l)(o:x.offered=y.offered∧x.h.id=y.h.id):x=y:=by
 induction l with
 | nil=>cases t
 | cons z l C =>
  obtain⟨q,w⟩:=List.pairwise_cons.1 h;rcases List.mem_cons.1 t with ex | i
  ·rcases List.mem_cons.1 v with m | g
   ·rw[ex,m]
   ·exact absurd (ex▸o) (q y g)
  ·rcases List.mem_cons.1 v with m | g
   ·exact absurd (m▸⟨o.1.symm,o.2.symm⟩) (q x i)
   ·exact C w i g
theorem q6v{α:Type}{v:Seen α}{ours:Bool}{G:List α}(hd:G.Pairwise fun g g'=>¬(v.mine g=v.mine g'∧(v.h g).id=(v.h g').id)):qii (qz ours (G.filterMap v.show)):=by
 rw[qjy];have C:(G.filterMap fun g=>if (0≤v.st g∧v.st g≤8)∧qcx ours (v.mine g) (v.st g)=true then some (⟨v.mine g==ours,v.h g⟩:Item) else none).Pairwise fun x y=>¬(x.offered=y.offered∧x.h.id=y.h.id):=by
  rw[List.pairwise_filterMap];refine hd.imp ?_;intro g g' m x i y l;split at i
  ·injection i with i;split at l
   ·injection l with l;subst i;subst l;rintro ⟨t,D⟩;refine m ⟨?_,D⟩;simp only at t;revert t;cases v.mine g<;>cases v.mine g'<;>cases ours<;>simp
   ·cases l
  ·cases i
 refine⟨C.imp fun h e=>h (by rw[e];exact⟨rfl,rfl⟩),?_⟩;intro x i y l w z;have E:x.offered=y.offered∧x.h.id=y.h.id:=by
  unfold kl qf8 at w z;cases o:x.offered<;>cases q:y.offered<;>simp[o,q] at w z ⊢<;>omega
 exact zei C i l E
def zhr(n:Int)(xs:List Live):Int:=xs.foldl (fun s x=>IntKind.u64.wrap (s+x.h.amount)) n
def Ch.total(c:Ch):Int:=zhr (IntKind.u64.wrap (c.loc+c.rem)) c.xs
attribute [local go_sem] qoo qop
end Go.Proofs.YthnohmjbbeahmaaGreatDoor
namespace Go.Proofs.YthnohmjbbeahmaaGreatDoor
open Go.RowKit
theorem qyd(mine paid:Bool)(s n:Int)(h : -1≤s∧s≤9):conL mine s paid n+conL (!mine) s paid n+(if 0≤s∧s≤8 then n else 0)=0:=by
 have l:∀m:Bool,conL m s paid n=if s = -1 then 0 else if s=9 then (if paid then (if m then -n else n) else 0) else (if m then -n else 0):=fun m=>rfl
 rw[l,l];by_cases g:s = -1
 ·rw[if_pos g,if_pos g,if_neg (show ¬(0≤s∧s≤8) by omega)];rfl
 ·rw[if_neg g,if_neg g];by_cases i:s=9
  ·rw[if_pos i,if_pos i,if_neg (show ¬(0≤s∧s≤8) by omega)];cases mine<;>cases paid<;>simp only[Bool.not_true,Bool.not_false,if_true,Bool.false_eq_true,if_false]<;>omega
  ·rw[if_neg i,if_neg i,if_pos (show 0≤s∧s≤8 by omega)];cases mine<;>simp only[Bool.not_true,Bool.not_false,if_true,Bool.false_eq_true,if_false]<;>omega
theorem q78(xs:List Live):∀n:Int,zhr (IntKind.u64.wrap n) xs=IntKind.u64.wrap (n+(xs.map (·.h.amount)).sum):=by
 unfold zhr
 induction xs with
 | nil =>
  intro n;show _=IntKind.u64.wrap (n+0);rw[Int.add_zero];rfl
 | cons x xs g =>
  intro n;rw[List.foldl_cons,q0v,g,List.map_cons,List.sum_cons,Int.add_assoc]
theorem q3m{α:Type}{c:Ch}(v:Seen α)(G:List α){L R:Int}(o:c.xs.Perm (G.filterMap v.show))(w:c.loc=L+v.conL G)(z:c.rem=R+v.conR G)(q:∀g∈G,-1≤v.st g∧v.st g≤9)(C:0≤L+R∧L+R<18446744073709551616):c.total=L+R:=by
 have l:(c.xs.map (·.h.amount)).sum=((G.filterMap v.show).map (·.h.amount)).sum:=qgt (o.map _);have E:v.conL G+v.conR G+((G.filterMap v.show).map (·.h.amount)).sum=0:=by
  rw[qr9];unfold Seen.conL Seen.conR;clear o w z l
  induction G with
  | nil=>rfl
  | cons g G t =>
   have t:=t (fun y D=>q y (List.mem_cons_of_mem _ D));simp only[List.map_cons,List.sum_cons];have m:=qyd (v.mine g) (v.paid g) (v.st g) (v.h g).amount (q g (List.mem_cons_self ..));by_cases h:0≤v.st g∧v.st g≤8
   ·have i:v.show g=some ⟨v.h g,v.mine g,v.st g,v.paid g&&decide (5≤v.st g)⟩:=by unfold Seen.show qa6;rw[if_pos h]
    rw[if_pos h] at m;rw[i];simp only;omega
   ·have i:v.show g=none:=by unfold Seen.show qa6;rw[if_neg h]
    rw[if_neg h] at m;rw[i];simp only;omega
 unfold Ch.total;rw[q78,l];have:c.loc+c.rem+((G.filterMap v.show).map (·.h.amount)).sum=L+R:=by omega
 rw[this];exact qaw C.1 (by omega)
end Go.Proofs.YthnohmjbbeahmaaGreatDoor
