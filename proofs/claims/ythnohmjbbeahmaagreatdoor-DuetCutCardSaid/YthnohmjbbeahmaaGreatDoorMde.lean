/-
  The protocol, plain: a view's sums over the ghost list.
-/
import Derived.Test.YthnohmjbbeahmaaGreatDoorMdd
import Derived.Test.YthnohmjbbeahmaaGreatDoorMcj
set_option linter.unusedVariables false
set_option linter.unusedSimpArgs false
namespace Go.Proofs.YthnohmjbbeahmaaGreatDoor
open Go.RowKit
theorem qs3{α:Type}(f:α→Option Live)(F:Live→Int)(G:List α):((G.filterMap f).map F).sum=(G.map fun g=>match f g with | none=>0 | some x=>F x).sum:=by
 induction G with
 | nil=>rfl
 | cons g G l =>
  rw[List.map_cons,List.sum_cons,←l];cases i:f g with
  | none=>rw[List.filterMap_cons_none i];simp only;omega
  | some x =>
   rw[List.filterMap_cons_some i,List.map_cons,List.sum_cons]
def Seen.tvL{α:Type}(v:Seen α)(ours:Bool)(G:List α):Int:=(G.map fun g=>Go.Proofs.YthnohmjbbeahmaaGreatDoor.tvL ours (v.mine g) (v.st g) (v.paid g) (v.h g).amount).sum
def Seen.tvR{α:Type}(v:Seen α)(ours:Bool)(G:List α):Int:=(G.map fun g=>Go.Proofs.YthnohmjbbeahmaaGreatDoor.tvR ours (v.mine g) (v.st g) (v.paid g) (v.h g).amount).sum
theorem zgm{α:Type}(v:Seen α)(ours:Bool)(G:List α):v.tvL ours G=v.conL G+((G.filterMap v.show).map (gvL ours)).sum:=by
 rw[qs3];unfold Seen.tvL Seen.conL
 induction G with
 | nil=>rfl
 | cons g G l =>
  simp only[List.map_cons,List.sum_cons];have i:Go.Proofs.YthnohmjbbeahmaaGreatDoor.tvL ours (v.mine g) (v.st g) (v.paid g) (v.h g).amount=Go.Proofs.YthnohmjbbeahmaaGreatDoor.conL (v.mine g) (v.st g) (v.paid g) (v.h g).amount+(match v.show g with | none=>0 | some x=>gvL ours x):=by
   unfold Go.Proofs.YthnohmjbbeahmaaGreatDoor.tvL Seen.show qa9;by_cases h:0≤v.st g∧v.st g≤8
   ·rw[if_pos h,if_pos h];rfl
   ·rw[if_neg h,if_neg h]
  rw[i,l];omega
theorem zgn{α:Type}(v:Seen α)(ours:Bool)(G:List α):v.tvR ours G=v.conR G+((G.filterMap v.show).map (gvR ours)).sum:=by
 rw[qs3];unfold Seen.tvR Seen.conR
 induction G with
 | nil=>rfl
 | cons g G l =>
  simp only[List.map_cons,List.sum_cons];have i:Go.Proofs.YthnohmjbbeahmaaGreatDoor.tvR ours (v.mine g) (v.st g) (v.paid g) (v.h g).amount=Go.Proofs.YthnohmjbbeahmaaGreatDoor.conL (!v.mine g) (v.st g) (v.paid g) (v.h g).amount+(match v.show g with | none=>0 | some x=>gvR ours x):=by
   unfold Go.Proofs.YthnohmjbbeahmaaGreatDoor.tvR Seen.show qa9;by_cases h:0≤v.st g∧v.st g≤8
   ·rw[if_pos h,if_pos h];rfl
   ·rw[if_neg h,if_neg h]
  rw[i,l];omega
theorem qv5{α:Type}(v:Seen α)(ours:Bool){l r L R:Int}{xs:List Live}{G:List α}(g:xs.Perm (G.filterMap v.show))(x:l=L+v.conL G)(y:r=R+v.conR G)(o:0≤l∧l<18446744073709551616)(q:0≤r∧r<18446744073709551616)
  (t:0≤L+v.tvL ours G∧L+v.tvL ours G<18446744073709551616) (w:0≤R+v.tvR ours G∧R+v.tvR ours G<18446744073709551616):zw ours l r xs=(L+v.tvL ours G,R+v.tvR ours G):=by
 have i:(xs.map (gvL ours)).sum=((G.filterMap v.show).map (gvL ours)).sum:=qgx (g.map _)
 have m:(xs.map (gvR ours)).sum=((G.filterMap v.show).map (gvR ours)).sum:=qgx (g.map _)
 have z:=zgm v ours G
 have C:=zgn v ours G
 rw[zed ours xs o q (by omega) (by omega),i,m]
 congr 1<;>omega
theorem qkg{α:Type}(v:Seen α)(ours:Bool)(G:List α):ze ours (G.filterMap v.show)=G.filterMap fun g=>if (0≤v.st g∧v.st g≤8)∧qc2 ours (v.mine g) (v.st g)=true then some ⟨v.mine g==ours,v.h g⟩ else none:=by
 unfold ze
 induction G with
 | nil=>rfl
 | cons g G l =>
  by_cases h:0≤v.st g∧v.st g≤8
  ·have i:v.show g=some ⟨v.h g,v.mine g,v.st g,v.paid g&&decide (5≤v.st g)⟩:=by unfold Seen.show qa9;rw[if_pos h]
   rw[List.filterMap_cons_some i,List.filter_cons];cases m:qc2 ours (v.mine g) (v.st g) with
   | true =>
    rw[if_pos rfl,List.map_cons,l,List.filterMap_cons_some (b:=⟨v.mine g==ours,v.h g⟩) (by rw[if_pos ⟨h,m⟩])]
   | false =>
    rw[if_neg (by decide),l,List.filterMap_cons_none (by rw[if_neg (fun e=>by rw[m] at e;cases e.2)])]
  ·have i:v.show g=none:=by unfold Seen.show qa9;rw[if_neg h]
   rw[List.filterMap_cons_none i,l,List.filterMap_cons_none (by rw[if_neg (fun e=>h e.1)])]
theorem q6j(ours mine:Bool)(s:Int)(paid:Bool):tvC ours mine s paid=1↔(0≤s∧s≤8)∧qc2 ours mine s=true:=by
 unfold tvC;by_cases h:0≤s∧s≤8
 ·rw[if_pos h];cases g:qc2 ours mine s with
  | true=>simp[h]
  | false =>
   cases i:qen ours mine s<;>cases paid<;>simp
 ·rw[if_neg h];constructor
  ·intro e;split at e<;>omega
  ·intro e;exact absurd e.1 h
theorem qhz{α β:Type}{f f':α→Option β}{G:List α}(h:∀g∈G,f g=f' g):G.filterMap f=G.filterMap f':=by
 induction G with
 | nil=>rfl
 | cons g G l =>
  rw[List.filterMap_cons,List.filterMap_cons,h g (List.mem_cons_self ..),l (fun y i=>h y (List.mem_cons_of_mem _ i))]
structure Meet{α:Type}(va vb:Seen α)(G:List α):Prop where
 mine:∀g∈G,vb.mine g = !va.mine g
 h:∀g∈G,vb.h g=va.h g
 paid:∀g∈G,vb.paid g=va.paid g
 sa:∀g∈G,-1≤va.st g∧va.st g≤9
 sb:∀g∈G,-1≤vb.st g∧vb.st g≤9
 cls:∀g∈G,tvC true (vb.mine g) (vb.st g) (vb.paid g)=tvC false (va.mine g) (va.st g) (va.paid g)
theorem qs5{α:Type}{va vb:Seen α}{G:List α}(h:Meet va vb G):ze true (G.filterMap vb.show)=ze false (G.filterMap va.show):=by
 rw[qkg,qkg];refine qhz fun g l=> ?_
 have q:=h.cls g l;have m:=q6j true (vb.mine g) (vb.st g) (vb.paid g);have o:=q6j false (va.mine g) (va.st g) (va.paid g);by_cases i:tvC false (va.mine g) (va.st g) (va.paid g)=1
 ·rw[if_pos (m.1 (q.trans i)),if_pos (o.1 i),h.mine g l,h.h g l];cases va.mine g<;>rfl
 ·rw[if_neg (fun e=>i (q.symm.trans (m.2 e))),if_neg (fun e=>i (o.2 e))]
theorem ziz{α:Type}{va vb:Seen α}{G:List α}(h:Meet va vb G):vb.tvL true G=va.tvR false G∧vb.tvR true G=va.tvL false G:=by
 unfold Seen.tvL Seen.tvR;refine⟨congrArg List.sum (List.map_congr_left fun g i=> ?_),congrArg List.sum (List.map_congr_left fun g i=> ?_)⟩
 ·rw[zjg _ _ _ _ _ (h.sb g i),zjh _ _ _ _ _ (h.sa g i),h.cls g i,h.mine g i,h.h g i]
 ·rw[zjh _ _ _ _ _ (h.sb g i),zjg _ _ _ _ _ (h.sa g i),h.cls g i,h.mine g i,h.h g i,Bool.not_not]
theorem q9u{α:Type}{va vb:Seen α}{G:List α}(h:Meet va vb G)(key:ByteArray)(ch n:Int){la ra lb rb L R:Int}{g i:List Live}(x:g.Perm (G.filterMap va.show))(y:i.Perm (G.filterMap vb.show))
  (D:la=L+va.conL G) (E:ra=R+va.conR G) (F:lb=R+vb.conL G) (H:rb=L+vb.conR G) (b1:0≤la∧la<18446744073709551616) (b2:0≤ra∧ra<18446744073709551616) (z:0≤lb∧lb<18446744073709551616) (C:0≤rb∧rb<18446744073709551616)
  (m:0≤L+va.tvL false G∧L+va.tvL false G<18446744073709551616) (o:0≤R+va.tvR false G∧R+va.tvR false G<18446744073709551616) (q:qiy (ze false g)):zx true key ch n lb rb i=zx false key ch n la ra g:=by
 obtain⟨m1,t⟩:=ziz h
 have J:=qv5 va false x D E b1 b2 m o
 have K:=qv5 vb true y F H z C (by rw[m1];exact o) (by rw[t];exact m)
 have I:qfr (ze true i)=qfr (ze false g):=by
  have v:=qnj false x;have w:=qnj true y;have l:qiy (ze true i):=(q.perm v).perm (by rw[←qs5 h];exact w.symm);rw[qm5 l w,qs5 h,←qm5 q v]
 unfold zx qiv qiw
 rw[I,J,K,m1,t]
 rfl
theorem qmh(c:Ch)(ev:Int):(c.goOn ev).k=c.k∧(c.goOn ev).s=c.s∧(c.goOn ev).news=c.news∧(c.goOn ev).last=c.last∧(c.goOn ev).shelf=c.shelf:=qha (qv ev c.xs) c
theorem qqm{α:Type}{v:Seen α}{g:α}{x:Live}(h:v.show g=some x):x.h=v.h g:=by
 unfold Seen.show qa9 at h;split at h
 ·injection h with h;rw[←h]
 ·cases h
theorem qfl{α:Type}(v:Seen α){G:List α}(l:∀g∈G,0≤(v.h g).amount){xs:List Live}(m:xs.Perm (G.filterMap v.show)):∀y∈xs,0≤y.h.amount:=by
 intro y o;obtain⟨g,i,e⟩:=List.mem_filterMap.1 (m.subset o);rw[qqm e];exact l g i
theorem quo{α:Type}{c:Ch}(v:Seen α)(G:List α){L R:Int}(l:∀g∈G,0≤(v.h g).amount)(m:c.xs.Perm (G.filterMap v.show))(w:c.loc=L+v.conL G)(x:c.rem=R+v.conR G)(y:0≤c.loc)(z:0≤c.rem)
  (b1:0≤L+(v.on 3).conL G∧L+(v.on 3).conL G<18446744073709551616) (b2:0≤R+(v.on 3).conR G∧R+(v.on 3).conR G<18446744073709551616) (q:L+((v.on 3).on 4).conL G<18446744073709551616) (t:R+((v.on 3).on 4).conR G<18446744073709551616) :
  c.signedBy.xs.Perm (G.filterMap ((v.on 3).on 4).show)∧c.signedBy.loc=L+((v.on 3).on 4).conL G∧c.signedBy.rem=R+((v.on 3).on 4).conR G∧c.signedBy.k = {c.k with heard:=c.k.heard+1,revoked:=true} ∧ c.signedBy.s=c.s∧c.signedBy.news=c.news∧c.signedBy.last=c.last∧c.signedBy.shelf=c.shelf:=by
 obtain⟨H,l1,o⟩:=qja v 3 G m w x (qfl v l m) y z b1.2 b2.2
 obtain⟨C,K,E,a1,f1⟩:=qmh c 3
 have i:(c.goOn 3).heardOne.xs.Perm (G.filterMap (v.on 3).show):=H
 obtain⟨I,l2,J⟩:=qja (c:=(c.goOn 3).heardOne) (v.on 3) 4 G i l1 o (qfl (v.on 3) l i) (by show 0≤(c.goOn 3).loc;rw[l1];exact b1.1) (by show 0≤(c.goOn 3).rem;rw[o];exact b2.1) q t
 obtain⟨D,M,F,a2,f2⟩:=qmh (c.goOn 3).heardOne 4
 refine⟨I,l2,J,?_,M.trans K,F.trans E,a2.trans a1,f2.trans f1⟩
 show {((c.goOn 3).heardOne.goOn 4).k with revoked:=true} = _
 rw[D]
 show ({({(c.goOn 3).k with heard:=(c.goOn 3).k.heard+1} : CountsV) with revoked:=true} : CountsV)=_
 rw[C]
theorem qyq{α:Type}{c:Ch}(v:Seen α)(G:List α){L R:Int}(q:∀g∈G,0≤(v.h g).amount)(i:c.xs.Perm (G.filterMap v.show))(l:c.loc=L+v.conL G)(m:c.rem=R+v.conR G)(o:0≤c.loc)(t:0≤c.rem)
  (b1:L+(v.on 1).conL G<18446744073709551616) (b2:R+(v.on 1).conR G<18446744073709551616) :
  c.signing.xs.Perm (G.filterMap (v.on 1).show)∧c.signing.loc=L+(v.on 1).conL G∧c.signing.rem=R+(v.on 1).conR G∧c.signing.k = {c.k with signed:=c.k.signed+1,awaits:=true,revoked:=false} ∧ c.signing.s=c.s∧c.signing.news=c.news∧c.signing.last=c.last∧c.signing.shelf=c.shelf:=by
 obtain⟨y,l1,z⟩:=qja v 1 G i l m (qfl v q i) o t b1 b2
 obtain⟨w,C,x,a1,f1⟩:=qmh c 1
 refine⟨y,l1,z,?_,C,x,a1,f1⟩
 show ({(c.goOn 1).k with signed:=c.k.signed+1,awaits:=true,revoked:=false} : CountsV)=_
 rw[w]
theorem qyf{α:Type}{c:Ch}(m:MsgV)(v:Seen α)(G:List α){L R:Int}(t:∀g∈G,0≤(v.h g).amount)(i:c.xs.Perm (G.filterMap v.show))(l:c.loc=L+v.conL G)(o:c.rem=R+v.conR G)(q:0≤c.loc)(w:0≤c.rem)
  (b1:L+(v.on 2).conL G<18446744073709551616) (b2:R+(v.on 2).conR G<18446744073709551616) :
  (((c.shelved m).goOn 2).unawait).xs.Perm (G.filterMap (v.on 2).show)∧(((c.shelved m).goOn 2).unawait).loc=L+(v.on 2).conL G∧(((c.shelved m).goOn 2).unawait).rem=R+(v.on 2).conR G∧(((c.shelved m).goOn 2).unawait).k = {c.k with awaits:=false} ∧ (((c.shelved m).goOn 2).unawait).s=c.s∧(((c.shelved m).goOn 2).unawait).news=c.news∧(((c.shelved m).goOn 2).unawait).last=c.last∧(((c.shelved m).goOn 2).unawait).shelf=qmz m.hash (65535-m.number) c.shelf:=by
 obtain⟨z,l1,C⟩:=qja (c:=c.shelved m) v 2 G i l o (qfl v t i) q w b1 b2
 obtain⟨x,D,y,a1,f1⟩:=qmh (c.shelved m) 2
 refine⟨z,l1,C,?_,D,y,a1,f1⟩
 show ({((c.shelved m).goOn 2).k with awaits:=false} : CountsV)=_
 rw[x]
 rfl
theorem zgd{l:List Item}(h:l.Pairwise fun x y=>¬(x.offered=y.offered∧x.h.id=y.h.id)){x y:Item}(t:x∈l)(v:y∈l)(o:x.offered=y.offered∧x.h.id=y.h.id):x=y:=by
 induction l with
 | nil=>cases t
 | cons z l C =>
  obtain⟨q,w⟩:=List.pairwise_cons.1 h;rcases List.mem_cons.1 t with ex | i
  ·rcases List.mem_cons.1 v with m | g
   ·rw[ex,m]
   ·exact absurd (ex▸o) (q y g)
  ·rcases List.mem_cons.1 v with m | g
   ·exact absurd (m▸⟨o.1.symm,o.2.symm⟩) (q x i)
   ·exact C w i g
theorem q8j{α:Type}{v:Seen α}{ours:Bool}{G:List α}(hd:G.Pairwise fun g g'=>¬(v.mine g=v.mine g'∧(v.h g).id=(v.h g').id)):qiy (ze ours (G.filterMap v.show)):=by
 rw[qkg];have C:(G.filterMap fun g=>if (0≤v.st g∧v.st g≤8)∧qc2 ours (v.mine g) (v.st g)=true then some (⟨v.mine g==ours,v.h g⟩:Item) else none).Pairwise fun x y=>¬(x.offered=y.offered∧x.h.id=y.h.id):=by
  rw[List.pairwise_filterMap];refine hd.imp ?_;intro g g' m x i y l;split at i
  ·injection i with i;split at l
   ·injection l with l;subst i;subst l;rintro ⟨t,D⟩;refine m ⟨?_,D⟩;simp only at t;revert t;cases v.mine g<;>cases v.mine g'<;>cases ours<;>simp
   ·cases l
  ·cases i
 refine⟨C.imp fun h e=>h (by rw[e];exact⟨rfl,rfl⟩),?_⟩;intro x i y l w z;have E:x.offered=y.offered∧x.h.id=y.h.id:=by
  unfold kl qf8 at w z;cases o:x.offered<;>cases q:y.offered<;>simp[o,q] at w z ⊢<;>omega
 exact zgd C i l E
def q1z(n:Int)(xs:List Live):Int:=xs.foldl (fun s x=>IntKind.u64.wrap (s+x.h.amount)) n
def Ch.total(c:Ch):Int:=q1z (IntKind.u64.wrap (c.loc+c.rem)) c.xs
theorem q9x{xs:List Live}{i:Nat}{x:Live}(n:Int)(g:xs[i]? = some x):q1z n (xs.take (i+1))=IntKind.u64.wrap (q1z n (xs.take i)+x.h.amount):=by
 unfold q1z;rw[List.take_add_one,g,List.foldl_append];rfl
attribute [local go_sem] qmf qmg
end Go.Proofs.YthnohmjbbeahmaaGreatDoor
namespace Go.Proofs.YthnohmjbbeahmaaGreatDoor
open Go.RowKit
theorem qzl(mine paid:Bool)(s n:Int)(h : -1≤s∧s≤9):conL mine s paid n+conL (!mine) s paid n+(if 0≤s∧s≤8 then n else 0)=0:=by
 have l:∀m:Bool,conL m s paid n=if s = -1 then 0 else if s=9 then (if paid then (if m then -n else n) else 0) else (if m then -n else 0):=fun m=>rfl
 rw[l,l];by_cases g:s = -1
 ·rw[if_pos g,if_pos g,if_neg (show ¬(0≤s∧s≤8) by omega)];rfl
 ·rw[if_neg g,if_neg g];by_cases i:s=9
  ·rw[if_pos i,if_pos i,if_neg (show ¬(0≤s∧s≤8) by omega)];cases mine<;>cases paid<;>simp only[Bool.not_true,Bool.not_false,if_true,Bool.false_eq_true,if_false]<;>omega
  ·rw[if_neg i,if_neg i,if_pos (show 0≤s∧s≤8 by omega)];cases mine<;>simp only[Bool.not_true,Bool.not_false,if_true,Bool.false_eq_true,if_false]<;>omega
theorem q9y(xs:List Live):∀n:Int,q1z (IntKind.u64.wrap n) xs=IntKind.u64.wrap (n+(xs.map (·.h.amount)).sum):=by
 unfold q1z
 induction xs with
 | nil =>
  intro n;show _=IntKind.u64.wrap (n+0);rw[Int.add_zero];rfl
 | cons x xs g =>
  intro n;rw[List.foldl_cons,q2b,g,List.map_cons,List.sum_cons,Int.add_assoc]
theorem q4y{α:Type}{c:Ch}(v:Seen α)(G:List α){L R:Int}(o:c.xs.Perm (G.filterMap v.show))(w:c.loc=L+v.conL G)(x:c.rem=R+v.conR G)(q:∀g∈G,-1≤v.st g∧v.st g≤9)(z:0≤L+R∧L+R<18446744073709551616):c.total=L+R:=by
 have l:(c.xs.map (·.h.amount)).sum=((G.filterMap v.show).map (·.h.amount)).sum:=qgx (o.map _);have D:v.conL G+v.conR G+((G.filterMap v.show).map (·.h.amount)).sum=0:=by
  rw[qs3];unfold Seen.conL Seen.conR;clear o w x l
  induction G with
  | nil=>rfl
  | cons g G t =>
   have t:=t (fun y C=>q y (List.mem_cons_of_mem _ C));simp only[List.map_cons,List.sum_cons];have m:=qzl (v.mine g) (v.paid g) (v.st g) (v.h g).amount (q g (List.mem_cons_self ..));by_cases h:0≤v.st g∧v.st g≤8
   ·have i:v.show g=some ⟨v.h g,v.mine g,v.st g,v.paid g&&decide (5≤v.st g)⟩:=by unfold Seen.show qa9;rw[if_pos h]
    rw[if_pos h] at m;rw[i];simp only;omega
   ·have i:v.show g=none:=by unfold Seen.show qa9;rw[if_neg h]
    rw[if_neg h] at m;rw[i];simp only;omega
 unfold Ch.total;rw[q9y,l];have:c.loc+c.rem+((G.filterMap v.show).map (·.h.amount)).sum=L+R:=by omega
 rw[this];exact qdq z.1 (by omega)
structure Gi where
 own:Bool
 h:Htlc
 paid:Bool
 so:Int
 st:Int
 up:Nat
 cov:Bool
 pre:Bool
 um:MsgV
def Gi.key(g:Gi):Bool × Htlc × MsgV:=(g.own,g.h,g.um)
def cnt(p:Gi→Bool)(G:List Gi):Int:=(G.map fun g=>if p g=true then (1:Int) else 0).sum
def amt(p:Gi→Bool)(G:List Gi):Int:=(G.map fun g=>if p g=true then g.h.amount else 0).sum
section
variable {p q:Gi→Bool}{G:List Gi}{g g':Gi}{j:Nat}
theorem qc6(p:Gi→Bool)(G:List Gi)(g:Gi):cnt p (G++[g])=cnt p G+if p g=true then 1 else 0:=qo3 _ G g
theorem q5d(p:Gi→Bool)(i:G[j]? = some g)(g':Gi):cnt p (G.set j g')=cnt p G-(if p g=true then 1 else 0)+if p g'=true then 1 else 0:=qrg _ i
theorem qau(i:G[j]? = some g)(h:p g'=p g):cnt p (G.set j g')=cnt p G:=by rw[q5d p i,h];omega
theorem qj1(p:Gi→Bool)(i:G[j]? = some g)(g':Gi):amt p (G.set j g')=amt p G-(if p g=true then g.h.amount else 0)+if p g'=true then g'.h.amount else 0:=qrg _ i
theorem qy6(p:Gi→Bool)(G:List Gi)(g:Gi):amt p (G++[g])=amt p G+if p g=true then g.h.amount else 0:=qo3 _ G g
theorem qei{α:Type}{f f':α→Int}{G:List α}(h:∀g∈G,f g=f' g):(G.map f).sum=(G.map f').sum:=by rw[List.map_congr_left h]
theorem qib{α:Type}{f f':α→Int} : ∀ {G:List α},(∀g∈G,f g≤f' g)→(G.map f).sum≤(G.map f').sum
 | [],_=>Int.le_refl _
 | g::G,h=>by
  have m:=h g (List.mem_cons_self ..);have o:=qib fun y i=>h y (List.mem_cons_of_mem _ i)
  simp only[List.map_cons,List.sum_cons];omega
theorem qe0(h:∀g∈G,p g=q g):cnt p G=cnt q G:=qei fun g i=>by rw[h g i]
theorem qm8(h:∀g∈G,p g=true→q g=true):cnt p G≤cnt q G:=by
 refine qib fun g m=> ?_
 by_cases i:p g=true
 ·rw[if_pos i,if_pos (h g m i)];exact Int.le_refl _
 ·rw[if_neg i];split<;>decide
theorem qj8(p:Gi→Bool)(G:List Gi):0≤cnt p G:=by
 have:=qm8 (p:=fun _=>false) (q:=p) (G:=G) (fun _ _ h=>by cases h);have e:cnt (fun _=>false) G=0:=by
  induction G with
  | nil=>rfl
  | cons g G i=>exact(show cnt (fun _=>false) (g::G)=0+cnt (fun _=>false) G from rfl).trans (by rw[i (qm8 (p:=fun _=>false) (q:=p) (G:=G) (fun _ _ h=>by cases h))];rfl)
 omega
theorem qq4(p:Gi→Bool)(G:List Gi):cnt p G≤G.length:=by
 induction G with
 | nil=>exact Int.le_refl _
 | cons g G i =>
  have e:cnt p (g::G)=(if p g=true then 1 else 0)+cnt p G:=rfl;rw[e,List.length_cons];split<;>omega
theorem qgj(p:Gi→Bool)(f:Gi→Gi)(G:List Gi):cnt p (G.map f)=cnt (fun g=>p (f g)) G:=by
 unfold cnt;rw[List.map_map];rfl
theorem qn0(p:Gi→Bool)(f:Gi→Gi)(G:List Gi):amt p (G.map f)=(G.map fun g=>if p (f g)=true then (f g).h.amount else 0).sum:=by
 unfold amt;rw[List.map_map];rfl
theorem q2t(h:∀g∈G,p g=true→q g=true)(m:g∈G)(w:p g=false)(x:q g=true):cnt p G<cnt q G:=by
 induction G with
 | nil=>cases m
 | cons y G D =>
  have t:cnt p (y::G)=(if p y=true then 1 else 0)+cnt p G:=rfl;have v:cnt q (y::G)=(if q y=true then 1 else 0)+cnt q G:=rfl;have E:=qm8 (p:=p) (q:=q) (G:=G) fun z o=>h z (List.mem_cons_of_mem _ o)
  rcases List.mem_cons.1 m with e | m
  ·subst e;rw[t,v,w,x];simp;omega
  ·have:=D (fun z o=>h z (List.mem_cons_of_mem _ o)) m;have C:=h y (List.mem_cons_self ..);rw[t,v];by_cases i:p y=true
   ·rw[if_pos i,if_pos (C i)];omega
   ·rw[if_neg i];split<;>omega
end
structure Idx(G:List Gi)(p:Gi→Bool)(l:List Nat):Prop where
 nd:l.Nodup
 iff:∀j,j∈l↔∃g,G[j]? = some g∧p g=true
section
variable {p q:Gi→Bool}{G:List Gi}{g g':Gi}{j:Nat}{l:List Nat}
theorem Idx.lt(h:Idx G p l)(m:j∈l):j<G.length:=by
 obtain⟨g,i,-⟩:=(h.iff j).1 m;exact(List.getElem?_eq_some_iff.1 i).1
theorem Idx.yes(h:Idx G p l)(o:j∈l)(m:G[j]? = some g):p g=true:=by
 obtain⟨g',i,t⟩:=(h.iff j).1 o;rw[m] at i;injection i with e;rw[e];exact t
theorem Idx.map(f:Gi→Gi)(h:Idx G q l)(o:∀g∈G,p (f g)=q g):Idx (G.map f) p l:=by
 refine⟨h.nd,fun j=>(h.iff j).trans ⟨?_,?_⟩⟩
 ·rintro ⟨g,m,v⟩;exact⟨f g,by rw[List.getElem?_map,m];rfl,by rw[o g (List.mem_of_getElem? m)];exact v⟩
 ·rintro ⟨y,i,t⟩;rw[List.getElem?_map] at i;cases m:G[j]? with
  | none=>rw[m] at i;cases i
  | some g =>
   rw[m] at i;injection i with i;subst i;exact⟨g,rfl,by rw[←o g (List.mem_of_getElem? m)];exact t⟩
theorem Idx.none(h:∀g∈G,p g=false):Idx G p []:=by
 refine⟨List.nodup_nil,fun j=>⟨fun h=>(by cases h),?_⟩⟩;rintro ⟨g,m,i⟩;rw[h g (List.mem_of_getElem? m)] at i;cases i
theorem Idx.congr(h:Idx G q l)(i:∀g∈G,p g=q g):Idx G p l:=by
 have:=h.map (p:=p) id i;rwa [List.map_id] at this
theorem Idx.snocN(h:Idx G p l)(t:p g=false):Idx (G++[g]) p l:=by
 refine⟨h.nd,fun j=>(h.iff j).trans ⟨?_,?_⟩⟩
 ·rintro ⟨y,i,m⟩;exact⟨y,by rw[List.getElem?_append_left (List.getElem?_eq_some_iff.1 i).1];exact i,m⟩
 ·rintro ⟨y,i,m⟩;by_cases o:j<G.length
  ·rw[List.getElem?_append_left o] at i;exact⟨y,i,m⟩
  ·rw[List.getElem?_append_right (by omega)] at i;have:=List.mem_of_getElem? i;rw[List.mem_singleton.1 this,t] at m;cases m
theorem Idx.snocY(h:Idx G p l)(x:p g=true):Idx (G++[g]) p (l++[G.length]):=by
 refine⟨?_,fun j=>⟨?_,?_⟩⟩
 ·rw[List.nodup_append];refine⟨h.nd,by simp,?_⟩;intro a v b w;have:=h.lt v;rw[List.mem_singleton.1 w];omega
 ·intro i;rcases List.mem_append.1 i with i | i
  ·obtain⟨y,m,t⟩:=(h.iff j).1 i;exact⟨y,by rw[List.getElem?_append_left (List.getElem?_eq_some_iff.1 m).1];exact m,t⟩
  ·rw[List.mem_singleton.1 i];exact⟨g,by simp,x⟩
 ·rintro ⟨y,m,t⟩;by_cases i:j<G.length
  ·rw[List.getElem?_append_left i] at m;exact List.mem_append_left _ ((h.iff j).2 ⟨y,m,t⟩)
  ·have o:=(List.getElem?_eq_some_iff.1 m).1;rw[List.length_append,List.length_singleton] at o;exact List.mem_append_right _ (List.mem_singleton.2 (by omega))
theorem qf2{G:List Gi}{j:Nat}{g g':Gi}(o:G[j]? = some g)(k:Nat):(G.set j g')[k]? = if k=j then some g' else G[k]? := by
 have m:=(List.getElem?_eq_some_iff.1 o).1;rw[List.getElem?_set];by_cases i:j=k
 ·rw[if_pos i,if_pos i.symm,if_pos m]
 ·rw[if_neg i,if_neg (fun e=>i e.symm)]
theorem Idx.setS(h:Idx G p l)(o:G[j]? = some g)(v:p g'=p g):Idx (G.set j g') p l:=by
 refine⟨h.nd,fun k=>(h.iff k).trans ?_⟩;rw[qf2 o];by_cases t:k=j
 ·subst t;rw[if_pos rfl,o];constructor
  ·rintro ⟨y,i,m⟩;injection i with i;subst i;exact⟨g',rfl,v.trans m⟩
  ·rintro ⟨y,i,m⟩;injection i with i;subst i;exact⟨g,rfl,v.symm.trans m⟩
 ·rw[if_neg t]
theorem Idx.setY(h:Idx G p l)(o:G[j]? = some g)(m:p g=false)(y:p g'=true):Idx (G.set j g') p (l++[j]):=by
 have x:j∉l:=fun w=>by rw[h.yes w o] at m;cases m
 refine⟨?_,fun k=> ?_⟩
 ·rw[List.nodup_append];refine⟨h.nd,by simp,?_⟩;intro a t b v;rw[List.mem_singleton.1 v];rintro rfl;exact x t
 ·rw[qf2 o,List.mem_append,List.mem_singleton,h.iff k];by_cases i:k=j
  ·subst i;rw[if_pos rfl];exact⟨fun _=>⟨g',rfl,y⟩,fun _=> .inr rfl⟩
  ·rw[if_neg i];exact⟨fun e=>e.resolve_right i,.inl⟩
theorem Idx.setN(h:Idx G p (j::l))(v:G[j]? = some g)(x:p g'=false):Idx (G.set j g') p l:=by
 obtain⟨w,hd⟩:=List.nodup_cons.1 h.nd;refine⟨hd,fun k=> ?_⟩;have i:=h.iff k;rw[List.mem_cons] at i;rw[qf2 v];by_cases m:k=j
 ·subst m;rw[if_pos rfl];refine⟨fun e=>absurd e w,?_⟩;rintro ⟨y,o,t⟩;injection o with o;subst o;rw[x] at t;cases t
 ·rw[if_neg m];exact⟨fun e=>i.1 (.inr e),fun e=>(i.2 e).resolve_left m⟩
theorem qvr:∀(n:Nat) (l:List Nat),l.Nodup→(∀j∈l,j<n)→l.length≤n
 | 0,[],_,_=>Nat.le_refl _
 | 0,j::_,_,h=>absurd (h j (List.mem_cons_self ..)) (Nat.not_lt_zero _)
 | n+1,l,hd,h=>by
  have i:=qvr n (l.erase n) (hd.erase n) fun j m=>by
   have:=h j (List.mem_of_mem_erase m);have t:j≠n:=fun e=>by
    subst e;exact(List.Nodup.not_mem_erase hd) m
   omega
  by_cases o:n∈l
  ·rw[List.length_erase_of_mem o] at i;omega
  ·rw[List.erase_of_not_mem o] at i;omega
theorem Idx.len(h:Idx G p l):l.length≤G.length:=qvr _ l h.nd fun _ i=>h.lt i
end
def Ids(G:List Gi)(s:Bool):Int→List Nat→Int→Prop
 | n,[],m=>n=m
 | n,j::l,m=>∃g,G[j]? = some g∧(if g.own=s then g.h.id=n∧Ids G s (n+1) l m else Ids G s n l m)
section
variable {G G':List Gi}{s:Bool}{g:Gi}{j:Nat}
theorem Ids.app{m k:Int}{l2:List Nat} : ∀ {l:List Nat} {n:Int},Ids G s n l m→Ids G s m l2 k→Ids G s n (l++l2) k
 | [],_,i,o=>by cases i;exact o
 | _::_,_,⟨g,v,i⟩,o=>by
  refine⟨g,v,?_⟩;by_cases t:g.own=s
  ·rw[if_pos t] at i ⊢;exact⟨i.1,i.2.app o⟩
  ·rw[if_neg t] at i ⊢;exact i.app o
theorem Ids.congr{m:Int} : ∀ {l:List Nat} {n:Int},Ids G s n l m→(∀j∈l,(G'[j]?).map Gi.key=(G[j]?).map Gi.key)→Ids G' s n l m
 | [],_,h,_=>h
 | j::_,_,⟨g,C,h⟩,w=>by
  have o:=w j (List.mem_cons_self ..);rw[C] at o;cases t:G'[j]? with
  | none=>rw[t] at o;cases o
  | some g' =>
   rw[t] at o;injection o with o;have y:g'.own=g.own:=congrArg (·.1) o;have z:g'.h=g.h:=congrArg (·.2.1) o;refine⟨g',t,?_⟩;rw[y,z];by_cases x:g.own=s
   ·rw[if_pos x] at h ⊢;exact⟨h.1,h.2.congr fun i v=>w i (List.mem_cons_of_mem _ v)⟩
   ·rw[if_neg x] at h ⊢;exact h.congr fun i v=>w i (List.mem_cons_of_mem _ v)
theorem Ids.one{n:Int}(i:G[j]? = some g)(o:g.own=s)(m:g.h.id=n):Ids G s n [j] (n+1):=⟨g,i,by rw[if_pos o];exact⟨m,rfl⟩⟩
theorem Ids.other{n:Int}(i:G[j]? = some g)(m:g.own≠s):Ids G s n [j] n:=⟨g,i,by rw[if_neg m];rfl⟩
theorem Ids.rng{m:Int} : ∀ {l:List Nat} {n:Int},Ids G s n l m→n≤m∧∀j∈l,∀g,G[j]? = some g→g.own=s→n≤g.h.id∧g.h.id<m
 | [],_,h=>⟨Int.le_of_eq h,fun _ h=>(by cases h)⟩
 | j::l,n,⟨g,C,h⟩=>by
  by_cases x:g.own=s
  ·rw[if_pos x] at h;obtain⟨z,w⟩:=h.2.rng;refine⟨by omega,fun i t y o v=> ?_⟩;rcases List.mem_cons.1 t with e | t
   ·subst e;rw[C] at o;injection o with o;subst o;omega
   ·have:=w i t y o v;omega
  ·rw[if_neg x] at h;obtain⟨z,w⟩:=h.rng;refine⟨z,fun i t y o v=> ?_⟩;rcases List.mem_cons.1 t with e | t
   ·subst e;rw[C] at o;injection o with o;subst o;exact absurd v x
   ·exact w i t y o v
end
def qqx(ch:Int)(h:Htlc):MsgV:=⟨3,ch,h.id,h.amount,h.hash.toList,h.expiry,0⟩
def qq1(s:Bool)(ch:Int)(g:Gi):MsgV:=if g.own=s then qqx ch g.h else g.um
noncomputable def Ch.sgnOf(c:Ch):MsgV:=⟨6,c.s.ch,0,0,zx false c.s.key c.s.ch c.k.signed c.loc c.rem c.xs,0,c.k.signed⟩
noncomputable def enM(s:Bool)(c:Ch)(G:List Gi):En→MsgV
 | .upd j=>match G[j]? with | some g=>qq1 s c.s.ch g | none=>MsgV.zero
 | .sgn=>c.sgnOf
 | .rev=>c.revocation
 | .shut=>qb6 c.s.ch
noncomputable def msE(s:Bool)(c:Ch)(G:List Gi)(e:List En):List MsgV:=e.map (enM s c G)
noncomputable def msU(s:Bool)(c:Ch)(G:List Gi)(l:List Nat):List MsgV:=l.map fun j=>enM s c G (.upd j)
def ups:List En→List Nat
 | []=>[]
 | .upd j::es=>j::ups es
 | .sgn::es=>ups es
 | .rev::es=>ups es
 | .shut::es=>ups es
def qbh(G:List Gi):List En→Prop
 | []=>True
 | .upd j::es=>(∀g,G[j]? = some g→g.cov=qay (ql es)∧g.pre=qbw (ql es))∧qbh G es
 | .sgn::es=>qbh G es
 | .rev::es=>qbh G es
 | .shut::es=>qbh G es
def qbl(G:List Gi)(s said:Bool):Bool→List En→Prop
 | h,[]=>said=h
 | h,.upd j::es=>(h=true→∀g,G[j]? = some g→g.own≠s)∧qbl G s said h es
 | h,.sgn::es=>qbl G s said h es
 | h,.rev::es=>qbl G s said h es
 | h,.shut::es=>h=false∧qbl G s said true es
def qo(s:Bool):Seen Gi:=⟨fun g=>g.own==s,fun g=>if g.own=s then g.so else g.st,Gi.h,Gi.paid⟩
def Gi.it(g:Gi)(s:Bool)(l i:Nat):It:=(g.so,g.st,g.up,g.cov,if g.own=s then l else i,if g.own=s then i else l)
def oGe(s:Bool)(k:Int)(g:Gi):Bool:=g.own==s&&decide (k≤g.so)
def pGe(s:Bool)(k:Int)(g:Gi):Bool:=g.own==s&&decide (k≤g.st)
def qbq(s:Bool)(g:Gi):Bool:=g.own==s&&(decide (0≤g.so)&&decide (g.so≤8))
def Gi.pend(s:Bool)(g:Gi):Bool:=(g.own==s&&g.up==1) || (g.own == !s&&g.up==2)
def Gi.unsg(s:Bool)(g:Gi):Bool:=(g.own==s&&g.so==0) || (g.own == !s&&g.st==5)
def Gi.covd(s:Bool)(g:Gi):Bool:=(g.own==s&&g.so==1) || (g.own == !s&&g.st==6)
def Gi.moved(s:Bool)(g:Gi):Bool:=(g.own==s&&(g.so==1 || g.so==8)) || (g.own == !s&&(g.st==3 || g.st==6))
def qao(s:Bool)(g:Gi):Bool:=g.own==s&&(g.up==1&&g.pre)
structure Kon where
 S:Bool→SetupV
 ch:Int
 cap:Int
structure Kon.Ok(K:Kon):Prop where
 ch:∀s,(K.S s).ch=K.ch
 chb:0≤K.ch∧K.ch<4294967296
 key:∀s,(K.S s).key=(K.S (!s)).peer
 keyb:∀s,(K.S s).key.size≤64
 ours:∀s,0≤(K.S s).ours
 sum:∀s,(K.S s).ours+(K.S (!s)).ours=K.cap
 cap:K.cap≤1125899906842624
 capS:∀s,(K.S s).cap=K.cap
 seed:∀s,(K.S s).seed.length=32∧qa7 (K.S s).seed
def zh2(ch:Int)(g:Gi):Prop :=
 (∃p,g.um=(qgc g.h.id p).on ch∧p.length=32∧qa7 p∧qfm p g.h.hash.toList=true∧g.paid=true)∨(∃r,g.um=(qe1 g.h.id r).on ch∧0≤r∧r≤65535∧g.paid=false)
structure GiOk(ch:Int)(g:Gi):Prop where
 id:0≤g.h.id∧g.h.id<1152921504606846976
 amount:1≤g.h.amount∧g.h.amount≤1125899906842624
 hash:qa7 g.h.hash.toList
 expiry:1≤g.h.expiry∧g.h.expiry≤1073741824
 um:g.st=5∨g.st=6→zh2 ch g
structure EndI(K:Kon)(s:Bool)(c:Ch)(G:List Gi)(nu:List Nat):Prop where
 set:c.s=K.S s
 perm:c.xs.Perm (G.filterMap (qo s).show)
 loc:c.loc=(K.S s).ours+(qo s).conL G
 rem:c.rem=(K.S (!s)).ours+(qo s).conR G
 pos:0≤c.loc∧0≤c.rem
 nOwn:c.k.nextOwn=cnt (oGe s 0) G
 nTh:c.k.nextTheirs=cnt (pGe (!s) 0) G
 low:∀g∈G,g.own=s→1≤g.so→g.h.id<cnt (oGe s 1) G
 nuS:Idx G (Gi.unsg s) nu
 nuI:Ids G s (cnt (oGe s 1) G) nu c.k.nextOwn
 news:c.news=msU s c G nu
 many:cnt (qbq s) G≤8
 shelf:qdb (K.S (!s)).seed c.shelf
 nums:0≤c.k.heard∧(0≤c.k.signed∧c.k.signed≤65535)∧(c.k.awaits=true→1≤c.k.signed)
structure Dir(n:Nat)(s:Bool)(c d:Ch)(eo ei:List En)(G:List Gi)(la:List Nat):Prop where
 w9:ql eo≠9
 xor:qay (ql eo)=true→qbw (ql ei)=false
 sig:c.k.signed=d.k.heard+if qay (ql eo)=true then 1 else 0
 aw:c.k.awaits=(qay (ql eo) || qbw (ql ei))
 rv3:ql eo=3→c.k.revoked=true
 rv4:ql eo=4→c.k.revoked=false
 upd:Idx G (Gi.pend s) (ups eo)
 along:qbh G eo
 ids:Ids G s d.k.nextTheirs (ups eo) c.k.nextOwn
 laS:qay (ql eo)=true→Idx G (Gi.covd s) la∧Ids G s (cnt (pGe s 1) G) la (cnt (oGe s 1) G)∧c.last=msU s c G la++[c.sgnOf]
 last:c.last.length≤n
 shut:qbl G s c.k.shutSaid d.k.shutHeard eo
 m1:qbw (ql eo)=true→amt (qao s) G≤d.rem
 ex:qay (ql eo)=true→∃g∈G,Gi.moved s g=true
def Gi.pk(g:Gi):Bool × Int × Bool:=(g.own,g.h.id,decide (0≤g.so))
def Apt(a b:Bool × Int × Bool):Prop:=¬(a.2.2=true∧b.2.2=true∧a.1=b.1∧a.2.1=b.2.1)
structure Pt where
 s:Bool
 c:Ch
 d:Ch
 eo:List En
 ei:List En
 G:List Gi
 la:List Nat
 nu:List Nat
 lb:List Nat
 nv:List Nat
structure Inv(K:Kon)(n:Nat)(P:Pt):Prop where
 ea:EndI K P.s P.c P.G P.nu
 eb:EndI K (!P.s) P.d P.G P.nv
 ab:Dir n P.s P.c P.d P.eo P.ei P.G P.la
 ba:Dir n (!P.s) P.d P.c P.ei P.eo P.G P.lb
 it:∀g∈P.G,g.it P.s (ql P.eo) (ql P.ei)∈qa3
 ok:∀g∈P.G,GiOk K.ch g
 pw:(P.G.map Gi.pk).Pairwise Apt
 few:P.G.length≤n
def Pt.flip(P:Pt):Pt:=⟨!P.s,P.d,P.c,P.ei,P.eo,P.G,P.lb,P.nv,P.la,P.nu⟩
theorem za(a s:Bool):a=s∨a = !s:=by cases a<;>cases s<;>simp
theorem qb3{a s:Bool}(h:a = !s):¬a=s:=by subst h;cases s<;>decide
theorem qh7{a s:Bool}(h:a=s):¬a = !s:=by subst h;cases a<;>decide
theorem qdp{g:Gi}{s:Bool}(h:g.own=s)(l i:Nat):g.it s l i=(g.so,g.st,g.up,g.cov,l,i):=by unfold Gi.it;rw[if_pos h,if_pos h]
theorem qdv{g:Gi}{s:Bool}(h:g.own = !s)(l i:Nat):g.it s l i=(g.so,g.st,g.up,g.cov,i,l):=by unfold Gi.it;rw[if_neg (qb3 h),if_neg (qb3 h)]
theorem q5t(g:Gi)(s:Bool)(l i:Nat):g.it (!s) i l=g.it s l i:=by
 rcases za g.own s with h | h
 ·rw[qdp h,qdv (by rw[h,Bool.not_not])]
 ·rw[qdv h,qdp h]
theorem Inv.flip{K:Kon}{n:Nat}{P:Pt}(h:Inv K n P):Inv K n P.flip :=
 ⟨h.eb,by rw[show (!P.flip.s)=P.s from Bool.not_not _];exact h.ea,h.ba,by rw[show (!P.flip.s)=P.s from Bool.not_not _];exact h.ab,fun g i=>by rw[show g.it P.flip.s (ql P.flip.eo) (ql P.flip.ei)=_ from q5t g P.s (ql P.eo) (ql P.ei)];exact h.it g i,h.ok,h.pw,h.few⟩
section
variable {K:Kon}{n m:Nat}{P:Pt}
theorem Dir.mono{s:Bool}{c d:Ch}{eo ei:List En}{G:List Gi}{la:List Nat}(h:Dir n s c d eo ei G la)(g:n≤m):Dir m s c d eo ei G la :=
 ⟨h.w9,h.xor,h.sig,h.aw,h.rv3,h.rv4,h.upd,h.along,h.ids,h.laS,Nat.le_trans h.last g,h.shut,h.m1,h.ex⟩
theorem Inv.mono(h:Inv K n P)(g:n≤m):Inv K m P:=⟨h.ea,h.eb,h.ab.mono g,h.ba.mono g,h.it,h.ok,h.pw,Nat.le_trans h.few g⟩
end
theorem qvw:∀x∈qa3,(-1≤x.1∧x.1≤9)∧(-1≤x.2.1∧x.2.1≤9)∧(x.1 = -1→x.2.1 = -1∧x.2.2.1=0)∧(x.2.1 = -1→x.1 = -1∨x.1=0∨x.1=1)∧x.2.2.1≤2:=by decide +kernel
theorem q4c:∀i g:Fin 5,(qay i.val=true→qbw g.val=false)→(qay g.val=true→qbw i.val=false)→(-1,-1,0,false,i.val,g.val)∈qa3:=by decide +kernel
theorem qhi{es:List En}(h:ql (.sgn::es)≠9):(ql es=0∧ql (.sgn::es)=1)∨(ql es=2∧ql (.sgn::es)=3):=by
 have e:ql (.sgn::es)=if ql es=0 then 1 else if ql es=2 then 3 else 9:=rfl;by_cases g:ql es=0
 ·exact .inl ⟨g,by rw[e,if_pos g]⟩
 ·by_cases i:ql es=2
  ·exact .inr ⟨i,by rw[e,if_neg g,if_pos i]⟩
  ·exact absurd (by rw[e,if_neg g,if_neg i]) h
theorem qhh{es:List En}(h:ql (.rev::es)≠9):(ql es=0∧ql (.rev::es)=2)∨(ql es=1∧ql (.rev::es)=4):=by
 have e:ql (.rev::es)=if ql es=0 then 2 else if ql es=1 then 4 else 9:=rfl;by_cases g:ql es=0
 ·exact .inl ⟨g,by rw[e,if_pos g]⟩
 ·by_cases i:ql es=1
  ·exact .inr ⟨i,by rw[e,if_neg g,if_pos i]⟩
  ·exact absurd (by rw[e,if_neg g,if_neg i]) h
theorem qg5:∀e:List En,ql e≠9→ql e≤4
 | [],_=>by decide
 | .upd _::es,h=>qg5 es h
 | .shut::es,h=>qg5 es h
 | .sgn::es,h=>by rcases qhi h with e | e<;>omega
 | .rev::es,h=>by rcases qhh h with e | e<;>omega
theorem qhg:∀e f:List En,ups (e++f)=ups e++ups f
 | [],_=>rfl
 | .upd j::es,f=>by show j::ups (es++f)=_;rw[qhg es f];rfl
 | .sgn::es,f=>qhg es f
 | .rev::es,f=>qhg es f
 | .shut::es,f=>qhg es f
theorem qrc:∀e:List En,ql e≠9→En.sgn∈e→qay (ql e)=true
 | [],_,h=>by cases h
 | .upd _::es,g,h=>qrc es g ((List.mem_cons.1 h).resolve_left (by intro e;cases e))
 | .shut::es,g,h=>qrc es g ((List.mem_cons.1 h).resolve_left (by intro e;cases e))
 | .sgn::es,g,_=>by
  rcases qhi g with ⟨-,e⟩ | ⟨-,e⟩<;>rw[e]<;>rfl
 | .rev::es,g,h=>by
  have l:=(List.mem_cons.1 h).resolve_left (by intro e;cases e);rcases qhh g with ⟨i,e⟩ | ⟨-,e⟩
  ·have:=qrc es (by omega) l;rw[i] at this;cases this
  ·rw[e];rfl
theorem qoi:∀e:List En,ql e≠9→En.rev∈e→qbw (ql e)=true
 | [],_,h=>by cases h
 | .upd _::es,g,h=>qoi es g ((List.mem_cons.1 h).resolve_left (by intro e;cases e))
 | .shut::es,g,h=>qoi es g ((List.mem_cons.1 h).resolve_left (by intro e;cases e))
 | .rev::es,g,_=>by
  rcases qhh g with ⟨-,e⟩ | ⟨-,e⟩<;>rw[e]<;>rfl
 | .sgn::es,g,h=>by
  have l:=(List.mem_cons.1 h).resolve_left (by intro e;cases e);rcases qhi g with ⟨i,e⟩ | ⟨-,e⟩
  ·have:=qoi es (by omega) l;rw[i] at this;cases this
  ·rw[e];rfl
theorem qka{s:Bool}{c:Ch}{G:List Gi}{j:Nat}{g:Gi}(i:G[j]? = some g):enM s c G (.upd j)=qq1 s c.s.ch g:=by
 unfold enM;simp only[i]
theorem za6{s:Bool}{c:Ch}{G:List Gi}{j:Nat}(g:G[j]? = none):enM s c G (.upd j)=MsgV.zero:=by
 unfold enM;simp only[g]
theorem q5m{s:Bool}{c c':Ch}{G G':List Gi}{j:Nat}(t:c'.s=c.s)(h:(G'[j]?).map Gi.key=(G[j]?).map Gi.key):enM s c' G' (.upd j)=enM s c G (.upd j):=by
 cases e:G[j]? with
 | none =>
  rw[e] at h;cases i:G'[j]? with
  | none=>rw[za6 e,za6 i]
  | some g'=>rw[i] at h;cases h
 | some g =>
  rw[e] at h;cases i:G'[j]? with
  | none=>rw[i] at h;cases h
  | some g' =>
   rw[i] at h;injection h with h;have l:g'.own=g.own:=congrArg (·.1) h;have o:g'.h=g.h:=congrArg (·.2.1) h;have q:g'.um=g.um:=congrArg (·.2.2) h;rw[qka e,qka i];unfold qq1;rw[l,o,q,t]
theorem qb8{s:Bool}{c c':Ch}{G G':List Gi}{l:List Nat}(i:c'.s=c.s)(h:∀j∈l,(G'[j]?).map Gi.key=(G[j]?).map Gi.key):msU s c' G' l=msU s c G l :=
 List.map_congr_left fun j g=>q5m i (h j g)
theorem qmm{j:Nat} : ∀e:List En,En.upd j∈e→j∈ups e
 | [],h=>by cases h
 | .upd i::es,h=>by
  rcases List.mem_cons.1 h with e | h
  ·injection e with e;subst e;exact List.mem_cons_self ..
  ·exact List.mem_cons_of_mem _ (qmm es h)
 | .sgn::es,h=>qmm es ((List.mem_cons.1 h).resolve_left (by intro e;cases e))
 | .rev::es,h=>qmm es ((List.mem_cons.1 h).resolve_left (by intro e;cases e))
 | .shut::es,h=>qmm es ((List.mem_cons.1 h).resolve_left (by intro e;cases e))
theorem qdi{s:Bool}{c c':Ch}{G G':List Gi}{e:List En}(i:ql e≠9)(l:c'.s=c.s)(h:∀j∈ups e,(G'[j]?).map Gi.key=(G[j]?).map Gi.key)
  (o:qay (ql e)=true→c'.sgnOf=c.sgnOf) (q:qbw (ql e)=true→c'.revocation=c.revocation):msE s c' G' e=msE s c G e:=by
 refine List.map_congr_left fun x g=> ?_
 cases x with
 | upd j=>exact q5m l (h j (qmm e g))
 | sgn=>exact o (qrc e i g)
 | rev=>exact q (qoi e i g)
 | shut=>show qb6 c'.s.ch=qb6 c.s.ch;rw[l]
theorem qjq{c c':Ch}(i:c'.s=c.s)(g:c'.k.signed=c.k.signed)(h:zx false c.s.key c.s.ch c.k.signed c'.loc c'.rem c'.xs=zx false c.s.key c.s.ch c.k.signed c.loc c.rem c.xs):c'.sgnOf=c.sgnOf:=by
 unfold Ch.sgnOf;rw[i,g,h]
theorem qjp{c c':Ch}(i:c'.s=c.s)(g:c'.k.heard=c.k.heard):c'.revocation=c.revocation:=by
 unfold Ch.revocation Ch.secret;rw[i,g]
theorem qoa{f:Gi→Gi}(h:∀g,(f g).key=g.key)(G:List Gi)(j:Nat):((G.map f)[j]?).map Gi.key=(G[j]?).map Gi.key:=by
 rw[List.getElem?_map,Option.map_map];cases G[j]? with
 | none=>rfl
 | some g=>exact congrArg some (h g)
theorem qob{G:List Gi}{j:Nat}{g g':Gi}(l:G[j]? = some g){k:Nat}(h:k≠j∨g'.key=g.key):((G.set j g')[k]?).map Gi.key=(G[k]?).map Gi.key:=by
 rw[qf2 l];by_cases i:k=j
 ·rw[if_pos i,i,l];exact congrArg some (h.resolve_left (fun e=>e i))
 ·rw[if_neg i]
theorem qet{G:List Gi}{g:Gi}{k:Nat}(h:k<G.length):((G++[g])[k]?).map Gi.key=(G[k]?).map Gi.key:=by
 rw[List.getElem?_append_left h]
theorem q36{G:List Gi}{j:Nat}{g g':Gi}(l:G[j]? = some g)(h:g'.pk=g.pk):(G.set j g').map Gi.pk=G.map Gi.pk:=by
 rw[List.map_set,h];apply List.ext_getElem?;intro k;rw[List.getElem?_set];by_cases o:j=k
 ·subst o;have i:=(List.getElem?_eq_some_iff.1 l).1;rw[if_pos rfl,List.length_map,if_pos i,List.getElem?_map,l];rfl
 ·rw[if_neg o]
theorem q35{G:List Gi}{f:Gi→Gi}(h:∀g∈G,(f g).pk=g.pk):(G.map f).map Gi.pk=G.map Gi.pk:=by
 rw[List.map_map];exact List.map_congr_left h
theorem qbh.snoc{G:List Gi}{j:Nat}{x:En}(l:x = .upd j∨x = .shut)(o:x = .upd j→∀g,G[j]? = some g→g.cov=false∧g.pre=false):∀e:List En,qbh G e→qbh G (e++[x])
 | [],_=>by
  rcases l with rfl | rfl
  ·exact⟨o rfl,trivial⟩
  ·trivial
 | .upd i::es,h=>by
  refine⟨fun g q=> ?_,qbh.snoc l o es h.2⟩;have t:ql (es++[x])=ql es:=by
   rcases l with rfl | rfl
   ·exact qjw es j
   ·exact qty es
  show g.cov=qay (ql (es++[x]))∧g.pre=qbw (ql (es++[x]));rw[t];exact h.1 g q
 | .sgn::es,h=>qbh.snoc l o es h
 | .rev::es,h=>qbh.snoc l o es h
 | .shut::es,h=>qbh.snoc l o es h
theorem qbh.congr{G G':List Gi} : ∀ {e:List En},(∀j∈ups e,∀g',G'[j]? = some g'→∃g,G[j]? = some g∧g'.cov=g.cov∧g'.pre=g.pre)→qbh G e→qbh G' e
 | [],_,_=>trivial
 | .upd i::es,l,h=>by
  refine⟨fun g' o=> ?_,qbh.congr (fun j w=>l j (List.mem_cons_of_mem _ w)) h.2⟩;obtain⟨g,v,q,t⟩:=l i (List.mem_cons_self ..) g' o;rw[q,t];exact h.1 g v
 | .sgn::es,l,h=>qbh.congr (e:=es) l h
 | .rev::es,l,h=>qbh.congr (e:=es) l h
 | .shut::es,l,h=>qbh.congr (e:=es) l h
theorem qbl.congr{G G':List Gi}{s said:Bool} : ∀ {e:List En} {h:Bool},(∀j∈ups e,(G'[j]?).map Gi.key=(G[j]?).map Gi.key)→qbl G s said h e→qbl G' s said h e
 | [],_,_,h=>h
 | .upd i::es,_,l,h=>by
  refine⟨fun e g' t=> ?_,qbl.congr (fun j w=>l j (List.mem_cons_of_mem _ w)) h.2⟩;have o:=l i (List.mem_cons_self ..);rw[t] at o;cases q:G[i]? with
  | none=>rw[q] at o;cases o
  | some g =>
   rw[q] at o;injection o with o;have v:g'.own=g.own:=congrArg (·.1) o;rw[v];exact h.1 e g q
 | .sgn::es,_,l,h=>qbl.congr (e:=es) l h
 | .rev::es,_,l,h=>qbl.congr (e:=es) l h
 | .shut::es,_,l,h=>⟨h.1,qbl.congr (e:=es) l h.2⟩
theorem qbl.snoc{G:List Gi}{s said:Bool}{x:En}(q:x ≠ .shut)(o:∀j g,x = .upd j→G[j]? = some g→g.own=s→said=false):∀ {e:List En} {h:Bool},qbl G s said h e→qbl G s said h (e++[x])
 | [],h,l=>by
  cases x with
  | upd j=>exact⟨fun e g t v=>by rw[show said=h from l,e] at o;exact absurd (o j g rfl t v) (by decide),l⟩
  | sgn=>exact l
  | rev=>exact l
  | shut=>exact absurd rfl q
 | .upd i::es,_,l=>⟨l.1,qbl.snoc q o l.2⟩
 | .sgn::es,_,l=>qbl.snoc (e:=es) q o l
 | .rev::es,_,l=>qbl.snoc (e:=es) q o l
 | .shut::es,_,l=>⟨l.1,qbl.snoc (e:=es) q o l.2⟩
theorem qbl.shut{G:List Gi}{s:Bool} : ∀ {e:List En} {h:Bool},qbl G s false h e→qbl G s true h (e++[.shut])
 | [],_,g=>⟨g.symm,rfl⟩
 | .upd i::es,_,g=>⟨g.1,qbl.shut g.2⟩
 | .sgn::es,_,g=>qbl.shut (e:=es) g
 | .rev::es,_,g=>qbl.shut (e:=es) g
 | .shut::es,_,g=>⟨g.1,qbl.shut (e:=es) g.2⟩
end Go.Proofs.YthnohmjbbeahmaaGreatDoor
