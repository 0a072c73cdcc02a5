/-
  The protocol, plain: a view's sums over the ghost list.
-/
import Derived.Test.YtjpmomdechibmaaGreatDoorMdg
import Derived.Test.YtjpmomdechibmaaGreatDoorMdc
set_option linter.unusedVariables false
set_option linter.unusedSimpArgs false
namespace Go.Proofs.YtjpmomdechibmaaGreatDoor
open Go.RowKit
theorem qq1{α:Type}(f:α→Option Live)(F:Live→Int)(G:List α):((G.filterMap f).map F).sum=(G.map fun g=>match f g with | none=>0 | some x=>F x).sum:=by
 induction G with
 | nil=>rfl
 | cons g G l =>
  rw[List.map_cons,List.sum_cons,←l]
  cases i:f g with
  | none=>rw[List.filterMap_cons_none i];simp only;omega
  | some x =>
   rw[List.filterMap_cons_some i,List.map_cons,List.sum_cons]
def Seen.tvL{α:Type}(v:Seen α)(ours:Bool)(G:List α):Int:=(G.map fun g=>Go.Proofs.YtjpmomdechibmaaGreatDoor.tvL ours (v.mine g) (v.st g) (v.paid g) (v.h g).amount).sum
def Seen.tvR{α:Type}(v:Seen α)(ours:Bool)(G:List α):Int:=(G.map fun g=>Go.Proofs.YtjpmomdechibmaaGreatDoor.tvR ours (v.mine g) (v.st g) (v.paid g) (v.h g).amount).sum
theorem zcc{α:Type}(v:Seen α)(ours:Bool)(G:List α):v.tvL ours G=v.conL G+((G.filterMap v.show).map (gvL ours)).sum:=by
 rw[qq1]
 unfold Seen.tvL Seen.conL
 induction G with
 | nil=>rfl
 | cons g G i =>
  simp only[List.map_cons,List.sum_cons]
  have f:Go.Proofs.YtjpmomdechibmaaGreatDoor.tvL ours (v.mine g) (v.st g) (v.paid g) (v.h g).amount=Go.Proofs.YtjpmomdechibmaaGreatDoor.conL (v.mine g) (v.st g) (v.paid g) (v.h g).amount+(match v.show g with | none=>0 | some x=>gvL ours x):=by
   unfold Go.Proofs.YtjpmomdechibmaaGreatDoor.tvL Seen.show qaw
   by_cases h:0≤v.st g∧v.st g≤8
   ·rw[if_pos h,if_pos h]
    rfl
   ·rw[if_neg h,if_neg h]
  rw[f,i]
  omega
theorem zcd{α:Type}(v:Seen α)(ours:Bool)(G:List α):v.tvR ours G=v.conR G+((G.filterMap v.show).map (gvR ours)).sum:=by
 rw[qq1]
 unfold Seen.tvR Seen.conR
 induction G with
 | nil=>rfl
 | cons g G i =>
  simp only[List.map_cons,List.sum_cons]
  have f:Go.Proofs.YtjpmomdechibmaaGreatDoor.tvR ours (v.mine g) (v.st g) (v.paid g) (v.h g).amount=Go.Proofs.YtjpmomdechibmaaGreatDoor.conL (!v.mine g) (v.st g) (v.paid g) (v.h g).amount+(match v.show g with | none=>0 | some x=>gvR ours x):=by
   unfold Go.Proofs.YtjpmomdechibmaaGreatDoor.tvR Seen.show qaw
   by_cases h:0≤v.st g∧v.st g≤8
   ·rw[if_pos h,if_pos h]
    rfl
   ·rw[if_neg h,if_neg h]
  rw[f,i]
  omega
theorem qtw{α:Type}(v:Seen α)(ours:Bool){l r L R:Int}{xs:List Live}{G:List α}(f:xs.Perm (G.filterMap v.show))(w:l=L+v.conL G)(x:r=R+v.conR G)(m:0≤l∧l<18446744073709551616)(o:0≤r∧r<18446744073709551616)
  (q:0≤L+v.tvL ours G∧L+v.tvL ours G<18446744073709551616) (t:0≤R+v.tvR ours G∧R+v.tvR ours G<18446744073709551616):zn ours l r xs=(L+v.tvL ours G,R+v.tvR ours G):=by
 have g:(xs.map (gvL ours)).sum=((G.filterMap v.show).map (gvL ours)).sum:=qf8 (f.map _)
 have i:(xs.map (gvR ours)).sum=((G.filterMap v.show).map (gvR ours)).sum:=qf8 (f.map _)
 have y:=zcc v ours G
 have z:=zcd v ours G
 rw[q96 ours xs m o (by omega) (by omega),g,i]
 congr 1<;>omega
theorem qjj{α:Type}(v:Seen α)(ours:Bool)(G:List α):zb ours (G.filterMap v.show)=G.filterMap fun g=>if (0≤v.st g∧v.st g≤8)∧qcs ours (v.mine g) (v.st g)=true then some ⟨v.mine g==ours,v.h g⟩ else none:=by
 unfold zb
 induction G with
 | nil=>rfl
 | cons g G i =>
  by_cases h:0≤v.st g∧v.st g≤8
  ·have f:v.show g=some ⟨v.h g,v.mine g,v.st g,v.paid g&&decide (5≤v.st g)⟩:=by unfold Seen.show qaw;rw[if_pos h]
   rw[List.filterMap_cons_some f,List.filter_cons]
   cases l:qcs ours (v.mine g) (v.st g) with
   | true =>
    rw[if_pos rfl,List.map_cons,i,List.filterMap_cons_some (b:=⟨v.mine g==ours,v.h g⟩) (by rw[if_pos ⟨h,l⟩])]
   | false =>
    rw[if_neg (by decide),i,List.filterMap_cons_none (by rw[if_neg (fun e=>by rw[l] at e;cases e.2)])]
  ·have f:v.show g=none:=by unfold Seen.show qaw;rw[if_neg h]
   rw[List.filterMap_cons_none f,i,List.filterMap_cons_none (by rw[if_neg (fun e=>h e.1)])]
theorem q3e(ours mine:Bool)(s:Int)(paid:Bool):tvC ours mine s paid=1↔(0≤s∧s≤8)∧qcs ours mine s=true:=by
 unfold tvC
 by_cases h:0≤s∧s≤8
 ·rw[if_pos h]
  cases f:qcs ours mine s with
  | true=>simp[h]
  | false =>
   cases g:qd5 ours mine s<;>cases paid<;>simp
 ·rw[if_neg h]
  constructor
  ·intro e
   split at e<;>omega
  ·intro e
   exact absurd e.1 h
theorem qgz{α β:Type}{f f':α→Option β}{G:List α}(h:∀g∈G,f g=f' g):G.filterMap f=G.filterMap f':=by
 induction G with
 | nil=>rfl
 | cons g G l =>
  rw[List.filterMap_cons,List.filterMap_cons,h g (List.mem_cons_self ..),l (fun y i=>h y (List.mem_cons_of_mem _ i))]
structure Meet{α:Type}(va vb:Seen α)(G:List α):Prop where
 mine:∀g∈G,vb.mine g = !va.mine g
 h:∀g∈G,vb.h g=va.h g
 paid:∀g∈G,vb.paid g=va.paid g
 sa:∀g∈G,-1≤va.st g∧va.st g≤9
 sb:∀g∈G,-1≤vb.st g∧vb.st g≤9
 cls:∀g∈G,tvC true (vb.mine g) (vb.st g) (vb.paid g)=tvC false (va.mine g) (va.st g) (va.paid g)
theorem qq3{α:Type}{va vb:Seen α}{G:List α}(h:Meet va vb G):zb true (G.filterMap vb.show)=zb false (G.filterMap va.show):=by
 rw[qjj,qjj]
 refine qgz fun g i=> ?_
 have o:=h.cls g i
 have l:=q3e true (vb.mine g) (vb.st g) (vb.paid g)
 have m:=q3e false (va.mine g) (va.st g) (va.paid g)
 by_cases f:tvC false (va.mine g) (va.st g) (va.paid g)=1
 ·rw[if_pos (l.1 (o.trans f)),if_pos (m.1 f),h.mine g i,h.h g i]
  cases va.mine g<;>rfl
 ·rw[if_neg (fun e=>f (o.symm.trans (l.2 e))),if_neg (fun e=>f (m.2 e))]
theorem zel{α:Type}{va vb:Seen α}{G:List α}(h:Meet va vb G):vb.tvL true G=va.tvR false G∧vb.tvR true G=va.tvL false G:=by
 unfold Seen.tvL Seen.tvR
 refine⟨congrArg List.sum (List.map_congr_left fun g f=> ?_),congrArg List.sum (List.map_congr_left fun g f=> ?_)⟩
 ·rw[ze4 _ _ _ _ _ (h.sb g f),ze5 _ _ _ _ _ (h.sa g f),h.cls g f,h.mine g f,h.h g f]
 ·rw[ze5 _ _ _ _ _ (h.sb g f),ze4 _ _ _ _ _ (h.sa g f),h.cls g f,h.mine g f,h.h g f,Bool.not_not]
theorem q57{α:Type}{va vb:Seen α}{G:List α}(h:Meet va vb G)(key:ByteArray)(ch n:Int){la f lb g L R:Int}{i l:List Live}(y:i.Perm (G.filterMap va.show))(z:l.Perm (G.filterMap vb.show))
  (E:la=L+va.conL G) (F:f=R+va.conR G) (H:lb=R+vb.conL G) (I:g=L+vb.conR G) (b1:0≤la∧la<18446744073709551616) (b2:0≤f∧f<18446744073709551616) (C:0≤lb∧lb<18446744073709551616) (D:0≤g∧g<18446744073709551616)
  (o:0≤L+va.tvL false G∧L+va.tvL false G<18446744073709551616) (q:0≤R+va.tvR false G∧R+va.tvR false G<18446744073709551616) (t:qhw (zb false i)):z8 true key ch n lb g l=z8 false key ch n la f i:=by
 obtain⟨m1,v⟩:=zel h
 have K:=qtw va false y E F b1 b2 o q
 have M:=qtw vb true z H I C D (by rw[m1];exact q) (by rw[v];exact o)
 have J:qe3 (zb true l)=qe3 (zb false i):=by
  have w:=qlw false y
  have x:=qlw true z
  have m:qhw (zb true l):=(t.perm w).perm (by rw[←qq3 h];exact x.symm)
  rw[qlq m x,qq3 h,←qlq t w]
 unfold z8 qhr qhs
 rw[J,K,M,m1,v]
 rfl
theorem qk4(c:Ch)(ev:Int):(c.goOn ev).k=c.k∧(c.goOn ev).s=c.s∧(c.goOn ev).news=c.news∧(c.goOn ev).last=c.last∧(c.goOn ev).shelf=c.shelf:=qgh (qz ev c.xs) c
theorem qos{α:Type}{v:Seen α}{g:α}{x:Live}(h:v.show g=some x):x.h=v.h g:=by
 unfold Seen.show qaw at h
 split at h
 ·injection h with h
  rw[←h]
 ·cases h
theorem qex{α:Type}(v:Seen α){G:List α}(i:∀g∈G,0≤(v.h g).amount){xs:List Live}(l:xs.Perm (G.filterMap v.show)):∀y∈xs,0≤y.h.amount:=by
 intro y m
 obtain⟨g,f,e⟩:=List.mem_filterMap.1 (l.subset m)
 rw[qos e]
 exact i g f
theorem qsg{α:Type}{c:Ch}(v:Seen α)(G:List α){L R:Int}(i:∀g∈G,0≤(v.h g).amount)(l:c.xs.Perm (G.filterMap v.show))(x:c.loc=L+v.conL G)(y:c.rem=R+v.conR G)(z:0≤c.loc)(C:0≤c.rem)
  (b1:0≤L+(v.on 3).conL G∧L+(v.on 3).conL G<18446744073709551616) (b2:0≤R+(v.on 3).conR G∧R+(v.on 3).conR G<18446744073709551616) (o:L+((v.on 3).on 4).conL G<18446744073709551616) (q:R+((v.on 3).on 4).conR G<18446744073709551616) :
  c.signedBy.xs.Perm (G.filterMap ((v.on 3).on 4).show)∧c.signedBy.loc=L+((v.on 3).on 4).conL G∧c.signedBy.rem=R+((v.on 3).on 4).conR G∧c.signedBy.k = {c.k with heard:=c.k.heard+1,revoked:=true} ∧ c.signedBy.s=c.s∧c.signedBy.news=c.news∧c.signedBy.last=c.last∧c.signedBy.shelf=c.shelf:=by
 obtain⟨I,l1,m⟩:=qib v 3 G l x y (qex v i l) z C b1.2 b2.2
 obtain⟨D,M,F,a1,t⟩:=qk4 c 3
 have f:(c.goOn 3).heardOne.xs.Perm (G.filterMap (v.on 3).show):=I
 obtain⟨J,l2,K⟩:=qib (c:=(c.goOn 3).heardOne) (v.on 3) 4 G f l1 m (qex (v.on 3) i f) (by show 0≤(c.goOn 3).loc;rw[l1];exact b1.1) (by show 0≤(c.goOn 3).rem;rw[m];exact b2.1) o q
 obtain⟨E,N,H,a2,w⟩:=qk4 (c.goOn 3).heardOne 4
 refine⟨J,l2,K,?_,N.trans M,H.trans F,a2.trans a1,w.trans t⟩
 show {((c.goOn 3).heardOne.goOn 4).k with revoked:=true} = _
 rw[E]
 show ({({(c.goOn 3).k with heard:=(c.goOn 3).k.heard+1} : CountsV) with revoked:=true} : CountsV)=_
 rw[D]
theorem qvx{α:Type}{c:Ch}(v:Seen α)(G:List α){L R:Int}(q:∀g∈G,0≤(v.h g).amount)(f:c.xs.Perm (G.filterMap v.show))(l:c.loc=L+v.conL G)(m:c.rem=R+v.conR G)(o:0≤c.loc)(t:0≤c.rem)
  (b1:L+(v.on 1).conL G<18446744073709551616) (b2:R+(v.on 1).conR G<18446744073709551616) :
  c.signing.xs.Perm (G.filterMap (v.on 1).show)∧c.signing.loc=L+(v.on 1).conL G∧c.signing.rem=R+(v.on 1).conR G∧c.signing.k = {c.k with signed:=c.k.signed+1,awaits:=true,revoked:=false} ∧ c.signing.s=c.s∧c.signing.news=c.news∧c.signing.last=c.last∧c.signing.shelf=c.shelf:=by
 obtain⟨y,l1,z⟩:=qib v 1 G f l m (qex v q f) o t b1 b2
 obtain⟨w,C,x,a1,i⟩:=qk4 c 1
 refine⟨y,l1,z,?_,C,x,a1,i⟩
 show ({(c.goOn 1).k with signed:=c.k.signed+1,awaits:=true,revoked:=false} : CountsV)=_
 rw[w]
theorem qvo{α:Type}{c:Ch}(m:MsgV)(v:Seen α)(G:List α){L R:Int}(t:∀g∈G,0≤(v.h g).amount)(f:c.xs.Perm (G.filterMap v.show))(l:c.loc=L+v.conL G)(o:c.rem=R+v.conR G)(q:0≤c.loc)(w:0≤c.rem)
  (b1:L+(v.on 2).conL G<18446744073709551616) (b2:R+(v.on 2).conR G<18446744073709551616) :
  (((c.shelved m).goOn 2).unawait).xs.Perm (G.filterMap (v.on 2).show)∧(((c.shelved m).goOn 2).unawait).loc=L+(v.on 2).conL G∧(((c.shelved m).goOn 2).unawait).rem=R+(v.on 2).conR G∧(((c.shelved m).goOn 2).unawait).k = {c.k with awaits:=false} ∧ (((c.shelved m).goOn 2).unawait).s=c.s∧(((c.shelved m).goOn 2).unawait).news=c.news∧(((c.shelved m).goOn 2).unawait).last=c.last∧(((c.shelved m).goOn 2).unawait).shelf=qu8 m.hash (65535-m.number) c.shelf:=by
 obtain⟨z,l1,C⟩:=qib (c:=c.shelved m) v 2 G f l o (qex v t f) q w b1 b2
 obtain⟨x,D,y,a1,i⟩:=qk4 (c.shelved m) 2
 refine⟨z,l1,C,?_,D,y,a1,i⟩
 show ({((c.shelved m).goOn 2).k with awaits:=false} : CountsV)=_
 rw[x]
 rfl
theorem zb3{l:List Item}(h:l.Pairwise fun x y=>¬(x.offered=y.offered∧x.h.id=y.h.id)){x y:Item}(q:x∈l)(t:y∈l)(m:x.offered=y.offered∧x.h.id=y.h.id):x=y:=by
 induction l with
 | nil=>cases q
 | cons z l w =>
  obtain⟨o,v⟩:=List.pairwise_cons.1 h
  rcases List.mem_cons.1 q with ex | g
  ·rcases List.mem_cons.1 t with i | f
   ·rw[ex,i]
   ·exact absurd (ex▸m) (o y f)
  ·rcases List.mem_cons.1 t with i | f
   ·exact absurd (i▸⟨m.1.symm,m.2.symm⟩) (o x g)
   ·exact w v g f
theorem q4z{α:Type}{v:Seen α}{ours:Bool}{G:List α}(D:G.Pairwise fun g g'=>¬(v.mine g=v.mine g'∧(v.h g).id=(v.h g').id)):qhw (zb ours (G.filterMap v.show)):=by
 rw[qjj]
 have z:(G.filterMap fun g=>if (0≤v.st g∧v.st g≤8)∧qcs ours (v.mine g) (v.st g)=true then some (⟨v.mine g==ours,v.h g⟩:Item) else none).Pairwise fun x y=>¬(x.offered=y.offered∧x.h.id=y.h.id):=by
  rw[List.pairwise_filterMap]
  refine D.imp ?_
  intro g g' l x f y i
  split at f
  ·injection f with f
   split at i
   ·injection i with i
    subst f
    subst i
    rintro ⟨q,C⟩
    refine l ⟨?_,C⟩
    simp only at q
    revert q
    cases v.mine g<;>cases v.mine g'<;>cases ours<;>simp
   ·cases i
  ·cases f
 refine⟨z.imp fun h e=>h (by rw[e];exact⟨rfl,rfl⟩),?_⟩
 intro x f y i t w
 have E:x.offered=y.offered∧x.h.id=y.h.id:=by
  unfold kl qfk at t w
  cases m:x.offered<;>cases o:y.offered<;>simp[m,o] at t w ⊢<;>omega
 exact zb3 z f i E
def ze2(n:Int)(xs:List Live):Int:=xs.foldl (fun s x=>IntKind.u64.wrap (s+x.h.amount)) n
def Ch.total(c:Ch):Int:=ze2 (IntKind.u64.wrap (c.loc+c.rem)) c.xs
attribute [local go_sem] qsu qsv
end Go.Proofs.YtjpmomdechibmaaGreatDoor
namespace Go.Proofs.YtjpmomdechibmaaGreatDoor
open Go.RowKit
theorem qwo(mine paid:Bool)(s n:Int)(h : -1≤s∧s≤9):conL mine s paid n+conL (!mine) s paid n+(if 0≤s∧s≤8 then n else 0)=0:=by
 have i:∀m:Bool,conL m s paid n=if s = -1 then 0 else if s=9 then (if paid then (if m then -n else n) else 0) else (if m then -n else 0):=fun m=>rfl
 rw[i,i]
 by_cases f:s = -1
 ·rw[if_pos f,if_pos f,if_neg (show ¬(0≤s∧s≤8) by omega)]
  rfl
 ·rw[if_neg f,if_neg f]
  by_cases g:s=9
  ·rw[if_pos g,if_pos g,if_neg (show ¬(0≤s∧s≤8) by omega)]
   cases mine<;>cases paid<;>simp only[Bool.not_true,Bool.not_false,if_true,Bool.false_eq_true,if_false]<;>omega
  ·rw[if_neg g,if_neg g,if_pos (show 0≤s∧s≤8 by omega)]
   cases mine<;>simp only[Bool.not_true,Bool.not_false,if_true,Bool.false_eq_true,if_false]<;>omega
theorem q59(xs:List Live):∀n:Int,ze2 (IntKind.u64.wrap n) xs=IntKind.u64.wrap (n+(xs.map (·.h.amount)).sum):=by
 unfold ze2
 induction xs with
 | nil =>
  intro n
  show _=IntKind.u64.wrap (n+0)
  rw[Int.add_zero]
  rfl
 | cons x xs f =>
  intro n
  rw[List.foldl_cons,qze,f,List.map_cons,List.sum_cons,Int.add_assoc]
theorem q14{α:Type}{c:Ch}(v:Seen α)(G:List α){L R:Int}(m:c.xs.Perm (G.filterMap v.show))(t:c.loc=L+v.conL G)(w:c.rem=R+v.conR G)(o:∀g∈G,-1≤v.st g∧v.st g≤9)(x:0≤L+R∧L+R<18446744073709551616):c.total=L+R:=by
 have i:(c.xs.map (·.h.amount)).sum=((G.filterMap v.show).map (·.h.amount)).sum:=qf8 (m.map _)
 have C:v.conL G+v.conR G+((G.filterMap v.show).map (·.h.amount)).sum=0:=by
  rw[qq1]
  unfold Seen.conL Seen.conR
  clear m t w i
  induction G with
  | nil=>rfl
  | cons g G q =>
   have q:=q (fun y z=>o y (List.mem_cons_of_mem _ z))
   simp only[List.map_cons,List.sum_cons]
   have l:=qwo (v.mine g) (v.paid g) (v.st g) (v.h g).amount (o g (List.mem_cons_self ..))
   by_cases h:0≤v.st g∧v.st g≤8
   ·have f:v.show g=some ⟨v.h g,v.mine g,v.st g,v.paid g&&decide (5≤v.st g)⟩:=by unfold Seen.show qaw;rw[if_pos h]
    rw[if_pos h] at l
    rw[f]
    simp only
    omega
   ·have f:v.show g=none:=by unfold Seen.show qaw;rw[if_neg h]
    rw[if_neg h] at l
    rw[f]
    simp only
    omega
 unfold Ch.total
 rw[q59,i]
 have:c.loc+c.rem+((G.filterMap v.show).map (·.h.amount)).sum=L+R:=by omega
 rw[this]
 exact qeg x.1 (by omega)
structure Gi where
 own:Bool
 h:Htlc
 paid:Bool
 so:Int
 st:Int
 up:Nat
 cov:Bool
 pre:Bool
 um:MsgV
def Gi.key(g:Gi):Bool × Htlc × MsgV:=(g.own,g.h,g.um)
def cnt(p:Gi→Bool)(G:List Gi):Int:=(G.map fun g=>if p g=true then (1:Int) else 0).sum
def amt(p:Gi→Bool)(G:List Gi):Int:=(G.map fun g=>if p g=true then g.h.amount else 0).sum
section
variable {p q:Gi→Bool}{G:List Gi}{g g':Gi}{j:Nat}
theorem qcw(p:Gi→Bool)(G:List Gi)(g:Gi):cnt p (G++[g])=cnt p G+if p g=true then 1 else 0:=qm8 _ G g
theorem q2j(p:Gi→Bool)(f:G[j]? = some g)(g':Gi):cnt p (G.set j g')=cnt p G-(if p g=true then 1 else 0)+if p g'=true then 1 else 0:=qpk _ f
theorem qan(f:G[j]? = some g)(h:p g'=p g):cnt p (G.set j g')=cnt p G:=by rw[q2j p f,h];omega
theorem qi4(p:Gi→Bool)(f:G[j]? = some g)(g':Gi):amt p (G.set j g')=amt p G-(if p g=true then g.h.amount else 0)+if p g'=true then g'.h.amount else 0:=qpk _ f
theorem qwc(p:Gi→Bool)(G:List Gi)(g:Gi):amt p (G++[g])=amt p G+if p g=true then g.h.amount else 0:=qm8 _ G g
theorem qd1{α:Type}{f f':α→Int}{G:List α}(h:∀g∈G,f g=f' g):(G.map f).sum=(G.map f').sum:=by rw[List.map_congr_left h]
theorem qg9{α:Type}{f f':α→Int} : ∀ {G:List α},(∀g∈G,f g≤f' g)→(G.map f).sum≤(G.map f').sum
 | [],_=>Int.le_refl _
 | g::G,h=>by
  have m:=h g (List.mem_cons_self ..)
  have o:=qg9 fun y i=>h y (List.mem_cons_of_mem _ i)
  simp only[List.map_cons,List.sum_cons]
  omega
theorem qej(h:∀g∈G,p g=q g):cnt p G=cnt q G:=qd1 fun g f=>by rw[h g f]
theorem qls(h:∀g∈G,p g=true→q g=true):cnt p G≤cnt q G:=by
 refine qg9 fun g i=> ?_
 by_cases f:p g=true
 ·rw[if_pos f,if_pos (h g i f)];exact Int.le_refl _
 ·rw[if_neg f];split<;>decide
theorem qjb(p:Gi→Bool)(G:List Gi):0≤cnt p G:=by
 have:=qls (p:=fun _=>false) (q:=p) (G:=G) (fun _ _ h=>by cases h)
 have e:cnt (fun _=>false) G=0:=by
  induction G with
  | nil=>rfl
  | cons g G f=>exact(show cnt (fun _=>false) (g::G)=0+cnt (fun _=>false) G from rfl).trans (by rw[f (qls (p:=fun _=>false) (q:=p) (G:=G) (fun _ _ h=>by cases h))];rfl)
 omega
theorem qpb(p:Gi→Bool)(G:List Gi):cnt p G≤G.length:=by
 induction G with
 | nil=>exact Int.le_refl _
 | cons g G f =>
  have e:cnt p (g::G)=(if p g=true then 1 else 0)+cnt p G:=rfl
  rw[e,List.length_cons]
  split<;>omega
theorem qf1(p:Gi→Bool)(f:Gi→Gi)(G:List Gi):cnt p (G.map f)=cnt (fun g=>p (f g)) G:=by
 unfold cnt
 rw[List.map_map]
 rfl
theorem ql8(p:Gi→Bool)(f:Gi→Gi)(G:List Gi):amt p (G.map f)=(G.map fun g=>if p (f g)=true then (f g).h.amount else 0).sum:=by
 unfold amt
 rw[List.map_map]
 rfl
theorem qzv(h:∀g∈G,p g=true→q g=true)(i:g∈G)(v:p g=false)(w:q g=true):cnt p G<cnt q G:=by
 induction G with
 | nil=>cases i
 | cons y G C =>
  have o:cnt p (y::G)=(if p y=true then 1 else 0)+cnt p G:=rfl
  have t:cnt q (y::G)=(if q y=true then 1 else 0)+cnt q G:=rfl
  have D:=qls (p:=p) (q:=q) (G:=G) fun z m=>h z (List.mem_cons_of_mem _ m)
  rcases List.mem_cons.1 i with e | i
  ·subst e
   rw[o,t,v,w]
   simp
   omega
  ·have:=C (fun z m=>h z (List.mem_cons_of_mem _ m)) i
   have x:=h y (List.mem_cons_self ..)
   rw[o,t]
   by_cases f:p y=true
   ·rw[if_pos f,if_pos (x f)];omega
   ·rw[if_neg f];split<;>omega
end
structure Idx(G:List Gi)(p:Gi→Bool)(l:List Nat):Prop where
 nd:l.Nodup
 iff:∀j,j∈l↔∃g,G[j]? = some g∧p g=true
section
variable {p q:Gi→Bool}{G:List Gi}{g g':Gi}{j:Nat}{l:List Nat}
theorem Idx.lt(h:Idx G p l)(i:j∈l):j<G.length:=by
 obtain⟨g,f,-⟩:=(h.iff j).1 i
 exact(List.getElem?_eq_some_iff.1 f).1
theorem Idx.yes(h:Idx G p l)(m:j∈l)(i:G[j]? = some g):p g=true:=by
 obtain⟨g',f,o⟩:=(h.iff j).1 m
 rw[i] at f
 injection f with e
 rw[e]
 exact o
theorem Idx.map(f:Gi→Gi)(h:Idx G q l)(o:∀g∈G,p (f g)=q g):Idx (G.map f) p l:=by
 refine⟨h.nd,fun j=>(h.iff j).trans ⟨?_,?_⟩⟩
 ·rintro ⟨g,m,v⟩
  exact⟨f g,by rw[List.getElem?_map,m];rfl,by rw[o g (List.mem_of_getElem? m)];exact v⟩
 ·rintro ⟨y,i,t⟩
  rw[List.getElem?_map] at i
  cases m:G[j]? with
  | none=>rw[m] at i;cases i
  | some g =>
   rw[m] at i
   injection i with i
   subst i
   exact⟨g,rfl,by rw[←o g (List.mem_of_getElem? m)];exact t⟩
theorem Idx.none(h:∀g∈G,p g=false):Idx G p []:=by
 refine⟨List.nodup_nil,fun j=>⟨fun h=>(by cases h),?_⟩⟩
 rintro ⟨g,i,f⟩
 rw[h g (List.mem_of_getElem? i)] at f
 cases f
theorem Idx.congr(h:Idx G q l)(f:∀g∈G,p g=q g):Idx G p l:=by
 have:=h.map (p:=p) id f
 rwa [List.map_id] at this
theorem Idx.snocN(h:Idx G p l)(o:p g=false):Idx (G++[g]) p l:=by
 refine⟨h.nd,fun j=>(h.iff j).trans ⟨?_,?_⟩⟩
 ·rintro ⟨y,f,i⟩
  exact⟨y,by rw[List.getElem?_append_left (List.getElem?_eq_some_iff.1 f).1];exact f,i⟩
 ·rintro ⟨y,f,i⟩
  by_cases m:j<G.length
  ·rw[List.getElem?_append_left m] at f
   exact⟨y,f,i⟩
  ·rw[List.getElem?_append_right (by omega)] at f
   have:=List.mem_of_getElem? f
   rw[List.mem_singleton.1 this,o] at i
   cases i
theorem Idx.snocY(h:Idx G p l)(w:p g=true):Idx (G++[g]) p (l++[G.length]):=by
 refine⟨?_,fun j=>⟨?_,?_⟩⟩
 ·rw[List.nodup_append]
  refine⟨h.nd,by simp,?_⟩
  intro a t b v
  have:=h.lt t
  rw[List.mem_singleton.1 v]
  omega
 ·intro f
  rcases List.mem_append.1 f with f | f
  ·obtain⟨y,i,o⟩:=(h.iff j).1 f
   exact⟨y,by rw[List.getElem?_append_left (List.getElem?_eq_some_iff.1 i).1];exact i,o⟩
  ·rw[List.mem_singleton.1 f]
   exact⟨g,by simp,w⟩
 ·rintro ⟨y,i,o⟩
  by_cases f:j<G.length
  ·rw[List.getElem?_append_left f] at i
   exact List.mem_append_left _ ((h.iff j).2 ⟨y,i,o⟩)
  ·have m:=(List.getElem?_eq_some_iff.1 i).1
   rw[List.length_append,List.length_singleton] at m
   exact List.mem_append_right _ (List.mem_singleton.2 (by omega))
theorem qfd{G:List Gi}{j:Nat}{g g':Gi}(m:G[j]? = some g)(k:Nat):(G.set j g')[k]? = if k=j then some g' else G[k]? := by
 have i:=(List.getElem?_eq_some_iff.1 m).1
 rw[List.getElem?_set]
 by_cases f:j=k
 ·rw[if_pos f,if_pos f.symm,if_pos i]
 ·rw[if_neg f,if_neg (fun e=>f e.symm)]
theorem Idx.setS(h:Idx G p l)(m:G[j]? = some g)(t:p g'=p g):Idx (G.set j g') p l:=by
 refine⟨h.nd,fun k=>(h.iff k).trans ?_⟩
 rw[qfd m]
 by_cases o:k=j
 ·subst o
  rw[if_pos rfl,m]
  constructor
  ·rintro ⟨y,f,i⟩
   injection f with f
   subst f
   exact⟨g',rfl,t.trans i⟩
  ·rintro ⟨y,f,i⟩
   injection f with f
   subst f
   exact⟨g,rfl,t.symm.trans i⟩
 ·rw[if_neg o]
theorem Idx.setY(h:Idx G p l)(m:G[j]? = some g)(i:p g=false)(x:p g'=true):Idx (G.set j g') p (l++[j]):=by
 have w:j∉l:=fun v=>by rw[h.yes v m] at i;cases i
 refine⟨?_,fun k=> ?_⟩
 ·rw[List.nodup_append]
  refine⟨h.nd,by simp,?_⟩
  intro a o b t
  rw[List.mem_singleton.1 t]
  rintro rfl
  exact w o
 ·rw[qfd m,List.mem_append,List.mem_singleton,h.iff k]
  by_cases f:k=j
  ·subst f
   rw[if_pos rfl]
   exact⟨fun _=>⟨g',rfl,x⟩,fun _=> .inr rfl⟩
  ·rw[if_neg f]
   exact⟨fun e=>e.resolve_right f,.inl⟩
theorem Idx.setN(h:Idx G p (j::l))(v:G[j]? = some g)(x:p g'=false):Idx (G.set j g') p l:=by
 obtain⟨w,t⟩:=List.nodup_cons.1 h.nd
 refine⟨t,fun k=> ?_⟩
 have f:=h.iff k
 rw[List.mem_cons] at f
 rw[qfd v]
 by_cases i:k=j
 ·subst i
  rw[if_pos rfl]
  refine⟨fun e=>absurd e w,?_⟩
  rintro ⟨y,m,o⟩
  injection m with m
  subst m
  rw[x] at o
  cases o
 ·rw[if_neg i]
  exact⟨fun e=>f.1 (.inr e),fun e=>(f.2 e).resolve_left i⟩
theorem qti:∀(n:Nat) (l:List Nat),l.Nodup→(∀j∈l,j<n)→l.length≤n
 | 0,[],_,_=>Nat.le_refl _
 | 0,j::_,_,h=>absurd (h j (List.mem_cons_self ..)) (Nat.not_lt_zero _)
 | n+1,l,i,h=>by
  have f:=qti n (l.erase n) (i.erase n) fun j m=>by
   have:=h j (List.mem_of_mem_erase m)
   have t:j≠n:=fun e=>by
    subst e
    exact(List.Nodup.not_mem_erase i) m
   omega
  by_cases o:n∈l
  ·rw[List.length_erase_of_mem o] at f
   omega
  ·rw[List.erase_of_not_mem o] at f
   omega
theorem Idx.len(h:Idx G p l):l.length≤G.length:=qti _ l h.nd fun _ f=>h.lt f
end
def Ids(G:List Gi)(s:Bool):Int→List Nat→Int→Prop
 | n,[],m=>n=m
 | n,j::l,m=>∃g,G[j]? = some g∧(if g.own=s then g.h.id=n∧Ids G s (n+1) l m else Ids G s n l m)
section
variable {G G':List Gi}{s:Bool}{g:Gi}{j:Nat}
theorem Ids.app{m k:Int}{l2:List Nat} : ∀ {l:List Nat} {n:Int},Ids G s n l m→Ids G s m l2 k→Ids G s n (l++l2) k
 | [],_,f,i=>by cases f;exact i
 | _::_,_,⟨g,t,f⟩,i=>by
  refine⟨g,t,?_⟩
  by_cases o:g.own=s
  ·rw[if_pos o] at f ⊢
   exact⟨f.1,f.2.app i⟩
  ·rw[if_neg o] at f ⊢
   exact f.app i
theorem Ids.congr{m:Int} : ∀ {l:List Nat} {n:Int},Ids G s n l m→(∀j∈l,(G'[j]?).map Gi.key=(G[j]?).map Gi.key)→Ids G' s n l m
 | [],_,h,_=>h
 | j::_,_,⟨g,z,h⟩,v=>by
  have f:=v j (List.mem_cons_self ..)
  rw[z] at f
  cases o:G'[j]? with
  | none=>rw[o] at f;cases f
  | some g' =>
   rw[o] at f
   injection f with f
   have x:g'.own=g.own:=congrArg (·.1) f
   have y:g'.h=g.h:=congrArg (·.2.1) f
   refine⟨g',o,?_⟩
   rw[x,y]
   by_cases w:g.own=s
   ·rw[if_pos w] at h ⊢
    exact⟨h.1,h.2.congr fun i t=>v i (List.mem_cons_of_mem _ t)⟩
   ·rw[if_neg w] at h ⊢
    exact h.congr fun i t=>v i (List.mem_cons_of_mem _ t)
theorem Ids.one{n:Int}(f:G[j]? = some g)(m:g.own=s)(i:g.h.id=n):Ids G s n [j] (n+1):=⟨g,f,by rw[if_pos m];exact⟨i,rfl⟩⟩
theorem Ids.other{n:Int}(f:G[j]? = some g)(i:g.own≠s):Ids G s n [j] n:=⟨g,f,by rw[if_neg i];rfl⟩
theorem Ids.rng{m:Int} : ∀ {l:List Nat} {n:Int},Ids G s n l m→n≤m∧∀j∈l,∀g,G[j]? = some g→g.own=s→n≤g.h.id∧g.h.id<m
 | [],_,h=>⟨Int.le_of_eq h,fun _ h=>(by cases h)⟩
 | j::l,n,⟨g,z,h⟩=>by
  by_cases w:g.own=s
  ·rw[if_pos w] at h
   obtain⟨x,v⟩:=h.2.rng
   refine⟨by omega,fun i o y f t=> ?_⟩
   rcases List.mem_cons.1 o with e | o
   ·subst e
    rw[z] at f
    injection f with f
    subst f
    omega
   ·have:=v i o y f t
    omega
  ·rw[if_neg w] at h
   obtain⟨x,v⟩:=h.rng
   refine⟨x,fun i o y f t=> ?_⟩
   rcases List.mem_cons.1 o with e | o
   ·subst e
    rw[z] at f
    injection f with f
    subst f
    exact absurd t w
   ·exact v i o y f t
end
def qo2(ch:Int)(h:Htlc):MsgV:=⟨3,ch,h.id,h.amount,h.hash.toList,h.expiry,0⟩
def qo6(s:Bool)(ch:Int)(g:Gi):MsgV:=if g.own=s then qo2 ch g.h else g.um
noncomputable def Ch.sgnOf(c:Ch):MsgV:=⟨6,c.s.ch,0,0,z8 false c.s.key c.s.ch c.k.signed c.loc c.rem c.xs,0,c.k.signed⟩
noncomputable def enM(s:Bool)(c:Ch)(G:List Gi):En→MsgV
 | .upd j=>match G[j]? with | some g=>qo6 s c.s.ch g | none=>MsgV.zero
 | .sgn=>c.sgnOf
 | .rev=>c.revocation
 | .shut=>qbx c.s.ch
noncomputable def msE(s:Bool)(c:Ch)(G:List Gi)(e:List En):List MsgV:=e.map (enM s c G)
noncomputable def msU(s:Bool)(c:Ch)(G:List Gi)(l:List Nat):List MsgV:=l.map fun j=>enM s c G (.upd j)
def ups:List En→List Nat
 | []=>[]
 | .upd j::es=>j::ups es
 | .sgn::es=>ups es
 | .rev::es=>ups es
 | .shut::es=>ups es
def qbb(G:List Gi):List En→Prop
 | []=>True
 | .upd j::es=>(∀g,G[j]? = some g→g.cov=qas (qk es)∧g.pre=qbq (qk es))∧qbb G es
 | .sgn::es=>qbb G es
 | .rev::es=>qbb G es
 | .shut::es=>qbb G es
def qbe(G:List Gi)(s said:Bool):Bool→List En→Prop
 | h,[]=>said=h
 | h,.upd j::es=>(h=true→∀g,G[j]? = some g→g.own≠s)∧qbe G s said h es
 | h,.sgn::es=>qbe G s said h es
 | h,.rev::es=>qbe G s said h es
 | h,.shut::es=>h=false∧qbe G s said true es
def qs(s:Bool):Seen Gi:=⟨fun g=>g.own==s,fun g=>if g.own=s then g.so else g.st,Gi.h,Gi.paid⟩
def Gi.it(g:Gi)(s:Bool)(i f:Nat):It:=(g.so,g.st,g.up,g.cov,if g.own=s then i else f,if g.own=s then f else i)
def oGe(s:Bool)(k:Int)(g:Gi):Bool:=g.own==s&&decide (k≤g.so)
def pGe(s:Bool)(k:Int)(g:Gi):Bool:=g.own==s&&decide (k≤g.st)
def qbi(s:Bool)(g:Gi):Bool:=g.own==s&&(decide (0≤g.so)&&decide (g.so≤8))
def Gi.pend(s:Bool)(g:Gi):Bool:=(g.own==s&&g.up==1) || (g.own == !s&&g.up==2)
def Gi.unsg(s:Bool)(g:Gi):Bool:=(g.own==s&&g.so==0) || (g.own == !s&&g.st==5)
def Gi.covd(s:Bool)(g:Gi):Bool:=(g.own==s&&g.so==1) || (g.own == !s&&g.st==6)
def Gi.moved(s:Bool)(g:Gi):Bool:=(g.own==s&&(g.so==1 || g.so==8)) || (g.own == !s&&(g.st==3 || g.st==6))
def qai(s:Bool)(g:Gi):Bool:=g.own==s&&(g.up==1&&g.pre)
structure Kon where
 S:Bool→SetupV
 ch:Int
 cap:Int
structure Kon.Ok(K:Kon):Prop where
 ch:∀s,(K.S s).ch=K.ch
 chb:0≤K.ch∧K.ch<4294967296
 key:∀s,(K.S s).key=(K.S (!s)).peer
 keyb:∀s,(K.S s).key.size≤64
 ours:∀s,0≤(K.S s).ours
 sum:∀s,(K.S s).ours+(K.S (!s)).ours=K.cap
 cap:K.cap≤1125899906842624
 capS:∀s,(K.S s).cap=K.cap
 seed:∀s,(K.S s).seed.length=32∧qa6 (K.S s).seed
def zdu(ch:Int)(g:Gi):Prop :=
 (∃p,g.um=(qfp g.h.id p).on ch∧p.length=32∧qa6 p∧qg7 p g.h.hash.toList=true∧g.paid=true)∨(∃r,g.um=(qcq g.h.id r).on ch∧0≤r∧r≤65535∧g.paid=false)
structure GiOk(ch:Int)(g:Gi):Prop where
 id:0≤g.h.id∧g.h.id<1152921504606846976
 amount:1≤g.h.amount∧g.h.amount≤1125899906842624
 hash:qa6 g.h.hash.toList
 expiry:1≤g.h.expiry∧g.h.expiry≤1073741824
 um:g.st=5∨g.st=6→zdu ch g
structure EndI(K:Kon)(s:Bool)(c:Ch)(G:List Gi)(nu:List Nat):Prop where
 set:c.s=K.S s
 perm:c.xs.Perm (G.filterMap (qs s).show)
 loc:c.loc=(K.S s).ours+(qs s).conL G
 rem:c.rem=(K.S (!s)).ours+(qs s).conR G
 pos:0≤c.loc∧0≤c.rem
 nOwn:c.k.nextOwn=cnt (oGe s 0) G
 nTh:c.k.nextTheirs=cnt (pGe (!s) 0) G
 low:∀g∈G,g.own=s→1≤g.so→g.h.id<cnt (oGe s 1) G
 nuS:Idx G (Gi.unsg s) nu
 nuI:Ids G s (cnt (oGe s 1) G) nu c.k.nextOwn
 news:c.news=msU s c G nu
 many:cnt (qbi s) G≤8
 shelf:qpr (K.S (!s)).seed c.shelf
 nums:0≤c.k.heard∧(0≤c.k.signed∧c.k.signed≤65535)∧(c.k.awaits=true→1≤c.k.signed)
structure Dir(n:Nat)(s:Bool)(c d:Ch)(eo ei:List En)(G:List Gi)(la:List Nat):Prop where
 w9:qk eo≠9
 xor:qas (qk eo)=true→qbq (qk ei)=false
 sig:c.k.signed=d.k.heard+if qas (qk eo)=true then 1 else 0
 aw:c.k.awaits=(qas (qk eo) || qbq (qk ei))
 rv3:qk eo=3→c.k.revoked=true
 rv4:qk eo=4→c.k.revoked=false
 upd:Idx G (Gi.pend s) (ups eo)
 along:qbb G eo
 ids:Ids G s d.k.nextTheirs (ups eo) c.k.nextOwn
 laS:qas (qk eo)=true→Idx G (Gi.covd s) la∧Ids G s (cnt (pGe s 1) G) la (cnt (oGe s 1) G)∧c.last=msU s c G la++[c.sgnOf]
 last:c.last.length≤n
 shut:qbe G s c.k.shutSaid d.k.shutHeard eo
 m1:qbq (qk eo)=true→amt (qai s) G≤d.rem
 ex:qas (qk eo)=true→∃g∈G,Gi.moved s g=true
def Gi.pk(g:Gi):Bool × Int × Bool:=(g.own,g.h.id,decide (0≤g.so))
def Apt(a b:Bool × Int × Bool):Prop:=¬(a.2.2=true∧b.2.2=true∧a.1=b.1∧a.2.1=b.2.1)
structure Pt where
 s:Bool
 c:Ch
 d:Ch
 eo:List En
 ei:List En
 G:List Gi
 la:List Nat
 nu:List Nat
 lb:List Nat
 nv:List Nat
structure Inv(K:Kon)(n:Nat)(P:Pt):Prop where
 ea:EndI K P.s P.c P.G P.nu
 eb:EndI K (!P.s) P.d P.G P.nv
 ab:Dir n P.s P.c P.d P.eo P.ei P.G P.la
 ba:Dir n (!P.s) P.d P.c P.ei P.eo P.G P.lb
 it:∀g∈P.G,g.it P.s (qk P.eo) (qk P.ei)∈qav
 ok:∀g∈P.G,GiOk K.ch g
 pw:(P.G.map Gi.pk).Pairwise Apt
 few:P.G.length≤n
def Pt.flip(P:Pt):Pt:=⟨!P.s,P.d,P.c,P.ei,P.eo,P.G,P.lb,P.nv,P.la,P.nu⟩
theorem za(a s:Bool):a=s∨a = !s:=by cases a<;>cases s<;>simp
theorem qbv{a s:Bool}(h:a = !s):¬a=s:=by subst h;cases s<;>decide
theorem qg6{a s:Bool}(h:a=s):¬a = !s:=by subst h;cases a<;>decide
theorem qdd{g:Gi}{s:Bool}(h:g.own=s)(i f:Nat):g.it s i f=(g.so,g.st,g.up,g.cov,i,f):=by unfold Gi.it;rw[if_pos h,if_pos h]
theorem qdj{g:Gi}{s:Bool}(h:g.own = !s)(i f:Nat):g.it s i f=(g.so,g.st,g.up,g.cov,f,i):=by unfold Gi.it;rw[if_neg (qbv h),if_neg (qbv h)]
theorem q2r(g:Gi)(s:Bool)(i f:Nat):g.it (!s) f i=g.it s i f:=by
 rcases za g.own s with h | h
 ·rw[qdd h,qdj (by rw[h,Bool.not_not])]
 ·rw[qdj h,qdd h]
theorem Inv.flip{K:Kon}{n:Nat}{P:Pt}(h:Inv K n P):Inv K n P.flip :=
 ⟨h.eb,by rw[show (!P.flip.s)=P.s from Bool.not_not _];exact h.ea,h.ba,by rw[show (!P.flip.s)=P.s from Bool.not_not _];exact h.ab,fun g f=>by rw[show g.it P.flip.s (qk P.flip.eo) (qk P.flip.ei)=_ from q2r g P.s (qk P.eo) (qk P.ei)];exact h.it g f,h.ok,h.pw,h.few⟩
section
variable {K:Kon}{n m:Nat}{P:Pt}
theorem Dir.mono{s:Bool}{c d:Ch}{eo ei:List En}{G:List Gi}{la:List Nat}(h:Dir n s c d eo ei G la)(f:n≤m):Dir m s c d eo ei G la :=
 ⟨h.w9,h.xor,h.sig,h.aw,h.rv3,h.rv4,h.upd,h.along,h.ids,h.laS,Nat.le_trans h.last f,h.shut,h.m1,h.ex⟩
theorem Inv.mono(h:Inv K n P)(f:n≤m):Inv K m P:=⟨h.ea,h.eb,h.ab.mono f,h.ba.mono f,h.it,h.ok,h.pw,Nat.le_trans h.few f⟩
end
theorem qto:∀x∈qav,(-1≤x.1∧x.1≤9)∧(-1≤x.2.1∧x.2.1≤9)∧(x.1 = -1→x.2.1 = -1∧x.2.2.1=0)∧(x.2.1 = -1→x.1 = -1∨x.1=0∨x.1=1)∧x.2.2.1≤2:=by decide +kernel
theorem q1d:∀g f:Fin 5,(qas g.val=true→qbq f.val=false)→(qas f.val=true→qbq g.val=false)→(-1,-1,0,false,g.val,f.val)∈qav:=by decide +kernel
theorem qgo{es:List En}(h:qk (.sgn::es)≠9):(qk es=0∧qk (.sgn::es)=1)∨(qk es=2∧qk (.sgn::es)=3):=by
 have e:qk (.sgn::es)=if qk es=0 then 1 else if qk es=2 then 3 else 9:=rfl
 by_cases f:qk es=0
 ·exact .inl ⟨f,by rw[e,if_pos f]⟩
 ·by_cases g:qk es=2
  ·exact .inr ⟨g,by rw[e,if_neg f,if_pos g]⟩
  ·exact absurd (by rw[e,if_neg f,if_neg g]) h
theorem qgn{es:List En}(h:qk (.rev::es)≠9):(qk es=0∧qk (.rev::es)=2)∨(qk es=1∧qk (.rev::es)=4):=by
 have e:qk (.rev::es)=if qk es=0 then 2 else if qk es=1 then 4 else 9:=rfl
 by_cases f:qk es=0
 ·exact .inl ⟨f,by rw[e,if_pos f]⟩
 ·by_cases g:qk es=1
  ·exact .inr ⟨g,by rw[e,if_neg f,if_pos g]⟩
  ·exact absurd (by rw[e,if_neg f,if_neg g]) h
theorem qgb:∀e:List En,qk e≠9→qk e≤4
 | [],_=>by decide
 | .upd _::es,h=>qgb es h
 | .shut::es,h=>qgb es h
 | .sgn::es,h=>by rcases qgo h with e | e<;>omega
 | .rev::es,h=>by rcases qgn h with e | e<;>omega
theorem qgm:∀e f:List En,ups (e++f)=ups e++ups f
 | [],_=>rfl
 | .upd j::es,f=>by show j::ups (es++f)=_;rw[qgm es f];rfl
 | .sgn::es,f=>qgm es f
 | .rev::es,f=>qgm es f
 | .shut::es,f=>qgm es f
theorem qpg:∀e:List En,qk e≠9→En.sgn∈e→qas (qk e)=true
 | [],_,h=>by cases h
 | .upd _::es,f,h=>qpg es f ((List.mem_cons.1 h).resolve_left (by intro e;cases e))
 | .shut::es,f,h=>qpg es f ((List.mem_cons.1 h).resolve_left (by intro e;cases e))
 | .sgn::es,f,_=>by
  rcases qgo f with ⟨-,e⟩ | ⟨-,e⟩<;>rw[e]<;>rfl
 | .rev::es,f,h=>by
  have i:=(List.mem_cons.1 h).resolve_left (by intro e;cases e)
  rcases qgn f with ⟨g,e⟩ | ⟨-,e⟩
  ·have:=qpg es (by omega) i
   rw[g] at this
   cases this
  ·rw[e];rfl
theorem qmo:∀e:List En,qk e≠9→En.rev∈e→qbq (qk e)=true
 | [],_,h=>by cases h
 | .upd _::es,f,h=>qmo es f ((List.mem_cons.1 h).resolve_left (by intro e;cases e))
 | .shut::es,f,h=>qmo es f ((List.mem_cons.1 h).resolve_left (by intro e;cases e))
 | .rev::es,f,_=>by
  rcases qgn f with ⟨-,e⟩ | ⟨-,e⟩<;>rw[e]<;>rfl
 | .sgn::es,f,h=>by
  have i:=(List.mem_cons.1 h).resolve_left (by intro e;cases e)
  rcases qgo f with ⟨g,e⟩ | ⟨-,e⟩
  ·have:=qmo es (by omega) i
   rw[g] at this
   cases this
  ·rw[e];rfl
theorem qjd{s:Bool}{c:Ch}{G:List Gi}{j:Nat}{g:Gi}(f:G[j]? = some g):enM s c G (.upd j)=qo6 s c.s.ch g:=by
 unfold enM
 simp only[f]
theorem q7g{s:Bool}{c:Ch}{G:List Gi}{j:Nat}(f:G[j]? = none):enM s c G (.upd j)=MsgV.zero:=by
 unfold enM
 simp only[f]
theorem q2o{s:Bool}{c c':Ch}{G G':List Gi}{j:Nat}(q:c'.s=c.s)(h:(G'[j]?).map Gi.key=(G[j]?).map Gi.key):enM s c' G' (.upd j)=enM s c G (.upd j):=by
 cases e:G[j]? with
 | none =>
  rw[e] at h
  cases f:G'[j]? with
  | none=>rw[q7g e,q7g f]
  | some g'=>rw[f] at h;cases h
 | some g =>
  rw[e] at h
  cases f:G'[j]? with
  | none=>rw[f] at h;cases h
  | some g' =>
   rw[f] at h
   injection h with h
   have i:g'.own=g.own:=congrArg (·.1) h
   have l:g'.h=g.h:=congrArg (·.2.1) h
   have o:g'.um=g.um:=congrArg (·.2.2) h
   rw[qjd e,qjd f]
   unfold qo6
   rw[i,l,o,q]
theorem qbz{s:Bool}{c c':Ch}{G G':List Gi}{l:List Nat}(g:c'.s=c.s)(h:∀j∈l,(G'[j]?).map Gi.key=(G[j]?).map Gi.key):msU s c' G' l=msU s c G l :=
 List.map_congr_left fun j f=>q2o g (h j f)
theorem qk8{j:Nat} : ∀e:List En,En.upd j∈e→j∈ups e
 | [],h=>by cases h
 | .upd i::es,h=>by
  rcases List.mem_cons.1 h with e | h
  ·injection e with e
   subst e
   exact List.mem_cons_self ..
  ·exact List.mem_cons_of_mem _ (qk8 es h)
 | .sgn::es,h=>qk8 es ((List.mem_cons.1 h).resolve_left (by intro e;cases e))
 | .rev::es,h=>qk8 es ((List.mem_cons.1 h).resolve_left (by intro e;cases e))
 | .shut::es,h=>qk8 es ((List.mem_cons.1 h).resolve_left (by intro e;cases e))
theorem qc9{s:Bool}{c c':Ch}{G G':List Gi}{e:List En}(g:qk e≠9)(i:c'.s=c.s)(h:∀j∈ups e,(G'[j]?).map Gi.key=(G[j]?).map Gi.key)
  (l:qas (qk e)=true→c'.sgnOf=c.sgnOf) (o:qbq (qk e)=true→c'.revocation=c.revocation):msE s c' G' e=msE s c G e:=by
 refine List.map_congr_left fun x f=> ?_
 cases x with
 | upd j=>exact q2o i (h j (qk8 e f))
 | sgn=>exact l (qpg e g f)
 | rev=>exact o (qmo e g f)
 | shut=>show qbx c'.s.ch=qbx c.s.ch;rw[i]
theorem qiu{c c':Ch}(g:c'.s=c.s)(f:c'.k.signed=c.k.signed)(h:z8 false c.s.key c.s.ch c.k.signed c'.loc c'.rem c'.xs=z8 false c.s.key c.s.ch c.k.signed c.loc c.rem c.xs):c'.sgnOf=c.sgnOf:=by
 unfold Ch.sgnOf
 rw[g,f,h]
theorem qiq{c c':Ch}(g:c'.s=c.s)(f:c'.k.heard=c.k.heard):c'.revocation=c.revocation:=by
 unfold Ch.revocation Ch.secret
 rw[g,f]
theorem qmh{f:Gi→Gi}(h:∀g,(f g).key=g.key)(G:List Gi)(j:Nat):((G.map f)[j]?).map Gi.key=(G[j]?).map Gi.key:=by
 rw[List.getElem?_map,Option.map_map]
 cases G[j]? with
 | none=>rfl
 | some g=>exact congrArg some (h g)
theorem qmi{G:List Gi}{j:Nat}{g g':Gi}(i:G[j]? = some g){k:Nat}(h:k≠j∨g'.key=g.key):((G.set j g')[k]?).map Gi.key=(G[k]?).map Gi.key:=by
 rw[qfd i]
 by_cases f:k=j
 ·rw[if_pos f,f,i]
  exact congrArg some (h.resolve_left (fun e=>e f))
 ·rw[if_neg f]
theorem qd8{G:List Gi}{g:Gi}{k:Nat}(h:k<G.length):((G++[g])[k]?).map Gi.key=(G[k]?).map Gi.key:=by
 rw[List.getElem?_append_left h]
theorem q08{G:List Gi}{j:Nat}{g g':Gi}(i:G[j]? = some g)(h:g'.pk=g.pk):(G.set j g').map Gi.pk=G.map Gi.pk:=by
 rw[List.map_set,h]
 apply List.ext_getElem?
 intro k
 rw[List.getElem?_set]
 by_cases l:j=k
 ·subst l
  have f:=(List.getElem?_eq_some_iff.1 i).1
  rw[if_pos rfl,List.length_map,if_pos f,List.getElem?_map,i]
  rfl
 ·rw[if_neg l]
theorem q07{G:List Gi}{f:Gi→Gi}(h:∀g∈G,(f g).pk=g.pk):(G.map f).map Gi.pk=G.map Gi.pk:=by
 rw[List.map_map]
 exact List.map_congr_left h
theorem qbb.snoc{G:List Gi}{j:Nat}{x:En}(f:x = .upd j∨x = .shut)(l:x = .upd j→∀g,G[j]? = some g→g.cov=false∧g.pre=false):∀e:List En,qbb G e→qbb G (e++[x])
 | [],_=>by
  rcases f with rfl | rfl
  ·exact⟨l rfl,trivial⟩
  ·trivial
 | .upd i::es,h=>by
  refine⟨fun g o=> ?_,qbb.snoc f l es h.2⟩
  have q:qk (es++[x])=qk es:=by
   rcases f with rfl | rfl
   ·exact qiy es j
   ·exact qrw es
  show g.cov=qas (qk (es++[x]))∧g.pre=qbq (qk (es++[x]))
  rw[q]
  exact h.1 g o
 | .sgn::es,h=>qbb.snoc f l es h
 | .rev::es,h=>qbb.snoc f l es h
 | .shut::es,h=>qbb.snoc f l es h
theorem qbb.congr{G G':List Gi} : ∀ {e:List En},(∀j∈ups e,∀g',G'[j]? = some g'→∃g,G[j]? = some g∧g'.cov=g.cov∧g'.pre=g.pre)→qbb G e→qbb G' e
 | [],_,_=>trivial
 | .upd i::es,f,h=>by
  refine⟨fun g' l=> ?_,qbb.congr (fun j v=>f j (List.mem_cons_of_mem _ v)) h.2⟩
  obtain⟨g,t,o,q⟩:=f i (List.mem_cons_self ..) g' l
  rw[o,q]
  exact h.1 g t
 | .sgn::es,f,h=>qbb.congr (e:=es) f h
 | .rev::es,f,h=>qbb.congr (e:=es) f h
 | .shut::es,f,h=>qbb.congr (e:=es) f h
theorem qbe.congr{G G':List Gi}{s said:Bool} : ∀ {e:List En} {h:Bool},(∀j∈ups e,(G'[j]?).map Gi.key=(G[j]?).map Gi.key)→qbe G s said h e→qbe G' s said h e
 | [],_,_,h=>h
 | .upd i::es,_,f,h=>by
  refine⟨fun e g' q=> ?_,qbe.congr (fun j v=>f j (List.mem_cons_of_mem _ v)) h.2⟩
  have l:=f i (List.mem_cons_self ..)
  rw[q] at l
  cases o:G[i]? with
  | none=>rw[o] at l;cases l
  | some g =>
   rw[o] at l
   injection l with l
   have t:g'.own=g.own:=congrArg (·.1) l
   rw[t]
   exact h.1 e g o
 | .sgn::es,_,f,h=>qbe.congr (e:=es) f h
 | .rev::es,_,f,h=>qbe.congr (e:=es) f h
 | .shut::es,_,f,h=>⟨h.1,qbe.congr (e:=es) f h.2⟩
theorem qbe.snoc{G:List Gi}{s said:Bool}{x:En}(o:x ≠ .shut)(l:∀j g,x = .upd j→G[j]? = some g→g.own=s→said=false):∀ {e:List En} {h:Bool},qbe G s said h e→qbe G s said h (e++[x])
 | [],h,f=>by
  cases x with
  | upd j=>exact⟨fun e g q t=>by rw[show said=h from f,e] at l;exact absurd (l j g rfl q t) (by decide),f⟩
  | sgn=>exact f
  | rev=>exact f
  | shut=>exact absurd rfl o
 | .upd i::es,_,f=>⟨f.1,qbe.snoc o l f.2⟩
 | .sgn::es,_,f=>qbe.snoc (e:=es) o l f
 | .rev::es,_,f=>qbe.snoc (e:=es) o l f
 | .shut::es,_,f=>⟨f.1,qbe.snoc (e:=es) o l f.2⟩
theorem qbe.shut{G:List Gi}{s:Bool} : ∀ {e:List En} {h:Bool},qbe G s false h e→qbe G s true h (e++[.shut])
 | [],_,f=>⟨f.symm,rfl⟩
 | .upd i::es,_,f=>⟨f.1,qbe.shut f.2⟩
 | .sgn::es,_,f=>qbe.shut (e:=es) f
 | .rev::es,_,f=>qbe.shut (e:=es) f
 | .shut::es,_,f=>⟨f.1,qbe.shut (e:=es) f.2⟩
end Go.Proofs.YtjpmomdechibmaaGreatDoor
