/-
  Law 13: each end's Base, Live, Counts, Closed, by the end's number; '==' of offers; what is found in the other end's list.
-/
import Derived.Test.YtjpmomdechibmaaGreatDoorMee
import Derived.Test.YtjpmomdechibmaaGreatDoorMeg
set_option linter.unusedVariables false
set_option linter.unusedSimpArgs false
namespace Go.Proofs.YtjpmomdechibmaaGreatDoor
open Go.RowKit
def qs6:List Leaf:= .int .u64 :: .int .u64::(List.replicate 32 (.int .u8)++[.int .i64])
theorem qw9{x:Htlc}(h:HtlcOk x):qdh qs6 (q9 x):=by
 have e:∀ {n:Int},0≤n∧n≤18446744073709551615→(Lit.int .u64 n).wf=true:=fun h=>by
  simp[Lit.wf,IntKind.min,IntKind.max,IntKind.signed,IntKind.bits];omega
 have f:(Lit.int .i64 x.expiry).wf=true:=by
  have:=h.expiry
  simp[Lit.wf,IntKind.min,IntKind.max,IntKind.signed,IntKind.bits];omega
 refine⟨_,_,rfl,⟨_,rfl,e h.id⟩,_,_,rfl,⟨_,rfl,e h.amount⟩,qdh.app ?_ ⟨_,_,rfl,⟨_,rfl,f⟩,rfl⟩⟩
 have:=qlv .u8 x.hash.toList fun n i=>q3f (h.hash n i)
 simpa using this
theorem Tryz.flatHtl:qcv Tryz.prog 5 79=some qs6:=by kernel_rfl
theorem Tryz.eqHtl:eqB Tryz.prog 5 79=true:=by kernel_rfl
theorem Tryz.aggHtl:qhx Tryz.prog 79=true:=by kernel_rfl
def eqHtl(x y:Value):Sem Value:=binOp .eql 79 x y
theorem qww(x y:Value):binOp .eql 79 x y=eqHtl x y:=rfl
noncomputable def q0i(x y:Htlc):Bool:=@decide (q9 x=q9 y) (Classical.propDecidable _)
theorem zd3{x y:Htlc}(f:HtlcOk x)(i:HtlcOk y)(w:World):(eqHtl (.agg (q9 x).toArray) (.agg (q9 y).toArray)).run Tryz.prog w = .ok (.bool (q0i x y)) w :=
 qjt 5 (by decide) Tryz.eqHtl Tryz.flatHtl Tryz.aggHtl (qw9 f) (qw9 i) _ (by unfold q0i;exact @decide_eq_true_iff _ (Classical.propDecidable _)) w
noncomputable def qlu(f:List Live)(x:Live):Bool:=f.any fun y=>q0i y.h x.h&&(y.own != x.own)
theorem qz9{f:List Live}{j:Nat}{y:Live}(x:Live)(i:f[j]? = some y):qlu (f.take (j+1)) x=(qlu (f.take j) x || (q0i y.h x.h&&(y.own != x.own))):=by
 unfold qlu
 rw[List.take_add_one,i,List.any_append]
 simp
theorem qyg{a b:Ch}(h:Quiet a b){x:Live}(f:x∈a.xs):qlu b.xs x=true:=by
 refine List.any_eq_true.2 ⟨qmc x,h.mir.mem_iff.2 (List.mem_map.2 ⟨x,f,rfl⟩),?_⟩
 have e:q0i (qmc x).h x.h=true:=by
  unfold q0i
  exact @decide_eq_true _ (Classical.propDecidable _) rfl
 rw[e]
 show (true&&((!x.own) != x.own))=true
 cases x.own<;>rfl
theorem q09{a b:Ch}(h:Quiet a b){y:Live}(i:y∈b.xs):y.state=4:=by
 obtain⟨x,f,rfl⟩:=List.mem_map.1 (h.mir.mem_iff.1 i)
 exact(h.four x f).1
section
variable {P:Pr}(h:Quiet P.a P.b)
include h
theorem Quiet.loc1:(P.en 1).loc=(P.en 0).rem:=h.rem.symm
theorem Quiet.rem1:(P.en 1).rem=(P.en 0).loc:=h.loc.symm
theorem Quiet.len1:(P.en 1).xs.length=(P.en 0).xs.length:=by
 have:=h.mir.length_eq
 rw[List.length_map] at this
 exact this
theorem Quiet.sig1:(P.en 1).k.signed=(P.en 0).k.heard:=h.sba
theorem Quiet.hrd1:(P.en 1).k.heard=(P.en 0).k.signed:=h.sab.symm
end
section
variable {w0 w:World}{p:Nat}{g:Nat→Nat}{P:Pr}{Ks:List Kp}{k:Nat}
theorem zcv(l:Tb w0)(H:PrK w0 w p g P Ks)(m:k<2):Calls Tryz.prog 21 #[.pointer (some ⟨g k,0,none⟩)] w (qa7 (.agg #[.int .u64 (P.en k).loc,.int .u64 (P.en k).rem]) w):=by
 obtain⟨f,i,-⟩:=H.end l m
 exact qsl _ f _ w i
def qn1(w:World)(a:Option Addr)(xs:List Live):Prop:=∀(i:Nat) (x:Live),xs[i]? = some x→∃b,a=some ⟨b,0,none⟩∧zx w b (i*38) 38=some (qm x).toArray
theorem qn1.new{w w':World}{a:Option Addr}{xs:List Live}(h:qn1 w a xs)(u:qy w w'):qn1 w' a xs:=fun i x f=>by
 obtain⟨b,e,l⟩:=h i x f
 exact⟨b,e,qis l u (fun h=>h)⟩
theorem qn1.row{w:World}{a:Option Addr}{xs:List Live}{i:Nat}{x:Live}(h:qn1 w a xs)(l:xs[i]? = some x):∃b,a=some ⟨b,0,none⟩∧zx w b (i*38) 35=some (q9 x.h).toArray∧w.cell? ⟨b,i*38,none⟩=some (.int .u64 x.h.id)∧w.cell? ⟨b,i*38+35,none⟩=some (.bool x.own)∧w.cell? ⟨b,i*38+36,none⟩=some (.int .i64 x.state):=by
 obtain⟨b,e,f⟩:=h i x l
 refine⟨b,e,?_,?_,?_,?_⟩
 ·have:=qnu f 0 35 (by decide)
  rw[Nat.add_zero] at this
  rw[this]
  congr 1
  apply Array.ext'
  rw[Array.toList_extract]
  show ((qm x).take (0+35)).drop 0=q9 x.h
  unfold qm
  rw[List.drop_zero,List.take_append_of_le_length (by rw[qbd];decide),List.take_of_length_le (by rw[qbd];decide)]
 ·have:=(qe2 f).2 0 (by decide)
  rw[Nat.add_zero] at this
  exact this
 ·rw[(qe2 f).2 35 (by decide),List.getElem?_toArray];exact qhl x
 ·rw[(qe2 f).2 36 (by decide),List.getElem?_toArray];exact qfa x
theorem zda(q:Tb w0)(H:PrK w0 w p g P Ks)(v:k<2):Calls Tryz.prog 17 #[.pointer (some ⟨g k,0,none⟩)] w fun e w'=>∃a c,e = .returned (.slice a (P.en k).xs.length c)∧qy w w'∧qn1 w' a (P.en k).xs:=by
 obtain⟨l,o,-⟩:=H.end q v
 refine(qno _ l _ w o).mono ?_
 rintro e w' ⟨u,rfl,n,h | ⟨b,cap,rfl,y,t⟩⟩
 ·obtain⟨a,c,rfl,m⟩:=h
  rw[m]
  exact⟨a,c,rfl,n,fun i x f=>by cases f⟩
 ·refine⟨_,cap,rfl,n,fun i x f=>⟨b,rfl,?_⟩⟩
  have:=t.row f
  rwa [Nat.zero_add] at this
theorem PrK.liveOk(h:PrK w0 w p g P Ks)(t:k<2):∀x∈(P.en k).xs,LiveOk x:=by
 obtain⟨S,o,q,v,y,i,-⟩:=h
 rcases (by omega:k=0∨k=1) with rfl | rfl
 ·obtain⟨m,nv,l,f⟩:=i.two.A
  exact f.ok.xs
 ·obtain⟨m,nv,l,f⟩:=i.two.B
  exact f.ok.xs
theorem q2n(l:Tb w0)(H:PrK w0 w p g P Ks)(m:k<2):Calls Tryz.prog 28 #[.pointer (some ⟨g k,0,none⟩)] w (qa7 (.tuple #[.int .i64 (P.en k).k.signed,.int .i64 (P.en k).k.heard,.bool (P.en k).k.awaits]) w):=by
 obtain⟨f,i,-⟩:=H.end l m
 exact(qzw _ f _ w i).mono fun e w' h=>⟨h.1,h.2.upd _⟩
theorem qo9(l:Tb w0)(H:PrK w0 w p g P Ks)(m:k<2):Calls Tryz.prog 35 #[.pointer (some ⟨g k,0,none⟩)] w (qa7 (.bool ((P.en k).k.shutSaid&&(P.en k).k.shutHeard&&(P.en k).xs.isEmpty)) w):=by
 obtain⟨f,i,-⟩:=H.end l m
 exact(qzu _ f _ w i).mono fun e w' h=>⟨h.1,h.2.upd _⟩
theorem PrK.cells(h:PrK w0 w p g P Ks):∃l m ab o,w.cell? ⟨p,2,none⟩=some (.slice l P.wa.length m)∧w.cell? ⟨p,3,none⟩=some (.slice ab P.wb.length o)∧w.cell? ⟨p,4,none⟩=some (.bool P.bad):=by
 obtain⟨S,z,C,x,y,i,-⟩:=h
 obtain⟨-,-,q,t,v⟩:=i.cell
 obtain⟨l,m,rfl⟩:∃a c,x = .slice a P.wa.length c:=by
  rcases i.rowA.2 with ⟨e,f⟩ | ⟨g,c,_,e,_⟩
  ·rw[f];exact⟨_,_,e⟩
  ·exact⟨_,_,e⟩
 obtain⟨ab,o,rfl⟩:∃a c,y = .slice a P.wb.length c:=by
  rcases i.rowB.2 with ⟨e,f⟩ | ⟨g,c,_,e,_⟩
  ·rw[f];exact⟨_,_,e⟩
  ·exact⟨_,_,e⟩
 exact⟨_,_,_,_,q,t,v⟩
end
end Go.Proofs.YtjpmomdechibmaaGreatDoor
