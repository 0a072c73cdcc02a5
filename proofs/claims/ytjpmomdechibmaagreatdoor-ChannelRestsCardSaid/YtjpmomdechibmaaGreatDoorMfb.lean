/-
  What a listed variable of a type without pointers holds, cell for cell.
-/
import Derived.Test.YtjpmomdechibmaaGreatDoorMbh
import Derived.LaidLaws
import Derived.Lib.LaidTab
import Derived.Test.YtjpmomdechibmaaGreatDoorMaa
import Derived.ProofKit
import Derived.OpenShut
import Derived.ShutString
import Derived.ChangeOld
import Derived.Test.YtjpmomdechibmaaGreatDoorMca
import Derived.Test.YtjpmomdechibmaaGreatDoorRows
import Derived.Test.YtjpmomdechibmaaGreatDoorMeg
set_option linter.unusedVariables false
set_option linter.unusedSimpArgs false
namespace Go.Proofs.YtjpmomdechibmaaGreatDoor
open Go.RowKit Go.ChangeShapes Go.WideShapes Go.ChangeAt Go.Deep
mutual
def ql{H:Type} : DataW H→List Value
 | .lit (.bool b)=>[.bool b]
 | .lit (.int k n)=>[.int k n]
 | .lit (.string b)=>[.string ⟨b.toArray⟩]
 | .agg ps=>qna ps
 | _=>[]
def qna{H:Type} : List (DataW H)→List Value
 | []=>[]
 | d::r=>ql d++qna r
end
theorem qox{H α:Type}(f:α→DataW H):∀l:List α,qna (l.map f)=(l.map fun x=>ql (f x)).flatten
 | []=>rfl
 | x::l=>by rw[List.map_cons,List.map_cons,List.flatten_cons,←qox f l];rfl
section
variable {H:Type}{enc:TypeId × Value→H}{P:Program}{w:World}{base:Nat}{spare:Nat→Bool}{held:Bool}
theorem qoe{rec:TypeId→Option (List Leaf)}{cs:List Value}(q:∀t l c x m,rec t=some l→DataW.trod enc P w base spare held m t c=some x→c=ql x.1) :
  ∀(z:List Field) (o:Nat) (L:List Leaf) (xs:List (DataW H × List MemPlace)),qbr P rec o z=some L→cs.length=o+L.length→xs.length=z.length →
   (∀(i:Nat) f,z[i]? = some f→∃m,DataW.trod enc P w base spare held m f.type ((cs.drop f.offset).take (P.cellsOf f.type))=xs[i]?)→cs.drop o=qna (xs.map (·.1))
 | [],o,L,xs,h,y,v,_=>by
  simp only[qbr,Option.some.injEq] at h
  subst h
  rw[List.length_eq_zero_iff.1 v]
  exact List.drop_eq_nil_of_le (by simp at y;omega)
 | f::r,o,L,[],h,y,v,_=>by simp at v
 | f::r,o,L,x::xs,h,y,v,F=>by
  unfold qbr at h
  cases C:rec f.type with
  | none=>rw[C] at h;cases h
  | some l =>
   rw[C] at h
   simp only at h
   split at h
   ·rename_i K
    obtain⟨R,O⟩:=K
    rw[Option.map_eq_some_iff] at h
    obtain⟨M,J,rfl⟩:=h
    obtain⟨m,D⟩:=F 0 f rfl
    have E:=q _ _ _ _ _ C (D.trans rfl)
    rw[R,O] at E
    rw[List.length_append] at y
    have I:=qoe q r (o+l.length) M xs J (by omega) (by simpa using v) (fun i g N=>F (i+1) g N)
    have e:cs.drop o=(cs.drop o).take l.length++cs.drop (o+l.length):=by
     rw[←List.drop_drop,List.take_append_drop]
    rw[e,E,I]
    rfl
   ·cases h
theorem qnl:∀(n:Nat) (t:TypeId) (l:List Leaf) (cs:List Value) (x:DataW H × List MemPlace) (g:Nat),qcv P n t=some l→DataW.trod enc P w base spare held g t cs=some x→cs=ql x.1
 | 0,_,_,_,_,_,h,_=>by simp[qcv] at h
 | n+1,t,l,cs,x,g,h,v=>by
  unfold qcv at h
  split at h
  ·rename_i o
   obtain⟨b,rfl,rfl⟩:=DataW.trod_bool o v
   rfl
  ·rename_i k o
   obtain⟨z,rfl,rfl,O⟩:=DataW.trod_int o v
   rfl
  ·rename_i o
   obtain⟨s,rfl,rfl,O⟩:=DataW.trod_string o v
   rfl
  ·rename_i M o
   split at h
   ·rename_i L E
    split at h
    ·rename_i J
     simp only[Option.some.injEq] at h
     subst h
     obtain⟨xs,m,_,rfl,q,C,F⟩:=DataW.trod_struct o v
     have:=qoe (rec:=qcv P n) (cs:=cs) (fun t l c x g D N=>qnl n t l c x g D N) M.toList 0 L xs E (by omega) (by simpa using C) fun i f I=>⟨m,F i f (by simpa using I)⟩
     exact this
    ·cases h
   ·cases h
  ·rename_i m e o
   split at h
   ·rename_i L E
    split at h
    ·rename_i J
     simp only[Option.some.injEq] at h
     subst h
     obtain⟨xs,k,_,rfl,q,C,F⟩:=DataW.trod_array o v
     show cs=qna (xs.map (·.1))
     rw[qox]
     refine(qp1 L.length m cs (by omega)).trans ?_
     congr 1
     apply List.ext_getElem?
     intro i
     by_cases K:i<m
     ·have D:=F i K
      rw[J.1] at D
      have y:xs[i]? = some (xs[i]'(by omega)):=List.getElem?_eq_getElem (by omega)
      rw[List.getElem?_map,List.getElem?_map,List.getElem?_range K,y]
      exact congrArg some (qnl n e _ _ _ k E (D.trans y))
     ·rw[List.getElem?_eq_none (by simp;omega),List.getElem?_eq_none (by simp;omega)]
    ·cases h
   ·cases h
  ·cases h
end
theorem qtb{P:Program}{w:World} : ∀ {f:List (String × DataW Unit)} {ps:List MemPlace},DataW.LaidVars P w f ps→∀ {n:String} {d:DataW Unit} {g:Nat} {t:TypeId} (k:Nat) {l:List Leaf},(n,d)∈f →
  P.globalNamed n=some g→(P.globals[g]?).map (·.type)=some t→qcv P k t=some l→w.var? P n=some (ql d).toArray
 | [],_,_,_,_,_,_,_,_,m,_,_,_=>by simp at m
 | (I,F)::rest,_,h,n,d,g,t,k,l,m,C,D,z=>by
  obtain⟨g',J,cs,y,p,q,v,x,o,E,i,_⟩:=h
  rcases List.mem_cons.1 m with e | m
  ·cases e
   obtain rfl:=Option.some.inj (C.symm.trans v)
   obtain rfl:=Option.some.inj (D.symm.trans x)
   rw[o,←qnl k t l _ _ _ z E]
  ·exact qtb i k m C D z
theorem qie{P:Program}{w:World}{f:List (String × DataW Unit)}(h:laidMet P f w){n:String}{d:DataW Unit}{g:Nat}{t:TypeId}(k:Nat){l:List Leaf}(v:(n,d)∈f)
  (m:P.globalNamed n=some g) (x:(P.globals[g]?).map (·.type)=some t) (o:qcv P k t=some l) (i:Nat):w.cell? ⟨g,i,none⟩=(ql d)[i]? := by
 obtain⟨ps,q,_⟩:=h
 have:=World.var?_cell m (qtb q k v m x o) i
 simpa using this
end Go.Proofs.YtjpmomdechibmaaGreatDoor
namespace Go.Proofs.YtjpmomdechibmaaGreatDoor
open Go.ChangeShapes Go.WideShapes Go.ChangeAt Go.RowKit
section
variable {H:Type}{enc:TypeId × Value→H}{P:Program}{W:World}{base:Nat}{t e:TypeId}{v:Value}{d:DataW H}{p:List MemPlace}
end
end Go.Proofs.YtjpmomdechibmaaGreatDoor
namespace Go.Proofs.YtjpmomdechibmaaGreatDoor
open Go.RowKit Go.Sort Go.ChangeShapes Go.WideShapes Go.ChangeAt
section
variable {W:World}
set_option maxRecDepth 100000 in
theorem zdq{f:List (String × DataW Unit)}(h:laidMet Tryz.prog f W)(m1:("remitter/htlc.events",Rows.laid_remitter_htlc_events)∈f)(q:("remitter/htlc.spans",Rows.laid_remitter_htlc_spans)∈f)(w:("remitter/digest.table",Rows.laid_remitter_digest_table)∈f)(x:("remitter/digest.begin",Rows.laid_remitter_digest_begin)∈f)(y:("math/bits.deBruijn64tab",Rows.laid_math_bits_deBruijn64tab)∈f):Tb W:=by
 refine⟨⟨fun i m=> ?_⟩,⟨fun i m=> ?_⟩,⟨fun i m=> ?_,fun i m=> ?_⟩,⟨fun i m=> ?_⟩⟩
 ·rw[qie h 5 m1 (g:=0) (by kernel_rfl) (t:=150) (by kernel_rfl) (l:=List.replicate 20 (.int .i64)) (by kernel_rfl)]
  have o:ql (H:=Unit) Rows.laid_remitter_htlc_events=qpd.map (Value.int .i64):=by rfl
  rw[o,List.getElem?_map,List.getD_eq_getElem?_getD,List.getElem?_eq_getElem (show i<qpd.length from m)]
  rfl
 ·rw[qie h 5 q (g:=2) (by kernel_rfl) (t:=183) (by kernel_rfl) (l:=List.replicate 4 (.int .i64)) (by kernel_rfl)]
  have o:ql (H:=Unit) Rows.laid_remitter_htlc_spans=qrm.map (Value.int .i64):=by rfl
  rw[o,List.getElem?_map,List.getD_eq_getElem?_getD,List.getElem?_eq_getElem (show i<qrm.length from m)]
  rfl
 ·rw[qie h 5 w (g:=3) (by kernel_rfl) (t:=215) (by kernel_rfl) (l:=List.replicate 64 (.int .u32)) (by kernel_rfl)]
  have o:ql (H:=Unit) Rows.laid_remitter_digest_table=qj5.map (Value.int .u32):=by rfl
  rw[o,List.getElem?_map,List.getD_eq_getElem?_getD,List.getElem?_eq_getElem (show i<qj5.length from m)]
  rfl
 ·rw[qie h 5 x (g:=1) (by kernel_rfl) (t:=180) (by kernel_rfl) (l:=List.replicate 8 (.int .u32)) (by kernel_rfl)]
  have o:ql (H:=Unit) Rows.laid_remitter_digest_begin=qjf.map (Value.int .u32):=by rfl
  rw[o,List.getElem?_map,List.getD_eq_getElem?_getD,List.getElem?_eq_getElem (show i<qjf.length from m)]
  rfl
 ·rw[qie h 5 y (g:=5) (by kernel_rfl) (t:=151) (by kernel_rfl) (l:=List.replicate 64 (.int .u8)) (by kernel_rfl)]
  have o:ql (H:=Unit) Rows.laid_math_bits_deBruijn64tab=Lib.deBruijn64tab.map (fun n:Nat=>Value.int .u8 n):=by rfl
  rw[o,List.getElem?_map,List.getD_eq_getElem?_getD,List.getElem?_eq_getElem (show i<Lib.deBruijn64tab.length from m)]
  rfl
end
section
variable {H:Type}{enc:TypeId × Value→H}{W:World}{base:Nat}{v:Value}{d:DataW H}{p:List MemPlace}
theorem qsk{n:Int}(h:(Lit.int .u64 n).wf=true):0≤n∧n<18446744073709551616:=by
 simp[Lit.wf,IntKind.min,IntKind.max,IntKind.signed,IntKind.bits] at h
 omega
end
end Go.Proofs.YtjpmomdechibmaaGreatDoor
namespace Go.Proofs.YtjpmomdechibmaaGreatDoor
open Go.RowKit Go.Sort Go.ChangeShapes Go.WideShapes Go.ChangeAt Go.Deep
def qne:List Leaf:= .int .i64 :: .int .i64 :: .int .i64 :: .int .u64 :: .int .u64 :: .int .u8::(.int .i64 :: .int .u32 :: .int .u64 :: .int .u64::(List.replicate 32 (.int .u8)++[.int .i64,.int .i64]))
theorem qu6{n:Int}(h:(Lit.int .i64 n).wf=true) : -9223372036854775808≤n∧n≤9223372036854775807:=by
 simp[Lit.wf,IntKind.min,IntKind.max,IntKind.signed,IntKind.bits] at h
 omega
theorem ze8{n:Int}(h:(Lit.int .u8 n).wf=true):0≤n∧n≤255:=by
 simp[Lit.wf,IntKind.min,IntKind.max,IntKind.signed,IntKind.bits] at h
 omega
theorem q6n{c:List Value}(h:qdh qne c):∃x:ActV,c=x.cells∧x.Ok:=by
 obtain⟨_,_,rfl,⟨k,rfl,l⟩,_,_,rfl,⟨s,rfl,q⟩,_,_,rfl,⟨e,rfl,f⟩,_,_,rfl,⟨n,rfl,m⟩,_,_,rfl,⟨i,rfl,g⟩,_,_,rfl,⟨p,rfl,o⟩,h⟩:=h
 exact⟨⟨k,s,e,n,i,p,_⟩,rfl,qu6 l,qu6 q,qu6 f,qsk m,qsk g,ze8 o,by rw[qdh.len h];rfl⟩
theorem q2a:∀ {L:List (List Value)},(∀c∈L,∃x:ActV,c=x.cells∧x.Ok)→∃xs:List ActV,L=xs.map ActV.cells∧∀x∈xs,x.Ok
 | [],_=>⟨[],rfl,fun x h=>(by cases h)⟩
 | c::L,h=>by
  obtain⟨x,rfl,l⟩:=h c (List.mem_cons_self ..)
  obtain⟨xs,rfl,i⟩:=q2a fun c g=>h c (List.mem_cons_of_mem _ g)
  exact⟨x::xs,rfl,by intro y f;rcases List.mem_cons.1 f with rfl | f;exact l;exact i y f⟩
theorem Tryz.flatAct:qcv Tryz.prog 5 75=some qne:=by kernel_rfl
theorem Tryz.cellsAct:Tryz.prog.cellsOf 75=44:=by kernel_rfl
theorem qvt{w:World}{g o n:Nat}{A:List Value}(y:A.length=n)(x:0<n)(h:∀j,j<n→w.cell? ⟨g,o+j,none⟩=A[j]?):zx w g o n=some A.toArray:=by
 have f:=h (n-1) (by omega)
 rw[List.getElem?_eq_getElem (by omega)] at f
 unfold World.cell? at f
 cases i:w.heap[g]? with
 | none=>simp[i] at f
 | some t =>
  rw[i] at f
  cases t with
  | cells C T l =>
   have q:o+(n-1)<C.size:=by
    by_cases e:o+(n-1)<C.size
    ·exact e
    ·rw[show (Obj.cells C T l) = .cells C T l from rfl] at f
     have:C[o+(n-1)]? = none:=by simp;omega
     simp[this] at f
   rw[qca i o n (by omega)]
   congr 1
   apply Array.ext'
   apply List.ext_getElem?
   intro j
   rw[Array.getElem?_toList,Array.getElem?_extract]
   by_cases m:j<n
   ·rw[if_pos (by omega),←qh i,h j m]
   ·rw[if_neg (by omega),List.getElem?_eq_none (by simp;omega)]
  | _=>simp at f
section
variable {H:Type}{enc:TypeId × Value→H}{W:World}{base:Nat}{v:Value}{d:DataW H}{p:List MemPlace}
theorem ActV.cells_len{x:ActV}(h:x.Ok):x.cells.length=44:=by
 unfold ActV.cells
 simp only[List.length_cons,h.rest]
set_option maxRecDepth 100000 in
theorem qtk(y:Value.okWide Tryz.prog W .any base 72 v)(h:DataW.Trod enc Tryz.prog W 0 (fun _=>true) true 72 v d p) :
  ∃xs:List ActV,qo1 W v xs∧∀x∈xs,x.Ok:=by
 have l:qne.length=44:=rfl
 obtain⟨L,t,q⟩:=qo5 5 Tryz.underlying72 Tryz.flatAct (by rw[Tryz.cellsAct,l]) (by rw[l];decide) y h
 obtain⟨xs,rfl,f⟩:=q2a (fun c q=>q6n (t c q))
 rcases q with ⟨a,c,rfl,e⟩ | ⟨g,off,cap,e,z,C,D,_,o⟩
 ·obtain rfl:xs=[]:=by simpa using e
  exact⟨[],.inl ⟨_,_,rfl,rfl⟩,fun x m=>(by cases m)⟩
 ·rw[List.length_map] at e
  refine⟨xs,.inr ⟨g,off,cap,e,fun i x m=> ?_⟩,f⟩
  refine qvt (ActV.cells_len (f x (List.mem_of_getElem? m))) (by decide) fun j w=> ?_
  have:=o i x.cells (by rw[List.getElem?_map,m];rfl) j (by rw[l];exact w)
  rw[l] at this
  rw[←this,Nat.add_assoc]
end
end Go.Proofs.YtjpmomdechibmaaGreatDoor
