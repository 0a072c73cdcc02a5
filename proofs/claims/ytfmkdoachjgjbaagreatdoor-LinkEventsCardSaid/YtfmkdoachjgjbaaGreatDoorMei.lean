/-
  What a listed variable of a type without pointers holds, cell for cell.
-/
import Derived.Test.YtfmkdoachjgjbaaGreatDoorMbe
import Derived.LaidLaws
import Derived.Lib.LaidTab
import Derived.Test.YtfmkdoachjgjbaaGreatDoorMbf
import Derived.Test.YtfmkdoachjgjbaaGreatDoorRows
set_option linter.unusedVariables false
set_option linter.unusedSimpArgs false
namespace Go.Proofs.YtfmkdoachjgjbaaGreatDoor
open Go.RowKit Go.ChangeShapes Go.WideShapes Go.ChangeAt Go.Deep
mutual
def ql{H:Type} : DataW H→List Value
 | .lit (.bool b)=>[.bool b]
 | .lit (.int k n)=>[.int k n]
 | .lit (.string b)=>[.string ⟨b.toArray⟩]
 | .agg ps=>qlo ps
 | _=>[]
def qlo{H:Type} : List (DataW H)→List Value
 | []=>[]
 | d::r=>ql d++qlo r
end
theorem qm1{H α:Type}(f:α→DataW H):∀l:List α,qlo (l.map f)=(l.map fun x=>ql (f x)).flatten
 | []=>rfl
 | x::l=>by rw[List.map_cons,List.map_cons,List.flatten_cons,←qm1 f l];rfl
section
variable {H:Type}{enc:TypeId × Value→H}{P:Program}{w:World}{base:Nat}{spare:Nat→Bool}{held:Bool}
theorem qml{rec:TypeId→Option (List Leaf)}{cs:List Value}(q:∀t l c x m,rec t=some l→DataW.trod enc P w base spare held m t c=some x→c=ql x.1) :
  ∀(C:List Field) (o:Nat) (L:List Leaf) (xs:List (DataW H × List MemPlace)),qcm P rec o C=some L→cs.length=o+L.length→xs.length=C.length →
   (∀(i:Nat) f,C[i]? = some f→∃m,DataW.trod enc P w base spare held m f.type ((cs.drop f.offset).take (P.cellsOf f.type))=xs[i]?)→cs.drop o=qlo (xs.map (·.1))
 | [],o,L,xs,h,z,v,_=>by
  simp only[qcm,Option.some.injEq] at h;subst h;rw[List.length_eq_zero_iff.1 v];exact List.drop_eq_nil_of_le (by simp at z;omega)
 | f::r,o,L,[],h,z,v,_=>by simp at v
 | f::r,o,L,x::xs,h,z,v,J=>by
  unfold qcm at h;cases E:rec f.type with
  | none=>rw[E] at h;cases h
  | some l =>
   rw[E] at h;simp only at h;split at h
   ·rename_i O;obtain⟨T,S⟩:=O;rw[Option.map_eq_some_iff] at h;obtain⟨M,N,rfl⟩:=h;obtain⟨m,F⟩:=J 0 f rfl;have I:=q _ _ _ _ _ E (F.trans rfl);rw[T,S] at I;rw[List.length_append] at z;have K:=qml q r (o+l.length) M xs N (by omega) (by simpa using v) (fun i g R=>J (i+1) g R);have e:cs.drop o=(cs.drop o).take l.length++cs.drop (o+l.length):=by
     rw[←List.drop_drop,List.take_append_drop]
    rw[e,I,K];rfl
   ·cases h
theorem qlt:∀(n:Nat) (t:TypeId) (l:List Leaf) (cs:List Value) (x:DataW H × List MemPlace) (q:Nat),qc9 P n t=some l→DataW.trod enc P w base spare held q t cs=some x→cs=ql x.1
 | 0,_,_,_,_,_,h,_=>by simp[qc9] at h
 | n+1,t,l,cs,x,q,h,E=>by
  unfold qc9 at h;split at h
  ·rename_i v;obtain⟨b,rfl,rfl⟩:=DataW.trod_bool v E;rfl
  ·rename_i k v;obtain⟨z,rfl,rfl,U⟩:=DataW.trod_int v E;rfl
  ·rename_i v;obtain⟨s,rfl,rfl,U⟩:=DataW.trod_string v E;rfl
  ·rename_i S v;split at h
   ·rename_i L K;split at h
    ·rename_i O;simp only[Option.some.injEq] at h;subst h;obtain⟨xs,m,_,rfl,C,I,M⟩:=DataW.trod_struct v E;have:=qml (rec:=qc9 P n) (cs:=cs) (fun t l c x q J T=>qlt n t l c x q J T) S.toList 0 L xs K (by omega) (by simpa using I) fun i f N=>⟨m,M i f (by simpa using N)⟩
     exact this
    ·cases h
   ·cases h
  ·rename_i m e v;split at h
   ·rename_i L K;split at h
    ·rename_i O;simp only[Option.some.injEq] at h;subst h;obtain⟨xs,k,_,rfl,C,I,M⟩:=DataW.trod_array v E;show cs=qlo (xs.map (·.1));rw[qm1];refine(qry L.length m cs (by omega)).trans ?_;congr 1;apply List.ext_getElem?;intro i;by_cases R:i<m
     ·have J:=M i R;rw[O.1] at J;have F:xs[i]? = some (xs[i]'(by omega)):=List.getElem?_eq_getElem (by omega);rw[List.getElem?_map,List.getElem?_map,List.getElem?_range R,F];exact congrArg some (qlt n e _ _ _ k K (J.trans F))
     ·rw[List.getElem?_eq_none (by simp;omega),List.getElem?_eq_none (by simp;omega)]
    ·cases h
   ·cases h
  ·cases h
end
theorem qqj{P:Program}{w:World} : ∀ {f:List (String × DataW Unit)} {ps:List MemPlace},DataW.LaidVars P w f ps→∀ {n:String} {d:DataW Unit} {g:Nat} {t:TypeId} (k:Nat) {l:List Leaf},(n,d)∈f →
  P.globalNamed n=some g→(P.globals[g]?).map (·.type)=some t→qc9 P k t=some l→w.var? P n=some (ql d).toArray
 | [],_,_,_,_,_,_,_,_,m,_,_,_=>by simp at m
 | (M,K)::rest,_,h,n,d,g,t,k,l,m,I,J,F=>by
  obtain⟨L,N,cs,E,p,q,z,C,v,hd,i,_⟩:=h;rcases List.mem_cons.1 m with e | m
  ·cases e;obtain rfl:=Option.some.inj (I.symm.trans z);obtain rfl:=Option.some.inj (J.symm.trans C);rw[v,←qlt k t l _ _ _ F hd]
  ·exact qqj i k m I J F
theorem qgx{P:Program}{w:World}{f:List (String × DataW Unit)}(h:laidMet P f w){n:String}{d:DataW Unit}{g:Nat}{t:TypeId}(k:Nat){l:List Leaf}(z:(n,d)∈f)
  (m:P.globalNamed n=some g) (C:(P.globals[g]?).map (·.type)=some t) (q:qc9 P k t=some l) (i:Nat):w.cell? ⟨g,i,none⟩=(ql d)[i]? := by
 obtain⟨ps,v,_⟩:=h
 have:=World.var?_cell m (qqj v k z m C q) i
 simpa using this
end Go.Proofs.YtfmkdoachjgjbaaGreatDoor
namespace Go.Proofs.YtfmkdoachjgjbaaGreatDoor
open Go.RowKit Go.Sort Go.ChangeShapes Go.WideShapes Go.ChangeAt
set_option maxRecDepth 100000 in
theorem q7k{W:World}{f:List (String × DataW Unit)}(h:laidMet Tryz.prog f W)(v:("remitter/digest.table",Rows.laid_remitter_digest_table)∈f)(z:("remitter/digest.begin",Rows.laid_remitter_digest_begin)∈f):Tabs W:=by
 refine⟨fun i m=> ?_,fun i m=> ?_⟩
 ·rw[qgx h 5 v (g:=4) (by kernel_rfl) (t:=321) (by kernel_rfl) (l:=List.replicate 64 (.int .u32)) (by kernel_rfl)];have q:ql (H:=Unit) Rows.laid_remitter_digest_table=qib.map (Value.int .u32):=by rfl
  rw[q,List.getElem?_map,List.getD_eq_getElem?_getD,List.getElem?_eq_getElem (show i<qib.length from m)];rfl
 ·rw[qgx h 5 z (g:=1) (by kernel_rfl) (t:=295) (by kernel_rfl) (l:=List.replicate 8 (.int .u32)) (by kernel_rfl)];have q:ql (H:=Unit) Rows.laid_remitter_digest_begin=qhp.map (Value.int .u32):=by rfl
  rw[q,List.getElem?_map,List.getD_eq_getElem?_getD,List.getElem?_eq_getElem (show i<qhp.length from m)];rfl
set_option maxRecDepth 100000 in
theorem zc3{W:World}{f:List (String × DataW Unit)}(h:laidMet Tryz.prog f W)(m1:("remitter/htlc.events",Rows.laid_remitter_htlc_events)∈f)(v:("remitter/htlc.spans",Rows.laid_remitter_htlc_spans)∈f)(z:("remitter/digest.table",Rows.laid_remitter_digest_table)∈f)(C:("remitter/digest.begin",Rows.laid_remitter_digest_begin)∈f):Tc W:=by
 refine⟨⟨fun i m=> ?_⟩,⟨fun i m=> ?_⟩,q7k h z C⟩
 ·rw[qgx h 5 m1 (g:=0) (by kernel_rfl) (t:=282) (by kernel_rfl) (l:=List.replicate 20 (.int .i64)) (by kernel_rfl)];have q:ql (H:=Unit) Rows.laid_remitter_htlc_events=qng.map (Value.int .i64):=by rfl
  rw[q,List.getElem?_map,List.getD_eq_getElem?_getD,List.getElem?_eq_getElem (show i<qng.length from m)];rfl
 ·rw[qgx h 5 v (g:=2) (by kernel_rfl) (t:=303) (by kernel_rfl) (l:=List.replicate 4 (.int .i64)) (by kernel_rfl)];have q:ql (H:=Unit) Rows.laid_remitter_htlc_spans=qo7.map (Value.int .i64):=by rfl
  rw[q,List.getElem?_map,List.getD_eq_getElem?_getD,List.getElem?_eq_getElem (show i<qo7.length from m)];rfl
set_option maxRecDepth 100000 in
theorem zb7{W:World}{f:List (String × DataW Unit)}(h:laidMet Tryz.prog f W)(m1:("remitter/htlc.events",Rows.laid_remitter_htlc_events)∈f)(v:("remitter/htlc.spans",Rows.laid_remitter_htlc_spans)∈f)(z:("remitter/digest.table",Rows.laid_remitter_digest_table)∈f)(C:("remitter/digest.begin",Rows.laid_remitter_digest_begin)∈f)(E:("math/bits.deBruijn64tab",Rows.laid_math_bits_deBruijn64tab)∈f):Tb W:=by
 obtain⟨a,b,c⟩:=zc3 h m1 v z C;refine⟨a,b,c,⟨fun i m=> ?_⟩⟩;rw[qgx h 5 E (g:=6) (by kernel_rfl) (t:=283) (by kernel_rfl) (l:=List.replicate 64 (.int .u8)) (by kernel_rfl)];have q:ql (H:=Unit) Rows.laid_math_bits_deBruijn64tab=Lib.deBruijn64tab.map (fun n:Nat=>Value.int .u8 n):=by rfl
 rw[q,List.getElem?_map,List.getD_eq_getElem?_getD,List.getElem?_eq_getElem (show i<Lib.deBruijn64tab.length from m)];rfl
end Go.Proofs.YtfmkdoachjgjbaaGreatDoor
