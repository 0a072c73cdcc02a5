/-
  The law NodeFunds, at arguments as they are read.
-/
import Derived.Test.YtfmkdoachjgjbaaGreatDoorNfB
import Derived.Test.YtfmkdoachjgjbaaGreatDoorMab
import Derived.LaidLaws
import Derived.Lib.LaidTab
import Derived.Test.YtfmkdoachjgjbaaGreatDoorMbd
import Derived.Test.YtfmkdoachjgjbaaGreatDoorRows
set_option maxRecDepth 100000
set_option linter.unusedVariables false
set_option linter.unusedSimpArgs false
namespace Go.Proofs.YtfmkdoachjgjbaaGreatDoor
section
open Go.RowKit
theorem qv4(F:Int)(v:Value)(xs:List ActN)(W:World)(i:(Lit.int .u64 F).wf=true)(q:∀x∈xs,x.Ok)(o:qik W v xs)(m:Tb W):Calls Tryz.prog 8 #[.int .u64 F,v] W (qar (.bool true) W) :=
 qzx F v xs W (qxt i) o q m
end
section
open Go.RowKit Go.ChangeShapes Go.WideShapes Go.ChangeAt Go.Deep
mutual
def qz{H:Type} : DataW H→List Value
 | .lit (.bool b)=>[.bool b]
 | .lit (.int k n)=>[.int k n]
 | .lit (.string b)=>[.string ⟨b.toArray⟩]
 | .agg ps=>qj9 ps
 | _=>[]
def qj9{H:Type} : List (DataW H)→List Value
 | []=>[]
 | d::r=>qz d++qj9 r
end
theorem qly{H α:Type}(f:α→DataW H):∀l:List α,qj9 (l.map f)=(l.map fun x=>qz (f x)).flatten
 | []=>rfl
 | x::l=>by rw[List.map_cons,List.map_cons,List.flatten_cons,←qly f l];rfl
section
variable {H:Type}{enc:TypeId × Value→H}{P:Program}{w:World}{base:Nat}{spare:Nat→Bool}{held:Bool}
theorem qle{rec:TypeId→Option (List Leaf)}{cs:List Value}(q:∀t l c x m,rec t=some l→DataW.trod enc P w base spare held m t c=some x→c=qz x.1) :
  ∀(z:List Field) (o:Nat) (L:List Leaf) (xs:List (DataW H × List MemPlace)),qbi P rec o z=some L→cs.length=o+L.length→xs.length=z.length →
   (∀(i:Nat) f,z[i]? = some f→∃m,DataW.trod enc P w base spare held m f.type ((cs.drop f.offset).take (P.cellsOf f.type))=xs[i]?)→cs.drop o=qj9 (xs.map (·.1))
 | [],o,L,xs,h,y,v,_=>by
  simp only[qbi,Option.some.injEq] at h;subst h;rw[List.length_eq_zero_iff.1 v];exact List.drop_eq_nil_of_le (by simp at y;omega)
 | f::r,o,L,[],h,y,v,_=>by simp at v
 | f::r,o,L,x::xs,h,y,v,I=>by
  unfold qbi at h;cases C:rec f.type with
  | none=>rw[C] at h;cases h
  | some l =>
   rw[C] at h;simp only at h;split at h
   ·rename_i N;obtain⟨T,R⟩:=N;rw[Option.map_eq_some_iff] at h;obtain⟨M,K,rfl⟩:=h;obtain⟨m,D⟩:=I 0 f rfl;have E:=q _ _ _ _ _ C (D.trans rfl);rw[T,R] at E;rw[List.length_append] at y;have J:=qle q r (o+l.length) M xs K (by omega) (by simpa using v) (fun i g O=>I (i+1) g O);have e:cs.drop o=(cs.drop o).take l.length++cs.drop (o+l.length):=by
     rw[←List.drop_drop,List.take_append_drop]
    rw[e,E,J];rfl
   ·cases h
theorem qkf:∀(n:Nat) (t:TypeId) (l:List Leaf) (cs:List Value) (x:DataW H × List MemPlace) (o:Nat),qb4 P n t=some l→DataW.trod enc P w base spare held o t cs=some x→cs=qz x.1
 | 0,_,_,_,_,_,h,_=>by simp[qb4] at h
 | n+1,t,l,cs,x,o,h,y=>by
  unfold qb4 at h;split at h
  ·rename_i q;obtain⟨b,rfl,rfl⟩:=DataW.trod_bool q y;rfl
  ·rename_i k q;obtain⟨z,rfl,rfl,T⟩:=DataW.trod_int q y;rfl
  ·rename_i q;obtain⟨s,rfl,rfl,T⟩:=DataW.trod_string q y;rfl
  ·rename_i O q;split at h
   ·rename_i L I;split at h
    ·rename_i M;simp only[Option.some.injEq] at h;subst h;obtain⟨xs,m,_,rfl,v,D,J⟩:=DataW.trod_struct q y;have:=qle (rec:=qb4 P n) (cs:=cs) (fun t l c x o E R=>qkf n t l c x o E R) O.toList 0 L xs I (by omega) (by simpa using D) fun i f K=>⟨m,J i f (by simpa using K)⟩
     exact this
    ·cases h
   ·cases h
  ·rename_i m e q;split at h
   ·rename_i L I;split at h
    ·rename_i M;simp only[Option.some.injEq] at h;subst h;obtain⟨xs,k,_,rfl,v,D,J⟩:=DataW.trod_array q y;show cs=qj9 (xs.map (·.1));rw[qly];refine(qm8 L.length m cs (by omega)).trans ?_;congr 1;apply List.ext_getElem?;intro i;by_cases N:i<m
     ·have E:=J i N;rw[M.1] at E;have C:xs[i]? = some (xs[i]'(by omega)):=List.getElem?_eq_getElem (by omega);rw[List.getElem?_map,List.getElem?_map,List.getElem?_range N,C];exact congrArg some (qkf n e _ _ _ k I (E.trans C))
     ·rw[List.getElem?_eq_none (by simp;omega),List.getElem?_eq_none (by simp;omega)]
    ·cases h
   ·cases h
  ·cases h
end
theorem qp0{P:Program}{w:World} : ∀ {i:List (String × DataW Unit)} {ps:List MemPlace},DataW.LaidVars P w i ps→∀ {n:String} {d:DataW Unit} {g:Nat} {t:TypeId} (k:Nat) {l:List Leaf},(n,d)∈i →
  P.globalNamed n=some g→(P.globals[g]?).map (·.type)=some t→qb4 P k t=some l→w.var? P n=some (qz d).toArray
 | [],_,_,_,_,_,_,_,_,o,_,_,_=>by simp at o
 | (K,I)::rest,_,h,n,d,g,t,k,l,o,D,E,C=>by
  obtain⟨J,M,cs,z,p,q,x,y,v,hd,m,_⟩:=h;rcases List.mem_cons.1 o with e | o
  ·cases e;obtain rfl:=Option.some.inj (D.symm.trans x);obtain rfl:=Option.some.inj (E.symm.trans y);rw[v,←qkf k t l _ _ _ C hd]
  ·exact qp0 m k o D E C
theorem qga{P:Program}{w:World}{m:List (String × DataW Unit)}(h:laidMet P m w){n:String}{d:DataW Unit}{g:Nat}{t:TypeId}(k:Nat){l:List Leaf}(x:(n,d)∈m)
  (o:P.globalNamed n=some g) (y:(P.globals[g]?).map (·.type)=some t) (q:qb4 P k t=some l) (i:Nat):w.cell? ⟨g,i,none⟩=(qz d)[i]? := by
 obtain⟨ps,v,_⟩:=h
 have:=World.var?_cell o (qp0 v k x o y q) i
 simpa using this
end
section
open Go.RowKit Go.Sort Go.ChangeShapes Go.WideShapes Go.ChangeAt
theorem q51{W:World}{m:List (String × DataW Unit)}(h:laidMet Tryz.prog m W)(v:("remitter/digest.table",Rows.laid_remitter_digest_table)∈m)(w:("remitter/digest.begin",Rows.laid_remitter_digest_begin)∈m):Tabs W:=by
 refine⟨fun i o=> ?_,fun i o=> ?_⟩
 ·rw[qga h 5 v (g:=4) (by kernel_rfl) (t:=321) (by kernel_rfl) (l:=List.replicate 64 (.int .u32)) (by kernel_rfl)];have q:qz (H:=Unit) Rows.laid_remitter_digest_table=qnp.map (Value.int .u32):=by rfl
  rw[q,List.getElem?_map,List.getD_eq_getElem?_getD,List.getElem?_eq_getElem (show i<qnp.length from o)];rfl
 ·rw[qga h 5 w (g:=1) (by kernel_rfl) (t:=295) (by kernel_rfl) (l:=List.replicate 8 (.int .u32)) (by kernel_rfl)];have q:qz (H:=Unit) Rows.laid_remitter_digest_begin=qjf.map (Value.int .u32):=by rfl
  rw[q,List.getElem?_map,List.getD_eq_getElem?_getD,List.getElem?_eq_getElem (show i<qjf.length from o)];rfl
theorem zbh{W:World}{m:List (String × DataW Unit)}(h:laidMet Tryz.prog m W)(v:("remitter/htlc.events",Rows.laid_remitter_htlc_events)∈m)(w:("remitter/htlc.spans",Rows.laid_remitter_htlc_spans)∈m)(x:("remitter/digest.table",Rows.laid_remitter_digest_table)∈m)(y:("remitter/digest.begin",Rows.laid_remitter_digest_begin)∈m):Tc W:=by
 refine⟨⟨fun i o=> ?_⟩,⟨fun i o=> ?_⟩,q51 h x y⟩
 ·rw[qga h 5 v (g:=0) (by kernel_rfl) (t:=282) (by kernel_rfl) (l:=List.replicate 20 (.int .i64)) (by kernel_rfl)];have q:qz (H:=Unit) Rows.laid_remitter_htlc_events=qmf.map (Value.int .i64):=by rfl
  rw[q,List.getElem?_map,List.getD_eq_getElem?_getD,List.getElem?_eq_getElem (show i<qmf.length from o)];rfl
 ·rw[qga h 5 w (g:=2) (by kernel_rfl) (t:=303) (by kernel_rfl) (l:=List.replicate 4 (.int .i64)) (by kernel_rfl)];have q:qz (H:=Unit) Rows.laid_remitter_htlc_spans=qoj.map (Value.int .i64):=by rfl
  rw[q,List.getElem?_map,List.getD_eq_getElem?_getD,List.getElem?_eq_getElem (show i<qoj.length from o)];rfl
theorem zaf{W:World}{m:List (String × DataW Unit)}(h:laidMet Tryz.prog m W)(v:("remitter/htlc.events",Rows.laid_remitter_htlc_events)∈m)(w:("remitter/htlc.spans",Rows.laid_remitter_htlc_spans)∈m)(x:("remitter/digest.table",Rows.laid_remitter_digest_table)∈m)(y:("remitter/digest.begin",Rows.laid_remitter_digest_begin)∈m)(z:("math/bits.deBruijn64tab",Rows.laid_math_bits_deBruijn64tab)∈m):Tb W:=by
 obtain⟨a,b,c⟩:=zbh h v w x y;refine⟨a,b,c,⟨fun i o=> ?_⟩⟩;rw[qga h 5 z (g:=6) (by kernel_rfl) (t:=283) (by kernel_rfl) (l:=List.replicate 64 (.int .u8)) (by kernel_rfl)];have q:qz (H:=Unit) Rows.laid_math_bits_deBruijn64tab=Lib.deBruijn64tab.map (fun n:Nat=>Value.int .u8 n):=by rfl
 rw[q,List.getElem?_map,List.getD_eq_getElem?_getD,List.getElem?_eq_getElem (show i<Lib.deBruijn64tab.length from o)];rfl
end
end Go.Proofs.YtfmkdoachjgjbaaGreatDoor
