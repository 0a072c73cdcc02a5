/-
  What a listed variable of a type without pointers holds, cell for cell.
-/
import Derived.Test.YthnohmjbbeahmaaGreatDoorMbg
import Derived.LaidLaws
import Derived.Lib.LaidTab
import Derived.Test.YthnohmjbbeahmaaGreatDoorMbj
import Derived.Test.YthnohmjbbeahmaaGreatDoorMei
import Derived.Test.YthnohmjbbeahmaaGreatDoorRows
import Derived.Test.YthnohmjbbeahmaaGreatDoorDl5
set_option linter.unusedVariables false
set_option linter.unusedSimpArgs false
namespace Go.Proofs.YthnohmjbbeahmaaGreatDoor
open Go.RowKit Go.ChangeShapes Go.WideShapes Go.ChangeAt Go.Deep
mutual
def qk{H:Type} : DataW H→List Value
 | .lit (.bool b)=>[.bool b]
 | .lit (.int k n)=>[.int k n]
 | .lit (.string b)=>[.string ⟨b.toArray⟩]
 | .agg ps=>qoe ps
 | _=>[]
def qoe{H:Type} : List (DataW H)→List Value
 | []=>[]
 | d::r=>qk d++qoe r
end
theorem qp1{H α:Type}(f:α→DataW H):∀l:List α,qoe (l.map f)=(l.map fun x=>qk (f x)).flatten
 | []=>rfl
 | x::l=>by rw[List.map_cons,List.map_cons,List.flatten_cons,←qp1 f l];rfl
section
variable {H:Type}{enc:TypeId × Value→H}{P:Program}{w:World}{base:Nat}{spare:Nat→Bool}{held:Bool}
theorem qph{rec:TypeId→Option (List Leaf)}{cs:List Value}(q:∀t l c x m,rec t=some l→DataW.trod enc P w base spare held m t c=some x→c=qk x.1) :
  ∀(C:List Field) (o:Nat) (L:List Leaf) (xs:List (DataW H × List MemPlace)),qbv P rec o C=some L→cs.length=o+L.length→xs.length=C.length →
   (∀(i:Nat) f,C[i]? = some f→∃m,DataW.trod enc P w base spare held m f.type ((cs.drop f.offset).take (P.cellsOf f.type))=xs[i]?)→cs.drop o=qoe (xs.map (·.1))
 | [],o,L,xs,h,z,v,_=>by
  simp only[qbv,Option.some.injEq] at h;subst h;rw[List.length_eq_zero_iff.1 v];exact List.drop_eq_nil_of_le (by simp at z;omega)
 | f::r,o,L,[],h,z,v,_=>by simp at v
 | f::r,o,L,x::xs,h,z,v,I=>by
  unfold qbv at h;cases D:rec f.type with
  | none=>rw[D] at h;cases h
  | some l =>
   rw[D] at h;simp only at h;split at h
   ·rename_i N;obtain⟨T,R⟩:=N;rw[Option.map_eq_some_iff] at h;obtain⟨M,K,rfl⟩:=h;obtain⟨m,E⟩:=I 0 f rfl;have F:=q _ _ _ _ _ D (E.trans rfl);rw[T,R] at F;rw[List.length_append] at z;have J:=qph q r (o+l.length) M xs K (by omega) (by simpa using v) (fun i g O=>I (i+1) g O);have e:cs.drop o=(cs.drop o).take l.length++cs.drop (o+l.length):=by
     rw[←List.drop_drop,List.take_append_drop]
    rw[e,F,J];rfl
   ·cases h
theorem qon:∀(n:Nat) (t:TypeId) (l:List Leaf) (cs:List Value) (x:DataW H × List MemPlace) (g:Nat),qde P n t=some l→DataW.trod enc P w base spare held g t cs=some x→cs=qk x.1
 | 0,_,_,_,_,_,h,_=>by simp[qde] at h
 | n+1,t,l,cs,x,g,h,v=>by
  unfold qde at h;split at h
  ·rename_i o;obtain⟨b,rfl,rfl⟩:=DataW.trod_bool o v;rfl
  ·rename_i k o;obtain⟨z,rfl,rfl,R⟩:=DataW.trod_int o v;rfl
  ·rename_i o;obtain⟨s,rfl,rfl,R⟩:=DataW.trod_string o v;rfl
  ·rename_i N o;split at h
   ·rename_i L F;split at h
    ·rename_i K;simp only[Option.some.injEq] at h;subst h;obtain⟨xs,m,_,rfl,q,D,I⟩:=DataW.trod_struct o v;have:=qph (rec:=qde P n) (cs:=cs) (fun t l c x g E O=>qon n t l c x g E O) N.toList 0 L xs F (by omega) (by simpa using D) fun i f J=>⟨m,I i f (by simpa using J)⟩
     exact this
    ·cases h
   ·cases h
  ·rename_i m e o;split at h
   ·rename_i L F;split at h
    ·rename_i K;simp only[Option.some.injEq] at h;subst h;obtain⟨xs,k,_,rfl,q,D,I⟩:=DataW.trod_array o v;show cs=qoe (xs.map (·.1));rw[qp1];refine(qq6 L.length m cs (by omega)).trans ?_;congr 1;apply List.ext_getElem?;intro i;by_cases M:i<m
     ·have E:=I i M;rw[K.1] at E;have C:xs[i]? = some (xs[i]'(by omega)):=List.getElem?_eq_getElem (by omega);rw[List.getElem?_map,List.getElem?_map,List.getElem?_range M,C];exact congrArg some (qon n e _ _ _ k F (E.trans C))
     ·rw[List.getElem?_eq_none (by simp;omega),List.getElem?_eq_none (by simp;omega)]
    ·cases h
   ·cases h
  ·cases h
end
theorem quh{P:Program}{w:World} : ∀ {i:List (String × DataW Unit)} {ps:List MemPlace},DataW.LaidVars P w i ps→∀ {n:String} {d:DataW Unit} {g:Nat} {t:TypeId} (k:Nat) {l:List Leaf},(n,d)∈i →
  P.globalNamed n=some g→(P.globals[g]?).map (·.type)=some t→qde P k t=some l→w.var? P n=some (qk d).toArray
 | [],_,_,_,_,_,_,_,_,o,_,_,_=>by simp at o
 | (K,J)::rest,_,h,n,d,g,t,k,l,o,F,I,E=>by
  obtain⟨g',L,cs,D,p,q,z,C,v,hd,m,_⟩:=h;rcases List.mem_cons.1 o with e | o
  ·cases e;obtain rfl:=Option.some.inj (F.symm.trans z);obtain rfl:=Option.some.inj (I.symm.trans C);rw[v,←qon k t l _ _ _ E hd]
  ·exact quh m k o F I E
theorem qix{P:Program}{w:World}{m:List (String × DataW Unit)}(h:laidMet P m w){n:String}{d:DataW Unit}{g:Nat}{t:TypeId}(k:Nat){l:List Leaf}(z:(n,d)∈m)
  (o:P.globalNamed n=some g) (C:(P.globals[g]?).map (·.type)=some t) (q:qde P k t=some l) (i:Nat):w.cell? ⟨g,i,none⟩=(qk d)[i]? := by
 obtain⟨ps,v,_⟩:=h
 have:=World.var?_cell o (quh v k z o C q) i
 simpa using this
end Go.Proofs.YthnohmjbbeahmaaGreatDoor
namespace Go.Proofs.YthnohmjbbeahmaaGreatDoor
open Go.RowKit Go.Sort Go.ChangeShapes Go.WideShapes Go.ChangeAt
section
variable {W:World}
set_option maxRecDepth 100000 in
theorem zix{m:List (String × DataW Unit)}(h:laidMet Tryz.prog m W)(m1:("remitter/htlc.events",Rows.laid_remitter_htlc_events)∈m)(q:("remitter/htlc.spans",Rows.laid_remitter_htlc_spans)∈m)(w:("remitter/digest.table",Rows.laid_remitter_digest_table)∈m)(z:("remitter/digest.begin",Rows.laid_remitter_digest_begin)∈m)(C:("math/bits.deBruijn64tab",Rows.laid_math_bits_deBruijn64tab)∈m):Tb W:=by
 refine⟨⟨fun i o=> ?_⟩,⟨fun i o=> ?_⟩,⟨fun i o=> ?_,fun i o=> ?_⟩,⟨fun i o=> ?_⟩⟩
 ·rw[qix h 5 m1 (g:=0) (by kernel_rfl) (t:=160) (by kernel_rfl) (l:=List.replicate 20 (.int .i64)) (by kernel_rfl)];have hv:qk (H:=Unit) Rows.laid_remitter_htlc_events=qqe.map (Value.int .i64):=by rfl
  rw[hv,List.getElem?_map,List.getD_eq_getElem?_getD,List.getElem?_eq_getElem (show i<qqe.length from o)];rfl
 ·rw[qix h 5 q (g:=2) (by kernel_rfl) (t:=186) (by kernel_rfl) (l:=List.replicate 4 (.int .i64)) (by kernel_rfl)];have hv:qk (H:=Unit) Rows.laid_remitter_htlc_spans=qsw.map (Value.int .i64):=by rfl
  rw[hv,List.getElem?_map,List.getD_eq_getElem?_getD,List.getElem?_eq_getElem (show i<qsw.length from o)];rfl
 ·rw[qix h 5 w (g:=3) (by kernel_rfl) (t:=220) (by kernel_rfl) (l:=List.replicate 64 (.int .u32)) (by kernel_rfl)];have hv:qk (H:=Unit) Rows.laid_remitter_digest_table=qkm.map (Value.int .u32):=by rfl
  rw[hv,List.getElem?_map,List.getD_eq_getElem?_getD,List.getElem?_eq_getElem (show i<qkm.length from o)];rfl
 ·rw[qix h 5 z (g:=1) (by kernel_rfl) (t:=184) (by kernel_rfl) (l:=List.replicate 8 (.int .u32)) (by kernel_rfl)];have hv:qk (H:=Unit) Rows.laid_remitter_digest_begin=qjw.map (Value.int .u32):=by rfl
  rw[hv,List.getElem?_map,List.getD_eq_getElem?_getD,List.getElem?_eq_getElem (show i<qjw.length from o)];rfl
 ·rw[qix h 5 C (g:=5) (by kernel_rfl) (t:=161) (by kernel_rfl) (l:=List.replicate 64 (.int .u8)) (by kernel_rfl)];have hv:qk (H:=Unit) Rows.laid_math_bits_deBruijn64tab=Lib.deBruijn64tab.map (fun n:Nat=>Value.int .u8 n):=by rfl
  rw[hv,List.getElem?_map,List.getD_eq_getElem?_getD,List.getElem?_eq_getElem (show i<Lib.deBruijn64tab.length from o)];rfl
end
section
variable {H:Type}{enc:TypeId × Value→H}{W:World}{base:Nat}{v:Value}{d:DataW H}{p:List MemPlace}
end
end Go.Proofs.YthnohmjbbeahmaaGreatDoor
namespace Go.Proofs.YthnohmjbbeahmaaGreatDoor
open Go.RowKit Go.Sort Go.ChangeShapes Go.WideShapes Go.ChangeAt Go.Deep
theorem q4c{n:Int}(h:(Lit.int .i64 n).wf=true) : -9223372036854775808≤n∧n≤9223372036854775807:=by
 simp[Lit.wf,IntKind.min,IntKind.max,IntKind.signed,IntKind.bits] at h;omega
section
variable {H:Type}{enc:TypeId × Value→H}{W:World}{base:Nat}{v:Value}{d:DataW H}{p:List MemPlace}
end
section
variable {H:Type}{enc:TypeId × Value→H}{W:World}{base:Nat}{v:Value}{d:DataW H}{p:List MemPlace}
end
theorem qzp{P:Program}{w:World}{r:Reach}{b0 n:Nat}{k e:TypeId}{v:Value}(i:P.underlying k=some (.array n e))(h:Value.okWide P w r b0 k v):∃cs,v = .agg cs:=by
 simp only[Value.okWide,i] at h;obtain⟨cs,g,_⟩:=h;exact⟨cs,g⟩
section
variable {H:Type}{enc:TypeId × Value→H}{W:World}{base:Nat}{v:Value}{d:DataW H}{p:List MemPlace}
set_option maxRecDepth 100000 in
theorem zbk(hv:Value.okWide Tryz.prog W .any base 23 v)(h:DataW.Trod enc Tryz.prog W 0 (fun _=>true) true 23 v d p) :
  ∃l r:Int,v = .agg #[.int .i64 l,.int .i64 r]∧(-9223372036854775808≤l∧l≤9223372036854775807)∧(-9223372036854775808≤r∧r≤9223372036854775807):=by
 obtain⟨cs,rfl⟩:=qzp Tryz.underlying23 hv
 obtain⟨g,o⟩:=h
 have:=qom 3 23 [.int .i64,.int .i64] _ _ _ (by kernel_rfl) o
 obtain⟨_,_,e,⟨i,rfl,q⟩,_,_,rfl,⟨a,rfl,m⟩,rfl⟩:=this
 refine⟨i,a,?_,q4c q,q4c m⟩
 congr 1
 apply Array.ext'
 simpa [Value.cells] using e
end
end Go.Proofs.YthnohmjbbeahmaaGreatDoor
namespace Go.Proofs.YthnohmjbbeahmaaGreatDoor
open Go.RowKit
theorem q04(v:Value)(l:List Int)(l0 l1:Int)(W:World)(hv:qih .u8 W v l)(g : -9223372036854775808≤l0∧l0≤9223372036854775807)(i : -9223372036854775808≤l1∧l1≤9223372036854775807)(m:Tb W):Calls Tryz.prog 3 #[v,.agg #[.int .i64 l0,.int .i64 l1]] W (qbr (.bool true) W) :=
 q46 v l l0 l1 g i W hv m
end Go.Proofs.YthnohmjbbeahmaaGreatDoor
