/-
  What a listed variable of a type without pointers holds, cell for cell.
-/
import Derived.Test.YtfmkdoachjgjbaaGreatDoorMaj
import Derived.LaidLaws
import Derived.Lib.LaidTab
import Derived.Test.YtfmkdoachjgjbaaGreatDoorMba
import Derived.Test.YtfmkdoachjgjbaaGreatDoorRows
set_option maxRecDepth 100000
set_option linter.unusedVariables false
set_option linter.unusedSimpArgs false
namespace Go.Proofs.YtfmkdoachjgjbaaGreatDoor
section
open Go.RowKit Go.ChangeShapes Go.WideShapes Go.ChangeAt Go.Deep
mutual
def qj{H:Type} : DataW H→List Value
 | .lit (.bool b)=>[.bool b]
 | .lit (.int k n)=>[.int k n]
 | .lit (.string b)=>[.string ⟨b.toArray⟩]
 | .agg ps=>qli ps
 | _=>[]
def qli{H:Type} : List (DataW H)→List Value
 | []=>[]
 | d::r=>qj d++qli r
end
theorem qmv{H α:Type}(f:α→DataW H):∀l:List α,qli (l.map f)=(l.map fun x=>qj (f x)).flatten
 | []=>rfl
 | x::l=>by rw[List.map_cons,List.map_cons,List.flatten_cons,←qmv f l];rfl
section
variable {H:Type}{enc:TypeId × Value→H}{P:Program}{w:World}{base:Nat}{spare:Nat→Bool}{held:Bool}
theorem qmh{rec:TypeId→Option (List Leaf)}{cs:List Value}(p:∀t l c x m,rec t=some l→DataW.trod enc P w base spare held m t c=some x→c=qj x.1) :
  ∀(z:List Field) (o:Nat) (L:List Leaf) (xs:List (DataW H × List MemPlace)),qcl P rec o z=some L→cs.length=o+L.length→xs.length=z.length →
   (∀(i:Nat) f,z[i]? = some f→∃m,DataW.trod enc P w base spare held m f.type ((cs.drop f.offset).take (P.cellsOf f.type))=xs[i]?)→cs.drop o=qli (xs.map (·.1))
 | [],o,L,xs,h,v,q,_=>by
  simp only[qcl,Option.some.injEq] at h;subst h;rw[List.length_eq_zero_iff.1 q];exact List.drop_eq_nil_of_le (by simp at v;omega)
 | f::r,o,L,[],h,v,q,_=>by simp at q
 | f::r,o,L,x::xs,h,v,q,I=>by
  unfold qcl at h;cases C:rec f.type with
  | none=>rw[C] at h;cases h
  | some l =>
   rw[C] at h;simp only at h;split at h
   ·rename_i N;obtain⟨S,R⟩:=N;rw[Option.map_eq_some_iff] at h;obtain⟨M,K,rfl⟩:=h;obtain⟨m,E⟩:=I 0 f rfl;have F:=p _ _ _ _ _ C (E.trans rfl);rw[S,R] at F;rw[List.length_append] at v;have J:=qmh p r (o+l.length) M xs K (by omega) (by simpa using q) (fun i g O=>I (i+1) g O);have e:cs.drop o=(cs.drop o).take l.length++cs.drop (o+l.length):=by
     rw[←List.drop_drop,List.take_append_drop]
    rw[e,F,J];rfl
   ·cases h
theorem qln:∀(n:Nat) (t:TypeId) (l:List Leaf) (cs:List Value) (x:DataW H × List MemPlace) (p:Nat),qc9 P n t=some l→DataW.trod enc P w base spare held p t cs=some x→cs=qj x.1
 | 0,_,_,_,_,_,h,_=>by simp[qc9] at h
 | n+1,t,l,cs,x,p,h,C=>by
  unfold qc9 at h;split at h
  ·rename_i q;obtain⟨b,rfl,rfl⟩:=DataW.trod_bool q C;rfl
  ·rename_i k q;obtain⟨z,rfl,rfl,T⟩:=DataW.trod_int q C;rfl
  ·rename_i q;obtain⟨s,rfl,rfl,T⟩:=DataW.trod_string q C;rfl
  ·rename_i R q;split at h
   ·rename_i L J;split at h
    ·rename_i N;simp only[Option.some.injEq] at h;subst h;obtain⟨xs,m,_,rfl,v,F,K⟩:=DataW.trod_struct q C;have:=qmh (rec:=qc9 P n) (cs:=cs) (fun t l c x p I S=>qln n t l c x p I S) R.toList 0 L xs J (by omega) (by simpa using F) fun i f M=>⟨m,K i f (by simpa using M)⟩
     exact this
    ·cases h
   ·cases h
  ·rename_i m e q;split at h
   ·rename_i L J;split at h
    ·rename_i N;simp only[Option.some.injEq] at h;subst h;obtain⟨xs,k,_,rfl,v,F,K⟩:=DataW.trod_array q C;show cs=qli (xs.map (·.1));rw[qmv];refine(qr3 L.length m cs (by omega)).trans ?_;congr 1;apply List.ext_getElem?;intro i;by_cases O:i<m
     ·have I:=K i O;rw[N.1] at I;have E:xs[i]? = some (xs[i]'(by omega)):=List.getElem?_eq_getElem (by omega);rw[List.getElem?_map,List.getElem?_map,List.getElem?_range O,E];exact congrArg some (qln n e _ _ _ k J (I.trans E))
     ·rw[List.getElem?_eq_none (by simp;omega),List.getElem?_eq_none (by simp;omega)]
    ·cases h
   ·cases h
  ·cases h
end
theorem qqp{P:Program}{w:World} : ∀ {f:List (String × DataW Unit)} {ps:List MemPlace},DataW.LaidVars P w f ps→∀ {n:String} {d:DataW Unit} {g:Nat} {t:TypeId} (k:Nat) {l:List Leaf},(n,d)∈f →
  P.globalNamed n=some g→(P.globals[g]?).map (·.type)=some t→qc9 P k t=some l→w.var? P n=some (qj d).toArray
 | [],_,_,_,_,_,_,_,_,m,_,_,_=>by simp at m
 | (M,K)::rest,_,h,n,d,g,t,k,l,m,I,J,F=>by
  obtain⟨L,N,cs,E,p,q,z,C,v,hd,i,_⟩:=h;rcases List.mem_cons.1 m with e | m
  ·cases e;obtain rfl:=Option.some.inj (I.symm.trans z);obtain rfl:=Option.some.inj (J.symm.trans C);rw[v,←qln k t l _ _ _ F hd]
  ·exact qqp i k m I J F
theorem qg3{P:Program}{w:World}{f:List (String × DataW Unit)}(h:laidMet P f w){n:String}{d:DataW Unit}{g:Nat}{t:TypeId}(k:Nat){l:List Leaf}(v:(n,d)∈f)
  (m:P.globalNamed n=some g) (z:(P.globals[g]?).map (·.type)=some t) (p:qc9 P k t=some l) (i:Nat):w.cell? ⟨g,i,none⟩=(qj d)[i]? := by
 obtain⟨ps,q,_⟩:=h
 have:=World.var?_cell m (qqp q k v m z p) i
 simpa using this
end
section
open Go.RowKit Go.Sort Go.ChangeShapes Go.WideShapes Go.ChangeAt
theorem q79{W:World}{f:List (String × DataW Unit)}(h:laidMet Tryz.prog f W)(q:("remitter/digest.table",Rows.laid_remitter_digest_table)∈f)(v:("remitter/digest.begin",Rows.laid_remitter_digest_begin)∈f):Tabs W:=by
 refine⟨fun i m=> ?_,fun i m=> ?_⟩
 ·rw[qg3 h 5 q (g:=4) (by kernel_rfl) (t:=321) (by kernel_rfl) (l:=List.replicate 64 (.int .u32)) (by kernel_rfl)];have p:qj (H:=Unit) Rows.laid_remitter_digest_table=qil.map (Value.int .u32):=by rfl
  rw[p,List.getElem?_map,List.getD_eq_getElem?_getD,List.getElem?_eq_getElem (show i<qil.length from m)];rfl
 ·rw[qg3 h 5 v (g:=1) (by kernel_rfl) (t:=295) (by kernel_rfl) (l:=List.replicate 8 (.int .u32)) (by kernel_rfl)];have p:qj (H:=Unit) Rows.laid_remitter_digest_begin=qhz.map (Value.int .u32):=by rfl
  rw[p,List.getElem?_map,List.getD_eq_getElem?_getD,List.getElem?_eq_getElem (show i<qhz.length from m)];rfl
theorem zd6{W:World}{f:List (String × DataW Unit)}(h:laidMet Tryz.prog f W)(m1:("remitter/htlc.events",Rows.laid_remitter_htlc_events)∈f)(q:("remitter/htlc.spans",Rows.laid_remitter_htlc_spans)∈f)(v:("remitter/digest.table",Rows.laid_remitter_digest_table)∈f)(z:("remitter/digest.begin",Rows.laid_remitter_digest_begin)∈f):Tc W:=by
 refine⟨⟨fun i m=> ?_⟩,⟨fun i m=> ?_⟩,q79 h v z⟩
 ·rw[qg3 h 5 m1 (g:=0) (by kernel_rfl) (t:=282) (by kernel_rfl) (l:=List.replicate 20 (.int .i64)) (by kernel_rfl)];have p:qj (H:=Unit) Rows.laid_remitter_htlc_events=qnb.map (Value.int .i64):=by rfl
  rw[p,List.getElem?_map,List.getD_eq_getElem?_getD,List.getElem?_eq_getElem (show i<qnb.length from m)];rfl
 ·rw[qg3 h 5 q (g:=2) (by kernel_rfl) (t:=303) (by kernel_rfl) (l:=List.replicate 4 (.int .i64)) (by kernel_rfl)];have p:qj (H:=Unit) Rows.laid_remitter_htlc_spans=qpa.map (Value.int .i64):=by rfl
  rw[p,List.getElem?_map,List.getD_eq_getElem?_getD,List.getElem?_eq_getElem (show i<qpa.length from m)];rfl
theorem zcy{W:World}{f:List (String × DataW Unit)}(h:laidMet Tryz.prog f W)(m1:("remitter/htlc.events",Rows.laid_remitter_htlc_events)∈f)(q:("remitter/htlc.spans",Rows.laid_remitter_htlc_spans)∈f)(v:("remitter/digest.table",Rows.laid_remitter_digest_table)∈f)(z:("remitter/digest.begin",Rows.laid_remitter_digest_begin)∈f)(C:("math/bits.deBruijn64tab",Rows.laid_math_bits_deBruijn64tab)∈f):Tb W:=by
 obtain⟨a,b,c⟩:=zd6 h m1 q v z;refine⟨a,b,c,⟨fun i m=> ?_⟩⟩;rw[qg3 h 5 C (g:=6) (by kernel_rfl) (t:=283) (by kernel_rfl) (l:=List.replicate 64 (.int .u8)) (by kernel_rfl)];have p:qj (H:=Unit) Rows.laid_math_bits_deBruijn64tab=Lib.deBruijn64tab.map (fun n:Nat=>Value.int .u8 n):=by rfl
 rw[p,List.getElem?_map,List.getD_eq_getElem?_getD,List.getElem?_eq_getElem (show i<Lib.deBruijn64tab.length from m)];rfl
end
end Go.Proofs.YtfmkdoachjgjbaaGreatDoor
