/-
  What a listed variable of a type without pointers holds, cell for cell.
-/
import Derived.Test.YtfmkdoachjgjbaaGreatDoorMbf
import Derived.LaidLaws
import Derived.Lib.LaidTab
import Derived.Test.YtfmkdoachjgjbaaGreatDoorMbg
import Derived.Test.YtfmkdoachjgjbaaGreatDoorRows
set_option maxRecDepth 100000
set_option linter.unusedVariables false
set_option linter.unusedSimpArgs false
namespace Go.Proofs.YtfmkdoachjgjbaaGreatDoor
section
open Go.RowKit Go.ChangeShapes Go.WideShapes Go.ChangeAt Go.Deep
mutual
def ql{H:Type} : DataW H→List Value
 | .lit (.bool b)=>[.bool b]
 | .lit (.int k n)=>[.int k n]
 | .lit (.string b)=>[.string ⟨b.toArray⟩]
 | .agg ps=>qlp ps
 | _=>[]
def qlp{H:Type} : List (DataW H)→List Value
 | []=>[]
 | d::r=>ql d++qlp r
end
theorem qm4{H α:Type}(f:α→DataW H):∀l:List α,qlp (l.map f)=(l.map fun x=>ql (f x)).flatten
 | []=>rfl
 | x::l=>by rw[List.map_cons,List.map_cons,List.flatten_cons,←qm4 f l];rfl
section
variable {H:Type}{enc:TypeId × Value→H}{P:Program}{w:World}{base:Nat}{spare:Nat→Bool}{held:Bool}
theorem qmn{rec:TypeId→Option (List Leaf)}{cs:List Value}(q:∀t l c x m,rec t=some l→DataW.trod enc P w base spare held m t c=some x→c=ql x.1) :
  ∀(C:List Field) (o:Nat) (L:List Leaf) (xs:List (DataW H × List MemPlace)),qcq P rec o C=some L→cs.length=o+L.length→xs.length=C.length →
   (∀(i:Nat) f,C[i]? = some f→∃m,DataW.trod enc P w base spare held m f.type ((cs.drop f.offset).take (P.cellsOf f.type))=xs[i]?)→cs.drop o=qlp (xs.map (·.1))
 | [],o,L,xs,h,z,v,_=>by
  simp only[qcq,Option.some.injEq] at h;subst h;rw[List.length_eq_zero_iff.1 v];exact List.drop_eq_nil_of_le (by simp at z;omega)
 | f::r,o,L,[],h,z,v,_=>by simp at v
 | f::r,o,L,x::xs,h,z,v,J=>by
  unfold qcq at h;cases E:rec f.type with
  | none=>rw[E] at h;cases h
  | some l =>
   rw[E] at h;simp only at h;split at h
   ·rename_i O;obtain⟨T,S⟩:=O;rw[Option.map_eq_some_iff] at h;obtain⟨M,N,rfl⟩:=h;obtain⟨m,F⟩:=J 0 f rfl;have I:=q _ _ _ _ _ E (F.trans rfl);rw[T,S] at I;rw[List.length_append] at z;have K:=qmn q r (o+l.length) M xs N (by omega) (by simpa using v) (fun i g R=>J (i+1) g R);have e:cs.drop o=(cs.drop o).take l.length++cs.drop (o+l.length):=by
     rw[←List.drop_drop,List.take_append_drop]
    rw[e,I,K];rfl
   ·cases h
theorem qlu:∀(n:Nat) (t:TypeId) (l:List Leaf) (cs:List Value) (x:DataW H × List MemPlace) (q:Nat),qdf P n t=some l→DataW.trod enc P w base spare held q t cs=some x→cs=ql x.1
 | 0,_,_,_,_,_,h,_=>by simp[qdf] at h
 | n+1,t,l,cs,x,q,h,C=>by
  unfold qdf at h;split at h
  ·rename_i r;obtain⟨b,rfl,rfl⟩:=DataW.trod_bool r C;rfl
  ·rename_i k r;obtain⟨z,rfl,rfl,T⟩:=DataW.trod_int r C;rfl
  ·rename_i r;obtain⟨s,rfl,rfl,T⟩:=DataW.trod_string r C;rfl
  ·rename_i R r;split at h
   ·rename_i L J;split at h
    ·rename_i N;simp only[Option.some.injEq] at h;subst h;obtain⟨xs,m,_,rfl,v,F,K⟩:=DataW.trod_struct r C;have:=qmn (rec:=qdf P n) (cs:=cs) (fun t l c x q I S=>qlu n t l c x q I S) R.toList 0 L xs J (by omega) (by simpa using F) fun i f M=>⟨m,K i f (by simpa using M)⟩
     exact this
    ·cases h
   ·cases h
  ·rename_i m e r;split at h
   ·rename_i L J;split at h
    ·rename_i N;simp only[Option.some.injEq] at h;subst h;obtain⟨xs,k,_,rfl,v,F,K⟩:=DataW.trod_array r C;show cs=qlp (xs.map (·.1));rw[qm4];refine(qr6 L.length m cs (by omega)).trans ?_;congr 1;apply List.ext_getElem?;intro i;by_cases O:i<m
     ·have I:=K i O;rw[N.1] at I;have E:xs[i]? = some (xs[i]'(by omega)):=List.getElem?_eq_getElem (by omega);rw[List.getElem?_map,List.getElem?_map,List.getElem?_range O,E];exact congrArg some (qlu n e _ _ _ k J (I.trans E))
     ·rw[List.getElem?_eq_none (by simp;omega),List.getElem?_eq_none (by simp;omega)]
    ·cases h
   ·cases h
  ·cases h
end
theorem qqq{P:Program}{w:World} : ∀ {f:List (String × DataW Unit)} {ps:List MemPlace},DataW.LaidVars P w f ps→∀ {n:String} {d:DataW Unit} {g:Nat} {t:TypeId} (k:Nat) {l:List Leaf},(n,d)∈f →
  P.globalNamed n=some g→(P.globals[g]?).map (·.type)=some t→qdf P k t=some l→w.var? P n=some (ql d).toArray
 | [],_,_,_,_,_,_,_,_,m,_,_,_=>by simp at m
 | (L,J)::rest,_,h,n,d,g,t,k,l,m,F,I,E=>by
  obtain⟨K,M,cs,C,p,q,v,z,r,hd,i,_⟩:=h;rcases List.mem_cons.1 m with e | m
  ·cases e;obtain rfl:=Option.some.inj (F.symm.trans v);obtain rfl:=Option.some.inj (I.symm.trans z);rw[r,←qlu k t l _ _ _ E hd]
  ·exact qqq i k m F I E
theorem qg8{P:Program}{w:World}{f:List (String × DataW Unit)}(h:laidMet P f w){n:String}{d:DataW Unit}{g:Nat}{t:TypeId}(k:Nat){l:List Leaf}(v:(n,d)∈f)
  (m:P.globalNamed n=some g) (z:(P.globals[g]?).map (·.type)=some t) (q:qdf P k t=some l) (i:Nat):w.cell? ⟨g,i,none⟩=(ql d)[i]? := by
 obtain⟨ps,r,_⟩:=h
 have:=World.var?_cell m (qqq r k v m z q) i
 simpa using this
end
section
open Go.RowKit Go.Sort Go.ChangeShapes Go.WideShapes Go.ChangeAt
theorem q7w{W:World}{f:List (String × DataW Unit)}(h:laidMet Tryz.prog f W)(r:("remitter/digest.table",Rows.laid_remitter_digest_table)∈f)(v:("remitter/digest.begin",Rows.laid_remitter_digest_begin)∈f):Tabs W:=by
 refine⟨fun i m=> ?_,fun i m=> ?_⟩
 ·rw[qg8 h 5 r (g:=4) (by kernel_rfl) (t:=321) (by kernel_rfl) (l:=List.replicate 64 (.int .u32)) (by kernel_rfl)];have q:ql (H:=Unit) Rows.laid_remitter_digest_table=qip.map (Value.int .u32):=by rfl
  rw[q,List.getElem?_map,List.getD_eq_getElem?_getD,List.getElem?_eq_getElem (show i<qip.length from m)];rfl
 ·rw[qg8 h 5 v (g:=1) (by kernel_rfl) (t:=295) (by kernel_rfl) (l:=List.replicate 8 (.int .u32)) (by kernel_rfl)];have q:ql (H:=Unit) Rows.laid_remitter_digest_begin=qh3.map (Value.int .u32):=by rfl
  rw[q,List.getElem?_map,List.getD_eq_getElem?_getD,List.getElem?_eq_getElem (show i<qh3.length from m)];rfl
theorem zdh{W:World}{f:List (String × DataW Unit)}(h:laidMet Tryz.prog f W)(m1:("remitter/htlc.events",Rows.laid_remitter_htlc_events)∈f)(r:("remitter/htlc.spans",Rows.laid_remitter_htlc_spans)∈f)(v:("remitter/digest.table",Rows.laid_remitter_digest_table)∈f)(z:("remitter/digest.begin",Rows.laid_remitter_digest_begin)∈f):Tc W:=by
 refine⟨⟨fun i m=> ?_⟩,⟨fun i m=> ?_⟩,q7w h v z⟩
 ·rw[qg8 h 5 m1 (g:=0) (by kernel_rfl) (t:=282) (by kernel_rfl) (l:=List.replicate 20 (.int .i64)) (by kernel_rfl)];have q:ql (H:=Unit) Rows.laid_remitter_htlc_events=qnj.map (Value.int .i64):=by rfl
  rw[q,List.getElem?_map,List.getD_eq_getElem?_getD,List.getElem?_eq_getElem (show i<qnj.length from m)];rfl
 ·rw[qg8 h 5 r (g:=2) (by kernel_rfl) (t:=303) (by kernel_rfl) (l:=List.replicate 4 (.int .i64)) (by kernel_rfl)];have q:ql (H:=Unit) Rows.laid_remitter_htlc_spans=qpf.map (Value.int .i64):=by rfl
  rw[q,List.getElem?_map,List.getD_eq_getElem?_getD,List.getElem?_eq_getElem (show i<qpf.length from m)];rfl
theorem zch{W:World}{f:List (String × DataW Unit)}(h:laidMet Tryz.prog f W)(m1:("remitter/htlc.events",Rows.laid_remitter_htlc_events)∈f)(r:("remitter/htlc.spans",Rows.laid_remitter_htlc_spans)∈f)(v:("remitter/digest.table",Rows.laid_remitter_digest_table)∈f)(z:("remitter/digest.begin",Rows.laid_remitter_digest_begin)∈f)(C:("math/bits.deBruijn64tab",Rows.laid_math_bits_deBruijn64tab)∈f):Tb W:=by
 obtain⟨a,b,c⟩:=zdh h m1 r v z;refine⟨a,b,c,⟨fun i m=> ?_⟩⟩;rw[qg8 h 5 C (g:=6) (by kernel_rfl) (t:=283) (by kernel_rfl) (l:=List.replicate 64 (.int .u8)) (by kernel_rfl)];have q:ql (H:=Unit) Rows.laid_math_bits_deBruijn64tab=Lib.deBruijn64tab.map (fun n:Nat=>Value.int .u8 n):=by rfl
 rw[q,List.getElem?_map,List.getD_eq_getElem?_getD,List.getElem?_eq_getElem (show i<Lib.deBruijn64tab.length from m)];rfl
end
end Go.Proofs.YtfmkdoachjgjbaaGreatDoor
