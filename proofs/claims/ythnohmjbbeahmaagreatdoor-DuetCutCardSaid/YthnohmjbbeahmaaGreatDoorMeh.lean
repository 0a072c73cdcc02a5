/-
  What a listed variable of a type without pointers holds, cell for cell.
-/
import Derived.Test.YthnohmjbbeahmaaGreatDoorMbf
import Derived.LaidLaws
import Derived.Lib.LaidTab
import Derived.Test.YthnohmjbbeahmaaGreatDoorMaa
import Derived.ProofKit
import Derived.OpenShut
import Derived.ShutString
import Derived.ChangeOld
import Derived.Test.YthnohmjbbeahmaaGreatDoorMbi
import Derived.Test.YthnohmjbbeahmaaGreatDoorRows
import Derived.Test.YthnohmjbbeahmaaGreatDoorMef
set_option linter.unusedVariables false
set_option linter.unusedSimpArgs false
namespace Go.Proofs.YthnohmjbbeahmaaGreatDoor
open Go.RowKit Go.ChangeShapes Go.WideShapes Go.ChangeAt Go.Deep
mutual
def qm{H:Type} : DataW H→List Value
 | .lit (.bool b)=>[.bool b]
 | .lit (.int k n)=>[.int k n]
 | .lit (.string b)=>[.string ⟨b.toArray⟩]
 | .agg ps=>qo5 ps
 | _=>[]
def qo5{H:Type} : List (DataW H)→List Value
 | []=>[]
 | d::r=>qm d++qo5 r
end
theorem qqr{H α:Type}(f:α→DataW H):∀l:List α,qo5 (l.map f)=(l.map fun x=>qm (f x)).flatten
 | []=>rfl
 | x::l=>by rw[List.map_cons,List.map_cons,List.flatten_cons,←qqr f l];rfl
section
variable {H:Type}{enc:TypeId × Value→H}{P:Program}{w:World}{base:Nat}{spare:Nat→Bool}{held:Bool}
theorem qp2{rec:TypeId→Option (List Leaf)}{cs:List Value}(q:∀t l c x m,rec t=some l→DataW.trod enc P w base spare held m t c=some x→c=qm x.1) :
  ∀(z:List Field) (o:Nat) (L:List Leaf) (xs:List (DataW H × List MemPlace)),qbx P rec o z=some L→cs.length=o+L.length→xs.length=z.length →
   (∀(i:Nat) f,z[i]? = some f→∃m,DataW.trod enc P w base spare held m f.type ((cs.drop f.offset).take (P.cellsOf f.type))=xs[i]?)→cs.drop o=qo5 (xs.map (·.1))
 | [],o,L,xs,h,y,v,_=>by
  simp only[qbx,Option.some.injEq] at h;subst h;rw[List.length_eq_zero_iff.1 v];exact List.drop_eq_nil_of_le (by simp at y;omega)
 | f::r,o,L,[],h,y,v,_=>by simp at v
 | f::r,o,L,x::xs,h,y,v,F=>by
  unfold qbx at h;cases C:rec f.type with
  | none=>rw[C] at h;cases h
  | some l =>
   rw[C] at h;simp only at h;split at h
   ·rename_i K;obtain⟨R,O⟩:=K;rw[Option.map_eq_some_iff] at h;obtain⟨M,J,rfl⟩:=h;obtain⟨m,D⟩:=F 0 f rfl;have E:=q _ _ _ _ _ C (D.trans rfl);rw[R,O] at E;rw[List.length_append] at y;have I:=qp2 q r (o+l.length) M xs J (by omega) (by simpa using v) (fun i g N=>F (i+1) g N);have e:cs.drop o=(cs.drop o).take l.length++cs.drop (o+l.length):=by
     rw[←List.drop_drop,List.take_append_drop]
    rw[e,E,I];rfl
   ·cases h
theorem qpe:∀(n:Nat) (t:TypeId) (l:List Leaf) (cs:List Value) (x:DataW H × List MemPlace) (g:Nat),qcp P n t=some l→DataW.trod enc P w base spare held g t cs=some x→cs=qm x.1
 | 0,_,_,_,_,_,h,_=>by simp[qcp] at h
 | n+1,t,l,cs,x,g,h,v=>by
  unfold qcp at h;split at h
  ·rename_i o;obtain⟨b,rfl,rfl⟩:=DataW.trod_bool o v;rfl
  ·rename_i k o;obtain⟨z,rfl,rfl,O⟩:=DataW.trod_int o v;rfl
  ·rename_i o;obtain⟨s,rfl,rfl,O⟩:=DataW.trod_string o v;rfl
  ·rename_i M o;split at h
   ·rename_i L E;split at h
    ·rename_i J;simp only[Option.some.injEq] at h;subst h;obtain⟨xs,m,_,rfl,q,C,F⟩:=DataW.trod_struct o v;have:=qp2 (rec:=qcp P n) (cs:=cs) (fun t l c x g D N=>qpe n t l c x g D N) M.toList 0 L xs E (by omega) (by simpa using C) fun i f I=>⟨m,F i f (by simpa using I)⟩
     exact this
    ·cases h
   ·cases h
  ·rename_i m e o;split at h
   ·rename_i L E;split at h
    ·rename_i J;simp only[Option.some.injEq] at h;subst h;obtain⟨xs,k,_,rfl,q,C,F⟩:=DataW.trod_array o v;show cs=qo5 (xs.map (·.1));rw[qqr];refine(qrw L.length m cs (by omega)).trans ?_;congr 1;apply List.ext_getElem?;intro i;by_cases K:i<m
     ·have D:=F i K;rw[J.1] at D;have y:xs[i]? = some (xs[i]'(by omega)):=List.getElem?_eq_getElem (by omega);rw[List.getElem?_map,List.getElem?_map,List.getElem?_range K,y];exact congrArg some (qpe n e _ _ _ k E (D.trans y))
     ·rw[List.getElem?_eq_none (by simp;omega),List.getElem?_eq_none (by simp;omega)]
    ·cases h
   ·cases h
  ·cases h
end
theorem qvi{P:Program}{w:World} : ∀ {i:List (String × DataW Unit)} {ps:List MemPlace},DataW.LaidVars P w i ps→∀ {n:String} {d:DataW Unit} {g:Nat} {t:TypeId} (k:Nat) {l:List Leaf},(n,d)∈i →
  P.globalNamed n=some g→(P.globals[g]?).map (·.type)=some t→qcp P k t=some l→w.var? P n=some (qm d).toArray
 | [],_,_,_,_,_,_,_,_,o,_,_,_=>by simp at o
 | (I,F)::rest,_,h,n,d,g,t,k,l,o,D,E,C=>by
  obtain⟨g',J,cs,z,p,q,x,y,v,hd,m,_⟩:=h;rcases List.mem_cons.1 o with e | o
  ·cases e;obtain rfl:=Option.some.inj (D.symm.trans x);obtain rfl:=Option.some.inj (E.symm.trans y);rw[v,←qpe k t l _ _ _ C hd]
  ·exact qvi m k o D E C
theorem qje{P:Program}{w:World}{m:List (String × DataW Unit)}(h:laidMet P m w){n:String}{d:DataW Unit}{g:Nat}{t:TypeId}(k:Nat){l:List Leaf}(x:(n,d)∈m)
  (o:P.globalNamed n=some g) (y:(P.globals[g]?).map (·.type)=some t) (q:qcp P k t=some l) (i:Nat):w.cell? ⟨g,i,none⟩=(qm d)[i]? := by
 obtain⟨ps,v,_⟩:=h
 have:=World.var?_cell o (qvi v k x o y q) i
 simpa using this
end Go.Proofs.YthnohmjbbeahmaaGreatDoor
namespace Go.Proofs.YthnohmjbbeahmaaGreatDoor
open Go.ChangeShapes Go.WideShapes Go.ChangeAt Go.RowKit
section
variable {H:Type}{enc:TypeId × Value→H}{P:Program}{W:World}{base:Nat}{t e:TypeId}{v:Value}{d:DataW H}{p:List MemPlace}
end
end Go.Proofs.YthnohmjbbeahmaaGreatDoor
namespace Go.Proofs.YthnohmjbbeahmaaGreatDoor
open Go.RowKit Go.Sort Go.ChangeShapes Go.WideShapes Go.ChangeAt
section
variable {W:World}
set_option maxRecDepth 100000 in
theorem q6i{m:List (String × DataW Unit)}(h:laidMet Tryz.prog m W)(m1:("remitter/htlc.events",Rows.laid_remitter_htlc_events)∈m)(q:("remitter/htlc.spans",Rows.laid_remitter_htlc_spans)∈m)(w:("remitter/digest.table",Rows.laid_remitter_digest_table)∈m)(x:("remitter/digest.begin",Rows.laid_remitter_digest_begin)∈m)(y:("math/bits.deBruijn64tab",Rows.laid_math_bits_deBruijn64tab)∈m):Tb W:=by
 refine⟨⟨fun i o=> ?_⟩,⟨fun i o=> ?_⟩,⟨fun i o=> ?_,fun i o=> ?_⟩,⟨fun i o=> ?_⟩⟩
 ·rw[qje h 5 m1 (g:=0) (by kernel_rfl) (t:=160) (by kernel_rfl) (l:=List.replicate 20 (.int .i64)) (by kernel_rfl)];have hv:qm (H:=Unit) Rows.laid_remitter_htlc_events=qq6.map (Value.int .i64):=by rfl
  rw[hv,List.getElem?_map,List.getD_eq_getElem?_getD,List.getElem?_eq_getElem (show i<qq6.length from o)];rfl
 ·rw[qje h 5 q (g:=2) (by kernel_rfl) (t:=186) (by kernel_rfl) (l:=List.replicate 4 (.int .i64)) (by kernel_rfl)];have hv:qm (H:=Unit) Rows.laid_remitter_htlc_spans=qto.map (Value.int .i64):=by rfl
  rw[hv,List.getElem?_map,List.getD_eq_getElem?_getD,List.getElem?_eq_getElem (show i<qto.length from o)];rfl
 ·rw[qje h 5 w (g:=3) (by kernel_rfl) (t:=220) (by kernel_rfl) (l:=List.replicate 64 (.int .u32)) (by kernel_rfl)];have hv:qm (H:=Unit) Rows.laid_remitter_digest_table=qk5.map (Value.int .u32):=by rfl
  rw[hv,List.getElem?_map,List.getD_eq_getElem?_getD,List.getElem?_eq_getElem (show i<qk5.length from o)];rfl
 ·rw[qje h 5 x (g:=1) (by kernel_rfl) (t:=184) (by kernel_rfl) (l:=List.replicate 8 (.int .u32)) (by kernel_rfl)];have hv:qm (H:=Unit) Rows.laid_remitter_digest_begin=qkc.map (Value.int .u32):=by rfl
  rw[hv,List.getElem?_map,List.getD_eq_getElem?_getD,List.getElem?_eq_getElem (show i<qkc.length from o)];rfl
 ·rw[qje h 5 y (g:=5) (by kernel_rfl) (t:=161) (by kernel_rfl) (l:=List.replicate 64 (.int .u8)) (by kernel_rfl)];have hv:qm (H:=Unit) Rows.laid_math_bits_deBruijn64tab=Lib.deBruijn64tab.map (fun n:Nat=>Value.int .u8 n):=by rfl
  rw[hv,List.getElem?_map,List.getD_eq_getElem?_getD,List.getElem?_eq_getElem (show i<Lib.deBruijn64tab.length from o)];rfl
end
section
variable {H:Type}{enc:TypeId × Value→H}{W:World}{base:Nat}{v:Value}{d:DataW H}{p:List MemPlace}
theorem qm1{n:Int}(h:(Lit.int .u64 n).wf=true):0≤n∧n<18446744073709551616:=by
 simp[Lit.wf,IntKind.min,IntKind.max,IntKind.signed,IntKind.bits] at h;omega
end
end Go.Proofs.YthnohmjbbeahmaaGreatDoor
namespace Go.Proofs.YthnohmjbbeahmaaGreatDoor
open Go.RowKit Go.Sort Go.ChangeShapes Go.WideShapes Go.ChangeAt Go.Deep
theorem qkf{n:Int}(h:(Lit.int .i64 n).wf=true) : -9223372036854775808≤n∧n≤9223372036854775807:=by
 simp[Lit.wf,IntKind.min,IntKind.max,IntKind.signed,IntKind.bits] at h;omega
theorem zjk{n:Int}(h:(Lit.int .u8 n).wf=true):0≤n∧n≤255:=by
 simp[Lit.wf,IntKind.min,IntKind.max,IntKind.signed,IntKind.bits] at h;omega
theorem qyk{w:World}{g o n:Nat}{A:List Value}(z:A.length=n)(y:0<n)(h:∀j,j<n→w.cell? ⟨g,o+j,none⟩=A[j]?):zu w g o n=some A.toArray:=by
 have i:=h (n-1) (by omega);rw[List.getElem?_eq_getElem (by omega)] at i;unfold World.cell? at i;cases l:w.heap[g]? with
 | none=>simp[l] at i
 | some x =>
  rw[l] at i;cases x with
  | cells C T m =>
   have t:o+(n-1)<C.size:=by
    by_cases e:o+(n-1)<C.size
    ·exact e
    ·rw[show (Obj.cells C T m) = .cells C T m from rfl] at i;have:C[o+(n-1)]? = none:=by simp;omega
     simp[this] at i
   rw[qbv l o n (by omega)];congr 1;apply Array.ext';apply List.ext_getElem?;intro j;rw[Array.getElem?_toList,Array.getElem?_extract];by_cases q:j<n
   ·rw[if_pos (by omega),←qh l,h j q]
   ·rw[if_neg (by omega),List.getElem?_eq_none (by simp;omega)]
  | _=>simp at i
section
variable {H:Type}{enc:TypeId × Value→H}{W:World}{base:Nat}{v:Value}{d:DataW H}{p:List MemPlace}
end
def qk9:List Leaf:=[.int .i64,.int .i64,.int .i64,.int .u64,.int .u64,.int .u8,.int .i64,.int .i64]
theorem q2g{c:List Value}(h:qda qk9 c):∃x:ActD,c=x.cells∧x.Ok:=by
 obtain⟨_,_,rfl,⟨k,rfl,q⟩,_,_,rfl,⟨s,rfl,y⟩,_,_,rfl,⟨e,rfl,m⟩,_,_,rfl,⟨n,rfl,t⟩,_,_,rfl,⟨i,rfl,o⟩,_,_,rfl,⟨p,rfl,w⟩,_,_,rfl,⟨l0,rfl,g⟩,_,_,rfl,⟨l1,rfl,l⟩,rfl⟩:=h;exact⟨⟨k,s,e,n,i,p,l0,l1⟩,rfl,qkf q,qkf y,qkf m,qm1 t,qm1 o,zjk w,qkf g,qkf l⟩
theorem qut:∀ {L:List (List Value)},(∀c∈L,∃x:ActD,c=x.cells∧x.Ok)→∃xs:List ActD,L=xs.map ActD.cells∧∀x∈xs,x.Ok
 | [],_=>⟨[],rfl,fun x h=>(by cases h)⟩
 | c::L,h=>by
  obtain⟨x,rfl,m⟩:=h c (List.mem_cons_self ..);obtain⟨xs,rfl,l⟩:=qut fun c i=>h c (List.mem_cons_of_mem _ i)
  exact⟨x::xs,rfl,by intro y g;rcases List.mem_cons.1 g with rfl | g;exact m;exact l y g⟩
theorem Tryz.flatAct14:qcp Tryz.prog 5 50=some qk9:=by kernel_rfl
theorem Tryz.cellsAct14:Tryz.prog.cellsOf 50=8:=by kernel_rfl
section
variable {H:Type}{enc:TypeId × Value→H}{W:World}{base:Nat}{v:Value}{d:DataW H}{p:List MemPlace}
set_option maxRecDepth 100000 in
theorem qio(hv:Value.okWide Tryz.prog W .any base 47 v)(h:DataW.Trod enc Tryz.prog W 0 (fun _=>true) true 47 v d p) :
  ∃xs:List ActD,qg6 W v xs∧∀x∈xs,x.Ok:=by
 have l:qk9.length=8:=rfl
 obtain⟨L,t,o⟩:=qq0 5 Tryz.underlying47 Tryz.flatAct14 (by rw[Tryz.cellsAct14,l]) (by rw[l];decide) hv h
 obtain⟨xs,rfl,hok⟩:=qut (fun c o=>q2g (t c o))
 rcases o with ⟨a,c,rfl,e⟩ | ⟨g,off,cap,e,y,z,C,_,m⟩
 ·obtain rfl:xs=[]:=by simpa using e
  exact⟨[],.inl ⟨_,_,rfl,rfl⟩,fun x q=>(by cases q)⟩
 ·rw[List.length_map] at e;refine⟨xs,.inr ⟨g,off,cap,e,fun i x q=> ?_⟩,hok⟩;refine qyk rfl (by decide) fun j w=> ?_
  have:=m i x.cells (by rw[List.getElem?_map,q];rfl) j (by rw[l];exact w);rw[l] at this;rw[←this,Nat.add_assoc]
end
end Go.Proofs.YthnohmjbbeahmaaGreatDoor
