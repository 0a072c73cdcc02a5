/-
  Types without pointers: what their cells are, read off the type. One law for every such argument.
-/
import Derived.Test.YtfmkdoachjgjbaaGreatDoorMaa
import Derived.ProofKit
import Derived.OpenShut
import Derived.ShutString
import Derived.ChangeOld
import Derived.Deep.Slices
import GoSem.Claim
import Derived.Test.YtfmkdoachjgjbaaGreatDoorProg
import Derived.Test.YtfmkdoachjgjbaaGreatDoorRows
import Derived.Deep.RegionHeld3
import Derived.Orders
set_option maxRecDepth 100000
set_option maxHeartbeats 1000000
set_option linter.unusedVariables false
set_option linter.unusedSimpArgs false
namespace Go.Proofs.YtfmkdoachjgjbaaGreatDoor
section
open Go.RowKit Go.ChangeShapes Go.WideShapes Go.ChangeAt Go.Deep
inductive Leaf where
 | bool
 | int (k:IntKind)
 | str
 deriving DecidableEq
def Leaf.fits:Leaf→Value→Prop
 | .bool,v=>∃b,v = .bool b
 | .int k,v=>∃n,v = .int k n∧(Lit.int k n).wf=true
 | .str,v=>∃s:ByteArray,v = .string s∧s.size≤maxLen
def qcs:List Leaf→List Value→Prop
 | [],cs=>cs=[]
 | l::ls,cs=>∃v r,cs=v::r∧l.fits v∧qcs ls r
theorem qcs.len:∀ {ls:List Leaf} {cs:List Value},qcs ls cs→cs.length=ls.length
 | [],_,h=>by rw[show _=[] from h];rfl
 | l::ls,_,h=>by obtain⟨v,r,rfl,_,i⟩:=h;simp[i.len]
theorem qcs.app:∀ {ls m:List Leaf} {cs i:List Value},qcs ls cs→qcs m i→qcs (ls++m) (cs++i)
 | [],_,_,_,h,k=>by rw[show _=[] from h];exact k
 | l::ls,_,_,_,h,k=>by obtain⟨v,r,rfl,q,o⟩:=h;exact⟨v,_,rfl,q,o.app k⟩
theorem qcs.split:∀ {ls i:List Leaf} {cs:List Value},qcs (ls++i) cs→∃a b,cs=a++b∧qcs ls a∧qcs i b
 | [],_,cs,h=>⟨[],cs,rfl,rfl,h⟩
 | l::ls,_,_,h=>by
  obtain⟨v,r,rfl,t,q⟩:=h;obtain⟨a,b,rfl,m,o⟩:=qcs.split q;exact⟨v::a,b,rfl,⟨v,a,rfl,t,m⟩,o⟩
theorem qcs.cat:∀ {L:List (List Leaf)} {C:List (List Value)},L.length=C.length→(∀(i:Nat) l c,L[i]? = some l→C[i]? = some c→qcs l c)→qcs L.flatten C.flatten
 | [],[],_,_=>rfl
 | [],_::_,h,_=>by simp at h
 | _::_,[],h,_=>by simp at h
 | l::L,c::C,h,k=>by
  rw[List.flatten_cons,List.flatten_cons];exact(k 0 l c rfl rfl).app (qcs.cat (by simpa using h) fun i x y m o=>k (i+1) x y m o)
def qbi(P:Program)(rec:TypeId→Option (List Leaf)):Nat→List Field→Option (List Leaf)
 | _,[]=>some []
 | o,f::r=>match rec f.type with
  | none=>none
  | some l=>if f.offset=o∧P.cellsOf f.type=l.length then (qbi P rec (o+l.length) r).map (l ++ ·) else none
def qb4(P:Program):Nat→TypeId→Option (List Leaf)
 | 0,_=>none
 | n+1,t=>match P.underlying t with
  | some .bool=>some [.bool]
  | some (.int k)=>some [.int k]
  | some .string=>some [.str]
  | some (.struct i)=>match qbi P (qb4 P n) 0 i.toList with
   | some l=>if P.cellsOf t=l.length then some l else none
   | none=>none
  | some (.array m e)=>match qb4 P n e with
   | some l=>if P.cellsOf e=l.length∧P.cellsOf t=m*l.length then some (List.replicate m l).flatten else none
   | none=>none
  | _=>none
section
variable {H:Type}{enc:TypeId × Value→H}{P:Program}{w:World}{base:Nat}{spare:Nat→Bool}{held:Bool}
theorem qnb{rec:TypeId→Option (List Leaf)}{cs:List Value}(m:∀t l c x i,rec t=some l→DataW.trod enc P w base spare held i t c=some x→qcs l c) :
  ∀(y:List Field) (o:Nat) (L:List Leaf),qbi P rec o y=some L→cs.length=o+L.length →
   (∀f∈y,∃i x,DataW.trod enc P w base spare held i f.type ((cs.drop f.offset).take (P.cellsOf f.type))=some x)→qcs L (cs.drop o)
 | [],o,L,h,q,_=>by
  simp only[qbi,Option.some.injEq] at h;subst h;show cs.drop o=[];exact List.drop_eq_nil_of_le (by simp at q;omega)
 | f::r,o,L,h,q,C=>by
  unfold qbi at h;cases v:rec f.type with
  | none=>rw[v] at h;cases h
  | some l =>
   rw[v] at h;simp only at h;split at h
   ·rename_i I;obtain⟨N,K⟩:=I;rw[Option.map_eq_some_iff] at h;obtain⟨M,E,rfl⟩:=h;obtain⟨i,x,O⟩:=C f (List.mem_cons_self ..);have z:=m _ _ _ _ _ v O;rw[N,K] at z;rw[List.length_append] at q;have D:=qnb m r (o+l.length) M E (by omega) (fun g J=>C g (List.mem_cons_of_mem _ J));have e:cs.drop o=(cs.drop o).take l.length++cs.drop (o+l.length):=by
     rw[←List.drop_drop,List.take_append_drop]
    rw[e];exact z.app D
   ·cases h
theorem qm8(k:Nat):∀(m:Nat) (cs:List Value),cs.length=m*k→cs=((List.range m).map fun i=>(cs.drop (i*k)).take k).flatten
 | 0,cs,h=>by
  have:cs=[]:=List.length_eq_zero_iff.1 (by omega);subst this;rfl
 | m+1,cs,h=>by
  have o:=qm8 k m (cs.drop k) (by rw[List.length_drop,h,Nat.succ_mul];omega);rw[List.range_succ_eq_map,List.map_cons,List.flatten_cons,Nat.zero_mul,List.drop_zero,List.map_map];have e:((List.range m).map ((fun i=>(cs.drop (i*k)).take k) ∘ Nat.succ))=((List.range m).map fun i=>((cs.drop k).drop (i*k)).take k):=by
   apply List.map_congr_left;intro i _;show (cs.drop ((i+1)*k)).take k=_;rw[List.drop_drop,Nat.succ_mul,Nat.add_comm]
  rw[e,←o,List.take_append_drop]
theorem qke:∀(n:Nat) (t:TypeId) (l:List Leaf) (cs:List Value) (x:DataW H × List MemPlace) (o:Nat),qb4 P n t=some l→DataW.trod enc P w base spare held o t cs=some x→qcs l cs
 | 0,_,_,_,_,_,h,_=>by simp[qb4] at h
 | n+1,t,l,cs,x,o,h,D=>by
  unfold qb4 at h;split at h
  ·rename_i q;obtain⟨b,rfl,_⟩:=DataW.trod_bool q D;simp only[Option.some.injEq] at h;subst h;exact⟨_,_,rfl,⟨b,rfl⟩,rfl⟩
  ·rename_i k q;obtain⟨z,rfl,_,O⟩:=DataW.trod_int q D;simp only[Option.some.injEq] at h;subst h;exact⟨_,_,rfl,⟨z,rfl,O⟩,rfl⟩
  ·rename_i q;obtain⟨s,rfl,_,O⟩:=DataW.trod_string q D;simp only[Option.some.injEq] at h;subst h;exact⟨_,_,rfl,⟨s,rfl,O⟩,rfl⟩
  ·rename_i T q;split at h
   ·rename_i L J;split at h
    ·rename_i R;simp only[Option.some.injEq] at h;subst h;obtain⟨xs,m,_,_,C,E,K⟩:=DataW.trod_struct q D;refine qnb (rec:=qb4 P n) (cs:=cs) (fun t l c x o U V=>qke n t l c x o U V) T.toList 0 L J (by omega) fun f M=> ?_
     obtain⟨i,v⟩:=List.getElem?_of_mem M;rw[Array.getElem?_toList] at v;have:=K i f v;have N:i<xs.length:=by rw[E];exact(Array.getElem?_eq_some_iff.1 v).1
     rw[List.getElem?_eq_getElem N] at this;exact⟨m,_,this⟩
    ·cases h
   ·cases h
  ·rename_i m e q;split at h
   ·rename_i L J;split at h
    ·rename_i R;simp only[Option.some.injEq] at h;subst h;obtain⟨xs,k,_,_,C,E,K⟩:=DataW.trod_array q D;rw[qm8 L.length m cs (by omega)];refine qcs.cat (by simp) fun i a c I y=> ?_
     obtain⟨v,rfl⟩:i<m∧a=L:=by
      rw[List.getElem?_replicate] at I;split at I
      ·exact⟨‹_›,(Option.some.inj I).symm⟩
      ·cases I
     rw[List.getElem?_map,List.getElem?_range v,Option.map_some,Option.some.injEq] at y;subst y;have:=K i v;rw[R.1,List.getElem?_eq_getElem (by omega)] at this;exact qke n e _ _ _ k J this
    ·cases h
   ·cases h
  ·cases h
theorem qye{α:Type}{R:Nat→α→Prop} : ∀ {n:Nat},(∀i,i<n→∃a,R i a)→∃L:List α,L.length=n∧∀(i:Nat) a,L[i]? = some a→R i a
 | 0,_=>⟨[],rfl,by simp⟩
 | n+1,h=>by
  obtain⟨L,o,q⟩:=qye (n:=n) fun i v=>h i (by omega)
  obtain⟨a,t⟩:=h n (by omega);refine⟨L++[a],by simp[o],fun i b m=> ?_⟩;rw[List.getElem?_append] at m;split at m
  ·exact q i b m
  ·rename_i v;obtain⟨rfl,rfl⟩:i=n∧b=a:=by
    rw[List.getElem?_singleton] at m;split at m
    ·exact⟨by omega,(Option.some.inj m).symm⟩
    ·cases m
   exact t
theorem ql9{t e:TypeId}{v:Value}{d:DataW H}{p:List MemPlace}{l:List Leaf}{W:World}{b0:Nat}(n:Nat)(Y:P.underlying t=some (.slice e))(hl:qb4 P n e=some l)(X:P.cellsOf e=l.length)(hz:0<l.length)
  (hv:Value.okWide P W .any b0 t v) (h:DataW.Trod enc P W 0 (fun _=>true) true t v d p) :
  ∃L:List (List Value),(∀c∈L,qcs l c)∧((∃a cap,v = .slice a 0 cap∧L=[]) ∨
   ∃g off cap,v = .slice (some ⟨g,off,none⟩) L.length cap∧0<L.length∧L.length≤cap∧cap≤maxLen∧(∀j,j<L.length*l.length→MemPlace.cell g (off+j)∈p)∧∀i c,L[i]? = some c→∀j,j<l.length→W.cell? ⟨g,off+(i*l.length+j),none⟩=c[j]?):=by
 obtain⟨a0,len,cap,rfl⟩:=okWide_slice Y hv
 obtain⟨V,hf⟩:=h
 rcases open_slice Y hf with ⟨o,_⟩ | ⟨a,a1,U,m,k,D,Pl,o,_,a2,hm,E,Z,hi⟩
 ·simp[Value.cells] at o;obtain⟨rfl,rfl,rfl⟩:=o;exact⟨[],by simp,.inl ⟨_,_,rfl,rfl⟩⟩
 ·simp[Value.cells] at o;obtain⟨rfl,rfl,rfl⟩:=o;by_cases h0:len=0
  ·subst h0;exact⟨[],by simp,.inl ⟨_,_,rfl,rfl⟩⟩
  ·replace E:m=cap:=by simpa using E
   obtain⟨L,hL,M⟩:=qye (n:=len) (R:=fun i q=>W.cells? 0 (a.add (i*P.cellsOf e)) (P.cellsOf e)=some q∧DataW.trod enc P W 0 (fun _=>true) true k e q=some (D i,Pl i)) fun i a6=>by
    obtain⟨q,C,K⟩:=hi i (by omega);exact⟨q,C,K⟩
   obtain⟨b,off,I⟩:=a;have z:I=none:=by
    obtain⟨J,O⟩:∃c,L[0]? = some c:=⟨_,List.getElem?_eq_getElem (by omega)⟩;obtain⟨C,K⟩:=M 0 J O;obtain⟨_,T,x⟩:=World.cells?_some C;have:=x 0 (by omega);rw[Nat.zero_mul] at this;have h3:J[0]? = some (J[0]'(by omega)):=List.getElem?_eq_getElem (by omega);rw[h3] at this;simpa [Addr.add] using World.cell?_spot this
   subst z;refine⟨L,?_,.inr ⟨b,off,cap,by rw[hL],by omega,by omega,hm,?_,?_⟩⟩
   ·intro c N;obtain⟨i,y⟩:=List.getElem?_of_mem N;exact qke n e l c _ k hl (M i c y).2
   ·intro j hj;simp only[Prod.mk.injEq] at Z;rw[Z.2];refine List.mem_append_left _ ?_;unfold MemPlace.row;rw[List.mem_map];have:L.length*l.length≤m*l.length:=Nat.mul_le_mul_right _ (by omega);exact⟨j,by rw[List.mem_range,X];omega,rfl⟩
   ·intro i c y j hj;obtain⟨C,K⟩:=M i c y;obtain⟨_,T,x⟩:=World.cells?_some C;have:=x j (by omega);rw[add_add,X] at this;have e1:(⟨b,off,none⟩:Addr).add (i*l.length+j)=⟨b,off+(i*l.length+j),none⟩:=by unfold Addr.add;split<;>simp_all
    rwa [e1] at this
end
end
section
open Go.RowKit
theorem qxt{n:Int}(h:(Lit.int .u64 n).wf=true):0≤n∧n<18446744073709551616:=by
 simp[Lit.wf,IntKind.min,IntKind.max,IntKind.signed,IntKind.bits] at h;omega
theorem q9f{n:Int}(h:(Lit.int .u8 n).wf=true):0≤n∧n<256:=by
 simp[Lit.wf,IntKind.min,IntKind.max,IntKind.signed,IntKind.bits] at h;omega
theorem zal{n:Int}(h:(Lit.int .i64 n).wf=true) : -9223372036854775808≤n∧n≤9223372036854775807:=by
 simp[Lit.wf,IntKind.min,IntKind.max,IntKind.signed,IntKind.bits] at h;omega
end
section
open Go.RowKit Go.ChangeShapes Go.WideShapes Go.ChangeAt Go.Deep
structure ActN where
 kind:Int
 chan:Int
 p:Int
 cap:Int
 ours:Int
def ActN.cells(x:ActN):List Value:=[.int .u8 x.kind,.int .u8 x.chan,.int .i64 x.p,.int .u64 x.cap,.int .u64 x.ours]
structure ActN.Ok(x:ActN):Prop where
 kind:0≤x.kind∧x.kind<256
 chan:0≤x.chan∧x.chan<256
 p : -9223372036854775808≤x.p∧x.p≤9223372036854775807
 cap:0≤x.cap∧x.cap<18446744073709551616
 ours:0≤x.ours∧x.ours<18446744073709551616
def qit:List Leaf:=[.int .u8,.int .u8,.int .i64,.int .u64,.int .u64]
theorem qyu{c:List Value}(h:qcs qit c):∃x:ActN,c=x.cells∧x.Ok:=by
 obtain⟨_,_,rfl,⟨k,rfl,q⟩,_,_,rfl,⟨s,rfl,w⟩,_,_,rfl,⟨e,rfl,m⟩,_,_,rfl,⟨n,rfl,t⟩,_,_,rfl,⟨i,rfl,o⟩,rfl⟩:=h;exact⟨⟨k,s,e,n,i⟩,rfl,q9f q,q9f w,zal m,qxt t,qxt o⟩
theorem qsy:∀ {L:List (List Value)},(∀c∈L,∃x:ActN,c=x.cells∧x.Ok)→∃xs:List ActN,L=xs.map ActN.cells∧∀x∈xs,x.Ok
 | [],_=>⟨[],rfl,fun x h=>(by cases h)⟩
 | c::L,h=>by
  obtain⟨x,rfl,q⟩:=h c (List.mem_cons_self ..);obtain⟨xs,rfl,o⟩:=qsy fun c m=>h c (List.mem_cons_of_mem _ m)
  exact⟨x::xs,rfl,by intro y i;rcases List.mem_cons.1 i with rfl | i;exact q;exact o y i⟩
theorem Tryz.flatActN:qb4 Tryz.prog 5 94=some qit:=by kernel_rfl
theorem Tryz.cellsActN:Tryz.prog.cellsOf 94=5:=by kernel_rfl
theorem qw9{w:World}{g o n:Nat}{A:List Value}(D:A.length=n)(z:0<n)(h:∀j,j<n→w.cell? ⟨g,o+j,none⟩=A[j]?):zt w g o n=some A.toArray:=by
 have i:=h (n-1) (by omega);rw[List.getElem?_eq_getElem (by omega)] at i;unfold World.cell? at i;cases m:w.heap[g]? with
 | none=>simp[m] at i
 | some y =>
  rw[m] at i;cases y with
  | cells C T q =>
   have x:o+(n-1)<C.size:=by
    by_cases e:o+(n-1)<C.size
    ·exact e
    ·rw[show (Obj.cells C T q) = .cells C T q from rfl] at i;have:C[o+(n-1)]? = none:=by simp;omega
     simp[this] at i
   rw[qby m o n (by omega)];congr 1;apply Array.ext';apply List.ext_getElem?;intro j;rw[Array.getElem?_toList,Array.getElem?_extract];by_cases t:j<n
   ·rw[if_pos (by omega),←qk m,h j t]
   ·rw[if_neg (by omega),List.getElem?_eq_none (by simp;omega)]
  | _=>simp at i
def qik(w:World)(v:Value)(xs:List ActN):Prop:=(∃a c,v = .slice a 0 c∧xs=[])∨∃g off cap,v = .slice (some ⟨g,off,none⟩) xs.length cap∧∀i x,xs[i]? = some x→zt w g (off+i*5) 5=some x.cells.toArray
theorem qik.new{w w':World}{v:Value}{xs:List ActN}(h:qik w v xs)(u:qq w w'):qik w' v xs:=by
 rcases h with h | ⟨g,off,cap,e,h⟩
 ·exact .inl h
 ·exact .inr ⟨g,off,cap,e,fun i x m=>qbg (h i x m) u (fun h=>h)⟩
theorem qik.slice{w:World}{v:Value}{xs:List ActN}(h:qik w v xs):∃a c,v = .slice a xs.length c:=by
 rcases h with ⟨_,_,rfl,rfl⟩ | ⟨g,off,cap,rfl,_⟩
 ·exact⟨_,_,rfl⟩
 ·exact⟨_,_,rfl⟩
theorem qik.at{w:World}{a:Option Addr}{n c:Nat}{xs:List ActN}(h:qik w (.slice a n c) xs){i:Nat}{x:ActN}(m:xs[i]? = some x):∃g off,a=some ⟨g,off,none⟩∧zt w g (off+i*5) 5=some x.cells.toArray:=by
 rcases h with ⟨_,_,e,rfl⟩ | ⟨g,off,cap,e,h⟩
 ·simp at m
 ·cases e;exact⟨g,off,rfl,h i x m⟩
section
variable {H:Type}{enc:TypeId × Value→H}{W:World}{base:Nat}{v:Value}{d:DataW H}{p:List MemPlace}
theorem qw2(C:Value.okWide Tryz.prog W .any base 91 v)(h:DataW.Trod enc Tryz.prog W 0 (fun _=>true) true 91 v d p) :
  ∃xs:List ActN,qik W v xs∧∀x∈xs,x.Ok:=by
 have m:qit.length=5:=rfl
 obtain⟨L,y,q⟩:=ql9 5 Tryz.underlying91 Tryz.flatActN (by rw[Tryz.cellsActN,m]) (by rw[m];decide) C h
 obtain⟨xs,rfl,t⟩:=qsy (fun c q=>qyu (y c q))
 rcases q with ⟨a,c,rfl,e⟩ | ⟨g,off,cap,e,D,E,I,_,o⟩
 ·obtain rfl:xs=[]:=by simpa using e
  exact⟨[],.inl ⟨_,_,rfl,rfl⟩,fun x w=>(by cases w)⟩
 ·rw[List.length_map] at e;refine⟨xs,.inr ⟨g,off,cap,e,fun i x w=> ?_⟩,t⟩;refine qw9 rfl (by decide) fun j z=> ?_
  have:=o i x.cells (by rw[List.getElem?_map,w];rfl) j (by rw[m];exact z);rw[m] at this;rw[←this,Nat.add_assoc]
end
theorem Tryz.infoActN:(Tryz.prog.info? 94).map (·.size)=some 5:=by kernel_rfl
def q4f(x:Value):Sem Value:=Instr.loadAt 94 x
theorem qrz(x:Value):Instr.loadAt 94 x=q4f x:=rfl
theorem q7k(b o:Nat)(w:World):(q4f (.pointer (some ⟨b,o,none⟩))).run Tryz.prog w=match zt w b o 5 with | some A=> .ok (.agg A) w | none=>qc3 Tryz.prog 94 w b o :=
 qag 94 5 _ Tryz.underlying94 rfl Tryz.infoActN b o w
def q5q(x v:Value):Sem Unit:=Instr.storeAt 94 x v
theorem qsm(x v:Value):Instr.storeAt 94 x v=q5q x v:=rfl
theorem q72(b o:Nat)(A:Array Value)(w:World):(q5q (.pointer (some ⟨b,o,none⟩)) (.agg A)).run Tryz.prog w=if stOk w b o 5 A=true then .ok () (w.setCells b o A.toList) else qes Tryz.prog 94 w b o A :=
 qaz 94 5 Tryz.infoActN b o A w
def ActN.zero:ActN:=⟨0,0,0,0,0⟩
def q15:Sem Value:=Instr.alloc 94 true (.tuple #[])
theorem qq6:Instr.alloc 94 true (.tuple #[])=q15:=rfl
theorem q6q(w:World):q15.run Tryz.prog w = .ok (.pointer (some ⟨w.heap.size,0,none⟩)) (w.alloc (.cells ActN.zero.cells.toArray 94)):=by kernel_rfl
theorem q1k(w:World)(x:ActN):stOk (w.alloc (.cells ActN.zero.cells.toArray 94)) w.heap.size 0 5 x.cells.toArray=true :=
 qdk (C:=ActN.zero.cells.toArray) (ql w _) rfl (fun v i=>by
  simp only[ActN.cells,List.mem_cons,List.not_mem_nil,or_false] at i;rcases i with rfl | rfl | rfl | rfl | rfl<;>rfl)
theorem q0d(w:World)(x:ActN):((w.alloc (.cells ActN.zero.cells.toArray 94)).setCells w.heap.size 0 x.cells).heap[w.heap.size]? = some (.cells x.cells.toArray 94 (0,0)):=by
 rw[qax (ql w _) 0 x.cells,qb5 ActN.zero.cells.toArray x.cells rfl]
end
section
open Go.RowKit
def qbl(k:IntKind)(w:World)(b:Nat)(ws:List Int):Prop:=∃T,w.heap[b]? = some (.cells (ws.map (Value.int k)).toArray T (0,0))
theorem qbl.cell{k:IntKind}{w:World}{b:Nat}{ws:List Int}(h:qbl k w b ws){i:Nat}(m:i<ws.length):w.cell? ⟨b,i,none⟩=some (.int k (ws.getD i 0)):=by
 obtain⟨T,h⟩:=h;rw[qk h,List.getElem?_toArray,List.getElem?_map,List.getElem?_eq_getElem m,List.getD_eq_getElem?_getD,List.getElem?_eq_getElem m];rfl
theorem qbl.free{k:IntKind}{w:World}{b:Nat}{ws:List Int}(h:qbl k w b ws)(i:Nat):w.frozen? ⟨b,i,none⟩=false:=by
 obtain⟨T,h⟩:=h;exact qo h i
theorem qbl.set{k:IntKind}{w:World}{b:Nat}{ws:List Int}(h:qbl k w b ws)(i:Nat)(v:Int):qbl k (w.setCell ⟨b,i,none⟩ (.int k v)) b (ws.set i v):=by
 obtain⟨T,h⟩:=h;refine⟨T,(zq h i _).trans ?_⟩;simp[List.map_set]
theorem qbl.upd{S:Nat→Prop}{k:IntKind}{w w':World}{b:Nat}{ws:List Int}(h:qbl k w b ws)(u:Upd S w w')(i:¬S b):qbl k w' b ws:=by
 obtain⟨T,h⟩:=h;exact⟨T,u.old h i⟩
theorem qbl.q{k:IntKind}{w w':World}{b:Nat}{ws:List Int}(h:qbl k w b ws)(q:Q w w'):qbl k w' b ws:=h.upd (q.upd (fun _=>False)) (fun h=>h)
theorem qbl.lt{k:IntKind}{w:World}{b:Nat}{ws:List Int}(h:qbl k w b ws):b<w.heap.size:=by
 obtain⟨T,h⟩:=h;exact zi h
def q5a(x n:Int):Int:=bits .or .u32 (x / 2 ^ n.toNat) (x*2 ^ (32-n).toNat%4294967296)
def qcn(x:Int)(i:List Int):Int:=i.foldl (fun a n=>bits .xor .u32 a (q5a x n)) 0
theorem qhr(i:BinOp)(x y:Int):0≤bits i .u32 x y∧bits i .u32 x y<4294967296:=by
 have h:=wf_bits i .u32 x y;simp[Lit.wf,IntKind.min,IntKind.max,IntKind.signed,IntKind.bits] at h;omega
theorem qqt(x:Int)(i:List Int):0≤qcn x i∧qcn x i<4294967296:=by
 unfold qcn;have key:∀(i:List Int) (a:Int),0≤a∧a<4294967296→0≤i.foldl (fun a n=>bits .xor .u32 a (q5a x n)) a∧i.foldl (fun a n=>bits .xor .u32 a (q5a x n)) a<4294967296:=by
  intro i
  induction i with
  | nil=>intro a h;exact h
  | cons n i m=>intro a _;exact m _ (qhr ..)
 exact key i 0 (by omega)
theorem qu6(x:Int)(i:List Int)(n:Int):qcn x (i++[n])=bits .xor .u32 (qcn x i) (q5a x n):=by simp[qcn]
theorem qqu(x:Int)(i:List Int)(b c:Nat)(w:World)(z:∀n∈i,0<n∧n<32)(M:i.length≤8)(N:0≤x)(J:x<4294967296)(H:qbl .u64 w b i) :
  Calls Tryz.prog 223 #[.int .u32 x,.slice (some ⟨b,0,none⟩) i.length c] w (qae (.int .u32 (qcn x i)) w):=by
 go_enter Tryz.func223,Tryz.ntmps223
 go_wp2_with fail
 go_loopw [5,7,10] (fun s _ C wr=>∃k:Nat,C = .int .i64 (k:Int)∧k≤i.length∧s = .int .u32 (qcn x (i.take k))∧wr=w) (fun _ _ C _=>i.length-(intOf C).toNat)
 case atStart=>exact⟨0,rfl,Nat.zero_le _,rfl,rfl⟩
 case round =>
  obtain⟨k,rfl,K,rfl,rfl⟩:=hrel;by_cases m:k<i.length
  ·have D:=H.cell m;obtain⟨v,y⟩:=z (i.getD k 0) (by rw[List.getD_eq_getElem?_getD,List.getElem?_eq_getElem m];exact List.getElem_mem m);have o:=qu6 x (i.take k) (i.getD k 0);rw[show i.take k++[i.getD k 0]=i.take (k+1) by rw[List.take_add_one,List.getD_eq_getElem?_getD,List.getElem?_eq_getElem m];rfl] at o;obtain⟨E,t⟩:=qqt x (i.take k);unfold q5a at o;have q:=qj o;have I:(k:Int)<(i.length:Int):=by omega
   clear o;generalize i.getD k 0=n at D v y q;generalize qcn x (i.take k)=a at E t q ⊢;go_wp2;go_roundw
   case rel=>exact⟨k+1,by go_num,by omega,by rw[qg q],trivial⟩
   case measure=>simp[intOf];omega
  ·obtain rfl:k=i.length:=by omega
   rw[List.take_length];go_wp2;go_ret;exact⟨rfl,Q.refl _⟩
theorem qqv(x i m:Int)(g:Nat)(T:TypeId)(w:World)(t:0<i∧i<32)(v:0<m∧m<32)(z:0≤x)(o:x<4294967296)(y:w.heap[g]? = some (.cells #[.int .u64 i,.int .u64 m] T (0,0))) :
  Calls Tryz.prog 223 #[.int .u32 x,.slice (some ⟨g,0,none⟩) 2 2] w (qae (.int .u32 (qcn x [i,m])) w) :=
 qqu x [i,m] g 2 w (by intro n q;simp only[List.mem_cons,List.not_mem_nil,or_false] at q;rcases q with rfl | rfl;exact t;exact v) (by simp) z o ⟨T,y⟩
theorem qlx(x i m o:Int)(g:Nat)(T:TypeId)(w:World)(v:0<i∧i<32)(y:0<m∧m<32)(z:0<o∧o<32)(D:0≤x)(q:x<4294967296)(C:w.heap[g]? = some (.cells #[.int .u64 i,.int .u64 m,.int .u64 o] T (0,0))) :
  Calls Tryz.prog 223 #[.int .u32 x,.slice (some ⟨g,0,none⟩) 3 3] w (qae (.int .u32 (qcn x [i,m,o])) w) :=
 qqu x [i,m,o] g 3 w (by intro n t;simp only[List.mem_cons,List.not_mem_nil,or_false] at t;rcases t with rfl | rfl | rfl;exact v;exact y;exact z) (by simp) D q ⟨T,C⟩
def qam(P:Program)(o:Oper)(ρ:Operand→Value)(w:World)(K:Value→World→Prop):Prop :=
 match (execOp ρ o).run P w with
 | .ok (.value v) w'=>K v w'
 | .ok .skip w'=>K undef w'
 | .ok (.enter f args) w'=>Calls P f args w' fun e i=>∃v,e = .returned v∧K v i
 | _=>False
theorem qjq{P:Program}{o:Oper}{a:Act}{ρ:Operand→Value}{w:World}{K:Value→World→Prop}{q:Act→World→Prop}{Q:Exit→Act→World→Prop}(i:execOp a.eval o=execOp ρ o)
  (h:qam P o ρ w K) (m:∀v w',K v w'→q (a.put o.dst v) w'):o.wp P a w q Q:=by
 unfold qam at h
 unfold Oper.wp
 rw[i]
 generalize (execOp ρ o).run P w=r at h ⊢
 cases r with
 | ok n w' =>
  cases n<;>simp only at h<;>simp only[Oper.upon]
  ·exact m _ _ h
  ·exact m _ _ h
  ·refine h.mono fun e y i=> ?_
   obtain⟨v,rfl,t⟩:=i;exact m _ _ t
 | halt x w'=>simp only at h
def putL(a:Act)(qz:Nat→Value):List (Nat × Nat)→Act
 | []=>a
 | p::r=>putL (a.put (some p.2) (qz p.1)) qz r
theorem qh4(qz:Nat→Value):∀(L:List (Nat × Nat)) (a:Act),(putL a qz L).defers=a.defers
 | [],_=>rfl
 | p::r,a=>qh4 qz r _
theorem qeb(qz:Nat→Value):∀(L:List (Nat × Nat)) (a:Act) (t:Nat),(∀p∈L,p.2≠t)→(putL a qz L).tmps[t]? = a.tmps[t]?
 | [],_,_,_=>rfl
 | p::r,a,t,h=>by
  rw[putL,qeb qz r _ t fun q i=>h q (List.mem_cons_of_mem _ i)];have:=h p (List.mem_cons_self ..);simp[Act.put,Array.getElem?_setIfInBounds_ne this]
theorem qjv(qz:Nat→Value):∀(L:List (Nat × Nat)) (a:Act) (p:Nat × Nat),p∈L→(∀q∈L,q.2=p.2→q.1=p.1)→p.2<a.tmps.size→(putL a qz L).tmps[p.2]? = some (qz p.1)
 | [],_,_,h,_,_=>by cases h
 | q::r,a,p,h,w,v=>by
  rw[putL];by_cases t:∃m∈r,m.2=p.2
  ·obtain⟨m,i,e⟩:=t;have x:=w m (List.mem_cons_of_mem _ i) e;have o:p∈r:=by
    have:m=p:=Prod.ext x e;exact this▸i
   exact qjv qz r _ p o (fun q z=>w q (List.mem_cons_of_mem _ z)) (by simpa [Act.put] using v)
  ·have y:p=q:=by
    rcases List.mem_cons.1 h with h | h
    ·exact h
    ·exact absurd ⟨p,h,rfl⟩ t
   rw[qeb qz r _ p.2 fun m i e=>t ⟨m,i,e⟩,←y];simp[Act.put,v]
def qvc:List Oper→List (List Nat)→List (List Nat)
 | [],i=>i
 | o::r,i=>qvc r (i++[((o.after.toList.filter (Region.binds .any)).flatMap fun e=>e.on::i.getD e.on []).foldl (fun s k=>if s.contains k then s else k::s) []])
def qbr(l:List Oper)(j:Nat):Option Nat:=(l[j]?).bind (·.dst)
def looks(l:List Oper)(o:Oper):List Nat:=o.looksAt l.toArray
def q9p(l:List Oper)(A:List (List Nat))(L:List (List (Nat × Nat)))(n:Nat):Bool :=
 (List.range l.length).all fun i=>match l[i]? with
  | none=>true
  | some o =>
   (o.after.toList.all fun e=> !Region.binds .any e || ((A.getD i []).contains e.on&&(A.getD e.on []).all fun k=>(A.getD i []).contains k)) &&
   ((A.getD i []).all fun k=>o.after.toList.any fun e=>Region.binds .any e&&(k==e.on || (A.getD e.on []).contains k)) &&
   ((A.getD i []).all fun k=>k<i) &&
   ((looks l o).all fun t=>(List.range l.length).all fun j=>qbr l j != some t || (A.getD j []).contains i || ((A.getD i []).contains j&&(L.getD i []).contains (j,t))) &&
   ((L.getD i []).all fun p=>(A.getD i []).contains p.1&&qbr l p.1==some p.2) &&
   (match o.dst with
    | some t=>t<n&&(List.range l.length).all fun j=>j==i || qbr l j != some t
    | none=>true) &&
   (match o.guard with | some (g,_)=>(A.getD i []).contains g&&(qbr l g).isSome | none=>true) &&
   (match o.op with | .select .. => false | _=>true)
section
variable {P:Program}{l:List Oper}{A:List (List Nat)}{L:List (List (Nat × Nat))}{n:Nat}
structure Dag(l:List Oper)(A:List (List Nat))(L:List (List (Nat × Nat)))(n:Nat):Prop where
 edge:∀(i:Nat) o,l[i]? = some o→∀e∈o.after,Region.binds .any e=true→e.on∈A.getD i []∧∀k∈A.getD e.on [],k∈A.getD i []
 anc:∀(i:Nat) o,l[i]? = some o→∀k∈A.getD i [],k<i∧∃e∈o.after,Region.binds .any e=true∧(k=e.on∨k∈A.getD e.on [])
 look:∀(i:Nat) o,l[i]? = some o→∀t∈o.looksAt l.toArray,∀j,qbr l j=some t→i∈A.getD j []∨(j∈A.getD i []∧(j,t)∈L.getD i [])
 lis:∀(i:Nat) o,l[i]? = some o→∀p∈L.getD i [],p.1∈A.getD i []∧qbr l p.1=some p.2
 slot:∀(i:Nat) t,qbr l i=some t→t<n∧∀j,qbr l j=some t→j=i
 guard:∀(i:Nat) o,l[i]? = some o→∀g b,o.guard=some (g,b)→g∈A.getD i []∧∃t,qbr l g=some t
 sel:∀(i:Nat) o,l[i]? = some o→∀cs b,o.op ≠ .select cs b
theorem qj3{i t:Nat}(h:qbr l i=some t):i<l.length∧∃o,l[i]? = some o∧o.dst=some t:=by
 unfold qbr at h;cases m:l[i]? with
 | none=>rw[m] at h;cases h
 | some o=>rw[m] at h;exact⟨(List.getElem?_eq_some_iff.1 m).1,o,rfl,h⟩
theorem q2y(h:q9p l A L n=true):Dag l A L n:=by
 have key:∀(i:Nat) o,l[i]? = some o→_:=fun i o m=>by
  have z:i<l.length:=(List.getElem?_eq_some_iff.1 m).1;have:=List.all_eq_true.1 h i (List.mem_range.2 z);rw[m] at this;simp only[Bool.and_eq_true] at this;exact this
 refine⟨?_,?_,?_,?_,?_,?_,?_⟩
 ·intro i o m e y v;obtain⟨⟨⟨⟨⟨⟨⟨k,_⟩,_⟩,_⟩,_⟩,_⟩,_⟩,_⟩:=key i o m;have:=List.all_eq_true.1 k e (by simpa using y);simpa [v] using this
 ·intro i o m k C;obtain⟨⟨⟨⟨⟨⟨⟨_,J⟩,K⟩,_⟩,_⟩,_⟩,_⟩,_⟩:=key i o m;have w:=List.all_eq_true.1 J k C;have x:=List.all_eq_true.1 K k C;obtain⟨e,y,v⟩:=List.any_eq_true.1 w;simp only[Bool.and_eq_true,Bool.or_eq_true,beq_iff_eq,List.contains_iff_mem] at v;exact⟨by simpa using x,e,by simpa using y,v⟩
 ·intro i o m t I j q;obtain⟨⟨⟨⟨⟨⟨⟨_,_⟩,_⟩,k⟩,_⟩,_⟩,_⟩,_⟩:=key i o m;have w:=List.all_eq_true.1 k t I;have x:=List.all_eq_true.1 w j (List.mem_range.2 (qj3 q).1);simpa [q] using x
 ·intro i o m p E;obtain⟨⟨⟨⟨⟨⟨⟨_,_⟩,_⟩,_⟩,k⟩,_⟩,_⟩,_⟩:=key i o m;have:=List.all_eq_true.1 k p E;simpa using this
 ·intro i t z;obtain⟨_,o,m,hd⟩:=qj3 z;obtain⟨⟨⟨⟨⟨⟨⟨_,_⟩,_⟩,_⟩,_⟩,k⟩,_⟩,_⟩:=key i o m;rw[hd] at k;simp only[Bool.and_eq_true,decide_eq_true_eq] at k;refine⟨k.1,fun j q=> ?_⟩;have:=List.all_eq_true.1 k.2 j (List.mem_range.2 (qj3 q).1);simpa [q] using this
 ·intro i o m g b D;obtain⟨⟨⟨⟨⟨⟨⟨_,_⟩,_⟩,_⟩,_⟩,_⟩,k⟩,_⟩:=key i o m;rw[D] at k;simp only[Bool.and_eq_true,List.contains_iff_mem] at k;exact⟨k.1,Option.isSome_iff_exists.1 k.2⟩
 ·intro i o m cs b H;obtain⟨⟨⟨⟨⟨⟨⟨_,_⟩,_⟩,_⟩,_⟩,_⟩,_⟩,k⟩:=key i o m;rw[H] at k;cases k
def qq0(P:Program)(a0:Act)(S:World→Prop)(R:World→World→Prop)(Φ:Nat→Value→World→Prop)(i:Nat)(o:Oper)(Li:List (Nat × Nat)):Prop :=
 ∀(qz:Nat→Value) (w:World),S w→(∀p∈Li,Φ p.1 (qz p.1) w) →
  match o.guard with
  | none=>qam P o (putL a0 qz Li).eval w fun v w'=>R w w'∧S w'∧Φ i v w'
  | some (g,b)=>Φ g (qz g) w→(qz g = .bool b→qam P o (putL a0 qz Li).eval w fun v w'=>R w w'∧S w'∧Φ i v w')∧(qz g ≠ .bool b→Φ i undef w)
def qad(P:Program)(a0:Act)(S:World→Prop)(R:World→World→Prop)(Φ:Nat→Value→World→Prop):Nat→List Oper→List (List (Nat × Nat))→Prop
 | _,[],_=>True
 | i,o::os,L=>qq0 P a0 S R Φ i o (L.headD [])∧qad P a0 S R Φ (i+1) os L.tail
theorem qad.nil{a0:Act}{S:World→Prop}{R:World→World→Prop}{Φ:Nat→Value→World→Prop}{i:Nat}{L:List (List (Nat × Nat))} : qad P a0 S R Φ i [] L:=trivial
theorem qad.cons{a0:Act}{S:World→Prop}{R:World→World→Prop}{Φ:Nat→Value→World→Prop}{i:Nat}{o:Oper}{os:List Oper}{Li:List (Nat × Nat)}{L:List (List (Nat × Nat))}(h:qq0 P a0 S R Φ i o Li)
  (k:qad P a0 S R Φ (i+1) os L):qad P a0 S R Φ i (o::os) (Li::L):=⟨h,k⟩
def qyt(Φ:Nat→Value→World→Prop)(qz:Nat→Value)(w:World):List (Nat × Nat)→Prop
 | []=>True
 | p::r=>Φ p.1 (qz p.1) w∧qyt Φ qz w r
theorem qju{Φ:Nat→Value→World→Prop}{qz:Nat→Value}{w:World} : ∀ {L:List (Nat × Nat)},(∀p∈L,Φ p.1 (qz p.1) w)→qyt Φ qz w L
 | [],_=>trivial
 | p::r,h=>⟨h p (List.mem_cons_self ..),qju fun q i=>h q (List.mem_cons_of_mem _ i)⟩
theorem qad.plain{a0:Act}{S:World→Prop}{R:World→World→Prop}{Φ:Nat→Value→World→Prop}{i:Nat}{o:Oper}{os:List Oper}{Li:List (Nat × Nat)}{L:List (List (Nat × Nat))}(q:o.guard=none)
  (h:∀(qz:Nat→Value) (w:World),S w→qyt Φ qz w Li→qam P o (putL a0 qz Li).eval w fun v w'=>R w w'∧S w'∧Φ i v w')
  (k:qad P a0 S R Φ (i+1) os L):qad P a0 S R Φ i (o::os) (Li::L) :=
 ⟨fun qz w m t=>by rw[q];exact h qz w m (qju t),k⟩
theorem qad.at{a0:Act}{S:World→Prop}{R:World→World→Prop}{Φ:Nat→Value→World→Prop} : ∀ {os:List Oper} {L:List (List (Nat × Nat))} {k:Nat},qad P a0 S R Φ k os L→∀(i:Nat) o,os[i]? = some o→qq0 P a0 S R Φ (k+i) o (L.getD i [])
 | [],_,_,_,_,_,h=>by simp at h
 | o::os,L,k,h,0,q,m=>by
  simp only[List.getElem?_cons_zero,Option.some.injEq] at m;subst m;have:=h.1;cases L<;>exact this
 | o::os,L,k,h,i+1,q,m=>by
  have:=qad.at h.2 i q (by simpa using m);rw[show k+(i+1)=k+1+i by omega];cases L<;>exact this
def qbu(l:List Oper):List (Nat × Nat):=(List.range l.length).filterMap fun i=>(qbr l i).map fun t=>(i,t)
structure DagInv(l:List Oper)(A:List (List Nat))(a0:Act)(S:World→Prop)(Φ:Nat→Value→World→Prop)(listed:Array Bool)(a:Act)(w:World)(qz:Nat→Value):Prop where
 size:listed.size=l.length
 s:S w
 phi:∀i,listed.getD i false=true→Φ i (qz i) w
 shut:∀i,listed.getD i false=true→∀k∈A.getD i [],listed.getD k false=true
 defers:a.defers=a0.defers
 tmps:a.tmps.size=a0.tmps.size
 other:∀t,(∀i,listed.getD i false=true→qbr l i≠some t)→a.tmps[t]? = a0.tmps[t]?
 at_:∀i t,listed.getD i false=true→qbr l i=some t→a.tmps[t]? = some (qz i)
theorem q1y{a b:Act}(hd:a.defers=b.defers)(i:∀t:Nat,a.tmps[t]? = b.tmps[t]?):a=b:=by
 cases a;cases b;simp only at hd i;subst hd;congr 1;exact Array.ext_getElem? i
theorem qfy{m:Array Bool}{i:Nat}(h:i<m.size):(m.setIfInBounds i true).getD i false=true:=by simp[h]
theorem qa4{m:Array Bool}{i j:Nat}(h:i<m.size):(m.setIfInBounds i true).getD j false=true↔j=i∨m.getD j false=true:=by
 by_cases e:i=j
 ·subst e;simp[h]
 ·rw[getD_set_ne false e];constructor
  ·exact .inr
  ·rintro (rfl | h)
   ·exact absurd rfl e
   ·exact h
theorem q68(D:Dag l A L n){a0:Act}(hn:a0.tmps.size=n){S:World→Prop}{R:World→World→Prop}{Φ:Nat→Value→World→Prop}{Q:Exit→Act→World→Prop}
  (b7:∀w,R w w) (a1:∀i v w w',S w→S w'→R w w'→Φ i v w→Φ i v w') (a7:qad P a0 S R Φ 0 l L)
  (b8:∀qz w,S w→(∀i,i<l.length→Φ i (qz i) w)→Q .normal (putL a0 qz (qbu l)) w) :
  ∀(E:Nat) (y:Array Bool) (a:Act) (w:World) (qz:Nat→Value),DagInv l A a0 S Φ y a w qz→(List.range l.length).countP (fun i=> !y.getD i false)≤E→wpAny P .any l.toArray Q E y a w:=by
 have X:∀(y:Array Bool) (a:Act) (w:World) (qz:Nat→Value),DagInv l A a0 S Φ y a w qz→Region.ready .any l.toArray y=[]→Q .normal a w:=by
  intro y a w qz I hr;have a8:∀(i:Nat),i<l.length→y.getD i false=true:=by
   intro i
   induction i using Nat.strongRecOn with
   | _ i ih =>
    intro O;cases hl:y.getD i false with
    | true=>rfl
    | false =>
     exfalso;have:i∈Region.ready .any l.toArray y:=by
      rw[mem_ready];have ho:l[i]? = some l[i]:=List.getElem?_eq_getElem O;refine⟨?_,l[i],by simp[O],fun e he hb=> ?_⟩
      ·rw[Array.getD_eq_getD_getElem?] at hl ⊢;have:i<y.size:=by rw[I.size];exact O
       rw[Array.getElem?_eq_getElem this] at hl ⊢;simpa using hl
      ·have N:=(D.edge i _ ho e he hb).1;have h2:=(D.anc i _ ho _ N).1;exact ih _ h2 (by omega)
     rw[hr] at this;cases this
  have ha:a=putL a0 qz (qbu l):=by
   refine q1y (by rw[qh4];exact I.defers) fun t=> ?_
   by_cases h:∃i,qbr l i=some t
   ·obtain⟨i,O⟩:=h;have M:=(qj3 O).1;rw[I.at_ i t (a8 i M) O];have hm:(i,t)∈qbu l:=by
     unfold qbu;rw[List.mem_filterMap];exact⟨i,List.mem_range.2 M,by rw[O];rfl⟩
    refine(qjv qz (qbu l) a0 (i,t) hm (fun q hq e=> ?_) (by rw[hn];exact(D.slot i t O).1)).symm;unfold qbu at hq;rw[List.mem_filterMap] at hq;obtain⟨j,_,z⟩:=hq;rw[Option.map_eq_some_iff] at z;obtain⟨t',a6,rfl⟩:=z;simp only at e;subst e;exact(D.slot i _ O).2 j a6
   ·rw[I.other t fun i _ T=>h ⟨i,T⟩,qeb];intro p hp e;unfold qbu at hp;rw[List.mem_filterMap] at hp;obtain⟨j,_,z⟩:=hp;rw[Option.map_eq_some_iff] at z;obtain⟨t',a6,rfl⟩:=z;exact h ⟨j,by rw[a6,←e]⟩
  rw[ha];exact b8 qz w I.s fun i O=>I.phi i (a8 i O)
 intro E
 induction E with
 | zero =>
  intro y a w qz I hc;have hr:Region.ready .any l.toArray y=[]:=by
   rw[List.eq_nil_iff_forall_not_mem];intro i O;obtain⟨h0,o,ho,_⟩:=mem_ready.1 O;have M:i<l.length:=by simpa using (Array.getElem?_eq_some_iff.1 ho).1
   have:(List.range l.length).countP (fun i=> !y.getD i false)=0:=by omega
   rw[List.countP_eq_zero] at this;have:=this i (List.mem_range.2 M);rw[Array.getD_eq_getD_getElem?] at h0 this;have T:i<y.size:=by rw[I.size];exact M
   rw[Array.getElem?_eq_getElem T] at h0 this;simp at h0 this;rw[h0] at this;cases this
  exact⟨hr,X y a w qz I hr⟩
 | succ E ih =>
  intro y a w qz I hc;refine⟨fun hr=>X y a w qz I hr,fun i O=> ?_⟩;obtain⟨h0,o,ho,b0⟩:=mem_ready.1 O;have M:i<l.length:=by simpa using (Array.getElem?_eq_some_iff.1 ho).1
  have T:i<y.size:=by rw[I.size];exact M
  have J:l[i]? = some o:=by simpa using ho
  have Z:y.getD i false=false:=by
   rw[Array.getD_eq_getD_getElem?] at h0 ⊢;rw[Array.getElem?_eq_getElem T] at h0 ⊢;simpa using h0
  have U:∀k∈A.getD i [],y.getD k false=true:=by
   intro k hk;obtain⟨_,e,he,hb,h⟩:=D.anc i o J k hk;have N:=b0 e he hb;rcases h with rfl | h
   ·exact N
   ·exact I.shut _ N k h
  have a2:∀t∈o.looksAt l.toArray,a.tmps[t]? = (putL a0 qz (L.getD i [])).tmps[t]? := by
   intro t ht;by_cases h:∃j,y.getD j false=true∧qbr l j=some t
   ·obtain⟨j,z,C⟩:=h;rcases D.look i o J t ht j C with N | ⟨N,h2⟩
    ·have:=I.shut j z i N;rw[Z] at this;cases this
    ·rw[I.at_ j t z C];refine(qjv qz _ a0 (j,t) h2 (fun q hq e=> ?_) (by rw[hn];exact(D.slot j t C).1)).symm;have:=(D.lis i o J q hq).2;rw[e] at this;exact(D.slot j t C).2 _ this
   ·rw[I.other t fun j z T=>h ⟨j,z,T⟩,qeb];intro p hp e;obtain⟨N,h2⟩:=D.lis i o J p hp;exact h ⟨p.1,U _ N,by rw[h2,e]⟩
  have V:execOp a.eval o=execOp (putL a0 qz (L.getD i [])).eval o:=by
   refine execOp_congr o (D.sel i o J) fun x hx=> ?_
   cases x with
   | tmp t =>
    have:=a2 t (List.mem_append_left _ (List.mem_filterMap.2 ⟨.tmp t,by simpa using hx,rfl⟩));simp only[Act.eval,Array.getD_eq_getD_getElem?,this]
   | _=>rfl
  have b6:=a7.at i o J;rw[Nat.zero_add] at b6;have K:=b6 qz w I.s fun p hp=>I.phi _ (U _ (D.lis i o J p hp).1)
  have next:∀v w',R w w'→S w'→Φ i v w'→wpAny P .any l.toArray Q E (y.setIfInBounds i true) (a.put o.dst v) w':=by
   intro v w' hR hS hΦ;have Y:qbr l i=o.dst:=by unfold qbr;rw[J];rfl
   refine ih (y.setIfInBounds i true) (a.put o.dst v) w' (fun j=>if j=i then v else qz j) ⟨?_,hS,?_,?_,?_,?_,?_,?_⟩ ?_
   ·rw[Array.size_setIfInBounds];exact I.size
   ·intro j z;rcases (qa4 T).1 z with rfl | H
    ·simpa using hΦ
    ·have W:j≠i:=by rintro rfl;rw[Z] at H;cases H
     simp only[if_neg W];exact a1 j _ w w' I.s hS hR (I.phi j H)
   ·intro j z k hk;refine(qa4 T).2 ?_;rcases (qa4 T).1 z with rfl | H
    ·exact .inr (U k hk)
    ·exact .inr (I.shut j H k hk)
   ·cases o.dst<;>exact I.defers
   ·cases hd:o.dst with
    | none=>exact I.tmps
    | some d=>simpa [Act.put] using I.tmps
   ·intro t ht;have N:=I.other t fun j z=>ht j ((qa4 T).2 (.inr z))
    have h2:=ht i ((qa4 T).2 (.inl rfl));rw[Y] at h2;cases hd:o.dst with
    | none=>exact N
    | some d =>
     have W:d≠t:=by rintro rfl;exact h2 hd
     simpa [Act.put,Array.getElem?_setIfInBounds_ne W] using N
   ·intro j t z C;rcases (qa4 T).1 z with rfl | H
    ·rw[Y] at C;rw[C,if_pos rfl];have:t<a.tmps.size:=by rw[I.tmps,hn];exact(D.slot j t (by rw[Y,C])).1
     simp[Act.put,this]
    ·have W:j≠i:=by rintro rfl;rw[Z] at H;cases H
     rw[if_neg W];have N:=I.at_ j t H C;cases hd:o.dst with
     | none=>exact N
     | some d =>
      have b5:d≠t:=by
       rintro rfl;exact W ((D.slot i d (by rw[Y,hd])).2 j C)
      simpa [Act.put,Array.getElem?_setIfInBounds_ne b5] using N
   ·have N:(List.range l.length).countP (fun j=> !(y.setIfInBounds i true).getD j false)<(List.range l.length).countP (fun j=> !y.getD j false):=by
     have b4:i∈List.range l.length:=List.mem_range.2 M;obtain⟨s,r,c1⟩:=List.append_of_mem b4;rw[c1,List.countP_append,List.countP_append,List.countP_cons,List.countP_cons];have m:∀xs:List Nat,xs.countP (fun j=> !(y.setIfInBounds i true).getD j false)≤xs.countP (fun j=> !y.getD j false):=by
      intro xs;refine List.countP_mono_left fun j _ z=> ?_
      cases h:y.getD j false with
      | false=>rfl
      | true=>rw[(qa4 T).2 (.inr h)] at z;cases z
     have m1:=m s;have m2:=m r;rw[qfy T,Z];simp only[Bool.not_true,Bool.not_false,Bool.false_eq_true,if_false,if_true];omega
    omega
  unfold wpOp;rw[ho];simp only;cases hg:o.guard with
  | none =>
   rw[hg] at K;rw[if_pos (by unfold Region.wanted;rw[hg])];exact .inl (qjq V K fun v w' h=>next v w' h.1 h.2.1 h.2.2)
  | some gb =>
   obtain⟨g,b⟩:=gb;rw[hg] at K;obtain⟨c0,t,b3⟩:=D.guard i o J g b hg;have b2:=U g c0;have b9:=I.at_ g t b2 b3;obtain⟨p1,p2⟩:=K (I.phi g b2);have hy:Region.wanted o (yielded l.toArray a.tmps)=true↔qz g = .bool b:=by
    unfold Region.wanted yielded;rw[hg];have e1:(l.toArray[g]?).bind (·.dst)=some t:=by simpa [qbr] using b3
    simp only[e1,Option.bind_some,b9];constructor
    ·intro h;split at h
     ·rename_i b' b1;simp only[Option.some.injEq] at b1;simp at h;rw[b1,h]
     ·simp at h
    ·intro h;rw[h];simp
   by_cases hw:Region.wanted o (yielded l.toArray a.tmps)=true
   ·rw[if_pos hw];exact .inl (qjq V (p1 (hy.1 hw)) fun v w' h=>next v w' h.1 h.2.1 h.2.2)
   ·rw[if_neg hw];exact next undef w (b7 w) I.s (p2 fun h=>hw (hy.2 h))
theorem qcf(n i:Nat):(Array.replicate n false).getD i false=false:=by
 rw[Array.getD_eq_getD_getElem?,Array.getElem?_replicate];split<;>rfl
theorem zam{id:Nat}{a:Act}{w:World}{Q:Exit→Act→World→Prop}(E:P.follows .mixedOrders=true)(L:List (List (Nat × Nat)))(n:Nat)(H:a.tmps.size=n)(C:q9p l (qvc l []) L n=true)(A:List (Nat × Nat))(z:qbu l=A)
  (S:World→Prop) (R:World→World→Prop) (Φ:Nat→Value→World→Prop) (D:S w.drew) (x:∀w,R w w) (m:∀i v w w',S w→S w'→R w w'→Φ i v w→Φ i v w')
  (q:qad P a S R Φ 0 l L) (y:∀qz w,S w→(∀i,i<l.length→Φ i (qz i) w)→Q .normal (putL a qz A) w) :
  (Code.region id l.toArray true).wp P Q a w:=by
 subst z
 refine wp_region_any E ?_
 refine q68 (q2y C) H x m q y _ _ a _ (fun _=>undef) ⟨by simp,D,?_,?_,rfl,rfl,fun _ _=>rfl,?_⟩ ?_
 ·intro i o;rw[qcf] at o;cases o
 ·intro i o;rw[qcf] at o;cases o
 ·intro i t o;rw[qcf] at o;cases o
 ·refine Nat.le_trans List.countP_le_length ?_;simp
end
end
end Go.Proofs.YtfmkdoachjgjbaaGreatDoor
