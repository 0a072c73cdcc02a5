/-
  Types without pointers: what their cells are, read off the type. One law for every such argument.
-/
import Derived.Test.YtjpmomdechibmaaGreatDoorMaa
import Derived.ProofKit
import Derived.OpenShut
import Derived.ShutString
import Derived.ChangeOld
import Derived.Deep.Slices
import Derived.Laws.StructEq
import Derived.Stop.BytesEq
import Derived.Test.YtjpmomdechibmaaGreatDoorMbd
import Derived.Test.YtjpmomdechibmaaGreatDoorMbg
set_option linter.unusedVariables false
set_option linter.unusedSimpArgs false
namespace Go.Proofs.YtjpmomdechibmaaGreatDoor
open Go.RowKit Go.ChangeShapes Go.WideShapes Go.ChangeAt Go.Deep
inductive Leaf where
 | bool
 | int (k:IntKind)
 | str
 deriving DecidableEq
def Leaf.fits:Leaf→Value→Prop
 | .bool,v=>∃b,v = .bool b
 | .int k,v=>∃n,v = .int k n∧(Lit.int k n).wf=true
 | .str,v=>∃s:ByteArray,v = .string s∧s.size≤maxLen
def qdg:List Leaf→List Value→Prop
 | [],cs=>cs=[]
 | l::ls,cs=>∃v r,cs=v::r∧l.fits v∧qdg ls r
theorem qdg.len:∀ {ls:List Leaf} {cs:List Value},qdg ls cs→cs.length=ls.length
 | [],_,h=>by rw[show _=[] from h];rfl
 | l::ls,_,h=>by obtain⟨v,r,rfl,_,f⟩:=h;simp[f.len]
theorem qdg.app:∀ {ls g:List Leaf} {cs f:List Value},qdg ls cs→qdg g f→qdg (ls++g) (cs++f)
 | [],_,_,_,h,k=>by rw[show _=[] from h];exact k
 | l::ls,_,_,_,h,k=>by obtain⟨v,r,rfl,j,i⟩:=h;exact⟨v,_,rfl,j,i.app k⟩
theorem qdg.split:∀ {ls f:List Leaf} {cs:List Value},qdg (ls++f) cs→∃a b,cs=a++b∧qdg ls a∧qdg f b
 | [],_,cs,h=>⟨[],cs,rfl,rfl,h⟩
 | l::ls,_,_,h=>by
  obtain⟨v,r,rfl,m,j⟩:=h
  obtain⟨a,b,rfl,g,i⟩:=qdg.split j
  exact⟨v::a,b,rfl,⟨v,a,rfl,m,g⟩,i⟩
theorem qdg.cat:∀ {L:List (List Leaf)} {C:List (List Value)},L.length=C.length→(∀(i:Nat) l c,L[i]? = some l→C[i]? = some c→qdg l c)→qdg L.flatten C.flatten
 | [],[],_,_=>rfl
 | [],_::_,h,_=>by simp at h
 | _::_,[],h,_=>by simp at h
 | l::L,c::C,h,k=>by
  rw[List.flatten_cons,List.flatten_cons]
  exact(k 0 l c rfl rfl).app (qdg.cat (by simpa using h) fun i x y f g=>k (i+1) x y f g)
def qbj(P:Program)(rec:TypeId→Option (List Leaf)):Nat→List Field→Option (List Leaf)
 | _,[]=>some []
 | o,f::r=>match rec f.type with
  | none=>none
  | some l=>if f.offset=o∧P.cellsOf f.type=l.length then (qbj P rec (o+l.length) r).map (l ++ ·) else none
def qck(P:Program):Nat→TypeId→Option (List Leaf)
 | 0,_=>none
 | n+1,t=>match P.underlying t with
  | some .bool=>some [.bool]
  | some (.int k)=>some [.int k]
  | some .string=>some [.str]
  | some (.struct f)=>match qbj P (qck P n) 0 f.toList with
   | some l=>if P.cellsOf t=l.length then some l else none
   | none=>none
  | some (.array m e)=>match qck P n e with
   | some l=>if P.cellsOf e=l.length∧P.cellsOf t=m*l.length then some (List.replicate m l).flatten else none
   | none=>none
  | _=>none
section
variable {H:Type}{enc:TypeId × Value→H}{P:Program}{w:World}{base:Nat}{spare:Nat→Bool}{held:Bool}
theorem qo9{rec:TypeId→Option (List Leaf)}{cs:List Value}(j:∀t l c x i,rec t=some l→DataW.trod enc P w base spare held i t c=some x→qdg l c) :
  ∀(v:List Field) (o:Nat) (L:List Leaf),qbj P rec o v=some L→cs.length=o+L.length →
   (∀f∈v,∃i x,DataW.trod enc P w base spare held i f.type ((cs.drop f.offset).take (P.cellsOf f.type))=some x)→qdg L (cs.drop o)
 | [],o,L,h,m,_=>by
  simp only[qbj,Option.some.injEq] at h
  subst h
  show cs.drop o=[]
  exact List.drop_eq_nil_of_le (by simp at m;omega)
 | f::r,o,L,h,m,z=>by
  unfold qbj at h
  cases q:rec f.type with
  | none=>rw[q] at h;cases h
  | some l =>
   rw[q] at h
   simp only at h
   split at h
   ·rename_i E
    obtain⟨J,I⟩:=E
    rw[Option.map_eq_some_iff] at h
    obtain⟨M,D,rfl⟩:=h
    obtain⟨i,x,K⟩:=z f (List.mem_cons_self ..)
    have y:=j _ _ _ _ _ q K
    rw[J,I] at y
    rw[List.length_append] at m
    have C:=qo9 j r (o+l.length) M D (by omega) (fun g F=>z g (List.mem_cons_of_mem _ F))
    have e:cs.drop o=(cs.drop o).take l.length++cs.drop (o+l.length):=by
     rw[←List.drop_drop,List.take_append_drop]
    rw[e]
    exact y.app C
   ·cases h
theorem qo5(k:Nat):∀(m:Nat) (cs:List Value),cs.length=m*k→cs=((List.range m).map fun i=>(cs.drop (i*k)).take k).flatten
 | 0,cs,h=>by
  have:cs=[]:=List.length_eq_zero_iff.1 (by omega)
  subst this;rfl
 | m+1,cs,h=>by
  have f:=qo5 k m (cs.drop k) (by rw[List.length_drop,h,Nat.succ_mul];omega)
  rw[List.range_succ_eq_map,List.map_cons,List.flatten_cons,Nat.zero_mul,List.drop_zero,List.map_map]
  have e:((List.range m).map ((fun i=>(cs.drop (i*k)).take k) ∘ Nat.succ))=((List.range m).map fun i=>((cs.drop k).drop (i*k)).take k):=by
   apply List.map_congr_left
   intro i _
   show (cs.drop ((i+1)*k)).take k=_
   rw[List.drop_drop,Nat.succ_mul,Nat.add_comm]
  rw[e,←f,List.take_append_drop]
theorem qmv:∀(n:Nat) (t:TypeId) (l:List Leaf) (cs:List Value) (x:DataW H × List MemPlace) (g:Nat),qck P n t=some l→DataW.trod enc P w base spare held g t cs=some x→qdg l cs
 | 0,_,_,_,_,_,h,_=>by simp[qck] at h
 | n+1,t,l,cs,x,g,h,y=>by
  unfold qck at h
  split at h
  ·rename_i j
   obtain⟨b,rfl,_⟩:=DataW.trod_bool j y
   simp only[Option.some.injEq] at h
   subst h
   exact⟨_,_,rfl,⟨b,rfl⟩,rfl⟩
  ·rename_i k j
   obtain⟨z,rfl,_,K⟩:=DataW.trod_int j y
   simp only[Option.some.injEq] at h
   subst h
   exact⟨_,_,rfl,⟨z,rfl,K⟩,rfl⟩
  ·rename_i j
   obtain⟨s,rfl,_,K⟩:=DataW.trod_string j y
   simp only[Option.some.injEq] at h
   subst h
   exact⟨_,_,rfl,⟨s,rfl,K⟩,rfl⟩
  ·rename_i N j
   split at h
   ·rename_i L E
    split at h
    ·rename_i M
     simp only[Option.some.injEq] at h
     subst h
     obtain⟨xs,m,_,_,v,C,F⟩:=DataW.trod_struct j y
     refine qo9 (rec:=qck P n) (cs:=cs) (fun t l c x g O R=>qmv n t l c x g O R) N.toList 0 L E (by omega) fun f I=> ?_
     obtain⟨i,o⟩:=List.getElem?_of_mem I
     rw[Array.getElem?_toList] at o
     have:=F i f o
     have J:i<xs.length:=by rw[C];exact(Array.getElem?_eq_some_iff.1 o).1
     rw[List.getElem?_eq_getElem J] at this
     exact⟨m,_,this⟩
    ·cases h
   ·cases h
  ·rename_i m e j
   split at h
   ·rename_i L E
    split at h
    ·rename_i M
     simp only[Option.some.injEq] at h
     subst h
     obtain⟨xs,k,_,_,v,C,F⟩:=DataW.trod_array j y
     rw[qo5 L.length m cs (by omega)]
     refine qdg.cat (by simp) fun i a c D q=> ?_
     obtain⟨o,rfl⟩:i<m∧a=L:=by
      rw[List.getElem?_replicate] at D
      split at D
      ·exact⟨‹_›,(Option.some.inj D).symm⟩
      ·cases D
     rw[List.getElem?_map,List.getElem?_range o,Option.map_some,Option.some.injEq] at q
     subst q
     have:=F i o
     rw[M.1,List.getElem?_eq_getElem (by omega)] at this
     exact qmv n e _ _ _ k E this
    ·cases h
   ·cases h
  ·cases h
theorem q1c{α:Type}{R:Nat→α→Prop} : ∀ {n:Nat},(∀i,i<n→∃a,R i a)→∃L:List α,L.length=n∧∀(i:Nat) a,L[i]? = some a→R i a
 | 0,_=>⟨[],rfl,by simp⟩
 | n+1,h=>by
  obtain⟨L,g,j⟩:=q1c (n:=n) fun i m=>h i (by omega)
  obtain⟨a,l⟩:=h n (by omega)
  refine⟨L++[a],by simp[g],fun i b f=> ?_⟩
  rw[List.getElem?_append] at f
  split at f
  ·exact j i b f
  ·rename_i m
   obtain⟨rfl,rfl⟩:i=n∧b=a:=by
    rw[List.getElem?_singleton] at f
    split at f
    ·exact⟨by omega,(Option.some.inj f).symm⟩
    ·cases f
   exact l
theorem qoc{t e:TypeId}{v:Value}{d:DataW H}{p:List MemPlace}{l:List Leaf}{W:World}{b0:Nat}(n:Nat)(V:P.underlying t=some (.slice e))(hl:qck P n e=some l)(U:P.cellsOf e=l.length)(hz:0<l.length)
  (hv:Value.okWide P W .any b0 t v) (h:DataW.Trod enc P W 0 (fun _=>true) true t v d p) :
  ∃L:List (List Value),(∀c∈L,qdg l c)∧((∃a cap,v = .slice a 0 cap∧L=[]) ∨
   ∃g off cap,v = .slice (some ⟨g,off,none⟩) L.length cap∧0<L.length∧L.length≤cap∧cap≤maxLen∧(∀j,j<L.length*l.length→MemPlace.cell g (off+j)∈p)∧∀i c,L[i]? = some c→∀j,j<l.length→W.cell? ⟨g,off+(i*l.length+j),none⟩=c[j]?):=by
 obtain⟨a0,len,cap,rfl⟩:=okWide_slice V hv
 obtain⟨T,hf⟩:=h
 rcases open_slice V hf with ⟨f,_⟩ | ⟨a,Y,O,m,k,D,Pl,f,_,a4,hm,C,X,hi⟩
 ·simp[Value.cells] at f
  obtain⟨rfl,rfl,rfl⟩:=f
  exact⟨[],by simp,.inl ⟨_,_,rfl,rfl⟩⟩
 ·simp[Value.cells] at f
  obtain⟨rfl,rfl,rfl⟩:=f
  by_cases h0:len=0
  ·subst h0
   exact⟨[],by simp,.inl ⟨_,_,rfl,rfl⟩⟩
  ·replace C:m=cap:=by simpa using C
   obtain⟨L,hL,J⟩:=q1c (n:=len) (R:=fun i o=>W.cells? 0 (a.add (i*P.cellsOf e)) (P.cellsOf e)=some o∧DataW.trod enc P W 0 (fun _=>true) true k e o=some (D i,Pl i)) fun i a5=>by
    obtain⟨o,z,I⟩:=hi i (by omega)
    exact⟨o,z,I⟩
   obtain⟨b,off,E⟩:=a
   have y:E=none:=by
    obtain⟨F,M⟩:∃c,L[0]? = some c:=⟨_,List.getElem?_eq_getElem (by omega)⟩
    obtain⟨z,I⟩:=J 0 F M
    obtain⟨_,N,q⟩:=World.cells?_some z
    have:=q 0 (by omega)
    rw[Nat.zero_mul] at this
    have h3:F[0]? = some (F[0]'(by omega)):=List.getElem?_eq_getElem (by omega)
    rw[h3] at this
    simpa [Addr.add] using World.cell?_spot this
   subst y
   refine⟨L,?_,.inr ⟨b,off,cap,by rw[hL],by omega,by omega,hm,?_,?_⟩⟩
   ·intro c K
    obtain⟨i,x⟩:=List.getElem?_of_mem K
    exact qmv n e l c _ k hl (J i c x).2
   ·intro j hj
    simp only[Prod.mk.injEq] at X
    rw[X.2]
    refine List.mem_append_left _ ?_
    unfold MemPlace.row
    rw[List.mem_map]
    have:L.length*l.length≤m*l.length:=Nat.mul_le_mul_right _ (by omega)
    exact⟨j,by rw[List.mem_range,U];omega,rfl⟩
   ·intro i c x j hj
    obtain⟨z,I⟩:=J i c x
    obtain⟨_,N,q⟩:=World.cells?_some z
    have:=q j (by omega)
    rw[add_add,U] at this
    have Z:(⟨b,off,none⟩:Addr).add (i*l.length+j)=⟨b,off+(i*l.length+j),none⟩:=by unfold Addr.add;split<;>simp_all
    rwa [Z] at this
end
def qhr(P:Program)(t:TypeId):Bool:=match P.underlying t with | some (.struct _)=>true | some (.array _ _)=>true | _=>false
def mkV(P:Program)(t:TypeId)(cs:List Value):Value:=if qhr P t then .agg cs.toArray else cs.headD undef
def eqB(P:Program):Nat→TypeId→Bool
 | 0,_=>false
 | n+1,t=>(P.info? t).isSome&&match P.underlying t with
  | some .bool=>true
  | some (.int _)=>true
  | some .string=>true
  | some (.struct g)=> !P.stoodInHeld t&&g.toList.all fun f=>f.name != "_"&&eqB P n f.type
  | some (.array _ e)=>eqB P n e
  | _=>false
section
variable {P:Program}
theorem qvq{n:Nat}{t:TypeId}(h:eqB P n t=true):∃i,P.info? t=some i:=by
 cases n with
 | zero=>cases h
 | succ n =>
  unfold eqB at h
  simp only[Bool.and_eq_true] at h
  exact Option.isSome_iff_exists.1 h.1
theorem qqd{t:TypeId}{i:TypeInfo}(h:P.info? t=some i)(w:World):(sizeOf t).run P w = .ok (P.cellsOf t) w:=by
 simp[sizeOf,typeInfo,h,Program.cellsOf]
theorem q2r{n:Nat}{t:TypeId}{l:List Leaf}(h:qck P n t=some l)(f:qhr P t=false):∃k,l=[k]:=by
 cases n with
 | zero=>simp[qck] at h
 | succ n =>
  unfold qck at h
  unfold qhr at f
  split at h
  ·exact⟨_,(Option.some.inj h).symm⟩
  ·exact⟨_,(Option.some.inj h).symm⟩
  ·exact⟨_,(Option.some.inj h).symm⟩
  ·rename_i g;rw[g] at f;cases f
  ·rename_i g;rw[g] at f;cases f
  ·cases h
theorem q55{n:Nat}{t:TypeId}{l:List Leaf}(h:qck P n t=some l):∃d,P.underlying t=some d:=by
 cases n with
 | zero=>simp[qck] at h
 | succ n =>
  unfold qck at h
  cases f:P.underlying t with
  | none=>rw[f] at h;cases h
  | some d=>exact⟨d,rfl⟩
theorem qmd{n:Nat}{t:TypeId}{l:List Leaf}(h:qck P n t=some l)(q:P.cellsOf t=l.length){i:TypeInfo}(v:P.info? t=some i)(xs:List Value)(o:Nat)(x:o+l.length≤xs.length)(w:World) :
  (part t xs.toArray o).run P w = .ok (mkV P t ((xs.drop o).take l.length)) w:=by
 obtain⟨d,m⟩:=q55 h
 unfold part mkV
 cases f:qhr P t with
 | true =>
  have g:(isAgg t).run P w = .ok true w:=by
   unfold qhr at f
   unfold isAgg
   simp only[Sem.run_bind,run_underlying m,Result.andThen_ok]
   rw[m] at f
   cases d<;>simp at f ⊢
  simp only[Sem.run_bind,g,Result.andThen_ok,if_true,qqd v,Sem.run_pure]
  congr 2
  apply Array.ext'
  rw[q]
  simp[List.extract_eq_take_drop,List.take_drop]
 | false =>
  have g:(isAgg t).run P w = .ok false w:=by
   unfold qhr at f
   unfold isAgg
   simp only[Sem.run_bind,run_underlying m,Result.andThen_ok]
   rw[m] at f
   cases d<;>simp at f ⊢
  obtain⟨k,rfl⟩:=q2r h f
  have j:o<xs.length:=by simp at x;omega
  have y:xs.toArray[o]? = some xs[o]:=by simp[j]
  simp only[Sem.run_bind,g,Result.andThen_ok,Bool.false_eq_true,if_false,y,Sem.run_pure]
  congr 1
  rw[List.drop_eq_getElem_cons j]
  rfl
theorem zb5{a b c d:List Value}(h:a.length=b.length):a++c=b++d↔a=b∧c=d :=
 ⟨fun e=>List.append_inj e h,fun⟨e,f⟩=>by rw[e,f]⟩
theorem qk1{rec:TypeId→Option (List Leaf)}{d:Nat}{xs m:List Value}
  (j:∀t l,rec t=some l→P.cellsOf t=l.length→∀o,o+l.length≤xs.length→(part t xs.toArray o).run P=(fun w=> .ok (mkV P t ((xs.drop o).take l.length)) w)∧(part t m.toArray o).run P=(fun w=> .ok (mkV P t ((m.drop o).take l.length)) w))
  (q:∀t l,rec t=some l→∀a b,qdg l a→qdg l b→∀r:Bool,(r=true↔a=b)→∀w,(Op.equalIn d t (mkV P t a) (mkV P t b)).run P w = .ok r w) :
  ∀(v:List Field) (o:Nat) (L:List Leaf),qbj P rec o v=some L→(∀f∈v,f.name≠"_")→xs.length=o+L.length→m.length=o+L.length→qdg L (xs.drop o)→qdg L (m.drop o) →
   ∀r:Bool,(r=true↔xs.drop o=m.drop o)→∀w,(Op.eqFields d xs.toArray m.toArray v).run P w = .ok r w
 | [],o,L,h,_,F,H,_,_,r,y,w=>by
  simp only[qbj,Option.some.injEq] at h
  subst h
  have:r=true:=y.2 (by rw[List.drop_eq_nil_of_le (by simp at F;omega),List.drop_eq_nil_of_le (by simp at H;omega)])
  subst this
  rfl
 | f::v,o,L,h,K,F,H,R,T,r,y,w=>by
  unfold qbj at h
  cases x:rec f.type with
  | none=>rw[x] at h;cases h
  | some l =>
   rw[x] at h
   simp only at h
   split at h
   ·rename_i V
    obtain⟨Y,X⟩:=V
    rw[Option.map_eq_some_iff] at h
    obtain⟨M,U,rfl⟩:=h
    rw[List.length_append] at F H
    obtain⟨a,N,ea,z,C⟩:=R.split
    obtain⟨b,O,eb,D,E⟩:=T.split
    have la:=z.len
    have lb:=D.len
    have ta:(xs.drop o).take l.length=a:=by rw[ea,←la];simp
    have tb:(m.drop o).take l.length=b:=by rw[eb,←lb];simp
    have I:xs.drop (o+l.length)=N:=by rw[←List.drop_drop,ea,←la];simp
    have J:m.drop (o+l.length)=O:=by rw[←List.drop_drop,eb,←lb];simp
    obtain⟨Z,p2⟩:=j f.type l x X o (by omega)
    unfold Op.eqFields
    rw[if_pos (K f (List.mem_cons_self ..)),Y]
    simp only[Sem.run_bind,Z,p2,Result.andThen_ok,ta,tb]
    rw[ea,eb,zb5 (by rw[la,lb])] at y
    by_cases i:a=b
    ·rw[q f.type l x a b z D true (by simp[i]) w]
     simp only[Result.andThen_ok,Bool.not_true,Bool.false_eq_true,if_false]
     refine qk1 j q v (o+l.length) M U (fun g W=>K g (List.mem_cons_of_mem _ W)) (by omega) (by omega) (by rw[I];exact C) (by rw[J];exact E) r ?_ w
     rw[I,J,y]
     simp[i]
    ·rw[q f.type l x a b z D false (by simp[i]) w]
     have:r=false:=by
      cases r with
      | false=>rfl
      | true=>exact absurd (y.1 rfl).1 i
     subst this
     simp
   ·cases h
theorem qgm:∀(n d:Nat) (t:TypeId) (l:List Leaf) (xs y:List Value),n≤d→eqB P n t=true→qck P n t=some l→qdg l xs→qdg l y→∀r:Bool,(r=true↔xs=y)→∀w,(Op.equalIn d t (mkV P t xs) (mkV P t y)).run P w = .ok r w
 | 0,_,_,_,_,_,_,h,_,_,_,_,_,_=>by cases h
 | n+1,d,t,l,xs,y,hd,K,h,I,J,r,M,w=>by
  obtain⟨d,rfl⟩:∃d',d=d'+1:=⟨d-1,by omega⟩
  have a4:=h
  unfold qck at h
  split at h
  ·rename_i q
   simp only[Option.some.injEq] at h
   subst h
   obtain⟨_,_,rfl,⟨a,rfl⟩,rfl⟩:=I
   obtain⟨_,_,rfl,⟨b,rfl⟩,rfl⟩:=J
   have v:qhr P t=false:=by unfold qhr;rw[q]
   unfold mkV
   rw[v]
   simp only[Bool.false_eq_true,if_false,List.headD_cons]
   rw[run_equalIn_bool' w d t a b q]
   congr 1
   rw[Bool.eq_iff_iff,M]
   simp
  ·rename_i k q
   simp only[Option.some.injEq] at h
   subst h
   obtain⟨_,_,rfl,⟨a,rfl,_⟩,rfl⟩:=I
   obtain⟨_,_,rfl,⟨b,rfl,_⟩,rfl⟩:=J
   have v:qhr P t=false:=by unfold qhr;rw[q]
   unfold mkV
   rw[v]
   simp only[Bool.false_eq_true,if_false,List.headD_cons]
   rw[run_equalIn_int w d t k k a b q]
   congr 1
   rw[Bool.eq_iff_iff,M]
   simp
  ·rename_i q
   simp only[Option.some.injEq] at h
   subst h
   obtain⟨_,_,rfl,⟨a,rfl,_⟩,rfl⟩:=I
   obtain⟨_,_,rfl,⟨b,rfl,_⟩,rfl⟩:=J
   have v:qhr P t=false:=by unfold qhr;rw[q]
   unfold mkV
   rw[v]
   simp only[Bool.false_eq_true,if_false,List.headD_cons]
   rw[run_equalIn_string w d t a b q]
   congr 1
   rw[Bool.eq_iff_iff,M,beq_iff_eq,ByteArray.toList_eq,ByteArray.toList_eq]
   constructor
   ·intro h
    have:a=b:=by
     obtain⟨a⟩:=a
     obtain⟨b⟩:=b
     exact congrArg ByteArray.mk (Array.ext' h)
    rw[this]
   ·intro h
    cases h
    rfl
  ·rename_i fs q
   split at h
   ·rename_i L U
    split at h
    ·rename_i W
     simp only[Option.some.injEq] at h
     subst h
     unfold eqB at K
     rw[q] at K
     simp only[Bool.and_eq_true,Bool.not_eq_true'] at K
     obtain⟨_,hp,a5⟩:=K
     have v:qhr P t=true:=by unfold qhr;rw[q]
     unfold mkV
     rw[v]
     simp only[if_true]
     have X:P.fieldsOf t=fs:=by unfold Program.fieldsOf;rw[q]
     rw[run_equalIn_struct w d t _ _ (by rw[X];exact q) hp,X]
     have hx:=I.len
     have hy:=J.len
     have Y:∀f∈fs.toList,f.name≠"_"∧eqB P n f.type=true:=fun f O=>by
      have:=List.all_eq_true.1 a5 f O
      simpa using this
     refine qk1 (rec:=fun t=>if eqB P n t then qck P n t else none) (fun t' l' z h2 o ho=> ?_) (fun t' l' z a b fa fb r M w=> ?_) fs.toList 0 L ?_ (fun f O=>(Y f O).1) (by omega) (by omega) I J r M w
     ·by_cases D:eqB P n t'=true
      ·rw[if_pos D] at z
       obtain⟨i,x⟩:=qvq D
       exact⟨funext fun w=>qmd z h2 x xs o ho w,funext fun w=>qmd z h2 x y o (by omega) w⟩
      ·rw[if_neg D] at z;cases z
     ·by_cases D:eqB P n t'=true
      ·rw[if_pos D] at z
       exact qgm n d t' l' a b (by omega) D z fa fb r M w
      ·rw[if_neg D] at z;cases z
     ·have key:∀(T:List Field) (o:Nat),(∀f∈T,eqB P n f.type=true)→qbj P (fun t=>if eqB P n t then qck P n t else none) o T=qbj P (qck P n) o T:=by
       intro T
       induction T with
       | nil=>intro o _;rfl
       | cons g T V =>
        intro o hg
        unfold qbj
        rw[if_pos (hg g (List.mem_cons_self ..))]
        cases qck P n g.type with
        | none=>rfl
        | some l=>simp only[V _ fun f O=>hg f (List.mem_cons_of_mem _ O)]
      rw[key fs.toList 0 fun f O=>(Y f O).2]
      exact U
    ·cases h
   ·cases h
  ·rename_i m e q
   split at h
   ·rename_i L U
    split at h
    ·rename_i W
     simp only[Option.some.injEq] at h
     subst h
     unfold eqB at K
     rw[q] at K
     simp only[Bool.and_eq_true] at K
     obtain⟨_,N⟩:=K
     obtain⟨ie,R⟩:=qvq N
     have v:qhr P t=true:=by unfold qhr;rw[q]
     unfold mkV
     rw[v]
     simp only[if_true]
     have Z:((List.replicate m L).flatten).length=m*L.length:=by simp
     have hx:=I.len
     have hy:=J.len
     rw[Z] at hx hy
     have E:∀(m:Nat) (zs:List Value),qdg (List.replicate m L).flatten zs→∀i,i<m→qdg L ((zs.drop (i*L.length)).take L.length):=by
      intro m
      induction m with
      | zero=>intro zs _ i x;omega
      | succ m V =>
       intro zs hz i x
       rw[List.replicate_succ,List.flatten_cons] at hz
       obtain⟨a,b,rfl,v,D⟩:=hz.split
       cases i with
       | zero=>rw[Nat.zero_mul,List.drop_zero,←v.len,List.take_left];exact v
       | succ i =>
        have:=V b D i (by omega)
        rw[Nat.succ_mul,Nat.add_comm,←List.drop_drop,←v.len,List.drop_left]
        rw[v.len]
        exact this
     have F:(r=true↔∀i∈List.range' 0 m 1,(xs.drop (i*L.length)).take L.length=(y.drop (i*L.length)).take L.length):=by
      rw[M]
      constructor
      ·rintro rfl i _;rfl
      ·intro H
       rw[qo5 L.length m xs hx,qo5 L.length m y hy]
       congr 1
       apply List.map_congr_left
       intro i x
       exact H i (by simpa using List.mem_range.1 x)
     unfold Op.equalIn
     simp only[Sem.run_bind,run_underlying q,Result.andThen_ok,qqd R,Std.Legacy.Range.forIn_eq_forIn_range',Std.Legacy.Range.size,Nat.sub_zero,Nat.add_sub_cancel,Nat.div_one]
     have hl:∀i∈List.range' 0 m 1,i<m:=fun i x=>by simpa using (List.mem_range'_1.1 x).2
     clear M
     generalize List.range' 0 m 1=is at hl F ⊢
     induction is with
     | nil =>
      have:r=true:=F.2 (by simp)
      subst this
      simp
     | cons i is V =>
      have x:i<m:=hl i (by simp)
      have a6:i*L.length+L.length≤m*L.length:=by have:=Nat.mul_le_mul_right L.length (show i+1≤m from x);rw[Nat.succ_mul] at this;exact this
      rw[W.1]
      rw[W.1] at V
      have px:=qmd U W.1 R xs (i*L.length) (by omega) w
      have py:=qmd U W.1 R y (i*L.length) (by omega) w
      simp only[List.forIn_cons,Sem.run_bind,px,py,Result.andThen_ok]
      by_cases C:(xs.drop (i*L.length)).take L.length=(y.drop (i*L.length)).take L.length
      ·rw[qgm n d e L _ _ (by omega) N U (E m xs I i x) (E m y J i x) true (by simp[C]) w]
       simp only[Result.andThen_ok,Bool.not_true,Bool.false_eq_true,if_false,Sem.run_pure]
       refine V (fun j hj=>hl j (by simp[hj])) ?_
       rw[F]
       simp[C]
      ·rw[qgm n d e L _ _ (by omega) N U (E m xs I i x) (E m y J i x) false (by simp[C]) w]
       have:r=false:=by
        cases r with
        | false=>rfl
        | true=>exact absurd (F.1 rfl i (by simp)) C
       subst this
       simp
    ·cases h
   ·cases h
  ·cases h
theorem qmb(n:Nat){t:TypeId}{l:List Leaf}(q:n≤10000)(m:eqB P n t=true)(o:qck P n t=some l)(j:qhr P t=true){xs f:List Value}(g:qdg l xs)(i:qdg l f)(r:Bool)(v:r=true↔xs=f)(w:World) :
  (binOp .eql t (.agg xs.toArray) (.agg f.toArray)).run P w = .ok (.bool r) w:=by
 have:=qgm n 10000 t l xs f q m o g i r v w
 unfold mkV at this
 rw[j] at this
 simp only[if_true] at this
 rw[run_eql_struct,this]
 rfl
theorem quo(n:Nat){t:TypeId}{l:List Leaf}(q:n≤10000)(m:eqB P n t=true)(o:qck P n t=some l)(j:qhr P t=true){xs f:List Value}(g:qdg l xs)(i:qdg l f)(r:Bool)(v:r=true↔xs=f)(w:World) :
  (binOp .neq t (.agg xs.toArray) (.agg f.toArray)).run P w = .ok (.bool (!r)) w:=by
 have:=qgm n 10000 t l xs f q m o g i r v w
 unfold mkV at this
 rw[j] at this
 simp only[if_true] at this
 rw[run_neq_struct,this]
 rfl
end
end Go.Proofs.YtjpmomdechibmaaGreatDoor
namespace Go.Proofs.YtjpmomdechibmaaGreatDoor
open Go.RowKit
def qaz(h:List Int):Prop:=∀b∈h,0≤b∧b≤255
theorem Tryz.flatHsh:qck Tryz.prog 5 28=some (List.replicate 32 (.int .u8)):=by kernel_rfl
theorem Tryz.eqHsh:eqB Tryz.prog 5 28=true:=by kernel_rfl
theorem Tryz.aggHsh:qhr Tryz.prog 28=true:=by kernel_rfl
theorem zas{x:Int}(h:0≤x∧x≤255):(Lit.int .u8 x).wf=true:=by
 simp[Lit.wf,IntKind.min,IntKind.max,IntKind.signed,IntKind.bits];omega
theorem qpo(k:IntKind):∀(l:List Int),(∀x∈l,(Lit.int k x).wf=true)→qdg (List.replicate l.length (.int k)) (l.map (Value.int k))
 | [],_=>rfl
 | x::l,h=>⟨_,_,rfl,⟨_,rfl,h x (List.mem_cons_self ..)⟩,qpo k l fun y f=>h y (List.mem_cons_of_mem _ f)⟩
theorem qjz{h:List Int}(g:h.length=32)(f:qaz h):qdg (List.replicate 32 (.int .u8)) (zb h):=by
 have:=qpo .u8 h fun n i=>zas (f n i)
 rwa [g] at this
theorem qjy{a b:List Int}(h:zb a=zb b):a=b:=by
 unfold zb at h
 exact(List.map_inj_right (fun x y e=>by injection e)).1 h
def zbj(x y:Value):Sem Value:=binOp .neq 28 x y
theorem qj7(x y:Value):binOp .neq 28 x y=zbj x y:=rfl
theorem q7c{a b:List Int}(g:a.length=32)(i:b.length=32)(ba:qaz a)(f:qaz b)(w:World):(zbj (.agg (zb a).toArray) (.agg (zb b).toArray)).run Tryz.prog w = .ok (.bool (a != b)) w:=by
 have:=quo 5 (by decide) Tryz.eqHsh Tryz.flatHsh Tryz.aggHsh (qjz g ba) (qjz i f) (a==b) (by constructor<;>intro e<;>simp_all [qjy];exact qjy e) w
 exact this
def eqHsh(x y:Value):Sem Value:=binOp .eql 28 x y
theorem qvr(x y:Value):binOp .eql 28 x y=eqHsh x y:=rfl
theorem zb6{a b:List Int}(g:a.length=32)(i:b.length=32)(ba:qaz a)(f:qaz b)(w:World):(eqHsh (.agg (zb a).toArray) (.agg (zb b).toArray)).run Tryz.prog w = .ok (.bool (a==b)) w:=by
 have:=qmb 5 (by decide) Tryz.eqHsh Tryz.flatHsh Tryz.aggHsh (qjz g ba) (qjz i f) (a==b) (by constructor<;>intro e<;>simp_all [qjy];exact qjy e) w
 exact this
theorem qvg(h:List Int)(n:Nat):qaz (qgj h n):=by
 induction n with
 | zero=>intro x f;rw[qit] at f;have:=List.eq_of_mem_replicate f;omega
 | succ n g =>
  intro x f
  rw[qis] at f
  rcases List.mem_or_eq_of_mem_set f with h | rfl
  ·exact g x h
  ·unfold byI;omega
theorem qel(s:ByteArray):qaz (qft s):=qvg _ _
theorem qdn:qaz zz:=by
 intro b f
 have:=List.eq_of_mem_replicate f
 omega
end Go.Proofs.YtjpmomdechibmaaGreatDoor
