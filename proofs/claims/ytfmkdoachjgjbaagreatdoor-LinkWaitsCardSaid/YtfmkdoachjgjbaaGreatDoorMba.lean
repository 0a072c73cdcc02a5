/-
  '==' of structs and arrays without pointers: one law for every such type.
-/
import Derived.Test.YtfmkdoachjgjbaaGreatDoorMaj
import Derived.Laws.StructEq
import Derived.Stop.BytesEq
import Derived.Test.YtfmkdoachjgjbaaGreatDoorMaf
import Derived.Test.YtfmkdoachjgjbaaGreatDoorMac
import Derived.Test.YtfmkdoachjgjbaaGreatDoorMai
set_option maxRecDepth 100000
set_option maxHeartbeats 2000000
set_option linter.unusedVariables false
set_option linter.unusedSimpArgs false
namespace Go.Proofs.YtfmkdoachjgjbaaGreatDoor
section
open Go.RowKit Go.ChangeShapes Go.WideShapes Go.ChangeAt Go.Deep
def qgr(P:Program)(t:TypeId):Bool:=match P.underlying t with | some (.struct _)=>true | some (.array _ _)=>true | _=>false
def mkV(P:Program)(t:TypeId)(cs:List Value):Value:=if qgr P t then .agg cs.toArray else cs.headD undef
def eqB(P:Program):Nat→TypeId→Bool
 | 0,_=>false
 | n+1,t=>(P.info? t).isSome&&match P.underlying t with
  | some .bool=>true
  | some (.int _)=>true
  | some .string=>true
  | some (.struct i)=> !P.stoodInHeld t&&i.toList.all fun f=>f.name != "_"&&eqB P n f.type
  | some (.array _ e)=>eqB P n e
  | _=>false
section
variable {P:Program}
theorem qtw{n:Nat}{t:TypeId}(h:eqB P n t=true):∃i,P.info? t=some i:=by
 cases n with
 | zero=>cases h
 | succ n =>
  unfold eqB at h;simp only[Bool.and_eq_true] at h;exact Option.isSome_iff_exists.1 h.1
theorem qo2{t:TypeId}{i:TypeInfo}(h:P.info? t=some i)(w:World):(sizeOf t).run P w = .ok (P.cellsOf t) w:=by
 simp[sizeOf,typeInfo,h,Program.cellsOf]
theorem q0y{n:Nat}{t:TypeId}{l:List Leaf}(h:qc9 P n t=some l)(f:qgr P t=false):∃k,l=[k]:=by
 cases n with
 | zero=>simp[qc9] at h
 | succ n =>
  unfold qc9 at h;unfold qgr at f;split at h
  ·exact⟨_,(Option.some.inj h).symm⟩
  ·exact⟨_,(Option.some.inj h).symm⟩
  ·exact⟨_,(Option.some.inj h).symm⟩
  ·rename_i i;rw[i] at f;cases f
  ·rename_i i;rw[i] at f;cases f
  ·cases h
theorem q5r{n:Nat}{t:TypeId}{l:List Leaf}(h:qc9 P n t=some l):∃d,P.underlying t=some d:=by
 cases n with
 | zero=>simp[qc9] at h
 | succ n =>
  unfold qc9 at h;cases f:P.underlying t with
  | none=>rw[f] at h;cases h
  | some d=>exact⟨d,rfl⟩
theorem qlb{n:Nat}{t:TypeId}{l:List Leaf}(h:qc9 P n t=some l)(q:P.cellsOf t=l.length){i:TypeInfo}(v:P.info? t=some i)(xs:List Value)(o:Nat)(z:o+l.length≤xs.length)(w:World) :
  (part t xs.toArray o).run P w = .ok (mkV P t ((xs.drop o).take l.length)) w:=by
 obtain⟨d,hd⟩:=q5r h
 unfold part mkV
 cases f:qgr P t with
 | true =>
  have m:(isAgg t).run P w = .ok true w:=by
   unfold qgr at f;unfold isAgg;simp only[Sem.run_bind,run_underlying hd,Result.andThen_ok];rw[hd] at f;cases d<;>simp at f ⊢
  simp only[Sem.run_bind,m,Result.andThen_ok,if_true,qo2 v,Sem.run_pure];congr 2;apply Array.ext';rw[q];simp[List.extract_eq_take_drop,List.take_drop]
 | false =>
  have m:(isAgg t).run P w = .ok false w:=by
   unfold qgr at f;unfold isAgg;simp only[Sem.run_bind,run_underlying hd,Result.andThen_ok];rw[hd] at f;cases d<;>simp at f ⊢
  obtain⟨k,rfl⟩:=q0y h f;have p:o<xs.length:=by simp at z;omega
  have C:xs.toArray[o]? = some xs[o]:=by simp[p]
  simp only[Sem.run_bind,m,Result.andThen_ok,Bool.false_eq_true,if_false,C,Sem.run_pure];congr 1;rw[List.drop_eq_getElem_cons p];rfl
theorem zb0{a b c d:List Value}(h:a.length=b.length):a++c=b++d↔a=b∧c=d :=
 ⟨fun e=>List.append_inj e h,fun⟨e,f⟩=>by rw[e,f]⟩
theorem qjx{rec:TypeId→Option (List Leaf)}{d:Nat}{xs p:List Value}
  (m:∀t l,rec t=some l→P.cellsOf t=l.length→∀o,o+l.length≤xs.length→(part t xs.toArray o).run P=(fun w=> .ok (mkV P t ((xs.drop o).take l.length)) w)∧(part t p.toArray o).run P=(fun w=> .ok (mkV P t ((p.drop o).take l.length)) w))
  (q:∀t l,rec t=some l→∀a b,qdx l a→qdx l b→∀r:Bool,(r=true↔a=b)→∀w,(Op.equalIn d t (mkV P t a) (mkV P t b)).run P w = .ok r w) :
  ∀(v:List Field) (o:Nat) (L:List Leaf),qcl P rec o v=some L→(∀f∈v,f.name≠"_")→xs.length=o+L.length→p.length=o+L.length→qdx L (xs.drop o)→qdx L (p.drop o) →
   ∀r:Bool,(r=true↔xs.drop o=p.drop o)→∀w,(Op.eqFields d xs.toArray p.toArray v).run P w = .ok r w
 | [],o,L,h,_,N,O,_,_,r,C,w=>by
  simp only[qcl,Option.some.injEq] at h;subst h;have:r=true:=C.2 (by rw[List.drop_eq_nil_of_le (by simp at N;omega),List.drop_eq_nil_of_le (by simp at O;omega)]);subst this;rfl
 | f::v,o,L,h,T,N,O,W,X,r,C,w=>by
  unfold qcl at h;cases z:rec f.type with
  | none=>rw[z] at h;cases h
  | some l =>
   rw[z] at h;simp only at h;split at h
   ·rename_i Z;obtain⟨ho,hk⟩:=Z;rw[Option.map_eq_some_iff] at h;obtain⟨M,Y,rfl⟩:=h;rw[List.length_append] at N O;obtain⟨a,U,E,H,I⟩:=W.split;obtain⟨b,V,F,J,K⟩:=X.split;have la:=H.len;have lb:=J.len;have ta:(xs.drop o).take l.length=a:=by rw[E,←la];simp
    have tb:(p.drop o).take l.length=b:=by rw[F,←lb];simp
    have R:xs.drop (o+l.length)=U:=by rw[←List.drop_drop,E,←la];simp
    have S:p.drop (o+l.length)=V:=by rw[←List.drop_drop,F,←lb];simp
    obtain⟨p1,p2⟩:=m f.type l z hk o (by omega);unfold Op.eqFields;rw[if_pos (T f (List.mem_cons_self ..)),ho];simp only[Sem.run_bind,p1,p2,Result.andThen_ok,ta,tb];rw[E,F,zb0 (by rw[la,lb])] at C;by_cases i:a=b
    ·rw[q f.type l z a b H J true (by simp[i]) w];simp only[Result.andThen_ok,Bool.not_true,Bool.false_eq_true,if_false];refine qjx m q v (o+l.length) M Y (fun g hg=>T g (List.mem_cons_of_mem _ hg)) (by omega) (by omega) (by rw[R];exact I) (by rw[S];exact K) r ?_ w;rw[R,S,C];simp[i]
    ·rw[q f.type l z a b H J false (by simp[i]) w];have:r=false:=by
      cases r with
      | false=>rfl
      | true=>exact absurd (C.1 rfl).1 i
     subst this;simp
   ·cases h
theorem qfy:∀(n d:Nat) (t:TypeId) (l:List Leaf) (xs z:List Value),n≤d→eqB P n t=true→qc9 P n t=some l→qdx l xs→qdx l z→∀r:Bool,(r=true↔xs=z)→∀w,(Op.equalIn d t (mkV P t xs) (mkV P t z)).run P w = .ok r w
 | 0,_,_,_,_,_,_,h,_,_,_,_,_,_=>by cases h
 | n+1,d,t,l,xs,z,hd,N,h,K,M,r,O,w=>by
  obtain⟨d,rfl⟩:∃d',d=d'+1:=⟨d-1,by omega⟩;have a7:=h;unfold qc9 at h;split at h
  ·rename_i p;simp only[Option.some.injEq] at h;subst h;obtain⟨_,_,rfl,⟨a,rfl⟩,rfl⟩:=K;obtain⟨_,_,rfl,⟨b,rfl⟩,rfl⟩:=M;have q:qgr P t=false:=by unfold qgr;rw[p]
   unfold mkV;rw[q];simp only[Bool.false_eq_true,if_false,List.headD_cons];rw[run_equalIn_bool' w d t a b p];congr 1;rw[Bool.eq_iff_iff,O];simp
  ·rename_i k p;simp only[Option.some.injEq] at h;subst h;obtain⟨_,_,rfl,⟨a,rfl,_⟩,rfl⟩:=K;obtain⟨_,_,rfl,⟨b,rfl,_⟩,rfl⟩:=M;have q:qgr P t=false:=by unfold qgr;rw[p]
   unfold mkV;rw[q];simp only[Bool.false_eq_true,if_false,List.headD_cons];rw[run_equalIn_int w d t k k a b p];congr 1;rw[Bool.eq_iff_iff,O];simp
  ·rename_i p;simp only[Option.some.injEq] at h;subst h;obtain⟨_,_,rfl,⟨a,rfl,_⟩,rfl⟩:=K;obtain⟨_,_,rfl,⟨b,rfl,_⟩,rfl⟩:=M;have q:qgr P t=false:=by unfold qgr;rw[p]
   unfold mkV;rw[q];simp only[Bool.false_eq_true,if_false,List.headD_cons];rw[run_equalIn_string w d t a b p];congr 1;rw[Bool.eq_iff_iff,O,beq_iff_eq,ByteArray.toList_eq,ByteArray.toList_eq];constructor
   ·intro h;have:a=b:=by
     obtain⟨a⟩:=a;obtain⟨b⟩:=b;exact congrArg ByteArray.mk (Array.ext' h)
    rw[this]
   ·intro h;cases h;rfl
  ·rename_i fs p;split at h
   ·rename_i L V;split at h
    ·rename_i X;simp only[Option.some.injEq] at h;subst h;unfold eqB at N;rw[p] at N;simp only[Bool.and_eq_true,Bool.not_eq_true'] at N;obtain⟨_,hp,a8⟩:=N;have q:qgr P t=true:=by unfold qgr;rw[p]
     unfold mkV;rw[q];simp only[if_true];have Y:P.fieldsOf t=fs:=by unfold Program.fieldsOf;rw[p]
     rw[run_equalIn_struct w d t _ _ (by rw[Y];exact p) hp,Y];have hx:=K.len;have hy:=M.len;have Z:∀f∈fs.toList,f.name≠"_"∧eqB P n f.type=true:=fun f S=>by
      have:=List.all_eq_true.1 a8 f S;simpa using this
     refine qjx (rec:=fun t=>if eqB P n t then qc9 P n t else none) (fun t' l' C h2 o ho=> ?_) (fun t' l' C a b fa fb r O w=> ?_) fs.toList 0 L ?_ (fun f S=>(Z f S).1) (by omega) (by omega) K M r O w
     ·by_cases F:eqB P n t'=true
      ·rw[if_pos F] at C;obtain⟨i,v⟩:=qtw F;exact⟨funext fun w=>qlb C h2 v xs o ho w,funext fun w=>qlb C h2 v z o (by omega) w⟩
      ·rw[if_neg F] at C;cases C
     ·by_cases F:eqB P n t'=true
      ·rw[if_pos F] at C;exact qfy n d t' l' a b (by omega) F C fa fb r O w
      ·rw[if_neg F] at C;cases C
     ·have key:∀(U:List Field) (o:Nat),(∀f∈U,eqB P n f.type=true)→qcl P (fun t=>if eqB P n t then qc9 P n t else none) o U=qcl P (qc9 P n) o U:=by
       intro U
       induction U with
       | nil=>intro o _;rfl
       | cons g U W =>
        intro o hg;unfold qcl;rw[if_pos (hg g (List.mem_cons_self ..))];cases qc9 P n g.type with
        | none=>rfl
        | some l=>simp only[W _ fun f S=>hg f (List.mem_cons_of_mem _ S)]
      rw[key fs.toList 0 fun f S=>(Z f S).2];exact V
    ·cases h
   ·cases h
  ·rename_i m e p;split at h
   ·rename_i L V;split at h
    ·rename_i X;simp only[Option.some.injEq] at h;subst h;unfold eqB at N;rw[p] at N;simp only[Bool.and_eq_true] at N;obtain⟨_,R⟩:=N;obtain⟨ie,T⟩:=qtw R;have q:qgr P t=true:=by unfold qgr;rw[p]
     unfold mkV;rw[q];simp only[if_true];have a6:((List.replicate m L).flatten).length=m*L.length:=by simp
     have hx:=K.len;have hy:=M.len;rw[a6] at hx hy;have I:∀(m:Nat) (zs:List Value),qdx (List.replicate m L).flatten zs→∀i,i<m→qdx L ((zs.drop (i*L.length)).take L.length):=by
      intro m
      induction m with
      | zero=>intro zs _ i v;omega
      | succ m W =>
       intro zs hz i v;rw[List.replicate_succ,List.flatten_cons] at hz;obtain⟨a,b,rfl,q,F⟩:=hz.split;cases i with
       | zero=>rw[Nat.zero_mul,List.drop_zero,←q.len,List.take_left];exact q
       | succ i =>
        have:=W b F i (by omega);rw[Nat.succ_mul,Nat.add_comm,←List.drop_drop,←q.len,List.drop_left];rw[q.len];exact this
     have J:(r=true↔∀i∈List.range' 0 m 1,(xs.drop (i*L.length)).take L.length=(z.drop (i*L.length)).take L.length):=by
      rw[O];constructor
      ·rintro rfl i _;rfl
      ·intro H;rw[qr3 L.length m xs hx,qr3 L.length m z hy];congr 1;apply List.map_congr_left;intro i v;exact H i (by simpa using List.mem_range.1 v)
     unfold Op.equalIn;simp only[Sem.run_bind,run_underlying p,Result.andThen_ok,qo2 T,Std.Legacy.Range.forIn_eq_forIn_range',Std.Legacy.Range.size,Nat.sub_zero,Nat.add_sub_cancel,Nat.div_one];have hl:∀i∈List.range' 0 m 1,i<m:=fun i v=>by simpa using (List.mem_range'_1.1 v).2
     clear O;generalize List.range' 0 m 1=is at hl J ⊢
     induction is with
     | nil =>
      have:r=true:=J.2 (by simp);subst this;simp
     | cons i is W =>
      have v:i<m:=hl i (by simp);have b3:i*L.length+L.length≤m*L.length:=by have:=Nat.mul_le_mul_right L.length (show i+1≤m from v);rw[Nat.succ_mul] at this;exact this
      rw[X.1];rw[X.1] at W;have px:=qlb V X.1 T xs (i*L.length) (by omega) w;have py:=qlb V X.1 T z (i*L.length) (by omega) w;simp only[List.forIn_cons,Sem.run_bind,px,py,Result.andThen_ok];by_cases E:(xs.drop (i*L.length)).take L.length=(z.drop (i*L.length)).take L.length
      ·rw[qfy n d e L _ _ (by omega) R V (I m xs K i v) (I m z M i v) true (by simp[E]) w];simp only[Result.andThen_ok,Bool.not_true,Bool.false_eq_true,if_false,Sem.run_pure];refine W (fun j hj=>hl j (by simp[hj])) ?_;rw[J];simp[E]
      ·rw[qfy n d e L _ _ (by omega) R V (I m xs K i v) (I m z M i v) false (by simp[E]) w];have:r=false:=by
        cases r with
        | false=>rfl
        | true=>exact absurd (J.1 rfl i (by simp)) E
       subst this;simp
    ·cases h
   ·cases h
  ·cases h
theorem qh8(n:Nat){t:TypeId}{l:List Leaf}(z:n≤10000)(q:eqB P n t=true)(v:qc9 P n t=some l)(p:qgr P t=true){xs f:List Value}(i:qdx l xs)(m:qdx l f)(r:Bool)(C:r=true↔xs=f)(w:World) :
  (binOp .eql t (.agg xs.toArray) (.agg f.toArray)).run P w = .ok (.bool r) w:=by
 have:=qfy n 10000 t l xs f z q v i m r C w
 unfold mkV at this
 rw[p] at this
 simp only[if_true] at this
 rw[run_eql_struct,this]
 rfl
theorem qs0(n:Nat){t:TypeId}{l:List Leaf}(z:n≤10000)(q:eqB P n t=true)(v:qc9 P n t=some l)(p:qgr P t=true){xs f:List Value}(i:qdx l xs)(m:qdx l f)(r:Bool)(C:r=true↔xs=f)(w:World) :
  (binOp .neq t (.agg xs.toArray) (.agg f.toArray)).run P w = .ok (.bool (!r)) w:=by
 have:=qfy n 10000 t l xs f z q v i m r C w
 unfold mkV at this
 rw[p] at this
 simp only[if_true] at this
 rw[run_neq_struct,this]
 rfl
end
end
section
open Go.RowKit
def qbg(h:List Int):Prop:=∀b∈h,0≤b∧b≤255
theorem Tryz.flatHsh:qc9 Tryz.prog 5 35=some (List.replicate 32 (.int .u8)):=by kernel_rfl
theorem Tryz.eqHsh:eqB Tryz.prog 5 35=true:=by kernel_rfl
theorem Tryz.aggHsh:qgr Tryz.prog 35=true:=by kernel_rfl
theorem qzu{x:Int}(h:0≤x∧x≤255):(Lit.int .u8 x).wf=true:=by
 simp[Lit.wf,IntKind.min,IntKind.max,IntKind.signed,IntKind.bits];omega
theorem qj9(k:IntKind):∀(l:List Int),(∀x∈l,(Lit.int k x).wf=true)→qdx (List.replicate l.length (.int k)) (l.map (Value.int k))
 | [],_=>rfl
 | x::l,h=>⟨_,_,rfl,⟨_,rfl,h x (List.mem_cons_self ..)⟩,qj9 k l fun y f=>h y (List.mem_cons_of_mem _ f)⟩
theorem qg1{h:List Int}(i:h.length=32)(f:qbg h):qdx (List.replicate 32 (.int .u8)) (qs h):=by
 have:=qj9 .u8 h fun n m=>qzu (f n m)
 rwa [i] at this
theorem qiw{a b:List Int}(h:qs a=qs b):a=b:=by
 unfold qs at h;exact(List.map_inj_right (fun x y e=>by injection e)).1 h
def zbc(x y:Value):Sem Value:=binOp .neq 35 x y
theorem qi4(x y:Value):binOp .neq 35 x y=zbc x y:=rfl
theorem q61{a b:List Int}(m:a.length=32)(p:b.length=32)(f:qbg a)(i:qbg b)(w:World):(zbc (.agg (qs a).toArray) (.agg (qs b).toArray)).run Tryz.prog w = .ok (.bool (a != b)) w:=by
 have:=qs0 5 (by decide) Tryz.eqHsh Tryz.flatHsh Tryz.aggHsh (qg1 m f) (qg1 p i) (a==b) (by constructor<;>intro e<;>simp_all [qiw];exact qiw e) w;exact this
def eqHsh(x y:Value):Sem Value:=binOp .eql 35 x y
theorem qtz(x y:Value):binOp .eql 35 x y=eqHsh x y:=rfl
theorem zb1{a b:List Int}(m:a.length=32)(p:b.length=32)(f:qbg a)(i:qbg b)(w:World):(eqHsh (.agg (qs a).toArray) (.agg (qs b).toArray)).run Tryz.prog w = .ok (.bool (a==b)) w:=by
 have:=qh8 5 (by decide) Tryz.eqHsh Tryz.flatHsh Tryz.aggHsh (qg1 m f) (qg1 p i) (a==b) (by constructor<;>intro e<;>simp_all [qiw];exact qiw e) w;exact this
theorem qto(h:List Int)(n:Nat):qbg (qfw h n):=by
 induction n with
 | zero=>intro x f;rw[qhu] at f;have:=List.eq_of_mem_replicate f;omega
 | succ n i =>
  intro x f;rw[qht] at f;rcases List.mem_or_eq_of_mem_set f with h | rfl
  ·exact i x h
  ·unfold byI;omega
theorem qf9(s:ByteArray):qbg (qek s):=qto _ _
theorem qca:qbg ze:=by
 intro b f;have:=List.eq_of_mem_replicate f;omega
theorem KeptV.len(k:KeptV)(h:k.told.length=32):k.cells.length=34:=by simp[KeptV.cells,h]
theorem KeptV.one(k:KeptV):∀v∈k.cells,v.oneCell'=true:=by
 intro v f;simp only[KeptV.cells,List.mem_cons,List.mem_map] at f;rcases f with rfl | rfl | ⟨n,_,rfl⟩<;>rfl
theorem Tryz.infoKpt:(Tryz.prog.info? 120).map (·.size)=some 34:=by kernel_rfl
def za6(x:Value):Sem Value:=Instr.loadAt 120 x
theorem qmn(x:Value):Instr.loadAt 120 x=za6 x:=rfl
theorem q6o(b o:Nat)(w:World):(za6 (.pointer (some ⟨b,o,none⟩))).run Tryz.prog w=match zj w b o 34 with | some A=> .ok (.agg A) w | none=>qc6 Tryz.prog 120 w b o :=
 zy 120 34 _ Tryz.underlying120 rfl Tryz.infoKpt b o w
def zbh(x v:Value):Sem Unit:=Instr.storeAt 120 x v
theorem qms(x v:Value):Instr.storeAt 120 x v=zbh x v:=rfl
theorem q74(b o:Nat)(A:Array Value)(w:World):(zbh (.pointer (some ⟨b,o,none⟩)) (.agg A)).run Tryz.prog w=if stOk w b o 34 A=true then .ok () (w.setCells b o A.toList) else qd3 Tryz.prog 120 w b o A :=
 qap 120 34 Tryz.infoKpt b o A w
theorem KeptV.zero_len:KeptV.zero.told.length=32:=List.length_replicate
def zas:Sem Value:=Instr.alloc 120 true (.tuple #[])
theorem ql5:Instr.alloc 120 true (.tuple #[])=zas:=rfl
theorem q33(w:World):zas.run Tryz.prog w = .ok (.pointer (some ⟨w.heap.size,0,none⟩)) (w.alloc (.cells KeptV.zero.cells.toArray 120)):=by kernel_rfl
def q4a(p:Array (Nat × Value)):Sem Value:=Instr.build 120 p
theorem ql7(p:Array (Nat × Value)):Instr.build 120 p=q4a p:=rfl
theorem ql8(w:World):(q4a #[]).run Tryz.prog w = .ok (.agg KeptV.zero.cells.toArray) w:=run_build w _ _ _ (by kernel_rfl)
theorem Tryz.zeroKpt:((Tryz.prog.info? 120).map fun i=>i.zero.map fun z=>z.cells.toList)=some (some KeptV.zero.cells):=by kernel_rfl
theorem Tryz.placesKpt:∃m,Tryz.prog.underlying 120=some (.struct m)∧m.toList.mapM (fun f=>(Tryz.prog.info? f.type).map fun i=>(f.offset,i.size))=some [(0,1),(1,1),(2,32)]:=⟨_,Tryz.underlying120,by kernel_rfl⟩
theorem qz5(b:Bool)(n:Int)(H:List Value)(h:H.length=32):Tryz.prog.built 120 [(0,.bool b),(1,.int .i64 n),(2,.agg H.toArray)]=some (.bool b :: .int .i64 n::H).toArray:=by
 obtain⟨i,z,m,v,f⟩:=qcn Tryz.zeroKpt;obtain⟨C,q,p⟩:=Tryz.placesKpt;rw[qbl m q v p];rw[qb1 (P:=[]) (z:= .bool false) (R:= .int .i64 0::(ze.map (Value.int .u8))) rfl rfl rfl f];rw[qb1 (P:=[.bool b]) (z:= .int .i64 0) (R:=ze.map (Value.int .u8)) rfl rfl rfl (by rfl)];rw[qc3 (P:=[.bool b,.int .i64 n]) (A:=H) (Z:=ze.map (Value.int .u8)) (R:=[]) (off:=2) (by rw[h];rfl) rfl (by rw[h];rfl) (by rfl)];rw[Instr.fill];simp
theorem zbt(b:Bool)(n:Int)(h:List Int)(f:h.length=32)(w:World):(q4a #[(0,.bool b),(1,.int .i64 n),(2,.agg (qs h).toArray)]).run Tryz.prog w = .ok (.agg (KeptV.cells ⟨b,n,h⟩).toArray) w :=
 run_build w _ _ _ (qz5 b n (qs h) (by rw[qaj,f]))
structure KpS(w:World)(b:Nat)(k:KeptV):Prop where
 at_:w.heap[b]? = some (.cells k.cells.toArray 120 (0,0))
 len:k.told.length=32
section
variable {S:Nat→Prop}{w w':World}{b:Nat}{k:KeptV}
theorem KpS.upd(a:KpS w b k)(u:Upd S w w')(n:¬S b):KpS w' b k:=⟨u.old a.at_ n,a.len⟩
theorem KpS.new(a:KpS w b k)(u:qu w w'):KpS w' b k:=a.upd u (fun h=>h)
theorem KpS.row(a:KpS w b k):zj w b 0 34=some k.cells.toArray:=qai a.at_ 34 (by rw[List.size_toArray,k.len a.len])
theorem KpS.stOk(a:KpS w b k){j:KeptV}(f:j.told.length=32):stOk w b 0 34 j.cells.toArray=true:=by
 have:=qej a.at_ (A:=j.cells) (by rw[List.size_toArray,k.len a.len,j.len f]) j.one;rwa [List.size_toArray,k.len a.len] at this
theorem KpS.put(a:KpS w b k){j:KeptV}(f:j.told.length=32):KpS (w.setCells b 0 j.cells) b j:=by
 refine⟨?_,f⟩;rw[qa3 a.at_ 0 _,qcv _ _ (by rw[List.size_toArray,k.len a.len,j.len f])]
theorem KpS.c0(a:KpS w b k):w.cell? ⟨b,0,none⟩=some (.bool k.full):=qg a.at_ 0
theorem KpS.c1(a:KpS w b k):w.cell? ⟨b,1,none⟩=some (.int .i64 k.number):=qg a.at_ 1
theorem KpS.hsh(a:KpS w b k):zj w b 2 32=some (qs k.told).toArray:=by
 rw[qbx a.at_ 2 32 (by rw[List.size_toArray,k.len a.len];omega)];congr 1;apply Array.ext';rw[Array.toList_extract];unfold KeptV.cells;show List.take 32 (qs k.told)=qs k.told;exact List.take_of_length_le (by rw[qaj,a.len];exact Nat.le_refl _)
end
theorem qkx(w:World)(k:KeptV)(f:k.told.length=32):KpS (w.alloc (.cells k.cells.toArray 120)) w.heap.size k:=⟨qh _ _,f⟩
attribute [local go_sem ↓ high] zl qaa qad qam qmn qms ql5 ql7 qi4
attribute [local go_sem] qbf qci qcj qdh qv q6o q74 q33 ql8
def qgt(told:List Int)(i:Int)(k:KeptV):Bool:=(qcg told i k.number).2==0&&(qcg told i k.number).1 != k.told
theorem qr2(h:List Int)(b:Nat):qbg (qes h b):=qf9 _
theorem qww(l:List Nat):∀h:List Int,qbg h→qbg (l.foldl qes h):=by
 induction l with
 | nil=>intro h f;exact f
 | cons b l i=>intro h _;rw[List.foldl_cons];exact i _ (qr2 h b)
theorem qko(h:List Int)(f:qbg h)(i d:Nat):qbg (qc2 h i d):=qww _ h f
theorem qpo(h:List Int)(i:qbg h)(f t:Int):qbg (qcg h f t).1:=by
 unfold qcg;split
 ·exact qko h i _ _
 ·exact qca
theorem qui(told:List Int)(X:told.length=32)(hb:qbg told)(i:Int)(k:KeptV)(T:k.told.length=32)(kb:qbg k.told)(A I:Nat)(w:World)(hA:HsB w A told)(hI:w.cell? ⟨I,0,none⟩=some (.int .i64 i))(hT:Tabs w)(hD:Deb w) :
  Calls Tryz.prog 219 #[.agg k.cells.toArray,.pointer (some ⟨A,0,none⟩),.pointer (some ⟨I,0,none⟩)] w (qa1 (.bool (qgt told i k)) w):=by
 go_enter Tryz.func219,Tryz.ntmps219
 go_upto_region 1 with fail
 have C:=qkx w k T
 have p:qu w (w.alloc (.cells k.cells.toArray 120)):=(Upd.refl _ _).alloc _
 generalize w.alloc (.cells k.cells.toArray 120)=w1 at C p ⊢
 obtain⟨B,E⟩:∃B,B=w.heap.size:=⟨_,rfl⟩
 rw[←E] at C ⊢
 have a6:w.heap.size≤B:=by omega
 clear E
 have Z:=C.c1
 have rA:=(hA.new p).row
 have cI:=p.cell hI (fun h=>h)
 have hd:=qwo told X i k.number w1 (hT.new p) (hD.new p)
 have U:=qtu told X i k.number
 have M:=qpo told hb i k.number
 have V:qgt told i k=((qcg told i k.number).2==0&&(qcg told i k.number).1 != k.told):=rfl
 have q:=qb V
 have Y:=qb C
 clear V C
 generalize qcg told i k.number=K at *
 go_wp2_with fail
 refine hd.mono ?_
 rintro e F ⟨rfl,O⟩
 obtain⟨N,R,P⟩:=qg0 F K.1 U
 have J:=qb R
 have v:=qb (((qa Y).new O).new P)
 have f:=qb ((p.trans O).trans P)
 clear hd Z rA cI p O R P
 go_upto_region 2 with fail
 change Code.wp _ _ _ _ (qif F K.1)
 generalize qif F K.1=w3 at J v f ⊢
 generalize F.heap.size=H at J ⊢
 clear N
 have a7:=fun W=>q61 U T M kb W
 have rH:=(qa J).row
 have rK:=(qa v).hsh
 cases z:K.2==0 with
 | false =>
  have m:Hid (qgt told i k=false):=by rw[z,Bool.false_and] at q;exact q
  clear q rH rK;have L:¬K.2=0:=by simpa using z
  go_wp2_with fail;go_ret;exact⟨by rw[qa m];rfl,qa f⟩
 | true =>
  have m:Hid (qgt told i k=(K.1 != k.told)):=by rw[z,Bool.true_and] at q;exact q
  have L:K.2=0:=by simpa using z
  clear q z;go_wp2_with fail;go_ret;exact⟨by rw[qa m];rfl,qa f⟩
theorem qoa{α:Type}{A B:List α}{n:Nat}(h:A.length=n):(A++B).drop n=B:=by subst h;simp
theorem qwt(X:List KeptV)(f:∀p∈X,p.told.length=32):∀(i:Nat) (x:KeptV),X[i]? = some x→∃R,(X.flatMap KeptV.cells).drop (i*34)=x.cells++R:=by
 induction X with
 | nil=>intro i x h;simp at h
 | cons y X z =>
  intro i x h;have v:y.cells.length=34:=y.len (f y (List.mem_cons_self ..));cases i with
  | zero =>
   simp only[List.getElem?_cons_zero,Option.some.injEq] at h;subst h;exact⟨X.flatMap KeptV.cells,by simp⟩
  | succ i =>
   rw[List.getElem?_cons_succ] at h;obtain⟨R,m⟩:=z (fun p q=>f p (List.mem_cons_of_mem _ q)) i x h;refine⟨R,?_⟩;rw[List.flatMap_cons,Nat.add_mul,Nat.one_mul,Nat.add_comm (i*34) 34,←List.drop_drop,qoa v,m]
theorem ChP.kept{w:World}{g:Nat}{S:Nat→Prop}{c:Ch}{f z m:Value}(h:ChP w g S c f z m){i:Nat}{p:KeptV}(E:c.shelf[i]? = some p):zj w g (48+i*34) 34=some p.cells.toArray:=by
 have K:=h.ok.s.seed;have L:=(List.getElem?_eq_some_iff.1 E).1;have H:=h.ok.shelf.2 p (List.mem_of_getElem? E);have C:c.s.cells.length=37:=c.s.len K;have N:(c.shelf.flatMap KeptV.cells).length=578:=by rw[qhi _ h.ok.shelf.2,h.ok.shelf.1]
 have F:(c.v f z m).cells=(c.s.cells++(c.k.cells++[.int .u64 c.loc,.int .u64 c.rem,f]))++(c.shelf.flatMap KeptV.cells++[z,m]):=by
  show c.s.cells++(c.k.cells++(Value.int .u64 c.loc :: .int .u64 c.rem::f::(c.shelf.flatMap KeptV.cells++[z,m])))=_;simp
 have q:(c.s.cells++(c.k.cells++[.int .u64 c.loc,.int .u64 c.rem,f])).length=48:=by
  rw[List.length_append,List.length_append,C];rfl
 have I:=h.ok.shelf.1;have M:48+i*34+34≤(c.v f z m).cells.toArray.size:=by
  rw[List.size_toArray,F,List.length_append,q,List.length_append,N];show 48+i*34+34≤48+(578+2);omega
 rw[qbx h.at_ _ 34 M];congr 1;apply Array.ext';rw[Array.toList_extract,F];show List.extract (_++_) (48+i*34) (48+i*34+34)=_;rw[List.extract_eq_take_drop,Nat.add_sub_cancel_left,←List.drop_drop,qoa q];obtain⟨R,J⟩:=qwt c.shelf h.ok.shelf.2 i p E;rw[List.drop_append_of_le_length (by omega),J,List.append_assoc,List.take_append_of_le_length (by rw[p.len H];exact Nat.le_refl _),List.take_of_length_le (by rw[p.len H];exact Nat.le_refl _)]
def qk0(told:List Int)(i:Int)(ps:List KeptV):Option KeptV:=ps.find? fun k=>k.full&&qgt told i k
def q1x(told:List Int)(i:Int)(ps:List KeptV):KeptV:=(qk0 told i ps).getD KeptV.zero
theorem qxn(g:Nat)(S:Nat→Prop)(c:Ch)(lv nv av:Value)(n:Nat)(told:List Int)(ht:told.length=32)(hb:qbg told)(i:Int)(A I:Nat)(w:World)(h:ChP w g S c lv nv av)(a8:∀p∈c.shelf,qbg p.told)(hn:n≤17)
  (hA:HsB w A told) (hI:w.cell? ⟨I,0,none⟩=some (.int .i64 i)) (hT:Tabs w) (hD:Deb w) :
  Calls Tryz.prog 218 #[.pointer (some ⟨g,48,none⟩),.int .i64 n,.func (.func 219) #[] #[.pointer (some ⟨A,0,none⟩),.pointer (some ⟨I,0,none⟩)]] w (qa1 (.tuple #[.agg (q1x told i (c.shelf.take n)).cells.toArray,.bool (qk0 told i (c.shelf.take n)).isSome]) w):=by
 have b8:(n:Int)≤17:=by omega
 go_enter Tryz.func218,Tryz.ntmps218
 go_upto_region 1 with fail
 have Z:=qkx w KeptV.zero KeptV.zero_len
 have H:qu w (w.alloc (.cells KeptV.zero.cells.toArray 120)):=(Upd.refl _ _).alloc _
 generalize w.alloc (.cells KeptV.zero.cells.toArray 120)=w1 at Z H ⊢
 obtain⟨R,P⟩:∃R,R=w.heap.size:=⟨_,rfl⟩
 rw[←P] at Z ⊢
 have b5:w.heap.size≤R:=by omega
 clear P
 have H1:=qb (h.new H)
 have HA:=qb (hA.new H)
 have HI:=qb (H.cell hI (fun h=>h))
 have HT:=qb (hT.new H)
 have HD:=qb (hD.new H)
 have HR:=qb Z
 have HN:=qb H
 clear h hA hI hT hD Z H
 go_wp2_with fail
 go_loopw [9,16] (fun _ iv wr=>∃j:Nat,iv = .int .i64 (j:Int)∧j≤n∧Hid (qk0 told i (c.shelf.take j)=none)∧qu w1 wr) (fun _ iv _=>n-(intOf iv).toNat)
 case atStart=>exact⟨0,rfl,Nat.zero_le _,qb rfl,Upd.refl _ _⟩
 case round =>
  obtain⟨j,rfl,hj,v,O⟩:=hrel;obtain⟨z,rfl⟩:∃z:World,z=wr:=⟨_,rfl⟩;by_cases b7:j<n
  ·have Y:=(qa H1).new O;have a7:=Y.ok.shelf.1;obtain⟨p,W⟩:∃p,c.shelf[j]? = some p:=⟨_,List.getElem?_eq_getElem (by omega)⟩;have L:=List.mem_of_getElem? W;have q:=Y.ok.shelf.2 p L;have b3:=a8 p L;have X:=Y.kept W;have ha:=qkx z KeptV.zero KeptV.zero_len;have M:=ha.stOk q;have F:=ha.put q;have J:qu z ((z.alloc (.cells KeptV.zero.cells.toArray 120)).setCells z.heap.size 0 p.cells):=(((Upd.refl (fun _=>False) z).alloc _)).then (qx _) (fun i hi e=>by omega);have b6:(j:Int)<(n:Int):=by omega
   have V:qk0 told i (c.shelf.take (j+1))=if (p.full&&qgt told i p)=true then some p else none:=by
    unfold qk0 at v ⊢;rw[List.take_add_one,W,List.find?_append,qa v];simp only[Option.none_or,Option.toList_some,List.find?_cons,List.find?_nil];cases (p.full&&qgt told i p)<;>rfl
   have E:=qb V;have b4:=qb W;clear Y L ha V W a7;go_upto_region 4 with fail;have N:=qb F;have f:=O.trans J;generalize (z.alloc (.cells KeptV.zero.cells.toArray 120)).setCells z.heap.size 0 p.cells=w5 at N f ⊢;generalize z.heap.size=K at N ⊢;clear M F J X O;have c0:=(qa N).c0;cases hf:p.full with
   | false =>
    rw[hf] at c0;rw[hf,Bool.false_and] at E;go_wp2_with fail;go_roundw
    case rel=>exact⟨j+1,by go_num,by omega,by rw[if_neg (by decide)] at E;exact E,f⟩
    case measure=>simp[intOf];omega
   | true =>
    rw[hf] at c0;rw[hf,Bool.true_and] at E;have rK:=(qa N).row;have T:=qui told ht hb i p q b3 A I w5 ((qa HA).new f) (f.cell (qa HI) (fun h=>h)) ((qa HT).new f) ((qa HD).new f);go_wp2_with fail;refine T.mono ?_;rintro e w6 ⟨rfl,n6⟩;have C:=f.trans n6;have a6:=qb ((qa N).new n6);clear T rK c0 N;cases ho:qgt told i p with
    | false =>
     rw[ho,if_neg (by decide)] at E;go_wp2_with fail;go_roundw
     case rel=>exact⟨j+1,by go_num,by omega,E,C⟩
     case measure=>simp[intOf];omega
    | true =>
     rw[ho,if_pos rfl] at E;have b9:=(qa a6).row;have m:=(qa HR).new C;have M:=m.stOk q;have HF:=qb (m.put q);have HU:=qb (((qa HN).trans C).then (qx (w:=w6) (b:=R) p.cells) (fun i hi e=>by omega));clear m f n6 C;go_wp2_with fail;have hF:=qa HF;refine bodyPost_ret (qw rfl _ _ R _ _ _ _ rfl hF.at_ Tryz.underlying120 rfl (by rw[List.size_toArray,p.len q];exact Tryz.infoKpt)) rfl ?_;have U:qk0 told i (c.shelf.take n)=some p:=by
      have e:c.shelf.take n=c.shelf.take (j+1)++(c.shelf.drop (j+1)).take (n-(j+1)):=by
       rw[←List.take_add,Nat.add_sub_cancel' (by omega)]
      have h0:=qa E;unfold qk0 at h0 ⊢;rw[e,List.find?_append,h0];rfl
     refine⟨?_,qa HU⟩;unfold q1x;rw[U];rfl
  ·obtain rfl:j=n:=by omega
   have m:=(qa HR).new O;have M:=m.stOk KeptV.zero_len;have HF:=qb (m.put KeptV.zero_len);have HU:=qb (((qa HN).trans O).then (qx (w:=z) (b:=R) KeptV.zero.cells) (fun i hi e=>by omega));clear m O;go_wp2_with fail;have hF:=qa HF;refine bodyPost_ret (qw rfl _ _ R _ _ _ _ rfl hF.at_ Tryz.underlying120 rfl (by rw[List.size_toArray,KeptV.zero.len KeptV.zero_len];exact Tryz.infoKpt)) rfl ?_;refine⟨?_,qa HU⟩;unfold q1x;rw[qa v];rfl
end
section
open Go.RowKit
theorem qqq(P Z R Q:List Value)(o:Nat)(m:P.length=o)(h:Z.length=Q.length):qiz (P++(Z++R)).toArray o Q=(P++(Q++R)).toArray:=by
 apply Array.ext';apply List.ext_getElem?;intro j;have f:(P++(Z++R)).toArray.size=P.length+(Z.length+R.length):=by simp
 rw[Array.getElem?_toList,qg5 _ _ _ _ (by rw[f];omega),List.getElem?_toArray];by_cases i:o≤j∧j<o+Q.length
 ·rw[if_pos i,List.getElem?_append_right (by omega),List.getElem?_append_left (by omega),m]
 ·rw[if_neg i];by_cases p:j<o
  ·rw[List.getElem?_append_left (by omega),List.getElem?_append_left (by omega)]
  ·rw[List.getElem?_append_right (by omega),List.getElem?_append_right (by omega),List.getElem?_append_right (by omega),List.getElem?_append_right (by omega),h]
theorem qy5(X:List KeptV){i:Nat}{x:KeptV}(h:X[i]? = some x):X.flatMap KeptV.cells=(X.take i).flatMap KeptV.cells++(x.cells++(X.drop (i+1)).flatMap KeptV.cells):=by
 have f:=(List.getElem?_eq_some_iff.1 h).1;have m:=(List.getElem?_eq_some_iff.1 h).2
 conv=>lhs;rw[←List.take_append_drop i X]
 rw[List.flatMap_append,List.drop_eq_getElem_cons f,m,List.flatMap_cons]
theorem ChP.putKept{w:World}{g:Nat}{S:Nat→Prop}{c:Ch}{f z m:Value}(h:ChP w g S c f z m){i:Nat}{p k:KeptV}(L:c.shelf[i]? = some p)(E:k.told.length=32) :
  stOk w g (48+i*34) 34 k.cells.toArray=true∧ChP (w.setCells g (48+i*34) k.cells) g S {c with shelf:=c.shelf.set i k} f z m:=by
 have hl:=h.ok.s.seed
 have M:=(List.getElem?_eq_some_iff.1 L).1
 have W:=h.ok.shelf.2 p (List.mem_of_getElem? L)
 have K:c.s.cells.length=37:=c.s.len hl
 have J:=h.ok.shelf.1
 have F:(c.s.cells++(c.k.cells++[.int .u64 c.loc,.int .u64 c.rem,f])).length=48:=by
  rw[List.length_append,List.length_append,K];rfl
 have P:((c.shelf.take i).flatMap KeptV.cells).length=i*34:=by
  rw[qhi _ (fun q N=>h.ok.shelf.2 q (List.mem_of_mem_take N)),List.length_take,Nat.min_eq_left (by omega)]
 have I:∀(s:List KeptV),(({c with shelf:=s} : Ch).v f z m).cells=(c.s.cells++(c.k.cells++[.int .u64 c.loc,.int .u64 c.rem,f]))++(s.flatMap KeptV.cells++[z,m]):=by
  intro s;show c.s.cells++(c.k.cells++(Value.int .u64 c.loc :: .int .u64 c.rem::f::(s.flatMap KeptV.cells++[z,m])))=_;simp
 have U:(c.v f z m).cells=((c.s.cells++(c.k.cells++[.int .u64 c.loc,.int .u64 c.rem,f]))++(c.shelf.take i).flatMap KeptV.cells)++(p.cells++((c.shelf.drop (i+1)).flatMap KeptV.cells++[z,m])):=by
  refine(I c.shelf).trans ?_;rw[qy5 c.shelf L];simp only[List.append_assoc]
 have H:(c.shelf.set i k)[i]? = some k:=by rw[List.getElem?_set_self M]
 have Y:(({c with shelf:=c.shelf.set i k} : Ch).v f z m).cells=((c.s.cells++(c.k.cells++[.int .u64 c.loc,.int .u64 c.rem,f]))++(c.shelf.take i).flatMap KeptV.cells)++(k.cells++((c.shelf.drop (i+1)).flatMap KeptV.cells++[z,m])):=by
  refine(I _).trans ?_;rw[qy5 (c.shelf.set i k) H,List.take_set_of_le (Nat.le_refl _),List.drop_set_of_lt (by omega)];simp only[List.append_assoc]
 have V:((c.s.cells++(c.k.cells++[.int .u64 c.loc,.int .u64 c.rem,f]))++(c.shelf.take i).flatMap KeptV.cells).length=48+i*34:=by
  rw[List.length_append,F,P]
 have O:48+i*34+34≤(c.v f z m).cells.toArray.size:=by
  rw[List.size_toArray,U,List.length_append,V,List.length_append,p.len W];omega
 have C:=qa3 h.at_ (48+i*34) k.cells
 rw[U,qqq _ _ _ _ _ V (by rw[p.len W,k.len E]),←Y] at C
 refine⟨qdf h.at_ O (by rw[List.size_toArray,k.len E]) (by rw[Array.all_eq_true_iff_forall_mem];intro v hv;exact k.one v (by simpa using hv)),?_⟩
 have u:Upd (· = g) w (w.setCells g (48+i*34) k.cells):=(Upd.refl _ _).setCells _ _
 have R:∀ {T:TypeId} {v:Value} {n:Nat} {xs:List Value},T≠126→w.ownsRow 0 T 38 v n xs→∀k,v.ownBlock=some k→¬k=g:=by
  intro T v n xs Z hr k E e;obtain⟨X,I⟩:=qab hr k E;exact qao I h.at_ Z e
 refine⟨C,⟨h.ok.s,h.ok.signed,h.ok.heard,h.ok.nextOwn,h.ok.nextTheirs,h.ok.loc,h.ok.rem,h.ok.xs,h.ok.few,?_,h.ok.news,h.ok.last,h.ok.many⟩,?_,?_,?_,h.inG,h.inL,h.inN,h.inA,h.sep,fun k E=>Nat.lt_of_lt_of_le (h.lt k E) u.size⟩
 ·refine⟨by show (c.shelf.set i k).length=17;rw[List.length_set];exact J,fun q N=> ?_⟩;rcases List.mem_or_eq_of_mem_set N with e | e
  ·exact h.ok.shelf.2 q e
  ·rw[e];exact E
 ·exact zq h.live u (R (by decide) h.live)
 ·exact zq h.news u (R (by decide) h.news)
 ·exact zq h.last u (R (by decide) h.last)
attribute [local go_sem ↓ high] zl qaa qad qam qmn qms ql5 ql7 qi4
attribute [local go_sem] qbf qci qcj qdh qv q6o q74 q33 ql8
def qeu(told:List Int)(i:Int)(ps:List KeptV):Int:=if qkm i i=false then 1 else if (qk0 told i (ps.take (qbm i))).isSome=true then 50 else 0
def qlq(told:List Int)(i:Int)(ps:List KeptV):List KeptV:=if qeu told i ps=0 then ps.set (qbm i) ⟨true,i,told⟩ else ps
theorem qxa(g:Nat)(S:Nat→Prop)(c:Ch)(lv nv av:Value)(told:List Int)(ht:told.length=32)(hb:qbg told)(i:Int)(w:World)(h:ChP w g S c lv nv av)(b7:∀p∈c.shelf,qbg p.told)(hT:Tabs w)(hD:Deb w) :
  Calls Tryz.prog 206 #[.pointer (some ⟨g,48,none⟩),.int .i64 i,.agg (qs told).toArray] w fun e w' =>
   e = .returned (.int .i64 (qeu told i c.shelf))∧ChP w' g S {c with shelf:=qlq told i c.shelf} lv nv av∧Upd (· = g) w w':=by
 go_enter Tryz.func206,Tryz.ntmps206
 go_upto_region 1 with fail
 have C:((w.alloc (.cells #[.int .i64 i] 3)).alloc (.cells (qs told).toArray 35)).cell? ⟨w.heap.size,0,none⟩=some (.int .i64 i):=by
  rw[qg (qq (qh _ _) _)];rfl
 have Y:=qb4 (w.alloc (.cells #[.int .i64 i] 3)) told ht
 rw[World.size_alloc] at Y
 have N:qu w ((w.alloc (.cells #[.int .i64 i] 3)).alloc (.cells (qs told).toArray 35)):=((Upd.refl _ _).alloc _).alloc _
 generalize (w.alloc (.cells #[.int .i64 i] 3)).alloc (.cells (qs told).toArray 35)=w1 at C Y N ⊢
 have a8:=h.lt g h.inG
 obtain⟨I,a6⟩:∃I,I=w.heap.size:=⟨_,rfl⟩
 obtain⟨A,Z⟩:∃A,A=w.heap.size+1:=⟨_,rfl⟩
 rw[←Z] at Y ⊢
 rw[←a6] at C ⊢
 have c2:g≠A:=by omega
 have c3:g≠I:=by omega
 clear a6 Z a8
 have H:=qy0 i i w1 (hD.new N)
 have V:=qb (h.new N)
 have HA:=qb Y
 have HT:=qb (hT.new N)
 have HD:=qb (hD.new N)
 have HN:=qb N
 have b9:=h.ok.shelf.1
 have b3:qeu told i c.shelf=if qkm i i=false then 1 else if (qk0 told i (c.shelf.take (qbm i))).isSome=true then 50 else 0:=rfl
 have b4:qlq told i c.shelf=if qeu told i c.shelf=0 then c.shelf.set (qbm i) ⟨true,i,told⟩ else c.shelf:=rfl
 have f:=qb b3
 have m:=qb b4
 have c4:=qjn i
 clear h Y hT hD N b3 b4
 go_wp2_with fail
 refine H.mono ?_
 rintro e w2 ⟨rfl,q2⟩
 have q:=q2.cell C
 have R:qu w1 w2:=q2.upd _
 clear H C
 cases hc:qkm i i with
 | false =>
  rw[hc,if_pos rfl] at f;rw[qa f,if_neg (by decide)] at m;have X:=qb (((qa HN).trans R).mono (T:=(· = g)) (fun _ _ h=>h.elim));have H2:=qb ((qa V).new R);clear q2 R q;go_wp2_with fail;go_ret;rw[qa m,qa f];exact⟨rfl,qa H2,qa X⟩
 | true =>
  rw[hc,if_neg (by decide)] at f;have hp:=qh9 i w2 ((qa HD).new R);go_upto_region 3 with fail;have N2:=qb R;clear q2 R;go_wp2_with fail;refine hp.mono ?_;rintro e w3 ⟨rfl,q3⟩;have U:qu w1 w3:=(qa N2).trans (q3.upd _);have v:=q3.cell q;have b5:=qxn g S c lv nv av (qbm i) told ht hb i A I w3 ((qa V).new U) b7 (by omega) ((qa HA).new U) v ((qa HT).new U) ((qa HD).new U);have N3:=qb U;clear hp U q3 q hc;have b8:(q1x told i (c.shelf.take (qbm i))).told.length=32:=by
   unfold q1x;cases e:qk0 told i (c.shelf.take (qbm i)) with
   | none=>exact KeptV.zero_len
   | some p =>
    unfold qk0 at e;exact(qa V).ok.shelf.2 p (List.mem_of_mem_take (List.mem_of_find?_eq_some e))
  generalize q1x told i (c.shelf.take (qbm i))=K at *
  generalize qk0 told i (c.shelf.take (qbm i))=L at *
  generalize qbm i=P at *
  go_upto_region 4 with fail;go_wp2_with fail;refine b5.mono ?_;rintro e M ⟨rfl,n4⟩;have E:=n4.cell v (fun h=>h);have ha:=qkx M KeptV.zero KeptV.zero_len;have b6:=ha.stOk b8;have z:qu M ((M.alloc (.cells KeptV.zero.cells.toArray 120)).setCells M.heap.size 0 K.cells):=(((Upd.refl (fun _=>False) M).alloc _)).then (qx _) (fun i hi e=>by omega);have n5:=((qa N3).trans n4).trans z;have F:=z.cell E (fun h=>h);have O:=qb n5;clear b5 n4 ha z n5 v E;go_upto_region 5 with fail;generalize (M.alloc (.cells KeptV.zero.cells.toArray 120)).setCells M.heap.size 0 K.cells=w5 at F O ⊢;clear b6;generalize M.heap.size=k5;cases hL:L.isSome with
  | true =>
   rw[hL,if_pos rfl] at f;rw[qa f,if_neg (by decide)] at m;have X:=qb (((qa HN).trans (qa O)).mono (T:=(· = g)) (fun _ _ h=>h.elim));have H5:=qb ((qa V).new (qa O));clear F;go_wp2_with fail;go_ret;rw[qa m,qa f];exact⟨rfl,qa H5,qa X⟩
  | false =>
   rw[hL,if_neg (by decide)] at f;rw[qa f,if_pos rfl] at m;go_upto_region 7 with fail;have nd:qu w5 w5.drew:=(Upd.refl _ _).drew;have a7:=((qa V).new (qa O)).new nd;obtain⟨p,hp⟩:∃p,c.shelf[P]? = some p:=⟨_,List.getElem?_eq_getElem (by omega)⟩;obtain⟨b6,J⟩:=a7.putKept hp (k:=⟨true,i,told⟩) ht;have c1:=fun W=>zbt true i told ht W
   have rA:=((qa HA).new (qa O)).row;have HP:=qb J;have u6:Upd (· = g) w5.drew (w5.drew.setCells g (48+P*34) (KeptV.cells ⟨true,i,told⟩)):=(Upd.refl _ _).setCells _ _;have X:=qb (((((qa HN).trans (qa O)).trans nd).mono (T:=(· = g)) (fun _ _ h=>h.elim)).trans u6);have c0:(P:Int)≤16:=by omega
   clear J a7 hp nd u6;go_wp2_with ((with_reducible first|rfl|refine' ut ?_ ?_;rotate_left|refine' uu ?_)<;>intros);go_ret;rw[qa m,qa f];exact⟨rfl,qa HP,qa X⟩
end
section
open Go.RowKit
structure Tb(w:World):Prop where
 glob:Glob w
 spans:Spans w
 tabs:Tabs w
 deb:Deb w
structure Apart(S:Nat→Prop):Prop where
 a:¬S 0
 b:¬S 2
 c:¬S 4
 d:¬S 1
 e:¬S 6
theorem Tb.upd{S:Nat→Prop}{w w':World}(h:Tb w)(u:Upd S w w')(a:Apart S):Tb w':=⟨h.glob.upd u a.a,h.spans.upd u a.b,h.tabs.upd u a.c a.d,h.deb.upd u a.e⟩
theorem Tb.new{w w':World}(h:Tb w)(u:qu w w'):Tb w':=⟨h.glob.new u,h.spans.new u,h.tabs.new u,h.deb.new u⟩
theorem Tb.lt{w:World}(h:Tb w):0<w.heap.size∧2<w.heap.size∧4<w.heap.size∧1<w.heap.size∧6<w.heap.size :=
 ⟨World.block_lt_of_cell? w _ (h.glob.events 0 (by decide)),World.block_lt_of_cell? w _ (h.spans.spans 0 (by decide)),h.tabs.lt.1,h.tabs.lt.2,World.block_lt_of_cell? w _ (h.deb.tab 0 (by decide))⟩
theorem Apart.fr{S:Nat→Prop}{w:World}(h:Apart S)(t:Tb w)(w':World):Apart (Fr S w w'):=by
 obtain⟨a,b,c,d,e⟩:=t.lt;refine⟨?_,?_,?_,?_,?_⟩
 ·rintro (k | k)
  ·exact h.a k
  ·omega
 ·rintro (k | k)
  ·exact h.b k
  ·omega
 ·rintro (k | k)
  ·exact h.c k
  ·omega
 ·rintro (k | k)
  ·exact h.d k
  ·omega
 ·rintro (k | k)
  ·exact h.e k
  ·omega
theorem Apart.mono{S T:Nat→Prop}(h:Apart S)(st:∀k,T k→S k):Apart T:=⟨fun k=>h.a (st _ k),fun k=>h.b (st _ k),fun k=>h.c (st _ k),fun k=>h.d (st _ k),fun k=>h.e (st _ k)⟩
structure Tc(w:World):Prop where
 glob:Glob w
 spans:Spans w
 tabs:Tabs w
structure ApC(S:Nat→Prop):Prop where
 a:¬S 0
 b:¬S 2
 c:¬S 4
 d:¬S 1
theorem Tb.c{w:World}(h:Tb w):Tc w:=⟨h.glob,h.spans,h.tabs⟩
theorem Apart.cc{S:Nat→Prop}(h:Apart S):ApC S:=⟨h.a,h.b,h.c,h.d⟩
theorem Tc.upd{S:Nat→Prop}{w w':World}(h:Tc w)(u:Upd S w w')(a:ApC S):Tc w':=⟨h.glob.upd u a.a,h.spans.upd u a.b,h.tabs.upd u a.c a.d⟩
theorem Tc.new{w w':World}(h:Tc w)(u:qu w w'):Tc w':=⟨h.glob.new u,h.spans.new u,h.tabs.new u⟩
theorem ApC.mono{S T:Nat→Prop}(h:ApC S)(st:∀k,T k→S k):ApC T:=⟨fun k=>h.a (st _ k),fun k=>h.b (st _ k),fun k=>h.c (st _ k),fun k=>h.d (st _ k)⟩
structure ApD(S:Nat→Prop):Prop where
 c:¬S 4
 d:¬S 1
theorem Fr.comp{S:Nat→Prop}{w1 f i:World}(h:w1.heap.size≤f.heap.size)(m:f.heap.size≤i.heap.size):∀k,Fr (Fr S w1 f) f i k→Fr S w1 i k:=by
 rintro k ((h | h) | h)
 ·exact .inl h
 ·exact .inr ⟨h.1,by omega⟩
 ·exact .inr ⟨by omega,h.2⟩
theorem Upd.fr{S:Nat→Prop}{w1 f m:World}(u:Upd S w1 f)(v:Upd (Fr S w1 f) f m):Upd S w1 m:=u.then v fun i p h=>by
 rcases h with h | h
 ·exact h
 ·omega
theorem ChS.comp{S:Nat→Prop}{w1 m i:World}{g:Nat}{c:Ch}(h:ChS i g (Fr (Fr S w1 m) m i) c)(p:w1.heap.size≤m.heap.size)(q:m.heap.size≤i.heap.size):ChS i g (Fr S w1 i) c:=by
 obtain⟨a,b,d,h⟩:=h;refine⟨a,b,d,h.wider (Fr.comp p q) (fun k f=> ?_)⟩;have:=h.lt g h.inG;rcases f with f | f
 ·exact h.lt k (.inl (.inl f))
 ·exact f.2
theorem ChS.frW{S:Nat→Prop}{w1 f:World}{g:Nat}{c:Ch}(h:ChS f g S c):ChS f g (Fr S w1 f) c:=by
 obtain⟨a,b,d,h⟩:=h;exact h.fr w1
theorem ChS.later{S:Nat→Prop}{w1 m i:World}{g:Nat}{c:Ch}(h:ChS i g (Fr S m i) c)(p:w1.heap.size≤m.heap.size):ChS i g (Fr S w1 i) c:=by
 obtain⟨a,b,d,h⟩:=h;refine⟨a,b,d,h.wider (fun k f=> ?_) (fun k f=> ?_)⟩
 ·rcases f with f | f
  ·exact .inl f
  ·exact .inr ⟨by omega,f.2⟩
 ·rcases f with f | f
  ·exact h.lt k (.inl f)
  ·exact f.2
theorem ChS.grow{S:Nat→Prop}{w0 w1 i:World}{g:Nat}{c:Ch}(h:ChS i g (Fr S w0 w1) c)(m:w1.heap.size≤i.heap.size):ChS i g (Fr S w0 i) c:=by
 obtain⟨a,b,d,h⟩:=h;refine⟨a,b,d,h.wider (fun k f=> ?_) (fun k f=> ?_)⟩
 ·rcases f with f | f
  ·exact .inl f
  ·exact .inr ⟨f.1,by omega⟩
 ·rcases f with f | f
  ·exact h.lt k (.inl f)
  ·exact f.2
def qf2(n:Nat)(s:ByteArray):ByteArray:=zc n 8++zc s.size 2++s
def qpx(n:Nat)(s:ByteArray):ByteArray:=qf2 n s++qyh (qf2 n s)
theorem qmk(n:Nat)(s:ByteArray):(qf2 n s).size=10+s.size:=by
 unfold qf2;rw[ByteArray.size_append,ByteArray.size_append,qak,qak]
theorem qjo(n:Nat)(s:ByteArray):(qpx n s).size=14+s.size:=by
 unfold qpx;rw[ByteArray.size_append,qmk,qq6];omega
theorem q6f(n:Nat)(s:ByteArray)(w:World)(hn:n<2 ^ 64)(hs:s.size≤1024)(S:Tabs w) :
  Calls Tryz.prog 148 #[.int .u64 n,.string s] w (qa1 (.tuple #[.string (qpx n s),.int .i64 0]) w):=by
 have E:IntKind.u64.wrap (s.size:Int)=s.size:=qel (by omega) (by omega)
 have m:=qmk n s
 have i:=qq6 (qf2 n s)
 have M:(⟨#[]⟩:ByteArray)++zc n 8=zc n 8:=ByteArray.empty_append
 have H:=qb (qak n 8)
 have N:(zc n 8++zc s.size 2).size=10:=by rw[ByteArray.size_append,qak,qak]
 have X:=qb N
 have I:=qb (show zc n 8++zc s.size 2++s=qf2 n s from rfl)
 have J:=qb (show qf2 n s++qyh (qf2 n s)=qpx n s from rfl)
 have p:=qb (And.intro m i)
 clear N m i
 go_enter Tryz.func148,Tryz.ntmps148
 go_upto_region 2 with fail
 have b1:Wr (w.alloc (.cells #[.string ⟨#[]⟩] 174)) w.heap.size ⟨#[]⟩:=qh _ _
 have F:qu w (w.alloc (.cells #[.string ⟨#[]⟩] 174)):=(Upd.refl _ _).alloc _
 generalize w.alloc (.cells #[.string ⟨#[]⟩] 174)=w1 at b1 F ⊢
 have K:=qb F
 generalize R:w.heap.size=B at b1 ⊢
 have q:=qb R
 clear F R
 have f:=qdo B n 8 ⟨#[]⟩ w1 b1 (by decide) (by decide) hn (by show (0:Nat)≤_;omega)
 rw[M] at f
 clear M b1
 go_wp2_with fail
 refine f.mono ?_
 rintro e w2 ⟨rfl,V,O⟩
 have L:=qb ((qa K).then V (fun k Z e=>by have:=qa q;omega))
 have f:=qdo B s.size 2 (zc n 8) w2 O (by decide) (by decide) (by show s.size<65536;omega) (by have:=qa H;omega)
 clear V O K
 go_wp2_with fail
 refine f.mono ?_
 rintro e w3 ⟨rfl,W,P⟩
 have v:=qb ((qa L).then W (fun k Z e=>by have:=qa q;omega))
 clear f W L E
 go_wp2_with fail
 refine(qfx _ _ _ P).mono ?_
 rintro e w4 ⟨rfl,rfl⟩
 have T:=q6g (qf2 n s) w3 (by have:=(qa p).1;omega) (S.new (qa v))
 have z:(qf2 n s).size≤1034:=by have:=(qa p).1;omega
 have C:=(qa p).2
 have a6:=qa X
 clear P S
 generalize zc n 8++zc s.size 2=a at *
 go_wp2_with fail
 rw[qa I]
 refine T.mono ?_
 rintro e w5 ⟨rfl,U⟩
 have Y:=qb ((qa v).trans U)
 clear T U v q H
 go_wp2_with fail
 rw[qa J]
 clear J p z C I
 generalize qf2 n s=hv
 generalize qpx n s=pv
 generalize qyh hv=sv
 go_ret2
 exact⟨rfl,qa Y⟩
def Jo.app(j:Jo)(s:ByteArray):Jo:= {j with bs:=j.bs++qpx j.many.toNat s,many:=j.many+1}
theorem q7u{w:World}{g:Nat}{S:Nat→Prop}{j:Jo}(h:JoS w g S j)(n:Int):JoS (w.setCell ⟨g,2,none⟩ (.int .i64 n)) g S {j with many:=n} := by
 obtain⟨p,buf,h⟩:=h;have u:Upd (· = g) w (w.setCell ⟨g,2,none⟩ (.int .i64 n)):=(Upd.refl _ _).set1 _ _;refine⟨p,buf,zt h.at_ 2 _,h.addr,zq h.row u ?_,h.inG,h.inB,fun k f=>Nat.lt_of_lt_of_le (h.lt k f) u.size⟩;intro k f e;obtain⟨i,m⟩:=qab h.row k f;exact qao m h.at_ (by decide) e
theorem JoS.wider{w:World}{g:Nat}{S T:Nat→Prop}{j:Jo}(h:JoS w g S j)(i:∀k,S k→T k)(f:∀k,T k→k<w.heap.size):JoS w g T j:=by
 obtain⟨p,b,h⟩:=h;exact⟨p,b,h.wider i f⟩
def zc7(g:Nat)(S:Nat→Prop)(j:Jo)(s:ByteArray)(w0:World)(i:Nat)(w:World):Prop:=(i=0→w=w0)∧(i=1→JoS w g (Fr S w0 w) (j.app s)∧Upd S w0 w)
theorem qmj(g b:Nat)(S:Nat→Prop)(j:Jo)(s:ByteArray)(w:World)(h:JoS w g S j)(hf:j.fused=false)(ho:j.off=false)(hs:s.size≤1024)(O:0≤j.many∧j.many<1099511627776)(T:j.bs.size≤1099511627776)(hT:Tabs w)(hb:w.cell? ⟨b,0,none⟩=some (.string s))(a6:¬S b) :
  Calls Tryz.prog 113 #[.pointer (some ⟨g,0,none⟩),.slice (some ⟨b,0,none⟩) 1 1] w fun e w'=>e = .returned (.int .i64 0)∧JoS w' g (Fr S w w') (j.app s)∧Upd S w w':=by
 obtain⟨p,buf,J⟩:=h
 have Z:w.cell? ⟨g,5,none⟩=some (.bool false):=ho▸qg J.at_ 5
 have f:w.cell? ⟨g,2,none⟩=some (.int .i64 j.many):=qg J.at_ 2
 have hG:=J.inG
 have H:=qb (show JoS w g S j from⟨p,buf,J⟩)
 obtain⟨m,v⟩:=Int.eq_ofNat_of_zero_le O.1
 have b3:IntKind.u64.wrap (m:Int)=(m:Int):=qel (by omega) (by omega)
 rw[v] at f
 have q:=fun w' (n':qu w w')=>q6f m s w' (by omega) hs (hT.new n')
 have a8:=qjo m s
 have a7:m<1099511627776:=by omega
 have I:=qb v
 have HM:=qb O
 clear J v O
 go_enter Tryz.func113,Tryz.ntmps113
 go_wp2_with fail
 go_loopw [13] (fun C wr=>∃i:Nat,C = .int .i64 (i:Int)∧i≤1∧wr=w) (fun C _=>1-(intOf C).toNat)
 case atStart=>exact⟨0,rfl,by omega,rfl⟩
 case round =>
  obtain⟨i,rfl,hi,rfl⟩:=hrel;rcases (by omega:i=0∨i=1) with rfl | rfl
  ·go_wp2_with fail;go_roundw
   case rel=>exact⟨1,rfl,by omega,by trivial⟩
   case measure=>simp[intOf]
  ·rw[show ((1:Nat):Int)=1 from rfl];go_wp2_with fail
   go_loopw [27] (fun C P=>∃i:Nat,C = .int .i64 (i:Int)∧i≤1∧Hid (zc7 g S j s wr i P)) (fun C _=>1-(intOf C).toNat)
   case atStart=>exact⟨0,rfl,by omega,qb ⟨fun _=>rfl,fun e=>by cases e⟩⟩
   case round =>
    obtain⟨i,rfl,hi,hrel⟩:=hrel;rcases (by omega:i=0∨i=1) with rfl | rfl
    ·obtain rfl:=(qa hrel).1 rfl;clear hrel;rw[show ((0:Nat):Int)=0 from rfl];go_wp2_with fail;refine(q _ (Upd.refl _ _)).mono ?_;rintro e w1 ⟨rfl,F⟩;have V:=qxc g S j (qpx m s) w1 ((qa H).new F) hf (by omega);have X:=qb F;clear F q hb Z f;go_wp2_with fail;refine V.mono ?_;rintro e L ⟨rfl,R,K⟩;have U:JoS (L.setCell ⟨g,2,none⟩ (.int .i64 ((m:Int)+1))) g (Fr S w1 L) (j.app s):=by
      have:=q7u R ((m:Int)+1);unfold Jo.app;rw[qa I,Int.toNat_natCast];exact this
     have z:Upd (· = g) L (L.setCell ⟨g,2,none⟩ (.int .i64 ((m:Int)+1))):=(Upd.refl _ _).set1 _ _;have M:=qb z;have N:=qb z.size;obtain⟨p2,b2,f⟩:=R;have d2:L.cell? ⟨g,2,none⟩=some (.int .i64 (m:Int)):=by have:=qa I;rw[←this];exact qg f.at_ 2
     have f2:=qo f.at_ 2;have W:=qb U;have Y:=qb K;clear V U f K z;go_wp2_with fail;go_roundw
     case rel =>
      have F:=qa X;have K:=qa Y;have z3:=qa N;have z1:=F.size;have z2:=K.size;have hz:=(qa H).lt;refine⟨1,rfl,by omega,qb ⟨(fun e=>by cases e),fun _=>⟨(qa W).wider ?_ ?_,?_⟩⟩⟩
      ·rintro k (E | E)
       ·exact .inl E
       ·exact .inr ⟨by omega,by omega⟩
      ·rintro k (E | E)
       ·have:=hz k E;omega
       ·exact E.2
      ·exact((F.mono (fun _ _ h=>h.elim)).trans K).trans ((qa M).mono (fun k _ e=>by rw[e];exact hG))
     case measure=>simp[intOf]
    ·go_wp2_with fail;go_ret;exact⟨rfl,(qa hrel).2 rfl⟩
structure LinkV where
 sp:Nat
 en:Nat
 lo:Nat
 out:ByteArray
 events:Value
 ticks:Int
 dead:Bool
 broken:Bool
 waits:Bool
def zco(g:Nat):Value:= .pointer (some ⟨g,0,none⟩)
def LinkV.cells(l:LinkV):List Value:=[zco l.sp,zco l.en,zco l.lo,.string l.out,l.events,.int .i64 l.ticks,.bool l.dead,.bool l.broken,.bool l.waits]
def LkR(w:World)(g:Nat)(l:LinkV):Prop:=w.heap[g]? = some (.cells l.cells.toArray 107 (0,0))
def SpR(w:World)(g:Nat)(s:ByteArray):Prop:=w.heap[g]? = some (.cells #[.string s] 169 (0,0))
def LinkV.new(sp en lo:Nat):LinkV:=⟨sp,en,lo,⟨#[]⟩,qbw,0,false,false,false⟩
structure NewL(w:World)(B g:Nat)(s:SetupV)(l:LinkV):Prop where
 isNew:l = .new l.sp l.en l.lo
 lk:LkR w g l
 sp:SpR w l.sp ⟨#[]⟩
 ch:ChR w l.en (.new s)
 jo:JoR w l.lo .new
 ge:B≤g∧B≤l.sp∧B≤l.en∧B≤l.lo
 ne:l.en<l.lo∧l.lo<l.sp∧l.sp<g
attribute [local go_sem ↓ high] qb2
attribute [local go_sem] qee
theorem quw(s:SetupV)(R:s.Ok)(w:World):Calls Tryz.prog 43 #[.agg s.cells.toArray] w fun e w' =>
  (s.may∧∃g l,e = .returned (.pointer (some ⟨g,0,none⟩))∧NewL w' w.heap.size g s l∧qu w w')∨(¬s.may∧e = .returned (.pointer none)∧qu w w'):=by
 go_enter Tryz.func43,Tryz.ntmps43
 go_upto_region 1 with fail
 have J:qtd (w.alloc (.cells s.cells.toArray 78)) w.heap.size s:=qh _ _
 have F:qu w (w.alloc (.cells s.cells.toArray 78)):=(Upd.refl _ _).alloc _
 generalize w.alloc (.cells s.cells.toArray 78)=w1 at J F ⊢
 have p:=J.row R.seed
 go_wp2_with fail
 refine(q62 s R _).mono ?_
 rintro e Z (⟨z,g,rfl,P,v,q⟩ | ⟨z,rfl,q⟩)
 ·replace q:=F.trans q;have N:w.heap.size≤g:=Nat.le_trans F.size P;clear F J p P;have L:=qb z;clear z;go_wp2_with fail;refine(qvd _).mono ?_;rintro e f ⟨j,rfl,Y,i,C⟩;have U:=v.lt;replace v:=v.new C;replace C:=q.trans C;have O:=zr i;have V:=q.size;clear q;go_wp2_with fail;go_ret;have z:=qa L;have T:=C.alloc (.cells #[.string ⟨#[]⟩] 169);have I:SpR _ f.heap.size ⟨#[]⟩:=qh f (.cells #[.string ⟨#[]⟩] 169);have E:qu f (f.alloc (.cells #[.string ⟨#[]⟩] 169)):=(Upd.refl _ _).alloc _;have S:(f.alloc (.cells #[.string ⟨#[]⟩] 169)).heap.size=f.heap.size+1:=World.size_alloc _ _;replace v:=v.new E;replace i:JoR _ j .new:=E.old i (fun h=>h);have W:w.heap.size≤j:=by omega
  generalize f.alloc (.cells #[.string ⟨#[]⟩] 169)=K at T I E S v i ⊢;have H:LkR _ K.heap.size (.new f.heap.size g j):=qh K (.cells (LinkV.new f.heap.size g j).cells.toArray 107);have m:qu K (K.alloc (.cells (LinkV.new f.heap.size g j).cells.toArray 107)):=(Upd.refl _ _).alloc _;have X:=T.trans m;rw[S] at H;have M:=C.size;exact .inl ⟨z,f.heap.size+1,.new f.heap.size g j,rfl,⟨rfl,H,m.old I (fun h=>h),v.new m,m.old i (fun h=>h),⟨by omega,M,N,W⟩,⟨by show g<j;omega,O,by show f.heap.size<_;omega⟩⟩,X⟩
 ·have C:=F.trans q;clear F J p q;have L:=qb z;clear z;go_wp2_with fail;go_ret;exact .inr ⟨qa L,rfl,C⟩
end
section
open Go.RowKit
inductive Fld where
 | ch
 | id
 | amount
 | hash
 | expiry
 | number
def Fld.zero(x:Fld)(m:MsgV):MsgV :=
 match x with
 | .ch=> {m with ch:=0}
 | .id=> {m with id:=0}
 | .amount=> {m with amount:=0}
 | .hash=> {m with hash:=ze}
 | .expiry=> {m with expiry:=0}
 | .number=> {m with number:=0}
def qjv(base:Nat)(w:World)(v:Value)(f F:FuncId)(n:Int):Prop :=
 ∃p q,v = .func (.func f) #[] #[.pointer (some ⟨p,0,none⟩),.pointer (some ⟨q,0,none⟩)]∧base≤p∧base≤q∧w.cell? ⟨p,0,none⟩=some (.func (.func F) #[] #[])∧w.cell? ⟨q,0,none⟩=some (.int .i64 n)
def qhm(base:Nat)(w:World)(v:Value)(x:Fld):Prop :=
 match x with
 | .ch=>qjv base w v 214 203 4
 | .id=>qjv base w v 200 169 8
 | .amount=>qjv base w v 200 170 8
 | .hash=>v = .func (.func 175) #[] #[]
 | .expiry=>qjv base w v 201 172 4
 | .number=>qjv base w v 201 173 2
theorem qjv.upd{base:Nat}{w w':World}{v:Value}{f F:FuncId}{n:Int}{S:Nat→Prop}(h:qjv base w v f F n)(u:Upd S w w')(i:∀k,base≤k→¬S k):qjv base w' v f F n:=by
 obtain⟨p,q,e,m,z,C,E⟩:=h;exact⟨p,q,e,m,z,u.cell C (i p m),u.cell E (i q z)⟩
theorem qhm.upd{base:Nat}{w w':World}{v:Value}{x:Fld}{S:Nat→Prop}(h:qhm base w v x)(u:Upd S w w')(f:∀k,base≤k→¬S k):qhm base w' v x:=by
 cases x<;>first | exact qjv.upd h u f | exact h
theorem qhm.new{base:Nat}{w w':World}{v:Value}{x:Fld}(h:qhm base w v x)(u:qu w w'):qhm base w' v x:=h.upd u (fun _ _ h=>h)
theorem q7q(m:MsgV)(n:Int):m.cells.toArray.setIfInBounds 1 (.int .u32 n)=({m with ch:=n} : MsgV).cells.toArray:=rfl
theorem q7r(m:MsgV)(n:Int):m.cells.toArray.setIfInBounds 2 (.int .u64 n)=({m with id:=n} : MsgV).cells.toArray:=rfl
theorem qo5(m:MsgV)(n:Int):m.cells.toArray.setIfInBounds 3 (.int .u64 n)=({m with amount:=n} : MsgV).cells.toArray:=rfl
theorem quv(m:MsgV)(h:m.hash.length=32):m.cells=(.int .i64 m.kind :: .int .u32 m.ch :: .int .u64 m.id :: .int .u64 m.amount::qs m.hash)++[.int .i64 m.expiry,.int .i64 m.number]:=rfl
theorem qo6(m:MsgV)(h:m.hash.length=32)(n:Int):m.cells.toArray.setIfInBounds 36 (.int .i64 n)=({m with expiry:=n} : MsgV).cells.toArray:=by
 rw[List.setIfInBounds_toArray,quv m h,List.set_append_right _ _ (by simp[qs,h])];congr 1;show _=(.int .i64 m.kind :: .int .u32 m.ch :: .int .u64 m.id :: .int .u64 m.amount::qs m.hash)++[.int .i64 n,.int .i64 m.number];simp[qs,h]
theorem qo9(m:MsgV)(h:m.hash.length=32)(n:Int):m.cells.toArray.setIfInBounds 37 (.int .i64 n)=({m with number:=n} : MsgV).cells.toArray:=by
 rw[List.setIfInBounds_toArray,quv m h,List.set_append_right _ _ (by simp[qs,h])];congr 1;show _=(.int .i64 m.kind :: .int .u32 m.ch :: .int .u64 m.id :: .int .u64 m.amount::qs m.hash)++[.int .i64 m.expiry,.int .i64 n];simp[qs,h]
theorem qvh(m:MsgV)(h:m.hash.length=32)(k:List Int)(f:k.length=32):qiz m.cells.toArray 4 (qs k)=({m with hash:=k} : MsgV).cells.toArray :=
 qqq [.int .i64 m.kind,.int .u32 m.ch,.int .u64 m.id,.int .u64 m.amount] (qs m.hash) [.int .i64 m.expiry,.int .i64 m.number] (qs k) 4 rfl (by rw[qaj,qaj,h,f])
attribute [local go_sem ↓ high] zl qaa qad qam
attribute [local go_sem] qbf qci qcj qdh qv
theorem qnc(A:Nat)(w:World):Calls Tryz.prog 169 #[.pointer (some ⟨A,0,none⟩)] w (qay (.pointer (some ⟨A,2,none⟩)) w):=by
 go_enter Tryz.func169,Tryz.ntmps169;go_wp2_with fail;go_ret;exact⟨rfl,Q.refl _⟩
theorem qnd(A:Nat)(w:World):Calls Tryz.prog 170 #[.pointer (some ⟨A,0,none⟩)] w (qay (.pointer (some ⟨A,3,none⟩)) w):=by
 go_enter Tryz.func170,Tryz.ntmps170;go_wp2_with fail;go_ret;exact⟨rfl,Q.refl _⟩
theorem qne(A:Nat)(w:World):Calls Tryz.prog 172 #[.pointer (some ⟨A,0,none⟩)] w (qay (.pointer (some ⟨A,36,none⟩)) w):=by
 go_enter Tryz.func172,Tryz.ntmps172;go_wp2_with fail;go_ret;exact⟨rfl,Q.refl _⟩
theorem qnf(A:Nat)(w:World):Calls Tryz.prog 173 #[.pointer (some ⟨A,0,none⟩)] w (qay (.pointer (some ⟨A,37,none⟩)) w):=by
 go_enter Tryz.func173,Tryz.ntmps173;go_wp2_with fail;go_ret;exact⟨rfl,Q.refl _⟩
theorem qng(A:Nat)(w:World):Calls Tryz.prog 203 #[.pointer (some ⟨A,0,none⟩)] w (qay (.pointer (some ⟨A,1,none⟩)) w):=by
 go_enter Tryz.func203,Tryz.ntmps203;go_wp2_with fail;go_ret;exact⟨rfl,Q.refl _⟩
def qhd:Value:= .agg #[.pointer none,.pointer none]
theorem qmy(F:FuncId)(o A p q:Nat)(x:Int)(m:MsgV)(w:World)(U:∀args w,(callFunc F args).run Tryz.prog w = .ok (.enter F args) w)(N:∀w,Calls Tryz.prog F #[.pointer (some ⟨A,0,none⟩)] w (qay (.pointer (some ⟨A,o,none⟩)) w))(J:w.cell? ⟨p,0,none⟩=some (.func (.func F) #[] #[]))(I:MsB w A m)(O:m.cells[o]? = some (.int .u64 x)) :
  Calls Tryz.prog 200 #[qhd,.pointer (some ⟨A,0,none⟩),.pointer (some ⟨p,0,none⟩),.pointer (some ⟨q,0,none⟩)] w fun e w'=>e = .returned (.tuple #[])∧∃w1,qu w w1∧w'=w1.setCell ⟨A,o,none⟩ (.int .u64 0):=by
 unfold qhd
 go_enter Tryz.func200,Tryz.ntmps200
 go_upto_region 1 with fail
 have i:qu w (w.alloc (.cells #[.pointer none,.pointer none] 234)):=(Upd.refl _ _).alloc _
 have C:=qh w (.cells #[.pointer none,.pointer none] 234)
 generalize w.alloc (.cells #[.pointer none,.pointer none] 234)=w1 at i C ⊢
 generalize w.heap.size=B at C ⊢
 have H:=i.cell J (fun h=>h)
 have L:=qb (I.new i)
 have E:=qb C
 clear C J I
 go_wp2_with fail
 refine(N w1).mono ?_
 rintro e z ⟨rfl,v⟩
 have K:qu w z:=i.trans (v.upd _)
 have f:=(qa L).new (v.upd _)
 have R:z.cell? ⟨B,0,none⟩=some (.pointer none):=v.cell (qg (qa E) 0)
 have S:z.cell? ⟨B,1,none⟩=some (.pointer none):=v.cell (qg (qa E) 1)
 have P:z.cell? ⟨A,o,none⟩=some (.int .u64 x):=by rw[qg f.at_,List.getElem?_toArray];exact O
 have T:z.frozen? ⟨A,o,none⟩=false:=qo f.at_ o
 have M:=qb K
 clear f v K i H E
 go_wp2_with ((with_reducible first|rfl|refine' ut ?_ ?_;rotate_left|refine' uu ?_)<;>intros)
 go_end0
 exact⟨rfl,_,qa M,rfl⟩
theorem qmx(F:FuncId)(o A p q:Nat)(x:Int)(m:MsgV)(w:World)(U:∀args w,(callFunc F args).run Tryz.prog w = .ok (.enter F args) w)(N:∀w,Calls Tryz.prog F #[.pointer (some ⟨A,0,none⟩)] w (qay (.pointer (some ⟨A,o,none⟩)) w))(J:w.cell? ⟨p,0,none⟩=some (.func (.func F) #[] #[]))(I:MsB w A m)(O:m.cells[o]? = some (.int .i64 x)) :
  Calls Tryz.prog 201 #[qhd,.pointer (some ⟨A,0,none⟩),.pointer (some ⟨p,0,none⟩),.pointer (some ⟨q,0,none⟩)] w fun e w'=>e = .returned (.tuple #[])∧∃w1,qu w w1∧w'=w1.setCell ⟨A,o,none⟩ (.int .i64 0):=by
 unfold qhd
 go_enter Tryz.func201,Tryz.ntmps201
 go_upto_region 1 with fail
 have i:qu w (w.alloc (.cells #[.pointer none,.pointer none] 234)):=(Upd.refl _ _).alloc _
 have C:=qh w (.cells #[.pointer none,.pointer none] 234)
 generalize w.alloc (.cells #[.pointer none,.pointer none] 234)=w1 at i C ⊢
 generalize w.heap.size=B at C ⊢
 have H:=i.cell J (fun h=>h)
 have L:=qb (I.new i)
 have E:=qb C
 clear C J I
 go_wp2_with fail
 refine(N w1).mono ?_
 rintro e z ⟨rfl,v⟩
 have K:qu w z:=i.trans (v.upd _)
 have f:=(qa L).new (v.upd _)
 have R:z.cell? ⟨B,0,none⟩=some (.pointer none):=v.cell (qg (qa E) 0)
 have S:z.cell? ⟨B,1,none⟩=some (.pointer none):=v.cell (qg (qa E) 1)
 have P:z.cell? ⟨A,o,none⟩=some (.int .i64 x):=by rw[qg f.at_,List.getElem?_toArray];exact O
 have T:z.frozen? ⟨A,o,none⟩=false:=qo f.at_ o
 have M:=qb K
 clear f v K i H E
 go_wp2_with ((with_reducible first|rfl|refine' ut ?_ ?_;rotate_left|refine' uu ?_)<;>intros)
 go_end0
 exact⟨rfl,_,qa M,rfl⟩
theorem qvz(F:FuncId)(o A p q:Nat)(x:Int)(m:MsgV)(w:World)(U:∀args w,(callFunc F args).run Tryz.prog w = .ok (.enter F args) w)(N:∀w,Calls Tryz.prog F #[.pointer (some ⟨A,0,none⟩)] w (qay (.pointer (some ⟨A,o,none⟩)) w))(J:w.cell? ⟨p,0,none⟩=some (.func (.func F) #[] #[]))(I:MsB w A m)(O:m.cells[o]? = some (.int .u32 x)) :
  Calls Tryz.prog 214 #[qhd,.pointer (some ⟨A,0,none⟩),.pointer (some ⟨p,0,none⟩),.pointer (some ⟨q,0,none⟩)] w fun e w'=>e = .returned (.tuple #[])∧∃w1,qu w w1∧w'=w1.setCell ⟨A,o,none⟩ (.int .u32 0):=by
 unfold qhd
 go_enter Tryz.func214,Tryz.ntmps214
 go_upto_region 1 with fail
 have i:qu w (w.alloc (.cells #[.pointer none,.pointer none] 234)):=(Upd.refl _ _).alloc _
 have C:=qh w (.cells #[.pointer none,.pointer none] 234)
 generalize w.alloc (.cells #[.pointer none,.pointer none] 234)=w1 at i C ⊢
 generalize w.heap.size=B at C ⊢
 have H:=i.cell J (fun h=>h)
 have L:=qb (I.new i)
 have E:=qb C
 clear C J I
 go_wp2_with fail
 refine(N w1).mono ?_
 rintro e z ⟨rfl,v⟩
 have K:qu w z:=i.trans (v.upd _)
 have f:=(qa L).new (v.upd _)
 have R:z.cell? ⟨B,0,none⟩=some (.pointer none):=v.cell (qg (qa E) 0)
 have S:z.cell? ⟨B,1,none⟩=some (.pointer none):=v.cell (qg (qa E) 1)
 have P:z.cell? ⟨A,o,none⟩=some (.int .u32 x):=by rw[qg f.at_,List.getElem?_toArray];exact O
 have T:z.frozen? ⟨A,o,none⟩=false:=qo f.at_ o
 have M:=qb K
 clear f v K i H E
 go_wp2_with ((with_reducible first|rfl|refine' ut ?_ ?_;rotate_left|refine' uu ?_)<;>intros)
 go_end0
 exact⟨rfl,_,qa M,rfl⟩
theorem qs9(A:Nat)(m:MsgV)(w:World)(q:MsB w A m) :
  Calls Tryz.prog 175 #[qhd,.pointer (some ⟨A,0,none⟩)] w fun e w'=>e = .returned (.tuple #[])∧∃w1,qu w w1∧w'=w1.setCells A 4 (qs ze):=by
 unfold qhd
 go_enter Tryz.func175,Tryz.ntmps175
 go_upto_region 2 with fail
 have p:qu w (w.alloc (.cells #[.pointer none,.pointer none] 234)):=(Upd.refl _ _).alloc _
 have i:=qh w (.cells #[.pointer none,.pointer none] 234)
 generalize w.alloc (.cells #[.pointer none,.pointer none] 234)=w1 at p i ⊢
 generalize w.heap.size=B at i ⊢
 have f:=q.new p
 have F:w1.cell? ⟨B,0,none⟩=some (.pointer none):=qg i 0
 have H:w1.cell? ⟨B,1,none⟩=some (.pointer none):=qg i 1
 have C:stOk w1 A 4 32 (qs ze).toArray=true:=qdf f.at_ (by rw[List.size_toArray,m.len f.len];omega) (by rw[List.size_toArray,qaj];exact ql) (by rw[Array.all_eq_true_iff_forall_mem];intro v E;exact qon _ v (by simpa using E))
 have z:=qb p
 clear q f p i
 go_wp2_with ((with_reducible first|rfl|refine' ut ?_ ?_;rotate_left|refine' uu ?_)<;>intros)
 go_end0
 exact⟨rfl,_,qa z,rfl⟩
theorem q0v(x:Fld)(base A:Nat)(m:MsgV)(v:Value)(w:World)(J:qhm base w v x)(i:MsB w A m)(S:A<base) :
  ∃F I,v = .func (.func F) #[] I∧(∀args w,(callFunc F args).run Tryz.prog w = .ok (.enter F args) w)∧Calls Tryz.prog F (#[qhd,.pointer (some ⟨A,0,none⟩)]++I) w fun e w'=>e = .returned (.tuple #[])∧MsB w' A (x.zero m)∧Upd (· = A) w w':=by
 have C:∀(w1:World) (o:Nat) (u:Value) (N:MsgV),qu w w1→m.cells.toArray.setIfInBounds o u=N.cells.toArray→N.hash.length=32→MsB (w1.setCell ⟨A,o,none⟩ u) A N∧Upd (· = A) w (w1.setCell ⟨A,o,none⟩ u):=by
  intro w1 o u N f z E;have O:=i.new f;have:=zt O.at_ o u;rw[z] at this;exact⟨⟨this,E⟩,(f.mono (fun _ _ h=>h.elim)).set1 o u⟩
 have E:=i.len
 cases x with
 | ch =>
  obtain⟨p,q,rfl,L,M,H,K⟩:=J;refine⟨_,_,rfl,enters_of Tryz.func214 (by kernel_rfl) rfl,?_⟩;refine(qvz 203 1 A p q m.ch m w (enters_of Tryz.func203 (by kernel_rfl) rfl) (qng A) H i rfl).mono ?_;rintro e w' ⟨z,w1,f,rfl⟩;exact⟨z,C w1 1 _ _ f (q7q m 0) E⟩
 | id =>
  obtain⟨p,q,rfl,L,M,H,K⟩:=J;refine⟨_,_,rfl,enters_of Tryz.func200 (by kernel_rfl) rfl,?_⟩;refine(qmy 169 2 A p q m.id m w (enters_of Tryz.func169 (by kernel_rfl) rfl) (qnc A) H i rfl).mono ?_;rintro e w' ⟨z,w1,f,rfl⟩;exact⟨z,C w1 2 _ _ f (q7r m 0) E⟩
 | amount =>
  obtain⟨p,q,rfl,L,M,H,K⟩:=J;refine⟨_,_,rfl,enters_of Tryz.func200 (by kernel_rfl) rfl,?_⟩;refine(qmy 170 3 A p q m.amount m w (enters_of Tryz.func170 (by kernel_rfl) rfl) (qnd A) H i rfl).mono ?_;rintro e w' ⟨z,w1,f,rfl⟩;exact⟨z,C w1 3 _ _ f (qo5 m 0) E⟩
 | expiry =>
  obtain⟨p,q,rfl,L,M,H,K⟩:=J;refine⟨_,_,rfl,enters_of Tryz.func201 (by kernel_rfl) rfl,?_⟩;have P:m.cells[36]? = some (.int .i64 m.expiry):=by
   have:=i.cells.2.2.2.2.1;rwa [qg i.at_,List.getElem?_toArray] at this
  refine(qmx 172 36 A p q m.expiry m w (enters_of Tryz.func172 (by kernel_rfl) rfl) (qne A) H i P).mono ?_;rintro e w' ⟨z,w1,f,rfl⟩;exact⟨z,C w1 36 _ _ f (qo6 m E 0) E⟩
 | number =>
  obtain⟨p,q,rfl,L,M,H,K⟩:=J;refine⟨_,_,rfl,enters_of Tryz.func201 (by kernel_rfl) rfl,?_⟩;have P:m.cells[37]? = some (.int .i64 m.number):=by
   have:=i.cells.2.2.2.2.2.1;rwa [qg i.at_,List.getElem?_toArray] at this
  refine(qmx 173 37 A p q m.number m w (enters_of Tryz.func173 (by kernel_rfl) rfl) (qnf A) H i P).mono ?_;rintro e w' ⟨z,w1,f,rfl⟩;exact⟨z,C w1 37 _ _ f (qo9 m E 0) E⟩
 | hash =>
  have J:v=_:=J;subst J;refine⟨_,_,rfl,enters_of Tryz.func175 (by kernel_rfl) rfl,?_⟩;refine(qs9 A m w i).mono ?_;rintro e w' ⟨z,w1,f,rfl⟩;have O:=i.new f;have R:=qa3 O.at_ 4 (qs ze);rw[qvh m E ze ql] at R;exact⟨z,⟨R,ql⟩,(f.mono (fun _ _ h=>h.elim)).setCells 4 _⟩
end
section
open Go.RowKit
theorem qah(n:Int)(F:FuncId)(w:World):Calls Tryz.prog 168 #[.int .i64 n,.func (.func F) #[] #[]] w fun e w'=>∃v,e = .returned v∧qu w w'∧qjv w.heap.size w' v 200 F n:=by
 go_enter Tryz.func168,Tryz.ntmps168;go_wp2_with fail;go_ret;have f:=qh (w.alloc (.cells #[.int .i64 n] 3)) (.cells #[.func (.func F) #[] #[]] 274);rw[World.size_alloc] at f;exact⟨_,rfl,((Upd.refl _ _).alloc _).alloc _,_,_,rfl,by omega,by omega,by rw[qg f];rfl,by rw[qg (qq (qh _ _) _)];rfl⟩
theorem qaq(n:Int)(F:FuncId)(w:World):Calls Tryz.prog 171 #[.int .i64 n,.func (.func F) #[] #[]] w fun e w'=>∃v,e = .returned v∧qu w w'∧qjv w.heap.size w' v 201 F n:=by
 go_enter Tryz.func171,Tryz.ntmps171;go_wp2_with fail;go_ret;have f:=qh (w.alloc (.cells #[.int .i64 n] 3)) (.cells #[.func (.func F) #[] #[]] 277);rw[World.size_alloc] at f;exact⟨_,rfl,((Upd.refl _ _).alloc _).alloc _,_,_,rfl,by omega,by omega,by rw[qg f];rfl,by rw[qg (qq (qh _ _) _)];rfl⟩
theorem qk4(n:Int)(F:FuncId)(w:World):Calls Tryz.prog 202 #[.int .i64 n,.func (.func F) #[] #[]] w fun e w'=>∃v,e = .returned v∧qu w w'∧qjv w.heap.size w' v 214 F n:=by
 go_enter Tryz.func202,Tryz.ntmps202;go_wp2_with fail;go_ret;have f:=qh (w.alloc (.cells #[.int .i64 n] 3)) (.cells #[.func (.func F) #[] #[]] 299);rw[World.size_alloc] at f;exact⟨_,rfl,((Upd.refl _ _).alloc _).alloc _,_,_,rfl,by omega,by omega,by rw[qg f];rfl,by rw[qg (qq (qh _ _) _)];rfl⟩
theorem qjv.later{a b:Nat}{w:World}{v:Value}{f F:FuncId}{n:Int}(h:qjv b w v f F n)(i:a≤b):qjv a w v f F n:=by
 obtain⟨p,q,e,m,z,r⟩:=h;exact⟨p,q,e,by omega,by omega,r⟩
theorem qhm.later{a b:Nat}{w:World}{v:Value}{x:Fld}(h:qhm b w v x)(f:a≤b):qhm a w v x:=by
 cases x<;>first | exact qjv.later h f | exact h
structure FldsO(base:Nat)(w:World)(v:Value)(xs:List Fld):Prop where
 row:∃vs:List Value,w.ownsRow base 271 1 v xs.length vs∧vs.length=xs.length∧∀(i:Nat) (x:Fld) (u:Value),xs[i]? = some x→vs[i]? = some u→qhm base w u x
theorem Tryz.zeroFld:((Tryz.prog.info? 271).map fun i=>(i.zero.map (·.cells.size),i.size,decide (i.bytes≤1000)))=some (some 1,1,true):=by kernel_rfl
theorem q5s:∃i z b,Tryz.prog.info? 271=some i∧i.zero=some z∧i.size=1∧i.bytes=b∧z.cells.size=1∧b≤1000:=by
 have h:=Tryz.zeroFld;cases p:Tryz.prog.info? 271 with
 | none=>rw[p] at h;cases h
 | some i =>
  rw[p] at h;simp only[Option.map_some,Option.some.injEq,Prod.mk.injEq] at h;obtain⟨f,q,v⟩:=h;cases m:i.zero with
  | none=>rw[m] at f;cases f
  | some z =>
   rw[m] at f;exact⟨i,z,i.bytes,rfl,m,q,rfl,by simpa using f,of_decide_eq_true v⟩
theorem qf4(g:Nat)(m:List Value)(w:World)(hg:w.heap[g]? = some (.cells m.toArray 271 (0,0)))(h1:∀v∈m,v.oneCell'=true)(hl:m.length≤100) :
  Calls Tryz.prog 174 #[.slice (some ⟨g,0,none⟩) m.length m.length] w fun e w'=>∃v c,e = .returned (.tuple #[v,.bool true])∧qu w w'∧w'.ownsRow w.heap.size 271 1 v (1+m.length) (c::m)∧qhm w.heap.size w' c .ch:=by
 obtain⟨i9,z9,b9,M,T,P,R,S,L⟩:=q5s
 have Z:=qk4 4 203 w
 go_enter Tryz.func174,Tryz.ntmps174
 go_wp2_with fail
 refine Z.mono ?_
 rintro e w1 ⟨c,rfl,K,p,q,rfl,hp,hq,W,X⟩
 clear Z
 have lp:=World.block_lt_of_cell? w1 _ W
 have lq:=World.block_lt_of_cell? w1 _ X
 change p<_ at lp
 change q<_ at lq
 obtain⟨c,E⟩:∃c:Value,c = .func (.func 214) #[] #[.pointer (some ⟨p,0,none⟩),.pointer (some ⟨q,0,none⟩)]:=⟨_,rfl⟩
 have I:=qb E
 have z:(w1.alloc (.cells #[c] 271)).ownsRow w.heap.size 271 1 (.slice (some ⟨w1.heap.size,0,none⟩) 1 1) 1 [c] :=
  ⟨rfl,.inr ⟨w1.heap.size,1,#[c],rfl,K.size,qh _ _,Nat.le_refl _,by decide,rfl,rfl⟩⟩
 have F:(w1.alloc (.cells #[c] 271)).heap[g]? = some (.cells m.toArray 271 (0,0)):=(K.alloc (.cells #[c] 271)).old hg (fun h=>h)
 rw[E] at z F
 clear E
 go_wp2_with (at_builtin;refine wpList_append_own _ rfl (.tmp 7) (.tmp 8) 226 rfl w.heap.size 271 i9 _ 1 b9 Tryz.underlying226 M T P R S (by decide) _ _ _ rfl z ⟨g,0,none⟩ m.length m.length m rfl (by rw[Nat.mul_one]) ?c1 h1 ?c3 ?c4 ?c5 ?_)
 case c1=>exact World.news_of_block (cs:=m.toArray) (fr:=(0,0)) F
 case c3=>unfold maxLen;omega
 case c4=>have:=Nat.mul_le_mul (show 1+m.length≤101 by omega) L;omega
 case c5=>have:=K.size;rw[World.size_alloc];omega
 intro v' V i f _
 obtain⟨wa,H⟩:∃wa:World,wa=w1.alloc (.cells #[.func (.func 214) #[] #[.pointer (some ⟨p,0,none⟩),.pointer (some ⟨q,0,none⟩)]] 271):=⟨_,rfl⟩
 have C:qu w1 wa:=by rw[H];exact(Upd.refl _ _).alloc _
 rw[←H] at f
 have Y:qu w V:=(K.trans C).grown f (fun k N O=>by
  simp only[Value.ownBlock,Option.some.injEq] at N;have:=K.size;omega)
 have U:Upd (fun k=>k=w1.heap.size) wa V:=(Upd.refl _ _).grown f (fun k N O=>by
  simp only[Value.ownBlock,Option.some.injEq] at N;omega)
 have J:qhm w.heap.size V c .ch:=by
  exact⟨p,q,qa I,hp,hq,U.cell (C.cell W (fun h=>h)) (by show ¬p=_;omega),U.cell (C.cell X (fun h=>h)) (by show ¬q=_;omega)⟩
 rw[←qa I] at i
 have HO:=qb i
 have HC:=qb J
 have HN:=qb Y
 clear i f J Y U z F C H
 go_wp2_with fail
 go_ret2
 exact⟨_,c,rfl,qa HN,qa HO,qa HC⟩
theorem qqr(w:World) :
  Calls Tryz.prog 174 #[.slice none 0 0] w fun e w'=>∃v c,e = .returned (.tuple #[v,.bool true])∧qu w w'∧w'.ownsRow w.heap.size 271 1 v 1 [c]∧qhm w.heap.size w' c .ch:=by
 have i:=qk4 4 203 w
 go_enter Tryz.func174,Tryz.ntmps174
 go_wp2_with fail
 refine i.mono ?_
 rintro e w1 ⟨c,rfl,m,p,q,rfl,E,F,z,C⟩
 clear i
 go_wp2_with fail
 go_ret2
 have f:qu w1 (w1.alloc (.cells #[.func (.func 214) #[] #[.pointer (some ⟨p,0,none⟩),.pointer (some ⟨q,0,none⟩)]] 271)):=(Upd.refl _ _).alloc _
 exact⟨_,_,rfl,m.trans f,⟨rfl,.inr ⟨w1.heap.size,1,_,rfl,m.size,qh _ _,Nat.le_refl _,by decide,rfl,rfl⟩⟩,⟨p,q,rfl,E,F,f.cell z (fun h=>h),f.cell C (fun h=>h)⟩⟩
end
end Go.Proofs.YtfmkdoachjgjbaaGreatDoor
