/-
  Law 13's live, the reference's SameLive (printed by tools/mk_lvr.py out of the view's texts).
-/
import Derived.Test.YthnohmjbbeahmaaGreatDoorMch
import Derived.Test.YthnohmjbbeahmaaGreatDoorMbf
set_option linter.unusedVariables false
set_option linter.unusedSimpArgs false
namespace Go.Proofs.YthnohmjbbeahmaaGreatDoor
open Go.RowKit Go.Sort Go.ChangeShapes Go.WideShapes Go.ChangeAt Go.Deep
theorem Tryz.infoLiveR:(Tryz.prog.info? 109).map (·.size)=some 38:=by kernel_rfl
def q5y(x:Value):Sem Value:=Instr.loadAt 109 x
theorem qug(x:Value):Instr.loadAt 109 x=q5y x:=rfl
theorem zcf(b o:Nat)(w:World):(q5y (.pointer (some ⟨b,o,none⟩))).run Tryz.prog w=match zu w b o 38 with | some A=> .ok (.agg A) w | none=>qdz Tryz.prog 109 w b o :=
 z6 109 38 _ Tryz.underlying109 rfl Tryz.infoLiveR b o w
def q6f(x v:Value):Sem Unit:=Instr.storeAt 109 x v
theorem qup(x v:Value):Instr.storeAt 109 x v=q6f x v:=rfl
theorem zd8(b o:Nat)(A:Array Value)(w:World):(q6f (.pointer (some ⟨b,o,none⟩)) (.agg A)).run Tryz.prog w=if stOk w b o 38 A=true then .ok () (w.setCells b o A.toList) else qfn Tryz.prog 109 w b o A :=
 qat 109 38 Tryz.infoLiveR b o A w
theorem qsj{w:World}{base:Nat}{v:Value}{n:Nat}{X:List Live}(h:w.ownsRow base 109 38 v n (X.flatMap qk)) :
  n=X.length∧((v = .slice none 0 0∧X=[])∨∃g cap,v = .slice (some ⟨g,0,none⟩) X.length cap∧base≤g∧qf7 w g 0 X):=by
 have q:n=X.length:=by have:=h.1;rw[qmd] at this;omega
 refine⟨q,?_⟩
 subst q
 rcases h.2 with ⟨e,t⟩ | ⟨g,cap,l,e,y,C,z,_,F,E⟩
 ·exact .inl ⟨e,List.length_eq_zero_iff.1 t⟩
 ·refine .inr ⟨g,cap,e,y,l,_,C,by have:=Nat.mul_le_mul_right 38 z;omega,fun i x o j D=> ?_⟩;have m:=(List.getElem?_eq_some_iff.1 o).1;rw[Nat.zero_add,←qpd X i j x o D,←E,List.getElem?_take,if_pos (by have:=Nat.mul_le_mul_right 38 (show i+1≤X.length from m);omega),Array.getElem?_toList]
theorem Tryz.infoLiveBR:(Tryz.prog.info? 109).map (fun i=>(i.size,i.bytes,i.zero.map (·.cells.size)))=some (38,80,some 38):=by kernel_rfl
theorem Tryz.zeroLiveR:((Tryz.prog.info? 109).map fun i=>i.zero.map fun z=>z.cells.toList)=some (some (.int .u64 0 :: .int .u64 0::(List.replicate 32 (.int .u8 0)++[.int .i64 0,.bool false,.int .i64 0,.bool false]))):=by kernel_rfl
theorem qs1:∃i z,Tryz.prog.info? 109=some i∧i.zero=some z∧z.cells=(.int .u64 0 :: .int .u64 0::(List.replicate 32 (.int .u8 0)++[.int .i64 0,.bool false,.int .i64 0,.bool false])).toArray:=by
 have h:=Tryz.zeroLiveR;cases l:Tryz.prog.info? 109 with
 | none=>rw[l] at h;simp at h
 | some i =>
  rw[l,Option.map_some,Option.some.injEq] at h;cases g:i.zero with
  | none=>rw[g] at h;simp at h
  | some z =>
   rw[g,Option.map_some,Option.some.injEq] at h;exact⟨i,z,rfl,g,by rw[←h]⟩
theorem q9h(A:List Value)(h:A.length=38)(w:World):(Instr.buildSlice 62 1 #[(0,.agg A.toArray)]).run Tryz.prog w = .ok (.slice (some ⟨w.heap.size,0,none⟩) 1 1) (w.alloc (.cells A.toArray 109)):=by
 obtain⟨i,z,q,x,v⟩:=qs1;have g:i.size=38:=by have:=Tryz.infoLiveR;rw[q] at this;simpa using this
 refine run_buildSlice w _ _ 1 _ _ i z Tryz.underlying62 q x (by rw[g];decide) (by rw[g];decide) ?_;rw[g,v];generalize t:Array.map _ _=W;have l:W.toList.length=A.length:=by rw[←t,h];simp
 have o:=qr3 W.toList A [] l;have m:W.size=38:=by rw[←h,←l];simp
 simp[Instr.fill,Value.cells,h,m] at o ⊢;exact o
def qwu(n:Nat)(p:Array (Nat × Value)):Sem Value:=Instr.buildSlice 62 n p
theorem qi0(n:Nat)(p:Array (Nat × Value)):Instr.buildSlice 62 n p=qwu n p:=rfl
theorem qru(A:List Value)(w:World):(qwu 1 #[(0,.agg A.toArray)]).run Tryz.prog w=if A.length=38 then .ok (.slice (some ⟨w.heap.size,0,none⟩) 1 1) (w.alloc (.cells A.toArray 109)) else (Instr.buildSlice 62 1 #[(0,.agg A.toArray)]).run Tryz.prog w:=by
 by_cases h:A.length=38
 ·rw[if_pos h];exact q9h A h w
 ·rw[if_neg h];rfl
theorem qo9(w:World):(qwu 0 #[]).run Tryz.prog w = .ok (.slice (some ⟨w.heap.size,0,none⟩) 0 0) (w.alloc (.cells #[] 109)):=by
 obtain⟨i,z,l,m,o⟩:=qs1;have g:i.size=38:=by have:=Tryz.infoLiveR;rw[l] at this;simpa using this
 show (Instr.buildSlice 62 0 #[]).run Tryz.prog w=_;simp[Instr.buildSlice,run_underlying Tryz.underlying62,sizeOf,typeInfo,zeroValue,l,m,g,Instr.fill,newRow];rw[Array.eq_empty_of_size_eq_zero (xs:=Array.map _ (Array.range 0)) (by simp)]
theorem q3r:∃i z,Tryz.prog.info? 109=some i∧i.zero=some z∧i.size=38∧i.bytes=80∧z.cells.size=38:=by
 have h:=Tryz.infoLiveBR;cases m:Tryz.prog.info? 109 with
 | none=>rw[m] at h;simp at h
 | some i =>
  rw[m] at h;simp only[Option.map_some,Option.some.injEq,Prod.mk.injEq] at h;obtain⟨o,q,g⟩:=h;cases l:i.zero with
  | none=>rw[l] at g;simp at g
  | some z=>rw[l] at g;simp at g;exact⟨i,z,rfl,l,o,q,g⟩
section
attribute [local go_sem ↓ high] qcf qi0
attribute [local go_sem] qgl qru qo9
end
def qsm:List Leaf:= .int .u64 :: .int .u64::(List.replicate 32 (.int .u8)++[.int .i64])
def qsz:List Leaf:=qsm++[.bool,.int .i64,.bool]
theorem qsp(k:IntKind):∀(l:List Int),(∀x∈l,(Lit.int k x).wf=true)→qda (List.replicate l.length (.int k)) (l.map (Value.int k))
 | [],_=>rfl
 | x::l,h=>⟨_,_,rfl,⟨x,rfl,h x (List.mem_cons_self ..)⟩,qsp k l fun y g=>h y (List.mem_cons_of_mem _ g)⟩
theorem q6m{n:Int}(h:0≤n∧n≤18446744073709551615):(Lit.int .u64 n).wf=true:=by
 simp[Lit.wf,IntKind.min,IntKind.max,IntKind.signed,IntKind.bits];omega
theorem q6l{n:Int}(h : -9223372036854775808≤n∧n≤9223372036854775807):(Lit.int .i64 n).wf=true:=by
 simp[Lit.wf,IntKind.min,IntKind.max,IntKind.signed,IntKind.bits];omega
theorem zjl{n:Int}(h:0≤n∧n≤255):(Lit.int .u8 n).wf=true:=by
 simp[Lit.wf,IntKind.min,IntKind.max,IntKind.signed,IntKind.bits];omega
theorem q7o{x:Htlc}(h:HtlcOk x):qda qsm (qz x):=by
 refine⟨_,_,rfl,⟨_,rfl,q6m h.id⟩,_,_,rfl,⟨_,rfl,q6m h.amount⟩,qda.app ?_ ⟨_,_,rfl,⟨_,rfl,q6l h.expiry⟩,rfl⟩⟩;have:=qsp .u8 x.hash.toList fun n g=>zjl (h.hash n g)
 simpa using this
theorem qu4{x:Live}(h:LiveOk x):qda qsz (qk x) :=
 qda.app (q7o h.h) ⟨_,_,rfl,⟨_,rfl⟩,_,_,rfl,⟨_,rfl,q6l h.state⟩,_,_,rfl,⟨_,rfl⟩,rfl⟩
theorem qe6.slice{w:World}{v:Value}{xs:List Live}(h:qe6 w v xs):∃a c,v = .slice a xs.length c:=by
 rcases h with ⟨_,_,rfl,rfl⟩ | ⟨g,off,cap,rfl,_⟩
 ·exact⟨_,_,rfl⟩
 ·exact⟨_,_,rfl⟩
theorem qe6.row{w:World}{a:Option Addr}{n c:Nat}{X:List Live}(h:qe6 w (.slice a n c) X){i:Nat}{x:Live}(g:X[i]? = some x) :
  ∃b off,a=some ⟨b,off,none⟩∧n=X.length∧zu w b (off+i*38) 38=some (qk x).toArray:=by
 rcases h with ⟨_,_,e,rfl⟩ | ⟨b,off,cap,e,l⟩
 ·simp at g
 ·cases e;exact⟨b,off,rfl,rfl,l.row g⟩
section
attribute [local go_sem ↓ high] qug qup qi0
attribute [local go_sem] zcf zd8 qru qo9 zb
theorem Tryz.flatLiveR:qcp Tryz.prog 5 109=some qsz:=by kernel_rfl
theorem Tryz.eqLiveR:eqB Tryz.prog 5 109=true:=by kernel_rfl
theorem Tryz.aggLiveR:qht Tryz.prog 109=true:=by kernel_rfl
def q53(x y:Value):Sem Value:=binOp .neq 109 x y
theorem quh(x y:Value):binOp .neq 109 x y=q53 x y:=rfl
theorem zcy{x y:Live}(i:LiveOk x)(l:LiveOk y)(r:Bool)(g:r=true↔qk x=qk y)(w:World):(q53 (.agg (qk x).toArray) (.agg (qk y).toArray)).run Tryz.prog w = .ok (.bool (!r)) w :=
 qkp 5 (by decide) Tryz.eqLiveR Tryz.flatLiveR Tryz.aggLiveR (qu4 i) (qu4 l) r g w
attribute [local go_sem ↓ high] quh
set_option maxRecDepth 100000 in
set_option maxHeartbeats 4000000 in
theorem qul(z D:Value)(X:List Live)(M:X.length≤1048576)(hok:∀x∈X,LiveOk x)(w:World)(m:qe6 w z X)(o:qe6 w D X) :
  Calls Tryz.prog 24 #[z,D] w (qbf (.bool true) w):=by
 obtain⟨a1,K,rfl⟩:=m.slice
 obtain⟨a2,L,rfl⟩:=o.slice
 have E:=qb m
 have F:=qb o
 clear m o
 go_enter Tryz.func24,Tryz.ntmps24
 go_wp2_with fail
 go_loopw [5] (fun t wr=>∃(n:Nat),t = .int .i64 (n:Int)∧n≤X.length∧Q w wr) (fun t _=>X.length-(intOf t).toNat)
 case atStart=>exact⟨0,rfl,Nat.zero_le _,Q.refl _⟩
 case round =>
  obtain⟨n,rfl,N,qr⟩:=hrel;by_cases q:n<X.length
  ·obtain⟨x,l⟩:∃x,X[n]? = some x:=⟨_,List.getElem?_eq_getElem q⟩;obtain⟨H,f1,rfl,-,v⟩:=((qa E).new (qr.upd _)).row l;obtain⟨I,f2,rfl,-,y⟩:=((qa F).new (qr.upd _)).row l;have J:(n:Int)<(X.length:Int):=by omega
   have g:=hok x (List.mem_of_getElem? l);have i:=zcy g g true (by simp);simp only[Bool.not_true] at i;clear l g;generalize qk x=C at v y i;go_wp2_with fail;go_region_held3 (fun w'=>zu w' H (f1+n*38) 38=some C.toArray∧zu w' I (f2+n*38) 38=some C.toArray)
    (exact⟨v,y⟩) (fail)
   go_wp2;go_roundw
   case rel=>exact⟨n+1,by go_num,by omega,by first | exact qr.drewN' 1 | exact qr.trans ⟨1,rfl⟩⟩
   case measure=>simp[intOf];omega
  ·obtain rfl:n=X.length:=by omega
   go_wp2
   first | go_ret2 | go_ret
   exact⟨rfl,qr.upd _⟩
end
end Go.Proofs.YthnohmjbbeahmaaGreatDoor
