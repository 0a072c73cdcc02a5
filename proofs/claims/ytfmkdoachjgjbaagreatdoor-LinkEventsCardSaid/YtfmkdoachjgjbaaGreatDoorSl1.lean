/-
  Package seal: Tag; the reference's mixed and Tag.
-/
import Derived.Test.YtfmkdoachjgjbaaGreatDoorMad
import Derived.Lib.BufferWrite
set_option maxRecDepth 100000
set_option maxHeartbeats 4000000
set_option linter.unusedVariables false
set_option linter.unusedSimpArgs false
namespace Go.Proofs.YtfmkdoachjgjbaaGreatDoor
open Go.RowKit
def qhb(key:ByteArray)(x:Int):List Int:=(List.range 64).map fun i=>bits .xor .u8 (bt key i) x
theorem Tryz.infoB64:(Tryz.prog.info? 283).map (·.size)=some 64:=by kernel_rfl
def qge:Array Value:=((List.replicate 64 (0:Int)).map (Value.int .u8)).toArray
def qgg(key:ByteArray):List Int:=(List.range 64).map fun i=>bt key i
def qhc(key:ByteArray)(x:Int)(n:Nat):List Int:=(List.range 64).map fun i=>if i<n then bits .xor .u8 (bt key i) x else bt key i
theorem q1u(key:ByteArray)(x:Int)(n:Nat):(qhc key x n).length=64:=by unfold qhc;simp
theorem qxv(key:ByteArray)(x:Int):qhc key x 0=qgg key:=by unfold qhc qgg;exact List.map_congr_left fun i _=>by simp
theorem q1t(key:ByteArray)(x:Int):qhc key x 64=qhb key x:=by unfold qhc qhb;exact List.map_congr_left fun i f=>by rw[if_pos (List.mem_range.1 f)]
theorem q6m(key:ByteArray)(x:Int)(n:Nat)(h:n<64):(qhc key x n).getD n 0=bt key n:=by
 unfold qhc;rw[List.getD_eq_getElem?_getD,List.getElem?_map,List.getElem?_range h];simp
theorem qxu(key:ByteArray)(x:Int)(n:Nat)(h:n<64):(qhc key x n).set n (bits .xor .u8 (bt key n) x)=qhc key x (n+1):=by
 refine List.ext_getElem? fun i=> ?_
 unfold qhc;rw[List.getElem?_set,List.getElem?_map,List.getElem?_map];by_cases m:n=i
 ·subst m;rw[if_pos rfl,if_pos (by simpa using h),List.getElem?_range h];simp
 ·rw[if_neg m];by_cases q:i<64
  ·rw[List.getElem?_range q];simp only[Option.map_some];by_cases f:i<n
   ·rw[if_pos f,if_pos (by omega)]
   ·rw[if_neg f,if_neg (by omega)]
  ·rw[List.getElem?_eq_none (by simp;omega)];rfl
theorem qfv(key:ByteArray)(x:Int)(K:Nat)(w:World)(H:qgi w K (qgg key))(h0:0≤x)(h1:x≤255) :
  Calls Tryz.prog 187 #[.int .u8 x,.pointer (some ⟨K,0,none⟩)] w (qa7 (.string (strOfNums (qhb key x))) w):=by
 go_enter Tryz.func187,Tryz.ntmps187
 go_upto_region 1 with fail
 refine wp_region_lit ?_
 obtain⟨V,H⟩:=H
 refine wpList_load_row rfl _ _ rfl K rfl V _ _ _ H Tryz.underlying283 rfl (by rw[List.size_toArray,List.length_map];exact Tryz.infoB64) ?_
 refine zj rfl (v:= .pointer (some ⟨w.heap.size,0,none⟩)) (w':=w.alloc (.cells qge 283)) (by kernel_rfl) ?_
 have M:qq w (w.alloc (.cells qge 283)):=(Upd.refl _ _).alloc _
 have m:(w.alloc (.cells qge 283)).heap[w.heap.size]? = some (.cells qge 283 (0,0)):=qj _ _
 generalize w.alloc (.cells qge 283)=w1 at M m ⊢
 have J:(qgg key).length=64:=by simp[qgg]
 refine wpList_store_row rfl _ _ _ rfl w.heap.size ((qgg key).map (Value.int .u8)).toArray rfl rfl 283 _ m (by rw[List.size_toArray,List.length_map,J];exact Tryz.infoB64) (by have W:qge.size=64:=rfl;rw[W];simp[J]) (by simp[Value.oneCell']) ?_
 have I:=setRow_heap w1 w.heap.size _ ((qgg key).map (Value.int .u8)).toArray 283 (0,0) m
 have N:qq w (w1.setRow w.heap.size ((qgg key).map (Value.int .u8)).toArray):=M.setRow (fun h=>by omega) _
 generalize w1.setRow w.heap.size ((qgg key).map (Value.int .u8)).toArray=Y at I N ⊢
 have T:qbg .u8 Y w.heap.size (qgg key):=⟨_,I⟩
 clear I M m H J
 go_wp2_with fail
 go_loopw [5,7] (fun _ L wr=>∃i:Nat,L = .int .i64 (i:Int)∧i≤64∧qbg .u8 wr w.heap.size (qhc key x i)∧qq w wr) (fun _ L _=>64-(intOf L).toNat)
 case atStart=>exact⟨0,rfl,by omega,by rw[qxv];exact T,N⟩
 case round =>
  clear T N;obtain⟨i,rfl,hi,r,R⟩:=hrel;by_cases F:i<64
  ·have O:wr.cell? ⟨w.heap.size,i,none⟩=some (.int .u8 ((qhc key x i).getD i 0)):=r.cell (by rw[q1u];omega);rw[q6m key x i F] at O;have z0:=r.free i;have f:=r.set i (bits .xor .u8 (bt key i) x);rw[qxu key x i F] at f;have S:qq w (wr.setCell ⟨w.heap.size,i,none⟩ (.int .u8 (bits .xor .u8 (bt key i) x))):=R.setCell (fun h=>by simp at h) _;obtain⟨Z,y1⟩:=qfj key i;have z:=qb f;have C:=qb S;clear f S r;have X:(i:Int)<64:=by omega
   generalize bt key i=y at O Z y1 z C;go_wp2;go_roundw
   case rel=>exact⟨i+1,by go_num,by omega,qa z,qa C⟩
   case measure=>simp[intOf];omega
  ·obtain rfl:i=64:=by omega
   rw[show ((64:Nat):Int)=64 from rfl];rw[q1t] at r;have E:qgi wr w.heap.size (qhb key x):=r;have f:=qdj E 64 (by unfold qhb;simp);generalize P:strOfNums (qhb key x)=q at f;have U:=qb P;clear P r E;go_wp2;go_ret;exact⟨by rw[qa U];rfl,R⟩
theorem qk6(key:ByteArray)(x:Int):(qhb key x).length=64:=by simp[qhb]
def qou(key:ByteArray):ByteArray:=if 64<key.size then strOfNums (qen key) else key
theorem q1k(key:ByteArray):(qou key).size≤64:=by
 unfold qou;split
 ·rw[strOfNums_size,qb9];decide
 ·omega
def qp2(key s:ByteArray):List Int:=qen (strOfNums (qhb (qou key) 92)++strOfNums (qen (strOfNums (qhb (qou key) 54)++s)))
def qer:Array Value:=((List.replicate 32 (0:Int)).map (Value.int .u8)).toArray
attribute [local go_sem ↓ high] qi5 qjd
attribute [local go_sem] qxm qyi
theorem qqa{P:Program}{o:Oper}{a:Act}{w:World}(d s:Operand)(t f:TypeId)(m:o.op = .call {callee:= .builtin .copy,args:=#[d,s],argTypes:=#[t,f]})(v u:Value)(hd:a.eval d=v)(r:a.eval s=u){i:Value}{w':World}
  (q:(Builtin.copy_ #[t,f] o.type #[v,u]).run P w = .ok i w'):(execOp a.eval o).run P w = .ok (.value i) w':=by
 unfold execOp
 simp only[m,resolve,invoke,builtin,Sem.run_bind,Sem.run_pure,Result.andThen_ok,List.map_toArray,List.map_cons,List.map_nil,hd,r,q]
theorem qqp(key:ByteArray)(h:key.size≤64):(qge.toList.take 0++Lib.byteCells key.data.toList++qge.toList.drop (0+key.size))=(qgg key).map (Value.int .u8):=by
 have r:qge.toList=List.replicate 64 (Value.int .u8 0):=rfl;have m:key.data.toList.length=key.size:=Array.length_toList;rw[r,List.take_zero,List.nil_append,Nat.zero_add,List.drop_replicate];refine List.ext_getElem? fun i=> ?_
 unfold qgg Lib.byteCells;rw[List.getElem?_map,List.getElem?_map];by_cases q:i<key.size
 ·rw[List.getElem?_append_left (by rw[List.length_map,m];exact q),List.getElem?_map,List.getElem?_range (by omega)];have f:key.data.toList[i]? = some (key.data.toList.getD i 0):=by rw[List.getD_eq_getElem?_getD,List.getElem?_eq_getElem (by omega)];rfl
  rw[f];rfl
 ·rw[List.getElem?_append_right (by rw[List.length_map,m];omega),List.length_map,m,List.getElem?_replicate];by_cases f:i<64
  ·rw[if_pos (by omega),List.getElem?_range f];simp only[Option.map_some,bt];rw[List.getD_eq_getElem?_getD,List.getElem?_eq_none (by omega)];rfl
  ·rw[if_neg (by omega),List.getElem?_eq_none (by simp;omega)];rfl
theorem q9z(key s:ByteArray)(w:World)(hk:key.size≤100000000)(hs:s.size≤100000000)(hT:Tabs w) :
  Calls Tryz.prog 156 #[.string key,.string s] w fun e w'=>e = .returned (.agg ((qp2 key s).map (Value.int .u8)).toArray)∧qq w w':=by
 go_enter Tryz.func156,Tryz.ntmps156
 go_upto_region 0 with fail
 refine wp_region_lit ?_
 refine zj rfl (v:= .pointer (some ⟨w.heap.size,0,none⟩)) (w':=w.alloc (.cells qer 35)) (by kernel_rfl) ?_
 have n0:qq w (w.alloc (.cells qer 35)):=(Upd.refl _ _).alloc _
 have vR:(w.alloc (.cells qer 35)).heap[w.heap.size]? = some (.cells qer 35 (0,0)):=qj _ _
 generalize w.alloc (.cells qer 35)=w1 at n0 vR ⊢
 have f2:w.heap.size<w1.heap.size:=zr vR
 have b8:=q1k key
 have d5:qp2 key s=qen (strOfNums (qhb (qou key) 92)++strOfNums (qen (strOfNums (qhb (qou key) 54)++s))):=rfl
 have d4:=qb d5
 clear d5
 by_cases hc:64<key.size
 ·have e2:qou key=strOfNums (qen key):=by unfold qou;rw[if_pos hc]
  have f1:(64:Int)<(key.size:Int):=by omega
  have d0:=qgq key w1 (by omega) (hT.new n0);have d2:=qb9 key;generalize qen key=sk at e2 d0 d2;have e8:=qb e2;have d3:=qb d0;clear e2 d0;go_upto_region 2 with fail;refine wp_region_lit ?_;refine zj rfl (v:= .string key) (w':=w1) (by kernel_rfl) ?_;refine qdi rfl (f:=164) (args:=#[.string key]) (w':=w1) (by kernel_rfl) ?_;refine(qa d3).mono ?_;rintro e X ⟨rfl,n2⟩;refine⟨_,rfl,?_⟩;refine zj rfl (v:= .pointer (some ⟨X.heap.size,0,none⟩)) (w':=X.alloc (.cells qer 35)) (by kernel_rfl) ?_;have n3:qq X (X.alloc (.cells qer 35)):=(Upd.refl _ _).alloc _;have d1:(X.alloc (.cells qer 35)).heap[X.heap.size]? = some (.cells qer 35 (0,0)):=qj _ _;generalize X.alloc (.cells qer 35)=w3 at n3 d1 ⊢;refine wpList_store_row rfl _ _ _ rfl X.heap.size (sk.map (Value.int .u8)).toArray rfl rfl 35 _ d1 (by rw[List.size_toArray,List.length_map,d2];exact Tryz.infoHash) (by have h9:qer.size=32:=rfl;rw[h9];simp[d2]) (by simp[Value.oneCell']) ?_;have d8:=setRow_heap w3 X.heap.size _ (sk.map (Value.int .u8)).toArray 35 (0,0) d1;have n4:qq X (w3.setRow X.heap.size (sk.map (Value.int .u8)).toArray):=n3.setRow (fun h=>by omega) _;generalize w3.setRow X.heap.size (sk.map (Value.int .u8)).toArray=w4 at d8 n4 ⊢;have h8:qgi w4 X.heap.size sk:=⟨_,d8⟩;have O:=qdj h8 32 d2;have f0:=n2.trans n4;have c7:=qa e8;generalize b7:qou key=E at c7 b8;rw[←c7] at O;have d6:=qb b7;clear n2 n3 d1 d8 n4 h8 d3 e8 c7 b7;obtain⟨wK,rfl⟩:∃wK:World,wK=w4:=⟨_,rfl⟩;have nK:=f0;clear f0;go_upto_region 4 with fail
  refine wp_region_lit ?_;refine zj rfl (v:= .pointer (some ⟨wK.heap.size,0,none⟩)) (w':=wK.alloc (.cells qge 283)) (by kernel_rfl) ?_;have n5:qq wK (wK.alloc (.cells qge 283)):=(Upd.refl _ _).alloc _;have J:(wK.alloc (.cells qge 283)).heap[wK.heap.size]? = some (.cells qge 283 (0,0)):=qj _ _;generalize wK.alloc (.cells qge 283)=w5 at n5 J ⊢;have e6:=nK.size;obtain⟨K,c4⟩:∃K,K=wK.heap.size:=⟨_,rfl⟩;rw[←c4] at J e6 ⊢;have e9:wK.heap.size≤K:=by omega
  clear c4;go_upto_region 5 with fail;refine wp_region_lit ?_;refine zj rfl (v:= .slice (some ⟨K,0,none⟩) 64 64) (w':=w5) (by kernel_rfl) ?_;refine zj rfl (v:= .string E) (w':=w5) (by kernel_rfl) ?_;refine zj rfl (v:=goInt E.size) (w':=w5.setRow K ((qgg E).map (Value.int .u8)).toArray) (qqa (.tmp 16) (.tmp 17) 95 9 rfl _ _ rfl rfl ?_) ?_
  ·have h:=Lib.run_copy_row_string (P:=Tryz.prog) w5 95 9 3 5 K 0 64 64 E qge 283 Tryz.underlying95 (by kernel_rfl) J b8 (by have h9:qge.size=64:=rfl;rw[h9];omega);rw[qqp E b8] at h;exact h
  have a8:=setRow_heap w5 K _ ((qgg E).map (Value.int .u8)).toArray 283 (0,0) J;have n6:qq wK (w5.setRow K ((qgg E).map (Value.int .u8)).toArray):=n5.setRow (fun h=>by omega) _;generalize w5.setRow K ((qgg E).map (Value.int .u8)).toArray=w6 at a8 n6 ⊢;have a7:qgi w6 K (qgg E):=⟨_,a8⟩;have b4:=nK.trans n6;clear n5 J a8;have i:=qb ((qa d4).trans (by rw[qa d6]));have e3:=qfv E 54 K;have e4:(strOfNums (qhb E 54)).size=64:=by rw[strOfNums_size,qk6]
  have e5:(strOfNums (qhb E 92)).size=64:=by rw[strOfNums_size,qk6]
  have Y:=qb (fun W (n:qq w6 W)=>qfv E 54 K W ⟨_,(n.old a7.choose_spec (fun h=>h))⟩ (by decide) (by decide));have Z:=qb (fun W (n:qq w6 W)=>qfv E 92 K W ⟨_,(n.old a7.choose_spec (fun h=>h))⟩ (by decide) (by decide));clear e3;generalize strOfNums (qhb E 54)=q1 at e4 i Y;generalize strOfNums (qhb E 92)=U at e5 i Z;have c8:=fun W h=>qgq (q1++s) W (by rw[ByteArray.size_append];omega) h
  have a6:=qb c8;have L:=qb9 (q1++s);generalize qen (q1++s)=C at a6 L i;have c6:(strOfNums C).size=32:=by rw[strOfNums_size,L]
  clear c8;go_upto_region 7 with fail;refine wp_region_lit ?_;refine zj rfl (v:= .func (.func 187) #[] #[.pointer (some ⟨K,0,none⟩)]) (w':=w6) (by kernel_rfl) ?_;refine qdi rfl (f:=187) (args:=#[.int .u8 54,.pointer (some ⟨K,0,none⟩)]) (w':=w6) (by kernel_rfl) ?_;refine(qa Y _ (Upd.refl _ _)).mono ?_;rintro e w7 ⟨rfl,n7⟩;refine⟨_,rfl,?_⟩;have R:¬9223372036854775807<q1.size+s.size:=by omega
  refine zj rfl (v:= .string s) (w':=w7) (by kernel_rfl) ?_;refine zj rfl (v:= .string (q1++s)) (w':=w7) (by simp only[execOp];go_simp;first | done | omega) ?_;refine qdi rfl (f:=164) (args:=#[.string (q1++s)]) (w':=w7) (by kernel_rfl) ?_;refine(qa a6 _ (hT.new (n0.trans (b4.trans n7)))).mono ?_;rintro e H ⟨rfl,n8⟩;refine⟨_,rfl,?_⟩;refine zj rfl (v:= .pointer (some ⟨H.heap.size,0,none⟩)) (w':=H.alloc (.cells qer 35)) (by kernel_rfl) ?_;have n9:qq H (H.alloc (.cells qer 35)):=(Upd.refl _ _).alloc _;have N:(H.alloc (.cells qer 35)).heap[H.heap.size]? = some (.cells qer 35 (0,0)):=qj _ _;generalize H.alloc (.cells qer 35)=w9 at n9 N ⊢;refine wpList_store_row rfl _ _ _ rfl H.heap.size (C.map (Value.int .u8)).toArray (by kernel_rfl) (by kernel_rfl) 35 _ N (by rw[List.size_toArray,List.length_map,L];exact Tryz.infoHash) (by have h9:qer.size=32:=rfl;rw[h9];simp[L]) (by simp[Value.oneCell']) ?_;have b3:=setRow_heap w9 H.heap.size _ (C.map (Value.int .u8)).toArray 35 (0,0) N;have nz:qq H (w9.setRow H.heap.size (C.map (Value.int .u8)).toArray):=n9.setRow (fun h=>by omega) _;generalize w9.setRow H.heap.size (C.map (Value.int .u8)).toArray=I at b3 nz ⊢;have c3:qgi I H.heap.size C:=⟨_,b3⟩;have b9:=qb (fun W (n:qq I W)=>(⟨_,n.old c3.choose_spec (fun h=>h)⟩:qgi W H.heap.size C));have b5:qq w6 I:=n7.trans (n8.trans nz);have c1:=qb (fun W (n:qq I W)=>qa Z W (b5.trans n));have b6:qq w1 I:=b4.trans b5;have d7:=qb (fun W (n:qq I W)=>(hT.new n0).new (b6.trans n))
  have V:=b6.old vR (fun h=>h);have e7:qbg .u8 I w.heap.size (List.replicate 32 0):=⟨_,V⟩;generalize H.heap.size=G at b9 ⊢;clear R Y a6 Z n9 N b3 nz c3 n7 n8 b4 a7 V b5 n6;generalize S:strOfNums C=z at c6 i;have c0:=qb S;clear S;have c9:=fun W h=>qgq (U++z) W (by rw[ByteArray.size_append];omega) h
  have c2:=qb c9;have M:=qb9 (U++z);generalize qen (U++z)=out at c2 M i;clear c9;go_upto_region 8 with fail;go_simp;refine qlq (by kernel_rfl) [[],[(0,25)],[],[(2,27)],[(1,26),(3,28)],[(4,29)],[(5,30)]] 31 rfl (by kernel_rfl) [(0,25),(1,26),(2,27),(3,28),(4,29),(5,30)] (by kernel_rfl) [6] (by kernel_rfl) [[(0,0)],[(0,0)],[(0,0)],[(0,0)],[(0,0)],[(0,0)],[(0,1)]] (by kernel_rfl)
   (zcf I w.heap.size out) qbt (isV [.func (.func 187) #[] #[.pointer (some ⟨K,0,none⟩)],.string U,.slice (some ⟨G,0,none⟩) 32 32,.string z,.string (U++z),.agg (out.map (Value.int .u8)).toArray,undef])
   (((Upd.refl _ _).drew)) (fun _=>qbt.all _ _) (fun _ _ _ _ _ _ _ _ _ h=>h) ?_ ?_
  ·refine .pure rfl (fun _=>qbt.all _ _) rfl ?_ <| .one rfl ?_ <| .pure rfl (fun _=>qbt.all _ _) rfl ?_ <| .one rfl ?_ <| .pure rfl (fun _=>qbt.all _ _) rfl ?_ <| .one rfl ?_ <| .one rfl ?_ <| .nil
   ·rintro ql w1 _;unfold zm;simp only[qaa];go_simp
    first | exact⟨rfl,rfl⟩ | rfl
   ·rintro ql w1 m ⟨F,-⟩;replace m:qq I w1:=m;replace F:ql 0 = .func (.func 187) #[] #[.pointer (some ⟨K,0,none⟩)]:=F;unfold zm;simp only[qaa];go_simp;refine(qa c1 w1 m).mono ?_;rintro e X ⟨rfl,n2⟩;exact⟨_,rfl,qbt.all _ _,m.trans n2,rfl⟩
   ·rintro ql w1 _;unfold zm;simp only[qaa];go_simp
    first | exact⟨rfl,rfl⟩ | rfl
   ·rintro ql w1 m ⟨F,-⟩;replace m:qq I w1:=m;replace F:ql 2 = .slice (some ⟨G,0,none⟩) 32 32:=F;have O:=qdj (qa b9 w1 m) 32 L;rw[qa c0] at O;unfold zm;simp only[qaa];go_simp;exact⟨qbt.all _ _,m,rfl⟩
   ·rintro ql w1 ⟨F,p1,-⟩;replace F:ql 1 = .string U:=F;replace p1:ql 3 = .string z:=p1;have R:¬9223372036854775807<U.size+z.size:=by omega
    unfold zm;simp only[qaa];go_simp
    first | exact⟨rfl,rfl⟩ | rfl
   ·rintro ql w1 m ⟨F,-⟩;replace m:qq I w1:=m;replace F:ql 4 = .string (U++z):=F;unfold zm;simp only[qaa];go_simp;refine(qa c2 w1 (qa d7 w1 m)).mono ?_;rintro e X ⟨rfl,n2⟩;exact⟨_,rfl,qbt.all _ _,m.trans n2,rfl⟩
   ·rintro ql w1 m ⟨F,-⟩;replace m:qq I w1:=m;replace F:ql 5 = .agg (out.map (Value.int .u8)).toArray:=F;have hI:=e7.upd m (fun h=>h);have O:=hI.stOk (r:=out) (n:=32) (by simp[M]) M;have c5:=qb (hI.setAll (r:=out) (by simp[M]));have u1:=qb ((m.mono (T:=fun k=>k=w.heap.size) (fun _ _ h=>h.elim)).then ((Upd.refl (· = w.heap.size) w1).setCells 0 (out.map (Value.int .u8))) (fun _ _ h=>h));have e0:(out.map (Value.int .u8)).toArray.toList=out.map (Value.int .u8):=rfl;generalize e1:(out.map (Value.int .u8)).toArray=cs at F O e0;generalize d9:out.map (Value.int .u8)=cl at e0 c5 u1;clear e1 d9 hI;unfold zm;simp only[qaa];go_simp;exact⟨qbt.all _ _,⟨qa u1,qa c5⟩,rfl⟩
  ·intro ql w1 m hv;clear hv;replace m:Upd (fun k=>k=w.heap.size) I w1∧qbg .u8 w1 w.heap.size out:=m;obtain⟨u1,T1,hI⟩:=m;simp only[qaa];have nE:=(n0.trans b6).then u1 (by intro q hq h;omega);go_wp2_with fail;refine bodyPost_ret (results_cell_row rfl _ _ w.heap.size T1 _ _ _ rfl hI Tryz.underlying35 rfl (by rw[List.size_toArray,List.length_map,M];exact Tryz.infoHash)) rfl ?_;exact⟨by rw[qa i],nE⟩
 ·have f1:¬(64:Int)<(key.size:Int):=by omega
  have b7:qou key=key:=by unfold qou;rw[if_neg hc]
  have d6:=qb b7;rw[b7] at b8;clear b7;obtain⟨E,rfl⟩:∃E:ByteArray,E=key:=⟨_,rfl⟩;have nK:qq w1 w1:=Upd.refl _ _;go_upto_region 4 with fail;refine wp_region_lit ?_;refine zj rfl (v:= .pointer (some ⟨w1.heap.size,0,none⟩)) (w':=w1.alloc (.cells qge 283)) (by kernel_rfl) ?_;have n5:qq w1 (w1.alloc (.cells qge 283)):=(Upd.refl _ _).alloc _;have J:(w1.alloc (.cells qge 283)).heap[w1.heap.size]? = some (.cells qge 283 (0,0)):=qj _ _;generalize w1.alloc (.cells qge 283)=w5 at n5 J ⊢;have e6:=nK.size;obtain⟨K,c4⟩:∃K,K=w1.heap.size:=⟨_,rfl⟩;rw[←c4] at J e6 ⊢;have e9:w1.heap.size≤K:=by omega
  clear c4;go_upto_region 5 with fail;refine wp_region_lit ?_;refine zj rfl (v:= .slice (some ⟨K,0,none⟩) 64 64) (w':=w5) (by kernel_rfl) ?_;refine zj rfl (v:= .string E) (w':=w5) (by kernel_rfl) ?_;refine zj rfl (v:=goInt E.size) (w':=w5.setRow K ((qgg E).map (Value.int .u8)).toArray) (qqa (.tmp 16) (.tmp 17) 95 9 rfl _ _ rfl rfl ?_) ?_
  ·have h:=Lib.run_copy_row_string (P:=Tryz.prog) w5 95 9 3 5 K 0 64 64 E qge 283 Tryz.underlying95 (by kernel_rfl) J b8 (by have h9:qge.size=64:=rfl;rw[h9];omega);rw[qqp E b8] at h;exact h
  have a8:=setRow_heap w5 K _ ((qgg E).map (Value.int .u8)).toArray 283 (0,0) J;have n6:qq w1 (w5.setRow K ((qgg E).map (Value.int .u8)).toArray):=n5.setRow (fun h=>by omega) _;generalize w5.setRow K ((qgg E).map (Value.int .u8)).toArray=w6 at a8 n6 ⊢;have a7:qgi w6 K (qgg E):=⟨_,a8⟩;have b4:=nK.trans n6;clear n5 J a8;have i:=qb ((qa d4).trans (by rw[qa d6]));have e3:=qfv E 54 K;have e4:(strOfNums (qhb E 54)).size=64:=by rw[strOfNums_size,qk6]
  have e5:(strOfNums (qhb E 92)).size=64:=by rw[strOfNums_size,qk6]
  have Y:=qb (fun W (n:qq w6 W)=>qfv E 54 K W ⟨_,(n.old a7.choose_spec (fun h=>h))⟩ (by decide) (by decide));have Z:=qb (fun W (n:qq w6 W)=>qfv E 92 K W ⟨_,(n.old a7.choose_spec (fun h=>h))⟩ (by decide) (by decide));clear e3;generalize strOfNums (qhb E 54)=q1 at e4 i Y;generalize strOfNums (qhb E 92)=U at e5 i Z;have c8:=fun W h=>qgq (q1++s) W (by rw[ByteArray.size_append];omega) h
  have a6:=qb c8;have L:=qb9 (q1++s);generalize qen (q1++s)=C at a6 L i;have c6:(strOfNums C).size=32:=by rw[strOfNums_size,L]
  clear c8;go_upto_region 7 with fail;refine wp_region_lit ?_;refine zj rfl (v:= .func (.func 187) #[] #[.pointer (some ⟨K,0,none⟩)]) (w':=w6) (by kernel_rfl) ?_;refine qdi rfl (f:=187) (args:=#[.int .u8 54,.pointer (some ⟨K,0,none⟩)]) (w':=w6) (by kernel_rfl) ?_;refine(qa Y _ (Upd.refl _ _)).mono ?_;rintro e w7 ⟨rfl,n7⟩;refine⟨_,rfl,?_⟩;have R:¬9223372036854775807<q1.size+s.size:=by omega
  refine zj rfl (v:= .string s) (w':=w7) (by kernel_rfl) ?_;refine zj rfl (v:= .string (q1++s)) (w':=w7) (by simp only[execOp];go_simp;first | done | omega) ?_;refine qdi rfl (f:=164) (args:=#[.string (q1++s)]) (w':=w7) (by kernel_rfl) ?_;refine(qa a6 _ (hT.new (n0.trans (b4.trans n7)))).mono ?_;rintro e H ⟨rfl,n8⟩;refine⟨_,rfl,?_⟩;refine zj rfl (v:= .pointer (some ⟨H.heap.size,0,none⟩)) (w':=H.alloc (.cells qer 35)) (by kernel_rfl) ?_;have n9:qq H (H.alloc (.cells qer 35)):=(Upd.refl _ _).alloc _;have N:(H.alloc (.cells qer 35)).heap[H.heap.size]? = some (.cells qer 35 (0,0)):=qj _ _;generalize H.alloc (.cells qer 35)=w9 at n9 N ⊢;refine wpList_store_row rfl _ _ _ rfl H.heap.size (C.map (Value.int .u8)).toArray (by kernel_rfl) (by kernel_rfl) 35 _ N (by rw[List.size_toArray,List.length_map,L];exact Tryz.infoHash) (by have h9:qer.size=32:=rfl;rw[h9];simp[L]) (by simp[Value.oneCell']) ?_;have b3:=setRow_heap w9 H.heap.size _ (C.map (Value.int .u8)).toArray 35 (0,0) N;have nz:qq H (w9.setRow H.heap.size (C.map (Value.int .u8)).toArray):=n9.setRow (fun h=>by omega) _;generalize w9.setRow H.heap.size (C.map (Value.int .u8)).toArray=I at b3 nz ⊢;have c3:qgi I H.heap.size C:=⟨_,b3⟩;have b9:=qb (fun W (n:qq I W)=>(⟨_,n.old c3.choose_spec (fun h=>h)⟩:qgi W H.heap.size C));have b5:qq w6 I:=n7.trans (n8.trans nz);have c1:=qb (fun W (n:qq I W)=>qa Z W (b5.trans n));have b6:qq w1 I:=b4.trans b5;have d7:=qb (fun W (n:qq I W)=>(hT.new n0).new (b6.trans n))
  have V:=b6.old vR (fun h=>h);have e7:qbg .u8 I w.heap.size (List.replicate 32 0):=⟨_,V⟩;generalize H.heap.size=G at b9 ⊢;clear R Y a6 Z n9 N b3 nz c3 n7 n8 b4 a7 V b5 n6;generalize S:strOfNums C=z at c6 i;have c0:=qb S;clear S;have c9:=fun W h=>qgq (U++z) W (by rw[ByteArray.size_append];omega) h
  have c2:=qb c9;have M:=qb9 (U++z);generalize qen (U++z)=out at c2 M i;clear c9;go_upto_region 8 with fail;go_simp;refine qlq (by kernel_rfl) [[],[(0,25)],[],[(2,27)],[(1,26),(3,28)],[(4,29)],[(5,30)]] 31 rfl (by kernel_rfl) [(0,25),(1,26),(2,27),(3,28),(4,29),(5,30)] (by kernel_rfl) [6] (by kernel_rfl) [[(0,0)],[(0,0)],[(0,0)],[(0,0)],[(0,0)],[(0,0)],[(0,1)]] (by kernel_rfl)
   (zcf I w.heap.size out) qbt (isV [.func (.func 187) #[] #[.pointer (some ⟨K,0,none⟩)],.string U,.slice (some ⟨G,0,none⟩) 32 32,.string z,.string (U++z),.agg (out.map (Value.int .u8)).toArray,undef])
   (((Upd.refl _ _).drew)) (fun _=>qbt.all _ _) (fun _ _ _ _ _ _ _ _ _ h=>h) ?_ ?_
  ·refine .pure rfl (fun _=>qbt.all _ _) rfl ?_ <| .one rfl ?_ <| .pure rfl (fun _=>qbt.all _ _) rfl ?_ <| .one rfl ?_ <| .pure rfl (fun _=>qbt.all _ _) rfl ?_ <| .one rfl ?_ <| .one rfl ?_ <| .nil
   ·rintro ql w1 _;unfold zm;simp only[qaa];go_simp
    first | exact⟨rfl,rfl⟩ | rfl
   ·rintro ql w1 m ⟨F,-⟩;replace m:qq I w1:=m;replace F:ql 0 = .func (.func 187) #[] #[.pointer (some ⟨K,0,none⟩)]:=F;unfold zm;simp only[qaa];go_simp;refine(qa c1 w1 m).mono ?_;rintro e X ⟨rfl,n2⟩;exact⟨_,rfl,qbt.all _ _,m.trans n2,rfl⟩
   ·rintro ql w1 _;unfold zm;simp only[qaa];go_simp
    first | exact⟨rfl,rfl⟩ | rfl
   ·rintro ql w1 m ⟨F,-⟩;replace m:qq I w1:=m;replace F:ql 2 = .slice (some ⟨G,0,none⟩) 32 32:=F;have O:=qdj (qa b9 w1 m) 32 L;rw[qa c0] at O;unfold zm;simp only[qaa];go_simp;exact⟨qbt.all _ _,m,rfl⟩
   ·rintro ql w1 ⟨F,p1,-⟩;replace F:ql 1 = .string U:=F;replace p1:ql 3 = .string z:=p1;have R:¬9223372036854775807<U.size+z.size:=by omega
    unfold zm;simp only[qaa];go_simp
    first | exact⟨rfl,rfl⟩ | rfl
   ·rintro ql w1 m ⟨F,-⟩;replace m:qq I w1:=m;replace F:ql 4 = .string (U++z):=F;unfold zm;simp only[qaa];go_simp;refine(qa c2 w1 (qa d7 w1 m)).mono ?_;rintro e X ⟨rfl,n2⟩;exact⟨_,rfl,qbt.all _ _,m.trans n2,rfl⟩
   ·rintro ql w1 m ⟨F,-⟩;replace m:qq I w1:=m;replace F:ql 5 = .agg (out.map (Value.int .u8)).toArray:=F;have hI:=e7.upd m (fun h=>h);have O:=hI.stOk (r:=out) (n:=32) (by simp[M]) M;have c5:=qb (hI.setAll (r:=out) (by simp[M]));have u1:=qb ((m.mono (T:=fun k=>k=w.heap.size) (fun _ _ h=>h.elim)).then ((Upd.refl (· = w.heap.size) w1).setCells 0 (out.map (Value.int .u8))) (fun _ _ h=>h));have e0:(out.map (Value.int .u8)).toArray.toList=out.map (Value.int .u8):=rfl;generalize e1:(out.map (Value.int .u8)).toArray=cs at F O e0;generalize d9:out.map (Value.int .u8)=cl at e0 c5 u1;clear e1 d9 hI;unfold zm;simp only[qaa];go_simp;exact⟨qbt.all _ _,⟨qa u1,qa c5⟩,rfl⟩
  ·intro ql w1 m hv;clear hv;replace m:Upd (fun k=>k=w.heap.size) I w1∧qbg .u8 w1 w.heap.size out:=m;obtain⟨u1,T1,hI⟩:=m;simp only[qaa];have nE:=(n0.trans b6).then u1 (by intro q hq h;omega);go_wp2_with fail;refine bodyPost_ret (results_cell_row rfl _ _ w.heap.size T1 _ _ _ rfl hI Tryz.underlying35 rfl (by rw[List.size_toArray,List.length_map,M];exact Tryz.infoHash)) rfl ?_;exact⟨by rw[qa i],nE⟩
end Go.Proofs.YtfmkdoachjgjbaaGreatDoor
