/-
  Package seal: Tag; the reference's mixed and Tag.
-/
import Derived.Test.YtfmkdoachjgjbaaGreatDoorMad
import Derived.Lib.BufferWrite
set_option linter.unusedVariables false
set_option linter.unusedSimpArgs false
namespace Go.Proofs.YtfmkdoachjgjbaaGreatDoor
open Go.RowKit
def qg0(key:ByteArray)(x:Int):List Int:=(List.range 64).map fun i=>bits .xor .u8 (bt key i) x
theorem Tryz.infoB64:(Tryz.prog.info? 283).map (·.size)=some 64:=by kernel_rfl
def qf5:Array Value:=((List.replicate 64 (0:Int)).map (Value.int .u8)).toArray
def qf6(key:ByteArray):List Int:=(List.range 64).map fun i=>bt key i
def qg1(key:ByteArray)(x:Int)(n:Nat):List Int:=(List.range 64).map fun i=>if i<n then bits .xor .u8 (bt key i) x else bt key i
theorem q1i(key:ByteArray)(x:Int)(n:Nat):(qg1 key x n).length=64:=by unfold qg1;simp
theorem qxi(key:ByteArray)(x:Int):qg1 key x 0=qf6 key:=by unfold qg1 qf6;exact List.map_congr_left fun i _=>by simp
theorem q1h(key:ByteArray)(x:Int):qg1 key x 64=qg0 key x:=by unfold qg1 qg0;exact List.map_congr_left fun i f=>by rw[if_pos (List.mem_range.1 f)]
theorem q6b(key:ByteArray)(x:Int)(n:Nat)(h:n<64):(qg1 key x n).getD n 0=bt key n:=by
 unfold qg1;rw[List.getD_eq_getElem?_getD,List.getElem?_map,List.getElem?_range h];simp
theorem qxh(key:ByteArray)(x:Int)(n:Nat)(h:n<64):(qg1 key x n).set n (bits .xor .u8 (bt key n) x)=qg1 key x (n+1):=by
 refine List.ext_getElem? fun i=> ?_
 unfold qg1;rw[List.getElem?_set,List.getElem?_map,List.getElem?_map];by_cases m:n=i
 ·subst m;rw[if_pos rfl,if_pos (by simpa using h),List.getElem?_range h];simp
 ·rw[if_neg m];by_cases q:i<64
  ·rw[List.getElem?_range q];simp only[Option.map_some];by_cases f:i<n
   ·rw[if_pos f,if_pos (by omega)]
   ·rw[if_neg f,if_neg (by omega)]
  ·rw[List.getElem?_eq_none (by simp;omega)];rfl
set_option maxRecDepth 100000 in
set_option maxHeartbeats 1000000 in
theorem qfl(key:ByteArray)(x:Int)(K:Nat)(w:World)(I:qf8 w K (qf6 key))(h0:0≤x)(h1:x≤255) :
  Calls Tryz.prog 187 #[.int .u8 x,.pointer (some ⟨K,0,none⟩)] w (qa5 (.string (strOfNums (qg0 key x))) w):=by
 go_enter Tryz.func187,Tryz.ntmps187
 go_upto_region 1 with fail
 refine wp_region_lit ?_
 obtain⟨W,I⟩:=I
 refine wpList_load_row rfl _ _ rfl K rfl W _ _ _ I Tryz.underlying283 rfl (by rw[List.size_toArray,List.length_map];exact Tryz.infoB64) ?_
 refine zi rfl (v:= .pointer (some ⟨w.heap.size,0,none⟩)) (w':=w.alloc (.cells qf5 283)) (by kernel_rfl) ?_
 have N:qq w (w.alloc (.cells qf5 283)):=(Upd.refl _ _).alloc _
 have m:(w.alloc (.cells qf5 283)).heap[w.heap.size]? = some (.cells qf5 283 (0,0)):=qj _ _
 generalize w.alloc (.cells qf5 283)=w1 at N m ⊢
 have L:(qf6 key).length=64:=by simp[qf6]
 refine wpList_store_row rfl _ _ _ rfl w.heap.size ((qf6 key).map (Value.int .u8)).toArray rfl rfl 283 _ m (by rw[List.size_toArray,List.length_map,L];exact Tryz.infoB64) (by have X:qf5.size=64:=rfl;rw[X];simp[L]) (by simp[Value.oneCell']) ?_
 have J:=setRow_heap w1 w.heap.size _ ((qf6 key).map (Value.int .u8)).toArray 283 (0,0) m
 have O:qq w (w1.setRow w.heap.size ((qf6 key).map (Value.int .u8)).toArray):=N.setRow (fun h=>by omega) _
 generalize w1.setRow w.heap.size ((qf6 key).map (Value.int .u8)).toArray=Z at J O ⊢
 have U:qbd .u8 Z w.heap.size (qf6 key):=⟨_,J⟩
 clear J N m I L
 go_wp2_with fail
 go_loopw [5,7] (fun _ M wr=>∃i:Nat,M = .int .i64 (i:Int)∧i≤64∧qbd .u8 wr w.heap.size (qg1 key x i)∧qq w wr) (fun _ M _=>64-(intOf M).toNat)
 case atStart=>exact⟨0,rfl,by omega,by rw[qxi];exact U,O⟩
 case round =>
  clear U O;obtain⟨i,rfl,hi,z,S⟩:=hrel;by_cases H:i<64
  ·have P:wr.cell? ⟨w.heap.size,i,none⟩=some (.int .u8 ((qg1 key x i).getD i 0)):=z.cell (by rw[q1i];omega);rw[q6b key x i H] at P;have z0:=z.free i;have f:=z.set i (bits .xor .u8 (bt key i) x);rw[qxh key x i H] at f;have T:qq w (wr.setCell ⟨w.heap.size,i,none⟩ (.int .u8 (bits .xor .u8 (bt key i) x))):=S.setCell (fun h=>by simp at h) _;obtain⟨y0,y1⟩:=qe9 key i;have C:=qb f;have E:=qb T;clear f T z;have Y:(i:Int)<64:=by omega
   generalize bt key i=y at P y0 y1 C E;go_wp2;go_roundw
   case rel=>exact⟨i+1,by go_num,by omega,qa C,qa E⟩
   case measure=>simp[intOf];omega
  ·obtain rfl:i=64:=by omega
   rw[show ((64:Nat):Int)=64 from rfl];rw[q1h] at z;have F:qf8 wr w.heap.size (qg0 key x):=z;have f:=qde F 64 (by unfold qg0;simp);generalize R:strOfNums (qg0 key x)=q at f;have V:=qb R;clear R z F;go_wp2;go_ret;exact⟨by rw[qa V];rfl,S⟩
theorem qk3(key:ByteArray)(x:Int):(qg0 key x).length=64:=by simp[qg0]
def qom(key:ByteArray):ByteArray:=if 64<key.size then strOfNums (qef key) else key
theorem q08(key:ByteArray):(qom key).size≤64:=by
 unfold qom;split
 ·rw[strOfNums_size,qb5];decide
 ·omega
def qpv(key s:ByteArray):List Int:=qef (strOfNums (qg0 (qom key) 92)++strOfNums (qef (strOfNums (qg0 (qom key) 54)++s)))
def qej:Array Value:=((List.replicate 32 (0:Int)).map (Value.int .u8)).toArray
attribute [local go_sem ↓ high] qiv qi3
attribute [local go_sem] qw9 qx4
theorem qp3{P:Program}{o:Oper}{a:Act}{w:World}(d s:Operand)(t f:TypeId)(m:o.op = .call {callee:= .builtin .copy,args:=#[d,s],argTypes:=#[t,f]})(v u:Value)(hd:a.eval d=v)(z:a.eval s=u){i:Value}{w':World}
  (q:(Builtin.copy_ #[t,f] o.type #[v,u]).run P w = .ok i w'):(execOp a.eval o).run P w = .ok (.value i) w':=by
 unfold execOp
 simp only[m,resolve,invoke,builtin,Sem.run_bind,Sem.run_pure,Result.andThen_ok,List.map_toArray,List.map_cons,List.map_nil,hd,z,q]
theorem qqi(key:ByteArray)(h:key.size≤64):(qf5.toList.take 0++Lib.byteCells key.data.toList++qf5.toList.drop (0+key.size))=(qf6 key).map (Value.int .u8):=by
 have v:qf5.toList=List.replicate 64 (Value.int .u8 0):=rfl;have m:key.data.toList.length=key.size:=Array.length_toList;rw[v,List.take_zero,List.nil_append,Nat.zero_add,List.drop_replicate];refine List.ext_getElem? fun i=> ?_
 unfold qf6 Lib.byteCells;rw[List.getElem?_map,List.getElem?_map];by_cases q:i<key.size
 ·rw[List.getElem?_append_left (by rw[List.length_map,m];exact q),List.getElem?_map,List.getElem?_range (by omega)];have f:key.data.toList[i]? = some (key.data.toList.getD i 0):=by rw[List.getD_eq_getElem?_getD,List.getElem?_eq_getElem (by omega)];rfl
  rw[f];rfl
 ·rw[List.getElem?_append_right (by rw[List.length_map,m];omega),List.length_map,m,List.getElem?_replicate];by_cases f:i<64
  ·rw[if_pos (by omega),List.getElem?_range f];simp only[Option.map_some,bt];rw[List.getD_eq_getElem?_getD,List.getElem?_eq_none (by omega)];rfl
  ·rw[if_neg (by omega),List.getElem?_eq_none (by simp;omega)];rfl
set_option maxRecDepth 100000 in
set_option maxHeartbeats 4000000 in
theorem q9p(key s:ByteArray)(w:World)(hk:key.size≤100000000)(hs:s.size≤100000000)(hT:Tabs w) :
  Calls Tryz.prog 156 #[.string key,.string s] w fun e w'=>e = .returned (.agg ((qpv key s).map (Value.int .u8)).toArray)∧qq w w':=by
 go_enter Tryz.func156,Tryz.ntmps156
 go_upto_region 0 with fail
 refine wp_region_lit ?_
 refine zi rfl (v:= .pointer (some ⟨w.heap.size,0,none⟩)) (w':=w.alloc (.cells qej 35)) (by kernel_rfl) ?_
 have n0:qq w (w.alloc (.cells qej 35)):=(Upd.refl _ _).alloc _
 have vR:(w.alloc (.cells qej 35)).heap[w.heap.size]? = some (.cells qej 35 (0,0)):=qj _ _
 generalize w.alloc (.cells qej 35)=w1 at n0 vR ⊢
 have f2:w.heap.size<w1.heap.size:=zr vR
 have b8:=q08 key
 have d5:qpv key s=qef (strOfNums (qg0 (qom key) 92)++strOfNums (qef (strOfNums (qg0 (qom key) 54)++s))):=rfl
 have d4:=qb d5
 clear d5
 by_cases hc:64<key.size
 ·have e2:qom key=strOfNums (qef key):=by unfold qom;rw[if_pos hc]
  have f1:(64:Int)<(key.size:Int):=by omega
  have d0:=qgg key w1 (by omega) (hT.new n0);have d2:=qb5 key;generalize qef key=sk at e2 d0 d2;have e8:=qb e2;have d3:=qb d0;clear e2 d0;go_upto_region 2 with fail;refine wp_region_lit ?_;refine zi rfl (v:= .string key) (w':=w1) (by kernel_rfl) ?_;refine qdb rfl (f:=164) (args:=#[.string key]) (w':=w1) (by kernel_rfl) ?_;refine(qa d3).mono ?_;rintro e X ⟨rfl,n2⟩;refine⟨_,rfl,?_⟩;refine zi rfl (v:= .pointer (some ⟨X.heap.size,0,none⟩)) (w':=X.alloc (.cells qej 35)) (by kernel_rfl) ?_;have n3:qq X (X.alloc (.cells qej 35)):=(Upd.refl _ _).alloc _;have d1:(X.alloc (.cells qej 35)).heap[X.heap.size]? = some (.cells qej 35 (0,0)):=qj _ _;generalize X.alloc (.cells qej 35)=w3 at n3 d1 ⊢;refine wpList_store_row rfl _ _ _ rfl X.heap.size (sk.map (Value.int .u8)).toArray rfl rfl 35 _ d1 (by rw[List.size_toArray,List.length_map,d2];exact Tryz.infoHash) (by have h9:qej.size=32:=rfl;rw[h9];simp[d2]) (by simp[Value.oneCell']) ?_;have d8:=setRow_heap w3 X.heap.size _ (sk.map (Value.int .u8)).toArray 35 (0,0) d1;have n4:qq X (w3.setRow X.heap.size (sk.map (Value.int .u8)).toArray):=n3.setRow (fun h=>by omega) _;generalize w3.setRow X.heap.size (sk.map (Value.int .u8)).toArray=w4 at d8 n4 ⊢;have h8:qf8 w4 X.heap.size sk:=⟨_,d8⟩;have O:=qde h8 32 d2;have f0:=n2.trans n4;have c7:=qa e8;generalize b7:qom key=E at c7 b8;rw[←c7] at O;have d6:=qb b7;clear n2 n3 d1 d8 n4 h8 d3 e8 c7 b7;obtain⟨wK,rfl⟩:∃wK:World,wK=w4:=⟨_,rfl⟩;have nK:=f0;clear f0;go_upto_region 4 with fail
  refine wp_region_lit ?_;refine zi rfl (v:= .pointer (some ⟨wK.heap.size,0,none⟩)) (w':=wK.alloc (.cells qf5 283)) (by kernel_rfl) ?_;have n5:qq wK (wK.alloc (.cells qf5 283)):=(Upd.refl _ _).alloc _;have J:(wK.alloc (.cells qf5 283)).heap[wK.heap.size]? = some (.cells qf5 283 (0,0)):=qj _ _;generalize wK.alloc (.cells qf5 283)=w5 at n5 J ⊢;have e6:=nK.size;obtain⟨K,c4⟩:∃K,K=wK.heap.size:=⟨_,rfl⟩;rw[←c4] at J e6 ⊢;have e9:wK.heap.size≤K:=by omega
  clear c4;go_upto_region 5 with fail;refine wp_region_lit ?_;refine zi rfl (v:= .slice (some ⟨K,0,none⟩) 64 64) (w':=w5) (by kernel_rfl) ?_;refine zi rfl (v:= .string E) (w':=w5) (by kernel_rfl) ?_;refine zi rfl (v:=goInt E.size) (w':=w5.setRow K ((qf6 E).map (Value.int .u8)).toArray) (qp3 (.tmp 16) (.tmp 17) 95 9 rfl _ _ rfl rfl ?_) ?_
  ·have h:=Lib.run_copy_row_string (P:=Tryz.prog) w5 95 9 3 5 K 0 64 64 E qf5 283 Tryz.underlying95 (by kernel_rfl) J b8 (by have h9:qf5.size=64:=rfl;rw[h9];omega);rw[qqi E b8] at h;exact h
  have a8:=setRow_heap w5 K _ ((qf6 E).map (Value.int .u8)).toArray 283 (0,0) J;have n6:qq wK (w5.setRow K ((qf6 E).map (Value.int .u8)).toArray):=n5.setRow (fun h=>by omega) _;generalize w5.setRow K ((qf6 E).map (Value.int .u8)).toArray=w6 at a8 n6 ⊢;have a7:qf8 w6 K (qf6 E):=⟨_,a8⟩;have b4:=nK.trans n6;clear n5 J a8;have i:=qb ((qa d4).trans (by rw[qa d6]));have e3:=qfl E 54 K;have e4:(strOfNums (qg0 E 54)).size=64:=by rw[strOfNums_size,qk3]
  have e5:(strOfNums (qg0 E 92)).size=64:=by rw[strOfNums_size,qk3]
  have Y:=qb (fun W (n:qq w6 W)=>qfl E 54 K W ⟨_,(n.old a7.choose_spec (fun h=>h))⟩ (by decide) (by decide));have Z:=qb (fun W (n:qq w6 W)=>qfl E 92 K W ⟨_,(n.old a7.choose_spec (fun h=>h))⟩ (by decide) (by decide));clear e3;generalize strOfNums (qg0 E 54)=q1 at e4 i Y;generalize strOfNums (qg0 E 92)=U at e5 i Z;have c8:=fun W h=>qgg (q1++s) W (by rw[ByteArray.size_append];omega) h
  have a6:=qb c8;have L:=qb5 (q1++s);generalize qef (q1++s)=C at a6 L i;have c6:(strOfNums C).size=32:=by rw[strOfNums_size,L]
  clear c8;go_upto_region 7 with fail;refine wp_region_lit ?_;refine zi rfl (v:= .func (.func 187) #[] #[.pointer (some ⟨K,0,none⟩)]) (w':=w6) (by kernel_rfl) ?_;refine qdb rfl (f:=187) (args:=#[.int .u8 54,.pointer (some ⟨K,0,none⟩)]) (w':=w6) (by kernel_rfl) ?_;refine(qa Y _ (Upd.refl _ _)).mono ?_;rintro e w7 ⟨rfl,n7⟩;refine⟨_,rfl,?_⟩;have R:¬9223372036854775807<q1.size+s.size:=by omega
  refine zi rfl (v:= .string s) (w':=w7) (by kernel_rfl) ?_;refine zi rfl (v:= .string (q1++s)) (w':=w7) (by simp only[execOp];go_simp;first | done | omega) ?_;refine qdb rfl (f:=164) (args:=#[.string (q1++s)]) (w':=w7) (by kernel_rfl) ?_;refine(qa a6 _ (hT.new (n0.trans (b4.trans n7)))).mono ?_;rintro e H ⟨rfl,n8⟩;refine⟨_,rfl,?_⟩;refine zi rfl (v:= .pointer (some ⟨H.heap.size,0,none⟩)) (w':=H.alloc (.cells qej 35)) (by kernel_rfl) ?_;have n9:qq H (H.alloc (.cells qej 35)):=(Upd.refl _ _).alloc _;have N:(H.alloc (.cells qej 35)).heap[H.heap.size]? = some (.cells qej 35 (0,0)):=qj _ _;generalize H.alloc (.cells qej 35)=w9 at n9 N ⊢;refine wpList_store_row rfl _ _ _ rfl H.heap.size (C.map (Value.int .u8)).toArray (by kernel_rfl) (by kernel_rfl) 35 _ N (by rw[List.size_toArray,List.length_map,L];exact Tryz.infoHash) (by have h9:qej.size=32:=rfl;rw[h9];simp[L]) (by simp[Value.oneCell']) ?_;have b3:=setRow_heap w9 H.heap.size _ (C.map (Value.int .u8)).toArray 35 (0,0) N;have nz:qq H (w9.setRow H.heap.size (C.map (Value.int .u8)).toArray):=n9.setRow (fun h=>by omega) _;generalize w9.setRow H.heap.size (C.map (Value.int .u8)).toArray=I at b3 nz ⊢;have c3:qf8 I H.heap.size C:=⟨_,b3⟩;have b9:=qb (fun W (n:qq I W)=>(⟨_,n.old c3.choose_spec (fun h=>h)⟩:qf8 W H.heap.size C));have b5:qq w6 I:=n7.trans (n8.trans nz);have c1:=qb (fun W (n:qq I W)=>qa Z W (b5.trans n));have b6:qq w1 I:=b4.trans b5;have d7:=qb (fun W (n:qq I W)=>(hT.new n0).new (b6.trans n))
  have V:=b6.old vR (fun h=>h);have e7:qbd .u8 I w.heap.size (List.replicate 32 0):=⟨_,V⟩;generalize H.heap.size=G at b9 ⊢;clear R Y a6 Z n9 N b3 nz c3 n7 n8 b4 a7 V b5 n6;generalize S:strOfNums C=z at c6 i;have c0:=qb S;clear S;have c9:=fun W h=>qgg (U++z) W (by rw[ByteArray.size_append];omega) h
  have c2:=qb c9;have M:=qb5 (U++z);generalize qef (U++z)=out at c2 M i;clear c9;go_upto_region 8 with fail;go_simp;refine qlp (by kernel_rfl) [[],[(0,25)],[],[(2,27)],[(1,26),(3,28)],[(4,29)],[(5,30)]] 31 rfl (by kernel_rfl) [(0,25),(1,26),(2,27),(3,28),(4,29),(5,30)] (by kernel_rfl) [6] (by kernel_rfl) [[(0,0)],[(0,0)],[(0,0)],[(0,0)],[(0,0)],[(0,0)],[(0,1)]] (by kernel_rfl)
   (zb5 I w.heap.size out) qbq (isV [.func (.func 187) #[] #[.pointer (some ⟨K,0,none⟩)],.string U,.slice (some ⟨G,0,none⟩) 32 32,.string z,.string (U++z),.agg (out.map (Value.int .u8)).toArray,undef])
   (((Upd.refl _ _).drew)) (fun _=>qbq.all _ _) (fun _ _ _ _ _ _ _ _ _ h=>h) ?_ ?_
  ·refine .pure rfl (fun _=>qbq.all _ _) rfl ?_ <| .one rfl ?_ <| .pure rfl (fun _=>qbq.all _ _) rfl ?_ <| .one rfl ?_ <| .pure rfl (fun _=>qbq.all _ _) rfl ?_ <| .one rfl ?_ <| .one rfl ?_ <| .nil
   ·rintro ql w1 _;unfold zm;simp only[putL];go_simp
    first | exact⟨rfl,rfl⟩ | rfl
   ·rintro ql w1 m ⟨F,-⟩;replace m:qq I w1:=m;replace F:ql 0 = .func (.func 187) #[] #[.pointer (some ⟨K,0,none⟩)]:=F;unfold zm;simp only[putL];go_simp;refine(qa c1 w1 m).mono ?_;rintro e X ⟨rfl,n2⟩;exact⟨_,rfl,qbq.all _ _,m.trans n2,rfl⟩
   ·rintro ql w1 _;unfold zm;simp only[putL];go_simp
    first | exact⟨rfl,rfl⟩ | rfl
   ·rintro ql w1 m ⟨F,-⟩;replace m:qq I w1:=m;replace F:ql 2 = .slice (some ⟨G,0,none⟩) 32 32:=F;have O:=qde (qa b9 w1 m) 32 L;rw[qa c0] at O;unfold zm;simp only[putL];go_simp;exact⟨qbq.all _ _,m,rfl⟩
   ·rintro ql w1 ⟨F,p1,-⟩;replace F:ql 1 = .string U:=F;replace p1:ql 3 = .string z:=p1;have R:¬9223372036854775807<U.size+z.size:=by omega
    unfold zm;simp only[putL];go_simp
    first | exact⟨rfl,rfl⟩ | rfl
   ·rintro ql w1 m ⟨F,-⟩;replace m:qq I w1:=m;replace F:ql 4 = .string (U++z):=F;unfold zm;simp only[putL];go_simp;refine(qa c2 w1 (qa d7 w1 m)).mono ?_;rintro e X ⟨rfl,n2⟩;exact⟨_,rfl,qbq.all _ _,m.trans n2,rfl⟩
   ·rintro ql w1 m ⟨F,-⟩;replace m:qq I w1:=m;replace F:ql 5 = .agg (out.map (Value.int .u8)).toArray:=F;have hI:=e7.upd m (fun h=>h);have O:=hI.stOk (r:=out) (n:=32) (by simp[M]) M;have c5:=qb (hI.setAll (r:=out) (by simp[M]));have u1:=qb ((m.mono (T:=fun k=>k=w.heap.size) (fun _ _ h=>h.elim)).then ((Upd.refl (· = w.heap.size) w1).setCells 0 (out.map (Value.int .u8))) (fun _ _ h=>h));have e0:(out.map (Value.int .u8)).toArray.toList=out.map (Value.int .u8):=rfl;generalize e1:(out.map (Value.int .u8)).toArray=cs at F O e0;generalize d9:out.map (Value.int .u8)=cl at e0 c5 u1;clear e1 d9 hI;unfold zm;simp only[putL];go_simp;exact⟨qbq.all _ _,⟨qa u1,qa c5⟩,rfl⟩
  ·intro ql w1 m hv;clear hv;replace m:Upd (fun k=>k=w.heap.size) I w1∧qbd .u8 w1 w.heap.size out:=m;obtain⟨u1,T1,hI⟩:=m;simp only[putL];have nE:=(n0.trans b6).then u1 (by intro q hq h;omega);go_wp2_with fail;refine bodyPost_ret (results_cell_row rfl _ _ w.heap.size T1 _ _ _ rfl hI Tryz.underlying35 rfl (by rw[List.size_toArray,List.length_map,M];exact Tryz.infoHash)) rfl ?_;exact⟨by rw[qa i],nE⟩
 ·have f1:¬(64:Int)<(key.size:Int):=by omega
  have b7:qom key=key:=by unfold qom;rw[if_neg hc]
  have d6:=qb b7;rw[b7] at b8;clear b7;obtain⟨E,rfl⟩:∃E:ByteArray,E=key:=⟨_,rfl⟩;have nK:qq w1 w1:=Upd.refl _ _;go_upto_region 4 with fail;refine wp_region_lit ?_;refine zi rfl (v:= .pointer (some ⟨w1.heap.size,0,none⟩)) (w':=w1.alloc (.cells qf5 283)) (by kernel_rfl) ?_;have n5:qq w1 (w1.alloc (.cells qf5 283)):=(Upd.refl _ _).alloc _;have J:(w1.alloc (.cells qf5 283)).heap[w1.heap.size]? = some (.cells qf5 283 (0,0)):=qj _ _;generalize w1.alloc (.cells qf5 283)=w5 at n5 J ⊢;have e6:=nK.size;obtain⟨K,c4⟩:∃K,K=w1.heap.size:=⟨_,rfl⟩;rw[←c4] at J e6 ⊢;have e9:w1.heap.size≤K:=by omega
  clear c4;go_upto_region 5 with fail;refine wp_region_lit ?_;refine zi rfl (v:= .slice (some ⟨K,0,none⟩) 64 64) (w':=w5) (by kernel_rfl) ?_;refine zi rfl (v:= .string E) (w':=w5) (by kernel_rfl) ?_;refine zi rfl (v:=goInt E.size) (w':=w5.setRow K ((qf6 E).map (Value.int .u8)).toArray) (qp3 (.tmp 16) (.tmp 17) 95 9 rfl _ _ rfl rfl ?_) ?_
  ·have h:=Lib.run_copy_row_string (P:=Tryz.prog) w5 95 9 3 5 K 0 64 64 E qf5 283 Tryz.underlying95 (by kernel_rfl) J b8 (by have h9:qf5.size=64:=rfl;rw[h9];omega);rw[qqi E b8] at h;exact h
  have a8:=setRow_heap w5 K _ ((qf6 E).map (Value.int .u8)).toArray 283 (0,0) J;have n6:qq w1 (w5.setRow K ((qf6 E).map (Value.int .u8)).toArray):=n5.setRow (fun h=>by omega) _;generalize w5.setRow K ((qf6 E).map (Value.int .u8)).toArray=w6 at a8 n6 ⊢;have a7:qf8 w6 K (qf6 E):=⟨_,a8⟩;have b4:=nK.trans n6;clear n5 J a8;have i:=qb ((qa d4).trans (by rw[qa d6]));have e3:=qfl E 54 K;have e4:(strOfNums (qg0 E 54)).size=64:=by rw[strOfNums_size,qk3]
  have e5:(strOfNums (qg0 E 92)).size=64:=by rw[strOfNums_size,qk3]
  have Y:=qb (fun W (n:qq w6 W)=>qfl E 54 K W ⟨_,(n.old a7.choose_spec (fun h=>h))⟩ (by decide) (by decide));have Z:=qb (fun W (n:qq w6 W)=>qfl E 92 K W ⟨_,(n.old a7.choose_spec (fun h=>h))⟩ (by decide) (by decide));clear e3;generalize strOfNums (qg0 E 54)=q1 at e4 i Y;generalize strOfNums (qg0 E 92)=U at e5 i Z;have c8:=fun W h=>qgg (q1++s) W (by rw[ByteArray.size_append];omega) h
  have a6:=qb c8;have L:=qb5 (q1++s);generalize qef (q1++s)=C at a6 L i;have c6:(strOfNums C).size=32:=by rw[strOfNums_size,L]
  clear c8;go_upto_region 7 with fail;refine wp_region_lit ?_;refine zi rfl (v:= .func (.func 187) #[] #[.pointer (some ⟨K,0,none⟩)]) (w':=w6) (by kernel_rfl) ?_;refine qdb rfl (f:=187) (args:=#[.int .u8 54,.pointer (some ⟨K,0,none⟩)]) (w':=w6) (by kernel_rfl) ?_;refine(qa Y _ (Upd.refl _ _)).mono ?_;rintro e w7 ⟨rfl,n7⟩;refine⟨_,rfl,?_⟩;have R:¬9223372036854775807<q1.size+s.size:=by omega
  refine zi rfl (v:= .string s) (w':=w7) (by kernel_rfl) ?_;refine zi rfl (v:= .string (q1++s)) (w':=w7) (by simp only[execOp];go_simp;first | done | omega) ?_;refine qdb rfl (f:=164) (args:=#[.string (q1++s)]) (w':=w7) (by kernel_rfl) ?_;refine(qa a6 _ (hT.new (n0.trans (b4.trans n7)))).mono ?_;rintro e H ⟨rfl,n8⟩;refine⟨_,rfl,?_⟩;refine zi rfl (v:= .pointer (some ⟨H.heap.size,0,none⟩)) (w':=H.alloc (.cells qej 35)) (by kernel_rfl) ?_;have n9:qq H (H.alloc (.cells qej 35)):=(Upd.refl _ _).alloc _;have N:(H.alloc (.cells qej 35)).heap[H.heap.size]? = some (.cells qej 35 (0,0)):=qj _ _;generalize H.alloc (.cells qej 35)=w9 at n9 N ⊢;refine wpList_store_row rfl _ _ _ rfl H.heap.size (C.map (Value.int .u8)).toArray (by kernel_rfl) (by kernel_rfl) 35 _ N (by rw[List.size_toArray,List.length_map,L];exact Tryz.infoHash) (by have h9:qej.size=32:=rfl;rw[h9];simp[L]) (by simp[Value.oneCell']) ?_;have b3:=setRow_heap w9 H.heap.size _ (C.map (Value.int .u8)).toArray 35 (0,0) N;have nz:qq H (w9.setRow H.heap.size (C.map (Value.int .u8)).toArray):=n9.setRow (fun h=>by omega) _;generalize w9.setRow H.heap.size (C.map (Value.int .u8)).toArray=I at b3 nz ⊢;have c3:qf8 I H.heap.size C:=⟨_,b3⟩;have b9:=qb (fun W (n:qq I W)=>(⟨_,n.old c3.choose_spec (fun h=>h)⟩:qf8 W H.heap.size C));have b5:qq w6 I:=n7.trans (n8.trans nz);have c1:=qb (fun W (n:qq I W)=>qa Z W (b5.trans n));have b6:qq w1 I:=b4.trans b5;have d7:=qb (fun W (n:qq I W)=>(hT.new n0).new (b6.trans n))
  have V:=b6.old vR (fun h=>h);have e7:qbd .u8 I w.heap.size (List.replicate 32 0):=⟨_,V⟩;generalize H.heap.size=G at b9 ⊢;clear R Y a6 Z n9 N b3 nz c3 n7 n8 b4 a7 V b5 n6;generalize S:strOfNums C=z at c6 i;have c0:=qb S;clear S;have c9:=fun W h=>qgg (U++z) W (by rw[ByteArray.size_append];omega) h
  have c2:=qb c9;have M:=qb5 (U++z);generalize qef (U++z)=out at c2 M i;clear c9;go_upto_region 8 with fail;go_simp;refine qlp (by kernel_rfl) [[],[(0,25)],[],[(2,27)],[(1,26),(3,28)],[(4,29)],[(5,30)]] 31 rfl (by kernel_rfl) [(0,25),(1,26),(2,27),(3,28),(4,29),(5,30)] (by kernel_rfl) [6] (by kernel_rfl) [[(0,0)],[(0,0)],[(0,0)],[(0,0)],[(0,0)],[(0,0)],[(0,1)]] (by kernel_rfl)
   (zb5 I w.heap.size out) qbq (isV [.func (.func 187) #[] #[.pointer (some ⟨K,0,none⟩)],.string U,.slice (some ⟨G,0,none⟩) 32 32,.string z,.string (U++z),.agg (out.map (Value.int .u8)).toArray,undef])
   (((Upd.refl _ _).drew)) (fun _=>qbq.all _ _) (fun _ _ _ _ _ _ _ _ _ h=>h) ?_ ?_
  ·refine .pure rfl (fun _=>qbq.all _ _) rfl ?_ <| .one rfl ?_ <| .pure rfl (fun _=>qbq.all _ _) rfl ?_ <| .one rfl ?_ <| .pure rfl (fun _=>qbq.all _ _) rfl ?_ <| .one rfl ?_ <| .one rfl ?_ <| .nil
   ·rintro ql w1 _;unfold zm;simp only[putL];go_simp
    first | exact⟨rfl,rfl⟩ | rfl
   ·rintro ql w1 m ⟨F,-⟩;replace m:qq I w1:=m;replace F:ql 0 = .func (.func 187) #[] #[.pointer (some ⟨K,0,none⟩)]:=F;unfold zm;simp only[putL];go_simp;refine(qa c1 w1 m).mono ?_;rintro e X ⟨rfl,n2⟩;exact⟨_,rfl,qbq.all _ _,m.trans n2,rfl⟩
   ·rintro ql w1 _;unfold zm;simp only[putL];go_simp
    first | exact⟨rfl,rfl⟩ | rfl
   ·rintro ql w1 m ⟨F,-⟩;replace m:qq I w1:=m;replace F:ql 2 = .slice (some ⟨G,0,none⟩) 32 32:=F;have O:=qde (qa b9 w1 m) 32 L;rw[qa c0] at O;unfold zm;simp only[putL];go_simp;exact⟨qbq.all _ _,m,rfl⟩
   ·rintro ql w1 ⟨F,p1,-⟩;replace F:ql 1 = .string U:=F;replace p1:ql 3 = .string z:=p1;have R:¬9223372036854775807<U.size+z.size:=by omega
    unfold zm;simp only[putL];go_simp
    first | exact⟨rfl,rfl⟩ | rfl
   ·rintro ql w1 m ⟨F,-⟩;replace m:qq I w1:=m;replace F:ql 4 = .string (U++z):=F;unfold zm;simp only[putL];go_simp;refine(qa c2 w1 (qa d7 w1 m)).mono ?_;rintro e X ⟨rfl,n2⟩;exact⟨_,rfl,qbq.all _ _,m.trans n2,rfl⟩
   ·rintro ql w1 m ⟨F,-⟩;replace m:qq I w1:=m;replace F:ql 5 = .agg (out.map (Value.int .u8)).toArray:=F;have hI:=e7.upd m (fun h=>h);have O:=hI.stOk (r:=out) (n:=32) (by simp[M]) M;have c5:=qb (hI.setAll (r:=out) (by simp[M]));have u1:=qb ((m.mono (T:=fun k=>k=w.heap.size) (fun _ _ h=>h.elim)).then ((Upd.refl (· = w.heap.size) w1).setCells 0 (out.map (Value.int .u8))) (fun _ _ h=>h));have e0:(out.map (Value.int .u8)).toArray.toList=out.map (Value.int .u8):=rfl;generalize e1:(out.map (Value.int .u8)).toArray=cs at F O e0;generalize d9:out.map (Value.int .u8)=cl at e0 c5 u1;clear e1 d9 hI;unfold zm;simp only[putL];go_simp;exact⟨qbq.all _ _,⟨qa u1,qa c5⟩,rfl⟩
  ·intro ql w1 m hv;clear hv;replace m:Upd (fun k=>k=w.heap.size) I w1∧qbd .u8 w1 w.heap.size out:=m;obtain⟨u1,T1,hI⟩:=m;simp only[putL];have nE:=(n0.trans b6).then u1 (by intro q hq h;omega);go_wp2_with fail;refine bodyPost_ret (results_cell_row rfl _ _ w.heap.size T1 _ _ _ rfl hI Tryz.underlying35 rfl (by rw[List.size_toArray,List.length_map,M];exact Tryz.infoHash)) rfl ?_;exact⟨by rw[qa i],nE⟩
end Go.Proofs.YtfmkdoachjgjbaaGreatDoor
