/-
  Package seal: Tag; the reference's mixed and Tag.
-/
import Derived.Test.YtfmkdoachjgjbaaGreatDoorMae
import Derived.Lib.BufferWrite
set_option maxRecDepth 100000
set_option maxHeartbeats 4000000
set_option linter.unusedVariables false
set_option linter.unusedSimpArgs false
namespace Go.Proofs.YtfmkdoachjgjbaaGreatDoor
open Go.RowKit
def qge(key:ByteArray)(x:Int):List Int:=(List.range 64).map fun i=>bits .xor .u8 (bt key i) x
theorem Tryz.infoB64:(Tryz.prog.info? 283).map (·.size)=some 64:=by kernel_rfl
def qfh:Array Value:=((List.replicate 64 (0:Int)).map (Value.int .u8)).toArray
def qfi(key:ByteArray):List Int:=(List.range 64).map fun i=>bt key i
def qgf(key:ByteArray)(x:Int)(n:Nat):List Int:=(List.range 64).map fun i=>if i<n then bits .xor .u8 (bt key i) x else bt key i
theorem q0m(key:ByteArray)(x:Int)(n:Nat):(qgf key x n).length=64:=by unfold qgf;simp
theorem qwu(key:ByteArray)(x:Int):qgf key x 0=qfi key:=by unfold qgf qfi;exact List.map_congr_left fun i _=>by simp
theorem q0l(key:ByteArray)(x:Int):qgf key x 64=qge key x:=by unfold qgf qge;exact List.map_congr_left fun i m=>by rw[if_pos (List.mem_range.1 m)]
theorem q4s(key:ByteArray)(x:Int)(n:Nat)(h:n<64):(qgf key x n).getD n 0=bt key n:=by
 unfold qgf;rw[List.getD_eq_getElem?_getD,List.getElem?_map,List.getElem?_range h];simp
theorem qwt(key:ByteArray)(x:Int)(n:Nat)(h:n<64):(qgf key x n).set n (bits .xor .u8 (bt key n) x)=qgf key x (n+1):=by
 refine List.ext_getElem? fun i=> ?_
 unfold qgf;rw[List.getElem?_set,List.getElem?_map,List.getElem?_map];by_cases o:n=i
 ·subst o;rw[if_pos rfl,if_pos (by simpa using h),List.getElem?_range h];simp
 ·rw[if_neg o];by_cases q:i<64
  ·rw[List.getElem?_range q];simp only[Option.map_some];by_cases m:i<n
   ·rw[if_pos m,if_pos (by omega)]
   ·rw[if_neg m,if_neg (by omega)]
  ·rw[List.getElem?_eq_none (by simp;omega)];rfl
theorem qe1(key:ByteArray)(x:Int)(K:Nat)(w:World)(H:qfk w K (qfi key))(h0:0≤x)(h1:x≤255) :
  Calls Tryz.prog 187 #[.int .u8 x,.pointer (some ⟨K,0,none⟩)] w (qar (.string (strOfNums (qge key x))) w):=by
 go_enter Tryz.func187,Tryz.ntmps187
 go_upto_region 1 with fail
 refine wp_region_lit ?_
 obtain⟨V,H⟩:=H
 refine wpList_load_row rfl _ _ rfl K rfl V _ _ _ H Tryz.underlying283 rfl (by rw[List.size_toArray,List.length_map];exact Tryz.infoB64) ?_
 refine qac rfl (v:= .pointer (some ⟨w.heap.size,0,none⟩)) (w':=w.alloc (.cells qfh 283)) (by kernel_rfl) ?_
 have n0:qq w (w.alloc (.cells qfh 283)):=(Upd.refl _ _).alloc _
 have o:(w.alloc (.cells qfh 283)).heap[w.heap.size]? = some (.cells qfh 283 (0,0)):=ql _ _
 generalize w.alloc (.cells qfh 283)=w1 at n0 o ⊢
 have J:(qfi key).length=64:=by simp[qfi]
 refine wpList_store_row rfl _ _ _ rfl w.heap.size ((qfi key).map (Value.int .u8)).toArray rfl rfl 283 _ o (by rw[List.size_toArray,List.length_map,J];exact Tryz.infoB64) (by have W:qfh.size=64:=rfl;rw[W];simp[J]) (by simp[Value.oneCell']) ?_
 have I:=setRow_heap w1 w.heap.size _ ((qfi key).map (Value.int .u8)).toArray 283 (0,0) o
 have N:qq w (w1.setRow w.heap.size ((qfi key).map (Value.int .u8)).toArray):=n0.setRow (fun h=>by omega) _
 generalize w1.setRow w.heap.size ((qfi key).map (Value.int .u8)).toArray=Y at I N ⊢
 have T:qbl .u8 Y w.heap.size (qfi key):=⟨_,I⟩
 clear I n0 o H J
 go_wp2_with fail
 go_loopw [5,7] (fun _ M wr=>∃i:Nat,M = .int .i64 (i:Int)∧i≤64∧qbl .u8 wr w.heap.size (qgf key x i)∧qq w wr) (fun _ M _=>64-(intOf M).toNat)
 case atStart=>exact⟨0,rfl,by omega,by rw[qwu];exact T,N⟩
 case round =>
  clear T N;obtain⟨i,rfl,hi,t,ur⟩:=hrel;by_cases E:i<64
  ·have O:wr.cell? ⟨w.heap.size,i,none⟩=some (.int .u8 ((qgf key x i).getD i 0)):=t.cell (by rw[q0m];omega);rw[q4s key x i E] at O;have z0:=t.free i;have m:=t.set i (bits .xor .u8 (bt key i) x);rw[qwt key x i E] at m;have R:qq w (wr.setCell ⟨w.heap.size,i,none⟩ (.int .u8 (bits .xor .u8 (bt key i) x))):=ur.setCell (fun h=>by simp at h) _;obtain⟨Z,y1⟩:=qf3 key i;have z:=qj m;have C:=qj R;clear m R t;have X:(i:Int)<64:=by omega
   generalize bt key i=y at O Z y1 z C;go_wp2;go_roundw
   case rel=>exact⟨i+1,by go_num,by omega,qg z,qg C⟩
   case measure=>simp[intOf];omega
  ·obtain rfl:i=64:=by omega
   rw[show ((64:Nat):Int)=64 from rfl];rw[q0l] at t;have D:qfk wr w.heap.size (qge key x):=t;have m:=qcz D 64 (by unfold qge;simp);generalize P:strOfNums (qge key x)=q at m;have U:=qj P;clear P t D;go_wp2;go_ret;exact⟨by rw[qg U];rfl,ur⟩
theorem qjm(key:ByteArray)(x:Int):(qge key x).length=64:=by simp[qge]
def qnq(key:ByteArray):ByteArray:=if 64<key.size then strOfNums (qeq key) else key
theorem q0c(key:ByteArray):(qnq key).size≤64:=by
 unfold qnq;split
 ·rw[strOfNums_size,qb9];decide
 ·omega
def qpa(key s:ByteArray):List Int:=qeq (strOfNums (qge (qnq key) 92)++strOfNums (qeq (strOfNums (qge (qnq key) 54)++s)))
def qd5:Array Value:=((List.replicate 32 (0:Int)).map (Value.int .u8)).toArray
attribute [local go_sem ↓ high] qlm qlr
attribute [local go_sem] q4k q5t
theorem qpm{P:Program}{o:Oper}{a:Act}{w:World}(d s:Operand)(t i:TypeId)(q:o.op = .call {callee:= .builtin .copy,args:=#[d,s],argTypes:=#[t,i]})(v u:Value)(hd:a.eval d=v)(y:a.eval s=u){m:Value}{w':World}
  (x:(Builtin.copy_ #[t,i] o.type #[v,u]).run P w = .ok m w'):(execOp a.eval o).run P w = .ok (.value m) w':=by
 unfold execOp
 simp only[q,resolve,invoke,builtin,Sem.run_bind,Sem.run_pure,Result.andThen_ok,List.map_toArray,List.map_cons,List.map_nil,hd,y,x]
theorem qpz(key:ByteArray)(h:key.size≤64):(qfh.toList.take 0++Lib.byteCells key.data.toList++qfh.toList.drop (0+key.size))=(qfi key).map (Value.int .u8):=by
 have t:qfh.toList=List.replicate 64 (Value.int .u8 0):=rfl;have o:key.data.toList.length=key.size:=Array.length_toList;rw[t,List.take_zero,List.nil_append,Nat.zero_add,List.drop_replicate];refine List.ext_getElem? fun i=> ?_
 unfold qfi Lib.byteCells;rw[List.getElem?_map,List.getElem?_map];by_cases q:i<key.size
 ·rw[List.getElem?_append_left (by rw[List.length_map,o];exact q),List.getElem?_map,List.getElem?_range (by omega)];have m:key.data.toList[i]? = some (key.data.toList.getD i 0):=by rw[List.getD_eq_getElem?_getD,List.getElem?_eq_getElem (by omega)];rfl
  rw[m];rfl
 ·rw[List.getElem?_append_right (by rw[List.length_map,o];omega),List.length_map,o,List.getElem?_replicate];by_cases m:i<64
  ·rw[if_pos (by omega),List.getElem?_range m];simp only[Option.map_some,bt];rw[List.getD_eq_getElem?_getD,List.getElem?_eq_none (by omega)];rfl
  ·rw[if_neg (by omega),List.getElem?_eq_none (by simp;omega)];rfl
theorem q74(key s:ByteArray)(w:World)(hk:key.size≤100000000)(hs:s.size≤100000000)(hT:Tabs w) :
  Calls Tryz.prog 156 #[.string key,.string s] w fun e w'=>e = .returned (.agg ((qpa key s).map (Value.int .u8)).toArray)∧qq w w':=by
 go_enter Tryz.func156,Tryz.ntmps156
 go_upto_region 0 with fail
 refine wp_region_lit ?_
 refine qac rfl (v:= .pointer (some ⟨w.heap.size,0,none⟩)) (w':=w.alloc (.cells qd5 35)) (by kernel_rfl) ?_
 have n0:qq w (w.alloc (.cells qd5 35)):=(Upd.refl _ _).alloc _
 have vR:(w.alloc (.cells qd5 35)).heap[w.heap.size]? = some (.cells qd5 35 (0,0)):=ql _ _
 generalize w.alloc (.cells qd5 35)=w1 at n0 vR ⊢
 have e5:w.heap.size<w1.heap.size:=zi vR
 have b1:=q0c key
 have c8:qpa key s=qeq (strOfNums (qge (qnq key) 92)++strOfNums (qeq (strOfNums (qge (qnq key) 54)++s))):=rfl
 have c7:=qj c8
 clear c8
 by_cases hc:64<key.size
 ·have d4:qnq key=strOfNums (qeq key):=by unfold qnq;rw[if_pos hc]
  have e4:(64:Int)<(key.size:Int):=by omega
  have c3:=qft key w1 (by omega) (hT.new n0);have c5:=qb9 key;generalize qeq key=sk at d4 c3 c5;have e1:=qj d4;have c6:=qj c3;clear d4 c3;go_upto_region 2 with fail;refine wp_region_lit ?_;refine qac rfl (v:= .string key) (w':=w1) (by kernel_rfl) ?_;refine qdb rfl (f:=164) (args:=#[.string key]) (w':=w1) (by kernel_rfl) ?_;refine(qg c6).mono ?_;rintro e U ⟨rfl,n2⟩;refine⟨_,rfl,?_⟩;refine qac rfl (v:= .pointer (some ⟨U.heap.size,0,none⟩)) (w':=U.alloc (.cells qd5 35)) (by kernel_rfl) ?_;have n3:qq U (U.alloc (.cells qd5 35)):=(Upd.refl _ _).alloc _;have c4:(U.alloc (.cells qd5 35)).heap[U.heap.size]? = some (.cells qd5 35 (0,0)):=ql _ _;generalize U.alloc (.cells qd5 35)=w3 at n3 c4 ⊢;refine wpList_store_row rfl _ _ _ rfl U.heap.size (sk.map (Value.int .u8)).toArray rfl rfl 35 _ c4 (by rw[List.size_toArray,List.length_map,c5];exact Tryz.infoHash) (by have h9:qd5.size=32:=rfl;rw[h9];simp[c5]) (by simp[Value.oneCell']) ?_;have d1:=setRow_heap w3 U.heap.size _ (sk.map (Value.int .u8)).toArray 35 (0,0) c4;have n4:qq U (w3.setRow U.heap.size (sk.map (Value.int .u8)).toArray):=n3.setRow (fun h=>by omega) _;generalize w3.setRow U.heap.size (sk.map (Value.int .u8)).toArray=w4 at d1 n4 ⊢;have h8:qfk w4 U.heap.size sk:=⟨_,d1⟩;have J:=qcz h8 32 c5;have e3:=n2.trans n4;have c0:=qg e1;generalize b0:qnq key=x at c0 b1;rw[←c0] at J;have c9:=qj b0;clear n2 n3 c4 d1 n4 h8 c6 e1 c0 b0;obtain⟨wK,rfl⟩:∃wK:World,wK=w4:=⟨_,rfl⟩;have nK:=e3;clear e3;go_upto_region 4 with fail
  refine wp_region_lit ?_;refine qac rfl (v:= .pointer (some ⟨wK.heap.size,0,none⟩)) (w':=wK.alloc (.cells qfh 283)) (by kernel_rfl) ?_;have n5:qq wK (wK.alloc (.cells qfh 283)):=(Upd.refl _ _).alloc _;have D:(wK.alloc (.cells qfh 283)).heap[wK.heap.size]? = some (.cells qfh 283 (0,0)):=ql _ _;generalize wK.alloc (.cells qfh 283)=w5 at n5 D ⊢;have d8:=nK.size;obtain⟨K,b7⟩:∃K,K=wK.heap.size:=⟨_,rfl⟩;rw[←b7] at D d8 ⊢;have e2:wK.heap.size≤K:=by omega
  clear b7;go_upto_region 5 with fail;refine wp_region_lit ?_;refine qac rfl (v:= .slice (some ⟨K,0,none⟩) 64 64) (w':=w5) (by kernel_rfl) ?_;refine qac rfl (v:= .string x) (w':=w5) (by kernel_rfl) ?_;refine qac rfl (v:=goInt x.size) (w':=w5.setRow K ((qfi x).map (Value.int .u8)).toArray) (qpm (.tmp 16) (.tmp 17) 95 9 rfl _ _ rfl rfl ?_) ?_
  ·have h:=Lib.run_copy_row_string (P:=Tryz.prog) w5 95 9 3 5 K 0 64 64 x qfh 283 Tryz.underlying95 (by kernel_rfl) D b1 (by have h9:qfh.size=64:=rfl;rw[h9];omega);rw[qpz x b1] at h;exact h
  have a1:=setRow_heap w5 K _ ((qfi x).map (Value.int .u8)).toArray 283 (0,0) D;have n6:qq wK (w5.setRow K ((qfi x).map (Value.int .u8)).toArray):=n5.setRow (fun h=>by omega) _;generalize w5.setRow K ((qfi x).map (Value.int .u8)).toArray=w6 at a1 n6 ⊢;have Z:qfk w6 K (qfi x):=⟨_,a1⟩;have a6:=nK.trans n6;clear n5 D a1;have i:=qj ((qg c7).trans (by rw[qg c9]));have d5:=qe1 x 54 K;have d6:(strOfNums (qge x 54)).size=64:=by rw[strOfNums_size,qjm]
  have d7:(strOfNums (qge x 92)).size=64:=by rw[strOfNums_size,qjm]
  have V:=qj (fun W (n:qq w6 W)=>qe1 x 54 K W ⟨_,(n.old Z.choose_spec (fun h=>h))⟩ (by decide) (by decide));have X:=qj (fun W (n:qq w6 W)=>qe1 x 92 K W ⟨_,(n.old Z.choose_spec (fun h=>h))⟩ (by decide) (by decide));clear d5;generalize strOfNums (qge x 54)=q1 at d6 i V;generalize strOfNums (qge x 92)=O at d7 i X;have c1:=fun W h=>qft (q1++s) W (by rw[ByteArray.size_append];omega) h
  have Y:=qj c1;have E:=qb9 (q1++s);generalize qeq (q1++s)=t at Y E i;have b9:(strOfNums t).size=32:=by rw[strOfNums_size,E]
  clear c1;go_upto_region 7 with fail;refine wp_region_lit ?_;refine qac rfl (v:= .func (.func 187) #[] #[.pointer (some ⟨K,0,none⟩)]) (w':=w6) (by kernel_rfl) ?_;refine qdb rfl (f:=187) (args:=#[.int .u8 54,.pointer (some ⟨K,0,none⟩)]) (w':=w6) (by kernel_rfl) ?_;refine(qg V _ (Upd.refl _ _)).mono ?_;rintro e w7 ⟨rfl,n7⟩;refine⟨_,rfl,?_⟩;have M:¬9223372036854775807<q1.size+s.size:=by omega
  refine qac rfl (v:= .string s) (w':=w7) (by kernel_rfl) ?_;refine qac rfl (v:= .string (q1++s)) (w':=w7) (by simp only[execOp];go_simp;first | done | omega) ?_;refine qdb rfl (f:=164) (args:=#[.string (q1++s)]) (w':=w7) (by kernel_rfl) ?_;refine(qg Y _ (hT.new (n0.trans (a6.trans n7)))).mono ?_;rintro e z ⟨rfl,n8⟩;refine⟨_,rfl,?_⟩;refine qac rfl (v:= .pointer (some ⟨z.heap.size,0,none⟩)) (w':=z.alloc (.cells qd5 35)) (by kernel_rfl) ?_;have n9:qq z (z.alloc (.cells qd5 35)):=(Upd.refl _ _).alloc _;have I:(z.alloc (.cells qd5 35)).heap[z.heap.size]? = some (.cells qd5 35 (0,0)):=ql _ _;generalize z.alloc (.cells qd5 35)=w9 at n9 I ⊢;refine wpList_store_row rfl _ _ _ rfl z.heap.size (t.map (Value.int .u8)).toArray (by kernel_rfl) (by kernel_rfl) 35 _ I (by rw[List.size_toArray,List.length_map,E];exact Tryz.infoHash) (by have h9:qd5.size=32:=rfl;rw[h9];simp[E]) (by simp[Value.oneCell']) ?_;have a2:=setRow_heap w9 z.heap.size _ (t.map (Value.int .u8)).toArray 35 (0,0) I;have nz:qq z (w9.setRow z.heap.size (t.map (Value.int .u8)).toArray):=n9.setRow (fun h=>by omega) _;generalize w9.setRow z.heap.size (t.map (Value.int .u8)).toArray=C at a2 nz ⊢;have b6:qfk C z.heap.size t:=⟨_,a2⟩;have b2:=qj (fun W (n:qq C W)=>(⟨_,n.old b6.choose_spec (fun h=>h)⟩:qfk W z.heap.size t));have a7:qq w6 C:=n7.trans (n8.trans nz);have b4:=qj (fun W (n:qq C W)=>qg X W (a7.trans n));have a8:qq w1 C:=a6.trans a7;have d0:=qj (fun W (n:qq C W)=>(hT.new n0).new (a8.trans n))
  have R:=a8.old vR (fun h=>h);have d9:qbl .u8 C w.heap.size (List.replicate 32 0):=⟨_,R⟩;generalize z.heap.size=G at b2 ⊢;clear M V Y X n9 I a2 nz b6 n7 n8 a6 Z R a7 n6;generalize N:strOfNums t=o at b9 i;have b3:=qj N;clear N;have c2:=fun W h=>qft (O++o) W (by rw[ByteArray.size_append];omega) h
  have b5:=qj c2;have H:=qb9 (O++o);generalize qeq (O++o)=out at b5 H i;clear c2;go_upto_region 8 with fail;go_simp;refine qms (by kernel_rfl) [[],[(0,25)],[],[(2,27)],[(1,26),(3,28)],[(4,29)],[(5,30)]] 31 rfl (by kernel_rfl) [(0,25),(1,26),(2,27),(3,28),(4,29),(5,30)] (by kernel_rfl) [6] (by kernel_rfl) [[(0,0)],[(0,0)],[(0,0)],[(0,0)],[(0,0)],[(0,0)],[(0,1)]] (by kernel_rfl)
   (zac C w.heap.size out) qcw (isV [.func (.func 187) #[] #[.pointer (some ⟨K,0,none⟩)],.string O,.slice (some ⟨G,0,none⟩) 32 32,.string o,.string (O++o),.agg (out.map (Value.int .u8)).toArray,undef])
   (((Upd.refl _ _).drew)) (fun _=>qcw.all _ _) (fun _ _ _ _ _ _ _ _ _ h=>h) ?_ ?_
  ·refine .pure rfl (fun _=>qcw.all _ _) rfl ?_ <| .one rfl ?_ <| .pure rfl (fun _=>qcw.all _ _) rfl ?_ <| .one rfl ?_ <| .pure rfl (fun _=>qcw.all _ _) rfl ?_ <| .one rfl ?_ <| .one rfl ?_ <| .nil
   ·rintro qz w1 _;unfold qam;simp only[putL];go_simp
    first | exact⟨rfl,rfl⟩ | rfl
   ·rintro qz w1 m ⟨y,-⟩;replace m:qq C w1:=m;replace y:qz 0 = .func (.func 187) #[] #[.pointer (some ⟨K,0,none⟩)]:=y;unfold qam;simp only[putL];go_simp;refine(qg b4 w1 m).mono ?_;rintro e U ⟨rfl,n2⟩;exact⟨_,rfl,qcw.all _ _,m.trans n2,rfl⟩
   ·rintro qz w1 _;unfold qam;simp only[putL];go_simp
    first | exact⟨rfl,rfl⟩ | rfl
   ·rintro qz w1 m ⟨y,-⟩;replace m:qq C w1:=m;replace y:qz 2 = .slice (some ⟨G,0,none⟩) 32 32:=y;have J:=qcz (qg b2 w1 m) 32 E;rw[qg b3] at J;unfold qam;simp only[putL];go_simp;exact⟨qcw.all _ _,m,rfl⟩
   ·rintro qz w1 ⟨y,p1,-⟩;replace y:qz 1 = .string O:=y;replace p1:qz 3 = .string o:=p1;have M:¬9223372036854775807<O.size+o.size:=by omega
    unfold qam;simp only[putL];go_simp
    first | exact⟨rfl,rfl⟩ | rfl
   ·rintro qz w1 m ⟨y,-⟩;replace m:qq C w1:=m;replace y:qz 4 = .string (O++o):=y;unfold qam;simp only[putL];go_simp;refine(qg b5 w1 (qg d0 w1 m)).mono ?_;rintro e U ⟨rfl,n2⟩;exact⟨_,rfl,qcw.all _ _,m.trans n2,rfl⟩
   ·rintro qz w1 m ⟨y,-⟩;replace m:qq C w1:=m;replace y:qz 5 = .agg (out.map (Value.int .u8)).toArray:=y;have hI:=d9.upd m (fun h=>h);have J:=hI.stOk (r:=out) (n:=32) (by simp[H]) H;have b8:=qj (hI.setAll (r:=out) (by simp[H]));have u1:=qj ((m.mono (T:=fun k=>k=w.heap.size) (fun _ _ h=>h.elim)).then ((Upd.refl (· = w.heap.size) w1).setCells 0 (out.map (Value.int .u8))) (fun _ _ h=>h));have e0:(out.map (Value.int .u8)).toArray.toList=out.map (Value.int .u8):=rfl;generalize d3:(out.map (Value.int .u8)).toArray=cs at y J e0;generalize d2:out.map (Value.int .u8)=cl at e0 b8 u1;clear d3 d2 hI;unfold qam;simp only[putL];go_simp;exact⟨qcw.all _ _,⟨qg u1,qg b8⟩,rfl⟩
  ·intro qz w1 m hv;clear hv;replace m:Upd (fun k=>k=w.heap.size) C w1∧qbl .u8 w1 w.heap.size out:=m;obtain⟨u1,T1,hI⟩:=m;simp only[putL];have nE:=(n0.trans a8).then u1 (by intro q hq h;omega);go_wp2_with fail;refine bodyPost_ret (results_cell_row rfl _ _ w.heap.size T1 _ _ _ rfl hI Tryz.underlying35 rfl (by rw[List.size_toArray,List.length_map,H];exact Tryz.infoHash)) rfl ?_;exact⟨by rw[qg i],nE⟩
 ·have e4:¬(64:Int)<(key.size:Int):=by omega
  have b0:qnq key=key:=by unfold qnq;rw[if_neg hc]
  have c9:=qj b0;rw[b0] at b1;clear b0;obtain⟨x,rfl⟩:∃x:ByteArray,x=key:=⟨_,rfl⟩;have nK:qq w1 w1:=Upd.refl _ _;go_upto_region 4 with fail;refine wp_region_lit ?_;refine qac rfl (v:= .pointer (some ⟨w1.heap.size,0,none⟩)) (w':=w1.alloc (.cells qfh 283)) (by kernel_rfl) ?_;have n5:qq w1 (w1.alloc (.cells qfh 283)):=(Upd.refl _ _).alloc _;have D:(w1.alloc (.cells qfh 283)).heap[w1.heap.size]? = some (.cells qfh 283 (0,0)):=ql _ _;generalize w1.alloc (.cells qfh 283)=w5 at n5 D ⊢;have d8:=nK.size;obtain⟨K,b7⟩:∃K,K=w1.heap.size:=⟨_,rfl⟩;rw[←b7] at D d8 ⊢;have e2:w1.heap.size≤K:=by omega
  clear b7;go_upto_region 5 with fail;refine wp_region_lit ?_;refine qac rfl (v:= .slice (some ⟨K,0,none⟩) 64 64) (w':=w5) (by kernel_rfl) ?_;refine qac rfl (v:= .string x) (w':=w5) (by kernel_rfl) ?_;refine qac rfl (v:=goInt x.size) (w':=w5.setRow K ((qfi x).map (Value.int .u8)).toArray) (qpm (.tmp 16) (.tmp 17) 95 9 rfl _ _ rfl rfl ?_) ?_
  ·have h:=Lib.run_copy_row_string (P:=Tryz.prog) w5 95 9 3 5 K 0 64 64 x qfh 283 Tryz.underlying95 (by kernel_rfl) D b1 (by have h9:qfh.size=64:=rfl;rw[h9];omega);rw[qpz x b1] at h;exact h
  have a1:=setRow_heap w5 K _ ((qfi x).map (Value.int .u8)).toArray 283 (0,0) D;have n6:qq w1 (w5.setRow K ((qfi x).map (Value.int .u8)).toArray):=n5.setRow (fun h=>by omega) _;generalize w5.setRow K ((qfi x).map (Value.int .u8)).toArray=w6 at a1 n6 ⊢;have Z:qfk w6 K (qfi x):=⟨_,a1⟩;have a6:=nK.trans n6;clear n5 D a1;have i:=qj ((qg c7).trans (by rw[qg c9]));have d5:=qe1 x 54 K;have d6:(strOfNums (qge x 54)).size=64:=by rw[strOfNums_size,qjm]
  have d7:(strOfNums (qge x 92)).size=64:=by rw[strOfNums_size,qjm]
  have V:=qj (fun W (n:qq w6 W)=>qe1 x 54 K W ⟨_,(n.old Z.choose_spec (fun h=>h))⟩ (by decide) (by decide));have X:=qj (fun W (n:qq w6 W)=>qe1 x 92 K W ⟨_,(n.old Z.choose_spec (fun h=>h))⟩ (by decide) (by decide));clear d5;generalize strOfNums (qge x 54)=q1 at d6 i V;generalize strOfNums (qge x 92)=O at d7 i X;have c1:=fun W h=>qft (q1++s) W (by rw[ByteArray.size_append];omega) h
  have Y:=qj c1;have E:=qb9 (q1++s);generalize qeq (q1++s)=t at Y E i;have b9:(strOfNums t).size=32:=by rw[strOfNums_size,E]
  clear c1;go_upto_region 7 with fail;refine wp_region_lit ?_;refine qac rfl (v:= .func (.func 187) #[] #[.pointer (some ⟨K,0,none⟩)]) (w':=w6) (by kernel_rfl) ?_;refine qdb rfl (f:=187) (args:=#[.int .u8 54,.pointer (some ⟨K,0,none⟩)]) (w':=w6) (by kernel_rfl) ?_;refine(qg V _ (Upd.refl _ _)).mono ?_;rintro e w7 ⟨rfl,n7⟩;refine⟨_,rfl,?_⟩;have M:¬9223372036854775807<q1.size+s.size:=by omega
  refine qac rfl (v:= .string s) (w':=w7) (by kernel_rfl) ?_;refine qac rfl (v:= .string (q1++s)) (w':=w7) (by simp only[execOp];go_simp;first | done | omega) ?_;refine qdb rfl (f:=164) (args:=#[.string (q1++s)]) (w':=w7) (by kernel_rfl) ?_;refine(qg Y _ (hT.new (n0.trans (a6.trans n7)))).mono ?_;rintro e z ⟨rfl,n8⟩;refine⟨_,rfl,?_⟩;refine qac rfl (v:= .pointer (some ⟨z.heap.size,0,none⟩)) (w':=z.alloc (.cells qd5 35)) (by kernel_rfl) ?_;have n9:qq z (z.alloc (.cells qd5 35)):=(Upd.refl _ _).alloc _;have I:(z.alloc (.cells qd5 35)).heap[z.heap.size]? = some (.cells qd5 35 (0,0)):=ql _ _;generalize z.alloc (.cells qd5 35)=w9 at n9 I ⊢;refine wpList_store_row rfl _ _ _ rfl z.heap.size (t.map (Value.int .u8)).toArray (by kernel_rfl) (by kernel_rfl) 35 _ I (by rw[List.size_toArray,List.length_map,E];exact Tryz.infoHash) (by have h9:qd5.size=32:=rfl;rw[h9];simp[E]) (by simp[Value.oneCell']) ?_;have a2:=setRow_heap w9 z.heap.size _ (t.map (Value.int .u8)).toArray 35 (0,0) I;have nz:qq z (w9.setRow z.heap.size (t.map (Value.int .u8)).toArray):=n9.setRow (fun h=>by omega) _;generalize w9.setRow z.heap.size (t.map (Value.int .u8)).toArray=C at a2 nz ⊢;have b6:qfk C z.heap.size t:=⟨_,a2⟩;have b2:=qj (fun W (n:qq C W)=>(⟨_,n.old b6.choose_spec (fun h=>h)⟩:qfk W z.heap.size t));have a7:qq w6 C:=n7.trans (n8.trans nz);have b4:=qj (fun W (n:qq C W)=>qg X W (a7.trans n));have a8:qq w1 C:=a6.trans a7;have d0:=qj (fun W (n:qq C W)=>(hT.new n0).new (a8.trans n))
  have R:=a8.old vR (fun h=>h);have d9:qbl .u8 C w.heap.size (List.replicate 32 0):=⟨_,R⟩;generalize z.heap.size=G at b2 ⊢;clear M V Y X n9 I a2 nz b6 n7 n8 a6 Z R a7 n6;generalize N:strOfNums t=o at b9 i;have b3:=qj N;clear N;have c2:=fun W h=>qft (O++o) W (by rw[ByteArray.size_append];omega) h
  have b5:=qj c2;have H:=qb9 (O++o);generalize qeq (O++o)=out at b5 H i;clear c2;go_upto_region 8 with fail;go_simp;refine qms (by kernel_rfl) [[],[(0,25)],[],[(2,27)],[(1,26),(3,28)],[(4,29)],[(5,30)]] 31 rfl (by kernel_rfl) [(0,25),(1,26),(2,27),(3,28),(4,29),(5,30)] (by kernel_rfl) [6] (by kernel_rfl) [[(0,0)],[(0,0)],[(0,0)],[(0,0)],[(0,0)],[(0,0)],[(0,1)]] (by kernel_rfl)
   (zac C w.heap.size out) qcw (isV [.func (.func 187) #[] #[.pointer (some ⟨K,0,none⟩)],.string O,.slice (some ⟨G,0,none⟩) 32 32,.string o,.string (O++o),.agg (out.map (Value.int .u8)).toArray,undef])
   (((Upd.refl _ _).drew)) (fun _=>qcw.all _ _) (fun _ _ _ _ _ _ _ _ _ h=>h) ?_ ?_
  ·refine .pure rfl (fun _=>qcw.all _ _) rfl ?_ <| .one rfl ?_ <| .pure rfl (fun _=>qcw.all _ _) rfl ?_ <| .one rfl ?_ <| .pure rfl (fun _=>qcw.all _ _) rfl ?_ <| .one rfl ?_ <| .one rfl ?_ <| .nil
   ·rintro qz w1 _;unfold qam;simp only[putL];go_simp
    first | exact⟨rfl,rfl⟩ | rfl
   ·rintro qz w1 m ⟨y,-⟩;replace m:qq C w1:=m;replace y:qz 0 = .func (.func 187) #[] #[.pointer (some ⟨K,0,none⟩)]:=y;unfold qam;simp only[putL];go_simp;refine(qg b4 w1 m).mono ?_;rintro e U ⟨rfl,n2⟩;exact⟨_,rfl,qcw.all _ _,m.trans n2,rfl⟩
   ·rintro qz w1 _;unfold qam;simp only[putL];go_simp
    first | exact⟨rfl,rfl⟩ | rfl
   ·rintro qz w1 m ⟨y,-⟩;replace m:qq C w1:=m;replace y:qz 2 = .slice (some ⟨G,0,none⟩) 32 32:=y;have J:=qcz (qg b2 w1 m) 32 E;rw[qg b3] at J;unfold qam;simp only[putL];go_simp;exact⟨qcw.all _ _,m,rfl⟩
   ·rintro qz w1 ⟨y,p1,-⟩;replace y:qz 1 = .string O:=y;replace p1:qz 3 = .string o:=p1;have M:¬9223372036854775807<O.size+o.size:=by omega
    unfold qam;simp only[putL];go_simp
    first | exact⟨rfl,rfl⟩ | rfl
   ·rintro qz w1 m ⟨y,-⟩;replace m:qq C w1:=m;replace y:qz 4 = .string (O++o):=y;unfold qam;simp only[putL];go_simp;refine(qg b5 w1 (qg d0 w1 m)).mono ?_;rintro e U ⟨rfl,n2⟩;exact⟨_,rfl,qcw.all _ _,m.trans n2,rfl⟩
   ·rintro qz w1 m ⟨y,-⟩;replace m:qq C w1:=m;replace y:qz 5 = .agg (out.map (Value.int .u8)).toArray:=y;have hI:=d9.upd m (fun h=>h);have J:=hI.stOk (r:=out) (n:=32) (by simp[H]) H;have b8:=qj (hI.setAll (r:=out) (by simp[H]));have u1:=qj ((m.mono (T:=fun k=>k=w.heap.size) (fun _ _ h=>h.elim)).then ((Upd.refl (· = w.heap.size) w1).setCells 0 (out.map (Value.int .u8))) (fun _ _ h=>h));have e0:(out.map (Value.int .u8)).toArray.toList=out.map (Value.int .u8):=rfl;generalize d3:(out.map (Value.int .u8)).toArray=cs at y J e0;generalize d2:out.map (Value.int .u8)=cl at e0 b8 u1;clear d3 d2 hI;unfold qam;simp only[putL];go_simp;exact⟨qcw.all _ _,⟨qg u1,qg b8⟩,rfl⟩
  ·intro qz w1 m hv;clear hv;replace m:Upd (fun k=>k=w.heap.size) C w1∧qbl .u8 w1 w.heap.size out:=m;obtain⟨u1,T1,hI⟩:=m;simp only[putL];have nE:=(n0.trans a8).then u1 (by intro q hq h;omega);go_wp2_with fail;refine bodyPost_ret (results_cell_row rfl _ _ w.heap.size T1 _ _ _ rfl hI Tryz.underlying35 rfl (by rw[List.size_toArray,List.length_map,H];exact Tryz.infoHash)) rfl ?_;exact⟨by rw[qg i],nE⟩
end Go.Proofs.YtfmkdoachjgjbaaGreatDoor
