/-
  Package seal: Tag; the reference's mixed and Tag.
-/
import Derived.Test.YthnohmjbbeahmaaGreatDoorMbd
import Derived.Lib.BufferWrite
set_option linter.unusedVariables false
set_option linter.unusedSimpArgs false
namespace Go.Proofs.YthnohmjbbeahmaaGreatDoor
open Go.RowKit
def qjh(key:ByteArray)(x:Int):List Int:=(List.range 64).map fun i=>bits .xor .u8 (bt key i) x
theorem Tryz.infoB64:(Tryz.prog.info? 161).map (·.size)=some 64:=by kernel_rfl
def qie:Array Value:=((List.replicate 64 (0:Int)).map (Value.int .u8)).toArray
def qif(key:ByteArray):List Int:=(List.range 64).map fun i=>bt key i
def qji(key:ByteArray)(x:Int)(n:Nat):List Int:=(List.range 64).map fun i=>if i<n then bits .xor .u8 (bt key i) x else bt key i
theorem q8u(key:ByteArray)(x:Int)(n:Nat):(qji key x n).length=64:=by unfold qji;simp
theorem q3y(key:ByteArray)(x:Int):qji key x 0=qif key:=by unfold qji qif;exact List.map_congr_left fun i _=>by simp
theorem q8t(key:ByteArray)(x:Int):qji key x 64=qjh key x:=by unfold qji qjh;exact List.map_congr_left fun i g=>by rw[if_pos (List.mem_range.1 g)]
theorem zcw(key:ByteArray)(x:Int)(n:Nat)(h:n<64):(qji key x n).getD n 0=bt key n:=by
 unfold qji;rw[List.getD_eq_getElem?_getD,List.getElem?_map,List.getElem?_range h];simp
theorem q3x(key:ByteArray)(x:Int)(n:Nat)(h:n<64):(qji key x n).set n (bits .xor .u8 (bt key n) x)=qji key x (n+1):=by
 refine List.ext_getElem? fun i=> ?_
 unfold qji;rw[List.getElem?_set,List.getElem?_map,List.getElem?_map];by_cases l:n=i
 ·subst l;rw[if_pos rfl,if_pos (by simpa using h),List.getElem?_range h];simp
 ·rw[if_neg l];by_cases m:i<64
  ·rw[List.getElem?_range m];simp only[Option.map_some];by_cases g:i<n
   ·rw[if_pos g,if_pos (by omega)]
   ·rw[if_neg g,if_neg (by omega)]
  ·rw[List.getElem?_eq_none (by simp;omega)];rfl
set_option maxRecDepth 100000 in
set_option maxHeartbeats 1000000 in
theorem qhn(key:ByteArray)(x:Int)(K:Nat)(w:World)(D:qig w K (qif key))(Z:0≤x)(h1:x≤255) :
  Calls Tryz.prog 92 #[.int .u8 x,.pointer (some ⟨K,0,none⟩)] w (qbf (.string (strOfNums (qjh key x))) w):=by
 go_enter Tryz.func92,Tryz.ntmps92
 go_upto_region 1 with fail
 refine wp_region_lit ?_
 obtain⟨T,D⟩:=D
 refine wpList_load_row rfl _ _ rfl K rfl T _ _ _ D Tryz.underlying161 rfl (by rw[List.size_toArray,List.length_map];exact Tryz.infoB64) ?_
 refine zf rfl (v:= .pointer (some ⟨w.heap.size,0,none⟩)) (w':=w.alloc (.cells qie 161)) (by kernel_rfl) ?_
 have I:qq w (w.alloc (.cells qie 161)):=(Upd.refl _ _).alloc _
 have l:(w.alloc (.cells qie 161)).heap[w.heap.size]? = some (.cells qie 161 (0,0)):=qi _ _
 generalize w.alloc (.cells qie 161)=w1 at I l ⊢
 have F:(qif key).length=64:=by simp[qif]
 refine wpList_store_row rfl _ _ _ rfl w.heap.size ((qif key).map (Value.int .u8)).toArray rfl rfl 161 _ l (by rw[List.size_toArray,List.length_map,F];exact Tryz.infoB64) (by have U:qie.size=64:=rfl;rw[U];simp[F]) (by simp[Value.oneCell']) ?_
 have E:=setRow_heap w1 w.heap.size _ ((qif key).map (Value.int .u8)).toArray 161 (0,0) l
 have J:qq w (w1.setRow w.heap.size ((qif key).map (Value.int .u8)).toArray):=I.setRow (fun h=>by omega) _
 generalize w1.setRow w.heap.size ((qif key).map (Value.int .u8)).toArray=W at E J ⊢
 have P:qbg .u8 W w.heap.size (qif key):=⟨_,E⟩
 clear E I l D F
 go_wp2_with fail
 go_loopw [5,7] (fun _ H wr=>∃i:Nat,H = .int .i64 (i:Int)∧i≤64∧qbg .u8 wr w.heap.size (qji key x i)∧qq w wr) (fun _ H _=>64-(intOf H).toNat)
 case atStart=>exact⟨0,rfl,by omega,by rw[q3y];exact P,J⟩
 case round =>
  clear P J;obtain⟨i,rfl,hi,m,N⟩:=hrel;by_cases C:i<64
  ·have L:wr.cell? ⟨w.heap.size,i,none⟩=some (.int .u8 ((qji key x i).getD i 0)):=m.cell (by rw[q8u];omega);rw[zcw key x i C] at L;have z0:=m.free i;have g:=m.set i (bits .xor .u8 (bt key i) x);rw[q3x key x i C] at g;have O:qq w (wr.setCell ⟨w.heap.size,i,none⟩ (.int .u8 (bits .xor .u8 (bt key i) x))):=N.setCell (fun h=>by simp at h) _;obtain⟨X,Y⟩:=qzf key i;have o:=qb g;have t:=qb O;clear g O m;have V:(i:Int)<64:=by omega
   generalize bt key i=y at L X Y o t;go_wp2;go_roundw
   case rel=>exact⟨i+1,by go_num,by omega,qa o,qa t⟩
   case measure=>simp[intOf];omega
  ·obtain rfl:i=64:=by omega
   rw[show ((64:Nat):Int)=64 from rfl];rw[q8t] at m;have z:qig wr w.heap.size (qjh key x):=m;have g:=qeg z 64 (by unfold qjh;simp);generalize M:strOfNums (qjh key x)=q at g;have R:=qb M;clear M m z;go_wp2;go_ret;exact⟨by rw[qa R];rfl,N⟩
theorem qoj(key:ByteArray)(x:Int):(qjh key x).length=64:=by simp[qjh]
def qsu(key:ByteArray):ByteArray:=if 64<key.size then strOfNums (qgw key) else key
theorem q8i(key:ByteArray):(qsu key).size≤64:=by
 unfold qsu;split
 ·rw[strOfNums_size,qc9];decide
 ·omega
def qtt(key s:ByteArray):List Int:=qgw (strOfNums (qjh (qsu key) 92)++strOfNums (qgw (strOfNums (qjh (qsu key) 54)++s)))
def qf6:Array Value:=((List.replicate 32 (0:Int)).map (Value.int .u8)).toArray
attribute [local go_sem ↓ high] qls ql8
attribute [local go_sem] q3o q4s
theorem qu1{P:Program}{o:Oper}{a:Act}{w:World}(d s:Operand)(t g:TypeId)(l:o.op = .call {callee:= .builtin .copy,args:=#[d,s],argTypes:=#[t,g]})(v u:Value)(hd:a.eval d=v)(q:a.eval s=u){i:Value}{w':World}
  (m:(Builtin.copy_ #[t,g] o.type #[v,u]).run P w = .ok i w'):(execOp a.eval o).run P w = .ok (.value i) w':=by
 unfold execOp
 simp only[l,resolve,invoke,builtin,Sem.run_bind,Sem.run_pure,Result.andThen_ok,List.map_toArray,List.map_cons,List.map_nil,hd,q,m]
theorem qvh(key:ByteArray)(h:key.size≤64):(qie.toList.take 0++Lib.byteCells key.data.toList++qie.toList.drop (0+key.size))=(qif key).map (Value.int .u8):=by
 have o:qie.toList=List.replicate 64 (Value.int .u8 0):=rfl;have l:key.data.toList.length=key.size:=Array.length_toList;rw[o,List.take_zero,List.nil_append,Nat.zero_add,List.drop_replicate];refine List.ext_getElem? fun i=> ?_
 unfold qif Lib.byteCells;rw[List.getElem?_map,List.getElem?_map];by_cases m:i<key.size
 ·rw[List.getElem?_append_left (by rw[List.length_map,l];exact m),List.getElem?_map,List.getElem?_range (by omega)];have g:key.data.toList[i]? = some (key.data.toList.getD i 0):=by rw[List.getD_eq_getElem?_getD,List.getElem?_eq_getElem (by omega)];rfl
  rw[g];rfl
 ·rw[List.getElem?_append_right (by rw[List.length_map,l];omega),List.length_map,l,List.getElem?_replicate];by_cases g:i<64
  ·rw[if_pos (by omega),List.getElem?_range g];simp only[Option.map_some,bt];rw[List.getD_eq_getElem?_getD,List.getElem?_eq_none (by omega)];rfl
  ·rw[if_neg (by omega),List.getElem?_eq_none (by simp;omega)];rfl
set_option maxRecDepth 100000 in
set_option maxHeartbeats 4000000 in
theorem zgl(key s:ByteArray)(w:World)(hk:key.size≤100000000)(hs:s.size≤100000000)(hT:Tabs w) :
  Calls Tryz.prog 73 #[.string key,.string s] w fun e w'=>e = .returned (.agg ((qtt key s).map (Value.int .u8)).toArray)∧qq w w':=by
 go_enter Tryz.func73,Tryz.ntmps73
 go_upto_region 0 with fail
 refine wp_region_lit ?_
 refine zf rfl (v:= .pointer (some ⟨w.heap.size,0,none⟩)) (w':=w.alloc (.cells qf6 33)) (by kernel_rfl) ?_
 have n0:qq w (w.alloc (.cells qf6 33)):=(Upd.refl _ _).alloc _
 have vR:(w.alloc (.cells qf6 33)).heap[w.heap.size]? = some (.cells qf6 33 (0,0)):=qi _ _
 generalize w.alloc (.cells qf6 33)=w1 at n0 vR ⊢
 have e2:w.heap.size<w1.heap.size:=qad vR
 have a5:=q8i key
 have c5:qtt key s=qgw (strOfNums (qjh (qsu key) 92)++strOfNums (qgw (strOfNums (qjh (qsu key) 54)++s))):=rfl
 have c4:=qb c5
 clear c5
 by_cases hc:64<key.size
 ·have d1:qsu key=strOfNums (qgw key):=by unfold qsu;rw[if_pos hc]
  have e1:(64:Int)<(key.size:Int):=by omega
  have c0:=qks key w1 (by omega) (hT.new n0);have c2:=qc9 key;generalize qgw key=sk at d1 c0 c2;have d7:=qb d1;have c3:=qb c0;clear d1 c0;go_upto_region 2 with fail;refine wp_region_lit ?_;refine zf rfl (v:= .string key) (w':=w1) (by kernel_rfl) ?_;refine qd6 rfl (f:=89) (args:=#[.string key]) (w':=w1) (by kernel_rfl) ?_;refine(qa c3).mono ?_;rintro e L ⟨rfl,n2⟩;refine⟨_,rfl,?_⟩;refine zf rfl (v:= .pointer (some ⟨L.heap.size,0,none⟩)) (w':=L.alloc (.cells qf6 33)) (by kernel_rfl) ?_;have n3:qq L (L.alloc (.cells qf6 33)):=(Upd.refl _ _).alloc _;have c1:(L.alloc (.cells qf6 33)).heap[L.heap.size]? = some (.cells qf6 33 (0,0)):=qi _ _;generalize L.alloc (.cells qf6 33)=w3 at n3 c1 ⊢;refine wpList_store_row rfl _ _ _ rfl L.heap.size (sk.map (Value.int .u8)).toArray rfl rfl 33 _ c1 (by rw[List.size_toArray,List.length_map,c2];exact Tryz.infoHash) (by have h9:qf6.size=32:=rfl;rw[h9];simp[c2]) (by simp[Value.oneCell']) ?_;have c8:=setRow_heap w3 L.heap.size _ (sk.map (Value.int .u8)).toArray 33 (0,0) c1;have n4:qq L (w3.setRow L.heap.size (sk.map (Value.int .u8)).toArray):=n3.setRow (fun h=>by omega) _;generalize w3.setRow L.heap.size (sk.map (Value.int .u8)).toArray=w4 at c8 n4 ⊢;have h8:qig w4 L.heap.size sk:=⟨_,c8⟩;have E:=qeg h8 32 c2;have d9:=n2.trans n4;have b7:=qa d7;generalize a4:qsu key=m at b7 a5;rw[←b7] at E;have c6:=qb a4;clear n2 n3 c1 c8 n4 h8 c3 d7 b7 a4;obtain⟨wK,rfl⟩:∃wK:World,wK=w4:=⟨_,rfl⟩;have nK:=d9;clear d9;go_upto_region 4 with fail
  refine wp_region_lit ?_;refine zf rfl (v:= .pointer (some ⟨wK.heap.size,0,none⟩)) (w':=wK.alloc (.cells qie 161)) (by kernel_rfl) ?_;have n5:qq wK (wK.alloc (.cells qie 161)):=(Upd.refl _ _).alloc _;have y:(wK.alloc (.cells qie 161)).heap[wK.heap.size]? = some (.cells qie 161 (0,0)):=qi _ _;generalize wK.alloc (.cells qie 161)=w5 at n5 y ⊢;have d5:=nK.size;obtain⟨K,b4⟩:∃K,K=wK.heap.size:=⟨_,rfl⟩;rw[←b4] at y d5 ⊢;have d8:wK.heap.size≤K:=by omega
  clear b4;go_upto_region 5 with fail;refine wp_region_lit ?_;refine zf rfl (v:= .slice (some ⟨K,0,none⟩) 64 64) (w':=w5) (by kernel_rfl) ?_;refine zf rfl (v:= .string m) (w':=w5) (by kernel_rfl) ?_;refine zf rfl (v:=goInt m.size) (w':=w5.setRow K ((qif m).map (Value.int .u8)).toArray) (qu1 (.tmp 16) (.tmp 17) 22 9 rfl _ _ rfl rfl ?_) ?_
  ·have h:=Lib.run_copy_row_string (P:=Tryz.prog) w5 22 9 3 5 K 0 64 64 m qie 161 Tryz.underlying22 (by kernel_rfl) y a5 (by have h9:qie.size=64:=rfl;rw[h9];omega);rw[qvh m a5] at h;exact h
  have U:=setRow_heap w5 K _ ((qif m).map (Value.int .u8)).toArray 161 (0,0) y;have n6:qq wK (w5.setRow K ((qif m).map (Value.int .u8)).toArray):=n5.setRow (fun h=>by omega) _;generalize w5.setRow K ((qif m).map (Value.int .u8)).toArray=w6 at U n6 ⊢;have R:qig w6 K (qif m):=⟨_,U⟩;have X:=nK.trans n6;clear n5 y U;have g:=qb ((qa c4).trans (by rw[qa c6]));have d2:=qhn m 54 K;have d3:(strOfNums (qjh m 54)).size=64:=by rw[strOfNums_size,qoj]
  have d4:(strOfNums (qjh m 92)).size=64:=by rw[strOfNums_size,qoj]
  have M:=qb (fun W (n:qq w6 W)=>qhn m 54 K W ⟨_,(n.old R.choose_spec (fun h=>h))⟩ (by decide) (by decide));have N:=qb (fun W (n:qq w6 W)=>qhn m 92 K W ⟨_,(n.old R.choose_spec (fun h=>h))⟩ (by decide) (by decide));clear d2;generalize strOfNums (qjh m 54)=q1 at d3 g M;generalize strOfNums (qjh m 92)=I at d4 g N;have b8:=fun W h=>qks (q1++s) W (by rw[ByteArray.size_append];omega) h
  have O:=qb b8;have z:=qc9 (q1++s);generalize qgw (q1++s)=inn at O z g;have b6:(strOfNums inn).size=32:=by rw[strOfNums_size,z]
  clear b8;go_upto_region 7 with fail;refine wp_region_lit ?_;refine zf rfl (v:= .func (.func 92) #[] #[.pointer (some ⟨K,0,none⟩)]) (w':=w6) (by kernel_rfl) ?_;refine qd6 rfl (f:=92) (args:=#[.int .u8 54,.pointer (some ⟨K,0,none⟩)]) (w':=w6) (by kernel_rfl) ?_;refine(qa M _ (Upd.refl _ _)).mono ?_;rintro e w7 ⟨rfl,n7⟩;refine⟨_,rfl,?_⟩;have F:¬9223372036854775807<q1.size+s.size:=by omega
  refine zf rfl (v:= .string s) (w':=w7) (by kernel_rfl) ?_;refine zf rfl (v:= .string (q1++s)) (w':=w7) (by simp only[execOp];go_simp;first | done | omega) ?_;refine qd6 rfl (f:=89) (args:=#[.string (q1++s)]) (w':=w7) (by kernel_rfl) ?_;refine(qa O _ (hT.new (n0.trans (X.trans n7)))).mono ?_;rintro e t ⟨rfl,n8⟩;refine⟨_,rfl,?_⟩;refine zf rfl (v:= .pointer (some ⟨t.heap.size,0,none⟩)) (w':=t.alloc (.cells qf6 33)) (by kernel_rfl) ?_;have n9:qq t (t.alloc (.cells qf6 33)):=(Upd.refl _ _).alloc _;have D:(t.alloc (.cells qf6 33)).heap[t.heap.size]? = some (.cells qf6 33 (0,0)):=qi _ _;generalize t.alloc (.cells qf6 33)=w9 at n9 D ⊢;refine wpList_store_row rfl _ _ _ rfl t.heap.size (inn.map (Value.int .u8)).toArray (by kernel_rfl) (by kernel_rfl) 33 _ D (by rw[List.size_toArray,List.length_map,z];exact Tryz.infoHash) (by have h9:qf6.size=32:=rfl;rw[h9];simp[z]) (by simp[Value.oneCell']) ?_;have V:=setRow_heap w9 t.heap.size _ (inn.map (Value.int .u8)).toArray 33 (0,0) D;have nz:qq t (w9.setRow t.heap.size (inn.map (Value.int .u8)).toArray):=n9.setRow (fun h=>by omega) _;generalize w9.setRow t.heap.size (inn.map (Value.int .u8)).toArray=x at V nz ⊢;have b3:qig x t.heap.size inn:=⟨_,V⟩;have a6:=qb (fun W (n:qq x W)=>(⟨_,n.old b3.choose_spec (fun h=>h)⟩:qig W t.heap.size inn));have Y:qq w6 x:=n7.trans (n8.trans nz);have a8:=qb (fun W (n:qq x W)=>qa N W (Y.trans n));have Z:qq w1 x:=X.trans Y;have c7:=qb (fun W (n:qq x W)=>(hT.new n0).new (Z.trans n))
  have J:=Z.old vR (fun h=>h);have d6:qbg .u8 x w.heap.size (List.replicate 32 0):=⟨_,J⟩;generalize t.heap.size=G at a6 ⊢;clear F M O N n9 D V nz b3 n7 n8 X R J Y n6;generalize H:strOfNums inn=l at b6 g;have a7:=qb H;clear H;have b9:=fun W h=>qks (I++l) W (by rw[ByteArray.size_append];omega) h
  have a9:=qb b9;have C:=qc9 (I++l);generalize qgw (I++l)=out at a9 C g;clear b9;go_upto_region 8 with fail;go_simp;refine qo8 (by kernel_rfl) [[],[(0,25)],[],[(2,27)],[(1,26),(3,28)],[(4,29)],[(5,30)]] 31 rfl (by kernel_rfl) [(0,25),(1,26),(2,27),(3,28),(4,29),(5,30)] (by kernel_rfl) [6] (by kernel_rfl) [[(0,0)],[(0,0)],[(0,0)],[(0,0)],[(0,0)],[(0,0)],[(0,1)]] (by kernel_rfl)
   (zjc x w.heap.size out) qbt (isV [.func (.func 92) #[] #[.pointer (some ⟨K,0,none⟩)],.string I,.slice (some ⟨G,0,none⟩) 32 32,.string l,.string (I++l),.agg (out.map (Value.int .u8)).toArray,undef])
   (((Upd.refl _ _).drew)) (fun _=>qbt.all _ _) (fun _ _ _ _ _ _ _ _ _ h=>h) ?_ ?_
  ·refine .pure rfl (fun _=>qbt.all _ _) rfl ?_ <| .one rfl ?_ <| .pure rfl (fun _=>qbt.all _ _) rfl ?_ <| .one rfl ?_ <| .pure rfl (fun _=>qbt.all _ _) rfl ?_ <| .one rfl ?_ <| .one rfl ?_ <| .nil
   ·rintro qm w1 _;unfold zq;simp only[putL];go_simp
    first | exact⟨rfl,rfl⟩ | rfl
   ·rintro qm w1 i ⟨o,-⟩;replace i:qq x w1:=i;replace o:qm 0 = .func (.func 92) #[] #[.pointer (some ⟨K,0,none⟩)]:=o;unfold zq;simp only[putL];go_simp;refine(qa a8 w1 i).mono ?_;rintro e L ⟨rfl,n2⟩;exact⟨_,rfl,qbt.all _ _,i.trans n2,rfl⟩
   ·rintro qm w1 _;unfold zq;simp only[putL];go_simp
    first | exact⟨rfl,rfl⟩ | rfl
   ·rintro qm w1 i ⟨o,-⟩;replace i:qq x w1:=i;replace o:qm 2 = .slice (some ⟨G,0,none⟩) 32 32:=o;have E:=qeg (qa a6 w1 i) 32 z;rw[qa a7] at E;unfold zq;simp only[putL];go_simp;exact⟨qbt.all _ _,i,rfl⟩
   ·rintro qm w1 ⟨o,p1,-⟩;replace o:qm 1 = .string I:=o;replace p1:qm 3 = .string l:=p1;have F:¬9223372036854775807<I.size+l.size:=by omega
    unfold zq;simp only[putL];go_simp
    first | exact⟨rfl,rfl⟩ | rfl
   ·rintro qm w1 i ⟨o,-⟩;replace i:qq x w1:=i;replace o:qm 4 = .string (I++l):=o;unfold zq;simp only[putL];go_simp;refine(qa a9 w1 (qa c7 w1 i)).mono ?_;rintro e L ⟨rfl,n2⟩;exact⟨_,rfl,qbt.all _ _,i.trans n2,rfl⟩
   ·rintro qm w1 i ⟨o,-⟩;replace i:qq x w1:=i;replace o:qm 5 = .agg (out.map (Value.int .u8)).toArray:=o;have hI:=d6.upd i (fun h=>h);have E:=hI.stOk (r:=out) (n:=32) (by simp[C]) C;have b5:=qb (hI.setAll (r:=out) (by simp[C]));have u1:=qb ((i.mono (T:=fun k=>k=w.heap.size) (fun _ _ h=>h.elim)).then ((Upd.refl (· = w.heap.size) w1).setCells 0 (out.map (Value.int .u8))) (fun _ _ h=>h));have e0:(out.map (Value.int .u8)).toArray.toList=out.map (Value.int .u8):=rfl;generalize d0:(out.map (Value.int .u8)).toArray=cs at o E e0;generalize c9:out.map (Value.int .u8)=cl at e0 b5 u1;clear d0 c9 hI;unfold zq;simp only[putL];go_simp;exact⟨qbt.all _ _,⟨qa u1,qa b5⟩,rfl⟩
  ·intro qm w1 i hv;clear hv;replace i:Upd (fun k=>k=w.heap.size) x w1∧qbg .u8 w1 w.heap.size out:=i;obtain⟨u1,T1,hI⟩:=i;simp only[putL];have nE:=(n0.trans Z).then u1 (by intro q hq h;omega);go_wp2_with fail;refine bodyPost_ret (results_cell_row rfl _ _ w.heap.size T1 _ _ _ rfl hI Tryz.underlying33 rfl (by rw[List.size_toArray,List.length_map,C];exact Tryz.infoHash)) rfl ?_;exact⟨by rw[qa g],nE⟩
 ·have e1:¬(64:Int)<(key.size:Int):=by omega
  have a4:qsu key=key:=by unfold qsu;rw[if_neg hc]
  have c6:=qb a4;rw[a4] at a5;clear a4;obtain⟨m,rfl⟩:∃m:ByteArray,m=key:=⟨_,rfl⟩;have nK:qq w1 w1:=Upd.refl _ _;go_upto_region 4 with fail;refine wp_region_lit ?_;refine zf rfl (v:= .pointer (some ⟨w1.heap.size,0,none⟩)) (w':=w1.alloc (.cells qie 161)) (by kernel_rfl) ?_;have n5:qq w1 (w1.alloc (.cells qie 161)):=(Upd.refl _ _).alloc _;have y:(w1.alloc (.cells qie 161)).heap[w1.heap.size]? = some (.cells qie 161 (0,0)):=qi _ _;generalize w1.alloc (.cells qie 161)=w5 at n5 y ⊢;have d5:=nK.size;obtain⟨K,b4⟩:∃K,K=w1.heap.size:=⟨_,rfl⟩;rw[←b4] at y d5 ⊢;have d8:w1.heap.size≤K:=by omega
  clear b4;go_upto_region 5 with fail;refine wp_region_lit ?_;refine zf rfl (v:= .slice (some ⟨K,0,none⟩) 64 64) (w':=w5) (by kernel_rfl) ?_;refine zf rfl (v:= .string m) (w':=w5) (by kernel_rfl) ?_;refine zf rfl (v:=goInt m.size) (w':=w5.setRow K ((qif m).map (Value.int .u8)).toArray) (qu1 (.tmp 16) (.tmp 17) 22 9 rfl _ _ rfl rfl ?_) ?_
  ·have h:=Lib.run_copy_row_string (P:=Tryz.prog) w5 22 9 3 5 K 0 64 64 m qie 161 Tryz.underlying22 (by kernel_rfl) y a5 (by have h9:qie.size=64:=rfl;rw[h9];omega);rw[qvh m a5] at h;exact h
  have U:=setRow_heap w5 K _ ((qif m).map (Value.int .u8)).toArray 161 (0,0) y;have n6:qq w1 (w5.setRow K ((qif m).map (Value.int .u8)).toArray):=n5.setRow (fun h=>by omega) _;generalize w5.setRow K ((qif m).map (Value.int .u8)).toArray=w6 at U n6 ⊢;have R:qig w6 K (qif m):=⟨_,U⟩;have X:=nK.trans n6;clear n5 y U;have g:=qb ((qa c4).trans (by rw[qa c6]));have d2:=qhn m 54 K;have d3:(strOfNums (qjh m 54)).size=64:=by rw[strOfNums_size,qoj]
  have d4:(strOfNums (qjh m 92)).size=64:=by rw[strOfNums_size,qoj]
  have M:=qb (fun W (n:qq w6 W)=>qhn m 54 K W ⟨_,(n.old R.choose_spec (fun h=>h))⟩ (by decide) (by decide));have N:=qb (fun W (n:qq w6 W)=>qhn m 92 K W ⟨_,(n.old R.choose_spec (fun h=>h))⟩ (by decide) (by decide));clear d2;generalize strOfNums (qjh m 54)=q1 at d3 g M;generalize strOfNums (qjh m 92)=I at d4 g N;have b8:=fun W h=>qks (q1++s) W (by rw[ByteArray.size_append];omega) h
  have O:=qb b8;have z:=qc9 (q1++s);generalize qgw (q1++s)=inn at O z g;have b6:(strOfNums inn).size=32:=by rw[strOfNums_size,z]
  clear b8;go_upto_region 7 with fail;refine wp_region_lit ?_;refine zf rfl (v:= .func (.func 92) #[] #[.pointer (some ⟨K,0,none⟩)]) (w':=w6) (by kernel_rfl) ?_;refine qd6 rfl (f:=92) (args:=#[.int .u8 54,.pointer (some ⟨K,0,none⟩)]) (w':=w6) (by kernel_rfl) ?_;refine(qa M _ (Upd.refl _ _)).mono ?_;rintro e w7 ⟨rfl,n7⟩;refine⟨_,rfl,?_⟩;have F:¬9223372036854775807<q1.size+s.size:=by omega
  refine zf rfl (v:= .string s) (w':=w7) (by kernel_rfl) ?_;refine zf rfl (v:= .string (q1++s)) (w':=w7) (by simp only[execOp];go_simp;first | done | omega) ?_;refine qd6 rfl (f:=89) (args:=#[.string (q1++s)]) (w':=w7) (by kernel_rfl) ?_;refine(qa O _ (hT.new (n0.trans (X.trans n7)))).mono ?_;rintro e t ⟨rfl,n8⟩;refine⟨_,rfl,?_⟩;refine zf rfl (v:= .pointer (some ⟨t.heap.size,0,none⟩)) (w':=t.alloc (.cells qf6 33)) (by kernel_rfl) ?_;have n9:qq t (t.alloc (.cells qf6 33)):=(Upd.refl _ _).alloc _;have D:(t.alloc (.cells qf6 33)).heap[t.heap.size]? = some (.cells qf6 33 (0,0)):=qi _ _;generalize t.alloc (.cells qf6 33)=w9 at n9 D ⊢;refine wpList_store_row rfl _ _ _ rfl t.heap.size (inn.map (Value.int .u8)).toArray (by kernel_rfl) (by kernel_rfl) 33 _ D (by rw[List.size_toArray,List.length_map,z];exact Tryz.infoHash) (by have h9:qf6.size=32:=rfl;rw[h9];simp[z]) (by simp[Value.oneCell']) ?_;have V:=setRow_heap w9 t.heap.size _ (inn.map (Value.int .u8)).toArray 33 (0,0) D;have nz:qq t (w9.setRow t.heap.size (inn.map (Value.int .u8)).toArray):=n9.setRow (fun h=>by omega) _;generalize w9.setRow t.heap.size (inn.map (Value.int .u8)).toArray=x at V nz ⊢;have b3:qig x t.heap.size inn:=⟨_,V⟩;have a6:=qb (fun W (n:qq x W)=>(⟨_,n.old b3.choose_spec (fun h=>h)⟩:qig W t.heap.size inn));have Y:qq w6 x:=n7.trans (n8.trans nz);have a8:=qb (fun W (n:qq x W)=>qa N W (Y.trans n));have Z:qq w1 x:=X.trans Y;have c7:=qb (fun W (n:qq x W)=>(hT.new n0).new (Z.trans n))
  have J:=Z.old vR (fun h=>h);have d6:qbg .u8 x w.heap.size (List.replicate 32 0):=⟨_,J⟩;generalize t.heap.size=G at a6 ⊢;clear F M O N n9 D V nz b3 n7 n8 X R J Y n6;generalize H:strOfNums inn=l at b6 g;have a7:=qb H;clear H;have b9:=fun W h=>qks (I++l) W (by rw[ByteArray.size_append];omega) h
  have a9:=qb b9;have C:=qc9 (I++l);generalize qgw (I++l)=out at a9 C g;clear b9;go_upto_region 8 with fail;go_simp;refine qo8 (by kernel_rfl) [[],[(0,25)],[],[(2,27)],[(1,26),(3,28)],[(4,29)],[(5,30)]] 31 rfl (by kernel_rfl) [(0,25),(1,26),(2,27),(3,28),(4,29),(5,30)] (by kernel_rfl) [6] (by kernel_rfl) [[(0,0)],[(0,0)],[(0,0)],[(0,0)],[(0,0)],[(0,0)],[(0,1)]] (by kernel_rfl)
   (zjc x w.heap.size out) qbt (isV [.func (.func 92) #[] #[.pointer (some ⟨K,0,none⟩)],.string I,.slice (some ⟨G,0,none⟩) 32 32,.string l,.string (I++l),.agg (out.map (Value.int .u8)).toArray,undef])
   (((Upd.refl _ _).drew)) (fun _=>qbt.all _ _) (fun _ _ _ _ _ _ _ _ _ h=>h) ?_ ?_
  ·refine .pure rfl (fun _=>qbt.all _ _) rfl ?_ <| .one rfl ?_ <| .pure rfl (fun _=>qbt.all _ _) rfl ?_ <| .one rfl ?_ <| .pure rfl (fun _=>qbt.all _ _) rfl ?_ <| .one rfl ?_ <| .one rfl ?_ <| .nil
   ·rintro qm w1 _;unfold zq;simp only[putL];go_simp
    first | exact⟨rfl,rfl⟩ | rfl
   ·rintro qm w1 i ⟨o,-⟩;replace i:qq x w1:=i;replace o:qm 0 = .func (.func 92) #[] #[.pointer (some ⟨K,0,none⟩)]:=o;unfold zq;simp only[putL];go_simp;refine(qa a8 w1 i).mono ?_;rintro e L ⟨rfl,n2⟩;exact⟨_,rfl,qbt.all _ _,i.trans n2,rfl⟩
   ·rintro qm w1 _;unfold zq;simp only[putL];go_simp
    first | exact⟨rfl,rfl⟩ | rfl
   ·rintro qm w1 i ⟨o,-⟩;replace i:qq x w1:=i;replace o:qm 2 = .slice (some ⟨G,0,none⟩) 32 32:=o;have E:=qeg (qa a6 w1 i) 32 z;rw[qa a7] at E;unfold zq;simp only[putL];go_simp;exact⟨qbt.all _ _,i,rfl⟩
   ·rintro qm w1 ⟨o,p1,-⟩;replace o:qm 1 = .string I:=o;replace p1:qm 3 = .string l:=p1;have F:¬9223372036854775807<I.size+l.size:=by omega
    unfold zq;simp only[putL];go_simp
    first | exact⟨rfl,rfl⟩ | rfl
   ·rintro qm w1 i ⟨o,-⟩;replace i:qq x w1:=i;replace o:qm 4 = .string (I++l):=o;unfold zq;simp only[putL];go_simp;refine(qa a9 w1 (qa c7 w1 i)).mono ?_;rintro e L ⟨rfl,n2⟩;exact⟨_,rfl,qbt.all _ _,i.trans n2,rfl⟩
   ·rintro qm w1 i ⟨o,-⟩;replace i:qq x w1:=i;replace o:qm 5 = .agg (out.map (Value.int .u8)).toArray:=o;have hI:=d6.upd i (fun h=>h);have E:=hI.stOk (r:=out) (n:=32) (by simp[C]) C;have b5:=qb (hI.setAll (r:=out) (by simp[C]));have u1:=qb ((i.mono (T:=fun k=>k=w.heap.size) (fun _ _ h=>h.elim)).then ((Upd.refl (· = w.heap.size) w1).setCells 0 (out.map (Value.int .u8))) (fun _ _ h=>h));have e0:(out.map (Value.int .u8)).toArray.toList=out.map (Value.int .u8):=rfl;generalize d0:(out.map (Value.int .u8)).toArray=cs at o E e0;generalize c9:out.map (Value.int .u8)=cl at e0 b5 u1;clear d0 c9 hI;unfold zq;simp only[putL];go_simp;exact⟨qbt.all _ _,⟨qa u1,qa b5⟩,rfl⟩
  ·intro qm w1 i hv;clear hv;replace i:Upd (fun k=>k=w.heap.size) x w1∧qbg .u8 w1 w.heap.size out:=i;obtain⟨u1,T1,hI⟩:=i;simp only[putL];have nE:=(n0.trans Z).then u1 (by intro q hq h;omega);go_wp2_with fail;refine bodyPost_ret (results_cell_row rfl _ _ w.heap.size T1 _ _ _ rfl hI Tryz.underlying33 rfl (by rw[List.size_toArray,List.length_map,C];exact Tryz.infoHash)) rfl ?_;exact⟨by rw[qa g],nE⟩
end Go.Proofs.YthnohmjbbeahmaaGreatDoor
