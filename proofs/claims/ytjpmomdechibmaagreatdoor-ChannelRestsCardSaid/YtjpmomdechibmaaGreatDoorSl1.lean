/-
  Package seal: Tag; the reference's mixed and Tag.
-/
import Derived.Test.YtjpmomdechibmaaGreatDoorMbf
import Derived.Lib.BufferWrite
set_option linter.unusedVariables false
set_option linter.unusedSimpArgs false
namespace Go.Proofs.YtjpmomdechibmaaGreatDoor
open Go.RowKit
def qih(key:ByteArray)(x:Int):List Int:=(List.range 64).map fun i=>bits .xor .u8 (bt key i) x
theorem Tryz.infoB64:(Tryz.prog.info? 151).map (·.size)=some 64:=by kernel_rfl
def qhb:Array Value:=((List.replicate 64 (0:Int)).map (Value.int .u8)).toArray
def qhd(key:ByteArray):List Int:=(List.range 64).map fun i=>bt key i
def qii(key:ByteArray)(x:Int)(n:Nat):List Int:=(List.range 64).map fun i=>if i<n then bits .xor .u8 (bt key i) x else bt key i
theorem q46(key:ByteArray)(x:Int)(n:Nat):(qii key x n).length=64:=by unfold qii;simp
theorem q00(key:ByteArray)(x:Int):qii key x 0=qhd key:=by unfold qii qhd;exact List.map_congr_left fun i _=>by simp
theorem q45(key:ByteArray)(x:Int):qii key x 64=qih key x:=by unfold qii qih;exact List.map_congr_left fun i f=>by rw[if_pos (List.mem_range.1 f)]
theorem q8x(key:ByteArray)(x:Int)(n:Nat)(h:n<64):(qii key x n).getD n 0=bt key n:=by
 unfold qii
 rw[List.getD_eq_getElem?_getD,List.getElem?_map,List.getElem?_range h]
 simp
theorem q0z(key:ByteArray)(x:Int)(n:Nat)(h:n<64):(qii key x n).set n (bits .xor .u8 (bt key n) x)=qii key x (n+1):=by
 refine List.ext_getElem? fun i=> ?_
 unfold qii
 rw[List.getElem?_set,List.getElem?_map,List.getElem?_map]
 by_cases g:n=i
 ·subst g
  rw[if_pos rfl,if_pos (by simpa using h),List.getElem?_range h]
  simp
 ·rw[if_neg g]
  by_cases l:i<64
  ·rw[List.getElem?_range l]
   simp only[Option.map_some]
   by_cases f:i<n
   ·rw[if_pos f,if_pos (by omega)]
   ·rw[if_neg f,if_neg (by omega)]
  ·rw[List.getElem?_eq_none (by simp;omega)]
   rfl
set_option maxRecDepth 100000 in
set_option maxHeartbeats 1000000 in
theorem qgr(key:ByteArray)(x:Int)(K:Nat)(w:World)(C:qhe w K (qhd key))(Y:0≤x)(Z:x≤255) :
  Calls Tryz.prog 85 #[.int .u8 x,.pointer (some ⟨K,0,none⟩)] w (qa7 (.string (strOfNums (qih key x))) w):=by
 go_enter Tryz.func85,Tryz.ntmps85
 go_upto_region 1 with fail
 refine wp_region_lit ?_
 obtain⟨R,C⟩:=C
 refine wpList_load_row rfl _ _ rfl K rfl R _ _ _ C Tryz.underlying151 rfl (by rw[List.size_toArray,List.length_map];exact Tryz.infoB64) ?_
 refine zc rfl (v:= .pointer (some ⟨w.heap.size,0,none⟩)) (w':=w.alloc (.cells qhb 151)) (by kernel_rfl) ?_
 have H:qy w (w.alloc (.cells qhb 151)):=(Upd.refl _ _).alloc _
 have g:(w.alloc (.cells qhb 151)).heap[w.heap.size]? = some (.cells qhb 151 (0,0)):=qi _ _
 generalize w.alloc (.cells qhb 151)=w1 at H g ⊢
 have E:(qhd key).length=64:=by simp[qhd]
 refine wpList_store_row rfl _ _ _ rfl w.heap.size ((qhd key).map (Value.int .u8)).toArray rfl rfl 151 _ g (by rw[List.size_toArray,List.length_map,E];exact Tryz.infoB64) (by have T:qhb.size=64:=rfl;rw[T];simp[E]) (by simp[Value.oneCell']) ?_
 have D:=setRow_heap w1 w.heap.size _ ((qhd key).map (Value.int .u8)).toArray 151 (0,0) g
 have I:qy w (w1.setRow w.heap.size ((qhd key).map (Value.int .u8)).toArray):=H.setRow (fun h=>by omega) _
 generalize w1.setRow w.heap.size ((qhd key).map (Value.int .u8)).toArray=V at D I ⊢
 have O:qba .u8 V w.heap.size (qhd key):=⟨_,D⟩
 clear D H g C E
 go_wp2_with fail
 go_loopw [5,7] (fun _ F wr=>∃i:Nat,F = .int .i64 (i:Int)∧i≤64∧qba .u8 wr w.heap.size (qii key x i)∧qy w wr) (fun _ F _=>64-(intOf F).toNat)
 case atStart=>exact⟨0,rfl,by omega,by rw[q00];exact O,I⟩
 case round =>
  clear O I
  obtain⟨i,rfl,hi,l,M⟩:=hrel
  by_cases z:i<64
  ·have J:wr.cell? ⟨w.heap.size,i,none⟩=some (.int .u8 ((qii key x i).getD i 0)):=l.cell (by rw[q46];omega)
   rw[q8x key x i z] at J
   have z0:=l.free i
   have f:=l.set i (bits .xor .u8 (bt key i) x)
   rw[q0z key x i z] at f
   have N:qy w (wr.setCell ⟨w.heap.size,i,none⟩ (.int .u8 (bits .xor .u8 (bt key i) x))):=M.setCell (fun h=>by simp at h) _
   obtain⟨W,X⟩:=qwi key i
   have m:=qb f
   have o:=qb N
   clear f N l
   have U:(i:Int)<64:=by omega
   generalize bt key i=y at J W X m o
   go_wp2
   go_roundw
   case rel=>exact⟨i+1,by go_num,by omega,qa m,qa o⟩
   case measure=>simp[intOf];omega
  ·obtain rfl:i=64:=by omega
   rw[show ((64:Nat):Int)=64 from rfl]
   rw[q45] at l
   have t:qhe wr w.heap.size (qih key x):=l
   have f:=qd0 t 64 (by unfold qih;simp)
   generalize L:strOfNums (qih key x)=q at f
   have P:=qb L
   clear L l t
   go_wp2
   go_ret
   exact⟨by rw[qa P];rfl,M⟩
theorem qmp(key:ByteArray)(x:Int):(qih key x).length=64:=by simp[qih]
def qqs(key:ByteArray):ByteArray:=if 64<key.size then strOfNums (qf7 key) else key
theorem q4y(key:ByteArray):(qqs key).size≤64:=by
 unfold qqs
 split
 ·rw[strOfNums_size,qck];decide
 ·omega
def qrq(key s:ByteArray):List Int:=qf7 (strOfNums (qih (qqs key) 92)++strOfNums (qf7 (strOfNums (qih (qqs key) 54)++s)))
def qfi:Array Value:=((List.replicate 32 (0:Int)).map (Value.int .u8)).toArray
attribute [local go_sem ↓ high] qkn qkz
attribute [local go_sem] q0q q1v
theorem qsq{P:Program}{o:Oper}{a:Act}{w:World}(d s:Operand)(t f:TypeId)(l:o.op = .call {callee:= .builtin .copy,args:=#[d,s],argTypes:=#[t,f]})(v u:Value)(i:a.eval d=v)(q:a.eval s=u){g:Value}{w':World}
  (m:(Builtin.copy_ #[t,f] o.type #[v,u]).run P w = .ok g w'):(execOp a.eval o).run P w = .ok (.value g) w':=by
 unfold execOp
 simp only[l,resolve,invoke,builtin,Sem.run_bind,Sem.run_pure,Result.andThen_ok,List.map_toArray,List.map_cons,List.map_nil,i,q,m]
theorem qta(key:ByteArray)(h:key.size≤64):(qhb.toList.take 0++Lib.byteCells key.data.toList++qhb.toList.drop (0+key.size))=(qhd key).map (Value.int .u8):=by
 have m:qhb.toList=List.replicate 64 (Value.int .u8 0):=rfl
 have g:key.data.toList.length=key.size:=Array.length_toList
 rw[m,List.take_zero,List.nil_append,Nat.zero_add,List.drop_replicate]
 refine List.ext_getElem? fun i=> ?_
 unfold qhd Lib.byteCells
 rw[List.getElem?_map,List.getElem?_map]
 by_cases l:i<key.size
 ·rw[List.getElem?_append_left (by rw[List.length_map,g];exact l),List.getElem?_map,List.getElem?_range (by omega)]
  have f:key.data.toList[i]? = some (key.data.toList.getD i 0):=by rw[List.getD_eq_getElem?_getD,List.getElem?_eq_getElem (by omega)];rfl
  rw[f]
  rfl
 ·rw[List.getElem?_append_right (by rw[List.length_map,g];omega),List.length_map,g,List.getElem?_replicate]
  by_cases f:i<64
  ·rw[if_pos (by omega),List.getElem?_range f]
   simp only[Option.map_some,bt]
   rw[List.getD_eq_getElem?_getD,List.getElem?_eq_none (by omega)]
   rfl
  ·rw[if_neg (by omega),List.getElem?_eq_none (by simp;omega)]
   rfl
set_option maxRecDepth 100000 in
set_option maxHeartbeats 4000000 in
theorem zcb(key s:ByteArray)(w:World)(hk:key.size≤100000000)(hs:s.size≤100000000)(hT:Tabs w) :
  Calls Tryz.prog 58 #[.string key,.string s] w fun e w'=>e = .returned (.agg ((qrq key s).map (Value.int .u8)).toArray)∧qy w w':=by
 go_enter Tryz.func58,Tryz.ntmps58
 go_upto_region 0 with fail
 refine wp_region_lit ?_
 refine zc rfl (v:= .pointer (some ⟨w.heap.size,0,none⟩)) (w':=w.alloc (.cells qfi 28)) (by kernel_rfl) ?_
 have n0:qy w (w.alloc (.cells qfi 28)):=(Upd.refl _ _).alloc _
 have vR:(w.alloc (.cells qfi 28)).heap[w.heap.size]? = some (.cells qfi 28 (0,0)):=qi _ _
 generalize w.alloc (.cells qfi 28)=w1 at n0 vR ⊢
 have e2:w.heap.size<w1.heap.size:=zw vR
 have a5:=q4y key
 have c5:qrq key s=qf7 (strOfNums (qih (qqs key) 92)++strOfNums (qf7 (strOfNums (qih (qqs key) 54)++s))):=rfl
 have c4:=qb c5
 clear c5
 by_cases hc:64<key.size
 ·have d1:qqs key=strOfNums (qf7 key):=by unfold qqs;rw[if_pos hc]
  have e1:(64:Int)<(key.size:Int):=by omega
  have c0:=qjx key w1 (by omega) (hT.new n0)
  have c2:=qck key
  generalize qf7 key=sk at d1 c0 c2
  have d7:=qb d1
  have c3:=qb c0
  clear d1 c0
  go_upto_region 2 with fail
  refine wp_region_lit ?_
  refine zc rfl (v:= .string key) (w':=w1) (by kernel_rfl) ?_
  refine qdr rfl (f:=84) (args:=#[.string key]) (w':=w1) (by kernel_rfl) ?_
  refine(qa c3).mono ?_
  rintro e L ⟨rfl,n2⟩
  refine⟨_,rfl,?_⟩
  refine zc rfl (v:= .pointer (some ⟨L.heap.size,0,none⟩)) (w':=L.alloc (.cells qfi 28)) (by kernel_rfl) ?_
  have n3:qy L (L.alloc (.cells qfi 28)):=(Upd.refl _ _).alloc _
  have c1:(L.alloc (.cells qfi 28)).heap[L.heap.size]? = some (.cells qfi 28 (0,0)):=qi _ _
  generalize L.alloc (.cells qfi 28)=w3 at n3 c1 ⊢
  refine wpList_store_row rfl _ _ _ rfl L.heap.size (sk.map (Value.int .u8)).toArray rfl rfl 28 _ c1 (by rw[List.size_toArray,List.length_map,c2];exact Tryz.infoHash) (by have h9:qfi.size=32:=rfl;rw[h9];simp[c2]) (by simp[Value.oneCell']) ?_
  have c8:=setRow_heap w3 L.heap.size _ (sk.map (Value.int .u8)).toArray 28 (0,0) c1
  have n4:qy L (w3.setRow L.heap.size (sk.map (Value.int .u8)).toArray):=n3.setRow (fun h=>by omega) _
  generalize w3.setRow L.heap.size (sk.map (Value.int .u8)).toArray=w4 at c8 n4 ⊢
  have h8:qhe w4 L.heap.size sk:=⟨_,c8⟩
  have E:=qd0 h8 32 c2
  have d9:=n2.trans n4
  have b7:=qa d7
  generalize a4:qqs key=m at b7 a5
  rw[←b7] at E
  have c6:=qb a4
  clear n2 n3 c1 c8 n4 h8 c3 d7 b7 a4
  obtain⟨wK,rfl⟩:∃wK:World,wK=w4:=⟨_,rfl⟩
  have nK:=d9
  clear d9
  go_upto_region 4 with fail
  refine wp_region_lit ?_
  refine zc rfl (v:= .pointer (some ⟨wK.heap.size,0,none⟩)) (w':=wK.alloc (.cells qhb 151)) (by kernel_rfl) ?_
  have n5:qy wK (wK.alloc (.cells qhb 151)):=(Upd.refl _ _).alloc _
  have y:(wK.alloc (.cells qhb 151)).heap[wK.heap.size]? = some (.cells qhb 151 (0,0)):=qi _ _
  generalize wK.alloc (.cells qhb 151)=w5 at n5 y ⊢
  have d5:=nK.size
  obtain⟨K,b4⟩:∃K,K=wK.heap.size:=⟨_,rfl⟩
  rw[←b4] at y d5 ⊢
  have d8:wK.heap.size≤K:=by omega
  clear b4
  go_upto_region 5 with fail
  refine wp_region_lit ?_
  refine zc rfl (v:= .slice (some ⟨K,0,none⟩) 64 64) (w':=w5) (by kernel_rfl) ?_
  refine zc rfl (v:= .string m) (w':=w5) (by kernel_rfl) ?_
  refine zc rfl (v:=goInt m.size) (w':=w5.setRow K ((qhd m).map (Value.int .u8)).toArray) (qsq (.tmp 16) (.tmp 17) 111 9 rfl _ _ rfl rfl ?_) ?_
  ·have h:=Lib.run_copy_row_string (P:=Tryz.prog) w5 111 9 3 5 K 0 64 64 m qhb 151 Tryz.underlying111 (by kernel_rfl) y a5 (by have h9:qhb.size=64:=rfl;rw[h9];omega)
   rw[qta m a5] at h
   exact h
  have U:=setRow_heap w5 K _ ((qhd m).map (Value.int .u8)).toArray 151 (0,0) y
  have n6:qy wK (w5.setRow K ((qhd m).map (Value.int .u8)).toArray):=n5.setRow (fun h=>by omega) _
  generalize w5.setRow K ((qhd m).map (Value.int .u8)).toArray=w6 at U n6 ⊢
  have R:qhe w6 K (qhd m):=⟨_,U⟩
  have X:=nK.trans n6
  clear n5 y U
  have g:=qb ((qa c4).trans (by rw[qa c6]))
  have d2:=qgr m 54 K
  have d3:(strOfNums (qih m 54)).size=64:=by rw[strOfNums_size,qmp]
  have d4:(strOfNums (qih m 92)).size=64:=by rw[strOfNums_size,qmp]
  have M:=qb (fun W (n:qy w6 W)=>qgr m 54 K W ⟨_,(n.old R.choose_spec (fun h=>h))⟩ (by decide) (by decide))
  have N:=qb (fun W (n:qy w6 W)=>qgr m 92 K W ⟨_,(n.old R.choose_spec (fun h=>h))⟩ (by decide) (by decide))
  clear d2
  generalize strOfNums (qih m 54)=q1 at d3 g M
  generalize strOfNums (qih m 92)=I at d4 g N
  have b8:=fun W h=>qjx (q1++s) W (by rw[ByteArray.size_append];omega) h
  have O:=qb b8
  have z:=qck (q1++s)
  generalize qf7 (q1++s)=inn at O z g
  have b6:(strOfNums inn).size=32:=by rw[strOfNums_size,z]
  clear b8
  go_upto_region 7 with fail
  refine wp_region_lit ?_
  refine zc rfl (v:= .func (.func 85) #[] #[.pointer (some ⟨K,0,none⟩)]) (w':=w6) (by kernel_rfl) ?_
  refine qdr rfl (f:=85) (args:=#[.int .u8 54,.pointer (some ⟨K,0,none⟩)]) (w':=w6) (by kernel_rfl) ?_
  refine(qa M _ (Upd.refl _ _)).mono ?_
  rintro e w7 ⟨rfl,n7⟩
  refine⟨_,rfl,?_⟩
  have F:¬9223372036854775807<q1.size+s.size:=by omega
  refine zc rfl (v:= .string s) (w':=w7) (by kernel_rfl) ?_
  refine zc rfl (v:= .string (q1++s)) (w':=w7) (by simp only[execOp];go_simp;first | done | omega) ?_
  refine qdr rfl (f:=84) (args:=#[.string (q1++s)]) (w':=w7) (by kernel_rfl) ?_
  refine(qa O _ (hT.new (n0.trans (X.trans n7)))).mono ?_
  rintro e t ⟨rfl,n8⟩
  refine⟨_,rfl,?_⟩
  refine zc rfl (v:= .pointer (some ⟨t.heap.size,0,none⟩)) (w':=t.alloc (.cells qfi 28)) (by kernel_rfl) ?_
  have n9:qy t (t.alloc (.cells qfi 28)):=(Upd.refl _ _).alloc _
  have D:(t.alloc (.cells qfi 28)).heap[t.heap.size]? = some (.cells qfi 28 (0,0)):=qi _ _
  generalize t.alloc (.cells qfi 28)=w9 at n9 D ⊢
  refine wpList_store_row rfl _ _ _ rfl t.heap.size (inn.map (Value.int .u8)).toArray (by kernel_rfl) (by kernel_rfl) 28 _ D (by rw[List.size_toArray,List.length_map,z];exact Tryz.infoHash) (by have h9:qfi.size=32:=rfl;rw[h9];simp[z]) (by simp[Value.oneCell']) ?_
  have V:=setRow_heap w9 t.heap.size _ (inn.map (Value.int .u8)).toArray 28 (0,0) D
  have nz:qy t (w9.setRow t.heap.size (inn.map (Value.int .u8)).toArray):=n9.setRow (fun h=>by omega) _
  generalize w9.setRow t.heap.size (inn.map (Value.int .u8)).toArray=x at V nz ⊢
  have b3:qhe x t.heap.size inn:=⟨_,V⟩
  have a6:=qb (fun W (n:qy x W)=>(⟨_,n.old b3.choose_spec (fun h=>h)⟩:qhe W t.heap.size inn))
  have Y:qy w6 x:=n7.trans (n8.trans nz)
  have a8:=qb (fun W (n:qy x W)=>qa N W (Y.trans n))
  have Z:qy w1 x:=X.trans Y
  have c7:=qb (fun W (n:qy x W)=>(hT.new n0).new (Z.trans n))
  have J:=Z.old vR (fun h=>h)
  have d6:qba .u8 x w.heap.size (List.replicate 32 0):=⟨_,J⟩
  generalize t.heap.size=G at a6 ⊢
  clear F M O N n9 D V nz b3 n7 n8 X R J Y n6
  generalize H:strOfNums inn=l at b6 g
  have a7:=qb H
  clear H
  have b9:=fun W h=>qjx (I++l) W (by rw[ByteArray.size_append];omega) h
  have a9:=qb b9
  have C:=qck (I++l)
  generalize qf7 (I++l)=out at a9 C g
  clear b9
  go_upto_region 8 with fail
  go_simp
  refine qnd (by kernel_rfl) [[],[(0,25)],[],[(2,27)],[(1,26),(3,28)],[(4,29)],[(5,30)]] 31 rfl (by kernel_rfl) [(0,25),(1,26),(2,27),(3,28),(4,29),(5,30)] (by kernel_rfl) [6] (by kernel_rfl) [[(0,0)],[(0,0)],[(0,0)],[(0,0)],[(0,0)],[(0,0)],[(0,1)]] (by kernel_rfl)
   (ze0 x w.heap.size out) qbl (isV [.func (.func 85) #[] #[.pointer (some ⟨K,0,none⟩)],.string I,.slice (some ⟨G,0,none⟩) 32 32,.string l,.string (I++l),.agg (out.map (Value.int .u8)).toArray,undef])
   (((Upd.refl _ _).drew)) (fun _=>qbl.all _ _) (fun _ _ _ _ _ _ _ _ _ h=>h) ?_ ?_
  ·refine .pure rfl (fun _=>qbl.all _ _) rfl ?_ <| .one rfl ?_ <| .pure rfl (fun _=>qbl.all _ _) rfl ?_ <| .one rfl ?_ <| .pure rfl (fun _=>qbl.all _ _) rfl ?_ <| .one rfl ?_ <| .one rfl ?_ <| .nil
   ·rintro ql w1 _
    unfold zk;simp only[putL];go_simp
    first | exact⟨rfl,rfl⟩ | rfl
   ·rintro ql w1 i ⟨o,-⟩
    replace i:qy x w1:=i
    replace o:ql 0 = .func (.func 85) #[] #[.pointer (some ⟨K,0,none⟩)]:=o
    unfold zk;simp only[putL];go_simp
    refine(qa a8 w1 i).mono ?_
    rintro e L ⟨rfl,n2⟩
    exact⟨_,rfl,qbl.all _ _,i.trans n2,rfl⟩
   ·rintro ql w1 _
    unfold zk;simp only[putL];go_simp
    first | exact⟨rfl,rfl⟩ | rfl
   ·rintro ql w1 i ⟨o,-⟩
    replace i:qy x w1:=i
    replace o:ql 2 = .slice (some ⟨G,0,none⟩) 32 32:=o
    have E:=qd0 (qa a6 w1 i) 32 z
    rw[qa a7] at E
    unfold zk;simp only[putL];go_simp
    exact⟨qbl.all _ _,i,rfl⟩
   ·rintro ql w1 ⟨o,p1,-⟩
    replace o:ql 1 = .string I:=o
    replace p1:ql 3 = .string l:=p1
    have F:¬9223372036854775807<I.size+l.size:=by omega
    unfold zk;simp only[putL];go_simp
    first | exact⟨rfl,rfl⟩ | rfl
   ·rintro ql w1 i ⟨o,-⟩
    replace i:qy x w1:=i
    replace o:ql 4 = .string (I++l):=o
    unfold zk;simp only[putL];go_simp
    refine(qa a9 w1 (qa c7 w1 i)).mono ?_
    rintro e L ⟨rfl,n2⟩
    exact⟨_,rfl,qbl.all _ _,i.trans n2,rfl⟩
   ·rintro ql w1 i ⟨o,-⟩
    replace i:qy x w1:=i
    replace o:ql 5 = .agg (out.map (Value.int .u8)).toArray:=o
    have hI:=d6.upd i (fun h=>h)
    have E:=hI.stOk (r:=out) (n:=32) (by simp[C]) C
    have b5:=qb (hI.setAll (r:=out) (by simp[C]))
    have u1:=qb ((i.mono (T:=fun k=>k=w.heap.size) (fun _ _ h=>h.elim)).then ((Upd.refl (· = w.heap.size) w1).setCells 0 (out.map (Value.int .u8))) (fun _ _ h=>h))
    have e0:(out.map (Value.int .u8)).toArray.toList=out.map (Value.int .u8):=rfl
    generalize d0:(out.map (Value.int .u8)).toArray=cs at o E e0
    generalize c9:out.map (Value.int .u8)=cl at e0 b5 u1
    clear d0 c9 hI
    unfold zk;simp only[putL];go_simp
    exact⟨qbl.all _ _,⟨qa u1,qa b5⟩,rfl⟩
  ·intro ql w1 i hv
   clear hv
   replace i:Upd (fun k=>k=w.heap.size) x w1∧qba .u8 w1 w.heap.size out:=i
   obtain⟨u1,T1,hI⟩:=i
   simp only[putL]
   have nE:=(n0.trans Z).then u1 (by intro q hq h;omega)
   go_wp2_with fail
   refine bodyPost_ret (results_cell_row rfl _ _ w.heap.size T1 _ _ _ rfl hI Tryz.underlying28 rfl (by rw[List.size_toArray,List.length_map,C];exact Tryz.infoHash)) rfl ?_
   exact⟨by rw[qa g],nE⟩
 ·have e1:¬(64:Int)<(key.size:Int):=by omega
  have a4:qqs key=key:=by unfold qqs;rw[if_neg hc]
  have c6:=qb a4
  rw[a4] at a5
  clear a4
  obtain⟨m,rfl⟩:∃m:ByteArray,m=key:=⟨_,rfl⟩
  have nK:qy w1 w1:=Upd.refl _ _
  go_upto_region 4 with fail
  refine wp_region_lit ?_
  refine zc rfl (v:= .pointer (some ⟨w1.heap.size,0,none⟩)) (w':=w1.alloc (.cells qhb 151)) (by kernel_rfl) ?_
  have n5:qy w1 (w1.alloc (.cells qhb 151)):=(Upd.refl _ _).alloc _
  have y:(w1.alloc (.cells qhb 151)).heap[w1.heap.size]? = some (.cells qhb 151 (0,0)):=qi _ _
  generalize w1.alloc (.cells qhb 151)=w5 at n5 y ⊢
  have d5:=nK.size
  obtain⟨K,b4⟩:∃K,K=w1.heap.size:=⟨_,rfl⟩
  rw[←b4] at y d5 ⊢
  have d8:w1.heap.size≤K:=by omega
  clear b4
  go_upto_region 5 with fail
  refine wp_region_lit ?_
  refine zc rfl (v:= .slice (some ⟨K,0,none⟩) 64 64) (w':=w5) (by kernel_rfl) ?_
  refine zc rfl (v:= .string m) (w':=w5) (by kernel_rfl) ?_
  refine zc rfl (v:=goInt m.size) (w':=w5.setRow K ((qhd m).map (Value.int .u8)).toArray) (qsq (.tmp 16) (.tmp 17) 111 9 rfl _ _ rfl rfl ?_) ?_
  ·have h:=Lib.run_copy_row_string (P:=Tryz.prog) w5 111 9 3 5 K 0 64 64 m qhb 151 Tryz.underlying111 (by kernel_rfl) y a5 (by have h9:qhb.size=64:=rfl;rw[h9];omega)
   rw[qta m a5] at h
   exact h
  have U:=setRow_heap w5 K _ ((qhd m).map (Value.int .u8)).toArray 151 (0,0) y
  have n6:qy w1 (w5.setRow K ((qhd m).map (Value.int .u8)).toArray):=n5.setRow (fun h=>by omega) _
  generalize w5.setRow K ((qhd m).map (Value.int .u8)).toArray=w6 at U n6 ⊢
  have R:qhe w6 K (qhd m):=⟨_,U⟩
  have X:=nK.trans n6
  clear n5 y U
  have g:=qb ((qa c4).trans (by rw[qa c6]))
  have d2:=qgr m 54 K
  have d3:(strOfNums (qih m 54)).size=64:=by rw[strOfNums_size,qmp]
  have d4:(strOfNums (qih m 92)).size=64:=by rw[strOfNums_size,qmp]
  have M:=qb (fun W (n:qy w6 W)=>qgr m 54 K W ⟨_,(n.old R.choose_spec (fun h=>h))⟩ (by decide) (by decide))
  have N:=qb (fun W (n:qy w6 W)=>qgr m 92 K W ⟨_,(n.old R.choose_spec (fun h=>h))⟩ (by decide) (by decide))
  clear d2
  generalize strOfNums (qih m 54)=q1 at d3 g M
  generalize strOfNums (qih m 92)=I at d4 g N
  have b8:=fun W h=>qjx (q1++s) W (by rw[ByteArray.size_append];omega) h
  have O:=qb b8
  have z:=qck (q1++s)
  generalize qf7 (q1++s)=inn at O z g
  have b6:(strOfNums inn).size=32:=by rw[strOfNums_size,z]
  clear b8
  go_upto_region 7 with fail
  refine wp_region_lit ?_
  refine zc rfl (v:= .func (.func 85) #[] #[.pointer (some ⟨K,0,none⟩)]) (w':=w6) (by kernel_rfl) ?_
  refine qdr rfl (f:=85) (args:=#[.int .u8 54,.pointer (some ⟨K,0,none⟩)]) (w':=w6) (by kernel_rfl) ?_
  refine(qa M _ (Upd.refl _ _)).mono ?_
  rintro e w7 ⟨rfl,n7⟩
  refine⟨_,rfl,?_⟩
  have F:¬9223372036854775807<q1.size+s.size:=by omega
  refine zc rfl (v:= .string s) (w':=w7) (by kernel_rfl) ?_
  refine zc rfl (v:= .string (q1++s)) (w':=w7) (by simp only[execOp];go_simp;first | done | omega) ?_
  refine qdr rfl (f:=84) (args:=#[.string (q1++s)]) (w':=w7) (by kernel_rfl) ?_
  refine(qa O _ (hT.new (n0.trans (X.trans n7)))).mono ?_
  rintro e t ⟨rfl,n8⟩
  refine⟨_,rfl,?_⟩
  refine zc rfl (v:= .pointer (some ⟨t.heap.size,0,none⟩)) (w':=t.alloc (.cells qfi 28)) (by kernel_rfl) ?_
  have n9:qy t (t.alloc (.cells qfi 28)):=(Upd.refl _ _).alloc _
  have D:(t.alloc (.cells qfi 28)).heap[t.heap.size]? = some (.cells qfi 28 (0,0)):=qi _ _
  generalize t.alloc (.cells qfi 28)=w9 at n9 D ⊢
  refine wpList_store_row rfl _ _ _ rfl t.heap.size (inn.map (Value.int .u8)).toArray (by kernel_rfl) (by kernel_rfl) 28 _ D (by rw[List.size_toArray,List.length_map,z];exact Tryz.infoHash) (by have h9:qfi.size=32:=rfl;rw[h9];simp[z]) (by simp[Value.oneCell']) ?_
  have V:=setRow_heap w9 t.heap.size _ (inn.map (Value.int .u8)).toArray 28 (0,0) D
  have nz:qy t (w9.setRow t.heap.size (inn.map (Value.int .u8)).toArray):=n9.setRow (fun h=>by omega) _
  generalize w9.setRow t.heap.size (inn.map (Value.int .u8)).toArray=x at V nz ⊢
  have b3:qhe x t.heap.size inn:=⟨_,V⟩
  have a6:=qb (fun W (n:qy x W)=>(⟨_,n.old b3.choose_spec (fun h=>h)⟩:qhe W t.heap.size inn))
  have Y:qy w6 x:=n7.trans (n8.trans nz)
  have a8:=qb (fun W (n:qy x W)=>qa N W (Y.trans n))
  have Z:qy w1 x:=X.trans Y
  have c7:=qb (fun W (n:qy x W)=>(hT.new n0).new (Z.trans n))
  have J:=Z.old vR (fun h=>h)
  have d6:qba .u8 x w.heap.size (List.replicate 32 0):=⟨_,J⟩
  generalize t.heap.size=G at a6 ⊢
  clear F M O N n9 D V nz b3 n7 n8 X R J Y n6
  generalize H:strOfNums inn=l at b6 g
  have a7:=qb H
  clear H
  have b9:=fun W h=>qjx (I++l) W (by rw[ByteArray.size_append];omega) h
  have a9:=qb b9
  have C:=qck (I++l)
  generalize qf7 (I++l)=out at a9 C g
  clear b9
  go_upto_region 8 with fail
  go_simp
  refine qnd (by kernel_rfl) [[],[(0,25)],[],[(2,27)],[(1,26),(3,28)],[(4,29)],[(5,30)]] 31 rfl (by kernel_rfl) [(0,25),(1,26),(2,27),(3,28),(4,29),(5,30)] (by kernel_rfl) [6] (by kernel_rfl) [[(0,0)],[(0,0)],[(0,0)],[(0,0)],[(0,0)],[(0,0)],[(0,1)]] (by kernel_rfl)
   (ze0 x w.heap.size out) qbl (isV [.func (.func 85) #[] #[.pointer (some ⟨K,0,none⟩)],.string I,.slice (some ⟨G,0,none⟩) 32 32,.string l,.string (I++l),.agg (out.map (Value.int .u8)).toArray,undef])
   (((Upd.refl _ _).drew)) (fun _=>qbl.all _ _) (fun _ _ _ _ _ _ _ _ _ h=>h) ?_ ?_
  ·refine .pure rfl (fun _=>qbl.all _ _) rfl ?_ <| .one rfl ?_ <| .pure rfl (fun _=>qbl.all _ _) rfl ?_ <| .one rfl ?_ <| .pure rfl (fun _=>qbl.all _ _) rfl ?_ <| .one rfl ?_ <| .one rfl ?_ <| .nil
   ·rintro ql w1 _
    unfold zk;simp only[putL];go_simp
    first | exact⟨rfl,rfl⟩ | rfl
   ·rintro ql w1 i ⟨o,-⟩
    replace i:qy x w1:=i
    replace o:ql 0 = .func (.func 85) #[] #[.pointer (some ⟨K,0,none⟩)]:=o
    unfold zk;simp only[putL];go_simp
    refine(qa a8 w1 i).mono ?_
    rintro e L ⟨rfl,n2⟩
    exact⟨_,rfl,qbl.all _ _,i.trans n2,rfl⟩
   ·rintro ql w1 _
    unfold zk;simp only[putL];go_simp
    first | exact⟨rfl,rfl⟩ | rfl
   ·rintro ql w1 i ⟨o,-⟩
    replace i:qy x w1:=i
    replace o:ql 2 = .slice (some ⟨G,0,none⟩) 32 32:=o
    have E:=qd0 (qa a6 w1 i) 32 z
    rw[qa a7] at E
    unfold zk;simp only[putL];go_simp
    exact⟨qbl.all _ _,i,rfl⟩
   ·rintro ql w1 ⟨o,p1,-⟩
    replace o:ql 1 = .string I:=o
    replace p1:ql 3 = .string l:=p1
    have F:¬9223372036854775807<I.size+l.size:=by omega
    unfold zk;simp only[putL];go_simp
    first | exact⟨rfl,rfl⟩ | rfl
   ·rintro ql w1 i ⟨o,-⟩
    replace i:qy x w1:=i
    replace o:ql 4 = .string (I++l):=o
    unfold zk;simp only[putL];go_simp
    refine(qa a9 w1 (qa c7 w1 i)).mono ?_
    rintro e L ⟨rfl,n2⟩
    exact⟨_,rfl,qbl.all _ _,i.trans n2,rfl⟩
   ·rintro ql w1 i ⟨o,-⟩
    replace i:qy x w1:=i
    replace o:ql 5 = .agg (out.map (Value.int .u8)).toArray:=o
    have hI:=d6.upd i (fun h=>h)
    have E:=hI.stOk (r:=out) (n:=32) (by simp[C]) C
    have b5:=qb (hI.setAll (r:=out) (by simp[C]))
    have u1:=qb ((i.mono (T:=fun k=>k=w.heap.size) (fun _ _ h=>h.elim)).then ((Upd.refl (· = w.heap.size) w1).setCells 0 (out.map (Value.int .u8))) (fun _ _ h=>h))
    have e0:(out.map (Value.int .u8)).toArray.toList=out.map (Value.int .u8):=rfl
    generalize d0:(out.map (Value.int .u8)).toArray=cs at o E e0
    generalize c9:out.map (Value.int .u8)=cl at e0 b5 u1
    clear d0 c9 hI
    unfold zk;simp only[putL];go_simp
    exact⟨qbl.all _ _,⟨qa u1,qa b5⟩,rfl⟩
  ·intro ql w1 i hv
   clear hv
   replace i:Upd (fun k=>k=w.heap.size) x w1∧qba .u8 w1 w.heap.size out:=i
   obtain⟨u1,T1,hI⟩:=i
   simp only[putL]
   have nE:=(n0.trans Z).then u1 (by intro q hq h;omega)
   go_wp2_with fail
   refine bodyPost_ret (results_cell_row rfl _ _ w.heap.size T1 _ _ _ rfl hI Tryz.underlying28 rfl (by rw[List.size_toArray,List.length_map,C];exact Tryz.infoHash)) rfl ?_
   exact⟨by rw[qa g],nE⟩
end Go.Proofs.YtjpmomdechibmaaGreatDoor
