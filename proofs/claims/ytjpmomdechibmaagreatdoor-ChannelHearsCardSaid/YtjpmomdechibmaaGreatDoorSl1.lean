/-
  Package seal: Tag; the reference's mixed and Tag.
-/
import Derived.Test.YtjpmomdechibmaaGreatDoorMbg
import Derived.Lib.BufferWrite
set_option linter.unusedVariables false
set_option linter.unusedSimpArgs false
namespace Go.Proofs.YtjpmomdechibmaaGreatDoor
open Go.RowKit
def qh2(key:ByteArray)(x:Int):List Int:=(List.range 64).map fun i=>bits .xor .u8 (bt key i) x
theorem Tryz.infoB64:(Tryz.prog.info? 151).map (·.size)=some 64:=by kernel_rfl
def qgy:Array Value:=((List.replicate 64 (0:Int)).map (Value.int .u8)).toArray
def qg0(key:ByteArray):List Int:=(List.range 64).map fun i=>bt key i
def qh3(key:ByteArray)(x:Int)(n:Nat):List Int:=(List.range 64).map fun i=>if i<n then bits .xor .u8 (bt key i) x else bt key i
theorem q3j(key:ByteArray)(x:Int)(n:Nat):(qh3 key x n).length=64:=by unfold qh3;simp
theorem qzo(key:ByteArray)(x:Int):qh3 key x 0=qg0 key:=by unfold qh3 qg0;exact List.map_congr_left fun i _=>by simp
theorem q3i(key:ByteArray)(x:Int):qh3 key x 64=qh2 key x:=by unfold qh3 qh2;exact List.map_congr_left fun i f=>by rw[if_pos (List.mem_range.1 f)]
theorem q7a(key:ByteArray)(x:Int)(n:Nat)(h:n<64):(qh3 key x n).getD n 0=bt key n:=by
 unfold qh3
 rw[List.getD_eq_getElem?_getD,List.getElem?_map,List.getElem?_range h]
 simp
theorem qzn(key:ByteArray)(x:Int)(n:Nat)(h:n<64):(qh3 key x n).set n (bits .xor .u8 (bt key n) x)=qh3 key x (n+1):=by
 refine List.ext_getElem? fun i=> ?_
 unfold qh3
 rw[List.getElem?_set,List.getElem?_map,List.getElem?_map]
 by_cases g:n=i
 ·subst g
  rw[if_pos rfl,if_pos (by simpa using h),List.getElem?_range h]
  simp
 ·rw[if_neg g]
  by_cases j:i<64
  ·rw[List.getElem?_range j]
   simp only[Option.map_some]
   by_cases f:i<n
   ·rw[if_pos f,if_pos (by omega)]
   ·rw[if_neg f,if_neg (by omega)]
  ·rw[List.getElem?_eq_none (by simp;omega)]
   rfl
set_option maxRecDepth 100000 in
set_option maxHeartbeats 1000000 in
theorem qge(key:ByteArray)(x:Int)(K:Nat)(w:World)(z:qg1 w K (qg0 key))(X:0≤x)(Y:x≤255) :
  Calls Tryz.prog 85 #[.int .u8 x,.pointer (some ⟨K,0,none⟩)] w (qa5 (.string (strOfNums (qh2 key x))) w):=by
 go_enter Tryz.func85,Tryz.ntmps85
 go_upto_region 1 with fail
 refine wp_region_lit ?_
 obtain⟨P,z⟩:=z
 refine wpList_load_row rfl _ _ rfl K rfl P _ _ _ z Tryz.underlying151 rfl (by rw[List.size_toArray,List.length_map];exact Tryz.infoB64) ?_
 refine q9 rfl (v:= .pointer (some ⟨w.heap.size,0,none⟩)) (w':=w.alloc (.cells qgy 151)) (by kernel_rfl) ?_
 have F:qx w (w.alloc (.cells qgy 151)):=(Upd.refl _ _).alloc _
 have g:(w.alloc (.cells qgy 151)).heap[w.heap.size]? = some (.cells qgy 151 (0,0)):=qi _ _
 generalize w.alloc (.cells qgy 151)=w1 at F g ⊢
 have D:(qg0 key).length=64:=by simp[qg0]
 refine wpList_store_row rfl _ _ _ rfl w.heap.size ((qg0 key).map (Value.int .u8)).toArray rfl rfl 151 _ g (by rw[List.size_toArray,List.length_map,D];exact Tryz.infoB64) (by have R:qgy.size=64:=rfl;rw[R];simp[D]) (by simp[Value.oneCell']) ?_
 have C:=setRow_heap w1 w.heap.size _ ((qg0 key).map (Value.int .u8)).toArray 151 (0,0) g
 have H:qx w (w1.setRow w.heap.size ((qg0 key).map (Value.int .u8)).toArray):=F.setRow (fun h=>by omega) _
 generalize w1.setRow w.heap.size ((qg0 key).map (Value.int .u8)).toArray=U at C H ⊢
 have N:qa2 .u8 U w.heap.size (qg0 key):=⟨_,C⟩
 clear C F g z D
 go_wp2_with fail
 go_loopw [5,7] (fun _ E wr=>∃i:Nat,E = .int .i64 (i:Int)∧i≤64∧qa2 .u8 wr w.heap.size (qh3 key x i)∧qx w wr) (fun _ E _=>64-(intOf E).toNat)
 case atStart=>exact⟨0,rfl,by omega,by rw[qzo];exact N,H⟩
 case round =>
  clear N H
  obtain⟨i,rfl,Z,j,L⟩:=hrel
  by_cases t:i<64
  ·have I:wr.cell? ⟨w.heap.size,i,none⟩=some (.int .u8 ((qh3 key x i).getD i 0)):=j.cell (by rw[q3j];omega)
   rw[q7a key x i t] at I
   have z0:=j.free i
   have f:=j.set i (bits .xor .u8 (bt key i) x)
   rw[qzn key x i t] at f
   have M:qx w (wr.setCell ⟨w.heap.size,i,none⟩ (.int .u8 (bits .xor .u8 (bt key i) x))):=L.setCell (fun h=>by simp at h) _
   obtain⟨V,W⟩:=qvf key i
   have l:=qb f
   have m:=qb M
   clear f M j
   have T:(i:Int)<64:=by omega
   generalize bt key i=y at I V W l m
   go_wp2
   go_roundw
   case rel=>exact⟨i+1,by go_num,by omega,qa l,qa m⟩
   case measure=>simp[intOf];omega
  ·obtain rfl:i=64:=by omega
   rw[show ((64:Nat):Int)=64 from rfl]
   rw[q3i] at j
   have o:qg1 wr w.heap.size (qh2 key x):=j
   have f:=qdq o 64 (by unfold qh2;simp)
   generalize J:strOfNums (qh2 key x)=q at f
   have O:=qb J
   clear J j o
   go_wp2
   go_ret
   exact⟨by rw[qa O];rfl,L⟩
theorem ql0(key:ByteArray)(x:Int):(qh2 key x).length=64:=by simp[qh2]
def qpt(key:ByteArray):ByteArray:=if 64<key.size then strOfNums (qft key) else key
theorem q3b(key:ByteArray):(qpt key).size≤64:=by
 unfold qpt
 split
 ·rw[strOfNums_size,qb8];decide
 ·omega
def qqm(key s:ByteArray):List Int:=qft (strOfNums (qh2 (qpt key) 92)++strOfNums (qft (strOfNums (qh2 (qpt key) 54)++s)))
def qe4:Array Value:=((List.replicate 32 (0:Int)).map (Value.int .u8)).toArray
attribute [local go_sem ↓ high] qj2 qkg
attribute [local go_sem] qzf q0e
theorem qrm{P:Program}{o:Oper}{a:Act}{w:World}(d s:Operand)(t f:TypeId)(j:o.op = .call {callee:= .builtin .copy,args:=#[d,s],argTypes:=#[t,f]})(v u:Value)(i:a.eval d=v)(m:a.eval s=u){g:Value}{w':World}
  (l:(Builtin.copy_ #[t,f] o.type #[v,u]).run P w = .ok g w'):(execOp a.eval o).run P w = .ok (.value g) w':=by
 unfold execOp
 simp only[j,resolve,invoke,builtin,Sem.run_bind,Sem.run_pure,Result.andThen_ok,List.map_toArray,List.map_cons,List.map_nil,i,m,l]
theorem qr4(key:ByteArray)(h:key.size≤64):(qgy.toList.take 0++Lib.byteCells key.data.toList++qgy.toList.drop (0+key.size))=(qg0 key).map (Value.int .u8):=by
 have l:qgy.toList=List.replicate 64 (Value.int .u8 0):=rfl
 have g:key.data.toList.length=key.size:=Array.length_toList
 rw[l,List.take_zero,List.nil_append,Nat.zero_add,List.drop_replicate]
 refine List.ext_getElem? fun i=> ?_
 unfold qg0 Lib.byteCells
 rw[List.getElem?_map,List.getElem?_map]
 by_cases j:i<key.size
 ·rw[List.getElem?_append_left (by rw[List.length_map,g];exact j),List.getElem?_map,List.getElem?_range (by omega)]
  have f:key.data.toList[i]? = some (key.data.toList.getD i 0):=by rw[List.getD_eq_getElem?_getD,List.getElem?_eq_getElem (by omega)];rfl
  rw[f]
  rfl
 ·rw[List.getElem?_append_right (by rw[List.length_map,g];omega),List.length_map,g,List.getElem?_replicate]
  by_cases f:i<64
  ·rw[if_pos (by omega),List.getElem?_range f]
   simp only[Option.map_some,bt]
   rw[List.getD_eq_getElem?_getD,List.getElem?_eq_none (by omega)]
   rfl
  ·rw[if_neg (by omega),List.getElem?_eq_none (by simp;omega)]
   rfl
set_option maxRecDepth 100000 in
set_option maxHeartbeats 4000000 in
theorem zal(key s:ByteArray)(w:World)(hk:key.size≤100000000)(hs:s.size≤100000000)(hT:Tabs w) :
  Calls Tryz.prog 58 #[.string key,.string s] w fun e w'=>e = .returned (.agg ((qqm key s).map (Value.int .u8)).toArray)∧qx w w':=by
 go_enter Tryz.func58,Tryz.ntmps58
 go_upto_region 0 with fail
 refine wp_region_lit ?_
 refine q9 rfl (v:= .pointer (some ⟨w.heap.size,0,none⟩)) (w':=w.alloc (.cells qe4 28)) (by kernel_rfl) ?_
 have n0:qx w (w.alloc (.cells qe4 28)):=(Upd.refl _ _).alloc _
 have vR:(w.alloc (.cells qe4 28)).heap[w.heap.size]? = some (.cells qe4 28 (0,0)):=qi _ _
 generalize w.alloc (.cells qe4 28)=w1 at n0 vR ⊢
 have e2:w.heap.size<w1.heap.size:=zq vR
 have a5:=q3b key
 have c5:qqm key s=qft (strOfNums (qh2 (qpt key) 92)++strOfNums (qft (strOfNums (qh2 (qpt key) 54)++s))):=rfl
 have c4:=qb c5
 clear c5
 by_cases hc:64<key.size
 ·have d1:qpt key=strOfNums (qft key):=by unfold qpt;rw[if_pos hc]
  have e1:(64:Int)<(key.size:Int):=by omega
  have c0:=qje key w1 (by omega) (hT.new n0)
  have c2:=qb8 key
  generalize qft key=sk at d1 c0 c2
  have d7:=qb d1
  have c3:=qb c0
  clear d1 c0
  go_upto_region 2 with fail
  refine wp_region_lit ?_
  refine q9 rfl (v:= .string key) (w':=w1) (by kernel_rfl) ?_
  refine qde rfl (f:=84) (args:=#[.string key]) (w':=w1) (by kernel_rfl) ?_
  refine(qa c3).mono ?_
  rintro e J ⟨rfl,n2⟩
  refine⟨_,rfl,?_⟩
  refine q9 rfl (v:= .pointer (some ⟨J.heap.size,0,none⟩)) (w':=J.alloc (.cells qe4 28)) (by kernel_rfl) ?_
  have n3:qx J (J.alloc (.cells qe4 28)):=(Upd.refl _ _).alloc _
  have c1:(J.alloc (.cells qe4 28)).heap[J.heap.size]? = some (.cells qe4 28 (0,0)):=qi _ _
  generalize J.alloc (.cells qe4 28)=w3 at n3 c1 ⊢
  refine wpList_store_row rfl _ _ _ rfl J.heap.size (sk.map (Value.int .u8)).toArray rfl rfl 28 _ c1 (by rw[List.size_toArray,List.length_map,c2];exact Tryz.infoHash) (by have h9:qe4.size=32:=rfl;rw[h9];simp[c2]) (by simp[Value.oneCell']) ?_
  have c8:=setRow_heap w3 J.heap.size _ (sk.map (Value.int .u8)).toArray 28 (0,0) c1
  have n4:qx J (w3.setRow J.heap.size (sk.map (Value.int .u8)).toArray):=n3.setRow (fun h=>by omega) _
  generalize w3.setRow J.heap.size (sk.map (Value.int .u8)).toArray=w4 at c8 n4 ⊢
  have h8:qg1 w4 J.heap.size sk:=⟨_,c8⟩
  have D:=qdq h8 32 c2
  have d9:=n2.trans n4
  have b7:=qa d7
  generalize a4:qpt key=l at b7 a5
  rw[←b7] at D
  have c6:=qb a4
  clear n2 n3 c1 c8 n4 h8 c3 d7 b7 a4
  obtain⟨wK,rfl⟩:∃wK:World,wK=w4:=⟨_,rfl⟩
  have nK:=d9
  clear d9
  go_upto_region 4 with fail
  refine wp_region_lit ?_
  refine q9 rfl (v:= .pointer (some ⟨wK.heap.size,0,none⟩)) (w':=wK.alloc (.cells qgy 151)) (by kernel_rfl) ?_
  have n5:qx wK (wK.alloc (.cells qgy 151)):=(Upd.refl _ _).alloc _
  have x:(wK.alloc (.cells qgy 151)).heap[wK.heap.size]? = some (.cells qgy 151 (0,0)):=qi _ _
  generalize wK.alloc (.cells qgy 151)=Z at n5 x ⊢
  have d5:=nK.size
  obtain⟨K,b4⟩:∃K,K=wK.heap.size:=⟨_,rfl⟩
  rw[←b4] at x d5 ⊢
  have d8:wK.heap.size≤K:=by omega
  clear b4
  go_upto_region 5 with fail
  refine wp_region_lit ?_
  refine q9 rfl (v:= .slice (some ⟨K,0,none⟩) 64 64) (w':=Z) (by kernel_rfl) ?_
  refine q9 rfl (v:= .string l) (w':=Z) (by kernel_rfl) ?_
  refine q9 rfl (v:=goInt l.size) (w':=Z.setRow K ((qg0 l).map (Value.int .u8)).toArray) (qrm (.tmp 16) (.tmp 17) 111 9 rfl _ _ rfl rfl ?_) ?_
  ·have h:=Lib.run_copy_row_string (P:=Tryz.prog) Z 111 9 3 5 K 0 64 64 l qgy 151 Tryz.underlying111 (by kernel_rfl) x a5 (by have h9:qgy.size=64:=rfl;rw[h9];omega)
   rw[qr4 l a5] at h
   exact h
  have R:=setRow_heap Z K _ ((qg0 l).map (Value.int .u8)).toArray 151 (0,0) x
  have n6:qx wK (Z.setRow K ((qg0 l).map (Value.int .u8)).toArray):=n5.setRow (fun h=>by omega) _
  generalize Z.setRow K ((qg0 l).map (Value.int .u8)).toArray=w6 at R n6 ⊢
  have O:qg1 w6 K (qg0 l):=⟨_,R⟩
  have V:=nK.trans n6
  clear n5 x R
  have g:=qb ((qa c4).trans (by rw[qa c6]))
  have d2:=qge l 54 K
  have d3:(strOfNums (qh2 l 54)).size=64:=by rw[strOfNums_size,ql0]
  have d4:(strOfNums (qh2 l 92)).size=64:=by rw[strOfNums_size,ql0]
  have L:=qb (fun W (n:qx w6 W)=>qge l 54 K W ⟨_,(n.old O.choose_spec (fun h=>h))⟩ (by decide) (by decide))
  have M:=qb (fun W (n:qx w6 W)=>qge l 92 K W ⟨_,(n.old O.choose_spec (fun h=>h))⟩ (by decide) (by decide))
  clear d2
  generalize strOfNums (qh2 l 54)=q1 at d3 g L
  generalize strOfNums (qh2 l 92)=H at d4 g M
  have b8:=fun W h=>qje (q1++s) W (by rw[ByteArray.size_append];omega) h
  have N:=qb b8
  have y:=qb8 (q1++s)
  generalize qft (q1++s)=inn at N y g
  have b6:(strOfNums inn).size=32:=by rw[strOfNums_size,y]
  clear b8
  go_upto_region 7 with fail
  refine wp_region_lit ?_
  refine q9 rfl (v:= .func (.func 85) #[] #[.pointer (some ⟨K,0,none⟩)]) (w':=w6) (by kernel_rfl) ?_
  refine qde rfl (f:=85) (args:=#[.int .u8 54,.pointer (some ⟨K,0,none⟩)]) (w':=w6) (by kernel_rfl) ?_
  refine(qa L _ (Upd.refl _ _)).mono ?_
  rintro e w7 ⟨rfl,n7⟩
  refine⟨_,rfl,?_⟩
  have E:¬9223372036854775807<q1.size+s.size:=by omega
  refine q9 rfl (v:= .string s) (w':=w7) (by kernel_rfl) ?_
  refine q9 rfl (v:= .string (q1++s)) (w':=w7) (by simp only[execOp];go_simp;first | done | omega) ?_
  refine qde rfl (f:=84) (args:=#[.string (q1++s)]) (w':=w7) (by kernel_rfl) ?_
  refine(qa N _ (hT.new (n0.trans (V.trans n7)))).mono ?_
  rintro e o ⟨rfl,n8⟩
  refine⟨_,rfl,?_⟩
  refine q9 rfl (v:= .pointer (some ⟨o.heap.size,0,none⟩)) (w':=o.alloc (.cells qe4 28)) (by kernel_rfl) ?_
  have n9:qx o (o.alloc (.cells qe4 28)):=(Upd.refl _ _).alloc _
  have C:(o.alloc (.cells qe4 28)).heap[o.heap.size]? = some (.cells qe4 28 (0,0)):=qi _ _
  generalize o.alloc (.cells qe4 28)=w9 at n9 C ⊢
  refine wpList_store_row rfl _ _ _ rfl o.heap.size (inn.map (Value.int .u8)).toArray (by kernel_rfl) (by kernel_rfl) 28 _ C (by rw[List.size_toArray,List.length_map,y];exact Tryz.infoHash) (by have h9:qe4.size=32:=rfl;rw[h9];simp[y]) (by simp[Value.oneCell']) ?_
  have U:=setRow_heap w9 o.heap.size _ (inn.map (Value.int .u8)).toArray 28 (0,0) C
  have nz:qx o (w9.setRow o.heap.size (inn.map (Value.int .u8)).toArray):=n9.setRow (fun h=>by omega) _
  generalize w9.setRow o.heap.size (inn.map (Value.int .u8)).toArray=t at U nz ⊢
  have b3:qg1 t o.heap.size inn:=⟨_,U⟩
  have a6:=qb (fun W (n:qx t W)=>(⟨_,n.old b3.choose_spec (fun h=>h)⟩:qg1 W o.heap.size inn))
  have X:qx w6 t:=n7.trans (n8.trans nz)
  have a8:=qb (fun W (n:qx t W)=>qa M W (X.trans n))
  have Y:qx w1 t:=V.trans X
  have c7:=qb (fun W (n:qx t W)=>(hT.new n0).new (Y.trans n))
  have I:=Y.old vR (fun h=>h)
  have d6:qa2 .u8 t w.heap.size (List.replicate 32 0):=⟨_,I⟩
  generalize o.heap.size=G at a6 ⊢
  clear E L N M n9 C U nz b3 n7 n8 V O I X n6
  generalize F:strOfNums inn=j at b6 g
  have a7:=qb F
  clear F
  have b9:=fun W h=>qje (H++j) W (by rw[ByteArray.size_append];omega) h
  have a9:=qb b9
  have z:=qb8 (H++j)
  generalize qft (H++j)=out at a9 z g
  clear b9
  go_upto_region 8 with fail
  go_simp
  refine qmp (by kernel_rfl) [[],[(0,25)],[],[(2,27)],[(1,26),(3,28)],[(4,29)],[(5,30)]] 31 rfl (by kernel_rfl) [(0,25),(1,26),(2,27),(3,28),(4,29),(5,30)] (by kernel_rfl) [6] (by kernel_rfl) [[(0,0)],[(0,0)],[(0,0)],[(0,0)],[(0,0)],[(0,0)],[(0,1)]] (by kernel_rfl)
   (zc3 t w.heap.size out) qbc (isV [.func (.func 85) #[] #[.pointer (some ⟨K,0,none⟩)],.string H,.slice (some ⟨G,0,none⟩) 32 32,.string j,.string (H++j),.agg (out.map (Value.int .u8)).toArray,undef])
   (((Upd.refl _ _).drew)) (fun _=>qbc.all _ _) (fun _ _ _ _ _ _ _ _ _ h=>h) ?_ ?_
  ·refine .pure rfl (fun _=>qbc.all _ _) rfl ?_ <| .one rfl ?_ <| .pure rfl (fun _=>qbc.all _ _) rfl ?_ <| .one rfl ?_ <| .pure rfl (fun _=>qbc.all _ _) rfl ?_ <| .one rfl ?_ <| .one rfl ?_ <| .nil
   ·rintro qk w1 _
    unfold zg;simp only[putL];go_simp
    first | exact⟨rfl,rfl⟩ | rfl
   ·rintro qk w1 i ⟨m,-⟩
    replace i:qx t w1:=i
    replace m:qk 0 = .func (.func 85) #[] #[.pointer (some ⟨K,0,none⟩)]:=m
    unfold zg;simp only[putL];go_simp
    refine(qa a8 w1 i).mono ?_
    rintro e J ⟨rfl,n2⟩
    exact⟨_,rfl,qbc.all _ _,i.trans n2,rfl⟩
   ·rintro qk w1 _
    unfold zg;simp only[putL];go_simp
    first | exact⟨rfl,rfl⟩ | rfl
   ·rintro qk w1 i ⟨m,-⟩
    replace i:qx t w1:=i
    replace m:qk 2 = .slice (some ⟨G,0,none⟩) 32 32:=m
    have D:=qdq (qa a6 w1 i) 32 y
    rw[qa a7] at D
    unfold zg;simp only[putL];go_simp
    exact⟨qbc.all _ _,i,rfl⟩
   ·rintro qk w1 ⟨m,p1,-⟩
    replace m:qk 1 = .string H:=m
    replace p1:qk 3 = .string j:=p1
    have E:¬9223372036854775807<H.size+j.size:=by omega
    unfold zg;simp only[putL];go_simp
    first | exact⟨rfl,rfl⟩ | rfl
   ·rintro qk w1 i ⟨m,-⟩
    replace i:qx t w1:=i
    replace m:qk 4 = .string (H++j):=m
    unfold zg;simp only[putL];go_simp
    refine(qa a9 w1 (qa c7 w1 i)).mono ?_
    rintro e J ⟨rfl,n2⟩
    exact⟨_,rfl,qbc.all _ _,i.trans n2,rfl⟩
   ·rintro qk w1 i ⟨m,-⟩
    replace i:qx t w1:=i
    replace m:qk 5 = .agg (out.map (Value.int .u8)).toArray:=m
    have hI:=d6.upd i (fun h=>h)
    have D:=hI.stOk (r:=out) (n:=32) (by simp[z]) z
    have b5:=qb (hI.setAll (r:=out) (by simp[z]))
    have u1:=qb ((i.mono (T:=fun k=>k=w.heap.size) (fun _ _ h=>h.elim)).then ((Upd.refl (· = w.heap.size) w1).setCells 0 (out.map (Value.int .u8))) (fun _ _ h=>h))
    have e0:(out.map (Value.int .u8)).toArray.toList=out.map (Value.int .u8):=rfl
    generalize d0:(out.map (Value.int .u8)).toArray=cs at m D e0
    generalize c9:out.map (Value.int .u8)=cl at e0 b5 u1
    clear d0 c9 hI
    unfold zg;simp only[putL];go_simp
    exact⟨qbc.all _ _,⟨qa u1,qa b5⟩,rfl⟩
  ·intro qk w1 i hv
   clear hv
   replace i:Upd (fun k=>k=w.heap.size) t w1∧qa2 .u8 w1 w.heap.size out:=i
   obtain⟨u1,T1,hI⟩:=i
   simp only[putL]
   have nE:=(n0.trans Y).then u1 (by intro q hq h;omega)
   go_wp2_with fail
   refine bodyPost_ret (results_cell_row rfl _ _ w.heap.size T1 _ _ _ rfl hI Tryz.underlying28 rfl (by rw[List.size_toArray,List.length_map,z];exact Tryz.infoHash)) rfl ?_
   exact⟨by rw[qa g],nE⟩
 ·have e1:¬(64:Int)<(key.size:Int):=by omega
  have a4:qpt key=key:=by unfold qpt;rw[if_neg hc]
  have c6:=qb a4
  rw[a4] at a5
  clear a4
  obtain⟨l,rfl⟩:∃l:ByteArray,l=key:=⟨_,rfl⟩
  have nK:qx w1 w1:=Upd.refl _ _
  go_upto_region 4 with fail
  refine wp_region_lit ?_
  refine q9 rfl (v:= .pointer (some ⟨w1.heap.size,0,none⟩)) (w':=w1.alloc (.cells qgy 151)) (by kernel_rfl) ?_
  have n5:qx w1 (w1.alloc (.cells qgy 151)):=(Upd.refl _ _).alloc _
  have x:(w1.alloc (.cells qgy 151)).heap[w1.heap.size]? = some (.cells qgy 151 (0,0)):=qi _ _
  generalize w1.alloc (.cells qgy 151)=Z at n5 x ⊢
  have d5:=nK.size
  obtain⟨K,b4⟩:∃K,K=w1.heap.size:=⟨_,rfl⟩
  rw[←b4] at x d5 ⊢
  have d8:w1.heap.size≤K:=by omega
  clear b4
  go_upto_region 5 with fail
  refine wp_region_lit ?_
  refine q9 rfl (v:= .slice (some ⟨K,0,none⟩) 64 64) (w':=Z) (by kernel_rfl) ?_
  refine q9 rfl (v:= .string l) (w':=Z) (by kernel_rfl) ?_
  refine q9 rfl (v:=goInt l.size) (w':=Z.setRow K ((qg0 l).map (Value.int .u8)).toArray) (qrm (.tmp 16) (.tmp 17) 111 9 rfl _ _ rfl rfl ?_) ?_
  ·have h:=Lib.run_copy_row_string (P:=Tryz.prog) Z 111 9 3 5 K 0 64 64 l qgy 151 Tryz.underlying111 (by kernel_rfl) x a5 (by have h9:qgy.size=64:=rfl;rw[h9];omega)
   rw[qr4 l a5] at h
   exact h
  have R:=setRow_heap Z K _ ((qg0 l).map (Value.int .u8)).toArray 151 (0,0) x
  have n6:qx w1 (Z.setRow K ((qg0 l).map (Value.int .u8)).toArray):=n5.setRow (fun h=>by omega) _
  generalize Z.setRow K ((qg0 l).map (Value.int .u8)).toArray=w6 at R n6 ⊢
  have O:qg1 w6 K (qg0 l):=⟨_,R⟩
  have V:=nK.trans n6
  clear n5 x R
  have g:=qb ((qa c4).trans (by rw[qa c6]))
  have d2:=qge l 54 K
  have d3:(strOfNums (qh2 l 54)).size=64:=by rw[strOfNums_size,ql0]
  have d4:(strOfNums (qh2 l 92)).size=64:=by rw[strOfNums_size,ql0]
  have L:=qb (fun W (n:qx w6 W)=>qge l 54 K W ⟨_,(n.old O.choose_spec (fun h=>h))⟩ (by decide) (by decide))
  have M:=qb (fun W (n:qx w6 W)=>qge l 92 K W ⟨_,(n.old O.choose_spec (fun h=>h))⟩ (by decide) (by decide))
  clear d2
  generalize strOfNums (qh2 l 54)=q1 at d3 g L
  generalize strOfNums (qh2 l 92)=H at d4 g M
  have b8:=fun W h=>qje (q1++s) W (by rw[ByteArray.size_append];omega) h
  have N:=qb b8
  have y:=qb8 (q1++s)
  generalize qft (q1++s)=inn at N y g
  have b6:(strOfNums inn).size=32:=by rw[strOfNums_size,y]
  clear b8
  go_upto_region 7 with fail
  refine wp_region_lit ?_
  refine q9 rfl (v:= .func (.func 85) #[] #[.pointer (some ⟨K,0,none⟩)]) (w':=w6) (by kernel_rfl) ?_
  refine qde rfl (f:=85) (args:=#[.int .u8 54,.pointer (some ⟨K,0,none⟩)]) (w':=w6) (by kernel_rfl) ?_
  refine(qa L _ (Upd.refl _ _)).mono ?_
  rintro e w7 ⟨rfl,n7⟩
  refine⟨_,rfl,?_⟩
  have E:¬9223372036854775807<q1.size+s.size:=by omega
  refine q9 rfl (v:= .string s) (w':=w7) (by kernel_rfl) ?_
  refine q9 rfl (v:= .string (q1++s)) (w':=w7) (by simp only[execOp];go_simp;first | done | omega) ?_
  refine qde rfl (f:=84) (args:=#[.string (q1++s)]) (w':=w7) (by kernel_rfl) ?_
  refine(qa N _ (hT.new (n0.trans (V.trans n7)))).mono ?_
  rintro e o ⟨rfl,n8⟩
  refine⟨_,rfl,?_⟩
  refine q9 rfl (v:= .pointer (some ⟨o.heap.size,0,none⟩)) (w':=o.alloc (.cells qe4 28)) (by kernel_rfl) ?_
  have n9:qx o (o.alloc (.cells qe4 28)):=(Upd.refl _ _).alloc _
  have C:(o.alloc (.cells qe4 28)).heap[o.heap.size]? = some (.cells qe4 28 (0,0)):=qi _ _
  generalize o.alloc (.cells qe4 28)=w9 at n9 C ⊢
  refine wpList_store_row rfl _ _ _ rfl o.heap.size (inn.map (Value.int .u8)).toArray (by kernel_rfl) (by kernel_rfl) 28 _ C (by rw[List.size_toArray,List.length_map,y];exact Tryz.infoHash) (by have h9:qe4.size=32:=rfl;rw[h9];simp[y]) (by simp[Value.oneCell']) ?_
  have U:=setRow_heap w9 o.heap.size _ (inn.map (Value.int .u8)).toArray 28 (0,0) C
  have nz:qx o (w9.setRow o.heap.size (inn.map (Value.int .u8)).toArray):=n9.setRow (fun h=>by omega) _
  generalize w9.setRow o.heap.size (inn.map (Value.int .u8)).toArray=t at U nz ⊢
  have b3:qg1 t o.heap.size inn:=⟨_,U⟩
  have a6:=qb (fun W (n:qx t W)=>(⟨_,n.old b3.choose_spec (fun h=>h)⟩:qg1 W o.heap.size inn))
  have X:qx w6 t:=n7.trans (n8.trans nz)
  have a8:=qb (fun W (n:qx t W)=>qa M W (X.trans n))
  have Y:qx w1 t:=V.trans X
  have c7:=qb (fun W (n:qx t W)=>(hT.new n0).new (Y.trans n))
  have I:=Y.old vR (fun h=>h)
  have d6:qa2 .u8 t w.heap.size (List.replicate 32 0):=⟨_,I⟩
  generalize o.heap.size=G at a6 ⊢
  clear E L N M n9 C U nz b3 n7 n8 V O I X n6
  generalize F:strOfNums inn=j at b6 g
  have a7:=qb F
  clear F
  have b9:=fun W h=>qje (H++j) W (by rw[ByteArray.size_append];omega) h
  have a9:=qb b9
  have z:=qb8 (H++j)
  generalize qft (H++j)=out at a9 z g
  clear b9
  go_upto_region 8 with fail
  go_simp
  refine qmp (by kernel_rfl) [[],[(0,25)],[],[(2,27)],[(1,26),(3,28)],[(4,29)],[(5,30)]] 31 rfl (by kernel_rfl) [(0,25),(1,26),(2,27),(3,28),(4,29),(5,30)] (by kernel_rfl) [6] (by kernel_rfl) [[(0,0)],[(0,0)],[(0,0)],[(0,0)],[(0,0)],[(0,0)],[(0,1)]] (by kernel_rfl)
   (zc3 t w.heap.size out) qbc (isV [.func (.func 85) #[] #[.pointer (some ⟨K,0,none⟩)],.string H,.slice (some ⟨G,0,none⟩) 32 32,.string j,.string (H++j),.agg (out.map (Value.int .u8)).toArray,undef])
   (((Upd.refl _ _).drew)) (fun _=>qbc.all _ _) (fun _ _ _ _ _ _ _ _ _ h=>h) ?_ ?_
  ·refine .pure rfl (fun _=>qbc.all _ _) rfl ?_ <| .one rfl ?_ <| .pure rfl (fun _=>qbc.all _ _) rfl ?_ <| .one rfl ?_ <| .pure rfl (fun _=>qbc.all _ _) rfl ?_ <| .one rfl ?_ <| .one rfl ?_ <| .nil
   ·rintro qk w1 _
    unfold zg;simp only[putL];go_simp
    first | exact⟨rfl,rfl⟩ | rfl
   ·rintro qk w1 i ⟨m,-⟩
    replace i:qx t w1:=i
    replace m:qk 0 = .func (.func 85) #[] #[.pointer (some ⟨K,0,none⟩)]:=m
    unfold zg;simp only[putL];go_simp
    refine(qa a8 w1 i).mono ?_
    rintro e J ⟨rfl,n2⟩
    exact⟨_,rfl,qbc.all _ _,i.trans n2,rfl⟩
   ·rintro qk w1 _
    unfold zg;simp only[putL];go_simp
    first | exact⟨rfl,rfl⟩ | rfl
   ·rintro qk w1 i ⟨m,-⟩
    replace i:qx t w1:=i
    replace m:qk 2 = .slice (some ⟨G,0,none⟩) 32 32:=m
    have D:=qdq (qa a6 w1 i) 32 y
    rw[qa a7] at D
    unfold zg;simp only[putL];go_simp
    exact⟨qbc.all _ _,i,rfl⟩
   ·rintro qk w1 ⟨m,p1,-⟩
    replace m:qk 1 = .string H:=m
    replace p1:qk 3 = .string j:=p1
    have E:¬9223372036854775807<H.size+j.size:=by omega
    unfold zg;simp only[putL];go_simp
    first | exact⟨rfl,rfl⟩ | rfl
   ·rintro qk w1 i ⟨m,-⟩
    replace i:qx t w1:=i
    replace m:qk 4 = .string (H++j):=m
    unfold zg;simp only[putL];go_simp
    refine(qa a9 w1 (qa c7 w1 i)).mono ?_
    rintro e J ⟨rfl,n2⟩
    exact⟨_,rfl,qbc.all _ _,i.trans n2,rfl⟩
   ·rintro qk w1 i ⟨m,-⟩
    replace i:qx t w1:=i
    replace m:qk 5 = .agg (out.map (Value.int .u8)).toArray:=m
    have hI:=d6.upd i (fun h=>h)
    have D:=hI.stOk (r:=out) (n:=32) (by simp[z]) z
    have b5:=qb (hI.setAll (r:=out) (by simp[z]))
    have u1:=qb ((i.mono (T:=fun k=>k=w.heap.size) (fun _ _ h=>h.elim)).then ((Upd.refl (· = w.heap.size) w1).setCells 0 (out.map (Value.int .u8))) (fun _ _ h=>h))
    have e0:(out.map (Value.int .u8)).toArray.toList=out.map (Value.int .u8):=rfl
    generalize d0:(out.map (Value.int .u8)).toArray=cs at m D e0
    generalize c9:out.map (Value.int .u8)=cl at e0 b5 u1
    clear d0 c9 hI
    unfold zg;simp only[putL];go_simp
    exact⟨qbc.all _ _,⟨qa u1,qa b5⟩,rfl⟩
  ·intro qk w1 i hv
   clear hv
   replace i:Upd (fun k=>k=w.heap.size) t w1∧qa2 .u8 w1 w.heap.size out:=i
   obtain⟨u1,T1,hI⟩:=i
   simp only[putL]
   have nE:=(n0.trans Y).then u1 (by intro q hq h;omega)
   go_wp2_with fail
   refine bodyPost_ret (results_cell_row rfl _ _ w.heap.size T1 _ _ _ rfl hI Tryz.underlying28 rfl (by rw[List.size_toArray,List.length_map,z];exact Tryz.infoHash)) rfl ?_
   exact⟨by rw[qa g],nE⟩
end Go.Proofs.YtjpmomdechibmaaGreatDoor
