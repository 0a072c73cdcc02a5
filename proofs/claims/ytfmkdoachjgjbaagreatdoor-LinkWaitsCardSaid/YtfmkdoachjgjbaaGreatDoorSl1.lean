/-
  Package seal: Tag; the reference's mixed and Tag.
-/
import Derived.Test.YtfmkdoachjgjbaaGreatDoorMac
import Derived.Lib.BufferWrite
set_option maxRecDepth 100000
set_option maxHeartbeats 4000000
set_option linter.unusedVariables false
set_option linter.unusedSimpArgs false
namespace Go.Proofs.YtfmkdoachjgjbaaGreatDoor
open Go.RowKit
def qg7(key:ByteArray)(x:Int):List Int:=(List.range 64).map fun i=>bits .xor .u8 (bt key i) x
theorem Tryz.infoB64:(Tryz.prog.info? 283).map (·.size)=some 64:=by kernel_rfl
def qgc:Array Value:=((List.replicate 64 (0:Int)).map (Value.int .u8)).toArray
def qgd(key:ByteArray):List Int:=(List.range 64).map fun i=>bt key i
def qg8(key:ByteArray)(x:Int)(n:Nat):List Int:=(List.range 64).map fun i=>if i<n then bits .xor .u8 (bt key i) x else bt key i
theorem q1z(key:ByteArray)(x:Int)(n:Nat):(qg8 key x n).length=64:=by unfold qg8;simp
theorem qxr(key:ByteArray)(x:Int):qg8 key x 0=qgd key:=by unfold qg8 qgd;exact List.map_congr_left fun i _=>by simp
theorem q1y(key:ByteArray)(x:Int):qg8 key x 64=qg7 key x:=by unfold qg8 qg7;exact List.map_congr_left fun i f=>by rw[if_pos (List.mem_range.1 f)]
theorem q60(key:ByteArray)(x:Int)(n:Nat)(h:n<64):(qg8 key x n).getD n 0=bt key n:=by
 unfold qg8;rw[List.getD_eq_getElem?_getD,List.getElem?_map,List.getElem?_range h];simp
theorem qxq(key:ByteArray)(x:Int)(n:Nat)(h:n<64):(qg8 key x n).set n (bits .xor .u8 (bt key n) x)=qg8 key x (n+1):=by
 refine List.ext_getElem? fun i=> ?_
 unfold qg8;rw[List.getElem?_set,List.getElem?_map,List.getElem?_map];by_cases m:n=i
 ·subst m;rw[if_pos rfl,if_pos (by simpa using h),List.getElem?_range h];simp
 ·rw[if_neg m];by_cases p:i<64
  ·rw[List.getElem?_range p];simp only[Option.map_some];by_cases f:i<n
   ·rw[if_pos f,if_pos (by omega)]
   ·rw[if_neg f,if_neg (by omega)]
  ·rw[List.getElem?_eq_none (by simp;omega)];rfl
theorem qfq(key:ByteArray)(x:Int)(K:Nat)(w:World)(H:qge w K (qgd key))(h0:0≤x)(h1:x≤255) :
  Calls Tryz.prog 187 #[.int .u8 x,.pointer (some ⟨K,0,none⟩)] w (qa1 (.string (strOfNums (qg7 key x))) w):=by
 go_enter Tryz.func187,Tryz.ntmps187
 go_upto_region 1 with fail
 refine wp_region_lit ?_
 obtain⟨U,H⟩:=H
 refine wpList_load_row rfl _ _ rfl K rfl U _ _ _ H Tryz.underlying283 rfl (by rw[List.size_toArray,List.length_map];exact Tryz.infoB64) ?_
 refine zg rfl (v:= .pointer (some ⟨w.heap.size,0,none⟩)) (w':=w.alloc (.cells qgc 283)) (by kernel_rfl) ?_
 have M:qu w (w.alloc (.cells qgc 283)):=(Upd.refl _ _).alloc _
 have m:(w.alloc (.cells qgc 283)).heap[w.heap.size]? = some (.cells qgc 283 (0,0)):=qh _ _
 generalize w.alloc (.cells qgc 283)=w1 at M m ⊢
 have J:(qgd key).length=64:=by simp[qgd]
 refine wpList_store_row rfl _ _ _ rfl w.heap.size ((qgd key).map (Value.int .u8)).toArray rfl rfl 283 _ m (by rw[List.size_toArray,List.length_map,J];exact Tryz.infoB64) (by have V:qgc.size=64:=rfl;rw[V];simp[J]) (by simp[Value.oneCell']) ?_
 have I:=setRow_heap w1 w.heap.size _ ((qgd key).map (Value.int .u8)).toArray 283 (0,0) m
 have N:qu w (w1.setRow w.heap.size ((qgd key).map (Value.int .u8)).toArray):=M.setRow (fun h=>by omega) _
 generalize w1.setRow w.heap.size ((qgd key).map (Value.int .u8)).toArray=X at I N ⊢
 have S:qbd .u8 X w.heap.size (qgd key):=⟨_,I⟩
 clear I M m H J
 go_wp2_with fail
 go_loopw [5,7] (fun _ L wr=>∃i:Nat,L = .int .i64 (i:Int)∧i≤64∧qbd .u8 wr w.heap.size (qg8 key x i)∧qu w wr) (fun _ L _=>64-(intOf L).toNat)
 case atStart=>exact⟨0,rfl,by omega,by rw[qxr];exact S,N⟩
 case round =>
  clear S N;obtain⟨i,rfl,hi,p,ur⟩:=hrel;by_cases F:i<64
  ·have O:wr.cell? ⟨w.heap.size,i,none⟩=some (.int .u8 ((qg8 key x i).getD i 0)):=p.cell (by rw[q1z];omega);rw[q60 key x i F] at O;have z0:=p.free i;have f:=p.set i (bits .xor .u8 (bt key i) x);rw[qxq key x i F] at f;have R:qu w (wr.setCell ⟨w.heap.size,i,none⟩ (.int .u8 (bits .xor .u8 (bt key i) x))):=ur.setCell (fun h=>by simp at h) _;obtain⟨Y,Z⟩:=qfe key i;have z:=qb f;have C:=qb R;clear f R p;have W:(i:Int)<64:=by omega
   generalize bt key i=y at O Y Z z C;go_wp2;go_roundw
   case rel=>exact⟨i+1,by go_num,by omega,qa z,qa C⟩
   case measure=>simp[intOf];omega
  ·obtain rfl:i=64:=by omega
   rw[show ((64:Nat):Int)=64 from rfl];rw[q1y] at p;have E:qge wr w.heap.size (qg7 key x):=p;have f:=qdd E 64 (by unfold qg7;simp);generalize P:strOfNums (qg7 key x)=q at f;have T:=qb P;clear P p E;go_wp2;go_ret;exact⟨by rw[qa T];rfl,ur⟩
theorem qk2(key:ByteArray)(x:Int):(qg7 key x).length=64:=by simp[qg7]
def qoq(key:ByteArray):ByteArray:=if 64<key.size then strOfNums (qek key) else key
theorem q1n(key:ByteArray):(qoq key).size≤64:=by
 unfold qoq;split
 ·rw[strOfNums_size,qb5];decide
 ·omega
def qp1(key s:ByteArray):List Int:=qek (strOfNums (qg7 (qoq key) 92)++strOfNums (qek (strOfNums (qg7 (qoq key) 54)++s)))
def qep:Array Value:=((List.replicate 32 (0:Int)).map (Value.int .u8)).toArray
attribute [local go_sem ↓ high] qi0 qja
attribute [local go_sem] qxh qyc
theorem qqa{P:Program}{o:Oper}{a:Act}{w:World}(d s:Operand)(t f:TypeId)(m:o.op = .call {callee:= .builtin .copy,args:=#[d,s],argTypes:=#[t,f]})(v u:Value)(hd:a.eval d=v)(q:a.eval s=u){i:Value}{w':World}
  (p:(Builtin.copy_ #[t,f] o.type #[v,u]).run P w = .ok i w'):(execOp a.eval o).run P w = .ok (.value i) w':=by
 unfold execOp
 simp only[m,resolve,invoke,builtin,Sem.run_bind,Sem.run_pure,Result.andThen_ok,List.map_toArray,List.map_cons,List.map_nil,hd,q,p]
theorem qqo(key:ByteArray)(h:key.size≤64):(qgc.toList.take 0++Lib.byteCells key.data.toList++qgc.toList.drop (0+key.size))=(qgd key).map (Value.int .u8):=by
 have q:qgc.toList=List.replicate 64 (Value.int .u8 0):=rfl;have m:key.data.toList.length=key.size:=Array.length_toList;rw[q,List.take_zero,List.nil_append,Nat.zero_add,List.drop_replicate];refine List.ext_getElem? fun i=> ?_
 unfold qgd Lib.byteCells;rw[List.getElem?_map,List.getElem?_map];by_cases p:i<key.size
 ·rw[List.getElem?_append_left (by rw[List.length_map,m];exact p),List.getElem?_map,List.getElem?_range (by omega)];have f:key.data.toList[i]? = some (key.data.toList.getD i 0):=by rw[List.getD_eq_getElem?_getD,List.getElem?_eq_getElem (by omega)];rfl
  rw[f];rfl
 ·rw[List.getElem?_append_right (by rw[List.length_map,m];omega),List.length_map,m,List.getElem?_replicate];by_cases f:i<64
  ·rw[if_pos (by omega),List.getElem?_range f];simp only[Option.map_some,bt];rw[List.getD_eq_getElem?_getD,List.getElem?_eq_none (by omega)];rfl
  ·rw[if_neg (by omega),List.getElem?_eq_none (by simp;omega)];rfl
theorem zae(key s:ByteArray)(w:World)(hk:key.size≤100000000)(hs:s.size≤100000000)(hT:Tabs w) :
  Calls Tryz.prog 156 #[.string key,.string s] w fun e w'=>e = .returned (.agg ((qp1 key s).map (Value.int .u8)).toArray)∧qu w w':=by
 go_enter Tryz.func156,Tryz.ntmps156
 go_upto_region 0 with fail
 refine wp_region_lit ?_
 refine zg rfl (v:= .pointer (some ⟨w.heap.size,0,none⟩)) (w':=w.alloc (.cells qep 35)) (by kernel_rfl) ?_
 have n0:qu w (w.alloc (.cells qep 35)):=(Upd.refl _ _).alloc _
 have vR:(w.alloc (.cells qep 35)).heap[w.heap.size]? = some (.cells qep 35 (0,0)):=qh _ _
 generalize w.alloc (.cells qep 35)=w1 at n0 vR ⊢
 have f1:w.heap.size<w1.heap.size:=zr vR
 have b7:=q1n key
 have d4:qp1 key s=qek (strOfNums (qg7 (qoq key) 92)++strOfNums (qek (strOfNums (qg7 (qoq key) 54)++s))):=rfl
 have d3:=qb d4
 clear d4
 by_cases hc:64<key.size
 ·have e1:qoq key=strOfNums (qek key):=by unfold qoq;rw[if_pos hc]
  have f0:(64:Int)<(key.size:Int):=by omega
  have c9:=qgn key w1 (by omega) (hT.new n0);have d1:=qb5 key;generalize qek key=sk at e1 c9 d1;have e7:=qb e1;have d2:=qb c9;clear e1 c9;go_upto_region 2 with fail;refine wp_region_lit ?_;refine zg rfl (v:= .string key) (w':=w1) (by kernel_rfl) ?_;refine qdb rfl (f:=164) (args:=#[.string key]) (w':=w1) (by kernel_rfl) ?_;refine(qa d2).mono ?_;rintro e V ⟨rfl,n2⟩;refine⟨_,rfl,?_⟩;refine zg rfl (v:= .pointer (some ⟨V.heap.size,0,none⟩)) (w':=V.alloc (.cells qep 35)) (by kernel_rfl) ?_;have n3:qu V (V.alloc (.cells qep 35)):=(Upd.refl _ _).alloc _;have d0:(V.alloc (.cells qep 35)).heap[V.heap.size]? = some (.cells qep 35 (0,0)):=qh _ _;generalize V.alloc (.cells qep 35)=w3 at n3 d0 ⊢;refine wpList_store_row rfl _ _ _ rfl V.heap.size (sk.map (Value.int .u8)).toArray rfl rfl 35 _ d0 (by rw[List.size_toArray,List.length_map,d1];exact Tryz.infoHash) (by have h9:qep.size=32:=rfl;rw[h9];simp[d1]) (by simp[Value.oneCell']) ?_;have d7:=setRow_heap w3 V.heap.size _ (sk.map (Value.int .u8)).toArray 35 (0,0) d0;have n4:qu V (w3.setRow V.heap.size (sk.map (Value.int .u8)).toArray):=n3.setRow (fun h=>by omega) _;generalize w3.setRow V.heap.size (sk.map (Value.int .u8)).toArray=w4 at d7 n4 ⊢;have h8:qge w4 V.heap.size sk:=⟨_,d7⟩;have N:=qdd h8 32 d1;have e9:=n2.trans n4;have c6:=qa e7;generalize b6:qoq key=C at c6 b7;rw[←c6] at N;have d5:=qb b6;clear n2 n3 d0 d7 n4 h8 d2 e7 c6 b6;obtain⟨wK,rfl⟩:∃wK:World,wK=w4:=⟨_,rfl⟩;have nK:=e9;clear e9;go_upto_region 4 with fail
  refine wp_region_lit ?_;refine zg rfl (v:= .pointer (some ⟨wK.heap.size,0,none⟩)) (w':=wK.alloc (.cells qgc 283)) (by kernel_rfl) ?_;have n5:qu wK (wK.alloc (.cells qgc 283)):=(Upd.refl _ _).alloc _;have I:(wK.alloc (.cells qgc 283)).heap[wK.heap.size]? = some (.cells qgc 283 (0,0)):=qh _ _;generalize wK.alloc (.cells qgc 283)=w5 at n5 I ⊢;have e5:=nK.size;obtain⟨K,c3⟩:∃K,K=wK.heap.size:=⟨_,rfl⟩;rw[←c3] at I e5 ⊢;have e8:wK.heap.size≤K:=by omega
  clear c3;go_upto_region 5 with fail;refine wp_region_lit ?_;refine zg rfl (v:= .slice (some ⟨K,0,none⟩) 64 64) (w':=w5) (by kernel_rfl) ?_;refine zg rfl (v:= .string C) (w':=w5) (by kernel_rfl) ?_;refine zg rfl (v:=goInt C.size) (w':=w5.setRow K ((qgd C).map (Value.int .u8)).toArray) (qqa (.tmp 16) (.tmp 17) 95 9 rfl _ _ rfl rfl ?_) ?_
  ·have h:=Lib.run_copy_row_string (P:=Tryz.prog) w5 95 9 3 5 K 0 64 64 C qgc 283 Tryz.underlying95 (by kernel_rfl) I b7 (by have h9:qgc.size=64:=rfl;rw[h9];omega);rw[qqo C b7] at h;exact h
  have a7:=setRow_heap w5 K _ ((qgd C).map (Value.int .u8)).toArray 283 (0,0) I;have n6:qu wK (w5.setRow K ((qgd C).map (Value.int .u8)).toArray):=n5.setRow (fun h=>by omega) _;generalize w5.setRow K ((qgd C).map (Value.int .u8)).toArray=w6 at a7 n6 ⊢;have a6:qge w6 K (qgd C):=⟨_,a7⟩;have b3:=nK.trans n6;clear n5 I a7;have i:=qb ((qa d3).trans (by rw[qa d5]));have e2:=qfq C 54 K;have e3:(strOfNums (qg7 C 54)).size=64:=by rw[strOfNums_size,qk2]
  have e4:(strOfNums (qg7 C 92)).size=64:=by rw[strOfNums_size,qk2]
  have X:=qb (fun W (n:qu w6 W)=>qfq C 54 K W ⟨_,(n.old a6.choose_spec (fun h=>h))⟩ (by decide) (by decide));have Y:=qb (fun W (n:qu w6 W)=>qfq C 92 K W ⟨_,(n.old a6.choose_spec (fun h=>h))⟩ (by decide) (by decide));clear e2;generalize strOfNums (qg7 C 54)=q1 at e3 i X;generalize strOfNums (qg7 C 92)=S at e4 i Y;have c7:=fun W h=>qgn (q1++s) W (by rw[ByteArray.size_append];omega) h
  have Z:=qb c7;have J:=qb5 (q1++s);generalize qek (q1++s)=z at Z J i;have c5:(strOfNums z).size=32:=by rw[strOfNums_size,J]
  clear c7;go_upto_region 7 with fail;refine wp_region_lit ?_;refine zg rfl (v:= .func (.func 187) #[] #[.pointer (some ⟨K,0,none⟩)]) (w':=w6) (by kernel_rfl) ?_;refine qdb rfl (f:=187) (args:=#[.int .u8 54,.pointer (some ⟨K,0,none⟩)]) (w':=w6) (by kernel_rfl) ?_;refine(qa X _ (Upd.refl _ _)).mono ?_;rintro e w7 ⟨rfl,n7⟩;refine⟨_,rfl,?_⟩;have O:¬9223372036854775807<q1.size+s.size:=by omega
  refine zg rfl (v:= .string s) (w':=w7) (by kernel_rfl) ?_;refine zg rfl (v:= .string (q1++s)) (w':=w7) (by simp only[execOp];go_simp;first | done | omega) ?_;refine qdb rfl (f:=164) (args:=#[.string (q1++s)]) (w':=w7) (by kernel_rfl) ?_;refine(qa Z _ (hT.new (n0.trans (b3.trans n7)))).mono ?_;rintro e F ⟨rfl,n8⟩;refine⟨_,rfl,?_⟩;refine zg rfl (v:= .pointer (some ⟨F.heap.size,0,none⟩)) (w':=F.alloc (.cells qep 35)) (by kernel_rfl) ?_;have n9:qu F (F.alloc (.cells qep 35)):=(Upd.refl _ _).alloc _;have M:(F.alloc (.cells qep 35)).heap[F.heap.size]? = some (.cells qep 35 (0,0)):=qh _ _;generalize F.alloc (.cells qep 35)=w9 at n9 M ⊢;refine wpList_store_row rfl _ _ _ rfl F.heap.size (z.map (Value.int .u8)).toArray (by kernel_rfl) (by kernel_rfl) 35 _ M (by rw[List.size_toArray,List.length_map,J];exact Tryz.infoHash) (by have h9:qep.size=32:=rfl;rw[h9];simp[J]) (by simp[Value.oneCell']) ?_;have a8:=setRow_heap w9 F.heap.size _ (z.map (Value.int .u8)).toArray 35 (0,0) M;have nz:qu F (w9.setRow F.heap.size (z.map (Value.int .u8)).toArray):=n9.setRow (fun h=>by omega) _;generalize w9.setRow F.heap.size (z.map (Value.int .u8)).toArray=H at a8 nz ⊢;have c2:qge H F.heap.size z:=⟨_,a8⟩;have b8:=qb (fun W (n:qu H W)=>(⟨_,n.old c2.choose_spec (fun h=>h)⟩:qge W F.heap.size z));have b4:qu w6 H:=n7.trans (n8.trans nz);have c0:=qb (fun W (n:qu H W)=>qa Y W (b4.trans n));have b5:qu w1 H:=b3.trans b4;have d6:=qb (fun W (n:qu H W)=>(hT.new n0).new (b5.trans n))
  have U:=b5.old vR (fun h=>h);have e6:qbd .u8 H w.heap.size (List.replicate 32 0):=⟨_,U⟩;generalize F.heap.size=G at b8 ⊢;clear O X Z Y n9 M a8 nz c2 n7 n8 b3 a6 U b4 n6;generalize R:strOfNums z=p at c5 i;have b9:=qb R;clear R;have c8:=fun W h=>qgn (S++p) W (by rw[ByteArray.size_append];omega) h
  have c1:=qb c8;have L:=qb5 (S++p);generalize qek (S++p)=out at c1 L i;clear c8;go_upto_region 8 with fail;go_simp;refine qlj (by kernel_rfl) [[],[(0,25)],[],[(2,27)],[(1,26),(3,28)],[(4,29)],[(5,30)]] 31 rfl (by kernel_rfl) [(0,25),(1,26),(2,27),(3,28),(4,29),(5,30)] (by kernel_rfl) [6] (by kernel_rfl) [[(0,0)],[(0,0)],[(0,0)],[(0,0)],[(0,0)],[(0,0)],[(0,1)]] (by kernel_rfl)
   (zcw H w.heap.size out) qbp (isV [.func (.func 187) #[] #[.pointer (some ⟨K,0,none⟩)],.string S,.slice (some ⟨G,0,none⟩) 32 32,.string p,.string (S++p),.agg (out.map (Value.int .u8)).toArray,undef])
   (((Upd.refl _ _).drew)) (fun _=>qbp.all _ _) (fun _ _ _ _ _ _ _ _ _ h=>h) ?_ ?_
  ·refine .pure rfl (fun _=>qbp.all _ _) rfl ?_ <| .one rfl ?_ <| .pure rfl (fun _=>qbp.all _ _) rfl ?_ <| .one rfl ?_ <| .pure rfl (fun _=>qbp.all _ _) rfl ?_ <| .one rfl ?_ <| .one rfl ?_ <| .nil
   ·rintro qj w1 _;unfold zm;simp only[putL];go_simp
    first | exact⟨rfl,rfl⟩ | rfl
   ·rintro qj w1 m ⟨E,-⟩;replace m:qu H w1:=m;replace E:qj 0 = .func (.func 187) #[] #[.pointer (some ⟨K,0,none⟩)]:=E;unfold zm;simp only[putL];go_simp;refine(qa c0 w1 m).mono ?_;rintro e V ⟨rfl,n2⟩;exact⟨_,rfl,qbp.all _ _,m.trans n2,rfl⟩
   ·rintro qj w1 _;unfold zm;simp only[putL];go_simp
    first | exact⟨rfl,rfl⟩ | rfl
   ·rintro qj w1 m ⟨E,-⟩;replace m:qu H w1:=m;replace E:qj 2 = .slice (some ⟨G,0,none⟩) 32 32:=E;have N:=qdd (qa b8 w1 m) 32 J;rw[qa b9] at N;unfold zm;simp only[putL];go_simp;exact⟨qbp.all _ _,m,rfl⟩
   ·rintro qj w1 ⟨E,p1,-⟩;replace E:qj 1 = .string S:=E;replace p1:qj 3 = .string p:=p1;have O:¬9223372036854775807<S.size+p.size:=by omega
    unfold zm;simp only[putL];go_simp
    first | exact⟨rfl,rfl⟩ | rfl
   ·rintro qj w1 m ⟨E,-⟩;replace m:qu H w1:=m;replace E:qj 4 = .string (S++p):=E;unfold zm;simp only[putL];go_simp;refine(qa c1 w1 (qa d6 w1 m)).mono ?_;rintro e V ⟨rfl,n2⟩;exact⟨_,rfl,qbp.all _ _,m.trans n2,rfl⟩
   ·rintro qj w1 m ⟨E,-⟩;replace m:qu H w1:=m;replace E:qj 5 = .agg (out.map (Value.int .u8)).toArray:=E;have hI:=e6.upd m (fun h=>h);have N:=hI.stOk (r:=out) (n:=32) (by simp[L]) L;have c4:=qb (hI.setAll (r:=out) (by simp[L]));have u1:=qb ((m.mono (T:=fun k=>k=w.heap.size) (fun _ _ h=>h.elim)).then ((Upd.refl (· = w.heap.size) w1).setCells 0 (out.map (Value.int .u8))) (fun _ _ h=>h));have e0:(out.map (Value.int .u8)).toArray.toList=out.map (Value.int .u8):=rfl;generalize d9:(out.map (Value.int .u8)).toArray=cs at E N e0;generalize d8:out.map (Value.int .u8)=cl at e0 c4 u1;clear d9 d8 hI;unfold zm;simp only[putL];go_simp;exact⟨qbp.all _ _,⟨qa u1,qa c4⟩,rfl⟩
  ·intro qj w1 m hv;clear hv;replace m:Upd (fun k=>k=w.heap.size) H w1∧qbd .u8 w1 w.heap.size out:=m;obtain⟨u1,T1,hI⟩:=m;simp only[putL];have nE:=(n0.trans b5).then u1 (by intro q hq h;omega);go_wp2_with fail;refine bodyPost_ret (results_cell_row rfl _ _ w.heap.size T1 _ _ _ rfl hI Tryz.underlying35 rfl (by rw[List.size_toArray,List.length_map,L];exact Tryz.infoHash)) rfl ?_;exact⟨by rw[qa i],nE⟩
 ·have f0:¬(64:Int)<(key.size:Int):=by omega
  have b6:qoq key=key:=by unfold qoq;rw[if_neg hc]
  have d5:=qb b6;rw[b6] at b7;clear b6;obtain⟨C,rfl⟩:∃C:ByteArray,C=key:=⟨_,rfl⟩;have nK:qu w1 w1:=Upd.refl _ _;go_upto_region 4 with fail;refine wp_region_lit ?_;refine zg rfl (v:= .pointer (some ⟨w1.heap.size,0,none⟩)) (w':=w1.alloc (.cells qgc 283)) (by kernel_rfl) ?_;have n5:qu w1 (w1.alloc (.cells qgc 283)):=(Upd.refl _ _).alloc _;have I:(w1.alloc (.cells qgc 283)).heap[w1.heap.size]? = some (.cells qgc 283 (0,0)):=qh _ _;generalize w1.alloc (.cells qgc 283)=w5 at n5 I ⊢;have e5:=nK.size;obtain⟨K,c3⟩:∃K,K=w1.heap.size:=⟨_,rfl⟩;rw[←c3] at I e5 ⊢;have e8:w1.heap.size≤K:=by omega
  clear c3;go_upto_region 5 with fail;refine wp_region_lit ?_;refine zg rfl (v:= .slice (some ⟨K,0,none⟩) 64 64) (w':=w5) (by kernel_rfl) ?_;refine zg rfl (v:= .string C) (w':=w5) (by kernel_rfl) ?_;refine zg rfl (v:=goInt C.size) (w':=w5.setRow K ((qgd C).map (Value.int .u8)).toArray) (qqa (.tmp 16) (.tmp 17) 95 9 rfl _ _ rfl rfl ?_) ?_
  ·have h:=Lib.run_copy_row_string (P:=Tryz.prog) w5 95 9 3 5 K 0 64 64 C qgc 283 Tryz.underlying95 (by kernel_rfl) I b7 (by have h9:qgc.size=64:=rfl;rw[h9];omega);rw[qqo C b7] at h;exact h
  have a7:=setRow_heap w5 K _ ((qgd C).map (Value.int .u8)).toArray 283 (0,0) I;have n6:qu w1 (w5.setRow K ((qgd C).map (Value.int .u8)).toArray):=n5.setRow (fun h=>by omega) _;generalize w5.setRow K ((qgd C).map (Value.int .u8)).toArray=w6 at a7 n6 ⊢;have a6:qge w6 K (qgd C):=⟨_,a7⟩;have b3:=nK.trans n6;clear n5 I a7;have i:=qb ((qa d3).trans (by rw[qa d5]));have e2:=qfq C 54 K;have e3:(strOfNums (qg7 C 54)).size=64:=by rw[strOfNums_size,qk2]
  have e4:(strOfNums (qg7 C 92)).size=64:=by rw[strOfNums_size,qk2]
  have X:=qb (fun W (n:qu w6 W)=>qfq C 54 K W ⟨_,(n.old a6.choose_spec (fun h=>h))⟩ (by decide) (by decide));have Y:=qb (fun W (n:qu w6 W)=>qfq C 92 K W ⟨_,(n.old a6.choose_spec (fun h=>h))⟩ (by decide) (by decide));clear e2;generalize strOfNums (qg7 C 54)=q1 at e3 i X;generalize strOfNums (qg7 C 92)=S at e4 i Y;have c7:=fun W h=>qgn (q1++s) W (by rw[ByteArray.size_append];omega) h
  have Z:=qb c7;have J:=qb5 (q1++s);generalize qek (q1++s)=z at Z J i;have c5:(strOfNums z).size=32:=by rw[strOfNums_size,J]
  clear c7;go_upto_region 7 with fail;refine wp_region_lit ?_;refine zg rfl (v:= .func (.func 187) #[] #[.pointer (some ⟨K,0,none⟩)]) (w':=w6) (by kernel_rfl) ?_;refine qdb rfl (f:=187) (args:=#[.int .u8 54,.pointer (some ⟨K,0,none⟩)]) (w':=w6) (by kernel_rfl) ?_;refine(qa X _ (Upd.refl _ _)).mono ?_;rintro e w7 ⟨rfl,n7⟩;refine⟨_,rfl,?_⟩;have O:¬9223372036854775807<q1.size+s.size:=by omega
  refine zg rfl (v:= .string s) (w':=w7) (by kernel_rfl) ?_;refine zg rfl (v:= .string (q1++s)) (w':=w7) (by simp only[execOp];go_simp;first | done | omega) ?_;refine qdb rfl (f:=164) (args:=#[.string (q1++s)]) (w':=w7) (by kernel_rfl) ?_;refine(qa Z _ (hT.new (n0.trans (b3.trans n7)))).mono ?_;rintro e F ⟨rfl,n8⟩;refine⟨_,rfl,?_⟩;refine zg rfl (v:= .pointer (some ⟨F.heap.size,0,none⟩)) (w':=F.alloc (.cells qep 35)) (by kernel_rfl) ?_;have n9:qu F (F.alloc (.cells qep 35)):=(Upd.refl _ _).alloc _;have M:(F.alloc (.cells qep 35)).heap[F.heap.size]? = some (.cells qep 35 (0,0)):=qh _ _;generalize F.alloc (.cells qep 35)=w9 at n9 M ⊢;refine wpList_store_row rfl _ _ _ rfl F.heap.size (z.map (Value.int .u8)).toArray (by kernel_rfl) (by kernel_rfl) 35 _ M (by rw[List.size_toArray,List.length_map,J];exact Tryz.infoHash) (by have h9:qep.size=32:=rfl;rw[h9];simp[J]) (by simp[Value.oneCell']) ?_;have a8:=setRow_heap w9 F.heap.size _ (z.map (Value.int .u8)).toArray 35 (0,0) M;have nz:qu F (w9.setRow F.heap.size (z.map (Value.int .u8)).toArray):=n9.setRow (fun h=>by omega) _;generalize w9.setRow F.heap.size (z.map (Value.int .u8)).toArray=H at a8 nz ⊢;have c2:qge H F.heap.size z:=⟨_,a8⟩;have b8:=qb (fun W (n:qu H W)=>(⟨_,n.old c2.choose_spec (fun h=>h)⟩:qge W F.heap.size z));have b4:qu w6 H:=n7.trans (n8.trans nz);have c0:=qb (fun W (n:qu H W)=>qa Y W (b4.trans n));have b5:qu w1 H:=b3.trans b4;have d6:=qb (fun W (n:qu H W)=>(hT.new n0).new (b5.trans n))
  have U:=b5.old vR (fun h=>h);have e6:qbd .u8 H w.heap.size (List.replicate 32 0):=⟨_,U⟩;generalize F.heap.size=G at b8 ⊢;clear O X Z Y n9 M a8 nz c2 n7 n8 b3 a6 U b4 n6;generalize R:strOfNums z=p at c5 i;have b9:=qb R;clear R;have c8:=fun W h=>qgn (S++p) W (by rw[ByteArray.size_append];omega) h
  have c1:=qb c8;have L:=qb5 (S++p);generalize qek (S++p)=out at c1 L i;clear c8;go_upto_region 8 with fail;go_simp;refine qlj (by kernel_rfl) [[],[(0,25)],[],[(2,27)],[(1,26),(3,28)],[(4,29)],[(5,30)]] 31 rfl (by kernel_rfl) [(0,25),(1,26),(2,27),(3,28),(4,29),(5,30)] (by kernel_rfl) [6] (by kernel_rfl) [[(0,0)],[(0,0)],[(0,0)],[(0,0)],[(0,0)],[(0,0)],[(0,1)]] (by kernel_rfl)
   (zcw H w.heap.size out) qbp (isV [.func (.func 187) #[] #[.pointer (some ⟨K,0,none⟩)],.string S,.slice (some ⟨G,0,none⟩) 32 32,.string p,.string (S++p),.agg (out.map (Value.int .u8)).toArray,undef])
   (((Upd.refl _ _).drew)) (fun _=>qbp.all _ _) (fun _ _ _ _ _ _ _ _ _ h=>h) ?_ ?_
  ·refine .pure rfl (fun _=>qbp.all _ _) rfl ?_ <| .one rfl ?_ <| .pure rfl (fun _=>qbp.all _ _) rfl ?_ <| .one rfl ?_ <| .pure rfl (fun _=>qbp.all _ _) rfl ?_ <| .one rfl ?_ <| .one rfl ?_ <| .nil
   ·rintro qj w1 _;unfold zm;simp only[putL];go_simp
    first | exact⟨rfl,rfl⟩ | rfl
   ·rintro qj w1 m ⟨E,-⟩;replace m:qu H w1:=m;replace E:qj 0 = .func (.func 187) #[] #[.pointer (some ⟨K,0,none⟩)]:=E;unfold zm;simp only[putL];go_simp;refine(qa c0 w1 m).mono ?_;rintro e V ⟨rfl,n2⟩;exact⟨_,rfl,qbp.all _ _,m.trans n2,rfl⟩
   ·rintro qj w1 _;unfold zm;simp only[putL];go_simp
    first | exact⟨rfl,rfl⟩ | rfl
   ·rintro qj w1 m ⟨E,-⟩;replace m:qu H w1:=m;replace E:qj 2 = .slice (some ⟨G,0,none⟩) 32 32:=E;have N:=qdd (qa b8 w1 m) 32 J;rw[qa b9] at N;unfold zm;simp only[putL];go_simp;exact⟨qbp.all _ _,m,rfl⟩
   ·rintro qj w1 ⟨E,p1,-⟩;replace E:qj 1 = .string S:=E;replace p1:qj 3 = .string p:=p1;have O:¬9223372036854775807<S.size+p.size:=by omega
    unfold zm;simp only[putL];go_simp
    first | exact⟨rfl,rfl⟩ | rfl
   ·rintro qj w1 m ⟨E,-⟩;replace m:qu H w1:=m;replace E:qj 4 = .string (S++p):=E;unfold zm;simp only[putL];go_simp;refine(qa c1 w1 (qa d6 w1 m)).mono ?_;rintro e V ⟨rfl,n2⟩;exact⟨_,rfl,qbp.all _ _,m.trans n2,rfl⟩
   ·rintro qj w1 m ⟨E,-⟩;replace m:qu H w1:=m;replace E:qj 5 = .agg (out.map (Value.int .u8)).toArray:=E;have hI:=e6.upd m (fun h=>h);have N:=hI.stOk (r:=out) (n:=32) (by simp[L]) L;have c4:=qb (hI.setAll (r:=out) (by simp[L]));have u1:=qb ((m.mono (T:=fun k=>k=w.heap.size) (fun _ _ h=>h.elim)).then ((Upd.refl (· = w.heap.size) w1).setCells 0 (out.map (Value.int .u8))) (fun _ _ h=>h));have e0:(out.map (Value.int .u8)).toArray.toList=out.map (Value.int .u8):=rfl;generalize d9:(out.map (Value.int .u8)).toArray=cs at E N e0;generalize d8:out.map (Value.int .u8)=cl at e0 c4 u1;clear d9 d8 hI;unfold zm;simp only[putL];go_simp;exact⟨qbp.all _ _,⟨qa u1,qa c4⟩,rfl⟩
  ·intro qj w1 m hv;clear hv;replace m:Upd (fun k=>k=w.heap.size) H w1∧qbd .u8 w1 w.heap.size out:=m;obtain⟨u1,T1,hI⟩:=m;simp only[putL];have nE:=(n0.trans b5).then u1 (by intro q hq h;omega);go_wp2_with fail;refine bodyPost_ret (results_cell_row rfl _ _ w.heap.size T1 _ _ _ rfl hI Tryz.underlying35 rfl (by rw[List.size_toArray,List.length_map,L];exact Tryz.infoHash)) rfl ?_;exact⟨by rw[qa i],nE⟩
end Go.Proofs.YtfmkdoachjgjbaaGreatDoor
