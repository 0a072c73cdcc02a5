/-
  Package seal: Tag; the reference's mixed and Tag.
-/
import Derived.Test.YthnohmjbbeahmaaGreatDoorMbe
import Derived.Lib.BufferWrite
set_option linter.unusedVariables false
set_option linter.unusedSimpArgs false
namespace Go.Proofs.YthnohmjbbeahmaaGreatDoor
open Go.RowKit
def qi0(key:ByteArray)(x:Int):List Int:=(List.range 64).map fun i=>bits .xor .u8 (bt key i) x
theorem Tryz.infoB64:(Tryz.prog.info? 161).map (·.size)=some 64:=by kernel_rfl
def qhx:Array Value:=((List.replicate 64 (0:Int)).map (Value.int .u8)).toArray
def qhy(key:ByteArray):List Int:=(List.range 64).map fun i=>bt key i
def qi1(key:ByteArray)(x:Int)(n:Nat):List Int:=(List.range 64).map fun i=>if i<n then bits .xor .u8 (bt key i) x else bt key i
theorem q66(key:ByteArray)(x:Int)(n:Nat):(qi1 key x n).length=64:=by unfold qi1;simp
theorem q2k(key:ByteArray)(x:Int):qi1 key x 0=qhy key:=by unfold qi1 qhy;exact List.map_congr_left fun i _=>by simp
theorem q65(key:ByteArray)(x:Int):qi1 key x 64=qi0 key x:=by unfold qi1 qi0;exact List.map_congr_left fun i g=>by rw[if_pos (List.mem_range.1 g)]
theorem za9(key:ByteArray)(x:Int)(n:Nat)(h:n<64):(qi1 key x n).getD n 0=bt key n:=by
 unfold qi1;rw[List.getD_eq_getElem?_getD,List.getElem?_map,List.getElem?_range h];simp
theorem q2j(key:ByteArray)(x:Int)(n:Nat)(h:n<64):(qi1 key x n).set n (bits .xor .u8 (bt key n) x)=qi1 key x (n+1):=by
 refine List.ext_getElem? fun i=> ?_
 unfold qi1;rw[List.getElem?_set,List.getElem?_map,List.getElem?_map];by_cases l:n=i
 ·subst l;rw[if_pos rfl,if_pos (by simpa using h),List.getElem?_range h];simp
 ·rw[if_neg l];by_cases m:i<64
  ·rw[List.getElem?_range m];simp only[Option.map_some];by_cases g:i<n
   ·rw[if_pos g,if_pos (by omega)]
   ·rw[if_neg g,if_neg (by omega)]
  ·rw[List.getElem?_eq_none (by simp;omega)];rfl
set_option maxRecDepth 100000 in
set_option maxHeartbeats 1000000 in
theorem qhb(key:ByteArray)(x:Int)(K:Nat)(w:World)(D:qhz w K (qhy key))(Z:0≤x)(h1:x≤255) :
  Calls Tryz.prog 92 #[.int .u8 x,.pointer (some ⟨K,0,none⟩)] w (qbr (.string (strOfNums (qi0 key x))) w):=by
 go_enter Tryz.func92,Tryz.ntmps92
 go_upto_region 1 with fail
 refine wp_region_lit ?_
 obtain⟨T,D⟩:=D
 refine wpList_load_row rfl _ _ rfl K rfl T _ _ _ D Tryz.underlying161 rfl (by rw[List.size_toArray,List.length_map];exact Tryz.infoB64) ?_
 refine q8 rfl (v:= .pointer (some ⟨w.heap.size,0,none⟩)) (w':=w.alloc (.cells qhx 161)) (by kernel_rfl) ?_
 have I:qu w (w.alloc (.cells qhx 161)):=(Upd.refl _ _).alloc _
 have l:(w.alloc (.cells qhx 161)).heap[w.heap.size]? = some (.cells qhx 161 (0,0)):=qi _ _
 generalize w.alloc (.cells qhx 161)=w1 at I l ⊢
 have F:(qhy key).length=64:=by simp[qhy]
 refine wpList_store_row rfl _ _ _ rfl w.heap.size ((qhy key).map (Value.int .u8)).toArray rfl rfl 161 _ l (by rw[List.size_toArray,List.length_map,F];exact Tryz.infoB64) (by have U:qhx.size=64:=rfl;rw[U];simp[F]) (by simp[Value.oneCell']) ?_
 have E:=setRow_heap w1 w.heap.size _ ((qhy key).map (Value.int .u8)).toArray 161 (0,0) l
 have J:qu w (w1.setRow w.heap.size ((qhy key).map (Value.int .u8)).toArray):=I.setRow (fun h=>by omega) _
 generalize w1.setRow w.heap.size ((qhy key).map (Value.int .u8)).toArray=W at E J ⊢
 have P:qbd .u8 W w.heap.size (qhy key):=⟨_,E⟩
 clear E I l D F
 go_wp2_with fail
 go_loopw [5,7] (fun _ H wr=>∃i:Nat,H = .int .i64 (i:Int)∧i≤64∧qbd .u8 wr w.heap.size (qi1 key x i)∧qu w wr) (fun _ H _=>64-(intOf H).toNat)
 case atStart=>exact⟨0,rfl,by omega,by rw[q2k];exact P,J⟩
 case round =>
  clear P J;obtain⟨i,rfl,hi,m,N⟩:=hrel;by_cases C:i<64
  ·have L:wr.cell? ⟨w.heap.size,i,none⟩=some (.int .u8 ((qi1 key x i).getD i 0)):=m.cell (by rw[q66];omega);rw[za9 key x i C] at L;have z0:=m.free i;have g:=m.set i (bits .xor .u8 (bt key i) x);rw[q2j key x i C] at g;have O:qu w (wr.setCell ⟨w.heap.size,i,none⟩ (.int .u8 (bits .xor .u8 (bt key i) x))):=N.setCell (fun h=>by simp at h) _;obtain⟨X,Y⟩:=qx7 key i;have o:=qb g;have t:=qb O;clear g O m;have V:(i:Int)<64:=by omega
   generalize bt key i=y at L X Y o t;go_wp2;go_roundw
   case rel=>exact⟨i+1,by go_num,by omega,qa o,qa t⟩
   case measure=>simp[intOf];omega
  ·obtain rfl:i=64:=by omega
   rw[show ((64:Nat):Int)=64 from rfl];rw[q65] at m;have z:qhz wr w.heap.size (qi0 key x):=m;have g:=qef z 64 (by unfold qi0;simp);generalize M:strOfNums (qi0 key x)=q at g;have R:=qb M;clear M m z;go_wp2;go_ret;exact⟨by rw[qa R];rfl,N⟩
theorem qns(key:ByteArray)(x:Int):(qi0 key x).length=64:=by simp[qi0]
def qr2(key:ByteArray):ByteArray:=if 64<key.size then strOfNums (qgs key) else key
theorem q6u(key:ByteArray):(qr2 key).size≤64:=by
 unfold qr2;split
 ·rw[strOfNums_size,qc4];decide
 ·omega
def qtr(key s:ByteArray):List Int:=qgs (strOfNums (qi0 (qr2 key) 92)++strOfNums (qgs (strOfNums (qi0 (qr2 key) 54)++s)))
def qf7:Array Value:=((List.replicate 32 (0:Int)).map (Value.int .u8)).toArray
attribute [local go_sem ↓ high] qk6 qln
attribute [local go_sem] q2a q3g
theorem qt1{P:Program}{o:Oper}{a:Act}{w:World}(d s:Operand)(t g:TypeId)(l:o.op = .call {callee:= .builtin .copy,args:=#[d,s],argTypes:=#[t,g]})(v u:Value)(hd:a.eval d=v)(q:a.eval s=u){i:Value}{w':World}
  (m:(Builtin.copy_ #[t,g] o.type #[v,u]).run P w = .ok i w'):(execOp a.eval o).run P w = .ok (.value i) w':=by
 unfold execOp
 simp only[l,resolve,invoke,builtin,Sem.run_bind,Sem.run_pure,Result.andThen_ok,List.map_toArray,List.map_cons,List.map_nil,hd,q,m]
theorem qug(key:ByteArray)(h:key.size≤64):(qhx.toList.take 0++Lib.byteCells key.data.toList++qhx.toList.drop (0+key.size))=(qhy key).map (Value.int .u8):=by
 have o:qhx.toList=List.replicate 64 (Value.int .u8 0):=rfl;have l:key.data.toList.length=key.size:=Array.length_toList;rw[o,List.take_zero,List.nil_append,Nat.zero_add,List.drop_replicate];refine List.ext_getElem? fun i=> ?_
 unfold qhy Lib.byteCells;rw[List.getElem?_map,List.getElem?_map];by_cases m:i<key.size
 ·rw[List.getElem?_append_left (by rw[List.length_map,l];exact m),List.getElem?_map,List.getElem?_range (by omega)];have g:key.data.toList[i]? = some (key.data.toList.getD i 0):=by rw[List.getD_eq_getElem?_getD,List.getElem?_eq_getElem (by omega)];rfl
  rw[g];rfl
 ·rw[List.getElem?_append_right (by rw[List.length_map,l];omega),List.length_map,l,List.getElem?_replicate];by_cases g:i<64
  ·rw[if_pos (by omega),List.getElem?_range g];simp only[Option.map_some,bt];rw[List.getD_eq_getElem?_getD,List.getElem?_eq_none (by omega)];rfl
  ·rw[if_neg (by omega),List.getElem?_eq_none (by simp;omega)];rfl
set_option maxRecDepth 100000 in
set_option maxHeartbeats 4000000 in
theorem zeq(key s:ByteArray)(w:World)(hk:key.size≤100000000)(hs:s.size≤100000000)(hT:Tabs w) :
  Calls Tryz.prog 73 #[.string key,.string s] w fun e w'=>e = .returned (.agg ((qtr key s).map (Value.int .u8)).toArray)∧qu w w':=by
 go_enter Tryz.func73,Tryz.ntmps73
 go_upto_region 0 with fail
 refine wp_region_lit ?_
 refine q8 rfl (v:= .pointer (some ⟨w.heap.size,0,none⟩)) (w':=w.alloc (.cells qf7 33)) (by kernel_rfl) ?_
 have n0:qu w (w.alloc (.cells qf7 33)):=(Upd.refl _ _).alloc _
 have vR:(w.alloc (.cells qf7 33)).heap[w.heap.size]? = some (.cells qf7 33 (0,0)):=qi _ _
 generalize w.alloc (.cells qf7 33)=w1 at n0 vR ⊢
 have e3:w.heap.size<w1.heap.size:=z6 vR
 have a6:=q6u key
 have c6:qtr key s=qgs (strOfNums (qi0 (qr2 key) 92)++strOfNums (qgs (strOfNums (qi0 (qr2 key) 54)++s))):=rfl
 have c5:=qb c6
 clear c6
 by_cases hc:64<key.size
 ·have d2:qr2 key=strOfNums (qgs key):=by unfold qr2;rw[if_pos hc]
  have e2:(64:Int)<(key.size:Int):=by omega
  have c1:=qj9 key w1 (by omega) (hT.new n0);have c3:=qc4 key;generalize qgs key=sk at d2 c1 c3;have d8:=qb d2;have c4:=qb c1;clear d2 c1;go_upto_region 2 with fail;refine wp_region_lit ?_;refine q8 rfl (v:= .string key) (w':=w1) (by kernel_rfl) ?_;refine qd7 rfl (f:=89) (args:=#[.string key]) (w':=w1) (by kernel_rfl) ?_;refine(qa c4).mono ?_;rintro e M ⟨rfl,n2⟩;refine⟨_,rfl,?_⟩;refine q8 rfl (v:= .pointer (some ⟨M.heap.size,0,none⟩)) (w':=M.alloc (.cells qf7 33)) (by kernel_rfl) ?_;have n3:qu M (M.alloc (.cells qf7 33)):=(Upd.refl _ _).alloc _;have c2:(M.alloc (.cells qf7 33)).heap[M.heap.size]? = some (.cells qf7 33 (0,0)):=qi _ _;generalize M.alloc (.cells qf7 33)=w3 at n3 c2 ⊢;refine wpList_store_row rfl _ _ _ rfl M.heap.size (sk.map (Value.int .u8)).toArray rfl rfl 33 _ c2 (by rw[List.size_toArray,List.length_map,c3];exact Tryz.infoHash) (by have h9:qf7.size=32:=rfl;rw[h9];simp[c3]) (by simp[Value.oneCell']) ?_;have c9:=setRow_heap w3 M.heap.size _ (sk.map (Value.int .u8)).toArray 33 (0,0) c2;have n4:qu M (w3.setRow M.heap.size (sk.map (Value.int .u8)).toArray):=n3.setRow (fun h=>by omega) _;generalize w3.setRow M.heap.size (sk.map (Value.int .u8)).toArray=w4 at c9 n4 ⊢;have h8:qhz w4 M.heap.size sk:=⟨_,c9⟩;have F:=qef h8 32 c3;have e1:=n2.trans n4;have b8:=qa d8;generalize a5:qr2 key=kk at b8 a6;rw[←b8] at F;have c7:=qb a5;clear n2 n3 c2 c9 n4 h8 c4 d8 b8 a5;obtain⟨wK,rfl⟩:∃wK:World,wK=w4:=⟨_,rfl⟩;have nK:=e1;clear e1;go_upto_region 4 with fail
  refine wp_region_lit ?_;refine q8 rfl (v:= .pointer (some ⟨wK.heap.size,0,none⟩)) (w':=wK.alloc (.cells qhx 161)) (by kernel_rfl) ?_;have n5:qu wK (wK.alloc (.cells qhx 161)):=(Upd.refl _ _).alloc _;have z:(wK.alloc (.cells qhx 161)).heap[wK.heap.size]? = some (.cells qhx 161 (0,0)):=qi _ _;generalize wK.alloc (.cells qhx 161)=w5 at n5 z ⊢;have d6:=nK.size;obtain⟨K,b5⟩:∃K,K=wK.heap.size:=⟨_,rfl⟩;rw[←b5] at z d6 ⊢;have d9:wK.heap.size≤K:=by omega
  clear b5;go_upto_region 5 with fail;refine wp_region_lit ?_;refine q8 rfl (v:= .slice (some ⟨K,0,none⟩) 64 64) (w':=w5) (by kernel_rfl) ?_;refine q8 rfl (v:= .string kk) (w':=w5) (by kernel_rfl) ?_;refine q8 rfl (v:=goInt kk.size) (w':=w5.setRow K ((qhy kk).map (Value.int .u8)).toArray) (qt1 (.tmp 16) (.tmp 17) 22 9 rfl _ _ rfl rfl ?_) ?_
  ·have h:=Lib.run_copy_row_string (P:=Tryz.prog) w5 22 9 3 5 K 0 64 64 kk qhx 161 Tryz.underlying22 (by kernel_rfl) z a6 (by have h9:qhx.size=64:=rfl;rw[h9];omega);rw[qug kk a6] at h;exact h
  have V:=setRow_heap w5 K _ ((qhy kk).map (Value.int .u8)).toArray 161 (0,0) z;have n6:qu wK (w5.setRow K ((qhy kk).map (Value.int .u8)).toArray):=n5.setRow (fun h=>by omega) _;generalize w5.setRow K ((qhy kk).map (Value.int .u8)).toArray=w6 at V n6 ⊢;have U:qhz w6 K (qhy kk):=⟨_,V⟩;have Y:=nK.trans n6;clear n5 z V;have g:=qb ((qa c5).trans (by rw[qa c7]));have d3:=qhb kk 54 K;have d4:(strOfNums (qi0 kk 54)).size=64:=by rw[strOfNums_size,qns]
  have d5:(strOfNums (qi0 kk 92)).size=64:=by rw[strOfNums_size,qns]
  have N:=qb (fun W (n:qu w6 W)=>qhb kk 54 K W ⟨_,(n.old U.choose_spec (fun h=>h))⟩ (by decide) (by decide));have O:=qb (fun W (n:qu w6 W)=>qhb kk 92 K W ⟨_,(n.old U.choose_spec (fun h=>h))⟩ (by decide) (by decide));clear d3;generalize strOfNums (qi0 kk 54)=q1 at d4 g N;generalize strOfNums (qi0 kk 92)=J at d5 g O;have b9:=fun W h=>qj9 (q1++s) W (by rw[ByteArray.size_append];omega) h
  have R:=qb b9;have C:=qc4 (q1++s);generalize qgs (q1++s)=inn at R C g;have b7:(strOfNums inn).size=32:=by rw[strOfNums_size,C]
  clear b9;go_upto_region 7 with fail;refine wp_region_lit ?_;refine q8 rfl (v:= .func (.func 92) #[] #[.pointer (some ⟨K,0,none⟩)]) (w':=w6) (by kernel_rfl) ?_;refine qd7 rfl (f:=92) (args:=#[.int .u8 54,.pointer (some ⟨K,0,none⟩)]) (w':=w6) (by kernel_rfl) ?_;refine(qa N _ (Upd.refl _ _)).mono ?_;rintro e w7 ⟨rfl,n7⟩;refine⟨_,rfl,?_⟩;have H:¬9223372036854775807<q1.size+s.size:=by omega
  refine q8 rfl (v:= .string s) (w':=w7) (by kernel_rfl) ?_;refine q8 rfl (v:= .string (q1++s)) (w':=w7) (by simp only[execOp];go_simp;first | done | omega) ?_;refine qd7 rfl (f:=89) (args:=#[.string (q1++s)]) (w':=w7) (by kernel_rfl) ?_;refine(qa R _ (hT.new (n0.trans (Y.trans n7)))).mono ?_;rintro e o ⟨rfl,n8⟩;refine⟨_,rfl,?_⟩;refine q8 rfl (v:= .pointer (some ⟨o.heap.size,0,none⟩)) (w':=o.alloc (.cells qf7 33)) (by kernel_rfl) ?_;have n9:qu o (o.alloc (.cells qf7 33)):=(Upd.refl _ _).alloc _;have E:(o.alloc (.cells qf7 33)).heap[o.heap.size]? = some (.cells qf7 33 (0,0)):=qi _ _;generalize o.alloc (.cells qf7 33)=w9 at n9 E ⊢;refine wpList_store_row rfl _ _ _ rfl o.heap.size (inn.map (Value.int .u8)).toArray (by kernel_rfl) (by kernel_rfl) 33 _ E (by rw[List.size_toArray,List.length_map,C];exact Tryz.infoHash) (by have h9:qf7.size=32:=rfl;rw[h9];simp[C]) (by simp[Value.oneCell']) ?_;have X:=setRow_heap w9 o.heap.size _ (inn.map (Value.int .u8)).toArray 33 (0,0) E;have nz:qu o (w9.setRow o.heap.size (inn.map (Value.int .u8)).toArray):=n9.setRow (fun h=>by omega) _;generalize w9.setRow o.heap.size (inn.map (Value.int .u8)).toArray=t at X nz ⊢;have b4:qhz t o.heap.size inn:=⟨_,X⟩;have a7:=qb (fun W (n:qu t W)=>(⟨_,n.old b4.choose_spec (fun h=>h)⟩:qhz W o.heap.size inn));have Z:qu w6 t:=n7.trans (n8.trans nz);have a9:=qb (fun W (n:qu t W)=>qa O W (Z.trans n));have a4:qu w1 t:=Y.trans Z;have c8:=qb (fun W (n:qu t W)=>(hT.new n0).new (a4.trans n))
  have L:=a4.old vR (fun h=>h);have d7:qbd .u8 t w.heap.size (List.replicate 32 0):=⟨_,L⟩;generalize o.heap.size=G at a7 ⊢;clear H N R O n9 E X nz b4 n7 n8 Y U L Z n6;generalize I:strOfNums inn=l at b7 g;have a8:=qb I;clear I;have c0:=fun W h=>qj9 (J++l) W (by rw[ByteArray.size_append];omega) h
  have b3:=qb c0;have D:=qc4 (J++l);generalize qgs (J++l)=out at b3 D g;clear c0;go_upto_region 8 with fail;go_simp;refine qoh (by kernel_rfl) [[],[(0,25)],[],[(2,27)],[(1,26),(3,28)],[(4,29)],[(5,30)]] 31 rfl (by kernel_rfl) [(0,25),(1,26),(2,27),(3,28),(4,29),(5,30)] (by kernel_rfl) [6] (by kernel_rfl) [[(0,0)],[(0,0)],[(0,0)],[(0,0)],[(0,0)],[(0,0)],[(0,1)]] (by kernel_rfl)
   (zhp t w.heap.size out) qbs (isV [.func (.func 92) #[] #[.pointer (some ⟨K,0,none⟩)],.string J,.slice (some ⟨G,0,none⟩) 32 32,.string l,.string (J++l),.agg (out.map (Value.int .u8)).toArray,undef])
   (((Upd.refl _ _).drew)) (fun _=>qbs.all _ _) (fun _ _ _ _ _ _ _ _ _ h=>h) ?_ ?_
  ·refine .pure rfl (fun _=>qbs.all _ _) rfl ?_ <| .one rfl ?_ <| .pure rfl (fun _=>qbs.all _ _) rfl ?_ <| .one rfl ?_ <| .pure rfl (fun _=>qbs.all _ _) rfl ?_ <| .one rfl ?_ <| .one rfl ?_ <| .nil
   ·rintro qk w1 _;unfold zi;simp only[putL];go_simp
    first | exact⟨rfl,rfl⟩ | rfl
   ·rintro qk w1 i ⟨m,-⟩;replace i:qu t w1:=i;replace m:qk 0 = .func (.func 92) #[] #[.pointer (some ⟨K,0,none⟩)]:=m;unfold zi;simp only[putL];go_simp;refine(qa a9 w1 i).mono ?_;rintro e M ⟨rfl,n2⟩;exact⟨_,rfl,qbs.all _ _,i.trans n2,rfl⟩
   ·rintro qk w1 _;unfold zi;simp only[putL];go_simp
    first | exact⟨rfl,rfl⟩ | rfl
   ·rintro qk w1 i ⟨m,-⟩;replace i:qu t w1:=i;replace m:qk 2 = .slice (some ⟨G,0,none⟩) 32 32:=m;have F:=qef (qa a7 w1 i) 32 C;rw[qa a8] at F;unfold zi;simp only[putL];go_simp;exact⟨qbs.all _ _,i,rfl⟩
   ·rintro qk w1 ⟨m,p1,-⟩;replace m:qk 1 = .string J:=m;replace p1:qk 3 = .string l:=p1;have H:¬9223372036854775807<J.size+l.size:=by omega
    unfold zi;simp only[putL];go_simp
    first | exact⟨rfl,rfl⟩ | rfl
   ·rintro qk w1 i ⟨m,-⟩;replace i:qu t w1:=i;replace m:qk 4 = .string (J++l):=m;unfold zi;simp only[putL];go_simp;refine(qa b3 w1 (qa c8 w1 i)).mono ?_;rintro e M ⟨rfl,n2⟩;exact⟨_,rfl,qbs.all _ _,i.trans n2,rfl⟩
   ·rintro qk w1 i ⟨m,-⟩;replace i:qu t w1:=i;replace m:qk 5 = .agg (out.map (Value.int .u8)).toArray:=m;have hI:=d7.upd i (fun h=>h);have F:=hI.stOk (r:=out) (n:=32) (by simp[D]) D;have b6:=qb (hI.setAll (r:=out) (by simp[D]));have u1:=qb ((i.mono (T:=fun k=>k=w.heap.size) (fun _ _ h=>h.elim)).then ((Upd.refl (· = w.heap.size) w1).setCells 0 (out.map (Value.int .u8))) (fun _ _ h=>h));have e0:(out.map (Value.int .u8)).toArray.toList=out.map (Value.int .u8):=rfl;generalize d1:(out.map (Value.int .u8)).toArray=cs at m F e0;generalize d0:out.map (Value.int .u8)=cl at e0 b6 u1;clear d1 d0 hI;unfold zi;simp only[putL];go_simp;exact⟨qbs.all _ _,⟨qa u1,qa b6⟩,rfl⟩
  ·intro qk w1 i hv;clear hv;replace i:Upd (fun k=>k=w.heap.size) t w1∧qbd .u8 w1 w.heap.size out:=i;obtain⟨u1,T1,hI⟩:=i;simp only[putL];have nE:=(n0.trans a4).then u1 (by intro q hq h;omega);go_wp2_with fail;refine bodyPost_ret (results_cell_row rfl _ _ w.heap.size T1 _ _ _ rfl hI Tryz.underlying33 rfl (by rw[List.size_toArray,List.length_map,D];exact Tryz.infoHash)) rfl ?_;exact⟨by rw[qa g],nE⟩
 ·have e2:¬(64:Int)<(key.size:Int):=by omega
  have a5:qr2 key=key:=by unfold qr2;rw[if_neg hc]
  have c7:=qb a5;rw[a5] at a6;clear a5;obtain⟨kk,rfl⟩:∃kk:ByteArray,kk=key:=⟨_,rfl⟩;have nK:qu w1 w1:=Upd.refl _ _;go_upto_region 4 with fail;refine wp_region_lit ?_;refine q8 rfl (v:= .pointer (some ⟨w1.heap.size,0,none⟩)) (w':=w1.alloc (.cells qhx 161)) (by kernel_rfl) ?_;have n5:qu w1 (w1.alloc (.cells qhx 161)):=(Upd.refl _ _).alloc _;have z:(w1.alloc (.cells qhx 161)).heap[w1.heap.size]? = some (.cells qhx 161 (0,0)):=qi _ _;generalize w1.alloc (.cells qhx 161)=w5 at n5 z ⊢;have d6:=nK.size;obtain⟨K,b5⟩:∃K,K=w1.heap.size:=⟨_,rfl⟩;rw[←b5] at z d6 ⊢;have d9:w1.heap.size≤K:=by omega
  clear b5;go_upto_region 5 with fail;refine wp_region_lit ?_;refine q8 rfl (v:= .slice (some ⟨K,0,none⟩) 64 64) (w':=w5) (by kernel_rfl) ?_;refine q8 rfl (v:= .string kk) (w':=w5) (by kernel_rfl) ?_;refine q8 rfl (v:=goInt kk.size) (w':=w5.setRow K ((qhy kk).map (Value.int .u8)).toArray) (qt1 (.tmp 16) (.tmp 17) 22 9 rfl _ _ rfl rfl ?_) ?_
  ·have h:=Lib.run_copy_row_string (P:=Tryz.prog) w5 22 9 3 5 K 0 64 64 kk qhx 161 Tryz.underlying22 (by kernel_rfl) z a6 (by have h9:qhx.size=64:=rfl;rw[h9];omega);rw[qug kk a6] at h;exact h
  have V:=setRow_heap w5 K _ ((qhy kk).map (Value.int .u8)).toArray 161 (0,0) z;have n6:qu w1 (w5.setRow K ((qhy kk).map (Value.int .u8)).toArray):=n5.setRow (fun h=>by omega) _;generalize w5.setRow K ((qhy kk).map (Value.int .u8)).toArray=w6 at V n6 ⊢;have U:qhz w6 K (qhy kk):=⟨_,V⟩;have Y:=nK.trans n6;clear n5 z V;have g:=qb ((qa c5).trans (by rw[qa c7]));have d3:=qhb kk 54 K;have d4:(strOfNums (qi0 kk 54)).size=64:=by rw[strOfNums_size,qns]
  have d5:(strOfNums (qi0 kk 92)).size=64:=by rw[strOfNums_size,qns]
  have N:=qb (fun W (n:qu w6 W)=>qhb kk 54 K W ⟨_,(n.old U.choose_spec (fun h=>h))⟩ (by decide) (by decide));have O:=qb (fun W (n:qu w6 W)=>qhb kk 92 K W ⟨_,(n.old U.choose_spec (fun h=>h))⟩ (by decide) (by decide));clear d3;generalize strOfNums (qi0 kk 54)=q1 at d4 g N;generalize strOfNums (qi0 kk 92)=J at d5 g O;have b9:=fun W h=>qj9 (q1++s) W (by rw[ByteArray.size_append];omega) h
  have R:=qb b9;have C:=qc4 (q1++s);generalize qgs (q1++s)=inn at R C g;have b7:(strOfNums inn).size=32:=by rw[strOfNums_size,C]
  clear b9;go_upto_region 7 with fail;refine wp_region_lit ?_;refine q8 rfl (v:= .func (.func 92) #[] #[.pointer (some ⟨K,0,none⟩)]) (w':=w6) (by kernel_rfl) ?_;refine qd7 rfl (f:=92) (args:=#[.int .u8 54,.pointer (some ⟨K,0,none⟩)]) (w':=w6) (by kernel_rfl) ?_;refine(qa N _ (Upd.refl _ _)).mono ?_;rintro e w7 ⟨rfl,n7⟩;refine⟨_,rfl,?_⟩;have H:¬9223372036854775807<q1.size+s.size:=by omega
  refine q8 rfl (v:= .string s) (w':=w7) (by kernel_rfl) ?_;refine q8 rfl (v:= .string (q1++s)) (w':=w7) (by simp only[execOp];go_simp;first | done | omega) ?_;refine qd7 rfl (f:=89) (args:=#[.string (q1++s)]) (w':=w7) (by kernel_rfl) ?_;refine(qa R _ (hT.new (n0.trans (Y.trans n7)))).mono ?_;rintro e o ⟨rfl,n8⟩;refine⟨_,rfl,?_⟩;refine q8 rfl (v:= .pointer (some ⟨o.heap.size,0,none⟩)) (w':=o.alloc (.cells qf7 33)) (by kernel_rfl) ?_;have n9:qu o (o.alloc (.cells qf7 33)):=(Upd.refl _ _).alloc _;have E:(o.alloc (.cells qf7 33)).heap[o.heap.size]? = some (.cells qf7 33 (0,0)):=qi _ _;generalize o.alloc (.cells qf7 33)=w9 at n9 E ⊢;refine wpList_store_row rfl _ _ _ rfl o.heap.size (inn.map (Value.int .u8)).toArray (by kernel_rfl) (by kernel_rfl) 33 _ E (by rw[List.size_toArray,List.length_map,C];exact Tryz.infoHash) (by have h9:qf7.size=32:=rfl;rw[h9];simp[C]) (by simp[Value.oneCell']) ?_;have X:=setRow_heap w9 o.heap.size _ (inn.map (Value.int .u8)).toArray 33 (0,0) E;have nz:qu o (w9.setRow o.heap.size (inn.map (Value.int .u8)).toArray):=n9.setRow (fun h=>by omega) _;generalize w9.setRow o.heap.size (inn.map (Value.int .u8)).toArray=t at X nz ⊢;have b4:qhz t o.heap.size inn:=⟨_,X⟩;have a7:=qb (fun W (n:qu t W)=>(⟨_,n.old b4.choose_spec (fun h=>h)⟩:qhz W o.heap.size inn));have Z:qu w6 t:=n7.trans (n8.trans nz);have a9:=qb (fun W (n:qu t W)=>qa O W (Z.trans n));have a4:qu w1 t:=Y.trans Z;have c8:=qb (fun W (n:qu t W)=>(hT.new n0).new (a4.trans n))
  have L:=a4.old vR (fun h=>h);have d7:qbd .u8 t w.heap.size (List.replicate 32 0):=⟨_,L⟩;generalize o.heap.size=G at a7 ⊢;clear H N R O n9 E X nz b4 n7 n8 Y U L Z n6;generalize I:strOfNums inn=l at b7 g;have a8:=qb I;clear I;have c0:=fun W h=>qj9 (J++l) W (by rw[ByteArray.size_append];omega) h
  have b3:=qb c0;have D:=qc4 (J++l);generalize qgs (J++l)=out at b3 D g;clear c0;go_upto_region 8 with fail;go_simp;refine qoh (by kernel_rfl) [[],[(0,25)],[],[(2,27)],[(1,26),(3,28)],[(4,29)],[(5,30)]] 31 rfl (by kernel_rfl) [(0,25),(1,26),(2,27),(3,28),(4,29),(5,30)] (by kernel_rfl) [6] (by kernel_rfl) [[(0,0)],[(0,0)],[(0,0)],[(0,0)],[(0,0)],[(0,0)],[(0,1)]] (by kernel_rfl)
   (zhp t w.heap.size out) qbs (isV [.func (.func 92) #[] #[.pointer (some ⟨K,0,none⟩)],.string J,.slice (some ⟨G,0,none⟩) 32 32,.string l,.string (J++l),.agg (out.map (Value.int .u8)).toArray,undef])
   (((Upd.refl _ _).drew)) (fun _=>qbs.all _ _) (fun _ _ _ _ _ _ _ _ _ h=>h) ?_ ?_
  ·refine .pure rfl (fun _=>qbs.all _ _) rfl ?_ <| .one rfl ?_ <| .pure rfl (fun _=>qbs.all _ _) rfl ?_ <| .one rfl ?_ <| .pure rfl (fun _=>qbs.all _ _) rfl ?_ <| .one rfl ?_ <| .one rfl ?_ <| .nil
   ·rintro qk w1 _;unfold zi;simp only[putL];go_simp
    first | exact⟨rfl,rfl⟩ | rfl
   ·rintro qk w1 i ⟨m,-⟩;replace i:qu t w1:=i;replace m:qk 0 = .func (.func 92) #[] #[.pointer (some ⟨K,0,none⟩)]:=m;unfold zi;simp only[putL];go_simp;refine(qa a9 w1 i).mono ?_;rintro e M ⟨rfl,n2⟩;exact⟨_,rfl,qbs.all _ _,i.trans n2,rfl⟩
   ·rintro qk w1 _;unfold zi;simp only[putL];go_simp
    first | exact⟨rfl,rfl⟩ | rfl
   ·rintro qk w1 i ⟨m,-⟩;replace i:qu t w1:=i;replace m:qk 2 = .slice (some ⟨G,0,none⟩) 32 32:=m;have F:=qef (qa a7 w1 i) 32 C;rw[qa a8] at F;unfold zi;simp only[putL];go_simp;exact⟨qbs.all _ _,i,rfl⟩
   ·rintro qk w1 ⟨m,p1,-⟩;replace m:qk 1 = .string J:=m;replace p1:qk 3 = .string l:=p1;have H:¬9223372036854775807<J.size+l.size:=by omega
    unfold zi;simp only[putL];go_simp
    first | exact⟨rfl,rfl⟩ | rfl
   ·rintro qk w1 i ⟨m,-⟩;replace i:qu t w1:=i;replace m:qk 4 = .string (J++l):=m;unfold zi;simp only[putL];go_simp;refine(qa b3 w1 (qa c8 w1 i)).mono ?_;rintro e M ⟨rfl,n2⟩;exact⟨_,rfl,qbs.all _ _,i.trans n2,rfl⟩
   ·rintro qk w1 i ⟨m,-⟩;replace i:qu t w1:=i;replace m:qk 5 = .agg (out.map (Value.int .u8)).toArray:=m;have hI:=d7.upd i (fun h=>h);have F:=hI.stOk (r:=out) (n:=32) (by simp[D]) D;have b6:=qb (hI.setAll (r:=out) (by simp[D]));have u1:=qb ((i.mono (T:=fun k=>k=w.heap.size) (fun _ _ h=>h.elim)).then ((Upd.refl (· = w.heap.size) w1).setCells 0 (out.map (Value.int .u8))) (fun _ _ h=>h));have e0:(out.map (Value.int .u8)).toArray.toList=out.map (Value.int .u8):=rfl;generalize d1:(out.map (Value.int .u8)).toArray=cs at m F e0;generalize d0:out.map (Value.int .u8)=cl at e0 b6 u1;clear d1 d0 hI;unfold zi;simp only[putL];go_simp;exact⟨qbs.all _ _,⟨qa u1,qa b6⟩,rfl⟩
  ·intro qk w1 i hv;clear hv;replace i:Upd (fun k=>k=w.heap.size) t w1∧qbd .u8 w1 w.heap.size out:=i;obtain⟨u1,T1,hI⟩:=i;simp only[putL];have nE:=(n0.trans a4).then u1 (by intro q hq h;omega);go_wp2_with fail;refine bodyPost_ret (results_cell_row rfl _ _ w.heap.size T1 _ _ _ rfl hI Tryz.underlying33 rfl (by rw[List.size_toArray,List.length_map,D];exact Tryz.infoHash)) rfl ?_;exact⟨by rw[qa g],nE⟩
end Go.Proofs.YthnohmjbbeahmaaGreatDoor
