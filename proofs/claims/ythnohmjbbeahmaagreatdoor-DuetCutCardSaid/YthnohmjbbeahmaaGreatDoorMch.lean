/-
  The reference's Pad and Sum.
-/
import Derived.Test.YthnohmjbbeahmaaGreatDoorShR3
import Derived.Test.YthnohmjbbeahmaaGreatDoorMbd
import Derived.Test.YthnohmjbbeahmaaGreatDoorMcg
import Derived.Test.YthnohmjbbeahmaaGreatDoorMbf
import Derived.Test.YthnohmjbbeahmaaGreatDoorMce
import Derived.Deep.Onto
import Derived.Maps.AppendAt
import Derived.Deep.AppendLies
set_option linter.unusedVariables false
set_option linter.unusedSimpArgs false
namespace Go.Proofs.YthnohmjbbeahmaaGreatDoor
open Go.RowKit
theorem qyr(s:ByteArray)(g:List Int):strOfNums (qdt s++g)=s++strOfNums g:=by
 unfold strOfNums qdt;rw[List.map_append,List.map_map];have:(s.data.toList.map ((fun n:Int=>UInt8.ofNat n.toNat) ∘ fun c:UInt8=>(c.toNat:Int)))=s.data.toList:=by
  conv=>rhs;rw[←List.map_id s.data.toList]
  refine List.map_congr_left fun c _=> ?_
  simp
 rw[this];apply ByteArray.ext;simp
theorem zdc(n k:Nat)(h:k<qd2 n):(n+(k+1))%64≠56:=by unfold qd2 at h;omega
theorem zdb(n:Nat):(n+(qd2 n+1))%64=56:=by unfold qd2;omega
set_option maxRecDepth 100000 in
set_option maxHeartbeats 1000000 in
theorem zda(s:ByteArray)(w:World)(hs:s.size≤1000000000) :
  Calls Tryz.prog 50 #[.string s] w (qbf (.string (qjm s)) w):=by
 have hz:=qop s.size
 have a9:(s.size:Int)≤1000000000:=by omega
 have N:=qm7 s
 have L:∀w:World,(convert 9 22 (.string s)).run Tryz.prog w = .ok (.slice (some ⟨w.heap.size,0,none⟩) s.size (grownCap w s.size 0 5)) (w.drew.alloc (.cells (bytesRow s (grownCap w s.size 0 5)) 5 ((bytesRow s (grownCap w s.size 0 5)).size,(bytesRow s (grownCap w s.size 0 5)).size+1))) :=
  fun w=>run_bytes_of_string w _ _ _ s Tryz.underlying9 Tryz.underlying22 Tryz.underlying5
 have hG:=qd7.ofS w s (grownCap w s.size 0 5) w.heap.size (Nat.le_refl _) (grownCap_ge _ _ _ _)
 have Y:Upd (fun k=>w.heap.size≤k) w (w.drew.alloc (.cells (bytesRow s (grownCap w s.size 0 5)) 5 ((bytesRow s (grownCap w s.size 0 5)).size,(bytesRow s (grownCap w s.size 0 5)).size+1))):=(Upd.refl _ _).drew.alloc _
 have U:=qb hG
 have o:=qb N
 clear hG N
 go_enter Tryz.func50,Tryz.ntmps50
 go_upto_region 2 with fail
 generalize M:grownCap w s.size 0 5=F at *
 have C:=L w
 rw[M] at C
 clear L M
 refine wp_region_lit ?_
 refine zf rfl (v:= .string s) (w':=w) (by kernel_rfl) ?_
 refine zf rfl (v:= .slice (some ⟨w.heap.size,0,none⟩) s.size F) (w':=w.drew.alloc (.cells (bytesRow s F) 5 ((bytesRow s F).size,(bytesRow s F).size+1))) (by simp only[execOp];go_simp) ?_
 generalize w.drew.alloc (.cells (bytesRow s F) 5 ((bytesRow s F).size,(bytesRow s F).size+1))=w1 at U Y ⊢
 clear C
 refine zf rfl (v:= .slice (some ⟨w1.heap.size,0,none⟩) 1 1) (w':=w1.alloc (.cells #[.int .u8 128] 5)) (by kernel_rfl) ?_
 refine qj2 rfl (.tmp 11) (.tmp 12) rfl w.heap.size _ _ rfl 128 _ _ rfl (qa U) (by rw[qa o];omega) Y.size ?_
 intro v2 w2 y u2
 have u3:=Y.then u2 (fun q _ h=>((qa U).ge h).1)
 clear u2 U Y
 have i:(qdt s++[128]).length=s.size+1:=by rw[List.length_append,qa o];rfl
 obtain⟨a2,c2,rfl⟩:=y.shape
 rw[i] at y ⊢
 have t:=qb y
 clear y i
 go_wp2_with fail
 go_loopw [4] (fun E wr=>∃(k:Nat) (a:Addr) (c:Nat),E = .slice (some a) (s.size+1+k) c∧k≤qd2 s.size∧Hid (qd7 wr w.heap.size E (qdt s++(128::List.replicate k 0)))∧Upd (fun k=>w.heap.size≤k) w wr) (fun E _=>s.size+100-(match E with | .slice _ l _=>l | _=>0))
 case atStart=>exact⟨0,_,_,rfl,Nat.zero_le _,t,u3⟩
 case round =>
  obtain⟨k,a,c,rfl,hk,t,J⟩:=hrel;by_cases P:k<qd2 s.size
  ·have H:=zdc s.size k P;have h1:((((s.size:Int)+1+(k:Int)))%64 != 56)=true:=by rw[bne_iff_ne];omega
   have a4:(k:Int)<64:=by omega
   have hb:=J.size;have z:(qdt s++(128::List.replicate k (0:Int))).length≤1073741824:=by rw[List.length_append,qa o];simp;omega
   clear H;go_wp2_with (at_builtin;refine qj2 rfl (.tmp 18) (.tmp 19) rfl w.heap.size _ _ rfl 0 _ _ rfl (qa t) z hb ?_);intro v' w5 g T;have u6:=J.then T (fun q _ h=>((qa t).ge h).1);obtain⟨V,X,rfl⟩:=g.shape;replace g:qd7 w5 w.heap.size (Value.slice (some V) (qdt s++(128::(List.replicate k (0:Int)++[0]))).length X) (qdt s++(128::(List.replicate k 0++[0]))):=g;rw[←List.replicate_succ'] at g;have i:(qdt s++(128::(List.replicate k (0:Int)++[0]))).length=s.size+1+(k+1):=by rw[List.length_append,qa o];simp;omega
   have O:(qdt s++(128::(List.replicate (k+1) (0:Int)))).length=s.size+1+(k+1):=by rw[List.length_append,qa o];simp;omega
   rw[O] at g;rw[i];have D:=qb g;clear g T t i O;go_wp2;go_roundw
   case rel=>exact⟨k+1,V,X,rfl,by omega,D,u6⟩
   case measure=>simp;omega
  ·obtain rfl:k=qd2 s.size:=by omega
   have H:=zdb s.size;have h1:((((s.size:Int)+1+(qd2 s.size:Int)))%64 != 56)=false:=by rw[bne_eq_false_iff_eq];omega
   have a4:(qd2 s.size:Int)<64:=by omega
   obtain⟨wo,rfl⟩:∃wo:World,wo=wr:=⟨_,rfl⟩;clear H;go_wp2_with fail
   go_loopw [4,5] (fun E iv wr=>∃(m:Nat) (a:Addr) (c:Nat),iv = .int .i64 (7-(m:Int))∧m≤8∧E = .slice (some a) (s.size+1+qd2 s.size+m) c∧Hid (qd7 wr w.heap.size E (qdt s++(128::List.replicate (qd2 s.size) 0)++(List.range m).map (qlu s.size)))∧Upd (fun k=>w.heap.size≤k) w wr) (fun _ iv _=>(intOf iv+1).toNat)
   case atStart=>exact⟨0,_,_,rfl,by omega,rfl,by simpa using t,J⟩
   case round =>
    obtain⟨m,a,c,rfl,hm,rfl,t,J⟩:=hrel;by_cases P:m<8
    ·have a8:(m:Int)<8:=by omega
     have hb:=J.size;have z:(qdt s++(128::List.replicate (qd2 s.size) (0:Int))++(List.range m).map (qlu s.size)).length≤1073741824:=by rw[List.length_append,List.length_append,qa o];simp;omega
     have I:∀W,Calls Tryz.prog 52 #[.int .u64 ((s.size:Int)*8),.int .i64 (8*(7-(m:Int)))] W fun e w'=>e = .returned (.int .u64 ((s.size:Int)*8 / 2 ^ (8*(7-(m:Int))).toNat))∧W=w' :=
      fun W=>qmu ((s.size:Int)*8) (8*(7-(m:Int))) W (by omega) (by omega) (by omega) (by omega)
     have hq:qlu s.size m=((s.size:Int)*8 / 2 ^ (8*(7-(m:Int))).toNat)%256:=by
      unfold qlu;rw[show (8*(7-(m:Int))).toNat=56-8*m by omega,Int.mul_comm]
     have R:0≤(s.size:Int)*8 / 2 ^ (8*(7-(m:Int))).toNat∧(s.size:Int)*8 / 2 ^ (8*(7-(m:Int))).toNat≤8000000000:=by
      have hp:(1:Int)≤2 ^ (8*(7-(m:Int))).toNat:=Int.pow_pos (by decide);refine⟨Int.ediv_nonneg (by omega) (by omega),?_⟩;refine Int.le_trans (Int.ediv_le_self _ (by omega)) (by omega)
     generalize (s.size:Int)*8 / 2 ^ (8*(7-(m:Int))).toNat=q at I hq R;have Z:=qb I;have HQ:=qb hq;clear I hq;obtain⟨q0,q1⟩:=R;go_wp2_with fail;refine(qa Z _).mono ?_;rintro e w' ⟨rfl,rfl⟩;go_wp2_with (at_builtin;refine qj2 rfl (.tmp 25) (.tmp 32) rfl w.heap.size _ _ rfl _ _ _ rfl (qa t) z hb ?_);intro v' w5 g T;have u6:=J.then T (fun q _ h=>((qa t).ge h).1);obtain⟨V,X,rfl⟩:=g.shape;have e1:qdt s++(128::List.replicate (qd2 s.size) 0)++(List.range (m+1)).map (qlu s.size)=qdt s++(128::(List.replicate (qd2 s.size) 0++((List.range m).map (qlu s.size)++[q%256]))):=by rw[List.range_succ,List.map_append,List.map_cons,List.map_nil,qa HQ];simp
     have i:(qdt s++(128::(List.replicate (qd2 s.size) (0:Int)++((List.range m).map (qlu s.size)++[q%256])))).length=s.size+1+qd2 s.size+(m+1):=by rw[List.length_append,qa o];simp;omega
     rw[i] at g ⊢;rw[←e1] at g;have D:=qb g;clear g T t e1 i z;go_wp2;go_roundw
     case rel=>exact⟨m+1,V,X,by congr 1;omega,by omega,rfl,D,u6⟩
     case measure=>simp[intOf];omega
    ·obtain rfl:m=8:=by omega
     rw[show (7:Int)-((8:Nat):Int) = -1 from rfl];have a6:=qym (qa t);have x:strOfNums (qdt s++(128::List.replicate (qd2 s.size) 0)++(List.range 8).map (qlu s.size))=qjm s:=by
      unfold qjm qqp;rw[List.append_assoc,qyr]
     generalize strOfNums (qdt s++(128::List.replicate (qd2 s.size) 0)++(List.range 8).map (qlu s.size))=a7 at a6 x;have K:=qb x;clear x;go_wp2;go_ret;exact⟨by rw[qa K];rfl,J.below' (Nat.le_refl _) (fun _ h=>h) |> fun h=>Upd.of_below h (Nat.le_refl _)⟩
theorem q82(s:ByteArray):(qjm s).size%64=0∧(qjm s).size≤s.size+73:=by
 unfold qjm;rw[ByteArray.size_append,strOfNums_size,qpp];have:=qop s.size;have:=q58 s.size;omega
theorem q7k(p:ByteArray)(i:Nat)(h:i+64≤p.size):(p.extract i p.size).extract 0 64=p.extract i (i+64):=by
 rw[ByteArray.extract_extract];congr 1;omega
theorem za7(p:ByteArray)(i:Nat)(h:i+64≤p.size):(p.extract i p.size).extract 64 (p.extract i p.size).size=p.extract (i+64) p.size:=by
 rw[ByteArray.extract_extract];congr 1;rw[ByteArray.size_extract];omega
theorem q6t(p:ByteArray)(n:Nat)(h:List Int)(l:p.size%64=0)(g:64*n+64≤p.size) :
  qk4 ((p.size-64*n) / 64) h (p.extract (64*n) p.size)=qk4 ((p.size-64*(n+1)) / 64) (qn5 h (p.extract (64*n) (64*n+64))) (p.extract (64*(n+1)) p.size):=by
 obtain⟨k,i⟩:∃k,(p.size-64*n) / 64=k+1:=⟨(p.size-64*n) / 64-1,by omega⟩
 rw[i,show (p.size-64*(n+1)) / 64=k by omega]
 show qk4 k (qn5 h ((p.extract (64*n) p.size).extract 0 64)) ((p.extract (64*n) p.size).extract 64 (p.extract (64*n) p.size).size)=_
 rw[q7k p _ g,za7 p _ g,show 64*n+64=64*(n+1) by omega]
def z32:Array Value:=((List.replicate 32 (0:Int)).map (Value.int .u8)).toArray
def z8r:Array Value:=((List.replicate 8 (0:Int)).map (Value.int .u64)).toArray
def q3f:Array Value:=(qkc.map (Value.int .u64)).toArray
attribute [local go_sem ↓ high] qsw qtq qls ql8
attribute [local go_sem] zhf zhr q3o q4s
set_option maxRecDepth 100000 in
set_option maxHeartbeats 2000000 in
theorem zea(s:ByteArray)(w:World)(hs:s.size≤1000000000) :
  Calls Tryz.prog 31 #[.string s] w fun e w'=>e = .returned (.agg ((qgw s).map (Value.int .u8)).toArray)∧qq w w':=by
 obtain⟨b9,c2⟩:=q82 s
 have hp:=fun W=>zda s W hs
 have K:qgw s=qhv (qk4 ((qjm s).size / 64) qkc (qjm s)) 32:=rfl
 generalize qjm s=p at b9 c2 hp K
 have HP:=qb hp
 have U:=qb K
 clear hp K
 go_enter Tryz.func31,Tryz.ntmps31
 go_upto_region 0 with fail
 refine wp_region_lit ?_
 refine zf rfl (v:= .pointer (some ⟨w.heap.size,0,none⟩)) (w':=w.alloc (.cells z32 33)) (by kernel_rfl) ?_
 have n0:qq w (w.alloc (.cells z32 33)):=(Upd.refl _ _).alloc _
 have N:(w.alloc (.cells z32 33)).heap[w.heap.size]? = some (.cells z32 33 (0,0)):=qi _ _
 generalize w.alloc (.cells z32 33)=w1 at n0 N ⊢
 go_upto_region 1 with fail
 refine wp_region_lit ?_
 refine zf rfl (v:= .agg q3f) (w':=w1) (by kernel_rfl) ?_
 refine zf rfl (v:= .pointer (some ⟨w1.heap.size,0,none⟩)) (w':=w1.alloc (.cells z8r 113)) (by kernel_rfl) ?_
 have n2:qq w1 (w1.alloc (.cells z8r 113)):=(Upd.refl _ _).alloc _
 have z:(w1.alloc (.cells z8r 113)).heap[w1.heap.size]? = some (.cells z8r 113 (0,0)):=qi _ _
 generalize w1.alloc (.cells z8r 113)=w2 at n2 z ⊢
 refine wpList_store_row rfl _ _ _ rfl w1.heap.size q3f rfl rfl 113 _ z (by kernel_rfl) (by kernel_rfl) (by kernel_rfl) ?_
 have F:(w2.setRow w1.heap.size q3f).heap[w1.heap.size]? = some (.cells q3f 113 (0,0)):=setRow_heap w2 w1.heap.size _ q3f 113 (0,0) z
 have L:qq w1 (w2.setRow w1.heap.size q3f):=n2.setRow (fun h=>by omega) _
 generalize w2.setRow w1.heap.size q3f=w3 at F L ⊢
 have d7:w.heap.size<w1.heap.size:=qad N
 have vR:=L.old N (fun h=>h)
 have nA:=n0.trans L
 have vH:qbg .u64 w3 w1.heap.size qkc:=⟨_,F⟩
 have d9:=vH.lt
 generalize w1.heap.size=B at vH d7 d9 ⊢
 clear n0 N n2 z F L
 go_wp2_with fail
 refine(qa HP w3).mono ?_
 rintro e w4 ⟨rfl,n4⟩
 have f4:=n4.size
 replace vR:=n4.old vR (fun h=>h)
 replace vH:=vH.upd n4 (fun h=>h)
 replace nA:=nA.trans n4
 clear n4 HP
 go_wp2_with fail
 go_loopw [5,6,7] (fun iv _ _ wr=>∃(n:Nat) (l:List Int),iv = .int .i64 (64*(n:Int))∧64*n≤p.size∧l.length=8∧qf5 l∧Hid (qk4 ((p.size-64*n) / 64) l (p.extract (64*n) p.size)=qk4 (p.size / 64) qkc p)∧qbg .u64 wr B l∧Upd (fun k=>k=B) w4 wr) (fun iv _ _ _=>p.size-(intOf iv).toNat)
 case atStart=>exact⟨0,qkc,rfl,by omega,rfl,qn8,by rw[show 64*0=0 from rfl,Nat.sub_zero];exact qb (by simp),vH,Upd.refl _ _⟩
 case round =>
  clear vH;obtain⟨n,l,rfl,hn,a5,a6,HE,hH,H⟩:=hrel;by_cases f1:64*n<p.size
  ·have b4:64*n+64≤p.size:=by omega
   have J:(p.extract (64*n) (64*n+64)).size=64:=by rw[ByteArray.size_extract];omega
   have hC:=fun W=>qt3 l (p.extract (64*n) (64*n+64)) W a5 a6 J
   have hok:=qxd l (p.extract (64*n) (64*n+64)) ⟨a5,a6⟩;have E:=(q6t p n l b9 b4).symm.trans (qa HE);obtain⟨TH,hb⟩:=hH;generalize a4:p.extract (64*n) (64*n+64)=bl at hC hok E;generalize qn5 l bl=d at hC hok E;obtain⟨d8,du⟩:=hok;have HC:=qb hC;have c3:=qb a4;have M:=qb E;clear hC J E a4 HE;obtain⟨t,rfl⟩:∃t:World,t=wr:=⟨_,rfl⟩;have e3:=H.size;generalize a7:(l.map (Value.int .u64)).toArray=cv at hb HC;have b3:cv.size=8:=by rw[←a7];simpa using a5
   have e5:=qb a7;clear a7;have b6:=qag hb 8 b3;have d0:64*(n:Int)<(p.size:Int):=by omega
   have f2:64*(n:Int)+64≤(p.size:Int):=by omega
   have f3:(p.size:Int)≤2000000000:=by omega
   have d1:(64*(n:Int)).toNat=64*n:=by omega
   have d3:IntKind.i64.wrap (64*(n:Int)+64)=64*(n:Int)+64:=IntWalk.i64_in _ (by omega);have d4:0≤64*(n:Int):=by omega
   have d5:0≤64*(n:Int)+64:=by omega
   have d6:64*(n:Int)≤64*(n:Int)+64:=by omega
   have d2:(64*(n:Int)+64).toNat=64*n+64:=by omega
   go_wp2_with fail;refine zgv (by kernel_rfl) [[],[],[],[],[(3,23)],[(1,21),(2,22),(4,24)],[(0,20),(5,25)],[(6,26)],[(7,19)],[(7,19)],[],[(10,6),(8,27)],[(9,28)]] 49 rfl (by kernel_rfl) [(0,20),(1,21),(2,22),(3,23),(4,24),(5,25),(6,26),(7,19),(8,27),(9,28),(10,6),(12,7)] (by kernel_rfl) 10 11 8 rfl rfl rfl rfl ((d.map (Value.int .u64)).toArray)
    [.agg cv,.string p,.int .i64 (64*(n:Int)),.int .i64 (64*(n:Int)),.int .i64 (64*(n:Int)+64),.string bl,.tuple #[.agg (d.map (Value.int .u64)).toArray,.bool true],.tuple #[.agg (d.map (Value.int .u64)).toArray,.bool true],.agg (d.map (Value.int .u64)).toArray,.bool true,undef,undef,.bool true] ?_ ?_
   ·refine .nval rfl rfl rfl ?_ <| .nval rfl rfl rfl ?_ <| .nval rfl rfl rfl ?_ <| .nval rfl rfl rfl ?_ <| .nval rfl rfl rfl ?_ <| .nval rfl rfl rfl ?_ <| .nval rfl rfl rfl ?_ <| .nval rfl rfl rfl ?_ <| .nval rfl rfl rfl ?_ <| .nval rfl rfl rfl ?_ <| .nalloc rfl rfl rfl z8r 113 rfl ?_ <| .nstore rfl rfl rfl rfl (by simp[d8]) ?_ <| .nval rfl rfl rfl ?_ <| .nil
    ·intro qm y I _;have hr:=qa6 b6 I (fun h=>h);unfold zq;simp only[putL];go_simp;exact⟨Upd.refl _ _,rfl⟩
    ·intro qm y I _;unfold zq;simp only[putL];go_simp;exact⟨Upd.refl _ _,rfl⟩
    ·intro qm y I _;unfold zq;simp only[putL];go_simp;exact⟨Upd.refl _ _,rfl⟩
    ·intro qm y I _;unfold zq;simp only[putL];go_simp;exact⟨Upd.refl _ _,rfl⟩
    ·rintro qm y I ⟨m,-⟩;replace m:qm 3 = .int .i64 (64*(n:Int)):=m;unfold zq;simp only[putL];go_simp;exact⟨Upd.refl _ _,rfl⟩
    ·rintro qm y I ⟨m,P,p2,-⟩;replace m:qm 1 = .string p:=m;replace P:qm 2 = .int .i64 (64*(n:Int)):=P;replace p2:qm 4 = .int .i64 (64*(n:Int)+64):=p2;have a4:=qa c3;unfold zq;simp only[putL];go_simp;exact⟨Upd.refl _ _,rfl⟩
    ·rintro qm y I ⟨m,P,-⟩;replace m:qm 0 = .agg cv:=m;replace P:qm 5 = .string bl:=P;unfold zq;simp only[putL];go_simp;refine(qa HC y).mono ?_;rintro e w6 ⟨rfl,n6⟩;exact⟨_,rfl,n6,rfl⟩
    ·rintro qm y I ⟨m,-⟩;replace m:qm 6 = .tuple #[.agg (d.map (Value.int .u64)).toArray,.bool true]:=m;generalize (d.map (Value.int .u64)).toArray=dv at m ⊢;unfold zq;simp only[putL];go_simp;exact⟨Upd.refl _ _,rfl⟩
    ·rintro qm y I ⟨m,-⟩;replace m:qm 7 = .tuple #[.agg (d.map (Value.int .u64)).toArray,.bool true]:=m;generalize (d.map (Value.int .u64)).toArray=dv at m ⊢;unfold zq;simp only[putL];go_simp;exact⟨Upd.refl _ _,rfl⟩
    ·rintro qm y I ⟨m,-⟩;replace m:qm 7 = .tuple #[.agg (d.map (Value.int .u64)).toArray,.bool true]:=m;generalize (d.map (Value.int .u64)).toArray=dv at m ⊢;unfold zq;simp only[putL];go_simp;exact⟨Upd.refl _ _,rfl⟩
    ·intro qm y;rfl
    ·rintro qm y g T cs e1 hg e9 ⟨-,P,-⟩;replace P:qm 8 = .agg (d.map (Value.int .u64)).toArray:=P;have b7:=qf3 (o:=0) (n:=8) (A:=(d.map (Value.int .u64)).toArray) hg (by omega) (by simp[d8]) (by simp[Value.oneCell']);generalize (d.map (Value.int .u64)).toArray=dv at P b7 ⊢;unfold zq;simp only[putL];go_simp
    ·rintro qm y I ⟨m,-⟩;replace m:qm 9 = .bool true:=m;unfold zq;simp only[putL];go_simp;exact⟨Upd.refl _ _,rfl⟩
   ·intro qm y g T n5 c7 f0 hg hv;have b8:qm 12 = .bool true:=hv 12 (by decide) (by decide) (by decide);clear hv;simp only[putL,c7,b8];clear d3 d4 d5 d6 d1 d2;go_simp;have Z:=n5.old hb (fun h=>h);have u5:=H.then n5 (fun _ _ h=>h.elim);clear b6 hb HC n5 H;go_upto_region 7 with fail;refine wp_region_lit ?_;refine wpList_load_row rfl _ _ rfl g rfl T _ _ _ hg Tryz.underlying113 rfl (by rw[List.size_toArray,List.length_map,d8];exact Tryz.infoR8) ?_;refine wpList_store_row rfl _ _ _ rfl B (d.map (Value.int .u64)).toArray rfl rfl TH _ Z (by rw[List.size_toArray,List.length_map,d8];exact Tryz.infoR8) (by simp[d8,b3]) (by simp[Value.oneCell']) ?_;have hF:=setRow_heap y B _ (d.map (Value.int .u64)).toArray TH (0,0) Z;have u6:=u5.setRow (g:=B) (fun _=>rfl) (d.map (Value.int .u64)).toArray;generalize y.setRow B (d.map (Value.int .u64)).toArray=w6 at hF u6 ⊢;clear hg Z u5;go_wp2;go_roundw
    case rel=>exact⟨n+1,d,by congr 1,by omega,d8,du,M,⟨TH,hF⟩,u6⟩
    case measure=>simp[intOf];omega
  ·have he:64*n=p.size:=by omega
   have Y:=qa HE;rw[show (p.size-64*n) / 64=0 by omega] at Y;have X:qgw s=qhv l 32:=by rw[qa U,←Y];rfl
   have a9:=qb X;clear X Y HE U;have d0:¬64*(n:Int)<(p.size:Int):=by omega
   have e3:=H.size;have R:=H.old vR (by omega);have nB:=nA.then H (fun q hq e=>by omega);clear vR nA H;obtain⟨t,rfl⟩:∃t:World,t=wr:=⟨_,rfl⟩;go_upto_region 8 with fail;refine wp_region_lit ?_;refine zf rfl (v:= .agg z32) (w':=t) (by kernel_rfl) ?_;refine zf rfl (v:= .pointer (some ⟨t.heap.size,0,none⟩)) (w':=t.alloc (.cells z32 33)) (by kernel_rfl) ?_;have n2:qq t (t.alloc (.cells z32 33)):=(Upd.refl _ _).alloc _;have z:(t.alloc (.cells z32 33)).heap[t.heap.size]? = some (.cells z32 33 (0,0)):=qi _ _;generalize t.alloc (.cells z32 33)=y at n2 z ⊢;refine wpList_store_row rfl _ _ _ rfl t.heap.size z32 rfl rfl 33 _ z (by kernel_rfl) (by kernel_rfl) (by kernel_rfl) ?_;have F:(y.setRow t.heap.size z32).heap[t.heap.size]? = some (.cells z32 33 (0,0)):=setRow_heap y t.heap.size _ z32 33 (0,0) z;have L:qq t (y.setRow t.heap.size z32):=n2.setRow (fun h=>by omega) _;generalize y.setRow t.heap.size z32=w6 at F L ⊢;have vO:qbg .u8 w6 t.heap.size (List.replicate 32 0):=⟨_,F⟩;have e2:=vO.lt;have e0:B<t.heap.size:=hH.lt;replace hH:=hH.upd L (fun h=>h);replace R:=L.old R (fun h=>h);replace nB:=nB.trans L;generalize t.heap.size=C at vO e0 e2 ⊢;clear n2 z F L;go_wp2_with fail
   go_loopw [9] (fun iv wr=>∃i:Nat,iv = .int .i64 (i:Int)∧i≤32∧qbg .u8 wr C (qhv l i)∧Upd (fun k=>k=C) w6 wr) (fun iv _=>32-(intOf iv).toNat)
   case atStart=>exact⟨0,rfl,by omega,by rw[qj5];exact vO,Upd.refl _ _⟩
   case round =>
    obtain⟨i,rfl,hi,V,H⟩:=hrel;by_cases e4:i<32
    ·have c0:wr.cell? ⟨B,i / 4,none⟩=some (.int .u64 (wd l (i / 4))):=(hH.upd H (by omega)).cell (by omega);obtain⟨a0,c6⟩:=a6.at (i / 4);obtain⟨v1,c1⟩:∃v,wr.cell? ⟨C,i,none⟩=some v:=⟨_,V.cell (by rw[qi7];omega)⟩;have z1:=V.free i;have e6:(i:Int)<32:=by omega
     have c8:IntKind.i64.wrap ((i:Int) / 4)=(i:Int) / 4:=IntWalk.i64_in _ (by omega);have c9:((i:Int) / 4).toNat=i / 4:=by omega
     have e7:(0:Int)≤(i:Int) / 4:=by omega
     have e8:(i:Int) / 4<8:=by omega
     have E:=V.set i (byI l i);rw[←qj4] at E;have M:=qb E;clear E;have hq:byI l i=wd l (i / 4) / 2 ^ (24-8*((i:Int)%4)).toNat%256:=by
      unfold byI;rw[show (24-8*((i:Int)%4)).toNat=24-8*(i%4) by omega]
     have O:∀W,Calls Tryz.prog 52 #[.int .u64 (wd l (i / 4)),.int .i64 (24-8*((i:Int)%4))] W fun e w'=>e = .returned (.int .u64 (wd l (i / 4) / 2 ^ (24-8*((i:Int)%4)).toNat))∧W=w' :=
      fun W=>qmu (wd l (i / 4)) (24-8*((i:Int)%4)) W a0 (by omega) (by omega) (by omega)
     have b5:0≤wd l (i / 4) / 2 ^ (24-8*((i:Int)%4)).toNat∧wd l (i / 4) / 2 ^ (24-8*((i:Int)%4)).toNat<4294967296:=by
      have hp:(1:Int)≤2 ^ (24-8*((i:Int)%4)).toNat:=Int.pow_pos (by decide);refine⟨Int.ediv_nonneg a0 (by omega),?_⟩;exact Int.lt_of_le_of_lt (Int.ediv_le_self _ a0) c6
     generalize wd l (i / 4) / 2 ^ (24-8*((i:Int)%4)).toNat=q at O hq b5;generalize wd l (i / 4)=x at c0 O;have c5:=qb O;rw[hq] at M;have us:=qb (H.set1 i (.int .u8 (q%256)));clear O hq;obtain⟨q0,q1⟩:=b5;go_wp2_with fail;refine(qa c5 _).mono ?_;rintro e w' ⟨rfl,rfl⟩;go_wp2;clear c8 c9;go_roundw
     case rel=>exact⟨i+1,by go_num,by omega,qa M,qa us⟩
     case measure=>simp[intOf];omega
    ·obtain rfl:i=32:=by omega
     rw[show ((32:Nat):Int)=32 from rfl];have a8:=H.old R (by omega);have nn:=nB.then H (by intro q hq h;omega);have D:=qi7 l 32;generalize J:qhv l 32=bs at V D;have c4:=qb J;clear J R nB H vO;obtain⟨TO,V⟩:=V;go_upto_region 13 with fail;refine wp_region_lit ?_;refine wpList_load_row rfl _ _ rfl C rfl TO _ _ _ V Tryz.underlying33 rfl (by rw[List.size_toArray,List.length_map,D];exact Tryz.infoHash) ?_;refine wpList_store_row rfl _ _ _ rfl w.heap.size (bs.map (Value.int .u8)).toArray rfl rfl 33 _ a8 (by rw[List.size_toArray,List.length_map,D];exact Tryz.infoHash) (by have h9:z32.size=32:=rfl;rw[h9];simp[D]) (by simp[Value.oneCell']) ?_;have hF:=setRow_heap wr w.heap.size _ (bs.map (Value.int .u8)).toArray 33 (0,0) a8;have nF:=nn.setRow (g:=w.heap.size) (fun h=>by omega) (bs.map (Value.int .u8)).toArray;generalize wr.setRow w.heap.size (bs.map (Value.int .u8)).toArray=wF at hF nF ⊢;clear nn V a8;go_wp2_with fail;refine bodyPost_ret (results_cell_row rfl _ _ w.heap.size 33 _ _ _ rfl hF Tryz.underlying33 rfl (by rw[List.size_toArray,List.length_map,D];exact Tryz.infoHash)) rfl ?_;exact⟨by rw[qa a9,qa c4],nF⟩
end Go.Proofs.YthnohmjbbeahmaaGreatDoor
namespace Go.Proofs.YthnohmjbbeahmaaGreatDoor
open Go.RowKit
attribute [local go_sem ↓ high] qab qan qar qaw qzv
attribute [local go_sem] qcr qde qdn qg2 zb
def ofI(p:List Int):List Int:=qgw (strOfNums p)
def qfm(p h:List Int):Bool:=ofI p==h
set_option maxRecDepth 100000 in
set_option maxHeartbeats 1000000 in
theorem q4h(p:List Int)(z:p.length=32)(w:World)(J:Tabs w) :
  Calls Tryz.prog 70 #[.agg (qy p).toArray] w (qbf (.agg (qy (ofI p)).toArray) w):=by
 have y:(ofI p).length=32:=qc9 _
 go_enter Tryz.func70,Tryz.ntmps70
 go_upto_region 1 with fail
 have v:=(qck w p z).new ((Upd.refl _ _).alloc (.cells (qy qaj).toArray 33))
 have q:=qck (w.alloc (.cells (qy p).toArray 33)) qaj qu
 rw[World.size_alloc] at q
 have x:qq w ((w.alloc (.cells (qy p).toArray 33)).alloc (.cells (qy qaj).toArray 33)):=((Upd.refl _ _).alloc _).alloc _
 generalize (w.alloc (.cells (qy p).toArray 33)).alloc (.cells (qy qaj).toArray 33)=w1 at v q x ⊢
 obtain⟨A,o⟩:∃A,A=w.heap.size:=⟨_,rfl⟩
 obtain⟨B,t⟩:∃B,B=w.heap.size+1:=⟨_,rfl⟩
 rw[←t] at q ⊢
 rw[←o] at v ⊢
 have H:w.heap.size≤B:=by omega
 clear o t
 have m:(convert 22 9 (.slice (some ⟨A,0,none⟩) 32 32)).run Tryz.prog w1 = .ok (.string (strOfNums p)) w1 :=
  qe4 w1 _ _ _ Tryz.underlying22 Tryz.underlying5 Tryz.underlying9 A 32 _ _ _ 32 z v.at_
 have g:Calls Tryz.prog 89 #[.string (strOfNums p)] w1 (fun e w'=>e = .returned (.agg (qy (ofI p)).toArray)∧qq w1 w'):=qks (strOfNums p) w1 (by rw[strOfNums_size,z];omega) (J.new x)
 have D:=qb q
 clear v q
 generalize ofI p=K at *
 go_wp2_with fail
 refine g.mono ?_
 rintro e M ⟨rfl,C⟩
 have l:=(qa D).new C
 have L:=l.stOk K y
 have E:=qb (l.put K y)
 have F:=qb ((x.trans C).then (qac (w:=M) (b:=B) (qy K)) (fun i N e=>by omega))
 clear l x C g m
 go_wp2_with fail
 have I:=qa E
 exact bodyPost_ret (results_cell_row rfl _ _ B _ _ _ _ rfl I.at_ Tryz.underlying33 rfl (by rw[List.size_toArray,qa1,y];exact Tryz.infoHsh)) rfl ⟨rfl,qa F⟩
set_option maxRecDepth 100000 in
set_option maxHeartbeats 1000000 in
theorem qvt(p h:List Int)(C:p.length=32)(y:h.length=32)(M:qa7 h)(w:World)(J:Tabs w) :
  Calls Tryz.prog 57 #[.agg (qy p).toArray,.agg (qy h).toArray] w (qbf (.bool (qfm p h)) w):=by
 have O:(ofI p).length=32:=qc9 _
 have v:qa7 (ofI p):=qgg _
 go_enter Tryz.func57,Tryz.ntmps57
 go_upto_region 1 with fail
 have q:=(qck w p C).new ((Upd.refl _ _).alloc (.cells (qy h).toArray 33))
 have i:=qck (w.alloc (.cells (qy p).toArray 33)) h y
 rw[World.size_alloc] at i
 have t:qq w ((w.alloc (.cells (qy p).toArray 33)).alloc (.cells (qy h).toArray 33)):=((Upd.refl _ _).alloc _).alloc _
 generalize (w.alloc (.cells (qy p).toArray 33)).alloc (.cells (qy h).toArray 33)=w1 at q i t ⊢
 obtain⟨A,l⟩:∃A,A=w.heap.size:=⟨_,rfl⟩
 obtain⟨B,m⟩:∃B,B=w.heap.size+1:=⟨_,rfl⟩
 rw[←m] at i ⊢
 rw[←l] at q ⊢
 clear l m
 have N:=fun W=>zih O y v M W
 have o:=fun W (L:Tabs W)=>q4h p C W L
 have z:qfm p h=(ofI p==h):=rfl
 have I:=qb z
 clear z
 generalize ofI p=K at *
 have P:zu w1.drew A 0 32=some (qy p).toArray:=q.row
 have E:zu w1.drew B 0 32=some (qy h).toArray:=i.row
 have F:=qb i
 refine qcq (fun w'=>zu w' B 0 32=some (qy h).toArray) [2] (.of [0,1,2,3,4]) (by kernel_rfl) (by kernel_rfl) E ?_
 simp only[Plan.of]
 clear q i
 go_wp2_with (with_reducible first|(first|refine' qw1 (qg ?_) ?_|refine' qw2 (qg ?_) ?_|refine' qw3 (qg ?_) ?_);rotate_left|refine' qw4 (qg ?_)|refine' qw5 (qg ?_)|rfl|apply qn)
 refine(o w1.drew (J.new (t.drew))).mono ?_
 rintro e R ⟨rfl,D⟩
 have g:qq w1 R:=D.ofDrew
 have x:=((qa F).new g).row
 have H:=qb (t.trans g)
 clear o P E D g t
 go_wp2_with (with_reducible first|(first|refine' qw1 (qg ?_) ?_|refine' qw2 (qg ?_) ?_|refine' qw3 (qg ?_) ?_);rotate_left|refine' qw4 (qg ?_)|refine' qw5 (qg ?_)|rfl|apply qn)
 refine⟨x,?_⟩
 go_wp2_with (with_reducible first|(first|refine' qw1 (qg ?_) ?_|refine' qw2 (qg ?_) ?_|refine' qw3 (qg ?_) ?_);rotate_left|refine' qw4 (qg ?_)|refine' qw5 (qg ?_)|rfl|apply qn)
 go_ret
 exact⟨by rw[qa I];rfl,qa H⟩
end Go.Proofs.YthnohmjbbeahmaaGreatDoor
namespace Go.Proofs.YthnohmjbbeahmaaGreatDoor
open Go.RowKit
attribute [local go_sem ↓ high] qab qan qar qaw
attribute [local go_sem] qcr qde qdn zb
theorem q46(x:Int)(w:World):(q45 #[(0,.int .u8 x)]).run Tryz.prog w = .ok (.agg (qy (x::List.replicate 31 0)).toArray) w:=run_build w _ _ _ (by kernel_rfl)
theorem zey(x y:Int)(w:World):(q45 #[(0,.int .u8 x),(1,.int .u8 y)]).run Tryz.prog w = .ok (.agg (qy (x::y::List.replicate 30 0)).toArray) w:=run_build w _ _ _ (by kernel_rfl)
def zdd(p:Int):List Int:=(p%4)::9::List.replicate 30 0
theorem zde(p:Int):(zdd p).length=32:=rfl
theorem q37(p:Int):qa7 (zdd p):=by
 intro b g;unfold zdd at g;simp only[List.mem_cons,List.mem_replicate] at g;rcases g with rfl | rfl | ⟨_,rfl⟩<;>omega
set_option maxRecDepth 100000 in
set_option maxHeartbeats 1000000 in
theorem qpl(p:List Int)(y:p.length=32)(w:World):Calls Tryz.prog 11 #[.agg (qy p).toArray] w (qbf (.agg (qy (ofI p)).toArray) w):=by
 have x:(ofI p).length=32:=qc9 _;go_enter Tryz.func11,Tryz.ntmps11;go_upto_region 1 with fail;have v:=(qck w p y).new ((Upd.refl _ _).alloc (.cells (qy qaj).toArray 33));have q:=qck (w.alloc (.cells (qy p).toArray 33)) qaj qu;rw[World.size_alloc] at q;have z:qq w ((w.alloc (.cells (qy p).toArray 33)).alloc (.cells (qy qaj).toArray 33)):=((Upd.refl _ _).alloc _).alloc _;generalize (w.alloc (.cells (qy p).toArray 33)).alloc (.cells (qy qaj).toArray 33)=w1 at v q z ⊢;obtain⟨A,o⟩:∃A,A=w.heap.size:=⟨_,rfl⟩;obtain⟨B,t⟩:∃B,B=w.heap.size+1:=⟨_,rfl⟩;rw[←t] at q ⊢;rw[←o] at v ⊢;have H:w.heap.size≤B:=by omega
 clear o t;have m:(convert 22 9 (.slice (some ⟨A,0,none⟩) 32 32)).run Tryz.prog w1 = .ok (.string (strOfNums p)) w1 :=
  qe4 w1 _ _ _ Tryz.underlying22 Tryz.underlying5 Tryz.underlying9 A 32 _ _ _ 32 y v.at_
 have g:Calls Tryz.prog 31 #[.string (strOfNums p)] w1 (fun e w'=>e = .returned (.agg (qy (ofI p)).toArray)∧qq w1 w'):=zea (strOfNums p) w1 (by rw[strOfNums_size,y];omega);have D:=qb q;clear v q;generalize ofI p=K at *
 go_wp2_with fail;refine g.mono ?_;rintro e L ⟨rfl,C⟩;have l:=(qa D).new C;have J:=l.stOk K x;have E:=qb (l.put K x);have F:=qb ((z.trans C).then (qac (w:=L) (b:=B) (qy K)) (fun i M e=>by omega));clear l z C g m;go_wp2_with fail;have I:=qa E;exact bodyPost_ret (results_cell_row rfl _ _ B _ _ _ _ rfl I.at_ Tryz.underlying33 rfl (by rw[List.size_toArray,qa1,x];exact Tryz.infoHsh)) rfl ⟨rfl,qa F⟩
def qbd(x:Int):List Int:=x::List.replicate 31 0
def zgg(ours cap:Int):SetupV:=⟨7,cap,ours,qbd 1,⟨#[97]⟩,⟨#[98]⟩⟩
def zkn(ours cap:Int):SetupV:=⟨7,cap,IntKind.u64.wrap (cap-ours),qbd 2,⟨#[98]⟩,⟨#[97]⟩⟩
def qy8(p:Array (Nat × Value)):Sem Value:=Instr.build 66 p
theorem qle(p:Array (Nat × Value)):Instr.build 66 p=qy8 p:=rfl
theorem ze1(ours cap:Int)(w:World):(qy8 #[(0,.int .u32 7),(1,.int .u64 cap),(2,.int .u64 ours),(3,.agg (qy (qbd 1)).toArray),(4,.string ⟨#[97]⟩),(5,.string ⟨#[98]⟩)]).run Tryz.prog w = .ok (.agg (zgg ours cap).cells.toArray) w:=run_build w _ _ _ (by kernel_rfl)
theorem ze2(o cap:Int)(w:World):(qy8 #[(0,.int .u32 7),(1,.int .u64 cap),(2,.int .u64 o),(3,.agg (qy (qbd 2)).toArray),(4,.string ⟨#[98]⟩),(5,.string ⟨#[97]⟩)]).run Tryz.prog w = .ok (.agg (SetupV.cells ⟨7,cap,o,qbd 2,⟨#[98]⟩,⟨#[97]⟩⟩).toArray) w:=run_build w _ _ _ (by kernel_rfl)
def zao(p:Array (Nat × Value)):Sem Value:=Instr.build 67 p
theorem qlf(p:Array (Nat × Value)):Instr.build 67 p=zao p:=rfl
def qkz(a b:SetupV):List Value:=a.cells++b.cells
theorem Tryz.infoSt2:(Tryz.prog.info? 67).map (·.size)=some 74:=by kernel_rfl
def zhq(x v:Value):Sem Unit:=Instr.storeAt 67 x v
theorem qgv(x v:Value):Instr.storeAt 67 x v=zhq x v:=rfl
theorem qtr(b o:Nat)(A:Array Value)(w:World):(zhq (.pointer (some ⟨b,o,none⟩)) (.agg A)).run Tryz.prog w=if stOk w b o 74 A=true then .ok () (w.setCells b o A.toList) else qfn Tryz.prog 67 w b o A :=
 qat 67 74 Tryz.infoSt2 b o A w
def quq:List Value:=qyx++qyx
def zg4:Sem Value:=Instr.alloc 67 true (.tuple #[])
theorem qgq:Instr.alloc 67 true (.tuple #[])=zg4:=rfl
theorem qro(w:World):zg4.run Tryz.prog w = .ok (.pointer (some ⟨w.heap.size,0,none⟩)) (w.alloc (.cells quq.toArray 67)):=by kernel_rfl
theorem zh9(l g m i:Int)(w:World):(zao #[(0,.agg (zgg l g).cells.toArray),(1,.agg (SetupV.cells ⟨7,i,m,qbd 2,⟨#[98]⟩,⟨#[97]⟩⟩).toArray)]).run Tryz.prog w = .ok (.agg (qkz (zgg l g) ⟨7,i,m,qbd 2,⟨#[98]⟩,⟨#[97]⟩⟩).toArray) w:=run_build w _ _ _ (by kernel_rfl)
theorem SetupV.one(s:SetupV):∀v∈s.cells,v.oneCell'=true:=by
 intro v hv;simp only[SetupV.cells,List.mem_cons,List.mem_append,List.mem_map,List.not_mem_nil,or_false] at hv;rcases hv with rfl | rfl | rfl | ⟨n,_,rfl⟩ | rfl | rfl<;>rfl
structure St2(w:World)(b:Nat)(s t:SetupV):Prop where
 at_:w.heap[b]? = some (.cells (qkz s t).toArray 67 (0,0))
 l1:s.seed.length=32
 l2:t.seed.length=32
theorem qms{s t:SetupV}(g:s.seed.length=32)(i:t.seed.length=32):(qkz s t).length=74:=by unfold qkz;rw[List.length_append,s.len g,t.len i]
theorem St2.upd{S:Nat→Prop}{w w':World}{b:Nat}{s t:SetupV}(a:St2 w b s t)(u:Upd S w w')(n:¬S b):St2 w' b s t:=⟨u.old a.at_ n,a.l1,a.l2⟩
theorem St2.new{w w':World}{b:Nat}{s t:SetupV}(a:St2 w b s t)(u:qq w w'):St2 w' b s t:=a.upd u (fun h=>h)
theorem St2.row0{w:World}{b:Nat}{s t:SetupV}(a:St2 w b s t):zu w b 0 37=some s.cells.toArray:=by
 rw[qbv a.at_ 0 37 (by rw[List.size_toArray,qms a.l1 a.l2];omega)];congr 1;apply Array.ext';rw[Array.toList_extract];show List.extract (s.cells++t.cells) 0 37=s.cells;rw[List.extract_eq_take_drop,List.drop_zero,List.take_append_of_le_length (by rw[s.len a.l1];exact Nat.le_refl _),List.take_of_length_le (by rw[s.len a.l1];exact Nat.le_refl _)]
theorem St2.row1{w:World}{b:Nat}{s t:SetupV}(a:St2 w b s t):zu w b 37 37=some t.cells.toArray:=by
 rw[qbv a.at_ 37 37 (by rw[List.size_toArray,qms a.l1 a.l2];omega)];congr 1;apply Array.ext';rw[Array.toList_extract];show List.extract (s.cells++t.cells) 37 74=t.cells;rw[List.extract_eq_take_drop,qr0 (s.len a.l1),List.take_of_length_le (by rw[t.len a.l2];exact Nat.le_refl _)]
theorem qv3{w:World}{b:Nat}(h:w.heap[b]? = some (.cells quq.toArray 67 (0,0))){s t:SetupV}(g:s.seed.length=32)(i:t.seed.length=32) :
  stOk w b 0 74 (qkz s t).toArray=true∧St2 (w.setCells b 0 (qkz s t)) b s t:=by
 have l:=qms g i
 refine⟨qfd (C:=quq.toArray) h (by rw[l];rfl) (fun v hv=>(List.mem_append.1 hv).elim (s.one v) (t.one v)),⟨?_,g,i⟩⟩
 rw[qa4 h 0 _]
 exact congrArg (fun z=>some (Obj.cells z 67 (0,0))) (qc4 quq.toArray (qkz s t) (by rw[l];rfl))
attribute [local go_sem ↓ high] qle qlf qgv qgq
attribute [local go_sem] zh9 qtr qro ze1 ze2
end Go.Proofs.YthnohmjbbeahmaaGreatDoor
namespace Go.Proofs.YthnohmjbbeahmaaGreatDoor
open Go.RowKit
def duA(ours cap:Int):SetupV:=⟨3,cap,ours,qbd 5,⟨#[120]⟩,⟨#[121,121]⟩⟩
def duB(ours cap:Int):SetupV:=⟨3,cap,IntKind.u64.wrap (cap-ours),qbd 6,⟨#[121,121]⟩,⟨#[120]⟩⟩
theorem zid{ours cap:Int}(g:0≤ours∧ours<18446744073709551616)(i:0≤cap∧cap<18446744073709551616):(duA ours cap).Ok:=⟨by show (0:Int)≤3∧(3:Int)<4294967296;decide,i,g,rfl⟩
theorem zie{ours cap:Int}(g:0≤cap∧cap<18446744073709551616):(duB ours cap).Ok:=⟨by show (0:Int)≤3∧(3:Int)<4294967296;decide,g,qrh _,rfl⟩
theorem zfe{ours cap:Int} : (duA ours cap).may↔1≤cap∧cap≤1125899906842624∧ours≤cap:=by
 unfold SetupV.may duA;constructor
 ·intro h;exact⟨h.1,h.2.1,h.2.2.1⟩
 ·intro h;exact⟨h.1,h.2.1,h.2.2,by show 1≤64;decide,by show 2≤64;decide⟩
theorem zff{ours cap:Int}(g:0≤ours)(h:1≤cap∧cap≤1125899906842624∧ours≤cap):(duB ours cap).may:=by
 refine⟨h.1,h.2.1,?_,by show 2≤64;decide,by show 1≤64;decide⟩;show IntKind.u64.wrap (cap-ours)≤cap;rw[qdq (by omega) (by omega)];omega
structure Two(w0 w:World)(gA gB:Nat)(SA SB:Nat→Prop)(a b:Ch):Prop where
 A:ChS w gA SA a
 B:ChS w gB SB b
 geA:∀k,SA k→w0.heap.size≤k
 geB:∀k,SB k→w0.heap.size≤k
 sep:∀k,SA k→¬SB k
 n:qq w0 w
section
variable {w0 w w':World}{gA gB:Nat}{SA SB:Nat→Prop}{a b a' b':Ch}
theorem Two.new(h:Two w0 w gA gB SA SB a b)(u:qq w w'):Two w0 w' gA gB SA SB a b:=⟨h.A.new u,h.B.new u,h.geA,h.geB,h.sep,h.n.trans u⟩
theorem Two.swap(h:Two w0 w gA gB SA SB a b):Two w0 w gB gA SB SA b a:=⟨h.B,h.A,h.geB,h.geA,fun k i g=>h.sep k g i,h.n⟩
theorem zaf{S:Nat→Prop}(t:Tb w0)(g:∀k,S k→w0.heap.size≤k):Apart S:=by
 obtain⟨a,b,c,d,e⟩:=t.lt;exact⟨fun h=>by have:=g _ h;omega,fun h=>by have:=g _ h;omega,fun h=>by have:=g _ h;omega,fun h=>by have:=g _ h;omega,fun h=>by have:=g _ h;omega⟩
structure Off(w:World)(SA SB:Nat→Prop)(K:Nat):Prop where
 lt:K<w.heap.size
 a:¬SA K
 b:¬SB K
theorem Off.new{K:Nat}(h:Off w SA SB K)(u:w.heap.size≤w'.heap.size):Off w' SA SB K:=⟨by have:=h.lt;omega,h.a,h.b⟩
theorem Two.put{K:Nat}(h:Two w0 w gA gB SA SB a b)(o:Off w SA SB K)(l:w0.heap.size≤K)(u:Upd (· = K) w w'):Two w0 w' gA gB SA SB a b :=
 ⟨h.A.upd u (fun k g e=>o.a (e▸g)),h.B.upd u (fun k g e=>o.b (e▸g)),h.geA,h.geB,h.sep,h.n.then u (fun i m e=>by omega)⟩
end
theorem q31(g:Nat)(S:Nat→Prop)(c:Ch)(n:Int)(h:List Int)(ex:Int)(w:World)(o:ChS w g S c)(l:h.length=32)(m:qa7 h)(q:0≤n∧n<18446744073709551616)(t : -9223372036854775808≤ex∧ex≤9223372036854775807)(i:c.news.length<1000000∧c.xs.length<1000000) :
  Calls Tryz.prog 30 #[.pointer (some ⟨g,0,none⟩),.int .u64 n,.agg (qy h).toArray,.int .i64 ex] w fun e w' =>
   e = .returned (.tuple #[.agg (c.offer n (qcl h) ex).2.1.cells.toArray,.int .i64 (c.offer n (qcl h) ex).2.2])∧ChS w' g (Fr S w w') (c.offer n (qcl h) ex).1∧Upd S w w':=by
 have:=q8z g S c n (qcl h) ex w o q t (by rw[qeh l];exact m) i
 rw[qeh l] at this
 exact this
theorem q6s(g:Nat)(S:Nat→Prop)(c:Ch)(w:World)(h:ChS w g S c):Calls Tryz.prog 19 #[.pointer (some ⟨g,0,none⟩)] w (qbf (.agg #[.int .u64 c.loc,.int .u64 c.rem]) w):=by
 obtain⟨l,nv,i,h⟩:=h;exact zai g _ w h.toR
theorem qpi(g:Nat)(S:Nat→Prop)(c:Ch)(w:World)(h:ChS w g S c):Calls Tryz.prog 21 #[.pointer (some ⟨g,0,none⟩)] w fun e w'=>∃u,e = .returned u∧qq w w'∧((∃a k,u = .slice a 0 k∧c.xs=[])∨∃g' cap,u = .slice (some ⟨g',0,none⟩) c.xs.length cap∧w.heap.size≤g'∧qf7 w' g' 0 c.xs):=by
 obtain⟨l,nv,i,h⟩:=h;exact zcj g _ c.xs (by have:=h.ok.few;omega) w h.toI
theorem qc5.row0{base:Nat}{w:World}{v:Value}{m:MsgV}{ms:List MsgV}(h:qc5 base w v (m::ms))(q:m.hash.length=32):∃g cap,v = .slice (some ⟨g,0,none⟩) (m::ms).length cap∧base≤g∧zu w g 0 38=some m.cells.toArray∧g<w.heap.size:=by
 rcases h.2 with ⟨e,t⟩ | ⟨g,cap,i,e,x,o,y,_,z,D⟩
 ·simp at t
 ·refine⟨g,cap,e,x,?_,qad o⟩;have C:38≤i.size:=by rw[z];simp at y;omega
  rw[qbv o 0 38 (by omega)];congr 1;apply Array.ext';rw[Array.toList_extract,List.extract_eq_take_drop,List.drop_zero];have l:(i.toList.take ((m::ms).length*38)).take 38=((m::ms).flatMap MsgV.cells).take 38:=by rw[D]
  rw[List.take_take,Nat.min_eq_left (by rw[List.length_cons];omega)] at l;show i.toList.take 38=m.cells;rw[l,List.flatMap_cons,List.take_append_of_le_length (by rw[m.len q];exact Nat.le_refl _),List.take_of_length_le (by rw[m.len q];exact Nat.le_refl _)]
theorem qmf(a b:Int)(w:World):(Instr.field 42 (.agg #[.int .u64 a,.int .u64 b]) 0).run Tryz.prog w = .ok (.int .u64 a) w:=by kernel_rfl
theorem qmg(a b:Int)(w:World):(Instr.field 42 (.agg #[.int .u64 a,.int .u64 b]) 1).run Tryz.prog w = .ok (.int .u64 b) w:=by kernel_rfl
theorem qid(key:ByteArray)(ch n l r:Int)(xs:List Live):zx true key ch n r l (xs.map qfb)=zx false key ch n l r xs:=by
 have g:=q3l false xs;have i:=q9r false l r xs;unfold zx qiv qiw;simp only[Bool.not_false] at g i;rw[g,i];rfl
theorem zj8{m:MsgV}{k i a:Int}{h:List Int}{e n:Int}(ch:Int)(g:m=⟨k,0,i,a,h,e,n⟩):m.on ch=⟨k,ch,i,a,h,e,n⟩:=by subst g;rfl
theorem qv2{c:Ch}(h:qa0 c=0):c.sign=((c.signing.say (qbb c)).turned,(qbb c).on c.s.ch,0):=by unfold Ch.sign;rw[if_pos h]
theorem qi4{c:Ch}{m:MsgV}(g:zv 3 c.xs=true)(i:m.number=c.k.heard+1)(l:qg3 c m=false):c.hearSign m=(c.signedBy,[c.signedBy.revocation],0):=by
 have h:qcj c m=0:=by
  unfold qcj;rw[g,l,if_neg (by decide),if_neg (fun h=>h i),if_neg (by decide)]
 unfold Ch.hearSign;rw[if_pos h]
theorem qg4{k ch i a e n:Int}{h:List Int}(v:0≤k∧k≤9)(m:0≤ch∧ch<4294967296)(o:0≤i∧i<18446744073709551616)(g:0≤a∧a<18446744073709551616)(q:h.length=32)(l:qa7 h)(t:0≤e∧e≤2147483648)(w:0≤n∧n≤65536):MsgOk ⟨k,ch,i,a,h,e,n⟩ :=
 ⟨⟨by show _≤k;omega,by show k≤_;omega⟩,m,o,g,q,l,⟨by show _≤e;omega,by show e≤_;omega⟩,⟨by show _≤n;omega,by show n≤_;omega⟩⟩
theorem qg0:MsgOk MsgV.zero:=qg4 ⟨by decide,by decide⟩ ⟨by decide,by decide⟩ ⟨by decide,by decide⟩ ⟨by decide,by decide⟩ qu qec ⟨by decide,by decide⟩ ⟨by decide,by decide⟩
def a0:Ch:=Ch.new (zgg 10 10)
def b0:Ch:=Ch.new (zkn 10 10)
section
variable (hv:Vector Int 32)
def a1:Ch:=(a0.offer 4 hv 9).1
def m1:MsgV:=(a0.offer 4 hv 9).2.1
def b1:Ch:=(b0.hearAdd (m1 hv)).1
noncomputable def a2:Ch:=(a1 hv).sign.1
noncomputable def b2:Ch:=(b1 hv).signedBy
theorem qis(x:Int)(h:0≤x∧x≤255):qa7 (qbd x):=by
 intro b g;unfold qbd at g;rcases List.mem_cons.1 g with rfl | g
 ·exact h
 ·rw[List.eq_of_mem_replicate g];decide
noncomputable def a3:Ch:=((a2 hv).hearRevoke ⟨7,7,0,0,qdu (qbd 2) 65535 16,0,0⟩).1
end
attribute [local go_sem ↓ high] qab qan qar qaw zy zz z7 qaa qle qlf qgv qgq qfc
attribute [local go_sem] qcr qde qdn qg2 zb qb2 qcb qci qtr qro qlt qmf qmg
end Go.Proofs.YthnohmjbbeahmaaGreatDoor
namespace Go.Proofs.YthnohmjbbeahmaaGreatDoor
open Go.RowKit
section
variable {w0 w w':World}{p gA gB:Nat}{SA SB:Nat→Prop}{a b a' b':Ch}{wa wb:List MsgV}{ua ub:Value}{bad:Bool}
end
attribute [local go_sem ↓ high] qgv qgq qfc
attribute [local go_sem] zb qtr qro qlt
end Go.Proofs.YthnohmjbbeahmaaGreatDoor
namespace Go.Proofs.YthnohmjbbeahmaaGreatDoor
open Go.RowKit
section
variable {w0 w wD w':World}{p gA gB:Nat}{SA SB S:Nat→Prop}{a b a' b':Ch}{wa wb:List MsgV}{ua ub:Value}{bad:Bool}
end
attribute [local go_sem ↓ high] zy zz z7 qaa qd3
attribute [local go_sem] qb2 qcb qci qlg zb
end Go.Proofs.YthnohmjbbeahmaaGreatDoor
