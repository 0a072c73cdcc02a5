/-
  The reference's Pad and Sum.
-/
import Derived.Test.YtjpmomdechibmaaGreatDoorShR3
import Derived.Test.YtjpmomdechibmaaGreatDoorMbg
import Derived.Test.YtjpmomdechibmaaGreatDoorMdc
set_option linter.unusedVariables false
set_option linter.unusedSimpArgs false
namespace Go.Proofs.YtjpmomdechibmaaGreatDoor
open Go.RowKit
theorem qus(s:ByteArray)(f:List Int):strOfNums (qc7 s++f)=s++strOfNums f:=by
 unfold strOfNums qc7
 rw[List.map_append,List.map_map]
 have:(s.data.toList.map ((fun n:Int=>UInt8.ofNat n.toNat) ∘ fun c:UInt8=>(c.toNat:Int)))=s.data.toList:=by
  conv=>rhs;rw[←List.map_id s.data.toList]
  refine List.map_congr_left fun c _=> ?_
  simp
 rw[this]
 apply ByteArray.ext
 simp
theorem q7p(n k:Nat)(h:k<qdc n):(n+(k+1))%64≠56:=by unfold qdc at h;omega
theorem q7o(n:Nat):(n+(qdc n+1))%64=56:=by unfold qdc;omega
set_option maxRecDepth 100000 in
set_option maxHeartbeats 1000000 in
theorem q7n(s:ByteArray)(w:World)(hs:s.size≤1000000000) :
  Calls Tryz.prog 73 #[.string s] w (qa5 (.string (qh9 s)) w):=by
 have hz:=ql6 s.size
 have a8:(s.size:Int)≤1000000000:=by omega
 have L:=qk5 s
 have J:∀w:World,(convert 9 111 (.string s)).run Tryz.prog w = .ok (.slice (some ⟨w.heap.size,0,none⟩) s.size (grownCap w s.size 0 5)) (w.drew.alloc (.cells (bytesRow s (grownCap w s.size 0 5)) 5 ((bytesRow s (grownCap w s.size 0 5)).size,(bytesRow s (grownCap w s.size 0 5)).size+1))) :=
  fun w=>run_bytes_of_string w _ _ _ s Tryz.underlying9 Tryz.underlying111 Tryz.underlying5
 have hG:=qdf.ofS w s (grownCap w s.size 0 5) w.heap.size (Nat.le_refl _) (grownCap_ge _ _ _ _)
 have V:Upd (fun k=>w.heap.size≤k) w (w.drew.alloc (.cells (bytesRow s (grownCap w s.size 0 5)) 5 ((bytesRow s (grownCap w s.size 0 5)).size,(bytesRow s (grownCap w s.size 0 5)).size+1))):=(Upd.refl _ _).drew.alloc _
 have R:=qb hG
 have i:=qb L
 clear hG L
 go_enter Tryz.func73,Tryz.ntmps73
 go_upto_region 2 with fail
 generalize K:grownCap w s.size 0 5=D at *
 have y:=J w
 rw[K] at y
 clear J K
 refine wp_region_lit ?_
 refine q9 rfl (v:= .string s) (w':=w) (by kernel_rfl) ?_
 refine q9 rfl (v:= .slice (some ⟨w.heap.size,0,none⟩) s.size D) (w':=w.drew.alloc (.cells (bytesRow s D) 5 ((bytesRow s D).size,(bytesRow s D).size+1))) (by simp only[execOp];go_simp) ?_
 generalize w.drew.alloc (.cells (bytesRow s D) 5 ((bytesRow s D).size,(bytesRow s D).size+1))=w1 at R V ⊢
 clear y
 refine q9 rfl (v:= .slice (some ⟨w1.heap.size,0,none⟩) 1 1) (w':=w1.alloc (.cells #[.int .u8 128] 5)) (by kernel_rfl) ?_
 refine qiq rfl (.tmp 11) (.tmp 12) rfl w.heap.size _ _ rfl 128 _ _ rfl (qa R) (by rw[qa i];omega) V.size ?_
 intro v2 w2 t u2
 have u3:=V.then u2 (fun q _ h=>((qa R).ge h).1)
 clear u2 R V
 have g:(qc7 s++[128]).length=s.size+1:=by rw[List.length_append,qa i];rfl
 obtain⟨a2,c2,rfl⟩:=t.shape
 rw[g] at t ⊢
 have j:=qb t
 clear t g
 go_wp2_with fail
 go_loopw [4] (fun C wr=>∃(k:Nat) (a:Addr) (c:Nat),C = .slice (some a) (s.size+1+k) c∧k≤qdc s.size∧Hid (qdf wr w.heap.size C (qc7 s++(128::List.replicate k 0)))∧Upd (fun k=>w.heap.size≤k) w wr) (fun C _=>s.size+100-(match C with | .slice _ l _=>l | _=>0))
 case atStart=>exact⟨0,_,_,rfl,Nat.zero_le _,j,u3⟩
 case round =>
  obtain⟨k,a,c,rfl,hk,j,H⟩:=hrel
  by_cases N:k<qdc s.size
  ·have E:=q7p s.size k N
   have h1:((((s.size:Int)+1+(k:Int)))%64 != 56)=true:=by rw[bne_iff_ne];omega
   have Z:(k:Int)<64:=by omega
   have Y:=H.size
   have x:(qc7 s++(128::List.replicate k (0:Int))).length≤1073741824:=by rw[List.length_append,qa i];simp;omega
   clear E
   go_wp2_with (at_builtin;refine qiq rfl (.tmp 18) (.tmp 19) rfl w.heap.size _ _ rfl 0 _ _ rfl (qa j) x Y ?_)
   intro v' w5 f P
   have u6:=H.then P (fun q _ h=>((qa j).ge h).1)
   obtain⟨T,U,rfl⟩:=f.shape
   replace f:qdf w5 w.heap.size (Value.slice (some T) (qc7 s++(128::(List.replicate k (0:Int)++[0]))).length U) (qc7 s++(128::(List.replicate k 0++[0]))):=f
   rw[←List.replicate_succ'] at f
   have g:(qc7 s++(128::(List.replicate k (0:Int)++[0]))).length=s.size+1+(k+1):=by rw[List.length_append,qa i];simp;omega
   have M:(qc7 s++(128::(List.replicate (k+1) (0:Int)))).length=s.size+1+(k+1):=by rw[List.length_append,qa i];simp;omega
   rw[M] at f
   rw[g]
   have z:=qb f
   clear f P j g M
   go_wp2
   go_roundw
   case rel=>exact⟨k+1,T,U,rfl,by omega,z,u6⟩
   case measure=>simp;omega
  ·obtain rfl:k=qdc s.size:=by omega
   have E:=q7o s.size
   have h1:((((s.size:Int)+1+(qdc s.size:Int)))%64 != 56)=false:=by rw[bne_eq_false_iff_eq];omega
   have Z:(qdc s.size:Int)<64:=by omega
   obtain⟨wo,rfl⟩:∃wo:World,wo=wr:=⟨_,rfl⟩
   clear E
   go_wp2_with fail
   go_loopw [4,5] (fun C iv wr=>∃(m:Nat) (a:Addr) (c:Nat),iv = .int .i64 (7-(m:Int))∧m≤8∧C = .slice (some a) (s.size+1+qdc s.size+m) c∧Hid (qdf wr w.heap.size C (qc7 s++(128::List.replicate (qdc s.size) 0)++(List.range m).map (qj4 s.size)))∧Upd (fun k=>w.heap.size≤k) w wr) (fun _ iv _=>(intOf iv+1).toNat)
   case atStart=>exact⟨0,_,_,rfl,by omega,rfl,by simpa using j,H⟩
   case round =>
    obtain⟨m,a,c,rfl,hm,rfl,j,H⟩:=hrel
    by_cases N:m<8
    ·have a7:(m:Int)<8:=by omega
     have Y:=H.size
     have x:(qc7 s++(128::List.replicate (qdc s.size) (0:Int))++(List.range m).map (qj4 s.size)).length≤1073741824:=by rw[List.length_append,List.length_append,qa i];simp;omega
     have F:∀W,Calls Tryz.prog 75 #[.int .u64 ((s.size:Int)*8),.int .i64 (8*(7-(m:Int)))] W fun e w'=>e = .returned (.int .u64 ((s.size:Int)*8 / 2 ^ (8*(7-(m:Int))).toNat))∧W=w' :=
      fun W=>qku ((s.size:Int)*8) (8*(7-(m:Int))) W (by omega) (by omega) (by omega) (by omega)
     have hq:qj4 s.size m=((s.size:Int)*8 / 2 ^ (8*(7-(m:Int))).toNat)%256:=by
      unfold qj4
      rw[show (8*(7-(m:Int))).toNat=56-8*m by omega,Int.mul_comm]
     have O:0≤(s.size:Int)*8 / 2 ^ (8*(7-(m:Int))).toNat∧(s.size:Int)*8 / 2 ^ (8*(7-(m:Int))).toNat≤8000000000:=by
      have hp:(1:Int)≤2 ^ (8*(7-(m:Int))).toNat:=Int.pow_pos (by decide)
      refine⟨Int.ediv_nonneg (by omega) (by omega),?_⟩
      refine Int.le_trans (Int.ediv_le_self _ (by omega)) (by omega)
     generalize (s.size:Int)*8 / 2 ^ (8*(7-(m:Int))).toNat=q at F hq O
     have X:=qb F
     have HQ:=qb hq
     clear F hq
     obtain⟨q0,q1⟩:=O
     go_wp2_with fail
     refine(qa X _).mono ?_
     rintro e w' ⟨rfl,rfl⟩
     go_wp2_with (at_builtin;refine qiq rfl (.tmp 25) (.tmp 32) rfl w.heap.size _ _ rfl _ _ _ rfl (qa j) x Y ?_)
     intro v' w5 f P
     have u6:=H.then P (fun q _ h=>((qa j).ge h).1)
     obtain⟨T,U,rfl⟩:=f.shape
     have e1:qc7 s++(128::List.replicate (qdc s.size) 0)++(List.range (m+1)).map (qj4 s.size)=qc7 s++(128::(List.replicate (qdc s.size) 0++((List.range m).map (qj4 s.size)++[q%256]))):=by rw[List.range_succ,List.map_append,List.map_cons,List.map_nil,qa HQ];simp
     have g:(qc7 s++(128::(List.replicate (qdc s.size) (0:Int)++((List.range m).map (qj4 s.size)++[q%256])))).length=s.size+1+qdc s.size+(m+1):=by rw[List.length_append,qa i];simp;omega
     rw[g] at f ⊢
     rw[←e1] at f
     have z:=qb f
     clear f P j e1 g x
     go_wp2
     go_roundw
     case rel=>exact⟨m+1,T,U,by congr 1;omega,by omega,rfl,z,u6⟩
     case measure=>simp[intOf];omega
    ·obtain rfl:m=8:=by omega
     rw[show (7:Int)-((8:Nat):Int) = -1 from rfl]
     have a4:=qup (qa j)
     have o:strOfNums (qc7 s++(128::List.replicate (qdc s.size) 0)++(List.range 8).map (qj4 s.size))=qh9 s:=by
      unfold qh9 qn3
      rw[List.append_assoc,qus]
     generalize strOfNums (qc7 s++(128::List.replicate (qdc s.size) 0)++(List.range 8).map (qj4 s.size))=a6 at a4 o
     have I:=qb o
     clear o
     go_wp2
     go_ret
     exact⟨by rw[qa I];rfl,H.below' (Nat.le_refl _) (fun _ h=>h) |> fun h=>Upd.of_below h (Nat.le_refl _)⟩
theorem q3s(s:ByteArray):(qh9 s).size%64=0∧(qh9 s).size≤s.size+73:=by
 unfold qh9
 rw[ByteArray.size_append,strOfNums_size,qm9]
 have:=ql6 s.size
 have:=q1h s.size
 omega
theorem q2m(p:ByteArray)(i:Nat)(h:i+64≤p.size):(p.extract i p.size).extract 0 64=p.extract i (i+64):=by
 rw[ByteArray.extract_extract]
 congr 1
 omega
theorem q5s(p:ByteArray)(i:Nat)(h:i+64≤p.size):(p.extract i p.size).extract 64 (p.extract i p.size).size=p.extract (i+64) p.size:=by
 rw[ByteArray.extract_extract]
 congr 1
 rw[ByteArray.size_extract]
 omega
theorem q1v(p:ByteArray)(n:Nat)(h:List Int)(i:p.size%64=0)(f:64*n+64≤p.size) :
  qjl ((p.size-64*n) / 64) h (p.extract (64*n) p.size)=qjl ((p.size-64*(n+1)) / 64) (qln h (p.extract (64*n) (64*n+64))) (p.extract (64*(n+1)) p.size):=by
 obtain⟨k,g⟩:∃k,(p.size-64*n) / 64=k+1:=⟨(p.size-64*n) / 64-1,by omega⟩
 rw[g,show (p.size-64*(n+1)) / 64=k by omega]
 show qjl k (qln h ((p.extract (64*n) p.size).extract 0 64)) ((p.extract (64*n) p.size).extract 64 (p.extract (64*n) p.size).size)=_
 rw[q2m p _ f,q5s p _ f,show 64*n+64=64*(n+1) by omega]
def z32:Array Value:=((List.replicate 32 (0:Int)).map (Value.int .u8)).toArray
def z8r:Array Value:=((List.replicate 8 (0:Int)).map (Value.int .u64)).toArray
def qy2:Array Value:=(qi0.map (Value.int .u64)).toArray
attribute [local go_sem ↓ high] qpw qqk qj2 qkg
attribute [local go_sem] zbg zbs qzf q0e
set_option maxRecDepth 100000 in
set_option maxHeartbeats 2000000 in
theorem q8b(s:ByteArray)(w:World)(hs:s.size≤1000000000) :
  Calls Tryz.prog 46 #[.string s] w fun e w'=>e = .returned (.agg ((qft s).map (Value.int .u8)).toArray)∧qx w w':=by
 obtain⟨b8,b9⟩:=q3s s
 have hp:=fun W=>q7n s W hs
 have I:qft s=qgj (qjl ((qh9 s).size / 64) qi0 (qh9 s)) 32:=rfl
 generalize qh9 s=p at b8 b9 hp I
 have HP:=qb hp
 have P:=qb I
 clear hp I
 go_enter Tryz.func46,Tryz.ntmps46
 go_upto_region 0 with fail
 refine wp_region_lit ?_
 refine q9 rfl (v:= .pointer (some ⟨w.heap.size,0,none⟩)) (w':=w.alloc (.cells z32 28)) (by kernel_rfl) ?_
 have n0:qx w (w.alloc (.cells z32 28)):=(Upd.refl _ _).alloc _
 have L:(w.alloc (.cells z32 28)).heap[w.heap.size]? = some (.cells z32 28 (0,0)):=qi _ _
 generalize w.alloc (.cells z32 28)=w1 at n0 L ⊢
 go_upto_region 1 with fail
 refine wp_region_lit ?_
 refine q9 rfl (v:= .agg qy2) (w':=w1) (by kernel_rfl) ?_
 refine q9 rfl (v:= .pointer (some ⟨w1.heap.size,0,none⟩)) (w':=w1.alloc (.cells z8r 141)) (by kernel_rfl) ?_
 have n2:qx w1 (w1.alloc (.cells z8r 141)):=(Upd.refl _ _).alloc _
 have t:(w1.alloc (.cells z8r 141)).heap[w1.heap.size]? = some (.cells z8r 141 (0,0)):=qi _ _
 generalize w1.alloc (.cells z8r 141)=w2 at n2 t ⊢
 refine wpList_store_row rfl _ _ _ rfl w1.heap.size qy2 rfl rfl 141 _ t (by kernel_rfl) (by kernel_rfl) (by kernel_rfl) ?_
 have D:(w2.setRow w1.heap.size qy2).heap[w1.heap.size]? = some (.cells qy2 141 (0,0)):=setRow_heap w2 w1.heap.size _ qy2 141 (0,0) t
 have J:qx w1 (w2.setRow w1.heap.size qy2):=n2.setRow (fun h=>by omega) _
 generalize w2.setRow w1.heap.size qy2=w3 at D J ⊢
 have d6:w.heap.size<w1.heap.size:=zq L
 have vR:=J.old L (fun h=>h)
 have nA:=n0.trans J
 have vH:qa2 .u64 w3 w1.heap.size qi0:=⟨_,D⟩
 have d7:=vH.lt
 generalize w1.heap.size=B at vH d6 d7 ⊢
 clear n0 L n2 t D J
 go_wp2_with fail
 refine(qa HP w3).mono ?_
 rintro e w4 ⟨rfl,n4⟩
 have f3:=n4.size
 replace vR:=n4.old vR (fun h=>h)
 replace vH:=vH.upd n4 (fun h=>h)
 replace nA:=nA.trans n4
 clear n4 HP
 go_wp2_with fail
 go_loopw [5,6,7] (fun iv _ _ wr=>∃(n:Nat) (f:List Int),iv = .int .i64 (64*(n:Int))∧64*n≤p.size∧f.length=8∧qe3 f∧Hid (qjl ((p.size-64*n) / 64) f (p.extract (64*n) p.size)=qjl (p.size / 64) qi0 p)∧qa2 .u64 wr B f∧Upd (fun k=>k=B) w4 wr) (fun iv _ _ _=>p.size-(intOf iv).toNat)
 case atStart=>exact⟨0,qi0,rfl,by omega,rfl,qlq,by rw[show 64*0=0 from rfl,Nat.sub_zero];exact qb (by simp),vH,Upd.refl _ _⟩
 case round =>
  clear vH
  obtain⟨n,f,rfl,hn,Z,a4,HE,hH,E⟩:=hrel
  by_cases f0:64*n<p.size
  ·have b3:64*n+64≤p.size:=by omega
   have H:(p.extract (64*n) (64*n+64)).size=64:=by rw[ByteArray.size_extract];omega
   have hC:=fun W=>qqx f (p.extract (64*n) (64*n+64)) W Z a4 H
   have a6:=qtn f (p.extract (64*n) (64*n+64)) ⟨Z,a4⟩
   have z:=(q1v p n f b8 b3).symm.trans (qa HE)
   obtain⟨TH,hb⟩:=hH
   generalize Y:p.extract (64*n) (64*n+64)=bl at hC a6 z
   generalize qln f bl=d at hC a6 z
   obtain⟨d8,du⟩:=a6
   have HC:=qb hC
   have c2:=qb Y
   have K:=qb z
   clear hC H z Y HE
   obtain⟨l,rfl⟩:∃l:World,l=wr:=⟨_,rfl⟩
   have e2:=E.size
   generalize a5:(f.map (Value.int .u64)).toArray=cv at hb HC
   have a9:cv.size=8:=by rw[←a5];simpa using Z
   have e4:=qb a5
   clear a5
   have b5:=qaj hb 8 a9
   have c9:64*(n:Int)<(p.size:Int):=by omega
   have f1:64*(n:Int)+64≤(p.size:Int):=by omega
   have f2:(p.size:Int)≤2000000000:=by omega
   have d0:(64*(n:Int)).toNat=64*n:=by omega
   have d2:IntKind.i64.wrap (64*(n:Int)+64)=64*(n:Int)+64:=IntWalk.i64_in _ (by omega)
   have d3:0≤64*(n:Int):=by omega
   have d4:0≤64*(n:Int)+64:=by omega
   have d5:64*(n:Int)≤64*(n:Int)+64:=by omega
   have d1:(64*(n:Int)+64).toNat=64*n+64:=by omega
   go_wp2_with fail
   refine zav (by kernel_rfl) [[],[],[],[],[(3,23)],[(1,21),(2,22),(4,24)],[(0,20),(5,25)],[(6,26)],[(7,19)],[(7,19)],[],[(10,6),(8,27)],[(9,28)]] 49 rfl (by kernel_rfl) [(0,20),(1,21),(2,22),(3,23),(4,24),(5,25),(6,26),(7,19),(8,27),(9,28),(10,6),(12,7)] (by kernel_rfl) 10 11 8 rfl rfl rfl rfl ((d.map (Value.int .u64)).toArray)
    [.agg cv,.string p,.int .i64 (64*(n:Int)),.int .i64 (64*(n:Int)),.int .i64 (64*(n:Int)+64),.string bl,.tuple #[.agg (d.map (Value.int .u64)).toArray,.bool true],.tuple #[.agg (d.map (Value.int .u64)).toArray,.bool true],.agg (d.map (Value.int .u64)).toArray,.bool true,undef,undef,.bool true] ?_ ?_
   ·refine .nval rfl rfl rfl ?_ <| .nval rfl rfl rfl ?_ <| .nval rfl rfl rfl ?_ <| .nval rfl rfl rfl ?_ <| .nval rfl rfl rfl ?_ <| .nval rfl rfl rfl ?_ <| .nval rfl rfl rfl ?_ <| .nval rfl rfl rfl ?_ <| .nval rfl rfl rfl ?_ <| .nval rfl rfl rfl ?_ <| .nalloc rfl rfl rfl z8r 141 rfl ?_ <| .nstore rfl rfl rfl rfl (by simp[d8]) ?_ <| .nval rfl rfl rfl ?_ <| .nil
    ·intro qk m F _
     have hr:=qkb b5 F (fun h=>h)
     unfold zg;simp only[putL];go_simp
     exact⟨Upd.refl _ _,rfl⟩
    ·intro qk m F _
     unfold zg;simp only[putL];go_simp
     exact⟨Upd.refl _ _,rfl⟩
    ·intro qk m F _
     unfold zg;simp only[putL];go_simp
     exact⟨Upd.refl _ _,rfl⟩
    ·intro qk m F _
     unfold zg;simp only[putL];go_simp
     exact⟨Upd.refl _ _,rfl⟩
    ·rintro qk m F ⟨j,-⟩
     replace j:qk 3 = .int .i64 (64*(n:Int)):=j
     unfold zg;simp only[putL];go_simp
     exact⟨Upd.refl _ _,rfl⟩
    ·rintro qk m F ⟨j,N,p2,-⟩
     replace j:qk 1 = .string p:=j
     replace N:qk 2 = .int .i64 (64*(n:Int)):=N
     replace p2:qk 4 = .int .i64 (64*(n:Int)+64):=p2
     have Y:=qa c2
     unfold zg;simp only[putL];go_simp
     exact⟨Upd.refl _ _,rfl⟩
    ·rintro qk m F ⟨j,N,-⟩
     replace j:qk 0 = .agg cv:=j
     replace N:qk 5 = .string bl:=N
     unfold zg;simp only[putL];go_simp
     refine(qa HC m).mono ?_
     rintro e w6 ⟨rfl,n6⟩
     exact⟨_,rfl,n6,rfl⟩
    ·rintro qk m F ⟨j,-⟩
     replace j:qk 6 = .tuple #[.agg (d.map (Value.int .u64)).toArray,.bool true]:=j
     generalize (d.map (Value.int .u64)).toArray=dv at j ⊢
     unfold zg;simp only[putL];go_simp
     exact⟨Upd.refl _ _,rfl⟩
    ·rintro qk m F ⟨j,-⟩
     replace j:qk 7 = .tuple #[.agg (d.map (Value.int .u64)).toArray,.bool true]:=j
     generalize (d.map (Value.int .u64)).toArray=dv at j ⊢
     unfold zg;simp only[putL];go_simp
     exact⟨Upd.refl _ _,rfl⟩
    ·rintro qk m F ⟨j,-⟩
     replace j:qk 7 = .tuple #[.agg (d.map (Value.int .u64)).toArray,.bool true]:=j
     generalize (d.map (Value.int .u64)).toArray=dv at j ⊢
     unfold zg;simp only[putL];go_simp
     exact⟨Upd.refl _ _,rfl⟩
    ·intro qk m
     rfl
    ·rintro qk m g T cs e1 hg e8 ⟨-,N,-⟩
     replace N:qk 8 = .agg (d.map (Value.int .u64)).toArray:=N
     have b6:=qe0 (o:=0) (n:=8) (A:=(d.map (Value.int .u64)).toArray) hg (by omega) (by simp[d8]) (by simp[Value.oneCell'])
     generalize (d.map (Value.int .u64)).toArray=dv at N b6 ⊢
     unfold zg;simp only[putL];go_simp
    ·rintro qk m F ⟨j,-⟩
     replace j:qk 9 = .bool true:=j
     unfold zg;simp only[putL];go_simp
     exact⟨Upd.refl _ _,rfl⟩
   ·intro qk m g T n5 c6 e9 hg hv
    have b7:qk 12 = .bool true:=hv 12 (by decide) (by decide) (by decide)
    clear hv
    simp only[putL,c6,b7]
    clear d2 d3 d4 d5 d0 d1
    go_simp
    have X:=n5.old hb (fun h=>h)
    have u5:=E.then n5 (fun _ _ h=>h.elim)
    clear b5 hb HC n5 E
    go_upto_region 7 with fail
    refine wp_region_lit ?_
    refine wpList_load_row rfl _ _ rfl g rfl T _ _ _ hg Tryz.underlying141 rfl (by rw[List.size_toArray,List.length_map,d8];exact Tryz.infoR8) ?_
    refine wpList_store_row rfl _ _ _ rfl B (d.map (Value.int .u64)).toArray rfl rfl TH _ X (by rw[List.size_toArray,List.length_map,d8];exact Tryz.infoR8) (by simp[d8,a9]) (by simp[Value.oneCell']) ?_
    have hF:=setRow_heap m B _ (d.map (Value.int .u64)).toArray TH (0,0) X
    have u6:=u5.setRow (g:=B) (fun _=>rfl) (d.map (Value.int .u64)).toArray
    generalize m.setRow B (d.map (Value.int .u64)).toArray=w6 at hF u6 ⊢
    clear hg X u5
    go_wp2
    go_roundw
    case rel=>exact⟨n+1,d,by congr 1,by omega,d8,du,K,⟨TH,hF⟩,u6⟩
    case measure=>simp[intOf];omega
  ·have he:64*n=p.size:=by omega
   have V:=qa HE
   rw[show (p.size-64*n) / 64=0 by omega] at V
   have U:qft s=qgj f 32:=by rw[qa P,←V];rfl
   have a8:=qb U
   clear U V HE P
   have c9:¬64*(n:Int)<(p.size:Int):=by omega
   have e2:=E.size
   have O:=E.old vR (by omega)
   have nB:=nA.then E (fun q hq e=>by omega)
   clear vR nA E
   obtain⟨l,rfl⟩:∃l:World,l=wr:=⟨_,rfl⟩
   go_upto_region 8 with fail
   refine wp_region_lit ?_
   refine q9 rfl (v:= .agg z32) (w':=l) (by kernel_rfl) ?_
   refine q9 rfl (v:= .pointer (some ⟨l.heap.size,0,none⟩)) (w':=l.alloc (.cells z32 28)) (by kernel_rfl) ?_
   have n2:qx l (l.alloc (.cells z32 28)):=(Upd.refl _ _).alloc _
   have t:(l.alloc (.cells z32 28)).heap[l.heap.size]? = some (.cells z32 28 (0,0)):=qi _ _
   generalize l.alloc (.cells z32 28)=m at n2 t ⊢
   refine wpList_store_row rfl _ _ _ rfl l.heap.size z32 rfl rfl 28 _ t (by kernel_rfl) (by kernel_rfl) (by kernel_rfl) ?_
   have D:(m.setRow l.heap.size z32).heap[l.heap.size]? = some (.cells z32 28 (0,0)):=setRow_heap m l.heap.size _ z32 28 (0,0) t
   have J:qx l (m.setRow l.heap.size z32):=n2.setRow (fun h=>by omega) _
   generalize m.setRow l.heap.size z32=w6 at D J ⊢
   have vO:qa2 .u8 w6 l.heap.size (List.replicate 32 0):=⟨_,D⟩
   have e0:=vO.lt
   have d9:B<l.heap.size:=hH.lt
   replace hH:=hH.upd J (fun h=>h)
   replace O:=J.old O (fun h=>h)
   replace nB:=nB.trans J
   generalize l.heap.size=C at vO d9 e0 ⊢
   clear n2 t D J
   go_wp2_with fail
   go_loopw [9] (fun iv wr=>∃i:Nat,iv = .int .i64 (i:Int)∧i≤32∧qa2 .u8 wr C (qgj f i)∧Upd (fun k=>k=C) w6 wr) (fun iv _=>32-(intOf iv).toNat)
   case atStart=>exact⟨0,rfl,by omega,by rw[qit];exact vO,Upd.refl _ _⟩
   case round =>
    obtain⟨i,rfl,hi,R,E⟩:=hrel
    by_cases e3:i<32
    ·have c0:wr.cell? ⟨B,i / 4,none⟩=some (.int .u64 (wd f (i / 4))):=(hH.upd E (by omega)).cell (by omega)
     obtain⟨a0,c5⟩:=a4.at (i / 4)
     obtain⟨v1,c1⟩:∃v,wr.cell? ⟨C,i,none⟩=some v:=⟨_,R.cell (by rw[qhs];omega)⟩
     have z1:=R.free i
     have e5:(i:Int)<32:=by omega
     have c7:IntKind.i64.wrap ((i:Int) / 4)=(i:Int) / 4:=IntWalk.i64_in _ (by omega)
     have c8:((i:Int) / 4).toNat=i / 4:=by omega
     have e6:(0:Int)≤(i:Int) / 4:=by omega
     have e7:(i:Int) / 4<8:=by omega
     have z:=R.set i (byI f i)
     rw[←qis] at z
     have K:=qb z
     clear z
     have hq:byI f i=wd f (i / 4) / 2 ^ (24-8*((i:Int)%4)).toNat%256:=by
      unfold byI
      rw[show (24-8*((i:Int)%4)).toNat=24-8*(i%4) by omega]
     have M:∀W,Calls Tryz.prog 75 #[.int .u64 (wd f (i / 4)),.int .i64 (24-8*((i:Int)%4))] W fun e w'=>e = .returned (.int .u64 (wd f (i / 4) / 2 ^ (24-8*((i:Int)%4)).toNat))∧W=w' :=
      fun W=>qku (wd f (i / 4)) (24-8*((i:Int)%4)) W a0 (by omega) (by omega) (by omega)
     have b4:0≤wd f (i / 4) / 2 ^ (24-8*((i:Int)%4)).toNat∧wd f (i / 4) / 2 ^ (24-8*((i:Int)%4)).toNat<4294967296:=by
      have hp:(1:Int)≤2 ^ (24-8*((i:Int)%4)).toNat:=Int.pow_pos (by decide)
      refine⟨Int.ediv_nonneg a0 (by omega),?_⟩
      exact Int.lt_of_le_of_lt (Int.ediv_le_self _ a0) c5
     generalize wd f (i / 4) / 2 ^ (24-8*((i:Int)%4)).toNat=q at M hq b4
     generalize wd f (i / 4)=x at c0 M
     have c4:=qb M
     rw[hq] at K
     have us:=qb (E.set1 i (.int .u8 (q%256)))
     clear M hq
     obtain⟨q0,q1⟩:=b4
     go_wp2_with fail
     refine(qa c4 _).mono ?_
     rintro e w' ⟨rfl,rfl⟩
     go_wp2
     clear c7 c8
     go_roundw
     case rel=>exact⟨i+1,by go_num,by omega,qa K,qa us⟩
     case measure=>simp[intOf];omega
    ·obtain rfl:i=32:=by omega
     rw[show ((32:Nat):Int)=32 from rfl]
     have a7:=E.old O (by omega)
     have nn:=nB.then E (by intro q hq h;omega)
     have y:=qhs f 32
     generalize H:qgj f 32=bs at R y
     have c3:=qb H
     clear H O nB E vO
     obtain⟨TO,R⟩:=R
     go_upto_region 13 with fail
     refine wp_region_lit ?_
     refine wpList_load_row rfl _ _ rfl C rfl TO _ _ _ R Tryz.underlying28 rfl (by rw[List.size_toArray,List.length_map,y];exact Tryz.infoHash) ?_
     refine wpList_store_row rfl _ _ _ rfl w.heap.size (bs.map (Value.int .u8)).toArray rfl rfl 28 _ a7 (by rw[List.size_toArray,List.length_map,y];exact Tryz.infoHash) (by have h9:z32.size=32:=rfl;rw[h9];simp[y]) (by simp[Value.oneCell']) ?_
     have hF:=setRow_heap wr w.heap.size _ (bs.map (Value.int .u8)).toArray 28 (0,0) a7
     have nF:=nn.setRow (g:=w.heap.size) (fun h=>by omega) (bs.map (Value.int .u8)).toArray
     generalize wr.setRow w.heap.size (bs.map (Value.int .u8)).toArray=wF at hF nF ⊢
     clear nn R a7
     go_wp2_with fail
     refine bodyPost_ret (results_cell_row rfl _ _ w.heap.size 28 _ _ _ rfl hF Tryz.underlying28 rfl (by rw[List.size_toArray,List.length_map,y];exact Tryz.infoHash)) rfl ?_
     exact⟨by rw[qa a8,qa c3],nF⟩
end Go.Proofs.YtjpmomdechibmaaGreatDoor
