/-
  The reference's Compress, walked.
-/
import Derived.Test.YtjpmomdechibmaaGreatDoorMcg
set_option linter.unusedVariables false
set_option linter.unusedSimpArgs false
namespace Go.Proofs.YtjpmomdechibmaaGreatDoor
open Go.RowKit
attribute [local go_sem ↓ high] qxz qy2 qqw qro
attribute [local go_sem] zeb zez zc7 zdm
set_option maxRecDepth 100000 in
set_option maxHeartbeats 4000000 in
theorem qr0(h:List Int)(s:ByteArray)(w:World)(hh:h.length=8)(hu:qfh h)(hs:s.size=64) :
  Calls Tryz.prog 74 #[.agg (h.map (Value.int .u64)).toArray,.string s] w fun e w'=>e = .returned (.tuple #[.agg ((qmb h s).map (Value.int .u64)).toArray,.bool true])∧qy w w':=by
 obtain⟨H,E,F,I,J,K,L,M,rfl⟩:=qb4 hh
 simp only[List.map_cons,List.map_nil]
 go_enter Tryz.func74,Tryz.ntmps74
 have m4:(s.size:Int)=64:=by omega
 go_upto_region 1 with fail
 obtain⟨O,b9⟩:∃O:World,O=(w.alloc (.cells #[.int .u64 H,.int .u64 E,.int .u64 F,.int .u64 I,.int .u64 J,.int .u64 K,.int .u64 L,.int .u64 M] 141)).alloc (.cells #[.int .u64 0,.int .u64 0,.int .u64 0,.int .u64 0,.int .u64 0,.int .u64 0,.int .u64 0,.int .u64 0] 141):=⟨_,rfl⟩
 have sA:O.heap.size=w.heap.size+2:=by rw[b9];simp
 have nA:qy w O:=by rw[b9];exact((Upd.refl _ _).alloc _).alloc _
 have vA:qba .u64 O w.heap.size [H,E,F,I,J,K,L,M]:=by rw[b9];exact⟨_,zl (qi _ _) _⟩
 have vB:qba .u64 O (w.heap.size+1) [0,0,0,0,0,0,0,0]:=by
  rw[b9]
  have:=qi (w.alloc (.cells #[.int .u64 H,.int .u64 E,.int .u64 F,.int .u64 I,.int .u64 J,.int .u64 K,.int .u64 L,.int .u64 M] 141)) (.cells #[.int .u64 0,.int .u64 0,.int .u64 0,.int .u64 0,.int .u64 0,.int .u64 0,.int .u64 0,.int .u64 0] 141)
  rw[World.size_alloc] at this
  exact⟨_,this⟩
 rw[←b9]
 clear b9
 have HS:=qb hs
 clear hs
 go_upto_region 3 with fail
 clear m4
 refine wp_region_lit ?_
 refine zc rfl (v:= .agg z64) (w':=O) (by kernel_rfl) ?_
 refine zc rfl (v:= .pointer (some ⟨O.heap.size,0,none⟩)) (w':=O.alloc (.cells z64 174)) (by kernel_rfl) ?_
 have l0:qba .u64 (O.alloc (.cells z64 174)) O.heap.size (List.replicate 64 0):=⟨_,qi _ _⟩
 have n0:qy O (O.alloc (.cells z64 174)):=(Upd.refl _ _).alloc _
 generalize O.alloc (.cells z64 174)=w1 at l0 n0 ⊢
 obtain⟨T1,f3⟩:=l0
 refine wpList_store_row rfl _ _ _ rfl O.heap.size z64 rfl rfl T1 _ f3 (by kernel_rfl) (by kernel_rfl) (by kernel_rfl) ?_
 have hF:(w1.setRow O.heap.size z64).heap[O.heap.size]? = some (.cells z64 T1 (0,0)):=setRow_heap w1 O.heap.size _ z64 T1 (0,0) f3
 have nF:qy O (w1.setRow O.heap.size z64):=n0.setRow (fun h=>by omega) _
 have vW:qba .u64 (w1.setRow O.heap.size z64) O.heap.size (List.replicate 64 0):=⟨T1,hF⟩
 have j1:O.heap.size<(w1.setRow O.heap.size z64).heap.size:=zw hF
 generalize w1.setRow O.heap.size z64=wo at nF vW j1 ⊢
 clear hF n0 f3
 replace vA:=vA.upd nF (fun h=>h)
 replace vB:=vB.upd nF (fun h=>h)
 replace nA:=nA.trans nF
 clear nF
 generalize g8:w.heap.size=A at *
 rw[sA] at vW j1 ⊢
 clear sA
 have d6:=qb g8
 clear g8
 go_wp2_with fail
 go_loopw [7,8] (fun iv _ wr=>∃i:Nat,iv = .int .i64 (i:Int)∧i≤16∧qba .u64 wr (A+2) (qa2 s (4*i))∧Upd (fun k=>k=A+2) wo wr) (fun iv _ _=>16-(intOf iv).toNat)
 case atStart=>exact⟨0,rfl,by omega,vW,Upd.refl _ _⟩
 case round =>
  obtain⟨i,rfl,hi,P,D⟩:=hrel
  obtain⟨wq,rfl⟩:∃wq:World,wq=wr:=⟨_,rfl⟩
  by_cases m3:i<16
  ·have p5:(i:Int)<16:=by omega
   go_wp2_with fail
   go_loopw [8] (fun kv wr=>∃k:Nat,kv = .int .i64 (k:Int)∧k≤4∧qba .u64 wr (A+2) (qa2 s (4*i+k))∧Upd (fun k=>k=A+2) wo wr) (fun kv _=>4-(intOf kv).toNat)
   case atStart=>exact⟨0,rfl,by omega,P,D⟩
   case round =>
    obtain⟨k,rfl,hk,P,D⟩:=hrel
    by_cases e2:k<4
    ·obtain⟨⟨x0,x1⟩,e0⟩:=qxy s i k m3 e2
     have c0:wr.cell? ⟨A+2,i,none⟩=some (.int .u64 (wd (qa2 s (4*i+k)) i)):=P.cell (by rw[qhi];omega)
     have z0:=P.free i
     have N:=P.set i (wd (qa2 s (4*i+k)) i*256+bt s (4*i+k))
     rw[←e0] at N
     have j3:=qa HS
     have l9:∀W:World,(Instr.index 9 (.string s) (.int .i64 (4*(i:Int)+(k:Int)))).run Tryz.prog W = .ok (.int .u8 (bt s (4*i+k))) W:=fun W=>qm0 _ s _ _ (4*i+k) Tryz.underlying9 (by omega) (by omega) W
     obtain⟨i6,i7⟩:=qwi s (4*i+k)
     have C:=qb N
     clear N e0 P j3
     generalize wd (qa2 s (4*i+k)) i=x at c0 x0 x1 C
     generalize bt s (4*i+k)=y at l9 i6 i7 C
     have m2:(k:Int)<4:=by omega
     have g5:(i:Int).toNat=i:=by omega
     have d7:IntKind.i64.wrap (4*(i:Int))=4*(i:Int):=IntWalk.i64_in _ (by omega)
     have e7:IntKind.i64.wrap (4*(i:Int)+(k:Int))=4*(i:Int)+(k:Int):=IntWalk.i64_in _ (by omega)
     have e8:IntKind.u64.wrap (x*256)=x*256:=by rw[IntKind.wrap_u64];omega
     have e9:IntKind.u64.wrap y=y:=by rw[IntKind.wrap_u64];omega
     have a4:IntKind.u64.wrap (x*256+y)=x*256+y:=by rw[IntKind.wrap_u64];omega
     have a8:(i:Int)<64:=by omega
     go_wp2_with fail
     go_region_law (fail)
     all_goals
      have us:=D.set1 i (.int .u64 (x*256+y))
      have a6:=qa C
      generalize wr.setCell ⟨A+2,i,none⟩ (.int .u64 (x*256+y))=wS at *
      clear d7 e7 e8 e9 a4
      go_wp2
      go_roundw
      case rel=>exact⟨k+1,by go_num,by omega,(a6:qba .u64 wS _ _),us.drew⟩
      case measure=>simp[intOf];omega
    ·obtain rfl:k=4:=by omega
     rw[show ((4:Nat):Int)=4 from rfl]
     go_wp2
     go_roundw
     case rel=>exact⟨i+1,by go_num,by omega,by rw[show 4*(i+1)=4*i+4 by omega];exact P,D⟩
     case measure=>simp[intOf];omega
  ·obtain rfl:i=16:=by omega
   rw[show ((16:Nat):Int)=16 from rfl]
   rw[show 4*16=64 from rfl] at P
   have j9:=vA.upd D (by omega)
   have k8:=vB.upd D (by omega)
   have o5:=D.size
   have u0:=D
   clear vA vB vW D
   go_wp2_with fail
   go_loopw [9,10,11,12,13] (fun iv _ _ _ _ wr=>∃j:Nat,iv = .int .i64 ((j:Int)+16)∧j≤48∧qba .u64 wr (A+2) (qau s j)∧Upd (fun k=>k=A+2) wq wr) (fun iv _ _ _ _ _=>64-(intOf iv).toNat)
   case atStart=>exact⟨0,rfl,by omega,by rw[qgl];exact P,Upd.refl _ _⟩
   case round =>
    clear P
    obtain⟨j,rfl,hj,P,D⟩:=hrel
    by_cases e2:j<48
    ·have i9:=qdq s j
     have hr:=qho s j
     have c1:wr.cell? ⟨A+2,j+1,none⟩=some (.int .u64 (wd (qau s j) (j+1))):=P.cell (by omega)
     have g4:wr.cell? ⟨A+2,j+14,none⟩=some (.int .u64 (wd (qau s j) (j+14))):=P.cell (by omega)
     have c0:wr.cell? ⟨A+2,j,none⟩=some (.int .u64 (wd (qau s j) j)):=P.cell (by omega)
     have c9:wr.cell? ⟨A+2,j+9,none⟩=some (.int .u64 (wd (qau s j) (j+9))):=P.cell (by omega)
     obtain⟨p6,e6⟩:∃v,wr.cell? ⟨A+2,j+16,none⟩=some v:=⟨_,P.cell (by omega)⟩
     have p7:=P.free (j+16)
     obtain⟨r1,d3⟩:=hr.at (j+1)
     obtain⟨d4,a7⟩:=hr.at (j+14)
     obtain⟨r0,m7⟩:=hr.at j
     obtain⟨r9,m8⟩:=hr.at (j+9)
     have t:=qgk s j
     unfold qri at t
     have N:=P.set (j+16) ((wd (qau s j) j+qyy (wd (qau s j) (j+1))+wd (qau s j) (j+9)+sig1 (wd (qau s j) (j+14)))%4294967296)
     rw[←t] at N
     have C:=qb N
     clear N t P hr i9
     have g5:(j:Int)<48:=by omega
     have d7:IntKind.i64.wrap ((j:Int)+16-15)=(j:Int)+1:=by rw[IntWalk.i64_in _ (by omega)];omega
     have e7:IntKind.i64.wrap ((j:Int)+16-2)=(j:Int)+14:=by rw[IntWalk.i64_in _ (by omega)];omega
     have e8:((j:Int)+1).toNat=j+1:=by omega
     have e9:((j:Int)+14).toNat=j+14:=by omega
     generalize hx:wd (qau s j) (j+1)=x at c1 r1 d3 C
     generalize hy:wd (qau s j) (j+14)=y at g4 d4 a7 C
     generalize wd (qau s j) j=a at c0 r0 m7 C
     generalize wd (qau s j) (j+9)=b at c9 r9 m8 C
     clear hx hy
     have HC:=qb (And.intro c0 (And.intro c9 e6))
     clear c0 c9 e6
     go_upto_region 16 with fail
     clear c1 g4 d7 e7 e8 e9
     go_wp2_with fail
     refine(qeu x 7 _ r1 d3 (by decide) (by decide)).mono ?_
     rintro e w5 ⟨rfl,rfl⟩
     go_wp2_with fail
     refine(qeu x 18 _ r1 d3 (by decide) (by decide)).mono ?_
     rintro e w5 ⟨rfl,rfl⟩
     go_wp2_with fail
     refine(zb7 x _ r1 d3).mono ?_
     rintro e w5 ⟨rfl,rfl⟩
     go_upto_region 17 with fail
     rw[q9w x r1 d3]
     obtain⟨m,U⟩:0≤qyy x∧qyy x<4294967296:=qby ..
     generalize qyy x=p at m U C ⊢
     go_wp2_with fail
     refine(qeu y 17 _ d4 a7 (by decide) (by decide)).mono ?_
     rintro e w5 ⟨rfl,rfl⟩
     go_wp2_with fail
     refine(qeu y 19 _ d4 a7 (by decide) (by decide)).mono ?_
     rintro e w5 ⟨rfl,rfl⟩
     go_wp2_with fail
     refine(q9s y _ d4 a7).mono ?_
     rintro e w5 ⟨rfl,rfl⟩
     go_upto_region 18 with fail
     rw[q9x y d4 a7]
     obtain⟨q0,q1⟩:0≤sig1 y∧sig1 y<4294967296:=qby ..
     generalize sig1 y=q at q0 q1 C ⊢
     obtain⟨c0,c9,e6⟩:=qa HC
     clear HC
     have a4:IntKind.i64.wrap (j:Int)=(j:Int):=IntWalk.i64_in _ (by omega)
     have a8:IntKind.i64.wrap ((j:Int)+16-7)=(j:Int)+9:=by rw[IntWalk.i64_in _ (by omega)];omega
     have g6:(j:Int)<64:=by omega
     have o9:(j:Int)+9<64:=by omega
     have p2:(j:Int)+16<64:=by omega
     have p3:(0:Int)≤(j:Int)+9:=by omega
     have p4:(0:Int)≤(j:Int)+16:=by omega
     have c4:((j:Int)+9).toNat=j+9:=by omega
     have f0:((j:Int)+16).toNat=j+16:=by omega
     have c5:IntKind.u64.wrap (a+p)=a+p:=by rw[IntKind.wrap_u64];omega
     have c6:IntKind.u64.wrap (a+p+b)=a+p+b:=by rw[IntKind.wrap_u64];omega
     have d8:IntKind.u64.wrap (a+p+b+q)=a+p+b+q:=by rw[IntKind.wrap_u64];omega
     have l6:IntKind.u64.wrap ((a+p+b+q).tmod 4294967296)=(a+p+b+q)%4294967296:=by rw[Int.tmod_eq_emod_of_nonneg (by omega),IntKind.wrap_u64];omega
     have l7:(a+p+b+q).tmod 4294967296=(a+p+b+q)%4294967296:=Int.tmod_eq_emod_of_nonneg (by omega)
     go_wp2_with fail
     go_region_law (fail)
     all_goals
      have us:=D.set1 (j+16) (.int .u64 ((a+p+b+q)%4294967296))
      have a6:=qa C
      generalize wr.setCell ⟨A+2,j+16,none⟩ (.int .u64 ((a+p+b+q)%4294967296))=wS at *
      clear c5 c6 d8 a4 a8 l6 l7
      go_wp2
      go_roundw
      case rel=>exact⟨j+1,by first | (rw[show ((j+1:Nat):Int)+16=(j:Int)+16+1 by omega];done) | (simp;omega),by omega,(a6:qba .u64 wS _ _),us.drew⟩
      case measure=>simp[intOf];omega
    ·obtain rfl:j=48:=by omega
     rw[show ((48:Nat):Int)+16=64 from rfl]
     have d5:=j9.upd D (by omega)
     have e1:=k8.upd D (by omega)
     have u3:=u0.trans D
     have o6:=D.size
     clear j9 k8 u0 D
     have m5:=qdq s 48
     have j7:=qho s 48
     have nn:=nA.then u3 (by intro q hq h;rw[qa d6] at hq;omega)
     obtain⟨w3,rfl⟩:∃w3:World,w3=wr:=⟨_,rfl⟩
     generalize j6:qau s 48=ws at P m5 j7
     have g3:=qb j6
     clear j6 u3
     go_upto_region 19 with fail
     refine wp_region_lit ?_
     refine qdr rfl (f:=106) (args:=#[]) (w':=w3) (by kernel_rfl) ?_
     refine(zfl w3).mono ?_
     rintro e w4 ⟨rfl,n4⟩
     refine⟨_,rfl,?_⟩
     refine zc rfl (v:= .pointer (some ⟨w4.heap.size,0,none⟩)) (w':=w4.alloc (.cells z64 174)) (by kernel_rfl) ?_
     have n5:qy w4 (w4.alloc (.cells z64 174)):=(Upd.refl _ _).alloc _
     have d9:(w4.alloc (.cells z64 174)).heap[w4.heap.size]? = some (.cells z64 174 (0,0)):=qi _ _
     generalize w4.alloc (.cells z64 174)=w5 at n5 d9 ⊢
     refine wpList_store_row rfl _ _ _ rfl w4.heap.size qo4 rfl rfl 174 _ d9 (by kernel_rfl) (by kernel_rfl) (by kernel_rfl) ?_
     have hK:(w5.setRow w4.heap.size qo4).heap[w4.heap.size]? = some (.cells qo4 174 (0,0)):=setRow_heap w5 w4.heap.size _ qo4 174 (0,0) d9
     have n6:qy w4 (w5.setRow w4.heap.size qo4):=n5.setRow (fun h=>by omega) _
     generalize w5.setRow w4.heap.size qo4=Z at hK n6 ⊢
     have j2:=n4.size
     have e3:w4.heap.size<Z.heap.size:=zw hK
     have f7:=n4.trans n6
     generalize w4.heap.size=B4 at hK j2 e3 ⊢
     clear n4 n5 n6 d9
     have vK:qba .u64 Z B4 qj5:=⟨_,hK⟩
     clear hK
     have n3:=d5.upd f7 (fun h=>h)
     obtain⟨l3,g7⟩:=n3
     go_upto_region 20 with fail
     refine wp_region_lit ?_
     refine wpList_load_row rfl _ _ rfl A rfl l3 _ _ _ g7 Tryz.underlying141 rfl (by exact Tryz.infoR8) ?_
     refine zc rfl (v:= .pointer (some ⟨Z.heap.size,0,none⟩)) (w':=Z.alloc (.cells #[.int .u64 0,.int .u64 0,.int .u64 0,.int .u64 0,.int .u64 0,.int .u64 0,.int .u64 0,.int .u64 0] 141)) (by kernel_rfl) ?_
     have n7:qy Z (Z.alloc (.cells #[.int .u64 0,.int .u64 0,.int .u64 0,.int .u64 0,.int .u64 0,.int .u64 0,.int .u64 0,.int .u64 0] 141)):=(Upd.refl _ _).alloc _
     have b8:(Z.alloc (.cells #[.int .u64 0,.int .u64 0,.int .u64 0,.int .u64 0,.int .u64 0,.int .u64 0,.int .u64 0,.int .u64 0] 141)).heap[Z.heap.size]? = some (.cells #[.int .u64 0,.int .u64 0,.int .u64 0,.int .u64 0,.int .u64 0,.int .u64 0,.int .u64 0,.int .u64 0] 141 (0,0)):=qi _ _
     generalize Z.alloc (.cells #[.int .u64 0,.int .u64 0,.int .u64 0,.int .u64 0,.int .u64 0,.int .u64 0,.int .u64 0,.int .u64 0] 141)=w7 at n7 b8 ⊢
     refine wpList_store_row rfl _ _ _ rfl Z.heap.size ([H,E,F,I,J,K,L,M].map (Value.int .u64)).toArray rfl rfl 141 _ b8 (by exact Tryz.infoR8) rfl (by simp[Value.oneCell']) ?_
     have Y:(w7.setRow Z.heap.size ([H,E,F,I,J,K,L,M].map (Value.int .u64)).toArray).heap[Z.heap.size]? = some (.cells ([H,E,F,I,J,K,L,M].map (Value.int .u64)).toArray 141 (0,0)):=setRow_heap w7 Z.heap.size _ _ 141 (0,0) b8
     have n8:qy Z (w7.setRow Z.heap.size ([H,E,F,I,J,K,L,M].map (Value.int .u64)).toArray):=n7.setRow (fun h=>by omega) _
     generalize w7.setRow Z.heap.size ([H,E,F,I,J,K,L,M].map (Value.int .u64)).toArray=w8 at Y n8 ⊢
     have vV:qba .u64 w8 Z.heap.size [H,E,F,I,J,K,L,M]:=⟨_,Y⟩
     clear Y n7 b8 g7
     have d2:=f7.trans n8
     replace d5:=d5.upd d2 (fun h=>h)
     replace e1:=e1.upd d2 (fun h=>h)
     replace P:=P.upd d2 (fun h=>h)
     replace vK:=vK.upd n8 (fun h=>h)
     replace nn:=nn.trans d2
     have j4:=vV.lt
     generalize Z.heap.size=V at vV j4 e3 ⊢
     clear f7 n8 d2
     go_wp2_with fail
     go_loopw [16,17,18,19,20,21,22] (fun iv _ _ _ _ _ _ wr=>∃k:Nat,iv = .int .i64 (k:Int)∧k≤64∧qba .u64 wr V (qe1 ws [H,E,F,I,J,K,L,M] k)∧Upd (fun k=>k=V) w8 wr) (fun iv _ _ _ _ _ _ _=>64-(intOf iv).toNat)
     case atStart=>exact⟨0,rfl,by omega,by rw[ql1];exact vV,Upd.refl _ _⟩
     case round =>
      obtain⟨k,rfl,hk,Y,D⟩:=hrel
      by_cases o3:k<64
      ·have a5:=qmy ws [H,E,F,I,J,K,L,M] k ⟨rfl,hu⟩
       have t:=ql0 ws [H,E,F,I,J,K,L,M] k
       generalize hv:qe1 ws [H,E,F,I,J,K,L,M] k=v at Y a5 t
       clear hv
       obtain⟨h8,R⟩:=a5
       obtain⟨a,b,c,d,e,f,g,o,rfl⟩:=qb4 h8
       clear h8
       have HN:=qb t
       have v0:=Y.cell (i:=0) (by simp)
       have v1:=Y.cell (i:=1) (by simp)
       have v2:=Y.cell (i:=2) (by simp)
       have v3:=Y.cell (i:=3) (by simp)
       have v4:=Y.cell (i:=4) (by simp)
       have v5:=Y.cell (i:=5) (by simp)
       have v6:=Y.cell (i:=6) (by simp)
       have v7:=Y.cell (i:=7) (by simp)
       simp at v0 v1 v2 v3 v4 v5 v6 v7
       have HV:=qb Y
       clear t Y
       have ix:wr.cell? ⟨A+2,k,none⟩=some (.int .u64 (wd ws k)):=(P.upd D (by omega)).cell (by omega)
       have tk:wr.cell? ⟨B4,k,none⟩=some (.int .u64 (wd qj5 k)):=(vK.upd D (by omega)).cell (by rw[show qj5.length=64 from rfl];omega)
       obtain⟨t0,m9⟩:=qxw.at k
       obtain⟨x0,o2⟩:=j7.at k
       generalize h9:wd qj5 k=kk at tk t0 m9
       generalize i5:wd ws k=wk at ix x0 o2
       have b0:=R a (by simp)
       have b1:=R b (by simp)
       have b2:=R c (by simp)
       have b3:=R d (by simp)
       have b4:=R e (by simp)
       have b5:=R f (by simp)
       have b6:=R g (by simp)
       have b7:=R o (by simp)
       obtain⟨c2,c3⟩:=b4
       have BB:=qb (And.intro b0 (And.intro b1 (And.intro b2 (And.intro b3 (And.intro b5 (And.intro b6 b7))))))
       have m2:(k:Int)<64:=by omega
       clear R
       have i8:=zdz e f g c2 c3 b5.1 b5.2 b6.1 b6.2
       have j0:=zbs a b c b0.1 b0.2 b1.1 b1.2 b2.1 b2.2
       have f8:=qb i8
       have f9:=qb j0
       clear i8 j0 b1 b2 b3 b5 b6 b7 b0
       go_upto_region 28 with fail
       rw[qa f8,qa f9]
       clear v0 v1 v2 v3 v4 v5 v6 f8 f9
       obtain⟨T0,T1⟩:=qlh e [6,11,25]
       have f5:=qtz e 6 11 25 6 11 25 rfl rfl rfl c2 c3 (by decide) (by decide) (by decide)
       obtain⟨m,U⟩:0≤chI e f g∧chI e f g<4294967296:=qby ..
       obtain⟨m0,m1⟩:0≤q0y a b c∧q0y a b c<4294967296:=qby ..
       generalize i4:qb1 e [6,11,25]=te at T0 T1 f5
       generalize i1:chI e f g=p at m U ⊢
       generalize i0:q0y a b c=ma at m0 m1 ⊢
       have c8:q5c e f g o (qj5.getD k 0) (wd ws k)=(o+te+p+kk+wk)%4294967296:=by
        unfold q5c
        rw[i4,i1,i5,show qj5.getD k 0=kk from h9]
       clear h9 i5
       obtain⟨l,f1⟩:∃l:Int,l=(o+te+p+kk+wk)%4294967296:=⟨_,rfl⟩
       rw[←f1] at c8
       have g0:=qb c8
       clear c8
       have g1:=qb f5
       clear f5 i4 i1
       obtain⟨-,-,-,-,-,-,b8⟩:=qa BB
       have a4:IntKind.u64.wrap (o+te)=o+te:=by rw[IntKind.wrap_u64];omega
       have a8:IntKind.u64.wrap (o+te+p)=o+te+p:=by rw[IntKind.wrap_u64];omega
       have c4:IntKind.u64.wrap (o+te+p+kk)=o+te+p+kk:=by rw[IntKind.wrap_u64];omega
       have f0:IntKind.u64.wrap (o+te+p+kk+wk)=o+te+p+kk+wk:=by rw[IntKind.wrap_u64];omega
       have d8:(o+te+p+kk+wk).tmod 4294967296=l:=by rw[Int.tmod_eq_emod_of_nonneg (by omega),f1]
       have g6:IntKind.u64.wrap l=l:=by rw[IntKind.wrap_u64];omega
       have f4:0≤l∧l<4294967296:=by omega
       clear f1 b8
       have c5:(k:Int).toNat=k:=by omega
       have c6:IntKind.i64.wrap (k:Int)=(k:Int):=IntWalk.i64_in _ (by omega)
       refine qnd (by kernel_rfl) [[],[(0,130)],[],[(2,132)],[],[(4,134)],[(3,133),(5,135)],[],[(7,137)],[(6,136),(8,138)],[(1,131),(9,139)],[],[(10,140),(11,141)],[],[(13,143)],[(14,144)],[(12,142),(15,145)],[],[(17,147)],[(18,148)],[(16,146),(19,149)],[(20,150)],[(21,151)]] 200 rfl (by kernel_rfl) [(0,130),(1,131),(2,132),(3,133),(4,134),(5,135),(6,136),(7,137),(8,138),(9,139),(10,140),(11,141),(12,142),(13,143),(14,144),(15,145),(16,146),(17,147),(18,148),(19,149),(20,150),(21,151),(22,21)] (by kernel_rfl) [] (by kernel_rfl) [[(0,0)],[(0,0)],[(0,0)],[(0,0)],[(0,0)],[(0,0)],[(0,0)],[(0,0)],[(0,0)],[(0,0)],[(0,0)],[(0,0)],[(0,0)],[(0,0)],[(0,0)],[(0,0)],[(0,0)],[(0,0)],[(0,0)],[(0,0)],[(0,0)],[(0,0)],[(0,0)]] (by kernel_rfl)
        (QS wr) qbl (isV [.pointer (some ⟨V,7,none⟩),.int .u64 o,.int .u64 e,.int .u64 (qct e 6),.int .u64 e,.int .u64 (qct e 11),.int .u64 (bits .xor .u64 (qct e 6) (qct e 11)),.int .u64 e,.int .u64 (qct e 25),.int .u64 te,.int .u64 (o+te),.int .u64 p,.int .u64 (o+te+p),.int .i64 (k:Int),.pointer (some ⟨B4,k,none⟩),.int .u64 kk,.int .u64 (o+te+p+kk),.int .i64 (k:Int),.pointer (some ⟨A+2,k,none⟩),.int .u64 wk,.int .u64 (o+te+p+kk+wk),.int .u64 l,.int .u64 l])
        (⟨1,rfl⟩) (fun _=>qbl.all _ _) (fun _ _ _ _ _ _ _ _ _ h=>h) ?_ ?_
       ·refine .pure rfl (fun _=>qbl.all _ _) rfl ?_ <| .one rfl ?_ <| .pure rfl (fun _=>qbl.all _ _) rfl ?_ <| .one rfl ?_ <| .pure rfl (fun _=>qbl.all _ _) rfl ?_ <| .one rfl ?_ <| .pure rfl (fun _=>qbl.all _ _) rfl ?_ <| .pure rfl (fun _=>qbl.all _ _) rfl ?_ <| .one rfl ?_ <| .pure rfl (fun _=>qbl.all _ _) rfl ?_ <| .pure rfl (fun _=>qbl.all _ _) rfl ?_ <| .pure rfl (fun _=>qbl.all _ _) rfl ?_ <| .pure rfl (fun _=>qbl.all _ _) rfl ?_ <| .pure rfl (fun _=>qbl.all _ _) rfl ?_ <| .pure rfl (fun _=>qbl.all _ _) rfl ?_ <| .one rfl ?_ <| .pure rfl (fun _=>qbl.all _ _) rfl ?_ <| .pure rfl (fun _=>qbl.all _ _) rfl ?_ <| .pure rfl (fun _=>qbl.all _ _) rfl ?_ <| .one rfl ?_ <| .pure rfl (fun _=>qbl.all _ _) rfl ?_ <| .pure rfl (fun _=>qbl.all _ _) rfl ?_ <| .pure rfl (fun _=>qbl.all _ _) rfl ?_ <| .nil
        ·rintro ql w1 _
         unfold zk;simp only[putL];go_simp
         first | exact⟨rfl,rfl⟩ | rfl
        ·rintro ql w1 z ⟨m,-⟩
         replace z:Q wr w1:=z
         replace m:ql 0 = .pointer (some ⟨V,7,none⟩):=m
         have c:=Q.cell z v7
         unfold zk;simp only[putL];go_simp
         exact⟨qbl.all _ _,z,rfl⟩
        ·rintro ql w1 _
         unfold zk;simp only[putL];go_simp
         first | exact⟨rfl,rfl⟩ | rfl
        ·rintro ql w1 z ⟨m,-⟩
         replace z:Q wr w1:=z
         replace m:ql 2 = .int .u64 e:=m
         unfold zk;simp only[putL];go_simp
         refine(qeu e 6 w1 c2 c3 (by decide) (by decide)).mono ?_
         rintro e w2 ⟨rfl,rfl⟩
         exact⟨_,rfl,qbl.all _ _,z,rfl⟩
        ·rintro ql w1 _
         unfold zk;simp only[putL];go_simp
         first | exact⟨rfl,rfl⟩ | rfl
        ·rintro ql w1 z ⟨m,-⟩
         replace z:Q wr w1:=z
         replace m:ql 4 = .int .u64 e:=m
         unfold zk;simp only[putL];go_simp
         refine(qeu e 11 w1 c2 c3 (by decide) (by decide)).mono ?_
         rintro e w2 ⟨rfl,rfl⟩
         exact⟨_,rfl,qbl.all _ _,z,rfl⟩
        ·rintro ql w1 ⟨m,U,-⟩
         replace m:ql 3 = .int .u64 (qct e 6):=m
         replace U:ql 5 = .int .u64 (qct e 11):=U
         unfold zk;simp only[putL];go_simp
         first | exact⟨rfl,rfl⟩ | rfl
        ·rintro ql w1 _
         unfold zk;simp only[putL];go_simp
         first | exact⟨rfl,rfl⟩ | rfl
        ·rintro ql w1 z ⟨m,-⟩
         replace z:Q wr w1:=z
         replace m:ql 7 = .int .u64 e:=m
         unfold zk;simp only[putL];go_simp
         refine(qeu e 25 w1 c2 c3 (by decide) (by decide)).mono ?_
         rintro e w2 ⟨rfl,rfl⟩
         exact⟨_,rfl,qbl.all _ _,z,rfl⟩
        ·rintro ql w1 ⟨m,U,-⟩
         replace m:ql 6 = .int .u64 (bits .xor .u64 (qct e 6) (qct e 11)):=m
         replace U:ql 8 = .int .u64 (qct e 25):=U
         have ht:=qa g1
         unfold zk;simp only[putL];go_simp
         first | exact⟨rfl,rfl⟩ | rfl
        ·rintro ql w1 ⟨m,U,-⟩
         replace m:ql 1 = .int .u64 o:=m
         replace U:ql 9 = .int .u64 te:=U
         have ht:=a4
         unfold zk;simp only[putL];go_simp
         first | exact⟨rfl,rfl⟩ | rfl
        ·rintro ql w1 _
         unfold zk;simp only[putL];go_simp
         first | exact⟨rfl,rfl⟩ | rfl
        ·rintro ql w1 ⟨m,U,-⟩
         replace m:ql 10 = .int .u64 (o+te):=m
         replace U:ql 11 = .int .u64 p:=U
         have ht:=a8
         unfold zk;simp only[putL];go_simp
         first | exact⟨rfl,rfl⟩ | rfl
        ·rintro ql w1 _
         unfold zk;simp only[putL];go_simp
         first | exact⟨rfl,rfl⟩ | rfl
        ·rintro ql w1 ⟨m,-⟩
         replace m:ql 13 = .int .i64 (k:Int):=m
         have E:=c5
         have F:=c6
         unfold zk;simp only[putL];go_simp
         first | exact⟨rfl,rfl⟩ | rfl
        ·rintro ql w1 z ⟨m,-⟩
         replace z:Q wr w1:=z
         replace m:ql 14 = .pointer (some ⟨B4,k,none⟩):=m
         have c:=Q.cell z tk
         unfold zk;simp only[putL];go_simp
         exact⟨qbl.all _ _,z,rfl⟩
        ·rintro ql w1 ⟨m,U,-⟩
         replace m:ql 12 = .int .u64 (o+te+p):=m
         replace U:ql 15 = .int .u64 kk:=U
         have ht:=c4
         unfold zk;simp only[putL];go_simp
         first | exact⟨rfl,rfl⟩ | rfl
        ·rintro ql w1 _
         unfold zk;simp only[putL];go_simp
         first | exact⟨rfl,rfl⟩ | rfl
        ·rintro ql w1 ⟨m,-⟩
         replace m:ql 17 = .int .i64 (k:Int):=m
         have E:=c5
         have F:=c6
         unfold zk;simp only[putL];go_simp
         first | exact⟨rfl,rfl⟩ | rfl
        ·rintro ql w1 z ⟨m,-⟩
         replace z:Q wr w1:=z
         replace m:ql 18 = .pointer (some ⟨A+2,k,none⟩):=m
         have c:=Q.cell z ix
         unfold zk;simp only[putL];go_simp
         exact⟨qbl.all _ _,z,rfl⟩
        ·rintro ql w1 ⟨m,U,-⟩
         replace m:ql 16 = .int .u64 (o+te+p+kk):=m
         replace U:ql 19 = .int .u64 wk:=U
         have ht:=f0
         unfold zk;simp only[putL];go_simp
         first | exact⟨rfl,rfl⟩ | rfl
        ·rintro ql w1 ⟨m,-⟩
         replace m:ql 20 = .int .u64 (o+te+p+kk+wk):=m
         have ht:=d8
         unfold zk;simp only[putL];go_simp
         first | exact⟨rfl,rfl⟩ | rfl
        ·rintro ql w1 ⟨m,-⟩
         replace m:ql 21 = .int .u64 l:=m
         unfold zk;simp only[putL];go_simp
         first | exact⟨rfl,rfl⟩ | rfl
       ·intro ql w1 z hv
        have X:=hv 22 (by decide)
        replace X:ql 22 = .int .u64 l:=X
        clear hv
        replace z:Q wr w1:=z
        have T:=(qa HV).q z
        have u9:=D.then (z.upd (fun _=>False)) (fun _ _ h=>h.elim)
        simp only[putL,X];go_simp
        obtain⟨⟨a0,a9⟩,b1,b2,⟨d0,o8⟩,-⟩:=qa BB
        clear X HV v7 tk ix z a4 a8 c4 f0 c5 c6 d8 g6 BB g1 b1 b2
        obtain⟨wz,rfl⟩:∃wz:World,wz=w1:=⟨_,rfl⟩
        have e4:=qtz a 2 13 22 2 13 22 rfl rfl rfl a0 a9 (by decide) (by decide) (by decide)
        obtain⟨n1,n2⟩:=qlh a [2,13,22]
        generalize i3:qb1 a [2,13,22]=ta at e4 n1 n2
        have d1:zad a b c=(ta+ma)%4294967296:=by unfold zad;rw[i3,i0]
        obtain⟨two,f2⟩:∃two:Int,two=(ta+ma)%4294967296:=⟨_,rfl⟩
        rw[←f2] at d1
        have g2:=qb d1
        have k0:IntKind.u64.wrap (ta+ma)=ta+ma:=by rw[IntKind.wrap_u64];omega
        have k1:(ta+ma).tmod 4294967296=two:=by rw[Int.tmod_eq_emod_of_nonneg (by omega),f2]
        have k2:IntKind.u64.wrap two=two:=by rw[IntKind.wrap_u64];omega
        have f6:0≤two∧two<4294967296:=by omega
        obtain⟨o0,o1⟩:=f4
        obtain⟨t0,t1⟩:=f6
        have k3:IntKind.u64.wrap (l+two)=l+two:=by rw[IntKind.wrap_u64];omega
        have k4:(l+two).tmod 4294967296=(l+two)%4294967296:=Int.tmod_eq_emod_of_nonneg (by omega)
        have k5:IntKind.u64.wrap (d+l)=d+l:=by rw[IntKind.wrap_u64];omega
        have k6:(d+l).tmod 4294967296=(d+l)%4294967296:=Int.tmod_eq_emod_of_nonneg (by omega)
        clear d1 i3 i0 f2
        have v0:=T.cell (i:=0) (by simp)
        have v1:=T.cell (i:=1) (by simp)
        have v2:=T.cell (i:=2) (by simp)
        have v3:=T.cell (i:=3) (by simp)
        have v4:=T.cell (i:=4) (by simp)
        have v5:=T.cell (i:=5) (by simp)
        have v6:=T.cell (i:=6) (by simp)
        simp at v0 v1 v2 v3 v4 v5 v6
        have N:=T.stOk (r:=[(l+two)%4294967296,a,b,c,(d+l)%4294967296,e,f,g]) (n:=8) rfl rfl
        have i2:=qb (T.setAll (r:=[(l+two)%4294967296,a,b,c,(d+l)%4294967296,e,f,g]) rfl)
        simp only[List.map_cons,List.map_nil] at N i2
        have us:=qb (u9.trans ((Upd.refl (· = V) wz).setCells 0 [.int .u64 ((l+two)%4294967296),.int .u64 a,.int .u64 b,.int .u64 c,.int .u64 ((d+l)%4294967296),.int .u64 e,.int .u64 f,.int .u64 g]))
        clear T u9
        go_wp2_with fail
        refine(qeu a 2 _ a0 a9 (by decide) (by decide)).mono ?_
        rintro e w5 ⟨rfl,rfl⟩
        go_wp2_with fail
        refine(qeu a 13 _ a0 a9 (by decide) (by decide)).mono ?_
        rintro e w5 ⟨rfl,rfl⟩
        go_wp2_with fail
        refine(qeu a 22 _ a0 a9 (by decide) (by decide)).mono ?_
        rintro e w5 ⟨rfl,rfl⟩
        go_wp2_with fail
        have e0:qe1 ws [H,E,F,I,J,K,L,M] (k+1)=[(l+two)%4294967296,a,b,c,(d+l)%4294967296,e,f,g]:=by
         rw[qa HN]
         simp only[ql2]
         rw[qa g0,qa g2]
        clear k0 k1 k2 k3 k4 k5 k6 e4
        go_roundw
        case rel=>exact⟨k+1,by go_num,by omega,by rw[e0];exact qa i2,qa us⟩
        case measure=>simp[intOf];omega
      ·obtain rfl:k=64:=by omega
       rw[show ((64:Nat):Int)=64 from rfl]
       have o7:=D.size
       have k7:=d5.upd D (by omega)
       have k9:=e1.upd D (by omega)
       have j8:=nn.then D (by intro q hq h;rw[qa d6] at hq;omega)
       have j5:=qmy ws [H,E,F,I,J,K,L,M] 64 ⟨rfl,hu⟩
       have HR:=qb (show qe1 (qau s 48) [H,E,F,I,J,K,L,M] 64=qe1 ws [H,E,F,I,J,K,L,M] 64 by rw[qa g3])
       generalize qe1 ws [H,E,F,I,J,K,L,M] 64=v at Y j5 HR
       clear D d5 e1 vV vK P nn
       obtain⟨h8,R⟩:=j5
       obtain⟨w9,rfl⟩:∃w9:World,w9=wr:=⟨_,rfl⟩
       go_wp2_with fail
       go_loopw [23] (fun iv wr=>∃i:Nat,iv = .int .i64 (i:Int)∧i≤8∧qba .u64 wr A (qcd v [H,E,F,I,J,K,L,M] i)∧Upd (fun k=>k=A) w9 wr) (fun iv _=>8-(intOf iv).toNat)
       case atStart=>exact⟨0,rfl,by omega,by rw[qi2];exact k7,Upd.refl _ _⟩
       case round =>
        obtain⟨i,rfl,hi,hA,D⟩:=hrel
        by_cases o4:i<8
        ·have a5:=qgt v [H,E,F,I,J,K,L,M] i ⟨rfl,hu⟩
         have t:=qi1 v [H,E,F,I,J,K,L,M] i
         unfold qpt at t
         have c0:wr.cell? ⟨A,i,none⟩=some (.int .u64 (wd (qcd v [H,E,F,I,J,K,L,M] i) i)):=hA.cell (i:=i) (by omega)
         have z0:=hA.free i
         have c1:wr.cell? ⟨V,i,none⟩=some (.int .u64 (wd v i)):=(Y.upd D (by omega)).cell (i:=i) (by omega)
         obtain⟨a0,a9⟩:=a5.2.at i
         obtain⟨b0,l5⟩:=R.at i
         have N:=hA.set i ((wd (qcd v [H,E,F,I,J,K,L,M] i) i+wd v i)%4294967296)
         rw[←t] at N
         have C:=qb N
         clear N t a5 hA
         generalize wd (qcd v [H,E,F,I,J,K,L,M] i) i=x at c0 a0 a9 C
         generalize wd v i=y at c1 b0 l5 C
         have a4:IntKind.u64.wrap (x+y)=x+y:=by rw[IntKind.wrap_u64];omega
         have a8:(x+y).tmod 4294967296=(x+y)%4294967296:=Int.tmod_eq_emod_of_nonneg (by omega)
         have c4:IntKind.u64.wrap ((x+y)%4294967296)=(x+y)%4294967296:=by rw[IntKind.wrap_u64];omega
         have g5:(i:Int)<8:=by omega
         have d7:(i:Int).toNat=i:=by omega
         go_wp2_with fail
         go_region_law (fail)
         all_goals
          have us:=D.set1 i (.int .u64 ((x+y)%4294967296))
          have a6:=qa C
          generalize wr.setCell ⟨A,i,none⟩ (.int .u64 ((x+y)%4294967296))=wS at *
          clear a4 a8 c4
          go_wp2
          go_roundw
          case rel=>exact⟨i+1,by go_num,by omega,(a6:qba .u64 wS _ _),us.drew⟩
          case measure=>simp[intOf];omega
        ·obtain rfl:i=8:=by omega
         rw[show ((8:Nat):Int)=8 from rfl]
         have c7:qmb [H,E,F,I,J,K,L,M] s=qcd v [H,E,F,I,J,K,L,M] 8:=by unfold qmb;rw[qa HR]
         have a5:=qgt v [H,E,F,I,J,K,L,M] 8 ⟨rfl,hu⟩
         have n9:=k9.upd D (by omega)
         have m6:=j8.then D (by intro q hq h;rw[qa d6] at hq;omega)
         generalize hr:qcd v [H,E,F,I,J,K,L,M] 8=r at hA a5
         rw[hr] at c7
         clear hr HR k7 k9 D j8 Y g3
         obtain⟨r8,-⟩:=a5
         have HF:=qb c7
         clear c7
         obtain⟨l4,l8⟩:=hA
         obtain⟨e5,g9⟩:=n9
         go_upto_region 35 with fail
         refine wp_region_lit ?_
         refine wpList_load_row rfl _ _ rfl A rfl l4 _ _ _ l8 Tryz.underlying141 rfl (by rw[List.size_toArray,List.length_map,r8];exact Tryz.infoR8) ?_
         refine wpList_store_row rfl _ _ _ rfl (A+1) (r.map (Value.int .u64)).toArray rfl rfl e5 _ g9 (by rw[List.size_toArray,List.length_map,r8];exact Tryz.infoR8) (by simp[r8]) (by simp[Value.oneCell']) ?_
         have hF:=setRow_heap wr (A+1) _ (r.map (Value.int .u64)).toArray e5 (0,0) g9
         have nF:=m6.setRow (g:=A+1) (fun h=>by rw[qa d6] at h;omega) (r.map (Value.int .u64)).toArray
         generalize wr.setRow (A+1) (r.map (Value.int .u64)).toArray=wF at hF nF ⊢
         go_wp2_with fail
         refine bodyPost_ret (qj1 rfl _ _ (A+1) e5 _ _ _ rfl hF Tryz.underlying141 rfl (by rw[List.size_toArray,List.length_map,r8];exact Tryz.infoR8)) rfl ?_
         refine⟨?_,nF⟩
         rw[qa HF]
         rfl
end Go.Proofs.YtjpmomdechibmaaGreatDoor
