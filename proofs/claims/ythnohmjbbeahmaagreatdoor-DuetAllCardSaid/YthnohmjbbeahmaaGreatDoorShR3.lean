/-
  The reference's Compress, walked.
-/
import Derived.Test.YthnohmjbbeahmaaGreatDoorMcf
set_option linter.unusedVariables false
set_option linter.unusedSimpArgs false
namespace Go.Proofs.YthnohmjbbeahmaaGreatDoor
open Go.RowKit
attribute [local go_sem ↓ high] qzb q0j qr5 qsy
attribute [local go_sem] zg1 zho zfl zfx
set_option maxRecDepth 100000 in
set_option maxHeartbeats 4000000 in
theorem qs9(h:List Int)(s:ByteArray)(w:World)(hh:h.length=8)(hu:qf6 h)(hs:s.size=64) :
  Calls Tryz.prog 51 #[.agg (h.map (Value.int .u64)).toArray,.string s] w fun e w'=>e = .returned (.tuple #[.agg ((qm9 h s).map (Value.int .u64)).toArray,.bool true])∧qu w w':=by
 obtain⟨H,E,F,I,J,K,L,M,rfl⟩:=qcc hh
 simp only[List.map_cons,List.map_nil]
 go_enter Tryz.func51,Tryz.ntmps51
 have m6:(s.size:Int)=64:=by omega
 go_upto_region 1 with fail
 obtain⟨O,b8⟩:∃O:World,O=(w.alloc (.cells #[.int .u64 H,.int .u64 E,.int .u64 F,.int .u64 I,.int .u64 J,.int .u64 K,.int .u64 L,.int .u64 M] 113)).alloc (.cells #[.int .u64 0,.int .u64 0,.int .u64 0,.int .u64 0,.int .u64 0,.int .u64 0,.int .u64 0,.int .u64 0] 113):=⟨_,rfl⟩
 have sA:O.heap.size=w.heap.size+2:=by rw[b8];simp
 have nA:qu w O:=by rw[b8];exact((Upd.refl _ _).alloc _).alloc _
 have vA:qbd .u64 O w.heap.size [H,E,F,I,J,K,L,M]:=by rw[b8];exact⟨_,zj (qi _ _) _⟩
 have vB:qbd .u64 O (w.heap.size+1) [0,0,0,0,0,0,0,0]:=by
  rw[b8];have:=qi (w.alloc (.cells #[.int .u64 H,.int .u64 E,.int .u64 F,.int .u64 I,.int .u64 J,.int .u64 K,.int .u64 L,.int .u64 M] 113)) (.cells #[.int .u64 0,.int .u64 0,.int .u64 0,.int .u64 0,.int .u64 0,.int .u64 0,.int .u64 0,.int .u64 0] 113);rw[World.size_alloc] at this;exact⟨_,this⟩
 rw[←b8]
 clear b8
 have HS:=qb hs
 clear hs
 go_upto_region 3 with fail
 clear m6
 refine wp_region_lit ?_
 refine q8 rfl (v:= .agg z64) (w':=O) (by kernel_rfl) ?_
 refine q8 rfl (v:= .pointer (some ⟨O.heap.size,0,none⟩)) (w':=O.alloc (.cells z64 135)) (by kernel_rfl) ?_
 have l4:qbd .u64 (O.alloc (.cells z64 135)) O.heap.size (List.replicate 64 0):=⟨_,qi _ _⟩
 have n0:qu O (O.alloc (.cells z64 135)):=(Upd.refl _ _).alloc _
 generalize O.alloc (.cells z64 135)=w1 at l4 n0 ⊢
 obtain⟨T1,f2⟩:=l4
 refine wpList_store_row rfl _ _ _ rfl O.heap.size z64 rfl rfl T1 _ f2 (by kernel_rfl) (by kernel_rfl) (by kernel_rfl) ?_
 have hF:(w1.setRow O.heap.size z64).heap[O.heap.size]? = some (.cells z64 T1 (0,0)):=setRow_heap w1 O.heap.size _ z64 T1 (0,0) f2
 have nF:qu O (w1.setRow O.heap.size z64):=n0.setRow (fun h=>by omega) _
 have vW:qbd .u64 (w1.setRow O.heap.size z64) O.heap.size (List.replicate 64 0):=⟨T1,hF⟩
 have j2:O.heap.size<(w1.setRow O.heap.size z64).heap.size:=z6 hF
 generalize w1.setRow O.heap.size z64=wo at nF vW j2 ⊢
 clear hF n0 f2
 replace vA:=vA.upd nF (fun h=>h)
 replace vB:=vB.upd nF (fun h=>h)
 replace nA:=nA.trans nF
 clear nF
 generalize g7:w.heap.size=A at *
 rw[sA] at vW j2 ⊢
 clear sA
 have d5:=qb g7
 clear g7
 go_wp2_with fail
 go_loopw [7,8] (fun iv _ wr=>∃i:Nat,iv = .int .i64 (i:Int)∧i≤16∧qbd .u64 wr (A+2) (qba s (4*i))∧Upd (fun k=>k=A+2) wo wr) (fun iv _ _=>16-(intOf iv).toNat)
 case atStart=>exact⟨0,rfl,by omega,vW,Upd.refl _ _⟩
 case round =>
  obtain⟨i,rfl,hi,P,D⟩:=hrel;obtain⟨wq,rfl⟩:∃wq:World,wq=wr:=⟨_,rfl⟩;by_cases m5:i<16
  ·have p7:(i:Int)<16:=by omega
   go_wp2_with fail
   go_loopw [8] (fun kv wr=>∃k:Nat,kv = .int .i64 (k:Int)∧k≤4∧qbd .u64 wr (A+2) (qba s (4*i+k))∧Upd (fun k=>k=A+2) wo wr) (fun kv _=>4-(intOf kv).toNat)
   case atStart=>exact⟨0,rfl,by omega,P,D⟩
   case round =>
    obtain⟨k,rfl,hk,P,D⟩:=hrel;by_cases e1:k<4
    ·obtain⟨⟨x0,x1⟩,d9⟩:=qza s i k m5 e1;have c0:wr.cell? ⟨A+2,i,none⟩=some (.int .u64 (wd (qba s (4*i+k)) i)):=P.cell (by rw[qh4];omega);have z0:=P.free i;have N:=P.set i (wd (qba s (4*i+k)) i*256+bt s (4*i+k));rw[←d9] at N;have j4:=qa HS;have m3:∀W:World,(Instr.index 9 (.string s) (.int .i64 (4*(i:Int)+(k:Int)))).run Tryz.prog W = .ok (.int .u8 (bt s (4*i+k))) W:=fun W=>qn3 _ s _ _ (4*i+k) Tryz.underlying9 (by omega) (by omega) W
     obtain⟨i7,i8⟩:=qx7 s (4*i+k);have C:=qb N;clear N d9 P j4;generalize wd (qba s (4*i+k)) i=x at c0 x0 x1 C;generalize bt s (4*i+k)=y at m3 i7 i8 C;have m4:(k:Int)<4:=by omega
     have g4:(i:Int).toNat=i:=by omega
     have d6:IntKind.i64.wrap (4*(i:Int))=4*(i:Int):=IntWalk.i64_in _ (by omega);have e6:IntKind.i64.wrap (4*(i:Int)+(k:Int))=4*(i:Int)+(k:Int):=IntWalk.i64_in _ (by omega);have e7:IntKind.u64.wrap (x*256)=x*256:=by rw[IntKind.wrap_u64];omega
     have e8:IntKind.u64.wrap y=y:=by rw[IntKind.wrap_u64];omega
     have a4:IntKind.u64.wrap (x*256+y)=x*256+y:=by rw[IntKind.wrap_u64];omega
     have a7:(i:Int)<64:=by omega
     go_wp2_with fail;go_region_law (fail)
     all_goals
      have us:=D.set1 i (.int .u64 (x*256+y));have a5:=qa C;generalize wr.setCell ⟨A+2,i,none⟩ (.int .u64 (x*256+y))=wS at *
      clear d6 e6 e7 e8 a4;go_wp2;go_roundw
      case rel=>exact⟨k+1,by go_num,by omega,(a5:qbd .u64 wS _ _),us.drew⟩
      case measure=>simp[intOf];omega
    ·obtain rfl:k=4:=by omega
     rw[show ((4:Nat):Int)=4 from rfl];go_wp2;go_roundw
     case rel=>exact⟨i+1,by go_num,by omega,by rw[show 4*(i+1)=4*i+4 by omega];exact P,D⟩
     case measure=>simp[intOf];omega
  ·obtain rfl:i=16:=by omega
   rw[show ((16:Nat):Int)=16 from rfl];rw[show 4*16=64 from rfl] at P;have k7:=vA.upd D (by omega);have k9:=vB.upd D (by omega);have o7:=D.size;have u0:=D;clear vA vB vW D;go_wp2_with fail
   go_loopw [9,10,11,12,13] (fun iv _ _ _ _ wr=>∃j:Nat,iv = .int .i64 ((j:Int)+16)∧j≤48∧qbd .u64 wr (A+2) (qaz s j)∧Upd (fun k=>k=A+2) wq wr) (fun iv _ _ _ _ _=>64-(intOf iv).toNat)
   case atStart=>exact⟨0,rfl,by omega,by rw[qg4];exact P,Upd.refl _ _⟩
   case round =>
    clear P;obtain⟨j,rfl,hj,P,D⟩:=hrel;by_cases e1:j<48
    ·have j0:=qd6 s j;have hr:=qib s j;have c1:wr.cell? ⟨A+2,j+1,none⟩=some (.int .u64 (wd (qaz s j) (j+1))):=P.cell (by omega);have g3:wr.cell? ⟨A+2,j+14,none⟩=some (.int .u64 (wd (qaz s j) (j+14))):=P.cell (by omega);have c0:wr.cell? ⟨A+2,j,none⟩=some (.int .u64 (wd (qaz s j) j)):=P.cell (by omega);have c9:wr.cell? ⟨A+2,j+9,none⟩=some (.int .u64 (wd (qaz s j) (j+9))):=P.cell (by omega);obtain⟨p8,e5⟩:∃v,wr.cell? ⟨A+2,j+16,none⟩=some v:=⟨_,P.cell (by omega)⟩;have p9:=P.free (j+16);obtain⟨r1,d2⟩:=hr.at (j+1);obtain⟨d3,a6⟩:=hr.at (j+14);obtain⟨r0,m9⟩:=hr.at j;obtain⟨r9,n1⟩:=hr.at (j+9);have t:=qg3 s j;unfold qsu at t;have N:=P.set (j+16) ((wd (qaz s j) j+q0g (wd (qaz s j) (j+1))+wd (qaz s j) (j+9)+sig1 (wd (qaz s j) (j+14)))%4294967296);rw[←t] at N;have C:=qb N;clear N t P hr j0;have g4:(j:Int)<48:=by omega
     have d6:IntKind.i64.wrap ((j:Int)+16-15)=(j:Int)+1:=by rw[IntWalk.i64_in _ (by omega)];omega
     have e6:IntKind.i64.wrap ((j:Int)+16-2)=(j:Int)+14:=by rw[IntWalk.i64_in _ (by omega)];omega
     have e7:((j:Int)+1).toNat=j+1:=by omega
     have e8:((j:Int)+14).toNat=j+14:=by omega
     generalize hx:wd (qaz s j) (j+1)=x at c1 r1 d2 C;generalize hy:wd (qaz s j) (j+14)=y at g3 d3 a6 C;generalize wd (qaz s j) j=a at c0 r0 m9 C;generalize wd (qaz s j) (j+9)=b at c9 r9 n1 C;clear hx hy;have HC:=qb (And.intro c0 (And.intro c9 e5));clear c0 c9 e5;go_upto_region 16 with fail;clear c1 g3 d6 e6 e7 e8;go_wp2_with fail;refine(qfc x 7 _ r1 d2 (by decide) (by decide)).mono ?_;rintro e w5 ⟨rfl,rfl⟩;go_wp2_with fail;refine(qfc x 18 _ r1 d2 (by decide) (by decide)).mono ?_;rintro e w5 ⟨rfl,rfl⟩;go_wp2_with fail;refine(zem x _ r1 d2).mono ?_;rintro e w5 ⟨rfl,rfl⟩;go_upto_region 17 with fail;rw[zcc x r1 d2];obtain⟨m,U⟩:0≤q0g x∧q0g x<4294967296:=qb6 ..;generalize q0g x=p at m U C ⊢;go_wp2_with fail;refine(qfc y 17 _ d3 a6 (by decide) (by decide)).mono ?_;rintro e w5 ⟨rfl,rfl⟩;go_wp2_with fail;refine(qfc y 19 _ d3 a6 (by decide) (by decide)).mono ?_;rintro e w5 ⟨rfl,rfl⟩;go_wp2_with fail;refine(zb8 y _ d3 a6).mono ?_;rintro e w5 ⟨rfl,rfl⟩;go_upto_region 18 with fail;rw[zcd y d3 a6];obtain⟨q0,q1⟩:0≤sig1 y∧sig1 y<4294967296:=qb6 ..;generalize sig1 y=q at q0 q1 C ⊢;obtain⟨c0,c9,e5⟩:=qa HC;clear HC;have a4:IntKind.i64.wrap (j:Int)=(j:Int):=IntWalk.i64_in _ (by omega);have a7:IntKind.i64.wrap ((j:Int)+16-7)=(j:Int)+9:=by rw[IntWalk.i64_in _ (by omega)];omega
     have g5:(j:Int)<64:=by omega
     have p3:(j:Int)+9<64:=by omega
     have p4:(j:Int)+16<64:=by omega
     have p5:(0:Int)≤(j:Int)+9:=by omega
     have p6:(0:Int)≤(j:Int)+16:=by omega
     have c3:((j:Int)+9).toNat=j+9:=by omega
     have e9:((j:Int)+16).toNat=j+16:=by omega
     have c4:IntKind.u64.wrap (a+p)=a+p:=by rw[IntKind.wrap_u64];omega
     have c5:IntKind.u64.wrap (a+p+b)=a+p+b:=by rw[IntKind.wrap_u64];omega
     have d7:IntKind.u64.wrap (a+p+b+q)=a+p+b+q:=by rw[IntKind.wrap_u64];omega
     have l8:IntKind.u64.wrap ((a+p+b+q).tmod 4294967296)=(a+p+b+q)%4294967296:=by rw[Int.tmod_eq_emod_of_nonneg (by omega),IntKind.wrap_u64];omega
     have l9:(a+p+b+q).tmod 4294967296=(a+p+b+q)%4294967296:=Int.tmod_eq_emod_of_nonneg (by omega);go_wp2_with fail;go_region_law (fail)
     all_goals
      have us:=D.set1 (j+16) (.int .u64 ((a+p+b+q)%4294967296));have a5:=qa C;generalize wr.setCell ⟨A+2,j+16,none⟩ (.int .u64 ((a+p+b+q)%4294967296))=wS at *
      clear c4 c5 d7 a4 a7 l8 l9;go_wp2;go_roundw
      case rel=>exact⟨j+1,by first | (rw[show ((j+1:Nat):Int)+16=(j:Int)+16+1 by omega];done) | (simp;omega),by omega,(a5:qbd .u64 wS _ _),us.drew⟩
      case measure=>simp[intOf];omega
    ·obtain rfl:j=48:=by omega
     rw[show ((48:Nat):Int)+16=64 from rfl];have d4:=k7.upd D (by omega);have e0:=k9.upd D (by omega);have u3:=u0.trans D;have o8:=D.size;clear k7 k9 u0 D;have m7:=qd6 s 48;have j8:=qib s 48;have nn:=nA.then u3 (by intro q hq h;rw[qa d5] at hq;omega);obtain⟨w3,rfl⟩:∃w3:World,w3=wr:=⟨_,rfl⟩;generalize j7:qaz s 48=ws at P m7 j8;have g2:=qb j7;clear j7 u3;go_upto_region 19 with fail;refine wp_region_lit ?_;refine qd7 rfl (f:=67) (args:=#[]) (w':=w3) (by kernel_rfl) ?_;refine(zic w3).mono ?_;rintro e w4 ⟨rfl,n4⟩;refine⟨_,rfl,?_⟩;refine q8 rfl (v:= .pointer (some ⟨w4.heap.size,0,none⟩)) (w':=w4.alloc (.cells z64 135)) (by kernel_rfl) ?_;have n5:qu w4 (w4.alloc (.cells z64 135)):=(Upd.refl _ _).alloc _;have d8:(w4.alloc (.cells z64 135)).heap[w4.heap.size]? = some (.cells z64 135 (0,0)):=qi _ _;generalize w4.alloc (.cells z64 135)=w5 at n5 d8 ⊢;refine wpList_store_row rfl _ _ _ rfl w4.heap.size qp7 rfl rfl 135 _ d8 (by kernel_rfl) (by kernel_rfl) (by kernel_rfl) ?_;have hK:(w5.setRow w4.heap.size qp7).heap[w4.heap.size]? = some (.cells qp7 135 (0,0)):=setRow_heap w5 w4.heap.size _ qp7 135 (0,0) d8;have n6:qu w4 (w5.setRow w4.heap.size qp7):=n5.setRow (fun h=>by omega) _;generalize w5.setRow w4.heap.size qp7=Z at hK n6 ⊢;have j3:=n4.size;have e2:w4.heap.size<Z.heap.size:=z6 hK;have f6:=n4.trans n6;generalize w4.heap.size=B4 at hK j3 e2 ⊢;clear n4 n5 n6 d8;have vK:qbd .u64 Z B4 qkm:=⟨_,hK⟩;clear hK;have o2:=d4.upd f6 (fun h=>h);obtain⟨l5,g6⟩:=o2
     go_upto_region 20 with fail;refine wp_region_lit ?_;refine wpList_load_row rfl _ _ rfl A rfl l5 _ _ _ g6 Tryz.underlying113 rfl (by exact Tryz.infoR8) ?_;refine q8 rfl (v:= .pointer (some ⟨Z.heap.size,0,none⟩)) (w':=Z.alloc (.cells #[.int .u64 0,.int .u64 0,.int .u64 0,.int .u64 0,.int .u64 0,.int .u64 0,.int .u64 0,.int .u64 0] 113)) (by kernel_rfl) ?_;have n7:qu Z (Z.alloc (.cells #[.int .u64 0,.int .u64 0,.int .u64 0,.int .u64 0,.int .u64 0,.int .u64 0,.int .u64 0,.int .u64 0] 113)):=(Upd.refl _ _).alloc _;have a9:(Z.alloc (.cells #[.int .u64 0,.int .u64 0,.int .u64 0,.int .u64 0,.int .u64 0,.int .u64 0,.int .u64 0,.int .u64 0] 113)).heap[Z.heap.size]? = some (.cells #[.int .u64 0,.int .u64 0,.int .u64 0,.int .u64 0,.int .u64 0,.int .u64 0,.int .u64 0,.int .u64 0] 113 (0,0)):=qi _ _;generalize Z.alloc (.cells #[.int .u64 0,.int .u64 0,.int .u64 0,.int .u64 0,.int .u64 0,.int .u64 0,.int .u64 0,.int .u64 0] 113)=w7 at n7 a9 ⊢;refine wpList_store_row rfl _ _ _ rfl Z.heap.size ([H,E,F,I,J,K,L,M].map (Value.int .u64)).toArray rfl rfl 113 _ a9 (by exact Tryz.infoR8) rfl (by simp[Value.oneCell']) ?_;have Y:(w7.setRow Z.heap.size ([H,E,F,I,J,K,L,M].map (Value.int .u64)).toArray).heap[Z.heap.size]? = some (.cells ([H,E,F,I,J,K,L,M].map (Value.int .u64)).toArray 113 (0,0)):=setRow_heap w7 Z.heap.size _ _ 113 (0,0) a9;have n8:qu Z (w7.setRow Z.heap.size ([H,E,F,I,J,K,L,M].map (Value.int .u64)).toArray):=n7.setRow (fun h=>by omega) _;generalize w7.setRow Z.heap.size ([H,E,F,I,J,K,L,M].map (Value.int .u64)).toArray=w8 at Y n8 ⊢
     have vV:qbd .u64 w8 Z.heap.size [H,E,F,I,J,K,L,M]:=⟨_,Y⟩;clear Y n7 a9 g6;have d1:=f6.trans n8;replace d4:=d4.upd d1 (fun h=>h);replace e0:=e0.upd d1 (fun h=>h);replace P:=P.upd d1 (fun h=>h);replace vK:=vK.upd n8 (fun h=>h);replace nn:=nn.trans d1;have j5:=vV.lt;generalize Z.heap.size=V at vV j5 e2 ⊢;clear f6 n8 d1;go_wp2_with fail
     go_loopw [16,17,18,19,20,21,22] (fun iv _ _ _ _ _ _ wr=>∃k:Nat,iv = .int .i64 (k:Int)∧k≤64∧qbd .u64 wr V (qfl ws [H,E,F,I,J,K,L,M] k)∧Upd (fun k=>k=V) w8 wr) (fun iv _ _ _ _ _ _ _=>64-(intOf iv).toNat)
     case atStart=>exact⟨0,rfl,by omega,by rw[qmx];exact vV,Upd.refl _ _⟩
     case round =>
      obtain⟨k,rfl,hk,Y,D⟩:=hrel;by_cases o5:k<64
      ·have hok:=qn0 ws [H,E,F,I,J,K,L,M] k ⟨rfl,hu⟩;have t:=qmw ws [H,E,F,I,J,K,L,M] k;generalize hv:qfl ws [H,E,F,I,J,K,L,M] k=v at Y hok t;clear hv;obtain⟨h8,R⟩:=hok;obtain⟨a,b,c,d,e,f,g,o,rfl⟩:=qcc h8;clear h8;have HN:=qb t;have v0:=Y.cell (i:=0) (by simp);have v1:=Y.cell (i:=1) (by simp);have v2:=Y.cell (i:=2) (by simp);have v3:=Y.cell (i:=3) (by simp);have v4:=Y.cell (i:=4) (by simp);have v5:=Y.cell (i:=5) (by simp);have v6:=Y.cell (i:=6) (by simp);have v7:=Y.cell (i:=7) (by simp);simp at v0 v1 v2 v3 v4 v5 v6 v7;have HV:=qb Y;clear t Y;have ix:wr.cell? ⟨A+2,k,none⟩=some (.int .u64 (wd ws k)):=(P.upd D (by omega)).cell (by omega);have tk:wr.cell? ⟨B4,k,none⟩=some (.int .u64 (wd qkm k)):=(vK.upd D (by omega)).cell (by rw[show qkm.length=64 from rfl];omega);obtain⟨t0,n2⟩:=qy8.at k;obtain⟨x0,o4⟩:=j8.at k;generalize g9:wd qkm k=kk at tk t0 n2;generalize i6:wd ws k=wk at ix x0 o4;have b0:=R a (by simp);have b1:=R b (by simp);have b2:=R c (by simp);have b3:=R d (by simp);have b4:=R e (by simp);have b5:=R f (by simp);have b6:=R g (by simp);have b7:=R o (by simp);obtain⟨b9,c2⟩:=b4;have BB:=qb (And.intro b0 (And.intro b1 (And.intro b2 (And.intro b3 (And.intro b5 (And.intro b6 b7))))));have m4:(k:Int)<64:=by omega
       clear R;have i9:=zgi e f g b9 c2 b5.1 b5.2 b6.1 b6.2;have j1:=zd7 a b c b0.1 b0.2 b1.1 b1.2 b2.1 b2.2;have f7:=qb i9;have f8:=qb j1;clear i9 j1 b1 b2 b3 b5 b6 b7 b0;go_upto_region 28 with fail;rw[qa f7,qa f8];clear v0 v1 v2 v3 v4 v5 v6 f7 f8;obtain⟨T0,T1⟩:=ql8 e [6,11,25];have f4:=qu6 e 6 11 25 6 11 25 rfl rfl rfl b9 c2 (by decide) (by decide) (by decide);obtain⟨m,U⟩:0≤chI e f g∧chI e f g<4294967296:=qb6 ..;obtain⟨m0,m1⟩:0≤q2i a b c∧q2i a b c<4294967296:=qb6 ..;generalize i5:qca e [6,11,25]=te at T0 T1 f4;generalize i0:chI e f g=p at m U ⊢;generalize h9:q2i a b c=ma at m0 m1 ⊢;have c7:q7d e f g o (qkm.getD k 0) (wd ws k)=(o+te+p+kk+wk)%4294967296:=by
        unfold q7d;rw[i5,i0,i6,show qkm.getD k 0=kk from g9]
       clear g9 i6;obtain⟨l,f0⟩:∃l:Int,l=(o+te+p+kk+wk)%4294967296:=⟨_,rfl⟩;rw[←f0] at c7;have f9:=qb c7;clear c7;have g0:=qb f4;clear f4 i5 i0;obtain⟨-,-,-,-,-,-,a9⟩:=qa BB;have a4:IntKind.u64.wrap (o+te)=o+te:=by rw[IntKind.wrap_u64];omega
       have a7:IntKind.u64.wrap (o+te+p)=o+te+p:=by rw[IntKind.wrap_u64];omega
       have c3:IntKind.u64.wrap (o+te+p+kk)=o+te+p+kk:=by rw[IntKind.wrap_u64];omega
       have e9:IntKind.u64.wrap (o+te+p+kk+wk)=o+te+p+kk+wk:=by rw[IntKind.wrap_u64];omega
       have d7:(o+te+p+kk+wk).tmod 4294967296=l:=by rw[Int.tmod_eq_emod_of_nonneg (by omega),f0]
       have g5:IntKind.u64.wrap l=l:=by rw[IntKind.wrap_u64];omega
       have f3:0≤l∧l<4294967296:=by omega
       clear f0 a9;have c4:(k:Int).toNat=k:=by omega
       have c5:IntKind.i64.wrap (k:Int)=(k:Int):=IntWalk.i64_in _ (by omega);refine qoh (by kernel_rfl) [[],[(0,130)],[],[(2,132)],[],[(4,134)],[(3,133),(5,135)],[],[(7,137)],[(6,136),(8,138)],[(1,131),(9,139)],[],[(10,140),(11,141)],[],[(13,143)],[(14,144)],[(12,142),(15,145)],[],[(17,147)],[(18,148)],[(16,146),(19,149)],[(20,150)],[(21,151)]] 200 rfl (by kernel_rfl) [(0,130),(1,131),(2,132),(3,133),(4,134),(5,135),(6,136),(7,137),(8,138),(9,139),(10,140),(11,141),(12,142),(13,143),(14,144),(15,145),(16,146),(17,147),(18,148),(19,149),(20,150),(21,151),(22,21)] (by kernel_rfl) [] (by kernel_rfl) [[(0,0)],[(0,0)],[(0,0)],[(0,0)],[(0,0)],[(0,0)],[(0,0)],[(0,0)],[(0,0)],[(0,0)],[(0,0)],[(0,0)],[(0,0)],[(0,0)],[(0,0)],[(0,0)],[(0,0)],[(0,0)],[(0,0)],[(0,0)],[(0,0)],[(0,0)],[(0,0)]] (by kernel_rfl)
        (QS wr) qbs (isV [.pointer (some ⟨V,7,none⟩),.int .u64 o,.int .u64 e,.int .u64 (qcy e 6),.int .u64 e,.int .u64 (qcy e 11),.int .u64 (bits .xor .u64 (qcy e 6) (qcy e 11)),.int .u64 e,.int .u64 (qcy e 25),.int .u64 te,.int .u64 (o+te),.int .u64 p,.int .u64 (o+te+p),.int .i64 (k:Int),.pointer (some ⟨B4,k,none⟩),.int .u64 kk,.int .u64 (o+te+p+kk),.int .i64 (k:Int),.pointer (some ⟨A+2,k,none⟩),.int .u64 wk,.int .u64 (o+te+p+kk+wk),.int .u64 l,.int .u64 l])
        (⟨1,rfl⟩) (fun _=>qbs.all _ _) (fun _ _ _ _ _ _ _ _ _ h=>h) ?_ ?_
       ·refine .pure rfl (fun _=>qbs.all _ _) rfl ?_ <| .one rfl ?_ <| .pure rfl (fun _=>qbs.all _ _) rfl ?_ <| .one rfl ?_ <| .pure rfl (fun _=>qbs.all _ _) rfl ?_ <| .one rfl ?_ <| .pure rfl (fun _=>qbs.all _ _) rfl ?_ <| .pure rfl (fun _=>qbs.all _ _) rfl ?_ <| .one rfl ?_ <| .pure rfl (fun _=>qbs.all _ _) rfl ?_ <| .pure rfl (fun _=>qbs.all _ _) rfl ?_ <| .pure rfl (fun _=>qbs.all _ _) rfl ?_ <| .pure rfl (fun _=>qbs.all _ _) rfl ?_ <| .pure rfl (fun _=>qbs.all _ _) rfl ?_ <| .pure rfl (fun _=>qbs.all _ _) rfl ?_ <| .one rfl ?_ <| .pure rfl (fun _=>qbs.all _ _) rfl ?_ <| .pure rfl (fun _=>qbs.all _ _) rfl ?_ <| .pure rfl (fun _=>qbs.all _ _) rfl ?_ <| .one rfl ?_ <| .pure rfl (fun _=>qbs.all _ _) rfl ?_ <| .pure rfl (fun _=>qbs.all _ _) rfl ?_ <| .pure rfl (fun _=>qbs.all _ _) rfl ?_ <| .nil
        ·rintro qk w1 _;unfold zi;simp only[putL];go_simp
         first | exact⟨rfl,rfl⟩ | rfl
        ·rintro qk w1 z ⟨m,-⟩;replace z:Q wr w1:=z;replace m:qk 0 = .pointer (some ⟨V,7,none⟩):=m;have c:=Q.cell z v7;unfold zi;simp only[putL];go_simp;exact⟨qbs.all _ _,z,rfl⟩
        ·rintro qk w1 _;unfold zi;simp only[putL];go_simp
         first | exact⟨rfl,rfl⟩ | rfl
        ·rintro qk w1 z ⟨m,-⟩;replace z:Q wr w1:=z;replace m:qk 2 = .int .u64 e:=m;unfold zi;simp only[putL];go_simp;refine(qfc e 6 w1 b9 c2 (by decide) (by decide)).mono ?_;rintro e w2 ⟨rfl,rfl⟩;exact⟨_,rfl,qbs.all _ _,z,rfl⟩
        ·rintro qk w1 _;unfold zi;simp only[putL];go_simp
         first | exact⟨rfl,rfl⟩ | rfl
        ·rintro qk w1 z ⟨m,-⟩;replace z:Q wr w1:=z;replace m:qk 4 = .int .u64 e:=m;unfold zi;simp only[putL];go_simp;refine(qfc e 11 w1 b9 c2 (by decide) (by decide)).mono ?_;rintro e w2 ⟨rfl,rfl⟩;exact⟨_,rfl,qbs.all _ _,z,rfl⟩
        ·rintro qk w1 ⟨m,U,-⟩;replace m:qk 3 = .int .u64 (qcy e 6):=m;replace U:qk 5 = .int .u64 (qcy e 11):=U;unfold zi;simp only[putL];go_simp
         first | exact⟨rfl,rfl⟩ | rfl
        ·rintro qk w1 _;unfold zi;simp only[putL];go_simp
         first | exact⟨rfl,rfl⟩ | rfl
        ·rintro qk w1 z ⟨m,-⟩;replace z:Q wr w1:=z;replace m:qk 7 = .int .u64 e:=m;unfold zi;simp only[putL];go_simp;refine(qfc e 25 w1 b9 c2 (by decide) (by decide)).mono ?_;rintro e w2 ⟨rfl,rfl⟩;exact⟨_,rfl,qbs.all _ _,z,rfl⟩
        ·rintro qk w1 ⟨m,U,-⟩;replace m:qk 6 = .int .u64 (bits .xor .u64 (qcy e 6) (qcy e 11)):=m;replace U:qk 8 = .int .u64 (qcy e 25):=U;have ht:=qa g0;unfold zi;simp only[putL];go_simp
         first | exact⟨rfl,rfl⟩ | rfl
        ·rintro qk w1 ⟨m,U,-⟩;replace m:qk 1 = .int .u64 o:=m;replace U:qk 9 = .int .u64 te:=U;have ht:=a4;unfold zi;simp only[putL];go_simp
         first | exact⟨rfl,rfl⟩ | rfl
        ·rintro qk w1 _;unfold zi;simp only[putL];go_simp
         first | exact⟨rfl,rfl⟩ | rfl
        ·rintro qk w1 ⟨m,U,-⟩;replace m:qk 10 = .int .u64 (o+te):=m;replace U:qk 11 = .int .u64 p:=U;have ht:=a7;unfold zi;simp only[putL];go_simp
         first | exact⟨rfl,rfl⟩ | rfl
        ·rintro qk w1 _;unfold zi;simp only[putL];go_simp
         first | exact⟨rfl,rfl⟩ | rfl
        ·rintro qk w1 ⟨m,-⟩;replace m:qk 13 = .int .i64 (k:Int):=m;have E:=c4;have F:=c5;unfold zi;simp only[putL];go_simp
         first | exact⟨rfl,rfl⟩ | rfl
        ·rintro qk w1 z ⟨m,-⟩;replace z:Q wr w1:=z;replace m:qk 14 = .pointer (some ⟨B4,k,none⟩):=m;have c:=Q.cell z tk;unfold zi;simp only[putL];go_simp;exact⟨qbs.all _ _,z,rfl⟩
        ·rintro qk w1 ⟨m,U,-⟩;replace m:qk 12 = .int .u64 (o+te+p):=m;replace U:qk 15 = .int .u64 kk:=U;have ht:=c3;unfold zi;simp only[putL];go_simp
         first | exact⟨rfl,rfl⟩ | rfl
        ·rintro qk w1 _;unfold zi;simp only[putL];go_simp
         first | exact⟨rfl,rfl⟩ | rfl
        ·rintro qk w1 ⟨m,-⟩;replace m:qk 17 = .int .i64 (k:Int):=m;have E:=c4;have F:=c5;unfold zi;simp only[putL];go_simp
         first | exact⟨rfl,rfl⟩ | rfl
        ·rintro qk w1 z ⟨m,-⟩;replace z:Q wr w1:=z;replace m:qk 18 = .pointer (some ⟨A+2,k,none⟩):=m;have c:=Q.cell z ix;unfold zi;simp only[putL];go_simp;exact⟨qbs.all _ _,z,rfl⟩
        ·rintro qk w1 ⟨m,U,-⟩;replace m:qk 16 = .int .u64 (o+te+p+kk):=m;replace U:qk 19 = .int .u64 wk:=U;have ht:=e9;unfold zi;simp only[putL];go_simp
         first | exact⟨rfl,rfl⟩ | rfl
        ·rintro qk w1 ⟨m,-⟩;replace m:qk 20 = .int .u64 (o+te+p+kk+wk):=m;have ht:=d7;unfold zi;simp only[putL];go_simp
         first | exact⟨rfl,rfl⟩ | rfl
        ·rintro qk w1 ⟨m,-⟩;replace m:qk 21 = .int .u64 l:=m;unfold zi;simp only[putL];go_simp
         first | exact⟨rfl,rfl⟩ | rfl
       ·intro qk w1 z hv;have X:=hv 22 (by decide);replace X:qk 22 = .int .u64 l:=X;clear hv;replace z:Q wr w1:=z;have T:=(qa HV).q z;have u9:=D.then (z.upd (fun _=>False)) (fun _ _ h=>h.elim);simp only[putL,X];go_simp;obtain⟨⟨a0,a8⟩,b1,b2,⟨d0,p2⟩,-⟩:=qa BB;clear X HV v7 tk ix z a4 a7 c3 e9 c4 c5 d7 g5 BB g0 b1 b2;obtain⟨wz,rfl⟩:∃wz:World,wz=w1:=⟨_,rfl⟩;have e3:=qu6 a 2 13 22 2 13 22 rfl rfl rfl a0 a8 (by decide) (by decide) (by decide);obtain⟨n3,n9⟩:=ql8 a [2,13,22];generalize i4:qca a [2,13,22]=ta at e3 n3 n9;have c8:zcu a b c=(ta+ma)%4294967296:=by unfold zcu;rw[i4,h9]
        obtain⟨two,f1⟩:∃two:Int,two=(ta+ma)%4294967296:=⟨_,rfl⟩;rw[←f1] at c8;have g1:=qb c8;have k0:IntKind.u64.wrap (ta+ma)=ta+ma:=by rw[IntKind.wrap_u64];omega
        have k1:(ta+ma).tmod 4294967296=two:=by rw[Int.tmod_eq_emod_of_nonneg (by omega),f1]
        have k2:IntKind.u64.wrap two=two:=by rw[IntKind.wrap_u64];omega
        have f5:0≤two∧two<4294967296:=by omega
        obtain⟨o0,o1⟩:=f3;obtain⟨t0,t1⟩:=f5;have k3:IntKind.u64.wrap (l+two)=l+two:=by rw[IntKind.wrap_u64];omega
        have k4:(l+two).tmod 4294967296=(l+two)%4294967296:=Int.tmod_eq_emod_of_nonneg (by omega);have k5:IntKind.u64.wrap (d+l)=d+l:=by rw[IntKind.wrap_u64];omega
        have k6:(d+l).tmod 4294967296=(d+l)%4294967296:=Int.tmod_eq_emod_of_nonneg (by omega);clear c8 i4 h9 f1;have v0:=T.cell (i:=0) (by simp);have v1:=T.cell (i:=1) (by simp);have v2:=T.cell (i:=2) (by simp);have v3:=T.cell (i:=3) (by simp);have v4:=T.cell (i:=4) (by simp);have v5:=T.cell (i:=5) (by simp);have v6:=T.cell (i:=6) (by simp);simp at v0 v1 v2 v3 v4 v5 v6;have N:=T.stOk (r:=[(l+two)%4294967296,a,b,c,(d+l)%4294967296,e,f,g]) (n:=8) rfl rfl;have i3:=qb (T.setAll (r:=[(l+two)%4294967296,a,b,c,(d+l)%4294967296,e,f,g]) rfl);simp only[List.map_cons,List.map_nil] at N i3;have us:=qb (u9.trans ((Upd.refl (· = V) wz).setCells 0 [.int .u64 ((l+two)%4294967296),.int .u64 a,.int .u64 b,.int .u64 c,.int .u64 ((d+l)%4294967296),.int .u64 e,.int .u64 f,.int .u64 g]));clear T u9;go_wp2_with fail;refine(qfc a 2 _ a0 a8 (by decide) (by decide)).mono ?_;rintro e w5 ⟨rfl,rfl⟩;go_wp2_with fail;refine(qfc a 13 _ a0 a8 (by decide) (by decide)).mono ?_;rintro e w5 ⟨rfl,rfl⟩;go_wp2_with fail;refine(qfc a 22 _ a0 a8 (by decide) (by decide)).mono ?_;rintro e w5 ⟨rfl,rfl⟩;go_wp2_with fail;have d9:qfl ws [H,E,F,I,J,K,L,M] (k+1)=[(l+two)%4294967296,a,b,c,(d+l)%4294967296,e,f,g]:=by
         rw[qa HN];simp only[qmy];rw[qa f9,qa g1]
        clear k0 k1 k2 k3 k4 k5 k6 e3;go_roundw
        case rel=>exact⟨k+1,by go_num,by omega,by rw[d9];exact qa i3,qa us⟩
        case measure=>simp[intOf];omega
      ·obtain rfl:k=64:=by omega
       rw[show ((64:Nat):Int)=64 from rfl];have o9:=D.size;have k8:=d4.upd D (by omega);have l3:=e0.upd D (by omega);have j9:=nn.then D (by intro q hq h;rw[qa d5] at hq;omega);have j6:=qn0 ws [H,E,F,I,J,K,L,M] 64 ⟨rfl,hu⟩;have HR:=qb (show qfl (qaz s 48) [H,E,F,I,J,K,L,M] 64=qfl ws [H,E,F,I,J,K,L,M] 64 by rw[qa g2]);generalize qfl ws [H,E,F,I,J,K,L,M] 64=v at Y j6 HR;clear D d4 e0 vV vK P nn;obtain⟨h8,R⟩:=j6;obtain⟨w9,rfl⟩:∃w9:World,w9=wr:=⟨_,rfl⟩;go_wp2_with fail
       go_loopw [23] (fun iv wr=>∃i:Nat,iv = .int .i64 (i:Int)∧i≤8∧qbd .u64 wr A (qck v [H,E,F,I,J,K,L,M] i)∧Upd (fun k=>k=A) w9 wr) (fun iv _=>8-(intOf iv).toNat)
       case atStart=>exact⟨0,rfl,by omega,by rw[qji];exact k8,Upd.refl _ _⟩
       case round =>
        obtain⟨i,rfl,hi,hA,D⟩:=hrel;by_cases o6:i<8
        ·have hok:=qhf v [H,E,F,I,J,K,L,M] i ⟨rfl,hu⟩;have t:=qjh v [H,E,F,I,J,K,L,M] i;unfold qqx at t;have c0:wr.cell? ⟨A,i,none⟩=some (.int .u64 (wd (qck v [H,E,F,I,J,K,L,M] i) i)):=hA.cell (i:=i) (by omega);have z0:=hA.free i;have c1:wr.cell? ⟨V,i,none⟩=some (.int .u64 (wd v i)):=(Y.upd D (by omega)).cell (i:=i) (by omega);obtain⟨a0,a8⟩:=hok.2.at i;obtain⟨b0,l7⟩:=R.at i;have N:=hA.set i ((wd (qck v [H,E,F,I,J,K,L,M] i) i+wd v i)%4294967296);rw[←t] at N;have C:=qb N;clear N t hok hA;generalize wd (qck v [H,E,F,I,J,K,L,M] i) i=x at c0 a0 a8 C;generalize wd v i=y at c1 b0 l7 C;have a4:IntKind.u64.wrap (x+y)=x+y:=by rw[IntKind.wrap_u64];omega
         have a7:(x+y).tmod 4294967296=(x+y)%4294967296:=Int.tmod_eq_emod_of_nonneg (by omega);have c3:IntKind.u64.wrap ((x+y)%4294967296)=(x+y)%4294967296:=by rw[IntKind.wrap_u64];omega
         have g4:(i:Int)<8:=by omega
         have d6:(i:Int).toNat=i:=by omega
         go_wp2_with fail;go_region_law (fail)
         all_goals
          have us:=D.set1 i (.int .u64 ((x+y)%4294967296));have a5:=qa C;generalize wr.setCell ⟨A,i,none⟩ (.int .u64 ((x+y)%4294967296))=wS at *
          clear a4 a7 c3;go_wp2;go_roundw
          case rel=>exact⟨i+1,by go_num,by omega,(a5:qbd .u64 wS _ _),us.drew⟩
          case measure=>simp[intOf];omega
        ·obtain rfl:i=8:=by omega
         rw[show ((8:Nat):Int)=8 from rfl];have c6:qm9 [H,E,F,I,J,K,L,M] s=qck v [H,E,F,I,J,K,L,M] 8:=by unfold qm9;rw[qa HR]
         have hok:=qhf v [H,E,F,I,J,K,L,M] 8 ⟨rfl,hu⟩;have o3:=l3.upd D (by omega);have m8:=j9.then D (by intro q hq h;rw[qa d5] at hq;omega);generalize hr:qck v [H,E,F,I,J,K,L,M] 8=r at hA hok;rw[hr] at c6;clear hr HR k8 l3 D j9 Y g2;obtain⟨r8,-⟩:=hok;have HF:=qb c6;clear c6;obtain⟨l6,m2⟩:=hA;obtain⟨e4,g8⟩:=o3;go_upto_region 35 with fail;refine wp_region_lit ?_;refine wpList_load_row rfl _ _ rfl A rfl l6 _ _ _ m2 Tryz.underlying113 rfl (by rw[List.size_toArray,List.length_map,r8];exact Tryz.infoR8) ?_;refine wpList_store_row rfl _ _ _ rfl (A+1) (r.map (Value.int .u64)).toArray rfl rfl e4 _ g8 (by rw[List.size_toArray,List.length_map,r8];exact Tryz.infoR8) (by simp[r8]) (by simp[Value.oneCell']) ?_;have hF:=setRow_heap wr (A+1) _ (r.map (Value.int .u64)).toArray e4 (0,0) g8;have nF:=m8.setRow (g:=A+1) (fun h=>by rw[qa d5] at h;omega) (r.map (Value.int .u64)).toArray;generalize wr.setRow (A+1) (r.map (Value.int .u64)).toArray=wF at hF nF ⊢;go_wp2_with fail;refine bodyPost_ret (qke rfl _ _ (A+1) e4 _ _ _ rfl hF Tryz.underlying113 rfl (by rw[List.size_toArray,List.length_map,r8];exact Tryz.infoR8)) rfl ?_;refine⟨?_,nF⟩;rw[qa HF];rfl
end Go.Proofs.YthnohmjbbeahmaaGreatDoor
