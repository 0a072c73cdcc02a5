/-
  The reference's Compress, walked.
-/
import Derived.Test.YtfmkdoachjgjbaaGreatDoorMeb
set_option maxRecDepth 100000
set_option maxHeartbeats 4000000
set_option linter.unusedVariables false
set_option linter.unusedSimpArgs false
namespace Go.Proofs.YtfmkdoachjgjbaaGreatDoor
open Go.RowKit
attribute [local go_sem ↓ high] qun qvr qox qph
attribute [local go_sem] zbv zce zat za4
theorem qpq(h:List Int)(s:ByteArray)(w:World)(hh:h.length=8)(hu:qep h)(hs:s.size=64) :
  Calls Tryz.prog 95 #[.agg (h.map (Value.int .u64)).toArray,.string s] w fun e w'=>e = .returned (.tuple #[.agg ((qks h s).map (Value.int .u64)).toArray,.bool true])∧qq w w':=by
 obtain⟨L,J,K,M,N,O,P,R,rfl⟩:=qb3 hh
 simp only[List.map_cons,List.map_nil]
 go_enter Tryz.func95,Tryz.ntmps95
 have m8:(s.size:Int)=64:=by omega
 go_upto_region 1 with fail
 obtain⟨T,c5⟩:∃T:World,T=(w.alloc (.cells #[.int .u64 L,.int .u64 J,.int .u64 K,.int .u64 M,.int .u64 N,.int .u64 O,.int .u64 P,.int .u64 R] 175)).alloc (.cells #[.int .u64 0,.int .u64 0,.int .u64 0,.int .u64 0,.int .u64 0,.int .u64 0,.int .u64 0,.int .u64 0] 175):=⟨_,rfl⟩
 have sA:T.heap.size=w.heap.size+2:=by rw[c5];simp
 have nA:qq w T:=by rw[c5];exact((Upd.refl _ _).alloc _).alloc _
 have vA:qbg .u64 T w.heap.size [L,J,K,M,N,O,P,R]:=by rw[c5];exact⟨_,qs (qj _ _) _⟩
 have vB:qbg .u64 T (w.heap.size+1) [0,0,0,0,0,0,0,0]:=by
  rw[c5];have:=qj (w.alloc (.cells #[.int .u64 L,.int .u64 J,.int .u64 K,.int .u64 M,.int .u64 N,.int .u64 O,.int .u64 P,.int .u64 R] 175)) (.cells #[.int .u64 0,.int .u64 0,.int .u64 0,.int .u64 0,.int .u64 0,.int .u64 0,.int .u64 0,.int .u64 0] 175);rw[World.size_alloc] at this;exact⟨_,this⟩
 rw[←c5]
 clear c5
 have HS:=qb hs
 clear hs
 go_upto_region 3 with fail
 clear m8
 refine wp_region_lit ?_
 refine zj rfl (v:= .agg z64) (w':=T) (by kernel_rfl) ?_
 refine zj rfl (v:= .pointer (some ⟨T.heap.size,0,none⟩)) (w':=T.alloc (.cells z64 220)) (by kernel_rfl) ?_
 have l6:qbg .u64 (T.alloc (.cells z64 220)) T.heap.size (List.replicate 64 0):=⟨_,qj _ _⟩
 have n0:qq T (T.alloc (.cells z64 220)):=(Upd.refl _ _).alloc _
 generalize T.alloc (.cells z64 220)=w1 at l6 n0 ⊢
 obtain⟨T1,f7⟩:=l6
 refine wpList_store_row rfl _ _ _ rfl T.heap.size z64 rfl rfl T1 _ f7 (by kernel_rfl) (by kernel_rfl) (by kernel_rfl) ?_
 have hF:(w1.setRow T.heap.size z64).heap[T.heap.size]? = some (.cells z64 T1 (0,0)):=setRow_heap w1 T.heap.size _ z64 T1 (0,0) f7
 have nF:qq T (w1.setRow T.heap.size z64):=n0.setRow (fun h=>by omega) _
 have vW:qbg .u64 (w1.setRow T.heap.size z64) T.heap.size (List.replicate 64 0):=⟨T1,hF⟩
 have j5:T.heap.size<(w1.setRow T.heap.size z64).heap.size:=zr hF
 generalize w1.setRow T.heap.size z64=wo at nF vW j5 ⊢
 clear hF n0 f7
 replace vA:=vA.upd nF (fun h=>h)
 replace vB:=vB.upd nF (fun h=>h)
 replace nA:=nA.trans nF
 clear nF
 generalize i1:w.heap.size=A at *
 rw[sA] at vW j5 ⊢
 clear sA
 have e0:=qb i1
 clear i1
 go_wp2_with fail
 go_loopw [7,8] (fun iv _ wr=>∃i:Nat,iv = .int .i64 (i:Int)∧i≤16∧qbg .u64 wr (A+2) (qbb s (4*i))∧Upd (fun k=>k=A+2) wo wr) (fun iv _ _=>16-(intOf iv).toNat)
 case atStart=>exact⟨0,rfl,by omega,vW,Upd.refl _ _⟩
 case round =>
  obtain⟨i,rfl,hi,U,I⟩:=hrel;obtain⟨wq,rfl⟩:∃wq:World,wq=wr:=⟨_,rfl⟩;by_cases m7:i<16
  ·have p9:(i:Int)<16:=by omega
   go_wp2_with fail
   go_loopw [8] (fun kv wr=>∃k:Nat,kv = .int .i64 (k:Int)∧k≤4∧qbg .u64 wr (A+2) (qbb s (4*i+k))∧Upd (fun k=>k=A+2) wo wr) (fun kv _=>4-(intOf kv).toNat)
   case atStart=>exact⟨0,rfl,by omega,U,I⟩
   case round =>
    obtain⟨k,rfl,hk,U,I⟩:=hrel;by_cases e6:k<4
    ·obtain⟨⟨x0,x1⟩,e4⟩:=qum s i k m7 e6;have c0:wr.cell? ⟨A+2,i,none⟩=some (.int .u64 (wd (qbb s (4*i+k)) i)):=U.cell (by rw[qgm];omega);have z0:=U.free i;have S:=U.set i (wd (qbb s (4*i+k)) i*256+bt s (4*i+k));rw[←e4] at S;have j7:=qa HS;have m5:∀W:World,(Instr.index 9 (.string s) (.int .i64 (4*(i:Int)+(k:Int)))).run Tryz.prog W = .ok (.int .u8 (bt s (4*i+k))) W:=fun W=>qej _ s _ _ (4*i+k) Tryz.underlying9 (by omega) (by omega) W
     obtain⟨j0,j1⟩:=qfj s (4*i+k);have H:=qb S;clear S e4 U j7;generalize wd (qbb s (4*i+k)) i=x at c0 x0 x1 H;generalize bt s (4*i+k)=y at m5 j0 j1 H;have m6:(k:Int)<4:=by omega
     have g9:(i:Int).toNat=i:=by omega
     have e1:IntKind.i64.wrap (4*(i:Int))=4*(i:Int):=IntWalk.i64_in _ (by omega);have f1:IntKind.i64.wrap (4*(i:Int)+(k:Int))=4*(i:Int)+(k:Int):=IntWalk.i64_in _ (by omega);have f2:IntKind.u64.wrap (x*256)=x*256:=by rw[IntKind.wrap_u64];omega
     have f3:IntKind.u64.wrap y=y:=by rw[IntKind.wrap_u64];omega
     have a7:IntKind.u64.wrap (x*256+y)=x*256+y:=by rw[IntKind.wrap_u64];omega
     have c2:(i:Int)<64:=by omega
     go_wp2_with fail;go_region_law (fail)
     all_goals
      have us:=I.set1 i (.int .u64 (x*256+y));have b8:=qa H;generalize wr.setCell ⟨A+2,i,none⟩ (.int .u64 (x*256+y))=wS at *
      clear e1 f1 f2 f3 a7;go_wp2;go_roundw
      case rel=>exact⟨k+1,by go_num,by omega,(b8:qbg .u64 wS _ _),us.drew⟩
      case measure=>simp[intOf];omega
    ·obtain rfl:k=4:=by omega
     rw[show ((4:Nat):Int)=4 from rfl];go_wp2;go_roundw
     case rel=>exact⟨i+1,by go_num,by omega,by rw[show 4*(i+1)=4*i+4 by omega];exact U,I⟩
     case measure=>simp[intOf];omega
  ·obtain rfl:i=16:=by omega
   rw[show ((16:Nat):Int)=16 from rfl];rw[show 4*16=64 from rfl] at U;have l0:=vA.upd I (by omega);have l4:=vB.upd I (by omega);have o9:=I.size;have u0:=I;clear vA vB vW I;go_wp2_with fail
   go_loopw [9,10,11,12,13] (fun iv _ _ _ _ wr=>∃j:Nat,iv = .int .i64 ((j:Int)+16)∧j≤48∧qbg .u64 wr (A+2) (qa0 s j)∧Upd (fun k=>k=A+2) wq wr) (fun iv _ _ _ _ _=>64-(intOf iv).toNat)
   case atStart=>exact⟨0,rfl,by omega,by rw[qfs];exact U,Upd.refl _ _⟩
   case round =>
    clear U;obtain⟨j,rfl,hj,U,I⟩:=hrel;by_cases e6:j<48
    ·have j3:=qdg s j;have hr:=qgp s j;have c1:wr.cell? ⟨A+2,j+1,none⟩=some (.int .u64 (wd (qa0 s j) (j+1))):=U.cell (by omega);have g8:wr.cell? ⟨A+2,j+14,none⟩=some (.int .u64 (wd (qa0 s j) (j+14))):=U.cell (by omega);have c0:wr.cell? ⟨A+2,j,none⟩=some (.int .u64 (wd (qa0 s j) j)):=U.cell (by omega);have c9:wr.cell? ⟨A+2,j+9,none⟩=some (.int .u64 (wd (qa0 s j) (j+9))):=U.cell (by omega);obtain⟨q2,f0⟩:∃v,wr.cell? ⟨A+2,j+16,none⟩=some v:=⟨_,U.cell (by omega)⟩;have q3:=U.free (j+16);obtain⟨r1,d7⟩:=hr.at (j+1);obtain⟨d8,b9⟩:=hr.at (j+14);obtain⟨r0,n2⟩:=hr.at j;obtain⟨r9,n3⟩:=hr.at (j+9);have E:=qfr s j;unfold qpa at E;have S:=U.set (j+16) ((wd (qa0 s j) j+qvn (wd (qa0 s j) (j+1))+wd (qa0 s j) (j+9)+qvo (wd (qa0 s j) (j+14)))%4294967296);rw[←E] at S;have H:=qb S;clear S E U hr j3;have g9:(j:Int)<48:=by omega
     have e1:IntKind.i64.wrap ((j:Int)+16-15)=(j:Int)+1:=by rw[IntWalk.i64_in _ (by omega)];omega
     have f1:IntKind.i64.wrap ((j:Int)+16-2)=(j:Int)+14:=by rw[IntWalk.i64_in _ (by omega)];omega
     have f2:((j:Int)+1).toNat=j+1:=by omega
     have f3:((j:Int)+14).toNat=j+14:=by omega
     generalize hx:wd (qa0 s j) (j+1)=x at c1 r1 d7 H;generalize hy:wd (qa0 s j) (j+14)=y at g8 d8 b9 H;generalize wd (qa0 s j) j=a at c0 r0 n2 H;generalize wd (qa0 s j) (j+9)=b at c9 r9 n3 H;clear hx hy;have HC:=qb (And.intro c0 (And.intro c9 f0));clear c0 c9 f0;go_upto_region 16 with fail;clear c1 g8 e1 f1 f2 f3;go_wp2_with fail;refine(qd1 x 7 _ r1 d7 (by decide) (by decide)).mono ?_;rintro e w5 ⟨rfl,rfl⟩;go_wp2_with fail;refine(qd1 x 18 _ r1 d7 (by decide) (by decide)).mono ?_;rintro e w5 ⟨rfl,rfl⟩;go_wp2_with fail;refine(q9x x _ r1 d7).mono ?_;rintro e w5 ⟨rfl,rfl⟩;go_upto_region 17 with fail;rw[q7l x r1 d7];obtain⟨z,Z⟩:0≤qvn x∧qvn x<4294967296:=qbz ..;generalize qvn x=p at z Z H ⊢;go_wp2_with fail;refine(qd1 y 17 _ d8 b9 (by decide) (by decide)).mono ?_;rintro e w5 ⟨rfl,rfl⟩;go_wp2_with fail;refine(qd1 y 19 _ d8 b9 (by decide) (by decide)).mono ?_;rintro e w5 ⟨rfl,rfl⟩;go_wp2_with fail;refine(q7k y _ d8 b9).mono ?_;rintro e w5 ⟨rfl,rfl⟩;go_upto_region 18 with fail;rw[q7m y d8 b9];obtain⟨q0,q1⟩:0≤qvo y∧qvo y<4294967296:=qbz ..;generalize qvo y=q at q0 q1 H ⊢;obtain⟨c0,c9,f0⟩:=qa HC;clear HC;have a7:IntKind.i64.wrap (j:Int)=(j:Int):=IntWalk.i64_in _ (by omega);have c2:IntKind.i64.wrap ((j:Int)+16-7)=(j:Int)+9:=by rw[IntWalk.i64_in _ (by omega)];omega
     have h9:(j:Int)<64:=by omega
     have p5:(j:Int)+9<64:=by omega
     have p6:(j:Int)+16<64:=by omega
     have p7:(0:Int)≤(j:Int)+9:=by omega
     have p8:(0:Int)≤(j:Int)+16:=by omega
     have c8:((j:Int)+9).toNat=j+9:=by omega
     have f4:((j:Int)+16).toNat=j+16:=by omega
     have d1:IntKind.u64.wrap (a+p)=a+p:=by rw[IntKind.wrap_u64];omega
     have d2:IntKind.u64.wrap (a+p+b)=a+p+b:=by rw[IntKind.wrap_u64];omega
     have e2:IntKind.u64.wrap (a+p+b+q)=a+p+b+q:=by rw[IntKind.wrap_u64];omega
     have m2:IntKind.u64.wrap ((a+p+b+q).tmod 4294967296)=(a+p+b+q)%4294967296:=by rw[Int.tmod_eq_emod_of_nonneg (by omega),IntKind.wrap_u64];omega
     have m3:(a+p+b+q).tmod 4294967296=(a+p+b+q)%4294967296:=Int.tmod_eq_emod_of_nonneg (by omega);go_wp2_with fail;go_region_law (fail)
     all_goals
      have us:=I.set1 (j+16) (.int .u64 ((a+p+b+q)%4294967296));have b8:=qa H;generalize wr.setCell ⟨A+2,j+16,none⟩ (.int .u64 ((a+p+b+q)%4294967296))=wS at *
      clear d1 d2 e2 a7 c2 m2 m3;go_wp2;go_roundw
      case rel=>exact⟨j+1,by first | (rw[show ((j+1:Nat):Int)+16=(j:Int)+16+1 by omega];done) | (simp;omega),by omega,(b8:qbg .u64 wS _ _),us.drew⟩
      case measure=>simp[intOf];omega
    ·obtain rfl:j=48:=by omega
     rw[show ((48:Nat):Int)+16=64 from rfl];have d9:=l0.upd I (by omega);have e5:=l4.upd I (by omega);have u3:=u0.trans I;have p2:=I.size;clear l0 l4 u0 I;have m9:=qdg s 48;have k8:=qgp s 48;have nn:=nA.then u3 (by intro q hq h;rw[qa e0] at hq;omega);obtain⟨w3,rfl⟩:∃w3:World,w3=wr:=⟨_,rfl⟩;generalize k7:qa0 s 48=ws at U m9 k8;have g7:=qb k7;clear k7 u3;go_upto_region 19 with fail;refine wp_region_lit ?_;refine qdi rfl (f:=127) (args:=#[]) (w':=w3) (by kernel_rfl) ?_;refine(zc4 w3).mono ?_;rintro e w4 ⟨rfl,n4⟩;refine⟨_,rfl,?_⟩;refine zj rfl (v:= .pointer (some ⟨w4.heap.size,0,none⟩)) (w':=w4.alloc (.cells z64 220)) (by kernel_rfl) ?_;have n5:qq w4 (w4.alloc (.cells z64 220)):=(Upd.refl _ _).alloc _;have e3:(w4.alloc (.cells z64 220)).heap[w4.heap.size]? = some (.cells z64 220 (0,0)):=qj _ _;generalize w4.alloc (.cells z64 220)=w5 at n5 e3 ⊢;refine wpList_store_row rfl _ _ _ rfl w4.heap.size qnc rfl rfl 220 _ e3 (by kernel_rfl) (by kernel_rfl) (by kernel_rfl) ?_;have hK:(w5.setRow w4.heap.size qnc).heap[w4.heap.size]? = some (.cells qnc 220 (0,0)):=setRow_heap w5 w4.heap.size _ qnc 220 (0,0) e3;have n6:qq w4 (w5.setRow w4.heap.size qnc):=n5.setRow (fun h=>by omega) _;generalize w5.setRow w4.heap.size qnc=w6 at hK n6 ⊢;have j6:=n4.size;have e7:w4.heap.size<w6.heap.size:=zr hK;have g1:=n4.trans n6;generalize w4.heap.size=B4 at hK j6 e7 ⊢;clear n4 n5 n6 e3;have vK:qbg .u64 w6 B4 qip:=⟨_,hK⟩;clear hK;have o4:=d9.upd g1 (fun h=>h);obtain⟨l7,i0⟩:=o4
     go_upto_region 20 with fail;refine wp_region_lit ?_;refine wpList_load_row rfl _ _ rfl A rfl l7 _ _ _ i0 Tryz.underlying175 rfl (by exact Tryz.infoR8) ?_;refine zj rfl (v:= .pointer (some ⟨w6.heap.size,0,none⟩)) (w':=w6.alloc (.cells #[.int .u64 0,.int .u64 0,.int .u64 0,.int .u64 0,.int .u64 0,.int .u64 0,.int .u64 0,.int .u64 0] 175)) (by kernel_rfl) ?_;have n7:qq w6 (w6.alloc (.cells #[.int .u64 0,.int .u64 0,.int .u64 0,.int .u64 0,.int .u64 0,.int .u64 0,.int .u64 0,.int .u64 0] 175)):=(Upd.refl _ _).alloc _;have c4:(w6.alloc (.cells #[.int .u64 0,.int .u64 0,.int .u64 0,.int .u64 0,.int .u64 0,.int .u64 0,.int .u64 0,.int .u64 0] 175)).heap[w6.heap.size]? = some (.cells #[.int .u64 0,.int .u64 0,.int .u64 0,.int .u64 0,.int .u64 0,.int .u64 0,.int .u64 0,.int .u64 0] 175 (0,0)):=qj _ _;generalize w6.alloc (.cells #[.int .u64 0,.int .u64 0,.int .u64 0,.int .u64 0,.int .u64 0,.int .u64 0,.int .u64 0,.int .u64 0] 175)=w7 at n7 c4 ⊢;refine wpList_store_row rfl _ _ _ rfl w6.heap.size ([L,J,K,M,N,O,P,R].map (Value.int .u64)).toArray rfl rfl 175 _ c4 (by exact Tryz.infoR8) rfl (by simp[Value.oneCell']) ?_;have hV:(w7.setRow w6.heap.size ([L,J,K,M,N,O,P,R].map (Value.int .u64)).toArray).heap[w6.heap.size]? = some (.cells ([L,J,K,M,N,O,P,R].map (Value.int .u64)).toArray 175 (0,0)):=setRow_heap w7 w6.heap.size _ _ 175 (0,0) c4;have n8:qq w6 (w7.setRow w6.heap.size ([L,J,K,M,N,O,P,R].map (Value.int .u64)).toArray):=n7.setRow (fun h=>by omega) _
     generalize w7.setRow w6.heap.size ([L,J,K,M,N,O,P,R].map (Value.int .u64)).toArray=w8 at hV n8 ⊢;have vV:qbg .u64 w8 w6.heap.size [L,J,K,M,N,O,P,R]:=⟨_,hV⟩;clear hV n7 c4 i0;have d6:=g1.trans n8;replace d9:=d9.upd d6 (fun h=>h);replace e5:=e5.upd d6 (fun h=>h);replace U:=U.upd d6 (fun h=>h);replace vK:=vK.upd n8 (fun h=>h);replace nn:=nn.trans d6;have j8:=vV.lt;generalize w6.heap.size=V at vV j8 e7 ⊢;clear g1 n8 d6;go_wp2_with fail
     go_loopw [16,17,18,19,20,21,22] (fun iv _ _ _ _ _ _ wr=>∃k:Nat,iv = .int .i64 (k:Int)∧k≤64∧qbg .u64 wr V (qd7 ws [L,J,K,M,N,O,P,R] k)∧Upd (fun k=>k=V) w8 wr) (fun iv _ _ _ _ _ _ _=>64-(intOf iv).toNat)
     case atStart=>exact⟨0,rfl,by omega,by rw[qkg];exact vV,Upd.refl _ _⟩
     case round =>
      obtain⟨k,rfl,hk,hV,I⟩:=hrel;by_cases o7:k<64
      ·have a8:=qlc ws [L,J,K,M,N,O,P,R] k ⟨rfl,hu⟩;have E:=qkf ws [L,J,K,M,N,O,P,R] k;generalize hv:qd7 ws [L,J,K,M,N,O,P,R] k=v at hV a8 E;clear hv;obtain⟨h8,X⟩:=a8;obtain⟨a,b,c,d,e,f,g,C,rfl⟩:=qb3 h8;clear h8;have HN:=qb E;have v0:=hV.cell (i:=0) (by simp);have v1:=hV.cell (i:=1) (by simp);have v2:=hV.cell (i:=2) (by simp);have v3:=hV.cell (i:=3) (by simp);have v4:=hV.cell (i:=4) (by simp);have v5:=hV.cell (i:=5) (by simp);have v6:=hV.cell (i:=6) (by simp);have v7:=hV.cell (i:=7) (by simp);simp at v0 v1 v2 v3 v4 v5 v6 v7;have HV:=qb hV;clear E hV;have ix:wr.cell? ⟨A+2,k,none⟩=some (.int .u64 (wd ws k)):=(U.upd I (by omega)).cell (by omega);have tk:wr.cell? ⟨B4,k,none⟩=some (.int .u64 (wd qip k)):=(vK.upd I (by omega)).cell (by rw[show qip.length=64 from rfl];omega);obtain⟨t0,n9⟩:=quk.at k;obtain⟨x0,o6⟩:=k8.at k;generalize i3:wd qip k=kk at tk t0 n9;generalize i9:wd ws k=wk at ix x0 o6;have b0:=X a (by simp);have b1:=X b (by simp);have b2:=X c (by simp);have b3:=X d (by simp);have b4:=X e (by simp);have b5:=X f (by simp);have b6:=X g (by simp);have b7:=X C (by simp);obtain⟨c6,c7⟩:=b4;have BB:=qb (And.intro b0 (And.intro b1 (And.intro b2 (And.intro b3 (And.intro b5 (And.intro b6 b7))))));have m6:(k:Int)<64:=by omega
       clear X;have j2:=zbg e f g c6 c7 b5.1 b5.2 b6.1 b6.2;have j4:=q9h a b c b0.1 b0.2 b1.1 b1.2 b2.1 b2.2;have g2:=qb j2;have g3:=qb j4;clear j2 j4 b1 b2 b3 b5 b6 b7 b0;go_upto_region 28 with fail;rw[qa g2,qa g3];clear v0 v1 v2 v3 v4 v5 v6 g2 g3;obtain⟨T0,T1⟩:=qjx e [6,11,25];have f9:=qra e 6 11 25 6 11 25 rfl rfl rfl c6 c7 (by decide) (by decide) (by decide);obtain⟨z,Z⟩:0≤chI e f g∧chI e f g<4294967296:=qbz ..;obtain⟨m0,m1⟩:0≤qxt a b c∧qxt a b c<4294967296:=qbz ..;generalize i8:qb2 e [6,11,25]=te at T0 T1 f9;generalize i5:chI e f g=p at z Z ⊢;generalize i4:qxt a b c=ma at m0 m1 ⊢;have d4:q2d e f g C (qip.getD k 0) (wd ws k)=(C+te+p+kk+wk)%4294967296:=by
        unfold q2d;rw[i8,i5,i9,show qip.getD k 0=kk from i3]
       clear i3 i9;obtain⟨m,f5⟩:∃m:Int,m=(C+te+p+kk+wk)%4294967296:=⟨_,rfl⟩;rw[←f5] at d4;have g4:=qb d4;clear d4;have g5:=qb f9;clear f9 i8 i5;obtain⟨-,-,-,-,-,-,c4⟩:=qa BB;have a7:IntKind.u64.wrap (C+te)=C+te:=by rw[IntKind.wrap_u64];omega
       have c2:IntKind.u64.wrap (C+te+p)=C+te+p:=by rw[IntKind.wrap_u64];omega
       have c8:IntKind.u64.wrap (C+te+p+kk)=C+te+p+kk:=by rw[IntKind.wrap_u64];omega
       have f4:IntKind.u64.wrap (C+te+p+kk+wk)=C+te+p+kk+wk:=by rw[IntKind.wrap_u64];omega
       have e2:(C+te+p+kk+wk).tmod 4294967296=m:=by rw[Int.tmod_eq_emod_of_nonneg (by omega),f5]
       have h9:IntKind.u64.wrap m=m:=by rw[IntKind.wrap_u64];omega
       have f8:0≤m∧m<4294967296:=by omega
       clear f5 c4;have d1:(k:Int).toNat=k:=by omega
       have d2:IntKind.i64.wrap (k:Int)=(k:Int):=IntWalk.i64_in _ (by omega);refine qlq (by kernel_rfl) [[],[(0,130)],[],[(2,132)],[],[(4,134)],[(3,133),(5,135)],[],[(7,137)],[(6,136),(8,138)],[(1,131),(9,139)],[],[(10,140),(11,141)],[],[(13,143)],[(14,144)],[(12,142),(15,145)],[],[(17,147)],[(18,148)],[(16,146),(19,149)],[(20,150)],[(21,151)]] 200 rfl (by kernel_rfl) [(0,130),(1,131),(2,132),(3,133),(4,134),(5,135),(6,136),(7,137),(8,138),(9,139),(10,140),(11,141),(12,142),(13,143),(14,144),(15,145),(16,146),(17,147),(18,148),(19,149),(20,150),(21,151),(22,21)] (by kernel_rfl) [] (by kernel_rfl) [[(0,0)],[(0,0)],[(0,0)],[(0,0)],[(0,0)],[(0,0)],[(0,0)],[(0,0)],[(0,0)],[(0,0)],[(0,0)],[(0,0)],[(0,0)],[(0,0)],[(0,0)],[(0,0)],[(0,0)],[(0,0)],[(0,0)],[(0,0)],[(0,0)],[(0,0)],[(0,0)]] (by kernel_rfl)
        (QS wr) qbt (isV [.pointer (some ⟨V,7,none⟩),.int .u64 C,.int .u64 e,.int .u64 (qck e 6),.int .u64 e,.int .u64 (qck e 11),.int .u64 (bits .xor .u64 (qck e 6) (qck e 11)),.int .u64 e,.int .u64 (qck e 25),.int .u64 te,.int .u64 (C+te),.int .u64 p,.int .u64 (C+te+p),.int .i64 (k:Int),.pointer (some ⟨B4,k,none⟩),.int .u64 kk,.int .u64 (C+te+p+kk),.int .i64 (k:Int),.pointer (some ⟨A+2,k,none⟩),.int .u64 wk,.int .u64 (C+te+p+kk+wk),.int .u64 m,.int .u64 m])
        (⟨1,rfl⟩) (fun _=>qbt.all _ _) (fun _ _ _ _ _ _ _ _ _ h=>h) ?_ ?_
       ·refine .pure rfl (fun _=>qbt.all _ _) rfl ?_ <| .one rfl ?_ <| .pure rfl (fun _=>qbt.all _ _) rfl ?_ <| .one rfl ?_ <| .pure rfl (fun _=>qbt.all _ _) rfl ?_ <| .one rfl ?_ <| .pure rfl (fun _=>qbt.all _ _) rfl ?_ <| .pure rfl (fun _=>qbt.all _ _) rfl ?_ <| .one rfl ?_ <| .pure rfl (fun _=>qbt.all _ _) rfl ?_ <| .pure rfl (fun _=>qbt.all _ _) rfl ?_ <| .pure rfl (fun _=>qbt.all _ _) rfl ?_ <| .pure rfl (fun _=>qbt.all _ _) rfl ?_ <| .pure rfl (fun _=>qbt.all _ _) rfl ?_ <| .pure rfl (fun _=>qbt.all _ _) rfl ?_ <| .one rfl ?_ <| .pure rfl (fun _=>qbt.all _ _) rfl ?_ <| .pure rfl (fun _=>qbt.all _ _) rfl ?_ <| .pure rfl (fun _=>qbt.all _ _) rfl ?_ <| .one rfl ?_ <| .pure rfl (fun _=>qbt.all _ _) rfl ?_ <| .pure rfl (fun _=>qbt.all _ _) rfl ?_ <| .pure rfl (fun _=>qbt.all _ _) rfl ?_ <| .nil
        ·rintro ql w1 _;unfold zm;simp only[qaa];go_simp
         first | exact⟨rfl,rfl⟩ | rfl
        ·rintro ql w1 F ⟨z,-⟩;replace F:Q wr w1:=F;replace z:ql 0 = .pointer (some ⟨V,7,none⟩):=z;have c:=Q.cell F v7;unfold zm;simp only[qaa];go_simp;exact⟨qbt.all _ _,F,rfl⟩
        ·rintro ql w1 _;unfold zm;simp only[qaa];go_simp
         first | exact⟨rfl,rfl⟩ | rfl
        ·rintro ql w1 F ⟨z,-⟩;replace F:Q wr w1:=F;replace z:ql 2 = .int .u64 e:=z;unfold zm;simp only[qaa];go_simp;refine(qd1 e 6 w1 c6 c7 (by decide) (by decide)).mono ?_;rintro e w2 ⟨rfl,rfl⟩;exact⟨_,rfl,qbt.all _ _,F,rfl⟩
        ·rintro ql w1 _;unfold zm;simp only[qaa];go_simp
         first | exact⟨rfl,rfl⟩ | rfl
        ·rintro ql w1 F ⟨z,-⟩;replace F:Q wr w1:=F;replace z:ql 4 = .int .u64 e:=z;unfold zm;simp only[qaa];go_simp;refine(qd1 e 11 w1 c6 c7 (by decide) (by decide)).mono ?_;rintro e w2 ⟨rfl,rfl⟩;exact⟨_,rfl,qbt.all _ _,F,rfl⟩
        ·rintro ql w1 ⟨z,Z,-⟩;replace z:ql 3 = .int .u64 (qck e 6):=z;replace Z:ql 5 = .int .u64 (qck e 11):=Z;unfold zm;simp only[qaa];go_simp
         first | exact⟨rfl,rfl⟩ | rfl
        ·rintro ql w1 _;unfold zm;simp only[qaa];go_simp
         first | exact⟨rfl,rfl⟩ | rfl
        ·rintro ql w1 F ⟨z,-⟩;replace F:Q wr w1:=F;replace z:ql 7 = .int .u64 e:=z;unfold zm;simp only[qaa];go_simp;refine(qd1 e 25 w1 c6 c7 (by decide) (by decide)).mono ?_;rintro e w2 ⟨rfl,rfl⟩;exact⟨_,rfl,qbt.all _ _,F,rfl⟩
        ·rintro ql w1 ⟨z,Z,-⟩;replace z:ql 6 = .int .u64 (bits .xor .u64 (qck e 6) (qck e 11)):=z;replace Z:ql 8 = .int .u64 (qck e 25):=Z;have ht:=qa g5;unfold zm;simp only[qaa];go_simp
         first | exact⟨rfl,rfl⟩ | rfl
        ·rintro ql w1 ⟨z,Z,-⟩;replace z:ql 1 = .int .u64 C:=z;replace Z:ql 9 = .int .u64 te:=Z;have ht:=a7;unfold zm;simp only[qaa];go_simp
         first | exact⟨rfl,rfl⟩ | rfl
        ·rintro ql w1 _;unfold zm;simp only[qaa];go_simp
         first | exact⟨rfl,rfl⟩ | rfl
        ·rintro ql w1 ⟨z,Z,-⟩;replace z:ql 10 = .int .u64 (C+te):=z;replace Z:ql 11 = .int .u64 p:=Z;have ht:=c2;unfold zm;simp only[qaa];go_simp
         first | exact⟨rfl,rfl⟩ | rfl
        ·rintro ql w1 _;unfold zm;simp only[qaa];go_simp
         first | exact⟨rfl,rfl⟩ | rfl
        ·rintro ql w1 ⟨z,-⟩;replace z:ql 13 = .int .i64 (k:Int):=z;have J:=d1;have K:=d2;unfold zm;simp only[qaa];go_simp
         first | exact⟨rfl,rfl⟩ | rfl
        ·rintro ql w1 F ⟨z,-⟩;replace F:Q wr w1:=F;replace z:ql 14 = .pointer (some ⟨B4,k,none⟩):=z;have c:=Q.cell F tk;unfold zm;simp only[qaa];go_simp;exact⟨qbt.all _ _,F,rfl⟩
        ·rintro ql w1 ⟨z,Z,-⟩;replace z:ql 12 = .int .u64 (C+te+p):=z;replace Z:ql 15 = .int .u64 kk:=Z;have ht:=c8;unfold zm;simp only[qaa];go_simp
         first | exact⟨rfl,rfl⟩ | rfl
        ·rintro ql w1 _;unfold zm;simp only[qaa];go_simp
         first | exact⟨rfl,rfl⟩ | rfl
        ·rintro ql w1 ⟨z,-⟩;replace z:ql 17 = .int .i64 (k:Int):=z;have J:=d1;have K:=d2;unfold zm;simp only[qaa];go_simp
         first | exact⟨rfl,rfl⟩ | rfl
        ·rintro ql w1 F ⟨z,-⟩;replace F:Q wr w1:=F;replace z:ql 18 = .pointer (some ⟨A+2,k,none⟩):=z;have c:=Q.cell F ix;unfold zm;simp only[qaa];go_simp;exact⟨qbt.all _ _,F,rfl⟩
        ·rintro ql w1 ⟨z,Z,-⟩;replace z:ql 16 = .int .u64 (C+te+p+kk):=z;replace Z:ql 19 = .int .u64 wk:=Z;have ht:=f4;unfold zm;simp only[qaa];go_simp
         first | exact⟨rfl,rfl⟩ | rfl
        ·rintro ql w1 ⟨z,-⟩;replace z:ql 20 = .int .u64 (C+te+p+kk+wk):=z;have ht:=e2;unfold zm;simp only[qaa];go_simp
         first | exact⟨rfl,rfl⟩ | rfl
        ·rintro ql w1 ⟨z,-⟩;replace z:ql 21 = .int .u64 m:=z;unfold zm;simp only[qaa];go_simp
         first | exact⟨rfl,rfl⟩ | rfl
       ·intro ql w1 F hv;have a6:=hv 22 (by decide);replace a6:ql 22 = .int .u64 m:=a6;clear hv;replace F:Q wr w1:=F;have Y:=(qa HV).q F;have u9:=I.then (F.upd (fun _=>False)) (fun _ _ h=>h.elim);simp only[qaa,a6];go_simp;obtain⟨⟨a0,c3⟩,b1,b2,⟨d0,p4⟩,-⟩:=qa BB;clear a6 HV v7 tk ix F a7 c2 c8 f4 d1 d2 e2 h9 BB g5 b1 b2;obtain⟨wz,rfl⟩:∃wz:World,wz=w1:=⟨_,rfl⟩;have e8:=qra a 2 13 22 2 13 22 rfl rfl rfl a0 c3 (by decide) (by decide) (by decide);obtain⟨o2,o3⟩:=qjx a [2,13,22];generalize i7:qb2 a [2,13,22]=ta at e8 o2 o3;have d5:q70 a b c=(ta+ma)%4294967296:=by unfold q70;rw[i7,i4]
        obtain⟨two,f6⟩:∃two:Int,two=(ta+ma)%4294967296:=⟨_,rfl⟩;rw[←f6] at d5;have g6:=qb d5;have k0:IntKind.u64.wrap (ta+ma)=ta+ma:=by rw[IntKind.wrap_u64];omega
        have k1:(ta+ma).tmod 4294967296=two:=by rw[Int.tmod_eq_emod_of_nonneg (by omega),f6]
        have k2:IntKind.u64.wrap two=two:=by rw[IntKind.wrap_u64];omega
        have g0:0≤two∧two<4294967296:=by omega
        obtain⟨o0,o1⟩:=f8;obtain⟨t0,t1⟩:=g0;have k3:IntKind.u64.wrap (m+two)=m+two:=by rw[IntKind.wrap_u64];omega
        have k4:(m+two).tmod 4294967296=(m+two)%4294967296:=Int.tmod_eq_emod_of_nonneg (by omega);have k5:IntKind.u64.wrap (d+m)=d+m:=by rw[IntKind.wrap_u64];omega
        have k6:(d+m).tmod 4294967296=(d+m)%4294967296:=Int.tmod_eq_emod_of_nonneg (by omega);clear d5 i7 i4 f6;have v0:=Y.cell (i:=0) (by simp);have v1:=Y.cell (i:=1) (by simp);have v2:=Y.cell (i:=2) (by simp);have v3:=Y.cell (i:=3) (by simp);have v4:=Y.cell (i:=4) (by simp);have v5:=Y.cell (i:=5) (by simp);have v6:=Y.cell (i:=6) (by simp);simp at v0 v1 v2 v3 v4 v5 v6;have S:=Y.stOk (r:=[(m+two)%4294967296,a,b,c,(d+m)%4294967296,e,f,g]) (n:=8) rfl rfl;have i6:=qb (Y.setAll (r:=[(m+two)%4294967296,a,b,c,(d+m)%4294967296,e,f,g]) rfl);simp only[List.map_cons,List.map_nil] at S i6;have us:=qb (u9.trans ((Upd.refl (· = V) wz).setCells 0 [.int .u64 ((m+two)%4294967296),.int .u64 a,.int .u64 b,.int .u64 c,.int .u64 ((d+m)%4294967296),.int .u64 e,.int .u64 f,.int .u64 g]));clear Y u9;go_wp2_with fail;refine(qd1 a 2 _ a0 c3 (by decide) (by decide)).mono ?_;rintro e w5 ⟨rfl,rfl⟩;go_wp2_with fail;refine(qd1 a 13 _ a0 c3 (by decide) (by decide)).mono ?_;rintro e w5 ⟨rfl,rfl⟩;go_wp2_with fail;refine(qd1 a 22 _ a0 c3 (by decide) (by decide)).mono ?_;rintro e w5 ⟨rfl,rfl⟩;go_wp2_with fail;have e4:qd7 ws [L,J,K,M,N,O,P,R] (k+1)=[(m+two)%4294967296,a,b,c,(d+m)%4294967296,e,f,g]:=by
         rw[qa HN];simp only[qkh];rw[qa g4,qa g6]
        clear k0 k1 k2 k3 k4 k5 k6 e8;go_roundw
        case rel=>exact⟨k+1,by go_num,by omega,by rw[e4];exact qa i6,qa us⟩
        case measure=>simp[intOf];omega
      ·obtain rfl:k=64:=by omega
       rw[show ((64:Nat):Int)=64 from rfl];have p3:=I.size;have l3:=d9.upd I (by omega);have l5:=e5.upd I (by omega);have k9:=nn.then I (by intro q hq h;rw[qa e0] at hq;omega);have j9:=qlc ws [L,J,K,M,N,O,P,R] 64 ⟨rfl,hu⟩;have HR:=qb (show qd7 (qa0 s 48) [L,J,K,M,N,O,P,R] 64=qd7 ws [L,J,K,M,N,O,P,R] 64 by rw[qa g7]);generalize qd7 ws [L,J,K,M,N,O,P,R] 64=v at hV j9 HR;clear I d9 e5 vV vK U nn;obtain⟨h8,X⟩:=j9;obtain⟨w9,rfl⟩:∃w9:World,w9=wr:=⟨_,rfl⟩;go_wp2_with fail
       go_loopw [23] (fun iv wr=>∃i:Nat,iv = .int .i64 (i:Int)∧i≤8∧qbg .u64 wr A (qcc v [L,J,K,M,N,O,P,R] i)∧Upd (fun k=>k=A) w9 wr) (fun iv _=>8-(intOf iv).toNat)
       case atStart=>exact⟨0,rfl,by omega,by rw[qhs];exact l3,Upd.refl _ _⟩
       case round =>
        obtain⟨i,rfl,hi,hA,I⟩:=hrel;by_cases o8:i<8
        ·have a8:=qf0 v [L,J,K,M,N,O,P,R] i ⟨rfl,hu⟩;have E:=qhr v [L,J,K,M,N,O,P,R] i;unfold qn4 at E;have c0:wr.cell? ⟨A,i,none⟩=some (.int .u64 (wd (qcc v [L,J,K,M,N,O,P,R] i) i)):=hA.cell (i:=i) (by omega);have z0:=hA.free i;have c1:wr.cell? ⟨V,i,none⟩=some (.int .u64 (wd v i)):=(hV.upd I (by omega)).cell (i:=i) (by omega);obtain⟨a0,c3⟩:=a8.2.at i;obtain⟨b0,l9⟩:=X.at i;have S:=hA.set i ((wd (qcc v [L,J,K,M,N,O,P,R] i) i+wd v i)%4294967296);rw[←E] at S;have H:=qb S;clear S E a8 hA;generalize wd (qcc v [L,J,K,M,N,O,P,R] i) i=x at c0 a0 c3 H;generalize wd v i=y at c1 b0 l9 H;have a7:IntKind.u64.wrap (x+y)=x+y:=by rw[IntKind.wrap_u64];omega
         have c2:(x+y).tmod 4294967296=(x+y)%4294967296:=Int.tmod_eq_emod_of_nonneg (by omega);have c8:IntKind.u64.wrap ((x+y)%4294967296)=(x+y)%4294967296:=by rw[IntKind.wrap_u64];omega
         have g9:(i:Int)<8:=by omega
         have e1:(i:Int).toNat=i:=by omega
         go_wp2_with fail;go_region_law (fail)
         all_goals
          have us:=I.set1 i (.int .u64 ((x+y)%4294967296));have b8:=qa H;generalize wr.setCell ⟨A,i,none⟩ (.int .u64 ((x+y)%4294967296))=wS at *
          clear a7 c2 c8;go_wp2;go_roundw
          case rel=>exact⟨i+1,by go_num,by omega,(b8:qbg .u64 wS _ _),us.drew⟩
          case measure=>simp[intOf];omega
        ·obtain rfl:i=8:=by omega
         rw[show ((8:Nat):Int)=8 from rfl];have d3:qks [L,J,K,M,N,O,P,R] s=qcc v [L,J,K,M,N,O,P,R] 8:=by unfold qks;rw[qa HR]
         have a8:=qf0 v [L,J,K,M,N,O,P,R] 8 ⟨rfl,hu⟩;have o5:=l5.upd I (by omega);have n1:=k9.then I (by intro q hq h;rw[qa e0] at hq;omega);generalize hr:qcc v [L,J,K,M,N,O,P,R] 8=r at hA a8;rw[hr] at d3;clear hr HR l3 l5 I k9 hV g7;obtain⟨r8,-⟩:=a8;have HF:=qb d3;clear d3;obtain⟨l8,m4⟩:=hA;obtain⟨e9,i2⟩:=o5;go_upto_region 35 with fail;refine wp_region_lit ?_;refine wpList_load_row rfl _ _ rfl A rfl l8 _ _ _ m4 Tryz.underlying175 rfl (by rw[List.size_toArray,List.length_map,r8];exact Tryz.infoR8) ?_;refine wpList_store_row rfl _ _ _ rfl (A+1) (r.map (Value.int .u64)).toArray rfl rfl e9 _ i2 (by rw[List.size_toArray,List.length_map,r8];exact Tryz.infoR8) (by simp[r8]) (by simp[Value.oneCell']) ?_;have hF:=setRow_heap wr (A+1) _ (r.map (Value.int .u64)).toArray e9 (0,0) i2;have nF:=n1.setRow (g:=A+1) (fun h=>by rw[qa e0] at h;omega) (r.map (Value.int .u64)).toArray;generalize wr.setRow (A+1) (r.map (Value.int .u64)).toArray=wF at hF nF ⊢;go_wp2_with fail;refine bodyPost_ret (qik rfl _ _ (A+1) e9 _ _ _ rfl hF Tryz.underlying175 rfl (by rw[List.size_toArray,List.length_map,r8];exact Tryz.infoR8)) rfl ?_;refine⟨?_,nF⟩;rw[qa HF];rfl
end Go.Proofs.YtfmkdoachjgjbaaGreatDoor
