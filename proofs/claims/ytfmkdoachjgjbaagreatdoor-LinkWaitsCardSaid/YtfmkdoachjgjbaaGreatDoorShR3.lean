/-
  The reference's Compress, walked.
-/
import Derived.Test.YtfmkdoachjgjbaaGreatDoorMda
set_option maxRecDepth 100000
set_option maxHeartbeats 4000000
set_option linter.unusedVariables false
set_option linter.unusedSimpArgs false
namespace Go.Proofs.YtfmkdoachjgjbaaGreatDoor
open Go.RowKit
attribute [local go_sem ↓ high] quo qvq qot qpd
attribute [local go_sem] zcb zcv zba zbl
theorem qpm(h:List Int)(s:ByteArray)(w:World)(hh:h.length=8)(hu:qen h)(hs:s.size=64) :
  Calls Tryz.prog 95 #[.agg (h.map (Value.int .u64)).toArray,.string s] w fun e w'=>e = .returned (.tuple #[.agg ((qkq h s).map (Value.int .u64)).toArray,.bool true])∧qu w w':=by
 obtain⟨K,I,J,L,M,N,O,P,rfl⟩:=qb0 hh
 simp only[List.map_cons,List.map_nil]
 go_enter Tryz.func95,Tryz.ntmps95
 have m7:(s.size:Int)=64:=by omega
 go_upto_region 1 with fail
 obtain⟨S,c4⟩:∃S:World,S=(w.alloc (.cells #[.int .u64 K,.int .u64 I,.int .u64 J,.int .u64 L,.int .u64 M,.int .u64 N,.int .u64 O,.int .u64 P] 175)).alloc (.cells #[.int .u64 0,.int .u64 0,.int .u64 0,.int .u64 0,.int .u64 0,.int .u64 0,.int .u64 0,.int .u64 0] 175):=⟨_,rfl⟩
 have sA:S.heap.size=w.heap.size+2:=by rw[c4];simp
 have nA:qu w S:=by rw[c4];exact((Upd.refl _ _).alloc _).alloc _
 have vA:qbd .u64 S w.heap.size [K,I,J,L,M,N,O,P]:=by rw[c4];exact⟨_,qq (qh _ _) _⟩
 have vB:qbd .u64 S (w.heap.size+1) [0,0,0,0,0,0,0,0]:=by
  rw[c4];have:=qh (w.alloc (.cells #[.int .u64 K,.int .u64 I,.int .u64 J,.int .u64 L,.int .u64 M,.int .u64 N,.int .u64 O,.int .u64 P] 175)) (.cells #[.int .u64 0,.int .u64 0,.int .u64 0,.int .u64 0,.int .u64 0,.int .u64 0,.int .u64 0,.int .u64 0] 175);rw[World.size_alloc] at this;exact⟨_,this⟩
 rw[←c4]
 clear c4
 have HS:=qb hs
 clear hs
 go_upto_region 3 with fail
 clear m7
 refine wp_region_lit ?_
 refine zg rfl (v:= .agg z64) (w':=S) (by kernel_rfl) ?_
 refine zg rfl (v:= .pointer (some ⟨S.heap.size,0,none⟩)) (w':=S.alloc (.cells z64 220)) (by kernel_rfl) ?_
 have l5:qbd .u64 (S.alloc (.cells z64 220)) S.heap.size (List.replicate 64 0):=⟨_,qh _ _⟩
 have n0:qu S (S.alloc (.cells z64 220)):=(Upd.refl _ _).alloc _
 generalize S.alloc (.cells z64 220)=w1 at l5 n0 ⊢
 obtain⟨T1,f6⟩:=l5
 refine wpList_store_row rfl _ _ _ rfl S.heap.size z64 rfl rfl T1 _ f6 (by kernel_rfl) (by kernel_rfl) (by kernel_rfl) ?_
 have hF:(w1.setRow S.heap.size z64).heap[S.heap.size]? = some (.cells z64 T1 (0,0)):=setRow_heap w1 S.heap.size _ z64 T1 (0,0) f6
 have nF:qu S (w1.setRow S.heap.size z64):=n0.setRow (fun h=>by omega) _
 have vW:qbd .u64 (w1.setRow S.heap.size z64) S.heap.size (List.replicate 64 0):=⟨T1,hF⟩
 have j4:S.heap.size<(w1.setRow S.heap.size z64).heap.size:=zr hF
 generalize w1.setRow S.heap.size z64=wo at nF vW j4 ⊢
 clear hF n0 f6
 replace vA:=vA.upd nF (fun h=>h)
 replace vB:=vB.upd nF (fun h=>h)
 replace nA:=nA.trans nF
 clear nF
 generalize i0:w.heap.size=A at *
 rw[sA] at vW j4 ⊢
 clear sA
 have d9:=qb i0
 clear i0
 go_wp2_with fail
 go_loopw [7,8] (fun iv _ wr=>∃i:Nat,iv = .int .i64 (i:Int)∧i≤16∧qbd .u64 wr (A+2) (qa4 s (4*i))∧Upd (fun k=>k=A+2) wo wr) (fun iv _ _=>16-(intOf iv).toNat)
 case atStart=>exact⟨0,rfl,by omega,vW,Upd.refl _ _⟩
 case round =>
  obtain⟨i,rfl,hi,T,ur⟩:=hrel;obtain⟨wq,rfl⟩:∃wq:World,wq=wr:=⟨_,rfl⟩;by_cases m6:i<16
  ·have p8:(i:Int)<16:=by omega
   go_wp2_with fail
   go_loopw [8] (fun kv wr=>∃k:Nat,kv = .int .i64 (k:Int)∧k≤4∧qbd .u64 wr (A+2) (qa4 s (4*i+k))∧Upd (fun k=>k=A+2) wo wr) (fun kv _=>4-(intOf kv).toNat)
   case atStart=>exact⟨0,rfl,by omega,T,ur⟩
   case round =>
    obtain⟨k,rfl,hk,T,ur⟩:=hrel;by_cases e5:k<4
    ·obtain⟨⟨x0,x1⟩,e3⟩:=qun s i k m6 e5;have c0:wr.cell? ⟨A+2,i,none⟩=some (.int .u64 (wd (qa4 s (4*i+k)) i)):=T.cell (by rw[qgj];omega);have z0:=T.free i;have R:=T.set i (wd (qa4 s (4*i+k)) i*256+bt s (4*i+k));rw[←e3] at R;have j6:=qa HS;have m4:∀W:World,(Instr.index 9 (.string s) (.int .i64 (4*(i:Int)+(k:Int)))).run Tryz.prog W = .ok (.int .u8 (bt s (4*i+k))) W:=fun W=>qeh _ s _ _ (4*i+k) Tryz.underlying9 (by omega) (by omega) W
     obtain⟨i9,j0⟩:=qfe s (4*i+k);have H:=qb R;clear R e3 T j6;generalize wd (qa4 s (4*i+k)) i=x at c0 x0 x1 H;generalize bt s (4*i+k)=y at m4 i9 j0 H;have m5:(k:Int)<4:=by omega
     have g8:(i:Int).toNat=i:=by omega
     have e0:IntKind.i64.wrap (4*(i:Int))=4*(i:Int):=IntWalk.i64_in _ (by omega);have f0:IntKind.i64.wrap (4*(i:Int)+(k:Int))=4*(i:Int)+(k:Int):=IntWalk.i64_in _ (by omega);have f1:IntKind.u64.wrap (x*256)=x*256:=by rw[IntKind.wrap_u64];omega
     have f2:IntKind.u64.wrap y=y:=by rw[IntKind.wrap_u64];omega
     have a6:IntKind.u64.wrap (x*256+y)=x*256+y:=by rw[IntKind.wrap_u64];omega
     have b9:(i:Int)<64:=by omega
     go_wp2_with fail;go_region_law (fail)
     all_goals
      have us:=ur.set1 i (.int .u64 (x*256+y));have a8:=qa H;generalize wr.setCell ⟨A+2,i,none⟩ (.int .u64 (x*256+y))=wS at *
      clear e0 f0 f1 f2 a6;go_wp2;go_roundw
      case rel=>exact⟨k+1,by go_num,by omega,(a8:qbd .u64 wS _ _),us.drew⟩
      case measure=>simp[intOf];omega
    ·obtain rfl:k=4:=by omega
     rw[show ((4:Nat):Int)=4 from rfl];go_wp2;go_roundw
     case rel=>exact⟨i+1,by go_num,by omega,by rw[show 4*(i+1)=4*i+4 by omega];exact T,ur⟩
     case measure=>simp[intOf];omega
  ·obtain rfl:i=16:=by omega
   rw[show ((16:Nat):Int)=16 from rfl];rw[show 4*16=64 from rfl] at T;have k9:=vA.upd ur (by omega);have l3:=vB.upd ur (by omega);have o8:=ur.size;have u0:=ur;clear vA vB vW ur;go_wp2_with fail
   go_loopw [9,10,11,12,13] (fun iv _ _ _ _ wr=>∃j:Nat,iv = .int .i64 ((j:Int)+16)∧j≤48∧qbd .u64 wr (A+2) (qav s j)∧Upd (fun k=>k=A+2) wq wr) (fun iv _ _ _ _ _=>64-(intOf iv).toNat)
   case atStart=>exact⟨0,rfl,by omega,by rw[qfn];exact T,Upd.refl _ _⟩
   case round =>
    clear T;obtain⟨j,rfl,hj,T,ur⟩:=hrel;by_cases e5:j<48
    ·have j2:=qda s j;have hr:=qgm s j;have c1:wr.cell? ⟨A+2,j+1,none⟩=some (.int .u64 (wd (qav s j) (j+1))):=T.cell (by omega);have g7:wr.cell? ⟨A+2,j+14,none⟩=some (.int .u64 (wd (qav s j) (j+14))):=T.cell (by omega);have c0:wr.cell? ⟨A+2,j,none⟩=some (.int .u64 (wd (qav s j) j)):=T.cell (by omega);have c9:wr.cell? ⟨A+2,j+9,none⟩=some (.int .u64 (wd (qav s j) (j+9))):=T.cell (by omega);obtain⟨p9,e9⟩:∃v,wr.cell? ⟨A+2,j+16,none⟩=some v:=⟨_,T.cell (by omega)⟩;have q2:=T.free (j+16);obtain⟨r1,d6⟩:=hr.at (j+1);obtain⟨d7,b8⟩:=hr.at (j+14);obtain⟨r0,n1⟩:=hr.at j;obtain⟨r9,n2⟩:=hr.at (j+9);have E:=qfm s j;unfold qo4 at E;have R:=T.set (j+16) ((wd (qav s j) j+qvm (wd (qav s j) (j+1))+wd (qav s j) (j+9)+qvn (wd (qav s j) (j+14)))%4294967296);rw[←E] at R;have H:=qb R;clear R E T hr j2;have g8:(j:Int)<48:=by omega
     have e0:IntKind.i64.wrap ((j:Int)+16-15)=(j:Int)+1:=by rw[IntWalk.i64_in _ (by omega)];omega
     have f0:IntKind.i64.wrap ((j:Int)+16-2)=(j:Int)+14:=by rw[IntWalk.i64_in _ (by omega)];omega
     have f1:((j:Int)+1).toNat=j+1:=by omega
     have f2:((j:Int)+14).toNat=j+14:=by omega
     generalize hx:wd (qav s j) (j+1)=x at c1 r1 d6 H;generalize hy:wd (qav s j) (j+14)=y at g7 d7 b8 H;generalize wd (qav s j) j=a at c0 r0 n1 H;generalize wd (qav s j) (j+9)=b at c9 r9 n2 H;clear hx hy;have HC:=qb (And.intro c0 (And.intro c9 e9));clear c0 c9 e9;go_upto_region 16 with fail;clear c1 g7 e0 f0 f1 f2;go_wp2_with fail;refine(qd1 x 7 _ r1 d6 (by decide) (by decide)).mono ?_;rintro e w5 ⟨rfl,rfl⟩;go_wp2_with fail;refine(qd1 x 18 _ r1 d6 (by decide) (by decide)).mono ?_;rintro e w5 ⟨rfl,rfl⟩;go_wp2_with fail;refine(zac x _ r1 d6).mono ?_;rintro e w5 ⟨rfl,rfl⟩;go_upto_region 17 with fail;rw[q7y x r1 d6];obtain⟨z,Y⟩:0≤qvm x∧qvm x<4294967296:=qbv ..;generalize qvm x=p at z Y H ⊢;go_wp2_with fail;refine(qd1 y 17 _ d7 b8 (by decide) (by decide)).mono ?_;rintro e w5 ⟨rfl,rfl⟩;go_wp2_with fail;refine(qd1 y 19 _ d7 b8 (by decide) (by decide)).mono ?_;rintro e w5 ⟨rfl,rfl⟩;go_wp2_with fail;refine(q7w y _ d7 b8).mono ?_;rintro e w5 ⟨rfl,rfl⟩;go_upto_region 18 with fail;rw[q7z y d7 b8];obtain⟨q0,q1⟩:0≤qvn y∧qvn y<4294967296:=qbv ..;generalize qvn y=q at q0 q1 H ⊢;obtain⟨c0,c9,e9⟩:=qa HC;clear HC;have a6:IntKind.i64.wrap (j:Int)=(j:Int):=IntWalk.i64_in _ (by omega);have b9:IntKind.i64.wrap ((j:Int)+16-7)=(j:Int)+9:=by rw[IntWalk.i64_in _ (by omega)];omega
     have g9:(j:Int)<64:=by omega
     have p4:(j:Int)+9<64:=by omega
     have p5:(j:Int)+16<64:=by omega
     have p6:(0:Int)≤(j:Int)+9:=by omega
     have p7:(0:Int)≤(j:Int)+16:=by omega
     have c7:((j:Int)+9).toNat=j+9:=by omega
     have f3:((j:Int)+16).toNat=j+16:=by omega
     have c8:IntKind.u64.wrap (a+p)=a+p:=by rw[IntKind.wrap_u64];omega
     have d1:IntKind.u64.wrap (a+p+b)=a+p+b:=by rw[IntKind.wrap_u64];omega
     have e1:IntKind.u64.wrap (a+p+b+q)=a+p+b+q:=by rw[IntKind.wrap_u64];omega
     have l9:IntKind.u64.wrap ((a+p+b+q).tmod 4294967296)=(a+p+b+q)%4294967296:=by rw[Int.tmod_eq_emod_of_nonneg (by omega),IntKind.wrap_u64];omega
     have m2:(a+p+b+q).tmod 4294967296=(a+p+b+q)%4294967296:=Int.tmod_eq_emod_of_nonneg (by omega);go_wp2_with fail;go_region_law (fail)
     all_goals
      have us:=ur.set1 (j+16) (.int .u64 ((a+p+b+q)%4294967296));have a8:=qa H;generalize wr.setCell ⟨A+2,j+16,none⟩ (.int .u64 ((a+p+b+q)%4294967296))=wS at *
      clear c8 d1 e1 a6 b9 l9 m2;go_wp2;go_roundw
      case rel=>exact⟨j+1,by first | (rw[show ((j+1:Nat):Int)+16=(j:Int)+16+1 by omega];done) | (simp;omega),by omega,(a8:qbd .u64 wS _ _),us.drew⟩
      case measure=>simp[intOf];omega
    ·obtain rfl:j=48:=by omega
     rw[show ((48:Nat):Int)+16=64 from rfl];have d8:=k9.upd ur (by omega);have e4:=l3.upd ur (by omega);have u3:=u0.trans ur;have o9:=ur.size;clear k9 l3 u0 ur;have m8:=qda s 48;have k7:=qgm s 48;have nn:=nA.then u3 (by intro q hq h;rw[qa d9] at hq;omega);obtain⟨w3,rfl⟩:∃w3:World,w3=wr:=⟨_,rfl⟩;generalize j9:qav s 48=ws at T m8 k7;have g6:=qb j9;clear j9 u3;go_upto_region 19 with fail;refine wp_region_lit ?_;refine qdb rfl (f:=127) (args:=#[]) (w':=w3) (by kernel_rfl) ?_;refine(zdn w3).mono ?_;rintro e w4 ⟨rfl,n4⟩;refine⟨_,rfl,?_⟩;refine zg rfl (v:= .pointer (some ⟨w4.heap.size,0,none⟩)) (w':=w4.alloc (.cells z64 220)) (by kernel_rfl) ?_;have n5:qu w4 (w4.alloc (.cells z64 220)):=(Upd.refl _ _).alloc _;have e2:(w4.alloc (.cells z64 220)).heap[w4.heap.size]? = some (.cells z64 220 (0,0)):=qh _ _;generalize w4.alloc (.cells z64 220)=w5 at n5 e2 ⊢;refine wpList_store_row rfl _ _ _ rfl w4.heap.size qm3 rfl rfl 220 _ e2 (by kernel_rfl) (by kernel_rfl) (by kernel_rfl) ?_;have hK:(w5.setRow w4.heap.size qm3).heap[w4.heap.size]? = some (.cells qm3 220 (0,0)):=setRow_heap w5 w4.heap.size _ qm3 220 (0,0) e2;have n6:qu w4 (w5.setRow w4.heap.size qm3):=n5.setRow (fun h=>by omega) _;generalize w5.setRow w4.heap.size qm3=w6 at hK n6 ⊢;have j5:=n4.size;have e6:w4.heap.size<w6.heap.size:=zr hK;have g0:=n4.trans n6;generalize w4.heap.size=B4 at hK j5 e6 ⊢;clear n4 n5 n6 e2;have vK:qbd .u64 w6 B4 qil:=⟨_,hK⟩;clear hK;have o3:=d8.upd g0 (fun h=>h);obtain⟨l6,h9⟩:=o3
     go_upto_region 20 with fail;refine wp_region_lit ?_;refine wpList_load_row rfl _ _ rfl A rfl l6 _ _ _ h9 Tryz.underlying175 rfl (by exact Tryz.infoR8) ?_;refine zg rfl (v:= .pointer (some ⟨w6.heap.size,0,none⟩)) (w':=w6.alloc (.cells #[.int .u64 0,.int .u64 0,.int .u64 0,.int .u64 0,.int .u64 0,.int .u64 0,.int .u64 0,.int .u64 0] 175)) (by kernel_rfl) ?_;have n7:qu w6 (w6.alloc (.cells #[.int .u64 0,.int .u64 0,.int .u64 0,.int .u64 0,.int .u64 0,.int .u64 0,.int .u64 0,.int .u64 0] 175)):=(Upd.refl _ _).alloc _;have c3:(w6.alloc (.cells #[.int .u64 0,.int .u64 0,.int .u64 0,.int .u64 0,.int .u64 0,.int .u64 0,.int .u64 0,.int .u64 0] 175)).heap[w6.heap.size]? = some (.cells #[.int .u64 0,.int .u64 0,.int .u64 0,.int .u64 0,.int .u64 0,.int .u64 0,.int .u64 0,.int .u64 0] 175 (0,0)):=qh _ _;generalize w6.alloc (.cells #[.int .u64 0,.int .u64 0,.int .u64 0,.int .u64 0,.int .u64 0,.int .u64 0,.int .u64 0,.int .u64 0] 175)=w7 at n7 c3 ⊢;refine wpList_store_row rfl _ _ _ rfl w6.heap.size ([K,I,J,L,M,N,O,P].map (Value.int .u64)).toArray rfl rfl 175 _ c3 (by exact Tryz.infoR8) rfl (by simp[Value.oneCell']) ?_;have hV:(w7.setRow w6.heap.size ([K,I,J,L,M,N,O,P].map (Value.int .u64)).toArray).heap[w6.heap.size]? = some (.cells ([K,I,J,L,M,N,O,P].map (Value.int .u64)).toArray 175 (0,0)):=setRow_heap w7 w6.heap.size _ _ 175 (0,0) c3;have n8:qu w6 (w7.setRow w6.heap.size ([K,I,J,L,M,N,O,P].map (Value.int .u64)).toArray):=n7.setRow (fun h=>by omega) _
     generalize w7.setRow w6.heap.size ([K,I,J,L,M,N,O,P].map (Value.int .u64)).toArray=w8 at hV n8 ⊢;have vV:qbd .u64 w8 w6.heap.size [K,I,J,L,M,N,O,P]:=⟨_,hV⟩;clear hV n7 c3 h9;have d5:=g0.trans n8;replace d8:=d8.upd d5 (fun h=>h);replace e4:=e4.upd d5 (fun h=>h);replace T:=T.upd d5 (fun h=>h);replace vK:=vK.upd n8 (fun h=>h);replace nn:=nn.trans d5;have j7:=vV.lt;generalize w6.heap.size=V at vV j7 e6 ⊢;clear g0 n8 d5;go_wp2_with fail
     go_loopw [16,17,18,19,20,21,22] (fun iv _ _ _ _ _ _ wr=>∃k:Nat,iv = .int .i64 (k:Int)∧k≤64∧qbd .u64 wr V (qea ws [K,I,J,L,M,N,O,P] k)∧Upd (fun k=>k=V) w8 wr) (fun iv _ _ _ _ _ _ _=>64-(intOf iv).toNat)
     case atStart=>exact⟨0,rfl,by omega,by rw[qkd];exact vV,Upd.refl _ _⟩
     case round =>
      obtain⟨k,rfl,hk,hV,ur⟩:=hrel;by_cases o6:k<64
      ·have a7:=qk9 ws [K,I,J,L,M,N,O,P] k ⟨rfl,hu⟩;have E:=qkc ws [K,I,J,L,M,N,O,P] k;generalize hv:qea ws [K,I,J,L,M,N,O,P] k=v at hV a7 E;clear hv;obtain⟨h8,U⟩:=a7;obtain⟨a,b,c,d,e,f,g,C,rfl⟩:=qb0 h8;clear h8;have HN:=qb E;have v0:=hV.cell (i:=0) (by simp);have v1:=hV.cell (i:=1) (by simp);have v2:=hV.cell (i:=2) (by simp);have v3:=hV.cell (i:=3) (by simp);have v4:=hV.cell (i:=4) (by simp);have v5:=hV.cell (i:=5) (by simp);have v6:=hV.cell (i:=6) (by simp);have v7:=hV.cell (i:=7) (by simp);simp at v0 v1 v2 v3 v4 v5 v6 v7;have HV:=qb hV;clear E hV;have ix:wr.cell? ⟨A+2,k,none⟩=some (.int .u64 (wd ws k)):=(T.upd ur (by omega)).cell (by omega);have tk:wr.cell? ⟨B4,k,none⟩=some (.int .u64 (wd qil k)):=(vK.upd ur (by omega)).cell (by rw[show qil.length=64 from rfl];omega);obtain⟨t0,n3⟩:=qul.at k;obtain⟨x0,o5⟩:=k7.at k;generalize i2:wd qil k=kk at tk t0 n3;generalize i8:wd ws k=wk at ix x0 o5;have b0:=U a (by simp);have b1:=U b (by simp);have b2:=U c (by simp);have b3:=U d (by simp);have b4:=U e (by simp);have b5:=U f (by simp);have b6:=U g (by simp);have b7:=U C (by simp);obtain⟨c5,c6⟩:=b4;have BB:=qb (And.intro b0 (And.intro b1 (And.intro b2 (And.intro b3 (And.intro b5 (And.intro b6 b7))))));have m5:(k:Int)<64:=by omega
       clear U;have j1:=zbw e f g c5 c6 b5.1 b5.2 b6.1 b6.2;have j3:=q9w a b c b0.1 b0.2 b1.1 b1.2 b2.1 b2.2;have g1:=qb j1;have g2:=qb j3;clear j1 j3 b1 b2 b3 b5 b6 b7 b0;go_upto_region 28 with fail;rw[qa g1,qa g2];clear v0 v1 v2 v3 v4 v5 v6 g1 g2;obtain⟨T0,T1⟩:=qju e [6,11,25];have f8:=qq8 e 6 11 25 6 11 25 rfl rfl rfl c5 c6 (by decide) (by decide) (by decide);obtain⟨z,Y⟩:0≤chI e f g∧chI e f g<4294967296:=qbv ..;obtain⟨m0,m1⟩:0≤qxp a b c∧qxp a b c<4294967296:=qbv ..;generalize i7:qbz e [6,11,25]=te at T0 T1 f8;generalize i4:chI e f g=p at z Y ⊢;generalize i3:qxp a b c=ma at m0 m1 ⊢;have d3:q2h e f g C (qil.getD k 0) (wd ws k)=(C+te+p+kk+wk)%4294967296:=by
        unfold q2h;rw[i7,i4,i8,show qil.getD k 0=kk from i2]
       clear i2 i8;obtain⟨m,f4⟩:∃m:Int,m=(C+te+p+kk+wk)%4294967296:=⟨_,rfl⟩;rw[←f4] at d3;have g3:=qb d3;clear d3;have g4:=qb f8;clear f8 i7 i4;obtain⟨-,-,-,-,-,-,c3⟩:=qa BB;have a6:IntKind.u64.wrap (C+te)=C+te:=by rw[IntKind.wrap_u64];omega
       have b9:IntKind.u64.wrap (C+te+p)=C+te+p:=by rw[IntKind.wrap_u64];omega
       have c7:IntKind.u64.wrap (C+te+p+kk)=C+te+p+kk:=by rw[IntKind.wrap_u64];omega
       have f3:IntKind.u64.wrap (C+te+p+kk+wk)=C+te+p+kk+wk:=by rw[IntKind.wrap_u64];omega
       have e1:(C+te+p+kk+wk).tmod 4294967296=m:=by rw[Int.tmod_eq_emod_of_nonneg (by omega),f4]
       have g9:IntKind.u64.wrap m=m:=by rw[IntKind.wrap_u64];omega
       have f7:0≤m∧m<4294967296:=by omega
       clear f4 c3;have c8:(k:Int).toNat=k:=by omega
       have d1:IntKind.i64.wrap (k:Int)=(k:Int):=IntWalk.i64_in _ (by omega);refine qlj (by kernel_rfl) [[],[(0,130)],[],[(2,132)],[],[(4,134)],[(3,133),(5,135)],[],[(7,137)],[(6,136),(8,138)],[(1,131),(9,139)],[],[(10,140),(11,141)],[],[(13,143)],[(14,144)],[(12,142),(15,145)],[],[(17,147)],[(18,148)],[(16,146),(19,149)],[(20,150)],[(21,151)]] 200 rfl (by kernel_rfl) [(0,130),(1,131),(2,132),(3,133),(4,134),(5,135),(6,136),(7,137),(8,138),(9,139),(10,140),(11,141),(12,142),(13,143),(14,144),(15,145),(16,146),(17,147),(18,148),(19,149),(20,150),(21,151),(22,21)] (by kernel_rfl) [] (by kernel_rfl) [[(0,0)],[(0,0)],[(0,0)],[(0,0)],[(0,0)],[(0,0)],[(0,0)],[(0,0)],[(0,0)],[(0,0)],[(0,0)],[(0,0)],[(0,0)],[(0,0)],[(0,0)],[(0,0)],[(0,0)],[(0,0)],[(0,0)],[(0,0)],[(0,0)],[(0,0)],[(0,0)]] (by kernel_rfl)
        (QS wr) qbp (isV [.pointer (some ⟨V,7,none⟩),.int .u64 C,.int .u64 e,.int .u64 (qch e 6),.int .u64 e,.int .u64 (qch e 11),.int .u64 (bits .xor .u64 (qch e 6) (qch e 11)),.int .u64 e,.int .u64 (qch e 25),.int .u64 te,.int .u64 (C+te),.int .u64 p,.int .u64 (C+te+p),.int .i64 (k:Int),.pointer (some ⟨B4,k,none⟩),.int .u64 kk,.int .u64 (C+te+p+kk),.int .i64 (k:Int),.pointer (some ⟨A+2,k,none⟩),.int .u64 wk,.int .u64 (C+te+p+kk+wk),.int .u64 m,.int .u64 m])
        (⟨1,rfl⟩) (fun _=>qbp.all _ _) (fun _ _ _ _ _ _ _ _ _ h=>h) ?_ ?_
       ·refine .pure rfl (fun _=>qbp.all _ _) rfl ?_ <| .one rfl ?_ <| .pure rfl (fun _=>qbp.all _ _) rfl ?_ <| .one rfl ?_ <| .pure rfl (fun _=>qbp.all _ _) rfl ?_ <| .one rfl ?_ <| .pure rfl (fun _=>qbp.all _ _) rfl ?_ <| .pure rfl (fun _=>qbp.all _ _) rfl ?_ <| .one rfl ?_ <| .pure rfl (fun _=>qbp.all _ _) rfl ?_ <| .pure rfl (fun _=>qbp.all _ _) rfl ?_ <| .pure rfl (fun _=>qbp.all _ _) rfl ?_ <| .pure rfl (fun _=>qbp.all _ _) rfl ?_ <| .pure rfl (fun _=>qbp.all _ _) rfl ?_ <| .pure rfl (fun _=>qbp.all _ _) rfl ?_ <| .one rfl ?_ <| .pure rfl (fun _=>qbp.all _ _) rfl ?_ <| .pure rfl (fun _=>qbp.all _ _) rfl ?_ <| .pure rfl (fun _=>qbp.all _ _) rfl ?_ <| .one rfl ?_ <| .pure rfl (fun _=>qbp.all _ _) rfl ?_ <| .pure rfl (fun _=>qbp.all _ _) rfl ?_ <| .pure rfl (fun _=>qbp.all _ _) rfl ?_ <| .nil
        ·rintro qj w1 _;unfold zm;simp only[putL];go_simp
         first | exact⟨rfl,rfl⟩ | rfl
        ·rintro qj w1 F ⟨z,-⟩;replace F:Q wr w1:=F;replace z:qj 0 = .pointer (some ⟨V,7,none⟩):=z;have c:=Q.cell F v7;unfold zm;simp only[putL];go_simp;exact⟨qbp.all _ _,F,rfl⟩
        ·rintro qj w1 _;unfold zm;simp only[putL];go_simp
         first | exact⟨rfl,rfl⟩ | rfl
        ·rintro qj w1 F ⟨z,-⟩;replace F:Q wr w1:=F;replace z:qj 2 = .int .u64 e:=z;unfold zm;simp only[putL];go_simp;refine(qd1 e 6 w1 c5 c6 (by decide) (by decide)).mono ?_;rintro e w2 ⟨rfl,rfl⟩;exact⟨_,rfl,qbp.all _ _,F,rfl⟩
        ·rintro qj w1 _;unfold zm;simp only[putL];go_simp
         first | exact⟨rfl,rfl⟩ | rfl
        ·rintro qj w1 F ⟨z,-⟩;replace F:Q wr w1:=F;replace z:qj 4 = .int .u64 e:=z;unfold zm;simp only[putL];go_simp;refine(qd1 e 11 w1 c5 c6 (by decide) (by decide)).mono ?_;rintro e w2 ⟨rfl,rfl⟩;exact⟨_,rfl,qbp.all _ _,F,rfl⟩
        ·rintro qj w1 ⟨z,Y,-⟩;replace z:qj 3 = .int .u64 (qch e 6):=z;replace Y:qj 5 = .int .u64 (qch e 11):=Y;unfold zm;simp only[putL];go_simp
         first | exact⟨rfl,rfl⟩ | rfl
        ·rintro qj w1 _;unfold zm;simp only[putL];go_simp
         first | exact⟨rfl,rfl⟩ | rfl
        ·rintro qj w1 F ⟨z,-⟩;replace F:Q wr w1:=F;replace z:qj 7 = .int .u64 e:=z;unfold zm;simp only[putL];go_simp;refine(qd1 e 25 w1 c5 c6 (by decide) (by decide)).mono ?_;rintro e w2 ⟨rfl,rfl⟩;exact⟨_,rfl,qbp.all _ _,F,rfl⟩
        ·rintro qj w1 ⟨z,Y,-⟩;replace z:qj 6 = .int .u64 (bits .xor .u64 (qch e 6) (qch e 11)):=z;replace Y:qj 8 = .int .u64 (qch e 25):=Y;have ht:=qa g4;unfold zm;simp only[putL];go_simp
         first | exact⟨rfl,rfl⟩ | rfl
        ·rintro qj w1 ⟨z,Y,-⟩;replace z:qj 1 = .int .u64 C:=z;replace Y:qj 9 = .int .u64 te:=Y;have ht:=a6;unfold zm;simp only[putL];go_simp
         first | exact⟨rfl,rfl⟩ | rfl
        ·rintro qj w1 _;unfold zm;simp only[putL];go_simp
         first | exact⟨rfl,rfl⟩ | rfl
        ·rintro qj w1 ⟨z,Y,-⟩;replace z:qj 10 = .int .u64 (C+te):=z;replace Y:qj 11 = .int .u64 p:=Y;have ht:=b9;unfold zm;simp only[putL];go_simp
         first | exact⟨rfl,rfl⟩ | rfl
        ·rintro qj w1 _;unfold zm;simp only[putL];go_simp
         first | exact⟨rfl,rfl⟩ | rfl
        ·rintro qj w1 ⟨z,-⟩;replace z:qj 13 = .int .i64 (k:Int):=z;have I:=c8;have J:=d1;unfold zm;simp only[putL];go_simp
         first | exact⟨rfl,rfl⟩ | rfl
        ·rintro qj w1 F ⟨z,-⟩;replace F:Q wr w1:=F;replace z:qj 14 = .pointer (some ⟨B4,k,none⟩):=z;have c:=Q.cell F tk;unfold zm;simp only[putL];go_simp;exact⟨qbp.all _ _,F,rfl⟩
        ·rintro qj w1 ⟨z,Y,-⟩;replace z:qj 12 = .int .u64 (C+te+p):=z;replace Y:qj 15 = .int .u64 kk:=Y;have ht:=c7;unfold zm;simp only[putL];go_simp
         first | exact⟨rfl,rfl⟩ | rfl
        ·rintro qj w1 _;unfold zm;simp only[putL];go_simp
         first | exact⟨rfl,rfl⟩ | rfl
        ·rintro qj w1 ⟨z,-⟩;replace z:qj 17 = .int .i64 (k:Int):=z;have I:=c8;have J:=d1;unfold zm;simp only[putL];go_simp
         first | exact⟨rfl,rfl⟩ | rfl
        ·rintro qj w1 F ⟨z,-⟩;replace F:Q wr w1:=F;replace z:qj 18 = .pointer (some ⟨A+2,k,none⟩):=z;have c:=Q.cell F ix;unfold zm;simp only[putL];go_simp;exact⟨qbp.all _ _,F,rfl⟩
        ·rintro qj w1 ⟨z,Y,-⟩;replace z:qj 16 = .int .u64 (C+te+p+kk):=z;replace Y:qj 19 = .int .u64 wk:=Y;have ht:=f3;unfold zm;simp only[putL];go_simp
         first | exact⟨rfl,rfl⟩ | rfl
        ·rintro qj w1 ⟨z,-⟩;replace z:qj 20 = .int .u64 (C+te+p+kk+wk):=z;have ht:=e1;unfold zm;simp only[putL];go_simp
         first | exact⟨rfl,rfl⟩ | rfl
        ·rintro qj w1 ⟨z,-⟩;replace z:qj 21 = .int .u64 m:=z;unfold zm;simp only[putL];go_simp
         first | exact⟨rfl,rfl⟩ | rfl
       ·intro qj w1 F hv;have Z:=hv 22 (by decide);replace Z:qj 22 = .int .u64 m:=Z;clear hv;replace F:Q wr w1:=F;have X:=(qa HV).q F;have u9:=ur.then (F.upd (fun _=>False)) (fun _ _ h=>h.elim);simp only[putL,Z];go_simp;obtain⟨⟨a0,c2⟩,b1,b2,⟨d0,p3⟩,-⟩:=qa BB;clear Z HV v7 tk ix F a6 b9 c7 f3 c8 d1 e1 g9 BB g4 b1 b2;obtain⟨wz,rfl⟩:∃wz:World,wz=w1:=⟨_,rfl⟩;have e7:=qq8 a 2 13 22 2 13 22 rfl rfl rfl a0 c2 (by decide) (by decide) (by decide);obtain⟨n9,o2⟩:=qju a [2,13,22];generalize i6:qbz a [2,13,22]=ta at e7 n9 o2;have d4:q8d a b c=(ta+ma)%4294967296:=by unfold q8d;rw[i6,i3]
        obtain⟨two,f5⟩:∃two:Int,two=(ta+ma)%4294967296:=⟨_,rfl⟩;rw[←f5] at d4;have g5:=qb d4;have k0:IntKind.u64.wrap (ta+ma)=ta+ma:=by rw[IntKind.wrap_u64];omega
        have k1:(ta+ma).tmod 4294967296=two:=by rw[Int.tmod_eq_emod_of_nonneg (by omega),f5]
        have k2:IntKind.u64.wrap two=two:=by rw[IntKind.wrap_u64];omega
        have f9:0≤two∧two<4294967296:=by omega
        obtain⟨o0,o1⟩:=f7;obtain⟨t0,t1⟩:=f9;have k3:IntKind.u64.wrap (m+two)=m+two:=by rw[IntKind.wrap_u64];omega
        have k4:(m+two).tmod 4294967296=(m+two)%4294967296:=Int.tmod_eq_emod_of_nonneg (by omega);have k5:IntKind.u64.wrap (d+m)=d+m:=by rw[IntKind.wrap_u64];omega
        have k6:(d+m).tmod 4294967296=(d+m)%4294967296:=Int.tmod_eq_emod_of_nonneg (by omega);clear d4 i6 i3 f5;have v0:=X.cell (i:=0) (by simp);have v1:=X.cell (i:=1) (by simp);have v2:=X.cell (i:=2) (by simp);have v3:=X.cell (i:=3) (by simp);have v4:=X.cell (i:=4) (by simp);have v5:=X.cell (i:=5) (by simp);have v6:=X.cell (i:=6) (by simp);simp at v0 v1 v2 v3 v4 v5 v6;have R:=X.stOk (r:=[(m+two)%4294967296,a,b,c,(d+m)%4294967296,e,f,g]) (n:=8) rfl rfl;have i5:=qb (X.setAll (r:=[(m+two)%4294967296,a,b,c,(d+m)%4294967296,e,f,g]) rfl);simp only[List.map_cons,List.map_nil] at R i5;have us:=qb (u9.trans ((Upd.refl (· = V) wz).setCells 0 [.int .u64 ((m+two)%4294967296),.int .u64 a,.int .u64 b,.int .u64 c,.int .u64 ((d+m)%4294967296),.int .u64 e,.int .u64 f,.int .u64 g]));clear X u9;go_wp2_with fail;refine(qd1 a 2 _ a0 c2 (by decide) (by decide)).mono ?_;rintro e w5 ⟨rfl,rfl⟩;go_wp2_with fail;refine(qd1 a 13 _ a0 c2 (by decide) (by decide)).mono ?_;rintro e w5 ⟨rfl,rfl⟩;go_wp2_with fail;refine(qd1 a 22 _ a0 c2 (by decide) (by decide)).mono ?_;rintro e w5 ⟨rfl,rfl⟩;go_wp2_with fail;have e3:qea ws [K,I,J,L,M,N,O,P] (k+1)=[(m+two)%4294967296,a,b,c,(d+m)%4294967296,e,f,g]:=by
         rw[qa HN];simp only[qke];rw[qa g3,qa g5]
        clear k0 k1 k2 k3 k4 k5 k6 e7;go_roundw
        case rel=>exact⟨k+1,by go_num,by omega,by rw[e3];exact qa i5,qa us⟩
        case measure=>simp[intOf];omega
      ·obtain rfl:k=64:=by omega
       rw[show ((64:Nat):Int)=64 from rfl];have p2:=ur.size;have l0:=d8.upd ur (by omega);have l4:=e4.upd ur (by omega);have k8:=nn.then ur (by intro q hq h;rw[qa d9] at hq;omega);have j8:=qk9 ws [K,I,J,L,M,N,O,P] 64 ⟨rfl,hu⟩;have HR:=qb (show qea (qav s 48) [K,I,J,L,M,N,O,P] 64=qea ws [K,I,J,L,M,N,O,P] 64 by rw[qa g6]);generalize qea ws [K,I,J,L,M,N,O,P] 64=v at hV j8 HR;clear ur d8 e4 vV vK T nn;obtain⟨h8,U⟩:=j8;obtain⟨w9,rfl⟩:∃w9:World,w9=wr:=⟨_,rfl⟩;go_wp2_with fail
       go_loopw [23] (fun iv wr=>∃i:Nat,iv = .int .i64 (i:Int)∧i≤8∧qbd .u64 wr A (qb8 v [K,I,J,L,M,N,O,P] i)∧Upd (fun k=>k=A) w9 wr) (fun iv _=>8-(intOf iv).toNat)
       case atStart=>exact⟨0,rfl,by omega,by rw[qho];exact l0,Upd.refl _ _⟩
       case round =>
        obtain⟨i,rfl,hi,hA,ur⟩:=hrel;by_cases o7:i<8
        ·have a7:=qfu v [K,I,J,L,M,N,O,P] i ⟨rfl,hu⟩;have E:=qhn v [K,I,J,L,M,N,O,P] i;unfold qnx at E;have c0:wr.cell? ⟨A,i,none⟩=some (.int .u64 (wd (qb8 v [K,I,J,L,M,N,O,P] i) i)):=hA.cell (i:=i) (by omega);have z0:=hA.free i;have c1:wr.cell? ⟨V,i,none⟩=some (.int .u64 (wd v i)):=(hV.upd ur (by omega)).cell (i:=i) (by omega);obtain⟨a0,c2⟩:=a7.2.at i;obtain⟨b0,l8⟩:=U.at i;have R:=hA.set i ((wd (qb8 v [K,I,J,L,M,N,O,P] i) i+wd v i)%4294967296);rw[←E] at R;have H:=qb R;clear R E a7 hA;generalize wd (qb8 v [K,I,J,L,M,N,O,P] i) i=x at c0 a0 c2 H;generalize wd v i=y at c1 b0 l8 H;have a6:IntKind.u64.wrap (x+y)=x+y:=by rw[IntKind.wrap_u64];omega
         have b9:(x+y).tmod 4294967296=(x+y)%4294967296:=Int.tmod_eq_emod_of_nonneg (by omega);have c7:IntKind.u64.wrap ((x+y)%4294967296)=(x+y)%4294967296:=by rw[IntKind.wrap_u64];omega
         have g8:(i:Int)<8:=by omega
         have e0:(i:Int).toNat=i:=by omega
         go_wp2_with fail;go_region_law (fail)
         all_goals
          have us:=ur.set1 i (.int .u64 ((x+y)%4294967296));have a8:=qa H;generalize wr.setCell ⟨A,i,none⟩ (.int .u64 ((x+y)%4294967296))=wS at *
          clear a6 b9 c7;go_wp2;go_roundw
          case rel=>exact⟨i+1,by go_num,by omega,(a8:qbd .u64 wS _ _),us.drew⟩
          case measure=>simp[intOf];omega
        ·obtain rfl:i=8:=by omega
         rw[show ((8:Nat):Int)=8 from rfl];have d2:qkq [K,I,J,L,M,N,O,P] s=qb8 v [K,I,J,L,M,N,O,P] 8:=by unfold qkq;rw[qa HR]
         have a7:=qfu v [K,I,J,L,M,N,O,P] 8 ⟨rfl,hu⟩;have o4:=l4.upd ur (by omega);have m9:=k8.then ur (by intro q hq h;rw[qa d9] at hq;omega);generalize hr:qb8 v [K,I,J,L,M,N,O,P] 8=r at hA a7;rw[hr] at d2;clear hr HR l0 l4 ur k8 hV g6;obtain⟨r8,-⟩:=a7;have HF:=qb d2;clear d2;obtain⟨l7,m3⟩:=hA;obtain⟨e8,i1⟩:=o4;go_upto_region 35 with fail;refine wp_region_lit ?_;refine wpList_load_row rfl _ _ rfl A rfl l7 _ _ _ m3 Tryz.underlying175 rfl (by rw[List.size_toArray,List.length_map,r8];exact Tryz.infoR8) ?_;refine wpList_store_row rfl _ _ _ rfl (A+1) (r.map (Value.int .u64)).toArray rfl rfl e8 _ i1 (by rw[List.size_toArray,List.length_map,r8];exact Tryz.infoR8) (by simp[r8]) (by simp[Value.oneCell']) ?_;have hF:=setRow_heap wr (A+1) _ (r.map (Value.int .u64)).toArray e8 (0,0) i1;have nF:=m9.setRow (g:=A+1) (fun h=>by rw[qa d9] at h;omega) (r.map (Value.int .u64)).toArray;generalize wr.setRow (A+1) (r.map (Value.int .u64)).toArray=wF at hF nF ⊢;go_wp2_with fail;refine bodyPost_ret (qig rfl _ _ (A+1) e8 _ _ _ rfl hF Tryz.underlying175 rfl (by rw[List.size_toArray,List.length_map,r8];exact Tryz.infoR8)) rfl ?_;refine⟨?_,nF⟩;rw[qa HF];rfl
end Go.Proofs.YtfmkdoachjgjbaaGreatDoor
