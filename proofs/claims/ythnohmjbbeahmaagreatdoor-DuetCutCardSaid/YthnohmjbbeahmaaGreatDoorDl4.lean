/-
  The law DuetCut, walked (printed by tools/mk_dul.py).
-/
import Derived.Test.YthnohmjbbeahmaaGreatDoorDvP
import Derived.Test.YthnohmjbbeahmaaGreatDoorMef
set_option linter.unusedVariables false
set_option linter.unusedSimpArgs false
namespace Go.Proofs.YthnohmjbbeahmaaGreatDoor
open Go.RowKit
attribute [local go_sem ↓ high] qhc qil qzw
attribute [local go_sem] qq9 zb qxu qmf qmg
set_option maxRecDepth 100000 in
set_option maxHeartbeats 4000000 in
theorem q7a(o c:Int)(v:Value)(xs:List ActD)(l0 l1:Int)(g2 : -9223372036854775808≤l0∧l0≤9223372036854775807)(g3 : -9223372036854775808≤l1∧l1≤9223372036854775807)(w:World)(ho:0≤o∧o<18446744073709551616)(hc:0≤c∧c<18446744073709551616)(hv:qg6 w v xs)(hx:∀x∈xs,x.Ok)(hT:Tb w) :
  Calls Tryz.prog 5 #[.int .u64 o,.int .u64 c,v,.agg #[.int .i64 l0,.int .i64 l1]] w (qbf (.bool true) w):=by
 obtain⟨va,vc,rfl⟩:=hv.slice
 have d3:=fun W (n:qq w W)=>qit W (hT.new n)
 have HV:=qb hv
 by_cases h5:80<xs.length
 ·have hb:(80:Int)<(xs.length:Int):=by omega
  clear hv;go_enter Tryz.func5,Tryz.ntmps5;go_upto_region 1 with fail;have nb:qq w (w.alloc (.cells #[.int .i64 l0,.int .i64 l1] 23)):=(Upd.refl _ _).alloc _;have bb:=qi w (.cells #[.int .i64 l0,.int .i64 l1] 23);generalize w.alloc (.cells #[.int .i64 l0,.int .i64 l1] 23)=wb at nb bb ⊢;generalize w.heap.size=LB at bb ⊢;have M:=qb nb;have d6:=qb bb;clear nb bb;go_wp2_with fail;refine(d3 _ (qa M)).mono ?_;rintro e w1 ⟨rfl,n1⟩;go_wp2_with fail;go_ret;exact⟨rfl,(qa M).trans n1⟩
 ·have hb:¬(80:Int)<(xs.length:Int):=by omega
  clear hv;go_enter Tryz.func5,Tryz.ntmps5;go_upto_region 1 with fail;have nb:qq w (w.alloc (.cells #[.int .i64 l0,.int .i64 l1] 23)):=(Upd.refl _ _).alloc _;have bb:=qi w (.cells #[.int .i64 l0,.int .i64 l1] 23);generalize w.alloc (.cells #[.int .i64 l0,.int .i64 l1] 23)=wb at nb bb ⊢;generalize w.heap.size=LB at bb ⊢;have M:=qb nb;have d6:=qb bb;clear nb bb;go_wp2_with fail;refine(d3 _ (qa M)).mono ?_;rintro e w1 ⟨rfl,n1⟩;have L:qq w w1:=(qa M).trans n1;have D:=hT.new L;have f8:=qb ((qa HV).new L);have b8:=qb L;have f4:=qb (n1.old (qa d6) (fun h=>h));clear d3 HV n1 L;go_wp2_with fail;refine(qer o c ho hc w1).mono ?_;rintro e w2 (⟨p,rfl,b5,S,hD⟩ | ⟨rfl,g8,n2⟩)
  case inr =>
   have hN:=qb ((qa b8).trans n2);have R:c=0∨1125899906842624<c∨c<o:=by omega
   clear g8 n2 b8;by_cases h0:c=0
   ·subst h0;go_wp2_with fail;go_ret;exact⟨rfl,qa hN⟩
   ·by_cases h1:1125899906842624<c
    ·have d0:(c==0)=false:=beq_eq_false_iff_ne.2 h0;have d1:decide (1125899906842624<c)=true:=decide_eq_true h1;clear R;go_wp2_with fail;go_ret;exact⟨rfl,qa hN⟩
    ·have h2:c<o:=by omega
     have d0:(c==0)=false:=beq_eq_false_iff_ne.2 h0;have d1:decide (1125899906842624<c)=false:=decide_eq_false h1;have d2:decide (c<o)=true:=decide_eq_true h2;clear R;go_wp2_with fail;go_ret;exact⟨rfl,qa hN⟩
  case inl =>
   have g:=qjd ho.1 b5;have HI:=qb (fun i (h:i≤xs.length)=>qhq g (qfu.start ho.1 b5) hx (by omega) i h);have HG:Hid (DuW w1 w2 p ((qek o c).actsD (xs.take 0))):=qb ⟨S,hD⟩;clear hD;go_wp2_with fail
   go_loopw [10] (fun iv wr=>∃i:Nat,iv = .int .i64 (i:Int)∧i≤xs.length∧Hid (DuW w1 wr p ((qek o c).actsD (xs.take i)))) (fun iv _=>xs.length-(intOf iv).toNat)
   case atStart=>exact⟨0,rfl,Nat.zero_le _,HG⟩
   case round =>
    obtain⟨i,rfl,hi,HH⟩:=hrel;obtain⟨wq,rfl⟩:∃wq:World,wq=wr:=⟨_,rfl⟩;clear HG;by_cases V:i<xs.length
    ·obtain⟨x,q⟩:∃x,xs[i]? = some x:=⟨_,List.getElem?_eq_getElem V⟩;have h6:(i:Int)<(xs.length:Int):=by omega
     obtain⟨gv,off,rfl,f1⟩:=((qa f8).new (qa HH).n).at q;obtain⟨n,hn,hI⟩:=(qa HI i hi).inv (by omega);have hd:=zer D g hn hI (qa HH) x (hx x (List.mem_of_getElem? q));rw[←qhr _ q] at hd;have f5:=qb (qa HI (i+1) V);obtain⟨P',b9⟩:∃P',P'=(qek o c).actsD (xs.take (i+1)):=⟨_,rfl⟩;rw[←b9] at hd f5;have f7:=qb b9;clear b9;clear q hI;go_wp2_with (with_reducible first|(first|refine' zi (qg ?_) ?_|refine' zj (qg ?_) ?_);rotate_left|refine' zk (qg ?_)|rfl|apply tn|refine' zl ?_);refine hd.mono ?_;rintro e w4 ⟨rfl,H4⟩;have H4:=qb H4;clear hd f1 HH;go_wp2_with (with_reducible first|(first|refine' zi (qg ?_) ?_|refine' zj (qg ?_) ?_);rotate_left|refine' zk (qg ?_)|rfl|apply tn|refine' zl ?_);go_roundw
     case rel=>exact⟨i+1,by go_num,V,by rw[←qa f7];exact H4⟩
     case measure=>simp[intOf];omega
    ·obtain rfl:i=xs.length:=by omega
     have hM:=qa HI _ (Nat.le_refl _);obtain⟨n,hn,hI⟩:=hM.inv (by omega);have hC:=hI.cutD g (show n<60000 by omega) l0 l1;have g5:=hC.mu;obtain⟨m,h9,hY,hR⟩:∃m,m<65000∧PInv (qlr o c) m (((qek o c).actsD (xs.take xs.length)).cutD l0 l1).restD∧(((qek o c).actsD (xs.take xs.length)).cutD l0 l1).restD.Rest:=by
      obtain⟨⟨m,a,b⟩,r⟩:=(Bnd.of hC).rest g (by omega);exact⟨m,by omega,a,r⟩
     have t:=qb (fun(z:Live) (hz:z∈(((qek o c).actsD (xs.take xs.length)).en 0).xs) (h4:z.state=4) (ho:z.own=false)=>(q7w (zbp (P:=(qek o c).actsD (xs.take xs.length)) (z:=z) ⟨hz,h4,ho⟩ l0 l1)).1);have L:=qb (qa b8);obtain⟨S0,g0,K⟩:=(qa HH).getG;have H:=qzr K (k:=0) (by decide);have d8:=qb (K.liveOk (k:=0) (by decide)).1;have e9:=fun W (n:qq wq W)=>zfd D (K.new n) (k:=0) (by decide)
     have c3:=fun W (nn:qq wq W)=>qry D g (show n<60000 by omega) hI (K.toD.new nn) l0 l1 g2 g3
     obtain⟨Z,hZ⟩:∃Z,Z=((qek o c).actsD (xs.take xs.length)).cutD l0 l1:=⟨_,rfl⟩;rw[←hZ] at c3 hC hY hR t;have g4:=hC.mu;have f0:=fun W S (h:DuD w1 W p S Z)=>qhk D g (N:=n+Z.mu) (by omega) h (Bnd.of hC)
     have g9:(((qek o c).actsD (xs.take xs.length)).en 0).xs.length≤16:=(hI.end g (by omega) (k:=0) (by decide)).inv.few;have HQ:=qb (And.intro (quiet_of (by omega) hY hR) (And.intro hR hY));have e5:=(qa HH).n;have d7:=qb e5;have e6:=qb K.lt;generalize (((qek o c).actsD (xs.take xs.length)).en 0).xs=B0 at *
     clear hI hM HI hC hZ K hY hR HH g5 e5 g4;simp only[Int.natCast_zero] at H;go_wp2_with (with_reducible first|(first|refine' zi (qg ?_) ?_|refine' zj (qg ?_) ?_);rotate_left|refine' zk (qg ?_)|rfl|apply tn|refine' zl ?_);refine H.mono ?_;rintro e w4 ⟨rfl,q4⟩;have n4:qq wq w4:=q4.upd _;have hl:=e9 w4 n4;have N4:=qb n4;clear H q4 n4 e9;go_wp2_with (with_reducible first|(first|refine' zi (qg ?_) ?_|refine' zj (qg ?_) ?_);rotate_left|refine' zk (qg ?_)|rfl|apply tn|refine' zl ?_);refine hl.mono ?_;rintro e w5 ⟨ba,bc,rfl,n5,hX,c1⟩;have HB:=qb hX;have R:=c3 w5 ((qa N4).trans n5);have c2:=(((qa d7).trans (qa N4)).trans n5).old (qa f4) (fun h=>h);have b0:w5.cell? ⟨LB,0,none⟩=some (.int .i64 l0):=qh c2 0;have b1:w5.cell? ⟨LB,1,none⟩=some (.int .i64 l1):=qh c2 1;have b7:=qb (show ∀b,ba=some ⟨b,0,none⟩→B0≠[]→¬S0 b∧b<w5.heap.size from fun b e h=>⟨fun hs=>by
      have h1:=(qa e6 b hs).2;have h2:=(c1 b e h).1;have h3:=(qa N4).size;omega,(c1 b e h).2⟩)
     clear hl n5 hX c3 N4 c2 d7 c1 e6;go_wp2_with (with_reducible first|(first|refine' zi (qg ?_) ?_|refine' zj (qg ?_) ?_);rotate_left|refine' zk (qg ?_)|rfl|apply tn|refine' zl ?_);refine R.mono ?_;rintro e w6 ⟨rfl,c4⟩;have e3:=(qa HB).upd c4.2 (fun b e h=>(qa b7 b e h).1);have hr:=f0 w6 _ c4.1;have d4:=qb e3;have b3:=qb (show ∀b,ba=some ⟨b,0,none⟩→B0≠[]→¬Fr S0 w5 w6 b from fun b e h=>by
      obtain⟨a1,a2⟩:=qa b7 b e h;rintro (hs | hs)
      ·exact a1 hs
      ·omega)
     clear R e3 f0 HB b7 b0 b1 c4;go_wp2_with (with_reducible first|(first|refine' zi (qg ?_) ?_|refine' zj (qg ?_) ?_);rotate_left|refine' zk (qg ?_)|rfl|apply tn|refine' zl ?_);refine hr.mono ?_;rintro e w7 ⟨rfl,c5⟩;have e4:=(qa d4).upd c5.2 (fun b e h=>qa b3 b e h);obtain⟨g7,a7⟩:=c5.1.toG;have d5:=qb e4;have H:=qzr a7 (k:=0) (by decide);have c6:=fun W (n:qq w7 W)=>qzr (a7.new n) (k:=1) (by decide)
     have l:=qb a7;obtain⟨Sy,e7⟩:∃Sy,Sy=Fr (Fr S0 w5 w6) w6 w7:=⟨_,rfl⟩;rw[←e7] at l;simp only[Int.natCast_zero] at H;simp only[Int.natCast_one] at c6;clear hr e4 a7 d4 b3 c5 e7;generalize Z.restD=Y at *
     have f9:(Y.en 0).xs.length≤16:=((qa HQ).2.2.end g (by omega) (k:=0) (by decide)).inv.few;have U:(Y.en 1).xs.length=(Y.en 0).xs.length:=(qa HQ).1.len1;go_wp2_with (with_reducible first|(first|refine' zi (qg ?_) ?_|refine' zj (qg ?_) ?_);rotate_left|refine' zk (qg ?_)|rfl|apply tn|refine' zl ?_);refine H.mono ?_;rintro e w8 ⟨rfl,q8⟩;have n8:qq w7 w8:=q8.upd _;have he:=c6 w8 n8;have N8:=qb n8;clear H c6 q8 n8;go_wp2_with (with_reducible first|(first|refine' zi (qg ?_) ?_|refine' zj (qg ?_) ?_);rotate_left|refine' zk (qg ?_)|rfl|apply tn|refine' zl ?_);refine he.mono ?_;rintro e w9 ⟨rfl,q9⟩;have n9:=(qa N8).trans (q9.upd _);have b4:=qxc D ((qa l).new n9) (k:=0) (by decide);have T:=fun W (n:qq w7 W)=>qxc D ((qa l).new n) (k:=1) (by decide)
     have O:=fun W (n:qq w7 W)=>qm9 D ((qa l).new n) (k:=0) (by decide)
     have J:=fun W (n:qq w7 W)=>qm9 D ((qa l).new n) (k:=1) (by decide)
     have a4:=fun W (n:qq w7 W)=>zh0 ((qa l).new n) (k:=0) (by decide) (qa HQ).2.1
     have a5:=fun W (n:qq w7 W)=>zh0 ((qa l).new n) (k:=1) (by decide) (qa HQ).2.1
     simp only[Int.natCast_zero] at a4;simp only[Int.natCast_one] at a5;rw[(qa HQ).1.loc1,(qa HQ).1.rem1] at J;rw[U] at T;have N9:=qb n9;clear he q9 n9 N8 U;go_wp2_with (with_reducible first|(first|refine' zi (qg ?_) ?_|refine' zj (qg ?_) ?_);rotate_left|refine' zk (qg ?_)|rfl|apply tn|refine' zl ?_);refine b4.mono ?_;rintro e wA ⟨xa,xc,rfl,nA,hX⟩;have E:=qb hX;have nA:=(qa N9).trans nA;have hl:=T wA nA;have NA:=qb nA;clear b4 T hX nA N9;go_wp2_with (with_reducible first|(first|refine' zi (qg ?_) ?_|refine' zj (qg ?_) ?_);rotate_left|refine' zk (qg ?_)|rfl|apply tn|refine' zl ?_);refine hl.mono ?_;rintro e wB ⟨ya,yc,rfl,nB,-⟩;replace E:=qb ((qa E).new nB);have nB:=(qa NA).trans nB;have hb:=O wB nB;have NB:=qb nB;clear hl nB NA;generalize e8:(Y.en 0).xs.length=yl at *
     have f6:=qb e8;clear e8;generalize (Y.en 0).loc=yo at *
     generalize (Y.en 0).rem=yr at *
     go_wp2_with (with_reducible first|(first|refine' zi (qg ?_) ?_|refine' zj (qg ?_) ?_);rotate_left|refine' zk (qg ?_)|rfl|apply tn|refine' zl ?_);refine hb.mono ?_;rintro e wC ⟨rfl,nC⟩;replace E:=qb ((qa E).new nC);have nC:=(qa NB).trans nC;have hb:=J wC nC;have NC:=qb nC;clear nC NB;go_wp2_with (with_reducible first|(first|refine' zi (qg ?_) ?_|refine' zj (qg ?_) ?_);rotate_left|refine' zk (qg ?_)|rfl|apply tn|refine' zl ?_);refine hb.mono ?_;rintro e wD ⟨rfl,nD⟩;replace E:=qb ((qa E).new nD);have nD:=(qa NC).trans nD;have hb:=O wD nD;have ND:=qb nD;clear nD NC;go_wp2_with (with_reducible first|(first|refine' zi (qg ?_) ?_|refine' zj (qg ?_) ?_);rotate_left|refine' zk (qg ?_)|rfl|apply tn|refine' zl ?_);refine hb.mono ?_;rintro e wE ⟨rfl,nE⟩;replace E:=qb ((qa E).new nE);have nE:=(qa ND).trans nE;have hb:=J wE nE;have NE:=qb nE;clear nE ND O J;go_wp2_with (with_reducible first|(first|refine' zi (qg ?_) ?_|refine' zj (qg ?_) ?_);rotate_left|refine' zk (qg ?_)|rfl|apply tn|refine' zl ?_);refine hb.mono ?_;rintro e wF ⟨rfl,nF⟩;replace E:=qb ((qa E).new nF);have nF:=(qa NE).trans nF;have hw:=a4 wF nF;have NF:=qb nF;clear hb NE a4 nF;go_wp2_with (with_reducible first|(first|refine' zi (qg ?_) ?_|refine' zj (qg ?_) ?_);rotate_left|refine' zk (qg ?_)|rfl|apply tn|refine' zl ?_);refine hw.mono ?_;rintro e wG ⟨⟨a8,c8,rfl⟩,nG⟩;replace E:=qb ((qa E).new nG);have nG:=(qa NF).trans nG;have hw:=a5 wG nG;have NG:=qb nG;clear nG NF a5;go_wp2_with (with_reducible first|(first|refine' zi (qg ?_) ?_|refine' zj (qg ?_) ?_);rotate_left|refine' zk (qg ?_)|rfl|apply tn|refine' zl ?_)
     refine hw.mono ?_;rintro e wH ⟨⟨a9,c9,rfl⟩,nH⟩;replace E:=qb ((qa E).new nH);have nH:=(qa NG).trans nH;have b6:=qb ((qa d5).new nH);have d9:=qb ((qa l).liveOk (k:=0) (by decide)).1;have HN:=qb ((qa L).trans ((qa l).new nH).n);clear hw NG nH d5 l;generalize c0:(Y.en 0).xs=F at *
     have e2:∀y∈F,y.state=4:=fun y hy=>((qa HQ).1.four y (by rw[←c0] at hy;exact hy)).1
     have f3:=qb e2;replace t:Hid (∀(z:Live),z∈B0→z.state=4→z.own=false→z∈F):=qb (by rw[←c0];exact qa t);clear e2 HQ c0;have f2:F.length=yl:=qa f6;go_wp2_with (with_reducible first|(first|refine' zi (qg ?_) ?_|refine' zj (qg ?_) ?_);rotate_left|refine' zk (qg ?_)|rfl|apply tn|refine' zl ?_)
     go_loopw [16,17,18] (fun iv fv jv wr=>∃i:Nat,iv = .int .i64 (i:Int)∧i≤B0.length∧Q wH wr) (fun iv _ _ _=>B0.length-(intOf iv).toNat)
     case atStart=>exact⟨0,rfl,Nat.zero_le _,Q.refl _⟩
     case round =>
      obtain⟨i,rfl,hi,qr⟩:=hrel;obtain⟨wu,rfl⟩:∃wq:World,wq=wr:=⟨_,rfl⟩;by_cases V:i<B0.length
      ·obtain⟨x,q⟩:∃x,B0[i]? = some x:=⟨_,List.getElem?_eq_getElem V⟩;have h7:(i:Int)<(B0.length:Int):=by omega
       have c7:=List.mem_of_getElem? q;obtain⟨bx,rfl,-,-,sw,sx⟩:=((qa b6).new (qr.upd _)).row q;have e0:=qb q;have HM:=qb c7;by_cases h4:x.state=4
       ·rw[h4] at sx;clear q c7;go_wp2_with (with_reducible first|(first|refine' zi (qg ?_) ?_|refine' zj (qg ?_) ?_);rotate_left|refine' zk (qg ?_)|rfl|apply tn|refine' zl ?_)
        go_loopw [17,18] (fun fv jv wr=>∃j:Nat,jv = .int .i64 (j:Int)∧j≤F.length∧fv = .bool (qlk (F.take j) x)∧Q wH wr) (fun _ jv _=>F.length-(intOf jv).toNat)
        case atStart=>exact⟨0,rfl,Nat.zero_le _,rfl,by first | exact qr | exact qr.drewN' 1 | exact qr.trans ⟨1,rfl⟩⟩
        case round =>
         obtain⟨j,rfl,hj,rfl,C⟩:=hrel;obtain⟨wv,rfl⟩:∃wv:World,wv=wr:=⟨_,rfl⟩;clear sx sw qr;by_cases g1:j<F.length
         ·obtain⟨y,a6⟩:∃y,F[j]? = some y:=⟨_,List.getElem?_eq_getElem g1⟩;obtain⟨_,e1,rx,-,ox,-⟩:=((qa b6).new (C.upd _)).row (qa e0);cases e1;obtain⟨_,rfl,ry,-,oy,sy⟩:=((qa E).new (C.upd _)).row a6;rw[qa f3 y (List.mem_of_getElem? a6)] at sy;have he:=zii (qa d9 y (List.mem_of_getElem? a6)).h (qa d8 x (qa HM)).h;have h8:(j:Int)<(F.length:Int):=by omega
          have I:=qb (qz3 x a6);clear a6;rw[←f2];generalize qz y.h=C1 at ry he;generalize qz x.h=C2 at rx he;generalize q3i y.h x.h=r at he I;generalize x.own=ob at ox I;generalize y.own=oc at oy I;generalize qlk (F.take j) x=f at I ⊢;cases f with
          | true =>
           go_wp2_with (with_reducible first|(first|refine' zi (qg ?_) ?_|refine' zj (qg ?_) ?_);rotate_left|refine' zk (qg ?_)|rfl|apply tn|refine' zl ?_);go_roundw
           case rel=>exact⟨j+1,by go_num,by omega,by rw[qa I];rfl,by first | exact C | exact C.drewN' 1 | exact C.trans ⟨1,rfl⟩⟩
           case measure=>simp[intOf];omega
          | false =>
           cases r with
           | false =>
            go_wp2_with (with_reducible first|(first|refine' zi (qg ?_) ?_|refine' zj (qg ?_) ?_);rotate_left|refine' zk (qg ?_)|rfl|apply tn|refine' zl ?_);go_roundw
            case rel=>exact⟨j+1,by go_num,by omega,by rw[qa I];rfl,by first | exact C | exact C.drewN' 1 | exact C.trans ⟨1,rfl⟩⟩
            case measure=>simp[intOf];omega
           | true =>
            cases ob<;>cases oc
            all_goals
             go_wp2_with (with_reducible first|(first|refine' zi (qg ?_) ?_|refine' zj (qg ?_) ?_);rotate_left|refine' zk (qg ?_)|rfl|apply tn|refine' zl ?_);go_roundw
             case rel=>exact⟨j+1,by go_num,by omega,by rw[qa I];rfl,by first | exact C | exact C.drewN' 1 | exact C.trans ⟨1,rfl⟩⟩
             case measure=>simp[intOf];omega
         ·obtain rfl:j=F.length:=by omega
          obtain⟨_,e1,-,-,ox,-⟩:=((qa b6).new (C.upd _)).row (qa e0);cases e1;have hf:x.own=false→qlk (F.take F.length) x=true:=fun ho=>by
           rw[List.take_length];exact q3c (qa t x (qa HM) h4 ho)
          generalize qlk (F.take F.length) x=f at hf ⊢;rw[f2];cases X:x.own with
          | true =>
           rw[X] at ox;clear hf X;cases f
           all_goals
            go_wp2_with (with_reducible first|(first|refine' zi (qg ?_) ?_|refine' zj (qg ?_) ?_);rotate_left|refine' zk (qg ?_)|rfl|apply tn|refine' zl ?_);go_roundw
            case rel=>exact⟨i+1,by go_num,by omega,by first | exact C | exact C.drewN' 1 | exact C.trans ⟨1,rfl⟩⟩
            case measure=>simp[intOf];omega
          | false =>
           rw[X] at ox;rw[hf X];clear hf X;go_wp2_with (with_reducible first|(first|refine' zi (qg ?_) ?_|refine' zj (qg ?_) ?_);rotate_left|refine' zk (qg ?_)|rfl|apply tn|refine' zl ?_);go_roundw
           case rel=>exact⟨i+1,by go_num,by omega,by first | exact C | exact C.drewN' 1 | exact C.trans ⟨1,rfl⟩⟩
           case measure=>simp[intOf];omega
       ·have g6:(x.state != 4)=true:=by simpa using h4
        generalize x.state=st at sx g6;clear q c7 h4;go_wp2_with (with_reducible first|(first|refine' zi (qg ?_) ?_|refine' zj (qg ?_) ?_);rotate_left|refine' zk (qg ?_)|rfl|apply tn|refine' zl ?_);go_roundw
        case rel=>exact⟨i+1,by go_num,by omega,by first | exact qr | exact qr.drewN' 1 | exact qr.trans ⟨1,rfl⟩⟩
        case measure=>simp[intOf];omega
      ·obtain rfl:i=B0.length:=by omega
       go_wp2_with (with_reducible first|(first|refine' zi (qg ?_) ?_|refine' zj (qg ?_) ?_);rotate_left|refine' zk (qg ?_)|rfl|apply tn|refine' zl ?_);go_ret;exact⟨rfl,(qa HN).trans (qr.upd _)⟩
end Go.Proofs.YthnohmjbbeahmaaGreatDoor
