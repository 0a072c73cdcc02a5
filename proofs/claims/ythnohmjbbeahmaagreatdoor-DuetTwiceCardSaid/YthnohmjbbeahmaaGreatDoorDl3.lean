/-
  The law DuetTwice, walked (printed by tools/mk_dul.py).
-/
import Derived.Test.YthnohmjbbeahmaaGreatDoorDt1
set_option linter.unusedVariables false
set_option linter.unusedSimpArgs false
namespace Go.Proofs.YthnohmjbbeahmaaGreatDoor
open Go.RowKit
attribute [local go_sem ↓ high] qhc
attribute [local go_sem] qq9 zb
set_option maxRecDepth 100000 in
set_option maxHeartbeats 4000000 in
theorem q13(o c:Int)(v:Value)(xs:List ActD)(l0 l1:Int)(c0 : -9223372036854775808≤l0∧l0≤9223372036854775807)(c1 : -9223372036854775808≤l1∧l1≤9223372036854775807)(w:World)(ho:0≤o∧o<18446744073709551616)(hc:0≤c∧c<18446744073709551616)(hv:qg6 w v xs)(hx:∀x∈xs,x.Ok)(hT:Tb w) :
  Calls Tryz.prog 7 #[.int .u64 o,.int .u64 c,v,.agg #[.int .i64 l0,.int .i64 l1]] w (qbf (.bool true) w):=by
 obtain⟨va,vc,rfl⟩:=hv.slice
 have b4:=fun W (n:qq w W)=>qit W (hT.new n)
 have HV:=qb hv
 by_cases e3:60<xs.length
 ·have hb:(60:Int)<(xs.length:Int):=by omega
  clear hv;go_enter Tryz.func7,Tryz.ntmps7;go_upto_region 1 with fail;have nb:qq w (w.alloc (.cells #[.int .i64 l0,.int .i64 l1] 23)):=(Upd.refl _ _).alloc _;have O:=qi w (.cells #[.int .i64 l0,.int .i64 l1] 23);generalize w.alloc (.cells #[.int .i64 l0,.int .i64 l1] 23)=wb at nb O ⊢;generalize w.heap.size=LB at O ⊢;have I:=qb nb;have b6:=qb O;clear nb O;go_wp2_with fail;refine(b4 _ (qa I)).mono ?_;rintro e w1 ⟨rfl,n1⟩;go_wp2_with fail;go_ret;exact⟨rfl,(qa I).trans n1⟩
 ·have hb:¬(60:Int)<(xs.length:Int):=by omega
  clear hv;go_enter Tryz.func7,Tryz.ntmps7;go_upto_region 1 with fail;have nb:qq w (w.alloc (.cells #[.int .i64 l0,.int .i64 l1] 23)):=(Upd.refl _ _).alloc _;have O:=qi w (.cells #[.int .i64 l0,.int .i64 l1] 23);generalize w.alloc (.cells #[.int .i64 l0,.int .i64 l1] 23)=wb at nb O ⊢;generalize w.heap.size=LB at O ⊢;have I:=qb nb;have b6:=qb O;clear nb O;go_wp2_with fail;refine(b4 _ (qa I)).mono ?_;rintro e w1 ⟨rfl,n1⟩;have F:qq w w1:=(qa I).trans n1;have l:=hT.new F;have b7:=qb ((qa HV).new F);have a4:=qb F;have b5:=qb (n1.old (qa b6) (fun h=>h));clear b4 HV n1 F;go_wp2_with fail;refine(qer o c ho hc w1).mono ?_;rintro e w2 (⟨p,rfl,C,S,hD⟩ | ⟨rfl,U,n2⟩)
  case inr =>
   have N2:=qb n2;clear n2;go_wp2_with fail;refine(qer o c ho hc w2).mono ?_;rintro e w3 (⟨q,-,C,-⟩ | ⟨rfl,-,n3⟩)
   case inl=>exact absurd C U
   have hN:=qb ((qa a4).trans ((qa N2).trans n3));have b9:c=0∨1125899906842624<c∨c<o:=by omega
   clear U n3 N2 a4;by_cases h0:c=0
   ·subst h0;go_wp2_with fail;go_ret;exact⟨rfl,qa hN⟩
   ·by_cases h1:1125899906842624<c
    ·have d0:(c==0)=false:=beq_eq_false_iff_ne.2 h0;have d1:decide (1125899906842624<c)=true:=decide_eq_true h1;clear b9;go_wp2_with fail;go_ret;exact⟨rfl,qa hN⟩
    ·have h2:c<o:=by omega
     have d0:(c==0)=false:=beq_eq_false_iff_ne.2 h0;have d1:decide (1125899906842624<c)=false:=decide_eq_false h1;have d2:decide (c<o)=true:=decide_eq_true h2;clear b9;go_wp2_with fail;go_ret;exact⟨rfl,qa hN⟩
  case inl =>
   have HD:=qb (show DuW w1 w2 p (qek o c) from⟨S,hD⟩);clear hD;go_wp2_with fail;refine(qer o c ho hc w2).mono ?_;rintro e w3 (⟨q,rfl,-,T,hE⟩ | ⟨-,U,-⟩)
   case inr=>exact absurd C U
   have g:=qjd ho.1 C;have HI:=qb (fun i (h:i≤xs.length)=>qhq g (qfu.start ho.1 C) hx (by omega) i h);have HG:Hid (qe8 w1 w3 p q ((qek o c).actsD (xs.take 0)) ((qek o c).actsD (xs.take 0))):=qb (qe8.begin (qa HD) ⟨T,hE⟩);clear hE HD;go_wp2_with fail
   go_loopw [11] (fun iv wr=>∃i:Nat,iv = .int .i64 (i:Int)∧i≤xs.length∧Hid (qe8 w1 wr p q ((qek o c).actsD (xs.take i)) ((qek o c).actsD (xs.take i)))) (fun iv _=>xs.length-(intOf iv).toNat)
   case atStart=>exact⟨0,rfl,Nat.zero_le _,HG⟩
   case round =>
    obtain⟨i,rfl,hi,HH⟩:=hrel;obtain⟨wq,rfl⟩:∃wq:World,wq=wr:=⟨_,rfl⟩;clear HG;by_cases c3:i<xs.length
    ·obtain⟨x,H⟩:∃x,xs[i]? = some x:=⟨_,List.getElem?_eq_getElem c3⟩;have e4:(i:Int)<(xs.length:Int):=by omega
     obtain⟨gv,off,rfl,c8⟩:=((qa b7).new (qa HH).toN).at H;obtain⟨n,hn,X⟩:=(qa HI i hi).inv (by omega);have hd:=zhv l g hn X (qa HH) x (hx x (List.mem_of_getElem? H));have R:=fun W (h:qe8 w1 W p q ((qek o c).actsD (xs.take (i+1))) ((qek o c).actsD (xs.take i)))=>zhv l g hn X h.swap x (hx x (List.mem_of_getElem? H))
     have HR:=qb (fun W (n:qq w1 W)=>((qa b7).new n).at H);rw[←qhr _ H] at hd R;obtain⟨P',a6⟩:∃P',P'=(qek o c).actsD (xs.take (i+1)):=⟨_,rfl⟩;rw[←a6] at hd R;have d6:=qb a6;clear a6 H X;go_wp2_with (with_reducible first|(first|refine' zi (qg ?_) ?_|refine' zj (qg ?_) ?_);rotate_left|refine' zk (qg ?_)|rfl|apply tn|refine' zl ?_);refine hd.mono ?_;rintro e w4 ⟨rfl,H4⟩;obtain⟨e6,e5,e',b3⟩:=qa HR w4 H4.toN;cases e';have M:=R w4 H4;clear hd R c8 HH HR H4;go_wp2_with (with_reducible first|(first|refine' zi (qg ?_) ?_|refine' zj (qg ?_) ?_);rotate_left|refine' zk (qg ?_)|rfl|apply tn|refine' zl ?_);refine M.mono ?_;rintro e w5 ⟨rfl,H5⟩;have H5:=qb H5.swap;clear M b3;go_wp2_with (with_reducible first|(first|refine' zi (qg ?_) ?_|refine' zj (qg ?_) ?_);rotate_left|refine' zk (qg ?_)|rfl|apply tn|refine' zl ?_);go_roundw
     case rel=>exact⟨i+1,by go_num,c3,by rw[←qa d6];exact H5⟩
     case measure=>simp[intOf];omega
    ·obtain rfl:i=xs.length:=by omega
     have hM:=qa HI _ (Nat.le_refl _);obtain⟨n,hn,X⟩:=hM.inv (by omega);have V:=X.cutD g (show n<60000 by omega) l0 l1;have e0:=V.few;have a5:=zau (P:=(qek o c).actsD (xs.take xs.length)) (x:=l0) (y:=l1) (x':=1000) (y':=1000) (by omega) (by omega);have F:=qb (qa a4);have a7:=zjd l g hn X (qa HH) l0 l1 c0 c1;have D:=(qa HH).toN.old (qa b5) (fun h=>h);have b0:wq.cell? ⟨LB,0,none⟩=some (.int .i64 l0):=qh D 0;have b1:wq.cell? ⟨LB,1,none⟩=some (.int .i64 l1):=qh D 1;have a8:=fun W (h:qe8 w1 W p q (((qek o c).actsD (xs.take xs.length)).cutD l0 l1) ((qek o c).actsD (xs.take xs.length)))=>zjd l g hn X h.swap l0 l1 c0 c1
     obtain⟨Z,hZ⟩:∃Z,Z=((qek o c).actsD (xs.take xs.length)).cutD l0 l1:=⟨_,rfl⟩;rw[←hZ] at a7 a8 a5 V;have a9:=fun W (h:qe8 w1 W q p Z Z)=>zjd l g (show n<59000 from hn) V h 1000 1000 ⟨by decide,by decide⟩ ⟨by decide,by decide⟩
     rw[a5] at a9;have c5:=fun W (h:qe8 w1 W q p Z Z)=>zhw l g (show n<59000 from hn) V h.swap
     have c6:=fun W (h:qe8 w1 W p q Z.restD Z)=>zhw l g (show n<59000 from hn) V h.swap
     have e2:=V.mu;have d7:Hid (∃m,m<70000∧PInv (qlr o c) m Z.restD):=qb (by
      obtain⟨m,a,b⟩:=((Bnd.of V).rest g (by omega)).1;exact⟨m,by omega,a⟩)
     clear D X hM HI V e0 a5 hZ;go_wp2_with (with_reducible first|(first|refine' zi (qg ?_) ?_|refine' zj (qg ?_) ?_);rotate_left|refine' zk (qg ?_)|rfl|apply tn|refine' zl ?_);refine a7.mono ?_;rintro e w4 ⟨rfl,H4⟩;have M:=a8 w4 H4;have D:=H4.toN.old (qa b5) (fun h=>h);have d8:w4.cell? ⟨LB,0,none⟩=some (.int .i64 l0):=qh D 0;have d9:w4.cell? ⟨LB,1,none⟩=some (.int .i64 l1):=qh D 1;clear a7 a8 H4 D b0 b1 HH;go_wp2_with (with_reducible first|(first|refine' zi (qg ?_) ?_|refine' zj (qg ?_) ?_);rotate_left|refine' zk (qg ?_)|rfl|apply tn|refine' zl ?_);refine M.mono ?_;rintro e w5 ⟨rfl,H5⟩;have c9:=a9 w5 H5;clear M a9 H5 d8 d9;go_wp2_with (with_reducible first|(first|refine' zi (qg ?_) ?_|refine' zj (qg ?_) ?_);rotate_left|refine' zk (qg ?_)|rfl|apply tn|refine' zl ?_);refine c9.mono ?_;rintro e w6 ⟨rfl,H6⟩;have d3:=c5 w6 H6;clear c9 c5 H6;go_wp2_with (with_reducible first|(first|refine' zi (qg ?_) ?_|refine' zj (qg ?_) ?_);rotate_left|refine' zk (qg ?_)|rfl|apply tn|refine' zl ?_);refine d3.mono ?_;rintro e w7 ⟨rfl,H7⟩;have d4:=c6 w7 H7;clear d3 c6 H7;go_wp2_with (with_reducible first|(first|refine' zi (qg ?_) ?_|refine' zj (qg ?_) ?_);rotate_left|refine' zk (qg ?_)|rfl|apply tn|refine' zl ?_);refine d4.mono ?_;rintro e w8 ⟨rfl,H8⟩;have HZ:Hid (qe8 w1 w8 p q Z.restD Z.restD):=qb H8.swap;clear d4 H8 e2;generalize Z.restD=Y at *
     go_wp2_with (with_reducible first|(first|refine' zi (qg ?_) ?_|refine' zj (qg ?_) ?_);rotate_left|refine' zk (qg ?_)|rfl|apply tn|refine' zl ?_)
     go_loopw [12] (fun kv wr=>∃k:Nat,kv = .int .i64 (k:Int)∧k≤2∧Hid (qe8 w1 wr p q Y Y)) (fun kv _=>2-(intOf kv).toNat)
     case atStart=>exact⟨0,rfl,by decide,HZ⟩
     case round =>
      obtain⟨k,rfl,e9,z⟩:=hrel;obtain⟨w9,rfl⟩:∃wq:World,wq=wr:=⟨_,rfl⟩;clear HZ;by_cases N:k<2
      ·have e8:(k:Int)<2:=by omega
       obtain⟨m,e1,hY⟩:=qa d7;have e7:(Y.en k).xs.length≤16:=(hY.end g (by omega) N).inv.few;obtain⟨Sx,gx,b8⟩:=(qa z).a.getG;obtain⟨hok,c2,c7⟩:=b8.liveOk N;have c4:=fun W=>qt2 c2 c7 W
       have d5:=qb hok;have L:=q19 (qa z).a N;clear hY e1 b8 hok c2 c7;go_wp2_with (with_reducible first|(first|refine' zi (qg ?_) ?_|refine' zj (qg ?_) ?_);rotate_left|refine' zk (qg ?_)|rfl|apply tn|refine' zl ?_);refine L.mono ?_;rintro e wA ⟨SA,gA,rfl,nA,J⟩;have hb:=qm9 l J N;have E:=qb ((qa z).new nA);clear L nA J z;go_wp2_with (with_reducible first|(first|refine' zi (qg ?_) ?_|refine' zj (qg ?_) ?_);rotate_left|refine' zk (qg ?_)|rfl|apply tn|refine' zl ?_);refine hb.mono ?_;rintro e wB ⟨rfl,nB⟩;have t:=(qa E).new nB;have L:=q19 t.swap.a N;have z:=qb t;clear hb nB t E;go_wp2_with (with_reducible first|(first|refine' zi (qg ?_) ?_|refine' zj (qg ?_) ?_);rotate_left|refine' zk (qg ?_)|rfl|apply tn|refine' zl ?_);refine L.mono ?_;rintro e wC ⟨SC,gC,rfl,nC,J⟩;have hb:=qm9 l J N;have E:=qb ((qa z).new nC);clear L nC J z;go_wp2_with (with_reducible first|(first|refine' zi (qg ?_) ?_|refine' zj (qg ?_) ?_);rotate_left|refine' zk (qg ?_)|rfl|apply tn|refine' zl ?_);refine hb.mono ?_;rintro e wD ⟨rfl,nD⟩;have t:=(qa E).new nD;have L:=q19 t.a N;have z:=qb t;clear hb nD t E;go_wp2_with (with_reducible first|(first|refine' zi (qg ?_) ?_|refine' zj (qg ?_) ?_);rotate_left|refine' zk (qg ?_)|rfl|apply tn|refine' zl ?_);refine L.mono ?_;rintro e wE ⟨SE,gE,rfl,nE,J⟩;have hl:=q5l l J N;have E:=qb ((qa z).new nE);clear L nE J z c4;go_wp2_with (with_reducible first|(first|refine' zi (qg ?_) ?_|refine' zj (qg ?_) ?_);rotate_left|refine' zk (qg ?_)|rfl|apply tn|refine' zl ?_);refine hl.mono ?_
       rintro e wF ⟨u1,rfl,nF,K⟩;have hv:=qsy u1 _ (by omega) wF K;have z:=qb ((qa E).new nF);clear hl nF E K;go_wp2_with (with_reducible first|(first|refine' zi (qg ?_) ?_|refine' zj (qg ?_) ?_);rotate_left|refine' zk (qg ?_)|rfl|apply tn|refine' zl ?_);refine hv.mono ?_;rintro e wG ⟨u2,rfl,nG,K⟩;have t:=(qa z).new nG;have L:=q19 t.swap.a N;have E:=qb t;have HX:=qb K;clear hv nG z K t;go_wp2_with (with_reducible first|(first|refine' zi (qg ?_) ?_|refine' zj (qg ?_) ?_);rotate_left|refine' zk (qg ?_)|rfl|apply tn|refine' zl ?_);refine L.mono ?_;rintro e wH ⟨SH,gH,rfl,nH,J⟩;have hl:=q5l l J N;have z:=qb ((qa E).new nH);replace HX:=qb ((qa HX).new nH);clear L nH J E;go_wp2_with (with_reducible first|(first|refine' zi (qg ?_) ?_|refine' zj (qg ?_) ?_);rotate_left|refine' zk (qg ?_)|rfl|apply tn|refine' zl ?_);refine hl.mono ?_;rintro e wI ⟨u3,rfl,nI,K⟩;have hv:=qsy u3 _ (by omega) wI K;have E:=qb ((qa z).new nI);replace HX:=qb ((qa HX).new nI);clear hl nI z K;go_wp2_with (with_reducible first|(first|refine' zi (qg ?_) ?_|refine' zj (qg ?_) ?_);rotate_left|refine' zk (qg ?_)|rfl|apply tn|refine' zl ?_);refine hv.mono ?_;rintro e wJ ⟨u4,rfl,nJ,K⟩;have hs:=qul u2 u4 _ (by omega) (qa d5) wJ ((qa HX).new nJ) K;have z:=qb ((qa E).new nJ);clear hv nJ E K HX;go_wp2_with (with_reducible first|(first|refine' zi (qg ?_) ?_|refine' zj (qg ?_) ?_);rotate_left|refine' zk (qg ?_)|rfl|apply tn|refine' zl ?_);refine hs.mono ?_;rintro e wK ⟨rfl,nK⟩;have HN:Hid (qe8 w1 wK p q Y Y):=qb ((qa z).new nK)
       clear hs nK z;go_wp2_with (with_reducible first|(first|refine' zi (qg ?_) ?_|refine' zj (qg ?_) ?_);rotate_left|refine' zk (qg ?_)|rfl|apply tn|refine' zl ?_);go_roundw
       case rel=>exact⟨k+1,by go_num,by omega,HN⟩
       case measure=>simp[intOf];omega
      ·obtain rfl:k=2:=by omega
       have HN:=qb ((qa F).trans (qa z).toN);go_wp2_with (with_reducible first|(first|refine' zi (qg ?_) ?_|refine' zj (qg ?_) ?_);rotate_left|refine' zk (qg ?_)|rfl|apply tn|refine' zl ?_);go_ret;exact⟨rfl,qa HN⟩
end Go.Proofs.YthnohmjbbeahmaaGreatDoor
