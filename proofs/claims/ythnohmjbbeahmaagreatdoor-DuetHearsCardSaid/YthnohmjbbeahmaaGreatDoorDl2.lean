/-
  The law DuetHears, walked (printed by tools/mk_dul.py).
-/
import Derived.Test.YthnohmjbbeahmaaGreatDoorMef
set_option linter.unusedVariables false
set_option linter.unusedSimpArgs false
namespace Go.Proofs.YthnohmjbbeahmaaGreatDoor
open Go.RowKit
attribute [local go_sem ↓ high] qhc
attribute [local go_sem] qq9 zb qmf qmg
set_option maxRecDepth 100000 in
set_option maxHeartbeats 4000000 in
theorem q0d(o c:Int)(v:Value)(xs:List ActD)(w:World)(ho:0≤o∧o<18446744073709551616)(hc:0≤c∧c<18446744073709551616)(hv:qg6 w v xs)(hx:∀x∈xs,x.Ok)(hT:Tb w) :
  Calls Tryz.prog 4 #[.int .u64 o,.int .u64 c,v] w (qbf (.bool true) w):=by
 obtain⟨va,vc,rfl⟩:=hv.slice
 have T:=fun W (n:qq w W)=>qit W (hT.new n)
 have HV:=qb hv
 by_cases b4:150<xs.length
 ·have N:(150:Int)<(xs.length:Int):=by omega
  clear hv;go_enter Tryz.func4,Tryz.ntmps4;go_wp2_with fail;refine(T _ (Upd.refl _ _)).mono ?_;rintro e w1 ⟨rfl,n1⟩;go_wp2_with fail;go_ret;exact⟨rfl,n1⟩
 ·have N:¬(150:Int)<(xs.length:Int):=by omega
  clear hv;go_enter Tryz.func4,Tryz.ntmps4;go_wp2_with fail;refine(T _ (Upd.refl _ _)).mono ?_;rintro e w1 ⟨rfl,n1⟩;have C:qq w w1:=n1;have D:=hT.new C;have a9:=qb ((qa HV).new C);have K:=qb C;clear T HV n1 C;go_wp2_with fail;refine(qer o c ho hc w1).mono ?_;rintro e w2 (⟨p,rfl,I,S,hD⟩ | ⟨rfl,b3,n2⟩)
  case inr =>
   have hN:=qb ((qa K).trans n2);have Z:c=0∨1125899906842624<c∨c<o:=by omega
   clear b3 n2 K;by_cases h0:c=0
   ·subst h0;go_wp2_with fail;go_ret;exact⟨rfl,qa hN⟩
   ·by_cases h1:1125899906842624<c
    ·have d0:(c==0)=false:=beq_eq_false_iff_ne.2 h0;have d1:decide (1125899906842624<c)=true:=decide_eq_true h1;clear Z;go_wp2_with fail;go_ret;exact⟨rfl,qa hN⟩
    ·have h2:c<o:=by omega
     have d0:(c==0)=false:=beq_eq_false_iff_ne.2 h0;have d1:decide (1125899906842624<c)=false:=decide_eq_false h1;have d2:decide (c<o)=true:=decide_eq_true h2;clear Z;go_wp2_with fail;go_ret;exact⟨rfl,qa hN⟩
  case inl =>
   have z:=qjd ho.1 I;have HI:=qb (fun i (h:i≤xs.length)=>qhq z (qfu.start ho.1 I) hx (by omega) i h);have l:Hid (DuW w1 w2 p ((qek o c).actsD (xs.take 0))):=qb ⟨S,hD⟩;clear hD;go_wp2_with fail
   go_loopw [8] (fun iv wr=>∃i:Nat,iv = .int .i64 (i:Int)∧i≤xs.length∧Hid (DuW w1 wr p ((qek o c).actsD (xs.take i)))) (fun iv _=>xs.length-(intOf iv).toNat)
   case atStart=>exact⟨0,rfl,Nat.zero_le _,l⟩
   case round =>
    obtain⟨i,rfl,hi,HH⟩:=hrel;obtain⟨wq,rfl⟩:∃wq:World,wq=wr:=⟨_,rfl⟩;clear l;by_cases R:i<xs.length
    ·obtain⟨x,E⟩:∃x,xs[i]? = some x:=⟨_,List.getElem?_eq_getElem R⟩;have b5:(i:Int)<(xs.length:Int):=by omega
     obtain⟨gv,off,rfl,a5⟩:=((qa a9).new (qa HH).n).at E;obtain⟨n,hn,hI⟩:=(qa HI i hi).inv (by omega);have hd:=zer D z hn hI (qa HH) x (hx x (List.mem_of_getElem? E));rw[←qhr _ E] at hd;have Y:=qb (qa HI (i+1) R);obtain⟨g,M⟩:∃g,g=(qek o c).actsD (xs.take (i+1)):=⟨_,rfl⟩;rw[←M] at hd Y;have a7:=qb M;clear M;clear E hI;go_wp2_with (with_reducible first|(first|refine' zi (qg ?_) ?_|refine' zj (qg ?_) ?_);rotate_left|refine' zk (qg ?_)|rfl|apply tn|refine' zl ?_);refine hd.mono ?_;rintro e w4 ⟨rfl,H4⟩;have H4:=qb H4;clear hd a5 HH;go_wp2_with (with_reducible first|(first|refine' zi (qg ?_) ?_|refine' zj (qg ?_) ?_);rotate_left|refine' zk (qg ?_)|rfl|apply tn|refine' zl ?_)
     go_loopw [9] (fun kv wr=>∃k:Nat,kv = .int .i64 (k:Int)∧k≤2∧Hid (DuW w1 wr p g)) (fun kv _=>2-(intOf kv).toNat)
     case atStart=>exact⟨0,rfl,by decide,H4⟩
     case round =>
      obtain⟨k,rfl,b9,HK⟩:=hrel;obtain⟨w5,rfl⟩:∃wq:World,wq=wr:=⟨_,rfl⟩;clear H4;by_cases P:k<2
      ·have b8:(k:Int)<2:=by omega
       obtain⟨m,hm,hJ⟩:=(qa Y).inv (by omega);have O:=hJ.end z (by omega) P;have H:(g.en k).total=c:=O.total;have b7:(g.en k).xs.length≤16:=O.inv.few;have HT:=qb H;have F:=q19 (qa HK) P;clear HK hJ O H;go_wp2_with (with_reducible first|(first|refine' zi (qg ?_) ?_|refine' zj (qg ?_) ?_);rotate_left|refine' zk (qg ?_)|rfl|apply tn|refine' zl ?_);refine F.mono ?_;rintro e w6 ⟨S6,g6,rfl,n6,q⟩;have N:=qm9 D q P;have l:=qb q;clear F n6 q;go_wp2_with (with_reducible first|(first|refine' zi (qg ?_) ?_|refine' zj (qg ?_) ?_);rotate_left|refine' zk (qg ?_)|rfl|apply tn|refine' zl ?_);refine N.mono ?_;rintro e w7 ⟨rfl,n7⟩;have F:=q19 ((qa l).new n7).toW P;clear N n7 l;go_wp2_with (with_reducible first|(first|refine' zi (qg ?_) ?_|refine' zj (qg ?_) ?_);rotate_left|refine' zk (qg ?_)|rfl|apply tn|refine' zl ?_);refine F.mono ?_;rintro e w8 ⟨S8,g8,rfl,n8,q⟩;have N:=qm9 D q P;have l:=qb q;clear F n8 q;go_wp2_with (with_reducible first|(first|refine' zi (qg ?_) ?_|refine' zj (qg ?_) ?_);rotate_left|refine' zk (qg ?_)|rfl|apply tn|refine' zl ?_);refine N.mono ?_;rintro e w9 ⟨rfl,n9⟩;have F:=q19 ((qa l).new n9).toW P;clear N n9 l;go_wp2_with (with_reducible first|(first|refine' zi (qg ?_) ?_|refine' zj (qg ?_) ?_);rotate_left|refine' zk (qg ?_)|rfl|apply tn|refine' zl ?_);refine F.mono ?_;rintro e wA ⟨SA,gA,rfl,nA,q⟩;have hl:=qxc D q P;have l:=qb q;clear F nA q;go_wp2_with (with_reducible first|(first|refine' zi (qg ?_) ?_|refine' zj (qg ?_) ?_);rotate_left|refine' zk (qg ?_)|rfl|apply tn|refine' zl ?_)
       refine hl.mono ?_;rintro e wB ⟨xa,xc,rfl,nB,hX⟩;have HB:=qb ((qa l).new nB).toW;have HX:=qb hX;clear hl nB l hX;have X:=qb (show q1z (IntKind.u64.wrap ((g.en k).loc+(g.en k).rem)) (g.en k).xs=c from qa HT);obtain⟨B,hB⟩:∃B,B=IntKind.u64.wrap ((g.en k).loc+(g.en k).rem):=⟨_,rfl⟩;rw[←hB] at X;generalize (g.en k).xs=J at *
       clear HT;have c1:(J.length:Int)≤16:=by omega
       go_wp2_with (with_reducible first|(first|refine' zi (qg ?_) ?_|refine' zj (qg ?_) ?_);rotate_left|refine' zk (qg ?_)|rfl|apply tn|refine' zl ?_)
       go_loopw [10,12] (fun sv jv wr=>∃(j:Nat) (t:Int),sv = .int .u64 t∧jv = .int .i64 (j:Int)∧j≤J.length∧Hid (t=q1z B (J.take j))∧Q wB wr) (fun _ jv _=>J.length-(intOf jv).toNat)
       case atStart=>exact⟨0,B,by rw[hB],rfl,Nat.zero_le _,qb rfl,Q.refl _⟩
       case round =>
        obtain⟨j,t,rfl,rfl,hj,L,V⟩:=hrel;obtain⟨wv,rfl⟩:∃wv:World,wv=wr:=⟨_,rfl⟩;clear hB;by_cases a4:j<J.length
        ·obtain⟨y,U⟩:∃y,J[j]? = some y:=⟨_,List.getElem?_eq_getElem a4⟩;obtain⟨b6,rfl,sy⟩:=((qa HX).new (V.upd _)).amount U;have c0:(j:Int)<(J.length:Int):=by omega
         have a8:=qb (q9x B U);clear U;go_wp2_with (with_reducible first|(first|refine' zi (qg ?_) ?_|refine' zj (qg ?_) ?_);rotate_left|refine' zk (qg ?_)|rfl|apply tn|refine' zl ?_);go_roundw
         case rel=>exact⟨j+1,_,rfl,by go_num,by omega,qb (by rw[qa a8,←qa L]),by first | exact V | exact V.drewN' 1 | exact V.trans ⟨1,rfl⟩⟩
         case measure=>simp[intOf];omega
        ·obtain rfl:j=J.length:=by omega
         have a6:t=c:=by
          rw[qa L,List.take_length];exact qa X
         have H7:Hid (DuW w1 wv p g):=qb ((qa HB).new (V.upd _));rw[a6];clear V HB HX hj a4 L a6;go_wp2_with (with_reducible first|(first|refine' zi (qg ?_) ?_|refine' zj (qg ?_) ?_);rotate_left|refine' zk (qg ?_)|rfl|apply tn|refine' zl ?_);go_roundw
         case rel=>exact⟨k+1,by go_num,by omega,H7⟩
         case measure=>simp[intOf];omega
      ·obtain rfl:k=2:=by omega
       go_wp2_with (with_reducible first|(first|refine' zi (qg ?_) ?_|refine' zj (qg ?_) ?_);rotate_left|refine' zk (qg ?_)|rfl|apply tn|refine' zl ?_);go_roundw
       case rel=>exact⟨i+1,by go_num,R,by rw[←qa a7];exact HK⟩
       case measure=>simp[intOf];omega
    ·obtain rfl:i=xs.length:=by omega
     have HN:=qb ((qa K).trans (qa HH).n);go_wp2_with (with_reducible first|(first|refine' zi (qg ?_) ?_|refine' zj (qg ?_) ?_);rotate_left|refine' zk (qg ?_)|rfl|apply tn|refine' zl ?_);go_ret;exact⟨rfl,qa HN⟩
end Go.Proofs.YthnohmjbbeahmaaGreatDoor
