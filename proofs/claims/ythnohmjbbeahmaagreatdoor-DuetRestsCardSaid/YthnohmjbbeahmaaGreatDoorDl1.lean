/-
  The law DuetRests, walked (printed by tools/mk_dul.py).
-/
import Derived.Test.YthnohmjbbeahmaaGreatDoorMef
set_option linter.unusedVariables false
set_option linter.unusedSimpArgs false
namespace Go.Proofs.YthnohmjbbeahmaaGreatDoor
open Go.RowKit
attribute [local go_sem ↓ high] qhc
attribute [local go_sem] qq9 zb
set_option maxRecDepth 100000 in
set_option maxHeartbeats 4000000 in
theorem q1f(o c:Int)(v:Value)(xs:List ActD)(w:World)(ho:0≤o∧o<18446744073709551616)(hc:0≤c∧c<18446744073709551616)(hv:qg6 w v xs)(N:∀x∈xs,x.Ok)(hT:Tb w) :
  Calls Tryz.prog 6 #[.int .u64 o,.int .u64 c,v] w (qbf (.bool true) w):=by
 obtain⟨va,vc,rfl⟩:=hv.slice
 have M:=fun W (n:qq w W)=>qit W (hT.new n)
 have HV:=qb hv
 by_cases b7:80<xs.length
 ·have hb:(80:Int)<(xs.length:Int):=by omega
  clear hv;go_enter Tryz.func6,Tryz.ntmps6;go_wp2_with fail;refine(M _ (Upd.refl _ _)).mono ?_;rintro e w1 ⟨rfl,n1⟩;go_wp2_with fail;go_ret;exact⟨rfl,n1⟩
 ·have hb:¬(80:Int)<(xs.length:Int):=by omega
  clear hv;go_enter Tryz.func6,Tryz.ntmps6;go_wp2_with fail;refine(M _ (Upd.refl _ _)).mono ?_;rintro e w1 ⟨rfl,n1⟩;have l:qq w w1:=n1;have q:=hT.new l;have a9:=qb ((qa HV).new l);have J:=qb l;clear M HV n1 l;go_wp2_with fail;refine(qer o c ho hc w1).mono ?_;rintro e w2 (⟨p,rfl,I,S,hD⟩ | ⟨rfl,b4,n2⟩)
  case inr =>
   have hN:=qb ((qa J).trans n2);have X:c=0∨1125899906842624<c∨c<o:=by omega
   clear b4 n2 J;by_cases h0:c=0
   ·subst h0;go_wp2_with fail;go_ret;exact⟨rfl,qa hN⟩
   ·by_cases h1:1125899906842624<c
    ·have d0:(c==0)=false:=beq_eq_false_iff_ne.2 h0;have d1:decide (1125899906842624<c)=true:=decide_eq_true h1;clear X;go_wp2_with fail;go_ret;exact⟨rfl,qa hN⟩
    ·have h2:c<o:=by omega
     have d0:(c==0)=false:=beq_eq_false_iff_ne.2 h0;have d1:decide (1125899906842624<c)=false:=decide_eq_false h1;have d2:decide (c<o)=true:=decide_eq_true h2;clear X;go_wp2_with fail;go_ret;exact⟨rfl,qa hN⟩
  case inl =>
   have g:=qjd ho.1 I;have V:=qb (fun i (h:i≤xs.length)=>qhq g (qfu.start ho.1 I) N (by omega) i h);have HG:Hid (DuW w1 w2 p ((qek o c).actsD (xs.take 0))):=qb ⟨S,hD⟩;clear hD;go_wp2_with fail
   go_loopw [8] (fun iv wr=>∃i:Nat,iv = .int .i64 (i:Int)∧i≤xs.length∧Hid (DuW w1 wr p ((qek o c).actsD (xs.take i)))) (fun iv _=>xs.length-(intOf iv).toNat)
   case atStart=>exact⟨0,rfl,Nat.zero_le _,HG⟩
   case round =>
    obtain⟨i,rfl,hi,t⟩:=hrel;obtain⟨wq,rfl⟩:∃wq:World,wq=wr:=⟨_,rfl⟩;clear HG;by_cases D:i<xs.length
    ·obtain⟨x,F⟩:∃x,xs[i]? = some x:=⟨_,List.getElem?_eq_getElem D⟩;have b8:(i:Int)<(xs.length:Int):=by omega
     obtain⟨gv,off,rfl,a4⟩:=((qa a9).new (qa t).n).at F;obtain⟨n,hn,K⟩:=(qa V i hi).inv (by omega);have hd:=zer q g hn K (qa t) x (N x (List.mem_of_getElem? F));rw[←qhr _ F] at hd;have a6:=qb (qa V (i+1) D);obtain⟨P',L⟩:∃P',P'=(qek o c).actsD (xs.take (i+1)):=⟨_,rfl⟩;rw[←L] at hd a6;have a7:=qb L;clear L;clear F K;go_wp2_with (with_reducible first|(first|refine' zi (qg ?_) ?_|refine' zj (qg ?_) ?_);rotate_left|refine' zk (qg ?_)|rfl|apply tn|refine' zl ?_);refine hd.mono ?_;rintro e w4 ⟨rfl,P⟩;have P:=qb P;clear hd a4 t;go_wp2_with (with_reducible first|(first|refine' zi (qg ?_) ?_|refine' zj (qg ?_) ?_);rotate_left|refine' zk (qg ?_)|rfl|apply tn|refine' zl ?_);go_roundw
     case rel=>exact⟨i+1,by go_num,D,by rw[←qa a7];exact P⟩
     case measure=>simp[intOf];omega
    ·obtain rfl:i=xs.length:=by omega
     obtain⟨n,hn,K⟩:=(qa V _ (Nat.le_refl _)).inv (by omega);obtain⟨m,hm,C⟩:=((qa V _ (Nat.le_refl _)).rest g (by omega)).inv (by omega);have E:=zhz q g hn K (qa t);have hR:=((Bnd.of K).rest g (by have:=K.mu;omega)).2;have l:=qb (qa J);obtain⟨Z,hZ⟩:∃Z,Z=((qek o c).actsD (xs.take xs.length)).restD:=⟨_,rfl⟩;rw[←hZ] at E hR C;clear K V t hZ;go_wp2_with (with_reducible first|(first|refine' zi (qg ?_) ?_|refine' zj (qg ?_) ?_);rotate_left|refine' zk (qg ?_)|rfl|apply tn|refine' zl ?_);refine E.mono ?_;rintro e w4 ⟨rfl,P⟩;have z:=qb (And.intro (quiet_of (by omega) C hR) (And.intro hR C));have HZ:Hid (DuW w1 w4 p Z):=qb P;clear E P D hi N hR C;go_wp2_with (with_reducible first|(first|refine' zi (qg ?_) ?_|refine' zj (qg ?_) ?_);rotate_left|refine' zk (qg ?_)|rfl|apply tn|refine' zl ?_)
     go_loopw [9] (fun kv wr=>∃k:Nat,kv = .int .i64 (k:Int)∧k≤2∧Hid (DuW w1 wr p Z)) (fun kv _=>2-(intOf kv).toNat)
     case atStart=>exact⟨0,rfl,by decide,HZ⟩
     case round =>
      obtain⟨k,rfl,c2,t⟩:=hrel;obtain⟨b6,rfl⟩:∃wq:World,wq=wr:=⟨_,rfl⟩;clear HZ;by_cases H:k<2
      ·have c1:(k:Int)<2:=by omega
       have he:=q19 (qa t) H;have c0:(Z.en k).xs.length≤16:=((qa z).2.2.end g (by omega) H).inv.few;have b3:Hid (∀x∈(Z.en k).xs,x.state=4):=qb (by
        rcases qbk H with rfl | rfl
        ·exact fun x N=>((qa z).1.four x N).1
        ·exact fun x N=>q38 (qa z).1 N)
       clear t;go_wp2_with (with_reducible first|(first|refine' zi (qg ?_) ?_|refine' zj (qg ?_) ?_);rotate_left|refine' zk (qg ?_)|rfl|apply tn|refine' zl ?_);refine he.mono ?_;rintro e w5 ⟨S5,g5,rfl,n5,hG⟩;have hl:=qxc q hG H;have U:=qb hG;clear he n5 hG;go_wp2_with (with_reducible first|(first|refine' zi (qg ?_) ?_|refine' zj (qg ?_) ?_);rotate_left|refine' zk (qg ?_)|rfl|apply tn|refine' zl ?_);refine hl.mono ?_;rintro e w6 ⟨xa,xc,rfl,n6,hX⟩;have H6:=qb ((qa U).new n6).toW;have HX:=qb hX;clear hl n6 U hX;go_wp2_with (with_reducible first|(first|refine' zi (qg ?_) ?_|refine' zj (qg ?_) ?_);rotate_left|refine' zk (qg ?_)|rfl|apply tn|refine' zl ?_)
       go_loopw [11] (fun jv wr=>∃j:Nat,jv = .int .i64 (j:Int)∧j≤(Z.en k).xs.length∧Q w6 wr) (fun jv _=>(Z.en k).xs.length-(intOf jv).toNat)
       case atStart=>exact⟨0,rfl,Nat.zero_le _,Q.refl _⟩
       case round =>
        obtain⟨j,rfl,hj,R⟩:=hrel;obtain⟨wv,rfl⟩:∃wv:World,wv=wr:=⟨_,rfl⟩;by_cases Y:j<(Z.en k).xs.length
        ·obtain⟨y,O⟩:∃y,(Z.en k).xs[j]? = some y:=⟨_,List.getElem?_eq_getElem Y⟩;obtain⟨b9,rfl,-,-,-,sy⟩:=((qa HX).new (R.upd _)).row O;rw[qa b3 y (List.mem_of_getElem? O)] at sy;have c3:(j:Int)<((Z.en k).xs.length:Int):=by omega
         clear O;generalize (Z.en k).xs.length=nl at *
         go_wp2_with (with_reducible first|(first|refine' zi (qg ?_) ?_|refine' zj (qg ?_) ?_);rotate_left|refine' zk (qg ?_)|rfl|apply tn|refine' zl ?_);go_roundw
         case rel=>exact⟨j+1,by go_num,by omega,by first | exact R | exact R.drewN' 1 | exact R.trans ⟨1,rfl⟩⟩
         case measure=>simp[intOf];omega
        ·obtain rfl:j=(Z.en k).xs.length:=by omega
         have H7:Hid (DuW w1 wv p Z):=qb ((qa H6).new (R.upd _));have hw:=zkg ((qa H7).new ((Upd.refl (fun _=>False) wv).drew)) H (qa z).2.1;have a5:=zkg (qa H7) H (qa z).2.1;clear R H6 HX hj Y;generalize (Z.en k).xs.length=nl at *
         go_wp2_with (with_reducible first|(first|refine' zi (qg ?_) ?_|refine' zj (qg ?_) ?_);rotate_left|refine' zk (qg ?_)|rfl|apply tn|refine' zl ?_)
         first | refine a5.mono ?_ | refine hw.mono ?_
         rintro e w8 ⟨⟨a8,c8,rfl⟩,H8⟩;have hs:=q40 q g (show m<59000 from hm) (qa z).2.2 H8 H (qa z).2.1;clear hw a5 H7 H8;go_wp2_with (with_reducible first|(first|refine' zi (qg ?_) ?_|refine' zj (qg ?_) ?_);rotate_left|refine' zk (qg ?_)|rfl|apply tn|refine' zl ?_);refine hs.mono ?_;rintro e w9 ⟨rfl,H9⟩;have hh:=q2a H9 H (qa z).2.1;clear hs H9;go_wp2_with (with_reducible first|(first|refine' zi (qg ?_) ?_|refine' zj (qg ?_) ?_);rotate_left|refine' zk (qg ?_)|rfl|apply tn|refine' zl ?_);refine hh.mono ?_;rintro e b5 ⟨rfl,T⟩;have HN:Hid (DuW w1 b5 p Z):=qb T;clear hh T;go_wp2_with (with_reducible first|(first|refine' zi (qg ?_) ?_|refine' zj (qg ?_) ?_);rotate_left|refine' zk (qg ?_)|rfl|apply tn|refine' zl ?_);go_roundw
         case rel=>exact⟨k+1,by go_num,by omega,HN⟩
         case measure=>simp[intOf];omega
      ·obtain rfl:k=2:=by omega
       have E:=zhz q g (show m<59000 from hm) (qa z).2.2 (qa t);rw[(qnt (qa z).2.1).2] at E;have E:Calls Tryz.prog 13 #[.pointer (some ⟨p,0,none⟩)] b6 fun e w'=>e = .returned (.int .i64 0)∧DuW w1 w' p Z.restD:=E
       clear t;go_wp2_with (with_reducible first|(first|refine' zi (qg ?_) ?_|refine' zj (qg ?_) ?_);rotate_left|refine' zk (qg ?_)|rfl|apply tn|refine' zl ?_);refine E.mono ?_;rintro e w5 ⟨rfl,H5⟩;have HN:=qb ((qa l).trans H5.n);clear E H5;go_wp2_with (with_reducible first|(first|refine' zi (qg ?_) ?_|refine' zj (qg ?_) ?_);rotate_left|refine' zk (qg ?_)|rfl|apply tn|refine' zl ?_);go_ret;exact⟨rfl,qa HN⟩
end Go.Proofs.YthnohmjbbeahmaaGreatDoor
