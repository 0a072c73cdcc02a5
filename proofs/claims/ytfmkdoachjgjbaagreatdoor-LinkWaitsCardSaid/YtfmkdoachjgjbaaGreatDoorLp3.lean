/-
  Law 18: rests.
-/
import Derived.Test.YtfmkdoachjgjbaaGreatDoorMci
set_option maxRecDepth 100000
set_option maxHeartbeats 4000000
set_option linter.unusedVariables false
set_option linter.unusedSimpArgs false
namespace Go.Proofs.YtfmkdoachjgjbaaGreatDoor
open Go.RowKit
structure TickOk(l:Lk)(n:Nat):Prop where
 ok:LkOkW l
 ticks:l.ticks=n
 lt:n<1000000
 say:l.c.sign.2.2=0→SayOk l.c.sign.2.1
 len:l.c.sign.2.1.hash.length=32
 key:l.c.s.key.size≤100000000
 ch:0≤l.c.s.ch∧l.c.s.ch<4294967296
 news:l.c.news.length<1000000
 xs:l.c.xs.length≤16
noncomputable def Pw.ticked(P:Pw)(k n:Nat):Pw:= {P with l:=qbk P.l k ((P.l k).tick n),es:=qbk P.es k (P.es k),bad:=(P.l k).tickE n != 0 || P.bad}
structure FlowOk(P:Pw):Prop where
 dead:∀k,k<2→(P.l k).dead=false
 size:∀k,k<2→(P.way k).size≤1000000000∧(P.l k).out.size≤1000000000
def Pw.all(P:Pw)(k:Nat)(L:Lk)(f:List EvV)(E:Int):Pw:=(P.came k ((P.way k).extract (P.way k).size (P.way k).size) L f E).flow
def qyw(P Q:Pw):Prop:=∃p f m L1 i q v z,ComeOk P 0 (P.way 0).size p f m∧ComeOk (P.all 0 p f m) 1 ((P.all 0 p f m).way 1).size L1 i q ∧
 TickOk (((P.all 0 p f m).all 1 L1 i q).l 0) v∧TickOk ((((P.all 0 p f m).all 1 L1 i q).ticked 0 v).l 1) z ∧
 FlowOk ((((P.all 0 p f m).all 1 L1 i q).ticked 0 v).ticked 1 z)∧Q=((((P.all 0 p f m).all 1 L1 i q).ticked 0 v).ticked 1 z).flow
theorem PwS.tick{K:Nat→Obj→Prop}{w0 w:World}{p:Nat}{g:Nat→Nat}{S:Nat→Nat→Prop}{P:Pw}{k n:Nat}(h:PwS K w0 w p g S P)(i:k<2)(f:TickOk (P.l k) n)(m:Tb w0) :
  Calls Tryz.prog 28 #[.pointer (some ⟨g k,0,none⟩)] w fun e w'=>e = .returned (.int .i64 ((P.l k).tickE n))∧PwS K w0 w' p g (qbk S k (Fr (S k) w w')) {P with l:=qbk P.l k ((P.l k).tick n),es:=qbk P.es k (P.es k)} := by
 refine(zea (g k) (S k) (P.l k) (P.es k) n w (h.lk k i) f.ok f.ticks f.lt f.say f.len (h.tb m).c (h.ap m i).cc f.key f.ch f.news f.xs).mono ?_
 rintro e w' ⟨rfl,q,u⟩
 exact⟨rfl,h.op i u q⟩
theorem q2x(K:Nat→Obj→Prop)(w0 w:World)(p:Nat)(P:Pw)(I:Nat→Pw→Prop)(h:PwD K w0 w p P)(hT:Tb w0)(h0:I 0 P)(b5:∀i P,i<200→I i P→∃Q,qyw P Q∧I (i+1) Q) :
  Calls Tryz.prog 15 #[.pointer (some ⟨p,0,none⟩)] w fun e w'=>e = .returned (.tuple #[])∧∃Q,I 200 Q∧PwD K w0 w' p Q:=by
 have H0:=qb (And.intro h h0)
 have HS:=qb b5
 have HT:=qb hT
 clear h h0 b5 hT
 go_enter Tryz.func15,Tryz.ntmps15
 go_wp2_with fail
 go_loopw [2] (fun iv wr=>∃i:Nat,iv = .int .i64 (i:Int)∧i≤200∧Hid (∃Q,I i Q∧PwD K w0 wr p Q)) (fun iv _=>200-(intOf iv).toNat)
 case atStart=>exact⟨0,rfl,by omega,qb ⟨P,(qa H0).2,(qa H0).1⟩⟩
 case round =>
  obtain⟨i,rfl,hi,hrel⟩:=hrel;obtain⟨wq,rfl⟩:∃wq:World,wq=wr:=⟨_,rfl⟩;clear H0;by_cases c3:i<200
  ·obtain⟨P,hI,hP⟩:=qa hrel;obtain⟨Q,⟨L0,a7,E0,L1,a8,E1,n0,n1,b9,Y,N,v,T,R⟩,q⟩:=qa HS i P c3 hI;have c5:(i:Int)<200:=by omega
   obtain⟨g,S,hs⟩:=hP;have cw:wq.cell? ⟨p,2,none⟩=some (.string (P.way 0)):=(hs.cw (k:=0) (by decide)).1;have Z:=qkp K w0 wq p P 0 (P.way 0).size (P.way 0).size L0 a7 E0 ⟨g,S,hs⟩ (by decide) (by omega) (qa HT) b9;have HX:=qb (And.intro Y (And.intro N (And.intro v (And.intro T (And.intro R q)))));have H:(P.came 0 ((P.way 0).extract (P.way 0).size (P.way 0).size) L0 a7 E0).flow=P.all 0 L0 a7 E0:=rfl;rw[H,show ((0:Nat):Int)=0 from rfl] at Z;clear b9 Y N v T R q hs hI hrel H;generalize P.all 0 L0 a7 E0=W at Z HX;generalize P.way 0=s0 at cw Z;go_wp2_with fail;refine Z.mono ?_;rintro e w1 ⟨rfl,c1⟩;obtain⟨Y,N,v,T,R,q⟩:=qa HX;obtain⟨g,S,hs⟩:=c1;have b8:w1.cell? ⟨p,3,none⟩=some (.string (W.way 1)):=(hs.cw (k:=1) (by decide)).1;have a6:=qkp K w0 w1 p W 1 (W.way 1).size (W.way 1).size L1 a8 E1 ⟨g,S,hs⟩ (by decide) (by omega) (qa HT) Y;have b6:=qb (And.intro N (And.intro v (And.intro T (And.intro R q))));have H:(W.came 1 ((W.way 1).extract (W.way 1).size (W.way 1).size) L1 a8 E1).flow=W.all 1 L1 a8 E1:=rfl;rw[H,show ((1:Nat):Int)=1 from rfl] at a6;clear Y N v T R q hs Z H cw HX;generalize W.all 1 L1 a8 E1=O at a6 b6;generalize W.way 1=s1 at b8 a6;go_wp2_with fail;refine a6.mono ?_;rintro e w2 ⟨rfl,c2⟩;obtain⟨N,v,T,R,q⟩:=qa b6;obtain⟨g,S,hs⟩:=c2;have cl:w2.cell? ⟨p,0,none⟩=some (.pointer (some ⟨g 0,0,none⟩)):=hs.cl (k:=0) (by decide);have z:=hs.tick (k:=0) (by decide) N (qa HT);have b4:O.ticked 0 n0 = {({O with l:=qbk O.l 0 ((O.l 0).tick n0),es:=qbk O.es 0 (O.es 0)} : Pw) with bad:=(O.l 0).tickE n0 != 0 || O.bad} := rfl
   have J:=qb (And.intro b4 (And.intro v (And.intro T (And.intro R q))));clear N v T R q hs b4 a6 b8 b6;generalize O.ticked 0 n0=m at J;generalize (O.l 0).tickE n0=e0 at z J;go_wp2_with fail;refine z.mono ?_;rintro e w3 ⟨rfl,h3⟩;obtain⟨U,f4⟩:=h3.cb;have h4:=h3.putBad (e0 != 0 || O.bad);have H3:=qb (show PwS K w0 (w3.setCell ⟨p,4,none⟩ (.bool (e0 != 0 || O.bad))) p g (qbk S 0 (Fr (S 0) w2 w3)) m from by rw[(qa J).1];exact h4);replace U:w3.cell? ⟨p,4,none⟩=some (.bool O.bad):=U;clear z h3 h4 cl;generalize O.bad=b2 at U H3 J;generalize qbk S 0 (Fr (S 0) w2 w3)=S at H3;replace J:=qb (qa J).2;by_cases h0:e0=0
   ·subst h0;rw[show ((0:Int) != 0 || b2)=b2 from by simp] at H3;obtain⟨v,T,R,q⟩:=qa J;have cl:(w3.setCell ⟨p,4,none⟩ (.bool b2)).cell? ⟨p,1,none⟩=some (.pointer (some ⟨g 1,0,none⟩)):=(qa H3).cl (k:=1) (by decide);have z:=(qa H3).tick (k:=1) (by decide) v (qa HT);have M:m.ticked 1 n1 = {({m with l:=qbk m.l 1 ((m.l 1).tick n1),es:=qbk m.es 1 (m.es 1)} : Pw) with bad:=(m.l 1).tickE n1 != 0 || m.bad} := rfl;have f:=qb (And.intro M (And.intro T (And.intro R q)));clear v T R q M H3 J;generalize m.ticked 1 n1=P4 at f;generalize (m.l 1).tickE n1=X at z f;go_upto_region 6 with fail;generalize w3.setCell ⟨p,4,none⟩ (.bool b2)=w4 at cl z ⊢;clear U f4;go_wp2_with fail;refine z.mono ?_;rintro e V ⟨rfl,h5⟩;obtain⟨U,f4⟩:=h5.cb;have h6:=h5.putBad (X != 0 || m.bad);have L:=qb (show PwS K w0 (V.setCell ⟨p,4,none⟩ (.bool (X != 0 || m.bad))) p g (qbk S 1 (Fr (S 1) w4 V)) P4 from by rw[(qa f).1];exact h6);replace U:V.cell? ⟨p,4,none⟩=some (.bool m.bad):=U;replace f:=qb (qa f).2;clear z h5 h6 cl;generalize m.bad=b3 at U L;generalize qbk S 1 (Fr (S 1) w4 V)=S at L;by_cases h1:X=0
    ·subst h1;rw[show ((0:Int) != 0 || b3)=b3 from by simp] at L;have hq:PwD K w0 (V.setCell ⟨p,4,none⟩ (.bool b3)) p P4:=⟨g,_,qa L⟩;have F:=qgz K w0 _ p _ hq (qa f).1.dead (qa f).1.size;have C:=qb (qa f).2;clear hq L f;go_wp2_with fail;refine F.mono ?_;rintro e w7 ⟨rfl,E⟩;have H7:=qb E;clear F E;go_wp2_with fail;go_roundw
     case rel=>exact⟨i+1,by go_num,by omega,qb ⟨_,(qa C).2,by rw[(qa C).1];exact qa H7⟩⟩
     case measure=>simp[intOf];omega
    ·have b7:(X != 0)=true:=by simpa using h1
     rw[show (X != 0 || b3)=true from by rw[b7];rfl] at L;clear h1;have hq:PwD K w0 (V.setCell ⟨p,4,none⟩ (.bool true)) p P4:=⟨g,_,qa L⟩;have F:=qgz K w0 _ p _ hq (qa f).1.dead (qa f).1.size;have C:=qb (qa f).2;clear hq L f;go_wp2_with fail;refine F.mono ?_;rintro e w7 ⟨rfl,E⟩;have H7:=qb E;clear F E;go_wp2_with fail;go_roundw
     case rel=>exact⟨i+1,by go_num,by omega,qb ⟨_,(qa C).2,by rw[(qa C).1];exact qa H7⟩⟩
     case measure=>simp[intOf];omega
   ·have c0:(e0 != 0)=true:=by simpa using h0
    rw[show (e0 != 0 || b2)=true from by rw[c0];rfl] at H3;clear h0;obtain⟨v,T,R,q⟩:=qa J;have cl:(w3.setCell ⟨p,4,none⟩ (.bool true)).cell? ⟨p,1,none⟩=some (.pointer (some ⟨g 1,0,none⟩)):=(qa H3).cl (k:=1) (by decide);have z:=(qa H3).tick (k:=1) (by decide) v (qa HT);have M:m.ticked 1 n1 = {({m with l:=qbk m.l 1 ((m.l 1).tick n1),es:=qbk m.es 1 (m.es 1)} : Pw) with bad:=(m.l 1).tickE n1 != 0 || m.bad} := rfl;have f:=qb (And.intro M (And.intro T (And.intro R q)));clear v T R q M H3 J;generalize m.ticked 1 n1=P4 at f;generalize (m.l 1).tickE n1=X at z f;go_upto_region 6 with fail;generalize w3.setCell ⟨p,4,none⟩ (.bool true)=w4 at cl z ⊢;clear U f4;go_wp2_with fail;refine z.mono ?_;rintro e V ⟨rfl,h5⟩;obtain⟨U,f4⟩:=h5.cb;have h6:=h5.putBad (X != 0 || m.bad);have L:=qb (show PwS K w0 (V.setCell ⟨p,4,none⟩ (.bool (X != 0 || m.bad))) p g (qbk S 1 (Fr (S 1) w4 V)) P4 from by rw[(qa f).1];exact h6);replace U:V.cell? ⟨p,4,none⟩=some (.bool m.bad):=U;replace f:=qb (qa f).2;clear z h5 h6 cl;generalize m.bad=b3 at U L;generalize qbk S 1 (Fr (S 1) w4 V)=S at L;by_cases h1:X=0
    ·subst h1;rw[show ((0:Int) != 0 || b3)=b3 from by simp] at L;have hq:PwD K w0 (V.setCell ⟨p,4,none⟩ (.bool b3)) p P4:=⟨g,_,qa L⟩;have F:=qgz K w0 _ p _ hq (qa f).1.dead (qa f).1.size;have C:=qb (qa f).2;clear hq L f;go_wp2_with fail;refine F.mono ?_;rintro e w7 ⟨rfl,E⟩;have H7:=qb E;clear F E;go_wp2_with fail;go_roundw
     case rel=>exact⟨i+1,by go_num,by omega,qb ⟨_,(qa C).2,by rw[(qa C).1];exact qa H7⟩⟩
     case measure=>simp[intOf];omega
    ·have b7:(X != 0)=true:=by simpa using h1
     rw[show (X != 0 || b3)=true from by rw[b7];rfl] at L;clear h1;have hq:PwD K w0 (V.setCell ⟨p,4,none⟩ (.bool true)) p P4:=⟨g,_,qa L⟩;have F:=qgz K w0 _ p _ hq (qa f).1.dead (qa f).1.size;have C:=qb (qa f).2;clear hq L f;go_wp2_with fail;refine F.mono ?_;rintro e w7 ⟨rfl,E⟩;have H7:=qb E;clear F E;go_wp2_with fail;go_roundw
     case rel=>exact⟨i+1,by go_num,by omega,qb ⟨_,(qa C).2,by rw[(qa C).1];exact qa H7⟩⟩
     case measure=>simp[intOf];omega
  ·obtain rfl:i=200:=by omega
   go_wp2_with fail;go_end0;exact⟨rfl,qa hrel⟩
end Go.Proofs.YtfmkdoachjgjbaaGreatDoor
