/-
  Law 18: rests.
-/
import Derived.Test.YtfmkdoachjgjbaaGreatDoorLp2
set_option maxRecDepth 100000
set_option maxHeartbeats 4000000
set_option linter.unusedVariables false
set_option linter.unusedSimpArgs false
namespace Go.Proofs.YtfmkdoachjgjbaaGreatDoor
open Go.RowKit
structure TickOk(l:Lk)(n:Nat):Prop where
 ok:LkOkW l
 ticks:l.ticks=n
 lt:n<1000000
 say:l.c.sign.2.2=0→SayOk l.c.sign.2.1
 len:l.c.sign.2.1.hash.length=32
 key:l.c.s.key.size≤100000000
 ch:0≤l.c.s.ch∧l.c.s.ch<4294967296
 news:l.c.news.length<1000000
 xs:l.c.xs.length≤16
noncomputable def Pw.ticked(P:Pw)(k n:Nat):Pw:= {P with l:=qbn P.l k ((P.l k).tick n),es:=qbn P.es k (P.es k),bad:=(P.l k).tickE n != 0 || P.bad}
structure FlowOk(P:Pw):Prop where
 dead:∀k,k<2→(P.l k).dead=false
 size:∀k,k<2→(P.way k).size≤1000000000∧(P.l k).out.size≤1000000000
def Pw.all(P:Pw)(k:Nat)(L:Lk)(f:List EvV)(E:Int):Pw:=(P.came k ((P.way k).extract (P.way k).size (P.way k).size) L f E).flow
def RoundOk(P Q:Pw):Prop:=∃q f m L1 i r v z,ComeOk P 0 (P.way 0).size q f m∧ComeOk (P.all 0 q f m) 1 ((P.all 0 q f m).way 1).size L1 i r ∧
 TickOk (((P.all 0 q f m).all 1 L1 i r).l 0) v∧TickOk ((((P.all 0 q f m).all 1 L1 i r).ticked 0 v).l 1) z ∧
 FlowOk ((((P.all 0 q f m).all 1 L1 i r).ticked 0 v).ticked 1 z)∧Q=((((P.all 0 q f m).all 1 L1 i r).ticked 0 v).ticked 1 z).flow
theorem PwS.tick{K:Nat→Obj→Prop}{w0 w:World}{p:Nat}{g:Nat→Nat}{S:Nat→Nat→Prop}{P:Pw}{k n:Nat}(h:PwS K w0 w p g S P)(i:k<2)(f:TickOk (P.l k) n)(m:Tb w0) :
  Calls Tryz.prog 28 #[.pointer (some ⟨g k,0,none⟩)] w fun e w'=>e = .returned (.int .i64 ((P.l k).tickE n))∧PwS K w0 w' p g (qbn S k (Fr (S k) w w')) {P with l:=qbn P.l k ((P.l k).tick n),es:=qbn P.es k (P.es k)} := by
 refine(zdj (g k) (S k) (P.l k) (P.es k) n w (h.lk k i) f.ok f.ticks f.lt f.say f.len (h.tb m).c (h.ap m i).cc f.key f.ch f.news f.xs).mono ?_
 rintro e w' ⟨rfl,q,u⟩
 exact⟨rfl,h.op i u q⟩
theorem q2r(K:Nat→Obj→Prop)(w0 w:World)(p:Nat)(P:Pw)(I:Nat→Pw→Prop)(h:PwD K w0 w p P)(hT:Tb w0)(h0:I 0 P)(b4:∀i P,i<200→I i P→∃Q,RoundOk P Q∧I (i+1) Q) :
  Calls Tryz.prog 15 #[.pointer (some ⟨p,0,none⟩)] w fun e w'=>e = .returned (.tuple #[])∧∃Q,I 200 Q∧PwD K w0 w' p Q:=by
 have H0:=qb (And.intro h h0)
 have HS:=qb b4
 have HT:=qb hT
 clear h h0 b4 hT
 go_enter Tryz.func15,Tryz.ntmps15
 go_wp2_with fail
 go_loopw [2] (fun iv wr=>∃i:Nat,iv = .int .i64 (i:Int)∧i≤200∧Hid (∃Q,I i Q∧PwD K w0 wr p Q)) (fun iv _=>200-(intOf iv).toNat)
 case atStart=>exact⟨0,rfl,by omega,qb ⟨P,(qa H0).2,(qa H0).1⟩⟩
 case round =>
  obtain⟨i,rfl,hi,hrel⟩:=hrel;obtain⟨wq,rfl⟩:∃wq:World,wq=wr:=⟨_,rfl⟩;clear H0;by_cases c2:i<200
  ·obtain⟨P,hI,hP⟩:=qa hrel;obtain⟨Q,⟨L0,a6,E0,L1,a7,E1,n0,n1,b8,X,M,r,R,O⟩,q⟩:=qa HS i P c2 hI;have c3:(i:Int)<200:=by omega
   obtain⟨g,S,hs⟩:=hP;have cw:wq.cell? ⟨p,2,none⟩=some (.string (P.way 0)):=(hs.cw (k:=0) (by decide)).1;have Y:=qtq K w0 wq p P 0 (P.way 0).size (P.way 0).size L0 a6 E0 ⟨g,S,hs⟩ (by decide) (by omega) (qa HT) b8;have HX:=qb (And.intro X (And.intro M (And.intro r (And.intro R (And.intro O q)))));have F:(P.came 0 ((P.way 0).extract (P.way 0).size (P.way 0).size) L0 a6 E0).flow=P.all 0 L0 a6 E0:=rfl;rw[F,show ((0:Nat):Int)=0 from rfl] at Y;clear b8 X M r R O q hs hI hrel F;generalize P.all 0 L0 a6 E0=V at Y HX;generalize P.way 0=s0 at cw Y;go_wp2_with fail;refine Y.mono ?_;rintro e w1 ⟨rfl,c0⟩;obtain⟨X,M,r,R,O,q⟩:=qa HX;obtain⟨g,S,hs⟩:=c0;have b7:w1.cell? ⟨p,3,none⟩=some (.string (V.way 1)):=(hs.cw (k:=1) (by decide)).1;have Z:=qtq K w0 w1 p V 1 (V.way 1).size (V.way 1).size L1 a7 E1 ⟨g,S,hs⟩ (by decide) (by omega) (qa HT) X;have b5:=qb (And.intro M (And.intro r (And.intro R (And.intro O q))));have F:(V.came 1 ((V.way 1).extract (V.way 1).size (V.way 1).size) L1 a7 E1).flow=V.all 1 L1 a7 E1:=rfl;rw[F,show ((1:Nat):Int)=1 from rfl] at Z;clear X M r R O q hs Y F cw HX;generalize V.all 1 L1 a7 E1=N at Z b5;generalize V.way 1=s1 at b7 Z;go_wp2_with fail;refine Z.mono ?_;rintro e w2 ⟨rfl,c1⟩;obtain⟨M,r,R,O,q⟩:=qa b5;obtain⟨g,S,hs⟩:=c1;have cl:w2.cell? ⟨p,0,none⟩=some (.pointer (some ⟨g 0,0,none⟩)):=hs.cl (k:=0) (by decide);have v:=hs.tick (k:=0) (by decide) M (qa HT);have a8:N.ticked 0 n0 = {({N with l:=qbn N.l 0 ((N.l 0).tick n0),es:=qbn N.es 0 (N.es 0)} : Pw) with bad:=(N.l 0).tickE n0 != 0 || N.bad} := rfl
   have H:=qb (And.intro a8 (And.intro r (And.intro R (And.intro O q))));clear M r R O q hs a8 Z b7 b5;generalize N.ticked 0 n0=m at H;generalize (N.l 0).tickE n0=e0 at v H;go_wp2_with fail;refine v.mono ?_;rintro e w3 ⟨rfl,h3⟩;obtain⟨T,f4⟩:=h3.cb;have h4:=h3.putBad (e0 != 0 || N.bad);have H3:=qb (show PwS K w0 (w3.setCell ⟨p,4,none⟩ (.bool (e0 != 0 || N.bad))) p g (qbn S 0 (Fr (S 0) w2 w3)) m from by rw[(qa H).1];exact h4);replace T:w3.cell? ⟨p,4,none⟩=some (.bool N.bad):=T;clear v h3 h4 cl;generalize N.bad=b2 at T H3 H;generalize qbn S 0 (Fr (S 0) w2 w3)=S at H3;replace H:=qb (qa H).2;by_cases h0:e0=0
   ·subst h0;rw[show ((0:Int) != 0 || b2)=b2 from by simp] at H3;obtain⟨r,R,O,q⟩:=qa H;have cl:(w3.setCell ⟨p,4,none⟩ (.bool b2)).cell? ⟨p,1,none⟩=some (.pointer (some ⟨g 1,0,none⟩)):=(qa H3).cl (k:=1) (by decide);have v:=(qa H3).tick (k:=1) (by decide) r (qa HT);have L:m.ticked 1 n1 = {({m with l:=qbn m.l 1 ((m.l 1).tick n1),es:=qbn m.es 1 (m.es 1)} : Pw) with bad:=(m.l 1).tickE n1 != 0 || m.bad} := rfl;have f:=qb (And.intro L (And.intro R (And.intro O q)));clear r R O q L H3 H;generalize m.ticked 1 n1=P4 at f;generalize (m.l 1).tickE n1=W at v f;go_upto_region 6 with fail;generalize w3.setCell ⟨p,4,none⟩ (.bool b2)=w4 at cl v ⊢;clear T f4;go_wp2_with fail;refine v.mono ?_;rintro e U ⟨rfl,h5⟩;obtain⟨T,f4⟩:=h5.cb;have h6:=h5.putBad (W != 0 || m.bad);have J:=qb (show PwS K w0 (U.setCell ⟨p,4,none⟩ (.bool (W != 0 || m.bad))) p g (qbn S 1 (Fr (S 1) w4 U)) P4 from by rw[(qa f).1];exact h6);replace T:U.cell? ⟨p,4,none⟩=some (.bool m.bad):=T;replace f:=qb (qa f).2;clear v h5 h6 cl;generalize m.bad=b3 at T J;generalize qbn S 1 (Fr (S 1) w4 U)=S at J;by_cases h1:W=0
    ·subst h1;rw[show ((0:Int) != 0 || b3)=b3 from by simp] at J;have hq:PwD K w0 (U.setCell ⟨p,4,none⟩ (.bool b3)) p P4:=⟨g,_,qa J⟩;have E:=qg2 K w0 _ p _ hq (qa f).1.dead (qa f).1.size;have z:=qb (qa f).2;clear hq J f;go_wp2_with fail;refine E.mono ?_;rintro e w7 ⟨rfl,C⟩;have H7:=qb C;clear E C;go_wp2_with fail;go_roundw
     case rel=>exact⟨i+1,by go_num,by omega,qb ⟨_,(qa z).2,by rw[(qa z).1];exact qa H7⟩⟩
     case measure=>simp[intOf];omega
    ·have b6:(W != 0)=true:=by simpa using h1
     rw[show (W != 0 || b3)=true from by rw[b6];rfl] at J;clear h1;have hq:PwD K w0 (U.setCell ⟨p,4,none⟩ (.bool true)) p P4:=⟨g,_,qa J⟩;have E:=qg2 K w0 _ p _ hq (qa f).1.dead (qa f).1.size;have z:=qb (qa f).2;clear hq J f;go_wp2_with fail;refine E.mono ?_;rintro e w7 ⟨rfl,C⟩;have H7:=qb C;clear E C;go_wp2_with fail;go_roundw
     case rel=>exact⟨i+1,by go_num,by omega,qb ⟨_,(qa z).2,by rw[(qa z).1];exact qa H7⟩⟩
     case measure=>simp[intOf];omega
   ·have b9:(e0 != 0)=true:=by simpa using h0
    rw[show (e0 != 0 || b2)=true from by rw[b9];rfl] at H3;clear h0;obtain⟨r,R,O,q⟩:=qa H;have cl:(w3.setCell ⟨p,4,none⟩ (.bool true)).cell? ⟨p,1,none⟩=some (.pointer (some ⟨g 1,0,none⟩)):=(qa H3).cl (k:=1) (by decide);have v:=(qa H3).tick (k:=1) (by decide) r (qa HT);have L:m.ticked 1 n1 = {({m with l:=qbn m.l 1 ((m.l 1).tick n1),es:=qbn m.es 1 (m.es 1)} : Pw) with bad:=(m.l 1).tickE n1 != 0 || m.bad} := rfl;have f:=qb (And.intro L (And.intro R (And.intro O q)));clear r R O q L H3 H;generalize m.ticked 1 n1=P4 at f;generalize (m.l 1).tickE n1=W at v f;go_upto_region 6 with fail;generalize w3.setCell ⟨p,4,none⟩ (.bool true)=w4 at cl v ⊢;clear T f4;go_wp2_with fail;refine v.mono ?_;rintro e U ⟨rfl,h5⟩;obtain⟨T,f4⟩:=h5.cb;have h6:=h5.putBad (W != 0 || m.bad);have J:=qb (show PwS K w0 (U.setCell ⟨p,4,none⟩ (.bool (W != 0 || m.bad))) p g (qbn S 1 (Fr (S 1) w4 U)) P4 from by rw[(qa f).1];exact h6);replace T:U.cell? ⟨p,4,none⟩=some (.bool m.bad):=T;replace f:=qb (qa f).2;clear v h5 h6 cl;generalize m.bad=b3 at T J;generalize qbn S 1 (Fr (S 1) w4 U)=S at J;by_cases h1:W=0
    ·subst h1;rw[show ((0:Int) != 0 || b3)=b3 from by simp] at J;have hq:PwD K w0 (U.setCell ⟨p,4,none⟩ (.bool b3)) p P4:=⟨g,_,qa J⟩;have E:=qg2 K w0 _ p _ hq (qa f).1.dead (qa f).1.size;have z:=qb (qa f).2;clear hq J f;go_wp2_with fail;refine E.mono ?_;rintro e w7 ⟨rfl,C⟩;have H7:=qb C;clear E C;go_wp2_with fail;go_roundw
     case rel=>exact⟨i+1,by go_num,by omega,qb ⟨_,(qa z).2,by rw[(qa z).1];exact qa H7⟩⟩
     case measure=>simp[intOf];omega
    ·have b6:(W != 0)=true:=by simpa using h1
     rw[show (W != 0 || b3)=true from by rw[b6];rfl] at J;clear h1;have hq:PwD K w0 (U.setCell ⟨p,4,none⟩ (.bool true)) p P4:=⟨g,_,qa J⟩;have E:=qg2 K w0 _ p _ hq (qa f).1.dead (qa f).1.size;have z:=qb (qa f).2;clear hq J f;go_wp2_with fail;refine E.mono ?_;rintro e w7 ⟨rfl,C⟩;have H7:=qb C;clear E C;go_wp2_with fail;go_roundw
     case rel=>exact⟨i+1,by go_num,by omega,qb ⟨_,(qa z).2,by rw[(qa z).1];exact qa H7⟩⟩
     case measure=>simp[intOf];omega
  ·obtain rfl:i=200:=by omega
   go_wp2_with fail;go_end0;exact⟨rfl,qa hrel⟩
end Go.Proofs.YtfmkdoachjgjbaaGreatDoor
