/-
  The law DuetAll, walked.
-/
import Derived.Test.YthnohmjbbeahmaaGreatDoorMei
set_option linter.unusedVariables false
set_option linter.unusedSimpArgs false
namespace Go.Proofs.YthnohmjbbeahmaaGreatDoor
open Go.RowKit
theorem qih.slice14{k:IntKind}{w:World}{v:Value}{g:List Int}(h:qih k w v g):∃a c,v = .slice a g.length c:=by
 rcases h with ⟨_,_,rfl,rfl⟩ | ⟨b,off,cap,rfl,_⟩
 ·exact⟨_,_,rfl⟩
 ·exact⟨_,_,rfl⟩
theorem qih.at14{k:IntKind}{w:World}{a:Option Addr}{n c:Nat}{g:List Int}(h:qih k w (.slice a n c) g){i:Nat}(l:i<g.length) :
  ∃b off,a=some ⟨b,off,none⟩∧w.cell? ⟨b,off+i,none⟩=some (.int k (g.getD i 0))∧(Lit.int k (g.getD i 0)).wf=true:=by
 rcases h with ⟨_,_,e,rfl⟩ | ⟨b,off,cap,e,_,_,_,m,o⟩
 ·exact absurd l (Nat.not_lt_zero _)
 ·cases e;exact⟨b,off,rfl,m i l,o _ (qv6 l)⟩
theorem qih.new14{k:IntKind}{w w':World}{v:Value}{g:List Int}(h:qih k w v g)(u:qu w w'):qih k w' v g:=by
 rcases h with h | ⟨b,off,cap,e,l,m,o,q,z⟩
 ·exact .inl h
 ·exact .inr ⟨b,off,cap,e,l,m,o,fun i t=>u.cell (q i t) (fun h=>h),z⟩
attribute [local go_sem] zb qoo qop
set_option maxRecDepth 100000 in
set_option maxHeartbeats 4000000 in
theorem q46(v:Value)(ns:List Int)(l0 l1:Int)(f3 : -9223372036854775808≤l0∧l0≤9223372036854775807)(f4 : -9223372036854775808≤l1∧l1≤9223372036854775807)(w:World)(hv:qih .u8 w v ns)(hT:Tb w) :
  Calls Tryz.prog 3 #[v,.agg #[.int .i64 l0,.int .i64 l1]] w (qbr (.bool true) w):=by
 obtain⟨va,vc,rfl⟩:=hv.slice14
 have e3:=fun W (n:qu w W)=>q0d W (hT.new n)
 have HV:=qb hv
 by_cases g6:16<ns.length
 ·have hb:(16:Int)<(ns.length:Int):=by omega
  clear hv;go_enter Tryz.func3,Tryz.ntmps3;go_upto_region 1 with fail;have nb:qu w (w.alloc (.cells #[.int .i64 l0,.int .i64 l1] 23)):=(Upd.refl _ _).alloc _;generalize w.alloc (.cells #[.int .i64 l0,.int .i64 l1] 23)=wb at nb ⊢;have c9:=qb nb;clear nb;go_wp2_with fail;refine(e3 _ (qa c9)).mono ?_;rintro e w1 ⟨rfl,n1⟩;go_wp2_with fail;go_ret;exact⟨rfl,(qa c9).trans n1⟩
 ·have hb:¬(16:Int)<(ns.length:Int):=by omega
  clear hv;go_enter Tryz.func3,Tryz.ntmps3;go_upto_region 1 with fail;have nb:qu w (w.alloc (.cells #[.int .i64 l0,.int .i64 l1] 23)):=(Upd.refl _ _).alloc _;have bb:=qi w (.cells #[.int .i64 l0,.int .i64 l1] 23);generalize w.alloc (.cells #[.int .i64 l0,.int .i64 l1] 23)=wb at nb bb ⊢;generalize w.heap.size=LB at bb ⊢;have c9:=qb nb;have f6:=qb bb;clear nb bb;go_wp2_with fail;refine(e3 _ (qa c9)).mono ?_;rintro e w1 ⟨rfl,n1⟩;have d8:qu w w1:=(qa c9).trans n1;have V:=hT.new d8;have e0:=qb ((qa HV).new14 d8);have f7:=qb d8;have d9:=qb (n1.old (qa f6) (fun h=>h));clear e3 HV n1 d8;go_wp2_with fail;refine(qpe 5000 10000 ⟨by decide,by decide⟩ ⟨by decide,by decide⟩ w1).mono ?_;rintro e w2 (⟨p,rfl,-,S,hD⟩ | ⟨-,f9,-⟩)
  case inr=>exact absurd ⟨by decide,by decide,by decide⟩ f9
  have HD:=qb hD;clear hD;go_upto_region 7 with fail;have bW:=qi w2 (.cells #[.int .u64 5000,.int .u64 5000] 28);have nW:qu w2 (w2.alloc (.cells #[.int .u64 5000,.int .u64 5000] 28)):=(Upd.refl _ _).alloc _;have f5:=(qa HD).n.size;have e5:¬S w2.heap.size:=fun e=>by have:=((qa HD).lt _ e).2;omega
  have HG:Hid (∃X Y P,AllI 0 X Y P∧DuB w1 (w2.alloc (.cells #[.int .u64 5000,.int .u64 5000] 28)) p w2.heap.size X Y P):=qb ⟨_,_,_,q47,S,(qa HD).new nW,e5,f5,bW⟩;clear bW nW f5 e5 HD;generalize w2.alloc (.cells #[.int .u64 5000,.int .u64 5000] 28)=w3 at HG ⊢;generalize w2.heap.size=B at HG ⊢;go_wp2_with fail
  go_loopw [7] (fun iv wr=>∃i:Nat,iv = .int .i64 (i:Int)∧i≤ns.length∧Hid (∃X Y P,AllI i X Y P∧DuB w1 wr p B X Y P)) (fun iv _=>ns.length-(intOf iv).toNat)
  case atStart=>exact⟨0,rfl,Nat.zero_le _,HG⟩
  case round =>
   obtain⟨i,rfl,hi,HH⟩:=hrel;obtain⟨wq,rfl⟩:∃wq:World,wq=wr:=⟨_,rfl⟩;clear HG;obtain⟨X,Y,P,l,H⟩:=qa HH;by_cases c0:i<ns.length
   ·have g7:(i:Int)<(ns.length:Int):=by omega
    obtain⟨gv,off,rfl,hz,e4⟩:=((qa e0).new14 H.toW.n).at14 c0;have HZ:=qb (fun W (n:qu w1 W)=>((qa e0).new14 n).at14 c0);generalize g4:ns.getD i 0=z at hz e4 HZ;have g3:0≤z∧z≤255:=by
     simp[Lit.wf,IntKind.min,IntKind.max,IntKind.signed,IntKind.bits] at e4;omega
    have c1:IntKind.u64.wrap z=z:=qaw (by omega) (by omega);have c2:IntKind.u64.wrap (z+1)=z+1:=qaw (by omega) (by omega);have a4:=fun W=>qld z g3 W
    have Z:=fun W=>quv (qdt z) (qfz _) W
    have hq:=qfz z;have D:=qhs z;have c7:=qgh (qdt z);have c6:=qfy (qdt z);clear e4 g4 HH;rcases (by omega:i%2=0∨i%2=1) with hp | hp
    ·rcases (by omega:z%3=0∨z%3≠0) with U | U
     ·skip;have d7:(i:Int)%2=0:=by omega
      have h3:(z%3==0)=true:=beq_iff_eq.2 U;obtain⟨⟨n,hn,hI,t⟩,hA⟩:=qxw (N:=z+1) (q:=qdt z) (pd:=false) l (by omega) hp ⟨by omega,by omega⟩ hq D;have O:=qoz (w0:=w1) (p:=p) (B:=B) (kk:=0) 0 1 rfl rfl V qk4 (by omega) hI t ⟨by omega,by omega⟩ hq D;have a9:=l.x;have b3:=l.y;have a8:=l.sum;have d6:((i:Int)%4==3)=false:=beq_eq_false_iff_ne.2 (by omega);have b9:((i:Int).tmod 4==3)=false:=beq_eq_false_iff_ne.2 (by rw[Int.tmod_eq_emod_of_nonneg (by omega)];omega);have ex:qau (!false) (z+1) (X-(z+1))=X:=by
       first | rfl | (show IntKind.u64.wrap _=_;rw[qaw (by omega) (by omega)];try omega)
      have ey:qau false (z+1) Y=Y:=by
       first | rfl | (show IntKind.u64.wrap _=_;rw[qaw (by omega) (by omega)];try omega)
      rw[ex,ey] at hA;generalize P.paidD 0 (z+1) _ _ _ _=R at *
      generalize ((i / 2:Nat):Int)=d at O;obtain⟨P1,P2,P3,r,r2,hO,L,J,I,hS,M⟩:=O;have a5:=qb H;have m:=qb (And.intro L (And.intro J (And.intro I (And.intro hS M))));have HA:=qb hA;clear H l hI t L J I hS M ex ey hp U a9 b3 a8 hA;go_upto_region 12 with fail;go_wp2_with fail;refine(a4 _).mono ?_;rintro e w4 ⟨rfl,n4⟩;have N4:=qb n4;clear n4;go_wp2_with fail;refine(Z _).mono ?_;rintro e w5 ⟨rfl,n5⟩;have h5:=(qa a5).new ((qa N4).trans n5);have K:=hO w5 X Y h5;clear n5 N4 h5 hO hz Z;go_wp2_with fail;refine K.mono ?_;rintro e w6 ⟨rfl,h6⟩;have T:=(qa m).1 _ _ _ h6;clear h6 K c7 c6;go_wp2_with fail;refine T.mono ?_;rintro e w7 ⟨rfl,h7⟩;have b4:w7.cell? ⟨gv,off+i,none⟩=some (.int .u8 z):=by
       obtain⟨b,o,e,c,-⟩:=qa HZ w7 h7.toW.n;cases e;exact c
      have H7:=qb h7;have d2:=qb (And.intro hq D);clear h7 T hq D HZ;go_wp2_with fail;refine((qa m).2.2.1 (by first | rfl | trivial) _ _ _ (qa H7)).mono ?_;rintro e w8 ⟨rfl,h8⟩;have c3:=(qa m).2.2.2.1 _ _ _ h8;clear h8 b4;go_wp2_with fail;refine c3.mono ?_;rintro e b6 ⟨rfl,E⟩;clear c3;have C:=(qa m).2.2.2.2 _ _ _ E;clear E;go_wp2_with fail;refine C.mono ?_;rintro e b5 ⟨rfl,F⟩;have HF:Hid (∃X Y P,AllI (i+1) X Y P∧DuB w1 b5 p B X Y P):=qb ⟨_,_,_,qa HA,F⟩;clear F C;go_wp2_with fail;go_roundw
      case rel=>exact⟨i+1,by go_num,c0,HF⟩
      case measure=>simp[intOf];omega
     ·skip;have d7:(i:Int)%2=0:=by omega
      have h3:(z%3==0)=false:=beq_eq_false_iff_ne.2 U;obtain⟨⟨n,hn,hI,t⟩,hA⟩:=qxw (N:=z+1) (q:=qdt z) (pd:=true) l (by omega) hp ⟨by omega,by omega⟩ hq D;have O:=qoz (w0:=w1) (p:=p) (B:=B) (kk:=0) 0 1 rfl rfl V qk4 (by omega) hI t ⟨by omega,by omega⟩ hq D;have a9:=l.x;have b3:=l.y;have a8:=l.sum;have d6:((i:Int)%4==3)=false:=beq_eq_false_iff_ne.2 (by omega);have b9:((i:Int).tmod 4==3)=false:=beq_eq_false_iff_ne.2 (by rw[Int.tmod_eq_emod_of_nonneg (by omega)];omega);have ex:qau (!true) (z+1) (X-(z+1))=(X-(z+1)):=by
       first | rfl | (show IntKind.u64.wrap _=_;rw[qaw (by omega) (by omega)];try omega)
      have ey:qau true (z+1) Y=(Y+(z+1)):=by
       first | rfl | (show IntKind.u64.wrap _=_;rw[qaw (by omega) (by omega)];try omega)
      rw[ex,ey] at hA;have cx:IntKind.u64.wrap (X-(z+1))=(X-(z+1)):=qaw (by omega) (by omega);have cy:IntKind.u64.wrap (Y+(z+1))=(Y+(z+1)):=qaw (by omega) (by omega);generalize P.paidD 0 (z+1) _ _ _ _=R at *
      generalize ((i / 2:Nat):Int)=d at O;obtain⟨P1,P2,P3,r,r2,hO,L,J,I,hS,M⟩:=O;have a5:=qb H;have m:=qb (And.intro L (And.intro J (And.intro I (And.intro hS M))));have HA:=qb hA;clear H l hI t L J I hS M ex ey hp U a9 b3 a8 hA;go_upto_region 12 with fail;go_wp2_with fail;refine(a4 _).mono ?_;rintro e w4 ⟨rfl,n4⟩;have N4:=qb n4;clear n4;go_wp2_with fail;refine(Z _).mono ?_;rintro e w5 ⟨rfl,n5⟩;have h5:=(qa a5).new ((qa N4).trans n5);have K:=hO w5 X Y h5;clear n5 N4 h5 hO hz Z;go_wp2_with fail;refine K.mono ?_;rintro e w6 ⟨rfl,h6⟩;have T:=(qa m).1 _ _ _ h6;clear h6 K c7 c6;go_wp2_with fail;refine T.mono ?_;rintro e w7 ⟨rfl,h7⟩;have b4:w7.cell? ⟨gv,off+i,none⟩=some (.int .u8 z):=by
       obtain⟨b,o,e,c,-⟩:=qa HZ w7 h7.toW.n;cases e;exact c
      have H7:=qb h7;have d2:=qb (And.intro hq D);clear h7 T hq D HZ;go_wp2_with fail;refine(a4 _).mono ?_;rintro e w8 ⟨rfl,n8⟩;have b8:=(qa m).2.1 (by first | rfl | trivial) _ _ _ ((qa H7).new n8);clear n8 b4 a4;go_wp2_with fail;refine b8.mono ?_;rintro e w9 ⟨rfl,h9⟩;obtain⟨b0,b1,f0,f1⟩:=h9.cells;have a6:=h9.put0 (X-(z+1));obtain⟨d0,d1,g0,g1⟩:=a6.cells;have c4:=(qa m).2.2.2.1 _ _ _ (a6.put1 (Y+(z+1)));clear h9 a6 b8;go_wp2_with fail;refine c4.mono ?_;rintro e b6 ⟨rfl,E⟩;clear c4 b0 b1 f0 f1 d0 d1 g0 g1;have C:=(qa m).2.2.2.2 _ _ _ E;clear E;go_wp2_with fail;refine C.mono ?_;rintro e b5 ⟨rfl,F⟩;have HF:Hid (∃X Y P,AllI (i+1) X Y P∧DuB w1 b5 p B X Y P):=qb ⟨_,_,_,qa HA,F⟩;clear F C;go_wp2_with fail;go_roundw
      case rel=>exact⟨i+1,by go_num,c0,HF⟩
      case measure=>simp[intOf];omega
    ·rcases (by omega:z%3=0∨z%3≠0) with U | U
     ·rcases (by omega:i%4=1∨i%4=3) with h4 | h4
      ·skip;have d7:(i:Int)%2=1:=by omega
       have h3:(z%3==0)=true:=beq_iff_eq.2 U;obtain⟨⟨n,hn,hI,t⟩,⟨nq,e2,hQ⟩,hA,⟨nc,e1,hC⟩,a7⟩:=qqa (N:=z+1) (q:=qdt z) (pd:=false) l (by omega) hp ⟨by omega,by omega⟩ hq D l0 l1;have O:=qoz (w0:=w1) (p:=p) (B:=B) (kk:=1) 1 0 rfl rfl V qk4 (by omega) hI t ⟨by omega,by omega⟩ hq D;have a9:=l.x;have b3:=l.y;have a8:=l.sum;have d6:((i:Int)%4==3)=false:=beq_eq_false_iff_ne.2 (by omega);have b9:((i:Int).tmod 4==3)=false:=beq_eq_false_iff_ne.2 (by rw[Int.tmod_eq_emod_of_nonneg (by omega)];omega);have ex:qau false (z+1) X=X:=by
        first | rfl | (show IntKind.u64.wrap _=_;rw[qaw (by omega) (by omega)];try omega)
       have ey:qau (!false) (z+1) (Y-(z+1))=Y:=by
        first | rfl | (show IntKind.u64.wrap _=_;rw[qaw (by omega) (by omega)];try omega)
       rw[ex,ey] at hA;generalize P.paidD 1 (z+1) _ _ _ _=R at *
       generalize ((i / 2:Nat):Int)=d at O;obtain⟨P1,P2,P3,r,r2,hO,L,J,I,hS,M⟩:=O;have a5:=qb H;have m:=qb (And.intro L (And.intro J (And.intro I (And.intro hS M))));have HA:=qb hA;clear H l hI t L J I hS M ex ey hp U a9 b3 a8 hA hQ hC a7;go_upto_region 12 with fail;go_wp2_with fail;refine(a4 _).mono ?_;rintro e w4 ⟨rfl,n4⟩;have N4:=qb n4;clear n4;go_wp2_with fail;refine(Z _).mono ?_;rintro e w5 ⟨rfl,n5⟩;have h5:=(qa a5).new ((qa N4).trans n5);have K:=hO w5 X Y h5;clear n5 N4 h5 hO hz Z;go_wp2_with fail;refine K.mono ?_;rintro e w6 ⟨rfl,h6⟩;have T:=(qa m).1 _ _ _ h6;clear h6 K c7 c6;go_wp2_with fail;refine T.mono ?_;rintro e w7 ⟨rfl,h7⟩;have b4:w7.cell? ⟨gv,off+i,none⟩=some (.int .u8 z):=by
        obtain⟨b,o,e,c,-⟩:=qa HZ w7 h7.toW.n;cases e;exact c
       have H7:=qb h7;have d2:=qb (And.intro hq D);clear h7 T hq D HZ;go_wp2_with fail;refine((qa m).2.2.1 (by first | rfl | trivial) _ _ _ (qa H7)).mono ?_;rintro e w8 ⟨rfl,h8⟩;have c3:=(qa m).2.2.2.1 _ _ _ h8;clear h8 b4;go_wp2_with fail;refine c3.mono ?_;rintro e b6 ⟨rfl,E⟩;clear c3;have C:=(qa m).2.2.2.2 _ _ _ E;clear E;go_wp2_with fail;refine C.mono ?_;rintro e b5 ⟨rfl,F⟩;have HF:Hid (∃X Y P,AllI (i+1) X Y P∧DuB w1 b5 p B X Y P):=qb ⟨_,_,_,qa HA,F⟩;clear F C;go_wp2_with fail;go_roundw
       case rel=>exact⟨i+1,by go_num,c0,HF⟩
       case measure=>simp[intOf];omega
      ·skip;have d7:(i:Int)%2=1:=by omega
       have h3:(z%3==0)=true:=beq_iff_eq.2 U;obtain⟨⟨n,hn,hI,t⟩,⟨nq,e2,hQ⟩,hA,⟨nc,e1,hC⟩,a7⟩:=qqa (N:=z+1) (q:=qdt z) (pd:=false) l (by omega) hp ⟨by omega,by omega⟩ hq D l0 l1;have O:=qoz (w0:=w1) (p:=p) (B:=B) (kk:=1) 1 0 rfl rfl V qk4 (by omega) hI t ⟨by omega,by omega⟩ hq D;have hcut:=zh3 (w0:=w1) (p:=p) (B:=B) V qk4 (by omega) hQ l0 l1 f3 f4;obtain⟨rc,d5⟩:=q3w (w0:=w1) (p:=p) (B:=B) V qk4 (by omega) hC;have a9:=l.x;have b3:=l.y;have a8:=l.sum;have d6:((i:Int)%4==3)=true:=beq_iff_eq.2 (by omega);have b9:((i:Int).tmod 4==3)=true:=beq_iff_eq.2 (by rw[Int.tmod_eq_emod_of_nonneg (by omega)];omega);have ex:qau false (z+1) X=X:=by
        first | rfl | (show IntKind.u64.wrap _=_;rw[qaw (by omega) (by omega)];try omega)
       have ey:qau (!false) (z+1) (Y-(z+1))=Y:=by
        first | rfl | (show IntKind.u64.wrap _=_;rw[qaw (by omega) (by omega)];try omega)
       rw[ex,ey] at a7;generalize P.paidD 1 (z+1) _ _ _ _=R at *
       generalize ((i / 2:Nat):Int)=d at O;obtain⟨P1,P2,P3,r,r2,hO,L,J,I,hS,M⟩:=O;have a5:=qb H;have m:=qb (And.intro L (And.intro J (And.intro I (And.intro hS M))));have HA:=qb a7;have c8:=qb (And.intro hcut d5);clear hcut d5;clear H l hI t L J I hS M ex ey hp U a9 b3 a8 hA hQ hC a7;go_upto_region 12 with fail;go_wp2_with fail;refine(a4 _).mono ?_;rintro e w4 ⟨rfl,n4⟩;have N4:=qb n4;clear n4;go_wp2_with fail;refine(Z _).mono ?_;rintro e w5 ⟨rfl,n5⟩;have h5:=(qa a5).new ((qa N4).trans n5);have K:=hO w5 X Y h5;clear n5 N4 h5 hO hz Z;go_wp2_with fail;refine K.mono ?_;rintro e w6 ⟨rfl,h6⟩;have T:=(qa m).1 _ _ _ h6;clear h6 K c7 c6;go_wp2_with fail;refine T.mono ?_;rintro e w7 ⟨rfl,h7⟩;have b4:w7.cell? ⟨gv,off+i,none⟩=some (.int .u8 z):=by
        obtain⟨b,o,e,c,-⟩:=qa HZ w7 h7.toW.n;cases e;exact c
       have H7:=qb h7;have d2:=qb (And.intro hq D);clear h7 T hq D HZ;go_wp2_with fail;refine((qa m).2.2.1 (by first | rfl | trivial) _ _ _ (qa H7)).mono ?_;rintro e w8 ⟨rfl,h8⟩;have c3:=(qa m).2.2.2.1 _ _ _ h8;clear h8 b4;go_wp2_with fail;refine c3.mono ?_;rintro e b6 ⟨rfl,E⟩;clear c3;have c5:=E.toW.n.old (qa d9) (fun h=>h);have b0:b6.cell? ⟨LB,0,none⟩=some (.int .i64 l0):=qh c5 0;have b1:b6.cell? ⟨LB,1,none⟩=some (.int .i64 l1):=qh c5 1;have b7:=(qa c8).1 _ _ _ E;clear E c5;go_wp2_with fail;refine b7.mono ?_;rintro e g5 ⟨rfl,d3⟩;have C:=(qa c8).2 _ _ _ d3;clear b7 d3 b0 b1;go_wp2_with fail;refine C.mono ?_;rintro e b5 ⟨rfl,F⟩;have HF:Hid (∃X Y P,AllI (i+1) X Y P∧DuB w1 b5 p B X Y P):=qb ⟨_,_,_,qa HA,F⟩;clear F C;go_wp2_with fail;go_roundw
       case rel=>exact⟨i+1,by go_num,c0,HF⟩
       case measure=>simp[intOf];omega
     ·rcases (by omega:i%4=1∨i%4=3) with h4 | h4
      ·skip;have d7:(i:Int)%2=1:=by omega
       have h3:(z%3==0)=false:=beq_eq_false_iff_ne.2 U;obtain⟨⟨n,hn,hI,t⟩,⟨nq,e2,hQ⟩,hA,⟨nc,e1,hC⟩,a7⟩:=qqa (N:=z+1) (q:=qdt z) (pd:=true) l (by omega) hp ⟨by omega,by omega⟩ hq D l0 l1;have O:=qoz (w0:=w1) (p:=p) (B:=B) (kk:=1) 1 0 rfl rfl V qk4 (by omega) hI t ⟨by omega,by omega⟩ hq D;have a9:=l.x;have b3:=l.y;have a8:=l.sum;have d6:((i:Int)%4==3)=false:=beq_eq_false_iff_ne.2 (by omega);have b9:((i:Int).tmod 4==3)=false:=beq_eq_false_iff_ne.2 (by rw[Int.tmod_eq_emod_of_nonneg (by omega)];omega);have ex:qau true (z+1) X=(X+(z+1)):=by
        first | rfl | (show IntKind.u64.wrap _=_;rw[qaw (by omega) (by omega)];try omega)
       have ey:qau (!true) (z+1) (Y-(z+1))=(Y-(z+1)):=by
        first | rfl | (show IntKind.u64.wrap _=_;rw[qaw (by omega) (by omega)];try omega)
       rw[ex,ey] at hA;have cx:IntKind.u64.wrap (X+(z+1))=(X+(z+1)):=qaw (by omega) (by omega);have cy:IntKind.u64.wrap (Y-(z+1))=(Y-(z+1)):=qaw (by omega) (by omega);generalize P.paidD 1 (z+1) _ _ _ _=R at *
       generalize ((i / 2:Nat):Int)=d at O;obtain⟨P1,P2,P3,r,r2,hO,L,J,I,hS,M⟩:=O;have a5:=qb H;have m:=qb (And.intro L (And.intro J (And.intro I (And.intro hS M))));have HA:=qb hA;clear H l hI t L J I hS M ex ey hp U a9 b3 a8 hA hQ hC a7;go_upto_region 12 with fail;go_wp2_with fail;refine(a4 _).mono ?_;rintro e w4 ⟨rfl,n4⟩;have N4:=qb n4;clear n4;go_wp2_with fail;refine(Z _).mono ?_;rintro e w5 ⟨rfl,n5⟩;have h5:=(qa a5).new ((qa N4).trans n5);have K:=hO w5 X Y h5;clear n5 N4 h5 hO hz Z;go_wp2_with fail;refine K.mono ?_;rintro e w6 ⟨rfl,h6⟩;have T:=(qa m).1 _ _ _ h6;clear h6 K c7 c6;go_wp2_with fail;refine T.mono ?_;rintro e w7 ⟨rfl,h7⟩;have b4:w7.cell? ⟨gv,off+i,none⟩=some (.int .u8 z):=by
        obtain⟨b,o,e,c,-⟩:=qa HZ w7 h7.toW.n;cases e;exact c
       have H7:=qb h7;have d2:=qb (And.intro hq D);clear h7 T hq D HZ;go_wp2_with fail;refine(a4 _).mono ?_;rintro e w8 ⟨rfl,n8⟩;have b8:=(qa m).2.1 (by first | rfl | trivial) _ _ _ ((qa H7).new n8);clear n8 b4 a4;go_wp2_with fail;refine b8.mono ?_;rintro e w9 ⟨rfl,h9⟩;obtain⟨b0,b1,f0,f1⟩:=h9.cells;have a6:=h9.put1 (Y-(z+1));obtain⟨d0,d1,g0,g1⟩:=a6.cells;have c4:=(qa m).2.2.2.1 _ _ _ (a6.put0 (X+(z+1)));clear h9 a6 b8;go_wp2_with fail;refine c4.mono ?_;rintro e b6 ⟨rfl,E⟩;clear c4 b0 b1 f0 f1 d0 d1 g0 g1;have C:=(qa m).2.2.2.2 _ _ _ E;clear E;go_wp2_with fail;refine C.mono ?_;rintro e b5 ⟨rfl,F⟩;have HF:Hid (∃X Y P,AllI (i+1) X Y P∧DuB w1 b5 p B X Y P):=qb ⟨_,_,_,qa HA,F⟩;clear F C;go_wp2_with fail;go_roundw
       case rel=>exact⟨i+1,by go_num,c0,HF⟩
       case measure=>simp[intOf];omega
      ·skip;have d7:(i:Int)%2=1:=by omega
       have h3:(z%3==0)=false:=beq_eq_false_iff_ne.2 U;obtain⟨⟨n,hn,hI,t⟩,⟨nq,e2,hQ⟩,hA,⟨nc,e1,hC⟩,a7⟩:=qqa (N:=z+1) (q:=qdt z) (pd:=true) l (by omega) hp ⟨by omega,by omega⟩ hq D l0 l1;have O:=qoz (w0:=w1) (p:=p) (B:=B) (kk:=1) 1 0 rfl rfl V qk4 (by omega) hI t ⟨by omega,by omega⟩ hq D;have hcut:=zh3 (w0:=w1) (p:=p) (B:=B) V qk4 (by omega) hQ l0 l1 f3 f4;obtain⟨rc,d5⟩:=q3w (w0:=w1) (p:=p) (B:=B) V qk4 (by omega) hC;have a9:=l.x;have b3:=l.y;have a8:=l.sum;have d6:((i:Int)%4==3)=true:=beq_iff_eq.2 (by omega);have b9:((i:Int).tmod 4==3)=true:=beq_iff_eq.2 (by rw[Int.tmod_eq_emod_of_nonneg (by omega)];omega);have ex:qau true (z+1) X=(X+(z+1)):=by
        first | rfl | (show IntKind.u64.wrap _=_;rw[qaw (by omega) (by omega)];try omega)
       have ey:qau (!true) (z+1) (Y-(z+1))=(Y-(z+1)):=by
        first | rfl | (show IntKind.u64.wrap _=_;rw[qaw (by omega) (by omega)];try omega)
       rw[ex,ey] at a7;have cx:IntKind.u64.wrap (X+(z+1))=(X+(z+1)):=qaw (by omega) (by omega);have cy:IntKind.u64.wrap (Y-(z+1))=(Y-(z+1)):=qaw (by omega) (by omega);generalize P.paidD 1 (z+1) _ _ _ _=R at *
       generalize ((i / 2:Nat):Int)=d at O;obtain⟨P1,P2,P3,r,r2,hO,L,J,I,hS,M⟩:=O;have a5:=qb H;have m:=qb (And.intro L (And.intro J (And.intro I (And.intro hS M))));have HA:=qb a7;have c8:=qb (And.intro hcut d5);clear hcut d5;clear H l hI t L J I hS M ex ey hp U a9 b3 a8 hA hQ hC a7;go_upto_region 12 with fail;go_wp2_with fail;refine(a4 _).mono ?_;rintro e w4 ⟨rfl,n4⟩;have N4:=qb n4;clear n4;go_wp2_with fail;refine(Z _).mono ?_;rintro e w5 ⟨rfl,n5⟩;have h5:=(qa a5).new ((qa N4).trans n5);have K:=hO w5 X Y h5;clear n5 N4 h5 hO hz Z;go_wp2_with fail;refine K.mono ?_;rintro e w6 ⟨rfl,h6⟩;have T:=(qa m).1 _ _ _ h6;clear h6 K c7 c6;go_wp2_with fail;refine T.mono ?_;rintro e w7 ⟨rfl,h7⟩;have b4:w7.cell? ⟨gv,off+i,none⟩=some (.int .u8 z):=by
        obtain⟨b,o,e,c,-⟩:=qa HZ w7 h7.toW.n;cases e;exact c
       have H7:=qb h7;have d2:=qb (And.intro hq D);clear h7 T hq D HZ;go_wp2_with fail;refine(a4 _).mono ?_;rintro e w8 ⟨rfl,n8⟩;have b8:=(qa m).2.1 (by first | rfl | trivial) _ _ _ ((qa H7).new n8);clear n8 b4 a4;go_wp2_with fail;refine b8.mono ?_;rintro e w9 ⟨rfl,h9⟩;obtain⟨b0,b1,f0,f1⟩:=h9.cells;have a6:=h9.put1 (Y-(z+1));obtain⟨d0,d1,g0,g1⟩:=a6.cells;have c4:=(qa m).2.2.2.1 _ _ _ (a6.put0 (X+(z+1)));clear h9 a6 b8;go_wp2_with fail;refine c4.mono ?_;rintro e b6 ⟨rfl,E⟩;clear c4 b0 b1 f0 f1 d0 d1 g0 g1;have c5:=E.toW.n.old (qa d9) (fun h=>h);have b0:b6.cell? ⟨LB,0,none⟩=some (.int .i64 l0):=qh c5 0;have b1:b6.cell? ⟨LB,1,none⟩=some (.int .i64 l1):=qh c5 1;have b7:=(qa c8).1 _ _ _ E;clear E c5;go_wp2_with fail;refine b7.mono ?_;rintro e g5 ⟨rfl,d3⟩;have C:=(qa c8).2 _ _ _ d3;clear b7 d3 b0 b1;go_wp2_with fail;refine C.mono ?_;rintro e b5 ⟨rfl,F⟩;have HF:Hid (∃X Y P,AllI (i+1) X Y P∧DuB w1 b5 p B X Y P):=qb ⟨_,_,_,qa HA,F⟩;clear F C;go_wp2_with fail;go_roundw
       case rel=>exact⟨i+1,by go_num,c0,HF⟩
       case measure=>simp[intOf];omega
   ·obtain rfl:i=ns.length:=by omega
    obtain⟨sa,sb,la,lb,ra,rb,-,-,hP⟩:=l.flat;have g2:(P.en 0).loc=X∧(P.en 0).rem=Y∧(P.en 1).loc=Y∧(P.en 1).rem=X:=by rw[hP];exact⟨rfl,rfl,rfl,rfl⟩
    obtain⟨v1,v2,v3,v4⟩:=g2;obtain⟨S,g,hG⟩:=H.toW.getG;obtain⟨k0,k1,-,-⟩:=H.cells;have e8:=fun W (n:qu wq W)=>q9f (hG.new n) (k:=0) (by decide)
    have e9:=fun W (n:qu wq W)=>q9f (hG.new n) (k:=1) (by decide)
    have e6:=fun W (n:qu wq W)=>q1k V (hG.new n) (k:=0) (by decide)
    have e7:=fun W (n:qu wq W)=>q1k V (hG.new n) (k:=1) (by decide)
    rw[v1,v2] at e6;rw[v3,v4] at e7;simp only[Int.natCast_zero] at e8;simp only[Int.natCast_one] at e9;have HK:=qb (fun W (n:qu wq W)=>And.intro (n.cell k0 (fun h=>h)) (n.cell k1 (fun h=>h)));have HC:(fun w':World=>w'.cell? ⟨B,0,none⟩=some (.int .u64 X)∧w'.cell? ⟨B,1,none⟩=some (.int .u64 Y)) wq.drew:=⟨k0,k1⟩;have f8:=qb ((qa f7).trans H.toW.n);have nd:qu wq wq.drew:=(Upd.refl _ _).drew;generalize g 0=G0 at *
    generalize g 1=G1 at *
    clear hG hP v1 v2 v3 v4 H l HH e0 d9;go_upto_region 23 with fail;refine qc7 (fun w':World=>w'.cell? ⟨B,0,none⟩=some (.int .u64 X)∧w'.cell? ⟨B,1,none⟩=some (.int .u64 Y)) [4,6,14,16] (.of [0,1,2,3,4,5,6,7,8,9,10,11,12,13,14,15,16,17,18,19,20]) (by kernel_rfl) (by kernel_rfl) HC ?_;simp only[Plan.of];clear HC k0 k1;have kk:=qa HK _ nd;go_wp2_with (with_reducible first|(first|refine' qw1 (qg ?_) ?_|refine' qw2 (qg ?_) ?_|refine' qw3 (qg ?_) ?_);rotate_left|refine' qw4 (qg ?_)|refine' qw5 (qg ?_)|rfl|apply qn);refine(e8 _ nd).mono ?_;rintro e w4 ⟨rfl,q4⟩;have n4:=nd.trans (q4.upd (fun _=>False));have kk:=qa HK _ n4;have d4:=e6 w4 n4;have N4:=qb n4;clear q4 nd n4;go_wp2_with (first | (with_reducible first|(first|refine' qw1 (qg ?_) ?_|refine' qw2 (qg ?_) ?_|refine' qw3 (qg ?_) ?_);rotate_left|refine' qw4 (qg ?_)|refine' qw5 (qg ?_)|rfl|apply qn) | refine⟨kk,?_⟩);refine d4.mono ?_;rintro e w5 ⟨rfl,n5⟩;have n5:=(qa N4).trans n5;have kk:=qa HK _ n5;have f2:=e9 w5 n5;have N5:=qb n5;clear d4 N4 n5;go_wp2_with (first | (with_reducible first|(first|refine' qw1 (qg ?_) ?_|refine' qw2 (qg ?_) ?_|refine' qw3 (qg ?_) ?_);rotate_left|refine' qw4 (qg ?_)|refine' qw5 (qg ?_)|rfl|apply qn) | refine⟨kk,?_⟩);refine f2.mono ?_;rintro e w6 ⟨rfl,q6⟩;have n6:=(qa N5).trans (q6.upd (fun _=>False));have kk:=qa HK _ n6;have d4:=e7 w6 n6;have N6:=qb n6;clear f2 N5 n6 q6;go_wp2_with (first | (with_reducible first|(first|refine' qw1 (qg ?_) ?_|refine' qw2 (qg ?_) ?_|refine' qw3 (qg ?_) ?_);rotate_left|refine' qw4 (qg ?_)|refine' qw5 (qg ?_)|rfl|apply qn) | refine⟨kk,?_⟩)
    refine d4.mono ?_;rintro e w7 ⟨rfl,n7⟩;have n7:=(qa N6).trans n7;have kk:=qa HK _ n7;have N7:=qb ((qa f8).trans n7);clear d4 N6 n7;go_wp2_with (first | (with_reducible first|(first|refine' qw1 (qg ?_) ?_|refine' qw2 (qg ?_) ?_|refine' qw3 (qg ?_) ?_);rotate_left|refine' qw4 (qg ?_)|refine' qw5 (qg ?_)|rfl|apply qn) | refine⟨kk,?_⟩);go_ret;exact⟨rfl,qa N7⟩
end Go.Proofs.YthnohmjbbeahmaaGreatDoor
