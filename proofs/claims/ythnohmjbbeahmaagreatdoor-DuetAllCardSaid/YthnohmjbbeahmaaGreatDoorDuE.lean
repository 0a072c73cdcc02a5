/-
  A duet: Cut.
-/
import Derived.Test.YthnohmjbbeahmaaGreatDoorMed
set_option linter.unusedVariables false
set_option linter.unusedSimpArgs false
namespace Go.Proofs.YthnohmjbbeahmaaGreatDoor
open Go.RowKit
attribute [local go_sem ↓ high] zr qxv q0i qx2
attribute [local go_sem] qb3 zb zf9 zhn
noncomputable def Pr.letsK(P:Pr)(l0 k i:Nat):Pr:=if k=0 then P.lets i 0 else P.lets l0 i
noncomputable def Pr.letsO(P:Pr)(l0 l1 k:Nat):Pr:=if k=0 then P.lets 0 0 else if k=1 then P.lets l0 0 else P.lets l0 l1
def quj(l0 l1 k:Nat):Nat:=if k=0 then l0 else l1
section
variable {w0 w:World}{p:Nat}{S:Nat→Prop}{K:Kon}{n:Nat}{P:Pr}
theorem q6z(g:K.Ok)(o:n<60000)(h:PInv K n P){l0 l1 k i:Nat}(t:l0≤P.wa.length)(v:l1≤P.wb.length)(q:k<2)(l:i<quj l0 l1 k):∃m ms,(P.letsK l0 k i).way k=m::ms∧HearOne ((P.letsK l0 k i).en k) m∧(P.letsK l0 k i).took k (((P.letsK l0 k i).en k).hears m).1 ms=P.letsK l0 k (i+1):=by
 rcases qb1 q with rfl | rfl
 ·exact zih g o h (by have:i<l0:=l;omega)
 ·exact zii g o h l0 (by have:i<l1:=l;omega)
theorem qpo(P:Pr)(l0 l1:Nat){k:Nat}(g:k<2):P.letsO l0 l1 k=P.letsK l0 k 0∧P.letsK l0 k (quj l0 l1 k)=P.letsO l0 l1 (k+1):=by
 rcases qb1 g with rfl | rfl<;>exact⟨rfl,rfl⟩
theorem q6y(P:Pr)(l0 l1:Nat){k:Nat}(g:k<2):(P.letsO l0 l1 k).way k=P.way k:=by
 rcases qb1 g with rfl | rfl<;>rfl
theorem zav(P:Pr)(x y:Int){k:Nat}(g:k<2):quj (qed P.wa x) (qed P.wb y) k=qed (P.way k) (if k=0 then x else y):=by
 rcases qb1 g with rfl | rfl<;>rfl
set_option maxRecDepth 100000 in
set_option maxHeartbeats 4000000 in
theorem q9e(hT:Tb w0)(hK:K.Ok)(hn:n<60000)(hI:PInv K n P)(h:DuD w0 w p S P)(x y:Int)(hx : -9223372036854775808≤x∧x≤9223372036854775807)(hy : -9223372036854775808≤y∧y≤9223372036854775807) :
  Calls Tryz.prog 17 #[.pointer (some ⟨p,0,none⟩),.agg #[.int .i64 x,.int .i64 y]] w fun e w'=>e = .returned (.int .i64 0)∧DSt w0 w p S w' (P.cutD x y):=by
 have H:=qb h
 go_enter Tryz.func17,Tryz.ntmps17
 go_upto_region 3 with (with_reducible first|(first|refine' tw1 (qg ?_) ?_|refine' tw2 (qg ?_) ?_);rotate_left|refine' tw3 (qg ?_)|rfl|apply tn|refine' tw4 ?_)
 have n1:qu w (w.alloc (.cells #[.int .i64 x,.int .i64 y] 23)):=(Upd.refl _ _).alloc _
 obtain⟨bL,z1⟩:=qc3 (W:=w) rfl (.cells #[.int .i64 x,.int .i64 y] 23)
 generalize w.alloc (.cells #[.int .i64 x,.int .i64 y] 23)=w1 at n1 bL z1 ⊢
 have n2:qu w1 (w1.alloc (.cells #[.int .i64 0] 29)):=(Upd.refl _ _).alloc _
 obtain⟨bF,z2⟩:=qc3 z1 (.cells #[.int .i64 0] 29)
 generalize w1.alloc (.cells #[.int .i64 0] 29)=R at n2 bF z2 ⊢
 obtain⟨g,hg⟩:=((h.new n1).new n2).toG
 have e4:=h.lt
 have j9:=h.n.size
 have hF:qvi w0 R S (w.heap.size+1):=⟨fun e=>by have:=(e4 _ e).2;omega,by omega,by omega⟩
 have hL:¬S w.heap.size∧w.heap.size≠w.heap.size+1:=⟨fun e=>by have:=(e4 _ e).2;omega,by omega⟩
 have h2:=n2.old bL (fun h=>h)
 have h9:=hI.bad
 have l0:qed P.wa x≤P.wa.length:=by unfold qed;omega
 have l1:qed P.wb y≤P.wb.length:=by unfold qed;omega
 have i4:=hI.few
 have HC:Hid (∃g,CutG w0 R R p S (w.heap.size+1) (P.letsO (qed P.wa x) (qed P.wb y) 0) g):=qb ⟨g,by
  show CutG _ _ _ _ _ _ (P.lets 0 0) g;rw[q60 h9];exact CutG.start hg bF⟩
 have N2:=qb (n1.trans n2)
 have f9:w.heap.size≤w.heap.size+1:=by omega
 have j2:=qb f9
 have h6:w.heap.size<R.heap.size:=by omega
 clear n1 n2 bL z1 z2 hg e4 j9 bF h f9
 generalize w.heap.size+1=F at *
 generalize w.heap.size=L at h2 hL h6 ⊢
 obtain⟨t,e0⟩:∃l,l=qed P.wa x:=⟨_,rfl⟩
 obtain⟨C,e1⟩:∃l,l=qed P.wb y:=⟨_,rfl⟩
 rw[←e0] at l0 HC
 rw[←e1] at l1 HC
 go_wp2_with (with_reducible first|(first|refine' tw1 (qg ?_) ?_|refine' tw2 (qg ?_) ?_);rotate_left|refine' tw3 (qg ?_)|rfl|apply tn|refine' tw4 ?_)
 go_loopw [19] (fun cv wr=>∃k:Nat,k≤2∧cv = .int .i64 (k:Int)∧Hid (∃g,CutG w0 R wr p S F (P.letsO t C k) g)) (fun cv _=>2-(intOf cv).toNat)
 case atStart=>exact⟨0,by decide,rfl,HC⟩
 case round =>
  obtain⟨k,f1,rfl,I⟩:=hrel;obtain⟨wq,rfl⟩:∃wq:World,wq=wr:=⟨_,rfl⟩;clear HC;by_cases X:k<2
  ·have j6:(k:Int)<2:=by omega
   obtain⟨g,D⟩:=qa I;obtain⟨T,u,O⟩:=D.d;have i6:=O.row k X;obtain⟨ua,uc,hu⟩:=i6.shape;have c:=O.cellW X;rw[hu,q6y P t C X] at c;have cL:wq.cell? ⟨L,k,none⟩=some (.int .i64 (if k=0 then x else y)):=by
    rw[qh (D.u.old h2 (fun e=>e.elim hL.1 hL.2)) k];rcases qb1 X with rfl | rfl<;>rfl
   have g7:quj t C k=qed (P.way k) (if k=0 then x else y):=by rw[e0,e1];exact zav P x y X
   have i9 : -9223372036854775808≤(if k=0 then x else y)∧(if k=0 then x else y)≤9223372036854775807:=by split<;>assumption
   have k9:(P.way k).length≤500:=by rcases qb1 X with rfl | rfl;exact i4.1;exact i4.2
   generalize (if k=0 then x else y)=z at cL g7 i9;clear O i6 hu D;have cd:wq.drew.cell? ⟨p,2+k,none⟩=some (.slice ua (P.way k).length uc)∧wq.drew.cell? ⟨L,k,none⟩=some (.int .i64 z):=⟨c,cL⟩;generalize j8:(P.way k).length=nl at *
   clear c cL;obtain⟨left,a9⟩:∃l,l=quj t C k:=⟨_,rfl⟩;have j7:left=nl-min z.toNat nl:=by rw[a9,g7];unfold qed;rw[j8]
   have k8:left≤500:=by omega
   have HL:=qb a9;clear g7 a9;go_upto_region 6 with (with_reducible first|(first|refine' tw1 (qg ?_) ?_|refine' tw2 (qg ?_) ?_);rotate_left|refine' tw3 (qg ?_)|rfl|apply tn|refine' tw4 ?_)
   go_cut [8] from 22 to 42 (fun lv wx=>lv = .int .i64 (left:Int)∧wx=wq.drew)
   case first =>
    refine qc7 (fun w'=>w'.cell? ⟨p,2+k,none⟩=some (.slice ua nl uc)∧w'.cell? ⟨L,k,none⟩=some (.int .i64 z)) [5,9,16] (.of [0,1,2,3,4,5,6,7,8,9,10,11,12,13,14,15,16,17,18,19,20]) (by kernel_rfl) (by kernel_rfl) cd ?_;simp only[Plan.of];go_wp2_with (first | (with_reducible first|(first|refine' qw1 (qg ?_) ?_|refine' qw2 (qg ?_) ?_|refine' qw3 (qg ?_) ?_);rotate_left|refine' qw4 (qg ?_)|refine' qw5 (qg ?_)|rfl|apply qn) | refine⟨trivial,?_⟩ | refine⟨cd,?_⟩)
    all_goals
     go_meet
     case rel=>exact⟨congrArg (Value.int .i64) (by omega),rfl⟩
   case rest =>
    obtain⟨rfl,i7⟩:=hcut;have h7:Hid (∃g,CutG w0 R wc p S F (P.letsK t k 0) g):=qb (by
     obtain⟨g,D⟩:=qa I;rw[i7];exact⟨g,by rw[←(qpo P t C X).1];exact D.new ((Upd.refl _ _).drew)⟩)
    have e3:=(qpo P t C X).2;rw[←qa HL] at e3;have j3:=qb e3;clear e3 I cd i9 j7 i7;obtain⟨wx,rfl⟩:∃wx:World,wx=wc:=⟨_,rfl⟩;go_wp2_with (with_reducible first|(first|refine' tw1 (qg ?_) ?_|refine' tw2 (qg ?_) ?_);rotate_left|refine' tw3 (qg ?_)|rfl|apply tn|refine' tw4 ?_)
    go_loopw [43] (fun cv wr=>∃i:Nat,i≤left∧cv = .int .i64 (i:Int)∧Hid (∃g,CutG w0 R wr p S F (P.letsK t k i) g)) (fun cv _=>left-(intOf cv).toNat)
    case atStart=>exact⟨0,Nat.zero_le _,rfl,h7⟩
    case round =>
     obtain⟨i,hi,rfl,I⟩:=hrel;obtain⟨wv,rfl⟩:∃wv:World,wv=wr:=⟨_,rfl⟩;clear h7;by_cases e4:i<left
     ·have k6:(i:Int)<(left:Int):=by omega
      have k7:(i:Int)<500:=by omega
      obtain⟨g,D⟩:=qa I;obtain⟨m,ms,s1,s2,s3⟩:=q6z hK hn hI l0 l1 X (show i<quj t C k by rw[←qa HL];exact e4);have hx:=q88 hT hF D X s1 s2;rw[s3] at hx;generalize ((P.letsK t k i).en k).hears m=rr at hx;clear s1 s2 s3 I D;go_wp2_with (with_reducible first|(first|refine' tw1 (qg ?_) ?_|refine' tw2 (qg ?_) ?_);rotate_left|refine' tw3 (qg ?_)|rfl|apply tn|refine' tw4 ?_);refine hx.mono ?_;rintro e wA ⟨v,rfl,⟨va,vc,rfl⟩,g',D⟩;have i8:=qsg hF D;clear hx D;go_wp2_with (with_reducible first|(first|refine' tw1 (qg ?_) ?_|refine' tw2 (qg ?_) ?_);rotate_left|refine' tw3 (qg ?_)|rfl|apply tn|refine' tw4 ?_);refine i8.mono ?_;rintro e wB ⟨rfl,D,-⟩;have HN:Hid (∃g,CutG w0 R wB p S F (P.letsK t k (i+1)) g):=qb ⟨g',D⟩;clear i8 D;go_wp2_with (with_reducible first|(first|refine' tw1 (qg ?_) ?_|refine' tw2 (qg ?_) ?_);rotate_left|refine' tw3 (qg ?_)|rfl|apply tn|refine' tw4 ?_);go_roundw
      case rel=>exact⟨i+1,by omega,by go_num,HN⟩
      case measure=>simp[intOf];omega
     ·obtain rfl:i=left:=by omega
      have HN:Hid (∃g,CutG w0 R wv p S F (P.letsO t C (k+1)) g):=qb (by rw[←qa j3];exact qa I);clear I;go_wp2_with (with_reducible first|(first|refine' tw1 (qg ?_) ?_|refine' tw2 (qg ?_) ?_);rotate_left|refine' tw3 (qg ?_)|rfl|apply tn|refine' tw4 ?_);go_roundw
      case rel=>exact⟨k+1,by omega,by go_num,HN⟩
      case measure=>simp[intOf];omega
  ·obtain rfl:k=2:=by omega
   obtain⟨g,D⟩:=qa I;replace D:CutG w0 R wq p S F (P.lets t C) g:=D;obtain⟨T,u,O⟩:=D.d;have c2:=O.cellW (show 0<2 by decide);have c3:=O.cellW (show 1<2 by decide);have f2:=qv O.at_ 2;have f3:=qv O.at_ 3;have HU:=qb O.at_;have HC:=qb D;clear O I D X f1;go_upto_region 14 with (with_reducible first|(first|refine' tw1 (qg ?_) ?_|refine' tw2 (qg ?_) ?_);rotate_left|refine' tw3 (qg ?_)|rfl|apply tn|refine' tw4 ?_);have h8:=qa HU;have e1:=z7 h8 2 (.slice none 0 0);have e2:=z7 e1 3 (.slice none 0 0);have uP:Upd (· = p) wq ((wq.setCell ⟨p,2,none⟩ (.slice none 0 0)).setCell ⟨p,3,none⟩ (.slice none 0 0)):=((Upd.refl _ _).set1 2 _).set1 3 _;have i0:=(qa HC).step hF ((qa HC).d.clear uP (by rw[e2];rfl));have e9:Hid (∃g',g'=g∧CutG w0 R ((wq.setCell ⟨p,2,none⟩ (.slice none 0 0)).setCell ⟨p,3,none⟩ (.slice none 0 0)) p S F ((P.lets t C).noWays.cutK 0) g'):=qb ⟨g,rfl,i0⟩;clear e1 e2 uP i0 HC HU h8 c2 c3 f2 f3;generalize (wq.setCell ⟨p,2,none⟩ (.slice none 0 0)).setCell ⟨p,3,none⟩ (.slice none 0 0)=w3 at e9 ⊢;have d9:(((2:Nat):Int))=2:=rfl;rw[d9];clear d9;obtain⟨Tx,ux,O⟩:∃T u,DuP w0 w3 p (Fr S R w3) ((P.lets t C).noWays.cutK 0) g T u:=by obtain⟨g',rfl,D⟩:=qa e9;exact D.d
   have c0:=O.cellE (show 0<2 by decide);have c1:=O.cellE (show 1<2 by decide);clear O;go_wp2_with (with_reducible first|(first|refine' tw1 (qg ?_) ?_|refine' tw2 (qg ?_) ?_);rotate_left|refine' tw3 (qg ?_)|rfl|apply tn|refine' tw4 ?_)
   go_loopw [64] (fun cv wr=>∃k:Nat,k≤2∧cv = .int .i64 (k:Int)∧Hid (∃g',g'=g∧CutG w0 R wr p S F ((P.lets t C).noWays.cutK k) g')) (fun cv _=>2-(intOf cv).toNat)
   case atStart=>exact⟨0,by decide,rfl,e9⟩
   case round =>
    obtain⟨k,f1,rfl,I⟩:=hrel;obtain⟨o,rfl⟩:∃wq:World,wq=wr:=⟨_,rfl⟩;clear e9 c0 c1;by_cases X:k<2
    ·have j6:(k:Int)<2:=by omega
     obtain⟨g',rfl,D⟩:=qa I;have hx:=zh7 hT D.d X;obtain⟨k0,k1⟩:=q4f (g' 0) (g' 1);have j0:=qb D;clear I D;rcases qb1 X with rfl | rfl
     all_goals
      go_wp2_with (with_reducible first|(first|refine' tw1 (qg ?_) ?_|refine' tw2 (qg ?_) ?_);rotate_left|refine' tw3 (qg ?_)|rfl|apply tn|refine' tw4 ?_);refine hx.mono ?_;rintro e wA ⟨⟨ov,rv,rfl⟩,hd⟩;have HN:=qb (show ∃h3,h3=g'∧CutG w0 R wA p S F ((P.lets t C).noWays.cutK (_+1)) h3 from⟨g',rfl,(qa j0).step hF hd⟩);clear hx hd;go_wp2_with (with_reducible first|(first|refine' tw1 (qg ?_) ?_|refine' tw2 (qg ?_) ?_);rotate_left|refine' tw3 (qg ?_)|rfl|apply tn|refine' tw4 ?_);go_roundw
      case rel=>exact⟨_,by decide,rfl,HN⟩
      case measure=>simp[intOf]
    ·obtain rfl:k=2:=by omega
     obtain⟨g',rfl,D⟩:=qa I;have h5:=(hI.heardN hK (by omega) (k:=0) (by decide) t).heardN hK (by omega) (k:=1) (by decide) C;obtain⟨la,lb⟩:=zg3 P (i:=t) l1;have U:=qyg hK hn h5;have i3:P.cutD x y=((P.lets t C).noWays.cutK 2).tellK 2:=by
      rw[q77];show ((P.heardN 0 (qed P.wa x)).heardN 1 (qed P.wb y)).told=_;rw[←e0,←e1];unfold Pr.told;rw[la,lb];rfl
     rw[la,lb] at U;have HT:Hid (HearOne (((P.lets t C).noWays.cutK 2).en 0) (((P.lets t C).noWays.cutK 2).en 1).again∧HearOne (((P.lets t C).noWays.cutK 2).en 1) (((P.lets t C).noWays.cutK 2).en 0).again):=qb ⟨U.1,U.2.1⟩;have HW:Hid (((P.lets t C).noWays.cutK 2).wa=[]∧((P.lets t C).noWays.cutK 2).wb=[]):=qb ⟨rfl,rfl⟩;have j1:=qb i3;clear h5 la lb U i3;generalize (P.lets t C).noWays.cutK 2=Q at *
     have b4:=fun(W:World) (n:qu o W)=>q36 hT (D.new n).d (k:=0) (by decide)
     have V:=fun(W:World) (n:qu o W)=>q36 hT (D.new n).d (k:=1) (by decide)
     obtain⟨T3,u3,O⟩:=D.d;have c0:=O.cellE (show 0<2 by decide);have c1:=O.cellE (show 1<2 by decide);obtain⟨Y,f4⟩:∃m,m=(Q.en 0).again:=⟨_,rfl⟩;obtain⟨m1,f5⟩:∃m,m=(Q.en 1).again:=⟨_,rfl⟩;obtain⟨x1,x2,x3,ea⟩:∃a b c,Y=agM a b c:=⟨_,_,_,f4⟩;obtain⟨y1,y2,y3,eb⟩:∃a b c,m1=agM a b c:=⟨_,_,_,f5⟩;have j5:∀w,(q8x #[(0,.agg Y.cells.toArray),(1,.agg m1.cells.toArray)]).run Tryz.prog w = .ok (.agg (mg2 Y m1).toArray) w:=by rw[ea,eb];exact zge _ _ _ _ _ _
     have f6:Y.hash.length=32:=by rw[ea];exact qs
     have f7:m1.hash.length=32:=by rw[eb];exact qs
     rw[←f4] at b4 HT;rw[←f5] at V HT;have H9:Hid (Y.kind=9∧m1.kind=9):=qb ⟨by rw[ea];rfl,by rw[eb];rfl⟩;have f8:=qb (And.intro f4 f5);have HC:=qb D;have a4:o.drew.cell? ⟨p,0,none⟩=some (.pointer (some ⟨g' 0,0,none⟩))∧o.drew.cell? ⟨p,1,none⟩=some (.pointer (some ⟨g' 1,0,none⟩)):=⟨c0,c1⟩;clear O I D ea eb f4 f5 X f1 c0 c1;have i5:(((2:Nat):Int))=2:=rfl;rw[i5];clear i5;go_upto_region 19 with (with_reducible first|(first|refine' tw1 (qg ?_) ?_|refine' tw2 (qg ?_) ?_);rotate_left|refine' tw3 (qg ?_)|rfl|apply tn|refine' tw4 ?_)
     go_cut [13] from 70 to 83 (fun av wx=>∃A,av = .pointer (some ⟨A,0,none⟩)∧Mg2 wx A Y m1∧qu o wx∧o.heap.size≤A)
     case first =>
      have N0:Hid (qu o o.drew):=qb (Upd.refl _ _).drew;refine qc7 (fun w'=>w'.cell? ⟨p,0,none⟩=some (.pointer (some ⟨g' 0,0,none⟩))∧w'.cell? ⟨p,1,none⟩=some (.pointer (some ⟨g' 1,0,none⟩))) [4,10] (.fork (.of [13,0,1,2,3,4,5,6,7,8,9,10,11,12,14]) (Plan.pre [0,1,2,3,4,5] (.fork (.of [13,6,7,8,9,10,11,12,14]) (Plan.pre [6,7,8,9,10,11] (.fork (.of [13,12,14]) (.of [12,13,14])))))) (by kernel_rfl) (by kernel_rfl) a4 ?_;simp only[Plan.of,Plan.pre];refine qf ?_ ?_
      ·go_wp2_with (with_reducible first|(first|refine' qw1 (qg ?_) ?_|refine' qw2 (qg ?_) ?_|refine' qw3 (qg ?_) ?_);rotate_left|refine' qw4 (qg ?_)|refine' qw5 (qg ?_)|rfl|apply qn);have n1:qu o (o.alloc (.cells qfe.toArray 94)).drew:=((Upd.refl _ _).alloc _).drew;have b1:(o.alloc (.cells qfe.toArray 94)).drew.heap[o.heap.size]? = some (.cells qfe.toArray 94 (0,0)):=qi o (.cells qfe.toArray 94);have c1:(o.alloc (.cells qfe.toArray 94)).drew.cell? ⟨p,0,none⟩=some (.pointer (some ⟨g' 0,0,none⟩))∧(o.alloc (.cells qfe.toArray 94)).drew.cell? ⟨p,1,none⟩=some (.pointer (some ⟨g' 1,0,none⟩)):=⟨n1.cell a4.1 (fun h=>h),n1.cell a4.2 (fun h=>h)⟩;obtain⟨A1,d3⟩:∃A,A=o.heap.size:=⟨_,rfl⟩;have z1:o.heap.size≤A1:=by rw[d3];exact Nat.le_refl _
       rw[←d3] at b1
       try rw[←d3]
       first | refine⟨c1,?_⟩ | refine⟨trivial,?_⟩ | skip
       have N1:=qb n1;generalize (o.alloc (.cells qfe.toArray 94)).drew=wa1 at b1 c1 N1 ⊢
       try rw[←d3]
       have B1:=qb (And.intro b1 z1);clear b1 n1 z1 d3
       try go_wp2_with (first | (with_reducible first|(first|refine' qw1 (qg ?_) ?_|refine' qw2 (qg ?_) ?_|refine' qw3 (qg ?_) ?_);rotate_left|refine' qw4 (qg ?_)|refine' qw5 (qg ?_)|rfl|apply qn) | refine⟨c1,?_⟩)
       refine(b4 wa1 (qa N1)).mono ?_;rintro e R ⟨rfl,n2⟩;have c2:R.cell? ⟨p,0,none⟩=some (.pointer (some ⟨g' 0,0,none⟩))∧R.cell? ⟨p,1,none⟩=some (.pointer (some ⟨g' 1,0,none⟩)):=⟨n2.cell c1.1 (fun h=>h),n2.cell c1.2 (fun h=>h)⟩;have N2:=qb ((qa N1).trans n2);have B2:=qb (And.intro (n2.old (qa B1).1 (fun h=>h)) (qa B1).2);clear n2
       try go_wp2_with (first | (with_reducible first|(first|refine' qw1 (qg ?_) ?_|refine' qw2 (qg ?_) ?_|refine' qw3 (qg ?_) ?_);rotate_left|refine' qw4 (qg ?_)|refine' qw5 (qg ?_)|rfl|apply qn) | refine⟨c2,?_⟩)
       refine(V R (qa N2)).mono ?_;rintro e w3 ⟨rfl,n3⟩;have c3:w3.cell? ⟨p,0,none⟩=some (.pointer (some ⟨g' 0,0,none⟩))∧w3.cell? ⟨p,1,none⟩=some (.pointer (some ⟨g' 1,0,none⟩)):=⟨n3.cell c2.1 (fun h=>h),n3.cell c2.2 (fun h=>h)⟩;have N3:=qb ((qa N2).trans n3);have B3:=qb (And.intro (n3.old (qa B2).1 (fun h=>h)) (qa B2).2);clear n3;obtain⟨g9,M⟩:=qlx (qa B3).1 f6 f7;have nX:qu o (w3.setCells A1 0 (mg2 Y m1)):=(qa N3).then (zz _) (fun i hi e=>by have:=(qa B3).2;omega);have J:=qb (And.intro M nX);clear M nX;go_wp2_with (first | (with_reducible first|(first|refine' qw1 (qg ?_) ?_|refine' qw2 (qg ?_) ?_|refine' qw3 (qg ?_) ?_);rotate_left|refine' qw4 (qg ?_)|refine' qw5 (qg ?_)|rfl|apply qn) | refine⟨c3,?_⟩);go_meet
       case rel=>exact⟨A1,rfl,(qa J).1,(qa J).2,(qa B3).2⟩
      ·try go_wp2_with (first | (with_reducible first|(first|refine' qw1 (qg ?_) ?_|refine' qw2 (qg ?_) ?_|refine' qw3 (qg ?_) ?_);rotate_left|refine' qw4 (qg ?_)|refine' qw5 (qg ?_)|rfl|apply qn) | refine⟨a4,?_⟩)
       refine(b4 o.drew (qa N0)).mono ?_;rintro e w4 ⟨rfl,n4⟩;have c4:w4.cell? ⟨p,0,none⟩=some (.pointer (some ⟨g' 0,0,none⟩))∧w4.cell? ⟨p,1,none⟩=some (.pointer (some ⟨g' 1,0,none⟩)):=⟨n4.cell a4.1 (fun h=>h),n4.cell a4.2 (fun h=>h)⟩;have N4:=qb ((qa N0).trans n4);clear n4;go_wp2_with (first | (with_reducible first|(first|refine' qw1 (qg ?_) ?_|refine' qw2 (qg ?_) ?_|refine' qw3 (qg ?_) ?_);rotate_left|refine' qw4 (qg ?_)|refine' qw5 (qg ?_)|rfl|apply qn) | refine⟨c4,?_⟩);refine qf ?_ ?_
       ·go_wp2_with (with_reducible first|(first|refine' qw1 (qg ?_) ?_|refine' qw2 (qg ?_) ?_|refine' qw3 (qg ?_) ?_);rotate_left|refine' qw4 (qg ?_)|refine' qw5 (qg ?_)|rfl|apply qn);have n5:qu w4 (w4.alloc (.cells qfe.toArray 94)):=(Upd.refl _ _).alloc _;have b5:(w4.alloc (.cells qfe.toArray 94)).heap[w4.heap.size]? = some (.cells qfe.toArray 94 (0,0)):=qi w4 (.cells qfe.toArray 94);have c5:(w4.alloc (.cells qfe.toArray 94)).cell? ⟨p,0,none⟩=some (.pointer (some ⟨g' 0,0,none⟩))∧(w4.alloc (.cells qfe.toArray 94)).cell? ⟨p,1,none⟩=some (.pointer (some ⟨g' 1,0,none⟩)):=⟨n5.cell c4.1 (fun h=>h),n5.cell c4.2 (fun h=>h)⟩;obtain⟨A5,d4⟩:∃A,A=w4.heap.size:=⟨_,rfl⟩;have z5:o.heap.size≤A5:=by rw[d4];exact(qa N4).size
        rw[←d4] at b5
        try rw[←d4]
        first | refine⟨c5,?_⟩ | refine⟨trivial,?_⟩ | skip
        have N5:=qb ((qa N4).trans n5);generalize (w4.alloc (.cells qfe.toArray 94))=k2 at b5 c5 N5 ⊢
        try rw[←d4]
        have B5:=qb (And.intro b5 z5);clear b5 n5 z5 d4
        try go_wp2_with (first | (with_reducible first|(first|refine' qw1 (qg ?_) ?_|refine' qw2 (qg ?_) ?_|refine' qw3 (qg ?_) ?_);rotate_left|refine' qw4 (qg ?_)|refine' qw5 (qg ?_)|rfl|apply qn) | refine⟨c5,?_⟩)
        refine(V k2 (qa N5)).mono ?_;rintro e w6 ⟨rfl,n6⟩;have c6:w6.cell? ⟨p,0,none⟩=some (.pointer (some ⟨g' 0,0,none⟩))∧w6.cell? ⟨p,1,none⟩=some (.pointer (some ⟨g' 1,0,none⟩)):=⟨n6.cell c5.1 (fun h=>h),n6.cell c5.2 (fun h=>h)⟩;have N6:=qb ((qa N5).trans n6);have B6:=qb (And.intro (n6.old (qa B5).1 (fun h=>h)) (qa B5).2);clear n6;obtain⟨g9,M⟩:=qlx (qa B6).1 f6 f7;have nX:qu o (w6.setCells A5 0 (mg2 Y m1)):=(qa N6).then (zz _) (fun i hi e=>by have:=(qa B6).2;omega);have J:=qb (And.intro M nX);clear M nX;go_wp2_with (first | (with_reducible first|(first|refine' qw1 (qg ?_) ?_|refine' qw2 (qg ?_) ?_|refine' qw3 (qg ?_) ?_);rotate_left|refine' qw4 (qg ?_)|refine' qw5 (qg ?_)|rfl|apply qn) | refine⟨c6,?_⟩);go_meet
        case rel=>exact⟨A5,rfl,(qa J).1,(qa J).2,(qa B6).2⟩
       ·try go_wp2_with (first | (with_reducible first|(first|refine' qw1 (qg ?_) ?_|refine' qw2 (qg ?_) ?_|refine' qw3 (qg ?_) ?_);rotate_left|refine' qw4 (qg ?_)|refine' qw5 (qg ?_)|rfl|apply qn) | refine⟨c4,?_⟩)
        refine(V w4 (qa N4)).mono ?_;rintro e E ⟨rfl,Z⟩;have c7:E.cell? ⟨p,0,none⟩=some (.pointer (some ⟨g' 0,0,none⟩))∧E.cell? ⟨p,1,none⟩=some (.pointer (some ⟨g' 1,0,none⟩)):=⟨Z.cell c4.1 (fun h=>h),Z.cell c4.2 (fun h=>h)⟩;have N7:=qb ((qa N4).trans Z);clear Z;go_wp2_with (first | (with_reducible first|(first|refine' qw1 (qg ?_) ?_|refine' qw2 (qg ?_) ?_|refine' qw3 (qg ?_) ?_);rotate_left|refine' qw4 (qg ?_)|refine' qw5 (qg ?_)|rfl|apply qn) | refine⟨c7,?_⟩);refine qf ?_ ?_
        ·go_wp2_with (with_reducible first|(first|refine' qw1 (qg ?_) ?_|refine' qw2 (qg ?_) ?_|refine' qw3 (qg ?_) ?_);rotate_left|refine' qw4 (qg ?_)|refine' qw5 (qg ?_)|rfl|apply qn);have n8:qu E (E.alloc (.cells qfe.toArray 94)):=(Upd.refl _ _).alloc _;have b8:(E.alloc (.cells qfe.toArray 94)).heap[E.heap.size]? = some (.cells qfe.toArray 94 (0,0)):=qi E (.cells qfe.toArray 94);have c8:(E.alloc (.cells qfe.toArray 94)).cell? ⟨p,0,none⟩=some (.pointer (some ⟨g' 0,0,none⟩))∧(E.alloc (.cells qfe.toArray 94)).cell? ⟨p,1,none⟩=some (.pointer (some ⟨g' 1,0,none⟩)):=⟨n8.cell c7.1 (fun h=>h),n8.cell c7.2 (fun h=>h)⟩;obtain⟨A8,d5⟩:∃A,A=E.heap.size:=⟨_,rfl⟩;have z8:o.heap.size≤A8:=by rw[d5];exact(qa N7).size
         rw[←d5] at b8
         try rw[←d5]
         first | refine⟨c8,?_⟩ | refine⟨trivial,?_⟩ | skip
         have N8:=qb ((qa N7).trans n8);generalize (E.alloc (.cells qfe.toArray 94))=k3 at b8 c8 N8 ⊢
         try rw[←d5]
         have B8:=qb (And.intro b8 z8);clear b8 n8 z8 d5;obtain⟨g9,M⟩:=qlx (qa B8).1 f6 f7;have nX:qu o (k3.setCells A8 0 (mg2 Y m1)):=(qa N8).then (zz _) (fun i hi e=>by have:=(qa B8).2;omega);have J:=qb (And.intro M nX);clear M nX;go_wp2_with (first | (with_reducible first|(first|refine' qw1 (qg ?_) ?_|refine' qw2 (qg ?_) ?_|refine' qw3 (qg ?_) ?_);rotate_left|refine' qw4 (qg ?_)|refine' qw5 (qg ?_)|rfl|apply qn) | refine⟨c8,?_⟩);go_meet
         case rel=>exact⟨A8,rfl,(qa J).1,(qa J).2,(qa B8).2⟩
        ·go_wp2_with (with_reducible first|(first|refine' qw1 (qg ?_) ?_|refine' qw2 (qg ?_) ?_|refine' qw3 (qg ?_) ?_);rotate_left|refine' qw4 (qg ?_)|refine' qw5 (qg ?_)|rfl|apply qn);have n9:qu E (E.alloc (.cells qfe.toArray 94)):=(Upd.refl _ _).alloc _;have b9:(E.alloc (.cells qfe.toArray 94)).heap[E.heap.size]? = some (.cells qfe.toArray 94 (0,0)):=qi E (.cells qfe.toArray 94);have c9:(E.alloc (.cells qfe.toArray 94)).cell? ⟨p,0,none⟩=some (.pointer (some ⟨g' 0,0,none⟩))∧(E.alloc (.cells qfe.toArray 94)).cell? ⟨p,1,none⟩=some (.pointer (some ⟨g' 1,0,none⟩)):=⟨n9.cell c7.1 (fun h=>h),n9.cell c7.2 (fun h=>h)⟩;obtain⟨A9,d6⟩:∃A,A=E.heap.size:=⟨_,rfl⟩;have z9:o.heap.size≤A9:=by rw[d6];exact(qa N7).size
         rw[←d6] at b9
         try rw[←d6]
         first | refine⟨c9,?_⟩ | refine⟨trivial,?_⟩ | skip
         have N9:=qb ((qa N7).trans n9);generalize (E.alloc (.cells qfe.toArray 94))=k4 at b9 c9 N9 ⊢
         try rw[←d6]
         have B9:=qb (And.intro b9 z9);clear b9 n9 z9 d6;obtain⟨g9,M⟩:=qlx (qa B9).1 f6 f7;have nX:qu o (k4.setCells A9 0 (mg2 Y m1)):=(qa N9).then (zz _) (fun i hi e=>by have:=(qa B9).2;omega);have J:=qb (And.intro M nX);clear M nX;go_wp2_with (first | (with_reducible first|(first|refine' qw1 (qg ?_) ?_|refine' qw2 (qg ?_) ?_|refine' qw3 (qg ?_) ?_);rotate_left|refine' qw4 (qg ?_)|refine' qw5 (qg ?_)|rfl|apply qn) | refine⟨c9,?_⟩);go_meet
         case rel=>exact⟨A9,rfl,(qa J).1,(qa J).2,(qa B9).2⟩
     case rest =>
      obtain⟨A,rfl,hA,nA,j4⟩:=hcut;obtain⟨w5,rfl⟩:∃w5:World,w5=wc:=⟨_,rfl⟩;obtain⟨d0,g6⟩:=(qa HC).again hF nA;have f0:¬Fr S R o A:=by
       have hz:=(qa HC).u.size;rintro (e | e)
       ·have:=(qa HC).d.lt A (.inl e);omega
       ·omega
      have h4:A≠F:=fun e=>by have:=hF.2.1;have:=(qa HC).u.size;omega
      have k5:A<w5.heap.size:=z6 hA.at_;have h1:=qb (fun(wE:World) (Q':Pr) (g2:Nat→Nat) (c2:CutG w0 w5 wE p (Fr S R o) F Q' g2)=>CutG.fin2 (qa H) (qa N2) (qa j2) (qa HC) nA c2);generalize Fr S R o=S2 at *
      have h0:Hid (CutG w0 w5 w5 p S2 F (Q.tellK 0) g'):=qb g6;obtain⟨T5,u5,O⟩:=g6.d;have c0:=O.cellE (show 0<2 by decide);have c1:=O.cellE (show 1<2 by decide);clear O b4 V HC nA j4 g6 a4 j5;go_wp2_with (with_reducible first|(first|refine' tw1 (qg ?_) ?_|refine' tw2 (qg ?_) ?_);rotate_left|refine' tw3 (qg ?_)|rfl|apply tn|refine' tw4 ?_)
      go_loopw [87] (fun cv wr=>∃k:Nat,k≤2∧cv = .int .i64 (k:Int)∧Mg2 wr A Y m1∧Hid (CutG w0 w5 wr p S2 F (Q.tellK k) g')) (fun cv _=>2-(intOf cv).toNat)
      case atStart=>exact⟨0,by decide,rfl,hA,h0⟩
      case round =>
       obtain⟨k,f1,rfl,a5,I⟩:=hrel;obtain⟨w6,rfl⟩:∃wq:World,wq=wr:=⟨_,rfl⟩;clear h0 c0 c1 hA;by_cases X:k<2
       ·obtain⟨k0,k1⟩:=q4f (g' 0) (g' 1);have b6:=fun W=>qja 1 W
        have b7:=fun W=>qja 2 W
        rw[show sd 1=1 from rfl] at b6;rw[show sd 2=0 from rfl] at b7;rcases qb1 X with rfl | rfl
        ·have hr:=a5.row1;have ho:=(qa HT).1;have hh:=fun(W:World) (n:qu w6 W)=>q9g hT ((qa I).new n).d (k:=0) (by decide) (m:=m1) ho ((qa H9).2)
         have HS:=qb (qa I);clear I;go_wp2_with (with_reducible first|(first|refine' tw1 (qg ?_) ?_|refine' tw2 (qg ?_) ?_);rotate_left|refine' tw3 (qg ?_)|rfl|apply tn|refine' tw4 ?_);refine(b6 _).mono ?_;rintro e E ⟨rfl,q⟩;have Z:qu w6 E:=q.upd _;have g8:=qa9 hr Z (fun h=>h);have d8:=hh E Z;have g0:=qb (a5.upd Z (fun h=>h));have d1:=qb ((qa HS).new Z);clear b6 b7 hh q Z hr a5;go_wp2_with (with_reducible first|(first|refine' tw1 (qg ?_) ?_|refine' tw2 (qg ?_) ?_);rotate_left|refine' tw3 (qg ?_)|rfl|apply tn|refine' tw4 ?_);refine d8.mono ?_;rintro e w8 ⟨v,rfl,b3,a7⟩;have d7:=(qa d1).step d0 a7;have g1:=qb ((qa g0).upd a7.2 (by
          have hz:=(qa d1).u.size;rintro (e | e)
          ·exact f0 e
          ·omega))
         have e5:=qsg d0 d7;have g4:=qb b3;obtain⟨va,vc,rfl⟩:=b3.shape;clear d8 b3 a7 d7 g8;go_wp2_with (with_reducible first|(first|refine' tw1 (qg ?_) ?_|refine' tw2 (qg ?_) ?_);rotate_left|refine' tw3 (qg ?_)|rfl|apply tn|refine' tw4 ?_);refine e5.mono ?_;rintro e w9 ⟨rfl,a6,e8,N⟩;have e6:=(qa g4).keep N;have g3:Hid (Mg2 w9 A Y m1):=qb ((qa g1).upd e8 h4);have e7:=qmk a6.d 0 0 rfl _ ho.says _ e6 (by
          have:=ho.few;show ((Q.tellK 0).way 1).length+_≤_;rw[show (Q.tellK 0).way 1=Q.wb from rfl,(qa HW).2];simpa using this)
         have d2:=qb a6;clear e5 a6 N e6 e8;go_wp2_with (with_reducible first|(first|refine' tw1 (qg ?_) ?_|refine' tw2 (qg ?_) ?_);rotate_left|refine' tw3 (qg ?_)|rfl|apply tn|refine' tw4 ?_);refine e7.mono ?_;rintro e wB ⟨rfl,a8⟩;have HN:Hid (CutG w0 w5 wB p S2 F (Q.tellK 1) g'):=qb (by
          have e:Q.tellK 1=(Q.tellK 0).sends 0 ((Q.en 0).hears m1).2.1:=by rw[(qa f8).2];rfl
          rw[e];exact(qa d2).step d0 a8)
         have g5:Mg2 wB A Y m1:=(qa g3).upd a8.2 (by
          have hz:=(qa d2).u.size;rintro (e | e)
          ·exact f0 e
          ·omega)
         clear e7 a8;go_wp2_with (with_reducible first|(first|refine' tw1 (qg ?_) ?_|refine' tw2 (qg ?_) ?_);rotate_left|refine' tw3 (qg ?_)|rfl|apply tn|refine' tw4 ?_);go_roundw
         case rel=>exact⟨1,by decide,rfl,g5,HN⟩
         case measure=>simp[intOf]
        ·have hr:=a5.row0;have ho:=(qa HT).2;have hh:=fun(W:World) (n:qu w6 W)=>q9g hT ((qa I).new n).d (k:=1) (by decide) (m:=Y) ho ((qa H9).1)
         have HS:=qb (qa I);clear I;go_wp2_with (with_reducible first|(first|refine' tw1 (qg ?_) ?_|refine' tw2 (qg ?_) ?_);rotate_left|refine' tw3 (qg ?_)|rfl|apply tn|refine' tw4 ?_);refine(b7 _).mono ?_;rintro e E ⟨rfl,q⟩;have Z:qu w6 E:=q.upd _;have g8:=qa9 hr Z (fun h=>h);have d8:=hh E Z;have g0:=qb (a5.upd Z (fun h=>h));have d1:=qb ((qa HS).new Z);clear b6 b7 hh q Z hr a5;go_wp2_with (with_reducible first|(first|refine' tw1 (qg ?_) ?_|refine' tw2 (qg ?_) ?_);rotate_left|refine' tw3 (qg ?_)|rfl|apply tn|refine' tw4 ?_);refine d8.mono ?_;rintro e w8 ⟨v,rfl,b3,a7⟩;have d7:=(qa d1).step d0 a7;have g1:=qb ((qa g0).upd a7.2 (by
          have hz:=(qa d1).u.size;rintro (e | e)
          ·exact f0 e
          ·omega))
         have e5:=qsg d0 d7;have g4:=qb b3;obtain⟨va,vc,rfl⟩:=b3.shape;clear d8 b3 a7 d7 g8;go_wp2_with (with_reducible first|(first|refine' tw1 (qg ?_) ?_|refine' tw2 (qg ?_) ?_);rotate_left|refine' tw3 (qg ?_)|rfl|apply tn|refine' tw4 ?_);refine e5.mono ?_;rintro e w9 ⟨rfl,a6,e8,N⟩;have e6:=(qa g4).keep N;have g3:Hid (Mg2 w9 A Y m1):=qb ((qa g1).upd e8 h4);have e7:=qmk a6.d 1 1 rfl _ ho.says _ e6 (by
          have:=ho.few;show ((Q.tellK 1).way 0).length+_≤_;rw[show (Q.tellK 1).way 0=Q.wa from rfl,(qa HW).1];simpa using this)
         have d2:=qb a6;clear e5 a6 N e6 e8;go_wp2_with (with_reducible first|(first|refine' tw1 (qg ?_) ?_|refine' tw2 (qg ?_) ?_);rotate_left|refine' tw3 (qg ?_)|rfl|apply tn|refine' tw4 ?_);refine e7.mono ?_;rintro e wB ⟨rfl,a8⟩;have HN:Hid (CutG w0 w5 wB p S2 F (Q.tellK 2) g'):=qb (by
          have e:Q.tellK 2=(Q.tellK 1).sends 1 ((Q.en 1).hears Y).2.1:=by rw[(qa f8).1];rfl
          rw[e];exact(qa d2).step d0 a8)
         have g5:Mg2 wB A Y m1:=(qa g3).upd a8.2 (by
          have hz:=(qa d2).u.size;rintro (e | e)
          ·exact f0 e
          ·omega)
         clear e7 a8;go_wp2_with (with_reducible first|(first|refine' tw1 (qg ?_) ?_|refine' tw2 (qg ?_) ?_);rotate_left|refine' tw3 (qg ?_)|rfl|apply tn|refine' tw4 ?_);go_roundw
         case rel=>exact⟨2,by decide,rfl,g5,HN⟩
         case measure=>simp[intOf]
       ·obtain rfl:k=2:=by omega
        have hf:=qh (qa I).f 0;have HX:=qb (qa h1 _ _ _ (qa I));rw[←qa j1] at HX;have d9:(((2:Nat):Int))=2:=rfl;rw[d9];clear I a5 d9;go_wp2_with (with_reducible first|(first|refine' tw1 (qg ?_) ?_|refine' tw2 (qg ?_) ?_);rotate_left|refine' tw3 (qg ?_)|rfl|apply tn|refine' tw4 ?_);go_ret;exact⟨rfl,qa HX⟩
end
end Go.Proofs.YthnohmjbbeahmaaGreatDoor
