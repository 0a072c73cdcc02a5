/-
  The law ChannelRests, walked.
-/
import Derived.Test.YtjpmomdechibmaaGreatDoorRsV
import Derived.Test.YtjpmomdechibmaaGreatDoorHeL
set_option linter.unusedVariables false
set_option linter.unusedSimpArgs false
namespace Go.Proofs.YtjpmomdechibmaaGreatDoor
open Go.RowKit
attribute [local go_sem ↓ high] qkm qhj qww
attribute [local go_sem] q0p qu9 zq
set_option maxRecDepth 100000 in
set_option maxHeartbeats 4000000 in
theorem q5p(o c:Int)(v:Value)(xs:List ActV)(w:World)(ho:0≤o∧o<18446744073709551616)(hc:0≤c∧c<18446744073709551616)(hv:qo1 w v xs)(hx:∀x∈xs,x.Ok)(hT:Tb w) :
  Calls Tryz.prog 9 #[.int .u64 o,.int .u64 c,v] w (qa7 (.bool true) w):=by
 obtain⟨va,vc,rfl⟩:=hv.slice
 have X:=fun W (n:qy w W)=>qts W (hT.new n)
 have HV:=qb hv
 by_cases b8:100<xs.length
 ·have hb:(100:Int)<(xs.length:Int):=by omega
  clear hv
  go_enter Tryz.func9,Tryz.ntmps9
  go_wp2_with fail
  refine(X w (Upd.refl _ _)).mono ?_
  rintro e w1 ⟨rfl,n1⟩
  go_wp2_with fail
  go_ret
  exact⟨rfl,n1⟩
 ·have hb:¬(100:Int)<(xs.length:Int):=by omega
  clear hv
  go_enter Tryz.func9,Tryz.ntmps9
  go_wp2_with fail
  refine(X w (Upd.refl _ _)).mono ?_
  rintro e w1 ⟨rfl,n1⟩
  have q:=hT.new n1
  have b4:=qb ((qa HV).new n1)
  have V:=qb n1
  clear X HV n1
  go_wp2_with fail
  refine(qsm o c ho hc w1).mono ?_
  rintro e w2 (⟨p,gA,gB,rfl,R,hP⟩ | ⟨rfl,a8,n2⟩)
  case inr =>
   have hN:=qb ((qa V).trans n2)
   have a6:=q80 a8 hc.1
   clear a8 n2 V
   by_cases h0:c=0
   ·subst h0
    go_wp2_with fail
    go_ret
    exact⟨rfl,qa hN⟩
   ·by_cases h1:1125899906842624<c
    ·have d0:(c==0)=false:=beq_eq_false_iff_ne.2 h0
     have d1:decide (1125899906842624<c)=true:=decide_eq_true h1
     clear a6
     go_wp2_with fail
     go_ret
     exact⟨rfl,qa hN⟩
    ·have h2:c<o:=by omega
     have d0:(c==0)=false:=beq_eq_false_iff_ne.2 h0
     have d1:decide (1125899906842624<c)=false:=decide_eq_false h1
     have d2:decide (c<o)=true:=decide_eq_true h2
     clear a6
     go_wp2_with fail
     go_ret
     exact⟨rfl,qa hN⟩
  case inl =>
   obtain⟨g,P⟩:=PrK.start hP
   have C:=q0o ho.1 R
   have hI:=fun i (h:i≤xs.length)=>qps C (q25 ho.1 R) hx i h (by omega)
   have HI:=qb hI
   have HG:Hid (∃g,PrK w1 w2 p g ((pr0 o c).acts (xs.take 0)) []):=qb ⟨g,P⟩
   clear hP P hI
   go_wp2_with fail
   go_loopw [8] (fun iv wr=>∃i:Nat,iv = .int .i64 (i:Int)∧i≤xs.length∧Hid (∃g,PrK w1 wr p g ((pr0 o c).acts (xs.take i)) [])) (fun iv _=>xs.length-(intOf iv).toNat)
   case atStart=>exact⟨0,rfl,Nat.zero_le _,HG⟩
   case round =>
    obtain⟨i,rfl,hi,HH⟩:=hrel
    obtain⟨wq,rfl⟩:∃wq:World,wq=wr:=⟨_,rfl⟩
    obtain⟨g,P⟩:=qa HH
    clear HH HG
    by_cases E:i<xs.length
    ·obtain⟨x,m⟩:∃x,xs[i]? = some x:=⟨_,List.getElem?_eq_getElem E⟩
     have b9:(i:Int)<(xs.length:Int):=by omega
     obtain⟨gv,off,rfl,a9⟩:=((qa b4).new P.n).at m
     have hd:=qwt q C (by omega) P (qa HI i hi) x (hx x (List.mem_of_getElem? m))
     rw[←qnf _ m] at hd
     generalize a5:(pr0 o c).acts (xs.take (i+1))=P' at *
     have b3:=qb a5
     clear P m a5
     go_wp2_with (with_reducible first|(first|refine' zr (qg ?_) ?_|refine' zt (qg ?_) ?_);rotate_left|refine' zu (qg ?_)|rfl|apply tn|refine' zv ?_)
     refine hd.mono ?_
     rintro e w4 ⟨rfl,g',H⟩
     have H:=qb H
     clear hd a9
     go_wp2_with (with_reducible first|(first|refine' zr (qg ?_) ?_|refine' zt (qg ?_) ?_);rotate_left|refine' zu (qg ?_)|rfl|apply tn|refine' zv ?_)
     go_roundw
     case rel=>exact⟨i+1,by go_num,E,qb ⟨g',by rw[qa b3];exact qa H⟩⟩
     case measure=>simp[intOf];omega
    ·obtain rfl:i=xs.length:=by omega
     have hP:=qa HI _ (Nat.le_refl _)
     have hr:=ql3 q C Stays.triv (by omega) P hP trivial hP.mu
     have b6:=qa V
     clear P hP HI
     go_wp2_with (with_reducible first|(first|refine' zr (qg ?_) ?_|refine' zt (qg ?_) ?_);rotate_left|refine' zu (qg ?_)|rfl|apply tn|refine' zv ?_)
     refine hr.mono ?_
     rintro e w4 ⟨rfl,Z,g,H,hQ,-,hR⟩
     have t:=qb (And.intro (quiet_of (by omega) hQ hR) (And.intro hQ.bad (And.intro hR.wa hR.wb)))
     have c2:(Z.en 0).xs.length≤16:=(hQ.end C (by omega) (show 0<2 by decide)).inv.few
     have c0:=H.cell (show 0<2 by decide)
     have q0:=zcv q H (show 0<2 by decide)
     have H:=qb H
     clear hr hQ hR E hi hx
     go_wp2_with (with_reducible first|(first|refine' zr (qg ?_) ?_|refine' zt (qg ?_) ?_);rotate_left|refine' zu (qg ?_)|rfl|apply tn|refine' zv ?_)
     refine q0.mono ?_
     rintro e w5 ⟨rfl,n5⟩
     have H5:=qb ((qa H).new n5)
     clear n5 q0 H c0
     go_upto_region 12 with (with_reducible first|(first|refine' zr (qg ?_) ?_|refine' zt (qg ?_) ?_);rotate_left|refine' zu (qg ?_)|rfl|apply tn|refine' zv ?_)
     have J:=(qa H5).alloc #[.int .u64 (Z.en 0).loc,.int .u64 (Z.en 0).rem] 53
     generalize w5.alloc (.cells #[.int .u64 (Z.en 0).loc,.int .u64 (Z.en 0).rem] 53)=w6 at J ⊢
     generalize w5.heap.size=A at J ⊢
     have c1:=J.cell (show 1<2 by decide)
     have q1:=zcv q J (show 1<2 by decide)
     rw[(qa t).1.loc1,(qa t).1.rem1] at q1
     have J:=qb J
     clear H5
     go_wp2_with (with_reducible first|(first|refine' zr (qg ?_) ?_|refine' zt (qg ?_) ?_);rotate_left|refine' zu (qg ?_)|rfl|apply tn|refine' zv ?_)
     refine q1.mono ?_
     rintro e w7 ⟨rfl,n7⟩
     have H7:=qb ((qa J).new n7)
     clear n7 q1 J c1
     go_upto_region 13 with (with_reducible first|(first|refine' zr (qg ?_) ?_|refine' zt (qg ?_) ?_);rotate_left|refine' zu (qg ?_)|rfl|apply tn|refine' zv ?_)
     have K:=(qa H7).alloc #[.int .u64 (Z.en 0).rem,.int .u64 (Z.en 0).loc] 53
     generalize w7.alloc (.cells #[.int .u64 (Z.en 0).rem,.int .u64 (Z.en 0).loc] 53)=w8 at K ⊢
     generalize w7.heap.size=B at K ⊢
     have c0:=K.cell (show 0<2 by decide)
     have q2:=zda q K (show 0<2 by decide)
     have K:=qb K
     clear H7
     go_wp2_with (with_reducible first|(first|refine' zr (qg ?_) ?_|refine' zt (qg ?_) ?_);rotate_left|refine' zu (qg ?_)|rfl|apply tn|refine' zv ?_)
     refine q2.mono ?_
     rintro e w9 ⟨xa,xc,rfl,n9,hX⟩
     have U:=(qa K).new n9
     have c1:=U.cell (show 1<2 by decide)
     have q3:=zda q U (show 1<2 by decide)
     rw[(qa t).1.len1] at q3
     have U:=qb U
     have O:=qb hX
     clear n9 q2 K c0 hX
     go_wp2_with (with_reducible first|(first|refine' zr (qg ?_) ?_|refine' zt (qg ?_) ?_);rotate_left|refine' zu (qg ?_)|rfl|apply tn|refine' zv ?_)
     refine q3.mono ?_
     rintro e c5 ⟨ya,yc,rfl,a4,hY⟩
     replace O:=qb ((qa O).new a4)
     have z:=(qa U).new a4
     have c0:=z.cell (show 0<2 by decide)
     have q4:=q2n q z (show 0<2 by decide)
     rw[show (Z.en 0).k.awaits=false from(qa t).1.aw.1] at q4
     have HY:=qb hY
     have z:=qb z
     clear a4 q3 U c1 hY
     go_wp2_with (with_reducible first|(first|refine' zr (qg ?_) ?_|refine' zt (qg ?_) ?_);rotate_left|refine' zu (qg ?_)|rfl|apply tn|refine' zv ?_)
     refine q4.mono ?_
     rintro e c6 ⟨rfl,M⟩
     replace O:=qb ((qa O).new M)
     replace HY:=qb ((qa HY).new M)
     have D:=(qa z).new M
     have c1:=D.cell (show 1<2 by decide)
     have q5:=q2n q D (show 1<2 by decide)
     rw[show (Z.en 1).k.awaits=false from(qa t).1.aw.2,(qa t).1.sig1,(qa t).1.hrd1] at q5
     replace D:=qb D
     clear M q4 z c0
     go_wp2_with (with_reducible first|(first|refine' zr (qg ?_) ?_|refine' zt (qg ?_) ?_);rotate_left|refine' zu (qg ?_)|rfl|apply tn|refine' zv ?_)
     refine q5.mono ?_
     rintro e F ⟨rfl,N⟩
     replace O:=qb ((qa O).new N)
     replace HY:=qb ((qa HY).new N)
     have l:=(qa D).new N
     obtain⟨aa,ca,ab,cb,p2,p3,p4⟩:=l.cells
     rw[(qa t).2.2.1,List.length_nil] at p2
     rw[(qa t).2.2.2,List.length_nil] at p3
     rw[(qa t).2.1] at p4
     have b0:F.cell? ⟨B,0,none⟩=some (.int .u64 (Z.en 0).rem):=qh l.one 0
     have b1:F.cell? ⟨B,1,none⟩=some (.int .u64 (Z.en 0).loc):=qh l.one 1
     have a0:F.cell? ⟨A,0,none⟩=some (.int .u64 (Z.en 0).loc):=qh l.two 0
     have a1:F.cell? ⟨A,1,none⟩=some (.int .u64 (Z.en 0).rem):=qh l.two 1
     have HN:=qb (b6.trans l.n)
     have HO:=qb (And.intro (l.liveOk (show 0<2 by decide)) (l.liveOk (show 1<2 by decide)))
     clear N q5 D c1 l H
     go_upto_region 19 with (with_reducible first|(first|refine' zr (qg ?_) ?_|refine' zt (qg ?_) ?_);rotate_left|refine' zu (qg ?_)|rfl|apply tn|refine' zv ?_)
     clear p2 p3 p4 a0 a1 b0 b1 J K U z
     go_wp2_with (with_reducible first|(first|refine' zr (qg ?_) ?_|refine' zt (qg ?_) ?_);rotate_left|refine' zu (qg ?_)|rfl|apply tn|refine' zv ?_)
     go_loopw [19,20,21] (fun iv fv jv wr=>∃i:Nat,iv = .int .i64 (i:Int)∧i≤(Z.en 0).xs.length∧Q F wr) (fun iv _ _ _=>(Z.en 0).xs.length-(intOf iv).toNat)
     case atStart=>exact⟨0,rfl,Nat.zero_le _,Q.refl _⟩
     case round =>
      obtain⟨i,rfl,hi,qr⟩:=hrel
      obtain⟨wq,rfl⟩:∃wq:World,wq=wr:=⟨_,rfl⟩
      by_cases E:i<(Z.en 0).xs.length
      ·obtain⟨x,m⟩:∃x,(Z.en 0).xs[i]? = some x:=⟨_,List.getElem?_eq_getElem E⟩
       obtain⟨y,Y⟩:∃y,(Z.en 1).xs[i]? = some y:=⟨_,List.getElem?_eq_getElem (by rw[(qa t).1.len1];exact E)⟩
       have a7:=List.mem_of_getElem? m
       obtain⟨bx,rfl,-,-,-,sx⟩:=((qa O).new (qr.upd _)).row m
       obtain⟨bz,rfl,-,-,-,sy⟩:=((qa HY).new (qr.upd _)).row Y
       rw[((qa t).1.four x a7).1] at sx
       rw[q09 (qa t).1 (List.mem_of_getElem? Y)] at sy
       have c3:(i:Int)<((Z.en 0).xs.length:Int):=by omega
       have b5:=qb m
       have HM:=qb a7
       clear m Y
       go_wp2_with (with_reducible first|(first|refine' zr (qg ?_) ?_|refine' zt (qg ?_) ?_);rotate_left|refine' zu (qg ?_)|rfl|apply tn|refine' zv ?_)
       go_loopw [20,21] (fun fv jv wr=>∃j:Nat,jv = .int .i64 (j:Int)∧j≤(Z.en 0).xs.length∧fv = .bool (qlu ((Z.en 1).xs.take j) x)∧Q F wr) (fun _ jv _=>(Z.en 0).xs.length-(intOf jv).toNat)
       case atStart=>exact⟨0,rfl,Nat.zero_le _,rfl,by first | exact qr | exact qr.drewN' 1 | exact qr.trans ⟨1,rfl⟩⟩
       case round =>
        obtain⟨j,rfl,hj,rfl,T⟩:=hrel
        obtain⟨wv,rfl⟩:∃wv:World,wv=wr:=⟨_,rfl⟩
        clear sx sy qr
        by_cases b7:j<(Z.en 0).xs.length
        ·obtain⟨y,L⟩:∃y,(Z.en 1).xs[j]? = some y:=⟨_,List.getElem?_eq_getElem (by rw[(qa t).1.len1];exact b7)⟩
         obtain⟨_,e1,rx,-,ox,-⟩:=((qa O).new (T.upd _)).row (qa b5)
         cases e1
         obtain⟨_,e1,ry,-,oy,-⟩:=((qa HY).new (T.upd _)).row L
         cases e1
         have he:=zd3 ((qa HO).2 y (List.mem_of_getElem? L)).h ((qa HO).1 x (qa HM)).h
         have c4:(j:Int)<((Z.en 0).xs.length:Int):=by omega
         have I:=qb (qz9 x L)
         clear L
         generalize q9 y.h=C1 at ry he
         generalize q9 x.h=C2 at rx he
         generalize q0i y.h x.h=r at he I
         generalize x.own=ob at ox I
         generalize y.own=oc at oy I
         generalize qlu ((Z.en 1).xs.take j) x=f at I ⊢
         cases f<;>cases r<;>cases ob<;>cases oc
         all_goals
          go_wp2_with (with_reducible first|(first|refine' zr (qg ?_) ?_|refine' zt (qg ?_) ?_);rotate_left|refine' zu (qg ?_)|rfl|apply tn|refine' zv ?_)
          go_roundw
          case rel=>exact⟨j+1,by go_num,by omega,by rw[qa I];rfl,by first | exact T | exact T.drewN' 1 | exact T.trans ⟨1,rfl⟩⟩
          case measure=>simp[intOf];omega
        ·obtain rfl:j=(Z.en 0).xs.length:=by omega
         have hf:qlu ((Z.en 1).xs.take (Z.en 0).xs.length) x=true:=by
          rw[←(qa t).1.len1,List.take_length]
          exact qyg (qa t).1 (qa HM)
         rw[hf]
         clear hf
         go_wp2_with (with_reducible first|(first|refine' zr (qg ?_) ?_|refine' zt (qg ?_) ?_);rotate_left|refine' zu (qg ?_)|rfl|apply tn|refine' zv ?_)
         go_roundw
         case rel=>exact⟨i+1,by go_num,by omega,by first | exact T | exact T.drewN' 1 | exact T.trans ⟨1,rfl⟩⟩
         case measure=>simp[intOf];omega
      ·obtain rfl:i=(Z.en 0).xs.length:=by omega
       go_wp2_with (with_reducible first|(first|refine' zr (qg ?_) ?_|refine' zt (qg ?_) ?_);rotate_left|refine' zu (qg ?_)|rfl|apply tn|refine' zv ?_)
       go_ret
       exact⟨rfl,(qa HN).trans (qr.upd _)⟩
end Go.Proofs.YtjpmomdechibmaaGreatDoor
