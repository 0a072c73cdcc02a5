/-
  Law 13: 'shown' is true.
-/
import Derived.Test.YtjpmomdechibmaaGreatDoorMcj
import Derived.Deep.Onto
import Derived.Maps.AppendAt
import Derived.Deep.AppendLies
set_option linter.unusedVariables false
set_option linter.unusedSimpArgs false
namespace Go.Proofs.YtjpmomdechibmaaGreatDoor
open Go.RowKit
attribute [local go_sem ↓ high] qaa qap qar qa1 qab qac qag qah qn9 qoa qk0 qj9 qh3
attribute [local go_sem] qcx qdn qdt qfm zq qcy qc0 qc2 q1w qzj qqx qsu qsv
set_option maxRecDepth 100000 in
set_option maxHeartbeats 2000000 in
theorem qts(w:World)(hT:Tb w):Calls Tryz.prog 12 #[] w (qa7 (.bool true) w):=by
 have z:(qga 10 10).Ok:=q28 ⟨by decide,by decide⟩ ⟨by decide,by decide⟩
 have D:(qjv 10 10).Ok:=q29 ⟨by decide,by decide⟩
 have X:(qga 10 10).may:=⟨by decide,by decide,by decide,by decide,by decide⟩
 have Y:(qjv 10 10).may:=⟨by decide,by decide,by decide,by decide,by decide⟩
 obtain⟨f,a6⟩:∃f:Vector Int 32,f=qic (ofI (qfw 0)):=⟨_,rfl⟩
 have c2:(ofI (qfw 0)).length=32:=qck _
 have c1:qa6 (ofI (qfw 0)):=qez _
 have a7:f.toList.length=32:=by simp
 have e5:f.toList=ofI (qfw 0):=by rw[a6];exact qfs c2
 have e4:qa6 f.toList:=by rw[e5];exact c1
 have e0:=qb a6
 clear a6
 go_enter Tryz.func12,Tryz.ntmps12
 go_wp2_with fail
 refine(qrk 10 10 w).mono ?_
 rintro e w1 ⟨rfl,n1⟩
 obtain⟨E,hF⟩:=qnv (qi w1 (.cells qn0.toArray 82)) (s:=qga 10 10) (t:=qjv 10 10) rfl rfl
 have e1:w.heap.size≤w1.heap.size:=n1.size
 have n2:qy w ((w1.alloc (.cells qn0.toArray 82)).setCells w1.heap.size 0 (qit (qga 10 10) (qjv 10 10))):=(n1.alloc _).then (qak _) (fun i hi e=>by omega)
 generalize e2:qga 10 10=sA at *
 generalize e3:qjv 10 10=sB at *
 clear n1
 go_upto_region 2 with fail
 generalize (w1.alloc (.cells qn0.toArray 82)).setCells w1.heap.size 0 (qit sA sB)=w2 at hF n2 ⊢
 generalize w1.heap.size=T at hF e1 ⊢
 clear E w1
 have r0:=hF.row0
 have HF:=qb hF
 have N2:=qb n2
 clear hF n2
 go_wp2_with fail
 refine(qmr sA z w2).mono ?_
 rintro e w3 (⟨-,F,rfl,f5,c5,n3⟩ | ⟨hn,-⟩)
 case inr=>exact absurd X hn
 have r1:=((qa HF).new n3).row1
 have P:=qb (qo8 c5 z X)
 have N3:=qb n3
 clear r0 c5 n3
 go_wp2_with fail
 refine(qmr sB D w3).mono ?_
 rintro e w4 (⟨-,gB,rfl,f6,c6,n4⟩ | ⟨hn,-⟩)
 case inr=>exact absurd Y hn
 have f7:=(qa N2).size
 have f8:=(qa N3).size
 have f2:=(qa P).lt F rfl
 have h4:Two w w4 F gB (· = F) (· = gB) a0 b0:=by
  refine⟨?_,?_,fun k hk=>by omega,fun k hk=>by omega,fun k hk hb=>by omega,((qa N2).trans (qa N3)).trans n4⟩
  ·have:=(qa P).new n4
   rw[←e2] at this
   exact this
  ·have:=qo8 c6 D Y
   rw[←e3] at this
   exact this
 clear r1 c6 n4 P N2 N3 HF z D X Y
 go_wp2_with fail
 refine(qfb 0 ⟨by decide,by decide⟩ w4).mono ?_
 rintro e w5 ⟨rfl,n5⟩
 go_wp2_with fail
 refine(qlc (qfw 0) (qee 0) w5).mono ?_
 rintro e w6 ⟨rfl,n6⟩
 have h6:=h4.new (n5.trans n6)
 have y:=qq6 F (· = F) a0 4 (ofI (qfw 0)) 9 w6 h6.A c2 c1 ⟨by decide,by decide⟩ ⟨by decide,by decide⟩ ⟨by decide,by decide⟩
 rw[←qa e0,zeq] at y
 clear h4 n5 n6
 go_wp2_with fail
 refine y.mono ?_
 rintro e w7 ⟨rfl,c3,u7⟩
 have h7:=h6.opA c3 u7
 clear y c3 h6
 have ok1:MsgOk ⟨3,7,0,4,f.toList,9,0⟩:=qg5 ⟨by decide,by decide⟩ ⟨by decide,by decide⟩ ⟨by decide,by decide⟩ ⟨by decide,by decide⟩ a7 e4 ⟨by decide,by decide⟩ ⟨by decide,by decide⟩
 have U:=q72 f
 rw[zfq] at U
 have c9:=zf0 f
 generalize b7:(⟨3,7,0,4,f.toList,9,0⟩:MsgV)=M1 at *
 have m:M1.ch=7∧M1.kind=3:=by rw[←b7];exact⟨rfl,rfl⟩
 obtain⟨E,I,d3⟩:=qes w7 M1 ok1.len
 have h8:=h7.new d3
 go_upto_region 7 with fail
 change Code.wp _ _ _ _ (qea w7 M1)
 generalize qea w7 M1=w8 at I h8 ⊢
 generalize w7.heap.size=K1 at I ⊢
 have e6:=I.row
 have v:=qxi gB _ b0 M1 ok1 w8 h8.B c9 (m.1.trans (qmq f).2.1.symm) m.2 (by rw[(qmq f).2.2.2.2.2.2.2];decide)
 rw[U] at v
 clear E I d3 h7 U
 go_wp2_with fail
 refine v.mono ?_
 rintro e w9 ⟨v9,rfl,-,c4,u9⟩
 have h9:=h8.opB c4 u9
 have a4:=qyz F _ (a1 f) w9 h9.A (hT.new h9.n) (h9.apA hT) (by rw[(qmq f).2.2.2.1];decide) (by rw[(qmq f).2.2.1];exact⟨by decide,by decide⟩) (by rw[(qmq f).2.2.2.2.1];decide) (by rw[zfc];show 1≤16;decide)
 rw[zca] at a4
 clear v c4 u9 h8 e6 c9 ok1 m b7
 go_wp2_with fail
 refine a4.mono ?_
 rintro e K ⟨rfl,L,d5⟩
 have b4:=h9.opA L d5
 clear a4 L d5 h9
 have a9:MsgOk ⟨6,7,0,0,qny f,0,1⟩:=qg5 ⟨by decide,by decide⟩ ⟨by decide,by decide⟩ ⟨by decide,by decide⟩ ⟨by decide,by decide⟩ (q99 f) (q11 f) ⟨by decide,by decide⟩ ⟨by decide,by decide⟩
 have c7:=qxh f a7
 have d0:=zf1 (qny f)
 generalize b8:(⟨6,7,0,0,qny f,0,1⟩:MsgV)=M2 at *
 have o:M2.ch=7∧M2.kind=6:=by rw[←b8];exact⟨rfl,rfl⟩
 obtain⟨E,J,d4⟩:=qes K M2 a9.len
 have g:=b4.new d4
 go_upto_region 9 with fail
 change Code.wp _ _ _ _ (qea K M2)
 generalize qea K M2=e8 at J g ⊢
 generalize K.heap.size=K2 at J ⊢
 have e7:=J.row
 obtain⟨p1,p2,p3,p4,p5⟩:=q6t f
 have a5:=qs2 gB _ (b1 f) M2 a9 e8 g.B d0 (o.1.trans p2.symm) o.2 (hT.new g.n) (g.apB hT) (by rw[p1];decide) (by rw[p2];exact⟨by decide,by decide⟩) (by rw[p5];decide) (by rw[q6u f a7];show 1≤16;decide)
 rw[c7,zes,qys] at a5
 clear E J d4 b4 c7
 go_wp2_with fail
 refine a5.mono ?_
 rintro e e9 ⟨f9,rfl,O,M,d6⟩
 have l:=g.opB M d6
 clear a5 M d6 e7 d0 a9 o b8 p1 p2 p3 p4 p5
 have b6:(qce (qet 2) 65535 16).length=32:=qgw _ rfl _ _
 have b5:qa6 (qce (qet 2) 65535 16):=qi9 _ (qyt 2 ⟨by decide,by decide⟩) _ _
 have c8:=q0d f
 generalize qce (qet 2) 65535 16=C at *
 have b3:MsgOk ⟨7,7,0,0,C,0,0⟩:=qg5 ⟨by decide,by decide⟩ ⟨by decide,by decide⟩ ⟨by decide,by decide⟩ ⟨by decide,by decide⟩ b6 b5 ⟨by decide,by decide⟩ ⟨by decide,by decide⟩
 have d1:=zf2 C
 generalize b9:(⟨7,7,0,0,C,0,0⟩:MsgV)=M3 at *
 have q:M3.ch=7∧M3.kind=7:=by rw[←b9];exact⟨rfl,rfl⟩
 obtain⟨g5,f0,rfl,-,r5,-⟩:=O.row0 b3.len
 have Z:=qoh F _ (a2 f) M3 b3 e9 l.A d1 (q.1.trans (q6l f).2.2.2.symm) q.2 (q6m f) (hT.new l.n) (l.apA hT)
 rw[c8] at Z
 clear O g c8
 go_wp2_with fail
 refine Z.mono ?_
 rintro e d8 ⟨g0,rfl,-,N,d7⟩
 have H:=l.opA N d7
 clear Z N d7 l r5 b9 q d1 b3 b6 b5
 obtain⟨q1,q2⟩:=zfd f
 have V:=qno F _ (a3 f) d8 H.A
 rw[q2] at V
 have R:=fun W (n:qy d8 W)=>qsl F _ (a3 f) W (H.A.new n)
 rw[q1] at R
 go_wp2_with fail
 refine V.mono ?_
 rintro e d9 ⟨u,rfl,a8,hu⟩
 rcases hu with ⟨a,k,-,he⟩ | ⟨g6,f1,rfl,f4,hh⟩
 ·cases he
 have r6:=hh.row (i:=0) rfl
 have f3:d9.cell? ⟨g6,36,none⟩=some (.int .i64 2):=by
  have:=(qe2 r6).2 36 (by omega)
  rw[List.getElem?_toArray,qfa] at this
  exact this
 have x:=R d9 a8
 have hN:=H.n.trans a8
 clear V R r6 hh H a8
 go_wp2_with (with_reducible first|(first|refine' zr (qg ?_) ?_|refine' zt (qg ?_) ?_);rotate_left|refine' zu (qg ?_)|rfl|apply tn|refine' zv ?_)
 refine x.mono ?_
 rintro e g1 ⟨rfl,d2⟩
 have c0:=hN.trans d2
 clear x hN d2
 go_wp2_with (with_reducible first|(first|refine' zr (qg ?_) ?_|refine' zt (qg ?_) ?_);rotate_left|refine' zu (qg ?_)|rfl|apply tn|refine' zv ?_)
 go_ret
 exact⟨rfl,c0⟩
end Go.Proofs.YtjpmomdechibmaaGreatDoor
namespace Go.Proofs.YtjpmomdechibmaaGreatDoor
open Go.RowKit
def prC(gA gB:Nat)(ua ub:Value)(bad:Bool):List Value:=[.pointer (some ⟨gA,0,none⟩),.pointer (some ⟨gB,0,none⟩),ua,ub,.bool bad]
structure PrP(w0 w:World)(p gA gB:Nat)(SA SB:Nat→Prop)(a b:Ch)(wa wb:List MsgV)(ua ub:Value)(bad:Bool):Prop where
 two:Two w0 w gA gB SA SB a b
 at_:w.heap[p]? = some (.cells (prC gA gB ua ub bad).toArray 38 (0,0))
 off:Off w SA SB p
 ge:w0.heap.size≤p
 rowA:w.ownsRow w0.heap.size 30 38 ua wa.length (wa.flatMap MsgV.cells)
 rowB:w.ownsRow w0.heap.size 30 38 ub wb.length (wb.flatMap MsgV.cells)
 offA:∀k,ua.ownBlock=some k→Off w SA SB k
 offB:∀k,ub.ownBlock=some k→Off w SA SB k
 sep:∀k,ua.ownBlock=some k→ub.ownBlock≠some k
 okA:∀m∈wa,MsgOk m
 okB:∀m∈wb,MsgOk m
section
variable {w0 w w':World}{p gA gB:Nat}{SA SB:Nat→Prop}{a b a' b':Ch}{wa wb:List MsgV}{ua ub:Value}{bad:Bool}
theorem PrP.new(h:PrP w0 w p gA gB SA SB a b wa wb ua ub bad)(u:qy w w'):PrP w0 w' p gA gB SA SB a b wa wb ua ub bad :=
 ⟨h.two.new u,u.old h.at_ (fun h=>h),h.off.new u.size,h.ge,qu h.rowA u (fun _ _ h=>h),qu h.rowB u (fun _ _ h=>h),fun k f=>(h.offA k f).new u.size,fun k f=>(h.offB k f).new u.size,h.sep,h.okA,h.okB⟩
theorem PrP.opA(h:PrP w0 w p gA gB SA SB a b wa wb ua ub bad)(g:ChS w' gA (Fr SA w w') a')(u:Upd SA w w'):PrP w0 w' p gA gB (Fr SA w w') SB a' b wa wb ua ub bad :=
 ⟨h.two.opA g u,u.old h.at_ h.off.a,h.off.opA u,h.ge,qu h.rowA u (fun k f=>(h.offA k f).a),qu h.rowB u (fun k f=>(h.offB k f).a),fun k f=>(h.offA k f).opA u,fun k f=>(h.offB k f).opA u,h.sep,h.okA,h.okB⟩
theorem PrP.opB(h:PrP w0 w p gA gB SA SB a b wa wb ua ub bad)(g:ChS w' gB (Fr SB w w') b')(u:Upd SB w w'):PrP w0 w' p gA gB SA (Fr SB w w') a b' wa wb ua ub bad :=
 ⟨h.two.opB g u,u.old h.at_ h.off.b,h.off.opB u,h.ge,qu h.rowA u (fun k f=>(h.offA k f).b),qu h.rowB u (fun k f=>(h.offB k f).b),fun k f=>(h.offA k f).opB u,fun k f=>(h.offB k f).opB u,h.sep,h.okA,h.okB⟩
theorem PrP.cell(h:PrP w0 w p gA gB SA SB a b wa wb ua ub bad):w.cell? ⟨p,0,none⟩=some (.pointer (some ⟨gA,0,none⟩))∧w.cell? ⟨p,1,none⟩=some (.pointer (some ⟨gB,0,none⟩))∧w.cell? ⟨p,2,none⟩=some ua∧w.cell? ⟨p,3,none⟩=some ub∧w.cell? ⟨p,4,none⟩=some (.bool bad) :=
 ⟨qh h.at_ 0,qh h.at_ 1,qh h.at_ 2,qh h.at_ 3,qh h.at_ 4⟩
end
theorem q9n{ours cap:Int} : (qga ours cap).may↔1≤cap∧cap≤1125899906842624∧ours≤cap:=by
 unfold SetupV.may qga
 constructor
 ·intro h;exact⟨h.1,h.2.1,h.2.2.1⟩
 ·intro h;exact⟨h.1,h.2.1,h.2.2,by show 1≤64;decide,by show 1≤64;decide⟩
theorem q9o{ours cap:Int}(f:0≤ours)(h:1≤cap∧cap≤1125899906842624∧ours≤cap):(qjv ours cap).may:=by
 refine⟨h.1,h.2.1,?_,by show 1≤64;decide,by show 1≤64;decide⟩
 show IntKind.u64.wrap (cap-ours)≤cap
 rw[qeg (by omega) (by omega)]
 omega
attribute [local go_sem ↓ high] qk0 qj9 qh3
attribute [local go_sem] zq q1w qzj qqx
set_option maxRecDepth 100000 in
set_option maxHeartbeats 2000000 in
theorem qsm(ours cap:Int)(ho:0≤ours∧ours<18446744073709551616)(hc:0≤cap∧cap<18446744073709551616)(w:World) :
  Calls Tryz.prog 11 #[.int .u64 ours,.int .u64 cap] w fun e w' =>
   (∃p gA gB,e = .returned (.pointer (some ⟨p,0,none⟩))∧(1≤cap∧cap≤1125899906842624∧ours≤cap)∧PrP w w' p gA gB (· = gA) (· = gB) (Ch.new (qga ours cap)) (Ch.new (qjv ours cap)) [] [] qbt qbt false) ∨
   (e = .returned (.pointer none)∧¬(1≤cap∧cap≤1125899906842624∧ours≤cap)∧qy w w'):=by
 have C:=q28 ho hc
 have D:=q29 (ours:=ours) hc
 have I:=@q9n ours cap
 have a6:=@q9o ours cap ho.1
 go_enter Tryz.func11,Tryz.ntmps11
 go_wp2_with fail
 obtain⟨X,K⟩:∃X:World,X=w.alloc (.cells #[.pointer none,.pointer none,.slice none 0 0,.slice none 0 0,.bool false] 38):=⟨_,rfl⟩
 have J:X.heap[w.heap.size]? = some (.cells #[.pointer none,.pointer none,.slice none 0 0,.slice none 0 0,.bool false] 38 (0,0)):=by rw[K];exact qi _ _
 have np:qy w X:=by rw[K];exact(Upd.refl _ _).alloc _
 rw[←K]
 clear K
 obtain⟨p,a9⟩:∃p,p=w.heap.size:=⟨_,rfl⟩
 rw[←a9] at J ⊢
 have c3:w.heap.size≤p:=by omega
 clear a9
 refine(qrk ours cap X).mono ?_
 rintro e w1 ⟨rfl,n1⟩
 obtain⟨U,O⟩:=qnv (qi w1 (.cells qn0.toArray 82)) (s:=qga ours cap) (t:=qjv ours cap) rfl rfl
 have W:qy X ((w1.alloc (.cells qn0.toArray 82)).setCells w1.heap.size 0 (qit (qga ours cap) (qjv ours cap))):=(n1.alloc _).then (qak _) (fun i hi e=>by have:=n1.size;omega)
 have c2:p<w1.heap.size:=Nat.lt_of_lt_of_le (zw J) n1.size
 have b8:Ch.new (qga ours cap)=Ch.new (qga ours cap):=rfl
 obtain⟨N,P⟩:∃N,N=qga ours cap:=⟨_,rfl⟩
 obtain⟨sB,R⟩:∃sB,sB=qjv ours cap:=⟨_,rfl⟩
 rw[←P] at U O W C I ⊢
 rw[←R] at U O W D a6 ⊢
 have b5:=qb P
 have b6:=qb R
 clear n1 b8 P R
 go_upto_region 3 with fail
 generalize (w1.alloc (.cells qn0.toArray 82)).setCells w1.heap.size 0 (qit N sB)=w2 at O W ⊢
 generalize w1.heap.size=T at O c2 ⊢
 clear U w1
 have a8:=W.old J (fun h=>h)
 have N2:=qb (np.trans W)
 have HF:=qb O
 have c6:T<w2.heap.size:=zw O.at_
 have c9:=(np.trans W).size
 clear W np J O
 go_wp2_with fail
 go_loopw [7] (fun iv wr=>Upd (· = p) w2 wr∧((iv = .int .i64 0∧wr.heap[p]? = some (.cells #[.pointer none,.pointer none,.slice none 0 0,.slice none 0 0,.bool false] 38 (0,0))) ∨
  (∃gA,iv = .int .i64 1∧N.may∧w2.heap.size≤gA∧Hid (ChS wr gA (· = gA) (Ch.new N))∧wr.heap[p]? = some (.cells #[.pointer (some ⟨gA,0,none⟩),.pointer none,.slice none 0 0,.slice none 0 0,.bool false] 38 (0,0))) ∨
  (∃gA gB,iv = .int .i64 2∧N.may∧w2.heap.size≤gA∧gA<gB∧Hid (ChS wr gA (· = gA) (Ch.new N))∧Hid (ChS wr gB (· = gB) (Ch.new sB))∧wr.heap[p]? = some (.cells #[.pointer (some ⟨gA,0,none⟩),.pointer (some ⟨gB,0,none⟩),.slice none 0 0,.slice none 0 0,.bool false] 38 (0,0))))) (fun iv _=>2-(intOf iv).toNat)
 case atStart=>exact⟨Upd.refl _ _,.inl ⟨rfl,a8⟩⟩
 case round =>
  obtain⟨F,hrel⟩:=hrel
  obtain⟨L,rfl⟩:∃L:World,L=wr:=⟨_,rfl⟩
  have y:=(qa HF).upd F (fun e=>by omega)
  have c8:p<w2.heap.size:=zw a8
  rcases hrel with ⟨rfl,H⟩ | ⟨gA,rfl,v,a5,hA,H⟩ | ⟨gA,gB,rfl,v,a5,c7,hA,hB,H⟩
  ·have r0:=y.row0
   have b3:=F.size
   go_wp2_with (with_reducible first|(first|refine' zr (qg ?_) ?_|refine' zt (qg ?_) ?_);rotate_left|refine' zu (qg ?_)|rfl|apply tn|refine' zv ?_)
   refine(qmr N C L.drew).mono ?_
   rintro e q V
   rcases V with ⟨v,g,rfl,hg,hR,o⟩ | ⟨v,rfl,o⟩
   ·have o:qy L q:=o.ofDrew
    have l:=o.old H (fun h=>h)
    have c0:q.cell? ⟨p,0,none⟩=some (.pointer none):=qh l 0
    have f0:q.frozen? ⟨p,0,none⟩=false:=qq l 0
    have f:=zz l 0 (.pointer (some ⟨g,0,none⟩))
    have E:=qgf q p 0 (.pointer (some ⟨g,0,none⟩))
    have b9:L.heap.size≤g:=hg
    have hC:=(qo8 hR C v).upd E (fun k z e=>by omega)
    have M:=(F.trans (o.mono (fun _ _ h=>h.elim))).trans E
    have d0:(q.setCell ⟨p,0,none⟩ (.pointer (some ⟨g,0,none⟩))).cell? ⟨p,0,none⟩=some (.pointer (some ⟨g,0,none⟩)):=by rw[qh f];rfl
    have HC:=qb hC
    have HP:=qb f
    have Y:=qb M
    clear r0 hC f M hR o E H F l y
    go_wp2_with (with_reducible first|(first|refine' zr (qg ?_) ?_|refine' zt (qg ?_) ?_);rotate_left|refine' zu (qg ?_)|rfl|apply tn|refine' zv ?_)
    go_roundw
    case rel=>exact⟨qa Y,.inr (.inl ⟨g,rfl,v,by omega,HC,qa HP⟩)⟩
    case measure=>decide
   ·have o:qy L q:=o.ofDrew
    have l:=o.old H (fun h=>h)
    have c0:q.cell? ⟨p,0,none⟩=some (.pointer none):=qh l 0
    have f0:q.frozen? ⟨p,0,none⟩=false:=qq l 0
    have f:=zz l 0 (.pointer none)
    have E:=qgf q p 0 (.pointer none)
    have M:=(F.trans (o.mono (fun _ _ h=>h.elim))).trans E
    have d0:(q.setCell ⟨p,0,none⟩ (.pointer none)).cell? ⟨p,0,none⟩=some (.pointer none):=by rw[qh f];rfl
    have Y:=qb ((qa N2).then M (fun i hi e=>by omega))
    clear r0 f M o E H F l y
    go_wp2_with (with_reducible first|(first|refine' zr (qg ?_) ?_|refine' zt (qg ?_) ?_);rotate_left|refine' zu (qg ?_)|rfl|apply tn|refine' zv ?_)
    go_ret
    exact .inr ⟨rfl,fun h=>v (I.2 h),qa Y⟩
  ·have x:=qa hA
   have r1:=y.row1
   have b3:=F.size
   have a7:=a6 (I.1 v)
   go_wp2_with (with_reducible first|(first|refine' zr (qg ?_) ?_|refine' zt (qg ?_) ?_);rotate_left|refine' zu (qg ?_)|rfl|apply tn|refine' zv ?_)
   refine(qmr sB D L.drew).mono ?_
   rintro e q V
   rcases V with ⟨-,g,rfl,hg,hR,o⟩ | ⟨hn,-⟩
   case inr=>exact absurd a7 hn
   have o:qy L q:=o.ofDrew
   have l:=o.old H (fun h=>h)
   have c1:q.cell? ⟨p,1,none⟩=some (.pointer none):=qh l 1
   have f1:q.frozen? ⟨p,1,none⟩=false:=qq l 1
   have f:=zz l 1 (.pointer (some ⟨g,0,none⟩))
   have E:=qgf q p 1 (.pointer (some ⟨g,0,none⟩))
   have b9:L.heap.size≤g:=hg
   have c5:=x.lt gA rfl
   have hC:=(qo8 hR D a7).upd E (fun k z e=>by omega)
   have Z:=(x.new o).upd E (fun k z e=>by omega)
   have M:=(F.trans (o.mono (fun _ _ h=>h.elim))).trans E
   have d0:(q.setCell ⟨p,1,none⟩ (.pointer (some ⟨g,0,none⟩))).cell? ⟨p,1,none⟩=some (.pointer (some ⟨g,0,none⟩)):=by rw[qh f];rfl
   have HC:=qb hC
   have b4:=qb Z
   have HP:=qb f
   have Y:=qb M
   clear r1 hC f M hR o E H F l y Z x
   go_wp2_with (with_reducible first|(first|refine' zr (qg ?_) ?_|refine' zt (qg ?_) ?_);rotate_left|refine' zu (qg ?_)|rfl|apply tn|refine' zv ?_)
   go_roundw
   case rel=>exact⟨qa Y,.inr (.inr ⟨gA,g,rfl,v,a5,by omega,b4,HC,qa HP⟩)⟩
   case measure=>decide
  ·have b3:=F.size
   have a4:=(qa N2).then F (fun i hi e=>by omega)
   go_wp2_with (with_reducible first|(first|refine' zr (qg ?_) ?_|refine' zt (qg ?_) ?_);rotate_left|refine' zu (qg ?_)|rfl|apply tn|refine' zv ?_)
   go_ret
   have b7:=qa hB
   have x:=qa hA
   have c4:=zw H
   refine .inl ⟨p,gA,gB,rfl,I.1 v,⟨⟨?_,?_,fun k z=>by omega,fun k z=>by omega,fun k z hb=>by omega,a4⟩,H,⟨c4,fun e=>by omega,fun e=>by omega⟩,c3,World.ownsRow_nil _ _ _ _,World.ownsRow_nil _ _ _ _,?_,?_,?_,?_,?_⟩⟩
   ·rw[←qa b5];exact x
   ·rw[←qa b6];exact b7
   ·intro k z;simp[qbt,Value.ownBlock] at z
   ·intro k z;simp[qbt,Value.ownBlock] at z
   ·intro k z;simp[qbt,Value.ownBlock] at z
   ·intro m v;cases v
   ·intro m v;cases v
end Go.Proofs.YtjpmomdechibmaaGreatDoor
namespace Go.Proofs.YtjpmomdechibmaaGreatDoor
open Go.RowKit
section
variable {w0 w wD w':World}{p gA gB:Nat}{SA SB S:Nat→Prop}{a b a' b':Ch}{wa wb:List MsgV}{ua ub:Value}{bad:Bool}
theorem PrP.putA(h:PrP w0 w p gA gB SA SB a b wa wb ua ub bad)(u:Upd (fun k=>ua.ownBlock=some k) w wD){v:Value}{z:List MsgV}
  (g:wD.ownsRow w0.heap.size 30 38 v z.length (z.flatMap MsgV.cells)) (l:∀k,v.ownBlock=some k→ua.ownBlock=some k∨w.heap.size≤k) (D:∀m∈z,MsgOk m) :
  PrP w0 (wD.setCell ⟨p,2,none⟩ v) p gA gB SA SB a b z wb v ub bad:=by
 have t:Upd (· = p) wD (wD.setCell ⟨p,2,none⟩ v):=(Upd.refl _ _).set1 2 _
 have F:¬(ua.ownBlock=some p):=fun e=>by
  obtain⟨o,q⟩:=q8 h.rowA p e
  exact ze h.at_ q (by decide) rfl
 have E:¬(ub.ownBlock=some p):=fun e=>by
  obtain⟨o,q⟩:=q8 h.rowB p e
  exact ze h.at_ q (by decide) rfl
 have x:=u.old h.at_ F
 have H:¬(v.ownBlock=some p):=fun e=>by
  obtain⟨o,q⟩:=q8 g p e
  exact ze x q (by decide) rfl
 have L:=u.size
 have K:=t.size
 have C:=zz x 2 v
 have y:∀k,v.ownBlock=some k→k<wD.heap.size:=fun k f=>by
  obtain⟨o,q⟩:=q8 g k f
  exact zw q
 refine⟨⟨(h.two.A.upd u (fun k f e=>(h.offA k e).a f)).upd t (fun k f e=>h.off.a (e▸f)),(h.two.B.upd u (fun k f e=>(h.offA k e).b f)).upd t (fun k f e=>h.off.b (e▸f)),h.two.geA,h.two.geB,h.two.sep,(h.two.n.then u (fun i J e=>by have:=qjn h.rowA i e;omega)).then t (fun i J e=>by have:=h.ge;omega)⟩,C,h.off.new (by omega),h.ge,?_,?_,?_,?_,?_,?_,?_⟩
 ·exact qu g t (fun k f e=>H (e▸f))
 ·exact qu (qu h.rowB u (fun k f e=>h.sep k e f)) t (fun k f e=>E (e▸f))
 ·intro k f
  rcases l k f with e | e
  ·exact(h.offA k e).new (by omega)
  ·exact Off.fresh h.two e (by have:=y k f;omega)
 ·exact fun k f=>(h.offB k f).new (by omega)
 ·intro k f I
  rcases l k f with e | e
  ·exact h.sep k e I
  ·have:=(h.offB k I).lt
   omega
 ·exact D
 ·exact h.okB
theorem PrP.putB(h:PrP w0 w p gA gB SA SB a b wa wb ua ub bad)(u:Upd (fun k=>ub.ownBlock=some k) w wD){v:Value}{z:List MsgV}
  (g:wD.ownsRow w0.heap.size 30 38 v z.length (z.flatMap MsgV.cells)) (l:∀k,v.ownBlock=some k→ub.ownBlock=some k∨w.heap.size≤k) (D:∀m∈z,MsgOk m) :
  PrP w0 (wD.setCell ⟨p,3,none⟩ v) p gA gB SA SB a b wa z ua v bad:=by
 have t:Upd (· = p) wD (wD.setCell ⟨p,3,none⟩ v):=(Upd.refl _ _).set1 3 _
 have F:¬(ub.ownBlock=some p):=fun e=>by
  obtain⟨o,q⟩:=q8 h.rowB p e
  exact ze h.at_ q (by decide) rfl
 have E:¬(ua.ownBlock=some p):=fun e=>by
  obtain⟨o,q⟩:=q8 h.rowA p e
  exact ze h.at_ q (by decide) rfl
 have x:=u.old h.at_ F
 have H:¬(v.ownBlock=some p):=fun e=>by
  obtain⟨o,q⟩:=q8 g p e
  exact ze x q (by decide) rfl
 have L:=u.size
 have K:=t.size
 have C:=zz x 3 v
 have y:∀k,v.ownBlock=some k→k<wD.heap.size:=fun k f=>by
  obtain⟨o,q⟩:=q8 g k f
  exact zw q
 refine⟨⟨(h.two.A.upd u (fun k f e=>(h.offB k e).a f)).upd t (fun k f e=>h.off.a (e▸f)),(h.two.B.upd u (fun k f e=>(h.offB k e).b f)).upd t (fun k f e=>h.off.b (e▸f)),h.two.geA,h.two.geB,h.two.sep,(h.two.n.then u (fun i J e=>by have:=qjn h.rowB i e;omega)).then t (fun i J e=>by have:=h.ge;omega)⟩,C,h.off.new (by omega),h.ge,?_,?_,?_,?_,?_,?_,?_⟩
 ·exact qu (qu h.rowA u (fun k f e=>h.sep k f e)) t (fun k f e=>E (e▸f))
 ·exact qu g t (fun k f e=>H (e▸f))
 ·exact fun k f=>(h.offA k f).new (by omega)
 ·intro k f
  rcases l k f with e | e
  ·exact(h.offB k e).new (by omega)
  ·exact Off.fresh h.two e (by have:=y k f;omega)
 ·intro k I f
  rcases l k f with e | e
  ·exact h.sep k I e
  ·have:=(h.offA k I).lt
   omega
 ·exact h.okA
 ·exact D
def PrS(w0 w:World)(p:Nat)(S:Nat→Prop)(a b:Ch)(wa wb:List MsgV)(bad:Bool):Prop :=
 ∃gA gB SA SB ua ub,PrP w0 w p gA gB SA SB a b wa wb ua ub bad∧(∀k,(SA k∨SB k∨k=p∨ua.ownBlock=some k∨ub.ownBlock=some k)→S k)∧(∀k,S k→w0.heap.size≤k∧k<w.heap.size)
theorem PrS.new(h:PrS w0 w p S a b wa wb bad)(u:qy w w'):PrS w0 w' p S a b wa wb bad:=by
 obtain⟨gA,gB,SA,SB,ua,ub,l,i,f⟩:=h
 exact⟨gA,gB,SA,SB,ua,ub,l.new u,i,fun k g=>⟨(f k g).1,Nat.lt_of_lt_of_le (f k g).2 u.size⟩⟩
theorem PrS.le(h:PrS w0 w p S a b wa wb bad):w0.heap.size≤w.heap.size:=by
 obtain⟨gA,gB,SA,SB,ua,ub,f,-,-⟩:=h
 exact f.two.n.size
theorem PrS.frW(h:PrS w0 w' p S a b wa wb bad)(m:w0.heap.size≤w.heap.size):PrS w0 w' p (Fr S w w') a b wa wb bad:=by
 obtain⟨gA,gB,SA,SB,ua,ub,l,g,i⟩:=h
 refine⟨gA,gB,SA,SB,ua,ub,l,fun k f=> .inl (g k f),?_⟩
 rintro k (f | f)
 ·exact i k f
 ·exact⟨by omega,f.2⟩
end
attribute [local go_sem ↓ high] qab qac qag qah qe0
attribute [local go_sem] qcy qc0 qc2 qng zq
set_option maxRecDepth 100000 in
set_option maxHeartbeats 1000000 in
theorem q5t(w0:World)(p:Nat)(S:Nat→Prop)(a b:Ch)(wa wb:List MsgV)(bad:Bool)(m:MsgV)(n:Int)(hm:MsgOk m)(w:World)(h:PrS w0 w p S a b wa wb bad)(d3:wb.length<1000000) :
  Calls Tryz.prog 14 #[.pointer (some ⟨p,0,none⟩),.int .i64 0,.agg m.cells.toArray,.int .i64 n] w fun e w'=>e = .returned (.tuple #[])∧PrS w0 w' p (Fr S w w') a b wa (if n=0 then wb++[m] else wb) bad∧Upd S w w':=by
 go_enter Tryz.func14,Tryz.ntmps14
 go_upto_region 1 with fail
 have M:=qch w m hm.len
 have y:qy w (w.alloc (.cells m.cells.toArray 30)):=(Upd.refl _ _).alloc _
 generalize w.alloc (.cells m.cells.toArray 30)=w1 at y M ⊢
 obtain⟨A,Y⟩:∃A,A=w.heap.size:=⟨_,rfl⟩
 rw[←Y] at M ⊢
 have R:=qb h.le
 clear Y
 by_cases hn:n=0
 ·subst hn
  have T:=qb (h.new y)
  obtain⟨gA,gB,SA,SB,ua,ub,N,E,C⟩:=h.new y
  have c3:w1.cell? ⟨p,3,none⟩=some ub:=qh N.at_ 3
  have f3:w1.frozen? ⟨p,3,none⟩=false:=qq N.at_ 3
  have hr:=M.row
  have a4:=MsgV.len m hm.len
  obtain⟨i9,z9,b9,b8,d1,c8,c9,d0,b7⟩:=qkp
  have a5:w0.heap.size≤w1.heap.size:=N.two.n.size
  obtain⟨na,d5,a6⟩:=qx N.rowB
  have HP:=qb N
  have H1:=qb E
  have H2:=qb C
  have U:=qb y
  have a9:=qb M
  clear h N E C y M
  go_upto_region 2 with fail
  have X:w1.drew.cell? ⟨p,3,none⟩=some ub:=c3
  refine qb5 (fun w'=>w'.cell? ⟨p,3,none⟩=some ub) [9] (.of [0,1,2,3,4,5,6,7,8,9,10,11,12,13,14,15,16]) (by kernel_rfl) (by kernel_rfl) X ?_
  simp only[Plan.of]
  go_wp2_with (with_reducible first|(first|refine' qw1 (qg ?_) ?_|refine' qw2 (qg ?_) ?_|refine' qw3 (qg ?_) ?_);rotate_left|refine' qw4 (qg ?_)|refine' qw5 (qg ?_)|rfl|apply qn)
  refine⟨((Upd.refl (fun _=>False) w1).alloc _).drew.cell c3 (fun h=>h),?_⟩
  have O:qy w1 (w1.alloc (.cells m.cells.toArray 30)).drew:=((Upd.refl _ _).alloc _).drew
  have I:(w1.alloc (.cells m.cells.toArray 30)).drew.heap[w1.heap.size]? = some (.cells m.cells.toArray 30 (0,0)):=qi w1 (.cells m.cells.toArray 30)
  have V:=O.cell c3 (fun h=>h)
  have i:=qb ((qa HP).new O)
  have z:=qb ((qa U).trans O)
  have Z:w1.heap.size≤w1.heap.size:=Nat.le_refl _
  have F:w0.heap.size≤(w1.alloc (.cells m.cells.toArray 30)).drew.heap.size:=Nat.le_trans a5 O.size
  have P:=qb O.size
  clear c3 f3 hr HP O X a9
  generalize (w1.alloc (.cells m.cells.toArray 30)).drew=wC at I i V z F P ⊢
  generalize w1.heap.size=D at I Z ⊢
  have o:=(qa i).rowB
  rw[a6] at o
  have HN:=qb o
  clear o Z
  go_wp2_with (first | (at_builtin;refine wpList_append_own_at _ rfl (.tmp 19) (.tmp 21) 35 rfl w0.heap.size 30 i9 _ 38 b9 Tryz.underlying35 b8 d1 c8 c9 d0 (by decide) _ _ _ rfl (qa HN) ⟨D,0,none⟩ 1 1 m.cells rfl (by rw[a4]) ?c1 ?c2 ?c3 ?c4 ?c5 ?_) | (with_reducible first|(first|refine' qw1 (qg ?_) ?_|refine' qw2 (qg ?_) ?_|refine' qw3 (qg ?_) ?_);rotate_left|refine' qw4 (qg ?_)|refine' qw5 (qg ?_)|rfl|apply qn))
  case c1=>exact World.news_of_block (cs:=m.cells.toArray) (fr:=(0,0)) I
  case c2=>exact MsgV.one _
  case c3=>unfold maxLen;omega
  case c4=>have:=Nat.mul_le_mul (show wb.length+1≤1000000 by omega) b7;omega
  case c5=>exact F
  intro v' wD g J _ q
  rw[←a6] at J q
  have L:Upd (fun k=>ub.ownBlock=some k) wC wD:=(Upd.refl _ _).grown J (fun k f _=>f)
  have v:wD.ownsRow w0.heap.size 30 38 v' (wb++[m]).length ((wb++[m]).flatMap MsgV.cells):=by
   rw[List.length_append,List.flatMap_append,List.flatMap_cons,List.flatMap_nil,List.append_nil]
   exact g
  have t:=(qa i).putB L v (fun k f=>by
   rcases q with e | e
   ·exact .inl (e▸f)
   ·rw[e] at f
    injection f with f
    exact .inr (by omega)) (fun x hx=>by
   rcases List.mem_append.1 hx with e | e
   ·exact(qa i).okB x e
   ·rw[List.mem_singleton.1 e];exact hm)
  have c0:¬(ub.ownBlock=some p):=fun e=>by
   obtain⟨b5,hc⟩:=q8 (qa i).rowB p e
   exact ze (qa i).at_ hc (by decide) rfl
  have H:=L.old (qa i).at_ c0
  have W:=qh H 3
  have d7:wD.frozen? ⟨p,3,none⟩=false:=qq H 3
  have uE:Upd (· = p) wD (wD.setCell ⟨p,3,none⟩ v'):=(Upd.refl _ _).set1 3 _
  have HF:=qb (And.intro t (And.intro L uE))
  have d6:wD.cell? ⟨p,3,none⟩=some ub:=W
  have d9:=(qa U).size
  have b4:=qb (show ∀k,v'.ownBlock=some k→(ub.ownBlock=some k∨w.heap.size≤k)∧k<wD.heap.size from fun k f=>⟨by
   rcases q with e | e
   ·exact .inl (e▸f)
   ·rw[e] at f;injection f with f;have:=(qa z).size;exact .inr (by omega),by
   obtain⟨b5,hc⟩:=q8 g k f
   exact zw hc⟩)
  obtain⟨a',d2,K⟩:=qx g
  have b3:=qb K
  clear g v J q L uE t H W V
  rw[K]
  clear K
  go_wp2_with (with_reducible first|(first|refine' qw1 (qg ?_) ?_|refine' qw2 (qg ?_) ?_|refine' qw3 (qg ?_) ?_);rotate_left|refine' qw4 (qg ?_)|refine' qw5 (qg ?_)|rfl|apply qn)
  go_end0
  have c7:=qa b3
  rw[←c7]
  obtain⟨t,L,uE⟩:=qa HF
  have l:=qa H1
  have y:=qa U
  have e1:=y.size
  have e2:=(qa z).size
  have c6:=L.size
  have d4:=uE.size
  have a8:Upd S w (wD.setCell ⟨p,3,none⟩ v'):=(((qa z).mono (fun _ _ h=>h.elim)).trans (L.mono (fun k _ e=>l k (by simp[e])))).trans (uE.mono (fun k _ e=>l k (by simp[e])))
  have e0:=qa R
  have d8:=qa P
  have b6:=qa H2
  have a7:=qa b4
  refine⟨rfl,⟨gA,gB,SA,SB,ua,v',t,?_,?_⟩,a8⟩
  ·rintro k (f | f | f | f | f)
   ·exact .inl (l k (.inl f))
   ·exact .inl (l k (.inr (.inl f)))
   ·exact .inl (l k (.inr (.inr (.inl f))))
   ·exact .inl (l k (by simp[f]))
   ·rcases (a7 k f).1 with e | e
    ·exact .inl (l k (by simp[e]))
    ·exact .inr ⟨e,by have:=(a7 k f).2;omega⟩
  ·rintro k (f | f)
   ·have:=b6 k f
    exact⟨this.1,by omega⟩
   ·exact⟨by omega,f.2⟩
 ·have T:=qb (h.new y)
  have c6:=y.size
  have U:=qb y
  clear h y M
  go_wp2_with (with_reducible first|(first|refine' zr (qg ?_) ?_|refine' zt (qg ?_) ?_);rotate_left|refine' zu (qg ?_)|rfl|apply tn|refine' zv ?_)
  go_end0
  exact⟨rfl,(qa T).frW (qa R),(qa U).mono (fun _ _ h=>h.elim)⟩
set_option maxRecDepth 100000 in
set_option maxHeartbeats 1000000 in
theorem q5u(w0:World)(p:Nat)(S:Nat→Prop)(a b:Ch)(wa wb:List MsgV)(bad:Bool)(m:MsgV)(n:Int)(hm:MsgOk m)(w:World)(h:PrS w0 w p S a b wa wb bad)(d3:wa.length<1000000) :
  Calls Tryz.prog 14 #[.pointer (some ⟨p,0,none⟩),.int .i64 1,.agg m.cells.toArray,.int .i64 n] w fun e w'=>e = .returned (.tuple #[])∧PrS w0 w' p (Fr S w w') a b (if n=0 then wa++[m] else wa) wb bad∧Upd S w w':=by
 go_enter Tryz.func14,Tryz.ntmps14
 go_upto_region 1 with fail
 have M:=qch w m hm.len
 have y:qy w (w.alloc (.cells m.cells.toArray 30)):=(Upd.refl _ _).alloc _
 generalize w.alloc (.cells m.cells.toArray 30)=w1 at y M ⊢
 obtain⟨A,Y⟩:∃A,A=w.heap.size:=⟨_,rfl⟩
 rw[←Y] at M ⊢
 have R:=qb h.le
 clear Y
 by_cases hn:n=0
 ·subst hn
  have T:=qb (h.new y)
  obtain⟨gA,gB,SA,SB,ua,ub,N,E,C⟩:=h.new y
  have c3:w1.cell? ⟨p,2,none⟩=some ua:=qh N.at_ 2
  have f3:w1.frozen? ⟨p,2,none⟩=false:=qq N.at_ 2
  have hr:=M.row
  have a4:=MsgV.len m hm.len
  obtain⟨i9,z9,b9,b8,d1,c8,c9,d0,b7⟩:=qkp
  have a5:w0.heap.size≤w1.heap.size:=N.two.n.size
  obtain⟨na,d5,a6⟩:=qx N.rowA
  have HP:=qb N
  have H1:=qb E
  have H2:=qb C
  have U:=qb y
  have a9:=qb M
  clear h N E C y M
  go_upto_region 2 with fail
  have X:w1.drew.cell? ⟨p,2,none⟩=some ua:=c3
  refine qb5 (fun w'=>w'.cell? ⟨p,2,none⟩=some ua) [9] (.of [0,1,2,3,4,5,6,7,8,9,10,11,12,13,14,15,16]) (by kernel_rfl) (by kernel_rfl) X ?_
  simp only[Plan.of]
  go_wp2_with (with_reducible first|(first|refine' qw1 (qg ?_) ?_|refine' qw2 (qg ?_) ?_|refine' qw3 (qg ?_) ?_);rotate_left|refine' qw4 (qg ?_)|refine' qw5 (qg ?_)|rfl|apply qn)
  refine⟨((Upd.refl (fun _=>False) w1).alloc _).drew.cell c3 (fun h=>h),?_⟩
  have O:qy w1 (w1.alloc (.cells m.cells.toArray 30)).drew:=((Upd.refl _ _).alloc _).drew
  have I:(w1.alloc (.cells m.cells.toArray 30)).drew.heap[w1.heap.size]? = some (.cells m.cells.toArray 30 (0,0)):=qi w1 (.cells m.cells.toArray 30)
  have V:=O.cell c3 (fun h=>h)
  have i:=qb ((qa HP).new O)
  have z:=qb ((qa U).trans O)
  have Z:w1.heap.size≤w1.heap.size:=Nat.le_refl _
  have F:w0.heap.size≤(w1.alloc (.cells m.cells.toArray 30)).drew.heap.size:=Nat.le_trans a5 O.size
  have P:=qb O.size
  clear c3 f3 hr HP O X a9
  generalize (w1.alloc (.cells m.cells.toArray 30)).drew=wC at I i V z F P ⊢
  generalize w1.heap.size=D at I Z ⊢
  have o:=(qa i).rowA
  rw[a6] at o
  have HN:=qb o
  clear o Z
  go_wp2_with (first | (at_builtin;refine wpList_append_own_at _ rfl (.tmp 19) (.tmp 21) 35 rfl w0.heap.size 30 i9 _ 38 b9 Tryz.underlying35 b8 d1 c8 c9 d0 (by decide) _ _ _ rfl (qa HN) ⟨D,0,none⟩ 1 1 m.cells rfl (by rw[a4]) ?c1 ?c2 ?c3 ?c4 ?c5 ?_) | (with_reducible first|(first|refine' qw1 (qg ?_) ?_|refine' qw2 (qg ?_) ?_|refine' qw3 (qg ?_) ?_);rotate_left|refine' qw4 (qg ?_)|refine' qw5 (qg ?_)|rfl|apply qn))
  case c1=>exact World.news_of_block (cs:=m.cells.toArray) (fr:=(0,0)) I
  case c2=>exact MsgV.one _
  case c3=>unfold maxLen;omega
  case c4=>have:=Nat.mul_le_mul (show wa.length+1≤1000000 by omega) b7;omega
  case c5=>exact F
  intro v' wD g J _ q
  rw[←a6] at J q
  have L:Upd (fun k=>ua.ownBlock=some k) wC wD:=(Upd.refl _ _).grown J (fun k f _=>f)
  have v:wD.ownsRow w0.heap.size 30 38 v' (wa++[m]).length ((wa++[m]).flatMap MsgV.cells):=by
   rw[List.length_append,List.flatMap_append,List.flatMap_cons,List.flatMap_nil,List.append_nil]
   exact g
  have t:=(qa i).putA L v (fun k f=>by
   rcases q with e | e
   ·exact .inl (e▸f)
   ·rw[e] at f
    injection f with f
    exact .inr (by omega)) (fun x hx=>by
   rcases List.mem_append.1 hx with e | e
   ·exact(qa i).okA x e
   ·rw[List.mem_singleton.1 e];exact hm)
  have c0:¬(ua.ownBlock=some p):=fun e=>by
   obtain⟨b5,hc⟩:=q8 (qa i).rowA p e
   exact ze (qa i).at_ hc (by decide) rfl
  have H:=L.old (qa i).at_ c0
  have W:=qh H 2
  have d7:wD.frozen? ⟨p,2,none⟩=false:=qq H 2
  have uE:Upd (· = p) wD (wD.setCell ⟨p,2,none⟩ v'):=(Upd.refl _ _).set1 2 _
  have HF:=qb (And.intro t (And.intro L uE))
  have d6:wD.cell? ⟨p,2,none⟩=some ua:=W
  have d9:=(qa U).size
  have b4:=qb (show ∀k,v'.ownBlock=some k→(ua.ownBlock=some k∨w.heap.size≤k)∧k<wD.heap.size from fun k f=>⟨by
   rcases q with e | e
   ·exact .inl (e▸f)
   ·rw[e] at f;injection f with f;have:=(qa z).size;exact .inr (by omega),by
   obtain⟨b5,hc⟩:=q8 g k f
   exact zw hc⟩)
  obtain⟨a',d2,K⟩:=qx g
  have b3:=qb K
  clear g v J q L uE t H W V
  rw[K]
  clear K
  go_wp2_with (with_reducible first|(first|refine' qw1 (qg ?_) ?_|refine' qw2 (qg ?_) ?_|refine' qw3 (qg ?_) ?_);rotate_left|refine' qw4 (qg ?_)|refine' qw5 (qg ?_)|rfl|apply qn)
  go_end0
  have c7:=qa b3
  rw[←c7]
  obtain⟨t,L,uE⟩:=qa HF
  have l:=qa H1
  have y:=qa U
  have e1:=y.size
  have e2:=(qa z).size
  have c6:=L.size
  have d4:=uE.size
  have a8:Upd S w (wD.setCell ⟨p,2,none⟩ v'):=(((qa z).mono (fun _ _ h=>h.elim)).trans (L.mono (fun k _ e=>l k (by simp[e])))).trans (uE.mono (fun k _ e=>l k (by simp[e])))
  have e0:=qa R
  have d8:=qa P
  have b6:=qa H2
  have a7:=qa b4
  refine⟨rfl,⟨gA,gB,SA,SB,v',ub,t,?_,?_⟩,a8⟩
  ·rintro k (f | f | f | f | f)
   ·exact .inl (l k (.inl f))
   ·exact .inl (l k (.inr (.inl f)))
   ·exact .inl (l k (.inr (.inr (.inl f))))
   ·rcases (a7 k f).1 with e | e
    ·exact .inl (l k (by simp[e]))
    ·exact .inr ⟨e,by have:=(a7 k f).2;omega⟩
   ·exact .inl (l k (by simp[f]))
  ·rintro k (f | f)
   ·have:=b6 k f
    exact⟨this.1,by omega⟩
   ·exact⟨by omega,f.2⟩
 ·have T:=qb (h.new y)
  have c6:=y.size
  have U:=qb y
  clear h y M
  go_wp2_with (with_reducible first|(first|refine' zr (qg ?_) ?_|refine' zt (qg ?_) ?_);rotate_left|refine' zu (qg ?_)|rfl|apply tn|refine' zv ?_)
  go_end0
  exact⟨rfl,(qa T).frW (qa R),(qa U).mono (fun _ _ h=>h.elim)⟩
end Go.Proofs.YtjpmomdechibmaaGreatDoor
