/-
  Law 13: 'shown' is true.
-/
import Derived.Test.YtjpmomdechibmaaGreatDoorMde
import Derived.Deep.Onto
import Derived.Maps.AppendAt
import Derived.Deep.AppendLies
set_option linter.unusedVariables false
set_option linter.unusedSimpArgs false
namespace Go.Proofs.YtjpmomdechibmaaGreatDoor
open Go.RowKit
attribute [local go_sem ↓ high] z7 qal qan qa0 qab qac qag qaa qni qnj qkh qjq qhk
attribute [local go_sem] qcp qdl qdr qfx zn qc2 qc3 qc6 q0f qyc qpx qrq qrr
set_option maxRecDepth 100000 in
set_option maxHeartbeats 2000000 in
theorem q39(w:World)(hT:Tb w):Calls Tryz.prog 12 #[] w (qa5 (.bool true) w):=by
 have y:(qfy 10 10).Ok:=q1j ⟨by decide,by decide⟩ ⟨by decide,by decide⟩
 have z:(qjc 10 10).Ok:=q1k ⟨by decide,by decide⟩
 have V:(qfy 10 10).may:=⟨by decide,by decide,by decide,by decide,by decide⟩
 have X:(qjc 10 10).may:=⟨by decide,by decide,by decide,by decide,by decide⟩
 obtain⟨f,a5⟩:∃f:Vector Int 32,f=qhx (ofI (qfd 0)):=⟨_,rfl⟩
 have c1:(ofI (qfd 0)).length=32:=qb8 _
 have c0:qaz (ofI (qfd 0)):=qel _
 have a6:f.toList.length=32:=by simp
 have e4:f.toList=ofI (qfd 0):=by rw[a5];exact qfb c1
 have e3:qaz f.toList:=by rw[e4];exact c0
 have d9:=qb a5
 clear a5
 go_enter Tryz.func12,Tryz.ntmps12
 go_wp2_with fail
 refine(qqh 10 10 w).mono ?_
 rintro e w1 ⟨rfl,n1⟩
 obtain⟨D,hF⟩:=qm5 (qi w1 (.cells qna.toArray 82)) (s:=qfy 10 10) (t:=qjc 10 10) rfl rfl
 have e0:w.heap.size≤w1.heap.size:=n1.size
 have n2:qx w ((w1.alloc (.cells qna.toArray 82)).setCells w1.heap.size 0 (qie (qfy 10 10) (qjc 10 10))):=(n1.alloc _).then (qad _) (fun i hi e=>by omega)
 generalize e1:qfy 10 10=sA at *
 generalize e2:qjc 10 10=sB at *
 clear n1
 go_upto_region 2 with fail
 generalize (w1.alloc (.cells qna.toArray 82)).setCells w1.heap.size 0 (qie sA sB)=w2 at hF n2 ⊢
 generalize w1.heap.size=T at hF e0 ⊢
 clear D w1
 have r0:=hF.row0
 have HF:=qb hF
 have N2:=qb n2
 clear hF n2
 go_wp2_with fail
 refine(ql2 sA y w2).mono ?_
 rintro e w3 (⟨-,E,rfl,f4,c4,n3⟩ | ⟨hn,-⟩)
 case inr=>exact absurd V hn
 have r1:=((qa HF).new n3).row1
 have O:=qb (qof c4 y V)
 have N3:=qb n3
 clear r0 c4 n3
 go_wp2_with fail
 refine(ql2 sB z w3).mono ?_
 rintro e w4 (⟨-,gB,rfl,f5,c5,n4⟩ | ⟨hn,-⟩)
 case inr=>exact absurd X hn
 have f6:=(qa N2).size
 have f7:=(qa N3).size
 have f1:=(qa O).lt E rfl
 have h4:Two w w4 E gB (· = E) (· = gB) a0 b0:=by
  refine⟨?_,?_,fun k hk=>by omega,fun k hk=>by omega,fun k hk hb=>by omega,((qa N2).trans (qa N3)).trans n4⟩
  ·have:=(qa O).new n4
   rw[←e1] at this
   exact this
  ·have:=qof c5 z X
   rw[←e2] at this
   exact this
 clear r1 c5 n4 O N2 N3 HF y z V X
 go_wp2_with fail
 refine(qew 0 ⟨by decide,by decide⟩ w4).mono ?_
 rintro e w5 ⟨rfl,n5⟩
 go_wp2_with fail
 refine(qks (qfd 0) (qd1 0) w5).mono ?_
 rintro e w6 ⟨rfl,n6⟩
 have h6:=h4.new (n5.trans n6)
 have x:=qp5 E (· = E) a0 4 (ofI (qfd 0)) 9 w6 h6.A c1 c0 ⟨by decide,by decide⟩ ⟨by decide,by decide⟩ ⟨by decide,by decide⟩
 rw[←qa d9,zcu] at x
 clear h4 n5 n6
 go_wp2_with fail
 refine x.mono ?_
 rintro e w7 ⟨rfl,c2,u7⟩
 have h7:=h6.opA c2 u7
 clear x c2 h6
 have ok1:MsgOk ⟨3,7,0,4,f.toList,9,0⟩:=qgv ⟨by decide,by decide⟩ ⟨by decide,by decide⟩ ⟨by decide,by decide⟩ ⟨by decide,by decide⟩ a6 e3 ⟨by decide,by decide⟩ ⟨by decide,by decide⟩
 have R:=q6c f
 rw[zds] at R
 have c8:=zd6 f
 generalize b6:(⟨3,7,0,4,f.toList,9,0⟩:MsgV)=M1 at *
 have l:M1.ch=7∧M1.kind=3:=by rw[←b6];exact⟨rfl,rfl⟩
 obtain⟨D,H,d2⟩:=qgu w7 M1 ok1.len
 have h8:=h7.new d2
 go_upto_region 7 with fail
 change Code.wp _ _ _ _ (qfr w7 M1)
 generalize qfr w7 M1=w8 at H h8 ⊢
 generalize w7.heap.size=K1 at H ⊢
 have e5:=H.row
 have q:=qv6 gB _ b0 M1 ok1 w8 h8.B c8 (l.1.trans (ql1 f).2.1.symm) l.2 (by rw[(ql1 f).2.2.2.2.2.2.2];decide)
 rw[R] at q
 clear D H d2 h7 R
 go_wp2_with fail
 refine q.mono ?_
 rintro e w9 ⟨v9,rfl,-,c3,u9⟩
 have h9:=h8.opB c3 u9
 have Z:=qxr E _ (a1 f) w9 h9.A (hT.new h9.n) (h9.apA hT) (by rw[(ql1 f).2.2.2.1];decide) (by rw[(ql1 f).2.2.1];exact⟨by decide,by decide⟩) (by rw[(ql1 f).2.2.2.2.1];decide) (by rw[zde];show 1≤16;decide)
 rw[zak] at Z
 clear q c3 u9 h8 e5 c8 ok1 l b6
 go_wp2_with fail
 refine Z.mono ?_
 rintro e J ⟨rfl,K,d4⟩
 have b3:=h9.opA K d4
 clear Z K d4 h9
 have a8:MsgOk ⟨6,7,0,0,qm8 f,0,1⟩:=qgv ⟨by decide,by decide⟩ ⟨by decide,by decide⟩ ⟨by decide,by decide⟩ ⟨by decide,by decide⟩ (q8h f) (q0j f) ⟨by decide,by decide⟩ ⟨by decide,by decide⟩
 have c6:=qv5 f a6
 have c9:=zd7 (qm8 f)
 generalize b7:(⟨6,7,0,0,qm8 f,0,1⟩:MsgV)=M2 at *
 have m:M2.ch=7∧M2.kind=6:=by rw[←b7];exact⟨rfl,rfl⟩
 obtain⟨D,I,d3⟩:=qgu J M2 a8.len
 have g:=b3.new d3
 go_upto_region 9 with fail
 change Code.wp _ _ _ _ (qfr J M2)
 generalize qfr J M2=e7 at I g ⊢
 generalize J.heap.size=K2 at I ⊢
 have e6:=I.row
 obtain⟨p1,p2,p3,p4,p5⟩:=q42 f
 have a4:=qry gB _ (b1 f) M2 a8 e7 g.B c9 (m.1.trans p2.symm) m.2 (hT.new g.n) (g.apB hT) (by rw[p1];decide) (by rw[p2];exact⟨by decide,by decide⟩) (by rw[p5];decide) (by rw[q43 f a6];show 1≤16;decide)
 rw[c6,zcx,qxj] at a4
 clear D I d3 b3 c6
 go_wp2_with fail
 refine a4.mono ?_
 rintro e e8 ⟨f8,rfl,N,L,d5⟩
 have j:=g.opB L d5
 clear a4 L d5 e6 c9 a8 m b7 p1 p2 p3 p4 p5
 have b5:(qb3 (qef 2) 65535 16).length=32:=qgk _ rfl _ _
 have b4:qaz (qb3 (qef 2) 65535 16):=qiu _ (qxk 2 ⟨by decide,by decide⟩) _ _
 have c7:=qy3 f
 generalize qb3 (qef 2) 65535 16=C at *
 have a9:MsgOk ⟨7,7,0,0,C,0,0⟩:=qgv ⟨by decide,by decide⟩ ⟨by decide,by decide⟩ ⟨by decide,by decide⟩ ⟨by decide,by decide⟩ b5 b4 ⟨by decide,by decide⟩ ⟨by decide,by decide⟩
 have d0:=zd8 C
 generalize b8:(⟨7,7,0,0,C,0,0⟩:MsgV)=M3 at *
 have o:M3.ch=7∧M3.kind=7:=by rw[←b8];exact⟨rfl,rfl⟩
 obtain⟨g5,e9,rfl,-,r5,-⟩:=N.row0 a9.len
 have Y:=qnp E _ (a2 f) M3 a9 e8 j.A d0 (o.1.trans (q4u f).2.2.2.symm) o.2 (q4v f) (hT.new j.n) (j.apA hT)
 rw[c7] at Y
 clear N g c7
 go_wp2_with fail
 refine Y.mono ?_
 rintro e d7 ⟨f9,rfl,-,M,d6⟩
 have F:=j.opA M d6
 clear Y M d6 j r5 b8 o d0 a9 b5 b4
 obtain⟨q1,q2⟩:=zdf f
 have U:=qr8 E _ (a3 f) d7 F.A
 rw[q2] at U
 have P:=fun W (n:qx d7 W)=>qmr E _ (a3 f) W (F.A.new n)
 rw[q1] at P
 go_wp2_with fail
 refine U.mono ?_
 rintro e d8 ⟨u,rfl,a7,hu⟩
 rcases hu with ⟨a,k,-,he⟩ | ⟨g6,f0,rfl,f3,hh⟩
 ·cases he
 have r6:=hh.row (i:=0) rfl
 have f2:d8.cell? ⟨g6,36,none⟩=some (.int .i64 2):=by
  have:=(qid r6).2 36 (by omega)
  rw[List.getElem?_toArray,qfk] at this
  exact this
 have v:=P d8 a7
 have hN:=F.n.trans a7
 clear U P r6 hh F a7
 go_wp2_with (with_reducible first|(first|refine' tw1 (qh ?_) ?_|refine' tw2 (qh ?_) ?_);rotate_left|refine' tw3 (qh ?_)|rfl|apply tn|refine' tw4 ?_)
 refine v.mono ?_
 rintro e g0 ⟨rfl,d1⟩
 have b9:=hN.trans d1
 clear v hN d1
 go_wp2_with (with_reducible first|(first|refine' tw1 (qh ?_) ?_|refine' tw2 (qh ?_) ?_);rotate_left|refine' tw3 (qh ?_)|rfl|apply tn|refine' tw4 ?_)
 go_ret
 exact⟨rfl,b9⟩
end Go.Proofs.YtjpmomdechibmaaGreatDoor
namespace Go.Proofs.YtjpmomdechibmaaGreatDoor
open Go.RowKit
def prC(gA gB:Nat)(ua ub:Value)(bad:Bool):List Value:=[.pointer (some ⟨gA,0,none⟩),.pointer (some ⟨gB,0,none⟩),ua,ub,.bool bad]
structure PrP(w0 w:World)(p gA gB:Nat)(SA SB:Nat→Prop)(a b:Ch)(wa wb:List MsgV)(ua ub:Value)(bad:Bool):Prop where
 two:Two w0 w gA gB SA SB a b
 at_:w.heap[p]? = some (.cells (prC gA gB ua ub bad).toArray 38 (0,0))
 off:Off w SA SB p
 ge:w0.heap.size≤p
 rowA:w.ownsRow w0.heap.size 30 38 ua wa.length (wa.flatMap MsgV.cells)
 rowB:w.ownsRow w0.heap.size 30 38 ub wb.length (wb.flatMap MsgV.cells)
 offA:∀k,ua.ownBlock=some k→Off w SA SB k
 offB:∀k,ub.ownBlock=some k→Off w SA SB k
 sep:∀k,ua.ownBlock=some k→ub.ownBlock≠some k
 okA:∀m∈wa,MsgOk m
 okB:∀m∈wb,MsgOk m
section
variable {w0 w w':World}{p gA gB:Nat}{SA SB:Nat→Prop}{a b a' b':Ch}{wa wb:List MsgV}{ua ub:Value}{bad:Bool}
theorem PrP.new(h:PrP w0 w p gA gB SA SB a b wa wb ua ub bad)(u:qx w w'):PrP w0 w' p gA gB SA SB a b wa wb ua ub bad :=
 ⟨h.two.new u,u.old h.at_ (fun h=>h),h.off.new u.size,h.ge,qq h.rowA u (fun _ _ h=>h),qq h.rowB u (fun _ _ h=>h),fun k f=>(h.offA k f).new u.size,fun k f=>(h.offB k f).new u.size,h.sep,h.okA,h.okB⟩
theorem PrP.opA(h:PrP w0 w p gA gB SA SB a b wa wb ua ub bad)(g:ChS w' gA (Fr SA w w') a')(u:Upd SA w w'):PrP w0 w' p gA gB (Fr SA w w') SB a' b wa wb ua ub bad :=
 ⟨h.two.opA g u,u.old h.at_ h.off.a,h.off.opA u,h.ge,qq h.rowA u (fun k f=>(h.offA k f).a),qq h.rowB u (fun k f=>(h.offB k f).a),fun k f=>(h.offA k f).opA u,fun k f=>(h.offB k f).opA u,h.sep,h.okA,h.okB⟩
theorem PrP.opB(h:PrP w0 w p gA gB SA SB a b wa wb ua ub bad)(g:ChS w' gB (Fr SB w w') b')(u:Upd SB w w'):PrP w0 w' p gA gB SA (Fr SB w w') a b' wa wb ua ub bad :=
 ⟨h.two.opB g u,u.old h.at_ h.off.b,h.off.opB u,h.ge,qq h.rowA u (fun k f=>(h.offA k f).b),qq h.rowB u (fun k f=>(h.offB k f).b),fun k f=>(h.offA k f).opB u,fun k f=>(h.offB k f).opB u,h.sep,h.okA,h.okB⟩
theorem PrP.cell(h:PrP w0 w p gA gB SA SB a b wa wb ua ub bad):w.cell? ⟨p,0,none⟩=some (.pointer (some ⟨gA,0,none⟩))∧w.cell? ⟨p,1,none⟩=some (.pointer (some ⟨gB,0,none⟩))∧w.cell? ⟨p,2,none⟩=some ua∧w.cell? ⟨p,3,none⟩=some ub∧w.cell? ⟨p,4,none⟩=some (.bool bad) :=
 ⟨qg h.at_ 0,qg h.at_ 1,qg h.at_ 2,qg h.at_ 3,qg h.at_ 4⟩
end
theorem q7v{ours cap:Int} : (qfy ours cap).may↔1≤cap∧cap≤1125899906842624∧ours≤cap:=by
 unfold SetupV.may qfy
 constructor
 ·intro h;exact⟨h.1,h.2.1,h.2.2.1⟩
 ·intro h;exact⟨h.1,h.2.1,h.2.2,by show 1≤64;decide,by show 1≤64;decide⟩
theorem q7w{ours cap:Int}(f:0≤ours)(h:1≤cap∧cap≤1125899906842624∧ours≤cap):(qjc ours cap).may:=by
 refine⟨h.1,h.2.1,?_,by show 1≤64;decide,by show 1≤64;decide⟩
 show IntKind.u64.wrap (cap-ours)≤cap
 rw[qd3 (by omega) (by omega)]
 omega
attribute [local go_sem ↓ high] qkh qjq qhk
attribute [local go_sem] zn q0f qyc qpx
set_option maxRecDepth 100000 in
set_option maxHeartbeats 2000000 in
theorem q1u(ours cap:Int)(ho:0≤ours∧ours<18446744073709551616)(hc:0≤cap∧cap<18446744073709551616)(w:World) :
  Calls Tryz.prog 11 #[.int .u64 ours,.int .u64 cap] w fun e w' =>
   (∃p gA gB,e = .returned (.pointer (some ⟨p,0,none⟩))∧(1≤cap∧cap≤1125899906842624∧ours≤cap)∧PrP w w' p gA gB (· = gA) (· = gB) (Ch.new (qfy ours cap)) (Ch.new (qjc ours cap)) [] [] qbl qbl false) ∨
   (e = .returned (.pointer none)∧¬(1≤cap∧cap≤1125899906842624∧ours≤cap)∧qx w w'):=by
 have z:=q1j ho hc
 have C:=q1k (ours:=ours) hc
 have H:=@q7v ours cap
 have a6:=@q7w ours cap ho.1
 go_enter Tryz.func11,Tryz.ntmps11
 go_wp2_with fail
 obtain⟨W,J⟩:∃W:World,W=w.alloc (.cells #[.pointer none,.pointer none,.slice none 0 0,.slice none 0 0,.bool false] 38):=⟨_,rfl⟩
 have I:W.heap[w.heap.size]? = some (.cells #[.pointer none,.pointer none,.slice none 0 0,.slice none 0 0,.bool false] 38 (0,0)):=by rw[J];exact qi _ _
 have np:qx w W:=by rw[J];exact(Upd.refl _ _).alloc _
 rw[←J]
 clear J
 obtain⟨p,a9⟩:∃p,p=w.heap.size:=⟨_,rfl⟩
 rw[←a9] at I ⊢
 have c3:w.heap.size≤p:=by omega
 clear a9
 refine(qqh ours cap W).mono ?_
 rintro e w1 ⟨rfl,n1⟩
 obtain⟨R,N⟩:=qm5 (qi w1 (.cells qna.toArray 82)) (s:=qfy ours cap) (t:=qjc ours cap) rfl rfl
 have V:qx W ((w1.alloc (.cells qna.toArray 82)).setCells w1.heap.size 0 (qie (qfy ours cap) (qjc ours cap))):=(n1.alloc _).then (qad _) (fun i hi e=>by have:=n1.size;omega)
 have c2:p<w1.heap.size:=Nat.lt_of_lt_of_le (zq I) n1.size
 have b8:Ch.new (qfy ours cap)=Ch.new (qfy ours cap):=rfl
 obtain⟨M,O⟩:∃M,M=qfy ours cap:=⟨_,rfl⟩
 obtain⟨sB,P⟩:∃sB,sB=qjc ours cap:=⟨_,rfl⟩
 rw[←O] at R N V z H ⊢
 rw[←P] at R N V C a6 ⊢
 have b5:=qb O
 have b6:=qb P
 clear n1 b8 O P
 go_upto_region 3 with fail
 generalize (w1.alloc (.cells qna.toArray 82)).setCells w1.heap.size 0 (qie M sB)=w2 at N V ⊢
 generalize w1.heap.size=T at N c2 ⊢
 clear R w1
 have a8:=V.old I (fun h=>h)
 have N2:=qb (np.trans V)
 have HF:=qb N
 have c6:T<w2.heap.size:=zq N.at_
 have c9:=(np.trans V).size
 clear V np I N
 go_wp2_with fail
 go_loopw [7] (fun iv wr=>Upd (· = p) w2 wr∧((iv = .int .i64 0∧wr.heap[p]? = some (.cells #[.pointer none,.pointer none,.slice none 0 0,.slice none 0 0,.bool false] 38 (0,0))) ∨
  (∃gA,iv = .int .i64 1∧M.may∧w2.heap.size≤gA∧Hid (ChS wr gA (· = gA) (Ch.new M))∧wr.heap[p]? = some (.cells #[.pointer (some ⟨gA,0,none⟩),.pointer none,.slice none 0 0,.slice none 0 0,.bool false] 38 (0,0))) ∨
  (∃gA gB,iv = .int .i64 2∧M.may∧w2.heap.size≤gA∧gA<gB∧Hid (ChS wr gA (· = gA) (Ch.new M))∧Hid (ChS wr gB (· = gB) (Ch.new sB))∧wr.heap[p]? = some (.cells #[.pointer (some ⟨gA,0,none⟩),.pointer (some ⟨gB,0,none⟩),.slice none 0 0,.slice none 0 0,.bool false] 38 (0,0))))) (fun iv _=>2-(intOf iv).toNat)
 case atStart=>exact⟨Upd.refl _ _,.inl ⟨rfl,a8⟩⟩
 case round =>
  obtain⟨E,hrel⟩:=hrel
  obtain⟨K,rfl⟩:∃K:World,K=wr:=⟨_,rfl⟩
  have x:=(qa HF).upd E (fun e=>by omega)
  have c8:p<w2.heap.size:=zq a8
  rcases hrel with ⟨rfl,F⟩ | ⟨gA,rfl,q,a5,hA,F⟩ | ⟨gA,gB,rfl,q,a5,c7,hA,hB,F⟩
  ·have r0:=x.row0
   have b3:=E.size
   go_wp2_with (with_reducible first|(first|refine' tw1 (qh ?_) ?_|refine' tw2 (qh ?_) ?_);rotate_left|refine' tw3 (qh ?_)|rfl|apply tn|refine' tw4 ?_)
   refine(ql2 M z K.drew).mono ?_
   rintro e o U
   rcases U with ⟨q,g,rfl,hg,hR,l⟩ | ⟨q,rfl,l⟩
   ·have l:qx K o:=l.ofDrew
    have j:=l.old F (fun h=>h)
    have c0:o.cell? ⟨p,0,none⟩=some (.pointer none):=qg j 0
    have f0:o.frozen? ⟨p,0,none⟩=false:=qm j 0
    have f:=zu j 0 (.pointer (some ⟨g,0,none⟩))
    have D:=qf2 o p 0 (.pointer (some ⟨g,0,none⟩))
    have b9:K.heap.size≤g:=hg
    have Z:=(qof hR z q).upd D (fun k y e=>by omega)
    have L:=(E.trans (l.mono (fun _ _ h=>h.elim))).trans D
    have d0:(o.setCell ⟨p,0,none⟩ (.pointer (some ⟨g,0,none⟩))).cell? ⟨p,0,none⟩=some (.pointer (some ⟨g,0,none⟩)):=by rw[qg f];rfl
    have HC:=qb Z
    have HP:=qb f
    have X:=qb L
    clear r0 Z f L hR l D F E j x
    go_wp2_with (with_reducible first|(first|refine' tw1 (qh ?_) ?_|refine' tw2 (qh ?_) ?_);rotate_left|refine' tw3 (qh ?_)|rfl|apply tn|refine' tw4 ?_)
    go_roundw
    case rel=>exact⟨qa X,.inr (.inl ⟨g,rfl,q,by omega,HC,qa HP⟩)⟩
    case measure=>decide
   ·have l:qx K o:=l.ofDrew
    have j:=l.old F (fun h=>h)
    have c0:o.cell? ⟨p,0,none⟩=some (.pointer none):=qg j 0
    have f0:o.frozen? ⟨p,0,none⟩=false:=qm j 0
    have f:=zu j 0 (.pointer none)
    have D:=qf2 o p 0 (.pointer none)
    have L:=(E.trans (l.mono (fun _ _ h=>h.elim))).trans D
    have d0:(o.setCell ⟨p,0,none⟩ (.pointer none)).cell? ⟨p,0,none⟩=some (.pointer none):=by rw[qg f];rfl
    have X:=qb ((qa N2).then L (fun i hi e=>by omega))
    clear r0 f L l D F E j x
    go_wp2_with (with_reducible first|(first|refine' tw1 (qh ?_) ?_|refine' tw2 (qh ?_) ?_);rotate_left|refine' tw3 (qh ?_)|rfl|apply tn|refine' tw4 ?_)
    go_ret
    exact .inr ⟨rfl,fun h=>q (H.2 h),qa X⟩
  ·have v:=qa hA
   have r1:=x.row1
   have b3:=E.size
   have a7:=a6 (H.1 q)
   go_wp2_with (with_reducible first|(first|refine' tw1 (qh ?_) ?_|refine' tw2 (qh ?_) ?_);rotate_left|refine' tw3 (qh ?_)|rfl|apply tn|refine' tw4 ?_)
   refine(ql2 sB C K.drew).mono ?_
   rintro e o U
   rcases U with ⟨-,g,rfl,hg,hR,l⟩ | ⟨hn,-⟩
   case inr=>exact absurd a7 hn
   have l:qx K o:=l.ofDrew
   have j:=l.old F (fun h=>h)
   have c1:o.cell? ⟨p,1,none⟩=some (.pointer none):=qg j 1
   have f1:o.frozen? ⟨p,1,none⟩=false:=qm j 1
   have f:=zu j 1 (.pointer (some ⟨g,0,none⟩))
   have D:=qf2 o p 1 (.pointer (some ⟨g,0,none⟩))
   have b9:K.heap.size≤g:=hg
   have c5:=v.lt gA rfl
   have Z:=(qof hR C a7).upd D (fun k y e=>by omega)
   have Y:=(v.new l).upd D (fun k y e=>by omega)
   have L:=(E.trans (l.mono (fun _ _ h=>h.elim))).trans D
   have d0:(o.setCell ⟨p,1,none⟩ (.pointer (some ⟨g,0,none⟩))).cell? ⟨p,1,none⟩=some (.pointer (some ⟨g,0,none⟩)):=by rw[qg f];rfl
   have HC:=qb Z
   have b4:=qb Y
   have HP:=qb f
   have X:=qb L
   clear r1 Z f L hR l D F E j x Y v
   go_wp2_with (with_reducible first|(first|refine' tw1 (qh ?_) ?_|refine' tw2 (qh ?_) ?_);rotate_left|refine' tw3 (qh ?_)|rfl|apply tn|refine' tw4 ?_)
   go_roundw
   case rel=>exact⟨qa X,.inr (.inr ⟨gA,g,rfl,q,a5,by omega,b4,HC,qa HP⟩)⟩
   case measure=>decide
  ·have b3:=E.size
   have a4:=(qa N2).then E (fun i hi e=>by omega)
   go_wp2_with (with_reducible first|(first|refine' tw1 (qh ?_) ?_|refine' tw2 (qh ?_) ?_);rotate_left|refine' tw3 (qh ?_)|rfl|apply tn|refine' tw4 ?_)
   go_ret
   have b7:=qa hB
   have v:=qa hA
   have c4:=zq F
   refine .inl ⟨p,gA,gB,rfl,H.1 q,⟨⟨?_,?_,fun k y=>by omega,fun k y=>by omega,fun k y hb=>by omega,a4⟩,F,⟨c4,fun e=>by omega,fun e=>by omega⟩,c3,World.ownsRow_nil _ _ _ _,World.ownsRow_nil _ _ _ _,?_,?_,?_,?_,?_⟩⟩
   ·rw[←qa b5];exact v
   ·rw[←qa b6];exact b7
   ·intro k y;simp[qbl,Value.ownBlock] at y
   ·intro k y;simp[qbl,Value.ownBlock] at y
   ·intro k y;simp[qbl,Value.ownBlock] at y
   ·intro m q;cases q
   ·intro m q;cases q
end Go.Proofs.YtjpmomdechibmaaGreatDoor
namespace Go.Proofs.YtjpmomdechibmaaGreatDoor
open Go.RowKit
section
variable {w0 w wD w':World}{p gA gB:Nat}{SA SB S:Nat→Prop}{a b a' b':Ch}{wa wb:List MsgV}{ua ub:Value}{bad:Bool}
theorem PrP.putA(h:PrP w0 w p gA gB SA SB a b wa wb ua ub bad)(u:Upd (fun k=>ua.ownBlock=some k) w wD){v:Value}{y:List MsgV}
  (g:wD.ownsRow w0.heap.size 30 38 v y.length (y.flatMap MsgV.cells)) (j:∀k,v.ownBlock=some k→ua.ownBlock=some k∨w.heap.size≤k) (C:∀m∈y,MsgOk m) :
  PrP w0 (wD.setCell ⟨p,2,none⟩ v) p gA gB SA SB a b y wb v ub bad:=by
 have q:Upd (· = p) wD (wD.setCell ⟨p,2,none⟩ v):=(Upd.refl _ _).set1 2 _
 have E:¬(ua.ownBlock=some p):=fun e=>by
  obtain⟨l,o⟩:=qw h.rowA p e
  exact za h.at_ o (by decide) rfl
 have D:¬(ub.ownBlock=some p):=fun e=>by
  obtain⟨l,o⟩:=qw h.rowB p e
  exact za h.at_ o (by decide) rfl
 have t:=u.old h.at_ E
 have F:¬(v.ownBlock=some p):=fun e=>by
  obtain⟨l,o⟩:=qw g p e
  exact za t o (by decide) rfl
 have K:=u.size
 have J:=q.size
 have z:=zu t 2 v
 have x:∀k,v.ownBlock=some k→k<wD.heap.size:=fun k f=>by
  obtain⟨l,o⟩:=qw g k f
  exact zq o
 refine⟨⟨(h.two.A.upd u (fun k f e=>(h.offA k e).a f)).upd q (fun k f e=>h.off.a (e▸f)),(h.two.B.upd u (fun k f e=>(h.offA k e).b f)).upd q (fun k f e=>h.off.b (e▸f)),h.two.geA,h.two.geB,h.two.sep,(h.two.n.then u (fun i I e=>by have:=qi6 h.rowA i e;omega)).then q (fun i I e=>by have:=h.ge;omega)⟩,z,h.off.new (by omega),h.ge,?_,?_,?_,?_,?_,?_,?_⟩
 ·exact qq g q (fun k f e=>F (e▸f))
 ·exact qq (qq h.rowB u (fun k f e=>h.sep k e f)) q (fun k f e=>D (e▸f))
 ·intro k f
  rcases j k f with e | e
  ·exact(h.offA k e).new (by omega)
  ·exact Off.fresh h.two e (by have:=x k f;omega)
 ·exact fun k f=>(h.offB k f).new (by omega)
 ·intro k f H
  rcases j k f with e | e
  ·exact h.sep k e H
  ·have:=(h.offB k H).lt
   omega
 ·exact C
 ·exact h.okB
theorem PrP.putB(h:PrP w0 w p gA gB SA SB a b wa wb ua ub bad)(u:Upd (fun k=>ub.ownBlock=some k) w wD){v:Value}{y:List MsgV}
  (g:wD.ownsRow w0.heap.size 30 38 v y.length (y.flatMap MsgV.cells)) (j:∀k,v.ownBlock=some k→ub.ownBlock=some k∨w.heap.size≤k) (C:∀m∈y,MsgOk m) :
  PrP w0 (wD.setCell ⟨p,3,none⟩ v) p gA gB SA SB a b wa y ua v bad:=by
 have q:Upd (· = p) wD (wD.setCell ⟨p,3,none⟩ v):=(Upd.refl _ _).set1 3 _
 have E:¬(ub.ownBlock=some p):=fun e=>by
  obtain⟨l,o⟩:=qw h.rowB p e
  exact za h.at_ o (by decide) rfl
 have D:¬(ua.ownBlock=some p):=fun e=>by
  obtain⟨l,o⟩:=qw h.rowA p e
  exact za h.at_ o (by decide) rfl
 have t:=u.old h.at_ E
 have F:¬(v.ownBlock=some p):=fun e=>by
  obtain⟨l,o⟩:=qw g p e
  exact za t o (by decide) rfl
 have K:=u.size
 have J:=q.size
 have z:=zu t 3 v
 have x:∀k,v.ownBlock=some k→k<wD.heap.size:=fun k f=>by
  obtain⟨l,o⟩:=qw g k f
  exact zq o
 refine⟨⟨(h.two.A.upd u (fun k f e=>(h.offB k e).a f)).upd q (fun k f e=>h.off.a (e▸f)),(h.two.B.upd u (fun k f e=>(h.offB k e).b f)).upd q (fun k f e=>h.off.b (e▸f)),h.two.geA,h.two.geB,h.two.sep,(h.two.n.then u (fun i I e=>by have:=qi6 h.rowB i e;omega)).then q (fun i I e=>by have:=h.ge;omega)⟩,z,h.off.new (by omega),h.ge,?_,?_,?_,?_,?_,?_,?_⟩
 ·exact qq (qq h.rowA u (fun k f e=>h.sep k f e)) q (fun k f e=>D (e▸f))
 ·exact qq g q (fun k f e=>F (e▸f))
 ·exact fun k f=>(h.offA k f).new (by omega)
 ·intro k f
  rcases j k f with e | e
  ·exact(h.offB k e).new (by omega)
  ·exact Off.fresh h.two e (by have:=x k f;omega)
 ·intro k H f
  rcases j k f with e | e
  ·exact h.sep k H e
  ·have:=(h.offA k H).lt
   omega
 ·exact h.okA
 ·exact C
def PrS(w0 w:World)(p:Nat)(S:Nat→Prop)(a b:Ch)(wa wb:List MsgV)(bad:Bool):Prop :=
 ∃gA gB SA SB ua ub,PrP w0 w p gA gB SA SB a b wa wb ua ub bad∧(∀k,(SA k∨SB k∨k=p∨ua.ownBlock=some k∨ub.ownBlock=some k)→S k)∧(∀k,S k→w0.heap.size≤k∧k<w.heap.size)
theorem PrS.new(h:PrS w0 w p S a b wa wb bad)(u:qx w w'):PrS w0 w' p S a b wa wb bad:=by
 obtain⟨gA,gB,SA,SB,ua,ub,j,i,f⟩:=h
 exact⟨gA,gB,SA,SB,ua,ub,j.new u,i,fun k g=>⟨(f k g).1,Nat.lt_of_lt_of_le (f k g).2 u.size⟩⟩
theorem PrS.le(h:PrS w0 w p S a b wa wb bad):w0.heap.size≤w.heap.size:=by
 obtain⟨gA,gB,SA,SB,ua,ub,f,-,-⟩:=h
 exact f.two.n.size
theorem PrS.frW(h:PrS w0 w' p S a b wa wb bad)(l:w0.heap.size≤w.heap.size):PrS w0 w' p (Fr S w w') a b wa wb bad:=by
 obtain⟨gA,gB,SA,SB,ua,ub,j,g,i⟩:=h
 refine⟨gA,gB,SA,SB,ua,ub,j,fun k f=> .inl (g k f),?_⟩
 rintro k (f | f)
 ·exact i k f
 ·exact⟨by omega,f.2⟩
end
attribute [local go_sem ↓ high] qab qac qag qaa qem
attribute [local go_sem] qc2 qc3 qc6 qms zn
set_option maxRecDepth 100000 in
set_option maxHeartbeats 1000000 in
theorem q36(w0:World)(p:Nat)(S:Nat→Prop)(a b:Ch)(wa wb:List MsgV)(bad:Bool)(m:MsgV)(n:Int)(hm:MsgOk m)(w:World)(h:PrS w0 w p S a b wa wb bad)(d2:wb.length<1000000) :
  Calls Tryz.prog 14 #[.pointer (some ⟨p,0,none⟩),.int .i64 0,.agg m.cells.toArray,.int .i64 n] w fun e w'=>e = .returned (.tuple #[])∧PrS w0 w' p (Fr S w w') a b wa (if n=0 then wb++[m] else wb) bad∧Upd S w w':=by
 go_enter Tryz.func14,Tryz.ntmps14
 go_upto_region 1 with fail
 have L:=qb6 w m hm.len
 have v:qx w (w.alloc (.cells m.cells.toArray 30)):=(Upd.refl _ _).alloc _
 generalize w.alloc (.cells m.cells.toArray 30)=w1 at v L ⊢
 obtain⟨A,X⟩:∃A,A=w.heap.size:=⟨_,rfl⟩
 rw[←X] at L ⊢
 have P:=qb h.le
 clear X
 by_cases hn:n=0
 ·subst hn
  have R:=qb (h.new v)
  obtain⟨gA,gB,SA,SB,ua,ub,M,C,z⟩:=h.new v
  have c3:w1.cell? ⟨p,3,none⟩=some ub:=qg M.at_ 3
  have f3:w1.frozen? ⟨p,3,none⟩=false:=qm M.at_ 3
  have hr:=L.row
  have Z:=MsgV.len m hm.len
  obtain⟨i9,z9,b9,b7,d0,c7,c8,c9,b6⟩:=qj5
  have a4:w0.heap.size≤w1.heap.size:=M.two.n.size
  obtain⟨na,d4,a5⟩:=qv M.rowB
  have HP:=qb M
  have H1:=qb C
  have H2:=qb z
  have T:=qb v
  have a8:=qb L
  clear h M C z v L
  go_upto_region 2 with fail
  have W:w1.drew.cell? ⟨p,3,none⟩=some ub:=c3
  refine qb2 (fun w'=>w'.cell? ⟨p,3,none⟩=some ub) [9] (.of [0,1,2,3,4,5,6,7,8,9,10,11,12,13,14,15,16]) (by kernel_rfl) (by kernel_rfl) W ?_
  simp only[Plan.of]
  go_wp2_with (with_reducible first|(first|refine' qw1 (qh ?_) ?_|refine' qw2 (qh ?_) ?_|refine' qw3 (qh ?_) ?_);rotate_left|refine' qw4 (qh ?_)|refine' qw5 (qh ?_)|rfl|apply qn)
  refine⟨((Upd.refl (fun _=>False) w1).alloc _).drew.cell c3 (fun h=>h),?_⟩
  have N:qx w1 (w1.alloc (.cells m.cells.toArray 30)).drew:=((Upd.refl _ _).alloc _).drew
  have H:(w1.alloc (.cells m.cells.toArray 30)).drew.heap[w1.heap.size]? = some (.cells m.cells.toArray 30 (0,0)):=qi w1 (.cells m.cells.toArray 30)
  have U:=N.cell c3 (fun h=>h)
  have i:=qb ((qa HP).new N)
  have y:=qb ((qa T).trans N)
  have Y:w1.heap.size≤w1.heap.size:=Nat.le_refl _
  have E:w0.heap.size≤(w1.alloc (.cells m.cells.toArray 30)).drew.heap.size:=Nat.le_trans a4 N.size
  have O:=qb N.size
  clear c3 f3 hr HP N W a8
  generalize (w1.alloc (.cells m.cells.toArray 30)).drew=wC at H i U y E O ⊢
  generalize w1.heap.size=D at H Y ⊢
  have l:=(qa i).rowB
  rw[a5] at l
  have HN:=qb l
  clear l Y
  go_wp2_with (first | (at_builtin;refine wpList_append_own_at _ rfl (.tmp 19) (.tmp 21) 35 rfl w0.heap.size 30 i9 _ 38 b9 Tryz.underlying35 b7 d0 c7 c8 c9 (by decide) _ _ _ rfl (qa HN) ⟨D,0,none⟩ 1 1 m.cells rfl (by rw[Z]) ?c1 ?c2 ?c3 ?c4 ?c5 ?_) | (with_reducible first|(first|refine' qw1 (qh ?_) ?_|refine' qw2 (qh ?_) ?_|refine' qw3 (qh ?_) ?_);rotate_left|refine' qw4 (qh ?_)|refine' qw5 (qh ?_)|rfl|apply qn))
  case c1=>exact World.news_of_block (cs:=m.cells.toArray) (fr:=(0,0)) H
  case c2=>exact MsgV.one _
  case c3=>unfold maxLen;omega
  case c4=>have:=Nat.mul_le_mul (show wb.length+1≤1000000 by omega) b6;omega
  case c5=>exact E
  intro v' wD g I _ o
  rw[←a5] at I o
  have K:Upd (fun k=>ub.ownBlock=some k) wC wD:=(Upd.refl _ _).grown I (fun k f _=>f)
  have t:wD.ownsRow w0.heap.size 30 38 v' (wb++[m]).length ((wb++[m]).flatMap MsgV.cells):=by
   rw[List.length_append,List.flatMap_append,List.flatMap_cons,List.flatMap_nil,List.append_nil]
   exact g
  have q:=(qa i).putB K t (fun k f=>by
   rcases o with e | e
   ·exact .inl (e▸f)
   ·rw[e] at f
    injection f with f
    exact .inr (by omega)) (fun x hx=>by
   rcases List.mem_append.1 hx with e | e
   ·exact(qa i).okB x e
   ·rw[List.mem_singleton.1 e];exact hm)
  have b8:¬(ub.ownBlock=some p):=fun e=>by
   obtain⟨b4,hc⟩:=qw (qa i).rowB p e
   exact za (qa i).at_ hc (by decide) rfl
  have F:=K.old (qa i).at_ b8
  have V:=qg F 3
  have d6:wD.frozen? ⟨p,3,none⟩=false:=qm F 3
  have uE:Upd (· = p) wD (wD.setCell ⟨p,3,none⟩ v'):=(Upd.refl _ _).set1 3 _
  have HF:=qb (And.intro q (And.intro K uE))
  have d5:wD.cell? ⟨p,3,none⟩=some ub:=V
  have d8:=(qa T).size
  have b3:=qb (show ∀k,v'.ownBlock=some k→(ub.ownBlock=some k∨w.heap.size≤k)∧k<wD.heap.size from fun k f=>⟨by
   rcases o with e | e
   ·exact .inl (e▸f)
   ·rw[e] at f;injection f with f;have:=(qa y).size;exact .inr (by omega),by
   obtain⟨b4,hc⟩:=qw g k f
   exact zq hc⟩)
  obtain⟨a',d1,J⟩:=qv g
  have a9:=qb J
  clear g t I o K uE q F V U
  rw[J]
  clear J
  go_wp2_with (with_reducible first|(first|refine' qw1 (qh ?_) ?_|refine' qw2 (qh ?_) ?_|refine' qw3 (qh ?_) ?_);rotate_left|refine' qw4 (qh ?_)|refine' qw5 (qh ?_)|rfl|apply qn)
  go_end0
  have c6:=qa a9
  rw[←c6]
  obtain⟨q,K,uE⟩:=qa HF
  have j:=qa H1
  have v:=qa T
  have e0:=v.size
  have e1:=(qa y).size
  have c0:=K.size
  have d3:=uE.size
  have a7:Upd S w (wD.setCell ⟨p,3,none⟩ v'):=(((qa y).mono (fun _ _ h=>h.elim)).trans (K.mono (fun k _ e=>j k (by simp[e])))).trans (uE.mono (fun k _ e=>j k (by simp[e])))
  have d9:=qa P
  have d7:=qa O
  have b5:=qa H2
  have a6:=qa b3
  refine⟨rfl,⟨gA,gB,SA,SB,ua,v',q,?_,?_⟩,a7⟩
  ·rintro k (f | f | f | f | f)
   ·exact .inl (j k (.inl f))
   ·exact .inl (j k (.inr (.inl f)))
   ·exact .inl (j k (.inr (.inr (.inl f))))
   ·exact .inl (j k (by simp[f]))
   ·rcases (a6 k f).1 with e | e
    ·exact .inl (j k (by simp[e]))
    ·exact .inr ⟨e,by have:=(a6 k f).2;omega⟩
  ·rintro k (f | f)
   ·have:=b5 k f
    exact⟨this.1,by omega⟩
   ·exact⟨by omega,f.2⟩
 ·have R:=qb (h.new v)
  have c0:=v.size
  have T:=qb v
  clear h v L
  go_wp2_with (with_reducible first|(first|refine' tw1 (qh ?_) ?_|refine' tw2 (qh ?_) ?_);rotate_left|refine' tw3 (qh ?_)|rfl|apply tn|refine' tw4 ?_)
  go_end0
  exact⟨rfl,(qa R).frW (qa P),(qa T).mono (fun _ _ h=>h.elim)⟩
set_option maxRecDepth 100000 in
set_option maxHeartbeats 1000000 in
theorem q37(w0:World)(p:Nat)(S:Nat→Prop)(a b:Ch)(wa wb:List MsgV)(bad:Bool)(m:MsgV)(n:Int)(hm:MsgOk m)(w:World)(h:PrS w0 w p S a b wa wb bad)(d2:wa.length<1000000) :
  Calls Tryz.prog 14 #[.pointer (some ⟨p,0,none⟩),.int .i64 1,.agg m.cells.toArray,.int .i64 n] w fun e w'=>e = .returned (.tuple #[])∧PrS w0 w' p (Fr S w w') a b (if n=0 then wa++[m] else wa) wb bad∧Upd S w w':=by
 go_enter Tryz.func14,Tryz.ntmps14
 go_upto_region 1 with fail
 have L:=qb6 w m hm.len
 have v:qx w (w.alloc (.cells m.cells.toArray 30)):=(Upd.refl _ _).alloc _
 generalize w.alloc (.cells m.cells.toArray 30)=w1 at v L ⊢
 obtain⟨A,X⟩:∃A,A=w.heap.size:=⟨_,rfl⟩
 rw[←X] at L ⊢
 have P:=qb h.le
 clear X
 by_cases hn:n=0
 ·subst hn
  have R:=qb (h.new v)
  obtain⟨gA,gB,SA,SB,ua,ub,M,C,z⟩:=h.new v
  have c3:w1.cell? ⟨p,2,none⟩=some ua:=qg M.at_ 2
  have f3:w1.frozen? ⟨p,2,none⟩=false:=qm M.at_ 2
  have hr:=L.row
  have Z:=MsgV.len m hm.len
  obtain⟨i9,z9,b9,b7,d0,c7,c8,c9,b6⟩:=qj5
  have a4:w0.heap.size≤w1.heap.size:=M.two.n.size
  obtain⟨na,d4,a5⟩:=qv M.rowA
  have HP:=qb M
  have H1:=qb C
  have H2:=qb z
  have T:=qb v
  have a8:=qb L
  clear h M C z v L
  go_upto_region 2 with fail
  have W:w1.drew.cell? ⟨p,2,none⟩=some ua:=c3
  refine qb2 (fun w'=>w'.cell? ⟨p,2,none⟩=some ua) [9] (.of [0,1,2,3,4,5,6,7,8,9,10,11,12,13,14,15,16]) (by kernel_rfl) (by kernel_rfl) W ?_
  simp only[Plan.of]
  go_wp2_with (with_reducible first|(first|refine' qw1 (qh ?_) ?_|refine' qw2 (qh ?_) ?_|refine' qw3 (qh ?_) ?_);rotate_left|refine' qw4 (qh ?_)|refine' qw5 (qh ?_)|rfl|apply qn)
  refine⟨((Upd.refl (fun _=>False) w1).alloc _).drew.cell c3 (fun h=>h),?_⟩
  have N:qx w1 (w1.alloc (.cells m.cells.toArray 30)).drew:=((Upd.refl _ _).alloc _).drew
  have H:(w1.alloc (.cells m.cells.toArray 30)).drew.heap[w1.heap.size]? = some (.cells m.cells.toArray 30 (0,0)):=qi w1 (.cells m.cells.toArray 30)
  have U:=N.cell c3 (fun h=>h)
  have i:=qb ((qa HP).new N)
  have y:=qb ((qa T).trans N)
  have Y:w1.heap.size≤w1.heap.size:=Nat.le_refl _
  have E:w0.heap.size≤(w1.alloc (.cells m.cells.toArray 30)).drew.heap.size:=Nat.le_trans a4 N.size
  have O:=qb N.size
  clear c3 f3 hr HP N W a8
  generalize (w1.alloc (.cells m.cells.toArray 30)).drew=wC at H i U y E O ⊢
  generalize w1.heap.size=D at H Y ⊢
  have l:=(qa i).rowA
  rw[a5] at l
  have HN:=qb l
  clear l Y
  go_wp2_with (first | (at_builtin;refine wpList_append_own_at _ rfl (.tmp 19) (.tmp 21) 35 rfl w0.heap.size 30 i9 _ 38 b9 Tryz.underlying35 b7 d0 c7 c8 c9 (by decide) _ _ _ rfl (qa HN) ⟨D,0,none⟩ 1 1 m.cells rfl (by rw[Z]) ?c1 ?c2 ?c3 ?c4 ?c5 ?_) | (with_reducible first|(first|refine' qw1 (qh ?_) ?_|refine' qw2 (qh ?_) ?_|refine' qw3 (qh ?_) ?_);rotate_left|refine' qw4 (qh ?_)|refine' qw5 (qh ?_)|rfl|apply qn))
  case c1=>exact World.news_of_block (cs:=m.cells.toArray) (fr:=(0,0)) H
  case c2=>exact MsgV.one _
  case c3=>unfold maxLen;omega
  case c4=>have:=Nat.mul_le_mul (show wa.length+1≤1000000 by omega) b6;omega
  case c5=>exact E
  intro v' wD g I _ o
  rw[←a5] at I o
  have K:Upd (fun k=>ua.ownBlock=some k) wC wD:=(Upd.refl _ _).grown I (fun k f _=>f)
  have t:wD.ownsRow w0.heap.size 30 38 v' (wa++[m]).length ((wa++[m]).flatMap MsgV.cells):=by
   rw[List.length_append,List.flatMap_append,List.flatMap_cons,List.flatMap_nil,List.append_nil]
   exact g
  have q:=(qa i).putA K t (fun k f=>by
   rcases o with e | e
   ·exact .inl (e▸f)
   ·rw[e] at f
    injection f with f
    exact .inr (by omega)) (fun x hx=>by
   rcases List.mem_append.1 hx with e | e
   ·exact(qa i).okA x e
   ·rw[List.mem_singleton.1 e];exact hm)
  have b8:¬(ua.ownBlock=some p):=fun e=>by
   obtain⟨b4,hc⟩:=qw (qa i).rowA p e
   exact za (qa i).at_ hc (by decide) rfl
  have F:=K.old (qa i).at_ b8
  have V:=qg F 2
  have d6:wD.frozen? ⟨p,2,none⟩=false:=qm F 2
  have uE:Upd (· = p) wD (wD.setCell ⟨p,2,none⟩ v'):=(Upd.refl _ _).set1 2 _
  have HF:=qb (And.intro q (And.intro K uE))
  have d5:wD.cell? ⟨p,2,none⟩=some ua:=V
  have d8:=(qa T).size
  have b3:=qb (show ∀k,v'.ownBlock=some k→(ua.ownBlock=some k∨w.heap.size≤k)∧k<wD.heap.size from fun k f=>⟨by
   rcases o with e | e
   ·exact .inl (e▸f)
   ·rw[e] at f;injection f with f;have:=(qa y).size;exact .inr (by omega),by
   obtain⟨b4,hc⟩:=qw g k f
   exact zq hc⟩)
  obtain⟨a',d1,J⟩:=qv g
  have a9:=qb J
  clear g t I o K uE q F V U
  rw[J]
  clear J
  go_wp2_with (with_reducible first|(first|refine' qw1 (qh ?_) ?_|refine' qw2 (qh ?_) ?_|refine' qw3 (qh ?_) ?_);rotate_left|refine' qw4 (qh ?_)|refine' qw5 (qh ?_)|rfl|apply qn)
  go_end0
  have c6:=qa a9
  rw[←c6]
  obtain⟨q,K,uE⟩:=qa HF
  have j:=qa H1
  have v:=qa T
  have e0:=v.size
  have e1:=(qa y).size
  have c0:=K.size
  have d3:=uE.size
  have a7:Upd S w (wD.setCell ⟨p,2,none⟩ v'):=(((qa y).mono (fun _ _ h=>h.elim)).trans (K.mono (fun k _ e=>j k (by simp[e])))).trans (uE.mono (fun k _ e=>j k (by simp[e])))
  have d9:=qa P
  have d7:=qa O
  have b5:=qa H2
  have a6:=qa b3
  refine⟨rfl,⟨gA,gB,SA,SB,v',ub,q,?_,?_⟩,a7⟩
  ·rintro k (f | f | f | f | f)
   ·exact .inl (j k (.inl f))
   ·exact .inl (j k (.inr (.inl f)))
   ·exact .inl (j k (.inr (.inr (.inl f))))
   ·rcases (a6 k f).1 with e | e
    ·exact .inl (j k (by simp[e]))
    ·exact .inr ⟨e,by have:=(a6 k f).2;omega⟩
   ·exact .inl (j k (by simp[f]))
  ·rintro k (f | f)
   ·have:=b5 k f
    exact⟨this.1,by omega⟩
   ·exact⟨by omega,f.2⟩
 ·have R:=qb (h.new v)
  have c0:=v.size
  have T:=qb v
  clear h v L
  go_wp2_with (with_reducible first|(first|refine' tw1 (qh ?_) ?_|refine' tw2 (qh ?_) ?_);rotate_left|refine' tw3 (qh ?_)|rfl|apply tn|refine' tw4 ?_)
  go_end0
  exact⟨rfl,(qa R).frW (qa P),(qa T).mono (fun _ _ h=>h.elim)⟩
end Go.Proofs.YtjpmomdechibmaaGreatDoor
