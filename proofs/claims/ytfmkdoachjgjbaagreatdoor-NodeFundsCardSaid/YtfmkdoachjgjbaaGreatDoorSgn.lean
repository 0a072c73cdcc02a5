/-
  Sign.
-/
import Derived.Test.YtfmkdoachjgjbaaGreatDoorMbd
import Derived.Test.YtfmkdoachjgjbaaGreatDoorMbi
set_option maxRecDepth 100000
set_option maxHeartbeats 1000000
set_option linter.unusedVariables false
set_option linter.unusedSimpArgs false
namespace Go.Proofs.YtfmkdoachjgjbaaGreatDoor
open Go.RowKit
def Plan.pre:List Nat→Plan→Plan
 | [],p=>p
 | i::l,p=> .step i (Plan.pre l p)
attribute [local go_sem ↓ high] zl qaf qah qa1 ze zf zg zj qll
attribute [local go_sem] qa9 qb3 qb7 qdp qy qau qav qaw zz q4j
def qei(c:Ch):Int:=if c.k.awaits=true then 5 else if qbv 1 c.xs=false then 5 else if c.k.signed=65535 then 2 else 0
def Ch.signing(c:Ch):Ch:= {c.goOn 1 with k:= {(c.goOn 1).k with signed:=c.k.signed+1,awaits:=true,revoked:=false}}
noncomputable def qch(c:Ch):MsgV:=⟨6,0,0,0,qc6 false c.s.key c.s.ch (c.k.signed+1) c.signing.loc c.signing.rem c.signing.xs,0,c.k.signed+1⟩
def Ch.turned(c:Ch):Ch:= {c with last:=c.news,news:=[]}
noncomputable def Ch.sign(c:Ch):Ch × MsgV × Int:=if qei c=0 then ((c.signing.say (qch c)).turned,(qch c).on c.s.ch,0) else (c,MsgV.zero,qei c)
theorem q5p{c:Ch}{e:Int}(h:qei c=e)(n:e≠0):c.sign=(c,MsgV.zero,e):=by unfold Ch.sign;rw[h,if_neg n]
theorem qg0(l:List Live):∀c:Ch,(l.foldl qce c).k=c.k∧(l.foldl qce c).s=c.s∧(l.foldl qce c).news=c.news∧(l.foldl qce c).last=c.last∧(l.foldl qce c).shelf=c.shelf:=by
 induction l with
 | nil=>intro c;exact⟨rfl,rfl,rfl,rfl,rfl⟩
 | cons x l w =>
  intro c;rw[List.foldl_cons];obtain⟨a,b,d,e,f⟩:=w (qce c x);have v:(qce c x).k=c.k∧(qce c x).s=c.s∧(qce c x).news=c.news∧(qce c x).last=c.last∧(qce c x).shelf=c.shelf:=by
   unfold qce;split
   ·unfold Ch.give;split<;>exact⟨rfl,rfl,rfl,rfl,rfl⟩
   ·exact⟨rfl,rfl,rfl,rfl,rfl⟩
  obtain⟨i,m,o,q,t⟩:=v;exact⟨a.trans i,b.trans m,d.trans o,e.trans q,f.trans t⟩
theorem q3y(c:Ch)(ev:Int):(c.goOn ev).k=c.k:=(qg0 _ c).1
theorem q9x(c:Ch)(ev:Int):(c.goOn ev).s=c.s:=(qg0 _ c).2.1
theorem qz1(c:Ch)(ev:Int):(c.goOn ev).news=c.news:=(qg0 _ c).2.2.1
theorem ChP.turn{w:World}{g:Nat}{S:Nat→Prop}{c:Ch}{x i y:Value}(h:ChP w g S c x i y):ChP ((w.setCell ⟨g,627,none⟩ i).setCell ⟨g,626,none⟩ qcb) g S c.turned x qcb i:=by
 have u:Upd (· = g) w ((w.setCell ⟨g,627,none⟩ i).setCell ⟨g,626,none⟩ qcb):=((Upd.refl _ _).set1 627 _).set1 626 _;have z:∀ {T:TypeId} {v:Value} {n:Nat} {xs:List Value},T≠126→w.ownsRow 0 T 38 v n xs→∀k,v.ownBlock=some k→¬k=g:=by
  intro T v n xs D I k q e;obtain⟨C,E⟩:=zv I k q;exact zx E h.at_ D e
 have t:=zq h.at_ 627 i;rw[q5l c x i y h.ok.s.seed h.ok.shelf c.news i] at t;have o:=zq t 626 qcb;rw[quv ({c with last:=c.news} : Ch) x i i h.ok.s.seed h.ok.shelf [] qcb] at o;refine⟨o,⟨h.ok.s,h.ok.signed,h.ok.heard,h.ok.nextOwn,h.ok.nextTheirs,h.ok.loc,h.ok.rem,h.ok.xs,h.ok.few,h.ok.shelf,?_,h.ok.news,?_⟩,?_,?_,?_,h.inG,h.inL,?_,h.inN,?_,fun k q=>Nat.lt_of_lt_of_le (h.lt k q) u.size⟩
 ·intro m H;cases H
 ·exact⟨Nat.zero_le _,h.ok.many.1⟩
 ·exact zc h.live u (z (by decide) h.live)
 ·exact World.ownsRow_nil _ _ _ _
 ·exact zc h.news u (z (by decide) h.news)
 ·intro k q;simp[qcb,Value.ownBlock] at q
 ·intro k q;simp[qcb,Value.ownBlock] at q
theorem q7r(m:MsgV)(ch:Int):(m.on ch).hash=m.hash:=rfl
theorem q3x(c:Ch)(ev:Int):(c.goOn ev).xs.length≤c.xs.length:=by
 unfold Ch.goOn qet qao;exact Nat.le_trans (List.length_filter_le _ _) (by rw[List.length_map];exact Nat.le_refl _)
theorem q1j(g:Nat)(S:Nat→Prop)(c:Ch)(w:World)(h:ChS w g S c)(hT:Tc w)(hS:ApC S)(o:c.s.key.size≤100000000)(l7:0≤c.s.ch∧c.s.ch<4294967296)(i5:c.news.length<1000000)(p1:c.xs.length≤16) :
  Calls Tryz.prog 75 #[.pointer (some ⟨g,0,none⟩)] w fun e w'=>e = .returned (.tuple #[.agg c.sign.2.1.cells.toArray,.int .i64 c.sign.2.2])∧ChS w' g (Fr S w w') c.sign.1∧Upd S w w':=by
 obtain⟨lv,nv,av,h⟩:=h
 go_enter Tryz.func75,Tryz.ntmps75
 go_upto_region 1 with fail
 have hB:=qa6 w MsgV.zero qu
 have n1:qq w (w.alloc (.cells MsgV.zero.cells.toArray 101)):=(Upd.refl _ _).alloc _
 generalize w.alloc (.cells MsgV.zero.cells.toArray 101)=w1 at hB n1 ⊢
 obtain⟨B,h2⟩:∃B,B=w.heap.size:=⟨_,rfl⟩
 rw[←h2] at hB ⊢
 have o4:w.heap.size≤B:=by omega
 have i6:g≠B:=by have:=h.lt g h.inG;omega
 have d2:¬S B:=fun e=>by have:=h.lt B e;omega
 clear h2
 have h1:=h.new n1
 have b4:w1.cell? ⟨g,39,none⟩=some (.bool c.k.awaits):=h1.toR.awaits
 have g7:w1.cell? ⟨g,47,none⟩=some lv:=h1.toR.live
 have j3:qei c=if c.k.awaits=true then 5 else if qbv 1 c.xs=false then 5 else if c.k.signed=65535 then 2 else 0:=rfl
 have p0:=h.ok.few
 have a7:=qlb lv c.xs 1 (by omega) w1 (hT.new n1).glob h1.toI.lives
 obtain⟨la,o1,l9⟩:=qaa h.live
 have J:=qj j3
 have H0:=qj h
 have H1:=qj h1
 have HB:=qj hB
 have N1:=qj n1
 have g4:=qj (hT.new n1)
 have m0:=h.ok.signed
 have g6:∀(W:World) (e:Int),qq w1 W→qei c=e→e≠0 →
   stOk W B 0 38 MsgV.zero.cells.toArray=true∧MsB (W.setCells B 0 MsgV.zero.cells) B MsgV.zero∧c.sign=(c,MsgV.zero,e)∧ChS (W.setCells B 0 MsgV.zero.cells) g (Fr S w (W.setCells B 0 MsgV.zero.cells)) c∧Upd S w (W.setCells B 0 MsgV.zero.cells):=by
  intro W e nW hs he
  have hb:=hB.new nW
  have u:=zy (w:=W) (b:=B) MsgV.zero.cells
  exact⟨hb.stOk qu,hb.put qu,q5p hs he,((h1.new nW).upd u (fun k o e=>by rw[e] at o;exact d2 o)).fr w,((n1.trans nW).mono (T:=S) (fun _ _ h=>h.elim)).then u (fun i hi e=>by omega)⟩
 have a6:=qj g6
 clear j3 h h1 hB n1 hT g6
 cases ha:c.k.awaits with
 | true =>
  rw[ha,if_pos rfl] at J;rw[ha] at b4;obtain⟨N,C,hE,hC,hU⟩:=qg a6 w1 5 (Upd.refl _ _) (qg J) (by decide);have P:=qj C;have HE:=qj hE;have HC:=qj hC;have HU:=qj hU;clear C hE hC hU a7;go_wp2_with ((with_reducible first|rfl|refine' ut ?_ ?_;rotate_left|refine' uu ?_)<;>intros);have C:=qg P;refine bodyPost_ret (zb rfl _ _ B _ _ _ _ rfl C.at_ Tryz.underlying101 rfl (by rw[C.agg];exact Tryz.infoMsg)) rfl ?_;rw[qg HE];exact⟨rfl,qg HC,qg HU⟩
 | false =>
  rw[ha,if_neg (by decide)] at J;rw[ha] at b4;rw[l9] at g7 a7;go_wp2_with ((with_reducible first|rfl|refine' ut ?_ ?_;rotate_left|refine' uu ?_)<;>intros);refine a7.mono ?_;rintro e Y ⟨rfl,n2⟩;clear a7 b4 g7;cases hc:qbv 1 c.xs with
  | false =>
   rw[hc,if_pos rfl] at J;obtain⟨N,C,hE,hC,hU⟩:=qg a6 Y 5 n2 (qg J) (by decide);have P:=qj C;have HE:=qj hE;have HC:=qj hC;have HU:=qj hU;clear C hE hC hU n2;go_wp2_with ((with_reducible first|rfl|refine' ut ?_ ?_;rotate_left|refine' uu ?_)<;>intros);have C:=qg P;refine bodyPost_ret (zb rfl _ _ B _ _ _ _ rfl C.at_ Tryz.underlying101 rfl (by rw[C.agg];exact Tryz.infoMsg)) rfl ?_;rw[qg HE];exact⟨rfl,qg HC,qg HU⟩
  | true =>
   rw[hc,if_neg (by decide)] at J;have e8:Y.cell? ⟨g,37,none⟩=some (.int .i64 c.k.signed):=((qg H1).new n2).toR.signed;by_cases d3:c.k.signed=65535
   ·rw[if_pos d3] at J;obtain⟨N,C,hE,hC,hU⟩:=qg a6 Y 2 n2 (qg J) (by decide);have P:=qj C;have HE:=qj hE;have HC:=qj hC;have HU:=qj hU;rw[d3] at e8;clear C hE hC hU n2 d3 m0;go_wp2_with ((with_reducible first|rfl|refine' ut ?_ ?_;rotate_left|refine' uu ?_)<;>intros);have C:=qg P;refine bodyPost_ret (zb rfl _ _ B _ _ _ _ rfl C.at_ Tryz.underlying101 rfl (by rw[C.agg];exact Tryz.infoMsg)) rfl ?_;rw[qg HE];exact⟨rfl,qg HC,qg HU⟩
   ·rw[if_neg d3] at J;have c4:c.sign=((c.signing.say (qch c)).turned,(qch c).on c.s.ch,0):=by unfold Ch.sign;rw[if_pos (qg J)]
    have g1:=qj c4;have i7:=qje g S c 1 Y ⟨lv,nv,av,(qg H1).new n2⟩ ((qg g4).new n2).glob;have N2:=qj n2;clear c4 a6 n2;go_wp2_with ((with_reducible first|rfl|refine' ut ?_ ?_;rotate_left|refine' uu ?_)<;>intros);refine i7.mono ?_;rintro e D ⟨rfl,⟨d5,k3,g5,h3⟩,u3⟩;obtain⟨c1,b2⟩:∃c1,c1=c.goOn 1:=⟨_,rfl⟩;have f7:c1.k=c.k:=by rw[b2];exact q3y c 1
    have j2:c1.s=c.s:=by rw[b2];exact q9x c 1
    have j0:c1.news=c.news:=by rw[b2];exact qz1 c 1
    rw[←b2] at h3;have e8:D.cell? ⟨g,37,none⟩=some (.int .i64 c.k.signed):=by rw[←f7];exact h3.toR.signed
    have k9:D.frozen? ⟨g,37,none⟩=false:=qo h3.at_ 37;have m1:IntKind.i64.wrap (c.k.signed+1)=c.k.signed+1:=qgq (by omega) (by omega);have h4:=h3.putSigned (c.k.signed+1) (by omega);have u4:=qos D g 37 (.int .i64 (c.k.signed+1));have b4:(D.setCell ⟨g,37,none⟩ (.int .i64 (c.k.signed+1))).cell? ⟨g,39,none⟩=some (.bool false):=by
     have:=h4.toR.awaits;rw[show (({c1 with k:= {c1.k with signed:=c.k.signed+1}} : Ch).v d5 k3 g5).k.awaits=c1.k.awaits from rfl,f7,ha] at this;exact this
    have l0:(D.setCell ⟨g,37,none⟩ (.int .i64 (c.k.signed+1))).frozen? ⟨g,39,none⟩=false:=qo h4.at_ 39;have h5:=h4.putAwaits true;have u5:=qos (D.setCell ⟨g,37,none⟩ (.int .i64 (c.k.signed+1))) g 39 (.bool true);have k8:((D.setCell ⟨g,37,none⟩ (.int .i64 (c.k.signed+1))).setCell ⟨g,39,none⟩ (.bool true)).cell? ⟨g,44,none⟩=some (.bool c1.k.revoked):=h5.toR.revoked;have l1:((D.setCell ⟨g,37,none⟩ (.int .i64 (c.k.signed+1))).setCell ⟨g,39,none⟩ (.bool true)).frozen? ⟨g,44,none⟩=false:=qo h5.at_ 44;have h6:=h5.putRevoked false;have u6:=qos ((D.setCell ⟨g,37,none⟩ (.int .i64 (c.k.signed+1))).setCell ⟨g,39,none⟩ (.bool true)) g 44 (.bool false);have U:c.signing = {c1 with k:= {c1.k with signed:=c.k.signed+1,awaits:=true,revoked:=false}} := by unfold Ch.signing;rw[b2]
    rw[←U] at h6;have c9:Upd (· = g) D (((D.setCell ⟨g,37,none⟩ (.int .i64 (c.k.signed+1))).setCell ⟨g,39,none⟩ (.bool true)).setCell ⟨g,44,none⟩ (.bool false)):=(u4.trans u5).trans u6;have U6:=qj (((((qg N1).trans (qg N2)).mono (T:=S) (fun _ _ h=>h.elim)).trans u3).trans (c9.mono (fun k _ e=>by rw[e];exact(qg H0).inG)));have i2:=qj ((((qg HB).new (qg N2)).upd u3 d2).upd c9 (fun e=>i6 e.symm));have g3:=qj (And.intro u3.size c9.size);have j8:=qj ((qg N1).size);have j9:=qj ((qg N2).size);have e5:=qj ((((qg g4).new (qg N2)).upd u3 hS).upd (c9.mono (T:=S) (fun k _ e=>by rw[e];exact(qg H0).inG)) hS);have H6:=qj h6;have c5:c.signing.s=c.s:=by rw[U];exact j2
    have j5:c.signing.news=c.news:=by rw[U];exact j0
    have d4:c.signing.k.signed=c.k.signed+1:=by rw[U]
    have e4:c.signing.xs.length≤19:=by have:=q3x c 1;show (c.goOn 1).xs.length≤19;omega
    clear h3 h4 h5 h6 u3 u4 u5 u6 c9 U;go_upto_region 8 with ((with_reducible first|rfl|refine' ut ?_ ?_;rotate_left|refine' uu ?_)<;>intros);clear e8 k9 b4 l0 k8 l1 i7 m1;generalize ((D.setCell ⟨g,37,none⟩ (.int .i64 (c.k.signed+1))).setCell ⟨g,39,none⟩ (.bool true)).setCell ⟨g,44,none⟩ (.bool false)=y at U6 i2 g3 e5 H6 ⊢;obtain⟨t,f5⟩:∃t,t=c.signing:=⟨_,rfl⟩;have j4:qch c=⟨6,0,0,0,qc6 false c.s.key c.s.ch (c.k.signed+1) t.loc t.rem t.xs,0,c.k.signed+1⟩:=by rw[f5];rfl
    rw[←f5] at H6 c5 j5 d4 g1 e4;have g2:=qj j4;clear b2 f7 j2 j0 j4 f5 c1;have hP:=qg H6;have j7:t.xs.length≤1000000:=hP.ok.few;obtain⟨k0,c7,e2⟩:=qaa hP.live;have j1:=hP.ok.xs;have g9:y.drew.cell? ⟨g,35,none⟩=some (.string c.s.key):=by rw[←c5];exact hP.key
    have d0:y.drew.cell? ⟨g,0,none⟩=some (.int .u32 c.s.ch):=by rw[←c5];exact hP.toR.ch
    have d1:y.drew.cell? ⟨g,37,none⟩=some (.int .i64 (c.k.signed+1)):=by rw[←d4];exact hP.toR.signed
    have dB:zt y.drew g 45 2=some #[.int .u64 t.loc,.int .u64 t.rem]:=hP.base;have e9:y.drew.cell? ⟨g,47,none⟩=some d5:=hP.toR.live;rw[e2] at e9;have f8:=fun W (n:qq y W)=>quh false t.loc t.rem d5 t.xs e4 W ((qg e5).new n).spans (hP.toI.lives.new n)
    rw[e2] at f8;have o8:t.s.key.size≤100000000:=by rw[c5];exact o
    have j6:=fun W (n:qq y W) V (hV:ViewO false t.loc t.rem t.xs W V)=>qqq false t.loc t.rem V t.xs c.s.key c.s.ch (c.k.signed+1) j7 W ((qg e5).new n).tabs hV j1 o l7 (by omega) hP.ok.loc hP.ok.rem
    have a1:=qia false c.s.key c.s.ch (c.k.signed+1) t.loc t.rem t.xs;have g0:=qj f8;have e6:=qj j6;have c6:∀W,qq y.drew W→W.cell? ⟨g,35,none⟩=some (.string c.s.key)∧W.cell? ⟨g,0,none⟩=some (.int .u32 c.s.ch)∧W.cell? ⟨g,37,none⟩=some (.int .i64 (c.k.signed+1))∧zt W g 45 2=some #[.int .u64 t.loc,.int .u64 t.rem]∧W.cell? ⟨g,47,none⟩=some (.slice k0 t.xs.length c7):=by
     intro W n;have l5:=hP.new (((Upd.refl (fun _=>False) y).drew).trans n);exact⟨n.cell g9 (fun h=>h),n.cell d0 (fun h=>h),n.cell d1 (fun h=>h),l5.base,n.cell e9 (fun h=>h)⟩
    have R:=qj c6;have h7:=c6 y.drew (Upd.refl _ _);clear hP f8 j6 c6 g9 d0 d1 dB e9;generalize qc6 false c.s.key c.s.ch (c.k.signed+1) t.loc t.rem t.xs=T at *
    go_cut [4] from 48 to 72 (fun hv wx=>∃H,hv = .pointer (some ⟨H,0,none⟩)∧y.heap.size≤H∧HsB wx H T∧qq y wx)
    case first =>
     refine qay (fun w'=>w'.cell? ⟨g,35,none⟩=some (.string c.s.key)∧w'.cell? ⟨g,0,none⟩=some (.int .u32 c.s.ch)∧w'.cell? ⟨g,37,none⟩=some (.int .i64 (c.k.signed+1))∧zt w' g 45 2=some #[.int .u64 t.loc,.int .u64 t.rem]∧w'.cell? ⟨g,47,none⟩=some (.slice k0 t.xs.length c7)) [4,9,14,18,22]
      (Plan.pre [0,1,2,3,4,5,6,7,8,9,10,11,12,13,14,15,16,17,18,19,20,21,22] (.fork (.step 23 (.fork (.of [24,25,26]) (.of [25,24,26]))) (.of [25,23,24,26]))) (by kernel_rfl) (by kernel_rfl) h7 ?_
     simp only[Plan.of,Plan.pre];go_wp2_with ((with_reducible first|rfl|refine' ut ?_ ?_;rotate_left|refine' uu ?_)<;>intros);have nd:qq y y.drew:=(Upd.refl _ _).drew;refine qf ?_ ?_
     ·go_wp2_with ((with_reducible first|rfl|refine' ut ?_ ?_;rotate_left|refine' uu ?_)<;>intros);refine(qg g0 y.drew nd).mono ?_;rintro e E ⟨V,rfl,na,hV⟩;go_wp2_with ((with_reducible first|rfl|refine' ut ?_ ?_;rotate_left|refine' uu ?_)<;>intros);refine⟨qg R _ na,?_⟩;refine qf ?_ ?_
      ·go_wp2_with ((with_reducible first|rfl|refine' ut ?_ ?_;rotate_left|refine' uu ?_)<;>intros);refine(qg e6 E (nd.trans na) V hV).mono ?_;rintro e wb ⟨rfl,nb⟩;obtain⟨N,C,nF⟩:=qf7 wb T a1;have P:=qj C;have NF:=qj (((nd.trans na).trans nb).trans nF);have q:qq wb (wb.alloc (.cells (qw zm).toArray 35)):=(Upd.refl _ _).alloc _;have hK:=qj (qg R _ ((na.trans nb).trans q));have X:y.heap.size≤wb.heap.size:=((nd.trans na).trans nb).size;clear C nF q nb;go_wp2_with ((with_reducible first|rfl|refine' ut ?_ ?_;rotate_left|refine' uu ?_)<;>intros);refine⟨qg hK,?_⟩;go_wp2_with ((with_reducible first|rfl|refine' ut ?_ ?_;rotate_left|refine' uu ?_)<;>intros);go_meet
       case rel=>exact⟨_,rfl,X,qg P,qg NF⟩
      ·have q:qq E (E.alloc (.cells (qw zm).toArray 35)):=(Upd.refl _ _).alloc _;have x:=qcr E zm qu;have X:y.heap.size≤E.heap.size:=(nd.trans na).size;go_wp2_with ((with_reducible first|rfl|refine' ut ?_ ?_;rotate_left|refine' uu ?_)<;>intros);refine⟨qg R _ (na.trans q),?_⟩;generalize E.alloc (.cells (qw zm).toArray 35)=wc at q x ⊢;generalize E.heap.size=H at x X ⊢;have b0:=qj x;clear x;go_wp2_with ((with_reducible first|rfl|refine' ut ?_ ?_;rotate_left|refine' uu ?_)<;>intros);refine(qg e6 wc ((nd.trans na).trans q) V (hV.new q)).mono ?_;rintro e wb ⟨rfl,nb⟩;have K:=(qg b0).new nb;have N:=K.stOk T a1;have P:=qj (K.put T a1);have NF:=qj ((((nd.trans na).trans q).trans nb).then (zy (w:=wb) (b:=H) (qw T)) (fun i hi e=>by omega));clear K nb;go_wp2_with ((with_reducible first|rfl|refine' ut ?_ ?_;rotate_left|refine' uu ?_)<;>intros);go_meet
       case rel=>exact⟨_,rfl,X,qg P,qg NF⟩
     ·have q:qq y.drew (y.drew.alloc (.cells (qw zm).toArray 35)):=(Upd.refl _ _).alloc _;have O:qq y.drew (y.alloc (.cells (qw zm).toArray 35)).drew:=q;have x:HsB (y.alloc (.cells (qw zm).toArray 35)).drew y.heap.size zm:=(qcr y zm qu).new ((Upd.refl _ _).drew);have X:y.heap.size≤y.heap.size:=Nat.le_refl _;go_wp2_with ((with_reducible first|rfl|refine' ut ?_ ?_;rotate_left|refine' uu ?_)<;>intros);refine⟨qg R _ O,?_⟩;generalize (y.alloc (.cells (qw zm).toArray 35)).drew=wc at O x ⊢;generalize hH:y.heap.size=H at x ⊢;rw[hH] at X;have b0:=qj x;clear x q;go_wp2_with ((with_reducible first|rfl|refine' ut ?_ ?_;rotate_left|refine' uu ?_)<;>intros);refine(qg g0 wc (nd.trans O)).mono ?_;rintro e E ⟨V,rfl,na,hV⟩;have K:=(qg b0).new na;go_wp2_with ((with_reducible first|rfl|refine' ut ?_ ?_;rotate_left|refine' uu ?_)<;>intros);refine⟨qg R _ (O.trans na),?_⟩;have k5:=qj K;clear K;go_wp2_with ((with_reducible first|rfl|refine' ut ?_ ?_;rotate_left|refine' uu ?_)<;>intros);refine(qg e6 E ((nd.trans O).trans na) V hV).mono ?_;rintro e wb ⟨rfl,nb⟩;have f4:=(qg k5).new nb;have N:=f4.stOk T a1;have P:=qj (f4.put T a1);have NF:=qj ((((nd.trans O).trans na).trans nb).then (zy (w:=wb) (b:=H) (qw T)) (fun i hi e=>by omega));clear f4 nb;go_wp2_with ((with_reducible first|rfl|refine' ut ?_ ?_;rotate_left|refine' uu ?_)<;>intros);go_meet
      case rel=>exact⟨_,rfl,Nat.le_of_eq hH,qg P,qg NF⟩
    case rest =>
     obtain⟨H,rfl,hH,f2,n7⟩:=hcut;obtain⟨z,rfl⟩:∃z:World,z=wc:=⟨_,rfl⟩;clear h7;have b7:=(qg H6).new n7;have U7:=qj ((qg U6).trans (n7.mono (T:=S) (fun _ _ h=>h.elim)));have i3:=qj ((qg i2).new n7);have m3:=qj n7.size;have d1:z.drew.cell? ⟨g,37,none⟩=some (.int .i64 (c.k.signed+1)):=by rw[←d4];exact b7.toR.signed
     have dH:zt z.drew H 0 32=some (qw T).toArray:=f2.row;have l6:=fun W=>qvk 6 (c.k.signed+1) T a1 W
     rw[←qg g2] at l6;have e3:(qch c).hash.length=32:=by rw[qg g2];exact a1
     have f6:t.news.length<1000000:=by rw[j5];exact i5
     have c3:=fun W (n:qq z W)=>qyj g (Fr S Y D) t (qch c) e3 W ⟨d5,k3,g5,b7.new n⟩ f6
     rw[c5] at c3;have c0:((qch c).on c.s.ch).hash.length=32:=by rw[q7r];exact e3
     have d7:=qj c3;have f1:z.drew.cell? ⟨g,37,none⟩=some (.int .i64 (c.k.signed+1))∧zt z.drew H 0 32=some (qw T).toArray:=⟨d1,dH⟩;have o7:g<z.heap.size:=zi b7.at_;have i9:∀k,Fr S Y D k→k<z.heap.size:=b7.lt;clear b7 c3;generalize qch c=m at *
     generalize o9:m.on c.s.ch=mo at *
     go_upto_region 9 with fail
     go_cut [5] from 73 to 81 (fun hv wx=>∃M,hv = .pointer (some ⟨M,0,none⟩)∧z.heap.size≤M∧MsB wx M mo∧ChS wx g (Fr (Fr S Y D) z wx) (t.say m)∧Upd (Fr S Y D) z wx)
     case first =>
      refine qay (fun w'=>w'.cell? ⟨g,37,none⟩=some (.int .i64 (c.k.signed+1))∧zt w' H 0 32=some (qw T).toArray) [5,6] (.fork (Plan.pre [0,1,2,3,4,5,6,7] (.of [8,9,10])) (Plan.pre [9,0,1,2,3,4,5,6,7] (.of [8,10]))) (by kernel_rfl) (by kernel_rfl) f1 ?_;simp only[Plan.of,Plan.pre];have m6:qq z z.drew:=(Upd.refl _ _).drew;have l2:∀k,Fr S Y D k→k≠H:=fun k o e=>by
       have h6:=(qg H6).lt k o;omega
      refine qf ?_ ?_
      ·go_wp2_with ((with_reducible first|rfl|refine' ut ?_ ?_;rotate_left|refine' uu ?_)<;>intros);refine(qg d7 z.drew m6).mono ?_;rintro e E ⟨rfl,⟨m5,m7,k7,f3⟩,ua⟩;have d6:Upd (Fr S Y D) z E:=ua.ofDrew;have h8:=f2.upd d6 (fun o=>l2 H o rfl);have b9:ChS E g (Fr (Fr S Y D) z E) (t.say m):=⟨m5,m7,k7,f3⟩;have b1:E.cell? ⟨g,37,none⟩=some (.int .i64 (c.k.signed+1)):=by rw[←d4];exact f3.toR.signed
       obtain⟨N,C,nF⟩:=qgg E mo c0;have q:qq E (E.alloc (.cells MsgV.zero.cells.toArray 101)):=(Upd.refl _ _).alloc _;have l3:=qj (And.intro (q.cell b1 (fun h=>h)) (h8.new q).row);have P:=qj C;have HC:=qj ((b9.new nF).grow nF.size);have HU:=qj (d6.trans (nF.mono (T:=Fr S Y D) (fun _ _ h=>h.elim)));have X:z.heap.size≤E.heap.size:=d6.size;clear C nF q b9 f3 ua d6 b1 h8;go_wp2_with ((with_reducible first|rfl|refine' ut ?_ ?_;rotate_left|refine' uu ?_)<;>intros);refine⟨qg l3,?_⟩;go_wp2_with ((with_reducible first|rfl|refine' ut ?_ ?_;rotate_left|refine' uu ?_)<;>intros);go_meet
       case rel=>exact⟨_,rfl,X,qg P,qg HC,qg HU⟩
      ·have q:qq z (z.alloc (.cells MsgV.zero.cells.toArray 101)).drew:=((Upd.refl _ _).alloc _).drew;have x:MsB (z.alloc (.cells MsgV.zero.cells.toArray 101)).drew z.heap.size MsgV.zero:=(qa6 z MsgV.zero qu).new ((Upd.refl _ _).drew);have b6:=f2.new q;have b1:=q.cell (p:=⟨g,37,none⟩) f1.1 (fun h=>h);go_wp2_with ((with_reducible first|rfl|refine' ut ?_ ?_;rotate_left|refine' uu ?_)<;>intros);refine⟨⟨b1,b6.row⟩,?_⟩;have b5:=b1;have f0:=b6.row;generalize (z.alloc (.cells MsgV.zero.cells.toArray 101)).drew=wc at q x b6 b5 f0 ⊢;generalize l4:z.heap.size=M at x ⊢;have b0:=qj x;have o2:=qj b6;have o6:wc.cell? ⟨g,37,none⟩=some (.int .i64 (c.k.signed+1))∧zt wc H 0 32=some (qw T).toArray:=⟨b5,f0⟩;clear x b6 b1 b5 f0 f1;go_wp2_with ((with_reducible first|rfl|refine' ut ?_ ?_;rotate_left|refine' uu ?_)<;>intros);refine(qg d7 wc q).mono ?_;rintro e E ⟨rfl,b9,ua⟩;have h9:∀k,Fr S Y D k→¬k=M:=fun k o e=>by
        have:=i9 k o;omega
       have n4:=(qg b0).lt;have K:=(qg b0).upd ua (fun o=>h9 M o rfl);have N:=K.stOk c0;have um:=zy (w:=E) (b:=M) mo.cells;have P:=qj (K.put c0);have m4:=q.size;have d9:ChS (E.setCells M 0 mo.cells) g (Fr (Fr S Y D) wc E) (t.say m):=b9.upd um (fun k o e=>by
        rcases o with o | o
        ·exact h9 k o e
        ·omega)
       have e1:ChS (E.setCells M 0 mo.cells) g (Fr (Fr S Y D) wc (E.setCells M 0 mo.cells)) (t.say m):=d9.grow um.size;have HC:=qj (e1.later m4);clear d9 e1;have HU:=qj (((q.mono (T:=Fr S Y D) (fun _ _ h=>h.elim)).trans ua).then um (fun i hi e=>by omega));clear K b9 ua um;go_wp2_with ((with_reducible first|rfl|refine' ut ?_ ?_;rotate_left|refine' uu ?_)<;>intros);go_meet
       case rel=>exact⟨_,rfl,Nat.le_of_eq l4,qg P,qg HC,qg HU⟩
     case rest =>
      obtain⟨M,rfl,hM,i0,⟨k1,a2,e7,I⟩,u8⟩:=hcut;obtain⟨Z,rfl⟩:∃Z:World,Z=wc:=⟨_,rfl⟩;have g8:Z.cell? ⟨g,626,none⟩=some a2:=(qk I.at_ 626).trans (qto _ k1 a2 e7 I.ok.s.seed I.ok.shelf);have m8:Z.cell? ⟨g,627,none⟩=some e7:=(qk I.at_ 627).trans (qne _ k1 a2 e7 I.ok.s.seed I.ok.shelf);have m9:Z.frozen? ⟨g,626,none⟩=false:=qo I.at_ 626;have n3:Z.frozen? ⟨g,627,none⟩=false:=qo I.at_ 627;have h0:=I.turn;obtain⟨k2,c8,a8⟩:=qaa I.news;have b3:Upd (· = g) Z ((Z.setCell ⟨g,627,none⟩ a2).setCell ⟨g,626,none⟩ qcb):=((Upd.refl _ _).set1 627 _).set1 626 _;have l8:M≠g:=by omega
      have d8:=i0.upd b3 l8;have i4:=(qg i3).upd u8 (fun o=>by
       rcases o with o | o
       ·exact d2 o
       ·have:=(qg HB).lt;have:=qg j9;omega)
      have b8:=i4.upd b3 (fun e=>i6 e.symm);have N:=b8.stOk c0;have rM:=d8.row;have P:=qj (b8.put c0);have uB:=zy (w:=(Z.setCell ⟨g,627,none⟩ a2).setCell ⟨g,626,none⟩ qcb) (b:=B) mo.cells;have o5:B<z.heap.size:=(qg i3).lt;have hz:=qg g3;have n9:=qg j9;have m2:=qg j8;have o0:=qg m3;have o3:=(qg HB).lt;have i8:∀k,Fr (Fr S Y D) z Z k→Fr S w Z k:=fun k o=>by
       rcases o with (o | o) | o
       ·exact .inl o
       ·exact .inr ⟨by omega,by have:=u8.size;omega⟩
       ·exact .inr ⟨by omega,o.2⟩
      have i1:=h0.upd uB (fun k o e=>by
       rcases o with (o | o) | o
       ·rw[e] at o;exact d2 o
       ·omega
       ·omega)
      have HC:=qj (i1.wider (T:=Fr S w (((Z.setCell ⟨g,627,none⟩ a2).setCell ⟨g,626,none⟩ qcb).setCells B 0 mo.cells)) (fun k o=>by
       rcases i8 k o with h | h
       ·exact .inl h
       ·exact .inr ⟨h.1,by have:=b3.size;have:=uB.size;omega⟩) (fun k o=>by
       rcases o with o | o
       ·have:=(qg H0).lt k o;have:=u8.size;have:=b3.size;have:=uB.size;omega
       ·exact o.2))
      have n6:=(qg U7).size;have v8:Upd S w Z:=(qg U7).then u8 (fun i hi o=>by
       rcases o with o | o
       ·exact o
       ·omega)
      have k4:Upd S w ((Z.setCell ⟨g,627,none⟩ a2).setCell ⟨g,626,none⟩ qcb):=v8.then b3 (fun i hi e=>by rw[e];exact(qg H0).inG);have HU:=qj (k4.then uB (fun i hi e=>by omega));rw[a8] at g8;have n5:=qj a8;rw[a8] at P HC HU N rM;unfold qcb at P HU N rM;have f9:ChS ((((Z.setCell ⟨g,627,none⟩ (.slice k2 (t.say m).news.length c8)).setCell ⟨g,626,none⟩ (.slice none 0 0))).setCells B 0 mo.cells) g (Fr S w ((((Z.setCell ⟨g,627,none⟩ (.slice k2 (t.say m).news.length c8)).setCell ⟨g,626,none⟩ (.slice none 0 0))).setCells B 0 mo.cells)) (t.say m).turned:=⟨_,_,_,qg HC⟩;have k6:=qj f9;clear f9 HC h0 b3 d8 i4 b8 uB i1 v8 k4 i8 I u8 i0 a8;go_wp2_with ((with_reducible first|rfl|refine' ut ?_ ?_;rotate_left|refine' uu ?_)<;>intros);have C:=qg P;refine bodyPost_ret (zb rfl _ _ B _ _ _ _ rfl C.at_ Tryz.underlying101 rfl (by rw[C.agg];exact Tryz.infoMsg)) rfl ?_;rw[qg g1];exact⟨rfl,qg k6,qg HU⟩
end Go.Proofs.YtfmkdoachjgjbaaGreatDoor
