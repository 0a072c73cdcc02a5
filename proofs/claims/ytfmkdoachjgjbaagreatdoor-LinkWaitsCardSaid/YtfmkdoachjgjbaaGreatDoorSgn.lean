/-
  Sign.
-/
import Derived.Test.YtfmkdoachjgjbaaGreatDoorMba
import Derived.Test.YtfmkdoachjgjbaaGreatDoorMbe
set_option maxRecDepth 100000
set_option maxHeartbeats 1000000
set_option linter.unusedVariables false
set_option linter.unusedSimpArgs false
namespace Go.Proofs.YtfmkdoachjgjbaaGreatDoor
open Go.RowKit
def Plan.pre:List Nat→Plan→Plan
 | [],p=>p
 | i::l,p=> .step i (Plan.pre l p)
attribute [local go_sem ↓ high] zl qaa qad qam qy qz zb zf qmm
attribute [local go_sem] qbf qci qcj qdh qv qas qat qax zx q6m
def qei(c:Ch):Int:=if c.k.awaits=true then 5 else if qa8 1 c.xs=false then 5 else if c.k.signed=65535 then 2 else 0
def Ch.signing(c:Ch):Ch:= {c.goOn 1 with k:= {(c.goOn 1).k with signed:=c.k.signed+1,awaits:=true,revoked:=false}}
noncomputable def qcm(c:Ch):MsgV:=⟨6,0,0,0,qbo false c.s.key c.s.ch (c.k.signed+1) c.signing.loc c.signing.rem c.signing.xs,0,c.k.signed+1⟩
def Ch.turned(c:Ch):Ch:= {c with last:=c.news,news:=[]}
noncomputable def Ch.sign(c:Ch):Ch × MsgV × Int:=if qei c=0 then ((c.signing.say (qcm c)).turned,(qcm c).on c.s.ch,0) else (c,MsgV.zero,qei c)
theorem qvo{c:Ch}{e:Int}(h:qei c=e)(n:e≠0):c.sign=(c,MsgV.zero,e):=by unfold Ch.sign;rw[h,if_neg n]
theorem qhy(l:List Live):∀c:Ch,(l.foldl qct c).k=c.k∧(l.foldl qct c).s=c.s∧(l.foldl qct c).news=c.news∧(l.foldl qct c).last=c.last∧(l.foldl qct c).shelf=c.shelf:=by
 induction l with
 | nil=>intro c;exact⟨rfl,rfl,rfl,rfl,rfl⟩
 | cons x l C =>
  intro c;rw[List.foldl_cons];obtain⟨a,b,d,e,f⟩:=C (qct c x);have z:(qct c x).k=c.k∧(qct c x).s=c.s∧(qct c x).news=c.news∧(qct c x).last=c.last∧(qct c x).shelf=c.shelf:=by
   unfold qct;split
   ·unfold Ch.give;split<;>exact⟨rfl,rfl,rfl,rfl,rfl⟩
   ·exact⟨rfl,rfl,rfl,rfl,rfl⟩
  obtain⟨i,m,p,q,v⟩:=z;exact⟨a.trans i,b.trans m,d.trans p,e.trans q,f.trans v⟩
theorem q52(c:Ch)(ev:Int):(c.goOn ev).k=c.k:=(qhy _ c).1
theorem zb6(c:Ch)(ev:Int):(c.goOn ev).s=c.s:=(qhy _ c).2.1
theorem q08(c:Ch)(ev:Int):(c.goOn ev).news=c.news:=(qhy _ c).2.2.1
theorem ChP.turn{w:World}{g:Nat}{S:Nat→Prop}{c:Ch}{z f C:Value}(h:ChP w g S c z f C):ChP ((w.setCell ⟨g,627,none⟩ f).setCell ⟨g,626,none⟩ qbw) g S c.turned z qbw f:=by
 have u:Upd (· = g) w ((w.setCell ⟨g,627,none⟩ f).setCell ⟨g,626,none⟩ qbw):=((Upd.refl _ _).set1 627 _).set1 626 _;have E:∀ {T:TypeId} {v:Value} {n:Nat} {xs:List Value},T≠126→w.ownsRow 0 T 38 v n xs→∀k,v.ownBlock=some k→¬k=g:=by
  intro T v n xs H K k p e;obtain⟨F,I⟩:=qab K k p;exact qao I h.at_ H e
 have q:=zt h.at_ 627 f;rw[q7t c z f C h.ok.s.seed h.ok.shelf c.news f] at q;have i:=zt q 626 qbw;rw[qo7 ({c with last:=c.news} : Ch) z f f h.ok.s.seed h.ok.shelf [] qbw] at i;refine⟨i,⟨h.ok.s,h.ok.signed,h.ok.heard,h.ok.nextOwn,h.ok.nextTheirs,h.ok.loc,h.ok.rem,h.ok.xs,h.ok.few,h.ok.shelf,?_,h.ok.news,?_⟩,?_,?_,?_,h.inG,h.inL,?_,h.inN,?_,fun k p=>Nat.lt_of_lt_of_le (h.lt k p) u.size⟩
 ·intro m J;cases J
 ·exact⟨Nat.zero_le _,h.ok.many.1⟩
 ·exact zq h.live u (E (by decide) h.live)
 ·exact World.ownsRow_nil _ _ _ _
 ·exact zq h.news u (E (by decide) h.news)
 ·intro k p;simp[qbw,Value.ownBlock] at p
 ·intro k p;simp[qbw,Value.ownBlock] at p
theorem q90(m:MsgV)(ch:Int):(m.on ch).hash=m.hash:=rfl
theorem q51(c:Ch)(ev:Int):(c.goOn ev).xs.length≤c.xs.length:=by
 unfold Ch.goOn qff qal;exact Nat.le_trans (List.length_filter_le _ _) (by rw[List.length_map];exact Nat.le_refl _)
theorem q3f(g:Nat)(S:Nat→Prop)(c:Ch)(w:World)(h:ChS w g S c)(hT:Tc w)(hS:ApC S)(f:c.s.key.size≤100000000)(m4:0≤c.s.ch∧c.s.ch<4294967296)(i7:c.news.length<1000000)(p6:c.xs.length≤16) :
  Calls Tryz.prog 75 #[.pointer (some ⟨g,0,none⟩)] w fun e w'=>e = .returned (.tuple #[.agg c.sign.2.1.cells.toArray,.int .i64 c.sign.2.2])∧ChS w' g (Fr S w w') c.sign.1∧Upd S w w':=by
 obtain⟨lv,nv,av,h⟩:=h
 go_enter Tryz.func75,Tryz.ntmps75
 go_upto_region 1 with fail
 have hB:=qan w MsgV.zero ql
 have n1:qu w (w.alloc (.cells MsgV.zero.cells.toArray 101)):=(Upd.refl _ _).alloc _
 generalize w.alloc (.cells MsgV.zero.cells.toArray 101)=w1 at hB n1 ⊢
 obtain⟨B,h8⟩:∃B,B=w.heap.size:=⟨_,rfl⟩
 rw[←h8] at hB ⊢
 have o9:w.heap.size≤B:=by omega
 have i8:g≠B:=by have:=h.lt g h.inG;omega
 have d6:¬S B:=fun e=>by have:=h.lt B e;omega
 clear h8
 have h1:=h.new n1
 have b9:w1.cell? ⟨g,39,none⟩=some (.bool c.k.awaits):=h1.toR.awaits
 have g9:w1.cell? ⟨g,47,none⟩=some lv:=h1.toR.live
 have j5:qei c=if c.k.awaits=true then 5 else if qa8 1 c.xs=false then 5 else if c.k.signed=65535 then 2 else 0:=rfl
 have p5:=h.ok.few
 have b3:=qme lv c.xs 1 (by omega) w1 (hT.new n1).glob h1.toI.lives
 obtain⟨la,o6,m6⟩:=zv h.live
 have L:=qb j5
 have H0:=qb h
 have H1:=qb h1
 have HB:=qb hB
 have N1:=qb n1
 have g7:=qb (hT.new n1)
 have m7:=h.ok.signed
 have bad:∀(W:World) (e:Int),qu w1 W→qei c=e→e≠0 →
   stOk W B 0 38 MsgV.zero.cells.toArray=true∧MsB (W.setCells B 0 MsgV.zero.cells) B MsgV.zero∧c.sign=(c,MsgV.zero,e)∧ChS (W.setCells B 0 MsgV.zero.cells) g (Fr S w (W.setCells B 0 MsgV.zero.cells)) c∧Upd S w (W.setCells B 0 MsgV.zero.cells):=by
  intro W e nW hs he
  have hb:=hB.new nW
  have u:=qx (w:=W) (b:=B) MsgV.zero.cells
  exact⟨hb.stOk ql,hb.put ql,qvo hs he,((h1.new nW).upd u (fun k f e=>by rw[e] at f;exact d6 f)).fr w,((n1.trans nW).mono (T:=S) (fun _ _ h=>h.elim)).then u (fun i hi e=>by omega)⟩
 have a8:=qb bad
 clear j5 h h1 hB n1 hT bad
 cases ha:c.k.awaits with
 | true =>
  rw[ha,if_pos rfl] at L;rw[ha] at b9;obtain⟨O,I,hE,hC,hU⟩:=qa a8 w1 5 (Upd.refl _ _) (qa L) (by decide);have R:=qb I;have HE:=qb hE;have HC:=qb hC;have HU:=qb hU;clear I hE hC hU b3;go_wp2_with ((with_reducible first|rfl|refine' ut ?_ ?_;rotate_left|refine' uu ?_)<;>intros);have I:=qa R;refine bodyPost_ret (qw rfl _ _ B _ _ _ _ rfl I.at_ Tryz.underlying101 rfl (by rw[I.agg];exact Tryz.infoMsg)) rfl ?_;rw[qa HE];exact⟨rfl,qa HC,qa HU⟩
 | false =>
  rw[ha,if_neg (by decide)] at L;rw[ha] at b9;rw[m6] at g9 b3;go_wp2_with ((with_reducible first|rfl|refine' ut ?_ ?_;rotate_left|refine' uu ?_)<;>intros);refine b3.mono ?_;rintro e Z ⟨rfl,n2⟩;clear b3 b9 g9;cases hc:qa8 1 c.xs with
  | false =>
   rw[hc,if_pos rfl] at L;obtain⟨O,I,hE,hC,hU⟩:=qa a8 Z 5 n2 (qa L) (by decide);have R:=qb I;have HE:=qb hE;have HC:=qb hC;have HU:=qb hU;clear I hE hC hU n2;go_wp2_with ((with_reducible first|rfl|refine' ut ?_ ?_;rotate_left|refine' uu ?_)<;>intros);have I:=qa R;refine bodyPost_ret (qw rfl _ _ B _ _ _ _ rfl I.at_ Tryz.underlying101 rfl (by rw[I.agg];exact Tryz.infoMsg)) rfl ?_;rw[qa HE];exact⟨rfl,qa HC,qa HU⟩
  | true =>
   rw[hc,if_neg (by decide)] at L;have f1:Z.cell? ⟨g,37,none⟩=some (.int .i64 c.k.signed):=((qa H1).new n2).toR.signed;by_cases d7:c.k.signed=65535
   ·rw[if_pos d7] at L;obtain⟨O,I,hE,hC,hU⟩:=qa a8 Z 2 n2 (qa L) (by decide);have R:=qb I;have HE:=qb hE;have HC:=qb hC;have HU:=qb hU;rw[d7] at f1;clear I hE hC hU n2 d7 m7;go_wp2_with ((with_reducible first|rfl|refine' ut ?_ ?_;rotate_left|refine' uu ?_)<;>intros);have I:=qa R;refine bodyPost_ret (qw rfl _ _ B _ _ _ _ rfl I.at_ Tryz.underlying101 rfl (by rw[I.agg];exact Tryz.infoMsg)) rfl ?_;rw[qa HE];exact⟨rfl,qa HC,qa HU⟩
   ·rw[if_neg d7] at L;have c9:c.sign=((c.signing.say (qcm c)).turned,(qcm c).on c.s.ch,0):=by unfold Ch.sign;rw[if_pos (qa L)]
    have g4:=qb c9;have i9:=qkt g S c 1 Z ⟨lv,nv,av,(qa H1).new n2⟩ ((qa g7).new n2).glob;have N2:=qb n2;clear c9 a8 n2;go_wp2_with ((with_reducible first|rfl|refine' ut ?_ ?_;rotate_left|refine' uu ?_)<;>intros);refine i9.mono ?_;rintro e J ⟨rfl,⟨d9,k7,g8,h3⟩,u3⟩;obtain⟨c1,b7⟩:∃c1,c1=c.goOn 1:=⟨_,rfl⟩;have g0:c1.k=c.k:=by rw[b7];exact q52 c 1
    have j4:c1.s=c.s:=by rw[b7];exact zb6 c 1
    have j2:c1.news=c.news:=by rw[b7];exact q08 c 1
    rw[←b7] at h3;have f1:J.cell? ⟨g,37,none⟩=some (.int .i64 c.k.signed):=by rw[←g0];exact h3.toR.signed
    have l5:J.frozen? ⟨g,37,none⟩=false:=qo h3.at_ 37;have m8:IntKind.i64.wrap (c.k.signed+1)=c.k.signed+1:=qhl (by omega) (by omega);have h4:=h3.putSigned (c.k.signed+1) (by omega);have u4:=qj1 J g 37 (.int .i64 (c.k.signed+1));have b9:(J.setCell ⟨g,37,none⟩ (.int .i64 (c.k.signed+1))).cell? ⟨g,39,none⟩=some (.bool false):=by
     have:=h4.toR.awaits;rw[show (({c1 with k:= {c1.k with signed:=c.k.signed+1}} : Ch).v d9 k7 g8).k.awaits=c1.k.awaits from rfl,g0,ha] at this;exact this
    have l6:(J.setCell ⟨g,37,none⟩ (.int .i64 (c.k.signed+1))).frozen? ⟨g,39,none⟩=false:=qo h4.at_ 39;have h5:=h4.putAwaits true;have u5:=qj1 (J.setCell ⟨g,37,none⟩ (.int .i64 (c.k.signed+1))) g 39 (.bool true);have l4:((J.setCell ⟨g,37,none⟩ (.int .i64 (c.k.signed+1))).setCell ⟨g,39,none⟩ (.bool true)).cell? ⟨g,44,none⟩=some (.bool c1.k.revoked):=h5.toR.revoked;have l7:((J.setCell ⟨g,37,none⟩ (.int .i64 (c.k.signed+1))).setCell ⟨g,39,none⟩ (.bool true)).frozen? ⟨g,44,none⟩=false:=qo h5.at_ 44;have h6:=h5.putRevoked false;have u6:=qj1 ((J.setCell ⟨g,37,none⟩ (.int .i64 (c.k.signed+1))).setCell ⟨g,39,none⟩ (.bool true)) g 44 (.bool false);have X:c.signing = {c1 with k:= {c1.k with signed:=c.k.signed+1,awaits:=true,revoked:=false}} := by unfold Ch.signing;rw[b7]
    rw[←X] at h6;have d4:Upd (· = g) J (((J.setCell ⟨g,37,none⟩ (.int .i64 (c.k.signed+1))).setCell ⟨g,39,none⟩ (.bool true)).setCell ⟨g,44,none⟩ (.bool false)):=(u4.trans u5).trans u6;have U6:=qb (((((qa N1).trans (qa N2)).mono (T:=S) (fun _ _ h=>h.elim)).trans u3).trans (d4.mono (fun k _ e=>by rw[e];exact(qa H0).inG)));have i4:=qb ((((qa HB).new (qa N2)).upd u3 d6).upd d4 (fun e=>i8 e.symm));have g6:=qb (And.intro u3.size d4.size);have k0:=qb ((qa N1).size);have k3:=qb ((qa N2).size);have e8:=qb ((((qa g7).new (qa N2)).upd u3 hS).upd (d4.mono (T:=S) (fun k _ e=>by rw[e];exact(qa H0).inG)) hS);have H6:=qb h6;have d1:c.signing.s=c.s:=by rw[X];exact j4
    have j7:c.signing.news=c.news:=by rw[X];exact j2
    have d8:c.signing.k.signed=c.k.signed+1:=by rw[X]
    have e7:c.signing.xs.length≤19:=by have:=q51 c 1;show (c.goOn 1).xs.length≤19;omega
    clear h3 h4 h5 h6 u3 u4 u5 u6 d4 X;go_upto_region 8 with ((with_reducible first|rfl|refine' ut ?_ ?_;rotate_left|refine' uu ?_)<;>intros);clear f1 l5 b9 l6 l4 l7 i9 m8;generalize ((J.setCell ⟨g,37,none⟩ (.int .i64 (c.k.signed+1))).setCell ⟨g,39,none⟩ (.bool true)).setCell ⟨g,44,none⟩ (.bool false)=E at U6 i4 g6 e8 H6 ⊢;obtain⟨z,f8⟩:∃z,z=c.signing:=⟨_,rfl⟩;have j6:qcm c=⟨6,0,0,0,qbo false c.s.key c.s.ch (c.k.signed+1) z.loc z.rem z.xs,0,c.k.signed+1⟩:=by rw[f8];rfl
    rw[←f8] at H6 d1 j7 d8 g4 e7;have g5:=qb j6;clear b7 g0 j4 j2 j6 f8 c1;have hP:=qa H6;have j9:z.xs.length≤1000000:=hP.ok.few;obtain⟨k4,d2,e5⟩:=zv hP.live;have j3:=hP.ok.xs;have h2:E.drew.cell? ⟨g,35,none⟩=some (.string c.s.key):=by rw[←d1];exact hP.key
    have d0:E.drew.cell? ⟨g,0,none⟩=some (.int .u32 c.s.ch):=by rw[←d1];exact hP.toR.ch
    have d5:E.drew.cell? ⟨g,37,none⟩=some (.int .i64 (c.k.signed+1)):=by rw[←d8];exact hP.toR.signed
    have dB:zj E.drew g 45 2=some #[.int .u64 z.loc,.int .u64 z.rem]:=hP.base;have f2:E.drew.cell? ⟨g,47,none⟩=some d9:=hP.toR.live;rw[e5] at f2;have g1:=fun W (n:qu E W)=>qu0 false z.loc z.rem d9 z.xs e7 W ((qa e8).new n).spans (hP.toI.lives.new n)
    rw[e5] at g1;have p3:z.s.key.size≤100000000:=by rw[d1];exact f
    have j8:=fun W (n:qu E W) V (hV:ViewO false z.loc z.rem z.xs W V)=>qq7 false z.loc z.rem V z.xs c.s.key c.s.ch (c.k.signed+1) j9 W ((qa e8).new n).tabs hV j3 f m4 (by omega) hP.ok.loc hP.ok.rem
    have a6:=qgp false c.s.key c.s.ch (c.k.signed+1) z.loc z.rem z.xs;have g3:=qb g1;have e9:=qb j8;have keep:∀W,qu E.drew W→W.cell? ⟨g,35,none⟩=some (.string c.s.key)∧W.cell? ⟨g,0,none⟩=some (.int .u32 c.s.ch)∧W.cell? ⟨g,37,none⟩=some (.int .i64 (c.k.signed+1))∧zj W g 45 2=some #[.int .u64 z.loc,.int .u64 z.rem]∧W.cell? ⟨g,47,none⟩=some (.slice k4 z.xs.length d2):=by
     intro W n;have m2:=hP.new (((Upd.refl (fun _=>False) E).drew).trans n);exact⟨n.cell h2 (fun h=>h),n.cell d0 (fun h=>h),n.cell d5 (fun h=>h),m2.base,n.cell f2 (fun h=>h)⟩
    have U:=qb keep;have h9:=keep E.drew (Upd.refl _ _);clear hP g1 j8 keep h2 d0 d5 dB f2;generalize qbo false c.s.key c.s.ch (c.k.signed+1) z.loc z.rem z.xs=T at *
    go_cut [4] from 48 to 72 (fun hv wx=>∃H,hv = .pointer (some ⟨H,0,none⟩)∧E.heap.size≤H∧HsB wx H T∧qu E wx)
    case first =>
     refine qaw (fun w'=>w'.cell? ⟨g,35,none⟩=some (.string c.s.key)∧w'.cell? ⟨g,0,none⟩=some (.int .u32 c.s.ch)∧w'.cell? ⟨g,37,none⟩=some (.int .i64 (c.k.signed+1))∧zj w' g 45 2=some #[.int .u64 z.loc,.int .u64 z.rem]∧w'.cell? ⟨g,47,none⟩=some (.slice k4 z.xs.length d2)) [4,9,14,18,22]
      (Plan.pre [0,1,2,3,4,5,6,7,8,9,10,11,12,13,14,15,16,17,18,19,20,21,22] (.fork (.step 23 (.fork (.of [24,25,26]) (.of [25,24,26]))) (.of [25,23,24,26]))) (by kernel_rfl) (by kernel_rfl) h9 ?_
     simp only[Plan.of,Plan.pre];go_wp2_with ((with_reducible first|rfl|refine' ut ?_ ?_;rotate_left|refine' uu ?_)<;>intros);have nd:qu E E.drew:=(Upd.refl _ _).drew;refine qf ?_ ?_
     ·go_wp2_with ((with_reducible first|rfl|refine' ut ?_ ?_;rotate_left|refine' uu ?_)<;>intros);refine(qa g3 E.drew nd).mono ?_;rintro e wa ⟨V,rfl,na,hV⟩;go_wp2_with ((with_reducible first|rfl|refine' ut ?_ ?_;rotate_left|refine' uu ?_)<;>intros);refine⟨qa U _ na,?_⟩;refine qf ?_ ?_
      ·go_wp2_with ((with_reducible first|rfl|refine' ut ?_ ?_;rotate_left|refine' uu ?_)<;>intros);refine(qa e9 wa (nd.trans na) V hV).mono ?_;rintro e wb ⟨rfl,nb⟩;obtain⟨O,I,nF⟩:=qg0 wb T a6;have R:=qb I;have NF:=qb (((nd.trans na).trans nb).trans nF);have q:qu wb (wb.alloc (.cells (qs ze).toArray 35)):=(Upd.refl _ _).alloc _;have hK:=qb (qa U _ ((na.trans nb).trans q));have Y:E.heap.size≤wb.heap.size:=((nd.trans na).trans nb).size;clear I nF q nb;go_wp2_with ((with_reducible first|rfl|refine' ut ?_ ?_;rotate_left|refine' uu ?_)<;>intros);refine⟨qa hK,?_⟩;go_wp2_with ((with_reducible first|rfl|refine' ut ?_ ?_;rotate_left|refine' uu ?_)<;>intros);go_meet
       case rel=>exact⟨_,rfl,Y,qa R,qa NF⟩
      ·have q:qu wa (wa.alloc (.cells (qs ze).toArray 35)):=(Upd.refl _ _).alloc _;have C:=qb4 wa ze ql;have Y:E.heap.size≤wa.heap.size:=(nd.trans na).size;go_wp2_with ((with_reducible first|rfl|refine' ut ?_ ?_;rotate_left|refine' uu ?_)<;>intros);refine⟨qa U _ (na.trans q),?_⟩;generalize wa.alloc (.cells (qs ze).toArray 35)=wc at q C ⊢;generalize wa.heap.size=H at C Y ⊢;have b5:=qb C;clear C;go_wp2_with ((with_reducible first|rfl|refine' ut ?_ ?_;rotate_left|refine' uu ?_)<;>intros);refine(qa e9 wc ((nd.trans na).trans q) V (hV.new q)).mono ?_;rintro e wb ⟨rfl,nb⟩;have N:=(qa b5).new nb;have O:=N.stOk T a6;have R:=qb (N.put T a6);have NF:=qb ((((nd.trans na).trans q).trans nb).then (qx (w:=wb) (b:=H) (qs T)) (fun i hi e=>by omega));clear N nb;go_wp2_with ((with_reducible first|rfl|refine' ut ?_ ?_;rotate_left|refine' uu ?_)<;>intros);go_meet
       case rel=>exact⟨_,rfl,Y,qa R,qa NF⟩
     ·have q:qu E.drew (E.drew.alloc (.cells (qs ze).toArray 35)):=(Upd.refl _ _).alloc _;have P:qu E.drew (E.alloc (.cells (qs ze).toArray 35)).drew:=q;have C:HsB (E.alloc (.cells (qs ze).toArray 35)).drew E.heap.size ze:=(qb4 E ze ql).new ((Upd.refl _ _).drew);have Y:E.heap.size≤E.heap.size:=Nat.le_refl _;go_wp2_with ((with_reducible first|rfl|refine' ut ?_ ?_;rotate_left|refine' uu ?_)<;>intros);refine⟨qa U _ P,?_⟩;generalize (E.alloc (.cells (qs ze).toArray 35)).drew=wc at P C ⊢;generalize hH:E.heap.size=H at C ⊢;rw[hH] at Y;have b5:=qb C;clear C q;go_wp2_with ((with_reducible first|rfl|refine' ut ?_ ?_;rotate_left|refine' uu ?_)<;>intros);refine(qa g3 wc (nd.trans P)).mono ?_;rintro e wa ⟨V,rfl,na,hV⟩;have N:=(qa b5).new na;go_wp2_with ((with_reducible first|rfl|refine' ut ?_ ?_;rotate_left|refine' uu ?_)<;>intros);refine⟨qa U _ (P.trans na),?_⟩;have k9:=qb N;clear N;go_wp2_with ((with_reducible first|rfl|refine' ut ?_ ?_;rotate_left|refine' uu ?_)<;>intros);refine(qa e9 wa ((nd.trans P).trans na) V hV).mono ?_;rintro e wb ⟨rfl,nb⟩;have f7:=(qa k9).new nb;have O:=f7.stOk T a6;have R:=qb (f7.put T a6);have NF:=qb ((((nd.trans P).trans na).trans nb).then (qx (w:=wb) (b:=H) (qs T)) (fun i hi e=>by omega));clear f7 nb;go_wp2_with ((with_reducible first|rfl|refine' ut ?_ ?_;rotate_left|refine' uu ?_)<;>intros);go_meet
      case rel=>exact⟨_,rfl,Nat.le_of_eq hH,qa R,qa NF⟩
    case rest =>
     obtain⟨H,rfl,hH,f5,n7⟩:=hcut;obtain⟨F,rfl⟩:∃F:World,F=wc:=⟨_,rfl⟩;clear h9;have c4:=(qa H6).new n7;have U7:=qb ((qa U6).trans (n7.mono (T:=S) (fun _ _ h=>h.elim)));have i5:=qb ((qa i4).new n7);have n0:=qb n7.size;have d5:F.drew.cell? ⟨g,37,none⟩=some (.int .i64 (c.k.signed+1)):=by rw[←d8];exact c4.toR.signed
     have dH:zj F.drew H 0 32=some (qs T).toArray:=f5.row;have m3:=fun W=>qwe 6 (c.k.signed+1) T a6 W
     rw[←qa g5] at m3;have e6:(qcm c).hash.length=32:=by rw[qa g5];exact a6
     have f9:z.news.length<1000000:=by rw[j7];exact i7
     have c8:=fun W (n:qu F W)=>qnp g (Fr S Z J) z (qcm c) e6 W ⟨d9,k7,g8,c4.new n⟩ f9
     rw[d1] at c8;have c7:((qcm c).on c.s.ch).hash.length=32:=by rw[q90];exact e6
     have e1:=qb c8;have f4:F.drew.cell? ⟨g,37,none⟩=some (.int .i64 (c.k.signed+1))∧zj F.drew H 0 32=some (qs T).toArray:=⟨d5,dH⟩;have p2:g<F.heap.size:=zr c4.at_;have j1:∀k,Fr S Z J k→k<F.heap.size:=c4.lt;clear c4 c8;generalize qcm c=m at *
     generalize p4:m.on c.s.ch=mo at *
     go_upto_region 9 with fail
     go_cut [5] from 73 to 81 (fun hv wx=>∃M,hv = .pointer (some ⟨M,0,none⟩)∧F.heap.size≤M∧MsB wx M mo∧ChS wx g (Fr (Fr S Z J) F wx) (z.say m)∧Upd (Fr S Z J) F wx)
     case first =>
      refine qaw (fun w'=>w'.cell? ⟨g,37,none⟩=some (.int .i64 (c.k.signed+1))∧zj w' H 0 32=some (qs T).toArray) [5,6] (.fork (Plan.pre [0,1,2,3,4,5,6,7] (.of [8,9,10])) (Plan.pre [9,0,1,2,3,4,5,6,7] (.of [8,10]))) (by kernel_rfl) (by kernel_rfl) f4 ?_;simp only[Plan.of,Plan.pre];have n5:qu F F.drew:=(Upd.refl _ _).drew;have l8:∀k,Fr S Z J k→k≠H:=fun k f e=>by
       have h6:=(qa H6).lt k f;omega
      refine qf ?_ ?_
      ·go_wp2_with ((with_reducible first|rfl|refine' ut ?_ ?_;rotate_left|refine' uu ?_)<;>intros);refine(qa e1 F.drew n5).mono ?_;rintro e wa ⟨rfl,⟨n4,n6,l3,f6⟩,ua⟩;have e0:Upd (Fr S Z J) F wa:=ua.ofDrew;have i0:=f5.upd e0 (fun f=>l8 H f rfl);have c6:ChS wa g (Fr (Fr S Z J) F wa) (z.say m):=⟨n4,n6,l3,f6⟩;have b6:wa.cell? ⟨g,37,none⟩=some (.int .i64 (c.k.signed+1)):=by rw[←d8];exact f6.toR.signed
       obtain⟨O,I,nF⟩:=qi3 wa mo c7;have q:qu wa (wa.alloc (.cells MsgV.zero.cells.toArray 101)):=(Upd.refl _ _).alloc _;have l9:=qb (And.intro (q.cell b6 (fun h=>h)) (i0.new q).row);have R:=qb I;have HC:=qb ((c6.new nF).grow nF.size);have HU:=qb (e0.trans (nF.mono (T:=Fr S Z J) (fun _ _ h=>h.elim)));have Y:F.heap.size≤wa.heap.size:=e0.size;clear I nF q c6 f6 ua e0 b6 i0;go_wp2_with ((with_reducible first|rfl|refine' ut ?_ ?_;rotate_left|refine' uu ?_)<;>intros);refine⟨qa l9,?_⟩;go_wp2_with ((with_reducible first|rfl|refine' ut ?_ ?_;rotate_left|refine' uu ?_)<;>intros);go_meet
       case rel=>exact⟨_,rfl,Y,qa R,qa HC,qa HU⟩
      ·have q:qu F (F.alloc (.cells MsgV.zero.cells.toArray 101)).drew:=((Upd.refl _ _).alloc _).drew;have C:MsB (F.alloc (.cells MsgV.zero.cells.toArray 101)).drew F.heap.size MsgV.zero:=(qan F MsgV.zero ql).new ((Upd.refl _ _).drew);have c3:=f5.new q;have b6:=q.cell (p:=⟨g,37,none⟩) f4.1 (fun h=>h);go_wp2_with ((with_reducible first|rfl|refine' ut ?_ ?_;rotate_left|refine' uu ?_)<;>intros);refine⟨⟨b6,c3.row⟩,?_⟩;have c0:=b6;have f3:=c3.row;generalize (F.alloc (.cells MsgV.zero.cells.toArray 101)).drew=wc at q C c3 c0 f3 ⊢;generalize m0:F.heap.size=M at C ⊢;have b5:=qb C;have o7:=qb c3;have p1:wc.cell? ⟨g,37,none⟩=some (.int .i64 (c.k.signed+1))∧zj wc H 0 32=some (qs T).toArray:=⟨c0,f3⟩;clear C c3 b6 c0 f3 f4;go_wp2_with ((with_reducible first|rfl|refine' ut ?_ ?_;rotate_left|refine' uu ?_)<;>intros);refine(qa e1 wc q).mono ?_;rintro e wa ⟨rfl,c6,ua⟩;have i1:∀k,Fr S Z J k→¬k=M:=fun k f e=>by
        have:=j1 k f;omega
       have o1:=(qa b5).lt;have N:=(qa b5).upd ua (fun f=>i1 M f rfl);have O:=N.stOk c7;have um:=qx (w:=wa) (b:=M) mo.cells;have R:=qb (N.put c7);have n3:=q.size;have e3:ChS (wa.setCells M 0 mo.cells) g (Fr (Fr S Z J) wc wa) (z.say m):=c6.upd um (fun k f e=>by
        rcases f with f | f
        ·exact i1 k f e
        ·omega)
       have e4:ChS (wa.setCells M 0 mo.cells) g (Fr (Fr S Z J) wc (wa.setCells M 0 mo.cells)) (z.say m):=e3.grow um.size;have HC:=qb (e4.later n3);clear e3 e4;have HU:=qb (((q.mono (T:=Fr S Z J) (fun _ _ h=>h.elim)).trans ua).then um (fun i hi e=>by omega));clear N c6 ua um;go_wp2_with ((with_reducible first|rfl|refine' ut ?_ ?_;rotate_left|refine' uu ?_)<;>intros);go_meet
       case rel=>exact⟨_,rfl,Nat.le_of_eq m0,qa R,qa HC,qa HU⟩
     case rest =>
      obtain⟨M,rfl,hM,i2,⟨k5,a7,f0,K⟩,u8⟩:=hcut;obtain⟨w8,rfl⟩:∃w8:World,w8=wc:=⟨_,rfl⟩;have h0:w8.cell? ⟨g,626,none⟩=some a7:=(qg K.at_ 626).trans (qoh _ k5 a7 f0 K.ok.s.seed K.ok.shelf);have n8:w8.cell? ⟨g,627,none⟩=some f0:=(qg K.at_ 627).trans (qog _ k5 a7 f0 K.ok.s.seed K.ok.shelf);have n9:w8.frozen? ⟨g,626,none⟩=false:=qo K.at_ 626;have o0:w8.frozen? ⟨g,627,none⟩=false:=qo K.at_ 627;have h7:=K.turn;obtain⟨k6,d3,b4⟩:=zv K.news;have b8:Upd (· = g) w8 ((w8.setCell ⟨g,627,none⟩ a7).setCell ⟨g,626,none⟩ qbw):=((Upd.refl _ _).set1 627 _).set1 626 _;have m5:M≠g:=by omega
      have e2:=i2.upd b8 m5;have i6:=(qa i5).upd u8 (fun f=>by
       rcases f with f | f
       ·exact d6 f
       ·have:=(qa HB).lt;have:=qa k3;omega)
      have c5:=i6.upd b8 (fun e=>i8 e.symm);have O:=c5.stOk c7;have rM:=e2.row;have R:=qb (c5.put c7);have uB:=qx (w:=(w8.setCell ⟨g,627,none⟩ a7).setCell ⟨g,626,none⟩ qbw) (b:=B) mo.cells;have p0:B<F.heap.size:=(qa i5).lt;have hz:=qa g6;have o4:=qa k3;have m9:=qa k0;have o5:=qa n0;have o8:=(qa HB).lt;have j0:∀k,Fr (Fr S Z J) F w8 k→Fr S w w8 k:=fun k f=>by
       rcases f with (f | f) | f
       ·exact .inl f
       ·exact .inr ⟨by omega,by have:=u8.size;omega⟩
       ·exact .inr ⟨by omega,f.2⟩
      have i3:=h7.upd uB (fun k f e=>by
       rcases f with (f | f) | f
       ·rw[e] at f;exact d6 f
       ·omega
       ·omega)
      have HC:=qb (i3.wider (T:=Fr S w (((w8.setCell ⟨g,627,none⟩ a7).setCell ⟨g,626,none⟩ qbw).setCells B 0 mo.cells)) (fun k f=>by
       rcases j0 k f with h | h
       ·exact .inl h
       ·exact .inr ⟨h.1,by have:=b8.size;have:=uB.size;omega⟩) (fun k f=>by
       rcases f with f | f
       ·have:=(qa H0).lt k f;have:=u8.size;have:=b8.size;have:=uB.size;omega
       ·exact f.2))
      have o3:=(qa U7).size;have v8:Upd S w w8:=(qa U7).then u8 (fun i hi f=>by
       rcases f with f | f
       ·exact f
       ·omega)
      have k8:Upd S w ((w8.setCell ⟨g,627,none⟩ a7).setCell ⟨g,626,none⟩ qbw):=v8.then b8 (fun i hi e=>by rw[e];exact(qa H0).inG);have HU:=qb (k8.then uB (fun i hi e=>by omega));rw[b4] at h0;have o2:=qb b4;rw[b4] at R HC HU O rM;unfold qbw at R HU O rM;have g2:ChS ((((w8.setCell ⟨g,627,none⟩ (.slice k6 (z.say m).news.length d3)).setCell ⟨g,626,none⟩ (.slice none 0 0))).setCells B 0 mo.cells) g (Fr S w ((((w8.setCell ⟨g,627,none⟩ (.slice k6 (z.say m).news.length d3)).setCell ⟨g,626,none⟩ (.slice none 0 0))).setCells B 0 mo.cells)) (z.say m).turned:=⟨_,_,_,qa HC⟩;have l0:=qb g2;clear g2 HC h7 b8 e2 i6 c5 uB i3 v8 k8 j0 K u8 i2 b4;go_wp2_with ((with_reducible first|rfl|refine' ut ?_ ?_;rotate_left|refine' uu ?_)<;>intros);have I:=qa R;refine bodyPost_ret (qw rfl _ _ B _ _ _ _ rfl I.at_ Tryz.underlying101 rfl (by rw[I.agg];exact Tryz.infoMsg)) rfl ?_;rw[qa g4];exact⟨rfl,qa l0,qa HU⟩
end Go.Proofs.YtfmkdoachjgjbaaGreatDoor
