/-
  Sign.
-/
import Derived.Test.YtfmkdoachjgjbaaGreatDoorMbg
import Derived.Test.YtfmkdoachjgjbaaGreatDoorMca
set_option maxRecDepth 100000
set_option maxHeartbeats 1000000
set_option linter.unusedVariables false
set_option linter.unusedSimpArgs false
namespace Go.Proofs.YtfmkdoachjgjbaaGreatDoor
open Go.RowKit
def Plan.pre:List Nat→Plan→Plan
 | [],p=>p
 | i::l,p=> .step i (Plan.pre l p)
attribute [local go_sem ↓ high] zl qag qaj qar qz zb ze zi qms
attribute [local go_sem] qbl qcl qcn qdm qx qax qay qa4 qab q59
def qek(c:Ch):Int:=if c.k.awaits=true then 5 else if qa9 1 c.xs=false then 5 else if c.k.signed=65535 then 2 else 0
def Ch.signing(c:Ch):Ch:= {c.goOn 1 with k:= {(c.goOn 1).k with signed:=c.k.signed+1,awaits:=true,revoked:=false}}
noncomputable def qcs(c:Ch):MsgV:=⟨6,0,0,0,qbi false c.s.key c.s.ch (c.k.signed+1) c.signing.loc c.signing.rem c.signing.xs,0,c.k.signed+1⟩
def Ch.turned(c:Ch):Ch:= {c with last:=c.news,news:=[]}
noncomputable def Ch.sign(c:Ch):Ch × MsgV × Int:=if qek c=0 then ((c.signing.say (qcs c)).turned,(qcs c).on c.s.ch,0) else (c,MsgV.zero,qek c)
theorem qvp{c:Ch}{e:Int}(h:qek c=e)(n:e≠0):c.sign=(c,MsgV.zero,e):=by unfold Ch.sign;rw[h,if_neg n]
theorem qh2(l:List Live):∀c:Ch,(l.foldl qcr c).k=c.k∧(l.foldl qcr c).s=c.s∧(l.foldl qcr c).news=c.news∧(l.foldl qcr c).last=c.last∧(l.foldl qcr c).shelf=c.shelf:=by
 induction l with
 | nil=>intro c;exact⟨rfl,rfl,rfl,rfl,rfl⟩
 | cons x l C =>
  intro c;rw[List.foldl_cons];obtain⟨a,b,d,e,f⟩:=C (qcr c x);have z:(qcr c x).k=c.k∧(qcr c x).s=c.s∧(qcr c x).news=c.news∧(qcr c x).last=c.last∧(qcr c x).shelf=c.shelf:=by
   unfold qcr;split
   ·unfold Ch.give;split<;>exact⟨rfl,rfl,rfl,rfl,rfl⟩
   ·exact⟨rfl,rfl,rfl,rfl,rfl⟩
  obtain⟨i,m,q,r,v⟩:=z;exact⟨a.trans i,b.trans m,d.trans q,e.trans r,f.trans v⟩
theorem q5o(c:Ch)(ev:Int):(c.goOn ev).k=c.k:=(qh2 _ c).1
theorem zbr(c:Ch)(ev:Int):(c.goOn ev).s=c.s:=(qh2 _ c).2.1
theorem q05(c:Ch)(ev:Int):(c.goOn ev).news=c.news:=(qh2 _ c).2.2.1
theorem ChP.turn{w:World}{g:Nat}{S:Nat→Prop}{c:Ch}{z f C:Value}(h:ChP w g S c z f C):ChP ((w.setCell ⟨g,627,none⟩ f).setCell ⟨g,626,none⟩ qcu) g S c.turned z qcu f:=by
 have u:Upd (· = g) w ((w.setCell ⟨g,627,none⟩ f).setCell ⟨g,626,none⟩ qcu):=((Upd.refl _ _).set1 627 _).set1 626 _;have E:∀ {T:TypeId} {v:Value} {n:Nat} {xs:List Value},T≠126→w.ownsRow 0 T 38 v n xs→∀k,v.ownBlock=some k→¬k=g:=by
  intro T v n xs H K k q e;obtain⟨F,I⟩:=qa3 K k q;exact qbe I h.at_ H e
 have r:=qad h.at_ 627 f;rw[q7h c z f C h.ok.s.seed h.ok.shelf c.news f] at r;have i:=qad r 626 qcu;rw[qvj ({c with last:=c.news} : Ch) z f f h.ok.s.seed h.ok.shelf [] qcu] at i;refine⟨i,⟨h.ok.s,h.ok.signed,h.ok.heard,h.ok.nextOwn,h.ok.nextTheirs,h.ok.loc,h.ok.rem,h.ok.xs,h.ok.few,h.ok.shelf,?_,h.ok.news,?_⟩,?_,?_,?_,h.inG,h.inL,?_,h.inN,?_,fun k q=>Nat.lt_of_lt_of_le (h.lt k q) u.size⟩
 ·intro m J;cases J
 ·exact⟨Nat.zero_le _,h.ok.many.1⟩
 ·exact qac h.live u (E (by decide) h.live)
 ·exact World.ownsRow_nil _ _ _ _
 ·exact qac h.news u (E (by decide) h.news)
 ·intro k q;simp[qcu,Value.ownBlock] at q
 ·intro k q;simp[qcu,Value.ownBlock] at q
theorem q9l(m:MsgV)(ch:Int):(m.on ch).hash=m.hash:=rfl
theorem q5n(c:Ch)(ev:Int):(c.goOn ev).xs.length≤c.xs.length:=by
 unfold Ch.goOn qet qae;exact Nat.le_trans (List.length_filter_le _ _) (by rw[List.length_map];exact Nat.le_refl _)
theorem q29(g:Nat)(S:Nat→Prop)(c:Ch)(w:World)(h:ChS w g S c)(hT:Tc w)(hS:ApC S)(f:c.s.key.size≤100000000)(m4:0≤c.s.ch∧c.s.ch<4294967296)(i7:c.news.length<1000000)(p6:c.xs.length≤16) :
  Calls Tryz.prog 75 #[.pointer (some ⟨g,0,none⟩)] w fun e w'=>e = .returned (.tuple #[.agg c.sign.2.1.cells.toArray,.int .i64 c.sign.2.2])∧ChS w' g (Fr S w w') c.sign.1∧Upd S w w':=by
 obtain⟨lv,nv,av,h⟩:=h
 go_enter Tryz.func75,Tryz.ntmps75
 go_upto_region 1 with fail
 have hB:=zt w MsgV.zero qm
 have n1:qq w (w.alloc (.cells MsgV.zero.cells.toArray 101)):=(Upd.refl _ _).alloc _
 generalize w.alloc (.cells MsgV.zero.cells.toArray 101)=w1 at hB n1 ⊢
 obtain⟨B,h8⟩:∃B,B=w.heap.size:=⟨_,rfl⟩
 rw[←h8] at hB ⊢
 have o9:w.heap.size≤B:=by omega
 have i8:g≠B:=by have:=h.lt g h.inG;omega
 have d6:¬S B:=fun e=>by have:=h.lt B e;omega
 clear h8
 have h1:=h.new n1
 have b9:w1.cell? ⟨g,39,none⟩=some (.bool c.k.awaits):=h1.toR.awaits
 have g9:w1.cell? ⟨g,47,none⟩=some lv:=h1.toR.live
 have j5:qek c=if c.k.awaits=true then 5 else if qa9 1 c.xs=false then 5 else if c.k.signed=65535 then 2 else 0:=rfl
 have p5:=h.ok.few
 have b3:=qmj lv c.xs 1 (by omega) w1 (hT.new n1).glob h1.toI.lives
 obtain⟨la,o6,m6⟩:=qaf h.live
 have K:=qb j5
 have H0:=qb h
 have H1:=qb h1
 have HB:=qb hB
 have N1:=qb n1
 have g7:=qb (hT.new n1)
 have m7:=h.ok.signed
 have bad:∀(W:World) (e:Int),qq w1 W→qek c=e→e≠0 →
   stOk W B 0 38 MsgV.zero.cells.toArray=true∧MsB (W.setCells B 0 MsgV.zero.cells) B MsgV.zero∧c.sign=(c,MsgV.zero,e)∧ChS (W.setCells B 0 MsgV.zero.cells) g (Fr S w (W.setCells B 0 MsgV.zero.cells)) c∧Upd S w (W.setCells B 0 MsgV.zero.cells):=by
  intro W e nW hs he
  have hb:=hB.new nW
  have u:=zc (w:=W) (b:=B) MsgV.zero.cells
  exact⟨hb.stOk qm,hb.put qm,qvp hs he,((h1.new nW).upd u (fun k f e=>by rw[e] at f;exact d6 f)).fr w,((n1.trans nW).mono (T:=S) (fun _ _ h=>h.elim)).then u (fun i hi e=>by omega)⟩
 have a8:=qb bad
 clear j5 h h1 hB n1 hT bad
 cases ha:c.k.awaits with
 | true =>
  rw[ha,if_pos rfl] at K;rw[ha] at b9;obtain⟨N,F,hE,hC,hU⟩:=qa a8 w1 5 (Upd.refl _ _) (qa K) (by decide);have P:=qb F;have HE:=qb hE;have HC:=qb hC;have HU:=qb hU;clear F hE hC hU b3;go_wp2_with (with_reducible first|(first|refine' tw1 (qh ?_) ?_|refine' tw2 (qh ?_) ?_);rotate_left|refine' tw3 (qh ?_)|rfl|apply tn|refine' tw4 ?_);have F:=qa P;refine bodyPost_ret (qy rfl _ _ B _ _ _ _ rfl F.at_ Tryz.underlying101 rfl (by rw[F.agg];exact Tryz.infoMsg)) rfl ?_;rw[qa HE];exact⟨rfl,qa HC,qa HU⟩
 | false =>
  rw[ha,if_neg (by decide)] at K;rw[ha] at b9;rw[m6] at g9 b3;go_wp2_with (with_reducible first|(first|refine' tw1 (qh ?_) ?_|refine' tw2 (qh ?_) ?_);rotate_left|refine' tw3 (qh ?_)|rfl|apply tn|refine' tw4 ?_);refine b3.mono ?_;rintro e Y ⟨rfl,n2⟩;clear b3 b9 g9;cases hc:qa9 1 c.xs with
  | false =>
   rw[hc,if_pos rfl] at K;obtain⟨N,F,hE,hC,hU⟩:=qa a8 Y 5 n2 (qa K) (by decide);have P:=qb F;have HE:=qb hE;have HC:=qb hC;have HU:=qb hU;clear F hE hC hU n2;go_wp2_with (with_reducible first|(first|refine' tw1 (qh ?_) ?_|refine' tw2 (qh ?_) ?_);rotate_left|refine' tw3 (qh ?_)|rfl|apply tn|refine' tw4 ?_);have F:=qa P;refine bodyPost_ret (qy rfl _ _ B _ _ _ _ rfl F.at_ Tryz.underlying101 rfl (by rw[F.agg];exact Tryz.infoMsg)) rfl ?_;rw[qa HE];exact⟨rfl,qa HC,qa HU⟩
  | true =>
   rw[hc,if_neg (by decide)] at K;have f1:Y.cell? ⟨g,37,none⟩=some (.int .i64 c.k.signed):=((qa H1).new n2).toR.signed;by_cases d7:c.k.signed=65535
   ·rw[if_pos d7] at K;obtain⟨N,F,hE,hC,hU⟩:=qa a8 Y 2 n2 (qa K) (by decide);have P:=qb F;have HE:=qb hE;have HC:=qb hC;have HU:=qb hU;rw[d7] at f1;clear F hE hC hU n2 d7 m7;go_wp2_with (with_reducible first|(first|refine' tw1 (qh ?_) ?_|refine' tw2 (qh ?_) ?_);rotate_left|refine' tw3 (qh ?_)|rfl|apply tn|refine' tw4 ?_);have F:=qa P;refine bodyPost_ret (qy rfl _ _ B _ _ _ _ rfl F.at_ Tryz.underlying101 rfl (by rw[F.agg];exact Tryz.infoMsg)) rfl ?_;rw[qa HE];exact⟨rfl,qa HC,qa HU⟩
   ·rw[if_neg d7] at K;have c9:c.sign=((c.signing.say (qcs c)).turned,(qcs c).on c.s.ch,0):=by unfold Ch.sign;rw[if_pos (qa K)]
    have g4:=qb c9;have i9:=qkv g S c 1 Y ⟨lv,nv,av,(qa H1).new n2⟩ ((qa g7).new n2).glob;have N2:=qb n2;clear c9 a8 n2;go_wp2_with (with_reducible first|(first|refine' tw1 (qh ?_) ?_|refine' tw2 (qh ?_) ?_);rotate_left|refine' tw3 (qh ?_)|rfl|apply tn|refine' tw4 ?_);refine i9.mono ?_;rintro e I ⟨rfl,⟨d9,k7,g8,h3⟩,u3⟩;obtain⟨c1,b7⟩:∃c1,c1=c.goOn 1:=⟨_,rfl⟩;have g0:c1.k=c.k:=by rw[b7];exact q5o c 1
    have j4:c1.s=c.s:=by rw[b7];exact zbr c 1
    have j2:c1.news=c.news:=by rw[b7];exact q05 c 1
    rw[←b7] at h3;have f1:I.cell? ⟨g,37,none⟩=some (.int .i64 c.k.signed):=by rw[←g0];exact h3.toR.signed
    have l5:I.frozen? ⟨g,37,none⟩=false:=qv h3.at_ 37;have m8:IntKind.i64.wrap (c.k.signed+1)=c.k.signed+1:=qjj (by omega) (by omega);have h4:=h3.putSigned (c.k.signed+1) (by omega);have u4:=qpl I g 37 (.int .i64 (c.k.signed+1));have b9:(I.setCell ⟨g,37,none⟩ (.int .i64 (c.k.signed+1))).cell? ⟨g,39,none⟩=some (.bool false):=by
     have:=h4.toR.awaits;rw[show (({c1 with k:= {c1.k with signed:=c.k.signed+1}} : Ch).v d9 k7 g8).k.awaits=c1.k.awaits from rfl,g0,ha] at this;exact this
    have l6:(I.setCell ⟨g,37,none⟩ (.int .i64 (c.k.signed+1))).frozen? ⟨g,39,none⟩=false:=qv h4.at_ 39;have h5:=h4.putAwaits true;have u5:=qpl (I.setCell ⟨g,37,none⟩ (.int .i64 (c.k.signed+1))) g 39 (.bool true);have l4:((I.setCell ⟨g,37,none⟩ (.int .i64 (c.k.signed+1))).setCell ⟨g,39,none⟩ (.bool true)).cell? ⟨g,44,none⟩=some (.bool c1.k.revoked):=h5.toR.revoked;have l7:((I.setCell ⟨g,37,none⟩ (.int .i64 (c.k.signed+1))).setCell ⟨g,39,none⟩ (.bool true)).frozen? ⟨g,44,none⟩=false:=qv h5.at_ 44;have h6:=h5.putRevoked false;have u6:=qpl ((I.setCell ⟨g,37,none⟩ (.int .i64 (c.k.signed+1))).setCell ⟨g,39,none⟩ (.bool true)) g 44 (.bool false);have U:c.signing = {c1 with k:= {c1.k with signed:=c.k.signed+1,awaits:=true,revoked:=false}} := by unfold Ch.signing;rw[b7]
    rw[←U] at h6;have d4:Upd (· = g) I (((I.setCell ⟨g,37,none⟩ (.int .i64 (c.k.signed+1))).setCell ⟨g,39,none⟩ (.bool true)).setCell ⟨g,44,none⟩ (.bool false)):=(u4.trans u5).trans u6;have U6:=qb (((((qa N1).trans (qa N2)).mono (T:=S) (fun _ _ h=>h.elim)).trans u3).trans (d4.mono (fun k _ e=>by rw[e];exact(qa H0).inG)));have i4:=qb ((((qa HB).new (qa N2)).upd u3 d6).upd d4 (fun e=>i8 e.symm));have g6:=qb (And.intro u3.size d4.size);have k0:=qb ((qa N1).size);have k3:=qb ((qa N2).size);have e8:=qb ((((qa g7).new (qa N2)).upd u3 hS).upd (d4.mono (T:=S) (fun k _ e=>by rw[e];exact(qa H0).inG)) hS);have H6:=qb h6;have d1:c.signing.s=c.s:=by rw[U];exact j4
    have j7:c.signing.news=c.news:=by rw[U];exact j2
    have d8:c.signing.k.signed=c.k.signed+1:=by rw[U]
    have e7:c.signing.xs.length≤19:=by have:=q5n c 1;show (c.goOn 1).xs.length≤19;omega
    clear h3 h4 h5 h6 u3 u4 u5 u6 d4 U;go_upto_region 8 with (with_reducible first|(first|refine' tw1 (qh ?_) ?_|refine' tw2 (qh ?_) ?_);rotate_left|refine' tw3 (qh ?_)|rfl|apply tn|refine' tw4 ?_);clear f1 l5 b9 l6 l4 l7 i9 m8;generalize ((I.setCell ⟨g,37,none⟩ (.int .i64 (c.k.signed+1))).setCell ⟨g,39,none⟩ (.bool true)).setCell ⟨g,44,none⟩ (.bool false)=C at U6 i4 g6 e8 H6 ⊢;obtain⟨r,f8⟩:∃r,r=c.signing:=⟨_,rfl⟩;have j6:qcs c=⟨6,0,0,0,qbi false c.s.key c.s.ch (c.k.signed+1) r.loc r.rem r.xs,0,c.k.signed+1⟩:=by rw[f8];rfl
    rw[←f8] at H6 d1 j7 d8 g4 e7;have g5:=qb j6;clear b7 g0 j4 j2 j6 f8 c1;have hP:=qa H6;have j9:r.xs.length≤1000000:=hP.ok.few;obtain⟨k4,d2,e5⟩:=qaf hP.live;have j3:=hP.ok.xs;have h2:C.drew.cell? ⟨g,35,none⟩=some (.string c.s.key):=by rw[←d1];exact hP.key
    have d0:C.drew.cell? ⟨g,0,none⟩=some (.int .u32 c.s.ch):=by rw[←d1];exact hP.toR.ch
    have d5:C.drew.cell? ⟨g,37,none⟩=some (.int .i64 (c.k.signed+1)):=by rw[←d8];exact hP.toR.signed
    have dB:zf C.drew g 45 2=some #[.int .u64 r.loc,.int .u64 r.rem]:=hP.base;have f2:C.drew.cell? ⟨g,47,none⟩=some d9:=hP.toR.live;rw[e5] at f2;have g1:=fun W (n:qq C W)=>qu0 false r.loc r.rem d9 r.xs e7 W ((qa e8).new n).spans (hP.toI.lives.new n)
    rw[e5] at g1;have p3:r.s.key.size≤100000000:=by rw[d1];exact f
    have j8:=fun W (n:qq C W) V (hV:ViewO false r.loc r.rem r.xs W V)=>qq9 false r.loc r.rem V r.xs c.s.key c.s.ch (c.k.signed+1) j9 W ((qa e8).new n).tabs hV j3 f m4 (by omega) hP.ok.loc hP.ok.rem
    have a6:=qgr false c.s.key c.s.ch (c.k.signed+1) r.loc r.rem r.xs;have g3:=qb g1;have e9:=qb j8;have keep:∀W,qq C.drew W→W.cell? ⟨g,35,none⟩=some (.string c.s.key)∧W.cell? ⟨g,0,none⟩=some (.int .u32 c.s.ch)∧W.cell? ⟨g,37,none⟩=some (.int .i64 (c.k.signed+1))∧zf W g 45 2=some #[.int .u64 r.loc,.int .u64 r.rem]∧W.cell? ⟨g,47,none⟩=some (.slice k4 r.xs.length d2):=by
     intro W n;have m2:=hP.new (((Upd.refl (fun _=>False) C).drew).trans n);exact⟨n.cell h2 (fun h=>h),n.cell d0 (fun h=>h),n.cell d5 (fun h=>h),m2.base,n.cell f2 (fun h=>h)⟩
    have R:=qb keep;have h9:=keep C.drew (Upd.refl _ _);clear hP g1 j8 keep h2 d0 d5 dB f2;generalize qbi false c.s.key c.s.ch (c.k.signed+1) r.loc r.rem r.xs=T at *
    go_cut [4] from 48 to 72 (fun hv wx=>∃H,hv = .pointer (some ⟨H,0,none⟩)∧C.heap.size≤H∧HsB wx H T∧qq C wx)
    case first =>
     refine qa1 (fun w'=>w'.cell? ⟨g,35,none⟩=some (.string c.s.key)∧w'.cell? ⟨g,0,none⟩=some (.int .u32 c.s.ch)∧w'.cell? ⟨g,37,none⟩=some (.int .i64 (c.k.signed+1))∧zf w' g 45 2=some #[.int .u64 r.loc,.int .u64 r.rem]∧w'.cell? ⟨g,47,none⟩=some (.slice k4 r.xs.length d2)) [4,9,14,18,22]
      (Plan.pre [0,1,2,3,4,5,6,7,8,9,10,11,12,13,14,15,16,17,18,19,20,21,22] (.fork (.step 23 (.fork (.of [24,25,26]) (.of [25,24,26]))) (.of [25,23,24,26]))) (by kernel_rfl) (by kernel_rfl) h9 ?_
     simp only[Plan.of,Plan.pre];go_wp2_with (with_reducible first|(first|refine' zv (qh ?_) ?_|refine' zx (qh ?_) ?_|refine' zy (qh ?_) ?_);rotate_left|refine' zz (qh ?_)|refine' qw5 (qh ?_)|rfl|apply qn);have nd:qq C C.drew:=(Upd.refl _ _).drew;refine qf ?_ ?_
     ·go_wp2_with (with_reducible first|(first|refine' zv (qh ?_) ?_|refine' zx (qh ?_) ?_|refine' zy (qh ?_) ?_);rotate_left|refine' zz (qh ?_)|refine' qw5 (qh ?_)|rfl|apply qn);refine(qa g3 C.drew nd).mono ?_;rintro e wa ⟨V,rfl,na,hV⟩;go_wp2_with (with_reducible first|(first|refine' zv (qh ?_) ?_|refine' zx (qh ?_) ?_|refine' zy (qh ?_) ?_);rotate_left|refine' zz (qh ?_)|refine' qw5 (qh ?_)|rfl|apply qn);refine⟨qa R _ na,?_⟩;refine qf ?_ ?_
      ·go_wp2_with (with_reducible first|(first|refine' zv (qh ?_) ?_|refine' zx (qh ?_) ?_|refine' zy (qh ?_) ?_);rotate_left|refine' zz (qh ?_)|refine' qw5 (qh ?_)|rfl|apply qn);refine(qa e9 wa (nd.trans na) V hV).mono ?_;rintro e wb ⟨rfl,nb⟩;obtain⟨N,F,nF⟩:=qg6 wb T a6;have P:=qb F;have NF:=qb (((nd.trans na).trans nb).trans nF);have q:qq wb (wb.alloc (.cells (qu zg).toArray 35)):=(Upd.refl _ _).alloc _;have hK:=qb (qa R _ ((na.trans nb).trans q));have X:C.heap.size≤wb.heap.size:=((nd.trans na).trans nb).size;clear F nF q nb;go_wp2_with (with_reducible first|(first|refine' zv (qh ?_) ?_|refine' zx (qh ?_) ?_|refine' zy (qh ?_) ?_);rotate_left|refine' zz (qh ?_)|refine' qw5 (qh ?_)|rfl|apply qn);refine⟨qa hK,?_⟩;go_wp2_with (with_reducible first|(first|refine' zv (qh ?_) ?_|refine' zx (qh ?_) ?_|refine' zy (qh ?_) ?_);rotate_left|refine' zz (qh ?_)|refine' qw5 (qh ?_)|rfl|apply qn);go_meet
       case rel=>exact⟨_,rfl,X,qa P,qa NF⟩
      ·have q:qq wa (wa.alloc (.cells (qu zg).toArray 35)):=(Upd.refl _ _).alloc _;have z:=qb7 wa zg qm;have X:C.heap.size≤wa.heap.size:=(nd.trans na).size;go_wp2_with (with_reducible first|(first|refine' zv (qh ?_) ?_|refine' zx (qh ?_) ?_|refine' zy (qh ?_) ?_);rotate_left|refine' zz (qh ?_)|refine' qw5 (qh ?_)|rfl|apply qn);refine⟨qa R _ (na.trans q),?_⟩;generalize wa.alloc (.cells (qu zg).toArray 35)=wc at q z ⊢;generalize wa.heap.size=H at z X ⊢;have b5:=qb z;clear z;go_wp2_with (with_reducible first|(first|refine' zv (qh ?_) ?_|refine' zx (qh ?_) ?_|refine' zy (qh ?_) ?_);rotate_left|refine' zz (qh ?_)|refine' qw5 (qh ?_)|rfl|apply qn);refine(qa e9 wc ((nd.trans na).trans q) V (hV.new q)).mono ?_;rintro e wb ⟨rfl,nb⟩;have L:=(qa b5).new nb;have N:=L.stOk T a6;have P:=qb (L.put T a6);have NF:=qb ((((nd.trans na).trans q).trans nb).then (zc (w:=wb) (b:=H) (qu T)) (fun i hi e=>by omega));clear L nb;go_wp2_with (with_reducible first|(first|refine' zv (qh ?_) ?_|refine' zx (qh ?_) ?_|refine' zy (qh ?_) ?_);rotate_left|refine' zz (qh ?_)|refine' qw5 (qh ?_)|rfl|apply qn);go_meet
       case rel=>exact⟨_,rfl,X,qa P,qa NF⟩
     ·have q:qq C.drew (C.drew.alloc (.cells (qu zg).toArray 35)):=(Upd.refl _ _).alloc _;have O:qq C.drew (C.alloc (.cells (qu zg).toArray 35)).drew:=q;have z:HsB (C.alloc (.cells (qu zg).toArray 35)).drew C.heap.size zg:=(qb7 C zg qm).new ((Upd.refl _ _).drew);have X:C.heap.size≤C.heap.size:=Nat.le_refl _;go_wp2_with (with_reducible first|(first|refine' zv (qh ?_) ?_|refine' zx (qh ?_) ?_|refine' zy (qh ?_) ?_);rotate_left|refine' zz (qh ?_)|refine' qw5 (qh ?_)|rfl|apply qn);refine⟨qa R _ O,?_⟩;generalize (C.alloc (.cells (qu zg).toArray 35)).drew=wc at O z ⊢;generalize hH:C.heap.size=H at z ⊢;rw[hH] at X;have b5:=qb z;clear z q;go_wp2_with (with_reducible first|(first|refine' zv (qh ?_) ?_|refine' zx (qh ?_) ?_|refine' zy (qh ?_) ?_);rotate_left|refine' zz (qh ?_)|refine' qw5 (qh ?_)|rfl|apply qn);refine(qa g3 wc (nd.trans O)).mono ?_;rintro e wa ⟨V,rfl,na,hV⟩;have L:=(qa b5).new na;go_wp2_with (with_reducible first|(first|refine' zv (qh ?_) ?_|refine' zx (qh ?_) ?_|refine' zy (qh ?_) ?_);rotate_left|refine' zz (qh ?_)|refine' qw5 (qh ?_)|rfl|apply qn);refine⟨qa R _ (O.trans na),?_⟩;have k9:=qb L;clear L;go_wp2_with (with_reducible first|(first|refine' zv (qh ?_) ?_|refine' zx (qh ?_) ?_|refine' zy (qh ?_) ?_);rotate_left|refine' zz (qh ?_)|refine' qw5 (qh ?_)|rfl|apply qn);refine(qa e9 wa ((nd.trans O).trans na) V hV).mono ?_;rintro e wb ⟨rfl,nb⟩;have f7:=(qa k9).new nb;have N:=f7.stOk T a6;have P:=qb (f7.put T a6);have NF:=qb ((((nd.trans O).trans na).trans nb).then (zc (w:=wb) (b:=H) (qu T)) (fun i hi e=>by omega))
      clear f7 nb;go_wp2_with (with_reducible first|(first|refine' zv (qh ?_) ?_|refine' zx (qh ?_) ?_|refine' zy (qh ?_) ?_);rotate_left|refine' zz (qh ?_)|refine' qw5 (qh ?_)|rfl|apply qn);go_meet
      case rel=>exact⟨_,rfl,Nat.le_of_eq hH,qa P,qa NF⟩
    case rest =>
     obtain⟨H,rfl,hH,f5,n7⟩:=hcut;obtain⟨E,rfl⟩:∃E:World,E=wc:=⟨_,rfl⟩;clear h9;have c4:=(qa H6).new n7;have U7:=qb ((qa U6).trans (n7.mono (T:=S) (fun _ _ h=>h.elim)));have i5:=qb ((qa i4).new n7);have n0:=qb n7.size;have d5:E.drew.cell? ⟨g,37,none⟩=some (.int .i64 (c.k.signed+1)):=by rw[←d8];exact c4.toR.signed
     have dH:zf E.drew H 0 32=some (qu T).toArray:=f5.row;have m3:=fun W=>qwc 6 (c.k.signed+1) T a6 W
     rw[←qa g5] at m3;have e6:(qcs c).hash.length=32:=by rw[qa g5];exact a6
     have f9:r.news.length<1000000:=by rw[j7];exact i7
     have c8:=fun W (n:qq E W)=>qnx g (Fr S Y I) r (qcs c) e6 W ⟨d9,k7,g8,c4.new n⟩ f9
     rw[d1] at c8;have c7:((qcs c).on c.s.ch).hash.length=32:=by rw[q9l];exact e6
     have e1:=qb c8;have f4:E.drew.cell? ⟨g,37,none⟩=some (.int .i64 (c.k.signed+1))∧zf E.drew H 0 32=some (qu T).toArray:=⟨d5,dH⟩;have p2:g<E.heap.size:=zr c4.at_;have j1:∀k,Fr S Y I k→k<E.heap.size:=c4.lt;clear c4 c8;generalize qcs c=m at *
     generalize p4:m.on c.s.ch=mo at *
     go_upto_region 9 with fail
     go_cut [5] from 73 to 81 (fun hv wx=>∃M,hv = .pointer (some ⟨M,0,none⟩)∧E.heap.size≤M∧MsB wx M mo∧ChS wx g (Fr (Fr S Y I) E wx) (r.say m)∧Upd (Fr S Y I) E wx)
     case first =>
      refine qa1 (fun w'=>w'.cell? ⟨g,37,none⟩=some (.int .i64 (c.k.signed+1))∧zf w' H 0 32=some (qu T).toArray) [5,6] (.fork (Plan.pre [0,1,2,3,4,5,6,7] (.of [8,9,10])) (Plan.pre [9,0,1,2,3,4,5,6,7] (.of [8,10]))) (by kernel_rfl) (by kernel_rfl) f4 ?_;simp only[Plan.of,Plan.pre];have n5:qq E E.drew:=(Upd.refl _ _).drew;have l8:∀k,Fr S Y I k→k≠H:=fun k f e=>by
       have h6:=(qa H6).lt k f;omega
      refine qf ?_ ?_
      ·go_wp2_with (with_reducible first|(first|refine' zv (qh ?_) ?_|refine' zx (qh ?_) ?_|refine' zy (qh ?_) ?_);rotate_left|refine' zz (qh ?_)|refine' qw5 (qh ?_)|rfl|apply qn);refine(qa e1 E.drew n5).mono ?_;rintro e wa ⟨rfl,⟨n4,n6,l3,f6⟩,ua⟩;have e0:Upd (Fr S Y I) E wa:=ua.ofDrew;have i0:=f5.upd e0 (fun f=>l8 H f rfl);have c6:ChS wa g (Fr (Fr S Y I) E wa) (r.say m):=⟨n4,n6,l3,f6⟩;have b6:wa.cell? ⟨g,37,none⟩=some (.int .i64 (c.k.signed+1)):=by rw[←d8];exact f6.toR.signed
       obtain⟨N,F,nF⟩:=qi7 wa mo c7;have q:qq wa (wa.alloc (.cells MsgV.zero.cells.toArray 101)):=(Upd.refl _ _).alloc _;have l9:=qb (And.intro (q.cell b6 (fun h=>h)) (i0.new q).row);have P:=qb F;have HC:=qb ((c6.new nF).grow nF.size);have HU:=qb (e0.trans (nF.mono (T:=Fr S Y I) (fun _ _ h=>h.elim)));have X:E.heap.size≤wa.heap.size:=e0.size;clear F nF q c6 f6 ua e0 b6 i0;go_wp2_with (with_reducible first|(first|refine' zv (qh ?_) ?_|refine' zx (qh ?_) ?_|refine' zy (qh ?_) ?_);rotate_left|refine' zz (qh ?_)|refine' qw5 (qh ?_)|rfl|apply qn);refine⟨qa l9,?_⟩;go_wp2_with (with_reducible first|(first|refine' zv (qh ?_) ?_|refine' zx (qh ?_) ?_|refine' zy (qh ?_) ?_);rotate_left|refine' zz (qh ?_)|refine' qw5 (qh ?_)|rfl|apply qn);go_meet
       case rel=>exact⟨_,rfl,X,qa P,qa HC,qa HU⟩
      ·have q:qq E (E.alloc (.cells MsgV.zero.cells.toArray 101)).drew:=((Upd.refl _ _).alloc _).drew;have z:MsB (E.alloc (.cells MsgV.zero.cells.toArray 101)).drew E.heap.size MsgV.zero:=(zt E MsgV.zero qm).new ((Upd.refl _ _).drew);have c3:=f5.new q;have b6:=q.cell (p:=⟨g,37,none⟩) f4.1 (fun h=>h);go_wp2_with (with_reducible first|(first|refine' zv (qh ?_) ?_|refine' zx (qh ?_) ?_|refine' zy (qh ?_) ?_);rotate_left|refine' zz (qh ?_)|refine' qw5 (qh ?_)|rfl|apply qn);refine⟨⟨b6,c3.row⟩,?_⟩;have c0:=b6;have f3:=c3.row;generalize (E.alloc (.cells MsgV.zero.cells.toArray 101)).drew=wc at q z c3 c0 f3 ⊢;generalize m0:E.heap.size=M at z ⊢;have b5:=qb z;have o7:=qb c3;have p1:wc.cell? ⟨g,37,none⟩=some (.int .i64 (c.k.signed+1))∧zf wc H 0 32=some (qu T).toArray:=⟨c0,f3⟩;clear z c3 b6 c0 f3 f4;go_wp2_with (with_reducible first|(first|refine' zv (qh ?_) ?_|refine' zx (qh ?_) ?_|refine' zy (qh ?_) ?_);rotate_left|refine' zz (qh ?_)|refine' qw5 (qh ?_)|rfl|apply qn);refine(qa e1 wc q).mono ?_;rintro e wa ⟨rfl,c6,ua⟩;have i1:∀k,Fr S Y I k→¬k=M:=fun k f e=>by
        have:=j1 k f;omega
       have o1:=(qa b5).lt;have L:=(qa b5).upd ua (fun f=>i1 M f rfl);have N:=L.stOk c7;have um:=zc (w:=wa) (b:=M) mo.cells;have P:=qb (L.put c7);have n3:=q.size;have e3:ChS (wa.setCells M 0 mo.cells) g (Fr (Fr S Y I) wc wa) (r.say m):=c6.upd um (fun k f e=>by
        rcases f with f | f
        ·exact i1 k f e
        ·omega)
       have e4:ChS (wa.setCells M 0 mo.cells) g (Fr (Fr S Y I) wc (wa.setCells M 0 mo.cells)) (r.say m):=e3.grow um.size;have HC:=qb (e4.later n3);clear e3 e4;have HU:=qb (((q.mono (T:=Fr S Y I) (fun _ _ h=>h.elim)).trans ua).then um (fun i hi e=>by omega));clear L c6 ua um;go_wp2_with (with_reducible first|(first|refine' zv (qh ?_) ?_|refine' zx (qh ?_) ?_|refine' zy (qh ?_) ?_);rotate_left|refine' zz (qh ?_)|refine' qw5 (qh ?_)|rfl|apply qn);go_meet
       case rel=>exact⟨_,rfl,Nat.le_of_eq m0,qa P,qa HC,qa HU⟩
     case rest =>
      obtain⟨M,rfl,hM,i2,⟨k5,a7,f0,J⟩,u8⟩:=hcut;obtain⟨Z,rfl⟩:∃Z:World,Z=wc:=⟨_,rfl⟩;have h0:Z.cell? ⟨g,626,none⟩=some a7:=(qg J.at_ 626).trans (qt7 _ k5 a7 f0 J.ok.s.seed J.ok.shelf);have n8:Z.cell? ⟨g,627,none⟩=some f0:=(qg J.at_ 627).trans (qom _ k5 a7 f0 J.ok.s.seed J.ok.shelf);have n9:Z.frozen? ⟨g,626,none⟩=false:=qv J.at_ 626;have o0:Z.frozen? ⟨g,627,none⟩=false:=qv J.at_ 627;have h7:=J.turn;obtain⟨k6,d3,b4⟩:=qaf J.news;have b8:Upd (· = g) Z ((Z.setCell ⟨g,627,none⟩ a7).setCell ⟨g,626,none⟩ qcu):=((Upd.refl _ _).set1 627 _).set1 626 _;have m5:M≠g:=by omega
      have e2:=i2.upd b8 m5;have i6:=(qa i5).upd u8 (fun f=>by
       rcases f with f | f
       ·exact d6 f
       ·have:=(qa HB).lt;have:=qa k3;omega)
      have c5:=i6.upd b8 (fun e=>i8 e.symm);have N:=c5.stOk c7;have rM:=e2.row;have P:=qb (c5.put c7);have uB:=zc (w:=(Z.setCell ⟨g,627,none⟩ a7).setCell ⟨g,626,none⟩ qcu) (b:=B) mo.cells;have p0:B<E.heap.size:=(qa i5).lt;have hz:=qa g6;have o4:=qa k3;have m9:=qa k0;have o5:=qa n0;have o8:=(qa HB).lt;have j0:∀k,Fr (Fr S Y I) E Z k→Fr S w Z k:=fun k f=>by
       rcases f with (f | f) | f
       ·exact .inl f
       ·exact .inr ⟨by omega,by have:=u8.size;omega⟩
       ·exact .inr ⟨by omega,f.2⟩
      have i3:=h7.upd uB (fun k f e=>by
       rcases f with (f | f) | f
       ·rw[e] at f;exact d6 f
       ·omega
       ·omega)
      have HC:=qb (i3.wider (T:=Fr S w (((Z.setCell ⟨g,627,none⟩ a7).setCell ⟨g,626,none⟩ qcu).setCells B 0 mo.cells)) (fun k f=>by
       rcases j0 k f with h | h
       ·exact .inl h
       ·exact .inr ⟨h.1,by have:=b8.size;have:=uB.size;omega⟩) (fun k f=>by
       rcases f with f | f
       ·have:=(qa H0).lt k f;have:=u8.size;have:=b8.size;have:=uB.size;omega
       ·exact f.2))
      have o3:=(qa U7).size;have v8:Upd S w Z:=(qa U7).then u8 (fun i hi f=>by
       rcases f with f | f
       ·exact f
       ·omega)
      have k8:Upd S w ((Z.setCell ⟨g,627,none⟩ a7).setCell ⟨g,626,none⟩ qcu):=v8.then b8 (fun i hi e=>by rw[e];exact(qa H0).inG);have HU:=qb (k8.then uB (fun i hi e=>by omega));rw[b4] at h0;have o2:=qb b4;rw[b4] at P HC HU N rM;unfold qcu at P HU N rM;have g2:ChS ((((Z.setCell ⟨g,627,none⟩ (.slice k6 (r.say m).news.length d3)).setCell ⟨g,626,none⟩ (.slice none 0 0))).setCells B 0 mo.cells) g (Fr S w ((((Z.setCell ⟨g,627,none⟩ (.slice k6 (r.say m).news.length d3)).setCell ⟨g,626,none⟩ (.slice none 0 0))).setCells B 0 mo.cells)) (r.say m).turned:=⟨_,_,_,qa HC⟩;have l0:=qb g2;clear g2 HC h7 b8 e2 i6 c5 uB i3 v8 k8 j0 J u8 i2 b4;go_wp2_with (with_reducible first|(first|refine' tw1 (qh ?_) ?_|refine' tw2 (qh ?_) ?_);rotate_left|refine' tw3 (qh ?_)|rfl|apply tn|refine' tw4 ?_);have F:=qa P;refine bodyPost_ret (qy rfl _ _ B _ _ _ _ rfl F.at_ Tryz.underlying101 rfl (by rw[F.agg];exact Tryz.infoMsg)) rfl ?_;rw[qa g4];exact⟨rfl,qa l0,qa HU⟩
end Go.Proofs.YtfmkdoachjgjbaaGreatDoor
