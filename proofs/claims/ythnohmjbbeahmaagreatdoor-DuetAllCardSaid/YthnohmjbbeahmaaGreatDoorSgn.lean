/-
  Sign.
-/
import Derived.Test.YthnohmjbbeahmaaGreatDoorMbj
import Derived.Test.YthnohmjbbeahmaaGreatDoorMcb
set_option linter.unusedVariables false
set_option linter.unusedSimpArgs false
namespace Go.Proofs.YthnohmjbbeahmaaGreatDoor
open Go.RowKit
def Plan.pre:List Nat→Plan→Plan
 | [],p=>p
 | i::l,p=> .step i (Plan.pre l p)
attribute [local go_sem ↓ high] zy qak qaq qat zr zu zw zx qpm
attribute [local go_sem] qcl qdb qdn qgw zb qb3 qb9 qcf qbg zar
def qa3(c:Ch):Int:=if c.k.awaits=true then 5 else if zl 1 c.xs=false then 5 else if c.k.signed=65535 then 2 else 0
def Ch.signing(c:Ch):Ch:= {c.goOn 1 with k:= {(c.goOn 1).k with signed:=c.k.signed+1,awaits:=true,revoked:=false}}
noncomputable def qbb(c:Ch):MsgV:=⟨6,0,0,0,zt false c.s.key c.s.ch (c.k.signed+1) c.signing.loc c.signing.rem c.signing.xs,0,c.k.signed+1⟩
def Ch.turned(c:Ch):Ch:= {c with last:=c.news,news:=[]}
noncomputable def Ch.sign(c:Ch):Ch × MsgV × Int:=if qa3 c=0 then ((c.signing.say (qbb c)).turned,(qbb c).on c.s.ch,0) else (c,MsgV.zero,qa3 c)
theorem qlj{c:Ch}{e:Int}(h:qa3 c=e)(n:e≠0):c.sign=(c,MsgV.zero,e):=by unfold Ch.sign;rw[h,if_neg n]
theorem qg1(l:List Live):∀c:Ch,(l.foldl qbl c).k=c.k∧(l.foldl qbl c).s=c.s∧(l.foldl qbl c).news=c.news∧(l.foldl qbl c).last=c.last∧(l.foldl qbl c).shelf=c.shelf:=by
 induction l with
 | nil=>intro c;exact⟨rfl,rfl,rfl,rfl,rfl⟩
 | cons x l t =>
  intro c;rw[List.foldl_cons];obtain⟨a,b,d,e,f⟩:=t (qbl c x);have q:(qbl c x).k=c.k∧(qbl c x).s=c.s∧(qbl c x).news=c.news∧(qbl c x).last=c.last∧(qbl c x).shelf=c.shelf:=by
   unfold qbl;split
   ·unfold Ch.give;split<;>exact⟨rfl,rfl,rfl,rfl,rfl⟩
   ·exact⟨rfl,rfl,rfl,rfl,rfl⟩
  obtain⟨g,i,m,o,f'⟩:=q;exact⟨a.trans g,b.trans i,d.trans m,e.trans o,f.trans f'⟩
theorem qrh(c:Ch)(ev:Int):(c.goOn ev).k=c.k:=(qg1 _ c).1
theorem zgq(c:Ch)(ev:Int):(c.goOn ev).s=c.s:=(qg1 _ c).2.1
theorem q6c(c:Ch)(ev:Int):(c.goOn ev).news=c.news:=(qg1 _ c).2.2.1
theorem ChP.turn{w:World}{g:Nat}{S:Nat→Prop}{c:Ch}{q nv t:Value}(h:ChP w g S c q nv t):ChP ((w.setCell ⟨g,627,none⟩ nv).setCell ⟨g,626,none⟩ qcd) g S c.turned q qcd nv:=by
 have u:Upd (· = g) w ((w.setCell ⟨g,627,none⟩ nv).setCell ⟨g,626,none⟩ qcd):=((Upd.refl _ _).set1 627 _).set1 626 _;have z:∀ {T:TypeId} {v:Value} {n:Nat} {xs:List Value},T≠106→w.ownsRow 0 T 38 v n xs→∀k,v.ownBlock=some k→¬k=g:=by
  intro T v n xs D H k l e;obtain⟨C,E⟩:=qai H k l;exact qao E h.at_ D e
 have o:=z7 h.at_ 627 nv;rw[zb0 c q nv t h.ok.s.seed h.ok.shelf c.news nv] at o;have i:=z7 o 626 qcd;rw[qsv ({c with last:=c.news} : Ch) q nv nv h.ok.s.seed h.ok.shelf [] qcd] at i;refine⟨i,⟨h.ok.s,h.ok.signed,h.ok.heard,h.ok.nextOwn,h.ok.nextTheirs,h.ok.loc,h.ok.rem,h.ok.xs,h.ok.few,h.ok.shelf,?_,h.ok.news,?_⟩,?_,?_,?_,h.inG,h.inL,?_,h.inN,?_,fun k l=>Nat.lt_of_lt_of_le (h.lt k l) u.size⟩
 ·intro m F;cases F
 ·exact⟨Nat.zero_le _,h.ok.many.1⟩
 ·exact zc h.live u (z (by decide) h.live)
 ·exact World.ownsRow_nil _ _ _ _
 ·exact zc h.news u (z (by decide) h.news)
 ·intro k l;simp[qcd,Value.ownBlock] at l
 ·intro k l;simp[qcd,Value.ownBlock] at l
theorem zed(m:MsgV)(ch:Int):(m.on ch).hash=m.hash:=rfl
theorem q92(c:Ch)(ev:Int):(c.goOn ev).xs.length≤c.xs.length:=by
 unfold Ch.goOn qa7 qo;exact Nat.le_trans (List.length_filter_le _ _) (by rw[List.length_map];exact Nat.le_refl _)
set_option maxRecDepth 100000 in
set_option maxHeartbeats 1000000 in
theorem q7x(g:Nat)(S:Nat→Prop)(c:Ch)(w:World)(h:ChS w g S c)(hT:Tc w)(hS:ApC S)(l:c.s.key.size≤100000000)(m0:0≤c.s.ch∧c.s.ch<4294967296)(i5:c.news.length<1000000)(p3:c.xs.length≤16) :
  Calls Tryz.prog 36 #[.pointer (some ⟨g,0,none⟩)] w fun e w'=>e = .returned (.tuple #[.agg c.sign.2.1.cells.toArray,.int .i64 c.sign.2.2])∧ChS w' g (Fr S w w') c.sign.1∧Upd S w w':=by
 obtain⟨lv,nv,av,h⟩:=h
 go_enter Tryz.func36,Tryz.ntmps36
 go_upto_region 1 with fail
 have hB:=qbx w MsgV.zero qs
 have n1:qu w (w.alloc (.cells MsgV.zero.cells.toArray 71)):=(Upd.refl _ _).alloc _
 generalize w.alloc (.cells MsgV.zero.cells.toArray 71)=w1 at hB n1 ⊢
 obtain⟨B,g9⟩:∃B,B=w.heap.size:=⟨_,rfl⟩
 rw[←g9] at hB ⊢
 have o6:w.heap.size≤B:=by omega
 have i6:g≠B:=by have:=h.lt g h.inG;omega
 have d2:¬S B:=fun e=>by have:=h.lt B e;omega
 clear g9
 have h1:=h.new n1
 have b4:w1.cell? ⟨g,39,none⟩=some (.bool c.k.awaits):=h1.toR.awaits
 have g5:w1.cell? ⟨g,47,none⟩=some lv:=h1.toR.live
 have j3:qa3 c=if c.k.awaits=true then 5 else if zl 1 c.xs=false then 5 else if c.k.signed=65535 then 2 else 0:=rfl
 have p2:=h.ok.few
 have a5:=qpg lv c.xs 1 (by omega) w1 (hT.new n1).glob h1.toI.lives
 obtain⟨la,o3,m3⟩:=qap h.live
 have I:=qb j3
 have H0:=qb h
 have H1:=qb h1
 have HB:=qb hB
 have N1:=qb n1
 have g3:=qb (hT.new n1)
 have m4:=h.ok.signed
 have bad:∀(W:World) (e:Int),qu w1 W→qa3 c=e→e≠0 →
   stOk W B 0 38 MsgV.zero.cells.toArray=true∧MsB (W.setCells B 0 MsgV.zero.cells) B MsgV.zero∧c.sign=(c,MsgV.zero,e)∧ChS (W.setCells B 0 MsgV.zero.cells) g (Fr S w (W.setCells B 0 MsgV.zero.cells)) c∧Upd S w (W.setCells B 0 MsgV.zero.cells):=by
  intro W e nW hs he
  have hb:=hB.new nW
  have u:=zz (w:=W) (b:=B) MsgV.zero.cells
  exact⟨hb.stOk qs,hb.put qs,qlj hs he,((h1.new nW).upd u (fun k l e=>by rw[e] at l;exact d2 l)).fr w,((n1.trans nW).mono (T:=S) (fun _ _ h=>h.elim)).then u (fun i hi e=>by omega)⟩
 have a4:=qb bad
 clear j3 h h1 hB n1 hT bad
 cases ha:c.k.awaits with
 | true =>
  rw[ha,if_pos rfl] at I;rw[ha] at b4;obtain⟨K,D,hE,hC,hU⟩:=qa a4 w1 5 (Upd.refl _ _) (qa I) (by decide);have N:=qb D;have HE:=qb hE;have HC:=qb hC;have HU:=qb hU;clear D hE hC hU a5;go_wp2_with (with_reducible first|(first|refine' tw1 (qg ?_) ?_|refine' tw2 (qg ?_) ?_);rotate_left|refine' tw3 (qg ?_)|rfl|apply tn|refine' tw4 ?_);have D:=qa N;refine bodyPost_ret (qq rfl _ _ B _ _ _ _ rfl D.at_ Tryz.underlying71 rfl (by rw[D.agg];exact Tryz.infoMsg)) rfl ?_;rw[qa HE];exact⟨rfl,qa HC,qa HU⟩
 | false =>
  rw[ha,if_neg (by decide)] at I;rw[ha] at b4;rw[m3] at g5 a5;go_wp2_with (with_reducible first|(first|refine' tw1 (qg ?_) ?_|refine' tw2 (qg ?_) ?_);rotate_left|refine' tw3 (qg ?_)|rfl|apply tn|refine' tw4 ?_);refine a5.mono ?_;rintro e U ⟨rfl,n2⟩;clear a5 b4 g5;cases hc:zl 1 c.xs with
  | false =>
   rw[hc,if_pos rfl] at I;obtain⟨K,D,hE,hC,hU⟩:=qa a4 U 5 n2 (qa I) (by decide);have N:=qb D;have HE:=qb hE;have HC:=qb hC;have HU:=qb hU;clear D hE hC hU n2;go_wp2_with (with_reducible first|(first|refine' tw1 (qg ?_) ?_|refine' tw2 (qg ?_) ?_);rotate_left|refine' tw3 (qg ?_)|rfl|apply tn|refine' tw4 ?_);have D:=qa N;refine bodyPost_ret (qq rfl _ _ B _ _ _ _ rfl D.at_ Tryz.underlying71 rfl (by rw[D.agg];exact Tryz.infoMsg)) rfl ?_;rw[qa HE];exact⟨rfl,qa HC,qa HU⟩
  | true =>
   rw[hc,if_neg (by decide)] at I;have e7:U.cell? ⟨g,37,none⟩=some (.int .i64 c.k.signed):=((qa H1).new n2).toR.signed;by_cases d3:c.k.signed=65535
   ·rw[if_pos d3] at I;obtain⟨K,D,hE,hC,hU⟩:=qa a4 U 2 n2 (qa I) (by decide);have N:=qb D;have HE:=qb hE;have HC:=qb hC;have HU:=qb hU;rw[d3] at e7;clear D hE hC hU n2 d3 m4;go_wp2_with (with_reducible first|(first|refine' tw1 (qg ?_) ?_|refine' tw2 (qg ?_) ?_);rotate_left|refine' tw3 (qg ?_)|rfl|apply tn|refine' tw4 ?_);have D:=qa N;refine bodyPost_ret (qq rfl _ _ B _ _ _ _ rfl D.at_ Tryz.underlying71 rfl (by rw[D.agg];exact Tryz.infoMsg)) rfl ?_;rw[qa HE];exact⟨rfl,qa HC,qa HU⟩
   ·rw[if_neg d3] at I;have c4:c.sign=((c.signing.say (qbb c)).turned,(qbb c).on c.s.ch,0):=by unfold Ch.sign;rw[if_pos (qa I)]
    have g0:=qb c4;have i7:=qnd g S c 1 U ⟨lv,nv,av,(qa H1).new n2⟩ ((qa g3).new n2).glob;have N2:=qb n2;clear c4 a4 n2;go_wp2_with (with_reducible first|(first|refine' tw1 (qg ?_) ?_|refine' tw2 (qg ?_) ?_);rotate_left|refine' tw3 (qg ?_)|rfl|apply tn|refine' tw4 ?_);refine i7.mono ?_;rintro e E ⟨rfl,⟨d5,k3,g4,h3⟩,u3⟩;obtain⟨c1,a9⟩:∃c1,c1=c.goOn 1:=⟨_,rfl⟩;have f6:c1.k=c.k:=by rw[a9];exact qrh c 1
    have j2:c1.s=c.s:=by rw[a9];exact zgq c 1
    have j0:c1.news=c.news:=by rw[a9];exact q6c c 1
    rw[←a9] at h3;have e7:E.cell? ⟨g,37,none⟩=some (.int .i64 c.k.signed):=by rw[←f6];exact h3.toR.signed
    have k9:E.frozen? ⟨g,37,none⟩=false:=qv h3.at_ 37;have m5:IntKind.i64.wrap (c.k.signed+1)=c.k.signed+1:=qkj (by omega) (by omega);have h4:=h3.putSigned (c.k.signed+1) (by omega);have u4:=qje E g 37 (.int .i64 (c.k.signed+1));have b4:(E.setCell ⟨g,37,none⟩ (.int .i64 (c.k.signed+1))).cell? ⟨g,39,none⟩=some (.bool false):=by
     have:=h4.toR.awaits;rw[show (({c1 with k:= {c1.k with signed:=c.k.signed+1}} : Ch).v d5 k3 g4).k.awaits=c1.k.awaits from rfl,f6,ha] at this;exact this
    have l3:(E.setCell ⟨g,37,none⟩ (.int .i64 (c.k.signed+1))).frozen? ⟨g,39,none⟩=false:=qv h4.at_ 39;have h5:=h4.putAwaits true;have u5:=qje (E.setCell ⟨g,37,none⟩ (.int .i64 (c.k.signed+1))) g 39 (.bool true);have k8:((E.setCell ⟨g,37,none⟩ (.int .i64 (c.k.signed+1))).setCell ⟨g,39,none⟩ (.bool true)).cell? ⟨g,44,none⟩=some (.bool c1.k.revoked):=h5.toR.revoked;have l4:((E.setCell ⟨g,37,none⟩ (.int .i64 (c.k.signed+1))).setCell ⟨g,39,none⟩ (.bool true)).frozen? ⟨g,44,none⟩=false:=qv h5.at_ 44;have h6:=h5.putRevoked false;have u6:=qje ((E.setCell ⟨g,37,none⟩ (.int .i64 (c.k.signed+1))).setCell ⟨g,39,none⟩ (.bool true)) g 44 (.bool false);have P:c.signing = {c1 with k:= {c1.k with signed:=c.k.signed+1,awaits:=true,revoked:=false}} := by unfold Ch.signing;rw[a9]
    rw[←P] at h6;have c9:Upd (· = g) E (((E.setCell ⟨g,37,none⟩ (.int .i64 (c.k.signed+1))).setCell ⟨g,39,none⟩ (.bool true)).setCell ⟨g,44,none⟩ (.bool false)):=(u4.trans u5).trans u6;have U6:=qb (((((qa N1).trans (qa N2)).mono (T:=S) (fun _ _ h=>h.elim)).trans u3).trans (c9.mono (fun k _ e=>by rw[e];exact(qa H0).inG)));have i0:=qb ((((qa HB).new (qa N2)).upd u3 d2).upd c9 (fun e=>i6 e.symm));have g2:=qb (And.intro u3.size c9.size);have j8:=qb ((qa N1).size);have j9:=qb ((qa N2).size);have e4:=qb ((((qa g3).new (qa N2)).upd u3 hS).upd (c9.mono (T:=S) (fun k _ e=>by rw[e];exact(qa H0).inG)) hS);have H6:=qb h6;have c5:c.signing.s=c.s:=by rw[P];exact j2
    have j5:c.signing.news=c.news:=by rw[P];exact j0
    have d4:c.signing.k.signed=c.k.signed+1:=by rw[P]
    have e3:c.signing.xs.length≤19:=by have:=q92 c 1;show (c.goOn 1).xs.length≤19;omega
    clear h3 h4 h5 h6 u3 u4 u5 u6 c9 P;go_upto_region 8 with (with_reducible first|(first|refine' tw1 (qg ?_) ?_|refine' tw2 (qg ?_) ?_);rotate_left|refine' tw3 (qg ?_)|rfl|apply tn|refine' tw4 ?_);clear e7 k9 b4 l3 k8 l4 i7 m5;generalize ((E.setCell ⟨g,37,none⟩ (.int .i64 (c.k.signed+1))).setCell ⟨g,39,none⟩ (.bool true)).setCell ⟨g,44,none⟩ (.bool false)=z at U6 i0 g2 e4 H6 ⊢;obtain⟨q,f4⟩:∃q,q=c.signing:=⟨_,rfl⟩;have j4:qbb c=⟨6,0,0,0,zt false c.s.key c.s.ch (c.k.signed+1) q.loc q.rem q.xs,0,c.k.signed+1⟩:=by rw[f4];rfl
    rw[←f4] at H6 c5 j5 d4 g0 e3;have g1:=qb j4;clear a9 f6 j2 j0 j4 f4 c1;have hP:=qa H6;have j7:q.xs.length≤1000000:=hP.ok.few;obtain⟨k0,c7,e1⟩:=qap hP.live;have j1:=hP.ok.xs;have g7:z.drew.cell? ⟨g,35,none⟩=some (.string c.s.key):=by rw[←c5];exact hP.key
    have d0:z.drew.cell? ⟨g,0,none⟩=some (.int .u32 c.s.ch):=by rw[←c5];exact hP.toR.ch
    have d1:z.drew.cell? ⟨g,37,none⟩=some (.int .i64 (c.k.signed+1)):=by rw[←d4];exact hP.toR.signed
    have dB:zm z.drew g 45 2=some #[.int .u64 q.loc,.int .u64 q.rem]:=hP.base;have e8:z.drew.cell? ⟨g,47,none⟩=some d5:=hP.toR.live;rw[e1] at e8;have f7:=fun W (n:qu z W)=>qzn false q.loc q.rem d5 q.xs e3 W ((qa e4).new n).spans (hP.toI.lives.new n)
    rw[e1] at f7;have p0:q.s.key.size≤100000000:=by rw[c5];exact l
    have j6:=fun W (n:qu z W) V (hV:ViewO false q.loc q.rem q.xs W V)=>qu5 false q.loc q.rem V q.xs c.s.key c.s.ch (c.k.signed+1) j7 W ((qa e4).new n).tabs hV j1 l m0 (by omega) hP.ok.loc hP.ok.rem
    have Y:=qgu false c.s.key c.s.ch (c.k.signed+1) q.loc q.rem q.xs;have f9:=qb f7;have e5:=qb j6;have c6:∀W,qu z.drew W→W.cell? ⟨g,35,none⟩=some (.string c.s.key)∧W.cell? ⟨g,0,none⟩=some (.int .u32 c.s.ch)∧W.cell? ⟨g,37,none⟩=some (.int .i64 (c.k.signed+1))∧zm W g 45 2=some #[.int .u64 q.loc,.int .u64 q.rem]∧W.cell? ⟨g,47,none⟩=some (.slice k0 q.xs.length c7):=by
     intro W n;have l8:=hP.new (((Upd.refl (fun _=>False) z).drew).trans n);exact⟨n.cell g7 (fun h=>h),n.cell d0 (fun h=>h),n.cell d1 (fun h=>h),l8.base,n.cell e8 (fun h=>h)⟩
    have O:=qb c6;have h0:=c6 z.drew (Upd.refl _ _);clear hP f7 j6 c6 g7 d0 d1 dB e8;generalize zt false c.s.key c.s.ch (c.k.signed+1) q.loc q.rem q.xs=T at *
    go_cut [4] from 48 to 72 (fun hv wx=>∃H,hv = .pointer (some ⟨H,0,none⟩)∧z.heap.size≤H∧HsB wx H T∧qu z wx)
    case first =>
     refine qc7 (fun w'=>w'.cell? ⟨g,35,none⟩=some (.string c.s.key)∧w'.cell? ⟨g,0,none⟩=some (.int .u32 c.s.ch)∧w'.cell? ⟨g,37,none⟩=some (.int .i64 (c.k.signed+1))∧zm w' g 45 2=some #[.int .u64 q.loc,.int .u64 q.rem]∧w'.cell? ⟨g,47,none⟩=some (.slice k0 q.xs.length c7)) [4,9,14,18,22]
      (Plan.pre [0,1,2,3,4,5,6,7,8,9,10,11,12,13,14,15,16,17,18,19,20,21,22] (.fork (.step 23 (.fork (.of [24,25,26]) (.of [25,24,26]))) (.of [25,23,24,26]))) (by kernel_rfl) (by kernel_rfl) h0 ?_
     simp only[Plan.of,Plan.pre];go_wp2_with (with_reducible first|(first|refine' qw1 (qg ?_) ?_|refine' qw2 (qg ?_) ?_|refine' qw3 (qg ?_) ?_);rotate_left|refine' qw4 (qg ?_)|refine' qw5 (qg ?_)|rfl|apply qn);have nd:qu z z.drew:=(Upd.refl _ _).drew;refine qf ?_ ?_
     ·go_wp2_with (with_reducible first|(first|refine' qw1 (qg ?_) ?_|refine' qw2 (qg ?_) ?_|refine' qw3 (qg ?_) ?_);rotate_left|refine' qw4 (qg ?_)|refine' qw5 (qg ?_)|rfl|apply qn);refine(qa f9 z.drew nd).mono ?_;rintro e wa ⟨V,rfl,na,hV⟩;go_wp2_with (with_reducible first|(first|refine' qw1 (qg ?_) ?_|refine' qw2 (qg ?_) ?_|refine' qw3 (qg ?_) ?_);rotate_left|refine' qw4 (qg ?_)|refine' qw5 (qg ?_)|rfl|apply qn);refine⟨qa O _ na,?_⟩;refine qf ?_ ?_
      ·go_wp2_with (with_reducible first|(first|refine' qw1 (qg ?_) ?_|refine' qw2 (qg ?_) ?_|refine' qw3 (qg ?_) ?_);rotate_left|refine' qw4 (qg ?_)|refine' qw5 (qg ?_)|rfl|apply qn);refine(qa e5 wa (nd.trans na) V hV).mono ?_;rintro e wb ⟨rfl,nb⟩;obtain⟨K,D,nF⟩:=qrs wb T Y;have N:=qb D;have NF:=qb (((nd.trans na).trans nb).trans nF);have o:qu wb (wb.alloc (.cells (qx zv).toArray 33)):=(Upd.refl _ _).alloc _;have hK:=qb (qa O _ ((na.trans nb).trans o));have R:z.heap.size≤wb.heap.size:=((nd.trans na).trans nb).size;clear D nF o nb;go_wp2_with (with_reducible first|(first|refine' qw1 (qg ?_) ?_|refine' qw2 (qg ?_) ?_|refine' qw3 (qg ?_) ?_);rotate_left|refine' qw4 (qg ?_)|refine' qw5 (qg ?_)|rfl|apply qn);refine⟨qa hK,?_⟩;go_wp2_with (with_reducible first|(first|refine' qw1 (qg ?_) ?_|refine' qw2 (qg ?_) ?_|refine' qw3 (qg ?_) ?_);rotate_left|refine' qw4 (qg ?_)|refine' qw5 (qg ?_)|rfl|apply qn);go_meet
       case rel=>exact⟨_,rfl,R,qa N,qa NF⟩
      ·have o:qu wa (wa.alloc (.cells (qx zv).toArray 33)):=(Upd.refl _ _).alloc _;have t:=qch wa zv qs;have R:z.heap.size≤wa.heap.size:=(nd.trans na).size;go_wp2_with (with_reducible first|(first|refine' qw1 (qg ?_) ?_|refine' qw2 (qg ?_) ?_|refine' qw3 (qg ?_) ?_);rotate_left|refine' qw4 (qg ?_)|refine' qw5 (qg ?_)|rfl|apply qn);refine⟨qa O _ (na.trans o),?_⟩;generalize wa.alloc (.cells (qx zv).toArray 33)=wc at o t ⊢;generalize wa.heap.size=H at t R ⊢;have a7:=qb t;clear t;go_wp2_with (with_reducible first|(first|refine' qw1 (qg ?_) ?_|refine' qw2 (qg ?_) ?_|refine' qw3 (qg ?_) ?_);rotate_left|refine' qw4 (qg ?_)|refine' qw5 (qg ?_)|rfl|apply qn);refine(qa e5 wc ((nd.trans na).trans o) V (hV.new o)).mono ?_;rintro e wb ⟨rfl,nb⟩;have J:=(qa a7).new nb;have K:=J.stOk T Y;have N:=qb (J.put T Y);have NF:=qb ((((nd.trans na).trans o).trans nb).then (zz (w:=wb) (b:=H) (qx T)) (fun i hi e=>by omega));clear J nb;go_wp2_with (with_reducible first|(first|refine' qw1 (qg ?_) ?_|refine' qw2 (qg ?_) ?_|refine' qw3 (qg ?_) ?_);rotate_left|refine' qw4 (qg ?_)|refine' qw5 (qg ?_)|rfl|apply qn);go_meet
       case rel=>exact⟨_,rfl,R,qa N,qa NF⟩
     ·have o:qu z.drew (z.drew.alloc (.cells (qx zv).toArray 33)):=(Upd.refl _ _).alloc _;have L:qu z.drew (z.alloc (.cells (qx zv).toArray 33)).drew:=o;have t:HsB (z.alloc (.cells (qx zv).toArray 33)).drew z.heap.size zv:=(qch z zv qs).new ((Upd.refl _ _).drew);have R:z.heap.size≤z.heap.size:=Nat.le_refl _;go_wp2_with (with_reducible first|(first|refine' qw1 (qg ?_) ?_|refine' qw2 (qg ?_) ?_|refine' qw3 (qg ?_) ?_);rotate_left|refine' qw4 (qg ?_)|refine' qw5 (qg ?_)|rfl|apply qn);refine⟨qa O _ L,?_⟩;generalize (z.alloc (.cells (qx zv).toArray 33)).drew=wc at L t ⊢;generalize hH:z.heap.size=H at t ⊢;rw[hH] at R;have a7:=qb t;clear t o;go_wp2_with (with_reducible first|(first|refine' qw1 (qg ?_) ?_|refine' qw2 (qg ?_) ?_|refine' qw3 (qg ?_) ?_);rotate_left|refine' qw4 (qg ?_)|refine' qw5 (qg ?_)|rfl|apply qn);refine(qa f9 wc (nd.trans L)).mono ?_;rintro e wa ⟨V,rfl,na,hV⟩;have J:=(qa a7).new na;go_wp2_with (with_reducible first|(first|refine' qw1 (qg ?_) ?_|refine' qw2 (qg ?_) ?_|refine' qw3 (qg ?_) ?_);rotate_left|refine' qw4 (qg ?_)|refine' qw5 (qg ?_)|rfl|apply qn);refine⟨qa O _ (L.trans na),?_⟩;have k5:=qb J;clear J;go_wp2_with (with_reducible first|(first|refine' qw1 (qg ?_) ?_|refine' qw2 (qg ?_) ?_|refine' qw3 (qg ?_) ?_);rotate_left|refine' qw4 (qg ?_)|refine' qw5 (qg ?_)|rfl|apply qn);refine(qa e5 wa ((nd.trans L).trans na) V hV).mono ?_;rintro e wb ⟨rfl,nb⟩;have f3:=(qa k5).new nb;have K:=f3.stOk T Y;have N:=qb (f3.put T Y);have NF:=qb ((((nd.trans L).trans na).trans nb).then (zz (w:=wb) (b:=H) (qx T)) (fun i hi e=>by omega))
      clear f3 nb;go_wp2_with (with_reducible first|(first|refine' qw1 (qg ?_) ?_|refine' qw2 (qg ?_) ?_|refine' qw3 (qg ?_) ?_);rotate_left|refine' qw4 (qg ?_)|refine' qw5 (qg ?_)|rfl|apply qn);go_meet
      case rel=>exact⟨_,rfl,Nat.le_of_eq hH,qa N,qa NF⟩
    case rest =>
     obtain⟨H,rfl,hH,f1,n7⟩:=hcut;obtain⟨C,rfl⟩:∃C:World,C=wc:=⟨_,rfl⟩;clear h0;have b7:=(qa H6).new n7;have U7:=qb ((qa U6).trans (n7.mono (T:=S) (fun _ _ h=>h.elim)));have i3:=qb ((qa i0).new n7);have m7:=qb n7.size;have d1:C.drew.cell? ⟨g,37,none⟩=some (.int .i64 (c.k.signed+1)):=by rw[←d4];exact b7.toR.signed
     have dH:zm C.drew H 0 32=some (qx T).toArray:=f1.row;have l9:=fun W=>q07 6 (c.k.signed+1) T Y W
     rw[←qa g1] at l9;have e2:(qbb c).hash.length=32:=by rw[qa g1];exact Y
     have f5:q.news.length<1000000:=by rw[j5];exact i5
     have c3:=fun W (n:qu C W)=>qqm g (Fr S U E) q (qbb c) e2 W ⟨d5,k3,g4,b7.new n⟩ f5
     rw[c5] at c3;have c0:((qbb c).on c.s.ch).hash.length=32:=by rw[zed];exact e2
     have d7:=qb c3;have f0:C.drew.cell? ⟨g,37,none⟩=some (.int .i64 (c.k.signed+1))∧zm C.drew H 0 32=some (qx T).toArray:=⟨d1,dH⟩;have o9:g<C.heap.size:=z6 b7.at_;have i9:∀k,Fr S U E k→k<C.heap.size:=b7.lt;clear b7 c3;generalize qbb c=m at *
     generalize p1:m.on c.s.ch=mo at *
     go_upto_region 9 with fail
     go_cut [5] from 73 to 81 (fun hv wx=>∃M,hv = .pointer (some ⟨M,0,none⟩)∧C.heap.size≤M∧MsB wx M mo∧ChS wx g (Fr (Fr S U E) C wx) (q.say m)∧Upd (Fr S U E) C wx)
     case first =>
      refine qc7 (fun w'=>w'.cell? ⟨g,37,none⟩=some (.int .i64 (c.k.signed+1))∧zm w' H 0 32=some (qx T).toArray) [5,6] (.fork (Plan.pre [0,1,2,3,4,5,6,7] (.of [8,9,10])) (Plan.pre [9,0,1,2,3,4,5,6,7] (.of [8,10]))) (by kernel_rfl) (by kernel_rfl) f0 ?_;simp only[Plan.of,Plan.pre];have n0:qu C C.drew:=(Upd.refl _ _).drew;have l5:∀k,Fr S U E k→k≠H:=fun k l e=>by
       have h6:=(qa H6).lt k l;omega
      refine qf ?_ ?_
      ·go_wp2_with (with_reducible first|(first|refine' qw1 (qg ?_) ?_|refine' qw2 (qg ?_) ?_|refine' qw3 (qg ?_) ?_);rotate_left|refine' qw4 (qg ?_)|refine' qw5 (qg ?_)|rfl|apply qn);refine(qa d7 C.drew n0).mono ?_;rintro e wa ⟨rfl,⟨m9,n3,k7,f2⟩,ua⟩;have d6:Upd (Fr S U E) C wa:=ua.ofDrew;have h2:=f1.upd d6 (fun l=>l5 H l rfl);have b9:ChS wa g (Fr (Fr S U E) C wa) (q.say m):=⟨m9,n3,k7,f2⟩;have a8:wa.cell? ⟨g,37,none⟩=some (.int .i64 (c.k.signed+1)):=by rw[←d4];exact f2.toR.signed
       obtain⟨K,D,nF⟩:=qhq wa mo c0;have o:qu wa (wa.alloc (.cells MsgV.zero.cells.toArray 71)):=(Upd.refl _ _).alloc _;have l6:=qb (And.intro (o.cell a8 (fun h=>h)) (h2.new o).row);have N:=qb D;have HC:=qb ((b9.new nF).grow nF.size);have HU:=qb (d6.trans (nF.mono (T:=Fr S U E) (fun _ _ h=>h.elim)));have R:C.heap.size≤wa.heap.size:=d6.size;clear D nF o b9 f2 ua d6 a8 h2;go_wp2_with (with_reducible first|(first|refine' qw1 (qg ?_) ?_|refine' qw2 (qg ?_) ?_|refine' qw3 (qg ?_) ?_);rotate_left|refine' qw4 (qg ?_)|refine' qw5 (qg ?_)|rfl|apply qn);refine⟨qa l6,?_⟩;go_wp2_with (with_reducible first|(first|refine' qw1 (qg ?_) ?_|refine' qw2 (qg ?_) ?_|refine' qw3 (qg ?_) ?_);rotate_left|refine' qw4 (qg ?_)|refine' qw5 (qg ?_)|rfl|apply qn);go_meet
       case rel=>exact⟨_,rfl,R,qa N,qa HC,qa HU⟩
      ·have o:qu C (C.alloc (.cells MsgV.zero.cells.toArray 71)).drew:=((Upd.refl _ _).alloc _).drew;have t:MsB (C.alloc (.cells MsgV.zero.cells.toArray 71)).drew C.heap.size MsgV.zero:=(qbx C MsgV.zero qs).new ((Upd.refl _ _).drew);have b6:=f1.new o;have a8:=o.cell (p:=⟨g,37,none⟩) f0.1 (fun h=>h);go_wp2_with (with_reducible first|(first|refine' qw1 (qg ?_) ?_|refine' qw2 (qg ?_) ?_|refine' qw3 (qg ?_) ?_);rotate_left|refine' qw4 (qg ?_)|refine' qw5 (qg ?_)|rfl|apply qn);refine⟨⟨a8,b6.row⟩,?_⟩;have b5:=a8;have e9:=b6.row;generalize (C.alloc (.cells MsgV.zero.cells.toArray 71)).drew=wc at o t b6 b5 e9 ⊢;generalize l7:C.heap.size=M at t ⊢;have a7:=qb t;have o4:=qb b6;have o8:wc.cell? ⟨g,37,none⟩=some (.int .i64 (c.k.signed+1))∧zm wc H 0 32=some (qx T).toArray:=⟨b5,e9⟩;clear t b6 a8 b5 e9 f0;go_wp2_with (with_reducible first|(first|refine' qw1 (qg ?_) ?_|refine' qw2 (qg ?_) ?_|refine' qw3 (qg ?_) ?_);rotate_left|refine' qw4 (qg ?_)|refine' qw5 (qg ?_)|rfl|apply qn);refine(qa d7 wc o).mono ?_;rintro e wa ⟨rfl,b9,ua⟩;have h7:∀k,Fr S U E k→¬k=M:=fun k l e=>by
        have:=i9 k l;omega
       have n8:=(qa a7).lt;have J:=(qa a7).upd ua (fun l=>h7 M l rfl);have K:=J.stOk c0;have um:=zz (w:=wa) (b:=M) mo.cells;have N:=qb (J.put c0);have m8:=o.size;have d9:ChS (wa.setCells M 0 mo.cells) g (Fr (Fr S U E) wc wa) (q.say m):=b9.upd um (fun k l e=>by
        rcases l with l | l
        ·exact h7 k l e
        ·omega)
       have e0:ChS (wa.setCells M 0 mo.cells) g (Fr (Fr S U E) wc (wa.setCells M 0 mo.cells)) (q.say m):=d9.grow um.size;have HC:=qb (e0.later m8);clear d9 e0;have HU:=qb (((o.mono (T:=Fr S U E) (fun _ _ h=>h.elim)).trans ua).then um (fun i hi e=>by omega));clear J b9 ua um;go_wp2_with (with_reducible first|(first|refine' qw1 (qg ?_) ?_|refine' qw2 (qg ?_) ?_|refine' qw3 (qg ?_) ?_);rotate_left|refine' qw4 (qg ?_)|refine' qw5 (qg ?_)|rfl|apply qn);go_meet
       case rel=>exact⟨_,rfl,Nat.le_of_eq l7,qa N,qa HC,qa HU⟩
     case rest =>
      obtain⟨M,rfl,hM,h8,⟨k1,Z,e6,F⟩,u8⟩:=hcut;obtain⟨X,rfl⟩:∃X:World,X=wc:=⟨_,rfl⟩;have g6:X.cell? ⟨g,626,none⟩=some Z:=(qh F.at_ 626).trans (qrg _ k1 Z e6 F.ok.s.seed F.ok.shelf);have n4:X.cell? ⟨g,627,none⟩=some e6:=(qh F.at_ 627).trans (qrf _ k1 Z e6 F.ok.s.seed F.ok.shelf);have n5:X.frozen? ⟨g,626,none⟩=false:=qv F.at_ 626;have n6:X.frozen? ⟨g,627,none⟩=false:=qv F.at_ 627;have g8:=F.turn;obtain⟨k2,c8,a6⟩:=qap F.news;have b3:Upd (· = g) X ((X.setCell ⟨g,627,none⟩ Z).setCell ⟨g,626,none⟩ qcd):=((Upd.refl _ _).set1 627 _).set1 626 _;have m2:M≠g:=by omega
      have d8:=h8.upd b3 m2;have i4:=(qa i3).upd u8 (fun l=>by
       rcases l with l | l
       ·exact d2 l
       ·have:=(qa HB).lt;have:=qa j9;omega)
      have b8:=i4.upd b3 (fun e=>i6 e.symm);have K:=b8.stOk c0;have rM:=d8.row;have N:=qb (b8.put c0);have uB:=zz (w:=(X.setCell ⟨g,627,none⟩ Z).setCell ⟨g,626,none⟩ qcd) (b:=B) mo.cells;have o7:B<C.heap.size:=(qa i3).lt;have hz:=qa g2;have o1:=qa j9;have m6:=qa j8;have o2:=qa m7;have o5:=(qa HB).lt;have i8:∀k,Fr (Fr S U E) C X k→Fr S w X k:=fun k l=>by
       rcases l with (l | l) | l
       ·exact .inl l
       ·exact .inr ⟨by omega,by have:=u8.size;omega⟩
       ·exact .inr ⟨by omega,l.2⟩
      have h9:=g8.upd uB (fun k l e=>by
       rcases l with (l | l) | l
       ·rw[e] at l;exact d2 l
       ·omega
       ·omega)
      have HC:=qb (h9.wider (T:=Fr S w (((X.setCell ⟨g,627,none⟩ Z).setCell ⟨g,626,none⟩ qcd).setCells B 0 mo.cells)) (fun k l=>by
       rcases i8 k l with h | h
       ·exact .inl h
       ·exact .inr ⟨h.1,by have:=b3.size;have:=uB.size;omega⟩) (fun k l=>by
       rcases l with l | l
       ·have:=(qa H0).lt k l;have:=u8.size;have:=b3.size;have:=uB.size;omega
       ·exact l.2))
      have o0:=(qa U7).size;have v8:Upd S w X:=(qa U7).then u8 (fun i hi l=>by
       rcases l with l | l
       ·exact l
       ·omega)
      have k4:Upd S w ((X.setCell ⟨g,627,none⟩ Z).setCell ⟨g,626,none⟩ qcd):=v8.then b3 (fun i hi e=>by rw[e];exact(qa H0).inG);have HU:=qb (k4.then uB (fun i hi e=>by omega));rw[a6] at g6;have n9:=qb a6;rw[a6] at N HC HU K rM;unfold qcd at N HU K rM;have f8:ChS ((((X.setCell ⟨g,627,none⟩ (.slice k2 (q.say m).news.length c8)).setCell ⟨g,626,none⟩ (.slice none 0 0))).setCells B 0 mo.cells) g (Fr S w ((((X.setCell ⟨g,627,none⟩ (.slice k2 (q.say m).news.length c8)).setCell ⟨g,626,none⟩ (.slice none 0 0))).setCells B 0 mo.cells)) (q.say m).turned:=⟨_,_,_,qa HC⟩;have k6:=qb f8;clear f8 HC g8 b3 d8 i4 b8 uB h9 v8 k4 i8 F u8 h8 a6;go_wp2_with (with_reducible first|(first|refine' tw1 (qg ?_) ?_|refine' tw2 (qg ?_) ?_);rotate_left|refine' tw3 (qg ?_)|rfl|apply tn|refine' tw4 ?_);have D:=qa N;refine bodyPost_ret (qq rfl _ _ B _ _ _ _ rfl D.at_ Tryz.underlying71 rfl (by rw[D.agg];exact Tryz.infoMsg)) rfl ?_;rw[qa g0];exact⟨rfl,qa k6,qa HU⟩
theorem zcf(g:Nat)(S:Nat→Prop)(c:Ch)(w:World)(h:ChS w g S c)(q:Tb w)(o:Apart S)(t:c.s.key.size≤100000000)(l:0≤c.s.ch∧c.s.ch<4294967296)(i:c.news.length<1000000)(m:c.xs.length≤16) :
  Calls Tryz.prog 36 #[.pointer (some ⟨g,0,none⟩)] w fun e w'=>e = .returned (.tuple #[.agg c.sign.2.1.cells.toArray,.int .i64 c.sign.2.2])∧ChS w' g (Fr S w w') c.sign.1∧Upd S w w' :=
 q7x g S c w h q.c o.cc t l i m
end Go.Proofs.YthnohmjbbeahmaaGreatDoor
