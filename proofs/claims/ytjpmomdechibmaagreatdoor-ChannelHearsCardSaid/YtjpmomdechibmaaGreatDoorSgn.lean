/-
  Sign.
-/
import Derived.Test.YtjpmomdechibmaaGreatDoorMcd
import Derived.Test.YtjpmomdechibmaaGreatDoorMcf
set_option linter.unusedVariables false
set_option linter.unusedSimpArgs false
namespace Go.Proofs.YtjpmomdechibmaaGreatDoor
open Go.RowKit
def Plan.pre:List Nat→Plan→Plan
 | [],p=>p
 | i::l,p=> .step i (Plan.pre l p)
attribute [local go_sem ↓ high] z7 qal qan qa0 qab qac qag qaa qnt
attribute [local go_sem] qcp qdl qdr qfx zn qc2 qc3 qc6 qbm q6t
def qfn(c:Ch):Int:=if c.k.awaits=true then 5 else if qbe 1 c.xs=false then 5 else if c.k.signed=65535 then 2 else 0
def Ch.signing(c:Ch):Ch:= {c.goOn 1 with k:= {(c.goOn 1).k with signed:=c.k.signed+1,awaits:=true,revoked:=false}}
noncomputable def qao(c:Ch):MsgV:=⟨6,0,0,0,zx false c.s.key c.s.ch (c.k.signed+1) c.signing.loc c.signing.rem c.signing.xs,0,c.k.signed+1⟩
def Ch.turned(c:Ch):Ch:= {c with last:=c.news,news:=[]}
noncomputable def Ch.sign(c:Ch):Ch × MsgV × Int:=if qfn c=0 then ((c.signing.say (qao c)).turned,(qao c).on c.s.ch,0) else (c,MsgV.zero,qfn c)
theorem qxs{c:Ch}{e:Int}(h:qfn c=e)(n:e≠0):c.sign=(c,MsgV.zero,e):=by unfold Ch.sign;rw[h,if_neg n]
theorem qf4(l:List Live):∀c:Ch,(l.foldl qbh c).k=c.k∧(l.foldl qbh c).s=c.s∧(l.foldl qbh c).news=c.news∧(l.foldl qbh c).last=c.last∧(l.foldl qbh c).shelf=c.shelf:=by
 induction l with
 | nil=>intro c;exact⟨rfl,rfl,rfl,rfl,rfl⟩
 | cons x l q =>
  intro c
  rw[List.foldl_cons]
  obtain⟨a,b,d,e,f⟩:=q (qbh c x)
  have o:(qbh c x).k=c.k∧(qbh c x).s=c.s∧(qbh c x).news=c.news∧(qbh c x).last=c.last∧(qbh c x).shelf=c.shelf:=by
   unfold qbh
   split
   ·unfold Ch.give
    split<;>exact⟨rfl,rfl,rfl,rfl,rfl⟩
   ·exact⟨rfl,rfl,rfl,rfl,rfl⟩
  obtain⟨g,i,j,m,f'⟩:=o
  exact⟨a.trans g,b.trans i,d.trans j,e.trans m,f.trans f'⟩
theorem qpf(c:Ch)(ev:Int):(c.goOn ev).k=c.k:=(qf4 _ c).1
theorem zb9(c:Ch)(ev:Int):(c.goOn ev).s=c.s:=(qf4 _ c).2.1
theorem q2y(c:Ch)(ev:Int):(c.goOn ev).news=c.news:=(qf4 _ c).2.2.1
theorem ChP.turn{w:World}{g:Nat}{S:Nat→Prop}{c:Ch}{l nv o:Value}(h:ChP w g S c l nv o):ChP ((w.setCell ⟨g,627,none⟩ nv).setCell ⟨g,626,none⟩ qbl) g S c.turned l qbl nv:=by
 have u:Upd (· = g) w ((w.setCell ⟨g,627,none⟩ nv).setCell ⟨g,626,none⟩ qbl):=((Upd.refl _ _).set1 627 _).set1 626 _
 have q:∀ {T:TypeId} {v:Value} {n:Nat} {xs:List Value},T≠92→w.ownsRow 0 T 38 v n xs→∀k,v.ownBlock=some k→¬k=g:=by
  intro T v n xs x C k i e
  obtain⟨t,y⟩:=qw C k i
  exact za y h.at_ x e
 have j:=zu h.at_ 627 nv
 rw[q7y c l nv o h.ok.s.seed h.ok.shelf c.news nv] at j
 have f:=zu j 626 qbl
 rw[qqg ({c with last:=c.news} : Ch) l nv nv h.ok.s.seed h.ok.shelf [] qbl] at f
 refine⟨f,⟨h.ok.s,h.ok.signed,h.ok.heard,h.ok.nextOwn,h.ok.nextTheirs,h.ok.loc,h.ok.rem,h.ok.xs,h.ok.few,h.ok.shelf,?_,h.ok.news,?_⟩,?_,?_,?_,h.inG,h.inL,?_,h.inN,?_,fun k i=>Nat.lt_of_lt_of_le (h.lt k i) u.size⟩
 ·intro m z;cases z
 ·exact⟨Nat.zero_le _,h.ok.many.1⟩
 ·exact qq h.live u (q (by decide) h.live)
 ·exact World.ownsRow_nil _ _ _ _
 ·exact qq h.news u (q (by decide) h.news)
 ·intro k i;simp[qbl,Value.ownBlock] at i
 ·intro k i;simp[qbl,Value.ownBlock] at i
theorem q97(m:MsgV)(ch:Int):(m.on ch).hash=m.hash:=rfl
theorem q6a(c:Ch)(ev:Int):(c.goOn ev).xs.length≤c.xs.length:=by
 unfold Ch.goOn qcl zk
 exact Nat.le_trans (List.length_filter_le _ _) (by rw[List.length_map];exact Nat.le_refl _)
set_option maxRecDepth 100000 in
set_option maxHeartbeats 1000000 in
theorem qxr(g:Nat)(S:Nat→Prop)(c:Ch)(w:World)(h:ChS w g S c)(hT:Tb w)(hS:Apart S)(f:c.s.key.size≤100000000)(l4:0≤c.s.ch∧c.s.ch<4294967296)(i0:c.news.length<1000000)(o7:c.xs.length≤16) :
  Calls Tryz.prog 16 #[.pointer (some ⟨g,0,none⟩)] w fun e w'=>e = .returned (.tuple #[.agg c.sign.2.1.cells.toArray,.int .i64 c.sign.2.2])∧ChS w' g (Fr S w w') c.sign.1∧Upd S w w':=by
 obtain⟨lv,nv,av,h⟩:=h
 go_enter Tryz.func16,Tryz.ntmps16
 go_upto_region 1 with fail
 have hB:=qb6 w MsgV.zero qo
 have n1:qx w (w.alloc (.cells MsgV.zero.cells.toArray 30)):=(Upd.refl _ _).alloc _
 generalize w.alloc (.cells MsgV.zero.cells.toArray 30)=w1 at hB n1 ⊢
 obtain⟨B,g6⟩:∃B,B=w.heap.size:=⟨_,rfl⟩
 rw[←g6] at hB ⊢
 have o0:w.heap.size≤B:=by omega
 have i1:g≠B:=by have:=h.lt g h.inG;omega
 have c8:¬S B:=fun e=>by have:=h.lt B e;omega
 clear g6
 have h1:=h.new n1
 have a8:w1.cell? ⟨g,39,none⟩=some (.bool c.k.awaits):=h1.toR.awaits
 have g2:w1.cell? ⟨g,47,none⟩=some lv:=h1.toR.live
 have i8:qfn c=if c.k.awaits=true then 5 else if qbe 1 c.xs=false then 5 else if c.k.signed=65535 then 2 else 0:=rfl
 have o6:=h.ok.few
 have X:=qnl lv c.xs 1 (by omega) w1 (hT.new n1).glob h1.toI.lives
 obtain⟨la,n6,l6⟩:=qv h.live
 have C:=qb i8
 have H0:=qb h
 have H1:=qb h1
 have HB:=qb hB
 have N1:=qb n1
 have g0:=qb (hT.new n1)
 have l7:=h.ok.signed
 have bad:∀(W:World) (e:Int),qx w1 W→qfn c=e→e≠0 →
   stOk W B 0 38 MsgV.zero.cells.toArray=true∧MsB (W.setCells B 0 MsgV.zero.cells) B MsgV.zero∧c.sign=(c,MsgV.zero,e)∧ChS (W.setCells B 0 MsgV.zero.cells) g (Fr S w (W.setCells B 0 MsgV.zero.cells)) c∧Upd S w (W.setCells B 0 MsgV.zero.cells):=by
  intro W e nW hs he
  have hb:=hB.new nW
  have u:=qad (w:=W) (b:=B) MsgV.zero.cells
  exact⟨hb.stOk qo,hb.put qo,qxs hs he,((h1.new nW).upd u (fun k f e=>by rw[e] at f;exact c8 f)).fr w,((n1.trans nW).mono (T:=S) (fun _ _ h=>h.elim)).then u (fun i hi e=>by omega)⟩
 have U:=qb bad
 clear i8 h h1 hB n1 hT bad
 cases ha:c.k.awaits with
 | true =>
  rw[ha,if_pos rfl] at C
  rw[ha] at a8
  obtain⟨E,x,hE,hC,hU⟩:=qa U w1 5 (Upd.refl _ _) (qa C) (by decide)
  have I:=qb x
  have HE:=qb hE
  have HC:=qb hC
  have HU:=qb hU
  clear x hE hC hU X
  go_wp2_with (with_reducible first|(first|refine' tw1 (qh ?_) ?_|refine' tw2 (qh ?_) ?_);rotate_left|refine' tw3 (qh ?_)|rfl|apply tn|refine' tw4 ?_)
  have x:=qa I
  refine bodyPost_ret (qu rfl _ _ B _ _ _ _ rfl x.at_ Tryz.underlying30 rfl (by rw[x.agg];exact Tryz.infoMsg)) rfl ?_
  rw[qa HE]
  exact⟨rfl,qa HC,qa HU⟩
 | false =>
  rw[ha,if_neg (by decide)] at C
  rw[ha] at a8
  rw[l6] at g2 X
  go_wp2_with (with_reducible first|(first|refine' tw1 (qh ?_) ?_|refine' tw2 (qh ?_) ?_);rotate_left|refine' tw3 (qh ?_)|rfl|apply tn|refine' tw4 ?_)
  refine X.mono ?_
  rintro e N ⟨rfl,n2⟩
  clear X a8 g2
  cases hc:qbe 1 c.xs with
  | false =>
   rw[hc,if_pos rfl] at C
   obtain⟨E,x,hE,hC,hU⟩:=qa U N 5 n2 (qa C) (by decide)
   have I:=qb x
   have HE:=qb hE
   have HC:=qb hC
   have HU:=qb hU
   clear x hE hC hU n2
   go_wp2_with (with_reducible first|(first|refine' tw1 (qh ?_) ?_|refine' tw2 (qh ?_) ?_);rotate_left|refine' tw3 (qh ?_)|rfl|apply tn|refine' tw4 ?_)
   have x:=qa I
   refine bodyPost_ret (qu rfl _ _ B _ _ _ _ rfl x.at_ Tryz.underlying30 rfl (by rw[x.agg];exact Tryz.infoMsg)) rfl ?_
   rw[qa HE]
   exact⟨rfl,qa HC,qa HU⟩
  | true =>
   rw[hc,if_neg (by decide)] at C
   have e4:N.cell? ⟨g,37,none⟩=some (.int .i64 c.k.signed):=((qa H1).new n2).toR.signed
   by_cases c9:c.k.signed=65535
   ·rw[if_pos c9] at C
    obtain⟨E,x,hE,hC,hU⟩:=qa U N 2 n2 (qa C) (by decide)
    have I:=qb x
    have HE:=qb hE
    have HC:=qb hC
    have HU:=qb hU
    rw[c9] at e4
    clear x hE hC hU n2 c9 l7
    go_wp2_with (with_reducible first|(first|refine' tw1 (qh ?_) ?_|refine' tw2 (qh ?_) ?_);rotate_left|refine' tw3 (qh ?_)|rfl|apply tn|refine' tw4 ?_)
    have x:=qa I
    refine bodyPost_ret (qu rfl _ _ B _ _ _ _ rfl x.at_ Tryz.underlying30 rfl (by rw[x.agg];exact Tryz.infoMsg)) rfl ?_
    rw[qa HE]
    exact⟨rfl,qa HC,qa HU⟩
   ·rw[if_neg c9] at C
    have b9:c.sign=((c.signing.say (qao c)).turned,(qao c).on c.s.ch,0):=by unfold Ch.sign;rw[if_pos (qa C)]
    have f7:=qb b9
    have i2:=qlp g S c 1 N ⟨lv,nv,av,(qa H1).new n2⟩ ((qa g0).new n2).glob
    have N2:=qb n2
    clear b9 U n2
    go_wp2_with (with_reducible first|(first|refine' tw1 (qh ?_) ?_|refine' tw2 (qh ?_) ?_);rotate_left|refine' tw3 (qh ?_)|rfl|apply tn|refine' tw4 ?_)
    refine i2.mono ?_
    rintro e y ⟨rfl,⟨d2,j8,g1,h3⟩,u3⟩
    obtain⟨c1,a6⟩:∃c1,c1=c.goOn 1:=⟨_,rfl⟩
    have f3:c1.k=c.k:=by rw[a6];exact qpf c 1
    have i7:c1.s=c.s:=by rw[a6];exact zb9 c 1
    have i5:c1.news=c.news:=by rw[a6];exact q2y c 1
    rw[←a6] at h3
    have e4:y.cell? ⟨g,37,none⟩=some (.int .i64 c.k.signed):=by rw[←f3];exact h3.toR.signed
    have k4:y.frozen? ⟨g,37,none⟩=false:=qm h3.at_ 37
    have l8:IntKind.i64.wrap (c.k.signed+1)=c.k.signed+1:=qik (by omega) (by omega)
    have h4:=h3.putSigned (c.k.signed+1) (by omega)
    have u4:=qf2 y g 37 (.int .i64 (c.k.signed+1))
    have a8:(y.setCell ⟨g,37,none⟩ (.int .i64 (c.k.signed+1))).cell? ⟨g,39,none⟩=some (.bool false):=by
     have:=h4.toR.awaits
     rw[show (({c1 with k:= {c1.k with signed:=c.k.signed+1}} : Ch).v d2 j8 g1).k.awaits=c1.k.awaits from rfl,f3,ha] at this
     exact this
    have k5:(y.setCell ⟨g,37,none⟩ (.int .i64 (c.k.signed+1))).frozen? ⟨g,39,none⟩=false:=qm h4.at_ 39
    have h5:=h4.putAwaits true
    have u5:=qf2 (y.setCell ⟨g,37,none⟩ (.int .i64 (c.k.signed+1))) g 39 (.bool true)
    have k3:((y.setCell ⟨g,37,none⟩ (.int .i64 (c.k.signed+1))).setCell ⟨g,39,none⟩ (.bool true)).cell? ⟨g,44,none⟩=some (.bool c1.k.revoked):=h5.toR.revoked
    have k6:((y.setCell ⟨g,37,none⟩ (.int .i64 (c.k.signed+1))).setCell ⟨g,39,none⟩ (.bool true)).frozen? ⟨g,44,none⟩=false:=qm h5.at_ 44
    have h6:=h5.putRevoked false
    have u6:=qf2 ((y.setCell ⟨g,37,none⟩ (.int .i64 (c.k.signed+1))).setCell ⟨g,39,none⟩ (.bool true)) g 44 (.bool false)
    have K:c.signing = {c1 with k:= {c1.k with signed:=c.k.signed+1,awaits:=true,revoked:=false}} := by unfold Ch.signing;rw[a6]
    rw[←K] at h6
    have c6:Upd (· = g) y (((y.setCell ⟨g,37,none⟩ (.int .i64 (c.k.signed+1))).setCell ⟨g,39,none⟩ (.bool true)).setCell ⟨g,44,none⟩ (.bool false)):=(u4.trans u5).trans u6
    have U6:=qb (((((qa N1).trans (qa N2)).mono (T:=S) (fun _ _ h=>h.elim)).trans u3).trans (c6.mono (fun k _ e=>by rw[e];exact(qa H0).inG)))
    have h7:=qb ((((qa HB).new (qa N2)).upd u3 c8).upd c6 (fun e=>i1 e.symm))
    have f9:=qb (And.intro u3.size c6.size)
    have j3:=qb ((qa N1).size)
    have j4:=qb ((qa N2).size)
    have e1:=qb ((((qa g0).new (qa N2)).upd u3 hS).upd (c6.mono (T:=S) (fun k _ e=>by rw[e];exact(qa H0).inG)) hS)
    have H6:=qb h6
    have c0:c.signing.s=c.s:=by rw[K];exact i7
    have j0:c.signing.news=c.news:=by rw[K];exact i5
    have d1:c.signing.k.signed=c.k.signed+1:=by rw[K]
    have e0:c.signing.xs.length≤19:=by have:=q6a c 1;show (c.goOn 1).xs.length≤19;omega
    clear h3 h4 h5 h6 u3 u4 u5 u6 c6 K
    go_upto_region 8 with (with_reducible first|(first|refine' tw1 (qh ?_) ?_|refine' tw2 (qh ?_) ?_);rotate_left|refine' tw3 (qh ?_)|rfl|apply tn|refine' tw4 ?_)
    clear e4 k4 a8 k5 k3 k6 i2 l8
    generalize ((y.setCell ⟨g,37,none⟩ (.int .i64 (c.k.signed+1))).setCell ⟨g,39,none⟩ (.bool true)).setCell ⟨g,44,none⟩ (.bool false)=q at U6 h7 f9 e1 H6 ⊢
    obtain⟨l,f1⟩:∃l,l=c.signing:=⟨_,rfl⟩
    have i9:qao c=⟨6,0,0,0,zx false c.s.key c.s.ch (c.k.signed+1) l.loc l.rem l.xs,0,c.k.signed+1⟩:=by rw[f1];rfl
    rw[←f1] at H6 c0 j0 d1 f7 e0
    have f8:=qb i9
    clear a6 f3 i7 i5 i9 f1 c1
    have hP:=qa H6
    have j2:l.xs.length≤1000000:=hP.ok.few
    obtain⟨j5,c4,d8⟩:=qv hP.live
    have i6:=hP.ok.xs
    have g4:q.drew.cell? ⟨g,35,none⟩=some (.string c.s.key):=by rw[←c0];exact hP.key
    have d0:q.drew.cell? ⟨g,0,none⟩=some (.int .u32 c.s.ch):=by rw[←c0];exact hP.toR.ch
    have c7:q.drew.cell? ⟨g,37,none⟩=some (.int .i64 (c.k.signed+1)):=by rw[←d1];exact hP.toR.signed
    have dB:zr q.drew g 45 2=some #[.int .u64 l.loc,.int .u64 l.rem]:=hP.base
    have e5:q.drew.cell? ⟨g,47,none⟩=some d2:=hP.toR.live
    rw[d8] at e5
    have f4:=fun W (n:qx q W)=>qwt false l.loc l.rem d2 l.xs e0 W ((qa e1).new n).spans (hP.toI.lives.new n)
    rw[d8] at f4
    have o4:l.s.key.size≤100000000:=by rw[c0];exact f
    have j1:=fun W (n:qx q W) V (hV:ViewO false l.loc l.rem l.xs W V)=>qsq false l.loc l.rem V l.xs c.s.key c.s.ch (c.k.signed+1) j2 W ((qa e1).new n).tabs hV i6 f l4 (by omega) hP.ok.loc hP.ok.rem
    have P:=qhd false c.s.key c.s.ch (c.k.signed+1) l.loc l.rem l.xs
    have f6:=qb f4
    have e2:=qb j1
    have c3:∀W,qx q.drew W→W.cell? ⟨g,35,none⟩=some (.string c.s.key)∧W.cell? ⟨g,0,none⟩=some (.int .u32 c.s.ch)∧W.cell? ⟨g,37,none⟩=some (.int .i64 (c.k.signed+1))∧zr W g 45 2=some #[.int .u64 l.loc,.int .u64 l.rem]∧W.cell? ⟨g,47,none⟩=some (.slice j5 l.xs.length c4):=by
     intro W n
     have l0:=hP.new (((Upd.refl (fun _=>False) q).drew).trans n)
     exact⟨n.cell g4 (fun h=>h),n.cell d0 (fun h=>h),n.cell c7 (fun h=>h),l0.base,n.cell e5 (fun h=>h)⟩
    have J:=qb c3
    have g7:=c3 q.drew (Upd.refl _ _)
    clear hP f4 j1 c3 g4 d0 c7 dB e5
    generalize zx false c.s.key c.s.ch (c.k.signed+1) l.loc l.rem l.xs=T at *
    go_cut [4] from 48 to 72 (fun hv wx=>∃H,hv = .pointer (some ⟨H,0,none⟩)∧q.heap.size≤H∧HsB wx H T∧qx q wx)
    case first =>
     refine qb2 (fun w'=>w'.cell? ⟨g,35,none⟩=some (.string c.s.key)∧w'.cell? ⟨g,0,none⟩=some (.int .u32 c.s.ch)∧w'.cell? ⟨g,37,none⟩=some (.int .i64 (c.k.signed+1))∧zr w' g 45 2=some #[.int .u64 l.loc,.int .u64 l.rem]∧w'.cell? ⟨g,47,none⟩=some (.slice j5 l.xs.length c4)) [4,9,14,18,22]
      (Plan.pre [0,1,2,3,4,5,6,7,8,9,10,11,12,13,14,15,16,17,18,19,20,21,22] (.fork (.step 23 (.fork (.of [24,25,26]) (.of [25,24,26]))) (.of [25,23,24,26]))) (by kernel_rfl) (by kernel_rfl) g7 ?_
     simp only[Plan.of,Plan.pre]
     go_wp2_with (with_reducible first|(first|refine' qw1 (qh ?_) ?_|refine' qw2 (qh ?_) ?_|refine' qw3 (qh ?_) ?_);rotate_left|refine' qw4 (qh ?_)|refine' qw5 (qh ?_)|rfl|apply qn)
     have nd:qx q q.drew:=(Upd.refl _ _).drew
     refine qf ?_ ?_
     ·go_wp2_with (with_reducible first|(first|refine' qw1 (qh ?_) ?_|refine' qw2 (qh ?_) ?_|refine' qw3 (qh ?_) ?_);rotate_left|refine' qw4 (qh ?_)|refine' qw5 (qh ?_)|rfl|apply qn)
      refine(qa f6 q.drew nd).mono ?_
      rintro e wa ⟨V,rfl,Z,hV⟩
      go_wp2_with (with_reducible first|(first|refine' qw1 (qh ?_) ?_|refine' qw2 (qh ?_) ?_|refine' qw3 (qh ?_) ?_);rotate_left|refine' qw4 (qh ?_)|refine' qw5 (qh ?_)|rfl|apply qn)
      refine⟨qa J _ Z,?_⟩
      refine qf ?_ ?_
      ·go_wp2_with (with_reducible first|(first|refine' qw1 (qh ?_) ?_|refine' qw2 (qh ?_) ?_|refine' qw3 (qh ?_) ?_);rotate_left|refine' qw4 (qh ?_)|refine' qw5 (qh ?_)|rfl|apply qn)
       refine(qa e2 wa (nd.trans Z) V hV).mono ?_
       rintro e wb ⟨rfl,nb⟩
       obtain⟨E,x,nF⟩:=qpm wb T P
       have I:=qb x
       have NF:=qb (((nd.trans Z).trans nb).trans nF)
       have j:qx wb (wb.alloc (.cells (zb zz).toArray 28)):=(Upd.refl _ _).alloc _
       have hK:=qb (qa J _ ((Z.trans nb).trans j))
       have L:q.heap.size≤wb.heap.size:=((nd.trans Z).trans nb).size
       clear x nF j nb
       go_wp2_with (with_reducible first|(first|refine' qw1 (qh ?_) ?_|refine' qw2 (qh ?_) ?_|refine' qw3 (qh ?_) ?_);rotate_left|refine' qw4 (qh ?_)|refine' qw5 (qh ?_)|rfl|apply qn)
       refine⟨qa hK,?_⟩
       go_wp2_with (with_reducible first|(first|refine' qw1 (qh ?_) ?_|refine' qw2 (qh ?_) ?_|refine' qw3 (qh ?_) ?_);rotate_left|refine' qw4 (qh ?_)|refine' qw5 (qh ?_)|rfl|apply qn)
       go_meet
       case rel=>exact⟨_,rfl,L,qa I,qa NF⟩
      ·have j:qx wa (wa.alloc (.cells (zb zz).toArray 28)):=(Upd.refl _ _).alloc _
       have o:=qby wa zz qo
       have L:q.heap.size≤wa.heap.size:=(nd.trans Z).size
       go_wp2_with (with_reducible first|(first|refine' qw1 (qh ?_) ?_|refine' qw2 (qh ?_) ?_|refine' qw3 (qh ?_) ?_);rotate_left|refine' qw4 (qh ?_)|refine' qw5 (qh ?_)|rfl|apply qn)
       refine⟨qa J _ (Z.trans j),?_⟩
       generalize wa.alloc (.cells (zb zz).toArray 28)=wc at j o ⊢
       generalize wa.heap.size=H at o L ⊢
       have a4:=qb o
       clear o
       go_wp2_with (with_reducible first|(first|refine' qw1 (qh ?_) ?_|refine' qw2 (qh ?_) ?_|refine' qw3 (qh ?_) ?_);rotate_left|refine' qw4 (qh ?_)|refine' qw5 (qh ?_)|rfl|apply qn)
       refine(qa e2 wc ((nd.trans Z).trans j) V (hV.new j)).mono ?_
       rintro e wb ⟨rfl,nb⟩
       have D:=(qa a4).new nb
       have E:=D.stOk T P
       have I:=qb (D.put T P)
       have NF:=qb ((((nd.trans Z).trans j).trans nb).then (qad (w:=wb) (b:=H) (zb T)) (fun i hi e=>by omega))
       clear D nb
       go_wp2_with (with_reducible first|(first|refine' qw1 (qh ?_) ?_|refine' qw2 (qh ?_) ?_|refine' qw3 (qh ?_) ?_);rotate_left|refine' qw4 (qh ?_)|refine' qw5 (qh ?_)|rfl|apply qn)
       go_meet
       case rel=>exact⟨_,rfl,L,qa I,qa NF⟩
     ·have j:qx q.drew (q.drew.alloc (.cells (zb zz).toArray 28)):=(Upd.refl _ _).alloc _
      have F:qx q.drew (q.alloc (.cells (zb zz).toArray 28)).drew:=j
      have o:HsB (q.alloc (.cells (zb zz).toArray 28)).drew q.heap.size zz:=(qby q zz qo).new ((Upd.refl _ _).drew)
      have L:q.heap.size≤q.heap.size:=Nat.le_refl _
      go_wp2_with (with_reducible first|(first|refine' qw1 (qh ?_) ?_|refine' qw2 (qh ?_) ?_|refine' qw3 (qh ?_) ?_);rotate_left|refine' qw4 (qh ?_)|refine' qw5 (qh ?_)|rfl|apply qn)
      refine⟨qa J _ F,?_⟩
      generalize (q.alloc (.cells (zb zz).toArray 28)).drew=wc at F o ⊢
      generalize hH:q.heap.size=H at o ⊢
      rw[hH] at L
      have a4:=qb o
      clear o j
      go_wp2_with (with_reducible first|(first|refine' qw1 (qh ?_) ?_|refine' qw2 (qh ?_) ?_|refine' qw3 (qh ?_) ?_);rotate_left|refine' qw4 (qh ?_)|refine' qw5 (qh ?_)|rfl|apply qn)
      refine(qa f6 wc (nd.trans F)).mono ?_
      rintro e wa ⟨V,rfl,Z,hV⟩
      have D:=(qa a4).new Z
      go_wp2_with (with_reducible first|(first|refine' qw1 (qh ?_) ?_|refine' qw2 (qh ?_) ?_|refine' qw3 (qh ?_) ?_);rotate_left|refine' qw4 (qh ?_)|refine' qw5 (qh ?_)|rfl|apply qn)
      refine⟨qa J _ (F.trans Z),?_⟩
      have k0:=qb D
      clear D
      go_wp2_with (with_reducible first|(first|refine' qw1 (qh ?_) ?_|refine' qw2 (qh ?_) ?_|refine' qw3 (qh ?_) ?_);rotate_left|refine' qw4 (qh ?_)|refine' qw5 (qh ?_)|rfl|apply qn)
      refine(qa e2 wa ((nd.trans F).trans Z) V hV).mono ?_
      rintro e wb ⟨rfl,nb⟩
      have f0:=(qa k0).new nb
      have E:=f0.stOk T P
      have I:=qb (f0.put T P)
      have NF:=qb ((((nd.trans F).trans Z).trans nb).then (qad (w:=wb) (b:=H) (zb T)) (fun i hi e=>by omega))
      clear f0 nb
      go_wp2_with (with_reducible first|(first|refine' qw1 (qh ?_) ?_|refine' qw2 (qh ?_) ?_|refine' qw3 (qh ?_) ?_);rotate_left|refine' qw4 (qh ?_)|refine' qw5 (qh ?_)|rfl|apply qn)
      go_meet
      case rel=>exact⟨_,rfl,Nat.le_of_eq hH,qa I,qa NF⟩
    case rest =>
     obtain⟨H,rfl,hH,e8,n7⟩:=hcut
     obtain⟨t,rfl⟩:∃t:World,t=wc:=⟨_,rfl⟩
     clear g7
     have b4:=(qa H6).new n7
     have U7:=qb ((qa U6).trans (n7.mono (T:=S) (fun _ _ h=>h.elim)))
     have h8:=qb ((qa h7).new n7)
     have m0:=qb n7.size
     have c7:t.drew.cell? ⟨g,37,none⟩=some (.int .i64 (c.k.signed+1)):=by rw[←d1];exact b4.toR.signed
     have dH:zr t.drew H 0 32=some (zb T).toArray:=e8.row
     have l3:=fun W=>qyg 6 (c.k.signed+1) T P W
     rw[←qa f8] at l3
     have d9:(qao c).hash.length=32:=by rw[qa f8];exact P
     have f2:l.news.length<1000000:=by rw[j0];exact i0
     have b8:=fun W (n:qx t W)=>qoo g (Fr S N y) l (qao c) d9 W ⟨d2,j8,g1,b4.new n⟩ f2
     rw[c0] at b8
     have b7:((qao c).on c.s.ch).hash.length=32:=by rw[q97];exact d9
     have d4:=qb b8
     have e7:t.drew.cell? ⟨g,37,none⟩=some (.int .i64 (c.k.signed+1))∧zr t.drew H 0 32=some (zb T).toArray:=⟨c7,dH⟩
     have o3:g<t.heap.size:=zq b4.at_
     have i4:∀k,Fr S N y k→k<t.heap.size:=b4.lt
     clear b4 b8
     generalize qao c=m at *
     generalize o5:m.on c.s.ch=mo at *
     go_upto_region 9 with fail
     go_cut [5] from 73 to 81 (fun hv wx=>∃M,hv = .pointer (some ⟨M,0,none⟩)∧t.heap.size≤M∧MsB wx M mo∧ChS wx g (Fr (Fr S N y) t wx) (l.say m)∧Upd (Fr S N y) t wx)
     case first =>
      refine qb2 (fun w'=>w'.cell? ⟨g,37,none⟩=some (.int .i64 (c.k.signed+1))∧zr w' H 0 32=some (zb T).toArray) [5,6] (.fork (Plan.pre [0,1,2,3,4,5,6,7] (.of [8,9,10])) (Plan.pre [9,0,1,2,3,4,5,6,7] (.of [8,10]))) (by kernel_rfl) (by kernel_rfl) e7 ?_
      simp only[Plan.of,Plan.pre]
      have m4:qx t t.drew:=(Upd.refl _ _).drew
      have k7:∀k,Fr S N y k→k≠H:=fun k f e=>by
       have h6:=(qa H6).lt k f
       omega
      refine qf ?_ ?_
      ·go_wp2_with (with_reducible first|(first|refine' qw1 (qh ?_) ?_|refine' qw2 (qh ?_) ?_|refine' qw3 (qh ?_) ?_);rotate_left|refine' qw4 (qh ?_)|refine' qw5 (qh ?_)|rfl|apply qn)
       refine(qa d4 t.drew m4).mono ?_
       rintro e wa ⟨rfl,⟨m3,m5,k2,e9⟩,ua⟩
       have d3:Upd (Fr S N y) t wa:=ua.ofDrew
       have g8:=e8.upd d3 (fun f=>k7 H f rfl)
       have b6:ChS wa g (Fr (Fr S N y) t wa) (l.say m):=⟨m3,m5,k2,e9⟩
       have a5:wa.cell? ⟨g,37,none⟩=some (.int .i64 (c.k.signed+1)):=by rw[←d1];exact e9.toR.signed
       obtain⟨E,x,nF⟩:=qgu wa mo b7
       have j:qx wa (wa.alloc (.cells MsgV.zero.cells.toArray 30)):=(Upd.refl _ _).alloc _
       have k8:=qb (And.intro (j.cell a5 (fun h=>h)) (g8.new j).row)
       have I:=qb x
       have HC:=qb ((b6.new nF).grow nF.size)
       have HU:=qb (d3.trans (nF.mono (T:=Fr S N y) (fun _ _ h=>h.elim)))
       have L:t.heap.size≤wa.heap.size:=d3.size
       clear x nF j b6 e9 ua d3 a5 g8
       go_wp2_with (with_reducible first|(first|refine' qw1 (qh ?_) ?_|refine' qw2 (qh ?_) ?_|refine' qw3 (qh ?_) ?_);rotate_left|refine' qw4 (qh ?_)|refine' qw5 (qh ?_)|rfl|apply qn)
       refine⟨qa k8,?_⟩
       go_wp2_with (with_reducible first|(first|refine' qw1 (qh ?_) ?_|refine' qw2 (qh ?_) ?_|refine' qw3 (qh ?_) ?_);rotate_left|refine' qw4 (qh ?_)|refine' qw5 (qh ?_)|rfl|apply qn)
       go_meet
       case rel=>exact⟨_,rfl,L,qa I,qa HC,qa HU⟩
      ·have j:qx t (t.alloc (.cells MsgV.zero.cells.toArray 30)).drew:=((Upd.refl _ _).alloc _).drew
       have o:MsB (t.alloc (.cells MsgV.zero.cells.toArray 30)).drew t.heap.size MsgV.zero:=(qb6 t MsgV.zero qo).new ((Upd.refl _ _).drew)
       have b3:=e8.new j
       have a5:=j.cell (p:=⟨g,37,none⟩) e7.1 (fun h=>h)
       go_wp2_with (with_reducible first|(first|refine' qw1 (qh ?_) ?_|refine' qw2 (qh ?_) ?_|refine' qw3 (qh ?_) ?_);rotate_left|refine' qw4 (qh ?_)|refine' qw5 (qh ?_)|rfl|apply qn)
       refine⟨⟨a5,b3.row⟩,?_⟩
       have a9:=a5
       have e6:=b3.row
       generalize (t.alloc (.cells MsgV.zero.cells.toArray 30)).drew=wc at j o b3 a9 e6 ⊢
       generalize k9:t.heap.size=M at o ⊢
       have a4:=qb o
       have n8:=qb b3
       have o2:wc.cell? ⟨g,37,none⟩=some (.int .i64 (c.k.signed+1))∧zr wc H 0 32=some (zb T).toArray:=⟨a9,e6⟩
       clear o b3 a5 a9 e6 e7
       go_wp2_with (with_reducible first|(first|refine' qw1 (qh ?_) ?_|refine' qw2 (qh ?_) ?_|refine' qw3 (qh ?_) ?_);rotate_left|refine' qw4 (qh ?_)|refine' qw5 (qh ?_)|rfl|apply qn)
       refine(qa d4 wc j).mono ?_
       rintro e wa ⟨rfl,b6,ua⟩
       have g9:∀k,Fr S N y k→¬k=M:=fun k f e=>by
        have:=i4 k f
        omega
       have m9:=(qa a4).lt
       have D:=(qa a4).upd ua (fun f=>g9 M f rfl)
       have E:=D.stOk b7
       have um:=qad (w:=wa) (b:=M) mo.cells
       have I:=qb (D.put b7)
       have m2:=j.size
       have d6:ChS (wa.setCells M 0 mo.cells) g (Fr (Fr S N y) wc wa) (l.say m):=b6.upd um (fun k f e=>by
        rcases f with f | f
        ·exact g9 k f e
        ·omega)
       have d7:ChS (wa.setCells M 0 mo.cells) g (Fr (Fr S N y) wc (wa.setCells M 0 mo.cells)) (l.say m):=d6.grow um.size
       have HC:=qb (d7.later m2)
       clear d6 d7
       have HU:=qb (((j.mono (T:=Fr S N y) (fun _ _ h=>h.elim)).trans ua).then um (fun i hi e=>by omega))
       clear D b6 ua um
       go_wp2_with (with_reducible first|(first|refine' qw1 (qh ?_) ?_|refine' qw2 (qh ?_) ?_|refine' qw3 (qh ?_) ?_);rotate_left|refine' qw4 (qh ?_)|refine' qw5 (qh ?_)|rfl|apply qn)
       go_meet
       case rel=>exact⟨_,rfl,Nat.le_of_eq k9,qa I,qa HC,qa HU⟩
     case rest =>
      obtain⟨M,rfl,hM,h0,⟨j6,R,e3,z⟩,u8⟩:=hcut
      obtain⟨O,rfl⟩:∃O:World,O=wc:=⟨_,rfl⟩
      have g3:O.cell? ⟨g,626,none⟩=some R:=(qg z.at_ 626).trans (qpe _ j6 R e3 z.ok.s.seed z.ok.shelf)
      have m6:O.cell? ⟨g,627,none⟩=some e3:=(qg z.at_ 627).trans (qpd _ j6 R e3 z.ok.s.seed z.ok.shelf)
      have m7:O.frozen? ⟨g,626,none⟩=false:=qm z.at_ 626
      have m8:O.frozen? ⟨g,627,none⟩=false:=qm z.at_ 627
      have g5:=z.turn
      obtain⟨j7,c5,Y⟩:=qv z.news
      have a7:Upd (· = g) O ((O.setCell ⟨g,627,none⟩ R).setCell ⟨g,626,none⟩ qbl):=((Upd.refl _ _).set1 627 _).set1 626 _
      have l5:M≠g:=by omega
      have d5:=h0.upd a7 l5
      have h9:=(qa h8).upd u8 (fun f=>by
       rcases f with f | f
       ·exact c8 f
       ·have:=(qa HB).lt
        have:=qa j4
        omega)
      have b5:=h9.upd a7 (fun e=>i1 e.symm)
      have E:=b5.stOk b7
      have rM:=d5.row
      have I:=qb (b5.put b7)
      have uB:=qad (w:=(O.setCell ⟨g,627,none⟩ R).setCell ⟨g,626,none⟩ qbl) (b:=B) mo.cells
      have o1:B<t.heap.size:=(qa h8).lt
      have hz:=qa f9
      have n4:=qa j4
      have l9:=qa j3
      have n5:=qa m0
      have n9:=(qa HB).lt
      have i3:∀k,Fr (Fr S N y) t O k→Fr S w O k:=fun k f=>by
       rcases f with (f | f) | f
       ·exact .inl f
       ·exact .inr ⟨by omega,by have:=u8.size;omega⟩
       ·exact .inr ⟨by omega,f.2⟩
      have h2:=g5.upd uB (fun k f e=>by
       rcases f with (f | f) | f
       ·rw[e] at f;exact c8 f
       ·omega
       ·omega)
      have HC:=qb (h2.wider (T:=Fr S w (((O.setCell ⟨g,627,none⟩ R).setCell ⟨g,626,none⟩ qbl).setCells B 0 mo.cells)) (fun k f=>by
       rcases i3 k f with h | h
       ·exact .inl h
       ·exact .inr ⟨h.1,by have:=a7.size;have:=uB.size;omega⟩) (fun k f=>by
       rcases f with f | f
       ·have:=(qa H0).lt k f
        have:=u8.size
        have:=a7.size
        have:=uB.size
        omega
       ·exact f.2))
      have n3:=(qa U7).size
      have v8:Upd S w O:=(qa U7).then u8 (fun i hi f=>by
       rcases f with f | f
       ·exact f
       ·omega)
      have j9:Upd S w ((O.setCell ⟨g,627,none⟩ R).setCell ⟨g,626,none⟩ qbl):=v8.then a7 (fun i hi e=>by rw[e];exact(qa H0).inG)
      have HU:=qb (j9.then uB (fun i hi e=>by omega))
      rw[Y] at g3
      have n0:=qb Y
      rw[Y] at I HC HU E rM
      unfold qbl at I HU E rM
      have f5:ChS ((((O.setCell ⟨g,627,none⟩ (.slice j7 (l.say m).news.length c5)).setCell ⟨g,626,none⟩ (.slice none 0 0))).setCells B 0 mo.cells) g (Fr S w ((((O.setCell ⟨g,627,none⟩ (.slice j7 (l.say m).news.length c5)).setCell ⟨g,626,none⟩ (.slice none 0 0))).setCells B 0 mo.cells)) (l.say m).turned:=⟨_,_,_,qa HC⟩
      have k1:=qb f5
      clear f5 HC g5 a7 d5 h9 b5 uB h2 v8 j9 i3 z u8 h0 Y
      go_wp2_with (with_reducible first|(first|refine' tw1 (qh ?_) ?_|refine' tw2 (qh ?_) ?_);rotate_left|refine' tw3 (qh ?_)|rfl|apply tn|refine' tw4 ?_)
      have x:=qa I
      refine bodyPost_ret (qu rfl _ _ B _ _ _ _ rfl x.at_ Tryz.underlying30 rfl (by rw[x.agg];exact Tryz.infoMsg)) rfl ?_
      rw[qa f7]
      exact⟨rfl,qa k1,qa HU⟩
end Go.Proofs.YtjpmomdechibmaaGreatDoor
