/-
  Sign.
-/
import Derived.Test.YtjpmomdechibmaaGreatDoorMca
import Derived.Test.YtjpmomdechibmaaGreatDoorMcc
set_option linter.unusedVariables false
set_option linter.unusedSimpArgs false
namespace Go.Proofs.YtjpmomdechibmaaGreatDoor
open Go.RowKit
def Plan.pre:List Nat→Plan→Plan
 | [],p=>p
 | i::l,p=> .step i (Plan.pre l p)
attribute [local go_sem ↓ high] qaa qap qar qa1 qab qac qag qah qol
attribute [local go_sem] qcx qdn qdt qfm zq qcy qc0 qc2 qbn q8h
def qbo(c:Ch):Int:=if c.k.awaits=true then 5 else if qaj 1 c.xs=false then 5 else if c.k.signed=65535 then 2 else 0
def Ch.signing(c:Ch):Ch:= {c.goOn 1 with k:= {(c.goOn 1).k with signed:=c.k.signed+1,awaits:=true,revoked:=false}}
noncomputable def qax(c:Ch):MsgV:=⟨6,0,0,0,z8 false c.s.key c.s.ch (c.k.signed+1) c.signing.loc c.signing.rem c.signing.xs,0,c.k.signed+1⟩
def Ch.turned(c:Ch):Ch:= {c with last:=c.news,news:=[]}
noncomputable def Ch.sign(c:Ch):Ch × MsgV × Int:=if qbo c=0 then ((c.signing.say (qax c)).turned,(qax c).on c.s.ch,0) else (c,MsgV.zero,qbo c)
theorem qrl{c:Ch}{e:Int}(h:qbo c=e)(n:e≠0):c.sign=(c,MsgV.zero,e):=by unfold Ch.sign;rw[h,if_neg n]
theorem qgh(l:List Live):∀c:Ch,(l.foldl qbp c).k=c.k∧(l.foldl qbp c).s=c.s∧(l.foldl qbp c).news=c.news∧(l.foldl qbp c).last=c.last∧(l.foldl qbp c).shelf=c.shelf:=by
 induction l with
 | nil=>intro c;exact⟨rfl,rfl,rfl,rfl,rfl⟩
 | cons x l t =>
  intro c
  rw[List.foldl_cons]
  obtain⟨a,b,d,e,f⟩:=t (qbp c x)
  have q:(qbp c x).k=c.k∧(qbp c x).s=c.s∧(qbp c x).news=c.news∧(qbp c x).last=c.last∧(qbp c x).shelf=c.shelf:=by
   unfold qbp
   split
   ·unfold Ch.give
    split<;>exact⟨rfl,rfl,rfl,rfl,rfl⟩
   ·exact⟨rfl,rfl,rfl,rfl,rfl⟩
  obtain⟨g,i,m,o,f'⟩:=q
  exact⟨a.trans g,b.trans i,d.trans m,e.trans o,f.trans f'⟩
theorem qfq(c:Ch)(ev:Int):(c.goOn ev).k=c.k:=(qgh _ c).1
theorem zd6(c:Ch)(ev:Int):(c.goOn ev).s=c.s:=(qgh _ c).2.1
theorem q4l(c:Ch)(ev:Int):(c.goOn ev).news=c.news:=(qgh _ c).2.2.1
theorem ChP.turn{w:World}{g:Nat}{S:Nat→Prop}{c:Ch}{o nv q:Value}(h:ChP w g S c o nv q):ChP ((w.setCell ⟨g,627,none⟩ nv).setCell ⟨g,626,none⟩ qbt) g S c.turned o qbt nv:=by
 have u:Upd (· = g) w ((w.setCell ⟨g,627,none⟩ nv).setCell ⟨g,626,none⟩ qbt):=((Upd.refl _ _).set1 627 _).set1 626 _
 have t:∀ {T:TypeId} {v:Value} {n:Nat} {xs:List Value},T≠92→w.ownsRow 0 T 38 v n xs→∀k,v.ownBlock=some k→¬k=g:=by
  intro T v n xs y D k i e
  obtain⟨x,z⟩:=q8 D k i
  exact ze z h.at_ y e
 have l:=zz h.at_ 627 nv
 rw[q9q c o nv q h.ok.s.seed h.ok.shelf c.news nv] at l
 have f:=zz l 626 qbt
 rw[qrj ({c with last:=c.news} : Ch) o nv nv h.ok.s.seed h.ok.shelf [] qbt] at f
 refine⟨f,⟨h.ok.s,h.ok.signed,h.ok.heard,h.ok.nextOwn,h.ok.nextTheirs,h.ok.loc,h.ok.rem,h.ok.xs,h.ok.few,h.ok.shelf,?_,h.ok.news,?_⟩,?_,?_,?_,h.inG,h.inL,?_,h.inN,?_,fun k i=>Nat.lt_of_lt_of_le (h.lt k i) u.size⟩
 ·intro m C;cases C
 ·exact⟨Nat.zero_le _,h.ok.many.1⟩
 ·exact qu h.live u (t (by decide) h.live)
 ·exact World.ownsRow_nil _ _ _ _
 ·exact qu h.news u (t (by decide) h.news)
 ·intro k i;simp[qbt,Value.ownBlock] at i
 ·intro k i;simp[qbt,Value.ownBlock] at i
theorem zby(m:MsgV)(ch:Int):(m.on ch).hash=m.hash:=rfl
theorem q7z(c:Ch)(ev:Int):(c.goOn ev).xs.length≤c.xs.length:=by
 unfold Ch.goOn qa8 qz
 exact Nat.le_trans (List.length_filter_le _ _) (by rw[List.length_map];exact Nat.le_refl _)
set_option maxRecDepth 100000 in
set_option maxHeartbeats 1000000 in
theorem qyz(g:Nat)(S:Nat→Prop)(c:Ch)(w:World)(h:ChS w g S c)(hT:Tb w)(hS:Apart S)(f:c.s.key.size≤100000000)(l4:0≤c.s.ch∧c.s.ch<4294967296)(i0:c.news.length<1000000)(o7:c.xs.length≤16) :
  Calls Tryz.prog 16 #[.pointer (some ⟨g,0,none⟩)] w fun e w'=>e = .returned (.tuple #[.agg c.sign.2.1.cells.toArray,.int .i64 c.sign.2.2])∧ChS w' g (Fr S w w') c.sign.1∧Upd S w w':=by
 obtain⟨lv,nv,av,h⟩:=h
 go_enter Tryz.func16,Tryz.ntmps16
 go_upto_region 1 with fail
 have hB:=qch w MsgV.zero qo
 have n1:qy w (w.alloc (.cells MsgV.zero.cells.toArray 30)):=(Upd.refl _ _).alloc _
 generalize w.alloc (.cells MsgV.zero.cells.toArray 30)=w1 at hB n1 ⊢
 obtain⟨B,g6⟩:∃B,B=w.heap.size:=⟨_,rfl⟩
 rw[←g6] at hB ⊢
 have o0:w.heap.size≤B:=by omega
 have i1:g≠B:=by have:=h.lt g h.inG;omega
 have c8:¬S B:=fun e=>by have:=h.lt B e;omega
 clear g6
 have h1:=h.new n1
 have a8:w1.cell? ⟨g,39,none⟩=some (.bool c.k.awaits):=h1.toR.awaits
 have g2:w1.cell? ⟨g,47,none⟩=some lv:=h1.toR.live
 have i8:qbo c=if c.k.awaits=true then 5 else if qaj 1 c.xs=false then 5 else if c.k.signed=65535 then 2 else 0:=rfl
 have o6:=h.ok.few
 have Y:=qod lv c.xs 1 (by omega) w1 (hT.new n1).glob h1.toI.lives
 obtain⟨la,n6,l6⟩:=qx h.live
 have D:=qb i8
 have H0:=qb h
 have H1:=qb h1
 have HB:=qb hB
 have N1:=qb n1
 have g0:=qb (hT.new n1)
 have l7:=h.ok.signed
 have bad:∀(W:World) (e:Int),qy w1 W→qbo c=e→e≠0 →
   stOk W B 0 38 MsgV.zero.cells.toArray=true∧MsB (W.setCells B 0 MsgV.zero.cells) B MsgV.zero∧c.sign=(c,MsgV.zero,e)∧ChS (W.setCells B 0 MsgV.zero.cells) g (Fr S w (W.setCells B 0 MsgV.zero.cells)) c∧Upd S w (W.setCells B 0 MsgV.zero.cells):=by
  intro W e nW hs he
  have hb:=hB.new nW
  have u:=qak (w:=W) (b:=B) MsgV.zero.cells
  exact⟨hb.stOk qo,hb.put qo,qrl hs he,((h1.new nW).upd u (fun k f e=>by rw[e] at f;exact c8 f)).fr w,((n1.trans nW).mono (T:=S) (fun _ _ h=>h.elim)).then u (fun i hi e=>by omega)⟩
 have X:=qb bad
 clear i8 h h1 hB n1 hT bad
 cases ha:c.k.awaits with
 | true =>
  rw[ha,if_pos rfl] at D
  rw[ha] at a8
  obtain⟨F,y,hE,hC,hU⟩:=qa X w1 5 (Upd.refl _ _) (qa D) (by decide)
  have J:=qb y
  have HE:=qb hE
  have HC:=qb hC
  have HU:=qb hU
  clear y hE hC hU Y
  go_wp2_with (with_reducible first|(first|refine' zr (qg ?_) ?_|refine' zt (qg ?_) ?_);rotate_left|refine' zu (qg ?_)|rfl|apply tn|refine' zv ?_)
  have y:=qa J
  refine bodyPost_ret (qw rfl _ _ B _ _ _ _ rfl y.at_ Tryz.underlying30 rfl (by rw[y.agg];exact Tryz.infoMsg)) rfl ?_
  rw[qa HE]
  exact⟨rfl,qa HC,qa HU⟩
 | false =>
  rw[ha,if_neg (by decide)] at D
  rw[ha] at a8
  rw[l6] at g2 Y
  go_wp2_with (with_reducible first|(first|refine' zr (qg ?_) ?_|refine' zt (qg ?_) ?_);rotate_left|refine' zu (qg ?_)|rfl|apply tn|refine' zv ?_)
  refine Y.mono ?_
  rintro e O ⟨rfl,n2⟩
  clear Y a8 g2
  cases hc:qaj 1 c.xs with
  | false =>
   rw[hc,if_pos rfl] at D
   obtain⟨F,y,hE,hC,hU⟩:=qa X O 5 n2 (qa D) (by decide)
   have J:=qb y
   have HE:=qb hE
   have HC:=qb hC
   have HU:=qb hU
   clear y hE hC hU n2
   go_wp2_with (with_reducible first|(first|refine' zr (qg ?_) ?_|refine' zt (qg ?_) ?_);rotate_left|refine' zu (qg ?_)|rfl|apply tn|refine' zv ?_)
   have y:=qa J
   refine bodyPost_ret (qw rfl _ _ B _ _ _ _ rfl y.at_ Tryz.underlying30 rfl (by rw[y.agg];exact Tryz.infoMsg)) rfl ?_
   rw[qa HE]
   exact⟨rfl,qa HC,qa HU⟩
  | true =>
   rw[hc,if_neg (by decide)] at D
   have e4:O.cell? ⟨g,37,none⟩=some (.int .i64 c.k.signed):=((qa H1).new n2).toR.signed
   by_cases c9:c.k.signed=65535
   ·rw[if_pos c9] at D
    obtain⟨F,y,hE,hC,hU⟩:=qa X O 2 n2 (qa D) (by decide)
    have J:=qb y
    have HE:=qb hE
    have HC:=qb hC
    have HU:=qb hU
    rw[c9] at e4
    clear y hE hC hU n2 c9 l7
    go_wp2_with (with_reducible first|(first|refine' zr (qg ?_) ?_|refine' zt (qg ?_) ?_);rotate_left|refine' zu (qg ?_)|rfl|apply tn|refine' zv ?_)
    have y:=qa J
    refine bodyPost_ret (qw rfl _ _ B _ _ _ _ rfl y.at_ Tryz.underlying30 rfl (by rw[y.agg];exact Tryz.infoMsg)) rfl ?_
    rw[qa HE]
    exact⟨rfl,qa HC,qa HU⟩
   ·rw[if_neg c9] at D
    have b9:c.sign=((c.signing.say (qax c)).turned,(qax c).on c.s.ch,0):=by unfold Ch.sign;rw[if_pos (qa D)]
    have f7:=qb b9
    have i2:=qme g S c 1 O ⟨lv,nv,av,(qa H1).new n2⟩ ((qa g0).new n2).glob
    have N2:=qb n2
    clear b9 X n2
    go_wp2_with (with_reducible first|(first|refine' zr (qg ?_) ?_|refine' zt (qg ?_) ?_);rotate_left|refine' zu (qg ?_)|rfl|apply tn|refine' zv ?_)
    refine i2.mono ?_
    rintro e z ⟨rfl,⟨d2,j8,g1,h3⟩,u3⟩
    obtain⟨c1,a6⟩:∃c1,c1=c.goOn 1:=⟨_,rfl⟩
    have f3:c1.k=c.k:=by rw[a6];exact qfq c 1
    have i7:c1.s=c.s:=by rw[a6];exact zd6 c 1
    have i5:c1.news=c.news:=by rw[a6];exact q4l c 1
    rw[←a6] at h3
    have e4:z.cell? ⟨g,37,none⟩=some (.int .i64 c.k.signed):=by rw[←f3];exact h3.toR.signed
    have k4:z.frozen? ⟨g,37,none⟩=false:=qq h3.at_ 37
    have l8:IntKind.i64.wrap (c.k.signed+1)=c.k.signed+1:=qiz (by omega) (by omega)
    have h4:=h3.putSigned (c.k.signed+1) (by omega)
    have u4:=qgf z g 37 (.int .i64 (c.k.signed+1))
    have a8:(z.setCell ⟨g,37,none⟩ (.int .i64 (c.k.signed+1))).cell? ⟨g,39,none⟩=some (.bool false):=by
     have:=h4.toR.awaits
     rw[show (({c1 with k:= {c1.k with signed:=c.k.signed+1}} : Ch).v d2 j8 g1).k.awaits=c1.k.awaits from rfl,f3,ha] at this
     exact this
    have k5:(z.setCell ⟨g,37,none⟩ (.int .i64 (c.k.signed+1))).frozen? ⟨g,39,none⟩=false:=qq h4.at_ 39
    have h5:=h4.putAwaits true
    have u5:=qgf (z.setCell ⟨g,37,none⟩ (.int .i64 (c.k.signed+1))) g 39 (.bool true)
    have k3:((z.setCell ⟨g,37,none⟩ (.int .i64 (c.k.signed+1))).setCell ⟨g,39,none⟩ (.bool true)).cell? ⟨g,44,none⟩=some (.bool c1.k.revoked):=h5.toR.revoked
    have k6:((z.setCell ⟨g,37,none⟩ (.int .i64 (c.k.signed+1))).setCell ⟨g,39,none⟩ (.bool true)).frozen? ⟨g,44,none⟩=false:=qq h5.at_ 44
    have h6:=h5.putRevoked false
    have u6:=qgf ((z.setCell ⟨g,37,none⟩ (.int .i64 (c.k.signed+1))).setCell ⟨g,39,none⟩ (.bool true)) g 44 (.bool false)
    have L:c.signing = {c1 with k:= {c1.k with signed:=c.k.signed+1,awaits:=true,revoked:=false}} := by unfold Ch.signing;rw[a6]
    rw[←L] at h6
    have c6:Upd (· = g) z (((z.setCell ⟨g,37,none⟩ (.int .i64 (c.k.signed+1))).setCell ⟨g,39,none⟩ (.bool true)).setCell ⟨g,44,none⟩ (.bool false)):=(u4.trans u5).trans u6
    have U6:=qb (((((qa N1).trans (qa N2)).mono (T:=S) (fun _ _ h=>h.elim)).trans u3).trans (c6.mono (fun k _ e=>by rw[e];exact(qa H0).inG)))
    have h7:=qb ((((qa HB).new (qa N2)).upd u3 c8).upd c6 (fun e=>i1 e.symm))
    have f9:=qb (And.intro u3.size c6.size)
    have j3:=qb ((qa N1).size)
    have j4:=qb ((qa N2).size)
    have e1:=qb ((((qa g0).new (qa N2)).upd u3 hS).upd (c6.mono (T:=S) (fun k _ e=>by rw[e];exact(qa H0).inG)) hS)
    have H6:=qb h6
    have c0:c.signing.s=c.s:=by rw[L];exact i7
    have j0:c.signing.news=c.news:=by rw[L];exact i5
    have d1:c.signing.k.signed=c.k.signed+1:=by rw[L]
    have e0:c.signing.xs.length≤19:=by have:=q7z c 1;show (c.goOn 1).xs.length≤19;omega
    clear h3 h4 h5 h6 u3 u4 u5 u6 c6 L
    go_upto_region 8 with (with_reducible first|(first|refine' zr (qg ?_) ?_|refine' zt (qg ?_) ?_);rotate_left|refine' zu (qg ?_)|rfl|apply tn|refine' zv ?_)
    clear e4 k4 a8 k5 k3 k6 i2 l8
    generalize ((z.setCell ⟨g,37,none⟩ (.int .i64 (c.k.signed+1))).setCell ⟨g,39,none⟩ (.bool true)).setCell ⟨g,44,none⟩ (.bool false)=t at U6 h7 f9 e1 H6 ⊢
    obtain⟨o,f1⟩:∃o,o=c.signing:=⟨_,rfl⟩
    have i9:qax c=⟨6,0,0,0,z8 false c.s.key c.s.ch (c.k.signed+1) o.loc o.rem o.xs,0,c.k.signed+1⟩:=by rw[f1];rfl
    rw[←f1] at H6 c0 j0 d1 f7 e0
    have f8:=qb i9
    clear a6 f3 i7 i5 i9 f1 c1
    have hP:=qa H6
    have j2:o.xs.length≤1000000:=hP.ok.few
    obtain⟨j5,c4,d8⟩:=qx hP.live
    have i6:=hP.ok.xs
    have g4:t.drew.cell? ⟨g,35,none⟩=some (.string c.s.key):=by rw[←c0];exact hP.key
    have d0:t.drew.cell? ⟨g,0,none⟩=some (.int .u32 c.s.ch):=by rw[←c0];exact hP.toR.ch
    have c7:t.drew.cell? ⟨g,37,none⟩=some (.int .i64 (c.k.signed+1)):=by rw[←d1];exact hP.toR.signed
    have dB:zx t.drew g 45 2=some #[.int .u64 o.loc,.int .u64 o.rem]:=hP.base
    have e5:t.drew.cell? ⟨g,47,none⟩=some d2:=hP.toR.live
    rw[d8] at e5
    have f4:=fun W (n:qy t W)=>qx7 false o.loc o.rem d2 o.xs e0 W ((qa e1).new n).spans (hP.toI.lives.new n)
    rw[d8] at f4
    have o4:o.s.key.size≤100000000:=by rw[c0];exact f
    have j1:=fun W (n:qy t W) V (hV:ViewO false o.loc o.rem o.xs W V)=>qty false o.loc o.rem V o.xs c.s.key c.s.ch (c.k.signed+1) j2 W ((qa e1).new n).tabs hV i6 f l4 (by omega) hP.ok.loc hP.ok.rem
    have R:=qht false c.s.key c.s.ch (c.k.signed+1) o.loc o.rem o.xs
    have f6:=qb f4
    have e2:=qb j1
    have c3:∀W,qy t.drew W→W.cell? ⟨g,35,none⟩=some (.string c.s.key)∧W.cell? ⟨g,0,none⟩=some (.int .u32 c.s.ch)∧W.cell? ⟨g,37,none⟩=some (.int .i64 (c.k.signed+1))∧zx W g 45 2=some #[.int .u64 o.loc,.int .u64 o.rem]∧W.cell? ⟨g,47,none⟩=some (.slice j5 o.xs.length c4):=by
     intro W n
     have l0:=hP.new (((Upd.refl (fun _=>False) t).drew).trans n)
     exact⟨n.cell g4 (fun h=>h),n.cell d0 (fun h=>h),n.cell c7 (fun h=>h),l0.base,n.cell e5 (fun h=>h)⟩
    have K:=qb c3
    have g7:=c3 t.drew (Upd.refl _ _)
    clear hP f4 j1 c3 g4 d0 c7 dB e5
    generalize z8 false c.s.key c.s.ch (c.k.signed+1) o.loc o.rem o.xs=T at *
    go_cut [4] from 48 to 72 (fun hv wx=>∃H,hv = .pointer (some ⟨H,0,none⟩)∧t.heap.size≤H∧HsB wx H T∧qy t wx)
    case first =>
     refine qb5 (fun w'=>w'.cell? ⟨g,35,none⟩=some (.string c.s.key)∧w'.cell? ⟨g,0,none⟩=some (.int .u32 c.s.ch)∧w'.cell? ⟨g,37,none⟩=some (.int .i64 (c.k.signed+1))∧zx w' g 45 2=some #[.int .u64 o.loc,.int .u64 o.rem]∧w'.cell? ⟨g,47,none⟩=some (.slice j5 o.xs.length c4)) [4,9,14,18,22]
      (Plan.pre [0,1,2,3,4,5,6,7,8,9,10,11,12,13,14,15,16,17,18,19,20,21,22] (.fork (.step 23 (.fork (.of [24,25,26]) (.of [25,24,26]))) (.of [25,23,24,26]))) (by kernel_rfl) (by kernel_rfl) g7 ?_
     simp only[Plan.of,Plan.pre]
     go_wp2_with (with_reducible first|(first|refine' qw1 (qg ?_) ?_|refine' qw2 (qg ?_) ?_|refine' qw3 (qg ?_) ?_);rotate_left|refine' qw4 (qg ?_)|refine' qw5 (qg ?_)|rfl|apply qn)
     have nd:qy t t.drew:=(Upd.refl _ _).drew
     refine qf ?_ ?_
     ·go_wp2_with (with_reducible first|(first|refine' qw1 (qg ?_) ?_|refine' qw2 (qg ?_) ?_|refine' qw3 (qg ?_) ?_);rotate_left|refine' qw4 (qg ?_)|refine' qw5 (qg ?_)|rfl|apply qn)
      refine(qa f6 t.drew nd).mono ?_
      rintro e wa ⟨V,rfl,na,hV⟩
      go_wp2_with (with_reducible first|(first|refine' qw1 (qg ?_) ?_|refine' qw2 (qg ?_) ?_|refine' qw3 (qg ?_) ?_);rotate_left|refine' qw4 (qg ?_)|refine' qw5 (qg ?_)|rfl|apply qn)
      refine⟨qa K _ na,?_⟩
      refine qf ?_ ?_
      ·go_wp2_with (with_reducible first|(first|refine' qw1 (qg ?_) ?_|refine' qw2 (qg ?_) ?_|refine' qw3 (qg ?_) ?_);rotate_left|refine' qw4 (qg ?_)|refine' qw5 (qg ?_)|rfl|apply qn)
       refine(qa e2 wa (nd.trans na) V hV).mono ?_
       rintro e wb ⟨rfl,nb⟩
       obtain⟨F,y,nF⟩:=qqm wb T R
       have J:=qb y
       have NF:=qb (((nd.trans na).trans nb).trans nF)
       have l:qy wb (wb.alloc (.cells (zf qad).toArray 28)):=(Upd.refl _ _).alloc _
       have hK:=qb (qa K _ ((na.trans nb).trans l))
       have N:t.heap.size≤wb.heap.size:=((nd.trans na).trans nb).size
       clear y nF l nb
       go_wp2_with (with_reducible first|(first|refine' qw1 (qg ?_) ?_|refine' qw2 (qg ?_) ?_|refine' qw3 (qg ?_) ?_);rotate_left|refine' qw4 (qg ?_)|refine' qw5 (qg ?_)|rfl|apply qn)
       refine⟨qa hK,?_⟩
       go_wp2_with (with_reducible first|(first|refine' qw1 (qg ?_) ?_|refine' qw2 (qg ?_) ?_|refine' qw3 (qg ?_) ?_);rotate_left|refine' qw4 (qg ?_)|refine' qw5 (qg ?_)|rfl|apply qn)
       go_meet
       case rel=>exact⟨_,rfl,N,qa J,qa NF⟩
      ·have l:qy wa (wa.alloc (.cells (zf qad).toArray 28)):=(Upd.refl _ _).alloc _
       have q:=qb9 wa qad qo
       have N:t.heap.size≤wa.heap.size:=(nd.trans na).size
       go_wp2_with (with_reducible first|(first|refine' qw1 (qg ?_) ?_|refine' qw2 (qg ?_) ?_|refine' qw3 (qg ?_) ?_);rotate_left|refine' qw4 (qg ?_)|refine' qw5 (qg ?_)|rfl|apply qn)
       refine⟨qa K _ (na.trans l),?_⟩
       generalize wa.alloc (.cells (zf qad).toArray 28)=wc at l q ⊢
       generalize wa.heap.size=H at q N ⊢
       have a4:=qb q
       clear q
       go_wp2_with (with_reducible first|(first|refine' qw1 (qg ?_) ?_|refine' qw2 (qg ?_) ?_|refine' qw3 (qg ?_) ?_);rotate_left|refine' qw4 (qg ?_)|refine' qw5 (qg ?_)|rfl|apply qn)
       refine(qa e2 wc ((nd.trans na).trans l) V (hV.new l)).mono ?_
       rintro e wb ⟨rfl,nb⟩
       have E:=(qa a4).new nb
       have F:=E.stOk T R
       have J:=qb (E.put T R)
       have NF:=qb ((((nd.trans na).trans l).trans nb).then (qak (w:=wb) (b:=H) (zf T)) (fun i hi e=>by omega))
       clear E nb
       go_wp2_with (with_reducible first|(first|refine' qw1 (qg ?_) ?_|refine' qw2 (qg ?_) ?_|refine' qw3 (qg ?_) ?_);rotate_left|refine' qw4 (qg ?_)|refine' qw5 (qg ?_)|rfl|apply qn)
       go_meet
       case rel=>exact⟨_,rfl,N,qa J,qa NF⟩
     ·have l:qy t.drew (t.drew.alloc (.cells (zf qad).toArray 28)):=(Upd.refl _ _).alloc _
      have I:qy t.drew (t.alloc (.cells (zf qad).toArray 28)).drew:=l
      have q:HsB (t.alloc (.cells (zf qad).toArray 28)).drew t.heap.size qad:=(qb9 t qad qo).new ((Upd.refl _ _).drew)
      have N:t.heap.size≤t.heap.size:=Nat.le_refl _
      go_wp2_with (with_reducible first|(first|refine' qw1 (qg ?_) ?_|refine' qw2 (qg ?_) ?_|refine' qw3 (qg ?_) ?_);rotate_left|refine' qw4 (qg ?_)|refine' qw5 (qg ?_)|rfl|apply qn)
      refine⟨qa K _ I,?_⟩
      generalize (t.alloc (.cells (zf qad).toArray 28)).drew=wc at I q ⊢
      generalize hH:t.heap.size=H at q ⊢
      rw[hH] at N
      have a4:=qb q
      clear q l
      go_wp2_with (with_reducible first|(first|refine' qw1 (qg ?_) ?_|refine' qw2 (qg ?_) ?_|refine' qw3 (qg ?_) ?_);rotate_left|refine' qw4 (qg ?_)|refine' qw5 (qg ?_)|rfl|apply qn)
      refine(qa f6 wc (nd.trans I)).mono ?_
      rintro e wa ⟨V,rfl,na,hV⟩
      have E:=(qa a4).new na
      go_wp2_with (with_reducible first|(first|refine' qw1 (qg ?_) ?_|refine' qw2 (qg ?_) ?_|refine' qw3 (qg ?_) ?_);rotate_left|refine' qw4 (qg ?_)|refine' qw5 (qg ?_)|rfl|apply qn)
      refine⟨qa K _ (I.trans na),?_⟩
      have k0:=qb E
      clear E
      go_wp2_with (with_reducible first|(first|refine' qw1 (qg ?_) ?_|refine' qw2 (qg ?_) ?_|refine' qw3 (qg ?_) ?_);rotate_left|refine' qw4 (qg ?_)|refine' qw5 (qg ?_)|rfl|apply qn)
      refine(qa e2 wa ((nd.trans I).trans na) V hV).mono ?_
      rintro e wb ⟨rfl,nb⟩
      have f0:=(qa k0).new nb
      have F:=f0.stOk T R
      have J:=qb (f0.put T R)
      have NF:=qb ((((nd.trans I).trans na).trans nb).then (qak (w:=wb) (b:=H) (zf T)) (fun i hi e=>by omega))
      clear f0 nb
      go_wp2_with (with_reducible first|(first|refine' qw1 (qg ?_) ?_|refine' qw2 (qg ?_) ?_|refine' qw3 (qg ?_) ?_);rotate_left|refine' qw4 (qg ?_)|refine' qw5 (qg ?_)|rfl|apply qn)
      go_meet
      case rel=>exact⟨_,rfl,Nat.le_of_eq hH,qa J,qa NF⟩
    case rest =>
     obtain⟨H,rfl,hH,e8,n7⟩:=hcut
     obtain⟨x,rfl⟩:∃x:World,x=wc:=⟨_,rfl⟩
     clear g7
     have b4:=(qa H6).new n7
     have U7:=qb ((qa U6).trans (n7.mono (T:=S) (fun _ _ h=>h.elim)))
     have h8:=qb ((qa h7).new n7)
     have m0:=qb n7.size
     have c7:x.drew.cell? ⟨g,37,none⟩=some (.int .i64 (c.k.signed+1)):=by rw[←d1];exact b4.toR.signed
     have dH:zx x.drew H 0 32=some (zf T).toArray:=e8.row
     have l3:=fun W=>qzn 6 (c.k.signed+1) T R W
     rw[←qa f8] at l3
     have d9:(qax c).hash.length=32:=by rw[qa f8];exact R
     have f2:o.news.length<1000000:=by rw[j0];exact i0
     have b8:=fun W (n:qy x W)=>qpj g (Fr S O z) o (qax c) d9 W ⟨d2,j8,g1,b4.new n⟩ f2
     rw[c0] at b8
     have b7:((qax c).on c.s.ch).hash.length=32:=by rw[zby];exact d9
     have d4:=qb b8
     have e7:x.drew.cell? ⟨g,37,none⟩=some (.int .i64 (c.k.signed+1))∧zx x.drew H 0 32=some (zf T).toArray:=⟨c7,dH⟩
     have o3:g<x.heap.size:=zw b4.at_
     have i4:∀k,Fr S O z k→k<x.heap.size:=b4.lt
     clear b4 b8
     generalize qax c=m at *
     generalize o5:m.on c.s.ch=mo at *
     go_upto_region 9 with fail
     go_cut [5] from 73 to 81 (fun hv wx=>∃M,hv = .pointer (some ⟨M,0,none⟩)∧x.heap.size≤M∧MsB wx M mo∧ChS wx g (Fr (Fr S O z) x wx) (o.say m)∧Upd (Fr S O z) x wx)
     case first =>
      refine qb5 (fun w'=>w'.cell? ⟨g,37,none⟩=some (.int .i64 (c.k.signed+1))∧zx w' H 0 32=some (zf T).toArray) [5,6] (.fork (Plan.pre [0,1,2,3,4,5,6,7] (.of [8,9,10])) (Plan.pre [9,0,1,2,3,4,5,6,7] (.of [8,10]))) (by kernel_rfl) (by kernel_rfl) e7 ?_
      simp only[Plan.of,Plan.pre]
      have m4:qy x x.drew:=(Upd.refl _ _).drew
      have k7:∀k,Fr S O z k→k≠H:=fun k f e=>by
       have h6:=(qa H6).lt k f
       omega
      refine qf ?_ ?_
      ·go_wp2_with (with_reducible first|(first|refine' qw1 (qg ?_) ?_|refine' qw2 (qg ?_) ?_|refine' qw3 (qg ?_) ?_);rotate_left|refine' qw4 (qg ?_)|refine' qw5 (qg ?_)|rfl|apply qn)
       refine(qa d4 x.drew m4).mono ?_
       rintro e wa ⟨rfl,⟨m3,m5,k2,e9⟩,ua⟩
       have d3:Upd (Fr S O z) x wa:=ua.ofDrew
       have g8:=e8.upd d3 (fun f=>k7 H f rfl)
       have b6:ChS wa g (Fr (Fr S O z) x wa) (o.say m):=⟨m3,m5,k2,e9⟩
       have a5:wa.cell? ⟨g,37,none⟩=some (.int .i64 (c.k.signed+1)):=by rw[←d1];exact e9.toR.signed
       obtain⟨F,y,nF⟩:=qes wa mo b7
       have l:qy wa (wa.alloc (.cells MsgV.zero.cells.toArray 30)):=(Upd.refl _ _).alloc _
       have k8:=qb (And.intro (l.cell a5 (fun h=>h)) (g8.new l).row)
       have J:=qb y
       have HC:=qb ((b6.new nF).grow nF.size)
       have HU:=qb (d3.trans (nF.mono (T:=Fr S O z) (fun _ _ h=>h.elim)))
       have N:x.heap.size≤wa.heap.size:=d3.size
       clear y nF l b6 e9 ua d3 a5 g8
       go_wp2_with (with_reducible first|(first|refine' qw1 (qg ?_) ?_|refine' qw2 (qg ?_) ?_|refine' qw3 (qg ?_) ?_);rotate_left|refine' qw4 (qg ?_)|refine' qw5 (qg ?_)|rfl|apply qn)
       refine⟨qa k8,?_⟩
       go_wp2_with (with_reducible first|(first|refine' qw1 (qg ?_) ?_|refine' qw2 (qg ?_) ?_|refine' qw3 (qg ?_) ?_);rotate_left|refine' qw4 (qg ?_)|refine' qw5 (qg ?_)|rfl|apply qn)
       go_meet
       case rel=>exact⟨_,rfl,N,qa J,qa HC,qa HU⟩
      ·have l:qy x (x.alloc (.cells MsgV.zero.cells.toArray 30)).drew:=((Upd.refl _ _).alloc _).drew
       have q:MsB (x.alloc (.cells MsgV.zero.cells.toArray 30)).drew x.heap.size MsgV.zero:=(qch x MsgV.zero qo).new ((Upd.refl _ _).drew)
       have b3:=e8.new l
       have a5:=l.cell (p:=⟨g,37,none⟩) e7.1 (fun h=>h)
       go_wp2_with (with_reducible first|(first|refine' qw1 (qg ?_) ?_|refine' qw2 (qg ?_) ?_|refine' qw3 (qg ?_) ?_);rotate_left|refine' qw4 (qg ?_)|refine' qw5 (qg ?_)|rfl|apply qn)
       refine⟨⟨a5,b3.row⟩,?_⟩
       have a9:=a5
       have e6:=b3.row
       generalize (x.alloc (.cells MsgV.zero.cells.toArray 30)).drew=wc at l q b3 a9 e6 ⊢
       generalize k9:x.heap.size=M at q ⊢
       have a4:=qb q
       have n8:=qb b3
       have o2:wc.cell? ⟨g,37,none⟩=some (.int .i64 (c.k.signed+1))∧zx wc H 0 32=some (zf T).toArray:=⟨a9,e6⟩
       clear q b3 a5 a9 e6 e7
       go_wp2_with (with_reducible first|(first|refine' qw1 (qg ?_) ?_|refine' qw2 (qg ?_) ?_|refine' qw3 (qg ?_) ?_);rotate_left|refine' qw4 (qg ?_)|refine' qw5 (qg ?_)|rfl|apply qn)
       refine(qa d4 wc l).mono ?_
       rintro e wa ⟨rfl,b6,ua⟩
       have g9:∀k,Fr S O z k→¬k=M:=fun k f e=>by
        have:=i4 k f
        omega
       have m9:=(qa a4).lt
       have E:=(qa a4).upd ua (fun f=>g9 M f rfl)
       have F:=E.stOk b7
       have um:=qak (w:=wa) (b:=M) mo.cells
       have J:=qb (E.put b7)
       have m2:=l.size
       have d6:ChS (wa.setCells M 0 mo.cells) g (Fr (Fr S O z) wc wa) (o.say m):=b6.upd um (fun k f e=>by
        rcases f with f | f
        ·exact g9 k f e
        ·omega)
       have d7:ChS (wa.setCells M 0 mo.cells) g (Fr (Fr S O z) wc (wa.setCells M 0 mo.cells)) (o.say m):=d6.grow um.size
       have HC:=qb (d7.later m2)
       clear d6 d7
       have HU:=qb (((l.mono (T:=Fr S O z) (fun _ _ h=>h.elim)).trans ua).then um (fun i hi e=>by omega))
       clear E b6 ua um
       go_wp2_with (with_reducible first|(first|refine' qw1 (qg ?_) ?_|refine' qw2 (qg ?_) ?_|refine' qw3 (qg ?_) ?_);rotate_left|refine' qw4 (qg ?_)|refine' qw5 (qg ?_)|rfl|apply qn)
       go_meet
       case rel=>exact⟨_,rfl,Nat.le_of_eq k9,qa J,qa HC,qa HU⟩
     case rest =>
      obtain⟨M,rfl,hM,h0,⟨j6,U,e3,C⟩,u8⟩:=hcut
      obtain⟨P,rfl⟩:∃P:World,P=wc:=⟨_,rfl⟩
      have g3:P.cell? ⟨g,626,none⟩=some U:=(qh C.at_ 626).trans (qqc _ j6 U e3 C.ok.s.seed C.ok.shelf)
      have m6:P.cell? ⟨g,627,none⟩=some e3:=(qh C.at_ 627).trans (qqb _ j6 U e3 C.ok.s.seed C.ok.shelf)
      have m7:P.frozen? ⟨g,626,none⟩=false:=qq C.at_ 626
      have m8:P.frozen? ⟨g,627,none⟩=false:=qq C.at_ 627
      have g5:=C.turn
      obtain⟨j7,c5,Z⟩:=qx C.news
      have a7:Upd (· = g) P ((P.setCell ⟨g,627,none⟩ U).setCell ⟨g,626,none⟩ qbt):=((Upd.refl _ _).set1 627 _).set1 626 _
      have l5:M≠g:=by omega
      have d5:=h0.upd a7 l5
      have h9:=(qa h8).upd u8 (fun f=>by
       rcases f with f | f
       ·exact c8 f
       ·have:=(qa HB).lt
        have:=qa j4
        omega)
      have b5:=h9.upd a7 (fun e=>i1 e.symm)
      have F:=b5.stOk b7
      have rM:=d5.row
      have J:=qb (b5.put b7)
      have uB:=qak (w:=(P.setCell ⟨g,627,none⟩ U).setCell ⟨g,626,none⟩ qbt) (b:=B) mo.cells
      have o1:B<x.heap.size:=(qa h8).lt
      have hz:=qa f9
      have n4:=qa j4
      have l9:=qa j3
      have n5:=qa m0
      have n9:=(qa HB).lt
      have i3:∀k,Fr (Fr S O z) x P k→Fr S w P k:=fun k f=>by
       rcases f with (f | f) | f
       ·exact .inl f
       ·exact .inr ⟨by omega,by have:=u8.size;omega⟩
       ·exact .inr ⟨by omega,f.2⟩
      have h2:=g5.upd uB (fun k f e=>by
       rcases f with (f | f) | f
       ·rw[e] at f;exact c8 f
       ·omega
       ·omega)
      have HC:=qb (h2.wider (T:=Fr S w (((P.setCell ⟨g,627,none⟩ U).setCell ⟨g,626,none⟩ qbt).setCells B 0 mo.cells)) (fun k f=>by
       rcases i3 k f with h | h
       ·exact .inl h
       ·exact .inr ⟨h.1,by have:=a7.size;have:=uB.size;omega⟩) (fun k f=>by
       rcases f with f | f
       ·have:=(qa H0).lt k f
        have:=u8.size
        have:=a7.size
        have:=uB.size
        omega
       ·exact f.2))
      have n3:=(qa U7).size
      have v8:Upd S w P:=(qa U7).then u8 (fun i hi f=>by
       rcases f with f | f
       ·exact f
       ·omega)
      have j9:Upd S w ((P.setCell ⟨g,627,none⟩ U).setCell ⟨g,626,none⟩ qbt):=v8.then a7 (fun i hi e=>by rw[e];exact(qa H0).inG)
      have HU:=qb (j9.then uB (fun i hi e=>by omega))
      rw[Z] at g3
      have n0:=qb Z
      rw[Z] at J HC HU F rM
      unfold qbt at J HU F rM
      have f5:ChS ((((P.setCell ⟨g,627,none⟩ (.slice j7 (o.say m).news.length c5)).setCell ⟨g,626,none⟩ (.slice none 0 0))).setCells B 0 mo.cells) g (Fr S w ((((P.setCell ⟨g,627,none⟩ (.slice j7 (o.say m).news.length c5)).setCell ⟨g,626,none⟩ (.slice none 0 0))).setCells B 0 mo.cells)) (o.say m).turned:=⟨_,_,_,qa HC⟩
      have k1:=qb f5
      clear f5 HC g5 a7 d5 h9 b5 uB h2 v8 j9 i3 C u8 h0 Z
      go_wp2_with (with_reducible first|(first|refine' zr (qg ?_) ?_|refine' zt (qg ?_) ?_);rotate_left|refine' zu (qg ?_)|rfl|apply tn|refine' zv ?_)
      have y:=qa J
      refine bodyPost_ret (qw rfl _ _ B _ _ _ _ rfl y.at_ Tryz.underlying30 rfl (by rw[y.agg];exact Tryz.infoMsg)) rfl ?_
      rw[qa f7]
      exact⟨rfl,qa k1,qa HU⟩
end Go.Proofs.YtjpmomdechibmaaGreatDoor
