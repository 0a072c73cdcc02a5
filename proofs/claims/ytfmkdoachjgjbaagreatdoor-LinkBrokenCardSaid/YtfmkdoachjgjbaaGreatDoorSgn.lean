/-
  Sign.
-/
import Derived.Test.YtfmkdoachjgjbaaGreatDoorMcb
import Derived.Test.YtfmkdoachjgjbaaGreatDoorMcg
set_option linter.unusedVariables false
set_option linter.unusedSimpArgs false
namespace Go.Proofs.YtfmkdoachjgjbaaGreatDoor
open Go.RowKit

def Plan.pre : List Nat → Plan → Plan
  | [], p => p
  | i :: l, p => .step i (Plan.pre l p)

attribute [local go_sem ↓ high] ld_hsh_fold st_hsh_fold al_hsh_fold bd_hsh_fold ld_msg_fold st_msg_fold al_msg_fold bd_msg_fold ld_bas_fold
attribute [local go_sem] ld_hsh st_hsh al_hsh bd_hsh rowN_drew ld_msg st_msg al_msg bd_msg_zero ld_bas

def signErr (c : Ch) : Int := if c.k.awaits = true then 5 else if changesB 1 c.xs = false then 5 else if c.k.signed = 65535 then 2 else 0
/-- The end behind its own signature, ahead of what it says. -/
def Ch.signing (c : Ch) : Ch := { c.goOn 1 with k := { (c.goOn 1).k with signed := c.k.signed + 1, awaits := true, revoked := false } }
noncomputable def signMsg (c : Ch) : MsgV := ⟨6, 0, 0, 0, viewTag false c.s.key c.s.ch (c.k.signed + 1) c.signing.loc c.signing.rem c.signing.xs, 0, c.k.signed + 1⟩
def Ch.turned (c : Ch) : Ch := { c with last := c.news, news := [] }
/-- What Sign does: the end, what it says, its error. -/
noncomputable def Ch.sign (c : Ch) : Ch × MsgV × Int := if signErr c = 0 then ((c.signing.say (signMsg c)).turned, (signMsg c).on c.s.ch, 0) else (c, MsgV.zero, signErr c)
theorem sign_bad {c : Ch} {e : Int} (h : signErr c = e) (n : e ≠ 0) : c.sign = (c, MsgV.zero, e) := by unfold Ch.sign; rw [h, if_neg n]
theorem fold_gstep_k (l : List Live) : ∀ c : Ch, (l.foldl gstep c).k = c.k ∧ (l.foldl gstep c).s = c.s ∧ (l.foldl gstep c).news = c.news ∧ (l.foldl gstep c).last = c.last ∧ (l.foldl gstep c).shelf = c.shelf := by
  induction l with
  | nil => intro c; exact ⟨rfl, rfl, rfl, rfl, rfl⟩
  | cons x l ih =>
    intro c
    rw [List.foldl_cons]
    obtain ⟨a, b, d, e, f⟩ := ih (gstep c x)
    have hg : (gstep c x).k = c.k ∧ (gstep c x).s = c.s ∧ (gstep c x).news = c.news ∧ (gstep c x).last = c.last ∧ (gstep c x).shelf = c.shelf := by
      unfold gstep
      split
      · unfold Ch.give
        split <;> exact ⟨rfl, rfl, rfl, rfl, rfl⟩
      · exact ⟨rfl, rfl, rfl, rfl, rfl⟩
    obtain ⟨a', b', d', e', f'⟩ := hg
    exact ⟨a.trans a', b.trans b', d.trans d', e.trans e', f.trans f'⟩
theorem goOn_k (c : Ch) (ev : Int) : (c.goOn ev).k = c.k := (fold_gstep_k _ c).1
theorem goOn_s (c : Ch) (ev : Int) : (c.goOn ev).s = c.s := (fold_gstep_k _ c).2.1
theorem goOn_news (c : Ch) (ev : Int) : (c.goOn ev).news = c.news := (fold_gstep_k _ c).2.2.1

/-- What is said is what was said last; nothing is new. -/
theorem ChP.turn {w : World} {g : Nat} {S : Nat → Prop} {c : Ch} {lv nv av : Value} (h : ChP w g S c lv nv av) : ChP ((w.setCell ⟨g, 627, none⟩ nv).setCell ⟨g, 626, none⟩ nilV) g S c.turned lv nilV nv := by
  have u : Upd (· = g) w ((w.setCell ⟨g, 627, none⟩ nv).setCell ⟨g, 626, none⟩ nilV) := ((Upd.refl _ _).set1 627 _).set1 626 _
  have ty : ∀ {T : TypeId} {v : Value} {n : Nat} {xs : List Value}, T ≠ 126 → w.ownsRow 0 T 38 v n xs → ∀ k, v.ownBlock = some k → ¬ k = g := by
    intro T v n xs hT hr k hk e
    obtain ⟨cur, hc⟩ := own_blk' hr k hk
    exact apart_ty' hc h.at_ hT e
  have hat := blk_set h.at_ 627 nv
  rw [set_last c lv nv av h.ok.s.seed h.ok.shelf c.news nv] at hat
  have hat2 := blk_set hat 626 nilV
  rw [set_news ({ c with last := c.news } : Ch) lv nv nv h.ok.s.seed h.ok.shelf [] nilV] at hat2
  refine ⟨hat2, ⟨h.ok.s, h.ok.signed, h.ok.heard, h.ok.nextOwn, h.ok.nextTheirs, h.ok.loc, h.ok.rem, h.ok.xs, h.ok.few, h.ok.shelf, ?_, h.ok.news, ?_⟩, ?_, ?_, ?_, h.inG, h.inL, ?_, h.inN, ?_, fun k hk => Nat.lt_of_lt_of_le (h.lt k hk) u.size⟩
  · intro m hm; cases hm
  · exact ⟨Nat.zero_le _, h.ok.many.1⟩
  · exact row_upd' h.live u (ty (by decide) h.live)
  · exact World.ownsRow_nil _ _ _ _
  · exact row_upd' h.news u (ty (by decide) h.news)
  · intro k hk; simp [nilV, Value.ownBlock] at hk
  · intro k hk; simp [nilV, Value.ownBlock] at hk

theorem on_hash (m : MsgV) (ch : Int) : (m.on ch).hash = m.hash := rfl
theorem goOn_few (c : Ch) (ev : Int) : (c.goOn ev).xs.length ≤ c.xs.length := by
  unfold Ch.goOn keptL afterL
  exact Nat.le_trans (List.length_filter_le _ _) (by rw [List.length_map]; exact Nat.le_refl _)
set_option maxRecDepth 100000 in
set_option maxHeartbeats 1000000 in
theorem signC_any (g : Nat) (S : Nat → Prop) (c : Ch) (w : World) (h : ChS w g S c) (hT : Tc w) (hS : ApC S) (hk : c.s.key.size ≤ 100000000) (hch : 0 ≤ c.s.ch ∧ c.s.ch < 4294967296) (hfew : c.news.length < 1000000) (hxl : c.xs.length ≤ 16) :
    Calls Tryz.prog 75 #[.pointer (some ⟨g, 0, none⟩)] w fun e w' => e = .returned (.tuple #[.agg c.sign.2.1.cells.toArray, .int .i64 c.sign.2.2]) ∧ ChS w' g (Fr S w w') c.sign.1 ∧ Upd S w w' := by
  obtain ⟨lv, nv, av, h⟩ := h
  go_enter Tryz.func75, Tryz.ntmps75
  go_upto_region 1 with fail
  have hB := ms_alloc w MsgV.zero z32i_len
  have n1 : New w (w.alloc (.cells MsgV.zero.cells.toArray 101)) := (Upd.refl _ _).alloc _
  generalize w.alloc (.cells MsgV.zero.cells.toArray 101) = w1 at hB n1 ⊢
  obtain ⟨B, hBe⟩ : ∃ B, B = w.heap.size := ⟨_, rfl⟩
  rw [← hBe] at hB ⊢
  have hBl : w.heap.size ≤ B := by omega
  have hgB : g ≠ B := by have := h.lt g h.inG; omega
  have hBS : ¬ S B := fun e => by have := h.lt B e; omega
  clear hBe
  have h1 := h.new n1
  have c39 : w1.cell? ⟨g, 39, none⟩ = some (.bool c.k.awaits) := h1.toR.awaits
  have c47 : w1.cell? ⟨g, 47, none⟩ = some lv := h1.toR.live
  have hse : signErr c = if c.k.awaits = true then 5 else if changesB 1 c.xs = false then 5 else if c.k.signed = 65535 then 2 else 0 := rfl
  have hxf := h.ok.few
  have hchg := changes_any lv c.xs 1 (by omega) w1 (hT.new n1).glob h1.toI.lives
  obtain ⟨la, lcap, hlv⟩ := own_shape' h.live
  have HSE := hide hse
  have H0 := hide h
  have H1 := hide h1
  have HB := hide hB
  have N1 := hide n1
  have HT1 := hide (hT.new n1)
  have hsg := h.ok.signed
  -- an error
  have bad : ∀ (W : World) (e : Int), New w1 W → signErr c = e → e ≠ 0 →
      stOk W B 0 38 MsgV.zero.cells.toArray = true ∧ MsB (W.setCells B 0 MsgV.zero.cells) B MsgV.zero ∧ c.sign = (c, MsgV.zero, e) ∧ ChS (W.setCells B 0 MsgV.zero.cells) g (Fr S w (W.setCells B 0 MsgV.zero.cells)) c ∧ Upd S w (W.setCells B 0 MsgV.zero.cells) := by
    intro W e nW hs he
    have hb := hB.new nW
    have u := upd_sets (w := W) (b := B) MsgV.zero.cells
    exact ⟨hb.stOk z32i_len, hb.put z32i_len, sign_bad hs he, ((h1.new nW).upd u (fun k hk e => by rw [e] at hk; exact hBS hk)).fr w, ((n1.trans nW).mono (T := S) (fun _ _ h => h.elim)).then u (fun i hi e => by omega)⟩
  have HBAD := hide bad
  clear hse h h1 hB n1 hT bad
  cases ha : c.k.awaits with
  | true =>
    rw [ha, if_pos rfl] at HSE
    rw [ha] at c39
    obtain ⟨hst, hF, hE, hC, hU⟩ := unhide HBAD w1 5 (Upd.refl _ _) (unhide HSE) (by decide)
    have HF := hide hF
    have HE := hide hE
    have HC := hide hC
    have HU := hide hU
    clear hF hE hC hU hchg
    go_wp2_with (with_reducible first | (first | refine' tw1 (ido ?_) ?_ | refine' tw2 (ido ?_) ?_); rotate_left | refine' tw3 (ido ?_) | rfl | apply tn | refine' tw4 ?_)
    have hF := unhide HF
    refine bodyPost_ret (results_row_tmp' rfl _ _ B _ _ _ _ rfl hF.at_ Tryz.underlying101 rfl (by rw [hF.agg]; exact Tryz.infoMsg)) rfl ?_
    rw [unhide HE]
    exact ⟨rfl, unhide HC, unhide HU⟩
  | false =>
    rw [ha, if_neg (by decide)] at HSE
    rw [ha] at c39
    rw [hlv] at c47 hchg
    go_wp2_with (with_reducible first | (first | refine' tw1 (ido ?_) ?_ | refine' tw2 (ido ?_) ?_); rotate_left | refine' tw3 (ido ?_) | rfl | apply tn | refine' tw4 ?_)
    refine hchg.mono ?_
    rintro e w2 ⟨rfl, n2⟩
    clear hchg c39 c47
    cases hc : changesB 1 c.xs with
    | false =>
      rw [hc, if_pos rfl] at HSE
      obtain ⟨hst, hF, hE, hC, hU⟩ := unhide HBAD w2 5 n2 (unhide HSE) (by decide)
      have HF := hide hF
      have HE := hide hE
      have HC := hide hC
      have HU := hide hU
      clear hF hE hC hU n2
      go_wp2_with (with_reducible first | (first | refine' tw1 (ido ?_) ?_ | refine' tw2 (ido ?_) ?_); rotate_left | refine' tw3 (ido ?_) | rfl | apply tn | refine' tw4 ?_)
      have hF := unhide HF
      refine bodyPost_ret (results_row_tmp' rfl _ _ B _ _ _ _ rfl hF.at_ Tryz.underlying101 rfl (by rw [hF.agg]; exact Tryz.infoMsg)) rfl ?_
      rw [unhide HE]
      exact ⟨rfl, unhide HC, unhide HU⟩
    | true =>
      rw [hc, if_neg (by decide)] at HSE
      have c37 : w2.cell? ⟨g, 37, none⟩ = some (.int .i64 c.k.signed) := ((unhide H1).new n2).toR.signed
      by_cases hmx : c.k.signed = 65535
      · rw [if_pos hmx] at HSE
        obtain ⟨hst, hF, hE, hC, hU⟩ := unhide HBAD w2 2 n2 (unhide HSE) (by decide)
        have HF := hide hF
        have HE := hide hE
        have HC := hide hC
        have HU := hide hU
        rw [hmx] at c37
        clear hF hE hC hU n2 hmx hsg
        go_wp2_with (with_reducible first | (first | refine' tw1 (ido ?_) ?_ | refine' tw2 (ido ?_) ?_); rotate_left | refine' tw3 (ido ?_) | rfl | apply tn | refine' tw4 ?_)
        have hF := unhide HF
        refine bodyPost_ret (results_row_tmp' rfl _ _ B _ _ _ _ rfl hF.at_ Tryz.underlying101 rfl (by rw [hF.agg]; exact Tryz.infoMsg)) rfl ?_
        rw [unhide HE]
        exact ⟨rfl, unhide HC, unhide HU⟩
      · rw [if_neg hmx] at HSE
        have hsign : c.sign = ((c.signing.say (signMsg c)).turned, (signMsg c).on c.s.ch, 0) := by unfold Ch.sign; rw [if_pos (unhide HSE)]
        have HSG := hide hsign
        have hgo := goOn_any g S c 1 w2 ⟨lv, nv, av, (unhide H1).new n2⟩ ((unhide HT1).new n2).glob
        have N2 := hide n2
        clear hsign HBAD n2
        go_wp2_with (with_reducible first | (first | refine' tw1 (ido ?_) ?_ | refine' tw2 (ido ?_) ?_); rotate_left | refine' tw3 (ido ?_) | rfl | apply tn | refine' tw4 ?_)
        refine hgo.mono ?_
        rintro e w3 ⟨rfl, ⟨lv3, nv3, av3, h3⟩, u3⟩
        obtain ⟨c1, hc1⟩ : ∃ c1, c1 = c.goOn 1 := ⟨_, rfl⟩
        have hk1 : c1.k = c.k := by rw [hc1]; exact goOn_k c 1
        have hs1 : c1.s = c.s := by rw [hc1]; exact goOn_s c 1
        have hn1 : c1.news = c.news := by rw [hc1]; exact goOn_news c 1
        rw [← hc1] at h3
        have c37 : w3.cell? ⟨g, 37, none⟩ = some (.int .i64 c.k.signed) := by rw [← hk1]; exact h3.toR.signed
        have f37 : w3.frozen? ⟨g, 37, none⟩ = false := blk_free h3.at_ 37
        have hw1 : IntKind.i64.wrap (c.k.signed + 1) = c.k.signed + 1 := wrapI (by omega) (by omega)
        have h4 := h3.putSigned (c.k.signed + 1) (by omega)
        have u4 := upd_g w3 g 37 (.int .i64 (c.k.signed + 1))
        have c39 : (w3.setCell ⟨g, 37, none⟩ (.int .i64 (c.k.signed + 1))).cell? ⟨g, 39, none⟩ = some (.bool false) := by
          have := h4.toR.awaits
          rw [show (({ c1 with k := { c1.k with signed := c.k.signed + 1 } } : Ch).v lv3 nv3 av3).k.awaits = c1.k.awaits from rfl, hk1, ha] at this
          exact this
        have f39 : (w3.setCell ⟨g, 37, none⟩ (.int .i64 (c.k.signed + 1))).frozen? ⟨g, 39, none⟩ = false := blk_free h4.at_ 39
        have h5 := h4.putAwaits true
        have u5 := upd_g (w3.setCell ⟨g, 37, none⟩ (.int .i64 (c.k.signed + 1))) g 39 (.bool true)
        have c44 : ((w3.setCell ⟨g, 37, none⟩ (.int .i64 (c.k.signed + 1))).setCell ⟨g, 39, none⟩ (.bool true)).cell? ⟨g, 44, none⟩ = some (.bool c1.k.revoked) := h5.toR.revoked
        have f44 : ((w3.setCell ⟨g, 37, none⟩ (.int .i64 (c.k.signed + 1))).setCell ⟨g, 39, none⟩ (.bool true)).frozen? ⟨g, 44, none⟩ = false := blk_free h5.at_ 44
        have h6 := h5.putRevoked false
        have u6 := upd_g ((w3.setCell ⟨g, 37, none⟩ (.int .i64 (c.k.signed + 1))).setCell ⟨g, 39, none⟩ (.bool true)) g 44 (.bool false)
        have hsig : c.signing = { c1 with k := { c1.k with signed := c.k.signed + 1, awaits := true, revoked := false } } := by unfold Ch.signing; rw [hc1]
        rw [← hsig] at h6
        have u36 : Upd (· = g) w3 (((w3.setCell ⟨g, 37, none⟩ (.int .i64 (c.k.signed + 1))).setCell ⟨g, 39, none⟩ (.bool true)).setCell ⟨g, 44, none⟩ (.bool false)) := (u4.trans u5).trans u6
        have U6 := hide (((((unhide N1).trans (unhide N2)).mono (T := S) (fun _ _ h => h.elim)).trans u3).trans (u36.mono (fun k _ e => by rw [e]; exact (unhide H0).inG)))
        have hb6 := hide ((((unhide HB).new (unhide N2)).upd u3 hBS).upd u36 (fun e => hgB e.symm))
        have HSZ := hide (And.intro u3.size u36.size)
        have hz12 := hide ((unhide N1).size)
        have hz2 := hide ((unhide N2).size)
        have HT6 := hide ((((unhide HT1).new (unhide N2)).upd u3 hS).upd (u36.mono (T := S) (fun k _ e => by rw [e]; exact (unhide H0).inG)) hS)
        have H6 := hide h6
        have hss : c.signing.s = c.s := by rw [hsig]; exact hs1
        have hsn : c.signing.news = c.news := by rw [hsig]; exact hn1
        have hsk : c.signing.k.signed = c.k.signed + 1 := by rw [hsig]
        have hxs2 : c.signing.xs.length ≤ 19 := by have := goOn_few c 1; show (c.goOn 1).xs.length ≤ 19; omega
        clear h3 h4 h5 h6 u3 u4 u5 u6 u36 hsig
        go_upto_region 8 with (with_reducible first | (first | refine' tw1 (ido ?_) ?_ | refine' tw2 (ido ?_) ?_); rotate_left | refine' tw3 (ido ?_) | rfl | apply tn | refine' tw4 ?_)
        clear c37 f37 c39 f39 c44 f44 hgo hw1
        generalize ((w3.setCell ⟨g, 37, none⟩ (.int .i64 (c.k.signed + 1))).setCell ⟨g, 39, none⟩ (.bool true)).setCell ⟨g, 44, none⟩ (.bool false) = w6 at U6 hb6 HSZ HT6 H6 ⊢
        obtain ⟨c2, hc2⟩ : ∃ c2, c2 = c.signing := ⟨_, rfl⟩
        have hsm : signMsg c = ⟨6, 0, 0, 0, viewTag false c.s.key c.s.ch (c.k.signed + 1) c2.loc c2.rem c2.xs, 0, c.k.signed + 1⟩ := by rw [hc2]; rfl
        rw [← hc2] at H6 hss hsn hsk HSG hxs2
        have HSM := hide hsm
        clear hc1 hk1 hs1 hn1 hsm hc2 c1
        have hP := unhide H6
        have hxf2 : c2.xs.length ≤ 1000000 := hP.ok.few
        obtain ⟨la2, lcap2, hlv2⟩ := own_shape' hP.live
        have hok2 := hP.ok.xs
        have d35 : w6.drew.cell? ⟨g, 35, none⟩ = some (.string c.s.key) := by rw [← hss]; exact hP.key
        have d0 : w6.drew.cell? ⟨g, 0, none⟩ = some (.int .u32 c.s.ch) := by rw [← hss]; exact hP.toR.ch
        have d37 : w6.drew.cell? ⟨g, 37, none⟩ = some (.int .i64 (c.k.signed + 1)) := by rw [← hsk]; exact hP.toR.signed
        have dB : rowN w6.drew g 45 2 = some #[.int .u64 c2.loc, .int .u64 c2.rem] := hP.base
        have d47 : w6.drew.cell? ⟨g, 47, none⟩ = some lv3 := hP.toR.live
        rw [hlv2] at d47
        have hof := fun W (n : New w6 W) => of_viewO false c2.loc c2.rem lv3 c2.xs hxs2 W ((unhide HT6).new n).spans (hP.toI.lives.new n)
        rw [hlv2] at hof
        have hks : c2.s.key.size ≤ 100000000 := by rw [hss]; exact hk
        have htg := fun W (n : New w6 W) V (hV : ViewO false c2.loc c2.rem c2.xs W V) => tag_viewO false c2.loc c2.rem V c2.xs c.s.key c.s.ch (c.k.signed + 1) hxf2 W ((unhide HT6).new n).tabs hV hok2 hk hch (by omega) hP.ok.loc hP.ok.rem
        have hTl := viewTag_len false c.s.key c.s.ch (c.k.signed + 1) c2.loc c2.rem c2.xs
        have HOF := hide hof
        have HTG := hide htg
        have keep : ∀ W, New w6.drew W → W.cell? ⟨g, 35, none⟩ = some (.string c.s.key) ∧ W.cell? ⟨g, 0, none⟩ = some (.int .u32 c.s.ch) ∧ W.cell? ⟨g, 37, none⟩ = some (.int .i64 (c.k.signed + 1)) ∧ rowN W g 45 2 = some #[.int .u64 c2.loc, .int .u64 c2.rem] ∧ W.cell? ⟨g, 47, none⟩ = some (.slice la2 c2.xs.length lcap2) := by
          intro W n
          have hP2 := hP.new (((Upd.refl (fun _ => False) w6).drew).trans n)
          exact ⟨n.cell d35 (fun h => h), n.cell d0 (fun h => h), n.cell d37 (fun h => h), hP2.base, n.cell d47 (fun h => h)⟩
        have KEEP := hide keep
        have hC0 := keep w6.drew (Upd.refl _ _)
        clear hP hof htg keep d35 d0 d37 dB d47
        generalize viewTag false c.s.key c.s.ch (c.k.signed + 1) c2.loc c2.rem c2.xs = T at *
        go_cut [4] from 48 to 72 (fun hv wx => ∃ H, hv = .pointer (some ⟨H, 0, none⟩) ∧ w6.heap.size ≤ H ∧ HsB wx H T ∧ New w6 wx)
        case first =>
          refine wp_plan (fun w' => w'.cell? ⟨g, 35, none⟩ = some (.string c.s.key) ∧ w'.cell? ⟨g, 0, none⟩ = some (.int .u32 c.s.ch) ∧ w'.cell? ⟨g, 37, none⟩ = some (.int .i64 (c.k.signed + 1)) ∧ rowN w' g 45 2 = some #[.int .u64 c2.loc, .int .u64 c2.rem] ∧ w'.cell? ⟨g, 47, none⟩ = some (.slice la2 c2.xs.length lcap2)) [4, 9, 14, 18, 22]
            (Plan.pre [0, 1, 2, 3, 4, 5, 6, 7, 8, 9, 10, 11, 12, 13, 14, 15, 16, 17, 18, 19, 20, 21, 22] (.fork (.step 23 (.fork (.of [24, 25, 26]) (.of [25, 24, 26]))) (.of [25, 23, 24, 26]))) (by kernel_rfl) (by kernel_rfl) hC0 ?_
          simp only [Plan.of, Plan.pre]
          go_wp2_with (with_reducible first | (first | refine' qw1 (ido ?_) ?_ | refine' qw2 (ido ?_) ?_ | refine' qw3 (ido ?_) ?_); rotate_left | refine' qw4 (ido ?_) | refine' qw5 (ido ?_) | rfl | apply qn)
          have nd : New w6 w6.drew := (Upd.refl _ _).drew
          refine qf ?_ ?_
          · go_wp2_with (with_reducible first | (first | refine' qw1 (ido ?_) ?_ | refine' qw2 (ido ?_) ?_ | refine' qw3 (ido ?_) ?_); rotate_left | refine' qw4 (ido ?_) | refine' qw5 (ido ?_) | rfl | apply qn)
            refine (unhide HOF w6.drew nd).mono ?_
            rintro e wa ⟨V, rfl, na, hV⟩
            go_wp2_with (with_reducible first | (first | refine' qw1 (ido ?_) ?_ | refine' qw2 (ido ?_) ?_ | refine' qw3 (ido ?_) ?_); rotate_left | refine' qw4 (ido ?_) | refine' qw5 (ido ?_) | rfl | apply qn)
            refine ⟨unhide KEEP _ na, ?_⟩
            refine qf ?_ ?_
            · go_wp2_with (with_reducible first | (first | refine' qw1 (ido ?_) ?_ | refine' qw2 (ido ?_) ?_ | refine' qw3 (ido ?_) ?_); rotate_left | refine' qw4 (ido ?_) | refine' qw5 (ido ?_) | rfl | apply qn)
              refine (unhide HTG wa (nd.trans na) V hV).mono ?_
              rintro e wb ⟨rfl, nb⟩
              obtain ⟨hst, hF, nF⟩ := hs_fresh wb T hTl
              have HF := hide hF
              have NF := hide (((nd.trans na).trans nb).trans nF)
              have hal : New wb (wb.alloc (.cells (hshV z32i).toArray 35)) := (Upd.refl _ _).alloc _
              have hK := hide (unhide KEEP _ ((na.trans nb).trans hal))
              have hzz : w6.heap.size ≤ wb.heap.size := ((nd.trans na).trans nb).size
              clear hF nF hal nb
              go_wp2_with (with_reducible first | (first | refine' qw1 (ido ?_) ?_ | refine' qw2 (ido ?_) ?_ | refine' qw3 (ido ?_) ?_); rotate_left | refine' qw4 (ido ?_) | refine' qw5 (ido ?_) | rfl | apply qn)
              refine ⟨unhide hK, ?_⟩
              go_wp2_with (with_reducible first | (first | refine' qw1 (ido ?_) ?_ | refine' qw2 (ido ?_) ?_ | refine' qw3 (ido ?_) ?_); rotate_left | refine' qw4 (ido ?_) | refine' qw5 (ido ?_) | rfl | apply qn)
              go_meet
              case rel => exact ⟨_, rfl, hzz, unhide HF, unhide NF⟩
            · have hal : New wa (wa.alloc (.cells (hshV z32i).toArray 35)) := (Upd.refl _ _).alloc _
              have hbk := hs_alloc wa z32i z32i_len
              have hzz : w6.heap.size ≤ wa.heap.size := (nd.trans na).size
              go_wp2_with (with_reducible first | (first | refine' qw1 (ido ?_) ?_ | refine' qw2 (ido ?_) ?_ | refine' qw3 (ido ?_) ?_); rotate_left | refine' qw4 (ido ?_) | refine' qw5 (ido ?_) | rfl | apply qn)
              refine ⟨unhide KEEP _ (na.trans hal), ?_⟩
              generalize wa.alloc (.cells (hshV z32i).toArray 35) = wc at hal hbk ⊢
              generalize wa.heap.size = H at hbk hzz ⊢
              have HBK := hide hbk
              clear hbk
              go_wp2_with (with_reducible first | (first | refine' qw1 (ido ?_) ?_ | refine' qw2 (ido ?_) ?_ | refine' qw3 (ido ?_) ?_); rotate_left | refine' qw4 (ido ?_) | refine' qw5 (ido ?_) | rfl | apply qn)
              refine (unhide HTG wc ((nd.trans na).trans hal) V (hV.new hal)).mono ?_
              rintro e wb ⟨rfl, nb⟩
              have hb2 := (unhide HBK).new nb
              have hst := hb2.stOk T hTl
              have HF := hide (hb2.put T hTl)
              have NF := hide ((((nd.trans na).trans hal).trans nb).then (upd_sets (w := wb) (b := H) (hshV T)) (fun i hi e => by omega))
              clear hb2 nb
              go_wp2_with (with_reducible first | (first | refine' qw1 (ido ?_) ?_ | refine' qw2 (ido ?_) ?_ | refine' qw3 (ido ?_) ?_); rotate_left | refine' qw4 (ido ?_) | refine' qw5 (ido ?_) | rfl | apply qn)
              go_meet
              case rel => exact ⟨_, rfl, hzz, unhide HF, unhide NF⟩
          · have hal : New w6.drew (w6.drew.alloc (.cells (hshV z32i).toArray 35)) := (Upd.refl _ _).alloc _
            have hal2 : New w6.drew (w6.alloc (.cells (hshV z32i).toArray 35)).drew := hal
            have hbk : HsB (w6.alloc (.cells (hshV z32i).toArray 35)).drew w6.heap.size z32i := (hs_alloc w6 z32i z32i_len).new ((Upd.refl _ _).drew)
            have hzz : w6.heap.size ≤ w6.heap.size := Nat.le_refl _
            go_wp2_with (with_reducible first | (first | refine' qw1 (ido ?_) ?_ | refine' qw2 (ido ?_) ?_ | refine' qw3 (ido ?_) ?_); rotate_left | refine' qw4 (ido ?_) | refine' qw5 (ido ?_) | rfl | apply qn)
            refine ⟨unhide KEEP _ hal2, ?_⟩
            generalize (w6.alloc (.cells (hshV z32i).toArray 35)).drew = wc at hal2 hbk ⊢
            generalize hH : w6.heap.size = H at hbk ⊢
            rw [hH] at hzz
            have HBK := hide hbk
            clear hbk hal
            go_wp2_with (with_reducible first | (first | refine' qw1 (ido ?_) ?_ | refine' qw2 (ido ?_) ?_ | refine' qw3 (ido ?_) ?_); rotate_left | refine' qw4 (ido ?_) | refine' qw5 (ido ?_) | rfl | apply qn)
            refine (unhide HOF wc (nd.trans hal2)).mono ?_
            rintro e wa ⟨V, rfl, na, hV⟩
            have hb2 := (unhide HBK).new na
            go_wp2_with (with_reducible first | (first | refine' qw1 (ido ?_) ?_ | refine' qw2 (ido ?_) ?_ | refine' qw3 (ido ?_) ?_); rotate_left | refine' qw4 (ido ?_) | refine' qw5 (ido ?_) | rfl | apply qn)
            refine ⟨unhide KEEP _ (hal2.trans na), ?_⟩
            have HB2 := hide hb2
            clear hb2
            go_wp2_with (with_reducible first | (first | refine' qw1 (ido ?_) ?_ | refine' qw2 (ido ?_) ?_ | refine' qw3 (ido ?_) ?_); rotate_left | refine' qw4 (ido ?_) | refine' qw5 (ido ?_) | rfl | apply qn)
            refine (unhide HTG wa ((nd.trans hal2).trans na) V hV).mono ?_
            rintro e wb ⟨rfl, nb⟩
            have hb3 := (unhide HB2).new nb
            have hst := hb3.stOk T hTl
            have HF := hide (hb3.put T hTl)
            have NF := hide ((((nd.trans hal2).trans na).trans nb).then (upd_sets (w := wb) (b := H) (hshV T)) (fun i hi e => by omega))
            clear hb3 nb
            go_wp2_with (with_reducible first | (first | refine' qw1 (ido ?_) ?_ | refine' qw2 (ido ?_) ?_ | refine' qw3 (ido ?_) ?_); rotate_left | refine' qw4 (ido ?_) | refine' qw5 (ido ?_) | rfl | apply qn)
            go_meet
            case rel => exact ⟨_, rfl, Nat.le_of_eq hH, unhide HF, unhide NF⟩
        case rest =>
          obtain ⟨H, rfl, hH, hHs, n7⟩ := hcut
          obtain ⟨w7, rfl⟩ : ∃ w7 : World, w7 = wc := ⟨_, rfl⟩
          clear hC0
          have hP7 := (unhide H6).new n7
          have U7 := hide ((unhide U6).trans (n7.mono (T := S) (fun _ _ h => h.elim)))
          have hb7 := hide ((unhide hb6).new n7)
          have hz7 := hide n7.size
          have d37 : w7.drew.cell? ⟨g, 37, none⟩ = some (.int .i64 (c.k.signed + 1)) := by rw [← hsk]; exact hP7.toR.signed
          have dH : rowN w7.drew H 0 32 = some (hshV T).toArray := hHs.row
          have hbd := fun W => bd_msg_sig 6 (c.k.signed + 1) T hTl W
          rw [← unhide HSM] at hbd
          have hsml : (signMsg c).hash.length = 32 := by rw [unhide HSM]; exact hTl
          have hfew2 : c2.news.length < 1000000 := by rw [hsn]; exact hfew
          have hsay := fun W (n : New w7 W) => say_any g (Fr S w2 w3) c2 (signMsg c) hsml W ⟨lv3, nv3, av3, hP7.new n⟩ hfew2
          rw [hss] at hsay
          have hom : ((signMsg c).on c.s.ch).hash.length = 32 := by rw [on_hash]; exact hsml
          have HSAY := hide hsay
          have hC1 : w7.drew.cell? ⟨g, 37, none⟩ = some (.int .i64 (c.k.signed + 1)) ∧ rowN w7.drew H 0 32 = some (hshV T).toArray := ⟨d37, dH⟩
          have hgz : g < w7.heap.size := blk_lt hP7.at_
          have hltS : ∀ k, Fr S w2 w3 k → k < w7.heap.size := hP7.lt
          clear hP7 hsay
          generalize signMsg c = m at *
          generalize hmo : m.on c.s.ch = mo at *
          go_upto_region 9 with fail
          go_cut [5] from 73 to 81 (fun hv wx => ∃ M, hv = .pointer (some ⟨M, 0, none⟩) ∧ w7.heap.size ≤ M ∧ MsB wx M mo ∧ ChS wx g (Fr (Fr S w2 w3) w7 wx) (c2.say m) ∧ Upd (Fr S w2 w3) w7 wx)
          case first =>
            refine wp_plan (fun w' => w'.cell? ⟨g, 37, none⟩ = some (.int .i64 (c.k.signed + 1)) ∧ rowN w' H 0 32 = some (hshV T).toArray) [5, 6] (.fork (Plan.pre [0, 1, 2, 3, 4, 5, 6, 7] (.of [8, 9, 10])) (Plan.pre [9, 0, 1, 2, 3, 4, 5, 6, 7] (.of [8, 10]))) (by kernel_rfl) (by kernel_rfl) hC1 ?_
            simp only [Plan.of, Plan.pre]
            have nd7 : New w7 w7.drew := (Upd.refl _ _).drew
            have hHS : ∀ k, Fr S w2 w3 k → k ≠ H := fun k hk e => by
              have h6 := (unhide H6).lt k hk
              omega
            refine qf ?_ ?_
            · go_wp2_with (with_reducible first | (first | refine' qw1 (ido ?_) ?_ | refine' qw2 (ido ?_) ?_ | refine' qw3 (ido ?_) ?_); rotate_left | refine' qw4 (ido ?_) | refine' qw5 (ido ?_) | rfl | apply qn)
              refine (unhide HSAY w7.drew nd7).mono ?_
              rintro e wa ⟨rfl, ⟨lva, nva, ava, hPa⟩, ua⟩
              have ua' : Upd (Fr S w2 w3) w7 wa := ua.ofDrew
              have hHa := hHs.upd ua' (fun hk => hHS H hk rfl)
              have hca : ChS wa g (Fr (Fr S w2 w3) w7 wa) (c2.say m) := ⟨lva, nva, ava, hPa⟩
              have e37 : wa.cell? ⟨g, 37, none⟩ = some (.int .i64 (c.k.signed + 1)) := by rw [← hsk]; exact hPa.toR.signed
              obtain ⟨hst, hF, nF⟩ := ms_fresh wa mo hom
              have hal : New wa (wa.alloc (.cells MsgV.zero.cells.toArray 101)) := (Upd.refl _ _).alloc _
              have hKK := hide (And.intro (hal.cell e37 (fun h => h)) (hHa.new hal).row)
              have HF := hide hF
              have HC := hide ((hca.new nF).grow nF.size)
              have HU := hide (ua'.trans (nF.mono (T := Fr S w2 w3) (fun _ _ h => h.elim)))
              have hzz : w7.heap.size ≤ wa.heap.size := ua'.size
              clear hF nF hal hca hPa ua ua' e37 hHa
              go_wp2_with (with_reducible first | (first | refine' qw1 (ido ?_) ?_ | refine' qw2 (ido ?_) ?_ | refine' qw3 (ido ?_) ?_); rotate_left | refine' qw4 (ido ?_) | refine' qw5 (ido ?_) | rfl | apply qn)
              refine ⟨unhide hKK, ?_⟩
              go_wp2_with (with_reducible first | (first | refine' qw1 (ido ?_) ?_ | refine' qw2 (ido ?_) ?_ | refine' qw3 (ido ?_) ?_); rotate_left | refine' qw4 (ido ?_) | refine' qw5 (ido ?_) | rfl | apply qn)
              go_meet
              case rel => exact ⟨_, rfl, hzz, unhide HF, unhide HC, unhide HU⟩
            · have hal : New w7 (w7.alloc (.cells MsgV.zero.cells.toArray 101)).drew := ((Upd.refl _ _).alloc _).drew
              have hbk : MsB (w7.alloc (.cells MsgV.zero.cells.toArray 101)).drew w7.heap.size MsgV.zero := (ms_alloc w7 MsgV.zero z32i_len).new ((Upd.refl _ _).drew)
              have hHb := hHs.new hal
              have e37 := hal.cell (p := ⟨g, 37, none⟩) hC1.1 (fun h => h)
              go_wp2_with (with_reducible first | (first | refine' qw1 (ido ?_) ?_ | refine' qw2 (ido ?_) ?_ | refine' qw3 (ido ?_) ?_); rotate_left | refine' qw4 (ido ?_) | refine' qw5 (ido ?_) | rfl | apply qn)
              refine ⟨⟨e37, hHb.row⟩, ?_⟩
              have e37d := e37
              have eHd := hHb.row
              generalize (w7.alloc (.cells MsgV.zero.cells.toArray 101)).drew = wc at hal hbk hHb e37d eHd ⊢
              generalize hMM : w7.heap.size = M at hbk ⊢
              have HBK := hide hbk
              have HHB := hide hHb
              have hCC : wc.cell? ⟨g, 37, none⟩ = some (.int .i64 (c.k.signed + 1)) ∧ rowN wc H 0 32 = some (hshV T).toArray := ⟨e37d, eHd⟩
              clear hbk hHb e37 e37d eHd hC1
              go_wp2_with (with_reducible first | (first | refine' qw1 (ido ?_) ?_ | refine' qw2 (ido ?_) ?_ | refine' qw3 (ido ?_) ?_); rotate_left | refine' qw4 (ido ?_) | refine' qw5 (ido ?_) | rfl | apply qn)
              refine (unhide HSAY wc hal).mono ?_
              rintro e wa ⟨rfl, hca, ua⟩
              have hMn : ∀ k, Fr S w2 w3 k → ¬ k = M := fun k hk e => by
                have := hltS k hk
                omega
              have hMlt := (unhide HBK).lt
              have hb2 := (unhide HBK).upd ua (fun hk => hMn M hk rfl)
              have hst := hb2.stOk hom
              have um := upd_sets (w := wa) (b := M) mo.cells
              have HF := hide (hb2.put hom)
              have hzc := hal.size
              have hca2 : ChS (wa.setCells M 0 mo.cells) g (Fr (Fr S w2 w3) wc wa) (c2.say m) := hca.upd um (fun k hk e => by
                rcases hk with hk | hk
                · exact hMn k hk e
                · omega)
              have hca3 : ChS (wa.setCells M 0 mo.cells) g (Fr (Fr S w2 w3) wc (wa.setCells M 0 mo.cells)) (c2.say m) := hca2.grow um.size
              have HC := hide (hca3.later hzc)
              clear hca2 hca3
              have HU := hide (((hal.mono (T := Fr S w2 w3) (fun _ _ h => h.elim)).trans ua).then um (fun i hi e => by omega))
              clear hb2 hca ua um
              go_wp2_with (with_reducible first | (first | refine' qw1 (ido ?_) ?_ | refine' qw2 (ido ?_) ?_ | refine' qw3 (ido ?_) ?_); rotate_left | refine' qw4 (ido ?_) | refine' qw5 (ido ?_) | rfl | apply qn)
              go_meet
              case rel => exact ⟨_, rfl, Nat.le_of_eq hMM, unhide HF, unhide HC, unhide HU⟩
          case rest =>
            obtain ⟨M, rfl, hM, hMs, ⟨lv8, nv8, av8, hP8⟩, u8⟩ := hcut
            obtain ⟨w8, rfl⟩ : ∃ w8 : World, w8 = wc := ⟨_, rfl⟩
            have c626 : w8.cell? ⟨g, 626, none⟩ = some nv8 := (blk_cell hP8.at_ 626).trans (get_news _ lv8 nv8 av8 hP8.ok.s.seed hP8.ok.shelf)
            have c627 : w8.cell? ⟨g, 627, none⟩ = some av8 := (blk_cell hP8.at_ 627).trans (get_last _ lv8 nv8 av8 hP8.ok.s.seed hP8.ok.shelf)
            have f626 : w8.frozen? ⟨g, 626, none⟩ = false := blk_free hP8.at_ 626
            have f627 : w8.frozen? ⟨g, 627, none⟩ = false := blk_free hP8.at_ 627
            have h10 := hP8.turn
            obtain ⟨na8, ncap8, hnv8⟩ := own_shape' hP8.news
            have u10 : Upd (· = g) w8 ((w8.setCell ⟨g, 627, none⟩ nv8).setCell ⟨g, 626, none⟩ nilV) := ((Upd.refl _ _).set1 627 _).set1 626 _
            have hgM : M ≠ g := by omega
            have hM10 := hMs.upd u10 hgM
            have hb8 := (unhide hb7).upd u8 (fun hk => by
              rcases hk with hk | hk
              · exact hBS hk
              · have := (unhide HB).lt
                have := unhide hz2
                omega)
            have hb10 := hb8.upd u10 (fun e => hgB e.symm)
            have hst := hb10.stOk hom
            have rM := hM10.row
            have HF := hide (hb10.put hom)
            have uB := upd_sets (w := (w8.setCell ⟨g, 627, none⟩ nv8).setCell ⟨g, 626, none⟩ nilV) (b := B) mo.cells
            have hBm : B < w7.heap.size := (unhide hb7).lt
            have hz := unhide HSZ
            have hz2' := unhide hz2
            have hz12' := unhide hz12
            have hz7' := unhide hz7
            have hB1 := (unhide HB).lt
            have hin : ∀ k, Fr (Fr S w2 w3) w7 w8 k → Fr S w w8 k := fun k hk => by
              rcases hk with (hk | hk) | hk
              · exact .inl hk
              · exact .inr ⟨by omega, by have := u8.size; omega⟩
              · exact .inr ⟨by omega, hk.2⟩
            have hPB := h10.upd uB (fun k hk e => by
              rcases hk with (hk | hk) | hk
              · rw [e] at hk; exact hBS hk
              · omega
              · omega)
            have HC := hide (hPB.wider (T := Fr S w (((w8.setCell ⟨g, 627, none⟩ nv8).setCell ⟨g, 626, none⟩ nilV).setCells B 0 mo.cells)) (fun k hk => by
              rcases hin k hk with h | h
              · exact .inl h
              · exact .inr ⟨h.1, by have := u10.size; have := uB.size; omega⟩) (fun k hk => by
              rcases hk with hk | hk
              · have := (unhide H0).lt k hk
                have := u8.size
                have := u10.size
                have := uB.size
                omega
              · exact hk.2))
            have hw27 := (unhide U7).size
            have v8 : Upd S w w8 := (unhide U7).then u8 (fun i hi hk => by
              rcases hk with hk | hk
              · exact hk
              · omega)
            have v10 : Upd S w ((w8.setCell ⟨g, 627, none⟩ nv8).setCell ⟨g, 626, none⟩ nilV) := v8.then u10 (fun i hi e => by rw [e]; exact (unhide H0).inG)
            have HU := hide (v10.then uB (fun i hi e => by omega))
            rw [hnv8] at c626
            have hnve := hide hnv8
            rw [hnv8] at HF HC HU hst rM
            unfold nilV at HF HU hst rM
            have HC' : ChS ((((w8.setCell ⟨g, 627, none⟩ (.slice na8 (c2.say m).news.length ncap8)).setCell ⟨g, 626, none⟩ (.slice none 0 0))).setCells B 0 mo.cells) g (Fr S w ((((w8.setCell ⟨g, 627, none⟩ (.slice na8 (c2.say m).news.length ncap8)).setCell ⟨g, 626, none⟩ (.slice none 0 0))).setCells B 0 mo.cells)) (c2.say m).turned := ⟨_, _, _, unhide HC⟩
            have HCC := hide HC'
            clear HC' HC h10 u10 hM10 hb8 hb10 uB hPB v8 v10 hin hP8 u8 hMs hnv8
            go_wp2_with (with_reducible first | (first | refine' tw1 (ido ?_) ?_ | refine' tw2 (ido ?_) ?_); rotate_left | refine' tw3 (ido ?_) | rfl | apply tn | refine' tw4 ?_)
            have hF := unhide HF
            refine bodyPost_ret (results_row_tmp' rfl _ _ B _ _ _ _ rfl hF.at_ Tryz.underlying101 rfl (by rw [hF.agg]; exact Tryz.infoMsg)) rfl ?_
            rw [unhide HSG]
            exact ⟨rfl, unhide HCC, unhide HU⟩

end Go.Proofs.YtfmkdoachjgjbaaGreatDoor
