/-
  many, say, shut, Shut.
-/
import Derived.Test.YtfmkdoachjgjbaaGreatDoorMaj
import Derived.Deep.Onto
import Derived.Maps.AppendAt
import Derived.Deep.AppendLies
set_option linter.unusedVariables false
set_option linter.unusedSimpArgs false
namespace Go.Proofs.YtfmkdoachjgjbaaGreatDoor
open Go.RowKit

attribute [local go_sem ↓ high] ld_live_fold st_live_fold al_live_fold ld_msg_fold st_msg_fold al_msg_fold bd_msg_fold bs_msg_fold
attribute [local go_sem] ld_live st_live al_live ld_msg st_msg al_msg bd_msg_zero bd_msg_shut bs_msg rowN_drew

def manyL (own : Bool) (xs : List Live) : Nat := (xs.filter fun x => x.own == own).length
set_option maxRecDepth 100000 in
set_option maxHeartbeats 2000000 in
theorem manyC_any (g : Nat) (S : Nat → Prop) (c : Ch) (own : Bool) (w : World) (h : ChS w g S c) :
    Calls Tryz.prog 90 #[.pointer (some ⟨g, 0, none⟩), .bool own] w (Makes (.int .i64 (manyL own c.xs)) w) := by
  obtain ⟨lv, nv, av, h⟩ := h
  have c47 := h.toR.live
  have hfew := h.ok.few
  have hv := h.toI.lives
  obtain ⟨a, cap, hsh⟩ := own_shape' h.live
  change w.cell? ⟨g, 47, none⟩ = some lv at c47
  change Lives w lv c.xs at hv
  rw [hsh] at c47 hv
  have hcell : ∀ (i : Nat) (x : Live), c.xs[i]? = some x → ∃ g' off, a = some ⟨g', off, none⟩ ∧ HeldL w g' off c.xs := by
    intro i x hi
    have hlt := (List.getElem?_eq_some_iff.1 hi).1
    rcases hv with ⟨a', k, e, e0⟩ | ⟨g', off, k, e, hh⟩
    · rw [e0] at hlt; simp at hlt
    · injection e with e1
      exact ⟨g', off, e1, hh⟩
  clear h hv
  generalize c.xs = xs at *
  have hll : (xs.length : Int) ≤ 1000000 := by omega
  go_enter Tryz.func90, Tryz.ntmps90
  go_wp2_with fail
  go_loopw [5, 7, 13] (fun sv _ iv wr => ∃ i : Nat, iv = .int .i64 (i : Int) ∧ i ≤ xs.length ∧ sv = .int .i64 (manyL own (xs.take i)) ∧ New w wr) (fun _ _ iv _ => xs.length - (intOf iv).toNat)
  case atStart => exact ⟨0, rfl, Nat.zero_le _, rfl, Upd.refl _ _⟩
  case round =>
    obtain ⟨i, rfl, hi, rfl, nr⟩ := hrel
    obtain ⟨wq, rfl⟩ : ∃ wq : World, wq = wr := ⟨_, rfl⟩
    by_cases hlt : i < xs.length
    · obtain ⟨x, hxx⟩ : ∃ x, xs[i]? = some x := ⟨_, List.getElem?_eq_getElem hlt⟩
      obtain ⟨g', off, rfl, hh⟩ := hcell i x hxx
      have hrow := (hh.upd nr (fun h => h)).row hxx
      have hi0 : (i : Int) < (xs.length : Int) := by omega
      have hst := stOk_live wq x
      have hlaid := laid_live wq x
      have hmn : manyL own (xs.take (i + 1)) = manyL own (xs.take i) + (if x.own == own then 1 else 0) := by
        unfold manyL
        rw [List.take_add_one, hxx, List.filter_append, List.length_append]
        cases hb : x.own == own <;> simp [hb]
      have hle : manyL own (xs.take i) ≤ i := by
        unfold manyL
        refine Nat.le_trans (List.length_filter_le _ _) ?_
        rw [List.length_take]
        omega
      have HM := hide hmn
      clear hmn hxx hh hcell
      generalize manyL own (xs.take i) = M at *
      go_upto_region 5 with fail
      obtain ⟨hb, nb⟩ := hlaid
      generalize (wq.alloc (.cells (liveCells Live.zero).toArray 69)).setCells wq.heap.size 0 (liveCells x) = wb at hb nb ⊢
      have d35 : wb.cell? ⟨wq.heap.size, 35, none⟩ = some (.bool x.own) := by rw [blk_cell hb, List.getElem?_toArray]; exact live_35 x
      have nwb := nr.trans nb
      have hMl : (M : Int) ≤ 1000000 := by omega
      clear hst hrow hb nb nr
      cases hb : x.own == own with
      | true =>
        rw [hb] at HM
        go_wp2_with fail
        go_roundw
        case rel => exact ⟨i + 1, by go_num, by omega, by rw [unhide HM]; simp, nwb⟩
        case measure => simp [intOf]; omega
      | false =>
        rw [hb] at HM
        go_wp2_with fail
        go_roundw
        case rel => exact ⟨i + 1, by go_num, by omega, by rw [unhide HM]; simp, nwb⟩
        case measure => simp [intOf]; omega
    · obtain rfl : i = xs.length := by omega
      rw [List.take_length]
      clear hcell
      go_wp2_with fail
      go_ret
      exact ⟨rfl, nr⟩

/-- A message put behind a row of messages. -/
theorem msg_info : ∃ i z b, Tryz.prog.info? 101 = some i ∧ i.zero = some z ∧ i.size = 38 ∧ i.bytes = b ∧ z.cells.size = 38 ∧ b ≤ 1000 := by
  obtain ⟨i, z, hi, hz, hc⟩ := zero_of Tryz.zeroMsg
  have hb : (Tryz.prog.info? 101).map (fun i => decide (i.bytes ≤ 1000)) = some true := by kernel_rfl
  have hs := Tryz.infoMsg
  rw [hi, Option.map_some, Option.some.injEq] at hb hs
  exact ⟨i, z, i.bytes, hi, hz, hs, rfl, by rw [hc]; rfl, of_decide_eq_true hb⟩
def MsgV.on (m : MsgV) (ch : Int) : MsgV := { m with ch := ch }
/-- What an end says. -/
def Ch.say (c : Ch) (m : MsgV) : Ch := { c with news := c.news ++ [m.on c.s.ch] }
set_option maxRecDepth 100000 in
set_option maxHeartbeats 2000000 in
theorem say_any (g : Nat) (S : Nat → Prop) (c : Ch) (m : MsgV) (hm : m.hash.length = 32) (w : World) (h : ChS w g S c) (hfew : c.news.length < 1000000) :
    Calls Tryz.prog 91 #[.pointer (some ⟨g, 0, none⟩), .agg m.cells.toArray] w fun e w' => e = .returned (.agg (m.on c.s.ch).cells.toArray) ∧ ChS w' g (Fr S w w') (c.say m) ∧ Upd S w w' := by
  obtain ⟨lv, nv, av, h⟩ := h
  go_enter Tryz.func91, Tryz.ntmps91
  go_upto_region 1 with fail
  have hbA : ((w.alloc (.cells m.cells.toArray 101)).alloc (.cells MsgV.zero.cells.toArray 101)).heap[w.heap.size]? = some (.cells m.cells.toArray 101 (0, 0)) := blk_alloc_old (blk_alloc _ _) _
  have hbB : ((w.alloc (.cells m.cells.toArray 101)).alloc (.cells MsgV.zero.cells.toArray 101)).heap[w.heap.size + 1]? = some (.cells MsgV.zero.cells.toArray 101 (0, 0)) := by
    have := blk_alloc (w.alloc (.cells m.cells.toArray 101)) (.cells MsgV.zero.cells.toArray 101)
    rwa [World.size_alloc] at this
  have nA : New w ((w.alloc (.cells m.cells.toArray 101)).alloc (.cells MsgV.zero.cells.toArray 101)) := ((Upd.refl _ _).alloc _).alloc _
  generalize (w.alloc (.cells m.cells.toArray 101)).alloc (.cells MsgV.zero.cells.toArray 101) = wA at hbA hbB nA ⊢
  obtain ⟨A, hAe⟩ : ∃ A, A = w.heap.size := ⟨_, rfl⟩
  obtain ⟨B, hBe⟩ : ∃ B, B = w.heap.size + 1 := ⟨_, rfl⟩
  rw [← hBe] at hbB ⊢
  rw [← hAe] at hbA ⊢
  have hA := h.new nA
  have hgA : g ≠ A := by have := h.lt g h.inG; omega
  have hgB : g ≠ B := by have := h.lt g h.inG; omega
  have hAl : w.heap.size ≤ A := by omega
  have hBl : w.heap.size ≤ B := by omega
  have hAB : B ≠ A := by omega
  clear hAe hBe
  -- the channel's number
  have c0 : wA.cell? ⟨g, 0, none⟩ = some (.int .u32 c.s.ch) := hA.toR.ch
  have e1 : wA.cell? ⟨A, 1, none⟩ = some (.int .u32 m.ch) := blk_cell hbA 1
  have f1 := blk_free hbA 1
  have uB : Upd (· = A) wA (wA.setCell ⟨A, 1, none⟩ (.int .u32 c.s.ch)) := (Upd.refl _ _).set1 1 _
  have hbA2 : (wA.setCell ⟨A, 1, none⟩ (.int .u32 c.s.ch)).heap[A]? = some (.cells (m.on c.s.ch).cells.toArray 101 (0, 0)) := blk_set hbA 1 _
  have hbB2 := uB.old hbB hAB
  have hB := hA.upd uB (fun k hk e => by have := h.lt k hk; omega)
  have nB : New w (wA.setCell ⟨A, 1, none⟩ (.int .u32 c.s.ch)) := nA.then uB (fun i hi e => by omega)
  have H0 := hide h
  clear h hA hbA hbB nA uB
  go_upto_region 2 with fail
  clear c0 e1 f1
  generalize wA.setCell ⟨A, 1, none⟩ (.int .u32 c.s.ch) = wB at hB hbA2 hbB2 nB ⊢
  have c626 : wB.drew.cell? ⟨g, 626, none⟩ = some nv := by
    have e : wB.drew.cell? ⟨g, 626, none⟩ = _ := blk_cell hB.at_ 626
    rw [e]
    exact get_news c lv nv av hB.ok.s.seed hB.ok.shelf
  have f626 : wB.frozen? ⟨g, 626, none⟩ = false := blk_free hB.at_ 626
  have hmo : (m.on c.s.ch).hash.length = 32 := hm
  have hr : rowN wB A 0 38 = some (m.on c.s.ch).cells.toArray := rowN_whole hbA2 38 (by rw [List.size_toArray, MsgV.len _ hmo])
  have hl38 := MsgV.len _ hmo
  obtain ⟨i9, z9, b9, hi9, hz9, hz0, hz1, hz2, hb9⟩ := msg_info
  have HB := hide hB
  have hchB : Hid (∃ cs, wB.heap[g]? = some (.cells cs 126 (0, 0))) := hide ⟨_, hB.at_⟩
  obtain ⟨na, ncap, hnv⟩ := own_shape' hB.news
  clear hB
  refine wp_plan (fun w' => w'.cell? ⟨g, 626, none⟩ = some nv) [4] (.of [0, 1, 2, 3, 4, 5, 6, 7, 8, 9, 10]) (by kernel_rfl) (by kernel_rfl) c626 ?_
  simp only [Plan.of]
  go_wp2_with (with_reducible first | (first | refine' qw1 (ido ?_) ?_ | refine' qw2 (ido ?_) ?_ | refine' qw3 (ido ?_) ?_); rotate_left | refine' qw4 (ido ?_) | refine' qw5 (ido ?_) | rfl | apply qn)
  refine ⟨((Upd.refl (fun _ => False) wB).alloc _).drew.cell c626 (fun h => h), ?_⟩
  have nC : New wB (wB.alloc (.cells (m.on c.s.ch).cells.toArray 101)).drew := ((Upd.refl _ _).alloc _).drew
  have hbD : (wB.alloc (.cells (m.on c.s.ch).cells.toArray 101)).drew.heap[wB.heap.size]? = _ := blk_alloc wB (.cells (m.on c.s.ch).cells.toArray 101)
  have HC := hide ((unhide HB).new nC)
  have hbA3 := nC.old hbA2 (fun h => h)
  have hbB3 := nC.old hbB2 (fun h => h)
  have c626' := nC.cell c626 (fun h => h)
  have nwC := nB.trans nC
  have hDl : w.heap.size ≤ wB.heap.size := nB.size
  clear c626 f626 hr HB hbA2 hbB2 nB nC hchB
  generalize (wB.alloc (.cells (m.on c.s.ch).cells.toArray 101)).drew = wC at hbD HC hbA3 hbB3 c626' nwC ⊢
  generalize wB.heap.size = D at hbD hDl ⊢
  have hnews := (unhide HC).news
  unfold MsgsO at hnews
  rw [hnv] at hnews
  have HN := hide hnews
  clear hnews
  go_wp2_with (first | (at_builtin; refine wpList_append_own_at _ rfl (.tmp 15) (.tmp 17) 124 rfl 0 101 i9 _ 38 b9 Tryz.underlying124 hi9 hz9 hz0 hz1 hz2 (by decide) _ _ _ rfl (unhide HN) ⟨D, 0, none⟩ 1 1 (m.on c.s.ch).cells rfl (by rw [hl38]) ?c1 ?c2 ?c3 ?c4 ?c5 ?_) | (with_reducible first | (first | refine' qw1 (ido ?_) ?_ | refine' qw2 (ido ?_) ?_ | refine' qw3 (ido ?_) ?_); rotate_left | refine' qw4 (ido ?_) | refine' qw5 (ido ?_) | rfl | apply qn))
  case c1 => exact World.news_of_block (cs := (m.on c.s.ch).cells.toArray) (fr := (0, 0)) hbD
  case c2 => exact MsgV.one _
  case c3 => unfold maxLen; omega
  case c4 => have := Nat.mul_le_mul (show c.news.length + 1 ≤ 1000000 by omega) hb9; omega
  case c5 => omega
  intro v' wD hown' hgr _ hblk
  obtain ⟨a', cap', hv'⟩ := own_shape' hown'
  have hownC := fun k (e : nv.ownBlock = some k) => (unhide HC).inN k e
  rw [← hnv] at hgr hblk
  have uD : Upd (fun k => nv.ownBlock = some k) wC wD := (Upd.refl _ _).grown hgr (fun k hk _ => hk)
  have hgN : ¬ (nv.ownBlock = some g) := fun e => by
    obtain ⟨cur, hc⟩ := own_blk' (unhide HC).news g e
    exact apart_ty' (unhide HC).at_ hc (by decide) rfl
  have hltS := (unhide H0).lt
  have hBlt := blk_lt hbB3
  have hbA4 := uD.old hbA3 (fun e => by have := hltS _ (hownC _ e); omega)
  have hbB4 := uD.old hbB3 (fun e => by have := hltS _ (hownC _ e); omega)
  have hatD := uD.old (unhide HC).at_ hgN
  have c626D := uD.cell c626' hgN
  have f626D : wD.frozen? ⟨g, 626, none⟩ = false := blk_free hatD 626
  have HV := hide (And.intro hown' (And.intro hblk uD))
  clear hown' hblk hgr uD c626' hbA3 hbB3 hbD
  have uE : Upd (· = g) wD (wD.setCell ⟨g, 626, none⟩ v') := (Upd.refl _ _).set1 626 _
  have hbA5 := uE.old hbA4 (fun e => hgA e.symm)
  have hbB5 := uE.old hbB4 (fun e => hgB e.symm)
  have hatE := blk_set hatD 626 v'
  rw [set_news c lv nv av (unhide HC).ok.s.seed (unhide HC).ok.shelf (c.news ++ [m.on c.s.ch])] at hatE
  have HE := hide (And.intro hatE uE)
  have HV' := hide hv'
  clear hatE uE hatD hbA4 hbB4
  rw [hv'] at hbA5 hbB5 ⊢
  have hr5 := rowN_whole hbA5 38 (by rw [List.size_toArray, hl38])
  have hs5 := stOk_msg hbB5 hmo
  have hF := laid_msg hbB5 hmo
  have HF := hide hF
  clear hF hv' hbA5
  go_wp2_with (with_reducible first | (first | refine' qw1 (ido ?_) ?_ | refine' qw2 (ido ?_) ?_ | refine' qw3 (ido ?_) ?_); rotate_left | refine' qw4 (ido ?_) | refine' qw5 (ido ?_) | rfl | apply qn)
  refine bodyPost_ret (results_cell_row rfl _ _ B _ _ _ _ rfl (unhide HF) Tryz.underlying101 rfl (by rw [List.size_toArray, hl38]; exact Tryz.infoMsg)) rfl ?_
  have hve := unhide HV'
  obtain ⟨hown', hblk, uD⟩ := unhide HV
  obtain ⟨hatE, uE⟩ := unhide HE
  rw [← hve]
  have h := unhide H0
  have hC := unhide HC
  have uF : Upd (· = B) (wD.setCell ⟨g, 626, none⟩ v') ((wD.setCell ⟨g, 626, none⟩ v').setCells B 0 (m.on c.s.ch).cells) := (Upd.refl _ _).setCells 0 _
  have hzC := nwC.size
  refine ⟨rfl, ?_, (((nwC.mono (fun _ _ h => h.elim)).trans (uD.mono (fun k _ e => hownC k e))).trans (uE.mono (fun k _ e => by rw [e]; exact h.inG))).then uF (fun i hi e => by omega)⟩
  have hzF : wD.heap.size ≤ ((wD.setCell ⟨g, 626, none⟩ v').setCells B 0 (m.on c.s.ch).cells).heap.size := Nat.le_trans uE.size uF.size
  generalize (wD.setCell ⟨g, 626, none⟩ v').setCells B 0 (m.on c.s.ch).cells = wF at uF hzF ⊢
  generalize wD.setCell ⟨g, 626, none⟩ v' = wE at uE uF hatE
  have hvlt : ∀ k, v'.ownBlock = some k → k < wD.heap.size := fun k hk => by
    obtain ⟨cur, hc⟩ := own_blk' hown' k hk
    exact blk_lt hc
  have hvB : ∀ k, v'.ownBlock = some k → k ≠ B := by
    intro k hk
    rcases hblk with e | e
    · rw [e] at hk
      have := hltS k (hownC k hk)
      omega
    · rw [e] at hk
      injection hk with hk
      omega
  have hvg : ∀ k, v'.ownBlock = some k → k ≠ g := by
    intro k hk
    rcases hblk with e | e
    · rw [e] at hk
      rintro rfl
      exact hgN hk
    · rw [e] at hk
      injection hk with hk
      have := blk_lt hC.at_
      omega
  have row2 : ∀ {T : TypeId} {v : Value} {n : Nat} {xs : List Value}, wC.ownsRow 0 T 38 v n xs → (∀ k, v.ownBlock = some k → S k) → (∀ k, v.ownBlock = some k → k ≠ g) → (∀ k, v.ownBlock = some k → nv.ownBlock ≠ some k) → wF.ownsRow 0 T 38 v n xs := by
    intro T v n xs hr hs h1 h2
    exact row_upd' (row_upd' (row_upd' hr uD (fun k hk e => h2 k hk e)) uE (fun k hk e => h1 k hk e)) uF (fun k hk e => by have := hltS k (hs k hk); omega)
  refine ⟨lv, v', av, ⟨uF.old hatE hgB, ⟨h.ok.s, h.ok.signed, h.ok.heard, h.ok.nextOwn, h.ok.nextTheirs, h.ok.loc, h.ok.rem, h.ok.xs, h.ok.few, h.ok.shelf, ?_, h.ok.last, ?_, h.ok.many.2⟩, ?_, ?_, ?_, .inl h.inG, fun k e => .inl (h.inL k e), ?_, fun k e => .inl (h.inA k e), ?_, ?_⟩⟩
  · intro x hx
    rcases List.mem_append.1 hx with hx | hx
    · exact h.ok.news x hx
    · rw [List.mem_singleton.1 hx]
      exact hmo
  · show (c.news ++ [m.on c.s.ch]).length ≤ 1000000
    rw [List.length_append]
    simp
    omega
  · refine row2 hC.live h.inL ?_ ?_
    · intro k hk e
      obtain ⟨cur, hc⟩ := own_blk' hC.live k hk
      rw [e] at hc
      exact apart_ty' hC.at_ hc (by decide) rfl
    · intro k hk e
      obtain ⟨cur, hc⟩ := own_blk' hC.live k hk
      obtain ⟨cur2, hc2⟩ := own_blk' hC.news k e
      exact apart_ty' hc hc2 (by decide) rfl
  · show wF.ownsRow 0 _ 38 v' (c.news ++ [m.on c.s.ch]).length ((c.news ++ [m.on c.s.ch]).flatMap MsgV.cells)
    rw [List.length_append, List.flatMap_append]
    have : [m.on c.s.ch].flatMap MsgV.cells = (m.on c.s.ch).cells := by simp
    rw [this]
    exact row_upd' (row_upd' hown' uE (fun k hk e => hvg k hk e)) uF (fun k hk e => hvB k hk e)
  · refine row2 hC.last h.inA ?_ ?_
    · intro k hk e
      obtain ⟨cur, hc⟩ := own_blk' hC.last k hk
      rw [e] at hc
      exact apart_ty' hC.at_ hc (by decide) rfl
    · intro k hk e
      exact h.sep k e hk
  · intro k hk
    rcases hblk with e | e
    · rw [e] at hk
      exact .inl (h.inN k hk)
    · have := hvlt k hk
      rw [e] at hk
      injection hk with hk
      exact .inr ⟨by omega, by omega⟩
  · intro k hk e'
    rcases hblk with e | e
    · rw [e] at hk
      exact h.sep k hk e'
    · rw [e] at hk
      injection hk with hk
      have := hltS k (h.inA k e')
      omega
  · rintro k (hk | hk)
    · have := hltS k hk
      have := uD.size
      omega
    · exact hk.2

end Go.Proofs.YtfmkdoachjgjbaaGreatDoor
