/-
  The law ViewTotal, walked.
-/
import Derived.Test.YtbcjhpeighlncaaDoorSh2
import Derived.Test.YtbcjhpeighlncaaDoorPl1
import Derived.Test.YtbcjhpeighlncaaDoorArgs
namespace Go.Proofs.YtbcjhpeighlncaaDoor
open Go.RowKit Go.Sort

theorem Lives.slice {w : World} {v : Value} {xs : List Live} (h : Lives w v xs) : ∃ a c, v = .slice a xs.length c := by
  rcases h with ⟨_, _, rfl, rfl⟩ | ⟨g, off, cap, rfl, _⟩
  · exact ⟨_, _, rfl⟩
  · exact ⟨_, _, rfl⟩
theorem IntRow.slice {k : IntKind} {w : World} {v : Value} {zs : List Int} (h : IntRow k w v zs) : ∃ a c, v = .slice a zs.length c := by
  rcases h with ⟨_, _, rfl, rfl⟩ | ⟨g, off, cap, rfl, _⟩
  · exact ⟨_, _, rfl⟩
  · exact ⟨_, _, rfl⟩
theorem IntRow.at {k : IntKind} {w : World} {a : Option Addr} {n c : Nat} {zs : List Int} (h : IntRow k w (.slice a n c) zs) {i : Nat} (hi : i < zs.length) :
    ∃ b off, a = some ⟨b, off, none⟩ ∧ n = zs.length ∧ zs.length ≤ c ∧ w.cell? ⟨b, off + i, none⟩ = some (.int k (zs.getD i 0)) ∧ (Lit.int k (zs.getD i 0)).wf = true := by
  rcases h with ⟨_, _, e, rfl⟩ | ⟨b, off, cap, e, _, h1, _, h2, h3⟩
  · simp at hi
  · cases e
    exact ⟨b, off, rfl, rfl, h1, h2 i hi, h3 _ (getD_mem_int hi)⟩

theorem IntRow.new {k : IntKind} {w w' : World} {v : Value} {zs : List Int} (h : IntRow k w v zs) (u : New w w') : IntRow k w' v zs := by
  rcases h with h | ⟨b, off, cap, e, h0, h1, h2, h3, h4⟩
  · exact .inl h
  · exact .inr ⟨b, off, cap, e, h0, h1, h2, fun i hi => u.cell (h3 i hi) (fun h => h), h4⟩
theorem view_len {ours : Bool} {xs : List Live} {X : List Item} {M : List (Item × Nat)} (hM : M.Perm (itemsOf ours xs).zipIdx) (hX : X = its M) (h : xs.length ≤ 1048576) : X.length ≤ 1048576 := by
  have h1 := hM.length_eq
  have h2 : (itemsOf ours xs).length ≤ xs.length := by
    unfold itemsOf; rw [List.length_map]
    exact List.length_filter_le _ _
  rw [hX]
  simp only [its, List.length_map] at *
  simp at h1
  omega

set_option maxRecDepth 100000 in
set_option maxHeartbeats 1000000 in
theorem total_early (l r : Int) (va ea : Option Addr) (vc ec n m : Nat) (w : World) (hS : Spans w) (h : 60 < n ∨ 60 < m) :
    Calls Tryd.prog 6 #[.agg #[.int .u64 l, .int .u64 r], .slice va n vc, .slice ea m ec] w (Makes (.bool true) w) := by
  have n0 : New w (w.alloc (.cells #[.int .u64 l, .int .u64 r] 24)) := (Upd.refl _ _).alloc _
  have hS0 := hS.new n0
  by_cases h1 : 60 < n
  · go_enter Tryd.func6, Tryd.ntmps6
    go_wp2_with fail
    refine (shown_any _ hS0).mono ?_
    rintro e w1 ⟨rfl, n1⟩
    go_wp2
    go_ret
    exact ⟨rfl, n0.trans n1⟩
  · have h2 : 60 < m := by omega
    go_enter Tryd.func6, Tryd.ntmps6
    go_wp2_with fail
    refine (shown_any _ hS0).mono ?_
    rintro e w1 ⟨rfl, n1⟩
    go_wp2
    go_ret
    exact ⟨rfl, n0.trans n1⟩

set_option maxRecDepth 100000 in
set_option maxHeartbeats 4000000 in
theorem total_walk (l r : Int) (v : Value) (xs : List Live) (ev : Value) (zs : List Int) (w : World) (hv : Lives w v xs) (he : IntRow .u8 w ev zs) (hS : Spans w) (hG : Glob w) :
    Calls Tryd.prog 6 #[.agg #[.int .u64 l, .int .u64 r], v, ev] w (Makes (.bool true) w) := by
  obtain ⟨va, vc, rfl⟩ := hv.slice
  obtain ⟨ea, ec, rfl⟩ := he.slice
  by_cases h : 60 < xs.length ∨ 60 < zs.length
  · exact total_early l r va ea vc ec _ _ w hS h
  have h1 : ¬ 60 < xs.length := by omega
  have h2 : ¬ 60 < zs.length := by omega
  clear h
  have n0 : New w (w.alloc (.cells #[.int .u64 l, .int .u64 r] 24)) := (Upd.refl _ _).alloc _
  have hS0 := hS.new n0
  have b0 : (w.alloc (.cells #[.int .u64 l, .int .u64 r] 24)).heap[w.heap.size]? = some (.cells #[.int .u64 l, .int .u64 r] 24 (0, 0)) := blk_alloc _ _
  go_enter Tryd.func6, Tryd.ntmps6
  go_wp2_with fail
  generalize w.alloc (.cells #[.int .u64 l, .int .u64 r] 24) = wa at n0 hS0 b0 ⊢
  refine (shown_any _ hS0).mono ?_
  rintro e w1 ⟨rfl, n1⟩
  have b1 := n1.old b0 (fun h => h)
  have c0 := blk_cell b1 0
  have c1 := blk_cell b1 1
  simp at c0 c1
  have nw := n0.trans n1
  obtain ⟨wo, rfl⟩ : ∃ wo : World, wo = w1 := ⟨_, rfl⟩
  clear b0 n0 n1 hS0
  go_wp2_with fail
  go_loopw [7, 8] (fun sv iv wr => ∃ k : Nat, iv = .int .i64 k ∧ k ≤ xs.length ∧ sv = .int .u64 (wantI l r (xs.take k)) ∧ wr = wo) (fun _ iv _ => xs.length - (intOf iv).toNat)
  case atStart => exact ⟨0, rfl, Nat.zero_le _, by simp [wantI, amtsL]⟩
  case round =>
    obtain ⟨k, rfl, hk, rfl, rfl⟩ := hrel
    by_cases hlt : k < xs.length
    · obtain ⟨x, hx⟩ : ∃ x, xs[k]? = some x := ⟨_, List.getElem?_eq_getElem hlt⟩
      rcases hv.new nw with ⟨_, _, e, e2⟩ | ⟨g, off, cap, e, hh⟩
      · rw [e2] at hlt; simp at hlt
      · cases e
        have hc : wr.cell? ⟨g, off + k * 38 + 1, none⟩ = some (.int .u64 x.h.amount) := by
          obtain ⟨C, T, fz, hb, hs, hc⟩ := hh
          rw [blk_cell hb, hc k x hx 1 (by decide), live_1]
        have hs := want_snoc l r (xs.take k) x
        rw [show xs.take k ++ [x] = xs.take (k + 1) by rw [List.take_add_one, hx]; rfl] at hs
        have HS := hide hs
        clear hs hx
        go_wp2
        go_roundw
        case rel => exact ⟨k + 1, by go_num, by omega, by rw [unhide HS], trivial⟩
        case measure => simp [intOf]; omega
    · obtain rfl : k = xs.length := by omega
      rw [List.take_length]
      have HV := hide (hv.new nw)
      have HE := hide (he.new nw)
      have hlen : xs.length ≤ 60 := by omega
      generalize hW : wantI l r xs = W
      have HW := hide hW
      clear hW hv he hlt hk
      obtain ⟨wq, rfl⟩ : ∃ wq : World, wq = wr := ⟨_, rfl⟩
      have hwlt : w.heap.size < wq.heap.size := blk_lt b1
      go_wp2_with fail
      go_loopw [1, 9] (fun lv iv wr => ∃ (k : Nat) (a : Option Addr) (c : Nat) (ys : List Live), iv = .int .i64 k ∧ k ≤ zs.length + 1 ∧ lv = .slice a xs.length c ∧ Hid (ys.length = xs.length) ∧ Hid (amtsL ys = amtsL xs) ∧ Hid (Lives wr lv ys) ∧ New w wr ∧ New wq wr) (fun _ iv _ => zs.length + 1 - (intOf iv).toNat)
      case atStart => exact ⟨0, va, vc, xs, rfl, Nat.zero_le _, rfl, hide rfl, hide rfl, HV, nw, Upd.refl _ _⟩
      case round =>
        obtain ⟨k, a, c, ys, rfl, hk, rfl, HL, HA, HV2, nr, nq⟩ := hrel
        have b2 := nq.old b1 (fun h => h)
        have c0 := blk_cell b2 0
        have c1 := blk_cell b2 1
        simp at c0 c1
        by_cases hkk : k ≤ zs.length
        · have ht1 : ∀ X M, M.Perm (itemsOf true ys).zipIdx → X = its M → totalI (sumsOf true l r ys).1 (sumsOf true l r ys).2 X = W := by
            intro X M h1 h2
            have := total_view true l r ys X M h1 h2
            rw [unhide HA] at this
            simpa using this.trans (unhide HW)
          have ht2 : ∀ X M, M.Perm (itemsOf false ys).zipIdx → X = its M → totalI (sumsOf false l r ys).2 (sumsOf false l r ys).1 X = W := by
            intro X M h1 h2
            have := total_view false l r ys X M h1 h2
            rw [unhide HA] at this
            simpa using this.trans (unhide HW)
          have HT1 := hide ht1
          have HT2 := hide ht2
          clear ht1 ht2
          go_wp2_with fail
          refine (of_any true l r _ ys (by have := unhide HL; omega) wr (hS.new nr) (unhide HV2)).mono ?_
          rintro e w2 ⟨u, X, rfl, n2, hi, M, pM, _, eX⟩
          simp only [if_true]
          have hxl := view_len pM eX (by have := unhide HL; omega)
          have T := total_any (sumsOf true l r ys).1 (sumsOf true l r ys).2 u X hxl w2 hi
          rw [unhide HT1 X M pM eX] at T
          have TT := hide T
          have nq2 := nq.trans n2
          clear pM eX hi T hxl
          go_wp2_with fail
          refine (unhide TT).mono ?_
          rintro e w3 ⟨rfl, n3⟩
          have nq3 := nq2.trans n3
          have nr3 := nr.trans (n2.trans n3)
          have HV3 := hide ((unhide HV2).new (n2.trans n3))
          have b3 := nq3.old b1 (fun h => h)
          have d0 := blk_cell b3 0
          have d1 := blk_cell b3 1
          simp at d0 d1
          clear b2 c0 c1 HV2 TT n2 n3
          go_wp2_with fail
          refine (of_any false l r _ ys (by have := unhide HL; omega) w3 (hS.new nr3) (unhide HV3)).mono ?_
          rintro e w4 ⟨u4, X4, rfl, n4, hi, M, pM, _, eX⟩
          simp only [Bool.false_eq_true, if_false]
          have hxl := view_len pM eX (by have := unhide HL; omega)
          have T := total_any (sumsOf false l r ys).2 (sumsOf false l r ys).1 u4 X4 hxl w4 hi
          rw [unhide HT2 X4 M pM eX] at T
          have TT := hide T
          clear pM eX hi T hxl
          go_wp2_with fail
          refine (unhide TT).mono ?_
          rintro e w5 ⟨rfl, n5⟩
          have nq5 := nq3.trans (n4.trans n5)
          have nr5 := nr3.trans (n4.trans n5)
          have HV5 := hide ((unhide HV3).new (n4.trans n5))
          clear b3 d0 d1 HV3 TT n4 n5
          by_cases hke : k < zs.length
          · obtain ⟨eb, eo, rfl, _, hec, hcell, hwf⟩ := ((unhide HE).new nq5).at hke
            have hbd := bounds_u8 hwf
            generalize zs.getD k 0 = z at hcell hbd
            clear hwf
            go_wp2_with fail
            refine (after_any _ ys _ (by have := unhide HL; omega) w5 (hG.new nr5) (unhide HV5)).mono ?_
            rintro e w6 ⟨u6, rfl, n6, hL⟩
            obtain ⟨a', c', rfl⟩ := hL.slice
            have hle : ∀ e, (afterL e ys).length = xs.length := by intro e; have := unhide HL; simpa [afterL] using this
            have hla : ∀ e, amtsL (afterL e ys) = amtsL xs := by intro e; rw [amts_after]; exact unhide HA
            rw [hle] at hL ⊢
            have HL6 := hide hL
            have HLE := hide hle
            have HLA := hide hla
            clear hL hle hla
            go_wp2
            go_roundw
            case rel => exact ⟨k + 1, a', c', _, by go_num, by omega, rfl, hide (unhide HLE _), hide (unhide HLA _), HL6, nr5.trans n6, nq5.trans n6⟩
            case measure => simp [intOf]; omega
          · go_wp2
            go_roundw
            case rel => exact ⟨k + 1, a, c, ys, by go_num, by omega, rfl, HL, HA, HV5, nr5, nq5⟩
            case measure => simp [intOf]; omega
        · go_wp2
          go_ret
          exact ⟨rfl, nr⟩

end Go.Proofs.YtbcjhpeighlncaaDoor
