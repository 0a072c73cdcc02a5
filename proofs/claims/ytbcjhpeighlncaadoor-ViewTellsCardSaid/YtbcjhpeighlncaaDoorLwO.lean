/-
  The law ViewOrder, walked.
-/
import Derived.Test.YtbcjhpeighlncaaDoorLwT
namespace Go.Proofs.YtbcjhpeighlncaaDoor
open Go.RowKit Go.Sort

attribute [local go_sem ↓ high] ld_item_fold st_item_fold
attribute [local go_sem] ld_item st_item

theorem Items.slice {w : World} {v : Value} {X : List Item} (h : Items w v X) : ∃ a c, v = .slice a X.length c := by
  rcases h with ⟨_, _, rfl, rfl⟩ | ⟨g, cap, rfl, _⟩
  · exact ⟨_, _, rfl⟩
  · exact ⟨_, _, rfl⟩
/-- Two neighbours of a sorted row. -/
theorem order_ok {M : List (Item × Nat)} (hs : Srt M) {k : Nat} {x y : Item} (hx : (its M)[k]? = some x) (hy : (its M)[k + 1]? = some y) : ¬ kl y x := by
  simp only [its, List.getElem?_map, Option.map_eq_some_iff] at hx hy
  obtain ⟨p, hp, rfl⟩ := hx
  obtain ⟨q, hq, rfl⟩ := hy
  have hq1 := (List.getElem?_eq_some_iff.1 hq).1
  have h := List.pairwise_iff_getElem.1 hs k (k + 1) (by omega) hq1 (by omega)
  have e1 : M[k]'(by omega) = p := (List.getElem?_eq_some_iff.1 hp).2
  have e2 : M[k + 1]'hq1 = q := (List.getElem?_eq_some_iff.1 hq).2
  rw [e1, e2] at h
  unfold lt' kl at h
  unfold kl
  omega
theorem kl_cases {x y : Item} (h : ¬ kl y x) : (x.offered = true → y.offered = true → ¬ y.h.id < x.h.id) ∧ (x.offered = false → y.offered = false → ¬ y.h.id < x.h.id) ∧ ¬ (x.offered = false ∧ y.offered = true) := by
  unfold kl rankI at h
  cases hx : x.offered <;> cases hy : y.offered <;> simp [hx, hy] at h ⊢ <;> omega
theorem items_snoc (ours : Bool) {xs : List Live} {k : Nat} {x : Live} (hx : xs[k]? = some x) : (itemsOf ours (xs.take (k + 1))).length = (itemsOf ours (xs.take k)).length + if hasB ours x.own x.state = true then 1 else 0 := by
  rw [List.take_add_one, hx]
  unfold itemsOf
  simp only [Option.toList_some, List.filter_append, List.map_append, List.length_append, List.filter_cons, List.filter_nil]
  split <;> simp
theorem items_le (ours : Bool) (xs : List Live) : (itemsOf ours xs).length ≤ xs.length := by
  unfold itemsOf; rw [List.length_map]
  exact List.length_filter_le _ _

set_option maxRecDepth 100000 in
set_option maxHeartbeats 1000000 in
theorem order_early (ours : Bool) (l r : Int) (va : Option Addr) (vc n : Nat) (w : World) (hS : Spans w) (h1 : 60 < n) :
    Calls Tryd.prog 4 #[.bool ours, .agg #[.int .u64 l, .int .u64 r], .slice va n vc] w (Makes (.bool true) w) := by
  have n0 : New w (w.alloc (.cells #[.int .u64 l, .int .u64 r] 24)) := (Upd.refl _ _).alloc _
  have hS0 := hS.new n0
  go_enter Tryd.func4, Tryd.ntmps4
  go_wp2_with fail
  refine (shown_any _ hS0).mono ?_
  rintro e w1 ⟨rfl, n1⟩
  go_wp2
  go_ret
  exact ⟨rfl, n0.trans n1⟩

set_option maxRecDepth 100000 in
set_option maxHeartbeats 4000000 in
theorem order_walk (ours : Bool) (l r : Int) (v : Value) (xs : List Live) (w : World) (hv : Lives w v xs) (hS : Spans w) :
    Calls Tryd.prog 4 #[.bool ours, .agg #[.int .u64 l, .int .u64 r], v] w (Makes (.bool true) w) := by
  obtain ⟨va, vc, rfl⟩ := hv.slice
  by_cases h : 60 < xs.length
  · exact order_early ours l r va vc _ w hS h
  have hlen : xs.length ≤ 60 := by omega
  have n0 : New w (w.alloc (.cells #[.int .u64 l, .int .u64 r] 24)) := (Upd.refl _ _).alloc _
  have hS0 := hS.new n0
  have b0 : (w.alloc (.cells #[.int .u64 l, .int .u64 r] 24)).heap[w.heap.size]? = some (.cells #[.int .u64 l, .int .u64 r] 24 (0, 0)) := blk_alloc _ _
  go_enter Tryd.func4, Tryd.ntmps4
  go_wp2_with fail
  generalize w.alloc (.cells #[.int .u64 l, .int .u64 r] 24) = wa at n0 hS0 b0 ⊢
  refine (shown_any _ hS0).mono ?_
  rintro e w1 ⟨rfl, n1⟩
  have b1 := n1.old b0 (fun h => h)
  have c0 := blk_cell b1 0
  have c1 := blk_cell b1 1
  simp at c0 c1
  have nw := n0.trans n1
  clear b0 n0 n1 hS0
  go_wp2_with fail
  refine (of_any ours l r _ xs (by omega) w1 (hS.new nw) (hv.new nw)).mono ?_
  rintro e w2 ⟨u, X, rfl, n2, hi, M, pM, sM, eX⟩
  have nw2 := nw.trans n2
  obtain ⟨ua, uc, rfl⟩ := hi.slice
  have hXL : X.length = (itemsOf ours xs).length := by
    have := pM.length_eq
    rw [eX]
    simp only [its, List.length_map] at *
    simpa using this
  generalize hA : (if ours = true then (sumsOf ours l r xs).fst else (sumsOf ours l r xs).snd) = A
  generalize hB : (if ours = true then (sumsOf ours l r xs).snd else (sumsOf ours l r xs).fst) = B
  clear hA hB b1 c0 c1 n2
  have HI := hide hi
  have HX := hide hXL
  have HSM := hide sM
  have HEX := hide eX
  have hXb : X.length ≤ 60 := by rw [hXL]; have := items_le ours xs; omega
  clear hi hXL sM eX pM
  go_upto_region 4 with fail
  have v3 := blk_alloc w2 (.cells #[.int .u64 A, .int .u64 B, .slice ua X.length uc] 40)
  have n3 : New w2 (w2.alloc (.cells #[.int .u64 A, .int .u64 B, .slice ua X.length uc] 40)) := (Upd.refl _ _).alloc _
  generalize w2.alloc (.cells #[.int .u64 A, .int .u64 B, .slice ua X.length uc] 40) = w3 at v3 n3 ⊢
  have nw3 := nw2.trans n3
  have HI3 := hide ((unhide HI).new n3)
  have HV3 := hide (hv.new nw3)
  clear HI hv n3
  obtain ⟨wo, rfl⟩ : ∃ wo : World, wo = w3 := ⟨_, rfl⟩
  go_wp2_with fail
  go_loopw [8, 9, 10] (fun hv iv _ wr => ∃ k : Nat, iv = .int .i64 (k : Int) ∧ k ≤ xs.length ∧ hv = .int .i64 ((itemsOf ours (xs.take k)).length : Int) ∧ New wo wr) (fun _ iv _ _ => xs.length - (intOf iv).toNat)
  case atStart => exact ⟨0, rfl, Nat.zero_le _, rfl, Upd.refl _ _⟩
  case round =>
    obtain ⟨k, rfl, hk, rfl, nr⟩ := hrel
    by_cases hlt : k < xs.length
    · obtain ⟨x, hx⟩ : ∃ x, xs[k]? = some x := ⟨_, List.getElem?_eq_getElem hlt⟩
      rcases (unhide HV3).new nr with ⟨_, _, e, e2⟩ | ⟨g, off, cap, e, hh⟩
      · rw [e2] at hlt; simp at hlt
      · cases e
        have hc35 : wr.cell? ⟨g, off + k * 38 + 35, none⟩ = some (.bool x.own) := by
          obtain ⟨C, T, fz, hb, hs, hc⟩ := hh
          rw [blk_cell hb, hc k x hx 35 (by decide), live_35]
        have hc36 : wr.cell? ⟨g, off + k * 38 + 36, none⟩ = some (.int .i64 x.state) := by
          obtain ⟨C, T, fz, hb, hs, hc⟩ := hh
          rw [blk_cell hb, hc k x hx 36 (by decide), live_36]
        have hsn := items_snoc ours hx
        have hle : (itemsOf ours (xs.take k)).length ≤ 60 := by
          have := items_le ours (xs.take k)
          rw [List.length_take] at this
          omega
        have hT := reftheirs_any x.state x.own
        have hO := refours_any x.state x.own
        have hnn : (k : Int) < (xs.length : Int) := by omega
        unfold hasB at hsn
        generalize (itemsOf ours (xs.take k)).length = m at hsn hle ⊢
        generalize oursB x.state (!x.own) = bT at hsn hT
        generalize oursB x.state x.own = bO at hsn hO
        have HSN := hide hsn
        clear hsn hx hh
        cases ours
        · cases bT <;> cases bO
          all_goals
            go_wp2_with fail
            go_quiet ((go_at_call 13; exact Calls.quiet_of (hT _)))
            go_wp2_with fail
            go_roundw
            case rel => exact ⟨k + 1, by go_num, by omega, by have := unhide HSN; simp at this; rw [this]; try go_num, nr.drewN _⟩
            case measure => simp [intOf]; omega
        · cases bT <;> cases bO
          all_goals
            go_wp2_with fail
            go_quiet ((go_at_call 13; exact Calls.quiet_of (hT _)))
            generalize hz : wr.drewN _ = wz
            have qz : Q wr wz := by rw [← hz]; exact Q.drewN _ _
            have hd35 := qz.cell hc35
            have hd36 := qz.cell hc36
            clear hz hc35 hc36
            go_wp2_with fail
            go_quiet ((go_at_call 14; exact Calls.quiet_of (hO _)))
            go_wp2_with fail
            go_roundw
            case rel => exact ⟨k + 1, by go_num, by omega, by have := unhide HSN; simp at this; rw [this]; try go_num, (nr.trans (qz.upd _)).drewN _⟩
            case measure => simp [intOf]; omega
    · obtain rfl : k = xs.length := by omega
      rw [List.take_length]
      have hXX := unhide HX
      generalize (itemsOf ours xs).length = m at hXX
      subst hXX
      have v4 := nr.old v3 (fun h => h)
      have nw4 := nw3.trans nr
      have HI4 := hide ((unhide HI3).new nr)
      clear v3 nw3 HI3 nr HX
      obtain ⟨wp, rfl⟩ : ∃ wp : World, wp = wr := ⟨_, rfl⟩
      go_wp2_with fail
      go_loopw [11, 12, 13] (fun iv _ _ wr => ∃ k : Nat, iv = .int .i64 ((k : Int) + 1) ∧ k ≤ X.length ∧ New wp wr) (fun iv _ _ _ => X.length + 1 - (intOf iv).toNat)
      case atStart => exact ⟨0, rfl, Nat.zero_le _, Upd.refl _ _⟩
      case round =>
        obtain ⟨k, rfl, hk, nr⟩ := hrel
        have v5 := nr.old v4 (fun h => h)
        have c2 := blk_cell v5 2
        simp at c2
        by_cases hlt : k + 1 < X.length
        · obtain ⟨x, hx⟩ : ∃ x, X[k]? = some x := ⟨_, List.getElem?_eq_getElem (by omega)⟩
          obtain ⟨y, hy⟩ : ∃ y, X[k + 1]? = some y := ⟨_, List.getElem?_eq_getElem (by omega)⟩
          rcases (unhide HI4).new nr with ⟨_, _, e, e2⟩ | ⟨g, cap, e, hh⟩
          · rw [e2] at hlt; simp at hlt
          · cases e
            have hr1 := hh.row (show k < X.length by omega)
            have hr2 := hh.row hlt
            rw [get!_of hx, Nat.zero_add] at hr1
            rw [get!_of hy, Nat.zero_add] at hr2
            have hkl := kl_cases (order_ok (unhide HSM) (k := k) (x := x) (y := y) (by rw [← unhide HEX]; exact hx) (by rw [← unhide HEX]; exact hy))
            have h01 : (k : Int) + 1 < (X.length : Int) := by omega
            have h02 : (0 : Int) ≤ (k : Int) + 1 := by omega
            have h03 : ((k : Int) + 1).toNat = k + 1 := by omega
            have h04 : (k : Int) < (X.length : Int) := by omega
            have x0 := item_0 x
            have x1 := item_1 x
            have y0 := item_0 y
            have y1 := item_1 y
            have hst1 : stOk (wr.alloc (.cells #[.bool false, .int .u64 0, .int .u64 0, .int .u8 0, .int .u8 0, .int .u8 0, .int .u8 0, .int .u8 0, .int .u8 0, .int .u8 0, .int .u8 0, .int .u8 0, .int .u8 0, .int .u8 0, .int .u8 0, .int .u8 0, .int .u8 0, .int .u8 0, .int .u8 0, .int .u8 0, .int .u8 0, .int .u8 0, .int .u8 0, .int .u8 0, .int .u8 0, .int .u8 0, .int .u8 0, .int .u8 0, .int .u8 0, .int .u8 0, .int .u8 0, .int .u8 0, .int .u8 0, .int .u8 0, .int .u8 0, .int .i64 0] 45)) wr.heap.size 0 36 (itemCells x).toArray = true := stOk_blk (blk_alloc _ _) (by decide) (by rw [List.size_toArray, item_len]) (by rw [List.all_toArray, List.all_eq_true]; exact item_one x)
            have hlaid1 := laid_new wr #[.bool false, .int .u64 0, .int .u64 0, .int .u8 0, .int .u8 0, .int .u8 0, .int .u8 0, .int .u8 0, .int .u8 0, .int .u8 0, .int .u8 0, .int .u8 0, .int .u8 0, .int .u8 0, .int .u8 0, .int .u8 0, .int .u8 0, .int .u8 0, .int .u8 0, .int .u8 0, .int .u8 0, .int .u8 0, .int .u8 0, .int .u8 0, .int .u8 0, .int .u8 0, .int .u8 0, .int .u8 0, .int .u8 0, .int .u8 0, .int .u8 0, .int .u8 0, .int .u8 0, .int .u8 0, .int .u8 0, .int .i64 0] 45 (itemCells x) (by rw [item_len]; rfl)
            have hst2 : ∀ w : World, stOk (w.alloc (.cells #[.bool false, .int .u64 0, .int .u64 0, .int .u8 0, .int .u8 0, .int .u8 0, .int .u8 0, .int .u8 0, .int .u8 0, .int .u8 0, .int .u8 0, .int .u8 0, .int .u8 0, .int .u8 0, .int .u8 0, .int .u8 0, .int .u8 0, .int .u8 0, .int .u8 0, .int .u8 0, .int .u8 0, .int .u8 0, .int .u8 0, .int .u8 0, .int .u8 0, .int .u8 0, .int .u8 0, .int .u8 0, .int .u8 0, .int .u8 0, .int .u8 0, .int .u8 0, .int .u8 0, .int .u8 0, .int .u8 0, .int .i64 0] 45)) w.heap.size 0 36 (itemCells y).toArray = true := fun w => stOk_blk (blk_alloc _ _) (by decide) (by rw [List.size_toArray, item_len]) (by rw [List.all_toArray, List.all_eq_true]; exact item_one y)
            have hlaid2 := fun w : World => laid_new w #[.bool false, .int .u64 0, .int .u64 0, .int .u8 0, .int .u8 0, .int .u8 0, .int .u8 0, .int .u8 0, .int .u8 0, .int .u8 0, .int .u8 0, .int .u8 0, .int .u8 0, .int .u8 0, .int .u8 0, .int .u8 0, .int .u8 0, .int .u8 0, .int .u8 0, .int .u8 0, .int .u8 0, .int .u8 0, .int .u8 0, .int .u8 0, .int .u8 0, .int .u8 0, .int .u8 0, .int .u8 0, .int .u8 0, .int .u8 0, .int .u8 0, .int .u8 0, .int .u8 0, .int .u8 0, .int .u8 0, .int .i64 0] 45 (itemCells y) (by rw [item_len]; rfl)
            clear hx hy hh
            generalize itemCells x = C at hr1 hst1 hlaid1 x0 x1
            generalize itemCells y = D at hr2 hst2 hlaid2 y0 y1
            have H2 := hide hst2
            have HD := hide hlaid2
            have HR2 := hide hr2
            clear hst2 hlaid2 hr2
            go_upto_region 17 with fail
            obtain ⟨hb1, nC⟩ := hlaid1
            generalize (wr.alloc (.cells #[.bool false, .int .u64 0, .int .u64 0, .int .u8 0, .int .u8 0, .int .u8 0, .int .u8 0, .int .u8 0, .int .u8 0, .int .u8 0, .int .u8 0, .int .u8 0, .int .u8 0, .int .u8 0, .int .u8 0, .int .u8 0, .int .u8 0, .int .u8 0, .int .u8 0, .int .u8 0, .int .u8 0, .int .u8 0, .int .u8 0, .int .u8 0, .int .u8 0, .int .u8 0, .int .u8 0, .int .u8 0, .int .u8 0, .int .u8 0, .int .u8 0, .int .u8 0, .int .u8 0, .int .u8 0, .int .u8 0, .int .i64 0] 45)).setCells wr.heap.size 0 C = wC at hb1 nC ⊢
            have hr2 := rowN_upd (unhide HR2) nC (fun h => h)
            have hst2 := unhide H2 wC
            have hlaid2 := unhide HD wC
            have v6 := nC.old v5 (fun h => h)
            have d2 := blk_cell v6 2
            simp at d2
            clear hst1 hr1 c2 v5 H2 HD HR2
            go_upto_region 18 with fail
            obtain ⟨hb2, nD⟩ := hlaid2
            generalize (wC.alloc (.cells #[.bool false, .int .u64 0, .int .u64 0, .int .u8 0, .int .u8 0, .int .u8 0, .int .u8 0, .int .u8 0, .int .u8 0, .int .u8 0, .int .u8 0, .int .u8 0, .int .u8 0, .int .u8 0, .int .u8 0, .int .u8 0, .int .u8 0, .int .u8 0, .int .u8 0, .int .u8 0, .int .u8 0, .int .u8 0, .int .u8 0, .int .u8 0, .int .u8 0, .int .u8 0, .int .u8 0, .int .u8 0, .int .u8 0, .int .u8 0, .int .u8 0, .int .u8 0, .int .u8 0, .int .u8 0, .int .u8 0, .int .i64 0] 45)).setCells wC.heap.size 0 D = wD at hb2 nD ⊢
            have hb3 := nD.old hb1 (fun h => h)
            have sx0 : wD.cell? ⟨wr.heap.size, 0, none⟩ = some (.bool x.offered) := by rw [blk_cell hb3, List.getElem?_toArray]; exact x0
            have sx1 : wD.cell? ⟨wr.heap.size, 1, none⟩ = some (.int .u64 x.h.id) := by rw [blk_cell hb3, List.getElem?_toArray]; exact x1
            have sy0 : wD.cell? ⟨wC.heap.size, 0, none⟩ = some (.bool y.offered) := by rw [blk_cell hb2, List.getElem?_toArray]; exact y0
            have sy1 : wD.cell? ⟨wC.heap.size, 1, none⟩ = some (.int .u64 y.h.id) := by rw [blk_cell hb2, List.getElem?_toArray]; exact y1
            have nn := nr.trans (nC.trans nD)
            obtain ⟨k1, k2, k3⟩ := hkl
            clear hst2 hr2 hb1 hb2 hb3 d2 v6 nC nD x0 x1 y0 y1
            cases hox : x.offered <;> cases hoy : y.offered
            · rw [hox] at sx0; rw [hoy] at sy0
              have h05 := k2 hox hoy
              clear k1 k2 k3 hox hoy
              go_wp2
              go_roundw
              case rel => exact ⟨k + 1, by go_num, by omega, nn⟩
              case measure => simp [intOf]; omega
            · exact absurd ⟨hox, hoy⟩ k3
            · rw [hox] at sx0; rw [hoy] at sy0
              clear k1 k2 k3 hox hoy
              go_wp2
              go_roundw
              case rel => exact ⟨k + 1, by go_num, by omega, nn⟩
              case measure => simp [intOf]; omega
            · rw [hox] at sx0; rw [hoy] at sy0
              have h05 := k1 hox hoy
              clear k1 k2 k3 hox hoy
              go_wp2
              go_roundw
              case rel => exact ⟨k + 1, by go_num, by omega, nn⟩
              case measure => simp [intOf]; omega
        · have h01 : ¬ (k : Int) + 1 < (X.length : Int) := by omega
          go_wp2
          go_ret
          exact ⟨rfl, nw4.trans nr⟩

end Go.Proofs.YtbcjhpeighlncaaDoor
