/-
  view.Total.
-/
import Derived.Test.YtbcjhpeighlncaaDoorMbe
namespace Go.Proofs.YtbcjhpeighlncaaDoor
set_option linter.unusedVariables false
set_option linter.unusedSimpArgs false
open Go.RowKit Go.Sort

attribute [local go_sem ↓ high] ld_item_fold st_item_fold
attribute [local go_sem] ld_item st_item

def totalI (o t : Int) (X : List Item) : Int := X.foldl (fun s x => IntKind.u64.wrap (s + x.h.amount)) (IntKind.u64.wrap (o + t))
theorem item_2 (x : Item) : (itemCells x)[2]? = some (.int .u64 x.h.amount) := rfl
theorem get!_of {X : List Item} {n : Nat} {x : Item} (h : X[n]? = some x) : X[n]! = x := by rw [List.getElem!_eq_getElem?_getD, h]; rfl

set_option maxRecDepth 100000 in
set_option maxHeartbeats 4000000 in
theorem total_any (o t : Int) (u : Value) (X : List Item) (hl : X.length ≤ 1048576) (w : World) (hu : Items w u X) :
    Calls Tryd.prog 16 #[.agg #[.int .u64 o, .int .u64 t, u]] w (Makes (.int .u64 (totalI o t X)) w) := by
  have hvs : ∃ a c, u = .slice a X.length c := by
    rcases hu with ⟨_, _, rfl, rfl⟩ | ⟨g, cap, rfl, _⟩
    · exact ⟨_, _, rfl⟩
    · exact ⟨_, _, rfl⟩
  obtain ⟨ua, uc, rfl⟩ := hvs
  go_enter Tryd.func16, Tryd.ntmps16
  go_wp2_with fail
  go_loopw [3, 14] (fun sv iv wr => ∃ n : Nat, iv = .int .i64 (n : Int) ∧ n ≤ X.length ∧ sv = .int .u64 (totalI o t (X.take n)) ∧ New w wr) (fun _ iv _ => X.length - (intOf iv).toNat)
  case atStart => exact ⟨0, rfl, Nat.zero_le _, by simp [totalI], (Upd.refl _ _).alloc _⟩
  case round =>
    obtain ⟨n, rfl, hn, rfl, nr⟩ := hrel
    by_cases hlt : n < X.length
    · obtain ⟨x, hx⟩ : ∃ x, X[n]? = some x := ⟨_, List.getElem?_eq_getElem hlt⟩
      rcases hu.new nr with ⟨_, _, e, e2⟩ | ⟨g, cap, e, hh⟩
      · rw [e2] at hlt; simp at hlt
      · cases e
        have hrow := hh.row hlt
        rw [get!_of hx, Nat.zero_add] at hrow
        have hnn : (n : Int) < (X.length : Int) := by omega
        have hst : stOk (wr.alloc (.cells #[.bool false, .int .u64 0, .int .u64 0, .int .u8 0, .int .u8 0, .int .u8 0, .int .u8 0, .int .u8 0, .int .u8 0, .int .u8 0, .int .u8 0, .int .u8 0, .int .u8 0, .int .u8 0, .int .u8 0, .int .u8 0, .int .u8 0, .int .u8 0, .int .u8 0, .int .u8 0, .int .u8 0, .int .u8 0, .int .u8 0, .int .u8 0, .int .u8 0, .int .u8 0, .int .u8 0, .int .u8 0, .int .u8 0, .int .u8 0, .int .u8 0, .int .u8 0, .int .u8 0, .int .u8 0, .int .u8 0, .int .i64 0] 45)) wr.heap.size 0 36 (itemCells x).toArray = true := stOk_blk (blk_alloc _ _) (by decide) (by rw [List.size_toArray, item_len]) (by rw [List.all_toArray, List.all_eq_true]; exact item_one x)
        have hlaid := laid_new wr #[.bool false, .int .u64 0, .int .u64 0, .int .u8 0, .int .u8 0, .int .u8 0, .int .u8 0, .int .u8 0, .int .u8 0, .int .u8 0, .int .u8 0, .int .u8 0, .int .u8 0, .int .u8 0, .int .u8 0, .int .u8 0, .int .u8 0, .int .u8 0, .int .u8 0, .int .u8 0, .int .u8 0, .int .u8 0, .int .u8 0, .int .u8 0, .int .u8 0, .int .u8 0, .int .u8 0, .int .u8 0, .int .u8 0, .int .u8 0, .int .u8 0, .int .u8 0, .int .u8 0, .int .u8 0, .int .u8 0, .int .i64 0] 45 (itemCells x) (by rw [item_len]; rfl)
        have v2 := item_2 x
        have hs : totalI o t (X.take (n + 1)) = IntKind.u64.wrap (totalI o t (X.take n) + x.h.amount) := by
          rw [List.take_add_one, hx]; simp [totalI]
        have HS := hide hs
        clear hs hh
        generalize itemCells x = C at hrow hst hlaid v2
        go_upto_region 5 with fail
        obtain ⟨hbx, nC⟩ := hlaid
        generalize (wr.alloc (.cells #[.bool false, .int .u64 0, .int .u64 0, .int .u8 0, .int .u8 0, .int .u8 0, .int .u8 0, .int .u8 0, .int .u8 0, .int .u8 0, .int .u8 0, .int .u8 0, .int .u8 0, .int .u8 0, .int .u8 0, .int .u8 0, .int .u8 0, .int .u8 0, .int .u8 0, .int .u8 0, .int .u8 0, .int .u8 0, .int .u8 0, .int .u8 0, .int .u8 0, .int .u8 0, .int .u8 0, .int .u8 0, .int .u8 0, .int .u8 0, .int .u8 0, .int .u8 0, .int .u8 0, .int .u8 0, .int .u8 0, .int .i64 0] 45)).setCells wr.heap.size 0 C = wC at hbx nC ⊢
        have s2 : wC.cell? ⟨wr.heap.size, 2, none⟩ = some (.int .u64 x.h.amount) := by rw [blk_cell hbx, List.getElem?_toArray]; exact v2
        clear hst hrow
        go_wp2
        go_roundw
        case rel => exact ⟨n + 1, by go_num, by omega, by rw [unhide HS], nr.trans nC⟩
        case measure => simp [intOf]; omega
    · obtain rfl : n = X.length := by omega
      go_wp2
      first | go_ret2 | go_ret
      exact ⟨by simp, nr⟩

end Go.Proofs.YtbcjhpeighlncaaDoor

/-
  view.Changes.
-/
namespace Go.Proofs.YtbcjhpeighlncaaDoor
set_option linter.unusedVariables false
set_option linter.unusedSimpArgs false
open Go.RowKit Go.Sort

attribute [local go_sem ↓ high] ld_live_fold st_live_fold
attribute [local go_sem] ld_live st_live

def chg (ev : Int) (x : Live) : Bool := nextSt x.state x.own ev != x.state
def changesB (ev : Int) (xs : List Live) : Bool := xs.any (chg ev)

set_option maxRecDepth 100000 in
set_option maxHeartbeats 4000000 in
theorem changes_any (v : Value) (xs : List Live) (ev : Int) (hl : xs.length ≤ 1048576) (w : World) (hG : Glob w) (hv : Lives w v xs) :
    Calls Tryd.prog 22 #[v, .int .i64 ev] w (Makes (.bool (changesB ev xs)) w) := by
  have hvs : ∃ a c, v = .slice a xs.length c := by
    rcases hv with ⟨_, _, rfl, rfl⟩ | ⟨g, off, cap, rfl, _⟩
    · exact ⟨_, _, rfl⟩
    · exact ⟨_, _, rfl⟩
  obtain ⟨va, vc, rfl⟩ := hvs
  go_enter Tryd.func22, Tryd.ntmps22
  go_wp2_with fail
  go_loopw [9] (fun iv wr => ∃ n : Nat, iv = .int .i64 (n : Int) ∧ n ≤ xs.length ∧ Hid (changesB ev (xs.take n) = false) ∧ New w wr) (fun iv _ => xs.length - (intOf iv).toNat)
  case atStart => exact ⟨0, rfl, Nat.zero_le _, hide rfl, Upd.refl _ _⟩
  case round =>
    obtain ⟨n, rfl, hn, HC, nr⟩ := hrel
    by_cases hlt : n < xs.length
    · obtain ⟨x, hx⟩ : ∃ x, xs[n]? = some x := ⟨_, List.getElem?_eq_getElem hlt⟩
      rcases hv.new nr with ⟨_, _, e, e2⟩ | ⟨g, off, cap, e, hh⟩
      · rw [e2] at hlt; simp at hlt
      · cases e
        have hrow := hh.row hx
        have hnn : (n : Int) < (xs.length : Int) := by omega
        have hst : stOk (wr.alloc (.cells #[.int .u64 0, .int .u64 0, .int .u8 0, .int .u8 0, .int .u8 0, .int .u8 0, .int .u8 0, .int .u8 0, .int .u8 0, .int .u8 0, .int .u8 0, .int .u8 0, .int .u8 0, .int .u8 0, .int .u8 0, .int .u8 0, .int .u8 0, .int .u8 0, .int .u8 0, .int .u8 0, .int .u8 0, .int .u8 0, .int .u8 0, .int .u8 0, .int .u8 0, .int .u8 0, .int .u8 0, .int .u8 0, .int .u8 0, .int .u8 0, .int .u8 0, .int .u8 0, .int .u8 0, .int .u8 0, .int .i64 0, .bool false, .int .i64 0, .bool false] 32)) wr.heap.size 0 38 (liveCells x).toArray = true := stOk_blk (blk_alloc _ _) (by decide) (by rw [List.size_toArray, live_len]) (by rw [List.all_toArray, List.all_eq_true]; exact live_one x)
        have hlaid := laid_new wr #[.int .u64 0, .int .u64 0, .int .u8 0, .int .u8 0, .int .u8 0, .int .u8 0, .int .u8 0, .int .u8 0, .int .u8 0, .int .u8 0, .int .u8 0, .int .u8 0, .int .u8 0, .int .u8 0, .int .u8 0, .int .u8 0, .int .u8 0, .int .u8 0, .int .u8 0, .int .u8 0, .int .u8 0, .int .u8 0, .int .u8 0, .int .u8 0, .int .u8 0, .int .u8 0, .int .u8 0, .int .u8 0, .int .u8 0, .int .u8 0, .int .u8 0, .int .u8 0, .int .u8 0, .int .u8 0, .int .i64 0, .bool false, .int .i64 0, .bool false] 32 (liveCells x) (by rw [live_len]; rfl)
        have v35 := live_35 x
        have v36 := live_36 x
        have hs : changesB ev (xs.take (n + 1)) = chg ev x := by
          have := unhide HC
          unfold changesB at this ⊢
          rw [List.take_add_one, hx, List.any_append, this]; simp
        have HS := hide hs
        have HX := hide hx
        clear hs hh hx
        generalize liveCells x = C at hrow hst hlaid v35 v36
        go_upto_region 4 with fail
        obtain ⟨hbx, nC⟩ := hlaid
        generalize (wr.alloc (.cells #[.int .u64 0, .int .u64 0, .int .u8 0, .int .u8 0, .int .u8 0, .int .u8 0, .int .u8 0, .int .u8 0, .int .u8 0, .int .u8 0, .int .u8 0, .int .u8 0, .int .u8 0, .int .u8 0, .int .u8 0, .int .u8 0, .int .u8 0, .int .u8 0, .int .u8 0, .int .u8 0, .int .u8 0, .int .u8 0, .int .u8 0, .int .u8 0, .int .u8 0, .int .u8 0, .int .u8 0, .int .u8 0, .int .u8 0, .int .u8 0, .int .u8 0, .int .u8 0, .int .u8 0, .int .u8 0, .int .i64 0, .bool false, .int .i64 0, .bool false] 32)).setCells wr.heap.size 0 C = wC at hbx nC ⊢
        have s35 : wC.cell? ⟨wr.heap.size, 35, none⟩ = some (.bool x.own) := by rw [blk_cell hbx, List.getElem?_toArray]; exact v35
        have s36 : wC.cell? ⟨wr.heap.size, 36, none⟩ = some (.int .i64 x.state) := by rw [blk_cell hbx, List.getElem?_toArray]; exact v36
        have hGC : Glob wC := hG.new (nr.trans nC)
        clear hst hrow
        have hne : ∀ W, Glob W → Calls Tryd.prog 34 #[.int .i64 x.state, .bool x.own, .int .i64 ev] W (Reads (.int .i64 (nextSt x.state x.own ev)) W) := fun W h => next_any x.state ev x.own W h
        cases hc : chg ev x with
        | true =>
          have hd : (nextSt x.state x.own ev != x.state) = true := hc
          have hf : changesB ev xs = true := by
            have h1 : changesB ev (xs.take (n + 1)) = true := by rw [unhide HS, hc]
            unfold changesB at h1 ⊢
            rw [List.any_eq_true] at h1 ⊢
            obtain ⟨y, hy, hy2⟩ := h1
            exact ⟨y, List.mem_of_mem_take hy, hy2⟩
          generalize nextSt x.state x.own ev = y at hne hd
          go_quiet ((go_at_call 34; first | exact Calls.quiet_of (hne _ hGC) | exact Calls.quiet_of (hne _ (hGC.new ((Upd.refl _ _).drewN _)))))
          go_wp2
          first | go_ret2 | go_ret
          exact ⟨by rw [hf]; rfl, by first | exact nr.trans nC | exact (nr.trans nC).drewN _⟩
        | false =>
          have hd : (nextSt x.state x.own ev != x.state) = false := hc
          have hf : changesB ev (xs.take (n + 1)) = false := by rw [unhide HS, hc]
          have HF := hide hf
          clear hf
          generalize nextSt x.state x.own ev = y at hne hd
          go_quiet ((go_at_call 34; first | exact Calls.quiet_of (hne _ hGC) | exact Calls.quiet_of (hne _ (hGC.new ((Upd.refl _ _).drewN _)))))
          go_wp2
          go_roundw
          case rel => exact ⟨n + 1, by go_num, by omega, HF, by first | exact nr.trans nC | exact (nr.trans nC).drewN _⟩
          case measure => simp [intOf]; omega
    · obtain rfl : n = xs.length := by omega
      have hf : changesB ev xs = false := by have := unhide HC; rwa [List.take_length] at this
      go_wp2
      first | go_ret2 | go_ret
      exact ⟨by rw [hf]; rfl, nr⟩

end Go.Proofs.YtbcjhpeighlncaaDoor
