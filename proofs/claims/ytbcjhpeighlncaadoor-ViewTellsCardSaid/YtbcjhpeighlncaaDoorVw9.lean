/-
  view.Total.
-/
import Derived.Test.YtbcjhpeighlncaaDoorVw8
namespace Go.Proofs.YtbcjhpeighlncaaDoor
open Go.RowKit Go.Sort

attribute [local go_sem ↓ high] ld_item_fold st_item_fold
attribute [local go_sem] ld_item st_item

def totalI (o t : Int) (X : List Item) : Int := X.foldl (fun s x => IntKind.u64.wrap (s + x.h.amount)) (IntKind.u64.wrap (o + t))
theorem item_2 (x : Item) : (itemCells x)[2]? = some (.int .u64 x.h.amount) := rfl
theorem get!_of {X : List Item} {n : Nat} {x : Item} (h : X[n]? = some x) : X[n]! = x := by rw [List.getElem!_eq_getElem?_getD, h]; rfl

set_option maxRecDepth 100000 in
set_option maxHeartbeats 4000000 in
theorem total_any (o t : Int) (u : Value) (X : List Item) (hl : X.length ≤ 1048576) (w : World) (hu : Items w u X) :
    Calls Tryd.prog 16 #[.agg #[.int .u64 o, .int .u64 t, u]] w (Makes (.int .u64 (totalI o t X)) w) := by
  have hvs : ∃ a c, u = .slice a X.length c := by
    rcases hu with ⟨_, _, rfl, rfl⟩ | ⟨g, cap, rfl, _⟩
    · exact ⟨_, _, rfl⟩
    · exact ⟨_, _, rfl⟩
  obtain ⟨ua, uc, rfl⟩ := hvs
  go_enter Tryd.func16, Tryd.ntmps16
  go_wp2_with fail
  go_loopw [3, 14] (fun sv iv wr => ∃ n : Nat, iv = .int .i64 (n : Int) ∧ n ≤ X.length ∧ sv = .int .u64 (totalI o t (X.take n)) ∧ New w wr) (fun _ iv _ => X.length - (intOf iv).toNat)
  case atStart => exact ⟨0, rfl, Nat.zero_le _, by simp [totalI], (Upd.refl _ _).alloc _⟩
  case round =>
    obtain ⟨n, rfl, hn, rfl, nr⟩ := hrel
    by_cases hlt : n < X.length
    · obtain ⟨x, hx⟩ : ∃ x, X[n]? = some x := ⟨_, List.getElem?_eq_getElem hlt⟩
      rcases hu.new nr with ⟨_, _, e, e2⟩ | ⟨g, cap, e, hh⟩
      · rw [e2] at hlt; simp at hlt
      · cases e
        have hrow := hh.row hlt
        rw [get!_of hx, Nat.zero_add] at hrow
        have hnn : (n : Int) < (X.length : Int) := by omega
        have hst : stOk (wr.alloc (.cells #[.bool false, .int .u64 0, .int .u64 0, .int .u8 0, .int .u8 0, .int .u8 0, .int .u8 0, .int .u8 0, .int .u8 0, .int .u8 0, .int .u8 0, .int .u8 0, .int .u8 0, .int .u8 0, .int .u8 0, .int .u8 0, .int .u8 0, .int .u8 0, .int .u8 0, .int .u8 0, .int .u8 0, .int .u8 0, .int .u8 0, .int .u8 0, .int .u8 0, .int .u8 0, .int .u8 0, .int .u8 0, .int .u8 0, .int .u8 0, .int .u8 0, .int .u8 0, .int .u8 0, .int .u8 0, .int .u8 0, .int .i64 0] 45)) wr.heap.size 0 36 (itemCells x).toArray = true := stOk_blk (blk_alloc _ _) (by decide) (by rw [List.size_toArray, item_len]) (by rw [List.all_toArray, List.all_eq_true]; exact item_one x)
        have hlaid := laid_new wr #[.bool false, .int .u64 0, .int .u64 0, .int .u8 0, .int .u8 0, .int .u8 0, .int .u8 0, .int .u8 0, .int .u8 0, .int .u8 0, .int .u8 0, .int .u8 0, .int .u8 0, .int .u8 0, .int .u8 0, .int .u8 0, .int .u8 0, .int .u8 0, .int .u8 0, .int .u8 0, .int .u8 0, .int .u8 0, .int .u8 0, .int .u8 0, .int .u8 0, .int .u8 0, .int .u8 0, .int .u8 0, .int .u8 0, .int .u8 0, .int .u8 0, .int .u8 0, .int .u8 0, .int .u8 0, .int .u8 0, .int .i64 0] 45 (itemCells x) (by rw [item_len]; rfl)
        have v2 := item_2 x
        have hs : totalI o t (X.take (n + 1)) = IntKind.u64.wrap (totalI o t (X.take n) + x.h.amount) := by
          rw [List.take_add_one, hx]; simp [totalI]
        have HS := hide hs
        clear hs hh
        generalize itemCells x = C at hrow hst hlaid v2
        go_upto_region 5 with fail
        obtain ⟨hbx, nC⟩ := hlaid
        generalize (wr.alloc (.cells #[.bool false, .int .u64 0, .int .u64 0, .int .u8 0, .int .u8 0, .int .u8 0, .int .u8 0, .int .u8 0, .int .u8 0, .int .u8 0, .int .u8 0, .int .u8 0, .int .u8 0, .int .u8 0, .int .u8 0, .int .u8 0, .int .u8 0, .int .u8 0, .int .u8 0, .int .u8 0, .int .u8 0, .int .u8 0, .int .u8 0, .int .u8 0, .int .u8 0, .int .u8 0, .int .u8 0, .int .u8 0, .int .u8 0, .int .u8 0, .int .u8 0, .int .u8 0, .int .u8 0, .int .u8 0, .int .u8 0, .int .i64 0] 45)).setCells wr.heap.size 0 C = wC at hbx nC ⊢
        have s2 : wC.cell? ⟨wr.heap.size, 2, none⟩ = some (.int .u64 x.h.amount) := by rw [blk_cell hbx, List.getElem?_toArray]; exact v2
        clear hst hrow
        go_wp2
        go_roundw
        case rel => exact ⟨n + 1, by go_num, by omega, by rw [unhide HS], nr.trans nC⟩
        case measure => simp [intOf]; omega
    · obtain rfl : n = X.length := by omega
      go_wp2
      first | go_ret2 | go_ret
      exact ⟨by simp, nr⟩

end Go.Proofs.YtbcjhpeighlncaaDoor
