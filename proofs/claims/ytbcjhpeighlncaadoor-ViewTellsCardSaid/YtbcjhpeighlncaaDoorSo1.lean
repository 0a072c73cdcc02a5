/-
  A row of items in a block; two of them change places.
-/
import Derived.Test.YtbcjhpeighlncaaDoorVw3
import Derived.BigRegion
namespace Go.Proofs.YtbcjhpeighlncaaDoor
open Go.RowKit Go.Sort

instance : Inhabited Htlc := ⟨⟨0, 0, Vector.replicate 32 0, 0⟩⟩
instance : Inhabited Item := ⟨⟨false, default⟩⟩
/-- From off on, block g holds the items xs, and may be written. -/
def Held (w : World) (g off : Nat) (xs : List Item) : Prop :=
  ∃ C T, w.heap[g]? = some (.cells C T (0, 0)) ∧ off + xs.length * 36 ≤ C.size ∧ ∀ i, i < xs.length → ∀ j, j < 36 → C[off + i * 36 + j]? = (itemCells xs[i]!)[j]?
theorem Held.row {w : World} {g off : Nat} {xs : List Item} (h : Held w g off xs) {i : Nat} (hi : i < xs.length) : rowN w g (off + i * 36) 36 = some (itemCells xs[i]!).toArray := by
  obtain ⟨C, T, hb, hs, hc⟩ := h
  have hle : off + i * 36 + 36 ≤ C.size := by have := Nat.mul_le_mul_right 36 (show i + 1 ≤ xs.length from hi); omega
  rw [rowN_blk hb _ _ hle]
  congr 1
  apply Array.ext'
  apply List.ext_getElem?
  intro j
  rw [Array.getElem?_toList, Array.getElem?_extract]
  by_cases hj : j < 36
  · rw [if_pos (by omega), hc i hi j hj]
  · rw [if_neg (by omega), List.getElem?_eq_none (by rw [item_len]; omega)]
theorem Held.ok {w : World} {g off : Nat} {xs : List Item} (h : Held w g off xs) {i : Nat} (hi : i < xs.length) (y : Item) : stOk w g (off + i * 36) 36 (itemCells y).toArray = true := by
  obtain ⟨C, T, hb, hs, hc⟩ := h
  have hle : off + i * 36 + 36 ≤ C.size := by have := Nat.mul_le_mul_right 36 (show i + 1 ≤ xs.length from hi); omega
  exact stOk_blk hb hle (by rw [List.size_toArray, item_len]) (by rw [List.all_toArray, List.all_eq_true]; exact item_one y)
theorem Held.set {w : World} {g off : Nat} {xs : List Item} (h : Held w g off xs) {i : Nat} (hi : i < xs.length) (y : Item) : Held (w.setCells g (off + i * 36) (itemCells y)) g off (xs.set i y) := by
  obtain ⟨C, T, hb, hs, hc⟩ := h
  have hle : off + i * 36 + 36 ≤ C.size := by have := Nat.mul_le_mul_right 36 (show i + 1 ≤ xs.length from hi); omega
  refine ⟨_, T, blk_setCells hb _ _, by rw [layIn_size, List.length_set]; exact hs, fun k hk j hj => ?_⟩
  rw [List.length_set] at hk
  rw [layIn_get _ _ _ _ (by rw [item_len]; exact hle), item_len]
  by_cases e : i = k
  · subst e
    rw [if_pos (by omega), show off + i * 36 + j - (off + i * 36) = j by omega]
    simp [hk]
  · rw [if_neg ?_, hc k hk j hj]
    · rw [List.getElem!_eq_getElem?_getD, List.getElem!_eq_getElem?_getD, List.getElem?_set_ne e]
    · rcases Nat.lt_or_gt_of_ne e with h | h
      · have := Nat.mul_le_mul_right 36 (show i + 1 ≤ k from h); omega
      · have := Nat.mul_le_mul_right 36 (show k + 1 ≤ i from h); omega
theorem Held.upd {S : Nat → Prop} {w w' : World} {g off : Nat} {xs : List Item} (h : Held w g off xs) (u : Upd S w w') (hn : ¬ S g) : Held w' g off xs := by
  obtain ⟨C, T, hb, r⟩ := h
  exact ⟨C, T, u.old hb hn, r⟩
theorem Held.drewN {w : World} {g off : Nat} {xs : List Item} (h : Held w g off xs) (n : Nat) : Held (w.drewN n) g off xs := h
theorem Held.drew {w : World} {g off : Nat} {xs : List Item} (h : Held w g off xs) : Held w.drew g off xs := h
theorem Held.lt {w : World} {g off : Nat} {xs : List Item} (h : Held w g off xs) : g < w.heap.size := by
  obtain ⟨C, T, hb, r⟩ := h
  exact blk_lt hb
/-- Two of them change places. -/
def swapL (xs : List Item) (i j : Nat) : List Item := (xs.set i xs[j]!).set j xs[i]!
theorem swapL_len (xs : List Item) (i j : Nat) : (swapL xs i j).length = xs.length := by simp [swapL]
theorem Held.swap {w : World} {g off : Nat} {xs : List Item} (h : Held w g off xs) {i j : Nat} (hi : i < xs.length) (hj : j < xs.length) :
    Held ((w.setCells g (off + i * 36) (itemCells xs[j]!)).setCells g (off + j * 36) (itemCells xs[i]!)) g off (swapL xs i j) :=
  (h.set hi _).set (by rw [List.length_set]; exact hj) _

/-- The store of an item, kept whole. -/
def stItem (x v : Value) : Sem Unit := Instr.storeAt 45 x v
theorem st_item_fold (x v : Value) : Instr.storeAt 45 x v = stItem x v := rfl
theorem st_item (b o : Nat) (A : Array Value) (w : World) : (stItem (.pointer (some ⟨b, o, none⟩)) (.agg A)).run Tryd.prog w = if stOk w b o 36 A = true then .ok () (w.setCells b o A.toList) else slowSt Tryd.prog 45 w b o A :=
  run_storeAt_row 45 36 Tryd.infoItem b o A w
attribute [local go_sem ↓ high] ld_item_fold st_item_fold
attribute [local go_sem] ld_item st_item

/-- n times, from a and from b on. -/
def swapN (xs : List Item) (a b : Nat) : Nat → List Item
  | 0 => xs
  | n + 1 => swapL (swapN xs a b n) (a + n) (b + n)
theorem swapN_len (xs : List Item) (a b n : Nat) : (swapN xs a b n).length = xs.length := by
  induction n with
  | zero => rfl
  | succ n ih => rw [swapN, swapL_len, ih]

set_option maxHeartbeats 1000000 in
theorem swaprange_any (g off cap a b n : Nat) (xs : List Item) (fv : Value) (w : World) (h : Held w g off xs) (ha : a + n ≤ xs.length) (hb : b + n ≤ xs.length) (hm : xs.length ≤ 4611686018427387904) :
    Calls Tryd.prog 73 #[.slice (some ⟨g, off, none⟩) xs.length cap, .int .i64 a, .int .i64 b, .int .i64 n, fv] w fun e w' => e = .returned (.tuple #[]) ∧ Upd (· = g) w w' ∧ Held w' g off (swapN xs a b n) := by
  go_enter Tryd.func73, Tryd.ntmps73
  go_wp2_with fail
  go_loopw [10] (fun iv wr => ∃ i : Nat, iv = .int .i64 i ∧ i ≤ n ∧ Upd (· = g) w wr ∧ Held wr g off (swapN xs a b i)) (fun iv _ => n - (intOf iv).toNat)
  case atStart => exact ⟨0, rfl, Nat.zero_le _, Upd.refl _ _, h⟩
  case round =>
    obtain ⟨i, rfl, hi, hu, hh⟩ := hrel
    by_cases hlt : i < n
    · have hl := swapN_len xs a b i
      have hia : a + i < (swapN xs a b i).length := by omega
      have hib : b + i < (swapN xs a b i).length := by omega
      have hd := hh.drew
      have l1 := hd.row hia
      have l2 := hd.row hib
      have s1 := hd.ok hia (swapN xs a b i)[b + i]!
      have s2 := (hd.set hia (swapN xs a b i)[b + i]!).ok (by rw [List.length_set]; exact hib) (swapN xs a b i)[a + i]!
      have hsw := hide (show Held _ g off (swapN xs a b (i + 1)) from hd.swap hia hib)
      generalize swapN xs a b i = ys at *
      generalize ys[a + i]! = x at *
      generalize ys[b + i]! = y at *
      generalize itemCells x = cx at *
      generalize itemCells y = cy at *
      have Hl := hide hl
      clear hl hh hd
      go_wp2_with fail
      go_region
      go_wp2
      go_roundw
      case rel => exact ⟨i + 1, by go_num, by omega, (hu.drew.setCells _ _).setCells _ _, unhide hsw⟩
      case measure => simp [intOf]; omega
    · obtain rfl : i = n := by omega
      go_wp2
      go_end0
      exact ⟨rfl, hu, hh⟩

end Go.Proofs.YtbcjhpeighlncaaDoor
