/-
  Package octet: the writer; the reference's numbers.
-/
import Derived.Test.YtainkaojnhfldaaGreatDoorMaf
import Derived.Test.YtainkaojnhfldaaGreatDoorDagP
import Derived.Laws.BitsAllLaws
import Derived.Laws.Bits64
import Derived.IntWalk
import Derived.Outline
import Derived.Deep.CutRange
import Derived.BigRegion
import Derived.Deep.RegionLaw
set_option linter.unusedVariables false
set_option linter.unusedSimpArgs false
namespace Go.Proofs.YtainkaojnhfldaaGreatDoor
open Go.RowKit

/-- The bytes of a number, the highest one first. -/
def numI (n : Nat) (width : Nat) : List Int := (List.range width).map fun k => (n : Int) / 2 ^ (8 * (width - 1 - k)) % 256
theorem numI_len (n width : Nat) : (numI n width).length = width := by simp [numI]
def numS (n width : Nat) : ByteArray := strOfNums (numI n width)
theorem numS_size (n width : Nat) : (numS n width).size = width := by unfold numS; rw [strOfNums_size, numI_len]
/-- A writer, that holds s. -/
def Wr (w : World) (g : Nat) (s : ByteArray) : Prop := w.heap[g]? = some (.cells #[.string s] 144 (0, 0))
theorem Wr.new {w w' : World} {g : Nat} {s : ByteArray} (h : Wr w g s) (n : New w w') : Wr w' g s := n.old h (fun h => h)
theorem Wr.lt {w : World} {g : Nat} {s : ByteArray} (h : Wr w g s) : g < w.heap.size := blk_lt h

/-- Block b holds just these bytes. -/
def Ints8 (w : World) (b : Nat) (ws : List Int) : Prop := ∃ T, w.heap[b]? = some (.cells (ws.map (Value.int .u8)).toArray T (0, 0))
def pref (n width m : Nat) : List Int := (List.range m).map fun k => (n : Int) / 2 ^ (8 * (width - 1 - k)) % 256
set_option maxRecDepth 100000 in
set_option maxHeartbeats 1000000 in
theorem number_any (g n width : Nat) (s : ByteArray) (w : World) (hg : Wr w g s) (hw1 : 1 ≤ width) (hw8 : width ≤ 8) (hn : n < 2 ^ (8 * width)) (hs : s.size ≤ 1073741824) :
    Calls Tryz.prog 67 #[.pointer (some ⟨g, 0, none⟩), .int .u64 n, .int .i64 width] w fun e w' => e = .returned (.int .i64 0) ∧ Upd (fun k => k = g) w w' ∧ Wr w' g (s ++ numS n width) := by
  have hn64 : n < 18446744073709551616 := Nat.lt_of_lt_of_le hn (by
    have : (2 : Nat) ^ (8 * width) ≤ 2 ^ 64 := Nat.pow_le_pow_right (by decide) (by omega)
    exact this)
  have hsh : (n : Int) / 2 ^ (8 * width) = 0 := by
    refine Int.ediv_eq_zero_of_lt (by omega) ?_
    exact_mod_cast hn
  have hw1' : (1 : Int) ≤ width := by omega
  have hw8' : (width : Int) ≤ 8 := by omega
  have hwt : (8 * (width : Int)).toNat = 8 * width := by omega
  have hlt : decide ((width : Int) < 1) = false := by simp; omega
  have hgt : decide ((8 : Int) < (width : Int)) = false := by simp; omega
  have hlt1 : ¬ (width : Int) < 1 := by omega
  have hgt1 : ¬ (8 : Int) < (width : Int) := by omega
  have hn1 : (n : Int) < 18446744073709551616 := by omega
  go_enter Tryz.func67, Tryz.ntmps67
  go_wp2_with fail
  clear hsh hwt hlt hgt hlt1 hgt1
  have hgl := hg.lt
  go_loopw [7, 8] (fun bv iv wr => ∃ (m : Nat) (a : Option Addr) (c : Nat), iv = .int .i64 ((width : Int) - 1 - (m : Int)) ∧ m ≤ width ∧ bv = .slice a m c ∧ Hid (BytesO wr w.heap.size bv (pref n width m)) ∧ Upd (fun k => w.heap.size ≤ k) w wr) (fun _ iv _ => (intOf iv + 1).toNat)
  case atStart => exact ⟨0, _, _, by simp, Nat.zero_le _, rfl, hide (BytesO.nil _ _), Upd.refl _ _⟩
  case round =>
    obtain ⟨m, a, c, rfl, hm, rfl, HO, ur⟩ := hrel
    by_cases hlt : m < width
    · have hm0 : (m : Int) < (width : Int) := by omega
      have hb := ur.size
      have ht : (8 * ((width : Int) - 1 - (m : Int))).toNat = 8 * (width - 1 - m) := by omega
      have hp : ∀ k : Nat, (n : Int) / 2 ^ k < 18446744073709551616 ∧ 0 ≤ (n : Int) / 2 ^ k := fun k => by
        have hp : (1 : Int) ≤ 2 ^ k := Int.pow_pos (by decide)
        exact ⟨Int.lt_of_le_of_lt (Int.ediv_le_self _ (by omega)) hn1, Int.ediv_nonneg (by omega) (by omega)⟩
      obtain ⟨q1, q0⟩ := hp (8 * (width - 1 - m))
      have hwr : IntKind.u64.wrap ((n : Int) / 2 ^ (8 * (width - 1 - m))) = (n : Int) / 2 ^ (8 * (width - 1 - m)) := by rw [IntKind.wrap_u64]; omega
      have HN64 := hide (And.intro hn64 hn1)
      have hpl : (pref n width m).length ≤ 1073741824 := by simp [pref]; omega
      have hpn : pref n width (m + 1) = pref n width m ++ [(n : Int) / 2 ^ (8 * (width - 1 - m)) % 256] := by unfold pref; rw [List.range_succ, List.map_append]; rfl
      have hpl2 : (pref n width (m + 1)).length = m + 1 := by simp [pref]
      have HPN := hide hpn
      have HPL := hide hpl2
      have hnn : 0 ≤ (width : Int) - 1 - (m : Int) := by omega
      clear hp hpn hpl2 q1 hn64 hn1
      go_wp2_with (at_builtin; refine append_byte rfl (.tmp 28) (.tmp 34) rfl w.heap.size _ _ rfl _ _ _ rfl (unhide HO) hpl hb ?_)
      intro v' w5 hO5 u5
      have u6 := ur.then u5 (fun q _ h => ((unhide HO).ge h).1)
      rw [← unhide HPN] at hO5
      obtain ⟨a5, c5, rfl⟩ := hO5.shape
      rw [unhide HPL] at hO5 ⊢
      have HO5 := hide hO5
      clear hO5 u5 HO HPN q0 hpl ht hnn hwr
      go_wp2
      go_roundw
      case rel => exact ⟨m + 1, a5, c5, by congr 1; omega, by omega, rfl, HO5, u6⟩
      case measure => simp [intOf]; omega
    · obtain rfl : m = width := by omega
      rw [show (m : Int) - 1 - (m : Int) = -1 by omega]
      have hst := run_string_own (((unhide HO).upd ((Upd.refl (fun _ => False) wr).drew) (fun _ _ h => h)))
      have hg' := ur.old hg (fun h => by omega)
      have c0 := blk_cell hg' 0
      have z0 := blk_free hg' 0
      simp at c0
      have hpe : strOfNums (pref n m m) = numS n m := rfl
      rw [hpe] at hst
      have hq := numS_size n m
      generalize hqe : numS n m = q at hst hq ⊢
      have HQE := hide hqe
      clear hqe
      have hg2 := blk_set hg' 0 (.string (s ++ q))
      have nW : New w wr := Upd.of_below (ur.below' (Nat.le_refl _) (fun _ h => h)) (Nat.le_refl _)
      have uW : Upd (fun k => k = g) w (wr.setCell ⟨g, 0, none⟩ (.string (s ++ q))) := (nW.mono (T := fun k => k = g) (fun _ _ h => h.elim)).set1 0 _
      have HG2 := hide hg2
      clear hg2 nW ur
      clear hpe
      have hbig : ¬ 9223372036854775807 < s.size + m := by omega
      go_wp2_with fail
      go_region_law (fail)
      all_goals
        have hg3 := unhide HG2
        generalize wr.setCell ⟨g, 0, none⟩ (.string (s ++ q)) = wS at hg3 uW ⊢
        go_wp2
        go_ret
        exact ⟨rfl, uW.drew, by rw [unhide HQE]; exact hg3⟩

theorem Ints8.drew {w : World} {b : Nat} {ws : List Int} (h : Ints8 w b ws) : Ints8 w.drew b ws := h
theorem run_string_ints {w : World} {b : Nat} {xs : List Int} (h : Ints8 w b xs) (n : Nat) (hn : xs.length = n) : (convert 146 9 (.slice (some ⟨b, 0, none⟩) n n)).run Tryz.prog w = .ok (.string (strOfNums xs)) w := by
  obtain ⟨T, h⟩ := h
  exact run_string_block w 146 9 5 Tryz.underlying146 Tryz.underlying5 Tryz.underlying9 b n xs T (0, 0) n hn h
set_option maxRecDepth 100000 in
set_option maxHeartbeats 1000000 in
theorem hash_any (g : Nat) (h : List Int) (s : ByteArray) (w : World) (hg : Wr w g s) (hh : h.length = 32) (hs : s.size ≤ 1073741824) :
    Calls Tryz.prog 134 #[.pointer (some ⟨g, 0, none⟩), .agg (h.map (Value.int .u8)).toArray] w fun e w' => e = .returned (.tuple #[]) ∧ Upd (fun k => k = g) w w' ∧ Wr w' g (s ++ strOfNums h) := by
  have hq : (strOfNums h).size = 32 := by rw [strOfNums_size, hh]
  generalize hhv : (h.map (Value.int .u8)).toArray = hv
  go_enter Tryz.func134, Tryz.ntmps134
  go_upto_region 1 with fail
  have hb : Ints8 (w.alloc (.cells hv 32)) w.heap.size h := ⟨_, by rw [hhv]; exact blk_alloc _ _⟩
  have n1 : New w (w.alloc (.cells hv 32)) := (Upd.refl _ _).alloc _
  have hgl := hg.lt
  have hg' := hg.new n1
  generalize w.alloc (.cells hv 32) = w1 at hb n1 hg' ⊢
  have hst := run_string_ints (hb.drew) 32 hh
  have c0 := blk_cell hg' 0
  have z0 := blk_free hg' 0
  simp at c0
  generalize hqe : strOfNums h = q at hst hq
  have HQE := hide hqe
  have hg2 := blk_set hg' 0 (.string (s ++ q))
  have uW : Upd (fun k => k = g) w (w1.setCell ⟨g, 0, none⟩ (.string (s ++ q))) := (n1.mono (T := fun k => k = g) (fun _ _ h => h.elim)).set1 0 _
  have HG2 := hide hg2
  have hbig : ¬ 9223372036854775807 < s.size + 32 := by omega
  clear hqe hg2 n1 hb hhv hg' hg hh
  go_region_law (fail)
  all_goals
    have hg3 := unhide HG2
    generalize w1.setCell ⟨g, 0, none⟩ (.string (s ++ q)) = wS at hg3 uW ⊢
    go_end0
    exact ⟨rfl, uW.drew, by rw [unhide HQE]; exact hg3⟩

set_option maxHeartbeats 1000000 in
theorem bytesW_any (g : Nat) (s : ByteArray) (w : World) (hg : Wr w g s) :
    Calls Tryz.prog 68 #[.pointer (some ⟨g, 0, none⟩)] w fun e w' => e = .returned (.string s) ∧ w = w' := by
  have c0 := blk_cell hg 0
  simp at c0
  clear hg
  go_enter Tryz.func68, Tryz.ntmps68
  go_wp2
  go_ret
  exact ⟨rfl, rfl⟩

/-! ### The reference's -/

end Go.Proofs.YtainkaojnhfldaaGreatDoor
