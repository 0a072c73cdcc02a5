/-
  The writer at fixed widths.
-/
import Derived.Test.YtbcjhpeighlncaaDoorMcg
namespace Go.Proofs.YtbcjhpeighlncaaDoor
set_option linter.unusedVariables false
set_option linter.unusedSimpArgs false
open Go.RowKit

theorem number_int (g : Nat) (x : Int) (width : Nat) (wi : Int) (s : ByteArray) (w : World) (hwi : wi = width) (hg : Wr w g s) (hw1 : 1 ≤ width) (hw8 : width ≤ 8) (h0 : 0 ≤ x) (hn : x < 2 ^ (8 * width)) (hs : s.size ≤ 1073741824) :
    Calls Tryd.prog 37 #[.pointer (some ⟨g, 0, none⟩), .int .u64 x, .int .i64 wi] w fun e w' => e = .returned (.int .i64 0) ∧ Upd (fun k => k = g) w w' ∧ Wr w' g (s ++ numS x.toNat width) := by
  subst hwi
  obtain ⟨n, rfl⟩ := Int.eq_ofNat_of_zero_le h0
  rw [Int.toNat_natCast]
  exact number_any g n width s w hg hw1 hw8 (by exact_mod_cast hn) hs
theorem number_8 (g : Nat) (x : Int) (s : ByteArray) (w : World) (hg : Wr w g s) (h0 : 0 ≤ x) (hn : x < 18446744073709551616) (hs : s.size ≤ 1073741824) :
    Calls Tryd.prog 37 #[.pointer (some ⟨g, 0, none⟩), .int .u64 x, .int .i64 8] w fun e w' => e = .returned (.int .i64 0) ∧ Upd (fun k => k = g) w w' ∧ Wr w' g (s ++ numS x.toNat 8) :=
  number_int g x 8 8 s w rfl hg (by decide) (by decide) h0 hn hs
theorem number_4 (g : Nat) (x : Int) (s : ByteArray) (w : World) (hg : Wr w g s) (h0 : 0 ≤ x) (hn : x < 4294967296) (hs : s.size ≤ 1073741824) :
    Calls Tryd.prog 37 #[.pointer (some ⟨g, 0, none⟩), .int .u64 x, .int .i64 4] w fun e w' => e = .returned (.int .i64 0) ∧ Upd (fun k => k = g) w w' ∧ Wr w' g (s ++ numS x.toNat 4) :=
  number_int g x 4 4 s w rfl hg (by decide) (by decide) h0 hn hs
theorem number_2 (g : Nat) (x : Int) (s : ByteArray) (w : World) (hg : Wr w g s) (h0 : 0 ≤ x) (hn : x < 65536) (hs : s.size ≤ 1073741824) :
    Calls Tryd.prog 37 #[.pointer (some ⟨g, 0, none⟩), .int .u64 x, .int .i64 2] w fun e w' => e = .returned (.int .i64 0) ∧ Upd (fun k => k = g) w w' ∧ Wr w' g (s ++ numS x.toNat 2) :=
  number_int g x 2 2 s w rfl hg (by decide) (by decide) h0 hn hs
theorem number_1 (g : Nat) (x : Int) (s : ByteArray) (w : World) (hg : Wr w g s) (h0 : 0 ≤ x) (hn : x < 256) (hs : s.size ≤ 1073741824) :
    Calls Tryd.prog 37 #[.pointer (some ⟨g, 0, none⟩), .int .u64 x, .int .i64 1] w fun e w' => e = .returned (.int .i64 0) ∧ Upd (fun k => k = g) w w' ∧ Wr w' g (s ++ numS x.toNat 1) :=
  number_int g x 1 1 s w rfl hg (by decide) (by decide) h0 hn hs

theorem numR_int (x : Int) (width : Nat) (wi : Int) (w : World) (hwi : wi = width) (hw1 : 1 ≤ width) (hw8 : width ≤ 8) (h0 : 0 ≤ x) (hn : x < 2 ^ (8 * width)) : Calls Tryd.prog 41 #[.int .u64 x, .int .i64 wi] w (Makes (.tuple #[.string (numS x.toNat width), .int .i64 0]) w) := by
  subst hwi
  obtain ⟨n, rfl⟩ := Int.eq_ofNat_of_zero_le h0
  rw [Int.toNat_natCast]
  exact numberR_any n width w hw1 hw8 (by exact_mod_cast hn)
theorem numR_4 (x : Int) (w : World) (h0 : 0 ≤ x) (hn : x < 4294967296) : Calls Tryd.prog 41 #[.int .u64 x, .int .i64 4] w (Makes (.tuple #[.string (numS x.toNat 4), .int .i64 0]) w) := numR_int x 4 4 w rfl (by decide) (by decide) h0 hn
theorem numR_2 (x : Int) (w : World) (h0 : 0 ≤ x) (hn : x < 65536) : Calls Tryd.prog 41 #[.int .u64 x, .int .i64 2] w (Makes (.tuple #[.string (numS x.toNat 2), .int .i64 0]) w) := numR_int x 2 2 w rfl (by decide) (by decide) h0 hn
theorem numR_8 (x : Int) (w : World) (h0 : 0 ≤ x) (hn : x < 18446744073709551616) : Calls Tryd.prog 41 #[.int .u64 x, .int .i64 8] w (Makes (.tuple #[.string (numS x.toNat 8), .int .i64 0]) w) := numR_int x 8 8 w rfl (by decide) (by decide) h0 hn
set_option maxHeartbeats 1000000 in
theorem eight_any (x : Int) (w : World) (h0 : 0 ≤ x) (hn : x < 18446744073709551616) : Calls Tryd.prog 42 #[.int .u64 x] w (Makes (.string (numS x.toNat 8)) w) := by
  have hc := hide (numR_8 x w h0 hn)
  generalize hq : numS x.toNat 8 = q at hc
  have HQ := hide hq
  clear h0 hn hq
  go_enter Tryd.func42, Tryd.ntmps42
  go_wp2_with fail
  refine (unhide hc).mono ?_
  rintro e w1 ⟨rfl, n1⟩
  go_wp2
  go_ret
  exact ⟨rfl, n1⟩

end Go.Proofs.YtbcjhpeighlncaaDoor
