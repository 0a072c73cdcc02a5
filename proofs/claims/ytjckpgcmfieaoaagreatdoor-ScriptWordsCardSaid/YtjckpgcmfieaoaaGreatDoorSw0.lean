/-
  script.Number, and the reference's: what a word's number is.
-/
import Derived.Test.YtjckpgcmfieaoaaGreatDoorProg
import Derived.Test.YtjckpgcmfieaoaaGreatDoorBase
import Derived.Test.YtjckpgcmfieaoaaGreatDoorTxt
namespace Go.Proofs.YtjckpgcmfieaoaaGreatDoor
open Go.RowKit

def digB (c : Int) : Bool := decide (48 ≤ c) && decide (c ≤ 57)
/-- The first i letters as a number; none, if some is no digit. -/
def numTo (s : ByteArray) : Nat → Option Int
  | 0 => some 0
  | i + 1 => match numTo s i with
    | none => none
    | some n => if digB (bt s i) = true then some (10 * n + (bt s i - 48)) else none
/-- What a word's number is, and whether it has one. -/
def numW22 (s : ByteArray) : Int × Bool := if s.size = 0 ∨ 9 < s.size then (0, false) else match numTo s s.size with | none => (0, false) | some n => (n, true)
theorem numTo_bd (s : ByteArray) : ∀ i n, numTo s i = some n → 0 ≤ n ∧ n < 10 ^ i
  | 0, n, h => by
    obtain rfl : 0 = n := by simpa [numTo] using h
    decide
  | i + 1, n, h => by
    rw [numTo] at h
    cases hm : numTo s i with
    | none => rw [hm] at h; cases h
    | some m =>
      rw [hm] at h
      have ih := numTo_bd s i m hm
      have hb := bt_bd s i
      simp only at h
      split at h
      · rename_i hd
        injection h with h
        unfold digB at hd
        rw [Bool.and_eq_true] at hd
        have h1 := of_decide_eq_true hd.1
        have h2 := of_decide_eq_true hd.2
        rw [Int.pow_succ]
        omega
      · cases h
theorem numTo_none (s : ByteArray) : ∀ (i j : Nat), i ≤ j → numTo s i = none → numTo s j = none
  | i, 0, h, e => by rw [show i = 0 by omega] at e; cases e
  | i, j + 1, h, e => by
    by_cases hij : i = j + 1
    · rw [← hij]; exact e
    · rw [numTo, numTo_none s i j (by omega) e]
end Go.Proofs.YtjckpgcmfieaoaaGreatDoor
