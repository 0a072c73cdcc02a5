/-
  Functions whose contract is known: bytes in texts.
-/
import Derived.Test.YtjckpgcmfieaoaaGreatDoorAvS
import Derived.Test.YtjckpgcmfieaoaaGreatDoorProg
import Derived.Lib.Bytealg
namespace Go.Proofs.YtjckpgcmfieaoaaGreatDoor
open Go.RowKit

/-- Where a byte stands. -/
noncomputable def iFind (c : Nat) (l : List Nat) : Nat → Int :=
  List.rec (motive := fun _ => Nat → Int) (fun _ => -1) (fun x _ ih i => match Nat.beq x c with | true => Int.ofNat i | false => ih (Nat.succ i)) l
/-- How often. -/
noncomputable def iCount (c : Nat) (l : List Nat) : Nat → Nat :=
  List.rec (motive := fun _ => Nat → Nat) (fun n => n) (fun x _ ih n => match Nat.beq x c with | true => ih (Nat.succ n) | false => ih n) l
theorem iFind_cons (c x : Nat) (l : List Nat) (i : Nat) : iFind c (x :: l) i = match Nat.beq x c with | true => Int.ofNat i | false => iFind c l (Nat.succ i) := rfl
theorem iCount_cons (c x : Nat) (l : List Nat) (i : Nat) : iCount c (x :: l) i = match Nat.beq x c with | true => iCount c l (Nat.succ i) | false => iCount c l i := rfl
theorem byte_beq (x : UInt8) {c : Nat} (hc : c < 256) : Nat.beq x.toNat c = (x == c.toUInt8) := by
  rw [Bool.eq_iff_iff]
  constructor
  · intro h
    have e := Nat.eq_of_beq_eq_true h
    rw [beq_iff_eq, ← UInt8.toNat_inj, e]
    simp [Nat.toUInt8, Nat.mod_eq_of_lt hc]
  · intro h
    rw [beq_iff_eq] at h
    subst h
    have : c.toUInt8.toNat = c := by simp [Nat.toUInt8, Nat.mod_eq_of_lt hc]
    rw [this, Nat.beq_refl]
theorem iFind_eq {c : Nat} (hc : c < 256) : ∀ (l : List UInt8) (i : Nat), iFind c (l.map (·.toNat)) i = if Lib.indexByte l c.toUInt8 = -1 then -1 else Lib.indexByte l c.toUInt8 + i
  | [], i => rfl
  | x :: l, i => by
    rw [List.map_cons, iFind_cons, byte_beq x hc]
    unfold Lib.indexByte
    have ge := Lib.indexByte_ge l c.toUInt8
    cases hb : x == c.toUInt8 with
    | true => simp
    | false =>
      simp only [Bool.false_eq_true, if_false]
      rw [iFind_eq hc l (i + 1)]
      by_cases h1 : Lib.indexByte l c.toUInt8 = -1
      · simp [h1]
      · have h2 : Lib.indexByte l c.toUInt8 + 1 ≠ -1 := by omega
        simp only [h1, if_false, beq_iff_eq, h2]
        push_cast
        omega
theorem iCount_eq {c : Nat} (hc : c < 256) : ∀ (l : List UInt8) (n : Nat), iCount c (l.map (·.toNat)) n = n + Lib.countByte l c.toUInt8
  | [], n => rfl
  | x :: l, n => by
    rw [List.map_cons, iCount_cons, byte_beq x hc]
    unfold Lib.countByte
    rw [List.count_cons]
    cases hb : x == c.toUInt8 with
    | true => simp only; rw [iCount_eq hc l]; unfold Lib.countByte; simp; omega
    | false => simp only; rw [iCount_eq hc l]; unfold Lib.countByte; simp
end Go.Proofs.YtjckpgcmfieaoaaGreatDoor
