/-
  The reference's Decode.
-/
import Derived.Test.YtfmkdoachjgjbaaGreatDoorRe3
set_option linter.unusedVariables false
set_option linter.unusedSimpArgs false
namespace Go.Proofs.YtfmkdoachjgjbaaGreatDoor
open Go.RowKit

def widS (xs : List Fld) : Nat := (xs.map Fld.wid).sum
theorem widS_cons (x : Fld) (xs : List Fld) : widS (x :: xs) = x.wid + widS xs := rfl
theorem widS_take {xs : List Fld} {i : Nat} {x : Fld} (h : xs[i]? = some x) : widS (xs.take (i + 1)) = widS (xs.take i) + x.wid := by
  rw [List.take_add_one, h]
  unfold widS
  simp
theorem widS_le (xs : List Fld) : ∀ i, widS (xs.take i) ≤ 32 * i
  | 0 => by show 0 ≤ _; omega
  | i + 1 => by
    have h := widS_le xs i
    cases hx : xs[i]? with
    | none => rw [List.take_of_length_le (by have := List.getElem?_eq_none_iff.1 hx; omega)]; rw [List.take_of_length_le (List.getElem?_eq_none_iff.1 hx)] at h; omega
    | some x => rw [widS_take hx]; have : x.wid ≤ 32 := by cases x <;> decide
                omega
theorem widS_part (xs : List Fld) (i : Nat) : widS (xs.take i) ≤ widS xs := by
  have h : widS xs = widS (xs.take i) + widS (xs.drop i) := by
    unfold widS
    rw [← List.sum_append, ← List.map_append, List.take_append_drop]
  omega
theorem getL_lo : ∀ (xs : List Fld) (s : ByteArray) (m : MsgV), s.size < widS xs → getL xs s m = none
  | [], s, m, h => absurd h (by show ¬ s.size < 0; omega)
  | x :: xs, s, m, h => by
    rw [widS_cons] at h
    rw [getL]
    split
    · rfl
    · exact getL_lo xs _ _ (by rw [ByteArray.size_extract]; omega)
theorem getL_hi : ∀ (xs : List Fld) (s : ByteArray) (m : MsgV), widS xs ≤ s.size → ∃ m' r, getL xs s m = some (m', r) ∧ r.size = s.size - widS xs
  | [], s, m, _ => ⟨m, s, rfl, by show s.size = s.size - 0; omega⟩
  | x :: xs, s, m, h => by
    rw [widS_cons] at h
    have hz : (s.extract x.wid s.size).size = s.size - x.wid := by rw [ByteArray.size_extract]; omega
    obtain ⟨m', r, h1, h2⟩ := getL_hi xs (s.extract x.wid s.size) (x.get s m) (by omega)
    refine ⟨m', r, ?_, by rw [widS_cons]; omega⟩
    rw [getL, if_neg (by omega)]
    exact h1
theorem lettersOf_of {k : Int} (h1 : 1 ≤ k) (h9 : k ≤ 9) : fieldsOf k = some (.ch :: lettersOf k) := by
  rcases (by omega : k = 1 ∨ k = 2 ∨ k = 3 ∨ k = 4 ∨ k = 5 ∨ k = 6 ∨ k = 7 ∨ k = 8 ∨ k = 9) with rfl | rfl | rfl | rfl | rfl | rfl | rfl | rfl | rfl <;> rfl
theorem lettersOf_not {k : Int} (h : k < 1 ∨ 9 < k) : fieldsOf k = none := by
  unfold fieldsOf
  repeat rw [if_neg (by omega)]
theorem lettersOf_ch (k : Int) : ∀ x ∈ lettersOf k, x ≠ .ch := by
  unfold lettersOf
  (repeat' split) <;> simp
section
variable {s : ByteArray}
theorem ref_kind (h : s.size ≠ 0) (hk : bt s 0 < 1 ∨ 9 < bt s 0) : (decL s).2 = 70 := by rw [dec_kind h (lettersOf_not hk)]
theorem ref_short (h : s.size ≠ 0) (h1 : 1 ≤ bt s 0) (h9 : bt s 0 ≤ 9) (hn : s.size < 5 + widS (lettersOf (bt s 0))) : (decL s).2 = 10 := by
  rw [dec_short h (lettersOf_of h1 h9) (getL_lo _ _ _ ?_)]
  rw [ByteArray.size_extract, widS_cons]
  show _ < 4 + _
  omega
theorem ref_more (h : s.size ≠ 0) (h1 : 1 ≤ bt s 0) (h9 : bt s 0 ≤ 9) (hn : 5 + widS (lettersOf (bt s 0)) < s.size) : (decL s).2 = 11 := by
  have hz : (s.extract 1 s.size).size = s.size - 1 := by rw [ByteArray.size_extract]; omega
  have hw : widS (.ch :: lettersOf (bt s 0)) = 4 + widS (lettersOf (bt s 0)) := rfl
  obtain ⟨m', r, hg, hr⟩ := getL_hi (.ch :: lettersOf (bt s 0)) (s.extract 1 s.size) (kindMsg (bt s 0)) (by omega)
  rw [dec_more h (lettersOf_of h1 h9) hg (by omega)]
theorem ref_end (h : s.size ≠ 0) (h1 : 1 ≤ bt s 0) (h9 : bt s 0 ≤ 9) {m : MsgV} {r : ByteArray} (hg : getL (.ch :: lettersOf (bt s 0)) (s.extract 1 s.size) (kindMsg (bt s 0)) = some (m, r)) (hr : r.size = 0) : (decL s).2 = if mayMsg m = true then 0 else 1 := by
  by_cases hm : mayMsg m = true
  · rw [dec_may h (lettersOf_of h1 h9) hg hr hm, if_pos hm]
  · rw [dec_not h (lettersOf_of h1 h9) hg hr (by simpa using hm), if_neg hm]
end
theorem Tryz.infoMsR : (Tryz.prog.info? 55).map (·.size) = some 38 := by kernel_rfl
def ldMsR (x : Value) : Sem Value := Instr.loadAt 55 x
theorem ld_msr_fold (x : Value) : Instr.loadAt 55 x = ldMsR x := rfl
theorem ld_msr (b o : Nat) (w : World) : (ldMsR (.pointer (some ⟨b, o, none⟩))).run Tryz.prog w = match rowN w b o 38 with | some A => .ok (.agg A) w | none => slowLd Tryz.prog 55 w b o :=
  run_loadAt_rowN 55 38 _ Tryz.underlying55 rfl Tryz.infoMsR b o w
def stMsR (x v : Value) : Sem Unit := Instr.storeAt 55 x v
theorem st_msr_fold (x v : Value) : Instr.storeAt 55 x v = stMsR x v := rfl
theorem st_msr (b o : Nat) (A : Array Value) (w : World) : (stMsR (.pointer (some ⟨b, o, none⟩)) (.agg A)).run Tryz.prog w = if stOk w b o 38 A = true then .ok () (w.setCells b o A.toList) else slowSt Tryz.prog 55 w b o A :=
  run_storeAt_row 55 38 Tryz.infoMsR b o A w
def alMsR : Sem Value := Instr.alloc 55 true (.tuple #[])
theorem al_msr_fold : Instr.alloc 55 true (.tuple #[]) = alMsR := rfl
theorem al_msr (w : World) : alMsR.run Tryz.prog w = .ok (.pointer (some ⟨w.heap.size, 0, none⟩)) (w.alloc (.cells MsgV.zero.cells.toArray 55)) := by kernel_rfl
def bdMsR (p : Array (Nat × Value)) : Sem Value := Instr.build 55 p
theorem bd_msr_fold (p : Array (Nat × Value)) : Instr.build 55 p = bdMsR p := rfl
theorem bd_msr_zero (w : World) : (bdMsR #[]).run Tryz.prog w = .ok (.agg MsgV.zero.cells.toArray) w := run_build w _ _ _ (by kernel_rfl)
theorem bd_msr_two (k c : Int) (w : World) : (bdMsR #[(0, .int .i64 k), (1, .int .u32 c)]).run Tryz.prog w = .ok (.agg (MsgV.cells ⟨k, c, 0, 0, z32i, 0, 0⟩).toArray) w := run_build w _ _ _ (by kernel_rfl)
section
variable {w w' : World} {b : Nat} {m : MsgV}
theorem MsR.lt (a : MsR w b m) : b < w.heap.size := blk_lt a.at_
theorem MsR.row (a : MsR w b m) : rowN w b 0 38 = some m.cells.toArray := rowN_whole a.at_ 38 (by rw [List.size_toArray, m.len a.len])
theorem MsR.stOk (a : MsR w b m) {k : MsgV} (hk : k.hash.length = 32) : stOk w b 0 38 k.cells.toArray = true := by
  have := stOk_all a.at_ (A := k.cells) (by rw [List.size_toArray, m.len a.len, k.len hk]) k.one
  rwa [List.size_toArray, m.len a.len] at this
theorem MsR.put (a : MsR w b m) {k : MsgV} (hk : k.hash.length = 32) : MsR (w.setCells b 0 k.cells) b k := by
  refine ⟨?_, hk⟩
  rw [blk_setCells a.at_ 0 _, layIn_whole _ _ (by rw [List.size_toArray, m.len a.len, k.len hk])]
end
def mrNew (w : World) (k : MsgV) : World := (w.alloc (.cells MsgV.zero.cells.toArray 55)).setCells w.heap.size 0 k.cells
theorem mr_fresh (w : World) (k : MsgV) (hk : k.hash.length = 32) : stOk (w.alloc (.cells MsgV.zero.cells.toArray 55)) w.heap.size 0 38 k.cells.toArray = true ∧ MsR (mrNew w k) w.heap.size k ∧ New w (mrNew w k) := by
  have ha : MsR (w.alloc (.cells MsgV.zero.cells.toArray 55)) w.heap.size MsgV.zero := ⟨blk_alloc _ _, z32i_len⟩
  exact ⟨ha.stOk hk, ha.put hk, (((Upd.refl (fun _ => False) w).alloc _)).then (upd_sets _) (fun i hi e => by omega)⟩
end Go.Proofs.YtfmkdoachjgjbaaGreatDoor
