/-
  What a message is to a hearer; hearAdd.
-/
import Derived.Test.YtfmkdoachjgjbaaGreatDoorMbg
set_option linter.unusedVariables false
set_option linter.unusedSimpArgs false
namespace Go.Proofs.YtfmkdoachjgjbaaGreatDoor
open Go.RowKit

attribute [local go_sem ↓ high] ld_live_fold st_live_fold al_live_fold bs_liv_fold ld_hsh_fold ld_htl_fold st_htl_fold al_htl_fold bd_htl_fold bd_liv_fold
attribute [local go_sem] ld_live st_live al_live bs_liv rowN_drew ld_hsh ld_htl st_htl al_htl bd_htl

/-- Numbers of a message that fit. -/
structure MsgOk (m : MsgV) : Prop where
  kind : -9223372036854775808 ≤ m.kind ∧ m.kind ≤ 9223372036854775807
  ch : 0 ≤ m.ch ∧ m.ch < 4294967296
  id : 0 ≤ m.id ∧ m.id < 18446744073709551616
  amount : 0 ≤ m.amount ∧ m.amount < 18446744073709551616
  len : m.hash.length = 32
  hash : ∀ b ∈ m.hash, 0 ≤ b ∧ b ≤ 255
  expiry : -9223372036854775808 ≤ m.expiry ∧ m.expiry ≤ 9223372036854775807
  number : -9223372036854775808 ≤ m.number ∧ m.number ≤ 9223372036854775807
def hvec (l : List Int) : Vector Int 32 := if h : l.length = 32 then ⟨l.toArray, by simpa using h⟩ else Vector.replicate 32 0
theorem hvec_list {l : List Int} (h : l.length = 32) : (hvec l).toList = l := by
  unfold hvec
  rw [dif_pos h]
  rfl
/-- A message's cells, one by one. -/
theorem msg_at (m : MsgV) {w : World} {b : Nat} {T : TypeId} {fz : Nat × Nat} (h : w.heap[b]? = some (.cells m.cells.toArray T fz)) (hl : m.hash.length = 32) :
    w.cell? ⟨b, 0, none⟩ = some (.int .i64 m.kind) ∧ w.cell? ⟨b, 1, none⟩ = some (.int .u32 m.ch) ∧ w.cell? ⟨b, 2, none⟩ = some (.int .u64 m.id) ∧ w.cell? ⟨b, 3, none⟩ = some (.int .u64 m.amount) ∧ w.cell? ⟨b, 36, none⟩ = some (.int .i64 m.expiry) ∧ w.cell? ⟨b, 37, none⟩ = some (.int .i64 m.number) ∧ rowN w b 4 32 = some (m.hash.map (Value.int .u8)).toArray := by
  have e36 : ∀ j, m.cells[36 + j]? = ([.int .i64 m.expiry, .int .i64 m.number] : List Value)[j]? := by
    intro j
    unfold MsgV.cells
    rw [show 36 + j = (32 + j) + 4 by omega]
    simp only [List.getElem?_cons_succ]
    rw [List.getElem?_append_right (by simp [hl]), List.length_map, hl, Nat.add_sub_cancel_left]
  refine ⟨blk_cell h 0, blk_cell h 1, blk_cell h 2, blk_cell h 3, ?_, ?_, ?_⟩
  · rw [blk_cell h 36, List.getElem?_toArray]; exact e36 0
  · rw [blk_cell h 37, List.getElem?_toArray]; exact e36 1
  · rw [rowN_blk h 4 32 (by rw [List.size_toArray, m.len hl]; omega)]
    congr 1
    apply Array.ext'
    rw [Array.toList_extract]
    unfold MsgV.cells
    simp [hl]

def hearAddErr (c : Ch) (m : MsgV) : Int :=
  if c.k.shutHeard = true then 135 else if m.amount = 0 then 1 else if m.id ≠ c.k.nextTheirs then 1 else if m.expiry = 0 then 131 else if 8 ≤ manyL false c.xs then 130 else if c.rem < m.amount then 61 else 0
def addLive (m : MsgV) : Live := ⟨⟨m.id, m.amount, hvec m.hash, m.expiry⟩, false, 0, false⟩
def Ch.added (c : Ch) (m : MsgV) : Ch := { c with rem := c.rem - m.amount, k := { c.k with nextTheirs := IntKind.u64.wrap (c.k.nextTheirs + 1) }, xs := c.xs ++ [addLive m] }
/-- What hearAdd does: the end, its error. -/
def Ch.hearAdd (c : Ch) (m : MsgV) : Ch × Int := if hearAddErr c m = 0 then (c.added m, 0) else (c, hearAddErr c m)

end Go.Proofs.YtfmkdoachjgjbaaGreatDoor
