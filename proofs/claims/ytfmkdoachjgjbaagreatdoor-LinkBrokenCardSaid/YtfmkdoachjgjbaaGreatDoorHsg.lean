/-
  hearSign.
-/
import Derived.Test.YtfmkdoachjgjbaaGreatDoorSgn
import Derived.Test.YtfmkdoachjgjbaaGreatDoorRvk
set_option linter.unusedVariables false
set_option linter.unusedSimpArgs false
namespace Go.Proofs.YtfmkdoachjgjbaaGreatDoor
open Go.RowKit

def ldVw (x : Value) : Sem Value := Instr.loadAt 201 x
theorem ld_vw_fold (x : Value) : Instr.loadAt 201 x = ldVw x := rfl
theorem ld_vw (b o : Nat) (w : World) : (ldVw (.pointer (some ⟨b, o, none⟩))).run Tryz.prog w = match rowN w b o 3 with | some A => .ok (.agg A) w | none => slowLd Tryz.prog 201 w b o :=
  run_loadAt_rowN 201 3 _ Tryz.underlying201 rfl Tryz.infoView b o w
def stVw (x v : Value) : Sem Unit := Instr.storeAt 201 x v
theorem st_vw_fold (x v : Value) : Instr.storeAt 201 x v = stVw x v := rfl
theorem st_vw (b o : Nat) (A : Array Value) (w : World) : (stVw (.pointer (some ⟨b, o, none⟩)) (.agg A)).run Tryz.prog w = if stOk w b o 3 A = true then .ok () (w.setCells b o A.toList) else slowSt Tryz.prog 201 w b o A :=
  run_storeAt_row 201 3 Tryz.infoView b o A w
def alVw : Sem Value := Instr.alloc 201 true (.tuple #[])
theorem al_vw_fold : Instr.alloc 201 true (.tuple #[]) = alVw := rfl
def zVw : List Value := [.int .u64 0, .int .u64 0, .slice none 0 0]
theorem al_vw (w : World) : alVw.run Tryz.prog w = .ok (.pointer (some ⟨w.heap.size, 0, none⟩)) (w.alloc (.cells zVw.toArray 201)) := by kernel_rfl

attribute [local go_sem ↓ high] ld_hsh_fold st_hsh_fold al_hsh_fold bd_hsh_fold ld_msg_fold st_msg_fold al_msg_fold bd_msg_fold ld_bas_fold ld_vw_fold st_vw_fold al_vw_fold ne_hsh_fold bs_msg_fold
attribute [local go_sem] ld_hsh st_hsh al_hsh bd_hsh rowN_drew ld_msg st_msg al_msg bd_msg_zero ld_bas ld_vw st_vw al_vw bs_msg

noncomputable def hsgErr (c : Ch) (m : MsgV) : Bool := m.hash != viewTag true c.s.peer c.s.ch m.number c.loc c.rem (afterL 3 c.xs)
noncomputable def hearSignErr (c : Ch) (m : MsgV) : Int :=
  if changesB 3 c.xs = false then 5 else if m.number ≠ c.k.heard + 1 then 1 else if hsgErr c m = true then 133 else 0
/-- The end behind a signature of the peer. -/
def Ch.heardOne (c : Ch) : Ch := { c with k := { c.k with heard := c.k.heard + 1 } }
def Ch.revokes (c : Ch) : Ch := { c with k := { c.k with revoked := true } }
def Ch.signedBy (c : Ch) : Ch := ((c.goOn 3).heardOne.goOn 4).revokes
/-- What hearSign does: the end, what it says, its error. -/
noncomputable def Ch.hearSign (c : Ch) (m : MsgV) : Ch × List MsgV × Int := if hearSignErr c m = 0 then (c.signedBy, [c.signedBy.revocation], 0) else (c, [], hearSignErr c m)

end Go.Proofs.YtfmkdoachjgjbaaGreatDoor
