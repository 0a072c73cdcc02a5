/-
  DERIVED. GIVEN WITH THE SEED: THE CARDS: each row of YtjckpgcmfieaoaaGreatDoorRows.lean that lists a variable, with what it lists TIED to the program's text (the seventh form; the later family's looks); each row that meets fmt, with fmt's text TOLD by the authors' own Lean function (tested against real Go, not proved from fmt's source: count such statements apart). THE CARD IS WHAT COUNTS. Prove the row's statement (the work); the ties are given (YtjckpgcmfieaoaaGreatDoorTie.lean); close each card by the builder's one call (the guide's Derived/Test/ToyasCard.lean, 'card_holds'). Laid BY PROGRAM, IN A SANDBOX (cutbox-door.mjs). By AI agents, Wed Nov 11 2026. No macro, syntax, notation, axiom, sorry.
-/
import Derived.Test.YtjckpgcmfieaoaaGreatDoorRows
import GoSem.ClaimSeven
namespace Go.Proofs.YtjckpgcmfieaoaaGreatDoor
namespace Rows

/-- THE TIED CARD OF 'remitterlaw19.RelayLearns'. -/
def relayLearnsCard : Claim7 := { stood := { row := relayLearnsRow, standIns := [], harness := (true, "b6a56caeb26dfe364fb7920ddafdc9ab59f3d8702e980deaa5a8482cb2fbb41c"), looks := true }, kinds := [], alts := [], laidByText := true, laidKinds := [.data, .data, .data, .data, .data, .data], laidTests := true, laidLooks := .later }
def RelayLearnsCardSaid : Prop := Claim7.holds Tryz.pinned (.plain (OpenSpec.ofChange relayLearnsSpec)) relayLearnsCard

/-- THE TIED CARD OF 'remitterlaw19.RelayDrains'. -/
def relayDrainsCard : Claim7 := { stood := { row := relayDrainsRow, standIns := [], harness := (true, "b6a56caeb26dfe364fb7920ddafdc9ab59f3d8702e980deaa5a8482cb2fbb41c"), looks := true }, kinds := [], alts := [], laidByText := true, laidKinds := [.data, .data, .data, .data, .data, .data], laidTests := true, laidLooks := .later }
def RelayDrainsCardSaid : Prop := Claim7.holds Tryz.pinned (.plain (OpenSpec.ofChange relayDrainsSpec)) relayDrainsCard

/-- THE TIED CARD OF 'remitterlaw19.RelayErrors'. -/
def relayErrorsCard : Claim7 := { stood := { row := relayErrorsRow, standIns := [], harness := (true, "b6a56caeb26dfe364fb7920ddafdc9ab59f3d8702e980deaa5a8482cb2fbb41c"), looks := true }, kinds := [], alts := [], laidByText := true, laidKinds := [.data, .data, .data, .data, .data, .data], laidTests := true, laidLooks := .later }
def RelayErrorsCardSaid : Prop := Claim7.holds Tryz.pinned (.plain (OpenSpec.ofChange relayErrorsSpec)) relayErrorsCard

/-- THE TIED CARD OF 'remitterlaw21.SchedArgs'. -/
def schedArgsCard : Claim7 := { stood := { row := schedArgsRow, standIns := [], harness := (true, "b6a56caeb26dfe364fb7920ddafdc9ab59f3d8702e980deaa5a8482cb2fbb41c"), looks := true }, kinds := [], alts := [], laidByText := true, laidKinds := [.data, .data, .data, .data, .data, .data], laidTests := true, laidLooks := .later }
def SchedArgsCardSaid : Prop := Claim7.holds Tryz.pinned (.plain (OpenSpec.ofChange schedArgsSpec)) schedArgsCard

/-- THE TIED CARD OF 'remitterlaw22.ScriptWords'. -/
def scriptWordsCard : Claim7 := { stood := { row := scriptWordsRow, standIns := [], harness := (true, "b6a56caeb26dfe364fb7920ddafdc9ab59f3d8702e980deaa5a8482cb2fbb41c"), looks := true }, kinds := [], alts := [], laidByText := true, laidKinds := [.data, .data, .data, .data, .data, .data, .data, .data, .pinned], laidTests := true, laidLooks := .later }
def ScriptWordsCardSaid : Prop := Claim7.holds Tryz.pinned (.plain (OpenSpec.ofChange scriptWordsSpec)) scriptWordsCard

/-- THE TIED CARD OF 'remitterlaw22.ScriptWrong'. -/
def scriptWrongCard : Claim7 := { stood := { row := scriptWrongRow, standIns := [], harness := (true, "b6a56caeb26dfe364fb7920ddafdc9ab59f3d8702e980deaa5a8482cb2fbb41c"), looks := true }, kinds := [], alts := [], laidByText := true, laidKinds := [.data, .data, .data, .data, .data, .data, .data, .data, .pinned], laidTests := true, laidLooks := .later }
def ScriptWrongCardSaid : Prop := Claim7.holds Tryz.pinned (.plain (OpenSpec.ofChange scriptWrongSpec)) scriptWrongCard

/-- THE SECOND FORM's CARD OF 'remitterlaw19.RelayLearns'. -/
def relayLearnsUptoCard : Claim7 := { stood := { row := relayLearnsUptoRow, standIns := [], harness := (true, "b6a56caeb26dfe364fb7920ddafdc9ab59f3d8702e980deaa5a8482cb2fbb41c"), looks := true }, kinds := [], alts := [], laidByText := true, laidKinds := [.data, .data, .data, .data, .data, .data], laidTests := true, laidLooks := .later }
def RelayLearnsUptoCardSaid : Prop := Claim7.holds Tryz.pinned (.plain (OpenSpec.upto relayLearnsSpec)) relayLearnsUptoCard

/-- THE SECOND FORM's CARD OF 'remitterlaw19.RelayDrains'. -/
def relayDrainsUptoCard : Claim7 := { stood := { row := relayDrainsUptoRow, standIns := [], harness := (true, "b6a56caeb26dfe364fb7920ddafdc9ab59f3d8702e980deaa5a8482cb2fbb41c"), looks := true }, kinds := [], alts := [], laidByText := true, laidKinds := [.data, .data, .data, .data, .data, .data], laidTests := true, laidLooks := .later }
def RelayDrainsUptoCardSaid : Prop := Claim7.holds Tryz.pinned (.plain (OpenSpec.upto relayDrainsSpec)) relayDrainsUptoCard

/-- THE SECOND FORM's CARD OF 'remitterlaw19.RelayErrors'. -/
def relayErrorsUptoCard : Claim7 := { stood := { row := relayErrorsUptoRow, standIns := [], harness := (true, "b6a56caeb26dfe364fb7920ddafdc9ab59f3d8702e980deaa5a8482cb2fbb41c"), looks := true }, kinds := [], alts := [], laidByText := true, laidKinds := [.data, .data, .data, .data, .data, .data], laidTests := true, laidLooks := .later }
def RelayErrorsUptoCardSaid : Prop := Claim7.holds Tryz.pinned (.plain (OpenSpec.upto relayErrorsSpec)) relayErrorsUptoCard

/-- THE SECOND FORM's CARD OF 'remitterlaw21.SchedArgs'. -/
def schedArgsUptoCard : Claim7 := { stood := { row := schedArgsUptoRow, standIns := [], harness := (true, "b6a56caeb26dfe364fb7920ddafdc9ab59f3d8702e980deaa5a8482cb2fbb41c"), looks := true }, kinds := [], alts := [], laidByText := true, laidKinds := [.data, .data, .data, .data, .data, .data], laidTests := true, laidLooks := .later }
def SchedArgsUptoCardSaid : Prop := Claim7.holds Tryz.pinned (.plain (OpenSpec.upto schedArgsSpec)) schedArgsUptoCard

/-- THE SECOND FORM's CARD OF 'remitterlaw22.ScriptWords'. -/
def scriptWordsUptoCard : Claim7 := { stood := { row := scriptWordsUptoRow, standIns := [], harness := (true, "b6a56caeb26dfe364fb7920ddafdc9ab59f3d8702e980deaa5a8482cb2fbb41c"), looks := true }, kinds := [], alts := [], laidByText := true, laidKinds := [.data, .data, .data, .data, .data, .data, .data, .data, .pinned], laidTests := true, laidLooks := .later }
def ScriptWordsUptoCardSaid : Prop := Claim7.holds Tryz.pinned (.plain (OpenSpec.upto scriptWordsSpec)) scriptWordsUptoCard

/-- THE SECOND FORM's CARD OF 'remitterlaw22.ScriptWrong'. -/
def scriptWrongUptoCard : Claim7 := { stood := { row := scriptWrongUptoRow, standIns := [], harness := (true, "b6a56caeb26dfe364fb7920ddafdc9ab59f3d8702e980deaa5a8482cb2fbb41c"), looks := true }, kinds := [], alts := [], laidByText := true, laidKinds := [.data, .data, .data, .data, .data, .data, .data, .data, .pinned], laidTests := true, laidLooks := .later }
def ScriptWrongUptoCardSaid : Prop := Claim7.holds Tryz.pinned (.plain (OpenSpec.upto scriptWrongSpec)) scriptWrongUptoCard
end Rows
end Go.Proofs.YtjckpgcmfieaoaaGreatDoor
