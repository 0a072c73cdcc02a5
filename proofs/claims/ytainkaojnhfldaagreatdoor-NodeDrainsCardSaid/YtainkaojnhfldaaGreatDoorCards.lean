/-
  DERIVED. GIVEN WITH THE SEED: THE CARDS: each row of YtainkaojnhfldaaGreatDoorRows.lean that lists a variable, with what it lists TIED to the program's text (the seventh form; the later family's looks); each row that meets fmt, with fmt's text TOLD by the authors' own Lean function (tested against real Go, not proved from fmt's source: count such statements apart). THE CARD IS WHAT COUNTS. Prove the row's statement (the work); the ties are given (YtainkaojnhfldaaGreatDoorTie.lean); close each card by the builder's one call (the guide's Derived/Test/ToyasCard.lean, 'card_holds'). Laid BY PROGRAM, IN A SANDBOX (cutbox-door.mjs). By AI agents, Wed Nov 11 2026. No macro, syntax, notation, axiom, sorry.
-/
import Derived.Test.YtainkaojnhfldaaGreatDoorRows
import GoSem.ClaimSeven
namespace Go.Proofs.YtainkaojnhfldaaGreatDoor
namespace Rows

/-- THE TIED CARD OF 'remitterlaw20.NodePays'. -/
def nodePaysCard : Claim7 := { stood := { row := nodePaysRow, standIns := [], harness := (true, "4e01e4810d209c1f73aae0e8982a7a825cba01b9e9cc8623d55a19d97210776a"), looks := true }, kinds := [], alts := [], laidByText := true, laidKinds := [.data, .data], laidTests := true, laidLooks := .later }
def NodePaysCardSaid : Prop := Claim7.holds Tryz.pinned (.plain (OpenSpec.ofChange nodePaysSpec)) nodePaysCard

/-- THE TIED CARD OF 'remitterlaw18.LinkTicks'. -/
def linkTicksCard : Claim7 := { stood := { row := linkTicksRow, standIns := [], harness := (true, "4e01e4810d209c1f73aae0e8982a7a825cba01b9e9cc8623d55a19d97210776a"), looks := true }, kinds := [], alts := [], laidByText := true, laidKinds := [.data, .data, .data, .data], laidTests := true, laidLooks := .later }
def LinkTicksCardSaid : Prop := Claim7.holds Tryz.pinned (.plain (OpenSpec.ofChange linkTicksSpec)) linkTicksCard

/-- THE TIED CARD OF 'remitterlaw20.NodeDrains'. -/
def nodeDrainsCard : Claim7 := { stood := { row := nodeDrainsRow, standIns := [], harness := (true, "4e01e4810d209c1f73aae0e8982a7a825cba01b9e9cc8623d55a19d97210776a"), looks := true }, kinds := [], alts := [], laidByText := true, laidKinds := [.data, .data], laidTests := true, laidLooks := .later }
def NodeDrainsCardSaid : Prop := Claim7.holds Tryz.pinned (.plain (OpenSpec.ofChange nodeDrainsSpec)) nodeDrainsCard

/-- THE TIED CARD OF 'remitterlaw20.NodeCloses'. -/
def nodeClosesCard : Claim7 := { stood := { row := nodeClosesRow, standIns := [], harness := (true, "4e01e4810d209c1f73aae0e8982a7a825cba01b9e9cc8623d55a19d97210776a"), looks := true }, kinds := [], alts := [], laidByText := true, laidKinds := [.data, .data, .data, .data, .data, .data], laidTests := true, laidLooks := .later }
def NodeClosesCardSaid : Prop := Claim7.holds Tryz.pinned (.plain (OpenSpec.ofChange nodeClosesSpec)) nodeClosesCard

/-- THE SECOND FORM's CARD OF 'remitterlaw20.NodePays'. -/
def nodePaysUptoCard : Claim7 := { stood := { row := nodePaysUptoRow, standIns := [], harness := (true, "4e01e4810d209c1f73aae0e8982a7a825cba01b9e9cc8623d55a19d97210776a"), looks := true }, kinds := [], alts := [], laidByText := true, laidKinds := [.data, .data], laidTests := true, laidLooks := .later }
def NodePaysUptoCardSaid : Prop := Claim7.holds Tryz.pinned (.plain (OpenSpec.upto nodePaysSpec)) nodePaysUptoCard

/-- THE SECOND FORM's CARD OF 'remitterlaw18.LinkTicks'. -/
def linkTicksUptoCard : Claim7 := { stood := { row := linkTicksUptoRow, standIns := [], harness := (true, "4e01e4810d209c1f73aae0e8982a7a825cba01b9e9cc8623d55a19d97210776a"), looks := true }, kinds := [], alts := [], laidByText := true, laidKinds := [.data, .data, .data, .data], laidTests := true, laidLooks := .later }
def LinkTicksUptoCardSaid : Prop := Claim7.holds Tryz.pinned (.plain (OpenSpec.upto linkTicksSpec)) linkTicksUptoCard

/-- THE SECOND FORM's CARD OF 'remitterlaw20.NodeDrains'. -/
def nodeDrainsUptoCard : Claim7 := { stood := { row := nodeDrainsUptoRow, standIns := [], harness := (true, "4e01e4810d209c1f73aae0e8982a7a825cba01b9e9cc8623d55a19d97210776a"), looks := true }, kinds := [], alts := [], laidByText := true, laidKinds := [.data, .data], laidTests := true, laidLooks := .later }
def NodeDrainsUptoCardSaid : Prop := Claim7.holds Tryz.pinned (.plain (OpenSpec.upto nodeDrainsSpec)) nodeDrainsUptoCard

/-- THE SECOND FORM's CARD OF 'remitterlaw20.NodeCloses'. -/
def nodeClosesUptoCard : Claim7 := { stood := { row := nodeClosesUptoRow, standIns := [], harness := (true, "4e01e4810d209c1f73aae0e8982a7a825cba01b9e9cc8623d55a19d97210776a"), looks := true }, kinds := [], alts := [], laidByText := true, laidKinds := [.data, .data, .data, .data, .data, .data], laidTests := true, laidLooks := .later }
def NodeClosesUptoCardSaid : Prop := Claim7.holds Tryz.pinned (.plain (OpenSpec.upto nodeClosesSpec)) nodeClosesUptoCard
end Rows
end Go.Proofs.YtainkaojnhfldaaGreatDoor
