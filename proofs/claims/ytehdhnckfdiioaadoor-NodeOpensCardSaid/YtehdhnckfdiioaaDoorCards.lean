/-
  DERIVED. GIVEN WITH THE SEED: THE CARDS: each row of YtehdhnckfdiioaaDoorRows.lean that lists a variable, with what it lists TIED to the program's text (the seventh form; the later family's looks); each row that meets fmt, with fmt's text TOLD by the authors' own Lean function (tested against real Go, not proved from fmt's source: count such statements apart). THE CARD IS WHAT COUNTS. Prove the row's statement (the work); the ties are given (YtehdhnckfdiioaaDoorTie.lean); close each card by the builder's one call (the guide's Derived/Test/ToyasCard.lean, 'card_holds'). Laid BY PROGRAM, IN A SANDBOX (cutbox-door.mjs). By AI agents, Wed Nov 11 2026. No macro, syntax, notation, axiom, sorry.
-/
import Derived.Test.YtehdhnckfdiioaaDoorRows
import GoSem.ClaimSeven
namespace Go.Proofs.YtehdhnckfdiioaaDoor
namespace Rows

/-- THE TIED CARD OF 'remitterlaw20.NodeOpens'. -/
def nodeOpensCard : Claim7 := { stood := { row := nodeOpensRow, standIns := [], harness := (true, "5bbd7a7086baac57587bde5e29ef754e96f1f5497cf897c1cd3cf018308cc532"), looks := false }, kinds := [], alts := [], laidByText := true, laidKinds := [.data, .data], laidTests := true, laidLooks := .later }
def NodeOpensCardSaid : Prop := Claim7.holds Tryd.pinned (.plain (OpenSpec.ofChange nodeOpensSpec)) nodeOpensCard

/-- THE SECOND FORM's CARD OF 'remitterlaw20.NodeOpens'. -/
def nodeOpensUptoCard : Claim7 := { stood := { row := nodeOpensUptoRow, standIns := [], harness := (true, "5bbd7a7086baac57587bde5e29ef754e96f1f5497cf897c1cd3cf018308cc532"), looks := false }, kinds := [], alts := [], laidByText := true, laidKinds := [.data, .data], laidTests := true, laidLooks := .later }
def NodeOpensUptoCardSaid : Prop := Claim7.holds Tryd.pinned (.plain (OpenSpec.upto nodeOpensSpec)) nodeOpensUptoCard
end Rows
end Go.Proofs.YtehdhnckfdiioaaDoor
