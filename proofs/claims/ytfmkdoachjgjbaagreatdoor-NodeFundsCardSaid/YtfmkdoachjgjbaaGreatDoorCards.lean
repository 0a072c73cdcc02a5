/-
  DERIVED. GIVEN WITH THE SEED: THE CARDS: each row of YtfmkdoachjgjbaaGreatDoorRows.lean that lists a variable, with what it lists TIED to the program's text (the seventh form; the later family's looks); each row that meets fmt, with fmt's text TOLD by the authors' own Lean function (tested against real Go, not proved from fmt's source: count such statements apart). THE CARD IS WHAT COUNTS. Prove the row's statement (the work); the ties are given (YtfmkdoachjgjbaaGreatDoorTie.lean); close each card by the builder's one call (the guide's Derived/Test/ToyasCard.lean, 'card_holds'). Laid BY PROGRAM, IN A SANDBOX (cutbox-door.mjs). By AI agents, Wed Nov 11 2026. No macro, syntax, notation, axiom, sorry.
-/
import Derived.Test.YtfmkdoachjgjbaaGreatDoorRows
import GoSem.ClaimSeven
namespace Go.Proofs.YtfmkdoachjgjbaaGreatDoor
namespace Rows

/-- THE TIED CARD OF 'remitterlaw18.LinkEvents'. -/
def linkEventsCard : Claim7 := { stood := { row := linkEventsRow, standIns := [], harness := (true, "fcc2aa0a5c6cf46cae400144342660f6f4b861ed15f289ee979601d863b97362"), looks := true }, kinds := [], alts := [], laidByText := true, laidKinds := [.data, .data, .data, .data, .data, .data], laidTests := true, laidLooks := .later }
def LinkEventsCardSaid : Prop := Claim7.holds Tryz.pinned (.plain (OpenSpec.ofChange linkEventsSpec)) linkEventsCard

/-- THE TIED CARD OF 'remitterlaw18.LinkBroken'. -/
def linkBrokenCard : Claim7 := { stood := { row := linkBrokenRow, standIns := [], harness := (true, "fcc2aa0a5c6cf46cae400144342660f6f4b861ed15f289ee979601d863b97362"), looks := true }, kinds := [], alts := [], laidByText := true, laidKinds := [.data, .data, .data, .data, .data, .data], laidTests := true, laidLooks := .later }
def LinkBrokenCardSaid : Prop := Claim7.holds Tryz.pinned (.plain (OpenSpec.ofChange linkBrokenSpec)) linkBrokenCard

/-- THE TIED CARD OF 'remitterlaw18.LinkRests'. -/
def linkRestsCard : Claim7 := { stood := { row := linkRestsRow, standIns := [], harness := (true, "fcc2aa0a5c6cf46cae400144342660f6f4b861ed15f289ee979601d863b97362"), looks := true }, kinds := [], alts := [], laidByText := true, laidKinds := [.data, .data, .data, .data, .data, .data], laidTests := true, laidLooks := .later }
def LinkRestsCardSaid : Prop := Claim7.holds Tryz.pinned (.plain (OpenSpec.ofChange linkRestsSpec)) linkRestsCard

/-- THE TIED CARD OF 'remitterlaw18.LinkWaits'. -/
def linkWaitsCard : Claim7 := { stood := { row := linkWaitsRow, standIns := [], harness := (true, "fcc2aa0a5c6cf46cae400144342660f6f4b861ed15f289ee979601d863b97362"), looks := true }, kinds := [], alts := [], laidByText := true, laidKinds := [.data, .data, .data, .data, .data, .data], laidTests := true, laidLooks := .later }
def LinkWaitsCardSaid : Prop := Claim7.holds Tryz.pinned (.plain (OpenSpec.ofChange linkWaitsSpec)) linkWaitsCard

/-- THE TIED CARD OF 'remitterlaw20.NodeCloses'. -/
def nodeClosesCard : Claim7 := { stood := { row := nodeClosesRow, standIns := [], harness := (true, "fcc2aa0a5c6cf46cae400144342660f6f4b861ed15f289ee979601d863b97362"), looks := true }, kinds := [], alts := [], laidByText := true, laidKinds := [.data, .data, .data, .data, .data, .data], laidTests := true, laidLooks := .later }
def NodeClosesCardSaid : Prop := Claim7.holds Tryz.pinned (.plain (OpenSpec.ofChange nodeClosesSpec)) nodeClosesCard

/-- THE TIED CARD OF 'remitterlaw20.NodeFunds'. -/
def nodeFundsCard : Claim7 := { stood := { row := nodeFundsRow, standIns := [], harness := (true, "fcc2aa0a5c6cf46cae400144342660f6f4b861ed15f289ee979601d863b97362"), looks := true }, kinds := [], alts := [], laidByText := true, laidKinds := [.data, .data, .data, .data, .data, .data], laidTests := true, laidLooks := .later }
def NodeFundsCardSaid : Prop := Claim7.holds Tryz.pinned (.plain (OpenSpec.ofChange nodeFundsSpec)) nodeFundsCard

/-- THE SECOND FORM's CARD OF 'remitterlaw18.LinkEvents'. -/
def linkEventsUptoCard : Claim7 := { stood := { row := linkEventsUptoRow, standIns := [], harness := (true, "fcc2aa0a5c6cf46cae400144342660f6f4b861ed15f289ee979601d863b97362"), looks := true }, kinds := [], alts := [], laidByText := true, laidKinds := [.data, .data, .data, .data, .data, .data], laidTests := true, laidLooks := .later }
def LinkEventsUptoCardSaid : Prop := Claim7.holds Tryz.pinned (.plain (OpenSpec.upto linkEventsSpec)) linkEventsUptoCard

/-- THE SECOND FORM's CARD OF 'remitterlaw18.LinkBroken'. -/
def linkBrokenUptoCard : Claim7 := { stood := { row := linkBrokenUptoRow, standIns := [], harness := (true, "fcc2aa0a5c6cf46cae400144342660f6f4b861ed15f289ee979601d863b97362"), looks := true }, kinds := [], alts := [], laidByText := true, laidKinds := [.data, .data, .data, .data, .data, .data], laidTests := true, laidLooks := .later }
def LinkBrokenUptoCardSaid : Prop := Claim7.holds Tryz.pinned (.plain (OpenSpec.upto linkBrokenSpec)) linkBrokenUptoCard

/-- THE SECOND FORM's CARD OF 'remitterlaw18.LinkRests'. -/
def linkRestsUptoCard : Claim7 := { stood := { row := linkRestsUptoRow, standIns := [], harness := (true, "fcc2aa0a5c6cf46cae400144342660f6f4b861ed15f289ee979601d863b97362"), looks := true }, kinds := [], alts := [], laidByText := true, laidKinds := [.data, .data, .data, .data, .data, .data], laidTests := true, laidLooks := .later }
def LinkRestsUptoCardSaid : Prop := Claim7.holds Tryz.pinned (.plain (OpenSpec.upto linkRestsSpec)) linkRestsUptoCard

/-- THE SECOND FORM's CARD OF 'remitterlaw18.LinkWaits'. -/
def linkWaitsUptoCard : Claim7 := { stood := { row := linkWaitsUptoRow, standIns := [], harness := (true, "fcc2aa0a5c6cf46cae400144342660f6f4b861ed15f289ee979601d863b97362"), looks := true }, kinds := [], alts := [], laidByText := true, laidKinds := [.data, .data, .data, .data, .data, .data], laidTests := true, laidLooks := .later }
def LinkWaitsUptoCardSaid : Prop := Claim7.holds Tryz.pinned (.plain (OpenSpec.upto linkWaitsSpec)) linkWaitsUptoCard

/-- THE SECOND FORM's CARD OF 'remitterlaw20.NodeCloses'. -/
def nodeClosesUptoCard : Claim7 := { stood := { row := nodeClosesUptoRow, standIns := [], harness := (true, "fcc2aa0a5c6cf46cae400144342660f6f4b861ed15f289ee979601d863b97362"), looks := true }, kinds := [], alts := [], laidByText := true, laidKinds := [.data, .data, .data, .data, .data, .data], laidTests := true, laidLooks := .later }
def NodeClosesUptoCardSaid : Prop := Claim7.holds Tryz.pinned (.plain (OpenSpec.upto nodeClosesSpec)) nodeClosesUptoCard

/-- THE SECOND FORM's CARD OF 'remitterlaw20.NodeFunds'. -/
def nodeFundsUptoCard : Claim7 := { stood := { row := nodeFundsUptoRow, standIns := [], harness := (true, "fcc2aa0a5c6cf46cae400144342660f6f4b861ed15f289ee979601d863b97362"), looks := true }, kinds := [], alts := [], laidByText := true, laidKinds := [.data, .data, .data, .data, .data, .data], laidTests := true, laidLooks := .later }
def NodeFundsUptoCardSaid : Prop := Claim7.holds Tryz.pinned (.plain (OpenSpec.upto nodeFundsSpec)) nodeFundsUptoCard
end Rows
end Go.Proofs.YtfmkdoachjgjbaaGreatDoor
