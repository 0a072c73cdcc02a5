/-
  DERIVED. GIVEN WITH THE SEED: THE CARDS: each row of YtbcjhpeighlncaaDoorRows.lean that lists a variable, with what it lists TIED to the program's text (the seventh form; the later family's looks); each row that meets fmt, with fmt's text TOLD by the authors' own Lean function (tested against real Go, not proved from fmt's source: count such statements apart). THE CARD IS WHAT COUNTS. Prove the row's statement (the work); the ties are given (YtbcjhpeighlncaaDoorTie.lean); close each card by the builder's one call (the guide's Derived/Test/ToyasCard.lean, 'card_holds'). Laid BY PROGRAM, IN A SANDBOX (cutbox-door.mjs). By AI agents, Wed Nov 11 2026. No macro, syntax, notation, axiom, sorry.
-/
import Derived.Test.YtbcjhpeighlncaaDoorRows
import GoSem.ClaimSeven
namespace Go.Proofs.YtbcjhpeighlncaaDoor
namespace Rows

/-- THE TIED CARD OF 'remitterlaw12.ViewMirror'. -/
def viewMirrorCard : Claim7 := { stood := { row := viewMirrorRow, standIns := [], harness := (true, "a71c7ff0ec0958472130aa08df820156ab8ed65b79d915de6ae75173afd39df9"), looks := false }, kinds := [], alts := [], laidByText := true, laidKinds := [.data], laidTests := true, laidLooks := .later }
def ViewMirrorCardSaid : Prop := Claim7.holds Tryd.pinned (.plain (OpenSpec.ofChange viewMirrorSpec)) viewMirrorCard

/-- THE TIED CARD OF 'remitterlaw12.ViewOrder'. -/
def viewOrderCard : Claim7 := { stood := { row := viewOrderRow, standIns := [], harness := (true, "a71c7ff0ec0958472130aa08df820156ab8ed65b79d915de6ae75173afd39df9"), looks := false }, kinds := [], alts := [], laidByText := true, laidKinds := [.data], laidTests := true, laidLooks := .later }
def ViewOrderCardSaid : Prop := Claim7.holds Tryd.pinned (.plain (OpenSpec.ofChange viewOrderSpec)) viewOrderCard

/-- THE TIED CARD OF 'remitterlaw12.ViewSigned'. -/
def viewSignedCard : Claim7 := { stood := { row := viewSignedRow, standIns := [], harness := (true, "a71c7ff0ec0958472130aa08df820156ab8ed65b79d915de6ae75173afd39df9"), looks := false }, kinds := [], alts := [], laidByText := true, laidKinds := [.data, .data], laidTests := true, laidLooks := .later }
def ViewSignedCardSaid : Prop := Claim7.holds Tryd.pinned (.plain (OpenSpec.ofChange viewSignedSpec)) viewSignedCard

/-- THE TIED CARD OF 'remitterlaw12.ViewTotal'. -/
def viewTotalCard : Claim7 := { stood := { row := viewTotalRow, standIns := [], harness := (true, "a71c7ff0ec0958472130aa08df820156ab8ed65b79d915de6ae75173afd39df9"), looks := false }, kinds := [], alts := [], laidByText := true, laidKinds := [.data, .data], laidTests := true, laidLooks := .later }
def ViewTotalCardSaid : Prop := Claim7.holds Tryd.pinned (.plain (OpenSpec.ofChange viewTotalSpec)) viewTotalCard

/-- THE TIED CARD OF 'remitterlaw12.ViewTells'. -/
def viewTellsCard : Claim7 := { stood := { row := viewTellsRow, standIns := [], harness := (true, "a71c7ff0ec0958472130aa08df820156ab8ed65b79d915de6ae75173afd39df9"), looks := false }, kinds := [], alts := [], laidByText := true, laidKinds := [.data, .data], laidTests := true, laidLooks := .later }
def ViewTellsCardSaid : Prop := Claim7.holds Tryd.pinned (.plain (OpenSpec.ofChange viewTellsSpec)) viewTellsCard

/-- THE TIED CARD OF 'remitterlaw12.ViewTexts'. -/
def viewTextsCard : Claim7 := { stood := { row := viewTextsRow, standIns := [], harness := (true, "a71c7ff0ec0958472130aa08df820156ab8ed65b79d915de6ae75173afd39df9"), looks := false }, kinds := [], alts := [], laidByText := true, laidKinds := [.data, .data, .data], laidTests := true, laidLooks := .later }
def ViewTextsCardSaid : Prop := Claim7.holds Tryd.pinned (.plain (OpenSpec.ofChange viewTextsSpec)) viewTextsCard

/-- THE SECOND FORM's CARD OF 'remitterlaw12.ViewMirror'. -/
def viewMirrorUptoCard : Claim7 := { stood := { row := viewMirrorUptoRow, standIns := [], harness := (true, "a71c7ff0ec0958472130aa08df820156ab8ed65b79d915de6ae75173afd39df9"), looks := false }, kinds := [], alts := [], laidByText := true, laidKinds := [.data], laidTests := true, laidLooks := .later }
def ViewMirrorUptoCardSaid : Prop := Claim7.holds Tryd.pinned (.plain (OpenSpec.upto viewMirrorSpec)) viewMirrorUptoCard

/-- THE SECOND FORM's CARD OF 'remitterlaw12.ViewOrder'. -/
def viewOrderUptoCard : Claim7 := { stood := { row := viewOrderUptoRow, standIns := [], harness := (true, "a71c7ff0ec0958472130aa08df820156ab8ed65b79d915de6ae75173afd39df9"), looks := false }, kinds := [], alts := [], laidByText := true, laidKinds := [.data], laidTests := true, laidLooks := .later }
def ViewOrderUptoCardSaid : Prop := Claim7.holds Tryd.pinned (.plain (OpenSpec.upto viewOrderSpec)) viewOrderUptoCard

/-- THE SECOND FORM's CARD OF 'remitterlaw12.ViewSigned'. -/
def viewSignedUptoCard : Claim7 := { stood := { row := viewSignedUptoRow, standIns := [], harness := (true, "a71c7ff0ec0958472130aa08df820156ab8ed65b79d915de6ae75173afd39df9"), looks := false }, kinds := [], alts := [], laidByText := true, laidKinds := [.data, .data], laidTests := true, laidLooks := .later }
def ViewSignedUptoCardSaid : Prop := Claim7.holds Tryd.pinned (.plain (OpenSpec.upto viewSignedSpec)) viewSignedUptoCard

/-- THE SECOND FORM's CARD OF 'remitterlaw12.ViewTotal'. -/
def viewTotalUptoCard : Claim7 := { stood := { row := viewTotalUptoRow, standIns := [], harness := (true, "a71c7ff0ec0958472130aa08df820156ab8ed65b79d915de6ae75173afd39df9"), looks := false }, kinds := [], alts := [], laidByText := true, laidKinds := [.data, .data], laidTests := true, laidLooks := .later }
def ViewTotalUptoCardSaid : Prop := Claim7.holds Tryd.pinned (.plain (OpenSpec.upto viewTotalSpec)) viewTotalUptoCard

/-- THE SECOND FORM's CARD OF 'remitterlaw12.ViewTells'. -/
def viewTellsUptoCard : Claim7 := { stood := { row := viewTellsUptoRow, standIns := [], harness := (true, "a71c7ff0ec0958472130aa08df820156ab8ed65b79d915de6ae75173afd39df9"), looks := false }, kinds := [], alts := [], laidByText := true, laidKinds := [.data, .data], laidTests := true, laidLooks := .later }
def ViewTellsUptoCardSaid : Prop := Claim7.holds Tryd.pinned (.plain (OpenSpec.upto viewTellsSpec)) viewTellsUptoCard

/-- THE SECOND FORM's CARD OF 'remitterlaw12.ViewTexts'. -/
def viewTextsUptoCard : Claim7 := { stood := { row := viewTextsUptoRow, standIns := [], harness := (true, "a71c7ff0ec0958472130aa08df820156ab8ed65b79d915de6ae75173afd39df9"), looks := false }, kinds := [], alts := [], laidByText := true, laidKinds := [.data, .data, .data], laidTests := true, laidLooks := .later }
def ViewTextsUptoCardSaid : Prop := Claim7.holds Tryd.pinned (.plain (OpenSpec.upto viewTextsSpec)) viewTextsUptoCard
end Rows
end Go.Proofs.YtbcjhpeighlncaaDoor
