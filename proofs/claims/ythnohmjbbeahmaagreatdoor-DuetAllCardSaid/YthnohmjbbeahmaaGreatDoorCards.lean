/-
  DERIVED. GIVEN WITH THE SEED: THE CARDS: each row of YthnohmjbbeahmaaGreatDoorRows.lean that lists a variable, with what it lists TIED to the program's text (the seventh form; the later family's looks); each row that meets fmt, with fmt's text TOLD by the authors' own Lean function (tested against real Go, not proved from fmt's source: count such statements apart). THE CARD IS WHAT COUNTS. Prove the row's statement (the work); the ties are given (YthnohmjbbeahmaaGreatDoorTie.lean); close each card by the builder's one call (the guide's Derived/Test/ToyasCard.lean, 'card_holds'). Laid BY PROGRAM, IN A SANDBOX (cutbox-door.mjs). By AI agents, Wed Nov 11 2026. No macro, syntax, notation, axiom, sorry.
-/
import Derived.Test.YthnohmjbbeahmaaGreatDoorRows
import GoSem.ClaimSeven
namespace Go.Proofs.YthnohmjbbeahmaaGreatDoor
namespace Rows

/-- THE TIED CARD OF 'remitterlaw14.DuetAll'. -/
def duetAllCard : Claim7 := { stood := { row := duetAllRow, standIns := [], harness := (true, "0c9605cc5869ff9901bf08dc3419e7372198e45abd95ef780a8c9a729c9b4f31"), looks := false }, kinds := [], alts := [], laidByText := true, laidKinds := [.data, .data, .data, .data, .data, .data], laidTests := true, laidLooks := .later }
def DuetAllCardSaid : Prop := Claim7.holds Tryz.pinned (.plain (OpenSpec.ofChange duetAllSpec)) duetAllCard

/-- THE TIED CARD OF 'remitterlaw14.DuetHears'. -/
def duetHearsCard : Claim7 := { stood := { row := duetHearsRow, standIns := [], harness := (true, "0c9605cc5869ff9901bf08dc3419e7372198e45abd95ef780a8c9a729c9b4f31"), looks := false }, kinds := [], alts := [], laidByText := true, laidKinds := [.data, .data, .data, .data, .data, .data], laidTests := true, laidLooks := .later }
def DuetHearsCardSaid : Prop := Claim7.holds Tryz.pinned (.plain (OpenSpec.ofChange duetHearsSpec)) duetHearsCard

/-- THE TIED CARD OF 'remitterlaw14.DuetCut'. -/
def duetCutCard : Claim7 := { stood := { row := duetCutRow, standIns := [], harness := (true, "0c9605cc5869ff9901bf08dc3419e7372198e45abd95ef780a8c9a729c9b4f31"), looks := false }, kinds := [], alts := [], laidByText := true, laidKinds := [.data, .data, .data, .data, .data, .data], laidTests := true, laidLooks := .later }
def DuetCutCardSaid : Prop := Claim7.holds Tryz.pinned (.plain (OpenSpec.ofChange duetCutSpec)) duetCutCard

/-- THE TIED CARD OF 'remitterlaw14.DuetRests'. -/
def duetRestsCard : Claim7 := { stood := { row := duetRestsRow, standIns := [], harness := (true, "0c9605cc5869ff9901bf08dc3419e7372198e45abd95ef780a8c9a729c9b4f31"), looks := false }, kinds := [], alts := [], laidByText := true, laidKinds := [.data, .data, .data, .data, .data, .data], laidTests := true, laidLooks := .later }
def DuetRestsCardSaid : Prop := Claim7.holds Tryz.pinned (.plain (OpenSpec.ofChange duetRestsSpec)) duetRestsCard

/-- THE TIED CARD OF 'remitterlaw14.DuetTwice'. -/
def duetTwiceCard : Claim7 := { stood := { row := duetTwiceRow, standIns := [], harness := (true, "0c9605cc5869ff9901bf08dc3419e7372198e45abd95ef780a8c9a729c9b4f31"), looks := false }, kinds := [], alts := [], laidByText := true, laidKinds := [.data, .data, .data, .data, .data, .data], laidTests := true, laidLooks := .later }
def DuetTwiceCardSaid : Prop := Claim7.holds Tryz.pinned (.plain (OpenSpec.ofChange duetTwiceSpec)) duetTwiceCard

/-- THE SECOND FORM's CARD OF 'remitterlaw14.DuetAll'. -/
def duetAllUptoCard : Claim7 := { stood := { row := duetAllUptoRow, standIns := [], harness := (true, "0c9605cc5869ff9901bf08dc3419e7372198e45abd95ef780a8c9a729c9b4f31"), looks := false }, kinds := [], alts := [], laidByText := true, laidKinds := [.data, .data, .data, .data, .data, .data], laidTests := true, laidLooks := .later }
def DuetAllUptoCardSaid : Prop := Claim7.holds Tryz.pinned (.plain (OpenSpec.upto duetAllSpec)) duetAllUptoCard

/-- THE SECOND FORM's CARD OF 'remitterlaw14.DuetHears'. -/
def duetHearsUptoCard : Claim7 := { stood := { row := duetHearsUptoRow, standIns := [], harness := (true, "0c9605cc5869ff9901bf08dc3419e7372198e45abd95ef780a8c9a729c9b4f31"), looks := false }, kinds := [], alts := [], laidByText := true, laidKinds := [.data, .data, .data, .data, .data, .data], laidTests := true, laidLooks := .later }
def DuetHearsUptoCardSaid : Prop := Claim7.holds Tryz.pinned (.plain (OpenSpec.upto duetHearsSpec)) duetHearsUptoCard

/-- THE SECOND FORM's CARD OF 'remitterlaw14.DuetCut'. -/
def duetCutUptoCard : Claim7 := { stood := { row := duetCutUptoRow, standIns := [], harness := (true, "0c9605cc5869ff9901bf08dc3419e7372198e45abd95ef780a8c9a729c9b4f31"), looks := false }, kinds := [], alts := [], laidByText := true, laidKinds := [.data, .data, .data, .data, .data, .data], laidTests := true, laidLooks := .later }
def DuetCutUptoCardSaid : Prop := Claim7.holds Tryz.pinned (.plain (OpenSpec.upto duetCutSpec)) duetCutUptoCard

/-- THE SECOND FORM's CARD OF 'remitterlaw14.DuetRests'. -/
def duetRestsUptoCard : Claim7 := { stood := { row := duetRestsUptoRow, standIns := [], harness := (true, "0c9605cc5869ff9901bf08dc3419e7372198e45abd95ef780a8c9a729c9b4f31"), looks := false }, kinds := [], alts := [], laidByText := true, laidKinds := [.data, .data, .data, .data, .data, .data], laidTests := true, laidLooks := .later }
def DuetRestsUptoCardSaid : Prop := Claim7.holds Tryz.pinned (.plain (OpenSpec.upto duetRestsSpec)) duetRestsUptoCard

/-- THE SECOND FORM's CARD OF 'remitterlaw14.DuetTwice'. -/
def duetTwiceUptoCard : Claim7 := { stood := { row := duetTwiceUptoRow, standIns := [], harness := (true, "0c9605cc5869ff9901bf08dc3419e7372198e45abd95ef780a8c9a729c9b4f31"), looks := false }, kinds := [], alts := [], laidByText := true, laidKinds := [.data, .data, .data, .data, .data, .data], laidTests := true, laidLooks := .later }
def DuetTwiceUptoCardSaid : Prop := Claim7.holds Tryz.pinned (.plain (OpenSpec.upto duetTwiceSpec)) duetTwiceUptoCard
end Rows
end Go.Proofs.YthnohmjbbeahmaaGreatDoor
