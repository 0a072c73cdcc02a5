/-
  DERIVED. GIVEN WITH THE SEED: THE CARDS: each row of YtjpmomdechibmaaGreatDoorRows.lean that lists a variable, with what it lists TIED to the program's text (the seventh form; the later family's looks); each row that meets fmt, with fmt's text TOLD by the authors' own Lean function (tested against real Go, not proved from fmt's source: count such statements apart). THE CARD IS WHAT COUNTS. Prove the row's statement (the work); the ties are given (YtjpmomdechibmaaGreatDoorTie.lean); close each card by the builder's one call (the guide's Derived/Test/ToyasCard.lean, 'card_holds'). Laid BY PROGRAM, IN A SANDBOX (cutbox-door.mjs). By AI agents, Wed Nov 11 2026. No macro, syntax, notation, axiom, sorry.
-/
import Derived.Test.YtjpmomdechibmaaGreatDoorRows
import GoSem.ClaimSeven
namespace Go.Proofs.YtjpmomdechibmaaGreatDoor
namespace Rows

/-- THE TIED CARD OF 'remitterlaw13.ChannelTurned'. -/
def channelTurnedCard : Claim7 := { stood := { row := channelTurnedRow, standIns := [], harness := (true, "918b358d32a49fe55ff206991bb1d55e2f26d85e327efbd98f13749d4d018075"), looks := false }, kinds := [], alts := [], laidByText := true, laidKinds := [.data, .data, .data, .data, .data, .data], laidTests := true, laidLooks := .later }
def ChannelTurnedCardSaid : Prop := Claim7.holds Tryz.pinned (.plain (OpenSpec.ofChange channelTurnedSpec)) channelTurnedCard

/-- THE TIED CARD OF 'remitterlaw13.ChannelMany'. -/
def channelManyCard : Claim7 := { stood := { row := channelManyRow, standIns := [], harness := (true, "918b358d32a49fe55ff206991bb1d55e2f26d85e327efbd98f13749d4d018075"), looks := false }, kinds := [], alts := [], laidByText := true, laidKinds := [.data, .data, .data, .data, .data, .data], laidTests := true, laidLooks := .later }
def ChannelManyCardSaid : Prop := Claim7.holds Tryz.pinned (.plain (OpenSpec.ofChange channelManySpec)) channelManyCard

/-- THE TIED CARD OF 'remitterlaw13.ChannelMay'. -/
def channelMayCard : Claim7 := { stood := { row := channelMayRow, standIns := [], harness := (true, "918b358d32a49fe55ff206991bb1d55e2f26d85e327efbd98f13749d4d018075"), looks := false }, kinds := [], alts := [], laidByText := true, laidKinds := [.data, .data, .data, .data, .data, .data], laidTests := true, laidLooks := .later }
def ChannelMayCardSaid : Prop := Claim7.holds Tryz.pinned (.plain (OpenSpec.ofChange channelMaySpec)) channelMayCard

/-- THE TIED CARD OF 'remitterlaw13.ChannelSecrets'. -/
def channelSecretsCard : Claim7 := { stood := { row := channelSecretsRow, standIns := [], harness := (true, "918b358d32a49fe55ff206991bb1d55e2f26d85e327efbd98f13749d4d018075"), looks := false }, kinds := [], alts := [], laidByText := true, laidKinds := [.data, .data, .data, .data, .data, .data], laidTests := true, laidLooks := .later }
def ChannelSecretsCardSaid : Prop := Claim7.holds Tryz.pinned (.plain (OpenSpec.ofChange channelSecretsSpec)) channelSecretsCard

/-- THE TIED CARD OF 'remitterlaw13.ChannelPays'. -/
def channelPaysCard : Claim7 := { stood := { row := channelPaysRow, standIns := [], harness := (true, "918b358d32a49fe55ff206991bb1d55e2f26d85e327efbd98f13749d4d018075"), looks := false }, kinds := [], alts := [], laidByText := true, laidKinds := [.data, .data, .data, .data, .data, .data], laidTests := true, laidLooks := .later }
def ChannelPaysCardSaid : Prop := Claim7.holds Tryz.pinned (.plain (OpenSpec.ofChange channelPaysSpec)) channelPaysCard

/-- THE TIED CARD OF 'remitterlaw13.ChannelHears'. -/
def channelHearsCard : Claim7 := { stood := { row := channelHearsRow, standIns := [], harness := (true, "918b358d32a49fe55ff206991bb1d55e2f26d85e327efbd98f13749d4d018075"), looks := false }, kinds := [], alts := [], laidByText := true, laidKinds := [.data, .data, .data, .data, .data, .data], laidTests := true, laidLooks := .later }
def ChannelHearsCardSaid : Prop := Claim7.holds Tryz.pinned (.plain (OpenSpec.ofChange channelHearsSpec)) channelHearsCard

/-- THE TIED CARD OF 'remitterlaw13.ChannelRests'. -/
def channelRestsCard : Claim7 := { stood := { row := channelRestsRow, standIns := [], harness := (true, "918b358d32a49fe55ff206991bb1d55e2f26d85e327efbd98f13749d4d018075"), looks := false }, kinds := [], alts := [], laidByText := true, laidKinds := [.data, .data, .data, .data, .data, .data], laidTests := true, laidLooks := .later }
def ChannelRestsCardSaid : Prop := Claim7.holds Tryz.pinned (.plain (OpenSpec.ofChange channelRestsSpec)) channelRestsCard

/-- THE TIED CARD OF 'remitterlaw13.ChannelShuts'. -/
def channelShutsCard : Claim7 := { stood := { row := channelShutsRow, standIns := [], harness := (true, "918b358d32a49fe55ff206991bb1d55e2f26d85e327efbd98f13749d4d018075"), looks := false }, kinds := [], alts := [], laidByText := true, laidKinds := [.data, .data, .data, .data, .data, .data], laidTests := true, laidLooks := .later }
def ChannelShutsCardSaid : Prop := Claim7.holds Tryz.pinned (.plain (OpenSpec.ofChange channelShutsSpec)) channelShutsCard

/-- THE SECOND FORM's CARD OF 'remitterlaw13.ChannelTurned'. -/
def channelTurnedUptoCard : Claim7 := { stood := { row := channelTurnedUptoRow, standIns := [], harness := (true, "918b358d32a49fe55ff206991bb1d55e2f26d85e327efbd98f13749d4d018075"), looks := false }, kinds := [], alts := [], laidByText := true, laidKinds := [.data, .data, .data, .data, .data, .data], laidTests := true, laidLooks := .later }
def ChannelTurnedUptoCardSaid : Prop := Claim7.holds Tryz.pinned (.plain (OpenSpec.upto channelTurnedSpec)) channelTurnedUptoCard

/-- THE SECOND FORM's CARD OF 'remitterlaw13.ChannelMany'. -/
def channelManyUptoCard : Claim7 := { stood := { row := channelManyUptoRow, standIns := [], harness := (true, "918b358d32a49fe55ff206991bb1d55e2f26d85e327efbd98f13749d4d018075"), looks := false }, kinds := [], alts := [], laidByText := true, laidKinds := [.data, .data, .data, .data, .data, .data], laidTests := true, laidLooks := .later }
def ChannelManyUptoCardSaid : Prop := Claim7.holds Tryz.pinned (.plain (OpenSpec.upto channelManySpec)) channelManyUptoCard

/-- THE SECOND FORM's CARD OF 'remitterlaw13.ChannelMay'. -/
def channelMayUptoCard : Claim7 := { stood := { row := channelMayUptoRow, standIns := [], harness := (true, "918b358d32a49fe55ff206991bb1d55e2f26d85e327efbd98f13749d4d018075"), looks := false }, kinds := [], alts := [], laidByText := true, laidKinds := [.data, .data, .data, .data, .data, .data], laidTests := true, laidLooks := .later }
def ChannelMayUptoCardSaid : Prop := Claim7.holds Tryz.pinned (.plain (OpenSpec.upto channelMaySpec)) channelMayUptoCard

/-- THE SECOND FORM's CARD OF 'remitterlaw13.ChannelSecrets'. -/
def channelSecretsUptoCard : Claim7 := { stood := { row := channelSecretsUptoRow, standIns := [], harness := (true, "918b358d32a49fe55ff206991bb1d55e2f26d85e327efbd98f13749d4d018075"), looks := false }, kinds := [], alts := [], laidByText := true, laidKinds := [.data, .data, .data, .data, .data, .data], laidTests := true, laidLooks := .later }
def ChannelSecretsUptoCardSaid : Prop := Claim7.holds Tryz.pinned (.plain (OpenSpec.upto channelSecretsSpec)) channelSecretsUptoCard

/-- THE SECOND FORM's CARD OF 'remitterlaw13.ChannelPays'. -/
def channelPaysUptoCard : Claim7 := { stood := { row := channelPaysUptoRow, standIns := [], harness := (true, "918b358d32a49fe55ff206991bb1d55e2f26d85e327efbd98f13749d4d018075"), looks := false }, kinds := [], alts := [], laidByText := true, laidKinds := [.data, .data, .data, .data, .data, .data], laidTests := true, laidLooks := .later }
def ChannelPaysUptoCardSaid : Prop := Claim7.holds Tryz.pinned (.plain (OpenSpec.upto channelPaysSpec)) channelPaysUptoCard

/-- THE SECOND FORM's CARD OF 'remitterlaw13.ChannelHears'. -/
def channelHearsUptoCard : Claim7 := { stood := { row := channelHearsUptoRow, standIns := [], harness := (true, "918b358d32a49fe55ff206991bb1d55e2f26d85e327efbd98f13749d4d018075"), looks := false }, kinds := [], alts := [], laidByText := true, laidKinds := [.data, .data, .data, .data, .data, .data], laidTests := true, laidLooks := .later }
def ChannelHearsUptoCardSaid : Prop := Claim7.holds Tryz.pinned (.plain (OpenSpec.upto channelHearsSpec)) channelHearsUptoCard

/-- THE SECOND FORM's CARD OF 'remitterlaw13.ChannelRests'. -/
def channelRestsUptoCard : Claim7 := { stood := { row := channelRestsUptoRow, standIns := [], harness := (true, "918b358d32a49fe55ff206991bb1d55e2f26d85e327efbd98f13749d4d018075"), looks := false }, kinds := [], alts := [], laidByText := true, laidKinds := [.data, .data, .data, .data, .data, .data], laidTests := true, laidLooks := .later }
def ChannelRestsUptoCardSaid : Prop := Claim7.holds Tryz.pinned (.plain (OpenSpec.upto channelRestsSpec)) channelRestsUptoCard

/-- THE SECOND FORM's CARD OF 'remitterlaw13.ChannelShuts'. -/
def channelShutsUptoCard : Claim7 := { stood := { row := channelShutsUptoRow, standIns := [], harness := (true, "918b358d32a49fe55ff206991bb1d55e2f26d85e327efbd98f13749d4d018075"), looks := false }, kinds := [], alts := [], laidByText := true, laidKinds := [.data, .data, .data, .data, .data, .data], laidTests := true, laidLooks := .later }
def ChannelShutsUptoCardSaid : Prop := Claim7.holds Tryz.pinned (.plain (OpenSpec.upto channelShutsSpec)) channelShutsUptoCard
end Rows
end Go.Proofs.YtjpmomdechibmaaGreatDoor
