/-
  NARROWER THAN 'FOR EVERY INPUT', by the rows' own cells (each row's printed sentence says how): ChannelTurned: laid · ChannelMany: laid · ChannelMay: laid · ChannelSecrets: laid · ChannelPays: laid · ChannelHears: laid · ChannelRests: laid · ChannelShuts: laid.
  DERIVED. THE GIVEN ROWS OF THIS SEAT. 8 by the template 'for every input the law returns true; each argument reads behind the call as it read before'; 0 by the template 'total and deterministic' (their statements: YtjpmomdechibmaaGreatDoorTotals.lean).
  GIVEN WITH THE SEED: the statements are not yours to turn. If you find one false, say at which input.
  Laid BY PROGRAM, IN A SANDBOX (cutbox-rows.mjs): the forced cells as the released guide's own fill.sh prints them over the translation c83087578b5b1800… (all of the seat's roots in one cut). By AI agents, Wed Nov 11 2026. No macro, syntax, notation, axiom, sorry.
-/
import Derived.Test.YtjpmomdechibmaaGreatDoorChecked
import GoSem.Claim
import GoSem.ClaimJoined
import GoSem.ClaimMapViews
import Derived.JoinedTies
import Derived.KernelRfl
namespace Go.Proofs.YtjpmomdechibmaaGreatDoor
/- THE CELL 'sum', in the pinned program and in every row, IS THE sha256 OF THE DUMP (.gsa) THAT YtjpmomdechibmaaGreatDoorProg.lean LOADS. Nothing in Lean hashes anything: it is a label: what it is worth is what the hold of that sum in a sandbox is worth. -/
noncomputable def Tryz.pinned : Pinned := { name := "ytjpmomdechibmaagreatdoor", sum := "c83087578b5b180068859c8f74a7d683851ebd177aa2c7726611ef3d5e3ebd39", checked := Tryz.checked }
namespace Rows
def none {H : Type} : Left H := { results := [], args := [] }

/- WHAT THE LISTED PACKAGE-LEVEL VARIABLES READ AS WHEN THE CALL BEGINS. Each datum BY PROGRAM (the guide's laid-datum.mjs) off the statement by which the dump's own 'gosem.cut.vars' lays the variable. In a bare row this is a premise. The card (YtjpmomdechibmaaGreatDoorCards.lean) ties it to the program's text. -/
def laid_math_bits_deBruijn32tab {H : Type} : DataW H := .agg [.lit (.int .u8 0), .lit (.int .u8 1), .lit (.int .u8 28), .lit (.int .u8 2), .lit (.int .u8 29), .lit (.int .u8 14), .lit (.int .u8 24), .lit (.int .u8 3), .lit (.int .u8 30), .lit (.int .u8 22), .lit (.int .u8 20), .lit (.int .u8 15), .lit (.int .u8 25), .lit (.int .u8 17), .lit (.int .u8 4), .lit (.int .u8 8), .lit (.int .u8 31), .lit (.int .u8 27), .lit (.int .u8 13), .lit (.int .u8 23), .lit (.int .u8 21), .lit (.int .u8 19), .lit (.int .u8 16), .lit (.int .u8 7), .lit (.int .u8 26), .lit (.int .u8 12), .lit (.int .u8 18), .lit (.int .u8 6), .lit (.int .u8 11), .lit (.int .u8 5), .lit (.int .u8 10), .lit (.int .u8 9)]
def laid_math_bits_deBruijn64tab {H : Type} : DataW H := .agg [.lit (.int .u8 0), .lit (.int .u8 1), .lit (.int .u8 56), .lit (.int .u8 2), .lit (.int .u8 57), .lit (.int .u8 49), .lit (.int .u8 28), .lit (.int .u8 3), .lit (.int .u8 61), .lit (.int .u8 58), .lit (.int .u8 42), .lit (.int .u8 50), .lit (.int .u8 38), .lit (.int .u8 29), .lit (.int .u8 17), .lit (.int .u8 4), .lit (.int .u8 62), .lit (.int .u8 47), .lit (.int .u8 59), .lit (.int .u8 36), .lit (.int .u8 45), .lit (.int .u8 43), .lit (.int .u8 51), .lit (.int .u8 22), .lit (.int .u8 53), .lit (.int .u8 39), .lit (.int .u8 33), .lit (.int .u8 30), .lit (.int .u8 24), .lit (.int .u8 18), .lit (.int .u8 12), .lit (.int .u8 5), .lit (.int .u8 63), .lit (.int .u8 55), .lit (.int .u8 48), .lit (.int .u8 27), .lit (.int .u8 60), .lit (.int .u8 41), .lit (.int .u8 37), .lit (.int .u8 16), .lit (.int .u8 46), .lit (.int .u8 35), .lit (.int .u8 44), .lit (.int .u8 21), .lit (.int .u8 52), .lit (.int .u8 32), .lit (.int .u8 23), .lit (.int .u8 11), .lit (.int .u8 54), .lit (.int .u8 26), .lit (.int .u8 40), .lit (.int .u8 15), .lit (.int .u8 34), .lit (.int .u8 20), .lit (.int .u8 31), .lit (.int .u8 10), .lit (.int .u8 25), .lit (.int .u8 14), .lit (.int .u8 19), .lit (.int .u8 9), .lit (.int .u8 13), .lit (.int .u8 8), .lit (.int .u8 7), .lit (.int .u8 6)]
def laid_remitter_digest_begin {H : Type} : DataW H := .agg [.lit (.int .u32 1779033703), .lit (.int .u32 3144134277), .lit (.int .u32 1013904242), .lit (.int .u32 2773480762), .lit (.int .u32 1359893119), .lit (.int .u32 2600822924), .lit (.int .u32 528734635), .lit (.int .u32 1541459225)]
def laid_remitter_digest_table {H : Type} : DataW H := .agg [.lit (.int .u32 1116352408), .lit (.int .u32 1899447441), .lit (.int .u32 3049323471), .lit (.int .u32 3921009573), .lit (.int .u32 961987163), .lit (.int .u32 1508970993), .lit (.int .u32 2453635748), .lit (.int .u32 2870763221), .lit (.int .u32 3624381080), .lit (.int .u32 310598401), .lit (.int .u32 607225278), .lit (.int .u32 1426881987), .lit (.int .u32 1925078388), .lit (.int .u32 2162078206), .lit (.int .u32 2614888103), .lit (.int .u32 3248222580), .lit (.int .u32 3835390401), .lit (.int .u32 4022224774), .lit (.int .u32 264347078), .lit (.int .u32 604807628), .lit (.int .u32 770255983), .lit (.int .u32 1249150122), .lit (.int .u32 1555081692), .lit (.int .u32 1996064986), .lit (.int .u32 2554220882), .lit (.int .u32 2821834349), .lit (.int .u32 2952996808), .lit (.int .u32 3210313671), .lit (.int .u32 3336571891), .lit (.int .u32 3584528711), .lit (.int .u32 113926993), .lit (.int .u32 338241895), .lit (.int .u32 666307205), .lit (.int .u32 773529912), .lit (.int .u32 1294757372), .lit (.int .u32 1396182291), .lit (.int .u32 1695183700), .lit (.int .u32 1986661051), .lit (.int .u32 2177026350), .lit (.int .u32 2456956037), .lit (.int .u32 2730485921), .lit (.int .u32 2820302411), .lit (.int .u32 3259730800), .lit (.int .u32 3345764771), .lit (.int .u32 3516065817), .lit (.int .u32 3600352804), .lit (.int .u32 4094571909), .lit (.int .u32 275423344), .lit (.int .u32 430227734), .lit (.int .u32 506948616), .lit (.int .u32 659060556), .lit (.int .u32 883997877), .lit (.int .u32 958139571), .lit (.int .u32 1322822218), .lit (.int .u32 1537002063), .lit (.int .u32 1747873779), .lit (.int .u32 1955562222), .lit (.int .u32 2024104815), .lit (.int .u32 2227730452), .lit (.int .u32 2361852424), .lit (.int .u32 2428436474), .lit (.int .u32 2756734187), .lit (.int .u32 3204031479), .lit (.int .u32 3329325298)]
def laid_remitter_htlc_events {H : Type} : DataW H := .agg [.agg [.lit (.int .i64 3), .lit (.int .i64 4), .lit (.int .i64 1), .lit (.int .i64 2), .lit (.int .i64 0), .lit (.int .i64 1), .lit (.int .i64 2), .lit (.int .i64 3), .lit (.int .i64 4), .lit (.int .i64 0)], .agg [.lit (.int .i64 1), .lit (.int .i64 2), .lit (.int .i64 3), .lit (.int .i64 4), .lit (.int .i64 0), .lit (.int .i64 3), .lit (.int .i64 4), .lit (.int .i64 1), .lit (.int .i64 2), .lit (.int .i64 0)]]
def laid_remitter_htlc_spans {H : Type} : DataW H := .agg [.agg [.lit (.int .i64 1), .lit (.int .i64 7)], .agg [.lit (.int .i64 3), .lit (.int .i64 5)]]

/-- 'remitterlaw13.ChannelTurned': WHATEVER THE INPUT: true; the input reads as it did. -/
def channelTurnedSpec : ChangeSpec := { name := "channelTurned", fn := fun _ => fun
  | [d1, d2, d3] => { results := [.lit (.bool true)], args := [d1, d2, d3] }
  | _ => none }
def channelTurnedRow : OpenClaim := { program := "ytjpmomdechibmaagreatdoor", sum := "c83087578b5b180068859c8f74a7d683851ebd177aa2c7726611ef3d5e3ebd39", func := "remitter/remitterlaw13.ChannelTurned", spec := "channelTurned", unfollowed := true, recurses := true, named := ["remitter/digest.begin", "remitter/digest.table", "remitter/htlc.events", "remitter/htlc.spans", "math/bits.deBruijn32tab", "math/bits.deBruijn64tab"], apart := false, laid := [("math/bits.deBruijn32tab", laid_math_bits_deBruijn32tab), ("math/bits.deBruijn64tab", laid_math_bits_deBruijn64tab), ("remitter/digest.begin", laid_remitter_digest_begin), ("remitter/digest.table", laid_remitter_digest_table), ("remitter/htlc.events", laid_remitter_htlc_events), ("remitter/htlc.spans", laid_remitter_htlc_spans)] }
def ChannelTurnedSaid : Prop := channelTurnedRow.holds Tryz.pinned (OpenSpec.ofChange channelTurnedSpec)

/-- ITS FALSE NEIGHBOUR: 'it returns false'. Refute it at one input. -/
def channelTurnedWrong : ChangeSpec := { name := "channelTurned", fn := fun _ => fun
  | [d1, d2, d3] => { results := [.lit (.bool false)], args := [d1, d2, d3] }
  | _ => none }
def ChannelTurnedWrongFalsely : Prop := channelTurnedRow.holds Tryz.pinned (OpenSpec.ofChange channelTurnedWrong)

/-- 'remitterlaw13.ChannelMany': WHATEVER THE INPUT: true; the input reads as it did. -/
def channelManySpec : ChangeSpec := { name := "channelMany", fn := fun _ => fun
  | [d1, d2] => { results := [.lit (.bool true)], args := [d1, d2] }
  | _ => none }
def channelManyRow : OpenClaim := { program := "ytjpmomdechibmaagreatdoor", sum := "c83087578b5b180068859c8f74a7d683851ebd177aa2c7726611ef3d5e3ebd39", func := "remitter/remitterlaw13.ChannelMany", spec := "channelMany", unfollowed := true, recurses := true, named := ["remitter/digest.begin", "remitter/digest.table", "remitter/htlc.events", "remitter/htlc.spans", "math/bits.deBruijn32tab", "math/bits.deBruijn64tab"], apart := false, laid := [("math/bits.deBruijn32tab", laid_math_bits_deBruijn32tab), ("math/bits.deBruijn64tab", laid_math_bits_deBruijn64tab), ("remitter/digest.begin", laid_remitter_digest_begin), ("remitter/digest.table", laid_remitter_digest_table), ("remitter/htlc.events", laid_remitter_htlc_events), ("remitter/htlc.spans", laid_remitter_htlc_spans)] }
def ChannelManySaid : Prop := channelManyRow.holds Tryz.pinned (OpenSpec.ofChange channelManySpec)

/-- ITS FALSE NEIGHBOUR: 'it returns false'. Refute it at one input. -/
def channelManyWrong : ChangeSpec := { name := "channelMany", fn := fun _ => fun
  | [d1, d2] => { results := [.lit (.bool false)], args := [d1, d2] }
  | _ => none }
def ChannelManyWrongFalsely : Prop := channelManyRow.holds Tryz.pinned (OpenSpec.ofChange channelManyWrong)

/-- 'remitterlaw13.ChannelMay': WHATEVER THE INPUT: true; the input reads as it did. -/
def channelMaySpec : ChangeSpec := { name := "channelMay", fn := fun _ => fun
  | [d] => { results := [.lit (.bool true)], args := [d] }
  | _ => none }
def channelMayRow : OpenClaim := { program := "ytjpmomdechibmaagreatdoor", sum := "c83087578b5b180068859c8f74a7d683851ebd177aa2c7726611ef3d5e3ebd39", func := "remitter/remitterlaw13.ChannelMay", spec := "channelMay", unfollowed := true, recurses := true, named := ["remitter/digest.begin", "remitter/digest.table", "remitter/htlc.events", "remitter/htlc.spans", "math/bits.deBruijn32tab", "math/bits.deBruijn64tab"], apart := false, laid := [("math/bits.deBruijn32tab", laid_math_bits_deBruijn32tab), ("math/bits.deBruijn64tab", laid_math_bits_deBruijn64tab), ("remitter/digest.begin", laid_remitter_digest_begin), ("remitter/digest.table", laid_remitter_digest_table), ("remitter/htlc.events", laid_remitter_htlc_events), ("remitter/htlc.spans", laid_remitter_htlc_spans)] }
def ChannelMaySaid : Prop := channelMayRow.holds Tryz.pinned (OpenSpec.ofChange channelMaySpec)

/-- ITS FALSE NEIGHBOUR: 'it returns false'. Refute it at one input. -/
def channelMayWrong : ChangeSpec := { name := "channelMay", fn := fun _ => fun
  | [d] => { results := [.lit (.bool false)], args := [d] }
  | _ => none }
def ChannelMayWrongFalsely : Prop := channelMayRow.holds Tryz.pinned (OpenSpec.ofChange channelMayWrong)

/-- 'remitterlaw13.ChannelSecrets': WHATEVER THE INPUT: true; the input reads as it did. -/
def channelSecretsSpec : ChangeSpec := { name := "channelSecrets", fn := fun _ => fun
  | [d] => { results := [.lit (.bool true)], args := [d] }
  | _ => none }
def channelSecretsRow : OpenClaim := { program := "ytjpmomdechibmaagreatdoor", sum := "c83087578b5b180068859c8f74a7d683851ebd177aa2c7726611ef3d5e3ebd39", func := "remitter/remitterlaw13.ChannelSecrets", spec := "channelSecrets", unfollowed := true, recurses := true, named := ["remitter/digest.begin", "remitter/digest.table", "remitter/htlc.events", "remitter/htlc.spans", "math/bits.deBruijn32tab", "math/bits.deBruijn64tab"], apart := false, laid := [("math/bits.deBruijn32tab", laid_math_bits_deBruijn32tab), ("math/bits.deBruijn64tab", laid_math_bits_deBruijn64tab), ("remitter/digest.begin", laid_remitter_digest_begin), ("remitter/digest.table", laid_remitter_digest_table), ("remitter/htlc.events", laid_remitter_htlc_events), ("remitter/htlc.spans", laid_remitter_htlc_spans)] }
def ChannelSecretsSaid : Prop := channelSecretsRow.holds Tryz.pinned (OpenSpec.ofChange channelSecretsSpec)

/-- ITS FALSE NEIGHBOUR: 'it returns false'. Refute it at one input. -/
def channelSecretsWrong : ChangeSpec := { name := "channelSecrets", fn := fun _ => fun
  | [d] => { results := [.lit (.bool false)], args := [d] }
  | _ => none }
def ChannelSecretsWrongFalsely : Prop := channelSecretsRow.holds Tryz.pinned (OpenSpec.ofChange channelSecretsWrong)

/-- 'remitterlaw13.ChannelPays': WHATEVER THE INPUT: true; the input reads as it did. -/
def channelPaysSpec : ChangeSpec := { name := "channelPays", fn := fun _ => fun
  | [d1, d2, d3, d4, d5] => { results := [.lit (.bool true)], args := [d1, d2, d3, d4, d5] }
  | _ => none }
def channelPaysRow : OpenClaim := { program := "ytjpmomdechibmaagreatdoor", sum := "c83087578b5b180068859c8f74a7d683851ebd177aa2c7726611ef3d5e3ebd39", func := "remitter/remitterlaw13.ChannelPays", spec := "channelPays", unfollowed := true, recurses := true, named := ["remitter/digest.begin", "remitter/digest.table", "remitter/htlc.events", "remitter/htlc.spans", "math/bits.deBruijn32tab", "math/bits.deBruijn64tab"], apart := false, laid := [("math/bits.deBruijn32tab", laid_math_bits_deBruijn32tab), ("math/bits.deBruijn64tab", laid_math_bits_deBruijn64tab), ("remitter/digest.begin", laid_remitter_digest_begin), ("remitter/digest.table", laid_remitter_digest_table), ("remitter/htlc.events", laid_remitter_htlc_events), ("remitter/htlc.spans", laid_remitter_htlc_spans)] }
def ChannelPaysSaid : Prop := channelPaysRow.holds Tryz.pinned (OpenSpec.ofChange channelPaysSpec)

/-- ITS FALSE NEIGHBOUR: 'it returns false'. Refute it at one input. -/
def channelPaysWrong : ChangeSpec := { name := "channelPays", fn := fun _ => fun
  | [d1, d2, d3, d4, d5] => { results := [.lit (.bool false)], args := [d1, d2, d3, d4, d5] }
  | _ => none }
def ChannelPaysWrongFalsely : Prop := channelPaysRow.holds Tryz.pinned (OpenSpec.ofChange channelPaysWrong)

/-- 'remitterlaw13.ChannelHears': WHATEVER THE INPUT: true; the input reads as it did. -/
def channelHearsSpec : ChangeSpec := { name := "channelHears", fn := fun _ => fun
  | [d1, d2, d3] => { results := [.lit (.bool true)], args := [d1, d2, d3] }
  | _ => none }
def channelHearsRow : OpenClaim := { program := "ytjpmomdechibmaagreatdoor", sum := "c83087578b5b180068859c8f74a7d683851ebd177aa2c7726611ef3d5e3ebd39", func := "remitter/remitterlaw13.ChannelHears", spec := "channelHears", unfollowed := true, recurses := true, named := ["remitter/digest.begin", "remitter/digest.table", "remitter/htlc.events", "remitter/htlc.spans", "math/bits.deBruijn32tab", "math/bits.deBruijn64tab"], apart := false, laid := [("math/bits.deBruijn32tab", laid_math_bits_deBruijn32tab), ("math/bits.deBruijn64tab", laid_math_bits_deBruijn64tab), ("remitter/digest.begin", laid_remitter_digest_begin), ("remitter/digest.table", laid_remitter_digest_table), ("remitter/htlc.events", laid_remitter_htlc_events), ("remitter/htlc.spans", laid_remitter_htlc_spans)] }
def ChannelHearsSaid : Prop := channelHearsRow.holds Tryz.pinned (OpenSpec.ofChange channelHearsSpec)

/-- ITS FALSE NEIGHBOUR: 'it returns false'. Refute it at one input. -/
def channelHearsWrong : ChangeSpec := { name := "channelHears", fn := fun _ => fun
  | [d1, d2, d3] => { results := [.lit (.bool false)], args := [d1, d2, d3] }
  | _ => none }
def ChannelHearsWrongFalsely : Prop := channelHearsRow.holds Tryz.pinned (OpenSpec.ofChange channelHearsWrong)

/-- 'remitterlaw13.ChannelRests': WHATEVER THE INPUT: true; the input reads as it did. -/
def channelRestsSpec : ChangeSpec := { name := "channelRests", fn := fun _ => fun
  | [d1, d2, d3] => { results := [.lit (.bool true)], args := [d1, d2, d3] }
  | _ => none }
def channelRestsRow : OpenClaim := { program := "ytjpmomdechibmaagreatdoor", sum := "c83087578b5b180068859c8f74a7d683851ebd177aa2c7726611ef3d5e3ebd39", func := "remitter/remitterlaw13.ChannelRests", spec := "channelRests", unfollowed := true, recurses := true, named := ["remitter/digest.begin", "remitter/digest.table", "remitter/htlc.events", "remitter/htlc.spans", "math/bits.deBruijn32tab", "math/bits.deBruijn64tab"], apart := false, laid := [("math/bits.deBruijn32tab", laid_math_bits_deBruijn32tab), ("math/bits.deBruijn64tab", laid_math_bits_deBruijn64tab), ("remitter/digest.begin", laid_remitter_digest_begin), ("remitter/digest.table", laid_remitter_digest_table), ("remitter/htlc.events", laid_remitter_htlc_events), ("remitter/htlc.spans", laid_remitter_htlc_spans)] }
def ChannelRestsSaid : Prop := channelRestsRow.holds Tryz.pinned (OpenSpec.ofChange channelRestsSpec)

/-- ITS FALSE NEIGHBOUR: 'it returns false'. Refute it at one input. -/
def channelRestsWrong : ChangeSpec := { name := "channelRests", fn := fun _ => fun
  | [d1, d2, d3] => { results := [.lit (.bool false)], args := [d1, d2, d3] }
  | _ => none }
def ChannelRestsWrongFalsely : Prop := channelRestsRow.holds Tryz.pinned (OpenSpec.ofChange channelRestsWrong)

/-- 'remitterlaw13.ChannelShuts': WHATEVER THE INPUT: true; the input reads as it did. -/
def channelShutsSpec : ChangeSpec := { name := "channelShuts", fn := fun _ => fun
  | [d1, d2, d3] => { results := [.lit (.bool true)], args := [d1, d2, d3] }
  | _ => none }
def channelShutsRow : OpenClaim := { program := "ytjpmomdechibmaagreatdoor", sum := "c83087578b5b180068859c8f74a7d683851ebd177aa2c7726611ef3d5e3ebd39", func := "remitter/remitterlaw13.ChannelShuts", spec := "channelShuts", unfollowed := true, recurses := true, named := ["remitter/digest.begin", "remitter/digest.table", "remitter/htlc.events", "remitter/htlc.spans", "math/bits.deBruijn32tab", "math/bits.deBruijn64tab"], apart := false, laid := [("math/bits.deBruijn32tab", laid_math_bits_deBruijn32tab), ("math/bits.deBruijn64tab", laid_math_bits_deBruijn64tab), ("remitter/digest.begin", laid_remitter_digest_begin), ("remitter/digest.table", laid_remitter_digest_table), ("remitter/htlc.events", laid_remitter_htlc_events), ("remitter/htlc.spans", laid_remitter_htlc_spans)] }
def ChannelShutsSaid : Prop := channelShutsRow.holds Tryz.pinned (OpenSpec.ofChange channelShutsSpec)

/-- ITS FALSE NEIGHBOUR: 'it returns false'. Refute it at one input. -/
def channelShutsWrong : ChangeSpec := { name := "channelShuts", fn := fun _ => fun
  | [d1, d2, d3] => { results := [.lit (.bool false)], args := [d1, d2, d3] }
  | _ => none }
def ChannelShutsWrongFalsely : Prop := channelShutsRow.holds Tryz.pinned (OpenSpec.ofChange channelShutsWrong)

/- THE SECOND FORM. 'bulk': how many values and letters a reading holds, each counted each time it is reached (what is shared counts as often as it is met; a slice's spare places count too). A statement '..UptoSaid' is the law's where the arguments, and the package variables that the reading takes, are together of bulk at most 1048576: NARROWER than '..Said'. Prove '..Said' where nothing that the law and all that it calls make is longer than what came in: it says more and counts as full. Else prove '..UptoSaid'. A law counts once. -/
mutual
def uptoBulk {H : Type} : DataW H → Nat
  | .lit (.string bytes) => bytes.length + 1
  | .lit _ => 1
  | .nil => 1
  | .ptr d => uptoBulk d + 1
  | .slice elems spare => uptoBulkAll elems + uptoBulkAll spare + 1
  | .agg parts => uptoBulkAll parts + 1
  | .iface _ d => uptoBulk d + 1
  | .map entries => uptoBulkEntries entries + 1
  | .held _ => 1
def uptoBulkAll {H : Type} : List (DataW H) → Nat
  | [] => 0
  | d :: r => uptoBulk d + uptoBulkAll r
def uptoBulkEntries {H : Type} : List (Lit × DataW H) → Nat
  | [] => 0
  | x :: r => uptoBulkEntry x + uptoBulkEntries r
def uptoBulkEntry {H : Type} : Lit × DataW H → Nat
  | (.string bytes, d) => bytes.length + uptoBulk d + 1
  | (_, d) => uptoBulk d + 1
 end
def uptoSmall : (H : Type) → List (DataW H) → Bool := fun _ ds => decide (uptoBulkAll ds ≤ 1048576)
def OpenSpec.upto (s : _root_.Go.ChangeSpec) : _root_.Go.OpenSpec := { _root_.Go.OpenSpec.ofChange s with cond := some uptoSmall }

/-- 'remitterlaw13.ChannelTurned', WHERE WHAT IT READS IS OF BULK AT MOST 1048576: true; the input reads as it did. -/
def channelTurnedUptoRow : OpenClaim := { program := "ytjpmomdechibmaagreatdoor", sum := "c83087578b5b180068859c8f74a7d683851ebd177aa2c7726611ef3d5e3ebd39", func := "remitter/remitterlaw13.ChannelTurned", spec := "channelTurned", unfollowed := true, recurses := true, named := ["remitter/digest.begin", "remitter/digest.table", "remitter/htlc.events", "remitter/htlc.spans", "math/bits.deBruijn32tab", "math/bits.deBruijn64tab"], apart := false, laid := [("math/bits.deBruijn32tab", laid_math_bits_deBruijn32tab), ("math/bits.deBruijn64tab", laid_math_bits_deBruijn64tab), ("remitter/digest.begin", laid_remitter_digest_begin), ("remitter/digest.table", laid_remitter_digest_table), ("remitter/htlc.events", laid_remitter_htlc_events), ("remitter/htlc.spans", laid_remitter_htlc_spans)], narrowed := true }
def ChannelTurnedUptoSaid : Prop := channelTurnedUptoRow.holds Tryz.pinned (OpenSpec.upto channelTurnedSpec)

/-- 'remitterlaw13.ChannelMany', WHERE WHAT IT READS IS OF BULK AT MOST 1048576: true; the input reads as it did. -/
def channelManyUptoRow : OpenClaim := { program := "ytjpmomdechibmaagreatdoor", sum := "c83087578b5b180068859c8f74a7d683851ebd177aa2c7726611ef3d5e3ebd39", func := "remitter/remitterlaw13.ChannelMany", spec := "channelMany", unfollowed := true, recurses := true, named := ["remitter/digest.begin", "remitter/digest.table", "remitter/htlc.events", "remitter/htlc.spans", "math/bits.deBruijn32tab", "math/bits.deBruijn64tab"], apart := false, laid := [("math/bits.deBruijn32tab", laid_math_bits_deBruijn32tab), ("math/bits.deBruijn64tab", laid_math_bits_deBruijn64tab), ("remitter/digest.begin", laid_remitter_digest_begin), ("remitter/digest.table", laid_remitter_digest_table), ("remitter/htlc.events", laid_remitter_htlc_events), ("remitter/htlc.spans", laid_remitter_htlc_spans)], narrowed := true }
def ChannelManyUptoSaid : Prop := channelManyUptoRow.holds Tryz.pinned (OpenSpec.upto channelManySpec)

/-- 'remitterlaw13.ChannelMay', WHERE WHAT IT READS IS OF BULK AT MOST 1048576: true; the input reads as it did. -/
def channelMayUptoRow : OpenClaim := { program := "ytjpmomdechibmaagreatdoor", sum := "c83087578b5b180068859c8f74a7d683851ebd177aa2c7726611ef3d5e3ebd39", func := "remitter/remitterlaw13.ChannelMay", spec := "channelMay", unfollowed := true, recurses := true, named := ["remitter/digest.begin", "remitter/digest.table", "remitter/htlc.events", "remitter/htlc.spans", "math/bits.deBruijn32tab", "math/bits.deBruijn64tab"], apart := false, laid := [("math/bits.deBruijn32tab", laid_math_bits_deBruijn32tab), ("math/bits.deBruijn64tab", laid_math_bits_deBruijn64tab), ("remitter/digest.begin", laid_remitter_digest_begin), ("remitter/digest.table", laid_remitter_digest_table), ("remitter/htlc.events", laid_remitter_htlc_events), ("remitter/htlc.spans", laid_remitter_htlc_spans)], narrowed := true }
def ChannelMayUptoSaid : Prop := channelMayUptoRow.holds Tryz.pinned (OpenSpec.upto channelMaySpec)

/-- 'remitterlaw13.ChannelSecrets', WHERE WHAT IT READS IS OF BULK AT MOST 1048576: true; the input reads as it did. -/
def channelSecretsUptoRow : OpenClaim := { program := "ytjpmomdechibmaagreatdoor", sum := "c83087578b5b180068859c8f74a7d683851ebd177aa2c7726611ef3d5e3ebd39", func := "remitter/remitterlaw13.ChannelSecrets", spec := "channelSecrets", unfollowed := true, recurses := true, named := ["remitter/digest.begin", "remitter/digest.table", "remitter/htlc.events", "remitter/htlc.spans", "math/bits.deBruijn32tab", "math/bits.deBruijn64tab"], apart := false, laid := [("math/bits.deBruijn32tab", laid_math_bits_deBruijn32tab), ("math/bits.deBruijn64tab", laid_math_bits_deBruijn64tab), ("remitter/digest.begin", laid_remitter_digest_begin), ("remitter/digest.table", laid_remitter_digest_table), ("remitter/htlc.events", laid_remitter_htlc_events), ("remitter/htlc.spans", laid_remitter_htlc_spans)], narrowed := true }
def ChannelSecretsUptoSaid : Prop := channelSecretsUptoRow.holds Tryz.pinned (OpenSpec.upto channelSecretsSpec)

/-- 'remitterlaw13.ChannelPays', WHERE WHAT IT READS IS OF BULK AT MOST 1048576: true; the input reads as it did. -/
def channelPaysUptoRow : OpenClaim := { program := "ytjpmomdechibmaagreatdoor", sum := "c83087578b5b180068859c8f74a7d683851ebd177aa2c7726611ef3d5e3ebd39", func := "remitter/remitterlaw13.ChannelPays", spec := "channelPays", unfollowed := true, recurses := true, named := ["remitter/digest.begin", "remitter/digest.table", "remitter/htlc.events", "remitter/htlc.spans", "math/bits.deBruijn32tab", "math/bits.deBruijn64tab"], apart := false, laid := [("math/bits.deBruijn32tab", laid_math_bits_deBruijn32tab), ("math/bits.deBruijn64tab", laid_math_bits_deBruijn64tab), ("remitter/digest.begin", laid_remitter_digest_begin), ("remitter/digest.table", laid_remitter_digest_table), ("remitter/htlc.events", laid_remitter_htlc_events), ("remitter/htlc.spans", laid_remitter_htlc_spans)], narrowed := true }
def ChannelPaysUptoSaid : Prop := channelPaysUptoRow.holds Tryz.pinned (OpenSpec.upto channelPaysSpec)

/-- 'remitterlaw13.ChannelHears', WHERE WHAT IT READS IS OF BULK AT MOST 1048576: true; the input reads as it did. -/
def channelHearsUptoRow : OpenClaim := { program := "ytjpmomdechibmaagreatdoor", sum := "c83087578b5b180068859c8f74a7d683851ebd177aa2c7726611ef3d5e3ebd39", func := "remitter/remitterlaw13.ChannelHears", spec := "channelHears", unfollowed := true, recurses := true, named := ["remitter/digest.begin", "remitter/digest.table", "remitter/htlc.events", "remitter/htlc.spans", "math/bits.deBruijn32tab", "math/bits.deBruijn64tab"], apart := false, laid := [("math/bits.deBruijn32tab", laid_math_bits_deBruijn32tab), ("math/bits.deBruijn64tab", laid_math_bits_deBruijn64tab), ("remitter/digest.begin", laid_remitter_digest_begin), ("remitter/digest.table", laid_remitter_digest_table), ("remitter/htlc.events", laid_remitter_htlc_events), ("remitter/htlc.spans", laid_remitter_htlc_spans)], narrowed := true }
def ChannelHearsUptoSaid : Prop := channelHearsUptoRow.holds Tryz.pinned (OpenSpec.upto channelHearsSpec)

/-- 'remitterlaw13.ChannelRests', WHERE WHAT IT READS IS OF BULK AT MOST 1048576: true; the input reads as it did. -/
def channelRestsUptoRow : OpenClaim := { program := "ytjpmomdechibmaagreatdoor", sum := "c83087578b5b180068859c8f74a7d683851ebd177aa2c7726611ef3d5e3ebd39", func := "remitter/remitterlaw13.ChannelRests", spec := "channelRests", unfollowed := true, recurses := true, named := ["remitter/digest.begin", "remitter/digest.table", "remitter/htlc.events", "remitter/htlc.spans", "math/bits.deBruijn32tab", "math/bits.deBruijn64tab"], apart := false, laid := [("math/bits.deBruijn32tab", laid_math_bits_deBruijn32tab), ("math/bits.deBruijn64tab", laid_math_bits_deBruijn64tab), ("remitter/digest.begin", laid_remitter_digest_begin), ("remitter/digest.table", laid_remitter_digest_table), ("remitter/htlc.events", laid_remitter_htlc_events), ("remitter/htlc.spans", laid_remitter_htlc_spans)], narrowed := true }
def ChannelRestsUptoSaid : Prop := channelRestsUptoRow.holds Tryz.pinned (OpenSpec.upto channelRestsSpec)

/-- 'remitterlaw13.ChannelShuts', WHERE WHAT IT READS IS OF BULK AT MOST 1048576: true; the input reads as it did. -/
def channelShutsUptoRow : OpenClaim := { program := "ytjpmomdechibmaagreatdoor", sum := "c83087578b5b180068859c8f74a7d683851ebd177aa2c7726611ef3d5e3ebd39", func := "remitter/remitterlaw13.ChannelShuts", spec := "channelShuts", unfollowed := true, recurses := true, named := ["remitter/digest.begin", "remitter/digest.table", "remitter/htlc.events", "remitter/htlc.spans", "math/bits.deBruijn32tab", "math/bits.deBruijn64tab"], apart := false, laid := [("math/bits.deBruijn32tab", laid_math_bits_deBruijn32tab), ("math/bits.deBruijn64tab", laid_math_bits_deBruijn64tab), ("remitter/digest.begin", laid_remitter_digest_begin), ("remitter/digest.table", laid_remitter_digest_table), ("remitter/htlc.events", laid_remitter_htlc_events), ("remitter/htlc.spans", laid_remitter_htlc_spans)], narrowed := true }
def ChannelShutsUptoSaid : Prop := channelShutsUptoRow.holds Tryz.pinned (OpenSpec.upto channelShutsSpec)

end Rows
end Go.Proofs.YtjpmomdechibmaaGreatDoor
