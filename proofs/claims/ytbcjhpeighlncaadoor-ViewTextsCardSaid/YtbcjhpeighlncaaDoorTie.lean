/-
  DERIVED. GIVEN WITH THE SEED: THE PROGRAM's TIES (one call each: nine closed facts by the kernel) AND EACH ROW's TIE, after the 31st guide's Derived/Test/Toyas{Tie, Card}.lean. No idea stands in it: it is a product of the set-up. Laid BY PROGRAM, IN A SANDBOX (cutbox-door.mjs). By AI agents, Wed Nov 11 2026. No macro, syntax, notation, axiom, sorry.
-/
import Derived.Test.YtbcjhpeighlncaaDoorRows
import Derived.LaidByTextLater
import Derived.SevenTiedAt
import Derived.LaidSub
import Derived.LaidOnce
namespace Go.Proofs.YtbcjhpeighlncaaDoor
open Go
set_option maxRecDepth 100000
theorem seatTie1 : Tryd.prog.laidByTextLater [("remitter/digest.begin", Rows.laid_remitter_digest_begin), ("remitter/digest.table", Rows.laid_remitter_digest_table), ("remitter/htlc.events", Rows.laid_remitter_htlc_events), ("remitter/htlc.spans", Rows.laid_remitter_htlc_spans)] [.data, .data, .data, .data] true :=
  Program.laidByTextLater_by_one 33 8 65 (by kernel_rfl) (by kernel_rfl) (by kernel_rfl) (by kernel_rfl) (by kernel_rfl) (by kernel_rfl) (fun _ _ => by kernel_rfl)
theorem noOwnUnsafe : Tryd.pinned.checked.prog.headLifts.contains "ownunsafe" = false := by kernel_rfl
theorem tie : Tryd.prog.laidByTextLater [("remitter/htlc.spans", Rows.laid_remitter_htlc_spans)] [.data] true :=
  Program.laidByTextLater.sub seatTie1 ["remitter/htlc.spans"] (by kernel_rfl) (by kernel_rfl)
theorem viewMirror_row_tie : Rows.viewMirrorRow.laidByTextAt .later Tryd.pinned [.data] true :=
  OpenClaim.laidByTextAt_later rfl rfl tie noOwnUnsafe
theorem viewOrder_row_tie : Rows.viewOrderRow.laidByTextAt .later Tryd.pinned [.data] true :=
  OpenClaim.laidByTextAt_later rfl rfl tie noOwnUnsafe
theorem tie2 : Tryd.prog.laidByTextLater [("remitter/htlc.events", Rows.laid_remitter_htlc_events), ("remitter/htlc.spans", Rows.laid_remitter_htlc_spans)] [.data, .data] true :=
  Program.laidByTextLater.sub seatTie1 ["remitter/htlc.events", "remitter/htlc.spans"] (by kernel_rfl) (by kernel_rfl)
theorem viewSigned_row_tie : Rows.viewSignedRow.laidByTextAt .later Tryd.pinned [.data, .data] true :=
  OpenClaim.laidByTextAt_later rfl rfl tie2 noOwnUnsafe
theorem viewTotal_row_tie : Rows.viewTotalRow.laidByTextAt .later Tryd.pinned [.data, .data] true :=
  OpenClaim.laidByTextAt_later rfl rfl tie2 noOwnUnsafe
theorem viewTells_row_tie : Rows.viewTellsRow.laidByTextAt .later Tryd.pinned [.data, .data] true :=
  OpenClaim.laidByTextAt_later rfl rfl tie2 noOwnUnsafe
theorem tie3 : Tryd.prog.laidByTextLater [("remitter/digest.begin", Rows.laid_remitter_digest_begin), ("remitter/digest.table", Rows.laid_remitter_digest_table), ("remitter/htlc.spans", Rows.laid_remitter_htlc_spans)] [.data, .data, .data] true :=
  Program.laidByTextLater.sub seatTie1 ["remitter/digest.begin", "remitter/digest.table", "remitter/htlc.spans"] (by kernel_rfl) (by kernel_rfl)
theorem viewTexts_row_tie : Rows.viewTextsRow.laidByTextAt .later Tryd.pinned [.data, .data, .data] true :=
  OpenClaim.laidByTextAt_later rfl rfl tie3 noOwnUnsafe
theorem viewMirrorUpto_row_tie : Rows.viewMirrorUptoRow.laidByTextAt .later Tryd.pinned [.data] true :=
  OpenClaim.laidByTextAt_later rfl rfl tie noOwnUnsafe
theorem viewOrderUpto_row_tie : Rows.viewOrderUptoRow.laidByTextAt .later Tryd.pinned [.data] true :=
  OpenClaim.laidByTextAt_later rfl rfl tie noOwnUnsafe
theorem viewSignedUpto_row_tie : Rows.viewSignedUptoRow.laidByTextAt .later Tryd.pinned [.data, .data] true :=
  OpenClaim.laidByTextAt_later rfl rfl tie2 noOwnUnsafe
theorem viewTotalUpto_row_tie : Rows.viewTotalUptoRow.laidByTextAt .later Tryd.pinned [.data, .data] true :=
  OpenClaim.laidByTextAt_later rfl rfl tie2 noOwnUnsafe
theorem viewTellsUpto_row_tie : Rows.viewTellsUptoRow.laidByTextAt .later Tryd.pinned [.data, .data] true :=
  OpenClaim.laidByTextAt_later rfl rfl tie2 noOwnUnsafe
theorem viewTextsUpto_row_tie : Rows.viewTextsUptoRow.laidByTextAt .later Tryd.pinned [.data, .data, .data] true :=
  OpenClaim.laidByTextAt_later rfl rfl tie3 noOwnUnsafe
end Go.Proofs.YtbcjhpeighlncaaDoor
