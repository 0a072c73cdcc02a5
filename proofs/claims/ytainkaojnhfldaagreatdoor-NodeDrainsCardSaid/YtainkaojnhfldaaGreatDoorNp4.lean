/-
  The law NodePays, walked.
-/
import Derived.Test.YtainkaojnhfldaaGreatDoorMej
set_option linter.unusedVariables false
set_option linter.unusedSimpArgs false
namespace Go.Proofs.YtainkaojnhfldaaGreatDoor
open Go.RowKit

theorem bd_row4 (c a b p : Int) (w : World) : (bdRow3 #[(0, .int .u32 c), (1, .int .u64 a), (2, .int .u64 b), (3, .int .u64 p)]).run Tryz.prog w = .ok (.agg (RowV.cells ⟨c, a, b, p, false⟩).toArray) w := run_build w _ _ _ (by kernel_rfl)
theorem offer_good {c : Ch} {n x : Int} {h : Vector Int 32} (he : offerErr c n x = 0) : (c.offer n h x).1 = (c.offered n h x).say (offerMsg c n h x) := by
  unfold Ch.offer
  rw [if_pos he]
attribute [local go_sem ↓ high] bd_set_fold bd_row3_fold eq_row_fold ld_row_fold bd_hsh_fold
attribute [local go_sem] bd_set3 bd_row4 ld_row rowN_drew bd_hsh
end Go.Proofs.YtainkaojnhfldaaGreatDoor
