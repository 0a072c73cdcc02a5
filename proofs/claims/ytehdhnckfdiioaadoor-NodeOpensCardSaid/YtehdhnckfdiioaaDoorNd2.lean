/-
  link.New.
-/
import Derived.Test.YtehdhnckfdiioaaDoorNd1
namespace Go.Proofs.YtehdhnckfdiioaaDoor
open Go.RowKit

structure LinkV where
  sp : Nat
  en : Nat
  lo : Nat
  out : ByteArray
  events : Value
  ticks : Int
  dead : Bool
  broken : Bool
  waits : Bool
def ptrV (g : Nat) : Value := .pointer (some ⟨g, 0, none⟩)
def LinkV.cells (l : LinkV) : List Value := [ptrV l.sp, ptrV l.en, ptrV l.lo, .string l.out, l.events, .int .i64 l.ticks, .bool l.dead, .bool l.broken, .bool l.waits]
def LkR (w : World) (g : Nat) (l : LinkV) : Prop := w.heap[g]? = some (.cells l.cells.toArray 77 (0, 0))
/-- A splitter that holds s. -/
def SpR (w : World) (g : Nat) (s : ByteArray) : Prop := w.heap[g]? = some (.cells #[.string s] 105 (0, 0))
def LinkV.new (sp en lo : Nat) : LinkV := ⟨sp, en, lo, ⟨#[]⟩, nilV, 0, false, false, false⟩

/-- A link that is new, of a channel that is new. -/
structure NewL (w : World) (B g : Nat) (s : SetupV) (l : LinkV) : Prop where
  isNew : l = .new l.sp l.en l.lo
  lk : LkR w g l
  sp : SpR w l.sp ⟨#[]⟩
  ch : ChR w l.en (.new s)
  jo : JoR w l.lo .new
  ge : B ≤ g ∧ B ≤ l.sp ∧ B ≤ l.en ∧ B ≤ l.lo
  ne : l.en < l.lo ∧ l.lo < l.sp ∧ l.sp < g

attribute [local go_sem ↓ high] ld_setup_fold
attribute [local go_sem] ld_setup
set_option maxRecDepth 100000 in
set_option maxHeartbeats 1000000 in
theorem newL_any (s : SetupV) (hs : s.Ok) (w : World) : Calls Tryd.prog 22 #[.agg s.cells.toArray] w fun e w' =>
    (s.may ∧ ∃ g l, e = .returned (.pointer (some ⟨g, 0, none⟩)) ∧ NewL w' w.heap.size g s l ∧ New w w') ∨ (¬ s.may ∧ e = .returned (.pointer none) ∧ New w w') := by
  go_enter Tryd.func22, Tryd.ntmps22
  go_upto_region 1 with fail
  have hb : SetR (w.alloc (.cells s.cells.toArray 33)) w.heap.size s := blk_alloc _ _
  have n0 : New w (w.alloc (.cells s.cells.toArray 33)) := (Upd.refl _ _).alloc _
  generalize w.alloc (.cells s.cells.toArray 33) = w1 at hb n0 ⊢
  have hrow := hb.row hs.seed
  go_wp2_with fail
  refine (newC_any s hs _).mono ?_
  rintro e w2 (⟨hm, g, rfl, hg, hc, n2⟩ | ⟨hm, rfl, n2⟩)
  · replace n2 := n0.trans n2
    have hg' : w.heap.size ≤ g := Nat.le_trans n0.size hg
    clear n0 hb hrow hg
    have HM := hide hm
    clear hm
    go_wp2_with fail
    refine (recover_nil _).mono ?_
    rintro e w3 ⟨j, rfl, hj, hjo, n3⟩
    have hgl := hc.lt
    replace hc := hc.new n3
    replace n3 := n2.trans n3
    have hjl := blk_lt hjo
    have hj' := n2.size
    clear n2
    go_wp2_with fail
    go_ret
    have hm := unhide HM
    have n4 := n3.alloc (.cells #[.string ⟨#[]⟩] 105)
    have hsp : SpR _ w3.heap.size ⟨#[]⟩ := blk_alloc w3 (.cells #[.string ⟨#[]⟩] 105)
    have n43 : New w3 (w3.alloc (.cells #[.string ⟨#[]⟩] 105)) := (Upd.refl _ _).alloc _
    have hz : (w3.alloc (.cells #[.string ⟨#[]⟩] 105)).heap.size = w3.heap.size + 1 := World.size_alloc _ _
    replace hc := hc.new n43
    replace hjo : JoR _ j .new := n43.old hjo (fun h => h)
    have hw : w.heap.size ≤ j := by omega
    generalize w3.alloc (.cells #[.string ⟨#[]⟩] 105) = w4 at n4 hsp n43 hz hc hjo ⊢
    have hlk : LkR _ w4.heap.size (.new w3.heap.size g j) := blk_alloc w4 (.cells (LinkV.new w3.heap.size g j).cells.toArray 77)
    have n54 : New w4 (w4.alloc (.cells (LinkV.new w3.heap.size g j).cells.toArray 77)) := (Upd.refl _ _).alloc _
    have n5 := n4.trans n54
    rw [hz] at hlk
    have h43 := n3.size
    exact .inl ⟨hm, w3.heap.size + 1, .new w3.heap.size g j, rfl, ⟨rfl, hlk, n54.old hsp (fun h => h), hc.new n54, n54.old hjo (fun h => h), ⟨by omega, h43, hg', hw⟩, ⟨by show g < j; omega, hjl, by show w3.heap.size < _; omega⟩⟩, n5⟩
  · have n3 := n0.trans n2
    clear n0 hb hrow n2
    have HM := hide hm
    clear hm
    go_wp2_with fail
    go_ret
    exact .inr ⟨unhide HM, rfl, n3⟩

end Go.Proofs.YtehdhnckfdiioaaDoor
