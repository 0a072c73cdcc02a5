/-
  give, Counts, Closed.
-/
import Derived.Test.YtfmkdoachjgjbaaGreatDoorCh2
import Derived.Test.YtfmkdoachjgjbaaGreatDoorRows
import Derived.Test.YtfmkdoachjgjbaaGreatDoorMaa
import Derived.Deep.RegionHeld3
import Derived.Test.YtfmkdoachjgjbaaGreatDoorMai
import Derived.Sort.Grow
import Derived.BigRegion
set_option linter.unusedVariables false
set_option linter.unusedSimpArgs false
namespace Go.Proofs.YtfmkdoachjgjbaaGreatDoor
open Go.RowKit

/-- An amount put into the base. -/
def Ch.give (c : Ch) (us : Bool) (n : Int) : Ch := if us then { c with loc := IntKind.u64.wrap (c.loc + n) } else { c with rem := IntKind.u64.wrap (c.rem + n) }
theorem wrap_u64_ok (x : Int) : 0 ≤ IntKind.u64.wrap x ∧ IntKind.u64.wrap x < 18446744073709551616 := by rw [IntKind.wrap_u64]; omega
theorem Ch.Ok.give {c : Ch} (h : c.Ok) (us : Bool) (n : Int) : (c.give us n).Ok := by
  unfold Ch.give
  split
  · exact ⟨h.s, h.signed, h.heard, h.nextOwn, h.nextTheirs, wrap_u64_ok _, h.rem, h.xs, h.few, h.shelf, h.news, h.last, h.many⟩
  · exact ⟨h.s, h.signed, h.heard, h.nextOwn, h.nextTheirs, h.loc, wrap_u64_ok _, h.xs, h.few, h.shelf, h.news, h.last, h.many⟩

set_option maxHeartbeats 1000000 in
theorem closed_any (g : Nat) (S : Nat → Prop) (c : Ch) (w : World) (h : ChS w g S c) :
    Calls Tryz.prog 80 #[.pointer (some ⟨g, 0, none⟩)] w (Reads (.bool (c.k.shutSaid && c.k.shutHeard && c.xs.isEmpty)) w) := by
  obtain ⟨lv, nv, av, h⟩ := h
  have c42 : w.cell? ⟨g, 42, none⟩ = some (.bool c.k.shutSaid) := h.toR.shutSaid
  have c43 : w.cell? ⟨g, 43, none⟩ = some (.bool c.k.shutHeard) := h.toR.shutHeard
  have c47 : w.cell? ⟨g, 47, none⟩ = some lv := h.toR.live
  obtain ⟨a, cap, hlv⟩ := own_shape' h.live
  have hb : ((c.xs.length : Int) == 0) = c.xs.isEmpty := by
    cases c.xs with
    | nil => rfl
    | cons x l => simp; omega
  rw [hlv] at c47
  clear h
  go_enter Tryz.func80, Tryz.ntmps80
  cases h1 : c.k.shutSaid <;> cases h2 : c.k.shutHeard <;> rw [h1] at c42 <;> rw [h2] at c43
  all_goals
    go_wp2_with (with_reducible first | (first | refine' tw1 (ido ?_) ?_ | refine' tw2 (ido ?_) ?_); rotate_left | refine' tw3 (ido ?_) | rfl | apply tn | refine' tw4 ?_)
    go_ret
    first
    | exact ⟨rfl, Q.refl _⟩
    | exact ⟨by simp, Q.refl _⟩

def spansL : List Int := [1, 7, 3, 5]
def eventsL : List Int := [3, 4, 1, 2, 0, 1, 2, 3, 4, 0, 1, 2, 3, 4, 0, 3, 4, 1, 2, 0]
/-- The table of spans of package htlc lies in its block. -/
structure Spans (w : World) : Prop where
  spans : ∀ i, i < 4 → w.cell? ⟨2, i, none⟩ = some (.int .i64 (spansL.getD i 0))
theorem Spans.q {w w' : World} (h : Spans w) (q : Q w w') : Spans w' := ⟨fun i hi => q.cell (h.spans i hi)⟩
theorem Spans.upd {S : Nat → Prop} {w w' : World} (h : Spans w) (u : Upd S w w') (h0 : ¬ S 2) : Spans w' := ⟨fun i hi => u.cell (h.spans i hi) h0⟩
theorem Spans.new {w w' : World} (h : Spans w) (u : New w w') : Spans w' := h.upd u (fun h => h)
/-- The table of events does. -/
structure Glob (w : World) : Prop where
  events : ∀ i, i < 20 → w.cell? ⟨0, i, none⟩ = some (.int .i64 (eventsL.getD i 0))
theorem Glob.q {w w' : World} (h : Glob w) (q : Q w w') : Glob w' := ⟨fun i hi => q.cell (h.events i hi)⟩
theorem Glob.upd {S : Nat → Prop} {w w' : World} (h : Glob w) (u : Upd S w w') (h1 : ¬ S 0) : Glob w' := ⟨fun i hi => u.cell (h.events i hi) h1⟩
theorem Glob.new {w w' : World} (h : Glob w) (u : New w w') : Glob w' := h.upd u (fun h => h)

def mayB (st : Int) : Bool := decide (0 ≤ st) && decide (st ≤ 9)
def evAt (own : Bool) (n : Nat) : Int := eventsL.getD ((if own then 10 else 0) + n) 0
/-- The state behind an event. -/
def nextSt (st : Int) (own : Bool) (ev : Int) : Int := if mayB st = true ∧ ev ≠ 0 ∧ evAt own st.toNat = ev then st + 1 else st
def loI (own : Bool) : Int := if own then 3 else 1
def hiI (own : Bool) : Int := if own then 5 else 7
/-- Does our commitment have it? -/
def oursB (st : Int) (own : Bool) : Bool := decide (loI own ≤ st) && decide (st ≤ hiI own)
def outB (st : Int) (own : Bool) : Bool := mayB st && decide (hiI own < st)

/-- Has a commitment x? Was it taken out of it again? -/
def hasB (ours own : Bool) (st : Int) : Bool := if ours then oursB st own else oursB st !own
def goneB (ours own : Bool) (st : Int) : Bool := if ours then outB st own else outB st !own

end Go.Proofs.YtfmkdoachjgjbaaGreatDoor
namespace Go.Proofs.YtfmkdoachjgjbaaGreatDoor
open Go.RowKit Go.Sort

/-- Draws, and new blocks, alone. -/
def G (w w' : World) : Prop := ∃ q os, w' = grow (w.drewN q) os
theorem G.refl (w : World) : G w w := ⟨0, #[], by rw [grow_empty]; rfl⟩
theorem grow_drewN (w : World) (os : Array Obj) (n : Nat) : (grow w os).drewN n = grow (w.drewN n) os := rfl
theorem G.trans {a b c : World} (h : G a b) (k : G b c) : G a c := by
  obtain ⟨q, os, rfl⟩ := h
  obtain ⟨r, ot, rfl⟩ := k
  exact ⟨q + r, os ++ ot, by rw [grow_drewN, World.drewN_drewN, grow_grow]⟩
theorem G.drewN {a b : World} (h : G a b) (n : Nat) : G a (b.drewN n) := h.trans ⟨n, #[], by rw [grow_empty]⟩
theorem G.drew {a b : World} (h : G a b) : G a b.drew := h.drewN 1
theorem G.alloc {a b : World} (h : G a b) (o : Obj) : G a (b.alloc o) := h.trans ⟨0, #[o], alloc_eq_grow b o⟩
theorem Q.g {a b : World} (h : Q a b) : G a b := by
  obtain ⟨n, rfl⟩ := h
  exact (G.refl a).drewN n
theorem G.new {a b : World} (h : G a b) : New a b := by
  obtain ⟨q, os, rfl⟩ := h
  refine ⟨rfl, rfl, rfl, by simp, fun k hk _ => ?_⟩
  show (a.heap ++ os)[k]? = _
  rw [Array.getElem?_append_left hk]

def rankI (offered : Bool) : Int := if offered then 0 else 1

theorem Tryz.infoItem : (Tryz.prog.info? 254).map (·.size) = some 36 := by kernel_rfl
/-- The load of an item, kept whole. -/
def ldItem (x : Value) : Sem Value := Instr.loadAt 254 x
theorem ld_item_fold (x : Value) : Instr.loadAt 254 x = ldItem x := rfl
theorem ld_item (b o : Nat) (w : World) : (ldItem (.pointer (some ⟨b, o, none⟩))).run Tryz.prog w = match rowN w b o 36 with | some A => .ok (.agg A) w | none => slowLd Tryz.prog 254 w b o :=
  run_loadAt_rowN 254 36 _ Tryz.underlying254 rfl Tryz.infoItem b o w
attribute [local go_sem ↓ high] ld_item_fold
attribute [local go_sem] ld_item

end Go.Proofs.YtfmkdoachjgjbaaGreatDoor
namespace Go.Proofs.YtfmkdoachjgjbaaGreatDoor
open Go.RowKit Go.Sort

instance : Inhabited Htlc := ⟨⟨0, 0, Vector.replicate 32 0, 0⟩⟩
instance : Inhabited Item := ⟨⟨false, default⟩⟩
/-- From off on, block g holds the items xs, and may be written. -/
def Held (w : World) (g off : Nat) (xs : List Item) : Prop :=
  ∃ C T, w.heap[g]? = some (.cells C T (0, 0)) ∧ off + xs.length * 36 ≤ C.size ∧ ∀ i, i < xs.length → ∀ j, j < 36 → C[off + i * 36 + j]? = (itemCells xs[i]!)[j]?
theorem Held.row {w : World} {g off : Nat} {xs : List Item} (h : Held w g off xs) {i : Nat} (hi : i < xs.length) : rowN w g (off + i * 36) 36 = some (itemCells xs[i]!).toArray := by
  obtain ⟨C, T, hb, hs, hc⟩ := h
  have hle : off + i * 36 + 36 ≤ C.size := by have := Nat.mul_le_mul_right 36 (show i + 1 ≤ xs.length from hi); omega
  rw [rowN_blk hb _ _ hle]
  congr 1
  apply Array.ext'
  apply List.ext_getElem?
  intro j
  rw [Array.getElem?_toList, Array.getElem?_extract]
  by_cases hj : j < 36
  · rw [if_pos (by omega), hc i hi j hj]
  · rw [if_neg (by omega), List.getElem?_eq_none (by rw [item_len]; omega)]
theorem Held.ok {w : World} {g off : Nat} {xs : List Item} (h : Held w g off xs) {i : Nat} (hi : i < xs.length) (y : Item) : stOk w g (off + i * 36) 36 (itemCells y).toArray = true := by
  obtain ⟨C, T, hb, hs, hc⟩ := h
  have hle : off + i * 36 + 36 ≤ C.size := by have := Nat.mul_le_mul_right 36 (show i + 1 ≤ xs.length from hi); omega
  exact stOk_blk hb hle (by rw [List.size_toArray, item_len]) (by rw [List.all_toArray, List.all_eq_true]; exact item_one y)
theorem Held.set {w : World} {g off : Nat} {xs : List Item} (h : Held w g off xs) {i : Nat} (hi : i < xs.length) (y : Item) : Held (w.setCells g (off + i * 36) (itemCells y)) g off (xs.set i y) := by
  obtain ⟨C, T, hb, hs, hc⟩ := h
  have hle : off + i * 36 + 36 ≤ C.size := by have := Nat.mul_le_mul_right 36 (show i + 1 ≤ xs.length from hi); omega
  refine ⟨_, T, blk_setCells hb _ _, by rw [layIn_size, List.length_set]; exact hs, fun k hk j hj => ?_⟩
  rw [List.length_set] at hk
  rw [layIn_get _ _ _ _ (by rw [item_len]; exact hle), item_len]
  by_cases e : i = k
  · subst e
    rw [if_pos (by omega), show off + i * 36 + j - (off + i * 36) = j by omega]
    simp [hk]
  · rw [if_neg ?_, hc k hk j hj]
    · rw [List.getElem!_eq_getElem?_getD, List.getElem!_eq_getElem?_getD, List.getElem?_set_ne e]
    · rcases Nat.lt_or_gt_of_ne e with h | h
      · have := Nat.mul_le_mul_right 36 (show i + 1 ≤ k from h); omega
      · have := Nat.mul_le_mul_right 36 (show k + 1 ≤ i from h); omega
theorem Held.upd {S : Nat → Prop} {w w' : World} {g off : Nat} {xs : List Item} (h : Held w g off xs) (u : Upd S w w') (hn : ¬ S g) : Held w' g off xs := by
  obtain ⟨C, T, hb, r⟩ := h
  exact ⟨C, T, u.old hb hn, r⟩
theorem Held.drewN {w : World} {g off : Nat} {xs : List Item} (h : Held w g off xs) (n : Nat) : Held (w.drewN n) g off xs := h
theorem Held.drew {w : World} {g off : Nat} {xs : List Item} (h : Held w g off xs) : Held w.drew g off xs := h
theorem Held.lt {w : World} {g off : Nat} {xs : List Item} (h : Held w g off xs) : g < w.heap.size := by
  obtain ⟨C, T, hb, r⟩ := h
  exact blk_lt hb

/-- The store of an item, kept whole. -/
def stItem (x v : Value) : Sem Unit := Instr.storeAt 254 x v
theorem st_item_fold (x v : Value) : Instr.storeAt 254 x v = stItem x v := rfl
theorem st_item (b o : Nat) (A : Array Value) (w : World) : (stItem (.pointer (some ⟨b, o, none⟩)) (.agg A)).run Tryz.prog w = if stOk w b o 36 A = true then .ok () (w.setCells b o A.toList) else slowSt Tryz.prog 254 w b o A :=
  run_storeAt_row 254 36 Tryz.infoItem b o A w
attribute [local go_sem ↓ high] ld_item_fold st_item_fold
attribute [local go_sem] ld_item st_item

end Go.Proofs.YtfmkdoachjgjbaaGreatDoor
namespace Go.Proofs.YtfmkdoachjgjbaaGreatDoor
open Go.RowKit Go.Sort

def kl (x y : Item) : Prop := rankI x.offered < rankI y.offered ∨ (rankI x.offered = rankI y.offered ∧ x.h.id < y.h.id)
/-- Strictly ahead of: by the order, then by the first places. -/
def lt' (p q : Item × Nat) : Prop := kl p.1 q.1 ∨ (¬ kl q.1 p.1 ∧ p.2 < q.2)
abbrev Srt (l : List (Item × Nat)) : Prop := l.Pairwise lt'

end Go.Proofs.YtfmkdoachjgjbaaGreatDoor
