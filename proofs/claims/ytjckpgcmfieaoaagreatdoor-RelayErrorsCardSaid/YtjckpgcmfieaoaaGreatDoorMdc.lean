/-
  journal.sum, journal.Put.
-/
import Derived.Test.YtjckpgcmfieaoaaGreatDoorMcf
import Derived.Test.YtjckpgcmfieaoaaGreatDoorMci
import Derived.Test.YtjckpgcmfieaoaaGreatDoorTxt
import Derived.Test.YtjckpgcmfieaoaaGreatDoorMda
import Derived.Lib.Builder
import Derived.Lib.AppendStr
import Derived.Test.YtjckpgcmfieaoaaGreatDoorRows
import Derived.Test.YtjckpgcmfieaoaaGreatDoorMaa
import Derived.Deep.RegionHeld3
import Derived.Sort.Grow
import Derived.Test.YtjckpgcmfieaoaaGreatDoorMbj
import Derived.BigRegion
set_option linter.unusedVariables false
set_option linter.unusedSimpArgs false
namespace Go.Proofs.YtjckpgcmfieaoaaGreatDoor
open Go.RowKit

attribute [local go_sem ↓ high] ld_hsh_fold st_hsh_fold al_hsh_fold
attribute [local go_sem] ld_hsh st_hsh al_hsh rowN_drew
end Go.Proofs.YtjckpgcmfieaoaaGreatDoor
namespace Go.Proofs.YtjckpgcmfieaoaaGreatDoor
open Go.RowKit

structure JourV where
  addr : Value
  buf : Value
  many : Int
  fused : Bool
  fuse : Int
  off : Bool
def JourV.cells (j : JourV) : List Value := [j.addr, j.buf, .int .i64 j.many, .bool j.fused, .int .i64 j.fuse, .bool j.off]
def JourV.new : JourV := ⟨.pointer none, nilV, 0, false, 0, false⟩
def JoR (w : World) (g : Nat) (j : JourV) : Prop := w.heap[g]? = some (.cells j.cells.toArray 265 (0, 0))

/-- A journal, as plain data. -/
structure Jo where
  bs : ByteArray
  many : Int
  fused : Bool
  fuse : Int
  off : Bool
def Jo.v (j : Jo) (p buf : Value) : JourV := ⟨p, buf, j.many, j.fused, j.fuse, j.off⟩
def Jo.new : Jo := ⟨⟨#[]⟩, 0, false, 0, false⟩
/-- A journal lies in block g; all its blocks are in S. -/
structure JoP (w : World) (g : Nat) (S : Nat → Prop) (j : Jo) (p buf : Value) : Prop where
  at_ : JoR w g (j.v p buf)
  addr : p = .pointer none ∨ p = .pointer (some ⟨g, 0, none⟩)
  row : w.ownsRow 0 5 1 buf j.bs.size (Lib.strCells j.bs)
  inG : S g
  inB : ∀ k, buf.ownBlock = some k → S k
  lt : ∀ k, S k → k < w.heap.size
def JoS (w : World) (g : Nat) (S : Nat → Prop) (j : Jo) : Prop := ∃ p buf, JoP w g S j p buf
section
variable {w w' : World} {g : Nat} {S T : Nat → Prop} {j : Jo} {p buf : Value}
theorem JoP.upd (h : JoP w g S j p buf) (u : Upd T w w') (hd : ∀ k, S k → ¬ T k) : JoP w' g S j p buf :=
  ⟨u.old h.at_ (hd g h.inG), h.addr, row_upd' h.row u (fun k hk => hd k (h.inB k hk)), h.inG, h.inB, fun k hk => Nat.lt_of_lt_of_le (h.lt k hk) u.size⟩
theorem JoS.upd (h : JoS w g S j) (u : Upd T w w') (hd : ∀ k, S k → ¬ T k) : JoS w' g S j := by
  obtain ⟨a, b, h⟩ := h
  exact ⟨a, b, h.upd u hd⟩
theorem JoS.new (h : JoS w g S j) (u : New w w') : JoS w' g S j := h.upd u (fun _ _ h => h)
theorem JoS.lt (h : JoS w g S j) : ∀ k, S k → k < w.heap.size := by
  obtain ⟨a, b, h⟩ := h
  exact h.lt
theorem JoP.wider (h : JoP w g S j p buf) (hs : ∀ k, S k → T k) (hl : ∀ k, T k → k < w.heap.size) : JoP w g T j p buf :=
  ⟨h.at_, h.addr, h.row, hs g h.inG, fun k e => hs k (h.inB k e), hl⟩
theorem JoP.fr (h : JoP w' g S j p buf) (w : World) : JoS w' g (Fr S w w') j := ⟨_, _, h.wider (fun k hk => .inl hk) (fun k hk => hk.elim (h.lt k) (fun e => e.2))⟩
end
theorem JoS.fresh {w : World} {g : Nat} (h : JoR w g .new) : JoS w g (· = g) .new :=
  ⟨_, _, h, .inl rfl, ⟨rfl, .inl ⟨rfl, rfl⟩⟩, rfl, fun k e => by simp [nilV, Value.ownBlock] at e, fun k e => e ▸ blk_lt h⟩
theorem Tryz.sizeBu : (Tryz.prog.info? 263).map (·.size) = some 2 := by kernel_rfl
set_option maxHeartbeats 1000000 in
set_option maxRecDepth 100000 in
theorem copyCheck_used (g : Nat) (w : World) (h0 : w.cell? ⟨g, 0, none⟩ = some (.pointer (some ⟨g, 0, none⟩))) :
    Calls Tryz.prog 219 #[.pointer (some ⟨g, 0, none⟩)] w fun e w' => e = .returned (.tuple #[]) ∧ w = w' := by
  obtain ⟨j, hj, _⟩ := Option.map_eq_some_iff.1 Tryz.sizeBu
  have hneq := fun w' : World => Lib.run_neq_ptr_same (P := Tryz.prog) w' (tp := 261) ⟨g, 0, none⟩ Tryz.underlying261 hj
  go_enter Tryz.func219, Tryz.ntmps219
  go_wp2_with fail
  go_end0
  exact ⟨rfl, rfl⟩
set_option maxHeartbeats 1000000 in
set_option maxRecDepth 100000 in
theorem copyCheck_fresh (g : Nat) (w : World) (h0 : w.cell? ⟨g, 0, none⟩ = some (.pointer none)) (hsh : w.shape? g = some (265, 6)) (hfz : w.frozen? ⟨g, 0, none⟩ = false) :
    Calls Tryz.prog 219 #[.pointer (some ⟨g, 0, none⟩)] w fun e w' => e = .returned (.tuple #[]) ∧ w' = w.setCell ⟨g, 0, none⟩ (.pointer (some ⟨g, 0, none⟩)) := by
  obtain ⟨j, hj, hjs⟩ := Option.map_eq_some_iff.1 Tryz.sizeBu
  have hto := Lib.run_to_unsafe (P := Tryz.prog) w (src := 261) (dst := 384) ⟨g, 0, none⟩ Tryz.underlying261 Tryz.underlying384 hj (by rw [hjs]; decide) hsh (by show (0 : Nat) < 6; decide)
  have hfrom := Lib.run_from_unsafe (P := Tryz.prog) w (src := 384) (dst := 261) ⟨g, 0, none⟩ Tryz.underlying384 Tryz.underlying261 hj hsh (by kernel_rfl)
  go_enter Tryz.func219, Tryz.ntmps219
  go_wp2_with fail
  rw [run_callFunc_extern Tryz.func282 (by kernel_rfl) (by kernel_rfl) (by kernel_rfl) (e := Extern.AbiNoEscape.same) (by kernel_rfl)]
  rw [Lib.run_noEscape]
  simp only [Result.andThen]
  rw [Oper.upon_value]
  go_wp2_with fail
  go_end0
  exact ⟨rfl, rfl⟩
def Jo.more (j : Jo) (s : ByteArray) : Jo := { j with bs := j.bs ++ s }

attribute [local go_sem ↓ high] ld_msg_fold st_msg_fold al_msg_fold bd_msg_fold ld_hsh_fold ld_htl_fold st_htl_fold al_htl_fold bd_htl_fold bd_liv_fold bs_liv_fold
attribute [local go_sem] ld_msg st_msg al_msg bd_msg_zero rowN_drew ld_hsh ld_htl st_htl al_htl bd_htl bd_liv3 bs_liv bd_msg_add

def offerLive (c : Ch) (n : Int) (h : Vector Int 32) (ex : Int) : Live := ⟨⟨c.k.nextOwn, n, h, ex⟩, true, 0, false⟩
def Ch.offered (c : Ch) (n : Int) (h : Vector Int 32) (ex : Int) : Ch :=
  { c with loc := c.loc - n, k := { c.k with nextOwn := IntKind.u64.wrap (c.k.nextOwn + 1) }, xs := c.xs ++ [offerLive c n h ex] }

end Go.Proofs.YtjckpgcmfieaoaaGreatDoor
namespace Go.Proofs.YtjckpgcmfieaoaaGreatDoor
open Go.RowKit

def spansL : List Int := [1, 7, 3, 5]
def eventsL : List Int := [3, 4, 1, 2, 0, 1, 2, 3, 4, 0, 1, 2, 3, 4, 0, 3, 4, 1, 2, 0]
/-- The table of spans of package htlc lies in its block. -/
structure Spans (w : World) : Prop where
  spans : ∀ i, i < 4 → w.cell? ⟨4, i, none⟩ = some (.int .i64 (spansL.getD i 0))
theorem Spans.q {w w' : World} (h : Spans w) (q : Q w w') : Spans w' := ⟨fun i hi => q.cell (h.spans i hi)⟩
theorem Spans.upd {S : Nat → Prop} {w w' : World} (h : Spans w) (u : Upd S w w') (h0 : ¬ S 4) : Spans w' := ⟨fun i hi => u.cell (h.spans i hi) h0⟩
theorem Spans.new {w w' : World} (h : Spans w) (u : New w w') : Spans w' := h.upd u (fun h => h)
/-- The table of events does. -/
structure Glob (w : World) : Prop where
  events : ∀ i, i < 20 → w.cell? ⟨2, i, none⟩ = some (.int .i64 (eventsL.getD i 0))
theorem Glob.q {w w' : World} (h : Glob w) (q : Q w w') : Glob w' := ⟨fun i hi => q.cell (h.events i hi)⟩
theorem Glob.upd {S : Nat → Prop} {w w' : World} (h : Glob w) (u : Upd S w w') (h1 : ¬ S 2) : Glob w' := ⟨fun i hi => u.cell (h.events i hi) h1⟩
theorem Glob.new {w w' : World} (h : Glob w) (u : New w w') : Glob w' := h.upd u (fun h => h)

end Go.Proofs.YtjckpgcmfieaoaaGreatDoor
namespace Go.Proofs.YtjckpgcmfieaoaaGreatDoor
open Go.RowKit Go.Sort

/-- Draws, and new blocks, alone. -/
def G (w w' : World) : Prop := ∃ q os, w' = grow (w.drewN q) os
theorem G.refl (w : World) : G w w := ⟨0, #[], by rw [grow_empty]; rfl⟩
theorem grow_drewN (w : World) (os : Array Obj) (n : Nat) : (grow w os).drewN n = grow (w.drewN n) os := rfl
theorem G.trans {a b c : World} (h : G a b) (k : G b c) : G a c := by
  obtain ⟨q, os, rfl⟩ := h
  obtain ⟨r, ot, rfl⟩ := k
  exact ⟨q + r, os ++ ot, by rw [grow_drewN, World.drewN_drewN, grow_grow]⟩
theorem G.drewN {a b : World} (h : G a b) (n : Nat) : G a (b.drewN n) := h.trans ⟨n, #[], by rw [grow_empty]⟩
theorem G.drew {a b : World} (h : G a b) : G a b.drew := h.drewN 1
theorem G.alloc {a b : World} (h : G a b) (o : Obj) : G a (b.alloc o) := h.trans ⟨0, #[o], alloc_eq_grow b o⟩
theorem Q.g {a b : World} (h : Q a b) : G a b := by
  obtain ⟨n, rfl⟩ := h
  exact (G.refl a).drewN n
theorem G.new {a b : World} (h : G a b) : New a b := by
  obtain ⟨q, os, rfl⟩ := h
  refine ⟨rfl, rfl, rfl, by simp, fun k hk _ => ?_⟩
  show (a.heap ++ os)[k]? = _
  rw [Array.getElem?_append_left hk]

def rankI (offered : Bool) : Int := if offered then 0 else 1

theorem Tryz.infoItem : (Tryz.prog.info? 315).map (·.size) = some 36 := by kernel_rfl
/-- The load of an item, kept whole. -/
def ldItem (x : Value) : Sem Value := Instr.loadAt 315 x
theorem ld_item_fold (x : Value) : Instr.loadAt 315 x = ldItem x := rfl
theorem ld_item (b o : Nat) (w : World) : (ldItem (.pointer (some ⟨b, o, none⟩))).run Tryz.prog w = match rowN w b o 36 with | some A => .ok (.agg A) w | none => slowLd Tryz.prog 315 w b o :=
  run_loadAt_rowN 315 36 _ Tryz.underlying315 rfl Tryz.infoItem b o w
attribute [local go_sem ↓ high] ld_item_fold
attribute [local go_sem] ld_item

end Go.Proofs.YtjckpgcmfieaoaaGreatDoor
namespace Go.Proofs.YtjckpgcmfieaoaaGreatDoor
open Go.RowKit Go.Sort

instance : Inhabited Htlc := ⟨⟨0, 0, Vector.replicate 32 0, 0⟩⟩
instance : Inhabited Item := ⟨⟨false, default⟩⟩
/-- From off on, block g holds the items xs, and may be written. -/
def Held (w : World) (g off : Nat) (xs : List Item) : Prop :=
  ∃ C T, w.heap[g]? = some (.cells C T (0, 0)) ∧ off + xs.length * 36 ≤ C.size ∧ ∀ i, i < xs.length → ∀ j, j < 36 → C[off + i * 36 + j]? = (itemCells xs[i]!)[j]?
theorem Held.row {w : World} {g off : Nat} {xs : List Item} (h : Held w g off xs) {i : Nat} (hi : i < xs.length) : rowN w g (off + i * 36) 36 = some (itemCells xs[i]!).toArray := by
  obtain ⟨C, T, hb, hs, hc⟩ := h
  have hle : off + i * 36 + 36 ≤ C.size := by have := Nat.mul_le_mul_right 36 (show i + 1 ≤ xs.length from hi); omega
  rw [rowN_blk hb _ _ hle]
  congr 1
  apply Array.ext'
  apply List.ext_getElem?
  intro j
  rw [Array.getElem?_toList, Array.getElem?_extract]
  by_cases hj : j < 36
  · rw [if_pos (by omega), hc i hi j hj]
  · rw [if_neg (by omega), List.getElem?_eq_none (by rw [item_len]; omega)]
theorem Held.ok {w : World} {g off : Nat} {xs : List Item} (h : Held w g off xs) {i : Nat} (hi : i < xs.length) (y : Item) : stOk w g (off + i * 36) 36 (itemCells y).toArray = true := by
  obtain ⟨C, T, hb, hs, hc⟩ := h
  have hle : off + i * 36 + 36 ≤ C.size := by have := Nat.mul_le_mul_right 36 (show i + 1 ≤ xs.length from hi); omega
  exact stOk_blk hb hle (by rw [List.size_toArray, item_len]) (by rw [List.all_toArray, List.all_eq_true]; exact item_one y)
theorem Held.set {w : World} {g off : Nat} {xs : List Item} (h : Held w g off xs) {i : Nat} (hi : i < xs.length) (y : Item) : Held (w.setCells g (off + i * 36) (itemCells y)) g off (xs.set i y) := by
  obtain ⟨C, T, hb, hs, hc⟩ := h
  have hle : off + i * 36 + 36 ≤ C.size := by have := Nat.mul_le_mul_right 36 (show i + 1 ≤ xs.length from hi); omega
  refine ⟨_, T, blk_setCells hb _ _, by rw [layIn_size, List.length_set]; exact hs, fun k hk j hj => ?_⟩
  rw [List.length_set] at hk
  rw [layIn_get _ _ _ _ (by rw [item_len]; exact hle), item_len]
  by_cases e : i = k
  · subst e
    rw [if_pos (by omega), show off + i * 36 + j - (off + i * 36) = j by omega]
    simp [hk]
  · rw [if_neg ?_, hc k hk j hj]
    · rw [List.getElem!_eq_getElem?_getD, List.getElem!_eq_getElem?_getD, List.getElem?_set_ne e]
    · rcases Nat.lt_or_gt_of_ne e with h | h
      · have := Nat.mul_le_mul_right 36 (show i + 1 ≤ k from h); omega
      · have := Nat.mul_le_mul_right 36 (show k + 1 ≤ i from h); omega
theorem Held.upd {S : Nat → Prop} {w w' : World} {g off : Nat} {xs : List Item} (h : Held w g off xs) (u : Upd S w w') (hn : ¬ S g) : Held w' g off xs := by
  obtain ⟨C, T, hb, r⟩ := h
  exact ⟨C, T, u.old hb hn, r⟩
theorem Held.drewN {w : World} {g off : Nat} {xs : List Item} (h : Held w g off xs) (n : Nat) : Held (w.drewN n) g off xs := h
theorem Held.drew {w : World} {g off : Nat} {xs : List Item} (h : Held w g off xs) : Held w.drew g off xs := h
theorem Held.lt {w : World} {g off : Nat} {xs : List Item} (h : Held w g off xs) : g < w.heap.size := by
  obtain ⟨C, T, hb, r⟩ := h
  exact blk_lt hb

/-- The store of an item, kept whole. -/
def stItem (x v : Value) : Sem Unit := Instr.storeAt 315 x v
theorem st_item_fold (x v : Value) : Instr.storeAt 315 x v = stItem x v := rfl
theorem st_item (b o : Nat) (A : Array Value) (w : World) : (stItem (.pointer (some ⟨b, o, none⟩)) (.agg A)).run Tryz.prog w = if stOk w b o 36 A = true then .ok () (w.setCells b o A.toList) else slowSt Tryz.prog 315 w b o A :=
  run_storeAt_row 315 36 Tryz.infoItem b o A w
attribute [local go_sem ↓ high] ld_item_fold st_item_fold
attribute [local go_sem] ld_item st_item

end Go.Proofs.YtjckpgcmfieaoaaGreatDoor
namespace Go.Proofs.YtjckpgcmfieaoaaGreatDoor
open Go.RowKit Go.Sort

def kl (x y : Item) : Prop := rankI x.offered < rankI y.offered ∨ (rankI x.offered = rankI y.offered ∧ x.h.id < y.h.id)

attribute [local go_sem ↓ high] ld_item_fold st_item_fold
attribute [local go_sem] ld_item st_item

theorem Held.g {w w' : World} {b off : Nat} {xs : List Item} (h : Held w b off xs) (k : G w w') : Held w' b off xs := h.upd k.new (fun h => h)
abbrev its (L : List (Item × Nat)) : List Item := L.map Prod.fst

end Go.Proofs.YtjckpgcmfieaoaaGreatDoor
namespace Go.Proofs.YtjckpgcmfieaoaaGreatDoor
open Go.RowKit Go.Sort

end Go.Proofs.YtjckpgcmfieaoaaGreatDoor
