/-
  journal.sum, journal.Put.
-/
import Derived.Test.YtjckpgcmfieaoaaGreatDoorMcd
import Derived.Test.YtjckpgcmfieaoaaGreatDoorMcf
import Derived.Test.YtjckpgcmfieaoaaGreatDoorTxt
import Derived.Test.YtjckpgcmfieaoaaGreatDoorMch
import Derived.Lib.Builder
import Derived.Lib.AppendStr
import Derived.Test.YtjckpgcmfieaoaaGreatDoorRows
import Derived.Test.YtjckpgcmfieaoaaGreatDoorMaa
import Derived.Deep.RegionHeld3
import Derived.Sort.Grow
import Derived.Test.YtjckpgcmfieaoaaGreatDoorMbi
import Derived.BigRegion
import Derived.Great.BuildSlice
import Derived.Deep.CutRange
import Derived.Test.YtjckpgcmfieaoaaGreatDoorProg
import Derived.Lib.TrailingZeros
import Derived.Laws.Bits64b
import Derived.Test.YtjckpgcmfieaoaaGreatDoorMci
set_option linter.unusedVariables false
set_option linter.unusedSimpArgs false
namespace Go.Proofs.YtjckpgcmfieaoaaGreatDoor
open Go.RowKit

attribute [local go_sem ↓ high] ld_hsh_fold st_hsh_fold al_hsh_fold
attribute [local go_sem] ld_hsh st_hsh al_hsh rowN_drew
end Go.Proofs.YtjckpgcmfieaoaaGreatDoor
namespace Go.Proofs.YtjckpgcmfieaoaaGreatDoor
open Go.RowKit

structure JourV where
  addr : Value
  buf : Value
  many : Int
  fused : Bool
  fuse : Int
  off : Bool
def JourV.cells (j : JourV) : List Value := [j.addr, j.buf, .int .i64 j.many, .bool j.fused, .int .i64 j.fuse, .bool j.off]
def JourV.new : JourV := ⟨.pointer none, nilV, 0, false, 0, false⟩
def JoR (w : World) (g : Nat) (j : JourV) : Prop := w.heap[g]? = some (.cells j.cells.toArray 265 (0, 0))

/-- A journal, as plain data. -/
structure Jo where
  bs : ByteArray
  many : Int
  fused : Bool
  fuse : Int
  off : Bool
def Jo.v (j : Jo) (p buf : Value) : JourV := ⟨p, buf, j.many, j.fused, j.fuse, j.off⟩
def Jo.new : Jo := ⟨⟨#[]⟩, 0, false, 0, false⟩
/-- A journal lies in block g; all its blocks are in S. -/
structure JoP (w : World) (g : Nat) (S : Nat → Prop) (j : Jo) (p buf : Value) : Prop where
  at_ : JoR w g (j.v p buf)
  addr : p = .pointer none ∨ p = .pointer (some ⟨g, 0, none⟩)
  row : w.ownsRow 0 5 1 buf j.bs.size (Lib.strCells j.bs)
  inG : S g
  inB : ∀ k, buf.ownBlock = some k → S k
  lt : ∀ k, S k → k < w.heap.size
def JoS (w : World) (g : Nat) (S : Nat → Prop) (j : Jo) : Prop := ∃ p buf, JoP w g S j p buf
section
variable {w w' : World} {g : Nat} {S T : Nat → Prop} {j : Jo} {p buf : Value}
theorem JoP.upd (h : JoP w g S j p buf) (u : Upd T w w') (hd : ∀ k, S k → ¬ T k) : JoP w' g S j p buf :=
  ⟨u.old h.at_ (hd g h.inG), h.addr, row_upd' h.row u (fun k hk => hd k (h.inB k hk)), h.inG, h.inB, fun k hk => Nat.lt_of_lt_of_le (h.lt k hk) u.size⟩
theorem JoS.upd (h : JoS w g S j) (u : Upd T w w') (hd : ∀ k, S k → ¬ T k) : JoS w' g S j := by
  obtain ⟨a, b, h⟩ := h
  exact ⟨a, b, h.upd u hd⟩
theorem JoS.new (h : JoS w g S j) (u : New w w') : JoS w' g S j := h.upd u (fun _ _ h => h)
theorem JoS.lt (h : JoS w g S j) : ∀ k, S k → k < w.heap.size := by
  obtain ⟨a, b, h⟩ := h
  exact h.lt
theorem JoP.wider (h : JoP w g S j p buf) (hs : ∀ k, S k → T k) (hl : ∀ k, T k → k < w.heap.size) : JoP w g T j p buf :=
  ⟨h.at_, h.addr, h.row, hs g h.inG, fun k e => hs k (h.inB k e), hl⟩
theorem JoP.fr (h : JoP w' g S j p buf) (w : World) : JoS w' g (Fr S w w') j := ⟨_, _, h.wider (fun k hk => .inl hk) (fun k hk => hk.elim (h.lt k) (fun e => e.2))⟩
end
theorem JoS.fresh {w : World} {g : Nat} (h : JoR w g .new) : JoS w g (· = g) .new :=
  ⟨_, _, h, .inl rfl, ⟨rfl, .inl ⟨rfl, rfl⟩⟩, rfl, fun k e => by simp [nilV, Value.ownBlock] at e, fun k e => e ▸ blk_lt h⟩
theorem Tryz.sizeBu : (Tryz.prog.info? 263).map (·.size) = some 2 := by kernel_rfl
set_option maxHeartbeats 1000000 in
set_option maxRecDepth 100000 in
theorem copyCheck_used (g : Nat) (w : World) (h0 : w.cell? ⟨g, 0, none⟩ = some (.pointer (some ⟨g, 0, none⟩))) :
    Calls Tryz.prog 219 #[.pointer (some ⟨g, 0, none⟩)] w fun e w' => e = .returned (.tuple #[]) ∧ w = w' := by
  obtain ⟨j, hj, _⟩ := Option.map_eq_some_iff.1 Tryz.sizeBu
  have hneq := fun w' : World => Lib.run_neq_ptr_same (P := Tryz.prog) w' (tp := 261) ⟨g, 0, none⟩ Tryz.underlying261 hj
  go_enter Tryz.func219, Tryz.ntmps219
  go_wp2_with fail
  go_end0
  exact ⟨rfl, rfl⟩
set_option maxHeartbeats 1000000 in
set_option maxRecDepth 100000 in
theorem copyCheck_fresh (g : Nat) (w : World) (h0 : w.cell? ⟨g, 0, none⟩ = some (.pointer none)) (hsh : w.shape? g = some (265, 6)) (hfz : w.frozen? ⟨g, 0, none⟩ = false) :
    Calls Tryz.prog 219 #[.pointer (some ⟨g, 0, none⟩)] w fun e w' => e = .returned (.tuple #[]) ∧ w' = w.setCell ⟨g, 0, none⟩ (.pointer (some ⟨g, 0, none⟩)) := by
  obtain ⟨j, hj, hjs⟩ := Option.map_eq_some_iff.1 Tryz.sizeBu
  have hto := Lib.run_to_unsafe (P := Tryz.prog) w (src := 261) (dst := 384) ⟨g, 0, none⟩ Tryz.underlying261 Tryz.underlying384 hj (by rw [hjs]; decide) hsh (by show (0 : Nat) < 6; decide)
  have hfrom := Lib.run_from_unsafe (P := Tryz.prog) w (src := 384) (dst := 261) ⟨g, 0, none⟩ Tryz.underlying384 Tryz.underlying261 hj hsh (by kernel_rfl)
  go_enter Tryz.func219, Tryz.ntmps219
  go_wp2_with fail
  rw [run_callFunc_extern Tryz.func282 (by kernel_rfl) (by kernel_rfl) (by kernel_rfl) (e := Extern.AbiNoEscape.same) (by kernel_rfl)]
  rw [Lib.run_noEscape]
  simp only [Result.andThen]
  rw [Oper.upon_value]
  go_wp2_with fail
  go_end0
  exact ⟨rfl, rfl⟩
def Jo.more (j : Jo) (s : ByteArray) : Jo := { j with bs := j.bs ++ s }

attribute [local go_sem ↓ high] ld_msg_fold st_msg_fold al_msg_fold bd_msg_fold ld_hsh_fold ld_htl_fold st_htl_fold al_htl_fold bd_htl_fold bd_liv_fold bs_liv_fold
attribute [local go_sem] ld_msg st_msg al_msg bd_msg_zero rowN_drew ld_hsh ld_htl st_htl al_htl bd_htl bd_liv3 bs_liv bd_msg_add

def offerLive (c : Ch) (n : Int) (h : Vector Int 32) (ex : Int) : Live := ⟨⟨c.k.nextOwn, n, h, ex⟩, true, 0, false⟩
def Ch.offered (c : Ch) (n : Int) (h : Vector Int 32) (ex : Int) : Ch :=
  { c with loc := c.loc - n, k := { c.k with nextOwn := IntKind.u64.wrap (c.k.nextOwn + 1) }, xs := c.xs ++ [offerLive c n h ex] }

end Go.Proofs.YtjckpgcmfieaoaaGreatDoor
namespace Go.Proofs.YtjckpgcmfieaoaaGreatDoor
open Go.RowKit

def spansL : List Int := [1, 7, 3, 5]
def eventsL : List Int := [3, 4, 1, 2, 0, 1, 2, 3, 4, 0, 1, 2, 3, 4, 0, 3, 4, 1, 2, 0]
/-- The table of spans of package htlc lies in its block. -/
structure Spans (w : World) : Prop where
  spans : ∀ i, i < 4 → w.cell? ⟨4, i, none⟩ = some (.int .i64 (spansL.getD i 0))
theorem Spans.q {w w' : World} (h : Spans w) (q : Q w w') : Spans w' := ⟨fun i hi => q.cell (h.spans i hi)⟩
theorem Spans.upd {S : Nat → Prop} {w w' : World} (h : Spans w) (u : Upd S w w') (h0 : ¬ S 4) : Spans w' := ⟨fun i hi => u.cell (h.spans i hi) h0⟩
theorem Spans.new {w w' : World} (h : Spans w) (u : New w w') : Spans w' := h.upd u (fun h => h)
/-- The table of events does. -/
structure Glob (w : World) : Prop where
  events : ∀ i, i < 20 → w.cell? ⟨2, i, none⟩ = some (.int .i64 (eventsL.getD i 0))
theorem Glob.q {w w' : World} (h : Glob w) (q : Q w w') : Glob w' := ⟨fun i hi => q.cell (h.events i hi)⟩
theorem Glob.upd {S : Nat → Prop} {w w' : World} (h : Glob w) (u : Upd S w w') (h1 : ¬ S 2) : Glob w' := ⟨fun i hi => u.cell (h.events i hi) h1⟩
theorem Glob.new {w w' : World} (h : Glob w) (u : New w w') : Glob w' := h.upd u (fun h => h)

end Go.Proofs.YtjckpgcmfieaoaaGreatDoor
namespace Go.Proofs.YtjckpgcmfieaoaaGreatDoor
open Go.RowKit Go.Sort

/-- Draws, and new blocks, alone. -/
def G (w w' : World) : Prop := ∃ q os, w' = grow (w.drewN q) os
theorem G.refl (w : World) : G w w := ⟨0, #[], by rw [grow_empty]; rfl⟩
theorem grow_drewN (w : World) (os : Array Obj) (n : Nat) : (grow w os).drewN n = grow (w.drewN n) os := rfl
theorem G.trans {a b c : World} (h : G a b) (k : G b c) : G a c := by
  obtain ⟨q, os, rfl⟩ := h
  obtain ⟨r, ot, rfl⟩ := k
  exact ⟨q + r, os ++ ot, by rw [grow_drewN, World.drewN_drewN, grow_grow]⟩
theorem G.drewN {a b : World} (h : G a b) (n : Nat) : G a (b.drewN n) := h.trans ⟨n, #[], by rw [grow_empty]⟩
theorem G.drew {a b : World} (h : G a b) : G a b.drew := h.drewN 1
theorem G.alloc {a b : World} (h : G a b) (o : Obj) : G a (b.alloc o) := h.trans ⟨0, #[o], alloc_eq_grow b o⟩
theorem Q.g {a b : World} (h : Q a b) : G a b := by
  obtain ⟨n, rfl⟩ := h
  exact (G.refl a).drewN n
theorem G.new {a b : World} (h : G a b) : New a b := by
  obtain ⟨q, os, rfl⟩ := h
  refine ⟨rfl, rfl, rfl, by simp, fun k hk _ => ?_⟩
  show (a.heap ++ os)[k]? = _
  rw [Array.getElem?_append_left hk]

theorem Tryz.infoItem : (Tryz.prog.info? 315).map (·.size) = some 36 := by kernel_rfl
/-- The load of an item, kept whole. -/
def ldItem (x : Value) : Sem Value := Instr.loadAt 315 x
theorem ld_item_fold (x : Value) : Instr.loadAt 315 x = ldItem x := rfl
theorem ld_item (b o : Nat) (w : World) : (ldItem (.pointer (some ⟨b, o, none⟩))).run Tryz.prog w = match rowN w b o 36 with | some A => .ok (.agg A) w | none => slowLd Tryz.prog 315 w b o :=
  run_loadAt_rowN 315 36 _ Tryz.underlying315 rfl Tryz.infoItem b o w
attribute [local go_sem ↓ high] ld_item_fold
attribute [local go_sem] ld_item

end Go.Proofs.YtjckpgcmfieaoaaGreatDoor
namespace Go.Proofs.YtjckpgcmfieaoaaGreatDoor
open Go.RowKit Go.Sort

instance : Inhabited Htlc := ⟨⟨0, 0, Vector.replicate 32 0, 0⟩⟩
instance : Inhabited Item := ⟨⟨false, default⟩⟩
/-- From off on, block g holds the items xs, and may be written. -/
def Held (w : World) (g off : Nat) (xs : List Item) : Prop :=
  ∃ C T, w.heap[g]? = some (.cells C T (0, 0)) ∧ off + xs.length * 36 ≤ C.size ∧ ∀ i, i < xs.length → ∀ j, j < 36 → C[off + i * 36 + j]? = (itemCells xs[i]!)[j]?
theorem Held.row {w : World} {g off : Nat} {xs : List Item} (h : Held w g off xs) {i : Nat} (hi : i < xs.length) : rowN w g (off + i * 36) 36 = some (itemCells xs[i]!).toArray := by
  obtain ⟨C, T, hb, hs, hc⟩ := h
  have hle : off + i * 36 + 36 ≤ C.size := by have := Nat.mul_le_mul_right 36 (show i + 1 ≤ xs.length from hi); omega
  rw [rowN_blk hb _ _ hle]
  congr 1
  apply Array.ext'
  apply List.ext_getElem?
  intro j
  rw [Array.getElem?_toList, Array.getElem?_extract]
  by_cases hj : j < 36
  · rw [if_pos (by omega), hc i hi j hj]
  · rw [if_neg (by omega), List.getElem?_eq_none (by rw [item_len]; omega)]
theorem Held.ok {w : World} {g off : Nat} {xs : List Item} (h : Held w g off xs) {i : Nat} (hi : i < xs.length) (y : Item) : stOk w g (off + i * 36) 36 (itemCells y).toArray = true := by
  obtain ⟨C, T, hb, hs, hc⟩ := h
  have hle : off + i * 36 + 36 ≤ C.size := by have := Nat.mul_le_mul_right 36 (show i + 1 ≤ xs.length from hi); omega
  exact stOk_blk hb hle (by rw [List.size_toArray, item_len]) (by rw [List.all_toArray, List.all_eq_true]; exact item_one y)
theorem Held.set {w : World} {g off : Nat} {xs : List Item} (h : Held w g off xs) {i : Nat} (hi : i < xs.length) (y : Item) : Held (w.setCells g (off + i * 36) (itemCells y)) g off (xs.set i y) := by
  obtain ⟨C, T, hb, hs, hc⟩ := h
  have hle : off + i * 36 + 36 ≤ C.size := by have := Nat.mul_le_mul_right 36 (show i + 1 ≤ xs.length from hi); omega
  refine ⟨_, T, blk_setCells hb _ _, by rw [layIn_size, List.length_set]; exact hs, fun k hk j hj => ?_⟩
  rw [List.length_set] at hk
  rw [layIn_get _ _ _ _ (by rw [item_len]; exact hle), item_len]
  by_cases e : i = k
  · subst e
    rw [if_pos (by omega), show off + i * 36 + j - (off + i * 36) = j by omega]
    simp [hk]
  · rw [if_neg ?_, hc k hk j hj]
    · rw [List.getElem!_eq_getElem?_getD, List.getElem!_eq_getElem?_getD, List.getElem?_set_ne e]
    · rcases Nat.lt_or_gt_of_ne e with h | h
      · have := Nat.mul_le_mul_right 36 (show i + 1 ≤ k from h); omega
      · have := Nat.mul_le_mul_right 36 (show k + 1 ≤ i from h); omega
theorem Held.upd {S : Nat → Prop} {w w' : World} {g off : Nat} {xs : List Item} (h : Held w g off xs) (u : Upd S w w') (hn : ¬ S g) : Held w' g off xs := by
  obtain ⟨C, T, hb, r⟩ := h
  exact ⟨C, T, u.old hb hn, r⟩
theorem Held.drewN {w : World} {g off : Nat} {xs : List Item} (h : Held w g off xs) (n : Nat) : Held (w.drewN n) g off xs := h
theorem Held.drew {w : World} {g off : Nat} {xs : List Item} (h : Held w g off xs) : Held w.drew g off xs := h
theorem Held.lt {w : World} {g off : Nat} {xs : List Item} (h : Held w g off xs) : g < w.heap.size := by
  obtain ⟨C, T, hb, r⟩ := h
  exact blk_lt hb

/-- The store of an item, kept whole. -/
def stItem (x v : Value) : Sem Unit := Instr.storeAt 315 x v
theorem st_item_fold (x v : Value) : Instr.storeAt 315 x v = stItem x v := rfl
theorem st_item (b o : Nat) (A : Array Value) (w : World) : (stItem (.pointer (some ⟨b, o, none⟩)) (.agg A)).run Tryz.prog w = if stOk w b o 36 A = true then .ok () (w.setCells b o A.toList) else slowSt Tryz.prog 315 w b o A :=
  run_storeAt_row 315 36 Tryz.infoItem b o A w
attribute [local go_sem ↓ high] ld_item_fold st_item_fold
attribute [local go_sem] ld_item st_item

end Go.Proofs.YtjckpgcmfieaoaaGreatDoor
namespace Go.Proofs.YtjckpgcmfieaoaaGreatDoor
open Go.RowKit Go.Sort

attribute [local go_sem ↓ high] ld_item_fold st_item_fold
attribute [local go_sem] ld_item st_item

theorem Held.g {w w' : World} {b off : Nat} {xs : List Item} (h : Held w b off xs) (k : G w w') : Held w' b off xs := h.upd k.new (fun h => h)
abbrev its (L : List (Item × Nat)) : List Item := L.map Prod.fst

end Go.Proofs.YtjckpgcmfieaoaaGreatDoor
namespace Go.Proofs.YtjckpgcmfieaoaaGreatDoor
open Go.RowKit Go.Sort

theorem fill_all (Z : List Value) : ∀ (A : List Value) (L : List Value), Z.length = A.length → (A.zipIdx).foldl (fun (cs : Array Value) (c, j) => cs.setIfInBounds (L.length + j) c) (L ++ Z).toArray = (L ++ A).toArray := by
  intro A L h
  have key : ∀ (A : List Value) (k : Nat) (P Z : List Value), Z.length = A.length → P.length = L.length + k → (A.zipIdx k).foldl (fun (cs : Array Value) (c, j) => cs.setIfInBounds (L.length + j) c) (P ++ Z).toArray = (P ++ A).toArray := by
    intro A
    induction A with
    | nil => intro k P Z hz _; rw [List.length_eq_zero_iff.1 hz]; rfl
    | cons a A ih =>
      intro k P Z hz hp
      cases Z with
      | nil => simp at hz
      | cons z Z =>
        rw [List.zipIdx_cons, List.foldl_cons]
        have e : (P ++ z :: Z).toArray.setIfInBounds (L.length + k) a = ((P ++ [a]) ++ Z).toArray := by
          rw [← hp]; simp
        show List.foldl _ ((P ++ z :: Z).toArray.setIfInBounds (L.length + k) a) _ = _
        rw [e, ih (k + 1) (P ++ [a]) Z (by simpa using hz) (by simp [hp]; omega)]
        simp
  have := key A 0 L Z h rfl
  exact this
theorem Tryz.zeroItem : ((Tryz.prog.info? 315).map fun i => i.zero.map fun z => z.cells.toList) = some (some (.bool false :: .int .u64 0 :: .int .u64 0 :: (List.replicate 32 (.int .u8 0) ++ [.int .i64 0]))) := by kernel_rfl
theorem item_zero : ∃ i z, Tryz.prog.info? 315 = some i ∧ i.zero = some z ∧ z.cells = (.bool false :: .int .u64 0 :: .int .u64 0 :: (List.replicate 32 (.int .u8 0) ++ [.int .i64 0])).toArray := by
  have h := Tryz.zeroItem
  cases hi : Tryz.prog.info? 315 with
  | none => rw [hi] at h; simp at h
  | some i =>
    rw [hi, Option.map_some, Option.some.injEq] at h
    cases hz : i.zero with
    | none => rw [hz] at h; simp at h
    | some z =>
      rw [hz, Option.map_some, Option.some.injEq] at h
      exact ⟨i, z, rfl, hz, by rw [← h]⟩
theorem built_struct {P : Program} {t : TypeId} {it : TypeInfo} {z : Value} {fields : Array Field} {places : List (Nat × Nat)} (hi : P.info? t = some it) (hu : P.underlying t = some (.struct fields)) (hz : it.zero = some z)
    (hp : fields.toList.mapM (fun f => (P.info? f.type).map fun i => (f.offset, i.size)) = some places) (parts : List (Nat × Value)) : P.built t parts = Instr.fill (places.toArray[·]?) z.cells parts := by
  unfold Program.built
  rw [hi, hu]
  simp only [hz, hp]
theorem built_item (b : Bool) (A : List Value) (h : A.length = 35) : Tryz.prog.built 315 [(0, .bool b), (1, .agg A.toArray)] = some (.bool b :: A).toArray := by
  obtain ⟨i, z, hi, hz, hc⟩ := item_zero
  rw [built_struct (places := [(0, 1), (1, 35)]) hi Tryz.underlying315 hz (by kernel_rfl), hc]
  have hf := fill_all (.int .u64 0 :: .int .u64 0 :: (List.replicate 32 (.int .u8 0) ++ [.int .i64 0])) A [.bool b] (by rw [h]; rfl)
  have hZ : (.int .u64 0 :: .int .u64 0 :: (List.replicate 32 (.int .u8 0) ++ [.int .i64 0]) : List Value).length = 35 := rfl
  generalize (.int .u64 0 :: .int .u64 0 :: (List.replicate 32 (.int .u8 0) ++ [.int .i64 0]) : List Value) = Z at hf hZ ⊢
  simp [Instr.fill, Value.cells, h, hZ]
  exact hf
theorem row_item (A : List Value) (h : A.length = 36) (w : World) : (Instr.buildSlice 256 1 #[(0, .agg A.toArray)]).run Tryz.prog w = .ok (.slice (some ⟨w.heap.size, 0, none⟩) 1 1) (w.alloc (.cells A.toArray 315)) := by
  obtain ⟨i, z, hi, hz, hc⟩ := item_zero
  have hsz : i.size = 36 := by have := Tryz.infoItem; rw [hi] at this; simpa using this
  refine run_buildSlice w _ _ 1 _ _ i z Tryz.underlying256 hi hz (by rw [hsz]; decide) (by rw [hsz]; decide) ?_
  rw [hsz, hc]
  generalize hW : Array.map _ _ = W
  have hWs : W.toList.length = A.length := by rw [← hW, h]; simp
  have hf := fill_all W.toList A [] hWs
  have hWs2 : W.size = 36 := by rw [← h, ← hWs]; simp
  simp [Instr.fill, Value.cells, h, hWs2] at hf ⊢
  exact hf
/-- The same, kept whole. -/
def bdItem (p : Array (Nat × Value)) : Sem Value := Instr.build 315 p
theorem bd_item_fold (p : Array (Nat × Value)) : Instr.build 315 p = bdItem p := rfl
theorem bd_item (b : Bool) (A : List Value) (w : World) : (bdItem #[(0, .bool b), (1, .agg A.toArray)]).run Tryz.prog w = if A.length = 35 then .ok (.agg (.bool b :: A).toArray) w else (Instr.build 315 #[(0, .bool b), (1, .agg A.toArray)]).run Tryz.prog w := by
  by_cases h : A.length = 35
  · rw [if_pos h]; exact run_build w _ _ _ (built_item b A h)
  · rw [if_neg h]; rfl
def bsItem (n : Nat) (p : Array (Nat × Value)) : Sem Value := Instr.buildSlice 256 n p
theorem bs_item_fold (n : Nat) (p : Array (Nat × Value)) : Instr.buildSlice 256 n p = bsItem n p := rfl
theorem bs_item (A : List Value) (w : World) : (bsItem 1 #[(0, .agg A.toArray)]).run Tryz.prog w = if A.length = 36 then .ok (.slice (some ⟨w.heap.size, 0, none⟩) 1 1) (w.alloc (.cells A.toArray 315)) else (Instr.buildSlice 256 1 #[(0, .agg A.toArray)]).run Tryz.prog w := by
  by_cases h : A.length = 36
  · rw [if_pos h]; exact row_item A h w
  · rw [if_neg h]; rfl

attribute [local go_sem ↓ high] ld_live_fold ld_htlc_fold st_live_fold bd_item_fold bs_item_fold
attribute [local go_sem] ld_live ld_htlc st_live bd_item bs_item

/-- What a slice of items holds. -/
def Items (w : World) (v : Value) (X : List Item) : Prop := (∃ a c, v = .slice a 0 c ∧ X = []) ∨ ∃ g cap, v = .slice (some ⟨g, 0, none⟩) X.length cap ∧ Held w g 0 X
theorem Items.new {w w' : World} {v : Value} {X : List Item} (h : Items w v X) (u : New w w') : Items w' v X := by
  rcases h with h | ⟨g, cap, e, h⟩
  · exact .inl h
  · exact .inr ⟨g, cap, e, h.upd u (fun h => h)⟩

end Go.Proofs.YtjckpgcmfieaoaaGreatDoor
namespace Go.Proofs.YtjckpgcmfieaoaaGreatDoor
end Go.Proofs.YtjckpgcmfieaoaaGreatDoor
namespace Go.Proofs.YtjckpgcmfieaoaaGreatDoor
open Go.RowKit Go.Sort

attribute [local go_sem ↓ high] ld_live_fold st_live_fold
attribute [local go_sem] ld_live st_live

end Go.Proofs.YtjckpgcmfieaoaaGreatDoor
namespace Go.Proofs.YtjckpgcmfieaoaaGreatDoor
open Go.RowKit

attribute [local go_sem ↓ high] ld_live_fold st_live_fold al_live_fold bs_liv_fold
attribute [local go_sem] ld_live st_live al_live bs_liv rowN_drew

end Go.Proofs.YtjckpgcmfieaoaaGreatDoor
namespace Go.Proofs.YtjckpgcmfieaoaaGreatDoor
open Go.RowKit

attribute [local go_sem ↓ high] ld_live_fold st_live_fold al_live_fold bs_liv_fold ld_hsh_fold ld_htl_fold st_htl_fold al_htl_fold bd_htl_fold bd_liv_fold
attribute [local go_sem] ld_live st_live al_live bs_liv rowN_drew ld_hsh ld_htl st_htl al_htl bd_htl

/-- A message's cells, one by one. -/
theorem msg_at (m : MsgV) {w : World} {b : Nat} {T : TypeId} {fz : Nat × Nat} (h : w.heap[b]? = some (.cells m.cells.toArray T fz)) (hl : m.hash.length = 32) :
    w.cell? ⟨b, 0, none⟩ = some (.int .i64 m.kind) ∧ w.cell? ⟨b, 1, none⟩ = some (.int .u32 m.ch) ∧ w.cell? ⟨b, 2, none⟩ = some (.int .u64 m.id) ∧ w.cell? ⟨b, 3, none⟩ = some (.int .u64 m.amount) ∧ w.cell? ⟨b, 36, none⟩ = some (.int .i64 m.expiry) ∧ w.cell? ⟨b, 37, none⟩ = some (.int .i64 m.number) ∧ rowN w b 4 32 = some (m.hash.map (Value.int .u8)).toArray := by
  have e36 : ∀ j, m.cells[36 + j]? = ([.int .i64 m.expiry, .int .i64 m.number] : List Value)[j]? := by
    intro j
    unfold MsgV.cells
    rw [show 36 + j = (32 + j) + 4 by omega]
    simp only [List.getElem?_cons_succ]
    rw [List.getElem?_append_right (by simp [hl]), List.length_map, hl, Nat.add_sub_cancel_left]
  refine ⟨blk_cell h 0, blk_cell h 1, blk_cell h 2, blk_cell h 3, ?_, ?_, ?_⟩
  · rw [blk_cell h 36, List.getElem?_toArray]; exact e36 0
  · rw [blk_cell h 37, List.getElem?_toArray]; exact e36 1
  · rw [rowN_blk h 4 32 (by rw [List.size_toArray, m.len hl]; omega)]
    congr 1
    apply Array.ext'
    rw [Array.toList_extract]
    unfold MsgV.cells
    simp [hl]

end Go.Proofs.YtjckpgcmfieaoaaGreatDoor
namespace Go.Proofs.YtjckpgcmfieaoaaGreatDoor
open Go.RowKit

/-- A message lies in a block of its own. -/
structure MsB (w : World) (b : Nat) (m : MsgV) : Prop where
  at_ : w.heap[b]? = some (.cells m.cells.toArray 159 (0, 0))
  len : m.hash.length = 32
section
variable {S : Nat → Prop} {w w' : World} {b : Nat} {m : MsgV}
theorem MsB.upd (a : MsB w b m) (u : Upd S w w') (n : ¬ S b) : MsB w' b m := ⟨u.old a.at_ n, a.len⟩
theorem MsB.new (a : MsB w b m) (u : New w w') : MsB w' b m := a.upd u (fun h => h)
theorem MsB.lt (a : MsB w b m) : b < w.heap.size := blk_lt a.at_
theorem MsB.row (a : MsB w b m) : rowN w b 0 38 = some m.cells.toArray := rowN_whole a.at_ 38 (by rw [List.size_toArray, m.len a.len])
theorem MsB.stOk (a : MsB w b m) {k : MsgV} (hk : k.hash.length = 32) : stOk w b 0 38 k.cells.toArray = true := by
  have := stOk_all a.at_ (A := k.cells) (by rw [List.size_toArray, m.len a.len, k.len hk]) k.one
  rwa [List.size_toArray, m.len a.len] at this
theorem MsB.put (a : MsB w b m) {k : MsgV} (hk : k.hash.length = 32) : MsB (w.setCells b 0 k.cells) b k := by
  refine ⟨?_, hk⟩
  rw [blk_setCells a.at_ 0 _, layIn_whole _ _ (by rw [List.size_toArray, m.len a.len, k.len hk])]
theorem MsB.cells (a : MsB w b m) : w.cell? ⟨b, 0, none⟩ = some (.int .i64 m.kind) ∧ w.cell? ⟨b, 1, none⟩ = some (.int .u32 m.ch) ∧ w.cell? ⟨b, 2, none⟩ = some (.int .u64 m.id) ∧ w.cell? ⟨b, 3, none⟩ = some (.int .u64 m.amount) ∧ w.cell? ⟨b, 36, none⟩ = some (.int .i64 m.expiry) ∧ w.cell? ⟨b, 37, none⟩ = some (.int .i64 m.number) ∧ rowN w b 4 32 = some (hshV m.hash).toArray := msg_at m a.at_ a.len
end
theorem MsB.agg {w : World} {b : Nat} {m : MsgV} (a : MsB w b m) : m.cells.toArray.size = 38 := by rw [List.size_toArray, m.len a.len]

-- messages built of parts

-- cells put
section
variable {w : World} {g : Nat} {S : Nat → Prop} {c : Ch} {lv nv av : Value}
/-- The seed's cells. -/
theorem ChP.seed (h : ChP w g S c lv nv av) : rowN w g 3 32 = some (hshV c.s.seed).toArray := by
  have hl := h.ok.s.seed
  have hs : 3 + 32 ≤ (c.v lv nv av).cells.toArray.size := by
    rw [List.size_toArray]
    unfold ChanV.cells
    rw [List.length_append, (c.v lv nv av).setup.len hl]
    omega
  rw [rowN_blk h.at_ 3 32 hs]
  congr 1
  apply Array.ext'
  rw [Array.toList_extract]
  unfold ChanV.cells
  show List.extract (c.s.cells ++ _) 3 35 = hshV c.s.seed
  unfold SetupV.cells
  simp [hl, hshV]
theorem ChP.key (h : ChP w g S c lv nv av) : w.cell? ⟨g, 35, none⟩ = some (.string c.s.key) := (h.toR.low 35 (by omega)).trans (c.s.c35 h.ok.s.seed)
theorem ChP.peer (h : ChP w g S c lv nv av) : w.cell? ⟨g, 36, none⟩ = some (.string c.s.peer) := (h.toR.low 36 (by omega)).trans (c.s.c36 h.ok.s.seed)
/-- The base's cells. -/
theorem ChP.base (h : ChP w g S c lv nv av) : rowN w g 45 2 = some #[.int .u64 c.loc, .int .u64 c.rem] := by
  have hl := h.ok.s.seed
  have hc : (c.v lv nv av).cells = c.s.cells ++ (c.k.cells ++ ([.int .u64 c.loc, .int .u64 c.rem] ++ (lv :: ((c.v lv nv av).told ++ [nv, av])))) := rfl
  have h37 : c.s.cells.length = 37 := c.s.len hl
  have hs : 45 + 2 ≤ (c.v lv nv av).cells.toArray.size := by
    rw [List.size_toArray, hc, List.length_append, List.length_append, List.length_append, h37]
    show 45 + 2 ≤ 37 + (8 + (2 + _))
    omega
  rw [rowN_blk h.at_ 45 2 hs]
  congr 1
  apply Array.ext'
  rw [Array.toList_extract, hc]
  show List.extract (c.s.cells ++ _) 45 47 = _
  rw [List.extract_eq_take_drop, List.drop_append, h37, List.drop_of_length_le (by omega), List.nil_append]
  show List.take 2 (List.drop 8 (c.k.cells ++ _)) = _
  rw [List.drop_append_of_le_length (by show 8 ≤ 8; omega)]
  rfl
end
/-- What was said: a row that the call made. -/
def SaidO (base : Nat) (w : World) (v : Value) (ms : List MsgV) : Prop := w.ownsRow base 159 38 v ms.length (ms.flatMap MsgV.cells)
theorem SaidO.nil (base : Nat) (w : World) : SaidO base w nilV [] := World.ownsRow_nil _ _ _ _

/-- The table of math/bits. -/
structure Deb (w : World) : Prop where
  tab : ∀ j, j < 64 → w.cell? ⟨9, j, none⟩ = some (.int .u8 (Lib.deBruijn64tab.getD j 0))
theorem Deb.upd {S : Nat → Prop} {w w' : World} (h : Deb w) (u : Upd S w w') (h0 : ¬ S 9) : Deb w' := ⟨fun i hi => u.cell (h.tab i hi) h0⟩
theorem Deb.new {w w' : World} (h : Deb w) (u : New w w') : Deb w' := h.upd u (fun h => h)

def isNumB (i : Int) : Bool := decide (0 ≤ i) && decide (i < 65536)

attribute [local go_sem ↓ high] ld_hsh_fold st_hsh_fold al_hsh_fold bd_hsh_fold
attribute [local go_sem] ld_hsh st_hsh al_hsh bd_hsh rowN_drew

def makeI (h : List Int) (i : Int) : List Int × Int := if isNumB i = true then (chainI h i.toNat 16, 0) else (z32i, 1)

end Go.Proofs.YtjckpgcmfieaoaaGreatDoor
namespace Go.Proofs.YtjckpgcmfieaoaaGreatDoor
open Go.RowKit

attribute [local go_sem ↓ high] ld_hsh_fold st_hsh_fold al_hsh_fold bd_hsh_fold ld_msg_fold st_msg_fold al_msg_fold bd_msg_fold
attribute [local go_sem] ld_hsh st_hsh al_hsh bd_hsh rowN_drew ld_msg st_msg al_msg

def Ch.secret (c : Ch) (n : Int) : List Int × Int := if n < 0 ∨ c.k.heard ≤ n then (z32i, 1) else makeI c.s.seed (65535 - n)

end Go.Proofs.YtjckpgcmfieaoaaGreatDoor
namespace Go.Proofs.YtjckpgcmfieaoaaGreatDoor
open Go.RowKit

def neHsh (x y : Value) : Sem Value := binOp .neq 30 x y
theorem ne_hsh_fold (x y : Value) : binOp .neq 30 x y = neHsh x y := rfl

theorem KeptV.len (k : KeptV) (h : k.told.length = 32) : k.cells.length = 34 := by simp [KeptV.cells, h]
theorem KeptV.one (k : KeptV) : ∀ v ∈ k.cells, v.oneCell' = true := by
  intro v hv
  simp only [KeptV.cells, List.mem_cons, List.mem_map] at hv
  rcases hv with rfl | rfl | ⟨n, _, rfl⟩ <;> rfl
theorem Tryz.infoKpt : (Tryz.prog.info? 174).map (·.size) = some 34 := by kernel_rfl
def ldKpt (x : Value) : Sem Value := Instr.loadAt 174 x
theorem ld_kpt_fold (x : Value) : Instr.loadAt 174 x = ldKpt x := rfl
theorem ld_kpt (b o : Nat) (w : World) : (ldKpt (.pointer (some ⟨b, o, none⟩))).run Tryz.prog w = match rowN w b o 34 with | some A => .ok (.agg A) w | none => slowLd Tryz.prog 174 w b o :=
  run_loadAt_rowN 174 34 _ Tryz.underlying174 rfl Tryz.infoKpt b o w
def stKpt (x v : Value) : Sem Unit := Instr.storeAt 174 x v
theorem st_kpt_fold (x v : Value) : Instr.storeAt 174 x v = stKpt x v := rfl
theorem st_kpt (b o : Nat) (A : Array Value) (w : World) : (stKpt (.pointer (some ⟨b, o, none⟩)) (.agg A)).run Tryz.prog w = if stOk w b o 34 A = true then .ok () (w.setCells b o A.toList) else slowSt Tryz.prog 174 w b o A :=
  run_storeAt_row 174 34 Tryz.infoKpt b o A w
def alKpt : Sem Value := Instr.alloc 174 true (.tuple #[])
theorem al_kpt_fold : Instr.alloc 174 true (.tuple #[]) = alKpt := rfl
theorem al_kpt (w : World) : alKpt.run Tryz.prog w = .ok (.pointer (some ⟨w.heap.size, 0, none⟩)) (w.alloc (.cells KeptV.zero.cells.toArray 174)) := by kernel_rfl
def bdKpt (p : Array (Nat × Value)) : Sem Value := Instr.build 174 p
theorem bd_kpt_fold (p : Array (Nat × Value)) : Instr.build 174 p = bdKpt p := rfl
theorem bd_kpt_zero (w : World) : (bdKpt #[]).run Tryz.prog w = .ok (.agg KeptV.zero.cells.toArray) w := run_build w _ _ _ (by kernel_rfl)
/-- A kept secret in a block of its own. -/
structure KpS (w : World) (b : Nat) (k : KeptV) : Prop where
  at_ : w.heap[b]? = some (.cells k.cells.toArray 174 (0, 0))
  len : k.told.length = 32
section
variable {S : Nat → Prop} {w w' : World} {b : Nat} {k : KeptV}
theorem KpS.upd (a : KpS w b k) (u : Upd S w w') (n : ¬ S b) : KpS w' b k := ⟨u.old a.at_ n, a.len⟩
theorem KpS.new (a : KpS w b k) (u : New w w') : KpS w' b k := a.upd u (fun h => h)
theorem KpS.lt (a : KpS w b k) : b < w.heap.size := blk_lt a.at_
theorem KpS.row (a : KpS w b k) : rowN w b 0 34 = some k.cells.toArray := rowN_whole a.at_ 34 (by rw [List.size_toArray, k.len a.len])
theorem KpS.stOk (a : KpS w b k) {j : KeptV} (hk : j.told.length = 32) : stOk w b 0 34 j.cells.toArray = true := by
  have := stOk_all a.at_ (A := j.cells) (by rw [List.size_toArray, k.len a.len, j.len hk]) j.one
  rwa [List.size_toArray, k.len a.len] at this
theorem KpS.put (a : KpS w b k) {j : KeptV} (hk : j.told.length = 32) : KpS (w.setCells b 0 j.cells) b j := by
  refine ⟨?_, hk⟩
  rw [blk_setCells a.at_ 0 _, layIn_whole _ _ (by rw [List.size_toArray, k.len a.len, j.len hk])]
theorem KpS.c0 (a : KpS w b k) : w.cell? ⟨b, 0, none⟩ = some (.bool k.full) := blk_cell a.at_ 0
theorem KpS.c1 (a : KpS w b k) : w.cell? ⟨b, 1, none⟩ = some (.int .i64 k.number) := blk_cell a.at_ 1
theorem KpS.hsh (a : KpS w b k) : rowN w b 2 32 = some (hshV k.told).toArray := by
  rw [rowN_blk a.at_ 2 32 (by rw [List.size_toArray, k.len a.len]; omega)]
  congr 1
  apply Array.ext'
  rw [Array.toList_extract]
  unfold KeptV.cells
  show List.take 32 (hshV k.told) = hshV k.told
  exact List.take_of_length_le (by rw [hshV_len, a.len]; exact Nat.le_refl _)
end
attribute [local go_sem ↓ high] ld_hsh_fold st_hsh_fold al_hsh_fold bd_hsh_fold ld_kpt_fold st_kpt_fold al_kpt_fold bd_kpt_fold ne_hsh_fold
attribute [local go_sem] ld_hsh st_hsh al_hsh bd_hsh rowN_drew ld_kpt st_kpt al_kpt bd_kpt_zero

-- the shelf's rows
theorem drop_app {α : Type} {A B : List α} {n : Nat} (h : A.length = n) : (A ++ B).drop n = B := by subst h; simp
theorem flat_drop' (X : List KeptV) (hX : ∀ p ∈ X, p.told.length = 32) : ∀ (i : Nat) (x : KeptV), X[i]? = some x → ∃ R, (X.flatMap KeptV.cells).drop (i * 34) = x.cells ++ R := by
  induction X with
  | nil => intro i x h; simp at h
  | cons y X ih =>
    intro i x h
    have hy : y.cells.length = 34 := y.len (hX y (List.mem_cons_self ..))
    cases i with
    | zero =>
      simp only [List.getElem?_cons_zero, Option.some.injEq] at h
      subst h
      exact ⟨X.flatMap KeptV.cells, by simp⟩
    | succ i =>
      rw [List.getElem?_cons_succ] at h
      obtain ⟨R, hR⟩ := ih (fun p hp => hX p (List.mem_cons_of_mem _ hp)) i x h
      refine ⟨R, ?_⟩
      rw [List.flatMap_cons, Nat.add_mul, Nat.one_mul, Nat.add_comm (i * 34) 34, ← List.drop_drop, drop_app hy, hR]
theorem ChP.kept {w : World} {g : Nat} {S : Nat → Prop} {c : Ch} {lv nv av : Value} (h : ChP w g S c lv nv av) {i : Nat} {p : KeptV} (hi : c.shelf[i]? = some p) : rowN w g (48 + i * 34) 34 = some p.cells.toArray := by
  have hl := h.ok.s.seed
  have hlt := (List.getElem?_eq_some_iff.1 hi).1
  have hp := h.ok.shelf.2 p (List.mem_of_getElem? hi)
  have h37 : c.s.cells.length = 37 := c.s.len hl
  have ht : (c.shelf.flatMap KeptV.cells).length = 578 := by rw [told_len _ h.ok.shelf.2, h.ok.shelf.1]
  have hc : (c.v lv nv av).cells = (c.s.cells ++ (c.k.cells ++ [.int .u64 c.loc, .int .u64 c.rem, lv])) ++ (c.shelf.flatMap KeptV.cells ++ [nv, av]) := by
    show c.s.cells ++ (c.k.cells ++ (Value.int .u64 c.loc :: .int .u64 c.rem :: lv :: (c.shelf.flatMap KeptV.cells ++ [nv, av]))) = _
    simp
  have h48 : (c.s.cells ++ (c.k.cells ++ [.int .u64 c.loc, .int .u64 c.rem, lv])).length = 48 := by
    rw [List.length_append, List.length_append, h37]
    rfl
  have h17 := h.ok.shelf.1
  have hs : 48 + i * 34 + 34 ≤ (c.v lv nv av).cells.toArray.size := by
    rw [List.size_toArray, hc, List.length_append, h48, List.length_append, ht]
    show 48 + i * 34 + 34 ≤ 48 + (578 + 2)
    omega
  rw [rowN_blk h.at_ _ 34 hs]
  congr 1
  apply Array.ext'
  rw [Array.toList_extract, hc]
  show List.extract (_ ++ _) (48 + i * 34) (48 + i * 34 + 34) = _
  rw [List.extract_eq_take_drop, Nat.add_sub_cancel_left, ← List.drop_drop, drop_app h48]
  obtain ⟨R, hR⟩ := flat_drop' c.shelf h.ok.shelf.2 i p hi
  rw [List.drop_append_of_le_length (by omega), hR, List.append_assoc, List.take_append_of_le_length (by rw [p.len hp]; exact Nat.le_refl _), List.take_of_length_le (by rw [p.len hp]; exact Nat.le_refl _)]

end Go.Proofs.YtjckpgcmfieaoaaGreatDoor
namespace Go.Proofs.YtjckpgcmfieaoaaGreatDoor
open Go.RowKit

attribute [local go_sem ↓ high] ld_hsh_fold st_hsh_fold al_hsh_fold bd_hsh_fold ld_kpt_fold st_kpt_fold al_kpt_fold bd_kpt_fold ne_hsh_fold
attribute [local go_sem] ld_hsh st_hsh al_hsh bd_hsh rowN_drew ld_kpt st_kpt al_kpt bd_kpt_zero

end Go.Proofs.YtjckpgcmfieaoaaGreatDoor
namespace Go.Proofs.YtjckpgcmfieaoaaGreatDoor
open Go.RowKit

inductive Fld where
  | ch
  | id
  | amount
  | hash
  | expiry
  | number
def Fld.zero (x : Fld) (m : MsgV) : MsgV :=
  match x with
  | .ch => { m with ch := 0 }
  | .id => { m with id := 0 }
  | .amount => { m with amount := 0 }
  | .hash => { m with hash := z32i }
  | .expiry => { m with expiry := 0 }
  | .number => { m with number := 0 }
/-- A closure made by number. -/
def NumV (base : Nat) (w : World) (v : Value) (f F : FuncId) (n : Int) : Prop :=
  ∃ p q, v = .func (.func f) #[] #[.pointer (some ⟨p, 0, none⟩), .pointer (some ⟨q, 0, none⟩)] ∧ base ≤ p ∧ base ≤ q ∧ w.cell? ⟨p, 0, none⟩ = some (.func (.func F) #[] #[]) ∧ w.cell? ⟨q, 0, none⟩ = some (.int .i64 n)
/-- What a field's closure is. -/
def FldV (base : Nat) (w : World) (v : Value) (x : Fld) : Prop :=
  match x with
  | .ch => NumV base w v 343 329 4
  | .id => NumV base w v 326 285 8
  | .amount => NumV base w v 326 286 8
  | .hash => v = .func (.func 291) #[] #[]
  | .expiry => NumV base w v 327 288 4
  | .number => NumV base w v 327 289 2
theorem NumV.upd {base : Nat} {w w' : World} {v : Value} {f F : FuncId} {n : Int} {S : Nat → Prop} (h : NumV base w v f F n) (u : Upd S w w') (hS : ∀ k, base ≤ k → ¬ S k) : NumV base w' v f F n := by
  obtain ⟨p, q, e, hp, hq, cp, cq⟩ := h
  exact ⟨p, q, e, hp, hq, u.cell cp (hS p hp), u.cell cq (hS q hq)⟩
theorem FldV.upd {base : Nat} {w w' : World} {v : Value} {x : Fld} {S : Nat → Prop} (h : FldV base w v x) (u : Upd S w w') (hS : ∀ k, base ≤ k → ¬ S k) : FldV base w' v x := by
  cases x <;> first | exact NumV.upd h u hS | exact h
theorem FldV.new {base : Nat} {w w' : World} {v : Value} {x : Fld} (h : FldV base w v x) (u : New w w') : FldV base w' v x := h.upd u (fun _ _ h => h)
theorem NumV.one {base : Nat} {w : World} {v : Value} {f F : FuncId} {n : Int} (h : NumV base w v f F n) : v.oneCell' = true := by
  obtain ⟨p, q, rfl, _⟩ := h
  rfl
theorem FldV.one {base : Nat} {w : World} {v : Value} {x : Fld} (h : FldV base w v x) : v.oneCell' = true := by
  cases x <;> first | exact NumV.one h | (have h : v = _ := h; rw [h]; rfl)

attribute [local go_sem ↓ high] ld_hsh_fold st_hsh_fold al_hsh_fold bd_hsh_fold
attribute [local go_sem] ld_hsh st_hsh al_hsh bd_hsh rowN_drew

end Go.Proofs.YtjckpgcmfieaoaaGreatDoor
namespace Go.Proofs.YtjckpgcmfieaoaaGreatDoor
open Go.RowKit

theorem NumV.later {a b : Nat} {w : World} {v : Value} {f F : FuncId} {n : Int} (h : NumV b w v f F n) (ab : a ≤ b) : NumV a w v f F n := by
  obtain ⟨p, q, e, hp, hq, r⟩ := h
  exact ⟨p, q, e, by omega, by omega, r⟩
theorem FldV.later {a b : Nat} {w : World} {v : Value} {x : Fld} (h : FldV b w v x) (ab : a ≤ b) : FldV a w v x := by
  cases x <;> first | exact NumV.later h ab | exact h

def fieldsOf (kind : Int) : Option (List Fld) :=
  if kind = 1 then some [.ch, .amount] else if kind = 2 then some [.ch] else if kind = 3 then some [.ch, .id, .amount, .hash, .expiry] else if kind = 4 then some [.ch, .id, .hash] else if kind = 5 then some [.ch, .id, .number]
  else if kind = 6 then some [.ch, .number, .hash] else if kind = 7 then some [.ch, .number, .hash] else if kind = 8 then some [.ch] else if kind = 9 then some [.ch, .number, .id] else none

def zeros (xs : List Fld) (m : MsgV) : MsgV := xs.foldl (fun m x => x.zero m) m

-- equality of messages
theorem Tryz.eqMsg : eqB Tryz.prog 5 159 = true := by kernel_rfl
def eqMsg (x y : Value) : Sem Value := binOp .eql 159 x y
theorem eq_msg_fold (x y : Value) : binOp .eql 159 x y = eqMsg x y := rfl
instance : DecidableEq MsgV := fun a b =>
  decidable_of_iff (a.kind = b.kind ∧ a.ch = b.ch ∧ a.id = b.id ∧ a.amount = b.amount ∧ a.hash = b.hash ∧ a.expiry = b.expiry ∧ a.number = b.number)
    ⟨by rintro ⟨h1, h2, h3, h4, h5, h6, h7⟩; cases a; cases b; simp_all, by rintro rfl; exact ⟨rfl, rfl, rfl, rfl, rfl, rfl, rfl⟩⟩

attribute [local go_sem ↓ high] ld_msg_fold st_msg_fold al_msg_fold bd_msg_fold eq_msg_fold
attribute [local go_sem] ld_msg st_msg al_msg rowN_drew

end Go.Proofs.YtjckpgcmfieaoaaGreatDoor
namespace Go.Proofs.YtjckpgcmfieaoaaGreatDoor
open Go.RowKit

def Fld.put (x : Fld) (m : MsgV) : ByteArray :=
  match x with
  | .ch => numS m.ch.toNat 4
  | .id => numS m.id.toNat 8
  | .amount => numS m.amount.toNat 8
  | .hash => strOfNums m.hash
  | .expiry => numS m.expiry.toNat 4
  | .number => numS m.number.toNat 2
theorem Fld.put_size (x : Fld) (m : MsgV) (h : m.hash.length = 32) : (x.put m).size ≤ 32 := by
  cases x
  case hash => show (strOfNums m.hash).size ≤ 32; rw [strOfNums_size, h]; exact Nat.le_refl _
  all_goals (unfold Fld.put; simp only [numS_size]; decide)
attribute [local go_sem ↓ high] ld_hsh_fold st_hsh_fold al_hsh_fold bd_hsh_fold
attribute [local go_sem] ld_hsh st_hsh al_hsh bd_hsh rowN_drew

end Go.Proofs.YtjckpgcmfieaoaaGreatDoor
