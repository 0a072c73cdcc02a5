/-
  An item that is built of its parts, and a row of one item.
-/
import Derived.Test.YtjckpgcmfieaoaaGreatDoorMdc
import Derived.Great.BuildSlice
import Derived.Deep.CutRange
import Derived.Test.YtjckpgcmfieaoaaGreatDoorMci
import Derived.Test.YtjckpgcmfieaoaaGreatDoorMda
import Derived.Test.YtjckpgcmfieaoaaGreatDoorTxt
import Derived.Test.YtjckpgcmfieaoaaGreatDoorProg
import Derived.Lib.TrailingZeros
import Derived.Laws.Bits64b
import Derived.Test.YtjckpgcmfieaoaaGreatDoorMdb
import Derived.Test.YtjckpgcmfieaoaaGreatDoorMaa
import Derived.Test.YtjckpgcmfieaoaaGreatDoorMcf
set_option linter.unusedVariables false
set_option linter.unusedSimpArgs false
namespace Go.Proofs.YtjckpgcmfieaoaaGreatDoor
open Go.RowKit Go.Sort

theorem fill_all (Z : List Value) : ∀ (A : List Value) (L : List Value), Z.length = A.length → (A.zipIdx).foldl (fun (cs : Array Value) (c, j) => cs.setIfInBounds (L.length + j) c) (L ++ Z).toArray = (L ++ A).toArray := by
  intro A L h
  have key : ∀ (A : List Value) (k : Nat) (P Z : List Value), Z.length = A.length → P.length = L.length + k → (A.zipIdx k).foldl (fun (cs : Array Value) (c, j) => cs.setIfInBounds (L.length + j) c) (P ++ Z).toArray = (P ++ A).toArray := by
    intro A
    induction A with
    | nil => intro k P Z hz _; rw [List.length_eq_zero_iff.1 hz]; rfl
    | cons a A ih =>
      intro k P Z hz hp
      cases Z with
      | nil => simp at hz
      | cons z Z =>
        rw [List.zipIdx_cons, List.foldl_cons]
        have e : (P ++ z :: Z).toArray.setIfInBounds (L.length + k) a = ((P ++ [a]) ++ Z).toArray := by
          rw [← hp]; simp
        show List.foldl _ ((P ++ z :: Z).toArray.setIfInBounds (L.length + k) a) _ = _
        rw [e, ih (k + 1) (P ++ [a]) Z (by simpa using hz) (by simp [hp]; omega)]
        simp
  have := key A 0 L Z h rfl
  exact this
theorem Tryz.zeroItem : ((Tryz.prog.info? 315).map fun i => i.zero.map fun z => z.cells.toList) = some (some (.bool false :: .int .u64 0 :: .int .u64 0 :: (List.replicate 32 (.int .u8 0) ++ [.int .i64 0]))) := by kernel_rfl
theorem item_zero : ∃ i z, Tryz.prog.info? 315 = some i ∧ i.zero = some z ∧ z.cells = (.bool false :: .int .u64 0 :: .int .u64 0 :: (List.replicate 32 (.int .u8 0) ++ [.int .i64 0])).toArray := by
  have h := Tryz.zeroItem
  cases hi : Tryz.prog.info? 315 with
  | none => rw [hi] at h; simp at h
  | some i =>
    rw [hi, Option.map_some, Option.some.injEq] at h
    cases hz : i.zero with
    | none => rw [hz] at h; simp at h
    | some z =>
      rw [hz, Option.map_some, Option.some.injEq] at h
      exact ⟨i, z, rfl, hz, by rw [← h]⟩
theorem built_struct {P : Program} {t : TypeId} {it : TypeInfo} {z : Value} {fields : Array Field} {places : List (Nat × Nat)} (hi : P.info? t = some it) (hu : P.underlying t = some (.struct fields)) (hz : it.zero = some z)
    (hp : fields.toList.mapM (fun f => (P.info? f.type).map fun i => (f.offset, i.size)) = some places) (parts : List (Nat × Value)) : P.built t parts = Instr.fill (places.toArray[·]?) z.cells parts := by
  unfold Program.built
  rw [hi, hu]
  simp only [hz, hp]
theorem built_item (b : Bool) (A : List Value) (h : A.length = 35) : Tryz.prog.built 315 [(0, .bool b), (1, .agg A.toArray)] = some (.bool b :: A).toArray := by
  obtain ⟨i, z, hi, hz, hc⟩ := item_zero
  rw [built_struct (places := [(0, 1), (1, 35)]) hi Tryz.underlying315 hz (by kernel_rfl), hc]
  have hf := fill_all (.int .u64 0 :: .int .u64 0 :: (List.replicate 32 (.int .u8 0) ++ [.int .i64 0])) A [.bool b] (by rw [h]; rfl)
  have hZ : (.int .u64 0 :: .int .u64 0 :: (List.replicate 32 (.int .u8 0) ++ [.int .i64 0]) : List Value).length = 35 := rfl
  generalize (.int .u64 0 :: .int .u64 0 :: (List.replicate 32 (.int .u8 0) ++ [.int .i64 0]) : List Value) = Z at hf hZ ⊢
  simp [Instr.fill, Value.cells, h, hZ]
  exact hf
theorem row_item (A : List Value) (h : A.length = 36) (w : World) : (Instr.buildSlice 256 1 #[(0, .agg A.toArray)]).run Tryz.prog w = .ok (.slice (some ⟨w.heap.size, 0, none⟩) 1 1) (w.alloc (.cells A.toArray 315)) := by
  obtain ⟨i, z, hi, hz, hc⟩ := item_zero
  have hsz : i.size = 36 := by have := Tryz.infoItem; rw [hi] at this; simpa using this
  refine run_buildSlice w _ _ 1 _ _ i z Tryz.underlying256 hi hz (by rw [hsz]; decide) (by rw [hsz]; decide) ?_
  rw [hsz, hc]
  generalize hW : Array.map _ _ = W
  have hWs : W.toList.length = A.length := by rw [← hW, h]; simp
  have hf := fill_all W.toList A [] hWs
  have hWs2 : W.size = 36 := by rw [← h, ← hWs]; simp
  simp [Instr.fill, Value.cells, h, hWs2] at hf ⊢
  exact hf
/-- The same, kept whole. -/
def bdItem (p : Array (Nat × Value)) : Sem Value := Instr.build 315 p
theorem bd_item_fold (p : Array (Nat × Value)) : Instr.build 315 p = bdItem p := rfl
theorem bd_item (b : Bool) (A : List Value) (w : World) : (bdItem #[(0, .bool b), (1, .agg A.toArray)]).run Tryz.prog w = if A.length = 35 then .ok (.agg (.bool b :: A).toArray) w else (Instr.build 315 #[(0, .bool b), (1, .agg A.toArray)]).run Tryz.prog w := by
  by_cases h : A.length = 35
  · rw [if_pos h]; exact run_build w _ _ _ (built_item b A h)
  · rw [if_neg h]; rfl
def bsItem (n : Nat) (p : Array (Nat × Value)) : Sem Value := Instr.buildSlice 256 n p
theorem bs_item_fold (n : Nat) (p : Array (Nat × Value)) : Instr.buildSlice 256 n p = bsItem n p := rfl
theorem bs_item (A : List Value) (w : World) : (bsItem 1 #[(0, .agg A.toArray)]).run Tryz.prog w = if A.length = 36 then .ok (.slice (some ⟨w.heap.size, 0, none⟩) 1 1) (w.alloc (.cells A.toArray 315)) else (Instr.buildSlice 256 1 #[(0, .agg A.toArray)]).run Tryz.prog w := by
  by_cases h : A.length = 36
  · rw [if_pos h]; exact row_item A h w
  · rw [if_neg h]; rfl

attribute [local go_sem ↓ high] ld_live_fold ld_htlc_fold st_live_fold bd_item_fold bs_item_fold
attribute [local go_sem] ld_live ld_htlc st_live bd_item bs_item

/-- What a slice of items holds. -/
def Items (w : World) (v : Value) (X : List Item) : Prop := (∃ a c, v = .slice a 0 c ∧ X = []) ∨ ∃ g cap, v = .slice (some ⟨g, 0, none⟩) X.length cap ∧ Held w g 0 X
theorem Items.new {w w' : World} {v : Value} {X : List Item} (h : Items w v X) (u : New w w') : Items w' v X := by
  rcases h with h | ⟨g, cap, e, h⟩
  · exact .inl h
  · exact .inr ⟨g, cap, e, h.upd u (fun h => h)⟩

end Go.Proofs.YtjckpgcmfieaoaaGreatDoor
namespace Go.Proofs.YtjckpgcmfieaoaaGreatDoor
end Go.Proofs.YtjckpgcmfieaoaaGreatDoor
namespace Go.Proofs.YtjckpgcmfieaoaaGreatDoor
open Go.RowKit Go.Sort

attribute [local go_sem ↓ high] ld_live_fold st_live_fold
attribute [local go_sem] ld_live st_live

end Go.Proofs.YtjckpgcmfieaoaaGreatDoor
namespace Go.Proofs.YtjckpgcmfieaoaaGreatDoor
open Go.RowKit

attribute [local go_sem ↓ high] ld_live_fold st_live_fold al_live_fold bs_liv_fold
attribute [local go_sem] ld_live st_live al_live bs_liv rowN_drew

end Go.Proofs.YtjckpgcmfieaoaaGreatDoor
namespace Go.Proofs.YtjckpgcmfieaoaaGreatDoor
open Go.RowKit

attribute [local go_sem ↓ high] ld_live_fold st_live_fold al_live_fold bs_liv_fold ld_hsh_fold ld_htl_fold st_htl_fold al_htl_fold bd_htl_fold bd_liv_fold
attribute [local go_sem] ld_live st_live al_live bs_liv rowN_drew ld_hsh ld_htl st_htl al_htl bd_htl

/-- A message's cells, one by one. -/
theorem msg_at (m : MsgV) {w : World} {b : Nat} {T : TypeId} {fz : Nat × Nat} (h : w.heap[b]? = some (.cells m.cells.toArray T fz)) (hl : m.hash.length = 32) :
    w.cell? ⟨b, 0, none⟩ = some (.int .i64 m.kind) ∧ w.cell? ⟨b, 1, none⟩ = some (.int .u32 m.ch) ∧ w.cell? ⟨b, 2, none⟩ = some (.int .u64 m.id) ∧ w.cell? ⟨b, 3, none⟩ = some (.int .u64 m.amount) ∧ w.cell? ⟨b, 36, none⟩ = some (.int .i64 m.expiry) ∧ w.cell? ⟨b, 37, none⟩ = some (.int .i64 m.number) ∧ rowN w b 4 32 = some (m.hash.map (Value.int .u8)).toArray := by
  have e36 : ∀ j, m.cells[36 + j]? = ([.int .i64 m.expiry, .int .i64 m.number] : List Value)[j]? := by
    intro j
    unfold MsgV.cells
    rw [show 36 + j = (32 + j) + 4 by omega]
    simp only [List.getElem?_cons_succ]
    rw [List.getElem?_append_right (by simp [hl]), List.length_map, hl, Nat.add_sub_cancel_left]
  refine ⟨blk_cell h 0, blk_cell h 1, blk_cell h 2, blk_cell h 3, ?_, ?_, ?_⟩
  · rw [blk_cell h 36, List.getElem?_toArray]; exact e36 0
  · rw [blk_cell h 37, List.getElem?_toArray]; exact e36 1
  · rw [rowN_blk h 4 32 (by rw [List.size_toArray, m.len hl]; omega)]
    congr 1
    apply Array.ext'
    rw [Array.toList_extract]
    unfold MsgV.cells
    simp [hl]

end Go.Proofs.YtjckpgcmfieaoaaGreatDoor
namespace Go.Proofs.YtjckpgcmfieaoaaGreatDoor
open Go.RowKit

/-- A message lies in a block of its own. -/
structure MsB (w : World) (b : Nat) (m : MsgV) : Prop where
  at_ : w.heap[b]? = some (.cells m.cells.toArray 159 (0, 0))
  len : m.hash.length = 32
section
variable {S : Nat → Prop} {w w' : World} {b : Nat} {m : MsgV}
theorem MsB.upd (a : MsB w b m) (u : Upd S w w') (n : ¬ S b) : MsB w' b m := ⟨u.old a.at_ n, a.len⟩
theorem MsB.new (a : MsB w b m) (u : New w w') : MsB w' b m := a.upd u (fun h => h)
theorem MsB.lt (a : MsB w b m) : b < w.heap.size := blk_lt a.at_
theorem MsB.row (a : MsB w b m) : rowN w b 0 38 = some m.cells.toArray := rowN_whole a.at_ 38 (by rw [List.size_toArray, m.len a.len])
theorem MsB.stOk (a : MsB w b m) {k : MsgV} (hk : k.hash.length = 32) : stOk w b 0 38 k.cells.toArray = true := by
  have := stOk_all a.at_ (A := k.cells) (by rw [List.size_toArray, m.len a.len, k.len hk]) k.one
  rwa [List.size_toArray, m.len a.len] at this
theorem MsB.put (a : MsB w b m) {k : MsgV} (hk : k.hash.length = 32) : MsB (w.setCells b 0 k.cells) b k := by
  refine ⟨?_, hk⟩
  rw [blk_setCells a.at_ 0 _, layIn_whole _ _ (by rw [List.size_toArray, m.len a.len, k.len hk])]
theorem MsB.cells (a : MsB w b m) : w.cell? ⟨b, 0, none⟩ = some (.int .i64 m.kind) ∧ w.cell? ⟨b, 1, none⟩ = some (.int .u32 m.ch) ∧ w.cell? ⟨b, 2, none⟩ = some (.int .u64 m.id) ∧ w.cell? ⟨b, 3, none⟩ = some (.int .u64 m.amount) ∧ w.cell? ⟨b, 36, none⟩ = some (.int .i64 m.expiry) ∧ w.cell? ⟨b, 37, none⟩ = some (.int .i64 m.number) ∧ rowN w b 4 32 = some (hshV m.hash).toArray := msg_at m a.at_ a.len
end
theorem MsB.agg {w : World} {b : Nat} {m : MsgV} (a : MsB w b m) : m.cells.toArray.size = 38 := by rw [List.size_toArray, m.len a.len]

-- messages built of parts

-- cells put
section
variable {w : World} {g : Nat} {S : Nat → Prop} {c : Ch} {lv nv av : Value}
/-- The seed's cells. -/
theorem ChP.seed (h : ChP w g S c lv nv av) : rowN w g 3 32 = some (hshV c.s.seed).toArray := by
  have hl := h.ok.s.seed
  have hs : 3 + 32 ≤ (c.v lv nv av).cells.toArray.size := by
    rw [List.size_toArray]
    unfold ChanV.cells
    rw [List.length_append, (c.v lv nv av).setup.len hl]
    omega
  rw [rowN_blk h.at_ 3 32 hs]
  congr 1
  apply Array.ext'
  rw [Array.toList_extract]
  unfold ChanV.cells
  show List.extract (c.s.cells ++ _) 3 35 = hshV c.s.seed
  unfold SetupV.cells
  simp [hl, hshV]
theorem ChP.key (h : ChP w g S c lv nv av) : w.cell? ⟨g, 35, none⟩ = some (.string c.s.key) := (h.toR.low 35 (by omega)).trans (c.s.c35 h.ok.s.seed)
theorem ChP.peer (h : ChP w g S c lv nv av) : w.cell? ⟨g, 36, none⟩ = some (.string c.s.peer) := (h.toR.low 36 (by omega)).trans (c.s.c36 h.ok.s.seed)
/-- The base's cells. -/
theorem ChP.base (h : ChP w g S c lv nv av) : rowN w g 45 2 = some #[.int .u64 c.loc, .int .u64 c.rem] := by
  have hl := h.ok.s.seed
  have hc : (c.v lv nv av).cells = c.s.cells ++ (c.k.cells ++ ([.int .u64 c.loc, .int .u64 c.rem] ++ (lv :: ((c.v lv nv av).told ++ [nv, av])))) := rfl
  have h37 : c.s.cells.length = 37 := c.s.len hl
  have hs : 45 + 2 ≤ (c.v lv nv av).cells.toArray.size := by
    rw [List.size_toArray, hc, List.length_append, List.length_append, List.length_append, h37]
    show 45 + 2 ≤ 37 + (8 + (2 + _))
    omega
  rw [rowN_blk h.at_ 45 2 hs]
  congr 1
  apply Array.ext'
  rw [Array.toList_extract, hc]
  show List.extract (c.s.cells ++ _) 45 47 = _
  rw [List.extract_eq_take_drop, List.drop_append, h37, List.drop_of_length_le (by omega), List.nil_append]
  show List.take 2 (List.drop 8 (c.k.cells ++ _)) = _
  rw [List.drop_append_of_le_length (by show 8 ≤ 8; omega)]
  rfl
end
/-- What was said: a row that the call made. -/
def SaidO (base : Nat) (w : World) (v : Value) (ms : List MsgV) : Prop := w.ownsRow base 159 38 v ms.length (ms.flatMap MsgV.cells)
theorem SaidO.nil (base : Nat) (w : World) : SaidO base w nilV [] := World.ownsRow_nil _ _ _ _

/-- The table of math/bits. -/
structure Deb (w : World) : Prop where
  tab : ∀ j, j < 64 → w.cell? ⟨9, j, none⟩ = some (.int .u8 (Lib.deBruijn64tab.getD j 0))
theorem Deb.upd {S : Nat → Prop} {w w' : World} (h : Deb w) (u : Upd S w w') (h0 : ¬ S 9) : Deb w' := ⟨fun i hi => u.cell (h.tab i hi) h0⟩
theorem Deb.new {w w' : World} (h : Deb w) (u : New w w') : Deb w' := h.upd u (fun h => h)

def isNumB (i : Int) : Bool := decide (0 ≤ i) && decide (i < 65536)

attribute [local go_sem ↓ high] ld_hsh_fold st_hsh_fold al_hsh_fold bd_hsh_fold
attribute [local go_sem] ld_hsh st_hsh al_hsh bd_hsh rowN_drew

def makeI (h : List Int) (i : Int) : List Int × Int := if isNumB i = true then (chainI h i.toNat 16, 0) else (z32i, 1)

end Go.Proofs.YtjckpgcmfieaoaaGreatDoor
namespace Go.Proofs.YtjckpgcmfieaoaaGreatDoor
open Go.RowKit

attribute [local go_sem ↓ high] ld_hsh_fold st_hsh_fold al_hsh_fold bd_hsh_fold ld_msg_fold st_msg_fold al_msg_fold bd_msg_fold
attribute [local go_sem] ld_hsh st_hsh al_hsh bd_hsh rowN_drew ld_msg st_msg al_msg

def Ch.secret (c : Ch) (n : Int) : List Int × Int := if n < 0 ∨ c.k.heard ≤ n then (z32i, 1) else makeI c.s.seed (65535 - n)

end Go.Proofs.YtjckpgcmfieaoaaGreatDoor
namespace Go.Proofs.YtjckpgcmfieaoaaGreatDoor
open Go.RowKit

def neHsh (x y : Value) : Sem Value := binOp .neq 30 x y
theorem ne_hsh_fold (x y : Value) : binOp .neq 30 x y = neHsh x y := rfl

theorem KeptV.len (k : KeptV) (h : k.told.length = 32) : k.cells.length = 34 := by simp [KeptV.cells, h]
theorem KeptV.one (k : KeptV) : ∀ v ∈ k.cells, v.oneCell' = true := by
  intro v hv
  simp only [KeptV.cells, List.mem_cons, List.mem_map] at hv
  rcases hv with rfl | rfl | ⟨n, _, rfl⟩ <;> rfl
theorem Tryz.infoKpt : (Tryz.prog.info? 174).map (·.size) = some 34 := by kernel_rfl
def ldKpt (x : Value) : Sem Value := Instr.loadAt 174 x
theorem ld_kpt_fold (x : Value) : Instr.loadAt 174 x = ldKpt x := rfl
theorem ld_kpt (b o : Nat) (w : World) : (ldKpt (.pointer (some ⟨b, o, none⟩))).run Tryz.prog w = match rowN w b o 34 with | some A => .ok (.agg A) w | none => slowLd Tryz.prog 174 w b o :=
  run_loadAt_rowN 174 34 _ Tryz.underlying174 rfl Tryz.infoKpt b o w
def stKpt (x v : Value) : Sem Unit := Instr.storeAt 174 x v
theorem st_kpt_fold (x v : Value) : Instr.storeAt 174 x v = stKpt x v := rfl
theorem st_kpt (b o : Nat) (A : Array Value) (w : World) : (stKpt (.pointer (some ⟨b, o, none⟩)) (.agg A)).run Tryz.prog w = if stOk w b o 34 A = true then .ok () (w.setCells b o A.toList) else slowSt Tryz.prog 174 w b o A :=
  run_storeAt_row 174 34 Tryz.infoKpt b o A w
def alKpt : Sem Value := Instr.alloc 174 true (.tuple #[])
theorem al_kpt_fold : Instr.alloc 174 true (.tuple #[]) = alKpt := rfl
theorem al_kpt (w : World) : alKpt.run Tryz.prog w = .ok (.pointer (some ⟨w.heap.size, 0, none⟩)) (w.alloc (.cells KeptV.zero.cells.toArray 174)) := by kernel_rfl
def bdKpt (p : Array (Nat × Value)) : Sem Value := Instr.build 174 p
theorem bd_kpt_fold (p : Array (Nat × Value)) : Instr.build 174 p = bdKpt p := rfl
theorem bd_kpt_zero (w : World) : (bdKpt #[]).run Tryz.prog w = .ok (.agg KeptV.zero.cells.toArray) w := run_build w _ _ _ (by kernel_rfl)
/-- A kept secret in a block of its own. -/
structure KpS (w : World) (b : Nat) (k : KeptV) : Prop where
  at_ : w.heap[b]? = some (.cells k.cells.toArray 174 (0, 0))
  len : k.told.length = 32
section
variable {S : Nat → Prop} {w w' : World} {b : Nat} {k : KeptV}
theorem KpS.upd (a : KpS w b k) (u : Upd S w w') (n : ¬ S b) : KpS w' b k := ⟨u.old a.at_ n, a.len⟩
theorem KpS.new (a : KpS w b k) (u : New w w') : KpS w' b k := a.upd u (fun h => h)
theorem KpS.lt (a : KpS w b k) : b < w.heap.size := blk_lt a.at_
theorem KpS.row (a : KpS w b k) : rowN w b 0 34 = some k.cells.toArray := rowN_whole a.at_ 34 (by rw [List.size_toArray, k.len a.len])
theorem KpS.stOk (a : KpS w b k) {j : KeptV} (hk : j.told.length = 32) : stOk w b 0 34 j.cells.toArray = true := by
  have := stOk_all a.at_ (A := j.cells) (by rw [List.size_toArray, k.len a.len, j.len hk]) j.one
  rwa [List.size_toArray, k.len a.len] at this
theorem KpS.put (a : KpS w b k) {j : KeptV} (hk : j.told.length = 32) : KpS (w.setCells b 0 j.cells) b j := by
  refine ⟨?_, hk⟩
  rw [blk_setCells a.at_ 0 _, layIn_whole _ _ (by rw [List.size_toArray, k.len a.len, j.len hk])]
theorem KpS.c0 (a : KpS w b k) : w.cell? ⟨b, 0, none⟩ = some (.bool k.full) := blk_cell a.at_ 0
theorem KpS.c1 (a : KpS w b k) : w.cell? ⟨b, 1, none⟩ = some (.int .i64 k.number) := blk_cell a.at_ 1
theorem KpS.hsh (a : KpS w b k) : rowN w b 2 32 = some (hshV k.told).toArray := by
  rw [rowN_blk a.at_ 2 32 (by rw [List.size_toArray, k.len a.len]; omega)]
  congr 1
  apply Array.ext'
  rw [Array.toList_extract]
  unfold KeptV.cells
  show List.take 32 (hshV k.told) = hshV k.told
  exact List.take_of_length_le (by rw [hshV_len, a.len]; exact Nat.le_refl _)
end
attribute [local go_sem ↓ high] ld_hsh_fold st_hsh_fold al_hsh_fold bd_hsh_fold ld_kpt_fold st_kpt_fold al_kpt_fold bd_kpt_fold ne_hsh_fold
attribute [local go_sem] ld_hsh st_hsh al_hsh bd_hsh rowN_drew ld_kpt st_kpt al_kpt bd_kpt_zero

-- the shelf's rows
theorem drop_app {α : Type} {A B : List α} {n : Nat} (h : A.length = n) : (A ++ B).drop n = B := by subst h; simp
theorem flat_drop' (X : List KeptV) (hX : ∀ p ∈ X, p.told.length = 32) : ∀ (i : Nat) (x : KeptV), X[i]? = some x → ∃ R, (X.flatMap KeptV.cells).drop (i * 34) = x.cells ++ R := by
  induction X with
  | nil => intro i x h; simp at h
  | cons y X ih =>
    intro i x h
    have hy : y.cells.length = 34 := y.len (hX y (List.mem_cons_self ..))
    cases i with
    | zero =>
      simp only [List.getElem?_cons_zero, Option.some.injEq] at h
      subst h
      exact ⟨X.flatMap KeptV.cells, by simp⟩
    | succ i =>
      rw [List.getElem?_cons_succ] at h
      obtain ⟨R, hR⟩ := ih (fun p hp => hX p (List.mem_cons_of_mem _ hp)) i x h
      refine ⟨R, ?_⟩
      rw [List.flatMap_cons, Nat.add_mul, Nat.one_mul, Nat.add_comm (i * 34) 34, ← List.drop_drop, drop_app hy, hR]
theorem ChP.kept {w : World} {g : Nat} {S : Nat → Prop} {c : Ch} {lv nv av : Value} (h : ChP w g S c lv nv av) {i : Nat} {p : KeptV} (hi : c.shelf[i]? = some p) : rowN w g (48 + i * 34) 34 = some p.cells.toArray := by
  have hl := h.ok.s.seed
  have hlt := (List.getElem?_eq_some_iff.1 hi).1
  have hp := h.ok.shelf.2 p (List.mem_of_getElem? hi)
  have h37 : c.s.cells.length = 37 := c.s.len hl
  have ht : (c.shelf.flatMap KeptV.cells).length = 578 := by rw [told_len _ h.ok.shelf.2, h.ok.shelf.1]
  have hc : (c.v lv nv av).cells = (c.s.cells ++ (c.k.cells ++ [.int .u64 c.loc, .int .u64 c.rem, lv])) ++ (c.shelf.flatMap KeptV.cells ++ [nv, av]) := by
    show c.s.cells ++ (c.k.cells ++ (Value.int .u64 c.loc :: .int .u64 c.rem :: lv :: (c.shelf.flatMap KeptV.cells ++ [nv, av]))) = _
    simp
  have h48 : (c.s.cells ++ (c.k.cells ++ [.int .u64 c.loc, .int .u64 c.rem, lv])).length = 48 := by
    rw [List.length_append, List.length_append, h37]
    rfl
  have h17 := h.ok.shelf.1
  have hs : 48 + i * 34 + 34 ≤ (c.v lv nv av).cells.toArray.size := by
    rw [List.size_toArray, hc, List.length_append, h48, List.length_append, ht]
    show 48 + i * 34 + 34 ≤ 48 + (578 + 2)
    omega
  rw [rowN_blk h.at_ _ 34 hs]
  congr 1
  apply Array.ext'
  rw [Array.toList_extract, hc]
  show List.extract (_ ++ _) (48 + i * 34) (48 + i * 34 + 34) = _
  rw [List.extract_eq_take_drop, Nat.add_sub_cancel_left, ← List.drop_drop, drop_app h48]
  obtain ⟨R, hR⟩ := flat_drop' c.shelf h.ok.shelf.2 i p hi
  rw [List.drop_append_of_le_length (by omega), hR, List.append_assoc, List.take_append_of_le_length (by rw [p.len hp]; exact Nat.le_refl _), List.take_of_length_le (by rw [p.len hp]; exact Nat.le_refl _)]

end Go.Proofs.YtjckpgcmfieaoaaGreatDoor
namespace Go.Proofs.YtjckpgcmfieaoaaGreatDoor
open Go.RowKit

attribute [local go_sem ↓ high] ld_hsh_fold st_hsh_fold al_hsh_fold bd_hsh_fold ld_kpt_fold st_kpt_fold al_kpt_fold bd_kpt_fold ne_hsh_fold
attribute [local go_sem] ld_hsh st_hsh al_hsh bd_hsh rowN_drew ld_kpt st_kpt al_kpt bd_kpt_zero

end Go.Proofs.YtjckpgcmfieaoaaGreatDoor
namespace Go.Proofs.YtjckpgcmfieaoaaGreatDoor
open Go.RowKit

inductive Fld where
  | ch
  | id
  | amount
  | hash
  | expiry
  | number
def Fld.zero (x : Fld) (m : MsgV) : MsgV :=
  match x with
  | .ch => { m with ch := 0 }
  | .id => { m with id := 0 }
  | .amount => { m with amount := 0 }
  | .hash => { m with hash := z32i }
  | .expiry => { m with expiry := 0 }
  | .number => { m with number := 0 }
/-- A closure made by number. -/
def NumV (base : Nat) (w : World) (v : Value) (f F : FuncId) (n : Int) : Prop :=
  ∃ p q, v = .func (.func f) #[] #[.pointer (some ⟨p, 0, none⟩), .pointer (some ⟨q, 0, none⟩)] ∧ base ≤ p ∧ base ≤ q ∧ w.cell? ⟨p, 0, none⟩ = some (.func (.func F) #[] #[]) ∧ w.cell? ⟨q, 0, none⟩ = some (.int .i64 n)
/-- What a field's closure is. -/
def FldV (base : Nat) (w : World) (v : Value) (x : Fld) : Prop :=
  match x with
  | .ch => NumV base w v 343 329 4
  | .id => NumV base w v 326 285 8
  | .amount => NumV base w v 326 286 8
  | .hash => v = .func (.func 291) #[] #[]
  | .expiry => NumV base w v 327 288 4
  | .number => NumV base w v 327 289 2
theorem NumV.upd {base : Nat} {w w' : World} {v : Value} {f F : FuncId} {n : Int} {S : Nat → Prop} (h : NumV base w v f F n) (u : Upd S w w') (hS : ∀ k, base ≤ k → ¬ S k) : NumV base w' v f F n := by
  obtain ⟨p, q, e, hp, hq, cp, cq⟩ := h
  exact ⟨p, q, e, hp, hq, u.cell cp (hS p hp), u.cell cq (hS q hq)⟩
theorem FldV.upd {base : Nat} {w w' : World} {v : Value} {x : Fld} {S : Nat → Prop} (h : FldV base w v x) (u : Upd S w w') (hS : ∀ k, base ≤ k → ¬ S k) : FldV base w' v x := by
  cases x <;> first | exact NumV.upd h u hS | exact h
theorem FldV.new {base : Nat} {w w' : World} {v : Value} {x : Fld} (h : FldV base w v x) (u : New w w') : FldV base w' v x := h.upd u (fun _ _ h => h)
theorem NumV.one {base : Nat} {w : World} {v : Value} {f F : FuncId} {n : Int} (h : NumV base w v f F n) : v.oneCell' = true := by
  obtain ⟨p, q, rfl, _⟩ := h
  rfl
theorem FldV.one {base : Nat} {w : World} {v : Value} {x : Fld} (h : FldV base w v x) : v.oneCell' = true := by
  cases x <;> first | exact NumV.one h | (have h : v = _ := h; rw [h]; rfl)

attribute [local go_sem ↓ high] ld_hsh_fold st_hsh_fold al_hsh_fold bd_hsh_fold
attribute [local go_sem] ld_hsh st_hsh al_hsh bd_hsh rowN_drew

end Go.Proofs.YtjckpgcmfieaoaaGreatDoor
namespace Go.Proofs.YtjckpgcmfieaoaaGreatDoor
open Go.RowKit

theorem NumV.later {a b : Nat} {w : World} {v : Value} {f F : FuncId} {n : Int} (h : NumV b w v f F n) (ab : a ≤ b) : NumV a w v f F n := by
  obtain ⟨p, q, e, hp, hq, r⟩ := h
  exact ⟨p, q, e, by omega, by omega, r⟩
theorem FldV.later {a b : Nat} {w : World} {v : Value} {x : Fld} (h : FldV b w v x) (ab : a ≤ b) : FldV a w v x := by
  cases x <;> first | exact NumV.later h ab | exact h

def fieldsOf (kind : Int) : Option (List Fld) :=
  if kind = 1 then some [.ch, .amount] else if kind = 2 then some [.ch] else if kind = 3 then some [.ch, .id, .amount, .hash, .expiry] else if kind = 4 then some [.ch, .id, .hash] else if kind = 5 then some [.ch, .id, .number]
  else if kind = 6 then some [.ch, .number, .hash] else if kind = 7 then some [.ch, .number, .hash] else if kind = 8 then some [.ch] else if kind = 9 then some [.ch, .number, .id] else none

def zeros (xs : List Fld) (m : MsgV) : MsgV := xs.foldl (fun m x => x.zero m) m

-- equality of messages
theorem Tryz.eqMsg : eqB Tryz.prog 5 159 = true := by kernel_rfl
def eqMsg (x y : Value) : Sem Value := binOp .eql 159 x y
theorem eq_msg_fold (x y : Value) : binOp .eql 159 x y = eqMsg x y := rfl
instance : DecidableEq MsgV := fun a b =>
  decidable_of_iff (a.kind = b.kind ∧ a.ch = b.ch ∧ a.id = b.id ∧ a.amount = b.amount ∧ a.hash = b.hash ∧ a.expiry = b.expiry ∧ a.number = b.number)
    ⟨by rintro ⟨h1, h2, h3, h4, h5, h6, h7⟩; cases a; cases b; simp_all, by rintro rfl; exact ⟨rfl, rfl, rfl, rfl, rfl, rfl, rfl⟩⟩

attribute [local go_sem ↓ high] ld_msg_fold st_msg_fold al_msg_fold bd_msg_fold eq_msg_fold
attribute [local go_sem] ld_msg st_msg al_msg rowN_drew

end Go.Proofs.YtjckpgcmfieaoaaGreatDoor
namespace Go.Proofs.YtjckpgcmfieaoaaGreatDoor
open Go.RowKit

def Fld.put (x : Fld) (m : MsgV) : ByteArray :=
  match x with
  | .ch => numS m.ch.toNat 4
  | .id => numS m.id.toNat 8
  | .amount => numS m.amount.toNat 8
  | .hash => strOfNums m.hash
  | .expiry => numS m.expiry.toNat 4
  | .number => numS m.number.toNat 2
theorem Fld.put_size (x : Fld) (m : MsgV) (h : m.hash.length = 32) : (x.put m).size ≤ 32 := by
  cases x
  case hash => show (strOfNums m.hash).size ≤ 32; rw [strOfNums_size, h]; exact Nat.le_refl _
  all_goals (unfold Fld.put; simp only [numS_size]; decide)
attribute [local go_sem ↓ high] ld_hsh_fold st_hsh_fold al_hsh_fold bd_hsh_fold
attribute [local go_sem] ld_hsh st_hsh al_hsh bd_hsh rowN_drew

end Go.Proofs.YtjckpgcmfieaoaaGreatDoor
