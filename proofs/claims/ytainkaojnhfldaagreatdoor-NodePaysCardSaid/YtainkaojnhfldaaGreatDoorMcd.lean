/-
  What a message is to a hearer; hearAdd.
-/
import Derived.Test.YtainkaojnhfldaaGreatDoorCh8
import Derived.Test.YtainkaojnhfldaaGreatDoorMbg
import Derived.Test.YtainkaojnhfldaaGreatDoorProg
import Derived.Test.YtainkaojnhfldaaGreatDoorBase
import Derived.RangeFuncNested
import Derived.RangeFuncBound
import Derived.RangeFuncCalls
import Derived.RangeFuncLeaves
import Derived.Shelf.Abstract
import Derived.Shelf.RegionOpen
import Derived.WalkKit
import Derived.OwnWalkIn
import Derived.TacticsInMore
import Derived.LoopNIn
import Derived.LoopIn
import Derived.Test.YtainkaojnhfldaaGreatDoorMah
import Derived.Test.YtainkaojnhfldaaGreatDoorOc1
import Derived.Test.YtainkaojnhfldaaGreatDoorTxt
import Derived.Lib.TrailingZeros
import Derived.Laws.Bits64b
import Derived.ProofKit
import Derived.OpenShut
import Derived.ShutString
import Derived.ChangeOld
import Derived.Deep.Slices
set_option linter.unusedVariables false
set_option linter.unusedSimpArgs false
namespace Go.Proofs.YtainkaojnhfldaaGreatDoor
open Go.RowKit

attribute [local go_sem ↓ high] ld_live_fold st_live_fold al_live_fold bs_liv_fold ld_hsh_fold ld_htl_fold st_htl_fold al_htl_fold bd_htl_fold bd_liv_fold
attribute [local go_sem] ld_live st_live al_live bs_liv rowN_drew ld_hsh ld_htl st_htl al_htl bd_htl

/-- Numbers of a message that fit. -/
structure MsgOk (m : MsgV) : Prop where
  kind : -9223372036854775808 ≤ m.kind ∧ m.kind ≤ 9223372036854775807
  ch : 0 ≤ m.ch ∧ m.ch < 4294967296
  id : 0 ≤ m.id ∧ m.id < 18446744073709551616
  amount : 0 ≤ m.amount ∧ m.amount < 18446744073709551616
  len : m.hash.length = 32
  hash : ∀ b ∈ m.hash, 0 ≤ b ∧ b ≤ 255
  expiry : -9223372036854775808 ≤ m.expiry ∧ m.expiry ≤ 9223372036854775807
  number : -9223372036854775808 ≤ m.number ∧ m.number ≤ 9223372036854775807
def hvec (l : List Int) : Vector Int 32 := if h : l.length = 32 then ⟨l.toArray, by simpa using h⟩ else Vector.replicate 32 0
theorem hvec_list {l : List Int} (h : l.length = 32) : (hvec l).toList = l := by
  unfold hvec
  rw [dif_pos h]
  rfl
/-- A message's cells, one by one. -/
theorem msg_at (m : MsgV) {w : World} {b : Nat} {T : TypeId} {fz : Nat × Nat} (h : w.heap[b]? = some (.cells m.cells.toArray T fz)) (hl : m.hash.length = 32) :
    w.cell? ⟨b, 0, none⟩ = some (.int .i64 m.kind) ∧ w.cell? ⟨b, 1, none⟩ = some (.int .u32 m.ch) ∧ w.cell? ⟨b, 2, none⟩ = some (.int .u64 m.id) ∧ w.cell? ⟨b, 3, none⟩ = some (.int .u64 m.amount) ∧ w.cell? ⟨b, 36, none⟩ = some (.int .i64 m.expiry) ∧ w.cell? ⟨b, 37, none⟩ = some (.int .i64 m.number) ∧ rowN w b 4 32 = some (m.hash.map (Value.int .u8)).toArray := by
  have e36 : ∀ j, m.cells[36 + j]? = ([.int .i64 m.expiry, .int .i64 m.number] : List Value)[j]? := by
    intro j
    unfold MsgV.cells
    rw [show 36 + j = (32 + j) + 4 by omega]
    simp only [List.getElem?_cons_succ]
    rw [List.getElem?_append_right (by simp [hl]), List.length_map, hl, Nat.add_sub_cancel_left]
  refine ⟨blk_cell h 0, blk_cell h 1, blk_cell h 2, blk_cell h 3, ?_, ?_, ?_⟩
  · rw [blk_cell h 36, List.getElem?_toArray]; exact e36 0
  · rw [blk_cell h 37, List.getElem?_toArray]; exact e36 1
  · rw [rowN_blk h 4 32 (by rw [List.size_toArray, m.len hl]; omega)]
    congr 1
    apply Array.ext'
    rw [Array.toList_extract]
    unfold MsgV.cells
    simp [hl]

end Go.Proofs.YtainkaojnhfldaaGreatDoor
namespace Go.Proofs.YtainkaojnhfldaaGreatDoor
open Go.RowKit

/-- A message lies in a block of its own. -/
structure MsB (w : World) (b : Nat) (m : MsgV) : Prop where
  at_ : w.heap[b]? = some (.cells m.cells.toArray 72 (0, 0))
  len : m.hash.length = 32
section
variable {S : Nat → Prop} {w w' : World} {b : Nat} {m : MsgV}
theorem MsB.upd (a : MsB w b m) (u : Upd S w w') (n : ¬ S b) : MsB w' b m := ⟨u.old a.at_ n, a.len⟩
theorem MsB.new (a : MsB w b m) (u : New w w') : MsB w' b m := a.upd u (fun h => h)
theorem MsB.lt (a : MsB w b m) : b < w.heap.size := blk_lt a.at_
theorem MsB.row (a : MsB w b m) : rowN w b 0 38 = some m.cells.toArray := rowN_whole a.at_ 38 (by rw [List.size_toArray, m.len a.len])
theorem MsB.stOk (a : MsB w b m) {k : MsgV} (hk : k.hash.length = 32) : stOk w b 0 38 k.cells.toArray = true := by
  have := stOk_all a.at_ (A := k.cells) (by rw [List.size_toArray, m.len a.len, k.len hk]) k.one
  rwa [List.size_toArray, m.len a.len] at this
theorem MsB.put (a : MsB w b m) {k : MsgV} (hk : k.hash.length = 32) : MsB (w.setCells b 0 k.cells) b k := by
  refine ⟨?_, hk⟩
  rw [blk_setCells a.at_ 0 _, layIn_whole _ _ (by rw [List.size_toArray, m.len a.len, k.len hk])]
theorem MsB.cells (a : MsB w b m) : w.cell? ⟨b, 0, none⟩ = some (.int .i64 m.kind) ∧ w.cell? ⟨b, 1, none⟩ = some (.int .u32 m.ch) ∧ w.cell? ⟨b, 2, none⟩ = some (.int .u64 m.id) ∧ w.cell? ⟨b, 3, none⟩ = some (.int .u64 m.amount) ∧ w.cell? ⟨b, 36, none⟩ = some (.int .i64 m.expiry) ∧ w.cell? ⟨b, 37, none⟩ = some (.int .i64 m.number) ∧ rowN w b 4 32 = some (hshV m.hash).toArray := msg_at m a.at_ a.len
end
theorem ms_alloc (w : World) (m : MsgV) (hm : m.hash.length = 32) : MsB (w.alloc (.cells m.cells.toArray 72)) w.heap.size m := ⟨blk_alloc _ _, hm⟩
def msNew (w : World) (k : MsgV) : World := (w.alloc (.cells MsgV.zero.cells.toArray 72)).setCells w.heap.size 0 k.cells
theorem ms_fresh (w : World) (k : MsgV) (hk : k.hash.length = 32) : stOk (w.alloc (.cells MsgV.zero.cells.toArray 72)) w.heap.size 0 38 k.cells.toArray = true ∧ MsB (msNew w k) w.heap.size k ∧ New w (msNew w k) := by
  have ha := ms_alloc w MsgV.zero z32i_len
  exact ⟨ha.stOk hk, ha.put hk, (((Upd.refl (fun _ => False) w).alloc _)).then (upd_sets _) (fun i hi e => by omega)⟩
theorem MsB.agg {w : World} {b : Nat} {m : MsgV} (a : MsB w b m) : m.cells.toArray.size = 38 := by rw [List.size_toArray, m.len a.len]

-- messages built of parts

-- cells put
section
variable {w : World} {g : Nat} {S : Nat → Prop} {c : Ch} {lv nv av : Value}
/-- The seed's cells. -/
theorem ChP.seed (h : ChP w g S c lv nv av) : rowN w g 3 32 = some (hshV c.s.seed).toArray := by
  have hl := h.ok.s.seed
  have hs : 3 + 32 ≤ (c.v lv nv av).cells.toArray.size := by
    rw [List.size_toArray]
    unfold ChanV.cells
    rw [List.length_append, (c.v lv nv av).setup.len hl]
    omega
  rw [rowN_blk h.at_ 3 32 hs]
  congr 1
  apply Array.ext'
  rw [Array.toList_extract]
  unfold ChanV.cells
  show List.extract (c.s.cells ++ _) 3 35 = hshV c.s.seed
  unfold SetupV.cells
  simp [hl, hshV]
theorem ChP.key (h : ChP w g S c lv nv av) : w.cell? ⟨g, 35, none⟩ = some (.string c.s.key) := (h.toR.low 35 (by omega)).trans (c.s.c35 h.ok.s.seed)
theorem ChP.peer (h : ChP w g S c lv nv av) : w.cell? ⟨g, 36, none⟩ = some (.string c.s.peer) := (h.toR.low 36 (by omega)).trans (c.s.c36 h.ok.s.seed)
/-- The base's cells. -/
theorem ChP.base (h : ChP w g S c lv nv av) : rowN w g 45 2 = some #[.int .u64 c.loc, .int .u64 c.rem] := by
  have hl := h.ok.s.seed
  have hc : (c.v lv nv av).cells = c.s.cells ++ (c.k.cells ++ ([.int .u64 c.loc, .int .u64 c.rem] ++ (lv :: ((c.v lv nv av).told ++ [nv, av])))) := rfl
  have h37 : c.s.cells.length = 37 := c.s.len hl
  have hs : 45 + 2 ≤ (c.v lv nv av).cells.toArray.size := by
    rw [List.size_toArray, hc, List.length_append, List.length_append, List.length_append, h37]
    show 45 + 2 ≤ 37 + (8 + (2 + _))
    omega
  rw [rowN_blk h.at_ 45 2 hs]
  congr 1
  apply Array.ext'
  rw [Array.toList_extract, hc]
  show List.extract (c.s.cells ++ _) 45 47 = _
  rw [List.extract_eq_take_drop, List.drop_append, h37, List.drop_of_length_le (by omega), List.nil_append]
  show List.take 2 (List.drop 8 (c.k.cells ++ _)) = _
  rw [List.drop_append_of_le_length (by show 8 ≤ 8; omega)]
  rfl
end
def ldBas (x : Value) : Sem Value := Instr.loadAt 75 x
theorem ld_bas_fold (x : Value) : Instr.loadAt 75 x = ldBas x := rfl
theorem ld_bas (b o : Nat) (w : World) : (ldBas (.pointer (some ⟨b, o, none⟩))).run Tryz.prog w = match rowN w b o 2 with | some A => .ok (.agg A) w | none => slowLd Tryz.prog 75 w b o :=
  run_loadAt_rowN 75 2 _ Tryz.underlying75 rfl Tryz.infoBase b o w
/-- What was said: a row that the call made. -/
def SaidO (base : Nat) (w : World) (v : Value) (ms : List MsgV) : Prop := w.ownsRow base 72 38 v ms.length (ms.flatMap MsgV.cells)
theorem SaidO.nil (base : Nat) (w : World) : SaidO base w nilV [] := World.ownsRow_nil _ _ _ _

end Go.Proofs.YtainkaojnhfldaaGreatDoor
namespace Go.Proofs.YtainkaojnhfldaaGreatDoor
open Go.RowKit Go.Shelf
attribute [local go_sem] Oper.semAt_some

/-- The places from d down to k at which i has a bit. -/
def hiB (i d k : Nat) : List Nat := ((List.range' k (d - k)).reverse).filter fun b => i.testBit b

end Go.Proofs.YtainkaojnhfldaaGreatDoor
namespace Go.Proofs.YtainkaojnhfldaaGreatDoor
open Go.RowKit Go.Shelf
attribute [local go_sem] Oper.semAt_some

attribute [local go_sem ↓ high] ld_hsh_fold st_hsh_fold
attribute [local go_sem] ld_hsh st_hsh rowN_drew

/-- A bit of a hash flipped; a step of the chain; the chain. -/
def flipB (h : List Int) (b : Nat) : List Int := h.set (b / 8) (bits .xor .u8 (h.getD (b / 8) 0) (2 ^ (b % 8)))
def chStep (h : List Int) (b : Nat) : List Int := sumI (strOfNums (flipB h b))
def chainI (h : List Int) (i d : Nat) : List Int := (hiB i d 0).foldl chStep h

end Go.Proofs.YtainkaojnhfldaaGreatDoor
namespace Go.Proofs.YtainkaojnhfldaaGreatDoor
open Go.RowKit

/-- The table of math/bits. -/
structure Deb (w : World) : Prop where
  tab : ∀ j, j < 64 → w.cell? ⟨6, j, none⟩ = some (.int .u8 (Lib.deBruijn64tab.getD j 0))
theorem Deb.upd {S : Nat → Prop} {w w' : World} (h : Deb w) (u : Upd S w w') (h0 : ¬ S 6) : Deb w' := ⟨fun i hi => u.cell (h.tab i hi) h0⟩
theorem Deb.new {w w' : World} (h : Deb w) (u : New w w') : Deb w' := h.upd u (fun h => h)

def isNumB (i : Int) : Bool := decide (0 ≤ i) && decide (i < 65536)

end Go.Proofs.YtainkaojnhfldaaGreatDoor
namespace Go.Proofs.YtainkaojnhfldaaGreatDoor
open Go.RowKit

attribute [local go_sem ↓ high] ld_hsh_fold st_hsh_fold al_hsh_fold bd_hsh_fold
attribute [local go_sem] ld_hsh st_hsh al_hsh bd_hsh rowN_drew

def makeI (h : List Int) (i : Int) : List Int × Int := if isNumB i = true then (chainI h i.toNat 16, 0) else (z32i, 1)

end Go.Proofs.YtainkaojnhfldaaGreatDoor
namespace Go.Proofs.YtainkaojnhfldaaGreatDoor
open Go.RowKit

attribute [local go_sem ↓ high] ld_hsh_fold st_hsh_fold al_hsh_fold bd_hsh_fold ld_msg_fold st_msg_fold al_msg_fold bd_msg_fold
attribute [local go_sem] ld_hsh st_hsh al_hsh bd_hsh rowN_drew ld_msg st_msg al_msg

def Ch.secret (c : Ch) (n : Int) : List Int × Int := if n < 0 ∨ c.k.heard ≤ n then (z32i, 1) else makeI c.s.seed (65535 - n)

end Go.Proofs.YtainkaojnhfldaaGreatDoor
namespace Go.Proofs.YtainkaojnhfldaaGreatDoor
open Go.RowKit Go.ChangeShapes Go.WideShapes Go.ChangeAt Go.Deep

inductive Leaf where
  | bool
  | int (k : IntKind)
  | str
  deriving DecidableEq
def Leaf.fits : Leaf → Value → Prop
  | .bool, v => ∃ b, v = .bool b
  | .int k, v => ∃ n, v = .int k n ∧ (Lit.int k n).wf = true
  | .str, v => ∃ s : ByteArray, v = .string s ∧ s.size ≤ maxLen
/-- The cells are of these kinds. -/
def Fits : List Leaf → List Value → Prop
  | [], cs => cs = []
  | l :: ls, cs => ∃ v r, cs = v :: r ∧ l.fits v ∧ Fits ls r
theorem Fits.len : ∀ {ls : List Leaf} {cs : List Value}, Fits ls cs → cs.length = ls.length
  | [], _, h => by rw [show _ = [] from h]; rfl
  | l :: ls, _, h => by obtain ⟨v, r, rfl, _, hr⟩ := h; simp [hr.len]
theorem Fits.app : ∀ {ls ms : List Leaf} {cs ds : List Value}, Fits ls cs → Fits ms ds → Fits (ls ++ ms) (cs ++ ds)
  | [], _, _, _, h, k => by rw [show _ = [] from h]; exact k
  | l :: ls, _, _, _, h, k => by obtain ⟨v, r, rfl, hv, hr⟩ := h; exact ⟨v, _, rfl, hv, hr.app k⟩
theorem Fits.split : ∀ {ls ms : List Leaf} {cs : List Value}, Fits (ls ++ ms) cs → ∃ a b, cs = a ++ b ∧ Fits ls a ∧ Fits ms b
  | [], _, cs, h => ⟨[], cs, rfl, rfl, h⟩
  | l :: ls, _, _, h => by
    obtain ⟨v, r, rfl, hv, hr⟩ := h
    obtain ⟨a, b, rfl, ha, hb⟩ := Fits.split hr
    exact ⟨v :: a, b, rfl, ⟨v, a, rfl, hv, ha⟩, hb⟩

/-- The leaves of the fields from offset o on. -/
def flatFields (P : Program) (rec : TypeId → Option (List Leaf)) : Nat → List Field → Option (List Leaf)
  | _, [] => some []
  | o, f :: r => match rec f.type with
    | none => none
    | some l => if f.offset = o ∧ P.cellsOf f.type = l.length then (flatFields P rec (o + l.length) r).map (l ++ ·) else none
/-- The leaves of a type. -/
def flatF (P : Program) : Nat → TypeId → Option (List Leaf)
  | 0, _ => none
  | n + 1, t => match P.underlying t with
    | some .bool => some [.bool]
    | some (.int k) => some [.int k]
    | some .string => some [.str]
    | some (.struct fs) => match flatFields P (flatF P n) 0 fs.toList with
      | some l => if P.cellsOf t = l.length then some l else none
      | none => none
    | some (.array m e) => match flatF P n e with
      | some l => if P.cellsOf e = l.length ∧ P.cellsOf t = m * l.length then some (List.replicate m l).flatten else none
      | none => none
    | _ => none

section
variable {H : Type} {enc : TypeId × Value → H} {P : Program} {w : World} {base : Nat} {spare : Nat → Bool} {held : Bool}

theorem chunks (k : Nat) : ∀ (m : Nat) (cs : List Value), cs.length = m * k → cs = ((List.range m).map fun i => (cs.drop (i * k)).take k).flatten
  | 0, cs, h => by
    have : cs = [] := List.length_eq_zero_iff.1 (by omega)
    subst this; rfl
  | m + 1, cs, h => by
    have hc := chunks k m (cs.drop k) (by rw [List.length_drop, h, Nat.succ_mul]; omega)
    rw [List.range_succ_eq_map, List.map_cons, List.flatten_cons, Nat.zero_mul, List.drop_zero, List.map_map]
    have e : ((List.range m).map ((fun i => (cs.drop (i * k)).take k) ∘ Nat.succ)) = ((List.range m).map fun i => ((cs.drop k).drop (i * k)).take k) := by
      apply List.map_congr_left
      intro i _
      show (cs.drop ((i + 1) * k)).take k = _
      rw [List.drop_drop, Nat.succ_mul, Nat.add_comm]
    rw [e, ← hc, List.take_append_drop]

end
end Go.Proofs.YtainkaojnhfldaaGreatDoor
