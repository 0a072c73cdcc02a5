/-
  goOn: all that is live goes on by an event; what is gone goes into the base.
-/
import Derived.Test.YtainkaojnhfldaaGreatDoorCh4
import Derived.Test.YtainkaojnhfldaaGreatDoorMbf
import Derived.Test.YtainkaojnhfldaaGreatDoorVw8
import Derived.Test.YtainkaojnhfldaaGreatDoorMbc
import Derived.Test.YtainkaojnhfldaaGreatDoorProg
import Derived.Test.YtainkaojnhfldaaGreatDoorMaa
import Derived.RangeFuncNested
import Derived.RangeFuncBound
import Derived.RangeFuncCalls
import Derived.RangeFuncLeaves
import Derived.Shelf.Abstract
import Derived.Shelf.RegionOpen
import Derived.WalkKit
import Derived.OwnWalkIn
import Derived.TacticsInMore
import Derived.LoopNIn
import Derived.LoopIn
import Derived.Test.YtainkaojnhfldaaGreatDoorMaf
import Derived.Test.YtainkaojnhfldaaGreatDoorOc1
import Derived.Test.YtainkaojnhfldaaGreatDoorTxt
import Derived.Lib.TrailingZeros
import Derived.Laws.Bits64b
import Derived.ProofKit
import Derived.OpenShut
import Derived.ShutString
import Derived.ChangeOld
import Derived.Deep.Slices
import Derived.Laws.StructEq
import Derived.Stop.BytesEq
import Derived.Test.YtainkaojnhfldaaGreatDoorJr2
set_option linter.unusedVariables false
set_option linter.unusedSimpArgs false
namespace Go.Proofs.YtainkaojnhfldaaGreatDoor
open Go.RowKit

attribute [local go_sem ↓ high] ld_live_fold st_live_fold al_live_fold bs_liv_fold
attribute [local go_sem] ld_live st_live al_live bs_liv rowN_drew

end Go.Proofs.YtainkaojnhfldaaGreatDoor
namespace Go.Proofs.YtainkaojnhfldaaGreatDoor
open Go.RowKit

attribute [local go_sem ↓ high] ld_live_fold st_live_fold al_live_fold bs_liv_fold ld_hsh_fold ld_htl_fold st_htl_fold al_htl_fold bd_htl_fold bd_liv_fold
attribute [local go_sem] ld_live st_live al_live bs_liv rowN_drew ld_hsh ld_htl st_htl al_htl bd_htl

/-- Numbers of a message that fit. -/
structure MsgOk (m : MsgV) : Prop where
  kind : -9223372036854775808 ≤ m.kind ∧ m.kind ≤ 9223372036854775807
  ch : 0 ≤ m.ch ∧ m.ch < 4294967296
  id : 0 ≤ m.id ∧ m.id < 18446744073709551616
  amount : 0 ≤ m.amount ∧ m.amount < 18446744073709551616
  len : m.hash.length = 32
  hash : ∀ b ∈ m.hash, 0 ≤ b ∧ b ≤ 255
  expiry : -9223372036854775808 ≤ m.expiry ∧ m.expiry ≤ 9223372036854775807
  number : -9223372036854775808 ≤ m.number ∧ m.number ≤ 9223372036854775807
def hvec (l : List Int) : Vector Int 32 := if h : l.length = 32 then ⟨l.toArray, by simpa using h⟩ else Vector.replicate 32 0
theorem hvec_list {l : List Int} (h : l.length = 32) : (hvec l).toList = l := by
  unfold hvec
  rw [dif_pos h]
  rfl
/-- A message's cells, one by one. -/
theorem msg_at (m : MsgV) {w : World} {b : Nat} {T : TypeId} {fz : Nat × Nat} (h : w.heap[b]? = some (.cells m.cells.toArray T fz)) (hl : m.hash.length = 32) :
    w.cell? ⟨b, 0, none⟩ = some (.int .i64 m.kind) ∧ w.cell? ⟨b, 1, none⟩ = some (.int .u32 m.ch) ∧ w.cell? ⟨b, 2, none⟩ = some (.int .u64 m.id) ∧ w.cell? ⟨b, 3, none⟩ = some (.int .u64 m.amount) ∧ w.cell? ⟨b, 36, none⟩ = some (.int .i64 m.expiry) ∧ w.cell? ⟨b, 37, none⟩ = some (.int .i64 m.number) ∧ rowN w b 4 32 = some (m.hash.map (Value.int .u8)).toArray := by
  have e36 : ∀ j, m.cells[36 + j]? = ([.int .i64 m.expiry, .int .i64 m.number] : List Value)[j]? := by
    intro j
    unfold MsgV.cells
    rw [show 36 + j = (32 + j) + 4 by omega]
    simp only [List.getElem?_cons_succ]
    rw [List.getElem?_append_right (by simp [hl]), List.length_map, hl, Nat.add_sub_cancel_left]
  refine ⟨blk_cell h 0, blk_cell h 1, blk_cell h 2, blk_cell h 3, ?_, ?_, ?_⟩
  · rw [blk_cell h 36, List.getElem?_toArray]; exact e36 0
  · rw [blk_cell h 37, List.getElem?_toArray]; exact e36 1
  · rw [rowN_blk h 4 32 (by rw [List.size_toArray, m.len hl]; omega)]
    congr 1
    apply Array.ext'
    rw [Array.toList_extract]
    unfold MsgV.cells
    simp [hl]

end Go.Proofs.YtainkaojnhfldaaGreatDoor
namespace Go.Proofs.YtainkaojnhfldaaGreatDoor
open Go.RowKit

/-- A message lies in a block of its own. -/
structure MsB (w : World) (b : Nat) (m : MsgV) : Prop where
  at_ : w.heap[b]? = some (.cells m.cells.toArray 72 (0, 0))
  len : m.hash.length = 32
section
variable {S : Nat → Prop} {w w' : World} {b : Nat} {m : MsgV}
theorem MsB.upd (a : MsB w b m) (u : Upd S w w') (n : ¬ S b) : MsB w' b m := ⟨u.old a.at_ n, a.len⟩
theorem MsB.new (a : MsB w b m) (u : New w w') : MsB w' b m := a.upd u (fun h => h)
theorem MsB.lt (a : MsB w b m) : b < w.heap.size := blk_lt a.at_
theorem MsB.row (a : MsB w b m) : rowN w b 0 38 = some m.cells.toArray := rowN_whole a.at_ 38 (by rw [List.size_toArray, m.len a.len])
theorem MsB.stOk (a : MsB w b m) {k : MsgV} (hk : k.hash.length = 32) : stOk w b 0 38 k.cells.toArray = true := by
  have := stOk_all a.at_ (A := k.cells) (by rw [List.size_toArray, m.len a.len, k.len hk]) k.one
  rwa [List.size_toArray, m.len a.len] at this
theorem MsB.put (a : MsB w b m) {k : MsgV} (hk : k.hash.length = 32) : MsB (w.setCells b 0 k.cells) b k := by
  refine ⟨?_, hk⟩
  rw [blk_setCells a.at_ 0 _, layIn_whole _ _ (by rw [List.size_toArray, m.len a.len, k.len hk])]
theorem MsB.cells (a : MsB w b m) : w.cell? ⟨b, 0, none⟩ = some (.int .i64 m.kind) ∧ w.cell? ⟨b, 1, none⟩ = some (.int .u32 m.ch) ∧ w.cell? ⟨b, 2, none⟩ = some (.int .u64 m.id) ∧ w.cell? ⟨b, 3, none⟩ = some (.int .u64 m.amount) ∧ w.cell? ⟨b, 36, none⟩ = some (.int .i64 m.expiry) ∧ w.cell? ⟨b, 37, none⟩ = some (.int .i64 m.number) ∧ rowN w b 4 32 = some (hshV m.hash).toArray := msg_at m a.at_ a.len
end
theorem ms_alloc (w : World) (m : MsgV) (hm : m.hash.length = 32) : MsB (w.alloc (.cells m.cells.toArray 72)) w.heap.size m := ⟨blk_alloc _ _, hm⟩
def msNew (w : World) (k : MsgV) : World := (w.alloc (.cells MsgV.zero.cells.toArray 72)).setCells w.heap.size 0 k.cells
theorem ms_fresh (w : World) (k : MsgV) (hk : k.hash.length = 32) : stOk (w.alloc (.cells MsgV.zero.cells.toArray 72)) w.heap.size 0 38 k.cells.toArray = true ∧ MsB (msNew w k) w.heap.size k ∧ New w (msNew w k) := by
  have ha := ms_alloc w MsgV.zero z32i_len
  exact ⟨ha.stOk hk, ha.put hk, (((Upd.refl (fun _ => False) w).alloc _)).then (upd_sets _) (fun i hi e => by omega)⟩
theorem MsB.agg {w : World} {b : Nat} {m : MsgV} (a : MsB w b m) : m.cells.toArray.size = 38 := by rw [List.size_toArray, m.len a.len]

-- messages built of parts

-- cells put
section
variable {w : World} {g : Nat} {S : Nat → Prop} {c : Ch} {lv nv av : Value}
/-- The seed's cells. -/
theorem ChP.seed (h : ChP w g S c lv nv av) : rowN w g 3 32 = some (hshV c.s.seed).toArray := by
  have hl := h.ok.s.seed
  have hs : 3 + 32 ≤ (c.v lv nv av).cells.toArray.size := by
    rw [List.size_toArray]
    unfold ChanV.cells
    rw [List.length_append, (c.v lv nv av).setup.len hl]
    omega
  rw [rowN_blk h.at_ 3 32 hs]
  congr 1
  apply Array.ext'
  rw [Array.toList_extract]
  unfold ChanV.cells
  show List.extract (c.s.cells ++ _) 3 35 = hshV c.s.seed
  unfold SetupV.cells
  simp [hl, hshV]
theorem ChP.key (h : ChP w g S c lv nv av) : w.cell? ⟨g, 35, none⟩ = some (.string c.s.key) := (h.toR.low 35 (by omega)).trans (c.s.c35 h.ok.s.seed)
theorem ChP.peer (h : ChP w g S c lv nv av) : w.cell? ⟨g, 36, none⟩ = some (.string c.s.peer) := (h.toR.low 36 (by omega)).trans (c.s.c36 h.ok.s.seed)
/-- The base's cells. -/
theorem ChP.base (h : ChP w g S c lv nv av) : rowN w g 45 2 = some #[.int .u64 c.loc, .int .u64 c.rem] := by
  have hl := h.ok.s.seed
  have hc : (c.v lv nv av).cells = c.s.cells ++ (c.k.cells ++ ([.int .u64 c.loc, .int .u64 c.rem] ++ (lv :: ((c.v lv nv av).told ++ [nv, av])))) := rfl
  have h37 : c.s.cells.length = 37 := c.s.len hl
  have hs : 45 + 2 ≤ (c.v lv nv av).cells.toArray.size := by
    rw [List.size_toArray, hc, List.length_append, List.length_append, List.length_append, h37]
    show 45 + 2 ≤ 37 + (8 + (2 + _))
    omega
  rw [rowN_blk h.at_ 45 2 hs]
  congr 1
  apply Array.ext'
  rw [Array.toList_extract, hc]
  show List.extract (c.s.cells ++ _) 45 47 = _
  rw [List.extract_eq_take_drop, List.drop_append, h37, List.drop_of_length_le (by omega), List.nil_append]
  show List.take 2 (List.drop 8 (c.k.cells ++ _)) = _
  rw [List.drop_append_of_le_length (by show 8 ≤ 8; omega)]
  rfl
end
def ldBas (x : Value) : Sem Value := Instr.loadAt 75 x
theorem ld_bas_fold (x : Value) : Instr.loadAt 75 x = ldBas x := rfl
theorem ld_bas (b o : Nat) (w : World) : (ldBas (.pointer (some ⟨b, o, none⟩))).run Tryz.prog w = match rowN w b o 2 with | some A => .ok (.agg A) w | none => slowLd Tryz.prog 75 w b o :=
  run_loadAt_rowN 75 2 _ Tryz.underlying75 rfl Tryz.infoBase b o w
/-- What was said: a row that the call made. -/
def SaidO (base : Nat) (w : World) (v : Value) (ms : List MsgV) : Prop := w.ownsRow base 72 38 v ms.length (ms.flatMap MsgV.cells)
theorem SaidO.nil (base : Nat) (w : World) : SaidO base w nilV [] := World.ownsRow_nil _ _ _ _

end Go.Proofs.YtainkaojnhfldaaGreatDoor
namespace Go.Proofs.YtainkaojnhfldaaGreatDoor
open Go.RowKit Go.Shelf
attribute [local go_sem] Oper.semAt_some

/-- The places from d down to k at which i has a bit. -/
def hiB (i d k : Nat) : List Nat := ((List.range' k (d - k)).reverse).filter fun b => i.testBit b

end Go.Proofs.YtainkaojnhfldaaGreatDoor
namespace Go.Proofs.YtainkaojnhfldaaGreatDoor
open Go.RowKit Go.Shelf
attribute [local go_sem] Oper.semAt_some

attribute [local go_sem ↓ high] ld_hsh_fold st_hsh_fold
attribute [local go_sem] ld_hsh st_hsh rowN_drew

/-- A bit of a hash flipped; a step of the chain; the chain. -/
def flipB (h : List Int) (b : Nat) : List Int := h.set (b / 8) (bits .xor .u8 (h.getD (b / 8) 0) (2 ^ (b % 8)))
def chStep (h : List Int) (b : Nat) : List Int := sumI (strOfNums (flipB h b))
def chainI (h : List Int) (i d : Nat) : List Int := (hiB i d 0).foldl chStep h

end Go.Proofs.YtainkaojnhfldaaGreatDoor
namespace Go.Proofs.YtainkaojnhfldaaGreatDoor
open Go.RowKit

/-- The table of math/bits. -/
structure Deb (w : World) : Prop where
  tab : ∀ j, j < 64 → w.cell? ⟨6, j, none⟩ = some (.int .u8 (Lib.deBruijn64tab.getD j 0))
theorem Deb.upd {S : Nat → Prop} {w w' : World} (h : Deb w) (u : Upd S w w') (h0 : ¬ S 6) : Deb w' := ⟨fun i hi => u.cell (h.tab i hi) h0⟩
theorem Deb.new {w w' : World} (h : Deb w) (u : New w w') : Deb w' := h.upd u (fun h => h)

def isNumB (i : Int) : Bool := decide (0 ≤ i) && decide (i < 65536)

end Go.Proofs.YtainkaojnhfldaaGreatDoor
namespace Go.Proofs.YtainkaojnhfldaaGreatDoor
open Go.RowKit

attribute [local go_sem ↓ high] ld_hsh_fold st_hsh_fold al_hsh_fold bd_hsh_fold
attribute [local go_sem] ld_hsh st_hsh al_hsh bd_hsh rowN_drew

def makeI (h : List Int) (i : Int) : List Int × Int := if isNumB i = true then (chainI h i.toNat 16, 0) else (z32i, 1)

end Go.Proofs.YtainkaojnhfldaaGreatDoor
namespace Go.Proofs.YtainkaojnhfldaaGreatDoor
open Go.RowKit

attribute [local go_sem ↓ high] ld_hsh_fold st_hsh_fold al_hsh_fold bd_hsh_fold ld_msg_fold st_msg_fold al_msg_fold bd_msg_fold
attribute [local go_sem] ld_hsh st_hsh al_hsh bd_hsh rowN_drew ld_msg st_msg al_msg

def Ch.secret (c : Ch) (n : Int) : List Int × Int := if n < 0 ∨ c.k.heard ≤ n then (z32i, 1) else makeI c.s.seed (65535 - n)

end Go.Proofs.YtainkaojnhfldaaGreatDoor
namespace Go.Proofs.YtainkaojnhfldaaGreatDoor
open Go.RowKit Go.ChangeShapes Go.WideShapes Go.ChangeAt Go.Deep

inductive Leaf where
  | bool
  | int (k : IntKind)
  | str
  deriving DecidableEq
def Leaf.fits : Leaf → Value → Prop
  | .bool, v => ∃ b, v = .bool b
  | .int k, v => ∃ n, v = .int k n ∧ (Lit.int k n).wf = true
  | .str, v => ∃ s : ByteArray, v = .string s ∧ s.size ≤ maxLen
/-- The cells are of these kinds. -/
def Fits : List Leaf → List Value → Prop
  | [], cs => cs = []
  | l :: ls, cs => ∃ v r, cs = v :: r ∧ l.fits v ∧ Fits ls r
theorem Fits.len : ∀ {ls : List Leaf} {cs : List Value}, Fits ls cs → cs.length = ls.length
  | [], _, h => by rw [show _ = [] from h]; rfl
  | l :: ls, _, h => by obtain ⟨v, r, rfl, _, hr⟩ := h; simp [hr.len]
theorem Fits.app : ∀ {ls ms : List Leaf} {cs ds : List Value}, Fits ls cs → Fits ms ds → Fits (ls ++ ms) (cs ++ ds)
  | [], _, _, _, h, k => by rw [show _ = [] from h]; exact k
  | l :: ls, _, _, _, h, k => by obtain ⟨v, r, rfl, hv, hr⟩ := h; exact ⟨v, _, rfl, hv, hr.app k⟩
theorem Fits.split : ∀ {ls ms : List Leaf} {cs : List Value}, Fits (ls ++ ms) cs → ∃ a b, cs = a ++ b ∧ Fits ls a ∧ Fits ms b
  | [], _, cs, h => ⟨[], cs, rfl, rfl, h⟩
  | l :: ls, _, _, h => by
    obtain ⟨v, r, rfl, hv, hr⟩ := h
    obtain ⟨a, b, rfl, ha, hb⟩ := Fits.split hr
    exact ⟨v :: a, b, rfl, ⟨v, a, rfl, hv, ha⟩, hb⟩

/-- The leaves of the fields from offset o on. -/
def flatFields (P : Program) (rec : TypeId → Option (List Leaf)) : Nat → List Field → Option (List Leaf)
  | _, [] => some []
  | o, f :: r => match rec f.type with
    | none => none
    | some l => if f.offset = o ∧ P.cellsOf f.type = l.length then (flatFields P rec (o + l.length) r).map (l ++ ·) else none
/-- The leaves of a type. -/
def flatF (P : Program) : Nat → TypeId → Option (List Leaf)
  | 0, _ => none
  | n + 1, t => match P.underlying t with
    | some .bool => some [.bool]
    | some (.int k) => some [.int k]
    | some .string => some [.str]
    | some (.struct fs) => match flatFields P (flatF P n) 0 fs.toList with
      | some l => if P.cellsOf t = l.length then some l else none
      | none => none
    | some (.array m e) => match flatF P n e with
      | some l => if P.cellsOf e = l.length ∧ P.cellsOf t = m * l.length then some (List.replicate m l).flatten else none
      | none => none
    | _ => none

section
variable {H : Type} {enc : TypeId × Value → H} {P : Program} {w : World} {base : Nat} {spare : Nat → Bool} {held : Bool}

theorem chunks (k : Nat) : ∀ (m : Nat) (cs : List Value), cs.length = m * k → cs = ((List.range m).map fun i => (cs.drop (i * k)).take k).flatten
  | 0, cs, h => by
    have : cs = [] := List.length_eq_zero_iff.1 (by omega)
    subst this; rfl
  | m + 1, cs, h => by
    have hc := chunks k m (cs.drop k) (by rw [List.length_drop, h, Nat.succ_mul]; omega)
    rw [List.range_succ_eq_map, List.map_cons, List.flatten_cons, Nat.zero_mul, List.drop_zero, List.map_map]
    have e : ((List.range m).map ((fun i => (cs.drop (i * k)).take k) ∘ Nat.succ)) = ((List.range m).map fun i => ((cs.drop k).drop (i * k)).take k) := by
      apply List.map_congr_left
      intro i _
      show (cs.drop ((i + 1) * k)).take k = _
      rw [List.drop_drop, Nat.succ_mul, Nat.add_comm]
    rw [e, ← hc, List.take_append_drop]

end
end Go.Proofs.YtainkaojnhfldaaGreatDoor
namespace Go.Proofs.YtainkaojnhfldaaGreatDoor
open Go.RowKit Go.ChangeShapes Go.WideShapes Go.ChangeAt Go.Deep

def aggB (P : Program) (t : TypeId) : Bool := match P.underlying t with | some (.struct _) => true | some (.array _ _) => true | _ => false
/-- A value of its cells. -/
def mkV (P : Program) (t : TypeId) (cs : List Value) : Value := if aggB P t then .agg cs.toArray else cs.headD undef
/-- May it be compared cell by cell? -/
def eqB (P : Program) : Nat → TypeId → Bool
  | 0, _ => false
  | n + 1, t => (P.info? t).isSome && match P.underlying t with
    | some .bool => true
    | some (.int _) => true
    | some .string => true
    | some (.struct fs) => !P.stoodInHeld t && fs.toList.all fun f => f.name != "_" && eqB P n f.type
    | some (.array _ e) => eqB P n e
    | _ => false

section
variable {P : Program}
theorem eqB_info {n : Nat} {t : TypeId} (h : eqB P n t = true) : ∃ i, P.info? t = some i := by
  cases n with
  | zero => cases h
  | succ n =>
    unfold eqB at h
    simp only [Bool.and_eq_true] at h
    exact Option.isSome_iff_exists.1 h.1
theorem run_sizeOf {t : TypeId} {i : TypeInfo} (h : P.info? t = some i) (w : World) : (sizeOf t).run P w = .ok (P.cellsOf t) w := by
  simp [sizeOf, typeInfo, h, Program.cellsOf]
theorem flat_leaf {n : Nat} {t : TypeId} {l : List Leaf} (h : flatF P n t = some l) (ha : aggB P t = false) : ∃ k, l = [k] := by
  cases n with
  | zero => simp [flatF] at h
  | succ n =>
    unfold flatF at h
    unfold aggB at ha
    split at h
    · exact ⟨_, (Option.some.inj h).symm⟩
    · exact ⟨_, (Option.some.inj h).symm⟩
    · exact ⟨_, (Option.some.inj h).symm⟩
    · rename_i hu; rw [hu] at ha; cases ha
    · rename_i hu; rw [hu] at ha; cases ha
    · cases h
theorem flat_und {n : Nat} {t : TypeId} {l : List Leaf} (h : flatF P n t = some l) : ∃ d, P.underlying t = some d := by
  cases n with
  | zero => simp [flatF] at h
  | succ n =>
    unfold flatF at h
    cases hu : P.underlying t with
    | none => rw [hu] at h; cases h
    | some d => exact ⟨d, rfl⟩
/-- A part of an aggregate is a value of its cells. -/
theorem run_part {n : Nat} {t : TypeId} {l : List Leaf} (h : flatF P n t = some l) (hc : P.cellsOf t = l.length) {i : TypeInfo} (hi : P.info? t = some i) (xs : List Value) (o : Nat) (hl : o + l.length ≤ xs.length) (w : World) :
    (part t xs.toArray o).run P w = .ok (mkV P t ((xs.drop o).take l.length)) w := by
  obtain ⟨d, hd⟩ := flat_und h
  unfold part mkV
  cases ha : aggB P t with
  | true =>
    have hag : (isAgg t).run P w = .ok true w := by
      unfold aggB at ha
      unfold isAgg
      simp only [Sem.run_bind, run_underlying hd, Result.andThen_ok]
      rw [hd] at ha
      cases d <;> simp at ha ⊢
    simp only [Sem.run_bind, hag, Result.andThen_ok, if_true, run_sizeOf hi, Sem.run_pure]
    congr 2
    apply Array.ext'
    rw [hc]
    simp [List.extract_eq_take_drop, List.take_drop]
  | false =>
    have hag : (isAgg t).run P w = .ok false w := by
      unfold aggB at ha
      unfold isAgg
      simp only [Sem.run_bind, run_underlying hd, Result.andThen_ok]
      rw [hd] at ha
      cases d <;> simp at ha ⊢
    obtain ⟨k, rfl⟩ := flat_leaf h ha
    have hlt : o < xs.length := by simp at hl; omega
    have hx : xs.toArray[o]? = some xs[o] := by simp [hlt]
    simp only [Sem.run_bind, hag, Result.andThen_ok, Bool.false_eq_true, if_false, hx, Sem.run_pure]
    congr 1
    rw [List.drop_eq_getElem_cons hlt]
    rfl

theorem eq_app {a b c d : List Value} (h : a.length = b.length) : a ++ c = b ++ d ↔ a = b ∧ c = d :=
  ⟨fun e => List.append_inj e h, fun ⟨e, f⟩ => by rw [e, f]⟩

theorem eqFields_flat {rec : TypeId → Option (List Leaf)} {d : Nat} {xs ys : List Value}
    (hrec : ∀ t l, rec t = some l → P.cellsOf t = l.length → ∀ o, o + l.length ≤ xs.length → (part t xs.toArray o).run P = (fun w => .ok (mkV P t ((xs.drop o).take l.length)) w) ∧ (part t ys.toArray o).run P = (fun w => .ok (mkV P t ((ys.drop o).take l.length)) w))
    (heq : ∀ t l, rec t = some l → ∀ a b, Fits l a → Fits l b → ∀ r : Bool, (r = true ↔ a = b) → ∀ w, (Op.equalIn d t (mkV P t a) (mkV P t b)).run P w = .ok r w) :
    ∀ (fs : List Field) (o : Nat) (L : List Leaf), flatFields P rec o fs = some L → (∀ f ∈ fs, f.name ≠ "_") → xs.length = o + L.length → ys.length = o + L.length → Fits L (xs.drop o) → Fits L (ys.drop o) →
      ∀ r : Bool, (r = true ↔ xs.drop o = ys.drop o) → ∀ w, (Op.eqFields d xs.toArray ys.toArray fs).run P w = .ok r w
  | [], o, L, h, _, hx, hy, _, _, r, hr, w => by
    simp only [flatFields, Option.some.injEq] at h
    subst h
    have : r = true := hr.2 (by rw [List.drop_eq_nil_of_le (by simp at hx; omega), List.drop_eq_nil_of_le (by simp at hy; omega)])
    subst this
    rfl
  | f :: fs, o, L, h, hn, hx, hy, fx, fy, r, hr, w => by
    unfold flatFields at h
    cases hl : rec f.type with
    | none => rw [hl] at h; cases h
    | some l =>
      rw [hl] at h
      simp only at h
      split at h
      · rename_i hc
        obtain ⟨ho, hk⟩ := hc
        rw [Option.map_eq_some_iff] at h
        obtain ⟨M, hM, rfl⟩ := h
        rw [List.length_append] at hx hy
        obtain ⟨a, a', ea, fa, fa'⟩ := fx.split
        obtain ⟨b, b', eb, fb, fb'⟩ := fy.split
        have la := fa.len
        have lb := fb.len
        have ta : (xs.drop o).take l.length = a := by rw [ea, ← la]; simp
        have tb : (ys.drop o).take l.length = b := by rw [eb, ← lb]; simp
        have da : xs.drop (o + l.length) = a' := by rw [← List.drop_drop, ea, ← la]; simp
        have db : ys.drop (o + l.length) = b' := by rw [← List.drop_drop, eb, ← lb]; simp
        obtain ⟨p1, p2⟩ := hrec f.type l hl hk o (by omega)
        unfold Op.eqFields
        rw [if_pos (hn f (List.mem_cons_self ..)), ho]
        simp only [Sem.run_bind, p1, p2, Result.andThen_ok, ta, tb]
        rw [ea, eb, eq_app (by rw [la, lb])] at hr
        by_cases hab : a = b
        · rw [heq f.type l hl a b fa fb true (by simp [hab]) w]
          simp only [Result.andThen_ok, Bool.not_true, Bool.false_eq_true, if_false]
          refine eqFields_flat hrec heq fs (o + l.length) M hM (fun g hg => hn g (List.mem_cons_of_mem _ hg)) (by omega) (by omega) (by rw [da]; exact fa') (by rw [db]; exact fb') r ?_ w
          rw [da, db, hr]
          simp [hab]
        · rw [heq f.type l hl a b fa fb false (by simp [hab]) w]
          have : r = false := by
            cases r with
            | false => rfl
            | true => exact absurd (hr.1 rfl).1 hab
          subst this
          simp
      · cases h

theorem equal_flat : ∀ (n d : Nat) (t : TypeId) (l : List Leaf) (xs ys : List Value), n ≤ d → eqB P n t = true → flatF P n t = some l → Fits l xs → Fits l ys → ∀ r : Bool, (r = true ↔ xs = ys) → ∀ w, (Op.equalIn d t (mkV P t xs) (mkV P t ys)).run P w = .ok r w
  | 0, _, _, _, _, _, _, h, _, _, _, _, _, _ => by cases h
  | n + 1, d, t, l, xs, ys, hd, he, h, fx, fy, r, hr, w => by
    obtain ⟨d, rfl⟩ : ∃ d', d = d' + 1 := ⟨d - 1, by omega⟩
    have hflat := h
    unfold flatF at h
    split at h
    · rename_i hu
      simp only [Option.some.injEq] at h
      subst h
      obtain ⟨_, _, rfl, ⟨a, rfl⟩, rfl⟩ := fx
      obtain ⟨_, _, rfl, ⟨b, rfl⟩, rfl⟩ := fy
      have ha : aggB P t = false := by unfold aggB; rw [hu]
      unfold mkV
      rw [ha]
      simp only [Bool.false_eq_true, if_false, List.headD_cons]
      rw [run_equalIn_bool' w d t a b hu]
      congr 1
      rw [Bool.eq_iff_iff, hr]
      simp
    · rename_i k hu
      simp only [Option.some.injEq] at h
      subst h
      obtain ⟨_, _, rfl, ⟨a, rfl, _⟩, rfl⟩ := fx
      obtain ⟨_, _, rfl, ⟨b, rfl, _⟩, rfl⟩ := fy
      have ha : aggB P t = false := by unfold aggB; rw [hu]
      unfold mkV
      rw [ha]
      simp only [Bool.false_eq_true, if_false, List.headD_cons]
      rw [run_equalIn_int w d t k k a b hu]
      congr 1
      rw [Bool.eq_iff_iff, hr]
      simp
    · rename_i hu
      simp only [Option.some.injEq] at h
      subst h
      obtain ⟨_, _, rfl, ⟨a, rfl, _⟩, rfl⟩ := fx
      obtain ⟨_, _, rfl, ⟨b, rfl, _⟩, rfl⟩ := fy
      have ha : aggB P t = false := by unfold aggB; rw [hu]
      unfold mkV
      rw [ha]
      simp only [Bool.false_eq_true, if_false, List.headD_cons]
      rw [run_equalIn_string w d t a b hu]
      congr 1
      rw [Bool.eq_iff_iff, hr, beq_iff_eq, ByteArray.toList_eq, ByteArray.toList_eq]
      constructor
      · intro h
        have : a = b := by
          obtain ⟨a⟩ := a
          obtain ⟨b⟩ := b
          exact congrArg ByteArray.mk (Array.ext' h)
        rw [this]
      · intro h
        cases h
        rfl
    · rename_i fs hu
      split at h
      · rename_i L hL
        split at h
        · rename_i hc
          simp only [Option.some.injEq] at h
          subst h
          unfold eqB at he
          rw [hu] at he
          simp only [Bool.and_eq_true, Bool.not_eq_true'] at he
          obtain ⟨_, hp, hfs⟩ := he
          have ha : aggB P t = true := by unfold aggB; rw [hu]
          unfold mkV
          rw [ha]
          simp only [if_true]
          have hfo : P.fieldsOf t = fs := by unfold Program.fieldsOf; rw [hu]
          rw [run_equalIn_struct w d t _ _ (by rw [hfo]; exact hu) hp, hfo]
          have hx := fx.len
          have hy := fy.len
          have hin : ∀ f ∈ fs.toList, f.name ≠ "_" ∧ eqB P n f.type = true := fun f hf => by
            have := List.all_eq_true.1 hfs f hf
            simpa using this
          -- only the fields' own types come up
          refine eqFields_flat (rec := fun t => if eqB P n t then flatF P n t else none) (fun t' l' h1 h2 o ho => ?_) (fun t' l' h1 a b fa fb r hr w => ?_) fs.toList 0 L ?_ (fun f hf => (hin f hf).1) (by omega) (by omega) fx fy r hr w
          · by_cases hb : eqB P n t' = true
            · rw [if_pos hb] at h1
              obtain ⟨i, hi⟩ := eqB_info hb
              exact ⟨funext fun w => run_part h1 h2 hi xs o ho w, funext fun w => run_part h1 h2 hi ys o (by omega) w⟩
            · rw [if_neg hb] at h1; cases h1
          · by_cases hb : eqB P n t' = true
            · rw [if_pos hb] at h1
              exact equal_flat n d t' l' a b (by omega) hb h1 fa fb r hr w
            · rw [if_neg hb] at h1; cases h1
          · have key : ∀ (gs : List Field) (o : Nat), (∀ f ∈ gs, eqB P n f.type = true) → flatFields P (fun t => if eqB P n t then flatF P n t else none) o gs = flatFields P (flatF P n) o gs := by
              intro gs
              induction gs with
              | nil => intro o _; rfl
              | cons g gs ih =>
                intro o hg
                unfold flatFields
                rw [if_pos (hg g (List.mem_cons_self ..))]
                cases flatF P n g.type with
                | none => rfl
                | some l => simp only [ih _ fun f hf => hg f (List.mem_cons_of_mem _ hf)]
            rw [key fs.toList 0 fun f hf => (hin f hf).2]
            exact hL
        · cases h
      · cases h
    · rename_i m e hu
      split at h
      · rename_i L hL
        split at h
        · rename_i hc
          simp only [Option.some.injEq] at h
          subst h
          unfold eqB at he
          rw [hu] at he
          simp only [Bool.and_eq_true] at he
          obtain ⟨_, heb⟩ := he
          obtain ⟨ie, hie⟩ := eqB_info heb
          have ha : aggB P t = true := by unfold aggB; rw [hu]
          unfold mkV
          rw [ha]
          simp only [if_true]
          have hlen : ((List.replicate m L).flatten).length = m * L.length := by simp
          have hx := fx.len
          have hy := fy.len
          rw [hlen] at hx hy
          -- chunk by chunk
          have hch : ∀ (m : Nat) (zs : List Value), Fits (List.replicate m L).flatten zs → ∀ i, i < m → Fits L ((zs.drop (i * L.length)).take L.length) := by
            intro m
            induction m with
            | zero => intro zs _ i hi; omega
            | succ m ih =>
              intro zs hz i hi
              rw [List.replicate_succ, List.flatten_cons] at hz
              obtain ⟨a, b, rfl, ha, hb⟩ := hz.split
              cases i with
              | zero => rw [Nat.zero_mul, List.drop_zero, ← ha.len, List.take_left]; exact ha
              | succ i =>
                have := ih b hb i (by omega)
                rw [Nat.succ_mul, Nat.add_comm, ← List.drop_drop, ← ha.len, List.drop_left]
                rw [ha.len]
                exact this
          have hrr : (r = true ↔ ∀ i ∈ List.range' 0 m 1, (xs.drop (i * L.length)).take L.length = (ys.drop (i * L.length)).take L.length) := by
            rw [hr]
            constructor
            · rintro rfl i _; rfl
            · intro H
              rw [chunks L.length m xs hx, chunks L.length m ys hy]
              congr 1
              apply List.map_congr_left
              intro i hi
              exact H i (by simpa using List.mem_range.1 hi)
          unfold Op.equalIn
          simp only [Sem.run_bind, run_underlying hu, Result.andThen_ok, run_sizeOf hie, Std.Legacy.Range.forIn_eq_forIn_range', Std.Legacy.Range.size, Nat.sub_zero, Nat.add_sub_cancel, Nat.div_one]
          have hl : ∀ i ∈ List.range' 0 m 1, i < m := fun i hi => by simpa using (List.mem_range'_1.1 hi).2
          clear hr
          generalize List.range' 0 m 1 = is at hl hrr ⊢
          induction is with
          | nil =>
            have : r = true := hrr.2 (by simp)
            subst this
            simp
          | cons i is ih =>
            have hi : i < m := hl i (by simp)
            have hle : i * L.length + L.length ≤ m * L.length := by have := Nat.mul_le_mul_right L.length (show i + 1 ≤ m from hi); rw [Nat.succ_mul] at this; exact this
            rw [hc.1]
            rw [hc.1] at ih
            have px := run_part hL hc.1 hie xs (i * L.length) (by omega) w
            have py := run_part hL hc.1 hie ys (i * L.length) (by omega) w
            simp only [List.forIn_cons, Sem.run_bind, px, py, Result.andThen_ok]
            by_cases hab : (xs.drop (i * L.length)).take L.length = (ys.drop (i * L.length)).take L.length
            · rw [equal_flat n d e L _ _ (by omega) heb hL (hch m xs fx i hi) (hch m ys fy i hi) true (by simp [hab]) w]
              simp only [Result.andThen_ok, Bool.not_true, Bool.false_eq_true, if_false, Sem.run_pure]
              refine ih (fun j hj => hl j (by simp [hj])) ?_
              rw [hrr]
              simp [hab]
            · rw [equal_flat n d e L _ _ (by omega) heb hL (hch m xs fx i hi) (hch m ys fy i hi) false (by simp [hab]) w]
              have : r = false := by
                cases r with
                | false => rfl
                | true => exact absurd (hrr.1 rfl i (by simp)) hab
              subst this
              simp
        · cases h
      · cases h
    · cases h

/-- '==' and '!=' of two aggregates. -/
theorem run_eql_flat (n : Nat) {t : TypeId} {l : List Leaf} (hn : n ≤ 10000) (he : eqB P n t = true) (hl : flatF P n t = some l) (ha : aggB P t = true) {xs ys : List Value} (fx : Fits l xs) (fy : Fits l ys) (r : Bool) (hr : r = true ↔ xs = ys) (w : World) :
    (binOp .eql t (.agg xs.toArray) (.agg ys.toArray)).run P w = .ok (.bool r) w := by
  have := equal_flat n 10000 t l xs ys hn he hl fx fy r hr w
  unfold mkV at this
  rw [ha] at this
  simp only [if_true] at this
  rw [run_eql_struct, this]
  rfl
end
end Go.Proofs.YtainkaojnhfldaaGreatDoor
namespace Go.Proofs.YtainkaojnhfldaaGreatDoor
open Go.RowKit

def Bytes (h : List Int) : Prop := ∀ b ∈ h, 0 ≤ b ∧ b ≤ 255
theorem wf_byte {x : Int} (h : 0 ≤ x ∧ x ≤ 255) : (Lit.int .u8 x).wf = true := by
  simp [Lit.wf, IntKind.min, IntKind.max, IntKind.signed, IntKind.bits]; omega
theorem ints_fits' (k : IntKind) : ∀ (l : List Int), (∀ x ∈ l, (Lit.int k x).wf = true) → Fits (List.replicate l.length (.int k)) (l.map (Value.int k))
  | [], _ => rfl
  | x :: l, h => ⟨_, _, rfl, ⟨_, rfl, h x (List.mem_cons_self ..)⟩, ints_fits' k l fun y hy => h y (List.mem_cons_of_mem _ hy)⟩
theorem hsh_fits {h : List Int} (hl : h.length = 32) (hb : Bytes h) : Fits (List.replicate 32 (.int .u8)) (hshV h) := by
  have := ints_fits' .u8 h fun n hn => wf_byte (hb n hn)
  rwa [hl] at this
theorem hshV_inj {a b : List Int} (h : hshV a = hshV b) : a = b := by
  unfold hshV at h
  exact (List.map_inj_right (fun x y e => by injection e)).1 h
def neHsh (x y : Value) : Sem Value := binOp .neq 32 x y
theorem ne_hsh_fold (x y : Value) : binOp .neq 32 x y = neHsh x y := rfl
theorem z32i_bytes : Bytes z32i := by
  intro b hb
  have := List.eq_of_mem_replicate hb
  omega

end Go.Proofs.YtainkaojnhfldaaGreatDoor
namespace Go.Proofs.YtainkaojnhfldaaGreatDoor
open Go.RowKit

theorem KeptV.len (k : KeptV) (h : k.told.length = 32) : k.cells.length = 34 := by simp [KeptV.cells, h]
theorem KeptV.one (k : KeptV) : ∀ v ∈ k.cells, v.oneCell' = true := by
  intro v hv
  simp only [KeptV.cells, List.mem_cons, List.mem_map] at hv
  rcases hv with rfl | rfl | ⟨n, _, rfl⟩ <;> rfl
theorem Tryz.infoKpt : (Tryz.prog.info? 98).map (·.size) = some 34 := by kernel_rfl
def ldKpt (x : Value) : Sem Value := Instr.loadAt 98 x
theorem ld_kpt_fold (x : Value) : Instr.loadAt 98 x = ldKpt x := rfl
theorem ld_kpt (b o : Nat) (w : World) : (ldKpt (.pointer (some ⟨b, o, none⟩))).run Tryz.prog w = match rowN w b o 34 with | some A => .ok (.agg A) w | none => slowLd Tryz.prog 98 w b o :=
  run_loadAt_rowN 98 34 _ Tryz.underlying98 rfl Tryz.infoKpt b o w
def stKpt (x v : Value) : Sem Unit := Instr.storeAt 98 x v
theorem st_kpt_fold (x v : Value) : Instr.storeAt 98 x v = stKpt x v := rfl
theorem st_kpt (b o : Nat) (A : Array Value) (w : World) : (stKpt (.pointer (some ⟨b, o, none⟩)) (.agg A)).run Tryz.prog w = if stOk w b o 34 A = true then .ok () (w.setCells b o A.toList) else slowSt Tryz.prog 98 w b o A :=
  run_storeAt_row 98 34 Tryz.infoKpt b o A w
def alKpt : Sem Value := Instr.alloc 98 true (.tuple #[])
theorem al_kpt_fold : Instr.alloc 98 true (.tuple #[]) = alKpt := rfl
theorem al_kpt (w : World) : alKpt.run Tryz.prog w = .ok (.pointer (some ⟨w.heap.size, 0, none⟩)) (w.alloc (.cells KeptV.zero.cells.toArray 98)) := by kernel_rfl
def bdKpt (p : Array (Nat × Value)) : Sem Value := Instr.build 98 p
theorem bd_kpt_fold (p : Array (Nat × Value)) : Instr.build 98 p = bdKpt p := rfl
theorem bd_kpt_zero (w : World) : (bdKpt #[]).run Tryz.prog w = .ok (.agg KeptV.zero.cells.toArray) w := run_build w _ _ _ (by kernel_rfl)
/-- A kept secret in a block of its own. -/
structure KpS (w : World) (b : Nat) (k : KeptV) : Prop where
  at_ : w.heap[b]? = some (.cells k.cells.toArray 98 (0, 0))
  len : k.told.length = 32
section
variable {S : Nat → Prop} {w w' : World} {b : Nat} {k : KeptV}
theorem KpS.upd (a : KpS w b k) (u : Upd S w w') (n : ¬ S b) : KpS w' b k := ⟨u.old a.at_ n, a.len⟩
theorem KpS.new (a : KpS w b k) (u : New w w') : KpS w' b k := a.upd u (fun h => h)
theorem KpS.lt (a : KpS w b k) : b < w.heap.size := blk_lt a.at_
theorem KpS.row (a : KpS w b k) : rowN w b 0 34 = some k.cells.toArray := rowN_whole a.at_ 34 (by rw [List.size_toArray, k.len a.len])
theorem KpS.stOk (a : KpS w b k) {j : KeptV} (hk : j.told.length = 32) : stOk w b 0 34 j.cells.toArray = true := by
  have := stOk_all a.at_ (A := j.cells) (by rw [List.size_toArray, k.len a.len, j.len hk]) j.one
  rwa [List.size_toArray, k.len a.len] at this
theorem KpS.put (a : KpS w b k) {j : KeptV} (hk : j.told.length = 32) : KpS (w.setCells b 0 j.cells) b j := by
  refine ⟨?_, hk⟩
  rw [blk_setCells a.at_ 0 _, layIn_whole _ _ (by rw [List.size_toArray, k.len a.len, j.len hk])]
theorem KpS.c0 (a : KpS w b k) : w.cell? ⟨b, 0, none⟩ = some (.bool k.full) := blk_cell a.at_ 0
theorem KpS.c1 (a : KpS w b k) : w.cell? ⟨b, 1, none⟩ = some (.int .i64 k.number) := blk_cell a.at_ 1
theorem KpS.hsh (a : KpS w b k) : rowN w b 2 32 = some (hshV k.told).toArray := by
  rw [rowN_blk a.at_ 2 32 (by rw [List.size_toArray, k.len a.len]; omega)]
  congr 1
  apply Array.ext'
  rw [Array.toList_extract]
  unfold KeptV.cells
  show List.take 32 (hshV k.told) = hshV k.told
  exact List.take_of_length_le (by rw [hshV_len, a.len]; exact Nat.le_refl _)
end
attribute [local go_sem ↓ high] ld_hsh_fold st_hsh_fold al_hsh_fold bd_hsh_fold ld_kpt_fold st_kpt_fold al_kpt_fold bd_kpt_fold ne_hsh_fold
attribute [local go_sem] ld_hsh st_hsh al_hsh bd_hsh rowN_drew ld_kpt st_kpt al_kpt bd_kpt_zero

-- the shelf's rows
theorem drop_app {α : Type} {A B : List α} {n : Nat} (h : A.length = n) : (A ++ B).drop n = B := by subst h; simp
theorem flat_drop' (X : List KeptV) (hX : ∀ p ∈ X, p.told.length = 32) : ∀ (i : Nat) (x : KeptV), X[i]? = some x → ∃ R, (X.flatMap KeptV.cells).drop (i * 34) = x.cells ++ R := by
  induction X with
  | nil => intro i x h; simp at h
  | cons y X ih =>
    intro i x h
    have hy : y.cells.length = 34 := y.len (hX y (List.mem_cons_self ..))
    cases i with
    | zero =>
      simp only [List.getElem?_cons_zero, Option.some.injEq] at h
      subst h
      exact ⟨X.flatMap KeptV.cells, by simp⟩
    | succ i =>
      rw [List.getElem?_cons_succ] at h
      obtain ⟨R, hR⟩ := ih (fun p hp => hX p (List.mem_cons_of_mem _ hp)) i x h
      refine ⟨R, ?_⟩
      rw [List.flatMap_cons, Nat.add_mul, Nat.one_mul, Nat.add_comm (i * 34) 34, ← List.drop_drop, drop_app hy, hR]
theorem ChP.kept {w : World} {g : Nat} {S : Nat → Prop} {c : Ch} {lv nv av : Value} (h : ChP w g S c lv nv av) {i : Nat} {p : KeptV} (hi : c.shelf[i]? = some p) : rowN w g (48 + i * 34) 34 = some p.cells.toArray := by
  have hl := h.ok.s.seed
  have hlt := (List.getElem?_eq_some_iff.1 hi).1
  have hp := h.ok.shelf.2 p (List.mem_of_getElem? hi)
  have h37 : c.s.cells.length = 37 := c.s.len hl
  have ht : (c.shelf.flatMap KeptV.cells).length = 578 := by rw [told_len _ h.ok.shelf.2, h.ok.shelf.1]
  have hc : (c.v lv nv av).cells = (c.s.cells ++ (c.k.cells ++ [.int .u64 c.loc, .int .u64 c.rem, lv])) ++ (c.shelf.flatMap KeptV.cells ++ [nv, av]) := by
    show c.s.cells ++ (c.k.cells ++ (Value.int .u64 c.loc :: .int .u64 c.rem :: lv :: (c.shelf.flatMap KeptV.cells ++ [nv, av]))) = _
    simp
  have h48 : (c.s.cells ++ (c.k.cells ++ [.int .u64 c.loc, .int .u64 c.rem, lv])).length = 48 := by
    rw [List.length_append, List.length_append, h37]
    rfl
  have h17 := h.ok.shelf.1
  have hs : 48 + i * 34 + 34 ≤ (c.v lv nv av).cells.toArray.size := by
    rw [List.size_toArray, hc, List.length_append, h48, List.length_append, ht]
    show 48 + i * 34 + 34 ≤ 48 + (578 + 2)
    omega
  rw [rowN_blk h.at_ _ 34 hs]
  congr 1
  apply Array.ext'
  rw [Array.toList_extract, hc]
  show List.extract (_ ++ _) (48 + i * 34) (48 + i * 34 + 34) = _
  rw [List.extract_eq_take_drop, Nat.add_sub_cancel_left, ← List.drop_drop, drop_app h48]
  obtain ⟨R, hR⟩ := flat_drop' c.shelf h.ok.shelf.2 i p hi
  rw [List.drop_append_of_le_length (by omega), hR, List.append_assoc, List.take_append_of_le_length (by rw [p.len hp]; exact Nat.le_refl _), List.take_of_length_le (by rw [p.len hp]; exact Nat.le_refl _)]

end Go.Proofs.YtainkaojnhfldaaGreatDoor
namespace Go.Proofs.YtainkaojnhfldaaGreatDoor
open Go.RowKit

theorem layIn_mid (P Z R Q : List Value) (o : Nat) (ho : P.length = o) (h : Z.length = Q.length) : layIn (P ++ (Z ++ R)).toArray o Q = (P ++ (Q ++ R)).toArray := by
  apply Array.ext'
  apply List.ext_getElem?
  intro j
  have hsz : (P ++ (Z ++ R)).toArray.size = P.length + (Z.length + R.length) := by simp
  rw [Array.getElem?_toList, layIn_get _ _ _ _ (by rw [hsz]; omega), List.getElem?_toArray]
  by_cases h1 : o ≤ j ∧ j < o + Q.length
  · rw [if_pos h1, List.getElem?_append_right (by omega), List.getElem?_append_left (by omega), ho]
  · rw [if_neg h1]
    by_cases h2 : j < o
    · rw [List.getElem?_append_left (by omega), List.getElem?_append_left (by omega)]
    · rw [List.getElem?_append_right (by omega), List.getElem?_append_right (by omega), List.getElem?_append_right (by omega), List.getElem?_append_right (by omega), h]

attribute [local go_sem ↓ high] ld_hsh_fold st_hsh_fold al_hsh_fold bd_hsh_fold ld_kpt_fold st_kpt_fold al_kpt_fold bd_kpt_fold ne_hsh_fold
attribute [local go_sem] ld_hsh st_hsh al_hsh bd_hsh rowN_drew ld_kpt st_kpt al_kpt bd_kpt_zero

end Go.Proofs.YtainkaojnhfldaaGreatDoor
namespace Go.Proofs.YtainkaojnhfldaaGreatDoor
open Go.RowKit

structure Tb (w : World) : Prop where
  glob : Glob w
  spans : Spans w
  tabs : Tabs w
  deb : Deb w
/-- No table lies in S. -/
structure Apart (S : Nat → Prop) : Prop where
  a : ¬ S 0
  b : ¬ S 2
  c : ¬ S 4
  d : ¬ S 1
  e : ¬ S 6
theorem Tb.upd {S : Nat → Prop} {w w' : World} (h : Tb w) (u : Upd S w w') (a : Apart S) : Tb w' := ⟨h.glob.upd u a.a, h.spans.upd u a.b, h.tabs.upd u a.c a.d, h.deb.upd u a.e⟩
theorem Tb.new {w w' : World} (h : Tb w) (u : New w w') : Tb w' := ⟨h.glob.new u, h.spans.new u, h.tabs.new u, h.deb.new u⟩
theorem Tb.lt {w : World} (h : Tb w) : 0 < w.heap.size ∧ 2 < w.heap.size ∧ 4 < w.heap.size ∧ 1 < w.heap.size ∧ 6 < w.heap.size :=
  ⟨World.block_lt_of_cell? w _ (h.glob.events 0 (by decide)), World.block_lt_of_cell? w _ (h.spans.spans 0 (by decide)), h.tabs.lt.1, h.tabs.lt.2, World.block_lt_of_cell? w _ (h.deb.tab 0 (by decide))⟩
theorem Apart.fr {S : Nat → Prop} {w : World} (h : Apart S) (t : Tb w) (w' : World) : Apart (Fr S w w') := by
  obtain ⟨a, b, c, d, e⟩ := t.lt
  refine ⟨?_, ?_, ?_, ?_, ?_⟩
  · rintro (k | k)
    · exact h.a k
    · omega
  · rintro (k | k)
    · exact h.b k
    · omega
  · rintro (k | k)
    · exact h.c k
    · omega
  · rintro (k | k)
    · exact h.d k
    · omega
  · rintro (k | k)
    · exact h.e k
    · omega
theorem Apart.mono {S T : Nat → Prop} (h : Apart S) (st : ∀ k, T k → S k) : Apart T := ⟨fun k => h.a (st _ k), fun k => h.b (st _ k), fun k => h.c (st _ k), fun k => h.d (st _ k), fun k => h.e (st _ k)⟩
/-- The tables but bits'. -/
structure Tc (w : World) : Prop where
  glob : Glob w
  spans : Spans w
  tabs : Tabs w
structure ApC (S : Nat → Prop) : Prop where
  a : ¬ S 0
  b : ¬ S 2
  c : ¬ S 4
  d : ¬ S 1
theorem Tb.c {w : World} (h : Tb w) : Tc w := ⟨h.glob, h.spans, h.tabs⟩
theorem Tc.upd {S : Nat → Prop} {w w' : World} (h : Tc w) (u : Upd S w w') (a : ApC S) : Tc w' := ⟨h.glob.upd u a.a, h.spans.upd u a.b, h.tabs.upd u a.c a.d⟩
theorem Tc.new {w w' : World} (h : Tc w) (u : New w w') : Tc w' := ⟨h.glob.new u, h.spans.new u, h.tabs.new u⟩
theorem Tc.lt {w : World} (h : Tc w) : 0 < w.heap.size ∧ 2 < w.heap.size ∧ 4 < w.heap.size ∧ 1 < w.heap.size :=
  ⟨World.block_lt_of_cell? w _ (h.glob.events 0 (by decide)), World.block_lt_of_cell? w _ (h.spans.spans 0 (by decide)), h.tabs.lt.1, h.tabs.lt.2⟩
theorem ApC.mono {S T : Nat → Prop} (h : ApC S) (st : ∀ k, T k → S k) : ApC T := ⟨fun k => h.a (st _ k), fun k => h.b (st _ k), fun k => h.c (st _ k), fun k => h.d (st _ k)⟩
/-- The digest's tables are not in S. -/
structure ApD (S : Nat → Prop) : Prop where
  c : ¬ S 4
  d : ¬ S 1
theorem apd_ge {S : Nat → Prop} {w0 : World} (t : Tabs w0) (ge : ∀ k, S k → w0.heap.size ≤ k) : ApD S := by
  obtain ⟨c, d⟩ := t.lt
  exact ⟨fun h => by have := ge _ h; omega, fun h => by have := ge _ h; omega⟩
theorem Upd.fr {S : Nat → Prop} {w1 w2 w3 : World} (u : Upd S w1 w2) (v : Upd (Fr S w1 w2) w2 w3) : Upd S w1 w3 := u.then v fun i hi h => by
  rcases h with h | h
  · exact h
  · omega
/-- S and what was made later is S and what was made at all. -/
theorem ChS.later {S : Nat → Prop} {w1 w2 w3 : World} {g : Nat} {c : Ch} (h : ChS w3 g (Fr S w2 w3) c) (h1 : w1.heap.size ≤ w2.heap.size) : ChS w3 g (Fr S w1 w3) c := by
  obtain ⟨a, b, d, h⟩ := h
  refine ⟨a, b, d, h.wider (fun k hk => ?_) (fun k hk => ?_)⟩
  · rcases hk with hk | hk
    · exact .inl hk
    · exact .inr ⟨by omega, hk.2⟩
  · rcases hk with hk | hk
    · exact h.lt k (.inl hk)
    · exact hk.2

theorem ChS.grow {S : Nat → Prop} {w0 w1 w2 : World} {g : Nat} {c : Ch} (h : ChS w2 g (Fr S w0 w1) c) (h1 : w1.heap.size ≤ w2.heap.size) : ChS w2 g (Fr S w0 w2) c := by
  obtain ⟨a, b, d, h⟩ := h
  refine ⟨a, b, d, h.wider (fun k hk => ?_) (fun k hk => ?_)⟩
  · rcases hk with hk | hk
    · exact .inl hk
    · exact .inr ⟨hk.1, by omega⟩
  · rcases hk with hk | hk
    · exact h.lt k (.inl hk)
    · exact hk.2

end Go.Proofs.YtainkaojnhfldaaGreatDoor
namespace Go.Proofs.YtainkaojnhfldaaGreatDoor
open Go.RowKit

def jheadS (n : Nat) (s : ByteArray) : ByteArray := numS n 8 ++ numS s.size 2 ++ s
def putI (n : Nat) (s : ByteArray) : ByteArray := jheadS n s ++ sum4 (jheadS n s)
theorem jheadS_size (n : Nat) (s : ByteArray) : (jheadS n s).size = 10 + s.size := by
  unfold jheadS
  rw [ByteArray.size_append, ByteArray.size_append, numS_size, numS_size]
theorem putI_size (n : Nat) (s : ByteArray) : (putI n s).size = 14 + s.size := by
  unfold putI
  rw [ByteArray.size_append, jheadS_size, sum4_size]
  omega
set_option maxRecDepth 100000 in
set_option maxHeartbeats 1000000 in
theorem jput_any (n : Nat) (s : ByteArray) (w : World) (hn : n < 2 ^ 64) (hs : s.size ≤ 1024) (hT : Tabs w) :
    Calls Tryz.prog 123 #[.int .u64 n, .string s] w (Makes (.tuple #[.string (putI n s), .int .i64 0]) w) := by
  have hwr : IntKind.u64.wrap (s.size : Int) = s.size := wrapU (by omega) (by omega)
  have hsz := jheadS_size n s
  have hs4 := sum4_size (jheadS n s)
  have e0 : (⟨#[]⟩ : ByteArray) ++ numS n 8 = numS n 8 := ByteArray.empty_append
  have E8 := hide (numS_size n 8)
  have e9 : (numS n 8 ++ numS s.size 2).size = 10 := by rw [ByteArray.size_append, numS_size, numS_size]
  have E9 := hide e9
  have EH := hide (show numS n 8 ++ numS s.size 2 ++ s = jheadS n s from rfl)
  have EP := hide (show jheadS n s ++ sum4 (jheadS n s) = putI n s from rfl)
  have HS := hide (And.intro hsz hs4)
  clear e9 hsz hs4
  go_enter Tryz.func123, Tryz.ntmps123
  go_upto_region 2 with fail
  have b1 : Wr (w.alloc (.cells #[.string ⟨#[]⟩] 144)) w.heap.size ⟨#[]⟩ := blk_alloc _ _
  have n1 : New w (w.alloc (.cells #[.string ⟨#[]⟩] 144)) := (Upd.refl _ _).alloc _
  generalize w.alloc (.cells #[.string ⟨#[]⟩] 144) = w1 at b1 n1 ⊢
  have N1 := hide n1
  generalize hB : w.heap.size = B at b1 ⊢
  have HB := hide hB
  clear n1 hB
  have hcall := number_any B n 8 ⟨#[]⟩ w1 b1 (by decide) (by decide) hn (by show (0 : Nat) ≤ _; omega)
  rw [e0] at hcall
  clear e0 b1
  go_wp2_with fail
  refine hcall.mono ?_
  rintro e w2 ⟨rfl, u2, h2⟩
  have N2 := hide ((unhide N1).then u2 (fun k hk e => by have := unhide HB; omega))
  have hcall := number_any B s.size 2 (numS n 8) w2 h2 (by decide) (by decide) (by show s.size < 65536; omega) (by have := unhide E8; omega)
  clear u2 h2 N1
  go_wp2_with fail
  refine hcall.mono ?_
  rintro e w3 ⟨rfl, u3, h3⟩
  have N3 := hide ((unhide N2).then u3 (fun k hk e => by have := unhide HB; omega))
  clear hcall u3 N2 hwr
  go_wp2_with fail
  refine (bytesW_any _ _ _ h3).mono ?_
  rintro e w4 ⟨rfl, rfl⟩
  have hj := jsum_any (jheadS n s) w3 (by have := (unhide HS).1; omega) (hT.new (unhide N3))
  have hq1 : (jheadS n s).size ≤ 1034 := by have := (unhide HS).1; omega
  have hq2 := (unhide HS).2
  have hq3 := unhide E9
  clear h3 hT
  generalize numS n 8 ++ numS s.size 2 = a at *
  go_wp2_with fail
  rw [unhide EH]
  refine hj.mono ?_
  rintro e w5 ⟨rfl, n5⟩
  have N5 := hide ((unhide N3).trans n5)
  clear hj n5 N3 HB E8
  go_wp2_with fail
  rw [unhide EP]
  clear EP HS hq1 hq2 EH
  generalize jheadS n s = hv
  generalize putI n s = pv
  generalize sum4 hv = sv
  go_ret2
  exact ⟨rfl, unhide N5⟩
/-- One record more. -/
def Jo.app (j : Jo) (s : ByteArray) : Jo := { j with bs := j.bs ++ putI j.many.toNat s, many := j.many + 1 }
theorem set_many {w : World} {g : Nat} {S : Nat → Prop} {j : Jo} (h : JoS w g S j) (n : Int) : JoS (w.setCell ⟨g, 2, none⟩ (.int .i64 n)) g S { j with many := n } := by
  obtain ⟨p, buf, h⟩ := h
  have u : Upd (· = g) w (w.setCell ⟨g, 2, none⟩ (.int .i64 n)) := (Upd.refl _ _).set1 _ _
  refine ⟨p, buf, blk_set h.at_ 2 _, h.addr, row_upd' h.row u ?_, h.inG, h.inB, fun k hk => Nat.lt_of_lt_of_le (h.lt k hk) u.size⟩
  intro k hk e
  obtain ⟨cur, hc⟩ := own_blk' h.row k hk
  exact apart_ty' hc h.at_ (by decide) e
theorem JoS.wider {w : World} {g : Nat} {S T : Nat → Prop} {j : Jo} (h : JoS w g S j) (hs : ∀ k, S k → T k) (hl : ∀ k, T k → k < w.heap.size) : JoS w g T j := by
  obtain ⟨p, b, h⟩ := h
  exact ⟨p, b, h.wider hs hl⟩
def AppSt (g : Nat) (S : Nat → Prop) (j : Jo) (s : ByteArray) (w0 : World) (i : Nat) (w : World) : Prop := (i = 0 → w = w0) ∧ (i = 1 → JoS w g (Fr S w0 w) (j.app s) ∧ Upd S w0 w)
set_option maxRecDepth 100000 in
set_option maxHeartbeats 2000000 in
/-- One record is put behind all others. -/
theorem jappend_any (g b : Nat) (S : Nat → Prop) (j : Jo) (s : ByteArray) (w : World) (h : JoS w g S j) (hf : j.fused = false) (ho : j.off = false) (hs : s.size ≤ 1024) (hm : 0 ≤ j.many ∧ j.many < 1099511627776) (hlen : j.bs.size ≤ 1099511627776) (hT : Tabs w) (hb : w.cell? ⟨b, 0, none⟩ = some (.string s)) (hbS : ¬ S b) :
    Calls Tryz.prog 89 #[.pointer (some ⟨g, 0, none⟩), .slice (some ⟨b, 0, none⟩) 1 1] w fun e w' => e = .returned (.int .i64 0) ∧ JoS w' g (Fr S w w') (j.app s) ∧ Upd S w w' := by
  obtain ⟨p, buf, hp⟩ := h
  have c5 : w.cell? ⟨g, 5, none⟩ = some (.bool false) := ho ▸ blk_cell hp.at_ 5
  have hp2 : w.cell? ⟨g, 2, none⟩ = some (.int .i64 j.many) := blk_cell hp.at_ 2
  have hG := hp.inG
  have H := hide (show JoS w g S j from ⟨p, buf, hp⟩)
  obtain ⟨m, hme⟩ := Int.eq_ofNat_of_zero_le hm.1
  have hwr : IntKind.u64.wrap (m : Int) = (m : Int) := wrapU (by omega) (by omega)
  rw [hme] at hp2
  have hput := fun w' (n' : New w w') => jput_any m s w' (by omega) hs (hT.new n')
  have hpz := putI_size m s
  have hmb : m < 1099511627776 := by omega
  have HME := hide hme
  have HM := hide hm
  clear hp hme hm
  go_enter Tryz.func89, Tryz.ntmps89
  go_wp2_with fail
  go_loopw [13] (fun iv wr => ∃ i : Nat, iv = .int .i64 (i : Int) ∧ i ≤ 1 ∧ wr = w) (fun iv _ => 1 - (intOf iv).toNat)
  case atStart => exact ⟨0, rfl, by omega, rfl⟩
  case round =>
    obtain ⟨i, rfl, hi, rfl⟩ := hrel
    rcases (by omega : i = 0 ∨ i = 1) with rfl | rfl
    · go_wp2_with fail
      go_roundw
      case rel => exact ⟨1, rfl, by omega, by trivial⟩
      case measure => simp [intOf]
    · rw [show ((1 : Nat) : Int) = 1 from rfl]
      go_wp2_with fail
      go_loopw [27] (fun iv wr' => ∃ i : Nat, iv = .int .i64 (i : Int) ∧ i ≤ 1 ∧ Hid (AppSt g S j s wr i wr')) (fun iv _ => 1 - (intOf iv).toNat)
      case atStart => exact ⟨0, rfl, by omega, hide ⟨fun _ => rfl, fun e => by cases e⟩⟩
      case round =>
        obtain ⟨i, rfl, hi, hrel⟩ := hrel
        rcases (by omega : i = 0 ∨ i = 1) with rfl | rfl
        · obtain rfl := (unhide hrel).1 rfl
          clear hrel
          rw [show ((0 : Nat) : Int) = 0 from rfl]
          go_wp2_with fail
          refine (hput _ (Upd.refl _ _)).mono ?_
          rintro e w1 ⟨rfl, n1⟩
          have hw := jwrite_any g S j (putI m s) w1 ((unhide H).new n1) hf (by omega)
          have N1 := hide n1
          clear n1 hput hb c5 hp2
          go_wp2_with fail
          refine hw.mono ?_
          rintro e w2 ⟨rfl, h2, u2⟩
          have hn : JoS (w2.setCell ⟨g, 2, none⟩ (.int .i64 ((m : Int) + 1))) g (Fr S w1 w2) (j.app s) := by
            have := set_many h2 ((m : Int) + 1)
            unfold Jo.app
            rw [unhide HME, Int.toNat_natCast]
            exact this
          have hu3 : Upd (· = g) w2 (w2.setCell ⟨g, 2, none⟩ (.int .i64 ((m : Int) + 1))) := (Upd.refl _ _).set1 _ _
          have HU3 := hide hu3
          have HZ3 := hide hu3.size
          obtain ⟨p2, b2, hp2⟩ := h2
          have d2 : w2.cell? ⟨g, 2, none⟩ = some (.int .i64 (m : Int)) := by have := unhide HME; rw [← this]; exact blk_cell hp2.at_ 2
          have f2 := blk_free hp2.at_ 2
          have HN := hide hn
          have U2 := hide u2
          clear hw hn hp2 u2 hu3
          go_wp2_with fail
          go_roundw
          case rel =>
            have n1 := unhide N1
            have u2 := unhide U2
            have z3 := unhide HZ3
            have z1 := n1.size
            have z2 := u2.size
            have hz := (unhide H).lt
            refine ⟨1, rfl, by omega, hide ⟨(fun e => by cases e), fun _ => ⟨(unhide HN).wider ?_ ?_, ?_⟩⟩⟩
            · rintro k (hk | hk)
              · exact .inl hk
              · exact .inr ⟨by omega, by omega⟩
            · rintro k (hk | hk)
              · have := hz k hk
                omega
              · exact hk.2
            · exact ((n1.mono (fun _ _ h => h.elim)).trans u2).trans ((unhide HU3).mono (fun k _ e => by rw [e]; exact hG))
          case measure => simp [intOf]
        · go_wp2_with fail
          go_ret
          exact ⟨rfl, (unhide hrel).2 rfl⟩
end Go.Proofs.YtainkaojnhfldaaGreatDoor
namespace Go.Proofs.YtainkaojnhfldaaGreatDoor
open Go.RowKit

structure LinkV where
  sp : Nat
  en : Nat
  lo : Nat
  out : ByteArray
  events : Value
  ticks : Int
  dead : Bool
  broken : Bool
  waits : Bool
def ptrV (g : Nat) : Value := .pointer (some ⟨g, 0, none⟩)
def LinkV.cells (l : LinkV) : List Value := [ptrV l.sp, ptrV l.en, ptrV l.lo, .string l.out, l.events, .int .i64 l.ticks, .bool l.dead, .bool l.broken, .bool l.waits]
def LkR (w : World) (g : Nat) (l : LinkV) : Prop := w.heap[g]? = some (.cells l.cells.toArray 89 (0, 0))
/-- A splitter that holds s. -/
def SpR (w : World) (g : Nat) (s : ByteArray) : Prop := w.heap[g]? = some (.cells #[.string s] 136 (0, 0))
def LinkV.new (sp en lo : Nat) : LinkV := ⟨sp, en, lo, ⟨#[]⟩, nilV, 0, false, false, false⟩

/-- A link that is new, of a channel that is new. -/
structure NewL (w : World) (B g : Nat) (s : SetupV) (l : LinkV) : Prop where
  isNew : l = .new l.sp l.en l.lo
  lk : LkR w g l
  sp : SpR w l.sp ⟨#[]⟩
  ch : ChR w l.en (.new s)
  jo : JoR w l.lo .new
  ge : B ≤ g ∧ B ≤ l.sp ∧ B ≤ l.en ∧ B ≤ l.lo
  ne : l.en < l.lo ∧ l.lo < l.sp ∧ l.sp < g

attribute [local go_sem ↓ high] ld_setup_fold
attribute [local go_sem] ld_setup
set_option maxRecDepth 100000 in
set_option maxHeartbeats 1000000 in
theorem newL_any (s : SetupV) (hs : s.Ok) (w : World) : Calls Tryz.prog 39 #[.agg s.cells.toArray] w fun e w' =>
    (s.may ∧ ∃ g l, e = .returned (.pointer (some ⟨g, 0, none⟩)) ∧ NewL w' w.heap.size g s l ∧ New w w') ∨ (¬ s.may ∧ e = .returned (.pointer none) ∧ New w w') := by
  go_enter Tryz.func39, Tryz.ntmps39
  go_upto_region 1 with fail
  have hb : SetR (w.alloc (.cells s.cells.toArray 34)) w.heap.size s := blk_alloc _ _
  have n0 : New w (w.alloc (.cells s.cells.toArray 34)) := (Upd.refl _ _).alloc _
  generalize w.alloc (.cells s.cells.toArray 34) = w1 at hb n0 ⊢
  have hrow := hb.row hs.seed
  go_wp2_with fail
  refine (newC_any s hs _).mono ?_
  rintro e w2 (⟨hm, g, rfl, hg, hc, n2⟩ | ⟨hm, rfl, n2⟩)
  · replace n2 := n0.trans n2
    have hg' : w.heap.size ≤ g := Nat.le_trans n0.size hg
    clear n0 hb hrow hg
    have HM := hide hm
    clear hm
    go_wp2_with fail
    refine (recover_nil _).mono ?_
    rintro e w3 ⟨j, rfl, hj, hjo, n3⟩
    have hgl := hc.lt
    replace hc := hc.new n3
    replace n3 := n2.trans n3
    have hjl := blk_lt hjo
    have hj' := n2.size
    clear n2
    go_wp2_with fail
    go_ret
    have hm := unhide HM
    have n4 := n3.alloc (.cells #[.string ⟨#[]⟩] 136)
    have hsp : SpR _ w3.heap.size ⟨#[]⟩ := blk_alloc w3 (.cells #[.string ⟨#[]⟩] 136)
    have n43 : New w3 (w3.alloc (.cells #[.string ⟨#[]⟩] 136)) := (Upd.refl _ _).alloc _
    have hz : (w3.alloc (.cells #[.string ⟨#[]⟩] 136)).heap.size = w3.heap.size + 1 := World.size_alloc _ _
    replace hc := hc.new n43
    replace hjo : JoR _ j .new := n43.old hjo (fun h => h)
    have hw : w.heap.size ≤ j := by omega
    generalize w3.alloc (.cells #[.string ⟨#[]⟩] 136) = w4 at n4 hsp n43 hz hc hjo ⊢
    have hlk : LkR _ w4.heap.size (.new w3.heap.size g j) := blk_alloc w4 (.cells (LinkV.new w3.heap.size g j).cells.toArray 89)
    have n54 : New w4 (w4.alloc (.cells (LinkV.new w3.heap.size g j).cells.toArray 89)) := (Upd.refl _ _).alloc _
    have n5 := n4.trans n54
    rw [hz] at hlk
    have h43 := n3.size
    exact .inl ⟨hm, w3.heap.size + 1, .new w3.heap.size g j, rfl, ⟨rfl, hlk, n54.old hsp (fun h => h), hc.new n54, n54.old hjo (fun h => h), ⟨by omega, h43, hg', hw⟩, ⟨by show g < j; omega, hjl, by show w3.heap.size < _; omega⟩⟩, n5⟩
  · have n3 := n0.trans n2
    clear n0 hb hrow n2
    have HM := hide hm
    clear hm
    go_wp2_with fail
    go_ret
    exact .inr ⟨unhide HM, rfl, n3⟩

end Go.Proofs.YtainkaojnhfldaaGreatDoor
