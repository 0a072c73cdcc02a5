/-
  What a message is to a hearer; hearAdd.
-/
import Derived.Test.YtainkaojnhfldaaGreatDoorCh8
import Derived.Test.YtainkaojnhfldaaGreatDoorMah
import Derived.Test.YtainkaojnhfldaaGreatDoorProg
import Derived.Test.YtainkaojnhfldaaGreatDoorMaa
import Derived.RangeFuncNested
import Derived.RangeFuncBound
import Derived.RangeFuncCalls
import Derived.RangeFuncLeaves
import Derived.Shelf.Abstract
import Derived.Shelf.RegionOpen
import Derived.WalkKit
import Derived.OwnWalkIn
import Derived.TacticsInMore
import Derived.LoopNIn
import Derived.LoopIn
import Derived.Test.YtainkaojnhfldaaGreatDoorRows
import Derived.Deep.RegionHeld3
import Derived.OpenShut
set_option linter.unusedVariables false
set_option linter.unusedSimpArgs false
namespace Go.Proofs.YtainkaojnhfldaaGreatDoor
open Go.RowKit

attribute [local go_sem ↓ high] ld_live_fold st_live_fold al_live_fold bs_liv_fold ld_hsh_fold ld_htl_fold st_htl_fold al_htl_fold bd_htl_fold bd_liv_fold
attribute [local go_sem] ld_live st_live al_live bs_liv rowN_drew ld_hsh ld_htl st_htl al_htl bd_htl

/-- Numbers of a message that fit. -/
structure MsgOk (m : MsgV) : Prop where
  kind : -9223372036854775808 ≤ m.kind ∧ m.kind ≤ 9223372036854775807
  ch : 0 ≤ m.ch ∧ m.ch < 4294967296
  id : 0 ≤ m.id ∧ m.id < 18446744073709551616
  amount : 0 ≤ m.amount ∧ m.amount < 18446744073709551616
  len : m.hash.length = 32
  hash : ∀ b ∈ m.hash, 0 ≤ b ∧ b ≤ 255
  expiry : -9223372036854775808 ≤ m.expiry ∧ m.expiry ≤ 9223372036854775807
  number : -9223372036854775808 ≤ m.number ∧ m.number ≤ 9223372036854775807
def hvec (l : List Int) : Vector Int 32 := if h : l.length = 32 then ⟨l.toArray, by simpa using h⟩ else Vector.replicate 32 0
theorem hvec_list {l : List Int} (h : l.length = 32) : (hvec l).toList = l := by
  unfold hvec
  rw [dif_pos h]
  rfl
/-- A message's cells, one by one. -/
theorem msg_at (m : MsgV) {w : World} {b : Nat} {T : TypeId} {fz : Nat × Nat} (h : w.heap[b]? = some (.cells m.cells.toArray T fz)) (hl : m.hash.length = 32) :
    w.cell? ⟨b, 0, none⟩ = some (.int .i64 m.kind) ∧ w.cell? ⟨b, 1, none⟩ = some (.int .u32 m.ch) ∧ w.cell? ⟨b, 2, none⟩ = some (.int .u64 m.id) ∧ w.cell? ⟨b, 3, none⟩ = some (.int .u64 m.amount) ∧ w.cell? ⟨b, 36, none⟩ = some (.int .i64 m.expiry) ∧ w.cell? ⟨b, 37, none⟩ = some (.int .i64 m.number) ∧ rowN w b 4 32 = some (m.hash.map (Value.int .u8)).toArray := by
  have e36 : ∀ j, m.cells[36 + j]? = ([.int .i64 m.expiry, .int .i64 m.number] : List Value)[j]? := by
    intro j
    unfold MsgV.cells
    rw [show 36 + j = (32 + j) + 4 by omega]
    simp only [List.getElem?_cons_succ]
    rw [List.getElem?_append_right (by simp [hl]), List.length_map, hl, Nat.add_sub_cancel_left]
  refine ⟨blk_cell h 0, blk_cell h 1, blk_cell h 2, blk_cell h 3, ?_, ?_, ?_⟩
  · rw [blk_cell h 36, List.getElem?_toArray]; exact e36 0
  · rw [blk_cell h 37, List.getElem?_toArray]; exact e36 1
  · rw [rowN_blk h 4 32 (by rw [List.size_toArray, m.len hl]; omega)]
    congr 1
    apply Array.ext'
    rw [Array.toList_extract]
    unfold MsgV.cells
    simp [hl]

end Go.Proofs.YtainkaojnhfldaaGreatDoor
namespace Go.Proofs.YtainkaojnhfldaaGreatDoor
open Go.RowKit

def hshV (h : List Int) : List Value := h.map (Value.int .u8)
theorem hshV_len (h : List Int) : (hshV h).length = h.length := by simp [hshV]
theorem hshV_one (h : List Int) : ∀ v ∈ hshV h, v.oneCell' = true := by
  intro v hv
  obtain ⟨x, _, rfl⟩ := List.mem_map.1 hv
  rfl
def alHsh : Sem Value := Instr.alloc 32 true (.tuple #[])
theorem al_hsh_fold : Instr.alloc 32 true (.tuple #[]) = alHsh := rfl
theorem al_hsh (w : World) : alHsh.run Tryz.prog w = .ok (.pointer (some ⟨w.heap.size, 0, none⟩)) (w.alloc (.cells (hshV z32i).toArray 32)) := by kernel_rfl
def bdHsh (p : Array (Nat × Value)) : Sem Value := Instr.build 32 p
theorem bd_hsh_fold (p : Array (Nat × Value)) : Instr.build 32 p = bdHsh p := rfl
theorem bd_hsh (w : World) : (bdHsh #[]).run Tryz.prog w = .ok (.agg (hshV z32i).toArray) w := run_build w _ _ _ (by kernel_rfl)
/-- A hash lies in a block of its own. -/
structure HsB (w : World) (b : Nat) (h : List Int) : Prop where
  at_ : w.heap[b]? = some (.cells (hshV h).toArray 32 (0, 0))
  len : h.length = 32
theorem HsB.upd {S : Nat → Prop} {w w' : World} {b : Nat} {h : List Int} (a : HsB w b h) (u : Upd S w w') (n : ¬ S b) : HsB w' b h := ⟨u.old a.at_ n, a.len⟩
theorem HsB.new {w w' : World} {b : Nat} {h : List Int} (a : HsB w b h) (u : New w w') : HsB w' b h := a.upd u (fun h => h)
theorem HsB.row {w : World} {b : Nat} {h : List Int} (a : HsB w b h) : rowN w b 0 32 = some (hshV h).toArray := rowN_whole a.at_ 32 (by rw [List.size_toArray, hshV_len, a.len])
theorem HsB.stOk {w : World} {b : Nat} {h : List Int} (a : HsB w b h) (k : List Int) (hk : k.length = 32) : stOk w b 0 32 (hshV k).toArray = true := by
  have := stOk_all a.at_ (A := hshV k) (by rw [List.size_toArray, hshV_len, hshV_len, a.len, hk]) (hshV_one k)
  rwa [List.size_toArray, hshV_len, a.len] at this
theorem HsB.put {w : World} {b : Nat} {h : List Int} (a : HsB w b h) (k : List Int) (hk : k.length = 32) : HsB (w.setCells b 0 (hshV k)) b k := by
  refine ⟨?_, hk⟩
  rw [blk_setCells a.at_ 0 _, layIn_whole _ _ (by rw [List.size_toArray, hshV_len, hshV_len, a.len, hk])]
theorem HsB.lt {w : World} {b : Nat} {h : List Int} (a : HsB w b h) : b < w.heap.size := blk_lt a.at_
theorem hs_alloc (w : World) (h : List Int) (hh : h.length = 32) : HsB (w.alloc (.cells (hshV h).toArray 32)) w.heap.size h := ⟨blk_alloc _ _, hh⟩
theorem upd_sets {w : World} {b : Nat} (l : List Value) : Upd (· = b) w (w.setCells b 0 l) := (Upd.refl _ _).setCells 0 l

/-- A hash stored into a block made for it. -/
def hsNew (w : World) (k : List Int) : World := (w.alloc (.cells (hshV z32i).toArray 32)).setCells w.heap.size 0 (hshV k)
theorem hs_fresh (w : World) (k : List Int) (hk : k.length = 32) : stOk (w.alloc (.cells (hshV z32i).toArray 32)) w.heap.size 0 32 (hshV k).toArray = true ∧ HsB (hsNew w k) w.heap.size k ∧ New w (hsNew w k) := by
  have ha := hs_alloc w z32i z32i_len
  exact ⟨ha.stOk k hk, ha.put k hk, (((Upd.refl (fun _ => False) w).alloc _)).then (upd_sets _) (fun i hi e => by omega)⟩

end Go.Proofs.YtainkaojnhfldaaGreatDoor
namespace Go.Proofs.YtainkaojnhfldaaGreatDoor
open Go.RowKit

/-- A message lies in a block of its own. -/
structure MsB (w : World) (b : Nat) (m : MsgV) : Prop where
  at_ : w.heap[b]? = some (.cells m.cells.toArray 72 (0, 0))
  len : m.hash.length = 32
section
variable {S : Nat → Prop} {w w' : World} {b : Nat} {m : MsgV}
theorem MsB.upd (a : MsB w b m) (u : Upd S w w') (n : ¬ S b) : MsB w' b m := ⟨u.old a.at_ n, a.len⟩
theorem MsB.new (a : MsB w b m) (u : New w w') : MsB w' b m := a.upd u (fun h => h)
theorem MsB.lt (a : MsB w b m) : b < w.heap.size := blk_lt a.at_
theorem MsB.row (a : MsB w b m) : rowN w b 0 38 = some m.cells.toArray := rowN_whole a.at_ 38 (by rw [List.size_toArray, m.len a.len])
theorem MsB.stOk (a : MsB w b m) {k : MsgV} (hk : k.hash.length = 32) : stOk w b 0 38 k.cells.toArray = true := by
  have := stOk_all a.at_ (A := k.cells) (by rw [List.size_toArray, m.len a.len, k.len hk]) k.one
  rwa [List.size_toArray, m.len a.len] at this
theorem MsB.put (a : MsB w b m) {k : MsgV} (hk : k.hash.length = 32) : MsB (w.setCells b 0 k.cells) b k := by
  refine ⟨?_, hk⟩
  rw [blk_setCells a.at_ 0 _, layIn_whole _ _ (by rw [List.size_toArray, m.len a.len, k.len hk])]
theorem MsB.cells (a : MsB w b m) : w.cell? ⟨b, 0, none⟩ = some (.int .i64 m.kind) ∧ w.cell? ⟨b, 1, none⟩ = some (.int .u32 m.ch) ∧ w.cell? ⟨b, 2, none⟩ = some (.int .u64 m.id) ∧ w.cell? ⟨b, 3, none⟩ = some (.int .u64 m.amount) ∧ w.cell? ⟨b, 36, none⟩ = some (.int .i64 m.expiry) ∧ w.cell? ⟨b, 37, none⟩ = some (.int .i64 m.number) ∧ rowN w b 4 32 = some (hshV m.hash).toArray := msg_at m a.at_ a.len
end
theorem ms_alloc (w : World) (m : MsgV) (hm : m.hash.length = 32) : MsB (w.alloc (.cells m.cells.toArray 72)) w.heap.size m := ⟨blk_alloc _ _, hm⟩
def msNew (w : World) (k : MsgV) : World := (w.alloc (.cells MsgV.zero.cells.toArray 72)).setCells w.heap.size 0 k.cells
theorem ms_fresh (w : World) (k : MsgV) (hk : k.hash.length = 32) : stOk (w.alloc (.cells MsgV.zero.cells.toArray 72)) w.heap.size 0 38 k.cells.toArray = true ∧ MsB (msNew w k) w.heap.size k ∧ New w (msNew w k) := by
  have ha := ms_alloc w MsgV.zero z32i_len
  exact ⟨ha.stOk hk, ha.put hk, (((Upd.refl (fun _ => False) w).alloc _)).then (upd_sets _) (fun i hi e => by omega)⟩
theorem MsB.agg {w : World} {b : Nat} {m : MsgV} (a : MsB w b m) : m.cells.toArray.size = 38 := by rw [List.size_toArray, m.len a.len]

-- messages built of parts
theorem built_sig (k n : Int) (H : List Value) (h : H.length = 32) : Tryz.prog.built 72 [(0, .int .i64 k), (6, .int .i64 n), (4, .agg H.toArray)] = some (.int .i64 k :: .int .u32 0 :: .int .u64 0 :: .int .u64 0 :: (H ++ [.int .i64 0, .int .i64 n])).toArray := by
  obtain ⟨i, z, hi, hz, hc⟩ := zero_of Tryz.zeroMsg
  obtain ⟨fs, hu, hp⟩ := Tryz.placesMsg
  rw [built_struct' hi hu hz hp]
  rw [fill_sc (P := []) (z := .int .i64 0) (R := .int .u32 0 :: .int .u64 0 :: .int .u64 0 :: (z32i.map (Value.int .u8) ++ [.int .i64 0, .int .i64 0])) rfl rfl rfl hc]
  rw [fill_sc (P := .int .i64 k :: .int .u32 0 :: .int .u64 0 :: .int .u64 0 :: (z32i.map (Value.int .u8) ++ [.int .i64 0])) (z := .int .i64 0) (R := []) rfl rfl rfl (by rfl)]
  rw [fill_one (P := [.int .i64 k, .int .u32 0, .int .u64 0, .int .u64 0]) (A := H) (Z := z32i.map (Value.int .u8)) (R := [.int .i64 0, .int .i64 n]) (off := 4) (by rw [h]; rfl) rfl (by rw [h]; rfl) (by rfl)]
  rw [Instr.fill]
  simp
theorem bd_msg_sig (k n : Int) (h : List Int) (hh : h.length = 32) (w : World) : (bdMsg #[(0, .int .i64 k), (6, .int .i64 n), (4, .agg (hshV h).toArray)]).run Tryz.prog w = .ok (.agg (MsgV.cells ⟨k, 0, 0, 0, h, 0, n⟩).toArray) w :=
  run_build w _ _ _ (built_sig k n (hshV h) (by rw [hshV_len, hh]))

-- cells put
section
variable {w : World} {g : Nat} {S : Nat → Prop} {c : Ch} {lv nv av : Value}
theorem ChP.putSigned (h : ChP w g S c lv nv av) (n : Int) (hn : 0 ≤ n ∧ n ≤ 65535) : ChP (w.setCell ⟨g, 37, none⟩ (.int .i64 n)) g S { c with k := { c.k with signed := n } } lv nv av :=
  h.put (set_signed c lv nv av h.ok.s.seed n) ⟨h.ok.s, hn, h.ok.heard, h.ok.nextOwn, h.ok.nextTheirs, h.ok.loc, h.ok.rem, h.ok.xs, h.ok.few, h.ok.shelf, h.ok.news, h.ok.last, h.ok.many⟩ rfl rfl rfl
theorem ChP.putAwaits (h : ChP w g S c lv nv av) (b : Bool) : ChP (w.setCell ⟨g, 39, none⟩ (.bool b)) g S { c with k := { c.k with awaits := b } } lv nv av :=
  h.put (set_awaits c lv nv av h.ok.s.seed b) ⟨h.ok.s, h.ok.signed, h.ok.heard, h.ok.nextOwn, h.ok.nextTheirs, h.ok.loc, h.ok.rem, h.ok.xs, h.ok.few, h.ok.shelf, h.ok.news, h.ok.last, h.ok.many⟩ rfl rfl rfl
theorem ChP.putRevoked (h : ChP w g S c lv nv av) (b : Bool) : ChP (w.setCell ⟨g, 44, none⟩ (.bool b)) g S { c with k := { c.k with revoked := b } } lv nv av :=
  h.put (set_revoked c lv nv av h.ok.s.seed b) ⟨h.ok.s, h.ok.signed, h.ok.heard, h.ok.nextOwn, h.ok.nextTheirs, h.ok.loc, h.ok.rem, h.ok.xs, h.ok.few, h.ok.shelf, h.ok.news, h.ok.last, h.ok.many⟩ rfl rfl rfl
theorem upd_g (w : World) (g i : Nat) (v : Value) : Upd (· = g) w (w.setCell ⟨g, i, none⟩ v) := (Upd.refl _ _).set1 i v
/-- The seed's cells. -/
theorem ChP.seed (h : ChP w g S c lv nv av) : rowN w g 3 32 = some (hshV c.s.seed).toArray := by
  have hl := h.ok.s.seed
  have hs : 3 + 32 ≤ (c.v lv nv av).cells.toArray.size := by
    rw [List.size_toArray]
    unfold ChanV.cells
    rw [List.length_append, (c.v lv nv av).setup.len hl]
    omega
  rw [rowN_blk h.at_ 3 32 hs]
  congr 1
  apply Array.ext'
  rw [Array.toList_extract]
  unfold ChanV.cells
  show List.extract (c.s.cells ++ _) 3 35 = hshV c.s.seed
  unfold SetupV.cells
  simp [hl, hshV]
theorem ChP.key (h : ChP w g S c lv nv av) : w.cell? ⟨g, 35, none⟩ = some (.string c.s.key) := (h.toR.low 35 (by omega)).trans (c.s.c35 h.ok.s.seed)
theorem ChP.peer (h : ChP w g S c lv nv av) : w.cell? ⟨g, 36, none⟩ = some (.string c.s.peer) := (h.toR.low 36 (by omega)).trans (c.s.c36 h.ok.s.seed)
/-- The base's cells. -/
theorem ChP.base (h : ChP w g S c lv nv av) : rowN w g 45 2 = some #[.int .u64 c.loc, .int .u64 c.rem] := by
  have hl := h.ok.s.seed
  have hc : (c.v lv nv av).cells = c.s.cells ++ (c.k.cells ++ ([.int .u64 c.loc, .int .u64 c.rem] ++ (lv :: ((c.v lv nv av).told ++ [nv, av])))) := rfl
  have h37 : c.s.cells.length = 37 := c.s.len hl
  have hs : 45 + 2 ≤ (c.v lv nv av).cells.toArray.size := by
    rw [List.size_toArray, hc, List.length_append, List.length_append, List.length_append, h37]
    show 45 + 2 ≤ 37 + (8 + (2 + _))
    omega
  rw [rowN_blk h.at_ 45 2 hs]
  congr 1
  apply Array.ext'
  rw [Array.toList_extract, hc]
  show List.extract (c.s.cells ++ _) 45 47 = _
  rw [List.extract_eq_take_drop, List.drop_append, h37, List.drop_of_length_le (by omega), List.nil_append]
  show List.take 2 (List.drop 8 (c.k.cells ++ _)) = _
  rw [List.drop_append_of_le_length (by show 8 ≤ 8; omega)]
  rfl
end
def ldBas (x : Value) : Sem Value := Instr.loadAt 75 x
theorem ld_bas_fold (x : Value) : Instr.loadAt 75 x = ldBas x := rfl
theorem ld_bas (b o : Nat) (w : World) : (ldBas (.pointer (some ⟨b, o, none⟩))).run Tryz.prog w = match rowN w b o 2 with | some A => .ok (.agg A) w | none => slowLd Tryz.prog 75 w b o :=
  run_loadAt_rowN 75 2 _ Tryz.underlying75 rfl Tryz.infoBase b o w
/-- What was said: a row that the call made. -/
def SaidO (base : Nat) (w : World) (v : Value) (ms : List MsgV) : Prop := w.ownsRow base 72 38 v ms.length (ms.flatMap MsgV.cells)
theorem SaidO.nil (base : Nat) (w : World) : SaidO base w nilV [] := World.ownsRow_nil _ _ _ _

end Go.Proofs.YtainkaojnhfldaaGreatDoor
namespace Go.Proofs.YtainkaojnhfldaaGreatDoor
open Go.RowKit Go.Shelf
attribute [local go_sem] Oper.semAt_some

/-- The places from d down to k at which i has a bit. -/
def hiB (i d k : Nat) : List Nat := ((List.range' k (d - k)).reverse).filter fun b => i.testBit b

end Go.Proofs.YtainkaojnhfldaaGreatDoor
namespace Go.Proofs.YtainkaojnhfldaaGreatDoor
open Go.RowKit

/-- Block b holds just these integers, and may be written. -/
def Ints (k : IntKind) (w : World) (b : Nat) (ws : List Int) : Prop := ∃ T, w.heap[b]? = some (.cells (ws.map (Value.int k)).toArray T (0, 0))
theorem Ints.cell {k : IntKind} {w : World} {b : Nat} {ws : List Int} (h : Ints k w b ws) {i : Nat} (hi : i < ws.length) : w.cell? ⟨b, i, none⟩ = some (.int k (ws.getD i 0)) := by
  obtain ⟨T, h⟩ := h
  rw [blk_cell h, List.getElem?_toArray, List.getElem?_map, List.getElem?_eq_getElem hi, List.getD_eq_getElem?_getD, List.getElem?_eq_getElem hi]
  rfl
theorem Ints.free {k : IntKind} {w : World} {b : Nat} {ws : List Int} (h : Ints k w b ws) (i : Nat) : w.frozen? ⟨b, i, none⟩ = false := by
  obtain ⟨T, h⟩ := h
  exact blk_free h i
theorem Ints.set {k : IntKind} {w : World} {b : Nat} {ws : List Int} (h : Ints k w b ws) (i : Nat) (v : Int) : Ints k (w.setCell ⟨b, i, none⟩ (.int k v)) b (ws.set i v) := by
  obtain ⟨T, h⟩ := h
  refine ⟨T, (blk_set h i _).trans ?_⟩
  simp [List.map_set]
theorem Ints.upd {S : Nat → Prop} {k : IntKind} {w w' : World} {b : Nat} {ws : List Int} (h : Ints k w b ws) (u : Upd S w w') (hn : ¬ S b) : Ints k w' b ws := by
  obtain ⟨T, h⟩ := h
  exact ⟨T, u.old h hn⟩
theorem Ints.q {k : IntKind} {w w' : World} {b : Nat} {ws : List Int} (h : Ints k w b ws) (q : Q w w') : Ints k w' b ws := h.upd (q.upd (fun _ => False)) (fun h => h)
theorem Ints.lt {k : IntKind} {w : World} {b : Nat} {ws : List Int} (h : Ints k w b ws) : b < w.heap.size := by
  obtain ⟨T, h⟩ := h
  exact blk_lt h

/-- A turn to the right by n, as the program reckons it. -/
def rotI (x n : Int) : Int := bits .or .u32 (x / 2 ^ n.toNat) (x * 2 ^ (32 - n).toNat % 4294967296)
def turnsI (x : Int) (ns : List Int) : Int := ns.foldl (fun a n => bits .xor .u32 a (rotI x n)) 0
theorem bits_u32 (op : BinOp) (x y : Int) : 0 ≤ bits op .u32 x y ∧ bits op .u32 x y < 4294967296 := by
  have h := wf_bits op .u32 x y
  simp [Lit.wf, IntKind.min, IntKind.max, IntKind.signed, IntKind.bits] at h
  omega
theorem turnsI_bd (x : Int) (ns : List Int) : 0 ≤ turnsI x ns ∧ turnsI x ns < 4294967296 := by
  unfold turnsI
  have key : ∀ (ns : List Int) (a : Int), 0 ≤ a ∧ a < 4294967296 → 0 ≤ ns.foldl (fun a n => bits .xor .u32 a (rotI x n)) a ∧ ns.foldl (fun a n => bits .xor .u32 a (rotI x n)) a < 4294967296 := by
    intro ns
    induction ns with
    | nil => intro a h; exact h
    | cons n ns ih => intro a _; exact ih _ (bits_u32 ..)
  exact key ns 0 (by omega)
theorem turnsI_snoc (x : Int) (ns : List Int) (n : Int) : turnsI x (ns ++ [n]) = bits .xor .u32 (turnsI x ns) (rotI x n) := by simp [turnsI]

set_option maxHeartbeats 1000000 in
theorem turns_any (x : Int) (ns : List Int) (b c : Nat) (w : World) (hns : ∀ n ∈ ns, 0 < n ∧ n < 32) (hl : ns.length ≤ 8) (hx : 0 ≤ x) (hx2 : x < 4294967296) (hb : Ints .u64 w b ns) :
    Calls Tryz.prog 212 #[.int .u32 x, .slice (some ⟨b, 0, none⟩) ns.length c] w (Reads (.int .u32 (turnsI x ns)) w) := by
  go_enter Tryz.func212, Tryz.ntmps212
  go_wp2_with fail
  go_loopw [5, 7, 10] (fun s _ iv wr => ∃ k : Nat, iv = .int .i64 (k : Int) ∧ k ≤ ns.length ∧ s = .int .u32 (turnsI x (ns.take k)) ∧ wr = w) (fun _ _ iv _ => ns.length - (intOf iv).toNat)
  case atStart => exact ⟨0, rfl, Nat.zero_le _, rfl, rfl⟩
  case round =>
    obtain ⟨k, rfl, hk, rfl, rfl⟩ := hrel
    by_cases hlt : k < ns.length
    · have c0 := hb.cell hlt
      obtain ⟨hn1, hn2⟩ := hns (ns.getD k 0) (by rw [List.getD_eq_getElem?_getD, List.getElem?_eq_getElem hlt]; exact List.getElem_mem hlt)
      have hs := turnsI_snoc x (ns.take k) (ns.getD k 0)
      rw [show ns.take k ++ [ns.getD k 0] = ns.take (k + 1) by rw [List.take_add_one, List.getD_eq_getElem?_getD, List.getElem?_eq_getElem hlt]; rfl] at hs
      obtain ⟨ha, ha2⟩ := turnsI_bd x (ns.take k)
      unfold rotI at hs
      have HS := hide hs
      have hnn : (k : Int) < (ns.length : Int) := by omega
      clear hs
      generalize ns.getD k 0 = n at c0 hn1 hn2 HS
      generalize turnsI x (ns.take k) = a at ha ha2 HS ⊢
      go_wp2
      go_roundw
      case rel => exact ⟨k + 1, by go_num, by omega, by rw [unhide HS], trivial⟩
      case measure => simp [intOf]; omega
    · obtain rfl : k = ns.length := by omega
      rw [List.take_length]
      go_wp2
      go_ret
      exact ⟨rfl, Q.refl _⟩

theorem turns_two (x n1 n2 : Int) (g : Nat) (T : TypeId) (w : World) (h1 : 0 < n1 ∧ n1 < 32) (h2 : 0 < n2 ∧ n2 < 32) (hx : 0 ≤ x) (hx2 : x < 4294967296) (hb : w.heap[g]? = some (.cells #[.int .u64 n1, .int .u64 n2] T (0, 0))) :
    Calls Tryz.prog 212 #[.int .u32 x, .slice (some ⟨g, 0, none⟩) 2 2] w (Reads (.int .u32 (turnsI x [n1, n2])) w) :=
  turns_any x [n1, n2] g 2 w (by intro n hn; simp only [List.mem_cons, List.not_mem_nil, or_false] at hn; rcases hn with rfl | rfl; exact h1; exact h2) (by simp) hx hx2 ⟨T, hb⟩
theorem turns_three (x n1 n2 n3 : Int) (g : Nat) (T : TypeId) (w : World) (h1 : 0 < n1 ∧ n1 < 32) (h2 : 0 < n2 ∧ n2 < 32) (h3 : 0 < n3 ∧ n3 < 32) (hx : 0 ≤ x) (hx2 : x < 4294967296) (hb : w.heap[g]? = some (.cells #[.int .u64 n1, .int .u64 n2, .int .u64 n3] T (0, 0))) :
    Calls Tryz.prog 212 #[.int .u32 x, .slice (some ⟨g, 0, none⟩) 3 3] w (Reads (.int .u32 (turnsI x [n1, n2, n3])) w) :=
  turns_any x [n1, n2, n3] g 3 w (by intro n hn; simp only [List.mem_cons, List.not_mem_nil, or_false] at hn; rcases hn with rfl | rfl | rfl; exact h1; exact h2; exact h3) (by simp) hx hx2 ⟨T, hb⟩

end Go.Proofs.YtainkaojnhfldaaGreatDoor
