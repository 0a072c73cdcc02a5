/-
  Helpers for an end's calls: messages in blocks of their own, cells put, a channel's seed; messages built of parts.
-/
import Derived.Test.YtfmkdoachjgjbaaGreatDoorHr1
import Derived.Test.YtfmkdoachjgjbaaGreatDoorMba
import Derived.Test.YtfmkdoachjgjbaaGreatDoorProg
import Derived.Test.YtfmkdoachjgjbaaGreatDoorMaa
import Derived.RangeFuncNested
import Derived.RangeFuncBound
import Derived.RangeFuncCalls
import Derived.RangeFuncLeaves
import Derived.Shelf.Abstract
import Derived.Shelf.RegionOpen
import Derived.WalkKit
import Derived.OwnWalkIn
import Derived.TacticsInMore
import Derived.LoopNIn
import Derived.LoopIn
set_option linter.unusedVariables false
set_option linter.unusedSimpArgs false
namespace Go.Proofs.YtfmkdoachjgjbaaGreatDoor
open Go.RowKit

/-- A message lies in a block of its own. -/
structure MsB (w : World) (b : Nat) (m : MsgV) : Prop where
  at_ : w.heap[b]? = some (.cells m.cells.toArray 101 (0, 0))
  len : m.hash.length = 32
section
variable {S : Nat → Prop} {w w' : World} {b : Nat} {m : MsgV}
theorem MsB.upd (a : MsB w b m) (u : Upd S w w') (n : ¬ S b) : MsB w' b m := ⟨u.old a.at_ n, a.len⟩
theorem MsB.new (a : MsB w b m) (u : New w w') : MsB w' b m := a.upd u (fun h => h)
theorem MsB.lt (a : MsB w b m) : b < w.heap.size := blk_lt a.at_
theorem MsB.row (a : MsB w b m) : rowN w b 0 38 = some m.cells.toArray := rowN_whole a.at_ 38 (by rw [List.size_toArray, m.len a.len])
theorem MsB.stOk (a : MsB w b m) {k : MsgV} (hk : k.hash.length = 32) : stOk w b 0 38 k.cells.toArray = true := by
  have := stOk_all a.at_ (A := k.cells) (by rw [List.size_toArray, m.len a.len, k.len hk]) k.one
  rwa [List.size_toArray, m.len a.len] at this
theorem MsB.put (a : MsB w b m) {k : MsgV} (hk : k.hash.length = 32) : MsB (w.setCells b 0 k.cells) b k := by
  refine ⟨?_, hk⟩
  rw [blk_setCells a.at_ 0 _, layIn_whole _ _ (by rw [List.size_toArray, m.len a.len, k.len hk])]
theorem MsB.cells (a : MsB w b m) : w.cell? ⟨b, 0, none⟩ = some (.int .i64 m.kind) ∧ w.cell? ⟨b, 1, none⟩ = some (.int .u32 m.ch) ∧ w.cell? ⟨b, 2, none⟩ = some (.int .u64 m.id) ∧ w.cell? ⟨b, 3, none⟩ = some (.int .u64 m.amount) ∧ w.cell? ⟨b, 36, none⟩ = some (.int .i64 m.expiry) ∧ w.cell? ⟨b, 37, none⟩ = some (.int .i64 m.number) ∧ rowN w b 4 32 = some (hshV m.hash).toArray := msg_at m a.at_ a.len
end
theorem ms_alloc (w : World) (m : MsgV) (hm : m.hash.length = 32) : MsB (w.alloc (.cells m.cells.toArray 101)) w.heap.size m := ⟨blk_alloc _ _, hm⟩
def msNew (w : World) (k : MsgV) : World := (w.alloc (.cells MsgV.zero.cells.toArray 101)).setCells w.heap.size 0 k.cells
theorem ms_fresh (w : World) (k : MsgV) (hk : k.hash.length = 32) : stOk (w.alloc (.cells MsgV.zero.cells.toArray 101)) w.heap.size 0 38 k.cells.toArray = true ∧ MsB (msNew w k) w.heap.size k ∧ New w (msNew w k) := by
  have ha := ms_alloc w MsgV.zero z32i_len
  exact ⟨ha.stOk hk, ha.put hk, (((Upd.refl (fun _ => False) w).alloc _)).then (upd_sets _) (fun i hi e => by omega)⟩
theorem MsB.agg {w : World} {b : Nat} {m : MsgV} (a : MsB w b m) : m.cells.toArray.size = 38 := by rw [List.size_toArray, m.len a.len]

-- messages built of parts
theorem built_sig (k n : Int) (H : List Value) (h : H.length = 32) : Tryz.prog.built 101 [(0, .int .i64 k), (6, .int .i64 n), (4, .agg H.toArray)] = some (.int .i64 k :: .int .u32 0 :: .int .u64 0 :: .int .u64 0 :: (H ++ [.int .i64 0, .int .i64 n])).toArray := by
  obtain ⟨i, z, hi, hz, hc⟩ := zero_of Tryz.zeroMsg
  obtain ⟨fs, hu, hp⟩ := Tryz.placesMsg
  rw [built_struct' hi hu hz hp]
  rw [fill_sc (P := []) (z := .int .i64 0) (R := .int .u32 0 :: .int .u64 0 :: .int .u64 0 :: (z32i.map (Value.int .u8) ++ [.int .i64 0, .int .i64 0])) rfl rfl rfl hc]
  rw [fill_sc (P := .int .i64 k :: .int .u32 0 :: .int .u64 0 :: .int .u64 0 :: (z32i.map (Value.int .u8) ++ [.int .i64 0])) (z := .int .i64 0) (R := []) rfl rfl rfl (by rfl)]
  rw [fill_one (P := [.int .i64 k, .int .u32 0, .int .u64 0, .int .u64 0]) (A := H) (Z := z32i.map (Value.int .u8)) (R := [.int .i64 0, .int .i64 n]) (off := 4) (by rw [h]; rfl) rfl (by rw [h]; rfl) (by rfl)]
  rw [Instr.fill]
  simp
theorem bd_msg_sig (k n : Int) (h : List Int) (hh : h.length = 32) (w : World) : (bdMsg #[(0, .int .i64 k), (6, .int .i64 n), (4, .agg (hshV h).toArray)]).run Tryz.prog w = .ok (.agg (MsgV.cells ⟨k, 0, 0, 0, h, 0, n⟩).toArray) w :=
  run_build w _ _ _ (built_sig k n (hshV h) (by rw [hshV_len, hh]))
theorem bd_msg_fail (k i0 n : Int) (w : World) : (bdMsg #[(0, .int .i64 k), (2, .int .u64 i0), (6, .int .i64 n)]).run Tryz.prog w = .ok (.agg (MsgV.cells ⟨k, 0, i0, 0, z32i, 0, n⟩).toArray) w := run_build w _ _ _ (by kernel_rfl)

-- cells put
section
variable {w : World} {g : Nat} {S : Nat → Prop} {c : Ch} {lv nv av : Value}
theorem ChP.putSigned (h : ChP w g S c lv nv av) (n : Int) (hn : 0 ≤ n ∧ n ≤ 65535) : ChP (w.setCell ⟨g, 37, none⟩ (.int .i64 n)) g S { c with k := { c.k with signed := n } } lv nv av :=
  h.put (set_signed c lv nv av h.ok.s.seed n) ⟨h.ok.s, hn, h.ok.heard, h.ok.nextOwn, h.ok.nextTheirs, h.ok.loc, h.ok.rem, h.ok.xs, h.ok.few, h.ok.shelf, h.ok.news, h.ok.last, h.ok.many⟩ rfl rfl rfl
theorem ChP.putAwaits (h : ChP w g S c lv nv av) (b : Bool) : ChP (w.setCell ⟨g, 39, none⟩ (.bool b)) g S { c with k := { c.k with awaits := b } } lv nv av :=
  h.put (set_awaits c lv nv av h.ok.s.seed b) ⟨h.ok.s, h.ok.signed, h.ok.heard, h.ok.nextOwn, h.ok.nextTheirs, h.ok.loc, h.ok.rem, h.ok.xs, h.ok.few, h.ok.shelf, h.ok.news, h.ok.last, h.ok.many⟩ rfl rfl rfl
theorem ChP.putShutHeard (h : ChP w g S c lv nv av) (b : Bool) : ChP (w.setCell ⟨g, 43, none⟩ (.bool b)) g S { c with k := { c.k with shutHeard := b } } lv nv av :=
  h.put (set_shutHeard c lv nv av h.ok.s.seed b) ⟨h.ok.s, h.ok.signed, h.ok.heard, h.ok.nextOwn, h.ok.nextTheirs, h.ok.loc, h.ok.rem, h.ok.xs, h.ok.few, h.ok.shelf, h.ok.news, h.ok.last, h.ok.many⟩ rfl rfl rfl
theorem ChP.putRevoked (h : ChP w g S c lv nv av) (b : Bool) : ChP (w.setCell ⟨g, 44, none⟩ (.bool b)) g S { c with k := { c.k with revoked := b } } lv nv av :=
  h.put (set_revoked c lv nv av h.ok.s.seed b) ⟨h.ok.s, h.ok.signed, h.ok.heard, h.ok.nextOwn, h.ok.nextTheirs, h.ok.loc, h.ok.rem, h.ok.xs, h.ok.few, h.ok.shelf, h.ok.news, h.ok.last, h.ok.many⟩ rfl rfl rfl
theorem upd_g (w : World) (g i : Nat) (v : Value) : Upd (· = g) w (w.setCell ⟨g, i, none⟩ v) := (Upd.refl _ _).set1 i v
/-- The seed's cells. -/
theorem ChP.seed (h : ChP w g S c lv nv av) : rowN w g 3 32 = some (hshV c.s.seed).toArray := by
  have hl := h.ok.s.seed
  have hs : 3 + 32 ≤ (c.v lv nv av).cells.toArray.size := by
    rw [List.size_toArray]
    unfold ChanV.cells
    rw [List.length_append, (c.v lv nv av).setup.len hl]
    omega
  rw [rowN_blk h.at_ 3 32 hs]
  congr 1
  apply Array.ext'
  rw [Array.toList_extract]
  unfold ChanV.cells
  show List.extract (c.s.cells ++ _) 3 35 = hshV c.s.seed
  unfold SetupV.cells
  simp [hl, hshV]
theorem ChP.key (h : ChP w g S c lv nv av) : w.cell? ⟨g, 35, none⟩ = some (.string c.s.key) := (h.toR.low 35 (by omega)).trans (c.s.c35 h.ok.s.seed)
theorem ChP.peer (h : ChP w g S c lv nv av) : w.cell? ⟨g, 36, none⟩ = some (.string c.s.peer) := (h.toR.low 36 (by omega)).trans (c.s.c36 h.ok.s.seed)
/-- The base's cells. -/
theorem ChP.base (h : ChP w g S c lv nv av) : rowN w g 45 2 = some #[.int .u64 c.loc, .int .u64 c.rem] := by
  have hl := h.ok.s.seed
  have hc : (c.v lv nv av).cells = c.s.cells ++ (c.k.cells ++ ([.int .u64 c.loc, .int .u64 c.rem] ++ (lv :: ((c.v lv nv av).told ++ [nv, av])))) := rfl
  have h37 : c.s.cells.length = 37 := c.s.len hl
  have hs : 45 + 2 ≤ (c.v lv nv av).cells.toArray.size := by
    rw [List.size_toArray, hc, List.length_append, List.length_append, List.length_append, h37]
    show 45 + 2 ≤ 37 + (8 + (2 + _))
    omega
  rw [rowN_blk h.at_ 45 2 hs]
  congr 1
  apply Array.ext'
  rw [Array.toList_extract, hc]
  show List.extract (c.s.cells ++ _) 45 47 = _
  rw [List.extract_eq_take_drop, List.drop_append, h37, List.drop_of_length_le (by omega), List.nil_append]
  show List.take 2 (List.drop 8 (c.k.cells ++ _)) = _
  rw [List.drop_append_of_le_length (by show 8 ≤ 8; omega)]
  rfl
end
def ldBas (x : Value) : Sem Value := Instr.loadAt 59 x
theorem ld_bas_fold (x : Value) : Instr.loadAt 59 x = ldBas x := rfl
theorem ld_bas (b o : Nat) (w : World) : (ldBas (.pointer (some ⟨b, o, none⟩))).run Tryz.prog w = match rowN w b o 2 with | some A => .ok (.agg A) w | none => slowLd Tryz.prog 59 w b o :=
  run_loadAt_rowN 59 2 _ Tryz.underlying59 rfl Tryz.infoBase b o w
/-- What was said: a row that the call made. -/
def SaidO (base : Nat) (w : World) (v : Value) (ms : List MsgV) : Prop := w.ownsRow base 101 38 v ms.length (ms.flatMap MsgV.cells)
theorem SaidO.nil (base : Nat) (w : World) : SaidO base w nilV [] := World.ownsRow_nil _ _ _ _

end Go.Proofs.YtfmkdoachjgjbaaGreatDoor
namespace Go.Proofs.YtfmkdoachjgjbaaGreatDoor
open Go.RowKit Go.Shelf
attribute [local go_sem] Oper.semAt_some

/-- The places from d down to k at which i has a bit. -/
def hiB (i d k : Nat) : List Nat := ((List.range' k (d - k)).reverse).filter fun b => i.testBit b

end Go.Proofs.YtfmkdoachjgjbaaGreatDoor
