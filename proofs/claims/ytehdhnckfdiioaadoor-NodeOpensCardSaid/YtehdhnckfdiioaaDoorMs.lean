/-
  Messages as rows of cells.
-/
import Derived.Test.YtehdhnckfdiioaaDoorProg
import Derived.Test.YtehdhnckfdiioaaDoorLv
import Derived.Test.YtehdhnckfdiioaaDoorFill
import Derived.Test.YtehdhnckfdiioaaDoorTxt
namespace Go.Proofs.YtehdhnckfdiioaaDoor
open Go.RowKit

structure MsgV where
  kind : Int
  ch : Int
  id : Int
  amount : Int
  hash : List Int
  expiry : Int
  number : Int
def MsgV.cells (m : MsgV) : List Value := .int .i64 m.kind :: .int .u32 m.ch :: .int .u64 m.id :: .int .u64 m.amount :: (m.hash.map (Value.int .u8) ++ [.int .i64 m.expiry, .int .i64 m.number])
theorem MsgV.len (m : MsgV) (h : m.hash.length = 32) : m.cells.length = 38 := by simp [MsgV.cells, h]
theorem MsgV.one (m : MsgV) : ∀ v ∈ m.cells, v.oneCell' = true := by
  intro v hv
  simp only [MsgV.cells, List.mem_cons, List.mem_append, List.mem_map, List.not_mem_nil, or_false] at hv
  rcases hv with rfl | rfl | rfl | rfl | ⟨n, _, rfl⟩ | rfl | rfl <;> rfl
def z32i : List Int := List.replicate 32 0
theorem z32i_len : z32i.length = 32 := List.length_replicate
theorem Tryd.infoMsg : (Tryd.prog.info? 67).map (·.size) = some 38 := by kernel_rfl
def ldMsg (x : Value) : Sem Value := Instr.loadAt 67 x
theorem ld_msg_fold (x : Value) : Instr.loadAt 67 x = ldMsg x := rfl
theorem ld_msg (b o : Nat) (w : World) : (ldMsg (.pointer (some ⟨b, o, none⟩))).run Tryd.prog w = match rowN w b o 38 with | some A => .ok (.agg A) w | none => slowLd Tryd.prog 67 w b o :=
  run_loadAt_rowN 67 38 _ Tryd.underlying67 rfl Tryd.infoMsg b o w
def stMsg (x v : Value) : Sem Unit := Instr.storeAt 67 x v
theorem st_msg_fold (x v : Value) : Instr.storeAt 67 x v = stMsg x v := rfl
theorem st_msg (b o : Nat) (A : Array Value) (w : World) : (stMsg (.pointer (some ⟨b, o, none⟩)) (.agg A)).run Tryd.prog w = if stOk w b o 38 A = true then .ok () (w.setCells b o A.toList) else slowSt Tryd.prog 67 w b o A :=
  run_storeAt_row 67 38 Tryd.infoMsg b o A w
def MsgV.zero : MsgV := ⟨0, 0, 0, 0, z32i, 0, 0⟩
theorem zero_msg : MsgV.zero.cells.toArray.size = 38 := rfl
def alMsg : Sem Value := Instr.alloc 67 true (.tuple #[])
theorem al_msg_fold : Instr.alloc 67 true (.tuple #[]) = alMsg := rfl
theorem al_msg (w : World) : alMsg.run Tryd.prog w = .ok (.pointer (some ⟨w.heap.size, 0, none⟩)) (w.alloc (.cells MsgV.zero.cells.toArray 67)) := by kernel_rfl
def bdMsg (p : Array (Nat × Value)) : Sem Value := Instr.build 67 p
theorem bd_msg_fold (p : Array (Nat × Value)) : Instr.build 67 p = bdMsg p := rfl
theorem bd_msg_again (c n k : Int) (w : World) : (bdMsg #[(0, .int .i64 9), (1, .int .u32 c), (6, .int .i64 n), (2, .int .u64 k)]).run Tryd.prog w = .ok (.agg (MsgV.cells ⟨9, c, k, 0, z32i, 0, n⟩).toArray) w := run_build w _ _ _ (by kernel_rfl)
theorem Tryd.infoBase : (Tryd.prog.info? 53).map (·.size) = some 2 := by kernel_rfl
/-- A message laid whole into a block of its own. -/
theorem laid_msg {w : World} {b : Nat} {m : MsgV} {T : TypeId} (h : w.heap[b]? = some (.cells MsgV.zero.cells.toArray T (0, 0))) (hm : m.hash.length = 32) : (w.setCells b 0 m.cells).heap[b]? = some (.cells m.cells.toArray T (0, 0)) := by
  rw [blk_setCells h 0 m.cells, layIn_whole _ _ (by rw [m.len hm]; rfl)]
theorem stOk_msg {w : World} {b : Nat} {T : TypeId} (h : w.heap[b]? = some (.cells MsgV.zero.cells.toArray T (0, 0))) {m : MsgV} (hm : m.hash.length = 32) : stOk w b 0 38 m.cells.toArray = true :=
  stOk_all (C := MsgV.zero.cells.toArray) h (by rw [m.len hm]; rfl) m.one
end Go.Proofs.YtehdhnckfdiioaaDoor
