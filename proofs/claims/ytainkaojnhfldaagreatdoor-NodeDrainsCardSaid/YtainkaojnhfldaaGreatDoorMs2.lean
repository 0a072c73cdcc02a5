/-
  Messages, Htlcs and lives that are built of their parts; rows of one.
-/
import Derived.Test.YtainkaojnhfldaaGreatDoorMba
set_option linter.unusedVariables false
set_option linter.unusedSimpArgs false
namespace Go.Proofs.YtainkaojnhfldaaGreatDoor
open Go.RowKit

theorem fill_sc {place : Nat → Option (Nat × Nat)} {i off : Nat} {v z : Value} {P R : List Value} {cs : Array Value} (hp : place i = some (off, 1)) (ho : P.length = off) (hv : v.cells = #[v]) (hc : cs = (P ++ (z :: R)).toArray) (rest : List (Nat × Value)) :
    Instr.fill place cs ((i, v) :: rest) = Instr.fill place (P ++ (v :: R)).toArray rest := by
  subst hc ho
  rw [Instr.fill, hp]
  simp [hv]
/-- A row of one. -/
theorem row_of {P : Program} {sl T : TypeId} {n : Nat} {Z : List Value} (hu : P.underlying sl = some (.slice T)) (hz : ((P.info? T).map fun i => i.zero.map fun z => z.cells.toList) = some (some Z)) (hs : (P.info? T).map (·.size) = some n) (hn : Z.length = n) (h0 : n ≠ 0) (h24 : n ≤ 1000)
    (A : List Value) (h : A.length = n) (w : World) : (Instr.buildSlice sl 1 #[(0, .agg A.toArray)]).run P w = .ok (.slice (some ⟨w.heap.size, 0, none⟩) 1 1) (w.alloc (.cells A.toArray T)) := by
  obtain ⟨i, z, hi, hzz, hc⟩ := zero_of hz
  have hsz : i.size = n := by rw [hi] at hs; simpa using hs
  refine run_buildSlice w _ _ 1 _ _ i z hu hi hzz (by rw [hsz]; first | omega | (simp; omega)) (by rw [hsz]; first | omega | (simp; omega)) ?_
  rw [hsz, hc]
  generalize hW : Array.map _ _ = W
  have hWs : W.toList.length = A.length := by rw [← hW, h]; simp
  have hf := fill_mid A [] W.toList [] hWs
  have hWs2 : W.size = n := by rw [← h, ← hWs]; simp
  simp [Instr.fill, Value.cells, h, hWs2] at hf ⊢
  exact hf
theorem Tryz.zeroMsg : ((Tryz.prog.info? 72).map fun i => i.zero.map fun z => z.cells.toList) = some (some MsgV.zero.cells) := by kernel_rfl
theorem Tryz.zeroLive' : ((Tryz.prog.info? 128).map fun i => i.zero.map fun z => z.cells.toList) = some (some (liveCells Live.zero)) := by kernel_rfl
def Htlc.zero : Htlc := ⟨0, 0, Vector.replicate 32 0, 0⟩
theorem Tryz.zeroHtlc' : ((Tryz.prog.info? 126).map fun i => i.zero.map fun z => z.cells.toList) = some (some (htlcCells Htlc.zero)) := by kernel_rfl
def bsMsg (n : Nat) (p : Array (Nat × Value)) : Sem Value := Instr.buildSlice 102 n p
theorem bs_msg_fold (n : Nat) (p : Array (Nat × Value)) : Instr.buildSlice 102 n p = bsMsg n p := rfl
theorem bs_msg (A : List Value) (w : World) : (bsMsg 1 #[(0, .agg A.toArray)]).run Tryz.prog w = if A.length = 38 then .ok (.slice (some ⟨w.heap.size, 0, none⟩) 1 1) (w.alloc (.cells A.toArray 72)) else (Instr.buildSlice 102 1 #[(0, .agg A.toArray)]).run Tryz.prog w := by
  by_cases h : A.length = 38
  · rw [if_pos h]; exact row_of Tryz.underlying102 Tryz.zeroMsg Tryz.infoMsg rfl (by decide) (by decide) A h w
  · rw [if_neg h]; rfl
def bsLiv (n : Nat) (p : Array (Nat × Value)) : Sem Value := Instr.buildSlice 96 n p
theorem bs_liv_fold (n : Nat) (p : Array (Nat × Value)) : Instr.buildSlice 96 n p = bsLiv n p := rfl
theorem bs_liv (A : List Value) (w : World) : (bsLiv 1 #[(0, .agg A.toArray)]).run Tryz.prog w = if A.length = 38 then .ok (.slice (some ⟨w.heap.size, 0, none⟩) 1 1) (w.alloc (.cells A.toArray 128)) else (Instr.buildSlice 96 1 #[(0, .agg A.toArray)]).run Tryz.prog w := by
  by_cases h : A.length = 38
  · rw [if_pos h]; exact row_of Tryz.underlying96 Tryz.zeroLive' Tryz.infoLive rfl (by decide) (by decide) A h w
  · rw [if_neg h]; rfl
theorem Tryz.placesMsg : ∃ fields, Tryz.prog.underlying 72 = some (.struct fields) ∧ fields.toList.mapM (fun f => (Tryz.prog.info? f.type).map fun i => (f.offset, i.size)) = some [(0, 1), (1, 1), (2, 1), (3, 1), (4, 32), (36, 1), (37, 1)] := ⟨_, Tryz.underlying72, by kernel_rfl⟩
theorem built_add (k id n ex : Int) (H : List Value) (h : H.length = 32) : Tryz.prog.built 72 [(0, .int .i64 k), (2, .int .u64 id), (3, .int .u64 n), (4, .agg H.toArray), (5, .int .i64 ex)] = some (.int .i64 k :: .int .u32 0 :: .int .u64 id :: .int .u64 n :: (H ++ [.int .i64 ex, .int .i64 0])).toArray := by
  obtain ⟨i, z, hi, hz, hc⟩ := zero_of Tryz.zeroMsg
  obtain ⟨fs, hu, hp⟩ := Tryz.placesMsg
  rw [built_struct' hi hu hz hp]
  rw [fill_sc (P := []) (z := .int .i64 0) (R := .int .u32 0 :: .int .u64 0 :: .int .u64 0 :: (z32i.map (Value.int .u8) ++ [.int .i64 0, .int .i64 0])) rfl rfl rfl hc]
  rw [fill_sc (P := [.int .i64 k, .int .u32 0]) (z := .int .u64 0) (R := .int .u64 0 :: (z32i.map (Value.int .u8) ++ [.int .i64 0, .int .i64 0])) rfl rfl rfl (by rfl)]
  rw [fill_sc (P := [.int .i64 k, .int .u32 0, .int .u64 id]) (z := .int .u64 0) (R := (z32i.map (Value.int .u8) ++ [.int .i64 0, .int .i64 0])) rfl rfl rfl (by rfl)]
  rw [fill_one (P := [.int .i64 k, .int .u32 0, .int .u64 id, .int .u64 n]) (A := H) (Z := z32i.map (Value.int .u8)) (R := [.int .i64 0, .int .i64 0]) (off := 4) (by rw [h]; rfl) rfl (by rw [h]; rfl) (by rfl)]
  rw [fill_sc (P := [.int .i64 k, .int .u32 0, .int .u64 id, .int .u64 n] ++ H) (z := .int .i64 0) (R := [.int .i64 0]) (off := 36) rfl (by simp [h]) rfl (by simp)]
  rw [Instr.fill]
  simp
theorem bd_msg_add (k id n ex : Int) (H : List Value) (w : World) : (bdMsg #[(0, .int .i64 k), (2, .int .u64 id), (3, .int .u64 n), (4, .agg H.toArray), (5, .int .i64 ex)]).run Tryz.prog w = if H.length = 32 then .ok (.agg (.int .i64 k :: .int .u32 0 :: .int .u64 id :: .int .u64 n :: (H ++ [.int .i64 ex, .int .i64 0])).toArray) w else (Instr.build 72 #[(0, .int .i64 k), (2, .int .u64 id), (3, .int .u64 n), (4, .agg H.toArray), (5, .int .i64 ex)]).run Tryz.prog w := by
  by_cases h : H.length = 32
  · rw [if_pos h]; exact run_build w _ _ _ (built_add k id n ex H h)
  · rw [if_neg h]; rfl
theorem bd_msg_zero (w : World) : (bdMsg #[]).run Tryz.prog w = .ok (.agg MsgV.zero.cells.toArray) w := run_build w _ _ _ (by kernel_rfl)
theorem bd_msg_shut (k c : Int) (w : World) : (bdMsg #[(0, .int .i64 k), (1, .int .u32 c)]).run Tryz.prog w = .ok (.agg (MsgV.cells ⟨k, c, 0, 0, z32i, 0, 0⟩).toArray) w := run_build w _ _ _ (by kernel_rfl)
def bdHtl (p : Array (Nat × Value)) : Sem Value := Instr.build 126 p
theorem bd_htl_fold (p : Array (Nat × Value)) : Instr.build 126 p = bdHtl p := rfl
theorem Tryz.placesHtl : ∃ fields, Tryz.prog.underlying 126 = some (.struct fields) ∧ fields.toList.mapM (fun f => (Tryz.prog.info? f.type).map fun i => (f.offset, i.size)) = some [(0, 1), (1, 1), (2, 32), (34, 1)] := ⟨_, Tryz.underlying126, by kernel_rfl⟩
theorem built_htl (id n ex : Int) (H : List Value) (h : H.length = 32) : Tryz.prog.built 126 [(0, .int .u64 id), (1, .int .u64 n), (2, .agg H.toArray), (3, .int .i64 ex)] = some (.int .u64 id :: .int .u64 n :: (H ++ [.int .i64 ex])).toArray := by
  obtain ⟨i, z, hi, hz, hc⟩ := zero_of Tryz.zeroHtlc'
  obtain ⟨fs, hu, hp⟩ := Tryz.placesHtl
  rw [built_struct' hi hu hz hp]
  rw [fill_sc (P := []) (z := .int .u64 0) (R := .int .u64 0 :: (z32i.map (Value.int .u8) ++ [.int .i64 0])) rfl rfl rfl (hc.trans (by kernel_rfl))]
  rw [fill_sc (P := [.int .u64 id]) (z := .int .u64 0) (R := z32i.map (Value.int .u8) ++ [.int .i64 0]) rfl rfl rfl (by rfl)]
  rw [fill_one (P := [.int .u64 id, .int .u64 n]) (A := H) (Z := z32i.map (Value.int .u8)) (R := [.int .i64 0]) (off := 2) (by rw [h]; rfl) rfl (by rw [h]; rfl) (by rfl)]
  rw [fill_sc (P := [.int .u64 id, .int .u64 n] ++ H) (z := .int .i64 0) (R := []) (off := 34) rfl (by simp [h]) rfl (by simp)]
  rw [Instr.fill]
  simp
theorem bd_htl (id n ex : Int) (H : List Value) (w : World) : (bdHtl #[(0, .int .u64 id), (1, .int .u64 n), (2, .agg H.toArray), (3, .int .i64 ex)]).run Tryz.prog w = if H.length = 32 then .ok (.agg (.int .u64 id :: .int .u64 n :: (H ++ [.int .i64 ex])).toArray) w else (Instr.build 126 #[(0, .int .u64 id), (1, .int .u64 n), (2, .agg H.toArray), (3, .int .i64 ex)]).run Tryz.prog w := by
  by_cases h : H.length = 32
  · rw [if_pos h]; exact run_build w _ _ _ (built_htl id n ex H h)
  · rw [if_neg h]; rfl
def bdLiv (p : Array (Nat × Value)) : Sem Value := Instr.build 128 p
theorem bd_liv_fold (p : Array (Nat × Value)) : Instr.build 128 p = bdLiv p := rfl
theorem Tryz.placesLiv : ∃ fields, Tryz.prog.underlying 128 = some (.struct fields) ∧ fields.toList.mapM (fun f => (Tryz.prog.info? f.type).map fun i => (f.offset, i.size)) = some [(0, 35), (35, 1), (36, 1), (37, 1)] := ⟨_, Tryz.underlying128, by kernel_rfl⟩
theorem zlive_split : (liveCells Live.zero).toArray = (([] : List Value) ++ (htlcCells Htlc.zero ++ ([.bool false, .int .i64 0, .bool false] : List Value))).toArray := rfl
theorem built_liv3 (b : Bool) (s : Int) (H : List Value) (h : H.length = 35) : Tryz.prog.built 128 [(0, .agg H.toArray), (1, .bool b), (2, .int .i64 s)] = some (H ++ ([.bool b, .int .i64 s, .bool false] : List Value)).toArray := by
  obtain ⟨i, z, hi, hz, hc⟩ := zero_of Tryz.zeroLive'
  obtain ⟨fs, hu, hp⟩ := Tryz.placesLiv
  rw [built_struct' hi hu hz hp]
  rw [fill_one (P := []) (A := H) (Z := htlcCells Htlc.zero) (R := [.bool false, .int .i64 0, .bool false]) (off := 0) (by rw [h]; rfl) rfl (by rw [h]; rfl) (hc.trans zlive_split)]
  rw [fill_sc (P := H) (z := .bool false) (R := [.int .i64 0, .bool false]) (off := 35) rfl h rfl (by simp)]
  rw [fill_sc (P := H ++ [.bool b]) (z := .int .i64 0) (R := [.bool false]) (off := 36) rfl (by simp [h]) rfl (by simp)]
  rw [Instr.fill]
  simp
theorem bd_liv3 (b : Bool) (s : Int) (H : List Value) (w : World) : (bdLiv #[(0, .agg H.toArray), (1, .bool b), (2, .int .i64 s)]).run Tryz.prog w = if H.length = 35 then .ok (.agg (H ++ ([.bool b, .int .i64 s, .bool false] : List Value)).toArray) w else (Instr.build 128 #[(0, .agg H.toArray), (1, .bool b), (2, .int .i64 s)]).run Tryz.prog w := by
  by_cases h : H.length = 35
  · rw [if_pos h]; exact run_build w _ _ _ (built_liv3 b s H h)
  · rw [if_neg h]; rfl
end Go.Proofs.YtainkaojnhfldaaGreatDoor
