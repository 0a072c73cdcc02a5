/-
  The laws' own live: lives as the reference's.
-/
import Derived.Test.YtbcjhpeighlncaaDoorMbg
import Derived.Test.YtbcjhpeighlncaaDoorMbi
namespace Go.Proofs.YtbcjhpeighlncaaDoor
set_option linter.unusedVariables false
set_option linter.unusedSimpArgs false
open Go.RowKit Go.Sort

theorem Tryd.zeroLiveR : ((Tryd.prog.info? 76).map fun i => i.zero.map fun z => z.cells.toList) = some (some (.int .u64 0 :: .int .u64 0 :: (List.replicate 32 (.int .u8 0) ++ [.int .i64 0, .bool false, .int .i64 0, .bool false]))) := by kernel_rfl
theorem live_zeroR : ∃ i z, Tryd.prog.info? 76 = some i ∧ i.zero = some z ∧ z.cells = (.int .u64 0 :: .int .u64 0 :: (List.replicate 32 (.int .u8 0) ++ [.int .i64 0, .bool false, .int .i64 0, .bool false])).toArray := by
  have h := Tryd.zeroLiveR
  cases hi : Tryd.prog.info? 76 with
  | none => rw [hi] at h; simp at h
  | some i =>
    rw [hi, Option.map_some, Option.some.injEq] at h
    cases hz : i.zero with
    | none => rw [hz] at h; simp at h
    | some z =>
      rw [hz, Option.map_some, Option.some.injEq] at h
      exact ⟨i, z, rfl, hz, by rw [← h]⟩
theorem row_liveR (A : List Value) (h : A.length = 38) (w : World) : (Instr.buildSlice 53 1 #[(0, .agg A.toArray)]).run Tryd.prog w = .ok (.slice (some ⟨w.heap.size, 0, none⟩) 1 1) (w.alloc (.cells A.toArray 76)) := by
  obtain ⟨i, z, hi, hz, hc⟩ := live_zeroR
  have hsz : i.size = 38 := by have := Tryd.infoLiveR; rw [hi] at this; simpa using this
  refine run_buildSlice w _ _ 1 _ _ i z Tryd.underlying53 hi hz (by rw [hsz]; decide) (by rw [hsz]; decide) ?_
  rw [hsz, hc]
  generalize hW : Array.map _ _ = W
  have hWs : W.toList.length = A.length := by rw [← hW, h]; simp
  have hf := fill_all W.toList A [] hWs
  have hWs2 : W.size = 38 := by rw [← h, ← hWs]; simp
  simp [Instr.fill, Value.cells, h, hWs2] at hf ⊢
  exact hf
def bsLiveR (n : Nat) (p : Array (Nat × Value)) : Sem Value := Instr.buildSlice 53 n p
theorem bs_live_foldR (n : Nat) (p : Array (Nat × Value)) : Instr.buildSlice 53 n p = bsLiveR n p := rfl
theorem bs_liveR (A : List Value) (w : World) : (bsLiveR 1 #[(0, .agg A.toArray)]).run Tryd.prog w = if A.length = 38 then .ok (.slice (some ⟨w.heap.size, 0, none⟩) 1 1) (w.alloc (.cells A.toArray 76)) else (Instr.buildSlice 53 1 #[(0, .agg A.toArray)]).run Tryd.prog w := by
  by_cases h : A.length = 38
  · rw [if_pos h]; exact row_liveR A h w
  · rw [if_neg h]; rfl
theorem bs_live0R (w : World) : (bsLiveR 0 #[]).run Tryd.prog w = .ok (.slice (some ⟨w.heap.size, 0, none⟩) 0 0) (w.alloc (.cells #[] 76)) := by
  obtain ⟨i, z, hi, hz, hc⟩ := live_zeroR
  have hsz : i.size = 38 := by have := Tryd.infoLiveR; rw [hi] at this; simpa using this
  show (Instr.buildSlice 53 0 #[]).run Tryd.prog w = _
  simp [Instr.buildSlice, run_underlying Tryd.underlying53, sizeOf, typeInfo, zeroValue, hi, hz, hsz, Instr.fill, newRow]
  rw [Array.eq_empty_of_size_eq_zero (xs := Array.map _ (Array.range 0)) (by simp)]

attribute [local go_sem ↓ high] ld_live_fold bs_live_foldR
attribute [local go_sem] ld_live bs_liveR bs_live0R

set_option maxRecDepth 100000 in
set_option maxHeartbeats 4000000 in
theorem live_any (v : Value) (xs : List Live) (hl : xs.length ≤ 1048576) (w : World) (hv : Lives w v xs) :
    Calls Tryd.prog 18 #[v] w fun e w' => ∃ u, e = .returned u ∧ New w w' ∧ Lives w' u xs := by
  obtain ⟨va, vc, rfl⟩ : ∃ a c, v = .slice a xs.length c := by
    rcases hv with ⟨_, _, rfl, rfl⟩ | ⟨g, off, cap, rfl, _⟩
    · exact ⟨_, _, rfl⟩
    · exact ⟨_, _, rfl⟩
  obtain ⟨i9, z9, hi, hz, hz0, hz1, hz2⟩ := live_infoR
  go_enter Tryd.func18, Tryd.ntmps18
  go_wp2_with fail
  have nA : New w (w.alloc (.cells #[] 76)) := (Upd.refl _ _).alloc _
  have hO := World.ownsRow_made (base := w.heap.size) (e := 76) (size := 38) w #[] 0 (Nat.le_refl _) (by decide) rfl
  have HV := hide hv
  generalize w.alloc (.cells #[] 76) = wa at nA hO ⊢
  have HO := hide hO
  clear hO hv
  obtain ⟨wo, rfl⟩ : ∃ wo : World, wo = wa := ⟨_, rfl⟩
  go_wp2_with fail
  go_loopw [3, 4] (fun sv iv wr => ∃ (n : Nat), iv = .int .i64 (n : Int) ∧ n ≤ xs.length ∧ (∃ a k c, sv = .slice a k c) ∧ Hid (wr.ownsRow w.heap.size 76 38 sv n ((xs.take n).flatMap liveCells)) ∧ New w wr) (fun _ iv _ => xs.length - (intOf iv).toNat)
  case atStart => exact ⟨0, rfl, Nat.zero_le _, ⟨_, _, _, rfl⟩, HO, nA⟩
  case round =>
    obtain ⟨n, rfl, hn, ⟨sa, sk, sc, rfl⟩, HO, nr⟩ := hrel
    by_cases hlt : n < xs.length
    · obtain ⟨x, hx⟩ : ∃ x, xs[n]? = some x := ⟨_, List.getElem?_eq_getElem hlt⟩
      rcases (unhide HV).new nr with ⟨_, _, e, e2⟩ | ⟨g, off, cap, e, hh⟩
      · rw [e2] at hlt; simp at hlt
      · cases e
        have hrow := hh.row hx
        have hnn : (n : Int) < (xs.length : Int) := by omega
        have hlen := live_len x
        have h1 := live_one x
        have ht : xs.take (n + 1) = xs.take n ++ [x] := by rw [List.take_add_one, hx]; rfl
        have HT := hide ht
        clear hx hh ht
        generalize hC : liveCells x = C at hrow hlen h1
        have HC := hide hC
        clear hC
        have hsz := nr.size
        go_wp2_with (at_builtin; refine wpList_append_own _ rfl (.tmp 12) (.tmp 17) 53 rfl w.heap.size 76 i9 _ 38 80 Tryd.underlying53 hi hz hz0 hz1 hz2 (by decide) _ _ _ rfl ((unhide HO).alloc _) ⟨wr.heap.size, 0, none⟩ 1 1 C rfl (by omega) ?c1 h1 ?c3 ?c4 ?c5 ?_)
        case c1 =>
          intro j u hj
          have hadd : (⟨wr.heap.size, 0, none⟩ : Addr).add j = ⟨wr.heap.size, j, none⟩ := by unfold Addr.add; split <;> simp_all
          rw [hadd, blk_cell (blk_alloc _ _)]
          simpa using hj
        case c3 => unfold maxLen; omega
        case c4 => omega
        case c5 => simp; omega
        intro v' w5 hown5 hgrow5 _
        have n5 : New w w5 := (nr.alloc _).grown hgrow5 (fun k h hk => by have := (unhide HO).lt k h; omega)
        obtain ⟨va', vk', vc', rfl⟩ := own_shape hown5
        have HO5 := hide hown5
        clear hown5 hgrow5
        go_wp2
        go_roundw
        case rel =>
          refine ⟨n + 1, by go_num, by omega, ⟨_, _, _, rfl⟩, hide ?_, n5⟩
          rw [unhide HT, List.flatMap_append]
          have := unhide HO5
          rw [← unhide HC] at this
          simpa using this
        case measure => simp [intOf]; omega
    · obtain rfl : n = xs.length := by omega
      rw [List.take_length] at HO
      have hf := (heldL_of_ownsR (unhide HO)).2
      have HF := hide hf
      clear hf
      go_wp2
      first | go_ret2 | go_ret
      refine ⟨_, rfl, nr, ?_⟩
      rcases unhide HF with ⟨e, e2⟩ | ⟨g, cap, e, _, hh⟩
      · rw [e]; exact .inl ⟨_, _, rfl, e2⟩
      · rw [e]; exact .inr ⟨g, 0, cap, rfl, hh.toL⟩

end Go.Proofs.YtbcjhpeighlncaaDoor
