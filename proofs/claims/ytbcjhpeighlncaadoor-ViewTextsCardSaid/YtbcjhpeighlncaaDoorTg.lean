/-
  view.Tag; the reference's Tag.
-/
import Derived.Test.YtbcjhpeighlncaaDoorTx2
import Derived.Test.YtbcjhpeighlncaaDoorSl2
namespace Go.Proofs.YtbcjhpeighlncaaDoor
set_option linter.unusedVariables false
set_option linter.unusedSimpArgs false
open Go.RowKit Go.Sort

theorem textS_size (ch n A B : Int) (X : List Item) : (textS ch n A B X).size = 30 + 57 * X.length := by
  unfold textS
  rw [fold_size, headS_size]
def ldView (x : Value) : Sem Value := Instr.loadAt 40 x
theorem ld_view_fold (x : Value) : Instr.loadAt 40 x = ldView x := rfl
set_option maxRecDepth 100000 in
set_option maxHeartbeats 2000000 in
theorem vtag_any (key : ByteArray) (ch n A B : Int) (u : Value) (X : List Item) (hl : X.length ≤ 1000000) (hok : ∀ x ∈ X, HtlcOk x.h) (w : World) (hT : Tabs w) (hk : key.size ≤ 100000000) (hc : 0 ≤ ch ∧ ch < 4294967296) (hn : -9223372036854775808 ≤ n ∧ n ≤ 9223372036854775807)
    (hA : 0 ≤ A ∧ A < 18446744073709551616) (hB : 0 ≤ B ∧ B < 18446744073709551616) (hu : ItemsR w u X) :
    Calls Tryd.prog 26 #[.string key, .int .u32 ch, .int .i64 n, .agg #[.int .u64 A, .int .u64 B, u]] w fun e w' => e = .returned (.agg ((tagI key (textS ch n A B X)).map (Value.int .u8)).toArray) ∧ New w w' := by
  have HTX := hide (fun W (m : New w W) => text_any ch n A B u X (by omega) hok W hc hn hA hB (hu.new m))
  have hts : (textS ch n A B X).size ≤ 100000000 := by rw [textS_size]; omega
  have HTG := hide (fun W h => tag_any key (textS ch n A B X) W hk hts h)
  have hol : (tagI key (textS ch n A B X)).length = 32 := by unfold tagI; exact sumI_len _
  generalize hO : tagI key (textS ch n A B X) = out at HTG hol
  have HO := hide hO
  generalize textS ch n A B X = tx at HTX HTG HO
  clear hA hB hn hc hok hts hO
  go_enter Tryd.func26, Tryd.ntmps26
  go_upto_region 0 with fail
  refine wp_region_lit ?_
  refine wpList_val rfl (v := .pointer (some ⟨w.heap.size, 0, none⟩)) (w' := w.alloc (.cells #[.int .u64 A, .int .u64 B, u] 40)) (by simp only [execOp]; go_simp) ?_
  have hb := blk_alloc w (.cells #[.int .u64 A, .int .u64 B, u] 40)
  have n0 : New w (w.alloc (.cells #[.int .u64 A, .int .u64 B, u] 40)) := (Upd.refl _ _).alloc _
  generalize w.alloc (.cells #[.int .u64 A, .int .u64 B, u] 40) = w1 at hb n0 ⊢
  refine wpList_val rfl (v := .pointer (some ⟨w1.heap.size, 0, none⟩)) (w' := w1.alloc (.cells z32b 28)) (by kernel_rfl) ?_
  have n1 : New w1 (w1.alloc (.cells z32b 28)) := (Upd.refl _ _).alloc _
  have hr := blk_alloc w1 (.cells z32b 28)
  generalize w1.alloc (.cells z32b 28) = w2 at n1 hr ⊢
  replace hb := n1.old hb (fun h => h)
  have n2 := n0.trans n1
  have hszR := n0.size
  go_upto_region 1 with fail
  refine wp_region_lit ?_
  refine wpList_val rfl (v := .string key) (w' := w2) (by kernel_rfl) ?_
  refine wpList_val rfl (v := .int .u32 ch) (w' := w2) (by kernel_rfl) ?_
  refine wpList_val rfl (v := .int .i64 n) (w' := w2) (by kernel_rfl) ?_
  refine wpList_load_row rfl _ _ rfl w.heap.size (by kernel_rfl) 40 _ _ _ hb Tryd.underlying40 rfl (by kernel_rfl) ?_
  refine wpList_call rfl (f := 24) (args := #[.int .u32 ch, .int .i64 n, .agg #[.int .u64 A, .int .u64 B, u]]) (w' := w2) (by kernel_rfl) ?_
  refine (unhide HTX w2 n2).mono ?_
  rintro e w3 ⟨rfl, n3⟩
  refine ⟨_, rfl, ?_⟩
  replace hr := n3.old hr (fun h => h)
  replace n2 := n2.trans n3
  refine wpList_call rfl (f := 44) (args := #[.string key, .string tx]) (w' := w3) (by kernel_rfl) ?_
  refine (unhide HTG w3 (hT.new n2)).mono ?_
  rintro e w4 ⟨rfl, n4⟩
  refine ⟨_, rfl, ?_⟩
  replace hr := n4.old hr (fun h => h)
  replace n2 := n2.trans n4
  refine wpList_store_row rfl _ _ _ rfl w1.heap.size (out.map (Value.int .u8)).toArray (by kernel_rfl) (by kernel_rfl) 28 _ hr (by rw [List.size_toArray, List.length_map, hol]; exact Tryd.infoHash) (by have h9 : z32b.size = 32 := rfl; rw [h9]; simp [hol]) (by simp [Value.oneCell']) ?_
  have hF := setRow_heap w4 w1.heap.size _ (out.map (Value.int .u8)).toArray 28 (0, 0) hr
  have nF := n2.setRow (g := w1.heap.size) (fun h => by omega) (out.map (Value.int .u8)).toArray
  generalize w4.setRow w1.heap.size (out.map (Value.int .u8)).toArray = wF at hF nF ⊢
  generalize w1.heap.size = R at hF ⊢
  clear n3 n4 hr hb n0 n1 n2 hszR
  go_wp2_with fail
  refine bodyPost_ret (results_cell_row rfl _ _ R 28 _ _ _ (by kernel_rfl) hF Tryd.underlying28 rfl (by rw [List.size_toArray, List.length_map, hol]; exact Tryd.infoHash)) rfl ?_
  exact ⟨rfl, nF⟩

set_option maxRecDepth 100000 in
set_option maxHeartbeats 2000000 in
theorem vtagR_any (key : ByteArray) (ch n A B : Int) (u : Value) (X : List Item) (hl : X.length ≤ 1000000) (hok : ∀ x ∈ X, HtlcOk x.h) (w : World) (hk : key.size ≤ 100000000) (hc : 0 ≤ ch ∧ ch < 4294967296) (hn : -9223372036854775808 ≤ n ∧ n ≤ 9223372036854775807)
    (hA : 0 ≤ A ∧ A < 18446744073709551616) (hB : 0 ≤ B ∧ B < 18446744073709551616) (hu : ItemsR w u X) :
    Calls Tryd.prog 27 #[.string key, .int .u32 ch, .int .i64 n, .agg #[.int .u64 A, .int .u64 B, u]] w fun e w' => e = .returned (.agg ((tagI key (textS ch n A B X)).map (Value.int .u8)).toArray) ∧ New w w' := by
  have HTX := hide (fun W (m : New w W) => textR_any ch n A B u X (by omega) hok W hc hn hA hB (hu.new m))
  have hts : (textS ch n A B X).size ≤ 100000000 := by rw [textS_size]; omega
  have HTG := hide (fun W => tagR_any key (textS ch n A B X) W hk hts)
  have hol : (tagI key (textS ch n A B X)).length = 32 := by unfold tagI; exact sumI_len _
  generalize hO : tagI key (textS ch n A B X) = out at HTG hol
  have HO := hide hO
  generalize textS ch n A B X = tx at HTX HTG HO
  clear hA hB hn hc hok hts hO
  go_enter Tryd.func27, Tryd.ntmps27
  go_upto_region 0 with fail
  refine wp_region_lit ?_
  refine wpList_val rfl (v := .pointer (some ⟨w.heap.size, 0, none⟩)) (w' := w.alloc (.cells #[.int .u64 A, .int .u64 B, u] 36)) (by simp only [execOp]; go_simp) ?_
  have hb := blk_alloc w (.cells #[.int .u64 A, .int .u64 B, u] 36)
  have n0 : New w (w.alloc (.cells #[.int .u64 A, .int .u64 B, u] 36)) := (Upd.refl _ _).alloc _
  generalize w.alloc (.cells #[.int .u64 A, .int .u64 B, u] 36) = w1 at hb n0 ⊢
  refine wpList_val rfl (v := .pointer (some ⟨w1.heap.size, 0, none⟩)) (w' := w1.alloc (.cells z32b 28)) (by kernel_rfl) ?_
  have n1 : New w1 (w1.alloc (.cells z32b 28)) := (Upd.refl _ _).alloc _
  have hr := blk_alloc w1 (.cells z32b 28)
  generalize w1.alloc (.cells z32b 28) = w2 at n1 hr ⊢
  replace hb := n1.old hb (fun h => h)
  have n2 := n0.trans n1
  have hszR := n0.size
  go_upto_region 1 with fail
  refine wp_region_lit ?_
  refine wpList_val rfl (v := .string key) (w' := w2) (by kernel_rfl) ?_
  refine wpList_val rfl (v := .int .u32 ch) (w' := w2) (by kernel_rfl) ?_
  refine wpList_val rfl (v := .int .i64 n) (w' := w2) (by kernel_rfl) ?_
  refine wpList_load_row rfl _ _ rfl w.heap.size (by kernel_rfl) 36 _ _ _ hb Tryd.underlying36 rfl (by kernel_rfl) ?_
  refine wpList_call rfl (f := 25) (args := #[.int .u32 ch, .int .i64 n, .agg #[.int .u64 A, .int .u64 B, u]]) (w' := w2) (by kernel_rfl) ?_
  refine (unhide HTX w2 n2).mono ?_
  rintro e w3 ⟨rfl, n3⟩
  refine ⟨_, rfl, ?_⟩
  replace hr := n3.old hr (fun h => h)
  replace n2 := n2.trans n3
  refine wpList_call rfl (f := 45) (args := #[.string key, .string tx]) (w' := w3) (by kernel_rfl) ?_
  refine (unhide HTG w3).mono ?_
  rintro e w4 ⟨rfl, n4⟩
  refine ⟨_, rfl, ?_⟩
  replace hr := n4.old hr (fun h => h)
  replace n2 := n2.trans n4
  refine wpList_store_row rfl _ _ _ rfl w1.heap.size (out.map (Value.int .u8)).toArray (by kernel_rfl) (by kernel_rfl) 28 _ hr (by rw [List.size_toArray, List.length_map, hol]; exact Tryd.infoHash) (by have h9 : z32b.size = 32 := rfl; rw [h9]; simp [hol]) (by simp [Value.oneCell']) ?_
  have hF := setRow_heap w4 w1.heap.size _ (out.map (Value.int .u8)).toArray 28 (0, 0) hr
  have nF := n2.setRow (g := w1.heap.size) (fun h => by omega) (out.map (Value.int .u8)).toArray
  generalize w4.setRow w1.heap.size (out.map (Value.int .u8)).toArray = wF at hF nF ⊢
  generalize w1.heap.size = R at hF ⊢
  clear n3 n4 hr hb n0 n1 n2 hszR
  go_wp2_with fail
  refine bodyPost_ret (results_cell_row rfl _ _ R 28 _ _ _ (by kernel_rfl) hF Tryd.underlying28 rfl (by rw [List.size_toArray, List.length_map, hol]; exact Tryd.infoHash)) rfl ?_
  exact ⟨rfl, nF⟩

end Go.Proofs.YtbcjhpeighlncaaDoor
