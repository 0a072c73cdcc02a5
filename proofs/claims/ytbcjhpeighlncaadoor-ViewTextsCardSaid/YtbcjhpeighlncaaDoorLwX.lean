/-
  The law ViewTexts, walked.
-/
import Derived.Test.YtbcjhpeighlncaaDoorTg
import Derived.Test.YtbcjhpeighlncaaDoorMee
import Derived.Test.YtbcjhpeighlncaaDoorMbg
import Derived.OpenShut
namespace Go.Proofs.YtbcjhpeighlncaaDoor
set_option linter.unusedVariables false
set_option linter.unusedSimpArgs false
open Go.RowKit Go.Sort

set_option maxRecDepth 100000 in
set_option maxHeartbeats 1000000 in
theorem texts_early (key : ByteArray) (ch n A B C D : Int) (a1 a2 : Option Addr) (n1 n2 c1 c2 : Nat) (w : World) (hS : Spans w) (hm1 : n1 ≤ maxLen) (hm2 : n2 ≤ maxLen) (hk : key.size ≤ maxLen) (he : 100 < key.size ∨ 40 < n1 ∨ 40 < n2) :
    Calls Tryd.prog 8 #[.string key, .int .u32 ch, .int .i64 n, .agg #[.int .u64 A, .int .u64 B, .slice a1 n1 c1], .agg #[.int .u64 C, .int .u64 D, .slice a2 n2 c2]] w (Makes (.bool true) w) := by
  unfold maxLen at hm1 hm2 hk
  have n0 : New w ((w.alloc (.cells #[.int .u64 A, .int .u64 B, .slice a1 n1 c1] 40)).alloc (.cells #[.int .u64 C, .int .u64 D, .slice a2 n2 c2] 40)) := ((Upd.refl _ _).alloc _).alloc _
  have hb1 : ((w.alloc (.cells #[.int .u64 A, .int .u64 B, .slice a1 n1 c1] 40)).alloc (.cells #[.int .u64 C, .int .u64 D, .slice a2 n2 c2] 40)).heap[w.heap.size]? = some (.cells #[.int .u64 A, .int .u64 B, .slice a1 n1 c1] 40 (0, 0)) := blk_alloc_old (blk_alloc _ _) _
  have hb2 : ((w.alloc (.cells #[.int .u64 A, .int .u64 B, .slice a1 n1 c1] 40)).alloc (.cells #[.int .u64 C, .int .u64 D, .slice a2 n2 c2] 40)).heap[w.heap.size + 1]? = some (.cells #[.int .u64 C, .int .u64 D, .slice a2 n2 c2] 40 (0, 0)) := by
    have := blk_alloc (w.alloc (.cells #[.int .u64 A, .int .u64 B, .slice a1 n1 c1] 40)) (.cells #[.int .u64 C, .int .u64 D, .slice a2 n2 c2] 40)
    rwa [World.size_alloc] at this
  go_enter Tryd.func8, Tryd.ntmps8
  go_upto_region 1 with fail
  generalize (w.alloc (.cells #[.int .u64 A, .int .u64 B, .slice a1 n1 c1] 40)).alloc (.cells #[.int .u64 C, .int .u64 D, .slice a2 n2 c2] 40) = w1 at n0 hb1 hb2 ⊢
  have q1 := blk_cell hb1 2
  have q2 := blk_cell hb2 2
  simp at q1 q2
  have hS1 := hS.new n0
  clear hb1 hb2
  by_cases h1 : 100 < key.size
  · have e1 : decide ((100 : Int) < (key.size : Int)) = true := by simp; omega
    have e1' : decide (100 < key.size) = true := by simpa using h1
    clear he h1
    go_wp2_with fail
    refine (shown_any _ hS1).mono ?_
    rintro e w2 ⟨rfl, m2⟩
    go_wp2
    go_ret
    exact ⟨rfl, n0.trans m2⟩
  · have e1 : decide ((100 : Int) < (key.size : Int)) = false := by simp; omega
    have e1' : decide (100 < key.size) = false := by simpa using h1
    by_cases h2 : 40 < n1
    · have e2 : decide ((40 : Int) < (n1 : Int)) = true := by simp; omega
      have e2' : decide (40 < n1) = true := by simpa using h2
      clear he h1 h2
      go_wp2_with fail
      refine (shown_any _ hS1).mono ?_
      rintro e w2 ⟨rfl, m2⟩
      go_wp2
      go_ret
      exact ⟨rfl, n0.trans m2⟩
    · have h3 : 40 < n2 := by omega
      have e2 : decide ((40 : Int) < (n1 : Int)) = false := by simp; omega
      have e2' : decide (40 < n1) = false := by simpa using h2
      have e3 : decide ((40 : Int) < (n2 : Int)) = true := by simp; omega
      have e3' : decide (40 < n2) = true := by simpa using h3
      clear he h1 h2 h3
      go_wp2_with fail
      refine (shown_any _ hS1).mono ?_
      rintro e w2 ⟨rfl, m2⟩
      go_wp2
      go_ret
      exact ⟨rfl, n0.trans m2⟩

theorem ba_beq (s t : ByteArray) : (s.toList == t.toList) = true ↔ s = t := by
  rw [beq_iff_eq, ByteArray.toList_eq, ByteArray.toList_eq]
  exact ⟨fun h => ByteArray.ext (Array.ext' h), fun h => by rw [h]⟩
/-- What is known of the law's operations. -/
def txPhi (A B C D : Int) (X Y : List Item) (xs : List Value) (i : Nat) (v : Value) (w : World) : Prop :=
  match i with
  | 4 => ∃ u, v = .agg #[.int .u64 A, .int .u64 B, u] ∧ ItemsR w u X
  | 17 => ∃ u, v = .agg #[.int .u64 A, .int .u64 B, u] ∧ ItemsR w u X
  | 26 => ∃ u, v = .agg #[.int .u64 A, .int .u64 B, u] ∧ ItemsR w u X
  | 28 => ∃ u, v = .agg #[.int .u64 C, .int .u64 D, u] ∧ ItemsR w u Y
  | i => v = xs.getD i undef
theorem txPhi_new {A B C D : Int} {X Y : List Item} {xs : List Value} {i : Nat} {v : Value} {w w' : World} (n : New w w') (h : txPhi A B C D X Y xs i v w) : txPhi A B C D X Y xs i v w' := by
  unfold txPhi at h ⊢
  split at h
  · obtain ⟨u, e, h⟩ := h; exact ⟨u, e, h.new n⟩
  · obtain ⟨u, e, h⟩ := h; exact ⟨u, e, h.new n⟩
  · obtain ⟨u, e, h⟩ := h; exact ⟨u, e, h.new n⟩
  · obtain ⟨u, e, h⟩ := h; exact ⟨u, e, h.new n⟩
  · exact h
theorem Tryd.flatHash : flatF Tryd.prog 5 28 = some (List.replicate 32 (.int .u8)) := by kernel_rfl
theorem Tryd.eqHash : eqB Tryd.prog 5 28 = true := by kernel_rfl
theorem Tryd.aggHash : aggB Tryd.prog 28 = true := by kernel_rfl
def eqHash (x y : Value) : Sem Value := binOp .eql 28 x y
theorem eq_hash_fold (x y : Value) : binOp .eql 28 x y = eqHash x y := rfl
theorem byAll_u8 (h : List Int) (n : Nat) : ∀ x ∈ byAll h n, 0 ≤ x ∧ x ≤ 255 := by
  induction n with
  | zero => intro x hx; rw [byAll_zero] at hx; have := List.eq_of_mem_replicate hx; omega
  | succ n ih =>
    intro x hx
    rw [byAll_succ] at hx
    rcases List.mem_or_eq_of_mem_set hx with h | rfl
    · exact ih x h
    · unfold byI; omega
theorem sumI_u8 (s : ByteArray) : ∀ x ∈ sumI s, 0 ≤ x ∧ x ≤ 255 := byAll_u8 _ _
theorem eq_hash {h : List Int} (hl : h.length = 32) (hb : ∀ x ∈ h, 0 ≤ x ∧ x ≤ 255) (w : World) : (eqHash (.agg (h.map (Value.int .u8)).toArray) (.agg (h.map (Value.int .u8)).toArray)).run Tryd.prog w = .ok (.bool true) w := by
  have hf : Fits (List.replicate 32 (.int .u8)) (h.map (Value.int .u8)) := by
    have := ints_fits .u8 h fun n hn => wf_u8 (hb n hn)
    rwa [hl] at this
  exact run_eql_flat 5 (by decide) Tryd.eqHash Tryd.flatHash Tryd.aggHash hf hf true (by simp) w
attribute [local go_sem ↓ high] eq_hash_fold

set_option maxRecDepth 100000 in
set_option maxHeartbeats 4000000 in
theorem texts_late (key : ByteArray) (ch n A B C D : Int) (u1 u2 : Value) (X Y : List Item) (w : World) (hS : Spans w) (hT : Tabs w) (hc : 0 ≤ ch ∧ ch < 4294967296) (hn : -9223372036854775808 ≤ n ∧ n ≤ 9223372036854775807)
    (hA : 0 ≤ A ∧ A ≤ 18446744073709551615) (hB : 0 ≤ B ∧ B ≤ 18446744073709551615) (hC : 0 ≤ C ∧ C ≤ 18446744073709551615) (hD : 0 ≤ D ∧ D ≤ 18446744073709551615) (hu1 : ItemsR w u1 X) (hu2 : ItemsR w u2 Y) (okX : ∀ x ∈ X, HtlcOk x.h) (okY : ∀ x ∈ Y, HtlcOk x.h)
    (h1 : key.size ≤ 100) (h2 : X.length ≤ 40) (h3 : Y.length ≤ 40) :
    Calls Tryd.prog 8 #[.string key, .int .u32 ch, .int .i64 n, .agg #[.int .u64 A, .int .u64 B, u1], .agg #[.int .u64 C, .int .u64 D, u2]] w (Makes (.bool true) w) := by
  obtain ⟨a1, c1, rfl⟩ := hu1.slice
  obtain ⟨a2, c2, rfl⟩ := hu2.slice
  have C1 := hide (fun W (m : New w W) => text_any ch n A B _ X (by omega) okX W hc hn (by omega) (by omega) (hu1.new m))
  have C2 := hide (fun W (m : New w W) => text_any ch n C D _ Y (by omega) okY W hc hn (by omega) (by omega) (hu2.new m))
  have C5 := hide (fun W u (h : ItemsR W u X) => textR_any ch n A B u X (by omega) okX W hc hn (by omega) (by omega) h)
  have C12w := hide (fun W (m : New w W) => vtag_any key ch n A B _ X (by omega) okX W (hT.new m) (by omega) hc hn (by omega) (by omega) (hu1.new m))
  have C18 := hide (fun W u (h : ItemsR W u X) => vtagR_any key ch n A B u X (by omega) okX W (by omega) hc hn (by omega) (by omega) h)
  obtain ⟨rr, hrr⟩ : ∃ rr : Bool, rr = true ↔ A = C ∧ B = D ∧ X = Y := by
    by_cases h : A = C ∧ B = D ∧ X = Y
    · exact ⟨true, by simp [h]⟩
    · exact ⟨false, by simpa using h⟩
  have C29 := hide (show ∀ W u u', ItemsR W u X → ItemsR W u' Y → Calls Tryd.prog 10 #[.agg #[.int .u64 A, .int .u64 B, u], .agg #[.int .u64 C, .int .u64 D, u']] W (Makes (.bool rr) W) by
    intro W u u' hx hy
    obtain ⟨r, hr, hcall⟩ := same_any A B C D u u' X Y (by omega) (by omega) okX okY W hx hy
    have : r = rr := by
      unfold sameB at hr
      cases r <;> cases rr <;> simp_all
    rwa [this] at hcall)
  have hst : ((textS ch n A B X).toList == (textS ch n C D Y).toList) = rr := by
    have hiff : textS ch n A B X = textS ch n C D Y ↔ A = C ∧ B = D ∧ X = Y := ⟨text_inj hA hB hC hD okX okY, fun ⟨e1, e2, e3⟩ => by rw [e1, e2, e3]⟩
    rw [Bool.eq_iff_iff, ba_beq, hrr]
    exact hiff
  have he19 := fun W => eq_hash (h := tagI key (textS ch n A B X)) (by unfold tagI; exact sumI_len _) (by unfold tagI; exact sumI_u8 _) W
  generalize (tagI key (textS ch n A B X)).map (Value.int .u8) = tl at C12w C18 he19
  generalize textS ch n A B X = s at C1 C5 hst
  generalize textS ch n C D Y = t at C2 hst
  have hlx : X.length ≤ 1048576 := by omega
  have hly : Y.length ≤ 1048576 := by omega
  have HU1w := hide (fun W (m : New w W) => hu1.new m)
  have HU2w := hide (fun W (m : New w W) => hu2.new m)
  generalize tl.toArray = tv at C12w C18 he19
  have HE19 := hide he19
  have HST := hide hst
  clear hrr hst he19 hA hB hC hD hc hn hu1 hu2 okX okY
  have n0 : New w ((w.alloc (.cells #[.int .u64 A, .int .u64 B, .slice a1 X.length c1] 40)).alloc (.cells #[.int .u64 C, .int .u64 D, .slice a2 Y.length c2] 40)) := ((Upd.refl _ _).alloc _).alloc _
  have hb1 : ((w.alloc (.cells #[.int .u64 A, .int .u64 B, .slice a1 X.length c1] 40)).alloc (.cells #[.int .u64 C, .int .u64 D, .slice a2 Y.length c2] 40)).heap[w.heap.size]? = some (.cells #[.int .u64 A, .int .u64 B, .slice a1 X.length c1] 40 (0, 0)) := blk_alloc_old (blk_alloc _ _) _
  have hb2 : ((w.alloc (.cells #[.int .u64 A, .int .u64 B, .slice a1 X.length c1] 40)).alloc (.cells #[.int .u64 C, .int .u64 D, .slice a2 Y.length c2] 40)).heap[w.heap.size + 1]? = some (.cells #[.int .u64 C, .int .u64 D, .slice a2 Y.length c2] 40 (0, 0)) := by
    have := blk_alloc (w.alloc (.cells #[.int .u64 A, .int .u64 B, .slice a1 X.length c1] 40)) (.cells #[.int .u64 C, .int .u64 D, .slice a2 Y.length c2] 40)
    rwa [World.size_alloc] at this
  go_enter Tryd.func8, Tryd.ntmps8
  go_upto_region 1 with fail
  generalize (w.alloc (.cells #[.int .u64 A, .int .u64 B, .slice a1 X.length c1] 40)).alloc (.cells #[.int .u64 C, .int .u64 D, .slice a2 Y.length c2] 40) = w1 at n0 hb1 hb2 ⊢
  have q1 := blk_cell hb1 2
  have q2 := blk_cell hb2 2
  simp at q1 q2
  have hS1 := hS.new n0
  have HB1a := hide hb1
  have HB2a := hide hb2
  clear hb1 hb2
  have e1 : decide ((100 : Int) < (key.size : Int)) = false := by simp; omega
  have e1' : decide (100 < key.size) = false := by simp; omega
  have e2 : decide ((40 : Int) < (X.length : Int)) = false := by simp; omega
  have e2' : decide (40 < X.length) = false := by simp; omega
  have e3 : decide ((40 : Int) < (Y.length : Int)) = false := by simp; omega
  have e3' : decide (40 < Y.length) = false := by simp; omega
  go_wp2_with fail
  refine (shown_any _ hS1).mono ?_
  rintro e w2 ⟨rfl, m2⟩
  clear e1 e1' e2 e2' e3 e3' q1 q2
  have n2 := n0.trans m2
  have hb := m2.old (unhide HB1a) (fun h => h)
  have hbb := m2.old (unhide HB2a) (fun h => h)
  have q0 := blk_cell hb 0
  have q1 := blk_cell hb 1
  have q2 := blk_cell hb 2
  simp at q0 q1 q2
  have HBa := hide hb
  have HBb := hide hbb
  clear hb hbb HB1a HB2a m2 n0
  go_wp2_with fail
  refine (unhide C1 w2 n2).mono ?_
  rintro e w3 ⟨rfl, m3⟩
  have n3 := n2.trans m3
  have hb := m3.old (unhide HBa) (fun h => h)
  have hbb := m3.old (unhide HBb) (fun h => h)
  clear q0 q1 q2 HBa HBb
  have q0 := blk_cell hbb 0
  have q1 := blk_cell hbb 1
  have q2 := blk_cell hbb 2
  simp at q0 q1 q2
  have HBa := hide hb
  have HBb := hide hbb
  clear hb hbb m3 n2 C1
  go_wp2_with fail
  refine (unhide C2 w3 n3).mono ?_
  rintro e w5 ⟨rfl, m5⟩
  have n5 := n3.trans m5
  have HB1 := hide (m5.old (unhide HBa) (fun h => h))
  have HB2 := hide (m5.old (unhide HBb) (fun h => h))
  clear q0 q1 q2 HBa HBb m5 n3 C2
  have HU1 := hide (fun W (m : New w5 W) => unhide HU1w W (n5.trans m))
  have HU2 := hide (fun W (m : New w5 W) => unhide HU2w W (n5.trans m))
  have C12 := hide (fun W (m : New w5 W) => unhide C12w W (n5.trans m))
  clear HU1w HU2w C12w
  go_upto_region 5 with fail
  have he19 := unhide HE19
  have he24 := unhide HST
  have he24' : decide (s = t) = rr := by rw [← he24, Bool.eq_iff_iff, ba_beq]; simp
  have HE19b := hide he19
  have HE24 := hide he24
  have HE24' := hide he24'
  clear HE19 HST he19 he24 he24'
  refine wp_dag (by kernel_rfl) [[], [], [], [], [(3, 44)], [(1, 42), (2, 43), (4, 45)], [(0, 41), (5, 46)], [(6, 47)], [(7, 48)], [(7, 48)], [(7, 48)], [(7, 48)], [(8, 49), (9, 50), (10, 51), (11, 52), (7, 48)], [(7, 48)], [(7, 48)], [(7, 48)], [(7, 48)], [(16, 57), (7, 48)], [(13, 54), (14, 55), (15, 56), (17, 58), (7, 48)], [(12, 53), (18, 59), (7, 48)], [(7, 48), (19, 60)], [(20, 61)], [(21, 62)], [(21, 62)], [(22, 63), (23, 64), (21, 62)], [(21, 62)], [(25, 66), (21, 62)], [(21, 62)], [(27, 68), (21, 62)], [(26, 67), (28, 69), (21, 62)], [(24, 65), (29, 70), (21, 62)], [(21, 62), (30, 71)], [(31, 72)]] 73 rfl (by kernel_rfl) [(0, 41), (1, 42), (2, 43), (3, 44), (4, 45), (5, 46), (6, 47), (7, 48), (8, 49), (9, 50), (10, 51), (11, 52), (12, 53), (13, 54), (14, 55), (15, 56), (16, 57), (17, 58), (18, 59), (19, 60), (20, 61), (21, 62), (22, 63), (23, 64), (24, 65), (25, 66), (26, 67), (27, 68), (28, 69), (29, 70), (30, 71), (31, 72), (32, 10)] (by kernel_rfl) (fun w' => New w5 w') New
    (txPhi A B C D X Y [.string s, .int .u32 ch, .int .i64 n, .agg #[.int .u64 A, .int .u64 B, .slice a1 X.length c1], undef, .string s, .bool true, .bool true, .string key, .int .u32 ch, .int .i64 n, .agg #[.int .u64 A, .int .u64 B, .slice a1 X.length c1], .agg tv, .string key, .int .u32 ch, .int .i64 n, .agg #[.int .u64 A, .int .u64 B, .slice a1 X.length c1], undef, .agg tv, .bool true, .bool true, .bool true, .string s, .string t, .bool rr, .agg #[.int .u64 A, .int .u64 B, .slice a1 X.length c1], undef, .agg #[.int .u64 C, .int .u64 D, .slice a2 Y.length c2], undef, .bool rr, .bool true, .bool true, .bool true]) ((Upd.refl _ _).drew) (fun _ => Upd.refl _ _) (fun i v w w' _ _ n h => txPhi_new n h) ?_ ?_
  · refine DagSteps.plain rfl ?_ <| DagSteps.plain rfl ?_ <| DagSteps.plain rfl ?_ <| DagSteps.plain rfl ?_ <| DagSteps.plain rfl ?_ <| DagSteps.plain rfl ?_ <| DagSteps.plain rfl ?_ <| DagSteps.plain rfl ?_ <| DagSteps.guarded rfl (fun v w h => h) ?_ <| DagSteps.guarded rfl (fun v w h => h) ?_ <| DagSteps.guarded rfl (fun v w h => h) ?_ <| DagSteps.guarded rfl (fun v w h => h) ?_ <| DagSteps.guarded rfl (fun v w h => h) ?_ <| DagSteps.guarded rfl (fun v w h => h) ?_ <| DagSteps.guarded rfl (fun v w h => h) ?_ <| DagSteps.guarded rfl (fun v w h => h) ?_ <| DagSteps.guarded rfl (fun v w h => h) ?_ <| DagSteps.guarded rfl (fun v w h => h) ?_ <| DagSteps.guarded rfl (fun v w h => h) ?_ <| DagSteps.guarded rfl (fun v w h => h) ?_ <| DagSteps.plain rfl ?_ <| DagSteps.plain rfl ?_ <| DagSteps.guarded rfl (fun v w h => h) ?_ <| DagSteps.guarded rfl (fun v w h => h) ?_ <| DagSteps.guarded rfl (fun v w h => h) ?_ <| DagSteps.guarded rfl (fun v w h => h) ?_ <| DagSteps.guarded rfl (fun v w h => h) ?_ <| DagSteps.guarded rfl (fun v w h => h) ?_ <| DagSteps.guarded rfl (fun v w h => h) ?_ <| DagSteps.guarded rfl (fun v w h => h) ?_ <| DagSteps.guarded rfl (fun v w h => h) ?_ <| DagSteps.plain rfl ?_ <| DagSteps.plain rfl ?_ <| DagSteps.nil
    · as_aux_lemma =>
      rintro vals w1 hS _
      have HSS := hide hS
      clear hS
      unfold opRun; simp only [putL]; go_simp
      first | exact ⟨Upd.refl _ _, unhide HSS, rfl⟩ | exact ⟨unhide HSS, rfl⟩
    · as_aux_lemma =>
      rintro vals w1 hS _
      have HSS := hide hS
      clear hS
      unfold opRun; simp only [putL]; go_simp
      first | exact ⟨Upd.refl _ _, unhide HSS, rfl⟩ | exact ⟨unhide HSS, rfl⟩
    · as_aux_lemma =>
      rintro vals w1 hS _
      have HSS := hide hS
      clear hS
      unfold opRun; simp only [putL]; go_simp
      first | exact ⟨Upd.refl _ _, unhide HSS, rfl⟩ | exact ⟨unhide HSS, rfl⟩
    · as_aux_lemma =>
      rintro vals w1 hS _
      have hb := Upd.old hS (unhide HB1) (fun h => h)
      have q0 := blk_cell hb 0
      have q1 := blk_cell hb 1
      have q2 := blk_cell hb 2
      simp at q0 q1 q2
      clear hb
      have HSS := hide hS
      clear hS
      unfold opRun; simp only [putL]; go_simp
      first | exact ⟨Upd.refl _ _, unhide HSS, rfl⟩ | exact ⟨unhide HSS, rfl⟩
    · as_aux_lemma =>
      rintro vals w1 hS ⟨p0, -⟩
      replace p0 : vals 3 = .agg #[.int .u64 A, .int .u64 B, .slice a1 X.length c1] := p0
      have HSS := hide hS
      clear hS
      unfold opRun; simp only [putL]; go_simp
      refine (its_any A B _ X hlx w1 (unhide HU1 w1 (unhide HSS))).mono ?_
      rintro e w2 ⟨u', rfl, m2, h2⟩
      exact ⟨_, rfl, m2, (unhide HSS).trans m2, u', rfl, h2⟩
    · as_aux_lemma =>
      rintro vals w1 hS ⟨p0, p1, p2, -⟩
      replace p0 : vals 1 = .int .u32 ch := p0
      replace p1 : vals 2 = .int .i64 n := p1
      obtain ⟨x2, p2, hi2⟩ := p2
      have HSS := hide hS
      have HI2 := hide hi2
      clear hi2
      clear hS
      unfold opRun; simp only [putL]; go_simp
      refine (unhide C5 w1 _ (unhide HI2)).mono ?_
      rintro e w2 ⟨rfl, m2⟩
      exact ⟨_, rfl, m2, (unhide HSS).trans m2, rfl⟩
    · as_aux_lemma =>
      rintro vals w1 hS ⟨p0, p1, -⟩
      replace p0 : vals 0 = .string s := p0
      replace p1 : vals 5 = .string s := p1
      have HSS := hide hS
      clear hS
      unfold opRun; simp only [putL]; go_simp
      first | exact ⟨Upd.refl _ _, unhide HSS, rfl⟩ | exact ⟨unhide HSS, rfl⟩
    · as_aux_lemma =>
      rintro vals w1 hS ⟨p0, -⟩
      replace p0 : vals 6 = .bool true := p0
      have HSS := hide hS
      clear hS
      unfold opRun; simp only [putL]; go_simp
      first | exact ⟨Upd.refl _ _, unhide HSS, rfl⟩ | exact ⟨unhide HSS, rfl⟩
    · as_aux_lemma =>
      rintro vals w1 hS ⟨p0, -⟩
      replace p0 : vals 7 = .bool true := p0
      have HSS := hide hS
      clear hS
      unfold opRun; simp only [putL]; go_simp
      first | exact ⟨Upd.refl _ _, unhide HSS, rfl⟩ | exact ⟨unhide HSS, rfl⟩
    · as_aux_lemma =>
      rintro vals w1 hS ⟨p0, -⟩
      replace p0 : vals 7 = .bool true := p0
      have HSS := hide hS
      clear hS
      unfold opRun; simp only [putL]; go_simp
      first | exact ⟨Upd.refl _ _, unhide HSS, rfl⟩ | exact ⟨unhide HSS, rfl⟩
    · as_aux_lemma =>
      rintro vals w1 hS ⟨p0, -⟩
      replace p0 : vals 7 = .bool true := p0
      have HSS := hide hS
      clear hS
      unfold opRun; simp only [putL]; go_simp
      first | exact ⟨Upd.refl _ _, unhide HSS, rfl⟩ | exact ⟨unhide HSS, rfl⟩
    · as_aux_lemma =>
      rintro vals w1 hS ⟨p0, -⟩
      replace p0 : vals 7 = .bool true := p0
      have hb := Upd.old hS (unhide HB1) (fun h => h)
      have q0 := blk_cell hb 0
      have q1 := blk_cell hb 1
      have q2 := blk_cell hb 2
      simp at q0 q1 q2
      clear hb
      have HSS := hide hS
      clear hS
      unfold opRun; simp only [putL]; go_simp
      first | exact ⟨Upd.refl _ _, unhide HSS, rfl⟩ | exact ⟨unhide HSS, rfl⟩
    · as_aux_lemma =>
      rintro vals w1 hS ⟨p0, p1, p2, p3, p4, -⟩
      replace p0 : vals 8 = .string key := p0
      replace p1 : vals 9 = .int .u32 ch := p1
      replace p2 : vals 10 = .int .i64 n := p2
      replace p3 : vals 11 = .agg #[.int .u64 A, .int .u64 B, .slice a1 X.length c1] := p3
      replace p4 : vals 7 = .bool true := p4
      have HSS := hide hS
      clear hS
      unfold opRun; simp only [putL]; go_simp
      refine (unhide C12 w1 (unhide HSS)).mono ?_
      rintro e w2 ⟨rfl, m2⟩
      exact ⟨_, rfl, m2, (unhide HSS).trans m2, rfl⟩
    · as_aux_lemma =>
      rintro vals w1 hS ⟨p0, -⟩
      replace p0 : vals 7 = .bool true := p0
      have HSS := hide hS
      clear hS
      unfold opRun; simp only [putL]; go_simp
      first | exact ⟨Upd.refl _ _, unhide HSS, rfl⟩ | exact ⟨unhide HSS, rfl⟩
    · as_aux_lemma =>
      rintro vals w1 hS ⟨p0, -⟩
      replace p0 : vals 7 = .bool true := p0
      have HSS := hide hS
      clear hS
      unfold opRun; simp only [putL]; go_simp
      first | exact ⟨Upd.refl _ _, unhide HSS, rfl⟩ | exact ⟨unhide HSS, rfl⟩
    · as_aux_lemma =>
      rintro vals w1 hS ⟨p0, -⟩
      replace p0 : vals 7 = .bool true := p0
      have HSS := hide hS
      clear hS
      unfold opRun; simp only [putL]; go_simp
      first | exact ⟨Upd.refl _ _, unhide HSS, rfl⟩ | exact ⟨unhide HSS, rfl⟩
    · as_aux_lemma =>
      rintro vals w1 hS ⟨p0, -⟩
      replace p0 : vals 7 = .bool true := p0
      have hb := Upd.old hS (unhide HB1) (fun h => h)
      have q0 := blk_cell hb 0
      have q1 := blk_cell hb 1
      have q2 := blk_cell hb 2
      simp at q0 q1 q2
      clear hb
      have HSS := hide hS
      clear hS
      unfold opRun; simp only [putL]; go_simp
      first | exact ⟨Upd.refl _ _, unhide HSS, rfl⟩ | exact ⟨unhide HSS, rfl⟩
    · as_aux_lemma =>
      rintro vals w1 hS ⟨p0, p1, -⟩
      replace p0 : vals 16 = .agg #[.int .u64 A, .int .u64 B, .slice a1 X.length c1] := p0
      replace p1 : vals 7 = .bool true := p1
      have HSS := hide hS
      clear hS
      unfold opRun; simp only [putL]; go_simp
      refine (its_any A B _ X hlx w1 (unhide HU1 w1 (unhide HSS))).mono ?_
      rintro e w2 ⟨u', rfl, m2, h2⟩
      exact ⟨_, rfl, m2, (unhide HSS).trans m2, u', rfl, h2⟩
    · as_aux_lemma =>
      rintro vals w1 hS ⟨p0, p1, p2, p3, p4, -⟩
      replace p0 : vals 13 = .string key := p0
      replace p1 : vals 14 = .int .u32 ch := p1
      replace p2 : vals 15 = .int .i64 n := p2
      obtain ⟨x3, p3, hi3⟩ := p3
      replace p4 : vals 7 = .bool true := p4
      have HSS := hide hS
      have HI3 := hide hi3
      clear hi3
      clear hS
      unfold opRun; simp only [putL]; go_simp
      refine (unhide C18 w1 _ (unhide HI3)).mono ?_
      rintro e w2 ⟨rfl, m2⟩
      exact ⟨_, rfl, m2, (unhide HSS).trans m2, rfl⟩
    · as_aux_lemma =>
      rintro vals w1 hS ⟨p0, p1, p2, -⟩
      replace p0 : vals 12 = .agg tv := p0
      replace p1 : vals 18 = .agg tv := p1
      replace p2 : vals 7 = .bool true := p2
      have HSS := hide hS
      clear hS
      have he := unhide HE19b
      unfold opRun; simp only [putL]; go_simp
      first | exact ⟨Upd.refl _ _, unhide HSS, rfl⟩ | exact ⟨unhide HSS, rfl⟩
    · as_aux_lemma =>
      rintro vals w1 hS ⟨p0, p1, -⟩
      replace p0 : vals 7 = .bool true := p0
      replace p1 : vals 19 = .bool true := p1
      have HSS := hide hS
      clear hS
      unfold opRun; simp only [putL]; go_simp
      first | exact ⟨Upd.refl _ _, unhide HSS, rfl⟩ | exact ⟨unhide HSS, rfl⟩
    · as_aux_lemma =>
      rintro vals w1 hS ⟨p0, -⟩
      replace p0 : vals 20 = .bool true := p0
      have HSS := hide hS
      clear hS
      unfold opRun; simp only [putL]; go_simp
      first | exact ⟨Upd.refl _ _, unhide HSS, rfl⟩ | exact ⟨unhide HSS, rfl⟩
    · as_aux_lemma =>
      rintro vals w1 hS ⟨p0, -⟩
      replace p0 : vals 21 = .bool true := p0
      have HSS := hide hS
      clear hS
      unfold opRun; simp only [putL]; go_simp
      first | exact ⟨Upd.refl _ _, unhide HSS, rfl⟩ | exact ⟨unhide HSS, rfl⟩
    · as_aux_lemma =>
      rintro vals w1 hS ⟨p0, -⟩
      replace p0 : vals 21 = .bool true := p0
      have HSS := hide hS
      clear hS
      unfold opRun; simp only [putL]; go_simp
      first | exact ⟨Upd.refl _ _, unhide HSS, rfl⟩ | exact ⟨unhide HSS, rfl⟩
    · as_aux_lemma =>
      rintro vals w1 hS ⟨p0, p1, p2, -⟩
      replace p0 : vals 22 = .string s := p0
      replace p1 : vals 23 = .string t := p1
      replace p2 : vals 21 = .bool true := p2
      have HSS := hide hS
      clear hS
      have he := unhide HE24
      have he' := unhide HE24'
      unfold opRun; simp only [putL]; go_simp
      first | exact ⟨Upd.refl _ _, unhide HSS, rfl⟩ | exact ⟨unhide HSS, rfl⟩
    · as_aux_lemma =>
      rintro vals w1 hS ⟨p0, -⟩
      replace p0 : vals 21 = .bool true := p0
      have hb := Upd.old hS (unhide HB1) (fun h => h)
      have q0 := blk_cell hb 0
      have q1 := blk_cell hb 1
      have q2 := blk_cell hb 2
      simp at q0 q1 q2
      clear hb
      have HSS := hide hS
      clear hS
      unfold opRun; simp only [putL]; go_simp
      first | exact ⟨Upd.refl _ _, unhide HSS, rfl⟩ | exact ⟨unhide HSS, rfl⟩
    · as_aux_lemma =>
      rintro vals w1 hS ⟨p0, p1, -⟩
      replace p0 : vals 25 = .agg #[.int .u64 A, .int .u64 B, .slice a1 X.length c1] := p0
      replace p1 : vals 21 = .bool true := p1
      have HSS := hide hS
      clear hS
      unfold opRun; simp only [putL]; go_simp
      refine (its_any A B _ X hlx w1 (unhide HU1 w1 (unhide HSS))).mono ?_
      rintro e w2 ⟨u', rfl, m2, h2⟩
      exact ⟨_, rfl, m2, (unhide HSS).trans m2, u', rfl, h2⟩
    · as_aux_lemma =>
      rintro vals w1 hS ⟨p0, -⟩
      replace p0 : vals 21 = .bool true := p0
      have hb := Upd.old hS (unhide HB2) (fun h => h)
      have q0 := blk_cell hb 0
      have q1 := blk_cell hb 1
      have q2 := blk_cell hb 2
      simp at q0 q1 q2
      clear hb
      have HSS := hide hS
      clear hS
      unfold opRun; simp only [putL]; go_simp
      first | exact ⟨Upd.refl _ _, unhide HSS, rfl⟩ | exact ⟨unhide HSS, rfl⟩
    · as_aux_lemma =>
      rintro vals w1 hS ⟨p0, p1, -⟩
      replace p0 : vals 27 = .agg #[.int .u64 C, .int .u64 D, .slice a2 Y.length c2] := p0
      replace p1 : vals 21 = .bool true := p1
      have HSS := hide hS
      clear hS
      unfold opRun; simp only [putL]; go_simp
      refine (its_any C D _ Y hly w1 (unhide HU2 w1 (unhide HSS))).mono ?_
      rintro e w2 ⟨u', rfl, m2, h2⟩
      exact ⟨_, rfl, m2, (unhide HSS).trans m2, u', rfl, h2⟩
    · as_aux_lemma =>
      rintro vals w1 hS ⟨p0, p1, p2, -⟩
      obtain ⟨x0, p0, hi0⟩ := p0
      obtain ⟨x1, p1, hi1⟩ := p1
      replace p2 : vals 21 = .bool true := p2
      have HSS := hide hS
      have HI0 := hide hi0
      clear hi0
      have HI1 := hide hi1
      clear hi1
      clear hS
      unfold opRun; simp only [putL]; go_simp
      refine (unhide C29 w1 _ _ (unhide HI0) (unhide HI1)).mono ?_
      rintro e w2 ⟨rfl, m2⟩
      exact ⟨_, rfl, m2, (unhide HSS).trans m2, rfl⟩
    · as_aux_lemma =>
      rintro vals w1 hS ⟨p0, p1, p2, -⟩
      replace p0 : vals 24 = .bool rr := p0
      replace p1 : vals 29 = .bool rr := p1
      replace p2 : vals 21 = .bool true := p2
      have HSS := hide hS
      clear hS
      unfold opRun; simp only [putL]; go_simp
      first | exact ⟨Upd.refl _ _, unhide HSS, rfl⟩ | exact ⟨unhide HSS, rfl⟩
    · as_aux_lemma =>
      rintro vals w1 hS ⟨p0, p1, -⟩
      replace p0 : vals 21 = .bool true := p0
      replace p1 : vals 30 = .bool true := p1
      have HSS := hide hS
      clear hS
      unfold opRun; simp only [putL]; go_simp
      first | exact ⟨Upd.refl _ _, unhide HSS, rfl⟩ | exact ⟨unhide HSS, rfl⟩
    · as_aux_lemma =>
      rintro vals w1 hS ⟨p0, -⟩
      replace p0 : vals 31 = .bool true := p0
      have HSS := hide hS
      clear hS
      unfold opRun; simp only [putL]; go_simp
      first | exact ⟨Upd.refl _ _, unhide HSS, rfl⟩ | exact ⟨unhide HSS, rfl⟩
  · intro vals w6 hS hv
    have v32 := hv 32 (by decide)
    replace v32 : vals 32 = .bool true := v32
    replace hS : New w5 w6 := hS
    clear hv
    simp only [putL, v32]
    go_simp
    go_wp2
    go_ret
    exact ⟨rfl, n5.trans hS⟩

theorem texts_said (key : ByteArray) (ch n : Int) (A B : Int) (u1 : Value) (X : List Item) (C D : Int) (u2 : Value) (Y : List Item) (w : World) (hk : key.size ≤ maxLen) (hc : (Lit.int .u32 ch).wf = true) (hn : (Lit.int .i64 n).wf = true)
    (hA : 0 ≤ A ∧ A ≤ 18446744073709551615) (hB : 0 ≤ B ∧ B ≤ 18446744073709551615) (hu1 : ItemsR w u1 X) (okX : ∀ x ∈ X, HtlcOk x.h) (m1 : X.length ≤ maxLen) (hC : 0 ≤ C ∧ C ≤ 18446744073709551615) (hD : 0 ≤ D ∧ D ≤ 18446744073709551615) (hu2 : ItemsR w u2 Y) (okY : ∀ x ∈ Y, HtlcOk x.h) (m2 : Y.length ≤ maxLen) (hS : Spans w) (hT : Tabs w) :
    Calls Tryd.prog 8 #[.string key, .int .u32 ch, .int .i64 n, .agg #[.int .u64 A, .int .u64 B, u1], .agg #[.int .u64 C, .int .u64 D, u2]] w (Makes (.bool true) w) := by
  have hc' := bounds_u32 hc
  have hn' := bounds_i64 hn
  by_cases he : 100 < key.size ∨ 40 < X.length ∨ 40 < Y.length
  · obtain ⟨a1, c1, rfl⟩ := hu1.slice
    obtain ⟨a2, c2, rfl⟩ := hu2.slice
    exact texts_early key ch n A B C D a1 a2 X.length Y.length c1 c2 w hS m1 m2 hk he
  · exact texts_late key ch n A B C D u1 u2 X Y w hS hT (by omega) (by omega) hA hB hC hD hu1 hu2 okX okY (by omega) (by omega) (by omega)

end Go.Proofs.YtbcjhpeighlncaaDoor
