/-
  view.Tag.
-/
import Derived.Test.YtfmkdoachjgjbaaGreatDoorMce
import Derived.Test.YtfmkdoachjgjbaaGreatDoorSl1
import Derived.Test.YtfmkdoachjgjbaaGreatDoorMbg
import Derived.Test.YtfmkdoachjgjbaaGreatDoorVw5
import Derived.Test.YtfmkdoachjgjbaaGreatDoorMba
set_option linter.unusedVariables false
set_option linter.unusedSimpArgs false
namespace Go.Proofs.YtfmkdoachjgjbaaGreatDoor
open Go.RowKit Go.Sort

theorem textS_size (ch n A B : Int) (X : List Item) : (textS ch n A B X).size = 30 + 57 * X.length := by
  unfold textS
  rw [fold_size, headS_size]
set_option maxRecDepth 100000 in
set_option maxHeartbeats 2000000 in
theorem vtag_any (key : ByteArray) (ch n A B : Int) (u : Value) (X : List Item) (hl : X.length ≤ 1000000) (hok : ∀ x ∈ X, HtlcOk x.h) (w : World) (hT : Tabs w) (hk : key.size ≤ 100000000) (hc : 0 ≤ ch ∧ ch < 4294967296) (hn : -9223372036854775808 ≤ n ∧ n ≤ 9223372036854775807)
    (hA : 0 ≤ A ∧ A < 18446744073709551616) (hB : 0 ≤ B ∧ B < 18446744073709551616) (hu : ItemsR w u X) :
    Calls Tryz.prog 120 #[.string key, .int .u32 ch, .int .i64 n, .agg #[.int .u64 A, .int .u64 B, u]] w fun e w' => e = .returned (.agg ((tagI key (textS ch n A B X)).map (Value.int .u8)).toArray) ∧ New w w' := by
  have HTX := hide (fun W (m : New w W) => text_any ch n A B u X (by omega) hok W hc hn hA hB (hu.new m))
  have hts : (textS ch n A B X).size ≤ 100000000 := by rw [textS_size]; omega
  have HTG := hide (fun W h => tag_any key (textS ch n A B X) W hk hts h)
  have hol : (tagI key (textS ch n A B X)).length = 32 := by unfold tagI; exact sumI_len _
  generalize hO : tagI key (textS ch n A B X) = out at HTG hol
  have HO := hide hO
  generalize textS ch n A B X = tx at HTX HTG HO
  clear hA hB hn hc hok hts hO
  go_enter Tryz.func120, Tryz.ntmps120
  go_upto_region 0 with fail
  refine wp_region_lit ?_
  refine wpList_val rfl (v := .pointer (some ⟨w.heap.size, 0, none⟩)) (w' := w.alloc (.cells #[.int .u64 A, .int .u64 B, u] 201)) (by simp only [execOp]; go_simp) ?_
  have hb := blk_alloc w (.cells #[.int .u64 A, .int .u64 B, u] 201)
  have n0 : New w (w.alloc (.cells #[.int .u64 A, .int .u64 B, u] 201)) := (Upd.refl _ _).alloc _
  generalize w.alloc (.cells #[.int .u64 A, .int .u64 B, u] 201) = w1 at hb n0 ⊢
  refine wpList_val rfl (v := .pointer (some ⟨w1.heap.size, 0, none⟩)) (w' := w1.alloc (.cells z32b 35)) (by kernel_rfl) ?_
  have n1 : New w1 (w1.alloc (.cells z32b 35)) := (Upd.refl _ _).alloc _
  have hr := blk_alloc w1 (.cells z32b 35)
  generalize w1.alloc (.cells z32b 35) = w2 at n1 hr ⊢
  replace hb := n1.old hb (fun h => h)
  have n2 := n0.trans n1
  have hszR := n0.size
  go_upto_region 1 with fail
  refine wp_region_lit ?_
  refine wpList_val rfl (v := .string key) (w' := w2) (by kernel_rfl) ?_
  refine wpList_val rfl (v := .int .u32 ch) (w' := w2) (by kernel_rfl) ?_
  refine wpList_val rfl (v := .int .i64 n) (w' := w2) (by kernel_rfl) ?_
  refine wpList_load_row rfl _ _ rfl w.heap.size (by kernel_rfl) 201 _ _ _ hb Tryz.underlying201 rfl (by kernel_rfl) ?_
  refine wpList_call rfl (f := 157) (args := #[.int .u32 ch, .int .i64 n, .agg #[.int .u64 A, .int .u64 B, u]]) (w' := w2) (by kernel_rfl) ?_
  refine (unhide HTX w2 n2).mono ?_
  rintro e w3 ⟨rfl, n3⟩
  refine ⟨_, rfl, ?_⟩
  replace hr := n3.old hr (fun h => h)
  replace n2 := n2.trans n3
  refine wpList_call rfl (f := 156) (args := #[.string key, .string tx]) (w' := w3) (by kernel_rfl) ?_
  refine (unhide HTG w3 (hT.new n2)).mono ?_
  rintro e w4 ⟨rfl, n4⟩
  refine ⟨_, rfl, ?_⟩
  replace hr := n4.old hr (fun h => h)
  replace n2 := n2.trans n4
  refine wpList_store_row rfl _ _ _ rfl w1.heap.size (out.map (Value.int .u8)).toArray (by kernel_rfl) (by kernel_rfl) 35 _ hr (by rw [List.size_toArray, List.length_map, hol]; exact Tryz.infoHash) (by have h9 : z32b.size = 32 := rfl; rw [h9]; simp [hol]) (by simp [Value.oneCell']) ?_
  have hF := setRow_heap w4 w1.heap.size _ (out.map (Value.int .u8)).toArray 35 (0, 0) hr
  have nF := n2.setRow (g := w1.heap.size) (fun h => by omega) (out.map (Value.int .u8)).toArray
  generalize w4.setRow w1.heap.size (out.map (Value.int .u8)).toArray = wF at hF nF ⊢
  generalize w1.heap.size = R at hF ⊢
  clear n3 n4 hr hb n0 n1 n2 hszR
  go_wp2_with fail
  refine bodyPost_ret (results_cell_row rfl _ _ R 35 _ _ _ (by kernel_rfl) hF Tryz.underlying35 rfl (by rw [List.size_toArray, List.length_map, hol]; exact Tryz.infoHash)) rfl ?_
  exact ⟨rfl, nF⟩

attribute [local go_sem ↓ high] ld_live_fold st_live_fold
attribute [local go_sem] ld_live st_live

def chg (ev : Int) (x : Live) : Bool := nextSt x.state x.own ev != x.state
def changesB (ev : Int) (xs : List Live) : Bool := xs.any (chg ev)

set_option maxRecDepth 100000 in
set_option maxHeartbeats 4000000 in
theorem changes_any (v : Value) (xs : List Live) (ev : Int) (hl : xs.length ≤ 1048576) (w : World) (hG : Glob w) (hv : Lives w v xs) :
    Calls Tryz.prog 118 #[v, .int .i64 ev] w (Makes (.bool (changesB ev xs)) w) := by
  have hvs : ∃ a c, v = .slice a xs.length c := by
    rcases hv with ⟨_, _, rfl, rfl⟩ | ⟨g, off, cap, rfl, _⟩
    · exact ⟨_, _, rfl⟩
    · exact ⟨_, _, rfl⟩
  obtain ⟨va, vc, rfl⟩ := hvs
  go_enter Tryz.func118, Tryz.ntmps118
  go_wp2_with fail
  go_loopw [9] (fun iv wr => ∃ n : Nat, iv = .int .i64 (n : Int) ∧ n ≤ xs.length ∧ Hid (changesB ev (xs.take n) = false) ∧ New w wr) (fun iv _ => xs.length - (intOf iv).toNat)
  case atStart => exact ⟨0, rfl, Nat.zero_le _, hide rfl, Upd.refl _ _⟩
  case round =>
    obtain ⟨n, rfl, hn, HC, nr⟩ := hrel
    by_cases hlt : n < xs.length
    · obtain ⟨x, hx⟩ : ∃ x, xs[n]? = some x := ⟨_, List.getElem?_eq_getElem hlt⟩
      rcases hv.new nr with ⟨_, _, e, e2⟩ | ⟨g, off, cap, e, hh⟩
      · rw [e2] at hlt; simp at hlt
      · cases e
        have hrow := hh.row hx
        have hnn : (n : Int) < (xs.length : Int) := by omega
        have hst : stOk (wr.alloc (.cells #[.int .u64 0, .int .u64 0, .int .u8 0, .int .u8 0, .int .u8 0, .int .u8 0, .int .u8 0, .int .u8 0, .int .u8 0, .int .u8 0, .int .u8 0, .int .u8 0, .int .u8 0, .int .u8 0, .int .u8 0, .int .u8 0, .int .u8 0, .int .u8 0, .int .u8 0, .int .u8 0, .int .u8 0, .int .u8 0, .int .u8 0, .int .u8 0, .int .u8 0, .int .u8 0, .int .u8 0, .int .u8 0, .int .u8 0, .int .u8 0, .int .u8 0, .int .u8 0, .int .u8 0, .int .u8 0, .int .i64 0, .bool false, .int .i64 0, .bool false] 69)) wr.heap.size 0 38 (liveCells x).toArray = true := stOk_blk (blk_alloc _ _) (by decide) (by rw [List.size_toArray, live_len]) (by rw [List.all_toArray, List.all_eq_true]; exact live_one x)
        have hlaid := laid_new wr #[.int .u64 0, .int .u64 0, .int .u8 0, .int .u8 0, .int .u8 0, .int .u8 0, .int .u8 0, .int .u8 0, .int .u8 0, .int .u8 0, .int .u8 0, .int .u8 0, .int .u8 0, .int .u8 0, .int .u8 0, .int .u8 0, .int .u8 0, .int .u8 0, .int .u8 0, .int .u8 0, .int .u8 0, .int .u8 0, .int .u8 0, .int .u8 0, .int .u8 0, .int .u8 0, .int .u8 0, .int .u8 0, .int .u8 0, .int .u8 0, .int .u8 0, .int .u8 0, .int .u8 0, .int .u8 0, .int .i64 0, .bool false, .int .i64 0, .bool false] 69 (liveCells x) (by rw [live_len]; rfl)
        have v35 := live_35 x
        have v36 := live_36 x
        have hs : changesB ev (xs.take (n + 1)) = chg ev x := by
          have := unhide HC
          unfold changesB at this ⊢
          rw [List.take_add_one, hx, List.any_append, this]; simp
        have HS := hide hs
        have HX := hide hx
        clear hs hh hx
        generalize liveCells x = C at hrow hst hlaid v35 v36
        go_upto_region 4 with fail
        obtain ⟨hbx, nC⟩ := hlaid
        generalize (wr.alloc (.cells #[.int .u64 0, .int .u64 0, .int .u8 0, .int .u8 0, .int .u8 0, .int .u8 0, .int .u8 0, .int .u8 0, .int .u8 0, .int .u8 0, .int .u8 0, .int .u8 0, .int .u8 0, .int .u8 0, .int .u8 0, .int .u8 0, .int .u8 0, .int .u8 0, .int .u8 0, .int .u8 0, .int .u8 0, .int .u8 0, .int .u8 0, .int .u8 0, .int .u8 0, .int .u8 0, .int .u8 0, .int .u8 0, .int .u8 0, .int .u8 0, .int .u8 0, .int .u8 0, .int .u8 0, .int .u8 0, .int .i64 0, .bool false, .int .i64 0, .bool false] 69)).setCells wr.heap.size 0 C = wC at hbx nC ⊢
        have s35 : wC.cell? ⟨wr.heap.size, 35, none⟩ = some (.bool x.own) := by rw [blk_cell hbx, List.getElem?_toArray]; exact v35
        have s36 : wC.cell? ⟨wr.heap.size, 36, none⟩ = some (.int .i64 x.state) := by rw [blk_cell hbx, List.getElem?_toArray]; exact v36
        have hGC : Glob wC := hG.new (nr.trans nC)
        clear hst hrow
        have hne : ∀ W, Glob W → Calls Tryz.prog 154 #[.int .i64 x.state, .bool x.own, .int .i64 ev] W (Reads (.int .i64 (nextSt x.state x.own ev)) W) := fun W h => next_any x.state ev x.own W h
        cases hc : chg ev x with
        | true =>
          have hd : (nextSt x.state x.own ev != x.state) = true := hc
          have hf : changesB ev xs = true := by
            have h1 : changesB ev (xs.take (n + 1)) = true := by rw [unhide HS, hc]
            unfold changesB at h1 ⊢
            rw [List.any_eq_true] at h1 ⊢
            obtain ⟨y, hy, hy2⟩ := h1
            exact ⟨y, List.mem_of_mem_take hy, hy2⟩
          generalize nextSt x.state x.own ev = y at hne hd
          go_quiet ((go_at_call 154; first | exact Calls.quiet_of (hne _ hGC) | exact Calls.quiet_of (hne _ (hGC.new ((Upd.refl _ _).drewN _)))))
          go_wp2
          first | go_ret2 | go_ret
          exact ⟨by rw [hf]; rfl, by first | exact nr.trans nC | exact (nr.trans nC).drewN _⟩
        | false =>
          have hd : (nextSt x.state x.own ev != x.state) = false := hc
          have hf : changesB ev (xs.take (n + 1)) = false := by rw [unhide HS, hc]
          have HF := hide hf
          clear hf
          generalize nextSt x.state x.own ev = y at hne hd
          go_quiet ((go_at_call 154; first | exact Calls.quiet_of (hne _ hGC) | exact Calls.quiet_of (hne _ (hGC.new ((Upd.refl _ _).drewN _)))))
          go_wp2
          go_roundw
          case rel => exact ⟨n + 1, by go_num, by omega, HF, by first | exact nr.trans nC | exact (nr.trans nC).drewN _⟩
          case measure => simp [intOf]; omega
    · obtain rfl : n = xs.length := by omega
      have hf : changesB ev xs = false := by have := unhide HC; rwa [List.take_length] at this
      go_wp2
      first | go_ret2 | go_ret
      exact ⟨by rw [hf]; rfl, nr⟩

end Go.Proofs.YtfmkdoachjgjbaaGreatDoor
namespace Go.Proofs.YtfmkdoachjgjbaaGreatDoor
open Go.RowKit Go.Sort

theorem items_le' (ours : Bool) (xs : List Live) : (itemsOf ours xs).length ≤ xs.length := by
  unfold itemsOf
  rw [List.length_map]
  exact List.length_filter_le _ _
/-- The items I, in the order of a view. -/
def IsView (I X : List Item) : Prop := ∃ M : List (Item × Nat), M.Perm I.zipIdx ∧ Srt M ∧ X = its M
theorem srt_unique {M N : List (Item × Nat)} (h : M.Perm N) (hm : Srt M) (hn : Srt N) : M = N := by
  induction M generalizing N with
  | nil => exact (List.Perm.nil_eq h)
  | cons x M ih =>
    cases N with
    | nil => exact absurd h.length_eq (by simp)
    | cons y N =>
      have hxy : x = y := by
        have h1 : x ∈ y :: N := h.subset (List.mem_cons_self ..)
        have h2 : y ∈ x :: M := h.symm.subset (List.mem_cons_self ..)
        rcases List.mem_cons.1 h1 with e | h1
        · exact e
        · rcases List.mem_cons.1 h2 with e | h2
          · exact e.symm
          · have a := (List.pairwise_cons.1 hm).1 y h2
            have b := (List.pairwise_cons.1 hn).1 x h1
            exact absurd (lt'_trans a b) (lt'_irrefl x)
      subst hxy
      rw [ih (List.Perm.cons_inv h) (List.pairwise_cons.1 hm).2 (List.pairwise_cons.1 hn).2]
theorem isView_unique {I X Y : List Item} (h : IsView I X) (k : IsView I Y) : X = Y := by
  obtain ⟨M, pM, sM, rfl⟩ := h
  obtain ⟨N, pN, sN, rfl⟩ := k
  rw [srt_unique (pM.trans pN.symm) sM sN]
open Classical in
noncomputable def viewL (I : List Item) : List Item := if h : ∃ X, IsView I X then h.choose else []
theorem viewL_eq {I X : List Item} (h : IsView I X) : X = viewL I := by
  have hx : ∃ X, IsView I X := ⟨X, h⟩
  unfold viewL
  rw [dif_pos hx]
  exact isView_unique h hx.choose_spec
theorem viewL_perm {I : List Item} (h : IsView I (viewL I)) : (viewL I).Perm I := by
  obtain ⟨M, pM, _, e⟩ := h
  rw [e]
  have := pM.map (·.1)
  simpa [its, List.zipIdx_map_fst] using this

/-- What view.Of comes to. -/
theorem of_view (ours : Bool) (l r : Int) (v : Value) (xs : List Live) (hl : xs.length ≤ 19) (w : World) (hG : Spans w) (hv : Lives w v xs) :
    Calls Tryz.prog 121 #[.bool ours, .agg #[.int .u64 l, .int .u64 r], v] w fun e w' => ∃ u, e = .returned (.agg #[.int .u64 (if ours then (sumsOf ours l r xs).1 else (sumsOf ours l r xs).2), .int .u64 (if ours then (sumsOf ours l r xs).2 else (sumsOf ours l r xs).1), u]) ∧
      New w w' ∧ Items w' u (viewL (itemsOf ours xs)) ∧ IsView (itemsOf ours xs) (viewL (itemsOf ours xs)) := by
  refine (of_any ours l r v xs hl w hG hv).mono ?_
  rintro e w' ⟨u, X, he, hn, hi, hM⟩
  have e1 := viewL_eq (I := itemsOf ours xs) hM
  have h2 : IsView (itemsOf ours xs) X := hM
  rw [← e1]
  exact ⟨u, he, hn, hi, h2⟩

/-- Items of what fits, fit. -/
theorem items_ok {ours : Bool} {xs : List Live} (h : ∀ x ∈ xs, LiveOk x) : ∀ x ∈ itemsOf ours xs, HtlcOk x.h := by
  intro x hx
  unfold itemsOf at hx
  rw [List.mem_map] at hx
  obtain ⟨y, hy, rfl⟩ := hx
  exact (h y (List.mem_filter.1 hy).1).h
theorem view_ok {I : List Item} (hv : IsView I (viewL I)) (h : ∀ x ∈ I, HtlcOk x.h) : ∀ x ∈ viewL I, HtlcOk x.h := fun x hx => h x ((viewL_perm hv).subset hx)

/-- The two sums of a view: its owner's, the other one's. -/
def viewA (ours : Bool) (l r : Int) (xs : List Live) : Int := if ours then (sumsOf ours l r xs).1 else (sumsOf ours l r xs).2
def viewB (ours : Bool) (l r : Int) (xs : List Live) : Int := if ours then (sumsOf ours l r xs).2 else (sumsOf ours l r xs).1
theorem u64_mod (x : Int) : 0 ≤ IntKind.u64.wrap x ∧ IntKind.u64.wrap x < 18446744073709551616 := by rw [IntKind.wrap_u64]; omega
theorem sums_bd (ours : Bool) (xs : List Live) : ∀ (l r : Int), (0 ≤ l ∧ l < 18446744073709551616) → (0 ≤ r ∧ r < 18446744073709551616) → (0 ≤ (sumsOf ours l r xs).1 ∧ (sumsOf ours l r xs).1 < 18446744073709551616) ∧ (0 ≤ (sumsOf ours l r xs).2 ∧ (sumsOf ours l r xs).2 < 18446744073709551616) := by
  unfold sumsOf
  induction xs with
  | nil => intro l r hl hr; exact ⟨hl, hr⟩
  | cons x xs ih =>
    intro l r hl hr
    rw [List.foldl_cons]
    have hs : (0 ≤ (stepI ours (l, r) x).1 ∧ (stepI ours (l, r) x).1 < 18446744073709551616) ∧ (0 ≤ (stepI ours (l, r) x).2 ∧ (stepI ours (l, r) x).2 < 18446744073709551616) := by
      have hg : ∀ us n, (0 ≤ (giveI us n (l, r)).1 ∧ (giveI us n (l, r)).1 < 18446744073709551616) ∧ (0 ≤ (giveI us n (l, r)).2 ∧ (giveI us n (l, r)).2 < 18446744073709551616) := by
        intro us n
        unfold giveI
        split
        · exact ⟨u64_mod _, hr⟩
        · exact ⟨hl, u64_mod _⟩
      unfold stepI
      split
      · exact ⟨hl, hr⟩
      · split
        · exact hg _ _
        · exact hg _ _
    exact ih _ _ hs.1 hs.2
theorem viewA_bd (ours : Bool) (l r : Int) (xs : List Live) (hl : 0 ≤ l ∧ l < 18446744073709551616) (hr : 0 ≤ r ∧ r < 18446744073709551616) : 0 ≤ viewA ours l r xs ∧ viewA ours l r xs < 18446744073709551616 := by
  have := sums_bd ours xs l r hl hr
  unfold viewA
  split
  · exact this.1
  · exact this.2
theorem viewB_bd (ours : Bool) (l r : Int) (xs : List Live) (hl : 0 ≤ l ∧ l < 18446744073709551616) (hr : 0 ≤ r ∧ r < 18446744073709551616) : 0 ≤ viewB ours l r xs ∧ viewB ours l r xs < 18446744073709551616 := by
  have := sums_bd ours xs l r hl hr
  unfold viewB
  split
  · exact this.2
  · exact this.1
/-- The tag of a view. -/
noncomputable def viewTag (ours : Bool) (key : ByteArray) (ch n l r : Int) (xs : List Live) : List Int := tagI key (textS ch n (viewA ours l r xs) (viewB ours l r xs) (viewL (itemsOf ours xs)))
theorem viewTag_len (ours : Bool) (key : ByteArray) (ch n l r : Int) (xs : List Live) : (viewTag ours key ch n l r xs).length = 32 := by unfold viewTag tagI; exact sumI_len _
/-- What view.Of tells, as a value: its sums, and a row of its items. -/
structure ViewO (ours : Bool) (l r : Int) (xs : List Live) (w : World) (v : Value) : Prop where
  u : ∃ u, v = .agg #[.int .u64 (viewA ours l r xs), .int .u64 (viewB ours l r xs), u] ∧ ItemsR w u (viewL (itemsOf ours xs))
  is : IsView (itemsOf ours xs) (viewL (itemsOf ours xs))
theorem ViewO.new {ours : Bool} {l r : Int} {xs : List Live} {w w' : World} {v : Value} (h : ViewO ours l r xs w v) (n : New w w') : ViewO ours l r xs w' v := by
  obtain ⟨⟨u, e, hu⟩, h2⟩ := h
  exact ⟨⟨u, e, hu.new n⟩, h2⟩
theorem of_viewO (ours : Bool) (l r : Int) (v : Value) (xs : List Live) (hl : xs.length ≤ 19) (w : World) (hG : Spans w) (hv : Lives w v xs) :
    Calls Tryz.prog 121 #[.bool ours, .agg #[.int .u64 l, .int .u64 r], v] w fun e w' => ∃ V, e = .returned V ∧ New w w' ∧ ViewO ours l r xs w' V := by
  refine (of_view ours l r v xs (by omega) w hG hv).mono ?_
  rintro e w' ⟨u, he, hn, hi, hM⟩
  exact ⟨_, he, hn, ⟨⟨u, rfl, hi.toR⟩, hM⟩⟩
theorem tag_viewO (ours : Bool) (l r : Int) (V : Value) (xs : List Live) (key : ByteArray) (ch n : Int) (hl : xs.length ≤ 1000000) (w : World) (hT : Tabs w) (hV : ViewO ours l r xs w V) (hx : ∀ x ∈ xs, LiveOk x) (hk : key.size ≤ 100000000) (hc : 0 ≤ ch ∧ ch < 4294967296) (hn : -9223372036854775808 ≤ n ∧ n ≤ 9223372036854775807) (bl : 0 ≤ l ∧ l < 18446744073709551616) (br : 0 ≤ r ∧ r < 18446744073709551616) :
    Calls Tryz.prog 120 #[.string key, .int .u32 ch, .int .i64 n, V] w (Makes (.agg (hshV (viewTag ours key ch n l r xs)).toArray) w) := by
  obtain ⟨⟨u, rfl, hu⟩, hI⟩ := hV
  have hle : (viewL (itemsOf ours xs)).length ≤ 1000000 := by
    rw [(viewL_perm hI).length_eq]
    exact Nat.le_trans (items_le' ours xs) hl
  exact vtag_any key ch n _ _ u _ hle (view_ok hI (items_ok hx)) w hT hk hc hn (viewA_bd ours l r xs bl br) (viewB_bd ours l r xs bl br) hu

end Go.Proofs.YtfmkdoachjgjbaaGreatDoor
