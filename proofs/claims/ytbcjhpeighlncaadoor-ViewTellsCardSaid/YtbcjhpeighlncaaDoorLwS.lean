/-
  The law ViewSigned, walked.
-/
import Derived.Test.YtbcjhpeighlncaaDoorLwM
namespace Go.Proofs.YtbcjhpeighlncaaDoor
open Go.RowKit Go.Sort

theorem next1 (st : Int) (own : Bool) : hasB true own (nextSt st own 1) = hasB true own st ∧ goneB true own (nextSt st own 1) = goneB true own st ∧ ¬ (own = true ∧ nextSt st own 1 = 0) := by
  by_cases h : mayB st = true
  · obtain ⟨n, rfl, hn⟩ : ∃ n : Nat, st = n ∧ n ≤ 9 := by
      unfold mayB at h
      simp at h
      exact ⟨st.toNat, by omega, by omega⟩
    clear h
    obtain rfl | rfl | rfl | rfl | rfl | rfl | rfl | rfl | rfl | rfl : n = 0 ∨ n = 1 ∨ n = 2 ∨ n = 3 ∨ n = 4 ∨ n = 5 ∨ n = 6 ∨ n = 7 ∨ n = 8 ∨ n = 9 := by omega
    all_goals cases own <;> decide
  · have e : nextSt st own 1 = st := by unfold nextSt; rw [if_neg (fun k => h k.1)]
    rw [e]
    refine ⟨rfl, rfl, ?_⟩
    rintro ⟨_, rfl⟩
    exact h (by decide)
theorem items_signed (xs : List Live) : itemsOf true (afterL 1 xs) = itemsOf true xs := by
  unfold itemsOf afterL
  rw [List.filter_map, List.map_map]
  have e1 : ((fun x : Live => hasB true x.own x.state) ∘ aft 1) = fun x : Live => hasB true x.own x.state := by
    funext x; exact (next1 x.state x.own).1
  rw [e1]
  rfl
theorem sums_signed (l r : Int) (xs : List Live) : sumsOf true l r (afterL 1 xs) = sumsOf true l r xs := by
  unfold sumsOf afterL
  rw [List.foldl_map]
  congr 1
  funext p x
  unfold stepI
  obtain ⟨h1, h2, _⟩ := next1 x.state x.own
  show (if hasB true x.own (nextSt x.state x.own 1) = true then p else if (goneB true x.own (nextSt x.state x.own 1) && x.paid) = true then giveI (!x.own) x.h.amount p else giveI x.own x.h.amount p) = _
  rw [h1, h2]
theorem after_at {ev : Int} {xs : List Live} {k : Nat} {y : Live} (h : (afterL ev xs)[k]? = some y) : ∃ x, xs[k]? = some x ∧ y = aft ev x := by
  unfold afterL at h
  rw [List.getElem?_map, Option.map_eq_some_iff] at h
  obtain ⟨x, hx, rfl⟩ := h
  exact ⟨x, hx, rfl⟩
theorem after_len (ev : Int) (xs : List Live) : (afterL ev xs).length = xs.length := by simp [afterL]

set_option maxRecDepth 100000 in
set_option maxHeartbeats 1000000 in
theorem signed_early (l r : Int) (va : Option Addr) (vc n : Nat) (w : World) (hS : Spans w) (h1 : 60 < n) :
    Calls Tryd.prog 5 #[.agg #[.int .u64 l, .int .u64 r], .slice va n vc] w (Makes (.bool true) w) := by
  have n0 : New w (w.alloc (.cells #[.int .u64 l, .int .u64 r] 24)) := (Upd.refl _ _).alloc _
  have hS0 := hS.new n0
  go_enter Tryd.func5, Tryd.ntmps5
  go_wp2_with fail
  refine (shown_any _ hS0).mono ?_
  rintro e w1 ⟨rfl, n1⟩
  go_wp2
  go_ret
  exact ⟨rfl, n0.trans n1⟩

/-- A view in a block of its own. -/
def AtV (A B : Int) (I : List Item) (b : Nat) (w : World) : Prop := ∃ u T, w.heap[b]? = some (.cells #[.int .u64 A, .int .u64 B, u] T (0, 0)) ∧ Items w u (viewL I) ∧ IsView I (viewL I)
theorem AtV.new {A B : Int} {I : List Item} {b : Nat} {w w' : World} (h : AtV A B I b w) (n : New w w') : AtV A B I b w' := by
  obtain ⟨u, T, h1, h2, h3⟩ := h
  exact ⟨u, T, n.old h1 (fun h => h), h2.new n, h3⟩
def sgnPhi (A B : Int) (I : List Item) (b : Nat) (m n : Nat) (ms xs : Value) (u : Value) : Nat → Value → World → Prop
  | 0, v, _ => v = .pointer (some ⟨b, 2, none⟩)
  | 1, v, _ => v = u
  | 2, v, _ => v = .int .i64 m
  | 3, v, _ => v = .int .i64 m
  | 6, v, w => VwP A B I v w
  | 7, v, w => VrP A B I v w
  | 8, v, w => VwP A B I v w
  | 9, v, w => VrP A B I v w
  | 13, v, _ => v = ms
  | 14, v, _ => v = .int .i64 n
  | 15, v, _ => v = xs
  | 16, v, _ => v = .int .i64 n
  | _, v, _ => v = .bool true
theorem sgnPhi_new {A B : Int} {I : List Item} {b : Nat} {m n : Nat} {ms xs u : Value} (i : Nat) (v : Value) {w w' : World} (k : New w w') (h : sgnPhi A B I b m n ms xs u i v w) : sgnPhi A B I b m n ms xs u i v w' := by
  rcases i with _ | _ | _ | _ | _ | _ | _ | _ | _ | _ | _ | _ | _ | _ | _ | _ | _ | i
  all_goals first | exact h | exact VwP.new h k | exact VrP.new h k

set_option maxRecDepth 100000 in
set_option maxHeartbeats 4000000 in
theorem signed_walk (l r : Int) (v : Value) (xs : List Live) (w : World) (hok : ∀ x ∈ xs, LiveOk x) (hv : Lives w v xs) (hS : Spans w) (hG : Glob w) :
    Calls Tryd.prog 5 #[.agg #[.int .u64 l, .int .u64 r], v] w (Makes (.bool true) w) := by
  obtain ⟨va, vc, rfl⟩ := hv.slice
  by_cases h : 60 < xs.length
  · exact signed_early l r va vc _ w hS h
  have hlen : xs.length ≤ 60 := by omega
  have n0 : New w (w.alloc (.cells #[.int .u64 l, .int .u64 r] 24)) := (Upd.refl _ _).alloc _
  have hS0 := hS.new n0
  have b0 : (w.alloc (.cells #[.int .u64 l, .int .u64 r] 24)).heap[w.heap.size]? = some (.cells #[.int .u64 l, .int .u64 r] 24 (0, 0)) := blk_alloc _ _
  go_enter Tryd.func5, Tryd.ntmps5
  go_wp2_with fail
  generalize w.alloc (.cells #[.int .u64 l, .int .u64 r] 24) = wa at n0 hS0 b0 ⊢
  refine (shown_any _ hS0).mono ?_
  rintro e w1 ⟨rfl, n1⟩
  have b1 := n1.old b0 (fun h => h)
  have nw := n0.trans n1
  clear b0 n0 n1 hS0
  go_wp2_with fail
  refine (after_any _ xs 1 (by omega) w1 (hG.new nw) (hv.new nw)).mono ?_
  rintro e w2 ⟨mu, rfl, n2, hm⟩
  obtain ⟨ma, mc, rfl⟩ := hm.slice
  rw [after_len] at hm ⊢
  have nw2 := nw.trans n2
  have b2 := n2.old b1 (fun h => h)
  have c0 := blk_cell b2 0
  have c1 := blk_cell b2 1
  simp at c0 c1
  have hml : (afterL 1 xs).length ≤ 1048576 := by rw [after_len]; omega
  go_wp2_with fail
  refine (of_vw_false l r _ (afterL 1 xs) hml w2 (hS.new nw2) hm).mono ?_
  rintro e w3 ⟨v3, rfl, n3, u, rfl, hi, hvw⟩
  obtain ⟨ua, uc, rfl⟩ := hi.slice
  have hXL : (viewL (itemsOf false (afterL 1 xs))).length = (itemsOf false (afterL 1 xs)).length := (viewL_perm hvw).length_eq
  rw [hXL]
  generalize (sumsOf false l r (afterL 1 xs)).1 = A3
  generalize (sumsOf false l r (afterL 1 xs)).2 = B3
  have nw3 := nw2.trans n3
  have hm3 := hm.new n3
  have b3 := n3.old b2 (fun h => h)
  clear c0 c1 b1 b2 hi hvw hm n2 n3 nw nw2
  go_upto_region 5 with fail
  have v4 := blk_alloc w3 (.cells #[.int .u64 B3, .int .u64 A3, .slice ua (itemsOf false (afterL 1 xs)).length uc] 40)
  have n4 : New w3 (w3.alloc (.cells #[.int .u64 B3, .int .u64 A3, .slice ua (itemsOf false (afterL 1 xs)).length uc] 40)) := (Upd.refl _ _).alloc _
  have hlt4 : w3.heap.size < (w3.alloc (.cells #[.int .u64 B3, .int .u64 A3, .slice ua (itemsOf false (afterL 1 xs)).length uc] 40)).heap.size := by simp
  generalize w3.alloc (.cells #[.int .u64 B3, .int .u64 A3, .slice ua (itemsOf false (afterL 1 xs)).length uc] 40) = w4 at v4 n4 hlt4 ⊢
  have nw4 := nw3.trans n4
  have hm4 := hide (hm3.new n4)
  have b4 := n4.old b3 (fun h => h)
  have hlt5 := blk_lt b4
  have HV := hide hv
  clear hm3 b3 n4 nw3 hXL hv
  obtain ⟨wo, rfl⟩ : ∃ wo : World, wo = w4 := ⟨_, rfl⟩
  go_wp2_with fail
  go_loopw [7, 8] (fun mv iv wr => ∃ k : Nat, iv = .int .i64 (k : Int) ∧ k ≤ xs.length ∧ mv = .int .i64 ((itemsOf false ((afterL 1 xs).take k)).length : Int) ∧ Q wo wr) (fun _ iv _ => xs.length - (intOf iv).toNat)
  case atStart => exact ⟨0, rfl, Nat.zero_le _, rfl, Q.refl _⟩
  case round =>
    obtain ⟨k, rfl, hk, rfl, qr⟩ := hrel
    by_cases hlt : k < xs.length
    · obtain ⟨y, hy⟩ : ∃ y, (afterL 1 xs)[k]? = some y := ⟨_, List.getElem?_eq_getElem (by rw [after_len]; exact hlt)⟩
      rcases (unhide hm4).new (qr.upd _) with ⟨_, _, e, e2⟩ | ⟨g, off, cap, e, hh⟩
      · have := after_len 1 xs; rw [e2] at this; simp at this; omega
      · rw [after_len] at e
        cases e
        have hc35 : wr.cell? ⟨g, off + k * 38 + 35, none⟩ = some (.bool y.own) := by
          obtain ⟨C, T, fz, hb, hs, hc⟩ := hh
          rw [blk_cell hb, hc k y hy 35 (by decide), live_35]
        have hc36 : wr.cell? ⟨g, off + k * 38 + 36, none⟩ = some (.int .i64 y.state) := by
          obtain ⟨C, T, fz, hb, hs, hc⟩ := hh
          rw [blk_cell hb, hc k y hy 36 (by decide), live_36]
        have hsn := items_snoc false hy
        have hle : (itemsOf false ((afterL 1 xs).take k)).length ≤ 60 := by
          have := items_le false ((afterL 1 xs).take k)
          rw [List.length_take] at this
          omega
        have hT := reftheirs_any y.state y.own
        have hnn : (k : Int) < (xs.length : Int) := by omega
        have hno : ¬ (y.own = true ∧ y.state = 0) := by
          obtain ⟨x, hx, rfl⟩ := after_at hy
          exact (next1 x.state x.own).2.2
        unfold hasB at hsn
        simp only [Bool.false_eq_true, if_false] at hsn
        generalize (itemsOf false ((afterL 1 xs).take k)).length = m at hsn hle ⊢
        generalize oursB y.state (!y.own) = bT at hsn hT
        generalize y.state = st at hc36 hT hno
        have HSN := hide hsn
        clear hsn hy hh
        cases hyo : y.own
        · rw [hyo] at hc35 hT
          clear hno hyo
          cases bT
          all_goals
            go_wp2_with fail
            go_quiet ((go_at_call 13; exact Calls.quiet_of (hT _)))
            go_wp2_with fail
            go_roundw
            case rel => exact ⟨k + 1, by go_num, by omega, by have := unhide HSN; simp at this; rw [this]; try go_num, qr.drewN' _⟩
            case measure => simp [intOf]; omega
        · rw [hyo] at hc35 hT
          have hs0 : (st == 0) = false := by
            rw [beq_eq_false_iff_ne]; exact fun h => hno ⟨hyo, h⟩
          clear hno hyo
          cases bT
          all_goals
            go_wp2_with fail
            go_quiet ((go_at_call 13; exact Calls.quiet_of (hT _)))
            go_wp2_with fail
            go_roundw
            case rel => exact ⟨k + 1, by go_num, by omega, by have := unhide HSN; simp at this; rw [this]; try go_num, qr.drewN' _⟩
            case measure => simp [intOf]; omega
    · obtain rfl : k = xs.length := by omega
      rw [show (afterL 1 xs).take xs.length = afterL 1 xs from by rw [← after_len 1 xs, List.take_length]]
      have nr := qr.upd (fun _ => False)
      have nw5 := nw4.trans nr
      have b5 := nr.old b4 (fun h => h)
      have v5 := nr.old v4 (fun h => h)
      have hm5 := (unhide hm4).new nr
      have hl5 := (unhide HV).new nw5
      have c0 := blk_cell b5 0
      have c1 := blk_cell b5 1
      simp at c0 c1
      generalize (itemsOf false (afterL 1 xs)).length = N at v5 ⊢
      have hsz5 := qr.heap
      go_wp2_with fail
      refine (of_vw_true l r _ (afterL 1 xs) hml wr (hS.new nw5) hm5).mono ?_
      rw [sums_signed, items_signed]
      rintro e w6 ⟨v6, rfl, n6, u6, rfl, hi6, hvw⟩
      obtain ⟨a6, c6, rfl⟩ := hi6.slice
      have i1 : (itemsOf true xs).length ≤ 1048576 := Nat.le_trans (items_le true xs) (by omega)
      have k1 := items_ok (ours := true) hok
      have O7 := hide (fun W (n : New w6 W) => of_vw_true l r (.slice va xs.length vc) xs (by omega) W (hS.new ((nw5.trans n6).trans n)) (hl5.new (n6.trans n)))
      generalize (sumsOf true l r xs).1 = A at O7 ⊢
      generalize (sumsOf true l r xs).2 = B at O7 ⊢
      generalize itemsOf true xs = I at O7 i1 k1 hvw hi6 ⊢
      have K1 := hide k1
      have b6 := n6.old b5 (fun h => h)
      have v6 := n6.old v5 (fun h => h)
      clear c0 c1 b5 v5 hm5 hl5 k1
      go_upto_region 14 with fail
      have t7 := blk_alloc w6 (.cells #[.int .u64 A, .int .u64 B, .slice a6 (viewL I).length c6] 40)
      have n7 : New w6 (w6.alloc (.cells #[.int .u64 A, .int .u64 B, .slice a6 (viewL I).length c6] 40)) := (Upd.refl _ _).alloc _
      generalize w6.alloc (.cells #[.int .u64 A, .int .u64 B, .slice a6 (viewL I).length c6] 40) = w7 at t7 n7 ⊢
      have at7 : AtV A B I w6.heap.size w7 := ⟨_, _, t7, hi6.new n7, hvw⟩
      have b7 := n7.old b6 (fun h => h)
      have v7 := n7.old v6 (fun h => h)
      have c0 := blk_cell b7 0
      have c1 := blk_cell b7 1
      simp at c0 c1
      clear b6 v6 hi6 hvw t7
      go_wp2_with fail
      refine (unhide O7 w7 n7).mono ?_
      rintro e w8 ⟨v8, rfl, n8, u8, rfl, hi8, hvw⟩
      obtain ⟨a8, c8, rfl⟩ := hi8.slice
      have v8 := n8.old v7 (fun h => h)
      clear c0 c1 b7 v7 O7
      go_upto_region 15 with fail
      have t9 := blk_alloc w8 (.cells #[.int .u64 A, .int .u64 B, .slice a8 (viewL I).length c8] 40)
      have n9 : New w8 (w8.alloc (.cells #[.int .u64 A, .int .u64 B, .slice a8 (viewL I).length c8] 40)) := (Upd.refl _ _).alloc _
      generalize w8.alloc (.cells #[.int .u64 A, .int .u64 B, .slice a8 (viewL I).length c8] 40) = w9 at t9 n9 ⊢
      have at9 : AtV A B I w8.heap.size w9 := ⟨_, _, t9, hi8.new n9, hvw⟩
      have at7' := at7.new (n8.trans n9)
      have v9 := n9.old v8 (fun h => h)
      have nw9 := nw5.trans (n6.trans (n7.trans (n8.trans n9)))
      clear v8 t9 hi8 hvw at7 n6 n7 n8 n9 nw5 nr qr b4 v4
      refine wp_dag (by kernel_rfl) [[], [(0, 62)], [(1, 63)], [], [(2, 64), (3, 65)], [(4, 66)], [(5, 67)], [(6, 68), (5, 67)], [(5, 67)], [(8, 70), (5, 67)], [(7, 69), (9, 71), (5, 67)], [(5, 67), (10, 72)], [(11, 73)], [(12, 74)], [(13, 75), (12, 74)], [(12, 74)], [(15, 77), (12, 74)], [(14, 76), (16, 78), (12, 74)], [(12, 74), (17, 79)], [(18, 80)]] 81 (by rfl) (by kernel_rfl)
        [(0, 62), (1, 63), (2, 64), (3, 65), (4, 66), (5, 67), (6, 68), (7, 69), (8, 70), (9, 71), (10, 72), (11, 73), (12, 74), (13, 75), (14, 76), (15, 77), (16, 78), (17, 79), (18, 80), (19, 4)] (by kernel_rfl) (fun w' => New w9 w') New
        (sgnPhi A B I w3.heap.size N xs.length (.slice ma xs.length mc) (.slice va xs.length vc) (.slice ua N uc)) ((Upd.refl _ _).drew) (fun w => Upd.refl _ w) (fun i v w w' _ _ n h => sgnPhi_new i v n h) ?_ ?_
      · have p2 : ∀ {w' : World}, New w9 w' → w'.cell? ⟨w3.heap.size, 2, none⟩ = some (.slice ua N uc) := fun n => n.cell (blk_cell v9 2) (fun h => h)
        refine DagSteps.plain rfl ?_ (DagSteps.plain rfl ?_ (DagSteps.plain rfl ?_ (DagSteps.plain rfl ?_ (DagSteps.plain rfl ?_ (DagSteps.plain rfl ?_ (DagSteps.guarded rfl (fun _ _ h => h) ?_ (DagSteps.guarded rfl (fun _ _ h => h) ?_ (DagSteps.guarded rfl (fun _ _ h => h) ?_ (DagSteps.guarded rfl (fun _ _ h => h) ?_ (DagSteps.guarded rfl (fun _ _ h => h) ?_ (DagSteps.plain rfl ?_ (DagSteps.plain rfl ?_ (DagSteps.guarded rfl (fun _ _ h => h) ?_ (DagSteps.guarded rfl (fun _ _ h => h) ?_ (DagSteps.guarded rfl (fun _ _ h => h) ?_ (DagSteps.guarded rfl (fun _ _ h => h) ?_ (DagSteps.guarded rfl (fun _ _ h => h) ?_ (DagSteps.plain rfl ?_ (DagSteps.plain rfl ?_ (DagSteps.nil))))))))))))))))))))
        · intro vals w' hS _
          unfold opRun; simp only [putL]; go_simp
          exact ⟨Upd.refl _ _, rfl⟩
        · rintro vals w' hS ⟨h0, -⟩
          replace h0 : vals 0 = _ := h0
          have p2 := p2 hS
          unfold opRun; simp only [putL]; go_simp
          exact ⟨Upd.refl _ _, rfl⟩
        · rintro vals w' hS ⟨h0, -⟩
          replace h0 : vals 1 = _ := h0
          unfold opRun; simp only [putL]; go_simp
          exact ⟨Upd.refl _ _, rfl⟩
        · rintro vals w' hS -
          unfold opRun; simp only [putL]; go_simp
          exact ⟨Upd.refl _ _, rfl⟩
        · rintro vals w' hS ⟨h0, h1, -⟩
          replace h0 : vals 2 = _ := h0
          replace h1 : vals 3 = _ := h1
          unfold opRun; simp only [putL]; go_simp
          exact ⟨Upd.refl _ _, rfl⟩
        · rintro vals w' hS ⟨h0, -⟩
          replace h0 : vals 4 = _ := h0
          unfold opRun; simp only [putL]; go_simp
          exact ⟨Upd.refl _ _, rfl⟩
        · rintro vals w' hS -
          obtain ⟨u, T, e, h1, h2⟩ := at7'.new hS
          obtain ⟨ax, cx, rfl⟩ := h1.slice
          have r0 := blk_cell e 0
          have r1 := blk_cell e 1
          have r2 := blk_cell e 2
          simp at r0 r1 r2
          unfold opRun; simp only [putL]; go_simp
          exact ⟨Upd.refl _ _, _, rfl, h1, h2⟩
        · rintro vals w' hS ⟨h0, -⟩
          unfold opRun; simp only [putL]; go_simp
          refine (its_vw h0 (by assumption)).mono ?_
          rintro e w2 ⟨v', rfl, n, h⟩
          exact ⟨_, rfl, n, hS.trans n, h⟩
        · rintro vals w' hS -
          obtain ⟨u, T, e, h1, h2⟩ := at9.new hS
          obtain ⟨ax, cx, rfl⟩ := h1.slice
          have r0 := blk_cell e 0
          have r1 := blk_cell e 1
          have r2 := blk_cell e 2
          simp at r0 r1 r2
          unfold opRun; simp only [putL]; go_simp
          exact ⟨Upd.refl _ _, _, rfl, h1, h2⟩
        · rintro vals w' hS ⟨h0, -⟩
          unfold opRun; simp only [putL]; go_simp
          refine (its_vw h0 (by assumption)).mono ?_
          rintro e w2 ⟨v', rfl, n, h⟩
          exact ⟨_, rfl, n, hS.trans n, h⟩
        · rintro vals w' hS ⟨h0, h1, -⟩
          unfold opRun; simp only [putL]; go_simp
          refine (same_vr h0 h1 (by assumption) (unhide K1)).mono ?_
          rintro e w2 ⟨v', rfl, n, h⟩
          exact ⟨_, rfl, n, hS.trans n, h⟩
        · rintro vals w' hS ⟨h0, h1, -⟩
          replace h0 : vals 5 = _ := h0
          replace h1 : vals 10 = _ := h1
          unfold opRun; simp only [putL]; go_simp
          exact ⟨Upd.refl _ _, rfl⟩
        · rintro vals w' hS ⟨h0, -⟩
          replace h0 : vals 11 = _ := h0
          unfold opRun; simp only [putL]; go_simp
          exact ⟨Upd.refl _ _, rfl⟩
        · rintro vals w' hS -
          unfold opRun; simp only [putL]; go_simp
          exact ⟨Upd.refl _ _, rfl⟩
        · rintro vals w' hS ⟨h0, -⟩
          replace h0 : vals 13 = _ := h0
          unfold opRun; simp only [putL]; go_simp
          exact ⟨Upd.refl _ _, rfl⟩
        · rintro vals w' hS -
          unfold opRun; simp only [putL]; go_simp
          exact ⟨Upd.refl _ _, rfl⟩
        · rintro vals w' hS ⟨h0, -⟩
          replace h0 : vals 15 = _ := h0
          unfold opRun; simp only [putL]; go_simp
          exact ⟨Upd.refl _ _, rfl⟩
        · rintro vals w' hS ⟨h0, h1, -⟩
          replace h0 : vals 14 = _ := h0
          replace h1 : vals 16 = _ := h1
          unfold opRun; simp only [putL]; go_simp
          exact ⟨Upd.refl _ _, rfl⟩
        · rintro vals w' hS ⟨h0, h1, -⟩
          replace h0 : vals 12 = _ := h0
          replace h1 : vals 17 = _ := h1
          unfold opRun; simp only [putL]; go_simp
          exact ⟨Upd.refl _ _, rfl⟩
        · rintro vals w' hS ⟨h0, -⟩
          replace h0 : vals 18 = _ := h0
          unfold opRun; simp only [putL]; go_simp
          exact ⟨Upd.refl _ _, rfl⟩
      · intro vals w' hS hP
        have h19 : vals 19 = .bool true := hP 19 (by decide)
        clear hP
        have nn := nw9.trans hS
        simp only [putL, h19]
        go_simp
        go_wp2_with fail
        go_ret
        exact ⟨rfl, nn⟩

end Go.Proofs.YtbcjhpeighlncaaDoor
