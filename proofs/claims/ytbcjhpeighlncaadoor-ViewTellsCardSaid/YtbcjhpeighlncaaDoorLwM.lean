/-
  The law ViewMirror, walked.
-/
import Derived.Test.YtbcjhpeighlncaaDoorPl2
import Derived.Test.YtbcjhpeighlncaaDoorDag
namespace Go.Proofs.YtbcjhpeighlncaaDoor
open Go.RowKit Go.Sort

theorem bs_live0 (w : World) : (bsLive 0 #[]).run Tryd.prog w = .ok (.slice (some ⟨w.heap.size, 0, none⟩) 0 0) (w.alloc (.cells #[] 32)) := by
  obtain ⟨i, z, hi, hz, hc⟩ := live_zero
  have hsz : i.size = 38 := by have := Tryd.infoLive; rw [hi] at this; simpa using this
  show (Instr.buildSlice 25 0 #[]).run Tryd.prog w = _
  simp [Instr.buildSlice, run_underlying Tryd.underlying25, sizeOf, typeInfo, zeroValue, hi, hz, hsz, Instr.fill, newRow]
  rw [Array.eq_empty_of_size_eq_zero (xs := Array.map _ (Array.range 0)) (by simp)]
attribute [local go_sem ↓ high] ld_live_fold st_live_fold bs_live_fold
attribute [local go_sem] ld_live st_live bs_live bs_live0

theorem own_n {w : World} {base : Nat} {e : TypeId} {size : Nat} {a : Option Addr} {k c : Nat} {n : Nat} {xs : List Value} (h : w.ownsRow base e size (.slice a k c) n xs) : k = n := by
  rcases h.2 with ⟨e, e0⟩ | ⟨g, cap, cur, e, _⟩
  · cases e; exact e0.symm
  · cases e; rfl
theorem flip_cells (x : Live) : liveCells (flip' x) = (liveCells x).set 35 (.bool !x.own) := by
  unfold liveCells flip'
  rw [List.set_append_right _ _ (by rw [htlc_len]; omega), htlc_len]
  rfl

set_option maxRecDepth 100000 in
set_option maxHeartbeats 1000000 in
theorem mirror_early (l r : Int) (va : Option Addr) (vc n : Nat) (w : World) (hS : Spans w) (h1 : 60 < n) :
    Calls Tryd.prog 3 #[.agg #[.int .u64 l, .int .u64 r], .slice va n vc] w (Makes (.bool true) w) := by
  have n0 : New w (w.alloc (.cells #[.int .u64 l, .int .u64 r] 24)) := (Upd.refl _ _).alloc _
  have hS0 := hS.new n0
  go_enter Tryd.func3, Tryd.ntmps3
  go_wp2_with fail
  refine (shown_any _ hS0).mono ?_
  rintro e w1 ⟨rfl, n1⟩
  go_wp2
  go_ret
  exact ⟨rfl, n0.trans n1⟩

/-- A view of items I, with its sums, that lies in memory. -/
def VwP (A B : Int) (I : List Item) (v : Value) (w : World) : Prop := ∃ u, v = .agg #[.int .u64 A, .int .u64 B, u] ∧ Items w u (viewL I) ∧ IsView I (viewL I)
def VrP (A B : Int) (I : List Item) (v : Value) (w : World) : Prop := ∃ u, v = .agg #[.int .u64 A, .int .u64 B, u] ∧ ItemsR w u (viewL I) ∧ IsView I (viewL I)
theorem VwP.new {A B : Int} {I : List Item} {v : Value} {w w' : World} (h : VwP A B I v w) (n : New w w') : VwP A B I v w' := by
  obtain ⟨u, e, h1, h2⟩ := h
  exact ⟨u, e, h1.new n, h2⟩
theorem VrP.new {A B : Int} {I : List Item} {v : Value} {w w' : World} (h : VrP A B I v w) (n : New w w') : VrP A B I v w' := by
  obtain ⟨u, e, h1, h2⟩ := h
  exact ⟨u, e, h1.new n, h2⟩
theorem its_vw {A B : Int} {I : List Item} {v : Value} {w : World} (h : VwP A B I v w) (hl : I.length ≤ 1048576) :
    Calls Tryd.prog 11 #[v] w fun e w' => ∃ v', e = .returned v' ∧ New w w' ∧ VrP A B I v' w' := by
  obtain ⟨u, rfl, h1, h2⟩ := h
  refine (its_any A B u (viewL I) (by rw [(viewL_perm h2).length_eq]; exact hl) w h1.toR).mono ?_
  rintro e w' ⟨u', he, n, h3⟩
  exact ⟨_, he, n, u', rfl, h3, h2⟩
theorem same_vr {A B : Int} {I : List Item} {v1 v2 : Value} {w : World} (h : VrP A B I v1 w) (k : VrP A B I v2 w) (hl : I.length ≤ 1048576) (hok : ∀ x ∈ I, HtlcOk x.h) :
    Calls Tryd.prog 10 #[v1, v2] w fun e w' => ∃ v', e = .returned v' ∧ New w w' ∧ v' = .bool true := by
  obtain ⟨u, rfl, h1, h2⟩ := h
  obtain ⟨u2, rfl, h3, _⟩ := k
  refine (same_true A B u u2 (viewL I) (by rw [(viewL_perm h2).length_eq]; exact hl) (view_ok h2 hok) w h1 h3).mono ?_
  rintro e w' ⟨he, n⟩
  exact ⟨_, he, n, rfl⟩
theorem of_vw_true (l r : Int) (v : Value) (xs : List Live) (hl : xs.length ≤ 1048576) (w : World) (hG : Spans w) (hv : Lives w v xs) :
    Calls Tryd.prog 12 #[.bool true, .agg #[.int .u64 l, .int .u64 r], v] w fun e w' => ∃ v', e = .returned v' ∧ New w w' ∧ VwP (sumsOf true l r xs).1 (sumsOf true l r xs).2 (itemsOf true xs) v' w' := by
  refine (of_view true l r v xs hl w hG hv).mono ?_
  rintro e w' ⟨u, he, n, h1, h2⟩
  simp only [if_true] at he
  exact ⟨_, he, n, u, rfl, h1, h2⟩
theorem of_vw_false (l r : Int) (v : Value) (xs : List Live) (hl : xs.length ≤ 1048576) (w : World) (hG : Spans w) (hv : Lives w v xs) :
    Calls Tryd.prog 12 #[.bool false, .agg #[.int .u64 l, .int .u64 r], v] w fun e w' => ∃ v', e = .returned v' ∧ New w w' ∧ VwP (sumsOf false l r xs).2 (sumsOf false l r xs).1 (itemsOf false xs) v' w' := by
  refine (of_view false l r v xs hl w hG hv).mono ?_
  rintro e w' ⟨u, he, n, h1, h2⟩
  simp only [Bool.false_eq_true, if_false] at he
  exact ⟨_, he, n, u, rfl, h1, h2⟩
def mirPhi (l r A1 B1 A2 B2 : Int) (x y : Value) (I1 I2 : List Item) : Nat → Value → World → Prop
  | 0, v, _ => v = .agg #[.int .u64 l, .int .u64 r]
  | 1, v, _ => v = x
  | 2, v, w => VwP A1 B1 I1 v w
  | 3, v, w => VrP A1 B1 I1 v w
  | 4, v, _ => v = .agg #[.int .u64 r, .int .u64 l]
  | 5, v, _ => v = y
  | 6, v, w => VwP A1 B1 I1 v w
  | 7, v, w => VrP A1 B1 I1 v w
  | 8, v, _ => v = .bool true
  | 9, v, _ => v = .bool true
  | 10, v, _ => v = .agg #[.int .u64 l, .int .u64 r]
  | 11, v, _ => v = x
  | 12, v, w => VwP A2 B2 I2 v w
  | 13, v, w => VrP A2 B2 I2 v w
  | 14, v, _ => v = .agg #[.int .u64 r, .int .u64 l]
  | 15, v, _ => v = y
  | 16, v, w => VwP A2 B2 I2 v w
  | 17, v, w => VrP A2 B2 I2 v w
  | _, v, _ => v = .bool true
theorem mirPhi_new {l r A1 B1 A2 B2 : Int} {x y : Value} {I1 I2 : List Item} (i : Nat) (v : Value) {w w' : World} (n : New w w') (h : mirPhi l r A1 B1 A2 B2 x y I1 I2 i v w) : mirPhi l r A1 B1 A2 B2 x y I1 I2 i v w' := by
  rcases i with _ | _ | _ | _ | _ | _ | _ | _ | _ | _ | _ | _ | _ | _ | _ | _ | _ | _ | i
  all_goals first | exact h | exact VwP.new h n | exact VrP.new h n

set_option maxRecDepth 100000 in
set_option maxHeartbeats 4000000 in
theorem mirror_walk (l r : Int) (v : Value) (xs : List Live) (w : World) (hok : ∀ x ∈ xs, LiveOk x) (hv : Lives w v xs) (hS : Spans w) :
    Calls Tryd.prog 3 #[.agg #[.int .u64 l, .int .u64 r], v] w (Makes (.bool true) w) := by
  obtain ⟨va, vc, rfl⟩ := hv.slice
  by_cases h : 60 < xs.length
  · exact mirror_early l r va vc _ w hS h
  have hlen : xs.length ≤ 60 := by omega
  have n0 : New w (w.alloc (.cells #[.int .u64 l, .int .u64 r] 24)) := (Upd.refl _ _).alloc _
  have hS0 := hS.new n0
  have b0 : (w.alloc (.cells #[.int .u64 l, .int .u64 r] 24)).heap[w.heap.size]? = some (.cells #[.int .u64 l, .int .u64 r] 24 (0, 0)) := blk_alloc _ _
  obtain ⟨i9, z9, hi, hz, hz0, hz1, hz2⟩ := live_info
  go_enter Tryd.func3, Tryd.ntmps3
  go_wp2_with fail
  generalize w.alloc (.cells #[.int .u64 l, .int .u64 r] 24) = wa at n0 hS0 b0 ⊢
  refine (shown_any _ hS0).mono ?_
  rintro e w1 ⟨rfl, n1⟩
  have b1 := n1.old b0 (fun h => h)
  have nw := n0.trans n1
  clear b0 n0 n1 hS0
  go_upto_region 4 with fail
  have n2 : New w1 (w1.alloc (.cells #[] 32)) := (Upd.refl _ _).alloc _
  have hO := World.ownsRow_made (base := w1.heap.size) (e := 32) (size := 38) w1 #[] 0 (Nat.le_refl _) (by decide) rfl
  generalize w1.alloc (.cells #[] 32) = w2 at n2 hO ⊢
  have HV := hide (hv.new nw)
  have HO := hide hO
  have hws : w.heap.size < w1.heap.size := blk_lt b1
  have HB1 := hide b1
  clear hO hv b1
  obtain ⟨wo, rfl⟩ : ∃ wo : World, wo = w2 := ⟨_, rfl⟩
  go_wp2_with fail
  go_loopw [5, 6, 7] (fun sv iv _ wr => ∃ (n : Nat) (a : Option Addr) (c : Nat), iv = .int .i64 (n : Int) ∧ n ≤ xs.length ∧ sv = .slice a n c ∧ Hid (wr.ownsRow w1.heap.size 32 38 sv n (((xs.take n).map flip').flatMap liveCells)) ∧ New w1 wr) (fun _ iv _ _ => xs.length - (intOf iv).toNat)
  case atStart => exact ⟨0, _, _, rfl, Nat.zero_le _, rfl, HO, n2⟩
  case round =>
    obtain ⟨n, a, c, rfl, hn, rfl, HO, nr⟩ := hrel
    by_cases hlt : n < xs.length
    · obtain ⟨x, hx⟩ : ∃ x, xs[n]? = some x := ⟨_, List.getElem?_eq_getElem hlt⟩
      rcases (unhide HV).new nr with ⟨_, _, e, e2⟩ | ⟨g, off, cap, e, hh⟩
      · rw [e2] at hlt; simp at hlt
      · cases e
        have hrow := hh.row hx
        have hnn : (n : Int) < (xs.length : Int) := by omega
        have hst : stOk (wr.alloc (.cells #[.int .u64 0, .int .u64 0, .int .u8 0, .int .u8 0, .int .u8 0, .int .u8 0, .int .u8 0, .int .u8 0, .int .u8 0, .int .u8 0, .int .u8 0, .int .u8 0, .int .u8 0, .int .u8 0, .int .u8 0, .int .u8 0, .int .u8 0, .int .u8 0, .int .u8 0, .int .u8 0, .int .u8 0, .int .u8 0, .int .u8 0, .int .u8 0, .int .u8 0, .int .u8 0, .int .u8 0, .int .u8 0, .int .u8 0, .int .u8 0, .int .u8 0, .int .u8 0, .int .u8 0, .int .u8 0, .int .i64 0, .bool false, .int .i64 0, .bool false] 32)) wr.heap.size 0 38 (liveCells x).toArray = true := stOk_blk (blk_alloc _ _) (by decide) (by rw [List.size_toArray, live_len]) (by rw [List.all_toArray, List.all_eq_true]; exact live_one x)
        have hlaid := laid_new wr #[.int .u64 0, .int .u64 0, .int .u8 0, .int .u8 0, .int .u8 0, .int .u8 0, .int .u8 0, .int .u8 0, .int .u8 0, .int .u8 0, .int .u8 0, .int .u8 0, .int .u8 0, .int .u8 0, .int .u8 0, .int .u8 0, .int .u8 0, .int .u8 0, .int .u8 0, .int .u8 0, .int .u8 0, .int .u8 0, .int .u8 0, .int .u8 0, .int .u8 0, .int .u8 0, .int .u8 0, .int .u8 0, .int .u8 0, .int .u8 0, .int .u8 0, .int .u8 0, .int .u8 0, .int .u8 0, .int .i64 0, .bool false, .int .i64 0, .bool false] 32 (liveCells x) (by rw [live_len]; rfl)
        have v35 := live_35 x
        have hfl := flip_cells x
        have hlen1 := live_len x
        have hlen2 := live_len (flip' x)
        have h1 := live_one (flip' x)
        have ht : (xs.take (n + 1)).map flip' = (xs.take n).map flip' ++ [flip' x] := by rw [List.take_add_one, hx]; simp
        have HT := hide ht
        clear hx hh ht
        generalize liveCells x = C at hrow hst hlaid v35 hfl hlen1
        generalize hD : liveCells (flip' x) = D at hfl hlen2 h1
        have HD := hide hD
        have HFL := hide hfl
        clear hD hfl
        go_upto_region 8 with fail
        obtain ⟨hbx, nC⟩ := hlaid
        generalize (wr.alloc (.cells #[.int .u64 0, .int .u64 0, .int .u8 0, .int .u8 0, .int .u8 0, .int .u8 0, .int .u8 0, .int .u8 0, .int .u8 0, .int .u8 0, .int .u8 0, .int .u8 0, .int .u8 0, .int .u8 0, .int .u8 0, .int .u8 0, .int .u8 0, .int .u8 0, .int .u8 0, .int .u8 0, .int .u8 0, .int .u8 0, .int .u8 0, .int .u8 0, .int .u8 0, .int .u8 0, .int .u8 0, .int .u8 0, .int .u8 0, .int .u8 0, .int .u8 0, .int .u8 0, .int .u8 0, .int .u8 0, .int .i64 0, .bool false, .int .i64 0, .bool false] 32)).setCells wr.heap.size 0 C = wC at hbx nC ⊢
        have s35 : wC.cell? ⟨wr.heap.size, 35, none⟩ = some (.bool x.own) := by rw [blk_cell hbx, List.getElem?_toArray]; exact v35
        have z35 : wC.frozen? ⟨wr.heap.size, 35, none⟩ = false := blk_free hbx 35
        clear hst hrow
        go_upto_region 9 with fail
        have hb2 := blk_set hbx 35 (.bool !x.own)
        have nD : New wr (wC.setCell ⟨wr.heap.size, 35, none⟩ (.bool !x.own)) := nC.setCell (fun h => by simp at h) _
        generalize wC.setCell ⟨wr.heap.size, 35, none⟩ (.bool !x.own) = wD at hb2 nD ⊢
        have e1 : C.toArray.setIfInBounds 35 (.bool !x.own) = D.toArray := by rw [unhide HFL]; simp
        rw [e1] at hb2
        have hr2 := rowN_whole hb2 38 (by simpa using hlen2)
        have hsz := nD.size
        have hsz2 := nr.size
        have nD2 := nr.trans nD
        have HOD := hide (owns_new (unhide HO) nD)
        clear e1 s35 z35 hbx hb2 nC HFL
        go_wp2_with (at_builtin; refine wpList_append_own _ rfl (.tmp 32) (.tmp 34) 25 rfl w1.heap.size 32 i9 _ 38 80 Tryd.underlying25 hi hz hz0 hz1 hz2 (by decide) _ _ _ rfl ((unhide HOD).alloc _) ⟨wD.heap.size, 0, none⟩ 1 1 D rfl (by omega) ?c1 h1 ?c3 ?c4 ?c5 ?_)
        case c1 =>
          intro j u hj
          have hadd : (⟨wD.heap.size, 0, none⟩ : Addr).add j = ⟨wD.heap.size, j, none⟩ := by unfold Addr.add; split <;> simp_all
          rw [hadd, blk_cell (blk_alloc _ _)]
          simpa using hj
        case c3 => unfold maxLen; omega
        case c4 => omega
        case c5 => simp; omega
        intro v' w5 hown5 hgrow5 _
        have n5 : New w1 w5 := (nD2.alloc _).grown hgrow5 (fun k h hk => by have := own_ge (unhide HOD) k h; omega)
        obtain ⟨va', vk', vc', rfl⟩ := own_shape hown5
        have hvk : vk' = n + 1 := own_n hown5
        subst hvk
        have HO5 := hide hown5
        clear hown5 hgrow5 hr2
        go_wp2
        go_roundw
        case rel =>
          refine ⟨n + 1, va', vc', by go_num, by omega, rfl, hide ?_, n5⟩
          rw [unhide HT, List.flatMap_append]
          have := unhide HO5
          rw [← unhide HD] at this
          simpa using this
        case measure => simp [intOf]; omega
    · obtain rfl : n = xs.length := by omega
      have b3 := nr.old (unhide HB1) (fun h => h)
      have c0 := blk_cell b3 0
      have c1 := blk_cell b3 1
      simp at c0 c1
      go_upto_region 11 with fail
      have d3 := blk_alloc wr (.cells #[.int .u64 r, .int .u64 l] 24)
      have n3 : New w1 (wr.alloc (.cells #[.int .u64 r, .int .u64 l] 24)) := nr.alloc _
      have b4 := blk_alloc_old b3 (.cells #[.int .u64 r, .int .u64 l] 24)
      have hm : Lives (wr.alloc (.cells #[.int .u64 r, .int .u64 l] 24)) (.slice a xs.length c) (xs.map flip') := by
        rw [List.take_length] at HO
        rcases (heldL_of_owns (unhide HO)).2 with ⟨e, e2⟩ | ⟨g, cap, e, _, hh⟩
        · exact .inl ⟨a, c, by rw [show xs.length = 0 by have := congrArg List.length e2; simpa using this], e2⟩
        · rw [e]; exact .inr ⟨g, 0, cap, rfl, hh.toL.upd ((Upd.refl (fun _ => False) wr).alloc _) (fun h => h)⟩
      have hl3 := (unhide HV).new n3
      have hS3 := hS.new (nw.trans n3)
      have hlm : (xs.map flip').length ≤ 1048576 := by rw [List.length_map]; omega
      have hlx : xs.length ≤ 1048576 := by omega
      clear c0 c1 HO nr b3
      generalize wr.alloc (.cells #[.int .u64 r, .int .u64 l] 24) = w3 at d3 n3 b4 hm hl3 hS3 ⊢
      have m1 := items_flip true xs
      have m2 := items_flip false xs
      have t1 := sums_flip true l r xs
      have t2 := sums_flip false l r xs
      simp only [Bool.not_true, Bool.not_false] at m1 m2 t1 t2
      have o1 := fun W (n : New w3 W) => of_vw_true l r (.slice va xs.length vc) xs hlx W (hS3.new n) (hl3.new n)
      have o2 := fun W (n : New w3 W) => of_vw_false r l (.slice a xs.length c) (xs.map flip') hlm W (hS3.new n) (hm.new n)
      have o3 := fun W (n : New w3 W) => of_vw_false l r (.slice va xs.length vc) xs hlx W (hS3.new n) (hl3.new n)
      have o4 := fun W (n : New w3 W) => of_vw_true r l (.slice a xs.length c) (xs.map flip') hlm W (hS3.new n) (hm.new n)
      rw [t1, m1] at o2
      rw [t2, m2] at o4
      simp only [swap'] at o2 o4
      have i1 : (itemsOf true xs).length ≤ 1048576 := Nat.le_trans (items_le true xs) hlx
      have i2 : (itemsOf false xs).length ≤ 1048576 := Nat.le_trans (items_le false xs) hlx
      have k1 := items_ok (ours := true) hok
      have k2 := items_ok (ours := false) hok
      generalize (sumsOf true l r xs).1 = A1 at o1 o2
      generalize (sumsOf true l r xs).2 = B1 at o1 o2
      generalize (sumsOf false l r xs).1 = B2 at o3 o4
      generalize (sumsOf false l r xs).2 = A2 at o3 o4
      generalize itemsOf true xs = I1 at o1 o2 i1 k1
      generalize itemsOf false xs = I2 at o3 o4 i2 k2
      clear m1 m2 t1 t2
      have O1 := hide o1
      have O2 := hide o2
      have O3 := hide o3
      have O4 := hide o4
      have K1 := hide k1
      have K2 := hide k2
      clear o1 o2 o3 o4 k1 k2
      refine wp_dag (by kernel_rfl) [[], [], [(0, 41), (1, 42)], [(2, 43)], [], [], [(4, 45), (5, 46)], [(6, 47)], [(3, 44), (7, 48)], [(8, 49)], [(9, 50)], [(9, 50)], [(10, 51), (11, 52), (9, 50)], [(12, 53), (9, 50)], [(9, 50)], [(9, 50)], [(14, 55), (15, 56), (9, 50)], [(16, 57), (9, 50)], [(13, 54), (17, 58), (9, 50)], [(9, 50), (18, 59)], [(19, 60)]] 61 (by rfl) (by kernel_rfl)
        [(0, 41), (1, 42), (2, 43), (3, 44), (4, 45), (5, 46), (6, 47), (7, 48), (8, 49), (9, 50), (10, 51), (11, 52), (12, 53), (13, 54), (14, 55), (15, 56), (16, 57), (17, 58), (18, 59), (19, 60), (20, 4)] (by kernel_rfl) (fun w' => New w3 w') New
        (mirPhi l r A1 B1 A2 B2 (.slice va xs.length vc) (.slice a xs.length c) I1 I2) ((Upd.refl _ _).drew) (fun w => Upd.refl _ w) (fun i v w w' _ _ n h => mirPhi_new i v n h) ?_ ?_
      · have q0 : ∀ {w' : World}, New w3 w' → w'.cell? ⟨w.heap.size, 0, none⟩ = some (.int .u64 l) := fun n => n.cell (blk_cell b4 0) (fun h => h)
        have q1 : ∀ {w' : World}, New w3 w' → w'.cell? ⟨w.heap.size, 1, none⟩ = some (.int .u64 r) := fun n => n.cell (blk_cell b4 1) (fun h => h)
        have p0 : ∀ {w' : World}, New w3 w' → w'.cell? ⟨wr.heap.size, 0, none⟩ = some (.int .u64 r) := fun n => n.cell (blk_cell d3 0) (fun h => h)
        have p1 : ∀ {w' : World}, New w3 w' → w'.cell? ⟨wr.heap.size, 1, none⟩ = some (.int .u64 l) := fun n => n.cell (blk_cell d3 1) (fun h => h)
        refine DagSteps.plain rfl ?_ (DagSteps.plain rfl ?_ (DagSteps.plain rfl ?_ (DagSteps.plain rfl ?_ (DagSteps.plain rfl ?_ (DagSteps.plain rfl ?_ (DagSteps.plain rfl ?_ (DagSteps.plain rfl ?_ (DagSteps.plain rfl ?_ (DagSteps.plain rfl ?_ (DagSteps.guarded rfl (fun _ _ h => h) ?_ (DagSteps.guarded rfl (fun _ _ h => h) ?_ (DagSteps.guarded rfl (fun _ _ h => h) ?_ (DagSteps.guarded rfl (fun _ _ h => h) ?_ (DagSteps.guarded rfl (fun _ _ h => h) ?_ (DagSteps.guarded rfl (fun _ _ h => h) ?_ (DagSteps.guarded rfl (fun _ _ h => h) ?_ (DagSteps.guarded rfl (fun _ _ h => h) ?_ (DagSteps.guarded rfl (fun _ _ h => h) ?_ (DagSteps.plain rfl ?_ (DagSteps.plain rfl ?_ (DagSteps.nil)))))))))))))))))))))
        · intro vals w' hS _
          have q0 := q0 hS
          have q1 := q1 hS
          unfold opRun; simp only [putL]; go_simp
          exact ⟨Upd.refl _ _, rfl⟩
        · intro vals w' hS _
          unfold opRun; simp only [putL]; go_simp
          exact ⟨Upd.refl _ _, rfl⟩
        · rintro vals w' hS ⟨h0, h1, -⟩
          replace h0 : vals 0 = _ := h0
          replace h1 : vals 1 = _ := h1
          unfold opRun; simp only [putL]; go_simp
          refine (unhide O1 w' hS).mono ?_
          rintro e w2 ⟨v', rfl, n, h⟩
          exact ⟨_, rfl, n, hS.trans n, h⟩
        · rintro vals w' hS ⟨h0, -⟩
          unfold opRun; simp only [putL]; go_simp
          refine (its_vw h0 (by assumption)).mono ?_
          rintro e w2 ⟨v', rfl, n, h⟩
          exact ⟨_, rfl, n, hS.trans n, h⟩
        · intro vals w' hS _
          have q0 := p0 hS
          have q1 := p1 hS
          unfold opRun; simp only [putL]; go_simp
          exact ⟨Upd.refl _ _, rfl⟩
        · intro vals w' hS _
          unfold opRun; simp only [putL]; go_simp
          exact ⟨Upd.refl _ _, rfl⟩
        · rintro vals w' hS ⟨h0, h1, -⟩
          replace h0 : vals 4 = _ := h0
          replace h1 : vals 5 = _ := h1
          unfold opRun; simp only [putL]; go_simp
          refine (unhide O2 w' hS).mono ?_
          rintro e w2 ⟨v', rfl, n, h⟩
          exact ⟨_, rfl, n, hS.trans n, h⟩
        · rintro vals w' hS ⟨h0, -⟩
          unfold opRun; simp only [putL]; go_simp
          refine (its_vw h0 (by assumption)).mono ?_
          rintro e w2 ⟨v', rfl, n, h⟩
          exact ⟨_, rfl, n, hS.trans n, h⟩
        · rintro vals w' hS ⟨h0, h1, -⟩
          unfold opRun; simp only [putL]; go_simp
          refine (same_vr h0 h1 (by assumption) (unhide K1)).mono ?_
          rintro e w2 ⟨v', rfl, n, h⟩
          exact ⟨_, rfl, n, hS.trans n, h⟩
        · rintro vals w' hS ⟨h8, -⟩
          replace h8 : vals 8 = _ := h8
          unfold opRun; simp only [putL]; go_simp
          exact ⟨Upd.refl _ _, rfl⟩
        · intro vals w' hS _
          have q0 := q0 hS
          have q1 := q1 hS
          unfold opRun; simp only [putL]; go_simp
          exact ⟨Upd.refl _ _, rfl⟩
        · intro vals w' hS _
          unfold opRun; simp only [putL]; go_simp
          exact ⟨Upd.refl _ _, rfl⟩
        · rintro vals w' hS ⟨h0, h1, -⟩
          replace h0 : vals 10 = _ := h0
          replace h1 : vals 11 = _ := h1
          unfold opRun; simp only [putL]; go_simp
          refine (unhide O3 w' hS).mono ?_
          rintro e w2 ⟨v', rfl, n, h⟩
          exact ⟨_, rfl, n, hS.trans n, h⟩
        · rintro vals w' hS ⟨h0, -⟩
          unfold opRun; simp only [putL]; go_simp
          refine (its_vw h0 (by assumption)).mono ?_
          rintro e w2 ⟨v', rfl, n, h⟩
          exact ⟨_, rfl, n, hS.trans n, h⟩
        · intro vals w' hS _
          have q0 := p0 hS
          have q1 := p1 hS
          unfold opRun; simp only [putL]; go_simp
          exact ⟨Upd.refl _ _, rfl⟩
        · intro vals w' hS _
          unfold opRun; simp only [putL]; go_simp
          exact ⟨Upd.refl _ _, rfl⟩
        · rintro vals w' hS ⟨h0, h1, -⟩
          replace h0 : vals 14 = _ := h0
          replace h1 : vals 15 = _ := h1
          unfold opRun; simp only [putL]; go_simp
          refine (unhide O4 w' hS).mono ?_
          rintro e w2 ⟨v', rfl, n, h⟩
          exact ⟨_, rfl, n, hS.trans n, h⟩
        · rintro vals w' hS ⟨h0, -⟩
          unfold opRun; simp only [putL]; go_simp
          refine (its_vw h0 (by assumption)).mono ?_
          rintro e w2 ⟨v', rfl, n, h⟩
          exact ⟨_, rfl, n, hS.trans n, h⟩
        · rintro vals w' hS ⟨h0, h1, -⟩
          unfold opRun; simp only [putL]; go_simp
          refine (same_vr h0 h1 (by assumption) (unhide K2)).mono ?_
          rintro e w2 ⟨v', rfl, n, h⟩
          exact ⟨_, rfl, n, hS.trans n, h⟩
        · rintro vals w' hS ⟨h9, h18, -⟩
          replace h9 : vals 9 = _ := h9
          replace h18 : vals 18 = _ := h18
          unfold opRun; simp only [putL]; go_simp
          exact ⟨Upd.refl _ _, rfl⟩
        · rintro vals w' hS ⟨h19, -⟩
          replace h19 : vals 19 = _ := h19
          unfold opRun; simp only [putL]; go_simp
          exact ⟨Upd.refl _ _, rfl⟩
      · intro vals w' hS hP
        have h20 : vals 20 = .bool true := hP 20 (by decide)
        clear hP
        have nn := nw.trans (n3.trans hS)
        simp only [putL, h20]
        go_simp
        go_wp2_with fail
        go_ret
        exact ⟨rfl, nn⟩

end Go.Proofs.YtbcjhpeighlncaaDoor
