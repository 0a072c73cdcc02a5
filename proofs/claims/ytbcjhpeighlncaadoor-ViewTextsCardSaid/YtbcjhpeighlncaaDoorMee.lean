/-
  Other views have other texts (plain).
-/
import Derived.Test.YtbcjhpeighlncaaDoorTx1
import Derived.Test.YtbcjhpeighlncaaDoorRf4
import Derived.Outline
namespace Go.Proofs.YtbcjhpeighlncaaDoor
set_option linter.unusedVariables false
set_option linter.unusedSimpArgs false
open Go.RowKit Go.Sort

theorem app_inj {a b c d : ByteArray} (hs : a.size = c.size) (h : a ++ b = c ++ d) : a = c ∧ b = d := by
  have h1 : (a ++ b).data = (c ++ d).data := congrArg ByteArray.data h
  rw [ByteArray.data_append, ByteArray.data_append] at h1
  have h2 := congrArg Array.toList h1
  rw [Array.toList_append, Array.toList_append] at h2
  have h3 := List.append_inj h2 (by have : a.data.toList.length = a.size := Array.length_toList; have : c.data.toList.length = c.size := Array.length_toList; omega)
  exact ⟨ByteArray.ext (Array.ext' h3.1), ByteArray.ext (Array.ext' h3.2)⟩
theorem app_inj_right {a b c d : ByteArray} (hs : b.size = d.size) (h : a ++ b = c ++ d) : a = c ∧ b = d := by
  refine app_inj ?_ h
  have := congrArg ByteArray.size h
  rw [ByteArray.size_append, ByteArray.size_append] at this
  omega
theorem strOf_inj : ∀ {xs ys : List Int}, (∀ x ∈ xs, 0 ≤ x ∧ x ≤ 255) → (∀ y ∈ ys, 0 ≤ y ∧ y ≤ 255) → strOfNums xs = strOfNums ys → xs = ys := by
  intro xs ys hx hy h
  have h1 := congrArg (fun s => s.data.toList) h
  simp only [strOfNums_data] at h1
  have key : ∀ (l : List Int), (∀ x ∈ l, 0 ≤ x ∧ x ≤ 255) → (l.map fun n => UInt8.ofNat n.toNat).map (fun c => (c.toNat : Int)) = l := by
    intro l hl
    rw [List.map_map]
    conv => rhs; rw [← List.map_id l]
    refine List.map_congr_left fun x hx => ?_
    have := hl x hx
    simp [UInt8.toNat_ofNat]
    omega
  rw [← key xs hx, ← key ys hy, h1]
theorem numI_bd (n width : Nat) : ∀ x ∈ numI n width, 0 ≤ x ∧ x ≤ 255 := by
  intro x hx
  unfold numI at hx
  obtain ⟨k, _, rfl⟩ := List.mem_map.1 hx
  omega
/-- A number back out of its bytes. -/
theorem numI_back (n : Nat) : ∀ width, (numI n width).foldl (fun a b => a * 256 + b) 0 = (n : Int) % 2 ^ (8 * width) := by
  have key : ∀ width m, m ≤ width → ((List.range m).map fun k => (n : Int) / 2 ^ (8 * (width - 1 - k)) % 256).foldl (fun a b => a * 256 + b) 0 = (n : Int) / 2 ^ (8 * (width - m)) % 2 ^ (8 * m) := by
    intro width m
    induction m with
    | zero => intro _; simp [Int.emod_one]
    | succ m ih =>
      intro hm
      rw [List.range_succ, List.map_append, List.foldl_append, ih (by omega)]
      simp only [List.map_cons, List.map_nil, List.foldl_cons, List.foldl_nil]
      have e1 : (n : Int) / 2 ^ (8 * (width - m)) = (n : Int) / 2 ^ (8 * (width - (m + 1))) / 256 := by
        rw [Int.ediv_ediv_of_nonneg (Int.pow_nonneg (by decide))]
        congr 1
        rw [show 8 * (width - m) = 8 * (width - (m + 1)) + 8 by omega, Int.pow_add]
        rfl
      rw [e1, show width - 1 - m = width - (m + 1) by omega, show 8 * (m + 1) = 8 * m + 8 by omega, Int.pow_add]
      generalize (n : Int) / 2 ^ (8 * (width - (m + 1))) = y
      have h8 : (2 : Int) ^ 8 = 256 := by decide
      rw [h8]
      have hp : (0 : Int) < 2 ^ (8 * m) := Int.pow_pos (by decide)
      generalize (2 : Int) ^ (8 * m) = p at hp
      have a := Int.emod_add_mul_ediv (y / 256) p
      have b := Int.emod_add_mul_ediv y 256
      have c0 := Int.emod_nonneg (y / 256) (show p ≠ 0 by omega)
      have c1 := Int.emod_lt_of_pos (y / 256) hp
      have d0 := Int.emod_nonneg y (show (256 : Int) ≠ 0 by decide)
      have d1 := Int.emod_lt_of_pos y (show (0 : Int) < 256 by decide)
      have e : y = (y / 256 % p * 256 + y % 256) + (p * 256) * (y / 256 / p) := by
        have h1 : p * 256 * (y / 256 / p) = 256 * (p * (y / 256 / p)) := by rw [Int.mul_comm p 256, Int.mul_assoc]
        rw [h1]
        omega
      rw [eq_comm]
      conv => lhs; rw [e]
      rw [Int.add_mul_emod_self_left]
      exact Int.emod_eq_of_lt (by omega) (by omega)
  intro width
  have := key width width (Nat.le_refl _)
  rw [Nat.sub_self, Nat.mul_zero] at this
  unfold numI
  simpa using this
theorem numS_inj {a b width : Nat} (ha : a < 2 ^ (8 * width)) (hb : b < 2 ^ (8 * width)) (h : numS a width = numS b width) : a = b := by
  have h1 := strOf_inj (numI_bd a width) (numI_bd b width) h
  have h2 := numI_back a width
  rw [h1, numI_back b width, Int.emod_eq_of_lt (by omega) (by exact_mod_cast hb), Int.emod_eq_of_lt (by omega) (by exact_mod_cast ha)] at h2
  omega
theorem u64_inj {x y : Int} (hx : 0 ≤ x ∧ x ≤ 18446744073709551615) (hy : 0 ≤ y ∧ y ≤ 18446744073709551615) (h : numS x.toNat 8 = numS y.toNat 8) : x = y := by
  have hp : (2 : Nat) ^ (8 * 8) = 18446744073709551616 := by decide
  have := numS_inj (width := 8) (by rw [hp]; omega) (by rw [hp]; omega) h
  omega
theorem itStep_inj {s t : ByteArray} {x y : Item} (hx : HtlcOk x.h) (hy : HtlcOk y.h) (h : itStep s x = itStep t y) : s = t ∧ x = y := by
  unfold itStep at h
  obtain ⟨h, e5⟩ := app_inj_right (by simp only [numS_size]) h
  obtain ⟨h, e4⟩ := app_inj_right (by rw [strOfNums_size, strOfNums_size]; simp) h
  obtain ⟨h, e3⟩ := app_inj_right (by simp only [numS_size]) h
  obtain ⟨h, e2⟩ := app_inj_right (by simp only [numS_size]) h
  obtain ⟨h, e1⟩ := app_inj_right (by simp only [numS_size]) h
  refine ⟨h, ?_⟩
  have k1 : x.offered = y.offered := by
    have hp : (2 : Nat) ^ (8 * 1) = 256 := by decide
    have := numS_inj (width := 1) (by rw [hp]; split <;> decide) (by rw [hp]; split <;> decide) e1
    cases hxo : x.offered <;> cases hyo : y.offered <;> simp_all
  have k2 := u64_inj hx.id hy.id e2
  have k3 := u64_inj hx.amount hy.amount e3
  have k4 := strOf_inj hx.hash hy.hash e4
  have k5 := u64_inj (x := x.h.expiry % 18446744073709551616) (y := y.h.expiry % 18446744073709551616) (by omega) (by omega) e5
  have k6 : x.h.expiry = y.h.expiry := by have := hx.expiry; have := hy.expiry; omega
  obtain ⟨xo, xi, xa, xh, xe⟩ := x
  obtain ⟨yo, yi, ya, yh, ye⟩ := y
  simp only at k1 k2 k3 k4 k6
  subst k1 k2 k3 k6
  have : xh = yh := Vector.ext fun i hi => by
    have := congrArg (fun l => l[i]?) k4
    simpa [hi] using this
  subst this
  rfl
theorem fold_inj : ∀ (X Y : List Item) (s t : ByteArray), X.length = Y.length → (∀ x ∈ X, HtlcOk x.h) → (∀ y ∈ Y, HtlcOk y.h) → X.foldl itStep s = Y.foldl itStep t → s = t ∧ X = Y := by
  intro X
  induction X with
  | nil =>
    intro Y s t hl _ _ h
    obtain rfl : Y = [] := List.length_eq_zero_iff.1 hl.symm
    exact ⟨h, rfl⟩
  | cons x X ih =>
    intro Y s t hl hx hy h
    cases Y with
    | nil => simp at hl
    | cons y Y =>
      rw [List.foldl_cons, List.foldl_cons] at h
      obtain ⟨h1, rfl⟩ := ih Y _ _ (by simpa using hl) (fun z hz => hx z (List.mem_cons_of_mem _ hz)) (fun z hz => hy z (List.mem_cons_of_mem _ hz)) h
      obtain ⟨h2, rfl⟩ := itStep_inj (hx x (List.mem_cons_self ..)) (hy y (List.mem_cons_self ..)) h1
      exact ⟨h2, rfl⟩
theorem text_inj {ch n A B C D : Int} {X Y : List Item} (hA : 0 ≤ A ∧ A ≤ 18446744073709551615) (hB : 0 ≤ B ∧ B ≤ 18446744073709551615) (hC : 0 ≤ C ∧ C ≤ 18446744073709551615) (hD : 0 ≤ D ∧ D ≤ 18446744073709551615) (hX : ∀ x ∈ X, HtlcOk x.h) (hY : ∀ y ∈ Y, HtlcOk y.h)
    (h : textS ch n A B X = textS ch n C D Y) : A = C ∧ B = D ∧ X = Y := by
  have hl : X.length = Y.length := by
    have := congrArg ByteArray.size h
    unfold textS at this
    rw [fold_size, fold_size, headS_size, headS_size] at this
    omega
  unfold textS at h
  obtain ⟨h1, rfl⟩ := fold_inj X Y _ _ hl hX hY h
  unfold headS at h1
  obtain ⟨h1, -⟩ := app_inj_right (by simp only [numS_size]) h1
  obtain ⟨h1, e2⟩ := app_inj_right (by simp only [numS_size]) h1
  obtain ⟨h1, e1⟩ := app_inj_right (by simp only [numS_size]) h1
  exact ⟨u64_inj hA hC e1, u64_inj hB hD e2, rfl⟩

end Go.Proofs.YtbcjhpeighlncaaDoor

/-
  The reference's Same, of whatever two views.
-/
namespace Go.Proofs.YtbcjhpeighlncaaDoor
set_option linter.unusedVariables false
set_option linter.unusedSimpArgs false
open Go.RowKit Go.Sort
attribute [local go_sem ↓ high] ld_item_foldR ne_item_foldR
attribute [local go_sem] ld_itemR rowN_drew

theorem itemCells_inj {x y : Item} (h : itemCells x = itemCells y) : x = y := by
  obtain ⟨xo, xi, xa, xh, xe⟩ := x
  obtain ⟨yo, yi, ya, yh, ye⟩ := y
  unfold itemCells htlcCells at h
  simp only [List.cons.injEq, Value.bool.injEq, Value.int.injEq, true_and] at h
  obtain ⟨rfl, rfl, rfl, h⟩ := h
  obtain ⟨h1, h2⟩ := List.append_inj h (by simp)
  simp only [List.cons.injEq, Value.int.injEq, true_and, and_true] at h2
  subst h2
  have h3 : xh.toList = yh.toList := by
    have := congrArg (fun l => l.map fun v => match v with | Value.int _ n => n | _ => 0) h1
    simpa [List.map_map, Function.comp_def] using this
  have : xh = yh := Vector.ext fun i hi => by
    have := congrArg (fun l => l[i]?) h3
    simpa [hi] using this
  subst this
  rfl
def sameB (o1 t1 : Int) (X : List Item) (o2 t2 : Int) (Y : List Item) (r : Bool) : Prop := r = true ↔ o1 = o2 ∧ t1 = t2 ∧ X = Y

set_option maxRecDepth 100000 in
set_option maxHeartbeats 4000000 in
theorem same_any (o1 t1 o2 t2 : Int) (u1 u2 : Value) (X Y : List Item) (hl : X.length ≤ 1048576) (hl2 : Y.length ≤ 1048576) (hok : ∀ x ∈ X, HtlcOk x.h) (hok2 : ∀ x ∈ Y, HtlcOk x.h) (w : World) (h1 : ItemsR w u1 X) (h2 : ItemsR w u2 Y) :
    ∃ r, sameB o1 t1 X o2 t2 Y r ∧ Calls Tryd.prog 10 #[.agg #[.int .u64 o1, .int .u64 t1, u1], .agg #[.int .u64 o2, .int .u64 t2, u2]] w (Makes (.bool r) w) := by
  by_cases hall : o1 = o2 ∧ t1 = t2 ∧ X = Y
  · obtain ⟨rfl, rfl, rfl⟩ := hall
    exact ⟨true, by simp [sameB], same_true o1 t1 u1 u2 X hl hok w h1 h2⟩
  refine ⟨false, by simpa [sameB] using hall, ?_⟩
  obtain ⟨a1, c1, rfl⟩ := h1.slice
  obtain ⟨a2, c2, rfl⟩ := h2.slice
  have n0 : New w ((w.alloc (.cells #[.int .u64 o1, .int .u64 t1, .slice a1 X.length c1] 36)).alloc (.cells #[.int .u64 o2, .int .u64 t2, .slice a2 Y.length c2] 36)) := ((Upd.refl _ _).alloc _).alloc _
  have b1 : ((w.alloc (.cells #[.int .u64 o1, .int .u64 t1, .slice a1 X.length c1] 36)).alloc (.cells #[.int .u64 o2, .int .u64 t2, .slice a2 Y.length c2] 36)).heap[w.heap.size]? = some (.cells #[.int .u64 o1, .int .u64 t1, .slice a1 X.length c1] 36 (0, 0)) := blk_alloc_old (blk_alloc _ _) _
  have b2 : ((w.alloc (.cells #[.int .u64 o1, .int .u64 t1, .slice a1 X.length c1] 36)).alloc (.cells #[.int .u64 o2, .int .u64 t2, .slice a2 Y.length c2] 36)).heap[w.heap.size + 1]? = some (.cells #[.int .u64 o2, .int .u64 t2, .slice a2 Y.length c2] 36 (0, 0)) := by
    have := blk_alloc (w.alloc (.cells #[.int .u64 o1, .int .u64 t1, .slice a1 X.length c1] 36)) (.cells #[.int .u64 o2, .int .u64 t2, .slice a2 Y.length c2] 36)
    rwa [World.size_alloc] at this
  have hx1 : (X.length : Int) ≤ 1048576 := by omega
  have hx2 : (Y.length : Int) ≤ 1048576 := by omega
  go_enter Tryd.func10, Tryd.ntmps10
  go_upto_region 1 with fail
  generalize ((w.alloc (.cells #[.int .u64 o1, .int .u64 t1, .slice a1 X.length c1] 36)).alloc (.cells #[.int .u64 o2, .int .u64 t2, .slice a2 Y.length c2] 36)) = wa at n0 b1 b2 ⊢
  have p0 := blk_cell b1 0
  have p1 := blk_cell b1 1
  have p2 := blk_cell b1 2
  have q0 := blk_cell b2 0
  have q1 := blk_cell b2 1
  have q2 := blk_cell b2 2
  simp at p0 p1 p2 q0 q1 q2
  have H1 := hide (h1.new n0)
  have H2 := hide (h2.new n0)
  have HALL := hide hall
  clear h1 h2 hall
  obtain ⟨wo, rfl⟩ : ∃ wo : World, wo = wa := ⟨_, rfl⟩
  by_cases hA : o1 = o2
  · by_cases hB : t1 = t2
    · by_cases hL : X.length = Y.length
      · have e1 : (o1 != o2) = false := by simp [hA]
        have e2 : (t1 != t2) = false := by simp [hB]
        have e3 : ((X.length : Int) != (Y.length : Int)) = false := by simp [hL]
        have e3' : (X.length != Y.length) = false := by simp [hL]
        subst hA hB
        have HL := hide hL
        rw [hL] at p2 hx1
        clear e1 e2 e3 e3' hL hl
        go_wp2_with fail
        go_loopw [5] (fun iv wr => ∃ (n : Nat), iv = .int .i64 (n : Int) ∧ n ≤ Y.length ∧ Hid (∀ i, i < n → X[i]? = Y[i]?) ∧ Q wo wr) (fun iv _ => Y.length - (intOf iv).toNat)
        case atStart => exact ⟨0, rfl, Nat.zero_le _, hide (fun i hi => by omega), Q.refl _⟩
        case round =>
          obtain ⟨n, rfl, hn, HE, qr⟩ := hrel
          have p2' := qr.cell p2
          have q2' := qr.cell q2
          by_cases hlt : n < Y.length
          · obtain ⟨x, hx⟩ : ∃ x, X[n]? = some x := ⟨_, List.getElem?_eq_getElem (by rw [unhide HL]; exact hlt)⟩
            obtain ⟨y, hy⟩ : ∃ y, Y[n]? = some y := ⟨_, List.getElem?_eq_getElem hlt⟩
            obtain ⟨g1, f1, rfl, _, r1⟩ := ((unhide H1).new (qr.upd _)).at hx
            obtain ⟨g2, f2, rfl, _, r2⟩ := ((unhide H2).new (qr.upd _)).at hy
            have hnn : (n : Int) < (Y.length : Int) := by omega
            have hxo := hok x (List.mem_of_getElem? hx)
            have hyo := hok2 y (List.mem_of_getElem? hy)
            by_cases hxy : x = y
            · subst hxy
              have hne := ne_itemR hxo hxo true (by simp)
              simp only [Bool.not_true] at hne
              have HE2 := hide (show ∀ i, i < n + 1 → X[i]? = Y[i]? by
                intro i hi
                by_cases h : i = n
                · subst h; rw [hx, hy]
                · exact unhide HE i (by omega))
              clear hx hy hxo hyo
              generalize itemCells x = C at r1 r2 hne
              go_wp2_with fail
              go_region_held3 (fun w' => w'.cell? ⟨w.heap.size, 2, none⟩ = some (.slice (some ⟨g1, f1, none⟩) Y.length c1) ∧ w'.cell? ⟨w.heap.size + 1, 2, none⟩ = some (.slice (some ⟨g2, f2, none⟩) Y.length c2) ∧ rowN w' g1 (f1 + n * 36) 36 = some C.toArray ∧ rowN w' g2 (f2 + n * 36) 36 = some C.toArray)
                (exact ⟨p2', q2', r1, r2⟩) (fail)
              go_wp2
              go_roundw
              case rel => exact ⟨n + 1, by go_num, by omega, HE2, by first | exact qr.drewN' 1 | exact qr.trans ⟨1, rfl⟩⟩
              case measure => simp [intOf]; omega
            · have hne := ne_itemR hxo hyo false (by constructor; intro h; cases h; intro h; exact absurd (itemCells_inj h) hxy)
              simp only [Bool.not_false] at hne
              clear hx hy hxo hyo hxy
              generalize itemCells x = C at r1 hne
              generalize itemCells y = D at r2 hne
              go_wp2_with fail
              go_region_held3 (fun w' => w'.cell? ⟨w.heap.size, 2, none⟩ = some (.slice (some ⟨g1, f1, none⟩) Y.length c1) ∧ w'.cell? ⟨w.heap.size + 1, 2, none⟩ = some (.slice (some ⟨g2, f2, none⟩) Y.length c2) ∧ rowN w' g1 (f1 + n * 36) 36 = some C.toArray ∧ rowN w' g2 (f2 + n * 36) 36 = some D.toArray)
                (exact ⟨p2', q2', r1, r2⟩) (fail)
              go_wp2
              first | go_ret2 | go_ret
              exact ⟨rfl, n0.trans (by first | exact (qr.drewN' 1).upd _ | exact (qr.trans ⟨1, rfl⟩).upd _)⟩
          · exfalso
            have hne : n = Y.length := by omega
            refine unhide HALL ⟨trivial, trivial, List.ext_getElem? fun i => ?_⟩
            by_cases h : i < n
            · exact unhide HE i h
            · rw [List.getElem?_eq_none (by rw [unhide HL]; omega), List.getElem?_eq_none (by omega)]
      · have e1 : (o1 != o2) = false := by simp [hA]
        have e2 : (t1 != t2) = false := by simp [hB]
        have e3 : ((X.length : Int) != (Y.length : Int)) = true := by rw [bne_iff_ne]; omega
        have e3' : (X.length != Y.length) = true := by simp [hL]
        clear hA hB hL
        go_wp2
        first | go_ret2 | go_ret
        exact ⟨rfl, n0⟩
    · have e1 : (o1 != o2) = false := by simp [hA]
      have e2 : (t1 != t2) = true := by simp [hB]
      clear hA hB
      go_wp2
      first | go_ret2 | go_ret
      exact ⟨rfl, n0⟩
  · have e1 : (o1 != o2) = true := by simp [hA]
    clear hA
    go_wp2
    first | go_ret2 | go_ret
    exact ⟨rfl, n0⟩

end Go.Proofs.YtbcjhpeighlncaaDoor
