/-
  symMerge: a first range of one.
-/
import Derived.Test.YtjpmomdechibmaaGreatDoorSo3
namespace Go.Proofs.YtjpmomdechibmaaGreatDoor
set_option linter.unusedVariables false
set_option linter.unusedSimpArgs false
open Go.RowKit Go.Sort

attribute [local go_sem ↓ high] ld_item_fold st_item_fold
attribute [local go_sem] ld_item st_item

/-- The middle of two, as the code takes it. -/
theorem mid_of (i j : Nat) (h : i + j < 9223372036854775808) : ((i : Int) + (j : Int)) / 2 = (((i + j) / 2 : Nat) : Int) := by omega
theorem get!_eqP (xs : List (Item × Nat)) (i : Nat) (h : i < xs.length) : xs[i]? = some xs[i]! := by
  rw [List.getElem!_eq_getElem?_getD, List.getElem?_eq_getElem h]; rfl
theorem row_at {w : World} {g off : Nat} {P S : List Item} {B : List (Item × Nat)} {k : Nat} (n : Nat) (h : Held w g off (P ++ (its B ++ S))) (h1 : k = P.length + n) (h2 : n < B.length) :
    rowN w g (off + k * 36) 36 = some (itemCells (B[n]!).1).toArray := by
  have := h.row (i := k) (by simp only [List.length_append, List.length_map]; omega)
  rw [this]
  congr 3
  rw [List.getElem!_eq_getElem?_getD, List.getElem?_append_right (by omega), List.getElem?_append_left (by rw [List.length_map]; omega), List.getElem?_map, show k - P.length = n by omega, get!_eqP B n h2]
  rfl

set_option maxRecDepth 100000 in
set_option maxHeartbeats 4000000 in
theorem merge_left (g off cap : Nat) (P S : List Item) (x : Item × Nat) (B : List (Item × Nat)) (hB : Srt B) (hl : Low [x] B) (N : Nat) (hN : P.length + (1 + (B.length + S.length)) = N) (hm : N ≤ 2305843009213693952) (a m b : Nat) (ha : a = P.length) (hmm : m = a + 1) (hb : b = m + B.length)
    (w : World) (h : Held w g off (P ++ (x.1 :: (its B ++ S)))) :
    Calls Tryz.prog 113 #[.slice (some ⟨g, off, none⟩) N cap, .int .i64 (a : Int), .int .i64 (m : Int), .int .i64 (b : Int), fOrd] w fun e w' => e = .returned (.tuple #[]) ∧ Upd (· = g) w w' ∧ ∃ M, M.Perm (x :: B) ∧ Srt M ∧ Held w' g off (P ++ (its M ++ S)) := by
  have b1 : b ≤ 2305843009213693952 := by omega
  have e1 : IntKind.i64.wrap ((m : Int) - (a : Int)) = 1 := by rw [IntWalk.i64_in _ (by omega)]; omega
  have HA := hide ha
  have HM := hide hmm
  have HB := hide hb
  have HN := hide hN
  have m1 : m ≤ b := by omega
  clear ha hmm hb hN
  go_enter Tryz.func113, Tryz.ntmps113
  go_wp2_with fail
  go_loopw [10, 11] (fun iv jv wr => ∃ i j : Nat, iv = .int .i64 (i : Int) ∧ jv = .int .i64 (j : Int) ∧ m ≤ i ∧ i ≤ j ∧ j ≤ b ∧ Hid (m < i → kl (B[i - 1 - m]!).1 x.1) ∧ Hid (j < b → ¬ kl (B[j - m]!).1 x.1) ∧ G w wr) (fun iv jv _ => (intOf jv - intOf iv).toNat)
  case atStart => exact ⟨m, b, rfl, rfl, Nat.le_refl _, m1, Nat.le_refl _, hide (fun h => absurd h (Nat.lt_irrefl _)), hide (fun h => absurd h (Nat.lt_irrefl _)), G.refl _⟩
  case round =>
    obtain ⟨i, j, rfl, rfl, mi, ij, jb, HI, HJ, gw⟩ := hrel
    by_cases hlt : i < j
    · obtain ⟨q, eq, q1, q2⟩ : ∃ q : Nat, ((i : Int) + (j : Int)) / 2 = (q : Int) ∧ i ≤ q ∧ q < j := ⟨(i + j) / 2, by omega, by omega, by omega⟩
      have eA := unhide HA
      have eM := unhide HM
      have eB := unhide HB
      have eN := unhide HN
      have hk := h.g gw
      have r1 : rowN wr.drew g (off + q * 36) 36 = some (itemCells (B[q - m]!).1).toArray := row_at (P := P ++ [x.1]) (B := B) (S := S) (q - m) (by simpa [List.append_assoc] using hk.drew) (by simp; omega) (by omega)
      have r0 : rowN wr.drew g (off + a * 36) 36 = some (itemCells x.1).toArray := row_at (P := P) (B := [x]) (S := its B ++ S) 0 (by simpa using hk.drew) (by omega) (by simp)
      have hcm := cmp_items (B[q - m]!).1 x.1
      have hkl := cf_lt (B[q - m]!).1 x.1
      generalize hc : cf (B[q - m]!).1 x.1 = c at hcm hkl
      have HCM := hide hcm
      have HKL := hide hkl
      have jq : (q : Int) < (N : Int) := by omega
      have ja : (a : Int) < (N : Int) := by omega
      clear hcm hkl hc eA eM eB eN hk
      generalize itemCells x.1 = cx at *
      generalize itemCells (B[q - m]!).1 = cy at *
      by_cases hc0 : c < 0
      · go_wp2_with fail
        go_region_held3 (fun w' => rowN w' g (off + q * 36) 36 = some cy.toArray ∧ rowN w' g (off + a * 36) 36 = some cx.toArray ∧ G wr w')
          (first | exact ⟨r1, r0, (G.refl _).drew⟩ | (refine carry2 ?_ (by assumption); first | assumption | exact ⟨by assumption, by assumption, by assumption⟩))
          ((go_at_call 63; refine (unhide HCM _).mono ?_; rintro e w3 ⟨rfl, g3⟩))
        have hS := ‹rowN _ _ _ _ = some _ ∧ rowN _ _ _ _ = some _ ∧ _›
        have g4 := hS.2.2
        clear hS
        go_wp2
        go_roundw
        case rel => exact ⟨q + 1, j, by go_num, rfl, by omega, by omega, jb, hide (fun _ => (unhide HKL).1 hc0), HJ, gw.trans g4⟩
        case measure => simp [intOf]; omega
      · go_wp2_with fail
        go_region_held3 (fun w' => rowN w' g (off + q * 36) 36 = some cy.toArray ∧ rowN w' g (off + a * 36) 36 = some cx.toArray ∧ G wr w')
          (first | exact ⟨r1, r0, (G.refl _).drew⟩ | (refine carry2 ?_ (by assumption); first | assumption | exact ⟨by assumption, by assumption, by assumption⟩))
          ((go_at_call 63; refine (unhide HCM _).mono ?_; rintro e w3 ⟨rfl, g3⟩))
        have hS := ‹rowN _ _ _ _ = some _ ∧ rowN _ _ _ _ = some _ ∧ _›
        have g4 := hS.2.2
        clear hS
        go_wp2
        go_roundw
        case rel => exact ⟨i, q, rfl, rfl, mi, q1, by omega, HI, hide (fun _ hk => by have := (unhide HKL).2 hk; omega), gw.trans g4⟩
        case measure => simp [intOf]; omega
    · obtain rfl : i = j := by omega
      obtain ⟨B1, B2, hBB, hl1⟩ : ∃ B1 B2 : List (Item × Nat), B = B1 ++ B2 ∧ B1.length = i - m := ⟨B.take (i - m), B.drop (i - m), (List.take_append_drop _ _).symm, by rw [List.length_take]; have := unhide HB; omega⟩
      have hs : Srt (B1 ++ (x :: B2)) := by
        subst hBB
        refine ins_left hB hl (fun p hp => ?_) (fun q hq => ?_)
        · obtain ⟨ys, rfl⟩ := List.getLast?_eq_some_iff.1 hp
          rw [List.length_append, List.length_singleton] at hl1
          have := unhide HI (by omega)
          rwa [show i - 1 - m = ys.length by omega, List.append_assoc, List.getElem!_eq_getElem?_getD, List.getElem?_append_right (Nat.le_refl _), Nat.sub_self] at this
        · cases B2 with
          | nil => cases hq
          | cons z r =>
            simp only [List.head?_cons, Option.some.injEq] at hq; subst hq
            have hb2 := unhide HB
            rw [List.length_append, List.length_cons] at hb2
            have := unhide HJ (by omega)
            rwa [List.getElem!_eq_getElem?_getD, List.getElem?_append_right (by omega), hl1, Nat.sub_self] at this
      have HS := hide hs
      have HBB := hide hBB
      have HL1 := hide hl1
      have hk := h.g gw
      have eM := unhide HM
      have h1 : Held wr g off (P ++ (its [] ++ (x.1 :: (its B1 ++ (its B2 ++ S))))) := by rw [hBB] at hk; simpa [List.append_assoc] using hk
      obtain ⟨p, ip⟩ : ∃ p, i = p + 1 := ⟨i - 1, by omega⟩
      have ew : IntKind.i64.wrap ((i : Int) - 1) = (p : Int) := by rw [IntWalk.i64_in _ (by omega)]; omega
      have hpb : p < b := by omega
      have hap : a ≤ p := by omega
      have HIP := hide ip
      have hu := gw.new
      obtain ⟨wo, rfl⟩ : ∃ wo : World, wo = wr := ⟨_, rfl⟩
      clear hs hBB hl1 hk eM h ip
      go_wp2_with fail
      go_loopw [13] (fun kv wr => ∃ (k : Nat) (C1 C2 : List (Item × Nat)), kv = .int .i64 (k : Int) ∧ a ≤ k ∧ k ≤ p ∧ Hid (B1 = C1 ++ C2) ∧ Hid (C1.length = k - a) ∧ Upd (· = g) w wr ∧ Held wr g off (P ++ (its C1 ++ (x.1 :: (its C2 ++ (its B2 ++ S)))))) (fun kv _ => (p - intOf kv).toNat)
      case atStart => exact ⟨a, [], B1, rfl, Nat.le_refl _, hap, hide rfl, hide (by simp), (Upd.refl _ _).then hu (fun _ _ h => h.elim), h1⟩
      case round =>
        obtain ⟨k, C1, C2, rfl, ak, kp, HC, HC1, hu2, hh2⟩ := hrel
        have eC := unhide HC
        have eC1 := unhide HC1
        have eL := unhide HL1
        have eA := unhide HA
        have eM := unhide HM
        have eN := unhide HN
        have eP := unhide HIP
        have hlen := congrArg List.length eC
        have hlenB := congrArg List.length (unhide HBB)
        rw [List.length_append] at hlen hlenB
        by_cases hlt : k < p
        · obtain ⟨y, C3, rfl⟩ : ∃ y C3, C2 = y :: C3 := by
            cases C2 with
            | nil => simp at hlen; omega
            | cons y C3 => exact ⟨y, C3, rfl⟩
          have hh3 : Held wr g off ((P ++ its C1) ++ (x.1 :: (y.1 :: (its C3 ++ (its B2 ++ S))))) := by simpa [List.append_assoc] using hh2
          have hql : (P ++ its C1).length = k := by simp; omega
          obtain ⟨s1, s2, hfin⟩ := exch' hql hh3.drew
          obtain ⟨d1, d0⟩ := two_rows hql hh3.drew
          have HFIN := hide hfin
          have jk : (k : Int) < (N : Int) := by omega
          have jk1 : (k : Int) + 1 < (N : Int) := by omega
          have p0 : (0 : Int) ≤ (k : Int) + 1 := by omega
          have e0 : ((k : Int) + 1).toNat = k + 1 := by omega
          clear eC eC1 eL eA eM eN eP hlen hlenB hfin hh3 hh2 hql
          generalize itemCells x.1 = cx at *
          generalize itemCells y.1 = cy at *
          go_wp2_with fail
          go_region
          go_wp2
          go_roundw
          case rel =>
            refine ⟨k + 1, C1 ++ [y], C3, by go_num, by omega, by omega, hide (by rw [unhide HC]; simp), hide (by have := unhide HC1; simp; omega), (hu2.drew.setCells _ _).setCells _ _, ?_⟩
            have := unhide HFIN
            simpa [List.append_assoc] using this
          case measure => simp [intOf]; omega
        · obtain rfl : k = p := by omega
          have hC2 : C2 = [] := List.length_eq_zero_iff.1 (by omega)
          have hM : (B1 ++ (x :: B2)).Perm (x :: B) := by rw [unhide HBB]; exact List.perm_middle
          have HM' := hide hM
          have hfin : Held wr g off (P ++ (its (B1 ++ (x :: B2)) ++ S)) := by
            subst hC2
            rw [List.append_nil] at eC
            rw [eC]
            simpa [List.append_assoc] using hh2
          clear eC eC1 eL eA eM eN eP hlen hlenB hh2 hM hC2
          go_wp2
          refine bodyPost_ret (results_none rfl _ _ _) rfl ?_
          exact ⟨rfl, hu2, _, unhide HM', unhide HS, hfin⟩

end Go.Proofs.YtjpmomdechibmaaGreatDoor
