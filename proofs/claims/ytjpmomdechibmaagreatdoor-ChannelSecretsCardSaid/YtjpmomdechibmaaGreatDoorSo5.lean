/-
  symMerge: a second range of one.
-/
import Derived.Test.YtjpmomdechibmaaGreatDoorSo4
namespace Go.Proofs.YtjpmomdechibmaaGreatDoor
set_option linter.unusedVariables false
set_option linter.unusedSimpArgs false
open Go.RowKit Go.Sort

attribute [local go_sem ↓ high] ld_item_fold st_item_fold
attribute [local go_sem] ld_item st_item

set_option maxRecDepth 100000 in
set_option maxHeartbeats 4000000 in
theorem merge_right (g off cap : Nat) (P S : List Item) (A : List (Item × Nat)) (y : Item × Nat) (hA : Srt A) (hl : Low A [y]) (N : Nat) (hN : P.length + (A.length + (1 + S.length)) = N) (hm : N ≤ 2305843009213693952) (a m b : Nat) (ha : a = P.length) (hmm : m = a + A.length) (hb : b = m + 1) (hA1 : A.length ≠ 1)
    (w : World) (h : Held w g off (P ++ (its A ++ (y.1 :: S)))) :
    Calls Tryz.prog 113 #[.slice (some ⟨g, off, none⟩) N cap, .int .i64 (a : Int), .int .i64 (m : Int), .int .i64 (b : Int), fOrd] w fun e w' => e = .returned (.tuple #[]) ∧ Upd (· = g) w w' ∧ ∃ M, M.Perm (A ++ [y]) ∧ Srt M ∧ Held w' g off (P ++ (its M ++ S)) := by
  obtain ⟨n, hn⟩ : ∃ n : Nat, A.length = n := ⟨_, rfl⟩
  have m1 : m ≤ 2305843009213693952 := by omega
  have e1 : IntKind.i64.wrap ((b : Int) - (m : Int)) = 1 := by rw [IntWalk.i64_in _ (by omega)]; omega
  have e2 : IntKind.i64.wrap ((m : Int) - (a : Int)) = (n : Int) := by rw [IntWalk.i64_in _ (by omega)]; omega
  have e3 : ((n : Int) == 1) = false := by rw [beq_eq_false_iff_ne]; omega
  have HA := hide ha
  have HM := hide hmm
  have HB := hide hb
  have HN := hide hN
  have am : a ≤ m := by omega
  clear ha hmm hb hN hA1 hn
  go_enter Tryz.func113, Tryz.ntmps113
  go_wp2_with fail
  go_loopw [14, 15] (fun iv jv wr => ∃ i j : Nat, iv = .int .i64 (i : Int) ∧ jv = .int .i64 (j : Int) ∧ a ≤ i ∧ i ≤ j ∧ j ≤ m ∧ Hid (a < i → ¬ kl y.1 (A[i - 1 - a]!).1) ∧ Hid (j < m → kl y.1 (A[j - a]!).1) ∧ G w wr) (fun iv jv _ => (intOf jv - intOf iv).toNat)
  case atStart => exact ⟨a, m, rfl, rfl, Nat.le_refl _, am, Nat.le_refl _, hide (fun h => absurd h (Nat.lt_irrefl _)), hide (fun h => absurd h (Nat.lt_irrefl _)), G.refl _⟩
  case round =>
    obtain ⟨i, j, rfl, rfl, mi, ij, jb, HI, HJ, gw⟩ := hrel
    by_cases hlt : i < j
    · obtain ⟨q, eq, q1, q2⟩ : ∃ q : Nat, ((i : Int) + (j : Int)) / 2 = (q : Int) ∧ i ≤ q ∧ q < j := ⟨(i + j) / 2, by omega, by omega, by omega⟩
      have eA := unhide HA
      have eM := unhide HM
      have eB := unhide HB
      have eN := unhide HN
      have hk := h.g gw
      have r1 : rowN wr.drew g (off + q * 36) 36 = some (itemCells (A[q - a]!).1).toArray := row_at (P := P) (B := A) (S := y.1 :: S) (q - a) hk.drew (by omega) (by omega)
      have r0 : rowN wr.drew g (off + m * 36) 36 = some (itemCells y.1).toArray := row_at (P := P ++ its A) (B := [y]) (S := S) 0 (by simpa [List.append_assoc] using hk.drew) (by simp; omega) (by simp)
      have hcm := cmp_items y.1 (A[q - a]!).1
      have hkl := cf_lt y.1 (A[q - a]!).1
      generalize hc : cf y.1 (A[q - a]!).1 = c at hcm hkl
      have HCM := hide hcm
      have HKL := hide hkl
      have jq : (q : Int) < (N : Int) := by omega
      have ja : (m : Int) < (N : Int) := by omega
      clear hcm hkl hc eA eM eB eN hk
      generalize itemCells y.1 = cx at *
      generalize itemCells (A[q - a]!).1 = cy at *
      by_cases hc0 : c < 0
      · go_wp2_with fail
        go_region_held3 (fun w' => rowN w' g (off + m * 36) 36 = some cx.toArray ∧ rowN w' g (off + q * 36) 36 = some cy.toArray ∧ G wr w')
          (first | exact ⟨r0, r1, (G.refl _).drew⟩ | (refine carry2 ?_ (by assumption); first | assumption | exact ⟨by assumption, by assumption, by assumption⟩))
          ((go_at_call 63; refine (unhide HCM _).mono ?_; rintro e w3 ⟨rfl, g3⟩))
        have hS := ‹rowN _ _ _ _ = some _ ∧ rowN _ _ _ _ = some _ ∧ _›
        have g4 := hS.2.2
        clear hS
        go_wp2
        go_roundw
        case rel => exact ⟨i, q, rfl, rfl, mi, q1, by omega, HI, hide (fun _ => (unhide HKL).1 hc0), gw.trans g4⟩
        case measure => simp [intOf]; omega
      · have hd : decide (c < 0) = false := decide_eq_false hc0
        go_wp2_with fail
        go_region_held3 (fun w' => rowN w' g (off + m * 36) 36 = some cx.toArray ∧ rowN w' g (off + q * 36) 36 = some cy.toArray ∧ G wr w')
          (first | exact ⟨r0, r1, (G.refl _).drew⟩ | (refine carry2 ?_ (by assumption); first | assumption | exact ⟨by assumption, by assumption, by assumption⟩))
          ((go_at_call 63; refine (unhide HCM _).mono ?_; rintro e w3 ⟨rfl, g3⟩))
        have hS := ‹rowN _ _ _ _ = some _ ∧ rowN _ _ _ _ = some _ ∧ _›
        have g4 := hS.2.2
        clear hS
        go_wp2
        go_roundw
        case rel => exact ⟨q + 1, j, by go_num, rfl, by omega, by omega, jb, hide (fun _ hk => by have := (unhide HKL).2 hk; omega), HJ, gw.trans g4⟩
        case measure => simp [intOf]; omega
    · obtain rfl : i = j := by omega
      obtain ⟨A1, A2, hAA, hl1⟩ : ∃ A1 A2 : List (Item × Nat), A = A1 ++ A2 ∧ A1.length = i - a := ⟨A.take (i - a), A.drop (i - a), (List.take_append_drop _ _).symm, by rw [List.length_take]; have := unhide HM; omega⟩
      have hs : Srt (A1 ++ (y :: A2)) := by
        subst hAA
        refine ins_right hA hl (fun p hp => ?_) (fun q hq => ?_)
        · obtain ⟨ys, rfl⟩ := List.getLast?_eq_some_iff.1 hp
          rw [List.length_append, List.length_singleton] at hl1
          have := unhide HI (by omega)
          rwa [show i - 1 - a = ys.length by omega, List.append_assoc, List.getElem!_eq_getElem?_getD, List.getElem?_append_right (Nat.le_refl _), Nat.sub_self] at this
        · cases A2 with
          | nil => cases hq
          | cons z r =>
            simp only [List.head?_cons, Option.some.injEq] at hq; subst hq
            have hb2 := unhide HM
            rw [List.length_append, List.length_cons] at hb2
            have := unhide HJ (by omega)
            rwa [List.getElem!_eq_getElem?_getD, List.getElem?_append_right (by omega), hl1, Nat.sub_self] at this
      have HS := hide hs
      have HAA := hide hAA
      have HL1 := hide hl1
      have hk := h.g gw
      have h1 : Held wr g off (P ++ (its A1 ++ (its A2 ++ (y.1 :: (its [] ++ S))))) := by rw [hAA] at hk; simpa [List.append_assoc] using hk
      have hu := gw.new
      have hlA := congrArg List.length hAA
      rw [List.length_append] at hlA
      have eM := unhide HM
      have hst : (m : Int) = (i : Int) + (A2.length : Int) := by omega
      have HST := hide hst
      obtain ⟨wo, rfl⟩ : ∃ wo : World, wo = wr := ⟨_, rfl⟩
      clear hs hAA hl1 hk h hlA eM hst
      go_wp2_with fail
      go_loopw [17] (fun kv wr => ∃ (k : Int) (C1 C2 : List (Item × Nat)), kv = .int .i64 k ∧ (i : Int) ≤ k ∧ k ≤ m ∧ Hid (A2 = C1 ++ C2) ∧ Hid (k = i + C1.length) ∧ Upd (· = g) w wr ∧ Held wr g off (P ++ (its A1 ++ (its C1 ++ (y.1 :: (its C2 ++ S)))))) (fun kv _ => (intOf kv).toNat)
      case atStart => exact ⟨m, A2, [], rfl, by omega, Int.le_refl _, hide (by simp), HST, (Upd.refl _ _).then hu (fun _ _ h => h.elim), h1⟩
      case round =>
        obtain ⟨k, C1, C2, rfl, ak, kp, HC, HC1, hu2, hh2⟩ := hrel
        have eC := unhide HC
        have eC1 := unhide HC1
        have eL := unhide HL1
        have eA := unhide HA
        have eM := unhide HM
        have eN := unhide HN
        have hlen := congrArg List.length eC
        have hlenA := congrArg List.length (unhide HAA)
        rw [List.length_append] at hlen hlenA
        rcases List.eq_nil_or_concat C1 with hc1 | ⟨C0, z, hc1⟩
        · obtain rfl : k = i := by rw [hc1] at eC1; simpa using eC1
          have hM : (A1 ++ (y :: A2)).Perm (A ++ [y]) := by rw [unhide HAA, List.append_assoc]; exact List.Perm.append_left _ (List.perm_append_comm (l₁ := [y]))
          have HM' := hide hM
          have hfin : Held wr g off (P ++ (its (A1 ++ (y :: A2)) ++ S)) := by
            subst hc1
            rw [List.nil_append] at eC
            rw [eC]
            simpa [List.append_assoc] using hh2
          clear eC eC1 eL eA eM eN hlen hlenA hh2 hM hc1
          go_wp2
          refine bodyPost_ret (results_none rfl _ _ _) rfl ?_
          exact ⟨rfl, hu2, _, unhide HM', unhide HS, hfin⟩
        · have hc1' : C1 = C0 ++ [z] := by rw [hc1, List.concat_eq_append]
          subst hc1'
          rw [List.length_append, List.length_singleton] at hlen eC1
          obtain ⟨q, rfl⟩ : ∃ q : Nat, k = (q : Int) + 1 := ⟨i + C0.length, by omega⟩
          have hh3 : Held wr g off ((P ++ (its A1 ++ its C0)) ++ (z.1 :: (y.1 :: (its C2 ++ S)))) := by simpa [List.append_assoc] using hh2
          have hql : (P ++ (its A1 ++ its C0)).length = q := by simp; omega
          obtain ⟨s1, s2, hfin⟩ := exch hql hh3.drew
          obtain ⟨d1, d0⟩ := two_rows hql hh3.drew
          have HFIN := hide hfin
          have hqi : (i : Int) < (q : Int) + 1 := by omega
          have hqN : (q : Int) + 1 < (N : Int) := by omega
          have hwp : IntKind.i64.wrap (q : Int) = (q : Int) := IntWalk.i64_in _ (by omega)
          have jz1 : (q : Int) < (N : Int) := by omega
          have p0 : (0 : Int) ≤ (q : Int) + 1 := by omega
          have e0 : ((q : Int) + 1).toNat = q + 1 := by omega
          clear eC eC1 eL eA eM eN hlen hlenA hfin hh3 hh2 hql hc1
          generalize itemCells y.1 = cx at *
          generalize itemCells z.1 = cy at *
          go_wp2_with fail
          go_region
          go_wp2
          go_roundw
          case rel =>
            refine ⟨q, C0, z :: C2, by go_num, by omega, by omega, hide (by rw [unhide HC]; simp), hide (by have := unhide HC1; simp at this; omega), (hu2.drew.setCells _ _).setCells _ _, ?_⟩
            have := unhide HFIN
            simpa [List.append_assoc] using this
          case measure => simp [intOf]

end Go.Proofs.YtjpmomdechibmaaGreatDoor
