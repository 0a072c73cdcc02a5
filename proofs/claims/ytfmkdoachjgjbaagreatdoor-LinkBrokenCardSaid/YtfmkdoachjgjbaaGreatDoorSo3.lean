/-
  insertionSort: a range of items, sorted.
-/
import Derived.Test.YtfmkdoachjgjbaaGreatDoorMbc
set_option linter.unusedVariables false
set_option linter.unusedSimpArgs false
namespace Go.Proofs.YtfmkdoachjgjbaaGreatDoor
open Go.RowKit Go.Sort

attribute [local go_sem ↓ high] ld_item_fold st_item_fold
attribute [local go_sem] ld_item st_item

theorem cmp_items (x y : Item) (w : World) : Calls Tryz.prog 161 #[.agg (itemCells x).toArray, .agg (itemCells y).toArray] w (Grows (.int .i64 (cf x y)) w) :=
  order_any x.offered y.offered x.h.id y.h.id _ _ w (by rw [List.size_toArray, item_len]) (by rw [List.size_toArray, item_len]) (by rw [List.getElem?_toArray]; rfl) (by rw [List.getElem?_toArray]; rfl) (by rw [List.getElem?_toArray]; rfl) (by rw [List.getElem?_toArray]; rfl)
/-- The function that the sort is given. -/
abbrev fOrd : Value := .func (.func 161) #[] #[]
theorem at_mid (P : List Item) (x : Item) (R : List Item) (n : Nat) (h : n = P.length) : (P ++ (x :: R))[n]! = x := by
  subst h
  rw [List.getElem!_eq_getElem?_getD, List.getElem?_append_right (Nat.le_refl _), Nat.sub_self]
  rfl
theorem swapL_adj (L : List Item) (x y : Item) (R : List Item) : swapL (L ++ (x :: (y :: R))) (L.length + 1) L.length = L ++ (y :: (x :: R)) := by
  have e1 : (L ++ (x :: (y :: R)))[L.length]! = x := at_mid L x _ _ rfl
  have e2 : (L ++ (x :: (y :: R)))[L.length + 1]! = y := by
    have := at_mid (L ++ [x]) y R (L.length + 1) (by simp)
    rwa [List.append_assoc] at this
  unfold swapL
  rw [e1, e2]
  rw [List.set_append_right _ _ (by omega), List.set_append_right _ _ (by omega)]
  simp

theorem carry2 {w W W' : World} {g o1 o2 : Nat} {A B : Array Value} (h : rowN W g o1 36 = some A ∧ rowN W g o2 36 = some B ∧ G w W) (k : G W W') : rowN W' g o1 36 = some A ∧ rowN W' g o2 36 = some B ∧ G w W' :=
  ⟨rowN_g h.1 k, rowN_g h.2.1 k, h.2.2.trans k⟩
theorem Held.g {w w' : World} {b off : Nat} {xs : List Item} (h : Held w b off xs) (k : G w w') : Held w' b off xs := h.upd k.new (fun h => h)
theorem two_at {L : List Item} {x y : Item} {R : List Item} {q : Nat} (hq : L.length = q) : (L ++ (y :: (x :: R)))[q]! = y ∧ (L ++ (y :: (x :: R)))[q + 1]! = x ∧ q + 1 < (L ++ (y :: (x :: R))).length := by
  refine ⟨at_mid _ _ _ _ hq.symm, ?_, by simp; omega⟩
  have := at_mid (L ++ [y]) x R (q + 1) (by simp; omega)
  rwa [List.append_assoc] at this
theorem two_rows {w : World} {g off : Nat} {L : List Item} {x y : Item} {R : List Item} {q : Nat} (hq : L.length = q) (h : Held w g off (L ++ (y :: (x :: R)))) :
    rowN w g (off + (q + 1) * 36) 36 = some (itemCells x).toArray ∧ rowN w g (off + q * 36) 36 = some (itemCells y).toArray := by
  obtain ⟨e1, e2, e3⟩ := two_at (x := x) (y := y) (R := R) hq
  constructor
  · have := h.row e3; rwa [e2] at this
  · have := h.row (i := q) (by omega); rwa [e1] at this
/-- The exchange of the two at q and behind it, the one behind first. -/
theorem exch {w : World} {g off : Nat} {L : List Item} {x y : Item} {R : List Item} {q : Nat} (hq : L.length = q) (h : Held w g off (L ++ (y :: (x :: R)))) :
    stOk w g (off + (q + 1) * 36) 36 (itemCells y).toArray = true ∧ stOk (w.setCells g (off + (q + 1) * 36) (itemCells y)) g (off + q * 36) 36 (itemCells x).toArray = true ∧
    Held ((w.setCells g (off + (q + 1) * 36) (itemCells y)).setCells g (off + q * 36) (itemCells x)) g off (L ++ (x :: (y :: R))) := by
  obtain ⟨e1, e2, e3⟩ := two_at (x := x) (y := y) (R := R) hq
  refine ⟨h.ok e3 y, (h.set e3 y).ok (by rw [List.length_set]; omega) x, ?_⟩
  have := h.swap e3 (show q < _ by omega)
  rw [e1, e2] at this
  have hs := swapL_adj L y x R
  rw [hq] at hs
  rwa [hs] at this
abbrev its (L : List (Item × Nat)) : List Item := L.map Prod.fst
abbrev Rising (L : List (Item × Nat)) : Prop := L.Pairwise (fun p q => p.2 < q.2)

set_option maxHeartbeats 4000000 in
theorem insertion_any (g off cap : Nat) (P S : List Item) (L : List (Item × Nat)) (hL : Rising L) (N : Nat) (hN : P.length + (L.length + S.length) = N) (hm : N ≤ 4611686018427387904) (a b : Int) (ha : a = P.length) (hb : b = P.length + L.length)
    (w : World) (h : Held w g off (P ++ (its L ++ S))) :
    Calls Tryz.prog 209 #[.slice (some ⟨g, off, none⟩) N cap, .int .i64 a, .int .i64 b, fOrd] w fun e w' => e = .returned (.tuple #[]) ∧ Upd (· = g) w w' ∧ ∃ M, M.Perm L ∧ Srt M ∧ Held w' g off (P ++ (its M ++ S)) := by
  have a0 : 0 ≤ a := by omega
  have a1 : a ≤ 4611686018427387904 := by omega
  have b0 : 0 ≤ b := by omega
  have b1 : b ≤ 4611686018427387904 := by omega
  have HA := hide ha
  have HB := hide hb
  have HN := hide hN
  have HL := hide hL
  clear ha hb hN hL
  go_enter Tryz.func209, Tryz.ntmps209
  go_wp2_with fail
  go_loopw [8] (fun iv wr => ∃ (M L1 L2 : List (Item × Nat)) (n : Int), iv = .int .i64 n ∧ Hid (n = a + M.length ∨ (n = a + 1 ∧ L = [] ∧ M = [])) ∧ Hid (L = L1 ++ L2) ∧ Hid (M.Perm L1) ∧ Srt M ∧ 0 ≤ n ∧ n ≤ b + 1 ∧ Upd (· = g) w wr ∧ Held wr g off (P ++ (its M ++ (its L2 ++ S)))) (fun iv _ => (b + 1 - intOf iv).toNat)
  case atStart =>
    cases L with
    | nil => exact ⟨[], [], [], a + 1, rfl, hide (.inr ⟨rfl, rfl, rfl⟩), hide rfl, hide (List.Perm.refl _), List.Pairwise.nil, by omega, by have h1 := unhide HB; have h2 := unhide HA; rw [List.length_nil] at h1; omega, Upd.refl _ _, h⟩
    | cons x L => exact ⟨[x], [x], L, a + 1, rfl, hide (.inl rfl), hide rfl, hide (List.Perm.refl _), List.pairwise_singleton _ _, by omega, by have h1 := unhide HB; have h2 := unhide HA; rw [List.length_cons] at h1; omega, Upd.refl _ _, h⟩
  case round =>
    obtain ⟨M, L1, L2, n, rfl, HNN, HLL, HP, hs, n0, n1, hu, hh⟩ := hrel
    have eN := unhide HNN
    have eL := unhide HLL
    have eP := (unhide HP).length_eq
    have eA := unhide HA
    have eB := unhide HB
    by_cases hlt : n < b
    · obtain ⟨x, L3, hL2⟩ : ∃ x L3, L2 = x :: L3 := by
        cases L2 with
        | nil =>
          exfalso
          rw [List.append_nil] at eL
          rw [eL] at eB
          rcases eN with e | ⟨e, e2, _⟩
          · omega
          · rw [e2] at eL; rw [← eL] at eB; simp at eB; omega
        | cons x L3 => exact ⟨x, L3, rfl⟩
      have en : n = a + M.length := by
        rcases eN with e | ⟨_, e, _⟩
        · exact e
        · rw [e, hL2] at eL; simp at eL
      have HRS := hide (show Low M [x] from by
        intro p hp q hq
        rw [List.mem_singleton.1 hq]
        have hr := unhide HL
        rw [eL, hL2] at hr
        exact (List.pairwise_append.1 hr).2.2 p ((unhide HP).mem_iff.1 hp) x List.mem_cons_self)
      have HL2 := hide hL2
      have hh0 : Held wr g off (P ++ (its M ++ (x.1 :: (its L3 ++ S)))) := by rw [hL2] at hh; simpa using hh
      have HEN := hide en
      have HEL := hide eL
      have HEP := hide eP
      have hnn : n = P.length + M.length := by omega
      have HNN2 := hide hnn
      have hNN : P.length + (M.length + (1 + (L3.length + S.length))) = N := by
        have := unhide HN
        rw [eL, hL2, List.length_append, List.length_cons] at this
        omega
      have HNT := hide hNN
      have b2 : n ≤ 4611686018427387904 := by omega
      clear hh eN eL eP eA eB hL2 en hnn hNN
      obtain ⟨wo, rfl⟩ : ∃ wo : World, wo = wr := ⟨_, rfl⟩
      go_wp2_with fail
      go_loopw [9] (fun jv wr => ∃ (M1 M2 : List (Item × Nat)) (j : Int), jv = .int .i64 j ∧ Hid (j = P.length + M1.length) ∧ Hid (M = M1 ++ M2) ∧ (∀ q, M2.head? = some q → kl x.1 q.1) ∧ a ≤ j ∧ j ≤ n ∧ Upd (· = g) w wr ∧ Held wr g off (P ++ (its M1 ++ (x.1 :: (its M2 ++ (its L3 ++ S)))))) (fun jv _ => (intOf jv).toNat)
      case atStart => exact ⟨M, [], n, rfl, HNN2, hide (by simp), (fun q hq => by simp at hq), by have := unhide HEN; omega, Int.le_refl _, hu, by simpa using hh0⟩
      case round =>
        obtain ⟨M1, M2, j, rfl, HJ, HM12, hq, ja, jn, hu2, hh2⟩ := hrel
        clear hh0
        have hend : (∀ p, M1.getLast? = some p → ¬ kl x.1 p.1) → Srt (M1 ++ (x :: M2)) := fun h1 =>
          ins_right (by rw [← unhide HM12]; exact hs) (by rw [← unhide HM12]; exact unhide HRS) h1 hq
        have HEND := hide hend
        have HQ := hide hq
        clear hend hq
        rcases List.eq_nil_or_concat M1 with hm1 | ⟨M0, y, hm1⟩
        · have e1 : j = a := by have h1 := unhide HJ; have h2 := unhide HA; rw [hm1] at h1; simp at h1; omega
          have e2 : decide (a < j) = false := decide_eq_false (by omega)
          have HM1 := hide hm1
          clear hm1 e1
          go_wp2_with fail
          go_quiet (fail)
          go_wp2
          go_roundw
          case rel =>
            refine ⟨M1 ++ (x :: M2), L1 ++ [x], L3, n + 1, by go_num, hide (.inl ?_), hide ?_, hide ?_, unhide HEND (fun p hp => by rw [unhide HM1] at hp; cases hp), by omega, by omega, hu2.drewN _, ?_⟩
            · have h1 := unhide HEN; have h2 := congrArg List.length (unhide HM12); rw [List.length_append] at h2; rw [List.length_append, List.length_cons]; omega
            · rw [unhide HEL, unhide HL2]; simp
            · have h1 := unhide HP; rw [unhide HM12] at h1
              exact (List.perm_middle.trans (List.Perm.cons x h1)).trans (List.perm_append_comm (l₁ := [x]))
            · have := hh2.drewN nq; simpa [List.append_assoc] using this
          case measure => simp [intOf]; omega
        · have hm1' : M1 = M0 ++ [y] := by rw [hm1, List.concat_eq_append]
          have hj1 : j = P.length + M0.length + 1 := by have h1 := unhide HJ; rw [hm1', List.length_append] at h1; simp at h1; omega
          have ja2 : a < j := by have h2 := unhide HA; omega
          obtain ⟨q, rfl⟩ : ∃ q : Nat, j = (q : Int) + 1 := ⟨P.length + M0.length, by omega⟩
          have hq1 : q = P.length + M0.length := by omega
          have hqN : (q : Int) + 1 < (N : Int) := by have h1 := unhide HNT; have h2 := congrArg List.length (unhide HM12); rw [List.length_append, hm1', List.length_append] at h2; simp at h2; omega
          have hh3 : Held wr g off ((P ++ its M0) ++ (y.1 :: (x.1 :: (its M2 ++ (its L3 ++ S))))) := by rw [hm1'] at hh2; simpa [List.append_assoc] using hh2
          have hl3 : ((P ++ its M0) ++ (y.1 :: (x.1 :: (its M2 ++ (its L3 ++ S))))).length = N := by
            have h1 := unhide HNT; have h2 := congrArg List.length (unhide HM12)
            rw [List.length_append, hm1', List.length_append] at h2
            simp at h2 ⊢
            omega
          have hql : (P ++ its M0).length = q := by simp; omega
          obtain ⟨r1, r0⟩ := two_rows hql hh3.drew
          have hall := fun (W : World) (k : G wr W) => And.intro (two_rows hql (hh3.g k).drew) (exch hql (hh3.g k).drew)
          have HM1 := hide hm1'
          have HALL := hide hall
          have hcm := cmp_items x.1 y.1
          have hkl := cf_lt x.1 y.1
          generalize hc : cf x.1 y.1 = c at hcm hkl
          have HCM := hide hcm
          have HKL := hide hkl
          have HJ1 := hide hj1
          have HQ1 := hide hq1
          have HH2 := hide hh2
          clear hm1 hm1' hall hl3 hcm hkl hc hj1 hq1 hql hh2 hh3
          have hwp : IntKind.i64.wrap (q : Int) = (q : Int) := IntWalk.i64_in _ (by omega)
          have jz1 : (q : Int) < (N : Int) := by omega
          have p0 : (0 : Int) ≤ (q : Int) + 1 := by omega
          have e0 : ((q : Int) + 1).toNat = q + 1 := by omega
          generalize itemCells x.1 = cx at *
          generalize itemCells y.1 = cy at *
          by_cases hc0 : c < 0
          · go_wp2_with fail
            go_region_held3 (fun w' => rowN w' g (off + (q + 1) * 36) 36 = some cx.toArray ∧ rowN w' g (off + q * 36) 36 = some cy.toArray ∧ G wr w')
              (first | exact ⟨r1, r0, (G.refl _).drew⟩ | (refine carry2 ?_ (by assumption); first | assumption | exact ⟨by assumption, by assumption, by assumption⟩))
              ((go_at_call 161; refine (unhide HCM _).mono ?_; rintro e w3 ⟨rfl, g3⟩))
            have hS := ‹rowN _ _ _ _ = some _ ∧ rowN _ _ _ _ = some _ ∧ _›
            have gw := hS.2.2
            clear hS
            go_wp2_with fail
            obtain ⟨⟨d1, d0⟩, s1, s2, hfin⟩ := unhide HALL w3 gw
            have HFIN := hide hfin
            clear hfin r1 r0 g3
            go_region
            go_wp2
            go_roundw
            case rel =>
              refine ⟨M0, y :: M2, q, by go_num, hide (unhide HQ1 ▸ by simp), hide (by rw [unhide HM12, unhide HM1]; simp), (fun z hz => ?_), by omega, by omega, ((hu2.then (gw.new) (fun _ _ h => h.elim)).drew.setCells _ _).setCells _ _, ?_⟩
              · simp only [List.head?_cons, Option.some.injEq] at hz; subst hz; exact (unhide HKL).1 hc0
              · have := unhide HFIN; simpa [List.append_assoc] using this
            case measure => simp [intOf]
          · go_wp2_with fail
            go_region_held3 (fun w' => rowN w' g (off + (q + 1) * 36) 36 = some cx.toArray ∧ rowN w' g (off + q * 36) 36 = some cy.toArray ∧ G wr w')
              (first | exact ⟨r1, r0, (G.refl _).drew⟩ | (refine carry2 ?_ (by assumption); first | assumption | exact ⟨by assumption, by assumption, by assumption⟩))
              ((go_at_call 161; refine (unhide HCM _).mono ?_; rintro e w3 ⟨rfl, g3⟩))
            have hS := ‹rowN _ _ _ _ = some _ ∧ rowN _ _ _ _ = some _ ∧ _›
            have gw := hS.2.2
            clear hS
            go_wp2
            go_roundw
            case rel =>
              refine ⟨M1 ++ (x :: M2), L1 ++ [x], L3, n + 1, by go_num, hide (.inl ?_), hide ?_, hide ?_, unhide HEND (fun p hp => ?_), by omega, by omega, hu2.then gw.new (fun _ _ h => h.elim), ?_⟩
              · have h1 := unhide HEN; have h2 := congrArg List.length (unhide HM12); rw [List.length_append] at h2; rw [List.length_append, List.length_cons]; omega
              · rw [unhide HEL, unhide HL2]; simp
              · have h1 := unhide HP; rw [unhide HM12] at h1
                exact (List.perm_middle.trans (List.Perm.cons x h1)).trans (List.perm_append_comm (l₁ := [x]))
              · rw [unhide HM1, List.getLast?_append] at hp
                simp at hp
                subst hp
                exact fun hk => by have := (unhide HKL).2 hk; omega
              · have := (unhide HH2).g gw; simpa [List.append_assoc] using this
            case measure => simp [intOf]; omega
    · have hM : M.Perm L := by
        have : L2 = [] := by
          rcases eN with e | ⟨_, e, _⟩
          · rw [eL, List.length_append] at eB
            exact List.length_eq_zero_iff.1 (by omega)
          · rw [e] at eL
            exact (List.append_eq_nil_iff.1 eL.symm).2
        rw [eL, this, List.append_nil]
        exact unhide HP
      have hh2 : Held wr g off (P ++ (its M ++ S)) := by
        have : L2 = [] := by
          have := hM.length_eq
          rw [eL, List.length_append] at this
          exact List.length_eq_zero_iff.1 (by omega)
        rw [this] at hh
        exact hh
      have HM := hide hM
      clear hM eN eL eP eA eB hh
      go_wp2
      go_end0
      exact ⟨rfl, hu, M, unhide HM, hs, hh2⟩

end Go.Proofs.YtfmkdoachjgjbaaGreatDoor
