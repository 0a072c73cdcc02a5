/-
  symMerge: both ranges longer than one.
-/
import Derived.Test.YtjpmomdechibmaaGreatDoorSo5
import Derived.Deep.CutRange
namespace Go.Proofs.YtjpmomdechibmaaGreatDoor
set_option linter.unusedVariables false
set_option linter.unusedSimpArgs false
open Go.RowKit Go.Sort

attribute [local go_sem ↓ high] ld_item_fold st_item_fold
attribute [local go_sem] ld_item st_item

def MergeOk (g off cap N : Nat) (A B : List (Item × Nat)) : Prop :=
  ∀ (P S : List Item) (a m b : Nat) (w : World), 0 < A.length → 0 < B.length → Srt A → Srt B → Low A B → P.length + (A.length + (B.length + S.length)) = N → a = P.length → m = a + A.length → b = m + B.length →
    Held w g off (P ++ (its A ++ (its B ++ S))) →
    Calls Tryz.prog 113 #[.slice (some ⟨g, off, none⟩) N cap, .int .i64 (a : Int), .int .i64 (m : Int), .int .i64 (b : Int), fOrd] w fun e w' => e = .returned (.tuple #[]) ∧ Upd (· = g) w w' ∧ ∃ M, M.Perm (A ++ B) ∧ Srt M ∧ Held w' g off (P ++ (its M ++ S))

theorem perm_allLt {A B A' B' : List (Item × Nat)} (h : AllLt A B) (p : A'.Perm A) (q : B'.Perm B) : AllLt A' B' :=
  fun x hx y hy => h x (p.mem_iff.1 hx) y (q.mem_iff.1 hy)

set_option maxRecDepth 100000 in
set_option maxHeartbeats 8000000 in
theorem merge_step (g off cap N : Nat) (hm : N ≤ 2305843009213693952) (A B : List (Item × Nat)) (hA1 : 2 ≤ A.length) (hB1 : 2 ≤ B.length) (IH : ∀ A' B', A'.length + B'.length < A.length + B.length → MergeOk g off cap N A' B') : MergeOk g off cap N A B := by
  intro P S a m b w _ _ hA hB hl hN ha hmm hb h
  obtain ⟨n1, hn1⟩ : ∃ n : Nat, A.length = n := ⟨_, rfl⟩
  obtain ⟨n2, hn2⟩ : ∃ n : Nat, B.length = n := ⟨_, rfl⟩
  have b1 : b ≤ 2305843009213693952 := by omega
  have e1 : IntKind.i64.wrap ((b : Int) - (m : Int)) = (n2 : Int) := by rw [IntWalk.i64_in _ (by omega)]; omega
  have e2 : IntKind.i64.wrap ((m : Int) - (a : Int)) = (n1 : Int) := by rw [IntWalk.i64_in _ (by omega)]; omega
  have e3 : ((n1 : Int) == 1) = false := by rw [beq_eq_false_iff_ne]; omega
  have e4 : ((n2 : Int) == 1) = false := by rw [beq_eq_false_iff_ne]; omega
  obtain ⟨q, eq, q1, q2⟩ : ∃ q : Nat, ((a : Int) + (b : Int)) / 2 = (q : Int) ∧ 2 * q ≤ a + b ∧ a + b ≤ 2 * q + 1 := ⟨(a + b) / 2, by omega, by omega, by omega⟩
  obtain ⟨p, ep⟩ : ∃ p : Nat, q + m = p + 1 := ⟨q + m - 1, by omega⟩
  obtain ⟨n0, en0⟩ : ∃ n0 : Nat, n0 = p + 1 := ⟨_, rfl⟩
  have em : (q : Int) + (m : Int) = (n0 : Int) := by omega
  have aq : a < q := by omega
  have qb : q < b := by omega
  have am : a + 2 ≤ m := by omega
  have mb : m + 2 ≤ b := by omega
  have HA := hide ha
  have HM := hide hmm
  have HB := hide hb
  have HN := hide hN
  have HN1 := hide hn1
  have HN2 := hide hn2
  have HQ := hide (And.intro q1 (And.intro q2 (And.intro ep en0)))
  clear ha hmm hb hN hA1 hB1 hn1 hn2 q1 q2 ep en0
  have ew : IntKind.i64.wrap ((n0 : Int) - 1) = (p : Int) := by have := unhide HQ; rw [IntWalk.i64_in _ (by omega)]; omega
  have pb : (n0 : Int) ≤ 4611686018427387904 := by have := unhide HQ; omega
  go_enter Tryz.func113, Tryz.ntmps113
  go_upto_if 140 with fail
  go_cut [20, 21] from 138 to 146 (fun sv rv wx => ∃ s0 r0 : Nat, sv = .int .i64 (s0 : Int) ∧ rv = .int .i64 (r0 : Int) ∧ a ≤ s0 ∧ s0 ≤ r0 ∧ r0 ≤ m ∧ w = wx ∧ n0 ≤ s0 + b ∧ r0 + m ≤ n0 ∧ Hid (s0 = a ∨ n0 = s0 + b) ∧ Hid (r0 = m ∨ n0 = r0 + m))
  case first =>
    by_cases hlt : q < m
    · obtain ⟨s1, es1⟩ : ∃ s1 : Nat, n0 = s1 + b := ⟨n0 - b, by have := unhide HQ; omega⟩
      have eb : IntKind.i64.wrap ((n0 : Int) - (b : Int)) = (s1 : Int) := by rw [IntWalk.i64_in _ (by omega)]; omega
      have HS1 := hide es1
      clear es1
      go_wp2
      go_meet
      case rel => have es1 := unhide HS1; exact ⟨s1, q, rfl, rfl, by have := unhide HQ; omega, by have := unhide HQ; omega, by omega, rfl, by omega, by have := unhide HQ; omega, hide (by have := unhide HQ; omega), hide (by have := unhide HQ; omega)⟩
    · go_wp2
      go_meet
      case rel => exact ⟨a, m, rfl, rfl, Nat.le_refl _, by omega, Nat.le_refl _, rfl, by have := unhide HQ; omega, by have := unhide HQ; omega, hide (.inl rfl), hide (.inl rfl)⟩
  case rest =>
    obtain ⟨s0, r0, rfl, rfl, as0, sr0, rm0, rfl, ps0, pr0, HS0, HR0⟩ := hcut
    go_wp2_with fail
    go_loopw [20, 21] (fun iv jv wr => ∃ i j : Nat, iv = .int .i64 (i : Int) ∧ jv = .int .i64 (j : Int) ∧ s0 ≤ i ∧ i ≤ j ∧ j ≤ r0 ∧ Hid (s0 < i → ¬ kl (B[n0 - i - m]!).1 (A[i - 1 - a]!).1) ∧ Hid (j < r0 → kl (B[n0 - 1 - j - m]!).1 (A[j - a]!).1) ∧ G w wr) (fun iv jv _ => (intOf jv - intOf iv).toNat)
    case atStart => exact ⟨s0, r0, rfl, rfl, Nat.le_refl _, sr0, Nat.le_refl _, hide (fun h => absurd h (Nat.lt_irrefl _)), hide (fun h => absurd h (Nat.lt_irrefl _)), G.refl _⟩
    case round =>
      obtain ⟨i, j, rfl, rfl, mi, ij, jb, HI, HJ, gw⟩ := hrel
      by_cases hlt : i < j
      · obtain ⟨c, ec, c1, c2⟩ : ∃ c : Nat, ((i : Int) + (j : Int)) / 2 = (c : Int) ∧ i ≤ c ∧ c < j := ⟨(i + j) / 2, by omega, by omega, by omega⟩
        have eA := unhide HA
        have eM := unhide HM
        have eB := unhide HB
        have eN := unhide HN
        obtain ⟨_, _, eq3, en0⟩ := unhide HQ
        obtain ⟨d, ed⟩ : ∃ d : Nat, n0 = d + c + 1 := ⟨n0 - 1 - c, by omega⟩
        have hk := h.g gw
        have r1 : rowN wr.drew g (off + d * 36) 36 = some (itemCells (B[d - m]!).1).toArray := row_at (P := P ++ its A) (B := B) (S := S) (d - m) (by simpa [List.append_assoc] using hk.drew) (by simp; omega) (by omega)
        have r0' : rowN wr.drew g (off + c * 36) 36 = some (itemCells (A[c - a]!).1).toArray := row_at (P := P) (B := A) (S := its B ++ S) (c - a) hk.drew (by omega) (by omega)
        have hcm := cmp_items (B[d - m]!).1 (A[c - a]!).1
        have hkl := cf_lt (B[d - m]!).1 (A[c - a]!).1
        generalize hc : cf (B[d - m]!).1 (A[c - a]!).1 = cc at hcm hkl
        have HCM := hide hcm
        have HKL := hide hkl
        have jd : (d : Int) < (N : Int) := by omega
        have jc : (c : Int) < (N : Int) := by omega
        have wd : IntKind.i64.wrap ((p : Int) - (c : Int)) = (d : Int) := by rw [IntWalk.i64_in _ (by omega)]; omega
        have cb : (c : Int) ≤ 4611686018427387904 := by omega
        have HED := hide ed
        clear hcm hkl hc eA eM eB eN eq3 en0 hk ed
        generalize itemCells (A[c - a]!).1 = cx at *
        generalize itemCells (B[d - m]!).1 = cy at *
        by_cases hc0 : cc < 0
        · go_wp2_with fail
          go_region_held3 (fun w' => rowN w' g (off + d * 36) 36 = some cy.toArray ∧ rowN w' g (off + c * 36) 36 = some cx.toArray ∧ G wr w')
            (first | exact ⟨r1, r0', (G.refl _).drew⟩ | (refine carry2 ?_ (by assumption); first | assumption | exact ⟨by assumption, by assumption, by assumption⟩))
            ((go_at_call 63; refine (unhide HCM _).mono ?_; rintro e w3 ⟨rfl, g3⟩))
          have hS := ‹rowN _ _ _ _ = some _ ∧ rowN _ _ _ _ = some _ ∧ _›
          have g4 := hS.2.2
          clear hS
          go_wp2
          go_roundw
          case rel => exact ⟨i, c, rfl, rfl, mi, c1, by omega, HI, hide (fun _ => by have ed := unhide HED; rw [show n0 - 1 - c - m = d - m by omega]; exact (unhide HKL).1 hc0), gw.trans g4⟩
          case measure => simp [intOf]; omega
        · have hd : decide (cc < 0) = false := decide_eq_false hc0
          go_wp2_with fail
          go_region_held3 (fun w' => rowN w' g (off + d * 36) 36 = some cy.toArray ∧ rowN w' g (off + c * 36) 36 = some cx.toArray ∧ G wr w')
            (first | exact ⟨r1, r0', (G.refl _).drew⟩ | (refine carry2 ?_ (by assumption); first | assumption | exact ⟨by assumption, by assumption, by assumption⟩))
            ((go_at_call 63; refine (unhide HCM _).mono ?_; rintro e w3 ⟨rfl, g3⟩))
          have hS := ‹rowN _ _ _ _ = some _ ∧ rowN _ _ _ _ = some _ ∧ _›
          have g4 := hS.2.2
          clear hS
          go_wp2
          go_roundw
          case rel => exact ⟨c + 1, j, by go_num, rfl, by omega, by omega, jb, hide (fun _ hk => by have ed := unhide HED; rw [show n0 - (c + 1) - m = d - m by omega, show c + 1 - 1 - a = c - a by omega] at hk; have := (unhide HKL).2 hk; omega), HJ, gw.trans g4⟩
          case measure => simp [intOf]; omega
      · obtain rfl : i = j := by omega
        have eA := unhide HA
        have eM := unhide HM
        have eB := unhide HB
        have eN := unhide HN
        obtain ⟨eq1, eq2, eq3, en0⟩ := unhide HQ
        have eS0 := unhide HS0
        have eR0 := unhide HR0
        obtain ⟨e, ee⟩ : ∃ e : Nat, n0 = e + i := ⟨n0 - i, by omega⟩
        have me : m ≤ e := by omega
        have ebb : e ≤ b := by omega
        obtain ⟨A1, A2, hAA, hl1⟩ : ∃ A1 A2 : List (Item × Nat), A = A1 ++ A2 ∧ A1.length = i - a := ⟨A.take (i - a), A.drop (i - a), (List.take_append_drop _ _).symm, by rw [List.length_take]; omega⟩
        obtain ⟨B1, B2, hBB, hl2⟩ : ∃ B1 B2 : List (Item × Nat), B = B1 ++ B2 ∧ B1.length = e - m := ⟨B.take (e - m), B.drop (e - m), (List.take_append_drop _ _).symm, by rw [List.length_take]; omega⟩
        have hlA := congrArg List.length hAA
        have hlB := congrArg List.length hBB
        rw [List.length_append] at hlA hlB
        have hall : AllLt (A1 ++ B1) (A2 ++ B2) := by
          refine halves (hAA ▸ hA) (hBB ▸ hB) (hAA ▸ hBB ▸ hl) (fun x y hx hy => ?_) (fun x y hx hy => ?_)
          · obtain ⟨ys, rfl⟩ := List.getLast?_eq_some_iff.1 hx
            rw [List.length_append, List.length_singleton] at hl2 hlB
            cases A2 with
            | nil => cases hy
            | cons z r =>
              simp only [List.head?_cons, Option.some.injEq] at hy; subst hy
              rw [List.length_cons] at hlA
              have := unhide HJ (by omega)
              rw [hAA, hBB, show n0 - 1 - i - m = ys.length by omega, ← hl1] at this
              rwa [List.append_assoc, List.getElem!_eq_getElem?_getD, List.getElem!_eq_getElem?_getD, List.getElem?_append_right (Nat.le_refl _), List.getElem?_append_right (Nat.le_refl _), Nat.sub_self, Nat.sub_self] at this
          · obtain ⟨ys, rfl⟩ := List.getLast?_eq_some_iff.1 hx
            rw [List.length_append, List.length_singleton] at hl1 hlA
            cases B2 with
            | nil => cases hy
            | cons z r =>
              simp only [List.head?_cons, Option.some.injEq] at hy; subst hy
              rw [List.length_cons] at hlB
              have := unhide HI (by omega)
              rw [hAA, hBB, show n0 - i - m = B1.length by omega, show i - 1 - a = ys.length by omega] at this
              rwa [List.append_assoc, List.getElem!_eq_getElem?_getD, List.getElem!_eq_getElem?_getD, List.getElem?_append_right (Nat.le_refl _), List.getElem?_append_right (Nat.le_refl _), Nat.sub_self, Nat.sub_self] at this
        obtain ⟨sA1, sA2, _⟩ := srt_append.1 (hAA ▸ hA)
        obtain ⟨sB1, sB2, _⟩ := srt_append.1 (hBB ▸ hB)
        have hlow : Low (A1 ++ A2) (B1 ++ B2) := hAA ▸ hBB ▸ hl
        have low1 : Low A1 B1 := fun x hx y hy => hlow x (List.mem_append_left _ hx) y (List.mem_append_left _ hy)
        have low2 : Low A2 B2 := fun x hx y hy => hlow x (List.mem_append_right _ hx) y (List.mem_append_right _ hy)
        have hNN : P.length + ((A1.length + A2.length) + ((B1.length + B2.length) + S.length)) = N := by omega
        have la1 : A1.length + a = i := by omega
        have la2 : A2.length + i = m := by omega
        have lb1 : B1.length + m = e := by omega
        have lb2 : B2.length + e = b := by omega
        have lq : A1.length + B1.length + a = q := by omega
        have lq2 : A2.length + q = e := by omega
        have hk := h.g gw
        have h1 : Held wr g off (P ++ (its A1 ++ (its A2 ++ (its B1 ++ (its B2 ++ S))))) := by rw [hAA, hBB] at hk; simpa [List.append_assoc] using hk
        have ih1 := IH A1 B1 (by omega)
        have ih2 := IH A2 B2 (by omega)
        have hperm : ∀ M1 M2, M1.Perm (A1 ++ B1) → Srt M1 → M2.Perm (A2 ++ B2) → Srt M2 → (M1 ++ M2).Perm (A ++ B) ∧ Srt (M1 ++ M2) := fun M1 M2 p1 s1 p2 s2 =>
          ⟨by rw [hAA, hBB]; exact (List.Perm.append p1 p2).trans ((perm_swap_mid A1 B1 A2 B2).symm.trans (by simp [List.append_assoc])), srt_append.2 ⟨s1, s2, perm_allLt hall p1 p2⟩⟩
        have HPERM := hide hperm
        have ew2 : IntKind.i64.wrap ((n0 : Int) - (i : Int)) = (e : Int) := by rw [IntWalk.i64_in _ (by omega)]; omega
        have hu := (Upd.refl (· = g) w).then gw.new (fun _ _ h => h.elim)
        have FACTS := hide (And.intro eA (And.intro hNN (And.intro la1 (And.intro la2 (And.intro lb1 (And.intro lb2 (And.intro lq lq2)))))))
        have SA1 := hide sA1
        have SA2 := hide sA2
        have SB1 := hide sB1
        have SB2 := hide sB2
        have LOW1 := hide low1
        have LOW2 := hide low2
        have IH1 := hide ih1
        have IH2 := hide ih2
        clear eA eM eB eN eq1 eq2 eq3 en0 eS0 eR0 hAA hBB hl1 hl2 hlA hlB hall sA1 sA2 sB1 sB2 hlow low1 low2 hNN la1 la2 lb1 lb2 lq lq2 hk ih1 ih2 hperm IH hA hB hl h HI HJ HQ HS0 HR0 ee
        go_upto_region 39 with fail
        go_cut [185] from 178 to 185 (fun v wx => ∃ d : Bool, v = .bool d ∧ (d = true ↔ (i < m ∧ m < e)) ∧ wr = wx)
        case first =>
          by_cases c1 : i < m
          · by_cases c2 : m < e
            · go_wp2
              go_meet
              case rel => exact ⟨true, rfl, iff_of_true rfl ⟨c1, c2⟩, rfl⟩
            · go_wp2
              go_meet
              case rel => exact ⟨false, rfl, iff_of_false (by decide) (fun k => by omega), rfl⟩
          · go_wp2
            go_meet
            case rel => exact ⟨false, rfl, iff_of_false (by decide) (fun k => by omega), rfl⟩
        case rest =>
          obtain ⟨d1, rfl, hd1, rfl⟩ := hcut
          have HD1 := hide hd1
          clear hd1
          go_upto_if 185 with fail
          go_cut [] from 186 to 191 (fun wx => Upd (· = g) w wx ∧ Held wx g off (P ++ (its A1 ++ (its B1 ++ (its A2 ++ (its B2 ++ S))))))
          case first =>
            obtain ⟨eA, hNN, la1, la2, lb1, lb2, lq, lq2⟩ := unhide FACTS
            have hd1 := unhide HD1
            cases d1
            · have hX : its A2 = [] ∨ its B1 = [] := by
                rcases Nat.lt_or_ge i m with k | k
                · refine .inr (by rw [List.map_eq_nil_iff]; refine List.length_eq_zero_iff.1 ?_; have : ¬ (m < e) := fun k2 => by cases hd1.2 ⟨k, k2⟩
                                  omega)
                · exact .inl (by rw [List.map_eq_nil_iff]; exact List.length_eq_zero_iff.1 (by omega))
              have hX2 : Held wr g off (P ++ (its A1 ++ (its B1 ++ (its A2 ++ (its B2 ++ S))))) := by
                rcases hX with k | k
                · rw [k] at h1 ⊢; simpa using h1
                · rw [k] at h1 ⊢; simpa using h1
              clear eA hNN la1 la2 lb1 lb2 lq lq2 hd1 hX h1
              go_wp2
              go_meet
              case rel => exact ⟨hu, hX2⟩
            · obtain ⟨k1, k2⟩ := hd1.1 rfl
              have H := hide (rotate_split g off cap (P ++ its A1) (its A2) (its B1) (its B2 ++ S) (by rw [List.length_map]; omega) (by rw [List.length_map]; omega) N (by simp; omega) (by omega) (i : Int) m e (by simp; omega) (by simp; omega) (by simp; omega) fOrd wr (by simpa [List.append_assoc] using h1))
              clear eA hNN la1 la2 lb1 lb2 lq lq2 hd1 k1 k2 h1
              go_wp2_with fail
              refine (unhide H).mono ?_
              rintro e' w3 ⟨rfl, u3, h3⟩
              go_wp2
              go_meet
              case rel => exact ⟨hu.trans u3, by simpa [List.append_assoc] using h3⟩
          case rest =>
            obtain ⟨hu2, hh2⟩ := hcut
            obtain ⟨w2, rfl⟩ : ∃ w2 : World, w2 = wc := ⟨_, rfl⟩
            clear HD1 hu h1 gw
            go_upto_region 41 with fail
            go_cut [199] from 192 to 199 (fun v wx => ∃ d : Bool, v = .bool d ∧ (d = true ↔ (a < i ∧ i < q)) ∧ w2 = wx)
            case first =>
              by_cases c1 : a < i
              · by_cases c2 : i < q
                · go_wp2
                  go_meet
                  case rel => exact ⟨true, rfl, iff_of_true rfl ⟨c1, c2⟩, rfl⟩
                · go_wp2
                  go_meet
                  case rel => exact ⟨false, rfl, iff_of_false (by decide) (fun k => by omega), rfl⟩
              · go_wp2
                go_meet
                case rel => exact ⟨false, rfl, iff_of_false (by decide) (fun k => by omega), rfl⟩
            case rest =>
              obtain ⟨d2, rfl, hd1, rfl⟩ := hcut
              have HD1 := hide hd1
              clear hd1
              go_upto_if 199 with fail
              go_cut [] from 200 to 205 (fun wx => Upd (· = g) w wx ∧ ∃ M1, M1.Perm (A1 ++ B1) ∧ Srt M1 ∧ Held wx g off (P ++ (its M1 ++ (its A2 ++ (its B2 ++ S)))))
              case first =>
                obtain ⟨eA, hNN, la1, la2, lb1, lb2, lq, lq2⟩ := unhide FACTS
                have hd1 := unhide HD1
                cases d2
                · have hX : A1 = [] ∨ B1 = [] := by
                    rcases Nat.lt_or_ge a i with k | k
                    · refine .inr (List.length_eq_zero_iff.1 ?_)
                      have : ¬ (i < q) := fun k2 => by cases hd1.2 ⟨k, k2⟩
                      omega
                    · exact .inl (List.length_eq_zero_iff.1 (by omega))
                  have hX2 : Srt (A1 ++ B1) := by
                    rcases hX with k | k
                    · rw [k, List.nil_append]; exact unhide SB1
                    · rw [k, List.append_nil]; exact unhide SA1
                  have hX3 : Held w2 g off (P ++ (its (A1 ++ B1) ++ (its A2 ++ (its B2 ++ S)))) := by simpa [List.append_assoc] using hh2
                  clear eA hNN la1 la2 lb1 lb2 lq lq2 hd1 hX hh2
                  go_wp2
                  go_meet
                  case rel => exact ⟨hu2, _, List.Perm.refl _, hX2, hX3⟩
                · obtain ⟨k1, k2⟩ := hd1.1 rfl
                  have H := hide (unhide IH1 P (its A2 ++ (its B2 ++ S)) a i q w2 (by omega) (by omega) (unhide SA1) (unhide SB1) (unhide LOW1) (by simp; omega) eA (by omega) (by omega) hh2)
                  clear eA hNN la1 la2 lb1 lb2 lq lq2 hd1 k1 k2 hh2
                  go_wp2_with fail
                  refine (unhide H).mono ?_
                  rintro e' w3 ⟨rfl, u3, M1, p1, s1, h3⟩
                  go_wp2
                  go_meet
                  case rel => exact ⟨hu2.trans u3, M1, p1, s1, h3⟩
              case rest =>
                obtain ⟨hu3, M1, p1, s1, hh3⟩ := hcut
                obtain ⟨w4, rfl⟩ : ∃ w4 : World, w4 = wc := ⟨_, rfl⟩
                have PS1 := hide (And.intro p1 s1)
                clear HD1 hu2 hh2 p1 s1
                go_upto_region 43 with fail
                go_cut [213] from 206 to 213 (fun v wx => ∃ d : Bool, v = .bool d ∧ (d = true ↔ (q < e ∧ e < b)) ∧ w4 = wx)
                case first =>
                  by_cases c1 : q < e
                  · by_cases c2 : e < b
                    · go_wp2
                      go_meet
                      case rel => exact ⟨true, rfl, iff_of_true rfl ⟨c1, c2⟩, rfl⟩
                    · go_wp2
                      go_meet
                      case rel => exact ⟨false, rfl, iff_of_false (by decide) (fun k => by omega), rfl⟩
                  · go_wp2
                    go_meet
                    case rel => exact ⟨false, rfl, iff_of_false (by decide) (fun k => by omega), rfl⟩
                case rest =>
                  obtain ⟨d3, rfl, hd1, rfl⟩ := hcut
                  have HD1 := hide hd1
                  clear hd1
                  obtain ⟨eA, hNN, la1, la2, lb1, lb2, lq, lq2⟩ := unhide FACTS
                  have hd1 := unhide HD1
                  obtain ⟨p1, s1⟩ := unhide PS1
                  cases d3
                  · have hX : A2 = [] ∨ B2 = [] := by
                      rcases Nat.lt_or_ge q e with k | k
                      · refine .inr (List.length_eq_zero_iff.1 ?_)
                        have : ¬ (e < b) := fun k2 => by cases hd1.2 ⟨k, k2⟩
                        omega
                      · exact .inl (List.length_eq_zero_iff.1 (by omega))
                    have hX2 : Srt (A2 ++ B2) := by
                      rcases hX with k | k
                      · rw [k, List.nil_append]; exact unhide SB2
                      · rw [k, List.append_nil]; exact unhide SA2
                    have hX3 : Held w4 g off (P ++ (its (M1 ++ (A2 ++ B2)) ++ S)) := by simpa [List.append_assoc] using hh3
                    obtain ⟨pp, ss⟩ := unhide HPERM M1 (A2 ++ B2) p1 s1 (List.Perm.refl _) hX2
                    have PP := hide (And.intro pp ss)
                    clear eA hNN la1 la2 lb1 lb2 lq lq2 hd1 hX hh3 p1 s1 pp ss
                    go_wp2
                    go_end0
                    exact ⟨rfl, hu3, _, (unhide PP).1, (unhide PP).2, hX3⟩
                  · obtain ⟨k1, k2⟩ := hd1.1 rfl
                    have pl := p1.length_eq
                    rw [List.length_append] at pl
                    have H := hide (unhide IH2 (P ++ its M1) S q e b w4 (by omega) (by omega) (unhide SA2) (unhide SB2) (unhide LOW2) (by simp; omega) (by simp; omega) (by omega) (by omega) (by simpa [List.append_assoc] using hh3))
                    clear eA hNN la1 la2 lb1 lb2 lq lq2 hd1 k1 k2 hh3 p1 s1 pl
                    go_wp2_with fail
                    refine (unhide H).mono ?_
                    rintro e' w5 ⟨rfl, u5, M2, p2, s2, h5⟩
                    obtain ⟨pp, ss⟩ := unhide HPERM M1 M2 (unhide PS1).1 (unhide PS1).2 p2 s2
                    have PP := hide (And.intro pp ss)
                    clear p2 s2 pp ss
                    go_wp2
                    go_end0
                    exact ⟨rfl, hu3.trans u5, M1 ++ M2, (unhide PP).1, (unhide PP).2, by simpa [List.append_assoc] using h5⟩

end Go.Proofs.YtjpmomdechibmaaGreatDoor
