/-
  Plain facts on lists: two ranges change places. No program in sight.
-/
import Derived.Test.YtjpmomdechibmaaGreatDoorMba
namespace Go.Proofs.YtjpmomdechibmaaGreatDoor
set_option linter.unusedVariables false
set_option linter.unusedSimpArgs false
open Go.RowKit Go.Sort

theorem get!_eq (xs : List Item) (i : Nat) (h : i < xs.length) : xs[i]? = some xs[i]! := by
  rw [List.getElem!_eq_getElem?_getD, List.getElem?_eq_getElem h]; rfl
theorem swapL_get (xs : List Item) (i j k : Nat) (hi : i < xs.length) (hj : j < xs.length) : (swapL xs i j)[k]? = if k = j then xs[i]? else if k = i then xs[j]? else xs[k]? := by
  unfold swapL
  rw [List.getElem?_set]
  by_cases e : j = k
  · subst e
    rw [if_pos rfl, if_pos rfl, if_pos (by rw [List.length_set]; exact hj), get!_eq xs i hi]
  · rw [if_neg e, if_neg (fun h => e h.symm), List.getElem?_set]
    by_cases e2 : i = k
    · subst e2
      rw [if_pos rfl, if_pos rfl, if_pos hi, get!_eq xs j hj]
    · rw [if_neg e2, if_neg (fun h => e2 h.symm)]
theorem swapN_get (xs : List Item) (a b : Nat) : ∀ n, a + n ≤ b → b + n ≤ xs.length → ∀ k, (swapN xs a b n)[k]? = if a ≤ k ∧ k < a + n then xs[k - a + b]? else if b ≤ k ∧ k < b + n then xs[k - b + a]? else xs[k]? := by
  intro n
  induction n with
  | zero => intro _ _ k; rw [if_neg (by omega), if_neg (by omega)]; rfl
  | succ n ih =>
    intro h1 h2 k
    rw [swapN, swapL_get _ _ _ _ (by rw [swapN_len]; omega) (by rw [swapN_len]; omega)]
    have ih' := fun k => ih (by omega) (by omega) k
    by_cases e : k = b + n
    · subst e
      rw [if_pos rfl, ih', if_neg (by omega), if_neg (by omega), if_neg (by omega), if_pos (by omega)]
      congr 1; omega
    · rw [if_neg e]
      by_cases e2 : k = a + n
      · subst e2
        rw [if_pos rfl, ih', if_neg (by omega), if_neg (by omega), if_pos (by omega)]
        congr 1; omega
      · rw [if_neg e2, ih']
        by_cases c1 : a ≤ k ∧ k < a + n
        · rw [if_pos c1, if_pos (by omega)]
        · have c1' : ¬ (a ≤ k ∧ k < a + (n + 1)) := by omega
          by_cases c2 : b ≤ k ∧ k < b + n
          · have c2' : b ≤ k ∧ k < b + (n + 1) := by omega
            rw [if_neg c1, if_pos c2, if_neg c1', if_pos c2']
          · have c2' : ¬ (b ≤ k ∧ k < b + (n + 1)) := by omega
            rw [if_neg c1, if_neg c2, if_neg c1', if_neg c2']
/-- X and Y change places. -/
theorem swapN_split (P X M Y S : List Item) (n : Nat) (hX : X.length = n) (hY : Y.length = n) :
    swapN (P ++ (X ++ (M ++ (Y ++ S)))) P.length (P.length + n + M.length) n = P ++ (Y ++ (M ++ (X ++ S))) := by
  apply List.ext_getElem?
  intro k
  rw [swapN_get _ _ _ n (by omega) (by simp only [List.length_append]; omega)]
  by_cases c0 : k < P.length
  · rw [if_neg (by omega), if_neg (by omega), List.getElem?_append_left c0, List.getElem?_append_left c0]
  · obtain ⟨k, rfl⟩ : ∃ q, k = P.length + q := ⟨k - P.length, by omega⟩
    have e1 : ∀ q (L : List Item), (P ++ L)[P.length + q]? = L[q]? := fun q L => by rw [List.getElem?_append_right (by omega)]; congr 1; omega
    rw [e1, e1]
    by_cases c1 : k < n
    · rw [if_pos (by omega), show P.length + k - P.length + (P.length + n + M.length) = P.length + (n + (M.length + k)) by omega, e1]
      rw [List.getElem?_append_right (l₁ := X) (by omega), List.getElem?_append_right (l₁ := M) (by omega), List.getElem?_append_left (l₁ := Y) (by omega), List.getElem?_append_left (l₁ := Y) (by omega)]
      congr 1; omega
    · rw [if_neg (by omega)]
      obtain ⟨k, rfl⟩ : ∃ q, k = n + q := ⟨k - n, by omega⟩
      have e2 : ∀ (Z : List Item) q (L : List Item), Z.length = n → (Z ++ L)[n + q]? = L[q]? := fun Z q L hz => by rw [List.getElem?_append_right (by omega)]; congr 1; omega
      rw [e2 X _ _ hX, e2 Y _ _ hY]
      by_cases c2 : k < M.length
      · rw [if_neg (by omega), List.getElem?_append_left c2, List.getElem?_append_left c2]
      · obtain ⟨k, rfl⟩ : ∃ q, k = M.length + q := ⟨k - M.length, by omega⟩
        have e3 : ∀ q (L : List Item), (M ++ L)[M.length + q]? = L[q]? := fun q L => by rw [List.getElem?_append_right (by omega)]; congr 1; omega
        rw [e3, e3]
        by_cases c3 : k < n
        · rw [if_pos (by omega), show P.length + (n + (M.length + k)) - (P.length + n + M.length) + P.length = P.length + k by omega, e1]
          rw [List.getElem?_append_left (by omega), List.getElem?_append_left (by omega)]
        · rw [if_neg (by omega)]
          obtain ⟨k, rfl⟩ : ∃ q, k = n + q := ⟨k - n, by omega⟩
          rw [e2 Y _ _ hY, e2 X _ _ hX]

end Go.Proofs.YtjpmomdechibmaaGreatDoor

/-
  rotate: two neighbouring ranges change places.
-/
namespace Go.Proofs.YtjpmomdechibmaaGreatDoor
set_option linter.unusedVariables false
set_option linter.unusedSimpArgs false
open Go.RowKit Go.Sort

theorem swaprange_split (g off cap : Nat) (P X M Y S : List Item) (n : Nat) (hX : X.length = n) (hY : Y.length = n) (N : Nat) (hN : (P ++ (X ++ (M ++ (Y ++ S)))).length = N) (hm : N ≤ 4611686018427387904) (a b : Int) (ha : a = P.length) (hb : b = P.length + n + M.length)
    (fv : Value) (w : World) (h : Held w g off (P ++ (X ++ (M ++ (Y ++ S))))) :
    Calls Tryz.prog 137 #[.slice (some ⟨g, off, none⟩) N cap, .int .i64 a, .int .i64 b, .int .i64 n, fv] w fun e w' => e = .returned (.tuple #[]) ∧ Upd (· = g) w w' ∧ Held w' g off (P ++ (Y ++ (M ++ (X ++ S)))) := by
  subst hN; subst ha
  obtain rfl : b = ((P.length + n + M.length : Nat) : Int) := by omega
  have := swaprange_any g off cap P.length (P.length + n + M.length) n _ fv w h (by simp only [List.length_append]; omega) (by simp only [List.length_append]; omega) hm
  rwa [swapN_split P X M Y S n hX hY] at this

set_option maxHeartbeats 3000000 in
theorem rotate_split (g off cap : Nat) (P X Y S : List Item) (hX : 0 < X.length) (hY : 0 < Y.length) (N : Nat) (hN : (P ++ (X ++ (Y ++ S))).length = N) (hm : N ≤ 4611686018427387904) (a m b : Int) (ha : a = P.length) (hmm : m = P.length + X.length) (hb : b = P.length + X.length + Y.length)
    (fv : Value) (w : World) (h : Held w g off (P ++ (X ++ (Y ++ S)))) :
    Calls Tryz.prog 130 #[.slice (some ⟨g, off, none⟩) N cap, .int .i64 a, .int .i64 m, .int .i64 b, fv] w fun e w' => e = .returned (.tuple #[]) ∧ Upd (· = g) w w' ∧ Held w' g off (P ++ (Y ++ (X ++ S))) := by
  have hNl : P.length + (X.length + (Y.length + S.length)) = N := by rw [← hN]; simp only [List.length_append]
  have ei : m - a = (X.length : Int) := by omega
  have ej : b - m = (Y.length : Int) := by omega
  have m0 : 0 ≤ m := by omega
  have m1 : m ≤ 4611686018427387904 := by omega
  have a0 : 0 ≤ a := by omega
  have a1 : a ≤ 4611686018427387904 := by omega
  have b0 : 0 ≤ b := by omega
  have b1 : b ≤ 4611686018427387904 := by omega
  have HA := hide ha
  have HM := hide hmm
  have HB := hide hb
  clear ha hmm hb
  go_enter Tryz.func130, Tryz.ntmps130
  go_wp2_with fail
  go_loopw [10, 11] (fun iv jv wr => ∃ P' X' Y' S' : List Item, iv = .int .i64 X'.length ∧ jv = .int .i64 Y'.length ∧ 0 < X'.length ∧ 0 < Y'.length ∧ Hid (m = P'.length + X'.length) ∧ Hid (P'.length + (X'.length + (Y'.length + S'.length)) = N) ∧ Upd (· = g) w wr ∧ Held wr g off (P' ++ (X' ++ (Y' ++ S'))) ∧ Hid (P' ++ (Y' ++ (X' ++ S')) = P ++ (Y ++ (X ++ S)))) (fun iv jv _ => (intOf iv).toNat + (intOf jv).toNat)
  case atStart => exact ⟨P, X, Y, S, rfl, rfl, hX, hY, HM, hNl, Upd.refl _ _, h, hide rfl⟩
  case round =>
    obtain ⟨P', X', Y', S', rfl, rfl, hx, hy, HM', HN', hu, hh, HE⟩ := hrel
    have hN2 := unhide HN'
    have hM2 := unhide HM'
    rcases (by omega : X'.length = Y'.length ∨ Y'.length < X'.length ∨ X'.length < Y'.length) with e | hlt | hlt
    · have e' : ((X'.length : Int) != (Y'.length : Int)) = false := by rw [bne_eq_false_iff_eq]; omega
      have H := hide (swaprange_split g off cap P' X' [] Y' S' X'.length rfl e.symm N (by simp only [List.length_append, List.nil_append]; omega) hm (m - X'.length) m (by omega) (by simp; omega) fv wr (by simpa using hh))
      have e1 : IntKind.i64.wrap (m - (X'.length : Int)) = m - (X'.length : Int) := IntWalk.i64_in _ (by omega)
      clear hN2 hM2 e ei ej
      go_wp2_with fail
      refine (unhide H).mono ?_
      rintro e w1 ⟨rfl, u1, h1⟩
      go_wp2
      go_end0
      refine ⟨rfl, hu.trans u1, ?_⟩
      rw [← unhide HE]
      simpa using h1
    · have e' : ((X'.length : Int) != (Y'.length : Int)) = true := by rw [bne_iff_ne]; omega
      obtain ⟨X1, X2, hX', h1, h2⟩ : ∃ X1 X2 : List Item, X' = X1 ++ X2 ∧ X1.length = Y'.length ∧ X2.length = X'.length - Y'.length :=
        ⟨X'.take Y'.length, X'.drop Y'.length, (List.take_append_drop _ _).symm, by rw [List.length_take]; omega, List.length_drop⟩
      have H := hide (swaprange_split g off cap P' X1 X2 Y' S' Y'.length h1 rfl N (by simp only [List.length_append]; omega) hm (m - X'.length) m (by omega) (by omega) fv wr (by rw [hX'] at hh; simpa [List.append_assoc] using hh))
      have e1 : IntKind.i64.wrap (m - (X'.length : Int)) = m - (X'.length : Int) := IntWalk.i64_in _ (by omega)
      have e2 : IntKind.i64.wrap ((X'.length : Int) - (Y'.length : Int)) = (X'.length : Int) - (Y'.length : Int) := IntWalk.i64_in _ (by omega)
      have hb3 : (X'.length : Int) ≤ 4611686018427387904 := by omega
      have HM2 : Hid (m = (P' ++ Y').length + X2.length) := hide (by rw [List.length_append]; omega)
      have HN3 : Hid ((P' ++ Y').length + (X2.length + (X1.length + S'.length)) = N) := hide (by rw [List.length_append]; omega)
      have HE3 : Hid ((P' ++ Y') ++ (X1 ++ (X2 ++ S')) = P ++ (Y ++ (X ++ S))) := hide (by rw [← unhide HE, hX']; simp [List.append_assoc])
      have h2' : 0 < X2.length := by omega
      have h1' : 0 < X1.length := by omega
      have H1 := hide h1
      have H2 := hide h2
      clear hN2 hM2 ei ej h1 h2 hX'
      go_wp2_with fail
      refine (unhide H).mono ?_
      rintro e w1 ⟨rfl, u1, hh1⟩
      go_wp2
      go_roundw
      case rel =>
        refine ⟨P' ++ Y', X2, X1, S', ?_, ?_, h2', h1', HM2, HN3, hu.trans u1, by simpa [List.append_assoc] using hh1, HE3⟩
        · have := unhide H2; congr 1; omega
        · rw [unhide H1]
      case measure => simp [intOf]; omega
    · have e' : ((X'.length : Int) != (Y'.length : Int)) = true := by rw [bne_iff_ne]; omega
      obtain ⟨Y1, Y2, hY', h1, h2⟩ : ∃ Y1 Y2 : List Item, Y' = Y1 ++ Y2 ∧ Y1.length = Y'.length - X'.length ∧ Y2.length = X'.length :=
        ⟨Y'.take (Y'.length - X'.length), Y'.drop (Y'.length - X'.length), (List.take_append_drop _ _).symm, by rw [List.length_take]; omega, by rw [List.length_drop]; omega⟩
      have H := hide (swaprange_split g off cap P' X' Y1 Y2 S' X'.length rfl h2 N (by simp only [List.length_append]; omega) hm (m - X'.length) (m + Y'.length - X'.length) (by omega) (by omega) fv wr (by rw [hY'] at hh; simpa [List.append_assoc] using hh))
      have hb3 : (Y'.length : Int) ≤ 4611686018427387904 := by omega
      have e1 : IntKind.i64.wrap (m - (X'.length : Int)) = m - (X'.length : Int) := IntWalk.i64_in _ (by omega)
      have hq1 : m + (Y'.length : Int) ≤ 4611686018427387904 := by omega
      have hq2 : (X'.length : Int) ≤ m := by omega
      have HM2 : Hid (m = P'.length + Y2.length) := hide (by omega)
      have HN3 : Hid (P'.length + (Y2.length + (Y1.length + (X' ++ S').length)) = N) := hide (by rw [List.length_append]; omega)
      have HE3 : Hid (P' ++ (Y1 ++ (Y2 ++ (X' ++ S'))) = P ++ (Y ++ (X ++ S))) := hide (by rw [← unhide HE, hY']; simp [List.append_assoc])
      have h2' : 0 < Y2.length := by omega
      have h1' : 0 < Y1.length := by omega
      have H1 := hide h1
      have H2 := hide h2
      clear hN2 hM2 ei ej h1 h2 hY'
      go_wp2_with fail
      refine (unhide H).mono ?_
      rintro e w1 ⟨rfl, u1, hh1⟩
      go_wp2
      go_roundw
      case rel =>
        refine ⟨P', Y2, Y1, X' ++ S', ?_, ?_, h2', h1', HM2, HN3, hu.trans u1, by simpa [List.append_assoc] using hh1, HE3⟩
        · rw [unhide H2]
        · have := unhide H1; congr 1; omega
      case measure => simp [intOf]; omega

end Go.Proofs.YtjpmomdechibmaaGreatDoor

/-
  Plain facts on sorted lists of items with their first places beside them. No program in sight.
-/
namespace Go.Proofs.YtjpmomdechibmaaGreatDoor
set_option linter.unusedVariables false
set_option linter.unusedSimpArgs false
open Go.RowKit Go.Sort

/-- What order tells of two items. -/
def cf (x y : Item) : Int := ordI x.offered y.offered x.h.id y.h.id
def kl (x y : Item) : Prop := rankI x.offered < rankI y.offered ∨ (rankI x.offered = rankI y.offered ∧ x.h.id < y.h.id)
theorem cf_lt (x y : Item) : cf x y < 0 ↔ kl x y := by
  unfold cf ordI cmp2 cmpI kl
  generalize rankI x.offered = a
  generalize rankI y.offered = b
  generalize x.h.id = c
  generalize y.h.id = d
  split <;> split <;> (try split) <;> (try split) <;> omega
theorem kl_trans {x y z : Item} (h : kl x y) (k : kl y z) : kl x z := by unfold kl at *; omega
theorem kl_irrefl (x : Item) : ¬ kl x x := by unfold kl; omega
/-- Strictly ahead of: by the order, then by the first places. -/
def lt' (p q : Item × Nat) : Prop := kl p.1 q.1 ∨ (¬ kl q.1 p.1 ∧ p.2 < q.2)
theorem lt'_trans {p q r : Item × Nat} (h : lt' p q) (k : lt' q r) : lt' p r := by unfold lt' kl at *; omega
theorem lt'_irrefl (p : Item × Nat) : ¬ lt' p p := by unfold lt' kl; omega
abbrev Srt (l : List (Item × Nat)) : Prop := l.Pairwise lt'
/-- All of A ahead of all of B. -/
def AllLt (A B : List (Item × Nat)) : Prop := ∀ p ∈ A, ∀ q ∈ B, lt' p q
theorem srt_append {A B : List (Item × Nat)} : Srt (A ++ B) ↔ Srt A ∧ Srt B ∧ AllLt A B := List.pairwise_append
theorem allLt_of_last {A B : List (Item × Nat)} (hA : Srt A) (hB : Srt B) (h : ∀ p q, A.getLast? = some p → B.head? = some q → lt' p q) : AllLt A B := by
  intro p hp q hq
  cases B with
  | nil => cases hq
  | cons b B =>
    obtain ⟨a, ha⟩ : ∃ a, A.getLast? = some a := by
      cases hl : A.getLast? with
      | none => rw [List.getLast?_eq_none_iff] at hl; subst hl; cases hp
      | some a => exact ⟨a, rfl⟩
    have hab := h a b ha rfl
    have h1 : p = a ∨ lt' p a := by
      obtain ⟨ys, rfl⟩ := List.getLast?_eq_some_iff.1 ha
      rcases List.mem_append.1 hp with hp | hp
      · exact .inr ((List.pairwise_append.1 hA).2.2 p hp a (List.mem_singleton.2 rfl))
      · exact .inl (List.mem_singleton.1 hp)
    have h2 : q = b ∨ lt' b q := by
      rcases List.mem_cons.1 hq with rfl | hq
      · exact .inl rfl
      · exact .inr ((List.pairwise_cons.1 hB).1 q hq)
    rcases h1 with rfl | h1 <;> rcases h2 with rfl | h2
    · exact hab
    · exact lt'_trans hab h2
    · exact lt'_trans h1 hab
    · exact lt'_trans h1 (lt'_trans hab h2)
/-- The first places of all of A are below those of all of B. -/
def Low (A B : List (Item × Nat)) : Prop := ∀ p ∈ A, ∀ q ∈ B, p.2 < q.2
theorem perm_swap_mid {α : Type} (A1 A2 B1 B2 : List α) : (A1 ++ (B1 ++ (A2 ++ B2))).Perm ((A1 ++ A2) ++ (B1 ++ B2)) := by
  rw [List.append_assoc]
  refine List.Perm.append_left A1 ?_
  rw [← List.append_assoc, ← List.append_assoc]
  exact List.Perm.append_right B2 List.perm_append_comm
/-- One ahead of many, laid in at its place. -/
theorem ins_left {x : Item × Nat} {B1 B2 : List (Item × Nat)} (hB : Srt (B1 ++ B2)) (hl : Low [x] (B1 ++ B2)) (h1 : ∀ p, B1.getLast? = some p → kl p.1 x.1) (h2 : ∀ q, B2.head? = some q → ¬ kl q.1 x.1) : Srt (B1 ++ (x :: B2)) := by
  obtain ⟨s1, s2, s3⟩ := srt_append.1 hB
  have hx : ∀ p ∈ B1, lt' p x := fun p hp => by
    have := allLt_of_last (A := B1) (B := [x]) s1 (List.pairwise_singleton _ _) (fun p q hp hq => by
      simp only [List.head?_cons, Option.some.injEq] at hq
      subst hq
      exact .inl (h1 p hp))
    exact this p hp x (List.mem_singleton.2 rfl)
  have hy : ∀ q ∈ B2, lt' x q := fun q hq => by
    have := allLt_of_last (A := [x]) (B := B2) (List.pairwise_singleton _ _) s2 (fun p q hp hq => by
      simp only [List.getLast?_singleton, Option.some.injEq] at hp
      subst hp
      refine .inr ⟨h2 q hq, hl x (List.mem_singleton.2 rfl) q ?_⟩
      cases B2 with
      | nil => cases hq
      | cons b r => simp only [List.head?_cons, Option.some.injEq] at hq; subst hq; exact List.mem_append_right _ List.mem_cons_self)
    exact this x (List.mem_singleton.2 rfl) q hq
  refine srt_append.2 ⟨s1, List.pairwise_cons.2 ⟨hy, s2⟩, fun p hp q hq => ?_⟩
  rcases List.mem_cons.1 hq with rfl | hq
  · exact hx p hp
  · exact s3 p hp q hq
/-- One behind many, laid in at its place. -/
theorem ins_right {y : Item × Nat} {A1 A2 : List (Item × Nat)} (hA : Srt (A1 ++ A2)) (hl : Low (A1 ++ A2) [y]) (h1 : ∀ p, A1.getLast? = some p → ¬ kl y.1 p.1) (h2 : ∀ q, A2.head? = some q → kl y.1 q.1) : Srt (A1 ++ (y :: A2)) := by
  obtain ⟨s1, s2, s3⟩ := srt_append.1 hA
  have hx : ∀ p ∈ A1, lt' p y := fun p hp => by
    have := allLt_of_last (A := A1) (B := [y]) s1 (List.pairwise_singleton _ _) (fun p q hp hq => by
      simp only [List.head?_cons, Option.some.injEq] at hq
      subst hq
      refine .inr ⟨h1 p hp, hl p ?_ y (List.mem_singleton.2 rfl)⟩
      exact List.mem_append_left _ (List.mem_of_getLast? hp))
    exact this p hp y (List.mem_singleton.2 rfl)
  have hy : ∀ q ∈ A2, lt' y q := fun q hq => by
    have := allLt_of_last (A := [y]) (B := A2) (List.pairwise_singleton _ _) s2 (fun p q hp hq => by
      simp only [List.getLast?_singleton, Option.some.injEq] at hp
      subst hp
      exact .inl (h2 q hq))
    exact this y (List.mem_singleton.2 rfl) q hq
  refine srt_append.2 ⟨s1, List.pairwise_cons.2 ⟨hy, s2⟩, fun p hp q hq => ?_⟩
  rcases List.mem_cons.1 hq with rfl | hq
  · exact hx p hp
  · exact s3 p hp q hq
/-- The halves of a symmetric merge: all of the first ahead of all of the second. -/
theorem halves {A1 A2 B1 B2 : List (Item × Nat)} (hA : Srt (A1 ++ A2)) (hB : Srt (B1 ++ B2)) (hl : Low (A1 ++ A2) (B1 ++ B2))
    (h1 : ∀ p q, B1.getLast? = some p → A2.head? = some q → kl p.1 q.1) (h2 : ∀ p q, A1.getLast? = some p → B2.head? = some q → ¬ kl q.1 p.1) : AllLt (A1 ++ B1) (A2 ++ B2) := by
  obtain ⟨a1, a2, a3⟩ := srt_append.1 hA
  obtain ⟨b1, b2, b3⟩ := srt_append.1 hB
  have c1 : AllLt B1 A2 := allLt_of_last b1 a2 (fun p q hp hq => .inl (h1 p q hp hq))
  have c2 : AllLt A1 B2 := allLt_of_last a1 b2 (fun p q hp hq => .inr ⟨h2 p q hp hq, hl p (List.mem_append_left _ (List.mem_of_getLast? hp)) q (List.mem_append_right _ (List.mem_of_head? hq))⟩)
  intro p hp q hq
  rcases List.mem_append.1 hp with hp | hp <;> rcases List.mem_append.1 hq with hq | hq
  · exact a3 p hp q hq
  · exact c2 p hp q hq
  · exact c1 p hp q hq
  · exact b3 p hp q hq

end Go.Proofs.YtjpmomdechibmaaGreatDoor
