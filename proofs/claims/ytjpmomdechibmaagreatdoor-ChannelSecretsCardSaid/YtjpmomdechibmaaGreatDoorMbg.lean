/-
  symMerge whole; the blocks of the stable sort, in plain lists.
-/
import Derived.Test.YtjpmomdechibmaaGreatDoorSo6
import Derived.Great.BuildSlice
namespace Go.Proofs.YtjpmomdechibmaaGreatDoor
set_option linter.unusedVariables false
set_option linter.unusedSimpArgs false
open Go.RowKit Go.Sort

theorem merge_all (g off cap N : Nat) (hm : N ≤ 2305843009213693952) : ∀ n A B, A.length + B.length = n → MergeOk g off cap N A B := by
  intro n
  induction n using Nat.strongRecOn with
  | _ n ih =>
    intro A B hn P S a m b w h1 h2 hA hB hl hN ha hmm hb h
    by_cases c1 : A.length = 1
    · obtain ⟨x, rfl⟩ := List.length_eq_one_iff.1 c1
      exact merge_left g off cap P S x B hB hl N (by simpa using hN) hm a m b ha (by simpa using hmm) hb w (by simpa using h)
    · by_cases c2 : B.length = 1
      · obtain ⟨y, rfl⟩ := List.length_eq_one_iff.1 c2
        exact merge_right g off cap P S A y hA hl N (by simpa using hN) hm a m b ha hmm (by simpa using hb) c1 w (by simpa using h)
      · exact merge_step g off cap N hm A B (by omega) (by omega) (fun A' B' hlt => ih _ (by omega) A' B' rfl) P S a m b w h1 h2 hA hB hl hN ha hmm hb h
theorem merge_any (g off cap N : Nat) (hm : N ≤ 2305843009213693952) (A B : List (Item × Nat)) : MergeOk g off cap N A B := merge_all g off cap N hm _ A B rfl

abbrev LI := List (Item × Nat)
/-- Blocks of s, each a sorted permutation of its own range; the last one may be shorter. -/
inductive Blk (s : Nat) : LI → LI → Prop
  | last (m l : LI) : m.length ≤ s → m.Perm l → Srt m → Blk s m l
  | cons (m l M L : LI) : m.length = s → m.Perm l → Srt m → Blk s M L → Blk s (m ++ M) (l ++ L)
/-- .. all of them whole. -/
inductive Full (s : Nat) : LI → LI → Prop
  | nil : Full s [] []
  | cons (m l M L : LI) : m.length = s → m.Perm l → Srt m → Full s M L → Full s (m ++ M) (l ++ L)
theorem Full.snoc {s : Nat} {M L : LI} (h : Full s M L) (m l : LI) (h1 : m.length = s) (h2 : m.Perm l) (h3 : Srt m) : Full s (M ++ m) (L ++ l) := by
  induction h with
  | nil => have := Full.cons m l [] [] h1 h2 h3 .nil; simpa using this
  | cons m' l' M L k1 k2 k3 _ ih => rw [List.append_assoc, List.append_assoc]; exact .cons _ _ _ _ k1 k2 k3 ih
theorem Full.app {s : Nat} {M L M2 L2 : LI} (h : Full s M L) (h2 : Blk s M2 L2) : Blk s (M ++ M2) (L ++ L2) := by
  induction h with
  | nil => exact h2
  | cons m' l' M L k1 k2 k3 _ ih => rw [List.append_assoc, List.append_assoc]; exact .cons _ _ _ _ k1 k2 k3 ih
theorem Full.len {s : Nat} {M L : LI} (h : Full s M L) : M.length = L.length := by
  induction h with
  | nil => rfl
  | cons m' l' M L k1 k2 k3 _ ih => rw [List.length_append, List.length_append, ih, k2.length_eq]
theorem Blk.perm {s : Nat} {M L : LI} (h : Blk s M L) : M.Perm L := by
  induction h with
  | last _ _ _ h _ => exact h
  | cons _ _ _ _ _ h _ _ ih => exact h.append ih
theorem Blk.small {s : Nat} {M L : LI} (h : Blk s M L) (hs : M.length ≤ s) : Srt M := by
  cases h with
  | last _ _ _ _ h => exact h
  | cons m l M L h1 h2 h3 h4 =>
    rw [List.length_append] at hs
    have : M = [] := List.length_eq_zero_iff.1 (by omega)
    rw [this, List.append_nil]
    exact h3
/-- More than one block: the first one, and the rest. -/
theorem Blk.first {s : Nat} {M L : LI} (h : Blk s M L) (hs : s ≤ M.length) : ∃ m l M' L', M = m ++ M' ∧ L = l ++ L' ∧ m.length = s ∧ m.Perm l ∧ Srt m ∧ Blk s M' L' := by
  cases h with
  | last _ _ h1 h2 h3 => exact ⟨M, L, [], [], by simp, by simp, by omega, h2, h3, .last _ _ (by simp) (List.Perm.refl _) List.Pairwise.nil⟩
  | cons m l M L h1 h2 h3 h4 => exact ⟨m, l, M, L, rfl, rfl, h1, h2, h3, h4⟩
theorem low_perm {A B A' B' : LI} (h : Low A B) (p : A'.Perm A) (q : B'.Perm B) : Low A' B' :=
  fun x hx y hy => h x (p.mem_iff.1 hx) y (q.mem_iff.1 hy)
theorem rising_low {A B : LI} (h : Rising (A ++ B)) : Rising A ∧ Rising B ∧ Low A B := List.pairwise_append.1 h

end Go.Proofs.YtjpmomdechibmaaGreatDoor

/-
  The stable sort's walk.
-/
namespace Go.Proofs.YtjpmomdechibmaaGreatDoor
set_option linter.unusedVariables false
set_option linter.unusedSimpArgs false
open Go.RowKit Go.Sort

set_option maxRecDepth 100000 in
set_option maxHeartbeats 1600000 in
theorem stable_any (g off cap N : Nat) (L : LI) (hL : Rising L) (hN : L.length = N) (hm : N ≤ 1152921504606846976) (w : World) (h : Held w g off (its L)) :
    Calls Tryz.prog 93 #[.slice (some ⟨g, off, none⟩) N cap, .int .i64 (N : Int), fOrd] w fun e w' => e = .returned (.tuple #[]) ∧ Upd (· = g) w w' ∧ ∃ M, M.Perm L ∧ Srt M ∧ Held w' g off (its M) := by
  have HN := hide hN
  have HL := hide hL
  clear hN hL
  go_enter Tryz.func93, Tryz.ntmps93
  go_wp2_with fail
  go_loopw [7, 8] (fun av bv wr => ∃ (a b : Nat) (M1 L1 L2 : LI), av = .int .i64 (a : Int) ∧ bv = .int .i64 (b : Int) ∧ Hid (a = M1.length) ∧ Hid (b = a + 20) ∧ Hid (L = L1 ++ L2) ∧ Hid (Full 20 M1 L1) ∧ a ≤ N ∧ Upd (· = g) w wr ∧ Held wr g off (its M1 ++ its L2)) (fun av _ _ => (N - intOf av).toNat)
  case atStart => exact ⟨0, 20, [], [], L, rfl, rfl, hide rfl, hide rfl, hide rfl, hide .nil, Nat.zero_le _, Upd.refl _ _, h⟩
  case round =>
    obtain ⟨a, b, M1, L1, L2, rfl, rfl, HA, HB, HL2, HF, aN, hu, hh⟩ := hrel
    clear h
    have eN := unhide HN
    have eA := unhide HA
    have eB := unhide HB
    have eL := unhide HL2
    have eF := (unhide HF).len
    have hlen := congrArg List.length eL
    rw [List.length_append] at hlen
    have hr := unhide HL
    rw [eL] at hr
    obtain ⟨_, hr2, _⟩ := rising_low hr
    by_cases hlt : b ≤ N
    · obtain ⟨l, L3, hL3, hl3⟩ : ∃ l L3 : LI, L2 = l ++ L3 ∧ l.length = 20 := ⟨L2.take 20, L2.drop 20, (List.take_append_drop _ _).symm, by rw [List.length_take]; omega⟩
      have hlen2 := congrArg List.length hL3
      rw [List.length_append] at hlen2
      rw [hL3] at hr2
      have H := hide (insertion_any g off cap (its M1) (its L3) l (rising_low hr2).1 N (by simp; omega) (by omega) (a : Int) (b : Int) (by simp; omega) (by simp; omega) wr (by rw [hL3] at hh; simpa [List.append_assoc] using hh))
      have HL3 := hide hL3
      have Hl3 := hide hl3
      have bb : (b : Int) ≤ 4611686018427387904 := by omega
      obtain ⟨b2, hb2⟩ : ∃ b2 : Nat, b2 = b + 20 := ⟨_, rfl⟩
      have eb2 : (b : Int) + 20 = (b2 : Int) := by omega
      have HB2 := hide hb2
      have HLT := hide (And.intro hlt (And.intro eA eB))
      clear eN eA eB eL eF hlen hr hr2 hL3 hlen2 hh hl3 hb2
      go_wp2_with fail
      refine (unhide H).mono ?_
      rintro e w1 ⟨rfl, u1, M, p1, s1, h1⟩
      have PS := hide (And.intro p1 s1)
      clear p1 s1
      go_wp2
      go_roundw
      case rel =>
        obtain ⟨p1, s1⟩ := unhide PS
        have el := p1.length_eq
        have e20 := unhide Hl3
        obtain ⟨_, eA, eB⟩ := unhide HLT
        exact ⟨b, b2, M1 ++ M, L1 ++ l, L3, rfl, rfl, hide (by rw [List.length_append]; omega), HB2, hide (by rw [unhide HL2, unhide HL3, List.append_assoc]), hide ((unhide HF).snoc _ _ (by omega) p1 s1), hlt, hu.trans u1, by simpa [List.append_assoc] using h1⟩
      case measure => obtain ⟨_, eA, eB⟩ := unhide HLT; simp [intOf]; omega
    · have H := hide (insertion_any g off cap (its M1) [] L2 hr2 N (by simp; omega) (by omega) (a : Int) (N : Int) (by simp; omega) (by simp; omega) wr (by simpa using hh))
      have HLT := hide (And.intro hlt (And.intro eA eB))
      clear eN eA eB eL eF hlen hr hr2 hh
      go_wp2_with fail
      refine (unhide H).mono ?_
      rintro e w1 ⟨rfl, u1, M, p1, s1, h1⟩
      have hblk : Blk 20 (M1 ++ M) L := by
        have eN := unhide HN
        have eL := unhide HL2
        have eF := (unhide HF).len
        have hlen := congrArg List.length eL
        rw [List.length_append] at hlen
        have := p1.length_eq
        obtain ⟨k, eA, eB⟩ := unhide HLT
        rw [eL]
        exact (unhide HF).app (.last _ _ (by omega) p1 s1)
      have hh1 : Held w1 g off (its (M1 ++ M)) := by simpa [List.append_assoc] using h1
      have hu1 := hu.trans u1
      generalize M1 ++ M = M0 at hblk hh1
      have HBLK := hide hblk
      obtain ⟨wo, rfl⟩ : ∃ wo : World, wo = w1 := ⟨_, rfl⟩
      clear p1 s1 h1 u1 hu hblk H HLT HL2 HF
      go_wp2_with fail
      go_loopw [6] (fun sv wr => ∃ (s : Nat) (M : LI), sv = .int .i64 (s : Int) ∧ 0 < s ∧ s ≤ 2 * N + 20 ∧ Hid (Blk s M L) ∧ Upd (· = g) w wr ∧ Held wr g off (its M)) (fun sv _ => (N - intOf sv).toNat)
      case atStart => exact ⟨20, M0, rfl, by omega, by omega, HBLK, hu1, hh1⟩
      case round =>
        obtain ⟨s, M, rfl, s0, s1, HK, hu2, hh2⟩ := hrel
        clear hh1 hu1 HBLK
        by_cases hlt : s < N
        · have s2 : (s : Int) ≤ 1152921504606846976 := by omega
          obtain ⟨t, et⟩ : ∃ t : Nat, t = 2 * s := ⟨_, rfl⟩
          have et1 : 2 * (s : Int) = (t : Int) := by omega
          have et2 : (s : Int) * 2 = (t : Int) := by omega
          have tb : (t : Int) ≤ 2305843009213693952 := by omega
          have HT := hide et
          clear et
          obtain ⟨wo2, rfl⟩ : ∃ wo2 : World, wo2 = wr := ⟨_, rfl⟩
          go_wp2_with fail
          go_loopw [7, 8] (fun av bv wr => ∃ (a b : Nat) (Dm Dl Rm Rl : LI), av = .int .i64 (a : Int) ∧ bv = .int .i64 (b : Int) ∧ Hid (a = Dm.length) ∧ Hid (b = a + t) ∧ Hid (L = Dl ++ Rl) ∧ Hid (Full t Dm Dl) ∧ Hid (Blk s Rm Rl) ∧ a ≤ N ∧ Upd (· = g) w wr ∧ Held wr g off (its Dm ++ its Rm)) (fun av _ _ => (N - intOf av).toNat)
          case atStart => exact ⟨0, t, [], [], M, L, rfl, rfl, hide rfl, hide (by omega), hide rfl, hide .nil, HK, Nat.zero_le _, hu2, hh2⟩
          case round =>
            obtain ⟨a, b, Dm, Dl, Rm, Rl, rfl, rfl, HA, HB, HL2, HF, HR, aN, hu3, hh3⟩ := hrel
            clear hh2 hu2
            have eN := unhide HN
            have eA := unhide HA
            have eB := unhide HB
            have eT := unhide HT
            have eL := unhide HL2
            have eF := (unhide HF).len
            have eR := (unhide HR).perm.length_eq
            have hlen := congrArg List.length eL
            rw [List.length_append] at hlen
            have hr := unhide HL
            rw [eL] at hr
            obtain ⟨_, hr2, _⟩ := rising_low hr
            obtain ⟨m, em0⟩ : ∃ m : Nat, m = a + s := ⟨_, rfl⟩
            have em : (a : Int) + (s : Int) = (m : Int) := by omega
            have mb : (m : Int) ≤ 2305843009213693952 := by omega
            by_cases hle : b ≤ N
            · obtain ⟨m1, l1, R1, Q1, rfl, rfl, k1, p1, q1, B1⟩ := (unhide HR).first (by omega)
              rw [List.length_append] at eR hlen
              rw [List.length_append] at eR
              obtain ⟨m2, l2, R2, Q2, rfl, rfl, k2, p2, q2, B2⟩ := B1.first (by have := B1.perm.length_eq; omega)
              have e1 := p1.length_eq
              have e2 := p2.length_eq
              have e3 := B2.perm.length_eq
              rw [List.length_append] at hlen
              obtain ⟨_, hr3, hlow⟩ := rising_low hr2
              have hlow2 : Low m1 m2 := low_perm (fun x hx y hy => hlow x hx y (List.mem_append_left _ hy)) p1 p2
              have H := hide (merge_any g off cap N (by omega) m1 m2 (its Dm) (its R2) a m b wr (by omega) (by omega) q1 q2 hlow2 (by simp; omega) (by simp; omega) (by omega) (by omega) (by simpa [List.append_assoc] using hh3))
              obtain ⟨b2, hb2⟩ : ∃ b2 : Nat, b2 = b + t := ⟨_, rfl⟩
              have eb2 : (b : Int) + (t : Int) = (b2 : Int) := by omega
              have b2b : (b2 : Int) ≤ 4611686018427387904 := by omega
              have HB2 := hide hb2
              have HK2 := hide (And.intro eA (And.intro eB (And.intro eT (And.intro k1 (And.intro k2 (And.intro p1 (And.intro p2 B2)))))))
              clear eN eA eB eT eL eF eR hlen hr hr2 em0 k1 p1 q1 B1 k2 p2 q2 B2 e1 e2 e3 hr3 hlow hlow2 hh3 hb2
              go_wp2_with fail
              refine (unhide H).mono ?_
              rintro e w3 ⟨rfl, u3, M3, p3, s3, h3⟩
              have PS := hide (And.intro p3 s3)
              clear p3 s3
              go_wp2
              go_roundw
              case rel =>
                obtain ⟨p3, s3⟩ := unhide PS
                obtain ⟨eA, eB, eT, k1, k2, p1, p2, B2⟩ := unhide HK2
                have el := p3.length_eq
                rw [List.length_append] at el
                refine ⟨b, b2, Dm ++ M3, Dl ++ (l1 ++ l2), R2, Q2, rfl, rfl, hide (by rw [List.length_append]; omega), HB2, hide (by rw [unhide HL2]; simp [List.append_assoc]), hide ((unhide HF).snoc _ _ (by omega) (p3.trans (p1.append p2)) s3), hide B2, hle, hu3.trans u3, by simpa [List.append_assoc] using h3⟩
              case measure => obtain ⟨eA, eB, eT, k1, k2, p1, p2, B2⟩ := unhide HK2; simp [intOf]; omega
            · rw [← eT] at *
              by_cases hmn : m < N
              · obtain ⟨m1, l1, R1, Q1, rfl, rfl, k1, p1, q1, B1⟩ := (unhide HR).first (by omega)
                rw [List.length_append] at eR hlen
                rw [List.length_append] at eR
                have e1 := p1.length_eq
                have p2 := B1.perm
                have e2 := p2.length_eq
                have q2 := B1.small (by omega)
                have hlow2 : Low m1 R1 := low_perm (rising_low hr2).2.2 p1 p2
                have H := hide (merge_any g off cap N (by omega) m1 R1 (its Dm) [] a m N wr (by omega) (by omega) q1 q2 hlow2 (by simp; omega) (by simp; omega) (by omega) (by omega) (by simpa [List.append_assoc] using hh3))
                have HK2 := hide (And.intro eA (And.intro eB (And.intro eT (And.intro k1 (And.intro p1 (And.intro p2 (And.intro e1 (And.intro e2 (And.intro hlen (And.intro eF eN))))))))))
                clear eN eA eB eT eL eF eR hlen hr hr2 em0 k1 p1 q1 B1 p2 q2 e1 e2 hlow2 hh3
                go_wp2_with fail
                refine (unhide H).mono ?_
                rintro e w3 ⟨rfl, u3, M3, p3, s3, h3⟩
                have PS := hide (And.intro p3 s3)
                clear p3 s3
                go_wp2
                go_roundw
                case rel =>
                  obtain ⟨p3, s3⟩ := unhide PS
                  obtain ⟨eA, eB, eT, k1, p1, p2, e1, e2, hlen, eF, eN⟩ := unhide HK2
                  have el := p3.length_eq
                  rw [List.length_append] at el
                  refine ⟨t, Dm ++ M3, rfl, by omega, by omega, hide ?_, hu3.trans u3, by simpa [List.append_assoc] using h3⟩
                  rw [unhide HL2]
                  exact (unhide HF).app (.last _ _ (by omega) (p3.trans (p1.append p2)) s3)
                case measure => obtain ⟨eA, eB, eT, _⟩ := unhide HK2; simp [intOf]; omega
              · have q2 := (unhide HR).small (by omega)
                have hfin : Blk t (Dm ++ Rm) L := by rw [eL]; exact (unhide HF).app (.last _ _ (by omega) (unhide HR).perm q2)
                have hh4 : Held wr g off (its (Dm ++ Rm)) := by simpa using hh3
                have HFIN := hide hfin
                have HK2 := hide eT
                clear eN eA eB eT eL eF eR hlen hr hr2 em0 q2 hfin hh3
                go_wp2
                go_roundw
                case rel =>
                  have eT := unhide HK2
                  exact ⟨t, Dm ++ Rm, rfl, by omega, by omega, HFIN, hu3, hh4⟩
                case measure => have eT := unhide HK2; simp [intOf]; omega
        · have hp := (unhide HK).perm
          have hl := hp.length_eq
          have hs := (unhide HK).small (by have := unhide HN; omega)
          have HPS := hide (And.intro hp hs)
          clear hp hs hl
          go_wp2
          go_end0
          exact ⟨rfl, hu2, M, (unhide HPS).1, (unhide HPS).2, hh2⟩

theorem its_zip (X : List Item) : its X.zipIdx = X := by simp [its]
theorem rising_zip : ∀ (X : List Item) (k : Nat), Rising (X.zipIdx k) := by
  intro X
  induction X with
  | nil => intro k; exact List.Pairwise.nil
  | cons x X ih =>
    intro k
    rw [List.zipIdx_cons]
    refine List.pairwise_cons.2 ⟨fun p hp => ?_, ih _⟩
    have := List.le_snd_of_mem_zipIdx hp
    omega
theorem sortstable_any (g off cap N : Nat) (X : List Item) (hN : X.length = N) (hm : N ≤ 1152921504606846976) (w : World) (h : Held w g off X) :
    Calls Tryz.prog 62 #[.slice (some ⟨g, off, none⟩) N cap, fOrd] w fun e w' => e = .returned (.tuple #[]) ∧ Upd (· = g) w w' ∧ ∃ M, M.Perm X.zipIdx ∧ Srt M ∧ Held w' g off (its M) := by
  have H := hide (stable_any g off cap N X.zipIdx (rising_zip X 0) (by simpa using hN) hm w (by rw [its_zip]; exact h))
  go_enter Tryz.func62, Tryz.ntmps62
  go_wp2_with fail
  refine (unhide H).mono ?_
  rintro e w1 ⟨rfl, u1, M, p1, s1, h1⟩
  have HPS := hide (And.intro p1 s1)
  clear p1 s1
  go_wp2
  go_end0
  exact ⟨rfl, u1, M, (unhide HPS).1, (unhide HPS).2, h1⟩

end Go.Proofs.YtjpmomdechibmaaGreatDoor

/-
  A row that the call owns holds items; the sort of nothing; the sums.
-/
namespace Go.Proofs.YtjpmomdechibmaaGreatDoor
set_option linter.unusedVariables false
set_option linter.unusedSimpArgs false
open Go.RowKit Go.Sort

theorem flat_len (X : List Item) : (X.flatMap itemCells).length = X.length * 36 := by
  induction X with
  | nil => rfl
  | cons x X ih => rw [List.flatMap_cons, List.length_append, ih, item_len, List.length_cons]; omega
theorem flat_get : ∀ (X : List Item) (i j : Nat), i < X.length → j < 36 → (X.flatMap itemCells)[i * 36 + j]? = (itemCells X[i]!)[j]? := by
  intro X
  induction X with
  | nil => intro i j h; simp at h
  | cons x X ih =>
    intro i j hi hj
    rw [List.flatMap_cons]
    cases i with
    | zero => rw [List.getElem?_append_left (by rw [item_len]; omega), Nat.zero_mul, Nat.zero_add]; rfl
    | succ i =>
      rw [List.getElem?_append_right (by rw [item_len]; omega), item_len, show (i + 1) * 36 + j - 36 = i * 36 + j by omega, ih i j (by simpa using hi) hj]
      rfl
theorem held_of_owns {w : World} {base : Nat} {v : Value} {n : Nat} {X : List Item} (h : w.ownsRow base 129 36 v n (X.flatMap itemCells)) :
    n = X.length ∧ ((v = .slice none 0 0 ∧ X = []) ∨ ∃ g cap, v = .slice (some ⟨g, 0, none⟩) X.length cap ∧ base ≤ g ∧ Held w g 0 X) := by
  have hn : n = X.length := by have := h.1; rw [flat_len] at this; omega
  refine ⟨hn, ?_⟩
  subst hn
  rcases h.2 with ⟨e, e0⟩ | ⟨g, cap, cur, e, hb, hg, hc, _, hs, ht⟩
  · exact .inl ⟨e, List.length_eq_zero_iff.1 e0⟩
  · refine .inr ⟨g, cap, e, hb, cur, _, hg, by have := Nat.mul_le_mul_right 36 hc; omega, fun i hi j hj => ?_⟩
    rw [Nat.zero_add, ← flat_get X i j hi hj, ← ht, List.getElem?_take, if_pos (by have := Nat.mul_le_mul_right 36 (show i + 1 ≤ X.length from hi); omega), Array.getElem?_toList]

set_option maxRecDepth 100000 in
theorem insertion_none (w : World) : Calls Tryz.prog 112 #[.slice none 0 0, .int .i64 0, .int .i64 0, fOrd] w (Reads (.tuple #[]) w) := by
  go_enter Tryz.func112, Tryz.ntmps112
  go_wp2_with fail
  go_loopw [8] (fun iv wr => iv = .int .i64 1 ∧ wr = w) (fun _ _ => 0)
  case atStart => exact ⟨rfl, rfl⟩
  case round =>
    obtain ⟨rfl, rfl⟩ := hrel
    go_wp2
    go_end0
    exact ⟨rfl, 0, rfl⟩
set_option maxRecDepth 100000 in
theorem stable_none (w : World) : Calls Tryz.prog 93 #[.slice none 0 0, .int .i64 0, fOrd] w (Reads (.tuple #[]) w) := by
  go_enter Tryz.func93, Tryz.ntmps93
  go_wp2_with fail
  go_loopw [7, 8] (fun av bv wr => av = .int .i64 0 ∧ bv = .int .i64 20 ∧ wr = w) (fun _ _ _ => 0)
  case atStart => exact ⟨rfl, rfl, rfl⟩
  case round =>
    obtain ⟨rfl, rfl, rfl⟩ := hrel
    go_wp2_with fail
    refine (insertion_none _).mono ?_
    rintro e w1 ⟨rfl, q1⟩
    obtain ⟨wo, rfl⟩ : ∃ wo : World, wo = w1 := ⟨_, rfl⟩
    go_wp2_with fail
    go_loopw [6] (fun sv wr => sv = .int .i64 20 ∧ wr = wo) (fun _ _ => 0)
    case atStart => exact ⟨rfl, rfl⟩
    case round =>
      obtain ⟨rfl, rfl⟩ := hrel
      go_wp2
      go_end0
      exact ⟨rfl, q1⟩
theorem sortstable_none (w : World) : Calls Tryz.prog 62 #[.slice none 0 0, fOrd] w (Reads (.tuple #[]) w) := by
  go_enter Tryz.func62, Tryz.ntmps62
  go_wp2_with fail
  refine (stable_none _).mono ?_
  rintro e w1 ⟨rfl, q1⟩
  go_wp2
  go_end0
  exact ⟨rfl, q1⟩

end Go.Proofs.YtjpmomdechibmaaGreatDoor

/-
  An item that is built of its parts, and a row of one item.
-/
namespace Go.Proofs.YtjpmomdechibmaaGreatDoor
set_option linter.unusedVariables false
set_option linter.unusedSimpArgs false
open Go.RowKit Go.Sort

theorem fill_all (Z : List Value) : ∀ (A : List Value) (L : List Value), Z.length = A.length → (A.zipIdx).foldl (fun (cs : Array Value) (c, j) => cs.setIfInBounds (L.length + j) c) (L ++ Z).toArray = (L ++ A).toArray := by
  intro A L h
  have key : ∀ (A : List Value) (k : Nat) (P Z : List Value), Z.length = A.length → P.length = L.length + k → (A.zipIdx k).foldl (fun (cs : Array Value) (c, j) => cs.setIfInBounds (L.length + j) c) (P ++ Z).toArray = (P ++ A).toArray := by
    intro A
    induction A with
    | nil => intro k P Z hz _; rw [List.length_eq_zero_iff.1 hz]; rfl
    | cons a A ih =>
      intro k P Z hz hp
      cases Z with
      | nil => simp at hz
      | cons z Z =>
        rw [List.zipIdx_cons, List.foldl_cons]
        have e : (P ++ z :: Z).toArray.setIfInBounds (L.length + k) a = ((P ++ [a]) ++ Z).toArray := by
          rw [← hp]; simp
        show List.foldl _ ((P ++ z :: Z).toArray.setIfInBounds (L.length + k) a) _ = _
        rw [e, ih (k + 1) (P ++ [a]) Z (by simpa using hz) (by simp [hp]; omega)]
        simp
  have := key A 0 L Z h rfl
  exact this
theorem Tryz.zeroItem : ((Tryz.prog.info? 129).map fun i => i.zero.map fun z => z.cells.toList) = some (some (.bool false :: .int .u64 0 :: .int .u64 0 :: (List.replicate 32 (.int .u8 0) ++ [.int .i64 0]))) := by kernel_rfl
theorem item_zero : ∃ i z, Tryz.prog.info? 129 = some i ∧ i.zero = some z ∧ z.cells = (.bool false :: .int .u64 0 :: .int .u64 0 :: (List.replicate 32 (.int .u8 0) ++ [.int .i64 0])).toArray := by
  have h := Tryz.zeroItem
  cases hi : Tryz.prog.info? 129 with
  | none => rw [hi] at h; simp at h
  | some i =>
    rw [hi, Option.map_some, Option.some.injEq] at h
    cases hz : i.zero with
    | none => rw [hz] at h; simp at h
    | some z =>
      rw [hz, Option.map_some, Option.some.injEq] at h
      exact ⟨i, z, rfl, hz, by rw [← h]⟩
theorem built_struct {P : Program} {t : TypeId} {it : TypeInfo} {z : Value} {fields : Array Field} {places : List (Nat × Nat)} (hi : P.info? t = some it) (hu : P.underlying t = some (.struct fields)) (hz : it.zero = some z)
    (hp : fields.toList.mapM (fun f => (P.info? f.type).map fun i => (f.offset, i.size)) = some places) (parts : List (Nat × Value)) : P.built t parts = Instr.fill (places.toArray[·]?) z.cells parts := by
  unfold Program.built
  rw [hi, hu]
  simp only [hz, hp]
theorem built_item (b : Bool) (A : List Value) (h : A.length = 35) : Tryz.prog.built 129 [(0, .bool b), (1, .agg A.toArray)] = some (.bool b :: A).toArray := by
  obtain ⟨i, z, hi, hz, hc⟩ := item_zero
  rw [built_struct (places := [(0, 1), (1, 35)]) hi Tryz.underlying129 hz (by kernel_rfl), hc]
  have hf := fill_all (.int .u64 0 :: .int .u64 0 :: (List.replicate 32 (.int .u8 0) ++ [.int .i64 0])) A [.bool b] (by rw [h]; rfl)
  have hZ : (.int .u64 0 :: .int .u64 0 :: (List.replicate 32 (.int .u8 0) ++ [.int .i64 0]) : List Value).length = 35 := rfl
  generalize (.int .u64 0 :: .int .u64 0 :: (List.replicate 32 (.int .u8 0) ++ [.int .i64 0]) : List Value) = Z at hf hZ ⊢
  simp [Instr.fill, Value.cells, h, hZ]
  exact hf
theorem row_item (A : List Value) (h : A.length = 36) (w : World) : (Instr.buildSlice 98 1 #[(0, .agg A.toArray)]).run Tryz.prog w = .ok (.slice (some ⟨w.heap.size, 0, none⟩) 1 1) (w.alloc (.cells A.toArray 129)) := by
  obtain ⟨i, z, hi, hz, hc⟩ := item_zero
  have hsz : i.size = 36 := by have := Tryz.infoItem; rw [hi] at this; simpa using this
  refine run_buildSlice w _ _ 1 _ _ i z Tryz.underlying98 hi hz (by rw [hsz]; decide) (by rw [hsz]; decide) ?_
  rw [hsz, hc]
  generalize hW : Array.map _ _ = W
  have hWs : W.toList.length = A.length := by rw [← hW, h]; simp
  have hf := fill_all W.toList A [] hWs
  have hWs2 : W.size = 36 := by rw [← h, ← hWs]; simp
  simp [Instr.fill, Value.cells, h, hWs2] at hf ⊢
  exact hf
/-- The same, kept whole. -/
def bdItem (p : Array (Nat × Value)) : Sem Value := Instr.build 129 p
theorem bd_item_fold (p : Array (Nat × Value)) : Instr.build 129 p = bdItem p := rfl
theorem bd_item (b : Bool) (A : List Value) (w : World) : (bdItem #[(0, .bool b), (1, .agg A.toArray)]).run Tryz.prog w = if A.length = 35 then .ok (.agg (.bool b :: A).toArray) w else (Instr.build 129 #[(0, .bool b), (1, .agg A.toArray)]).run Tryz.prog w := by
  by_cases h : A.length = 35
  · rw [if_pos h]; exact run_build w _ _ _ (built_item b A h)
  · rw [if_neg h]; rfl
def bsItem (n : Nat) (p : Array (Nat × Value)) : Sem Value := Instr.buildSlice 98 n p
theorem bs_item_fold (n : Nat) (p : Array (Nat × Value)) : Instr.buildSlice 98 n p = bsItem n p := rfl
theorem bs_item (A : List Value) (w : World) : (bsItem 1 #[(0, .agg A.toArray)]).run Tryz.prog w = if A.length = 36 then .ok (.slice (some ⟨w.heap.size, 0, none⟩) 1 1) (w.alloc (.cells A.toArray 129)) else (Instr.buildSlice 98 1 #[(0, .agg A.toArray)]).run Tryz.prog w := by
  by_cases h : A.length = 36
  · rw [if_pos h]; exact row_item A h w
  · rw [if_neg h]; rfl

end Go.Proofs.YtjpmomdechibmaaGreatDoor
