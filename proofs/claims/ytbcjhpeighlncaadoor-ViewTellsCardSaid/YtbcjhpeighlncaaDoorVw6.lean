/-
  Lives as flat rows of cells; slices.Clone.
-/
import Derived.Test.YtbcjhpeighlncaaDoorVw5
import Derived.Lib.LazyBuf
namespace Go.Proofs.YtbcjhpeighlncaaDoor
open Go.RowKit Go.Sort

theorem flatL_len (X : List Live) : (X.flatMap liveCells).length = X.length * 38 := by
  induction X with
  | nil => rfl
  | cons x X ih => rw [List.flatMap_cons, List.length_append, ih, live_len, List.length_cons]; omega
theorem flatL_get : ∀ (X : List Live) (i j : Nat) (x : Live), X[i]? = some x → j < 38 → (X.flatMap liveCells)[i * 38 + j]? = (liveCells x)[j]? := by
  intro X
  induction X with
  | nil => intro i j x h; simp at h
  | cons y X ih =>
    intro i j x hi hj
    rw [List.flatMap_cons]
    cases i with
    | zero =>
      simp only [List.getElem?_cons_zero, Option.some.injEq] at hi
      subst hi
      rw [List.getElem?_append_left (by rw [live_len]; omega), Nat.zero_mul, Nat.zero_add]
    | succ i =>
      rw [List.getElem?_append_right (by rw [live_len]; omega), live_len, show (i + 1) * 38 + j - 38 = i * 38 + j by omega]
      exact ih i j x (by simpa using hi) hj
theorem flatL_one (X : List Live) : ∀ u ∈ X.flatMap liveCells, u.oneCell' = true := by
  intro u hu
  obtain ⟨x, _, hx⟩ := List.mem_flatMap.1 hu
  exact live_one x u hx
/-- The same, and it may be written. -/
def HeldO (w : World) (g off : Nat) (xs : List Live) : Prop :=
  ∃ C T, w.heap[g]? = some (.cells C T (0, 0)) ∧ off + xs.length * 38 ≤ C.size ∧ ∀ i x, xs[i]? = some x → ∀ j, j < 38 → C[off + i * 38 + j]? = (liveCells x)[j]?
theorem HeldO.toL {w : World} {g off : Nat} {xs : List Live} (h : HeldO w g off xs) : HeldL w g off xs := by
  obtain ⟨C, T, hb, r⟩ := h
  exact ⟨C, T, _, hb, r⟩
theorem HeldO.row {w : World} {g off : Nat} {xs : List Live} (h : HeldO w g off xs) {i : Nat} {x : Live} (hi : xs[i]? = some x) : rowN w g (off + i * 38) 38 = some (liveCells x).toArray := h.toL.row hi
theorem HeldO.upd {S : Nat → Prop} {w w' : World} {b off : Nat} {xs : List Live} (h : HeldO w b off xs) (u : Upd S w w') (hn : ¬ S b) : HeldO w' b off xs := by
  obtain ⟨C, T, hb, r⟩ := h
  exact ⟨C, T, u.old hb hn, r⟩
/-- The cells of a row of lives, one by one. -/
theorem HeldL.cells {w : World} {g off : Nat} {X : List Live} (h : HeldL w g off X) : ∀ j u, (X.flatMap liveCells)[j]? = some u → w.cell? ((⟨g, off, none⟩ : Addr).add j) = some u := by
  intro j u hu
  obtain ⟨C, T, fz, hb, hs, hc⟩ := h
  have hj : j < X.length * 38 := by
    have := (List.getElem?_eq_some_iff.1 hu).1
    rwa [flatL_len] at this
  have hadd : (⟨g, off, none⟩ : Addr).add j = ⟨g, off + j, none⟩ := by unfold Addr.add; split <;> simp_all
  rw [hadd, blk_cell hb]
  have hi : j / 38 < X.length := Nat.div_lt_of_lt_mul (by omega)
  obtain ⟨x, hx⟩ : ∃ x, X[j / 38]? = some x := ⟨_, List.getElem?_eq_getElem hi⟩
  have e := Nat.div_add_mod j 38
  have hm := Nat.mod_lt j (show 0 < 38 by decide)
  rw [← hu, show off + j = off + j / 38 * 38 + j % 38 by omega, hc _ x hx _ hm]
  have hf := flatL_get X _ _ x hx hm
  rw [show j / 38 * 38 + j % 38 = j by omega] at hf
  exact hf.symm
theorem heldL_of_owns {w : World} {base : Nat} {v : Value} {n : Nat} {X : List Live} (h : w.ownsRow base 32 38 v n (X.flatMap liveCells)) :
    n = X.length ∧ ((v = .slice none 0 0 ∧ X = []) ∨ ∃ g cap, v = .slice (some ⟨g, 0, none⟩) X.length cap ∧ base ≤ g ∧ HeldO w g 0 X) := by
  have hn : n = X.length := by have := h.1; rw [flatL_len] at this; omega
  refine ⟨hn, ?_⟩
  subst hn
  rcases h.2 with ⟨e, e0⟩ | ⟨g, cap, cur, e, hb, hg, hc, _, hs, ht⟩
  · exact .inl ⟨e, List.length_eq_zero_iff.1 e0⟩
  · refine .inr ⟨g, cap, e, hb, cur, _, hg, by have := Nat.mul_le_mul_right 38 hc; omega, fun i x hi j hj => ?_⟩
    have hlt := (List.getElem?_eq_some_iff.1 hi).1
    rw [Nat.zero_add, ← flatL_get X i j x hi hj, ← ht, List.getElem?_take, if_pos (by have := Nat.mul_le_mul_right 38 (show i + 1 ≤ X.length from hlt); omega), Array.getElem?_toList]

theorem Tryd.infoLiveB : (Tryd.prog.info? 32).map (fun i => (i.size, i.bytes, i.zero.map (·.cells.size))) = some (38, 80, some 38) := by kernel_rfl
theorem live_info : ∃ i z, Tryd.prog.info? 32 = some i ∧ i.zero = some z ∧ i.size = 38 ∧ i.bytes = 80 ∧ z.cells.size = 38 := by
  have h := Tryd.infoLiveB
  cases hi : Tryd.prog.info? 32 with
  | none => rw [hi] at h; simp at h
  | some i =>
    rw [hi] at h
    simp only [Option.map_some, Option.some.injEq, Prod.mk.injEq] at h
    obtain ⟨h1, h2, h3⟩ := h
    cases hz : i.zero with
    | none => rw [hz] at h3; simp at h3
    | some z => rw [hz] at h3; simp at h3; exact ⟨i, z, rfl, hz, h1, h2, h3⟩

set_option maxRecDepth 100000 in
set_option maxHeartbeats 1000000 in
theorem clone_any (v : Value) (xs : List Live) (hl : xs.length ≤ 1048576) (w : World) (hv : Lives w v xs) :
    Calls Tryd.prog 33 #[v] w fun e w' => ∃ u, e = .returned u ∧ New w w' ∧ ((∃ a c, u = .slice a 0 c ∧ xs = []) ∨ ∃ g cap, u = .slice (some ⟨g, 0, none⟩) xs.length cap ∧ w.heap.size ≤ g ∧ HeldO w' g 0 xs) := by
  have hv' : (∃ c, v = .slice none 0 c ∧ xs = []) ∨ ∃ (a : Addr) (cap : Nat), v = .slice (some a) xs.length cap ∧ ∀ j u, (xs.flatMap liveCells)[j]? = some u → w.cell? (a.add j) = some u := by
    rcases hv with ⟨a, c, rfl, rfl⟩ | ⟨g, off, cap, rfl, hh⟩
    · cases a with
      | none => exact .inl ⟨_, rfl, rfl⟩
      | some a => exact .inr ⟨a, c, rfl, by simp⟩
    · exact .inr ⟨_, cap, rfl, hh.cells⟩
  rcases hv' with ⟨c, rfl, rfl⟩ | ⟨a, cap, rfl, hh⟩
  · go_enter Tryd.func33, Tryd.ntmps33
    have he := fun (w : World) => run_eql_slice_nil (P := Tryd.prog) w 25 _ none 0 c Tryd.underlying25
    go_wp2
    first | go_ret2 | go_ret
    exact ⟨_, rfl, Upd.refl _ _, .inl ⟨_, _, rfl, trivial⟩⟩
  · obtain ⟨i9, z9, hi, hz, hz0, hz1, hz2⟩ := live_info
    have he := fun (w : World) => run_eql_slice_nil (P := Tryd.prog) w 25 _ (some a) xs.length cap Tryd.underlying25
    simp only [Option.isNone_some] at he
    go_enter Tryd.func33, Tryd.ntmps33
    go_wp2_with (at_builtin; refine wpList_append_own _ rfl (.tmp 5) (.tmp 6) 25 rfl w.heap.size 32 i9 _ 38 80 Tryd.underlying25 hi hz hz0 hz1 hz2 (by decide) _ 0 [] rfl (World.ownsRow_made (base := w.heap.size) w #[] 0 (Nat.le_refl _) (by decide) rfl) a xs.length cap (xs.flatMap liveCells) rfl (flatL_len xs) ?c1 (flatL_one xs) ?c3 ?c4 ?c5 ?_)
    case c1 =>
      intro j u hj
      exact ((Upd.refl (fun _ => False) w).alloc _).cell (hh j u hj) (fun h => h)
    case c3 => unfold maxLen; omega
    case c4 => omega
    case c5 => simp
    intro v' w5 hown5 hgrow5 _
    have n5 : New w w5 := ((Upd.refl _ w).alloc _).grown hgrow5 (fun k h hk => by simp [Value.ownBlock] at h; omega)
    have hfin := (heldL_of_owns hown5).2
    obtain ⟨a5, k5, c5, rfl⟩ := own_shape hown5
    have HF := hide hfin
    clear hfin hown5 hgrow5
    go_wp2
    first | go_ret2 | go_ret
    refine ⟨_, rfl, n5, ?_⟩
    rcases unhide HF with h | ⟨g', cap', e, hb, hh'⟩
    · exact .inl ⟨_, _, h.1, h.2⟩
    · exact .inr ⟨g', cap', e, hb, hh'⟩

end Go.Proofs.YtbcjhpeighlncaaDoor
