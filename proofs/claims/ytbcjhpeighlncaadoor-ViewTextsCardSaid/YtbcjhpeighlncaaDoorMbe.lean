/-
  Lives as flat rows of cells; slices.Clone.
-/
import Derived.Test.YtbcjhpeighlncaaDoorVw5
import Derived.Lib.LazyBuf
namespace Go.Proofs.YtbcjhpeighlncaaDoor
set_option linter.unusedVariables false
set_option linter.unusedSimpArgs false
open Go.RowKit Go.Sort

theorem flatL_len (X : List Live) : (X.flatMap liveCells).length = X.length * 38 := by
  induction X with
  | nil => rfl
  | cons x X ih => rw [List.flatMap_cons, List.length_append, ih, live_len, List.length_cons]; omega
theorem flatL_get : ∀ (X : List Live) (i j : Nat) (x : Live), X[i]? = some x → j < 38 → (X.flatMap liveCells)[i * 38 + j]? = (liveCells x)[j]? := by
  intro X
  induction X with
  | nil => intro i j x h; simp at h
  | cons y X ih =>
    intro i j x hi hj
    rw [List.flatMap_cons]
    cases i with
    | zero =>
      simp only [List.getElem?_cons_zero, Option.some.injEq] at hi
      subst hi
      rw [List.getElem?_append_left (by rw [live_len]; omega), Nat.zero_mul, Nat.zero_add]
    | succ i =>
      rw [List.getElem?_append_right (by rw [live_len]; omega), live_len, show (i + 1) * 38 + j - 38 = i * 38 + j by omega]
      exact ih i j x (by simpa using hi) hj
theorem flatL_one (X : List Live) : ∀ u ∈ X.flatMap liveCells, u.oneCell' = true := by
  intro u hu
  obtain ⟨x, _, hx⟩ := List.mem_flatMap.1 hu
  exact live_one x u hx
/-- The same, and it may be written. -/
def HeldO (w : World) (g off : Nat) (xs : List Live) : Prop :=
  ∃ C T, w.heap[g]? = some (.cells C T (0, 0)) ∧ off + xs.length * 38 ≤ C.size ∧ ∀ i x, xs[i]? = some x → ∀ j, j < 38 → C[off + i * 38 + j]? = (liveCells x)[j]?
theorem HeldO.toL {w : World} {g off : Nat} {xs : List Live} (h : HeldO w g off xs) : HeldL w g off xs := by
  obtain ⟨C, T, hb, r⟩ := h
  exact ⟨C, T, _, hb, r⟩
theorem HeldO.row {w : World} {g off : Nat} {xs : List Live} (h : HeldO w g off xs) {i : Nat} {x : Live} (hi : xs[i]? = some x) : rowN w g (off + i * 38) 38 = some (liveCells x).toArray := h.toL.row hi
theorem HeldO.upd {S : Nat → Prop} {w w' : World} {b off : Nat} {xs : List Live} (h : HeldO w b off xs) (u : Upd S w w') (hn : ¬ S b) : HeldO w' b off xs := by
  obtain ⟨C, T, hb, r⟩ := h
  exact ⟨C, T, u.old hb hn, r⟩
/-- The cells of a row of lives, one by one. -/
theorem HeldL.cells {w : World} {g off : Nat} {X : List Live} (h : HeldL w g off X) : ∀ j u, (X.flatMap liveCells)[j]? = some u → w.cell? ((⟨g, off, none⟩ : Addr).add j) = some u := by
  intro j u hu
  obtain ⟨C, T, fz, hb, hs, hc⟩ := h
  have hj : j < X.length * 38 := by
    have := (List.getElem?_eq_some_iff.1 hu).1
    rwa [flatL_len] at this
  have hadd : (⟨g, off, none⟩ : Addr).add j = ⟨g, off + j, none⟩ := by unfold Addr.add; split <;> simp_all
  rw [hadd, blk_cell hb]
  have hi : j / 38 < X.length := Nat.div_lt_of_lt_mul (by omega)
  obtain ⟨x, hx⟩ : ∃ x, X[j / 38]? = some x := ⟨_, List.getElem?_eq_getElem hi⟩
  have e := Nat.div_add_mod j 38
  have hm := Nat.mod_lt j (show 0 < 38 by decide)
  rw [← hu, show off + j = off + j / 38 * 38 + j % 38 by omega, hc _ x hx _ hm]
  have hf := flatL_get X _ _ x hx hm
  rw [show j / 38 * 38 + j % 38 = j by omega] at hf
  exact hf.symm
theorem heldL_of_owns {w : World} {base : Nat} {v : Value} {n : Nat} {X : List Live} (h : w.ownsRow base 32 38 v n (X.flatMap liveCells)) :
    n = X.length ∧ ((v = .slice none 0 0 ∧ X = []) ∨ ∃ g cap, v = .slice (some ⟨g, 0, none⟩) X.length cap ∧ base ≤ g ∧ HeldO w g 0 X) := by
  have hn : n = X.length := by have := h.1; rw [flatL_len] at this; omega
  refine ⟨hn, ?_⟩
  subst hn
  rcases h.2 with ⟨e, e0⟩ | ⟨g, cap, cur, e, hb, hg, hc, _, hs, ht⟩
  · exact .inl ⟨e, List.length_eq_zero_iff.1 e0⟩
  · refine .inr ⟨g, cap, e, hb, cur, _, hg, by have := Nat.mul_le_mul_right 38 hc; omega, fun i x hi j hj => ?_⟩
    have hlt := (List.getElem?_eq_some_iff.1 hi).1
    rw [Nat.zero_add, ← flatL_get X i j x hi hj, ← ht, List.getElem?_take, if_pos (by have := Nat.mul_le_mul_right 38 (show i + 1 ≤ X.length from hlt); omega), Array.getElem?_toList]

theorem Tryd.infoLiveB : (Tryd.prog.info? 32).map (fun i => (i.size, i.bytes, i.zero.map (·.cells.size))) = some (38, 80, some 38) := by kernel_rfl
theorem live_info : ∃ i z, Tryd.prog.info? 32 = some i ∧ i.zero = some z ∧ i.size = 38 ∧ i.bytes = 80 ∧ z.cells.size = 38 := by
  have h := Tryd.infoLiveB
  cases hi : Tryd.prog.info? 32 with
  | none => rw [hi] at h; simp at h
  | some i =>
    rw [hi] at h
    simp only [Option.map_some, Option.some.injEq, Prod.mk.injEq] at h
    obtain ⟨h1, h2, h3⟩ := h
    cases hz : i.zero with
    | none => rw [hz] at h3; simp at h3
    | some z => rw [hz] at h3; simp at h3; exact ⟨i, z, rfl, hz, h1, h2, h3⟩

set_option maxRecDepth 100000 in
set_option maxHeartbeats 1000000 in
theorem clone_any (v : Value) (xs : List Live) (hl : xs.length ≤ 1048576) (w : World) (hv : Lives w v xs) :
    Calls Tryd.prog 33 #[v] w fun e w' => ∃ u, e = .returned u ∧ New w w' ∧ ((∃ a c, u = .slice a 0 c ∧ xs = []) ∨ ∃ g cap, u = .slice (some ⟨g, 0, none⟩) xs.length cap ∧ w.heap.size ≤ g ∧ HeldO w' g 0 xs) := by
  have hv' : (∃ c, v = .slice none 0 c ∧ xs = []) ∨ ∃ (a : Addr) (cap : Nat), v = .slice (some a) xs.length cap ∧ ∀ j u, (xs.flatMap liveCells)[j]? = some u → w.cell? (a.add j) = some u := by
    rcases hv with ⟨a, c, rfl, rfl⟩ | ⟨g, off, cap, rfl, hh⟩
    · cases a with
      | none => exact .inl ⟨_, rfl, rfl⟩
      | some a => exact .inr ⟨a, c, rfl, by simp⟩
    · exact .inr ⟨_, cap, rfl, hh.cells⟩
  rcases hv' with ⟨c, rfl, rfl⟩ | ⟨a, cap, rfl, hh⟩
  · go_enter Tryd.func33, Tryd.ntmps33
    have he := fun (w : World) => run_eql_slice_nil (P := Tryd.prog) w 25 _ none 0 c Tryd.underlying25
    go_wp2
    first | go_ret2 | go_ret
    exact ⟨_, rfl, Upd.refl _ _, .inl ⟨_, _, rfl, trivial⟩⟩
  · obtain ⟨i9, z9, hi, hz, hz0, hz1, hz2⟩ := live_info
    have he := fun (w : World) => run_eql_slice_nil (P := Tryd.prog) w 25 _ (some a) xs.length cap Tryd.underlying25
    simp only [Option.isNone_some] at he
    go_enter Tryd.func33, Tryd.ntmps33
    go_wp2_with (at_builtin; refine wpList_append_own _ rfl (.tmp 5) (.tmp 6) 25 rfl w.heap.size 32 i9 _ 38 80 Tryd.underlying25 hi hz hz0 hz1 hz2 (by decide) _ 0 [] rfl (World.ownsRow_made (base := w.heap.size) w #[] 0 (Nat.le_refl _) (by decide) rfl) a xs.length cap (xs.flatMap liveCells) rfl (flatL_len xs) ?c1 (flatL_one xs) ?c3 ?c4 ?c5 ?_)
    case c1 =>
      intro j u hj
      exact ((Upd.refl (fun _ => False) w).alloc _).cell (hh j u hj) (fun h => h)
    case c3 => unfold maxLen; omega
    case c4 => omega
    case c5 => simp
    intro v' w5 hown5 hgrow5 _
    have n5 : New w w5 := ((Upd.refl _ w).alloc _).grown hgrow5 (fun k h hk => by simp [Value.ownBlock] at h; omega)
    have hfin := (heldL_of_owns hown5).2
    obtain ⟨a5, k5, c5, rfl⟩ := own_shape hown5
    have HF := hide hfin
    clear hfin hown5 hgrow5
    go_wp2
    first | go_ret2 | go_ret
    refine ⟨_, rfl, n5, ?_⟩
    rcases unhide HF with h | ⟨g', cap', e, hb, hh'⟩
    · exact .inl ⟨_, _, h.1, h.2⟩
    · exact .inr ⟨g', cap', e, hb, hh'⟩

end Go.Proofs.YtbcjhpeighlncaaDoor

/-
  A live one's state is laid anew in its row.
-/
namespace Go.Proofs.YtbcjhpeighlncaaDoor
set_option linter.unusedVariables false
set_option linter.unusedSimpArgs false
open Go.RowKit Go.Sort

theorem live_set (x : Live) (s : Int) : liveCells { x with state := s } = (liveCells x).set 36 (.int .i64 s) := by
  unfold liveCells
  rw [List.set_append_right _ _ (by rw [htlc_len]; omega), htlc_len]
  rfl
theorem HeldO.setState {w : World} {g off : Nat} {X : List Live} (h : HeldO w g off X) {n : Nat} {x : Live} (hx : X[n]? = some x) (s : Int) :
    HeldO (w.setCell ⟨g, off + n * 38 + 36, none⟩ (.int .i64 s)) g off (X.set n { x with state := s }) := by
  obtain ⟨C, T, hb, hs, hc⟩ := h
  refine ⟨_, T, blk_set hb _ _, by rw [Array.size_setIfInBounds, List.length_set]; exact hs, fun i y hi j hj => ?_⟩
  have hn := (List.getElem?_eq_some_iff.1 hx).1
  have hle : off + n * 38 + 38 ≤ C.size := by have := Nat.mul_le_mul_right 38 (show n + 1 ≤ X.length from hn); omega
  rw [Array.getElem?_setIfInBounds]
  rw [List.getElem?_set] at hi
  by_cases e : n = i
  · subst e
    rw [if_pos rfl, if_pos hn, Option.some.injEq] at hi
    subst hi
    rw [live_set, List.getElem?_set]
    by_cases e2 : 36 = j
    · subst e2
      rw [if_pos rfl, if_pos (by omega), if_pos rfl, if_pos (by rw [live_len]; omega)]
    · rw [if_neg (by omega), if_neg e2]
      exact hc n x hx j hj
  · rw [if_neg e] at hi
    rw [if_neg ?_]
    · exact hc i y hi j hj
    · rcases Nat.lt_or_gt_of_ne e with h | h
      · have := Nat.mul_le_mul_right 38 (show n + 1 ≤ i from h); omega
      · have := Nat.mul_le_mul_right 38 (show i + 1 ≤ n from h); omega

end Go.Proofs.YtbcjhpeighlncaaDoor

/-
  view.After.
-/
namespace Go.Proofs.YtbcjhpeighlncaaDoor
set_option linter.unusedVariables false
set_option linter.unusedSimpArgs false
open Go.RowKit Go.Sort

attribute [local go_sem ↓ high] ld_live_fold st_live_fold
attribute [local go_sem] ld_live st_live

def aft (ev : Int) (x : Live) : Live := { x with state := nextSt x.state x.own ev }
def afterL (ev : Int) (xs : List Live) : List Live := xs.map (aft ev)

set_option maxRecDepth 100000 in
set_option maxHeartbeats 4000000 in
theorem after_any (v : Value) (xs : List Live) (ev : Int) (hl : xs.length ≤ 1048576) (w : World) (hG : Glob w) (hv : Lives w v xs) :
    Calls Tryd.prog 15 #[v, .int .i64 ev] w fun e w' => ∃ u, e = .returned u ∧ New w w' ∧ Lives w' u (afterL ev xs) := by
  have hvs : ∃ a k c, v = .slice a k c := by
    rcases hv with ⟨_, _, rfl, _⟩ | ⟨g, off, cap, rfl, _⟩
    · exact ⟨_, _, _, rfl⟩
    · exact ⟨_, _, _, rfl⟩
  obtain ⟨va, vk, vc, rfl⟩ := hvs
  go_enter Tryd.func15, Tryd.ntmps15
  go_wp2_with fail
  refine (clone_any _ xs hl w hv).mono ?_
  rintro e w1 ⟨u, rfl, n1, ⟨ua, uc, rfl, rfl⟩ | ⟨g, cap, rfl, hg, hh⟩⟩
  · obtain ⟨wo, rfl⟩ : ∃ wo : World, wo = w1 := ⟨_, rfl⟩
    go_wp2_with fail
    go_loopw [12] (fun iv wr => iv = .int .i64 0 ∧ wr = wo) (fun _ _ => 0)
    case atStart => exact ⟨rfl, rfl⟩
    case round =>
      obtain ⟨rfl, rfl⟩ := hrel
      go_wp2
      first | go_ret2 | go_ret
      exact ⟨_, rfl, n1, .inl ⟨_, _, rfl, rfl⟩⟩
  · have hG1 := hG.new n1
    obtain ⟨wo, rfl⟩ : ∃ wo : World, wo = w1 := ⟨_, rfl⟩
    go_wp2_with fail
    go_loopw [12] (fun iv wr => ∃ n : Nat, iv = .int .i64 (n : Int) ∧ n ≤ xs.length ∧ Hid (HeldO wr g 0 (afterL ev (xs.take n) ++ xs.drop n)) ∧ New w wr) (fun iv _ => xs.length - (intOf iv).toNat)
    case atStart => exact ⟨0, rfl, Nat.zero_le _, hide (by simpa [afterL] using hh), n1⟩
    case round =>
      obtain ⟨n, rfl, hn, HH, nr⟩ := hrel
      by_cases hlt : n < xs.length
      · obtain ⟨x, hx⟩ : ∃ x, xs[n]? = some x := ⟨_, List.getElem?_eq_getElem hlt⟩
        have hxx : (afterL ev (xs.take n) ++ xs.drop n)[n]? = some x := by
          have hl1 : (afterL ev (xs.take n)).length = n := by simp [afterL]; omega
          rw [List.getElem?_append_right (by omega), hl1, Nat.sub_self, List.getElem?_drop, Nat.add_zero]; exact hx
        have hh0 := unhide HH
        have hrow := hh0.row hxx
        rw [Nat.zero_add] at hrow
        have hset := hh0.setState hxx (nextSt x.state x.own ev)
        obtain ⟨CC, TT, hbb, hss, hcc⟩ := id hh0
        have hnn : (n : Int) < (xs.length : Int) := by omega
        have hst : stOk (wr.alloc (.cells #[.int .u64 0, .int .u64 0, .int .u8 0, .int .u8 0, .int .u8 0, .int .u8 0, .int .u8 0, .int .u8 0, .int .u8 0, .int .u8 0, .int .u8 0, .int .u8 0, .int .u8 0, .int .u8 0, .int .u8 0, .int .u8 0, .int .u8 0, .int .u8 0, .int .u8 0, .int .u8 0, .int .u8 0, .int .u8 0, .int .u8 0, .int .u8 0, .int .u8 0, .int .u8 0, .int .u8 0, .int .u8 0, .int .u8 0, .int .u8 0, .int .u8 0, .int .u8 0, .int .u8 0, .int .u8 0, .int .i64 0, .bool false, .int .i64 0, .bool false] 32)) wr.heap.size 0 38 (liveCells x).toArray = true := stOk_blk (blk_alloc _ _) (by decide) (by rw [List.size_toArray, live_len]) (by rw [List.all_toArray, List.all_eq_true]; exact live_one x)
        have hlaid := laid_new wr #[.int .u64 0, .int .u64 0, .int .u8 0, .int .u8 0, .int .u8 0, .int .u8 0, .int .u8 0, .int .u8 0, .int .u8 0, .int .u8 0, .int .u8 0, .int .u8 0, .int .u8 0, .int .u8 0, .int .u8 0, .int .u8 0, .int .u8 0, .int .u8 0, .int .u8 0, .int .u8 0, .int .u8 0, .int .u8 0, .int .u8 0, .int .u8 0, .int .u8 0, .int .u8 0, .int .u8 0, .int .u8 0, .int .u8 0, .int .u8 0, .int .u8 0, .int .u8 0, .int .u8 0, .int .u8 0, .int .i64 0, .bool false, .int .i64 0, .bool false] 32 (liveCells x) (by rw [live_len]; rfl)
        have v35 := live_35 x
        have v36 := live_36 x
        have hlen := live_len x
        have HX := hide hx
        have HXX := hide hxx
        clear hx hxx hset hbb hss hcc hh0 hh
        generalize liveCells x = C at hrow hst hlaid v35 v36 hlen
        go_upto_region 5 with fail
        obtain ⟨hbx, nC⟩ := hlaid
        generalize (wr.alloc (.cells #[.int .u64 0, .int .u64 0, .int .u8 0, .int .u8 0, .int .u8 0, .int .u8 0, .int .u8 0, .int .u8 0, .int .u8 0, .int .u8 0, .int .u8 0, .int .u8 0, .int .u8 0, .int .u8 0, .int .u8 0, .int .u8 0, .int .u8 0, .int .u8 0, .int .u8 0, .int .u8 0, .int .u8 0, .int .u8 0, .int .u8 0, .int .u8 0, .int .u8 0, .int .u8 0, .int .u8 0, .int .u8 0, .int .u8 0, .int .u8 0, .int .u8 0, .int .u8 0, .int .u8 0, .int .u8 0, .int .i64 0, .bool false, .int .i64 0, .bool false] 32)).setCells wr.heap.size 0 C = wC at hbx nC ⊢
        have s35 : wC.cell? ⟨wr.heap.size, 35, none⟩ = some (.bool x.own) := by rw [blk_cell hbx, List.getElem?_toArray]; exact v35
        have s36 : wC.cell? ⟨wr.heap.size, 36, none⟩ = some (.int .i64 x.state) := by rw [blk_cell hbx, List.getElem?_toArray]; exact v36
        have hGC : Glob wC := hG.new (nr.trans nC)
        clear hst hrow
        go_wp2_with fail
        refine (next_any x.state ev x.own wC hGC).mono ?_
        rintro e w2 ⟨rfl, q2⟩
        have hh2 : HeldO w2 g 0 (afterL ev (xs.take n) ++ xs.drop n) := ((unhide HH).upd nC (fun h => h)).upd (q2.upd (fun _ => False)) (fun h => h)
        have hset := hh2.setState (unhide HXX) (nextSt x.state x.own ev)
        have hrow2 := hh2.row (unhide HXX)
        obtain ⟨CC, TT, hbb, hss, hcc⟩ := id hh2
        have t36 : w2.cell? ⟨g, n * 38 + 36, none⟩ = some (.int .i64 x.state) := by
          rw [blk_cell hbb]
          have := hcc n x (unhide HXX) 36 (by decide)
          rw [Nat.zero_add] at this
          rw [this, live_36]
        have z36 : w2.frozen? ⟨g, n * 38 + 36, none⟩ = false := blk_free hbb _
        rw [Nat.zero_add] at hset
        have HSET := hide hset
        have n2 : New w w2 := (nr.trans nC).then (q2.upd (fun _ => False)) (fun _ _ h => h.elim)
        clear hset hrow2 hbb hss hcc hh2 s35 s36 hbx nC
        go_wp2
        go_roundw
        case rel =>
          refine ⟨n + 1, by go_num, by omega, hide ?_, n2.setCell (fun h => by have h1 : g < w.heap.size := h; omega) _⟩
          have := unhide HSET
          have e : (afterL ev (xs.take n) ++ xs.drop n).set n { x with state := nextSt x.state x.own ev } = afterL ev (xs.take (n + 1)) ++ xs.drop (n + 1) := by
            have hl1 : (afterL ev (xs.take n)).length = n := by simp [afterL]; omega
            rw [List.set_append_right _ _ (by omega), hl1, Nat.sub_self, List.take_add_one, unhide HX]
            have hd : xs.drop n = x :: xs.drop (n + 1) := by
              rw [List.drop_eq_getElem_cons hlt]
              congr 1
              have := unhide HX
              rw [List.getElem?_eq_getElem hlt] at this
              exact Option.some.inj this
            rw [hd]
            simp [afterL, aft]
          rwa [e] at this
        case measure => simp [intOf]; omega
      · obtain rfl : n = xs.length := by omega
        have hf : HeldO wr g 0 (afterL ev xs) := by have := unhide HH; simpa using this
        have hlL : (afterL ev xs).length = xs.length := by simp [afterL]
        have HF := hide hf
        clear hf hh
        go_wp2
        first | go_ret2 | go_ret
        exact ⟨_, rfl, nr, .inr ⟨g, 0, _, by rw [hlL]; rfl, (unhide HF).toL⟩⟩

end Go.Proofs.YtbcjhpeighlncaaDoor
