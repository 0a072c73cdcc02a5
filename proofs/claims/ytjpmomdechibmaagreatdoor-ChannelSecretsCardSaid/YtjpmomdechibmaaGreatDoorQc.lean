/-
  Law 13: the pair beside a message in a block of its own.
-/
import Derived.Test.YtjpmomdechibmaaGreatDoorQb
import Derived.Test.YtjpmomdechibmaaGreatDoorMeb
import Derived.Test.YtjpmomdechibmaaGreatDoorMde
import Derived.Test.YtjpmomdechibmaaGreatDoorMeg
import Derived.Test.YtjpmomdechibmaaGreatDoorMec
namespace Go.Proofs.YtjpmomdechibmaaGreatDoor
set_option linter.unusedVariables false
set_option linter.unusedSimpArgs false
open Go.RowKit

section
variable {w0 w w' : World} {p K : Nat} {S T : Nat → Prop} {a b a' b' : Ch} {wa wb wa' wb' : List MsgV} {bad bad' : Bool} {m m' : MsgV}
theorem PrS.put (h : PrS w0 w p S a b wa wb bad) (hK : ¬ S K) (hl : K < w.heap.size) (hge : w0.heap.size ≤ K) (u : Upd (· = K) w w') : PrS w0 w' p S a b wa wb bad := by
  obtain ⟨gA, gB, SA, SB, ua, ub, hP, h1, h2⟩ := h
  have nS : ∀ k, S k → k ≠ K := fun k hk e => hK (e ▸ hk)
  refine ⟨gA, gB, SA, SB, ua, ub, ⟨hP.two.put ⟨hl, fun k => hK (h1 K (.inl k)), fun k => hK (h1 K (.inr (.inl k)))⟩ hge u, u.old hP.at_ (nS p (h1 p (by simp))), hP.off.new u.size, hP.ge, row_upd' hP.rowA u (fun k hk => nS k (h1 k (by simp [hk]))), row_upd' hP.rowB u (fun k hk => nS k (h1 k (by simp [hk]))), fun k hk => (hP.offA k hk).new u.size, fun k hk => (hP.offB k hk).new u.size, hP.sep, hP.okA, hP.okB⟩, h1, fun k hk => ⟨(h2 k hk).1, Nat.lt_of_lt_of_le (h2 k hk).2 u.size⟩⟩
theorem PrS.endA (h : PrS w0 w p S a b wa wb bad) (hT : Tb w0) : ∃ g S', w.cell? ⟨p, 0, none⟩ = some (.pointer (some ⟨g, 0, none⟩)) ∧ ChS w g S' a ∧ Apart S' ∧ New w0 w ∧ ∀ w' a', ChS w' g (Fr S' w w') a' → Upd S' w w' → PrS w0 w' p (Fr S w w') a' b wa wb bad ∧ Upd S w w' := by
  obtain ⟨gA, gB, SA, SB, ua, ub, hP, h1, h2⟩ := h
  refine ⟨gA, SA, hP.cell.1, hP.two.A, hP.two.apA hT, hP.two.n, fun w' a' hc u => ⟨⟨gA, gB, _, _, ua, ub, hP.opA hc u, ?_, ?_⟩, u.mono fun k _ hk => h1 k (.inl hk)⟩⟩
  · rintro k ((hk | hk) | hk)
    · exact .inl (h1 k (.inl hk))
    · exact .inr hk
    · exact .inl (h1 k (.inr hk))
  · have := hP.two.n.size
    have := u.size
    rintro k (hk | hk)
    · exact ⟨(h2 k hk).1, by have := (h2 k hk).2; omega⟩
    · exact ⟨by omega, hk.2⟩
theorem PrS.endB (h : PrS w0 w p S a b wa wb bad) (hT : Tb w0) : ∃ g S', w.cell? ⟨p, 1, none⟩ = some (.pointer (some ⟨g, 0, none⟩)) ∧ ChS w g S' b ∧ Apart S' ∧ New w0 w ∧ ∀ w' b', ChS w' g (Fr S' w w') b' → Upd S' w w' → PrS w0 w' p (Fr S w w') a b' wa wb bad ∧ Upd S w w' := by
  obtain ⟨gA, gB, SA, SB, ua, ub, hP, h1, h2⟩ := h
  refine ⟨gB, SB, hP.cell.2.1, hP.two.B, hP.two.apB hT, hP.two.n, fun w' a' hc u => ⟨⟨gA, gB, _, _, ua, ub, hP.opB hc u, ?_, ?_⟩, u.mono fun k _ hk => h1 k (.inr (.inl hk))⟩⟩
  · rintro k (hk | (hk | hk) | hk)
    · exact .inl (h1 k (.inl hk))
    · exact .inl (h1 k (.inr (.inl hk)))
    · exact .inr hk
    · exact .inl (h1 k (.inr (.inr hk)))
  · have := hP.two.n.size
    have := u.size
    rintro k (hk | hk)
    · exact ⟨(h2 k hk).1, by have := (h2 k hk).2; omega⟩
    · exact ⟨by omega, hk.2⟩
/-- The pair, and beside it a message in block K. -/
def PrX (w0 w : World) (p : Nat) (a b : Ch) (wa wb : List MsgV) (bad : Bool) (K : Nat) (m : MsgV) : Prop := ∃ S, PrS w0 w p S a b wa wb bad ∧ ¬ S K ∧ MsB w K m ∧ w0.heap.size ≤ K
theorem PrX.of (hK : ¬ S K) (hM : MsB w K m) (hge : w0.heap.size ≤ K) (h : PrS w0 w' p (Fr S w w') a' b' wa' wb' bad' ∧ Upd S w w') : PrX w0 w' p a' b' wa' wb' bad' K m := by
  refine ⟨_, h.1, ?_, hM.upd h.2 hK, hge⟩
  rintro (hk | hk)
  · exact hK hk
  · have := hM.lt
    omega
theorem PrX.new (h : PrX w0 w p a b wa wb bad K m) (u : New w w') : PrX w0 w' p a b wa wb bad K m := by
  obtain ⟨S, hP, hK, hM, hge⟩ := h
  exact ⟨S, hP.new u, hK, hM.new u, hge⟩
theorem PrX.put (h : PrX w0 w p a b wa wb bad K m) (hk : m'.hash.length = 32) : PrX w0 (w.setCells K 0 m'.cells) p a b wa wb bad K m' := by
  obtain ⟨S, hP, hK, hM, hge⟩ := h
  exact ⟨S, hP.put hK hM.lt hge (upd_sets _), hK, hM.put hk, hge⟩
theorem PrX.endA (h : PrX w0 w p a b wa wb bad K m) (hT : Tb w0) : ∃ g S', w.cell? ⟨p, 0, none⟩ = some (.pointer (some ⟨g, 0, none⟩)) ∧ ChS w g S' a ∧ Apart S' ∧ New w0 w ∧ ∀ w' a', ChS w' g (Fr S' w w') a' → Upd S' w w' → PrX w0 w' p a' b wa wb bad K m := by
  obtain ⟨S, hP, hK, hM, hge⟩ := h
  obtain ⟨g, S', h1, h2, h3, h4, h5⟩ := hP.endA hT
  exact ⟨g, S', h1, h2, h3, h4, fun w' a' hc u => .of hK hM hge (h5 w' a' hc u)⟩
theorem PrX.endB (h : PrX w0 w p a b wa wb bad K m) (hT : Tb w0) : ∃ g S', w.cell? ⟨p, 1, none⟩ = some (.pointer (some ⟨g, 0, none⟩)) ∧ ChS w g S' b ∧ Apart S' ∧ New w0 w ∧ ∀ w' b', ChS w' g (Fr S' w w') b' → Upd S' w w' → PrX w0 w' p a b' wa wb bad K m := by
  obtain ⟨S, hP, hK, hM, hge⟩ := h
  obtain ⟨g, S', h1, h2, h3, h4, h5⟩ := hP.endB hT
  exact ⟨g, S', h1, h2, h3, h4, fun w' a' hc u => .of hK hM hge (h5 w' a' hc u)⟩
theorem PrX.row (h : PrX w0 w p a b wa wb bad K m) : rowN w K 0 38 = some m.cells.toArray := by
  obtain ⟨S, hP, hK, hM, hge⟩ := h
  exact hM.row
theorem PrX.msb (h : PrX w0 w p a b wa wb bad K m) : MsB w K m := h.choose_spec.2.2.1
end
theorem PrP.toS {w0 w : World} {p gA gB : Nat} {SA SB : Nat → Prop} {a b : Ch} {wa wb : List MsgV} {ua ub : Value} {bad : Bool} (h : PrP w0 w p gA gB SA SB a b wa wb ua ub bad) : PrS w0 w p (fun k => w0.heap.size ≤ k ∧ k < w.heap.size) a b wa wb bad := by
  refine ⟨gA, gB, SA, SB, ua, ub, h, ?_, fun k hk => hk⟩
  rintro k (hk | hk | rfl | hk | hk)
  · exact ⟨h.two.geA k hk, h.two.A.lt k hk⟩
  · exact ⟨h.two.geB k hk, h.two.B.lt k hk⟩
  · exact ⟨h.ge, h.off.lt⟩
  · exact ⟨own_ge h.rowA k hk, (h.offA k hk).lt⟩
  · exact ⟨own_ge h.rowB k hk, (h.offB k hk).lt⟩

end Go.Proofs.YtjpmomdechibmaaGreatDoor

/-
  Fail.
-/
namespace Go.Proofs.YtjpmomdechibmaaGreatDoor
set_option linter.unusedVariables false
set_option linter.unusedSimpArgs false
open Go.RowKit

attribute [local go_sem ↓ high] ld_msg_fold st_msg_fold al_msg_fold bd_msg_fold
attribute [local go_sem] ld_msg st_msg al_msg bd_msg_zero bd_msg_fail rowN_drew

def failMsg (id r : Int) : MsgV := ⟨5, 0, id, 0, z32i, 0, r⟩
/-- What Fail does: the end, what it says, its error. -/
def Ch.fail (c : Ch) (id r : Int) : Ch × MsgV × Int := match bothX false id c.xs with
  | none => (c, MsgV.zero, 3)
  | some p => if r < 0 ∨ 65535 < r then (c, MsgV.zero, 1) else ((c.removed p.1 p.2 false).say (failMsg id r), (failMsg id r).on c.s.ch, 0)
theorem fail_none {c : Ch} {id r : Int} (h : bothX false id c.xs = none) : c.fail id r = (c, MsgV.zero, 3) := by unfold Ch.fail; rw [h]
theorem fail_bad {c : Ch} {id r : Int} {p : Nat × Live} (h : bothX false id c.xs = some p) (hr : r < 0 ∨ 65535 < r) : c.fail id r = (c, MsgV.zero, 1) := by unfold Ch.fail; rw [h]; simp only; rw [if_pos hr]
theorem fail_good {c : Ch} {id r : Int} {i : Nat} {x : Live} (h : bothX false id c.xs = some (i, x)) (hr : ¬ (r < 0 ∨ 65535 < r)) : c.fail id r = ((c.removed i x false).say (failMsg id r), (failMsg id r).on c.s.ch, 0) := by unfold Ch.fail; rw [h]; simp only; rw [if_neg hr]
set_option maxRecDepth 100000 in
set_option maxHeartbeats 1000000 in
theorem fail_any (g : Nat) (S : Nat → Prop) (c : Ch) (id r : Int) (w : World) (h : ChS w g S c) (hfew : c.news.length < 1000000) :
    Calls Tryz.prog 31 #[.pointer (some ⟨g, 0, none⟩), .int .u64 id, .int .i64 r] w fun e w' =>
      e = .returned (.tuple #[.agg (c.fail id r).2.1.cells.toArray, .int .i64 (c.fail id r).2.2]) ∧ ChS w' g (Fr S w w') (c.fail id r).1 ∧ Upd S w w' := by
  obtain ⟨lv, nv, av, h⟩ := h
  go_enter Tryz.func31, Tryz.ntmps31
  go_upto_region 1 with fail
  have hB := ms_alloc w MsgV.zero z32i_len
  have n1 : New w (w.alloc (.cells MsgV.zero.cells.toArray 30)) := (Upd.refl _ _).alloc _
  generalize w.alloc (.cells MsgV.zero.cells.toArray 30) = w1 at hB n1 ⊢
  obtain ⟨B, hBe⟩ : ∃ B, B = w.heap.size := ⟨_, rfl⟩
  rw [← hBe] at hB ⊢
  have hBl : w.heap.size ≤ B := by omega
  have hgB : g ≠ B := by have := h.lt g h.inG; omega
  have hBS : ¬ S B := fun e => by have := h.lt B e; omega
  clear hBe
  have h1 := h.new n1
  have hb := both_any g S c false id w1 ⟨lv, nv, av, h1⟩
  have bad : ∀ (W : World), New w1 W →
      stOk W B 0 38 MsgV.zero.cells.toArray = true ∧ MsB (W.setCells B 0 MsgV.zero.cells) B MsgV.zero ∧ ChS (W.setCells B 0 MsgV.zero.cells) g (Fr S w (W.setCells B 0 MsgV.zero.cells)) c ∧ Upd S w (W.setCells B 0 MsgV.zero.cells) := by
    intro W nW
    have hb := hB.new nW
    have u := upd_sets (w := W) (b := B) MsgV.zero.cells
    exact ⟨hb.stOk z32i_len, hb.put z32i_len, ChS.frW (w1 := w) ⟨lv, nv, av, ((h1.new nW).upd u (fun k hk e => by rw [e] at hk; exact hBS hk))⟩, ((n1.trans nW).mono (T := S) (fun _ _ h => h.elim)).then u (fun i hi e => by omega)⟩
  have HBAD := hide bad
  have HB := hide hB
  have HI := hide h.inL
  have H1 := hide h1
  have HLT := hide h.lt
  have N1 := hide n1
  clear h h1 hB n1 bad
  go_wp2_with fail
  refine hb.mono ?_
  rintro e w2 ⟨rfl, n2⟩
  clear hb
  cases hx : bothX false id c.xs with
  | none =>
    have hi := bothX_none hx
    obtain ⟨hst, hF, hC, hU⟩ := unhide HBAD w2 n2
    have HE := hide (fail_none (r := r) hx)
    have HF := hide hF
    have HC := hide hC
    have HU := hide hU
    rw [hi]
    clear hF hC hU n2 hx hi
    go_wp2_with (first | ((with_reducible apply tp); rfl; rfl; intro _ _ _) | ((with_reducible apply tr); rfl; intro _ _) | ((with_reducible apply te); rfl; intro _ _) | (with_reducible rfl) | (with_reducible apply tn) | ((with_reducible apply wp_txt); kernel_rfl; decide +kernel))
    have hF := unhide HF
    refine bodyPost_ret (results_row_tmp' rfl _ _ B _ _ _ _ rfl hF.at_ Tryz.underlying30 rfl (by rw [hF.agg]; exact Tryz.infoMsg)) rfl ?_
    rw [unhide HE]
    exact ⟨rfl, unhide HC, unhide HU⟩
  | some pr =>
    obtain ⟨i, x⟩ := pr
    obtain ⟨hi, hix, -⟩ := bothX_some hx
    have h2 := (unhide H1).new n2
    rw [hi]
    by_cases hr : r < 0 ∨ 65535 < r
    · obtain ⟨hst, hF, hC, hU⟩ := unhide HBAD w2 n2
      have HE := hide (fail_bad hx hr)
      have HF := hide hF
      have HC := hide hC
      have HU := hide hU
      clear hF hC hU n2 hx hi hix h2
      rcases hr with hr | hr
      · go_wp2_with (first | ((with_reducible apply tp); rfl; rfl; intro _ _ _) | ((with_reducible apply tr); rfl; intro _ _) | ((with_reducible apply te); rfl; intro _ _) | (with_reducible rfl) | (with_reducible apply tn) | ((with_reducible apply wp_txt); kernel_rfl; decide +kernel))
        have hF := unhide HF
        refine bodyPost_ret (results_row_tmp' rfl _ _ B _ _ _ _ rfl hF.at_ Tryz.underlying30 rfl (by rw [hF.agg]; exact Tryz.infoMsg)) rfl ?_
        rw [unhide HE]
        exact ⟨rfl, unhide HC, unhide HU⟩
      · have hr0 : ¬ r < 0 := by omega
        go_wp2_with (first | ((with_reducible apply tp); rfl; rfl; intro _ _ _) | ((with_reducible apply tr); rfl; intro _ _) | ((with_reducible apply te); rfl; intro _ _) | (with_reducible rfl) | (with_reducible apply tn) | ((with_reducible apply wp_txt); kernel_rfl; decide +kernel))
        have hF := unhide HF
        refine bodyPost_ret (results_row_tmp' rfl _ _ B _ _ _ _ rfl hF.at_ Tryz.underlying30 rfl (by rw [hF.agg]; exact Tryz.infoMsg)) rfl ?_
        rw [unhide HE]
        exact ⟨rfl, unhide HC, unhide HU⟩
    · have hrm := remove_any g S c lv nv av i x false w2 h2 hix
      have HE := hide (fail_good hx hr)
      have hr0 : ¬ r < 0 := by omega
      have hr1 : ¬ 65535 < r := by omega
      have N2 := hide n2
      clear n2 hx hi hix h2 hr
      go_wp2_with fail
      refine hrm.mono ?_
      rintro e w3 ⟨rfl, h3, u3⟩
      have hsay := fun W (hW : ChS W g S (c.removed i x false)) => say_any g S (c.removed i x false) (failMsg id r) z32i_len W hW hfew
      have hsay3 := hsay w3 ⟨lv, nv, av, h3⟩
      have U3 := hide ((((unhide N1).trans (unhide N2)).mono (T := S) (fun _ _ h => h.elim)).trans (u3.mono (T := S) (fun k _ e => unhide HI k e)))
      have HB3 := hide (((unhide HB).new (unhide N2)).upd u3 (fun e => hBS (unhide HI B e)))
      clear hrm h3 u3 hsay
      unfold failMsg at hsay3
      go_wp2_with (first | ((with_reducible apply tp); rfl; rfl; intro _ _ _) | ((with_reducible apply tr); rfl; intro _ _) | ((with_reducible apply te); rfl; intro _ _) | (with_reducible rfl) | (with_reducible apply tn) | ((with_reducible apply wp_txt); kernel_rfl; decide +kernel))
      refine hsay3.mono ?_
      rintro e w4 ⟨rfl, h4, u4⟩
      have hl : ((failMsg id r).on (c.removed i x false).s.ch).hash.length = 32 := z32i_len
      have hB4 := (unhide HB3).upd u4 hBS
      have hst := hB4.stOk hl
      have hF := hB4.put hl
      have u5 := upd_sets (w := w4) (b := B) ((failMsg id r).on (c.removed i x false).s.ch).cells
      have HF := hide hF
      have hw3 := (unhide U3).size
      have hC := h4.upd u5 (fun k hk e => by
        rcases hk with hk | hk
        · exact hBS (e ▸ hk)
        · have := (unhide HB3).lt
          omega)
      have HC := hide ((hC.grow u5.size).later hw3)
      have HU := hide (((unhide U3).trans u4).then u5 (fun i hi e => by omega))
      change stOk w4 B 0 38 ((⟨5, 0, id, 0, z32i, 0, r⟩ : MsgV).on (c.removed i x false).s.ch).cells.toArray = true at hst
      clear hsay3 h4 u4 hB4 hF u5 hC hl
      go_wp2_with (first | ((with_reducible apply tp); rfl; rfl; intro _ _ _) | ((with_reducible apply tr); rfl; intro _ _) | ((with_reducible apply te); rfl; intro _ _) | (with_reducible rfl) | (with_reducible apply tn) | ((with_reducible apply wp_txt); kernel_rfl; decide +kernel))
      have hF := unhide HF
      refine bodyPost_ret (results_row_tmp' rfl _ _ B _ _ _ _ rfl hF.at_ Tryz.underlying30 rfl (by rw [hF.agg]; exact Tryz.infoMsg)) rfl ?_
      rw [unhide HE]
      exact ⟨rfl, unhide HC, unhide HU⟩

end Go.Proofs.YtjpmomdechibmaaGreatDoor

/-
  hearFulfill.
-/
namespace Go.Proofs.YtjpmomdechibmaaGreatDoor
set_option linter.unusedVariables false
set_option linter.unusedSimpArgs false
open Go.RowKit

theorem rowN_part {w : World} {b o n : Nat} {A : Array Value} (h : rowN w b o n = some A) (i k : Nat) (hik : i + k ≤ n) : rowN w b (o + i) k = some (A.extract i (i + k)) := by
  unfold rowN at h ⊢
  cases hb : w.heap[b]? with
  | none => rw [hb] at h; cases h
  | some ob =>
    rw [hb] at h
    cases ob with
    | cells C T fz =>
      simp only at h ⊢
      split at h
      · injection h with h
        subst h
        rw [if_pos (by omega), Array.extract_extract]
        congr 2
        omega
      · cases h
    | _ => simp at h
theorem live_hash (x : Live) : (liveCells x).toArray.extract 2 (2 + 32) = (hshV x.h.hash.toList).toArray := by
  apply Array.ext'
  rw [Array.toList_extract]
  unfold liveCells htlcCells hshV
  simp
theorem ChP.hash {w : World} {g : Nat} {S : Nat → Prop} {c : Ch} {lv nv av : Value} (h : ChP w g S c lv nv av) {i : Nat} {x : Live} (hi : c.xs[i]? = some x) : ∃ gl cap, lv = .slice (some ⟨gl, 0, none⟩) c.xs.length cap ∧ rowN w gl (i * 38 + 2) 32 = some (hshV x.h.hash.toList).toArray := by
  have hlt := (List.getElem?_eq_some_iff.1 hi).1
  rcases (heldL_of_owns h.live).2 with ⟨e, e0⟩ | ⟨g', cap', e, -, hh⟩
  · rw [e0] at hlt; simp at hlt
  · refine ⟨g', cap', e, ?_⟩
    have := rowN_part (hh.row hi) 2 32 (by omega)
    rw [live_hash, Nat.zero_add] at this
    exact this
def Ch.hearFulfill (c : Ch) (m : MsgV) : Ch × Int := match bothX true m.id c.xs with
  | none => (c, 3)
  | some p => if opensB m.hash p.2.h.hash.toList = true then (c.removed p.1 p.2 true, 0) else (c, 132)
theorem hearFul_none {c : Ch} {m : MsgV} (h : bothX true m.id c.xs = none) : c.hearFulfill m = (c, 3) := by unfold Ch.hearFulfill; rw [h]
theorem hearFul_some {c : Ch} {m : MsgV} {i : Nat} {x : Live} (h : bothX true m.id c.xs = some (i, x)) : c.hearFulfill m = if opensB m.hash x.h.hash.toList = true then (c.removed i x true, 0) else (c, 132) := by unfold Ch.hearFulfill; rw [h]
attribute [local go_sem ↓ high] ld_msg_fold st_msg_fold al_msg_fold bd_msg_fold ld_hsh_fold st_hsh_fold al_hsh_fold
attribute [local go_sem] ld_msg st_msg al_msg bd_msg_zero ld_hsh st_hsh al_hsh rowN_drew
set_option maxRecDepth 100000 in
set_option maxHeartbeats 1000000 in
theorem hearFulfill_any (g : Nat) (S : Nat → Prop) (c : Ch) (m : MsgV) (hm : MsgOk m) (w : World) (h : ChS w g S c) (hT : Tb w) :
    Calls Tryz.prog 67 #[.pointer (some ⟨g, 0, none⟩), .agg m.cells.toArray] w fun e w' =>
      e = .returned (.tuple #[nilV, .int .i64 (c.hearFulfill m).2]) ∧ ChS w' g (Fr S w w') (c.hearFulfill m).1 ∧ Upd S w w' := by
  obtain ⟨lv, nv, av, h⟩ := h
  go_enter Tryz.func67, Tryz.ntmps67
  go_upto_region 1 with fail
  have hA := ms_alloc w m hm.len
  have n1 : New w (w.alloc (.cells m.cells.toArray 30)) := (Upd.refl _ _).alloc _
  generalize w.alloc (.cells m.cells.toArray 30) = w1 at n1 hA ⊢
  generalize w.heap.size = A at hA ⊢
  have h1 := h.new n1
  obtain ⟨-, -, m2, -, -, -, -⟩ := hA.cells
  have hb := both_any g S c true m.id w1 ⟨lv, nv, av, h1⟩
  have HA := hide hA
  have hT1 := hT.new n1
  clear hA hT
  go_wp2_with fail
  refine hb.mono ?_
  rintro e w2 ⟨rfl, n2⟩
  have h2 := h1.new n2
  have hA2 := (unhide HA).new n2
  have n12 := n1.trans n2
  have hT2 := hT1.new n2
  clear hb m2 h1 n2 n1 hT1 HA
  cases hx : bothX true m.id c.xs with
  | none =>
    have hi := bothX_none hx
    have HE := hide (hearFul_none hx)
    have H2 := hide (h2.fr w)
    have HU := hide (n12.mono (T := S) (fun _ _ h => h.elim))
    rw [hi]
    clear h h2 n12 hx hi hA2 hT2
    go_wp2_with fail
    go_ret2
    rw [unhide HE]
    exact ⟨rfl, unhide H2, unhide HU⟩
  | some p =>
    obtain ⟨i, x⟩ := p
    obtain ⟨hi, hix, -⟩ := bothX_some hx
    have he := hearFul_some hx
    have hlt := (List.getElem?_eq_some_iff.1 hix).1
    have hfew := h.ok.few
    obtain ⟨gl, cap, hlv, rh⟩ := h2.hash hix
    have c47 : w2.cell? ⟨g, 47, none⟩ = some lv := h2.toR.live
    rw [hlv] at c47
    obtain ⟨-, -, -, -, -, -, rA⟩ := hA2.cells
    have hxo := (h.ok.xs x (List.mem_of_getElem? hix)).h.hash
    have hop := fun W (nW : New w2 W) => opens_any m.hash x.h.hash.toList hm.len (by simp) hxo W (hT2.new nW).tabs
    have hrm := fun W (hW : ChP W g S c lv nv av) => remove_any g S c lv nv av i x true W hW hix
    have HI := hide h.inL
    have HU := hide (n12.mono (T := S) (fun _ _ h => h.elim))
    have H2 := hide h2
    have hil : (i : Int) < (c.xs.length : Int) := by omega
    have HE := hide he
    have hcl : (c.xs.length : Int) ≤ 1000000 := by omega
    rw [hi]
    clear h h2 n12 hx hi hA2 hT2 hix he
    generalize hO : opensB m.hash x.h.hash.toList = O at hop HE
    have RA := hide rA
    have RH := hide rh
    have HOP := hide hop
    have HRM := hide hrm
    clear rA rh hop hrm hO
    go_upto_region 4 with (first | ((with_reducible apply tp); rfl; rfl; intro _ _ _) | ((with_reducible apply tr); rfl; intro _ _) | ((with_reducible apply te); rfl; intro _ _) | (with_reducible rfl) | (with_reducible apply tn) | ((with_reducible apply wp_txt); kernel_rfl; decide +kernel))
    have rA := unhide RA
    have rh := unhide RH
    clear RA RH
    go_wp2_with (first | ((with_reducible apply tp); rfl; rfl; intro _ _ _) | ((with_reducible apply tr); rfl; intro _ _) | ((with_reducible apply te); rfl; intro _ _) | (with_reducible rfl) | (with_reducible apply tn) | ((with_reducible apply wp_txt); kernel_rfl; decide +kernel))
    have hop := unhide HOP
    have hrm := unhide HRM
    refine (hop _ ((Upd.refl _ _).drew)).mono ?_
    rintro e w3 ⟨rfl, n3⟩
    have h3 := ((unhide H2).new ((Upd.refl (fun _ => False) w2).drew)).new n3
    have n3' : New w2 w3 := n3.ofDrew
    have hrm3 := hrm w3 h3
    have H3 := hide (h3.fr w)
    have HU3 := hide ((unhide HU).trans (n3'.mono (T := S) (fun _ _ h => h.elim)))
    clear hop hrm c47 rA rh h3 n3 n3'
    cases O with
    | false =>
      clear hrm3
      go_wp2_with (first | ((with_reducible apply tp); rfl; rfl; intro _ _ _) | ((with_reducible apply tr); rfl; intro _ _) | ((with_reducible apply te); rfl; intro _ _) | (with_reducible rfl) | (with_reducible apply tn) | ((with_reducible apply wp_txt); kernel_rfl; decide +kernel))
      go_ret2
      have he : c.hearFulfill m = (c, 132) := by rw [unhide HE]; simp
      rw [he]
      exact ⟨rfl, unhide H3, unhide HU3⟩
    | true =>
      go_wp2_with (first | ((with_reducible apply tp); rfl; rfl; intro _ _ _) | ((with_reducible apply tr); rfl; intro _ _) | ((with_reducible apply te); rfl; intro _ _) | (with_reducible rfl) | (with_reducible apply tn) | ((with_reducible apply wp_txt); kernel_rfl; decide +kernel))
      refine hrm3.mono ?_
      rintro e w4 ⟨rfl, h4, u4⟩
      have H4 := hide (h4.fr w)
      have HU4 := hide ((unhide HU3).trans (u4.mono (T := S) (fun k _ e => unhide HI k e)))
      clear hrm3 h4 u4
      go_wp2_with (first | ((with_reducible apply tp); rfl; rfl; intro _ _ _) | ((with_reducible apply tr); rfl; intro _ _) | ((with_reducible apply te); rfl; intro _ _) | (with_reducible rfl) | (with_reducible apply tn) | ((with_reducible apply wp_txt); kernel_rfl; decide +kernel))
      go_ret2
      have he : c.hearFulfill m = (c.removed i x true, 0) := by rw [unhide HE]; simp
      rw [he]
      exact ⟨rfl, unhide H4, unhide HU4⟩
theorem hear_fulfill (g : Nat) (S : Nat → Prop) (c : Ch) (m : MsgV) (hm : MsgOk m) (w : World) (h : ChS w g S c) (hok : mayMsg m = true) (hch : m.ch = c.s.ch) (hk : m.kind = 4) (hT : Tb w) :
    Calls Tryz.prog 18 #[.pointer (some ⟨g, 0, none⟩), .agg m.cells.toArray] w (Heard g S w (c.hearFulfill m).1 [] (c.hearFulfill m).2) :=
  hear_to _ g S c _ _ _ m hm w h hok hch (enters_of Tryz.func67 (by kernel_rfl) rfl) (fun hM => by rw [hk]; exact look_4 hM) (fun W nW => (hearFulfill_any g S c m hm W (h.new nW) (hT.new nW)).mono (by
    rintro e w' ⟨he, hc, hu⟩
    exact ⟨_, he, SaidO.nil _ _, hc, hu⟩))

end Go.Proofs.YtjpmomdechibmaaGreatDoor

/-
  Fulfill.
-/
namespace Go.Proofs.YtjpmomdechibmaaGreatDoor
set_option linter.unusedVariables false
set_option linter.unusedSimpArgs false
open Go.RowKit

attribute [local go_sem ↓ high] ld_msg_fold st_msg_fold al_msg_fold bd_msg_fold ld_hsh_fold st_hsh_fold al_hsh_fold
attribute [local go_sem] ld_msg st_msg al_msg bd_msg_zero bd_msg_ful ld_hsh st_hsh al_hsh rowN_drew

def fulMsg (id : Int) (p : List Int) : MsgV := ⟨4, 0, id, 0, p, 0, 0⟩
/-- What Fulfill does: the end, what it says, its error. -/
def Ch.fulfill (c : Ch) (id : Int) (p : List Int) : Ch × MsgV × Int := match bothX false id c.xs with
  | none => (c, MsgV.zero, 3)
  | some q => if opensB p q.2.h.hash.toList = true then ((c.removed q.1 q.2 true).say (fulMsg id p), (fulMsg id p).on c.s.ch, 0) else (c, MsgV.zero, 132)
theorem ful_none {c : Ch} {id : Int} {p : List Int} (h : bothX false id c.xs = none) : c.fulfill id p = (c, MsgV.zero, 3) := by unfold Ch.fulfill; rw [h]
theorem ful_some {c : Ch} {id : Int} {p : List Int} {i : Nat} {x : Live} (h : bothX false id c.xs = some (i, x)) : c.fulfill id p = if opensB p x.h.hash.toList = true then ((c.removed i x true).say (fulMsg id p), (fulMsg id p).on c.s.ch, 0) else (c, MsgV.zero, 132) := by unfold Ch.fulfill; rw [h]
set_option maxRecDepth 100000 in
set_option maxHeartbeats 1000000 in
theorem fulfill_any (g : Nat) (S : Nat → Prop) (c : Ch) (id : Int) (pre : List Int) (hpl : pre.length = 32) (w : World) (h : ChS w g S c) (hT : Tb w) (hfew : c.news.length < 1000000) :
    Calls Tryz.prog 27 #[.pointer (some ⟨g, 0, none⟩), .int .u64 id, .agg (hshV pre).toArray] w fun e w' =>
      e = .returned (.tuple #[.agg (c.fulfill id pre).2.1.cells.toArray, .int .i64 (c.fulfill id pre).2.2]) ∧ ChS w' g (Fr S w w') (c.fulfill id pre).1 ∧ Upd S w w' := by
  obtain ⟨lv, nv, av, h⟩ := h
  go_enter Tryz.func27, Tryz.ntmps27
  go_upto_region 1 with fail
  have hD := (hs_alloc w pre hpl).new ((Upd.refl _ _).alloc (.cells MsgV.zero.cells.toArray 30))
  have hB := ms_alloc (w.alloc (.cells (hshV pre).toArray 28)) MsgV.zero z32i_len
  rw [World.size_alloc] at hB
  have n1 : New w ((w.alloc (.cells (hshV pre).toArray 28)).alloc (.cells MsgV.zero.cells.toArray 30)) := ((Upd.refl _ _).alloc _).alloc _
  generalize (w.alloc (.cells (hshV pre).toArray 28)).alloc (.cells MsgV.zero.cells.toArray 30) = w1 at hD hB n1 ⊢
  obtain ⟨D, hDe⟩ : ∃ D, D = w.heap.size := ⟨_, rfl⟩
  obtain ⟨B, hBe⟩ : ∃ B, B = w.heap.size + 1 := ⟨_, rfl⟩
  rw [← hBe] at hB ⊢
  rw [← hDe] at hD ⊢
  have hBl : w.heap.size ≤ B := by omega
  have hDl : w.heap.size ≤ D := by omega
  have hgB : g ≠ B := by have := h.lt g h.inG; omega
  have hBS : ¬ S B := fun e => by have := h.lt B e; omega
  have hDS : ¬ S D := fun e => by have := h.lt D e; omega
  clear hBe hDe
  have h1 := h.new n1
  have hT1 := hT.new n1
  have hb := both_any g S c false id w1 ⟨lv, nv, av, h1⟩
  have bad : ∀ (W : World), New w1 W →
      stOk W B 0 38 MsgV.zero.cells.toArray = true ∧ MsB (W.setCells B 0 MsgV.zero.cells) B MsgV.zero ∧ ChS (W.setCells B 0 MsgV.zero.cells) g (Fr S w (W.setCells B 0 MsgV.zero.cells)) c ∧ Upd S w (W.setCells B 0 MsgV.zero.cells) := by
    intro W nW
    have hb := hB.new nW
    have u := upd_sets (w := W) (b := B) MsgV.zero.cells
    exact ⟨hb.stOk z32i_len, hb.put z32i_len, ChS.frW (w1 := w) ⟨lv, nv, av, ((h1.new nW).upd u (fun k hk e => by rw [e] at hk; exact hBS hk))⟩, ((n1.trans nW).mono (T := S) (fun _ _ h => h.elim)).then u (fun i hi e => by omega)⟩
  have HBAD := hide bad
  have HB := hide hB
  have HD := hide hD
  have HI := hide h.inL
  have H1 := hide h1
  have HLT := hide h.lt
  have N1 := hide n1
  have HOK := hide h.ok
  have hcl : (c.xs.length : Int) ≤ 1000000 := by have := h.ok.few; omega
  clear h h1 hB n1 bad hD hT
  go_wp2_with fail
  refine hb.mono ?_
  rintro e w2 ⟨rfl, n2⟩
  clear hb
  cases hx : bothX false id c.xs with
  | none =>
    have hi := bothX_none hx
    obtain ⟨hst, hF, hC, hU⟩ := unhide HBAD w2 n2
    have HE := hide (ful_none (p := pre) hx)
    have HF := hide hF
    have HC := hide hC
    have HU := hide hU
    rw [hi]
    clear hF hC hU n2 hx hi hT1
    go_wp2_with (first | ((with_reducible apply tp); rfl; rfl; intro _ _ _) | ((with_reducible apply tr); rfl; intro _ _) | ((with_reducible apply te); rfl; intro _ _) | (with_reducible rfl) | (with_reducible apply tn) | ((with_reducible apply wp_txt); kernel_rfl; decide +kernel))
    have hF := unhide HF
    refine bodyPost_ret (results_row_tmp' rfl _ _ B _ _ _ _ rfl hF.at_ Tryz.underlying30 rfl (by rw [hF.agg]; exact Tryz.infoMsg)) rfl ?_
    rw [unhide HE]
    exact ⟨rfl, unhide HC, unhide HU⟩
  | some pr =>
    obtain ⟨i, x⟩ := pr
    obtain ⟨hi, hix, -⟩ := bothX_some hx
    have h2 := (unhide H1).new n2
    rw [hi]
    have hlt := (List.getElem?_eq_some_iff.1 hix).1
    obtain ⟨gl, cap, hlv, rh⟩ := h2.hash hix
    have c47 : w2.cell? ⟨g, 47, none⟩ = some lv := h2.toR.live
    rw [hlv] at c47
    have hil : (i : Int) < (c.xs.length : Int) := by omega
    have hxo := ((unhide HOK).xs x (List.mem_of_getElem? hix)).h.hash
    have HOP := hide (fun W (nW : New w2 W) => opens_any pre x.h.hash.toList hpl (by simp) hxo W ((hT1.new n2).new nW).tabs)
    have HRM := hide (fun W (hW : ChP W g S c lv nv av) => remove_any g S c lv nv av i x true W hW hix)
    have HE := hide (ful_some (p := pre) hx)
    have RA := hide (((unhide HD).new n2).row)
    have RH := hide rh
    have N2 := hide n2
    have H2 := hide h2
    clear n2 hx hi hix h2 rh hxo hT1
    go_upto_region 4 with (first | ((with_reducible apply tp); rfl; rfl; intro _ _ _) | ((with_reducible apply tr); rfl; intro _ _) | ((with_reducible apply te); rfl; intro _ _) | (with_reducible rfl) | (with_reducible apply tn) | ((with_reducible apply wp_txt); kernel_rfl; decide +kernel))
    have rA := unhide RA
    have rh := unhide RH
    clear RA RH
    go_wp2_with (first | ((with_reducible apply tp); rfl; rfl; intro _ _ _) | ((with_reducible apply tr); rfl; intro _ _) | ((with_reducible apply te); rfl; intro _ _) | (with_reducible rfl) | (with_reducible apply tn) | ((with_reducible apply wp_txt); kernel_rfl; decide +kernel))
    refine (unhide HOP _ ((Upd.refl _ _).drew)).mono ?_
    rintro e w3 ⟨rfl, n3⟩
    have h3 := ((unhide H2).new ((Upd.refl (fun _ => False) w2).drew)).new n3
    have n3' : New w2 w3 := n3.ofDrew
    have hrm3 := unhide HRM w3 h3
    have N3 := hide ((unhide N2).trans n3')
    clear c47 rA rh h3 n3 n3' HOP HRM
    cases hO : opensB pre x.h.hash.toList with
    | false =>
      obtain ⟨hst, hF, hC, hU⟩ := unhide HBAD w3 (unhide N3)
      have HE2 : Hid (c.fulfill id pre = (c, MsgV.zero, 132)) := hide (by rw [unhide HE, hO]; simp)
      have HF := hide hF
      have HC := hide hC
      have HU := hide hU
      clear hrm3 hF hC hU hO
      go_wp2_with (first | ((with_reducible apply tp); rfl; rfl; intro _ _ _) | ((with_reducible apply tr); rfl; intro _ _) | ((with_reducible apply te); rfl; intro _ _) | (with_reducible rfl) | (with_reducible apply tn) | ((with_reducible apply wp_txt); kernel_rfl; decide +kernel))
      have hF := unhide HF
      refine bodyPost_ret (results_row_tmp' rfl _ _ B _ _ _ _ rfl hF.at_ Tryz.underlying30 rfl (by rw [hF.agg]; exact Tryz.infoMsg)) rfl ?_
      rw [unhide HE2]
      exact ⟨rfl, unhide HC, unhide HU⟩
    | true =>
      have HE2 : Hid (c.fulfill id pre = ((c.removed i x true).say (fulMsg id pre), (fulMsg id pre).on c.s.ch, 0)) := hide (by rw [unhide HE, hO]; simp)
      clear hO HE
      go_wp2_with (first | ((with_reducible apply tp); rfl; rfl; intro _ _ _) | ((with_reducible apply tr); rfl; intro _ _) | ((with_reducible apply te); rfl; intro _ _) | (with_reducible rfl) | (with_reducible apply tn) | ((with_reducible apply wp_txt); kernel_rfl; decide +kernel))
      refine hrm3.mono ?_
      rintro e w4 ⟨rfl, h4, u4⟩
      have hsay3 := say_any g S (c.removed i x true) (fulMsg id pre) hpl w4 ⟨lv, nv, av, h4⟩ hfew
      have U4 := hide ((((unhide N1).trans (unhide N3)).mono (T := S) (fun _ _ h => h.elim)).trans (u4.mono (T := S) (fun k _ e => unhide HI k e)))
      have HB4 := hide (((unhide HB).new (unhide N3)).upd u4 (fun e => hBS (unhide HI B e)))
      have HD4 := hide (((unhide HD).new (unhide N3)).upd u4 (fun e => hDS (unhide HI D e)))
      have bf := fun W => bd_msg_ful 4 id pre hpl W
      clear hrm3 h4 u4
      unfold fulMsg at hsay3
      go_upto_region 7 with (first | ((with_reducible apply tp); rfl; rfl; intro _ _ _) | ((with_reducible apply tr); rfl; intro _ _) | ((with_reducible apply te); rfl; intro _ _) | (with_reducible rfl) | (with_reducible apply tn) | ((with_reducible apply wp_txt); kernel_rfl; decide +kernel))
      have rD := (unhide HD4).row
      go_wp2_with (first | ((with_reducible apply tp); rfl; rfl; intro _ _ _) | ((with_reducible apply tr); rfl; intro _ _) | ((with_reducible apply te); rfl; intro _ _) | (with_reducible rfl) | (with_reducible apply tn) | ((with_reducible apply wp_txt); kernel_rfl; decide +kernel))
      refine hsay3.mono ?_
      rintro e w5 ⟨rfl, h5, u5⟩
      have hl : ((fulMsg id pre).on (c.removed i x true).s.ch).hash.length = 32 := hpl
      have hB5 := (unhide HB4).upd u5 hBS
      have hst := hB5.stOk hl
      have hF := hB5.put hl
      have u6 := upd_sets (w := w5) (b := B) ((fulMsg id pre).on (c.removed i x true).s.ch).cells
      have HF := hide hF
      have hw4 := (unhide U4).size
      have hC := h5.upd u6 (fun k hk e => by
        rcases hk with hk | hk
        · exact hBS (e ▸ hk)
        · have := (unhide HB4).lt
          omega)
      have HC := hide ((hC.grow u6.size).later hw4)
      have HU := hide (((unhide U4).trans u5).then u6 (fun i hi e => by omega))
      change stOk w5 B 0 38 ((⟨4, 0, id, 0, pre, 0, 0⟩ : MsgV).on (c.removed i x true).s.ch).cells.toArray = true at hst
      clear hsay3 h5 u5 hB5 hF u6 hC hl rD bf
      go_wp2_with (first | ((with_reducible apply tp); rfl; rfl; intro _ _ _) | ((with_reducible apply tr); rfl; intro _ _) | ((with_reducible apply te); rfl; intro _ _) | (with_reducible rfl) | (with_reducible apply tn) | ((with_reducible apply wp_txt); kernel_rfl; decide +kernel))
      have hF := unhide HF
      refine bodyPost_ret (results_row_tmp' rfl _ _ B _ _ _ _ rfl hF.at_ Tryz.underlying30 rfl (by rw [hF.agg]; exact Tryz.infoMsg)) rfl ?_
      rw [unhide HE2]
      exact ⟨rfl, unhide HC, unhide HU⟩

end Go.Proofs.YtjpmomdechibmaaGreatDoor

/-
  Hear, of any message but Again: one contract.
-/
namespace Go.Proofs.YtjpmomdechibmaaGreatDoor
set_option linter.unusedVariables false
set_option linter.unusedSimpArgs false
open Go.RowKit

/-- What an end must be so that hearing goes as it is told here. -/
structure Ch.Inv (c : Ch) : Prop where
  shelf : ShelfB c
  peer : c.s.peer.size ≤ 100000000
  ch : 0 ≤ c.s.ch ∧ c.s.ch < 4294967296
  heard : c.k.heard < 4294967295
  few : c.xs.length < 1000000
/-- What an end tells to a message (Again: see hearAgain), and becomes. -/
noncomputable def Ch.hear (c : Ch) (m : MsgV) : Ch × List MsgV × Int :=
  if mayMsg m = false ∨ m.ch ≠ c.s.ch then (c, [], 1)
  else if m.kind = 3 then ((c.hearAdd m).1, [], (c.hearAdd m).2)
  else if m.kind = 4 then ((c.hearFulfill m).1, [], (c.hearFulfill m).2)
  else if m.kind = 5 then ((c.hearFail m).1, [], (c.hearFail m).2)
  else if m.kind = 6 then c.hearSign m
  else if m.kind = 7 then ((c.hearRevoke m).1, [], (c.hearRevoke m).2)
  else (c.hearShut.1, [], c.hearShut.2)
theorem may_kind {m : MsgV} (h : mayMsg m = true) : 1 ≤ m.kind ∧ m.kind ≤ 9 := by
  cases hf : fieldsOf m.kind with
  | none => rw [may_none hf] at h; cases h
  | some xs =>
    unfold fieldsOf at hf
    repeat' (split at hf)
    all_goals first
      | omega
      | cases hf
theorem hear_any (g : Nat) (S : Nat → Prop) (c : Ch) (m : MsgV) (hm : MsgOk m) (w : World) (h : ChS w g S c) (hi : c.Inv) (hT : Tb w) (hS : Apart S) (hk : m.kind = 3 ∨ m.kind = 4 ∨ m.kind = 5 ∨ m.kind = 6 ∨ m.kind = 7 ∨ m.kind = 8) :
    Calls Tryz.prog 18 #[.pointer (some ⟨g, 0, none⟩), .agg m.cells.toArray] w (Heard g S w (c.hear m).1 (c.hear m).2.1 (c.hear m).2.2) := by
  by_cases hb : mayMsg m = false ∨ m.ch ≠ c.s.ch
  · have e : c.hear m = (c, [], 1) := by unfold Ch.hear; rw [if_pos hb]
    rw [e]
    refine (hear_bad g S c m hm w h hb).mono ?_
    rintro e w' ⟨he, hn⟩
    exact ⟨_, he, SaidO.nil _ _, (h.new hn).frW, hn.mono (fun _ _ h => h.elim)⟩
  · have hok : mayMsg m = true := by
      cases hy : mayMsg m with
      | true => rfl
      | false => exact absurd (.inl hy) hb
    have hch : m.ch = c.s.ch := Decidable.of_not_not (fun e => hb (.inr e))
    have e : c.hear m = if m.kind = 3 then ((c.hearAdd m).1, [], (c.hearAdd m).2) else if m.kind = 4 then ((c.hearFulfill m).1, [], (c.hearFulfill m).2) else if m.kind = 5 then ((c.hearFail m).1, [], (c.hearFail m).2) else if m.kind = 6 then c.hearSign m else if m.kind = 7 then ((c.hearRevoke m).1, [], (c.hearRevoke m).2) else (c.hearShut.1, [], c.hearShut.2) := by unfold Ch.hear; rw [if_neg hb]
    rcases hk with hk | hk | hk | hk | hk | hk
    · rw [e, if_pos hk]
      exact hear_add g S c m hm w h hok hch hk hi.few
    · rw [e, if_neg (by omega), if_pos hk]
      exact hear_fulfill g S c m hm w h hok hch hk hT
    · rw [e, if_neg (by omega), if_neg (by omega), if_pos hk]
      exact hear_fail g S c m hm w h hok hch hk
    · rw [e, if_neg (by omega), if_neg (by omega), if_neg (by omega), if_pos hk]
      exact hear_sign g S c m hm w h hok hch hk hT hS hi.peer hi.ch hi.heard
    · rw [e, if_neg (by omega), if_neg (by omega), if_neg (by omega), if_neg (by omega), if_pos hk]
      exact hear_revoke g S c m hm w h hok hch hk hi.shelf hT hS
    · rw [e, if_neg (by omega), if_neg (by omega), if_neg (by omega), if_neg (by omega), if_neg (by omega)]
      exact hear_shut g S c m hm w h hok hch hk

end Go.Proofs.YtjpmomdechibmaaGreatDoor

/-
  Law 13: the pair as plain data; hears and Sign over it, general.
-/
namespace Go.Proofs.YtjpmomdechibmaaGreatDoor
set_option linter.unusedVariables false
set_option linter.unusedSimpArgs false
open Go.RowKit

/-- Two ends, and what is on its way to each. -/
structure Pr where
  a : Ch
  b : Ch
  wa : List MsgV
  wb : List MsgV
  bad : Bool
def PrD (w0 w : World) (p : Nat) (S : Nat → Prop) (P : Pr) : Prop := PrS w0 w p S P.a P.b P.wa P.wb P.bad
noncomputable def Pr.hears0 (P : Pr) : Pr × Bool := match P.wa with
  | [] => (P, false)
  | m :: ms => (⟨(P.a.hear m).1, P.b, ms, P.wb ++ (P.a.hear m).2.1, P.bad || decide ((P.a.hear m).2.2 ≠ 0)⟩, true)
noncomputable def Pr.hears1 (P : Pr) : Pr × Bool := match P.wb with
  | [] => (P, false)
  | m :: ms => (⟨P.a, (P.b.hear m).1, P.wa ++ (P.b.hear m).2.1, ms, P.bad || decide ((P.b.hear m).2.2 ≠ 0)⟩, true)
/-- What must hold that a message is heard as told here. -/
structure HearOk (c : Ch) (m : MsgV) (other : List MsgV) : Prop where
  inv : c.Inv
  kind : m.kind = 3 ∨ m.kind = 4 ∨ m.kind = 5 ∨ m.kind = 6 ∨ m.kind = 7 ∨ m.kind = 8
  says : ∀ l ∈ (c.hear m).2.1, MsgOk l
  few : other.length + (c.hear m).2.1.length ≤ 1000000
def Pr.Ok0 (P : Pr) : Prop := match P.wa with | [] => True | m :: ms => MsgOk m ∧ HearOk P.a m P.wb ∧ ms.length < 1000000
def Pr.Ok1 (P : Pr) : Prop := match P.wb with | [] => True | m :: ms => MsgOk m ∧ HearOk P.b m P.wa ∧ ms.length < 1000000
theorem hears0D (w0 : World) (hT : Tb w0) (p : Nat) (S : Nat → Prop) (P : Pr) (w : World) (h : PrD w0 w p S P) (hok : P.Ok0) :
    Calls Tryz.prog 15 #[.pointer (some ⟨p, 0, none⟩), .int .i64 0] w fun e w' => e = .returned (.bool P.hears0.2) ∧ PrD w0 w' p (Fr S w w') P.hears0.1 ∧ Upd S w w' := by
  obtain ⟨a, b, wa, wb, bad⟩ := P
  cases wa with
  | nil =>
    refine (hears0_none w0 p S a b wb bad w h).mono ?_
    rintro e w' ⟨he, hn⟩
    exact ⟨he, (PrS.new h hn).frW (PrS.le h), hn.mono (fun _ _ h => h.elim)⟩
  | cons m ms =>
    obtain ⟨hm, hh, hf⟩ := hok
    exact hears0_any w0 hT p S a b m ms wb bad w h _ _ _ hh.says ⟨hf, hh.few⟩ fun W g S' hc ha ht => hear_any g S' a m hm W hc hh.inv ht ha hh.kind
theorem hears1D (w0 : World) (hT : Tb w0) (p : Nat) (S : Nat → Prop) (P : Pr) (w : World) (h : PrD w0 w p S P) (hok : P.Ok1) :
    Calls Tryz.prog 15 #[.pointer (some ⟨p, 0, none⟩), .int .i64 1] w fun e w' => e = .returned (.bool P.hears1.2) ∧ PrD w0 w' p (Fr S w w') P.hears1.1 ∧ Upd S w w' := by
  obtain ⟨a, b, wa, wb, bad⟩ := P
  cases wb with
  | nil =>
    refine (hears1_none w0 p S a b wa bad w h).mono ?_
    rintro e w' ⟨he, hn⟩
    exact ⟨he, (PrS.new h hn).frW (PrS.le h), hn.mono (fun _ _ h => h.elim)⟩
  | cons m ms =>
    obtain ⟨hm, hh, hf⟩ := hok
    exact hears1_any w0 hT p S a b m ms wa bad w h _ _ _ hh.says ⟨hf, hh.few⟩ fun W g S' hc ha ht => hear_any g S' b m hm W hc hh.inv ht ha hh.kind
/-- What must hold that an end signs as told here. -/
structure SignOk (c : Ch) : Prop where
  key : c.s.key.size ≤ 100000000
  ch : 0 ≤ c.s.ch ∧ c.s.ch < 4294967296
  few : c.news.length < 1000000
theorem sign0D (w0 : World) (hT : Tb w0) (p : Nat) (S : Nat → Prop) (P : Pr) (w : World) (h : PrD w0 w p S P) (hok : SignOk P.a) : ∃ g, w.cell? ⟨p, 0, none⟩ = some (.pointer (some ⟨g, 0, none⟩)) ∧
    Calls Tryz.prog 16 #[.pointer (some ⟨g, 0, none⟩)] w fun e w' => e = .returned (.tuple #[.agg P.a.sign.2.1.cells.toArray, .int .i64 P.a.sign.2.2]) ∧ PrD w0 w' p (Fr S w w') { P with a := P.a.sign.1 } ∧ Upd S w w' := by
  obtain ⟨g, S', hc, hA, hap, hn, hop⟩ := PrS.endA h hT
  refine ⟨g, hc, (sign_any g S' P.a w hA (hT.new hn) hap hok.key hok.ch hok.few).mono ?_⟩
  rintro e w' ⟨he, hc', hu⟩
  exact ⟨he, hop _ _ hc' hu⟩
theorem sign1D (w0 : World) (hT : Tb w0) (p : Nat) (S : Nat → Prop) (P : Pr) (w : World) (h : PrD w0 w p S P) (hok : SignOk P.b) : ∃ g, w.cell? ⟨p, 1, none⟩ = some (.pointer (some ⟨g, 0, none⟩)) ∧
    Calls Tryz.prog 16 #[.pointer (some ⟨g, 0, none⟩)] w fun e w' => e = .returned (.tuple #[.agg P.b.sign.2.1.cells.toArray, .int .i64 P.b.sign.2.2]) ∧ PrD w0 w' p (Fr S w w') { P with b := P.b.sign.1 } ∧ Upd S w w' := by
  obtain ⟨g, S', hc, hA, hap, hn, hop⟩ := PrS.endB h hT
  refine ⟨g, hc, (sign_any g S' P.b w hA (hT.new hn) hap hok.key hok.ch hok.few).mono ?_⟩
  rintro e w' ⟨he, hc', hu⟩
  exact ⟨he, hop _ _ hc' hu⟩

end Go.Proofs.YtjpmomdechibmaaGreatDoor

/-
  Law 13: a round of rests as plain data; signing and saying.
-/
namespace Go.Proofs.YtjpmomdechibmaaGreatDoor
set_option linter.unusedVariables false
set_option linter.unusedSimpArgs false
open Go.RowKit

theorem PrS.comp {w0 w1 w2 w3 : World} {p : Nat} {S : Nat → Prop} {a b a' b' : Ch} {wa wb wa' wb' : List MsgV} {bad bad' : Bool} (h : PrS w0 w3 p (Fr (Fr S w1 w2) w2 w3) a b wa wb bad) (h1 : w1.heap.size ≤ w2.heap.size) (h2 : w2.heap.size ≤ w3.heap.size) (h0 : PrS w0 w1 p S a' b' wa' wb' bad') : PrS w0 w3 p (Fr S w1 w3) a b wa wb bad := by
  have hle := h0.le
  obtain ⟨gA, gB, SA, SB, ua, ub, hP, hs, -⟩ := h
  obtain ⟨-, -, -, -, -, -, -, -, hb⟩ := h0
  refine ⟨gA, gB, SA, SB, ua, ub, hP, fun k hk => Fr.comp h1 h2 k (hs k hk), ?_⟩
  rintro k (hk | hk)
  · have := hb k hk
    exact ⟨this.1, by omega⟩
  · exact ⟨by omega, hk.2⟩
theorem PrS.later {w0 w1 w2 w3 : World} {p : Nat} {S : Nat → Prop} {a b : Ch} {wa wb : List MsgV} {bad : Bool} (h : PrS w0 w3 p (Fr S w2 w3) a b wa wb bad) (h1 : w1.heap.size ≤ w2.heap.size) (h2 : w2.heap.size ≤ w3.heap.size) (h0 : w0.heap.size ≤ w1.heap.size) : PrS w0 w3 p (Fr S w1 w3) a b wa wb bad := by
  obtain ⟨gA, gB, SA, SB, ua, ub, hP, hs, hb⟩ := h
  refine ⟨gA, gB, SA, SB, ua, ub, hP, ?_, ?_⟩
  · intro k hk
    rcases hs k hk with e | e
    · exact .inl e
    · exact .inr ⟨by omega, e.2⟩
  · rintro k (hk | hk)
    · exact hb k (.inl hk)
    · exact ⟨by omega, hk.2⟩
noncomputable def Pr.sign0 (P : Pr) : Pr := { P with a := P.a.sign.1, wb := if P.a.sign.2.2 = 0 then P.wb ++ [P.a.sign.2.1] else P.wb }
noncomputable def Pr.sign1 (P : Pr) : Pr := { P with b := P.b.sign.1, wa := if P.b.sign.2.2 = 0 then P.wa ++ [P.b.sign.2.1] else P.wa }
noncomputable def Pr.round (P : Pr) : Pr := P.hears0.1.hears1.1.sign0.sign1
noncomputable def Pr.went (P : Pr) : Bool := P.hears0.1.hears1.2 || P.hears0.2 || (P.hears0.1.hears1.1.a.sign.2.2 == 0) || (P.hears0.1.hears1.1.sign0.b.sign.2.2 == 0)
structure Pr.RoundOk (P : Pr) : Prop where
  ok0 : P.Ok0
  ok1 : P.hears0.1.Ok1
  sg0 : SignOk P.hears0.1.hears1.1.a
  sg1 : SignOk P.hears0.1.hears1.1.sign0.b
  ms0 : MsgOk P.hears0.1.hears1.1.a.sign.2.1
  ms1 : MsgOk P.hears0.1.hears1.1.sign0.b.sign.2.1
  few0 : P.hears0.1.hears1.1.wb.length < 1000000
  few1 : P.hears0.1.hears1.1.sign0.wa.length < 1000000
/-- At most n rounds lead from P to Q, where nothing goes any more (or n rounds are over). -/
inductive Rests : Nat → Pr → Pr → Prop
  | out (P : Pr) : Rests 0 P P
  | stop (n : Nat) (P : Pr) : P.RoundOk → P.went = false → Rests (n + 1) P P.round
  | step (n : Nat) (P Q : Pr) : P.RoundOk → P.went = true → Rests n P.round Q → Rests (n + 1) P Q

end Go.Proofs.YtjpmomdechibmaaGreatDoor

/-
  Law 13: one end signs and says (the inner loop's body of rests), over the pair.
-/
namespace Go.Proofs.YtjpmomdechibmaaGreatDoor
set_option linter.unusedVariables false
set_option linter.unusedSimpArgs false
open Go.RowKit

/-- Where rests stands: the pair R, since w. -/
def RSt (w0 w : World) (p : Nat) (S : Nat → Prop) (w' : World) (R : Pr) : Prop := PrD w0 w' p (Fr S w w') R ∧ Upd S w w'
section
variable {w0 w w1 w2 : World} {p : Nat} {S : Nat → Prop} {P R R' : Pr}
theorem RSt.start (h : PrD w0 w p S P) : RSt w0 w p S w P := ⟨PrS.frW h (PrS.le h), Upd.refl _ _⟩
theorem RSt.go (h : RSt w0 w p S w1 R) (h0 : PrD w0 w p S P) (h2 : PrD w0 w2 p (Fr (Fr S w w1) w1 w2) R' ∧ Upd (Fr S w w1) w1 w2) : RSt w0 w p S w2 R' :=
  ⟨PrS.comp h2.1 h.2.size h2.2.size h0, h.2.fr h2.2⟩
theorem RSt.new (h : RSt w0 w p S w1 R) (h0 : PrD w0 w p S P) (n : New w1 w2) : RSt w0 w p S w2 R :=
  h.go h0 ⟨PrS.frW (PrS.new h.1 n) (PrS.le h.1), n.mono (fun _ _ h => h.elim)⟩
theorem hears0R (hT : Tb w0) (h0 : PrD w0 w p S P) (h : RSt w0 w p S w1 R) (hok : R.Ok0) :
    Calls Tryz.prog 15 #[.pointer (some ⟨p, 0, none⟩), .int .i64 0] w1 fun e w' => e = .returned (.bool R.hears0.2) ∧ RSt w0 w p S w' R.hears0.1 :=
  (hears0D w0 hT p _ R w1 h.1 hok).mono fun e w' he => ⟨he.1, h.go h0 he.2⟩
theorem hears1R (hT : Tb w0) (h0 : PrD w0 w p S P) (h : RSt w0 w p S w1 R) (hok : R.Ok1) :
    Calls Tryz.prog 15 #[.pointer (some ⟨p, 0, none⟩), .int .i64 1] w1 fun e w' => e = .returned (.bool R.hears1.2) ∧ RSt w0 w p S w' R.hears1.1 :=
  (hears1D w0 hT p _ R w1 h.1 hok).mono fun e w' he => ⟨he.1, h.go h0 he.2⟩
theorem sign0R (hT : Tb w0) (h0 : PrD w0 w p S P) (h : RSt w0 w p S w1 R) (hok : SignOk R.a) : ∃ g, w1.cell? ⟨p, 0, none⟩ = some (.pointer (some ⟨g, 0, none⟩)) ∧
    Calls Tryz.prog 16 #[.pointer (some ⟨g, 0, none⟩)] w1 fun e w' => e = .returned (.tuple #[.agg R.a.sign.2.1.cells.toArray, .int .i64 R.a.sign.2.2]) ∧ RSt w0 w p S w' { R with a := R.a.sign.1 } := by
  obtain ⟨g, hc, ho⟩ := sign0D w0 hT p _ R w1 h.1 hok
  exact ⟨g, hc, ho.mono fun e w' he => ⟨he.1, h.go h0 he.2⟩⟩
theorem sign1R (hT : Tb w0) (h0 : PrD w0 w p S P) (h : RSt w0 w p S w1 R) (hok : SignOk R.b) : ∃ g, w1.cell? ⟨p, 1, none⟩ = some (.pointer (some ⟨g, 0, none⟩)) ∧
    Calls Tryz.prog 16 #[.pointer (some ⟨g, 0, none⟩)] w1 fun e w' => e = .returned (.tuple #[.agg R.b.sign.2.1.cells.toArray, .int .i64 R.b.sign.2.2]) ∧ RSt w0 w p S w' { R with b := R.b.sign.1 } := by
  obtain ⟨g, hc, ho⟩ := sign1D w0 hT p _ R w1 h.1 hok
  exact ⟨g, hc, ho.mono fun e w' he => ⟨he.1, h.go h0 he.2⟩⟩
theorem says0R (h0 : PrD w0 w p S P) (h : RSt w0 w p S w1 R) (m : MsgV) (n : Int) (hm : MsgOk m) (hfew : R.wb.length < 1000000) :
    Calls Tryz.prog 14 #[.pointer (some ⟨p, 0, none⟩), .int .i64 0, .agg m.cells.toArray, .int .i64 n] w1 fun e w' => e = .returned (.tuple #[]) ∧ RSt w0 w p S w' { R with wb := if n = 0 then R.wb ++ [m] else R.wb } :=
  (says0_any w0 p _ R.a R.b R.wa R.wb R.bad m n hm w1 h.1 hfew).mono fun e w' he => ⟨he.1, h.go h0 he.2⟩
theorem says1R (h0 : PrD w0 w p S P) (h : RSt w0 w p S w1 R) (m : MsgV) (n : Int) (hm : MsgOk m) (hfew : R.wa.length < 1000000) :
    Calls Tryz.prog 14 #[.pointer (some ⟨p, 0, none⟩), .int .i64 1, .agg m.cells.toArray, .int .i64 n] w1 fun e w' => e = .returned (.tuple #[]) ∧ RSt w0 w p S w' { R with wa := if n = 0 then R.wa ++ [m] else R.wa } :=
  (says1_any w0 p _ R.a R.b R.wa R.wb R.bad m n hm w1 h.1 hfew).mono fun e w' he => ⟨he.1, h.go h0 he.2⟩
end

end Go.Proofs.YtjpmomdechibmaaGreatDoor

/-
  Law 13: rests.
-/
namespace Go.Proofs.YtjpmomdechibmaaGreatDoor
set_option linter.unusedVariables false
set_option linter.unusedSimpArgs false
open Go.RowKit

attribute [local go_sem ↓ high] ld_msg_fold st_msg_fold al_msg_fold
attribute [local go_sem] ld_msg st_msg al_msg rowN_drew
theorem rests_case {n : Nat} {R Q : Pr} {k : Nat} (h : Rests k R Q) (hk : k = n + 1) : R.RoundOk ∧ ((R.went = false ∧ R.round = Q) ∨ (R.went = true ∧ Rests n R.round Q)) := by
  subst hk
  cases h with
  | stop _ _ a b => exact ⟨a, .inl ⟨b, rfl⟩⟩
  | step _ _ _ a b c => exact ⟨a, .inr ⟨b, c⟩⟩
theorem rests_end {R Q : Pr} {k : Nat} (h : Rests k R Q) (hk : k = 0) : R = Q := by
  subst hk
  cases h
  rfl
set_option maxRecDepth 100000 in
set_option maxHeartbeats 1000000 in
theorem rests_any (w0 : World) (hT : Tb w0) (p : Nat) (S : Nat → Prop) (P Q : Pr) (w : World) (h0 : PrD w0 w p S P) (hr : Rests 500 P Q) :
    Calls Tryz.prog 26 #[.pointer (some ⟨p, 0, none⟩)] w fun e w' => e = .returned (.tuple #[]) ∧ RSt w0 w p S w' Q := by
  have H0 := hide h0
  have HS := hide (RSt.start h0)
  have HR := hide hr
  clear h0 hr
  go_enter Tryz.func26, Tryz.ntmps26
  go_wp2_with fail
  go_loopw [2] (fun iv wr => ∃ (i : Nat) (R : Pr), iv = .int .i64 (i : Int) ∧ i ≤ 500 ∧ Hid (Rests (500 - i) R Q) ∧ Hid (RSt w0 w p S wr R)) (fun iv _ => 500 - (intOf iv).toNat)
  case atStart => exact ⟨0, P, rfl, by omega, HR, HS⟩
  case round =>
    obtain ⟨i, R, rfl, hi, hR, hSt⟩ := hrel
    obtain ⟨wq, rfl⟩ : ∃ wq : World, wq = wr := ⟨_, rfl⟩
    by_cases hlt : i < 500
    · have hlti : (i : Int) < 500 := by omega
      obtain ⟨ok, hq⟩ := rests_case (unhide hR) (show 500 - i = (499 - i) + 1 by omega)
      have HQ := hide hq
      have hh0 := hears0R hT (unhide H0) (unhide hSt) ok.ok0
      clear hR hq hSt HS HR
      go_wp2_with (first | ((with_reducible apply tp); rfl; rfl; intro _ _ _) | ((with_reducible apply tr); rfl; intro _ _) | ((with_reducible apply te); rfl; intro _ _) | (with_reducible rfl) | (with_reducible apply tn) | ((with_reducible apply wp_txt); kernel_rfl; decide +kernel))
      refine hh0.mono ?_
      rintro e wa ⟨rfl, h1⟩
      have hh1 := hears1R hT (unhide H0) h1 ok.ok1
      clear hh0 h1
      go_wp2_with (first | ((with_reducible apply tp); rfl; rfl; intro _ _ _) | ((with_reducible apply tr); rfl; intro _ _) | ((with_reducible apply te); rfl; intro _ _) | (with_reducible rfl) | (with_reducible apply tn) | ((with_reducible apply wp_txt); kernel_rfl; decide +kernel))
      refine hh1.mono ?_
      rintro e wb ⟨rfl, h2⟩
      clear hh1
      go_wp2_with (first | ((with_reducible apply tp); rfl; rfl; intro _ _ _) | ((with_reducible apply tr); rfl; intro _ _) | ((with_reducible apply te); rfl; intro _ _) | (with_reducible rfl) | (with_reducible apply tn) | ((with_reducible apply wp_txt); kernel_rfl; decide +kernel))
      · have HS2 := hide h2
        clear h2
        go_loopw [3, 4] (fun gv kv wr => (kv = .int .i64 0 ∧ gv = .bool true ∧ Hid (RSt w0 w p S wr R.hears0.1.hears1.1)) ∨ (∃ g, kv = .int .i64 1 ∧ gv = .bool g ∧ Hid (g = (true || (R.hears0.1.hears1.1.a.sign.2.2 == 0))) ∧ Hid (RSt w0 w p S wr R.hears0.1.hears1.1.sign0)) ∨ (∃ g, kv = .int .i64 2 ∧ gv = .bool g ∧ Hid (g = ((true || (R.hears0.1.hears1.1.a.sign.2.2 == 0)) || (R.hears0.1.hears1.1.sign0.b.sign.2.2 == 0))) ∧ Hid (RSt w0 w p S wr R.hears0.1.hears1.1.sign0.sign1))) (fun _ kv _ => 2 - (intOf kv).toNat)
        case atStart => exact .inl ⟨rfl, rfl, HS2⟩
        case round =>
          rcases hrel with ⟨rfl, rfl, hS⟩ | ⟨g, rfl, rfl, hg, hS⟩ | ⟨g, rfl, rfl, hg, hS⟩
          · obtain ⟨gp, c0, hsg⟩ := sign0R hT (unhide H0) (unhide hS) ok.sg0
            have okm := ok.ms0
            have hEE : R.hears0.1.hears1.1.sign0 = { ({ R.hears0.1.hears1.1 with a := R.hears0.1.hears1.1.a.sign.1 } : Pr) with wb := if R.hears0.1.hears1.1.a.sign.2.2 = 0 then R.hears0.1.hears1.1.wb ++ [R.hears0.1.hears1.1.a.sign.2.1] else R.hears0.1.hears1.1.wb } := rfl
            have HEE := hide hEE
            clear hEE
            generalize R.hears0.1.hears1.1.a.sign.2.1 = M at *
            generalize R.hears0.1.hears1.1.a.sign.2.2 = E at *
            go_wp2_with (first | ((with_reducible apply tp); rfl; rfl; intro _ _ _) | ((with_reducible apply tr); rfl; intro _ _) | ((with_reducible apply te); rfl; intro _ _) | (with_reducible rfl) | (with_reducible apply tn) | ((with_reducible apply wp_txt); kernel_rfl; decide +kernel))
            refine hsg.mono ?_
            rintro e wc ⟨rfl, h3⟩
            obtain ⟨hst, hK, nK⟩ := ms_fresh wc M okm.len
            have h4 := h3.new (unhide H0) nK
            clear hsg c0 h3 nK
            go_upto_region 9 with (first | ((with_reducible apply tp); rfl; rfl; intro _ _ _) | ((with_reducible apply tr); rfl; intro _ _) | ((with_reducible apply te); rfl; intro _ _) | (with_reducible rfl) | (with_reducible apply tn) | ((with_reducible apply wp_txt); kernel_rfl; decide +kernel))
            change Code.wp _ _ _ _ (msNew wc M)
            generalize msNew wc M = wd at h4 hK ⊢
            generalize wc.heap.size = K at hK ⊢
            clear hst
            have rK := hK.row
            have hsay := says0R (unhide H0) h4 M E okm ok.few0
            clear h4 hK
            go_wp2_with (first | ((with_reducible apply tp); rfl; rfl; intro _ _ _) | ((with_reducible apply tr); rfl; intro _ _) | ((with_reducible apply te); rfl; intro _ _) | (with_reducible rfl) | (with_reducible apply tn) | ((with_reducible apply wp_txt); kernel_rfl; decide +kernel))
            refine hsay.mono ?_
            rintro e we ⟨rfl, h5⟩
            have H5 := hide h5
            clear hsay rK h5
            go_wp2_with (first | ((with_reducible apply tp); rfl; rfl; intro _ _ _) | ((with_reducible apply tr); rfl; intro _ _) | ((with_reducible apply te); rfl; intro _ _) | (with_reducible rfl) | (with_reducible apply tn) | ((with_reducible apply wp_txt); kernel_rfl; decide +kernel))
            all_goals
              go_roundw
              case rel => exact .inr (.inl ⟨_, rfl, rfl, hide (by simp [*]), by rw [unhide HEE]; exact H5⟩)
              case measure => decide
          · obtain ⟨gp, c0, hsg⟩ := sign1R hT (unhide H0) (unhide hS) ok.sg1
            have okm := ok.ms1
            have hEE : R.hears0.1.hears1.1.sign0.sign1 = { ({ R.hears0.1.hears1.1.sign0 with b := R.hears0.1.hears1.1.sign0.b.sign.1 } : Pr) with wa := if R.hears0.1.hears1.1.sign0.b.sign.2.2 = 0 then R.hears0.1.hears1.1.sign0.wa ++ [R.hears0.1.hears1.1.sign0.b.sign.2.1] else R.hears0.1.hears1.1.sign0.wa } := rfl
            have HEE := hide hEE
            clear hEE
            generalize R.hears0.1.hears1.1.sign0.b.sign.2.1 = M at *
            generalize R.hears0.1.hears1.1.sign0.b.sign.2.2 = E at *
            go_wp2_with (first | ((with_reducible apply tp); rfl; rfl; intro _ _ _) | ((with_reducible apply tr); rfl; intro _ _) | ((with_reducible apply te); rfl; intro _ _) | (with_reducible rfl) | (with_reducible apply tn) | ((with_reducible apply wp_txt); kernel_rfl; decide +kernel))
            refine hsg.mono ?_
            rintro e wc ⟨rfl, h3⟩
            obtain ⟨hst, hK, nK⟩ := ms_fresh wc M okm.len
            have h4 := h3.new (unhide H0) nK
            clear hsg c0 h3 nK
            go_upto_region 9 with (first | ((with_reducible apply tp); rfl; rfl; intro _ _ _) | ((with_reducible apply tr); rfl; intro _ _) | ((with_reducible apply te); rfl; intro _ _) | (with_reducible rfl) | (with_reducible apply tn) | ((with_reducible apply wp_txt); kernel_rfl; decide +kernel))
            change Code.wp _ _ _ _ (msNew wc M)
            generalize msNew wc M = wd at h4 hK ⊢
            generalize wc.heap.size = K at hK ⊢
            clear hst
            have rK := hK.row
            have hsay := says1R (unhide H0) h4 M E okm ok.few1
            clear h4 hK
            go_wp2_with (first | ((with_reducible apply tp); rfl; rfl; intro _ _ _) | ((with_reducible apply tr); rfl; intro _ _) | ((with_reducible apply te); rfl; intro _ _) | (with_reducible rfl) | (with_reducible apply tn) | ((with_reducible apply wp_txt); kernel_rfl; decide +kernel))
            refine hsay.mono ?_
            rintro e we ⟨rfl, h5⟩
            have H5 := hide h5
            clear hsay rK h5
            go_wp2_with (first | ((with_reducible apply tp); rfl; rfl; intro _ _ _) | ((with_reducible apply tr); rfl; intro _ _) | ((with_reducible apply te); rfl; intro _ _) | (with_reducible rfl) | (with_reducible apply tn) | ((with_reducible apply wp_txt); kernel_rfl; decide +kernel))
            all_goals
              go_roundw
              case rel => exact .inr (.inr ⟨_, rfl, rfl, hide (by rw [← unhide hg]; simp [*]), by rw [unhide HEE]; exact H5⟩)
              case measure => decide
          · have hgw : g = R.went := by rw [unhide hg]; unfold Pr.went; simp [*]
            rcases unhide HQ with ⟨hw, hrd⟩ | ⟨hw, hnx⟩
            · rw [hw] at hgw
              subst hgw
              have HF : Hid (RSt w0 w p S wr Q) := by rw [← hrd]; exact hS
              clear hg hS hrd hw HQ HS2
              go_wp2_with (first | ((with_reducible apply tp); rfl; rfl; intro _ _ _) | ((with_reducible apply tr); rfl; intro _ _) | ((with_reducible apply te); rfl; intro _ _) | (with_reducible rfl) | (with_reducible apply tn) | ((with_reducible apply wp_txt); kernel_rfl; decide +kernel))
              refine bodyPost_ret (results_none rfl _ _ _) rfl ?_
              exact ⟨rfl, unhide HF⟩
            · rw [hw] at hgw
              subst hgw
              have HN := hide hnx
              clear hg hw HQ HS2 hnx
              go_wp2_with (first | ((with_reducible apply tp); rfl; rfl; intro _ _ _) | ((with_reducible apply tr); rfl; intro _ _) | ((with_reducible apply te); rfl; intro _ _) | (with_reducible rfl) | (with_reducible apply tn) | ((with_reducible apply wp_txt); kernel_rfl; decide +kernel))
              go_roundw
              case rel => exact ⟨i + 1, R.round, by go_num, by omega, by rw [show 500 - (i + 1) = 499 - i by omega]; exact HN, hS⟩
              case measure => simp [intOf]; omega
      · cases hG : R.hears0.2
        · have HS2 := hide h2
          clear h2
          go_loopw [3, 4] (fun gv kv wr => (kv = .int .i64 0 ∧ gv = .bool false ∧ Hid (RSt w0 w p S wr R.hears0.1.hears1.1)) ∨ (∃ g, kv = .int .i64 1 ∧ gv = .bool g ∧ Hid (g = (false || (R.hears0.1.hears1.1.a.sign.2.2 == 0))) ∧ Hid (RSt w0 w p S wr R.hears0.1.hears1.1.sign0)) ∨ (∃ g, kv = .int .i64 2 ∧ gv = .bool g ∧ Hid (g = ((false || (R.hears0.1.hears1.1.a.sign.2.2 == 0)) || (R.hears0.1.hears1.1.sign0.b.sign.2.2 == 0))) ∧ Hid (RSt w0 w p S wr R.hears0.1.hears1.1.sign0.sign1))) (fun _ kv _ => 2 - (intOf kv).toNat)
          case atStart => exact .inl ⟨rfl, rfl, HS2⟩
          case round =>
            rcases hrel with ⟨rfl, rfl, hS⟩ | ⟨g, rfl, rfl, hg, hS⟩ | ⟨g, rfl, rfl, hg, hS⟩
            · obtain ⟨gp, c0, hsg⟩ := sign0R hT (unhide H0) (unhide hS) ok.sg0
              have okm := ok.ms0
              have hEE : R.hears0.1.hears1.1.sign0 = { ({ R.hears0.1.hears1.1 with a := R.hears0.1.hears1.1.a.sign.1 } : Pr) with wb := if R.hears0.1.hears1.1.a.sign.2.2 = 0 then R.hears0.1.hears1.1.wb ++ [R.hears0.1.hears1.1.a.sign.2.1] else R.hears0.1.hears1.1.wb } := rfl
              have HEE := hide hEE
              clear hEE
              generalize R.hears0.1.hears1.1.a.sign.2.1 = M at *
              generalize R.hears0.1.hears1.1.a.sign.2.2 = E at *
              go_wp2_with (first | ((with_reducible apply tp); rfl; rfl; intro _ _ _) | ((with_reducible apply tr); rfl; intro _ _) | ((with_reducible apply te); rfl; intro _ _) | (with_reducible rfl) | (with_reducible apply tn) | ((with_reducible apply wp_txt); kernel_rfl; decide +kernel))
              refine hsg.mono ?_
              rintro e wc ⟨rfl, h3⟩
              obtain ⟨hst, hK, nK⟩ := ms_fresh wc M okm.len
              have h4 := h3.new (unhide H0) nK
              clear hsg c0 h3 nK
              go_upto_region 9 with (first | ((with_reducible apply tp); rfl; rfl; intro _ _ _) | ((with_reducible apply tr); rfl; intro _ _) | ((with_reducible apply te); rfl; intro _ _) | (with_reducible rfl) | (with_reducible apply tn) | ((with_reducible apply wp_txt); kernel_rfl; decide +kernel))
              change Code.wp _ _ _ _ (msNew wc M)
              generalize msNew wc M = wd at h4 hK ⊢
              generalize wc.heap.size = K at hK ⊢
              clear hst
              have rK := hK.row
              have hsay := says0R (unhide H0) h4 M E okm ok.few0
              clear h4 hK
              go_wp2_with (first | ((with_reducible apply tp); rfl; rfl; intro _ _ _) | ((with_reducible apply tr); rfl; intro _ _) | ((with_reducible apply te); rfl; intro _ _) | (with_reducible rfl) | (with_reducible apply tn) | ((with_reducible apply wp_txt); kernel_rfl; decide +kernel))
              refine hsay.mono ?_
              rintro e we ⟨rfl, h5⟩
              have H5 := hide h5
              clear hsay rK h5
              go_wp2_with (first | ((with_reducible apply tp); rfl; rfl; intro _ _ _) | ((with_reducible apply tr); rfl; intro _ _) | ((with_reducible apply te); rfl; intro _ _) | (with_reducible rfl) | (with_reducible apply tn) | ((with_reducible apply wp_txt); kernel_rfl; decide +kernel))
              all_goals
                go_roundw
                case rel => exact .inr (.inl ⟨_, rfl, rfl, hide (by simp [*]), by rw [unhide HEE]; exact H5⟩)
                case measure => decide
            · obtain ⟨gp, c0, hsg⟩ := sign1R hT (unhide H0) (unhide hS) ok.sg1
              have okm := ok.ms1
              have hEE : R.hears0.1.hears1.1.sign0.sign1 = { ({ R.hears0.1.hears1.1.sign0 with b := R.hears0.1.hears1.1.sign0.b.sign.1 } : Pr) with wa := if R.hears0.1.hears1.1.sign0.b.sign.2.2 = 0 then R.hears0.1.hears1.1.sign0.wa ++ [R.hears0.1.hears1.1.sign0.b.sign.2.1] else R.hears0.1.hears1.1.sign0.wa } := rfl
              have HEE := hide hEE
              clear hEE
              generalize R.hears0.1.hears1.1.sign0.b.sign.2.1 = M at *
              generalize R.hears0.1.hears1.1.sign0.b.sign.2.2 = E at *
              go_wp2_with (first | ((with_reducible apply tp); rfl; rfl; intro _ _ _) | ((with_reducible apply tr); rfl; intro _ _) | ((with_reducible apply te); rfl; intro _ _) | (with_reducible rfl) | (with_reducible apply tn) | ((with_reducible apply wp_txt); kernel_rfl; decide +kernel))
              refine hsg.mono ?_
              rintro e wc ⟨rfl, h3⟩
              obtain ⟨hst, hK, nK⟩ := ms_fresh wc M okm.len
              have h4 := h3.new (unhide H0) nK
              clear hsg c0 h3 nK
              go_upto_region 9 with (first | ((with_reducible apply tp); rfl; rfl; intro _ _ _) | ((with_reducible apply tr); rfl; intro _ _) | ((with_reducible apply te); rfl; intro _ _) | (with_reducible rfl) | (with_reducible apply tn) | ((with_reducible apply wp_txt); kernel_rfl; decide +kernel))
              change Code.wp _ _ _ _ (msNew wc M)
              generalize msNew wc M = wd at h4 hK ⊢
              generalize wc.heap.size = K at hK ⊢
              clear hst
              have rK := hK.row
              have hsay := says1R (unhide H0) h4 M E okm ok.few1
              clear h4 hK
              go_wp2_with (first | ((with_reducible apply tp); rfl; rfl; intro _ _ _) | ((with_reducible apply tr); rfl; intro _ _) | ((with_reducible apply te); rfl; intro _ _) | (with_reducible rfl) | (with_reducible apply tn) | ((with_reducible apply wp_txt); kernel_rfl; decide +kernel))
              refine hsay.mono ?_
              rintro e we ⟨rfl, h5⟩
              have H5 := hide h5
              clear hsay rK h5
              go_wp2_with (first | ((with_reducible apply tp); rfl; rfl; intro _ _ _) | ((with_reducible apply tr); rfl; intro _ _) | ((with_reducible apply te); rfl; intro _ _) | (with_reducible rfl) | (with_reducible apply tn) | ((with_reducible apply wp_txt); kernel_rfl; decide +kernel))
              all_goals
                go_roundw
                case rel => exact .inr (.inr ⟨_, rfl, rfl, hide (by rw [← unhide hg]; simp [*]), by rw [unhide HEE]; exact H5⟩)
                case measure => decide
            · have hgw : g = R.went := by rw [unhide hg]; unfold Pr.went; simp [*]
              rcases unhide HQ with ⟨hw, hrd⟩ | ⟨hw, hnx⟩
              · rw [hw] at hgw
                subst hgw
                have HF : Hid (RSt w0 w p S wr Q) := by rw [← hrd]; exact hS
                clear hg hS hrd hw HQ HS2
                go_wp2_with (first | ((with_reducible apply tp); rfl; rfl; intro _ _ _) | ((with_reducible apply tr); rfl; intro _ _) | ((with_reducible apply te); rfl; intro _ _) | (with_reducible rfl) | (with_reducible apply tn) | ((with_reducible apply wp_txt); kernel_rfl; decide +kernel))
                refine bodyPost_ret (results_none rfl _ _ _) rfl ?_
                exact ⟨rfl, unhide HF⟩
              · rw [hw] at hgw
                subst hgw
                have HN := hide hnx
                clear hg hw HQ HS2 hnx
                go_wp2_with (first | ((with_reducible apply tp); rfl; rfl; intro _ _ _) | ((with_reducible apply tr); rfl; intro _ _) | ((with_reducible apply te); rfl; intro _ _) | (with_reducible rfl) | (with_reducible apply tn) | ((with_reducible apply wp_txt); kernel_rfl; decide +kernel))
                go_roundw
                case rel => exact ⟨i + 1, R.round, by go_num, by omega, by rw [show 500 - (i + 1) = 499 - i by omega]; exact HN, hS⟩
                case measure => simp [intOf]; omega
        · have HS2 := hide h2
          clear h2
          go_loopw [3, 4] (fun gv kv wr => (kv = .int .i64 0 ∧ gv = .bool true ∧ Hid (RSt w0 w p S wr R.hears0.1.hears1.1)) ∨ (∃ g, kv = .int .i64 1 ∧ gv = .bool g ∧ Hid (g = (true || (R.hears0.1.hears1.1.a.sign.2.2 == 0))) ∧ Hid (RSt w0 w p S wr R.hears0.1.hears1.1.sign0)) ∨ (∃ g, kv = .int .i64 2 ∧ gv = .bool g ∧ Hid (g = ((true || (R.hears0.1.hears1.1.a.sign.2.2 == 0)) || (R.hears0.1.hears1.1.sign0.b.sign.2.2 == 0))) ∧ Hid (RSt w0 w p S wr R.hears0.1.hears1.1.sign0.sign1))) (fun _ kv _ => 2 - (intOf kv).toNat)
          case atStart => exact .inl ⟨rfl, rfl, HS2⟩
          case round =>
            rcases hrel with ⟨rfl, rfl, hS⟩ | ⟨g, rfl, rfl, hg, hS⟩ | ⟨g, rfl, rfl, hg, hS⟩
            · obtain ⟨gp, c0, hsg⟩ := sign0R hT (unhide H0) (unhide hS) ok.sg0
              have okm := ok.ms0
              have hEE : R.hears0.1.hears1.1.sign0 = { ({ R.hears0.1.hears1.1 with a := R.hears0.1.hears1.1.a.sign.1 } : Pr) with wb := if R.hears0.1.hears1.1.a.sign.2.2 = 0 then R.hears0.1.hears1.1.wb ++ [R.hears0.1.hears1.1.a.sign.2.1] else R.hears0.1.hears1.1.wb } := rfl
              have HEE := hide hEE
              clear hEE
              generalize R.hears0.1.hears1.1.a.sign.2.1 = M at *
              generalize R.hears0.1.hears1.1.a.sign.2.2 = E at *
              go_wp2_with (first | ((with_reducible apply tp); rfl; rfl; intro _ _ _) | ((with_reducible apply tr); rfl; intro _ _) | ((with_reducible apply te); rfl; intro _ _) | (with_reducible rfl) | (with_reducible apply tn) | ((with_reducible apply wp_txt); kernel_rfl; decide +kernel))
              refine hsg.mono ?_
              rintro e wc ⟨rfl, h3⟩
              obtain ⟨hst, hK, nK⟩ := ms_fresh wc M okm.len
              have h4 := h3.new (unhide H0) nK
              clear hsg c0 h3 nK
              go_upto_region 9 with (first | ((with_reducible apply tp); rfl; rfl; intro _ _ _) | ((with_reducible apply tr); rfl; intro _ _) | ((with_reducible apply te); rfl; intro _ _) | (with_reducible rfl) | (with_reducible apply tn) | ((with_reducible apply wp_txt); kernel_rfl; decide +kernel))
              change Code.wp _ _ _ _ (msNew wc M)
              generalize msNew wc M = wd at h4 hK ⊢
              generalize wc.heap.size = K at hK ⊢
              clear hst
              have rK := hK.row
              have hsay := says0R (unhide H0) h4 M E okm ok.few0
              clear h4 hK
              go_wp2_with (first | ((with_reducible apply tp); rfl; rfl; intro _ _ _) | ((with_reducible apply tr); rfl; intro _ _) | ((with_reducible apply te); rfl; intro _ _) | (with_reducible rfl) | (with_reducible apply tn) | ((with_reducible apply wp_txt); kernel_rfl; decide +kernel))
              refine hsay.mono ?_
              rintro e we ⟨rfl, h5⟩
              have H5 := hide h5
              clear hsay rK h5
              go_wp2_with (first | ((with_reducible apply tp); rfl; rfl; intro _ _ _) | ((with_reducible apply tr); rfl; intro _ _) | ((with_reducible apply te); rfl; intro _ _) | (with_reducible rfl) | (with_reducible apply tn) | ((with_reducible apply wp_txt); kernel_rfl; decide +kernel))
              all_goals
                go_roundw
                case rel => exact .inr (.inl ⟨_, rfl, rfl, hide (by simp [*]), by rw [unhide HEE]; exact H5⟩)
                case measure => decide
            · obtain ⟨gp, c0, hsg⟩ := sign1R hT (unhide H0) (unhide hS) ok.sg1
              have okm := ok.ms1
              have hEE : R.hears0.1.hears1.1.sign0.sign1 = { ({ R.hears0.1.hears1.1.sign0 with b := R.hears0.1.hears1.1.sign0.b.sign.1 } : Pr) with wa := if R.hears0.1.hears1.1.sign0.b.sign.2.2 = 0 then R.hears0.1.hears1.1.sign0.wa ++ [R.hears0.1.hears1.1.sign0.b.sign.2.1] else R.hears0.1.hears1.1.sign0.wa } := rfl
              have HEE := hide hEE
              clear hEE
              generalize R.hears0.1.hears1.1.sign0.b.sign.2.1 = M at *
              generalize R.hears0.1.hears1.1.sign0.b.sign.2.2 = E at *
              go_wp2_with (first | ((with_reducible apply tp); rfl; rfl; intro _ _ _) | ((with_reducible apply tr); rfl; intro _ _) | ((with_reducible apply te); rfl; intro _ _) | (with_reducible rfl) | (with_reducible apply tn) | ((with_reducible apply wp_txt); kernel_rfl; decide +kernel))
              refine hsg.mono ?_
              rintro e wc ⟨rfl, h3⟩
              obtain ⟨hst, hK, nK⟩ := ms_fresh wc M okm.len
              have h4 := h3.new (unhide H0) nK
              clear hsg c0 h3 nK
              go_upto_region 9 with (first | ((with_reducible apply tp); rfl; rfl; intro _ _ _) | ((with_reducible apply tr); rfl; intro _ _) | ((with_reducible apply te); rfl; intro _ _) | (with_reducible rfl) | (with_reducible apply tn) | ((with_reducible apply wp_txt); kernel_rfl; decide +kernel))
              change Code.wp _ _ _ _ (msNew wc M)
              generalize msNew wc M = wd at h4 hK ⊢
              generalize wc.heap.size = K at hK ⊢
              clear hst
              have rK := hK.row
              have hsay := says1R (unhide H0) h4 M E okm ok.few1
              clear h4 hK
              go_wp2_with (first | ((with_reducible apply tp); rfl; rfl; intro _ _ _) | ((with_reducible apply tr); rfl; intro _ _) | ((with_reducible apply te); rfl; intro _ _) | (with_reducible rfl) | (with_reducible apply tn) | ((with_reducible apply wp_txt); kernel_rfl; decide +kernel))
              refine hsay.mono ?_
              rintro e we ⟨rfl, h5⟩
              have H5 := hide h5
              clear hsay rK h5
              go_wp2_with (first | ((with_reducible apply tp); rfl; rfl; intro _ _ _) | ((with_reducible apply tr); rfl; intro _ _) | ((with_reducible apply te); rfl; intro _ _) | (with_reducible rfl) | (with_reducible apply tn) | ((with_reducible apply wp_txt); kernel_rfl; decide +kernel))
              all_goals
                go_roundw
                case rel => exact .inr (.inr ⟨_, rfl, rfl, hide (by rw [← unhide hg]; simp [*]), by rw [unhide HEE]; exact H5⟩)
                case measure => decide
            · have hgw : g = R.went := by rw [unhide hg]; unfold Pr.went; simp [*]
              rcases unhide HQ with ⟨hw, hrd⟩ | ⟨hw, hnx⟩
              · rw [hw] at hgw
                subst hgw
                have HF : Hid (RSt w0 w p S wr Q) := by rw [← hrd]; exact hS
                clear hg hS hrd hw HQ HS2
                go_wp2_with (first | ((with_reducible apply tp); rfl; rfl; intro _ _ _) | ((with_reducible apply tr); rfl; intro _ _) | ((with_reducible apply te); rfl; intro _ _) | (with_reducible rfl) | (with_reducible apply tn) | ((with_reducible apply wp_txt); kernel_rfl; decide +kernel))
                refine bodyPost_ret (results_none rfl _ _ _) rfl ?_
                exact ⟨rfl, unhide HF⟩
              · rw [hw] at hgw
                subst hgw
                have HN := hide hnx
                clear hg hw HQ HS2 hnx
                go_wp2_with (first | ((with_reducible apply tp); rfl; rfl; intro _ _ _) | ((with_reducible apply tr); rfl; intro _ _) | ((with_reducible apply te); rfl; intro _ _) | (with_reducible rfl) | (with_reducible apply tn) | ((with_reducible apply wp_txt); kernel_rfl; decide +kernel))
                go_roundw
                case rel => exact ⟨i + 1, R.round, by go_num, by omega, by rw [show 500 - (i + 1) = 499 - i by omega]; exact HN, hS⟩
                case measure => simp [intOf]; omega
    · obtain rfl : i = 500 := by omega
      have he := rests_end (unhide hR) (by omega)
      have HF := hide hSt
      clear hR
      go_wp2_with (first | ((with_reducible apply tp); rfl; rfl; intro _ _ _) | ((with_reducible apply tr); rfl; intro _ _) | ((with_reducible apply te); rfl; intro _ _) | (with_reducible rfl) | (with_reducible apply tn) | ((with_reducible apply wp_txt); kernel_rfl; decide +kernel))
      go_end0
      rw [← he]
      exact ⟨rfl, unhide (unhide HF)⟩

end Go.Proofs.YtjpmomdechibmaaGreatDoor
