/-
  Law 13: the pair of ends; begin.
-/
import Derived.Test.YtjpmomdechibmaaGreatDoorQa
import Derived.Deep.Onto
import Derived.Maps.AppendAt
import Derived.Deep.AppendLies
import Derived.Laws.OwnMore
namespace Go.Proofs.YtjpmomdechibmaaGreatDoor
set_option linter.unusedVariables false
set_option linter.unusedSimpArgs false
open Go.RowKit

def prC (gA gB : Nat) (ua ub : Value) (bad : Bool) : List Value := [.pointer (some ⟨gA, 0, none⟩), .pointer (some ⟨gB, 0, none⟩), ua, ub, .bool bad]
/-- Two ends, and messages on their ways, in block p. -/
structure PrP (w0 w : World) (p gA gB : Nat) (SA SB : Nat → Prop) (a b : Ch) (wa wb : List MsgV) (ua ub : Value) (bad : Bool) : Prop where
  two : Two w0 w gA gB SA SB a b
  at_ : w.heap[p]? = some (.cells (prC gA gB ua ub bad).toArray 38 (0, 0))
  off : Off w SA SB p
  ge : w0.heap.size ≤ p
  rowA : w.ownsRow w0.heap.size 30 38 ua wa.length (wa.flatMap MsgV.cells)
  rowB : w.ownsRow w0.heap.size 30 38 ub wb.length (wb.flatMap MsgV.cells)
  offA : ∀ k, ua.ownBlock = some k → Off w SA SB k
  offB : ∀ k, ub.ownBlock = some k → Off w SA SB k
  sep : ∀ k, ua.ownBlock = some k → ub.ownBlock ≠ some k
  okA : ∀ m ∈ wa, MsgOk m
  okB : ∀ m ∈ wb, MsgOk m
section
variable {w0 w w' : World} {p gA gB : Nat} {SA SB : Nat → Prop} {a b a' b' : Ch} {wa wb : List MsgV} {ua ub : Value} {bad : Bool}
theorem PrP.new (h : PrP w0 w p gA gB SA SB a b wa wb ua ub bad) (u : New w w') : PrP w0 w' p gA gB SA SB a b wa wb ua ub bad :=
  ⟨h.two.new u, u.old h.at_ (fun h => h), h.off.new u.size, h.ge, row_upd' h.rowA u (fun _ _ h => h), row_upd' h.rowB u (fun _ _ h => h), fun k hk => (h.offA k hk).new u.size, fun k hk => (h.offB k hk).new u.size, h.sep, h.okA, h.okB⟩
theorem PrP.opA (h : PrP w0 w p gA gB SA SB a b wa wb ua ub bad) (hc : ChS w' gA (Fr SA w w') a') (u : Upd SA w w') : PrP w0 w' p gA gB (Fr SA w w') SB a' b wa wb ua ub bad :=
  ⟨h.two.opA hc u, u.old h.at_ h.off.a, h.off.opA u, h.ge, row_upd' h.rowA u (fun k hk => (h.offA k hk).a), row_upd' h.rowB u (fun k hk => (h.offB k hk).a), fun k hk => (h.offA k hk).opA u, fun k hk => (h.offB k hk).opA u, h.sep, h.okA, h.okB⟩
theorem PrP.opB (h : PrP w0 w p gA gB SA SB a b wa wb ua ub bad) (hc : ChS w' gB (Fr SB w w') b') (u : Upd SB w w') : PrP w0 w' p gA gB SA (Fr SB w w') a b' wa wb ua ub bad :=
  ⟨h.two.opB hc u, u.old h.at_ h.off.b, h.off.opB u, h.ge, row_upd' h.rowA u (fun k hk => (h.offA k hk).b), row_upd' h.rowB u (fun k hk => (h.offB k hk).b), fun k hk => (h.offA k hk).opB u, fun k hk => (h.offB k hk).opB u, h.sep, h.okA, h.okB⟩
theorem PrP.cell (h : PrP w0 w p gA gB SA SB a b wa wb ua ub bad) : w.cell? ⟨p, 0, none⟩ = some (.pointer (some ⟨gA, 0, none⟩)) ∧ w.cell? ⟨p, 1, none⟩ = some (.pointer (some ⟨gB, 0, none⟩)) ∧ w.cell? ⟨p, 2, none⟩ = some ua ∧ w.cell? ⟨p, 3, none⟩ = some ub ∧ w.cell? ⟨p, 4, none⟩ = some (.bool bad) :=
  ⟨blk_cell h.at_ 0, blk_cell h.at_ 1, blk_cell h.at_ 2, blk_cell h.at_ 3, blk_cell h.at_ 4⟩
end
theorem setA_may {ours cap : Int} : (setA ours cap).may ↔ 1 ≤ cap ∧ cap ≤ 1125899906842624 ∧ ours ≤ cap := by
  unfold SetupV.may setA
  constructor
  · intro h; exact ⟨h.1, h.2.1, h.2.2.1⟩
  · intro h; exact ⟨h.1, h.2.1, h.2.2, by show 1 ≤ 64; decide, by show 1 ≤ 64; decide⟩
theorem setB_may {ours cap : Int} (ho : 0 ≤ ours) (h : 1 ≤ cap ∧ cap ≤ 1125899906842624 ∧ ours ≤ cap) : (setB ours cap).may := by
  refine ⟨h.1, h.2.1, ?_, by show 1 ≤ 64; decide, by show 1 ≤ 64; decide⟩
  show IntKind.u64.wrap (cap - ours) ≤ cap
  rw [wrapU (by omega) (by omega)]
  omega

attribute [local go_sem ↓ high] st_st2_fold al_st2_fold ld_setup_fold
attribute [local go_sem] rowN_drew st_st2 al_st2 ld_setup
set_option maxRecDepth 100000 in
set_option maxHeartbeats 2000000 in
theorem begin_any (ours cap : Int) (ho : 0 ≤ ours ∧ ours < 18446744073709551616) (hc : 0 ≤ cap ∧ cap < 18446744073709551616) (w : World) :
    Calls Tryz.prog 11 #[.int .u64 ours, .int .u64 cap] w fun e w' =>
      (∃ p gA gB, e = .returned (.pointer (some ⟨p, 0, none⟩)) ∧ (1 ≤ cap ∧ cap ≤ 1125899906842624 ∧ ours ≤ cap) ∧ PrP w w' p gA gB (· = gA) (· = gB) (Ch.new (setA ours cap)) (Ch.new (setB ours cap)) [] [] nilV nilV false) ∨
      (e = .returned (.pointer none) ∧ ¬ (1 ≤ cap ∧ cap ≤ 1125899906842624 ∧ ours ≤ cap) ∧ New w w') := by
  have hokA := setA_ok ho hc
  have hokB := setB_ok (ours := ours) hc
  have hmA := @setA_may ours cap
  have hmB := @setB_may ours cap ho.1
  go_enter Tryz.func11, Tryz.ntmps11
  go_wp2_with fail
  obtain ⟨wp, hwp⟩ : ∃ wp : World, wp = w.alloc (.cells #[.pointer none, .pointer none, .slice none 0 0, .slice none 0 0, .bool false] 38) := ⟨_, rfl⟩
  have hp0 : wp.heap[w.heap.size]? = some (.cells #[.pointer none, .pointer none, .slice none 0 0, .slice none 0 0, .bool false] 38 (0, 0)) := by rw [hwp]; exact blk_alloc _ _
  have np : New w wp := by rw [hwp]; exact (Upd.refl _ _).alloc _
  rw [← hwp]
  clear hwp
  obtain ⟨p, hpe⟩ : ∃ p, p = w.heap.size := ⟨_, rfl⟩
  rw [← hpe] at hp0 ⊢
  have hpl : w.heap.size ≤ p := by omega
  clear hpe
  refine (setups_any ours cap wp).mono ?_
  rintro e w1 ⟨rfl, n1⟩
  obtain ⟨hst, hF⟩ := st2_fresh (blk_alloc w1 (.cells zSt2.toArray 82)) (s := setA ours cap) (t := setB ours cap) rfl rfl
  have n2 : New wp ((w1.alloc (.cells zSt2.toArray 82)).setCells w1.heap.size 0 (sets2 (setA ours cap) (setB ours cap))) := (n1.alloc _).then (upd_sets _) (fun i hi e => by have := n1.size; omega)
  have hpT : p < w1.heap.size := Nat.lt_of_lt_of_le (blk_lt hp0) n1.size
  have hb0 : Ch.new (setA ours cap) = Ch.new (setA ours cap) := rfl
  obtain ⟨sA, hsA⟩ : ∃ sA, sA = setA ours cap := ⟨_, rfl⟩
  obtain ⟨sB, hsB⟩ : ∃ sB, sB = setB ours cap := ⟨_, rfl⟩
  rw [← hsA] at hst hF n2 hokA hmA ⊢
  rw [← hsB] at hst hF n2 hokB hmB ⊢
  have HSA := hide hsA
  have HSB := hide hsB
  clear n1 hb0 hsA hsB
  go_upto_region 3 with fail
  generalize (w1.alloc (.cells zSt2.toArray 82)).setCells w1.heap.size 0 (sets2 sA sB) = w2 at hF n2 ⊢
  generalize w1.heap.size = T at hF hpT ⊢
  clear hst w1
  have hp2 := n2.old hp0 (fun h => h)
  have N2 := hide (np.trans n2)
  have HF := hide hF
  have hTlt : T < w2.heap.size := blk_lt hF.at_
  have hwz := (np.trans n2).size
  clear n2 np hp0 hF
  go_wp2_with fail
  go_loopw [7] (fun iv wr => Upd (· = p) w2 wr ∧ ((iv = .int .i64 0 ∧ wr.heap[p]? = some (.cells #[.pointer none, .pointer none, .slice none 0 0, .slice none 0 0, .bool false] 38 (0, 0))) ∨
    (∃ gA, iv = .int .i64 1 ∧ sA.may ∧ w2.heap.size ≤ gA ∧ Hid (ChS wr gA (· = gA) (Ch.new sA)) ∧ wr.heap[p]? = some (.cells #[.pointer (some ⟨gA, 0, none⟩), .pointer none, .slice none 0 0, .slice none 0 0, .bool false] 38 (0, 0))) ∨
    (∃ gA gB, iv = .int .i64 2 ∧ sA.may ∧ w2.heap.size ≤ gA ∧ gA < gB ∧ Hid (ChS wr gA (· = gA) (Ch.new sA)) ∧ Hid (ChS wr gB (· = gB) (Ch.new sB)) ∧ wr.heap[p]? = some (.cells #[.pointer (some ⟨gA, 0, none⟩), .pointer (some ⟨gB, 0, none⟩), .slice none 0 0, .slice none 0 0, .bool false] 38 (0, 0))))) (fun iv _ => 2 - (intOf iv).toNat)
  case atStart => exact ⟨Upd.refl _ _, .inl ⟨rfl, hp2⟩⟩
  case round =>
    obtain ⟨ur, hrel⟩ := hrel
    obtain ⟨wq, rfl⟩ : ∃ wq : World, wq = wr := ⟨_, rfl⟩
    have hFq := (unhide HF).upd ur (fun e => by omega)
    have hpt : p < w2.heap.size := blk_lt hp2
    rcases hrel with ⟨rfl, hp⟩ | ⟨gA, rfl, hm, hgA, hA, hp⟩ | ⟨gA, gB, rfl, hm, hgA, hgB, hA, hB, hp⟩
    · have r0 := hFq.row0
      have hzq := ur.size
      go_wp2_with (first | ((with_reducible apply tp); rfl; rfl; intro _ _ _) | ((with_reducible apply tr); rfl; intro _ _) | ((with_reducible apply te); rfl; intro _ _) | (with_reducible rfl) | (with_reducible apply tn) | ((with_reducible apply wp_txt); kernel_rfl; decide +kernel))
      refine (newC_any sA hokA wq.drew).mono ?_
      rintro e w3 hw3
      rcases hw3 with ⟨hm, g, rfl, hg, hR, n3⟩ | ⟨hm, rfl, n3⟩
      · have n3 : New wq w3 := n3.ofDrew
        have hp3 := n3.old hp (fun h => h)
        have c0 : w3.cell? ⟨p, 0, none⟩ = some (.pointer none) := blk_cell hp3 0
        have f0 : w3.frozen? ⟨p, 0, none⟩ = false := blk_free hp3 0
        have hput := blk_set hp3 0 (.pointer (some ⟨g, 0, none⟩))
        have u4 := upd_g w3 p 0 (.pointer (some ⟨g, 0, none⟩))
        have hgz : wq.heap.size ≤ g := hg
        have hC := (chS_new hR hokA hm).upd u4 (fun k hk e => by omega)
        have hU := (ur.trans (n3.mono (fun _ _ h => h.elim))).trans u4
        have d0 : (w3.setCell ⟨p, 0, none⟩ (.pointer (some ⟨g, 0, none⟩))).cell? ⟨p, 0, none⟩ = some (.pointer (some ⟨g, 0, none⟩)) := by rw [blk_cell hput]; rfl
        have HC := hide hC
        have HP := hide hput
        have HU := hide hU
        clear r0 hC hput hU hR n3 u4 hp ur hp3 hFq
        go_wp2_with (first | ((with_reducible apply tp); rfl; rfl; intro _ _ _) | ((with_reducible apply tr); rfl; intro _ _) | ((with_reducible apply te); rfl; intro _ _) | (with_reducible rfl) | (with_reducible apply tn) | ((with_reducible apply wp_txt); kernel_rfl; decide +kernel))
        go_roundw
        case rel => exact ⟨unhide HU, .inr (.inl ⟨g, rfl, hm, by omega, HC, unhide HP⟩)⟩
        case measure => decide
      · have n3 : New wq w3 := n3.ofDrew
        have hp3 := n3.old hp (fun h => h)
        have c0 : w3.cell? ⟨p, 0, none⟩ = some (.pointer none) := blk_cell hp3 0
        have f0 : w3.frozen? ⟨p, 0, none⟩ = false := blk_free hp3 0
        have hput := blk_set hp3 0 (.pointer none)
        have u4 := upd_g w3 p 0 (.pointer none)
        have hU := (ur.trans (n3.mono (fun _ _ h => h.elim))).trans u4
        have d0 : (w3.setCell ⟨p, 0, none⟩ (.pointer none)).cell? ⟨p, 0, none⟩ = some (.pointer none) := by rw [blk_cell hput]; rfl
        have HU := hide ((unhide N2).then hU (fun i hi e => by omega))
        clear r0 hput hU n3 u4 hp ur hp3 hFq
        go_wp2_with (first | ((with_reducible apply tp); rfl; rfl; intro _ _ _) | ((with_reducible apply tr); rfl; intro _ _) | ((with_reducible apply te); rfl; intro _ _) | (with_reducible rfl) | (with_reducible apply tn) | ((with_reducible apply wp_txt); kernel_rfl; decide +kernel))
        go_ret
        exact .inr ⟨rfl, fun h => hm (hmA.2 h), unhide HU⟩
    · have hA' := unhide hA
      have r1 := hFq.row1
      have hzq := ur.size
      have hmb := hmB (hmA.1 hm)
      go_wp2_with (first | ((with_reducible apply tp); rfl; rfl; intro _ _ _) | ((with_reducible apply tr); rfl; intro _ _) | ((with_reducible apply te); rfl; intro _ _) | (with_reducible rfl) | (with_reducible apply tn) | ((with_reducible apply wp_txt); kernel_rfl; decide +kernel))
      refine (newC_any sB hokB wq.drew).mono ?_
      rintro e w3 hw3
      rcases hw3 with ⟨-, g, rfl, hg, hR, n3⟩ | ⟨hn, -⟩
      case inr => exact absurd hmb hn
      have n3 : New wq w3 := n3.ofDrew
      have hp3 := n3.old hp (fun h => h)
      have c1 : w3.cell? ⟨p, 1, none⟩ = some (.pointer none) := blk_cell hp3 1
      have f1 : w3.frozen? ⟨p, 1, none⟩ = false := blk_free hp3 1
      have hput := blk_set hp3 1 (.pointer (some ⟨g, 0, none⟩))
      have u4 := upd_g w3 p 1 (.pointer (some ⟨g, 0, none⟩))
      have hgz : wq.heap.size ≤ g := hg
      have hAlt := hA'.lt gA rfl
      have hC := (chS_new hR hokB hmb).upd u4 (fun k hk e => by omega)
      have hA4 := (hA'.new n3).upd u4 (fun k hk e => by omega)
      have hU := (ur.trans (n3.mono (fun _ _ h => h.elim))).trans u4
      have d0 : (w3.setCell ⟨p, 1, none⟩ (.pointer (some ⟨g, 0, none⟩))).cell? ⟨p, 1, none⟩ = some (.pointer (some ⟨g, 0, none⟩)) := by rw [blk_cell hput]; rfl
      have HC := hide hC
      have HA4 := hide hA4
      have HP := hide hput
      have HU := hide hU
      clear r1 hC hput hU hR n3 u4 hp ur hp3 hFq hA4 hA'
      go_wp2_with (first | ((with_reducible apply tp); rfl; rfl; intro _ _ _) | ((with_reducible apply tr); rfl; intro _ _) | ((with_reducible apply te); rfl; intro _ _) | (with_reducible rfl) | (with_reducible apply tn) | ((with_reducible apply wp_txt); kernel_rfl; decide +kernel))
      go_roundw
      case rel => exact ⟨unhide HU, .inr (.inr ⟨gA, g, rfl, hm, hgA, by omega, HA4, HC, unhide HP⟩)⟩
      case measure => decide
    · have hzq := ur.size
      have hfin := (unhide N2).then ur (fun i hi e => by omega)
      go_wp2_with (first | ((with_reducible apply tp); rfl; rfl; intro _ _ _) | ((with_reducible apply tr); rfl; intro _ _) | ((with_reducible apply te); rfl; intro _ _) | (with_reducible rfl) | (with_reducible apply tn) | ((with_reducible apply wp_txt); kernel_rfl; decide +kernel))
      go_ret
      have hB' := unhide hB
      have hA' := unhide hA
      have hpq := blk_lt hp
      refine .inl ⟨p, gA, gB, rfl, hmA.1 hm, ⟨⟨?_, ?_, fun k hk => by omega, fun k hk => by omega, fun k hk hb => by omega, hfin⟩, hp, ⟨hpq, fun e => by omega, fun e => by omega⟩, hpl, World.ownsRow_nil _ _ _ _, World.ownsRow_nil _ _ _ _, ?_, ?_, ?_, ?_, ?_⟩⟩
      · rw [← unhide HSA]; exact hA'
      · rw [← unhide HSB]; exact hB'
      · intro k hk; simp [nilV, Value.ownBlock] at hk
      · intro k hk; simp [nilV, Value.ownBlock] at hk
      · intro k hk; simp [nilV, Value.ownBlock] at hk
      · intro m hm; cases hm
      · intro m hm; cases hm

end Go.Proofs.YtjpmomdechibmaaGreatDoor

/-
  Law 13: says (printed by tools/mk_pr2.py).
-/
namespace Go.Proofs.YtjpmomdechibmaaGreatDoor
set_option linter.unusedVariables false
set_option linter.unusedSimpArgs false
open Go.RowKit

section
variable {w0 w wD w' : World} {p gA gB : Nat} {SA SB S : Nat → Prop} {a b a' b' : Ch} {wa wb : List MsgV} {ua ub : Value} {bad : Bool}

theorem PrP.putA (h : PrP w0 w p gA gB SA SB a b wa wb ua ub bad) (u : Upd (fun k => ua.ownBlock = some k) w wD) {v : Value} {wn : List MsgV}
    (hown : wD.ownsRow w0.heap.size 30 38 v wn.length (wn.flatMap MsgV.cells)) (hblk : ∀ k, v.ownBlock = some k → ua.ownBlock = some k ∨ w.heap.size ≤ k) (hok : ∀ m ∈ wn, MsgOk m) :
    PrP w0 (wD.setCell ⟨p, 2, none⟩ v) p gA gB SA SB a b wn wb v ub bad := by
  have uE : Upd (· = p) wD (wD.setCell ⟨p, 2, none⟩ v) := (Upd.refl _ _).set1 2 _
  have hpN : ¬ (ua.ownBlock = some p) := fun e => by
    obtain ⟨cur, hc⟩ := own_blk' h.rowA p e
    exact apart_ty' h.at_ hc (by decide) rfl
  have hpM : ¬ (ub.ownBlock = some p) := fun e => by
    obtain ⟨cur, hc⟩ := own_blk' h.rowB p e
    exact apart_ty' h.at_ hc (by decide) rfl
  have atD := u.old h.at_ hpN
  have hpV : ¬ (v.ownBlock = some p) := fun e => by
    obtain ⟨cur, hc⟩ := own_blk' hown p e
    exact apart_ty' atD hc (by decide) rfl
  have sz := u.size
  have sz' := uE.size
  have hat := blk_set atD 2 v
  have hvlt : ∀ k, v.ownBlock = some k → k < wD.heap.size := fun k hk => by
    obtain ⟨cur, hc⟩ := own_blk' hown k hk
    exact blk_lt hc
  refine ⟨⟨(h.two.A.upd u (fun k hk e => (h.offA k e).a hk)).upd uE (fun k hk e => h.off.a (e ▸ hk)), (h.two.B.upd u (fun k hk e => (h.offA k e).b hk)).upd uE (fun k hk e => h.off.b (e ▸ hk)), h.two.geA, h.two.geB, h.two.sep, (h.two.n.then u (fun i hi e => by have := own_ge h.rowA i e; omega)).then uE (fun i hi e => by have := h.ge; omega)⟩, hat, h.off.new (by omega), h.ge, ?_, ?_, ?_, ?_, ?_, ?_, ?_⟩
  · exact row_upd' hown uE (fun k hk e => hpV (e ▸ hk))
  · exact row_upd' (row_upd' h.rowB u (fun k hk e => h.sep k e hk)) uE (fun k hk e => hpM (e ▸ hk))
  · intro k hk
    rcases hblk k hk with e | e
    · exact (h.offA k e).new (by omega)
    · exact Off.fresh h.two e (by have := hvlt k hk; omega)
  · exact fun k hk => (h.offB k hk).new (by omega)
  · intro k hk hb
    rcases hblk k hk with e | e
    · exact h.sep k e hb
    · have := (h.offB k hb).lt
      omega
  · exact hok
  · exact h.okB

theorem PrP.putB (h : PrP w0 w p gA gB SA SB a b wa wb ua ub bad) (u : Upd (fun k => ub.ownBlock = some k) w wD) {v : Value} {wn : List MsgV}
    (hown : wD.ownsRow w0.heap.size 30 38 v wn.length (wn.flatMap MsgV.cells)) (hblk : ∀ k, v.ownBlock = some k → ub.ownBlock = some k ∨ w.heap.size ≤ k) (hok : ∀ m ∈ wn, MsgOk m) :
    PrP w0 (wD.setCell ⟨p, 3, none⟩ v) p gA gB SA SB a b wa wn ua v bad := by
  have uE : Upd (· = p) wD (wD.setCell ⟨p, 3, none⟩ v) := (Upd.refl _ _).set1 3 _
  have hpN : ¬ (ub.ownBlock = some p) := fun e => by
    obtain ⟨cur, hc⟩ := own_blk' h.rowB p e
    exact apart_ty' h.at_ hc (by decide) rfl
  have hpM : ¬ (ua.ownBlock = some p) := fun e => by
    obtain ⟨cur, hc⟩ := own_blk' h.rowA p e
    exact apart_ty' h.at_ hc (by decide) rfl
  have atD := u.old h.at_ hpN
  have hpV : ¬ (v.ownBlock = some p) := fun e => by
    obtain ⟨cur, hc⟩ := own_blk' hown p e
    exact apart_ty' atD hc (by decide) rfl
  have sz := u.size
  have sz' := uE.size
  have hat := blk_set atD 3 v
  have hvlt : ∀ k, v.ownBlock = some k → k < wD.heap.size := fun k hk => by
    obtain ⟨cur, hc⟩ := own_blk' hown k hk
    exact blk_lt hc
  refine ⟨⟨(h.two.A.upd u (fun k hk e => (h.offB k e).a hk)).upd uE (fun k hk e => h.off.a (e ▸ hk)), (h.two.B.upd u (fun k hk e => (h.offB k e).b hk)).upd uE (fun k hk e => h.off.b (e ▸ hk)), h.two.geA, h.two.geB, h.two.sep, (h.two.n.then u (fun i hi e => by have := own_ge h.rowB i e; omega)).then uE (fun i hi e => by have := h.ge; omega)⟩, hat, h.off.new (by omega), h.ge, ?_, ?_, ?_, ?_, ?_, ?_, ?_⟩
  · exact row_upd' (row_upd' h.rowA u (fun k hk e => h.sep k hk e)) uE (fun k hk e => hpM (e ▸ hk))
  · exact row_upd' hown uE (fun k hk e => hpV (e ▸ hk))
  · exact fun k hk => (h.offA k hk).new (by omega)
  · intro k hk
    rcases hblk k hk with e | e
    · exact (h.offB k e).new (by omega)
    · exact Off.fresh h.two e (by have := hvlt k hk; omega)
  · intro k ha hk
    rcases hblk k hk with e | e
    · exact h.sep k ha e
    · have := (h.offA k ha).lt
      omega
  · exact h.okA
  · exact hok

/-- The pair, whose blocks are all in S. -/
def PrS (w0 w : World) (p : Nat) (S : Nat → Prop) (a b : Ch) (wa wb : List MsgV) (bad : Bool) : Prop :=
  ∃ gA gB SA SB ua ub, PrP w0 w p gA gB SA SB a b wa wb ua ub bad ∧ (∀ k, (SA k ∨ SB k ∨ k = p ∨ ua.ownBlock = some k ∨ ub.ownBlock = some k) → S k) ∧ (∀ k, S k → w0.heap.size ≤ k ∧ k < w.heap.size)
theorem PrS.new (h : PrS w0 w p S a b wa wb bad) (u : New w w') : PrS w0 w' p S a b wa wb bad := by
  obtain ⟨gA, gB, SA, SB, ua, ub, hP, h1, h2⟩ := h
  exact ⟨gA, gB, SA, SB, ua, ub, hP.new u, h1, fun k hk => ⟨(h2 k hk).1, Nat.lt_of_lt_of_le (h2 k hk).2 u.size⟩⟩
theorem PrS.le (h : PrS w0 w p S a b wa wb bad) : w0.heap.size ≤ w.heap.size := by
  obtain ⟨gA, gB, SA, SB, ua, ub, hP, -, -⟩ := h
  exact hP.two.n.size
theorem PrS.frW (h : PrS w0 w' p S a b wa wb bad) (hw : w0.heap.size ≤ w.heap.size) : PrS w0 w' p (Fr S w w') a b wa wb bad := by
  obtain ⟨gA, gB, SA, SB, ua, ub, hP, h1, h2⟩ := h
  refine ⟨gA, gB, SA, SB, ua, ub, hP, fun k hk => .inl (h1 k hk), ?_⟩
  rintro k (hk | hk)
  · exact h2 k hk
  · exact ⟨by omega, hk.2⟩
end
attribute [local go_sem ↓ high] ld_msg_fold st_msg_fold al_msg_fold bd_msg_fold bs_msg_fold
attribute [local go_sem] ld_msg st_msg al_msg bs_msg rowN_drew

set_option maxRecDepth 100000 in
set_option maxHeartbeats 1000000 in
theorem says0_any (w0 : World) (p : Nat) (S : Nat → Prop) (a b : Ch) (wa wb : List MsgV) (bad : Bool) (m : MsgV) (n : Int) (hm : MsgOk m) (w : World) (h : PrS w0 w p S a b wa wb bad) (hfew : wb.length < 1000000) :
    Calls Tryz.prog 14 #[.pointer (some ⟨p, 0, none⟩), .int .i64 0, .agg m.cells.toArray, .int .i64 n] w fun e w' => e = .returned (.tuple #[]) ∧ PrS w0 w' p (Fr S w w') a b wa (if n = 0 then wb ++ [m] else wb) bad ∧ Upd S w w' := by
  go_enter Tryz.func14, Tryz.ntmps14
  go_upto_region 1 with fail
  have hA := ms_alloc w m hm.len
  have n1 : New w (w.alloc (.cells m.cells.toArray 30)) := (Upd.refl _ _).alloc _
  generalize w.alloc (.cells m.cells.toArray 30) = w1 at n1 hA ⊢
  obtain ⟨A, hAe⟩ : ∃ A, A = w.heap.size := ⟨_, rfl⟩
  rw [← hAe] at hA ⊢
  have HLE := hide h.le
  clear hAe
  by_cases hn : n = 0
  · subst hn
    have HS1 := hide (h.new n1)
    obtain ⟨gA, gB, SA, SB, ua, ub, hP, hSub, hSlt⟩ := h.new n1
    have c3 : w1.cell? ⟨p, 3, none⟩ = some ub := blk_cell hP.at_ 3
    have f3 : w1.frozen? ⟨p, 3, none⟩ = false := blk_free hP.at_ 3
    have hr := hA.row
    have hl38 := MsgV.len m hm.len
    obtain ⟨i9, z9, b9, hi9, hz9, hz0, hz1, hz2, hb9⟩ := msg_info
    have hlt0 : w0.heap.size ≤ w1.heap.size := hP.two.n.size
    obtain ⟨na, ncap, hnv⟩ := own_shape' hP.rowB
    have HP := hide hP
    have H1 := hide hSub
    have H2 := hide hSlt
    have N1 := hide n1
    have HAA := hide hA
    clear h hP hSub hSlt n1 hA
    go_upto_region 2 with fail
    have c3d : w1.drew.cell? ⟨p, 3, none⟩ = some ub := c3
    refine wp_plan (fun w' => w'.cell? ⟨p, 3, none⟩ = some ub) [9] (.of [0, 1, 2, 3, 4, 5, 6, 7, 8, 9, 10, 11, 12, 13, 14, 15, 16]) (by kernel_rfl) (by kernel_rfl) c3d ?_
    simp only [Plan.of]
    go_wp2_with (first | ((with_reducible apply qp); rfl; rfl; rfl; intro _ _ _) | ((with_reducible apply qc); rfl; rfl; rfl; with_reducible assumption; intro _ hC _ _) | ((with_reducible apply qr); rfl; rfl; intro _ _) | ((with_reducible apply qd); rfl; rfl; decide +kernel; intro _ _) | ((with_reducible apply qe); rfl; rfl; intro _ _) | (with_reducible rfl) | (with_reducible apply qn))
    refine ⟨((Upd.refl (fun _ => False) w1).alloc _).drew.cell c3 (fun h => h), ?_⟩
    have nC : New w1 (w1.alloc (.cells m.cells.toArray 30)).drew := ((Upd.refl _ _).alloc _).drew
    have hbD : (w1.alloc (.cells m.cells.toArray 30)).drew.heap[w1.heap.size]? = some (.cells m.cells.toArray 30 (0, 0)) := blk_alloc w1 (.cells m.cells.toArray 30)
    have c3' := nC.cell c3 (fun h => h)
    have HP2 := hide ((unhide HP).new nC)
    have nwC := hide ((unhide N1).trans nC)
    have hDl : w1.heap.size ≤ w1.heap.size := Nat.le_refl _
    have hlt1 : w0.heap.size ≤ (w1.alloc (.cells m.cells.toArray 30)).drew.heap.size := Nat.le_trans hlt0 nC.size
    have HC1 := hide nC.size
    clear c3 f3 hr HP nC c3d HAA
    generalize (w1.alloc (.cells m.cells.toArray 30)).drew = wC at hbD HP2 c3' nwC hlt1 HC1 ⊢
    generalize w1.heap.size = D at hbD hDl ⊢
    have hrowX := (unhide HP2).rowB
    rw [hnv] at hrowX
    have HN := hide hrowX
    clear hrowX hDl
    go_wp2_with (first | (at_builtin; refine wpList_append_own_at _ rfl (.tmp 19) (.tmp 21) 35 rfl w0.heap.size 30 i9 _ 38 b9 Tryz.underlying35 hi9 hz9 hz0 hz1 hz2 (by decide) _ _ _ rfl (unhide HN) ⟨D, 0, none⟩ 1 1 m.cells rfl (by rw [hl38]) ?c1 ?c2 ?c3 ?c4 ?c5 ?_) | ((with_reducible apply qp); rfl; rfl; rfl; intro _ _ _) | ((with_reducible apply qc); rfl; rfl; rfl; with_reducible assumption; intro _ hC _ _) | ((with_reducible apply qr); rfl; rfl; intro _ _) | ((with_reducible apply qd); rfl; rfl; decide +kernel; intro _ _) | ((with_reducible apply qe); rfl; rfl; intro _ _) | (with_reducible rfl) | (with_reducible apply qn))
    case c1 => exact World.news_of_block (cs := m.cells.toArray) (fr := (0, 0)) hbD
    case c2 => exact MsgV.one _
    case c3 => unfold maxLen; omega
    case c4 => have := Nat.mul_le_mul (show wb.length + 1 ≤ 1000000 by omega) hb9; omega
    case c5 => exact hlt1
    intro v' wD hown' hgr _ hblk
    rw [← hnv] at hgr hblk
    have uD : Upd (fun k => ub.ownBlock = some k) wC wD := (Upd.refl _ _).grown hgr (fun k hk _ => hk)
    have hown2 : wD.ownsRow w0.heap.size 30 38 v' (wb ++ [m]).length ((wb ++ [m]).flatMap MsgV.cells) := by
      rw [List.length_append, List.flatMap_append, List.flatMap_cons, List.flatMap_nil, List.append_nil]
      exact hown'
    have hfin := (unhide HP2).putB uD hown2 (fun k hk => by
      rcases hblk with e | e
      · exact .inl (e ▸ hk)
      · rw [e] at hk
        injection hk with hk
        exact .inr (by omega)) (fun x hx => by
      rcases List.mem_append.1 hx with e | e
      · exact (unhide HP2).okB x e
      · rw [List.mem_singleton.1 e]; exact hm)
    have hpN : ¬ (ub.ownBlock = some p) := fun e => by
      obtain ⟨cur, hc⟩ := own_blk' (unhide HP2).rowB p e
      exact apart_ty' (unhide HP2).at_ hc (by decide) rfl
    have atD := uD.old (unhide HP2).at_ hpN
    have c3D := blk_cell atD 3
    have f3D : wD.frozen? ⟨p, 3, none⟩ = false := blk_free atD 3
    have uE : Upd (· = p) wD (wD.setCell ⟨p, 3, none⟩ v') := (Upd.refl _ _).set1 3 _
    have HF := hide (And.intro hfin (And.intro uD uE))
    have c3E : wD.cell? ⟨p, 3, none⟩ = some ub := c3D
    have hDw := (unhide N1).size
    have HVO := hide (show ∀ k, v'.ownBlock = some k → (ub.ownBlock = some k ∨ w.heap.size ≤ k) ∧ k < wD.heap.size from fun k hk => ⟨by
      rcases hblk with e | e
      · exact .inl (e ▸ hk)
      · rw [e] at hk; injection hk with hk; have := (unhide nwC).size; exact .inr (by omega), by
      obtain ⟨cur, hc⟩ := own_blk' hown' k hk
      exact blk_lt hc⟩)
    obtain ⟨a', cap', hv'⟩ := own_shape' hown'
    have HV' := hide hv'
    clear hown' hown2 hgr hblk uD uE hfin atD c3D c3'
    rw [hv']
    clear hv'
    go_wp2_with (first | ((with_reducible apply qp); rfl; rfl; rfl; intro _ _ _) | ((with_reducible apply qc); rfl; rfl; rfl; with_reducible assumption; intro _ hC _ _) | ((with_reducible apply qr); rfl; rfl; intro _ _) | ((with_reducible apply qd); rfl; rfl; decide +kernel; intro _ _) | ((with_reducible apply qe); rfl; rfl; intro _ _) | (with_reducible rfl) | (with_reducible apply qn))
    go_end0
    have hve := unhide HV'
    rw [← hve]
    obtain ⟨hfin, uD, uE⟩ := unhide HF
    have hS1 := unhide H1
    have n1 := unhide N1
    have hn1 := n1.size
    have hnC := (unhide nwC).size
    have hsz := uD.size
    have hsz2 := uE.size
    have uall : Upd S w (wD.setCell ⟨p, 3, none⟩ v') := (((unhide nwC).mono (fun _ _ h => h.elim)).trans (uD.mono (fun k _ e => hS1 k (by simp [e])))).trans (uE.mono (fun k _ e => hS1 k (by simp [e])))
    have hle := unhide HLE
    have hC1 := unhide HC1
    have hS2 := unhide H2
    have hvo := unhide HVO

    refine ⟨rfl, ⟨gA, gB, SA, SB, ua, v', hfin, ?_, ?_⟩, uall⟩
    · rintro k (hk | hk | hk | hk | hk)
      · exact .inl (hS1 k (.inl hk))
      · exact .inl (hS1 k (.inr (.inl hk)))
      · exact .inl (hS1 k (.inr (.inr (.inl hk))))
      · exact .inl (hS1 k (by simp [hk]))
      · rcases (hvo k hk).1 with e | e
        · exact .inl (hS1 k (by simp [e]))
        · exact .inr ⟨e, by have := (hvo k hk).2; omega⟩
    · rintro k (hk | hk)
      · have := hS2 k hk
        exact ⟨this.1, by omega⟩
      · exact ⟨by omega, hk.2⟩
  · have HS1 := hide (h.new n1)
    have hsz := n1.size
    have N1 := hide n1
    clear h n1 hA
    go_wp2_with (first | ((with_reducible apply tp); rfl; rfl; intro _ _ _) | ((with_reducible apply tr); rfl; intro _ _) | ((with_reducible apply te); rfl; intro _ _) | (with_reducible rfl) | (with_reducible apply tn) | ((with_reducible apply wp_txt); kernel_rfl; decide +kernel))
    go_end0

    exact ⟨rfl, (unhide HS1).frW (unhide HLE), (unhide N1).mono (fun _ _ h => h.elim)⟩

set_option maxRecDepth 100000 in
set_option maxHeartbeats 1000000 in
theorem says1_any (w0 : World) (p : Nat) (S : Nat → Prop) (a b : Ch) (wa wb : List MsgV) (bad : Bool) (m : MsgV) (n : Int) (hm : MsgOk m) (w : World) (h : PrS w0 w p S a b wa wb bad) (hfew : wa.length < 1000000) :
    Calls Tryz.prog 14 #[.pointer (some ⟨p, 0, none⟩), .int .i64 1, .agg m.cells.toArray, .int .i64 n] w fun e w' => e = .returned (.tuple #[]) ∧ PrS w0 w' p (Fr S w w') a b (if n = 0 then wa ++ [m] else wa) wb bad ∧ Upd S w w' := by
  go_enter Tryz.func14, Tryz.ntmps14
  go_upto_region 1 with fail
  have hA := ms_alloc w m hm.len
  have n1 : New w (w.alloc (.cells m.cells.toArray 30)) := (Upd.refl _ _).alloc _
  generalize w.alloc (.cells m.cells.toArray 30) = w1 at n1 hA ⊢
  obtain ⟨A, hAe⟩ : ∃ A, A = w.heap.size := ⟨_, rfl⟩
  rw [← hAe] at hA ⊢
  have HLE := hide h.le
  clear hAe
  by_cases hn : n = 0
  · subst hn
    have HS1 := hide (h.new n1)
    obtain ⟨gA, gB, SA, SB, ua, ub, hP, hSub, hSlt⟩ := h.new n1
    have c3 : w1.cell? ⟨p, 2, none⟩ = some ua := blk_cell hP.at_ 2
    have f3 : w1.frozen? ⟨p, 2, none⟩ = false := blk_free hP.at_ 2
    have hr := hA.row
    have hl38 := MsgV.len m hm.len
    obtain ⟨i9, z9, b9, hi9, hz9, hz0, hz1, hz2, hb9⟩ := msg_info
    have hlt0 : w0.heap.size ≤ w1.heap.size := hP.two.n.size
    obtain ⟨na, ncap, hnv⟩ := own_shape' hP.rowA
    have HP := hide hP
    have H1 := hide hSub
    have H2 := hide hSlt
    have N1 := hide n1
    have HAA := hide hA
    clear h hP hSub hSlt n1 hA
    go_upto_region 2 with fail
    have c3d : w1.drew.cell? ⟨p, 2, none⟩ = some ua := c3
    refine wp_plan (fun w' => w'.cell? ⟨p, 2, none⟩ = some ua) [9] (.of [0, 1, 2, 3, 4, 5, 6, 7, 8, 9, 10, 11, 12, 13, 14, 15, 16]) (by kernel_rfl) (by kernel_rfl) c3d ?_
    simp only [Plan.of]
    go_wp2_with (first | ((with_reducible apply qp); rfl; rfl; rfl; intro _ _ _) | ((with_reducible apply qc); rfl; rfl; rfl; with_reducible assumption; intro _ hC _ _) | ((with_reducible apply qr); rfl; rfl; intro _ _) | ((with_reducible apply qd); rfl; rfl; decide +kernel; intro _ _) | ((with_reducible apply qe); rfl; rfl; intro _ _) | (with_reducible rfl) | (with_reducible apply qn))
    refine ⟨((Upd.refl (fun _ => False) w1).alloc _).drew.cell c3 (fun h => h), ?_⟩
    have nC : New w1 (w1.alloc (.cells m.cells.toArray 30)).drew := ((Upd.refl _ _).alloc _).drew
    have hbD : (w1.alloc (.cells m.cells.toArray 30)).drew.heap[w1.heap.size]? = some (.cells m.cells.toArray 30 (0, 0)) := blk_alloc w1 (.cells m.cells.toArray 30)
    have c3' := nC.cell c3 (fun h => h)
    have HP2 := hide ((unhide HP).new nC)
    have nwC := hide ((unhide N1).trans nC)
    have hDl : w1.heap.size ≤ w1.heap.size := Nat.le_refl _
    have hlt1 : w0.heap.size ≤ (w1.alloc (.cells m.cells.toArray 30)).drew.heap.size := Nat.le_trans hlt0 nC.size
    have HC1 := hide nC.size
    clear c3 f3 hr HP nC c3d HAA
    generalize (w1.alloc (.cells m.cells.toArray 30)).drew = wC at hbD HP2 c3' nwC hlt1 HC1 ⊢
    generalize w1.heap.size = D at hbD hDl ⊢
    have hrowX := (unhide HP2).rowA
    rw [hnv] at hrowX
    have HN := hide hrowX
    clear hrowX hDl
    go_wp2_with (first | (at_builtin; refine wpList_append_own_at _ rfl (.tmp 19) (.tmp 21) 35 rfl w0.heap.size 30 i9 _ 38 b9 Tryz.underlying35 hi9 hz9 hz0 hz1 hz2 (by decide) _ _ _ rfl (unhide HN) ⟨D, 0, none⟩ 1 1 m.cells rfl (by rw [hl38]) ?c1 ?c2 ?c3 ?c4 ?c5 ?_) | ((with_reducible apply qp); rfl; rfl; rfl; intro _ _ _) | ((with_reducible apply qc); rfl; rfl; rfl; with_reducible assumption; intro _ hC _ _) | ((with_reducible apply qr); rfl; rfl; intro _ _) | ((with_reducible apply qd); rfl; rfl; decide +kernel; intro _ _) | ((with_reducible apply qe); rfl; rfl; intro _ _) | (with_reducible rfl) | (with_reducible apply qn))
    case c1 => exact World.news_of_block (cs := m.cells.toArray) (fr := (0, 0)) hbD
    case c2 => exact MsgV.one _
    case c3 => unfold maxLen; omega
    case c4 => have := Nat.mul_le_mul (show wa.length + 1 ≤ 1000000 by omega) hb9; omega
    case c5 => exact hlt1
    intro v' wD hown' hgr _ hblk
    rw [← hnv] at hgr hblk
    have uD : Upd (fun k => ua.ownBlock = some k) wC wD := (Upd.refl _ _).grown hgr (fun k hk _ => hk)
    have hown2 : wD.ownsRow w0.heap.size 30 38 v' (wa ++ [m]).length ((wa ++ [m]).flatMap MsgV.cells) := by
      rw [List.length_append, List.flatMap_append, List.flatMap_cons, List.flatMap_nil, List.append_nil]
      exact hown'
    have hfin := (unhide HP2).putA uD hown2 (fun k hk => by
      rcases hblk with e | e
      · exact .inl (e ▸ hk)
      · rw [e] at hk
        injection hk with hk
        exact .inr (by omega)) (fun x hx => by
      rcases List.mem_append.1 hx with e | e
      · exact (unhide HP2).okA x e
      · rw [List.mem_singleton.1 e]; exact hm)
    have hpN : ¬ (ua.ownBlock = some p) := fun e => by
      obtain ⟨cur, hc⟩ := own_blk' (unhide HP2).rowA p e
      exact apart_ty' (unhide HP2).at_ hc (by decide) rfl
    have atD := uD.old (unhide HP2).at_ hpN
    have c3D := blk_cell atD 2
    have f3D : wD.frozen? ⟨p, 2, none⟩ = false := blk_free atD 2
    have uE : Upd (· = p) wD (wD.setCell ⟨p, 2, none⟩ v') := (Upd.refl _ _).set1 2 _
    have HF := hide (And.intro hfin (And.intro uD uE))
    have c3E : wD.cell? ⟨p, 2, none⟩ = some ua := c3D
    have hDw := (unhide N1).size
    have HVO := hide (show ∀ k, v'.ownBlock = some k → (ua.ownBlock = some k ∨ w.heap.size ≤ k) ∧ k < wD.heap.size from fun k hk => ⟨by
      rcases hblk with e | e
      · exact .inl (e ▸ hk)
      · rw [e] at hk; injection hk with hk; have := (unhide nwC).size; exact .inr (by omega), by
      obtain ⟨cur, hc⟩ := own_blk' hown' k hk
      exact blk_lt hc⟩)
    obtain ⟨a', cap', hv'⟩ := own_shape' hown'
    have HV' := hide hv'
    clear hown' hown2 hgr hblk uD uE hfin atD c3D c3'
    rw [hv']
    clear hv'
    go_wp2_with (first | ((with_reducible apply qp); rfl; rfl; rfl; intro _ _ _) | ((with_reducible apply qc); rfl; rfl; rfl; with_reducible assumption; intro _ hC _ _) | ((with_reducible apply qr); rfl; rfl; intro _ _) | ((with_reducible apply qd); rfl; rfl; decide +kernel; intro _ _) | ((with_reducible apply qe); rfl; rfl; intro _ _) | (with_reducible rfl) | (with_reducible apply qn))
    go_end0
    have hve := unhide HV'
    rw [← hve]
    obtain ⟨hfin, uD, uE⟩ := unhide HF
    have hS1 := unhide H1
    have n1 := unhide N1
    have hn1 := n1.size
    have hnC := (unhide nwC).size
    have hsz := uD.size
    have hsz2 := uE.size
    have uall : Upd S w (wD.setCell ⟨p, 2, none⟩ v') := (((unhide nwC).mono (fun _ _ h => h.elim)).trans (uD.mono (fun k _ e => hS1 k (by simp [e])))).trans (uE.mono (fun k _ e => hS1 k (by simp [e])))
    have hle := unhide HLE
    have hC1 := unhide HC1
    have hS2 := unhide H2
    have hvo := unhide HVO

    refine ⟨rfl, ⟨gA, gB, SA, SB, v', ub, hfin, ?_, ?_⟩, uall⟩
    · rintro k (hk | hk | hk | hk | hk)
      · exact .inl (hS1 k (.inl hk))
      · exact .inl (hS1 k (.inr (.inl hk)))
      · exact .inl (hS1 k (.inr (.inr (.inl hk))))
      · rcases (hvo k hk).1 with e | e
        · exact .inl (hS1 k (by simp [e]))
        · exact .inr ⟨e, by have := (hvo k hk).2; omega⟩
      · exact .inl (hS1 k (by simp [hk]))
    · rintro k (hk | hk)
      · have := hS2 k hk
        exact ⟨this.1, by omega⟩
      · exact ⟨by omega, hk.2⟩
  · have HS1 := hide (h.new n1)
    have hsz := n1.size
    have N1 := hide n1
    clear h n1 hA
    go_wp2_with (first | ((with_reducible apply tp); rfl; rfl; intro _ _ _) | ((with_reducible apply tr); rfl; intro _ _) | ((with_reducible apply te); rfl; intro _ _) | (with_reducible rfl) | (with_reducible apply tn) | ((with_reducible apply wp_txt); kernel_rfl; decide +kernel))
    go_end0

    exact ⟨rfl, (unhide HS1).frW (unhide HLE), (unhide N1).mono (fun _ _ h => h.elim)⟩

end Go.Proofs.YtjpmomdechibmaaGreatDoor

/-
  Law 13: hears (printed by tools/mk_pr3.py).
-/
namespace Go.Proofs.YtjpmomdechibmaaGreatDoor
set_option linter.unusedVariables false
set_option linter.unusedSimpArgs false
open Go.RowKit

theorem msgs_len (ls : List MsgV) (h : ∀ l ∈ ls, l.hash.length = 32) : (ls.flatMap MsgV.cells).length = ls.length * 38 := by
  induction ls with
  | nil => rfl
  | cons x xs ih =>
    rw [List.flatMap_cons, List.length_append, ih (fun l hl => h l (List.mem_cons_of_mem _ hl)), x.len (h x List.mem_cons_self), List.length_cons, Nat.succ_mul]
    omega
theorem msgs_one (ls : List MsgV) : ∀ u ∈ ls.flatMap MsgV.cells, u.oneCell' = true := by
  intro u hu
  obtain ⟨l, -, hl⟩ := List.mem_flatMap.1 hu
  exact l.one u hl
/-- Messages put behind a row of them: out of nothing, or of a row that lies somewhere. -/
theorem append_msgs {w : World} {ops : Array Oper} {rest : List Oper} {o : Oper} {a : Act} {Q : Exit → Act → World → Prop} (hgd : o.guard = none) (s x : Operand)
    (ho : o.op = .call { callee := .builtin .append, args := #[s, x], argTypes := #[35, 35] })
    (base : Nat) (v : Value) (n : Nat) (xs : List Value) (hs : a.eval s = v) (hown : w.ownsRow base 30 38 v n xs)
    (ls : List MsgV) (hls : ∀ l ∈ ls, MsgOk l) (xv : Value) (hx : a.eval x = xv)
    (hsrc : (xv = .slice none 0 0 ∧ ls = []) ∨ ∃ ad c, xv = .slice (some ad) ls.length c ∧ ∀ j u, (ls.flatMap MsgV.cells)[j]? = some u → w.cell? (ad.add j) = some u)
    (hfew : n + ls.length ≤ 1000000) (hbase : base ≤ w.heap.size)
    (h : ∀ v' w', w'.ownsRow base 30 38 v' (n + ls.length) (xs ++ ls.flatMap MsgV.cells) → Upd (fun k => v.ownBlock = some k) w w' → (v'.ownBlock = v.ownBlock ∨ v'.ownBlock = some w.heap.size) → wpList Tryz.prog ops Q rest (a.put o.dst v') w') :
    wpList Tryz.prog ops Q (o :: rest) a w := by
  obtain ⟨i9, z9, b9, hi9, hz9, hz0, hz1, hz2, hb9⟩ := msg_info
  rcases hsrc with ⟨rfl, rfl⟩ | ⟨ad, c, rfl, hc⟩
  · refine wpList_plain hgd fun K hK => ?_
    have hr := run_append_owned_none (P := Tryz.prog) (w := w) base 35 o.type 30 i9 38 Tryz.underlying35 hi9 v n xs hown
    unfold Oper.wp execOp
    simp only [ho, resolve, invoke, builtin, Sem.run_bind, Sem.run_pure, Result.andThen_ok, List.map_toArray, List.map_cons, List.map_nil, hs, hx, hr]
    refine hK _ _ (h v w ?_ (Upd.refl _ _) (.inl rfl))
    rw [List.length_nil, Nat.add_zero, List.flatMap_nil, List.append_nil]
    exact hown
  · refine wpList_append_own_at (P := Tryz.prog) w hgd s x 35 ho base 30 i9 _ 38 b9 Tryz.underlying35 hi9 hz9 hz0 hz1 hz2 (by decide) v n xs hs hown ad ls.length c (ls.flatMap MsgV.cells) hx (msgs_len ls (fun l hl => (hls l hl).len)) hc (msgs_one ls) (by unfold maxLen; omega) (by have := Nat.mul_le_mul hfew hb9; omega) hbase ?_
    intro v' w' h1 h2 _ h4
    exact h v' w' h1 ((Upd.refl _ _).grown h2 (fun k hk _ => hk)) h4
theorem src_at {w : World} {ls : List MsgV} {ado : Option Addr} {c : Nat} (h : ∃ ad, ado = some ad ∧ ∀ j u, (ls.flatMap MsgV.cells)[j]? = some u → w.cell? (ad.add j) = some u) :
    (Value.slice ado ls.length c = .slice none 0 0 ∧ ls = []) ∨ ∃ ad c', Value.slice ado ls.length c = .slice (some ad) ls.length c' ∧ ∀ j u, (ls.flatMap MsgV.cells)[j]? = some u → w.cell? (ad.add j) = some u := by
  obtain ⟨ad, e, hc⟩ := h
  exact .inr ⟨ad, c, by rw [e], hc⟩
theorem src_row {w : World} {ls : List MsgV} {base : Nat} {v : Value} (hls : ∀ l ∈ ls, l.hash.length = 32) (h : w.ownsRow base 30 38 v ls.length (ls.flatMap MsgV.cells)) :
    (v = .slice none 0 0 ∧ ls = []) ∨ ∃ ad c', v = .slice (some ad) ls.length c' ∧ ∀ j u, (ls.flatMap MsgV.cells)[j]? = some u → w.cell? (ad.add j) = some u := by
  rcases h.2 with ⟨e, e0⟩ | ⟨g, cap, cur, e, hb, hg, hc, _, hs, ht⟩
  · exact .inl ⟨e, List.length_eq_zero_iff.1 e0⟩
  · refine .inr ⟨⟨g, 0, none⟩, cap, e, ?_⟩
    intro j u hj
    rw [e] at h
    have hjl := (List.getElem?_eq_some_iff.1 hj).1
    rw [msgs_len ls hls] at hjl
    have := World.ownsRow.cellAt h j hjl
    have e2 : (⟨g, 0, none⟩ : Addr).add j = ⟨g, j, none⟩ := by cases j <;> simp [Addr.add]
    rw [e2, this]
    exact hj
theorem row_cons {w : World} {base : Nat} {v : Value} {m : MsgV} {ms : List MsgV} (h : w.ownsRow base 30 38 v (m :: ms).length ((m :: ms).flatMap MsgV.cells)) : ∃ g cap, v = .slice (some ⟨g, 0, none⟩) (ms.length + 1) cap ∧ ms.length + 1 ≤ cap := by
  rcases h.2 with ⟨e, e0⟩ | ⟨g, cap, cur, e, hb, hg, hc, _, hs, ht⟩
  · simp at e0
  · exact ⟨g, cap, e, hc⟩
theorem row_head {w : World} {base : Nat} {v : Value} {m : MsgV} {ms : List MsgV} (h : w.ownsRow base 30 38 v (m :: ms).length ((m :: ms).flatMap MsgV.cells)) {g cap : Nat} (hv : v = .slice (some ⟨g, 0, none⟩) (ms.length + 1) cap) (hm : m.hash.length = 32) (hms : ∀ l ∈ ms, l.hash.length = 32) :
    rowN w g 0 38 = some m.cells.toArray ∧ ∀ j u, (ms.flatMap MsgV.cells)[j]? = some u → w.cell? ((⟨g, 38, none⟩ : Addr).add j) = some u := by
  obtain ⟨g', cap', e, -, hr, -⟩ := SaidO.row0 (base := base) h hm
  rw [hv] at e
  injection e with e1 e2 e3
  injection e1 with e1
  injection e1 with e1
  subst e1
  refine ⟨hr, ?_⟩
  intro j u hj
  rw [hv] at h
  have hjl := (List.getElem?_eq_some_iff.1 hj).1
  rw [msgs_len ms hms] at hjl
  have := World.ownsRow.cellAt h (38 + j) (by omega)
  have e : (⟨g, 38, none⟩ : Addr).add j = ⟨g, 38 + j, none⟩ := by simp [Addr.add]
  rw [e, this, List.flatMap_cons, List.getElem?_append_right (by rw [m.len hm]; omega), m.len hm, Nat.add_sub_cancel_left]
  exact hj
theorem bs_msg0 (w : World) : (bsMsg 0 #[]).run Tryz.prog w = .ok (.slice (some ⟨w.heap.size, 0, none⟩) 0 0) (w.alloc (.cells #[] 30)) := by
  obtain ⟨i, z, hi, hz, hc⟩ := zero_of Tryz.zeroMsg
  have hsz : i.size = 38 := by have := Tryz.infoMsg; rw [hi] at this; simpa using this
  show (Instr.buildSlice 35 0 #[]).run Tryz.prog w = _
  simp [Instr.buildSlice, run_underlying Tryz.underlying35, sizeOf, typeInfo, zeroValue, hi, hz, hsz, Instr.fill, newRow]
  rw [Array.eq_empty_of_size_eq_zero (xs := Array.map _ (Array.range 0)) (by simp)]
section
variable {w0 w : World} {p gA gB : Nat} {SA SB : Nat → Prop} {a b : Ch} {wa wb : List MsgV} {ua ub : Value} {bad : Bool}
theorem PrP.putBad (h : PrP w0 w p gA gB SA SB a b wa wb ua ub bad) (c : Bool) : PrP w0 (w.setCell ⟨p, 4, none⟩ (.bool c)) p gA gB SA SB a b wa wb ua ub c := by
  have uE : Upd (· = p) w (w.setCell ⟨p, 4, none⟩ (.bool c)) := (Upd.refl _ _).set1 4 _
  have hpN : ¬ (ua.ownBlock = some p) := fun e => by
    obtain ⟨cur, hc⟩ := own_blk' h.rowA p e
    exact apart_ty' h.at_ hc (by decide) rfl
  have hpM : ¬ (ub.ownBlock = some p) := fun e => by
    obtain ⟨cur, hc⟩ := own_blk' h.rowB p e
    exact apart_ty' h.at_ hc (by decide) rfl
  exact ⟨h.two.put h.off h.ge uE, blk_set h.at_ 4 (.bool c), h.off.new uE.size, h.ge, row_upd' h.rowA uE (fun k hk e => hpN (e ▸ hk)), row_upd' h.rowB uE (fun k hk e => hpM (e ▸ hk)), fun k hk => (h.offA k hk).new uE.size, fun k hk => (h.offB k hk).new uE.size, h.sep, h.okA, h.okB⟩
end
attribute [local go_sem ↓ high] ld_msg_fold st_msg_fold al_msg_fold bd_msg_fold bs_msg_fold
attribute [local go_sem] ld_msg st_msg al_msg bs_msg bs_msg0 rowN_drew

set_option maxRecDepth 100000 in
set_option maxHeartbeats 1000000 in
theorem hears0_none (w0 : World) (p : Nat) (S : Nat → Prop) (a b : Ch) (wb : List MsgV) (bad : Bool) (w : World) (h : PrS w0 w p S a b [] wb bad) :
    Calls Tryz.prog 15 #[.pointer (some ⟨p, 0, none⟩), .int .i64 0] w (Makes (.bool false) w) := by
  obtain ⟨gA, gB, SA, SB, ua, ub, hP, hSub, hSlt⟩ := h
  have c2 : w.cell? ⟨p, 2, none⟩ = some ua := blk_cell hP.at_ 2
  obtain ⟨na, ncap, hnv⟩ := own_shape' hP.rowA
  rw [hnv] at c2
  clear hP hnv hSub hSlt
  go_enter Tryz.func15, Tryz.ntmps15
  go_wp2_with (first | ((with_reducible apply tp); rfl; rfl; intro _ _ _) | ((with_reducible apply tr); rfl; intro _ _) | ((with_reducible apply te); rfl; intro _ _) | (with_reducible rfl) | (with_reducible apply tn) | ((with_reducible apply wp_txt); kernel_rfl; decide +kernel))
  go_ret
  exact ⟨rfl, Upd.refl _ _⟩

set_option maxRecDepth 100000 in
set_option maxHeartbeats 2000000 in
theorem hears0_any (w0 : World) (hT : Tb w0) (p : Nat) (S : Nat → Prop) (a b : Ch) (m : MsgV) (ms wb : List MsgV) (bad : Bool) (w : World) (h : PrS w0 w p S a b (m :: ms) wb bad)
    (c' : Ch) (ls : List MsgV) (n : Int) (hls : ∀ l ∈ ls, MsgOk l) (hfew : ms.length < 1000000 ∧ wb.length + ls.length ≤ 1000000)
    (hH : ∀ (W : World) (g : Nat) (S' : Nat → Prop), ChS W g S' a → Apart S' → Tb W → Calls Tryz.prog 18 #[.pointer (some ⟨g, 0, none⟩), .agg m.cells.toArray] W (Heard g S' W c' ls n)) :
    Calls Tryz.prog 15 #[.pointer (some ⟨p, 0, none⟩), .int .i64 0] w fun e w' => e = .returned (.bool true) ∧ PrS w0 w' p (Fr S w w') c' b ms (wb ++ ls) (bad || decide (n ≠ 0)) ∧ Upd S w w' := by
  have HLE := hide h.le
  obtain ⟨gA, gB, SA, SB, ua, ub, hP, hSub, hSlt⟩ := h
  have c2 : w.cell? ⟨p, 2, none⟩ = some ua := blk_cell hP.at_ 2
  obtain ⟨g, cap, hnv, hcp⟩ := row_cons hP.rowA
  have hm : MsgOk m := hP.okA m List.mem_cons_self
  have hms : ∀ l ∈ ms, MsgOk l := fun l hl => hP.okA l (List.mem_cons_of_mem _ hl)
  obtain ⟨hr0, hcells⟩ := row_head hP.rowA hnv hm.len (fun l hl => (hms l hl).len)
  have HP := hide hP
  have H1 := hide hSub
  have H2 := hide hSlt
  have HC := hide hcells
  have HNV := hide hnv
  have hlen0 : (0 : Int) < ((ms.length + 1 : Nat) : Int) := by omega
  have hlenb : ms.length + 1 ≤ 9223372036854775807 := by omega
  rw [hnv] at c2
  have hps : p < w.heap.size := blk_lt hP.at_
  clear hP hSub hSlt hcells hnv
  go_enter Tryz.func15, Tryz.ntmps15
  obtain ⟨hst, hA, nA⟩ := ms_fresh w m hm.len
  go_upto_region 4 with (first | ((with_reducible apply tp); rfl; rfl; intro _ _ _) | ((with_reducible apply tr); rfl; intro _ _) | ((with_reducible apply te); rfl; intro _ _) | (with_reducible rfl) | (with_reducible apply tn) | ((with_reducible apply wp_txt); kernel_rfl; decide +kernel))
  change Code.wp _ _ _ _ (msNew w m)
  have HPn := hide ((unhide HP).new nA)
  have c2n := nA.cell c2 (fun h => h)
  have hcn := hide (show ∀ j u, (ms.flatMap MsgV.cells)[j]? = some u → (msNew w m).cell? ((⟨g, 38, none⟩ : Addr).add j) = some u from fun j u hj => nA.cell (unhide HC j u hj) (fun h => h))
  have NA := hide nA
  have hsn := nA.size
  clear hst c2 hr0 HP HC nA
  generalize msNew w m = w1 at hA HPn c2n hcn NA hsn ⊢
  obtain ⟨A, hAe⟩ : ∃ A, A = w.heap.size := ⟨_, rfl⟩
  rw [← hAe] at hA ⊢
  have hAp : A ≠ p := by omega
  have HA := hide hA
  have hwA : w.heap.size ≤ A := by omega
  have hle1 : w0.heap.size ≤ w1.heap.size := (unhide HPn).two.n.size
  have f2 : w1.frozen? ⟨p, 2, none⟩ = false := blk_free (unhide HPn).at_ 2
  have c2d : w1.drew.cell? ⟨p, 2, none⟩ = some (.slice (some ⟨g, 0, none⟩) (ms.length + 1) cap) := c2n
  clear hA hAe
  refine wp_plan (fun w' => w'.cell? ⟨p, 2, none⟩ = some (.slice (some ⟨g, 0, none⟩) (ms.length + 1) cap)) [8] (.of [0, 1, 2, 3, 4, 5, 6, 7, 8, 9, 10, 11, 12, 13, 14]) (by kernel_rfl) (by kernel_rfl) c2d ?_
  simp only [Plan.of]
  go_wp2_with (first | ((with_reducible apply qp); rfl; rfl; rfl; intro _ _ _) | ((with_reducible apply qc); rfl; rfl; rfl; with_reducible assumption; intro _ hC _ _) | ((with_reducible apply qr); rfl; rfl; intro _ _) | ((with_reducible apply qd); rfl; rfl; decide +kernel; intro _ _) | ((with_reducible apply qe); rfl; rfl; intro _ _) | (with_reducible rfl) | (with_reducible apply qn))
  refine ⟨((Upd.refl (fun _ => False) w1).alloc _).drew.cell c2n (fun h => h), ?_⟩
  have nB : New w1 (w1.alloc (.cells #[] 30)).drew := ((Upd.refl _ _).alloc _).drew
  have hO : (w1.alloc (.cells #[] 30)).drew.ownsRow w0.heap.size 30 38 (.slice (some ⟨w1.heap.size, 0, none⟩) 0 0) 0 [] := World.ownsRow_made (base := w0.heap.size) (e := 30) (size := 38) w1 #[] 0 hle1 (by decide) rfl
  have hc2 := hide (show ∃ ad, (if cap = 1 then some (⟨g, 0, none⟩ : Addr) else some ⟨g, 38, none⟩) = some ad ∧ ∀ j u, (ms.flatMap MsgV.cells)[j]? = some u → (w1.alloc (.cells #[] 30)).drew.cell? (ad.add j) = some u by
    by_cases hc1 : cap = 1
    · rw [if_pos hc1]
      refine ⟨_, rfl, ?_⟩
      intro j u hj
      have hm0 : ms = [] := List.length_eq_zero_iff.1 (by omega)
      rw [hm0] at hj
      simp at hj
    · rw [if_neg hc1]
      exact ⟨_, rfl, fun j u hj => nB.cell (unhide hcn j u hj) (fun h => h)⟩)
  have c2m := nB.cell c2n (fun h => h)
  have HO := hide hO
  have NB := hide nB
  have hle2 : w0.heap.size ≤ (w1.alloc (.cells #[] 30)).drew.heap.size := Nat.le_trans hle1 nB.size
  clear c2n c2d f2 nB hO hcn
  generalize (w1.alloc (.cells #[] 30)).drew = w2 at HO NB hc2 c2m hle2 ⊢
  obtain ⟨D, hDe⟩ : ∃ D, D = w1.heap.size := ⟨_, rfl⟩
  rw [← hDe] at HO ⊢
  have HDE := hide hDe
  clear hDe
  go_wp2_with (first | (at_builtin; obtain ⟨ad, hif, hcs⟩ := unhide hc2; rw [hif]; clear hif; refine append_msgs rfl (.tmp 26) (.tmp 33) rfl w0.heap.size _ 0 [] rfl (unhide HO) ms hms _ rfl (.inr ⟨ad, _, rfl, hcs⟩) ?c3 hle2 ?_) | ((with_reducible apply qp); rfl; rfl; rfl; intro _ _ _) | ((with_reducible apply qc); rfl; rfl; rfl; with_reducible assumption; intro _ hC _ _) | ((with_reducible apply qr); rfl; rfl; intro _ _) | ((with_reducible apply qd); rfl; rfl; decide +kernel; intro _ _) | ((with_reducible apply qe); rfl; rfl; intro _ _) | (with_reducible rfl) | (with_reducible apply qn))
  case c3 => omega
  intro v' w3 hown' u3 hblk
  change w3.ownsRow w0.heap.size 30 38 v' ms.length (ms.flatMap MsgV.cells) at hown'
  clear hcs
  have hD := unhide HDE
  have nb := unhide NB
  have n13 : New w1 w3 := nb.then u3 (fun i hi e => by simp [Value.ownBlock] at e; omega)
  have hvo : ∀ k, v'.ownBlock = some k → w1.heap.size ≤ k := fun k hk => by
    have := nb.size
    rcases hblk with e | e
    · rw [e] at hk; simp [Value.ownBlock] at hk; omega
    · rw [e] at hk; injection hk with hk; omega
  have hP4 := (unhide HPn).putA (n13.mono (fun _ _ h => h.elim)) hown' (fun k hk => .inr (hvo k hk)) hms
  have at3 := n13.old (unhide HPn).at_ (fun h => h)
  have c3 : w3.cell? ⟨p, 2, none⟩ = some ua := blk_cell at3 2
  rw [unhide HNV] at c3
  have f3 : w3.frozen? ⟨p, 2, none⟩ = false := blk_free at3 2
  have u34 : Upd (· = p) w3 (w3.setCell ⟨p, 2, none⟩ v') := (Upd.refl _ _).set1 2 _
  have HA4 := hide (((unhide HA).new n13).upd u34 (fun e => hAp e))
  have U4 := hide (((unhide NA).mono (fun _ _ h => h.elim) : Upd (· = p) _ _).trans ((n13.mono (fun _ _ h => h.elim) : Upd (· = p) _ _).trans u34))
  have HP4 := hide hP4
  have HVO := hide hvo
  obtain ⟨va, vc, hv'⟩ := own_shape' hown'
  have HV := hide hv'
  clear hown' u3 hblk hD nb n13 hvo hP4 at3 u34 hcp hlen0 hc2 c2m HO NB HDE HPn HA NA HNV
  rw [hv']
  clear hv'
  go_upto_region 5 with (first | ((with_reducible apply qp); rfl; rfl; rfl; intro _ _ _) | ((with_reducible apply qc); rfl; rfl; rfl; with_reducible assumption; intro _ hC _ _) | ((with_reducible apply qr); rfl; rfl; intro _ _) | ((with_reducible apply qd); rfl; rfl; decide +kernel; intro _ _) | ((with_reducible apply qe); rfl; rfl; intro _ _) | (with_reducible rfl) | (with_reducible apply qn))
  rw [← unhide HV]
  generalize w3.setCell ⟨p, 2, none⟩ v' = w4 at HA4 U4 HP4 ⊢
  clear c3 f3 HV
  clear va vc
  have HP4d := hide ((unhide HP4).new ((Upd.refl (fun _ => False) w4).drew))
  have c0 : w4.cell? ⟨p, 0, none⟩ = some (.pointer (some ⟨gA, 0, none⟩)) := blk_cell (unhide HP4).at_ 0
  have rA := (unhide HA4).row
  have hh := hH w4.drew gA SA (unhide HP4d).two.A ((unhide HP4d).two.apA hT) (hT.new (unhide HP4d).two.n)
  clear hH
  go_wp2_with (first | ((with_reducible apply tp); rfl; rfl; intro _ _ _) | ((with_reducible apply tr); rfl; intro _ _) | ((with_reducible apply te); rfl; intro _ _) | (with_reducible rfl) | (with_reducible apply tn) | ((with_reducible apply wp_txt); kernel_rfl; decide +kernel))
  refine hh.mono ?_
  rintro e w6 ⟨v, rfl, hv, hc, hu⟩
  have HP6 := hide ((unhide HP4d).opA hc hu)
  have U46 := hide (((Upd.refl SA w4).drew).trans hu)
  have hNE : ¬ (v.ownBlock = some p) := fun e => by
    obtain ⟨cur, hcc⟩ := own_blk' hv p e
    exact apart_ty' (unhide HP6).at_ hcc (by decide) rfl
  have HV6 := hide hv
  have HNE := hide hNE
  have c4 : w6.cell? ⟨p, 4, none⟩ = some (.bool bad) := blk_cell (unhide HP6).at_ 4
  have f4 : w6.frozen? ⟨p, 4, none⟩ = false := blk_free (unhide HP6).at_ 4
  clear hh c0 rA hc hu hv hNE HP4d
  have HW4 := (unhide U4).size
  have HW6 := (unhide U46).size
  by_cases hn : n = 0
  · cases bad
    · go_upto_region 7 with (first | ((with_reducible apply tp); rfl; rfl; intro _ _ _) | ((with_reducible apply tr); rfl; intro _ _) | ((with_reducible apply te); rfl; intro _ _) | (with_reducible rfl) | (with_reducible apply tn) | ((with_reducible apply wp_txt); kernel_rfl; decide +kernel))
      
      have hP7 := (unhide HP6).putBad false
      have U67 : Upd (· = p) w6 (w6.setCell ⟨p, 4, none⟩ (.bool false)) := (Upd.refl _ _).set1 4 _
      have hv7 := row_upd' (unhide HV6) U67 (fun k hk e => unhide HNE (e ▸ hk))
      generalize w6.setCell ⟨p, 4, none⟩ (.bool false) = w7 at hP7 U67 hv7 ⊢
      have hP7d := hP7.new ((Upd.refl (fun _ => False) w7).drew)
      have hcy : w7.cell? ⟨p, 3, none⟩ = some ub := blk_cell hP7.at_ 3
      obtain ⟨ya, yc, hy⟩ := own_shape' hP7.rowB
      rw [hy] at hcy
      have hrow := hP7d.rowB
      rw [hy] at hrow
      have HN := hide hrow
      have HSRC := hide (src_row (w := w7.drew) (fun l hl => (hls l hl).len) hv7)
      have hle7 : w0.heap.size ≤ w7.drew.heap.size := hP7d.two.n.size
      have HP7d := hide hP7d
      have HY := hide hy
      have HU67 := hide U67
      clear c4 f4 hP7 hP7d U67 hv7 hrow hy
      go_wp2_with (first | (at_builtin; refine append_msgs rfl (.tmp 69) (.tmp 70) rfl w0.heap.size _ wb.length _ rfl (unhide HN) ls hls _ rfl (unhide HSRC) ?c3 hle7 ?_) | ((with_reducible apply tp); rfl; rfl; intro _ _ _) | ((with_reducible apply tr); rfl; intro _ _) | ((with_reducible apply te); rfl; intro _ _) | (with_reducible rfl) | (with_reducible apply tn) | ((with_reducible apply wp_txt); kernel_rfl; decide +kernel))
      case c3 => exact hfew.2
      intro v2 w8 hown8 u8 hblk8
      rw [← unhide HY] at u8 hblk8
      have hown9 : w8.ownsRow w0.heap.size 30 38 v2 (wb ++ ls).length ((wb ++ ls).flatMap MsgV.cells) := by
        rw [List.length_append, List.flatMap_append]
        exact hown8
      have hvo8 : ∀ k, v2.ownBlock = some k → ub.ownBlock = some k ∨ w7.heap.size ≤ k := fun k hk => by
        rcases hblk8 with e | e
        · exact .inl (e ▸ hk)
        · rw [e] at hk
          injection hk with hk
          exact .inr (Nat.le_of_eq hk)
      have hP9 := (unhide HP7d).putB u8 hown9 hvo8 (fun l hl => by
        rcases List.mem_append.1 hl with e | e
        · exact (unhide HP7d).okB l e
        · exact hls l e)
      have hpN : ¬ (ub.ownBlock = some p) := fun e => by
        obtain ⟨cur, hc⟩ := own_blk' (unhide HP7d).rowB p e
        exact apart_ty' (unhide HP7d).at_ hc (by decide) rfl
      have at8 := u8.old (unhide HP7d).at_ hpN
      have c8 : w8.cell? ⟨p, 3, none⟩ = some ub := blk_cell at8 3
      have f8 : w8.frozen? ⟨p, 3, none⟩ = false := blk_free at8 3
      have u89 : Upd (· = p) w8 (w8.setCell ⟨p, 3, none⟩ v2) := (Upd.refl _ _).set1 3 _
      obtain ⟨va, vc, hv2⟩ := own_shape' hown8
      rw [hv2]
      have HV2 := hide hv2
      have HF := hide (And.intro hP9 (And.intro u8 (And.intro u89 hvo8)))
      clear hv2 hP9 u8 u89 hvo8 hown8 hown9 hblk8 at8 hcy HN HSRC HP7d
      rw [unhide HY] at c8
      go_wp2_with (first | ((with_reducible apply tp); rfl; rfl; intro _ _ _) | ((with_reducible apply tr); rfl; intro _ _) | ((with_reducible apply te); rfl; intro _ _) | (with_reducible rfl) | (with_reducible apply tn) | ((with_reducible apply wp_txt); kernel_rfl; decide +kernel))
      go_ret
      have hbd : (false || decide (n ≠ 0)) = false := by simp [hn]
      rw [← unhide HV2, hbd]
      obtain ⟨hP9, u8, u89, hvo8⟩ := unhide HF
      have hS1 := unhide H1
      have u4 := unhide U4
      have s67 := (unhide HU67).size
      have s8 : w7.heap.size ≤ w8.heap.size := u8.size
      have s89 := u89.size
      have hle := unhide HLE
      have uall : Upd S w (w8.setCell ⟨p, 3, none⟩ v2) := ((((u4.mono (fun k _ e => hS1 k (by simp [e]))).trans ((unhide U46).mono (fun k _ e => hS1 k (by simp [e])))).trans ((unhide HU67).mono (fun k _ e => hS1 k (by simp [e])))).trans ((((Upd.refl S w7).drew)).trans (u8.mono (fun k _ e => hS1 k (by simp [e]))))).trans (u89.mono (fun k _ e => hS1 k (by simp [e])))
      have hP9v : ∀ k, (v'.ownBlock = some k ∨ v2.ownBlock = some k) → k < (w8.setCell ⟨p, 3, none⟩ v2).heap.size := fun k hk => by
        rcases hk with hk | hk
        · exact (hP9.offA k hk).lt
        · exact (hP9.offB k hk).lt
      refine ⟨rfl, ⟨gA, gB, (Fr SA w4.drew w6), SB, v', v2, hP9, ?_, ?_⟩, uall⟩
      · rintro k (hk | hk | hk | hk | hk)
        · rcases hk with hk | hk
          · exact .inl (hS1 k (by simp [hk]))
          · exact .inr ⟨by have := hk.1; have e : w4.drew.heap.size = w4.heap.size := rfl; omega, by omega⟩
        · exact .inl (hS1 k (by simp [hk]))
        · exact .inl (hS1 k (by simp [hk]))
        · exact .inr ⟨by have := unhide HVO k hk; omega, (hP9v k (.inl hk))⟩
        · rcases hvo8 k hk with e | e
          · exact .inl (hS1 k (by simp [e]))
          · exact .inr ⟨by omega, (hP9v k (.inr hk))⟩
      · rintro k (hk | hk)
        · have := unhide H2 k hk
          exact ⟨this.1, by omega⟩
        · exact ⟨by omega, hk.2⟩
    · go_upto_region 7 with (first | ((with_reducible apply tp); rfl; rfl; intro _ _ _) | ((with_reducible apply tr); rfl; intro _ _) | ((with_reducible apply te); rfl; intro _ _) | (with_reducible rfl) | (with_reducible apply tn) | ((with_reducible apply wp_txt); kernel_rfl; decide +kernel))
      
      have hP7 := (unhide HP6).putBad true
      have U67 : Upd (· = p) w6 (w6.setCell ⟨p, 4, none⟩ (.bool true)) := (Upd.refl _ _).set1 4 _
      have hv7 := row_upd' (unhide HV6) U67 (fun k hk e => unhide HNE (e ▸ hk))
      generalize w6.setCell ⟨p, 4, none⟩ (.bool true) = w7 at hP7 U67 hv7 ⊢
      have hP7d := hP7.new ((Upd.refl (fun _ => False) w7).drew)
      have hcy : w7.cell? ⟨p, 3, none⟩ = some ub := blk_cell hP7.at_ 3
      obtain ⟨ya, yc, hy⟩ := own_shape' hP7.rowB
      rw [hy] at hcy
      have hrow := hP7d.rowB
      rw [hy] at hrow
      have HN := hide hrow
      have HSRC := hide (src_row (w := w7.drew) (fun l hl => (hls l hl).len) hv7)
      have hle7 : w0.heap.size ≤ w7.drew.heap.size := hP7d.two.n.size
      have HP7d := hide hP7d
      have HY := hide hy
      have HU67 := hide U67
      clear c4 f4 hP7 hP7d U67 hv7 hrow hy
      go_wp2_with (first | (at_builtin; refine append_msgs rfl (.tmp 69) (.tmp 70) rfl w0.heap.size _ wb.length _ rfl (unhide HN) ls hls _ rfl (unhide HSRC) ?c3 hle7 ?_) | ((with_reducible apply tp); rfl; rfl; intro _ _ _) | ((with_reducible apply tr); rfl; intro _ _) | ((with_reducible apply te); rfl; intro _ _) | (with_reducible rfl) | (with_reducible apply tn) | ((with_reducible apply wp_txt); kernel_rfl; decide +kernel))
      case c3 => exact hfew.2
      intro v2 w8 hown8 u8 hblk8
      rw [← unhide HY] at u8 hblk8
      have hown9 : w8.ownsRow w0.heap.size 30 38 v2 (wb ++ ls).length ((wb ++ ls).flatMap MsgV.cells) := by
        rw [List.length_append, List.flatMap_append]
        exact hown8
      have hvo8 : ∀ k, v2.ownBlock = some k → ub.ownBlock = some k ∨ w7.heap.size ≤ k := fun k hk => by
        rcases hblk8 with e | e
        · exact .inl (e ▸ hk)
        · rw [e] at hk
          injection hk with hk
          exact .inr (Nat.le_of_eq hk)
      have hP9 := (unhide HP7d).putB u8 hown9 hvo8 (fun l hl => by
        rcases List.mem_append.1 hl with e | e
        · exact (unhide HP7d).okB l e
        · exact hls l e)
      have hpN : ¬ (ub.ownBlock = some p) := fun e => by
        obtain ⟨cur, hc⟩ := own_blk' (unhide HP7d).rowB p e
        exact apart_ty' (unhide HP7d).at_ hc (by decide) rfl
      have at8 := u8.old (unhide HP7d).at_ hpN
      have c8 : w8.cell? ⟨p, 3, none⟩ = some ub := blk_cell at8 3
      have f8 : w8.frozen? ⟨p, 3, none⟩ = false := blk_free at8 3
      have u89 : Upd (· = p) w8 (w8.setCell ⟨p, 3, none⟩ v2) := (Upd.refl _ _).set1 3 _
      obtain ⟨va, vc, hv2⟩ := own_shape' hown8
      rw [hv2]
      have HV2 := hide hv2
      have HF := hide (And.intro hP9 (And.intro u8 (And.intro u89 hvo8)))
      clear hv2 hP9 u8 u89 hvo8 hown8 hown9 hblk8 at8 hcy HN HSRC HP7d
      rw [unhide HY] at c8
      go_wp2_with (first | ((with_reducible apply tp); rfl; rfl; intro _ _ _) | ((with_reducible apply tr); rfl; intro _ _) | ((with_reducible apply te); rfl; intro _ _) | (with_reducible rfl) | (with_reducible apply tn) | ((with_reducible apply wp_txt); kernel_rfl; decide +kernel))
      go_ret
      have hbd : (true || decide (n ≠ 0)) = true := by simp [hn]
      rw [← unhide HV2, hbd]
      obtain ⟨hP9, u8, u89, hvo8⟩ := unhide HF
      have hS1 := unhide H1
      have u4 := unhide U4
      have s67 := (unhide HU67).size
      have s8 : w7.heap.size ≤ w8.heap.size := u8.size
      have s89 := u89.size
      have hle := unhide HLE
      have uall : Upd S w (w8.setCell ⟨p, 3, none⟩ v2) := ((((u4.mono (fun k _ e => hS1 k (by simp [e]))).trans ((unhide U46).mono (fun k _ e => hS1 k (by simp [e])))).trans ((unhide HU67).mono (fun k _ e => hS1 k (by simp [e])))).trans ((((Upd.refl S w7).drew)).trans (u8.mono (fun k _ e => hS1 k (by simp [e]))))).trans (u89.mono (fun k _ e => hS1 k (by simp [e])))
      have hP9v : ∀ k, (v'.ownBlock = some k ∨ v2.ownBlock = some k) → k < (w8.setCell ⟨p, 3, none⟩ v2).heap.size := fun k hk => by
        rcases hk with hk | hk
        · exact (hP9.offA k hk).lt
        · exact (hP9.offB k hk).lt
      refine ⟨rfl, ⟨gA, gB, (Fr SA w4.drew w6), SB, v', v2, hP9, ?_, ?_⟩, uall⟩
      · rintro k (hk | hk | hk | hk | hk)
        · rcases hk with hk | hk
          · exact .inl (hS1 k (by simp [hk]))
          · exact .inr ⟨by have := hk.1; have e : w4.drew.heap.size = w4.heap.size := rfl; omega, by omega⟩
        · exact .inl (hS1 k (by simp [hk]))
        · exact .inl (hS1 k (by simp [hk]))
        · exact .inr ⟨by have := unhide HVO k hk; omega, (hP9v k (.inl hk))⟩
        · rcases hvo8 k hk with e | e
          · exact .inl (hS1 k (by simp [e]))
          · exact .inr ⟨by omega, (hP9v k (.inr hk))⟩
      · rintro k (hk | hk)
        · have := unhide H2 k hk
          exact ⟨this.1, by omega⟩
        · exact ⟨by omega, hk.2⟩
  · cases bad
    · go_upto_region 7 with (first | ((with_reducible apply tp); rfl; rfl; intro _ _ _) | ((with_reducible apply tr); rfl; intro _ _) | ((with_reducible apply te); rfl; intro _ _) | (with_reducible rfl) | (with_reducible apply tn) | ((with_reducible apply wp_txt); kernel_rfl; decide +kernel))
      rw [show (n != 0) = true by simp [hn]]
      have hP7 := (unhide HP6).putBad true
      have U67 : Upd (· = p) w6 (w6.setCell ⟨p, 4, none⟩ (.bool true)) := (Upd.refl _ _).set1 4 _
      have hv7 := row_upd' (unhide HV6) U67 (fun k hk e => unhide HNE (e ▸ hk))
      generalize w6.setCell ⟨p, 4, none⟩ (.bool true) = w7 at hP7 U67 hv7 ⊢
      have hP7d := hP7.new ((Upd.refl (fun _ => False) w7).drew)
      have hcy : w7.cell? ⟨p, 3, none⟩ = some ub := blk_cell hP7.at_ 3
      obtain ⟨ya, yc, hy⟩ := own_shape' hP7.rowB
      rw [hy] at hcy
      have hrow := hP7d.rowB
      rw [hy] at hrow
      have HN := hide hrow
      have HSRC := hide (src_row (w := w7.drew) (fun l hl => (hls l hl).len) hv7)
      have hle7 : w0.heap.size ≤ w7.drew.heap.size := hP7d.two.n.size
      have HP7d := hide hP7d
      have HY := hide hy
      have HU67 := hide U67
      clear c4 f4 hP7 hP7d U67 hv7 hrow hy
      go_wp2_with (first | (at_builtin; refine append_msgs rfl (.tmp 69) (.tmp 70) rfl w0.heap.size _ wb.length _ rfl (unhide HN) ls hls _ rfl (unhide HSRC) ?c3 hle7 ?_) | ((with_reducible apply tp); rfl; rfl; intro _ _ _) | ((with_reducible apply tr); rfl; intro _ _) | ((with_reducible apply te); rfl; intro _ _) | (with_reducible rfl) | (with_reducible apply tn) | ((with_reducible apply wp_txt); kernel_rfl; decide +kernel))
      case c3 => exact hfew.2
      intro v2 w8 hown8 u8 hblk8
      rw [← unhide HY] at u8 hblk8
      have hown9 : w8.ownsRow w0.heap.size 30 38 v2 (wb ++ ls).length ((wb ++ ls).flatMap MsgV.cells) := by
        rw [List.length_append, List.flatMap_append]
        exact hown8
      have hvo8 : ∀ k, v2.ownBlock = some k → ub.ownBlock = some k ∨ w7.heap.size ≤ k := fun k hk => by
        rcases hblk8 with e | e
        · exact .inl (e ▸ hk)
        · rw [e] at hk
          injection hk with hk
          exact .inr (Nat.le_of_eq hk)
      have hP9 := (unhide HP7d).putB u8 hown9 hvo8 (fun l hl => by
        rcases List.mem_append.1 hl with e | e
        · exact (unhide HP7d).okB l e
        · exact hls l e)
      have hpN : ¬ (ub.ownBlock = some p) := fun e => by
        obtain ⟨cur, hc⟩ := own_blk' (unhide HP7d).rowB p e
        exact apart_ty' (unhide HP7d).at_ hc (by decide) rfl
      have at8 := u8.old (unhide HP7d).at_ hpN
      have c8 : w8.cell? ⟨p, 3, none⟩ = some ub := blk_cell at8 3
      have f8 : w8.frozen? ⟨p, 3, none⟩ = false := blk_free at8 3
      have u89 : Upd (· = p) w8 (w8.setCell ⟨p, 3, none⟩ v2) := (Upd.refl _ _).set1 3 _
      obtain ⟨va, vc, hv2⟩ := own_shape' hown8
      rw [hv2]
      have HV2 := hide hv2
      have HF := hide (And.intro hP9 (And.intro u8 (And.intro u89 hvo8)))
      clear hv2 hP9 u8 u89 hvo8 hown8 hown9 hblk8 at8 hcy HN HSRC HP7d
      rw [unhide HY] at c8
      go_wp2_with (first | ((with_reducible apply tp); rfl; rfl; intro _ _ _) | ((with_reducible apply tr); rfl; intro _ _) | ((with_reducible apply te); rfl; intro _ _) | (with_reducible rfl) | (with_reducible apply tn) | ((with_reducible apply wp_txt); kernel_rfl; decide +kernel))
      go_ret
      have hbd : (false || decide (n ≠ 0)) = true := by simp [hn]
      rw [← unhide HV2, hbd]
      obtain ⟨hP9, u8, u89, hvo8⟩ := unhide HF
      have hS1 := unhide H1
      have u4 := unhide U4
      have s67 := (unhide HU67).size
      have s8 : w7.heap.size ≤ w8.heap.size := u8.size
      have s89 := u89.size
      have hle := unhide HLE
      have uall : Upd S w (w8.setCell ⟨p, 3, none⟩ v2) := ((((u4.mono (fun k _ e => hS1 k (by simp [e]))).trans ((unhide U46).mono (fun k _ e => hS1 k (by simp [e])))).trans ((unhide HU67).mono (fun k _ e => hS1 k (by simp [e])))).trans ((((Upd.refl S w7).drew)).trans (u8.mono (fun k _ e => hS1 k (by simp [e]))))).trans (u89.mono (fun k _ e => hS1 k (by simp [e])))
      have hP9v : ∀ k, (v'.ownBlock = some k ∨ v2.ownBlock = some k) → k < (w8.setCell ⟨p, 3, none⟩ v2).heap.size := fun k hk => by
        rcases hk with hk | hk
        · exact (hP9.offA k hk).lt
        · exact (hP9.offB k hk).lt
      refine ⟨rfl, ⟨gA, gB, (Fr SA w4.drew w6), SB, v', v2, hP9, ?_, ?_⟩, uall⟩
      · rintro k (hk | hk | hk | hk | hk)
        · rcases hk with hk | hk
          · exact .inl (hS1 k (by simp [hk]))
          · exact .inr ⟨by have := hk.1; have e : w4.drew.heap.size = w4.heap.size := rfl; omega, by omega⟩
        · exact .inl (hS1 k (by simp [hk]))
        · exact .inl (hS1 k (by simp [hk]))
        · exact .inr ⟨by have := unhide HVO k hk; omega, (hP9v k (.inl hk))⟩
        · rcases hvo8 k hk with e | e
          · exact .inl (hS1 k (by simp [e]))
          · exact .inr ⟨by omega, (hP9v k (.inr hk))⟩
      · rintro k (hk | hk)
        · have := unhide H2 k hk
          exact ⟨this.1, by omega⟩
        · exact ⟨by omega, hk.2⟩
    · go_upto_region 7 with (first | ((with_reducible apply tp); rfl; rfl; intro _ _ _) | ((with_reducible apply tr); rfl; intro _ _) | ((with_reducible apply te); rfl; intro _ _) | (with_reducible rfl) | (with_reducible apply tn) | ((with_reducible apply wp_txt); kernel_rfl; decide +kernel))
      
      have hP7 := (unhide HP6).putBad true
      have U67 : Upd (· = p) w6 (w6.setCell ⟨p, 4, none⟩ (.bool true)) := (Upd.refl _ _).set1 4 _
      have hv7 := row_upd' (unhide HV6) U67 (fun k hk e => unhide HNE (e ▸ hk))
      generalize w6.setCell ⟨p, 4, none⟩ (.bool true) = w7 at hP7 U67 hv7 ⊢
      have hP7d := hP7.new ((Upd.refl (fun _ => False) w7).drew)
      have hcy : w7.cell? ⟨p, 3, none⟩ = some ub := blk_cell hP7.at_ 3
      obtain ⟨ya, yc, hy⟩ := own_shape' hP7.rowB
      rw [hy] at hcy
      have hrow := hP7d.rowB
      rw [hy] at hrow
      have HN := hide hrow
      have HSRC := hide (src_row (w := w7.drew) (fun l hl => (hls l hl).len) hv7)
      have hle7 : w0.heap.size ≤ w7.drew.heap.size := hP7d.two.n.size
      have HP7d := hide hP7d
      have HY := hide hy
      have HU67 := hide U67
      clear c4 f4 hP7 hP7d U67 hv7 hrow hy
      go_wp2_with (first | (at_builtin; refine append_msgs rfl (.tmp 69) (.tmp 70) rfl w0.heap.size _ wb.length _ rfl (unhide HN) ls hls _ rfl (unhide HSRC) ?c3 hle7 ?_) | ((with_reducible apply tp); rfl; rfl; intro _ _ _) | ((with_reducible apply tr); rfl; intro _ _) | ((with_reducible apply te); rfl; intro _ _) | (with_reducible rfl) | (with_reducible apply tn) | ((with_reducible apply wp_txt); kernel_rfl; decide +kernel))
      case c3 => exact hfew.2
      intro v2 w8 hown8 u8 hblk8
      rw [← unhide HY] at u8 hblk8
      have hown9 : w8.ownsRow w0.heap.size 30 38 v2 (wb ++ ls).length ((wb ++ ls).flatMap MsgV.cells) := by
        rw [List.length_append, List.flatMap_append]
        exact hown8
      have hvo8 : ∀ k, v2.ownBlock = some k → ub.ownBlock = some k ∨ w7.heap.size ≤ k := fun k hk => by
        rcases hblk8 with e | e
        · exact .inl (e ▸ hk)
        · rw [e] at hk
          injection hk with hk
          exact .inr (Nat.le_of_eq hk)
      have hP9 := (unhide HP7d).putB u8 hown9 hvo8 (fun l hl => by
        rcases List.mem_append.1 hl with e | e
        · exact (unhide HP7d).okB l e
        · exact hls l e)
      have hpN : ¬ (ub.ownBlock = some p) := fun e => by
        obtain ⟨cur, hc⟩ := own_blk' (unhide HP7d).rowB p e
        exact apart_ty' (unhide HP7d).at_ hc (by decide) rfl
      have at8 := u8.old (unhide HP7d).at_ hpN
      have c8 : w8.cell? ⟨p, 3, none⟩ = some ub := blk_cell at8 3
      have f8 : w8.frozen? ⟨p, 3, none⟩ = false := blk_free at8 3
      have u89 : Upd (· = p) w8 (w8.setCell ⟨p, 3, none⟩ v2) := (Upd.refl _ _).set1 3 _
      obtain ⟨va, vc, hv2⟩ := own_shape' hown8
      rw [hv2]
      have HV2 := hide hv2
      have HF := hide (And.intro hP9 (And.intro u8 (And.intro u89 hvo8)))
      clear hv2 hP9 u8 u89 hvo8 hown8 hown9 hblk8 at8 hcy HN HSRC HP7d
      rw [unhide HY] at c8
      go_wp2_with (first | ((with_reducible apply tp); rfl; rfl; intro _ _ _) | ((with_reducible apply tr); rfl; intro _ _) | ((with_reducible apply te); rfl; intro _ _) | (with_reducible rfl) | (with_reducible apply tn) | ((with_reducible apply wp_txt); kernel_rfl; decide +kernel))
      go_ret
      have hbd : (true || decide (n ≠ 0)) = true := by simp [hn]
      rw [← unhide HV2, hbd]
      obtain ⟨hP9, u8, u89, hvo8⟩ := unhide HF
      have hS1 := unhide H1
      have u4 := unhide U4
      have s67 := (unhide HU67).size
      have s8 : w7.heap.size ≤ w8.heap.size := u8.size
      have s89 := u89.size
      have hle := unhide HLE
      have uall : Upd S w (w8.setCell ⟨p, 3, none⟩ v2) := ((((u4.mono (fun k _ e => hS1 k (by simp [e]))).trans ((unhide U46).mono (fun k _ e => hS1 k (by simp [e])))).trans ((unhide HU67).mono (fun k _ e => hS1 k (by simp [e])))).trans ((((Upd.refl S w7).drew)).trans (u8.mono (fun k _ e => hS1 k (by simp [e]))))).trans (u89.mono (fun k _ e => hS1 k (by simp [e])))
      have hP9v : ∀ k, (v'.ownBlock = some k ∨ v2.ownBlock = some k) → k < (w8.setCell ⟨p, 3, none⟩ v2).heap.size := fun k hk => by
        rcases hk with hk | hk
        · exact (hP9.offA k hk).lt
        · exact (hP9.offB k hk).lt
      refine ⟨rfl, ⟨gA, gB, (Fr SA w4.drew w6), SB, v', v2, hP9, ?_, ?_⟩, uall⟩
      · rintro k (hk | hk | hk | hk | hk)
        · rcases hk with hk | hk
          · exact .inl (hS1 k (by simp [hk]))
          · exact .inr ⟨by have := hk.1; have e : w4.drew.heap.size = w4.heap.size := rfl; omega, by omega⟩
        · exact .inl (hS1 k (by simp [hk]))
        · exact .inl (hS1 k (by simp [hk]))
        · exact .inr ⟨by have := unhide HVO k hk; omega, (hP9v k (.inl hk))⟩
        · rcases hvo8 k hk with e | e
          · exact .inl (hS1 k (by simp [e]))
          · exact .inr ⟨by omega, (hP9v k (.inr hk))⟩
      · rintro k (hk | hk)
        · have := unhide H2 k hk
          exact ⟨this.1, by omega⟩
        · exact ⟨by omega, hk.2⟩

set_option maxRecDepth 100000 in
set_option maxHeartbeats 1000000 in
theorem hears1_none (w0 : World) (p : Nat) (S : Nat → Prop) (a b : Ch) (wa : List MsgV) (bad : Bool) (w : World) (h : PrS w0 w p S a b wa [] bad) :
    Calls Tryz.prog 15 #[.pointer (some ⟨p, 0, none⟩), .int .i64 1] w (Makes (.bool false) w) := by
  obtain ⟨gA, gB, SA, SB, ua, ub, hP, hSub, hSlt⟩ := h
  have c2 : w.cell? ⟨p, 3, none⟩ = some ub := blk_cell hP.at_ 3
  obtain ⟨na, ncap, hnv⟩ := own_shape' hP.rowB
  rw [hnv] at c2
  clear hP hnv hSub hSlt
  go_enter Tryz.func15, Tryz.ntmps15
  go_wp2_with (first | ((with_reducible apply tp); rfl; rfl; intro _ _ _) | ((with_reducible apply tr); rfl; intro _ _) | ((with_reducible apply te); rfl; intro _ _) | (with_reducible rfl) | (with_reducible apply tn) | ((with_reducible apply wp_txt); kernel_rfl; decide +kernel))
  go_ret
  exact ⟨rfl, Upd.refl _ _⟩

set_option maxRecDepth 100000 in
set_option maxHeartbeats 2000000 in
theorem hears1_any (w0 : World) (hT : Tb w0) (p : Nat) (S : Nat → Prop) (a b : Ch) (m : MsgV) (ms wa : List MsgV) (bad : Bool) (w : World) (h : PrS w0 w p S a b wa (m :: ms) bad)
    (c' : Ch) (ls : List MsgV) (n : Int) (hls : ∀ l ∈ ls, MsgOk l) (hfew : ms.length < 1000000 ∧ wa.length + ls.length ≤ 1000000)
    (hH : ∀ (W : World) (g : Nat) (S' : Nat → Prop), ChS W g S' b → Apart S' → Tb W → Calls Tryz.prog 18 #[.pointer (some ⟨g, 0, none⟩), .agg m.cells.toArray] W (Heard g S' W c' ls n)) :
    Calls Tryz.prog 15 #[.pointer (some ⟨p, 0, none⟩), .int .i64 1] w fun e w' => e = .returned (.bool true) ∧ PrS w0 w' p (Fr S w w') a c' (wa ++ ls) ms (bad || decide (n ≠ 0)) ∧ Upd S w w' := by
  have HLE := hide h.le
  obtain ⟨gA, gB, SA, SB, ua, ub, hP, hSub, hSlt⟩ := h
  have c2 : w.cell? ⟨p, 3, none⟩ = some ub := blk_cell hP.at_ 3
  obtain ⟨g, cap, hnv, hcp⟩ := row_cons hP.rowB
  have hm : MsgOk m := hP.okB m List.mem_cons_self
  have hms : ∀ l ∈ ms, MsgOk l := fun l hl => hP.okB l (List.mem_cons_of_mem _ hl)
  obtain ⟨hr0, hcells⟩ := row_head hP.rowB hnv hm.len (fun l hl => (hms l hl).len)
  have HP := hide hP
  have H1 := hide hSub
  have H2 := hide hSlt
  have HC := hide hcells
  have HNV := hide hnv
  have hlen0 : (0 : Int) < ((ms.length + 1 : Nat) : Int) := by omega
  have hlenb : ms.length + 1 ≤ 9223372036854775807 := by omega
  rw [hnv] at c2
  have hps : p < w.heap.size := blk_lt hP.at_
  clear hP hSub hSlt hcells hnv
  go_enter Tryz.func15, Tryz.ntmps15
  obtain ⟨hst, hA, nA⟩ := ms_fresh w m hm.len
  go_upto_region 4 with (first | ((with_reducible apply tp); rfl; rfl; intro _ _ _) | ((with_reducible apply tr); rfl; intro _ _) | ((with_reducible apply te); rfl; intro _ _) | (with_reducible rfl) | (with_reducible apply tn) | ((with_reducible apply wp_txt); kernel_rfl; decide +kernel))
  change Code.wp _ _ _ _ (msNew w m)
  have HPn := hide ((unhide HP).new nA)
  have c2n := nA.cell c2 (fun h => h)
  have hcn := hide (show ∀ j u, (ms.flatMap MsgV.cells)[j]? = some u → (msNew w m).cell? ((⟨g, 38, none⟩ : Addr).add j) = some u from fun j u hj => nA.cell (unhide HC j u hj) (fun h => h))
  have NA := hide nA
  have hsn := nA.size
  clear hst c2 hr0 HP HC nA
  generalize msNew w m = w1 at hA HPn c2n hcn NA hsn ⊢
  obtain ⟨A, hAe⟩ : ∃ A, A = w.heap.size := ⟨_, rfl⟩
  rw [← hAe] at hA ⊢
  have hAp : A ≠ p := by omega
  have HA := hide hA
  have hwA : w.heap.size ≤ A := by omega
  have hle1 : w0.heap.size ≤ w1.heap.size := (unhide HPn).two.n.size
  have f2 : w1.frozen? ⟨p, 3, none⟩ = false := blk_free (unhide HPn).at_ 3
  have c2d : w1.drew.cell? ⟨p, 3, none⟩ = some (.slice (some ⟨g, 0, none⟩) (ms.length + 1) cap) := c2n
  clear hA hAe
  refine wp_plan (fun w' => w'.cell? ⟨p, 3, none⟩ = some (.slice (some ⟨g, 0, none⟩) (ms.length + 1) cap)) [8] (.of [0, 1, 2, 3, 4, 5, 6, 7, 8, 9, 10, 11, 12, 13, 14]) (by kernel_rfl) (by kernel_rfl) c2d ?_
  simp only [Plan.of]
  go_wp2_with (first | ((with_reducible apply qp); rfl; rfl; rfl; intro _ _ _) | ((with_reducible apply qc); rfl; rfl; rfl; with_reducible assumption; intro _ hC _ _) | ((with_reducible apply qr); rfl; rfl; intro _ _) | ((with_reducible apply qd); rfl; rfl; decide +kernel; intro _ _) | ((with_reducible apply qe); rfl; rfl; intro _ _) | (with_reducible rfl) | (with_reducible apply qn))
  refine ⟨((Upd.refl (fun _ => False) w1).alloc _).drew.cell c2n (fun h => h), ?_⟩
  have nB : New w1 (w1.alloc (.cells #[] 30)).drew := ((Upd.refl _ _).alloc _).drew
  have hO : (w1.alloc (.cells #[] 30)).drew.ownsRow w0.heap.size 30 38 (.slice (some ⟨w1.heap.size, 0, none⟩) 0 0) 0 [] := World.ownsRow_made (base := w0.heap.size) (e := 30) (size := 38) w1 #[] 0 hle1 (by decide) rfl
  have hc2 := hide (show ∃ ad, (if cap = 1 then some (⟨g, 0, none⟩ : Addr) else some ⟨g, 38, none⟩) = some ad ∧ ∀ j u, (ms.flatMap MsgV.cells)[j]? = some u → (w1.alloc (.cells #[] 30)).drew.cell? (ad.add j) = some u by
    by_cases hc1 : cap = 1
    · rw [if_pos hc1]
      refine ⟨_, rfl, ?_⟩
      intro j u hj
      have hm0 : ms = [] := List.length_eq_zero_iff.1 (by omega)
      rw [hm0] at hj
      simp at hj
    · rw [if_neg hc1]
      exact ⟨_, rfl, fun j u hj => nB.cell (unhide hcn j u hj) (fun h => h)⟩)
  have c2m := nB.cell c2n (fun h => h)
  have HO := hide hO
  have NB := hide nB
  have hle2 : w0.heap.size ≤ (w1.alloc (.cells #[] 30)).drew.heap.size := Nat.le_trans hle1 nB.size
  clear c2n c2d f2 nB hO hcn
  generalize (w1.alloc (.cells #[] 30)).drew = w2 at HO NB hc2 c2m hle2 ⊢
  obtain ⟨D, hDe⟩ : ∃ D, D = w1.heap.size := ⟨_, rfl⟩
  rw [← hDe] at HO ⊢
  have HDE := hide hDe
  clear hDe
  go_wp2_with (first | (at_builtin; obtain ⟨ad, hif, hcs⟩ := unhide hc2; rw [hif]; clear hif; refine append_msgs rfl (.tmp 26) (.tmp 33) rfl w0.heap.size _ 0 [] rfl (unhide HO) ms hms _ rfl (.inr ⟨ad, _, rfl, hcs⟩) ?c3 hle2 ?_) | ((with_reducible apply qp); rfl; rfl; rfl; intro _ _ _) | ((with_reducible apply qc); rfl; rfl; rfl; with_reducible assumption; intro _ hC _ _) | ((with_reducible apply qr); rfl; rfl; intro _ _) | ((with_reducible apply qd); rfl; rfl; decide +kernel; intro _ _) | ((with_reducible apply qe); rfl; rfl; intro _ _) | (with_reducible rfl) | (with_reducible apply qn))
  case c3 => omega
  intro v' w3 hown' u3 hblk
  change w3.ownsRow w0.heap.size 30 38 v' ms.length (ms.flatMap MsgV.cells) at hown'
  clear hcs
  have hD := unhide HDE
  have nb := unhide NB
  have n13 : New w1 w3 := nb.then u3 (fun i hi e => by simp [Value.ownBlock] at e; omega)
  have hvo : ∀ k, v'.ownBlock = some k → w1.heap.size ≤ k := fun k hk => by
    have := nb.size
    rcases hblk with e | e
    · rw [e] at hk; simp [Value.ownBlock] at hk; omega
    · rw [e] at hk; injection hk with hk; omega
  have hP4 := (unhide HPn).putB (n13.mono (fun _ _ h => h.elim)) hown' (fun k hk => .inr (hvo k hk)) hms
  have at3 := n13.old (unhide HPn).at_ (fun h => h)
  have c3 : w3.cell? ⟨p, 3, none⟩ = some ub := blk_cell at3 3
  rw [unhide HNV] at c3
  have f3 : w3.frozen? ⟨p, 3, none⟩ = false := blk_free at3 3
  have u34 : Upd (· = p) w3 (w3.setCell ⟨p, 3, none⟩ v') := (Upd.refl _ _).set1 3 _
  have HA4 := hide (((unhide HA).new n13).upd u34 (fun e => hAp e))
  have U4 := hide (((unhide NA).mono (fun _ _ h => h.elim) : Upd (· = p) _ _).trans ((n13.mono (fun _ _ h => h.elim) : Upd (· = p) _ _).trans u34))
  have HP4 := hide hP4
  have HVO := hide hvo
  obtain ⟨va, vc, hv'⟩ := own_shape' hown'
  have HV := hide hv'
  clear hown' u3 hblk hD nb n13 hvo hP4 at3 u34 hcp hlen0 hc2 c2m HO NB HDE HPn HA NA HNV
  rw [hv']
  clear hv'
  go_upto_region 5 with (first | ((with_reducible apply qp); rfl; rfl; rfl; intro _ _ _) | ((with_reducible apply qc); rfl; rfl; rfl; with_reducible assumption; intro _ hC _ _) | ((with_reducible apply qr); rfl; rfl; intro _ _) | ((with_reducible apply qd); rfl; rfl; decide +kernel; intro _ _) | ((with_reducible apply qe); rfl; rfl; intro _ _) | (with_reducible rfl) | (with_reducible apply qn))
  rw [← unhide HV]
  generalize w3.setCell ⟨p, 3, none⟩ v' = w4 at HA4 U4 HP4 ⊢
  clear c3 f3 HV
  clear va vc
  have HP4d := hide ((unhide HP4).new ((Upd.refl (fun _ => False) w4).drew))
  have c0 : w4.cell? ⟨p, 1, none⟩ = some (.pointer (some ⟨gB, 0, none⟩)) := blk_cell (unhide HP4).at_ 1
  have rA := (unhide HA4).row
  have hh := hH w4.drew gB SB (unhide HP4d).two.B ((unhide HP4d).two.apB hT) (hT.new (unhide HP4d).two.n)
  clear hH
  go_wp2_with (first | ((with_reducible apply tp); rfl; rfl; intro _ _ _) | ((with_reducible apply tr); rfl; intro _ _) | ((with_reducible apply te); rfl; intro _ _) | (with_reducible rfl) | (with_reducible apply tn) | ((with_reducible apply wp_txt); kernel_rfl; decide +kernel))
  refine hh.mono ?_
  rintro e w6 ⟨v, rfl, hv, hc, hu⟩
  have HP6 := hide ((unhide HP4d).opB hc hu)
  have U46 := hide (((Upd.refl SB w4).drew).trans hu)
  have hNE : ¬ (v.ownBlock = some p) := fun e => by
    obtain ⟨cur, hcc⟩ := own_blk' hv p e
    exact apart_ty' (unhide HP6).at_ hcc (by decide) rfl
  have HV6 := hide hv
  have HNE := hide hNE
  have c4 : w6.cell? ⟨p, 4, none⟩ = some (.bool bad) := blk_cell (unhide HP6).at_ 4
  have f4 : w6.frozen? ⟨p, 4, none⟩ = false := blk_free (unhide HP6).at_ 4
  clear hh c0 rA hc hu hv hNE HP4d
  have HW4 := (unhide U4).size
  have HW6 := (unhide U46).size
  by_cases hn : n = 0
  · cases bad
    · go_upto_region 7 with (first | ((with_reducible apply tp); rfl; rfl; intro _ _ _) | ((with_reducible apply tr); rfl; intro _ _) | ((with_reducible apply te); rfl; intro _ _) | (with_reducible rfl) | (with_reducible apply tn) | ((with_reducible apply wp_txt); kernel_rfl; decide +kernel))
      
      have hP7 := (unhide HP6).putBad false
      have U67 : Upd (· = p) w6 (w6.setCell ⟨p, 4, none⟩ (.bool false)) := (Upd.refl _ _).set1 4 _
      have hv7 := row_upd' (unhide HV6) U67 (fun k hk e => unhide HNE (e ▸ hk))
      generalize w6.setCell ⟨p, 4, none⟩ (.bool false) = w7 at hP7 U67 hv7 ⊢
      have hP7d := hP7.new ((Upd.refl (fun _ => False) w7).drew)
      have hcy : w7.cell? ⟨p, 2, none⟩ = some ua := blk_cell hP7.at_ 2
      obtain ⟨ya, yc, hy⟩ := own_shape' hP7.rowA
      rw [hy] at hcy
      have hrow := hP7d.rowA
      rw [hy] at hrow
      have HN := hide hrow
      have HSRC := hide (src_row (w := w7.drew) (fun l hl => (hls l hl).len) hv7)
      have hle7 : w0.heap.size ≤ w7.drew.heap.size := hP7d.two.n.size
      have HP7d := hide hP7d
      have HY := hide hy
      have HU67 := hide U67
      clear c4 f4 hP7 hP7d U67 hv7 hrow hy
      go_wp2_with (first | (at_builtin; refine append_msgs rfl (.tmp 69) (.tmp 70) rfl w0.heap.size _ wa.length _ rfl (unhide HN) ls hls _ rfl (unhide HSRC) ?c3 hle7 ?_) | ((with_reducible apply tp); rfl; rfl; intro _ _ _) | ((with_reducible apply tr); rfl; intro _ _) | ((with_reducible apply te); rfl; intro _ _) | (with_reducible rfl) | (with_reducible apply tn) | ((with_reducible apply wp_txt); kernel_rfl; decide +kernel))
      case c3 => exact hfew.2
      intro v2 w8 hown8 u8 hblk8
      rw [← unhide HY] at u8 hblk8
      have hown9 : w8.ownsRow w0.heap.size 30 38 v2 (wa ++ ls).length ((wa ++ ls).flatMap MsgV.cells) := by
        rw [List.length_append, List.flatMap_append]
        exact hown8
      have hvo8 : ∀ k, v2.ownBlock = some k → ua.ownBlock = some k ∨ w7.heap.size ≤ k := fun k hk => by
        rcases hblk8 with e | e
        · exact .inl (e ▸ hk)
        · rw [e] at hk
          injection hk with hk
          exact .inr (Nat.le_of_eq hk)
      have hP9 := (unhide HP7d).putA u8 hown9 hvo8 (fun l hl => by
        rcases List.mem_append.1 hl with e | e
        · exact (unhide HP7d).okA l e
        · exact hls l e)
      have hpN : ¬ (ua.ownBlock = some p) := fun e => by
        obtain ⟨cur, hc⟩ := own_blk' (unhide HP7d).rowA p e
        exact apart_ty' (unhide HP7d).at_ hc (by decide) rfl
      have at8 := u8.old (unhide HP7d).at_ hpN
      have c8 : w8.cell? ⟨p, 2, none⟩ = some ua := blk_cell at8 2
      have f8 : w8.frozen? ⟨p, 2, none⟩ = false := blk_free at8 2
      have u89 : Upd (· = p) w8 (w8.setCell ⟨p, 2, none⟩ v2) := (Upd.refl _ _).set1 2 _
      obtain ⟨va, vc, hv2⟩ := own_shape' hown8
      rw [hv2]
      have HV2 := hide hv2
      have HF := hide (And.intro hP9 (And.intro u8 (And.intro u89 hvo8)))
      clear hv2 hP9 u8 u89 hvo8 hown8 hown9 hblk8 at8 hcy HN HSRC HP7d
      rw [unhide HY] at c8
      go_wp2_with (first | ((with_reducible apply tp); rfl; rfl; intro _ _ _) | ((with_reducible apply tr); rfl; intro _ _) | ((with_reducible apply te); rfl; intro _ _) | (with_reducible rfl) | (with_reducible apply tn) | ((with_reducible apply wp_txt); kernel_rfl; decide +kernel))
      go_ret
      have hbd : (false || decide (n ≠ 0)) = false := by simp [hn]
      rw [← unhide HV2, hbd]
      obtain ⟨hP9, u8, u89, hvo8⟩ := unhide HF
      have hS1 := unhide H1
      have u4 := unhide U4
      have s67 := (unhide HU67).size
      have s8 : w7.heap.size ≤ w8.heap.size := u8.size
      have s89 := u89.size
      have hle := unhide HLE
      have uall : Upd S w (w8.setCell ⟨p, 2, none⟩ v2) := ((((u4.mono (fun k _ e => hS1 k (by simp [e]))).trans ((unhide U46).mono (fun k _ e => hS1 k (by simp [e])))).trans ((unhide HU67).mono (fun k _ e => hS1 k (by simp [e])))).trans ((((Upd.refl S w7).drew)).trans (u8.mono (fun k _ e => hS1 k (by simp [e]))))).trans (u89.mono (fun k _ e => hS1 k (by simp [e])))
      have hP9v : ∀ k, (v'.ownBlock = some k ∨ v2.ownBlock = some k) → k < (w8.setCell ⟨p, 2, none⟩ v2).heap.size := fun k hk => by
        rcases hk with hk | hk
        · exact (hP9.offB k hk).lt
        · exact (hP9.offA k hk).lt
      refine ⟨rfl, ⟨gA, gB, SA, (Fr SB w4.drew w6), v2, v', hP9, ?_, ?_⟩, uall⟩
      · rintro k (hk | hk | hk | hk | hk)
        · exact .inl (hS1 k (by simp [hk]))
        · rcases hk with hk | hk
          · exact .inl (hS1 k (by simp [hk]))
          · exact .inr ⟨by have := hk.1; have e : w4.drew.heap.size = w4.heap.size := rfl; omega, by omega⟩
        · exact .inl (hS1 k (by simp [hk]))
        · rcases hvo8 k hk with e | e
          · exact .inl (hS1 k (by simp [e]))
          · exact .inr ⟨by omega, (hP9v k (.inr hk))⟩
        · exact .inr ⟨by have := unhide HVO k hk; omega, (hP9v k (.inl hk))⟩
      · rintro k (hk | hk)
        · have := unhide H2 k hk
          exact ⟨this.1, by omega⟩
        · exact ⟨by omega, hk.2⟩
    · go_upto_region 7 with (first | ((with_reducible apply tp); rfl; rfl; intro _ _ _) | ((with_reducible apply tr); rfl; intro _ _) | ((with_reducible apply te); rfl; intro _ _) | (with_reducible rfl) | (with_reducible apply tn) | ((with_reducible apply wp_txt); kernel_rfl; decide +kernel))
      
      have hP7 := (unhide HP6).putBad true
      have U67 : Upd (· = p) w6 (w6.setCell ⟨p, 4, none⟩ (.bool true)) := (Upd.refl _ _).set1 4 _
      have hv7 := row_upd' (unhide HV6) U67 (fun k hk e => unhide HNE (e ▸ hk))
      generalize w6.setCell ⟨p, 4, none⟩ (.bool true) = w7 at hP7 U67 hv7 ⊢
      have hP7d := hP7.new ((Upd.refl (fun _ => False) w7).drew)
      have hcy : w7.cell? ⟨p, 2, none⟩ = some ua := blk_cell hP7.at_ 2
      obtain ⟨ya, yc, hy⟩ := own_shape' hP7.rowA
      rw [hy] at hcy
      have hrow := hP7d.rowA
      rw [hy] at hrow
      have HN := hide hrow
      have HSRC := hide (src_row (w := w7.drew) (fun l hl => (hls l hl).len) hv7)
      have hle7 : w0.heap.size ≤ w7.drew.heap.size := hP7d.two.n.size
      have HP7d := hide hP7d
      have HY := hide hy
      have HU67 := hide U67
      clear c4 f4 hP7 hP7d U67 hv7 hrow hy
      go_wp2_with (first | (at_builtin; refine append_msgs rfl (.tmp 69) (.tmp 70) rfl w0.heap.size _ wa.length _ rfl (unhide HN) ls hls _ rfl (unhide HSRC) ?c3 hle7 ?_) | ((with_reducible apply tp); rfl; rfl; intro _ _ _) | ((with_reducible apply tr); rfl; intro _ _) | ((with_reducible apply te); rfl; intro _ _) | (with_reducible rfl) | (with_reducible apply tn) | ((with_reducible apply wp_txt); kernel_rfl; decide +kernel))
      case c3 => exact hfew.2
      intro v2 w8 hown8 u8 hblk8
      rw [← unhide HY] at u8 hblk8
      have hown9 : w8.ownsRow w0.heap.size 30 38 v2 (wa ++ ls).length ((wa ++ ls).flatMap MsgV.cells) := by
        rw [List.length_append, List.flatMap_append]
        exact hown8
      have hvo8 : ∀ k, v2.ownBlock = some k → ua.ownBlock = some k ∨ w7.heap.size ≤ k := fun k hk => by
        rcases hblk8 with e | e
        · exact .inl (e ▸ hk)
        · rw [e] at hk
          injection hk with hk
          exact .inr (Nat.le_of_eq hk)
      have hP9 := (unhide HP7d).putA u8 hown9 hvo8 (fun l hl => by
        rcases List.mem_append.1 hl with e | e
        · exact (unhide HP7d).okA l e
        · exact hls l e)
      have hpN : ¬ (ua.ownBlock = some p) := fun e => by
        obtain ⟨cur, hc⟩ := own_blk' (unhide HP7d).rowA p e
        exact apart_ty' (unhide HP7d).at_ hc (by decide) rfl
      have at8 := u8.old (unhide HP7d).at_ hpN
      have c8 : w8.cell? ⟨p, 2, none⟩ = some ua := blk_cell at8 2
      have f8 : w8.frozen? ⟨p, 2, none⟩ = false := blk_free at8 2
      have u89 : Upd (· = p) w8 (w8.setCell ⟨p, 2, none⟩ v2) := (Upd.refl _ _).set1 2 _
      obtain ⟨va, vc, hv2⟩ := own_shape' hown8
      rw [hv2]
      have HV2 := hide hv2
      have HF := hide (And.intro hP9 (And.intro u8 (And.intro u89 hvo8)))
      clear hv2 hP9 u8 u89 hvo8 hown8 hown9 hblk8 at8 hcy HN HSRC HP7d
      rw [unhide HY] at c8
      go_wp2_with (first | ((with_reducible apply tp); rfl; rfl; intro _ _ _) | ((with_reducible apply tr); rfl; intro _ _) | ((with_reducible apply te); rfl; intro _ _) | (with_reducible rfl) | (with_reducible apply tn) | ((with_reducible apply wp_txt); kernel_rfl; decide +kernel))
      go_ret
      have hbd : (true || decide (n ≠ 0)) = true := by simp [hn]
      rw [← unhide HV2, hbd]
      obtain ⟨hP9, u8, u89, hvo8⟩ := unhide HF
      have hS1 := unhide H1
      have u4 := unhide U4
      have s67 := (unhide HU67).size
      have s8 : w7.heap.size ≤ w8.heap.size := u8.size
      have s89 := u89.size
      have hle := unhide HLE
      have uall : Upd S w (w8.setCell ⟨p, 2, none⟩ v2) := ((((u4.mono (fun k _ e => hS1 k (by simp [e]))).trans ((unhide U46).mono (fun k _ e => hS1 k (by simp [e])))).trans ((unhide HU67).mono (fun k _ e => hS1 k (by simp [e])))).trans ((((Upd.refl S w7).drew)).trans (u8.mono (fun k _ e => hS1 k (by simp [e]))))).trans (u89.mono (fun k _ e => hS1 k (by simp [e])))
      have hP9v : ∀ k, (v'.ownBlock = some k ∨ v2.ownBlock = some k) → k < (w8.setCell ⟨p, 2, none⟩ v2).heap.size := fun k hk => by
        rcases hk with hk | hk
        · exact (hP9.offB k hk).lt
        · exact (hP9.offA k hk).lt
      refine ⟨rfl, ⟨gA, gB, SA, (Fr SB w4.drew w6), v2, v', hP9, ?_, ?_⟩, uall⟩
      · rintro k (hk | hk | hk | hk | hk)
        · exact .inl (hS1 k (by simp [hk]))
        · rcases hk with hk | hk
          · exact .inl (hS1 k (by simp [hk]))
          · exact .inr ⟨by have := hk.1; have e : w4.drew.heap.size = w4.heap.size := rfl; omega, by omega⟩
        · exact .inl (hS1 k (by simp [hk]))
        · rcases hvo8 k hk with e | e
          · exact .inl (hS1 k (by simp [e]))
          · exact .inr ⟨by omega, (hP9v k (.inr hk))⟩
        · exact .inr ⟨by have := unhide HVO k hk; omega, (hP9v k (.inl hk))⟩
      · rintro k (hk | hk)
        · have := unhide H2 k hk
          exact ⟨this.1, by omega⟩
        · exact ⟨by omega, hk.2⟩
  · cases bad
    · go_upto_region 7 with (first | ((with_reducible apply tp); rfl; rfl; intro _ _ _) | ((with_reducible apply tr); rfl; intro _ _) | ((with_reducible apply te); rfl; intro _ _) | (with_reducible rfl) | (with_reducible apply tn) | ((with_reducible apply wp_txt); kernel_rfl; decide +kernel))
      rw [show (n != 0) = true by simp [hn]]
      have hP7 := (unhide HP6).putBad true
      have U67 : Upd (· = p) w6 (w6.setCell ⟨p, 4, none⟩ (.bool true)) := (Upd.refl _ _).set1 4 _
      have hv7 := row_upd' (unhide HV6) U67 (fun k hk e => unhide HNE (e ▸ hk))
      generalize w6.setCell ⟨p, 4, none⟩ (.bool true) = w7 at hP7 U67 hv7 ⊢
      have hP7d := hP7.new ((Upd.refl (fun _ => False) w7).drew)
      have hcy : w7.cell? ⟨p, 2, none⟩ = some ua := blk_cell hP7.at_ 2
      obtain ⟨ya, yc, hy⟩ := own_shape' hP7.rowA
      rw [hy] at hcy
      have hrow := hP7d.rowA
      rw [hy] at hrow
      have HN := hide hrow
      have HSRC := hide (src_row (w := w7.drew) (fun l hl => (hls l hl).len) hv7)
      have hle7 : w0.heap.size ≤ w7.drew.heap.size := hP7d.two.n.size
      have HP7d := hide hP7d
      have HY := hide hy
      have HU67 := hide U67
      clear c4 f4 hP7 hP7d U67 hv7 hrow hy
      go_wp2_with (first | (at_builtin; refine append_msgs rfl (.tmp 69) (.tmp 70) rfl w0.heap.size _ wa.length _ rfl (unhide HN) ls hls _ rfl (unhide HSRC) ?c3 hle7 ?_) | ((with_reducible apply tp); rfl; rfl; intro _ _ _) | ((with_reducible apply tr); rfl; intro _ _) | ((with_reducible apply te); rfl; intro _ _) | (with_reducible rfl) | (with_reducible apply tn) | ((with_reducible apply wp_txt); kernel_rfl; decide +kernel))
      case c3 => exact hfew.2
      intro v2 w8 hown8 u8 hblk8
      rw [← unhide HY] at u8 hblk8
      have hown9 : w8.ownsRow w0.heap.size 30 38 v2 (wa ++ ls).length ((wa ++ ls).flatMap MsgV.cells) := by
        rw [List.length_append, List.flatMap_append]
        exact hown8
      have hvo8 : ∀ k, v2.ownBlock = some k → ua.ownBlock = some k ∨ w7.heap.size ≤ k := fun k hk => by
        rcases hblk8 with e | e
        · exact .inl (e ▸ hk)
        · rw [e] at hk
          injection hk with hk
          exact .inr (Nat.le_of_eq hk)
      have hP9 := (unhide HP7d).putA u8 hown9 hvo8 (fun l hl => by
        rcases List.mem_append.1 hl with e | e
        · exact (unhide HP7d).okA l e
        · exact hls l e)
      have hpN : ¬ (ua.ownBlock = some p) := fun e => by
        obtain ⟨cur, hc⟩ := own_blk' (unhide HP7d).rowA p e
        exact apart_ty' (unhide HP7d).at_ hc (by decide) rfl
      have at8 := u8.old (unhide HP7d).at_ hpN
      have c8 : w8.cell? ⟨p, 2, none⟩ = some ua := blk_cell at8 2
      have f8 : w8.frozen? ⟨p, 2, none⟩ = false := blk_free at8 2
      have u89 : Upd (· = p) w8 (w8.setCell ⟨p, 2, none⟩ v2) := (Upd.refl _ _).set1 2 _
      obtain ⟨va, vc, hv2⟩ := own_shape' hown8
      rw [hv2]
      have HV2 := hide hv2
      have HF := hide (And.intro hP9 (And.intro u8 (And.intro u89 hvo8)))
      clear hv2 hP9 u8 u89 hvo8 hown8 hown9 hblk8 at8 hcy HN HSRC HP7d
      rw [unhide HY] at c8
      go_wp2_with (first | ((with_reducible apply tp); rfl; rfl; intro _ _ _) | ((with_reducible apply tr); rfl; intro _ _) | ((with_reducible apply te); rfl; intro _ _) | (with_reducible rfl) | (with_reducible apply tn) | ((with_reducible apply wp_txt); kernel_rfl; decide +kernel))
      go_ret
      have hbd : (false || decide (n ≠ 0)) = true := by simp [hn]
      rw [← unhide HV2, hbd]
      obtain ⟨hP9, u8, u89, hvo8⟩ := unhide HF
      have hS1 := unhide H1
      have u4 := unhide U4
      have s67 := (unhide HU67).size
      have s8 : w7.heap.size ≤ w8.heap.size := u8.size
      have s89 := u89.size
      have hle := unhide HLE
      have uall : Upd S w (w8.setCell ⟨p, 2, none⟩ v2) := ((((u4.mono (fun k _ e => hS1 k (by simp [e]))).trans ((unhide U46).mono (fun k _ e => hS1 k (by simp [e])))).trans ((unhide HU67).mono (fun k _ e => hS1 k (by simp [e])))).trans ((((Upd.refl S w7).drew)).trans (u8.mono (fun k _ e => hS1 k (by simp [e]))))).trans (u89.mono (fun k _ e => hS1 k (by simp [e])))
      have hP9v : ∀ k, (v'.ownBlock = some k ∨ v2.ownBlock = some k) → k < (w8.setCell ⟨p, 2, none⟩ v2).heap.size := fun k hk => by
        rcases hk with hk | hk
        · exact (hP9.offB k hk).lt
        · exact (hP9.offA k hk).lt
      refine ⟨rfl, ⟨gA, gB, SA, (Fr SB w4.drew w6), v2, v', hP9, ?_, ?_⟩, uall⟩
      · rintro k (hk | hk | hk | hk | hk)
        · exact .inl (hS1 k (by simp [hk]))
        · rcases hk with hk | hk
          · exact .inl (hS1 k (by simp [hk]))
          · exact .inr ⟨by have := hk.1; have e : w4.drew.heap.size = w4.heap.size := rfl; omega, by omega⟩
        · exact .inl (hS1 k (by simp [hk]))
        · rcases hvo8 k hk with e | e
          · exact .inl (hS1 k (by simp [e]))
          · exact .inr ⟨by omega, (hP9v k (.inr hk))⟩
        · exact .inr ⟨by have := unhide HVO k hk; omega, (hP9v k (.inl hk))⟩
      · rintro k (hk | hk)
        · have := unhide H2 k hk
          exact ⟨this.1, by omega⟩
        · exact ⟨by omega, hk.2⟩
    · go_upto_region 7 with (first | ((with_reducible apply tp); rfl; rfl; intro _ _ _) | ((with_reducible apply tr); rfl; intro _ _) | ((with_reducible apply te); rfl; intro _ _) | (with_reducible rfl) | (with_reducible apply tn) | ((with_reducible apply wp_txt); kernel_rfl; decide +kernel))
      
      have hP7 := (unhide HP6).putBad true
      have U67 : Upd (· = p) w6 (w6.setCell ⟨p, 4, none⟩ (.bool true)) := (Upd.refl _ _).set1 4 _
      have hv7 := row_upd' (unhide HV6) U67 (fun k hk e => unhide HNE (e ▸ hk))
      generalize w6.setCell ⟨p, 4, none⟩ (.bool true) = w7 at hP7 U67 hv7 ⊢
      have hP7d := hP7.new ((Upd.refl (fun _ => False) w7).drew)
      have hcy : w7.cell? ⟨p, 2, none⟩ = some ua := blk_cell hP7.at_ 2
      obtain ⟨ya, yc, hy⟩ := own_shape' hP7.rowA
      rw [hy] at hcy
      have hrow := hP7d.rowA
      rw [hy] at hrow
      have HN := hide hrow
      have HSRC := hide (src_row (w := w7.drew) (fun l hl => (hls l hl).len) hv7)
      have hle7 : w0.heap.size ≤ w7.drew.heap.size := hP7d.two.n.size
      have HP7d := hide hP7d
      have HY := hide hy
      have HU67 := hide U67
      clear c4 f4 hP7 hP7d U67 hv7 hrow hy
      go_wp2_with (first | (at_builtin; refine append_msgs rfl (.tmp 69) (.tmp 70) rfl w0.heap.size _ wa.length _ rfl (unhide HN) ls hls _ rfl (unhide HSRC) ?c3 hle7 ?_) | ((with_reducible apply tp); rfl; rfl; intro _ _ _) | ((with_reducible apply tr); rfl; intro _ _) | ((with_reducible apply te); rfl; intro _ _) | (with_reducible rfl) | (with_reducible apply tn) | ((with_reducible apply wp_txt); kernel_rfl; decide +kernel))
      case c3 => exact hfew.2
      intro v2 w8 hown8 u8 hblk8
      rw [← unhide HY] at u8 hblk8
      have hown9 : w8.ownsRow w0.heap.size 30 38 v2 (wa ++ ls).length ((wa ++ ls).flatMap MsgV.cells) := by
        rw [List.length_append, List.flatMap_append]
        exact hown8
      have hvo8 : ∀ k, v2.ownBlock = some k → ua.ownBlock = some k ∨ w7.heap.size ≤ k := fun k hk => by
        rcases hblk8 with e | e
        · exact .inl (e ▸ hk)
        · rw [e] at hk
          injection hk with hk
          exact .inr (Nat.le_of_eq hk)
      have hP9 := (unhide HP7d).putA u8 hown9 hvo8 (fun l hl => by
        rcases List.mem_append.1 hl with e | e
        · exact (unhide HP7d).okA l e
        · exact hls l e)
      have hpN : ¬ (ua.ownBlock = some p) := fun e => by
        obtain ⟨cur, hc⟩ := own_blk' (unhide HP7d).rowA p e
        exact apart_ty' (unhide HP7d).at_ hc (by decide) rfl
      have at8 := u8.old (unhide HP7d).at_ hpN
      have c8 : w8.cell? ⟨p, 2, none⟩ = some ua := blk_cell at8 2
      have f8 : w8.frozen? ⟨p, 2, none⟩ = false := blk_free at8 2
      have u89 : Upd (· = p) w8 (w8.setCell ⟨p, 2, none⟩ v2) := (Upd.refl _ _).set1 2 _
      obtain ⟨va, vc, hv2⟩ := own_shape' hown8
      rw [hv2]
      have HV2 := hide hv2
      have HF := hide (And.intro hP9 (And.intro u8 (And.intro u89 hvo8)))
      clear hv2 hP9 u8 u89 hvo8 hown8 hown9 hblk8 at8 hcy HN HSRC HP7d
      rw [unhide HY] at c8
      go_wp2_with (first | ((with_reducible apply tp); rfl; rfl; intro _ _ _) | ((with_reducible apply tr); rfl; intro _ _) | ((with_reducible apply te); rfl; intro _ _) | (with_reducible rfl) | (with_reducible apply tn) | ((with_reducible apply wp_txt); kernel_rfl; decide +kernel))
      go_ret
      have hbd : (true || decide (n ≠ 0)) = true := by simp [hn]
      rw [← unhide HV2, hbd]
      obtain ⟨hP9, u8, u89, hvo8⟩ := unhide HF
      have hS1 := unhide H1
      have u4 := unhide U4
      have s67 := (unhide HU67).size
      have s8 : w7.heap.size ≤ w8.heap.size := u8.size
      have s89 := u89.size
      have hle := unhide HLE
      have uall : Upd S w (w8.setCell ⟨p, 2, none⟩ v2) := ((((u4.mono (fun k _ e => hS1 k (by simp [e]))).trans ((unhide U46).mono (fun k _ e => hS1 k (by simp [e])))).trans ((unhide HU67).mono (fun k _ e => hS1 k (by simp [e])))).trans ((((Upd.refl S w7).drew)).trans (u8.mono (fun k _ e => hS1 k (by simp [e]))))).trans (u89.mono (fun k _ e => hS1 k (by simp [e])))
      have hP9v : ∀ k, (v'.ownBlock = some k ∨ v2.ownBlock = some k) → k < (w8.setCell ⟨p, 2, none⟩ v2).heap.size := fun k hk => by
        rcases hk with hk | hk
        · exact (hP9.offB k hk).lt
        · exact (hP9.offA k hk).lt
      refine ⟨rfl, ⟨gA, gB, SA, (Fr SB w4.drew w6), v2, v', hP9, ?_, ?_⟩, uall⟩
      · rintro k (hk | hk | hk | hk | hk)
        · exact .inl (hS1 k (by simp [hk]))
        · rcases hk with hk | hk
          · exact .inl (hS1 k (by simp [hk]))
          · exact .inr ⟨by have := hk.1; have e : w4.drew.heap.size = w4.heap.size := rfl; omega, by omega⟩
        · exact .inl (hS1 k (by simp [hk]))
        · rcases hvo8 k hk with e | e
          · exact .inl (hS1 k (by simp [e]))
          · exact .inr ⟨by omega, (hP9v k (.inr hk))⟩
        · exact .inr ⟨by have := unhide HVO k hk; omega, (hP9v k (.inl hk))⟩
      · rintro k (hk | hk)
        · have := unhide H2 k hk
          exact ⟨this.1, by omega⟩
        · exact ⟨by omega, hk.2⟩

end Go.Proofs.YtjpmomdechibmaaGreatDoor
