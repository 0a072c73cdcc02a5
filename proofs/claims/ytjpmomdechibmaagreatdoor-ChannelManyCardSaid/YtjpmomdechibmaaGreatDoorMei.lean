/-
  Law 13: 'shown' is true.
-/
import Derived.Test.YtjpmomdechibmaaGreatDoorShwP
namespace Go.Proofs.YtjpmomdechibmaaGreatDoor
set_option linter.unusedVariables false
set_option linter.unusedSimpArgs false
open Go.RowKit

attribute [local go_sem ↓ high] ld_hsh_fold st_hsh_fold al_hsh_fold bd_hsh_fold ld_msg_fold st_msg_fold al_msg_fold bd_msg_fold bd_set_fold bd_st2_fold st_st2_fold al_st2_fold ld_setup_fold
attribute [local go_sem] ld_hsh st_hsh al_hsh bd_hsh rowN_drew ld_msg st_msg al_msg st_st2 al_st2 ld_setup fld_base0 fld_base1

set_option maxRecDepth 100000 in
set_option maxHeartbeats 2000000 in
theorem shown_any (w : World) (hT : Tb w) : Calls Tryz.prog 12 #[] w (Makes (.bool true) w) := by
  have hok1 : (setA 10 10).Ok := setA_ok ⟨by decide, by decide⟩ ⟨by decide, by decide⟩
  have hok2 : (setB 10 10).Ok := setB_ok ⟨by decide, by decide⟩
  have hm1 : (setA 10 10).may := ⟨by decide, by decide, by decide, by decide, by decide⟩
  have hm2 : (setB 10 10).may := ⟨by decide, by decide, by decide, by decide, by decide⟩
  obtain ⟨hv, hvd⟩ : ∃ hv : Vector Int 32, hv = hvec (ofI (preI 0)) := ⟨_, rfl⟩
  have hOl : (ofI (preI 0)).length = 32 := sumI_len _
  have hOb : Bytes (ofI (preI 0)) := sumI_bytes _
  have hvl : hv.toList.length = 32 := by simp
  have hve : hv.toList = ofI (preI 0) := by rw [hvd]; exact hvec_list hOl
  have hvb : Bytes hv.toList := by rw [hve]; exact hOb
  have HVD := hide hvd
  clear hvd
  go_enter Tryz.func12, Tryz.ntmps12
  go_wp2_with fail
  refine (setups_any 10 10 w).mono ?_
  rintro e w1 ⟨rfl, n1⟩
  obtain ⟨hst, hF⟩ := st2_fresh (blk_alloc w1 (.cells zSt2.toArray 82)) (s := setA 10 10) (t := setB 10 10) rfl rfl
  have hT1 : w.heap.size ≤ w1.heap.size := n1.size
  have n2 : New w ((w1.alloc (.cells zSt2.toArray 82)).setCells w1.heap.size 0 (sets2 (setA 10 10) (setB 10 10))) := (n1.alloc _).then (upd_sets _) (fun i hi e => by omega)
  generalize hsA : setA 10 10 = sA at *
  generalize hsB : setB 10 10 = sB at *
  clear n1
  go_upto_region 2 with fail
  generalize (w1.alloc (.cells zSt2.toArray 82)).setCells w1.heap.size 0 (sets2 sA sB) = w2 at hF n2 ⊢
  generalize w1.heap.size = T at hF hT1 ⊢
  clear hst w1
  have r0 := hF.row0
  have HF := hide hF
  have N2 := hide n2
  clear hF n2
  go_wp2_with fail
  refine (newC_any sA hok1 w2).mono ?_
  rintro e w3 (⟨-, gA, rfl, hgA, hcA, n3⟩ | ⟨hn, -⟩)
  case inr => exact absurd hm1 hn
  have r1 := ((unhide HF).new n3).row1
  have HA3 := hide (chS_new hcA hok1 hm1)
  have N3 := hide n3
  clear r0 hcA n3
  go_wp2_with fail
  refine (newC_any sB hok2 w3).mono ?_
  rintro e w4 (⟨-, gB, rfl, hgB, hcB, n4⟩ | ⟨hn, -⟩)
  case inr => exact absurd hm2 hn
  have hz2 := (unhide N2).size
  have hz3 := (unhide N3).size
  have hAlt := (unhide HA3).lt gA rfl
  have h4 : Two w w4 gA gB (· = gA) (· = gB) a0 b0 := by
    refine ⟨?_, ?_, fun k hk => by omega, fun k hk => by omega, fun k hk hb => by omega, ((unhide N2).trans (unhide N3)).trans n4⟩
    · have := (unhide HA3).new n4
      rw [← hsA] at this
      exact this
    · have := chS_new hcB hok2 hm2
      rw [← hsB] at this
      exact this
  clear r1 hcB n4 HA3 N2 N3 HF hok1 hok2 hm1 hm2
  go_wp2_with fail
  refine (preimage_any 0 ⟨by decide, by decide⟩ w4).mono ?_
  rintro e w5 ⟨rfl, n5⟩
  go_wp2_with fail
  refine (refOf_any (preI 0) (preI_len 0) w5).mono ?_
  rintro e w6 ⟨rfl, n6⟩
  have h6 := h4.new (n5.trans n6)
  have hoff := offerH_any gA (· = gA) a0 4 (ofI (preI 0)) 9 w6 h6.A hOl hOb ⟨by decide, by decide⟩ ⟨by decide, by decide⟩ ⟨by decide, by decide⟩
  rw [← unhide HVD, off_eq] at hoff
  clear h4 n5 n6
  go_wp2_with fail
  refine hoff.mono ?_
  rintro e w7 ⟨rfl, hc7, u7⟩
  have h7 := h6.opA hc7 u7
  clear hoff hc7 h6
  have ok1 : MsgOk ⟨3, 7, 0, 4, hv.toList, 9, 0⟩ := msg_ok ⟨by decide, by decide⟩ ⟨by decide, by decide⟩ ⟨by decide, by decide⟩ ⟨by decide, by decide⟩ hvl hvb ⟨by decide, by decide⟩ ⟨by decide, by decide⟩
  have hh1 := hear1_eq hv
  rw [m1_eq] at hh1
  have hy1 := may1 hv
  generalize hM1 : (⟨3, 7, 0, 4, hv.toList, 9, 0⟩ : MsgV) = M1 at *
  have hM1c : M1.ch = 7 ∧ M1.kind = 3 := by rw [← hM1]; exact ⟨rfl, rfl⟩
  obtain ⟨hst, hK1, nK1⟩ := ms_fresh w7 M1 ok1.len
  have h8 := h7.new nK1
  go_upto_region 7 with fail
  change Code.wp _ _ _ _ (msNew w7 M1)
  generalize msNew w7 M1 = w8 at hK1 h8 ⊢
  generalize w7.heap.size = K1 at hK1 ⊢
  have rK1 := hK1.row
  have hadd := hear_add gB _ b0 M1 ok1 w8 h8.B hy1 (hM1c.1.trans (more_at hv).2.1.symm) hM1c.2 (by rw [(more_at hv).2.2.2.2.2.2.2]; decide)
  rw [hh1] at hadd
  clear hst hK1 nK1 h7 hh1
  go_wp2_with fail
  refine hadd.mono ?_
  rintro e w9 ⟨v9, rfl, -, hc9, u9⟩
  have h9 := h8.opB hc9 u9
  have hsg := sign_any gA _ (a1 hv) w9 h9.A (hT.new h9.n) (h9.apA hT) (by rw [(more_at hv).2.2.2.1]; decide) (by rw [(more_at hv).2.2.1]; exact ⟨by decide, by decide⟩) (by rw [(more_at hv).2.2.2.2.1]; decide)
  rw [sign_eq] at hsg
  clear hadd hc9 u9 h8 rK1 hy1 ok1 hM1c hM1
  go_wp2_with fail
  refine hsg.mono ?_
  rintro e w10 ⟨rfl, hc10, u10⟩
  have h10 := h9.opA hc10 u10
  clear hsg hc10 u10 h9
  have ok2 : MsgOk ⟨6, 7, 0, 0, tag2 hv, 0, 1⟩ := msg_ok ⟨by decide, by decide⟩ ⟨by decide, by decide⟩ ⟨by decide, by decide⟩ ⟨by decide, by decide⟩ (tag2_len hv) (tag2_bytes hv) ⟨by decide, by decide⟩ ⟨by decide, by decide⟩
  have hh2 := hearSign_eq hv hvl
  have hy2 := may2 (tag2 hv)
  generalize hM2 : (⟨6, 7, 0, 0, tag2 hv, 0, 1⟩ : MsgV) = M2 at *
  have hM2c : M2.ch = 7 ∧ M2.kind = 6 := by rw [← hM2]; exact ⟨rfl, rfl⟩
  obtain ⟨hst, hK2, nK2⟩ := ms_fresh w10 M2 ok2.len
  have h11 := h10.new nK2
  go_upto_region 9 with fail
  change Code.wp _ _ _ _ (msNew w10 M2)
  generalize msNew w10 M2 = w11 at hK2 h11 ⊢
  generalize w10.heap.size = K2 at hK2 ⊢
  have rK2 := hK2.row
  obtain ⟨p1, p2, p3, p4, p5⟩ := b1_at hv
  have hsn := hear_sign gB _ (b1 hv) M2 ok2 w11 h11.B hy2 (hM2c.1.trans p2.symm) hM2c.2 (hT.new h11.n) (h11.apB hT) (by rw [p1]; decide) (by rw [p2]; exact ⟨by decide, by decide⟩) (by rw [p5]; decide)
  rw [hh2, rev_eq, secret_form] at hsn
  clear hst hK2 nK2 h10 hh2
  go_wp2_with fail
  refine hsn.mono ?_
  rintro e w12 ⟨v12, rfl, hs12, hc12, u12⟩
  have h12 := h11.opB hc12 u12
  clear hsn hc12 u12 rK2 hy2 ok2 hM2c hM2 p1 p2 p3 p4 p5
  have hCl : (chainI (seedI 2) 65535 16).length = 32 := chainI_len _ rfl _ _
  have hCb : Bytes (chainI (seedI 2) 65535 16) := chainI_bytes _ (seedI_bytes 2 ⟨by decide, by decide⟩) _ _
  have hrv := hearRev_eq hv
  generalize chainI (seedI 2) 65535 16 = C at *
  have ok3 : MsgOk ⟨7, 7, 0, 0, C, 0, 0⟩ := msg_ok ⟨by decide, by decide⟩ ⟨by decide, by decide⟩ ⟨by decide, by decide⟩ ⟨by decide, by decide⟩ hCl hCb ⟨by decide, by decide⟩ ⟨by decide, by decide⟩
  have hy3 := may3 C
  generalize hM3 : (⟨7, 7, 0, 0, C, 0, 0⟩ : MsgV) = M3 at *
  have hM3c : M3.ch = 7 ∧ M3.kind = 7 := by rw [← hM3]; exact ⟨rfl, rfl⟩
  obtain ⟨g5, cap5, rfl, -, r5, -⟩ := hs12.row0 ok3.len
  have hrk := hear_revoke gA _ (a2 hv) M3 ok3 w12 h12.A hy3 (hM3c.1.trans (a2_at hv).2.2.2.symm) hM3c.2 (a2_shelf hv) (hT.new h12.n) (h12.apA hT)
  rw [hrv] at hrk
  clear hs12 h11 hrv
  go_wp2_with fail
  refine hrk.mono ?_
  rintro e w13 ⟨v13, rfl, -, hc13, u13⟩
  have h13 := h12.opA hc13 u13
  clear hrk hc13 u13 h12 r5 hM3 hM3c hy3 ok3 hCl hCb
  obtain ⟨q1, q2⟩ := a3_at hv
  have hlv := liveS_any gA _ (a3 hv) w13 h13.A
  rw [q2] at hlv
  have hbs := fun W (n : New w13 W) => baseS_any gA _ (a3 hv) W (h13.A.new n)
  rw [q1] at hbs
  go_wp2_with fail
  refine hlv.mono ?_
  rintro e w14 ⟨u, rfl, n14, hu⟩
  rcases hu with ⟨a, k, -, he⟩ | ⟨g6, cap6, rfl, hg6, hh⟩
  · cases he
  have r6 := hh.row (i := 0) rfl
  have d36 : w14.cell? ⟨g6, 36, none⟩ = some (.int .i64 2) := by
    have := (rowN_cell r6).2 36 (by omega)
    rw [List.getElem?_toArray, live_36] at this
    exact this
  have hbs14 := hbs w14 n14
  have hN := h13.n.trans n14
  clear hlv hbs r6 hh h13 n14
  go_wp2_with (first | ((with_reducible apply tp); rfl; rfl; intro _ _ _) | ((with_reducible apply tr); rfl; intro _ _) | ((with_reducible apply te); rfl; intro _ _) | (with_reducible rfl) | (with_reducible apply tn) | ((with_reducible apply wp_txt); kernel_rfl; decide +kernel))
  refine hbs14.mono ?_
  rintro e w15 ⟨rfl, n15⟩
  have hN15 := hN.trans n15
  clear hbs14 hN n15
  go_wp2_with (first | ((with_reducible apply tp); rfl; rfl; intro _ _ _) | ((with_reducible apply tr); rfl; intro _ _) | ((with_reducible apply te); rfl; intro _ _) | (with_reducible rfl) | (with_reducible apply tn) | ((with_reducible apply wp_txt); kernel_rfl; decide +kernel))
  go_ret
  exact ⟨rfl, hN15⟩

end Go.Proofs.YtjpmomdechibmaaGreatDoor

/-
  Law 13: the pair of ends; begin.
-/
namespace Go.Proofs.YtjpmomdechibmaaGreatDoor
set_option linter.unusedVariables false
set_option linter.unusedSimpArgs false
open Go.RowKit

def prC (gA gB : Nat) (ua ub : Value) (bad : Bool) : List Value := [.pointer (some ⟨gA, 0, none⟩), .pointer (some ⟨gB, 0, none⟩), ua, ub, .bool bad]
/-- Two ends, and messages on their ways, in block p. -/
structure PrP (w0 w : World) (p gA gB : Nat) (SA SB : Nat → Prop) (a b : Ch) (wa wb : List MsgV) (ua ub : Value) (bad : Bool) : Prop where
  two : Two w0 w gA gB SA SB a b
  at_ : w.heap[p]? = some (.cells (prC gA gB ua ub bad).toArray 38 (0, 0))
  off : Off w SA SB p
  ge : w0.heap.size ≤ p
  rowA : w.ownsRow w0.heap.size 30 38 ua wa.length (wa.flatMap MsgV.cells)
  rowB : w.ownsRow w0.heap.size 30 38 ub wb.length (wb.flatMap MsgV.cells)
  offA : ∀ k, ua.ownBlock = some k → Off w SA SB k
  offB : ∀ k, ub.ownBlock = some k → Off w SA SB k
  sep : ∀ k, ua.ownBlock = some k → ub.ownBlock ≠ some k
  okA : ∀ m ∈ wa, MsgOk m
  okB : ∀ m ∈ wb, MsgOk m
section
variable {w0 w w' : World} {p gA gB : Nat} {SA SB : Nat → Prop} {a b a' b' : Ch} {wa wb : List MsgV} {ua ub : Value} {bad : Bool}
theorem PrP.new (h : PrP w0 w p gA gB SA SB a b wa wb ua ub bad) (u : New w w') : PrP w0 w' p gA gB SA SB a b wa wb ua ub bad :=
  ⟨h.two.new u, u.old h.at_ (fun h => h), h.off.new u.size, h.ge, row_upd' h.rowA u (fun _ _ h => h), row_upd' h.rowB u (fun _ _ h => h), fun k hk => (h.offA k hk).new u.size, fun k hk => (h.offB k hk).new u.size, h.sep, h.okA, h.okB⟩
theorem PrP.opA (h : PrP w0 w p gA gB SA SB a b wa wb ua ub bad) (hc : ChS w' gA (Fr SA w w') a') (u : Upd SA w w') : PrP w0 w' p gA gB (Fr SA w w') SB a' b wa wb ua ub bad :=
  ⟨h.two.opA hc u, u.old h.at_ h.off.a, h.off.opA u, h.ge, row_upd' h.rowA u (fun k hk => (h.offA k hk).a), row_upd' h.rowB u (fun k hk => (h.offB k hk).a), fun k hk => (h.offA k hk).opA u, fun k hk => (h.offB k hk).opA u, h.sep, h.okA, h.okB⟩
theorem PrP.opB (h : PrP w0 w p gA gB SA SB a b wa wb ua ub bad) (hc : ChS w' gB (Fr SB w w') b') (u : Upd SB w w') : PrP w0 w' p gA gB SA (Fr SB w w') a b' wa wb ua ub bad :=
  ⟨h.two.opB hc u, u.old h.at_ h.off.b, h.off.opB u, h.ge, row_upd' h.rowA u (fun k hk => (h.offA k hk).b), row_upd' h.rowB u (fun k hk => (h.offB k hk).b), fun k hk => (h.offA k hk).opB u, fun k hk => (h.offB k hk).opB u, h.sep, h.okA, h.okB⟩
theorem PrP.cell (h : PrP w0 w p gA gB SA SB a b wa wb ua ub bad) : w.cell? ⟨p, 0, none⟩ = some (.pointer (some ⟨gA, 0, none⟩)) ∧ w.cell? ⟨p, 1, none⟩ = some (.pointer (some ⟨gB, 0, none⟩)) ∧ w.cell? ⟨p, 2, none⟩ = some ua ∧ w.cell? ⟨p, 3, none⟩ = some ub ∧ w.cell? ⟨p, 4, none⟩ = some (.bool bad) :=
  ⟨blk_cell h.at_ 0, blk_cell h.at_ 1, blk_cell h.at_ 2, blk_cell h.at_ 3, blk_cell h.at_ 4⟩
end
theorem setA_may {ours cap : Int} : (setA ours cap).may ↔ 1 ≤ cap ∧ cap ≤ 1125899906842624 ∧ ours ≤ cap := by
  unfold SetupV.may setA
  constructor
  · intro h; exact ⟨h.1, h.2.1, h.2.2.1⟩
  · intro h; exact ⟨h.1, h.2.1, h.2.2, by show 1 ≤ 64; decide, by show 1 ≤ 64; decide⟩
theorem setB_may {ours cap : Int} (ho : 0 ≤ ours) (h : 1 ≤ cap ∧ cap ≤ 1125899906842624 ∧ ours ≤ cap) : (setB ours cap).may := by
  refine ⟨h.1, h.2.1, ?_, by show 1 ≤ 64; decide, by show 1 ≤ 64; decide⟩
  show IntKind.u64.wrap (cap - ours) ≤ cap
  rw [wrapU (by omega) (by omega)]
  omega

attribute [local go_sem ↓ high] st_st2_fold al_st2_fold ld_setup_fold
attribute [local go_sem] rowN_drew st_st2 al_st2 ld_setup
set_option maxRecDepth 100000 in
set_option maxHeartbeats 2000000 in
theorem begin_any (ours cap : Int) (ho : 0 ≤ ours ∧ ours < 18446744073709551616) (hc : 0 ≤ cap ∧ cap < 18446744073709551616) (w : World) :
    Calls Tryz.prog 11 #[.int .u64 ours, .int .u64 cap] w fun e w' =>
      (∃ p gA gB, e = .returned (.pointer (some ⟨p, 0, none⟩)) ∧ (1 ≤ cap ∧ cap ≤ 1125899906842624 ∧ ours ≤ cap) ∧ PrP w w' p gA gB (· = gA) (· = gB) (Ch.new (setA ours cap)) (Ch.new (setB ours cap)) [] [] nilV nilV false) ∨
      (e = .returned (.pointer none) ∧ ¬ (1 ≤ cap ∧ cap ≤ 1125899906842624 ∧ ours ≤ cap) ∧ New w w') := by
  have hokA := setA_ok ho hc
  have hokB := setB_ok (ours := ours) hc
  have hmA := @setA_may ours cap
  have hmB := @setB_may ours cap ho.1
  go_enter Tryz.func11, Tryz.ntmps11
  go_wp2_with fail
  obtain ⟨wp, hwp⟩ : ∃ wp : World, wp = w.alloc (.cells #[.pointer none, .pointer none, .slice none 0 0, .slice none 0 0, .bool false] 38) := ⟨_, rfl⟩
  have hp0 : wp.heap[w.heap.size]? = some (.cells #[.pointer none, .pointer none, .slice none 0 0, .slice none 0 0, .bool false] 38 (0, 0)) := by rw [hwp]; exact blk_alloc _ _
  have np : New w wp := by rw [hwp]; exact (Upd.refl _ _).alloc _
  rw [← hwp]
  clear hwp
  obtain ⟨p, hpe⟩ : ∃ p, p = w.heap.size := ⟨_, rfl⟩
  rw [← hpe] at hp0 ⊢
  have hpl : w.heap.size ≤ p := by omega
  clear hpe
  refine (setups_any ours cap wp).mono ?_
  rintro e w1 ⟨rfl, n1⟩
  obtain ⟨hst, hF⟩ := st2_fresh (blk_alloc w1 (.cells zSt2.toArray 82)) (s := setA ours cap) (t := setB ours cap) rfl rfl
  have n2 : New wp ((w1.alloc (.cells zSt2.toArray 82)).setCells w1.heap.size 0 (sets2 (setA ours cap) (setB ours cap))) := (n1.alloc _).then (upd_sets _) (fun i hi e => by have := n1.size; omega)
  have hpT : p < w1.heap.size := Nat.lt_of_lt_of_le (blk_lt hp0) n1.size
  have hb0 : Ch.new (setA ours cap) = Ch.new (setA ours cap) := rfl
  obtain ⟨sA, hsA⟩ : ∃ sA, sA = setA ours cap := ⟨_, rfl⟩
  obtain ⟨sB, hsB⟩ : ∃ sB, sB = setB ours cap := ⟨_, rfl⟩
  rw [← hsA] at hst hF n2 hokA hmA ⊢
  rw [← hsB] at hst hF n2 hokB hmB ⊢
  have HSA := hide hsA
  have HSB := hide hsB
  clear n1 hb0 hsA hsB
  go_upto_region 3 with fail
  generalize (w1.alloc (.cells zSt2.toArray 82)).setCells w1.heap.size 0 (sets2 sA sB) = w2 at hF n2 ⊢
  generalize w1.heap.size = T at hF hpT ⊢
  clear hst w1
  have hp2 := n2.old hp0 (fun h => h)
  have N2 := hide (np.trans n2)
  have HF := hide hF
  have hTlt : T < w2.heap.size := blk_lt hF.at_
  have hwz := (np.trans n2).size
  clear n2 np hp0 hF
  go_wp2_with fail
  go_loopw [7] (fun iv wr => Upd (· = p) w2 wr ∧ ((iv = .int .i64 0 ∧ wr.heap[p]? = some (.cells #[.pointer none, .pointer none, .slice none 0 0, .slice none 0 0, .bool false] 38 (0, 0))) ∨
    (∃ gA, iv = .int .i64 1 ∧ sA.may ∧ w2.heap.size ≤ gA ∧ Hid (ChS wr gA (· = gA) (Ch.new sA)) ∧ wr.heap[p]? = some (.cells #[.pointer (some ⟨gA, 0, none⟩), .pointer none, .slice none 0 0, .slice none 0 0, .bool false] 38 (0, 0))) ∨
    (∃ gA gB, iv = .int .i64 2 ∧ sA.may ∧ w2.heap.size ≤ gA ∧ gA < gB ∧ Hid (ChS wr gA (· = gA) (Ch.new sA)) ∧ Hid (ChS wr gB (· = gB) (Ch.new sB)) ∧ wr.heap[p]? = some (.cells #[.pointer (some ⟨gA, 0, none⟩), .pointer (some ⟨gB, 0, none⟩), .slice none 0 0, .slice none 0 0, .bool false] 38 (0, 0))))) (fun iv _ => 2 - (intOf iv).toNat)
  case atStart => exact ⟨Upd.refl _ _, .inl ⟨rfl, hp2⟩⟩
  case round =>
    obtain ⟨ur, hrel⟩ := hrel
    obtain ⟨wq, rfl⟩ : ∃ wq : World, wq = wr := ⟨_, rfl⟩
    have hFq := (unhide HF).upd ur (fun e => by omega)
    have hpt : p < w2.heap.size := blk_lt hp2
    rcases hrel with ⟨rfl, hp⟩ | ⟨gA, rfl, hm, hgA, hA, hp⟩ | ⟨gA, gB, rfl, hm, hgA, hgB, hA, hB, hp⟩
    · have r0 := hFq.row0
      have hzq := ur.size
      go_wp2_with (first | ((with_reducible apply tp); rfl; rfl; intro _ _ _) | ((with_reducible apply tr); rfl; intro _ _) | ((with_reducible apply te); rfl; intro _ _) | (with_reducible rfl) | (with_reducible apply tn) | ((with_reducible apply wp_txt); kernel_rfl; decide +kernel))
      refine (newC_any sA hokA wq.drew).mono ?_
      rintro e w3 hw3
      rcases hw3 with ⟨hm, g, rfl, hg, hR, n3⟩ | ⟨hm, rfl, n3⟩
      · have n3 : New wq w3 := n3.ofDrew
        have hp3 := n3.old hp (fun h => h)
        have c0 : w3.cell? ⟨p, 0, none⟩ = some (.pointer none) := blk_cell hp3 0
        have f0 : w3.frozen? ⟨p, 0, none⟩ = false := blk_free hp3 0
        have hput := blk_set hp3 0 (.pointer (some ⟨g, 0, none⟩))
        have u4 := upd_g w3 p 0 (.pointer (some ⟨g, 0, none⟩))
        have hgz : wq.heap.size ≤ g := hg
        have hC := (chS_new hR hokA hm).upd u4 (fun k hk e => by omega)
        have hU := (ur.trans (n3.mono (fun _ _ h => h.elim))).trans u4
        have d0 : (w3.setCell ⟨p, 0, none⟩ (.pointer (some ⟨g, 0, none⟩))).cell? ⟨p, 0, none⟩ = some (.pointer (some ⟨g, 0, none⟩)) := by rw [blk_cell hput]; rfl
        have HC := hide hC
        have HP := hide hput
        have HU := hide hU
        clear r0 hC hput hU hR n3 u4 hp ur hp3 hFq
        go_wp2_with (first | ((with_reducible apply tp); rfl; rfl; intro _ _ _) | ((with_reducible apply tr); rfl; intro _ _) | ((with_reducible apply te); rfl; intro _ _) | (with_reducible rfl) | (with_reducible apply tn) | ((with_reducible apply wp_txt); kernel_rfl; decide +kernel))
        go_roundw
        case rel => exact ⟨unhide HU, .inr (.inl ⟨g, rfl, hm, by omega, HC, unhide HP⟩)⟩
        case measure => decide
      · have n3 : New wq w3 := n3.ofDrew
        have hp3 := n3.old hp (fun h => h)
        have c0 : w3.cell? ⟨p, 0, none⟩ = some (.pointer none) := blk_cell hp3 0
        have f0 : w3.frozen? ⟨p, 0, none⟩ = false := blk_free hp3 0
        have hput := blk_set hp3 0 (.pointer none)
        have u4 := upd_g w3 p 0 (.pointer none)
        have hU := (ur.trans (n3.mono (fun _ _ h => h.elim))).trans u4
        have d0 : (w3.setCell ⟨p, 0, none⟩ (.pointer none)).cell? ⟨p, 0, none⟩ = some (.pointer none) := by rw [blk_cell hput]; rfl
        have HU := hide ((unhide N2).then hU (fun i hi e => by omega))
        clear r0 hput hU n3 u4 hp ur hp3 hFq
        go_wp2_with (first | ((with_reducible apply tp); rfl; rfl; intro _ _ _) | ((with_reducible apply tr); rfl; intro _ _) | ((with_reducible apply te); rfl; intro _ _) | (with_reducible rfl) | (with_reducible apply tn) | ((with_reducible apply wp_txt); kernel_rfl; decide +kernel))
        go_ret
        exact .inr ⟨rfl, fun h => hm (hmA.2 h), unhide HU⟩
    · have hA' := unhide hA
      have r1 := hFq.row1
      have hzq := ur.size
      have hmb := hmB (hmA.1 hm)
      go_wp2_with (first | ((with_reducible apply tp); rfl; rfl; intro _ _ _) | ((with_reducible apply tr); rfl; intro _ _) | ((with_reducible apply te); rfl; intro _ _) | (with_reducible rfl) | (with_reducible apply tn) | ((with_reducible apply wp_txt); kernel_rfl; decide +kernel))
      refine (newC_any sB hokB wq.drew).mono ?_
      rintro e w3 hw3
      rcases hw3 with ⟨-, g, rfl, hg, hR, n3⟩ | ⟨hn, -⟩
      case inr => exact absurd hmb hn
      have n3 : New wq w3 := n3.ofDrew
      have hp3 := n3.old hp (fun h => h)
      have c1 : w3.cell? ⟨p, 1, none⟩ = some (.pointer none) := blk_cell hp3 1
      have f1 : w3.frozen? ⟨p, 1, none⟩ = false := blk_free hp3 1
      have hput := blk_set hp3 1 (.pointer (some ⟨g, 0, none⟩))
      have u4 := upd_g w3 p 1 (.pointer (some ⟨g, 0, none⟩))
      have hgz : wq.heap.size ≤ g := hg
      have hAlt := hA'.lt gA rfl
      have hC := (chS_new hR hokB hmb).upd u4 (fun k hk e => by omega)
      have hA4 := (hA'.new n3).upd u4 (fun k hk e => by omega)
      have hU := (ur.trans (n3.mono (fun _ _ h => h.elim))).trans u4
      have d0 : (w3.setCell ⟨p, 1, none⟩ (.pointer (some ⟨g, 0, none⟩))).cell? ⟨p, 1, none⟩ = some (.pointer (some ⟨g, 0, none⟩)) := by rw [blk_cell hput]; rfl
      have HC := hide hC
      have HA4 := hide hA4
      have HP := hide hput
      have HU := hide hU
      clear r1 hC hput hU hR n3 u4 hp ur hp3 hFq hA4 hA'
      go_wp2_with (first | ((with_reducible apply tp); rfl; rfl; intro _ _ _) | ((with_reducible apply tr); rfl; intro _ _) | ((with_reducible apply te); rfl; intro _ _) | (with_reducible rfl) | (with_reducible apply tn) | ((with_reducible apply wp_txt); kernel_rfl; decide +kernel))
      go_roundw
      case rel => exact ⟨unhide HU, .inr (.inr ⟨gA, g, rfl, hm, hgA, by omega, HA4, HC, unhide HP⟩)⟩
      case measure => decide
    · have hzq := ur.size
      have hfin := (unhide N2).then ur (fun i hi e => by omega)
      go_wp2_with (first | ((with_reducible apply tp); rfl; rfl; intro _ _ _) | ((with_reducible apply tr); rfl; intro _ _) | ((with_reducible apply te); rfl; intro _ _) | (with_reducible rfl) | (with_reducible apply tn) | ((with_reducible apply wp_txt); kernel_rfl; decide +kernel))
      go_ret
      have hB' := unhide hB
      have hA' := unhide hA
      have hpq := blk_lt hp
      refine .inl ⟨p, gA, gB, rfl, hmA.1 hm, ⟨⟨?_, ?_, fun k hk => by omega, fun k hk => by omega, fun k hk hb => by omega, hfin⟩, hp, ⟨hpq, fun e => by omega, fun e => by omega⟩, hpl, World.ownsRow_nil _ _ _ _, World.ownsRow_nil _ _ _ _, ?_, ?_, ?_, ?_, ?_⟩⟩
      · rw [← unhide HSA]; exact hA'
      · rw [← unhide HSB]; exact hB'
      · intro k hk; simp [nilV, Value.ownBlock] at hk
      · intro k hk; simp [nilV, Value.ownBlock] at hk
      · intro k hk; simp [nilV, Value.ownBlock] at hk
      · intro m hm; cases hm
      · intro m hm; cases hm

end Go.Proofs.YtjpmomdechibmaaGreatDoor
