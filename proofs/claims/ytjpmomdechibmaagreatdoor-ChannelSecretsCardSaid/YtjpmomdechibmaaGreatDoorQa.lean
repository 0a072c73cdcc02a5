/-
  Law 13: what 'shown' comes to, in plain values.
-/
import Derived.Test.YtjpmomdechibmaaGreatDoorMeg
namespace Go.Proofs.YtjpmomdechibmaaGreatDoor
set_option linter.unusedVariables false
set_option linter.unusedSimpArgs false
open Go.RowKit

theorem signMsg_of {c : Ch} {l r n : Int} {xs : List Live} {key : ByteArray} {ch : Int} (e1 : c.signing.loc = l) (e2 : c.signing.rem = r) (e3 : c.signing.xs = xs) (e4 : c.k.signed = n) (e5 : c.s.key = key) (e6 : c.s.ch = ch) : signMsg c = ⟨6, 0, 0, 0, viewTag false key ch (n + 1) l r xs, 0, n + 1⟩ := by
  unfold signMsg
  rw [e1, e2, e3, e4, e5, e6]
theorem on_of {m : MsgV} {k i a : Int} {h : List Int} {e n : Int} (ch : Int) (hm : m = ⟨k, 0, i, a, h, e, n⟩) : m.on ch = ⟨k, ch, i, a, h, e, n⟩ := by subst hm; rfl
theorem sign_good {c : Ch} (h : signErr c = 0) : c.sign = ((c.signing.say (signMsg c)).turned, (signMsg c).on c.s.ch, 0) := by unfold Ch.sign; rw [if_pos h]
theorem hearSign_good {c : Ch} {m : MsgV} (h1 : changesB 3 c.xs = true) (h2 : m.number = c.k.heard + 1) (h3 : hsgErr c m = false) : c.hearSign m = (c.signedBy, [c.signedBy.revocation], 0) := by
  have h : hearSignErr c m = 0 := by
    unfold hearSignErr
    rw [h1, h3, if_neg (by decide), if_neg (fun h => h h2), if_neg (by decide)]
  unfold Ch.hearSign
  rw [if_pos h]
theorem msg_ok {k ch i a e n : Int} {h : List Int} (hk : 0 ≤ k ∧ k ≤ 9) (hc : 0 ≤ ch ∧ ch < 4294967296) (hi : 0 ≤ i ∧ i < 18446744073709551616) (ha : 0 ≤ a ∧ a < 18446744073709551616) (hl : h.length = 32) (hb : Bytes h) (he : 0 ≤ e ∧ e ≤ 2147483648) (hn : 0 ≤ n ∧ n ≤ 65536) : MsgOk ⟨k, ch, i, a, h, e, n⟩ :=
  ⟨⟨by show _ ≤ k; omega, by show k ≤ _; omega⟩, hc, hi, ha, hl, hb, ⟨by show _ ≤ e; omega, by show e ≤ _; omega⟩, ⟨by show _ ≤ n; omega, by show n ≤ _; omega⟩⟩
def a0 : Ch := Ch.new (setA 10 10)
def b0 : Ch := Ch.new (setB 10 10)
section
variable (hv : Vector Int 32)
def a1 : Ch := (a0.offer 4 hv 9).1
def m1 : MsgV := (a0.offer 4 hv 9).2.1
theorem off_eq : a0.offer 4 hv 9 = (a1 hv, ⟨3, 7, 0, 4, hv.toList, 9, 0⟩, 0) := by kernel_rfl
theorem m1_eq : m1 hv = ⟨3, 7, 0, 4, hv.toList, 9, 0⟩ := by kernel_rfl
theorem a1_xs : (a1 hv).xs = [⟨⟨0, 4, hv, 9⟩, true, 0, false⟩] := by kernel_rfl
def b1 : Ch := (b0.hearAdd (m1 hv)).1
theorem hear1_eq : b0.hearAdd (m1 hv) = (b1 hv, 0) := by kernel_rfl
theorem b1_xs (hl : hv.toList.length = 32) : (b1 hv).xs = [⟨⟨0, 4, hv, 9⟩, false, 0, false⟩] := by
  have e : hvec hv.toList = hv := by
    unfold hvec
    rw [dif_pos hl]
    rfl
  have : (b1 hv).xs = [⟨⟨0, 4, hvec hv.toList, 9⟩, false, 0, false⟩] := by kernel_rfl
  rw [this, e]
noncomputable def a2 : Ch := (a1 hv).sign.1
noncomputable def tag2 : List Int := viewTag false ⟨#[97]⟩ 7 1 6 0 [⟨⟨0, 4, hv, 9⟩, true, 1, false⟩]
theorem signing_eq : (a1 hv).signing.loc = 6 ∧ (a1 hv).signing.rem = 0 ∧ (a1 hv).signing.xs = [⟨⟨0, 4, hv, 9⟩, true, 1, false⟩] ∧ (a1 hv).k.signed = 0 ∧ (a1 hv).s.key = ⟨#[97]⟩ ∧ (a1 hv).s.ch = 7 := ⟨by kernel_rfl, by kernel_rfl, by kernel_rfl, by kernel_rfl, by kernel_rfl, by kernel_rfl⟩
theorem serr_eq : signErr (a1 hv) = 0 := by kernel_rfl
theorem sign_eq : (a1 hv).sign = (a2 hv, ⟨6, 7, 0, 0, tag2 hv, 0, 1⟩, 0) := by
  obtain ⟨e1, e2, e3, e4, e5, e6⟩ := signing_eq hv
  have h0 := sign_good (serr_eq hv)
  have h1' := signMsg_of e1 e2 e3 e4 e5 e6
  rw [show (0 : Int) + 1 = 1 from rfl] at h1'
  have h1 : signMsg (a1 hv) = ⟨6, 0, 0, 0, tag2 hv, 0, 1⟩ := by unfold tag2; exact h1'
  have h2 := on_of 7 h1
  rw [e6, h2] at h0
  have h3 : a2 hv = ((a1 hv).signing.say (signMsg (a1 hv))).turned := congrArg Prod.fst h0
  rw [h0, h3]
theorem tag2_len : (tag2 hv).length = 32 := by unfold tag2; exact viewTag_len _ _ _ _ _ _ _
theorem tag2_bytes : Bytes (tag2 hv) := by unfold tag2 viewTag tagI; exact sumI_bytes _
theorem b1_at : (b1 hv).s.peer = ⟨#[97]⟩ ∧ (b1 hv).s.ch = 7 ∧ (b1 hv).loc = 0 ∧ (b1 hv).rem = 6 ∧ (b1 hv).k.heard = 0 := ⟨by kernel_rfl, by kernel_rfl, by kernel_rfl, by kernel_rfl, by kernel_rfl⟩
noncomputable def b2 : Ch := (b1 hv).signedBy
theorem hsg_eq (hl : hv.toList.length = 32) : hsgErr (b1 hv) ⟨6, 7, 0, 0, tag2 hv, 0, 1⟩ = false := by
  obtain ⟨e1, e2, e3, e4, e5⟩ := b1_at hv
  have e6 : afterL 3 (b1 hv).xs = [⟨⟨0, 4, hv, 9⟩, true, 1, false⟩].map flip' := by rw [b1_xs hv hl]; kernel_rfl
  unfold hsgErr
  simp only
  rw [e1, e2, e3, e4, e6, viewTag_mirror]
  unfold tag2
  exact bne_self_eq_false _
theorem hearSign_eq (hl : hv.toList.length = 32) : (b1 hv).hearSign ⟨6, 7, 0, 0, tag2 hv, 0, 1⟩ = (b2 hv, [(b2 hv).revocation], 0) := by
  have h1 : changesB 3 (b1 hv).xs = true := by rw [b1_xs hv hl]; kernel_rfl
  exact hearSign_good h1 (by rw [(b1_at hv).2.2.2.2]; rfl) (hsg_eq hv hl)
theorem b2_heard : (b2 hv).k.heard = 1 := by kernel_rfl
theorem rev_eq : (b2 hv).revocation = ⟨7, 7, 0, 0, ((b2 hv).secret 0).1, 0, 0⟩ := by
  unfold Ch.revocation
  rw [b2_heard, show (1 : Int) - 1 = 0 from rfl]
  congr
theorem secret_form : ((b2 hv).secret 0).1 = chainI (seedI 2) 65535 16 := by
  have : (b2 hv).secret 0 = makeI (seedI 2) 65535 := by kernel_rfl
  rw [this]
  unfold makeI
  rw [if_pos (by decide)]
  rfl
theorem seedI_bytes (x : Int) (h : 0 ≤ x ∧ x ≤ 255) : Bytes (seedI x) := by
  intro b hb
  unfold seedI at hb
  rcases List.mem_cons.1 hb with rfl | hb
  · exact h
  · rw [List.eq_of_mem_replicate hb]; decide
noncomputable def a3 : Ch := ((a2 hv).hearRevoke ⟨7, 7, 0, 0, chainI (seedI 2) 65535 16, 0, 0⟩).1
theorem a2_at : (a2 hv).k.awaits = true ∧ (a2 hv).k.signed = 1 ∧ (a2 hv).shelf = List.replicate 17 .zero ∧ (a2 hv).s.ch = 7 := ⟨by kernel_rfl, by kernel_rfl, by kernel_rfl, by kernel_rfl⟩
theorem rev_ok (R : List Int) : revErr (a2 hv) ⟨7, 7, 0, 0, R, 0, 0⟩ = 0 := by
  obtain ⟨e1, e2, e3, -⟩ := a2_at hv
  unfold revErr
  rw [e1, e2, e3, if_neg (by decide), if_neg (by simp), if_neg]
  intro h
  apply h
  kernel_rfl
theorem hearRev_eq : (a2 hv).hearRevoke ⟨7, 7, 0, 0, chainI (seedI 2) 65535 16, 0, 0⟩ = (a3 hv, 0) := by
  unfold a3 Ch.hearRevoke
  rw [if_pos (rev_ok hv _)]
theorem a3_at : (a3 hv).loc = 6 ∧ (a3 hv).xs = [⟨⟨0, 4, hv, 9⟩, true, 2, false⟩] := by
  unfold a3 Ch.hearRevoke
  rw [if_pos (rev_ok hv _)]
  exact ⟨by kernel_rfl, by kernel_rfl⟩
theorem may1 : mayMsg ⟨3, 7, 0, 4, hv.toList, 9, 0⟩ = true := by kernel_rfl
theorem may2 (T : List Int) : mayMsg ⟨6, 7, 0, 0, T, 0, 1⟩ = true := by kernel_rfl
theorem may3 (R : List Int) : mayMsg ⟨7, 7, 0, 0, R, 0, 0⟩ = true := by kernel_rfl
theorem a2_shelf : ShelfB (a2 hv) := by
  intro p hp
  rw [(a2_at hv).2.2.1] at hp
  exact Ch.new_shelf (setA 10 10) p hp
theorem more_at : (a0).s.ch = 7 ∧ (b0).s.ch = 7 ∧ (a1 hv).s.ch = 7 ∧ (a1 hv).s.key = ⟨#[97]⟩ ∧ (a1 hv).news.length = 1 ∧ (a0).news.length = 0 ∧ (a0).xs.length = 0 ∧ (b0).xs.length = 0 := ⟨rfl, rfl, by kernel_rfl, by kernel_rfl, by kernel_rfl, rfl, rfl, rfl⟩
end
end Go.Proofs.YtjpmomdechibmaaGreatDoor

/-
  Law 13: 'shown' is true.
-/
namespace Go.Proofs.YtjpmomdechibmaaGreatDoor
set_option linter.unusedVariables false
set_option linter.unusedSimpArgs false
open Go.RowKit

attribute [local go_sem ↓ high] ld_hsh_fold st_hsh_fold al_hsh_fold bd_hsh_fold ld_msg_fold st_msg_fold al_msg_fold bd_msg_fold bd_set_fold bd_st2_fold st_st2_fold al_st2_fold ld_setup_fold
attribute [local go_sem] ld_hsh st_hsh al_hsh bd_hsh rowN_drew ld_msg st_msg al_msg st_st2 al_st2 ld_setup fld_base0 fld_base1

set_option maxRecDepth 100000 in
set_option maxHeartbeats 2000000 in
theorem shown_any (w : World) (hT : Tb w) : Calls Tryz.prog 12 #[] w (Makes (.bool true) w) := by
  have hok1 : (setA 10 10).Ok := setA_ok ⟨by decide, by decide⟩ ⟨by decide, by decide⟩
  have hok2 : (setB 10 10).Ok := setB_ok ⟨by decide, by decide⟩
  have hm1 : (setA 10 10).may := ⟨by decide, by decide, by decide, by decide, by decide⟩
  have hm2 : (setB 10 10).may := ⟨by decide, by decide, by decide, by decide, by decide⟩
  obtain ⟨hv, hvd⟩ : ∃ hv : Vector Int 32, hv = hvec (ofI (preI 0)) := ⟨_, rfl⟩
  have hOl : (ofI (preI 0)).length = 32 := sumI_len _
  have hOb : Bytes (ofI (preI 0)) := sumI_bytes _
  have hvl : hv.toList.length = 32 := by simp
  have hve : hv.toList = ofI (preI 0) := by rw [hvd]; exact hvec_list hOl
  have hvb : Bytes hv.toList := by rw [hve]; exact hOb
  have HVD := hide hvd
  clear hvd
  go_enter Tryz.func12, Tryz.ntmps12
  go_wp2_with fail
  refine (setups_any 10 10 w).mono ?_
  rintro e w1 ⟨rfl, n1⟩
  obtain ⟨hst, hF⟩ := st2_fresh (blk_alloc w1 (.cells zSt2.toArray 82)) (s := setA 10 10) (t := setB 10 10) rfl rfl
  have hT1 : w.heap.size ≤ w1.heap.size := n1.size
  have n2 : New w ((w1.alloc (.cells zSt2.toArray 82)).setCells w1.heap.size 0 (sets2 (setA 10 10) (setB 10 10))) := (n1.alloc _).then (upd_sets _) (fun i hi e => by omega)
  generalize hsA : setA 10 10 = sA at *
  generalize hsB : setB 10 10 = sB at *
  clear n1
  go_upto_region 2 with fail
  generalize (w1.alloc (.cells zSt2.toArray 82)).setCells w1.heap.size 0 (sets2 sA sB) = w2 at hF n2 ⊢
  generalize w1.heap.size = T at hF hT1 ⊢
  clear hst w1
  have r0 := hF.row0
  have HF := hide hF
  have N2 := hide n2
  clear hF n2
  go_wp2_with fail
  refine (newC_any sA hok1 w2).mono ?_
  rintro e w3 (⟨-, gA, rfl, hgA, hcA, n3⟩ | ⟨hn, -⟩)
  case inr => exact absurd hm1 hn
  have r1 := ((unhide HF).new n3).row1
  have HA3 := hide (chS_new hcA hok1 hm1)
  have N3 := hide n3
  clear r0 hcA n3
  go_wp2_with fail
  refine (newC_any sB hok2 w3).mono ?_
  rintro e w4 (⟨-, gB, rfl, hgB, hcB, n4⟩ | ⟨hn, -⟩)
  case inr => exact absurd hm2 hn
  have hz2 := (unhide N2).size
  have hz3 := (unhide N3).size
  have hAlt := (unhide HA3).lt gA rfl
  have h4 : Two w w4 gA gB (· = gA) (· = gB) a0 b0 := by
    refine ⟨?_, ?_, fun k hk => by omega, fun k hk => by omega, fun k hk hb => by omega, ((unhide N2).trans (unhide N3)).trans n4⟩
    · have := (unhide HA3).new n4
      rw [← hsA] at this
      exact this
    · have := chS_new hcB hok2 hm2
      rw [← hsB] at this
      exact this
  clear r1 hcB n4 HA3 N2 N3 HF hok1 hok2 hm1 hm2
  go_wp2_with fail
  refine (preimage_any 0 ⟨by decide, by decide⟩ w4).mono ?_
  rintro e w5 ⟨rfl, n5⟩
  go_wp2_with fail
  refine (refOf_any (preI 0) (preI_len 0) w5).mono ?_
  rintro e w6 ⟨rfl, n6⟩
  have h6 := h4.new (n5.trans n6)
  have hoff := offerH_any gA (· = gA) a0 4 (ofI (preI 0)) 9 w6 h6.A hOl hOb ⟨by decide, by decide⟩ ⟨by decide, by decide⟩ ⟨by decide, by decide⟩
  rw [← unhide HVD, off_eq] at hoff
  clear h4 n5 n6
  go_wp2_with fail
  refine hoff.mono ?_
  rintro e w7 ⟨rfl, hc7, u7⟩
  have h7 := h6.opA hc7 u7
  clear hoff hc7 h6
  have ok1 : MsgOk ⟨3, 7, 0, 4, hv.toList, 9, 0⟩ := msg_ok ⟨by decide, by decide⟩ ⟨by decide, by decide⟩ ⟨by decide, by decide⟩ ⟨by decide, by decide⟩ hvl hvb ⟨by decide, by decide⟩ ⟨by decide, by decide⟩
  have hh1 := hear1_eq hv
  rw [m1_eq] at hh1
  have hy1 := may1 hv
  generalize hM1 : (⟨3, 7, 0, 4, hv.toList, 9, 0⟩ : MsgV) = M1 at *
  have hM1c : M1.ch = 7 ∧ M1.kind = 3 := by rw [← hM1]; exact ⟨rfl, rfl⟩
  obtain ⟨hst, hK1, nK1⟩ := ms_fresh w7 M1 ok1.len
  have h8 := h7.new nK1
  go_upto_region 7 with fail
  change Code.wp _ _ _ _ (msNew w7 M1)
  generalize msNew w7 M1 = w8 at hK1 h8 ⊢
  generalize w7.heap.size = K1 at hK1 ⊢
  have rK1 := hK1.row
  have hadd := hear_add gB _ b0 M1 ok1 w8 h8.B hy1 (hM1c.1.trans (more_at hv).2.1.symm) hM1c.2 (by rw [(more_at hv).2.2.2.2.2.2.2]; decide)
  rw [hh1] at hadd
  clear hst hK1 nK1 h7 hh1
  go_wp2_with fail
  refine hadd.mono ?_
  rintro e w9 ⟨v9, rfl, -, hc9, u9⟩
  have h9 := h8.opB hc9 u9
  have hsg := sign_any gA _ (a1 hv) w9 h9.A (hT.new h9.n) (h9.apA hT) (by rw [(more_at hv).2.2.2.1]; decide) (by rw [(more_at hv).2.2.1]; exact ⟨by decide, by decide⟩) (by rw [(more_at hv).2.2.2.2.1]; decide)
  rw [sign_eq] at hsg
  clear hadd hc9 u9 h8 rK1 hy1 ok1 hM1c hM1
  go_wp2_with fail
  refine hsg.mono ?_
  rintro e w10 ⟨rfl, hc10, u10⟩
  have h10 := h9.opA hc10 u10
  clear hsg hc10 u10 h9
  have ok2 : MsgOk ⟨6, 7, 0, 0, tag2 hv, 0, 1⟩ := msg_ok ⟨by decide, by decide⟩ ⟨by decide, by decide⟩ ⟨by decide, by decide⟩ ⟨by decide, by decide⟩ (tag2_len hv) (tag2_bytes hv) ⟨by decide, by decide⟩ ⟨by decide, by decide⟩
  have hh2 := hearSign_eq hv hvl
  have hy2 := may2 (tag2 hv)
  generalize hM2 : (⟨6, 7, 0, 0, tag2 hv, 0, 1⟩ : MsgV) = M2 at *
  have hM2c : M2.ch = 7 ∧ M2.kind = 6 := by rw [← hM2]; exact ⟨rfl, rfl⟩
  obtain ⟨hst, hK2, nK2⟩ := ms_fresh w10 M2 ok2.len
  have h11 := h10.new nK2
  go_upto_region 9 with fail
  change Code.wp _ _ _ _ (msNew w10 M2)
  generalize msNew w10 M2 = w11 at hK2 h11 ⊢
  generalize w10.heap.size = K2 at hK2 ⊢
  have rK2 := hK2.row
  obtain ⟨p1, p2, p3, p4, p5⟩ := b1_at hv
  have hsn := hear_sign gB _ (b1 hv) M2 ok2 w11 h11.B hy2 (hM2c.1.trans p2.symm) hM2c.2 (hT.new h11.n) (h11.apB hT) (by rw [p1]; decide) (by rw [p2]; exact ⟨by decide, by decide⟩) (by rw [p5]; decide)
  rw [hh2, rev_eq, secret_form] at hsn
  clear hst hK2 nK2 h10 hh2
  go_wp2_with fail
  refine hsn.mono ?_
  rintro e w12 ⟨v12, rfl, hs12, hc12, u12⟩
  have h12 := h11.opB hc12 u12
  clear hsn hc12 u12 rK2 hy2 ok2 hM2c hM2 p1 p2 p3 p4 p5
  have hCl : (chainI (seedI 2) 65535 16).length = 32 := chainI_len _ rfl _ _
  have hCb : Bytes (chainI (seedI 2) 65535 16) := chainI_bytes _ (seedI_bytes 2 ⟨by decide, by decide⟩) _ _
  have hrv := hearRev_eq hv
  generalize chainI (seedI 2) 65535 16 = C at *
  have ok3 : MsgOk ⟨7, 7, 0, 0, C, 0, 0⟩ := msg_ok ⟨by decide, by decide⟩ ⟨by decide, by decide⟩ ⟨by decide, by decide⟩ ⟨by decide, by decide⟩ hCl hCb ⟨by decide, by decide⟩ ⟨by decide, by decide⟩
  have hy3 := may3 C
  generalize hM3 : (⟨7, 7, 0, 0, C, 0, 0⟩ : MsgV) = M3 at *
  have hM3c : M3.ch = 7 ∧ M3.kind = 7 := by rw [← hM3]; exact ⟨rfl, rfl⟩
  obtain ⟨g5, cap5, rfl, -, r5, -⟩ := hs12.row0 ok3.len
  have hrk := hear_revoke gA _ (a2 hv) M3 ok3 w12 h12.A hy3 (hM3c.1.trans (a2_at hv).2.2.2.symm) hM3c.2 (a2_shelf hv) (hT.new h12.n) (h12.apA hT)
  rw [hrv] at hrk
  clear hs12 h11 hrv
  go_wp2_with fail
  refine hrk.mono ?_
  rintro e w13 ⟨v13, rfl, -, hc13, u13⟩
  have h13 := h12.opA hc13 u13
  clear hrk hc13 u13 h12 r5 hM3 hM3c hy3 ok3 hCl hCb
  obtain ⟨q1, q2⟩ := a3_at hv
  have hlv := liveS_any gA _ (a3 hv) w13 h13.A
  rw [q2] at hlv
  have hbs := fun W (n : New w13 W) => baseS_any gA _ (a3 hv) W (h13.A.new n)
  rw [q1] at hbs
  go_wp2_with fail
  refine hlv.mono ?_
  rintro e w14 ⟨u, rfl, n14, hu⟩
  rcases hu with ⟨a, k, -, he⟩ | ⟨g6, cap6, rfl, hg6, hh⟩
  · cases he
  have r6 := hh.row (i := 0) rfl
  have d36 : w14.cell? ⟨g6, 36, none⟩ = some (.int .i64 2) := by
    have := (rowN_cell r6).2 36 (by omega)
    rw [List.getElem?_toArray, live_36] at this
    exact this
  have hbs14 := hbs w14 n14
  have hN := h13.n.trans n14
  clear hlv hbs r6 hh h13 n14
  go_wp2_with (first | ((with_reducible apply tp); rfl; rfl; intro _ _ _) | ((with_reducible apply tr); rfl; intro _ _) | ((with_reducible apply te); rfl; intro _ _) | (with_reducible rfl) | (with_reducible apply tn) | ((with_reducible apply wp_txt); kernel_rfl; decide +kernel))
  refine hbs14.mono ?_
  rintro e w15 ⟨rfl, n15⟩
  have hN15 := hN.trans n15
  clear hbs14 hN n15
  go_wp2_with (first | ((with_reducible apply tp); rfl; rfl; intro _ _ _) | ((with_reducible apply tr); rfl; intro _ _) | ((with_reducible apply te); rfl; intro _ _) | (with_reducible rfl) | (with_reducible apply tn) | ((with_reducible apply wp_txt); kernel_rfl; decide +kernel))
  go_ret
  exact ⟨rfl, hN15⟩

end Go.Proofs.YtjpmomdechibmaaGreatDoor
