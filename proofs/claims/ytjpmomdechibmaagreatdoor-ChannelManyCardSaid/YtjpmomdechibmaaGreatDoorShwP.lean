/-
  Law 13: what 'shown' comes to, in plain values.
-/
import Derived.Test.YtjpmomdechibmaaGreatDoorMeg
namespace Go.Proofs.YtjpmomdechibmaaGreatDoor
set_option linter.unusedVariables false
set_option linter.unusedSimpArgs false
open Go.RowKit

theorem signMsg_of {c : Ch} {l r n : Int} {xs : List Live} {key : ByteArray} {ch : Int} (e1 : c.signing.loc = l) (e2 : c.signing.rem = r) (e3 : c.signing.xs = xs) (e4 : c.k.signed = n) (e5 : c.s.key = key) (e6 : c.s.ch = ch) : signMsg c = ⟨6, 0, 0, 0, viewTag false key ch (n + 1) l r xs, 0, n + 1⟩ := by
  unfold signMsg
  rw [e1, e2, e3, e4, e5, e6]
theorem on_of {m : MsgV} {k i a : Int} {h : List Int} {e n : Int} (ch : Int) (hm : m = ⟨k, 0, i, a, h, e, n⟩) : m.on ch = ⟨k, ch, i, a, h, e, n⟩ := by subst hm; rfl
theorem sign_good {c : Ch} (h : signErr c = 0) : c.sign = ((c.signing.say (signMsg c)).turned, (signMsg c).on c.s.ch, 0) := by unfold Ch.sign; rw [if_pos h]
theorem hearSign_good {c : Ch} {m : MsgV} (h1 : changesB 3 c.xs = true) (h2 : m.number = c.k.heard + 1) (h3 : hsgErr c m = false) : c.hearSign m = (c.signedBy, [c.signedBy.revocation], 0) := by
  have h : hearSignErr c m = 0 := by
    unfold hearSignErr
    rw [h1, h3, if_neg (by decide), if_neg (fun h => h h2), if_neg (by decide)]
  unfold Ch.hearSign
  rw [if_pos h]
theorem msg_ok {k ch i a e n : Int} {h : List Int} (hk : 0 ≤ k ∧ k ≤ 9) (hc : 0 ≤ ch ∧ ch < 4294967296) (hi : 0 ≤ i ∧ i < 18446744073709551616) (ha : 0 ≤ a ∧ a < 18446744073709551616) (hl : h.length = 32) (hb : Bytes h) (he : 0 ≤ e ∧ e ≤ 2147483648) (hn : 0 ≤ n ∧ n ≤ 65536) : MsgOk ⟨k, ch, i, a, h, e, n⟩ :=
  ⟨⟨by show _ ≤ k; omega, by show k ≤ _; omega⟩, hc, hi, ha, hl, hb, ⟨by show _ ≤ e; omega, by show e ≤ _; omega⟩, ⟨by show _ ≤ n; omega, by show n ≤ _; omega⟩⟩
def a0 : Ch := Ch.new (setA 10 10)
def b0 : Ch := Ch.new (setB 10 10)
section
variable (hv : Vector Int 32)
def a1 : Ch := (a0.offer 4 hv 9).1
def m1 : MsgV := (a0.offer 4 hv 9).2.1
theorem off_eq : a0.offer 4 hv 9 = (a1 hv, ⟨3, 7, 0, 4, hv.toList, 9, 0⟩, 0) := by kernel_rfl
theorem m1_eq : m1 hv = ⟨3, 7, 0, 4, hv.toList, 9, 0⟩ := by kernel_rfl
theorem a1_xs : (a1 hv).xs = [⟨⟨0, 4, hv, 9⟩, true, 0, false⟩] := by kernel_rfl
def b1 : Ch := (b0.hearAdd (m1 hv)).1
theorem hear1_eq : b0.hearAdd (m1 hv) = (b1 hv, 0) := by kernel_rfl
theorem b1_xs (hl : hv.toList.length = 32) : (b1 hv).xs = [⟨⟨0, 4, hv, 9⟩, false, 0, false⟩] := by
  have e : hvec hv.toList = hv := by
    unfold hvec
    rw [dif_pos hl]
    rfl
  have : (b1 hv).xs = [⟨⟨0, 4, hvec hv.toList, 9⟩, false, 0, false⟩] := by kernel_rfl
  rw [this, e]
noncomputable def a2 : Ch := (a1 hv).sign.1
noncomputable def tag2 : List Int := viewTag false ⟨#[97]⟩ 7 1 6 0 [⟨⟨0, 4, hv, 9⟩, true, 1, false⟩]
theorem signing_eq : (a1 hv).signing.loc = 6 ∧ (a1 hv).signing.rem = 0 ∧ (a1 hv).signing.xs = [⟨⟨0, 4, hv, 9⟩, true, 1, false⟩] ∧ (a1 hv).k.signed = 0 ∧ (a1 hv).s.key = ⟨#[97]⟩ ∧ (a1 hv).s.ch = 7 := ⟨by kernel_rfl, by kernel_rfl, by kernel_rfl, by kernel_rfl, by kernel_rfl, by kernel_rfl⟩
theorem serr_eq : signErr (a1 hv) = 0 := by kernel_rfl
theorem sign_eq : (a1 hv).sign = (a2 hv, ⟨6, 7, 0, 0, tag2 hv, 0, 1⟩, 0) := by
  obtain ⟨e1, e2, e3, e4, e5, e6⟩ := signing_eq hv
  have h0 := sign_good (serr_eq hv)
  have h1' := signMsg_of e1 e2 e3 e4 e5 e6
  rw [show (0 : Int) + 1 = 1 from rfl] at h1'
  have h1 : signMsg (a1 hv) = ⟨6, 0, 0, 0, tag2 hv, 0, 1⟩ := by unfold tag2; exact h1'
  have h2 := on_of 7 h1
  rw [e6, h2] at h0
  have h3 : a2 hv = ((a1 hv).signing.say (signMsg (a1 hv))).turned := congrArg Prod.fst h0
  rw [h0, h3]
theorem tag2_len : (tag2 hv).length = 32 := by unfold tag2; exact viewTag_len _ _ _ _ _ _ _
theorem tag2_bytes : Bytes (tag2 hv) := by unfold tag2 viewTag tagI; exact sumI_bytes _
theorem b1_at : (b1 hv).s.peer = ⟨#[97]⟩ ∧ (b1 hv).s.ch = 7 ∧ (b1 hv).loc = 0 ∧ (b1 hv).rem = 6 ∧ (b1 hv).k.heard = 0 := ⟨by kernel_rfl, by kernel_rfl, by kernel_rfl, by kernel_rfl, by kernel_rfl⟩
noncomputable def b2 : Ch := (b1 hv).signedBy
theorem hsg_eq (hl : hv.toList.length = 32) : hsgErr (b1 hv) ⟨6, 7, 0, 0, tag2 hv, 0, 1⟩ = false := by
  obtain ⟨e1, e2, e3, e4, e5⟩ := b1_at hv
  have e6 : afterL 3 (b1 hv).xs = [⟨⟨0, 4, hv, 9⟩, true, 1, false⟩].map flip' := by rw [b1_xs hv hl]; kernel_rfl
  unfold hsgErr
  simp only
  rw [e1, e2, e3, e4, e6, viewTag_mirror]
  unfold tag2
  exact bne_self_eq_false _
theorem hearSign_eq (hl : hv.toList.length = 32) : (b1 hv).hearSign ⟨6, 7, 0, 0, tag2 hv, 0, 1⟩ = (b2 hv, [(b2 hv).revocation], 0) := by
  have h1 : changesB 3 (b1 hv).xs = true := by rw [b1_xs hv hl]; kernel_rfl
  exact hearSign_good h1 (by rw [(b1_at hv).2.2.2.2]; rfl) (hsg_eq hv hl)
theorem b2_heard : (b2 hv).k.heard = 1 := by kernel_rfl
theorem rev_eq : (b2 hv).revocation = ⟨7, 7, 0, 0, ((b2 hv).secret 0).1, 0, 0⟩ := by
  unfold Ch.revocation
  rw [b2_heard, show (1 : Int) - 1 = 0 from rfl]
  congr
theorem secret_form : ((b2 hv).secret 0).1 = chainI (seedI 2) 65535 16 := by
  have : (b2 hv).secret 0 = makeI (seedI 2) 65535 := by kernel_rfl
  rw [this]
  unfold makeI
  rw [if_pos (by decide)]
  rfl
theorem seedI_bytes (x : Int) (h : 0 ≤ x ∧ x ≤ 255) : Bytes (seedI x) := by
  intro b hb
  unfold seedI at hb
  rcases List.mem_cons.1 hb with rfl | hb
  · exact h
  · rw [List.eq_of_mem_replicate hb]; decide
noncomputable def a3 : Ch := ((a2 hv).hearRevoke ⟨7, 7, 0, 0, chainI (seedI 2) 65535 16, 0, 0⟩).1
theorem a2_at : (a2 hv).k.awaits = true ∧ (a2 hv).k.signed = 1 ∧ (a2 hv).shelf = List.replicate 17 .zero ∧ (a2 hv).s.ch = 7 := ⟨by kernel_rfl, by kernel_rfl, by kernel_rfl, by kernel_rfl⟩
theorem rev_ok (R : List Int) : revErr (a2 hv) ⟨7, 7, 0, 0, R, 0, 0⟩ = 0 := by
  obtain ⟨e1, e2, e3, -⟩ := a2_at hv
  unfold revErr
  rw [e1, e2, e3, if_neg (by decide), if_neg (by simp), if_neg]
  intro h
  apply h
  kernel_rfl
theorem hearRev_eq : (a2 hv).hearRevoke ⟨7, 7, 0, 0, chainI (seedI 2) 65535 16, 0, 0⟩ = (a3 hv, 0) := by
  unfold a3 Ch.hearRevoke
  rw [if_pos (rev_ok hv _)]
theorem a3_at : (a3 hv).loc = 6 ∧ (a3 hv).xs = [⟨⟨0, 4, hv, 9⟩, true, 2, false⟩] := by
  unfold a3 Ch.hearRevoke
  rw [if_pos (rev_ok hv _)]
  exact ⟨by kernel_rfl, by kernel_rfl⟩
theorem may1 : mayMsg ⟨3, 7, 0, 4, hv.toList, 9, 0⟩ = true := by kernel_rfl
theorem may2 (T : List Int) : mayMsg ⟨6, 7, 0, 0, T, 0, 1⟩ = true := by kernel_rfl
theorem may3 (R : List Int) : mayMsg ⟨7, 7, 0, 0, R, 0, 0⟩ = true := by kernel_rfl
theorem a2_shelf : ShelfB (a2 hv) := by
  intro p hp
  rw [(a2_at hv).2.2.1] at hp
  exact Ch.new_shelf (setA 10 10) p hp
theorem more_at : (a0).s.ch = 7 ∧ (b0).s.ch = 7 ∧ (a1 hv).s.ch = 7 ∧ (a1 hv).s.key = ⟨#[97]⟩ ∧ (a1 hv).news.length = 1 ∧ (a0).news.length = 0 ∧ (a0).xs.length = 0 ∧ (b0).xs.length = 0 := ⟨rfl, rfl, by kernel_rfl, by kernel_rfl, by kernel_rfl, rfl, rfl, rfl⟩
end
end Go.Proofs.YtjpmomdechibmaaGreatDoor
