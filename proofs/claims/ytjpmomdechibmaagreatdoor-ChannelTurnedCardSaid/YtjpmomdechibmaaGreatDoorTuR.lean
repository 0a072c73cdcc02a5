/-
  Law 13: the states of ChannelTurned behind the first revocation, in plain values.
-/
import Derived.Test.YtjpmomdechibmaaGreatDoorTpa
import Derived.Test.YtjpmomdechibmaaGreatDoorTn0
namespace Go.Proofs.YtjpmomdechibmaaGreatDoor
set_option linter.unusedVariables false
set_option linter.unusedSimpArgs false
open Go.RowKit

section
variable (x y : Int)
def tR0 : MsgV := ⟨7, 7, 0, 0, sec0L, 0, 0⟩
theorem tB2_heard : (tB2 x).k.heard = 1 := by kernel_rfl
theorem tRev1 : (tB2 x).revocation = tR0 := by
  have h : (tB2 x).revocation = ⟨7, 7, 0, 0, ((tB2 x).secret 0).1, 0, 0⟩ := by
    unfold Ch.revocation
    rw [tB2_heard, show (1 : Int) - 1 = 0 from rfl]
    congr
  have h2 : ((tB2 x).secret 0).1 = chainI (seedI 2) 65535 16 := by
    have : (tB2 x).secret 0 = makeI (seedI 2) 65535 := by kernel_rfl
    rw [this]
    unfold makeI
    rw [if_pos (by decide)]
    rfl
  rw [h, h2, sec0_eq]
  rfl
noncomputable def tA3 : Ch := (((tA2 x).shelved tR0).goOn 2).unawait
theorem tA2_at : (tA2 x).k.awaits = true ∧ (tA2 x).k.signed = 1 ∧ (tA2 x).shelf = List.replicate 17 .zero ∧ (tA2 x).s.ch = 7 := ⟨by kernel_rfl, by kernel_rfl, by kernel_rfl, by kernel_rfl⟩
theorem tHrev1 : (tA2 x).hearRevoke tR0 = (tA3 x, 0) := by
  have h : revErr (tA2 x) tR0 = 0 := by
    obtain ⟨e1, e2, e3, -⟩ := tA2_at x
    unfold revErr tR0
    rw [e1, e2, e3, if_neg (by decide), if_neg (by simp), if_neg]
    intro h
    apply h
    generalize sec0L = R
    kernel_rfl
  unfold Ch.hearRevoke
  rw [if_pos h]
  rfl
theorem tA2_shelf : ShelfB (tA2 x) := by
  intro p hp
  rw [(tA2_at x).2.2.1] at hp
  exact Ch.new_shelf (setA 1000 1000) p hp
theorem tA3_at : (tA3 x).k.shutSaid = false ∧ manyL true (tA3 x).xs = 1 ∧ (tA3 x).loc = 1000 - x ∧ (tA3 x).rem = 0 ∧ (tA3 x).k.nextOwn = 1 ∧ (tA3 x).s.ch = 7 ∧ (tA3 x).s.key = ⟨#[97]⟩ ∧ (tA3 x).k.signed = 1 ∧ (tA3 x).xs = [⟨⟨0, x, hz, 5⟩, true, 2, false⟩] ∧ (tA3 x).news = [] := ⟨by kernel_rfl, by kernel_rfl, by kernel_rfl, by kernel_rfl, by kernel_rfl, by kernel_rfl, by kernel_rfl, by kernel_rfl, by kernel_rfl, by kernel_rfl⟩
def tM4 : MsgV := ⟨3, 7, 1, y, z32i, 5, 0⟩
noncomputable def tA4 : Ch := ((tA3 x).offered y hz 5).say (offerMsg (tA3 x) y hz 5)
theorem tOff4 (hy : 1 ≤ y ∧ y ≤ 1000 - x) : (tA3 x).offer y hz 5 = (tA4 x y, tM4 y, 0) := by
  obtain ⟨e1, e2, e3, -, e5, e6, -, -, -, -⟩ := tA3_at x
  have h : offerErr (tA3 x) y 5 = 0 := by
    unfold offerErr
    rw [e1, e2, e3, if_neg (by decide), if_neg (by omega), if_neg (by omega), if_neg (by omega), if_neg (by omega)]
  have e : (offerMsg (tA3 x) y hz 5).on (tA3 x).s.ch = tM4 y := by
    unfold offerMsg tM4
    rw [e5, e6]
    kernel_rfl
  unfold Ch.offer
  rw [if_pos h, e]
  rfl
theorem tOff4_none : (tA3 x).offer 0 hz 5 = (tA3 x, MsgV.zero, 1) := by
  obtain ⟨e1, -⟩ := tA3_at x
  have h : offerErr (tA3 x) 0 5 = 1 := by
    unfold offerErr
    rw [e1, if_neg (by decide), if_pos rfl]
  unfold Ch.offer
  rw [h, if_neg (by decide)]
theorem tB2_at : (tB2 x).k.shutHeard = false ∧ manyL false (tB2 x).xs = 1 ∧ (tB2 x).rem = 1000 - x ∧ (tB2 x).k.nextTheirs = 1 ∧ (tB2 x).s.ch = 7 := ⟨by kernel_rfl, by kernel_rfl, by kernel_rfl, by kernel_rfl, by kernel_rfl⟩
noncomputable def tB3 : Ch := (tB2 x).added (tM4 y)
theorem tHear4 (hy : 1 ≤ y ∧ y ≤ 1000 - x) : (tB2 x).hearAdd (tM4 y) = (tB3 x y, 0) := by
  have h : hearAddErr (tB2 x) (tM4 y) = 0 := by
    obtain ⟨e1, e2, e3, e4, -⟩ := tB2_at x
    have e5 : (tM4 y).amount = y := rfl
    have e6 : (tM4 y).id = 1 := rfl
    have e7 : (tM4 y).expiry = 5 := rfl
    unfold hearAddErr
    rw [e1, e2, e3, e4, e5, e6, e7, if_neg (by decide), if_neg (by omega), if_neg (by decide), if_neg (by decide), if_neg (by omega), if_neg (by omega)]
  unfold Ch.hearAdd
  rw [if_pos h]
  rfl
def tL4 : List Live := [⟨⟨0, x, hz, 5⟩, true, 2, false⟩, ⟨⟨1, y, hz, 5⟩, true, 1, false⟩]
noncomputable def tTag4 : List Int := viewTag false ⟨#[97]⟩ 7 2 (1000 - x - y) 0 (tL4 x y)
noncomputable def tS4 : MsgV := ⟨6, 7, 0, 0, tTag4 x y, 0, 2⟩
noncomputable def tA5 : Ch := (tA4 x y).sign.1
theorem tSigning4 : (tA4 x y).signing.loc = 1000 - x - y ∧ (tA4 x y).signing.rem = 0 ∧ (tA4 x y).signing.xs = tL4 x y ∧ (tA4 x y).k.signed = 1 ∧ (tA4 x y).s.key = ⟨#[97]⟩ ∧ (tA4 x y).s.ch = 7 := ⟨by kernel_rfl, by kernel_rfl, by kernel_rfl, by kernel_rfl, by kernel_rfl, by kernel_rfl⟩
theorem tSerr4 : signErr (tA4 x y) = 0 := by kernel_rfl
theorem tSign4 : (tA4 x y).sign = (tA5 x y, tS4 x y, 0) := by
  obtain ⟨e1, e2, e3, e4, e5, e6⟩ := tSigning4 x y
  have h0 := sign_good (tSerr4 x y)
  have h1' := signMsg_of e1 e2 e3 e4 e5 e6
  rw [show (1 : Int) + 1 = 2 from rfl] at h1'
  have h1 : signMsg (tA4 x y) = ⟨6, 0, 0, 0, tTag4 x y, 0, 2⟩ := by unfold tTag4; exact h1'
  have h2 := on_of 7 h1
  rw [e6, h2] at h0
  have h3 : tA5 x y = ((tA4 x y).signing.say (signMsg (tA4 x y))).turned := congrArg Prod.fst h0
  rw [h0, h3]
  rfl
theorem tTag4_len : (tTag4 x y).length = 32 := by unfold tTag4; exact viewTag_len _ _ _ _ _ _ _
theorem tTag4_bytes : Bytes (tTag4 x y) := by unfold tTag4 viewTag tagI; exact sumI_bytes _
theorem tB3_at : (tB3 x y).s.peer = ⟨#[97]⟩ ∧ (tB3 x y).s.ch = 7 ∧ (tB3 x y).loc = 0 ∧ (tB3 x y).rem = 1000 - x - y ∧ (tB3 x y).k.heard = 1 ∧ afterL 3 (tB3 x y).xs = (tL4 x y).map flip' ∧ changesB 3 (tB3 x y).xs = true := ⟨by kernel_rfl, by kernel_rfl, by kernel_rfl, by kernel_rfl, by kernel_rfl, by kernel_rfl, by kernel_rfl⟩
noncomputable def tB4 : Ch := (tB3 x y).signedBy
theorem tHsign4 : (tB3 x y).hearSign (tS4 x y) = (tB4 x y, [(tB4 x y).revocation], 0) := by
  obtain ⟨e1, e2, e3, e4, e5, e6, e7⟩ := tB3_at x y
  unfold tS4
  refine hearSign_good e7 (by rw [e5]; rfl) ?_
  unfold hsgErr
  simp only
  rw [e1, e2, e3, e4, e6, viewTag_mirror]
  unfold tTag4
  exact bne_self_eq_false _
def tR1 (R : List Int) : MsgV := ⟨7, 7, 0, 0, R, 0, 1⟩
theorem tB4_heard : (tB4 x y).k.heard = 2 := by kernel_rfl
theorem tRev4 : (tB4 x y).revocation = tR1 sec1L := by
  have h : (tB4 x y).revocation = ⟨7, 7, 0, 0, ((tB4 x y).secret 1).1, 0, 1⟩ := by
    unfold Ch.revocation
    rw [tB4_heard, show (2 : Int) - 1 = 1 from rfl]
    congr
  have h2 : ((tB4 x y).secret 1).1 = chainI (seedI 2) 65534 16 := by
    have : (tB4 x y).secret 1 = makeI (seedI 2) 65534 := by kernel_rfl
    rw [this]
    unfold makeI
    rw [if_pos (by decide)]
    rfl
  rw [h, h2, sec1_eq]
  rfl
theorem tA5_at : (tA5 x y).k.awaits = true ∧ (tA5 x y).k.signed = 2 ∧ (tA5 x y).shelf = ⟨true, 65535, sec0L⟩ :: List.replicate 16 .zero ∧ (tA5 x y).s.ch = 7 ∧ (tA5 x y).xs = tL4 x y := ⟨by kernel_rfl, by kernel_rfl, by kernel_rfl, by kernel_rfl, by kernel_rfl⟩
theorem low_one (R s : List Int) (hb : (chStep R 0 != s) = true) : (lowX R 65534 ((⟨true, 65535, s⟩ :: List.replicate 16 KeptV.zero).take (placeI 65534))).isSome = true := by
  have h1 : (⟨true, 65535, s⟩ :: List.replicate 16 KeptV.zero : List KeptV).take (placeI 65534) = [⟨true, 65535, s⟩] := by kernel_rfl
  have h2 : otherB R 65534 ⟨true, 65535, s⟩ = (chStep R 0 != s) := by kernel_rfl
  rw [h1]
  unfold lowX
  rw [List.find?_cons]
  simp only [Bool.true_and]
  rw [h2, hb]
  rfl
/-- A turned revocation is refused. -/
theorem tBad4 (R : List Int) (hb : (chStep R 0 != sec0L) = true) : (tA5 x y).hearRevoke (tR1 R) = (tA5 x y, 134) := by
  have h : revErr (tA5 x y) (tR1 R) = 134 := by
    obtain ⟨e1, e2, e3, -⟩ := tA5_at x y
    unfold revErr tR1
    rw [e1, e2, e3, if_neg (by decide), if_neg (by simp), if_pos]
    unfold insErr
    rw [show (65535 : Int) - 1 = 65534 from rfl, if_neg (by decide +kernel), if_pos (low_one R sec0L hb)]
    decide
  unfold Ch.hearRevoke
  rw [h, if_neg (by decide)]
theorem tA5_shelf (hb : Bytes sec0L) : ShelfB (tA5 x y) := by
  intro p hp
  rw [(tA5_at x y).2.2.1] at hp
  rcases List.mem_cons.1 hp with rfl | hp
  · exact hb
  · exact Ch.new_shelf (setA 1000 1000) p (by rw [List.eq_of_mem_replicate hp]; exact List.mem_replicate.2 ⟨by decide, rfl⟩)
end
end Go.Proofs.YtjpmomdechibmaaGreatDoor
