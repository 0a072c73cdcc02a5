/-
  A shelf of one seed's secrets takes each further one of them.
-/
import Derived.Test.YtjpmomdechibmaaGreatDoorMda
import Derived.Test.YtjpmomdechibmaaGreatDoorQc
import Derived.Test.YtjpmomdechibmaaGreatDoorQa
import Derived.Test.YtjpmomdechibmaaGreatDoorMeg
namespace Go.Proofs.YtjpmomdechibmaaGreatDoor
set_option linter.unusedVariables false
set_option linter.unusedSimpArgs false
open Go.RowKit

theorem hiB_split (i : Nat) {k p d : Nat} (h1 : k ≤ p) (h2 : p ≤ d) : hiB i d k = hiB i d p ++ hiB i p k := by
  unfold hiB
  rw [← List.filter_append, ← List.reverse_append]
  congr 2
  have e := List.range'_append_1 (s := k) (m := p - k) (n := d - p)
  rw [show k + (p - k) = p by omega, show p - k + (d - p) = d - k by omega] at e
  exact e.symm
theorem hiB_none {i p : Nat} (h : ∀ b, b < p → i.testBit b = false) : hiB i p 0 = [] := by
  unfold hiB
  rw [List.filter_eq_nil_iff]
  intro b hb
  rw [List.mem_reverse, List.mem_range'_1] at hb
  rw [h b (by omega)]
  decide
theorem hiB_high {f t d p : Nat} (h : f / 2 ^ p = t / 2 ^ p) : hiB f d p = hiB t d p := by
  unfold hiB
  refine List.filter_congr fun b hb => ?_
  rw [List.mem_reverse, List.mem_range'_1] at hb
  have e1 := Nat.testBit_div_two_pow (n := p) f (b - p)
  have e2 := Nat.testBit_div_two_pow (n := p) t (b - p)
  rw [show b - p + p = b by omega] at e1 e2
  rw [← e1, ← e2, h]
theorem place_low {f : Int} (hf : isNumB f = true) : ∀ b, b < placeI f → f.toNat.testBit b = false := by
  intro b hb
  unfold placeI at hb
  rw [if_pos hf] at hb
  by_cases h0 : f.toNat = 0
  · rw [h0]; exact Nat.zero_testBit b
  · have hn := num_bd hf
    obtain ⟨m, hm, -⟩ := Lib.ctzFrom_spec 64 f.toNat (by omega) (by omega)
    have e : Lib.ctz 64 f.toNat = Lib.ctzFrom 64 f.toNat := by unfold Lib.ctz; rw [if_neg h0]
    rw [e] at hb
    generalize Lib.ctzFrom 64 f.toNat = z at hb hm
    rw [hm, Nat.testBit_two_pow_mul]
    simp only [Bool.and_eq_false_imp, decide_eq_true_eq]
    intro h
    omega
/-- What a secret tells of another of its seed is that one. -/
theorem derive_make (h : List Int) {f t : Int} (hc : canB f t = true) : deriveI (makeI h f).1 f t = ((makeI h t).1, 0) := by
  have hc' := hc
  unfold canB at hc'
  simp only [Bool.and_eq_true, beq_iff_eq] at hc'
  obtain ⟨hf, ht, hd⟩ := hc'
  have hp := placeI_le f
  unfold deriveI makeI
  rw [if_pos hc, if_pos hf, if_pos ht]
  have e : chainI (chainI h f.toNat 16) t.toNat (placeI f) = chainI h t.toNat 16 := by
    unfold chainI
    rw [← List.foldl_append, hiB_split t.toNat (Nat.zero_le _) hp, hiB_split f.toNat (Nat.zero_le _) hp, hiB_none (place_low hf), hiB_high hd, List.append_nil]
  rw [e]
/-- A kept one is of that seed. -/
def Told (h : List Int) (k : KeptV) : Prop := Bytes k.told ∧ (k.full = true → k.told = (makeI h k.number).1)
def ToldL (h : List Int) (ps : List KeptV) : Prop := ∀ k ∈ ps, Told h k
theorem told_zero (h : List Int) : ToldL h (List.replicate 17 .zero) := by
  intro k hk
  rw [List.eq_of_mem_replicate hk]
  exact ⟨z32i_bytes, fun h => by cases h⟩
theorem makeI_bytes (h : List Int) (hh : Bytes h) (i : Int) : Bytes (makeI h i).1 := by
  unfold makeI
  split
  · exact chainI_bytes h hh _ _
  · exact z32i_bytes
theorem other_told {h : List Int} {i : Int} {k : KeptV} (hk : k.told = (makeI h k.number).1) : otherB (makeI h i).1 i k = false := by
  unfold otherB
  cases hc : canB i k.number with
  | false =>
    have e : deriveI (makeI h i).1 i k.number = (z32i, 1) := by unfold deriveI; rw [if_neg (by rw [hc]; decide)]
    rw [e]
    rfl
  | true =>
    rw [derive_make h hc, hk]
    simp
theorem canB_self {i : Int} (h : isNumB i = true) : canB i i = true := by
  unfold canB
  rw [h]
  simp
theorem ins_ok {h : List Int} {i : Int} {ps : List KeptV} (hi : isNumB i = true) (hp : ToldL h ps) : insErr (makeI h i).1 i ps = 0 := by
  have e : lowX (makeI h i).1 i (ps.take (placeI i)) = none := by
    unfold lowX
    rw [List.find?_eq_none]
    intro k hk
    cases hf : k.full with
    | false => simp
    | true =>
      rw [other_told ((hp k (List.mem_of_mem_take hk)).2 hf)]
      decide
  unfold insErr
  rw [canB_self hi, e]
  rfl
theorem ins_told {h : List Int} (hb : Bytes h) {i : Int} {ps : List KeptV} (hp : ToldL h ps) : ToldL h (insL (makeI h i).1 i ps) := by
  unfold insL
  split
  · intro k hk
    rcases List.mem_or_eq_of_mem_set hk with e | e
    · exact hp k e
    · rw [e]
      exact ⟨makeI_bytes h hb i, fun _ => rfl⟩
  · exact hp

end Go.Proofs.YtjpmomdechibmaaGreatDoor

/-
  Law 13: an end's steps as equations; rests as a chain of rounds.
-/
namespace Go.Proofs.YtjpmomdechibmaaGreatDoor
set_option linter.unusedVariables false
set_option linter.unusedSimpArgs false
open Go.RowKit

section
variable {c : Ch} {m : MsgV}
theorem hear_k3 (hm : mayMsg m = true) (hc : m.ch = c.s.ch) (hk : m.kind = 3) : c.hear m = ((c.hearAdd m).1, [], (c.hearAdd m).2) := by
  unfold Ch.hear
  rw [if_neg (by rw [hm, hc]; simp), if_pos hk]
theorem hear_k4 (hm : mayMsg m = true) (hc : m.ch = c.s.ch) (hk : m.kind = 4) : c.hear m = ((c.hearFulfill m).1, [], (c.hearFulfill m).2) := by
  unfold Ch.hear
  rw [if_neg (by rw [hm, hc]; simp), if_neg (by omega), if_pos hk]
theorem hear_k5 (hm : mayMsg m = true) (hc : m.ch = c.s.ch) (hk : m.kind = 5) : c.hear m = ((c.hearFail m).1, [], (c.hearFail m).2) := by
  unfold Ch.hear
  rw [if_neg (by rw [hm, hc]; simp), if_neg (by omega), if_neg (by omega), if_pos hk]
theorem hear_k6 (hm : mayMsg m = true) (hc : m.ch = c.s.ch) (hk : m.kind = 6) : c.hear m = c.hearSign m := by
  unfold Ch.hear
  rw [if_neg (by rw [hm, hc]; simp), if_neg (by omega), if_neg (by omega), if_neg (by omega), if_pos hk]
theorem hear_k7 (hm : mayMsg m = true) (hc : m.ch = c.s.ch) (hk : m.kind = 7) : c.hear m = ((c.hearRevoke m).1, [], (c.hearRevoke m).2) := by
  unfold Ch.hear
  rw [if_neg (by rw [hm, hc]; simp), if_neg (by omega), if_neg (by omega), if_neg (by omega), if_neg (by omega), if_pos hk]
theorem hear_k8 (hm : mayMsg m = true) (hc : m.ch = c.s.ch) (hk : m.kind = 8) : c.hear m = (c.hearShut.1, [], c.hearShut.2) := by
  unfold Ch.hear
  rw [if_neg (by rw [hm, hc]; simp), if_neg (by omega), if_neg (by omega), if_neg (by omega), if_neg (by omega), if_neg (by omega)]
end
theorem fold_stay (l : List Live) : ∀ c : Ch, (∀ z ∈ l, z.state ≠ 9) → l.foldl gstep c = c := by
  induction l with
  | nil => intro c _; rfl
  | cons z l ih =>
    intro c h
    rw [List.foldl_cons, show gstep c z = c by unfold gstep; rw [if_neg (h z (List.mem_cons_self ..))], ih c fun y hy => h y (List.mem_cons_of_mem _ hy)]
theorem goOn_stay {c : Ch} {ev : Int} {L : List Live} (h : afterL ev c.xs = L) (h9 : ∀ z ∈ L, z.state ≠ 9) : c.goOn ev = { c with xs := L } := by
  unfold Ch.goOn
  rw [h, fold_stay L c h9]
  have : keptL L = L := by
    unfold keptL
    rw [List.filter_eq_self]
    intro z hz
    have := h9 z hz
    simpa using this
  rw [this]
theorem goOn_gone {c : Ch} {ev : Int} {z : Live} (h : afterL ev c.xs = [z]) (h9 : z.state = 9) : c.goOn ev = { c.give (z.own != z.paid) z.h.amount with xs := [] } := by
  unfold Ch.goOn
  rw [h, List.foldl_cons, List.foldl_nil, show gstep c z = c.give (z.own != z.paid) z.h.amount by unfold gstep; rw [if_pos h9]]
  have : keptL [z] = [] := by
    unfold keptL
    rw [List.filter_eq_nil_iff]
    intro y hy
    rw [List.mem_singleton.1 hy, h9]
    decide
  rw [this]
section
variable {s : SetupV} {sg hd no nt x y k : Int} {f1 f2 rv aw : Bool} {L L1 L2 : List Live} {z : Live} {sh : List KeptV} {nw la : List MsgV} {T : List Int}
theorem sgn_mk (hs : sg ≠ 65535) (hc : changesB 1 L = true) (ha : afterL 1 L = L1) (h9 : ∀ z ∈ L1, z.state ≠ 9) :
    (Ch.mk s ⟨sg, hd, false, no, nt, f1, f2, rv⟩ x y L sh nw la).sign = (Ch.mk s ⟨sg + 1, hd, true, no, nt, f1, f2, false⟩ x y L1 sh [] (nw ++ [⟨6, s.ch, 0, 0, viewTag false s.key s.ch (sg + 1) x y L1, 0, sg + 1⟩]), ⟨6, s.ch, 0, 0, viewTag false s.key s.ch (sg + 1) x y L1, 0, sg + 1⟩, 0) := by
  have e : signErr (Ch.mk s ⟨sg, hd, false, no, nt, f1, f2, rv⟩ x y L sh nw la) = 0 := by
    unfold signErr
    rw [if_neg (by simp), if_neg (by rw [hc]; simp), if_neg hs]
  have g : (Ch.mk s ⟨sg, hd, false, no, nt, f1, f2, rv⟩ x y L sh nw la).signing = Ch.mk s ⟨sg + 1, hd, true, no, nt, f1, f2, false⟩ x y L1 sh nw la := by
    unfold Ch.signing
    rw [goOn_stay (L := L1) ha h9]
  have hm : signMsg (Ch.mk s ⟨sg, hd, false, no, nt, f1, f2, rv⟩ x y L sh nw la) = ⟨6, 0, 0, 0, viewTag false s.key s.ch (sg + 1) x y L1, 0, sg + 1⟩ := by
    unfold signMsg
    rw [g]
  rw [sign_good e, g, hm]
  generalize viewTag false s.key s.ch (sg + 1) x y L1 = T
  rfl
theorem sgn_no (c : Ch) (h : c.k.awaits = true ∨ changesB 1 c.xs = false) : c.sign = (c, MsgV.zero, 5) := by
  refine sign_bad ?_ (by decide)
  unfold signErr
  by_cases h1 : c.k.awaits = true
  · rw [if_pos h1]
  · rw [if_neg h1, if_pos (h.resolve_left h1)]
theorem rvc_mk (hh : 0 ≤ hd) : (Ch.mk s ⟨sg, hd + 1, aw, no, nt, f1, f2, true⟩ x y L sh nw la).revocation = ⟨7, s.ch, 0, 0, (makeI s.seed (65535 - hd)).1, 0, hd⟩ := by
  unfold Ch.revocation
  have e : (Ch.mk s ⟨sg, hd + 1, aw, no, nt, f1, f2, true⟩ x y L sh nw la).secret hd = makeI s.seed (65535 - hd) := by
    unfold Ch.secret
    rw [if_neg (by show ¬ (hd < 0 ∨ hd + 1 ≤ hd); omega)]
  show (⟨7, s.ch, 0, 0, ((Ch.mk s ⟨sg, hd + 1, aw, no, nt, f1, f2, true⟩ x y L sh nw la).secret (hd + 1 - 1)).1, 0, hd + 1 - 1⟩ : MsgV) = _
  rw [show hd + 1 - 1 = hd by omega, e]
theorem hsg_mk (hh : 0 ≤ hd) (hc : changesB 3 L = true) (h3 : afterL 3 L = L1) (h93 : ∀ z ∈ L1, z.state ≠ 9) (h4 : afterL 4 L1 = L2) (h94 : ∀ z ∈ L2, z.state ≠ 9) (hT : T = viewTag true s.peer s.ch (hd + 1) x y L1) :
    (Ch.mk s ⟨sg, hd, aw, no, nt, f1, f2, rv⟩ x y L sh nw la).hearSign ⟨6, s.ch, 0, 0, T, 0, hd + 1⟩ = (Ch.mk s ⟨sg, hd + 1, aw, no, nt, f1, f2, true⟩ x y L2 sh nw la, [⟨7, s.ch, 0, 0, (makeI s.seed (65535 - hd)).1, 0, hd⟩], 0) := by
  have e : hsgErr (Ch.mk s ⟨sg, hd, aw, no, nt, f1, f2, rv⟩ x y L sh nw la) ⟨6, s.ch, 0, 0, T, 0, hd + 1⟩ = false := by
    unfold hsgErr
    show (T != viewTag true s.peer s.ch (hd + 1) x y (afterL 3 L)) = false
    rw [h3, hT]
    exact bne_self_eq_false _
  have g : (Ch.mk s ⟨sg, hd, aw, no, nt, f1, f2, rv⟩ x y L sh nw la).signedBy = Ch.mk s ⟨sg, hd + 1, aw, no, nt, f1, f2, true⟩ x y L2 sh nw la := by
    have g3 : (Ch.mk s ⟨sg, hd, aw, no, nt, f1, f2, rv⟩ x y L sh nw la).goOn 3 = Ch.mk s ⟨sg, hd, aw, no, nt, f1, f2, rv⟩ x y L1 sh nw la := goOn_stay (L := L1) h3 h93
    have g4 : (Ch.mk s ⟨sg, hd + 1, aw, no, nt, f1, f2, rv⟩ x y L1 sh nw la).goOn 4 = Ch.mk s ⟨sg, hd + 1, aw, no, nt, f1, f2, rv⟩ x y L2 sh nw la := goOn_stay (L := L2) h4 h94
    unfold Ch.signedBy
    rw [g3]
    show ((Ch.mk s ⟨sg, hd + 1, aw, no, nt, f1, f2, rv⟩ x y L1 sh nw la).goOn 4).revokes = _
    rw [g4]
    rfl
  rw [hearSign_good hc rfl e, g, rvc_mk hh]
theorem hsg_gone (hh : 0 ≤ hd) (hc : changesB 3 L = true) (h3 : afterL 3 L = L1) (h93 : ∀ z ∈ L1, z.state ≠ 9) (h4 : afterL 4 L1 = [z]) (h94 : z.state = 9) (hT : T = viewTag true s.peer s.ch (hd + 1) x y L1) :
    (Ch.mk s ⟨sg, hd, aw, no, nt, f1, f2, rv⟩ x y L sh nw la).hearSign ⟨6, s.ch, 0, 0, T, 0, hd + 1⟩ = (Ch.mk s ⟨sg, hd + 1, aw, no, nt, f1, f2, true⟩ (if (z.own != z.paid) = true then IntKind.u64.wrap (x + z.h.amount) else x) (if (z.own != z.paid) = true then y else IntKind.u64.wrap (y + z.h.amount)) [] sh nw la, [⟨7, s.ch, 0, 0, (makeI s.seed (65535 - hd)).1, 0, hd⟩], 0) := by
  have e : hsgErr (Ch.mk s ⟨sg, hd, aw, no, nt, f1, f2, rv⟩ x y L sh nw la) ⟨6, s.ch, 0, 0, T, 0, hd + 1⟩ = false := by
    unfold hsgErr
    show (T != viewTag true s.peer s.ch (hd + 1) x y (afterL 3 L)) = false
    rw [h3, hT]
    exact bne_self_eq_false _
  have g : (Ch.mk s ⟨sg, hd, aw, no, nt, f1, f2, rv⟩ x y L sh nw la).signedBy = Ch.mk s ⟨sg, hd + 1, aw, no, nt, f1, f2, true⟩ (if (z.own != z.paid) = true then IntKind.u64.wrap (x + z.h.amount) else x) (if (z.own != z.paid) = true then y else IntKind.u64.wrap (y + z.h.amount)) [] sh nw la := by
    have g3 : (Ch.mk s ⟨sg, hd, aw, no, nt, f1, f2, rv⟩ x y L sh nw la).goOn 3 = Ch.mk s ⟨sg, hd, aw, no, nt, f1, f2, rv⟩ x y L1 sh nw la := goOn_stay (L := L1) h3 h93
    have g4 : (Ch.mk s ⟨sg, hd + 1, aw, no, nt, f1, f2, rv⟩ x y L1 sh nw la).goOn 4 = _ := goOn_gone (z := z) h4 h94
    unfold Ch.signedBy
    rw [g3]
    show ((Ch.mk s ⟨sg, hd + 1, aw, no, nt, f1, f2, rv⟩ x y L1 sh nw la).goOn 4).revokes = _
    rw [g4]
    unfold Ch.give
    cases (z.own != z.paid) <;> rfl
  rw [hearSign_good hc rfl e, g, rvc_mk hh]
theorem hrv_err {c : Ch} {R : List Int} {ch : Int} (h1 : c.k.awaits = true) (h2 : c.k.signed = k + 1) (h3 : insErr R (65535 - k) c.shelf = 0) : c.hearRevoke ⟨7, ch, 0, 0, R, 0, k⟩ = (((c.shelved ⟨7, ch, 0, 0, R, 0, k⟩).goOn 2).unawait, 0) := by
  have e : revErr c ⟨7, ch, 0, 0, R, 0, k⟩ = 0 := by
    unfold revErr
    rw [if_neg (by rw [h1]; decide), if_neg (by rw [h2]; show ¬ (k ≠ k + 1 - 1); omega), if_neg (by show ¬ (insErr R (65535 - k) c.shelf ≠ 0); rw [h3]; decide)]
  unfold Ch.hearRevoke
  rw [if_pos e]
theorem hrv_mk {R : List Int} {ch : Int} (hi : insErr R (65535 - k) sh = 0) (h2 : afterL 2 L = L1) (h9 : ∀ z ∈ L1, z.state ≠ 9) :
    (Ch.mk s ⟨k + 1, hd, true, no, nt, f1, f2, rv⟩ x y L sh nw la).hearRevoke ⟨7, ch, 0, 0, R, 0, k⟩ = (Ch.mk s ⟨k + 1, hd, false, no, nt, f1, f2, rv⟩ x y L1 (insL R (65535 - k) sh) nw la, 0) := by
  rw [hrv_err rfl rfl hi]
  rw [goOn_stay (L := L1) (by exact h2) h9]
  rfl
theorem hrv_gone {R : List Int} {ch : Int} (hi : insErr R (65535 - k) sh = 0) (h2 : afterL 2 L = [z]) (h9 : z.state = 9) :
    (Ch.mk s ⟨k + 1, hd, true, no, nt, f1, f2, rv⟩ x y L sh nw la).hearRevoke ⟨7, ch, 0, 0, R, 0, k⟩ = (Ch.mk s ⟨k + 1, hd, false, no, nt, f1, f2, rv⟩ (if (z.own != z.paid) = true then IntKind.u64.wrap (x + z.h.amount) else x) (if (z.own != z.paid) = true then y else IntKind.u64.wrap (y + z.h.amount)) [] (insL R (65535 - k) sh) nw la, 0) := by
  rw [hrv_err rfl rfl hi]
  rw [goOn_gone (z := z) (by exact h2) h9]
  unfold Ch.give
  cases (z.own != z.paid) <;> rfl
end
/-- One end hears the first message; one signs, or has nothing to sign. -/
structure HearSt (c : Ch) (m : MsgV) (c' : Ch) (l : List MsgV) : Prop where
  ok : MsgOk m
  eq : c.hear m = (c', l, 0)
  inv : c.Inv
  kind : m.kind = 3 ∨ m.kind = 4 ∨ m.kind = 5 ∨ m.kind = 6 ∨ m.kind = 7 ∨ m.kind = 8
  says : ∀ l' ∈ l, MsgOk l'
  few : l.length ≤ 1000
structure SignSt (c c' : Ch) (M : MsgV) (E : Int) : Prop where
  eq : c.sign = (c', M, E)
  sok : SignOk c
  ok : MsgOk M
def HearOpt (c : Ch) (ws : List MsgV) (c' : Ch) (l ws' : List MsgV) (g : Bool) : Prop := (ws = [] ∧ c' = c ∧ l = [] ∧ ws' = [] ∧ g = false) ∨ (∃ m, ws = m :: ws' ∧ HearSt c m c' l ∧ g = true)
theorem HearOpt.no (c : Ch) : HearOpt c [] c [] [] false := .inl ⟨rfl, rfl, rfl, rfl, rfl⟩
theorem HearOpt.yes {c c' : Ch} {m : MsgV} {l ws : List MsgV} (h : HearSt c m c' l) : HearOpt c (m :: ws) c' l ws true := .inr ⟨m, rfl, h, rfl⟩
section
variable {a b a1 b1 a2 b2 : Ch} {wa wb wa1 wb2 l0 l1 : List MsgV} {bad g0 g1 : Bool} {Ma Mb : MsgV} {Ea Eb : Int} {Q : Pr} {n : Nat}
theorem h0_of (h : HearOpt a wa a1 l0 wa1 g0) (f : wa.length ≤ 1000 ∧ wb.length ≤ 1000) : Pr.hears0 ⟨a, b, wa, wb, bad⟩ = (⟨a1, b, wa1, wb ++ l0, bad⟩, g0) ∧ Pr.Ok0 ⟨a, b, wa, wb, bad⟩ := by
  rcases h with ⟨rfl, rfl, rfl, rfl, rfl⟩ | ⟨m, rfl, h, rfl⟩
  · exact ⟨show _ = ((⟨a1, b, [], wb ++ [], bad⟩ : Pr), false) by rw [List.append_nil]; rfl, trivial⟩
  · refine ⟨?_, h.ok, ⟨h.inv, h.kind, ?_, ?_⟩, ?_⟩
    · show ((⟨(a.hear m).1, b, wa1, wb ++ (a.hear m).2.1, bad || decide ((a.hear m).2.2 ≠ 0)⟩ : Pr), true) = _
      rw [h.eq]
      simp
    · rw [h.eq]; exact h.says
    · have := h.few
      rw [h.eq]
      show wb.length + l0.length ≤ _
      omega
    · have := f.1
      rw [List.length_cons] at this
      omega
theorem h1_of (h : HearOpt b wb b1 l1 wb2 g1) (f : wa.length ≤ 1000 ∧ wb.length ≤ 1000) : Pr.hears1 ⟨a, b, wa, wb, bad⟩ = (⟨a, b1, wa ++ l1, wb2, bad⟩, g1) ∧ Pr.Ok1 ⟨a, b, wa, wb, bad⟩ := by
  rcases h with ⟨rfl, rfl, rfl, rfl, rfl⟩ | ⟨m, rfl, h, rfl⟩
  · exact ⟨show _ = ((⟨a, b1, wa ++ [], [], bad⟩ : Pr), false) by rw [List.append_nil]; rfl, trivial⟩
  · refine ⟨?_, h.ok, ⟨h.inv, h.kind, ?_, ?_⟩, ?_⟩
    · show ((⟨a, (b.hear m).1, wa ++ (b.hear m).2.1, wb2, bad || decide ((b.hear m).2.2 ≠ 0)⟩ : Pr), true) = _
      rw [h.eq]
      simp
    · rw [h.eq]; exact h.says
    · have := h.few
      rw [h.eq]
      show wa.length + l1.length ≤ _
      omega
    · have := f.2
      rw [List.length_cons] at this
      omega
/-- What a round comes to. -/
theorem round_of (h0 : HearOpt a wa a1 l0 wa1 g0) (h1 : HearOpt b (wb ++ l0) b1 l1 wb2 g1) (s0 : SignSt a1 a2 Ma Ea) (s1 : SignSt b1 b2 Mb Eb) (f : wa.length ≤ 1000 ∧ wb.length ≤ 1000) (f1 : wa1.length ≤ 1000 ∧ (wb ++ l0).length ≤ 1000) (f2 : (wa1 ++ l1).length ≤ 1000 ∧ wb2.length ≤ 1000) :
    (Pr.mk a b wa wb bad).RoundOk ∧ (Pr.mk a b wa wb bad).round = ⟨a2, b2, if Eb = 0 then wa1 ++ l1 ++ [Mb] else wa1 ++ l1, if Ea = 0 then wb2 ++ [Ma] else wb2, bad⟩ ∧ (Pr.mk a b wa wb bad).went = (g1 || g0 || (Ea == 0) || (Eb == 0)) := by
  obtain ⟨e0, k0⟩ := h0_of (b := b) (bad := bad) h0 f
  obtain ⟨e1, k1⟩ := h1_of (a := a1) (bad := bad) h1 f1
  have d1 : (Pr.mk a b wa wb bad).hears0.1 = ⟨a1, b, wa1, wb ++ l0, bad⟩ := by rw [e0]
  have d2 : (Pr.mk a b wa wb bad).hears0.1.hears1.1 = ⟨a1, b1, wa1 ++ l1, wb2, bad⟩ := by rw [d1, e1]
  have d3 : (Pr.mk a1 b1 (wa1 ++ l1) wb2 bad).sign0 = ⟨a2, b1, wa1 ++ l1, if Ea = 0 then wb2 ++ [Ma] else wb2, bad⟩ := by
    unfold Pr.sign0
    simp only [s0.eq]
  have d4 : (Pr.mk a2 b1 (wa1 ++ l1) (if Ea = 0 then wb2 ++ [Ma] else wb2) bad).sign1 = ⟨a2, b2, if Eb = 0 then wa1 ++ l1 ++ [Mb] else wa1 ++ l1, if Ea = 0 then wb2 ++ [Ma] else wb2, bad⟩ := by
    unfold Pr.sign1
    simp only [s1.eq]
  refine ⟨⟨k0, ?_, ?_, ?_, ?_, ?_, ?_, ?_⟩, ?_, ?_⟩
  · rw [d1]; exact k1
  · rw [d2]; exact s0.sok
  · rw [d2, d3]; exact s1.sok
  · rw [d2]; show MsgOk a1.sign.2.1; rw [s0.eq]; exact s0.ok
  · rw [d2, d3]; show MsgOk b1.sign.2.1; rw [s1.eq]; exact s1.ok
  · rw [d2]; show wb2.length < _; omega
  · rw [d2, d3]; show (wa1 ++ l1).length < _; omega
  · unfold Pr.round
    rw [d2, d3, d4]
  · unfold Pr.went
    rw [d2, d3, d1, e1, e0]
    simp only [s0.eq, s1.eq]
theorem go_round (h0 : HearOpt a wa a1 l0 wa1 g0) (h1 : HearOpt b (wb ++ l0) b1 l1 wb2 g1) (s0 : SignSt a1 a2 Ma Ea) (s1 : SignSt b1 b2 Mb Eb) (f : wa.length ≤ 1000 ∧ wb.length ≤ 1000) (f1 : wa1.length ≤ 1000 ∧ (wb ++ l0).length ≤ 1000) (f2 : (wa1 ++ l1).length ≤ 1000 ∧ wb2.length ≤ 1000)
    (hw : (g1 || g0 || (Ea == 0) || (Eb == 0)) = true) (next : Rests n ⟨a2, b2, if Eb = 0 then wa1 ++ l1 ++ [Mb] else wa1 ++ l1, if Ea = 0 then wb2 ++ [Ma] else wb2, bad⟩ Q) : Rests (n + 1) ⟨a, b, wa, wb, bad⟩ Q := by
  obtain ⟨r1, r2, r3⟩ := round_of (bad := bad) h0 h1 s0 s1 f f1 f2
  exact .step n _ Q r1 (by rw [r3]; exact hw) (by rw [r2]; exact next)
theorem go_stop (s0 : SignSt a a Ma 5) (s1 : SignSt b b Mb 5) : Rests (n + 1) ⟨a, b, [], [], bad⟩ ⟨a, b, [], [], bad⟩ := by
  obtain ⟨r1, r2, r3⟩ := round_of (a := a) (b := b) (wa := []) (wb := []) (l0 := []) (l1 := []) (wa1 := []) (wb2 := []) (bad := bad) (HearOpt.no a) (HearOpt.no b) s0 s1 ⟨by decide, by decide⟩ ⟨by decide, by decide⟩ ⟨by decide, by decide⟩
  have h := Rests.stop n _ r1 (by rw [r3]; rfl)
  rw [r2] at h
  exact h
end

end Go.Proofs.YtjpmomdechibmaaGreatDoor

/-
  Law 13: one offer goes through, and is settled: the plain states, round by round.
-/
namespace Go.Proofs.YtjpmomdechibmaaGreatDoor
set_option linter.unusedVariables false
set_option linter.unusedSimpArgs false
open Go.RowKit

theorem bl {a b : Nat} (h : Nat.ble a b = true) : a ≤ b := Nat.le_of_ble_eq_true h
theorem hvec_toList (h : Vector Int 32) : hvec h.toList = h := by
  unfold hvec
  rw [dif_pos (by simp)]
  rfl
theorem viewTag_bytes (b : Bool) (key : ByteArray) (ch n l r : Int) (xs : List Live) : Bytes (viewTag b key ch n l r xs) := by unfold viewTag tagI; exact sumI_bytes _
theorem may_addH {i a : Int} (h : List Int) (ha : 0 ≤ a ∧ a ≤ 1125899906842624) : mayMsg ⟨3, 7, i, a, h, 5, 0⟩ = true := by
  unfold mayMsg
  show (if (5 : Int) < 0 ∨ 1073741824 < (5 : Int) ∨ (0 : Int) < 0 ∨ 65535 < (0 : Int) ∨ 1125899906842624 < a then false else decide (zeros _ _ = kindMsg 3)) = true
  rw [if_neg (by omega)]
  kernel_rfl
theorem may_ful (i : Int) (h : List Int) : mayMsg ⟨4, 7, i, 0, h, 0, 0⟩ = true := by kernel_rfl
theorem may_fai (i : Int) {r : Int} (hr : 0 ≤ r ∧ r ≤ 65535) : mayMsg ⟨5, 7, i, 0, z32i, 0, r⟩ = true := by
  unfold mayMsg
  show (if (0 : Int) < 0 ∨ 1073741824 < (0 : Int) ∨ r < 0 ∨ 65535 < r ∨ 1125899906842624 < (0 : Int) then false else decide (zeros _ _ = kindMsg 5)) = true
  rw [if_neg (by omega)]
  kernel_rfl
theorem may_sgn (T : List Int) {n : Int} (hn : 0 ≤ n ∧ n ≤ 65535) : mayMsg ⟨6, 7, 0, 0, T, 0, n⟩ = true := by
  unfold mayMsg
  show (if (0 : Int) < 0 ∨ 1073741824 < (0 : Int) ∨ n < 0 ∨ 65535 < n ∨ 1125899906842624 < (0 : Int) then false else decide (zeros _ _ = kindMsg 6)) = true
  rw [if_neg (by omega)]
  kernel_rfl
theorem may_rvk (T : List Int) {n : Int} (hn : 0 ≤ n ∧ n ≤ 65535) : mayMsg ⟨7, 7, 0, 0, T, 0, n⟩ = true := by
  unfold mayMsg
  show (if (0 : Int) < 0 ∨ 1073741824 < (0 : Int) ∨ n < 0 ∨ 65535 < n ∨ 1125899906842624 < (0 : Int) then false else decide (zeros _ _ = kindMsg 7)) = true
  rw [if_neg (by omega)]
  kernel_rfl
theorem seed_len (x : Int) : (seedI x).length = 32 := rfl
theorem seed1_bytes : Bytes (seedI 1) := seedI_bytes 1 ⟨by decide, by decide⟩
theorem seed2_bytes : Bytes (seedI 2) := seedI_bytes 2 ⟨by decide, by decide⟩
section
variable {o c sg x y : Int} {k : CountsV} {L : List Live} {sh : List KeptV} {nw la : List MsgV}
theorem invA (hs : ToldL (seedI 2) sh) (hh : k.heard ≤ 65535) (hl : L.length ≤ 100) : (Ch.mk (setA o c) k x y L sh nw la).Inv :=
  ⟨fun p hp => (hs p hp).1, by show (1 : Nat) ≤ _; decide, ⟨by show (0 : Int) ≤ 7; decide, by show (7 : Int) < _; decide⟩, by show k.heard < _; omega, by show L.length < _; omega⟩
theorem invB (hs : ToldL (seedI 1) sh) (hh : k.heard ≤ 65535) (hl : L.length ≤ 100) : (Ch.mk (setB o c) k x y L sh nw la).Inv :=
  ⟨fun p hp => (hs p hp).1, by show (1 : Nat) ≤ _; decide, ⟨by show (0 : Int) ≤ 7; decide, by show (7 : Int) < _; decide⟩, by show k.heard < _; omega, by show L.length < _; omega⟩
theorem sokA (hl : nw.length ≤ 100) : SignOk (Ch.mk (setA o c) k x y L sh nw la) :=
  ⟨by show (1 : Nat) ≤ _; decide, ⟨by show (0 : Int) ≤ 7; decide, by show (7 : Int) < _; decide⟩, by show nw.length < _; omega⟩
theorem sokB (hl : nw.length ≤ 100) : SignOk (Ch.mk (setB o c) k x y L sh nw la) :=
  ⟨by show (1 : Nat) ≤ _; decide, ⟨by show (0 : Int) ≤ 7; decide, by show (7 : Int) < _; decide⟩, by show nw.length < _; omega⟩
theorem zeroM_ok : MsgOk MsgV.zero := msg_ok ⟨by decide, by decide⟩ ⟨by decide, by decide⟩ ⟨by decide, by decide⟩ ⟨by decide, by decide⟩ z32i_len z32i_bytes ⟨by decide, by decide⟩ ⟨by decide, by decide⟩
theorem sig_ok {T : List Int} {n : Int} (hl : T.length = 32) (hb : Bytes T) (hn : 0 ≤ n ∧ n ≤ 65536) : MsgOk ⟨6, 7, 0, 0, T, 0, n⟩ :=
  msg_ok ⟨by decide, by decide⟩ ⟨by decide, by decide⟩ ⟨by decide, by decide⟩ ⟨by decide, by decide⟩ hl hb ⟨by decide, by decide⟩ hn
theorem rvk_ok {T : List Int} {n : Int} (hl : T.length = 32) (hb : Bytes T) (hn : 0 ≤ n ∧ n ≤ 65536) : MsgOk ⟨7, 7, 0, 0, T, 0, n⟩ :=
  msg_ok ⟨by decide, by decide⟩ ⟨by decide, by decide⟩ ⟨by decide, by decide⟩ ⟨by decide, by decide⟩ hl hb ⟨by decide, by decide⟩ hn
end
theorem SignSt.none {c : Ch} (h : c.k.awaits = true ∨ changesB 1 c.xs = false) (hs : SignOk c) : SignSt c c MsgV.zero 5 := ⟨sgn_no c h, hs, zeroM_ok⟩

section
variable (o c n x y sg j : Int) (h : Vector Int 32) (ra rb pd : Bool) (sa sb : List KeptV) (nw la lb : List MsgV)
def itm (ow : Bool) (st : Int) (pd : Bool) : Live := ⟨⟨j, n, h, 5⟩, ow, st, pd⟩
def pM : MsgV := ⟨3, 7, j, n, h.toList, 5, 0⟩
noncomputable def sgA (xs : List Live) : MsgV := ⟨6, 7, 0, 0, viewTag false ⟨#[97]⟩ 7 (sg + 1) x y xs, 0, sg + 1⟩
noncomputable def sgB (xs : List Live) : MsgV := ⟨6, 7, 0, 0, viewTag false ⟨#[98]⟩ 7 (sg + 1) y x xs, 0, sg + 1⟩
def rvA : MsgV := ⟨7, 7, 0, 0, (makeI (seedI 1) (65535 - sg)).1, 0, sg⟩
def rvB : MsgV := ⟨7, 7, 0, 0, (makeI (seedI 2) (65535 - sg)).1, 0, sg⟩
theorem sgA_ok (xs : List Live) (hs : 0 ≤ sg ∧ sg ≤ 1000) : MsgOk (sgA x y sg xs) := sig_ok (viewTag_len _ _ _ _ _ _ _) (viewTag_bytes _ _ _ _ _ _ _) ⟨by omega, by omega⟩
theorem sgB_ok (xs : List Live) (hs : 0 ≤ sg ∧ sg ≤ 1000) : MsgOk (sgB x y sg xs) := sig_ok (viewTag_len _ _ _ _ _ _ _) (viewTag_bytes _ _ _ _ _ _ _) ⟨by omega, by omega⟩
theorem rvA_ok (hs : 0 ≤ sg ∧ sg ≤ 1000) : MsgOk (rvA sg) := rvk_ok (makeI_len _ (seed_len 1) _) (makeI_bytes _ seed1_bytes _) ⟨by omega, by omega⟩
theorem rvB_ok (hs : 0 ≤ sg ∧ sg ≤ 1000) : MsgOk (rvB sg) := rvk_ok (makeI_len _ (seed_len 2) _) (makeI_bytes _ seed2_bytes _) ⟨by omega, by omega⟩
/-- The ends, with one live item or none. -/
def eA (k : CountsV) (L : List Live) : Ch := ⟨setA o c, k, x, y, L, sa, nw, la⟩
def eB (k : CountsV) (L : List Live) : Ch := ⟨setB o c, k, y, x, L, sb, nw, lb⟩
end
section
variable {o c n x y sg j no nt hd : Int} {h : Vector Int 32} {ra rb pd aw f1 f2 : Bool} {sa sb : List KeptV} {nw la lb : List MsgV} {k : CountsV} {L L1 L2 : List Live} {z : Live}
theorem stay_itm {st : Int} {ow : Bool} (h9 : st ≠ 9) : ∀ z ∈ [itm n j h ow st pd], z.state ≠ 9 := by
  intro z hz
  rw [List.mem_singleton.1 hz]
  exact h9
/-- A signs; B signs. -/
theorem signA (hs : 0 ≤ sg ∧ sg ≤ 1000) (hc : changesB 1 L = true) (ha : afterL 1 L = L1) (h9 : ∀ z ∈ L1, z.state ≠ 9) (hn : nw.length ≤ 100) :
    SignSt (eA o c x y sa nw la ⟨sg, hd, false, no, nt, f1, f2, ra⟩ L) (eA o c x y sa [] (nw ++ [sgA x y sg L1]) ⟨sg + 1, hd, true, no, nt, f1, f2, false⟩ L1) (sgA x y sg L1) 0 :=
  ⟨sgn_mk (by omega) hc ha h9, sokA hn, sgA_ok _ _ _ _ hs⟩
theorem signB (hs : 0 ≤ sg ∧ sg ≤ 1000) (hc : changesB 1 L = true) (ha : afterL 1 L = L1) (h9 : ∀ z ∈ L1, z.state ≠ 9) (hn : nw.length ≤ 100) :
    SignSt (eB o c x y sb nw lb ⟨sg, hd, false, no, nt, f1, f2, rb⟩ L) (eB o c x y sb [] (nw ++ [sgB x y sg L1]) ⟨sg + 1, hd, true, no, nt, f1, f2, false⟩ L1) (sgB x y sg L1) 0 :=
  ⟨sgn_mk (by omega) hc ha h9, sokB hn, sgB_ok _ _ _ _ hs⟩
theorem waitA (h : k.awaits = true ∨ changesB 1 L = false) (hn : nw.length ≤ 100) : SignSt (eA o c x y sa nw la k L) (eA o c x y sa nw la k L) MsgV.zero 5 := .none h (sokA hn)
theorem waitB (h : k.awaits = true ∨ changesB 1 L = false) (hn : nw.length ≤ 100) : SignSt (eB o c x y sb nw lb k L) (eB o c x y sb nw lb k L) MsgV.zero 5 := .none h (sokB hn)
/-- A hears B's signature; B hears A's. -/
theorem hsgA {xs : List Live} (hs : 0 ≤ sg ∧ sg ≤ 1000) (hsh : ToldL (seedI 2) sa) (hL : L.length ≤ 100) (hc : changesB 3 L = true) (h3 : afterL 3 L = xs.map flip') (h93 : ∀ z ∈ xs.map flip', z.state ≠ 9) (h4 : afterL 4 (xs.map flip') = L2) (h94 : ∀ z ∈ L2, z.state ≠ 9) :
    HearSt (eA o c x y sa nw la ⟨hd, sg, aw, no, nt, f1, f2, ra⟩ L) (sgB x y sg xs) (eA o c x y sa nw la ⟨hd, sg + 1, aw, no, nt, f1, f2, true⟩ L2) [rvA sg] := by
  refine ⟨sgB_ok _ _ _ _ hs, ?_, invA hsh (by show sg ≤ _; omega) hL, .inr (.inr (.inr (.inl rfl))), (fun l hl => by rw [List.mem_singleton.1 hl]; exact rvA_ok _ hs), bl rfl⟩
  refine (hear_k6 (may_sgn _ ⟨by omega, by omega⟩) rfl rfl).trans ?_
  exact hsg_mk hs.1 hc h3 h93 h4 h94 (viewTag_mirror _ _ _ _ _ _).symm
theorem hsgB {xs : List Live} (hs : 0 ≤ sg ∧ sg ≤ 1000) (hsh : ToldL (seedI 1) sb) (hL : L.length ≤ 100) (hc : changesB 3 L = true) (h3 : afterL 3 L = xs.map flip') (h93 : ∀ z ∈ xs.map flip', z.state ≠ 9) (h4 : afterL 4 (xs.map flip') = L2) (h94 : ∀ z ∈ L2, z.state ≠ 9) :
    HearSt (eB o c x y sb nw lb ⟨hd, sg, aw, no, nt, f1, f2, rb⟩ L) (sgA x y sg xs) (eB o c x y sb nw lb ⟨hd, sg + 1, aw, no, nt, f1, f2, true⟩ L2) [rvB sg] := by
  refine ⟨sgA_ok _ _ _ _ hs, ?_, invB hsh (by show sg ≤ _; omega) hL, .inr (.inr (.inr (.inl rfl))), (fun l hl => by rw [List.mem_singleton.1 hl]; exact rvB_ok _ hs), bl rfl⟩
  refine (hear_k6 (may_sgn _ ⟨by omega, by omega⟩) rfl rfl).trans ?_
  exact hsg_mk hs.1 hc h3 h93 h4 h94 (viewTag_mirror _ _ _ _ _ _).symm
/-- What is gone goes into the base. -/
def goneI (us : Bool) (n x : Int) : Int := if us = true then IntKind.u64.wrap (x + n) else x
theorem hsgB_gone {xs : List Live} (hs : 0 ≤ sg ∧ sg ≤ 1000) (hsh : ToldL (seedI 1) sb) (hL : L.length ≤ 100) (hc : changesB 3 L = true) (h3 : afterL 3 L = xs.map flip') (h93 : ∀ z ∈ xs.map flip', z.state ≠ 9) (h4 : afterL 4 (xs.map flip') = [itm n j h false 9 pd]) :
    HearSt (eB o c x y sb nw lb ⟨hd, sg, aw, no, nt, f1, f2, rb⟩ L) (sgA x y sg xs) (eB o c (goneI (!pd) n x) (goneI pd n y) sb nw lb ⟨hd, sg + 1, aw, no, nt, f1, f2, true⟩ []) [rvB sg] := by
  refine ⟨sgA_ok _ _ _ _ hs, ?_, invB hsh (by show sg ≤ _; omega) hL, .inr (.inr (.inr (.inl rfl))), (fun l hl => by rw [List.mem_singleton.1 hl]; exact rvB_ok _ hs), bl rfl⟩
  refine (hear_k6 (may_sgn _ ⟨by omega, by omega⟩) rfl rfl).trans ?_
  refine (hsg_gone hs.1 hc h3 h93 h4 rfl (viewTag_mirror _ _ _ _ _ _).symm).trans ?_
  cases pd <;> rfl
/-- A hears B's revocation; B hears A's. -/
theorem hrvA (hs : 0 ≤ sg ∧ sg ≤ 1000) (hsh : ToldL (seedI 2) sa) (hh : hd ≤ 65535) (hL : L.length ≤ 100) (h2 : afterL 2 L = L1) (h9 : ∀ z ∈ L1, z.state ≠ 9) :
    HearSt (eA o c x y sa nw la ⟨sg + 1, hd, true, no, nt, f1, f2, ra⟩ L) (rvB sg) (eA o c x y (insL (rvB sg).hash (65535 - sg) sa) nw la ⟨sg + 1, hd, false, no, nt, f1, f2, ra⟩ L1) [] := by
  refine ⟨rvB_ok _ hs, ?_, invA hsh hh hL, .inr (.inr (.inr (.inr (.inl rfl)))), (fun l hl => by cases hl), bl rfl⟩
  refine (hear_k7 (may_rvk _ ⟨by omega, by omega⟩) rfl rfl).trans ?_
  have e := hrv_mk (s := setA o c) (hd := hd) (no := no) (nt := nt) (x := x) (y := y) (f1 := f1) (f2 := f2) (rv := ra) (nw := nw) (la := la) (ch := 7) (ins_ok (h := seedI 2) (i := 65535 - sg) (ps := sa) (num_yes (by omega) (by omega)) hsh) h2 h9
  exact congrArg (fun p : Ch × Int => (p.1, ([] : List MsgV), p.2)) e
theorem hrvB (hs : 0 ≤ sg ∧ sg ≤ 1000) (hsh : ToldL (seedI 1) sb) (hh : hd ≤ 65535) (hL : L.length ≤ 100) (h2 : afterL 2 L = L1) (h9 : ∀ z ∈ L1, z.state ≠ 9) :
    HearSt (eB o c x y sb nw lb ⟨sg + 1, hd, true, no, nt, f1, f2, rb⟩ L) (rvA sg) (eB o c x y (insL (rvA sg).hash (65535 - sg) sb) nw lb ⟨sg + 1, hd, false, no, nt, f1, f2, rb⟩ L1) [] := by
  refine ⟨rvA_ok _ hs, ?_, invB hsh hh hL, .inr (.inr (.inr (.inr (.inl rfl)))), (fun l hl => by cases hl), bl rfl⟩
  refine (hear_k7 (may_rvk _ ⟨by omega, by omega⟩) rfl rfl).trans ?_
  have e := hrv_mk (s := setB o c) (hd := hd) (no := no) (nt := nt) (x := y) (y := x) (f1 := f1) (f2 := f2) (rv := rb) (nw := nw) (la := lb) (ch := 7) (ins_ok (h := seedI 1) (i := 65535 - sg) (ps := sb) (num_yes (by omega) (by omega)) hsh) h2 h9
  exact congrArg (fun p : Ch × Int => (p.1, ([] : List MsgV), p.2)) e
theorem hrvA_gone (hs : 0 ≤ sg ∧ sg ≤ 1000) (hsh : ToldL (seedI 2) sa) (hh : hd ≤ 65535) (hL : L.length ≤ 100) (h2 : afterL 2 L = [itm n j h true 9 pd]) :
    HearSt (eA o c x y sa nw la ⟨sg + 1, hd, true, no, nt, f1, f2, ra⟩ L) (rvB sg) (eA o c (goneI (!pd) n x) (goneI pd n y) (insL (rvB sg).hash (65535 - sg) sa) nw la ⟨sg + 1, hd, false, no, nt, f1, f2, ra⟩ []) [] := by
  refine ⟨rvB_ok _ hs, ?_, invA hsh hh hL, .inr (.inr (.inr (.inr (.inl rfl)))), (fun l hl => by cases hl), bl rfl⟩
  refine (hear_k7 (may_rvk _ ⟨by omega, by omega⟩) rfl rfl).trans ?_
  have e := hrv_gone (s := setA o c) (hd := hd) (no := no) (nt := nt) (x := x) (y := y) (f1 := f1) (f2 := f2) (rv := ra) (nw := nw) (la := la) (ch := 7) (ins_ok (h := seedI 2) (i := 65535 - sg) (ps := sa) (num_yes (by omega) (by omega)) hsh) h2 rfl
  refine (congrArg (fun p : Ch × Int => (p.1, ([] : List MsgV), p.2)) e).trans ?_
  cases pd <;> rfl
theorem told_insA (hsh : ToldL (seedI 2) sa) : ToldL (seedI 2) (insL (rvB sg).hash (65535 - sg) sa) := ins_told seed2_bytes hsh
theorem told_insB (hsh : ToldL (seedI 1) sb) : ToldL (seedI 1) (insL (rvA sg).hash (65535 - sg) sb) := ins_told seed1_bytes hsh

/-- B hears the offer. -/
theorem haddB (hn : 1 ≤ n ∧ n ≤ 1125899906842624) (hj : 0 ≤ j ∧ j ≤ 1000) (hx : 0 ≤ x) (hb : ∀ b ∈ h.toList, 0 ≤ b ∧ b ≤ 255) (hsh : ToldL (seedI 1) sb) (hh : hd ≤ 65535) :
    HearSt (eB o c (x + n) y sb nw lb ⟨sg, hd, aw, no, j, f1, false, rb⟩ []) (pM n j h) (eB o c x y sb nw lb ⟨sg, hd, aw, no, j + 1, f1, false, rb⟩ [itm n j h false 0 false]) [] := by
  refine ⟨msg_ok ⟨by decide, by decide⟩ ⟨by decide, by decide⟩ ⟨by omega, by omega⟩ ⟨by omega, by omega⟩ (by simp) hb ⟨by decide, by decide⟩ ⟨by decide, by decide⟩, ?_, invB hsh hh (bl rfl), .inl rfl, (fun l hl => by cases hl), bl rfl⟩
  refine (hear_k3 (may_addH _ ⟨by omega, by omega⟩) rfl rfl).trans ?_
  have e : hearAddErr (eB o c (x + n) y sb nw lb ⟨sg, hd, aw, no, j, f1, false, rb⟩ []) (pM n j h) = 0 := by
    unfold hearAddErr
    rw [if_neg (by show ¬ (false = true); decide), if_neg (by show ¬ (n = 0); omega), if_neg (by show ¬ (j ≠ j); omega), if_neg (by show ¬ ((5 : Int) = 0); decide), if_neg (by show ¬ (8 ≤ 0); decide), if_neg (by show ¬ (x + n < n); omega)]
  have a : (eB o c (x + n) y sb nw lb ⟨sg, hd, aw, no, j, f1, false, rb⟩ []).added (pM n j h) = eB o c x y sb nw lb ⟨sg, hd, aw, no, j + 1, f1, false, rb⟩ [itm n j h false 0 false] := by
    show (Ch.mk (setB o c) ⟨sg, hd, aw, no, IntKind.u64.wrap (j + 1), f1, false, rb⟩ y (x + n - n) [⟨⟨j, n, hvec h.toList, 5⟩, false, 0, false⟩] sb nw lb) = _
    rw [hvec_toList, wrapU (by omega) (by omega), show x + n - n = x by omega]
    rfl
  have e2 : (eB o c (x + n) y sb nw lb ⟨sg, hd, aw, no, j, f1, false, rb⟩ []).hearAdd (pM n j h) = (eB o c x y sb nw lb ⟨sg, hd, aw, no, j + 1, f1, false, rb⟩ [itm n j h false 0 false], 0) := by
    unfold Ch.hearAdd
    rw [if_pos e, a]
  exact congrArg (fun p : Ch × Int => (p.1, ([] : List MsgV), p.2)) e2
/-- A hears that its offer is paid, or has failed. -/
theorem hfulA {p : List Int} (hj : 0 ≤ j ∧ j ≤ 1000) (hp : p.length = 32) (hb : Bytes p) (ho : opensB p h.toList = true) (hsh : ToldL (seedI 2) sa) (hh : k.heard ≤ 65535) :
    HearSt (eA o c x y sa nw la k [itm n j h true 4 false]) ⟨4, 7, j, 0, p, 0, 0⟩ (eA o c x y sa nw la k [itm n j h true 5 true]) [] := by
  refine ⟨msg_ok ⟨by decide, by decide⟩ ⟨by decide, by decide⟩ ⟨by omega, by omega⟩ ⟨by decide, by decide⟩ hp hb ⟨by decide, by decide⟩ ⟨by decide, by decide⟩, ?_, invA hsh hh (bl rfl), .inr (.inl rfl), (fun l hl => by cases hl), bl rfl⟩
  refine (hear_k4 (may_ful _ _) rfl rfl).trans ?_
  have hB : bothX true j [itm n j h true 4 false] = some (0, itm n j h true 4 false) := by
    unfold bothX
    have : bothB true j (itm n j h true 4 false) = true := by simp [bothB, itm]
    simp [List.findIdx?_cons, this]
  have e := hearFul_some (c := eA o c x y sa nw la k [itm n j h true 4 false]) (m := ⟨4, 7, j, 0, p, 0, 0⟩) hB
  rw [if_pos (by exact ho)] at e
  rw [e]
  rfl
theorem hfaiA {r : Int} (hj : 0 ≤ j ∧ j ≤ 1000) (hr : 0 ≤ r ∧ r ≤ 65535) (hsh : ToldL (seedI 2) sa) (hh : k.heard ≤ 65535) :
    HearSt (eA o c x y sa nw la k [itm n j h true 4 false]) ⟨5, 7, j, 0, z32i, 0, r⟩ (eA o c x y sa nw la k [itm n j h true 5 false]) [] := by
  refine ⟨msg_ok ⟨by decide, by decide⟩ ⟨by decide, by decide⟩ ⟨by omega, by omega⟩ ⟨by decide, by decide⟩ z32i_len z32i_bytes ⟨by decide, by decide⟩ ⟨by omega, by omega⟩, ?_, invA hsh hh (bl rfl), .inr (.inr (.inl rfl)), (fun l hl => by cases hl), bl rfl⟩
  refine (hear_k5 (may_fai _ hr) rfl rfl).trans ?_
  have hB : bothX true j [itm n j h true 4 false] = some (0, itm n j h true 4 false) := by
    unfold bothX
    have : bothB true j (itm n j h true 4 false) = true := by simp [bothB, itm]
    simp [List.findIdx?_cons, this]
  have e : (eA o c x y sa nw la k [itm n j h true 4 false]).hearFail ⟨5, 7, j, 0, z32i, 0, r⟩ = ((eA o c x y sa nw la k [itm n j h true 4 false]).removed 0 (itm n j h true 4 false) false, 0) := by
    unfold Ch.hearFail
    show (match bothX true j [itm n j h true 4 false] with | none => _ | some p => _) = _
    rw [hB]
  rw [e]
  rfl
end

end Go.Proofs.YtjpmomdechibmaaGreatDoor

/-
  Law 13: one offer goes through (rests behind it), and is settled (rests behind that).
-/
namespace Go.Proofs.YtjpmomdechibmaaGreatDoor
set_option linter.unusedVariables false
set_option linter.unusedSimpArgs false
open Go.RowKit

section
variable {o c n x y sg j : Int} {h : Vector Int 32} {ra rb pd bad : Bool} {sa sb : List KeptV} {la lb : List MsgV} {F : MsgV}
theorem rests_first (hs : 0 ≤ sg ∧ sg ≤ 999) (hn : 1 ≤ n ∧ n ≤ 1125899906842624) (hj : 0 ≤ j ∧ j ≤ 1000) (hx : 0 ≤ x) (hb : ∀ b ∈ h.toList, 0 ≤ b ∧ b ≤ 255) (ta : ToldL (seedI 2) sa) (tb : ToldL (seedI 1) sb) :
    ∃ sa' sb' la' lb', ToldL (seedI 2) sa' ∧ ToldL (seedI 1) sb' ∧
    Rests 500 ⟨eA o c x y sa [pM n j h] la ⟨sg, sg, false, j + 1, 0, false, false, ra⟩ [itm n j h true 0 false], eB o c (x + n) y sb [] lb ⟨sg, sg, false, 0, j, false, false, rb⟩ [], [], [pM n j h], bad⟩
      ⟨eA o c x y sa' [] la' ⟨sg + 1, sg + 1, false, j + 1, 0, false, false, true⟩ [itm n j h true 4 false], eB o c x y sb' [] lb' ⟨sg + 1, sg + 1, false, 0, j + 1, false, false, false⟩ [itm n j h false 4 false], [], [], bad⟩ := by
  have hs' : 0 ≤ sg ∧ sg ≤ 1000 := ⟨hs.1, by omega⟩
  refine ⟨_, _, [pM n j h] ++ [sgA x y sg [itm n j h true 1 false]], [] ++ [sgB x y sg [itm n j h false 3 false]], told_insA (sg := sg) ta, told_insB (sg := sg) tb, ?_⟩
  refine go_round (.no _) (.yes (haddB hn hj hx hb tb (by omega))) (signA (L1 := [itm n j h true 1 false]) hs' (by kernel_rfl) (by kernel_rfl) (stay_itm (by decide)) (bl rfl)) (waitB (.inr (by kernel_rfl)) (bl rfl)) ⟨bl rfl, bl rfl⟩ ⟨bl rfl, bl rfl⟩ ⟨bl rfl, bl rfl⟩ rfl ?_
  refine go_round (.no _) (.yes (hsgB (xs := [itm n j h true 1 false]) (L2 := [itm n j h false 2 false]) hs' tb (bl rfl) (by kernel_rfl) (by kernel_rfl) (by exact stay_itm (st := 1) (by decide)) (by kernel_rfl) (stay_itm (by decide)))) (waitA (.inl rfl) (bl rfl)) (signB (L1 := [itm n j h false 3 false]) hs' (by kernel_rfl) (by kernel_rfl) (stay_itm (by decide)) (bl rfl)) ⟨bl rfl, bl rfl⟩ ⟨bl rfl, bl rfl⟩ ⟨bl rfl, bl rfl⟩ rfl ?_
  refine go_round (.yes (hrvA (L1 := [itm n j h true 2 false]) hs' ta (by omega) (bl rfl) (by kernel_rfl) (stay_itm (by decide)))) (.no _) (waitA (.inr (by kernel_rfl)) (bl rfl)) (waitB (.inl rfl) (bl rfl)) ⟨bl rfl, bl rfl⟩ ⟨bl rfl, bl rfl⟩ ⟨bl rfl, bl rfl⟩ rfl ?_
  refine go_round (.yes (hsgA (xs := [itm n j h false 3 false]) (L2 := [itm n j h true 4 false]) hs' (told_insA (sg := sg) ta) (bl rfl) (by kernel_rfl) (by kernel_rfl) (by exact stay_itm (st := 3) (by decide)) (by kernel_rfl) (stay_itm (by decide)))) (.yes (hrvB (L1 := [itm n j h false 4 false]) hs' tb (by omega) (bl rfl) (by kernel_rfl) (stay_itm (by decide)))) (waitA (.inr (by kernel_rfl)) (bl rfl)) (waitB (.inr (by kernel_rfl)) (bl rfl)) ⟨bl rfl, bl rfl⟩ ⟨bl rfl, bl rfl⟩ ⟨bl rfl, bl rfl⟩ rfl ?_
  exact go_stop (waitA (.inr (by kernel_rfl)) (bl rfl)) (waitB (.inr (by kernel_rfl)) (bl rfl))
theorem rests_second (hs : 0 ≤ sg ∧ sg ≤ 1000) (ta : ToldL (seedI 2) sa) (tb : ToldL (seedI 1) sb)
    (hF : HearSt (eA o c x y sa [] la ⟨sg, sg, false, j + 1, 0, false, false, true⟩ [itm n j h true 4 false]) F (eA o c x y sa [] la ⟨sg, sg, false, j + 1, 0, false, false, true⟩ [itm n j h true 5 pd]) []) :
    ∃ sa' sb' la' lb', ToldL (seedI 2) sa' ∧ ToldL (seedI 1) sb' ∧
    Rests 500 ⟨eA o c x y sa [] la ⟨sg, sg, false, j + 1, 0, false, false, true⟩ [itm n j h true 4 false], eB o c x y sb [F] lb ⟨sg, sg, false, 0, j + 1, false, false, false⟩ [itm n j h false 5 pd], [F], [], bad⟩
      ⟨eA o c (goneI (!pd) n x) (goneI pd n y) sa' [] la' ⟨sg + 1, sg + 1, false, j + 1, 0, false, false, false⟩ [], eB o c (goneI (!pd) n x) (goneI pd n y) sb' [] lb' ⟨sg + 1, sg + 1, false, 0, j + 1, false, false, true⟩ [], [], [], bad⟩ := by
  refine ⟨_, _, [] ++ [sgA x y sg [itm n j h true 8 pd]], [F] ++ [sgB x y sg [itm n j h false 6 pd]], told_insA (sg := sg) ta, told_insB (sg := sg) tb, ?_⟩
  refine go_round (.yes hF) (.no _) (waitA (.inr (by kernel_rfl)) (bl rfl)) (signB (L1 := [itm n j h false 6 pd]) hs (by kernel_rfl) (by kernel_rfl) (stay_itm (by decide)) (bl rfl)) ⟨bl rfl, bl rfl⟩ ⟨bl rfl, bl rfl⟩ ⟨bl rfl, bl rfl⟩ rfl ?_
  refine go_round (.yes (hsgA (xs := [itm n j h false 6 pd]) (L2 := [itm n j h true 7 pd]) hs ta (bl rfl) (by kernel_rfl) (by kernel_rfl) (by exact stay_itm (st := 6) (by decide)) (by kernel_rfl) (stay_itm (by decide)))) (.yes (hrvB (L1 := [itm n j h false 7 pd]) hs tb (by omega) (bl rfl) (by kernel_rfl) (stay_itm (by decide)))) (signA (L1 := [itm n j h true 8 pd]) hs (by kernel_rfl) (by kernel_rfl) (stay_itm (by decide)) (bl rfl)) (waitB (.inr (by kernel_rfl)) (bl rfl)) ⟨bl rfl, bl rfl⟩ ⟨bl rfl, bl rfl⟩ ⟨bl rfl, bl rfl⟩ rfl ?_
  refine go_round (.no _) (.yes (hsgB_gone (n := n) (j := j) (h := h) (pd := pd) (xs := [itm n j h true 8 pd]) hs (told_insB (sg := sg) tb) (bl rfl) (by kernel_rfl) (by kernel_rfl) (by exact stay_itm (st := 8) (by decide)) (by kernel_rfl))) (waitA (.inl rfl) (bl rfl)) (waitB (.inr (by kernel_rfl)) (bl rfl)) ⟨bl rfl, bl rfl⟩ ⟨bl rfl, bl rfl⟩ ⟨bl rfl, bl rfl⟩ rfl ?_
  refine go_round (.yes (hrvA_gone (n := n) (j := j) (h := h) (pd := pd) hs ta (by omega) (bl rfl) (by kernel_rfl))) (.no _) (waitA (.inr (by kernel_rfl)) (bl rfl)) (waitB (.inr (by kernel_rfl)) (bl rfl)) ⟨bl rfl, bl rfl⟩ ⟨bl rfl, bl rfl⟩ ⟨bl rfl, bl rfl⟩ rfl ?_
  exact go_stop (waitA (.inr (by kernel_rfl)) (bl rfl)) (waitB (.inr (by kernel_rfl)) (bl rfl))
end

end Go.Proofs.YtjpmomdechibmaaGreatDoor

/-
  Law 13: who tells another preimage does not open an offer.
-/
namespace Go.Proofs.YtjpmomdechibmaaGreatDoor
set_option linter.unusedVariables false
set_option linter.unusedSimpArgs false
open Go.RowKit

theorem opens_0 : (ofI (preI 1) == ofI (preI 0)) = false := by decide +kernel
theorem opens_1 : (ofI (preI 2) == ofI (preI 1)) = false := by decide +kernel
theorem opens_2 : (ofI (preI 3) == ofI (preI 2)) = false := by decide +kernel
theorem opens_3 : (ofI (preI 0) == ofI (preI 3)) = false := by decide +kernel
theorem preI_mod (p : Int) : preI p = preI (p % 4) := by
  unfold preI
  rw [Int.emod_emod_of_dvd p (Int.dvd_refl 4)]
theorem opens_next {p : Int} (hp : 0 ≤ p ∧ p ≤ 255) : opensB (preI (IntKind.u8.wrap (p + 1))) (ofI (preI p)) = false := by
  have e : IntKind.u8.wrap (p + 1) = (p + 1) % 256 := rfl
  unfold opensB
  rw [e, preI_mod p, preI_mod ((p + 1) % 256)]
  have h : p % 4 = 0 ∨ p % 4 = 1 ∨ p % 4 = 2 ∨ p % 4 = 3 := by omega
  rcases h with h | h | h | h
  · rw [h, show (p + 1) % 256 % 4 = 1 by omega]; exact opens_0
  · rw [h, show (p + 1) % 256 % 4 = 2 by omega]; exact opens_1
  · rw [h, show (p + 1) % 256 % 4 = 3 by omega]; exact opens_2
  · rw [h, show (p + 1) % 256 % 4 = 0 by omega]; exact opens_3
theorem opens_own (p : List Int) : opensB p (ofI p) = true := by
  unfold opensB
  exact beq_self_eq_true _

end Go.Proofs.YtjpmomdechibmaaGreatDoor

/-
  Law 13: what ChannelPays comes to, in plain values.
-/
namespace Go.Proofs.YtjpmomdechibmaaGreatDoor
set_option linter.unusedVariables false
set_option linter.unusedSimpArgs false
open Go.RowKit

section
variable {o c n x y j : Int} {h : Vector Int 32} {k : CountsV} {sa sb : List KeptV} {nw la lb : List MsgV} {q : List Int}
theorem bothB_itm : bothX false j [itm n j h false 4 false] = some (0, itm n j h false 4 false) := by
  unfold bothX
  have : bothB false j (itm n j h false 4 false) = true := by simp [bothB, itm]
  simp [List.findIdx?_cons, this]
theorem fulB_bad (ho : opensB q h.toList = false) : (eB o c x y sb nw lb k [itm n j h false 4 false]).fulfill j q = (eB o c x y sb nw lb k [itm n j h false 4 false], MsgV.zero, 132) := by
  rw [ful_some (c := eB o c x y sb nw lb k [itm n j h false 4 false]) bothB_itm, if_neg]
  show ¬ (opensB q h.toList = true)
  rw [ho]
  decide
theorem fulB_good (ho : opensB q h.toList = true) : (eB o c x y sb [] lb k [itm n j h false 4 false]).fulfill j q = (eB o c x y sb [⟨4, 7, j, 0, q, 0, 0⟩] lb k [itm n j h false 5 true], ⟨4, 7, j, 0, q, 0, 0⟩, 0) := by
  rw [ful_some (c := eB o c x y sb [] lb k [itm n j h false 4 false]) bothB_itm, if_pos (by exact ho)]
  rfl
theorem faiB_good {r : Int} (hr : 0 ≤ r ∧ r ≤ 65535) : (eB o c x y sb [] lb k [itm n j h false 4 false]).fail j r = (eB o c x y sb [⟨5, 7, j, 0, z32i, 0, r⟩] lb k [itm n j h false 5 false], ⟨5, 7, j, 0, z32i, 0, r⟩, 0) := by
  rw [fail_good (c := eB o c x y sb [] lb k [itm n j h false 4 false]) bothB_itm (by omega)]
  rfl
theorem offA_good (hn : 1 ≤ n ∧ n ≤ x) (hj : 0 ≤ j ∧ j ≤ 1000) {sg hd nt : Int} {aw f2 rv : Bool} :
    (eA o c x y sa [] la ⟨sg, hd, aw, j, nt, false, f2, rv⟩ []).offer n h 5 = (eA o c (x - n) y sa [pM n j h] la ⟨sg, hd, aw, j + 1, nt, false, f2, rv⟩ [itm n j h true 0 false], pM n j h, 0) := by
  have e : offerErr (eA o c x y sa [] la ⟨sg, hd, aw, j, nt, false, f2, rv⟩ []) n 5 = 0 := by
    unfold offerErr
    rw [if_neg (by show ¬ (false = true); decide), if_neg (by omega), if_neg (by omega), if_neg (by show ¬ (8 ≤ 0); decide), if_neg (by show ¬ (x < n); omega)]
  unfold Ch.offer
  rw [if_pos e]
  have a : (eA o c x y sa [] la ⟨sg, hd, aw, j, nt, false, f2, rv⟩ []).offered n h 5 = eA o c (x - n) y sa [] la ⟨sg, hd, aw, j + 1, nt, false, f2, rv⟩ [itm n j h true 0 false] := by
    show (Ch.mk (setA o c) ⟨sg, hd, aw, IntKind.u64.wrap (j + 1), nt, false, f2, rv⟩ (x - n) y [⟨⟨j, n, h, 5⟩, true, 0, false⟩] sa [] la) = _
    rw [wrapU (by omega) (by omega)]
    rfl
  rw [a]
  rfl
theorem pM_ok (hn : 1 ≤ n ∧ n ≤ 1125899906842624) (hj : 0 ≤ j ∧ j ≤ 1000) (hb : ∀ b ∈ h.toList, 0 ≤ b ∧ b ≤ 255) : MsgOk (pM n j h) :=
  msg_ok ⟨by decide, by decide⟩ ⟨by decide, by decide⟩ ⟨by omega, by omega⟩ ⟨by omega, by omega⟩ (by simp) hb ⟨by decide, by decide⟩ ⟨by decide, by decide⟩
theorem fulM_ok (hj : 0 ≤ j ∧ j ≤ 1000) (hp : q.length = 32) (hb : Bytes q) : MsgOk ⟨4, 7, j, 0, q, 0, 0⟩ :=
  msg_ok ⟨by decide, by decide⟩ ⟨by decide, by decide⟩ ⟨by omega, by omega⟩ ⟨by decide, by decide⟩ hp hb ⟨by decide, by decide⟩ ⟨by decide, by decide⟩
theorem faiM_ok (hj : 0 ≤ j ∧ j ≤ 1000) {r : Int} (hr : 0 ≤ r ∧ r ≤ 65535) : MsgOk ⟨5, 7, j, 0, z32i, 0, r⟩ :=
  msg_ok ⟨by decide, by decide⟩ ⟨by decide, by decide⟩ ⟨by omega, by omega⟩ ⟨by decide, by decide⟩ z32i_len z32i_bytes ⟨by decide, by decide⟩ ⟨by omega, by omega⟩
theorem newA : Ch.new (setA o c) = eA o c o (c - o) (List.replicate 17 .zero) [] [] .zero [] := rfl
theorem newB (ho : 0 ≤ o ∧ o ≤ c) (hc : c ≤ 1125899906842624) : Ch.new (setB o c) = eB o c o (c - o) (List.replicate 17 .zero) [] [] .zero [] := by
  show (Ch.mk (setB o c) .zero (IntKind.u64.wrap (c - o)) (c - IntKind.u64.wrap (c - o)) [] (List.replicate 17 .zero) [] []) = _
  rw [wrapU (by omega) (by omega), show c - (c - o) = o by omega]
  rfl
end
theorem offA_zero {c : Ch} {h : Vector Int 32} (hs : c.k.shutSaid = false) : c.offer 0 h 5 = (c, MsgV.zero, 1) := by
  have e : offerErr c 0 5 = 1 := by
    unfold offerErr
    rw [if_neg (by rw [hs]; decide), if_pos rfl]
  unfold Ch.offer
  rw [e, if_neg (by decide)]
theorem offA_many {c : Ch} {n : Int} {h : Vector Int 32} (hs : c.k.shutSaid = false) (hn : n ≠ 0) (hx : c.xs = []) (hl : c.loc < n) : c.offer n h 5 = (c, MsgV.zero, 61) := by
  have e : offerErr c n 5 = 61 := by
    unfold offerErr
    rw [if_neg (by rw [hs]; decide), if_neg hn, if_neg (by omega), if_neg (by rw [hx]; show ¬ (8 ≤ 0); decide), if_pos hl]
  unfold Ch.offer
  rw [e, if_neg (by decide)]
/-- The hash of a preimage. -/
def hO (p : Int) : Vector Int 32 := hvec (ofI (preI p))
theorem ofI_len (p : List Int) : (ofI p).length = 32 := sumI_len _
theorem ofI_bytes (p : List Int) : Bytes (ofI p) := sumI_bytes _
theorem hO_list (p : Int) : (hO p).toList = ofI (preI p) := hvec_list (ofI_len _)
/-- All is settled: what the ends have then. -/
structure Settled (P : Pr) (l r : Int) : Prop where
  loc : P.a.loc = l
  rem : P.a.rem = r
  xa : P.a.xs = []
  xb : P.b.xs = []
  bad : P.bad = false
/-- The way of an offer. -/
structure PayWay (o c n p : Int) (A1 : Ch) (M : MsgV) (P2 : Pr) : Prop where
  off : (Ch.new (setA o c)).offer n (hO p) 5 = (A1, M, 0)
  ok : MsgOk M
  go : Rests 500 ⟨A1, Ch.new (setB o c), [], [M], false⟩ P2
  none : P2.wa = [] ∧ P2.wb = [] ∧ P2.bad = false ∧ P2.b.news = []
  bad : ∀ q, opensB q (ofI (preI p)) = false → P2.b.fulfill 0 q = (P2.b, MsgV.zero, 132)
  pays : ∃ B F P3, P2.b.fulfill 0 (preI p) = (B, F, 0) ∧ MsgOk F ∧ Rests 500 ⟨P2.a, B, [F], [], false⟩ P3 ∧ Settled P3 (o - n) (c - (o - n))
  fails : ∃ B F P3, P2.b.fail 0 3 = (B, F, 0) ∧ MsgOk F ∧ Rests 500 ⟨P2.a, B, [F], [], false⟩ P3 ∧ Settled P3 o (c - o)
theorem cast_b {n : Nat} {a b b' : Ch} {wa wb : List MsgV} {bad : Bool} {Q : Pr} (e : b' = b) (r : Rests n ⟨a, b, wa, wb, bad⟩ Q) : Rests n ⟨a, b', wa, wb, bad⟩ Q := by
  rw [e]
  exact r
theorem pay_way {o c n : Int} (p : Int) (ho : 0 ≤ o ∧ o ≤ c) (hc : c ≤ 1125899906842624) (hn : 1 ≤ n ∧ n ≤ o) : ∃ A1 M P2, PayWay o c n p A1 M P2 := by
  have hb : ∀ b ∈ (hO p).toList, 0 ≤ b ∧ b ≤ 255 := by rw [hO_list]; exact ofI_bytes _
  have hn' : 1 ≤ n ∧ n ≤ 1125899906842624 := ⟨hn.1, by omega⟩
  obtain ⟨sa, sb, la, lb, ta, tb, r1⟩ := rests_first (o := o) (c := c) (n := n) (x := o - n) (y := c - o) (sg := 0) (j := 0) (h := hO p) (ra := false) (rb := false) (bad := false) (sa := List.replicate 17 .zero) (sb := List.replicate 17 .zero) (la := []) (lb := []) ⟨by decide, by decide⟩ hn' ⟨by decide, by decide⟩ (by omega) hb (told_zero _) (told_zero _)
  obtain ⟨sa1, sb1, la1, lb1, -, -, r2⟩ := rests_second (o := o) (c := c) (n := n) (x := o - n) (y := c - o) (sg := 0 + 1) (j := 0) (h := hO p) (pd := true) (bad := false) (sa := sa) (sb := sb) (la := la) (lb := lb) ⟨by decide, by decide⟩ ta tb (hfulA (p := preI p) ⟨by decide, by decide⟩ (preI_len p) (preI_bytes p) (by rw [hO_list]; exact opens_own _) ta (by decide))
  obtain ⟨sa2, sb2, la2, lb2, -, -, r3⟩ := rests_second (o := o) (c := c) (n := n) (x := o - n) (y := c - o) (sg := 0 + 1) (j := 0) (h := hO p) (pd := false) (bad := false) (sa := sa) (sb := sb) (la := la) (lb := lb) ⟨by decide, by decide⟩ ta tb (hfaiA (r := 3) ⟨by decide, by decide⟩ ⟨by decide, by decide⟩ ta (by decide))
  rw [show o - n + n = o by omega] at r1
  refine ⟨_, _, _, offA_good (h := hO p) ⟨hn.1, hn.2⟩ ⟨by decide, by decide⟩, pM_ok hn' ⟨by decide, by decide⟩ hb, cast_b (newB ho hc) r1, ⟨rfl, rfl, rfl, rfl⟩, ?_, ⟨_, _, _, fulB_good (j := 0) (by rw [hO_list]; exact opens_own _), fulM_ok (j := 0) ⟨by decide, by decide⟩ (preI_len p) (preI_bytes p), r2, ?_⟩, ⟨_, _, _, faiB_good (j := 0) (r := 3) ⟨by decide, by decide⟩, faiM_ok (j := 0) (r := 3) ⟨by decide, by decide⟩ ⟨by decide, by decide⟩, r3, ?_⟩⟩
  · intro q hq
    exact fulB_bad (by rw [hO_list]; exact hq)
  · refine ⟨rfl, ?_, rfl, rfl, rfl⟩
    show IntKind.u64.wrap (c - o + n) = _
    rw [wrapU (by omega) (by omega)]
    omega
  · refine ⟨?_, rfl, rfl, rfl, rfl⟩
    show IntKind.u64.wrap (o - n + n) = _
    rw [wrapU (by omega) (by omega)]
    omega

end Go.Proofs.YtjpmomdechibmaaGreatDoor

/-
  Law 13: the pair beside messages in blocks of their own.
-/
namespace Go.Proofs.YtjpmomdechibmaaGreatDoor
set_option linter.unusedVariables false
set_option linter.unusedSimpArgs false
open Go.RowKit

section
variable {w0 w w' : World} {p : Nat} {S : Nat → Prop} {a b a' b' : Ch} {wa wb : List MsgV} {bad : Bool}
theorem PrS.endA2 (h : PrS w0 w p S a b wa wb bad) (hT : Tb w0) : ∃ g S', w.cell? ⟨p, 0, none⟩ = some (.pointer (some ⟨g, 0, none⟩)) ∧ ChS w g S' a ∧ Apart S' ∧ New w0 w ∧ ¬ S' p ∧ ∀ w' a', ChS w' g (Fr S' w w') a' → Upd S' w w' → PrS w0 w' p (Fr S w w') a' b wa wb bad ∧ Upd S w w' := by
  obtain ⟨gA, gB, SA, SB, ua, ub, hP, h1, h2⟩ := h
  refine ⟨gA, SA, hP.cell.1, hP.two.A, hP.two.apA hT, hP.two.n, hP.off.a, fun w' a' hc u => ⟨⟨gA, gB, _, _, ua, ub, hP.opA hc u, ?_, ?_⟩, u.mono fun k _ hk => h1 k (.inl hk)⟩⟩
  · rintro k ((hk | hk) | hk)
    · exact .inl (h1 k (.inl hk))
    · exact .inr hk
    · exact .inl (h1 k (.inr hk))
  · have := hP.two.n.size
    have := u.size
    rintro k (hk | hk)
    · exact ⟨(h2 k hk).1, by have := (h2 k hk).2; omega⟩
    · exact ⟨by omega, hk.2⟩
theorem PrS.endB2 (h : PrS w0 w p S a b wa wb bad) (hT : Tb w0) : ∃ g S', w.cell? ⟨p, 1, none⟩ = some (.pointer (some ⟨g, 0, none⟩)) ∧ ChS w g S' b ∧ Apart S' ∧ New w0 w ∧ ¬ S' p ∧ ∀ w' b', ChS w' g (Fr S' w w') b' → Upd S' w w' → PrS w0 w' p (Fr S w w') a b' wa wb bad ∧ Upd S w w' := by
  obtain ⟨gA, gB, SA, SB, ua, ub, hP, h1, h2⟩ := h
  refine ⟨gB, SB, hP.cell.2.1, hP.two.B, hP.two.apB hT, hP.two.n, hP.off.b, fun w' a' hc u => ⟨⟨gA, gB, _, _, ua, ub, hP.opB hc u, ?_, ?_⟩, u.mono fun k _ hk => h1 k (.inr (.inl hk))⟩⟩
  · rintro k (hk | (hk | hk) | hk)
    · exact .inl (h1 k (.inl hk))
    · exact .inl (h1 k (.inr (.inl hk)))
    · exact .inr hk
    · exact .inl (h1 k (.inr (.inr hk)))
  · have := hP.two.n.size
    have := u.size
    rintro k (hk | hk)
    · exact ⟨(h2 k hk).1, by have := (h2 k hk).2; omega⟩
    · exact ⟨by omega, hk.2⟩
end
/-- Block p holds what it held. -/
def KeepP (p : Nat) (w w' : World) : Prop := ∀ i v, w.cell? ⟨p, i, none⟩ = some v → w'.cell? ⟨p, i, none⟩ = some v
/-- The pair P in block p, and beside it some messages, each in a block of its own. -/
def PrL (w0 w : World) (p : Nat) (P : Pr) (Ks : List (Nat × MsgV)) : Prop := ∃ S, PrD w0 w p S P ∧ (∀ q ∈ Ks, ¬ S q.1 ∧ MsB w q.1 q.2 ∧ w0.heap.size ≤ q.1) ∧ (Ks.map (·.1)).Nodup
section
variable {w0 w w' : World} {p K K2 : Nat} {S : Nat → Prop} {P P' Q : Pr} {Ks Ks' : List (Nat × MsgV)} {m m' m2 : MsgV} {q : Nat × MsgV}
theorem PrL.start (h : PrD w0 w p S P) : PrL w0 w p P [] := ⟨S, h, (fun q hq => by cases hq), List.nodup_nil⟩
theorem PrL.of (hk : ∀ q ∈ Ks, ¬ S q.1 ∧ MsB w q.1 q.2 ∧ w0.heap.size ≤ q.1) (hn : (Ks.map (·.1)).Nodup) (h : PrD w0 w' p (Fr S w w') P' ∧ Upd S w w') : PrL w0 w' p P' Ks := by
  refine ⟨_, h.1, fun q hq => ?_, hn⟩
  obtain ⟨h1, h2, h3⟩ := hk q hq
  refine ⟨?_, h2.upd h.2 h1, h3⟩
  rintro (hs | hs)
  · exact h1 hs
  · have := h2.lt
    omega
theorem PrL.new (h : PrL w0 w p P Ks) (u : New w w') : PrL w0 w' p P Ks := by
  obtain ⟨S, hP, hk, hn⟩ := h
  exact ⟨S, PrS.new hP u, fun q hq => ⟨(hk q hq).1, (hk q hq).2.1.new u, (hk q hq).2.2⟩, hn⟩
theorem PrL.n (h : PrL w0 w p P Ks) : New w0 w := by
  obtain ⟨S, ⟨gA, gB, SA, SB, ua, ub, hP, h1, h2⟩, -⟩ := h
  exact hP.two.n
theorem PrL.le (h : PrL w0 w p P Ks) : w0.heap.size ≤ w.heap.size := h.n.size
theorem PrL.msb (h : PrL w0 w p P Ks) (hq : (K, m) ∈ Ks) : MsB w K m := (h.choose_spec.2.1 _ hq).2.1
theorem PrL.drop (h : PrL w0 w p P (q :: Ks)) : PrL w0 w p P Ks := by
  obtain ⟨S, hP, hk, hn⟩ := h
  exact ⟨S, hP, fun r hr => hk r (List.mem_cons_of_mem _ hr), (List.nodup_cons.1 hn).2⟩
theorem PrL.perm (h : PrL w0 w p P Ks) (e : Ks.Perm Ks') : PrL w0 w p P Ks' := by
  obtain ⟨S, hP, hk, hn⟩ := h
  exact ⟨S, hP, fun r hr => hk r (e.mem_iff.2 hr), (e.map _).nodup_iff.1 hn⟩
theorem PrL.alloc (h : PrL w0 w p P Ks) : PrL w0 (w.alloc (.cells MsgV.zero.cells.toArray 30)) p P ((w.heap.size, MsgV.zero) :: Ks) := by
  have hl := h.le
  have n1 : New w (w.alloc (.cells MsgV.zero.cells.toArray 30)) := (Upd.refl _ _).alloc _
  obtain ⟨S, hP, hk, hn⟩ := h
  refine ⟨S, PrS.new hP n1, ?_, ?_⟩
  · intro r hr
    rcases List.mem_cons.1 hr with rfl | hr
    · refine ⟨?_, ms_alloc w MsgV.zero z32i_len, hl⟩
      intro hs
      obtain ⟨gA, gB, SA, SB, ua, ub, hP, h1, h2⟩ := hP
      have := (h2 _ hs).2
      exact absurd this (Nat.lt_irrefl _)
    · exact ⟨(hk r hr).1, (hk r hr).2.1.new n1, (hk r hr).2.2⟩
  · rw [List.map_cons, List.nodup_cons]
    refine ⟨?_, hn⟩
    intro hm
    obtain ⟨r, hr, he⟩ := List.mem_map.1 hm
    have := (hk r hr).2.1.lt
    omega
theorem PrL.put (h : PrL w0 w p P ((K, m) :: Ks)) (hm : m'.hash.length = 32) : PrL w0 (w.setCells K 0 m'.cells) p P ((K, m') :: Ks) := by
  obtain ⟨S, hP, hk, hn⟩ := h
  have u : Upd (· = K) w (w.setCells K 0 m'.cells) := upd_sets _
  obtain ⟨k1, k2, k3⟩ := hk (K, m) (List.mem_cons_self ..)
  refine ⟨S, PrS.put hP k1 k2.lt k3 u, ?_, hn⟩
  intro r hr
  rcases List.mem_cons.1 hr with rfl | hr
  · exact ⟨k1, k2.put hm, k3⟩
  · obtain ⟨h1, h2, h3⟩ := hk r (List.mem_cons_of_mem _ hr)
    refine ⟨h1, h2.upd u ?_, h3⟩
    intro e
    rw [List.map_cons, List.nodup_cons] at hn
    exact hn.1 (List.mem_map.2 ⟨r, hr, e⟩)
theorem PrL.swap {r : Nat × MsgV} (h : PrL w0 w p P (q :: r :: Ks)) : PrL w0 w p P (r :: q :: Ks) := h.perm (List.Perm.swap r q Ks)
theorem PrL.endA (h : PrL w0 w p P Ks) (hT : Tb w0) : ∃ g S', w.cell? ⟨p, 0, none⟩ = some (.pointer (some ⟨g, 0, none⟩)) ∧ ChS w g S' P.a ∧ Apart S' ∧ Tb w ∧ ∀ w' a', ChS w' g (Fr S' w w') a' → Upd S' w w' → PrL w0 w' p { P with a := a' } Ks ∧ KeepP p w w' := by
  obtain ⟨S, hP, hk, hn⟩ := h
  obtain ⟨g, S', h1, h2, h3, h4, h6, h5⟩ := PrS.endA2 hP hT
  exact ⟨g, S', h1, h2, h3, hT.new h4, fun w' a' hc u => ⟨.of hk hn (h5 w' a' hc u), fun i v hv => u.cell hv h6⟩⟩
theorem PrL.endB (h : PrL w0 w p P Ks) (hT : Tb w0) : ∃ g S', w.cell? ⟨p, 1, none⟩ = some (.pointer (some ⟨g, 0, none⟩)) ∧ ChS w g S' P.b ∧ Apart S' ∧ Tb w ∧ ∀ w' b', ChS w' g (Fr S' w w') b' → Upd S' w w' → PrL w0 w' p { P with b := b' } Ks ∧ KeepP p w w' := by
  obtain ⟨S, hP, hk, hn⟩ := h
  obtain ⟨g, S', h1, h2, h3, h4, h6, h5⟩ := PrS.endB2 hP hT
  exact ⟨g, S', h1, h2, h3, hT.new h4, fun w' b' hc u => ⟨.of hk hn (h5 w' b' hc u), fun i v hv => u.cell hv h6⟩⟩
theorem PrL.cells (h : PrL w0 w p P Ks) : ∃ gA gB, w.cell? ⟨p, 0, none⟩ = some (.pointer (some ⟨gA, 0, none⟩)) ∧ w.cell? ⟨p, 1, none⟩ = some (.pointer (some ⟨gB, 0, none⟩)) ∧ w.cell? ⟨p, 4, none⟩ = some (.bool P.bad) := by
  obtain ⟨S, ⟨gA, gB, SA, SB, ua, ub, hP, h1, h2⟩, -⟩ := h
  exact ⟨gA, gB, hP.cell.1, hP.cell.2.1, hP.cell.2.2.2.2⟩
theorem says0L (h : PrL w0 w p P Ks) (m : MsgV) (n : Int) (hm : MsgOk m) (hfew : P.wb.length < 1000000) :
    Calls Tryz.prog 14 #[.pointer (some ⟨p, 0, none⟩), .int .i64 0, .agg m.cells.toArray, .int .i64 n] w fun e w' => e = .returned (.tuple #[]) ∧ PrL w0 w' p { P with wb := if n = 0 then P.wb ++ [m] else P.wb } Ks := by
  obtain ⟨S, hP, hk, hn⟩ := h
  exact (says0_any w0 p S P.a P.b P.wa P.wb P.bad m n hm w hP hfew).mono fun e w' he => ⟨he.1, .of hk hn he.2⟩
theorem says1L (h : PrL w0 w p P Ks) (m : MsgV) (n : Int) (hm : MsgOk m) (hfew : P.wa.length < 1000000) :
    Calls Tryz.prog 14 #[.pointer (some ⟨p, 0, none⟩), .int .i64 1, .agg m.cells.toArray, .int .i64 n] w fun e w' => e = .returned (.tuple #[]) ∧ PrL w0 w' p { P with wa := if n = 0 then P.wa ++ [m] else P.wa } Ks := by
  obtain ⟨S, hP, hk, hn⟩ := h
  exact (says1_any w0 p S P.a P.b P.wa P.wb P.bad m n hm w hP hfew).mono fun e w' he => ⟨he.1, .of hk hn he.2⟩
theorem restsL (hT : Tb w0) (h : PrL w0 w p P Ks) (hr : Rests 500 P Q) :
    Calls Tryz.prog 26 #[.pointer (some ⟨p, 0, none⟩)] w fun e w' => e = .returned (.tuple #[]) ∧ PrL w0 w' p Q Ks := by
  obtain ⟨S, hP, hk, hn⟩ := h
  exact (rests_any w0 hT p S P Q w hP hr).mono fun e w' he => ⟨he.1, .of hk hn he.2⟩
end

end Go.Proofs.YtjpmomdechibmaaGreatDoor

/-
  Law 13: each end's calls, over the pair beside messages.
-/
namespace Go.Proofs.YtjpmomdechibmaaGreatDoor
set_option linter.unusedVariables false
set_option linter.unusedSimpArgs false
open Go.RowKit

theorem ptr_eq {v : Option Value} {g g' : Nat} (h : v = some (.pointer (some ⟨g, 0, none⟩))) (h' : v = some (.pointer (some ⟨g', 0, none⟩))) : g' = g := by
  rw [h] at h'
  injection h' with h'
  injection h' with h'
  injection h' with h'
  injection h' with h' _
  exact h'.symm
section
variable {w0 w : World} {p g0 : Nat} {P : Pr} {Ks : List (Nat × MsgV)}
theorem offer0L (hT : Tb w0) (H : PrL w0 w p P Ks) (hg : w.cell? ⟨p, 0, none⟩ = some (.pointer (some ⟨g0, 0, none⟩))) (n : Int) (h : List Int) (ex : Int) (hl : h.length = 32) (hb : Bytes h) (hn : 0 ≤ n ∧ n < 18446744073709551616) (hx : -9223372036854775808 ≤ ex ∧ ex ≤ 9223372036854775807) (hfew : P.a.news.length < 1000000 ∧ P.a.xs.length < 1000000) :
    Calls Tryz.prog 13 #[.pointer (some ⟨g0, 0, none⟩), .int .u64 n, .agg (hshV h).toArray, .int .i64 ex] w fun e w' =>
      e = .returned (.tuple #[.agg (P.a.offer n (hvec h) ex).2.1.cells.toArray, .int .i64 (P.a.offer n (hvec h) ex).2.2]) ∧ PrL w0 w' p { P with a := (P.a.offer n (hvec h) ex).1 } Ks ∧ KeepP p w w' := by
  obtain ⟨g, S', h1, h2, h3, h4, h5⟩ := H.endA hT
  obtain rfl := ptr_eq hg h1
  exact (offerH_any g S' P.a n h ex w h2 hl hb hn hx hfew).mono fun e w' he => ⟨he.1, h5 _ _ he.2.1 he.2.2⟩
theorem fulfill1L (hT : Tb w0) (H : PrL w0 w p P Ks) (hg : w.cell? ⟨p, 1, none⟩ = some (.pointer (some ⟨g0, 0, none⟩))) (id : Int) (pre : List Int) (hl : pre.length = 32) (hfew : P.b.news.length < 1000000) :
    Calls Tryz.prog 27 #[.pointer (some ⟨g0, 0, none⟩), .int .u64 id, .agg (hshV pre).toArray] w fun e w' =>
      e = .returned (.tuple #[.agg (P.b.fulfill id pre).2.1.cells.toArray, .int .i64 (P.b.fulfill id pre).2.2]) ∧ PrL w0 w' p { P with b := (P.b.fulfill id pre).1 } Ks ∧ KeepP p w w' := by
  obtain ⟨g, S', h1, h2, h3, h4, h5⟩ := H.endB hT
  obtain rfl := ptr_eq hg h1
  exact (fulfill_any g S' P.b id pre hl w h2 h4 hfew).mono fun e w' he => ⟨he.1, h5 _ _ he.2.1 he.2.2⟩
theorem fail1L (hT : Tb w0) (H : PrL w0 w p P Ks) (hg : w.cell? ⟨p, 1, none⟩ = some (.pointer (some ⟨g0, 0, none⟩))) (id r : Int) (hfew : P.b.news.length < 1000000) :
    Calls Tryz.prog 31 #[.pointer (some ⟨g0, 0, none⟩), .int .u64 id, .int .i64 r] w fun e w' =>
      e = .returned (.tuple #[.agg (P.b.fail id r).2.1.cells.toArray, .int .i64 (P.b.fail id r).2.2]) ∧ PrL w0 w' p { P with b := (P.b.fail id r).1 } Ks ∧ KeepP p w w' := by
  obtain ⟨g, S', h1, h2, h3, h4, h5⟩ := H.endB hT
  obtain rfl := ptr_eq hg h1
  exact (fail_any g S' P.b id r w h2 hfew).mono fun e w' he => ⟨he.1, h5 _ _ he.2.1 he.2.2⟩
theorem base0L (hT : Tb w0) (H : PrL w0 w p P Ks) (hg : w.cell? ⟨p, 0, none⟩ = some (.pointer (some ⟨g0, 0, none⟩))) : Calls Tryz.prog 21 #[.pointer (some ⟨g0, 0, none⟩)] w (Makes (.agg #[.int .u64 P.a.loc, .int .u64 P.a.rem]) w) := by
  obtain ⟨g, S', h1, h2, -⟩ := H.endA hT
  obtain rfl := ptr_eq hg h1
  exact baseS_any g S' P.a w h2
/-- Live of an end with nothing live. -/
theorem live0L_none (hT : Tb w0) (H : PrL w0 w p P Ks) (hg : w.cell? ⟨p, 0, none⟩ = some (.pointer (some ⟨g0, 0, none⟩))) (hx : P.a.xs = []) : Calls Tryz.prog 17 #[.pointer (some ⟨g0, 0, none⟩)] w fun e w' => (∃ a k, e = .returned (.slice a 0 k)) ∧ New w w' := by
  obtain ⟨g, S', h1, h2, -⟩ := H.endA hT
  obtain rfl := ptr_eq hg h1
  refine (liveS_any g S' P.a w h2).mono ?_
  rintro e w' ⟨u, rfl, hn, hu⟩
  rcases hu with ⟨a, k, rfl, _⟩ | ⟨g', cap, rfl, _, _⟩
  · exact ⟨⟨a, k, rfl⟩, hn⟩
  · rw [hx]; exact ⟨⟨_, cap, rfl⟩, hn⟩
theorem live1L_none (hT : Tb w0) (H : PrL w0 w p P Ks) (hg : w.cell? ⟨p, 1, none⟩ = some (.pointer (some ⟨g0, 0, none⟩))) (hx : P.b.xs = []) : Calls Tryz.prog 17 #[.pointer (some ⟨g0, 0, none⟩)] w fun e w' => (∃ a k, e = .returned (.slice a 0 k)) ∧ New w w' := by
  obtain ⟨g, S', h1, h2, -⟩ := H.endB hT
  obtain rfl := ptr_eq hg h1
  refine (liveS_any g S' P.b w h2).mono ?_
  rintro e w' ⟨u, rfl, hn, hu⟩
  rcases hu with ⟨a, k, rfl, _⟩ | ⟨g', cap, rfl, _, _⟩
  · exact ⟨⟨a, k, rfl⟩, hn⟩
  · rw [hx]; exact ⟨⟨_, cap, rfl⟩, hn⟩
end

end Go.Proofs.YtjpmomdechibmaaGreatDoor
