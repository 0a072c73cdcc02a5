/-
  What a link can bear behind what it says; messages that may be.
-/
import Derived.Test.YtainkaojnhfldaaGreatDoorLk9
import Derived.Test.YtainkaojnhfldaaGreatDoorMcj
import Derived.Test.YtainkaojnhfldaaGreatDoorMcf
set_option linter.unusedVariables false
set_option linter.unusedSimpArgs false
namespace Go.Proofs.YtainkaojnhfldaaGreatDoor
open Go.RowKit

theorem may_addN {c i a e : Int} (h : List Int) (ha : a ≤ 1125899906842624) (he : 0 ≤ e ∧ e ≤ 1073741824) : mayMsg ⟨3, c, i, a, h, e, 0⟩ = true := by
  unfold mayMsg
  show (if e < 0 ∨ 1073741824 < e ∨ (0 : Int) < 0 ∨ 65535 < (0 : Int) ∨ 1125899906842624 < a then false else decide (zeros _ _ = kindMsg 3)) = true
  rw [if_neg (by omega)]
  kernel_rfl
theorem may_signN (c : Int) (T : List Int) {n : Int} (hn : 0 ≤ n ∧ n ≤ 65535) : mayMsg ⟨6, c, 0, 0, T, 0, n⟩ = true := by
  unfold mayMsg
  show (if (0 : Int) < 0 ∨ 1073741824 < (0 : Int) ∨ n < 0 ∨ 65535 < n ∨ 1125899906842624 < (0 : Int) then false else decide (zeros _ _ = kindMsg 6)) = true
  rw [if_neg (by omega)]
  kernel_rfl
theorem sayOk_mk {k c i a e n : Int} {h : List Int} (hk : 0 ≤ k ∧ k < 256) (hc : 0 ≤ c ∧ c < 4294967296) (hi : 0 ≤ i ∧ i < 18446744073709551616) (ha : 0 ≤ a ∧ a ≤ 1125899906842624) (hl : h.length = 32) (hb : ∀ b ∈ h, 0 ≤ b ∧ b ≤ 255) (he : 0 ≤ e ∧ e ≤ 1073741824) (hn : 0 ≤ n ∧ n ≤ 65535) (hm : mayMsg ⟨k, c, i, a, h, e, n⟩ = true) : SayOk ⟨k, c, i, a, h, e, n⟩ := by
  refine ⟨⟨⟨?_, hc, hi, ⟨ha.1, ?_⟩, hl, hb, ?_, ?_⟩, ⟨he.1, ?_⟩, ⟨hn.1, ?_⟩⟩, hm, hk⟩
  · show -9223372036854775808 ≤ k ∧ k ≤ 9223372036854775807
    omega
  · show a < 18446744073709551616
    omega
  · show -9223372036854775808 ≤ e ∧ e ≤ 9223372036854775807
    omega
  · show -9223372036854775808 ≤ n ∧ n ≤ 9223372036854775807
    omega
  · show e < 4294967296
    omega
  · show n < 65536
    omega
/-- A link that has said at most n messages since it was new. -/
structure LkB (l : Lk) (n : Nat) : Prop where
  dead : l.dead = false
  waits : l.waits = false
  fused : l.j.fused = false
  off : l.j.off = false
  many : 0 ≤ l.j.many ∧ l.j.many ≤ n
  len : l.j.bs.size ≤ 2000 * n
  out : l.out.size ≤ 2000 * n
theorem LkB.ok {l : Lk} {n : Nat} (h : LkB l n) (hn : n ≤ 100000000) : LkOk l := ⟨h.dead, h.waits, h.fused, h.off, ⟨h.many.1, by have := h.many.2; omega⟩, by have := h.len; omega, by have := h.out; omega⟩
theorem LkB.mono {l : Lk} {n m : Nat} (h : LkB l n) (hn : n ≤ m) : LkB l m := ⟨h.dead, h.waits, h.fused, h.off, ⟨h.many.1, by have := h.many.2; omega⟩, by have := h.len; omega, by have := h.out; omega⟩
theorem LkB.new (c : Ch) : LkB (.new c) 0 := ⟨rfl, rfl, rfl, rfl, ⟨Int.le_refl _, Int.le_refl _⟩, Nat.le_refl _, Nat.le_refl _⟩
theorem LkB.acts {l : Lk} {n : Nat} (h : LkB l n) {c' : Ch} {rec : ByteArray} {m : MsgV} {er : Int} (hr : rec.size ≤ 1024) (hs : er = 0 → SayOk m) : LkB (l.acts c' rec m er) (n + 1) := by
  unfold Lk.acts
  split
  · rename_i he
    have hz := (hs he).size
    have hp := putI_size l.j.many.toNat rec
    have h1 := h.len
    have h2 := h.out
    have h3 := h.many
    refine ⟨h.dead, h.waits, h.fused, h.off, ⟨?_, ?_⟩, ?_, ?_⟩
    · show 0 ≤ l.j.many + 1
      omega
    · show l.j.many + 1 ≤ ((n + 1 : Nat) : Int)
      omega
    · show (l.j.bs ++ putI l.j.many.toNat rec).size ≤ _
      rw [ByteArray.size_append]
      omega
    · show (l.out ++ sayS m).size ≤ _
      rw [ByteArray.size_append]
      omega
  · have := h.mono (Nat.le_succ n)
    exact ⟨this.dead, this.waits, this.fused, this.off, this.many, this.len, this.out⟩
theorem LkB.offers {l : Lk} {n : Nat} (h : LkB l n) {a x : Nat} {hh : List Int} (hl : hh.length = 32) (hs : (l.c.offer a (hvec hh) x).2.2 = 0 → SayOk (l.c.offer a (hvec hh) x).2.1) : LkB (l.offers a x hh) (n + 1) := h.acts (join4_size hl) hs
theorem LkB.shut {l : Lk} {n : Nat} (h : LkB l n) (hs : l.c.shut.2.2 = 0 → SayOk l.c.shut.2.1) : LkB l.shut (n + 1) := h.acts (by rw [numS_size]; decide) hs
/-- A link that is new, whole. -/
theorem NewL.whole {w : World} {B g : Nat} {s : SetupV} {l : LinkV} (h : NewL w B g s l) (hs : s.Ok) (hm : s.may) : LkS w g (fun i => i = g ∨ i = l.sp ∨ i = l.en ∨ i = l.lo) (.new (Ch.new s)) := by
  have hc := chS_new h.ch hs hm
  have hj := JoS.fresh h.jo
  have hat : LkR w g ((Lk.new (Ch.new s)).v l.sp l.en l.lo) := by
    have := h.lk
    rw [h.isNew] at this
    exact this
  have e1 := h.ne
  refine ⟨l.sp, l.en, l.lo, _, _, ⟨hat, h.sp, hc, hj, .inl rfl, .inr (.inl rfl), fun k e => .inr (.inr (.inl e)), fun k e => .inr (.inr (.inr e)), ?_, ?_, ?_, ?_, ?_, ?_⟩⟩
  · show ¬ g = l.en
    omega
  · show ¬ g = l.lo
    omega
  · show ¬ l.sp = l.en
    omega
  · show ¬ l.sp = l.lo
    omega
  · intro k e e'
    have e : k = l.en := e
    have e' : k = l.lo := e'
    omega
  · have h1 := blk_lt h.lk
    have h2 := blk_lt h.sp
    have h3 := blk_lt h.ch.at_
    have h4 := blk_lt h.jo
    rintro k (e | e | e | e) <;> rw [e]
    · exact h1
    · exact h2
    · exact h3
    · exact h4
end Go.Proofs.YtainkaojnhfldaaGreatDoor
namespace Go.Proofs.YtainkaojnhfldaaGreatDoor
open Go.RowKit

theorem setA_mayT {ours cap : Int} (h : 1 ≤ cap ∧ cap ≤ 1125899906842624 ∧ ours ≤ cap) : (setAT ours cap).may := ⟨h.1, h.2.1, h.2.2, by show 1 ≤ 64; decide, by show 1 ≤ 64; decide⟩
theorem setB_mayT {ours cap : Int} (ho : 0 ≤ ours) (h : 1 ≤ cap ∧ cap ≤ 1125899906842624 ∧ ours ≤ cap) : (setBT ours cap).may := by
  refine ⟨h.1, h.2.1, ?_, by show 1 ≤ 64; decide, by show 1 ≤ 64; decide⟩
  show IntKind.u64.wrap (cap - ours) ≤ cap
  rw [wrapU (by omega) (by omega)]
  omega
def pairC (x y : Value) : List Value := [x, y, .string ⟨#[]⟩, .string ⟨#[]⟩, .bool false]
/-- The first link of a pair. -/
structure Lt (w0 w : World) (p g : Nat) (S : Nat → Prop) (L : Lk) : Prop where
  cell : w.cell? ⟨p, 0, none⟩ = some (.pointer (some ⟨g, 0, none⟩))
  lk : LkS w g S L
  ge : ∀ i, S i → w0.heap.size ≤ i
  pge : w0.heap.size ≤ p
  pS : ¬ S p
  plt : p < w.heap.size
  new : New w0 w
theorem Lt.op {w0 w w' : World} {p g : Nat} {S : Nat → Prop} {L L' : Lk} (h : Lt w0 w p g S L) (u : Upd S w w') (hl : LkS w' g (Fr S w w') L') : Lt w0 w' p g (Fr S w w') L' := by
  have hz := h.new.size
  have hp := h.plt
  exact ⟨u.cell h.cell h.pS, hl, fun i hi => hi.elim (h.ge i) (fun e => by omega), h.pge, fun e => e.elim h.pS (fun e => by omega), Nat.lt_of_lt_of_le hp u.size, h.new.then u (fun i hi e => by have := h.ge i e; omega)⟩
theorem Lt.opS {w0 w w' : World} {p g : Nat} {S : Nat → Prop} {L L' : Lk} (h : Lt w0 w p g S L) (u : Upd S w w') (hl : LkS w' g S L') : Lt w0 w' p g S L' :=
  ⟨u.cell h.cell h.pS, hl, h.ge, h.pge, h.pS, Nat.lt_of_lt_of_le h.plt u.size, h.new.then u (fun i hi e => by have := h.ge i e; omega)⟩
theorem Lt.nw {w0 w w' : World} {p g : Nat} {S : Nat → Prop} {L : Lk} (h : Lt w0 w p g S L) (u : New w w') : Lt w0 w' p g S L :=
  ⟨u.cell h.cell (fun h => h), h.lk.new u, h.ge, h.pge, h.pS, Nat.lt_of_lt_of_le h.plt u.size, h.new.trans u⟩
def BegSt (w2 : World) (p : Nat) (sA : SetupV) (i : Nat) (w : World) : Prop :=
  Upd (· = p) w2 w ∧ ∃ x y, w.heap[p]? = some (.cells (pairC x y).toArray 49 (0, 0)) ∧ (1 ≤ i → ∃ g S, x = .pointer (some ⟨g, 0, none⟩) ∧ LkS w g S (.new (Ch.new sA)) ∧ (∀ k, S k → w2.heap.size ≤ k))
attribute [local go_sem ↓ high] st_st2_foldT al_st2_foldT ld_setup_fold
attribute [local go_sem] rowN_drew st_st2T al_st2T ld_setup
set_option maxRecDepth 100000 in
set_option maxHeartbeats 2000000 in
theorem begin18 (ours cap : Int) (ho : 0 ≤ ours ∧ ours < 18446744073709551616) (hc : 0 ≤ cap ∧ cap < 18446744073709551616) (hm : 1 ≤ cap ∧ cap ≤ 1125899906842624 ∧ ours ≤ cap) (w : World) :
    Calls Tryz.prog 13 #[.int .u64 ours, .int .u64 cap] w fun e w' => ∃ p g S, e = .returned (.pointer (some ⟨p, 0, none⟩)) ∧ Lt w w' p g S (.new (Ch.new (setAT ours cap))) := by
  have hokA := setA_okT ho hc
  have hokB := setB_okT (ours := ours) hc
  have hmA := setA_mayT hm
  have hmB := setB_mayT ho.1 hm
  go_enter Tryz.func13, Tryz.ntmps13
  go_wp2_with fail
  obtain ⟨wp, hwp⟩ : ∃ wp : World, wp = w.alloc (.cells #[.pointer none, .pointer none, .string ⟨#[]⟩, .string ⟨#[]⟩, .bool false] 49) := ⟨_, rfl⟩
  have hp0 : wp.heap[w.heap.size]? = some (.cells (pairC (.pointer none) (.pointer none)).toArray 49 (0, 0)) := by rw [hwp]; exact blk_alloc _ _
  have np : New w wp := by rw [hwp]; exact (Upd.refl _ _).alloc _
  rw [← hwp]
  clear hwp
  obtain ⟨p, hpe⟩ : ∃ p, p = w.heap.size := ⟨_, rfl⟩
  rw [← hpe] at hp0 ⊢
  have hpl : w.heap.size ≤ p := by omega
  clear hpe
  refine (setups_anyT ours cap wp).mono ?_
  rintro e w1 ⟨rfl, n1⟩
  obtain ⟨hst, hF⟩ := st2_freshT (blk_alloc w1 (.cells zSt2T.toArray 80)) (s := setAT ours cap) (t := setBT ours cap) rfl rfl
  have n2 : New wp ((w1.alloc (.cells zSt2T.toArray 80)).setCells w1.heap.size 0 (sets2T (setAT ours cap) (setBT ours cap))) := (n1.alloc _).then (upd_sets _) (fun i hi e => by have := n1.size; omega)
  have hpT : p < w1.heap.size := Nat.lt_of_lt_of_le (blk_lt hp0) n1.size
  obtain ⟨sA, hsA⟩ : ∃ sA, sA = setAT ours cap := ⟨_, rfl⟩
  obtain ⟨sB, hsB⟩ : ∃ sB, sB = setBT ours cap := ⟨_, rfl⟩
  rw [← hsA] at hst hF n2 hokA hmA ⊢
  rw [← hsB] at hst hF n2 hokB hmB ⊢
  have HSA := hide hsA
  clear n1 hsA hsB
  go_upto_region 3 with fail
  generalize (w1.alloc (.cells zSt2T.toArray 80)).setCells w1.heap.size 0 (sets2T sA sB) = w2 at hF n2 ⊢
  generalize w1.heap.size = T at hF hpT ⊢
  clear hst w1
  have hp2 := n2.old hp0 (fun h => h)
  have N2 := hide (np.trans n2)
  have HF := hide hF
  have hwz := (np.trans n2).size
  have H0 : Hid (BegSt w2 p sA 0 w2) := hide ⟨Upd.refl _ _, _, _, hp2, fun h => by omega⟩
  have HO := hide (And.intro hokA (And.intro hokB (And.intro hmA hmB)))
  have hpt : p < w2.heap.size := blk_lt hp2
  clear n2 np hp0 hF hp2 hokA hokB hmA hmB
  go_wp2_with fail
  go_loopw [7] (fun iv wr => ∃ i : Nat, iv = .int .i64 (i : Int) ∧ i ≤ 2 ∧ Hid (BegSt w2 p sA i wr)) (fun iv _ => 2 - (intOf iv).toNat)
  case atStart => exact ⟨0, rfl, by omega, H0⟩
  case round =>
    obtain ⟨i, rfl, hi, hrel⟩ := hrel
    obtain ⟨wq, rfl⟩ : ∃ wq : World, wq = wr := ⟨_, rfl⟩
    obtain ⟨ur, x, y, hp, hL⟩ := unhide hrel
    have hFq := (unhide HF).upd ur (fun e => by omega)
    have hzq := ur.size
    rcases (by omega : i = 0 ∨ i = 1 ∨ i = 2) with rfl | rfl | rfl
    · rw [show ((0 : Nat) : Int) = 0 from rfl]
      have r0 := hFq.row0
      have hnew := newL_any sA (unhide HO).1 wq.drew
      have HQ := hide (And.intro ur hp)
      clear ur hp hL hFq hrel
      go_wp2_with (with_reducible first | (first | refine' tw1 (ido ?_) ?_ | refine' tw2 (ido ?_) ?_); rotate_left | refine' tw3 (ido ?_) | rfl | apply tn | refine' tw4 ?_)
      refine hnew.mono ?_
      rintro e w3 (⟨-, g, l, rfl, hN, n3⟩ | ⟨hm', -⟩)
      case inr => exact absurd (unhide HO).2.2.1 hm'
      obtain ⟨ur, hp⟩ := unhide HQ
      have n3 : New wq w3 := n3.ofDrew
      have hp3 := n3.old hp (fun h => h)
      have f0 := blk_free hp3 0
      have c0 : w3.cell? ⟨p, 0, none⟩ = some x := blk_cell hp3 0
      have hput : (w3.setCell ⟨p, 0, none⟩ (.pointer (some ⟨g, 0, none⟩))).heap[p]? = some (.cells (pairC (.pointer (some ⟨g, 0, none⟩)) y).toArray 49 (0, 0)) := blk_set hp3 0 (.pointer (some ⟨g, 0, none⟩))
      have u4 : Upd (· = p) w3 (w3.setCell ⟨p, 0, none⟩ (.pointer (some ⟨g, 0, none⟩))) := (Upd.refl _ _).set1 _ _
      have hw := hN.whole (unhide HO).1 (unhide HO).2.2.1
      have hge := hN.ge
      have hge : wq.heap.size ≤ g ∧ wq.heap.size ≤ l.sp ∧ wq.heap.size ≤ l.en ∧ wq.heap.size ≤ l.lo := hge
      have hSg : ∀ k, (k = g ∨ k = l.sp ∨ k = l.en ∨ k = l.lo) → w2.heap.size ≤ k := by
        rintro k (e | e | e | e) <;> omega
      have hw4 := hw.upd u4 (fun k hk e => by have := hSg k hk; omega)
      have H4 : Hid (BegSt w2 p sA 1 (w3.setCell ⟨p, 0, none⟩ (.pointer (some ⟨g, 0, none⟩)))) := hide ⟨(ur.trans (n3.mono (fun _ _ h => h.elim))).trans u4, _, _, hput, fun _ => ⟨g, _, rfl, hw4, hSg⟩⟩
      have d0 : (w3.setCell ⟨p, 0, none⟩ (.pointer (some ⟨g, 0, none⟩))).cell? ⟨p, 0, none⟩ = some (.pointer (some ⟨g, 0, none⟩)) := blk_cell hput 0
      clear HQ ur hp n3 hp3 hput u4 hw hge hSg hw4 hN r0 hnew
      go_wp2_with (with_reducible first | (first | refine' tw1 (ido ?_) ?_ | refine' tw2 (ido ?_) ?_); rotate_left | refine' tw3 (ido ?_) | rfl | apply tn | refine' tw4 ?_)
      go_roundw
      case rel => exact ⟨1, rfl, by omega, H4⟩
      case measure => simp [intOf]
    · rw [show ((1 : Nat) : Int) = 1 from rfl]
      have r1 := hFq.row1
      have hnew := newL_any sB (unhide HO).2.1 wq.drew
      have HQ := hide (And.intro ur (And.intro hp hL))
      clear ur hp hL hFq hrel
      go_wp2_with (with_reducible first | (first | refine' tw1 (ido ?_) ?_ | refine' tw2 (ido ?_) ?_); rotate_left | refine' tw3 (ido ?_) | rfl | apply tn | refine' tw4 ?_)
      refine hnew.mono ?_
      rintro e w3 (⟨-, g, l, rfl, hN, n3⟩ | ⟨hm', -⟩)
      case inr => exact absurd (unhide HO).2.2.2 hm'
      obtain ⟨ur, hp, hL⟩ := unhide HQ
      have n3 : New wq w3 := n3.ofDrew
      have hp3 := n3.old hp (fun h => h)
      have f0 := blk_free hp3 1
      have c0 : w3.cell? ⟨p, 1, none⟩ = some y := blk_cell hp3 1
      have hput : (w3.setCell ⟨p, 1, none⟩ (.pointer (some ⟨g, 0, none⟩))).heap[p]? = some (.cells (pairC x (.pointer (some ⟨g, 0, none⟩))).toArray 49 (0, 0)) := blk_set hp3 1 (.pointer (some ⟨g, 0, none⟩))
      have u4 : Upd (· = p) w3 (w3.setCell ⟨p, 1, none⟩ (.pointer (some ⟨g, 0, none⟩))) := (Upd.refl _ _).set1 _ _
      have d0 : (w3.setCell ⟨p, 1, none⟩ (.pointer (some ⟨g, 0, none⟩))).cell? ⟨p, 1, none⟩ = some (.pointer (some ⟨g, 0, none⟩)) := blk_cell hput 1
      have H4 : Hid (BegSt w2 p sA 2 (w3.setCell ⟨p, 1, none⟩ (.pointer (some ⟨g, 0, none⟩)))) := hide (by
        obtain ⟨g0, S0, e0, h0, hge⟩ := hL (by omega)
        exact ⟨(ur.trans (n3.mono (fun _ _ h => h.elim))).trans u4, _, _, hput, fun _ => ⟨g0, S0, e0, (h0.new n3).upd u4 (fun k hk e => by have := hge k hk; omega), hge⟩⟩)
      clear HQ ur hp n3 hp3 hput u4 hN r1 hnew hL
      go_wp2_with (with_reducible first | (first | refine' tw1 (ido ?_) ?_ | refine' tw2 (ido ?_) ?_); rotate_left | refine' tw3 (ido ?_) | rfl | apply tn | refine' tw4 ?_)
      go_roundw
      case rel => exact ⟨2, rfl, by omega, H4⟩
      case measure => simp [intOf]
    · rw [show ((2 : Nat) : Int) = 2 from rfl]
      have HQ := hide (And.intro ur (And.intro hp hL))
      clear ur hp hL hFq hrel
      go_wp2_with (with_reducible first | (first | refine' tw1 (ido ?_) ?_ | refine' tw2 (ido ?_) ?_); rotate_left | refine' tw3 (ido ?_) | rfl | apply tn | refine' tw4 ?_)
      go_ret
      obtain ⟨ur, hp, hL⟩ := unhide HQ
      obtain ⟨g0, S0, e0, h0, hge⟩ := hL (by omega)
      rw [← unhide HSA]
      refine ⟨p, g0, S0, rfl, ⟨?_, h0, fun i hi => by have := hge i hi; omega, hpl, fun e => by have := hge _ e; omega, blk_lt hp, (unhide N2).then ur (fun i hi e => by omega)⟩⟩
      rw [blk_cell hp 0, e0]
      rfl
end Go.Proofs.YtainkaojnhfldaaGreatDoor
