/-
  shown: that funds go into a channel.
-/
import Derived.Test.YtainkaojnhfldaaGreatDoorNd9
import Derived.Test.YtainkaojnhfldaaGreatDoorMba
set_option linter.unusedVariables false
set_option linter.unusedSimpArgs false
namespace Go.Proofs.YtainkaojnhfldaaGreatDoor
open Go.RowKit

def e0 : ByteArray := ⟨#[]⟩
/-- A setup of three numbers. -/
def SetupV.of (c a b : Int) : SetupV := ⟨c, a, b, z32i, e0, e0⟩
theorem of_ok (c a b : Int) (h1 : 0 ≤ c ∧ c < 4294967296) (h2 : 0 ≤ a ∧ a < 18446744073709551616) (h3 : 0 ≤ b ∧ b < 18446744073709551616) : (SetupV.of c a b).Ok := ⟨h1, h2, h3, z32i_len⟩
def bdSet (p : Array (Nat × Value)) : Sem Value := Instr.build 34 p
theorem bd_set_fold (p : Array (Nat × Value)) : Instr.build 34 p = bdSet p := rfl
theorem bd_set3 (c a b : Int) (w : World) : (bdSet #[(0, .int .u32 c), (1, .int .u64 a), (2, .int .u64 b)]).run Tryz.prog w = .ok (.agg (SetupV.of c a b).cells.toArray) w := run_build w _ _ _ (by kernel_rfl)
theorem bd_set2 (c a : Int) (w : World) : (bdSet #[(0, .int .u32 c), (1, .int .u64 a)]).run Tryz.prog w = .ok (.agg (SetupV.of c a 0).cells.toArray) w := run_build w _ _ _ (by kernel_rfl)
def bdRow3 (p : Array (Nat × Value)) : Sem Value := Instr.build 41 p
theorem bd_row3_fold (p : Array (Nat × Value)) : Instr.build 41 p = bdRow3 p := rfl
theorem bd_row3 (c a b : Int) (w : World) : (bdRow3 #[(0, .int .u32 c), (1, .int .u64 a), (2, .int .u64 b)]).run Tryz.prog w = .ok (.agg (RowV.cells ⟨c, a, b, 0, false⟩).toArray) w := run_build w _ _ _ (by kernel_rfl)
def eqRow (x y : Value) : Sem Value := binOp .eql 41 x y
theorem eq_row_fold (x y : Value) : binOp .eql 41 x y = eqRow x y := rfl
theorem eq_row_shown (w : World) : (eqRow (.agg (RowV.cells ⟨1, 4, 5, 0, false⟩).toArray) (.agg (RowV.cells ⟨1, 4, 5, 0, false⟩).toArray)).run Tryz.prog w = .ok (.bool true) w := by kernel_rfl
attribute [local go_sem ↓ high] bd_set_fold bd_row3_fold eq_row_fold ld_row_fold
attribute [local go_sem] bd_set3 bd_set2 bd_row3 eq_row_shown ld_row rowN_drew

theorem addErr_ok {R : RelV} {ps : List PeerV} {s : SetupV} (h1 : R.drains = false) (h2 : ps.length < 8) (h3 : ∀ p ∈ ps, p.ch ≠ s.ch) (h4 : s.may) : addErr R ps s = 0 := by
  unfold addErr
  rw [if_neg (by simp [h1]), if_neg (by omega), if_neg (by rintro ⟨p, hp, he⟩; exact h3 p hp he), if_pos h4]
theorem openErr_ok {N : NodeV} {R : RelV} {ps : List PeerV} {s : SetupV} (h0 : N.drains = false) (h1 : R.drains = false) (h2 : ps.length < 8) (h3 : ∀ p ∈ ps, p.ch ≠ s.ch) (h4 : s.may) (h5 : s.ours ≤ N.funds) : openErr N R ps s = 0 := by
  unfold openErr
  rw [if_neg (by simp [h0]), if_neg (by have := h4.2.2.1; omega), if_neg (by omega), addErr_ok h1 h2 h3 h4]
theorem NewR.le {w : World} {B g : Nat} {r : RelV} (h : NewR w B g r) : B ≤ g := by
  obtain ⟨a, p, d, bb, m1, m2, m3, m4, i1, i2, i3, i4, e1, e2, e3, e4, l⟩ := h
  omega
/-- A node that is new. -/
theorem newNode_I {w : World} {B g r : Nat} {f : Int} {R : RelV} (hn : NoR w g (.new r f)) (hR : NewR w B r R) : NodI w g (.new r f) R [] :=
  ⟨hn, hR.at_, ⟨rfl, .inl ⟨hR.peers, rfl⟩⟩, (fun p hp => by cases hp), by rw [hR.bs]; have := hR.lt; have := hR.le; omega⟩
theorem newCh_I {w : World} {g : Nat} {s : SetupV} (h : ChR w g (.new s)) : ChI w g (.new s) [] := ⟨h, ⟨rfl, .inl ⟨rfl, rfl⟩⟩⟩
theorem rowOf_new {N : NodeV} {ps : List PeerV} {i : Nat} {p : PeerV} {s : SetupV} (hp : ps[i]? = some p) (hc : p.c = .new s) (hs : N.swept[i]? = some false) : rowOf N ps (fun _ => []) i = ⟨s.ch, s.ours, s.cap - s.ours, 0, false⟩ := by
  unfold rowOf
  rw [hp]
  simp only
  rw [if_neg (by rw [hs]; decide), hc]
  rfl
theorem totF_new {N : NodeV} {ps : List PeerV} {i : Nat} {p : PeerV} {s : SetupV} (hp : ps[i]? = some p) (hc : p.c = .new s) (hs : N.swept[i]? = some false) (h0 : 0 ≤ s.ours ∧ s.ours < 18446744073709551616) : totF N ps (fun _ => []) i = some s.ours := by
  unfold totF
  rw [if_neg (by rw [hs]; decide), hp, Option.map_some, hc]
  have : IntKind.u64.wrap ((ChanV.new s).loc + sumI64 (amts true false []) 0) = s.ours := by
    show IntKind.u64.wrap (s.ours + 0) = s.ours
    rw [Int.add_zero]
    exact wrapU h0.1 (by omega)
  rw [this]

/-- A row of an owned slice, whole. -/
theorem owns_rowN {α : Type} (f : α → List Value) (k : Nat) (hf : ∀ x, (f x).length = k) {w : World} {base : Nat} {T : TypeId} {v : Value} {n : Nat} {X : List α} (h : w.ownsRow base T k v n (X.flatMap f)) (hn : n = X.length) {i : Nat} {x : α} (hi : X[i]? = some x) :
    ∃ g cap, v = .slice (some ⟨g, 0, none⟩) n cap ∧ base ≤ g ∧ rowN w g (i * k) k = some (f x).toArray := by
  have hlt := (List.getElem?_eq_some_iff.1 hi).1
  rcases h.2 with ⟨e, e0⟩ | ⟨g, cap, cur, e, hb, hg, hc, hz, hs, ht⟩
  · omega
  · have h1 := Nat.mul_le_mul_right k (show i + 1 ≤ n from by omega)
    have h2 := Nat.mul_le_mul_right k hc
    rw [Nat.succ_mul] at h1
    refine ⟨g, cap, e, hb, ?_⟩
    rw [rowN_blk hg (i * k) k (by omega)]
    congr 1
    apply Array.ext'
    apply List.ext_getElem?
    intro j
    by_cases hj : j < k
    · rw [Array.getElem?_toList, Array.getElem?_extract, if_pos (by omega), ← Array.getElem?_toList, ← flatMap_get f k hf X i j x hi hj, ← ht, List.getElem?_take_of_lt (by omega)]
    · rw [List.getElem?_eq_none (by simp; omega), List.getElem?_eq_none (by rw [hf]; omega)]
set_option maxRecDepth 100000 in
set_option maxHeartbeats 4000000 in
theorem shown_any (w : World) : Calls Tryz.prog 8 #[] w (Makes (.bool true) w) := by
  go_enter Tryz.func8, Tryz.ntmps8
  go_wp2_with fail
  refine (newN_any 10 0 0 ⟨by decide, by decide⟩ w).mono ?_
  rintro e w1 (⟨-, g, r, R, rfl, hr, hrg, hn, hR, n1⟩ | ⟨h, -⟩)
  case' inr => omega
  have hI := newNode_I hn hR
  have hd := hR.drains
  have hpn := hR.peers
  clear hn hR
  go_wp2_with fail
  have hs := of_ok 1 9 4 ⟨by decide, by decide⟩ ⟨by decide, by decide⟩ ⟨by decide, by decide⟩
  have hE : openErr (.new r 10) R [] (.of 1 9 4) = 0 := openErr_ok rfl hd (by decide) (fun p hp => by cases hp) (by unfold SetupV.may SetupV.of; exact ⟨by decide, by decide, by decide, by decide, by decide⟩) (show (4 : Int) ≤ 10 by decide)
  have hop := open_any g (.new r 10) R [] (.of 1 9 4) hs w1 hI (by decide) (show (0 : Int) ≤ 10 ∧ (10 : Int) < 18446744073709551616 by decide)
  unfold openRes at hop
  rw [hE] at hop
  refine hop.mono ?_
  rintro e w2 ⟨rfl, -, h2⟩
  obtain ⟨v, k, l, hL, hI2, u2⟩ := h2 rfl
  have n2 : New w w2 := n1.then u2 (fun i hi e => by
    rcases e with e | e | e
    · omega
    · have e : i = r := e
      omega
    · rw [hpn] at e
      cases e)
  clear u2 hI hop h2
  obtain ⟨N, hN⟩ : ∃ N : NodeV, N = { re := r, funds := 6, drains := false, shut := List.replicate 8 false, swept := List.replicate 8 false } := ⟨_, rfl⟩
  obtain ⟨R2, hR2⟩ : ∃ R2 : RelV, R2 = { R with peers := v } := ⟨_, rfl⟩
  obtain ⟨ps, hps⟩ : ∃ ps : List PeerV, ps = [{ ch := 1, lk := k, l := l, c := ChanV.new (SetupV.of 1 9 4) }] := ⟨_, rfl⟩
  have hI3 : NodI w2 g N R2 ps := by rw [hN, hR2, hps]; exact hI2
  have hpl : ps.length = 1 := by rw [hps]; rfl
  have hX : ∀ (i : Nat) (p : PeerV), ps[i]? = some p → ChI w2 p.l.en p.c [] ∧ (0 ≤ p.c.k.signed ∧ p.c.k.signed < 4294967296) ∧ (0 ≤ p.c.k.heard ∧ p.c.k.heard < 4294967296) := by
    intro i p hp
    rw [hps] at hp
    cases i with
    | succ i => simp at hp
    | zero =>
      simp at hp
      subst hp
      exact ⟨newCh_I hL.ch, show (0 : Int) ≤ 0 ∧ (0 : Int) < 4294967296 by decide, show (0 : Int) ≤ 0 ∧ (0 : Int) < 4294967296 by decide⟩
  have hrow : (List.range ps.length).map (rowOf N ps (fun _ => [])) = [⟨1, 4, 5, 0, false⟩] := by
    rw [hpl]
    show [rowOf N ps (fun _ => []) 0] = _
    rw [rowOf_new (p := { ch := 1, lk := k, l := l, c := ChanV.new (SetupV.of 1 9 4) }) (by rw [hps]; rfl) rfl (by rw [hN]; rfl)]
    rfl
  have htot : totK (totF N ps (fun _ => [])) N.funds ps.length = 10 := by
    rw [hpl, totK, totK, totF_new (p := { ch := 1, lk := k, l := l, c := ChanV.new (SetupV.of 1 9 4) }) (by rw [hps]; rfl) rfl (by rw [hN]; rfl) (show (0 : Int) ≤ 4 ∧ (4 : Int) < 18446744073709551616 by decide), hN]
    rfl
  have hfn : N.funds = 6 := by rw [hN]
  have hsl : N.shut.length = 8 := by rw [hN]; rfl
  have hwl : N.swept.length = 8 := by rw [hN]; rfl
  have hli := nlist_any g N R2 ps (fun _ => []) w2 hI3 (by omega) hsl hwl hX (fun _ => by decide) (fun _ x hx => by cases hx)
  rw [hrow, hpl] at hli
  have HT := hide (fun (W : World) (n : New w2 W) => total_any g N R2 ps (fun _ => []) W (hI3.new n) (by omega) hsl hwl (fun i p hp => (hX i p hp).1.new n) (fun _ => by decide) (fun _ x hx => by cases hx))
  have HI := hide hI3
  have hf2 : ∀ W, New w2 W → Calls Tryz.prog 22 #[.pointer (some ⟨g, 0, none⟩)] W (Reads (.int .u64 6) W) := fun W n => by
    rw [← hfn]
    exact funds_any g N W (n.old (unhide HI).at_ (fun h => h))
  clear hX hrow hI2 hI3 hL
  go_wp2_with fail
  refine hli.mono ?_
  rintro e w3 ⟨u, rfl, hu, n3⟩
  obtain ⟨gB, cap, rfl, -, hr5⟩ := owns_rowN RowV.cells 5 RowV.len hu rfl (i := 0) (x := ⟨1, 4, 5, 0, false⟩) rfl
  rw [Nat.zero_mul] at hr5
  rw [htot] at HT
  clear hu
  go_wp2_with fail
  refine (hf2 w3 n3).mono ?_
  rintro e w4 ⟨rfl, q4⟩
  have hr6 := rowN_q hr5 q4
  have n4 := n3.trans (q4.upd _)
  clear q4 hr5
  go_wp2_with fail
  refine (unhide HT w4 n4).mono ?_
  rintro e w5 ⟨rfl, n5⟩
  go_wp2_with fail
  go_ret
  exact ⟨rfl, n2.trans (n4.trans n5)⟩

end Go.Proofs.YtainkaojnhfldaaGreatDoor
namespace Go.Proofs.YtainkaojnhfldaaGreatDoor
open Go.RowKit

/-- An end, as New makes it. -/
def Ch.new (s : SetupV) : Ch := ⟨s, .zero, s.ours, s.cap - s.ours, [], List.replicate 17 .zero, [], []⟩
theorem Ch.new_ok {s : SetupV} (h : s.Ok) (m : s.may) : (Ch.new s).Ok := by
  obtain ⟨m1, m2, m3, _, _⟩ := m
  have h1 := h.ours
  have h2 := h.cap
  refine ⟨h, ⟨Int.le_refl _, show (0 : Int) ≤ 65535 by decide⟩, ⟨Int.le_refl _, show (0 : Int) < 4294967296 by decide⟩, ⟨Int.le_refl _, show (0 : Int) < 18446744073709551616 by decide⟩, ⟨Int.le_refl _, show (0 : Int) < 18446744073709551616 by decide⟩, h1, ?_, ?_, Nat.zero_le _, ⟨rfl, ?_⟩, ?_, ?_, ⟨Nat.zero_le _, Nat.zero_le _⟩⟩
  · show 0 ≤ s.cap - s.ours ∧ s.cap - s.ours < _
    omega
  · intro x hx; cases hx
  · intro p hp; rw [List.eq_of_mem_replicate hp]; rfl
  · intro x hx; cases hx
  · intro x hx; cases hx
theorem chS_new {w : World} {g : Nat} {s : SetupV} (h : ChR w g (.new s)) (hs : s.Ok) (m : s.may) : ChS w g (· = g) (Ch.new s) := by
  refine ⟨nilV, nilV, nilV, h.at_, Ch.new_ok hs m, World.ownsRow_nil _ _ _ _, World.ownsRow_nil _ _ _ _, World.ownsRow_nil _ _ _ _, rfl, ?_, ?_, ?_, ?_, ?_⟩
  · intro k hk; simp [nilV, Value.ownBlock] at hk
  · intro k hk; simp [nilV, Value.ownBlock] at hk
  · intro k hk; simp [nilV, Value.ownBlock] at hk
  · intro k hk; simp [nilV, Value.ownBlock] at hk
  · intro k hk; rw [hk]; exact blk_lt h.at_
end Go.Proofs.YtainkaojnhfldaaGreatDoor
