/-
  Law 19's shown: whatever world it begins in; as a function whose contract is known.
-/
import Derived.Test.YtjckpgcmfieaoaaGreatDoorRs0
set_option linter.unusedVariables false
set_option linter.unusedSimpArgs false
namespace Go.Proofs.YtjckpgcmfieaoaaGreatDoor
open Go.RowKit

theorem shown19_run (W : World) (ht : TabsAt W evTab5) : Calls Tryz.prog 10 #[] W fun e w' => e = .returned (.bool true) ∧ Upd (fun _ => False) W w' :=
  told_true1 (by kernel_rfl) intR_ok shown19_ev W ht (fun _ => none) .nil (enters_of Tryz.func10 (by kernel_rfl) rfl _ _)
noncomputable section
def gTabL (k : IntKind) (c : ETr EV) (l : List Nat) : Nat → Bool :=
  List.rec (motive := fun _ => Nat → Bool) (fun _ => true) (fun x _ ih i => match c.get i with
    | some (.int k' (.ofNat n)) => match k == k' && Nat.beq n x with
      | true => ih (Nat.succ i)
      | false => false
    | _ => false) l
def gTab (b : Option EBlk) (k : IntKind) (l : List Nat) : Bool := match b with
  | some (.tab n c) => match Nat.ble l.length n && Nat.ble 1 l.length with
    | true => gTabL k c l 0
    | false => false
  | _ => false
/-- Do all tables lie there? -/
def gTabs (s : ESt) (ts : List ETab) : Bool := List.rec (motive := fun _ => Bool) true (fun t _ ih => match Nat.blt t.1 1024 with
  | true => match gTab (s.heap.get t.1) t.2.1 t.2.2 with
    | true => ih
    | false => false
  | false => false) ts
def iShown19 (_ : ECall) (a : List EV) (s : ESt) : EO := match a with
  | [] => match gTabs s evTab5 with
    | true => .v (.bool true) s
    | false => .er
  | _ => .er
end
theorem gTabL_cons (k : IntKind) (c : ETr EV) (x : Nat) (l : List Nat) (i : Nat) : gTabL k c (x :: l) i = match c.get i with
    | some (.int k' (.ofNat n)) => (match k == k' && Nat.beq n x with
      | true => gTabL k c l (i + 1)
      | false => false)
    | _ => false := rfl
theorem gTabL_ok {k : IntKind} {c : ETr EV} : ∀ {l : List Nat} {i : Nat}, gTabL k c l i = true → ∀ j, j < l.length → c.get (i + j) = some (.int k (l.getD j 0 : Nat))
  | [], _, _, j, hj => absurd hj (Nat.not_lt_zero _)
  | x :: l, i, h, j, hj => by
    rw [gTabL_cons] at h
    split at h
    · rename_i k' n hc
      split at h
      · rename_i hb
        rw [Bool.and_eq_true, beq_iff_eq] at hb
        obtain ⟨rfl, hb⟩ := hb
        obtain rfl := Nat.eq_of_beq_eq_true hb
        cases j with
        | zero => exact hc
        | succ j =>
          have := gTabL_ok h j (by simpa using hj)
          rw [show i + (j + 1) = i + 1 + j by omega, this]
          rfl
      · cases h
    · cases h
theorem gTabs_ok {w0 w : World} {β : EMp} {s : ESt} (hg : GB β) (h : HR w0 β s w) : ∀ {ts : List ETab}, gTabs s ts = true → TabsAt w ts
  | [], _, t, ht => by cases ht
  | u :: ts, hh, t, ht => by
    have hh : (match Nat.blt u.1 1024 with
      | true => (match gTab (s.heap.get u.1) u.2.1 u.2.2 with
        | true => gTabs s ts
        | false => false)
      | false => false) = true := hh
    split at hh
    · rename_i hu
      have hu : u.1 < 1024 := Nat.le_of_ble_eq_true hu
      split at hh
      · rename_i ht2
        rcases List.mem_cons.1 ht with rfl | ht
        · unfold gTab at ht2
          split at ht2
          · rename_i n c hk
            split at ht2
            · rename_i hn
              rw [Bool.and_eq_true] at hn
              have hn1 := Nat.le_of_ble_eq_true hn.1
              have hn2 := Nat.le_of_ble_eq_true hn.2
              refine ⟨hu, hn2, fun i hi => ?_⟩
              obtain ⟨m, hm⟩ := hg t.1 hu
              obtain ⟨-, a, T, fz, h1, -, -, h4⟩ := h.blk t.1 _ _ hm hk
              obtain ⟨x, v, e1, e2, e3⟩ := h4 i (by omega)
              have := gTabL_ok ht2 i hi
              rw [Nat.zero_add, e1] at this
              obtain rfl := Option.some.inj this
              have e2 : a[i]? = some v := by simpa using e2
              rw [blk_cell h1, e2]
              cases e3
              rfl
            · cases ht2
          · cases ht2
        · exact gTabs_ok hg h hh t ht
      · cases hh
    · cases hh
theorem iShown19_ok {k : ECall} {args : List EV} {s s' : ESt} {x : EV} (ha : iShown19 k args s = .v x s') : KOk Tryz.prog 10 args s x s' := fun w0 β w av hg hr hv => by
  unfold iShown19 at ha
  split at ha <;> first | (cases ha; done) | skip
  split at ha <;> first | (cases ha; done) | skip
  rename_i ht
  injection ha with e1 e2
  subst e1 e2
  obtain ⟨av⟩ := av
  cases hv
  refine .inr ⟨enters_of Tryz.func10 (by kernel_rfl) rfl _ _, (shown19_run w (gTabs_ok hg hr ht)).mono ?_⟩
  rintro e w' ⟨rfl, n⟩
  exact ⟨_, rfl, β, .bool true, hr.world n, Ext.refl _ _⟩
noncomputable def intE (f : FuncId) : Option (ECall → List EV → ESt → EO) := match f with
  | 10 => some iShown19
  | f => intR f
theorem intE_ok : IOk Tryz.prog intE := fun f g hi k hk args s x s' ha => by
  unfold intE at hi
  split at hi
  · obtain rfl := Option.some.inj hi
    exact iShown19_ok ha
  · exact intR_ok f g hi k hk args s x s' ha
/-- A number that is not known, as a symbol. -/
theorem sym_at {W : World} {ρ : Nat → Option Nat} {k : IntKind} {i n lo hi : Nat} (hi0 : i < 1024) (hρ : ρ i = some n) (h1 : lo ≤ n) (h2 : n ≤ hi) : SN (symOf (bet1 W ρ)) (.var i lo hi) n := by
  refine ⟨[], ?_⟩
  unfold SX.den
  rw [bet1_sym W _ hi0, hρ]
  exact if_pos ⟨h1, h2⟩
end Go.Proofs.YtjckpgcmfieaoaaGreatDoor
