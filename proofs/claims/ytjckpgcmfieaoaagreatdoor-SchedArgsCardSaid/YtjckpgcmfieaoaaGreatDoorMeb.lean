/-
  Law 21's shown, evaluated.
-/
import Derived.Test.YtjckpgcmfieaoaaGreatDoorSrB
import Derived.Test.YtjckpgcmfieaoaaGreatDoorMdi
import Derived.Test.YtjckpgcmfieaoaaGreatDoorMbi
set_option linter.unusedVariables false
set_option linter.unusedSimpArgs false
namespace Go.Proofs.YtjckpgcmfieaoaaGreatDoor
open Go.RowKit

noncomputable def int21 (f : FuncId) : Option (ECall → List EV → ESt → EO) := match f with
  | 60 => some (iRoundsL 2049 40 gL0_0 gL0_40)
  | f => intT f
theorem int21_ok : IOk Tryz.prog int21 := fun f g hi k hk args s x s' ha => by
  unfold int21 at hi
  split at hi
  · obtain rfl := Option.some.inj hi
    exact iRoundsL_ok (intT_KS 90) (m := 6) (by decide) (by decide) (TrS.stage (n0 := 2307) sh21_st1 (TrS.stage sh21_st2 (.nil _))) ha
  · exact intT_ok f g hi k hk args s x s' ha
set_option maxRecDepth 100000 in
theorem shown21_ev : tellsTrue (eCall Tryz.prog int21 100 26 [] (.mk (eTabH evTab5) 2048)) = true := by decide +kernel
theorem shown21_run (W : World) (ht : TabsAt W evTab5) : Calls Tryz.prog 26 #[] W fun e w' => e = .returned (.bool true) ∧ Upd (fun _ => False) W w' :=
  told_true1 (by kernel_rfl) int21_ok shown21_ev W ht (fun _ => none) .nil (enters_of Tryz.func26 (by kernel_rfl) rfl _ _)
end Go.Proofs.YtjckpgcmfieaoaaGreatDoor
namespace Go.Proofs.YtjckpgcmfieaoaaGreatDoor
end Go.Proofs.YtjckpgcmfieaoaaGreatDoor
namespace Go.Proofs.YtjckpgcmfieaoaaGreatDoor
open Go.RowKit

noncomputable section
def gTabL (k : IntKind) (c : ETr EV) (l : List Nat) : Nat → Bool :=
  List.rec (motive := fun _ => Nat → Bool) (fun _ => true) (fun x _ ih i => match c.get i with
    | some (.int k' (.ofNat n)) => match k == k' && Nat.beq n x with
      | true => ih (Nat.succ i)
      | false => false
    | _ => false) l
def gTab (b : Option EBlk) (k : IntKind) (l : List Nat) : Bool := match b with
  | some (.tab n c) => match Nat.ble l.length n && Nat.ble 1 l.length with
    | true => gTabL k c l 0
    | false => false
  | _ => false
/-- Do all tables lie there? -/
def gTabs (s : ESt) (ts : List ETab) : Bool := List.rec (motive := fun _ => Bool) true (fun t _ ih => match Nat.blt t.1 1024 with
  | true => match gTab (s.heap.get t.1) t.2.1 t.2.2 with
    | true => ih
    | false => false
  | false => false) ts
end
theorem gTabL_cons (k : IntKind) (c : ETr EV) (x : Nat) (l : List Nat) (i : Nat) : gTabL k c (x :: l) i = match c.get i with
    | some (.int k' (.ofNat n)) => (match k == k' && Nat.beq n x with
      | true => gTabL k c l (i + 1)
      | false => false)
    | _ => false := rfl
theorem gTabL_ok {k : IntKind} {c : ETr EV} : ∀ {l : List Nat} {i : Nat}, gTabL k c l i = true → ∀ j, j < l.length → c.get (i + j) = some (.int k (l.getD j 0 : Nat))
  | [], _, _, j, hj => absurd hj (Nat.not_lt_zero _)
  | x :: l, i, h, j, hj => by
    rw [gTabL_cons] at h
    split at h
    · rename_i k' n hc
      split at h
      · rename_i hb
        rw [Bool.and_eq_true, beq_iff_eq] at hb
        obtain ⟨rfl, hb⟩ := hb
        obtain rfl := Nat.eq_of_beq_eq_true hb
        cases j with
        | zero => exact hc
        | succ j =>
          have := gTabL_ok h j (by simpa using hj)
          rw [show i + (j + 1) = i + 1 + j by omega, this]
          rfl
      · cases h
    · cases h
theorem gTabs_ok {w0 w : World} {β : EMp} {s : ESt} (hg : GB β) (h : HR w0 β s w) : ∀ {ts : List ETab}, gTabs s ts = true → TabsAt w ts
  | [], _, t, ht => by cases ht
  | u :: ts, hh, t, ht => by
    have hh : (match Nat.blt u.1 1024 with
      | true => (match gTab (s.heap.get u.1) u.2.1 u.2.2 with
        | true => gTabs s ts
        | false => false)
      | false => false) = true := hh
    split at hh
    · rename_i hu
      have hu : u.1 < 1024 := Nat.le_of_ble_eq_true hu
      split at hh
      · rename_i ht2
        rcases List.mem_cons.1 ht with rfl | ht
        · unfold gTab at ht2
          split at ht2
          · rename_i n c hk
            split at ht2
            · rename_i hn
              rw [Bool.and_eq_true] at hn
              have hn1 := Nat.le_of_ble_eq_true hn.1
              have hn2 := Nat.le_of_ble_eq_true hn.2
              refine ⟨hu, hn2, fun i hi => ?_⟩
              obtain ⟨m, hm⟩ := hg t.1 hu
              obtain ⟨-, a, T, fz, h1, -, -, h4⟩ := h.blk t.1 _ _ hm hk
              obtain ⟨x, v, e1, e2, e3⟩ := h4 i (by omega)
              have := gTabL_ok ht2 i hi
              rw [Nat.zero_add, e1] at this
              obtain rfl := Option.some.inj this
              have e2 : a[i]? = some v := by simpa using e2
              rw [blk_cell h1, e2]
              cases e3
              rfl
            · cases ht2
          · cases ht2
        · exact gTabs_ok hg h hh t ht
      · cases hh
    · cases hh
/-- A number that is not known, as a symbol. -/
theorem sym_at {W : World} {ρ : Nat → Option Nat} {k : IntKind} {i n lo hi : Nat} (hi0 : i < 1024) (hρ : ρ i = some n) (h1 : lo ≤ n) (h2 : n ≤ hi) : SN (symOf (bet1 W ρ)) (.var i lo hi) n := by
  refine ⟨[], ?_⟩
  unfold SX.den
  rw [bet1_sym W _ hi0, hρ]
  exact if_pos ⟨h1, h2⟩

noncomputable section
def iNewF (k0 : ECall) (_ : ECall) (a : List EV) (s : ESt) : EO := match a with
  | [.int .i64 z, .sint .u64 e, b, r] => match z with
    | .negSucc _ => .er
    | .ofNat n => match gEqV b (.int .u64 0) && gEqV r (.int .u64 0) with
      | false => .er
      | true => match s with
        | .mk h nx => k0 25 [.int .i64 (.ofNat n), .sint .u64 e, .int .u64 0, .int .u64 0] (.mk h nx)
  | _ => .er
def iCutF (k0 : ECall) (_ : ECall) (a : List EV) (s : ESt) : EO := match a with
  | [.ptr (some (w, 0)), x] => match s with
    | .mk h nx => match x with
      | .int .i64 z => match z with
        | .ofNat c => k0 28 [.ptr (some (w, 0)), .int .i64 (.ofNat c)] (.mk h nx)
        | .negSucc _ => .er
      | .sint .i64 e => k0 28 [.ptr (some (w, 0)), .sint .i64 e] (.mk h nx)
      | _ => .er
  | _ => .er
def iAskF (k0 : ECall) (_ : ECall) (a : List EV) (s : ESt) : EO := match a with
  | [.ptr (some (w, 0)), .agg [.int .i64 z, y, c1, c2, c3, c4]] => match z with
    | .negSucc _ => .er
    | .ofNat q => match gEqV c1 (.int .i64 0) && gEqV c2 (.int .u64 0) && gEqV c3 (.int .u8 0) && gEqV c4 (.int .i64 0) with
      | false => .er
      | true => match s with
        | .mk h nx => match y with
          | .int .i64 z => match z with
            | .ofNat c => k0 29 [.ptr (some (w, 0)), .agg [.int .i64 (.ofNat q), .int .i64 (.ofNat c), .int .i64 0, .int .u64 0, .int .u8 0, .int .i64 0]] (.mk h nx)
            | .negSucc _ => .er
          | .sint .i64 e => k0 29 [.ptr (some (w, 0)), .agg [.int .i64 (.ofNat q), .sint .i64 e, .int .i64 0, .int .u64 0, .int .u8 0, .int .i64 0]] (.mk h nx)
          | _ => .er
  | _ => .er
def iShown21 (_ : ECall) (a : List EV) (s : ESt) : EO := match a with
  | [] => match gTabs s evTab5 with
    | true => .v (.bool true) s
    | false => .er
  | _ => .er
def intB (f : FuncId) : Option (ECall → List EV → ESt → EO) := match f with
  | 31 => some (iNodeC (eCall Tryz.prog intT 60))
  | 108 => some (iListC (eCall Tryz.prog intT 60))
  | f => intT f
def intA (ps : List (List Nat)) (f : FuncId) : Option (ECall → List EV → ESt → EO) := match f with
  | 25 => some (iNewF (eCall Tryz.prog intT 60))
  | 27 => some (iStepC (eCall Tryz.prog intT 60) ps)
  | 28 => some (iCutF (eCall Tryz.prog intT 60))
  | 29 => some (iAskF (eCall Tryz.prog intB 80))
  | 31 => some (iNodeC (eCall Tryz.prog intT 60))
  | 26 => some iShown21
  | f => intT f
def gFor (l : List EV) (p : EV → Bool) : Bool := List.rec (motive := fun _ => Bool) true (fun x _ ih => match p x with | true => ih | false => false) l
def aVar (c : Int) (i lo hi : Nat) (d : Int) : EV := .sint .i64 (.term c (.var i lo hi) (.cst d))
def aCap0 : EV := .sint .u64 (.term 2 (.var 0 1 549755813888) (.cst 0))
def aCap1 : EV := .sint .u64 (.term 2 (.var 0 0 549755813887) (.cst 1))
def aNeg (i : Nat) : EV := aVar (-1) i 0 9223372036854775807 (-1)
def aFrom (i lo : Nat) : EV := aVar 1 i lo 9223372036854775807 0
def aIn (i lo hi : Nat) : EV := aVar 1 i lo hi 0
def aNat (c : Nat) : EV := .int .i64 (.ofNat c)
/-- SchedArgs of n nodes, in all cases of the other arguments. -/
def aAll (n : Nat) (ps : List (List Nat)) (cap : EV) (picks chs ats : List EV) : Bool :=
  gFor picks fun p => gFor chs fun c => gFor ats fun a => tellsTrue (eCall Tryz.prog (intA ps) 100 6 [aNat n, cap, p, c, a] (.mk (eTabH evTab5) 2048))
end

section
variable {k0 k : ECall} {args : List EV} {s s' : ESt} {x : EV}
theorem iNewF_ok (hk : KS Tryz.prog k0) (ha : iNewF k0 k args s = .v x s') : KOk Tryz.prog 25 args s x s' := by
  unfold iNewF at ha
  split at ha <;> first | (cases ha; done) | skip
  split at ha <;> first | (cases ha; done) | skip
  split at ha <;> first | (cases ha; done) | skip
  rename_i hb
  rw [Bool.and_eq_true] at hb
  rw [gEqV_eq hb.1, gEqV_eq hb.2]
  split at ha
  exact hk _ _ _ _ _ ha
theorem iCutF_ok (hk : KS Tryz.prog k0) (ha : iCutF k0 k args s = .v x s') : KOk Tryz.prog 28 args s x s' := by
  unfold iCutF at ha
  split at ha <;> first | (cases ha; done) | skip
  split at ha
  split at ha <;> first | (cases ha; done) | skip
  · split at ha <;> first | (cases ha; done) | skip
    exact hk _ _ _ _ _ ha
  · exact hk _ _ _ _ _ ha
theorem iAskF_ok (hk : KS Tryz.prog k0) (ha : iAskF k0 k args s = .v x s') : KOk Tryz.prog 29 args s x s' := by
  unfold iAskF at ha
  split at ha <;> first | (cases ha; done) | skip
  split at ha <;> first | (cases ha; done) | skip
  split at ha <;> first | (cases ha; done) | skip
  rename_i hb
  rw [Bool.and_eq_true, Bool.and_eq_true, Bool.and_eq_true] at hb
  rw [gEqV_eq hb.1.1.1, gEqV_eq hb.1.1.2, gEqV_eq hb.1.2, gEqV_eq hb.2]
  split at ha
  split at ha <;> first | (cases ha; done) | skip
  · split at ha <;> first | (cases ha; done) | skip
    exact hk _ _ _ _ _ ha
  · exact hk _ _ _ _ _ ha
theorem iShown21_ok (ha : iShown21 k args s = .v x s') : KOk Tryz.prog 26 args s x s' := fun w0 β w av hg hr hv => by
  unfold iShown21 at ha
  split at ha <;> first | (cases ha; done) | skip
  split at ha <;> first | (cases ha; done) | skip
  rename_i ht
  injection ha with e1 e2
  subst e1 e2
  obtain ⟨av⟩ := av
  cases hv
  refine .inr ⟨enters_of Tryz.func26 (by kernel_rfl) rfl _ _, (shown21_run w (gTabs_ok hg hr ht)).mono ?_⟩
  rintro e w' ⟨rfl, n⟩
  exact ⟨_, rfl, β, .bool true, hr.world n, Ext.refl _ _⟩
end
theorem intB_ok : IOk Tryz.prog intB := fun f g hi k hk args s x s' ha => by
  unfold intB at hi
  split at hi
  · obtain rfl := Option.some.inj hi
    exact iNodeC_ok (intT_KS 60) ha
  · obtain rfl := Option.some.inj hi
    exact iListC_ok (intT_KS 60) ha
  · exact intT_ok f g hi k hk args s x s' ha
theorem intB_KS (d : Nat) : KS Tryz.prog (eCall Tryz.prog intB d) := call_ok (by kernel_rfl) intB_ok d
theorem intA_ok {ps : List (List Nat)} : IOk Tryz.prog (intA ps) := fun f g hi k hk args s x s' ha => by
  unfold intA at hi
  split at hi
  · obtain rfl := Option.some.inj hi
    exact iNewF_ok (intT_KS 60) ha
  · obtain rfl := Option.some.inj hi
    exact iStepC_ok (intT_KS 60) ha
  · obtain rfl := Option.some.inj hi
    exact iCutF_ok (intT_KS 60) ha
  · obtain rfl := Option.some.inj hi
    exact iAskF_ok (intB_KS 80) ha
  · obtain rfl := Option.some.inj hi
    exact iNodeC_ok (intT_KS 60) ha
  · obtain rfl := Option.some.inj hi
    exact iShown21_ok ha
  · exact intT_ok f g hi k hk args s x s' ha
/-- Of worlds that may not be. -/
noncomputable def intN (f : FuncId) : Option (ECall → List EV → ESt → EO) := match f with
  | 26 => some iShown21
  | f => intT f
theorem intN_ok : IOk Tryz.prog intN := fun f g hi k hk args s x s' ha => by
  unfold intN at hi
  split at hi
  · obtain rfl := Option.some.inj hi
    exact iShown21_ok ha
  · exact intT_ok f g hi k hk args s x s' ha
set_option maxRecDepth 100000 in
theorem sa_few : tellsTrue (eCall Tryz.prog intN 100 6 [aVar (-1) 0 0 9223372036854775809 1, .sint .u64 (.term 1 (.var 1 0 18446744073709551615) (.cst 0)), .bot, .bot, .bot] (.mk (eTabH evTab5) 2048)) = true := by decide +kernel
set_option maxRecDepth 100000 in
theorem sa_many : tellsTrue (eCall Tryz.prog intN 100 6 [aFrom 0 7, .sint .u64 (.term 1 (.var 1 0 18446744073709551615) (.cst 0)), .bot, .bot, .bot] (.mk (eTabH evTab5) 2048)) = true := by decide +kernel
set_option maxRecDepth 100000 in
theorem sa_none : tellsTrue (eCall Tryz.prog intN 100 6 [aIn 0 2 6, .int .u64 0, .bot, .bot, .bot] (.mk (eTabH evTab5) 2048)) = true := by decide +kernel
set_option maxRecDepth 100000 in
theorem sa_big : tellsTrue (eCall Tryz.prog intN 100 6 [aIn 0 2 6, .sint .u64 (.term 1 (.var 1 1099511627777 18446744073709551615) (.cst 0)), .bot, .bot, .bot] (.mk (eTabH evTab5) 2048)) = true := by decide +kernel
end Go.Proofs.YtjckpgcmfieaoaaGreatDoor
