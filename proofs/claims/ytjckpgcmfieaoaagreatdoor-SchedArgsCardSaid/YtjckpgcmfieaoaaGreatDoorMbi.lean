/-
  Functions of sched of which a number is not known, but between bounds: every case is evaluated.
-/
import Derived.Test.YtjckpgcmfieaoaaGreatDoorMbh
import Derived.Shelf.Abstract
import Derived.ProofKit
import Derived.IntWalk
import Derived.Test.YtjckpgcmfieaoaaGreatDoorRows
import Derived.Test.YtjckpgcmfieaoaaGreatDoorMaa
import Derived.Shelf.Strings.OnBuilder
import Derived.Deep.MidRow
import Derived.Deep.RegionHeld3
import Derived.OpenShut
set_option linter.unusedVariables false
set_option linter.unusedSimpArgs false
namespace Go.Proofs.YtjckpgcmfieaoaaGreatDoor
open Go.RowKit

noncomputable section
/-- Small bounds of a number: the least one, and how many. -/
def gSpan (x : EV) : Option (Nat × Nat) := match x with
  | .sint .i64 e => match sBnd e with
    | ⟨lo, hi⟩ => match lo with
      | .negSucc _ => none
      | .ofNat a => match hi with
        | .negSucc _ => none
        | .ofNat b => match Nat.ble a b && Nat.ble b 40 with
          | true => some (a, Nat.succ (Nat.sub b a))
          | false => none
  | _ => none
/-- Does this hold of lo, lo + 1, .. ? -/
def gEach (p : Nat → Bool) (c : Nat) : Nat → Bool :=
  Nat.rec (motive := fun _ => Nat → Bool) (fun _ => true) (fun _ ih v => match p v with | true => ih (Nat.succ v) | false => false) c
/-- What a call yields that, beside cells 5 of the blocks bs, leaves what is below nx. -/
def gSt (B : ETr EBlk) (bs : List Nat) (nx : Nat) (r : EO) : Option EV := match r with
  | .er => none
  | .v y t => match t with
    | .mk h _ => match gEqT nx B (gPuts .bot 5 bs h) 0 1 with
      | true => some y
      | false => none
def gLow (nx : Nat) (B : ETr EBlk) : Bool := match B.get nx with
  | some _ => false
  | none => gRefT nx B
/-- Step: behind it no tick is known. -/
def iStepC (k0 : ECall) (ps : List (List Nat)) (_ : ECall) (a : List EV) (s : ESt) : EO := match a with
  | [.ptr (some (w, 0)), x] => match s with
    | .mk h nx => match gPaths (.mk h nx) w ps with
      | none => .er
      | some bs => match gLow nx (gPuts .bot 5 bs h) with
        | false => .er
        | true => match gSpan x with
          | none => match gSt (gPuts .bot 5 bs h) bs nx (k0 27 [.ptr (some (w, 0)), x] (.mk h nx)) with
            | some (.int kk z) => .v (.int kk z) (.mk (gPuts .bot 5 bs h) (Nat.succ nx))
            | _ => .er
          | some p => match gSt (gPuts .bot 5 bs h) bs nx (k0 27 [.ptr (some (w, 0)), .int .i64 (Int.ofNat p.1)] (.mk h nx)) with
            | some (.int kk z) => match gEach (fun v => gEqO (gSt (gPuts .bot 5 bs h) bs nx (k0 27 [.ptr (some (w, 0)), .int .i64 (Int.ofNat v)] (.mk h nx))) (some (.int kk z))) p.2 p.1 with
              | true => .v (.int kk z) (.mk (gPuts .bot 5 bs h) (Nat.succ nx))
              | false => .er
            | _ => .er
  | _ => .er
/-- Node, of a number between bounds: some node. -/
def gPtrO (x : Option EV) : Bool := match x with | some (.ptr (some (_, 0))) => true | _ => false
def iNodeC (k0 : ECall) (_ : ECall) (a : List EV) (s : ESt) : EO := match a with
  | [.ptr (some (w, 0)), x] => match gSpan x with
    | none => k0 31 [.ptr (some (w, 0)), x] s
    | some p => match s with
      | .mk h nx => match gLow nx h with
        | false => .er
        | true => match gEach (fun v => gPtrO (gSt h [] nx (k0 31 [.ptr (some (w, 0)), .int .i64 (Int.ofNat v)] (.mk h nx)))) p.2 p.1 with
          | true => .v (.ptr (some (nx, 0))) (.mk h (Nat.succ nx))
          | false => .er
  | _ => .er
/-- list, of a node's number between bounds: its rows are not told. -/
def gAnsO (n c z : Nat) (x : Option EV) : Bool := match x with
  | some (.agg [.int .i64 (.ofNat 0), .int .u64 (.ofNat 0), .sl (some (_, 0)) n' c' z']) => Nat.beq n n' && Nat.beq c c' && Nat.beq z z'
  | _ => false
def iListC (k0 : ECall) (_ : ECall) (a : List EV) (s : ESt) : EO := match a with
  | [.ptr (some (w, 0)), .agg (q :: x :: r)] => match gSpan x with
    | none => k0 108 [.ptr (some (w, 0)), .agg (q :: x :: r)] s
    | some p => match s with
      | .mk h nx => match gLow nx h with
        | false => .er
        | true => match gSt h [] nx (k0 108 [.ptr (some (w, 0)), .agg (q :: .int .i64 (Int.ofNat p.1) :: r)] (.mk h nx)) with
          | some (.agg [_, _, .sl _ n c z]) => match gEach (fun v => gAnsO n c z (gSt h [] nx (k0 108 [.ptr (some (w, 0)), .agg (q :: .int .i64 (Int.ofNat v) :: r)] (.mk h nx)))) p.2 p.1 with
            | true => .v (.agg [.int .i64 0, .int .u64 0, .sl (some (nx, 0)) n c z]) (.mk h (Nat.succ nx))
            | false => .er
          | _ => .er
  | _ => .er
end

set_option maxRecDepth 100000 in
set_option maxHeartbeats 2000000 in
theorem first00 (g : Nat) (w : World) (h0 : w.cell? ⟨g, 0, none⟩ = some (.int .i64 0)) (h1 : w.cell? ⟨g, 1, none⟩ = some (.int .i64 0)) :
    Calls Tryz.prog 64 #[.slice (some ⟨g, 0, none⟩) 2 2] w fun e w' => e = .returned (.int .i64 0) ∧ w' = w := by
  go_enter Tryz.func64, Tryz.ntmps64
  go_wp2_with fail
  go_loopw [7] (fun iv wr => wr = w ∧ (iv = .int .i64 0 ∨ iv = .int .i64 1 ∨ iv = .int .i64 2)) (fun iv _ => 2 - (intOf iv).toNat)
  case atStart => exact ⟨rfl, .inl rfl⟩
  case round =>
    obtain ⟨rfl, rfl | rfl | rfl⟩ := hrel
    · go_wp2_with fail
      go_roundw
      case rel => exact ⟨trivial, .inr (.inl rfl)⟩
      case measure => simp [intOf]
    · go_wp2_with fail
      go_roundw
      case rel => exact ⟨trivial, .inr (.inr rfl)⟩
      case measure => simp [intOf]
    · go_wp2_with fail
      go_ret
      exact ⟨rfl, rfl⟩
set_option maxRecDepth 100000 in
set_option maxHeartbeats 4000000 in
/-- A walk of Rounds, by what holds between the rounds, and between the steps of one. -/
theorem rounds_walk (p : Value) (N m : Nat) (hN : N ≤ 1000) (C : Nat → World → Prop) (D : Nat → Nat → World → Prop) (w : World) (h0 : C 0 w)
    (hD : ∀ i j w w', D i j w → New w w' → D i j w')
    (hp : ∀ i, i < N → ∀ w', C i w' → Calls Tryz.prog 30 #[p] w' fun e w'' => e = .returned (.int .i64 (m : Int)) ∧ D i 0 w'')
    (hs : ∀ i, i < N → ∀ j, j < m → ∀ w', D i j w' → Calls Tryz.prog 27 #[p, .int .i64 (j : Int)] w' fun e w'' => (e = .returned (.int .i64 0) ∨ e = .returned (.int .i64 3)) ∧ D i (j + 1) w'')
    (he : ∀ i, i < N → ∀ w', D i m w' → C (i + 1) w') (hm : m ≤ 1000) :
    Calls Tryz.prog 60 #[p, .int .i64 (N : Int)] w fun e w' => e = .returned (.int .i64 0) ∧ C N w' := by
  have hNi : (N : Int) ≤ 1000 := by omega
  have hmi : (m : Int) ≤ 1000 := by omega
  go_enter Tryz.func60, Tryz.ntmps60
  have H0 := hide h0
  have HD := hide hD
  have HP := hide hp
  have HS := hide hs
  have HE := hide he
  clear h0 hD hp hs he
  go_wp2_with fail
  go_loopw [5, 10] (fun ev iv wr => ev = .int .i64 0 ∧ ∃ i : Nat, iv = .int .i64 (i : Int) ∧ i ≤ N ∧ Hid (C i wr)) (fun _ iv _ => N - (intOf iv).toNat)
  case atStart => exact ⟨rfl, 0, rfl, Nat.zero_le _, H0⟩
  case round =>
    obtain ⟨rfl, i, rfl, hi, hC⟩ := hrel
    obtain ⟨wq, rfl⟩ : ∃ wq : World, wq = wr := ⟨_, rfl⟩
    by_cases hlt : i < N
    · have hil : (i : Int) < (N : Int) := by omega
      go_wp2_with fail
      refine (unhide HP i hlt wq (unhide hC)).mono ?_
      rintro e w3 ⟨rfl, hD0⟩
      have hD0 := hide hD0
      go_wp2_with fail
      go_loopw [5, 14] (fun ev jv wr => ev = .int .i64 0 ∧ ∃ j : Nat, jv = .int .i64 (j : Int) ∧ j ≤ m ∧ Hid (D i j wr)) (fun _ jv _ => m - (intOf jv).toNat)
      case atStart => exact ⟨rfl, 0, rfl, Nat.zero_le _, hD0⟩
      case round =>
        obtain ⟨rfl, j, rfl, hj, hDj⟩ := hrel
        obtain ⟨w4, rfl⟩ : ∃ wq : World, wq = wr := ⟨_, rfl⟩
        by_cases hjt : j < m
        · have hjl : (j : Int) < (m : Int) := by omega
          go_wp2_with fail
          refine (unhide HS i hlt j hjt w4 (unhide hDj)).mono ?_
          rintro e w5 ⟨he, hD1⟩
          have hD1 := hide hD1
          rcases he with rfl | rfl
          · go_wp2_with fail
            refine (first00 _ _ (blk_cell (blk_alloc _ _) 0) (blk_cell (blk_alloc _ _) 1)).mono ?_
            rintro e w6 ⟨rfl, rfl⟩
            have hD2 := hide (unhide HD i (j + 1) w5 _ (unhide hD1) ((Upd.refl _ _).alloc (Obj.cells #[Value.int IntKind.i64 0, Value.int IntKind.i64 0] 31)))
            go_wp2_with fail
            go_roundw
            case rel => exact ⟨rfl, j + 1, by go_num, hjt, hD2⟩
            case measure => simp [intOf]; omega
          · go_wp2_with fail
            go_roundw
            case rel => exact ⟨rfl, j + 1, by go_num, hjt, hD1⟩
            case measure => simp [intOf]; omega
        · obtain rfl : j = m := by omega
          go_wp2_with fail
          go_roundw
          case rel => exact ⟨rfl, i + 1, by go_num, hlt, hide (unhide HE i hlt _ (unhide hDj))⟩
          case measure => simp [intOf]; omega
    · obtain rfl : i = N := by omega
      go_wp2_with fail
      go_ret
      exact ⟨rfl, unhide hC⟩

noncomputable section
/-- Steps, from the pick j on. -/
def gSteps (k : ECall) (w : Nat) (c : Nat) : Nat → ESt → Option ESt :=
  Nat.rec (motive := fun _ => Nat → ESt → Option ESt) (fun _ s => some s) (fun _ ih j s => match k 27 [.ptr (some (w, 0)), .int .i64 (Int.ofNat j)] s with
    | .v (.int .i64 (.ofNat e)) s' => match Nat.beq e 0 || Nat.beq e 3 with
      | true => ih (Nat.succ j) s'
      | false => none
    | _ => none) c
def gRd (k : ECall) (w m : Nat) (s : ESt) : Option ESt := match k 30 [.ptr (some (w, 0))] s with
  | .v (.int .i64 (.ofNat q)) s' => match Nat.beq q m with
    | true => gSteps k w m 0 s'
    | false => none
  | _ => none
def gRds (k : ECall) (w m n : Nat) : ESt → Option ESt :=
  Nat.rec (motive := fun _ => ESt → Option ESt) (fun s => some s) (fun _ ih s => match gRd k w m s with
    | some s' => ih s'
    | none => none) n
def gStageS (k : ECall) (w m n0 n : Nat) (L M : ESt) : Bool := match gRds k w m n L with
  | none => false
  | some t => gSub n0 t M
/-- Rounds, from a state that is known. -/
def iRoundsL (w N : Nat) (L F : ESt) (_ : ECall) (a : List EV) (s : ESt) : EO := match a with
  | [.ptr (some (v, 0)), .int .i64 (.ofNat q)] => match Nat.beq v w && Nat.beq q N with
    | false => .er
    | true => match gSub s.next s L with
      | true => .v (.int .i64 0) F
      | false => .er
  | _ => .er
end
inductive TrS (k : ECall) (w m n0 : Nat) : Nat → ESt → ESt → Prop
  | nil (s : ESt) : TrS k w m n0 0 s s
  | cut {n : Nat} {s t u : ESt} (h : gSub n0 s t = true) (r : TrS k w m n0 n t u) : TrS k w m n0 n s u
  | round {n : Nat} {s t u : ESt} (h : gRd k w m s = some t) (r : TrS k w m n0 n t u) : TrS k w m n0 (n + 1) s u
theorem gRds_succ {k : ECall} {w m n : Nat} {s t : ESt} (h : gRds k w m (n + 1) s = some t) : ∃ s', gRd k w m s = some s' ∧ gRds k w m n s' = some t := by
  have h : (match gRd k w m s with
    | some s' => gRds k w m n s'
    | none => none) = some t := h
  split at h
  · rename_i s' hk
    exact ⟨s', hk, h⟩
  · cases h
theorem TrS.iter {k : ECall} {w m n0 q : Nat} : ∀ {n : Nat} {s t u : ESt}, gRds k w m n s = some t → TrS k w m n0 q t u → TrS k w m n0 (n + q) s u
  | 0, s, t, u, h, r => by
    obtain rfl := Option.some.inj (show some s = some t from h)
    rw [Nat.zero_add]
    exact r
  | n + 1, s, t, u, h, r => by
    obtain ⟨s', h1, h2⟩ := gRds_succ h
    rw [show n + 1 + q = n + q + 1 by omega]
    exact .round h1 (TrS.iter h2 r)
theorem TrS.stage {k : ECall} {w m n0 n q : Nat} {L M u : ESt} (h : gStageS k w m n0 n L M = true) (r : TrS k w m n0 q M u) : TrS k w m n0 (n + q) L u := by
  unfold gStageS at h
  split at h
  · cases h
  · rename_i t ht
    exact TrS.iter ht (.cut h r)
theorem TrS.next {k : ECall} {wb m n0 : Nat} {w0 w : World} {β β0 : EMp} {s0 : ESt} (hn0 : s0.next = n0) {q : Nat} {s u : ESt} (h : TrS k wb m n0 q s u) : ∀ n, q = n + 1 → HR w0 β s w → Ext β0 s0 β s →
    ∃ s1 s2, HR w0 β s1 w ∧ Ext β0 s0 β s1 ∧ gRd k wb m s1 = some s2 ∧ TrS k wb m n0 n s2 u := by
  induction h with
  | nil s => intro n e; cases e
  | cut h r ih => exact fun n e hr he => ih n e (hr.sub h) (he.sub hn0 h)
  | round h r ih =>
    intro n e hr he
    injection e with e
    subst e
    exact ⟨_, _, hr, he, h, r⟩
theorem TrS.last {k : ECall} {wb m n0 : Nat} {w0 w : World} {β β0 : EMp} {s0 : ESt} (hn0 : s0.next = n0) {q : Nat} {s u : ESt} (h : TrS k wb m n0 q s u) : q = 0 → HR w0 β s w → Ext β0 s0 β s → HR w0 β u w ∧ Ext β0 s0 β u := by
  induction h with
  | nil s => exact fun _ hr he => ⟨hr, he⟩
  | cut h r ih => exact fun e hr he => ih e (hr.sub h) (he.sub hn0 h)
  | round h r ih => intro e; cases e
theorem gSteps_succ (k : ECall) (w c j : Nat) (s : ESt) : gSteps k w (c + 1) j s = match k 27 [.ptr (some (w, 0)), .int .i64 (Int.ofNat j)] s with
    | .v (.int .i64 (.ofNat e)) s' => (match Nat.beq e 0 || Nat.beq e 3 with
      | true => gSteps k w c (j + 1) s'
      | false => none)
    | _ => none := rfl
/-- A call of what the evaluator has evaluated. -/
theorem KS.call {k : ECall} (hk : KS Tryz.prog k) {f : FuncId} (hf : Enters Tryz.prog f) {args : List EV} {s s' : ESt} {x : EV} (h : k f args s = .v x s') {w0 w : World} {β : EMp} {av : Array Value} (hg : GB β) (hr : HR w0 β s w) (hv : VRs β args av.toList) :
    Calls Tryz.prog f av w fun e w' => ∃ v, e = .returned v ∧ ∃ β', VR β' x v ∧ HR w0 β' s' w' ∧ Ext β s β' s' := by
  rcases hk _ _ _ _ _ h w0 β w av hg hr hv with ⟨v, w'', q, -⟩ | ⟨-, q⟩
  · rw [hf] at q
    cases q
  · exact q
theorem iRoundsL_ok {k0 : ECall} (hk : KS Tryz.prog k0) {wb N m : Nat} {L F : ESt} (hN : N ≤ 1000) (hm : m ≤ 1000) (htr : TrS k0 wb m L.next N L F)
    {k : ECall} {args : List EV} {s s' : ESt} {x : EV} (ha : iRoundsL wb N L F k args s = .v x s') : KOk Tryz.prog 60 args s x s' := fun w0 β w av hg hr hv => by
  unfold iRoundsL at ha
  split at ha <;> first | (cases ha; done) | skip
  rename_i v q
  split at ha <;> first | (cases ha; done) | skip
  rename_i hvw
  split at ha <;> first | (cases ha; done) | skip
  rename_i hsub
  injection ha with e1 e2
  subst e1 e2
  rw [Bool.and_eq_true] at hvw
  obtain rfl := Nat.eq_of_beq_eq_true hvw.1
  obtain rfl := Nat.eq_of_beq_eq_true hvw.2
  have hLn : L.next = s.next := (gSub_ok hsub).1.symm
  rw [hLn] at htr
  have hrL : HR w0 β L w := hr.sub hsub
  have heL : Ext β s β L := (Ext.refl β s).sub rfl hsub
  obtain ⟨av⟩ := av
  cases hv with
  | cons hv1 hv2 =>
    cases hv2 with
    | cons hv2 hv3 =>
      cases hv3
      cases hv2
      cases hv1 with
      | ptr hwb =>
        rename_i l
        have hpk : Enters Tryz.prog 30 := enters_of Tryz.func30 (by kernel_rfl) rfl
        have hst : Enters Tryz.prog 27 := enters_of Tryz.func27 (by kernel_rfl) rfl
        refine .inr ⟨enters_of Tryz.func60 (by kernel_rfl) rfl _ _, (rounds_walk (.pointer (some ⟨l.c, l.sh + 0, none⟩)) q m hN
          (fun i w' => ∃ β' s1, TrS k0 v m s.next (q - i) s1 F ∧ HR w0 β' s1 w' ∧ Ext β s β' s1)
          (fun i j w' => ∃ β' s1 t, gSteps k0 v (m - j) j s1 = some t ∧ TrS k0 v m s.next (q - i - 1) t F ∧ HR w0 β' s1 w' ∧ Ext β s β' s1) w ⟨β, L, htr, hrL, heL⟩ ?_ ?_ ?_ ?_ hm).mono ?_⟩
        · rintro i j w1 w2 ⟨β', s1, t, d1, d2, d3, d4⟩ n
          exact ⟨β', s1, t, d1, d2, d3.world n, d4⟩
        · rintro i hi w1 ⟨β', s1, d1, d2, d3⟩
          obtain ⟨s1, s2, d2, d3, f1, f2⟩ := d1.next rfl (q - i - 1) (by omega) d2 d3
          unfold gRd at f1
          split at f1 <;> first | (cases f1; done) | skip
          rename_i x s3 hp
          split at f1 <;> first | (cases f1; done) | skip
          rename_i hx
          obtain rfl := Nat.eq_of_beq_eq_true hx
          refine (KS.call hk hpk hp (hg.mono d3.le) d2 (av := #[.pointer (some ⟨l.c, l.sh + 0, none⟩)]) (.cons (.ptr (d3.le _ _ hwb)) .nil)).mono ?_
          rintro e w2 ⟨z, rfl, β'', r1, r2, r3⟩
          cases r1
          exact ⟨rfl, β'', s3, s2, f1, f2, r2, d3.trans r3⟩
        · rintro i hi j hj w1 ⟨β', s1, t, d1, d2, d3, d4⟩
          obtain ⟨c, hc⟩ : ∃ c, m - j = c + 1 := ⟨m - j - 1, by omega⟩
          rw [hc, gSteps_succ] at d1
          split at d1 <;> first | (cases d1; done) | skip
          rename_i x s3 hp
          split at d1 <;> first | (cases d1; done) | skip
          rename_i hx
          refine (KS.call hk hst hp (hg.mono d4.le) d3 (av := #[.pointer (some ⟨l.c, l.sh + 0, none⟩), .int .i64 (j : Int)]) (.cons (.ptr (d4.le _ _ hwb)) (.cons (.int _ _) .nil))).mono ?_
          rintro e w2 ⟨z, rfl, β'', r1, r2, r3⟩
          cases r1
          refine ⟨?_, β'', s3, t, by rw [show m - (j + 1) = c by omega]; exact d1, d2, r2, d4.trans r3⟩
          rcases Bool.or_eq_true_iff.1 hx with h | h
          · obtain rfl := Nat.eq_of_beq_eq_true h; exact .inl rfl
          · obtain rfl := Nat.eq_of_beq_eq_true h; exact .inr rfl
        · rintro i hi w1 ⟨β', s1, t, d1, d2, d3, d4⟩
          rw [Nat.sub_self] at d1
          obtain rfl := Option.some.inj (show some s1 = some t from d1)
          exact ⟨β', s1, by rw [show q - (i + 1) = q - i - 1 by omega]; exact d2, d3, d4⟩
        · rintro e w1 ⟨rfl, β', s1, d1, d2, d3⟩
          obtain ⟨g1, g2⟩ := d1.last rfl (Nat.sub_self _) d2 d3
          exact ⟨_, rfl, β', .int _ _, g1, g2⟩

theorem CallOk.imp {P : Program} {f : FuncId} {av : Array Value} {w : World} {Q R : Value → World → Prop} (h : CallOk P f av w Q) (k : ∀ v w', Q v w' → R v w') : CallOk P f av w R := by
  rcases h with ⟨v, w'', q, r⟩ | ⟨q1, q⟩
  · exact .inl ⟨v, w'', q, k _ _ r⟩
  · refine .inr ⟨q1, q.mono ?_⟩
    rintro e w'' ⟨v, rfl, r⟩
    exact ⟨v, rfl, k _ _ r⟩
theorem gSpan_inv {x : EV} {lo c : Nat} (h : gSpan x = some (lo, c)) : ∃ e, x = .sint .i64 e ∧ ∀ σ z, SN σ e z → ∃ n : Nat, z = (n : Int) ∧ lo ≤ n ∧ n < lo + c := by
  unfold gSpan at h
  split at h
  · rename_i e
    have hb := fun σ z (hz : SN σ e z) => sBnd_ok (σ := σ) e hz
    refine ⟨e, rfl, fun σ z hz => ?_⟩
    have hb := hb σ z hz
    generalize sBnd e = b at h hb
    obtain ⟨l, u⟩ := b
    simp only at h hb
    split at h
    · cases h
    · rename_i a
      split at h
      · cases h
      · rename_i b
        split at h
        · rename_i hc
          rw [Bool.and_eq_true] at hc
          have h1 := Nat.le_of_ble_eq_true hc.1
          have h2 := Nat.le_of_ble_eq_true hc.2
          injection h with h
          injection h with e1 e2
          simp only [Int.ofNat_eq_natCast] at hb
          refine ⟨z.toNat, by omega, by omega, ?_⟩
          rw [← e2, ← e1]
          show z.toNat < a + (b - a + 1)
          omega
        · cases h
  · cases h
theorem gEach_ok {p : Nat → Bool} : ∀ {c lo : Nat}, gEach p c lo = true → ∀ n, lo ≤ n → n < lo + c → p n = true
  | 0, lo, _, n, h1, h2 => by omega
  | c + 1, lo, h, n, h1, h2 => by
    have h : (match p lo with | true => gEach p c (lo + 1) | false => false) = true := h
    split at h
    · rename_i hp
      by_cases e : lo = n
      · subst e; exact hp
      · exact gEach_ok h n (by omega) (by omega)
    · cases h
theorem gSt_inv {B : ETr EBlk} {bs : List Nat} {nx : Nat} {r : EO} {y : EV} (h : gSt B bs nx r = some y) : ∃ h' n', r = .v y (.mk h' n') ∧ gEqT nx B (gPuts .bot 5 bs h') 0 1 = true := by
  unfold gSt at h
  split at h
  · cases h
  · split at h
    rename_i y' h' n' 
    split at h
    · rename_i he
      obtain rfl := Option.some.inj h
      exact ⟨_, _, rfl, he⟩
    · cases h
theorem gLow_inv {nx : Nat} {B : ETr EBlk} (h : gLow nx B = true) : B.get nx = none ∧ gRefT nx B = true := by
  unfold gLow at h
  split at h
  · cases h
  · rename_i h0
    exact ⟨h0, h⟩
/-- Blocks from nx on are forgotten; what stands at nx is a place. -/
noncomputable def lowMapL (β : EMp) (nx : Nat) (l : ELoc) : EMp := fun b => if b < nx then β b else if b = nx then some l else none
theorem lowMapL_lt {β : EMp} {nx b : Nat} {l : ELoc} (hb : b < nx) : lowMapL β nx l b = β b := if_pos hb
theorem lowMapL_at (β : EMp) (nx : Nat) (l : ELoc) : lowMapL β nx l nx = some l := by
  unfold lowMapL
  rw [if_neg (Nat.lt_irrefl _), if_pos rfl]
section
variable {w0 w : World} {β β1 : EMp} {s : ESt}
theorem HR.lowL (h : HR w0 β s w) {B : ETr EBlk} {nx : Nat} (l0 : ELoc) (he : ∀ b, b < nx → s.heap.get b = B.get b) (hr : gRefT nx B = true) (hn : B.get nx = none) : HR w0 (lowMapL β nx l0) (.mk B (nx + 1)) w := by
  have hβ : ∀ b, b < nx → lowMapL β nx l0 b = β b := fun b hb => if_pos hb
  have inv : ∀ b l, lowMapL β nx l0 b = some l → (b < nx ∧ β b = some l) ∨ b = nx := fun b l e => by
    unfold lowMapL at e
    split at e
    · rename_i hb; exact .inl ⟨hb, e⟩
    · split at e
      · rename_i hb; exact .inr hb
      · cases e
  have hget : ∀ {b : Nat} {k : EBlk}, b < nx → (ESt.mk B (nx + 1)).heap.get b = some k → s.heap.get b = some k := fun hb hk => by
    rw [he _ hb]
    exact hk
  refine ⟨h.up, fun b l e => ?_, fun b l k e hk => ?_, fun b b' l l' k k' e e' g g' v1 v2 ec => ?_⟩
  · show b < nx + 1
    rcases inv b l e with ⟨hb, -⟩ | rfl <;> omega
  · rcases inv b l e with ⟨hb, e⟩ | rfl
    · exact (h.blk b l k e (hget hb hk)).low hβ (gRefT_get hr _ k hk)
    · have hk : B.get b = some k := hk
      rw [hn] at hk
      cases hk
  · rcases inv b l e with ⟨hb, e⟩ | rfl
    · rcases inv b' l' e' with ⟨hb', e'⟩ | rfl
      · exact h.inj b b' l l' k k' e e' (hget hb g) (hget hb' g') v1 v2 ec
      · have g' : B.get b' = some k' := g'
        rw [hn] at g'
        cases g'
    · have g : B.get b = some k := g
      rw [hn] at g
      cases g
/-- What a call leaves, told anew. -/
theorem gen_state {h h' B : ETr EBlk} {nx n' : Nat} {bs : List Nat} (l0 : ELoc) (hr0 : HR w0 β (.mk h nx) w) {w' : World} (h1 : HR w0 β1 (.mk h' n') w') (h2 : Ext β (.mk h nx) β1 (.mk h' n')) (he : gEqT nx B (gPuts .bot 5 bs h') 0 1 = true) (hl : gLow nx B = true) (hbs : ∀ b ∈ bs, ∃ l, β b = some l) :
    HR w0 (lowMapL β1 nx l0) (.mk B (nx + 1)) w' ∧ Ext β (.mk h nx) (lowMapL β1 nx l0) (.mk B (nx + 1)) := by
  obtain ⟨hn, hrf⟩ := gLow_inv hl
  have h3 := h1.cellPuts (i := 5) (x := .bot) bs fun b _ l v _ _ => .bot v
  refine ⟨h3.lowL l0 (fun b hb => gEqT_get he hb) hrf hn, fun b l e => ?_, Nat.le_succ _, fun b hb e => ?_⟩
  · have hb : b < nx := hr0.lt b l e
    rw [lowMapL_lt hb]
    exact h2.le b l e
  · have hb : b < nx := hb
    obtain ⟨g1, g2⟩ := h2.un b hb e
    refine ⟨by rw [lowMapL_lt hb]; exact g1, ?_⟩
    have hnm : b ∉ bs := fun hm => by
      obtain ⟨l, hl⟩ := hbs b hm
      rw [hl] at e
      cases e
    show B.get b = _
    rw [← gEqT_get he hb, gPuts_get _ _ _ hnm]
    exact g2
end

section
variable {k0 k : ECall} {args : List EV} {s s' : ESt} {x : EV}
/-- A number between bounds is one of them. -/
theorem gSpan_val {β : EMp} {x : EV} {v : Value} {lo c : Nat} (h : gSpan x = some (lo, c)) (hv : VR β x v) : ∃ n : Nat, v = .int .i64 (n : Int) ∧ lo ≤ n ∧ n < lo + c := by
  obtain ⟨e, rfl, hb⟩ := gSpan_inv h
  cases hv with
  | sint hs _ =>
    obtain ⟨n, rfl, h1, h2⟩ := hb _ _ hs
    exact ⟨n, rfl, h1, h2⟩
theorem iStepC_ok (hk : KS Tryz.prog k0) {ps : List (List Nat)} (ha : iStepC k0 ps k args s = .v x s') : KOk Tryz.prog 27 args s x s' := fun w0 β w av hg hr hv => by
  obtain ⟨h, nx⟩ := s
  unfold iStepC at ha
  split at ha <;> first | (cases ha; done) | skip
  rename_i wb y
  simp only at ha
  split at ha <;> first | (cases ha; done) | skip
  rename_i bs hps
  split at ha <;> first | (cases ha; done) | skip
  rename_i hl
  obtain ⟨av⟩ := av
  have hv0 := hv
  cases hv with
  | cons hv1 hv2 =>
    cases hv2 with
    | cons hv2 hv3 =>
      cases hv3
      cases hv1 with
      | ptr hwb =>
        rename_i pv l
        have hbs := gPaths_ok hr hwb hps
        have fin : ∀ {z : EV} {kk : IntKind} {q : Int} {y' : EV}, VRs β [.ptr (some (wb, 0)), y'] [Value.pointer (some ⟨l.c, l.sh + 0, none⟩), pv] → gSt (gPuts .bot 5 bs h) bs nx (k0 27 [.ptr (some (wb, 0)), y'] (.mk h nx)) = some z → z = .int kk q →
            CallOk Tryz.prog 27 ⟨[Value.pointer (some ⟨l.c, l.sh + 0, none⟩), pv]⟩ w fun v w' => ∃ β', VR β' (.int kk q) v ∧ HR w0 β' (.mk (gPuts .bot 5 bs h) (nx + 1)) w' ∧ Ext β (.mk h nx) β' (.mk (gPuts .bot 5 bs h) (nx + 1)) := by
          intro z kk q y' hvs hst hz
          subst hz
          obtain ⟨h', n', e1, e2⟩ := gSt_inv hst
          refine (hk _ _ _ _ _ e1 w0 β w _ hg hr hvs).imp ?_
          rintro v w' ⟨β1, r1, r2, r3⟩
          cases r1
          obtain ⟨g1, g2⟩ := gen_state ⟨0, 0, 0⟩ hr r2 r3 e2 hl hbs
          exact ⟨_, .int _ _, g1, g2⟩
        split at ha
        · split at ha <;> first | (cases ha; done) | skip
          rename_i kk q hst
          injection ha with e1 e2
          subst e1 e2
          exact fin hv0 hst rfl
        · rename_i p hp
          obtain ⟨lo, c⟩ := p
          split at ha <;> first | (cases ha; done) | skip
          rename_i kk q hst
          split at ha <;> first | (cases ha; done) | skip
          rename_i hall
          injection ha with e1 e2
          subst e1 e2
          obtain ⟨n, rfl, h1, h2⟩ := gSpan_val hp hv2
          have hn := gEqO_eq (gEach_ok hall n h1 h2)
          exact fin (.cons (.ptr hwb) (.cons (.int _ _) .nil)) hn rfl
theorem iNodeC_ok (hk : KS Tryz.prog k0) (ha : iNodeC k0 k args s = .v x s') : KOk Tryz.prog 31 args s x s' := by
  unfold iNodeC at ha
  split at ha <;> first | (cases ha; done) | skip
  rename_i wb y
  split at ha
  · exact hk _ _ _ _ _ ha
  · rename_i p hp
    obtain ⟨lo, c⟩ := p
    split at ha
    rename_i h nx
    split at ha <;> first | (cases ha; done) | skip
    rename_i hl
    split at ha <;> first | (cases ha; done) | skip
    rename_i hall
    injection ha with e1 e2
    subst e1 e2
    exact fun w0 β w av hg hr hv => by
      obtain ⟨av⟩ := av
      cases hv with
      | cons hv1 hv2 =>
        cases hv2 with
        | cons hv2 hv3 =>
          cases hv3
          obtain ⟨n, rfl, h1, h2⟩ := gSpan_val hp hv2
          have hn := gEach_ok hall n h1 h2
          unfold gPtrO at hn
          split at hn <;> first | (cases hn; done) | skip
          rename_i b hst
          obtain ⟨h', n', e1, e2⟩ := gSt_inv hst
          refine (hk _ _ _ _ _ e1 w0 β w _ hg hr (.cons hv1 (.cons (.int _ _) .nil))).imp ?_
          rintro v w' ⟨β1, r1, r2, r3⟩
          cases r1 with
          | ptr hb =>
            rename_i l
            obtain ⟨g1, g2⟩ := gen_state (bs := []) l hr r2 r3 e2 hl (fun b hb => by cases hb)
            exact ⟨_, .ptr (lowMapL_at _ _ _), g1, g2⟩
theorem iListC_ok (hk : KS Tryz.prog k0) (ha : iListC k0 k args s = .v x s') : KOk Tryz.prog 108 args s x s' := by
  unfold iListC at ha
  split at ha <;> first | (cases ha; done) | skip
  rename_i wb q y r
  split at ha
  · exact hk _ _ _ _ _ ha
  · rename_i p hp
    obtain ⟨lo, c⟩ := p
    split at ha
    rename_i h nx
    split at ha <;> first | (cases ha; done) | skip
    rename_i hl
    split at ha <;> first | (cases ha; done) | skip
    rename_i n0 c0 z0 hst0
    split at ha <;> first | (cases ha; done) | skip
    rename_i hall
    injection ha with e1 e2
    subst e1 e2
    exact fun w0 β w av hg hr hv => by
      obtain ⟨av⟩ := av
      cases hv with
      | cons hv1 hv2 =>
        cases hv2 with
        | cons hv2 hv3 =>
          cases hv3
          cases hv2 with
          | agg hv2 =>
            rename_i ra
            obtain ⟨ra⟩ := ra
            cases hv2 with
            | cons hq hv2 =>
              cases hv2 with
              | cons hy hrest =>
                obtain ⟨n, rfl, h1, h2⟩ := gSpan_val hp hy
                have hn := gEach_ok hall n h1 h2
                unfold gAnsO at hn
                split at hn <;> first | (cases hn; done) | skip
                rename_i b n1 c1 z1 hst
                rw [Bool.and_eq_true, Bool.and_eq_true] at hn
                obtain rfl := Nat.eq_of_beq_eq_true hn.1.1
                obtain rfl := Nat.eq_of_beq_eq_true hn.1.2
                obtain rfl := Nat.eq_of_beq_eq_true hn.2
                obtain ⟨h', n', e1, e2⟩ := gSt_inv hst
                refine (hk _ _ _ _ _ e1 w0 β w _ hg hr (.cons hv1 (.cons (.agg (.cons hq (.cons (.int _ _) hrest))) .nil))).imp ?_
                rintro v w' ⟨β1, r1, r2, r3⟩
                cases r1 with
                | agg r1 =>
                  rename_i va
                  obtain ⟨va⟩ := va
                  cases r1 with
                  | cons a1 r1 =>
                    cases r1 with
                    | cons a2 r1 =>
                      cases r1 with
                      | cons a3 r1 =>
                        cases r1
                        cases a1
                        cases a2
                        cases a3 with
                        | sl hb x1 x2 =>
                          rename_i l
                          obtain ⟨g1, g2⟩ := gen_state (bs := []) l hr r2 r3 e2 hl (fun b hb => by cases hb)
                          exact ⟨_, .agg (.cons (.int _ _) (.cons (.int _ _) (.cons (.sl (lowMapL_at _ _ _) x1 x2) .nil))), g1, g2⟩
                        | sle hb =>
                          rename_i l ad
                          obtain ⟨g1, g2⟩ := gen_state (bs := []) l hr r2 r3 e2 hl (fun b hb => by cases hb)
                          exact ⟨_, .agg (.cons (.int _ _) (.cons (.int _ _) (.cons (.sle (lowMapL_at _ _ _)) .nil))), g1, g2⟩
end

def joiF (n : Nat) : Nat := if n = 156 then 162 else if n = 165 then 222 else if n = 166 then 158 else if n = 169 then 223 else if n = 240 then 219 else if n = 241 then 283 else if n = 276 then 282 else if n = 277 then 325 else n
def joiT (n : Nat) : Nat := if n = 0 then 0 else if n = 3 then 3 else if n = 4 then 4 else if n = 5 then 5 else if n = 9 then 9 else if n = 20 then 20 else if n = 31 then 77 else if n = 37 then 157 else if n = 70 then 261 else if n = 72 then 263 else if n = 75 then 269 else if n = 76 then 270 else if n = 80 then 193 else if n = 127 then 386 else if n = 164 then 384 else n
def joiR : Go.Shelf.Ren := ⟨joiF, joiT, fun n => n⟩
theorem joiL : Lays.n156 Tryz.prog joiR where
  mixed := by kernel_rfl
  f156 := by kernel_rfl
  f165 := by kernel_rfl
  f166 := by kernel_rfl
  f169 := by kernel_rfl
  f240 := by kernel_rfl
  f241 := by kernel_rfl
  f276 := by kernel_rfl
  f277 := by kernel_rfl
  t0 := Tryz.underlying0
  a0 := Tryz.isAgg0
  z0 := Tryz.sizeOf0
  v0 := Tryz.zeroValue0
  t3 := Tryz.underlying3
  a3 := Tryz.isAgg3
  z3 := Tryz.sizeOf3
  v3 := Tryz.zeroValue3
  t4 := Tryz.underlying4
  a4 := Tryz.isAgg4
  z4 := Tryz.sizeOf4
  v4 := Tryz.zeroValue4
  t9 := Tryz.underlying9
  a9 := Tryz.isAgg9
  z9 := Tryz.sizeOf9
  v9 := Tryz.zeroValue9
  t20 := Tryz.underlying20
  a20 := Tryz.isAgg20
  z20 := Tryz.sizeOf20
  v20 := Tryz.zeroValue20
  t31 := Tryz.underlying77
  a31 := Tryz.isAgg77
  z31 := Tryz.sizeOf77
  v31 := Tryz.zeroValue77
  t37 := Tryz.underlying157
  a37 := Tryz.isAgg157
  z37 := Tryz.sizeOf157
  v37 := Tryz.zeroValue157
  t70 := Tryz.underlying261
  a70 := Tryz.isAgg261
  z70 := Tryz.sizeOf261
  v70 := Tryz.zeroValue261
  t72 := Tryz.underlying263
  a72 := Tryz.isAgg263
  z72 := Tryz.sizeOf263
  v72 := Tryz.zeroValue263
  t75 := Tryz.underlying269
  a75 := Tryz.isAgg269
  z75 := Tryz.sizeOf269
  v75 := Tryz.zeroValue269
  t76 := Tryz.underlying270
  a76 := Tryz.isAgg270
  z76 := Tryz.sizeOf270
  v76 := Tryz.zeroValue270
  t127 := Tryz.underlying386
  a127 := Tryz.isAgg386
  z127 := Tryz.sizeOf386
  v127 := Tryz.zeroValue386
  t164 := Tryz.underlying384
  a164 := Tryz.isAgg384
  z164 := Tryz.sizeOf384
  v164 := Tryz.zeroValue384
theorem joiX : Builder.Extra Tryz.prog joiR where
  sizeBuilder := by kernel_rfl
  liesBuilder := by kernel_rfl
  t5 := Tryz.underlying5
  a5 := Tryz.isAgg5
  z5 := Tryz.sizeOf5
  v5 := Tryz.zeroValue5
  infoByte := by kernel_rfl
  cellsByte := by kernel_rfl
  sizeByte := by kernel_rfl
  neB5 := by decide

noncomputable section
def iTexts (l : List EV) : Option (List (List Nat)) :=
  List.rec (motive := fun _ => Option (List (List Nat))) (some []) (fun x _ ih => match x with
    | .str a => match ih with
      | some r => some (a :: r)
      | none => none
    | _ => none) l
def iJoinL (sep : List Nat) (l : List (List Nat)) : List Nat :=
  List.rec (motive := fun _ => List Nat) [] (fun x r ih => match r with
    | [] => x
    | _ => x ++ (sep ++ ih)) l
end
theorem iTexts_cons (x : EV) (l : List EV) : iTexts (x :: l) = match x with
    | .str a => match iTexts l with
      | some r => some (a :: r)
      | none => none
    | _ => none := rfl
theorem iTexts_run {β : EMp} : ∀ {l : List EV} {vs : List Value} {ls : List (List Nat)}, VRs β l vs → iTexts l = some ls → ∃ bs : List ByteArray, vs = bs.map Value.string ∧ ls = bs.map fun b => b.data.toList.map (·.toNat)
  | _, _, ls, .nil, h => by
    obtain rfl := Option.some.inj (show some [] = some ls from h)
    exact ⟨[], rfl, rfl⟩
  | x :: l, v :: vs, ls, .cons hx hl, h => by
    rw [iTexts_cons] at h
    cases hx <;> first | (cases h; done) | skip
    rename_i a b hb
    simp only at h
    cases hq : iTexts l with
    | none => rw [hq] at h; cases h
    | some r =>
      rw [hq] at h
      obtain rfl := Option.some.inj h
      obtain ⟨bs, rfl, rfl⟩ := iTexts_run hl hq
      exact ⟨_ :: bs, rfl, by rw [List.map_cons, hb]⟩
theorem iJoinL_run (sep : ByteArray) : ∀ (bs : List ByteArray), iJoinL (sep.data.toList.map (·.toNat)) (bs.map fun b => b.data.toList.map (·.toNat)) = (Lib.join (bs.map (·.data.toList)) sep.data.toList).map (·.toNat)
  | [] => rfl
  | [b] => by rw [List.map_cons, List.map_nil, List.map_cons, List.map_nil, Lib.join_one]; rfl
  | b :: c :: r => by
    have ih := iJoinL_run sep (c :: r)
    have e : iJoinL (sep.data.toList.map (·.toNat)) ((b :: c :: r).map fun b => b.data.toList.map (·.toNat)) = b.data.toList.map (·.toNat) ++ (sep.data.toList.map (·.toNat) ++ iJoinL (sep.data.toList.map (·.toNat)) ((c :: r).map fun b => b.data.toList.map (·.toNat))) := rfl
    rw [e, ih]
    unfold Lib.join
    rw [List.map_cons, List.map_cons, List.map_cons, List.intercalate_cons_cons]
    simp
noncomputable def iJoin (_ : ECall) (a : List EV) (s : ESt) : EO := match a with
  | [.sl (some (b, o)) n c z, .str sep] => match s.loadN b o n with
    | some l => match iTexts l with
      | some ls => match Nat.ble n c && Nat.ble 1 n && Nat.ble n 1000 && Nat.ble (iJoinL sep ls).length 1000000000 with
        | true => .v (.str (iJoinL sep ls)) s
        | false => .er
      | none => .er
    | none => .er
  | _ => .er
theorem iJoin_ok {k : ECall} {args : List EV} {s s' : ESt} {x : EV} (ha : iJoin k args s = .v x s') : KOk Tryz.prog 162 args s x s' := fun w0 β w av hg hr hv => by
  unfold iJoin at ha
  split at ha <;> first | (cases ha; done) | skip
  rename_i b o n c z sep
  cases hl : s.loadN b o n with
  | none => rw [hl] at ha; cases ha
  | some l =>
    rw [hl] at ha
    simp only at ha
    cases ht : iTexts l with
    | none => rw [ht] at ha; cases ha
    | some ls =>
      rw [ht] at ha
      simp only at ha
      cases hc : (Nat.ble n c && Nat.ble 1 n && Nat.ble n 1000 && Nat.ble (iJoinL sep ls).length 1000000000) with
      | false => rw [hc] at ha; cases ha
      | true =>
        rw [hc] at ha
        injection ha with e1 e2
        subst e1 e2
        simp only [Bool.and_eq_true] at hc
        obtain ⟨⟨⟨hc1, hc2⟩, hc3⟩, hc4⟩ := hc
        obtain ⟨av⟩ := av
        cases hv with
        | cons h1 h2 =>
          cases h2 with
          | cons h2 h3 =>
            cases h3
            cases h2 with
            | str hs =>
              cases h1 with
              | sle _ => exact absurd (Nat.le_of_ble_eq_true hc2) (by omega)
              | sl hb h0 hz =>
                obtain ⟨vs, g1, g2, g3⟩ := hr.loadN hb hl
                obtain ⟨bs, rfl, rfl⟩ := iTexts_run g2 ht
                subst hs
                rename_i sb cap' l2
                have hn : n = bs.length := by rw [← g1, List.length_map]
                subst hn
                rw [iJoinL_run] at hc4 ⊢
                rw [List.length_map] at hc4
                have hc4 := Nat.le_of_ble_eq_true hc4
                have hc3 := Nat.le_of_ble_eq_true hc3
                have hcap : bs.length ≤ cap' := by
                  have h1 := Nat.le_of_ble_eq_true hc1
                  by_cases e : z = 0
                  · rw [h0 e]; exact h1
                  · exact Nat.le_trans h1 (hz e).1
                have hcell : ∀ (j : Nat) y, bs[j]? = some y → w.cell? ⟨l2.c, l2.sh + o + j, none⟩ = some (.string y) := fun j y hy => g3 j _ (by rw [List.getElem?_map, hy]; rfl)
                have hlt : l2.c < w.heap.size := by
                  have hpos : 0 < bs.length := Nat.le_of_ble_eq_true hc2
                  have h1 := hcell 0 bs[0] (List.getElem?_eq_getElem hpos)
                  unfold World.cell? at h1
                  cases hq : w.heap[l2.c]? with
                  | none => simp [hq] at h1
                  | some _ => exact (Array.getElem?_eq_some_iff.1 hq).1
                refine .inr ⟨enters_of Tryz.func162 (by kernel_rfl) rfl _ _, (Any.strings_Join joiL joiX l2.c (l2.sh + o) cap' bs sb w hcell hlt (by omega) hcap (by omega)).mono fun e w' he => ?_⟩
                obtain ⟨rfl, hb2⟩ := he
                have hu : Upd (fun _ => False) w w' := Upd.of_below hb2 (Nat.le_refl _)
                exact ⟨_, rfl, β, .str (by simp), hr.world hu, Ext.refl _ _⟩

/-- The n cells of block b from o on. -/
def rowN (w : World) (b o n : Nat) : Option (Array Value) :=
  match w.heap[b]? with
  | some (.cells C _ _) => if o + n ≤ C.size then some (C.extract o (o + n)) else none
  | _ => none
/-- What a load of a row comes to that is not there whole: nobody looks. -/
def slowLd (P : Program) (ty : TypeId) (w : World) (b o : Nat) : Result Value := (loadVar ty ⟨b, o, none⟩).run P w
theorem rowN_cell {w : World} {b o n : Nat} {A : Array Value} (h : rowN w b o n = some A) : A.size = n ∧ ∀ j, j < n → w.cell? ⟨b, o + j, none⟩ = A[j]? := by
  unfold rowN at h
  cases hb : w.heap[b]? with
  | none => rw [hb] at h; cases h
  | some ob =>
    rw [hb] at h
    cases ob with
    | cells C T fz =>
      simp only at h
      split at h
      · rename_i hle
        injection h with h
        subst h
        refine ⟨by simp; omega, fun j hj => ?_⟩
        rw [blk_cell hb, Array.getElem?_extract, if_pos (by omega)]
      · cases h
    | _ => cases h
theorem rowN_rangeAt {w : World} {b o n : Nat} {A : Array Value} (h : rowN w b o n = some A) : w.rangeAt b o A.toList := by
  obtain ⟨hs, hc⟩ := rowN_cell h
  intro j v hv
  rw [Array.getElem?_toList] at hv
  have hj : j < n := by
    have := (Array.getElem?_eq_some_iff.1 hv).1
    omega
  rw [hc j hj, hv]
theorem rowN_blk {w : World} {b : Nat} {C : Array Value} {T : TypeId} {fz : Nat × Nat} (h : w.heap[b]? = some (.cells C T fz)) (o n : Nat) (hn : o + n ≤ C.size) : rowN w b o n = some (C.extract o (o + n)) := by
  unfold rowN
  rw [h]
  simp only
  rw [if_pos hn]
theorem rowN_whole {w : World} {b : Nat} {C : Array Value} {T : TypeId} {fz : Nat × Nat} (h : w.heap[b]? = some (.cells C T fz)) (n : Nat) (hn : C.size = n) : rowN w b 0 n = some C := by
  rw [rowN_blk h 0 n (by omega)]
  simp [← hn]
theorem rowN_heap {w w' : World} (b : Nat) (h : w'.heap[b]? = w.heap[b]?) (o n : Nat) : rowN w' b o n = rowN w b o n := by unfold rowN; rw [h]
theorem rowN_upd {S : Nat → Prop} {w w' : World} {b o n : Nat} {A : Array Value} (h : rowN w b o n = some A) (u : Upd S w w') (hn : ¬ S b) : rowN w' b o n = some A := by
  rw [rowN_heap b (u.block b ?_ hn)]
  · exact h
  · by_cases hb : b < w.heap.size
    · exact hb
    · have e : w.heap[b]? = none := by simp; omega
      unfold rowN at h
      rw [e] at h
      cases h

/-- THE LOAD, whole: a rule for the walk ('attribute [local go_sem ↓]' at a type of your own). -/
theorem run_loadAt_rowN {P : Program} (ty n : Nat) (d : TypeDesc) (hu : P.underlying ty = some d) (hd : d.isRow = true) (hi : (P.info? ty).map (·.size) = some n) (b o : Nat) (w : World) :
    (Instr.loadAt ty (.pointer (some ⟨b, o, none⟩))).run P w = match rowN w b o n with | some A => .ok (.agg A) w | none => slowLd P ty w b o := by
  cases h : rowN w b o n with
  | none =>
    simp only [Instr.loadAt, Instr.sureAddr, Sem.run_bind, Sem.run_pure, Result.andThen_ok, slowLd]
  | some A =>
    simp only
    rw [run_loadAt_mid w b o ty A.toList d (rowN_rangeAt h) hu hd (by rw [hi, Array.length_toList, (rowN_cell h).1])]

/-! ### Stores -/
/-- May a row of n cells be stored there? -/
def stOk (w : World) (b o n : Nat) (A : Array Value) : Bool :=
  (match w.heap[b]? with | some (.cells C _ fz) => decide (o + n ≤ C.size) && decide (fz = (0, 0)) | _ => false) && decide (A.size = n) && A.all (·.oneCell')
def slowSt (P : Program) (ty : TypeId) (w : World) (b o : Nat) (A : Array Value) : Result Unit := (Instr.storeAt ty (.pointer (some ⟨b, o, none⟩)) (.agg A)).run P w
theorem stOk_blk {w : World} {b : Nat} {C : Array Value} {T : TypeId} (h : w.heap[b]? = some (.cells C T (0, 0))) {o n : Nat} (hn : o + n ≤ C.size) {A : Array Value} (hA : A.size = n) (h1 : A.all (·.oneCell') = true) : stOk w b o n A = true := by
  unfold stOk
  rw [h]
  simp only [h1, Bool.and_true]
  simp [hn, hA]
theorem stOk_there {w : World} {b o n : Nat} {A : Array Value} (h : stOk w b o n A = true) : w.there b o A.size ∧ A.size = n ∧ A.all (·.oneCell') = true := by
  unfold stOk at h
  cases hb : w.heap[b]? with
  | none => rw [hb] at h; simp at h
  | some ob =>
    rw [hb] at h
    cases ob with
    | cells C T fz =>
      simp only [Bool.and_eq_true, decide_eq_true_eq] at h
      obtain ⟨⟨⟨h1, rfl⟩, h3⟩, h4⟩ := h
      refine ⟨fun j hj => ⟨?_, blk_free hb _⟩, h3, h4⟩
      rw [blk_cell hb, Array.getElem?_eq_getElem (by omega)]
      rfl
    | _ => simp at h
/-- THE STORE, whole. -/
theorem run_storeAt_row {P : Program} (ty n : Nat) (hi : (P.info? ty).map (·.size) = some n) (b o : Nat) (A : Array Value) (w : World) :
    (Instr.storeAt ty (.pointer (some ⟨b, o, none⟩)) (.agg A)).run P w = if stOk w b o n A = true then .ok () (w.setCells b o A.toList) else slowSt P ty w b o A := by
  by_cases h : stOk w b o n A = true
  · rw [if_pos h]
    obtain ⟨h1, h2, h3⟩ := stOk_there h
    exact run_storeAt_mid w b o ty A h1 (by rw [hi, h2]) h3
  · rw [if_neg h]
    rfl
/-- Cells laid into an array. -/
def layIn (C : Array Value) (o : Nat) : List Value → Array Value
  | [] => C
  | v :: r => layIn (C.setIfInBounds o v) (o + 1) r
theorem blk_setCells {w : World} {b : Nat} {C : Array Value} {T : TypeId} {fz : Nat × Nat} (h : w.heap[b]? = some (.cells C T fz)) (o : Nat) (vs : List Value) : (w.setCells b o vs).heap[b]? = some (.cells (layIn C o vs) T fz) := by
  induction vs generalizing w C o with
  | nil => exact h
  | cons v r ih => exact ih (blk_set h o v) (o + 1)
theorem layIn_size (C : Array Value) (o : Nat) (vs : List Value) : (layIn C o vs).size = C.size := by
  induction vs generalizing C o with
  | nil => rfl
  | cons v r ih => rw [layIn, ih, Array.size_setIfInBounds]
theorem layIn_get (C : Array Value) (o : Nat) (vs : List Value) (i : Nat) (h : o + vs.length ≤ C.size) : (layIn C o vs)[i]? = if o ≤ i ∧ i < o + vs.length then vs[i - o]? else C[i]? := by
  induction vs generalizing C o with
  | nil => simp [layIn]; intro h1 h2; omega
  | cons v r ih =>
    rw [layIn, ih _ _ (by simp only [List.length_cons] at h; rw [Array.size_setIfInBounds]; omega)]
    simp only [List.length_cons] at h ⊢
    by_cases h1 : o + 1 ≤ i ∧ i < o + 1 + r.length
    · rw [if_pos h1, if_pos (by omega)]
      obtain ⟨k, rfl⟩ : ∃ k, i = o + 1 + k := ⟨i - (o + 1), by omega⟩
      rw [show o + 1 + k - (o + 1) = k by omega, show o + 1 + k - o = k + 1 by omega, List.getElem?_cons_succ]
    · rw [if_neg h1, Array.getElem?_setIfInBounds]
      by_cases h2 : o = i
      · subst h2
        rw [if_pos rfl, if_pos (by omega), if_pos (by omega)]
        simp
      · rw [if_neg h2, if_neg (by omega)]
theorem Upd.setCells {w w' : World} {b : Nat} (h : Upd (· = b) w w') (o : Nat) (vs : List Value) : Upd (· = b) w (w'.setCells b o vs) := by
  induction vs generalizing w' o with
  | nil => exact h
  | cons v r ih => exact ih (h.set1 o v) (o + 1)

theorem rowN_drew (w : World) (b o n : Nat) : rowN w.drew b o n = rowN w b o n := rfl

end Go.Proofs.YtjckpgcmfieaoaaGreatDoor
namespace Go.Proofs.YtjckpgcmfieaoaaGreatDoor
open Go.RowKit

/-- Block b holds just these integers, and may be written. -/
def Ints (k : IntKind) (w : World) (b : Nat) (ws : List Int) : Prop := ∃ T, w.heap[b]? = some (.cells (ws.map (Value.int k)).toArray T (0, 0))
theorem Ints.cell {k : IntKind} {w : World} {b : Nat} {ws : List Int} (h : Ints k w b ws) {i : Nat} (hi : i < ws.length) : w.cell? ⟨b, i, none⟩ = some (.int k (ws.getD i 0)) := by
  obtain ⟨T, h⟩ := h
  rw [blk_cell h, List.getElem?_toArray, List.getElem?_map, List.getElem?_eq_getElem hi, List.getD_eq_getElem?_getD, List.getElem?_eq_getElem hi]
  rfl
theorem Ints.free {k : IntKind} {w : World} {b : Nat} {ws : List Int} (h : Ints k w b ws) (i : Nat) : w.frozen? ⟨b, i, none⟩ = false := by
  obtain ⟨T, h⟩ := h
  exact blk_free h i
theorem Ints.set {k : IntKind} {w : World} {b : Nat} {ws : List Int} (h : Ints k w b ws) (i : Nat) (v : Int) : Ints k (w.setCell ⟨b, i, none⟩ (.int k v)) b (ws.set i v) := by
  obtain ⟨T, h⟩ := h
  refine ⟨T, (blk_set h i _).trans ?_⟩
  simp [List.map_set]
theorem Ints.upd {S : Nat → Prop} {k : IntKind} {w w' : World} {b : Nat} {ws : List Int} (h : Ints k w b ws) (u : Upd S w w') (hn : ¬ S b) : Ints k w' b ws := by
  obtain ⟨T, h⟩ := h
  exact ⟨T, u.old h hn⟩
theorem Ints.q {k : IntKind} {w w' : World} {b : Nat} {ws : List Int} (h : Ints k w b ws) (q : Q w w') : Ints k w' b ws := h.upd (q.upd (fun _ => False)) (fun h => h)
theorem Ints.lt {k : IntKind} {w : World} {b : Nat} {ws : List Int} (h : Ints k w b ws) : b < w.heap.size := by
  obtain ⟨T, h⟩ := h
  exact blk_lt h

/-- A turn to the right by n, as the program reckons it. -/
def rotI (x n : Int) : Int := bits .or .u32 (x / 2 ^ n.toNat) (x * 2 ^ (32 - n).toNat % 4294967296)
def turnsI (x : Int) (ns : List Int) : Int := ns.foldl (fun a n => bits .xor .u32 a (rotI x n)) 0
theorem bits_u32 (op : BinOp) (x y : Int) : 0 ≤ bits op .u32 x y ∧ bits op .u32 x y < 4294967296 := by
  have h := wf_bits op .u32 x y
  simp [Lit.wf, IntKind.min, IntKind.max, IntKind.signed, IntKind.bits] at h
  omega
theorem turnsI_bd (x : Int) (ns : List Int) : 0 ≤ turnsI x ns ∧ turnsI x ns < 4294967296 := by
  unfold turnsI
  have key : ∀ (ns : List Int) (a : Int), 0 ≤ a ∧ a < 4294967296 → 0 ≤ ns.foldl (fun a n => bits .xor .u32 a (rotI x n)) a ∧ ns.foldl (fun a n => bits .xor .u32 a (rotI x n)) a < 4294967296 := by
    intro ns
    induction ns with
    | nil => intro a h; exact h
    | cons n ns ih => intro a _; exact ih _ (bits_u32 ..)
  exact key ns 0 (by omega)
theorem turnsI_snoc (x : Int) (ns : List Int) (n : Int) : turnsI x (ns ++ [n]) = bits .xor .u32 (turnsI x ns) (rotI x n) := by simp [turnsI]

set_option maxHeartbeats 1000000 in
theorem turns_any (x : Int) (ns : List Int) (b c : Nat) (w : World) (hns : ∀ n ∈ ns, 0 < n ∧ n < 32) (hl : ns.length ≤ 8) (hx : 0 ≤ x) (hx2 : x < 4294967296) (hb : Ints .u64 w b ns) :
    Calls Tryz.prog 243 #[.int .u32 x, .slice (some ⟨b, 0, none⟩) ns.length c] w (Reads (.int .u32 (turnsI x ns)) w) := by
  go_enter Tryz.func243, Tryz.ntmps243
  go_wp2_with fail
  go_loopw [5, 7, 10] (fun s _ iv wr => ∃ k : Nat, iv = .int .i64 (k : Int) ∧ k ≤ ns.length ∧ s = .int .u32 (turnsI x (ns.take k)) ∧ wr = w) (fun _ _ iv _ => ns.length - (intOf iv).toNat)
  case atStart => exact ⟨0, rfl, Nat.zero_le _, rfl, rfl⟩
  case round =>
    obtain ⟨k, rfl, hk, rfl, rfl⟩ := hrel
    by_cases hlt : k < ns.length
    · have c0 := hb.cell hlt
      obtain ⟨hn1, hn2⟩ := hns (ns.getD k 0) (by rw [List.getD_eq_getElem?_getD, List.getElem?_eq_getElem hlt]; exact List.getElem_mem hlt)
      have hs := turnsI_snoc x (ns.take k) (ns.getD k 0)
      rw [show ns.take k ++ [ns.getD k 0] = ns.take (k + 1) by rw [List.take_add_one, List.getD_eq_getElem?_getD, List.getElem?_eq_getElem hlt]; rfl] at hs
      obtain ⟨ha, ha2⟩ := turnsI_bd x (ns.take k)
      unfold rotI at hs
      have HS := hide hs
      have hnn : (k : Int) < (ns.length : Int) := by omega
      clear hs
      generalize ns.getD k 0 = n at c0 hn1 hn2 HS
      generalize turnsI x (ns.take k) = a at ha ha2 HS ⊢
      go_wp2
      go_roundw
      case rel => exact ⟨k + 1, by go_num, by omega, by rw [unhide HS], trivial⟩
      case measure => simp [intOf]; omega
    · obtain rfl : k = ns.length := by omega
      rw [List.take_length]
      go_wp2
      go_ret
      exact ⟨rfl, Q.refl _⟩

theorem turns_two (x n1 n2 : Int) (g : Nat) (T : TypeId) (w : World) (h1 : 0 < n1 ∧ n1 < 32) (h2 : 0 < n2 ∧ n2 < 32) (hx : 0 ≤ x) (hx2 : x < 4294967296) (hb : w.heap[g]? = some (.cells #[.int .u64 n1, .int .u64 n2] T (0, 0))) :
    Calls Tryz.prog 243 #[.int .u32 x, .slice (some ⟨g, 0, none⟩) 2 2] w (Reads (.int .u32 (turnsI x [n1, n2])) w) :=
  turns_any x [n1, n2] g 2 w (by intro n hn; simp only [List.mem_cons, List.not_mem_nil, or_false] at hn; rcases hn with rfl | rfl; exact h1; exact h2) (by simp) hx hx2 ⟨T, hb⟩
theorem turns_three (x n1 n2 n3 : Int) (g : Nat) (T : TypeId) (w : World) (h1 : 0 < n1 ∧ n1 < 32) (h2 : 0 < n2 ∧ n2 < 32) (h3 : 0 < n3 ∧ n3 < 32) (hx : 0 ≤ x) (hx2 : x < 4294967296) (hb : w.heap[g]? = some (.cells #[.int .u64 n1, .int .u64 n2, .int .u64 n3] T (0, 0))) :
    Calls Tryz.prog 243 #[.int .u32 x, .slice (some ⟨g, 0, none⟩) 3 3] w (Reads (.int .u32 (turnsI x [n1, n2, n3])) w) :=
  turns_any x [n1, n2, n3] g 3 w (by intro n hn; simp only [List.mem_cons, List.not_mem_nil, or_false] at hn; rcases hn with rfl | rfl | rfl; exact h1; exact h2; exact h3) (by simp) hx hx2 ⟨T, hb⟩

end Go.Proofs.YtjckpgcmfieaoaaGreatDoor
