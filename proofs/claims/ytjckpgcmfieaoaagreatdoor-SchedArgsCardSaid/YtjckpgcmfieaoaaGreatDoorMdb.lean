/-
  wire.try, where no step goes wrong: by what holds between the steps.
-/
import Derived.Test.YtjckpgcmfieaoaaGreatDoorTry
import Derived.Test.YtjckpgcmfieaoaaGreatDoorMbh
set_option linter.unusedVariables false
set_option linter.unusedSimpArgs false
namespace Go.Proofs.YtjckpgcmfieaoaaGreatDoor
open Go.RowKit

attribute [local go_sem ↓ high] ta_fold
attribute [local go_sem] ta_nil
set_option maxRecDepth 100000 in
set_option maxHeartbeats 2000000 in
theorem try_ev (b o n c : Nat) (C : Nat → World → Prop) (D : World → Prop) (w : World) (hn : n ≤ 100)
    (h0 : C 0 (w.alloc (.cells #[.int .i64 0] 31)))
    (hs : ∀ i, i < n → ∀ w', C i w' → ∃ g caps, w'.cell? ⟨b, o + i, none⟩ = some (.func (.func g) #[] caps) ∧ (∀ w, (callFunc g caps).run Tryz.prog w = .ok (.enter g caps) w) ∧ Calls Tryz.prog g caps w' fun e w'' => e = .returned (.tuple #[]) ∧ C (i + 1) w'')
    (hE : ∀ w', C n w' → w'.cell? ⟨w.heap.size, 0, none⟩ = some (.int .i64 0) ∧ w'.frozen? ⟨w.heap.size, 0, none⟩ = false)
    (hset : ∀ w', C n w' → (w'.setCell ⟨w.heap.size, 0, none⟩ (.int .i64 0)).cell? ⟨w.heap.size, 0, none⟩ = some (.int .i64 0) ∧ D (w'.setCell ⟨w.heap.size, 0, none⟩ (.int .i64 0)))
    (hnew : ∀ w1 w2, D w1 → New w1 w2 → D w2) :
    Calls Tryz.prog 226 #[.slice (some ⟨b, o, none⟩) n c] w fun e w' => e = .returned (.int .i64 0) ∧ D w' := by
  have hmf : ∀ (fn : Fn) (first cap : Array Value) (w : World), (Instr.makeFunc fn first cap).run Tryz.prog w = .ok (.func fn first cap) w := fun _ _ _ _ => rfl
  have hnn : (n : Int) ≤ 100 := by omega
  go_enter_defers Tryz.func226, Tryz.ntmps226
  go_upto_region 1 with fail
  generalize w.alloc (.cells #[.int .i64 0] 31) = w1 at h0 ⊢
  generalize w.heap.size = E at hE hset ⊢
  have H1 := hide h0
  have HE := hide hE
  have HSE := hide hset
  have HN := hide hnew
  have HS := hide hs
  clear h0 hE hset hnew hs
  go_wp2_with fail
  go_loopw [8] (fun iv wr => ∃ i : Nat, iv = .int .i64 (i : Int) ∧ i ≤ n ∧ Hid (C i wr)) (fun iv _ => n - (intOf iv).toNat)
  case atStart => exact ⟨0, rfl, Nat.zero_le _, H1⟩
  case round =>
    obtain ⟨i, rfl, hi, hC⟩ := hrel
    obtain ⟨wq, rfl⟩ : ∃ wq : World, wq = wr := ⟨_, rfl⟩
    by_cases hlt : i < n
    · have hil : (i : Int) < (n : Int) := by omega
      obtain ⟨Fi, ci, hc, hen, hcall⟩ := unhide HS i hlt wq (unhide hC)
      clear hC
      go_wp2_with fail
      refine hcall.mono ?_
      rintro e w3 ⟨rfl, hC3⟩
      have hC3 := hide hC3
      clear hc hen hcall
      go_wp2_with fail
      go_roundw
      case rel => exact ⟨i + 1, by go_num, hlt, hC3⟩
      case measure => simp [intOf]; omega
    · obtain rfl : i = n := by omega
      obtain ⟨c0, f0⟩ := unhide HE _ (unhide hC)
      go_wp2_with fail
      obtain ⟨c5, hC5⟩ := unhide HSE _ (unhide hC)
      generalize wq.setCell ⟨E, 0, none⟩ (.int .i64 0) = w5 at *
      refine leaves_cons (f := 292) (args := #[.pointer (some ⟨E, 0, none⟩)]) (by simp) (by simp [go_sem]) ?_
      refine (try_idle ⟨E, 0, none⟩ _).mono ?_
      rintro e u' w'' ⟨rfl, rfl, n⟩
      have c6 := n.cell c5 (fun h => h)
      have hC6 := unhide HN _ _ hC5 n
      simp [Leaves, settle, results, Tryz.results226, go_sem, c6]
      exact hC6
end Go.Proofs.YtjckpgcmfieaoaaGreatDoor
namespace Go.Proofs.YtjckpgcmfieaoaaGreatDoor
open Go.RowKit

noncomputable section
/-- Is it a function with a body? -/
def iEnt (g : FuncId) : Bool := match eNth Tryz.prog.funcs.toList g with
  | some fn => match fn.body with
    | some _ => !(fn.name == "runtime.NumGoroutine")
    | none => false
  | none => false
/-- m steps, from the i-th one on. -/
def iSteps (k : ECall) (b o m : Nat) : Nat → ESt → Option ESt :=
  Nat.rec (motive := fun _ => Nat → ESt → Option ESt) (fun _ s => some s) (fun _ ih i s => match s.load1 b (o + i) with
    | some (.fn (.func g) [] caps) => match iEnt g with
      | true => match k g caps s with
        | .v (.tup []) s' => ih (Nat.succ i) s'
        | _ => none
      | false => none
    | _ => none) m
def iTry (k : ECall) (a : List EV) (s : ESt) : EO := match a with
  | [.sl (some (b, o)) n _ _] => match Nat.ble 1 n && Nat.ble n 100 with
    | true => match s.blk (.row [EV.int .i64 0].length (eRow [EV.int .i64 0] 0 .e)) fun e => .ptr (some (e, 0)) with
      | .v (.ptr (some (e, _))) s1 => match iSteps k b o n 0 s1 with
        | some s2 => match s2.load1 e 0 with
          | some (.int .i64 (.ofNat 0)) => match s2.storeN e 0 [.int .i64 0] with
            | some s3 => .v (.int .i64 0) s3
            | none => .er
          | _ => .er
        | none => .er
      | _ => .er
    | false => .er
  | _ => .er
end
theorem iEnt_ok {g : FuncId} (h : iEnt g = true) : Enters Tryz.prog g := by
  unfold iEnt at h
  split at h
  · rename_i fn hf
    split at h
    · rename_i c hb
      rw [eNth_eq, Array.getElem?_toList] at hf
      exact enters_of hf (by simpa using h) hb
    · cases h
  · cases h
theorem iSteps_succ {k : ECall} {b o m i : Nat} {s s2 : ESt} (h : iSteps k b o (m + 1) i s = some s2) : ∃ g caps s', s.load1 b (o + i) = some (.fn (.func g) [] caps) ∧ iEnt g = true ∧ k g caps s = .v (.tup []) s' ∧ iSteps k b o m (i + 1) s' = some s2 := by
  have h : (match s.load1 b (o + i) with
    | some (.fn (.func g) [] caps) => (match iEnt g with
      | true => (match k g caps s with
        | .v (.tup []) s' => iSteps k b o m (i + 1) s'
        | _ => none)
      | false => none)
    | _ => none) = some s2 := h
  split at h
  · rename_i g caps hl
    split at h
    · rename_i he
      split at h
      · rename_i s' hk
        exact ⟨g, caps, s', hl, he, hk, h⟩
      · cases h
    · cases h
  · cases h
theorem row_free {w0 : World} {β : EMp} {s : ESt} {w : World} (h : HR w0 β s w) {b : Nat} {l : ELoc} (hb : β b = some l) {o : Nat} {cs : List EV} {s' : ESt} (hs : s.storeN b o cs = some s') {i : Nat} (hi : i < l.m) : w.frozen? ⟨l.c, i, none⟩ = false := by
  unfold ESt.storeN at hs
  rw [ESt.eta s] at hs
  simp only at hs
  cases hk : s.heap.get b with
  | none => rw [hk] at hs; cases hs
  | some k =>
    rw [hk] at hs
    cases k with
    | row n c =>
      obtain ⟨-, a, T, fz, h1, -, -, h4, -⟩ := h.blk b l _ hb hk
      have hf := h4.1 i hi
      simp only [World.frozen?, h1]
      simpa using hf
    | _ => cases hs
theorem load1_storeN {s s3 : ESt} {b o : Nat} {x : EV} (h : s.storeN b o [x] = some s3) : s3.load1 b o = some x := by
  unfold ESt.storeN at h
  rw [ESt.eta s] at h
  simp only at h
  cases hk : s.heap.get b with
  | none => rw [hk] at h; cases h
  | some k =>
    rw [hk] at h
    cases k with
    | row n c =>
      simp only at h
      split at h
      · rename_i hn
        split at h
        · obtain rfl := Option.some.inj h
          unfold ESt.load1 ESt.cells
          simp only
          rw [ETr.get_set]
          simp only
          rw [show Nat.ble (Nat.succ o) n = true from hn]
          simp only
          rw [ePut_get, if_pos ⟨Nat.le_refl _, by simp⟩, Nat.sub_self]
          rfl
        · cases h
      · cases h
    | _ => cases h
theorem iTry_ok {k : ECall} (hk : KS Tryz.prog k) {args : List EV} {s s' : ESt} {x : EV} (ha : iTry k args s = .v x s') : KOk Tryz.prog 226 args s x s' := fun w0 β w av hg hr hv => by
  unfold iTry at ha
  split at ha <;> first | (cases ha; done) | skip
  rename_i b o n c z
  split at ha <;> first | (cases ha; done) | skip
  rename_i hn
  rw [Bool.and_eq_true] at hn
  have hnp := Nat.le_of_ble_eq_true hn.1
  have hn := Nat.le_of_ble_eq_true hn.2
  split at ha <;> first | (cases ha; done) | skip
  rename_i e oe s1 hblk
  split at ha <;> first | (cases ha; done) | skip
  rename_i s2 hst
  split at ha <;> first | (cases ha; done) | skip
  rename_i hl0
  split at ha <;> first | (cases ha; done) | skip
  rename_i s3 hs3
  injection ha with e1 e2
  subst e1 e2
  -- the first block
  have hf : FreshOk w0 β (.row [EV.int .i64 0].length (eRow [EV.int .i64 0] 0 .e)) (fun e => .ptr (some (e, 0))) w (.pointer (some ⟨w.heap.size, 0, none⟩)) (w.alloc (.cells ([Value.int .i64 0] ++ []).toArray 31)) ⟨w.heap.size, 0, 1⟩ :=
    rowOk hr.up.size (.cons (.int .i64 0) .nil) [] 31 fun β' b _ e => by
      have := VR.ptr (β := β') (o := 0) e
      simpa using this
  obtain ⟨-, hx, hs1⟩ := blk_inv hblk
  injection hx with hx
  injection hx with hx
  injection hx with hx hx2
  subst hx
  have hn0 := hr.none_next
  obtain ⟨β1, hβ1⟩ : ∃ β1, β1 = β.put s.next ⟨w.heap.size, 0, 1⟩ := ⟨_, rfl⟩
  have h1 : HR w0 β1 s1 (w.alloc (.cells #[.int .i64 0] 31)) ∧ Ext β s β1 s1 := by
    obtain ⟨g1, g2⟩ := hf.ok (β.put s.next ⟨w.heap.size, 0, 1⟩) s.next (β.put_le _ hn0) (β.put_at _ _)
    rw [hs1, hβ1]
    exact ⟨(hr.num _).come hn0 (Nat.lt_succ_self _) (ETr.get_set _ _ _) hf.up hf.new g2, Ext.num _ _ hn0⟩
  have he1 : β1 s.next = some ⟨w.heap.size, 0, 1⟩ := by rw [hβ1]; exact EMp.put_at _ _ _
  -- the steps' row
  obtain ⟨av⟩ := av
  cases hv with
  | cons hv hv2 =>
    cases hv2
    have key : ∀ (B : ELoc) (cc : Nat), β b = some B → CallOk Tryz.prog 226 #[.slice (some ⟨B.c, B.sh + o, none⟩) n cc] w fun v w' => ∃ β', VR β' (.int .i64 0) v ∧ HR w0 β' s3 w' ∧ Ext β s β' s3 := by
      intro B cc hB
      have hB1 : β1 b = some B := h1.2.le _ _ hB
      refine .inr ⟨enters_of Tryz.func226 (by kernel_rfl) rfl _ _, (try_ev B.c (B.sh + o) n cc
        (fun i w' => ∃ β' s', iSteps k b o (n - i) i s' = some s2 ∧ HR w0 β' s' w' ∧ Ext β1 s1 β' s')
        (fun w' => ∃ β', HR w0 β' s3 w' ∧ Ext β s β' s3) w hn ⟨β1, s1, hst, h1.1, Ext.refl _ _⟩ ?_ ?_ ?_ ?_).mono ?_⟩
      · intro i hi w' hC
        obtain ⟨β', s', c1, c2, c3⟩ := hC
        obtain ⟨m, hm⟩ : ∃ m, n - i = m + 1 := ⟨n - i - 1, by omega⟩
        rw [hm] at c1
        obtain ⟨g, caps, s'', d1, d2, d3, d4⟩ := iSteps_succ c1
        obtain ⟨v, v1, v2⟩ := c2.load1 (c3.le _ _ hB1) d1
        cases v1 with
        | fn va vb =>
          rename_i fa fb
          have hfa : fa = #[] := by
            obtain ⟨fa⟩ := fa
            cases va
            rfl
          subst hfa
          refine ⟨g, fb, by rw [Nat.add_assoc]; exact v2, iEnt_ok d2 fb, ?_⟩
          have hen := iEnt_ok d2 fb w'
          rcases hk g caps s' (.tup []) s'' d3 w0 β' w' fb (hg.mono (EMp.le_trans h1.2.le c3.le)) c2 vb with ⟨v, w'', q, -⟩ | ⟨-, q⟩
          · rw [hen] at q
            cases q
          · refine q.mono ?_
            rintro e w'' ⟨v, rfl, β'', r1, r2, r3⟩
            cases r1 with
            | tup r1 =>
              rename_i ra
              obtain ⟨ra⟩ := ra
              cases r1
              exact ⟨rfl, β'', s'', by rw [show n - (i + 1) = m by omega]; exact d4, r2, c3.trans r3⟩
      · intro w' hC
        obtain ⟨β', s', c1, c2, c3⟩ := hC
        rw [Nat.sub_self] at c1
        obtain rfl := Option.some.inj (show some s' = some s2 from c1)
        have he := c3.le _ _ he1
        obtain ⟨v, v1, v2⟩ := c2.load1 he hl0
        cases v1
        exact ⟨v2, row_free c2 he hs3 (by show 0 < 1; omega)⟩
      · intro w' hC
        obtain ⟨β', s', c1, c2, c3⟩ := hC
        rw [Nat.sub_self] at c1
        obtain rfl := Option.some.inj (show some s' = some s2 from c1)
        have he := c3.le _ _ he1
        obtain ⟨-, q2, q3⟩ := c2.storeN (P := Tryz.prog) he hs3 (.cons (.int .i64 0) .nil)
        have q2 : HR w0 β' s3 (w'.setCell ⟨w.heap.size, 0, none⟩ (.int .i64 0)) := q2
        have hl3 : s3.load1 s.next 0 = some (.int .i64 0) := load1_storeN hs3
        obtain ⟨v, v1, v2⟩ := q2.load1 he hl3
        cases v1
        exact ⟨v2, β', q2, h1.2.trans (c3.trans q3)⟩
      · intro w1 w2 hD n
        obtain ⟨β', q1, q2⟩ := hD
        exact ⟨β', q1.world n, q2⟩
      · rintro e w' ⟨rfl, β', q1, q2⟩
        exact ⟨_, rfl, β', .int _ _, q1, q2⟩
    cases hv with
    | sl hb h0 hz => exact key _ _ hb
    | sle hb => omega
end Go.Proofs.YtjckpgcmfieaoaaGreatDoor
