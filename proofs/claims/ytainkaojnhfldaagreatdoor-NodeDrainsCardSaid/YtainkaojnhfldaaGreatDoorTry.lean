/-
  wire.try, where no step goes wrong.
-/
import Derived.Test.YtainkaojnhfldaaGreatDoorWrt
import Derived.Defers
import Derived.Recover
set_option linter.unusedVariables false
set_option linter.unusedSimpArgs false
namespace Go.Proofs.YtainkaojnhfldaaGreatDoor
open Go.RowKit

def taF (x : Value) : Sem Value := Instr.typeAssert x 20 250 true
theorem ta_fold (x : Value) : Instr.typeAssert x 20 250 true = taF x := rfl
theorem ta_nil (w : World) : (taF .nilIface).run Tryz.prog w = .ok (.tuple #[.agg #[.int .i64 0], .bool false]) w := by kernel_rfl
attribute [local go_sem ↓ high] ta_fold
attribute [local go_sem] ta_nil
set_option maxHeartbeats 1000000 in
theorem try_idle (p : Addr) (w : World) :
    CallsD Tryz.prog 143 #[.pointer (some p)] .returning w fun e u' w' => e = .returned (.tuple #[]) ∧ u' = .returning ∧ New w w' := by
  refine callsD_of_wpS Tryz.func143 rfl fun c₀ cs hu => ?_
  apply wpS_seq
  apply wpS_region
  simp [wpOpsS, go_sem, recoverD, hu, Tryz.ntmps143, Exit.thenS]
  have n1 : New w (w.alloc (.cells #[.int .i64 0] 250)) := (Upd.refl _ _).alloc _
  generalize w.alloc (.cells #[.int .i64 0] 250) = w1 at n1 ⊢
  generalize w.heap.size = B
  apply wpS_seq
  apply wpS_region
  simp [wpOpsS, go_sem, Exit.thenS]
  refine wpS_cond (t := false) (by simp [Act.eval, Array.replicate]) ?_
  simp only [Bool.false_eq_true, if_false]
  refine wpS_of_wp (wp_skip ?_)
  cases c₀
  simp_all [bodyPostS, results, Tryz.results143]
/-- The cells of a row of function values. -/
def FnRow (w : World) (b n : Nat) (F : Nat → FuncId) (caps : Nat → Array Value) : Prop := ∀ i, i < n → w.cell? ⟨b, i, none⟩ = some (.func (.func (F i)) #[] (caps i))
set_option maxRecDepth 100000 in
set_option maxHeartbeats 2000000 in
/-- Steps none of which goes wrong: T is what they may write. -/
theorem try_any (b n base : Nat) (F : Nat → FuncId) (caps : Nat → Array Value) (T : Nat → Prop) (C : Nat → World → Prop) (w : World) (hn : n ≤ 100)
    (hrow : FnRow w b n F caps) (hT : ∀ k, T k → k < base) (hb : base ≤ b) (hbw : base ≤ w.heap.size) (hbl : b < w.heap.size)
    (hst : ∀ i w w', C i w → Upd (fun k => base ≤ k) w w' → C i w')
    (hs : ∀ i, i < n → ∀ w', C i w' → (∀ args w, (callFunc (F i) args).run Tryz.prog w = .ok (.enter (F i) args) w) ∧ Calls Tryz.prog (F i) (caps i) w' fun e w'' => e = .returned (.tuple #[]) ∧ Upd T w' w'' ∧ C (i + 1) w'')
    (h0 : C 0 w) :
    Calls Tryz.prog 105 #[.slice (some ⟨b, 0, none⟩) n n] w fun e w' => e = .returned (.int .i64 0) ∧ Upd T w w' ∧ C n w' := by
  have hmf : ∀ (fn : Fn) (first cap : Array Value) (w : World), (Instr.makeFunc fn first cap).run Tryz.prog w = .ok (.func fn first cap) w := fun _ _ _ _ => rfl
  have hnn : (n : Int) ≤ 100 := by omega
  go_enter_defers Tryz.func105, Tryz.ntmps105
  go_upto_region 1 with fail
  have n1 : New w (w.alloc (.cells #[.int .i64 0] 27)) := (Upd.refl _ _).alloc _
  have hE := blk_alloc w (.cells #[.int .i64 0] 27)
  have h1 : C 0 (w.alloc (.cells #[.int .i64 0] 27)) := hst 0 w _ h0 (n1.mono (fun _ _ h => h.elim))
  generalize w.alloc (.cells #[.int .i64 0] 27) = w1 at n1 hE h1 ⊢
  have hEb : base ≤ w.heap.size ∧ b ≠ w.heap.size := ⟨hbw, by omega⟩
  generalize hE0 : w.heap.size = E at hE hEb ⊢
  have HE0 := hide hE0
  clear hE0
  have HE := hide hE
  have H1 := hide h1
  have HR := hide hrow
  have N1 := hide n1
  clear hE h1 hrow n1 h0
  go_wp2_with fail
  go_loopw [8] (fun iv wr => ∃ i : Nat, iv = .int .i64 (i : Int) ∧ i ≤ n ∧ Hid (C i wr) ∧ Upd T w1 wr) (fun iv _ => n - (intOf iv).toNat)
  case atStart => exact ⟨0, rfl, Nat.zero_le _, H1, Upd.refl _ _⟩
  case round =>
    obtain ⟨i, rfl, hi, hC, u⟩ := hrel
    obtain ⟨wq, rfl⟩ : ∃ wq : World, wq = wr := ⟨_, rfl⟩
    by_cases hlt : i < n
    · have hil : (i : Int) < (n : Int) := by omega
      obtain ⟨hen, hcall⟩ := hs i hlt wq (unhide hC)
      have hc := u.cell ((unhide N1).cell (unhide HR i hlt) (fun h => h)) (fun h => by have h : T b := h; have := hT b h; omega)
      generalize F i = Fi at *
      generalize caps i = ci at *
      clear hC
      go_wp2_with fail
      refine hcall.mono ?_
      rintro e w3 ⟨rfl, u3, hC3⟩
      have hC3 := hide hC3
      have u4 := u.trans u3
      clear hc hen hcall u u3
      go_wp2_with fail
      go_roundw
      case rel => exact ⟨i + 1, by go_num, hlt, hC3, u4⟩
      case measure => simp [intOf]; omega
    · obtain rfl : i = n := by omega
      have hE := u.old (unhide HE) (fun h => by have h : T E := h; have := hT E h; omega)
      have hUE := hE
      have f0 := blk_free hE 0
      have c0 := blk_cell hE 0
      have hU := hide u
      clear u hE
      go_wp2_with fail
      have u5 : Upd (fun k => k = E) wq (wq.setCell ⟨E, 0, none⟩ (.int .i64 0)) := (Upd.refl _ _).set1 _ _
      have c5 : (wq.setCell ⟨E, 0, none⟩ (.int .i64 0)).cell? ⟨E, 0, none⟩ = some (.int .i64 0) := blk_cell (blk_set (hUE) 0 (.int .i64 0)) 0
      have hC5 := hst _ _ _ (unhide hC) (u5.mono (fun k _ e => by rw [e]; exact hEb.1))
      have U5 : Upd T w (wq.setCell ⟨E, 0, none⟩ (.int .i64 0)) := (((unhide N1).mono (fun _ _ h => h.elim)).trans (unhide hU)).then u5 (fun k hk e => by have := unhide HE0; omega)
      generalize wq.setCell ⟨E, 0, none⟩ (.int .i64 0) = w5 at *
      refine leaves_cons (f := 143) (args := #[.pointer (some ⟨E, 0, none⟩)]) (by simp) (by simp [go_sem]) ?_
      refine (try_idle ⟨E, 0, none⟩ _).mono ?_
      rintro e u' w'' ⟨rfl, rfl, n⟩
      have c6 := n.cell c5 (fun h => h)
      have hC6 := hst _ _ _ hC5 (n.mono (fun _ _ h => h.elim))
      have U6 : Upd T w w'' := U5.trans (n.mono (fun _ _ h => h.elim))
      simp [Leaves, settle, results, Tryz.results105, go_sem, c6]
      exact ⟨U6, hC6⟩
end Go.Proofs.YtainkaojnhfldaaGreatDoor
