/-
  wire.try, where a step may go wrong.
-/
import Derived.Test.YtfmkdoachjgjbaaGreatDoorDe2
set_option linter.unusedVariables false
set_option linter.unusedSimpArgs false
namespace Go.Proofs.YtfmkdoachjgjbaaGreatDoor
open Go.RowKit

theorem ta_fault (er : Int) (w : World) : (taF (faultV er)).run Tryz.prog w = .ok (.tuple #[.agg #[.int .i64 er], .bool true]) w := by
  unfold faultV taF
  kernel_rfl
attribute [local go_sem ↓ high] ta_fold
attribute [local go_sem] ta_fault
def caught (er : Int) (b : Bool) : FrameMode := .panicking [{ v := faultV er, recovered := b }]
set_option maxHeartbeats 1000000 in
theorem try_caught (E : Nat) (er : Int) (w : World) (hE : w.heap[E]? = some (.cells #[.int .i64 0] 26 (0, 0))) :
    CallsD Tryz.prog 165 #[.pointer (some ⟨E, 0, none⟩)] (caught er false) w fun e u' w' => e = .returned (.tuple #[]) ∧ u' = caught er true ∧ ∃ w1, New w w1 ∧ w' = w1.setCell ⟨E, 0, none⟩ (.int .i64 er) := by
  refine callsD_of_wpS Tryz.func165 rfl fun c₀ cs hu => ?_
  unfold caught at hu
  apply wpS_seq
  apply wpS_region
  simp [wpOpsS, go_sem, recoverD, hu, Tryz.ntmps165, Exit.thenS]
  have n1 : New w (w.alloc (.cells #[.int .i64 er] 265)) := (Upd.refl _ _).alloc _
  have bB := blk_alloc w (.cells #[.int .i64 er] 265)
  generalize w.alloc (.cells #[.int .i64 er] 265) = w1 at n1 bB ⊢
  have hE1 := n1.old hE (fun h => h)
  have cE : w1.cell? ⟨E, 0, none⟩ = some (.int .i64 0) := blk_cell hE1 0
  have fE : w1.frozen? ⟨E, 0, none⟩ = false := blk_free hE1 0
  have cB : w1.cell? ⟨w.heap.size, 0, none⟩ = some (.int .i64 er) := blk_cell bB 0
  generalize w.heap.size = B at bB cB ⊢
  apply wpS_seq
  apply wpS_region
  simp [wpOpsS, go_sem, Exit.thenS]
  refine wpS_cond (t := true) (by simp [Act.eval, Array.replicate]) ?_
  simp only [if_true]
  apply wpS_region
  simp [wpOpsS, go_sem, cB, cE, fE]
  cases c₀
  simp [bodyPostS, results, Tryz.results165, caught]
  exact ⟨w1, n1, rfl⟩
/-- What a step that may go wrong comes to. -/
def StepEnd (C' : World → Prop) (D : Int → World → Prop) (e : Ending) (w' : World) : Prop := (e = .returned (.tuple #[]) ∧ C' w') ∨ ∃ er : Int, (er != 0) = true ∧ Thrown er e ∧ D er w'
set_option maxRecDepth 100000 in
set_option maxHeartbeats 2000000 in
/-- Steps, up to the first one that goes wrong: T is what they may write. -/
theorem try_gen (b n base : Nat) (F : Nat → FuncId) (caps : Nat → Array Value) (T : Nat → Prop) (C : Nat → World → Prop) (D : Int → World → Prop) (w : World) (hn : n ≤ 100)
    (hrow : FnRow w b n F caps) (hT : ∀ k, T k → k < base) (hb : base ≤ b) (hbw : base ≤ w.heap.size) (hbl : b < w.heap.size)
    (h0n : ∀ w', New w w' → C 0 w') (hst : ∀ w w', C n w → Upd (fun k => base ≤ k) w w' → C n w') (hsd : ∀ er w w', D er w → Upd (fun k => base ≤ k) w w' → D er w')
    (hs : ∀ i, i < n → ∀ w', C i w' → (∀ args w, (callFunc (F i) args).run Tryz.prog w = .ok (.enter (F i) args) w) ∧ Calls Tryz.prog (F i) (caps i) w' fun e w'' => Upd T w' w'' ∧ StepEnd (C (i + 1)) D e w'') :
    Calls Tryz.prog 132 #[.slice (some ⟨b, 0, none⟩) n n] w fun e w' => Upd T w w' ∧ ((e = .returned (.int .i64 0) ∧ C n w') ∨ ∃ er : Int, (er != 0) = true ∧ e = .returned (.int .i64 er) ∧ D er w') := by
  have hmf : ∀ (fn : Fn) (first cap : Array Value) (w : World), (Instr.makeFunc fn first cap).run Tryz.prog w = .ok (.func fn first cap) w := fun _ _ _ _ => rfl
  have hnn : (n : Int) ≤ 100 := by omega
  go_enter_defers Tryz.func132, Tryz.ntmps132
  go_upto_region 1 with fail
  have n1 : New w (w.alloc (.cells #[.int .i64 0] 26)) := (Upd.refl _ _).alloc _
  have hE := blk_alloc w (.cells #[.int .i64 0] 26)
  have h1 : C 0 (w.alloc (.cells #[.int .i64 0] 26)) := h0n _ n1
  generalize w.alloc (.cells #[.int .i64 0] 26) = w1 at n1 hE h1 ⊢
  have hEb : base ≤ w.heap.size ∧ b ≠ w.heap.size := ⟨hbw, by omega⟩
  generalize hE0 : w.heap.size = E at hE hEb ⊢
  have HE0 := hide hE0
  clear hE0
  have HE := hide hE
  have H1 := hide h1
  have HR := hide hrow
  have N1 := hide n1
  clear hE h1 hrow n1 h0n
  go_wp2_with fail
  go_loopw [8] (fun iv wr => ∃ i : Nat, iv = .int .i64 (i : Int) ∧ i ≤ n ∧ Hid (C i wr) ∧ Upd T w1 wr) (fun iv _ => n - (intOf iv).toNat)
  case atStart => exact ⟨0, rfl, Nat.zero_le _, H1, Upd.refl _ _⟩
  case round =>
    obtain ⟨i, rfl, hi, hC, u⟩ := hrel
    obtain ⟨wq, rfl⟩ : ∃ wq : World, wq = wr := ⟨_, rfl⟩
    by_cases hlt : i < n
    · have hil : (i : Int) < (n : Int) := by omega
      obtain ⟨hen, hcall⟩ := hs i hlt wq (unhide hC)
      have hc := u.cell ((unhide N1).cell (unhide HR i hlt) (fun h => h)) (fun h => by have h : T b := h; have := hT b h; omega)
      generalize F i = Fi at *
      generalize caps i = ci at *
      clear hC
      go_wp2_with fail
      refine hcall.mono ?_
      rintro e w3 ⟨u3, hEnd⟩
      have u4 := u.trans u3
      rcases hEnd with ⟨rfl, hC3⟩ | ⟨er, her, rfl, hD⟩
      · have hC3 := hide hC3
        clear hc hen hcall u u3
        go_wp2_with fail
        go_roundw
        case rel => exact ⟨i + 1, by go_num, hlt, hC3, u4⟩
        case measure => simp [intOf]; omega
      · have hE := u4.old (unhide HE) (fun h => by have h : T E := h; have := hT E h; omega)
        have hz := unhide HE0
        refine leaves_cons (f := 165) (args := #[.pointer (some ⟨E, 0, none⟩)]) (by simp) (by simp [go_sem]) ?_
        refine (try_caught E er w3 hE).mono ?_
        rintro e u' w'' ⟨rfl, rfl, w5, n5, rfl⟩
        have hE5 := blk_set (n5.old hE (fun h => h)) 0 (.int .i64 er)
        have u5 : Upd (fun k => k = E) w3 (w5.setCell ⟨E, 0, none⟩ (.int .i64 er)) := (n5.mono (fun _ _ h => h.elim)).set1 _ _
        have hD5 := hsd _ _ _ hD (u5.mono (fun k _ e => by rw [e]; exact hEb.1))
        have U5 : Upd T w (w5.setCell ⟨E, 0, none⟩ (.int .i64 er)) := (((unhide N1).mono (fun _ _ h => h.elim)).trans u4).then u5 (fun k hk e => by omega)
        generalize w5.setCell ⟨E, 0, none⟩ (.int .i64 er) = w6 at hE5 u5 hD5 U5 ⊢
        have c6 : w6.cell? ⟨E, 0, none⟩ = some (.int .i64 er) := blk_cell hE5 0
        simp [Go.Leaves, settle, caught, results, Tryz.results132, go_sem, c6]
        exact ⟨U5, .inr ⟨er, by simpa using her, rfl, hD5⟩⟩
    · obtain rfl : i = n := by omega
      have hE := u.old (unhide HE) (fun h => by have h : T E := h; have := hT E h; omega)
      have hUE := hE
      have f0 := blk_free hE 0
      have c0 := blk_cell hE 0
      have hU := hide u
      clear u hE
      go_wp2_with fail
      have u5 : Upd (fun k => k = E) wq (wq.setCell ⟨E, 0, none⟩ (.int .i64 0)) := (Upd.refl _ _).set1 _ _
      have c5 : (wq.setCell ⟨E, 0, none⟩ (.int .i64 0)).cell? ⟨E, 0, none⟩ = some (.int .i64 0) := blk_cell (blk_set (hUE) 0 (.int .i64 0)) 0
      have hC5 := hst _ _ (unhide hC) (u5.mono (fun k _ e => by rw [e]; exact hEb.1))
      have U5 : Upd T w (wq.setCell ⟨E, 0, none⟩ (.int .i64 0)) := (((unhide N1).mono (fun _ _ h => h.elim)).trans (unhide hU)).then u5 (fun k hk e => by have := unhide HE0; omega)
      generalize wq.setCell ⟨E, 0, none⟩ (.int .i64 0) = w5 at *
      refine leaves_cons (f := 165) (args := #[.pointer (some ⟨E, 0, none⟩)]) (by simp) (by simp [go_sem]) ?_
      refine (try_idle ⟨E, 0, none⟩ _).mono ?_
      rintro e u' w'' ⟨rfl, rfl, n⟩
      have c6 := n.cell c5 (fun h => h)
      have hC6 := hst _ _ hC5 (n.mono (fun _ _ h => h.elim))
      have U6 : Upd T w w'' := U5.trans (n.mono (fun _ _ h => h.elim))
      refine ⟨.int .i64 0, ?_, U6, .inl ⟨rfl, hC6⟩⟩
      simp [results, Tryz.results132, go_sem, c6]
end Go.Proofs.YtfmkdoachjgjbaaGreatDoor
namespace Go.Proofs.YtfmkdoachjgjbaaGreatDoor
open Go.RowKit

attribute [local go_sem ↓ high] ld_msg_fold st_msg_fold al_msg_fold
attribute [local go_sem] ld_msg st_msg al_msg rowN_drew
theorem rdN_one (s : ByteArray) : rdN s 1 = bt s 0 := by
  show 0 * 256 + bt s 0 = _
  omega
theorem set_kind (m : MsgV) (k : Int) : m.cells.toArray.setIfInBounds 0 (.int .i64 k) = ({ m with kind := k } : MsgV).cells.toArray := rfl
/-- A cell that holds where the reader is. -/
def AtR (w : World) (p g : Nat) : Prop := w.cell? ⟨p, 0, none⟩ = some (.pointer (some ⟨g, 0, none⟩))
set_option maxHeartbeats 1000000 in
theorem dec1_any (RB A G : Nat) (s : ByteArray) (w : World) (hR : AtR w RB G) (hA : MsB w A MsgV.zero) (hG : Rd w G s) (hAG : A ≠ G) :
    Calls Tryz.prog 133 #[.pointer (some ⟨RB, 0, none⟩), .pointer (some ⟨A, 0, none⟩)] w fun e w' => Upd (fun k => k = A ∨ k = G) w w' ∧ ((s.size ≠ 0 ∧ e = .returned (.tuple #[]) ∧ MsB w' A (kindMsg (bt s 0)) ∧ Rd w' G (s.extract 1 s.size)) ∨ (s.size = 0 ∧ Thrown 10 e)) := by
  have hb := bt_bd s 0
  by_cases hs : s.size = 0
  · have hc := rnum_short G 1 s w hG (by decide) (by decide) (by omega)
    unfold AtR at hR
    clear hA hG
    go_enter Tryz.func133, Tryz.ntmps133
    go_wp2_with fail
    refine hc.mono ?_
    rintro e w1 ⟨rfl, u1, -⟩
    have U1 := hide (u1.mono (fun k _ e => (Or.inr e : k = A ∨ k = G)))
    clear hc u1
    go_wp2_with fail
    refine (must_bad 10 (by decide) _).mono ?_
    rintro e w2 ⟨rfl, rfl⟩
    exact ⟨rfl, unhide U1, .inr ⟨hs, rfl⟩⟩
  · have hc := rnum_ok G 1 s w hG (by decide) (by decide) (by omega)
    rw [rdN_one] at hc
    have hcv : IntKind.i64.wrap (bt s 0) = bt s 0 := wrapI (by omega) (by omega)
    unfold AtR at hR
    have HA := hide hA
    clear hA hG
    go_enter Tryz.func133, Tryz.ntmps133
    go_wp2_with fail
    refine hc.mono ?_
    rintro e w1 ⟨rfl, u1, hG1⟩
    have U1 := hide (u1.mono (fun k _ e => (Or.inr e : k = A ∨ k = G)))
    have HA1 := hide ((unhide HA).upd u1 hAG)
    have HG := hide hG1
    clear hc u1 hG1 HA
    go_wp2_with fail
    refine (must_ok _).mono ?_
    rintro e w2 ⟨rfl, q2⟩
    have hA2 := (unhide HA1).new (q2.upd _)
    have c2 : w2.cell? ⟨A, 0, none⟩ = some (.int .i64 0) := hA2.cells.1
    have f2 : w2.frozen? ⟨A, 0, none⟩ = false := blk_free hA2.at_ 0
    have hst := blk_set hA2.at_ 0 (.int .i64 (bt s 0))
    rw [set_kind] at hst
    have u3 : Upd (· = A) w2 (w2.setCell ⟨A, 0, none⟩ (.int .i64 (bt s 0))) := (Upd.refl _ _).set1 _ _
    have HX := hide (And.intro (show MsB _ A (kindMsg (bt s 0)) from ⟨hst, z32i_len⟩) (And.intro (((unhide HG).new (q2.upd _)).upd u3 (fun e => hAG e.symm)) (((unhide U1).trans (q2.upd _)).trans (u3.mono (fun k _ e => .inl e)))))
    clear hst u3 hA2 q2 U1 HG HA1
    go_wp2_with fail
    go_end0
    obtain ⟨h1, h2, h3⟩ := unhide HX
    exact ⟨h3, .inl ⟨hs, rfl, h1, h2⟩⟩
set_option maxHeartbeats 1000000 in
theorem dec2_any (A L : Nat) (k : Int) (v0 : Value) (w : World) (hA : MsB w A (kindMsg k)) (hL : w.heap[L]? = some (.cells #[v0] 226 (0, 0))) :
    Calls Tryz.prog 136 #[.pointer (some ⟨A, 0, none⟩), .pointer (some ⟨L, 0, none⟩)] w fun e w' => Upd (fun k => k = L) w w' ∧ ((∃ xs v, fieldsOf k = some xs ∧ e = .returned (.tuple #[]) ∧ w'.cell? ⟨L, 0, none⟩ = some v ∧ FldsO w.heap.size w' v xs) ∨ (fieldsOf k = none ∧ Thrown 70 e)) := by
  have c0 : w.cell? ⟨A, 0, none⟩ = some (.int .i64 k) := hA.cells.1
  have hLl := blk_lt hL
  cases hk : fieldsOf k with
  | none =>
    have hf := fields_none k hk w
    unfold nilV at hf
    have HL := hide hL
    clear hA hL
    go_enter Tryz.func136, Tryz.ntmps136
    go_wp2_with fail
    refine hf.mono ?_
    rintro e w1 ⟨rfl, n1⟩
    have hL1 := n1.old (unhide HL) (fun h => h)
    have c1 := blk_cell hL1 0
    have f1 := blk_free hL1 0
    have u2 : Upd (fun k => k = L) w (w1.setCell ⟨L, 0, none⟩ (.slice none 0 0)) := (n1.mono (fun _ _ h => h.elim)).set1 _ _
    have U2 := hide u2
    clear hf n1 hL1 u2
    go_wp2_with fail
    refine (must_bad 70 (by decide) _).mono ?_
    rintro e w2 ⟨rfl, rfl⟩
    exact ⟨rfl, unhide U2, .inr ⟨by trivial, rfl⟩⟩
  | some xs =>
    have hf := fields_any k xs hk w
    have HL := hide hL
    clear hA hL
    go_enter Tryz.func136, Tryz.ntmps136
    go_wp2_with fail
    refine hf.mono ?_
    rintro e w1 ⟨v, rfl, n1, hfl⟩
    obtain ⟨va, vc, rfl⟩ : ∃ a c, v = .slice a xs.length c := by
      obtain ⟨vs, hrow, -⟩ := hfl
      exact own_shape' hrow
    have hL1 := n1.old (unhide HL) (fun h => h)
    have c1 := blk_cell hL1 0
    have f1 := blk_free hL1 0
    have hL2 := blk_set hL1 0 (.slice va xs.length vc)
    have u2 : Upd (fun k => k = L) w1 (w1.setCell ⟨L, 0, none⟩ (.slice va xs.length vc)) := (Upd.refl _ _).set1 _ _
    have HX := hide (And.intro ((n1.mono (fun _ _ h => h.elim)).trans u2) (And.intro hL2 (hfl.upd u2 (fun i hi e => by omega))))
    clear hf n1 hL1 u2 hL2 hfl
    go_wp2_with fail
    go_end0
    obtain ⟨h1, h2, h3⟩ := unhide HX
    exact ⟨h1, .inl ⟨_, _, rfl, rfl, blk_cell h2 0, h3⟩⟩
set_option maxRecDepth 100000 in
set_option maxHeartbeats 1000000 in
theorem dec3_any (base RB L A G : Nat) (v : Value) (xs : List Fld) (m : MsgV) (s : ByteArray) (w : World) (hR : AtR w RB G) (hL : w.cell? ⟨L, 0, none⟩ = some v) (hv : FldsO base w v xs) (hA : MsB w A m) (hG : Rd w G s) (hAG : A ≠ G) (hAb : A < base) (hGb : G < base) (hxl : xs.length ≤ 100) :
    Calls Tryz.prog 138 #[.pointer (some ⟨RB, 0, none⟩), .pointer (some ⟨L, 0, none⟩), .pointer (some ⟨A, 0, none⟩)] w fun e w' => Upd (fun k => k = A ∨ k = G) w w' ∧ ((∃ m' r, getL xs s m = some (m', r) ∧ e = .returned (.tuple #[]) ∧ MsB w' A m' ∧ Rd w' G r) ∨ (getL xs s m = none ∧ Thrown 10 e)) := by
  obtain ⟨va, vc, rfl⟩ : ∃ a c, v = .slice a xs.length c := by
    obtain ⟨vs, hrow, -⟩ := hv
    exact own_shape' hrow
  have hc := throughR_any base A G _ xs m s w hv hA hG hAG hAb hGb hxl
  unfold passR at hc
  unfold AtR at hR
  clear hv hA hG
  go_enter Tryz.func138, Tryz.ntmps138
  go_wp2_with fail
  refine hc.mono ?_
  rintro e w1 ⟨u1, (⟨m', r, hg, rfl, hM, hr⟩ | ⟨hg, rfl⟩)⟩
  · have HX := hide (And.intro u1 (And.intro hM hr))
    clear hc u1 hM hr
    go_wp2_with fail
    go_end0
    obtain ⟨h1, h2, h3⟩ := unhide HX
    exact ⟨h1, .inl ⟨_, _, hg, rfl, h2, h3⟩⟩
  · exact ⟨rfl, u1, .inr ⟨hg, rfl⟩⟩
set_option maxHeartbeats 1000000 in
theorem dec4_any (RB G : Nat) (s : ByteArray) (w : World) (hR : AtR w RB G) (hG : Rd w G s) :
    Calls Tryz.prog 140 #[.pointer (some ⟨RB, 0, none⟩)] w fun e w' => New w w' ∧ ((s.size = 0 ∧ e = .returned (.tuple #[])) ∨ (s.size ≠ 0 ∧ Thrown 11 e)) := by
  unfold AtR at hR
  by_cases hs : s.size = 0
  · have hc := end_ok G s w hG hs
    clear hG
    go_enter Tryz.func140, Tryz.ntmps140
    go_wp2_with fail
    refine hc.mono ?_
    rintro e w1 ⟨rfl, q1⟩
    have N1 := hide (q1.upd (fun _ => False))
    clear hc q1
    go_wp2_with fail
    refine (must_ok _).mono ?_
    rintro e w2 ⟨rfl, q2⟩
    have N2 := hide ((unhide N1).trans (q2.upd _))
    clear q2
    go_wp2_with fail
    go_end0
    exact ⟨unhide N2, .inl ⟨hs, rfl⟩⟩
  · have hc := end_more G s w hG (by omega)
    clear hG
    go_enter Tryz.func140, Tryz.ntmps140
    go_wp2_with fail
    refine hc.mono ?_
    rintro e w1 ⟨rfl, q1⟩
    have N1 := hide (q1.upd (fun _ => False))
    clear hc q1
    go_wp2_with fail
    refine (must_bad 11 (by decide) _).mono ?_
    rintro e w2 ⟨rfl, rfl⟩
    exact ⟨rfl, unhide N1, .inr ⟨hs, rfl⟩⟩
set_option maxHeartbeats 1000000 in
theorem dec5_any (A : Nat) (m : MsgV) (w : World) (hA : MsB w A m) (hm : MsgOk m) :
    Calls Tryz.prog 142 #[.pointer (some ⟨A, 0, none⟩)] w fun e w' => New w w' ∧ ((mayMsg m = true ∧ e = .returned (.tuple #[])) ∨ (mayMsg m = false ∧ Thrown 1 e)) := by
  have rA := hA.row
  have hc := mayMsg_any m hm w
  clear hA hm
  cases hb : mayMsg m with
  | true =>
    rw [hb] at hc
    clear hb
    go_enter Tryz.func142, Tryz.ntmps142
    go_wp2_with fail
    refine hc.mono ?_
    rintro e w1 ⟨rfl, n1⟩
    clear hc rA
    go_wp2_with fail
    go_end0
    exact ⟨n1, .inl ⟨by trivial, rfl⟩⟩
  | false =>
    rw [hb] at hc
    clear hb
    go_enter Tryz.func142, Tryz.ntmps142
    go_wp2_with fail
    refine hc.mono ?_
    rintro e w1 ⟨rfl, n1⟩
    clear hc rA
    go_wp2_with fail
    refine (must_bad 1 (by decide) _).mono ?_
    rintro e w2 ⟨rfl, rfl⟩
    exact ⟨rfl, n1, .inr ⟨by trivial, rfl⟩⟩
end Go.Proofs.YtfmkdoachjgjbaaGreatDoor
