/-
  wire.try, where a step may go wrong.
-/
import Derived.Test.YtfmkdoachjgjbaaGreatDoorMdi
set_option linter.unusedVariables false
set_option linter.unusedSimpArgs false
namespace Go.Proofs.YtfmkdoachjgjbaaGreatDoor
open Go.RowKit

theorem ta_fault (er : Int) (w : World) : (taF (faultV er)).run Tryz.prog w = .ok (.tuple #[.agg #[.int .i64 er], .bool true]) w := by
  unfold faultV taF
  kernel_rfl
attribute [local go_sem ↓ high] ta_fold
attribute [local go_sem] ta_fault
def caught (er : Int) (b : Bool) : FrameMode := .panicking [{ v := faultV er, recovered := b }]
set_option maxHeartbeats 1000000 in
theorem try_caught (E : Nat) (er : Int) (w : World) (hE : w.heap[E]? = some (.cells #[.int .i64 0] 26 (0, 0))) :
    CallsD Tryz.prog 165 #[.pointer (some ⟨E, 0, none⟩)] (caught er false) w fun e u' w' => e = .returned (.tuple #[]) ∧ u' = caught er true ∧ ∃ w1, New w w1 ∧ w' = w1.setCell ⟨E, 0, none⟩ (.int .i64 er) := by
  refine callsD_of_wpS Tryz.func165 rfl fun c₀ cs hu => ?_
  unfold caught at hu
  apply wpS_seq
  apply wpS_region
  simp [wpOpsS, go_sem, recoverD, hu, Tryz.ntmps165, Exit.thenS]
  have n1 : New w (w.alloc (.cells #[.int .i64 er] 265)) := (Upd.refl _ _).alloc _
  have bB := blk_alloc w (.cells #[.int .i64 er] 265)
  generalize w.alloc (.cells #[.int .i64 er] 265) = w1 at n1 bB ⊢
  have hE1 := n1.old hE (fun h => h)
  have cE : w1.cell? ⟨E, 0, none⟩ = some (.int .i64 0) := blk_cell hE1 0
  have fE : w1.frozen? ⟨E, 0, none⟩ = false := blk_free hE1 0
  have cB : w1.cell? ⟨w.heap.size, 0, none⟩ = some (.int .i64 er) := blk_cell bB 0
  generalize w.heap.size = B at bB cB ⊢
  apply wpS_seq
  apply wpS_region
  simp [wpOpsS, go_sem, Exit.thenS]
  refine wpS_cond (t := true) (by simp [Act.eval, Array.replicate]) ?_
  simp only [if_true]
  apply wpS_region
  simp [wpOpsS, go_sem, cB, cE, fE]
  cases c₀
  simp [bodyPostS, results, Tryz.results165, caught]
  exact ⟨w1, n1, rfl⟩
/-- What a step that may go wrong comes to. -/
def StepEnd (C' : World → Prop) (D : Int → World → Prop) (e : Ending) (w' : World) : Prop := (e = .returned (.tuple #[]) ∧ C' w') ∨ ∃ er : Int, (er != 0) = true ∧ Thrown er e ∧ D er w'
set_option maxRecDepth 100000 in
set_option maxHeartbeats 2000000 in
/-- Steps, up to the first one that goes wrong: T is what they may write. -/
theorem try_gen (b n base : Nat) (F : Nat → FuncId) (caps : Nat → Array Value) (T : Nat → Prop) (C : Nat → World → Prop) (D : Int → World → Prop) (w : World) (hn : n ≤ 100)
    (hrow : FnRow w b n F caps) (hT : ∀ k, T k → k < base) (hb : base ≤ b) (hbw : base ≤ w.heap.size) (hbl : b < w.heap.size)
    (h0n : ∀ w', New w w' → C 0 w') (hst : ∀ w w', C n w → Upd (fun k => base ≤ k) w w' → C n w') (hsd : ∀ er w w', D er w → Upd (fun k => base ≤ k) w w' → D er w')
    (hs : ∀ i, i < n → ∀ w', C i w' → (∀ args w, (callFunc (F i) args).run Tryz.prog w = .ok (.enter (F i) args) w) ∧ Calls Tryz.prog (F i) (caps i) w' fun e w'' => Upd T w' w'' ∧ StepEnd (C (i + 1)) D e w'') :
    Calls Tryz.prog 132 #[.slice (some ⟨b, 0, none⟩) n n] w fun e w' => Upd T w w' ∧ ((e = .returned (.int .i64 0) ∧ C n w') ∨ ∃ er : Int, (er != 0) = true ∧ e = .returned (.int .i64 er) ∧ D er w') := by
  have hmf : ∀ (fn : Fn) (first cap : Array Value) (w : World), (Instr.makeFunc fn first cap).run Tryz.prog w = .ok (.func fn first cap) w := fun _ _ _ _ => rfl
  have hnn : (n : Int) ≤ 100 := by omega
  go_enter_defers Tryz.func132, Tryz.ntmps132
  go_upto_region 1 with fail
  have n1 : New w (w.alloc (.cells #[.int .i64 0] 26)) := (Upd.refl _ _).alloc _
  have hE := blk_alloc w (.cells #[.int .i64 0] 26)
  have h1 : C 0 (w.alloc (.cells #[.int .i64 0] 26)) := h0n _ n1
  generalize w.alloc (.cells #[.int .i64 0] 26) = w1 at n1 hE h1 ⊢
  have hEb : base ≤ w.heap.size ∧ b ≠ w.heap.size := ⟨hbw, by omega⟩
  generalize hE0 : w.heap.size = E at hE hEb ⊢
  have HE0 := hide hE0
  clear hE0
  have HE := hide hE
  have H1 := hide h1
  have HR := hide hrow
  have N1 := hide n1
  clear hE h1 hrow n1 h0n
  go_wp2_with fail
  go_loopw [8] (fun iv wr => ∃ i : Nat, iv = .int .i64 (i : Int) ∧ i ≤ n ∧ Hid (C i wr) ∧ Upd T w1 wr) (fun iv _ => n - (intOf iv).toNat)
  case atStart => exact ⟨0, rfl, Nat.zero_le _, H1, Upd.refl _ _⟩
  case round =>
    obtain ⟨i, rfl, hi, hC, u⟩ := hrel
    obtain ⟨wq, rfl⟩ : ∃ wq : World, wq = wr := ⟨_, rfl⟩
    by_cases hlt : i < n
    · have hil : (i : Int) < (n : Int) := by omega
      obtain ⟨hen, hcall⟩ := hs i hlt wq (unhide hC)
      have hc := u.cell ((unhide N1).cell (unhide HR i hlt) (fun h => h)) (fun h => by have h : T b := h; have := hT b h; omega)
      generalize F i = Fi at *
      generalize caps i = ci at *
      clear hC
      go_wp2_with fail
      refine hcall.mono ?_
      rintro e w3 ⟨u3, hEnd⟩
      have u4 := u.trans u3
      rcases hEnd with ⟨rfl, hC3⟩ | ⟨er, her, rfl, hD⟩
      · have hC3 := hide hC3
        clear hc hen hcall u u3
        go_wp2_with fail
        go_roundw
        case rel => exact ⟨i + 1, by go_num, hlt, hC3, u4⟩
        case measure => simp [intOf]; omega
      · have hE := u4.old (unhide HE) (fun h => by have h : T E := h; have := hT E h; omega)
        have hz := unhide HE0
        refine leaves_cons (f := 165) (args := #[.pointer (some ⟨E, 0, none⟩)]) (by simp) (by simp [go_sem]) ?_
        refine (try_caught E er w3 hE).mono ?_
        rintro e u' w'' ⟨rfl, rfl, w5, n5, rfl⟩
        have hE5 := blk_set (n5.old hE (fun h => h)) 0 (.int .i64 er)
        have u5 : Upd (fun k => k = E) w3 (w5.setCell ⟨E, 0, none⟩ (.int .i64 er)) := (n5.mono (fun _ _ h => h.elim)).set1 _ _
        have hD5 := hsd _ _ _ hD (u5.mono (fun k _ e => by rw [e]; exact hEb.1))
        have U5 : Upd T w (w5.setCell ⟨E, 0, none⟩ (.int .i64 er)) := (((unhide N1).mono (fun _ _ h => h.elim)).trans u4).then u5 (fun k hk e => by omega)
        generalize w5.setCell ⟨E, 0, none⟩ (.int .i64 er) = w6 at hE5 u5 hD5 U5 ⊢
        have c6 : w6.cell? ⟨E, 0, none⟩ = some (.int .i64 er) := blk_cell hE5 0
        simp [Go.Leaves, settle, caught, results, Tryz.results132, go_sem, c6]
        exact ⟨U5, .inr ⟨er, by simpa using her, rfl, hD5⟩⟩
    · obtain rfl : i = n := by omega
      have hE := u.old (unhide HE) (fun h => by have h : T E := h; have := hT E h; omega)
      have hUE := hE
      have f0 := blk_free hE 0
      have c0 := blk_cell hE 0
      have hU := hide u
      clear u hE
      go_wp2_with fail
      have u5 : Upd (fun k => k = E) wq (wq.setCell ⟨E, 0, none⟩ (.int .i64 0)) := (Upd.refl _ _).set1 _ _
      have c5 : (wq.setCell ⟨E, 0, none⟩ (.int .i64 0)).cell? ⟨E, 0, none⟩ = some (.int .i64 0) := blk_cell (blk_set (hUE) 0 (.int .i64 0)) 0
      have hC5 := hst _ _ (unhide hC) (u5.mono (fun k _ e => by rw [e]; exact hEb.1))
      have U5 : Upd T w (wq.setCell ⟨E, 0, none⟩ (.int .i64 0)) := (((unhide N1).mono (fun _ _ h => h.elim)).trans (unhide hU)).then u5 (fun k hk e => by have := unhide HE0; omega)
      generalize wq.setCell ⟨E, 0, none⟩ (.int .i64 0) = w5 at *
      refine leaves_cons (f := 165) (args := #[.pointer (some ⟨E, 0, none⟩)]) (by simp) (by simp [go_sem]) ?_
      refine (try_idle ⟨E, 0, none⟩ _).mono ?_
      rintro e u' w'' ⟨rfl, rfl, n⟩
      have c6 := n.cell c5 (fun h => h)
      have hC6 := hst _ _ hC5 (n.mono (fun _ _ h => h.elim))
      have U6 : Upd T w w'' := U5.trans (n.mono (fun _ _ h => h.elim))
      refine ⟨.int .i64 0, ?_, U6, .inl ⟨rfl, hC6⟩⟩
      simp [results, Tryz.results132, go_sem, c6]
end Go.Proofs.YtfmkdoachjgjbaaGreatDoor
namespace Go.Proofs.YtfmkdoachjgjbaaGreatDoor
open Go.RowKit

attribute [local go_sem ↓ high] ld_msg_fold st_msg_fold al_msg_fold
attribute [local go_sem] ld_msg st_msg al_msg rowN_drew
theorem rdN_one (s : ByteArray) : rdN s 1 = bt s 0 := by
  show 0 * 256 + bt s 0 = _
  omega
theorem set_kind (m : MsgV) (k : Int) : m.cells.toArray.setIfInBounds 0 (.int .i64 k) = ({ m with kind := k } : MsgV).cells.toArray := rfl
/-- A cell that holds where the reader is. -/
def AtR (w : World) (p g : Nat) : Prop := w.cell? ⟨p, 0, none⟩ = some (.pointer (some ⟨g, 0, none⟩))
set_option maxHeartbeats 1000000 in
theorem dec1_any (RB A G : Nat) (s : ByteArray) (w : World) (hR : AtR w RB G) (hA : MsB w A MsgV.zero) (hG : Rd w G s) (hAG : A ≠ G) :
    Calls Tryz.prog 133 #[.pointer (some ⟨RB, 0, none⟩), .pointer (some ⟨A, 0, none⟩)] w fun e w' => Upd (fun k => k = A ∨ k = G) w w' ∧ ((s.size ≠ 0 ∧ e = .returned (.tuple #[]) ∧ MsB w' A (kindMsg (bt s 0)) ∧ Rd w' G (s.extract 1 s.size)) ∨ (s.size = 0 ∧ Thrown 10 e)) := by
  have hb := bt_bd s 0
  by_cases hs : s.size = 0
  · have hc := rnum_short G 1 s w hG (by decide) (by decide) (by omega)
    unfold AtR at hR
    clear hA hG
    go_enter Tryz.func133, Tryz.ntmps133
    go_wp2_with fail
    refine hc.mono ?_
    rintro e w1 ⟨rfl, u1, -⟩
    have U1 := hide (u1.mono (fun k _ e => (Or.inr e : k = A ∨ k = G)))
    clear hc u1
    go_wp2_with fail
    refine (must_bad 10 (by decide) _).mono ?_
    rintro e w2 ⟨rfl, rfl⟩
    exact ⟨rfl, unhide U1, .inr ⟨hs, rfl⟩⟩
  · have hc := rnum_ok G 1 s w hG (by decide) (by decide) (by omega)
    rw [rdN_one] at hc
    have hcv : IntKind.i64.wrap (bt s 0) = bt s 0 := wrapI (by omega) (by omega)
    unfold AtR at hR
    have HA := hide hA
    clear hA hG
    go_enter Tryz.func133, Tryz.ntmps133
    go_wp2_with fail
    refine hc.mono ?_
    rintro e w1 ⟨rfl, u1, hG1⟩
    have U1 := hide (u1.mono (fun k _ e => (Or.inr e : k = A ∨ k = G)))
    have HA1 := hide ((unhide HA).upd u1 hAG)
    have HG := hide hG1
    clear hc u1 hG1 HA
    go_wp2_with fail
    refine (must_ok _).mono ?_
    rintro e w2 ⟨rfl, q2⟩
    have hA2 := (unhide HA1).new (q2.upd _)
    have c2 : w2.cell? ⟨A, 0, none⟩ = some (.int .i64 0) := hA2.cells.1
    have f2 : w2.frozen? ⟨A, 0, none⟩ = false := blk_free hA2.at_ 0
    have hst := blk_set hA2.at_ 0 (.int .i64 (bt s 0))
    rw [set_kind] at hst
    have u3 : Upd (· = A) w2 (w2.setCell ⟨A, 0, none⟩ (.int .i64 (bt s 0))) := (Upd.refl _ _).set1 _ _
    have HX := hide (And.intro (show MsB _ A (kindMsg (bt s 0)) from ⟨hst, z32i_len⟩) (And.intro (((unhide HG).new (q2.upd _)).upd u3 (fun e => hAG e.symm)) (((unhide U1).trans (q2.upd _)).trans (u3.mono (fun k _ e => .inl e)))))
    clear hst u3 hA2 q2 U1 HG HA1
    go_wp2_with fail
    go_end0
    obtain ⟨h1, h2, h3⟩ := unhide HX
    exact ⟨h3, .inl ⟨hs, rfl, h1, h2⟩⟩
set_option maxHeartbeats 1000000 in
theorem dec2_any (A L : Nat) (k : Int) (v0 : Value) (w : World) (hA : MsB w A (kindMsg k)) (hL : w.heap[L]? = some (.cells #[v0] 226 (0, 0))) :
    Calls Tryz.prog 136 #[.pointer (some ⟨A, 0, none⟩), .pointer (some ⟨L, 0, none⟩)] w fun e w' => Upd (fun k => k = L) w w' ∧ ((∃ xs v, fieldsOf k = some xs ∧ e = .returned (.tuple #[]) ∧ w'.cell? ⟨L, 0, none⟩ = some v ∧ FldsO w.heap.size w' v xs) ∨ (fieldsOf k = none ∧ Thrown 70 e)) := by
  have c0 : w.cell? ⟨A, 0, none⟩ = some (.int .i64 k) := hA.cells.1
  have hLl := blk_lt hL
  cases hk : fieldsOf k with
  | none =>
    have hf := fields_none k hk w
    unfold nilV at hf
    have HL := hide hL
    clear hA hL
    go_enter Tryz.func136, Tryz.ntmps136
    go_wp2_with fail
    refine hf.mono ?_
    rintro e w1 ⟨rfl, n1⟩
    have hL1 := n1.old (unhide HL) (fun h => h)
    have c1 := blk_cell hL1 0
    have f1 := blk_free hL1 0
    have u2 : Upd (fun k => k = L) w (w1.setCell ⟨L, 0, none⟩ (.slice none 0 0)) := (n1.mono (fun _ _ h => h.elim)).set1 _ _
    have U2 := hide u2
    clear hf n1 hL1 u2
    go_wp2_with fail
    refine (must_bad 70 (by decide) _).mono ?_
    rintro e w2 ⟨rfl, rfl⟩
    exact ⟨rfl, unhide U2, .inr ⟨by trivial, rfl⟩⟩
  | some xs =>
    have hf := fields_any k xs hk w
    have HL := hide hL
    clear hA hL
    go_enter Tryz.func136, Tryz.ntmps136
    go_wp2_with fail
    refine hf.mono ?_
    rintro e w1 ⟨v, rfl, n1, hfl⟩
    obtain ⟨va, vc, rfl⟩ : ∃ a c, v = .slice a xs.length c := by
      obtain ⟨vs, hrow, -⟩ := hfl
      exact own_shape' hrow
    have hL1 := n1.old (unhide HL) (fun h => h)
    have c1 := blk_cell hL1 0
    have f1 := blk_free hL1 0
    have hL2 := blk_set hL1 0 (.slice va xs.length vc)
    have u2 : Upd (fun k => k = L) w1 (w1.setCell ⟨L, 0, none⟩ (.slice va xs.length vc)) := (Upd.refl _ _).set1 _ _
    have HX := hide (And.intro ((n1.mono (fun _ _ h => h.elim)).trans u2) (And.intro hL2 (hfl.upd u2 (fun i hi e => by omega))))
    clear hf n1 hL1 u2 hL2 hfl
    go_wp2_with fail
    go_end0
    obtain ⟨h1, h2, h3⟩ := unhide HX
    exact ⟨h1, .inl ⟨_, _, rfl, rfl, blk_cell h2 0, h3⟩⟩
set_option maxRecDepth 100000 in
set_option maxHeartbeats 1000000 in
theorem dec3_any (base RB L A G : Nat) (v : Value) (xs : List Fld) (m : MsgV) (s : ByteArray) (w : World) (hR : AtR w RB G) (hL : w.cell? ⟨L, 0, none⟩ = some v) (hv : FldsO base w v xs) (hA : MsB w A m) (hG : Rd w G s) (hAG : A ≠ G) (hAb : A < base) (hGb : G < base) (hxl : xs.length ≤ 100) :
    Calls Tryz.prog 138 #[.pointer (some ⟨RB, 0, none⟩), .pointer (some ⟨L, 0, none⟩), .pointer (some ⟨A, 0, none⟩)] w fun e w' => Upd (fun k => k = A ∨ k = G) w w' ∧ ((∃ m' r, getL xs s m = some (m', r) ∧ e = .returned (.tuple #[]) ∧ MsB w' A m' ∧ Rd w' G r) ∨ (getL xs s m = none ∧ Thrown 10 e)) := by
  obtain ⟨va, vc, rfl⟩ : ∃ a c, v = .slice a xs.length c := by
    obtain ⟨vs, hrow, -⟩ := hv
    exact own_shape' hrow
  have hc := throughR_any base A G _ xs m s w hv hA hG hAG hAb hGb hxl
  unfold passR at hc
  unfold AtR at hR
  clear hv hA hG
  go_enter Tryz.func138, Tryz.ntmps138
  go_wp2_with fail
  refine hc.mono ?_
  rintro e w1 ⟨u1, (⟨m', r, hg, rfl, hM, hr⟩ | ⟨hg, rfl⟩)⟩
  · have HX := hide (And.intro u1 (And.intro hM hr))
    clear hc u1 hM hr
    go_wp2_with fail
    go_end0
    obtain ⟨h1, h2, h3⟩ := unhide HX
    exact ⟨h1, .inl ⟨_, _, hg, rfl, h2, h3⟩⟩
  · exact ⟨rfl, u1, .inr ⟨hg, rfl⟩⟩
set_option maxHeartbeats 1000000 in
theorem dec4_any (RB G : Nat) (s : ByteArray) (w : World) (hR : AtR w RB G) (hG : Rd w G s) :
    Calls Tryz.prog 140 #[.pointer (some ⟨RB, 0, none⟩)] w fun e w' => New w w' ∧ ((s.size = 0 ∧ e = .returned (.tuple #[])) ∨ (s.size ≠ 0 ∧ Thrown 11 e)) := by
  unfold AtR at hR
  by_cases hs : s.size = 0
  · have hc := end_ok G s w hG hs
    clear hG
    go_enter Tryz.func140, Tryz.ntmps140
    go_wp2_with fail
    refine hc.mono ?_
    rintro e w1 ⟨rfl, q1⟩
    have N1 := hide (q1.upd (fun _ => False))
    clear hc q1
    go_wp2_with fail
    refine (must_ok _).mono ?_
    rintro e w2 ⟨rfl, q2⟩
    have N2 := hide ((unhide N1).trans (q2.upd _))
    clear q2
    go_wp2_with fail
    go_end0
    exact ⟨unhide N2, .inl ⟨hs, rfl⟩⟩
  · have hc := end_more G s w hG (by omega)
    clear hG
    go_enter Tryz.func140, Tryz.ntmps140
    go_wp2_with fail
    refine hc.mono ?_
    rintro e w1 ⟨rfl, q1⟩
    have N1 := hide (q1.upd (fun _ => False))
    clear hc q1
    go_wp2_with fail
    refine (must_bad 11 (by decide) _).mono ?_
    rintro e w2 ⟨rfl, rfl⟩
    exact ⟨rfl, unhide N1, .inr ⟨hs, rfl⟩⟩
set_option maxHeartbeats 1000000 in
theorem dec5_any (A : Nat) (m : MsgV) (w : World) (hA : MsB w A m) (hm : MsgOk m) :
    Calls Tryz.prog 142 #[.pointer (some ⟨A, 0, none⟩)] w fun e w' => New w w' ∧ ((mayMsg m = true ∧ e = .returned (.tuple #[])) ∨ (mayMsg m = false ∧ Thrown 1 e)) := by
  have rA := hA.row
  have hc := mayMsg_any m hm w
  clear hA hm
  cases hb : mayMsg m with
  | true =>
    rw [hb] at hc
    clear hb
    go_enter Tryz.func142, Tryz.ntmps142
    go_wp2_with fail
    refine hc.mono ?_
    rintro e w1 ⟨rfl, n1⟩
    clear hc rA
    go_wp2_with fail
    go_end0
    exact ⟨n1, .inl ⟨by trivial, rfl⟩⟩
  | false =>
    rw [hb] at hc
    clear hb
    go_enter Tryz.func142, Tryz.ntmps142
    go_wp2_with fail
    refine hc.mono ?_
    rintro e w1 ⟨rfl, n1⟩
    clear hc rA
    go_wp2_with fail
    refine (must_bad 1 (by decide) _).mono ?_
    rintro e w2 ⟨rfl, rfl⟩
    exact ⟨rfl, n1, .inr ⟨by trivial, rfl⟩⟩
end Go.Proofs.YtfmkdoachjgjbaaGreatDoor
namespace Go.Proofs.YtfmkdoachjgjbaaGreatDoor
open Go.RowKit

/-- Where the steps of Decode stand. -/
def decC (w0 : World) (A L G : Nat) (v0 : Value) (s : ByteArray) (i : Nat) (a : World) : Prop :=
  (i < 5 → Upd (fun k => k = A ∨ k = G ∨ k = L) w0 a) ∧
  (if i = 0 then MsB a A MsgV.zero ∧ Rd a G s ∧ a.heap[L]? = some (.cells #[v0] 226 (0, 0))
  else if i = 1 then s.size ≠ 0 ∧ MsB a A (kindMsg (bt s 0)) ∧ Rd a G (s.extract 1 s.size) ∧ a.heap[L]? = some (.cells #[v0] 226 (0, 0))
  else if i = 2 then s.size ≠ 0 ∧ MsB a A (kindMsg (bt s 0)) ∧ Rd a G (s.extract 1 s.size) ∧ ∃ xs v base, w0.heap.size ≤ base ∧ fieldsOf (bt s 0) = some xs ∧ a.cell? ⟨L, 0, none⟩ = some v ∧ FldsO base a v xs
  else ∃ xs m r, s.size ≠ 0 ∧ fieldsOf (bt s 0) = some xs ∧ getL xs (s.extract 1 s.size) (kindMsg (bt s 0)) = some (m, r) ∧ MsB a A m ∧ Rd a G r ∧ (4 ≤ i → r.size = 0) ∧ (5 ≤ i → mayMsg m = true))
def decF (i : Nat) : Nat := if i = 0 then 133 else if i = 1 then 136 else if i = 2 then 138 else if i = 3 then 140 else 142
def decCaps (RB A L : Nat) (i : Nat) : Array Value :=
  if i = 0 then #[.pointer (some ⟨RB, 0, none⟩), .pointer (some ⟨A, 0, none⟩)] else if i = 1 then #[.pointer (some ⟨A, 0, none⟩), .pointer (some ⟨L, 0, none⟩)] else if i = 2 then #[.pointer (some ⟨RB, 0, none⟩), .pointer (some ⟨L, 0, none⟩), .pointer (some ⟨A, 0, none⟩)] else if i = 3 then #[.pointer (some ⟨RB, 0, none⟩)] else #[.pointer (some ⟨A, 0, none⟩)]
theorem dec_steps (RB A L G b : Nat) (s : ByteArray) (v0 : Value) (w : World) (hR : AtR w RB G) (hA : MsB w A MsgV.zero) (hG : Rd w G s) (hL : w.heap[L]? = some (.cells #[v0] 226 (0, 0))) (hrow : FnRow w b 5 decF (decCaps RB A L)) (hAG : A ≠ G) (hAL : A ≠ L) (hGL : G ≠ L) (hRB : RB ≠ A ∧ RB ≠ G ∧ RB ≠ L) (hb : A < b ∧ G < b ∧ L < b) (hbl : b < w.heap.size) :
    Calls Tryz.prog 132 #[.slice (some ⟨b, 0, none⟩) 5 5] w fun e w' => Upd (fun k => k = A ∨ k = G ∨ k = L) w w' ∧ ((e = .returned (.int .i64 0) ∧ decC w A L G v0 s 5 w') ∨ ∃ er : Int, (er != 0) = true ∧ e = .returned (.int .i64 er) ∧ decL s = (MsgV.zero, er)) := by
  have hz := hA.lt
  have hkb := bt_bd s 0
  have hst : ∀ w1 w2 : World, decC w A L G v0 s 5 w1 → Upd (fun k => b ≤ k) w1 w2 → decC w A L G v0 s 5 w2 := by
    rintro w1 w2 ⟨-, xs, m, r, h0, h1, h2, hM, hr, h4, h5⟩ u2
    exact ⟨fun h => absurd h (by decide), xs, m, r, h0, h1, h2, hM.upd u2 (by omega), hr.upd u2 (by omega), h4, h5⟩
  refine try_gen b 5 b decF (decCaps RB A L) (fun k => k = A ∨ k = G ∨ k = L) (decC w A L G v0 s) (fun er _ => decL s = (MsgV.zero, er)) w (by decide) hrow (fun k hk => by omega) (Nat.le_refl _) (by omega) hbl ?_ hst (fun _ _ _ h _ => h) ?_
  · intro w' n
    exact ⟨fun _ => n.mono (fun _ _ h => h.elim), hA.new n, hG.new n, n.old hL (fun h => h)⟩
  · intro i hi a hC
    obtain ⟨u0, hC⟩ := hC
    have u := u0 hi
    clear u0
    have hRa : AtR a RB G := u.cell hR (fun e => e.elim hRB.1 (fun e => e.elim hRB.2.1 hRB.2.2))
    have up : ∀ {a' : World}, Upd (fun k => k = A ∨ k = G) a a' → Upd (fun k => k = A ∨ k = G ∨ k = L) a a' := fun h => h.mono (fun k _ e => e.elim .inl (fun e => .inr (.inl e)))
    rcases (by omega : i = 0 ∨ i = 1 ∨ i = 2 ∨ i = 3 ∨ i = 4) with rfl | rfl | rfl | rfl | rfl
    · refine ⟨enters_of Tryz.func133 (by kernel_rfl) rfl, ?_⟩
      obtain ⟨hM, hr, hLa⟩ : MsB a A MsgV.zero ∧ Rd a G s ∧ a.heap[L]? = some (.cells #[v0] 226 (0, 0)) := hC
      refine (dec1_any RB A G s a hRa hM hr hAG).mono ?_
      rintro e a' ⟨u', (⟨h0, rfl, h1, h2⟩ | ⟨h0, he⟩)⟩
      · exact ⟨up u', .inl ⟨rfl, fun _ => u.trans (up u'), h0, h1, h2, u'.old hLa (fun e => e.elim (fun e => hAL e.symm) (fun e => hGL e.symm))⟩⟩
      · exact ⟨up u', .inr ⟨10, by decide, he, dec_empty h0⟩⟩
    · refine ⟨enters_of Tryz.func136 (by kernel_rfl) rfl, ?_⟩
      obtain ⟨h0, hM, hr, hLa⟩ : s.size ≠ 0 ∧ MsB a A (kindMsg (bt s 0)) ∧ Rd a G (s.extract 1 s.size) ∧ a.heap[L]? = some (.cells #[v0] 226 (0, 0)) := hC
      refine (dec2_any A L (bt s 0) v0 a hM hLa).mono ?_
      rintro e a' ⟨u', (⟨xs, v, h1, rfl, h2, h3⟩ | ⟨h1, he⟩)⟩
      · have uu : Upd (fun k => k = A ∨ k = G ∨ k = L) a a' := u'.mono (fun k _ e => .inr (.inr e))
        exact ⟨uu, .inl ⟨rfl, fun _ => u.trans uu, h0, hM.upd u' hAL, hr.upd u' hGL, xs, v, _, u.size, h1, h2, h3⟩⟩
      · exact ⟨u'.mono (fun k _ e => .inr (.inr e)), .inr ⟨70, by decide, he, dec_kind h0 h1⟩⟩
    · refine ⟨enters_of Tryz.func138 (by kernel_rfl) rfl, ?_⟩
      obtain ⟨h0, hM, hr, xs, v, base, hbs, h1, h2, h3⟩ : s.size ≠ 0 ∧ MsB a A (kindMsg (bt s 0)) ∧ Rd a G (s.extract 1 s.size) ∧ ∃ xs v base, w.heap.size ≤ base ∧ fieldsOf (bt s 0) = some xs ∧ a.cell? ⟨L, 0, none⟩ = some v ∧ FldsO base a v xs := hC
      refine (dec3_any base RB L A G v xs _ _ a hRa h2 h3 hM hr hAG (by omega) (by omega) (fieldsOf_len h1)).mono ?_
      rintro e a' ⟨u', (⟨m, r, h4, rfl, h5, h6⟩ | ⟨h4, he⟩)⟩
      · exact ⟨up u', .inl ⟨rfl, fun _ => u.trans (up u'), xs, m, r, h0, h1, h4, h5, h6, fun h => absurd h (by decide), fun h => absurd h (by decide)⟩⟩
      · exact ⟨up u', .inr ⟨10, by decide, he, dec_short h0 h1 h4⟩⟩
    · refine ⟨enters_of Tryz.func140 (by kernel_rfl) rfl, ?_⟩
      obtain ⟨xs, m, r, h0, h1, h2, hM, hr, -, -⟩ : ∃ xs m r, s.size ≠ 0 ∧ fieldsOf (bt s 0) = some xs ∧ getL xs (s.extract 1 s.size) (kindMsg (bt s 0)) = some (m, r) ∧ MsB a A m ∧ Rd a G r ∧ (4 ≤ 3 → r.size = 0) ∧ (5 ≤ 3 → mayMsg m = true) := hC
      refine (dec4_any RB G r a hRa hr).mono ?_
      rintro e a' ⟨n, (⟨h3, rfl⟩ | ⟨h3, he⟩)⟩
      · exact ⟨n.mono (fun _ _ h => h.elim), .inl ⟨rfl, fun _ => u.trans (n.mono (fun _ _ h => h.elim)), xs, m, r, h0, h1, h2, hM.new n, hr.new n, fun _ => h3, fun h => absurd h (by decide)⟩⟩
      · exact ⟨n.mono (fun _ _ h => h.elim), .inr ⟨11, by decide, he, dec_more h0 h1 h2 h3⟩⟩
    · refine ⟨enters_of Tryz.func142 (by kernel_rfl) rfl, ?_⟩
      obtain ⟨xs, m, r, h0, h1, h2, hM, hr, h3, -⟩ : ∃ xs m r, s.size ≠ 0 ∧ fieldsOf (bt s 0) = some xs ∧ getL xs (s.extract 1 s.size) (kindMsg (bt s 0)) = some (m, r) ∧ MsB a A m ∧ Rd a G r ∧ (4 ≤ 4 → r.size = 0) ∧ (5 ≤ 4 → mayMsg m = true) := hC
      have hok := (getL_ok xs _ _ (kindMsg_ok ⟨by omega, by omega⟩) h2).1
      refine (dec5_any A m a hM hok).mono ?_
      rintro e a' ⟨n, (⟨h4, rfl⟩ | ⟨h4, he⟩)⟩
      · exact ⟨n.mono (fun _ _ h => h.elim), .inl ⟨rfl, fun h => absurd h (by decide), xs, m, r, h0, h1, h2, hM.new n, hr.new n, fun _ => h3 (by decide), fun _ => h4⟩⟩
      · exact ⟨n.mono (fun _ _ h => h.elim), .inr ⟨1, by decide, he, dec_not h0 h1 h2 (h3 (by decide)) h4⟩⟩
attribute [local go_sem ↓ high] ld_msg_fold st_msg_fold al_msg_fold bd_msg_fold
attribute [local go_sem] ld_msg st_msg al_msg rowN_drew bd_msg_zero
set_option maxRecDepth 100000 in
set_option maxHeartbeats 2000000 in
theorem decode_any (s : ByteArray) (w : World) : Calls Tryz.prog 105 #[.string s] w (Makes (.tuple #[.agg (decL s).1.cells.toArray, .int .i64 (decL s).2]) w) := by
  have hmf : ∀ (fn : Fn) (first cap : Array Value) (w : World), (Instr.makeFunc fn first cap).run Tryz.prog w = .ok (.func fn first cap) w := fun _ _ _ _ => rfl
  go_enter Tryz.func105, Tryz.ntmps105
  go_upto_region 3 with fail
  obtain ⟨w3, hw3⟩ : ∃ w3, w3 = ((w.alloc (.cells MsgV.zero.cells.toArray 101)).alloc (.cells MsgV.zero.cells.toArray 101)).alloc (.cells #[.slice none 0 0] 226) := ⟨_, rfl⟩
  have n3 : New w w3 := by rw [hw3]; exact (((Upd.refl _ _).alloc _).alloc _).alloc _
  have z3 : w3.heap.size = w.heap.size + 3 := by rw [hw3]; simp only [World.size_alloc]
  have hL3 : w3.heap[w.heap.size + 1 + 1]? = some (.cells #[.slice none 0 0] 226 (0, 0)) := by
    rw [hw3]
    have := blk_alloc ((w.alloc (.cells MsgV.zero.cells.toArray 101)).alloc (.cells MsgV.zero.cells.toArray 101)) (.cells #[.slice none 0 0] 226)
    rwa [World.size_alloc, World.size_alloc] at this
  have hA3 : MsB w3 (w.heap.size + 1) MsgV.zero := by
    rw [hw3]
    have := blk_alloc (w.alloc (.cells MsgV.zero.cells.toArray 101)) (.cells MsgV.zero.cells.toArray 101)
    rw [World.size_alloc] at this
    exact ⟨blk_alloc_old this _, z32i_len⟩
  have hM3 : MsB w3 w.heap.size MsgV.zero := by
    rw [hw3]
    exact ⟨blk_alloc_old (blk_alloc_old (blk_alloc _ _) _) _, z32i_len⟩
  rw [← hw3]
  clear hw3
  generalize hZ : w.heap.size = Z at *
  have HZ := hide (And.intro hZ z3)
  have H3 := hide (And.intro n3 (And.intro hL3 (And.intro hA3 hM3)))
  clear hZ z3 n3 hL3 hA3 hM3
  go_wp2_with fail
  refine (newRd_any s w3).mono ?_
  rintro e w4 ⟨rfl, hG, n4, z4⟩
  have H4 := hide (And.intro hG (And.intro n4 z4))
  clear hG n4 z4
  go_upto_region 4 with fail
  have b5 := blk_alloc w4 (.cells #[.pointer (some ⟨w3.heap.size, 0, none⟩)] 227)
  have n5 : New w4 (w4.alloc (.cells #[.pointer (some ⟨w3.heap.size, 0, none⟩)] 227)) := (Upd.refl _ _).alloc _
  have z5 : (w4.alloc (.cells #[.pointer (some ⟨w3.heap.size, 0, none⟩)] 227)).heap.size = w4.heap.size + 1 := World.size_alloc _ _
  generalize w4.alloc (.cells #[.pointer (some ⟨w3.heap.size, 0, none⟩)] 227) = w5 at b5 n5 z5 ⊢
  obtain ⟨hz, z3⟩ := unhide HZ
  obtain ⟨n3, hL3, hA3, hM3⟩ := unhide H3
  obtain ⟨hG, n4, z4⟩ := unhide H4
  have e4 : w4.heap.size = Z + 1 + 1 + 1 + 1 := by omega
  have e3 : w3.heap.size = Z + 1 + 1 + 1 := by omega
  have e5 : w5.heap.size = Z + 5 := by omega
  rw [e4] at b5 ⊢
  rw [e3] at b5 hG
  have b6 := blk_alloc w5 (.cells #[.func (.func 133) #[] #[.pointer (some ⟨Z + 1 + 1 + 1 + 1, 0, none⟩), .pointer (some ⟨Z + 1, 0, none⟩)], .func (.func 136) #[] #[.pointer (some ⟨Z + 1, 0, none⟩), .pointer (some ⟨Z + 1 + 1, 0, none⟩)], .func (.func 138) #[] #[.pointer (some ⟨Z + 1 + 1 + 1 + 1, 0, none⟩), .pointer (some ⟨Z + 1 + 1, 0, none⟩), .pointer (some ⟨Z + 1, 0, none⟩)], .func (.func 140) #[] #[.pointer (some ⟨Z + 1 + 1 + 1 + 1, 0, none⟩)], .func (.func 142) #[] #[.pointer (some ⟨Z + 1, 0, none⟩)]] 1)
  have n6 : New w5 (w5.alloc (.cells #[.func (.func 133) #[] #[.pointer (some ⟨Z + 1 + 1 + 1 + 1, 0, none⟩), .pointer (some ⟨Z + 1, 0, none⟩)], .func (.func 136) #[] #[.pointer (some ⟨Z + 1, 0, none⟩), .pointer (some ⟨Z + 1 + 1, 0, none⟩)], .func (.func 138) #[] #[.pointer (some ⟨Z + 1 + 1 + 1 + 1, 0, none⟩), .pointer (some ⟨Z + 1 + 1, 0, none⟩), .pointer (some ⟨Z + 1, 0, none⟩)], .func (.func 140) #[] #[.pointer (some ⟨Z + 1 + 1 + 1 + 1, 0, none⟩)], .func (.func 142) #[] #[.pointer (some ⟨Z + 1, 0, none⟩)]] 1)) := (Upd.refl _ _).alloc _
  have z6 : (w5.alloc (.cells #[.func (.func 133) #[] #[.pointer (some ⟨Z + 1 + 1 + 1 + 1, 0, none⟩), .pointer (some ⟨Z + 1, 0, none⟩)], .func (.func 136) #[] #[.pointer (some ⟨Z + 1, 0, none⟩), .pointer (some ⟨Z + 1 + 1, 0, none⟩)], .func (.func 138) #[] #[.pointer (some ⟨Z + 1 + 1 + 1 + 1, 0, none⟩), .pointer (some ⟨Z + 1 + 1, 0, none⟩), .pointer (some ⟨Z + 1, 0, none⟩)], .func (.func 140) #[] #[.pointer (some ⟨Z + 1 + 1 + 1 + 1, 0, none⟩)], .func (.func 142) #[] #[.pointer (some ⟨Z + 1, 0, none⟩)]] 1)).heap.size = w5.heap.size + 1 := World.size_alloc _ _
  have n46 := n5.trans n6
  have n36 := n4.trans n46
  have hrow : FnRow (w5.alloc (.cells #[.func (.func 133) #[] #[.pointer (some ⟨Z + 1 + 1 + 1 + 1, 0, none⟩), .pointer (some ⟨Z + 1, 0, none⟩)], .func (.func 136) #[] #[.pointer (some ⟨Z + 1, 0, none⟩), .pointer (some ⟨Z + 1 + 1, 0, none⟩)], .func (.func 138) #[] #[.pointer (some ⟨Z + 1 + 1 + 1 + 1, 0, none⟩), .pointer (some ⟨Z + 1 + 1, 0, none⟩), .pointer (some ⟨Z + 1, 0, none⟩)], .func (.func 140) #[] #[.pointer (some ⟨Z + 1 + 1 + 1 + 1, 0, none⟩)], .func (.func 142) #[] #[.pointer (some ⟨Z + 1, 0, none⟩)]] 1)) w5.heap.size 5 decF (decCaps (Z + 1 + 1 + 1 + 1) (Z + 1) (Z + 1 + 1)) := by
    intro i hi
    rcases (by omega : i = 0 ∨ i = 1 ∨ i = 2 ∨ i = 3 ∨ i = 4) with rfl | rfl | rfl | rfl | rfl
    · exact blk_cell b6 0
    · exact blk_cell b6 1
    · exact blk_cell b6 2
    · exact blk_cell b6 3
    · exact blk_cell b6 4
  have hcall := dec_steps (Z + 1 + 1 + 1 + 1) (Z + 1) (Z + 1 + 1) (Z + 1 + 1 + 1) w5.heap.size s (.slice none 0 0) (w5.alloc (.cells #[.func (.func 133) #[] #[.pointer (some ⟨Z + 1 + 1 + 1 + 1, 0, none⟩), .pointer (some ⟨Z + 1, 0, none⟩)], .func (.func 136) #[] #[.pointer (some ⟨Z + 1, 0, none⟩), .pointer (some ⟨Z + 1 + 1, 0, none⟩)], .func (.func 138) #[] #[.pointer (some ⟨Z + 1 + 1 + 1 + 1, 0, none⟩), .pointer (some ⟨Z + 1 + 1, 0, none⟩), .pointer (some ⟨Z + 1, 0, none⟩)], .func (.func 140) #[] #[.pointer (some ⟨Z + 1 + 1 + 1 + 1, 0, none⟩)], .func (.func 142) #[] #[.pointer (some ⟨Z + 1, 0, none⟩)]] 1)) (n6.cell (blk_cell b5 0) (fun h => h)) (hA3.new n36) (hG.new n46) (n36.old hL3 (fun h => h)) hrow (by omega) (by omega) (by omega) ⟨by omega, by omega, by omega⟩ ⟨by omega, by omega, by omega⟩ (by omega)
  have HM := hide (And.intro (hM3.new n36) (n3.trans n36))
  have HE := hide (And.intro hz (And.intro e3 (And.intro e4 (And.intro e5 (And.intro z6 ((unhide HM).2.size))))))
  have hcall := hide hcall
  clear b5 n5 z5 hL3 hA3 hM3 hG n4 n3 b6 n6 n46 n36 hrow z4 hz z3 e3 e4 e5 z6
  go_wp2_with fail
  refine (unhide hcall).mono ?_
  obtain ⟨hZw, e3, e4, e5, z6, zM⟩ := unhide HE
  rintro e w7 ⟨u7, (⟨rfl, hC⟩ | ⟨er, her, rfl, hd⟩)⟩
  · obtain ⟨-, xs, m, r, h0, h1, h2, hM, -, h3, h4⟩ := hC
    have hd := dec_may h0 h1 h2 (h3 (by decide)) (h4 (by decide))
    have hZ7 := (unhide HM).1.upd u7 (by omega)
    have N7 : New w w7 := (unhide HM).2.then u7 (fun k hk e => by omega)
    have rA := hM.row
    have hml := hM.len
    have st := hZ7.stOk hml
    have hZ8 := hZ7.put hml
    have u8 : Upd (· = Z) w7 (w7.setCells Z 0 m.cells) := upd_sets _
    have HX := hide (And.intro hZ8 (N7.then u8 (fun k hk e => by omega)))
    have HD := hide hd
    clear hcall hd h0 h1 h2 hM h3 h4 hZ7 N7 hZ8 u8 u7 HM H3 H4 HZ hZw e3 e4 e5 z6 zM
    go_wp2_with fail
    obtain ⟨hZ8, N8⟩ := unhide HX
    refine bodyPost_ret (results_row_tmp' rfl _ _ Z _ _ _ _ rfl hZ8.at_ Tryz.underlying101 rfl (by rw [List.size_toArray, MsgV.len _ hml]; exact Tryz.infoMsg)) rfl ?_
    exact ⟨by rw [unhide HD]; rfl, N8⟩
  · have hZ7 := (unhide HM).1.upd u7 (by omega)
    have N7 : New w w7 := (unhide HM).2.then u7 (fun k hk e => by omega)
    have hml : MsgV.zero.hash.length = 32 := z32i_len
    have st := hZ7.stOk hml
    have hZ8 := hZ7.put hml
    have u8 : Upd (· = Z) w7 (w7.setCells Z 0 MsgV.zero.cells) := upd_sets _
    have HX := hide (And.intro hZ8 (N7.then u8 (fun k hk e => by omega)))
    have HD := hide hd
    clear hcall hd hZ7 N7 hZ8 u8 u7 HM H3 H4 HZ hZw e3 e4 e5 z6 zM
    go_wp2_with fail
    obtain ⟨hZ8, N8⟩ := unhide HX
    refine bodyPost_ret (results_row_tmp' rfl _ _ Z _ _ _ _ rfl hZ8.at_ Tryz.underlying101 rfl (by rw [List.size_toArray, MsgV.len _ hml]; exact Tryz.infoMsg)) rfl ?_
    exact ⟨by rw [unhide HD]; rfl, N8⟩
end Go.Proofs.YtfmkdoachjgjbaaGreatDoor
