/-
  Fields of messages: what sets each to 0.
-/
import Derived.Test.YtainkaojnhfldaaGreatDoorMcb
set_option linter.unusedVariables false
set_option linter.unusedSimpArgs false
namespace Go.Proofs.YtainkaojnhfldaaGreatDoor
open Go.RowKit

inductive Fld where
  | ch
  | id
  | amount
  | hash
  | expiry
  | number
def Fld.zero (x : Fld) (m : MsgV) : MsgV :=
  match x with
  | .ch => { m with ch := 0 }
  | .id => { m with id := 0 }
  | .amount => { m with amount := 0 }
  | .hash => { m with hash := z32i }
  | .expiry => { m with expiry := 0 }
  | .number => { m with number := 0 }
/-- A closure made by number. -/
def NumV (base : Nat) (w : World) (v : Value) (f F : FuncId) (n : Int) : Prop :=
  ∃ p q, v = .func (.func f) #[] #[.pointer (some ⟨p, 0, none⟩), .pointer (some ⟨q, 0, none⟩)] ∧ base ≤ p ∧ base ≤ q ∧ w.cell? ⟨p, 0, none⟩ = some (.func (.func F) #[] #[]) ∧ w.cell? ⟨q, 0, none⟩ = some (.int .i64 n)
/-- What a field's closure is. -/
def FldV (base : Nat) (w : World) (v : Value) (x : Fld) : Prop :=
  match x with
  | .ch => NumV base w v 203 180 4
  | .id => NumV base w v 177 147 8
  | .amount => NumV base w v 177 148 8
  | .hash => v = .func (.func 153) #[] #[]
  | .expiry => NumV base w v 178 150 4
  | .number => NumV base w v 178 151 2
theorem NumV.upd {base : Nat} {w w' : World} {v : Value} {f F : FuncId} {n : Int} {S : Nat → Prop} (h : NumV base w v f F n) (u : Upd S w w') (hS : ∀ k, base ≤ k → ¬ S k) : NumV base w' v f F n := by
  obtain ⟨p, q, e, hp, hq, cp, cq⟩ := h
  exact ⟨p, q, e, hp, hq, u.cell cp (hS p hp), u.cell cq (hS q hq)⟩
theorem FldV.upd {base : Nat} {w w' : World} {v : Value} {x : Fld} {S : Nat → Prop} (h : FldV base w v x) (u : Upd S w w') (hS : ∀ k, base ≤ k → ¬ S k) : FldV base w' v x := by
  cases x <;> first | exact NumV.upd h u hS | exact h
theorem FldV.new {base : Nat} {w w' : World} {v : Value} {x : Fld} (h : FldV base w v x) (u : New w w') : FldV base w' v x := h.upd u (fun _ _ h => h)
theorem NumV.one {base : Nat} {w : World} {v : Value} {f F : FuncId} {n : Int} (h : NumV base w v f F n) : v.oneCell' = true := by
  obtain ⟨p, q, rfl, _⟩ := h
  rfl
theorem FldV.one {base : Nat} {w : World} {v : Value} {x : Fld} (h : FldV base w v x) : v.oneCell' = true := by
  cases x <;> first | exact NumV.one h | (have h : v = _ := h; rw [h]; rfl)

theorem set_ch (m : MsgV) (n : Int) : m.cells.toArray.setIfInBounds 1 (.int .u32 n) = ({ m with ch := n } : MsgV).cells.toArray := rfl
theorem set_id (m : MsgV) (n : Int) : m.cells.toArray.setIfInBounds 2 (.int .u64 n) = ({ m with id := n } : MsgV).cells.toArray := rfl
theorem set_amount (m : MsgV) (n : Int) : m.cells.toArray.setIfInBounds 3 (.int .u64 n) = ({ m with amount := n } : MsgV).cells.toArray := rfl
theorem msg_tail (m : MsgV) (h : m.hash.length = 32) : m.cells = (.int .i64 m.kind :: .int .u32 m.ch :: .int .u64 m.id :: .int .u64 m.amount :: hshV m.hash) ++ [.int .i64 m.expiry, .int .i64 m.number] := rfl
theorem set_expiry (m : MsgV) (h : m.hash.length = 32) (n : Int) : m.cells.toArray.setIfInBounds 36 (.int .i64 n) = ({ m with expiry := n } : MsgV).cells.toArray := by
  rw [List.setIfInBounds_toArray, msg_tail m h, List.set_append_right _ _ (by simp [hshV, h])]
  congr 1
  show _ = (.int .i64 m.kind :: .int .u32 m.ch :: .int .u64 m.id :: .int .u64 m.amount :: hshV m.hash) ++ [.int .i64 n, .int .i64 m.number]
  simp [hshV, h]
theorem set_number (m : MsgV) (h : m.hash.length = 32) (n : Int) : m.cells.toArray.setIfInBounds 37 (.int .i64 n) = ({ m with number := n } : MsgV).cells.toArray := by
  rw [List.setIfInBounds_toArray, msg_tail m h, List.set_append_right _ _ (by simp [hshV, h])]
  congr 1
  show _ = (.int .i64 m.kind :: .int .u32 m.ch :: .int .u64 m.id :: .int .u64 m.amount :: hshV m.hash) ++ [.int .i64 m.expiry, .int .i64 n]
  simp [hshV, h]
theorem set_hash (m : MsgV) (h : m.hash.length = 32) (k : List Int) (hk : k.length = 32) : layIn m.cells.toArray 4 (hshV k) = ({ m with hash := k } : MsgV).cells.toArray :=
  layIn_mid [.int .i64 m.kind, .int .u32 m.ch, .int .u64 m.id, .int .u64 m.amount] (hshV m.hash) [.int .i64 m.expiry, .int .i64 m.number] (hshV k) 4 rfl (by rw [hshV_len, hshV_len, h, hk])

attribute [local go_sem ↓ high] ld_hsh_fold st_hsh_fold al_hsh_fold bd_hsh_fold
attribute [local go_sem] ld_hsh st_hsh al_hsh bd_hsh rowN_drew

theorem fp1_any (A : Nat) (w : World) : Calls Tryz.prog 147 #[.pointer (some ⟨A, 0, none⟩)] w (Reads (.pointer (some ⟨A, 2, none⟩)) w) := by
  go_enter Tryz.func147, Tryz.ntmps147
  go_wp2_with fail
  go_ret
  exact ⟨rfl, Q.refl _⟩
theorem fp2_any (A : Nat) (w : World) : Calls Tryz.prog 148 #[.pointer (some ⟨A, 0, none⟩)] w (Reads (.pointer (some ⟨A, 3, none⟩)) w) := by
  go_enter Tryz.func148, Tryz.ntmps148
  go_wp2_with fail
  go_ret
  exact ⟨rfl, Q.refl _⟩
theorem fp3_any (A : Nat) (w : World) : Calls Tryz.prog 150 #[.pointer (some ⟨A, 0, none⟩)] w (Reads (.pointer (some ⟨A, 36, none⟩)) w) := by
  go_enter Tryz.func150, Tryz.ntmps150
  go_wp2_with fail
  go_ret
  exact ⟨rfl, Q.refl _⟩
theorem fp4_any (A : Nat) (w : World) : Calls Tryz.prog 151 #[.pointer (some ⟨A, 0, none⟩)] w (Reads (.pointer (some ⟨A, 37, none⟩)) w) := by
  go_enter Tryz.func151, Tryz.ntmps151
  go_wp2_with fail
  go_ret
  exact ⟨rfl, Q.refl _⟩
theorem fp5_any (A : Nat) (w : World) : Calls Tryz.prog 180 #[.pointer (some ⟨A, 0, none⟩)] w (Reads (.pointer (some ⟨A, 1, none⟩)) w) := by
  go_enter Tryz.func180, Tryz.ntmps180
  go_wp2_with fail
  go_ret
  exact ⟨rfl, Q.refl _⟩
def pass0 : Value := .agg #[.pointer none, .pointer none]
set_option maxRecDepth 100000 in
set_option maxHeartbeats 1000000 in
theorem zeroU64_any (F : FuncId) (o A p q : Nat) (x : Int) (m : MsgV) (w : World) (hE : ∀ args w, (callFunc F args).run Tryz.prog w = .ok (.enter F args) w) (hF : ∀ w, Calls Tryz.prog F #[.pointer (some ⟨A, 0, none⟩)] w (Reads (.pointer (some ⟨A, o, none⟩)) w)) (hp : w.cell? ⟨p, 0, none⟩ = some (.func (.func F) #[] #[])) (hA : MsB w A m) (ho : m.cells[o]? = some (.int .u64 x)) :
    Calls Tryz.prog 177 #[pass0, .pointer (some ⟨A, 0, none⟩), .pointer (some ⟨p, 0, none⟩), .pointer (some ⟨q, 0, none⟩)] w fun e w' => e = .returned (.tuple #[]) ∧ ∃ w1, New w w1 ∧ w' = w1.setCell ⟨A, o, none⟩ (.int .u64 0) := by
  unfold pass0
  go_enter Tryz.func177, Tryz.ntmps177
  go_upto_region 1 with fail
  have n1 : New w (w.alloc (.cells #[.pointer none, .pointer none] 214)) := (Upd.refl _ _).alloc _
  have hb := blk_alloc w (.cells #[.pointer none, .pointer none] 214)
  generalize w.alloc (.cells #[.pointer none, .pointer none] 214) = w1 at n1 hb ⊢
  generalize w.heap.size = B at hb ⊢
  have hp1 := n1.cell hp (fun h => h)
  have HA := hide (hA.new n1)
  have HB := hide hb
  clear hb hp hA
  go_wp2_with fail
  refine (hF w1).mono ?_
  rintro e w2 ⟨rfl, q2⟩
  have n2 : New w w2 := n1.trans (q2.upd _)
  have hA2 := (unhide HA).new (q2.upd _)
  have d0 : w2.cell? ⟨B, 0, none⟩ = some (.pointer none) := q2.cell (blk_cell (unhide HB) 0)
  have d1 : w2.cell? ⟨B, 1, none⟩ = some (.pointer none) := q2.cell (blk_cell (unhide HB) 1)
  have co : w2.cell? ⟨A, o, none⟩ = some (.int .u64 x) := by rw [blk_cell hA2.at_, List.getElem?_toArray]; exact ho
  have fo : w2.frozen? ⟨A, o, none⟩ = false := blk_free hA2.at_ o
  have HN := hide n2
  clear hA2 q2 n2 n1 hp1 HB
  go_wp2_with (with_reducible first | (first | refine' tw1 (ido ?_) ?_ | refine' tw2 (ido ?_) ?_); rotate_left | refine' tw3 (ido ?_) | rfl | apply tn | refine' tw4 ?_)
  go_end0
  exact ⟨rfl, _, unhide HN, rfl⟩
set_option maxRecDepth 100000 in
set_option maxHeartbeats 1000000 in
theorem zeroI64_any (F : FuncId) (o A p q : Nat) (x : Int) (m : MsgV) (w : World) (hE : ∀ args w, (callFunc F args).run Tryz.prog w = .ok (.enter F args) w) (hF : ∀ w, Calls Tryz.prog F #[.pointer (some ⟨A, 0, none⟩)] w (Reads (.pointer (some ⟨A, o, none⟩)) w)) (hp : w.cell? ⟨p, 0, none⟩ = some (.func (.func F) #[] #[])) (hA : MsB w A m) (ho : m.cells[o]? = some (.int .i64 x)) :
    Calls Tryz.prog 178 #[pass0, .pointer (some ⟨A, 0, none⟩), .pointer (some ⟨p, 0, none⟩), .pointer (some ⟨q, 0, none⟩)] w fun e w' => e = .returned (.tuple #[]) ∧ ∃ w1, New w w1 ∧ w' = w1.setCell ⟨A, o, none⟩ (.int .i64 0) := by
  unfold pass0
  go_enter Tryz.func178, Tryz.ntmps178
  go_upto_region 1 with fail
  have n1 : New w (w.alloc (.cells #[.pointer none, .pointer none] 214)) := (Upd.refl _ _).alloc _
  have hb := blk_alloc w (.cells #[.pointer none, .pointer none] 214)
  generalize w.alloc (.cells #[.pointer none, .pointer none] 214) = w1 at n1 hb ⊢
  generalize w.heap.size = B at hb ⊢
  have hp1 := n1.cell hp (fun h => h)
  have HA := hide (hA.new n1)
  have HB := hide hb
  clear hb hp hA
  go_wp2_with fail
  refine (hF w1).mono ?_
  rintro e w2 ⟨rfl, q2⟩
  have n2 : New w w2 := n1.trans (q2.upd _)
  have hA2 := (unhide HA).new (q2.upd _)
  have d0 : w2.cell? ⟨B, 0, none⟩ = some (.pointer none) := q2.cell (blk_cell (unhide HB) 0)
  have d1 : w2.cell? ⟨B, 1, none⟩ = some (.pointer none) := q2.cell (blk_cell (unhide HB) 1)
  have co : w2.cell? ⟨A, o, none⟩ = some (.int .i64 x) := by rw [blk_cell hA2.at_, List.getElem?_toArray]; exact ho
  have fo : w2.frozen? ⟨A, o, none⟩ = false := blk_free hA2.at_ o
  have HN := hide n2
  clear hA2 q2 n2 n1 hp1 HB
  go_wp2_with (with_reducible first | (first | refine' tw1 (ido ?_) ?_ | refine' tw2 (ido ?_) ?_); rotate_left | refine' tw3 (ido ?_) | rfl | apply tn | refine' tw4 ?_)
  go_end0
  exact ⟨rfl, _, unhide HN, rfl⟩
set_option maxRecDepth 100000 in
set_option maxHeartbeats 1000000 in
theorem zeroU32_any (F : FuncId) (o A p q : Nat) (x : Int) (m : MsgV) (w : World) (hE : ∀ args w, (callFunc F args).run Tryz.prog w = .ok (.enter F args) w) (hF : ∀ w, Calls Tryz.prog F #[.pointer (some ⟨A, 0, none⟩)] w (Reads (.pointer (some ⟨A, o, none⟩)) w)) (hp : w.cell? ⟨p, 0, none⟩ = some (.func (.func F) #[] #[])) (hA : MsB w A m) (ho : m.cells[o]? = some (.int .u32 x)) :
    Calls Tryz.prog 203 #[pass0, .pointer (some ⟨A, 0, none⟩), .pointer (some ⟨p, 0, none⟩), .pointer (some ⟨q, 0, none⟩)] w fun e w' => e = .returned (.tuple #[]) ∧ ∃ w1, New w w1 ∧ w' = w1.setCell ⟨A, o, none⟩ (.int .u32 0) := by
  unfold pass0
  go_enter Tryz.func203, Tryz.ntmps203
  go_upto_region 1 with fail
  have n1 : New w (w.alloc (.cells #[.pointer none, .pointer none] 214)) := (Upd.refl _ _).alloc _
  have hb := blk_alloc w (.cells #[.pointer none, .pointer none] 214)
  generalize w.alloc (.cells #[.pointer none, .pointer none] 214) = w1 at n1 hb ⊢
  generalize w.heap.size = B at hb ⊢
  have hp1 := n1.cell hp (fun h => h)
  have HA := hide (hA.new n1)
  have HB := hide hb
  clear hb hp hA
  go_wp2_with fail
  refine (hF w1).mono ?_
  rintro e w2 ⟨rfl, q2⟩
  have n2 : New w w2 := n1.trans (q2.upd _)
  have hA2 := (unhide HA).new (q2.upd _)
  have d0 : w2.cell? ⟨B, 0, none⟩ = some (.pointer none) := q2.cell (blk_cell (unhide HB) 0)
  have d1 : w2.cell? ⟨B, 1, none⟩ = some (.pointer none) := q2.cell (blk_cell (unhide HB) 1)
  have co : w2.cell? ⟨A, o, none⟩ = some (.int .u32 x) := by rw [blk_cell hA2.at_, List.getElem?_toArray]; exact ho
  have fo : w2.frozen? ⟨A, o, none⟩ = false := blk_free hA2.at_ o
  have HN := hide n2
  clear hA2 q2 n2 n1 hp1 HB
  go_wp2_with (with_reducible first | (first | refine' tw1 (ido ?_) ?_ | refine' tw2 (ido ?_) ?_); rotate_left | refine' tw3 (ido ?_) | rfl | apply tn | refine' tw4 ?_)
  go_end0
  exact ⟨rfl, _, unhide HN, rfl⟩
set_option maxRecDepth 100000 in
set_option maxHeartbeats 1000000 in
theorem zeroHash_any (A : Nat) (m : MsgV) (w : World) (hA : MsB w A m) :
    Calls Tryz.prog 153 #[pass0, .pointer (some ⟨A, 0, none⟩)] w fun e w' => e = .returned (.tuple #[]) ∧ ∃ w1, New w w1 ∧ w' = w1.setCells A 4 (hshV z32i) := by
  unfold pass0
  go_enter Tryz.func153, Tryz.ntmps153
  go_upto_region 2 with fail
  have n1 : New w (w.alloc (.cells #[.pointer none, .pointer none] 214)) := (Upd.refl _ _).alloc _
  have hb := blk_alloc w (.cells #[.pointer none, .pointer none] 214)
  generalize w.alloc (.cells #[.pointer none, .pointer none] 214) = w1 at n1 hb ⊢
  generalize w.heap.size = B at hb ⊢
  have hA1 := hA.new n1
  have d0 : w1.cell? ⟨B, 0, none⟩ = some (.pointer none) := blk_cell hb 0
  have d1 : w1.cell? ⟨B, 1, none⟩ = some (.pointer none) := blk_cell hb 1
  have hst : stOk w1 A 4 32 (hshV z32i).toArray = true := stOk_blk hA1.at_ (by rw [List.size_toArray, m.len hA1.len]; omega) (by rw [List.size_toArray, hshV_len]; exact z32i_len) (by rw [Array.all_eq_true_iff_forall_mem]; intro v hv; exact hshV_one _ v (by simpa using hv))
  have HN := hide n1
  clear hA hA1 n1 hb
  go_wp2_with (with_reducible first | (first | refine' tw1 (ido ?_) ?_ | refine' tw2 (ido ?_) ?_); rotate_left | refine' tw3 (ido ?_) | rfl | apply tn | refine' tw4 ?_)
  go_end0
  exact ⟨rfl, _, unhide HN, rfl⟩

/-- What a field's closure does: it sets the field to 0. -/
theorem field_any (x : Fld) (base A : Nat) (m : MsgV) (v : Value) (w : World) (hv : FldV base w v x) (hA : MsB w A m) (hAb : A < base) :
    ∃ F caps, v = .func (.func F) #[] caps ∧ (∀ args w, (callFunc F args).run Tryz.prog w = .ok (.enter F args) w) ∧ Calls Tryz.prog F (#[pass0, .pointer (some ⟨A, 0, none⟩)] ++ caps) w fun e w' => e = .returned (.tuple #[]) ∧ MsB w' A (x.zero m) ∧ Upd (· = A) w w' := by
  have fin : ∀ (w1 : World) (o : Nat) (u : Value) (m' : MsgV), New w w1 → m.cells.toArray.setIfInBounds o u = m'.cells.toArray → m'.hash.length = 32 → MsB (w1.setCell ⟨A, o, none⟩ u) A m' ∧ Upd (· = A) w (w1.setCell ⟨A, o, none⟩ u) := by
    intro w1 o u m' n1 he hl
    have h1 := hA.new n1
    have := blk_set h1.at_ o u
    rw [he] at this
    exact ⟨⟨this, hl⟩, (n1.mono (fun _ _ h => h.elim)).set1 o u⟩
  have hl := hA.len
  cases x with
  | ch =>
    obtain ⟨p, q, rfl, hp, hq, cp, cq⟩ := hv
    refine ⟨_, _, rfl, enters_of Tryz.func203 (by kernel_rfl) rfl, ?_⟩
    refine (zeroU32_any 180 1 A p q m.ch m w (enters_of Tryz.func180 (by kernel_rfl) rfl) (fp5_any A) cp hA rfl).mono ?_
    rintro e w' ⟨he, w1, n1, rfl⟩
    exact ⟨he, fin w1 1 _ _ n1 (set_ch m 0) hl⟩
  | id =>
    obtain ⟨p, q, rfl, hp, hq, cp, cq⟩ := hv
    refine ⟨_, _, rfl, enters_of Tryz.func177 (by kernel_rfl) rfl, ?_⟩
    refine (zeroU64_any 147 2 A p q m.id m w (enters_of Tryz.func147 (by kernel_rfl) rfl) (fp1_any A) cp hA rfl).mono ?_
    rintro e w' ⟨he, w1, n1, rfl⟩
    exact ⟨he, fin w1 2 _ _ n1 (set_id m 0) hl⟩
  | amount =>
    obtain ⟨p, q, rfl, hp, hq, cp, cq⟩ := hv
    refine ⟨_, _, rfl, enters_of Tryz.func177 (by kernel_rfl) rfl, ?_⟩
    refine (zeroU64_any 148 3 A p q m.amount m w (enters_of Tryz.func148 (by kernel_rfl) rfl) (fp2_any A) cp hA rfl).mono ?_
    rintro e w' ⟨he, w1, n1, rfl⟩
    exact ⟨he, fin w1 3 _ _ n1 (set_amount m 0) hl⟩
  | expiry =>
    obtain ⟨p, q, rfl, hp, hq, cp, cq⟩ := hv
    refine ⟨_, _, rfl, enters_of Tryz.func178 (by kernel_rfl) rfl, ?_⟩
    have ho : m.cells[36]? = some (.int .i64 m.expiry) := by
      have := hA.cells.2.2.2.2.1
      rwa [blk_cell hA.at_, List.getElem?_toArray] at this
    refine (zeroI64_any 150 36 A p q m.expiry m w (enters_of Tryz.func150 (by kernel_rfl) rfl) (fp3_any A) cp hA ho).mono ?_
    rintro e w' ⟨he, w1, n1, rfl⟩
    exact ⟨he, fin w1 36 _ _ n1 (set_expiry m hl 0) hl⟩
  | number =>
    obtain ⟨p, q, rfl, hp, hq, cp, cq⟩ := hv
    refine ⟨_, _, rfl, enters_of Tryz.func178 (by kernel_rfl) rfl, ?_⟩
    have ho : m.cells[37]? = some (.int .i64 m.number) := by
      have := hA.cells.2.2.2.2.2.1
      rwa [blk_cell hA.at_, List.getElem?_toArray] at this
    refine (zeroI64_any 151 37 A p q m.number m w (enters_of Tryz.func151 (by kernel_rfl) rfl) (fp4_any A) cp hA ho).mono ?_
    rintro e w' ⟨he, w1, n1, rfl⟩
    exact ⟨he, fin w1 37 _ _ n1 (set_number m hl 0) hl⟩
  | hash =>
    have hv : v = _ := hv
    subst hv
    refine ⟨_, _, rfl, enters_of Tryz.func153 (by kernel_rfl) rfl, ?_⟩
    refine (zeroHash_any A m w hA).mono ?_
    rintro e w' ⟨he, w1, n1, rfl⟩
    have h1 := hA.new n1
    have hb := blk_setCells h1.at_ 4 (hshV z32i)
    rw [set_hash m hl z32i z32i_len] at hb
    exact ⟨he, ⟨hb, z32i_len⟩, (n1.mono (fun _ _ h => h.elim)).setCells 4 _⟩

end Go.Proofs.YtainkaojnhfldaaGreatDoor
