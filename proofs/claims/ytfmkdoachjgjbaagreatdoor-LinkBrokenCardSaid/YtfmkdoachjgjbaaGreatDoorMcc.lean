/-
  Fields of messages: what sets each to 0.
-/
import Derived.Test.YtfmkdoachjgjbaaGreatDoorMbi
import Derived.Test.YtfmkdoachjgjbaaGreatDoorMcb
set_option linter.unusedVariables false
set_option linter.unusedSimpArgs false
namespace Go.Proofs.YtfmkdoachjgjbaaGreatDoor
open Go.RowKit

inductive Fld where
  | ch
  | id
  | amount
  | hash
  | expiry
  | number
def Fld.zero (x : Fld) (m : MsgV) : MsgV :=
  match x with
  | .ch => { m with ch := 0 }
  | .id => { m with id := 0 }
  | .amount => { m with amount := 0 }
  | .hash => { m with hash := z32i }
  | .expiry => { m with expiry := 0 }
  | .number => { m with number := 0 }
/-- A closure made by number. -/
def NumV (base : Nat) (w : World) (v : Value) (f F : FuncId) (n : Int) : Prop :=
  ∃ p q, v = .func (.func f) #[] #[.pointer (some ⟨p, 0, none⟩), .pointer (some ⟨q, 0, none⟩)] ∧ base ≤ p ∧ base ≤ q ∧ w.cell? ⟨p, 0, none⟩ = some (.func (.func F) #[] #[]) ∧ w.cell? ⟨q, 0, none⟩ = some (.int .i64 n)
/-- What a field's closure is. -/
def FldV (base : Nat) (w : World) (v : Value) (x : Fld) : Prop :=
  match x with
  | .ch => NumV base w v 214 203 4
  | .id => NumV base w v 200 169 8
  | .amount => NumV base w v 200 170 8
  | .hash => v = .func (.func 175) #[] #[]
  | .expiry => NumV base w v 201 172 4
  | .number => NumV base w v 201 173 2
theorem NumV.upd {base : Nat} {w w' : World} {v : Value} {f F : FuncId} {n : Int} {S : Nat → Prop} (h : NumV base w v f F n) (u : Upd S w w') (hS : ∀ k, base ≤ k → ¬ S k) : NumV base w' v f F n := by
  obtain ⟨p, q, e, hp, hq, cp, cq⟩ := h
  exact ⟨p, q, e, hp, hq, u.cell cp (hS p hp), u.cell cq (hS q hq)⟩
theorem FldV.upd {base : Nat} {w w' : World} {v : Value} {x : Fld} {S : Nat → Prop} (h : FldV base w v x) (u : Upd S w w') (hS : ∀ k, base ≤ k → ¬ S k) : FldV base w' v x := by
  cases x <;> first | exact NumV.upd h u hS | exact h
theorem FldV.new {base : Nat} {w w' : World} {v : Value} {x : Fld} (h : FldV base w v x) (u : New w w') : FldV base w' v x := h.upd u (fun _ _ h => h)
theorem NumV.one {base : Nat} {w : World} {v : Value} {f F : FuncId} {n : Int} (h : NumV base w v f F n) : v.oneCell' = true := by
  obtain ⟨p, q, rfl, _⟩ := h
  rfl
theorem FldV.one {base : Nat} {w : World} {v : Value} {x : Fld} (h : FldV base w v x) : v.oneCell' = true := by
  cases x <;> first | exact NumV.one h | (have h : v = _ := h; rw [h]; rfl)

theorem set_ch (m : MsgV) (n : Int) : m.cells.toArray.setIfInBounds 1 (.int .u32 n) = ({ m with ch := n } : MsgV).cells.toArray := rfl
theorem set_id (m : MsgV) (n : Int) : m.cells.toArray.setIfInBounds 2 (.int .u64 n) = ({ m with id := n } : MsgV).cells.toArray := rfl
theorem set_amount (m : MsgV) (n : Int) : m.cells.toArray.setIfInBounds 3 (.int .u64 n) = ({ m with amount := n } : MsgV).cells.toArray := rfl
theorem msg_tail (m : MsgV) (h : m.hash.length = 32) : m.cells = (.int .i64 m.kind :: .int .u32 m.ch :: .int .u64 m.id :: .int .u64 m.amount :: hshV m.hash) ++ [.int .i64 m.expiry, .int .i64 m.number] := rfl
theorem set_expiry (m : MsgV) (h : m.hash.length = 32) (n : Int) : m.cells.toArray.setIfInBounds 36 (.int .i64 n) = ({ m with expiry := n } : MsgV).cells.toArray := by
  rw [List.setIfInBounds_toArray, msg_tail m h, List.set_append_right _ _ (by simp [hshV, h])]
  congr 1
  show _ = (.int .i64 m.kind :: .int .u32 m.ch :: .int .u64 m.id :: .int .u64 m.amount :: hshV m.hash) ++ [.int .i64 n, .int .i64 m.number]
  simp [hshV, h]
theorem set_number (m : MsgV) (h : m.hash.length = 32) (n : Int) : m.cells.toArray.setIfInBounds 37 (.int .i64 n) = ({ m with number := n } : MsgV).cells.toArray := by
  rw [List.setIfInBounds_toArray, msg_tail m h, List.set_append_right _ _ (by simp [hshV, h])]
  congr 1
  show _ = (.int .i64 m.kind :: .int .u32 m.ch :: .int .u64 m.id :: .int .u64 m.amount :: hshV m.hash) ++ [.int .i64 m.expiry, .int .i64 n]
  simp [hshV, h]
theorem set_hash (m : MsgV) (h : m.hash.length = 32) (k : List Int) (hk : k.length = 32) : layIn m.cells.toArray 4 (hshV k) = ({ m with hash := k } : MsgV).cells.toArray :=
  layIn_mid [.int .i64 m.kind, .int .u32 m.ch, .int .u64 m.id, .int .u64 m.amount] (hshV m.hash) [.int .i64 m.expiry, .int .i64 m.number] (hshV k) 4 rfl (by rw [hshV_len, hshV_len, h, hk])

attribute [local go_sem ↓ high] ld_hsh_fold st_hsh_fold al_hsh_fold bd_hsh_fold
attribute [local go_sem] ld_hsh st_hsh al_hsh bd_hsh rowN_drew

theorem fp1_any (A : Nat) (w : World) : Calls Tryz.prog 169 #[.pointer (some ⟨A, 0, none⟩)] w (Reads (.pointer (some ⟨A, 2, none⟩)) w) := by
  go_enter Tryz.func169, Tryz.ntmps169
  go_wp2_with fail
  go_ret
  exact ⟨rfl, Q.refl _⟩
theorem fp2_any (A : Nat) (w : World) : Calls Tryz.prog 170 #[.pointer (some ⟨A, 0, none⟩)] w (Reads (.pointer (some ⟨A, 3, none⟩)) w) := by
  go_enter Tryz.func170, Tryz.ntmps170
  go_wp2_with fail
  go_ret
  exact ⟨rfl, Q.refl _⟩
theorem fp3_any (A : Nat) (w : World) : Calls Tryz.prog 172 #[.pointer (some ⟨A, 0, none⟩)] w (Reads (.pointer (some ⟨A, 36, none⟩)) w) := by
  go_enter Tryz.func172, Tryz.ntmps172
  go_wp2_with fail
  go_ret
  exact ⟨rfl, Q.refl _⟩
theorem fp4_any (A : Nat) (w : World) : Calls Tryz.prog 173 #[.pointer (some ⟨A, 0, none⟩)] w (Reads (.pointer (some ⟨A, 37, none⟩)) w) := by
  go_enter Tryz.func173, Tryz.ntmps173
  go_wp2_with fail
  go_ret
  exact ⟨rfl, Q.refl _⟩
theorem fp5_any (A : Nat) (w : World) : Calls Tryz.prog 203 #[.pointer (some ⟨A, 0, none⟩)] w (Reads (.pointer (some ⟨A, 1, none⟩)) w) := by
  go_enter Tryz.func203, Tryz.ntmps203
  go_wp2_with fail
  go_ret
  exact ⟨rfl, Q.refl _⟩
def pass0 : Value := .agg #[.pointer none, .pointer none]
set_option maxRecDepth 100000 in
set_option maxHeartbeats 1000000 in
theorem zeroU64_any (F : FuncId) (o A p q : Nat) (x : Int) (m : MsgV) (w : World) (hE : ∀ args w, (callFunc F args).run Tryz.prog w = .ok (.enter F args) w) (hF : ∀ w, Calls Tryz.prog F #[.pointer (some ⟨A, 0, none⟩)] w (Reads (.pointer (some ⟨A, o, none⟩)) w)) (hp : w.cell? ⟨p, 0, none⟩ = some (.func (.func F) #[] #[])) (hA : MsB w A m) (ho : m.cells[o]? = some (.int .u64 x)) :
    Calls Tryz.prog 200 #[pass0, .pointer (some ⟨A, 0, none⟩), .pointer (some ⟨p, 0, none⟩), .pointer (some ⟨q, 0, none⟩)] w fun e w' => e = .returned (.tuple #[]) ∧ ∃ w1, New w w1 ∧ w' = w1.setCell ⟨A, o, none⟩ (.int .u64 0) := by
  unfold pass0
  go_enter Tryz.func200, Tryz.ntmps200
  go_upto_region 1 with fail
  have n1 : New w (w.alloc (.cells #[.pointer none, .pointer none] 234)) := (Upd.refl _ _).alloc _
  have hb := blk_alloc w (.cells #[.pointer none, .pointer none] 234)
  generalize w.alloc (.cells #[.pointer none, .pointer none] 234) = w1 at n1 hb ⊢
  generalize w.heap.size = B at hb ⊢
  have hp1 := n1.cell hp (fun h => h)
  have HA := hide (hA.new n1)
  have HB := hide hb
  clear hb hp hA
  go_wp2_with fail
  refine (hF w1).mono ?_
  rintro e w2 ⟨rfl, q2⟩
  have n2 : New w w2 := n1.trans (q2.upd _)
  have hA2 := (unhide HA).new (q2.upd _)
  have d0 : w2.cell? ⟨B, 0, none⟩ = some (.pointer none) := q2.cell (blk_cell (unhide HB) 0)
  have d1 : w2.cell? ⟨B, 1, none⟩ = some (.pointer none) := q2.cell (blk_cell (unhide HB) 1)
  have co : w2.cell? ⟨A, o, none⟩ = some (.int .u64 x) := by rw [blk_cell hA2.at_, List.getElem?_toArray]; exact ho
  have fo : w2.frozen? ⟨A, o, none⟩ = false := blk_free hA2.at_ o
  have HN := hide n2
  clear hA2 q2 n2 n1 hp1 HB
  go_wp2_with (with_reducible first | (first | refine' tw1 (ido ?_) ?_ | refine' tw2 (ido ?_) ?_); rotate_left | refine' tw3 (ido ?_) | rfl | apply tn | refine' tw4 ?_)
  go_end0
  exact ⟨rfl, _, unhide HN, rfl⟩
set_option maxRecDepth 100000 in
set_option maxHeartbeats 1000000 in
theorem zeroI64_any (F : FuncId) (o A p q : Nat) (x : Int) (m : MsgV) (w : World) (hE : ∀ args w, (callFunc F args).run Tryz.prog w = .ok (.enter F args) w) (hF : ∀ w, Calls Tryz.prog F #[.pointer (some ⟨A, 0, none⟩)] w (Reads (.pointer (some ⟨A, o, none⟩)) w)) (hp : w.cell? ⟨p, 0, none⟩ = some (.func (.func F) #[] #[])) (hA : MsB w A m) (ho : m.cells[o]? = some (.int .i64 x)) :
    Calls Tryz.prog 201 #[pass0, .pointer (some ⟨A, 0, none⟩), .pointer (some ⟨p, 0, none⟩), .pointer (some ⟨q, 0, none⟩)] w fun e w' => e = .returned (.tuple #[]) ∧ ∃ w1, New w w1 ∧ w' = w1.setCell ⟨A, o, none⟩ (.int .i64 0) := by
  unfold pass0
  go_enter Tryz.func201, Tryz.ntmps201
  go_upto_region 1 with fail
  have n1 : New w (w.alloc (.cells #[.pointer none, .pointer none] 234)) := (Upd.refl _ _).alloc _
  have hb := blk_alloc w (.cells #[.pointer none, .pointer none] 234)
  generalize w.alloc (.cells #[.pointer none, .pointer none] 234) = w1 at n1 hb ⊢
  generalize w.heap.size = B at hb ⊢
  have hp1 := n1.cell hp (fun h => h)
  have HA := hide (hA.new n1)
  have HB := hide hb
  clear hb hp hA
  go_wp2_with fail
  refine (hF w1).mono ?_
  rintro e w2 ⟨rfl, q2⟩
  have n2 : New w w2 := n1.trans (q2.upd _)
  have hA2 := (unhide HA).new (q2.upd _)
  have d0 : w2.cell? ⟨B, 0, none⟩ = some (.pointer none) := q2.cell (blk_cell (unhide HB) 0)
  have d1 : w2.cell? ⟨B, 1, none⟩ = some (.pointer none) := q2.cell (blk_cell (unhide HB) 1)
  have co : w2.cell? ⟨A, o, none⟩ = some (.int .i64 x) := by rw [blk_cell hA2.at_, List.getElem?_toArray]; exact ho
  have fo : w2.frozen? ⟨A, o, none⟩ = false := blk_free hA2.at_ o
  have HN := hide n2
  clear hA2 q2 n2 n1 hp1 HB
  go_wp2_with (with_reducible first | (first | refine' tw1 (ido ?_) ?_ | refine' tw2 (ido ?_) ?_); rotate_left | refine' tw3 (ido ?_) | rfl | apply tn | refine' tw4 ?_)
  go_end0
  exact ⟨rfl, _, unhide HN, rfl⟩
set_option maxRecDepth 100000 in
set_option maxHeartbeats 1000000 in
theorem zeroU32_any (F : FuncId) (o A p q : Nat) (x : Int) (m : MsgV) (w : World) (hE : ∀ args w, (callFunc F args).run Tryz.prog w = .ok (.enter F args) w) (hF : ∀ w, Calls Tryz.prog F #[.pointer (some ⟨A, 0, none⟩)] w (Reads (.pointer (some ⟨A, o, none⟩)) w)) (hp : w.cell? ⟨p, 0, none⟩ = some (.func (.func F) #[] #[])) (hA : MsB w A m) (ho : m.cells[o]? = some (.int .u32 x)) :
    Calls Tryz.prog 214 #[pass0, .pointer (some ⟨A, 0, none⟩), .pointer (some ⟨p, 0, none⟩), .pointer (some ⟨q, 0, none⟩)] w fun e w' => e = .returned (.tuple #[]) ∧ ∃ w1, New w w1 ∧ w' = w1.setCell ⟨A, o, none⟩ (.int .u32 0) := by
  unfold pass0
  go_enter Tryz.func214, Tryz.ntmps214
  go_upto_region 1 with fail
  have n1 : New w (w.alloc (.cells #[.pointer none, .pointer none] 234)) := (Upd.refl _ _).alloc _
  have hb := blk_alloc w (.cells #[.pointer none, .pointer none] 234)
  generalize w.alloc (.cells #[.pointer none, .pointer none] 234) = w1 at n1 hb ⊢
  generalize w.heap.size = B at hb ⊢
  have hp1 := n1.cell hp (fun h => h)
  have HA := hide (hA.new n1)
  have HB := hide hb
  clear hb hp hA
  go_wp2_with fail
  refine (hF w1).mono ?_
  rintro e w2 ⟨rfl, q2⟩
  have n2 : New w w2 := n1.trans (q2.upd _)
  have hA2 := (unhide HA).new (q2.upd _)
  have d0 : w2.cell? ⟨B, 0, none⟩ = some (.pointer none) := q2.cell (blk_cell (unhide HB) 0)
  have d1 : w2.cell? ⟨B, 1, none⟩ = some (.pointer none) := q2.cell (blk_cell (unhide HB) 1)
  have co : w2.cell? ⟨A, o, none⟩ = some (.int .u32 x) := by rw [blk_cell hA2.at_, List.getElem?_toArray]; exact ho
  have fo : w2.frozen? ⟨A, o, none⟩ = false := blk_free hA2.at_ o
  have HN := hide n2
  clear hA2 q2 n2 n1 hp1 HB
  go_wp2_with (with_reducible first | (first | refine' tw1 (ido ?_) ?_ | refine' tw2 (ido ?_) ?_); rotate_left | refine' tw3 (ido ?_) | rfl | apply tn | refine' tw4 ?_)
  go_end0
  exact ⟨rfl, _, unhide HN, rfl⟩
set_option maxRecDepth 100000 in
set_option maxHeartbeats 1000000 in
theorem zeroHash_any (A : Nat) (m : MsgV) (w : World) (hA : MsB w A m) :
    Calls Tryz.prog 175 #[pass0, .pointer (some ⟨A, 0, none⟩)] w fun e w' => e = .returned (.tuple #[]) ∧ ∃ w1, New w w1 ∧ w' = w1.setCells A 4 (hshV z32i) := by
  unfold pass0
  go_enter Tryz.func175, Tryz.ntmps175
  go_upto_region 2 with fail
  have n1 : New w (w.alloc (.cells #[.pointer none, .pointer none] 234)) := (Upd.refl _ _).alloc _
  have hb := blk_alloc w (.cells #[.pointer none, .pointer none] 234)
  generalize w.alloc (.cells #[.pointer none, .pointer none] 234) = w1 at n1 hb ⊢
  generalize w.heap.size = B at hb ⊢
  have hA1 := hA.new n1
  have d0 : w1.cell? ⟨B, 0, none⟩ = some (.pointer none) := blk_cell hb 0
  have d1 : w1.cell? ⟨B, 1, none⟩ = some (.pointer none) := blk_cell hb 1
  have hst : stOk w1 A 4 32 (hshV z32i).toArray = true := stOk_blk hA1.at_ (by rw [List.size_toArray, m.len hA1.len]; omega) (by rw [List.size_toArray, hshV_len]; exact z32i_len) (by rw [Array.all_eq_true_iff_forall_mem]; intro v hv; exact hshV_one _ v (by simpa using hv))
  have HN := hide n1
  clear hA hA1 n1 hb
  go_wp2_with (with_reducible first | (first | refine' tw1 (ido ?_) ?_ | refine' tw2 (ido ?_) ?_); rotate_left | refine' tw3 (ido ?_) | rfl | apply tn | refine' tw4 ?_)
  go_end0
  exact ⟨rfl, _, unhide HN, rfl⟩

/-- What a field's closure does: it sets the field to 0. -/
theorem field_any (x : Fld) (base A : Nat) (m : MsgV) (v : Value) (w : World) (hv : FldV base w v x) (hA : MsB w A m) (hAb : A < base) :
    ∃ F caps, v = .func (.func F) #[] caps ∧ (∀ args w, (callFunc F args).run Tryz.prog w = .ok (.enter F args) w) ∧ Calls Tryz.prog F (#[pass0, .pointer (some ⟨A, 0, none⟩)] ++ caps) w fun e w' => e = .returned (.tuple #[]) ∧ MsB w' A (x.zero m) ∧ Upd (· = A) w w' := by
  have fin : ∀ (w1 : World) (o : Nat) (u : Value) (m' : MsgV), New w w1 → m.cells.toArray.setIfInBounds o u = m'.cells.toArray → m'.hash.length = 32 → MsB (w1.setCell ⟨A, o, none⟩ u) A m' ∧ Upd (· = A) w (w1.setCell ⟨A, o, none⟩ u) := by
    intro w1 o u m' n1 he hl
    have h1 := hA.new n1
    have := blk_set h1.at_ o u
    rw [he] at this
    exact ⟨⟨this, hl⟩, (n1.mono (fun _ _ h => h.elim)).set1 o u⟩
  have hl := hA.len
  cases x with
  | ch =>
    obtain ⟨p, q, rfl, hp, hq, cp, cq⟩ := hv
    refine ⟨_, _, rfl, enters_of Tryz.func214 (by kernel_rfl) rfl, ?_⟩
    refine (zeroU32_any 203 1 A p q m.ch m w (enters_of Tryz.func203 (by kernel_rfl) rfl) (fp5_any A) cp hA rfl).mono ?_
    rintro e w' ⟨he, w1, n1, rfl⟩
    exact ⟨he, fin w1 1 _ _ n1 (set_ch m 0) hl⟩
  | id =>
    obtain ⟨p, q, rfl, hp, hq, cp, cq⟩ := hv
    refine ⟨_, _, rfl, enters_of Tryz.func200 (by kernel_rfl) rfl, ?_⟩
    refine (zeroU64_any 169 2 A p q m.id m w (enters_of Tryz.func169 (by kernel_rfl) rfl) (fp1_any A) cp hA rfl).mono ?_
    rintro e w' ⟨he, w1, n1, rfl⟩
    exact ⟨he, fin w1 2 _ _ n1 (set_id m 0) hl⟩
  | amount =>
    obtain ⟨p, q, rfl, hp, hq, cp, cq⟩ := hv
    refine ⟨_, _, rfl, enters_of Tryz.func200 (by kernel_rfl) rfl, ?_⟩
    refine (zeroU64_any 170 3 A p q m.amount m w (enters_of Tryz.func170 (by kernel_rfl) rfl) (fp2_any A) cp hA rfl).mono ?_
    rintro e w' ⟨he, w1, n1, rfl⟩
    exact ⟨he, fin w1 3 _ _ n1 (set_amount m 0) hl⟩
  | expiry =>
    obtain ⟨p, q, rfl, hp, hq, cp, cq⟩ := hv
    refine ⟨_, _, rfl, enters_of Tryz.func201 (by kernel_rfl) rfl, ?_⟩
    have ho : m.cells[36]? = some (.int .i64 m.expiry) := by
      have := hA.cells.2.2.2.2.1
      rwa [blk_cell hA.at_, List.getElem?_toArray] at this
    refine (zeroI64_any 172 36 A p q m.expiry m w (enters_of Tryz.func172 (by kernel_rfl) rfl) (fp3_any A) cp hA ho).mono ?_
    rintro e w' ⟨he, w1, n1, rfl⟩
    exact ⟨he, fin w1 36 _ _ n1 (set_expiry m hl 0) hl⟩
  | number =>
    obtain ⟨p, q, rfl, hp, hq, cp, cq⟩ := hv
    refine ⟨_, _, rfl, enters_of Tryz.func201 (by kernel_rfl) rfl, ?_⟩
    have ho : m.cells[37]? = some (.int .i64 m.number) := by
      have := hA.cells.2.2.2.2.2.1
      rwa [blk_cell hA.at_, List.getElem?_toArray] at this
    refine (zeroI64_any 173 37 A p q m.number m w (enters_of Tryz.func173 (by kernel_rfl) rfl) (fp4_any A) cp hA ho).mono ?_
    rintro e w' ⟨he, w1, n1, rfl⟩
    exact ⟨he, fin w1 37 _ _ n1 (set_number m hl 0) hl⟩
  | hash =>
    have hv : v = _ := hv
    subst hv
    refine ⟨_, _, rfl, enters_of Tryz.func175 (by kernel_rfl) rfl, ?_⟩
    refine (zeroHash_any A m w hA).mono ?_
    rintro e w' ⟨he, w1, n1, rfl⟩
    have h1 := hA.new n1
    have hb := blk_setCells h1.at_ 4 (hshV z32i)
    rw [set_hash m hl z32i z32i_len] at hb
    exact ⟨he, ⟨hb, z32i_len⟩, (n1.mono (fun _ _ h => h.elim)).setCells 4 _⟩

end Go.Proofs.YtfmkdoachjgjbaaGreatDoor
namespace Go.Proofs.YtfmkdoachjgjbaaGreatDoor
open Go.RowKit

theorem number64_any (n : Int) (F : FuncId) (w : World) : Calls Tryz.prog 168 #[.int .i64 n, .func (.func F) #[] #[]] w fun e w' => ∃ v, e = .returned v ∧ New w w' ∧ NumV w.heap.size w' v 200 F n := by
  go_enter Tryz.func168, Tryz.ntmps168
  go_wp2_with fail
  go_ret
  have hb := blk_alloc (w.alloc (.cells #[.int .i64 n] 3)) (.cells #[.func (.func F) #[] #[]] 274)
  rw [World.size_alloc] at hb
  exact ⟨_, rfl, ((Upd.refl _ _).alloc _).alloc _, _, _, rfl, by omega, by omega, by rw [blk_cell hb]; rfl, by rw [blk_cell (blk_alloc_old (blk_alloc _ _) _)]; rfl⟩
theorem numberI_any (n : Int) (F : FuncId) (w : World) : Calls Tryz.prog 171 #[.int .i64 n, .func (.func F) #[] #[]] w fun e w' => ∃ v, e = .returned v ∧ New w w' ∧ NumV w.heap.size w' v 201 F n := by
  go_enter Tryz.func171, Tryz.ntmps171
  go_wp2_with fail
  go_ret
  have hb := blk_alloc (w.alloc (.cells #[.int .i64 n] 3)) (.cells #[.func (.func F) #[] #[]] 277)
  rw [World.size_alloc] at hb
  exact ⟨_, rfl, ((Upd.refl _ _).alloc _).alloc _, _, _, rfl, by omega, by omega, by rw [blk_cell hb]; rfl, by rw [blk_cell (blk_alloc_old (blk_alloc _ _) _)]; rfl⟩
theorem number32_any (n : Int) (F : FuncId) (w : World) : Calls Tryz.prog 202 #[.int .i64 n, .func (.func F) #[] #[]] w fun e w' => ∃ v, e = .returned v ∧ New w w' ∧ NumV w.heap.size w' v 214 F n := by
  go_enter Tryz.func202, Tryz.ntmps202
  go_wp2_with fail
  go_ret
  have hb := blk_alloc (w.alloc (.cells #[.int .i64 n] 3)) (.cells #[.func (.func F) #[] #[]] 299)
  rw [World.size_alloc] at hb
  exact ⟨_, rfl, ((Upd.refl _ _).alloc _).alloc _, _, _, rfl, by omega, by omega, by rw [blk_cell hb]; rfl, by rw [blk_cell (blk_alloc_old (blk_alloc _ _) _)]; rfl⟩
theorem NumV.later {a b : Nat} {w : World} {v : Value} {f F : FuncId} {n : Int} (h : NumV b w v f F n) (ab : a ≤ b) : NumV a w v f F n := by
  obtain ⟨p, q, e, hp, hq, r⟩ := h
  exact ⟨p, q, e, by omega, by omega, r⟩
theorem FldV.later {a b : Nat} {w : World} {v : Value} {x : Fld} (h : FldV b w v x) (ab : a ≤ b) : FldV a w v x := by
  cases x <;> first | exact NumV.later h ab | exact h

/-- A row of fields' closures. -/
structure FldsO (base : Nat) (w : World) (v : Value) (xs : List Fld) : Prop where
  row : ∃ vs : List Value, w.ownsRow base 271 1 v xs.length vs ∧ vs.length = xs.length ∧ ∀ (i : Nat) (x : Fld) (u : Value), xs[i]? = some x → vs[i]? = some u → FldV base w u x
theorem Tryz.zeroFld : ((Tryz.prog.info? 271).map fun i => (i.zero.map (·.cells.size), i.size, decide (i.bytes ≤ 1000))) = some (some 1, 1, true) := by kernel_rfl
theorem fld_info : ∃ i z b, Tryz.prog.info? 271 = some i ∧ i.zero = some z ∧ i.size = 1 ∧ i.bytes = b ∧ z.cells.size = 1 ∧ b ≤ 1000 := by
  have h := Tryz.zeroFld
  cases hi : Tryz.prog.info? 271 with
  | none => rw [hi] at h; cases h
  | some i =>
    rw [hi] at h
    simp only [Option.map_some, Option.some.injEq, Prod.mk.injEq] at h
    obtain ⟨h1, h2, h3⟩ := h
    cases hz : i.zero with
    | none => rw [hz] at h1; cases h1
    | some z =>
      rw [hz] at h1
      exact ⟨i, z, i.bytes, rfl, hz, h2, rfl, by simpa using h1, of_decide_eq_true h3⟩

set_option maxRecDepth 100000 in
set_option maxHeartbeats 1000000 in
theorem list_any (g : Nat) (vs : List Value) (w : World) (hg : w.heap[g]? = some (.cells vs.toArray 271 (0, 0))) (h1 : ∀ v ∈ vs, v.oneCell' = true) (hl : vs.length ≤ 100) :
    Calls Tryz.prog 174 #[.slice (some ⟨g, 0, none⟩) vs.length vs.length] w fun e w' => ∃ v c, e = .returned (.tuple #[v, .bool true]) ∧ New w w' ∧ w'.ownsRow w.heap.size 271 1 v (1 + vs.length) (c :: vs) ∧ FldV w.heap.size w' c .ch := by
  obtain ⟨i9, z9, b9, hi9, hz9, hz0, hz1, hz2, hb9⟩ := fld_info
  have hn := number32_any 4 203 w
  go_enter Tryz.func174, Tryz.ntmps174
  go_wp2_with fail
  refine hn.mono ?_
  rintro e w1 ⟨c, rfl, n1, p, q, rfl, hp, hq, cp, cq⟩
  clear hn
  have lp := World.block_lt_of_cell? w1 _ cp
  have lq := World.block_lt_of_cell? w1 _ cq
  change p < _ at lp
  change q < _ at lq
  obtain ⟨c, hce⟩ : ∃ c : Value, c = .func (.func 214) #[] #[.pointer (some ⟨p, 0, none⟩), .pointer (some ⟨q, 0, none⟩)] := ⟨_, rfl⟩
  have HCE := hide hce
  have hown : (w1.alloc (.cells #[c] 271)).ownsRow w.heap.size 271 1 (.slice (some ⟨w1.heap.size, 0, none⟩) 1 1) 1 [c] :=
    ⟨rfl, .inr ⟨w1.heap.size, 1, #[c], rfl, n1.size, blk_alloc _ _, Nat.le_refl _, by decide, rfl, rfl⟩⟩
  have hgg : (w1.alloc (.cells #[c] 271)).heap[g]? = some (.cells vs.toArray 271 (0, 0)) := (n1.alloc (.cells #[c] 271)).old hg (fun h => h)
  rw [hce] at hown hgg
  clear hce
  go_wp2_with (at_builtin; refine wpList_append_own _ rfl (.tmp 7) (.tmp 8) 226 rfl w.heap.size 271 i9 _ 1 b9 Tryz.underlying226 hi9 hz9 hz0 hz1 hz2 (by decide) _ _ _ rfl hown ⟨g, 0, none⟩ vs.length vs.length vs rfl (by rw [Nat.mul_one]) ?c1 h1 ?c3 ?c4 ?c5 ?_)
  case c1 => exact World.news_of_block (cs := vs.toArray) (fr := (0, 0)) hgg
  case c3 => unfold maxLen; omega
  case c4 => have := Nat.mul_le_mul (show 1 + vs.length ≤ 101 by omega) hb9; omega
  case c5 => have := n1.size; rw [World.size_alloc]; omega
  intro v' w5 hown5 hgrow5 _
  obtain ⟨wa, hwa⟩ : ∃ wa : World, wa = w1.alloc (.cells #[.func (.func 214) #[] #[.pointer (some ⟨p, 0, none⟩), .pointer (some ⟨q, 0, none⟩)]] 271) := ⟨_, rfl⟩
  have hal : New w1 wa := by rw [hwa]; exact (Upd.refl _ _).alloc _
  rw [← hwa] at hgrow5
  have hN : New w w5 := (n1.trans hal).grown hgrow5 (fun k hk hkk => by
    simp only [Value.ownBlock, Option.some.injEq] at hk
    have := n1.size
    omega)
  have u5 : Upd (fun k => k = w1.heap.size) wa w5 := (Upd.refl _ _).grown hgrow5 (fun k hk hkk => by
    simp only [Value.ownBlock, Option.some.injEq] at hk
    omega)
  have hc5 : FldV w.heap.size w5 c .ch := by
    exact ⟨p, q, unhide HCE, hp, hq, u5.cell (hal.cell cp (fun h => h)) (by show ¬ p = _; omega), u5.cell (hal.cell cq (fun h => h)) (by show ¬ q = _; omega)⟩
  rw [← unhide HCE] at hown5
  have HO := hide hown5
  have HC := hide hc5
  have HN := hide hN
  clear hown5 hgrow5 hc5 hN u5 hown hgg hal hwa
  go_wp2_with fail
  go_ret2
  exact ⟨_, c, rfl, unhide HN, unhide HO, unhide HC⟩
set_option maxRecDepth 100000 in
set_option maxHeartbeats 1000000 in
theorem list0_any (w : World) :
    Calls Tryz.prog 174 #[.slice none 0 0] w fun e w' => ∃ v c, e = .returned (.tuple #[v, .bool true]) ∧ New w w' ∧ w'.ownsRow w.heap.size 271 1 v 1 [c] ∧ FldV w.heap.size w' c .ch := by
  have hn := number32_any 4 203 w
  go_enter Tryz.func174, Tryz.ntmps174
  go_wp2_with fail
  refine hn.mono ?_
  rintro e w1 ⟨c, rfl, n1, p, q, rfl, hp, hq, cp, cq⟩
  clear hn
  go_wp2_with fail
  go_ret2
  have hal : New w1 (w1.alloc (.cells #[.func (.func 214) #[] #[.pointer (some ⟨p, 0, none⟩), .pointer (some ⟨q, 0, none⟩)]] 271)) := (Upd.refl _ _).alloc _
  exact ⟨_, _, rfl, n1.trans hal, ⟨rfl, .inr ⟨w1.heap.size, 1, _, rfl, n1.size, blk_alloc _ _, Nat.le_refl _, by decide, rfl, rfl⟩⟩, ⟨p, q, rfl, hp, hq, hal.cell cp (fun h => h), hal.cell cq (fun h => h)⟩⟩

end Go.Proofs.YtfmkdoachjgjbaaGreatDoor
