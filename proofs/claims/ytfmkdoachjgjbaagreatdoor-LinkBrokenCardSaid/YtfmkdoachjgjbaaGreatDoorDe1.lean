/-
  Fields of messages, read (printed by tools/mk_rdf.py).
-/
import Derived.Test.YtfmkdoachjgjbaaGreatDoorMdb
import Derived.Test.YtfmkdoachjgjbaaGreatDoorMdg
set_option linter.unusedVariables false
set_option linter.unusedSimpArgs false
namespace Go.Proofs.YtfmkdoachjgjbaaGreatDoor
open Go.RowKit

def passR (G : Nat) : Value := .agg #[.pointer none, .pointer (some ⟨G, 0, none⟩)]
/-- What a step throws that goes wrong. -/
def faultV (er : Int) : Value := .iface 265 (.agg #[.int .i64 er])
def Thrown (er : Int) (e : Ending) : Prop := e = .panicked [{ v := faultV er, recovered := false }]
set_option maxHeartbeats 1000000 in
theorem must_bad (er : Int) (h : (er != 0) = true) (w : World) : Calls Tryz.prog 135 #[.int .i64 er] w fun e w' => Thrown er e ∧ w = w' := by
  go_enter Tryz.func135, Tryz.ntmps135
  go_wp2_with fail

  exact ⟨rfl, rfl, rfl⟩
attribute [local go_sem ↓ high] ld_hsh_fold st_hsh_fold al_hsh_fold bd_hsh_fold
attribute [local go_sem] ld_hsh st_hsh al_hsh bd_hsh rowN_drew
set_option maxRecDepth 100000 in
set_option maxHeartbeats 1000000 in
theorem rdU64_ok (F : FuncId) (o A p q G n : Nat) (c : Value) (m m' : MsgV) (s : ByteArray) (w : World) (hE : ∀ args w, (callFunc F args).run Tryz.prog w = .ok (.enter F args) w) (hF : ∀ w, Calls Tryz.prog F #[.pointer (some ⟨A, 0, none⟩)] w (Reads (.pointer (some ⟨A, o, none⟩)) w)) (hp : w.cell? ⟨p, 0, none⟩ = some (.func (.func F) #[] #[])) (hq : w.cell? ⟨q, 0, none⟩ = some (.int .i64 (n : Int))) (hA : MsB w A m) (ho : m.cells[o]? = some c) (hG : Rd w G s) (hAG : A ≠ G) (hn : 1 ≤ n ∧ n ≤ 8) (hs : n ≤ s.size) (hm' : m.cells.toArray.setIfInBounds o (.int .u64 (rdN s n)) = m'.cells.toArray) (hl' : m'.hash.length = 32) :
    Calls Tryz.prog 200 #[passR G, .pointer (some ⟨A, 0, none⟩), .pointer (some ⟨p, 0, none⟩), .pointer (some ⟨q, 0, none⟩)] w fun e w' => e = .returned (.tuple #[]) ∧ Upd (fun k => k = A ∨ k = G) w w' ∧ MsB w' A m' ∧ Rd w' G (s.extract n s.size) := by
  skip
  unfold passR
  go_enter Tryz.func200, Tryz.ntmps200
  go_upto_region 1 with fail
  have n1 : New w (w.alloc (.cells #[.pointer none, .pointer (some ⟨G, 0, none⟩)] 234)) := (Upd.refl _ _).alloc _
  have hb := blk_alloc w (.cells #[.pointer none, .pointer (some ⟨G, 0, none⟩)] 234)
  generalize w.alloc (.cells #[.pointer none, .pointer (some ⟨G, 0, none⟩)] 234) = w1 at n1 hb ⊢
  generalize w.heap.size = B at hb ⊢
  have hp1 := n1.cell hp (fun h => h)
  have hq1 := n1.cell hq (fun h => h)
  have HA := hide (hA.new n1)
  have HB := hide hb
  have HG := hide (hG.new n1)
  have N1 := hide n1
  clear hb hp hA hG hq n1
  go_wp2_with fail
  refine (hF w1).mono ?_
  rintro e w2 ⟨rfl, q2⟩
  have hA2 := (unhide HA).new (q2.upd _)
  have d0 : w2.cell? ⟨B, 0, none⟩ = some (.pointer none) := q2.cell (blk_cell (unhide HB) 0)
  have d1 : w2.cell? ⟨B, 1, none⟩ = some (.pointer (some ⟨G, 0, none⟩)) := q2.cell (blk_cell (unhide HB) 1)
  have hq2 := q2.cell hq1
  have hG2 := (unhide HG).new (q2.upd _)
  have N2 := hide ((unhide N1).trans (q2.upd _))
  have HA2 := hide hA2
  have hcall := rnum_ok G n s w2 hG2 hn.1 hn.2 hs
  clear hA2 q2 hp1 HB HA HG N1 hG2 hq1
  go_wp2_with fail
  refine hcall.mono ?_
  rintro e w3 ⟨rfl, u3, hG3⟩
  have U3 := hide (((unhide N2).mono (fun _ _ h => h.elim)).trans (u3.mono (fun k _ e => (Or.inr e : k = A ∨ k = G))))
  have HA3 := hide ((unhide HA2).upd u3 hAG)
  have HG := hide hG3
  clear hcall N2 u3 hG3 HA2
  go_wp2_with fail
  refine (must_ok _).mono ?_
  rintro e w4 ⟨rfl, q4⟩
  have U4 := hide ((unhide U3).trans (q4.upd _))
  have HG := hide ((unhide HG).new (q4.upd _))
  have hA4 := (unhide HA3).new (q4.upd _)
  have co : w4.cell? ⟨A, o, none⟩ = some c := by rw [blk_cell hA4.at_, List.getElem?_toArray]; exact ho
  have fo : w4.frozen? ⟨A, o, none⟩ = false := blk_free hA4.at_ o
  have hst := blk_set hA4.at_ o (.int .u64 (rdN s n))
  rw [hm'] at hst
  have u5 : Upd (fun k => k = A) w4 (w4.setCell ⟨A, o, none⟩ (.int .u64 (rdN s n))) := (Upd.refl _ _).set1 _ _
  have HX := hide (And.intro (show MsB _ A m' from ⟨hst, hl'⟩) u5)
  clear U3 q4 hA4 HA3 hst u5
  go_wp2_with fail
  go_end0
  obtain ⟨h1, u5⟩ := unhide HX
  exact ⟨rfl, (unhide U4).trans (u5.mono (fun k _ e => .inl e)), h1, (unhide HG).upd u5 (fun e => hAG e.symm)⟩
set_option maxRecDepth 100000 in
set_option maxHeartbeats 1000000 in
theorem rdU64_bad (F : FuncId) (o A p q G n : Nat) (c : Value) (m : MsgV) (s : ByteArray) (w : World) (hE : ∀ args w, (callFunc F args).run Tryz.prog w = .ok (.enter F args) w) (hF : ∀ w, Calls Tryz.prog F #[.pointer (some ⟨A, 0, none⟩)] w (Reads (.pointer (some ⟨A, o, none⟩)) w)) (hp : w.cell? ⟨p, 0, none⟩ = some (.func (.func F) #[] #[])) (hq : w.cell? ⟨q, 0, none⟩ = some (.int .i64 (n : Int))) (hA : MsB w A m) (ho : m.cells[o]? = some c) (hG : Rd w G s) (hAG : A ≠ G) (hn : 1 ≤ n ∧ n ≤ 8) (hs : s.size < n) :
    Calls Tryz.prog 200 #[passR G, .pointer (some ⟨A, 0, none⟩), .pointer (some ⟨p, 0, none⟩), .pointer (some ⟨q, 0, none⟩)] w fun e w' => Thrown 10 e ∧ Upd (fun k => k = A ∨ k = G) w w' := by
  unfold passR
  go_enter Tryz.func200, Tryz.ntmps200
  go_upto_region 1 with fail
  have n1 : New w (w.alloc (.cells #[.pointer none, .pointer (some ⟨G, 0, none⟩)] 234)) := (Upd.refl _ _).alloc _
  have hb := blk_alloc w (.cells #[.pointer none, .pointer (some ⟨G, 0, none⟩)] 234)
  generalize w.alloc (.cells #[.pointer none, .pointer (some ⟨G, 0, none⟩)] 234) = w1 at n1 hb ⊢
  generalize w.heap.size = B at hb ⊢
  have hp1 := n1.cell hp (fun h => h)
  have hq1 := n1.cell hq (fun h => h)
  have HA := hide (hA.new n1)
  have HB := hide hb
  have HG := hide (hG.new n1)
  have N1 := hide n1
  clear hb hp hA hG hq n1
  go_wp2_with fail
  refine (hF w1).mono ?_
  rintro e w2 ⟨rfl, q2⟩
  have hA2 := (unhide HA).new (q2.upd _)
  have d0 : w2.cell? ⟨B, 0, none⟩ = some (.pointer none) := q2.cell (blk_cell (unhide HB) 0)
  have d1 : w2.cell? ⟨B, 1, none⟩ = some (.pointer (some ⟨G, 0, none⟩)) := q2.cell (blk_cell (unhide HB) 1)
  have hq2 := q2.cell hq1
  have hG2 := (unhide HG).new (q2.upd _)
  have N2 := hide ((unhide N1).trans (q2.upd _))
  have HA2 := hide hA2
  have hcall := rnum_short G n s w2 hG2 hn.1 hn.2 hs
  clear hA2 q2 hp1 HB HA HG N1 hG2 hq1
  go_wp2_with fail
  refine hcall.mono ?_
  rintro e w3 ⟨rfl, u3, hG3⟩
  have U3 := hide (((unhide N2).mono (fun _ _ h => h.elim)).trans (u3.mono (fun k _ e => (Or.inr e : k = A ∨ k = G))))
  clear hcall N2 u3 hG3 HA2
  go_wp2_with fail
  refine (must_bad 10 (by decide) _).mono ?_
  rintro e w4 ⟨rfl, rfl⟩
  exact ⟨rfl, rfl, unhide U3⟩
set_option maxRecDepth 100000 in
set_option maxHeartbeats 1000000 in
theorem rdI64_ok (F : FuncId) (o A p q G n : Nat) (c : Value) (m m' : MsgV) (s : ByteArray) (w : World) (hE : ∀ args w, (callFunc F args).run Tryz.prog w = .ok (.enter F args) w) (hF : ∀ w, Calls Tryz.prog F #[.pointer (some ⟨A, 0, none⟩)] w (Reads (.pointer (some ⟨A, o, none⟩)) w)) (hp : w.cell? ⟨p, 0, none⟩ = some (.func (.func F) #[] #[])) (hq : w.cell? ⟨q, 0, none⟩ = some (.int .i64 (n : Int))) (hA : MsB w A m) (ho : m.cells[o]? = some c) (hG : Rd w G s) (hAG : A ≠ G) (hn : 1 ≤ n ∧ n ≤ 8) (hs : n ≤ s.size) (hb : 0 ≤ rdN s n ∧ rdN s n < 4294967296) (hm' : m.cells.toArray.setIfInBounds o (.int .i64 (rdN s n)) = m'.cells.toArray) (hl' : m'.hash.length = 32) :
    Calls Tryz.prog 201 #[passR G, .pointer (some ⟨A, 0, none⟩), .pointer (some ⟨p, 0, none⟩), .pointer (some ⟨q, 0, none⟩)] w fun e w' => e = .returned (.tuple #[]) ∧ Upd (fun k => k = A ∨ k = G) w w' ∧ MsB w' A m' ∧ Rd w' G (s.extract n s.size) := by
  have hcv : IntKind.i64.wrap (rdN s n) = rdN s n := wrapI (by omega) (by omega)
  unfold passR
  go_enter Tryz.func201, Tryz.ntmps201
  go_upto_region 1 with fail
  have n1 : New w (w.alloc (.cells #[.pointer none, .pointer (some ⟨G, 0, none⟩)] 234)) := (Upd.refl _ _).alloc _
  have hb := blk_alloc w (.cells #[.pointer none, .pointer (some ⟨G, 0, none⟩)] 234)
  generalize w.alloc (.cells #[.pointer none, .pointer (some ⟨G, 0, none⟩)] 234) = w1 at n1 hb ⊢
  generalize w.heap.size = B at hb ⊢
  have hp1 := n1.cell hp (fun h => h)
  have hq1 := n1.cell hq (fun h => h)
  have HA := hide (hA.new n1)
  have HB := hide hb
  have HG := hide (hG.new n1)
  have N1 := hide n1
  clear hb hp hA hG hq n1
  go_wp2_with fail
  refine (hF w1).mono ?_
  rintro e w2 ⟨rfl, q2⟩
  have hA2 := (unhide HA).new (q2.upd _)
  have d0 : w2.cell? ⟨B, 0, none⟩ = some (.pointer none) := q2.cell (blk_cell (unhide HB) 0)
  have d1 : w2.cell? ⟨B, 1, none⟩ = some (.pointer (some ⟨G, 0, none⟩)) := q2.cell (blk_cell (unhide HB) 1)
  have hq2 := q2.cell hq1
  have hG2 := (unhide HG).new (q2.upd _)
  have N2 := hide ((unhide N1).trans (q2.upd _))
  have HA2 := hide hA2
  have hcall := rnum_ok G n s w2 hG2 hn.1 hn.2 hs
  clear hA2 q2 hp1 HB HA HG N1 hG2 hq1
  go_wp2_with fail
  refine hcall.mono ?_
  rintro e w3 ⟨rfl, u3, hG3⟩
  have U3 := hide (((unhide N2).mono (fun _ _ h => h.elim)).trans (u3.mono (fun k _ e => (Or.inr e : k = A ∨ k = G))))
  have HA3 := hide ((unhide HA2).upd u3 hAG)
  have HG := hide hG3
  clear hcall N2 u3 hG3 HA2
  go_wp2_with fail
  refine (must_ok _).mono ?_
  rintro e w4 ⟨rfl, q4⟩
  have U4 := hide ((unhide U3).trans (q4.upd _))
  have HG := hide ((unhide HG).new (q4.upd _))
  have hA4 := (unhide HA3).new (q4.upd _)
  have co : w4.cell? ⟨A, o, none⟩ = some c := by rw [blk_cell hA4.at_, List.getElem?_toArray]; exact ho
  have fo : w4.frozen? ⟨A, o, none⟩ = false := blk_free hA4.at_ o
  have hst := blk_set hA4.at_ o (.int .i64 (rdN s n))
  rw [hm'] at hst
  have u5 : Upd (fun k => k = A) w4 (w4.setCell ⟨A, o, none⟩ (.int .i64 (rdN s n))) := (Upd.refl _ _).set1 _ _
  have HX := hide (And.intro (show MsB _ A m' from ⟨hst, hl'⟩) u5)
  clear U3 q4 hA4 HA3 hst u5
  go_wp2_with fail
  go_end0
  obtain ⟨h1, u5⟩ := unhide HX
  exact ⟨rfl, (unhide U4).trans (u5.mono (fun k _ e => .inl e)), h1, (unhide HG).upd u5 (fun e => hAG e.symm)⟩
set_option maxRecDepth 100000 in
set_option maxHeartbeats 1000000 in
theorem rdI64_bad (F : FuncId) (o A p q G n : Nat) (c : Value) (m : MsgV) (s : ByteArray) (w : World) (hE : ∀ args w, (callFunc F args).run Tryz.prog w = .ok (.enter F args) w) (hF : ∀ w, Calls Tryz.prog F #[.pointer (some ⟨A, 0, none⟩)] w (Reads (.pointer (some ⟨A, o, none⟩)) w)) (hp : w.cell? ⟨p, 0, none⟩ = some (.func (.func F) #[] #[])) (hq : w.cell? ⟨q, 0, none⟩ = some (.int .i64 (n : Int))) (hA : MsB w A m) (ho : m.cells[o]? = some c) (hG : Rd w G s) (hAG : A ≠ G) (hn : 1 ≤ n ∧ n ≤ 8) (hs : s.size < n) :
    Calls Tryz.prog 201 #[passR G, .pointer (some ⟨A, 0, none⟩), .pointer (some ⟨p, 0, none⟩), .pointer (some ⟨q, 0, none⟩)] w fun e w' => Thrown 10 e ∧ Upd (fun k => k = A ∨ k = G) w w' := by
  unfold passR
  go_enter Tryz.func201, Tryz.ntmps201
  go_upto_region 1 with fail
  have n1 : New w (w.alloc (.cells #[.pointer none, .pointer (some ⟨G, 0, none⟩)] 234)) := (Upd.refl _ _).alloc _
  have hb := blk_alloc w (.cells #[.pointer none, .pointer (some ⟨G, 0, none⟩)] 234)
  generalize w.alloc (.cells #[.pointer none, .pointer (some ⟨G, 0, none⟩)] 234) = w1 at n1 hb ⊢
  generalize w.heap.size = B at hb ⊢
  have hp1 := n1.cell hp (fun h => h)
  have hq1 := n1.cell hq (fun h => h)
  have HA := hide (hA.new n1)
  have HB := hide hb
  have HG := hide (hG.new n1)
  have N1 := hide n1
  clear hb hp hA hG hq n1
  go_wp2_with fail
  refine (hF w1).mono ?_
  rintro e w2 ⟨rfl, q2⟩
  have hA2 := (unhide HA).new (q2.upd _)
  have d0 : w2.cell? ⟨B, 0, none⟩ = some (.pointer none) := q2.cell (blk_cell (unhide HB) 0)
  have d1 : w2.cell? ⟨B, 1, none⟩ = some (.pointer (some ⟨G, 0, none⟩)) := q2.cell (blk_cell (unhide HB) 1)
  have hq2 := q2.cell hq1
  have hG2 := (unhide HG).new (q2.upd _)
  have N2 := hide ((unhide N1).trans (q2.upd _))
  have HA2 := hide hA2
  have hcall := rnum_short G n s w2 hG2 hn.1 hn.2 hs
  clear hA2 q2 hp1 HB HA HG N1 hG2 hq1
  go_wp2_with fail
  refine hcall.mono ?_
  rintro e w3 ⟨rfl, u3, hG3⟩
  have U3 := hide (((unhide N2).mono (fun _ _ h => h.elim)).trans (u3.mono (fun k _ e => (Or.inr e : k = A ∨ k = G))))
  clear hcall N2 u3 hG3 HA2
  go_wp2_with fail
  refine (must_bad 10 (by decide) _).mono ?_
  rintro e w4 ⟨rfl, rfl⟩
  exact ⟨rfl, rfl, unhide U3⟩
set_option maxRecDepth 100000 in
set_option maxHeartbeats 1000000 in
theorem rdU32_ok (F : FuncId) (o A p q G n : Nat) (c : Value) (m m' : MsgV) (s : ByteArray) (w : World) (hE : ∀ args w, (callFunc F args).run Tryz.prog w = .ok (.enter F args) w) (hF : ∀ w, Calls Tryz.prog F #[.pointer (some ⟨A, 0, none⟩)] w (Reads (.pointer (some ⟨A, o, none⟩)) w)) (hp : w.cell? ⟨p, 0, none⟩ = some (.func (.func F) #[] #[])) (hq : w.cell? ⟨q, 0, none⟩ = some (.int .i64 (n : Int))) (hA : MsB w A m) (ho : m.cells[o]? = some c) (hG : Rd w G s) (hAG : A ≠ G) (hn : 1 ≤ n ∧ n ≤ 8) (hs : n ≤ s.size) (hb : 0 ≤ rdN s n ∧ rdN s n < 4294967296) (hm' : m.cells.toArray.setIfInBounds o (.int .u32 (rdN s n)) = m'.cells.toArray) (hl' : m'.hash.length = 32) :
    Calls Tryz.prog 214 #[passR G, .pointer (some ⟨A, 0, none⟩), .pointer (some ⟨p, 0, none⟩), .pointer (some ⟨q, 0, none⟩)] w fun e w' => e = .returned (.tuple #[]) ∧ Upd (fun k => k = A ∨ k = G) w w' ∧ MsB w' A m' ∧ Rd w' G (s.extract n s.size) := by
  have hcv : IntKind.u32.wrap (rdN s n) = rdN s n := by rw [IntKind.wrap_u32]; omega
  unfold passR
  go_enter Tryz.func214, Tryz.ntmps214
  go_upto_region 1 with fail
  have n1 : New w (w.alloc (.cells #[.pointer none, .pointer (some ⟨G, 0, none⟩)] 234)) := (Upd.refl _ _).alloc _
  have hb := blk_alloc w (.cells #[.pointer none, .pointer (some ⟨G, 0, none⟩)] 234)
  generalize w.alloc (.cells #[.pointer none, .pointer (some ⟨G, 0, none⟩)] 234) = w1 at n1 hb ⊢
  generalize w.heap.size = B at hb ⊢
  have hp1 := n1.cell hp (fun h => h)
  have hq1 := n1.cell hq (fun h => h)
  have HA := hide (hA.new n1)
  have HB := hide hb
  have HG := hide (hG.new n1)
  have N1 := hide n1
  clear hb hp hA hG hq n1
  go_wp2_with fail
  refine (hF w1).mono ?_
  rintro e w2 ⟨rfl, q2⟩
  have hA2 := (unhide HA).new (q2.upd _)
  have d0 : w2.cell? ⟨B, 0, none⟩ = some (.pointer none) := q2.cell (blk_cell (unhide HB) 0)
  have d1 : w2.cell? ⟨B, 1, none⟩ = some (.pointer (some ⟨G, 0, none⟩)) := q2.cell (blk_cell (unhide HB) 1)
  have hq2 := q2.cell hq1
  have hG2 := (unhide HG).new (q2.upd _)
  have N2 := hide ((unhide N1).trans (q2.upd _))
  have HA2 := hide hA2
  have hcall := rnum_ok G n s w2 hG2 hn.1 hn.2 hs
  clear hA2 q2 hp1 HB HA HG N1 hG2 hq1
  go_wp2_with fail
  refine hcall.mono ?_
  rintro e w3 ⟨rfl, u3, hG3⟩
  have U3 := hide (((unhide N2).mono (fun _ _ h => h.elim)).trans (u3.mono (fun k _ e => (Or.inr e : k = A ∨ k = G))))
  have HA3 := hide ((unhide HA2).upd u3 hAG)
  have HG := hide hG3
  clear hcall N2 u3 hG3 HA2
  go_wp2_with fail
  refine (must_ok _).mono ?_
  rintro e w4 ⟨rfl, q4⟩
  have U4 := hide ((unhide U3).trans (q4.upd _))
  have HG := hide ((unhide HG).new (q4.upd _))
  have hA4 := (unhide HA3).new (q4.upd _)
  have co : w4.cell? ⟨A, o, none⟩ = some c := by rw [blk_cell hA4.at_, List.getElem?_toArray]; exact ho
  have fo : w4.frozen? ⟨A, o, none⟩ = false := blk_free hA4.at_ o
  have hst := blk_set hA4.at_ o (.int .u32 (rdN s n))
  rw [hm'] at hst
  have u5 : Upd (fun k => k = A) w4 (w4.setCell ⟨A, o, none⟩ (.int .u32 (rdN s n))) := (Upd.refl _ _).set1 _ _
  have HX := hide (And.intro (show MsB _ A m' from ⟨hst, hl'⟩) u5)
  clear U3 q4 hA4 HA3 hst u5
  go_wp2_with fail
  go_end0
  obtain ⟨h1, u5⟩ := unhide HX
  exact ⟨rfl, (unhide U4).trans (u5.mono (fun k _ e => .inl e)), h1, (unhide HG).upd u5 (fun e => hAG e.symm)⟩
set_option maxRecDepth 100000 in
set_option maxHeartbeats 1000000 in
theorem rdU32_bad (F : FuncId) (o A p q G n : Nat) (c : Value) (m : MsgV) (s : ByteArray) (w : World) (hE : ∀ args w, (callFunc F args).run Tryz.prog w = .ok (.enter F args) w) (hF : ∀ w, Calls Tryz.prog F #[.pointer (some ⟨A, 0, none⟩)] w (Reads (.pointer (some ⟨A, o, none⟩)) w)) (hp : w.cell? ⟨p, 0, none⟩ = some (.func (.func F) #[] #[])) (hq : w.cell? ⟨q, 0, none⟩ = some (.int .i64 (n : Int))) (hA : MsB w A m) (ho : m.cells[o]? = some c) (hG : Rd w G s) (hAG : A ≠ G) (hn : 1 ≤ n ∧ n ≤ 8) (hs : s.size < n) :
    Calls Tryz.prog 214 #[passR G, .pointer (some ⟨A, 0, none⟩), .pointer (some ⟨p, 0, none⟩), .pointer (some ⟨q, 0, none⟩)] w fun e w' => Thrown 10 e ∧ Upd (fun k => k = A ∨ k = G) w w' := by
  unfold passR
  go_enter Tryz.func214, Tryz.ntmps214
  go_upto_region 1 with fail
  have n1 : New w (w.alloc (.cells #[.pointer none, .pointer (some ⟨G, 0, none⟩)] 234)) := (Upd.refl _ _).alloc _
  have hb := blk_alloc w (.cells #[.pointer none, .pointer (some ⟨G, 0, none⟩)] 234)
  generalize w.alloc (.cells #[.pointer none, .pointer (some ⟨G, 0, none⟩)] 234) = w1 at n1 hb ⊢
  generalize w.heap.size = B at hb ⊢
  have hp1 := n1.cell hp (fun h => h)
  have hq1 := n1.cell hq (fun h => h)
  have HA := hide (hA.new n1)
  have HB := hide hb
  have HG := hide (hG.new n1)
  have N1 := hide n1
  clear hb hp hA hG hq n1
  go_wp2_with fail
  refine (hF w1).mono ?_
  rintro e w2 ⟨rfl, q2⟩
  have hA2 := (unhide HA).new (q2.upd _)
  have d0 : w2.cell? ⟨B, 0, none⟩ = some (.pointer none) := q2.cell (blk_cell (unhide HB) 0)
  have d1 : w2.cell? ⟨B, 1, none⟩ = some (.pointer (some ⟨G, 0, none⟩)) := q2.cell (blk_cell (unhide HB) 1)
  have hq2 := q2.cell hq1
  have hG2 := (unhide HG).new (q2.upd _)
  have N2 := hide ((unhide N1).trans (q2.upd _))
  have HA2 := hide hA2
  have hcall := rnum_short G n s w2 hG2 hn.1 hn.2 hs
  clear hA2 q2 hp1 HB HA HG N1 hG2 hq1
  go_wp2_with fail
  refine hcall.mono ?_
  rintro e w3 ⟨rfl, u3, hG3⟩
  have U3 := hide (((unhide N2).mono (fun _ _ h => h.elim)).trans (u3.mono (fun k _ e => (Or.inr e : k = A ∨ k = G))))
  clear hcall N2 u3 hG3 HA2
  go_wp2_with fail
  refine (must_bad 10 (by decide) _).mono ?_
  rintro e w4 ⟨rfl, rfl⟩
  exact ⟨rfl, rfl, unhide U3⟩
end Go.Proofs.YtfmkdoachjgjbaaGreatDoor
