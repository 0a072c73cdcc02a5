/-
  The evaluator's rows, maps made; maps read and written; lengths; ways through maps and texts; assertions.
-/
import Derived.Test.YtjckpgcmfieaoaaGreatDoorAvB
namespace Go.Proofs.YtjckpgcmfieaoaaGreatDoor
open Go.RowKit

section
variable {P : Program} {w0 : World} {β : EMp} {s s' : ESt} {w : World}
theorem zero_val {e : TypeId} {i : TypeInfo} {zv : EV} (hi : eInfo P e = some i) (hz : eZero P e = zv) (hb : zv ≠ .bot) (β : EMp) : ∃ q, i.zero = some q ∧ VR β zv q := by
  unfold eZero at hz
  rw [hi] at hz
  simp only at hz
  cases hq : i.zero with
  | none => rw [hq] at hz; exact absurd hz.symm hb
  | some q => rw [hq] at hz; exact ⟨q, rfl, hz ▸ eVal_VR β q⟩
/-- A row laid out. -/
theorem buildSlice_run {t e : TypeId} {i : TypeInfo} {zv : EV} {len : Nat} {ps : Array (Nat × Operand)} {tm : ERg} {ρ : Operand → Value} {l : List EV} (hw : w0.heap.size ≤ w.heap.size) (ht : eDesc P t = some (.slice e)) (hi : eInfo P e = some i) (hz : eZero P e = zv) (hb : zv ≠ .bot) (hzl : zv.cells.length = i.size) (hle : len * i.size ≤ 10000)
    (hρ : ∀ p ∈ ps.toList, VR β ((eEvC p.2).f tm) (ρ p.2)) (hf : eFill (fun j => some (j * i.size, i.size)) (eEvps ps.toList tm) (eRepl zv.cells len) = some l) :
    ∃ v w' loc, (Instr.buildSlice t len (ps.map fun (x : Nat × Operand) => (x.1, ρ x.2))).run P w = .ok v w' ∧ FreshOk w0 β (.row l.length (eRow l 0 .e)) (fun b => .sl (some (b, 0)) len len 0) w v w' loc := by
  obtain ⟨q, hq, hqv⟩ := zero_val hi hz hb β
  have hqc := hqv.cells hb
  have hqs : q.cells.size = i.size := by rw [← hzl, hqc.len, Array.length_toList]
  have hrep := eRepl_VRs hqc len
  rw [hqs] at hrep
  obtain ⟨b, g1, g2, g3⟩ := eFill_run (place' := fun j => some (j * i.size, i.size)) (fun _ _ h => h) (ps := eEvps ps.toList tm) (qs := (ps.map fun (x : Nat × Operand) => (x.1, ρ x.2)).toList) (by rw [(eEvps_get ρ tm _).1]; simp) (fun j p q e1 e2 => by
    rw [Array.toList_map] at e2
    obtain ⟨y, hy, rfl, rfl⟩ := (eEvps_get ρ tm _).2 j p q e1 e2
    exact ⟨rfl, hρ y hy⟩) hrep hf
  have hrow := rowOk (w0 := w0) (w := w) hw g2 [] e (f := fun b => .sl (some (b, 0)) len len 0) (v := .slice (some ⟨w.heap.size, 0, none⟩) len len) fun β' b _ hb => by
    have := VR.sl (β := β') (b := b) (o := 0) (len := len) (cap := len) (cap' := len) (z := 0) hb (fun _ => rfl) fun e => absurd rfl e
    simpa using this
  rw [List.append_nil] at hrow
  have hb2 : b.toList.toArray = b := by simp
  rw [hb2] at hrow
  refine ⟨_, _, _, ?_, hrow⟩
  by_cases h0 : len * i.size = 0
  · have hu := run_underlying (eDesc_eq ht) w
    have hs := eInfo_run hi w
    rw [h0] at g1
    have hr0 : Array.range 0 = #[] := rfl
    rw [hr0] at g1
    simp only [Array.map_empty] at g1
    simp [Instr.buildSlice, hu, hs.2, h0, newRow, hr0]
    have g1' : Instr.fill (fun j => some (j * i.size, i.size)) #[] (List.map (fun x => (x.fst, ρ x.snd)) ps.toList) = some b := by simpa using g1
    rw [g1']
    rfl
  · exact run_buildSlice w t e len _ b i q (eDesc_eq ht) (eInfo_eq hi) hq (by omega) h0 (by rw [← hqs] at g1 ⊢; simpa using g1)
/-- An empty map. -/
theorem mapOk (hw : w0.heap.size ≤ w.heap.size) : FreshOk w0 β (.map [] 0) (fun b => .map (some b)) w (.map (some w.heap.size)) (w.alloc (.map #[] 0)) ⟨w.heap.size, 0, 0⟩ :=
  ⟨(Upd.refl _ _).alloc _, Nat.le_refl _, fun β' b _ hb => ⟨.map hb, hw, #[], blk_alloc _ _, .nil⟩⟩
/-- 'make' of a row. -/
theorem makeSlice_run {t e : TypeId} {i : TypeInfo} {zv : EV} {l c : Nat} {k1 k2 : IntKind} (hw : w0.heap.size ≤ w.heap.size) (ht : eDesc P t = some (.slice e)) (hi : eInfo P e = some i) (hz : eZero P e = zv) (hb : zv ≠ .bot) (hzl : zv.cells.length = i.size)
    (h1 : l ≤ c) (h2 : c ≤ 1000000) (h3 : i.bytes * c ≤ 1000000000) :
    ∃ v w' loc, (Instr.makeSlice t (.int k1 (l : Nat)) (.int k2 (c : Nat))).run P w = .ok v w' ∧ FreshOk w0 β (.row (eRepl zv.cells c).length (eRow (eRepl zv.cells c) 0 .e)) (fun b => .sl (some (b, 0)) l c 0) w v w' loc := by
  obtain ⟨q, hq, hqv⟩ := zero_val hi hz hb β
  have hqc := hqv.cells hb
  have hqs : q.cells.size = i.size := by rw [← hzl, hqc.len, Array.length_toList]
  have hrep := eRepl_VRs hqc c
  have hrow := rowOk (w0 := w0) (w := w) hw hrep [] e (f := fun b => .sl (some (b, 0)) l c 0) (v := .slice (some ⟨w.heap.size, 0, none⟩) l c) fun β' b _ hb => by
    have := VR.sl (β := β') (b := b) (o := 0) (len := l) (cap := c) (cap' := c) (z := 0) hb (fun _ => rfl) fun e => absurd rfl e
    simpa using this
  rw [List.append_nil] at hrow
  have hb2 : ∀ b : Array Value, b.toList.toArray = b := fun b => by simp
  rw [hb2, hqs] at hrow
  refine ⟨_, _, _, ?_, hrow⟩
  have hu := run_underlying (eDesc_eq ht) w
  have hs := eInfo_run hi w
  have wrap : ∀ n : Nat, n ≤ 1000000 → IntKind.i64.wrap (n : Int) = n := fun n hn => by
    rw [IntKind.wrap_i64]
    omega
  have e1 : ¬ ((c : Int) < 0) := by omega
  have e2 : ¬ ((l : Int) < 0) := by omega
  have e3 : ¬ (281474976710656 < (i.bytes : Int) * (c : Int)) := by
    have : ((i.bytes * c : Nat) : Int) ≤ 1000000000 := by omega
    rw [Int.natCast_mul] at this
    omega
  have e4 : ¬ ((c : Int) < (l : Int)) := by omega
  have hr0 : Array.range 0 = #[] := rfl
  by_cases h0 : c * i.size = 0
  · rw [h0, hr0]
    simp [Instr.makeSlice, hu, hs.1, hs.2, asInt, asIntOf, wrap c h2, wrap l (by omega), e1, e2, e3, e4, h0, newRow, hr0]
  · simp [Instr.makeSlice, hu, hs.1, hs.2, asInt, asIntOf, wrap c h2, wrap l (by omega), e1, e2, e3, e4, h0, newRow, zeroValue, hq, hqs]
end
end Go.Proofs.YtjckpgcmfieaoaaGreatDoor
