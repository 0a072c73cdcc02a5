/-
  Package octet: the reader's Hash.
-/
import Derived.Test.YtfmkdoachjgjbaaGreatDoorMef
import Derived.Test.YtfmkdoachjgjbaaGreatDoorMcc
import Derived.Lib.LazyBuf
set_option linter.unusedVariables false
set_option linter.unusedSimpArgs false
namespace Go.Proofs.YtfmkdoachjgjbaaGreatDoor
open Go.RowKit

attribute [local go_sem ↓ high] ld_hsh_fold st_hsh_fold al_hsh_fold bd_hsh_fold
attribute [local go_sem] ld_hsh st_hsh al_hsh bd_hsh rowN_drew
set_option maxRecDepth 100000 in
set_option maxHeartbeats 1000000 in
theorem rhash_ok (g : Nat) (s : ByteArray) (w : World) (h : Rd w g s) (hs : 32 ≤ s.size) :
    Calls Tryz.prog 204 #[.pointer (some ⟨g, 0, none⟩)] w fun e w' => e = .returned (.tuple #[.agg (hshV (rdH s)).toArray, .int .i64 0]) ∧ Upd (fun k => k = g) w w' ∧ Rd w' g (s.extract 32 s.size) := by
  have hmf : ∀ (fn : Fn) (first cap : Array Value) (w : World), (Instr.makeFunc fn first cap).run Tryz.prog w = .ok (.func fn first cap) w := fun _ _ _ _ => rfl
  have hgl := h.lt
  go_enter_defers Tryz.func204, Tryz.ntmps204
  go_upto_region 1 with fail
  have n0 : New w (w.alloc (.cells (hshV z32i).toArray 35)) := (Upd.refl _ _).alloc _
  have hA := blk_alloc w (.cells (hshV z32i).toArray 35)
  have z0 : (w.alloc (.cells (hshV z32i).toArray 35)).heap.size = w.heap.size + 1 := World.size_alloc _ _
  have hH := h.new n0
  generalize w.alloc (.cells (hshV z32i).toArray 35) = w0 at n0 hA z0 hH ⊢
  have n1 : New w0 (w0.alloc (.cells #[.int .i64 0] 26)) := (Upd.refl _ _).alloc _
  have hE := blk_alloc w0 (.cells #[.int .i64 0] 26)
  replace hA := n1.old hA (fun h => h)
  replace hH := hH.new n1
  rw [z0] at hE
  generalize w0.alloc (.cells #[.int .i64 0] 26) = w1 at n1 hE hA hH ⊢
  have hgA : g ≠ w.heap.size := by omega
  have hgE : g ≠ w.heap.size + 1 := by omega
  have hAE : w.heap.size ≠ w.heap.size + 1 := by omega
  obtain ⟨A, hAe⟩ : ∃ A, A = w.heap.size := ⟨_, rfl⟩
  obtain ⟨E, hEe⟩ : ∃ E, E = A + 1 := ⟨_, rfl⟩
  rw [← hAe] at hA hE hgA hgE hAE ⊢
  rw [← hEe] at hE hgE hAE ⊢
  have HEe := hide (And.intro hAe hEe)
  have HA := hide hA
  have HEb := hide hE
  have N1 := hide (n0.trans n1)
  clear hAe hEe hE hA n0 n1 h z0
  go_wp2_with fail
  refine (back_any g E s w1 hH).mono ?_
  rintro e w2 ⟨p, q, r, rfl, n2, hB, ge1, ge2, ge3⟩
  have HB := hide (And.intro hB (And.intro ge1 (And.intro ge2 ge3)))
  have hE2 := n2.old (unhide HEb) (fun h => h)
  have hA2 := n2.old (unhide HA) (fun h => h)
  have hR2 := hH.new n2
  have N2 := hide ((unhide N1).trans n2)
  have hEl := blk_lt (unhide HEb)
  clear hB hH ge1 ge2 ge3 n2
  go_wp2_with fail
  refine (take_ok g 32 s w2 hR2 hs).mono ?_
  rintro e w3 ⟨rfl, rfl⟩
  have hR3 := hR2.set (s.extract 32 s.size)
  have u3 : Upd (fun k => k = g) w2 (w2.setCell ⟨g, 0, none⟩ (.string (s.extract 32 s.size))) := (Upd.refl _ _).set1 _ _
  have hE3 := u3.old hE2 (fun e => hgE e.symm)
  have hA3 := u3.old hA2 (fun e => hgA e.symm)
  generalize w2.setCell ⟨g, 0, none⟩ (.string (s.extract 32 s.size)) = w3 at hR3 u3 hE3 hA3 ⊢
  have c3 := blk_cell hE3 0
  have f3 := blk_free hE3 0
  have hE4 := blk_set hE3 0 (.int .i64 0)
  have u4 : Upd (fun k => k = E) w3 (w3.setCell ⟨E, 0, none⟩ (.int .i64 0)) := (Upd.refl _ _).set1 _ _
  have hA4 := u4.old hA3 hAE
  have hcp := hash_cells s hs
  have hqz : (s.extract 0 32).size = 32 := by rw [ByteArray.size_extract]; omega
  generalize s.extract 0 32 = x at hqz hcp ⊢
  have HU := hide (And.intro u3 (And.intro u4 (And.intro hE4 hA4)))
  have HR := hide hR3
  clear hE2 hR2 hR3 u3 hE3 u4 hE4 hA2 hA3 hA4
  go_upto_region 3 with fail
  generalize w3.setCell ⟨E, 0, none⟩ (.int .i64 0) = w4 at HU ⊢
  have c4 : w4.cell? ⟨E, 0, none⟩ = some (.int .i64 0) := blk_cell (unhide HU).2.2.1 0
  clear c3 f3
  obtain ⟨u3, u4, hE4, hA4⟩ := unhide HU
  have hcl : ∀ j, j < x.size → (w4.cell? ⟨A, 0 + j, none⟩).isSome = true := fun j hj => by
    rw [Nat.zero_add, blk_cell hA4 j, List.getElem?_toArray, List.getElem?_eq_getElem (by rw [hshV_len, z32i_len]; omega)]
    rfl
  have hfz : ∀ j, j < x.size → w4.frozen? ⟨A, 0 + j, none⟩ = false := fun j hj => blk_free hA4 _
  have hA5 := (HsB.mk hA4 z32i_len).put (rdH s) (rdH_len s)
  have u5 : Upd (· = A) w4 (w4.setCells A 0 (hshV (rdH s))) := upd_sets _
  have hE5 := u5.old hE4 (fun e => hAE e.symm)
  have hrun := run_copy_string (P := Tryz.prog) w4 95 9 3 5 A 0 32 32 x Tryz.underlying95 (fun w => by kernel_rfl) (by omega) hcl hfz
  rw [hcp] at hrun
  clear u3 u4 hE4 hA4
  go_upto_region 6 with fail
  generalize w4.setCells A 0 (hshV (rdH s)) = w5 at hA5 u5 hE5 ⊢
  have rA := hA5.row
  have stA := hA5.stOk (rdH s) (rdH_len s)
  have hA6 := hA5.put (rdH s) (rdH_len s)
  have u6 : Upd (· = A) w5 (w5.setCells A 0 (hshV (rdH s))) := upd_sets _
  have hE6 := u6.old hE5 (fun e => hAE e.symm)
  have e6 : (w5.setCells A 0 (hshV (rdH s))).cell? ⟨E, 0, none⟩ = some (.int .i64 0) := blk_cell hE6 0
  have f6 : (w5.setCells A 0 (hshV (rdH s))).frozen? ⟨E, 0, none⟩ = false := blk_free hE6 0
  have HV := hide (And.intro u5 (And.intro u6 (And.intro hA6 hE6)))
  clear hcl hfz hA5 u5 hE5 hA6 u6 hE6 c4 hcp hqz
  go_wp2_with fail
  obtain ⟨u5, u6, hA6, hE6⟩ := unhide HV
  obtain ⟨u3, u4, -, -⟩ := unhide HU
  obtain ⟨hB, ge1, ge2, ge3⟩ := unhide HB
  obtain ⟨hz1, hz2⟩ := unhide HEe
  have hAl := blk_lt (unhide HA)
  have hE7 := blk_set hE6 0 (.int .i64 0)
  have u7 : Upd (· = E) (w5.setCells A 0 (hshV (rdH s))) ((w5.setCells A 0 (hshV (rdH s))).setCell ⟨E, 0, none⟩ (.int .i64 0)) := (Upd.refl _ _).set1 _ _
  have hA7 := hA6.upd u7 hAE
  have hR7 : Rd ((w5.setCells A 0 (hshV (rdH s))).setCell ⟨E, 0, none⟩ (.int .i64 0)) g (s.extract 32 s.size) := ((((unhide HR).upd u4 hgE).upd u5 hgA).upd u6 hgA).upd u7 hgE
  have u27 : Upd (fun k => k = g ∨ k = A ∨ k = E) w2 ((w5.setCells A 0 (hshV (rdH s))).setCell ⟨E, 0, none⟩ (.int .i64 0)) := ((((u3.mono (fun k _ e => (Or.inl e : k = g ∨ k = A ∨ k = E))).trans (u4.mono (fun k _ e => .inr (.inr e)))).trans (u5.mono (fun k _ e => .inr (.inl e)))).trans (u6.mono (fun k _ e => .inr (.inl e)))).trans (u7.mono (fun k _ e => .inr (.inr e)))
  generalize (w5.setCells A 0 (hshV (rdH s))).setCell ⟨E, 0, none⟩ (.int .i64 0) = w7 at hE7 hA7 hR7 u27 ⊢
  have c7 : w7.cell? ⟨E, 0, none⟩ = some (.int .i64 0) := blk_cell hE7 0
  have rA7 := hA7.row
  have hB7 := hB.upd u27 (by omega) (by omega) (by omega)
  have hU : Upd (fun k => k = g) w w7 := ((unhide N2).mono (fun _ _ h => h.elim)).then u27 (fun k hk e => by omega)
  refine leaves_cons (f := 199) (args := #[.pointer (some ⟨p, 0, none⟩), .pointer (some ⟨q, 0, none⟩), .pointer (some ⟨r, 0, none⟩)]) (by simp) (by simp [go_sem]) ?_
  refine (back_idle g E p q r s _ w7 hB7 c7).mono ?_
  rintro e u' w'' ⟨rfl, rfl, rfl⟩
  have hlv := run_loadVar_row (P := Tryz.prog) w7 A 35 35 (hshV (rdH s)).toArray (0, 0) _ hA7.at_ Tryz.underlying35 rfl (by rw [List.size_toArray, hshV_len, rdH_len]; exact Tryz.infoHsh)
  refine ⟨.tuple #[.agg (hshV (rdH s)).toArray, .int .i64 0], ?_, rfl, hU, hR7⟩
  have hle : (loadVar 26 ⟨E, 0, none⟩).run Tryz.prog w7 = .ok (.int .i64 0) w7 := by
    simp [go_sem, loadVar, c7]
  simp [results, Tryz.results204, asAddr, hlv, hle, Result.andThen]
set_option maxRecDepth 100000 in
set_option maxHeartbeats 1000000 in
theorem rhash_short (g : Nat) (s : ByteArray) (w : World) (h : Rd w g s) (hs : s.size < 32) :
    Calls Tryz.prog 204 #[.pointer (some ⟨g, 0, none⟩)] w fun e w' => e = .returned (.tuple #[.agg (hshV z32i).toArray, .int .i64 10]) ∧ Upd (fun k => k = g) w w' ∧ Rd w' g s := by
  have hmf : ∀ (fn : Fn) (first cap : Array Value) (w : World), (Instr.makeFunc fn first cap).run Tryz.prog w = .ok (.func fn first cap) w := fun _ _ _ _ => rfl
  have hgl := h.lt
  go_enter_defers Tryz.func204, Tryz.ntmps204
  go_upto_region 1 with fail
  have n0 : New w (w.alloc (.cells (hshV z32i).toArray 35)) := (Upd.refl _ _).alloc _
  have hA := blk_alloc w (.cells (hshV z32i).toArray 35)
  have z0 : (w.alloc (.cells (hshV z32i).toArray 35)).heap.size = w.heap.size + 1 := World.size_alloc _ _
  have hH := h.new n0
  generalize w.alloc (.cells (hshV z32i).toArray 35) = w0 at n0 hA z0 hH ⊢
  have n1 : New w0 (w0.alloc (.cells #[.int .i64 0] 26)) := (Upd.refl _ _).alloc _
  have hE := blk_alloc w0 (.cells #[.int .i64 0] 26)
  replace hA := n1.old hA (fun h => h)
  replace hH := hH.new n1
  rw [z0] at hE
  generalize w0.alloc (.cells #[.int .i64 0] 26) = w1 at n1 hE hA hH ⊢
  have hgA : g ≠ w.heap.size := by omega
  have hgE : g ≠ w.heap.size + 1 := by omega
  have hAE : w.heap.size ≠ w.heap.size + 1 := by omega
  obtain ⟨A, hAe⟩ : ∃ A, A = w.heap.size := ⟨_, rfl⟩
  obtain ⟨E, hEe⟩ : ∃ E, E = A + 1 := ⟨_, rfl⟩
  rw [← hAe] at hA hE hgA hgE hAE ⊢
  rw [← hEe] at hE hgE hAE ⊢
  have HEe := hide (And.intro hAe hEe)
  have HA := hide hA
  have HEb := hide hE
  have N1 := hide (n0.trans n1)
  clear hAe hEe hE hA n0 n1 h z0
  go_wp2_with fail
  refine (back_any g E s w1 hH).mono ?_
  rintro e w2 ⟨p, q, r, rfl, n2, hB, ge1, ge2, ge3⟩
  have HB := hide (And.intro hB (And.intro ge1 (And.intro ge2 ge3)))
  have hE2 := n2.old (unhide HEb) (fun h => h)
  have hA2 := n2.old (unhide HA) (fun h => h)
  have hR2 := hH.new n2
  have N2 := hide ((unhide N1).trans n2)
  have hEl := blk_lt (unhide HEb)
  clear hB hH ge1 ge2 ge3 n2
  go_wp2_with fail
  refine (take_short g 32 s w2 hR2 hs).mono ?_
  rintro e w3 ⟨rfl, q3⟩
  have hR3 := hR2.new (q3.upd _)
  have hE3 := q3.old hE2
  have hA3 := q3.old hA2
  have c3 := blk_cell hE3 0
  have f3 := blk_free hE3 0
  have hE4 := blk_set hE3 0 (.int .i64 10)
  have u4 : Upd (fun k => k = E) w3 (w3.setCell ⟨E, 0, none⟩ (.int .i64 10)) := (Upd.refl _ _).set1 _ _
  have HU := hide (And.intro (q3.upd (fun _ => False)) (And.intro u4 (And.intro hE4 (u4.old hA3 hAE))))
  have HR := hide hR3
  clear hE2 hR2 hR3 q3 hE3 u4 hE4 hA2 hA3
  go_upto_region 3 with fail
  generalize w3.setCell ⟨E, 0, none⟩ (.int .i64 10) = w4 at HU ⊢
  obtain ⟨u3, u4, hE4, hA4⟩ := unhide HU
  have c4 : w4.cell? ⟨E, 0, none⟩ = some (.int .i64 10) := blk_cell hE4 0
  have hA4' := HsB.mk hA4 z32i_len
  have stA := hA4'.stOk z32i z32i_len
  have hA5 := hA4'.put z32i z32i_len
  have u5 : Upd (· = A) w4 (w4.setCells A 0 (hshV z32i)) := upd_sets _
  have hE5 := u5.old hE4 (fun e => hAE e.symm)
  have e5 : (w4.setCells A 0 (hshV z32i)).cell? ⟨E, 0, none⟩ = some (.int .i64 10) := blk_cell hE5 0
  have f5 : (w4.setCells A 0 (hshV z32i)).frozen? ⟨E, 0, none⟩ = false := blk_free hE5 0
  have HV := hide (And.intro u5 (And.intro hA5 hE5))
  clear u3 u4 hE4 hA4 hA4' hA5 u5 hE5 c3 f3
  go_wp2_with fail
  obtain ⟨u5, hA5, hE5⟩ := unhide HV
  obtain ⟨u3, u4, -, -⟩ := unhide HU
  obtain ⟨hB, ge1, ge2, ge3⟩ := unhide HB
  obtain ⟨hz1, hz2⟩ := unhide HEe
  have hAl := blk_lt (unhide HA)
  have hE7 := blk_set hE5 0 (.int .i64 10)
  have u7 : Upd (· = E) (w4.setCells A 0 (hshV z32i)) ((w4.setCells A 0 (hshV z32i)).setCell ⟨E, 0, none⟩ (.int .i64 10)) := (Upd.refl _ _).set1 _ _
  have hA7 := hA5.upd u7 hAE
  have hR7 : Rd ((w4.setCells A 0 (hshV z32i)).setCell ⟨E, 0, none⟩ (.int .i64 10)) g s := ((((unhide HR).upd u4 hgE).upd u5 hgA)).upd u7 hgE
  have u27 : Upd (fun k => k = g ∨ k = A ∨ k = E) w2 ((w4.setCells A 0 (hshV z32i)).setCell ⟨E, 0, none⟩ (.int .i64 10)) := (((u3.mono (fun _ _ h => h.elim)).trans (u4.mono (fun k _ e => (.inr (.inr e) : k = g ∨ k = A ∨ k = E)))).trans (u5.mono (fun k _ e => .inr (.inl e)))).trans (u7.mono (fun k _ e => .inr (.inr e)))
  generalize (w4.setCells A 0 (hshV z32i)).setCell ⟨E, 0, none⟩ (.int .i64 10) = w7 at hE7 hA7 hR7 u27 ⊢
  have c7 : w7.cell? ⟨E, 0, none⟩ = some (.int .i64 10) := blk_cell hE7 0
  have hB7 := hB.upd u27 (by omega) (by omega) (by omega)
  have u8 : Upd (fun k => k = g) w7 (w7.setCell ⟨g, 0, none⟩ (.string s)) := (Upd.refl _ _).set1 _ _
  have hU : Upd (fun k => k = g) w (w7.setCell ⟨g, 0, none⟩ (.string s)) := (((unhide N2).mono (fun _ _ h => h.elim)).then u27 (fun k hk e => by omega)).trans u8
  have hA8 := hA7.upd u8 (fun e => hgA e.symm)
  have c8 := u8.cell c7 (fun e => hgE e.symm)
  have hRF := hR7.set s
  refine leaves_cons (f := 199) (args := #[.pointer (some ⟨p, 0, none⟩), .pointer (some ⟨q, 0, none⟩), .pointer (some ⟨r, 0, none⟩)]) (by simp) (by simp [go_sem]) ?_
  refine (back_err g E p q r s s 10 _ w7 hB7 c7 (by decide) hR7).mono ?_
  rintro e u' w'' ⟨rfl, rfl, rfl⟩
  generalize w7.setCell ⟨g, 0, none⟩ (.string s) = w8 at hU hA8 c8 hRF ⊢
  have hlv := run_loadVar_row (P := Tryz.prog) w8 A 35 35 (hshV z32i).toArray (0, 0) _ hA8.at_ Tryz.underlying35 rfl (by rw [List.size_toArray, hshV_len, z32i_len]; exact Tryz.infoHsh)
  refine ⟨.tuple #[.agg (hshV z32i).toArray, .int .i64 10], ?_, rfl, hU, hRF⟩
  have hle : (loadVar 26 ⟨E, 0, none⟩).run Tryz.prog w8 = .ok (.int .i64 10) w8 := by
    simp [go_sem, loadVar, c8]
  simp [results, Tryz.results204, asAddr, hlv, hle, Result.andThen]
end Go.Proofs.YtfmkdoachjgjbaaGreatDoor
