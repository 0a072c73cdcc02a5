/-
  Package octet: the reader's Hash.
-/
import Derived.Test.YtfmkdoachjgjbaaGreatDoorMdg
import Derived.Test.YtfmkdoachjgjbaaGreatDoorMcb
import Derived.Lib.LazyBuf
import Derived.Test.YtfmkdoachjgjbaaGreatDoorDe1
import Derived.Test.YtfmkdoachjgjbaaGreatDoorMdb
set_option linter.unusedVariables false
set_option linter.unusedSimpArgs false
namespace Go.Proofs.YtfmkdoachjgjbaaGreatDoor
open Go.RowKit

attribute [local go_sem ↓ high] ld_hsh_fold st_hsh_fold al_hsh_fold bd_hsh_fold
attribute [local go_sem] ld_hsh st_hsh al_hsh bd_hsh rowN_drew
set_option maxRecDepth 100000 in
set_option maxHeartbeats 1000000 in
theorem rhash_ok (g : Nat) (s : ByteArray) (w : World) (h : Rd w g s) (hs : 32 ≤ s.size) :
    Calls Tryz.prog 204 #[.pointer (some ⟨g, 0, none⟩)] w fun e w' => e = .returned (.tuple #[.agg (hshV (rdH s)).toArray, .int .i64 0]) ∧ Upd (fun k => k = g) w w' ∧ Rd w' g (s.extract 32 s.size) := by
  have hmf : ∀ (fn : Fn) (first cap : Array Value) (w : World), (Instr.makeFunc fn first cap).run Tryz.prog w = .ok (.func fn first cap) w := fun _ _ _ _ => rfl
  have hgl := h.lt
  go_enter_defers Tryz.func204, Tryz.ntmps204
  go_upto_region 1 with fail
  have n0 : New w (w.alloc (.cells (hshV z32i).toArray 35)) := (Upd.refl _ _).alloc _
  have hA := blk_alloc w (.cells (hshV z32i).toArray 35)
  have z0 : (w.alloc (.cells (hshV z32i).toArray 35)).heap.size = w.heap.size + 1 := World.size_alloc _ _
  have hH := h.new n0
  generalize w.alloc (.cells (hshV z32i).toArray 35) = w0 at n0 hA z0 hH ⊢
  have n1 : New w0 (w0.alloc (.cells #[.int .i64 0] 26)) := (Upd.refl _ _).alloc _
  have hE := blk_alloc w0 (.cells #[.int .i64 0] 26)
  replace hA := n1.old hA (fun h => h)
  replace hH := hH.new n1
  rw [z0] at hE
  generalize w0.alloc (.cells #[.int .i64 0] 26) = w1 at n1 hE hA hH ⊢
  have hgA : g ≠ w.heap.size := by omega
  have hgE : g ≠ w.heap.size + 1 := by omega
  have hAE : w.heap.size ≠ w.heap.size + 1 := by omega
  obtain ⟨A, hAe⟩ : ∃ A, A = w.heap.size := ⟨_, rfl⟩
  obtain ⟨E, hEe⟩ : ∃ E, E = A + 1 := ⟨_, rfl⟩
  rw [← hAe] at hA hE hgA hgE hAE ⊢
  rw [← hEe] at hE hgE hAE ⊢
  have HEe := hide (And.intro hAe hEe)
  have HA := hide hA
  have HEb := hide hE
  have N1 := hide (n0.trans n1)
  clear hAe hEe hE hA n0 n1 h z0
  go_wp2_with fail
  refine (back_any g E s w1 hH).mono ?_
  rintro e w2 ⟨p, q, r, rfl, n2, hB, ge1, ge2, ge3⟩
  have HB := hide (And.intro hB (And.intro ge1 (And.intro ge2 ge3)))
  have hE2 := n2.old (unhide HEb) (fun h => h)
  have hA2 := n2.old (unhide HA) (fun h => h)
  have hR2 := hH.new n2
  have N2 := hide ((unhide N1).trans n2)
  have hEl := blk_lt (unhide HEb)
  clear hB hH ge1 ge2 ge3 n2
  go_wp2_with fail
  refine (take_ok g 32 s w2 hR2 hs).mono ?_
  rintro e w3 ⟨rfl, rfl⟩
  have hR3 := hR2.set (s.extract 32 s.size)
  have u3 : Upd (fun k => k = g) w2 (w2.setCell ⟨g, 0, none⟩ (.string (s.extract 32 s.size))) := (Upd.refl _ _).set1 _ _
  have hE3 := u3.old hE2 (fun e => hgE e.symm)
  have hA3 := u3.old hA2 (fun e => hgA e.symm)
  generalize w2.setCell ⟨g, 0, none⟩ (.string (s.extract 32 s.size)) = w3 at hR3 u3 hE3 hA3 ⊢
  have c3 := blk_cell hE3 0
  have f3 := blk_free hE3 0
  have hE4 := blk_set hE3 0 (.int .i64 0)
  have u4 : Upd (fun k => k = E) w3 (w3.setCell ⟨E, 0, none⟩ (.int .i64 0)) := (Upd.refl _ _).set1 _ _
  have hA4 := u4.old hA3 hAE
  have hcp := hash_cells s hs
  have hqz : (s.extract 0 32).size = 32 := by rw [ByteArray.size_extract]; omega
  generalize s.extract 0 32 = x at hqz hcp ⊢
  have HU := hide (And.intro u3 (And.intro u4 (And.intro hE4 hA4)))
  have HR := hide hR3
  clear hE2 hR2 hR3 u3 hE3 u4 hE4 hA2 hA3 hA4
  go_upto_region 3 with fail
  generalize w3.setCell ⟨E, 0, none⟩ (.int .i64 0) = w4 at HU ⊢
  have c4 : w4.cell? ⟨E, 0, none⟩ = some (.int .i64 0) := blk_cell (unhide HU).2.2.1 0
  clear c3 f3
  obtain ⟨u3, u4, hE4, hA4⟩ := unhide HU
  have hcl : ∀ j, j < x.size → (w4.cell? ⟨A, 0 + j, none⟩).isSome = true := fun j hj => by
    rw [Nat.zero_add, blk_cell hA4 j, List.getElem?_toArray, List.getElem?_eq_getElem (by rw [hshV_len, z32i_len]; omega)]
    rfl
  have hfz : ∀ j, j < x.size → w4.frozen? ⟨A, 0 + j, none⟩ = false := fun j hj => blk_free hA4 _
  have hA5 := (HsB.mk hA4 z32i_len).put (rdH s) (rdH_len s)
  have u5 : Upd (· = A) w4 (w4.setCells A 0 (hshV (rdH s))) := upd_sets _
  have hE5 := u5.old hE4 (fun e => hAE e.symm)
  have hrun := run_copy_string (P := Tryz.prog) w4 95 9 3 5 A 0 32 32 x Tryz.underlying95 (fun w => by kernel_rfl) (by omega) hcl hfz
  rw [hcp] at hrun
  clear u3 u4 hE4 hA4
  go_upto_region 6 with fail
  generalize w4.setCells A 0 (hshV (rdH s)) = w5 at hA5 u5 hE5 ⊢
  have rA := hA5.row
  have stA := hA5.stOk (rdH s) (rdH_len s)
  have hA6 := hA5.put (rdH s) (rdH_len s)
  have u6 : Upd (· = A) w5 (w5.setCells A 0 (hshV (rdH s))) := upd_sets _
  have hE6 := u6.old hE5 (fun e => hAE e.symm)
  have e6 : (w5.setCells A 0 (hshV (rdH s))).cell? ⟨E, 0, none⟩ = some (.int .i64 0) := blk_cell hE6 0
  have f6 : (w5.setCells A 0 (hshV (rdH s))).frozen? ⟨E, 0, none⟩ = false := blk_free hE6 0
  have HV := hide (And.intro u5 (And.intro u6 (And.intro hA6 hE6)))
  clear hcl hfz hA5 u5 hE5 hA6 u6 hE6 c4 hcp hqz
  go_wp2_with fail
  obtain ⟨u5, u6, hA6, hE6⟩ := unhide HV
  obtain ⟨u3, u4, -, -⟩ := unhide HU
  obtain ⟨hB, ge1, ge2, ge3⟩ := unhide HB
  obtain ⟨hz1, hz2⟩ := unhide HEe
  have hAl := blk_lt (unhide HA)
  have hE7 := blk_set hE6 0 (.int .i64 0)
  have u7 : Upd (· = E) (w5.setCells A 0 (hshV (rdH s))) ((w5.setCells A 0 (hshV (rdH s))).setCell ⟨E, 0, none⟩ (.int .i64 0)) := (Upd.refl _ _).set1 _ _
  have hA7 := hA6.upd u7 hAE
  have hR7 : Rd ((w5.setCells A 0 (hshV (rdH s))).setCell ⟨E, 0, none⟩ (.int .i64 0)) g (s.extract 32 s.size) := ((((unhide HR).upd u4 hgE).upd u5 hgA).upd u6 hgA).upd u7 hgE
  have u27 : Upd (fun k => k = g ∨ k = A ∨ k = E) w2 ((w5.setCells A 0 (hshV (rdH s))).setCell ⟨E, 0, none⟩ (.int .i64 0)) := ((((u3.mono (fun k _ e => (Or.inl e : k = g ∨ k = A ∨ k = E))).trans (u4.mono (fun k _ e => .inr (.inr e)))).trans (u5.mono (fun k _ e => .inr (.inl e)))).trans (u6.mono (fun k _ e => .inr (.inl e)))).trans (u7.mono (fun k _ e => .inr (.inr e)))
  generalize (w5.setCells A 0 (hshV (rdH s))).setCell ⟨E, 0, none⟩ (.int .i64 0) = w7 at hE7 hA7 hR7 u27 ⊢
  have c7 : w7.cell? ⟨E, 0, none⟩ = some (.int .i64 0) := blk_cell hE7 0
  have rA7 := hA7.row
  have hB7 := hB.upd u27 (by omega) (by omega) (by omega)
  have hU : Upd (fun k => k = g) w w7 := ((unhide N2).mono (fun _ _ h => h.elim)).then u27 (fun k hk e => by omega)
  refine leaves_cons (f := 199) (args := #[.pointer (some ⟨p, 0, none⟩), .pointer (some ⟨q, 0, none⟩), .pointer (some ⟨r, 0, none⟩)]) (by simp) (by simp [go_sem]) ?_
  refine (back_idle g E p q r s _ w7 hB7 c7).mono ?_
  rintro e u' w'' ⟨rfl, rfl, rfl⟩
  have hlv := run_loadVar_row (P := Tryz.prog) w7 A 35 35 (hshV (rdH s)).toArray (0, 0) _ hA7.at_ Tryz.underlying35 rfl (by rw [List.size_toArray, hshV_len, rdH_len]; exact Tryz.infoHsh)
  refine ⟨.tuple #[.agg (hshV (rdH s)).toArray, .int .i64 0], ?_, rfl, hU, hR7⟩
  have hle : (loadVar 26 ⟨E, 0, none⟩).run Tryz.prog w7 = .ok (.int .i64 0) w7 := by
    simp [go_sem, loadVar, c7]
  simp [results, Tryz.results204, asAddr, hlv, hle, Result.andThen]
set_option maxRecDepth 100000 in
set_option maxHeartbeats 1000000 in
theorem rhash_short (g : Nat) (s : ByteArray) (w : World) (h : Rd w g s) (hs : s.size < 32) :
    Calls Tryz.prog 204 #[.pointer (some ⟨g, 0, none⟩)] w fun e w' => e = .returned (.tuple #[.agg (hshV z32i).toArray, .int .i64 10]) ∧ Upd (fun k => k = g) w w' ∧ Rd w' g s := by
  have hmf : ∀ (fn : Fn) (first cap : Array Value) (w : World), (Instr.makeFunc fn first cap).run Tryz.prog w = .ok (.func fn first cap) w := fun _ _ _ _ => rfl
  have hgl := h.lt
  go_enter_defers Tryz.func204, Tryz.ntmps204
  go_upto_region 1 with fail
  have n0 : New w (w.alloc (.cells (hshV z32i).toArray 35)) := (Upd.refl _ _).alloc _
  have hA := blk_alloc w (.cells (hshV z32i).toArray 35)
  have z0 : (w.alloc (.cells (hshV z32i).toArray 35)).heap.size = w.heap.size + 1 := World.size_alloc _ _
  have hH := h.new n0
  generalize w.alloc (.cells (hshV z32i).toArray 35) = w0 at n0 hA z0 hH ⊢
  have n1 : New w0 (w0.alloc (.cells #[.int .i64 0] 26)) := (Upd.refl _ _).alloc _
  have hE := blk_alloc w0 (.cells #[.int .i64 0] 26)
  replace hA := n1.old hA (fun h => h)
  replace hH := hH.new n1
  rw [z0] at hE
  generalize w0.alloc (.cells #[.int .i64 0] 26) = w1 at n1 hE hA hH ⊢
  have hgA : g ≠ w.heap.size := by omega
  have hgE : g ≠ w.heap.size + 1 := by omega
  have hAE : w.heap.size ≠ w.heap.size + 1 := by omega
  obtain ⟨A, hAe⟩ : ∃ A, A = w.heap.size := ⟨_, rfl⟩
  obtain ⟨E, hEe⟩ : ∃ E, E = A + 1 := ⟨_, rfl⟩
  rw [← hAe] at hA hE hgA hgE hAE ⊢
  rw [← hEe] at hE hgE hAE ⊢
  have HEe := hide (And.intro hAe hEe)
  have HA := hide hA
  have HEb := hide hE
  have N1 := hide (n0.trans n1)
  clear hAe hEe hE hA n0 n1 h z0
  go_wp2_with fail
  refine (back_any g E s w1 hH).mono ?_
  rintro e w2 ⟨p, q, r, rfl, n2, hB, ge1, ge2, ge3⟩
  have HB := hide (And.intro hB (And.intro ge1 (And.intro ge2 ge3)))
  have hE2 := n2.old (unhide HEb) (fun h => h)
  have hA2 := n2.old (unhide HA) (fun h => h)
  have hR2 := hH.new n2
  have N2 := hide ((unhide N1).trans n2)
  have hEl := blk_lt (unhide HEb)
  clear hB hH ge1 ge2 ge3 n2
  go_wp2_with fail
  refine (take_short g 32 s w2 hR2 hs).mono ?_
  rintro e w3 ⟨rfl, q3⟩
  have hR3 := hR2.new (q3.upd _)
  have hE3 := q3.old hE2
  have hA3 := q3.old hA2
  have c3 := blk_cell hE3 0
  have f3 := blk_free hE3 0
  have hE4 := blk_set hE3 0 (.int .i64 10)
  have u4 : Upd (fun k => k = E) w3 (w3.setCell ⟨E, 0, none⟩ (.int .i64 10)) := (Upd.refl _ _).set1 _ _
  have HU := hide (And.intro (q3.upd (fun _ => False)) (And.intro u4 (And.intro hE4 (u4.old hA3 hAE))))
  have HR := hide hR3
  clear hE2 hR2 hR3 q3 hE3 u4 hE4 hA2 hA3
  go_upto_region 3 with fail
  generalize w3.setCell ⟨E, 0, none⟩ (.int .i64 10) = w4 at HU ⊢
  obtain ⟨u3, u4, hE4, hA4⟩ := unhide HU
  have c4 : w4.cell? ⟨E, 0, none⟩ = some (.int .i64 10) := blk_cell hE4 0
  have hA4' := HsB.mk hA4 z32i_len
  have stA := hA4'.stOk z32i z32i_len
  have hA5 := hA4'.put z32i z32i_len
  have u5 : Upd (· = A) w4 (w4.setCells A 0 (hshV z32i)) := upd_sets _
  have hE5 := u5.old hE4 (fun e => hAE e.symm)
  have e5 : (w4.setCells A 0 (hshV z32i)).cell? ⟨E, 0, none⟩ = some (.int .i64 10) := blk_cell hE5 0
  have f5 : (w4.setCells A 0 (hshV z32i)).frozen? ⟨E, 0, none⟩ = false := blk_free hE5 0
  have HV := hide (And.intro u5 (And.intro hA5 hE5))
  clear u3 u4 hE4 hA4 hA4' hA5 u5 hE5 c3 f3
  go_wp2_with fail
  obtain ⟨u5, hA5, hE5⟩ := unhide HV
  obtain ⟨u3, u4, -, -⟩ := unhide HU
  obtain ⟨hB, ge1, ge2, ge3⟩ := unhide HB
  obtain ⟨hz1, hz2⟩ := unhide HEe
  have hAl := blk_lt (unhide HA)
  have hE7 := blk_set hE5 0 (.int .i64 10)
  have u7 : Upd (· = E) (w4.setCells A 0 (hshV z32i)) ((w4.setCells A 0 (hshV z32i)).setCell ⟨E, 0, none⟩ (.int .i64 10)) := (Upd.refl _ _).set1 _ _
  have hA7 := hA5.upd u7 hAE
  have hR7 : Rd ((w4.setCells A 0 (hshV z32i)).setCell ⟨E, 0, none⟩ (.int .i64 10)) g s := ((((unhide HR).upd u4 hgE).upd u5 hgA)).upd u7 hgE
  have u27 : Upd (fun k => k = g ∨ k = A ∨ k = E) w2 ((w4.setCells A 0 (hshV z32i)).setCell ⟨E, 0, none⟩ (.int .i64 10)) := (((u3.mono (fun _ _ h => h.elim)).trans (u4.mono (fun k _ e => (.inr (.inr e) : k = g ∨ k = A ∨ k = E)))).trans (u5.mono (fun k _ e => .inr (.inl e)))).trans (u7.mono (fun k _ e => .inr (.inr e)))
  generalize (w4.setCells A 0 (hshV z32i)).setCell ⟨E, 0, none⟩ (.int .i64 10) = w7 at hE7 hA7 hR7 u27 ⊢
  have c7 : w7.cell? ⟨E, 0, none⟩ = some (.int .i64 10) := blk_cell hE7 0
  have hB7 := hB.upd u27 (by omega) (by omega) (by omega)
  have u8 : Upd (fun k => k = g) w7 (w7.setCell ⟨g, 0, none⟩ (.string s)) := (Upd.refl _ _).set1 _ _
  have hU : Upd (fun k => k = g) w (w7.setCell ⟨g, 0, none⟩ (.string s)) := (((unhide N2).mono (fun _ _ h => h.elim)).then u27 (fun k hk e => by omega)).trans u8
  have hA8 := hA7.upd u8 (fun e => hgA e.symm)
  have c8 := u8.cell c7 (fun e => hgE e.symm)
  have hRF := hR7.set s
  refine leaves_cons (f := 199) (args := #[.pointer (some ⟨p, 0, none⟩), .pointer (some ⟨q, 0, none⟩), .pointer (some ⟨r, 0, none⟩)]) (by simp) (by simp [go_sem]) ?_
  refine (back_err g E p q r s s 10 _ w7 hB7 c7 (by decide) hR7).mono ?_
  rintro e u' w'' ⟨rfl, rfl, rfl⟩
  generalize w7.setCell ⟨g, 0, none⟩ (.string s) = w8 at hU hA8 c8 hRF ⊢
  have hlv := run_loadVar_row (P := Tryz.prog) w8 A 35 35 (hshV z32i).toArray (0, 0) _ hA8.at_ Tryz.underlying35 rfl (by rw [List.size_toArray, hshV_len, z32i_len]; exact Tryz.infoHsh)
  refine ⟨.tuple #[.agg (hshV z32i).toArray, .int .i64 10], ?_, rfl, hU, hRF⟩
  have hle : (loadVar 26 ⟨E, 0, none⟩).run Tryz.prog w8 = .ok (.int .i64 10) w8 := by
    simp [go_sem, loadVar, c8]
  simp [results, Tryz.results204, asAddr, hlv, hle, Result.andThen]
end Go.Proofs.YtfmkdoachjgjbaaGreatDoor
namespace Go.Proofs.YtfmkdoachjgjbaaGreatDoor
open Go.RowKit

attribute [local go_sem ↓ high] ld_hsh_fold st_hsh_fold al_hsh_fold bd_hsh_fold
attribute [local go_sem] ld_hsh st_hsh al_hsh bd_hsh rowN_drew
set_option maxRecDepth 100000 in
set_option maxHeartbeats 1000000 in
theorem rdHash_ok (A G : Nat) (m : MsgV) (s : ByteArray) (w : World) (hA : MsB w A m) (hG : Rd w G s) (hAG : A ≠ G) (hs : 32 ≤ s.size) :
    Calls Tryz.prog 175 #[passR G, .pointer (some ⟨A, 0, none⟩)] w fun e w' => e = .returned (.tuple #[]) ∧ Upd (fun k => k = A ∨ k = G) w w' ∧ MsB w' A { m with hash := rdH s } ∧ Rd w' G (s.extract 32 s.size) := by
  unfold passR
  go_enter Tryz.func175, Tryz.ntmps175
  go_upto_region 2 with fail
  have n1 : New w (w.alloc (.cells #[.pointer none, .pointer (some ⟨G, 0, none⟩)] 234)) := (Upd.refl _ _).alloc _
  have hb := blk_alloc w (.cells #[.pointer none, .pointer (some ⟨G, 0, none⟩)] 234)
  generalize w.alloc (.cells #[.pointer none, .pointer (some ⟨G, 0, none⟩)] 234) = w1 at n1 hb ⊢
  generalize w.heap.size = B at hb ⊢
  have d0 : w1.cell? ⟨B, 0, none⟩ = some (.pointer none) := blk_cell hb 0
  have d1 : w1.cell? ⟨B, 1, none⟩ = some (.pointer (some ⟨G, 0, none⟩)) := blk_cell hb 1
  have HA := hide (hA.new n1)
  have hcall := rhash_ok G s w1 (hG.new n1) hs
  have N1 := hide n1
  clear hb hA hG n1
  go_wp2_with fail
  refine hcall.mono ?_
  rintro e w3 ⟨rfl, u3, hG3⟩
  obtain ⟨hst, hHb, nH⟩ := hs_fresh w3 (rdH s) (rdH_len s)
  have U3 := hide ((((unhide N1).mono (fun _ _ h => h.elim)).trans (u3.mono (fun k _ e => (Or.inr e : k = A ∨ k = G)))).trans (nH.mono (fun _ _ h => h.elim)))
  have HA3 := hide (((unhide HA).upd u3 hAG).new nH)
  have HG := hide (hG3.new nH)
  clear hcall N1 u3 hG3 HA d0 d1
  go_upto_region 6 with fail
  change Code.wp _ _ _ _ (hsNew w3 (rdH s))
  generalize hsNew w3 (rdH s) = w4 at hHb nH U3 HA3 HG ⊢
  generalize w3.heap.size = K at hHb hst ⊢
  have HH := hide hHb
  clear hst hHb nH
  go_wp2_with fail
  refine (must_ok _).mono ?_
  rintro e w5 ⟨rfl, q5⟩
  have rK := ((unhide HH).new (q5.upd _)).row
  have hA5 := (unhide HA3).new (q5.upd _)
  have hG5 := (unhide HG).new (q5.upd _)
  have hst : stOk w5 A 4 32 (hshV (rdH s)).toArray = true := stOk_blk hA5.at_ (by rw [List.size_toArray, m.len hA5.len]; omega) (by rw [List.size_toArray, hshV_len]; exact rdH_len s) (by rw [Array.all_eq_true_iff_forall_mem]; intro v hv; exact hshV_one _ v (by simpa using hv))
  have hA6 : MsB (w5.setCells A 4 (hshV (rdH s))) A { m with hash := rdH s } := ⟨by rw [blk_setCells hA5.at_ 4 _, set_hash m hA5.len _ (rdH_len s)], rdH_len s⟩
  have u6 : Upd (· = A) w5 (w5.setCells A 4 (hshV (rdH s))) := (Upd.refl _ _).setCells 4 _
  have HX := hide (And.intro hA6 (And.intro (hG5.upd u6 (fun e => hAG e.symm)) (((unhide U3).trans (q5.upd _)).trans (u6.mono (fun k _ e => .inl e)))))
  clear U3 HA3 HG q5 hA5 hG5 hA6 u6 HH
  go_wp2_with fail
  go_end0
  obtain ⟨h1, h2, h3⟩ := unhide HX
  exact ⟨rfl, h3, h1, h2⟩
set_option maxRecDepth 100000 in
set_option maxHeartbeats 1000000 in
theorem rdHash_bad (A G : Nat) (m : MsgV) (s : ByteArray) (w : World) (hA : MsB w A m) (hG : Rd w G s) (hAG : A ≠ G) (hs : s.size < 32) :
    Calls Tryz.prog 175 #[passR G, .pointer (some ⟨A, 0, none⟩)] w fun e w' => Thrown 10 e ∧ Upd (fun k => k = A ∨ k = G) w w' := by
  unfold passR
  go_enter Tryz.func175, Tryz.ntmps175
  go_upto_region 2 with fail
  have n1 : New w (w.alloc (.cells #[.pointer none, .pointer (some ⟨G, 0, none⟩)] 234)) := (Upd.refl _ _).alloc _
  have hb := blk_alloc w (.cells #[.pointer none, .pointer (some ⟨G, 0, none⟩)] 234)
  generalize w.alloc (.cells #[.pointer none, .pointer (some ⟨G, 0, none⟩)] 234) = w1 at n1 hb ⊢
  generalize w.heap.size = B at hb ⊢
  have d0 : w1.cell? ⟨B, 0, none⟩ = some (.pointer none) := blk_cell hb 0
  have d1 : w1.cell? ⟨B, 1, none⟩ = some (.pointer (some ⟨G, 0, none⟩)) := blk_cell hb 1
  have hcall := rhash_short G s w1 (hG.new n1) hs
  have N1 := hide n1
  clear hb hA hG n1
  go_wp2_with fail
  refine hcall.mono ?_
  rintro e w3 ⟨rfl, u3, hG3⟩
  obtain ⟨hst, hHb, nH⟩ := hs_fresh w3 z32i z32i_len
  have U3 := hide ((((unhide N1).mono (fun _ _ h => h.elim)).trans (u3.mono (fun k _ e => (Or.inr e : k = A ∨ k = G)))).trans (nH.mono (fun _ _ h => h.elim)))
  clear hcall N1 u3 hG3 d0 d1
  go_upto_region 6 with fail
  change Code.wp _ _ _ _ (hsNew w3 z32i)
  generalize hsNew w3 z32i = w4 at hHb nH U3 ⊢
  clear hst hHb nH
  go_wp2_with fail
  refine (must_bad 10 (by decide) _).mono ?_
  rintro e w5 ⟨rfl, rfl⟩
  exact ⟨rfl, rfl, unhide U3⟩
/-- What reading a field comes to. -/
def ReadEnd (x : Fld) (A G : Nat) (m : MsgV) (s : ByteArray) (w : World) (e : Ending) (w' : World) : Prop :=
  Upd (fun k => k = A ∨ k = G) w w' ∧ ((x.wid ≤ s.size ∧ e = .returned (.tuple #[]) ∧ MsB w' A (x.get s m) ∧ Rd w' G (s.extract x.wid s.size)) ∨ (s.size < x.wid ∧ Thrown 10 e))
theorem readField_any (x : Fld) (base A G : Nat) (m : MsgV) (v : Value) (s : ByteArray) (w : World) (hv : FldV base w v x) (hA : MsB w A m) (hG : Rd w G s) (hAG : A ≠ G) :
    ∃ F caps, v = .func (.func F) #[] caps ∧ (∀ args w, (callFunc F args).run Tryz.prog w = .ok (.enter F args) w) ∧ Calls Tryz.prog F (#[passR G, .pointer (some ⟨A, 0, none⟩)] ++ caps) w (ReadEnd x A G m s w) := by
  have hl := hA.len
  have h2 : 0 ≤ rdN s 2 ∧ rdN s 2 < 65536 := rdN_bd s 2
  have h4 : 0 ≤ rdN s 4 ∧ rdN s 4 < 4294967296 := rdN_bd s 4
  have ok : ∀ {e w'}, x.wid ≤ s.size → (e = .returned (.tuple #[]) ∧ Upd (fun k => k = A ∨ k = G) w w' ∧ MsB w' A (x.get s m) ∧ Rd w' G (s.extract x.wid s.size)) → ReadEnd x A G m s w e w' := fun hs ⟨h1, h2, h3, h4⟩ => ⟨h2, .inl ⟨hs, h1, h3, h4⟩⟩
  have bad : ∀ {e w'}, s.size < x.wid → (Thrown 10 e ∧ Upd (fun k => k = A ∨ k = G) w w') → ReadEnd x A G m s w e w' := fun hs ⟨h1, h2⟩ => ⟨h2, .inr ⟨hs, h1⟩⟩
  cases x with
  | ch =>
    obtain ⟨p, q, rfl, hp, hq, cp, cq⟩ := hv
    refine ⟨_, _, rfl, enters_of Tryz.func214 (by kernel_rfl) rfl, ?_⟩
    by_cases hs : (4 : Nat) ≤ s.size
    · exact (rdU32_ok 203 1 A p q G 4 _ m _ s w (enters_of Tryz.func203 (by kernel_rfl) rfl) (fp5_any A) cp cq hA rfl hG hAG (by decide) hs h4 (set_ch m _) hl).mono fun e w' h => ok hs h
    · exact (rdU32_bad 203 1 A p q G 4 _ m s w (enters_of Tryz.func203 (by kernel_rfl) rfl) (fp5_any A) cp cq hA rfl hG hAG (by decide) (by omega)).mono fun e w' h => bad (show s.size < 4 by omega) h
  | id =>
    obtain ⟨p, q, rfl, hp, hq, cp, cq⟩ := hv
    refine ⟨_, _, rfl, enters_of Tryz.func200 (by kernel_rfl) rfl, ?_⟩
    by_cases hs : (8 : Nat) ≤ s.size
    · exact (rdU64_ok 169 2 A p q G 8 _ m _ s w (enters_of Tryz.func169 (by kernel_rfl) rfl) (fp1_any A) cp cq hA rfl hG hAG (by decide) hs (set_id m _) hl).mono fun e w' h => ok hs h
    · exact (rdU64_bad 169 2 A p q G 8 _ m s w (enters_of Tryz.func169 (by kernel_rfl) rfl) (fp1_any A) cp cq hA rfl hG hAG (by decide) (by omega)).mono fun e w' h => bad (show s.size < 8 by omega) h
  | amount =>
    obtain ⟨p, q, rfl, hp, hq, cp, cq⟩ := hv
    refine ⟨_, _, rfl, enters_of Tryz.func200 (by kernel_rfl) rfl, ?_⟩
    by_cases hs : (8 : Nat) ≤ s.size
    · exact (rdU64_ok 170 3 A p q G 8 _ m _ s w (enters_of Tryz.func170 (by kernel_rfl) rfl) (fp2_any A) cp cq hA rfl hG hAG (by decide) hs (set_amount m _) hl).mono fun e w' h => ok hs h
    · exact (rdU64_bad 170 3 A p q G 8 _ m s w (enters_of Tryz.func170 (by kernel_rfl) rfl) (fp2_any A) cp cq hA rfl hG hAG (by decide) (by omega)).mono fun e w' h => bad (show s.size < 8 by omega) h
  | expiry =>
    obtain ⟨p, q, rfl, hp, hq, cp, cq⟩ := hv
    refine ⟨_, _, rfl, enters_of Tryz.func201 (by kernel_rfl) rfl, ?_⟩
    have ho : m.cells[36]? = some (.int .i64 m.expiry) := by
      have := hA.cells.2.2.2.2.1
      rwa [blk_cell hA.at_, List.getElem?_toArray] at this
    by_cases hs : (4 : Nat) ≤ s.size
    · exact (rdI64_ok 172 36 A p q G 4 _ m _ s w (enters_of Tryz.func172 (by kernel_rfl) rfl) (fp3_any A) cp cq hA ho hG hAG (by decide) hs h4 (set_expiry m hl _) hl).mono fun e w' h => ok hs h
    · exact (rdI64_bad 172 36 A p q G 4 _ m s w (enters_of Tryz.func172 (by kernel_rfl) rfl) (fp3_any A) cp cq hA ho hG hAG (by decide) (by omega)).mono fun e w' h => bad (show s.size < 4 by omega) h
  | number =>
    obtain ⟨p, q, rfl, hp, hq, cp, cq⟩ := hv
    refine ⟨_, _, rfl, enters_of Tryz.func201 (by kernel_rfl) rfl, ?_⟩
    have ho : m.cells[37]? = some (.int .i64 m.number) := by
      have := hA.cells.2.2.2.2.2.1
      rwa [blk_cell hA.at_, List.getElem?_toArray] at this
    by_cases hs : (2 : Nat) ≤ s.size
    · exact (rdI64_ok 173 37 A p q G 2 _ m _ s w (enters_of Tryz.func173 (by kernel_rfl) rfl) (fp4_any A) cp cq hA ho hG hAG (by decide) hs (by omega) (set_number m hl _) hl).mono fun e w' h => ok hs h
    · exact (rdI64_bad 173 37 A p q G 2 _ m s w (enters_of Tryz.func173 (by kernel_rfl) rfl) (fp4_any A) cp cq hA ho hG hAG (by decide) (by omega)).mono fun e w' h => bad (show s.size < 2 by omega) h
  | hash =>
    have hv : v = _ := hv
    subst hv
    refine ⟨_, _, rfl, enters_of Tryz.func175 (by kernel_rfl) rfl, ?_⟩
    by_cases hs : (32 : Nat) ≤ s.size
    · exact (rdHash_ok A G m s w hA hG hAG hs).mono fun e w' h => ok hs h
    · exact (rdHash_bad A G m s w hA hG hAG (by omega)).mono fun e w' h => bad (show s.size < 32 by omega) h
set_option maxRecDepth 100000 in
set_option maxHeartbeats 1000000 in
theorem throughR_any (base A G : Nat) (v : Value) (xs : List Fld) (m : MsgV) (s : ByteArray) (w : World) (hv : FldsO base w v xs) (hA : MsB w A m) (hG : Rd w G s) (hAG : A ≠ G) (hAb : A < base) (hGb : G < base) (hxl : xs.length ≤ 100) :
    Calls Tryz.prog 139 #[passR G, v, .pointer (some ⟨A, 0, none⟩)] w fun e w' => Upd (fun k => k = A ∨ k = G) w w' ∧ ((∃ m' r, getL xs s m = some (m', r) ∧ e = .returned (.tuple #[]) ∧ MsB w' A m' ∧ Rd w' G r) ∨ (getL xs s m = none ∧ Thrown 10 e)) := by
  obtain ⟨vs, hrow, hvl, hcl⟩ := hv
  obtain ⟨va, vcap, hve⟩ := own_shape' hrow
  have hcell : ∀ (i : Nat) (u : Value), vs[i]? = some u → ∃ g, va = some ⟨g, 0, none⟩ ∧ base ≤ g ∧ w.cell? ⟨g, i, none⟩ = some u := by
    intro i u hu
    have hlt := (List.getElem?_eq_some_iff.1 hu).1
    rcases hrow.2 with ⟨e, e0⟩ | ⟨g, cap, cur, e, hb, hg, _, _, hs, ht⟩
    · omega
    · rw [hve] at e
      injection e with e1
      refine ⟨g, e1, hb, ?_⟩
      rw [blk_cell hg]
      have : cur.toList[i]? = some u := by
        rw [← hu, ← ht, List.getElem?_take_of_lt (by omega)]
      rwa [Array.getElem?_toList] at this
  subst hve
  clear hrow
  have HCELL := hide hcell
  have HCL := hide hcl
  clear hcell hcl
  unfold passR
  go_enter Tryz.func139, Tryz.ntmps139
  go_upto_region 1 with fail
  have n1 : New w (w.alloc (.cells #[.pointer none, .pointer (some ⟨G, 0, none⟩)] 234)) := (Upd.refl _ _).alloc _
  have hb := blk_alloc w (.cells #[.pointer none, .pointer (some ⟨G, 0, none⟩)] 234)
  have hGw := hG.lt
  have hAw := hA.lt
  generalize w.alloc (.cells #[.pointer none, .pointer (some ⟨G, 0, none⟩)] 234) = w1 at n1 hb ⊢
  have hBw : G ≠ w.heap.size ∧ A ≠ w.heap.size := ⟨by omega, by omega⟩
  generalize w.heap.size = B at hb hBw ⊢
  have HB := hide hb
  have HM1 := hide (show ∃ m' r, getL (xs.take 0) s m = some (m', r) ∧ MsB w1 A m' ∧ Rd w1 G r from ⟨m, s, rfl, hA.new n1, hG.new n1⟩)
  have N1 := hide n1
  have hxb : (xs.length : Int) ≤ 100 := by omega
  clear hb hA hG n1 hGw hAw
  go_wp2_with fail
  go_loopw [7, 10] (fun _ iv wr => ∃ i : Nat, iv = .int .i64 (i : Int) ∧ i ≤ xs.length ∧ Hid (∃ m' r, getL (xs.take i) s m = some (m', r) ∧ MsB wr A m' ∧ Rd wr G r) ∧ Upd (fun k => k = A ∨ k = G) w1 wr) (fun _ iv _ => xs.length - (intOf iv).toNat)
  case atStart => exact ⟨0, rfl, Nat.zero_le _, HM1, Upd.refl _ _⟩
  case round =>
    obtain ⟨i, rfl, hi, hM, nr⟩ := hrel
    obtain ⟨wq, rfl⟩ : ∃ wq : World, wq = wr := ⟨_, rfl⟩
    obtain ⟨m', r, hgl, hMq, hGq⟩ := unhide hM
    clear HM1
    by_cases hlt : i < xs.length
    · obtain ⟨x, hx⟩ : ∃ x, xs[i]? = some x := ⟨_, List.getElem?_eq_getElem hlt⟩
      obtain ⟨u, hu⟩ : ∃ u, vs[i]? = some u := ⟨_, List.getElem?_eq_getElem (by omega)⟩
      obtain ⟨g, rfl, hgb, hc⟩ := unhide HCELL i u hu
      have hf := unhide HCL i x u hx hu
      have hfq : FldV base wq u x := (hf.new (unhide N1)).upd nr (fun k hk e => by omega)
      have hcq : wq.cell? ⟨g, i, none⟩ = some u := nr.cell ((unhide N1).cell hc (fun h => h)) (fun e => e.elim (fun e => by have e : g = A := e; omega) (fun e => by have e : g = G := e; omega))
      have hBq := nr.old (unhide HB) (fun e => e.elim (fun e => hBw.2 e.symm) (fun e => hBw.1 e.symm))
      have rP := rowN_whole hBq 2 rfl
      have d0 : wq.cell? ⟨B, 0, none⟩ = some (.pointer none) := blk_cell hBq 0
      have d1 : wq.cell? ⟨B, 1, none⟩ = some (.pointer (some ⟨G, 0, none⟩)) := blk_cell hBq 1
      obtain ⟨F, caps, rfl, hE, hcall⟩ := readField_any x base A G m' u r wq hfq hMq hGq hAG
      have hgs := getL_take hx hgl
      have hnone := fun (h : getL (xs.take (i + 1)) s m = none) => (show getL xs s m = none by rw [← List.take_append_drop (i + 1) xs]; exact getL_none _ _ h)
      have HGS := hide (And.intro hgs hnone)
      have hi0 : (i : Int) < (xs.length : Int) := by omega
      unfold passR at hcall
      clear hf hfq hc hBq hx hu hgs hnone hM hMq hGq hgl
      go_wp2_with fail
      refine hcall.mono ?_
      rintro e w3 ⟨u3, (⟨hs, rfl, hM3, hG3⟩ | ⟨hs, rfl⟩)⟩
      · have hn3 := nr.trans u3
        have HM3 : Hid (∃ m' r, getL (xs.take (i + 1)) s m = some (m', r) ∧ MsB w3 A m' ∧ Rd w3 G r) := hide ⟨_, _, by rw [(unhide HGS).1, if_neg (by omega)], hM3, hG3⟩
        clear hcall rP d0 d1 hcq hE hM3 hG3 u3 nr hs
        go_wp2_with fail
        go_roundw
        case rel => exact ⟨i + 1, by go_num, by omega, HM3, hn3⟩
        case measure => simp [intOf]; omega
      · have hn3 := nr.trans u3
        have hfin : getL xs s m = none := (unhide HGS).2 (by rw [(unhide HGS).1, if_pos hs])
        exact ⟨rfl, ((unhide N1).mono (fun _ _ h => h.elim)).trans hn3, .inr ⟨hfin, rfl⟩⟩
    · obtain rfl : i = xs.length := by omega
      rw [List.take_length] at hgl
      have HX := hide (And.intro hgl (And.intro hMq hGq))
      clear hM hMq hGq hgl
      go_wp2_with fail
      go_end0
      obtain ⟨h1, h2, h3⟩ := unhide HX
      exact ⟨((unhide N1).mono (fun _ _ h => h.elim)).trans nr, .inl ⟨_, _, h1, rfl, h2, h3⟩⟩
end Go.Proofs.YtfmkdoachjgjbaaGreatDoor
