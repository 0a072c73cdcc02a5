/-
  Law 18: the two setups.
-/
import Derived.Test.YtfmkdoachjgjbaaGreatDoorMcb
import Derived.Test.YtfmkdoachjgjbaaGreatDoorMba
import Derived.Test.YtfmkdoachjgjbaaGreatDoorMcg
import Derived.Test.YtfmkdoachjgjbaaGreatDoorMdg
set_option linter.unusedVariables false
set_option linter.unusedSimpArgs false
namespace Go.Proofs.YtfmkdoachjgjbaaGreatDoor
open Go.RowKit

attribute [local go_sem ↓ high] ld_hsh_fold st_hsh_fold al_hsh_fold bd_hsh_fold
attribute [local go_sem] ld_hsh st_hsh al_hsh rowN_drew
theorem bd_hsh1T (x : Int) (w : World) : (bdHsh #[(0, .int .u8 x)]).run Tryz.prog w = .ok (.agg (hshV (x :: List.replicate 31 0)).toArray) w := run_build w _ _ _ (by kernel_rfl)
-- the two setups
def seedIT (x : Int) : List Int := x :: List.replicate 31 0
def setAT (ours cap : Int) : SetupV := ⟨9, cap, ours, seedIT 3, ⟨#[107]⟩, ⟨#[108]⟩⟩
def setBT (ours cap : Int) : SetupV := ⟨9, cap, IntKind.u64.wrap (cap - ours), seedIT 4, ⟨#[108]⟩, ⟨#[107]⟩⟩
theorem setA_okT {ours cap : Int} (h1 : 0 ≤ ours ∧ ours < 18446744073709551616) (h2 : 0 ≤ cap ∧ cap < 18446744073709551616) : (setAT ours cap).Ok := ⟨by show (0 : Int) ≤ 9 ∧ (9 : Int) < 4294967296; decide, h2, h1, rfl⟩
theorem setB_okT {ours cap : Int} (h2 : 0 ≤ cap ∧ cap < 18446744073709551616) : (setBT ours cap).Ok := ⟨by show (0 : Int) ≤ 9 ∧ (9 : Int) < 4294967296; decide, h2, u64_mod _, rfl⟩
def bdSetT (p : Array (Nat × Value)) : Sem Value := Instr.build 78 p
theorem bd_set_foldT (p : Array (Nat × Value)) : Instr.build 78 p = bdSetT p := rfl
theorem bd_setAT (ours cap : Int) (w : World) : (bdSetT #[(0, .int .u32 9), (1, .int .u64 cap), (2, .int .u64 ours), (3, .agg (hshV (seedIT 3)).toArray), (4, .string ⟨#[107]⟩), (5, .string ⟨#[108]⟩)]).run Tryz.prog w = .ok (.agg (setAT ours cap).cells.toArray) w := run_build w _ _ _ (by kernel_rfl)
theorem bd_setBT (o cap : Int) (w : World) : (bdSetT #[(0, .int .u32 9), (1, .int .u64 cap), (2, .int .u64 o), (3, .agg (hshV (seedIT 4)).toArray), (4, .string ⟨#[108]⟩), (5, .string ⟨#[107]⟩)]).run Tryz.prog w = .ok (.agg (SetupV.cells ⟨9, cap, o, seedIT 4, ⟨#[108]⟩, ⟨#[107]⟩⟩).toArray) w := run_build w _ _ _ (by kernel_rfl)
def bdSt2T (p : Array (Nat × Value)) : Sem Value := Instr.build 97 p
theorem bd_st2_foldT (p : Array (Nat × Value)) : Instr.build 97 p = bdSt2T p := rfl
def sets2T (a b : SetupV) : List Value := a.cells ++ b.cells
theorem Tryz.infoSt2T : (Tryz.prog.info? 97).map (·.size) = some 74 := by kernel_rfl
def stSt2T (x v : Value) : Sem Unit := Instr.storeAt 97 x v
theorem st_st2_foldT (x v : Value) : Instr.storeAt 97 x v = stSt2T x v := rfl
theorem st_st2T (b o : Nat) (A : Array Value) (w : World) : (stSt2T (.pointer (some ⟨b, o, none⟩)) (.agg A)).run Tryz.prog w = if stOk w b o 74 A = true then .ok () (w.setCells b o A.toList) else slowSt Tryz.prog 97 w b o A :=
  run_storeAt_row 97 74 Tryz.infoSt2T b o A w
def zSt2T : List Value := zSetup ++ zSetup
def alSt2T : Sem Value := Instr.alloc 97 true (.tuple #[])
theorem al_st2_foldT : Instr.alloc 97 true (.tuple #[]) = alSt2T := rfl
theorem al_st2T (w : World) : alSt2T.run Tryz.prog w = .ok (.pointer (some ⟨w.heap.size, 0, none⟩)) (w.alloc (.cells zSt2T.toArray 97)) := by kernel_rfl
theorem bd_st2T (o1 c1 o2 c2 : Int) (w : World) : (bdSt2T #[(0, .agg (setAT o1 c1).cells.toArray), (1, .agg (SetupV.cells ⟨9, c2, o2, seedIT 4, ⟨#[108]⟩, ⟨#[107]⟩⟩).toArray)]).run Tryz.prog w = .ok (.agg (sets2T (setAT o1 c1) ⟨9, c2, o2, seedIT 4, ⟨#[108]⟩, ⟨#[107]⟩⟩).toArray) w := run_build w _ _ _ (by kernel_rfl)
theorem SetupV.oneT (s : SetupV) : ∀ v ∈ s.cells, v.oneCell' = true := by
  intro v hv
  simp only [SetupV.cells, List.mem_cons, List.mem_append, List.mem_map, List.not_mem_nil, or_false] at hv
  rcases hv with rfl | rfl | rfl | ⟨n, _, rfl⟩ | rfl | rfl <;> rfl
/-- Two setups in a block. -/
structure St2T (w : World) (b : Nat) (s t : SetupV) : Prop where
  at_ : w.heap[b]? = some (.cells (sets2T s t).toArray 97 (0, 0))
  l1 : s.seed.length = 32
  l2 : t.seed.length = 32
theorem sets2_lenT {s t : SetupV} (h1 : s.seed.length = 32) (h2 : t.seed.length = 32) : (sets2T s t).length = 74 := by unfold sets2T; rw [List.length_append, s.len h1, t.len h2]
theorem St2T.upd {S : Nat → Prop} {w w' : World} {b : Nat} {s t : SetupV} (a : St2T w b s t) (u : Upd S w w') (n : ¬ S b) : St2T w' b s t := ⟨u.old a.at_ n, a.l1, a.l2⟩
theorem St2T.new {w w' : World} {b : Nat} {s t : SetupV} (a : St2T w b s t) (u : New w w') : St2T w' b s t := a.upd u (fun h => h)
theorem St2T.row0 {w : World} {b : Nat} {s t : SetupV} (a : St2T w b s t) : rowN w b 0 37 = some s.cells.toArray := by
  rw [rowN_blk a.at_ 0 37 (by rw [List.size_toArray, sets2_lenT a.l1 a.l2]; omega)]
  congr 1
  apply Array.ext'
  rw [Array.toList_extract]
  show List.extract (s.cells ++ t.cells) 0 37 = s.cells
  rw [List.extract_eq_take_drop, List.drop_zero, List.take_append_of_le_length (by rw [s.len a.l1]; exact Nat.le_refl _), List.take_of_length_le (by rw [s.len a.l1]; exact Nat.le_refl _)]
theorem St2T.row1 {w : World} {b : Nat} {s t : SetupV} (a : St2T w b s t) : rowN w b 37 37 = some t.cells.toArray := by
  rw [rowN_blk a.at_ 37 37 (by rw [List.size_toArray, sets2_lenT a.l1 a.l2]; omega)]
  congr 1
  apply Array.ext'
  rw [Array.toList_extract]
  show List.extract (s.cells ++ t.cells) 37 74 = t.cells
  rw [List.extract_eq_take_drop, drop_app (s.len a.l1), List.take_of_length_le (by rw [t.len a.l2]; exact Nat.le_refl _)]
theorem st2_freshT {w : World} {b : Nat} (h : w.heap[b]? = some (.cells zSt2T.toArray 97 (0, 0))) {s t : SetupV} (h1 : s.seed.length = 32) (h2 : t.seed.length = 32) :
    stOk w b 0 74 (sets2T s t).toArray = true ∧ St2T (w.setCells b 0 (sets2T s t)) b s t := by
  have hl := sets2_lenT h1 h2
  refine ⟨stOk_all (C := zSt2T.toArray) h (by rw [hl]; rfl) (fun v hv => (List.mem_append.1 hv).elim (s.oneT v) (t.oneT v)), ⟨?_, h1, h2⟩⟩
  rw [blk_setCells h 0 _]
  exact congrArg (fun z => some (Obj.cells z 97 (0, 0))) (layIn_whole zSt2T.toArray (sets2T s t) (by rw [hl]; rfl))
attribute [local go_sem ↓ high] bd_set_foldT bd_st2_foldT st_st2_foldT al_st2_foldT
attribute [local go_sem] bd_st2T st_st2T al_st2T bd_setAT bd_setBT
set_option maxRecDepth 100000 in
set_option maxHeartbeats 1000000 in
theorem setups_anyT (ours cap : Int) (w : World) : Calls Tryz.prog 42 #[.int .u64 ours, .int .u64 cap] w (Makes (.agg (sets2T (setAT ours cap) (setBT ours cap)).toArray) w) := by
  go_enter Tryz.func42, Tryz.ntmps42
  go_upto_region 1 with fail
  have hB := blk_alloc w (.cells zSt2T.toArray 97)
  have n1 : New w (w.alloc (.cells zSt2T.toArray 97)) := (Upd.refl _ _).alloc _
  generalize w.alloc (.cells zSt2T.toArray 97) = w1 at hB n1 ⊢
  obtain ⟨B, hBe⟩ : ∃ B, B = w.heap.size := ⟨_, rfl⟩
  rw [← hBe] at hB ⊢
  have hBl : w.heap.size ≤ B := by omega
  clear hBe
  obtain ⟨hst, hF⟩ := st2_freshT hB (s := setAT ours cap) (t := setBT ours cap) rfl rfl
  have hseb : setBT ours cap = ⟨9, cap, IntKind.u64.wrap (cap - ours), seedIT 4, ⟨#[108]⟩, ⟨#[107]⟩⟩ := rfl
  have h1 := fun W => bd_hsh1T 3 W
  have h2 := fun W => bd_hsh1T 4 W
  have e1 : (3 : Int) :: List.replicate 31 0 = seedIT 3 := rfl
  have e2 : (4 : Int) :: List.replicate 31 0 = seedIT 4 := rfl
  rw [e1] at h1
  rw [e2] at h2
  have HF := hide hF
  have HN := hide (n1.then (upd_sets (w := w1) (b := B) (sets2T (setAT ours cap) (setBT ours cap))) (fun i hi e => by omega))
  clear hF hB n1 e1 e2
  rw [hseb] at hst HF HN
  have HS := hide hseb
  clear hseb
  go_wp2_with fail
  have hF := unhide HF
  rw [unhide HS]
  exact bodyPost_ret (results_cell_row rfl _ _ B _ _ _ _ rfl hF.at_ Tryz.underlying97 rfl (by rw [List.size_toArray, sets2_lenT hF.l1 hF.l2]; exact Tryz.infoSt2T)) rfl ⟨rfl, unhide HN⟩

end Go.Proofs.YtfmkdoachjgjbaaGreatDoor
namespace Go.Proofs.YtfmkdoachjgjbaaGreatDoor
open Go.RowKit

theorem setA_mayT {ours cap : Int} (h : 1 ≤ cap ∧ cap ≤ 1125899906842624 ∧ ours ≤ cap) : (setAT ours cap).may := ⟨h.1, h.2.1, h.2.2, by show 1 ≤ 64; decide, by show 1 ≤ 64; decide⟩
theorem setB_mayT {ours cap : Int} (ho : 0 ≤ ours) (h : 1 ≤ cap ∧ cap ≤ 1125899906842624 ∧ ours ≤ cap) : (setBT ours cap).may := by
  refine ⟨h.1, h.2.1, ?_, by show 1 ≤ 64; decide, by show 1 ≤ 64; decide⟩
  show IntKind.u64.wrap (cap - ours) ≤ cap
  rw [wrapU (by omega) (by omega)]
  omega
def pairC (x y : Value) : List Value := [x, y, .string ⟨#[]⟩, .string ⟨#[]⟩, .bool false]
/-- The first link of a pair. -/
structure Lt (w0 w : World) (p g : Nat) (S : Nat → Prop) (L : Lk) : Prop where
  cell : w.cell? ⟨p, 0, none⟩ = some (.pointer (some ⟨g, 0, none⟩))
  lk : LkS w g S L
  ge : ∀ i, S i → w0.heap.size ≤ i
  pge : w0.heap.size ≤ p
  pS : ¬ S p
  plt : p < w.heap.size
  new : New w0 w
theorem Lt.op {w0 w w' : World} {p g : Nat} {S : Nat → Prop} {L L' : Lk} (h : Lt w0 w p g S L) (u : Upd S w w') (hl : LkS w' g (Fr S w w') L') : Lt w0 w' p g (Fr S w w') L' := by
  have hz := h.new.size
  have hp := h.plt
  exact ⟨u.cell h.cell h.pS, hl, fun i hi => hi.elim (h.ge i) (fun e => by omega), h.pge, fun e => e.elim h.pS (fun e => by omega), Nat.lt_of_lt_of_le hp u.size, h.new.then u (fun i hi e => by have := h.ge i e; omega)⟩
theorem Lt.opS {w0 w w' : World} {p g : Nat} {S : Nat → Prop} {L L' : Lk} (h : Lt w0 w p g S L) (u : Upd S w w') (hl : LkS w' g S L') : Lt w0 w' p g S L' :=
  ⟨u.cell h.cell h.pS, hl, h.ge, h.pge, h.pS, Nat.lt_of_lt_of_le h.plt u.size, h.new.then u (fun i hi e => by have := h.ge i e; omega)⟩
theorem Lt.nw {w0 w w' : World} {p g : Nat} {S : Nat → Prop} {L : Lk} (h : Lt w0 w p g S L) (u : New w w') : Lt w0 w' p g S L :=
  ⟨u.cell h.cell (fun h => h), h.lk.new u, h.ge, h.pge, h.pS, Nat.lt_of_lt_of_le h.plt u.size, h.new.trans u⟩
def BegSt (w2 : World) (p : Nat) (sA : SetupV) (i : Nat) (w : World) : Prop :=
  Upd (· = p) w2 w ∧ ∃ x y, w.heap[p]? = some (.cells (pairC x y).toArray 32 (0, 0)) ∧ (1 ≤ i → ∃ g S, x = .pointer (some ⟨g, 0, none⟩) ∧ LkS w g S (.new (Ch.new sA)) ∧ (∀ k, S k → w2.heap.size ≤ k))
attribute [local go_sem ↓ high] st_st2_foldT al_st2_foldT ld_setup_fold
attribute [local go_sem] rowN_drew st_st2T al_st2T ld_setup
set_option maxRecDepth 100000 in
set_option maxHeartbeats 2000000 in
theorem begin18 (ours cap : Int) (ho : 0 ≤ ours ∧ ours < 18446744073709551616) (hc : 0 ≤ cap ∧ cap < 18446744073709551616) (hm : 1 ≤ cap ∧ cap ≤ 1125899906842624 ∧ ours ≤ cap) (w : World) :
    Calls Tryz.prog 9 #[.int .u64 ours, .int .u64 cap] w fun e w' => ∃ p g S, e = .returned (.pointer (some ⟨p, 0, none⟩)) ∧ Lt w w' p g S (.new (Ch.new (setAT ours cap))) := by
  have hokA := setA_okT ho hc
  have hokB := setB_okT (ours := ours) hc
  have hmA := setA_mayT hm
  have hmB := setB_mayT ho.1 hm
  go_enter Tryz.func9, Tryz.ntmps9
  go_wp2_with fail
  obtain ⟨wp, hwp⟩ : ∃ wp : World, wp = w.alloc (.cells #[.pointer none, .pointer none, .string ⟨#[]⟩, .string ⟨#[]⟩, .bool false] 32) := ⟨_, rfl⟩
  have hp0 : wp.heap[w.heap.size]? = some (.cells (pairC (.pointer none) (.pointer none)).toArray 32 (0, 0)) := by rw [hwp]; exact blk_alloc _ _
  have np : New w wp := by rw [hwp]; exact (Upd.refl _ _).alloc _
  rw [← hwp]
  clear hwp
  obtain ⟨p, hpe⟩ : ∃ p, p = w.heap.size := ⟨_, rfl⟩
  rw [← hpe] at hp0 ⊢
  have hpl : w.heap.size ≤ p := by omega
  clear hpe
  refine (setups_anyT ours cap wp).mono ?_
  rintro e w1 ⟨rfl, n1⟩
  obtain ⟨hst, hF⟩ := st2_freshT (blk_alloc w1 (.cells zSt2T.toArray 97)) (s := setAT ours cap) (t := setBT ours cap) rfl rfl
  have n2 : New wp ((w1.alloc (.cells zSt2T.toArray 97)).setCells w1.heap.size 0 (sets2T (setAT ours cap) (setBT ours cap))) := (n1.alloc _).then (upd_sets _) (fun i hi e => by have := n1.size; omega)
  have hpT : p < w1.heap.size := Nat.lt_of_lt_of_le (blk_lt hp0) n1.size
  obtain ⟨sA, hsA⟩ : ∃ sA, sA = setAT ours cap := ⟨_, rfl⟩
  obtain ⟨sB, hsB⟩ : ∃ sB, sB = setBT ours cap := ⟨_, rfl⟩
  rw [← hsA] at hst hF n2 hokA hmA ⊢
  rw [← hsB] at hst hF n2 hokB hmB ⊢
  have HSA := hide hsA
  clear n1 hsA hsB
  go_upto_region 3 with fail
  generalize (w1.alloc (.cells zSt2T.toArray 97)).setCells w1.heap.size 0 (sets2T sA sB) = w2 at hF n2 ⊢
  generalize w1.heap.size = T at hF hpT ⊢
  clear hst w1
  have hp2 := n2.old hp0 (fun h => h)
  have N2 := hide (np.trans n2)
  have HF := hide hF
  have hwz := (np.trans n2).size
  have H0 : Hid (BegSt w2 p sA 0 w2) := hide ⟨Upd.refl _ _, _, _, hp2, fun h => by omega⟩
  have HO := hide (And.intro hokA (And.intro hokB (And.intro hmA hmB)))
  have hpt : p < w2.heap.size := blk_lt hp2
  clear n2 np hp0 hF hp2 hokA hokB hmA hmB
  go_wp2_with fail
  go_loopw [7] (fun iv wr => ∃ i : Nat, iv = .int .i64 (i : Int) ∧ i ≤ 2 ∧ Hid (BegSt w2 p sA i wr)) (fun iv _ => 2 - (intOf iv).toNat)
  case atStart => exact ⟨0, rfl, by omega, H0⟩
  case round =>
    obtain ⟨i, rfl, hi, hrel⟩ := hrel
    obtain ⟨wq, rfl⟩ : ∃ wq : World, wq = wr := ⟨_, rfl⟩
    obtain ⟨ur, x, y, hp, hL⟩ := unhide hrel
    have hFq := (unhide HF).upd ur (fun e => by omega)
    have hzq := ur.size
    rcases (by omega : i = 0 ∨ i = 1 ∨ i = 2) with rfl | rfl | rfl
    · rw [show ((0 : Nat) : Int) = 0 from rfl]
      have r0 := hFq.row0
      have hnew := newL_any sA (unhide HO).1 wq.drew
      have HQ := hide (And.intro ur hp)
      clear ur hp hL hFq hrel
      go_wp2_with (with_reducible first | (first | refine' tw1 (ido ?_) ?_ | refine' tw2 (ido ?_) ?_); rotate_left | refine' tw3 (ido ?_) | rfl | apply tn | refine' tw4 ?_)
      refine hnew.mono ?_
      rintro e w3 (⟨-, g, l, rfl, hN, n3⟩ | ⟨hm', -⟩)
      case inr => exact absurd (unhide HO).2.2.1 hm'
      obtain ⟨ur, hp⟩ := unhide HQ
      have n3 : New wq w3 := n3.ofDrew
      have hp3 := n3.old hp (fun h => h)
      have f0 := blk_free hp3 0
      have c0 : w3.cell? ⟨p, 0, none⟩ = some x := blk_cell hp3 0
      have hput : (w3.setCell ⟨p, 0, none⟩ (.pointer (some ⟨g, 0, none⟩))).heap[p]? = some (.cells (pairC (.pointer (some ⟨g, 0, none⟩)) y).toArray 32 (0, 0)) := blk_set hp3 0 (.pointer (some ⟨g, 0, none⟩))
      have u4 : Upd (· = p) w3 (w3.setCell ⟨p, 0, none⟩ (.pointer (some ⟨g, 0, none⟩))) := (Upd.refl _ _).set1 _ _
      have hw := hN.whole (unhide HO).1 (unhide HO).2.2.1
      have hge := hN.ge
      have hge : wq.heap.size ≤ g ∧ wq.heap.size ≤ l.sp ∧ wq.heap.size ≤ l.en ∧ wq.heap.size ≤ l.lo := hge
      have hSg : ∀ k, (k = g ∨ k = l.sp ∨ k = l.en ∨ k = l.lo) → w2.heap.size ≤ k := by
        rintro k (e | e | e | e) <;> omega
      have hw4 := hw.upd u4 (fun k hk e => by have := hSg k hk; omega)
      have H4 : Hid (BegSt w2 p sA 1 (w3.setCell ⟨p, 0, none⟩ (.pointer (some ⟨g, 0, none⟩)))) := hide ⟨(ur.trans (n3.mono (fun _ _ h => h.elim))).trans u4, _, _, hput, fun _ => ⟨g, _, rfl, hw4, hSg⟩⟩
      have d0 : (w3.setCell ⟨p, 0, none⟩ (.pointer (some ⟨g, 0, none⟩))).cell? ⟨p, 0, none⟩ = some (.pointer (some ⟨g, 0, none⟩)) := blk_cell hput 0
      clear HQ ur hp n3 hp3 hput u4 hw hge hSg hw4 hN r0 hnew
      go_wp2_with (with_reducible first | (first | refine' tw1 (ido ?_) ?_ | refine' tw2 (ido ?_) ?_); rotate_left | refine' tw3 (ido ?_) | rfl | apply tn | refine' tw4 ?_)
      go_roundw
      case rel => exact ⟨1, rfl, by omega, H4⟩
      case measure => simp [intOf]
    · rw [show ((1 : Nat) : Int) = 1 from rfl]
      have r1 := hFq.row1
      have hnew := newL_any sB (unhide HO).2.1 wq.drew
      have HQ := hide (And.intro ur (And.intro hp hL))
      clear ur hp hL hFq hrel
      go_wp2_with (with_reducible first | (first | refine' tw1 (ido ?_) ?_ | refine' tw2 (ido ?_) ?_); rotate_left | refine' tw3 (ido ?_) | rfl | apply tn | refine' tw4 ?_)
      refine hnew.mono ?_
      rintro e w3 (⟨-, g, l, rfl, hN, n3⟩ | ⟨hm', -⟩)
      case inr => exact absurd (unhide HO).2.2.2 hm'
      obtain ⟨ur, hp, hL⟩ := unhide HQ
      have n3 : New wq w3 := n3.ofDrew
      have hp3 := n3.old hp (fun h => h)
      have f0 := blk_free hp3 1
      have c0 : w3.cell? ⟨p, 1, none⟩ = some y := blk_cell hp3 1
      have hput : (w3.setCell ⟨p, 1, none⟩ (.pointer (some ⟨g, 0, none⟩))).heap[p]? = some (.cells (pairC x (.pointer (some ⟨g, 0, none⟩))).toArray 32 (0, 0)) := blk_set hp3 1 (.pointer (some ⟨g, 0, none⟩))
      have u4 : Upd (· = p) w3 (w3.setCell ⟨p, 1, none⟩ (.pointer (some ⟨g, 0, none⟩))) := (Upd.refl _ _).set1 _ _
      have d0 : (w3.setCell ⟨p, 1, none⟩ (.pointer (some ⟨g, 0, none⟩))).cell? ⟨p, 1, none⟩ = some (.pointer (some ⟨g, 0, none⟩)) := blk_cell hput 1
      have H4 : Hid (BegSt w2 p sA 2 (w3.setCell ⟨p, 1, none⟩ (.pointer (some ⟨g, 0, none⟩)))) := hide (by
        obtain ⟨g0, S0, e0, h0, hge⟩ := hL (by omega)
        exact ⟨(ur.trans (n3.mono (fun _ _ h => h.elim))).trans u4, _, _, hput, fun _ => ⟨g0, S0, e0, (h0.new n3).upd u4 (fun k hk e => by have := hge k hk; omega), hge⟩⟩)
      clear HQ ur hp n3 hp3 hput u4 hN r1 hnew hL
      go_wp2_with (with_reducible first | (first | refine' tw1 (ido ?_) ?_ | refine' tw2 (ido ?_) ?_); rotate_left | refine' tw3 (ido ?_) | rfl | apply tn | refine' tw4 ?_)
      go_roundw
      case rel => exact ⟨2, rfl, by omega, H4⟩
      case measure => simp [intOf]
    · rw [show ((2 : Nat) : Int) = 2 from rfl]
      have HQ := hide (And.intro ur (And.intro hp hL))
      clear ur hp hL hFq hrel
      go_wp2_with (with_reducible first | (first | refine' tw1 (ido ?_) ?_ | refine' tw2 (ido ?_) ?_); rotate_left | refine' tw3 (ido ?_) | rfl | apply tn | refine' tw4 ?_)
      go_ret
      obtain ⟨ur, hp, hL⟩ := unhide HQ
      obtain ⟨g0, S0, e0, h0, hge⟩ := hL (by omega)
      rw [← unhide HSA]
      refine ⟨p, g0, S0, rfl, ⟨?_, h0, fun i hi => by have := hge i hi; omega, hpl, fun e => by have := hge _ e; omega, blk_lt hp, (unhide N2).then ur (fun i hi e => by omega)⟩⟩
      rw [blk_cell hp 0, e0]
      rfl
end Go.Proofs.YtfmkdoachjgjbaaGreatDoor
