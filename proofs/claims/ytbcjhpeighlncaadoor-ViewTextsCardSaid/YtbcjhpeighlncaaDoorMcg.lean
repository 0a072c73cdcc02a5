/-
  Operations one by one, each by its own run: for bodies whose literals are too long for the walk.
-/
import Derived.Test.YtbcjhpeighlncaaDoorMae
import Derived.Laws.Tables
import Derived.Test.YtbcjhpeighlncaaDoorMcd
import Derived.Test.YtbcjhpeighlncaaDoorDagP
import Derived.Laws.BitsAllLaws
import Derived.Laws.Bits64
import Derived.IntWalk
import Derived.Outline
import Derived.Deep.CutRange
import Derived.BigRegion
import Derived.Deep.RegionLaw
namespace Go.Proofs.YtbcjhpeighlncaaDoor
set_option linter.unusedVariables false
set_option linter.unusedSimpArgs false
open Go.RowKit

section
variable {P : Program} {ops : Array Oper} {rest : List Oper} {o : Oper} {a : Act} {w w' : World} {Q : Exit → Act → World → Prop}
theorem wpList_val {v : Value} (hg : o.guard = none) (h : (execOp a.eval o).run P w = .ok (.value v) w') (k : wpList P ops Q rest (a.put o.dst v) w') : wpList P ops Q (o :: rest) a w :=
  wpList_plain hg fun K hK => by
    unfold Oper.wp
    rw [h]
    exact hK _ _ k
theorem wpList_skip (hg : o.guard = none) (h : (execOp a.eval o).run P w = .ok .skip w') (k : wpList P ops Q rest (a.put o.dst undef) w') : wpList P ops Q (o :: rest) a w :=
  wpList_plain hg fun K hK => by
    unfold Oper.wp
    rw [h]
    exact hK _ _ k
theorem wpList_call {f : FuncId} {args : Array Value} (hg : o.guard = none) (h : (execOp a.eval o).run P w = .ok (.enter f args) w')
    (k : Calls P f args w' fun e w'' => ∃ v, e = .returned v ∧ wpList P ops Q rest (a.put o.dst v) w'') : wpList P ops Q (o :: rest) a w :=
  wpList_plain hg fun K hK => by
    unfold Oper.wp
    rw [h]
    simp only [Oper.upon]
    refine k.mono fun e w'' he => ?_
    obtain ⟨v, rfl, hv⟩ := he
    exact hK _ _ hv
end
theorem Upd.setRow {S : Nat → Prop} {a w : World} (h : Upd S a w) {g : Nat} (hg : g < a.heap.size → S g) (cs : Array Value) : Upd S a (w.setRow g cs) :=
  ⟨h.os, h.tape, h.output, by simpa using h.size, fun i hi hn => by
    rw [setRow_other _ _ _ _ (show i ≠ g from fun e => hn (e ▸ hg (e ▸ hi)))]
    exact h.block i hi hn⟩

end Go.Proofs.YtbcjhpeighlncaaDoor

/-
  Package octet: the writer; the reference's numbers.
-/
namespace Go.Proofs.YtbcjhpeighlncaaDoor
set_option linter.unusedVariables false
set_option linter.unusedSimpArgs false
open Go.RowKit

/-- The bytes of a number, the highest one first. -/
def numI (n : Nat) (width : Nat) : List Int := (List.range width).map fun k => (n : Int) / 2 ^ (8 * (width - 1 - k)) % 256
theorem numI_len (n width : Nat) : (numI n width).length = width := by simp [numI]
def numS (n width : Nat) : ByteArray := strOfNums (numI n width)
theorem numS_size (n width : Nat) : (numS n width).size = width := by unfold numS; rw [strOfNums_size, numI_len]
/-- A writer, that holds s. -/
def Wr (w : World) (g : Nat) (s : ByteArray) : Prop := w.heap[g]? = some (.cells #[.string s] 80 (0, 0))
theorem Wr.new {w w' : World} {g : Nat} {s : ByteArray} (h : Wr w g s) (n : New w w') : Wr w' g s := n.old h (fun h => h)
theorem Wr.lt {w : World} {g : Nat} {s : ByteArray} (h : Wr w g s) : g < w.heap.size := blk_lt h

/-- Block b holds just these bytes. -/
def Ints8 (w : World) (b : Nat) (ws : List Int) : Prop := ∃ T, w.heap[b]? = some (.cells (ws.map (Value.int .u8)).toArray T (0, 0))
def pref (n width m : Nat) : List Int := (List.range m).map fun k => (n : Int) / 2 ^ (8 * (width - 1 - k)) % 256
set_option maxRecDepth 100000 in
set_option maxHeartbeats 1000000 in
theorem number_any (g n width : Nat) (s : ByteArray) (w : World) (hg : Wr w g s) (hw1 : 1 ≤ width) (hw8 : width ≤ 8) (hn : n < 2 ^ (8 * width)) (hs : s.size ≤ 1073741824) :
    Calls Tryd.prog 37 #[.pointer (some ⟨g, 0, none⟩), .int .u64 n, .int .i64 width] w fun e w' => e = .returned (.int .i64 0) ∧ Upd (fun k => k = g) w w' ∧ Wr w' g (s ++ numS n width) := by
  have hn64 : n < 18446744073709551616 := Nat.lt_of_lt_of_le hn (by
    have : (2 : Nat) ^ (8 * width) ≤ 2 ^ 64 := Nat.pow_le_pow_right (by decide) (by omega)
    exact this)
  have hsh : (n : Int) / 2 ^ (8 * width) = 0 := by
    refine Int.ediv_eq_zero_of_lt (by omega) ?_
    exact_mod_cast hn
  have hw1' : (1 : Int) ≤ width := by omega
  have hw8' : (width : Int) ≤ 8 := by omega
  have hwt : (8 * (width : Int)).toNat = 8 * width := by omega
  have hlt : decide ((width : Int) < 1) = false := by simp; omega
  have hgt : decide ((8 : Int) < (width : Int)) = false := by simp; omega
  have hlt1 : ¬ (width : Int) < 1 := by omega
  have hgt1 : ¬ (8 : Int) < (width : Int) := by omega
  have hn1 : (n : Int) < 18446744073709551616 := by omega
  go_enter Tryd.func37, Tryd.ntmps37
  go_wp2_with fail
  clear hsh hwt hlt hgt hlt1 hgt1
  have hgl := hg.lt
  go_loopw [7, 8] (fun bv iv wr => ∃ (m : Nat) (a : Option Addr) (c : Nat), iv = .int .i64 ((width : Int) - 1 - (m : Int)) ∧ m ≤ width ∧ bv = .slice a m c ∧ Hid (BytesO wr w.heap.size bv (pref n width m)) ∧ Upd (fun k => w.heap.size ≤ k) w wr) (fun _ iv _ => (intOf iv + 1).toNat)
  case atStart => exact ⟨0, _, _, by simp, Nat.zero_le _, rfl, hide (BytesO.nil _ _), Upd.refl _ _⟩
  case round =>
    obtain ⟨m, a, c, rfl, hm, rfl, HO, ur⟩ := hrel
    by_cases hlt : m < width
    · have hm0 : (m : Int) < (width : Int) := by omega
      have hb := ur.size
      have ht : (8 * ((width : Int) - 1 - (m : Int))).toNat = 8 * (width - 1 - m) := by omega
      have hp : ∀ k : Nat, (n : Int) / 2 ^ k < 18446744073709551616 ∧ 0 ≤ (n : Int) / 2 ^ k := fun k => by
        have hp : (1 : Int) ≤ 2 ^ k := Int.pow_pos (by decide)
        exact ⟨Int.lt_of_le_of_lt (Int.ediv_le_self _ (by omega)) hn1, Int.ediv_nonneg (by omega) (by omega)⟩
      obtain ⟨q1, q0⟩ := hp (8 * (width - 1 - m))
      have hwr : IntKind.u64.wrap ((n : Int) / 2 ^ (8 * (width - 1 - m))) = (n : Int) / 2 ^ (8 * (width - 1 - m)) := by rw [IntKind.wrap_u64]; omega
      have HN64 := hide (And.intro hn64 hn1)
      have hpl : (pref n width m).length ≤ 1073741824 := by simp [pref]; omega
      have hpn : pref n width (m + 1) = pref n width m ++ [(n : Int) / 2 ^ (8 * (width - 1 - m)) % 256] := by unfold pref; rw [List.range_succ, List.map_append]; rfl
      have hpl2 : (pref n width (m + 1)).length = m + 1 := by simp [pref]
      have HPN := hide hpn
      have HPL := hide hpl2
      have hnn : 0 ≤ (width : Int) - 1 - (m : Int) := by omega
      clear hp hpn hpl2 q1 hn64 hn1
      go_wp2_with (at_builtin; refine append_byte rfl (.tmp 28) (.tmp 34) rfl w.heap.size _ _ rfl _ _ _ rfl (unhide HO) hpl hb ?_)
      intro v' w5 hO5 u5
      have u6 := ur.then u5 (fun q _ h => ((unhide HO).ge h).1)
      rw [← unhide HPN] at hO5
      obtain ⟨a5, c5, rfl⟩ := hO5.shape
      rw [unhide HPL] at hO5 ⊢
      have HO5 := hide hO5
      clear hO5 u5 HO HPN q0 hpl ht hnn hwr
      go_wp2
      go_roundw
      case rel => exact ⟨m + 1, a5, c5, by congr 1; omega, by omega, rfl, HO5, u6⟩
      case measure => simp [intOf]; omega
    · obtain rfl : m = width := by omega
      rw [show (m : Int) - 1 - (m : Int) = -1 by omega]
      have hst := run_string_own (((unhide HO).upd ((Upd.refl (fun _ => False) wr).drew) (fun _ _ h => h)))
      have hg' := ur.old hg (fun h => by omega)
      have c0 := blk_cell hg' 0
      have z0 := blk_free hg' 0
      simp at c0
      have hpe : strOfNums (pref n m m) = numS n m := rfl
      rw [hpe] at hst
      have hq := numS_size n m
      generalize hqe : numS n m = q at hst hq ⊢
      have HQE := hide hqe
      clear hqe
      have hg2 := blk_set hg' 0 (.string (s ++ q))
      have nW : New w wr := Upd.of_below (ur.below' (Nat.le_refl _) (fun _ h => h)) (Nat.le_refl _)
      have uW : Upd (fun k => k = g) w (wr.setCell ⟨g, 0, none⟩ (.string (s ++ q))) := (nW.mono (T := fun k => k = g) (fun _ _ h => h.elim)).set1 0 _
      have HG2 := hide hg2
      clear hg2 nW ur
      clear hpe
      have hbig : ¬ 9223372036854775807 < s.size + m := by omega
      go_wp2_with fail
      go_region_law (fail)
      all_goals
        have hg3 := unhide HG2
        generalize wr.setCell ⟨g, 0, none⟩ (.string (s ++ q)) = wS at hg3 uW ⊢
        go_wp2
        go_ret
        exact ⟨rfl, uW.drew, by rw [unhide HQE]; exact hg3⟩

theorem Ints8.drew {w : World} {b : Nat} {ws : List Int} (h : Ints8 w b ws) : Ints8 w.drew b ws := h
theorem run_string_ints {w : World} {b : Nat} {xs : List Int} (h : Ints8 w b xs) (n : Nat) (hn : xs.length = n) : (convert 48 9 (.slice (some ⟨b, 0, none⟩) n n)).run Tryd.prog w = .ok (.string (strOfNums xs)) w := by
  obtain ⟨T, h⟩ := h
  exact run_string_block w 48 9 5 Tryd.underlying48 Tryd.underlying5 Tryd.underlying9 b n xs T (0, 0) n hn h
theorem Tryd.infoHashO : (Tryd.prog.info? 28).map (·.size) = some 32 := by kernel_rfl
set_option maxRecDepth 100000 in
set_option maxHeartbeats 1000000 in
theorem hash_any (g : Nat) (h : List Int) (s : ByteArray) (w : World) (hg : Wr w g s) (hh : h.length = 32) (hs : s.size ≤ 1073741824) :
    Calls Tryd.prog 39 #[.pointer (some ⟨g, 0, none⟩), .agg (h.map (Value.int .u8)).toArray] w fun e w' => e = .returned (.tuple #[]) ∧ Upd (fun k => k = g) w w' ∧ Wr w' g (s ++ strOfNums h) := by
  have hq : (strOfNums h).size = 32 := by rw [strOfNums_size, hh]
  generalize hhv : (h.map (Value.int .u8)).toArray = hv
  go_enter Tryd.func39, Tryd.ntmps39
  go_upto_region 1 with fail
  have hb : Ints8 (w.alloc (.cells hv 28)) w.heap.size h := ⟨_, by rw [hhv]; exact blk_alloc _ _⟩
  have n1 : New w (w.alloc (.cells hv 28)) := (Upd.refl _ _).alloc _
  have hgl := hg.lt
  have hg' := hg.new n1
  generalize w.alloc (.cells hv 28) = w1 at hb n1 hg' ⊢
  have hst := run_string_ints (hb.drew) 32 hh
  have c0 := blk_cell hg' 0
  have z0 := blk_free hg' 0
  simp at c0
  generalize hqe : strOfNums h = q at hst hq
  have HQE := hide hqe
  have hg2 := blk_set hg' 0 (.string (s ++ q))
  have uW : Upd (fun k => k = g) w (w1.setCell ⟨g, 0, none⟩ (.string (s ++ q))) := (n1.mono (T := fun k => k = g) (fun _ _ h => h.elim)).set1 0 _
  have HG2 := hide hg2
  have hbig : ¬ 9223372036854775807 < s.size + 32 := by omega
  clear hqe hg2 n1 hb hhv hg' hg hh
  go_region_law (fail)
  all_goals
    have hg3 := unhide HG2
    generalize w1.setCell ⟨g, 0, none⟩ (.string (s ++ q)) = wS at hg3 uW ⊢
    go_end0
    exact ⟨rfl, uW.drew, by rw [unhide HQE]; exact hg3⟩

set_option maxHeartbeats 1000000 in
theorem bytesW_any (g : Nat) (s : ByteArray) (w : World) (hg : Wr w g s) :
    Calls Tryd.prog 40 #[.pointer (some ⟨g, 0, none⟩)] w fun e w' => e = .returned (.string s) ∧ w = w' := by
  have c0 := blk_cell hg 0
  simp at c0
  clear hg
  go_enter Tryd.func40, Tryd.ntmps40
  go_wp2
  go_ret
  exact ⟨rfl, rfl⟩

/-! ### The reference's -/
/-- The last m bytes of a number. -/
def sufS (n m : Nat) : ByteArray := strOfNums ((List.range m).map fun k => (n : Int) / 2 ^ (8 * (m - 1 - k)) % 256)
theorem sufS_succ (n m : Nat) : sufS n (m + 1) = strOfNums [(n : Int) / 2 ^ (8 * m) % 256] ++ sufS n m := by
  unfold sufS
  rw [List.range_succ_eq_map, List.map_cons, List.map_map]
  apply ByteArray.ext
  simp only [strOfNums, List.map_cons, List.map_map, ByteArray.data_append]
  rw [List.map_nil, List.append_toArray, List.singleton_append]
  congr 2
  refine List.map_congr_left fun k _ => ?_
  simp only [Function.comp]
  rw [show m + 1 - 1 - (k + 1) = m - 1 - k by omega]
theorem sufS_size (n m : Nat) : (sufS n m).size = m := by unfold sufS; rw [strOfNums_size]; simp

set_option maxRecDepth 100000 in
set_option maxHeartbeats 1000000 in
theorem numberR_any (n width : Nat) (w : World) (hw1 : 1 ≤ width) (hw8 : width ≤ 8) (hn : n < 2 ^ (8 * width)) :
    Calls Tryd.prog 41 #[.int .u64 n, .int .i64 width] w (Makes (.tuple #[.string (numS n width), .int .i64 0]) w) := by
  have hn64 : n < 18446744073709551616 := Nat.lt_of_lt_of_le hn (by
    have : (2 : Nat) ^ (8 * width) ≤ 2 ^ 64 := Nat.pow_le_pow_right (by decide) (by omega)
    exact this)
  have hd : ∀ m, (n : Int) / 2 ^ (8 * m) < 18446744073709551616 ∧ 0 ≤ (n : Int) / 2 ^ (8 * m) := fun m => by
    have hp : (1 : Int) ≤ 2 ^ (8 * m) := Int.pow_pos (by decide)
    exact ⟨Int.lt_of_le_of_lt (Int.ediv_le_self _ (by omega)) (by omega), Int.ediv_nonneg (by omega) (by omega)⟩
  have hdd : ∀ m, (n : Int) / 2 ^ (8 * m) / 256 = (n : Int) / 2 ^ (8 * (m + 1)) := fun m => by
    rw [Int.ediv_ediv_of_nonneg (Int.pow_nonneg (by decide))]
    congr 1
    rw [show 8 * (m + 1) = 8 * m + 8 by omega, Int.pow_add]
    rfl
  have hsh : (n : Int) / 2 ^ (8 * width) = 0 := by
    refine Int.ediv_eq_zero_of_lt (by omega) ?_
    exact_mod_cast hn
  have HD := hide hd
  have HDD := hide hdd
  have HSH := hide hsh
  have hw1' : (1 : Int) ≤ width := by omega
  have hw8' : (width : Int) ≤ 8 := by omega
  have hlt : decide ((width : Int) < 1) = false := by simp; omega
  have hgt : decide ((8 : Int) < (width : Int)) = false := by simp; omega
  clear hd hdd hsh hn64 hn
  go_enter Tryd.func41, Tryd.ntmps41
  go_wp2_with fail
  clear hlt hgt
  go_loopw [0, 6, 7] (fun nv sv iv wr => ∃ m : Nat, nv = .int .u64 ((n : Int) / 2 ^ (8 * m)) ∧ sv = .string (sufS n m) ∧ iv = .int .i64 (m : Int) ∧ m ≤ width ∧ New w wr) (fun _ _ iv _ => width - (intOf iv).toNat)
  case atStart => exact ⟨0, by simp, rfl, rfl, Nat.zero_le _, Upd.refl _ _⟩
  case round =>
    obtain ⟨m, rfl, rfl, rfl, hm, ur⟩ := hrel
    obtain ⟨wq, rfl⟩ : ∃ wq : World, wq = wr := ⟨_, rfl⟩
    by_cases hlt : m < width
    · have hm0 : (m : Int) < (width : Int) := by omega
      obtain ⟨d1, d0⟩ := unhide HD m
      have hx := unhide HDD m
      have hs1 := sufS_succ n m
      have hs2 := sufS_size n m
      generalize (n : Int) / 2 ^ (8 * m) = q at d1 d0 hx hs1
      have hwq : IntKind.u64.wrap (q.tdiv 256) = q / 256 := by rw [Int.tdiv_eq_ediv_of_nonneg d0, IntKind.wrap_u64]; omega
      have hwq2 : IntKind.u64.wrap (q % 256) = q % 256 := by rw [IntKind.wrap_u64]; omega
      have hst := run_string_one (P := Tryd.prog) 48 9 5 Tryd.underlying48 Tryd.underlying5 Tryd.underlying9 5 wq (q % 256)
      generalize hts : sufS n m = t at hs1 hs2 ⊢
      have hq1 : (strOfNums [q % 256]).size = 1 := by rw [strOfNums_size]; rfl
      generalize strOfNums [q % 256] = y at hst hs1 hq1
      have HS1 := hide hs1
      have HX := hide hx
      have n1 : New w (wq.alloc (.cells #[.int .u8 (q % 256)] 5)) := ur.alloc _
      clear d1 hs1 hx hts
      go_wp2
      clear hwq hwq2
      go_roundw
      case rel => exact ⟨m + 1, by rw [unhide HX], by rw [unhide HS1], by go_num, by omega, n1⟩
      case measure => simp [intOf]; omega
    · obtain rfl : m = width := by omega
      rw [unhide HSH]
      have hfin : sufS n m = numS n m := rfl
      rw [hfin]
      clear hfin
      generalize hq : numS n m = q
      have HQ := hide hq
      clear hq
      go_wp2
      go_ret2
      exact ⟨by rw [unhide HQ]; rfl, ur⟩

set_option maxHeartbeats 1000000 in
theorem hashR_any (h : List Int) (w : World) (hh : h.length = 32) :
    Calls Tryd.prog 43 #[.agg (h.map (Value.int .u8)).toArray] w (Makes (.string (strOfNums h)) w) := by
  generalize hhv : (h.map (Value.int .u8)).toArray = hv
  go_enter Tryd.func43, Tryd.ntmps43
  go_upto_region 1 with fail
  have hb : Ints8 (w.alloc (.cells hv 28)) w.heap.size h := ⟨_, by rw [hhv]; exact blk_alloc _ _⟩
  have n1 : New w (w.alloc (.cells hv 28)) := (Upd.refl _ _).alloc _
  generalize w.alloc (.cells hv 28) = w1 at hb n1 ⊢
  have hst := run_string_ints hb 32 hh
  generalize hqe : strOfNums h = q at hst
  have HQE := hide hqe
  clear hqe hhv hb hh
  go_wp2
  go_ret
  exact ⟨by rw [unhide HQE]; rfl, n1⟩

end Go.Proofs.YtbcjhpeighlncaaDoor
