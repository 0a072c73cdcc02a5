/-
  Package secret: the iterator ones.
-/
import Derived.Test.YtjckpgcmfieaoaaGreatDoorProg
import Derived.Test.YtjckpgcmfieaoaaGreatDoorMaa
import Derived.RangeFuncNested
import Derived.RangeFuncBound
import Derived.RangeFuncCalls
import Derived.RangeFuncLeaves
import Derived.Shelf.Abstract
import Derived.Shelf.RegionOpen
import Derived.WalkKit
import Derived.OwnWalkIn
import Derived.TacticsInMore
import Derived.LoopNIn
import Derived.LoopIn
import Derived.Test.YtjckpgcmfieaoaaGreatDoorMce
import Derived.Test.YtjckpgcmfieaoaaGreatDoorMbj
import Derived.Lib.JoinLaws
import Derived.ArgAppend
import Derived.Laws.IdiomStrings
set_option linter.unusedVariables false
set_option linter.unusedSimpArgs false
namespace Go.Proofs.YtjckpgcmfieaoaaGreatDoor
open Go.RowKit Go.Shelf
attribute [local go_sem] Oper.semAt_some

/-- The places from d down to k at which i has a bit. -/
def hiB (i d k : Nat) : List Nat := ((List.range' k (d - k)).reverse).filter fun b => i.testBit b
theorem hiB_top (i d : Nat) : hiB i d d = [] := by simp [hiB]
theorem hiB_step {i d k : Nat} (h : k < d) : hiB i d k = hiB i d (k + 1) ++ (if i.testBit k then [k] else []) := by
  unfold hiB
  rw [show d - k = (d - (k + 1)) + 1 by omega, List.range'_succ, List.reverse_cons, List.filter_append]
  cases hb : i.testBit k <;> simp [hb]
theorem hiB_prefix {i d : Nat} : ∀ {k : Nat}, k ≤ d → hiB i d k <+: hiB i d 0
  | 0, _ => List.prefix_refl _
  | k + 1, h => by
    refine List.IsPrefix.trans ?_ (hiB_prefix (k := k) (by omega))
    rw [hiB_step (show k < d by omega)]
    exact List.prefix_append _ _
/-- The same, as what the rounds are handed. -/
def hiF (i d k : Nat) : List (Fin 16) := (hiB i d k).map (Fin.ofNat 16)
theorem hiF_top (i d : Nat) : hiF i d d = [] := by unfold hiF; rw [hiB_top]; rfl
theorem hiF_step {i d k : Nat} (h : k < d) (hk : k < 16) : hiF i d k = hiF i d (k + 1) ++ (if i.testBit k then [⟨k, hk⟩] else []) := by
  unfold hiF
  rw [hiB_step h, List.map_append]
  have e : Fin.ofNat 16 k = ⟨k, hk⟩ := Fin.ext (Nat.mod_eq_of_lt hk)
  cases i.testBit k <;> simp [e]
theorem hiF_prefix {i d k : Nat} (h : k ≤ d) : hiF i d k <+: hiF i d 0 := by
  obtain ⟨r, hr⟩ := hiB_prefix (i := i) h
  exact ⟨r.map (Fin.ofNat 16), by unfold hiF; rw [← List.map_append, hr]⟩
theorem hiF_val {i d : Nat} (hd : d ≤ 16) : (hiF i d 0).map (·.1) = hiB i d 0 := by
  unfold hiF
  rw [List.map_map]
  refine (List.map_congr_left (g := id) fun b hb => ?_).trans (List.map_id _)
  have : b < 16 := by
    unfold hiB at hb
    rw [List.mem_filter, List.mem_reverse, List.mem_range'_1] at hb
    omega
  exact Nat.mod_eq_of_lt this
theorem shr_nat (i k : Nat) : (i : Int) / 2 ^ k = ((i / 2 ^ k : Nat) : Int) := by
  rw [Int.natCast_ediv]
  rfl
theorem and_one (x : Nat) (h : x < 9223372036854775808) : bits .and .i64 (x : Int) 1 = ((x % 2 : Nat) : Int) := by
  show IntKind.i64.wrap ((BitVec.ofInt 64 (x : Int) &&& BitVec.ofInt 64 (1 : Int)).toNat : Int) = _
  rw [BitVec.toNat_and, ofInt64_nat _ (by omega), show (BitVec.ofInt 64 (1 : Int)).toNat = 1 from rfl, Nat.and_one_is_mod, i64_nat _ (by omega)]
theorem bit_test (i k : Nat) (h : i < 65536) : (bits .and .i64 ((i : Int) / 2 ^ k) 1 == 1) = i.testBit k := by
  have hl : i / 2 ^ k < 65536 := Nat.lt_of_le_of_lt (Nat.div_le_self _ _) h
  rw [shr_nat, and_one _ (by omega), Nat.testBit_eq_decide_div_mod_eq]
  rcases Nat.mod_two_eq_zero_or_one (i / 2 ^ k) with e | e <;> rw [e] <;> rfl
/-- A block of one cell holds what it held. -/
def KpB (B : Nat) (W W' : World) : Prop := ∀ v, W.cell? ⟨B, 0, none⟩ = some v → W'.cell? ⟨B, 0, none⟩ = some v
set_option maxRecDepth 100000 in
set_option maxHeartbeats 2000000 in
theorem ones1_in (F : Fence) (n : Nat) (h6 : F.fn 361) (hro : F.round = none) (hn : 1 ≤ n) (l Bd Bi : Nat) (i d : Nat) (hi : i < 65536) (hd : d ≤ 16) (J Jx : List (Fin 16) → World → Prop)
    (hY : ∀ pre x W, J pre W → pre.length < 16 → YieldAt F (n - 1) Tryz.prog l #[.int .i64 (x.1 : Nat)] W fun e W' =>
      (e = .returned (.bool true) ∧ J (pre ++ [x]) W' ∧ KpB Bi W W') ∨ (e = .returned (.bool false) ∧ Jx (pre ++ [x]) W'))
    (W : World) (hBd : W.cell? ⟨Bd, 0, none⟩ = some (.int .i64 d)) (hBi : W.cell? ⟨Bi, 0, none⟩ = some (.int .i64 i)) (h0 : J [] W) :
    CallsIn F n Tryz.prog 361 #[.func (.yield l) #[] #[], .pointer (some ⟨Bd, 0, none⟩), .pointer (some ⟨Bi, 0, none⟩)] W fun e W' => (∃ v, e = .returned v) ∧
      ((∃ ys, ys = hiF i d 0 ∧ J ys W') ∨ (∃ pre, pre <+: hiF i d 0 ∧ Jx pre W')) := by
  refine callsIn_of_wp Tryz.func361 rfl h6 ?_ hro
  simp only [Tryz.ntmps361, List.size_toArray, List.length_cons, List.length_nil, Nat.reduceAdd, Nat.reduceSub, Array.replicate_succ, Array.replicate_zero, List.push_toArray, List.append_toArray, List.nil_append, List.cons_append]
  have hw : IntKind.i64.wrap ((d : Int) - 1) = (d : Int) - 1 := by rw [IntKind.wrap_i64]; omega
  gi_wp2
  gi_loopw [4] (fun p wr => ∃ k : Nat, p = .int .i64 ((k : Int) - 1) ∧ k ≤ d ∧ J (hiF i d k) wr ∧ wr.cell? ⟨Bi, 0, none⟩ = some (.int .i64 i)) (fun p wr => (intOf p + 1).toNat)
  case atStart => exact ⟨d, by simp, Nat.le_refl _, by rw [hiF_top]; exact h0, hBi⟩
  case round =>
    obtain ⟨k, rfl, hk, hJ, hBi'⟩ := hrel
    cases k with
    | zero =>
      gi_wp2
      go_end0
      exact ⟨⟨_, rfl⟩, .inl ⟨hiF i d 0, rfl, hJ⟩⟩
    | succ k =>
      have hk0 : ((k + 1 : Nat) : Int) - 1 = (k : Int) := by omega
      rw [hk0]
      have hk1 : (0 : Int) ≤ (k : Int) := by omega
      have hlen : (hiF i d (k + 1)).length < 16 := by
        unfold hiF hiB
        rw [List.length_map]
        refine Nat.lt_of_le_of_lt (List.length_filter_le _ _) ?_
        simp
        omega
      obtain ⟨fn, tmps, assign, body, hy, hR⟩ := hY (hiF i d (k + 1)) ⟨k, by omega⟩ wr hJ hlen
      dsimp only at hy
      have htest := bit_test i k hi
      have hst := hiF_step (i := i) (show k < d from hk) (by omega)
      cases htb : i.testBit k with
      | true =>
        rw [htb, if_pos rfl] at hst
        rw [htb] at htest
        have HST := hide hst
        clear hst
        gi_wp2
        refine hR.mono ?_
        rintro e W3 (⟨rfl, hJ3, hk3⟩ | ⟨rfl, hJx3⟩)
        · have hBi3 : W3.cell? ⟨Bi, 0, none⟩ = some (.int .i64 i) := hk3 _ hBi'
          have hwk : IntKind.i64.wrap ((k : Int) - 1) = (k : Int) - 1 := by rw [IntKind.wrap_i64]; omega
          gi_wp2
          go_roundw
          case rel => exact ⟨k, rfl, by omega, by rw [unhide HST]; exact hJ3, hBi3⟩
          case measure => simp [intOf]
        · gi_wp2
          refine bodyPost_ret (results_none rfl _ _ _) rfl ?_
          refine ⟨⟨_, rfl⟩, .inr ⟨hiF i d (k + 1) ++ [⟨k, by omega⟩], ?_, hJx3⟩⟩
          rw [← unhide HST]
          exact hiF_prefix (by omega)
      | false =>
        rw [htb, if_neg (by simp), List.append_nil] at hst
        rw [htb] at htest
        have hwk : IntKind.i64.wrap ((k : Int) - 1) = (k : Int) - 1 := by rw [IntKind.wrap_i64]; omega
        rw [← hst] at hJ
        clear hst hR hy
        gi_wp2
        refine ⟨fun _ h => (by cases h), ?_⟩
        gi_wp2
        go_roundw
        case rel => exact ⟨k, rfl, by omega, hJ, hBi'⟩
        case measure => simp [intOf]

end Go.Proofs.YtjckpgcmfieaoaaGreatDoor
namespace Go.Proofs.YtjckpgcmfieaoaaGreatDoor
open Go.RowKit

/-- v holds the bytes xs in a block from base on, of which no cell is frozen. -/
def BytesG (w : World) (base : Nat) (v : Value) (xs : List Int) : Prop :=
  ∃ g cap cur fz, v = .slice (some ⟨g, 0, none⟩) xs.length cap ∧ base ≤ g ∧ w.heap[g]? = some (.cells cur 5 fz) ∧ (fz = (0, 0) ∨ cur.size ≤ fz.1) ∧ xs.length ≤ cap ∧ cur.size = cap ∧ cur.toList.take xs.length = xs.map (Value.int .u8)
theorem BytesG.shape {w : World} {base : Nat} {v : Value} {xs : List Int} (h : BytesG w base v xs) : ∃ a c, v = .slice (some a) xs.length c := by
  obtain ⟨g, cap, cur, fz, rfl, _⟩ := h
  exact ⟨_, _, rfl⟩
theorem BytesG.ge {w : World} {base : Nat} {v : Value} {xs : List Int} (h : BytesG w base v xs) {k : Nat} (hk : v.ownBlock = some k) : base ≤ k ∧ k < w.heap.size := by
  obtain ⟨g, cap, cur, fz, rfl, e2, hg, _⟩ := h
  simp [Value.ownBlock] at hk
  subst hk
  exact ⟨e2, blk_lt hg⟩
theorem BytesG.upd {S : Nat → Prop} {w w' : World} {base : Nat} {v : Value} {xs : List Int} (h : BytesG w base v xs) (u : Upd S w w') (hS : ∀ k, v.ownBlock = some k → ¬ S k) : BytesG w' base v xs := by
  obtain ⟨g, cap, cur, fz, e1, e2, hg, r⟩ := h
  exact ⟨g, cap, cur, fz, e1, e2, u.old hg (hS g (by rw [e1]; rfl)), r⟩
theorem BytesG.ofO {w : World} {base : Nat} {v : Value} {xs : List Int} (h : BytesO w base v xs) (hn : 0 < xs.length) : BytesG w base v xs := by
  rcases h.2 with ⟨rfl, e⟩ | ⟨g, cap, cur, rfl, e2, hg, e3, e4, e5, e6⟩
  · omega
  · exact ⟨g, cap, cur, (0, 0), rfl, e2, hg, .inl rfl, e3, by omega, by simpa using e6⟩
def bytesI (s : ByteArray) : List Int := s.data.toList.map fun c => (c.toNat : Int)
theorem bytesI_len (s : ByteArray) : (bytesI s).length = s.size := by
  unfold bytesI
  rw [List.length_map, Array.length_toList]
  rfl
/-- '[]byte(s)'. -/
theorem BytesG.ofS (w : World) (s : ByteArray) (cap base : Nat) (hb : base ≤ w.heap.size) (hc : s.size ≤ cap) :
    BytesG (w.drew.alloc (.cells (bytesRow s cap) 5 ((bytesRow s cap).size, (bytesRow s cap).size + 1))) base (.slice (some ⟨w.heap.size, 0, none⟩) s.size cap) (bytesI s) := by
  have hsz : (bytesRow s cap).size = cap := by
    unfold bytesRow
    have : s.data.size = s.size := rfl
    simp
    omega
  refine ⟨w.heap.size, cap, bytesRow s cap, ((bytesRow s cap).size, (bytesRow s cap).size + 1), by rw [bytesI_len], hb, ?_, .inr (Nat.le_refl _), by rw [bytesI_len]; exact hc, hsz, ?_⟩
  · exact blk_alloc w.drew _
  · unfold bytesRow bytesI
    rw [Array.toList_append, List.take_append_of_le_length (by simp)]
    simp
    rw [List.take_of_length_le (by simp)]
    rfl

/-- 'append(b, c)'. -/
theorem append_byteG {ops : Array Oper} {rest : List Oper} {o : Oper} {a : Act} {Q : Exit → Act → World → Prop} (hgd : o.guard = none) (s x : Operand)
    (ho : o.op = .call { callee := .builtin .append, args := #[s, x], argTypes := #[157, 157] })
    (base : Nat) (v : Value) (xs : List Int) (hs : a.eval s = v) (c : Int) (T : TypeId) (w : World) (hx : a.eval x = .slice (some ⟨w.heap.size, 0, none⟩) 1 1) (hown : BytesG w base v xs) (hl : xs.length ≤ 1073741824) (hb : base ≤ w.heap.size)
    (h : ∀ v' w', BytesG w' base v' (xs ++ [c]) → Upd (fun k => v.ownBlock = some k) w w' → wpList Tryz.prog ops Q rest (a.put o.dst v') w') :
    wpList Tryz.prog ops Q (o :: rest) a (w.alloc (.cells #[.int .u8 c] T)) := by
  obtain ⟨i, hi, hz0, hz1, hz2⟩ := info_parts Tryz.infoU8
  obtain ⟨g, cap, cur, fz, rfl, e2, hg, hf, e3, e4, e6⟩ := hown
  have hg1 : (w.alloc (.cells #[.int .u8 c] T)).heap[g]? = some (.cells cur 5 fz) := blk_alloc_old hg _
  have hnew : ∀ j u, [Value.int .u8 c][j]? = some u → (w.alloc (.cells #[.int .u8 c] T)).cell? ((⟨w.heap.size, 0, none⟩ : Addr).add j) = some u := by
    intro j u hj
    have hadd : (⟨w.heap.size, 0, none⟩ : Addr).add j = ⟨w.heap.size, j, none⟩ := by unfold Addr.add; split <;> simp_all
    rw [hadd, blk_cell (blk_alloc _ _)]
    simpa using hj
  have hone : ∀ u ∈ [Value.int .u8 c], u.oneCell' = true := by
    intro u hu
    obtain rfl := List.mem_singleton.1 hu
    rfl
  by_cases hroom : xs.length + 1 ≤ cap
  · refine wpList_append_room_src _ hgd s x 157 157 ho 5 i Tryz.underlying157 hi g 0 xs.length cap hs _ hx 1 [.int .u8 c] (Src.ofSlice _ Tryz.underlying157 ⟨w.heap.size, 0, none⟩ 1 1 _ (by rw [hz1]; rfl) hnew hone) hroom ?_ ?_ ?_
    · intro j hj
      rw [blk_cell hg1]
      simp only [List.length_cons, List.length_nil] at hj
      rw [Array.getElem?_eq_getElem (by rw [hz1]; omega)]
      rfl
    · intro j hj
      simp only [List.length_cons, List.length_nil] at hj
      have hlt : 0 + xs.length * i.size + j < cur.size := by rw [hz1]; omega
      unfold World.frozen?
      rw [hg1]
      rcases hf with rfl | hf
      · simp
      · obtain ⟨lo, hi'⟩ := fz
        simp only at hf ⊢
        rw [show decide (lo ≤ 0 + xs.length * i.size + j) = false by simpa using by omega]
        rfl
    · refine h _ _ ⟨g, cap, cur.setIfInBounds xs.length (.int .u8 c), fz, by simp, e2, ?_, by simpa using hf, by simpa using hroom, by simpa using e4, ?_⟩ ?_
      · have := blk_set hg1 (0 + xs.length * i.size) (.int .u8 c)
        rw [show 0 + xs.length * i.size = xs.length by rw [hz1]; omega] at this
        simpa [World.setCells, hz1] using this
      · rw [List.length_append, List.map_append, Array.toList_setIfInBounds]
        simp only [List.length_cons, List.length_nil, List.map_cons, List.map_nil, Nat.zero_add]
        have hle : xs.length < cur.toList.length := by
          have h9 : cur.toList.length = cur.size := Array.length_toList
          omega
        rw [List.take_add_one, List.take_set_of_le (Nat.le_refl _), e6, List.getElem?_set_self hle]
        rfl
      · have u0 : Upd (fun k => (Value.slice (some ⟨g, 0, none⟩) xs.length cap).ownBlock = some k) w (w.alloc (.cells #[.int .u8 c] T)) := (Upd.refl _ _).alloc _
        simp only [World.setCells]
        exact u0.setCell (p := ⟨g, 0 + xs.length * i.size, none⟩) (fun _ => rfl) _
  · refine wpList_append_grows _ hgd s x 157 ho 5 i (.int .u8 0) 1 1 Tryz.underlying157 hi hz0 hz1 hz2 rfl (by decide) (some ⟨g, 0, none⟩) xs.length cap (xs.map (Value.int .u8)) hs (fun h => by cases h) (by simp) ?_ ⟨w.heap.size, 0, none⟩ 1 1 [.int .u8 c] hx rfl hnew hone (by omega) (by unfold maxLen; omega) (by omega) ?_
    · intro b hb2 j u hj
      obtain rfl : (⟨g, 0, none⟩ : Addr) = b := Option.some.inj hb2
      have hjl : j < xs.length := by
        have := (List.getElem?_eq_some_iff.1 hj).1
        simpa using this
      have hadd : (⟨g, 0, none⟩ : Addr).add j = ⟨g, j, none⟩ := by unfold Addr.add; split <;> simp_all
      rw [hadd, blk_cell hg1, ← Array.getElem?_toList]
      rw [← e6, List.getElem?_take_of_lt hjl] at hj
      exact hj
    · intro v' w' ho' hgr
      refine h v' w' (BytesG.ofO (xs := xs ++ [c]) ?_ (by simp)) ((((Upd.refl _ w).alloc _)).grown hgr (fun k e _ => by cases e))
      unfold BytesO
      rw [List.length_append, List.map_append]
      refine ⟨ho'.1, ?_⟩
      rcases ho'.2 with h2 | ⟨g2, cap2, cur2, h1, h2, h3⟩
      · exact .inl h2
      · exact .inr ⟨g2, cap2, cur2, h1, by simp at h2; omega, h3⟩
theorem run_string_G {w : World} {base : Nat} {v : Value} {xs : List Int} (h : BytesG w base v xs) : (convert 157 9 v).run Tryz.prog w = .ok (.string (strOfNums xs)) w := by
  obtain ⟨g, cap, cur, fz, rfl, e2, hg, hf, e3, e4, e6⟩ := h
  refine run_convert_bytes_arg w 157 5 Tryz.underlying157 Tryz.underlying5 g 0 xs.length cap xs rfl (fun i hi => ?_) 9 Tryz.underlying9
  have h1 : cur.toList[i]? = (xs.map (Value.int .u8))[i]? := by rw [← e6, List.getElem?_take_of_lt (by omega)]
  rw [Nat.zero_add, blk_cell hg i, ← Array.getElem?_toList, h1, List.getElem?_map, List.getElem?_eq_getElem hi]
  simp [List.getD, List.getElem?_eq_getElem hi]

end Go.Proofs.YtjckpgcmfieaoaaGreatDoor
