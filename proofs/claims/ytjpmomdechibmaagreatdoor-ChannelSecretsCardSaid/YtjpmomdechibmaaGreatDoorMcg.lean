/-
  A slice of bytes that the call owns, or that '[]byte(s)' made: append of one byte; its string.
-/
import Derived.Test.YtjpmomdechibmaaGreatDoorMce
import Derived.Test.YtjpmomdechibmaaGreatDoorMaa
import Derived.Lib.JoinLaws
import Derived.ArgAppend
import Derived.Laws.IdiomStrings
import Derived.Test.YtjpmomdechibmaaGreatDoorMcd
import Derived.Test.YtjpmomdechibmaaGreatDoorMab
import Derived.Laws.BitsAllLaws
import Derived.Laws.Bits64
import Derived.IntWalk
import Derived.Outline
import Derived.Deep.CutRange
import Derived.BigRegion
import Derived.Deep.RegionLaw
namespace Go.Proofs.YtjpmomdechibmaaGreatDoor
set_option linter.unusedVariables false
set_option linter.unusedSimpArgs false
open Go.RowKit

/-- v holds the bytes xs in a block from base on, of which no cell is frozen. -/
def BytesG (w : World) (base : Nat) (v : Value) (xs : List Int) : Prop :=
  ∃ g cap cur fz, v = .slice (some ⟨g, 0, none⟩) xs.length cap ∧ base ≤ g ∧ w.heap[g]? = some (.cells cur 5 fz) ∧ (fz = (0, 0) ∨ cur.size ≤ fz.1) ∧ xs.length ≤ cap ∧ cur.size = cap ∧ cur.toList.take xs.length = xs.map (Value.int .u8)
theorem BytesG.shape {w : World} {base : Nat} {v : Value} {xs : List Int} (h : BytesG w base v xs) : ∃ a c, v = .slice (some a) xs.length c := by
  obtain ⟨g, cap, cur, fz, rfl, _⟩ := h
  exact ⟨_, _, rfl⟩
theorem BytesG.ge {w : World} {base : Nat} {v : Value} {xs : List Int} (h : BytesG w base v xs) {k : Nat} (hk : v.ownBlock = some k) : base ≤ k ∧ k < w.heap.size := by
  obtain ⟨g, cap, cur, fz, rfl, e2, hg, _⟩ := h
  simp [Value.ownBlock] at hk
  subst hk
  exact ⟨e2, blk_lt hg⟩
theorem BytesG.upd {S : Nat → Prop} {w w' : World} {base : Nat} {v : Value} {xs : List Int} (h : BytesG w base v xs) (u : Upd S w w') (hS : ∀ k, v.ownBlock = some k → ¬ S k) : BytesG w' base v xs := by
  obtain ⟨g, cap, cur, fz, e1, e2, hg, r⟩ := h
  exact ⟨g, cap, cur, fz, e1, e2, u.old hg (hS g (by rw [e1]; rfl)), r⟩
theorem BytesG.ofO {w : World} {base : Nat} {v : Value} {xs : List Int} (h : BytesO w base v xs) (hn : 0 < xs.length) : BytesG w base v xs := by
  rcases h.2 with ⟨rfl, e⟩ | ⟨g, cap, cur, rfl, e2, hg, e3, e4, e5, e6⟩
  · omega
  · exact ⟨g, cap, cur, (0, 0), rfl, e2, hg, .inl rfl, e3, by omega, by simpa using e6⟩
def bytesI (s : ByteArray) : List Int := s.data.toList.map fun c => (c.toNat : Int)
theorem bytesI_len (s : ByteArray) : (bytesI s).length = s.size := by
  unfold bytesI
  rw [List.length_map, Array.length_toList]
  rfl
/-- '[]byte(s)'. -/
theorem BytesG.ofS (w : World) (s : ByteArray) (cap base : Nat) (hb : base ≤ w.heap.size) (hc : s.size ≤ cap) :
    BytesG (w.drew.alloc (.cells (bytesRow s cap) 5 ((bytesRow s cap).size, (bytesRow s cap).size + 1))) base (.slice (some ⟨w.heap.size, 0, none⟩) s.size cap) (bytesI s) := by
  have hsz : (bytesRow s cap).size = cap := by
    unfold bytesRow
    have : s.data.size = s.size := rfl
    simp
    omega
  refine ⟨w.heap.size, cap, bytesRow s cap, ((bytesRow s cap).size, (bytesRow s cap).size + 1), by rw [bytesI_len], hb, ?_, .inr (Nat.le_refl _), by rw [bytesI_len]; exact hc, hsz, ?_⟩
  · exact blk_alloc w.drew _
  · unfold bytesRow bytesI
    rw [Array.toList_append, List.take_append_of_le_length (by simp)]
    simp
    rw [List.take_of_length_le (by simp)]
    rfl

/-- 'append(b, c)'. -/
theorem append_byteG {ops : Array Oper} {rest : List Oper} {o : Oper} {a : Act} {Q : Exit → Act → World → Prop} (hgd : o.guard = none) (s x : Operand)
    (ho : o.op = .call { callee := .builtin .append, args := #[s, x], argTypes := #[111, 111] })
    (base : Nat) (v : Value) (xs : List Int) (hs : a.eval s = v) (c : Int) (T : TypeId) (w : World) (hx : a.eval x = .slice (some ⟨w.heap.size, 0, none⟩) 1 1) (hown : BytesG w base v xs) (hl : xs.length ≤ 1073741824) (hb : base ≤ w.heap.size)
    (h : ∀ v' w', BytesG w' base v' (xs ++ [c]) → Upd (fun k => v.ownBlock = some k) w w' → wpList Tryz.prog ops Q rest (a.put o.dst v') w') :
    wpList Tryz.prog ops Q (o :: rest) a (w.alloc (.cells #[.int .u8 c] T)) := by
  obtain ⟨i, hi, hz0, hz1, hz2⟩ := info_parts Tryz.infoU8
  obtain ⟨g, cap, cur, fz, rfl, e2, hg, hf, e3, e4, e6⟩ := hown
  have hg1 : (w.alloc (.cells #[.int .u8 c] T)).heap[g]? = some (.cells cur 5 fz) := blk_alloc_old hg _
  have hnew : ∀ j u, [Value.int .u8 c][j]? = some u → (w.alloc (.cells #[.int .u8 c] T)).cell? ((⟨w.heap.size, 0, none⟩ : Addr).add j) = some u := by
    intro j u hj
    have hadd : (⟨w.heap.size, 0, none⟩ : Addr).add j = ⟨w.heap.size, j, none⟩ := by unfold Addr.add; split <;> simp_all
    rw [hadd, blk_cell (blk_alloc _ _)]
    simpa using hj
  have hone : ∀ u ∈ [Value.int .u8 c], u.oneCell' = true := by
    intro u hu
    obtain rfl := List.mem_singleton.1 hu
    rfl
  by_cases hroom : xs.length + 1 ≤ cap
  · refine wpList_append_room_src _ hgd s x 111 111 ho 5 i Tryz.underlying111 hi g 0 xs.length cap hs _ hx 1 [.int .u8 c] (Src.ofSlice _ Tryz.underlying111 ⟨w.heap.size, 0, none⟩ 1 1 _ (by rw [hz1]; rfl) hnew hone) hroom ?_ ?_ ?_
    · intro j hj
      rw [blk_cell hg1]
      simp only [List.length_cons, List.length_nil] at hj
      rw [Array.getElem?_eq_getElem (by rw [hz1]; omega)]
      rfl
    · intro j hj
      simp only [List.length_cons, List.length_nil] at hj
      have hlt : 0 + xs.length * i.size + j < cur.size := by rw [hz1]; omega
      unfold World.frozen?
      rw [hg1]
      rcases hf with rfl | hf
      · simp
      · obtain ⟨lo, hi'⟩ := fz
        simp only at hf ⊢
        rw [show decide (lo ≤ 0 + xs.length * i.size + j) = false by simpa using by omega]
        rfl
    · refine h _ _ ⟨g, cap, cur.setIfInBounds xs.length (.int .u8 c), fz, by simp, e2, ?_, by simpa using hf, by simpa using hroom, by simpa using e4, ?_⟩ ?_
      · have := blk_set hg1 (0 + xs.length * i.size) (.int .u8 c)
        rw [show 0 + xs.length * i.size = xs.length by rw [hz1]; omega] at this
        simpa [World.setCells, hz1] using this
      · rw [List.length_append, List.map_append, Array.toList_setIfInBounds]
        simp only [List.length_cons, List.length_nil, List.map_cons, List.map_nil, Nat.zero_add]
        have hle : xs.length < cur.toList.length := by
          have h9 : cur.toList.length = cur.size := Array.length_toList
          omega
        rw [List.take_add_one, List.take_set_of_le (Nat.le_refl _), e6, List.getElem?_set_self hle]
        rfl
      · have u0 : Upd (fun k => (Value.slice (some ⟨g, 0, none⟩) xs.length cap).ownBlock = some k) w (w.alloc (.cells #[.int .u8 c] T)) := (Upd.refl _ _).alloc _
        simp only [World.setCells]
        exact u0.setCell (p := ⟨g, 0 + xs.length * i.size, none⟩) (fun _ => rfl) _
  · refine wpList_append_grows _ hgd s x 111 ho 5 i (.int .u8 0) 1 1 Tryz.underlying111 hi hz0 hz1 hz2 rfl (by decide) (some ⟨g, 0, none⟩) xs.length cap (xs.map (Value.int .u8)) hs (fun h => by cases h) (by simp) ?_ ⟨w.heap.size, 0, none⟩ 1 1 [.int .u8 c] hx rfl hnew hone (by omega) (by unfold maxLen; omega) (by omega) ?_
    · intro b hb2 j u hj
      obtain rfl : (⟨g, 0, none⟩ : Addr) = b := Option.some.inj hb2
      have hjl : j < xs.length := by
        have := (List.getElem?_eq_some_iff.1 hj).1
        simpa using this
      have hadd : (⟨g, 0, none⟩ : Addr).add j = ⟨g, j, none⟩ := by unfold Addr.add; split <;> simp_all
      rw [hadd, blk_cell hg1, ← Array.getElem?_toList]
      rw [← e6, List.getElem?_take_of_lt hjl] at hj
      exact hj
    · intro v' w' ho' hgr
      refine h v' w' (BytesG.ofO (xs := xs ++ [c]) ?_ (by simp)) ((((Upd.refl _ w).alloc _)).grown hgr (fun k e _ => by cases e))
      unfold BytesO
      rw [List.length_append, List.map_append]
      refine ⟨ho'.1, ?_⟩
      rcases ho'.2 with h2 | ⟨g2, cap2, cur2, h1, h2, h3⟩
      · exact .inl h2
      · exact .inr ⟨g2, cap2, cur2, h1, by simp at h2; omega, h3⟩
theorem run_string_G {w : World} {base : Nat} {v : Value} {xs : List Int} (h : BytesG w base v xs) : (convert 111 9 v).run Tryz.prog w = .ok (.string (strOfNums xs)) w := by
  obtain ⟨g, cap, cur, fz, rfl, e2, hg, hf, e3, e4, e6⟩ := h
  refine run_convert_bytes_arg w 111 5 Tryz.underlying111 Tryz.underlying5 g 0 xs.length cap xs rfl (fun i hi => ?_) 9 Tryz.underlying9
  have h1 : cur.toList[i]? = (xs.map (Value.int .u8))[i]? := by rw [← e6, List.getElem?_take_of_lt (by omega)]
  rw [Nat.zero_add, blk_cell hg i, ← Array.getElem?_toList, h1, List.getElem?_map, List.getElem?_eq_getElem hi]
  simp [List.getD, List.getElem?_eq_getElem hi]

end Go.Proofs.YtjpmomdechibmaaGreatDoor

/-
  Package octet: the writer; the reference's numbers.
-/
namespace Go.Proofs.YtjpmomdechibmaaGreatDoor
set_option linter.unusedVariables false
set_option linter.unusedSimpArgs false
open Go.RowKit

/-- The bytes of a number, the highest one first. -/
def numI (n : Nat) (width : Nat) : List Int := (List.range width).map fun k => (n : Int) / 2 ^ (8 * (width - 1 - k)) % 256
theorem numI_len (n width : Nat) : (numI n width).length = width := by simp [numI]
def numS (n width : Nat) : ByteArray := strOfNums (numI n width)
theorem numS_size (n width : Nat) : (numS n width).size = width := by unfold numS; rw [strOfNums_size, numI_len]
/-- A writer, that holds s. -/
def Wr (w : World) (g : Nat) (s : ByteArray) : Prop := w.heap[g]? = some (.cells #[.string s] 154 (0, 0))
theorem Wr.new {w w' : World} {g : Nat} {s : ByteArray} (h : Wr w g s) (n : New w w') : Wr w' g s := n.old h (fun h => h)
theorem Wr.lt {w : World} {g : Nat} {s : ByteArray} (h : Wr w g s) : g < w.heap.size := blk_lt h

/-- Block b holds just these bytes. -/
def Ints8 (w : World) (b : Nat) (ws : List Int) : Prop := ∃ T, w.heap[b]? = some (.cells (ws.map (Value.int .u8)).toArray T (0, 0))
def pref (n width m : Nat) : List Int := (List.range m).map fun k => (n : Int) / 2 ^ (8 * (width - 1 - k)) % 256
set_option maxRecDepth 100000 in
set_option maxHeartbeats 1000000 in
theorem number_any (g n width : Nat) (s : ByteArray) (w : World) (hg : Wr w g s) (hw1 : 1 ≤ width) (hw8 : width ≤ 8) (hn : n < 2 ^ (8 * width)) (hs : s.size ≤ 1073741824) :
    Calls Tryz.prog 86 #[.pointer (some ⟨g, 0, none⟩), .int .u64 n, .int .i64 width] w fun e w' => e = .returned (.int .i64 0) ∧ Upd (fun k => k = g) w w' ∧ Wr w' g (s ++ numS n width) := by
  have hn64 : n < 18446744073709551616 := Nat.lt_of_lt_of_le hn (by
    have : (2 : Nat) ^ (8 * width) ≤ 2 ^ 64 := Nat.pow_le_pow_right (by decide) (by omega)
    exact this)
  have hsh : (n : Int) / 2 ^ (8 * width) = 0 := by
    refine Int.ediv_eq_zero_of_lt (by omega) ?_
    exact_mod_cast hn
  have hw1' : (1 : Int) ≤ width := by omega
  have hw8' : (width : Int) ≤ 8 := by omega
  have hwt : (8 * (width : Int)).toNat = 8 * width := by omega
  have hlt : decide ((width : Int) < 1) = false := by simp; omega
  have hgt : decide ((8 : Int) < (width : Int)) = false := by simp; omega
  have hlt1 : ¬ (width : Int) < 1 := by omega
  have hgt1 : ¬ (8 : Int) < (width : Int) := by omega
  have hn1 : (n : Int) < 18446744073709551616 := by omega
  go_enter Tryz.func86, Tryz.ntmps86
  go_wp2_with fail
  clear hsh hwt hlt hgt hlt1 hgt1
  have hgl := hg.lt
  go_loopw [7, 8] (fun bv iv wr => ∃ (m : Nat) (a : Option Addr) (c : Nat), iv = .int .i64 ((width : Int) - 1 - (m : Int)) ∧ m ≤ width ∧ bv = .slice a m c ∧ Hid (BytesO wr w.heap.size bv (pref n width m)) ∧ Upd (fun k => w.heap.size ≤ k) w wr) (fun _ iv _ => (intOf iv + 1).toNat)
  case atStart => exact ⟨0, _, _, by simp, Nat.zero_le _, rfl, hide (BytesO.nil _ _), Upd.refl _ _⟩
  case round =>
    obtain ⟨m, a, c, rfl, hm, rfl, HO, ur⟩ := hrel
    by_cases hlt : m < width
    · have hm0 : (m : Int) < (width : Int) := by omega
      have hb := ur.size
      have ht : (8 * ((width : Int) - 1 - (m : Int))).toNat = 8 * (width - 1 - m) := by omega
      have hp : ∀ k : Nat, (n : Int) / 2 ^ k < 18446744073709551616 ∧ 0 ≤ (n : Int) / 2 ^ k := fun k => by
        have hp : (1 : Int) ≤ 2 ^ k := Int.pow_pos (by decide)
        exact ⟨Int.lt_of_le_of_lt (Int.ediv_le_self _ (by omega)) hn1, Int.ediv_nonneg (by omega) (by omega)⟩
      obtain ⟨q1, q0⟩ := hp (8 * (width - 1 - m))
      have hwr : IntKind.u64.wrap ((n : Int) / 2 ^ (8 * (width - 1 - m))) = (n : Int) / 2 ^ (8 * (width - 1 - m)) := by rw [IntKind.wrap_u64]; omega
      have HN64 := hide (And.intro hn64 hn1)
      have hpl : (pref n width m).length ≤ 1073741824 := by simp [pref]; omega
      have hpn : pref n width (m + 1) = pref n width m ++ [(n : Int) / 2 ^ (8 * (width - 1 - m)) % 256] := by unfold pref; rw [List.range_succ, List.map_append]; rfl
      have hpl2 : (pref n width (m + 1)).length = m + 1 := by simp [pref]
      have HPN := hide hpn
      have HPL := hide hpl2
      have hnn : 0 ≤ (width : Int) - 1 - (m : Int) := by omega
      clear hp hpn hpl2 q1 hn64 hn1
      go_wp2_with (at_builtin; refine append_byte rfl (.tmp 28) (.tmp 34) rfl w.heap.size _ _ rfl _ _ _ rfl (unhide HO) hpl hb ?_)
      intro v' w5 hO5 u5
      have u6 := ur.then u5 (fun q _ h => ((unhide HO).ge h).1)
      rw [← unhide HPN] at hO5
      obtain ⟨a5, c5, rfl⟩ := hO5.shape
      rw [unhide HPL] at hO5 ⊢
      have HO5 := hide hO5
      clear hO5 u5 HO HPN q0 hpl ht hnn hwr
      go_wp2
      go_roundw
      case rel => exact ⟨m + 1, a5, c5, by congr 1; omega, by omega, rfl, HO5, u6⟩
      case measure => simp [intOf]; omega
    · obtain rfl : m = width := by omega
      rw [show (m : Int) - 1 - (m : Int) = -1 by omega]
      have hst := run_string_own (((unhide HO).upd ((Upd.refl (fun _ => False) wr).drew) (fun _ _ h => h)))
      have hg' := ur.old hg (fun h => by omega)
      have c0 := blk_cell hg' 0
      have z0 := blk_free hg' 0
      simp at c0
      have hpe : strOfNums (pref n m m) = numS n m := rfl
      rw [hpe] at hst
      have hq := numS_size n m
      generalize hqe : numS n m = q at hst hq ⊢
      have HQE := hide hqe
      clear hqe
      have hg2 := blk_set hg' 0 (.string (s ++ q))
      have nW : New w wr := Upd.of_below (ur.below' (Nat.le_refl _) (fun _ h => h)) (Nat.le_refl _)
      have uW : Upd (fun k => k = g) w (wr.setCell ⟨g, 0, none⟩ (.string (s ++ q))) := (nW.mono (T := fun k => k = g) (fun _ _ h => h.elim)).set1 0 _
      have HG2 := hide hg2
      clear hg2 nW ur
      clear hpe
      have hbig : ¬ 9223372036854775807 < s.size + m := by omega
      go_wp2_with fail
      go_region_law (fail)
      all_goals
        have hg3 := unhide HG2
        generalize wr.setCell ⟨g, 0, none⟩ (.string (s ++ q)) = wS at hg3 uW ⊢
        go_wp2
        go_ret
        exact ⟨rfl, uW.drew, by rw [unhide HQE]; exact hg3⟩

theorem Ints8.drew {w : World} {b : Nat} {ws : List Int} (h : Ints8 w b ws) : Ints8 w.drew b ws := h
theorem run_string_ints {w : World} {b : Nat} {xs : List Int} (h : Ints8 w b xs) (n : Nat) (hn : xs.length = n) : (convert 111 9 (.slice (some ⟨b, 0, none⟩) n n)).run Tryz.prog w = .ok (.string (strOfNums xs)) w := by
  obtain ⟨T, h⟩ := h
  exact run_string_block w 111 9 5 Tryz.underlying111 Tryz.underlying5 Tryz.underlying9 b n xs T (0, 0) n hn h
theorem Tryz.infoHashO : (Tryz.prog.info? 28).map (·.size) = some 32 := by kernel_rfl
set_option maxRecDepth 100000 in
set_option maxHeartbeats 1000000 in
theorem hash_any (g : Nat) (h : List Int) (s : ByteArray) (w : World) (hg : Wr w g s) (hh : h.length = 32) (hs : s.size ≤ 1073741824) :
    Calls Tryz.prog 88 #[.pointer (some ⟨g, 0, none⟩), .agg (h.map (Value.int .u8)).toArray] w fun e w' => e = .returned (.tuple #[]) ∧ Upd (fun k => k = g) w w' ∧ Wr w' g (s ++ strOfNums h) := by
  have hq : (strOfNums h).size = 32 := by rw [strOfNums_size, hh]
  generalize hhv : (h.map (Value.int .u8)).toArray = hv
  go_enter Tryz.func88, Tryz.ntmps88
  go_upto_region 1 with fail
  have hb : Ints8 (w.alloc (.cells hv 28)) w.heap.size h := ⟨_, by rw [hhv]; exact blk_alloc _ _⟩
  have n1 : New w (w.alloc (.cells hv 28)) := (Upd.refl _ _).alloc _
  have hgl := hg.lt
  have hg' := hg.new n1
  generalize w.alloc (.cells hv 28) = w1 at hb n1 hg' ⊢
  have hst := run_string_ints (hb.drew) 32 hh
  have c0 := blk_cell hg' 0
  have z0 := blk_free hg' 0
  simp at c0
  generalize hqe : strOfNums h = q at hst hq
  have HQE := hide hqe
  have hg2 := blk_set hg' 0 (.string (s ++ q))
  have uW : Upd (fun k => k = g) w (w1.setCell ⟨g, 0, none⟩ (.string (s ++ q))) := (n1.mono (T := fun k => k = g) (fun _ _ h => h.elim)).set1 0 _
  have HG2 := hide hg2
  have hbig : ¬ 9223372036854775807 < s.size + 32 := by omega
  clear hqe hg2 n1 hb hhv hg' hg hh
  go_region_law (fail)
  all_goals
    have hg3 := unhide HG2
    generalize w1.setCell ⟨g, 0, none⟩ (.string (s ++ q)) = wS at hg3 uW ⊢
    go_end0
    exact ⟨rfl, uW.drew, by rw [unhide HQE]; exact hg3⟩

set_option maxHeartbeats 1000000 in
theorem bytesW_any (g : Nat) (s : ByteArray) (w : World) (hg : Wr w g s) :
    Calls Tryz.prog 89 #[.pointer (some ⟨g, 0, none⟩)] w fun e w' => e = .returned (.string s) ∧ w = w' := by
  have c0 := blk_cell hg 0
  simp at c0
  clear hg
  go_enter Tryz.func89, Tryz.ntmps89
  go_wp2
  go_ret
  exact ⟨rfl, rfl⟩

/-! ### The reference's -/
/-- The last m bytes of a number. -/
def sufS (n m : Nat) : ByteArray := strOfNums ((List.range m).map fun k => (n : Int) / 2 ^ (8 * (m - 1 - k)) % 256)
theorem sufS_succ (n m : Nat) : sufS n (m + 1) = strOfNums [(n : Int) / 2 ^ (8 * m) % 256] ++ sufS n m := by
  unfold sufS
  rw [List.range_succ_eq_map, List.map_cons, List.map_map]
  apply ByteArray.ext
  simp only [strOfNums, List.map_cons, List.map_map, ByteArray.data_append]
  rw [List.map_nil, List.append_toArray, List.singleton_append]
  congr 2
  refine List.map_congr_left fun k _ => ?_
  simp only [Function.comp]
  rw [show m + 1 - 1 - (k + 1) = m - 1 - k by omega]
theorem sufS_size (n m : Nat) : (sufS n m).size = m := by unfold sufS; rw [strOfNums_size]; simp


end Go.Proofs.YtjpmomdechibmaaGreatDoor
