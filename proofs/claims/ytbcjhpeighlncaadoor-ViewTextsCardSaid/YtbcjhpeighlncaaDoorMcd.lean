/-
  A slice of bytes that the call itself owns: append of one byte; its string.
-/
import Derived.Test.YtbcjhpeighlncaaDoorRows
import Derived.Test.YtbcjhpeighlncaaDoorBase
import Derived.OpenShut
import Derived.Test.YtbcjhpeighlncaaDoorMae
import Derived.Lib.JoinLaws
import Derived.ArgAppend
import Derived.Laws.IdiomStrings
namespace Go.Proofs.YtbcjhpeighlncaaDoor
set_option linter.unusedVariables false
set_option linter.unusedSimpArgs false
open Go.RowKit

theorem Tryd.infoU8 : (Tryd.prog.info? 5).map (fun i => (i.zero, i.size, i.bytes)) = some (some (.int .u8 0), 1, 1) := by kernel_rfl
/-- v holds the bytes xs in a block of its own, from base on. -/
def BytesO (w : World) (base : Nat) (v : Value) (xs : List Int) : Prop := w.ownsRow base 5 1 v xs.length (xs.map (Value.int .u8))
theorem BytesO.shape {w : World} {base : Nat} {v : Value} {xs : List Int} (h : BytesO w base v xs) : ∃ a c, v = .slice a xs.length c := by
  rcases h.2 with ⟨rfl, e⟩ | ⟨g, cap, cur, rfl, _⟩
  · exact ⟨none, 0, by rw [e]⟩
  · exact ⟨_, _, rfl⟩
theorem BytesO.ge {w : World} {base : Nat} {v : Value} {xs : List Int} (h : BytesO w base v xs) {k : Nat} (hk : v.ownBlock = some k) : base ≤ k ∧ k < w.heap.size := by
  rcases h.2 with ⟨rfl, _⟩ | ⟨g, cap, cur, rfl, e2, hg, _⟩
  · simp [Value.ownBlock] at hk
  · simp [Value.ownBlock] at hk; subst hk; exact ⟨e2, blk_lt hg⟩
theorem BytesO.upd {S : Nat → Prop} {w w' : World} {base : Nat} {v : Value} {xs : List Int} (h : BytesO w base v xs) (u : Upd S w w') (hS : ∀ k, v.ownBlock = some k → ¬ S k) : BytesO w' base v xs := by
  refine ⟨h.1, ?_⟩
  rcases h.2 with h | ⟨g, cap, cur, e1, e2, hg, r⟩
  · exact .inl h
  · exact .inr ⟨g, cap, cur, e1, e2, u.old hg (hS g (by rw [e1]; rfl)), r⟩
theorem BytesO.new {w w' : World} {base : Nat} {v : Value} {xs : List Int} (h : BytesO w base v xs) (u : New w w') : BytesO w' base v xs := h.upd u (fun _ _ h => h)
theorem BytesO.nil (w : World) (base : Nat) : BytesO w base (.slice none 0 0) [] := ⟨rfl, .inl ⟨rfl, rfl⟩⟩
theorem BytesO.made (w : World) (base : Nat) (xs : List Int) (hb : base ≤ w.heap.size) (hl : xs.length ≤ 1073741824) : BytesO (w.alloc (.cells (xs.map (Value.int .u8)).toArray 5)) base (.slice (some ⟨w.heap.size, 0, none⟩) xs.length xs.length) xs := by
  refine ⟨by simp, .inr ⟨w.heap.size, xs.length, _, rfl, hb, blk_alloc _ _, Nat.le_refl _, by unfold maxLen; omega, by simp, ?_⟩⟩
  simp
  exact List.take_of_length_le (by simp)

/-- 'append(b, c)'. -/
theorem append_byte {ops : Array Oper} {rest : List Oper} {o : Oper} {a : Act} {Q : Exit → Act → World → Prop} (hgd : o.guard = none) (s x : Operand)
    (ho : o.op = .call { callee := .builtin .append, args := #[s, x], argTypes := #[48, 48] })
    (base : Nat) (v : Value) (xs : List Int) (hs : a.eval s = v) (c : Int) (T : TypeId) (w : World) (hx : a.eval x = .slice (some ⟨w.heap.size, 0, none⟩) 1 1) (hown : BytesO w base v xs) (hl : xs.length ≤ 1073741824) (hb : base ≤ w.heap.size)
    (h : ∀ v' w', BytesO w' base v' (xs ++ [c]) → Upd (fun k => v.ownBlock = some k) w w' → wpList Tryd.prog ops Q rest (a.put o.dst v') w') :
    wpList Tryd.prog ops Q (o :: rest) a (w.alloc (.cells #[.int .u8 c] T)) := by
  obtain ⟨i, hi, hz0, hz1, hz2⟩ := info_parts Tryd.infoU8
  have h0 : (w.alloc (.cells #[.int .u8 c] T)).ownsRow base 5 1 v xs.length (xs.map (Value.int .u8)) := hown.new ((Upd.refl _ _).alloc _)
  refine wpList_append_own _ hgd s x 48 ho base 5 i (.int .u8 0) 1 1 Tryd.underlying48 hi hz0 hz1 hz2 rfl (by decide) v xs.length _ hs h0 ⟨w.heap.size, 0, none⟩ 1 1 [.int .u8 c] hx rfl ?_ ?_ (by unfold maxLen; omega) (by omega) (by simp; omega) ?_
  · intro j u hj
    have hadd : (⟨w.heap.size, 0, none⟩ : Addr).add j = ⟨w.heap.size, j, none⟩ := by unfold Addr.add; split <;> simp_all
    rw [hadd, blk_cell (blk_alloc _ _)]
    simpa using hj
  · intro u hu
    obtain rfl := List.mem_singleton.1 hu
    rfl
  · intro v' w' ho' hg _
    refine h v' w' ?_ ((((Upd.refl _ w).alloc _)).grown hg (fun k e _ => e))
    unfold BytesO
    rw [List.length_append, List.map_append]
    exact ho'
theorem run_string_own {w : World} {base : Nat} {v : Value} {xs : List Int} (h : BytesO w base v xs) : (convert 48 9 v).run Tryd.prog w = .ok (.string (strOfNums xs)) w := by
  rcases h.2 with ⟨rfl, e⟩ | ⟨g, cap, cur, rfl, e2, hg, e3, e4, e5, e6⟩
  · rw [List.eq_nil_of_length_eq_zero e]
    exact run_convert_bytes_nil w 48 5 Tryd.underlying48 Tryd.underlying5 0 0 9 Tryd.underlying9
  · refine run_convert_bytes_arg w 48 5 Tryd.underlying48 Tryd.underlying5 g 0 xs.length cap xs rfl (fun i hi => ?_) 9 Tryd.underlying9
    have h1 : cur.toList[i]? = (xs.map (Value.int .u8))[i]? := by rw [← e6, List.getElem?_take_of_lt (by omega)]
    rw [Nat.zero_add, blk_cell hg i, ← Array.getElem?_toList, h1, List.getElem?_map, List.getElem?_eq_getElem hi]
    simp [List.getD, List.getElem?_eq_getElem hi]

end Go.Proofs.YtbcjhpeighlncaaDoor

/-
  A slice of bytes that the call owns, or that '[]byte(s)' made: append of one byte; its string.
-/
namespace Go.Proofs.YtbcjhpeighlncaaDoor
set_option linter.unusedVariables false
set_option linter.unusedSimpArgs false
open Go.RowKit

/-- v holds the bytes xs in a block from base on, of which no cell is frozen. -/
def BytesG (w : World) (base : Nat) (v : Value) (xs : List Int) : Prop :=
  ∃ g cap cur fz, v = .slice (some ⟨g, 0, none⟩) xs.length cap ∧ base ≤ g ∧ w.heap[g]? = some (.cells cur 5 fz) ∧ (fz = (0, 0) ∨ cur.size ≤ fz.1) ∧ xs.length ≤ cap ∧ cur.size = cap ∧ cur.toList.take xs.length = xs.map (Value.int .u8)
theorem BytesG.shape {w : World} {base : Nat} {v : Value} {xs : List Int} (h : BytesG w base v xs) : ∃ a c, v = .slice (some a) xs.length c := by
  obtain ⟨g, cap, cur, fz, rfl, _⟩ := h
  exact ⟨_, _, rfl⟩
theorem BytesG.ge {w : World} {base : Nat} {v : Value} {xs : List Int} (h : BytesG w base v xs) {k : Nat} (hk : v.ownBlock = some k) : base ≤ k ∧ k < w.heap.size := by
  obtain ⟨g, cap, cur, fz, rfl, e2, hg, _⟩ := h
  simp [Value.ownBlock] at hk
  subst hk
  exact ⟨e2, blk_lt hg⟩
theorem BytesG.upd {S : Nat → Prop} {w w' : World} {base : Nat} {v : Value} {xs : List Int} (h : BytesG w base v xs) (u : Upd S w w') (hS : ∀ k, v.ownBlock = some k → ¬ S k) : BytesG w' base v xs := by
  obtain ⟨g, cap, cur, fz, e1, e2, hg, r⟩ := h
  exact ⟨g, cap, cur, fz, e1, e2, u.old hg (hS g (by rw [e1]; rfl)), r⟩
theorem BytesG.ofO {w : World} {base : Nat} {v : Value} {xs : List Int} (h : BytesO w base v xs) (hn : 0 < xs.length) : BytesG w base v xs := by
  rcases h.2 with ⟨rfl, e⟩ | ⟨g, cap, cur, rfl, e2, hg, e3, e4, e5, e6⟩
  · omega
  · exact ⟨g, cap, cur, (0, 0), rfl, e2, hg, .inl rfl, e3, by omega, by simpa using e6⟩
def bytesI (s : ByteArray) : List Int := s.data.toList.map fun c => (c.toNat : Int)
theorem bytesI_len (s : ByteArray) : (bytesI s).length = s.size := by
  unfold bytesI
  rw [List.length_map, Array.length_toList]
  rfl
/-- '[]byte(s)'. -/
theorem BytesG.ofS (w : World) (s : ByteArray) (cap base : Nat) (hb : base ≤ w.heap.size) (hc : s.size ≤ cap) :
    BytesG (w.drew.alloc (.cells (bytesRow s cap) 5 ((bytesRow s cap).size, (bytesRow s cap).size + 1))) base (.slice (some ⟨w.heap.size, 0, none⟩) s.size cap) (bytesI s) := by
  have hsz : (bytesRow s cap).size = cap := by
    unfold bytesRow
    have : s.data.size = s.size := rfl
    simp
    omega
  refine ⟨w.heap.size, cap, bytesRow s cap, ((bytesRow s cap).size, (bytesRow s cap).size + 1), by rw [bytesI_len], hb, ?_, .inr (Nat.le_refl _), by rw [bytesI_len]; exact hc, hsz, ?_⟩
  · exact blk_alloc w.drew _
  · unfold bytesRow bytesI
    rw [Array.toList_append, List.take_append_of_le_length (by simp)]
    simp
    rw [List.take_of_length_le (by simp)]
    rfl

/-- 'append(b, c)'. -/
theorem append_byteG {ops : Array Oper} {rest : List Oper} {o : Oper} {a : Act} {Q : Exit → Act → World → Prop} (hgd : o.guard = none) (s x : Operand)
    (ho : o.op = .call { callee := .builtin .append, args := #[s, x], argTypes := #[48, 48] })
    (base : Nat) (v : Value) (xs : List Int) (hs : a.eval s = v) (c : Int) (T : TypeId) (w : World) (hx : a.eval x = .slice (some ⟨w.heap.size, 0, none⟩) 1 1) (hown : BytesG w base v xs) (hl : xs.length ≤ 1073741824) (hb : base ≤ w.heap.size)
    (h : ∀ v' w', BytesG w' base v' (xs ++ [c]) → Upd (fun k => v.ownBlock = some k) w w' → wpList Tryd.prog ops Q rest (a.put o.dst v') w') :
    wpList Tryd.prog ops Q (o :: rest) a (w.alloc (.cells #[.int .u8 c] T)) := by
  obtain ⟨i, hi, hz0, hz1, hz2⟩ := info_parts Tryd.infoU8
  obtain ⟨g, cap, cur, fz, rfl, e2, hg, hf, e3, e4, e6⟩ := hown
  have hg1 : (w.alloc (.cells #[.int .u8 c] T)).heap[g]? = some (.cells cur 5 fz) := blk_alloc_old hg _
  have hnew : ∀ j u, [Value.int .u8 c][j]? = some u → (w.alloc (.cells #[.int .u8 c] T)).cell? ((⟨w.heap.size, 0, none⟩ : Addr).add j) = some u := by
    intro j u hj
    have hadd : (⟨w.heap.size, 0, none⟩ : Addr).add j = ⟨w.heap.size, j, none⟩ := by unfold Addr.add; split <;> simp_all
    rw [hadd, blk_cell (blk_alloc _ _)]
    simpa using hj
  have hone : ∀ u ∈ [Value.int .u8 c], u.oneCell' = true := by
    intro u hu
    obtain rfl := List.mem_singleton.1 hu
    rfl
  by_cases hroom : xs.length + 1 ≤ cap
  · refine wpList_append_room_src _ hgd s x 48 48 ho 5 i Tryd.underlying48 hi g 0 xs.length cap hs _ hx 1 [.int .u8 c] (Src.ofSlice _ Tryd.underlying48 ⟨w.heap.size, 0, none⟩ 1 1 _ (by rw [hz1]; rfl) hnew hone) hroom ?_ ?_ ?_
    · intro j hj
      rw [blk_cell hg1]
      simp only [List.length_cons, List.length_nil] at hj
      rw [Array.getElem?_eq_getElem (by rw [hz1]; omega)]
      rfl
    · intro j hj
      simp only [List.length_cons, List.length_nil] at hj
      have hlt : 0 + xs.length * i.size + j < cur.size := by rw [hz1]; omega
      unfold World.frozen?
      rw [hg1]
      rcases hf with rfl | hf
      · simp
      · obtain ⟨lo, hi'⟩ := fz
        simp only at hf ⊢
        rw [show decide (lo ≤ 0 + xs.length * i.size + j) = false by simpa using by omega]
        rfl
    · refine h _ _ ⟨g, cap, cur.setIfInBounds xs.length (.int .u8 c), fz, by simp, e2, ?_, by simpa using hf, by simpa using hroom, by simpa using e4, ?_⟩ ?_
      · have := blk_set hg1 (0 + xs.length * i.size) (.int .u8 c)
        rw [show 0 + xs.length * i.size = xs.length by rw [hz1]; omega] at this
        simpa [World.setCells, hz1] using this
      · rw [List.length_append, List.map_append, Array.toList_setIfInBounds]
        simp only [List.length_cons, List.length_nil, List.map_cons, List.map_nil, Nat.zero_add]
        have hle : xs.length < cur.toList.length := by
          have h9 : cur.toList.length = cur.size := Array.length_toList
          omega
        rw [List.take_add_one, List.take_set_of_le (Nat.le_refl _), e6, List.getElem?_set_self hle]
        rfl
      · have u0 : Upd (fun k => (Value.slice (some ⟨g, 0, none⟩) xs.length cap).ownBlock = some k) w (w.alloc (.cells #[.int .u8 c] T)) := (Upd.refl _ _).alloc _
        simp only [World.setCells]
        exact u0.setCell (p := ⟨g, 0 + xs.length * i.size, none⟩) (fun _ => rfl) _
  · refine wpList_append_grows _ hgd s x 48 ho 5 i (.int .u8 0) 1 1 Tryd.underlying48 hi hz0 hz1 hz2 rfl (by decide) (some ⟨g, 0, none⟩) xs.length cap (xs.map (Value.int .u8)) hs (fun h => by cases h) (by simp) ?_ ⟨w.heap.size, 0, none⟩ 1 1 [.int .u8 c] hx rfl hnew hone (by omega) (by unfold maxLen; omega) (by omega) ?_
    · intro b hb2 j u hj
      obtain rfl : (⟨g, 0, none⟩ : Addr) = b := Option.some.inj hb2
      have hjl : j < xs.length := by
        have := (List.getElem?_eq_some_iff.1 hj).1
        simpa using this
      have hadd : (⟨g, 0, none⟩ : Addr).add j = ⟨g, j, none⟩ := by unfold Addr.add; split <;> simp_all
      rw [hadd, blk_cell hg1, ← Array.getElem?_toList]
      rw [← e6, List.getElem?_take_of_lt hjl] at hj
      exact hj
    · intro v' w' ho' hgr
      refine h v' w' (BytesG.ofO (xs := xs ++ [c]) ?_ (by simp)) ((((Upd.refl _ w).alloc _)).grown hgr (fun k e _ => by cases e))
      unfold BytesO
      rw [List.length_append, List.map_append]
      refine ⟨ho'.1, ?_⟩
      rcases ho'.2 with h2 | ⟨g2, cap2, cur2, h1, h2, h3⟩
      · exact .inl h2
      · exact .inr ⟨g2, cap2, cur2, h1, by simp at h2; omega, h3⟩
theorem run_string_G {w : World} {base : Nat} {v : Value} {xs : List Int} (h : BytesG w base v xs) : (convert 48 9 v).run Tryd.prog w = .ok (.string (strOfNums xs)) w := by
  obtain ⟨g, cap, cur, fz, rfl, e2, hg, hf, e3, e4, e6⟩ := h
  refine run_convert_bytes_arg w 48 5 Tryd.underlying48 Tryd.underlying5 g 0 xs.length cap xs rfl (fun i hi => ?_) 9 Tryd.underlying9
  have h1 : cur.toList[i]? = (xs.map (Value.int .u8))[i]? := by rw [← e6, List.getElem?_take_of_lt (by omega)]
  rw [Nat.zero_add, blk_cell hg i, ← Array.getElem?_toList, h1, List.getElem?_map, List.getElem?_eq_getElem hi]
  simp [List.getD, List.getElem?_eq_getElem hi]

end Go.Proofs.YtbcjhpeighlncaaDoor
