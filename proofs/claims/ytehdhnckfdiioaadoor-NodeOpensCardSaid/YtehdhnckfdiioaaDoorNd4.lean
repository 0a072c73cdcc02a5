/-
  A relay and its peers; byChan.
-/
import Derived.Test.YtehdhnckfdiioaaDoorNd3
namespace Go.Proofs.YtehdhnckfdiioaaDoor
open Go.RowKit

theorem flatMap_len {α : Type} (f : α → List Value) (k : Nat) (hf : ∀ x, (f x).length = k) (X : List α) : (X.flatMap f).length = X.length * k := by
  induction X with
  | nil => simp
  | cons x X ih => rw [List.flatMap_cons, List.length_append, ih, hf, List.length_cons, Nat.succ_mul]; omega
theorem flatMap_get {α : Type} (f : α → List Value) (k : Nat) (hf : ∀ x, (f x).length = k) : ∀ (X : List α) (i j : Nat) (x : α), X[i]? = some x → j < k → (X.flatMap f)[i * k + j]? = (f x)[j]? := by
  intro X
  induction X with
  | nil => intro i j x h; simp at h
  | cons y X ih =>
    intro i j x hx hj
    rw [List.flatMap_cons]
    cases i with
    | zero =>
      rw [List.getElem?_append_left (by rw [hf]; omega), Nat.zero_mul, Nat.zero_add]
      have : y = x := by simpa using hx
      rw [this]
    | succ i =>
      rw [List.getElem?_append_right (by rw [hf, Nat.succ_mul]; omega), hf, show (i + 1) * k + j - k = i * k + j by rw [Nat.succ_mul]; omega]
      exact ih i j x (by simpa using hx) hj
/-- What an owned row holds, where its elements are flat. -/
theorem owns_row {α : Type} (f : α → List Value) (k : Nat) (hf : ∀ x, (f x).length = k) {w : World} {base : Nat} {T : TypeId} {v : Value} {n : Nat} {X : List α} (h : w.ownsRow base T k v n (X.flatMap f)) (hn : n = X.length) :
    (v = .slice none 0 0 ∧ X = []) ∨ ∃ g cap, v = .slice (some ⟨g, 0, none⟩) n cap ∧ base ≤ g ∧ (∃ cur, w.heap[g]? = some (.cells cur T (0, 0))) ∧ ∀ i j x, X[i]? = some x → j < k → w.cell? ⟨g, i * k + j, none⟩ = (f x)[j]? := by
  rcases h.2 with ⟨e, e0⟩ | ⟨g, cap, cur, e, hb, hg, hc, hz, hs, ht⟩
  · exact .inl ⟨e, List.length_eq_zero_iff.1 (by omega)⟩
  · refine .inr ⟨g, cap, e, hb, ⟨cur, hg⟩, fun i j x hx hj => ?_⟩
    have hi := (List.getElem?_eq_some_iff.1 hx).1
    rw [blk_cell hg, ← Array.getElem?_toList, ← flatMap_get f k hf X i j x hx hj, ← ht, List.getElem?_take_of_lt]
    have := Nat.mul_le_mul_right k (show i + 1 ≤ n from by omega)
    rw [Nat.succ_mul] at this
    omega

structure PeerV where
  ch : Int
  lk : Nat
  l : LinkV
  c : ChanV
def PeerV.cells (p : PeerV) : List Value := [.int .u32 p.ch, ptrV p.lk]
theorem PeerV.len (p : PeerV) : p.cells.length = 2 := rfl
/-- A relay, and its peers. -/
structure RelI (w : World) (r : Nat) (R : RelV) (ps : List PeerV) : Prop where
  at_ : ReR w r R
  row : w.ownsRow R.bs 72 2 R.peers ps.length (ps.flatMap PeerV.cells)
  links : ∀ p ∈ ps, LkR w p.lk p.l ∧ ChR w p.l.en p.c
  bsle : R.bs ≤ w.heap.size
theorem RelI.shape {w : World} {r : Nat} {R : RelV} {ps : List PeerV} (h : RelI w r R ps) : ∃ a cap, R.peers = .slice a ps.length cap := by
  rcases owns_row PeerV.cells 2 PeerV.len h.row rfl with ⟨e, e0⟩ | ⟨g, cap, e, -⟩
  · exact ⟨none, 0, by rw [e, e0]; rfl⟩
  · exact ⟨_, cap, e⟩

set_option maxRecDepth 100000 in
set_option maxHeartbeats 1000000 in
theorem byChan_any (r : Nat) (R : RelV) (ps : List PeerV) (w : World) (h : RelI w r R ps) (ch : Int) (hl : ps.length ≤ 1048576) :
    Calls Tryd.prog 21 #[.pointer (some ⟨r, 0, none⟩), .int .u32 ch] w fun e w' =>
      ((∃ p ∈ ps, p.ch = ch ∧ e = .returned (.pointer (some ⟨p.lk, 0, none⟩))) ∨ ((∀ p ∈ ps, p.ch ≠ ch) ∧ e = .returned (.pointer none))) ∧ New w w' := by
  have c1 : w.cell? ⟨r, 1, none⟩ = some R.peers := blk_cell h.at_ 1
  have hrow := owns_row PeerV.cells 2 PeerV.len h.row rfl
  obtain ⟨a, cap, hsh⟩ := h.shape
  rw [hsh] at c1 hrow
  have hll : (ps.length : Int) ≤ 1048576 := by omega
  go_enter Tryd.func21, Tryd.ntmps21
  go_wp2_with fail
  clear c1
  go_loopw [12] (fun iv wr => ∃ i : Nat, iv = .int .i64 (i : Int) ∧ i ≤ ps.length ∧ (∀ j x, j < i → ps[j]? = some x → x.ch ≠ ch) ∧ New w wr) (fun iv _ => ps.length - (intOf iv).toNat)
  case atStart => exact ⟨0, rfl, Nat.zero_le _, fun j x h => by omega, Upd.refl _ _⟩
  case round =>
    obtain ⟨i, rfl, hi, hb, nr⟩ := hrel
    obtain ⟨wq, rfl⟩ : ∃ wq : World, wq = wr := ⟨_, rfl⟩
    by_cases hlt : i < ps.length
    · have hx : ps[i]? = some ps[i] := List.getElem?_eq_getElem hlt
      generalize ps[i] = x at hx
      rcases hrow with ⟨e, e0⟩ | ⟨g, cp, e, -, -, hcell⟩
      · rw [e0] at hlt; simp at hlt
      · injection e with e1 e2 e3
        subst e1 e3
        have d0 : wq.cell? ⟨g, i * 2 + 0, none⟩ = some (.int .u32 x.ch) := nr.cell (hcell i 0 x hx (by omega)) (fun h => h)
        have d1 : wq.cell? ⟨g, i * 2 + 1, none⟩ = some (.pointer (some ⟨x.lk, 0, none⟩)) := nr.cell (hcell i 1 x hx (by omega)) (fun h => h)
        rw [Nat.add_zero] at d0
        have hi0 : (i : Int) < (ps.length : Int) := by omega
        by_cases he : x.ch = ch
        · have n1 : New w (wq.alloc (.cells #[.int .u32 ch, .pointer (some ⟨x.lk, 0, none⟩)] 72)) := nr.alloc _
          have HM := hide (List.mem_of_getElem? hx)
          rw [he] at d0
          go_wp2_with fail
          go_ret
          exact ⟨.inl ⟨x, unhide HM, he, rfl⟩, n1⟩
        · have n1 : New w (wq.alloc (.cells #[.int .u32 x.ch, .pointer (some ⟨x.lk, 0, none⟩)] 72)) := nr.alloc _
          have hb2 : ∀ j y, j < i + 1 → ps[j]? = some y → y.ch ≠ ch := by
            intro j y hj hy
            by_cases hji : j < i
            · exact hb j y hji hy
            · obtain rfl : j = i := by omega
              rw [hx] at hy
              injection hy with hy
              exact hy ▸ he
          have HB := hide hb2
          clear hb hb2
          go_wp2_with fail
          go_roundw
          case rel => exact ⟨i + 1, rfl, by omega, unhide HB, n1⟩
          case measure => simp [intOf]; omega
    · obtain rfl : i = ps.length := by omega
      have HB := hide hb
      clear hb hrow
      go_wp2_with fail
      go_ret
      refine ⟨.inr ⟨fun p hp => ?_, rfl⟩, nr⟩
      obtain ⟨j, hj, e⟩ := List.mem_iff_getElem.1 hp
      exact unhide HB j p hj (by rw [List.getElem?_eq_getElem hj, e])

end Go.Proofs.YtehdhnckfdiioaaDoor
