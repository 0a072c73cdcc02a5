/-
  The stable sort of less than twenty.
-/
import Derived.Test.YtfmkdoachjgjbaaGreatDoorSo3
import Derived.Great.BuildSlice
set_option linter.unusedVariables false
set_option linter.unusedSimpArgs false
namespace Go.Proofs.YtfmkdoachjgjbaaGreatDoor
open Go.RowKit Go.Sort

abbrev LI := List (Item × Nat)
set_option maxRecDepth 100000 in
set_option maxHeartbeats 1600000 in
theorem stable_any (g off cap N : Nat) (L : LI) (hL : Rising L) (hN : L.length = N) (hm : N ≤ 19) (w : World) (h : Held w g off (its L)) :
    Calls Tryz.prog 193 #[.slice (some ⟨g, off, none⟩) N cap, .int .i64 (N : Int), fOrd] w fun e w' => e = .returned (.tuple #[]) ∧ Upd (· = g) w w' ∧ ∃ M, M.Perm L ∧ Srt M ∧ Held w' g off (its M) := by
  have H := hide (insertion_any g off cap [] [] L hL N (by simp; omega) (by omega) 0 (N : Int) (by simp) (by simp; omega) w (by simpa using h))
  have h1 : ¬ (20 : Int) ≤ (N : Int) := by omega
  have h2 : ¬ (20 : Int) < (N : Int) := by omega
  clear hN hL h
  go_enter Tryz.func193, Tryz.ntmps193
  go_wp2_with fail
  go_loopw [7, 8] (fun av bv wr => av = .int .i64 0 ∧ bv = .int .i64 20 ∧ wr = w) (fun _ _ _ => 0)
  case atStart => exact ⟨rfl, rfl, rfl⟩
  case round =>
    obtain ⟨rfl, rfl, rfl⟩ := hrel
    go_wp2_with fail
    refine (unhide H).mono ?_
    rintro e w1 ⟨rfl, u1, M, p1, s1, h1⟩
    have PS := hide (And.intro p1 (And.intro s1 h1))
    obtain ⟨wo, rfl⟩ : ∃ wo : World, wo = w1 := ⟨_, rfl⟩
    clear p1 s1 h1 H
    go_wp2_with fail
    go_loopw [6] (fun sv wr => sv = .int .i64 20 ∧ wr = wo) (fun _ _ => 0)
    case atStart => exact ⟨rfl, rfl⟩
    case round =>
      obtain ⟨rfl, rfl⟩ := hrel
      go_wp2_with fail
      go_end0
      obtain ⟨p1, s1, h1⟩ := unhide PS
      exact ⟨rfl, u1, M, p1, s1, by simpa using h1⟩
theorem its_zip (X : List Item) : its X.zipIdx = X := by simp [its]
theorem rising_zip : ∀ (X : List Item) (k : Nat), Rising (X.zipIdx k) := by
  intro X
  induction X with
  | nil => intro k; exact List.Pairwise.nil
  | cons x X ih =>
    intro k
    rw [List.zipIdx_cons]
    refine List.pairwise_cons.2 ⟨fun p hp => ?_, ih _⟩
    have := List.le_snd_of_mem_zipIdx hp
    omega
theorem sortstable_any (g off cap N : Nat) (X : List Item) (hN : X.length = N) (hm : N ≤ 19) (w : World) (h : Held w g off X) :
    Calls Tryz.prog 160 #[.slice (some ⟨g, off, none⟩) N cap, fOrd] w fun e w' => e = .returned (.tuple #[]) ∧ Upd (· = g) w w' ∧ ∃ M, M.Perm X.zipIdx ∧ Srt M ∧ Held w' g off (its M) := by
  have H := hide (stable_any g off cap N X.zipIdx (rising_zip X 0) (by simpa using hN) hm w (by rw [its_zip]; exact h))
  go_enter Tryz.func160, Tryz.ntmps160
  go_wp2_with fail
  refine (unhide H).mono ?_
  rintro e w1 ⟨rfl, u1, M, p1, s1, h1⟩
  have HPS := hide (And.intro p1 s1)
  clear p1 s1
  go_wp2
  go_end0
  exact ⟨rfl, u1, M, (unhide HPS).1, (unhide HPS).2, h1⟩

theorem flat_len (X : List Item) : (X.flatMap itemCells).length = X.length * 36 := by
  induction X with
  | nil => rfl
  | cons x X ih => rw [List.flatMap_cons, List.length_append, ih, item_len, List.length_cons]; omega
theorem flat_get : ∀ (X : List Item) (i j : Nat), i < X.length → j < 36 → (X.flatMap itemCells)[i * 36 + j]? = (itemCells X[i]!)[j]? := by
  intro X
  induction X with
  | nil => intro i j h; simp at h
  | cons x X ih =>
    intro i j hi hj
    rw [List.flatMap_cons]
    cases i with
    | zero => rw [List.getElem?_append_left (by rw [item_len]; omega), Nat.zero_mul, Nat.zero_add]; rfl
    | succ i =>
      rw [List.getElem?_append_right (by rw [item_len]; omega), item_len, show (i + 1) * 36 + j - 36 = i * 36 + j by omega, ih i j (by simpa using hi) hj]
      rfl
theorem held_of_owns {w : World} {base : Nat} {v : Value} {n : Nat} {X : List Item} (h : w.ownsRow base 254 36 v n (X.flatMap itemCells)) :
    n = X.length ∧ ((v = .slice none 0 0 ∧ X = []) ∨ ∃ g cap, v = .slice (some ⟨g, 0, none⟩) X.length cap ∧ base ≤ g ∧ Held w g 0 X) := by
  have hn : n = X.length := by have := h.1; rw [flat_len] at this; omega
  refine ⟨hn, ?_⟩
  subst hn
  rcases h.2 with ⟨e, e0⟩ | ⟨g, cap, cur, e, hb, hg, hc, _, hs, ht⟩
  · exact .inl ⟨e, List.length_eq_zero_iff.1 e0⟩
  · refine .inr ⟨g, cap, e, hb, cur, _, hg, by have := Nat.mul_le_mul_right 36 hc; omega, fun i hi j hj => ?_⟩
    rw [Nat.zero_add, ← flat_get X i j hi hj, ← ht, List.getElem?_take, if_pos (by have := Nat.mul_le_mul_right 36 (show i + 1 ≤ X.length from hi); omega), Array.getElem?_toList]

set_option maxRecDepth 100000 in
theorem insertion_none (w : World) : Calls Tryz.prog 209 #[.slice none 0 0, .int .i64 0, .int .i64 0, fOrd] w (Reads (.tuple #[]) w) := by
  go_enter Tryz.func209, Tryz.ntmps209
  go_wp2_with fail
  go_loopw [8] (fun iv wr => iv = .int .i64 1 ∧ wr = w) (fun _ _ => 0)
  case atStart => exact ⟨rfl, rfl⟩
  case round =>
    obtain ⟨rfl, rfl⟩ := hrel
    go_wp2
    go_end0
    exact ⟨rfl, 0, rfl⟩
set_option maxRecDepth 100000 in
theorem stable_none (w : World) : Calls Tryz.prog 193 #[.slice none 0 0, .int .i64 0, fOrd] w (Reads (.tuple #[]) w) := by
  go_enter Tryz.func193, Tryz.ntmps193
  go_wp2_with fail
  go_loopw [7, 8] (fun av bv wr => av = .int .i64 0 ∧ bv = .int .i64 20 ∧ wr = w) (fun _ _ _ => 0)
  case atStart => exact ⟨rfl, rfl, rfl⟩
  case round =>
    obtain ⟨rfl, rfl, rfl⟩ := hrel
    go_wp2_with fail
    refine (insertion_none _).mono ?_
    rintro e w1 ⟨rfl, q1⟩
    obtain ⟨wo, rfl⟩ : ∃ wo : World, wo = w1 := ⟨_, rfl⟩
    go_wp2_with fail
    go_loopw [6] (fun sv wr => sv = .int .i64 20 ∧ wr = wo) (fun _ _ => 0)
    case atStart => exact ⟨rfl, rfl⟩
    case round =>
      obtain ⟨rfl, rfl⟩ := hrel
      go_wp2
      go_end0
      exact ⟨rfl, q1⟩
theorem sortstable_none (w : World) : Calls Tryz.prog 160 #[.slice none 0 0, fOrd] w (Reads (.tuple #[]) w) := by
  go_enter Tryz.func160, Tryz.ntmps160
  go_wp2_with fail
  refine (stable_none _).mono ?_
  rintro e w1 ⟨rfl, q1⟩
  go_wp2
  go_end0
  exact ⟨rfl, q1⟩

theorem fill_all (Z : List Value) : ∀ (A : List Value) (L : List Value), Z.length = A.length → (A.zipIdx).foldl (fun (cs : Array Value) (c, j) => cs.setIfInBounds (L.length + j) c) (L ++ Z).toArray = (L ++ A).toArray := by
  intro A L h
  have key : ∀ (A : List Value) (k : Nat) (P Z : List Value), Z.length = A.length → P.length = L.length + k → (A.zipIdx k).foldl (fun (cs : Array Value) (c, j) => cs.setIfInBounds (L.length + j) c) (P ++ Z).toArray = (P ++ A).toArray := by
    intro A
    induction A with
    | nil => intro k P Z hz _; rw [List.length_eq_zero_iff.1 hz]; rfl
    | cons a A ih =>
      intro k P Z hz hp
      cases Z with
      | nil => simp at hz
      | cons z Z =>
        rw [List.zipIdx_cons, List.foldl_cons]
        have e : (P ++ z :: Z).toArray.setIfInBounds (L.length + k) a = ((P ++ [a]) ++ Z).toArray := by
          rw [← hp]; simp
        show List.foldl _ ((P ++ z :: Z).toArray.setIfInBounds (L.length + k) a) _ = _
        rw [e, ih (k + 1) (P ++ [a]) Z (by simpa using hz) (by simp [hp]; omega)]
        simp
  have := key A 0 L Z h rfl
  exact this
theorem Tryz.zeroItem : ((Tryz.prog.info? 254).map fun i => i.zero.map fun z => z.cells.toList) = some (some (.bool false :: .int .u64 0 :: .int .u64 0 :: (List.replicate 32 (.int .u8 0) ++ [.int .i64 0]))) := by kernel_rfl
theorem item_zero : ∃ i z, Tryz.prog.info? 254 = some i ∧ i.zero = some z ∧ z.cells = (.bool false :: .int .u64 0 :: .int .u64 0 :: (List.replicate 32 (.int .u8 0) ++ [.int .i64 0])).toArray := by
  have h := Tryz.zeroItem
  cases hi : Tryz.prog.info? 254 with
  | none => rw [hi] at h; simp at h
  | some i =>
    rw [hi, Option.map_some, Option.some.injEq] at h
    cases hz : i.zero with
    | none => rw [hz] at h; simp at h
    | some z =>
      rw [hz, Option.map_some, Option.some.injEq] at h
      exact ⟨i, z, rfl, hz, by rw [← h]⟩
theorem built_struct {P : Program} {t : TypeId} {it : TypeInfo} {z : Value} {fields : Array Field} {places : List (Nat × Nat)} (hi : P.info? t = some it) (hu : P.underlying t = some (.struct fields)) (hz : it.zero = some z)
    (hp : fields.toList.mapM (fun f => (P.info? f.type).map fun i => (f.offset, i.size)) = some places) (parts : List (Nat × Value)) : P.built t parts = Instr.fill (places.toArray[·]?) z.cells parts := by
  unfold Program.built
  rw [hi, hu]
  simp only [hz, hp]
theorem built_item (b : Bool) (A : List Value) (h : A.length = 35) : Tryz.prog.built 254 [(0, .bool b), (1, .agg A.toArray)] = some (.bool b :: A).toArray := by
  obtain ⟨i, z, hi, hz, hc⟩ := item_zero
  rw [built_struct (places := [(0, 1), (1, 35)]) hi Tryz.underlying254 hz (by kernel_rfl), hc]
  have hf := fill_all (.int .u64 0 :: .int .u64 0 :: (List.replicate 32 (.int .u8 0) ++ [.int .i64 0])) A [.bool b] (by rw [h]; rfl)
  have hZ : (.int .u64 0 :: .int .u64 0 :: (List.replicate 32 (.int .u8 0) ++ [.int .i64 0]) : List Value).length = 35 := rfl
  generalize (.int .u64 0 :: .int .u64 0 :: (List.replicate 32 (.int .u8 0) ++ [.int .i64 0]) : List Value) = Z at hf hZ ⊢
  simp [Instr.fill, Value.cells, h, hZ]
  exact hf
theorem row_item (A : List Value) (h : A.length = 36) (w : World) : (Instr.buildSlice 199 1 #[(0, .agg A.toArray)]).run Tryz.prog w = .ok (.slice (some ⟨w.heap.size, 0, none⟩) 1 1) (w.alloc (.cells A.toArray 254)) := by
  obtain ⟨i, z, hi, hz, hc⟩ := item_zero
  have hsz : i.size = 36 := by have := Tryz.infoItem; rw [hi] at this; simpa using this
  refine run_buildSlice w _ _ 1 _ _ i z Tryz.underlying199 hi hz (by rw [hsz]; decide) (by rw [hsz]; decide) ?_
  rw [hsz, hc]
  generalize hW : Array.map _ _ = W
  have hWs : W.toList.length = A.length := by rw [← hW, h]; simp
  have hf := fill_all W.toList A [] hWs
  have hWs2 : W.size = 36 := by rw [← h, ← hWs]; simp
  simp [Instr.fill, Value.cells, h, hWs2] at hf ⊢
  exact hf
/-- The same, kept whole. -/
def bdItem (p : Array (Nat × Value)) : Sem Value := Instr.build 254 p
theorem bd_item_fold (p : Array (Nat × Value)) : Instr.build 254 p = bdItem p := rfl
theorem bd_item (b : Bool) (A : List Value) (w : World) : (bdItem #[(0, .bool b), (1, .agg A.toArray)]).run Tryz.prog w = if A.length = 35 then .ok (.agg (.bool b :: A).toArray) w else (Instr.build 254 #[(0, .bool b), (1, .agg A.toArray)]).run Tryz.prog w := by
  by_cases h : A.length = 35
  · rw [if_pos h]; exact run_build w _ _ _ (built_item b A h)
  · rw [if_neg h]; rfl
def bsItem (n : Nat) (p : Array (Nat × Value)) : Sem Value := Instr.buildSlice 199 n p
theorem bs_item_fold (n : Nat) (p : Array (Nat × Value)) : Instr.buildSlice 199 n p = bsItem n p := rfl
theorem bs_item (A : List Value) (w : World) : (bsItem 1 #[(0, .agg A.toArray)]).run Tryz.prog w = if A.length = 36 then .ok (.slice (some ⟨w.heap.size, 0, none⟩) 1 1) (w.alloc (.cells A.toArray 254)) else (Instr.buildSlice 199 1 #[(0, .agg A.toArray)]).run Tryz.prog w := by
  by_cases h : A.length = 36
  · rw [if_pos h]; exact row_item A h w
  · rw [if_neg h]; rfl

end Go.Proofs.YtfmkdoachjgjbaaGreatDoor
