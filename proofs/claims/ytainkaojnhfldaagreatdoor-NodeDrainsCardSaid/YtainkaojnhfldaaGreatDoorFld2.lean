/-
  wire.number, list, fields.
-/
import Derived.Test.YtainkaojnhfldaaGreatDoorFld
set_option linter.unusedVariables false
set_option linter.unusedSimpArgs false
namespace Go.Proofs.YtainkaojnhfldaaGreatDoor
open Go.RowKit

theorem number64_any (n : Int) (F : FuncId) (w : World) : Calls Tryz.prog 146 #[.int .i64 n, .func (.func F) #[] #[]] w fun e w' => ∃ v, e = .returned v ∧ New w w' ∧ NumV w.heap.size w' v 177 F n := by
  go_enter Tryz.func146, Tryz.ntmps146
  go_wp2_with fail
  go_ret
  have hb := blk_alloc (w.alloc (.cells #[.int .i64 n] 3)) (.cells #[.func (.func F) #[] #[]] 259)
  rw [World.size_alloc] at hb
  exact ⟨_, rfl, ((Upd.refl _ _).alloc _).alloc _, _, _, rfl, by omega, by omega, by rw [blk_cell hb]; rfl, by rw [blk_cell (blk_alloc_old (blk_alloc _ _) _)]; rfl⟩
theorem numberI_any (n : Int) (F : FuncId) (w : World) : Calls Tryz.prog 149 #[.int .i64 n, .func (.func F) #[] #[]] w fun e w' => ∃ v, e = .returned v ∧ New w w' ∧ NumV w.heap.size w' v 178 F n := by
  go_enter Tryz.func149, Tryz.ntmps149
  go_wp2_with fail
  go_ret
  have hb := blk_alloc (w.alloc (.cells #[.int .i64 n] 3)) (.cells #[.func (.func F) #[] #[]] 262)
  rw [World.size_alloc] at hb
  exact ⟨_, rfl, ((Upd.refl _ _).alloc _).alloc _, _, _, rfl, by omega, by omega, by rw [blk_cell hb]; rfl, by rw [blk_cell (blk_alloc_old (blk_alloc _ _) _)]; rfl⟩
theorem number32_any (n : Int) (F : FuncId) (w : World) : Calls Tryz.prog 179 #[.int .i64 n, .func (.func F) #[] #[]] w fun e w' => ∃ v, e = .returned v ∧ New w w' ∧ NumV w.heap.size w' v 203 F n := by
  go_enter Tryz.func179, Tryz.ntmps179
  go_wp2_with fail
  go_ret
  have hb := blk_alloc (w.alloc (.cells #[.int .i64 n] 3)) (.cells #[.func (.func F) #[] #[]] 285)
  rw [World.size_alloc] at hb
  exact ⟨_, rfl, ((Upd.refl _ _).alloc _).alloc _, _, _, rfl, by omega, by omega, by rw [blk_cell hb]; rfl, by rw [blk_cell (blk_alloc_old (blk_alloc _ _) _)]; rfl⟩
theorem NumV.later {a b : Nat} {w : World} {v : Value} {f F : FuncId} {n : Int} (h : NumV b w v f F n) (ab : a ≤ b) : NumV a w v f F n := by
  obtain ⟨p, q, e, hp, hq, r⟩ := h
  exact ⟨p, q, e, by omega, by omega, r⟩
theorem FldV.later {a b : Nat} {w : World} {v : Value} {x : Fld} (h : FldV b w v x) (ab : a ≤ b) : FldV a w v x := by
  cases x <;> first | exact NumV.later h ab | exact h

/-- A row of fields' closures. -/
structure FldsO (base : Nat) (w : World) (v : Value) (xs : List Fld) : Prop where
  row : ∃ vs : List Value, w.ownsRow base 256 1 v xs.length vs ∧ vs.length = xs.length ∧ ∀ (i : Nat) (x : Fld) (u : Value), xs[i]? = some x → vs[i]? = some u → FldV base w u x
theorem Tryz.zeroFld : ((Tryz.prog.info? 256).map fun i => (i.zero.map (·.cells.size), i.size, decide (i.bytes ≤ 1000))) = some (some 1, 1, true) := by kernel_rfl
theorem fld_info : ∃ i z b, Tryz.prog.info? 256 = some i ∧ i.zero = some z ∧ i.size = 1 ∧ i.bytes = b ∧ z.cells.size = 1 ∧ b ≤ 1000 := by
  have h := Tryz.zeroFld
  cases hi : Tryz.prog.info? 256 with
  | none => rw [hi] at h; cases h
  | some i =>
    rw [hi] at h
    simp only [Option.map_some, Option.some.injEq, Prod.mk.injEq] at h
    obtain ⟨h1, h2, h3⟩ := h
    cases hz : i.zero with
    | none => rw [hz] at h1; cases h1
    | some z =>
      rw [hz] at h1
      exact ⟨i, z, i.bytes, rfl, hz, h2, rfl, by simpa using h1, of_decide_eq_true h3⟩

set_option maxRecDepth 100000 in
set_option maxHeartbeats 1000000 in
theorem list_any (g : Nat) (vs : List Value) (w : World) (hg : w.heap[g]? = some (.cells vs.toArray 256 (0, 0))) (h1 : ∀ v ∈ vs, v.oneCell' = true) (hl : vs.length ≤ 100) :
    Calls Tryz.prog 152 #[.slice (some ⟨g, 0, none⟩) vs.length vs.length] w fun e w' => ∃ v c, e = .returned (.tuple #[v, .bool true]) ∧ New w w' ∧ w'.ownsRow w.heap.size 256 1 v (1 + vs.length) (c :: vs) ∧ FldV w.heap.size w' c .ch := by
  obtain ⟨i9, z9, b9, hi9, hz9, hz0, hz1, hz2, hb9⟩ := fld_info
  have hn := number32_any 4 180 w
  go_enter Tryz.func152, Tryz.ntmps152
  go_wp2_with fail
  refine hn.mono ?_
  rintro e w1 ⟨c, rfl, n1, p, q, rfl, hp, hq, cp, cq⟩
  clear hn
  have lp := World.block_lt_of_cell? w1 _ cp
  have lq := World.block_lt_of_cell? w1 _ cq
  change p < _ at lp
  change q < _ at lq
  obtain ⟨c, hce⟩ : ∃ c : Value, c = .func (.func 203) #[] #[.pointer (some ⟨p, 0, none⟩), .pointer (some ⟨q, 0, none⟩)] := ⟨_, rfl⟩
  have HCE := hide hce
  have hown : (w1.alloc (.cells #[c] 256)).ownsRow w.heap.size 256 1 (.slice (some ⟨w1.heap.size, 0, none⟩) 1 1) 1 [c] :=
    ⟨rfl, .inr ⟨w1.heap.size, 1, #[c], rfl, n1.size, blk_alloc _ _, Nat.le_refl _, by decide, rfl, rfl⟩⟩
  have hgg : (w1.alloc (.cells #[c] 256)).heap[g]? = some (.cells vs.toArray 256 (0, 0)) := (n1.alloc (.cells #[c] 256)).old hg (fun h => h)
  rw [hce] at hown hgg
  clear hce
  go_wp2_with (at_builtin; refine wpList_append_own _ rfl (.tmp 7) (.tmp 8) 205 rfl w.heap.size 256 i9 _ 1 b9 Tryz.underlying205 hi9 hz9 hz0 hz1 hz2 (by decide) _ _ _ rfl hown ⟨g, 0, none⟩ vs.length vs.length vs rfl (by rw [Nat.mul_one]) ?c1 h1 ?c3 ?c4 ?c5 ?_)
  case c1 => exact World.news_of_block (cs := vs.toArray) (fr := (0, 0)) hgg
  case c3 => unfold maxLen; omega
  case c4 => have := Nat.mul_le_mul (show 1 + vs.length ≤ 101 by omega) hb9; omega
  case c5 => have := n1.size; rw [World.size_alloc]; omega
  intro v' w5 hown5 hgrow5 _
  obtain ⟨wa, hwa⟩ : ∃ wa : World, wa = w1.alloc (.cells #[.func (.func 203) #[] #[.pointer (some ⟨p, 0, none⟩), .pointer (some ⟨q, 0, none⟩)]] 256) := ⟨_, rfl⟩
  have hal : New w1 wa := by rw [hwa]; exact (Upd.refl _ _).alloc _
  rw [← hwa] at hgrow5
  have hN : New w w5 := (n1.trans hal).grown hgrow5 (fun k hk hkk => by
    simp only [Value.ownBlock, Option.some.injEq] at hk
    have := n1.size
    omega)
  have u5 : Upd (fun k => k = w1.heap.size) wa w5 := (Upd.refl _ _).grown hgrow5 (fun k hk hkk => by
    simp only [Value.ownBlock, Option.some.injEq] at hk
    omega)
  have hc5 : FldV w.heap.size w5 c .ch := by
    exact ⟨p, q, unhide HCE, hp, hq, u5.cell (hal.cell cp (fun h => h)) (by show ¬ p = _; omega), u5.cell (hal.cell cq (fun h => h)) (by show ¬ q = _; omega)⟩
  rw [← unhide HCE] at hown5
  have HO := hide hown5
  have HC := hide hc5
  have HN := hide hN
  clear hown5 hgrow5 hc5 hN u5 hown hgg hal hwa
  go_wp2_with fail
  go_ret2
  exact ⟨_, c, rfl, unhide HN, unhide HO, unhide HC⟩
set_option maxRecDepth 100000 in
set_option maxHeartbeats 1000000 in
theorem list0_any (w : World) :
    Calls Tryz.prog 152 #[.slice none 0 0] w fun e w' => ∃ v c, e = .returned (.tuple #[v, .bool true]) ∧ New w w' ∧ w'.ownsRow w.heap.size 256 1 v 1 [c] ∧ FldV w.heap.size w' c .ch := by
  have hn := number32_any 4 180 w
  go_enter Tryz.func152, Tryz.ntmps152
  go_wp2_with fail
  refine hn.mono ?_
  rintro e w1 ⟨c, rfl, n1, p, q, rfl, hp, hq, cp, cq⟩
  clear hn
  go_wp2_with fail
  go_ret2
  have hal : New w1 (w1.alloc (.cells #[.func (.func 203) #[] #[.pointer (some ⟨p, 0, none⟩), .pointer (some ⟨q, 0, none⟩)]] 256)) := (Upd.refl _ _).alloc _
  exact ⟨_, _, rfl, n1.trans hal, ⟨rfl, .inr ⟨w1.heap.size, 1, _, rfl, n1.size, blk_alloc _ _, Nat.le_refl _, by decide, rfl, rfl⟩⟩, ⟨p, q, rfl, hp, hq, hal.cell cp (fun h => h), hal.cell cq (fun h => h)⟩⟩

end Go.Proofs.YtainkaojnhfldaaGreatDoor
