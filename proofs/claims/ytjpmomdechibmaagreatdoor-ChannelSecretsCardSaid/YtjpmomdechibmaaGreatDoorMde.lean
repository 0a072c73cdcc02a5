/-
  hearers: who hears which kind.
-/
import Derived.Test.YtjpmomdechibmaaGreatDoorMay
import Derived.Maps.OwnSet
import Derived.Test.YtjpmomdechibmaaGreatDoorCh8
import Derived.Test.YtjpmomdechibmaaGreatDoorMda
import Derived.Test.YtjpmomdechibmaaGreatDoorMbi
import Derived.Test.YtjpmomdechibmaaGreatDoorMcg
namespace Go.Proofs.YtjpmomdechibmaaGreatDoor
set_option linter.unusedVariables false
set_option linter.unusedSimpArgs false
open Go.RowKit

/-- How a function value in the map is read. -/
def fnR (v : Value) : Option (DataW Unit × List MemPlace) :=
  match v with
  | .func (.func F) a b => if a.size = 0 ∧ b.size = 0 then some (.lit (.int .i64 F), []) else none
  | .nilFunc => some (.lit (.int .i64 (-1)), [])
  | _ => none
theorem fnR_inv {v : Value} {F : Nat} {ps : List MemPlace} (h : fnR v = some (.lit (.int .i64 F), ps)) : v = .func (.func F) #[] #[] := by
  unfold fnR at h
  split at h
  · split at h
    · rename_i hs
      simp only [Option.some.injEq, Prod.mk.injEq, DataW.lit.injEq, Lit.int.injEq, true_and] at h
      have e : _ = F := Int.ofNat.inj h.1
      rw [Array.eq_empty_of_size_eq_zero hs.1, Array.eq_empty_of_size_eq_zero hs.2, e]
    · cases h
  · simp only [Option.some.injEq, Prod.mk.injEq, DataW.lit.injEq, Lit.int.injEq, true_and] at h
    omega
  · cases h
def hearD : DataW Unit := ((((((((DataW.map []).put (.int .i64 3) (.lit (.int .i64 66))).put (.int .i64 4) (.lit (.int .i64 67))).put (.int .i64 5) (.lit (.int .i64 68))).put (.int .i64 6) (.lit (.int .i64 69))).put (.int .i64 7) (.lit (.int .i64 70))).put (.int .i64 8) (.lit (.int .i64 71))).put (.int .i64 9) (.lit (.int .i64 72)))
/-- The map of hearers, in block b. -/
def HearM (w : World) (b : Nat) : Prop := w.ownsMap Tryz.prog 3 fnR b 7 hearD
set_option maxRecDepth 100000 in
set_option maxHeartbeats 1000000 in
theorem hearers_any (w : World) : Calls Tryz.prog 45 #[] w fun e w' => ∃ b, e = .returned (.map (some b)) ∧ New w w' ∧ HearM w' b := by
  have K := Maps.int_keyed Tryz.underlying3
  have h0 := World.ownsMap_made w Tryz.prog 3 fnR
  have n0 : New w (w.alloc (.map #[] 0)) := (Upd.refl _ _).alloc _
  have key : ∀ k : Int, (Lit.int .i64 k).wf = true → keyOf Tryz.prog 3 (.int .i64 k) = some (.int .i64 k) := fun k hk => Maps.keyOf_int_mk Tryz.underlying3 hk
  have hmm := @run_makeMap Tryz.prog
  obtain ⟨w1, r1, h1, g1⟩ := h0.update K Tryz.underlying107 (by decide) (key 3 (by decide)) (val := .func (.func 66) #[] #[]) (d := .lit (.int .i64 66)) (ps := []) rfl
  obtain ⟨w2, r2, h2, g2⟩ := h1.update K Tryz.underlying107 (by decide) (key 4 (by decide)) (val := .func (.func 67) #[] #[]) (d := .lit (.int .i64 67)) (ps := []) rfl
  obtain ⟨w3, r3, h3, g3⟩ := h2.update K Tryz.underlying107 (by decide) (key 5 (by decide)) (val := .func (.func 68) #[] #[]) (d := .lit (.int .i64 68)) (ps := []) rfl
  obtain ⟨w4, r4, h4, g4⟩ := h3.update K Tryz.underlying107 (by decide) (key 6 (by decide)) (val := .func (.func 69) #[] #[]) (d := .lit (.int .i64 69)) (ps := []) rfl
  obtain ⟨w5, r5, h5, g5⟩ := h4.update K Tryz.underlying107 (by decide) (key 7 (by decide)) (val := .func (.func 70) #[] #[]) (d := .lit (.int .i64 70)) (ps := []) rfl
  obtain ⟨w6, r6, h6, g6⟩ := h5.update K Tryz.underlying107 (by decide) (key 8 (by decide)) (val := .func (.func 71) #[] #[]) (d := .lit (.int .i64 71)) (ps := []) rfl
  obtain ⟨w7, r7, h7, g7⟩ := h6.update K Tryz.underlying107 (by decide) (key 9 (by decide)) (val := .func (.func 72) #[] #[]) (d := .lit (.int .i64 72)) (ps := []) rfl
  have n7 : New w w7 := by
    have hb : ∀ {a b : World}, a.grownBy b (some w.heap.size) → New w a → New w b := fun g n => n.grown g (fun k hk hkk => by injection hk with hk; omega)
    exact hb g7 (hb g6 (hb g5 (hb g4 (hb g3 (hb g2 (hb g1 n0))))))
  have HM : HearM w7 w.heap.size := h7
  clear key K h0 h1 h2 h3 h4 h5 h6 h7 g1 g2 g3 g4 g5 g6 g7 n0
  go_enter Tryz.func45, Tryz.ntmps45
  go_wp2_with fail
  go_ret
  exact ⟨_, rfl, n7, HM⟩
theorem hear_look {w : World} {b : Nat} (h : HearM w b) (k : Int) (F : Nat) (hk : (Lit.int .i64 k).wf = true) (hh : Maps.has hearD (.int .i64 k) = true) (hd : hearD.atKey (.int .i64 k) (.lit (.int .i64 (-1))) = .lit (.int .i64 F)) :
    (Instr.lookup 107 (.map (some b)) (.int .i64 k) true).run Tryz.prog w = .ok (.tuple #[.func (.func F) #[] #[], .bool true]) w := by
  obtain ⟨v, ps, hr, hv⟩ := h.look_ok (Maps.int_keyed Tryz.underlying3) Tryz.underlying107 (z := .nilFunc) (zd := .lit (.int .i64 (-1))) (zp := []) (by kernel_rfl) rfl (Maps.keyOf_int_mk Tryz.underlying3 hk)
  rw [hd] at hv
  rw [hr, fnR_inv hv, hh]
theorem hear_no {w : World} {b : Nat} (h : HearM w b) (k : Int) (hk : (Lit.int .i64 k).wf = true) (hh : Maps.has hearD (.int .i64 k) = false) :
    ∃ v, (Instr.lookup 107 (.map (some b)) (.int .i64 k) true).run Tryz.prog w = .ok (.tuple #[v, .bool false]) w := by
  obtain ⟨v, ps, hr, hv⟩ := h.look_ok (Maps.int_keyed Tryz.underlying3) Tryz.underlying107 (z := .nilFunc) (zd := .lit (.int .i64 (-1))) (zp := []) (by kernel_rfl) rfl (Maps.keyOf_int_mk Tryz.underlying3 hk)
  exact ⟨v, by rw [hr, hh]⟩
theorem look_1 {w : World} {b : Nat} (h : HearM w b) : ∃ v, (Instr.lookup 107 (.map (some b)) (.int .i64 1) true).run Tryz.prog w = .ok (.tuple #[v, .bool false]) w := hear_no h 1 (by decide) (by decide +kernel)
theorem look_2 {w : World} {b : Nat} (h : HearM w b) : ∃ v, (Instr.lookup 107 (.map (some b)) (.int .i64 2) true).run Tryz.prog w = .ok (.tuple #[v, .bool false]) w := hear_no h 2 (by decide) (by decide +kernel)
theorem look_3 {w : World} {b : Nat} (h : HearM w b) : (Instr.lookup 107 (.map (some b)) (.int .i64 3) true).run Tryz.prog w = .ok (.tuple #[.func (.func 66) #[] #[], .bool true]) w := hear_look h 3 _ (by decide) (by decide +kernel) rfl
theorem look_4 {w : World} {b : Nat} (h : HearM w b) : (Instr.lookup 107 (.map (some b)) (.int .i64 4) true).run Tryz.prog w = .ok (.tuple #[.func (.func 67) #[] #[], .bool true]) w := hear_look h 4 _ (by decide) (by decide +kernel) rfl
theorem look_5 {w : World} {b : Nat} (h : HearM w b) : (Instr.lookup 107 (.map (some b)) (.int .i64 5) true).run Tryz.prog w = .ok (.tuple #[.func (.func 68) #[] #[], .bool true]) w := hear_look h 5 _ (by decide) (by decide +kernel) rfl
theorem look_6 {w : World} {b : Nat} (h : HearM w b) : (Instr.lookup 107 (.map (some b)) (.int .i64 6) true).run Tryz.prog w = .ok (.tuple #[.func (.func 69) #[] #[], .bool true]) w := hear_look h 6 _ (by decide) (by decide +kernel) rfl
theorem look_7 {w : World} {b : Nat} (h : HearM w b) : (Instr.lookup 107 (.map (some b)) (.int .i64 7) true).run Tryz.prog w = .ok (.tuple #[.func (.func 70) #[] #[], .bool true]) w := hear_look h 7 _ (by decide) (by decide +kernel) rfl
theorem look_8 {w : World} {b : Nat} (h : HearM w b) : (Instr.lookup 107 (.map (some b)) (.int .i64 8) true).run Tryz.prog w = .ok (.tuple #[.func (.func 71) #[] #[], .bool true]) w := hear_look h 8 _ (by decide) (by decide +kernel) rfl
theorem look_9 {w : World} {b : Nat} (h : HearM w b) : (Instr.lookup 107 (.map (some b)) (.int .i64 9) true).run Tryz.prog w = .ok (.tuple #[.func (.func 72) #[] #[], .bool true]) w := hear_look h 9 _ (by decide) (by decide +kernel) rfl

end Go.Proofs.YtjpmomdechibmaaGreatDoor

/-
  The tables that an end's calls read, together.
-/
namespace Go.Proofs.YtjpmomdechibmaaGreatDoor
set_option linter.unusedVariables false
set_option linter.unusedSimpArgs false
open Go.RowKit

structure Tb (w : World) : Prop where
  glob : Glob w
  spans : Spans w
  tabs : Tabs w
  deb : Deb w
/-- No table lies in S. -/
structure Apart (S : Nat → Prop) : Prop where
  a : ¬ S 0
  b : ¬ S 2
  c : ¬ S 3
  d : ¬ S 1
  e : ¬ S 5
theorem Tb.upd {S : Nat → Prop} {w w' : World} (h : Tb w) (u : Upd S w w') (a : Apart S) : Tb w' := ⟨h.glob.upd u a.a, h.spans.upd u a.b, h.tabs.upd u a.c a.d, h.deb.upd u a.e⟩
theorem Tb.new {w w' : World} (h : Tb w) (u : New w w') : Tb w' := ⟨h.glob.new u, h.spans.new u, h.tabs.new u, h.deb.new u⟩
theorem Tb.lt {w : World} (h : Tb w) : 0 < w.heap.size ∧ 2 < w.heap.size ∧ 3 < w.heap.size ∧ 1 < w.heap.size ∧ 5 < w.heap.size :=
  ⟨World.block_lt_of_cell? w _ (h.glob.events 0 (by decide)), World.block_lt_of_cell? w _ (h.spans.spans 0 (by decide)), h.tabs.lt.1, h.tabs.lt.2, World.block_lt_of_cell? w _ (h.deb.tab 0 (by decide))⟩
theorem Apart.fr {S : Nat → Prop} {w : World} (h : Apart S) (t : Tb w) (w' : World) : Apart (Fr S w w') := by
  obtain ⟨a, b, c, d, e⟩ := t.lt
  refine ⟨?_, ?_, ?_, ?_, ?_⟩
  · rintro (k | k)
    · exact h.a k
    · omega
  · rintro (k | k)
    · exact h.b k
    · omega
  · rintro (k | k)
    · exact h.c k
    · omega
  · rintro (k | k)
    · exact h.d k
    · omega
  · rintro (k | k)
    · exact h.e k
    · omega
theorem Apart.mono {S T : Nat → Prop} (h : Apart S) (st : ∀ k, T k → S k) : Apart T := ⟨fun k => h.a (st _ k), fun k => h.b (st _ k), fun k => h.c (st _ k), fun k => h.d (st _ k), fun k => h.e (st _ k)⟩
/-- Frames, one behind the other. -/
theorem Fr.comp {S : Nat → Prop} {w1 w2 w3 : World} (h : w1.heap.size ≤ w2.heap.size) (h' : w2.heap.size ≤ w3.heap.size) : ∀ k, Fr (Fr S w1 w2) w2 w3 k → Fr S w1 w3 k := by
  rintro k ((h | h) | h)
  · exact .inl h
  · exact .inr ⟨h.1, by omega⟩
  · exact .inr ⟨by omega, h.2⟩
theorem Fr.widen {S T : Nat → Prop} {w1 w2 w3 : World} (h : w1.heap.size ≤ w2.heap.size) (hT : ∀ k, T k → Fr S w1 w2 k) : ∀ k, Fr T w2 w3 k → Fr S w1 w3 k ∨ Fr S w1 w2 k := by
  rintro k (h | h)
  · exact .inr (hT k h)
  · exact .inl (.inr ⟨by omega, h.2⟩)
theorem Upd.fr {S : Nat → Prop} {w1 w2 w3 : World} (u : Upd S w1 w2) (v : Upd (Fr S w1 w2) w2 w3) : Upd S w1 w3 := u.then v fun i hi h => by
  rcases h with h | h
  · exact h
  · omega
theorem ChS.comp {S : Nat → Prop} {w1 w2 w3 : World} {g : Nat} {c : Ch} (h : ChS w3 g (Fr (Fr S w1 w2) w2 w3) c) (h1 : w1.heap.size ≤ w2.heap.size) (h2 : w2.heap.size ≤ w3.heap.size) : ChS w3 g (Fr S w1 w3) c := by
  obtain ⟨a, b, d, h⟩ := h
  refine ⟨a, b, d, h.wider (Fr.comp h1 h2) (fun k hk => ?_)⟩
  have := h.lt g h.inG
  rcases hk with hk | hk
  · exact h.lt k (.inl (.inl hk))
  · exact hk.2
theorem ChS.frW {S : Nat → Prop} {w1 w2 : World} {g : Nat} {c : Ch} (h : ChS w2 g S c) : ChS w2 g (Fr S w1 w2) c := by
  obtain ⟨a, b, d, h⟩ := h
  exact h.fr w1
/-- S and what was made later is S and what was made at all. -/
theorem ChS.later {S : Nat → Prop} {w1 w2 w3 : World} {g : Nat} {c : Ch} (h : ChS w3 g (Fr S w2 w3) c) (h1 : w1.heap.size ≤ w2.heap.size) : ChS w3 g (Fr S w1 w3) c := by
  obtain ⟨a, b, d, h⟩ := h
  refine ⟨a, b, d, h.wider (fun k hk => ?_) (fun k hk => ?_)⟩
  · rcases hk with hk | hk
    · exact .inl hk
    · exact .inr ⟨by omega, hk.2⟩
  · rcases hk with hk | hk
    · exact h.lt k (.inl hk)
    · exact hk.2

theorem ChS.grow {S : Nat → Prop} {w0 w1 w2 : World} {g : Nat} {c : Ch} (h : ChS w2 g (Fr S w0 w1) c) (h1 : w1.heap.size ≤ w2.heap.size) : ChS w2 g (Fr S w0 w2) c := by
  obtain ⟨a, b, d, h⟩ := h
  refine ⟨a, b, d, h.wider (fun k hk => ?_) (fun k hk => ?_)⟩
  · rcases hk with hk | hk
    · exact .inl hk
    · exact .inr ⟨hk.1, by omega⟩
  · rcases hk with hk | hk
    · exact h.lt k (.inl hk)
    · exact hk.2

end Go.Proofs.YtjpmomdechibmaaGreatDoor

/-
  Items to be read.
-/
namespace Go.Proofs.YtjpmomdechibmaaGreatDoor
set_option linter.unusedVariables false
set_option linter.unusedSimpArgs false
open Go.RowKit Go.Sort

theorem get!_of {X : List Item} {n : Nat} {x : Item} (h : X[n]? = some x) : X[n]! = x := by rw [List.getElem!_eq_getElem?_getD, h]; rfl
/-- From off on, block g holds the items X; to be read. -/
def HeldR (w : World) (g off : Nat) (X : List Item) : Prop :=
  ∃ C T fz, w.heap[g]? = some (.cells C T fz) ∧ off + X.length * 36 ≤ C.size ∧ ∀ i x, X[i]? = some x → ∀ j, j < 36 → C[off + i * 36 + j]? = (itemCells x)[j]?
theorem HeldR.row {w : World} {g off : Nat} {xs : List Item} (h : HeldR w g off xs) {i : Nat} {x : Item} (hi : xs[i]? = some x) : rowN w g (off + i * 36) 36 = some (itemCells x).toArray := by
  obtain ⟨C, T, fz, hb, hs, hc⟩ := h
  have hlt : i < xs.length := (List.getElem?_eq_some_iff.1 hi).1
  have hle : off + i * 36 + 36 ≤ C.size := by have := Nat.mul_le_mul_right 36 (show i + 1 ≤ xs.length from hlt); omega
  rw [rowN_blk hb _ _ hle]
  congr 1
  apply Array.ext'
  apply List.ext_getElem?
  intro j
  rw [Array.getElem?_toList, Array.getElem?_extract]
  by_cases hj : j < 36
  · rw [if_pos (by omega), hc i x hi j hj]
  · rw [if_neg (by omega), List.getElem?_eq_none (by rw [item_len]; omega)]
theorem HeldR.upd {S : Nat → Prop} {w w' : World} {b off : Nat} {xs : List Item} (h : HeldR w b off xs) (u : Upd S w w') (hn : ¬ S b) : HeldR w' b off xs := by
  obtain ⟨C, T, fz, hb, r⟩ := h
  exact ⟨C, T, fz, u.old hb hn, r⟩
theorem HeldR.lt {w : World} {g off : Nat} {xs : List Item} (h : HeldR w g off xs) : g < w.heap.size := by
  obtain ⟨C, T, fz, hb, r⟩ := h
  exact blk_lt hb
theorem Held.toR {w : World} {g off : Nat} {xs : List Item} (h : Held w g off xs) : HeldR w g off xs := by
  obtain ⟨C, T, hb, hs, hc⟩ := h
  refine ⟨C, T, _, hb, hs, fun i x hx j hj => ?_⟩
  rw [hc i (List.getElem?_eq_some_iff.1 hx).1 j hj, get!_of hx]
/-- What a slice of items holds; to be read. -/
def ItemsR (w : World) (v : Value) (X : List Item) : Prop := (∃ a c, v = .slice a 0 c ∧ X = []) ∨ ∃ g off cap, v = .slice (some ⟨g, off, none⟩) X.length cap ∧ HeldR w g off X
theorem ItemsR.new {w w' : World} {v : Value} {X : List Item} (h : ItemsR w v X) (u : New w w') : ItemsR w' v X := by
  rcases h with h | ⟨g, off, cap, e, h⟩
  · exact .inl h
  · exact .inr ⟨g, off, cap, e, h.upd u (fun h => h)⟩
theorem Items.toR {w : World} {v : Value} {X : List Item} (h : Items w v X) : ItemsR w v X := by
  rcases h with h | ⟨g, cap, e, h⟩
  · exact .inl h
  · exact .inr ⟨g, 0, cap, e, h.toR⟩
theorem ItemsR.slice {w : World} {v : Value} {X : List Item} (h : ItemsR w v X) : ∃ a c, v = .slice a X.length c := by
  rcases h with ⟨_, _, rfl, rfl⟩ | ⟨g, off, cap, rfl, _⟩
  · exact ⟨_, _, rfl⟩
  · exact ⟨_, _, rfl⟩

theorem own_ge {w : World} {base : Nat} {e : TypeId} {size : Nat} {v : Value} {n : Nat} {xs : List Value} (h : w.ownsRow base e size v n xs) : ∀ k, v.ownBlock = some k → base ≤ k := by
  intro k hk
  rcases h.2 with ⟨rfl, _⟩ | ⟨g, cap, cur, rfl, e2, _⟩
  · simp [Value.ownBlock] at hk
  · simp [Value.ownBlock] at hk; omega
theorem ItemsR.at {w : World} {a : Option Addr} {n c : Nat} {X : List Item} (h : ItemsR w (.slice a n c) X) {i : Nat} {x : Item} (hi : X[i]? = some x) :
    ∃ b off, a = some ⟨b, off, none⟩ ∧ n = X.length ∧ rowN w b (off + i * 36) 36 = some (itemCells x).toArray := by
  rcases h with ⟨_, _, e, rfl⟩ | ⟨b, off, cap, e, hh⟩
  · simp at hi
  · cases e
    exact ⟨b, off, rfl, rfl, hh.row hi⟩

end Go.Proofs.YtjpmomdechibmaaGreatDoor

/-
  The writer at fixed widths.
-/
namespace Go.Proofs.YtjpmomdechibmaaGreatDoor
set_option linter.unusedVariables false
set_option linter.unusedSimpArgs false
open Go.RowKit

theorem number_int (g : Nat) (x : Int) (width : Nat) (wi : Int) (s : ByteArray) (w : World) (hwi : wi = width) (hg : Wr w g s) (hw1 : 1 ≤ width) (hw8 : width ≤ 8) (h0 : 0 ≤ x) (hn : x < 2 ^ (8 * width)) (hs : s.size ≤ 1073741824) :
    Calls Tryz.prog 86 #[.pointer (some ⟨g, 0, none⟩), .int .u64 x, .int .i64 wi] w fun e w' => e = .returned (.int .i64 0) ∧ Upd (fun k => k = g) w w' ∧ Wr w' g (s ++ numS x.toNat width) := by
  subst hwi
  obtain ⟨n, rfl⟩ := Int.eq_ofNat_of_zero_le h0
  rw [Int.toNat_natCast]
  exact number_any g n width s w hg hw1 hw8 (by exact_mod_cast hn) hs
theorem number_8 (g : Nat) (x : Int) (s : ByteArray) (w : World) (hg : Wr w g s) (h0 : 0 ≤ x) (hn : x < 18446744073709551616) (hs : s.size ≤ 1073741824) :
    Calls Tryz.prog 86 #[.pointer (some ⟨g, 0, none⟩), .int .u64 x, .int .i64 8] w fun e w' => e = .returned (.int .i64 0) ∧ Upd (fun k => k = g) w w' ∧ Wr w' g (s ++ numS x.toNat 8) :=
  number_int g x 8 8 s w rfl hg (by decide) (by decide) h0 hn hs
theorem number_4 (g : Nat) (x : Int) (s : ByteArray) (w : World) (hg : Wr w g s) (h0 : 0 ≤ x) (hn : x < 4294967296) (hs : s.size ≤ 1073741824) :
    Calls Tryz.prog 86 #[.pointer (some ⟨g, 0, none⟩), .int .u64 x, .int .i64 4] w fun e w' => e = .returned (.int .i64 0) ∧ Upd (fun k => k = g) w w' ∧ Wr w' g (s ++ numS x.toNat 4) :=
  number_int g x 4 4 s w rfl hg (by decide) (by decide) h0 hn hs
theorem number_2 (g : Nat) (x : Int) (s : ByteArray) (w : World) (hg : Wr w g s) (h0 : 0 ≤ x) (hn : x < 65536) (hs : s.size ≤ 1073741824) :
    Calls Tryz.prog 86 #[.pointer (some ⟨g, 0, none⟩), .int .u64 x, .int .i64 2] w fun e w' => e = .returned (.int .i64 0) ∧ Upd (fun k => k = g) w w' ∧ Wr w' g (s ++ numS x.toNat 2) :=
  number_int g x 2 2 s w rfl hg (by decide) (by decide) h0 hn hs
theorem number_1 (g : Nat) (x : Int) (s : ByteArray) (w : World) (hg : Wr w g s) (h0 : 0 ≤ x) (hn : x < 256) (hs : s.size ≤ 1073741824) :
    Calls Tryz.prog 86 #[.pointer (some ⟨g, 0, none⟩), .int .u64 x, .int .i64 1] w fun e w' => e = .returned (.int .i64 0) ∧ Upd (fun k => k = g) w w' ∧ Wr w' g (s ++ numS x.toNat 1) :=
  number_int g x 1 1 s w rfl hg (by decide) (by decide) h0 hn hs


end Go.Proofs.YtjpmomdechibmaaGreatDoor
