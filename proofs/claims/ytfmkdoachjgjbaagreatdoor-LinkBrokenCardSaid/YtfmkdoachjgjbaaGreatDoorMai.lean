/-
  Amounts in flight as rows of cells; slices of them; slices.Clone.
-/
import Derived.Test.YtfmkdoachjgjbaaGreatDoorProg
import Derived.Test.YtfmkdoachjgjbaaGreatDoorMaa
import Derived.Lib.LazyBuf
import Derived.Test.YtfmkdoachjgjbaaGreatDoorMah
import Derived.Test.YtfmkdoachjgjbaaGreatDoorTxt
set_option linter.unusedVariables false
set_option linter.unusedSimpArgs false
namespace Go.Proofs.YtfmkdoachjgjbaaGreatDoor
open Go.RowKit

structure Htlc where
  id : Int
  amount : Int
  hash : Vector Int 32
  expiry : Int
structure Live where
  h : Htlc
  own : Bool
  state : Int
  paid : Bool
structure Item where
  offered : Bool
  h : Htlc
def htlcCells (h : Htlc) : List Value := .int .u64 h.id :: .int .u64 h.amount :: (h.hash.toList.map (Value.int .u8) ++ [.int .i64 h.expiry])
def liveCells (x : Live) : List Value := htlcCells x.h ++ [.bool x.own, .int .i64 x.state, .bool x.paid]
def itemCells (x : Item) : List Value := .bool x.offered :: htlcCells x.h
/-- Numbers that fit. -/
structure HtlcOk (h : Htlc) : Prop where
  id : 0 ≤ h.id ∧ h.id ≤ 18446744073709551615
  amount : 0 ≤ h.amount ∧ h.amount ≤ 18446744073709551615
  hash : ∀ n ∈ h.hash.toList, 0 ≤ n ∧ n ≤ 255
  expiry : -9223372036854775808 ≤ h.expiry ∧ h.expiry ≤ 9223372036854775807
structure LiveOk (x : Live) : Prop where
  h : HtlcOk x.h
  state : -9223372036854775808 ≤ x.state ∧ x.state ≤ 9223372036854775807
theorem htlc_len (h : Htlc) : (htlcCells h).length = 35 := by simp [htlcCells]
theorem live_len (x : Live) : (liveCells x).length = 38 := by simp [liveCells, htlc_len]
theorem item_len (x : Item) : (itemCells x).length = 36 := by simp [itemCells, htlc_len]
theorem live_0 (x : Live) : (liveCells x)[0]? = some (.int .u64 x.h.id) := rfl
theorem live_1 (x : Live) : (liveCells x)[1]? = some (.int .u64 x.h.amount) := rfl
theorem live_35 (x : Live) : (liveCells x)[35]? = some (.bool x.own) := by
  unfold liveCells; rw [List.getElem?_append_right (by rw [htlc_len]; omega), htlc_len]; rfl
theorem live_36 (x : Live) : (liveCells x)[36]? = some (.int .i64 x.state) := by
  unfold liveCells; rw [List.getElem?_append_right (by rw [htlc_len]; omega), htlc_len]; rfl
theorem live_37 (x : Live) : (liveCells x)[37]? = some (.bool x.paid) := by
  unfold liveCells; rw [List.getElem?_append_right (by rw [htlc_len]; omega), htlc_len]; rfl
theorem htlc_one (h : Htlc) : ∀ v ∈ htlcCells h, v.oneCell' = true := by
  intro v hv
  simp only [htlcCells, List.mem_cons, List.mem_append, List.mem_map, List.not_mem_nil, or_false] at hv
  rcases hv with rfl | rfl | ⟨n, _, rfl⟩ | rfl <;> rfl
theorem item_one (x : Item) : ∀ v ∈ itemCells x, v.oneCell' = true := by
  intro v hv
  rcases List.mem_cons.1 hv with rfl | hv
  · rfl
  · exact htlc_one _ v hv

theorem Tryz.infoLive : (Tryz.prog.info? 69).map (·.size) = some 38 := by kernel_rfl
theorem Tryz.infoHtlc : (Tryz.prog.info? 41).map (·.size) = some 35 := by kernel_rfl
def ldLive (x : Value) : Sem Value := Instr.loadAt 69 x
theorem ld_live_fold (x : Value) : Instr.loadAt 69 x = ldLive x := rfl
theorem ld_live (b o : Nat) (w : World) : (ldLive (.pointer (some ⟨b, o, none⟩))).run Tryz.prog w = match rowN w b o 38 with | some A => .ok (.agg A) w | none => slowLd Tryz.prog 69 w b o :=
  run_loadAt_rowN 69 38 _ Tryz.underlying69 rfl Tryz.infoLive b o w
def ldHtlc (x : Value) : Sem Value := Instr.loadAt 41 x
theorem ld_htlc_fold (x : Value) : Instr.loadAt 41 x = ldHtlc x := rfl
theorem ld_htlc (b o : Nat) (w : World) : (ldHtlc (.pointer (some ⟨b, o, none⟩))).run Tryz.prog w = match rowN w b o 35 with | some A => .ok (.agg A) w | none => slowLd Tryz.prog 41 w b o :=
  run_loadAt_rowN 41 35 _ Tryz.underlying41 rfl Tryz.infoHtlc b o w
def stLive (x v : Value) : Sem Unit := Instr.storeAt 69 x v
theorem st_live_fold (x v : Value) : Instr.storeAt 69 x v = stLive x v := rfl
theorem st_live (b o : Nat) (A : Array Value) (w : World) : (stLive (.pointer (some ⟨b, o, none⟩)) (.agg A)).run Tryz.prog w = if stOk w b o 38 A = true then .ok () (w.setCells b o A.toList) else slowSt Tryz.prog 69 w b o A :=
  run_storeAt_row 69 38 Tryz.infoLive b o A w
/-- From off on, block g holds the lives xs. -/
def HeldL (w : World) (g off : Nat) (xs : List Live) : Prop :=
  ∃ C T fz, w.heap[g]? = some (.cells C T fz) ∧ off + xs.length * 38 ≤ C.size ∧ ∀ i x, xs[i]? = some x → ∀ j, j < 38 → C[off + i * 38 + j]? = (liveCells x)[j]?
theorem HeldL.row {w : World} {g off : Nat} {xs : List Live} (h : HeldL w g off xs) {i : Nat} {x : Live} (hi : xs[i]? = some x) : rowN w g (off + i * 38) 38 = some (liveCells x).toArray := by
  obtain ⟨C, T, fz, hb, hs, hc⟩ := h
  have hlt : i < xs.length := (List.getElem?_eq_some_iff.1 hi).1
  have hle : off + i * 38 + 38 ≤ C.size := by have := Nat.mul_le_mul_right 38 (show i + 1 ≤ xs.length from hlt); omega
  rw [rowN_blk hb _ _ hle]
  congr 1
  apply Array.ext'
  apply List.ext_getElem?
  intro j
  rw [Array.getElem?_toList, Array.getElem?_extract]
  by_cases hj : j < 38
  · rw [if_pos (by omega), hc i x hi j hj]
  · rw [if_neg (by omega), List.getElem?_eq_none (by rw [live_len]; omega)]
theorem HeldL.upd {S : Nat → Prop} {w w' : World} {b off : Nat} {xs : List Live} (h : HeldL w b off xs) (u : Upd S w w') (hn : ¬ S b) : HeldL w' b off xs := by
  obtain ⟨C, T, fz, hb, r⟩ := h
  exact ⟨C, T, fz, u.old hb hn, r⟩
theorem HeldL.lt {w : World} {g off : Nat} {xs : List Live} (h : HeldL w g off xs) : g < w.heap.size := by
  obtain ⟨C, T, fz, hb, r⟩ := h
  exact blk_lt hb
/-- What a slice of lives holds. -/
def Lives (w : World) (v : Value) (xs : List Live) : Prop := (∃ a c, v = .slice a 0 c ∧ xs = []) ∨ ∃ g off cap, v = .slice (some ⟨g, off, none⟩) xs.length cap ∧ HeldL w g off xs
theorem Lives.new {w w' : World} {v : Value} {xs : List Live} (h : Lives w v xs) (u : New w w') : Lives w' v xs := by
  rcases h with h | ⟨g, off, cap, e, h⟩
  · exact .inl h
  · exact .inr ⟨g, off, cap, e, h.upd u (fun h => h)⟩
/-- The same, of a row that was made from base on. -/
def LivesN (base : Nat) (w : World) (v : Value) (xs : List Live) : Prop := (∃ a c, v = .slice a 0 c ∧ xs = []) ∨ ∃ g off cap, v = .slice (some ⟨g, off, none⟩) xs.length cap ∧ base ≤ g ∧ HeldL w g off xs
theorem LivesN.to {base : Nat} {w : World} {v : Value} {xs : List Live} (h : LivesN base w v xs) : Lives w v xs := by
  rcases h with h | ⟨g, off, cap, e, _, h⟩
  · exact .inl h
  · exact .inr ⟨g, off, cap, e, h⟩
theorem LivesN.new {base : Nat} {w w' : World} {v : Value} {xs : List Live} (h : LivesN base w v xs) (u : New w w') : LivesN base w' v xs := by
  rcases h with h | ⟨g, off, cap, e, hb, h⟩
  · exact .inl h
  · exact .inr ⟨g, off, cap, e, hb, h.upd u (fun h => h)⟩
theorem LivesN.row {base : Nat} {w : World} {v : Value} {xs : List Live} (h : LivesN base w v xs) : ∃ a cap, v = .slice a xs.length cap ∧ ∀ (i : Nat) (x : Live), xs[i]? = some x → ∃ g off, a = some ⟨g, off, none⟩ ∧ base ≤ g ∧ HeldL w g off xs := by
  rcases h with ⟨a, c, e, rfl⟩ | ⟨g, off, cap, e, hb, hh⟩
  · exact ⟨a, c, e, fun i x hi => by simp at hi⟩
  · exact ⟨_, cap, e, fun i x _ => ⟨g, off, rfl, hb, hh⟩⟩
theorem layIn_whole (Z : Array Value) (C : List Value) (h : Z.size = C.length) : layIn Z 0 C = C.toArray := by
  apply Array.ext'
  apply List.ext_getElem?
  intro j
  rw [Array.getElem?_toList, layIn_get _ _ _ _ (by omega)]
  by_cases hj : j < C.length
  · rw [if_pos (by omega)]; simp
  · have h0 : Z[j]? = none := Array.getElem?_eq_none (by omega)
    rw [if_neg (by omega), h0]
    exact (List.getElem?_eq_none (by simp; omega)).symm
theorem laid_new (w : World) (Z : Array Value) (T : TypeId) (C : List Value) (hZ : Z.size = C.length) :
    ((w.alloc (.cells Z T)).setCells w.heap.size 0 C).heap[w.heap.size]? = some (.cells C.toArray T (0, 0)) ∧ New w ((w.alloc (.cells Z T)).setCells w.heap.size 0 C) := by
  constructor
  · rw [blk_setCells (blk_alloc w (.cells Z T)) 0 C, layIn_whole Z C hZ]
  · exact (((Upd.refl (· = w.heap.size) w).alloc _).setCells 0 C).mono (fun i hi e => by omega)
theorem live_one (x : Live) : ∀ v ∈ liveCells x, v.oneCell' = true := by
  intro v hv
  simp only [liveCells, List.mem_append, List.mem_cons, List.not_mem_nil, or_false] at hv
  rcases hv with hv | rfl | rfl | rfl
  · exact htlc_one _ v hv
  · rfl
  · rfl
  · rfl
theorem owns_new {w w' : World} {base : Nat} {e : TypeId} {size : Nat} {v : Value} {n : Nat} {xs : List Value} (h : w.ownsRow base e size v n xs) (u : New w w') : w'.ownsRow base e size v n xs := by
  refine ⟨h.1, ?_⟩
  rcases h.2 with h | ⟨g, cap, cur, e1, e2, hg, r⟩
  · exact .inl h
  · exact .inr ⟨g, cap, cur, e1, e2, u.old hg (fun h => h), r⟩
theorem own_shape {w : World} {base : Nat} {e : TypeId} {size : Nat} {v : Value} {n : Nat} {xs : List Value} (h : w.ownsRow base e size v n xs) : ∃ a k c, v = .slice a k c := by
  rcases h.2 with ⟨rfl, _⟩ | ⟨g, cap, cur, rfl, _⟩
  · exact ⟨_, _, _, rfl⟩
  · exact ⟨_, _, _, rfl⟩
theorem owns_upd {S : Nat → Prop} {w w' : World} {base : Nat} {e : TypeId} {size : Nat} {v : Value} {n : Nat} {xs : List Value} (h : w.ownsRow base e size v n xs) (u : Upd S w w') (hS : ∀ k, base ≤ k → ¬ S k) : w'.ownsRow base e size v n xs := by
  refine ⟨h.1, ?_⟩
  rcases h.2 with h | ⟨g, cap, cur, e1, e2, hg, r⟩
  · exact .inl h
  · exact .inr ⟨g, cap, cur, e1, e2, u.old hg (hS g e2), r⟩
theorem flatL_len (X : List Live) : (X.flatMap liveCells).length = X.length * 38 := by
  induction X with
  | nil => rfl
  | cons x X ih => rw [List.flatMap_cons, List.length_append, ih, live_len, List.length_cons]; omega
theorem flatL_get : ∀ (X : List Live) (i j : Nat) (x : Live), X[i]? = some x → j < 38 → (X.flatMap liveCells)[i * 38 + j]? = (liveCells x)[j]? := by
  intro X
  induction X with
  | nil => intro i j x h; simp at h
  | cons y X ih =>
    intro i j x hi hj
    rw [List.flatMap_cons]
    cases i with
    | zero =>
      simp only [List.getElem?_cons_zero, Option.some.injEq] at hi
      subst hi
      rw [List.getElem?_append_left (by rw [live_len]; omega), Nat.zero_mul, Nat.zero_add]
    | succ i =>
      rw [List.getElem?_append_right (by rw [live_len]; omega), live_len, show (i + 1) * 38 + j - 38 = i * 38 + j by omega]
      exact ih i j x (by simpa using hi) hj
theorem flatL_one (X : List Live) : ∀ u ∈ X.flatMap liveCells, u.oneCell' = true := by
  intro u hu
  obtain ⟨x, _, hx⟩ := List.mem_flatMap.1 hu
  exact live_one x u hx
/-- The same, and it may be written. -/
def HeldO (w : World) (g off : Nat) (xs : List Live) : Prop :=
  ∃ C T, w.heap[g]? = some (.cells C T (0, 0)) ∧ off + xs.length * 38 ≤ C.size ∧ ∀ i x, xs[i]? = some x → ∀ j, j < 38 → C[off + i * 38 + j]? = (liveCells x)[j]?
theorem HeldO.toL {w : World} {g off : Nat} {xs : List Live} (h : HeldO w g off xs) : HeldL w g off xs := by
  obtain ⟨C, T, hb, r⟩ := h
  exact ⟨C, T, _, hb, r⟩
theorem HeldO.row {w : World} {g off : Nat} {xs : List Live} (h : HeldO w g off xs) {i : Nat} {x : Live} (hi : xs[i]? = some x) : rowN w g (off + i * 38) 38 = some (liveCells x).toArray := h.toL.row hi
theorem HeldO.upd {S : Nat → Prop} {w w' : World} {b off : Nat} {xs : List Live} (h : HeldO w b off xs) (u : Upd S w w') (hn : ¬ S b) : HeldO w' b off xs := by
  obtain ⟨C, T, hb, r⟩ := h
  exact ⟨C, T, u.old hb hn, r⟩
/-- The cells of a row of lives, one by one. -/
theorem HeldL.cells {w : World} {g off : Nat} {X : List Live} (h : HeldL w g off X) : ∀ j u, (X.flatMap liveCells)[j]? = some u → w.cell? ((⟨g, off, none⟩ : Addr).add j) = some u := by
  intro j u hu
  obtain ⟨C, T, fz, hb, hs, hc⟩ := h
  have hj : j < X.length * 38 := by
    have := (List.getElem?_eq_some_iff.1 hu).1
    rwa [flatL_len] at this
  have hadd : (⟨g, off, none⟩ : Addr).add j = ⟨g, off + j, none⟩ := by unfold Addr.add; split <;> simp_all
  rw [hadd, blk_cell hb]
  have hi : j / 38 < X.length := Nat.div_lt_of_lt_mul (by omega)
  obtain ⟨x, hx⟩ : ∃ x, X[j / 38]? = some x := ⟨_, List.getElem?_eq_getElem hi⟩
  have e := Nat.div_add_mod j 38
  have hm := Nat.mod_lt j (show 0 < 38 by decide)
  rw [← hu, show off + j = off + j / 38 * 38 + j % 38 by omega, hc _ x hx _ hm]
  have hf := flatL_get X _ _ x hx hm
  rw [show j / 38 * 38 + j % 38 = j by omega] at hf
  exact hf.symm
theorem heldL_of_owns {w : World} {base : Nat} {v : Value} {n : Nat} {X : List Live} (h : w.ownsRow base 69 38 v n (X.flatMap liveCells)) :
    n = X.length ∧ ((v = .slice none 0 0 ∧ X = []) ∨ ∃ g cap, v = .slice (some ⟨g, 0, none⟩) X.length cap ∧ base ≤ g ∧ HeldO w g 0 X) := by
  have hn : n = X.length := by have := h.1; rw [flatL_len] at this; omega
  refine ⟨hn, ?_⟩
  subst hn
  rcases h.2 with ⟨e, e0⟩ | ⟨g, cap, cur, e, hb, hg, hc, _, hs, ht⟩
  · exact .inl ⟨e, List.length_eq_zero_iff.1 e0⟩
  · refine .inr ⟨g, cap, e, hb, cur, _, hg, by have := Nat.mul_le_mul_right 38 hc; omega, fun i x hi j hj => ?_⟩
    have hlt := (List.getElem?_eq_some_iff.1 hi).1
    rw [Nat.zero_add, ← flatL_get X i j x hi hj, ← ht, List.getElem?_take, if_pos (by have := Nat.mul_le_mul_right 38 (show i + 1 ≤ X.length from hlt); omega), Array.getElem?_toList]

theorem Tryz.infoLiveB : (Tryz.prog.info? 69).map (fun i => (i.size, i.bytes, i.zero.map (·.cells.size))) = some (38, 80, some 38) := by kernel_rfl
theorem live_info : ∃ i z, Tryz.prog.info? 69 = some i ∧ i.zero = some z ∧ i.size = 38 ∧ i.bytes = 80 ∧ z.cells.size = 38 := by
  have h := Tryz.infoLiveB
  cases hi : Tryz.prog.info? 69 with
  | none => rw [hi] at h; simp at h
  | some i =>
    rw [hi] at h
    simp only [Option.map_some, Option.some.injEq, Prod.mk.injEq] at h
    obtain ⟨h1, h2, h3⟩ := h
    cases hz : i.zero with
    | none => rw [hz] at h3; simp at h3
    | some z => rw [hz] at h3; simp at h3; exact ⟨i, z, rfl, hz, h1, h2, h3⟩

set_option maxRecDepth 100000 in
set_option maxHeartbeats 1000000 in
theorem clone_any (v : Value) (xs : List Live) (hl : xs.length ≤ 1048576) (w : World) (hv : Lives w v xs) :
    Calls Tryz.prog 56 #[v] w fun e w' => ∃ u, e = .returned u ∧ New w w' ∧ ((∃ a c, u = .slice a 0 c ∧ xs = []) ∨ ∃ g cap, u = .slice (some ⟨g, 0, none⟩) xs.length cap ∧ w.heap.size ≤ g ∧ HeldO w' g 0 xs) := by
  have hv' : (∃ c, v = .slice none 0 c ∧ xs = []) ∨ ∃ (a : Addr) (cap : Nat), v = .slice (some a) xs.length cap ∧ ∀ j u, (xs.flatMap liveCells)[j]? = some u → w.cell? (a.add j) = some u := by
    rcases hv with ⟨a, c, rfl, rfl⟩ | ⟨g, off, cap, rfl, hh⟩
    · cases a with
      | none => exact .inl ⟨_, rfl, rfl⟩
      | some a => exact .inr ⟨a, c, rfl, by simp⟩
    · exact .inr ⟨_, cap, rfl, hh.cells⟩
  rcases hv' with ⟨c, rfl, rfl⟩ | ⟨a, cap, rfl, hh⟩
  · go_enter Tryz.func56, Tryz.ntmps56
    have he := fun (w : World) => run_eql_slice_nil (P := Tryz.prog) w 46 _ none 0 c Tryz.underlying46
    go_wp2
    first | go_ret2 | go_ret
    exact ⟨_, rfl, Upd.refl _ _, .inl ⟨_, _, rfl, trivial⟩⟩
  · obtain ⟨i9, z9, hi, hz, hz0, hz1, hz2⟩ := live_info
    have he := fun (w : World) => run_eql_slice_nil (P := Tryz.prog) w 46 _ (some a) xs.length cap Tryz.underlying46
    simp only [Option.isNone_some] at he
    go_enter Tryz.func56, Tryz.ntmps56
    go_wp2_with (at_builtin; refine wpList_append_own _ rfl (.tmp 5) (.tmp 6) 46 rfl w.heap.size 69 i9 _ 38 80 Tryz.underlying46 hi hz hz0 hz1 hz2 (by decide) _ 0 [] rfl (World.ownsRow_made (base := w.heap.size) w #[] 0 (Nat.le_refl _) (by decide) rfl) a xs.length cap (xs.flatMap liveCells) rfl (flatL_len xs) ?c1 (flatL_one xs) ?c3 ?c4 ?c5 ?_)
    case c1 =>
      intro j u hj
      exact ((Upd.refl (fun _ => False) w).alloc _).cell (hh j u hj) (fun h => h)
    case c3 => unfold maxLen; omega
    case c4 => omega
    case c5 => simp
    intro v' w5 hown5 hgrow5 _
    have n5 : New w w5 := ((Upd.refl _ w).alloc _).grown hgrow5 (fun k h hk => by simp [Value.ownBlock] at h; omega)
    have hfin := (heldL_of_owns hown5).2
    obtain ⟨a5, k5, c5, rfl⟩ := own_shape hown5
    have HF := hide hfin
    clear hfin hown5 hgrow5
    go_wp2
    first | go_ret2 | go_ret
    refine ⟨_, rfl, n5, ?_⟩
    rcases unhide HF with h | ⟨g', cap', e, hb, hh'⟩
    · exact .inl ⟨_, _, h.1, h.2⟩
    · exact .inr ⟨g', cap', e, hb, hh'⟩

def Live.zero : Live := ⟨⟨0, 0, Vector.replicate 32 0, 0⟩, false, 0, false⟩
def alLive : Sem Value := Instr.alloc 69 true (.tuple #[])
theorem al_live_fold : Instr.alloc 69 true (.tuple #[]) = alLive := rfl
theorem al_live (w : World) : alLive.run Tryz.prog w = .ok (.pointer (some ⟨w.heap.size, 0, none⟩)) (w.alloc (.cells (liveCells Live.zero).toArray 69)) := by kernel_rfl
theorem stOk_all {w : World} {b : Nat} {C : Array Value} {T : TypeId} (h : w.heap[b]? = some (.cells C T (0, 0))) {A : List Value} (hA : A.length = C.size) (h1 : ∀ v ∈ A, v.oneCell' = true) : stOk w b 0 C.size A.toArray = true :=
  stOk_blk h (by omega) (by simpa using hA) (by rw [Array.all_eq_true_iff_forall_mem]; intro v hv; exact h1 v (by simpa using hv))
/-- A live one laid into a new block. -/
theorem stOk_live (w : World) (x : Live) : stOk (w.alloc (.cells (liveCells Live.zero).toArray 69)) w.heap.size 0 38 (liveCells x).toArray = true :=
  stOk_all (C := (liveCells Live.zero).toArray) (blk_alloc _ _) (by rw [live_len]; rfl) (live_one x)
theorem laid_live (w : World) (x : Live) : ((w.alloc (.cells (liveCells Live.zero).toArray 69)).setCells w.heap.size 0 (liveCells x)).heap[w.heap.size]? = some (.cells (liveCells x).toArray 69 (0, 0)) ∧ New w ((w.alloc (.cells (liveCells Live.zero).toArray 69)).setCells w.heap.size 0 (liveCells x)) :=
  laid_new w _ _ _ (by rw [live_len]; rfl)

structure MsgV where
  kind : Int
  ch : Int
  id : Int
  amount : Int
  hash : List Int
  expiry : Int
  number : Int
def MsgV.cells (m : MsgV) : List Value := .int .i64 m.kind :: .int .u32 m.ch :: .int .u64 m.id :: .int .u64 m.amount :: (m.hash.map (Value.int .u8) ++ [.int .i64 m.expiry, .int .i64 m.number])
theorem MsgV.len (m : MsgV) (h : m.hash.length = 32) : m.cells.length = 38 := by simp [MsgV.cells, h]
theorem MsgV.one (m : MsgV) : ∀ v ∈ m.cells, v.oneCell' = true := by
  intro v hv
  simp only [MsgV.cells, List.mem_cons, List.mem_append, List.mem_map, List.not_mem_nil, or_false] at hv
  rcases hv with rfl | rfl | rfl | rfl | ⟨n, _, rfl⟩ | rfl | rfl <;> rfl
def z32i : List Int := List.replicate 32 0
theorem z32i_len : z32i.length = 32 := List.length_replicate
theorem Tryz.infoMsg : (Tryz.prog.info? 101).map (·.size) = some 38 := by kernel_rfl
def ldMsg (x : Value) : Sem Value := Instr.loadAt 101 x
theorem ld_msg_fold (x : Value) : Instr.loadAt 101 x = ldMsg x := rfl
theorem ld_msg (b o : Nat) (w : World) : (ldMsg (.pointer (some ⟨b, o, none⟩))).run Tryz.prog w = match rowN w b o 38 with | some A => .ok (.agg A) w | none => slowLd Tryz.prog 101 w b o :=
  run_loadAt_rowN 101 38 _ Tryz.underlying101 rfl Tryz.infoMsg b o w
def stMsg (x v : Value) : Sem Unit := Instr.storeAt 101 x v
theorem st_msg_fold (x v : Value) : Instr.storeAt 101 x v = stMsg x v := rfl
theorem st_msg (b o : Nat) (A : Array Value) (w : World) : (stMsg (.pointer (some ⟨b, o, none⟩)) (.agg A)).run Tryz.prog w = if stOk w b o 38 A = true then .ok () (w.setCells b o A.toList) else slowSt Tryz.prog 101 w b o A :=
  run_storeAt_row 101 38 Tryz.infoMsg b o A w
def MsgV.zero : MsgV := ⟨0, 0, 0, 0, z32i, 0, 0⟩
def alMsg : Sem Value := Instr.alloc 101 true (.tuple #[])
theorem al_msg_fold : Instr.alloc 101 true (.tuple #[]) = alMsg := rfl
theorem al_msg (w : World) : alMsg.run Tryz.prog w = .ok (.pointer (some ⟨w.heap.size, 0, none⟩)) (w.alloc (.cells MsgV.zero.cells.toArray 101)) := by kernel_rfl
def bdMsg (p : Array (Nat × Value)) : Sem Value := Instr.build 101 p
theorem bd_msg_fold (p : Array (Nat × Value)) : Instr.build 101 p = bdMsg p := rfl
theorem bd_msg_again (c n k : Int) (w : World) : (bdMsg #[(0, .int .i64 9), (1, .int .u32 c), (6, .int .i64 n), (2, .int .u64 k)]).run Tryz.prog w = .ok (.agg (MsgV.cells ⟨9, c, k, 0, z32i, 0, n⟩).toArray) w := run_build w _ _ _ (by kernel_rfl)
theorem Tryz.infoBase : (Tryz.prog.info? 59).map (·.size) = some 2 := by kernel_rfl
/-- A message laid whole into a block of its own. -/
theorem laid_msg {w : World} {b : Nat} {m : MsgV} {T : TypeId} (h : w.heap[b]? = some (.cells MsgV.zero.cells.toArray T (0, 0))) (hm : m.hash.length = 32) : (w.setCells b 0 m.cells).heap[b]? = some (.cells m.cells.toArray T (0, 0)) := by
  rw [blk_setCells h 0 m.cells, layIn_whole _ _ (by rw [m.len hm]; rfl)]
theorem stOk_msg {w : World} {b : Nat} {T : TypeId} (h : w.heap[b]? = some (.cells MsgV.zero.cells.toArray T (0, 0))) {m : MsgV} (hm : m.hash.length = 32) : stOk w b 0 38 m.cells.toArray = true :=
  stOk_all (C := MsgV.zero.cells.toArray) h (by rw [m.len hm]; rfl) m.one

attribute [local go_sem ↓ high] ld_msg_fold st_msg_fold bd_msg_fold
attribute [local go_sem] ld_msg st_msg bd_msg_again rowN_drew

/-- What an end says of itself behind a cut. -/
def CountsV.told (k : CountsV) : Int := if k.awaits then k.signed - 1 else k.signed
set_option maxRecDepth 100000 in
set_option maxHeartbeats 1000000 in
theorem again_any (g : Nat) (c : ChanV) (w : World) (h : ChR w g c) (hs : 0 ≤ c.k.signed ∧ c.k.signed < 4294967296) (hh : 0 ≤ c.k.heard ∧ c.k.heard < 4294967296) :
    Calls Tryz.prog 73 #[.pointer (some ⟨g, 0, none⟩)] w (Makes (.agg (MsgV.cells ⟨9, c.setup.ch, IntKind.u64.wrap c.k.told, 0, z32i, 0, c.k.heard + 1⟩).toArray) w) := by
  go_enter Tryz.func73, Tryz.ntmps73
  go_upto_region 1 with fail
  have hb : (w.alloc (.cells MsgV.zero.cells.toArray 101)).heap[w.heap.size]? = some (.cells MsgV.zero.cells.toArray 101 (0, 0)) := blk_alloc _ _
  have n0 : New w (w.alloc (.cells MsgV.zero.cells.toArray 101)) := (Upd.refl _ _).alloc _
  change Code.wp _ _ _ _ (w.alloc (.cells MsgV.zero.cells.toArray 101))
  generalize w.alloc (.cells MsgV.zero.cells.toArray 101) = w1 at hb n0 ⊢
  have h1 := h.new n0
  have hlt := h.lt
  have c0 := h1.ch
  have c37 := h1.signed
  have c38 := h1.heard
  have c39 := h1.awaits
  have e1 : IntKind.i64.wrap (c.k.heard + 1) = c.k.heard + 1 := wrapI (by omega) (by omega)
  have e2 : IntKind.i64.wrap (c.k.signed - 1) = c.k.signed - 1 := wrapI (by omega) (by omega)
  have hst : stOk w1.drew w.heap.size 0 38 (MsgV.cells ⟨9, c.setup.ch, IntKind.u64.wrap c.k.told, 0, z32i, 0, c.k.heard + 1⟩).toArray = true := stOk_msg (m := ⟨9, c.setup.ch, IntKind.u64.wrap c.k.told, 0, z32i, 0, c.k.heard + 1⟩) hb z32i_len
  have hfin := laid_msg (w := w1.drew) (m := ⟨9, c.setup.ch, IntKind.u64.wrap c.k.told, 0, z32i, 0, c.k.heard + 1⟩) hb z32i_len
  have nfin : New w (w1.drew.setCells w.heap.size 0 (MsgV.cells ⟨9, c.setup.ch, IntKind.u64.wrap c.k.told, 0, z32i, 0, c.k.heard + 1⟩)) := n0.drew.then ((Upd.refl (· = w.heap.size) w1.drew).setCells 0 _) (fun i hi e => by omega)
  have HF := hide hfin
  have HN := hide nfin
  have hk : c.k.told = if c.k.awaits = true then c.k.signed - 1 else c.k.signed := rfl
  clear h h1 hb n0 hfin nfin
  cases ha : c.k.awaits with
  | true =>
    rw [ha] at c39 hk
    rw [if_pos rfl] at hk
    rw [hk] at hst HF HN
    generalize c.k.told = t at *
    subst hk
    go_wp2_with (with_reducible first | (first | refine' tw1 (ido ?_) ?_ | refine' tw2 (ido ?_) ?_); rotate_left | refine' tw3 (ido ?_) | rfl | apply tn | refine' tw4 ?_)
    refine bodyPost_ret (results_cell_row rfl _ _ w.heap.size _ _ _ _ rfl (unhide HF) Tryz.underlying101 rfl (by rw [List.size_toArray, MsgV.len _ z32i_len]; exact Tryz.infoMsg)) rfl ?_
    exact ⟨rfl, unhide HN⟩
  | false =>
    rw [ha] at c39 hk
    rw [if_neg (by decide)] at hk
    have e3 : IntKind.u64.wrap c.k.signed = c.k.signed := wrapU (by omega) (by omega)
    rw [hk, e3] at hst HF HN
    generalize c.k.told = t at *
    subst hk
    go_wp2_with (with_reducible first | (first | refine' tw1 (ido ?_) ?_ | refine' tw2 (ido ?_) ?_); rotate_left | refine' tw3 (ido ?_) | rfl | apply tn | refine' tw4 ?_)
    refine bodyPost_ret (results_cell_row rfl _ _ w.heap.size _ _ _ _ rfl (unhide HF) Tryz.underlying101 rfl (by rw [List.size_toArray, MsgV.len _ z32i_len]; exact Tryz.infoMsg)) rfl ?_
    exact ⟨by rw [e3], unhide HN⟩

set_option maxHeartbeats 1000000 in
theorem base_any (g : Nat) (c : ChanV) (w : World) (h : ChR w g c) :
    Calls Tryz.prog 23 #[.pointer (some ⟨g, 0, none⟩)] w (Makes (.agg #[.int .u64 c.loc, .int .u64 c.rem]) w) := by
  go_enter Tryz.func23, Tryz.ntmps23
  have n0 : New w (w.alloc (.cells #[.int .u64 0, .int .u64 0] 59)) := (Upd.refl _ _).alloc _
  have hb : (w.alloc (.cells #[.int .u64 0, .int .u64 0] 59)).heap[w.heap.size]? = some (.cells #[.int .u64 0, .int .u64 0] 59 (0, 0)) := blk_alloc _ _
  go_upto_region 1 with fail
  have h1 := h.new n0
  generalize w.alloc (.cells #[.int .u64 0, .int .u64 0] 59) = w1 at hb n0 h1 ⊢
  have c45 := h1.loc
  have c46 := h1.rem
  have d0 := blk_cell hb 0
  have d1 := blk_cell hb 1
  have z0 := blk_free hb 0
  have z1 := blk_free hb 1
  simp at d0 d1
  have hF : ((w1.setCell ⟨w.heap.size, 0, none⟩ (.int .u64 c.loc)).setCell ⟨w.heap.size, 1, none⟩ (.int .u64 c.rem)).heap[w.heap.size]? = some (.cells #[.int .u64 c.loc, .int .u64 c.rem] 59 (0, 0)) := blk_set (blk_set hb 0 _) 1 _
  have nF : New w ((w1.setCell ⟨w.heap.size, 0, none⟩ (.int .u64 c.loc)).setCell ⟨w.heap.size, 1, none⟩ (.int .u64 c.rem)) := n0.then (((Upd.refl (· = w.heap.size) w1).set1 0 _).set1 1 _) (fun i hi e => by omega)
  have HF := hide hF
  have HN := hide nF
  clear h h1 hb n0 hF nF
  go_wp2_with (with_reducible first | (first | refine' tw1 (ido ?_) ?_ | refine' tw2 (ido ?_) ?_); rotate_left | refine' tw3 (ido ?_) | rfl | apply tn | refine' tw4 ?_)
  refine bodyPost_ret (results_cell_row rfl _ _ w.heap.size _ _ _ _ rfl (unhide HF) Tryz.underlying59 rfl Tryz.infoBase) rfl ?_
  exact ⟨rfl, unhide HN⟩

/-- A channel, and what is live in it. -/
structure ChI (w : World) (g : Nat) (c : ChanV) (xs : List Live) : Prop extends ChR w g c where
  row : w.ownsRow 0 69 38 c.live xs.length (xs.flatMap liveCells)
theorem ChI.new {w w' : World} {g : Nat} {c : ChanV} {xs : List Live} (h : ChI w g c xs) (u : New w w') : ChI w' g c xs := ⟨h.toChR.new u, owns_new h.row u⟩
theorem ChI.lives {w : World} {g : Nat} {c : ChanV} {xs : List Live} (h : ChI w g c xs) : Lives w c.live xs := by
  rcases (heldL_of_owns h.row).2 with ⟨e, e0⟩ | ⟨g, cap, e, -, hh⟩
  · exact .inl ⟨none, 0, e, e0⟩
  · exact .inr ⟨g, 0, cap, e, hh.toL⟩
theorem ChI.shape {w : World} {g : Nat} {c : ChanV} {xs : List Live} (h : ChI w g c xs) : ∃ a cap, c.live = .slice a xs.length cap := by
  rcases (heldL_of_owns h.row).2 with ⟨e, e0⟩ | ⟨g, cap, e, -⟩
  · exact ⟨none, 0, by rw [e, e0]; rfl⟩
  · exact ⟨_, cap, e⟩

end Go.Proofs.YtfmkdoachjgjbaaGreatDoor
