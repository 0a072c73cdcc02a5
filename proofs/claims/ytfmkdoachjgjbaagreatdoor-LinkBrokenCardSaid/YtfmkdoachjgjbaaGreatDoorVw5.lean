/-
  view.Of: its sums (the closure), its loop.
-/
import Derived.Test.YtfmkdoachjgjbaaGreatDoorMbe
import Derived.Deep.CutRange
set_option linter.unusedVariables false
set_option linter.unusedSimpArgs false
namespace Go.Proofs.YtfmkdoachjgjbaaGreatDoor
open Go.RowKit Go.Sort

attribute [local go_sem ↓ high] ld_live_fold ld_htlc_fold st_live_fold bd_item_fold bs_item_fold
attribute [local go_sem] ld_live ld_htlc st_live bd_item bs_item

/-- What a slice of items holds. -/
def Items (w : World) (v : Value) (X : List Item) : Prop := (∃ a c, v = .slice a 0 c ∧ X = []) ∨ ∃ g cap, v = .slice (some ⟨g, 0, none⟩) X.length cap ∧ Held w g 0 X
theorem Items.new {w w' : World} {v : Value} {X : List Item} (h : Items w v X) (u : New w w') : Items w' v X := by
  rcases h with h | ⟨g, cap, e, h⟩
  · exact .inl h
  · exact .inr ⟨g, cap, e, h.upd u (fun h => h)⟩

/-- The items of a view, unsorted, and its two sums. -/
def itemsOf (ours : Bool) (xs : List Live) : List Item := (xs.filter fun x => hasB ours x.own x.state).map fun x => ⟨x.own == ours, x.h⟩
def giveI (us : Bool) (n : Int) (p : Int × Int) : Int × Int := if us then (IntKind.u64.wrap (p.1 + n), p.2) else (p.1, IntKind.u64.wrap (p.2 + n))
def stepI (ours : Bool) (p : Int × Int) (x : Live) : Int × Int :=
  if hasB ours x.own x.state then p else if goneB ours x.own x.state && x.paid then giveI (!x.own) x.h.amount p else giveI x.own x.h.amount p
def sumsOf (ours : Bool) (l r : Int) (xs : List Live) : Int × Int := xs.foldl (stepI ours) (l, r)

set_option maxHeartbeats 1000000 in
theorem give_any (us : Bool) (n : Int) (b1 b2 : Nat) (hb : b1 ≠ b2) (T : TypeId) (x y : Int) (w : World) (h1 : w.heap[b1]? = some (.cells #[.int .u64 x] T (0, 0))) (h2 : w.heap[b2]? = some (.cells #[.int .u64 y] T (0, 0))) :
    Calls Tryz.prog 158 #[.bool us, .int .u64 n, .pointer (some ⟨b1, 0, none⟩), .pointer (some ⟨b2, 0, none⟩)] w fun e w' => e = .returned (.tuple #[]) ∧ Upd (fun k => k = b1 ∨ k = b2) w w' ∧ w'.heap[b1]? = some (.cells #[.int .u64 (giveI us n (x, y)).1] T (0, 0)) ∧ w'.heap[b2]? = some (.cells #[.int .u64 (giveI us n (x, y)).2] T (0, 0)) := by
  have c1 : w.cell? ⟨b1, 0, none⟩ = some (.int .u64 x) := blk_cell h1 0
  have c2 : w.cell? ⟨b2, 0, none⟩ = some (.int .u64 y) := blk_cell h2 0
  have z1 : w.frozen? ⟨b1, 0, none⟩ = false := blk_free h1 0
  have z2 : w.frozen? ⟨b2, 0, none⟩ = false := blk_free h2 0
  cases us
  · go_enter Tryz.func158, Tryz.ntmps158
    go_wp2
    go_end0
    exact ⟨rfl, (Upd.refl _ _).setCell (fun _ => .inr rfl) _, (((Upd.refl (· = b2) w).set1 0 _).old h1 (fun e => hb e)), blk_set h2 0 _⟩
  · go_enter Tryz.func158, Tryz.ntmps158
    go_wp2
    go_end0
    exact ⟨rfl, (Upd.refl _ _).setCell (fun _ => .inl rfl) _, blk_set h1 0 _, (((Upd.refl (· = b1) w).set1 0 _).old h2 (fun e => hb e.symm))⟩

theorem Tryz.infoItemB : (Tryz.prog.info? 254).map (fun i => (i.size, i.bytes, i.zero.map (·.cells.size))) = some (36, 64, some 36) := by kernel_rfl
theorem item_info : ∃ i z, Tryz.prog.info? 254 = some i ∧ i.zero = some z ∧ i.size = 36 ∧ i.bytes = 64 ∧ z.cells.size = 36 := by
  have h := Tryz.infoItemB
  cases hi : Tryz.prog.info? 254 with
  | none => rw [hi] at h; simp at h
  | some i =>
    rw [hi] at h
    simp only [Option.map_some, Option.some.injEq, Prod.mk.injEq] at h
    obtain ⟨h1, h2, h3⟩ := h
    cases hz : i.zero with
    | none => rw [hz] at h3; simp at h3
    | some z => rw [hz] at h3; simp at h3; exact ⟨i, z, rfl, hz, h1, h2, h3⟩
theorem two_alloc (w : World) (x y : Obj) (n : Nat) (hn : w.heap.size = n) : ((w.alloc x).alloc y).drew.heap[n]? = some x ∧ ((w.alloc x).alloc y).drew.heap[n + 1]? = some y ∧ New w ((w.alloc x).alloc y).drew := by
  subst hn
  refine ⟨blk_alloc_old (blk_alloc w x) y, ?_, (((Upd.refl _ _).alloc _).alloc _).drew⟩
  have := blk_alloc (w.alloc x) y
  have hsz : (w.alloc x).heap.size = w.heap.size + 1 := by simp
  rw [hsz] at this
  exact this

theorem Tryz.infoView : (Tryz.prog.info? 201).map (·.size) = some 3 := by kernel_rfl
/-- A view's three cells, laid one by one. -/
def laid3 (w : World) (k : Nat) (A B C : Value) : World := ((w.setCell ⟨k, 0, none⟩ A).setCell ⟨k, 1, none⟩ B).setCell ⟨k, 2, none⟩ C
theorem laid3_blk {w : World} {k : Nat} {a b c : Value} {T : TypeId} (A B C : Value) (h : w.heap[k]? = some (.cells #[a, b, c] T (0, 0))) : (laid3 w k A B C).heap[k]? = some (.cells #[A, B, C] T (0, 0)) := by
  unfold laid3
  rw [blk_set (blk_set (blk_set h 0 A) 1 B) 2 C]
  simp
theorem laid3_upd (w : World) (k : Nat) (A B C : Value) : Upd (· = k) w (laid3 w k A B C) := (((Upd.refl (· = k) w).set1 0 A).set1 1 B).set1 2 C
theorem laid3_new {w0 w : World} {k : Nat} (h : New w0 w) (hk : w0.heap.size ≤ k) (A B C : Value) : New w0 (laid3 w k A B C) := h.then (laid3_upd w k A B C) (fun i hi e => by omega)

set_option maxRecDepth 100000 in
set_option maxHeartbeats 4000000 in
theorem of_any (ours : Bool) (l r : Int) (v : Value) (xs : List Live) (hl : xs.length ≤ 19) (w : World) (hG : Spans w) (hv : Lives w v xs) :
    Calls Tryz.prog 121 #[.bool ours, .agg #[.int .u64 l, .int .u64 r], v] w fun e w' => ∃ u X, e = .returned (.agg #[.int .u64 (if ours then (sumsOf ours l r xs).1 else (sumsOf ours l r xs).2), .int .u64 (if ours then (sumsOf ours l r xs).2 else (sumsOf ours l r xs).1), u]) ∧
      New w w' ∧ Items w' u X ∧ ∃ M, M.Perm (itemsOf ours xs).zipIdx ∧ Srt M ∧ X = its M := by
  obtain ⟨va, vn, vc, rfl, hvn⟩ : ∃ a n c, v = .slice a n c ∧ n = xs.length := by
    rcases hv with ⟨_, _, rfl, rfl⟩ | ⟨g, off, cap, rfl, _⟩
    · exact ⟨_, _, _, rfl, rfl⟩
    · exact ⟨_, _, _, rfl, rfl⟩
  go_enter Tryz.func121, Tryz.ntmps121
  go_upto_region 1 with fail
  obtain ⟨wA, hwA⟩ : ∃ wA : World, wA = (w.alloc (.cells #[.int .u64 l, .int .u64 r] 59)).alloc (.cells #[.int .u64 0, .int .u64 0, .slice none 0 0] 201) := ⟨_, rfl⟩
  have sA : wA.heap.size = w.heap.size + 2 := by rw [hwA]; simp
  have nA : New w wA := by rw [hwA]; exact ((Upd.refl _ _).alloc _).alloc _
  have kA : wA.heap[w.heap.size]? = some (.cells #[.int .u64 l, .int .u64 r] 59 (0, 0)) := by rw [hwA]; exact blk_alloc_old (blk_alloc _ _) _
  have rA : wA.heap[w.heap.size + 1]? = some (.cells #[.int .u64 0, .int .u64 0, .slice none 0 0] 201 (0, 0)) := by
    rw [hwA]
    have := blk_alloc (w.alloc (.cells #[.int .u64 l, .int .u64 r] 59)) (.cells #[.int .u64 0, .int .u64 0, .slice none 0 0] 201)
    simpa using this
  rw [← hwA]
  clear hwA
  have c1 : wA.cell? ⟨w.heap.size, 0, none⟩ = some (.int .u64 l) := blk_cell kA 0
  have c2 : wA.cell? ⟨w.heap.size, 1, none⟩ = some (.int .u64 r) := blk_cell kA 1
  have c1' : wA.drew.cell? ⟨w.heap.size, 0, none⟩ = some (.int .u64 l) := c1
  have c2' : wA.drew.cell? ⟨w.heap.size, 1, none⟩ = some (.int .u64 r) := c2
  go_cut [7, 8] from 15 to 18 (fun p q wx => ∃ b1 b2 : Nat, p = .pointer (some ⟨b1, 0, none⟩) ∧ q = .pointer (some ⟨b2, 0, none⟩) ∧ b1 ≠ b2 ∧ w.heap.size + 2 ≤ b1 ∧ w.heap.size + 2 ≤ b2 ∧
    wx.heap[b1]? = some (.cells #[.int .u64 l] 22 (0, 0)) ∧ wx.heap[b2]? = some (.cells #[.int .u64 r] 22 (0, 0)) ∧ New wA wx)
  case first =>
    go_region
    · go_wp2
      go_meet
      case rel =>
        first
        | exact ⟨w.heap.size + 2, w.heap.size + 2 + 1, rfl, rfl, by omega, by omega, by omega, (two_alloc wA _ _ _ sA).1, (two_alloc wA _ _ _ sA).2.1, (two_alloc wA _ _ _ sA).2.2⟩
        | exact ⟨w.heap.size + 2 + 1, w.heap.size + 2, rfl, rfl, by omega, by omega, by omega, (two_alloc wA _ _ _ sA).2.1, (two_alloc wA _ _ _ sA).1, (two_alloc wA _ _ _ sA).2.2⟩
    · go_wp2
      go_meet
      case rel =>
        first
        | exact ⟨w.heap.size + 2, w.heap.size + 2 + 1, rfl, rfl, by omega, by omega, by omega, (two_alloc wA _ _ _ sA).1, (two_alloc wA _ _ _ sA).2.1, (two_alloc wA _ _ _ sA).2.2⟩
        | exact ⟨w.heap.size + 2 + 1, w.heap.size + 2, rfl, rfl, by omega, by omega, by omega, (two_alloc wA _ _ _ sA).2.1, (two_alloc wA _ _ _ sA).1, (two_alloc wA _ _ _ sA).2.2⟩
  case rest =>
    obtain ⟨b1, b2, rfl, rfl, b12, g1, g2, h1, h2, nB⟩ := hcut
    obtain ⟨wB, rfl⟩ : ∃ wB : World, wB = wc := ⟨_, rfl⟩
    have rB := nB.old rA (fun h => h)
    have nW := nA.trans nB
    have HG1 := hide g1
    have HG2 := hide g2
    have HHV := hide hv
    have HHG := hide hG
    have sB := nB.size
    rw [sA] at sB
    have HSB := hide sB
    have HLT := hide (And.intro (blk_lt h1) (And.intro (blk_lt h2) (blk_lt rB)))
    clear c1 c2 c1' c2' kA rA hv hG sA nA nB g1 g2 sB
    go_wp2_with fail
    go_loopw [10, 22] (fun sv iv wr => ∃ (n : Nat), iv = .int .i64 (n : Int) ∧ n ≤ xs.length ∧ (∃ a k c, sv = .slice a k c) ∧ Hid (wr.ownsRow wB.heap.size 254 36 sv (itemsOf ours (xs.take n)).length ((itemsOf ours (xs.take n)).flatMap itemCells)) ∧
      wr.heap[b1]? = some (.cells #[.int .u64 (sumsOf ours l r (xs.take n)).1] 22 (0, 0)) ∧ wr.heap[b2]? = some (.cells #[.int .u64 (sumsOf ours l r (xs.take n)).2] 22 (0, 0)) ∧
      wr.heap[w.heap.size + 1]? = some (.cells #[.int .u64 0, .int .u64 0, .slice none 0 0] 201 (0, 0)) ∧ New w wr ∧ wB.heap.size ≤ wr.heap.size) (fun _ iv _ => xs.length - (intOf iv).toNat)
    case atStart => exact ⟨0, rfl, Nat.zero_le _, ⟨_, _, _, rfl⟩, hide (by rw [List.take_zero]; exact World.ownsRow_nil _ _ _ _), by rw [List.take_zero]; exact h1, by rw [List.take_zero]; exact h2, rB, nW, Nat.le_refl _⟩
    case round =>
      obtain ⟨n, rfl, hn, ⟨sa, sk, sc, rfl⟩, HO, k1, k2, kr, nr, hsz⟩ := hrel
      clear h1 h2 rB nW
      by_cases hlt : n < xs.length
      · obtain ⟨x, hx⟩ : ∃ x, xs[n]? = some x := ⟨_, List.getElem?_eq_getElem hlt⟩
        rcases (unhide HHV).new nr with ⟨_, _, e, e2⟩ | ⟨g, off, cap, e, hh⟩
        · rw [e2] at hlt; simp at hlt
        · obtain ⟨rfl, _, rfl⟩ : va = some ⟨g, off, none⟩ ∧ xs.length = xs.length ∧ vc = cap := by cases e; exact ⟨rfl, rfl, rfl⟩
          have hrow := hh.row hx
          have hnn : (n : Int) < (xs.length : Int) := by omega
          have hst : stOk (wr.alloc (.cells #[.int .u64 0, .int .u64 0, .int .u8 0, .int .u8 0, .int .u8 0, .int .u8 0, .int .u8 0, .int .u8 0, .int .u8 0, .int .u8 0, .int .u8 0, .int .u8 0, .int .u8 0, .int .u8 0, .int .u8 0, .int .u8 0, .int .u8 0, .int .u8 0, .int .u8 0, .int .u8 0, .int .u8 0, .int .u8 0, .int .u8 0, .int .u8 0, .int .u8 0, .int .u8 0, .int .u8 0, .int .u8 0, .int .u8 0, .int .u8 0, .int .u8 0, .int .u8 0, .int .u8 0, .int .u8 0, .int .i64 0, .bool false, .int .i64 0, .bool false] 69)) wr.heap.size 0 38 (liveCells x).toArray = true := stOk_blk (blk_alloc _ _) (by decide) (by rw [List.size_toArray, live_len]) (by rw [List.all_toArray, List.all_eq_true]; exact live_one x)
          have hlaid := laid_new wr #[.int .u64 0, .int .u64 0, .int .u8 0, .int .u8 0, .int .u8 0, .int .u8 0, .int .u8 0, .int .u8 0, .int .u8 0, .int .u8 0, .int .u8 0, .int .u8 0, .int .u8 0, .int .u8 0, .int .u8 0, .int .u8 0, .int .u8 0, .int .u8 0, .int .u8 0, .int .u8 0, .int .u8 0, .int .u8 0, .int .u8 0, .int .u8 0, .int .u8 0, .int .u8 0, .int .u8 0, .int .u8 0, .int .u8 0, .int .u8 0, .int .u8 0, .int .u8 0, .int .u8 0, .int .u8 0, .int .i64 0, .bool false, .int .i64 0, .bool false] 69 (liveCells x) (by rw [live_len]; rfl)
          have v0 := live_1 x
          have v35 := live_35 x
          have v36 := live_36 x
          have v37 := live_37 x
          have vh : ((liveCells x).toArray).extract 0 35 = (htlcCells x.h).toArray := by
            apply Array.ext'
            simp [liveCells, List.take_append_of_le_length, htlc_len, List.extract_eq_take_drop]
          have hlen := live_len x
          generalize liveCells x = C at hrow hst hlaid v0 v35 v36 v37 vh hlen
          go_upto_region 7 with fail
          obtain ⟨hbx, nC⟩ := hlaid
          generalize (wr.alloc (.cells #[.int .u64 0, .int .u64 0, .int .u8 0, .int .u8 0, .int .u8 0, .int .u8 0, .int .u8 0, .int .u8 0, .int .u8 0, .int .u8 0, .int .u8 0, .int .u8 0, .int .u8 0, .int .u8 0, .int .u8 0, .int .u8 0, .int .u8 0, .int .u8 0, .int .u8 0, .int .u8 0, .int .u8 0, .int .u8 0, .int .u8 0, .int .u8 0, .int .u8 0, .int .u8 0, .int .u8 0, .int .u8 0, .int .u8 0, .int .u8 0, .int .u8 0, .int .u8 0, .int .u8 0, .int .u8 0, .int .i64 0, .bool false, .int .i64 0, .bool false] 69)).setCells wr.heap.size 0 C = wC at hbx nC ⊢
          have htk : C.take 38 = C := List.take_of_length_le (by omega)
          have hr38 : rowN wC wr.heap.size 0 38 = some C.toArray := by rw [rowN_blk hbx 0 38 (by simp [hlen])]; simp [htk]
          have hGC : Spans wC := (unhide HHG).new (nr.trans nC)
          have d35 : C.toArray[35]? = some (.bool x.own) := by rw [List.getElem?_toArray]; exact v35
          have d36 : C.toArray[36]? = some (.int .i64 x.state) := by rw [List.getElem?_toArray]; exact v36
          clear hst hrow
          go_wp2_with fail
          refine (place_any ours x.own x.state C.toArray wC hGC d35 d36).mono ?_
          rintro e w1 ⟨rfl, n1⟩
          have hb1 := n1.old hbx (fun h => h)
          have s0 : w1.cell? ⟨wr.heap.size, 1, none⟩ = some (.int .u64 x.h.amount) := by rw [blk_cell hb1, List.getElem?_toArray]; exact v0
          have s35 : w1.cell? ⟨wr.heap.size, 35, none⟩ = some (.bool x.own) := by rw [blk_cell hb1]; exact d35
          have s37 : w1.cell? ⟨wr.heap.size, 37, none⟩ = some (.bool x.paid) := by rw [blk_cell hb1, List.getElem?_toArray]; exact v37
          have s35h : rowN w1 wr.heap.size 0 35 = some (htlcCells x.h).toArray := by rw [rowN_blk hb1 0 35 (by simp [hlen])]; rw [Nat.zero_add, vh]
          have nr1 := nC.trans n1
          have j1 := nr1.old k1 (fun h => h)
          have j2 := nr1.old k2 (fun h => h)
          have jr := nr1.old kr (fun h => h)
          have hO1 : w1.ownsRow wB.heap.size 254 36 (.slice sa sk sc) (itemsOf ours (xs.take n)).length ((itemsOf ours (xs.take n)).flatMap itemCells) := owns_new (unhide HO) nr1
          have HO1 := hide hO1
          have HNE := hide (And.intro (show w.heap.size + 1 ≠ b1 by have := unhide HG1; omega) (show w.heap.size + 1 ≠ b2 by have := unhide HG2; omega))
          have HS1 := hide (nr1.size)
          have nW1 := nr.trans nr1
          clear hO1 hGC d35 d36 v0 v35 v36 v37 vh hr38 hbx nC hb1 n1 nr1 k1 k2 kr HO hh nr
          cases hhas : hasB ours x.own x.state with
          | true =>
            obtain ⟨i9, z9, hi, hz, hz0, hz1, hz2⟩ := item_info
            have ht : itemsOf ours (xs.take (n + 1)) = itemsOf ours (xs.take n) ++ [⟨x.own == ours, x.h⟩] := by
              rw [List.take_add_one, hx]
              simp [itemsOf, List.filter_append, hhas]
            have hs : sumsOf ours l r (xs.take (n + 1)) = sumsOf ours l r (xs.take n) := by
              rw [List.take_add_one, hx]
              simp [sumsOf, stepI, hhas]
            have HT := hide ht
            have HS := hide hs
            clear ht hs hhas
            have hhl := htlc_len x.h
            have hbl : (itemsOf ours (xs.take n)).length ≤ n := by
              unfold itemsOf; rw [List.length_map]
              exact Nat.le_trans (List.length_filter_le _ _) (by rw [List.length_take]; omega)
            have HBL := hide hbl
            clear hbl
            go_wp2_with (at_builtin; refine wpList_append_own _ rfl (.tmp 41) (.tmp 49) 199 rfl wB.heap.size 254 i9 _ 36 64 Tryz.underlying199 hi hz hz0 hz1 hz2 (by decide) _ _ _ rfl ((unhide HO1).alloc _) ⟨w1.heap.size, 0, none⟩ 1 1 (itemCells ⟨x.own == ours, x.h⟩) rfl (item_len _) ?c1 (item_one _) ?c3 ?c4 ?c5 ?_)
            case c1 =>
              intro j u hj
              have hadd : (⟨w1.heap.size, 0, none⟩ : Addr).add j = ⟨w1.heap.size, j, none⟩ := by unfold Addr.add; split <;> simp_all
              rw [hadd, blk_cell (blk_alloc _ _)]
              simpa [itemCells] using hj
            case c3 => have := unhide HBL; unfold maxLen; omega
            case c4 => have := unhide HBL; omega
            case c5 => have := unhide HS1; simp; omega
            intro v' w5 hown5 hgrow5 _
            have j1' := (hgrow5.block b1 (by have := unhide HLT; have := unhide HS1; simp; omega) (by intro h; have := (unhide HO1).lt _ h.symm; have := unhide HLT; omega)).trans (blk_alloc_old j1 _)
            have j2' := (hgrow5.block b2 (by have := unhide HLT; have := unhide HS1; simp; omega) (by intro h; have := (unhide HO1).lt _ h.symm; have := unhide HLT; omega)).trans (blk_alloc_old j2 _)
            have jr' := (hgrow5.block (w.heap.size + 1) (by have := unhide HLT; have := unhide HS1; simp; omega) (by intro h; have := (unhide HO1).lt _ h.symm; have := unhide HLT; omega)).trans (blk_alloc_old jr _)
            have nW5 : New w w5 := (nW1.alloc _).grown hgrow5 (fun k h hk => by have := (unhide HO1).lt k h; have := unhide HSB; omega)
            have HZ5 := hide hgrow5.size
            obtain ⟨va', vk', vc', rfl⟩ := own_shape hown5
            have HO5 := hide hown5
            clear hown5 hgrow5 s0 s35 s37 s35h j1 j2 jr
            go_wp2
            go_roundw
            case rel =>
              refine ⟨n + 1, by go_num, by omega, ⟨_, _, _, rfl⟩, hide ?_, ?_, ?_, jr', nW5, by have := unhide HZ5; have := unhide HS1; simp at *; omega⟩
              · rw [unhide HT, List.length_append, List.flatMap_append]; simpa using unhide HO5
              · rw [unhide HS]; exact j1'
              · rw [unhide HS]; exact j2'
            case measure => simp [intOf]; omega
          | false =>
            have ht : itemsOf ours (xs.take (n + 1)) = itemsOf ours (xs.take n) := by
              rw [List.take_add_one, hx]
              simp [itemsOf, List.filter_append, hhas]
            have hsh : True := trivial
            cases hg : goneB ours x.own x.state <;> cases hp : x.paid
            · have hs : sumsOf ours l r (xs.take (n + 1)) = giveI (x.own) x.h.amount (sumsOf ours l r (xs.take n)) := by
                rw [List.take_add_one, hx]
                simp [sumsOf, stepI, hhas, hg, hp]
              have HT := hide ht
              have HS := hide hs
              have HSH := hide hsh
              rw [hp] at s37
              clear ht hs hsh hhas hg
              go_wp2_with fail
              refine (give_any (x.own) x.h.amount b1 b2 b12 22 _ _ _ j1 j2).mono ?_
              rintro e w2 ⟨rfl, u2, m1, m2⟩
              have HM := hide (And.intro m1 m2)
              clear m1 m2
              go_wp2
              go_roundw
              case rel =>
                obtain ⟨lt1, lt2, ltr⟩ := unhide HLT
                obtain ⟨ne1, ne2⟩ := unhide HNE
                have ge1 := unhide HG1
                have ge2 := unhide HG2
                refine ⟨n + 1, by go_num, by omega, ⟨_, _, _, rfl⟩, hide ?_, ?_, ?_, u2.old jr (by omega), nW1.then u2 (fun i h1 h2 => by omega), by have := u2.size; have := unhide HS1; omega⟩
                · rw [unhide HT]; exact owns_upd (unhide HO1) u2 (fun k h1 h2 => by omega)
                · rw [unhide HS]; exact (unhide HM).1
                · rw [unhide HS]; exact (unhide HM).2
              case measure => simp [intOf]; omega
            · have hs : sumsOf ours l r (xs.take (n + 1)) = giveI (x.own) x.h.amount (sumsOf ours l r (xs.take n)) := by
                rw [List.take_add_one, hx]
                simp [sumsOf, stepI, hhas, hg, hp]
              have HT := hide ht
              have HS := hide hs
              have HSH := hide hsh
              rw [hp] at s37
              clear ht hs hsh hhas hg
              go_wp2_with fail
              refine (give_any (x.own) x.h.amount b1 b2 b12 22 _ _ _ j1 j2).mono ?_
              rintro e w2 ⟨rfl, u2, m1, m2⟩
              have HM := hide (And.intro m1 m2)
              clear m1 m2
              go_wp2
              go_roundw
              case rel =>
                obtain ⟨lt1, lt2, ltr⟩ := unhide HLT
                obtain ⟨ne1, ne2⟩ := unhide HNE
                have ge1 := unhide HG1
                have ge2 := unhide HG2
                refine ⟨n + 1, by go_num, by omega, ⟨_, _, _, rfl⟩, hide ?_, ?_, ?_, u2.old jr (by omega), nW1.then u2 (fun i h1 h2 => by omega), by have := u2.size; have := unhide HS1; omega⟩
                · rw [unhide HT]; exact owns_upd (unhide HO1) u2 (fun k h1 h2 => by omega)
                · rw [unhide HS]; exact (unhide HM).1
                · rw [unhide HS]; exact (unhide HM).2
              case measure => simp [intOf]; omega
            · have hs : sumsOf ours l r (xs.take (n + 1)) = giveI (x.own) x.h.amount (sumsOf ours l r (xs.take n)) := by
                rw [List.take_add_one, hx]
                simp [sumsOf, stepI, hhas, hg, hp]
              have HT := hide ht
              have HS := hide hs
              have HSH := hide hsh
              rw [hp] at s37
              clear ht hs hsh hhas hg
              go_wp2_with fail
              refine (give_any (x.own) x.h.amount b1 b2 b12 22 _ _ _ j1 j2).mono ?_
              rintro e w2 ⟨rfl, u2, m1, m2⟩
              have HM := hide (And.intro m1 m2)
              clear m1 m2
              go_wp2
              go_roundw
              case rel =>
                obtain ⟨lt1, lt2, ltr⟩ := unhide HLT
                obtain ⟨ne1, ne2⟩ := unhide HNE
                have ge1 := unhide HG1
                have ge2 := unhide HG2
                refine ⟨n + 1, by go_num, by omega, ⟨_, _, _, rfl⟩, hide ?_, ?_, ?_, u2.old jr (by omega), nW1.then u2 (fun i h1 h2 => by omega), by have := u2.size; have := unhide HS1; omega⟩
                · rw [unhide HT]; exact owns_upd (unhide HO1) u2 (fun k h1 h2 => by omega)
                · rw [unhide HS]; exact (unhide HM).1
                · rw [unhide HS]; exact (unhide HM).2
              case measure => simp [intOf]; omega
            · have hs : sumsOf ours l r (xs.take (n + 1)) = giveI (!x.own) x.h.amount (sumsOf ours l r (xs.take n)) := by
                rw [List.take_add_one, hx]
                simp [sumsOf, stepI, hhas, hg, hp]
              have HT := hide ht
              have HS := hide hs
              have HSH := hide hsh
              rw [hp] at s37
              clear ht hs hsh hhas hg
              go_wp2_with fail
              refine (give_any (!x.own) x.h.amount b1 b2 b12 22 _ _ _ j1 j2).mono ?_
              rintro e w2 ⟨rfl, u2, m1, m2⟩
              have HM := hide (And.intro m1 m2)
              clear m1 m2
              go_wp2
              go_roundw
              case rel =>
                obtain ⟨lt1, lt2, ltr⟩ := unhide HLT
                obtain ⟨ne1, ne2⟩ := unhide HNE
                have ge1 := unhide HG1
                have ge2 := unhide HG2
                refine ⟨n + 1, by go_num, by omega, ⟨_, _, _, rfl⟩, hide ?_, ?_, ?_, u2.old jr (by omega), nW1.then u2 (fun i h1 h2 => by omega), by have := u2.size; have := unhide HS1; omega⟩
                · rw [unhide HT]; exact owns_upd (unhide HO1) u2 (fun k h1 h2 => by omega)
                · rw [unhide HS]; exact (unhide HM).1
                · rw [unhide HS]; exact (unhide HM).2
              case measure => simp [intOf]; omega
      · obtain rfl : n = xs.length := by omega
        rw [List.take_length] at HO k1 k2
        have hlen : (itemsOf ours xs).length ≤ 19 := by
          unfold itemsOf; rw [List.length_map]
          exact Nat.le_trans (List.length_filter_le _ _) hl
        obtain ⟨_, hor⟩ := held_of_owns (unhide HO)
        clear HO
        generalize hX : itemsOf ours xs = X at hlen hor
        have HX := hide hX
        generalize hP : sumsOf ours l r xs = p at k1 k2
        have HPP := hide hP
        clear hX hP
        rcases hor with ⟨e, e2⟩ | ⟨g, cap, e, hbase, hh⟩
        · cases e
          subst e2
          cases ours
          · go_wp2_with fail
            refine (sortstable_none _).mono ?_
            rintro e w2 ⟨rfl, q2⟩
            have c1 : w2.cell? ⟨b1, 0, none⟩ = some (.int .u64 p.1) := blk_cell (q2.old k1) 0
            have c2 : w2.cell? ⟨b2, 0, none⟩ = some (.int .u64 p.2) := blk_cell (q2.old k2) 0
            have nr2 : New w w2 := nr.then (q2.upd (fun _ => False)) (fun _ _ h => h.elim)
            have kr2 := q2.old kr
            have r0 := blk_cell kr2 0
            have r1 := blk_cell kr2 1
            have r2 := blk_cell kr2 2
            have z0 := blk_free kr2 0
            have z1 := blk_free kr2 1
            have z2 := blk_free kr2 2
            simp at r0 r1 r2
            go_wp2_with fail
            refine bodyPost_ret (results_cell_row rfl _ _ (w.heap.size + 1) _ _ _ _ rfl (laid3_blk _ _ _ kr2) Tryz.underlying201 rfl Tryz.infoView) rfl ?_
            exact ⟨_, by rw [unhide HPP], laid3_new nr2 (by omega) _ _ _, [], .inl ⟨_, _, rfl, rfl⟩, [], by rw [unhide HX]; exact List.Perm.refl _, List.Pairwise.nil, rfl⟩
          · go_wp2_with fail
            refine (sortstable_none _).mono ?_
            rintro e w2 ⟨rfl, q2⟩
            have c1 : w2.cell? ⟨b1, 0, none⟩ = some (.int .u64 p.1) := blk_cell (q2.old k1) 0
            have c2 : w2.cell? ⟨b2, 0, none⟩ = some (.int .u64 p.2) := blk_cell (q2.old k2) 0
            have nr2 : New w w2 := nr.then (q2.upd (fun _ => False)) (fun _ _ h => h.elim)
            have kr2 := q2.old kr
            have r0 := blk_cell kr2 0
            have r1 := blk_cell kr2 1
            have r2 := blk_cell kr2 2
            have z0 := blk_free kr2 0
            have z1 := blk_free kr2 1
            have z2 := blk_free kr2 2
            simp at r0 r1 r2
            go_wp2_with fail
            refine bodyPost_ret (results_cell_row rfl _ _ (w.heap.size + 1) _ _ _ _ rfl (laid3_blk _ _ _ kr2) Tryz.underlying201 rfl Tryz.infoView) rfl ?_
            exact ⟨_, by rw [unhide HPP], laid3_new nr2 (by omega) _ _ _, [], .inl ⟨_, _, rfl, rfl⟩, [], by rw [unhide HX]; exact List.Perm.refl _, List.Pairwise.nil, rfl⟩
        · cases e
          cases ours
          · go_wp2_with fail
            refine (sortstable_any g 0 _ X.length X rfl (by omega) _ hh).mono ?_
            rintro e w2 ⟨rfl, u2, M, p2, s2, h2⟩
            have HM := hide (And.intro p2 (And.intro s2 h2))
            clear p2 s2 h2
            obtain ⟨lt1, lt2, ltr⟩ := unhide HLT
            have c1 : w2.cell? ⟨b1, 0, none⟩ = some (.int .u64 p.1) := blk_cell (u2.old k1 (by omega)) 0
            have c2 : w2.cell? ⟨b2, 0, none⟩ = some (.int .u64 p.2) := blk_cell (u2.old k2 (by omega)) 0
            have nr2 : New w w2 := nr.then u2 (fun i hi e => by have := unhide HSB; omega)
            have kr2 := u2.old kr (by omega)
            have r0 := blk_cell kr2 0
            have r1 := blk_cell kr2 1
            have r2 := blk_cell kr2 2
            have z0 := blk_free kr2 0
            have z1 := blk_free kr2 1
            have z2 := blk_free kr2 2
            simp at r0 r1 r2
            go_wp2_with fail
            refine bodyPost_ret (results_cell_row rfl _ _ (w.heap.size + 1) _ _ _ _ rfl (laid3_blk _ _ _ kr2) Tryz.underlying201 rfl Tryz.infoView) rfl ?_
            obtain ⟨p2, s2, h2⟩ := unhide HM
            have hl2 : (its M).length = X.length := by have := p2.length_eq; simpa using this
            exact ⟨_, by rw [unhide HPP], laid3_new nr2 (by omega) _ _ _, its M, .inr ⟨g, _, by rw [hl2], h2.upd (laid3_upd _ _ _ _ _) (by omega)⟩, M, by rw [unhide HX]; exact p2, s2, rfl⟩
          · go_wp2_with fail
            refine (sortstable_any g 0 _ X.length X rfl (by omega) _ hh).mono ?_
            rintro e w2 ⟨rfl, u2, M, p2, s2, h2⟩
            have HM := hide (And.intro p2 (And.intro s2 h2))
            clear p2 s2 h2
            obtain ⟨lt1, lt2, ltr⟩ := unhide HLT
            have c1 : w2.cell? ⟨b1, 0, none⟩ = some (.int .u64 p.1) := blk_cell (u2.old k1 (by omega)) 0
            have c2 : w2.cell? ⟨b2, 0, none⟩ = some (.int .u64 p.2) := blk_cell (u2.old k2 (by omega)) 0
            have nr2 : New w w2 := nr.then u2 (fun i hi e => by have := unhide HSB; omega)
            have kr2 := u2.old kr (by omega)
            have r0 := blk_cell kr2 0
            have r1 := blk_cell kr2 1
            have r2 := blk_cell kr2 2
            have z0 := blk_free kr2 0
            have z1 := blk_free kr2 1
            have z2 := blk_free kr2 2
            simp at r0 r1 r2
            go_wp2_with fail
            refine bodyPost_ret (results_cell_row rfl _ _ (w.heap.size + 1) _ _ _ _ rfl (laid3_blk _ _ _ kr2) Tryz.underlying201 rfl Tryz.infoView) rfl ?_
            obtain ⟨p2, s2, h2⟩ := unhide HM
            have hl2 : (its M).length = X.length := by have := p2.length_eq; simpa using this
            exact ⟨_, by rw [unhide HPP], laid3_new nr2 (by omega) _ _ _, its M, .inr ⟨g, _, by rw [hl2], h2.upd (laid3_upd _ _ _ _ _) (by omega)⟩, M, by rw [unhide HX]; exact p2, s2, rfl⟩

end Go.Proofs.YtfmkdoachjgjbaaGreatDoor
