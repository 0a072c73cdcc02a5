/-
  What a link can bear behind what it says; messages that may be.
-/
import Derived.Test.YtainkaojnhfldaaGreatDoorMea
import Derived.Test.YtainkaojnhfldaaGreatDoorMeg
import Derived.Test.YtainkaojnhfldaaGreatDoorMcb
import Derived.Test.YtainkaojnhfldaaGreatDoorNp2
import Derived.Laws.IdiomRangeMap
set_option linter.unusedVariables false
set_option linter.unusedSimpArgs false
namespace Go.Proofs.YtainkaojnhfldaaGreatDoor
open Go.RowKit

theorem may_addN {c i a e : Int} (h : List Int) (ha : a ≤ 1125899906842624) (he : 0 ≤ e ∧ e ≤ 1073741824) : mayMsg ⟨3, c, i, a, h, e, 0⟩ = true := by
  unfold mayMsg
  show (if e < 0 ∨ 1073741824 < e ∨ (0 : Int) < 0 ∨ 65535 < (0 : Int) ∨ 1125899906842624 < a then false else decide (zeros _ _ = kindMsg 3)) = true
  rw [if_neg (by omega)]
  kernel_rfl
theorem sayOk_mk {k c i a e n : Int} {h : List Int} (hk : 0 ≤ k ∧ k < 256) (hc : 0 ≤ c ∧ c < 4294967296) (hi : 0 ≤ i ∧ i < 18446744073709551616) (ha : 0 ≤ a ∧ a ≤ 1125899906842624) (hl : h.length = 32) (hb : ∀ b ∈ h, 0 ≤ b ∧ b ≤ 255) (he : 0 ≤ e ∧ e ≤ 1073741824) (hn : 0 ≤ n ∧ n ≤ 65535) (hm : mayMsg ⟨k, c, i, a, h, e, n⟩ = true) : SayOk ⟨k, c, i, a, h, e, n⟩ := by
  refine ⟨⟨⟨?_, hc, hi, ⟨ha.1, ?_⟩, hl, hb, ?_, ?_⟩, ⟨he.1, ?_⟩, ⟨hn.1, ?_⟩⟩, hm, hk⟩
  · show -9223372036854775808 ≤ k ∧ k ≤ 9223372036854775807
    omega
  · show a < 18446744073709551616
    omega
  · show -9223372036854775808 ≤ e ∧ e ≤ 9223372036854775807
    omega
  · show -9223372036854775808 ≤ n ∧ n ≤ 9223372036854775807
    omega
  · show e < 4294967296
    omega
  · show n < 65536
    omega
theorem offer_mlen (c : Ch) (n : Int) (h : Vector Int 32) (x : Int) : (c.offer n h x).2.1.hash.length = 32 := by
  unfold Ch.offer
  split
  · show h.toList.length = 32
    simp
  · exact z32i_len
theorem offer_say {c : Ch} {n x : Int} {h : List Int} (hl : h.length = 32) (hb : Bytes h) (hch : 0 ≤ c.s.ch ∧ c.s.ch < 4294967296) (hid : 0 ≤ c.k.nextOwn ∧ c.k.nextOwn < 18446744073709551616) (hn : 0 ≤ n ∧ n ≤ 1125899906842624) (hx : 0 ≤ x ∧ x ≤ 1073741824) (h0 : (c.offer n (hvec h) x).2.2 = 0) : SayOk (c.offer n (hvec h) x).2.1 := by
  unfold Ch.offer at h0 ⊢
  split at h0
  · rename_i he
    rw [if_pos he]
    have e : ((offerMsg c n (hvec h) x).on c.s.ch : MsgV) = ⟨3, c.s.ch, c.k.nextOwn, n, h, x, 0⟩ := by
      unfold offerMsg MsgV.on
      rw [hvec_list hl]
    show SayOk ((offerMsg c n (hvec h) x).on c.s.ch)
    rw [e]
    exact sayOk_mk (by decide) hch hid hn hl hb hx (by decide) (may_addN h hn.2 hx)
  · rename_i he
    exact absurd h0 he
theorem offer_err (c : Ch) (n : Int) (h : Vector Int 32) (x : Int) : (c.offer n h x).2.2 = offerErr c n x := by
  unfold Ch.offer
  split
  · rename_i he; exact he.symm
  · rfl
theorem offerErr_ne (c : Ch) (n x : Int) : offerErr c n x ≠ 200 := by
  unfold offerErr
  repeat' split
  all_goals decide
/-- A link that has said at most n messages since it was new. -/
structure LkB (l : Lk) (n : Nat) : Prop where
  dead : l.dead = false
  waits : l.waits = false
  fused : l.j.fused = false
  off : l.j.off = false
  many : 0 ≤ l.j.many ∧ l.j.many ≤ n
  len : l.j.bs.size ≤ 2000 * n
  out : l.out.size ≤ 2000 * n
theorem LkB.ok {l : Lk} {n : Nat} (h : LkB l n) (hn : n ≤ 100000000) : LkOk l := ⟨h.dead, h.waits, h.fused, h.off, ⟨h.many.1, by have := h.many.2; omega⟩, by have := h.len; omega, by have := h.out; omega⟩
theorem LkB.mono {l : Lk} {n m : Nat} (h : LkB l n) (hn : n ≤ m) : LkB l m := ⟨h.dead, h.waits, h.fused, h.off, ⟨h.many.1, by have := h.many.2; omega⟩, by have := h.len; omega, by have := h.out; omega⟩
theorem LkB.new (c : Ch) : LkB (.new c) 0 := ⟨rfl, rfl, rfl, rfl, ⟨Int.le_refl _, Int.le_refl _⟩, Nat.le_refl _, Nat.le_refl _⟩
theorem LkB.acts {l : Lk} {n : Nat} (h : LkB l n) {c' : Ch} {rec : ByteArray} {m : MsgV} {er : Int} (hr : rec.size ≤ 1024) (hs : er = 0 → SayOk m) : LkB (l.acts c' rec m er) (n + 1) := by
  unfold Lk.acts
  split
  · rename_i he
    have hz := (hs he).size
    have hp := putI_size l.j.many.toNat rec
    have h1 := h.len
    have h2 := h.out
    have h3 := h.many
    refine ⟨h.dead, h.waits, h.fused, h.off, ⟨?_, ?_⟩, ?_, ?_⟩
    · show 0 ≤ l.j.many + 1
      omega
    · show l.j.many + 1 ≤ ((n + 1 : Nat) : Int)
      omega
    · show (l.j.bs ++ putI l.j.many.toNat rec).size ≤ _
      rw [ByteArray.size_append]
      omega
    · show (l.out ++ sayS m).size ≤ _
      rw [ByteArray.size_append]
      omega
  · have := h.mono (Nat.le_succ n)
    exact ⟨this.dead, this.waits, this.fused, this.off, this.many, this.len, this.out⟩
theorem LkB.offers {l : Lk} {n : Nat} (h : LkB l n) {a x : Nat} {hh : List Int} (hl : hh.length = 32) (hs : (l.c.offer a (hvec hh) x).2.2 = 0 → SayOk (l.c.offer a (hvec hh) x).2.1) : LkB (l.offers a x hh) (n + 1) := h.acts (join4_size hl) hs
theorem LkB.shut {l : Lk} {n : Nat} (h : LkB l n) (hs : l.c.shut.2.2 = 0 → SayOk l.c.shut.2.1) : LkB l.shut (n + 1) := h.acts (by rw [numS_size]; decide) hs
theorem acts_c {l : Lk} {c' : Ch} {rec : ByteArray} {m : MsgV} {er : Int} : (l.acts c' rec m er).c = c' := by
  unfold Lk.acts
  split <;> rfl
theorem offers_c (l : Lk) (n x : Nat) (h : List Int) : (l.offers n x h).c = (l.c.offer n (hvec h) x).1 := acts_c
/-- A link that is new, whole. -/
theorem NewL.whole {w : World} {B g : Nat} {s : SetupV} {l : LinkV} (h : NewL w B g s l) (hs : s.Ok) (hm : s.may) : LkS w g (fun i => i = g ∨ i = l.sp ∨ i = l.en ∨ i = l.lo) (.new (Ch.new s)) := by
  have hc := chS_new h.ch hs hm
  have hj := JoS.fresh h.jo
  have hat : LkR w g ((Lk.new (Ch.new s)).v l.sp l.en l.lo) := by
    have := h.lk
    rw [h.isNew] at this
    exact this
  have e1 := h.ne
  refine ⟨l.sp, l.en, l.lo, _, _, ⟨hat, h.sp, hc, hj, .inl rfl, .inr (.inl rfl), fun k e => .inr (.inr (.inl e)), fun k e => .inr (.inr (.inr e)), ?_, ?_, ?_, ?_, ?_, ?_⟩⟩
  · show ¬ g = l.en
    omega
  · show ¬ g = l.lo
    omega
  · show ¬ l.sp = l.en
    omega
  · show ¬ l.sp = l.lo
    omega
  · intro k e e'
    have e : k = l.en := e
    have e' : k = l.lo := e'
    omega
  · have h1 := blk_lt h.lk
    have h2 := blk_lt h.sp
    have h3 := blk_lt h.ch.at_
    have h4 := blk_lt h.jo
    rintro k (e | e | e | e) <;> rw [e]
    · exact h1
    · exact h2
    · exact h3
    · exact h4
end Go.Proofs.YtainkaojnhfldaaGreatDoor
namespace Go.Proofs.YtainkaojnhfldaaGreatDoor
open Go.RowKit

/-- What List tells of the one peer. -/
def Lists (w : World) (g : Nat) (x : RowV) : Prop := ∀ W, New w W → Calls Tryz.prog 12 #[.pointer (some ⟨g, 0, none⟩)] W fun e w' => ∃ G cap, e = .returned (.slice (some ⟨G, 0, none⟩) 1 cap) ∧ rowN w' G 0 5 = some (RowV.cells x).toArray ∧ W.heap.size ≤ G ∧ New W w'
theorem lists_of {w : World} {g : Nat} {N : NodeV} {R : RelV} {ch : Int} {k : Nat} {S : Nat → Prop} {L : Lk} {m : Nat} (h : NodS w g N R ch k S L m) (hs : N.shut.length = 8) (hw : N.swept = List.replicate 8 false) (hh : 0 ≤ L.c.k.heard ∧ L.c.k.heard < 4294967296) :
    Lists w g ⟨L.c.s.ch, L.c.loc, L.c.rem, sumI64 (amts true true L.c.xs) 0, false⟩ := by
  intro W nW
  obtain ⟨lv, cv, hI, hC, e1, e2, e3, e4, ok⟩ := (h.new nW).toI
  refine (nlist_any g N R [⟨ch, k, lv, cv⟩] (fun _ => L.c.xs) W hI (by show 1 ≤ 8; decide) hs (by rw [hw]; rfl) ?_ (fun _ => ok.few) (fun _ => ok.xs)).mono ?_
  · intro i p hp
    have hi : i = 0 := by
      have := (List.getElem?_eq_some_iff.1 hp).1
      simpa using this
    subst hi
    obtain rfl : (⟨ch, k, lv, cv⟩ : PeerV) = p := by simpa using hp
    refine ⟨hC, ?_, ?_⟩
    · show 0 ≤ cv.k.signed ∧ _
      rw [e4]
      have := ok.signed
      omega
    · show 0 ≤ cv.k.heard ∧ _
      rw [e4]
      exact hh
  · rintro e w' ⟨v, rfl, hrow, n⟩
    have hr : rowOf N [⟨ch, k, lv, cv⟩] (fun _ => L.c.xs) 0 = ⟨L.c.s.ch, L.c.loc, L.c.rem, sumI64 (amts true true L.c.xs) 0, false⟩ := by
      unfold rowOf
      show (if N.swept[0]? = some true then _ else _) = _
      rw [hw, if_neg (by decide)]
      show RowV.mk cv.setup.ch cv.loc cv.rem _ false = _
      rw [e1, e2, e3]
    have hrow : w'.ownsRow W.heap.size 41 5 v 1 ([rowOf N [⟨ch, k, lv, cv⟩] (fun _ => L.c.xs) 0].flatMap RowV.cells) := hrow
    rw [hr] at hrow
    generalize (⟨L.c.s.ch, L.c.loc, L.c.rem, sumI64 (amts true true L.c.xs) 0, false⟩ : RowV) = x at hrow ⊢
    rcases hrow.2 with ⟨_, e0⟩ | ⟨G, cap, cur, e, hG, hg, hc, _, hz, ht⟩
    · cases e0
    · refine ⟨G, cap, by rw [e], ?_, hG, n⟩
      have hsz : 5 ≤ cur.size := by rw [hz]; omega
      rw [rowN_blk hg 0 5 (by omega)]
      congr 1
      apply Array.ext'
      rw [Array.toList_extract, List.extract_eq_take_drop, List.drop_zero]
      have e1 : cur.toList.take (1 * 5) = [x].flatMap RowV.cells := ht
      rw [show 0 + 5 - 0 = 1 * 5 from rfl, e1]
      simp
def rowLeaves : List Leaf := [.int .u32, .int .u64, .int .u64, .int .u64, .bool]
theorem Tryz.flatRow : flatF Tryz.prog 5 41 = some rowLeaves := by kernel_rfl
theorem Tryz.eqRowB : eqB Tryz.prog 5 41 = true := by kernel_rfl
theorem Tryz.aggRow : aggB Tryz.prog 41 = true := by kernel_rfl
structure RowOk (x : RowV) : Prop where
  ch : 0 ≤ x.ch ∧ x.ch ≤ 4294967295
  loc : 0 ≤ x.loc ∧ x.loc ≤ 18446744073709551615
  rem : 0 ≤ x.rem ∧ x.rem ≤ 18446744073709551615
  pend : 0 ≤ x.pend ∧ x.pend ≤ 18446744073709551615
theorem fits_row {x : RowV} (h : RowOk x) : Fits rowLeaves x.cells := by
  have e : ∀ {n : Int}, 0 ≤ n ∧ n ≤ 18446744073709551615 → (Lit.int .u64 n).wf = true := fun h => by
    simp [Lit.wf, IntKind.min, IntKind.max, IntKind.signed, IntKind.bits]; omega
  have e2 : (Lit.int .u32 x.ch).wf = true := by
    have := h.ch
    simp [Lit.wf, IntKind.min, IntKind.max, IntKind.signed, IntKind.bits]; omega
  exact ⟨_, _, rfl, ⟨_, rfl, e2⟩, _, _, rfl, ⟨_, rfl, e h.loc⟩, _, _, rfl, ⟨_, rfl, e h.rem⟩, _, _, rfl, ⟨_, rfl, e h.pend⟩, _, _, rfl, ⟨_, rfl⟩, rfl⟩
theorem eq_row_same {x : RowV} (h : RowOk x) (w : World) : (eqRow (.agg x.cells.toArray) (.agg x.cells.toArray)).run Tryz.prog w = .ok (.bool true) w :=
  run_eql_flat 5 (by decide) Tryz.eqRowB Tryz.flatRow Tryz.aggRow (fits_row h) (fits_row h) true (by simp) w
end Go.Proofs.YtainkaojnhfldaaGreatDoor
namespace Go.Proofs.YtainkaojnhfldaaGreatDoor
open Go.RowKit

/-- The circuits, none: block c; its first map is m. -/
structure CiE (w : World) (c m : Nat) : Prop where
  at_ : ∃ a b m2, w.heap[c]? = some (.cells #[.int .u64 a, .int .u64 b, .map (some m), .map (some m2)] 166 (0, 0))
  em : EmM w m
theorem CiE.upd {T : Nat → Prop} {w w' : World} {c m : Nat} (h : CiE w c m) (u : Upd T w w') (hc : ¬ T c) (hm : ¬ T m) : CiE w' c m := by
  obtain ⟨⟨a, b, m2, h1⟩, h2⟩ := h
  exact ⟨⟨a, b, m2, u.old h1 hc⟩, u.old h2 hm⟩
theorem CiE.new {w w' : World} {c m : Nat} (h : CiE w c m) (u : New w w') : CiE w' c m := h.upd u (fun h => h) (fun h => h)
theorem CiE.lt {w : World} {c m : Nat} (h : CiE w c m) : c < w.heap.size ∧ m < w.heap.size := by
  obtain ⟨⟨a, b, m2, h1⟩, h2⟩ := h
  exact ⟨blk_lt h1, blk_lt h2⟩
theorem CiE.cell {w : World} {c m : Nat} (h : CiE w c m) : w.cell? ⟨c, 2, none⟩ = some (.map (some m)) := by
  obtain ⟨⟨a, b, m2, h1⟩, h2⟩ := h
  exact blk_cell h1 2
set_option maxHeartbeats 1000000 in
theorem newCi2_any (a b : Int) (w : World) : Calls Tryz.prog 54 #[.int .u64 a, .int .u64 b] w fun e w' => ∃ g m, e = .returned (.pointer (some ⟨g, 0, none⟩)) ∧ w.heap.size ≤ g ∧ w.heap.size ≤ m ∧ CiE w' g m ∧ New w w' := by
  have hmm := @run_makeMap Tryz.prog
  go_enter Tryz.func54, Tryz.ntmps54
  go_wp2_with fail
  go_ret
  obtain ⟨w1, h1⟩ : ∃ w1, w1 = w.alloc (.map #[] 0) := ⟨_, rfl⟩
  obtain ⟨w2, h2⟩ : ∃ w2, w2 = w1.alloc (.map #[] 0) := ⟨_, rfl⟩
  have z1 : w1.heap.size = w.heap.size + 1 := by rw [h1]; exact World.size_alloc _ _
  have z2 : w2.heap.size = w.heap.size + 2 := by rw [h2, World.size_alloc, z1]
  have e1 : EmM w1 w.heap.size := by rw [h1]; exact blk_alloc _ _
  have n1 : New w w1 := by rw [h1]; exact (Upd.refl _ _).alloc _
  have n2 : New w1 w2 := by rw [h2]; exact (Upd.refl _ _).alloc _
  rw [← h1, ← h2]
  have b3 := blk_alloc w2 (.cells #[.int .u64 a, .int .u64 b, .map (some w.heap.size), .map (some (w.heap.size + 1))] 166)
  have n3 : New w2 (w2.alloc (.cells #[.int .u64 a, .int .u64 b, .map (some w.heap.size), .map (some (w.heap.size + 1))] 166)) := (Upd.refl _ _).alloc _
  rw [z2] at b3
  exact ⟨w.heap.size + 2, w.heap.size, rfl, by omega, Nat.le_refl _, ⟨⟨_, _, _, b3⟩, (n2.trans n3).old e1 (fun h => h)⟩, (n1.trans n2).trans n3⟩
set_option maxHeartbeats 1000000 in
theorem newR2_any (a b : Int) (w : World) : Calls Tryz.prog 28 #[.int .u64 a, .int .u64 b] w fun e w' => ∃ g r m m4, e = .returned (.pointer (some ⟨g, 0, none⟩)) ∧ w.heap.size ≤ g ∧ NewR w' w.heap.size g r ∧ CiE w' r.ci m ∧ r.payments = mapV m4 ∧ m < m4 ∧ w.heap.size ≤ m ∧ w.heap.size ≤ r.ci ∧ New w w' := by
  have hmm := @run_makeMap Tryz.prog
  go_enter Tryz.func28, Tryz.ntmps28
  go_wp2_with fail
  refine (newCi2_any a b w).mono ?_
  rintro e w1 ⟨c, m, rfl, hc, hm, hci, n1⟩
  go_wp2_with fail
  go_ret
  have s1 := n1.size
  have hcl := hci.lt
  obtain ⟨w2, h2⟩ : ∃ w2, w2 = w1.alloc (.map #[] 0) := ⟨_, rfl⟩
  obtain ⟨w3, h3⟩ : ∃ w3, w3 = w2.alloc (.map #[] 0) := ⟨_, rfl⟩
  obtain ⟨w4, h4⟩ : ∃ w4, w4 = w3.alloc (.map #[] 0) := ⟨_, rfl⟩
  obtain ⟨w5, h5⟩ : ∃ w5, w5 = w4.alloc (.map #[] 0) := ⟨_, rfl⟩
  have z2 : w2.heap.size = w1.heap.size + 1 := by rw [h2]; exact World.size_alloc _ _
  have z3 : w3.heap.size = w1.heap.size + 2 := by rw [h3, World.size_alloc, z2]
  have z4 : w4.heap.size = w1.heap.size + 3 := by rw [h4, World.size_alloc, z3]
  have z5 : w5.heap.size = w1.heap.size + 4 := by rw [h5, World.size_alloc, z4]
  have e2 : EmM w2 w1.heap.size := by rw [h2]; exact blk_alloc _ _
  have e3 : EmM w3 (w1.heap.size + 1) := by rw [h3, ← z2]; exact blk_alloc _ _
  have e4 : EmM w4 (w1.heap.size + 2) := by rw [h4, ← z3]; exact blk_alloc _ _
  have e5 : EmM w5 (w1.heap.size + 3) := by rw [h5, ← z4]; exact blk_alloc _ _
  have n2 : New w1 w2 := by rw [h2]; exact (Upd.refl _ _).alloc _
  have n3 : New w2 w3 := by rw [h3]; exact (Upd.refl _ _).alloc _
  have n4 : New w3 w4 := by rw [h4]; exact (Upd.refl _ _).alloc _
  have n5 : New w4 w5 := by rw [h5]; exact (Upd.refl _ _).alloc _
  rw [← h2, ← h3, ← h4, ← h5]
  obtain ⟨r, hr⟩ : ∃ r : RelV, r = ⟨c, nilV, mapV w1.heap.size, mapV (w1.heap.size + 1), mapV (w1.heap.size + 2), mapV (w1.heap.size + 3), false, w.heap.size⟩ := ⟨_, rfl⟩
  have h6 : ReR (w5.alloc (.cells r.cells.toArray 114)) (w1.heap.size + 4) r := by
    have := blk_alloc w5 (.cells r.cells.toArray 114)
    rwa [z5] at this
  have n6 : New w5 (w5.alloc (.cells r.cells.toArray 114)) := (Upd.refl _ _).alloc _
  subst hr
  have n (x : False) : False := x
  exact ⟨w1.heap.size + 4, _, m, w1.heap.size + 3, rfl, by omega, ⟨h6, rfl, rfl, rfl, _, _, _, _, rfl, rfl, rfl, rfl, (n3.trans (n4.trans (n5.trans n6))).old e2 n, (n4.trans (n5.trans n6)).old e3 n, (n5.trans n6).old e4 n, n6.old e5 n, s1, by omega, by omega, by omega, by omega⟩, hci.new (n2.trans (n3.trans (n4.trans (n5.trans n6)))), rfl, by omega, hm, hc, n1.trans (n2.trans (n3.trans (n4.trans (n5.trans n6))))⟩
set_option maxHeartbeats 1000000 in
theorem newN2_any (f a b : Int) (hf : 0 ≤ f ∧ f ≤ 1125899906842624) (w : World) : Calls Tryz.prog 7 #[.int .u64 f, .int .u64 a, .int .u64 b] w fun e w' =>
    ∃ g r R m m4, e = .returned (.pointer (some ⟨g, 0, none⟩)) ∧ w.heap.size ≤ r ∧ r < g ∧ NoR w' g (.new r f) ∧ NewR w' w.heap.size r R ∧ CiE w' R.ci m ∧ R.payments = mapV m4 ∧ m < m4 ∧ w.heap.size ≤ m ∧ w.heap.size ≤ R.ci ∧ New w w' := by
  go_enter Tryz.func7, Tryz.ntmps7
  have h1 : ¬ 1125899906842624 < f := by omega
  go_wp2_with fail
  refine (newR2_any a b w).mono ?_
  rintro e w1 ⟨r, R, m, m4, rfl, hr, hR, hci, hp, hm, hmB, hcB, n1⟩
  have HH := hide (And.intro hci (And.intro hp (And.intro hm (And.intro hmB (And.intro hcB (And.intro hR n1))))))
  clear hci hp hm hmB hcB hR n1
  go_wp2_with fail
  go_ret
  obtain ⟨hci, hp, hm, hmB, hcB, hR, n1⟩ := unhide HH
  have n2 : New w1 (w1.alloc (.cells (NodeV.new r f).cells.toArray 69)) := (Upd.refl _ _).alloc _
  have hn : NoR (w1.alloc (.cells (NodeV.new r f).cells.toArray 69)) w1.heap.size (.new r f) := blk_alloc _ _
  exact ⟨w1.heap.size, r, R, m, m4, rfl, hr, hR.lt, hn, hR.new n2, hci.new n2, hp, hm, hmB, hcB, n1.trans n2⟩
end Go.Proofs.YtainkaojnhfldaaGreatDoor
namespace Go.Proofs.YtainkaojnhfldaaGreatDoor
open Go.RowKit

set_option maxRecDepth 100000 in
set_option maxHeartbeats 600000 in
theorem len64_0 (w : World) : Calls Tryz.prog 201 #[.int .u64 0] w (Reads (.int .i64 0) w) := by
  go_enter Tryz.func201, Tryz.ntmps201
  go_wp2_with fail
  go_ret
  refine ⟨?_, Q.refl _⟩
  kernel_rfl
set_option maxRecDepth 100000 in
set_option maxHeartbeats 600000 in
theorem len_0 (w : World) : Calls Tryz.prog 173 #[.int .u64 0] w (Reads (.int .i64 0) w) := by
  go_enter Tryz.func173, Tryz.ntmps173
  go_wp2_with fail
  refine (len64_0 w).mono ?_
  rintro e w1 ⟨rfl, q1⟩
  go_wp2_with fail
  go_ret
  exact ⟨rfl, q1⟩
set_option maxHeartbeats 600000 in
theorem ins_0 (f : Value) (w : World) : Calls Tryz.prog 192 #[.slice none 0 0, .int .i64 0, .int .i64 0, f] w fun e w' => e = .returned (.tuple #[]) ∧ Q w w' := by
  go_enter Tryz.func192, Tryz.ntmps192
  go_wp2_with fail
  go_loopw [8] (fun iv wr => iv = .int .i64 1 ∧ Q w wr) (fun _ _ => 0)
  case atStart => exact ⟨rfl, Q.refl _⟩
  case round =>
    obtain ⟨rfl, q⟩ := hrel
    obtain ⟨wq, rfl⟩ : ∃ wq : World, wq = wr := ⟨_, rfl⟩
    go_wp2_with fail
    go_end0
    exact ⟨rfl, q⟩
set_option maxRecDepth 100000 in
set_option maxHeartbeats 600000 in
theorem pdq_0 (n : Int) (f : Value) (w : World) : Calls Tryz.prog 172 #[.slice none 0 0, .int .i64 0, .int .i64 0, .int .i64 n, f] w fun e w' => e = .returned (.tuple #[]) ∧ Q w w' := by
  go_enter Tryz.func172, Tryz.ntmps172
  go_wp2_with fail
  go_loopw [1, 2] (fun av bv wr => av = .int .i64 0 ∧ bv = .int .i64 0 ∧ Q w wr) (fun _ _ _ => 0)
  case atStart => exact ⟨rfl, rfl, Q.refl _⟩
  case round =>
    obtain ⟨rfl, rfl, q⟩ := hrel
    obtain ⟨wq, rfl⟩ : ∃ wq : World, wq = wr := ⟨_, rfl⟩
    go_wp2_with fail
    refine (ins_0 f _).mono ?_
    rintro e w1 ⟨rfl, q1⟩
    go_wp2_with fail
    refine bodyPost_ret (results_none rfl _ _ _) rfl ?_
    exact ⟨rfl, q.trans q1⟩
set_option maxHeartbeats 600000 in
theorem sort_0 (f : Value) (w : World) : Calls Tryz.prog 140 #[.slice none 0 0, f] w fun e w' => e = .returned (.tuple #[]) ∧ Q w w' := by
  go_enter Tryz.func140, Tryz.ntmps140
  go_wp2_with fail
  refine (len_0 w).mono ?_
  rintro e w1 ⟨rfl, q1⟩
  go_wp2_with fail
  refine (pdq_0 _ f _).mono ?_
  rintro e w2 ⟨rfl, q2⟩
  go_wp2_with fail
  go_end0
  exact ⟨rfl, q1.trans q2⟩
theorem run_range_e (w : World) (m : Nat) (h : EmM w m) : (Instr.range 163 (.map (some m))).run Tryz.prog w = .ok (.pointer (some ⟨w.heap.size, 0, none⟩)) (w.alloc (.mapIter (some m) 0 #[] 0)) :=
  run_range_map w _ _ _ m #[] 0 Tryz.underlying163 h
theorem run_next_e (w : World) (m : Nat) (h : EmM w m) (ty : TypeId) : (Instr.next (.pointer (some ⟨w.heap.size, 0, none⟩)) false ty).run Tryz.prog (w.alloc (.mapIter (some m) 0 #[] 0)) = .ok (.tuple #[.bool false]) (w.alloc (.mapIter (some m) 0 #[] 0)) := by
  rcases run_next_map (P := Tryz.prog) w ty m 0 0 #[] #[] 0 h (fun x hx => by simp at hx) (Nat.le_refl _) with h | ⟨e, he, -⟩
  · exact h.2
  · simp [leftOf] at he
set_option maxHeartbeats 600000 in
theorem pick_0 (c m : Nat) (f : Value) (w : World) (h : CiE w c m) : Calls Tryz.prog 102 #[.pointer (some ⟨c, 0, none⟩), f] w fun e w' => e = .returned (.slice none 0 0) ∧ New w w' := by
  have c2 := h.cell
  have hr := run_range_e w m h.em
  have hn := run_next_e w m h.em
  go_enter Tryz.func102, Tryz.ntmps102
  go_wp2_with fail
  have n0 : New w (w.alloc (.mapIter (some m) 0 #[] 0)) := (Upd.refl _ _).alloc _
  obtain ⟨B, hB⟩ : ∃ B, B = w.heap.size := ⟨_, rfl⟩
  rw [← hB] at hn ⊢
  obtain ⟨w1, h1⟩ : ∃ w1, w1 = w.alloc (.mapIter (some m) 0 #[] 0) := ⟨_, rfl⟩
  rw [← h1] at hn n0 ⊢
  clear hr c2 h h1 hB
  go_loopw [5] (fun lv wr => lv = .slice none 0 0 ∧ wr = w1) (fun _ _ => 0)
  case atStart => exact ⟨rfl, rfl⟩
  case round =>
    obtain ⟨rfl, rfl⟩ := hrel
    go_wp2_with fail
    refine (sort_0 _ _).mono ?_
    rintro e w2 ⟨rfl, q2⟩
    go_wp2_with fail
    go_ret
    exact ⟨rfl, n0.trans (q2.upd _)⟩
set_option maxHeartbeats 600000 in
theorem all_0 (c m : Nat) (w : World) (h : CiE w c m) : Calls Tryz.prog 74 #[.pointer (some ⟨c, 0, none⟩)] w fun e w' => e = .returned (.slice none 0 0) ∧ New w w' := by
  go_enter Tryz.func74, Tryz.ntmps74
  go_wp2_with fail
  refine (pick_0 c m _ w h).mono ?_
  rintro e w1 ⟨rfl, n1⟩
  go_wp2_with fail
  go_ret
  exact ⟨rfl, n1⟩
end Go.Proofs.YtainkaojnhfldaaGreatDoor
namespace Go.Proofs.YtainkaojnhfldaaGreatDoor
open Go.RowKit

set_option maxHeartbeats 600000 in
theorem circuits_0 (r : Nat) (R : RelV) (m0 : Nat) (w : World) (hR : ReR w r R) (h : CiE w R.ci m0) : Calls Tryz.prog 47 #[.pointer (some ⟨r, 0, none⟩)] w fun e w' => e = .returned (.slice none 0 0) ∧ New w w' := by
  have c0 : w.cell? ⟨r, 0, none⟩ = some (.pointer (some ⟨R.ci, 0, none⟩)) := blk_cell hR 0
  have ha := all_0 R.ci m0 w h
  clear h hR
  go_enter Tryz.func47, Tryz.ntmps47
  go_wp2_with fail
  refine ha.mono ?_
  rintro e w1 ⟨rfl, n1⟩
  go_wp2_with fail
  go_ret
  exact ⟨rfl, n1⟩
def RelV.drain (R : RelV) : RelV := { R with drains := true }
def NodeV.drain (N : NodeV) : NodeV := { N with drains := true }
theorem rdrain_any (r : Nat) (R : RelV) (w : World) (hR : ReR w r R) : Calls Tryz.prog 48 #[.pointer (some ⟨r, 0, none⟩)] w fun e w' => e = .returned (.tuple #[]) ∧ ReR w' r R.drain ∧ Upd (· = r) w w' := by
  have f6 := blk_free hR 6
  have d6 := blk_cell hR 6
  have hst : ReR (w.setCell ⟨r, 6, none⟩ (.bool true)) r R.drain := blk_set hR 6 (.bool true)
  have u : Upd (· = r) w (w.setCell ⟨r, 6, none⟩ (.bool true)) := (Upd.refl _ _).set1 _ _
  have HQ := hide (And.intro hst u)
  clear hR hst u
  simp [RelV.cells] at d6
  go_enter Tryz.func48, Tryz.ntmps48
  go_wp2_with fail
  go_end0
  exact ⟨rfl, (unhide HQ).1, (unhide HQ).2⟩
set_option maxHeartbeats 600000 in
theorem ndrain_twice (g : Nat) (N : NodeV) (w : World) (hN : NoR w g N) (hd : N.drains = true) : Calls Tryz.prog 21 #[.pointer (some ⟨g, 0, none⟩)] w (Reads (.int .i64 4) w) := by
  have c2 : w.cell? ⟨g, 2, none⟩ = some (.bool true) := hd ▸ blk_cell hN 2
  clear hN
  go_enter Tryz.func21, Tryz.ntmps21
  go_wp2_with fail
  go_ret
  exact ⟨rfl, Q.refl _⟩
set_option maxHeartbeats 600000 in
theorem ndrain_any (g : Nat) (N : NodeV) (R : RelV) (w : World) (hN : NoR w g N) (hR : ReR w N.re R) (hd : N.drains = false) : Calls Tryz.prog 21 #[.pointer (some ⟨g, 0, none⟩)] w fun e w' => e = .returned (.int .i64 0) ∧ NoR w' g N.drain ∧ ReR w' N.re R.drain ∧ Upd (fun i => i = g ∨ i = N.re) w w' := by
  have hgr : g ≠ N.re := apart_ty' hN hR (by decide)
  have c0 : w.cell? ⟨g, 0, none⟩ = some (.pointer (some ⟨N.re, 0, none⟩)) := blk_cell hN 0
  have c2 : w.cell? ⟨g, 2, none⟩ = some (.bool false) := hd ▸ blk_cell hN 2
  have f2 := blk_free hN 2
  have hst : NoR (w.setCell ⟨g, 2, none⟩ (.bool true)) g N.drain := blk_set hN 2 (.bool true)
  have u : Upd (· = g) w (w.setCell ⟨g, 2, none⟩ (.bool true)) := (Upd.refl _ _).set1 _ _
  have hR1 : ReR (w.setCell ⟨g, 2, none⟩ (.bool true)) N.re R := u.old hR (fun e => hgr e.symm)
  have hc := rdrain_any N.re R _ hR1
  have HQ := hide (And.intro hst u)
  clear hN hst u hR hR1
  go_enter Tryz.func21, Tryz.ntmps21
  go_wp2_with fail
  refine hc.mono ?_
  rintro e w1 ⟨rfl, hR2, u2⟩
  have hq := unhide HQ
  have hN2 : NoR w1 g N.drain := u2.old hq.1 hgr
  have hu := (hq.2.mono (fun i _ (e : i = g) => Or.inl (b := i = N.re) e)).trans (u2.mono (fun i _ (e : i = N.re) => Or.inr e))
  have HF := hide (And.intro hN2 (And.intro hR2 hu))
  clear hc HQ hq hN2 u2 hR2 hu c0 c2 f2
  go_wp2_with fail
  go_ret
  exact ⟨rfl, unhide HF⟩
set_option maxRecDepth 100000 in
set_option maxHeartbeats 1000000 in
theorem done_any (g : Nat) (N : NodeV) (R : RelV) (ch : Int) (k : Nat) (S : Nat → Prop) (L : Lk) (m m0 : Nat) (w : World) (hN : NodS w g N R ch k S L m) (hci : CiE w R.ci m0) :
    Calls Tryz.prog 20 #[.pointer (some ⟨g, 0, none⟩)] w fun e w' => e = .returned (.bool (L.c.xs.isEmpty && N.drains)) ∧ New w w' := by
  obtain ⟨lv, cv, hI, hC, -, -, -, -, hok⟩ := hN.toI
  have c0 : w.cell? ⟨g, 0, none⟩ = some (.pointer (some ⟨N.re, 0, none⟩)) := blk_cell hN.no 0
  have c2 : w.cell? ⟨g, 2, none⟩ = some (.bool N.drains) := blk_cell hN.no 2
  have hmany := many_any N.re R [⟨ch, k, lv, cv⟩] w hI.re
  have hlk := fun W (n : New w W) => link_at N.re R [⟨ch, k, lv, cv⟩] W (hI.re.new n) (by simp) 0 ⟨ch, k, lv, cv⟩ rfl
  have hch := fun W (n : New w W) => chan_any k lv W ((hI.re.new n).links _ (List.mem_singleton.2 rfl)).1
  have hlv := fun W (n : New w W) => live_any lv.en cv L.c.xs (by have := hok.few; omega) W (hC.new n)
  have hcs := fun W (n : New w W) => circuits_0 N.re R m0 W (n.old hN.re (fun h => h)) (hci.new n)
  generalize hxs : L.c.xs = xs at hlv ⊢
  clear hI hC hok hxs hci hN
  go_enter Tryz.func20, Tryz.ntmps20
  go_wp2_with (with_reducible first | (first | refine' tw1 (ido ?_) ?_ | refine' tw2 (ido ?_) ?_); rotate_left | refine' tw3 (ido ?_) | rfl | apply tn | refine' tw4 ?_)
  refine hmany.mono ?_
  rintro e w1 ⟨rfl, q1⟩
  have N1 := hide (q1.upd (fun _ => False))
  clear hmany q1
  go_wp2_with (with_reducible first | (first | refine' tw1 (ido ?_) ?_ | refine' tw2 (ido ?_) ?_); rotate_left | refine' tw3 (ido ?_) | rfl | apply tn | refine' tw4 ?_)
  go_loopw [9] (fun iv wr => (iv = .int .i64 0 ∨ (iv = .int .i64 1 ∧ xs = [])) ∧ New w wr) (fun iv _ => 1 - (intOf iv).toNat)
  case atStart => exact ⟨.inl rfl, unhide N1⟩
  case round =>
    obtain ⟨hc, n⟩ := hrel
    obtain ⟨wq, rfl⟩ : ∃ wq : World, wq = wr := ⟨_, rfl⟩
    rcases hc with rfl | ⟨rfl, hx⟩
    · have HN := hide n
      have hlkw := hlk wq n
      have d0 := n.cell c0 (fun h => h)
      clear n N1
      go_wp2_with (with_reducible first | (first | refine' tw1 (ido ?_) ?_ | refine' tw2 (ido ?_) ?_); rotate_left | refine' tw3 (ido ?_) | rfl | apply tn | refine' tw4 ?_)
      refine hlkw.mono ?_
      rintro e w2 ⟨rfl, q2⟩
      have n2 := (unhide HN).trans (q2.upd (fun _ => False))
      have hchw := hch w2 n2
      clear hlkw HN q2 d0
      have HN := hide n2
      clear n2
      go_wp2_with (with_reducible first | (first | refine' tw1 (ido ?_) ?_ | refine' tw2 (ido ?_) ?_); rotate_left | refine' tw3 (ido ?_) | rfl | apply tn | refine' tw4 ?_)
      refine hchw.mono ?_
      rintro e w3 ⟨rfl, q3⟩
      have n3 := (unhide HN).trans (q3.upd (fun _ => False))
      have hlvw := hlv w3 n3
      clear hchw HN q3
      have HN := hide n3
      clear n3
      go_wp2_with (with_reducible first | (first | refine' tw1 (ido ?_) ?_ | refine' tw2 (ido ?_) ?_); rotate_left | refine' tw3 (ido ?_) | rfl | apply tn | refine' tw4 ?_)
      refine hlvw.mono ?_
      rintro e w4 ⟨u, rfl, n4, hu⟩
      have n5 := (unhide HN).trans n4
      clear hlvw HN n4
      have HN := hide n5
      clear n5
      rcases hu with ⟨a, kk, rfl, hx⟩ | ⟨g', cap, rfl, -, -⟩
      · go_wp2_with (with_reducible first | (first | refine' tw1 (ido ?_) ?_ | refine' tw2 (ido ?_) ?_); rotate_left | refine' tw3 (ido ?_) | rfl | apply tn | refine' tw4 ?_)
        go_roundw
        case rel => exact ⟨.inr ⟨rfl, hx⟩, unhide HN⟩
        case measure => simp [intOf]
      · cases hx : xs with
        | nil =>
          go_wp2_with (with_reducible first | (first | refine' tw1 (ido ?_) ?_ | refine' tw2 (ido ?_) ?_); rotate_left | refine' tw3 (ido ?_) | rfl | apply tn | refine' tw4 ?_)
          go_roundw
          case rel => exact ⟨.inr ⟨rfl, hx⟩, unhide HN⟩
          case measure => simp [intOf]
        | cons y ys =>
          have hp : (0 : Int) < (((y :: ys).length : Nat) : Int) := by simp
          go_wp2_with (with_reducible first | (first | refine' tw1 (ido ?_) ?_ | refine' tw2 (ido ?_) ?_); rotate_left | refine' tw3 (ido ?_) | rfl | apply tn | refine' tw4 ?_)
          go_ret
          rw [hx]
          exact ⟨rfl, unhide HN⟩
    · have HN := hide n
      have hcsw := hcs wq n
      have d0 := n.cell c0 (fun h => h)
      have d2 := n.cell c2 (fun h => h)
      subst hx
      clear n N1
      cases hd : N.drains with
      | false =>
        rw [hd] at d2
        go_wp2_with (with_reducible first | (first | refine' tw1 (ido ?_) ?_ | refine' tw2 (ido ?_) ?_); rotate_left | refine' tw3 (ido ?_) | rfl | apply tn | refine' tw4 ?_)
        go_ret
        exact ⟨rfl, unhide HN⟩
      | true =>
        rw [hd] at d2
        go_wp2_with (with_reducible first | (first | refine' tw1 (ido ?_) ?_ | refine' tw2 (ido ?_) ?_); rotate_left | refine' tw3 (ido ?_) | rfl | apply tn | refine' tw4 ?_)
        refine hcsw.mono ?_
        rintro e w2 ⟨rfl, n2⟩
        have n3 := (unhide HN).trans n2
        have HF := hide n3
        clear n3 n2 HN hcsw d0 d2
        go_wp2_with (with_reducible first | (first | refine' tw1 (ido ?_) ?_ | refine' tw2 (ido ?_) ?_); rotate_left | refine' tw3 (ido ?_) | rfl | apply tn | refine' tw4 ?_)
        go_ret
        exact ⟨by rw [hd]; rfl, unhide HF⟩
end Go.Proofs.YtainkaojnhfldaaGreatDoor
namespace Go.Proofs.YtainkaojnhfldaaGreatDoor
open Go.RowKit

/-- The first Open, the circuits told too. -/
theorem open_one2 (w0 w : World) (g r B : Nat) (f c a b : Int) (R : RelV) (m0 m4 : Nat) (hn : NoR w g (.new r f)) (hR : NewR w B r R) (hci : CiE w R.ci m0) (hp0 : R.payments = mapV m4) (hm04 : m0 < m4) (hB : w0.heap.size ≤ B) (hr : w0.heap.size ≤ r) (hg : w0.heap.size ≤ g) (n0 : New w0 w) (hs : (SetupV.of c a b).Ok) (hm : (SetupV.of c a b).may) (hf : 0 ≤ f ∧ f < 18446744073709551616) (hb : b ≤ f) :
    Calls Tryz.prog 9 #[.pointer (some ⟨g, 0, none⟩), .agg (SetupV.of c a b).cells.toArray] w fun e w' =>
      e = .returned (.tuple #[.int .i64 0, .int .i64 0]) ∧ ∃ R' k S m, NodS w' g { NodeV.new r f with funds := f - b } R' c k S (.new (Ch.new (.of c a b))) m ∧ R'.drains = false ∧ EmM w' m ∧ (∀ i, S i → w0.heap.size ≤ i) ∧ New w0 w' ∧ w0.heap.size ≤ m ∧ CiE w' R'.ci m0 ∧ ¬ S R'.ci ∧ ¬ S m0 ∧ m0 ≠ m := by
  obtain ⟨m1, m2, m3, m4', -, -, -, hp4, -, -, -, he4, l1, l2, l3, l4, l5⟩ := hR.maps
  obtain rfl : m4 = m4' := by
    rw [hp0] at hp4
    unfold mapV at hp4
    injection hp4 with hp4
    injection hp4
  have hE : openErr (.new r f) R [] (.of c a b) = 0 := openErr_ok rfl hR.drains (by show 0 < 8; decide) (fun p hp => by cases hp) hm hb
  have hQ : openRes (.new r f) R [] (.of c a b) = 0 := by unfold openRes; rw [if_pos hE]; rfl
  have hI := newNode_I hn hR
  refine (open_any g (.new r f) R [] (.of c a b) hs w hI (by show 0 ≤ _; omega) hf).mono ?_
  rintro e w' ⟨rfl, -, h2⟩
  obtain ⟨v, k, l, hL, hN, u⟩ := h2 hE
  rw [hE, hQ]
  have hpe : R.peers.ownBlock = none := by rw [hR.peers]; rfl
  have hm4 : ¬ (m4 = g ∨ m4 = r ∨ R.peers.ownBlock = some m4) := by
    rintro (e | e | e)
    · exact ne_map hn he4 e.symm
    · omega
    · rw [hpe] at e; cases e
  have hm0 : ¬ (m0 = g ∨ m0 = r ∨ R.peers.ownBlock = some m0) := by
    rintro (e | e | e)
    · exact ne_map hn hci.em e.symm
    · omega
    · rw [hpe] at e; cases e
  have hc0 : ¬ (R.ci = g ∨ R.ci = r ∨ R.peers.ownBlock = some R.ci) := by
    obtain ⟨a, b, m2, h1⟩ := hci.at_
    rintro (e | e | e)
    · exact apart_ty' h1 hn (by decide) e
    · exact apart_ty' h1 hR.at_ (by decide) e
    · rw [hpe] at e; cases e
  have he' : EmM w' m4 := u.old he4 hm4
  have hci' : CiE w' R.ci m0 := hci.upd u hc0 hm0
  have hcl := hci.lt
  have hz := u.size
  have hml := blk_lt he4
  have hge : ∀ i, (i = k ∨ i = l.sp ∨ i = l.en ∨ i = l.lo) → w.heap.size ≤ i := by
    have := hL.ge
    rintro i (e | e | e | e) <;> omega
  have hgl := blk_lt hn
  have hrl := hR.lt
  have n0z := n0.size
  refine ⟨rfl, { R with peers := v }, k, _, m4, ⟨hN.at_, hN.re.at_, hN.re.row, hL.whole hs hm, hN.re.bsle, hp4, ?_, ?_, ?_, ?_, by omega⟩, hR.drains, he', fun i hi => by have := hge i hi; omega, ?_, by omega, hci', ?_, ?_, by omega⟩
  · intro e
    have := hge g e
    omega
  · intro e
    have := hge _ e
    have hrl : r < w.heap.size := hrl
    have : w.heap.size ≤ r := this
    omega
  · intro b hb' e
    obtain ⟨cur, hc⟩ := own_blk' hN.re.row b hb'
    rcases e with e | e | e | e
    · exact apart_ty' hc hL.lk (by decide) e
    · exact apart_ty' hc hL.sp (by decide) e
    · exact apart_ty' hc hL.ch.at_ (by decide) e
    · exact apart_ty' hc hL.jo (by decide) e
  · intro e
    have := hge _ e
    omega
  · refine n0.then u ?_
    rintro i hi (e | e | e)
    · omega
    · have e : i = r := e
      omega
    · rw [hpe] at e; cases e
  · intro e
    have := hge _ e
    have h2 : R.ci < w.heap.size := hcl.1
    have h3 : w.heap.size ≤ R.ci := this
    omega
  · intro e
    have := hge _ e
    omega

section
variable {w w' : World} {g : Nat} {N : NodeV} {R : RelV} {ch : Int} {k : Nat} {S : Nat → Prop} {L : Lk} {m : Nat}
theorem NodS.drained (h : NodS w g N R ch k S L m) (h1 : NoR w' g N.drain) (h2 : ReR w' N.re R.drain) (u : Upd (fun i => i = g ∨ i = N.re) w w') : NodS w' g N.drain R.drain ch k S L m := by
  refine ⟨h1, h2, row_upd' h.row u (fun b hb e => ?_), h.lk.upd u (fun i hi e => e.elim (fun e => h.gS (e ▸ hi)) (fun e => h.rS (e ▸ hi))), Nat.le_trans h.bsle u.size, h.pay, h.gS, h.rS, h.bS, h.mS, Nat.lt_of_lt_of_le h.mlt u.size⟩
  obtain ⟨cur, hc⟩ := own_blk' h.row b hb
  rcases e with e | e
  · exact apart_ty' hc h.no (by decide) e
  · exact apart_ty' hc h.re (by decide) e
end
attribute [local go_sem ↓ high] ld_hsh_fold st_hsh_fold al_hsh_fold
attribute [local go_sem] ld_hsh st_hsh al_hsh rowN_drew
set_option maxRecDepth 100000 in
set_option maxHeartbeats 1000000 in
theorem rpay_drained (r : Nat) (R : RelV) (pt n x : Int) (h : List Int) (w : World) (hR : ReR w r R) (hd : R.drains = true) (hl : h.length = 32) :
    Calls Tryz.prog 32 #[.pointer (some ⟨r, 0, none⟩), .int .i64 pt, .int .u64 n, .agg (hshV h).toArray, .int .i64 x] w fun e w' => e = .returned (.tuple #[.int .u64 0, .int .i64 200]) ∧ New w w' := by
  have c6 : w.cell? ⟨r, 6, none⟩ = some (.bool true) := hd ▸ blk_cell hR 6
  clear hR
  go_enter Tryz.func32, Tryz.ntmps32
  go_upto_region 1 with fail
  have n1 : New w (w.alloc (.cells (hshV h).toArray 32)) := (Upd.refl _ _).alloc _
  generalize w.alloc (.cells (hshV h).toArray 32) = w1 at n1 ⊢
  generalize w.heap.size = B
  replace c6 := n1.cell c6 (fun h => h)
  have N1 := hide n1
  clear n1
  go_wp2_with fail
  go_ret2
  exact ⟨rfl, unhide N1⟩
set_option maxRecDepth 100000 in
set_option maxHeartbeats 2000000 in
theorem npay_drained (g : Nat) (N : NodeV) (R : RelV) (n x : Int) (h : List Int) (b : Bool) (w : World) (hN : NoR w g N) (hR : ReR w N.re R) (hb : N.shut[0]? = some b) (hd : R.drains = true) (hl : h.length = 32) :
    Calls Tryz.prog 11 #[.pointer (some ⟨g, 0, none⟩), .int .i64 0, .int .u64 n, .agg (hshV h).toArray, .int .i64 x] w fun e w' => e = .returned (.tuple #[.int .u64 0, .int .i64 200]) ∧ New w w' := by
  have c0 : w.cell? ⟨g, 0, none⟩ = some (.pointer (some ⟨N.re, 0, none⟩)) := blk_cell hN 0
  have c3 : w.cell? ⟨g, 3, none⟩ = some (.bool b) := by
    rw [blk_cell hN 3, List.getElem?_toArray]
    exact node_shut N 0 b hb
  go_enter Tryz.func11, Tryz.ntmps11
  go_upto_region 1 with fail
  have n1 : New w (w.alloc (.cells (hshV h).toArray 32)) := (Upd.refl _ _).alloc _
  have r1 : rowN (w.alloc (.cells (hshV h).toArray 32)) w.heap.size 0 32 = some (hshV h).toArray := rowN_whole (blk_alloc _ _) 32 (by rw [List.size_toArray, hshV_len, hl])
  generalize w.alloc (.cells (hshV h).toArray 32) = w1 at n1 r1 ⊢
  generalize w.heap.size = B at r1 ⊢
  replace c0 := n1.cell c0 (fun h => h)
  replace c3 := n1.cell c3 (fun h => h)
  have nd := n1.drew
  have hcall := rpay_drained N.re R 0 n x h w1.drew (nd.old hR (fun h => h)) hd hl
  have N1 := hide n1
  clear n1 nd hN hR hb
  go_wp2_with (with_reducible first | (first | refine' tw1 (ido ?_) ?_ | refine' tw2 (ido ?_) ?_); rotate_left | refine' tw3 (ido ?_) | rfl | apply tn | refine' tw4 ?_)
  refine hcall.mono ?_
  rintro e w2 ⟨rfl, n2⟩
  have n2 := n2.ofDrew
  replace c3 := n2.cell c3 (fun h => h)
  have N2 := hide ((unhide N1).trans n2)
  clear hcall n2 N1 c0 r1
  cases b with
  | true =>
    go_wp2_with (with_reducible first | (first | refine' tw1 (ido ?_) ?_ | refine' tw2 (ido ?_) ?_); rotate_left | refine' tw3 (ido ?_) | rfl | apply tn | refine' tw4 ?_)
    go_ret2
    exact ⟨rfl, unhide N2⟩
  | false =>
    go_wp2_with (with_reducible first | (first | refine' tw1 (ido ?_) ?_ | refine' tw2 (ido ?_) ?_); rotate_left | refine' tw3 (ido ?_) | rfl | apply tn | refine' tw4 ?_)
    go_ret2
    exact ⟨rfl, unhide N2⟩
/-- What is told of a node that drains. -/
structure Drained (w : World) (g : Nat) (x : RowV) (b : Bool) (f : Int) : Prop where
  lists : Lists w g x
  op : ∀ W, New w W → Calls Tryz.prog 9 #[.pointer (some ⟨g, 0, none⟩), .agg (SetupV.of 2 10 0).cells.toArray] W fun e w' => e = .returned (.tuple #[.int .i64 0, .int .i64 200]) ∧ New W w'
  pay : ∀ W, New w W → Calls Tryz.prog 11 #[.pointer (some ⟨g, 0, none⟩), .int .i64 0, .int .u64 1, .agg (hshV z32i).toArray, .int .i64 9] W fun e w' => e = .returned (.tuple #[.int .u64 0, .int .i64 200]) ∧ New W w'
  twice : ∀ W, New w W → Calls Tryz.prog 21 #[.pointer (some ⟨g, 0, none⟩)] W (Reads (.int .i64 4) W)
  done : ∀ W, New w W → Calls Tryz.prog 20 #[.pointer (some ⟨g, 0, none⟩)] W fun e w' => e = .returned (.bool b) ∧ New W w'
  funds : ∀ W, New w W → Calls Tryz.prog 22 #[.pointer (some ⟨g, 0, none⟩)] W (Reads (.int .u64 f) W)
theorem NodS.told {w : World} {g : Nat} {N : NodeV} {R : RelV} {ch : Int} {k : Nat} {S : Nat → Prop} {L : Lk} {m m0 : Nat} {x : RowV} (h : NodS w g N.drain R.drain ch k S L m) (hci : CiE w R.ci m0) (hl : Lists w g x) (b : Bool) (hb : N.shut[0]? = some b) (hf : 0 ≤ N.funds ∧ N.funds < 18446744073709551616) : Drained w g x L.c.xs.isEmpty N.funds := by
  refine ⟨hl, fun W n => ?_, fun W n => npay_drained g N.drain R.drain 1 9 z32i b W (n.old h.no (fun h => h)) (n.old h.re (fun h => h)) hb rfl z32i_len, fun W n => ndrain_twice g N.drain W (n.old h.no (fun h => h)) rfl, fun W n => ?_, fun W n => funds_any g N.drain W (n.old h.no (fun h => h))⟩
  · obtain ⟨lv, cv, hI, -⟩ := (h.new n).toI
    have hE : openErr N.drain R.drain [⟨ch, k, lv, cv⟩] (.of 2 10 0) = 200 := by unfold openErr; exact if_pos rfl
    have hQ : openRes N.drain R.drain [⟨ch, k, lv, cv⟩] (.of 2 10 0) = 0 := by unfold openRes; rw [hE]; rfl
    refine (open_any g N.drain R.drain [⟨ch, k, lv, cv⟩] (.of 2 10 0) (of_ok 2 10 0 (by decide) (by decide) (by decide)) W hI (by simp) hf).mono ?_
    rintro e w' ⟨rfl, h1, -⟩
    rw [hE, hQ]
    exact ⟨rfl, h1 (by rw [hE]; decide)⟩
  · refine (done_any g N.drain R.drain ch k S L m m0 W (h.new n) (hci.new n)).mono ?_
    rintro e w' ⟨rfl, n1⟩
    refine ⟨?_, n1⟩
    show _ = Ending.returned (.bool _)
    congr 2
    exact Bool.and_true _
end Go.Proofs.YtainkaojnhfldaaGreatDoor
