/-
  What a link can bear behind what it says; messages that may be.
-/
import Derived.Test.YtainkaojnhfldaaGreatDoorLk9
import Derived.Test.YtainkaojnhfldaaGreatDoorMei
import Derived.Test.YtainkaojnhfldaaGreatDoorMcf
import Derived.Test.YtainkaojnhfldaaGreatDoorNp2
import Derived.Test.YtainkaojnhfldaaGreatDoorEqF
set_option linter.unusedVariables false
set_option linter.unusedSimpArgs false
namespace Go.Proofs.YtainkaojnhfldaaGreatDoor
open Go.RowKit

theorem may_addN {c i a e : Int} (h : List Int) (ha : a ≤ 1125899906842624) (he : 0 ≤ e ∧ e ≤ 1073741824) : mayMsg ⟨3, c, i, a, h, e, 0⟩ = true := by
  unfold mayMsg
  show (if e < 0 ∨ 1073741824 < e ∨ (0 : Int) < 0 ∨ 65535 < (0 : Int) ∨ 1125899906842624 < a then false else decide (zeros _ _ = kindMsg 3)) = true
  rw [if_neg (by omega)]
  kernel_rfl
theorem may_shutN (c : Int) : mayMsg ⟨8, c, 0, 0, z32i, 0, 0⟩ = true := by kernel_rfl
theorem sayOk_mk {k c i a e n : Int} {h : List Int} (hk : 0 ≤ k ∧ k < 256) (hc : 0 ≤ c ∧ c < 4294967296) (hi : 0 ≤ i ∧ i < 18446744073709551616) (ha : 0 ≤ a ∧ a ≤ 1125899906842624) (hl : h.length = 32) (hb : ∀ b ∈ h, 0 ≤ b ∧ b ≤ 255) (he : 0 ≤ e ∧ e ≤ 1073741824) (hn : 0 ≤ n ∧ n ≤ 65535) (hm : mayMsg ⟨k, c, i, a, h, e, n⟩ = true) : SayOk ⟨k, c, i, a, h, e, n⟩ := by
  refine ⟨⟨⟨?_, hc, hi, ⟨ha.1, ?_⟩, hl, hb, ?_, ?_⟩, ⟨he.1, ?_⟩, ⟨hn.1, ?_⟩⟩, hm, hk⟩
  · show -9223372036854775808 ≤ k ∧ k ≤ 9223372036854775807
    omega
  · show a < 18446744073709551616
    omega
  · show -9223372036854775808 ≤ e ∧ e ≤ 9223372036854775807
    omega
  · show -9223372036854775808 ≤ n ∧ n ≤ 9223372036854775807
    omega
  · show e < 4294967296
    omega
  · show n < 65536
    omega
theorem offer_mlen (c : Ch) (n : Int) (h : Vector Int 32) (x : Int) : (c.offer n h x).2.1.hash.length = 32 := by
  unfold Ch.offer
  split
  · show h.toList.length = 32
    simp
  · exact z32i_len
theorem offer_say {c : Ch} {n x : Int} {h : List Int} (hl : h.length = 32) (hb : Bytes h) (hch : 0 ≤ c.s.ch ∧ c.s.ch < 4294967296) (hid : 0 ≤ c.k.nextOwn ∧ c.k.nextOwn < 18446744073709551616) (hn : 0 ≤ n ∧ n ≤ 1125899906842624) (hx : 0 ≤ x ∧ x ≤ 1073741824) (h0 : (c.offer n (hvec h) x).2.2 = 0) : SayOk (c.offer n (hvec h) x).2.1 := by
  unfold Ch.offer at h0 ⊢
  split at h0
  · rename_i he
    rw [if_pos he]
    have e : ((offerMsg c n (hvec h) x).on c.s.ch : MsgV) = ⟨3, c.s.ch, c.k.nextOwn, n, h, x, 0⟩ := by
      unfold offerMsg MsgV.on
      rw [hvec_list hl]
    show SayOk ((offerMsg c n (hvec h) x).on c.s.ch)
    rw [e]
    exact sayOk_mk (by decide) hch hid hn hl hb hx (by decide) (may_addN h hn.2 hx)
  · rename_i he
    exact absurd h0 he
theorem offer_err (c : Ch) (n : Int) (h : Vector Int 32) (x : Int) : (c.offer n h x).2.2 = offerErr c n x := by
  unfold Ch.offer
  split
  · rename_i he; exact he.symm
  · rfl
theorem offerErr_ne (c : Ch) (n x : Int) : offerErr c n x ≠ 200 := by
  unfold offerErr
  repeat' split
  all_goals decide
theorem shut_mlen (c : Ch) : c.shut.2.1.hash.length = 32 := by
  unfold Ch.shut
  split <;> exact z32i_len
theorem shut_say {c : Ch} (hch : 0 ≤ c.s.ch ∧ c.s.ch < 4294967296) (h0 : c.shut.2.2 = 0) : SayOk c.shut.2.1 := by
  unfold Ch.shut at h0 ⊢
  split at h0
  · cases h0
  · rename_i he
    rw [if_neg he]
    exact sayOk_mk (k := 8) (i := 0) (a := 0) (e := 0) (n := 0) (by decide) hch (by decide) (by decide) z32i_len z32i_bytes (by decide) (by decide) (may_shutN _)
/-- A link that has said at most n messages since it was new. -/
structure LkB (l : Lk) (n : Nat) : Prop where
  dead : l.dead = false
  waits : l.waits = false
  fused : l.j.fused = false
  off : l.j.off = false
  many : 0 ≤ l.j.many ∧ l.j.many ≤ n
  len : l.j.bs.size ≤ 2000 * n
  out : l.out.size ≤ 2000 * n
theorem LkB.ok {l : Lk} {n : Nat} (h : LkB l n) (hn : n ≤ 100000000) : LkOk l := ⟨h.dead, h.waits, h.fused, h.off, ⟨h.many.1, by have := h.many.2; omega⟩, by have := h.len; omega, by have := h.out; omega⟩
theorem LkB.mono {l : Lk} {n m : Nat} (h : LkB l n) (hn : n ≤ m) : LkB l m := ⟨h.dead, h.waits, h.fused, h.off, ⟨h.many.1, by have := h.many.2; omega⟩, by have := h.len; omega, by have := h.out; omega⟩
theorem LkB.new (c : Ch) : LkB (.new c) 0 := ⟨rfl, rfl, rfl, rfl, ⟨Int.le_refl _, Int.le_refl _⟩, Nat.le_refl _, Nat.le_refl _⟩
theorem LkB.acts {l : Lk} {n : Nat} (h : LkB l n) {c' : Ch} {rec : ByteArray} {m : MsgV} {er : Int} (hr : rec.size ≤ 1024) (hs : er = 0 → SayOk m) : LkB (l.acts c' rec m er) (n + 1) := by
  unfold Lk.acts
  split
  · rename_i he
    have hz := (hs he).size
    have hp := putI_size l.j.many.toNat rec
    have h1 := h.len
    have h2 := h.out
    have h3 := h.many
    refine ⟨h.dead, h.waits, h.fused, h.off, ⟨?_, ?_⟩, ?_, ?_⟩
    · show 0 ≤ l.j.many + 1
      omega
    · show l.j.many + 1 ≤ ((n + 1 : Nat) : Int)
      omega
    · show (l.j.bs ++ putI l.j.many.toNat rec).size ≤ _
      rw [ByteArray.size_append]
      omega
    · show (l.out ++ sayS m).size ≤ _
      rw [ByteArray.size_append]
      omega
  · have := h.mono (Nat.le_succ n)
    exact ⟨this.dead, this.waits, this.fused, this.off, this.many, this.len, this.out⟩
theorem LkB.offers {l : Lk} {n : Nat} (h : LkB l n) {a x : Nat} {hh : List Int} (hl : hh.length = 32) (hs : (l.c.offer a (hvec hh) x).2.2 = 0 → SayOk (l.c.offer a (hvec hh) x).2.1) : LkB (l.offers a x hh) (n + 1) := h.acts (join4_size hl) hs
theorem LkB.shut {l : Lk} {n : Nat} (h : LkB l n) (hs : l.c.shut.2.2 = 0 → SayOk l.c.shut.2.1) : LkB l.shut (n + 1) := h.acts (by rw [numS_size]; decide) hs
theorem acts_c {l : Lk} {c' : Ch} {rec : ByteArray} {m : MsgV} {er : Int} : (l.acts c' rec m er).c = c' := by
  unfold Lk.acts
  split <;> rfl
theorem offers_c (l : Lk) (n x : Nat) (h : List Int) : (l.offers n x h).c = (l.c.offer n (hvec h) x).1 := acts_c
theorem shut_c (l : Lk) : l.shut.c = l.c.shut.1 := acts_c
/-- A link that is new, whole. -/
theorem NewL.whole {w : World} {B g : Nat} {s : SetupV} {l : LinkV} (h : NewL w B g s l) (hs : s.Ok) (hm : s.may) : LkS w g (fun i => i = g ∨ i = l.sp ∨ i = l.en ∨ i = l.lo) (.new (Ch.new s)) := by
  have hc := chS_new h.ch hs hm
  have hj := JoS.fresh h.jo
  have hat : LkR w g ((Lk.new (Ch.new s)).v l.sp l.en l.lo) := by
    have := h.lk
    rw [h.isNew] at this
    exact this
  have e1 := h.ne
  refine ⟨l.sp, l.en, l.lo, _, _, ⟨hat, h.sp, hc, hj, .inl rfl, .inr (.inl rfl), fun k e => .inr (.inr (.inl e)), fun k e => .inr (.inr (.inr e)), ?_, ?_, ?_, ?_, ?_, ?_⟩⟩
  · show ¬ g = l.en
    omega
  · show ¬ g = l.lo
    omega
  · show ¬ l.sp = l.en
    omega
  · show ¬ l.sp = l.lo
    omega
  · intro k e e'
    have e : k = l.en := e
    have e' : k = l.lo := e'
    omega
  · have h1 := blk_lt h.lk
    have h2 := blk_lt h.sp
    have h3 := blk_lt h.ch.at_
    have h4 := blk_lt h.jo
    rintro k (e | e | e | e) <;> rw [e]
    · exact h1
    · exact h2
    · exact h3
    · exact h4
end Go.Proofs.YtainkaojnhfldaaGreatDoor
namespace Go.Proofs.YtainkaojnhfldaaGreatDoor
open Go.RowKit

/-- The first Open. -/
theorem open_one (w0 w : World) (g r B : Nat) (f c a b : Int) (R : RelV) (hn : NoR w g (.new r f)) (hR : NewR w B r R) (hB : w0.heap.size ≤ B) (hr : w0.heap.size ≤ r) (hg : w0.heap.size ≤ g) (n0 : New w0 w) (hs : (SetupV.of c a b).Ok) (hm : (SetupV.of c a b).may) (hf : 0 ≤ f ∧ f < 18446744073709551616) (hb : b ≤ f) :
    Calls Tryz.prog 9 #[.pointer (some ⟨g, 0, none⟩), .agg (SetupV.of c a b).cells.toArray] w fun e w' =>
      e = .returned (.tuple #[.int .i64 0, .int .i64 0]) ∧ ∃ R' k S m, NodS w' g { NodeV.new r f with funds := f - b } R' c k S (.new (Ch.new (.of c a b))) m ∧ R'.drains = false ∧ EmM w' m ∧ (∀ i, S i → w0.heap.size ≤ i) ∧ New w0 w' ∧ w0.heap.size ≤ m := by
  obtain ⟨m1, m2, m3, m4, -, -, -, hp4, -, -, -, he4, l1, l2, l3, l4, l5⟩ := hR.maps
  have hE : openErr (.new r f) R [] (.of c a b) = 0 := openErr_ok rfl hR.drains (by show 0 < 8; decide) (fun p hp => by cases hp) hm hb
  have hQ : openRes (.new r f) R [] (.of c a b) = 0 := by unfold openRes; rw [if_pos hE]; rfl
  have hI := newNode_I hn hR
  refine (open_any g (.new r f) R [] (.of c a b) hs w hI (by show 0 ≤ _; omega) hf).mono ?_
  rintro e w' ⟨rfl, -, h2⟩
  obtain ⟨v, k, l, hL, hN, u⟩ := h2 hE
  rw [hE, hQ]
  have hpe : R.peers.ownBlock = none := by rw [hR.peers]; rfl
  have hm4 : ¬ (m4 = g ∨ m4 = r ∨ R.peers.ownBlock = some m4) := by
    rintro (e | e | e)
    · exact ne_map hn he4 e.symm
    · omega
    · rw [hpe] at e; cases e
  have he' : EmM w' m4 := u.old he4 hm4
  have hz := u.size
  have hml := blk_lt he4
  have hge : ∀ i, (i = k ∨ i = l.sp ∨ i = l.en ∨ i = l.lo) → w.heap.size ≤ i := by
    have := hL.ge
    rintro i (e | e | e | e) <;> omega
  have hgl := blk_lt hn
  have hrl := hR.lt
  have n0z := n0.size
  refine ⟨rfl, { R with peers := v }, k, _, m4, ⟨hN.at_, hN.re.at_, hN.re.row, hL.whole hs hm, hN.re.bsle, hp4, ?_, ?_, ?_, ?_, by omega⟩, hR.drains, he', fun i hi => by have := hge i hi; omega, ?_, by omega⟩
  · intro e
    have := hge g e
    omega
  · intro e
    have := hge _ e
    have hrl : r < w.heap.size := hrl
    have : w.heap.size ≤ r := this
    omega
  · intro b hb' e
    obtain ⟨cur, hc⟩ := own_blk' hN.re.row b hb'
    rcases e with e | e | e | e
    · exact apart_ty' hc hL.lk (by decide) e
    · exact apart_ty' hc hL.sp (by decide) e
    · exact apart_ty' hc hL.ch.at_ (by decide) e
    · exact apart_ty' hc hL.jo (by decide) e
  · intro e
    have := hge _ e
    omega
  · refine n0.then u ?_
    rintro i hi (e | e | e)
    · omega
    · have e : i = r := e
      omega
    · rw [hpe] at e; cases e
/-- What List tells of the one peer. -/
def Lists (w : World) (g : Nat) (x : RowV) : Prop := ∀ W, New w W → Calls Tryz.prog 12 #[.pointer (some ⟨g, 0, none⟩)] W fun e w' => ∃ G cap, e = .returned (.slice (some ⟨G, 0, none⟩) 1 cap) ∧ rowN w' G 0 5 = some (RowV.cells x).toArray ∧ W.heap.size ≤ G ∧ New W w'
theorem lists_of {w : World} {g : Nat} {N : NodeV} {R : RelV} {ch : Int} {k : Nat} {S : Nat → Prop} {L : Lk} {m : Nat} (h : NodS w g N R ch k S L m) (hs : N.shut.length = 8) (hw : N.swept = List.replicate 8 false) (hh : 0 ≤ L.c.k.heard ∧ L.c.k.heard < 4294967296) :
    Lists w g ⟨L.c.s.ch, L.c.loc, L.c.rem, sumI64 (amts true true L.c.xs) 0, false⟩ := by
  intro W nW
  obtain ⟨lv, cv, hI, hC, e1, e2, e3, e4, ok⟩ := (h.new nW).toI
  refine (nlist_any g N R [⟨ch, k, lv, cv⟩] (fun _ => L.c.xs) W hI (by show 1 ≤ 8; decide) hs (by rw [hw]; rfl) ?_ (fun _ => ok.few) (fun _ => ok.xs)).mono ?_
  · intro i p hp
    have hi : i = 0 := by
      have := (List.getElem?_eq_some_iff.1 hp).1
      simpa using this
    subst hi
    obtain rfl : (⟨ch, k, lv, cv⟩ : PeerV) = p := by simpa using hp
    refine ⟨hC, ?_, ?_⟩
    · show 0 ≤ cv.k.signed ∧ _
      rw [e4]
      have := ok.signed
      omega
    · show 0 ≤ cv.k.heard ∧ _
      rw [e4]
      exact hh
  · rintro e w' ⟨v, rfl, hrow, n⟩
    have hr : rowOf N [⟨ch, k, lv, cv⟩] (fun _ => L.c.xs) 0 = ⟨L.c.s.ch, L.c.loc, L.c.rem, sumI64 (amts true true L.c.xs) 0, false⟩ := by
      unfold rowOf
      show (if N.swept[0]? = some true then _ else _) = _
      rw [hw, if_neg (by decide)]
      show RowV.mk cv.setup.ch cv.loc cv.rem _ false = _
      rw [e1, e2, e3]
    have hrow : w'.ownsRow W.heap.size 41 5 v 1 ([rowOf N [⟨ch, k, lv, cv⟩] (fun _ => L.c.xs) 0].flatMap RowV.cells) := hrow
    rw [hr] at hrow
    generalize (⟨L.c.s.ch, L.c.loc, L.c.rem, sumI64 (amts true true L.c.xs) 0, false⟩ : RowV) = x at hrow ⊢
    rcases hrow.2 with ⟨_, e0⟩ | ⟨G, cap, cur, e, hG, hg, hc, _, hz, ht⟩
    · cases e0
    · refine ⟨G, cap, by rw [e], ?_, hG, n⟩
      have hsz : 5 ≤ cur.size := by rw [hz]; omega
      rw [rowN_blk hg 0 5 (by omega)]
      congr 1
      apply Array.ext'
      rw [Array.toList_extract, List.extract_eq_take_drop, List.drop_zero]
      have e1 : cur.toList.take (1 * 5) = [x].flatMap RowV.cells := ht
      rw [show 0 + 5 - 0 = 1 * 5 from rfl, e1]
      simp
def rowLeaves : List Leaf := [.int .u32, .int .u64, .int .u64, .int .u64, .bool]
theorem Tryz.flatRow : flatF Tryz.prog 5 41 = some rowLeaves := by kernel_rfl
theorem Tryz.eqRowB : eqB Tryz.prog 5 41 = true := by kernel_rfl
theorem Tryz.aggRow : aggB Tryz.prog 41 = true := by kernel_rfl
structure RowOk (x : RowV) : Prop where
  ch : 0 ≤ x.ch ∧ x.ch ≤ 4294967295
  loc : 0 ≤ x.loc ∧ x.loc ≤ 18446744073709551615
  rem : 0 ≤ x.rem ∧ x.rem ≤ 18446744073709551615
  pend : 0 ≤ x.pend ∧ x.pend ≤ 18446744073709551615
theorem fits_row {x : RowV} (h : RowOk x) : Fits rowLeaves x.cells := by
  have e : ∀ {n : Int}, 0 ≤ n ∧ n ≤ 18446744073709551615 → (Lit.int .u64 n).wf = true := fun h => by
    simp [Lit.wf, IntKind.min, IntKind.max, IntKind.signed, IntKind.bits]; omega
  have e2 : (Lit.int .u32 x.ch).wf = true := by
    have := h.ch
    simp [Lit.wf, IntKind.min, IntKind.max, IntKind.signed, IntKind.bits]; omega
  exact ⟨_, _, rfl, ⟨_, rfl, e2⟩, _, _, rfl, ⟨_, rfl, e h.loc⟩, _, _, rfl, ⟨_, rfl, e h.rem⟩, _, _, rfl, ⟨_, rfl, e h.pend⟩, _, _, rfl, ⟨_, rfl⟩, rfl⟩
theorem eq_row_same {x : RowV} (h : RowOk x) (w : World) : (eqRow (.agg x.cells.toArray) (.agg x.cells.toArray)).run Tryz.prog w = .ok (.bool true) w :=
  run_eql_flat 5 (by decide) Tryz.eqRowB Tryz.flatRow Tryz.aggRow (fits_row h) (fits_row h) true (by simp) w
end Go.Proofs.YtainkaojnhfldaaGreatDoor
