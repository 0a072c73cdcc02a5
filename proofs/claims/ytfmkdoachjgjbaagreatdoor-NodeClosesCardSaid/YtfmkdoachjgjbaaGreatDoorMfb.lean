/-
  A node with one peer: Open, List.
-/
import Derived.Test.YtfmkdoachjgjbaaGreatDoorMed
import Derived.Test.YtfmkdoachjgjbaaGreatDoorMdi
import Derived.Test.YtfmkdoachjgjbaaGreatDoorMcb
import Derived.Test.YtfmkdoachjgjbaaGreatDoorMea
import Derived.Test.YtfmkdoachjgjbaaGreatDoorMee
import Derived.Test.YtfmkdoachjgjbaaGreatDoorDe5
set_option linter.unusedVariables false
set_option linter.unusedSimpArgs false
namespace Go.Proofs.YtfmkdoachjgjbaaGreatDoor
open Go.RowKit

/-- The first Open. -/
theorem open_one (w0 w : World) (g r B : Nat) (f c a b : Int) (R : RelV) (hn : NoR w g (.new r f)) (hR : NewR w B r R) (hB : w0.heap.size ≤ B) (hr : w0.heap.size ≤ r) (hg : w0.heap.size ≤ g) (n0 : New w0 w) (hs : (SetupV.of c a b).Ok) (hm : (SetupV.of c a b).may) (hf : 0 ≤ f ∧ f < 18446744073709551616) (hb : b ≤ f) :
    Calls Tryz.prog 32 #[.pointer (some ⟨g, 0, none⟩), .agg (SetupV.of c a b).cells.toArray] w fun e w' =>
      e = .returned (.tuple #[.int .i64 0, .int .i64 0]) ∧ ∃ R' k S m, NodS w' g { NodeV.new r f with funds := f - b } R' c k S (.new (Ch.new (.of c a b))) m ∧ R'.drains = false ∧ EmM w' m ∧ (∀ i, S i → w0.heap.size ≤ i) ∧ New w0 w' ∧ w0.heap.size ≤ m := by
  obtain ⟨m1, m2, m3, m4, -, -, -, hp4, -, -, -, he4, l1, l2, l3, l4, l5⟩ := hR.maps
  have hE : openErr (.new r f) R [] (.of c a b) = 0 := openErr_ok rfl hR.drains (by show 0 < 8; decide) (fun p hp => by cases hp) hm hb
  have hQ : openRes (.new r f) R [] (.of c a b) = 0 := by unfold openRes; rw [if_pos hE]; rfl
  have hI := newNode_I hn hR
  refine (open_any g (.new r f) R [] (.of c a b) hs w hI (by show 0 ≤ _; omega) hf).mono ?_
  rintro e w' ⟨rfl, -, h2⟩
  obtain ⟨v, k, l, hL, hN, u⟩ := h2 hE
  rw [hE, hQ]
  have hpe : R.peers.ownBlock = none := by rw [hR.peers]; rfl
  have hm4 : ¬ (m4 = g ∨ m4 = r ∨ R.peers.ownBlock = some m4) := by
    rintro (e | e | e)
    · exact ne_map hn he4 e.symm
    · omega
    · rw [hpe] at e; cases e
  have he' : EmM w' m4 := u.old he4 hm4
  have hz := u.size
  have hml := blk_lt he4
  have hge : ∀ i, (i = k ∨ i = l.sp ∨ i = l.en ∨ i = l.lo) → w.heap.size ≤ i := by
    have := hL.ge
    rintro i (e | e | e | e) <;> omega
  have hgl := blk_lt hn
  have hrl := hR.lt
  have n0z := n0.size
  refine ⟨rfl, { R with peers := v }, k, _, m4, ⟨hN.at_, hN.re.at_, hN.re.row, hL.whole hs hm, hN.re.bsle, hp4, ?_, ?_, ?_, ?_, by omega⟩, hR.drains, he', fun i hi => by have := hge i hi; omega, ?_, by omega⟩
  · intro e
    have := hge g e
    omega
  · intro e
    have := hge _ e
    have hrl : r < w.heap.size := hrl
    have : w.heap.size ≤ r := this
    omega
  · intro b hb' e
    obtain ⟨cur, hc⟩ := own_blk' hN.re.row b hb'
    rcases e with e | e | e | e
    · exact apart_ty' hc hL.lk (by decide) e
    · exact apart_ty' hc hL.sp (by decide) e
    · exact apart_ty' hc hL.ch.at_ (by decide) e
    · exact apart_ty' hc hL.jo (by decide) e
  · intro e
    have := hge _ e
    omega
  · refine n0.then u ?_
    rintro i hi (e | e | e)
    · omega
    · have e : i = r := e
      omega
    · rw [hpe] at e; cases e
/-- What List tells of the one peer. -/
def Lists (w : World) (g : Nat) (x : RowV) : Prop := ∀ W, New w W → Calls Tryz.prog 39 #[.pointer (some ⟨g, 0, none⟩)] W fun e w' => ∃ G cap, e = .returned (.slice (some ⟨G, 0, none⟩) 1 cap) ∧ rowN w' G 0 5 = some (RowV.cells x).toArray ∧ W.heap.size ≤ G ∧ New W w'
def rowLeaves : List Leaf := [.int .u32, .int .u64, .int .u64, .int .u64, .bool]
theorem Tryz.flatRow : flatF Tryz.prog 5 87 = some rowLeaves := by kernel_rfl
theorem Tryz.eqRowB : eqB Tryz.prog 5 87 = true := by kernel_rfl
theorem Tryz.aggRow : aggB Tryz.prog 87 = true := by kernel_rfl
structure RowOk (x : RowV) : Prop where
  ch : 0 ≤ x.ch ∧ x.ch ≤ 4294967295
  loc : 0 ≤ x.loc ∧ x.loc ≤ 18446744073709551615
  rem : 0 ≤ x.rem ∧ x.rem ≤ 18446744073709551615
  pend : 0 ≤ x.pend ∧ x.pend ≤ 18446744073709551615
theorem fits_row {x : RowV} (h : RowOk x) : Fits rowLeaves x.cells := by
  have e : ∀ {n : Int}, 0 ≤ n ∧ n ≤ 18446744073709551615 → (Lit.int .u64 n).wf = true := fun h => by
    simp [Lit.wf, IntKind.min, IntKind.max, IntKind.signed, IntKind.bits]; omega
  have e2 : (Lit.int .u32 x.ch).wf = true := by
    have := h.ch
    simp [Lit.wf, IntKind.min, IntKind.max, IntKind.signed, IntKind.bits]; omega
  exact ⟨_, _, rfl, ⟨_, rfl, e2⟩, _, _, rfl, ⟨_, rfl, e h.loc⟩, _, _, rfl, ⟨_, rfl, e h.rem⟩, _, _, rfl, ⟨_, rfl, e h.pend⟩, _, _, rfl, ⟨_, rfl⟩, rfl⟩
theorem eq_row_same {x : RowV} (h : RowOk x) (w : World) : (eqRow (.agg x.cells.toArray) (.agg x.cells.toArray)).run Tryz.prog w = .ok (.bool true) w :=
  run_eql_flat 5 (by decide) Tryz.eqRowB Tryz.flatRow Tryz.aggRow (fits_row h) (fits_row h) true (by simp) w

/-- The channel: Shut said, Shut heard. -/
def clC (o c : Int) (a b : Bool) : Ch := { Ch.new (.of 5 c o) with k := { (Ch.new (.of 5 c o)).k with shutSaid := a, shutHeard := b } }
section
variable {o c : Int} {a b : Bool}
theorem clC_shut : (clC o c false b).shut = (clC o c true b, shutMsg 5, 0) := rfl
theorem clC_twice : (clC o c true b).shut = (clC o c true b, MsgV.zero, 4) := rfl
theorem clC_hear : (clC o c a false).hearShut = (clC o c a true, 0) := rfl
theorem clC_offer : offerErr (clC o c true b) 1 9 = 135 := rfl
theorem clC_xs : (clC o c a b).xs = [] := rfl
end
theorem offer_stay {c : Ch} {n x : Int} {h : Vector Int 32} {e : Int} (he : offerErr c n x = e) (h0 : e ≠ 0) : (c.offer n h x).1 = c := by
  unfold Ch.offer
  rw [he, if_neg h0]
theorem acts_rest {l : Lk} {c' : Ch} {rec : ByteArray} {m : MsgV} {er : Int} : (l.acts c' rec m er).rest = l.rest ∧ (l.acts c' rec m er).broken = l.broken := by
  unfold Lk.acts
  split <;> exact ⟨rfl, rfl⟩
def theirS : ByteArray := ⟨#[0, 5, 8, 0, 0, 0, 5]⟩
def shutT : ByteArray := ⟨#[8, 0, 0, 0, 5]⟩
theorem theirs_hd : hd theirS = 5 := by decide +kernel
theorem theirs_ready : Ready theirS := ⟨by decide, by decide +kernel, by rw [theirs_hd]; decide⟩
theorem theirs_text : (theirS.extract 0 (2 + hd theirS).toNat).extract 2 (2 + hd theirS).toNat = shutT := by
  rw [theirs_hd]
  decide +kernel
theorem theirs_rest : theirS.extract (2 + hd theirS).toNat theirS.size = ⟨#[]⟩ := by
  rw [theirs_hd]
  decide +kernel
theorem text_dec : decL shutT = (shutMsg 5, 0) := by decide +kernel
theorem LkB.hears {l : Lk} {n : Nat} (h : LkB l n) {c' : Ch} {rec : ByteArray} (hr : rec.size ≤ 1024) : LkB { l with c := c', j := l.j.app rec } (n + 1) := by
  have hp := putI_size l.j.many.toNat rec
  have h1 := h.len
  have h2 := h.out
  have h3 := h.many
  refine ⟨h.dead, h.waits, h.fused, h.off, ⟨?_, ?_⟩, ?_, ?_⟩
  · show 0 ≤ l.j.many + 1
    omega
  · show l.j.many + 1 ≤ ((n + 1 : Nat) : Int)
    omega
  · show (l.j.bs ++ putI l.j.many.toNat rec).size ≤ _
    rw [ByteArray.size_append]
    omega
  · show l.out.size ≤ _
    omega
/-- Where the node stands: Close was said, the other end's Shut was heard. -/
structure ClS (w0 w : World) (g re k : Nat) (o c : Int) (a b em : Bool) (n : Nat) (N : NodeV) (R : RelV) (S : Nat → Prop) (L : Lk) (m : Nat) : Prop where
  nod : NodS w g N R 5 k S L m
  re : N.re = re
  shut : N.shut = a :: List.replicate 7 false
  swept : N.swept = List.replicate 8 false
  funds : N.funds = 100000 - o
  dr : R.drains = false
  em : em = true → EmM w m
  lb : LkB L n
  rest : L.rest = ⟨#[]⟩
  brk : L.broken = false
  ch : L.c = clC o c a b
  ge : ∀ i, S i → w0.heap.size ≤ i
  gm : w0.heap.size ≤ m
  gg : w0.heap.size ≤ g
  gmn : g ≠ m
  n0 : New w0 w
def ClX (w0 w : World) (g re k : Nat) (o c : Int) (a b em : Bool) (n : Nat) : Prop := ∃ N R S L m, ClS w0 w g re k o c a b em n N R S L m
section
variable {w0 w w' : World} {g re k : Nat} {o c : Int} {a b em : Bool} {n : Nat}
theorem ClX.new (h : ClX w0 w g re k o c a b em n) (u : New w w') : ClX w0 w' g re k o c a b em n := by
  obtain ⟨N, R, S, L, m, h⟩ := h
  exact ⟨N, R, S, L, m, h.nod.new u, h.re, h.shut, h.swept, h.funds, h.dr, fun e => u.old (h.em e) (fun h => h), h.lb, h.rest, h.brk, h.ch, h.ge, h.gm, h.gg, h.gmn, h.n0.trans u⟩
theorem ClX.n0 (h : ClX w0 w g re k o c a b em n) : New w0 w := by
  obtain ⟨N, R, S, L, m, h⟩ := h
  exact h.n0
theorem ClS.frge {N : NodeV} {R : RelV} {S : Nat → Prop} {L : Lk} {m : Nat} (h : ClS w0 w g re k o c a b em n N R S L m) : ∀ i, Fr S w w' i → w0.heap.size ≤ i := fun i hi => hi.elim (h.ge i) (fun e => by have := h.n0.size; omega)
/-- Close, the first time. -/
theorem ClX.close (hT : Tabs w0) (hn : n ≤ 1000) (h : ClX w0 w g re k o c false b true n) : Calls Tryz.prog 36 #[.pointer (some ⟨g, 0, none⟩), .int .i64 0] w fun e w' => e = .returned (.int .i64 0) ∧ ClX w0 w' g re k o c true b true (n + 1) := by
  obtain ⟨N, R, S, L, m, h⟩ := h
  have hap : ApD S := apd_ge hT h.ge
  have hs0 : L.c.shut.2.2 = 0 := by rw [h.ch, clC_shut]
  have hch : 0 ≤ L.c.s.ch ∧ L.c.s.ch < 4294967296 := by rw [h.ch]; show 0 ≤ (5 : Int) ∧ (5 : Int) < 4294967296; decide
  have hc := close_any g N R 5 k S L m false _ w h.nod h.shut (h.lb.ok (by omega)) (shut_say hch) (shut_mlen _) (hT.new h.n0) hap
  rw [hs0] at hc
  refine hc.mono ?_
  rintro e w' ⟨rfl, hN, u⟩
  have hu : New w0 w' := h.n0.then u (fun i hi e => by
    rcases e with e | e
    · have := h.ge i e; omega
    · have := h.gg; omega)
  refine ⟨rfl, N.closes 0, R, Fr S w w', L.shut, m, hN, h.re, ?_, h.swept, h.funds, h.dr, fun _ => u.old (h.em rfl) (fun e => e.elim h.nod.mS (fun e => h.gmn e.symm)), h.lb.shut (shut_say hch), (acts_rest).1.trans h.rest, (acts_rest).2.trans h.brk, ?_, h.frge, h.gm, h.gg, h.gmn, hu⟩
  · show N.shut.set 0 true = _
    rw [h.shut]
    rfl
  · rw [shut_c, h.ch, clC_shut]
/-- Close, once more. -/
theorem ClX.twice (hT : Tabs w0) (hn : n ≤ 1000) (h : ClX w0 w g re k o c true b true n) : Calls Tryz.prog 36 #[.pointer (some ⟨g, 0, none⟩), .int .i64 0] w fun e w' => e = .returned (.int .i64 4) ∧ ClX w0 w' g re k o c true b true (n + 1) := by
  obtain ⟨N, R, S, L, m, h⟩ := h
  have hap : ApD S := apd_ge hT h.ge
  have hs0 : L.c.shut.2.2 = 4 := by rw [h.ch, clC_twice]
  have hc := close_any g N R 5 k S L m true _ w h.nod h.shut (h.lb.ok (by omega)) (fun e => by rw [hs0] at e; cases e) (shut_mlen _) (hT.new h.n0) hap
  rw [hs0] at hc
  refine hc.mono ?_
  rintro e w' ⟨rfl, hN, u⟩
  have hu : New w0 w' := h.n0.then u (fun i hi e => by
    rcases e with e | e
    · have := h.ge i e; omega
    · have := h.gg; omega)
  refine ⟨rfl, N, R, Fr S w w', L.shut, m, hN, h.re, h.shut, h.swept, h.funds, h.dr, fun _ => u.old (h.em rfl) (fun e => e.elim h.nod.mS (fun e => h.gmn e.symm)), h.lb.shut (fun e => by rw [hs0] at e; cases e), (acts_rest).1.trans h.rest, (acts_rest).2.trans h.brk, ?_, h.frge, h.gm, h.gg, h.gmn, hu⟩
  rw [shut_c, h.ch, clC_twice]
/-- Pay, by a channel that is being closed. -/
theorem ClX.pays (hT : Tabs w0) (hn : n ≤ 1000) (h : ClX w0 w g re k o c true b true n) : Calls Tryz.prog 37 #[.pointer (some ⟨g, 0, none⟩), .int .i64 0, .int .u64 1, .agg (hshV z32i).toArray, .int .i64 9] w fun e w' => (∃ id : Int, e = .returned (.tuple #[.int .u64 id, .int .i64 135])) ∧ ClX w0 w' g re k o c true b false (n + 1) := by
  obtain ⟨N, R, S, L, m, h⟩ := h
  have hap : ApD S := apd_ge hT h.ge
  have herr : (L.c.offer ((1 : Nat) : Int) (hvec z32i) ((9 : Nat) : Int)).2.2 = 135 := by rw [offer_err, h.ch]; exact clC_offer
  have hpo : PayOk w L 1 9 z32i := ⟨h.lb.ok (by omega), z32i_len, z32i_bytes, by decide, by decide, by rw [h.ch]; show (0 : Nat) < 1000000 ∧ (0 : Nat) < 1000000; decide, (fun e => by rw [herr] at e; cases e), offer_mlen _ _ _ _, hT.new h.n0⟩
  have hp := npay_any g N R 5 k S L m 1 9 z32i true w h.nod (by rw [h.shut]; rfl) h.dr (h.em rfl) hpo hap (by rw [herr]; decide)
  refine hp.mono ?_
  rintro e w' ⟨⟨id, rfl⟩, hN, u⟩
  have hu : New w0 w' := h.n0.then u (fun i hi e => by
    rcases e with e | e
    · have := h.ge i e; omega
    · have := h.gm; omega)
  refine ⟨⟨id, rfl⟩, N, R, Fr S w w', L.offers 1 9 z32i, m, hN, h.re, h.shut, h.swept, h.funds, h.dr, (fun e => by cases e), h.lb.offers z32i_len (fun e => by rw [herr] at e; cases e), (acts_rest).1.trans h.rest, (acts_rest).2.trans h.brk, ?_, h.frge, h.gm, h.gg, h.gmn, hu⟩
  rw [offers_c, h.ch]
  exact offer_stay clC_offer (by decide)
/-- The other end's Shut comes. -/
theorem ClX.bytes (hT : Tabs w0) (hn : n ≤ 1000) (h : ClX w0 w g re k o c a false em n) : Calls Tryz.prog 24 #[.pointer (some ⟨k, 0, none⟩), .string theirS] w fun e w' => e = .returned (.int .i64 0) ∧ ClX w0 w' g re k o c a true em (n + 1) := by
  obtain ⟨N, R, S, L, m, h⟩ := h
  have hap : ApD S := apd_ge hT h.ge
  obtain ⟨L', hL'⟩ : ∃ L' : Lk, L' = { L with c := clC o c a true, j := L.j.app (joinS [numS 6 1, shutT]) } := ⟨_, rfl⟩
  have hmay : mayMsg (shutMsg 5) = true := may_shutN 5
  have hb := lbytes_one k S L L' theirS shutT w h.nod.lk h.lb.dead h.brk h.rest (by decide) theirs_ready theirs_text theirs_rest (by rw [hL']; exact h.rest) (fun W sp en lo SC SJ u hl => by
    rw [hL']
    refine lhear_quiet k S L sp en lo SC SJ (shutMsg 5) (clC o c a true) shutT W hl (h.lb.ok (by omega)) ((hT.new h.n0).upd u hap.c hap.d) hap (by rw [h.ch]; rfl) clC_xs (by decide) (by decide) z32i_len (by decide) (fun W' => ?_) (fun a' na => ?_)
    · have := decode_any shutT W'
      rw [text_dec] at this
      exact this
    · have hh := hear_shut en SC L.c (shutMsg 5) ⟨by decide, by decide, by decide, by decide, z32i_len, z32i_bytes, by decide, by decide⟩ a' (hl.chn.new na) hmay (by rw [h.ch]; rfl) rfl
      rw [h.ch, clC_hear] at hh
      exact hh)
  refine hb.mono ?_
  rintro e w' ⟨rfl, hl, u⟩
  have hu : New w0 w' := h.n0.then u (fun i hi e => by have := h.ge i e; omega)
  have hN := h.nod.link u hl
  have hLB : LkB L' (n + 1) := by
    rw [hL']
    exact h.lb.hears (by decide +kernel)
  refine ⟨rfl, N, R, Fr S w w', L', m, hN, h.re, h.shut, h.swept, h.funds, h.dr, fun e => u.old (h.em e) h.nod.mS, hLB, by rw [hL']; exact h.rest, by rw [hL']; exact h.brk, by rw [hL'], h.frge, h.gm, h.gg, h.gmn, hu⟩
end

theorem lists_sw {w : World} {g : Nat} {N : NodeV} {R : RelV} {ch : Int} {k : Nat} {S : Nat → Prop} {L : Lk} {m : Nat} (h : NodS w g N R ch k S L m) (hs : N.shut.length = 8) (hw : N.swept = true :: List.replicate 7 false) (hh : 0 ≤ L.c.k.heard ∧ L.c.k.heard < 4294967296) :
    Lists w g ⟨L.c.s.ch, 0, 0, 0, true⟩ := by
  intro W nW
  obtain ⟨lv, cv, hI, hC, e1, e2, e3, e4, ok⟩ := (h.new nW).toI
  refine (nlist_any g N R [⟨ch, k, lv, cv⟩] (fun _ => L.c.xs) W hI (by show 1 ≤ 8; decide) hs (by rw [hw]; rfl) ?_ (fun _ => ok.few) (fun _ => ok.xs)).mono ?_
  · intro i p hp
    have hi : i = 0 := by
      have := (List.getElem?_eq_some_iff.1 hp).1
      simpa using this
    subst hi
    obtain rfl : (⟨ch, k, lv, cv⟩ : PeerV) = p := by simpa using hp
    refine ⟨hC, ?_, ?_⟩
    · show 0 ≤ cv.k.signed ∧ _
      rw [e4]
      have := ok.signed
      omega
    · show 0 ≤ cv.k.heard ∧ _
      rw [e4]
      exact hh
  · rintro e w' ⟨v, rfl, hrow, n⟩
    have hr : rowOf N [⟨ch, k, lv, cv⟩] (fun _ => L.c.xs) 0 = ⟨L.c.s.ch, 0, 0, 0, true⟩ := by
      unfold rowOf
      show (if N.swept[0]? = some true then _ else _) = _
      rw [hw, if_pos (by decide)]
      show RowV.mk cv.setup.ch 0 0 0 true = _
      rw [e1]
    have hrow : w'.ownsRow W.heap.size 87 5 v 1 ([rowOf N [⟨ch, k, lv, cv⟩] (fun _ => L.c.xs) 0].flatMap RowV.cells) := hrow
    rw [hr] at hrow
    generalize (⟨L.c.s.ch, 0, 0, 0, true⟩ : RowV) = x at hrow ⊢
    rcases hrow.2 with ⟨_, e0⟩ | ⟨G, cap, cur, e, hG, hg, hc, _, hz, ht⟩
    · cases e0
    · refine ⟨G, cap, by rw [e], ?_, hG, n⟩
      have hsz : 5 ≤ cur.size := by rw [hz]; omega
      rw [rowN_blk hg 0 5 (by omega)]
      congr 1
      apply Array.ext'
      rw [Array.toList_extract, List.extract_eq_take_drop, List.drop_zero]
      have e1 : cur.toList.take (1 * 5) = [x].flatMap RowV.cells := ht
      rw [show 0 + 5 - 0 = 1 * 5 from rfl, e1]
      simp
theorem total_sw {w : World} {g : Nat} {N : NodeV} {R : RelV} {ch : Int} {k : Nat} {S : Nat → Prop} {L : Lk} {m : Nat} (h : NodS w g N R ch k S L m) (hs : N.shut.length = 8) (hw : N.swept = true :: List.replicate 7 false) : Calls Tryz.prog 40 #[.pointer (some ⟨g, 0, none⟩)] w (Makes (.int .u64 N.funds) w) := by
  obtain ⟨lv, cv, hI, hC, e1, e2, e3, e4, ok⟩ := h.toI
  have ht := total_any g N R [⟨ch, k, lv, cv⟩] (fun _ => L.c.xs) w hI (by show 1 ≤ 8; decide) hs (by rw [hw]; rfl) ?_ (fun _ => by have := ok.few; omega) (fun _ => ok.xs)
  · have hf : totF N [⟨ch, k, lv, cv⟩] (fun _ => L.c.xs) 0 = none := by
      unfold totF
      rw [hw, if_pos (by decide)]
    have e : totK (totF N [⟨ch, k, lv, cv⟩] (fun _ => L.c.xs)) N.funds 1 = N.funds := by
      show (match totF N [⟨ch, k, lv, cv⟩] (fun _ => L.c.xs) 0 with | none => N.funds | some x => IntKind.u64.wrap (N.funds + x)) = _
      rw [hf]
    have e' : totK (totF N [⟨ch, k, lv, cv⟩] (fun _ => L.c.xs)) N.funds [(⟨ch, k, lv, cv⟩ : PeerV)].length = N.funds := e
    rw [e'] at ht
    exact ht
  · intro i p hp
    have hi : i = 0 := by
      have := (List.getElem?_eq_some_iff.1 hp).1
      simpa using this
    subst hi
    obtain rfl : (⟨ch, k, lv, cv⟩ : PeerV) = p := by simpa using hp
    exact hC
/-- Swept. -/
structure SwS (w0 w : World) (g k : Nat) (N : NodeV) (R : RelV) (S : Nat → Prop) (L : Lk) (m : Nat) : Prop where
  nod : NodS w g N R 5 k S L m
  shut : N.shut.length = 8
  swept : N.swept = true :: List.replicate 7 false
  funds : N.funds = 100000
  ch : L.c.s.ch = 5
  heard : L.c.k.heard = 0
  gg : w0.heap.size ≤ g
  n0 : New w0 w
def SwX (w0 w : World) (g : Nat) : Prop := ∃ k N R S L m, SwS w0 w g k N R S L m
section
variable {w0 w w' : World} {g re k : Nat} {o c : Int} {a b em : Bool} {n : Nat}
theorem SwX.new (h : SwX w0 w g) (u : New w w') : SwX w0 w' g := by
  obtain ⟨k, N, R, S, L, m, h⟩ := h
  exact ⟨k, N, R, S, L, m, h.nod.new u, h.shut, h.swept, h.funds, h.ch, h.heard, h.gg, h.n0.trans u⟩
theorem SwX.n0 (h : SwX w0 w g) : New w0 w := by
  obtain ⟨k, N, R, S, L, m, h⟩ := h
  exact h.n0
/-- Sweep, ahead of both Shuts. -/
theorem ClX.sweep0 (h : ClX w0 w g re k o c false false true n) : Calls Tryz.prog 33 #[.pointer (some ⟨g, 0, none⟩)] w fun e w' => e = .returned (.int .i64 0) ∧ ClX w0 w' g re k o c false false true n := by
  obtain ⟨N, R, S, L, m, h⟩ := h
  have hs := sweep_any g N R 5 k S L m false (List.replicate 7 false) false w h.nod (by rw [h.shut]; rfl) h.swept (by rw [h.ch]; rfl)
  rw [if_neg (by decide), if_neg (by decide)] at hs
  refine hs.mono ?_
  rintro e w' ⟨rfl, hN, u⟩
  exact ⟨rfl, N, R, S, L, m, hN, h.re, h.shut, h.swept, h.funds, h.dr, fun e => u.old (h.em e) (fun e => h.gmn e.symm), h.lb, h.rest, h.brk, h.ch, h.ge, h.gm, h.gg, h.gmn, h.n0.then u (fun i hi e => by have := h.gg; have e : i = g := e; omega)⟩
/-- Sweep, behind both. -/
theorem ClX.sweep (ho : 0 ≤ o ∧ o ≤ 100000) (h : ClX w0 w g re k o c true true em n) : Calls Tryz.prog 33 #[.pointer (some ⟨g, 0, none⟩)] w fun e w' => e = .returned (.int .i64 1) ∧ SwX w0 w' g := by
  obtain ⟨N, R, S, L, m, h⟩ := h
  have hs := sweep_any g N R 5 k S L m false (List.replicate 7 false) true w h.nod (by rw [h.shut]; rfl) h.swept (by rw [h.ch]; rfl)
  rw [if_pos (by decide), if_pos (by decide)] at hs
  refine hs.mono ?_
  rintro e w' ⟨rfl, hN, u⟩
  have hl : L.c.loc = o := by rw [h.ch]; rfl
  refine ⟨rfl, k, _, R, S, L, m, hN, ?_, rfl, ?_, by rw [h.ch]; rfl, by rw [h.ch]; rfl, h.gg, h.n0.then u (fun i hi e => by have := h.gg; have e : i = g := e; omega)⟩
  · show N.shut.length = 8
    rw [h.shut]
    rfl
  · show IntKind.u64.wrap (N.funds + L.c.loc) = 100000
    rw [h.funds, hl, show (100000 - o + o : Int) = 100000 by omega]
    rfl
theorem SwX.again (h : SwX w0 w g) : Calls Tryz.prog 33 #[.pointer (some ⟨g, 0, none⟩)] w fun e w' => e = .returned (.int .i64 0) ∧ SwX w0 w' g := by
  obtain ⟨k, N, R, S, L, m, h⟩ := h
  obtain ⟨cl, hcl⟩ : ∃ cl, (L.c.k.shutSaid && L.c.k.shutHeard && L.c.xs.isEmpty) = cl := ⟨_, rfl⟩
  have hs := sweep_any g N R 5 k S L m true (List.replicate 7 false) cl w h.nod h.shut h.swept hcl
  have hf : (cl && !true) = false := by cases cl <;> rfl
  rw [hf, if_neg (by decide), if_neg (by decide)] at hs
  refine hs.mono ?_
  rintro e w' ⟨rfl, hN, u⟩
  exact ⟨rfl, k, N, R, S, L, m, hN, h.shut, h.swept, h.funds, h.ch, h.heard, h.gg, h.n0.then u (fun i hi e => by have := h.gg; have e : i = g := e; omega)⟩
theorem SwX.lists (h : SwX w0 w g) : Lists w g ⟨5, 0, 0, 0, true⟩ := by
  obtain ⟨k, N, R, S, L, m, h⟩ := h
  have := lists_sw h.nod h.shut h.swept (by rw [h.heard]; decide)
  rwa [h.ch] at this
theorem SwX.funds (h : SwX w0 w g) : Calls Tryz.prog 38 #[.pointer (some ⟨g, 0, none⟩)] w (Reads (.int .u64 100000) w) := by
  obtain ⟨k, N, R, S, L, m, h⟩ := h
  have := funds_any g N w h.nod.no
  rwa [h.funds] at this
theorem SwX.total (h : SwX w0 w g) : Calls Tryz.prog 40 #[.pointer (some ⟨g, 0, none⟩)] w (Makes (.int .u64 100000) w) := by
  obtain ⟨k, N, R, S, L, m, h⟩ := h
  have := total_sw h.nod h.shut h.swept
  rwa [h.funds] at this
set_option maxHeartbeats 600000 in
theorem ClX.relay (h : ClX w0 w g re k o c a b em n) : Calls Tryz.prog 34 #[.pointer (some ⟨g, 0, none⟩)] w (Reads (.pointer (some ⟨re, 0, none⟩)) w) := by
  obtain ⟨N, R, S, L, m, h⟩ := h
  have c0 : w.cell? ⟨g, 0, none⟩ = some (.pointer (some ⟨re, 0, none⟩)) := h.re ▸ blk_cell h.nod.no 0
  clear h
  go_enter Tryz.func34, Tryz.ntmps34
  go_wp2_with fail
  go_ret
  exact ⟨rfl, Q.refl _⟩
theorem ClX.link (h : ClX w0 w g re k o c a b em n) : Calls Tryz.prog 35 #[.pointer (some ⟨re, 0, none⟩), .int .i64 0] w (Reads (.pointer (some ⟨k, 0, none⟩)) w) := by
  obtain ⟨N, R, S, L, m, h⟩ := h
  obtain ⟨lv, cv, hI, -⟩ := h.nod.toI
  have := link_at N.re R [⟨5, k, lv, cv⟩] w hI.re (by simp) 0 ⟨5, k, lv, cv⟩ rfl
  rw [h.re] at this
  exact this
end
end Go.Proofs.YtfmkdoachjgjbaaGreatDoor
