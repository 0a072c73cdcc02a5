/-
  shown: that funds go into a channel.
-/
import Derived.Test.YtfmkdoachjgjbaaGreatDoorNd9
import Derived.Test.YtfmkdoachjgjbaaGreatDoorLk9
import Derived.Test.YtfmkdoachjgjbaaGreatDoorMdi
import Derived.MapKept
set_option linter.unusedVariables false
set_option linter.unusedSimpArgs false
namespace Go.Proofs.YtfmkdoachjgjbaaGreatDoor
open Go.RowKit

def e0 : ByteArray := ⟨#[]⟩
/-- A setup of three numbers. -/
def SetupV.of (c a b : Int) : SetupV := ⟨c, a, b, z32i, e0, e0⟩
theorem of_ok (c a b : Int) (h1 : 0 ≤ c ∧ c < 4294967296) (h2 : 0 ≤ a ∧ a < 18446744073709551616) (h3 : 0 ≤ b ∧ b < 18446744073709551616) : (SetupV.of c a b).Ok := ⟨h1, h2, h3, z32i_len⟩
def bdSet (p : Array (Nat × Value)) : Sem Value := Instr.build 78 p
theorem bd_set_fold (p : Array (Nat × Value)) : Instr.build 78 p = bdSet p := rfl
theorem bd_set3 (c a b : Int) (w : World) : (bdSet #[(0, .int .u32 c), (1, .int .u64 a), (2, .int .u64 b)]).run Tryz.prog w = .ok (.agg (SetupV.of c a b).cells.toArray) w := run_build w _ _ _ (by kernel_rfl)
theorem bd_set2 (c a : Int) (w : World) : (bdSet #[(0, .int .u32 c), (1, .int .u64 a)]).run Tryz.prog w = .ok (.agg (SetupV.of c a 0).cells.toArray) w := run_build w _ _ _ (by kernel_rfl)
def bdRow3 (p : Array (Nat × Value)) : Sem Value := Instr.build 87 p
theorem bd_row3_fold (p : Array (Nat × Value)) : Instr.build 87 p = bdRow3 p := rfl
theorem bd_row3 (c a b : Int) (w : World) : (bdRow3 #[(0, .int .u32 c), (1, .int .u64 a), (2, .int .u64 b)]).run Tryz.prog w = .ok (.agg (RowV.cells ⟨c, a, b, 0, false⟩).toArray) w := run_build w _ _ _ (by kernel_rfl)
def eqRow (x y : Value) : Sem Value := binOp .eql 87 x y
theorem eq_row_fold (x y : Value) : binOp .eql 87 x y = eqRow x y := rfl
theorem eq_row_shown (w : World) : (eqRow (.agg (RowV.cells ⟨1, 4, 5, 0, false⟩).toArray) (.agg (RowV.cells ⟨1, 4, 5, 0, false⟩).toArray)).run Tryz.prog w = .ok (.bool true) w := by kernel_rfl
attribute [local go_sem ↓ high] bd_set_fold bd_row3_fold eq_row_fold ld_row_fold
attribute [local go_sem] bd_set3 bd_set2 bd_row3 eq_row_shown ld_row rowN_drew

theorem addErr_ok {R : RelV} {ps : List PeerV} {s : SetupV} (h1 : R.drains = false) (h2 : ps.length < 8) (h3 : ∀ p ∈ ps, p.ch ≠ s.ch) (h4 : s.may) : addErr R ps s = 0 := by
  unfold addErr
  rw [if_neg (by simp [h1]), if_neg (by omega), if_neg (by rintro ⟨p, hp, he⟩; exact h3 p hp he), if_pos h4]
theorem openErr_ok {N : NodeV} {R : RelV} {ps : List PeerV} {s : SetupV} (h0 : N.drains = false) (h1 : R.drains = false) (h2 : ps.length < 8) (h3 : ∀ p ∈ ps, p.ch ≠ s.ch) (h4 : s.may) (h5 : s.ours ≤ N.funds) : openErr N R ps s = 0 := by
  unfold openErr
  rw [if_neg (by simp [h0]), if_neg (by have := h4.2.2.1; omega), if_neg (by omega), addErr_ok h1 h2 h3 h4]
theorem NewR.le {w : World} {B g : Nat} {r : RelV} (h : NewR w B g r) : B ≤ g := by
  obtain ⟨a, p, d, bb, m1, m2, m3, m4, i1, i2, i3, i4, e1, e2, e3, e4, l⟩ := h
  omega
/-- A node that is new. -/
theorem newNode_I {w : World} {B g r : Nat} {f : Int} {R : RelV} (hn : NoR w g (.new r f)) (hR : NewR w B r R) : NodI w g (.new r f) R [] :=
  ⟨hn, hR.at_, ⟨rfl, .inl ⟨hR.peers, rfl⟩⟩, (fun p hp => by cases hp), by rw [hR.bs]; have := hR.lt; have := hR.le; omega⟩
theorem newCh_I {w : World} {g : Nat} {s : SetupV} (h : ChR w g (.new s)) : ChI w g (.new s) [] := ⟨h, ⟨rfl, .inl ⟨rfl, rfl⟩⟩⟩
theorem rowOf_new {N : NodeV} {ps : List PeerV} {i : Nat} {p : PeerV} {s : SetupV} (hp : ps[i]? = some p) (hc : p.c = .new s) (hs : N.swept[i]? = some false) : rowOf N ps (fun _ => []) i = ⟨s.ch, s.ours, s.cap - s.ours, 0, false⟩ := by
  unfold rowOf
  rw [hp]
  simp only
  rw [if_neg (by rw [hs]; decide), hc]
  rfl
theorem totF_new {N : NodeV} {ps : List PeerV} {i : Nat} {p : PeerV} {s : SetupV} (hp : ps[i]? = some p) (hc : p.c = .new s) (hs : N.swept[i]? = some false) (h0 : 0 ≤ s.ours ∧ s.ours < 18446744073709551616) : totF N ps (fun _ => []) i = some s.ours := by
  unfold totF
  rw [if_neg (by rw [hs]; decide), hp, Option.map_some, hc]
  have : IntKind.u64.wrap ((ChanV.new s).loc + sumI64 (amts true false []) 0) = s.ours := by
    show IntKind.u64.wrap (s.ours + 0) = s.ours
    rw [Int.add_zero]
    exact wrapU h0.1 (by omega)
  rw [this]

/-- A row of an owned slice, whole. -/
theorem owns_rowN {α : Type} (f : α → List Value) (k : Nat) (hf : ∀ x, (f x).length = k) {w : World} {base : Nat} {T : TypeId} {v : Value} {n : Nat} {X : List α} (h : w.ownsRow base T k v n (X.flatMap f)) (hn : n = X.length) {i : Nat} {x : α} (hi : X[i]? = some x) :
    ∃ g cap, v = .slice (some ⟨g, 0, none⟩) n cap ∧ base ≤ g ∧ rowN w g (i * k) k = some (f x).toArray := by
  have hlt := (List.getElem?_eq_some_iff.1 hi).1
  rcases h.2 with ⟨e, e0⟩ | ⟨g, cap, cur, e, hb, hg, hc, hz, hs, ht⟩
  · omega
  · have h1 := Nat.mul_le_mul_right k (show i + 1 ≤ n from by omega)
    have h2 := Nat.mul_le_mul_right k hc
    rw [Nat.succ_mul] at h1
    refine ⟨g, cap, e, hb, ?_⟩
    rw [rowN_blk hg (i * k) k (by omega)]
    congr 1
    apply Array.ext'
    apply List.ext_getElem?
    intro j
    by_cases hj : j < k
    · rw [Array.getElem?_toList, Array.getElem?_extract, if_pos (by omega), ← Array.getElem?_toList, ← flatMap_get f k hf X i j x hi hj, ← ht, List.getElem?_take_of_lt (by omega)]
    · rw [List.getElem?_eq_none (by simp; omega), List.getElem?_eq_none (by rw [hf]; omega)]
set_option maxRecDepth 100000 in
set_option maxHeartbeats 4000000 in
theorem shown_any (w : World) : Calls Tryz.prog 31 #[] w (Makes (.bool true) w) := by
  go_enter Tryz.func31, Tryz.ntmps31
  go_wp2_with fail
  refine (newN_any 10 0 0 ⟨by decide, by decide⟩ w).mono ?_
  rintro e w1 (⟨-, g, r, R, rfl, hr, hrg, hn, hR, n1⟩ | ⟨h, -⟩)
  case' inr => omega
  have hI := newNode_I hn hR
  have hd := hR.drains
  have hpn := hR.peers
  clear hn hR
  go_wp2_with fail
  have hs := of_ok 1 9 4 ⟨by decide, by decide⟩ ⟨by decide, by decide⟩ ⟨by decide, by decide⟩
  have hE : openErr (.new r 10) R [] (.of 1 9 4) = 0 := openErr_ok rfl hd (by decide) (fun p hp => by cases hp) (by unfold SetupV.may SetupV.of; exact ⟨by decide, by decide, by decide, by decide, by decide⟩) (show (4 : Int) ≤ 10 by decide)
  have hop := open_any g (.new r 10) R [] (.of 1 9 4) hs w1 hI (by decide) (show (0 : Int) ≤ 10 ∧ (10 : Int) < 18446744073709551616 by decide)
  unfold openRes at hop
  rw [hE] at hop
  refine hop.mono ?_
  rintro e w2 ⟨rfl, -, h2⟩
  obtain ⟨v, k, l, hL, hI2, u2⟩ := h2 rfl
  have n2 : New w w2 := n1.then u2 (fun i hi e => by
    rcases e with e | e | e
    · omega
    · have e : i = r := e
      omega
    · rw [hpn] at e
      cases e)
  clear u2 hI hop h2
  obtain ⟨N, hN⟩ : ∃ N : NodeV, N = { re := r, funds := 6, drains := false, shut := List.replicate 8 false, swept := List.replicate 8 false } := ⟨_, rfl⟩
  obtain ⟨R2, hR2⟩ : ∃ R2 : RelV, R2 = { R with peers := v } := ⟨_, rfl⟩
  obtain ⟨ps, hps⟩ : ∃ ps : List PeerV, ps = [{ ch := 1, lk := k, l := l, c := ChanV.new (SetupV.of 1 9 4) }] := ⟨_, rfl⟩
  have hI3 : NodI w2 g N R2 ps := by rw [hN, hR2, hps]; exact hI2
  have hpl : ps.length = 1 := by rw [hps]; rfl
  have hX : ∀ (i : Nat) (p : PeerV), ps[i]? = some p → ChI w2 p.l.en p.c [] ∧ (0 ≤ p.c.k.signed ∧ p.c.k.signed < 4294967296) ∧ (0 ≤ p.c.k.heard ∧ p.c.k.heard < 4294967296) := by
    intro i p hp
    rw [hps] at hp
    cases i with
    | succ i => simp at hp
    | zero =>
      simp at hp
      subst hp
      exact ⟨newCh_I hL.ch, show (0 : Int) ≤ 0 ∧ (0 : Int) < 4294967296 by decide, show (0 : Int) ≤ 0 ∧ (0 : Int) < 4294967296 by decide⟩
  have hrow : (List.range ps.length).map (rowOf N ps (fun _ => [])) = [⟨1, 4, 5, 0, false⟩] := by
    rw [hpl]
    show [rowOf N ps (fun _ => []) 0] = _
    rw [rowOf_new (p := { ch := 1, lk := k, l := l, c := ChanV.new (SetupV.of 1 9 4) }) (by rw [hps]; rfl) rfl (by rw [hN]; rfl)]
    rfl
  have htot : totK (totF N ps (fun _ => [])) N.funds ps.length = 10 := by
    rw [hpl, totK, totK, totF_new (p := { ch := 1, lk := k, l := l, c := ChanV.new (SetupV.of 1 9 4) }) (by rw [hps]; rfl) rfl (by rw [hN]; rfl) (show (0 : Int) ≤ 4 ∧ (4 : Int) < 18446744073709551616 by decide), hN]
    rfl
  have hfn : N.funds = 6 := by rw [hN]
  have hsl : N.shut.length = 8 := by rw [hN]; rfl
  have hwl : N.swept.length = 8 := by rw [hN]; rfl
  have hli := nlist_any g N R2 ps (fun _ => []) w2 hI3 (by omega) hsl hwl hX (fun _ => by decide) (fun _ x hx => by cases hx)
  rw [hrow, hpl] at hli
  have HT := hide (fun (W : World) (n : New w2 W) => total_any g N R2 ps (fun _ => []) W (hI3.new n) (by omega) hsl hwl (fun i p hp => (hX i p hp).1.new n) (fun _ => by decide) (fun _ x hx => by cases hx))
  have HI := hide hI3
  have hf2 : ∀ W, New w2 W → Calls Tryz.prog 38 #[.pointer (some ⟨g, 0, none⟩)] W (Reads (.int .u64 6) W) := fun W n => by
    rw [← hfn]
    exact funds_any g N W (n.old (unhide HI).at_ (fun h => h))
  clear hX hrow hI2 hI3 hL
  go_wp2_with fail
  refine hli.mono ?_
  rintro e w3 ⟨u, rfl, hu, n3⟩
  obtain ⟨gB, cap, rfl, -, hr5⟩ := owns_rowN RowV.cells 5 RowV.len hu rfl (i := 0) (x := ⟨1, 4, 5, 0, false⟩) rfl
  rw [Nat.zero_mul] at hr5
  rw [htot] at HT
  clear hu
  go_wp2_with fail
  refine (hf2 w3 n3).mono ?_
  rintro e w4 ⟨rfl, q4⟩
  have hr6 := rowN_q hr5 q4
  have n4 := n3.trans (q4.upd _)
  clear q4 hr5
  go_wp2_with fail
  refine (unhide HT w4 n4).mono ?_
  rintro e w5 ⟨rfl, n5⟩
  go_wp2_with fail
  go_ret
  exact ⟨rfl, n2.trans (n4.trans n5)⟩

end Go.Proofs.YtfmkdoachjgjbaaGreatDoor
namespace Go.Proofs.YtfmkdoachjgjbaaGreatDoor
open Go.RowKit

/-- A map set. -/
def mapW (w : World) (m : Nat) (o : Obj) : World := { w with heap := w.heap.setIfInBounds m o }
theorem mapW_upd (w : World) (m : Nat) (o : Obj) : Upd (· = m) w (mapW w m o) := by
  refine ⟨rfl, rfl, rfl, by simp [mapW], fun k _ hk => ?_⟩
  show (w.heap.setIfInBounds m o)[k]? = w.heap[k]?
  rw [Array.getElem?_setIfInBounds_ne (fun e => hk e.symm)]
theorem run_pays (w : World) (m : Nat) (a b : Int) (v : Value) (h : EmM w m) : (Instr.mapUpdate 155 (.map (some m)) (.agg #[.int .i64 a, .int .u64 b]) v).run Tryz.prog w = .ok () (mapW w m (.map #[{ key := .agg #[.int .i64 a, .int .u64 b], val := v, born := 0 }] 1)) := by
  have hb : w.heap[m]? = some (.map #[] 0) := h
  have hf : Instr.findNow (.struct #[]) (.agg #[.int .i64 a, .int .u64 b]) ([] : List MapEntry) 0 = some none := rfl
  have hc : (Instr.checkKey false 10000 208 (.agg #[.int .i64 a, .int .u64 b])).run Tryz.prog w = .ok () w := by kernel_rfl
  have hk : (Instr.findKey 208 (.agg #[.int .i64 a, .int .u64 b]) []).run Tryz.prog w = .ok none w := MapKept.run_findKey Tryz.underlying208 rfl
  simp [Instr.mapUpdate, run_underlying Tryz.underlying155, MapKept.run_getObj_map hb, hc, hk, MapKept.run_setObj_map _ hb, Result.andThen, mapW]
/-- A node with one peer, whole: its link, and all of it, in S. -/
structure NodS (w : World) (g : Nat) (N : NodeV) (R : RelV) (ch : Int) (k : Nat) (S : Nat → Prop) (L : Lk) (m : Nat) : Prop where
  no : NoR w g N
  re : ReR w N.re R
  row : w.ownsRow R.bs 159 2 R.peers 1 [.int .u32 ch, ptrV k]
  lk : LkS w k S L
  bsle : R.bs ≤ w.heap.size
  pay : R.payments = mapV m
  gS : ¬ S g
  rS : ¬ S N.re
  bS : ∀ b, R.peers.ownBlock = some b → ¬ S b
  mS : ¬ S m
  mlt : m < w.heap.size
section
variable {w w' : World} {g : Nat} {N : NodeV} {R : RelV} {ch : Int} {k : Nat} {S T : Nat → Prop} {L L' : Lk} {m : Nat}
theorem NodS.toI (h : NodS w g N R ch k S L m) : ∃ lv cv, NodI w g N R [⟨ch, k, lv, cv⟩] ∧ ChI w lv.en cv L.c.xs ∧ cv.setup = L.c.s ∧ cv.loc = L.c.loc ∧ cv.rem = L.c.rem ∧ cv.k = L.c.k ∧ L.c.Ok := by
  obtain ⟨sp, en, lo, SC, SJ, hl⟩ := h.lk
  obtain ⟨a, b, d, hc⟩ := hl.chn
  refine ⟨L.v sp en lo, L.c.v a b d, ⟨h.no, h.re, h.row, ?_, h.bsle⟩, hc.toI, rfl, rfl, rfl, rfl, hc.ok⟩
  intro p hp
  rw [List.mem_singleton.1 hp]
  exact ⟨hl.at_, hc.toR⟩
theorem NodS.new (h : NodS w g N R ch k S L m) (u : New w w') : NodS w' g N R ch k S L m :=
  ⟨u.old h.no (fun h => h), u.old h.re (fun h => h), owns_new h.row u, h.lk.new u, Nat.le_trans h.bsle u.size, h.pay, h.gS, h.rS, h.bS, h.mS, Nat.lt_of_lt_of_le h.mlt u.size⟩
theorem NodS.link (h : NodS w g N R ch k S L m) (u : Upd S w w') (hl : LkS w' k (Fr S w w') L') : NodS w' g N R ch k (Fr S w w') L' m := by
  have hf : ∀ k, k < w.heap.size → ¬ S k → ¬ Fr S w w' k := fun k hk hs e => e.elim hs (fun e => by omega)
  have hb : ∀ b, R.peers.ownBlock = some b → b < w.heap.size := fun b hb => by
    obtain ⟨cur, hc⟩ := own_blk' h.row b hb
    exact blk_lt hc
  exact ⟨u.old h.no h.gS, u.old h.re h.rS, row_upd' h.row u (fun b e => h.bS b e), hl, Nat.le_trans h.bsle u.size, h.pay, hf _ (blk_lt h.no) h.gS, hf _ (blk_lt h.re) h.rS, fun b e => hf _ (hb b e) (h.bS b e), hf _ h.mlt h.mS, Nat.lt_of_lt_of_le h.mlt u.size⟩
theorem ne_map {w : World} {i m : Nat} {cs : Array Value} {T : TypeId} {z : Nat × Nat} {es : Array MapEntry} {cl : Nat} (h : w.heap[i]? = some (.cells cs T z)) (hm : w.heap[m]? = some (.map es cl)) : i ≠ m := by
  rintro rfl
  rw [h] at hm
  cases hm
theorem NodS.paid (h : NodS w g N R ch k S L m) (hm : EmM w m) (o : Obj) : NodS (mapW w m o) g N R ch k S L m := by
  have u := mapW_upd w m o
  refine ⟨u.old h.no (ne_map h.no hm), u.old h.re (ne_map h.re hm), row_upd' h.row u (fun b e => ?_), h.lk.upd u (fun k hk e => h.mS (e ▸ hk)), Nat.le_trans h.bsle u.size, h.pay, h.gS, h.rS, h.bS, h.mS, Nat.lt_of_lt_of_le h.mlt u.size⟩
  obtain ⟨cur, hc⟩ := own_blk' h.row b e
  exact ne_map hc hm
end
theorem NodS.later {w w2 w3 w' : World} {g : Nat} {N N' : NodeV} {R : RelV} {ch : Int} {k : Nat} {S : Nat → Prop} {L L' : Lk} {m : Nat} (h0 : NodS w g N R ch k S L m) (h : NodS w' g N' R ch k (Fr S w2 w3) L' m) (hr : N'.re = N.re) (h1 : w.heap.size ≤ w2.heap.size) (h2 : w3.heap.size ≤ w'.heap.size) : NodS w' g N' R ch k (Fr S w w') L' m := by
  have hf : ∀ k, k < w.heap.size → ¬ S k → ¬ Fr S w w' k := fun k hk hs e => e.elim hs (fun e => by omega)
  have hb : ∀ b, R.peers.ownBlock = some b → b < w.heap.size := fun b hb => by
    obtain ⟨cur, hc⟩ := own_blk' h0.row b hb
    exact blk_lt hc
  have hl := h.lk.lt
  exact ⟨h.no, h.re, h.row, h.lk.wider (fun k hk => hk.elim .inl (fun e => .inr ⟨by omega, by omega⟩)) (fun k hk => hk.elim (fun e => hl k (.inl e)) (fun e => e.2)), h.bsle, h.pay, hf _ (blk_lt h0.no) h0.gS, hf _ (by rw [hr]; exact blk_lt h0.re) (by rw [hr]; exact h0.rS), fun b e => hf _ (hb b e) (h0.bS b e), hf _ h0.mlt h0.mS, h.mlt⟩
/-- What a peer's channel and link can bear, for Pay. -/
structure PayOk (w : World) (L : Lk) (n x : Nat) (h : List Int) : Prop where
  ok : LkOk L
  len : h.length = 32
  bytes : Bytes h
  n8 : n < 2 ^ (8 * 8)
  x4 : x < 2 ^ (8 * 4)
  few : L.c.news.length < 1000000 ∧ L.c.xs.length < 1000000
  say : (L.c.offer n (hvec h) x).2.2 = 0 → SayOk (L.c.offer n (hvec h) x).2.1
  mlen : (L.c.offer n (hvec h) x).2.1.hash.length = 32
  tb : Tabs w
theorem PayOk.new {w w' : World} {L : Lk} {n x : Nat} {h : List Int} (p : PayOk w L n x h) (u : New w w') : PayOk w' L n x h := ⟨p.ok, p.len, p.bytes, p.n8, p.x4, p.few, p.say, p.mlen, p.tb.new u⟩
attribute [local go_sem ↓ high] ld_hsh_fold st_hsh_fold al_hsh_fold
attribute [local go_sem] ld_hsh st_hsh al_hsh rowN_drew run_pays
/-- What Pay of a relay comes to. -/
def PayEnd (w : World) (g : Nat) (N : NodeV) (R : RelV) (ch : Int) (k : Nat) (S : Nat → Prop) (L : Lk) (m : Nat) (n x : Nat) (h : List Int) (e : Ending) (w' : World) : Prop :=
  (∃ id : Int, e = .returned (.tuple #[.int .u64 id, .int .i64 (L.c.offer n (hvec h) x).2.2])) ∧ NodS w' g N R ch k (Fr S w w') (L.offers n x h) m ∧ Upd (fun i => S i ∨ i = m) w w'
set_option maxRecDepth 100000 in
set_option maxHeartbeats 2000000 in
theorem rpay_any (g : Nat) (N : NodeV) (R : RelV) (ch : Int) (k : Nat) (S : Nat → Prop) (L : Lk) (m : Nat) (n x : Nat) (h : List Int) (w : World) (hN : NodS w g N R ch k S L m) (hd : R.drains = false) (hE : EmM w m) (hp : PayOk w L n x h) (hA : ApD S) :
    Calls Tryz.prog 81 #[.pointer (some ⟨N.re, 0, none⟩), .int .i64 0, .int .u64 (n : Int), .agg (hshV h).toArray, .int .i64 (x : Int)] w fun e w' => PayEnd w g N R ch k S L m n x h e w' := by
  obtain ⟨lv, cv, hI, -⟩ := hN.toI
  have hl := hp.len
  have c6 : w.cell? ⟨N.re, 6, none⟩ = some (.bool false) := hd ▸ blk_cell hN.re 6
  have HI := hide hI
  clear hI
  go_enter Tryz.func81, Tryz.ntmps81
  go_upto_region 1 with fail
  have n1 : New w (w.alloc (.cells (hshV h).toArray 35)) := (Upd.refl _ _).alloc _
  have r1 : rowN (w.alloc (.cells (hshV h).toArray 35)) w.heap.size 0 32 = some (hshV h).toArray := rowN_whole (blk_alloc _ _) 32 (by rw [List.size_toArray, hshV_len, hl])
  generalize w.alloc (.cells (hshV h).toArray 35) = w1 at n1 r1 ⊢
  generalize w.heap.size = B at r1 ⊢
  replace c6 := n1.cell c6 (fun h => h)
  have N1 := hide n1
  clear n1
  have hlk := link_at N.re R [⟨ch, k, lv, cv⟩] w1 ((unhide HI).re.new (unhide N1)) (by simp) 0 ⟨ch, k, lv, cv⟩ rfl
  go_wp2_with fail
  refine hlk.mono ?_
  rintro e w2 ⟨rfl, q2⟩
  have n2 := (unhide N1).trans (q2.upd _)
  have r2 := rowN_upd r1 (q2.upd (fun _ => False)) (fun h => h)
  have N2 := hide n2
  have hoff := loffer_any k S L n x h w2 (hN.lk.new n2) hp.ok hp.len hp.bytes hp.n8 hp.x4 hp.few hp.say hp.mlen (hp.tb.new n2) hA
  clear hlk q2 n2 r1 N1 HI c6
  go_wp2_with fail
  refine hoff.mono ?_
  rintro e w3 ⟨rfl, hL, u3⟩
  have hN3 := (hN.new (unhide N2)).link u3 hL
  have hE3 : EmM w3 m := u3.old ((unhide N2).old hE (fun h => h)) hN.mS
  have c5 : w3.cell? ⟨N.re, 5, none⟩ = some (.map (some m)) := by
    have := blk_cell hN3.re 5
    rw [this]
    show some R.payments = _
    rw [hN.pay]
    rfl
  have HQ := hide (And.intro hN3 (And.intro hE3 u3))
  clear hoff hL u3 r2
  generalize hid : (actM (L.c.offer n (hvec h) x).2.1 (L.c.offer n (hvec h) x).2.2).id = id
  generalize her : (L.c.offer n (hvec h) x).2.2 = er
  have HER := hide her
  have hz2 := (unhide N2).size
  clear hid her
  by_cases h0 : er = 0
  · subst h0
    have hN4 := fun o => hN3.paid hE3 o
    have HN4 := hide hN4
    clear hN3 hN4
    have z4 : ∀ o, w3.heap.size ≤ (mapW w3 m o).heap.size := fun o => (mapW_upd w3 m o).size
    have Z4 := hide z4
    clear z4
    go_wp2_with fail
    go_ret2
    unfold PayEnd
    rw [unhide HER]
    exact ⟨⟨_, rfl⟩, hN.later (unhide HN4 _) rfl hz2 (unhide Z4 _), (((unhide N2).mono (fun _ _ h => h.elim)).trans ((unhide HQ).2.2.mono (fun i _ e => .inl e))).trans ((mapW_upd _ _ _).mono (fun i _ e => .inr e))⟩
  · have hN3' := hide hN3
    clear hN3 hE3 c5
    go_upto_if 33 with fail
    refine wp_cond_true (congrArg Value.bool (show (er != 0) = true by simpa using h0)) ?_
    go_wp2_with fail
    go_ret2
    unfold PayEnd
    rw [unhide HER]
    exact ⟨⟨_, rfl⟩, hN.later (unhide hN3') rfl hz2 (Nat.le_refl _), ((unhide N2).mono (fun _ _ h => h.elim)).trans ((unhide HQ).2.2.mono (fun i _ e => .inl e))⟩
end Go.Proofs.YtfmkdoachjgjbaaGreatDoor
namespace Go.Proofs.YtfmkdoachjgjbaaGreatDoor
open Go.RowKit

attribute [local go_sem ↓ high] ld_hsh_fold st_hsh_fold al_hsh_fold
attribute [local go_sem] ld_hsh st_hsh al_hsh rowN_drew
theorem node_shut (N : NodeV) (i : Nat) (b : Bool) (hb : N.shut[i]? = some b) : N.cells[3 + i]? = some (.bool b) := by
  unfold NodeV.cells
  rw [show 3 + i = i + 1 + 1 + 1 by omega, List.getElem?_cons_succ, List.getElem?_cons_succ, List.getElem?_cons_succ, List.getElem?_append_left (by rw [List.length_map]; exact (List.getElem?_eq_some_iff.1 hb).1), List.getElem?_map, hb]
  rfl
set_option maxRecDepth 100000 in
set_option maxHeartbeats 2000000 in
/-- Pay to the one peer. -/
theorem npay_any (g : Nat) (N : NodeV) (R : RelV) (ch : Int) (k : Nat) (S : Nat → Prop) (L : Lk) (m : Nat) (n x : Nat) (h : List Int) (b : Bool) (w : World) (hN : NodS w g N R ch k S L m) (hb : N.shut[0]? = some b) (hd : R.drains = false) (hE : EmM w m) (hp : PayOk w L n x h) (hA : ApD S) (her : (L.c.offer n (hvec h) x).2.2 ≠ 200) :
    Calls Tryz.prog 37 #[.pointer (some ⟨g, 0, none⟩), .int .i64 0, .int .u64 (n : Int), .agg (hshV h).toArray, .int .i64 (x : Int)] w fun e w' => (∃ id : Int, e = .returned (.tuple #[.int .u64 id, .int .i64 (if b then 135 else (L.c.offer n (hvec h) x).2.2)])) ∧ NodS w' g N R ch k (Fr S w w') (L.offers n x h) m ∧ Upd (fun i => S i ∨ i = m) w w' := by
  have hl := hp.len
  have c0 : w.cell? ⟨g, 0, none⟩ = some (.pointer (some ⟨N.re, 0, none⟩)) := blk_cell hN.no 0
  go_enter Tryz.func37, Tryz.ntmps37
  go_upto_region 1 with fail
  have n1 : New w (w.alloc (.cells (hshV h).toArray 35)) := (Upd.refl _ _).alloc _
  have r1 : rowN (w.alloc (.cells (hshV h).toArray 35)) w.heap.size 0 32 = some (hshV h).toArray := rowN_whole (blk_alloc _ _) 32 (by rw [List.size_toArray, hshV_len, hl])
  generalize w.alloc (.cells (hshV h).toArray 35) = w1 at n1 r1 ⊢
  generalize w.heap.size = B at r1 ⊢
  replace c0 := n1.cell c0 (fun h => h)
  have nd := n1.drew
  have hcall := rpay_any g N R ch k S L m n x h w1.drew (hN.new nd) hd (nd.old hE (fun h => h)) (hp.new nd) hA
  have N1 := hide n1
  clear n1 nd
  go_wp2_with (with_reducible first | (first | refine' tw1 (ido ?_) ?_ | refine' tw2 (ido ?_) ?_); rotate_left | refine' tw3 (ido ?_) | rfl | apply tn | refine' tw4 ?_)
  refine hcall.mono ?_
  rintro e w2 ⟨⟨id, rfl⟩, hN2, u2⟩
  have u2 := u2.ofDrew
  have c3 : w2.cell? ⟨g, 3, none⟩ = some (.bool b) := by
    rw [blk_cell hN2.no 3, List.getElem?_toArray]
    exact node_shut N 0 b hb
  have HQ := hide (And.intro hN2 u2)
  clear hcall hN2 u2 r1 c0 hE hp
  generalize he : (L.c.offer n (hvec h) x).2.2 = er at her ⊢
  have HER := hide he
  clear he
  have hfin : NodS w2 g N R ch k (Fr S w w2) (L.offers n x h) m ∧ Upd (fun i => S i ∨ i = m) w w2 := by
    obtain ⟨h1, h2⟩ := unhide HQ
    exact ⟨hN.later h1 rfl (unhide N1).size (Nat.le_refl _), ((unhide N1).mono (fun _ _ h => h.elim)).trans h2⟩
  have HF := hide hfin
  clear hfin HQ N1 hN
  cases b with
  | true =>
    go_wp2_with (with_reducible first | (first | refine' tw1 (ido ?_) ?_ | refine' tw2 (ido ?_) ?_); rotate_left | refine' tw3 (ido ?_) | rfl | apply tn | refine' tw4 ?_)
    go_ret2
    exact ⟨⟨_, rfl⟩, unhide HF⟩
  | false =>
    go_wp2_with (with_reducible first | (first | refine' tw1 (ido ?_) ?_ | refine' tw2 (ido ?_) ?_); rotate_left | refine' tw3 (ido ?_) | rfl | apply tn | refine' tw4 ?_)
    go_ret2
    refine ⟨⟨id, ?_⟩, unhide HF⟩
    rw [unhide HER]
    rfl
def NodeV.shutAt0 (N : NodeV) : NodeV := { N with shut := N.shut.set 0 true }
def NodeV.closes (N : NodeV) (er : Int) : NodeV := if er = 0 then N.shutAt0 else N
theorem shut_set (N : NodeV) (b : Bool) (t : List Bool) (h : N.shut = b :: t) : N.cells.toArray.setIfInBounds 3 (.bool true) = N.shutAt0.cells.toArray := by
  unfold NodeV.shutAt0 NodeV.cells
  rw [h]
  rfl
set_option maxRecDepth 100000 in
set_option maxHeartbeats 2000000 in
/-- Close of the one peer. -/
theorem close_any (g : Nat) (N : NodeV) (R : RelV) (ch : Int) (k : Nat) (S : Nat → Prop) (L : Lk) (m : Nat) (b : Bool) (t : List Bool) (w : World) (hN : NodS w g N R ch k S L m) (hb : N.shut = b :: t) (hk : LkOk L) (hsay : L.c.shut.2.2 = 0 → SayOk L.c.shut.2.1) (hm0 : L.c.shut.2.1.hash.length = 32) (hT : Tabs w) (hA : ApD S) :
    Calls Tryz.prog 36 #[.pointer (some ⟨g, 0, none⟩), .int .i64 0] w fun e w' => e = .returned (.int .i64 L.c.shut.2.2) ∧ NodS w' g (N.closes L.c.shut.2.2) R ch k (Fr S w w') L.shut m ∧ Upd (fun i => S i ∨ i = g) w w' := by
  obtain ⟨lv, cv, hI, -⟩ := hN.toI
  have c0 : w.cell? ⟨g, 0, none⟩ = some (.pointer (some ⟨N.re, 0, none⟩)) := blk_cell hN.no 0
  have hlk := link_at N.re R [⟨ch, k, lv, cv⟩] w hI.re (by simp) 0 ⟨ch, k, lv, cv⟩ rfl
  have hnr : g ≠ N.re := apart_ty' hN.no hN.re (by decide)
  clear hI
  go_enter Tryz.func36, Tryz.ntmps36
  go_wp2_with fail
  refine hlk.mono ?_
  rintro e w1 ⟨rfl, q1⟩
  have n1 : New w w1 := q1.upd _
  have hsh := lshut_any k S L w1 (hN.lk.new n1) hk hsay hm0 (hT.new n1) hA
  have N1 := hide n1
  clear hlk c0 q1 n1
  go_wp2_with fail
  refine hsh.mono ?_
  rintro e w2 ⟨rfl, hL, u2⟩
  have hN2 := (hN.new (unhide N1)).link u2 hL
  have f3 := blk_free hN2.no 3
  have d3 : w2.cell? ⟨g, 3, none⟩ = some (.bool b) := by
    rw [blk_cell hN2.no 3, List.getElem?_toArray]
    exact node_shut N 0 b (by rw [hb]; rfl)
  have hst := blk_set hN2.no 3 (.bool true)
  rw [shut_set N b t hb] at hst
  have u3 : Upd (· = g) w2 (w2.setCell ⟨g, 3, none⟩ (.bool true)) := (Upd.refl _ _).set1 _ _
  have hN3 : NodS (w2.setCell ⟨g, 3, none⟩ (.bool true)) g N.shutAt0 R ch k (Fr S w1 w2) L.shut m := by
    refine ⟨hst, u3.old hN2.re (fun e => hnr e.symm), row_upd' hN2.row u3 (fun i hi e => ?_), hN2.lk.upd u3 (fun i hi e => hN2.gS (e ▸ hi)), Nat.le_trans hN2.bsle u3.size, hN2.pay, hN2.gS, hN2.rS, hN2.bS, hN2.mS, Nat.lt_of_lt_of_le hN2.mlt u3.size⟩
    obtain ⟨cur, hc⟩ := own_blk' hN2.row i hi
    exact apart_ty' hc hN2.no (by decide) e
  have z1 := (unhide N1).size
  have HQ := hide (And.intro (hN.later hN3 rfl z1 u3.size) (And.intro (hN.later hN2 rfl z1 (Nat.le_refl _)) (And.intro u2 u3)))
  clear hN2 hL u2 hst u3 hN3 hsh hsay hm0 hk
  generalize he : L.c.shut.2.2 = er
  have HER := hide he
  clear he
  by_cases h0 : er = 0
  · subst h0
    go_wp2_with fail
    go_ret
    obtain ⟨h1, h2, u2, u3⟩ := unhide HQ
    rw [unhide HER]
    exact ⟨rfl, h1, (((unhide N1).mono (fun _ _ h => h.elim)).trans (u2.mono (fun i _ e => .inl e))).trans (u3.mono (fun i _ e => .inr e))⟩
  · go_upto_if 18 with fail
    refine wp_cond_true (congrArg Value.bool (show (er != 0) = true by simpa using h0)) ?_
    go_wp2_with fail
    go_ret
    obtain ⟨h1, h2, u2, u3⟩ := unhide HQ
    rw [unhide HER]
    unfold NodeV.closes
    rw [if_neg h0]
    exact ⟨rfl, h2, ((unhide N1).mono (fun _ _ h => h.elim)).trans (u2.mono (fun i _ e => .inl e))⟩
end Go.Proofs.YtfmkdoachjgjbaaGreatDoor
