/-
  A node with one peer: Pay, Close.
-/
import Derived.Test.YtainkaojnhfldaaGreatDoorMea
import Derived.Test.YtainkaojnhfldaaGreatDoorNd9
import Derived.Test.YtainkaojnhfldaaGreatDoorMeg
import Derived.MapKept
set_option linter.unusedVariables false
set_option linter.unusedSimpArgs false
namespace Go.Proofs.YtainkaojnhfldaaGreatDoor
open Go.RowKit

/-- A map set. -/
def mapW (w : World) (m : Nat) (o : Obj) : World := { w with heap := w.heap.setIfInBounds m o }
theorem mapW_upd (w : World) (m : Nat) (o : Obj) : Upd (· = m) w (mapW w m o) := by
  refine ⟨rfl, rfl, rfl, by simp [mapW], fun k _ hk => ?_⟩
  show (w.heap.setIfInBounds m o)[k]? = w.heap[k]?
  rw [Array.getElem?_setIfInBounds_ne (fun e => hk e.symm)]
theorem run_pays (w : World) (m : Nat) (a b : Int) (v : Value) (h : EmM w m) : (Instr.mapUpdate 112 (.map (some m)) (.agg #[.int .i64 a, .int .u64 b]) v).run Tryz.prog w = .ok () (mapW w m (.map #[{ key := .agg #[.int .i64 a, .int .u64 b], val := v, born := 0 }] 1)) := by
  have hb : w.heap[m]? = some (.map #[] 0) := h
  have hf : Instr.findNow (.struct #[]) (.agg #[.int .i64 a, .int .u64 b]) ([] : List MapEntry) 0 = some none := rfl
  have hc : (Instr.checkKey false 10000 124 (.agg #[.int .i64 a, .int .u64 b])).run Tryz.prog w = .ok () w := by kernel_rfl
  have hk : (Instr.findKey 124 (.agg #[.int .i64 a, .int .u64 b]) []).run Tryz.prog w = .ok none w := MapKept.run_findKey Tryz.underlying124 rfl
  simp [Instr.mapUpdate, run_underlying Tryz.underlying112, MapKept.run_getObj_map hb, hc, hk, MapKept.run_setObj_map _ hb, Result.andThen, mapW]
/-- A node with one peer, whole: its link, and all of it, in S. -/
structure NodS (w : World) (g : Nat) (N : NodeV) (R : RelV) (ch : Int) (k : Nat) (S : Nat → Prop) (L : Lk) (m : Nat) : Prop where
  no : NoR w g N
  re : ReR w N.re R
  row : w.ownsRow R.bs 116 2 R.peers 1 [.int .u32 ch, ptrV k]
  lk : LkS w k S L
  bsle : R.bs ≤ w.heap.size
  pay : R.payments = mapV m
  gS : ¬ S g
  rS : ¬ S N.re
  bS : ∀ b, R.peers.ownBlock = some b → ¬ S b
  mS : ¬ S m
  mlt : m < w.heap.size
section
variable {w w' : World} {g : Nat} {N : NodeV} {R : RelV} {ch : Int} {k : Nat} {S T : Nat → Prop} {L L' : Lk} {m : Nat}
theorem NodS.toI (h : NodS w g N R ch k S L m) : ∃ lv cv, NodI w g N R [⟨ch, k, lv, cv⟩] ∧ ChI w lv.en cv L.c.xs ∧ cv.setup = L.c.s ∧ cv.loc = L.c.loc ∧ cv.rem = L.c.rem ∧ cv.k = L.c.k ∧ L.c.Ok := by
  obtain ⟨sp, en, lo, SC, SJ, hl⟩ := h.lk
  obtain ⟨a, b, d, hc⟩ := hl.chn
  refine ⟨L.v sp en lo, L.c.v a b d, ⟨h.no, h.re, h.row, ?_, h.bsle⟩, hc.toI, rfl, rfl, rfl, rfl, hc.ok⟩
  intro p hp
  rw [List.mem_singleton.1 hp]
  exact ⟨hl.at_, hc.toR⟩
theorem NodS.new (h : NodS w g N R ch k S L m) (u : New w w') : NodS w' g N R ch k S L m :=
  ⟨u.old h.no (fun h => h), u.old h.re (fun h => h), owns_new h.row u, h.lk.new u, Nat.le_trans h.bsle u.size, h.pay, h.gS, h.rS, h.bS, h.mS, Nat.lt_of_lt_of_le h.mlt u.size⟩
theorem NodS.link (h : NodS w g N R ch k S L m) (u : Upd S w w') (hl : LkS w' k (Fr S w w') L') : NodS w' g N R ch k (Fr S w w') L' m := by
  have hf : ∀ k, k < w.heap.size → ¬ S k → ¬ Fr S w w' k := fun k hk hs e => e.elim hs (fun e => by omega)
  have hb : ∀ b, R.peers.ownBlock = some b → b < w.heap.size := fun b hb => by
    obtain ⟨cur, hc⟩ := own_blk' h.row b hb
    exact blk_lt hc
  exact ⟨u.old h.no h.gS, u.old h.re h.rS, row_upd' h.row u (fun b e => h.bS b e), hl, Nat.le_trans h.bsle u.size, h.pay, hf _ (blk_lt h.no) h.gS, hf _ (blk_lt h.re) h.rS, fun b e => hf _ (hb b e) (h.bS b e), hf _ h.mlt h.mS, Nat.lt_of_lt_of_le h.mlt u.size⟩
theorem ne_map {w : World} {i m : Nat} {cs : Array Value} {T : TypeId} {z : Nat × Nat} {es : Array MapEntry} {cl : Nat} (h : w.heap[i]? = some (.cells cs T z)) (hm : w.heap[m]? = some (.map es cl)) : i ≠ m := by
  rintro rfl
  rw [h] at hm
  cases hm
theorem NodS.paid (h : NodS w g N R ch k S L m) (hm : EmM w m) (o : Obj) : NodS (mapW w m o) g N R ch k S L m := by
  have u := mapW_upd w m o
  refine ⟨u.old h.no (ne_map h.no hm), u.old h.re (ne_map h.re hm), row_upd' h.row u (fun b e => ?_), h.lk.upd u (fun k hk e => h.mS (e ▸ hk)), Nat.le_trans h.bsle u.size, h.pay, h.gS, h.rS, h.bS, h.mS, Nat.lt_of_lt_of_le h.mlt u.size⟩
  obtain ⟨cur, hc⟩ := own_blk' h.row b e
  exact ne_map hc hm
end
theorem NodS.later {w w2 w3 w' : World} {g : Nat} {N N' : NodeV} {R : RelV} {ch : Int} {k : Nat} {S : Nat → Prop} {L L' : Lk} {m : Nat} (h0 : NodS w g N R ch k S L m) (h : NodS w' g N' R ch k (Fr S w2 w3) L' m) (hr : N'.re = N.re) (h1 : w.heap.size ≤ w2.heap.size) (h2 : w3.heap.size ≤ w'.heap.size) : NodS w' g N' R ch k (Fr S w w') L' m := by
  have hf : ∀ k, k < w.heap.size → ¬ S k → ¬ Fr S w w' k := fun k hk hs e => e.elim hs (fun e => by omega)
  have hb : ∀ b, R.peers.ownBlock = some b → b < w.heap.size := fun b hb => by
    obtain ⟨cur, hc⟩ := own_blk' h0.row b hb
    exact blk_lt hc
  have hl := h.lk.lt
  exact ⟨h.no, h.re, h.row, h.lk.wider (fun k hk => hk.elim .inl (fun e => .inr ⟨by omega, by omega⟩)) (fun k hk => hk.elim (fun e => hl k (.inl e)) (fun e => e.2)), h.bsle, h.pay, hf _ (blk_lt h0.no) h0.gS, hf _ (by rw [hr]; exact blk_lt h0.re) (by rw [hr]; exact h0.rS), fun b e => hf _ (hb b e) (h0.bS b e), hf _ h0.mlt h0.mS, h.mlt⟩
/-- What a peer's channel and link can bear, for Pay. -/
structure PayOk (w : World) (L : Lk) (n x : Nat) (h : List Int) : Prop where
  ok : LkOk L
  len : h.length = 32
  bytes : Bytes h
  n8 : n < 2 ^ (8 * 8)
  x4 : x < 2 ^ (8 * 4)
  few : L.c.news.length < 1000000 ∧ L.c.xs.length < 1000000
  say : (L.c.offer n (hvec h) x).2.2 = 0 → SayOk (L.c.offer n (hvec h) x).2.1
  mlen : (L.c.offer n (hvec h) x).2.1.hash.length = 32
  tb : Tabs w
theorem PayOk.new {w w' : World} {L : Lk} {n x : Nat} {h : List Int} (p : PayOk w L n x h) (u : New w w') : PayOk w' L n x h := ⟨p.ok, p.len, p.bytes, p.n8, p.x4, p.few, p.say, p.mlen, p.tb.new u⟩
attribute [local go_sem ↓ high] ld_hsh_fold st_hsh_fold al_hsh_fold
attribute [local go_sem] ld_hsh st_hsh al_hsh rowN_drew run_pays
/-- What Pay of a relay comes to. -/
def PayEnd (w : World) (g : Nat) (N : NodeV) (R : RelV) (ch : Int) (k : Nat) (S : Nat → Prop) (L : Lk) (m : Nat) (n x : Nat) (h : List Int) (e : Ending) (w' : World) : Prop :=
  (∃ id : Int, e = .returned (.tuple #[.int .u64 id, .int .i64 (L.c.offer n (hvec h) x).2.2])) ∧ NodS w' g N R ch k (Fr S w w') (L.offers n x h) m ∧ Upd (fun i => S i ∨ i = m) w w'
set_option maxRecDepth 100000 in
set_option maxHeartbeats 2000000 in
theorem rpay_any (g : Nat) (N : NodeV) (R : RelV) (ch : Int) (k : Nat) (S : Nat → Prop) (L : Lk) (m : Nat) (n x : Nat) (h : List Int) (w : World) (hN : NodS w g N R ch k S L m) (hd : R.drains = false) (hE : EmM w m) (hp : PayOk w L n x h) (hA : ApD S) :
    Calls Tryz.prog 32 #[.pointer (some ⟨N.re, 0, none⟩), .int .i64 0, .int .u64 (n : Int), .agg (hshV h).toArray, .int .i64 (x : Int)] w fun e w' => PayEnd w g N R ch k S L m n x h e w' := by
  obtain ⟨lv, cv, hI, -⟩ := hN.toI
  have hl := hp.len
  have c6 : w.cell? ⟨N.re, 6, none⟩ = some (.bool false) := hd ▸ blk_cell hN.re 6
  have HI := hide hI
  clear hI
  go_enter Tryz.func32, Tryz.ntmps32
  go_upto_region 1 with fail
  have n1 : New w (w.alloc (.cells (hshV h).toArray 32)) := (Upd.refl _ _).alloc _
  have r1 : rowN (w.alloc (.cells (hshV h).toArray 32)) w.heap.size 0 32 = some (hshV h).toArray := rowN_whole (blk_alloc _ _) 32 (by rw [List.size_toArray, hshV_len, hl])
  generalize w.alloc (.cells (hshV h).toArray 32) = w1 at n1 r1 ⊢
  generalize w.heap.size = B at r1 ⊢
  replace c6 := n1.cell c6 (fun h => h)
  have N1 := hide n1
  clear n1
  have hlk := link_at N.re R [⟨ch, k, lv, cv⟩] w1 ((unhide HI).re.new (unhide N1)) (by simp) 0 ⟨ch, k, lv, cv⟩ rfl
  go_wp2_with fail
  refine hlk.mono ?_
  rintro e w2 ⟨rfl, q2⟩
  have n2 := (unhide N1).trans (q2.upd _)
  have r2 := rowN_upd r1 (q2.upd (fun _ => False)) (fun h => h)
  have N2 := hide n2
  have hoff := loffer_any k S L n x h w2 (hN.lk.new n2) hp.ok hp.len hp.bytes hp.n8 hp.x4 hp.few hp.say hp.mlen (hp.tb.new n2) hA
  clear hlk q2 n2 r1 N1 HI c6
  go_wp2_with fail
  refine hoff.mono ?_
  rintro e w3 ⟨rfl, hL, u3⟩
  have hN3 := (hN.new (unhide N2)).link u3 hL
  have hE3 : EmM w3 m := u3.old ((unhide N2).old hE (fun h => h)) hN.mS
  have c5 : w3.cell? ⟨N.re, 5, none⟩ = some (.map (some m)) := by
    have := blk_cell hN3.re 5
    rw [this]
    show some R.payments = _
    rw [hN.pay]
    rfl
  have HQ := hide (And.intro hN3 (And.intro hE3 u3))
  clear hoff hL u3 r2
  generalize hid : (actM (L.c.offer n (hvec h) x).2.1 (L.c.offer n (hvec h) x).2.2).id = id
  generalize her : (L.c.offer n (hvec h) x).2.2 = er
  have HER := hide her
  have hz2 := (unhide N2).size
  clear hid her
  by_cases h0 : er = 0
  · subst h0
    have hN4 := fun o => hN3.paid hE3 o
    have HN4 := hide hN4
    clear hN3 hN4
    have z4 : ∀ o, w3.heap.size ≤ (mapW w3 m o).heap.size := fun o => (mapW_upd w3 m o).size
    have Z4 := hide z4
    clear z4
    go_wp2_with fail
    go_ret2
    unfold PayEnd
    rw [unhide HER]
    exact ⟨⟨_, rfl⟩, hN.later (unhide HN4 _) rfl hz2 (unhide Z4 _), (((unhide N2).mono (fun _ _ h => h.elim)).trans ((unhide HQ).2.2.mono (fun i _ e => .inl e))).trans ((mapW_upd _ _ _).mono (fun i _ e => .inr e))⟩
  · have hN3' := hide hN3
    clear hN3 hE3 c5
    go_upto_if 33 with fail
    refine wp_cond_true (congrArg Value.bool (show (er != 0) = true by simpa using h0)) ?_
    go_wp2_with fail
    go_ret2
    unfold PayEnd
    rw [unhide HER]
    exact ⟨⟨_, rfl⟩, hN.later (unhide hN3') rfl hz2 (Nat.le_refl _), ((unhide N2).mono (fun _ _ h => h.elim)).trans ((unhide HQ).2.2.mono (fun i _ e => .inl e))⟩
end Go.Proofs.YtainkaojnhfldaaGreatDoor
