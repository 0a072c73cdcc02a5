/-
  A channel whole: its cells, and what its rows hold; what is written into it.
-/
import Derived.Test.YtainkaojnhfldaaGreatDoorMbc
set_option linter.unusedVariables false
set_option linter.unusedSimpArgs false
namespace Go.Proofs.YtainkaojnhfldaaGreatDoor
open Go.RowKit

theorem row_upd' {S : Nat → Prop} {w w' : World} {base : Nat} {e : TypeId} {size : Nat} {v : Value} {n : Nat} {xs : List Value} (h : w.ownsRow base e size v n xs) (u : Upd S w w') (hS : ∀ k, v.ownBlock = some k → ¬ S k) : w'.ownsRow base e size v n xs := by
  refine ⟨h.1, ?_⟩
  rcases h.2 with h | ⟨g, cap, cur, e1, e2, hg, r⟩
  · exact .inl h
  · exact .inr ⟨g, cap, cur, e1, e2, u.old hg (hS g (by rw [e1]; rfl)), r⟩
theorem own_blk' {w : World} {base : Nat} {e : TypeId} {size : Nat} {v : Value} {n : Nat} {xs : List Value} (h : w.ownsRow base e size v n xs) : ∀ k, v.ownBlock = some k → ∃ cur, w.heap[k]? = some (.cells cur e (0, 0)) := by
  intro k hk
  rcases h.2 with ⟨rfl, _⟩ | ⟨g, cap, cur, rfl, e2, hg, _⟩
  · simp [Value.ownBlock] at hk
  · simp [Value.ownBlock] at hk
    exact ⟨cur, hk ▸ hg⟩
/-- Blocks of other types are apart. -/
theorem apart_ty' {w : World} {k j : Nat} {c d : Array Value} {T U : TypeId} {x y : Nat × Nat} (h : w.heap[k]? = some (.cells c T x)) (g : w.heap[j]? = some (.cells d U y)) (n : T ≠ U) : k ≠ j := by
  rintro rfl
  rw [h] at g
  injection g with g
  injection g with _ g
  exact n g
theorem own_shape' {w : World} {base : Nat} {e : TypeId} {size : Nat} {v : Value} {n : Nat} {xs : List Value} (h : w.ownsRow base e size v n xs) : ∃ a cap, v = .slice a n cap := by
  rcases h.2 with ⟨e, e0⟩ | ⟨g, cap, cur, e, _⟩
  · exact ⟨none, 0, by rw [e, e0]⟩
  · exact ⟨_, cap, e⟩
theorem results_row_tmp' {P : Program} {fn : Func} {p u : Tmp} {ty : TypeId} (h : fn.results = #[.cell p ty, .tmp u]) (tmps : Array Value) (w : World) (g : Nat) (t : TypeId) (cs : Array Value) (fr : Nat × Nat) (d : TypeDesc)
    (hp : tmps.getD p undef = .pointer (some ⟨g, 0, none⟩)) (hg : w.heap[g]? = some (.cells cs t fr))
    (hu : P.underlying ty = some d) (hd : (match d with | .struct _ | .array _ _ => true | _ => false) = true) (hi : (P.info? ty).map (·.size) = some cs.size) :
    (results fn tmps).run P w = .ok (.tuple #[.agg cs, tmps.getD u undef]) w := by
  rw [results_cell_tmp h, hp]
  simp [asAddr, run_loadVar_row w g t ty cs fr d hg hu hd hi, Result.andThen]
/-- An end of a channel, as plain data. -/
structure Ch where
  s : SetupV
  k : CountsV
  loc : Int
  rem : Int
  xs : List Live
  shelf : List KeptV
  news : List MsgV
  last : List MsgV
def Ch.v (c : Ch) (lv nv av : Value) : ChanV := ⟨c.s, c.k, c.loc, c.rem, lv, c.shelf, nv, av⟩
/-- A row of lives; of messages. -/
def LivesO (w : World) (v : Value) (xs : List Live) : Prop := w.ownsRow 0 128 38 v xs.length (xs.flatMap liveCells)
def MsgsO (w : World) (v : Value) (ms : List MsgV) : Prop := w.ownsRow 0 72 38 v ms.length (ms.flatMap MsgV.cells)
def MsgsOk (ms : List MsgV) : Prop := ∀ m ∈ ms, m.hash.length = 32
/-- Numbers that fit. -/
structure Ch.Ok (c : Ch) : Prop where
  s : c.s.Ok
  signed : 0 ≤ c.k.signed ∧ c.k.signed ≤ 65535
  heard : 0 ≤ c.k.heard ∧ c.k.heard < 4294967296
  nextOwn : 0 ≤ c.k.nextOwn ∧ c.k.nextOwn < 18446744073709551616
  nextTheirs : 0 ≤ c.k.nextTheirs ∧ c.k.nextTheirs < 18446744073709551616
  loc : 0 ≤ c.loc ∧ c.loc < 18446744073709551616
  rem : 0 ≤ c.rem ∧ c.rem < 18446744073709551616
  xs : ∀ x ∈ c.xs, LiveOk x
  few : c.xs.length ≤ 1000000
  shelf : c.shelf.length = 17 ∧ ∀ p ∈ c.shelf, p.told.length = 32
  news : MsgsOk c.news
  last : MsgsOk c.last
  many : c.news.length ≤ 1000000 ∧ c.last.length ≤ 1000000
/-- A channel lies in block g; all its blocks are in S. -/
structure ChP (w : World) (g : Nat) (S : Nat → Prop) (c : Ch) (lv nv av : Value) : Prop where
  at_ : w.heap[g]? = some (.cells (c.v lv nv av).cells.toArray 104 (0, 0))
  ok : c.Ok
  live : LivesO w lv c.xs
  news : MsgsO w nv c.news
  last : MsgsO w av c.last
  inG : S g
  inL : ∀ k, lv.ownBlock = some k → S k
  inN : ∀ k, nv.ownBlock = some k → S k
  inA : ∀ k, av.ownBlock = some k → S k
  sep : ∀ k, nv.ownBlock = some k → av.ownBlock ≠ some k
  lt : ∀ k, S k → k < w.heap.size
/-- The same, its rows' values left open. -/
def ChS (w : World) (g : Nat) (S : Nat → Prop) (c : Ch) : Prop := ∃ lv nv av, ChP w g S c lv nv av
/-- S, and what is made from w to w'. -/
def Fr (S : Nat → Prop) (w w' : World) (k : Nat) : Prop := S k ∨ (w.heap.size ≤ k ∧ k < w'.heap.size)
section
variable {w w' : World} {g : Nat} {S T : Nat → Prop} {c : Ch} {lv nv av : Value}
theorem ChP.upd (h : ChP w g S c lv nv av) (u : Upd T w w') (hd : ∀ k, S k → ¬ T k) : ChP w' g S c lv nv av :=
  ⟨u.old h.at_ (hd g h.inG), h.ok, row_upd' h.live u (fun k hk => hd k (h.inL k hk)), row_upd' h.news u (fun k hk => hd k (h.inN k hk)), row_upd' h.last u (fun k hk => hd k (h.inA k hk)), h.inG, h.inL, h.inN, h.inA, h.sep, fun k hk => Nat.lt_of_lt_of_le (h.lt k hk) u.size⟩
theorem ChP.new (h : ChP w g S c lv nv av) (u : New w w') : ChP w' g S c lv nv av := h.upd u (fun _ _ h => h)
theorem ChP.wider (h : ChP w g S c lv nv av) (hs : ∀ k, S k → T k) (hl : ∀ k, T k → k < w.heap.size) : ChP w g T c lv nv av :=
  ⟨h.at_, h.ok, h.live, h.news, h.last, hs g h.inG, fun k e => hs k (h.inL k e), fun k e => hs k (h.inN k e), fun k e => hs k (h.inA k e), h.sep, hl⟩
theorem ChP.fr (h : ChP w' g S c lv nv av) (w : World) : ChS w' g (Fr S w w') c := ⟨_, _, _, h.wider (fun k hk => .inl hk) (fun k hk => hk.elim (h.lt k) (fun e => e.2))⟩
theorem ChS.upd (h : ChS w g S c) (u : Upd T w w') (hd : ∀ k, S k → ¬ T k) : ChS w' g S c := by
  obtain ⟨a, b, d, h⟩ := h
  exact ⟨a, b, d, h.upd u hd⟩
theorem ChS.new (h : ChS w g S c) (u : New w w') : ChS w' g S c := h.upd u (fun _ _ h => h)
theorem ChS.lt (h : ChS w g S c) : ∀ k, S k → k < w.heap.size := by
  obtain ⟨a, b, d, h⟩ := h
  exact h.lt
theorem ChP.toR (h : ChP w g S c lv nv av) : ChR w g (c.v lv nv av) := ⟨h.at_, h.ok.s.seed⟩
theorem ChP.toI (h : ChP w g S c lv nv av) : ChI w g (c.v lv nv av) c.xs := ⟨h.toR, h.live⟩
end

/-- One cell set. -/
theorem ChP.put {w : World} {g : Nat} {S : Nat → Prop} {c c' : Ch} {lv nv av : Value} (h : ChP w g S c lv nv av) {i : Nat} {x : Value} (he : (c.v lv nv av).cells.toArray.setIfInBounds i x = (c'.v lv nv av).cells.toArray) (hk : c'.Ok) (hx : c'.xs = c.xs) (hn : c'.news = c.news) (hl : c'.last = c.last) : ChP (w.setCell ⟨g, i, none⟩ x) g S c' lv nv av := by
  have u : Upd (· = g) w (w.setCell ⟨g, i, none⟩ x) := (Upd.refl _ _).set1 i x
  have ty : ∀ {T : TypeId} {v : Value} {n : Nat} {xs : List Value}, T ≠ 104 → w.ownsRow 0 T 38 v n xs → ∀ k, v.ownBlock = some k → ¬ k = g := by
    intro T v n xs hT hr k hk e
    obtain ⟨cur, hc⟩ := own_blk' hr k hk
    exact apart_ty' hc h.at_ hT e
  refine ⟨?_, hk, ?_, ?_, ?_, h.inG, h.inL, h.inN, h.inA, h.sep, fun k hk => Nat.lt_of_lt_of_le (h.lt k hk) u.size⟩
  · have := blk_set h.at_ i x
    rw [he] at this
    exact this
  · rw [hx]; exact row_upd' h.live u (ty (by decide) h.live)
  · rw [hn]; exact row_upd' h.news u (ty (by decide) h.news)
  · rw [hl]; exact row_upd' h.last u (ty (by decide) h.last)

-- a channel's cells, one of them set
theorem cells_set_mid (v : ChanV) (h : v.setup.seed.length = 32) (i : Nat) (x : Value) : v.cells.toArray.setIfInBounds (37 + i) x = (v.setup.cells ++ (v.k.cells ++ v.rest).set i x).toArray := by
  unfold ChanV.cells
  rw [List.setIfInBounds_toArray, List.set_append_right _ _ (by rw [v.setup.len h]; omega), v.setup.len h, Nat.add_sub_cancel_left]
theorem told_len (l : List KeptV) (h : ∀ p ∈ l, p.told.length = 32) : (l.flatMap KeptV.cells).length = l.length * 34 := by
  induction l with
  | nil => rfl
  | cons x l ih =>
    rw [List.flatMap_cons, List.length_append, ih (fun p hp => h p (List.mem_cons_of_mem _ hp)), List.length_cons]
    have := h x (List.mem_cons_self ..)
    simp [KeptV.cells, this]
    omega
section
variable (c : Ch) (lv nv av : Value) (h : c.s.seed.length = 32)
include h
theorem set_nextOwn (n : Int) : (c.v lv nv av).cells.toArray.setIfInBounds 40 (.int .u64 n) = (({ c with k := { c.k with nextOwn := n } } : Ch).v lv nv av).cells.toArray := cells_set_mid (c.v lv nv av) h 3 _
theorem set_shutSaid (b : Bool) : (c.v lv nv av).cells.toArray.setIfInBounds 42 (.bool b) = (({ c with k := { c.k with shutSaid := b } } : Ch).v lv nv av).cells.toArray := cells_set_mid (c.v lv nv av) h 5 _
theorem set_loc (n : Int) : (c.v lv nv av).cells.toArray.setIfInBounds 45 (.int .u64 n) = (({ c with loc := n } : Ch).v lv nv av).cells.toArray := cells_set_mid (c.v lv nv av) h 8 _
theorem set_live (xs : List Live) (v : Value) : (c.v lv nv av).cells.toArray.setIfInBounds 47 v = (({ c with xs := xs } : Ch).v v nv av).cells.toArray := cells_set_mid (c.v lv nv av) h 10 _
theorem set_news (hk : c.shelf.length = 17 ∧ ∀ p ∈ c.shelf, p.told.length = 32) (ms : List MsgV) (v : Value) : (c.v lv nv av).cells.toArray.setIfInBounds 626 v = (({ c with news := ms } : Ch).v lv v av).cells.toArray := by
  have e := cells_set_mid (c.v lv nv av) h 589 v
  rw [show 37 + 589 = 626 from rfl] at e
  rw [e]
  have ht : (c.v lv nv av).told.length = 578 := by show (c.shelf.flatMap KeptV.cells).length = 578; rw [told_len _ hk.2, hk.1]
  have hset : ((c.v lv nv av).k.cells ++ (c.v lv nv av).rest).set 589 v = c.k.cells ++ (({ c with news := ms } : Ch).v lv v av).rest := by
    unfold ChanV.rest
    have h1 : (c.v lv nv av).k.cells.length = 8 := rfl
    rw [List.set_append_right _ _ (by rw [h1]; omega), h1]
    show c.k.cells ++ (Value.int .u64 c.loc :: Value.int .u64 c.rem :: lv :: ((c.v lv nv av).told ++ [nv, av])).set 581 v = _
    rw [List.set_cons_succ, List.set_cons_succ, List.set_cons_succ, List.set_append_right _ _ (by rw [ht]; omega), ht]
    rfl
  rw [hset]
  rfl
theorem set_last (hk : c.shelf.length = 17 ∧ ∀ p ∈ c.shelf, p.told.length = 32) (ms : List MsgV) (v : Value) : (c.v lv nv av).cells.toArray.setIfInBounds 627 v = (({ c with last := ms } : Ch).v lv nv v).cells.toArray := by
  have e := cells_set_mid (c.v lv nv av) h 590 v
  rw [show 37 + 590 = 627 from rfl] at e
  rw [e]
  have ht : (c.v lv nv av).told.length = 578 := by show (c.shelf.flatMap KeptV.cells).length = 578; rw [told_len _ hk.2, hk.1]
  have hset : ((c.v lv nv av).k.cells ++ (c.v lv nv av).rest).set 590 v = c.k.cells ++ (({ c with last := ms } : Ch).v lv nv v).rest := by
    unfold ChanV.rest
    have h1 : (c.v lv nv av).k.cells.length = 8 := rfl
    rw [List.set_append_right _ _ (by rw [h1]; omega), h1]
    show c.k.cells ++ (Value.int .u64 c.loc :: Value.int .u64 c.rem :: lv :: ((c.v lv nv av).told ++ [nv, av])).set 582 v = _
    rw [List.set_cons_succ, List.set_cons_succ, List.set_cons_succ, List.set_append_right _ _ (by rw [ht]; omega), ht]
    rfl
  rw [hset]
  rfl
theorem get_news (hk : c.shelf.length = 17 ∧ ∀ p ∈ c.shelf, p.told.length = 32) : (c.v lv nv av).cells.toArray[626]? = some nv := by
  rw [List.getElem?_toArray, show 626 = 37 + 589 from rfl, cells_mid _ h]
  have ht : (c.v lv nv av).told.length = 578 := by show (c.shelf.flatMap KeptV.cells).length = 578; rw [told_len _ hk.2, hk.1]
  unfold ChanV.rest
  have h1 : (c.v lv nv av).k.cells.length = 8 := rfl
  rw [List.getElem?_append_right (by rw [h1]; omega), h1]
  show (Value.int .u64 c.loc :: Value.int .u64 c.rem :: lv :: ((c.v lv nv av).told ++ [nv, av]))[581]? = _
  rw [List.getElem?_cons_succ, List.getElem?_cons_succ, List.getElem?_cons_succ, List.getElem?_append_right (by rw [ht]; omega), ht]
  rfl
end
end Go.Proofs.YtainkaojnhfldaaGreatDoor
