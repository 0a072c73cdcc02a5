/-
  A channel whole: its cells, and what its rows hold; what is written into it.
-/
import Derived.Test.YtfmkdoachjgjbaaGreatDoorMai
import Derived.Deep.Onto
import Derived.Maps.AppendAt
import Derived.Deep.AppendLies
set_option linter.unusedVariables false
set_option linter.unusedSimpArgs false
namespace Go.Proofs.YtfmkdoachjgjbaaGreatDoor
open Go.RowKit

theorem row_upd' {S : Nat → Prop} {w w' : World} {base : Nat} {e : TypeId} {size : Nat} {v : Value} {n : Nat} {xs : List Value} (h : w.ownsRow base e size v n xs) (u : Upd S w w') (hS : ∀ k, v.ownBlock = some k → ¬ S k) : w'.ownsRow base e size v n xs := by
  refine ⟨h.1, ?_⟩
  rcases h.2 with h | ⟨g, cap, cur, e1, e2, hg, r⟩
  · exact .inl h
  · exact .inr ⟨g, cap, cur, e1, e2, u.old hg (hS g (by rw [e1]; rfl)), r⟩
theorem own_blk' {w : World} {base : Nat} {e : TypeId} {size : Nat} {v : Value} {n : Nat} {xs : List Value} (h : w.ownsRow base e size v n xs) : ∀ k, v.ownBlock = some k → ∃ cur, w.heap[k]? = some (.cells cur e (0, 0)) := by
  intro k hk
  rcases h.2 with ⟨rfl, _⟩ | ⟨g, cap, cur, rfl, e2, hg, _⟩
  · simp [Value.ownBlock] at hk
  · simp [Value.ownBlock] at hk
    exact ⟨cur, hk ▸ hg⟩
/-- Blocks of other types are apart. -/
theorem apart_ty' {w : World} {k j : Nat} {c d : Array Value} {T U : TypeId} {x y : Nat × Nat} (h : w.heap[k]? = some (.cells c T x)) (g : w.heap[j]? = some (.cells d U y)) (n : T ≠ U) : k ≠ j := by
  rintro rfl
  rw [h] at g
  injection g with g
  injection g with _ g
  exact n g
theorem own_shape' {w : World} {base : Nat} {e : TypeId} {size : Nat} {v : Value} {n : Nat} {xs : List Value} (h : w.ownsRow base e size v n xs) : ∃ a cap, v = .slice a n cap := by
  rcases h.2 with ⟨e, e0⟩ | ⟨g, cap, cur, e, _⟩
  · exact ⟨none, 0, by rw [e, e0]⟩
  · exact ⟨_, cap, e⟩
theorem results_row_tmp' {P : Program} {fn : Func} {p u : Tmp} {ty : TypeId} (h : fn.results = #[.cell p ty, .tmp u]) (tmps : Array Value) (w : World) (g : Nat) (t : TypeId) (cs : Array Value) (fr : Nat × Nat) (d : TypeDesc)
    (hp : tmps.getD p undef = .pointer (some ⟨g, 0, none⟩)) (hg : w.heap[g]? = some (.cells cs t fr))
    (hu : P.underlying ty = some d) (hd : (match d with | .struct _ | .array _ _ => true | _ => false) = true) (hi : (P.info? ty).map (·.size) = some cs.size) :
    (results fn tmps).run P w = .ok (.tuple #[.agg cs, tmps.getD u undef]) w := by
  rw [results_cell_tmp h, hp]
  simp [asAddr, run_loadVar_row w g t ty cs fr d hg hu hd hi, Result.andThen]
/-- An end of a channel, as plain data. -/
structure Ch where
  s : SetupV
  k : CountsV
  loc : Int
  rem : Int
  xs : List Live
  shelf : List KeptV
  news : List MsgV
  last : List MsgV
def Ch.v (c : Ch) (lv nv av : Value) : ChanV := ⟨c.s, c.k, c.loc, c.rem, lv, c.shelf, nv, av⟩
/-- A row of lives; of messages. -/
def LivesO (w : World) (v : Value) (xs : List Live) : Prop := w.ownsRow 0 69 38 v xs.length (xs.flatMap liveCells)
def MsgsO (w : World) (v : Value) (ms : List MsgV) : Prop := w.ownsRow 0 101 38 v ms.length (ms.flatMap MsgV.cells)
def MsgsOk (ms : List MsgV) : Prop := ∀ m ∈ ms, m.hash.length = 32
/-- Numbers that fit. -/
structure Ch.Ok (c : Ch) : Prop where
  s : c.s.Ok
  signed : 0 ≤ c.k.signed ∧ c.k.signed ≤ 65535
  heard : 0 ≤ c.k.heard ∧ c.k.heard < 4294967296
  nextOwn : 0 ≤ c.k.nextOwn ∧ c.k.nextOwn < 18446744073709551616
  nextTheirs : 0 ≤ c.k.nextTheirs ∧ c.k.nextTheirs < 18446744073709551616
  loc : 0 ≤ c.loc ∧ c.loc < 18446744073709551616
  rem : 0 ≤ c.rem ∧ c.rem < 18446744073709551616
  xs : ∀ x ∈ c.xs, LiveOk x
  few : c.xs.length ≤ 1000000
  shelf : c.shelf.length = 17 ∧ ∀ p ∈ c.shelf, p.told.length = 32
  news : MsgsOk c.news
  last : MsgsOk c.last
  many : c.news.length ≤ 1000000 ∧ c.last.length ≤ 1000000
/-- A channel lies in block g; all its blocks are in S. -/
structure ChP (w : World) (g : Nat) (S : Nat → Prop) (c : Ch) (lv nv av : Value) : Prop where
  at_ : w.heap[g]? = some (.cells (c.v lv nv av).cells.toArray 126 (0, 0))
  ok : c.Ok
  live : LivesO w lv c.xs
  news : MsgsO w nv c.news
  last : MsgsO w av c.last
  inG : S g
  inL : ∀ k, lv.ownBlock = some k → S k
  inN : ∀ k, nv.ownBlock = some k → S k
  inA : ∀ k, av.ownBlock = some k → S k
  sep : ∀ k, nv.ownBlock = some k → av.ownBlock ≠ some k
  lt : ∀ k, S k → k < w.heap.size
/-- The same, its rows' values left open. -/
def ChS (w : World) (g : Nat) (S : Nat → Prop) (c : Ch) : Prop := ∃ lv nv av, ChP w g S c lv nv av
/-- S, and what is made from w to w'. -/
def Fr (S : Nat → Prop) (w w' : World) (k : Nat) : Prop := S k ∨ (w.heap.size ≤ k ∧ k < w'.heap.size)
section
variable {w w' : World} {g : Nat} {S T : Nat → Prop} {c : Ch} {lv nv av : Value}
theorem ChP.upd (h : ChP w g S c lv nv av) (u : Upd T w w') (hd : ∀ k, S k → ¬ T k) : ChP w' g S c lv nv av :=
  ⟨u.old h.at_ (hd g h.inG), h.ok, row_upd' h.live u (fun k hk => hd k (h.inL k hk)), row_upd' h.news u (fun k hk => hd k (h.inN k hk)), row_upd' h.last u (fun k hk => hd k (h.inA k hk)), h.inG, h.inL, h.inN, h.inA, h.sep, fun k hk => Nat.lt_of_lt_of_le (h.lt k hk) u.size⟩
theorem ChP.new (h : ChP w g S c lv nv av) (u : New w w') : ChP w' g S c lv nv av := h.upd u (fun _ _ h => h)
theorem ChP.wider (h : ChP w g S c lv nv av) (hs : ∀ k, S k → T k) (hl : ∀ k, T k → k < w.heap.size) : ChP w g T c lv nv av :=
  ⟨h.at_, h.ok, h.live, h.news, h.last, hs g h.inG, fun k e => hs k (h.inL k e), fun k e => hs k (h.inN k e), fun k e => hs k (h.inA k e), h.sep, hl⟩
theorem ChP.fr (h : ChP w' g S c lv nv av) (w : World) : ChS w' g (Fr S w w') c := ⟨_, _, _, h.wider (fun k hk => .inl hk) (fun k hk => hk.elim (h.lt k) (fun e => e.2))⟩
theorem ChS.upd (h : ChS w g S c) (u : Upd T w w') (hd : ∀ k, S k → ¬ T k) : ChS w' g S c := by
  obtain ⟨a, b, d, h⟩ := h
  exact ⟨a, b, d, h.upd u hd⟩
theorem ChS.new (h : ChS w g S c) (u : New w w') : ChS w' g S c := h.upd u (fun _ _ h => h)
theorem ChS.lt (h : ChS w g S c) : ∀ k, S k → k < w.heap.size := by
  obtain ⟨a, b, d, h⟩ := h
  exact h.lt
theorem ChP.toR (h : ChP w g S c lv nv av) : ChR w g (c.v lv nv av) := ⟨h.at_, h.ok.s.seed⟩
theorem ChP.toI (h : ChP w g S c lv nv av) : ChI w g (c.v lv nv av) c.xs := ⟨h.toR, h.live⟩
end

/-- One cell set. -/
theorem ChP.put {w : World} {g : Nat} {S : Nat → Prop} {c c' : Ch} {lv nv av : Value} (h : ChP w g S c lv nv av) {i : Nat} {x : Value} (he : (c.v lv nv av).cells.toArray.setIfInBounds i x = (c'.v lv nv av).cells.toArray) (hk : c'.Ok) (hx : c'.xs = c.xs) (hn : c'.news = c.news) (hl : c'.last = c.last) : ChP (w.setCell ⟨g, i, none⟩ x) g S c' lv nv av := by
  have u : Upd (· = g) w (w.setCell ⟨g, i, none⟩ x) := (Upd.refl _ _).set1 i x
  have ty : ∀ {T : TypeId} {v : Value} {n : Nat} {xs : List Value}, T ≠ 126 → w.ownsRow 0 T 38 v n xs → ∀ k, v.ownBlock = some k → ¬ k = g := by
    intro T v n xs hT hr k hk e
    obtain ⟨cur, hc⟩ := own_blk' hr k hk
    exact apart_ty' hc h.at_ hT e
  refine ⟨?_, hk, ?_, ?_, ?_, h.inG, h.inL, h.inN, h.inA, h.sep, fun k hk => Nat.lt_of_lt_of_le (h.lt k hk) u.size⟩
  · have := blk_set h.at_ i x
    rw [he] at this
    exact this
  · rw [hx]; exact row_upd' h.live u (ty (by decide) h.live)
  · rw [hn]; exact row_upd' h.news u (ty (by decide) h.news)
  · rw [hl]; exact row_upd' h.last u (ty (by decide) h.last)

-- a channel's cells, one of them set
theorem cells_set_mid (v : ChanV) (h : v.setup.seed.length = 32) (i : Nat) (x : Value) : v.cells.toArray.setIfInBounds (37 + i) x = (v.setup.cells ++ (v.k.cells ++ v.rest).set i x).toArray := by
  unfold ChanV.cells
  rw [List.setIfInBounds_toArray, List.set_append_right _ _ (by rw [v.setup.len h]; omega), v.setup.len h, Nat.add_sub_cancel_left]
theorem told_len (l : List KeptV) (h : ∀ p ∈ l, p.told.length = 32) : (l.flatMap KeptV.cells).length = l.length * 34 := by
  induction l with
  | nil => rfl
  | cons x l ih =>
    rw [List.flatMap_cons, List.length_append, ih (fun p hp => h p (List.mem_cons_of_mem _ hp)), List.length_cons]
    have := h x (List.mem_cons_self ..)
    simp [KeptV.cells, this]
    omega
section
variable (c : Ch) (lv nv av : Value) (h : c.s.seed.length = 32)
include h
theorem set_signed (n : Int) : (c.v lv nv av).cells.toArray.setIfInBounds 37 (.int .i64 n) = (({ c with k := { c.k with signed := n } } : Ch).v lv nv av).cells.toArray := cells_set_mid (c.v lv nv av) h 0 _
theorem set_awaits (b : Bool) : (c.v lv nv av).cells.toArray.setIfInBounds 39 (.bool b) = (({ c with k := { c.k with awaits := b } } : Ch).v lv nv av).cells.toArray := cells_set_mid (c.v lv nv av) h 2 _
theorem set_nextOwn (n : Int) : (c.v lv nv av).cells.toArray.setIfInBounds 40 (.int .u64 n) = (({ c with k := { c.k with nextOwn := n } } : Ch).v lv nv av).cells.toArray := cells_set_mid (c.v lv nv av) h 3 _
theorem set_nextTheirs (n : Int) : (c.v lv nv av).cells.toArray.setIfInBounds 41 (.int .u64 n) = (({ c with k := { c.k with nextTheirs := n } } : Ch).v lv nv av).cells.toArray := cells_set_mid (c.v lv nv av) h 4 _
theorem set_shutHeard (b : Bool) : (c.v lv nv av).cells.toArray.setIfInBounds 43 (.bool b) = (({ c with k := { c.k with shutHeard := b } } : Ch).v lv nv av).cells.toArray := cells_set_mid (c.v lv nv av) h 6 _
theorem set_revoked (b : Bool) : (c.v lv nv av).cells.toArray.setIfInBounds 44 (.bool b) = (({ c with k := { c.k with revoked := b } } : Ch).v lv nv av).cells.toArray := cells_set_mid (c.v lv nv av) h 7 _
theorem set_loc (n : Int) : (c.v lv nv av).cells.toArray.setIfInBounds 45 (.int .u64 n) = (({ c with loc := n } : Ch).v lv nv av).cells.toArray := cells_set_mid (c.v lv nv av) h 8 _
theorem set_rem (n : Int) : (c.v lv nv av).cells.toArray.setIfInBounds 46 (.int .u64 n) = (({ c with rem := n } : Ch).v lv nv av).cells.toArray := cells_set_mid (c.v lv nv av) h 9 _
theorem set_live (xs : List Live) (v : Value) : (c.v lv nv av).cells.toArray.setIfInBounds 47 v = (({ c with xs := xs } : Ch).v v nv av).cells.toArray := cells_set_mid (c.v lv nv av) h 10 _
theorem set_news (hk : c.shelf.length = 17 ∧ ∀ p ∈ c.shelf, p.told.length = 32) (ms : List MsgV) (v : Value) : (c.v lv nv av).cells.toArray.setIfInBounds 626 v = (({ c with news := ms } : Ch).v lv v av).cells.toArray := by
  have e := cells_set_mid (c.v lv nv av) h 589 v
  rw [show 37 + 589 = 626 from rfl] at e
  rw [e]
  have ht : (c.v lv nv av).told.length = 578 := by show (c.shelf.flatMap KeptV.cells).length = 578; rw [told_len _ hk.2, hk.1]
  have hset : ((c.v lv nv av).k.cells ++ (c.v lv nv av).rest).set 589 v = c.k.cells ++ (({ c with news := ms } : Ch).v lv v av).rest := by
    unfold ChanV.rest
    have h1 : (c.v lv nv av).k.cells.length = 8 := rfl
    rw [List.set_append_right _ _ (by rw [h1]; omega), h1]
    show c.k.cells ++ (Value.int .u64 c.loc :: Value.int .u64 c.rem :: lv :: ((c.v lv nv av).told ++ [nv, av])).set 581 v = _
    rw [List.set_cons_succ, List.set_cons_succ, List.set_cons_succ, List.set_append_right _ _ (by rw [ht]; omega), ht]
    rfl
  rw [hset]
  rfl
theorem set_last (hk : c.shelf.length = 17 ∧ ∀ p ∈ c.shelf, p.told.length = 32) (ms : List MsgV) (v : Value) : (c.v lv nv av).cells.toArray.setIfInBounds 627 v = (({ c with last := ms } : Ch).v lv nv v).cells.toArray := by
  have e := cells_set_mid (c.v lv nv av) h 590 v
  rw [show 37 + 590 = 627 from rfl] at e
  rw [e]
  have ht : (c.v lv nv av).told.length = 578 := by show (c.shelf.flatMap KeptV.cells).length = 578; rw [told_len _ hk.2, hk.1]
  have hset : ((c.v lv nv av).k.cells ++ (c.v lv nv av).rest).set 590 v = c.k.cells ++ (({ c with last := ms } : Ch).v lv nv v).rest := by
    unfold ChanV.rest
    have h1 : (c.v lv nv av).k.cells.length = 8 := rfl
    rw [List.set_append_right _ _ (by rw [h1]; omega), h1]
    show c.k.cells ++ (Value.int .u64 c.loc :: Value.int .u64 c.rem :: lv :: ((c.v lv nv av).told ++ [nv, av])).set 582 v = _
    rw [List.set_cons_succ, List.set_cons_succ, List.set_cons_succ, List.set_append_right _ _ (by rw [ht]; omega), ht]
    rfl
  rw [hset]
  rfl
theorem get_news (hk : c.shelf.length = 17 ∧ ∀ p ∈ c.shelf, p.told.length = 32) : (c.v lv nv av).cells.toArray[626]? = some nv := by
  rw [List.getElem?_toArray, show 626 = 37 + 589 from rfl, cells_mid _ h]
  have ht : (c.v lv nv av).told.length = 578 := by show (c.shelf.flatMap KeptV.cells).length = 578; rw [told_len _ hk.2, hk.1]
  unfold ChanV.rest
  have h1 : (c.v lv nv av).k.cells.length = 8 := rfl
  rw [List.getElem?_append_right (by rw [h1]; omega), h1]
  show (Value.int .u64 c.loc :: Value.int .u64 c.rem :: lv :: ((c.v lv nv av).told ++ [nv, av]))[581]? = _
  rw [List.getElem?_cons_succ, List.getElem?_cons_succ, List.getElem?_cons_succ, List.getElem?_append_right (by rw [ht]; omega), ht]
  rfl
theorem get_last (hk : c.shelf.length = 17 ∧ ∀ p ∈ c.shelf, p.told.length = 32) : (c.v lv nv av).cells.toArray[627]? = some av := by
  rw [List.getElem?_toArray, show 627 = 37 + 590 from rfl, cells_mid _ h]
  have ht : (c.v lv nv av).told.length = 578 := by show (c.shelf.flatMap KeptV.cells).length = 578; rw [told_len _ hk.2, hk.1]
  unfold ChanV.rest
  have h1 : (c.v lv nv av).k.cells.length = 8 := rfl
  rw [List.getElem?_append_right (by rw [h1]; omega), h1]
  show (Value.int .u64 c.loc :: Value.int .u64 c.rem :: lv :: ((c.v lv nv av).told ++ [nv, av]))[582]? = _
  rw [List.getElem?_cons_succ, List.getElem?_cons_succ, List.getElem?_cons_succ, List.getElem?_append_right (by rw [ht]; omega), ht]
  rfl
end

theorem fill_sc {place : Nat → Option (Nat × Nat)} {i off : Nat} {v z : Value} {P R : List Value} {cs : Array Value} (hp : place i = some (off, 1)) (ho : P.length = off) (hv : v.cells = #[v]) (hc : cs = (P ++ (z :: R)).toArray) (rest : List (Nat × Value)) :
    Instr.fill place cs ((i, v) :: rest) = Instr.fill place (P ++ (v :: R)).toArray rest := by
  subst hc ho
  rw [Instr.fill, hp]
  simp [hv]
/-- A row of one. -/
theorem row_of {P : Program} {sl T : TypeId} {n : Nat} {Z : List Value} (hu : P.underlying sl = some (.slice T)) (hz : ((P.info? T).map fun i => i.zero.map fun z => z.cells.toList) = some (some Z)) (hs : (P.info? T).map (·.size) = some n) (hn : Z.length = n) (h0 : n ≠ 0) (h24 : n ≤ 1000)
    (A : List Value) (h : A.length = n) (w : World) : (Instr.buildSlice sl 1 #[(0, .agg A.toArray)]).run P w = .ok (.slice (some ⟨w.heap.size, 0, none⟩) 1 1) (w.alloc (.cells A.toArray T)) := by
  obtain ⟨i, z, hi, hzz, hc⟩ := zero_of hz
  have hsz : i.size = n := by rw [hi] at hs; simpa using hs
  refine run_buildSlice w _ _ 1 _ _ i z hu hi hzz (by rw [hsz]; first | omega | (simp; omega)) (by rw [hsz]; first | omega | (simp; omega)) ?_
  rw [hsz, hc]
  generalize hW : Array.map _ _ = W
  have hWs : W.toList.length = A.length := by rw [← hW, h]; simp
  have hf := fill_mid A [] W.toList [] hWs
  have hWs2 : W.size = n := by rw [← h, ← hWs]; simp
  simp [Instr.fill, Value.cells, h, hWs2] at hf ⊢
  exact hf
theorem Tryz.zeroMsg : ((Tryz.prog.info? 101).map fun i => i.zero.map fun z => z.cells.toList) = some (some MsgV.zero.cells) := by kernel_rfl
theorem Tryz.zeroLive' : ((Tryz.prog.info? 69).map fun i => i.zero.map fun z => z.cells.toList) = some (some (liveCells Live.zero)) := by kernel_rfl
def Htlc.zero : Htlc := ⟨0, 0, Vector.replicate 32 0, 0⟩
theorem Tryz.zeroHtlc' : ((Tryz.prog.info? 41).map fun i => i.zero.map fun z => z.cells.toList) = some (some (htlcCells Htlc.zero)) := by kernel_rfl
def bsMsg (n : Nat) (p : Array (Nat × Value)) : Sem Value := Instr.buildSlice 124 n p
theorem bs_msg_fold (n : Nat) (p : Array (Nat × Value)) : Instr.buildSlice 124 n p = bsMsg n p := rfl
theorem bs_msg (A : List Value) (w : World) : (bsMsg 1 #[(0, .agg A.toArray)]).run Tryz.prog w = if A.length = 38 then .ok (.slice (some ⟨w.heap.size, 0, none⟩) 1 1) (w.alloc (.cells A.toArray 101)) else (Instr.buildSlice 124 1 #[(0, .agg A.toArray)]).run Tryz.prog w := by
  by_cases h : A.length = 38
  · rw [if_pos h]; exact row_of Tryz.underlying124 Tryz.zeroMsg Tryz.infoMsg rfl (by decide) (by decide) A h w
  · rw [if_neg h]; rfl
def bsLiv (n : Nat) (p : Array (Nat × Value)) : Sem Value := Instr.buildSlice 46 n p
theorem bs_liv_fold (n : Nat) (p : Array (Nat × Value)) : Instr.buildSlice 46 n p = bsLiv n p := rfl
theorem bs_liv (A : List Value) (w : World) : (bsLiv 1 #[(0, .agg A.toArray)]).run Tryz.prog w = if A.length = 38 then .ok (.slice (some ⟨w.heap.size, 0, none⟩) 1 1) (w.alloc (.cells A.toArray 69)) else (Instr.buildSlice 46 1 #[(0, .agg A.toArray)]).run Tryz.prog w := by
  by_cases h : A.length = 38
  · rw [if_pos h]; exact row_of Tryz.underlying46 Tryz.zeroLive' Tryz.infoLive rfl (by decide) (by decide) A h w
  · rw [if_neg h]; rfl
theorem Tryz.placesMsg : ∃ fields, Tryz.prog.underlying 101 = some (.struct fields) ∧ fields.toList.mapM (fun f => (Tryz.prog.info? f.type).map fun i => (f.offset, i.size)) = some [(0, 1), (1, 1), (2, 1), (3, 1), (4, 32), (36, 1), (37, 1)] := ⟨_, Tryz.underlying101, by kernel_rfl⟩
theorem built_add (k id n ex : Int) (H : List Value) (h : H.length = 32) : Tryz.prog.built 101 [(0, .int .i64 k), (2, .int .u64 id), (3, .int .u64 n), (4, .agg H.toArray), (5, .int .i64 ex)] = some (.int .i64 k :: .int .u32 0 :: .int .u64 id :: .int .u64 n :: (H ++ [.int .i64 ex, .int .i64 0])).toArray := by
  obtain ⟨i, z, hi, hz, hc⟩ := zero_of Tryz.zeroMsg
  obtain ⟨fs, hu, hp⟩ := Tryz.placesMsg
  rw [built_struct' hi hu hz hp]
  rw [fill_sc (P := []) (z := .int .i64 0) (R := .int .u32 0 :: .int .u64 0 :: .int .u64 0 :: (z32i.map (Value.int .u8) ++ [.int .i64 0, .int .i64 0])) rfl rfl rfl hc]
  rw [fill_sc (P := [.int .i64 k, .int .u32 0]) (z := .int .u64 0) (R := .int .u64 0 :: (z32i.map (Value.int .u8) ++ [.int .i64 0, .int .i64 0])) rfl rfl rfl (by rfl)]
  rw [fill_sc (P := [.int .i64 k, .int .u32 0, .int .u64 id]) (z := .int .u64 0) (R := (z32i.map (Value.int .u8) ++ [.int .i64 0, .int .i64 0])) rfl rfl rfl (by rfl)]
  rw [fill_one (P := [.int .i64 k, .int .u32 0, .int .u64 id, .int .u64 n]) (A := H) (Z := z32i.map (Value.int .u8)) (R := [.int .i64 0, .int .i64 0]) (off := 4) (by rw [h]; rfl) rfl (by rw [h]; rfl) (by rfl)]
  rw [fill_sc (P := [.int .i64 k, .int .u32 0, .int .u64 id, .int .u64 n] ++ H) (z := .int .i64 0) (R := [.int .i64 0]) (off := 36) rfl (by simp [h]) rfl (by simp)]
  rw [Instr.fill]
  simp
theorem bd_msg_add (k id n ex : Int) (H : List Value) (w : World) : (bdMsg #[(0, .int .i64 k), (2, .int .u64 id), (3, .int .u64 n), (4, .agg H.toArray), (5, .int .i64 ex)]).run Tryz.prog w = if H.length = 32 then .ok (.agg (.int .i64 k :: .int .u32 0 :: .int .u64 id :: .int .u64 n :: (H ++ [.int .i64 ex, .int .i64 0])).toArray) w else (Instr.build 101 #[(0, .int .i64 k), (2, .int .u64 id), (3, .int .u64 n), (4, .agg H.toArray), (5, .int .i64 ex)]).run Tryz.prog w := by
  by_cases h : H.length = 32
  · rw [if_pos h]; exact run_build w _ _ _ (built_add k id n ex H h)
  · rw [if_neg h]; rfl
theorem bd_msg_zero (w : World) : (bdMsg #[]).run Tryz.prog w = .ok (.agg MsgV.zero.cells.toArray) w := run_build w _ _ _ (by kernel_rfl)
theorem bd_msg_shut (k c : Int) (w : World) : (bdMsg #[(0, .int .i64 k), (1, .int .u32 c)]).run Tryz.prog w = .ok (.agg (MsgV.cells ⟨k, c, 0, 0, z32i, 0, 0⟩).toArray) w := run_build w _ _ _ (by kernel_rfl)
def bdHtl (p : Array (Nat × Value)) : Sem Value := Instr.build 41 p
theorem bd_htl_fold (p : Array (Nat × Value)) : Instr.build 41 p = bdHtl p := rfl
theorem Tryz.placesHtl : ∃ fields, Tryz.prog.underlying 41 = some (.struct fields) ∧ fields.toList.mapM (fun f => (Tryz.prog.info? f.type).map fun i => (f.offset, i.size)) = some [(0, 1), (1, 1), (2, 32), (34, 1)] := ⟨_, Tryz.underlying41, by kernel_rfl⟩
theorem built_htl (id n ex : Int) (H : List Value) (h : H.length = 32) : Tryz.prog.built 41 [(0, .int .u64 id), (1, .int .u64 n), (2, .agg H.toArray), (3, .int .i64 ex)] = some (.int .u64 id :: .int .u64 n :: (H ++ [.int .i64 ex])).toArray := by
  obtain ⟨i, z, hi, hz, hc⟩ := zero_of Tryz.zeroHtlc'
  obtain ⟨fs, hu, hp⟩ := Tryz.placesHtl
  rw [built_struct' hi hu hz hp]
  rw [fill_sc (P := []) (z := .int .u64 0) (R := .int .u64 0 :: (z32i.map (Value.int .u8) ++ [.int .i64 0])) rfl rfl rfl (hc.trans (by kernel_rfl))]
  rw [fill_sc (P := [.int .u64 id]) (z := .int .u64 0) (R := z32i.map (Value.int .u8) ++ [.int .i64 0]) rfl rfl rfl (by rfl)]
  rw [fill_one (P := [.int .u64 id, .int .u64 n]) (A := H) (Z := z32i.map (Value.int .u8)) (R := [.int .i64 0]) (off := 2) (by rw [h]; rfl) rfl (by rw [h]; rfl) (by rfl)]
  rw [fill_sc (P := [.int .u64 id, .int .u64 n] ++ H) (z := .int .i64 0) (R := []) (off := 34) rfl (by simp [h]) rfl (by simp)]
  rw [Instr.fill]
  simp
theorem bd_htl (id n ex : Int) (H : List Value) (w : World) : (bdHtl #[(0, .int .u64 id), (1, .int .u64 n), (2, .agg H.toArray), (3, .int .i64 ex)]).run Tryz.prog w = if H.length = 32 then .ok (.agg (.int .u64 id :: .int .u64 n :: (H ++ [.int .i64 ex])).toArray) w else (Instr.build 41 #[(0, .int .u64 id), (1, .int .u64 n), (2, .agg H.toArray), (3, .int .i64 ex)]).run Tryz.prog w := by
  by_cases h : H.length = 32
  · rw [if_pos h]; exact run_build w _ _ _ (built_htl id n ex H h)
  · rw [if_neg h]; rfl
def bdLiv (p : Array (Nat × Value)) : Sem Value := Instr.build 69 p
theorem bd_liv_fold (p : Array (Nat × Value)) : Instr.build 69 p = bdLiv p := rfl
theorem Tryz.placesLiv : ∃ fields, Tryz.prog.underlying 69 = some (.struct fields) ∧ fields.toList.mapM (fun f => (Tryz.prog.info? f.type).map fun i => (f.offset, i.size)) = some [(0, 35), (35, 1), (36, 1), (37, 1)] := ⟨_, Tryz.underlying69, by kernel_rfl⟩
theorem zlive_split : (liveCells Live.zero).toArray = (([] : List Value) ++ (htlcCells Htlc.zero ++ ([.bool false, .int .i64 0, .bool false] : List Value))).toArray := rfl
theorem built_liv3 (b : Bool) (s : Int) (H : List Value) (h : H.length = 35) : Tryz.prog.built 69 [(0, .agg H.toArray), (1, .bool b), (2, .int .i64 s)] = some (H ++ ([.bool b, .int .i64 s, .bool false] : List Value)).toArray := by
  obtain ⟨i, z, hi, hz, hc⟩ := zero_of Tryz.zeroLive'
  obtain ⟨fs, hu, hp⟩ := Tryz.placesLiv
  rw [built_struct' hi hu hz hp]
  rw [fill_one (P := []) (A := H) (Z := htlcCells Htlc.zero) (R := [.bool false, .int .i64 0, .bool false]) (off := 0) (by rw [h]; rfl) rfl (by rw [h]; rfl) (hc.trans zlive_split)]
  rw [fill_sc (P := H) (z := .bool false) (R := [.int .i64 0, .bool false]) (off := 35) rfl h rfl (by simp)]
  rw [fill_sc (P := H ++ [.bool b]) (z := .int .i64 0) (R := [.bool false]) (off := 36) rfl (by simp [h]) rfl (by simp)]
  rw [Instr.fill]
  simp
theorem bd_liv3 (b : Bool) (s : Int) (H : List Value) (w : World) : (bdLiv #[(0, .agg H.toArray), (1, .bool b), (2, .int .i64 s)]).run Tryz.prog w = if H.length = 35 then .ok (.agg (H ++ ([.bool b, .int .i64 s, .bool false] : List Value)).toArray) w else (Instr.build 69 #[(0, .agg H.toArray), (1, .bool b), (2, .int .i64 s)]).run Tryz.prog w := by
  by_cases h : H.length = 35
  · rw [if_pos h]; exact run_build w _ _ _ (built_liv3 b s H h)
  · rw [if_neg h]; rfl

attribute [local go_sem ↓ high] ld_live_fold st_live_fold al_live_fold ld_msg_fold st_msg_fold al_msg_fold bd_msg_fold bs_msg_fold
attribute [local go_sem] ld_live st_live al_live ld_msg st_msg al_msg bd_msg_zero bd_msg_shut bs_msg rowN_drew

def manyL (own : Bool) (xs : List Live) : Nat := (xs.filter fun x => x.own == own).length
set_option maxRecDepth 100000 in
set_option maxHeartbeats 2000000 in
theorem manyC_any (g : Nat) (S : Nat → Prop) (c : Ch) (own : Bool) (w : World) (h : ChS w g S c) :
    Calls Tryz.prog 90 #[.pointer (some ⟨g, 0, none⟩), .bool own] w (Makes (.int .i64 (manyL own c.xs)) w) := by
  obtain ⟨lv, nv, av, h⟩ := h
  have c47 := h.toR.live
  have hfew := h.ok.few
  have hv := h.toI.lives
  obtain ⟨a, cap, hsh⟩ := own_shape' h.live
  change w.cell? ⟨g, 47, none⟩ = some lv at c47
  change Lives w lv c.xs at hv
  rw [hsh] at c47 hv
  have hcell : ∀ (i : Nat) (x : Live), c.xs[i]? = some x → ∃ g' off, a = some ⟨g', off, none⟩ ∧ HeldL w g' off c.xs := by
    intro i x hi
    have hlt := (List.getElem?_eq_some_iff.1 hi).1
    rcases hv with ⟨a', k, e, e0⟩ | ⟨g', off, k, e, hh⟩
    · rw [e0] at hlt; simp at hlt
    · injection e with e1
      exact ⟨g', off, e1, hh⟩
  clear h hv
  generalize c.xs = xs at *
  have hll : (xs.length : Int) ≤ 1000000 := by omega
  go_enter Tryz.func90, Tryz.ntmps90
  go_wp2_with fail
  go_loopw [5, 7, 13] (fun sv _ iv wr => ∃ i : Nat, iv = .int .i64 (i : Int) ∧ i ≤ xs.length ∧ sv = .int .i64 (manyL own (xs.take i)) ∧ New w wr) (fun _ _ iv _ => xs.length - (intOf iv).toNat)
  case atStart => exact ⟨0, rfl, Nat.zero_le _, rfl, Upd.refl _ _⟩
  case round =>
    obtain ⟨i, rfl, hi, rfl, nr⟩ := hrel
    obtain ⟨wq, rfl⟩ : ∃ wq : World, wq = wr := ⟨_, rfl⟩
    by_cases hlt : i < xs.length
    · obtain ⟨x, hxx⟩ : ∃ x, xs[i]? = some x := ⟨_, List.getElem?_eq_getElem hlt⟩
      obtain ⟨g', off, rfl, hh⟩ := hcell i x hxx
      have hrow := (hh.upd nr (fun h => h)).row hxx
      have hi0 : (i : Int) < (xs.length : Int) := by omega
      have hst := stOk_live wq x
      have hlaid := laid_live wq x
      have hmn : manyL own (xs.take (i + 1)) = manyL own (xs.take i) + (if x.own == own then 1 else 0) := by
        unfold manyL
        rw [List.take_add_one, hxx, List.filter_append, List.length_append]
        cases hb : x.own == own <;> simp [hb]
      have hle : manyL own (xs.take i) ≤ i := by
        unfold manyL
        refine Nat.le_trans (List.length_filter_le _ _) ?_
        rw [List.length_take]
        omega
      have HM := hide hmn
      clear hmn hxx hh hcell
      generalize manyL own (xs.take i) = M at *
      go_upto_region 5 with fail
      obtain ⟨hb, nb⟩ := hlaid
      generalize (wq.alloc (.cells (liveCells Live.zero).toArray 69)).setCells wq.heap.size 0 (liveCells x) = wb at hb nb ⊢
      have d35 : wb.cell? ⟨wq.heap.size, 35, none⟩ = some (.bool x.own) := by rw [blk_cell hb, List.getElem?_toArray]; exact live_35 x
      have nwb := nr.trans nb
      have hMl : (M : Int) ≤ 1000000 := by omega
      clear hst hrow hb nb nr
      cases hb : x.own == own with
      | true =>
        rw [hb] at HM
        go_wp2_with fail
        go_roundw
        case rel => exact ⟨i + 1, by go_num, by omega, by rw [unhide HM]; simp, nwb⟩
        case measure => simp [intOf]; omega
      | false =>
        rw [hb] at HM
        go_wp2_with fail
        go_roundw
        case rel => exact ⟨i + 1, by go_num, by omega, by rw [unhide HM]; simp, nwb⟩
        case measure => simp [intOf]; omega
    · obtain rfl : i = xs.length := by omega
      rw [List.take_length]
      clear hcell
      go_wp2_with fail
      go_ret
      exact ⟨rfl, nr⟩

/-- A message put behind a row of messages. -/
theorem msg_info : ∃ i z b, Tryz.prog.info? 101 = some i ∧ i.zero = some z ∧ i.size = 38 ∧ i.bytes = b ∧ z.cells.size = 38 ∧ b ≤ 1000 := by
  obtain ⟨i, z, hi, hz, hc⟩ := zero_of Tryz.zeroMsg
  have hb : (Tryz.prog.info? 101).map (fun i => decide (i.bytes ≤ 1000)) = some true := by kernel_rfl
  have hs := Tryz.infoMsg
  rw [hi, Option.map_some, Option.some.injEq] at hb hs
  exact ⟨i, z, i.bytes, hi, hz, hs, rfl, by rw [hc]; rfl, of_decide_eq_true hb⟩
def MsgV.on (m : MsgV) (ch : Int) : MsgV := { m with ch := ch }
/-- What an end says. -/
def Ch.say (c : Ch) (m : MsgV) : Ch := { c with news := c.news ++ [m.on c.s.ch] }
set_option maxRecDepth 100000 in
set_option maxHeartbeats 2000000 in
theorem say_any (g : Nat) (S : Nat → Prop) (c : Ch) (m : MsgV) (hm : m.hash.length = 32) (w : World) (h : ChS w g S c) (hfew : c.news.length < 1000000) :
    Calls Tryz.prog 91 #[.pointer (some ⟨g, 0, none⟩), .agg m.cells.toArray] w fun e w' => e = .returned (.agg (m.on c.s.ch).cells.toArray) ∧ ChS w' g (Fr S w w') (c.say m) ∧ Upd S w w' := by
  obtain ⟨lv, nv, av, h⟩ := h
  go_enter Tryz.func91, Tryz.ntmps91
  go_upto_region 1 with fail
  have hbA : ((w.alloc (.cells m.cells.toArray 101)).alloc (.cells MsgV.zero.cells.toArray 101)).heap[w.heap.size]? = some (.cells m.cells.toArray 101 (0, 0)) := blk_alloc_old (blk_alloc _ _) _
  have hbB : ((w.alloc (.cells m.cells.toArray 101)).alloc (.cells MsgV.zero.cells.toArray 101)).heap[w.heap.size + 1]? = some (.cells MsgV.zero.cells.toArray 101 (0, 0)) := by
    have := blk_alloc (w.alloc (.cells m.cells.toArray 101)) (.cells MsgV.zero.cells.toArray 101)
    rwa [World.size_alloc] at this
  have nA : New w ((w.alloc (.cells m.cells.toArray 101)).alloc (.cells MsgV.zero.cells.toArray 101)) := ((Upd.refl _ _).alloc _).alloc _
  generalize (w.alloc (.cells m.cells.toArray 101)).alloc (.cells MsgV.zero.cells.toArray 101) = wA at hbA hbB nA ⊢
  obtain ⟨A, hAe⟩ : ∃ A, A = w.heap.size := ⟨_, rfl⟩
  obtain ⟨B, hBe⟩ : ∃ B, B = w.heap.size + 1 := ⟨_, rfl⟩
  rw [← hBe] at hbB ⊢
  rw [← hAe] at hbA ⊢
  have hA := h.new nA
  have hgA : g ≠ A := by have := h.lt g h.inG; omega
  have hgB : g ≠ B := by have := h.lt g h.inG; omega
  have hAl : w.heap.size ≤ A := by omega
  have hBl : w.heap.size ≤ B := by omega
  have hAB : B ≠ A := by omega
  clear hAe hBe
  -- the channel's number
  have c0 : wA.cell? ⟨g, 0, none⟩ = some (.int .u32 c.s.ch) := hA.toR.ch
  have e1 : wA.cell? ⟨A, 1, none⟩ = some (.int .u32 m.ch) := blk_cell hbA 1
  have f1 := blk_free hbA 1
  have uB : Upd (· = A) wA (wA.setCell ⟨A, 1, none⟩ (.int .u32 c.s.ch)) := (Upd.refl _ _).set1 1 _
  have hbA2 : (wA.setCell ⟨A, 1, none⟩ (.int .u32 c.s.ch)).heap[A]? = some (.cells (m.on c.s.ch).cells.toArray 101 (0, 0)) := blk_set hbA 1 _
  have hbB2 := uB.old hbB hAB
  have hB := hA.upd uB (fun k hk e => by have := h.lt k hk; omega)
  have nB : New w (wA.setCell ⟨A, 1, none⟩ (.int .u32 c.s.ch)) := nA.then uB (fun i hi e => by omega)
  have H0 := hide h
  clear h hA hbA hbB nA uB
  go_upto_region 2 with fail
  clear c0 e1 f1
  generalize wA.setCell ⟨A, 1, none⟩ (.int .u32 c.s.ch) = wB at hB hbA2 hbB2 nB ⊢
  have c626 : wB.drew.cell? ⟨g, 626, none⟩ = some nv := by
    have e : wB.drew.cell? ⟨g, 626, none⟩ = _ := blk_cell hB.at_ 626
    rw [e]
    exact get_news c lv nv av hB.ok.s.seed hB.ok.shelf
  have f626 : wB.frozen? ⟨g, 626, none⟩ = false := blk_free hB.at_ 626
  have hmo : (m.on c.s.ch).hash.length = 32 := hm
  have hr : rowN wB A 0 38 = some (m.on c.s.ch).cells.toArray := rowN_whole hbA2 38 (by rw [List.size_toArray, MsgV.len _ hmo])
  have hl38 := MsgV.len _ hmo
  obtain ⟨i9, z9, b9, hi9, hz9, hz0, hz1, hz2, hb9⟩ := msg_info
  have HB := hide hB
  have hchB : Hid (∃ cs, wB.heap[g]? = some (.cells cs 126 (0, 0))) := hide ⟨_, hB.at_⟩
  obtain ⟨na, ncap, hnv⟩ := own_shape' hB.news
  clear hB
  refine wp_plan (fun w' => w'.cell? ⟨g, 626, none⟩ = some nv) [4] (.of [0, 1, 2, 3, 4, 5, 6, 7, 8, 9, 10]) (by kernel_rfl) (by kernel_rfl) c626 ?_
  simp only [Plan.of]
  go_wp2_with (with_reducible first | (first | refine' qw1 (ido ?_) ?_ | refine' qw2 (ido ?_) ?_ | refine' qw3 (ido ?_) ?_); rotate_left | refine' qw4 (ido ?_) | refine' qw5 (ido ?_) | rfl | apply qn)
  refine ⟨((Upd.refl (fun _ => False) wB).alloc _).drew.cell c626 (fun h => h), ?_⟩
  have nC : New wB (wB.alloc (.cells (m.on c.s.ch).cells.toArray 101)).drew := ((Upd.refl _ _).alloc _).drew
  have hbD : (wB.alloc (.cells (m.on c.s.ch).cells.toArray 101)).drew.heap[wB.heap.size]? = _ := blk_alloc wB (.cells (m.on c.s.ch).cells.toArray 101)
  have HC := hide ((unhide HB).new nC)
  have hbA3 := nC.old hbA2 (fun h => h)
  have hbB3 := nC.old hbB2 (fun h => h)
  have c626' := nC.cell c626 (fun h => h)
  have nwC := nB.trans nC
  have hDl : w.heap.size ≤ wB.heap.size := nB.size
  clear c626 f626 hr HB hbA2 hbB2 nB nC hchB
  generalize (wB.alloc (.cells (m.on c.s.ch).cells.toArray 101)).drew = wC at hbD HC hbA3 hbB3 c626' nwC ⊢
  generalize wB.heap.size = D at hbD hDl ⊢
  have hnews := (unhide HC).news
  unfold MsgsO at hnews
  rw [hnv] at hnews
  have HN := hide hnews
  clear hnews
  go_wp2_with (first | (at_builtin; refine wpList_append_own_at _ rfl (.tmp 15) (.tmp 17) 124 rfl 0 101 i9 _ 38 b9 Tryz.underlying124 hi9 hz9 hz0 hz1 hz2 (by decide) _ _ _ rfl (unhide HN) ⟨D, 0, none⟩ 1 1 (m.on c.s.ch).cells rfl (by rw [hl38]) ?c1 ?c2 ?c3 ?c4 ?c5 ?_) | (with_reducible first | (first | refine' qw1 (ido ?_) ?_ | refine' qw2 (ido ?_) ?_ | refine' qw3 (ido ?_) ?_); rotate_left | refine' qw4 (ido ?_) | refine' qw5 (ido ?_) | rfl | apply qn))
  case c1 => exact World.news_of_block (cs := (m.on c.s.ch).cells.toArray) (fr := (0, 0)) hbD
  case c2 => exact MsgV.one _
  case c3 => unfold maxLen; omega
  case c4 => have := Nat.mul_le_mul (show c.news.length + 1 ≤ 1000000 by omega) hb9; omega
  case c5 => omega
  intro v' wD hown' hgr _ hblk
  obtain ⟨a', cap', hv'⟩ := own_shape' hown'
  have hownC := fun k (e : nv.ownBlock = some k) => (unhide HC).inN k e
  rw [← hnv] at hgr hblk
  have uD : Upd (fun k => nv.ownBlock = some k) wC wD := (Upd.refl _ _).grown hgr (fun k hk _ => hk)
  have hgN : ¬ (nv.ownBlock = some g) := fun e => by
    obtain ⟨cur, hc⟩ := own_blk' (unhide HC).news g e
    exact apart_ty' (unhide HC).at_ hc (by decide) rfl
  have hltS := (unhide H0).lt
  have hBlt := blk_lt hbB3
  have hbA4 := uD.old hbA3 (fun e => by have := hltS _ (hownC _ e); omega)
  have hbB4 := uD.old hbB3 (fun e => by have := hltS _ (hownC _ e); omega)
  have hatD := uD.old (unhide HC).at_ hgN
  have c626D := uD.cell c626' hgN
  have f626D : wD.frozen? ⟨g, 626, none⟩ = false := blk_free hatD 626
  have HV := hide (And.intro hown' (And.intro hblk uD))
  clear hown' hblk hgr uD c626' hbA3 hbB3 hbD
  have uE : Upd (· = g) wD (wD.setCell ⟨g, 626, none⟩ v') := (Upd.refl _ _).set1 626 _
  have hbA5 := uE.old hbA4 (fun e => hgA e.symm)
  have hbB5 := uE.old hbB4 (fun e => hgB e.symm)
  have hatE := blk_set hatD 626 v'
  rw [set_news c lv nv av (unhide HC).ok.s.seed (unhide HC).ok.shelf (c.news ++ [m.on c.s.ch])] at hatE
  have HE := hide (And.intro hatE uE)
  have HV' := hide hv'
  clear hatE uE hatD hbA4 hbB4
  rw [hv'] at hbA5 hbB5 ⊢
  have hr5 := rowN_whole hbA5 38 (by rw [List.size_toArray, hl38])
  have hs5 := stOk_msg hbB5 hmo
  have hF := laid_msg hbB5 hmo
  have HF := hide hF
  clear hF hv' hbA5
  go_wp2_with (with_reducible first | (first | refine' qw1 (ido ?_) ?_ | refine' qw2 (ido ?_) ?_ | refine' qw3 (ido ?_) ?_); rotate_left | refine' qw4 (ido ?_) | refine' qw5 (ido ?_) | rfl | apply qn)
  refine bodyPost_ret (results_cell_row rfl _ _ B _ _ _ _ rfl (unhide HF) Tryz.underlying101 rfl (by rw [List.size_toArray, hl38]; exact Tryz.infoMsg)) rfl ?_
  have hve := unhide HV'
  obtain ⟨hown', hblk, uD⟩ := unhide HV
  obtain ⟨hatE, uE⟩ := unhide HE
  rw [← hve]
  have h := unhide H0
  have hC := unhide HC
  have uF : Upd (· = B) (wD.setCell ⟨g, 626, none⟩ v') ((wD.setCell ⟨g, 626, none⟩ v').setCells B 0 (m.on c.s.ch).cells) := (Upd.refl _ _).setCells 0 _
  have hzC := nwC.size
  refine ⟨rfl, ?_, (((nwC.mono (fun _ _ h => h.elim)).trans (uD.mono (fun k _ e => hownC k e))).trans (uE.mono (fun k _ e => by rw [e]; exact h.inG))).then uF (fun i hi e => by omega)⟩
  have hzF : wD.heap.size ≤ ((wD.setCell ⟨g, 626, none⟩ v').setCells B 0 (m.on c.s.ch).cells).heap.size := Nat.le_trans uE.size uF.size
  generalize (wD.setCell ⟨g, 626, none⟩ v').setCells B 0 (m.on c.s.ch).cells = wF at uF hzF ⊢
  generalize wD.setCell ⟨g, 626, none⟩ v' = wE at uE uF hatE
  have hvlt : ∀ k, v'.ownBlock = some k → k < wD.heap.size := fun k hk => by
    obtain ⟨cur, hc⟩ := own_blk' hown' k hk
    exact blk_lt hc
  have hvB : ∀ k, v'.ownBlock = some k → k ≠ B := by
    intro k hk
    rcases hblk with e | e
    · rw [e] at hk
      have := hltS k (hownC k hk)
      omega
    · rw [e] at hk
      injection hk with hk
      omega
  have hvg : ∀ k, v'.ownBlock = some k → k ≠ g := by
    intro k hk
    rcases hblk with e | e
    · rw [e] at hk
      rintro rfl
      exact hgN hk
    · rw [e] at hk
      injection hk with hk
      have := blk_lt hC.at_
      omega
  have row2 : ∀ {T : TypeId} {v : Value} {n : Nat} {xs : List Value}, wC.ownsRow 0 T 38 v n xs → (∀ k, v.ownBlock = some k → S k) → (∀ k, v.ownBlock = some k → k ≠ g) → (∀ k, v.ownBlock = some k → nv.ownBlock ≠ some k) → wF.ownsRow 0 T 38 v n xs := by
    intro T v n xs hr hs h1 h2
    exact row_upd' (row_upd' (row_upd' hr uD (fun k hk e => h2 k hk e)) uE (fun k hk e => h1 k hk e)) uF (fun k hk e => by have := hltS k (hs k hk); omega)
  refine ⟨lv, v', av, ⟨uF.old hatE hgB, ⟨h.ok.s, h.ok.signed, h.ok.heard, h.ok.nextOwn, h.ok.nextTheirs, h.ok.loc, h.ok.rem, h.ok.xs, h.ok.few, h.ok.shelf, ?_, h.ok.last, ?_, h.ok.many.2⟩, ?_, ?_, ?_, .inl h.inG, fun k e => .inl (h.inL k e), ?_, fun k e => .inl (h.inA k e), ?_, ?_⟩⟩
  · intro x hx
    rcases List.mem_append.1 hx with hx | hx
    · exact h.ok.news x hx
    · rw [List.mem_singleton.1 hx]
      exact hmo
  · show (c.news ++ [m.on c.s.ch]).length ≤ 1000000
    rw [List.length_append]
    simp
    omega
  · refine row2 hC.live h.inL ?_ ?_
    · intro k hk e
      obtain ⟨cur, hc⟩ := own_blk' hC.live k hk
      rw [e] at hc
      exact apart_ty' hC.at_ hc (by decide) rfl
    · intro k hk e
      obtain ⟨cur, hc⟩ := own_blk' hC.live k hk
      obtain ⟨cur2, hc2⟩ := own_blk' hC.news k e
      exact apart_ty' hc hc2 (by decide) rfl
  · show wF.ownsRow 0 _ 38 v' (c.news ++ [m.on c.s.ch]).length ((c.news ++ [m.on c.s.ch]).flatMap MsgV.cells)
    rw [List.length_append, List.flatMap_append]
    have : [m.on c.s.ch].flatMap MsgV.cells = (m.on c.s.ch).cells := by simp
    rw [this]
    exact row_upd' (row_upd' hown' uE (fun k hk e => hvg k hk e)) uF (fun k hk e => hvB k hk e)
  · refine row2 hC.last h.inA ?_ ?_
    · intro k hk e
      obtain ⟨cur, hc⟩ := own_blk' hC.last k hk
      rw [e] at hc
      exact apart_ty' hC.at_ hc (by decide) rfl
    · intro k hk e
      exact h.sep k e hk
  · intro k hk
    rcases hblk with e | e
    · rw [e] at hk
      exact .inl (h.inN k hk)
    · have := hvlt k hk
      rw [e] at hk
      injection hk with hk
      exact .inr ⟨by omega, by omega⟩
  · intro k hk e'
    rcases hblk with e | e
    · rw [e] at hk
      exact h.sep k hk e'
    · rw [e] at hk
      injection hk with hk
      have := hltS k (h.inA k e')
      omega
  · rintro k (hk | hk)
    · have := hltS k hk
      have := uD.size
      omega
    · exact hk.2

end Go.Proofs.YtfmkdoachjgjbaaGreatDoor
