/-
  Messages as rows of cells.
-/
import Derived.Test.YtjckpgcmfieaoaaGreatDoorProg
import Derived.Test.YtjckpgcmfieaoaaGreatDoorMcf
import Derived.Test.YtjckpgcmfieaoaaGreatDoorTxt
import Derived.Deep.Onto
import Derived.Maps.AppendAt
import Derived.Deep.AppendLies
set_option linter.unusedVariables false
set_option linter.unusedSimpArgs false
namespace Go.Proofs.YtjckpgcmfieaoaaGreatDoor
open Go.RowKit

structure MsgV where
  kind : Int
  ch : Int
  id : Int
  amount : Int
  hash : List Int
  expiry : Int
  number : Int
def MsgV.cells (m : MsgV) : List Value := .int .i64 m.kind :: .int .u32 m.ch :: .int .u64 m.id :: .int .u64 m.amount :: (m.hash.map (Value.int .u8) ++ [.int .i64 m.expiry, .int .i64 m.number])
theorem MsgV.len (m : MsgV) (h : m.hash.length = 32) : m.cells.length = 38 := by simp [MsgV.cells, h]
theorem MsgV.one (m : MsgV) : ∀ v ∈ m.cells, v.oneCell' = true := by
  intro v hv
  simp only [MsgV.cells, List.mem_cons, List.mem_append, List.mem_map, List.not_mem_nil, or_false] at hv
  rcases hv with rfl | rfl | rfl | rfl | ⟨n, _, rfl⟩ | rfl | rfl <;> rfl
def z32i : List Int := List.replicate 32 0
theorem z32i_len : z32i.length = 32 := List.length_replicate
theorem Tryz.infoMsg : (Tryz.prog.info? 159).map (·.size) = some 38 := by kernel_rfl
def ldMsg (x : Value) : Sem Value := Instr.loadAt 159 x
theorem ld_msg_fold (x : Value) : Instr.loadAt 159 x = ldMsg x := rfl
theorem ld_msg (b o : Nat) (w : World) : (ldMsg (.pointer (some ⟨b, o, none⟩))).run Tryz.prog w = match rowN w b o 38 with | some A => .ok (.agg A) w | none => slowLd Tryz.prog 159 w b o :=
  run_loadAt_rowN 159 38 _ Tryz.underlying159 rfl Tryz.infoMsg b o w
def stMsg (x v : Value) : Sem Unit := Instr.storeAt 159 x v
theorem st_msg_fold (x v : Value) : Instr.storeAt 159 x v = stMsg x v := rfl
theorem st_msg (b o : Nat) (A : Array Value) (w : World) : (stMsg (.pointer (some ⟨b, o, none⟩)) (.agg A)).run Tryz.prog w = if stOk w b o 38 A = true then .ok () (w.setCells b o A.toList) else slowSt Tryz.prog 159 w b o A :=
  run_storeAt_row 159 38 Tryz.infoMsg b o A w
def MsgV.zero : MsgV := ⟨0, 0, 0, 0, z32i, 0, 0⟩
def alMsg : Sem Value := Instr.alloc 159 true (.tuple #[])
theorem al_msg_fold : Instr.alloc 159 true (.tuple #[]) = alMsg := rfl
theorem al_msg (w : World) : alMsg.run Tryz.prog w = .ok (.pointer (some ⟨w.heap.size, 0, none⟩)) (w.alloc (.cells MsgV.zero.cells.toArray 159)) := by kernel_rfl
def bdMsg (p : Array (Nat × Value)) : Sem Value := Instr.build 159 p
theorem bd_msg_fold (p : Array (Nat × Value)) : Instr.build 159 p = bdMsg p := rfl
theorem bd_msg_again (c n k : Int) (w : World) : (bdMsg #[(0, .int .i64 9), (1, .int .u32 c), (6, .int .i64 n), (2, .int .u64 k)]).run Tryz.prog w = .ok (.agg (MsgV.cells ⟨9, c, k, 0, z32i, 0, n⟩).toArray) w := run_build w _ _ _ (by kernel_rfl)

attribute [local go_sem ↓ high] ld_msg_fold st_msg_fold bd_msg_fold
attribute [local go_sem] ld_msg st_msg bd_msg_again rowN_drew

/-- What an end says of itself behind a cut. -/
def CountsV.told (k : CountsV) : Int := if k.awaits then k.signed - 1 else k.signed

/-- A channel, and what is live in it. -/
structure ChI (w : World) (g : Nat) (c : ChanV) (xs : List Live) : Prop extends ChR w g c where
  row : w.ownsRow 0 113 38 c.live xs.length (xs.flatMap liveCells)
theorem ChI.new {w w' : World} {g : Nat} {c : ChanV} {xs : List Live} (h : ChI w g c xs) (u : New w w') : ChI w' g c xs := ⟨h.toChR.new u, owns_new h.row u⟩
theorem ChI.lives {w : World} {g : Nat} {c : ChanV} {xs : List Live} (h : ChI w g c xs) : Lives w c.live xs := by
  rcases (heldL_of_owns h.row).2 with ⟨e, e0⟩ | ⟨g, cap, e, -, hh⟩
  · exact .inl ⟨none, 0, e, e0⟩
  · exact .inr ⟨g, 0, cap, e, hh.toL⟩
theorem ChI.shape {w : World} {g : Nat} {c : ChanV} {xs : List Live} (h : ChI w g c xs) : ∃ a cap, c.live = .slice a xs.length cap := by
  rcases (heldL_of_owns h.row).2 with ⟨e, e0⟩ | ⟨g, cap, e, -⟩
  · exact ⟨none, 0, by rw [e, e0]; rfl⟩
  · exact ⟨_, cap, e⟩

end Go.Proofs.YtjckpgcmfieaoaaGreatDoor
namespace Go.Proofs.YtjckpgcmfieaoaaGreatDoor
open Go.RowKit

theorem row_upd' {S : Nat → Prop} {w w' : World} {base : Nat} {e : TypeId} {size : Nat} {v : Value} {n : Nat} {xs : List Value} (h : w.ownsRow base e size v n xs) (u : Upd S w w') (hS : ∀ k, v.ownBlock = some k → ¬ S k) : w'.ownsRow base e size v n xs := by
  refine ⟨h.1, ?_⟩
  rcases h.2 with h | ⟨g, cap, cur, e1, e2, hg, r⟩
  · exact .inl h
  · exact .inr ⟨g, cap, cur, e1, e2, u.old hg (hS g (by rw [e1]; rfl)), r⟩
theorem own_blk' {w : World} {base : Nat} {e : TypeId} {size : Nat} {v : Value} {n : Nat} {xs : List Value} (h : w.ownsRow base e size v n xs) : ∀ k, v.ownBlock = some k → ∃ cur, w.heap[k]? = some (.cells cur e (0, 0)) := by
  intro k hk
  rcases h.2 with ⟨rfl, _⟩ | ⟨g, cap, cur, rfl, e2, hg, _⟩
  · simp [Value.ownBlock] at hk
  · simp [Value.ownBlock] at hk
    exact ⟨cur, hk ▸ hg⟩
/-- Blocks of other types are apart. -/
theorem apart_ty' {w : World} {k j : Nat} {c d : Array Value} {T U : TypeId} {x y : Nat × Nat} (h : w.heap[k]? = some (.cells c T x)) (g : w.heap[j]? = some (.cells d U y)) (n : T ≠ U) : k ≠ j := by
  rintro rfl
  rw [h] at g
  injection g with g
  injection g with _ g
  exact n g
/-- An end of a channel, as plain data. -/
structure Ch where
  s : SetupV
  k : CountsV
  loc : Int
  rem : Int
  xs : List Live
  shelf : List KeptV
  news : List MsgV
  last : List MsgV
def Ch.v (c : Ch) (lv nv av : Value) : ChanV := ⟨c.s, c.k, c.loc, c.rem, lv, c.shelf, nv, av⟩
/-- A row of lives; of messages. -/
def LivesO (w : World) (v : Value) (xs : List Live) : Prop := w.ownsRow 0 113 38 v xs.length (xs.flatMap liveCells)
def MsgsO (w : World) (v : Value) (ms : List MsgV) : Prop := w.ownsRow 0 159 38 v ms.length (ms.flatMap MsgV.cells)
def MsgsOk (ms : List MsgV) : Prop := ∀ m ∈ ms, m.hash.length = 32
/-- Numbers that fit. -/
structure Ch.Ok (c : Ch) : Prop where
  s : c.s.Ok
  signed : 0 ≤ c.k.signed ∧ c.k.signed ≤ 65535
  heard : 0 ≤ c.k.heard ∧ c.k.heard < 4294967296
  nextOwn : 0 ≤ c.k.nextOwn ∧ c.k.nextOwn < 18446744073709551616
  nextTheirs : 0 ≤ c.k.nextTheirs ∧ c.k.nextTheirs < 18446744073709551616
  loc : 0 ≤ c.loc ∧ c.loc < 18446744073709551616
  rem : 0 ≤ c.rem ∧ c.rem < 18446744073709551616
  xs : ∀ x ∈ c.xs, LiveOk x
  few : c.xs.length ≤ 1000000
  shelf : c.shelf.length = 17 ∧ ∀ p ∈ c.shelf, p.told.length = 32
  news : MsgsOk c.news
  last : MsgsOk c.last
  many : c.news.length ≤ 1000000 ∧ c.last.length ≤ 1000000
/-- A channel lies in block g; all its blocks are in S. -/
structure ChP (w : World) (g : Nat) (S : Nat → Prop) (c : Ch) (lv nv av : Value) : Prop where
  at_ : w.heap[g]? = some (.cells (c.v lv nv av).cells.toArray 180 (0, 0))
  ok : c.Ok
  live : LivesO w lv c.xs
  news : MsgsO w nv c.news
  last : MsgsO w av c.last
  inG : S g
  inL : ∀ k, lv.ownBlock = some k → S k
  inN : ∀ k, nv.ownBlock = some k → S k
  inA : ∀ k, av.ownBlock = some k → S k
  sep : ∀ k, nv.ownBlock = some k → av.ownBlock ≠ some k
  lt : ∀ k, S k → k < w.heap.size
/-- The same, its rows' values left open. -/
def ChS (w : World) (g : Nat) (S : Nat → Prop) (c : Ch) : Prop := ∃ lv nv av, ChP w g S c lv nv av
/-- S, and what is made from w to w'. -/
def Fr (S : Nat → Prop) (w w' : World) (k : Nat) : Prop := S k ∨ (w.heap.size ≤ k ∧ k < w'.heap.size)
section
variable {w w' : World} {g : Nat} {S T : Nat → Prop} {c : Ch} {lv nv av : Value}
theorem ChP.upd (h : ChP w g S c lv nv av) (u : Upd T w w') (hd : ∀ k, S k → ¬ T k) : ChP w' g S c lv nv av :=
  ⟨u.old h.at_ (hd g h.inG), h.ok, row_upd' h.live u (fun k hk => hd k (h.inL k hk)), row_upd' h.news u (fun k hk => hd k (h.inN k hk)), row_upd' h.last u (fun k hk => hd k (h.inA k hk)), h.inG, h.inL, h.inN, h.inA, h.sep, fun k hk => Nat.lt_of_lt_of_le (h.lt k hk) u.size⟩
theorem ChP.new (h : ChP w g S c lv nv av) (u : New w w') : ChP w' g S c lv nv av := h.upd u (fun _ _ h => h)
theorem ChP.wider (h : ChP w g S c lv nv av) (hs : ∀ k, S k → T k) (hl : ∀ k, T k → k < w.heap.size) : ChP w g T c lv nv av :=
  ⟨h.at_, h.ok, h.live, h.news, h.last, hs g h.inG, fun k e => hs k (h.inL k e), fun k e => hs k (h.inN k e), fun k e => hs k (h.inA k e), h.sep, hl⟩
theorem ChP.fr (h : ChP w' g S c lv nv av) (w : World) : ChS w' g (Fr S w w') c := ⟨_, _, _, h.wider (fun k hk => .inl hk) (fun k hk => hk.elim (h.lt k) (fun e => e.2))⟩
theorem ChS.upd (h : ChS w g S c) (u : Upd T w w') (hd : ∀ k, S k → ¬ T k) : ChS w' g S c := by
  obtain ⟨a, b, d, h⟩ := h
  exact ⟨a, b, d, h.upd u hd⟩
theorem ChS.new (h : ChS w g S c) (u : New w w') : ChS w' g S c := h.upd u (fun _ _ h => h)
theorem ChS.lt (h : ChS w g S c) : ∀ k, S k → k < w.heap.size := by
  obtain ⟨a, b, d, h⟩ := h
  exact h.lt
theorem ChP.toR (h : ChP w g S c lv nv av) : ChR w g (c.v lv nv av) := ⟨h.at_, h.ok.s.seed⟩
end

/-- One cell set. -/
theorem ChP.put {w : World} {g : Nat} {S : Nat → Prop} {c c' : Ch} {lv nv av : Value} (h : ChP w g S c lv nv av) {i : Nat} {x : Value} (he : (c.v lv nv av).cells.toArray.setIfInBounds i x = (c'.v lv nv av).cells.toArray) (hk : c'.Ok) (hx : c'.xs = c.xs) (hn : c'.news = c.news) (hl : c'.last = c.last) : ChP (w.setCell ⟨g, i, none⟩ x) g S c' lv nv av := by
  have u : Upd (· = g) w (w.setCell ⟨g, i, none⟩ x) := (Upd.refl _ _).set1 i x
  have ty : ∀ {T : TypeId} {v : Value} {n : Nat} {xs : List Value}, T ≠ 180 → w.ownsRow 0 T 38 v n xs → ∀ k, v.ownBlock = some k → ¬ k = g := by
    intro T v n xs hT hr k hk e
    obtain ⟨cur, hc⟩ := own_blk' hr k hk
    exact apart_ty' hc h.at_ hT e
  refine ⟨?_, hk, ?_, ?_, ?_, h.inG, h.inL, h.inN, h.inA, h.sep, fun k hk => Nat.lt_of_lt_of_le (h.lt k hk) u.size⟩
  · have := blk_set h.at_ i x
    rw [he] at this
    exact this
  · rw [hx]; exact row_upd' h.live u (ty (by decide) h.live)
  · rw [hn]; exact row_upd' h.news u (ty (by decide) h.news)
  · rw [hl]; exact row_upd' h.last u (ty (by decide) h.last)

-- a channel's cells, one of them set
theorem told_len (l : List KeptV) (h : ∀ p ∈ l, p.told.length = 32) : (l.flatMap KeptV.cells).length = l.length * 34 := by
  induction l with
  | nil => rfl
  | cons x l ih =>
    rw [List.flatMap_cons, List.length_append, ih (fun p hp => h p (List.mem_cons_of_mem _ hp)), List.length_cons]
    have := h x (List.mem_cons_self ..)
    simp [KeptV.cells, this]
    omega
section
variable (c : Ch) (lv nv av : Value) (h : c.s.seed.length = 32)
include h
end

theorem fill_sc {place : Nat → Option (Nat × Nat)} {i off : Nat} {v z : Value} {P R : List Value} {cs : Array Value} (hp : place i = some (off, 1)) (ho : P.length = off) (hv : v.cells = #[v]) (hc : cs = (P ++ (z :: R)).toArray) (rest : List (Nat × Value)) :
    Instr.fill place cs ((i, v) :: rest) = Instr.fill place (P ++ (v :: R)).toArray rest := by
  subst hc ho
  rw [Instr.fill, hp]
  simp [hv]
/-- A row of one. -/
theorem row_of {P : Program} {sl T : TypeId} {n : Nat} {Z : List Value} (hu : P.underlying sl = some (.slice T)) (hz : ((P.info? T).map fun i => i.zero.map fun z => z.cells.toList) = some (some Z)) (hs : (P.info? T).map (·.size) = some n) (hn : Z.length = n) (h0 : n ≠ 0) (h24 : n ≤ 1000)
    (A : List Value) (h : A.length = n) (w : World) : (Instr.buildSlice sl 1 #[(0, .agg A.toArray)]).run P w = .ok (.slice (some ⟨w.heap.size, 0, none⟩) 1 1) (w.alloc (.cells A.toArray T)) := by
  obtain ⟨i, z, hi, hzz, hc⟩ := zero_of hz
  have hsz : i.size = n := by rw [hi] at hs; simpa using hs
  refine run_buildSlice w _ _ 1 _ _ i z hu hi hzz (by rw [hsz]; first | omega | (simp; omega)) (by rw [hsz]; first | omega | (simp; omega)) ?_
  rw [hsz, hc]
  generalize hW : Array.map _ _ = W
  have hWs : W.toList.length = A.length := by rw [← hW, h]; simp
  have hf := fill_mid A [] W.toList [] hWs
  have hWs2 : W.size = n := by rw [← h, ← hWs]; simp
  simp [Instr.fill, Value.cells, h, hWs2] at hf ⊢
  exact hf
theorem Tryz.zeroMsg : ((Tryz.prog.info? 159).map fun i => i.zero.map fun z => z.cells.toList) = some (some MsgV.zero.cells) := by kernel_rfl
theorem Tryz.zeroLive' : ((Tryz.prog.info? 113).map fun i => i.zero.map fun z => z.cells.toList) = some (some (liveCells Live.zero)) := by kernel_rfl
def Htlc.zero : Htlc := ⟨0, 0, Vector.replicate 32 0, 0⟩
theorem Tryz.zeroHtlc' : ((Tryz.prog.info? 111).map fun i => i.zero.map fun z => z.cells.toList) = some (some (htlcCells Htlc.zero)) := by kernel_rfl
def bsMsg (n : Nat) (p : Array (Nat × Value)) : Sem Value := Instr.buildSlice 178 n p
theorem bs_msg_fold (n : Nat) (p : Array (Nat × Value)) : Instr.buildSlice 178 n p = bsMsg n p := rfl
theorem bs_msg (A : List Value) (w : World) : (bsMsg 1 #[(0, .agg A.toArray)]).run Tryz.prog w = if A.length = 38 then .ok (.slice (some ⟨w.heap.size, 0, none⟩) 1 1) (w.alloc (.cells A.toArray 159)) else (Instr.buildSlice 178 1 #[(0, .agg A.toArray)]).run Tryz.prog w := by
  by_cases h : A.length = 38
  · rw [if_pos h]; exact row_of Tryz.underlying178 Tryz.zeroMsg Tryz.infoMsg rfl (by decide) (by decide) A h w
  · rw [if_neg h]; rfl
def bsLiv (n : Nat) (p : Array (Nat × Value)) : Sem Value := Instr.buildSlice 108 n p
theorem bs_liv_fold (n : Nat) (p : Array (Nat × Value)) : Instr.buildSlice 108 n p = bsLiv n p := rfl
theorem bs_liv (A : List Value) (w : World) : (bsLiv 1 #[(0, .agg A.toArray)]).run Tryz.prog w = if A.length = 38 then .ok (.slice (some ⟨w.heap.size, 0, none⟩) 1 1) (w.alloc (.cells A.toArray 113)) else (Instr.buildSlice 108 1 #[(0, .agg A.toArray)]).run Tryz.prog w := by
  by_cases h : A.length = 38
  · rw [if_pos h]; exact row_of Tryz.underlying108 Tryz.zeroLive' Tryz.infoLive rfl (by decide) (by decide) A h w
  · rw [if_neg h]; rfl
theorem Tryz.placesMsg : ∃ fields, Tryz.prog.underlying 159 = some (.struct fields) ∧ fields.toList.mapM (fun f => (Tryz.prog.info? f.type).map fun i => (f.offset, i.size)) = some [(0, 1), (1, 1), (2, 1), (3, 1), (4, 32), (36, 1), (37, 1)] := ⟨_, Tryz.underlying159, by kernel_rfl⟩
theorem built_add (k id n ex : Int) (H : List Value) (h : H.length = 32) : Tryz.prog.built 159 [(0, .int .i64 k), (2, .int .u64 id), (3, .int .u64 n), (4, .agg H.toArray), (5, .int .i64 ex)] = some (.int .i64 k :: .int .u32 0 :: .int .u64 id :: .int .u64 n :: (H ++ [.int .i64 ex, .int .i64 0])).toArray := by
  obtain ⟨i, z, hi, hz, hc⟩ := zero_of Tryz.zeroMsg
  obtain ⟨fs, hu, hp⟩ := Tryz.placesMsg
  rw [built_struct' hi hu hz hp]
  rw [fill_sc (P := []) (z := .int .i64 0) (R := .int .u32 0 :: .int .u64 0 :: .int .u64 0 :: (z32i.map (Value.int .u8) ++ [.int .i64 0, .int .i64 0])) rfl rfl rfl hc]
  rw [fill_sc (P := [.int .i64 k, .int .u32 0]) (z := .int .u64 0) (R := .int .u64 0 :: (z32i.map (Value.int .u8) ++ [.int .i64 0, .int .i64 0])) rfl rfl rfl (by rfl)]
  rw [fill_sc (P := [.int .i64 k, .int .u32 0, .int .u64 id]) (z := .int .u64 0) (R := (z32i.map (Value.int .u8) ++ [.int .i64 0, .int .i64 0])) rfl rfl rfl (by rfl)]
  rw [fill_one (P := [.int .i64 k, .int .u32 0, .int .u64 id, .int .u64 n]) (A := H) (Z := z32i.map (Value.int .u8)) (R := [.int .i64 0, .int .i64 0]) (off := 4) (by rw [h]; rfl) rfl (by rw [h]; rfl) (by rfl)]
  rw [fill_sc (P := [.int .i64 k, .int .u32 0, .int .u64 id, .int .u64 n] ++ H) (z := .int .i64 0) (R := [.int .i64 0]) (off := 36) rfl (by simp [h]) rfl (by simp)]
  rw [Instr.fill]
  simp
theorem bd_msg_add (k id n ex : Int) (H : List Value) (w : World) : (bdMsg #[(0, .int .i64 k), (2, .int .u64 id), (3, .int .u64 n), (4, .agg H.toArray), (5, .int .i64 ex)]).run Tryz.prog w = if H.length = 32 then .ok (.agg (.int .i64 k :: .int .u32 0 :: .int .u64 id :: .int .u64 n :: (H ++ [.int .i64 ex, .int .i64 0])).toArray) w else (Instr.build 159 #[(0, .int .i64 k), (2, .int .u64 id), (3, .int .u64 n), (4, .agg H.toArray), (5, .int .i64 ex)]).run Tryz.prog w := by
  by_cases h : H.length = 32
  · rw [if_pos h]; exact run_build w _ _ _ (built_add k id n ex H h)
  · rw [if_neg h]; rfl
theorem bd_msg_zero (w : World) : (bdMsg #[]).run Tryz.prog w = .ok (.agg MsgV.zero.cells.toArray) w := run_build w _ _ _ (by kernel_rfl)
theorem bd_msg_shut (k c : Int) (w : World) : (bdMsg #[(0, .int .i64 k), (1, .int .u32 c)]).run Tryz.prog w = .ok (.agg (MsgV.cells ⟨k, c, 0, 0, z32i, 0, 0⟩).toArray) w := run_build w _ _ _ (by kernel_rfl)
def bdHtl (p : Array (Nat × Value)) : Sem Value := Instr.build 111 p
theorem bd_htl_fold (p : Array (Nat × Value)) : Instr.build 111 p = bdHtl p := rfl
theorem Tryz.placesHtl : ∃ fields, Tryz.prog.underlying 111 = some (.struct fields) ∧ fields.toList.mapM (fun f => (Tryz.prog.info? f.type).map fun i => (f.offset, i.size)) = some [(0, 1), (1, 1), (2, 32), (34, 1)] := ⟨_, Tryz.underlying111, by kernel_rfl⟩
theorem built_htl (id n ex : Int) (H : List Value) (h : H.length = 32) : Tryz.prog.built 111 [(0, .int .u64 id), (1, .int .u64 n), (2, .agg H.toArray), (3, .int .i64 ex)] = some (.int .u64 id :: .int .u64 n :: (H ++ [.int .i64 ex])).toArray := by
  obtain ⟨i, z, hi, hz, hc⟩ := zero_of Tryz.zeroHtlc'
  obtain ⟨fs, hu, hp⟩ := Tryz.placesHtl
  rw [built_struct' hi hu hz hp]
  rw [fill_sc (P := []) (z := .int .u64 0) (R := .int .u64 0 :: (z32i.map (Value.int .u8) ++ [.int .i64 0])) rfl rfl rfl (hc.trans (by kernel_rfl))]
  rw [fill_sc (P := [.int .u64 id]) (z := .int .u64 0) (R := z32i.map (Value.int .u8) ++ [.int .i64 0]) rfl rfl rfl (by rfl)]
  rw [fill_one (P := [.int .u64 id, .int .u64 n]) (A := H) (Z := z32i.map (Value.int .u8)) (R := [.int .i64 0]) (off := 2) (by rw [h]; rfl) rfl (by rw [h]; rfl) (by rfl)]
  rw [fill_sc (P := [.int .u64 id, .int .u64 n] ++ H) (z := .int .i64 0) (R := []) (off := 34) rfl (by simp [h]) rfl (by simp)]
  rw [Instr.fill]
  simp
theorem bd_htl (id n ex : Int) (H : List Value) (w : World) : (bdHtl #[(0, .int .u64 id), (1, .int .u64 n), (2, .agg H.toArray), (3, .int .i64 ex)]).run Tryz.prog w = if H.length = 32 then .ok (.agg (.int .u64 id :: .int .u64 n :: (H ++ [.int .i64 ex])).toArray) w else (Instr.build 111 #[(0, .int .u64 id), (1, .int .u64 n), (2, .agg H.toArray), (3, .int .i64 ex)]).run Tryz.prog w := by
  by_cases h : H.length = 32
  · rw [if_pos h]; exact run_build w _ _ _ (built_htl id n ex H h)
  · rw [if_neg h]; rfl
def bdLiv (p : Array (Nat × Value)) : Sem Value := Instr.build 113 p
theorem bd_liv_fold (p : Array (Nat × Value)) : Instr.build 113 p = bdLiv p := rfl
theorem Tryz.placesLiv : ∃ fields, Tryz.prog.underlying 113 = some (.struct fields) ∧ fields.toList.mapM (fun f => (Tryz.prog.info? f.type).map fun i => (f.offset, i.size)) = some [(0, 35), (35, 1), (36, 1), (37, 1)] := ⟨_, Tryz.underlying113, by kernel_rfl⟩
theorem zlive_split : (liveCells Live.zero).toArray = (([] : List Value) ++ (htlcCells Htlc.zero ++ ([.bool false, .int .i64 0, .bool false] : List Value))).toArray := rfl
theorem built_liv3 (b : Bool) (s : Int) (H : List Value) (h : H.length = 35) : Tryz.prog.built 113 [(0, .agg H.toArray), (1, .bool b), (2, .int .i64 s)] = some (H ++ ([.bool b, .int .i64 s, .bool false] : List Value)).toArray := by
  obtain ⟨i, z, hi, hz, hc⟩ := zero_of Tryz.zeroLive'
  obtain ⟨fs, hu, hp⟩ := Tryz.placesLiv
  rw [built_struct' hi hu hz hp]
  rw [fill_one (P := []) (A := H) (Z := htlcCells Htlc.zero) (R := [.bool false, .int .i64 0, .bool false]) (off := 0) (by rw [h]; rfl) rfl (by rw [h]; rfl) (hc.trans zlive_split)]
  rw [fill_sc (P := H) (z := .bool false) (R := [.int .i64 0, .bool false]) (off := 35) rfl h rfl (by simp)]
  rw [fill_sc (P := H ++ [.bool b]) (z := .int .i64 0) (R := [.bool false]) (off := 36) rfl (by simp [h]) rfl (by simp)]
  rw [Instr.fill]
  simp
theorem bd_liv3 (b : Bool) (s : Int) (H : List Value) (w : World) : (bdLiv #[(0, .agg H.toArray), (1, .bool b), (2, .int .i64 s)]).run Tryz.prog w = if H.length = 35 then .ok (.agg (H ++ ([.bool b, .int .i64 s, .bool false] : List Value)).toArray) w else (Instr.build 113 #[(0, .agg H.toArray), (1, .bool b), (2, .int .i64 s)]).run Tryz.prog w := by
  by_cases h : H.length = 35
  · rw [if_pos h]; exact run_build w _ _ _ (built_liv3 b s H h)
  · rw [if_neg h]; rfl

attribute [local go_sem ↓ high] ld_live_fold st_live_fold al_live_fold ld_msg_fold st_msg_fold al_msg_fold bd_msg_fold bs_msg_fold
attribute [local go_sem] ld_live st_live al_live ld_msg st_msg al_msg bd_msg_zero bd_msg_shut bs_msg rowN_drew

def MsgV.on (m : MsgV) (ch : Int) : MsgV := { m with ch := ch }

end Go.Proofs.YtjckpgcmfieaoaaGreatDoor
namespace Go.Proofs.YtjckpgcmfieaoaaGreatDoor
open Go.RowKit

theorem Tryz.infoHsh : (Tryz.prog.info? 30).map (·.size) = some 32 := by kernel_rfl
def ldHsh (x : Value) : Sem Value := Instr.loadAt 30 x
theorem ld_hsh_fold (x : Value) : Instr.loadAt 30 x = ldHsh x := rfl
theorem ld_hsh (b o : Nat) (w : World) : (ldHsh (.pointer (some ⟨b, o, none⟩))).run Tryz.prog w = match rowN w b o 32 with | some A => .ok (.agg A) w | none => slowLd Tryz.prog 30 w b o :=
  run_loadAt_rowN 30 32 _ Tryz.underlying30 rfl Tryz.infoHsh b o w
def stHsh (x v : Value) : Sem Unit := Instr.storeAt 30 x v
theorem st_hsh_fold (x v : Value) : Instr.storeAt 30 x v = stHsh x v := rfl
theorem st_hsh (b o : Nat) (A : Array Value) (w : World) : (stHsh (.pointer (some ⟨b, o, none⟩)) (.agg A)).run Tryz.prog w = if stOk w b o 32 A = true then .ok () (w.setCells b o A.toList) else slowSt Tryz.prog 30 w b o A :=
  run_storeAt_row 30 32 Tryz.infoHsh b o A w
theorem Tryz.infoHtl : (Tryz.prog.info? 111).map (·.size) = some 35 := by kernel_rfl
def ldHtl (x : Value) : Sem Value := Instr.loadAt 111 x
theorem ld_htl_fold (x : Value) : Instr.loadAt 111 x = ldHtl x := rfl
theorem ld_htl (b o : Nat) (w : World) : (ldHtl (.pointer (some ⟨b, o, none⟩))).run Tryz.prog w = match rowN w b o 35 with | some A => .ok (.agg A) w | none => slowLd Tryz.prog 111 w b o :=
  run_loadAt_rowN 111 35 _ Tryz.underlying111 rfl Tryz.infoHtl b o w
def stHtl (x v : Value) : Sem Unit := Instr.storeAt 111 x v
theorem st_htl_fold (x v : Value) : Instr.storeAt 111 x v = stHtl x v := rfl
theorem st_htl (b o : Nat) (A : Array Value) (w : World) : (stHtl (.pointer (some ⟨b, o, none⟩)) (.agg A)).run Tryz.prog w = if stOk w b o 35 A = true then .ok () (w.setCells b o A.toList) else slowSt Tryz.prog 111 w b o A :=
  run_storeAt_row 111 35 Tryz.infoHtl b o A w
def alHtl : Sem Value := Instr.alloc 111 true (.tuple #[])
theorem al_htl_fold : Instr.alloc 111 true (.tuple #[]) = alHtl := rfl
theorem al_htl (w : World) : alHtl.run Tryz.prog w = .ok (.pointer (some ⟨w.heap.size, 0, none⟩)) (w.alloc (.cells (htlcCells Htlc.zero).toArray 111)) := by kernel_rfl

attribute [local go_sem ↓ high] ld_msg_fold st_msg_fold al_msg_fold bd_msg_fold ld_hsh_fold
attribute [local go_sem] ld_msg st_msg al_msg bd_msg_zero bd_msg_shut rowN_drew ld_hsh

def Ch.shutSaid (c : Ch) : Ch := { c with k := { c.k with shutSaid := true } }
theorem Ch.Ok.shutSaid {c : Ch} (h : c.Ok) : c.shutSaid.Ok := ⟨h.s, h.signed, h.heard, h.nextOwn, h.nextTheirs, h.loc, h.rem, h.xs, h.few, h.shelf, h.news, h.last, h.many⟩
def shutMsg (ch : Int) : MsgV := ⟨8, ch, 0, 0, z32i, 0, 0⟩
/-- What Shut does: the end, what it says, its error. -/
def Ch.shut (c : Ch) : Ch × MsgV × Int := if c.k.shutSaid then (c, MsgV.zero, 4) else (c.shutSaid, shutMsg c.s.ch, 0)

end Go.Proofs.YtjckpgcmfieaoaaGreatDoor
namespace Go.Proofs.YtjckpgcmfieaoaaGreatDoor
open Go.RowKit

def hshV (h : List Int) : List Value := h.map (Value.int .u8)
theorem hshV_len (h : List Int) : (hshV h).length = h.length := by simp [hshV]
theorem hshV_one (h : List Int) : ∀ v ∈ hshV h, v.oneCell' = true := by
  intro v hv
  obtain ⟨x, _, rfl⟩ := List.mem_map.1 hv
  rfl
def alHsh : Sem Value := Instr.alloc 30 true (.tuple #[])
theorem al_hsh_fold : Instr.alloc 30 true (.tuple #[]) = alHsh := rfl
theorem al_hsh (w : World) : alHsh.run Tryz.prog w = .ok (.pointer (some ⟨w.heap.size, 0, none⟩)) (w.alloc (.cells (hshV z32i).toArray 30)) := by kernel_rfl
def bdHsh (p : Array (Nat × Value)) : Sem Value := Instr.build 30 p
theorem bd_hsh_fold (p : Array (Nat × Value)) : Instr.build 30 p = bdHsh p := rfl
theorem bd_hsh (w : World) : (bdHsh #[]).run Tryz.prog w = .ok (.agg (hshV z32i).toArray) w := run_build w _ _ _ (by kernel_rfl)
/-- A hash lies in a block of its own. -/
structure HsB (w : World) (b : Nat) (h : List Int) : Prop where
  at_ : w.heap[b]? = some (.cells (hshV h).toArray 30 (0, 0))
  len : h.length = 32
theorem HsB.upd {S : Nat → Prop} {w w' : World} {b : Nat} {h : List Int} (a : HsB w b h) (u : Upd S w w') (n : ¬ S b) : HsB w' b h := ⟨u.old a.at_ n, a.len⟩
theorem HsB.new {w w' : World} {b : Nat} {h : List Int} (a : HsB w b h) (u : New w w') : HsB w' b h := a.upd u (fun h => h)
theorem HsB.row {w : World} {b : Nat} {h : List Int} (a : HsB w b h) : rowN w b 0 32 = some (hshV h).toArray := rowN_whole a.at_ 32 (by rw [List.size_toArray, hshV_len, a.len])
theorem HsB.stOk {w : World} {b : Nat} {h : List Int} (a : HsB w b h) (k : List Int) (hk : k.length = 32) : stOk w b 0 32 (hshV k).toArray = true := by
  have := stOk_all a.at_ (A := hshV k) (by rw [List.size_toArray, hshV_len, hshV_len, a.len, hk]) (hshV_one k)
  rwa [List.size_toArray, hshV_len, a.len] at this
theorem HsB.put {w : World} {b : Nat} {h : List Int} (a : HsB w b h) (k : List Int) (hk : k.length = 32) : HsB (w.setCells b 0 (hshV k)) b k := by
  refine ⟨?_, hk⟩
  rw [blk_setCells a.at_ 0 _, layIn_whole _ _ (by rw [List.size_toArray, hshV_len, hshV_len, a.len, hk])]
theorem HsB.lt {w : World} {b : Nat} {h : List Int} (a : HsB w b h) : b < w.heap.size := blk_lt a.at_
theorem upd_sets {w : World} {b : Nat} (l : List Value) : Upd (· = b) w (w.setCells b 0 l) := (Upd.refl _ _).setCells 0 l

end Go.Proofs.YtjckpgcmfieaoaaGreatDoor
