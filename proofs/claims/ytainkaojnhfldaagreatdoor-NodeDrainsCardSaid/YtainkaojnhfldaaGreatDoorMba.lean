/-
  Messages as rows of cells.
-/
import Derived.Test.YtainkaojnhfldaaGreatDoorProg
import Derived.Test.YtainkaojnhfldaaGreatDoorLv
import Derived.Test.YtainkaojnhfldaaGreatDoorMai
import Derived.Test.YtainkaojnhfldaaGreatDoorTxt
set_option linter.unusedVariables false
set_option linter.unusedSimpArgs false
namespace Go.Proofs.YtainkaojnhfldaaGreatDoor
open Go.RowKit

structure MsgV where
  kind : Int
  ch : Int
  id : Int
  amount : Int
  hash : List Int
  expiry : Int
  number : Int
def MsgV.cells (m : MsgV) : List Value := .int .i64 m.kind :: .int .u32 m.ch :: .int .u64 m.id :: .int .u64 m.amount :: (m.hash.map (Value.int .u8) ++ [.int .i64 m.expiry, .int .i64 m.number])
theorem MsgV.len (m : MsgV) (h : m.hash.length = 32) : m.cells.length = 38 := by simp [MsgV.cells, h]
theorem MsgV.one (m : MsgV) : ∀ v ∈ m.cells, v.oneCell' = true := by
  intro v hv
  simp only [MsgV.cells, List.mem_cons, List.mem_append, List.mem_map, List.not_mem_nil, or_false] at hv
  rcases hv with rfl | rfl | rfl | rfl | ⟨n, _, rfl⟩ | rfl | rfl <;> rfl
def z32i : List Int := List.replicate 32 0
theorem z32i_len : z32i.length = 32 := List.length_replicate
theorem Tryz.infoMsg : (Tryz.prog.info? 72).map (·.size) = some 38 := by kernel_rfl
def ldMsg (x : Value) : Sem Value := Instr.loadAt 72 x
theorem ld_msg_fold (x : Value) : Instr.loadAt 72 x = ldMsg x := rfl
theorem ld_msg (b o : Nat) (w : World) : (ldMsg (.pointer (some ⟨b, o, none⟩))).run Tryz.prog w = match rowN w b o 38 with | some A => .ok (.agg A) w | none => slowLd Tryz.prog 72 w b o :=
  run_loadAt_rowN 72 38 _ Tryz.underlying72 rfl Tryz.infoMsg b o w
def stMsg (x v : Value) : Sem Unit := Instr.storeAt 72 x v
theorem st_msg_fold (x v : Value) : Instr.storeAt 72 x v = stMsg x v := rfl
theorem st_msg (b o : Nat) (A : Array Value) (w : World) : (stMsg (.pointer (some ⟨b, o, none⟩)) (.agg A)).run Tryz.prog w = if stOk w b o 38 A = true then .ok () (w.setCells b o A.toList) else slowSt Tryz.prog 72 w b o A :=
  run_storeAt_row 72 38 Tryz.infoMsg b o A w
def MsgV.zero : MsgV := ⟨0, 0, 0, 0, z32i, 0, 0⟩
def alMsg : Sem Value := Instr.alloc 72 true (.tuple #[])
theorem al_msg_fold : Instr.alloc 72 true (.tuple #[]) = alMsg := rfl
theorem al_msg (w : World) : alMsg.run Tryz.prog w = .ok (.pointer (some ⟨w.heap.size, 0, none⟩)) (w.alloc (.cells MsgV.zero.cells.toArray 72)) := by kernel_rfl
def bdMsg (p : Array (Nat × Value)) : Sem Value := Instr.build 72 p
theorem bd_msg_fold (p : Array (Nat × Value)) : Instr.build 72 p = bdMsg p := rfl
theorem bd_msg_again (c n k : Int) (w : World) : (bdMsg #[(0, .int .i64 9), (1, .int .u32 c), (6, .int .i64 n), (2, .int .u64 k)]).run Tryz.prog w = .ok (.agg (MsgV.cells ⟨9, c, k, 0, z32i, 0, n⟩).toArray) w := run_build w _ _ _ (by kernel_rfl)
theorem Tryz.infoBase : (Tryz.prog.info? 75).map (·.size) = some 2 := by kernel_rfl
/-- A message laid whole into a block of its own. -/
theorem laid_msg {w : World} {b : Nat} {m : MsgV} {T : TypeId} (h : w.heap[b]? = some (.cells MsgV.zero.cells.toArray T (0, 0))) (hm : m.hash.length = 32) : (w.setCells b 0 m.cells).heap[b]? = some (.cells m.cells.toArray T (0, 0)) := by
  rw [blk_setCells h 0 m.cells, layIn_whole _ _ (by rw [m.len hm]; rfl)]
theorem stOk_msg {w : World} {b : Nat} {T : TypeId} (h : w.heap[b]? = some (.cells MsgV.zero.cells.toArray T (0, 0))) {m : MsgV} (hm : m.hash.length = 32) : stOk w b 0 38 m.cells.toArray = true :=
  stOk_all (C := MsgV.zero.cells.toArray) h (by rw [m.len hm]; rfl) m.one
end Go.Proofs.YtainkaojnhfldaaGreatDoor
namespace Go.Proofs.YtainkaojnhfldaaGreatDoor
open Go.RowKit

attribute [local go_sem ↓ high] ld_msg_fold st_msg_fold bd_msg_fold
attribute [local go_sem] ld_msg st_msg bd_msg_again rowN_drew

/-- What an end says of itself behind a cut. -/
def CountsV.told (k : CountsV) : Int := if k.awaits then k.signed - 1 else k.signed
set_option maxRecDepth 100000 in
set_option maxHeartbeats 1000000 in
theorem again_any (g : Nat) (c : ChanV) (w : World) (h : ChR w g c) (hs : 0 ≤ c.k.signed ∧ c.k.signed < 4294967296) (hh : 0 ≤ c.k.heard ∧ c.k.heard < 4294967296) :
    Calls Tryz.prog 34 #[.pointer (some ⟨g, 0, none⟩)] w (Makes (.agg (MsgV.cells ⟨9, c.setup.ch, IntKind.u64.wrap c.k.told, 0, z32i, 0, c.k.heard + 1⟩).toArray) w) := by
  go_enter Tryz.func34, Tryz.ntmps34
  go_upto_region 1 with fail
  have hb : (w.alloc (.cells MsgV.zero.cells.toArray 72)).heap[w.heap.size]? = some (.cells MsgV.zero.cells.toArray 72 (0, 0)) := blk_alloc _ _
  have n0 : New w (w.alloc (.cells MsgV.zero.cells.toArray 72)) := (Upd.refl _ _).alloc _
  change Code.wp _ _ _ _ (w.alloc (.cells MsgV.zero.cells.toArray 72))
  generalize w.alloc (.cells MsgV.zero.cells.toArray 72) = w1 at hb n0 ⊢
  have h1 := h.new n0
  have hlt := h.lt
  have c0 := h1.ch
  have c37 := h1.signed
  have c38 := h1.heard
  have c39 := h1.awaits
  have e1 : IntKind.i64.wrap (c.k.heard + 1) = c.k.heard + 1 := wrapI (by omega) (by omega)
  have e2 : IntKind.i64.wrap (c.k.signed - 1) = c.k.signed - 1 := wrapI (by omega) (by omega)
  have hst : stOk w1.drew w.heap.size 0 38 (MsgV.cells ⟨9, c.setup.ch, IntKind.u64.wrap c.k.told, 0, z32i, 0, c.k.heard + 1⟩).toArray = true := stOk_msg (m := ⟨9, c.setup.ch, IntKind.u64.wrap c.k.told, 0, z32i, 0, c.k.heard + 1⟩) hb z32i_len
  have hfin := laid_msg (w := w1.drew) (m := ⟨9, c.setup.ch, IntKind.u64.wrap c.k.told, 0, z32i, 0, c.k.heard + 1⟩) hb z32i_len
  have nfin : New w (w1.drew.setCells w.heap.size 0 (MsgV.cells ⟨9, c.setup.ch, IntKind.u64.wrap c.k.told, 0, z32i, 0, c.k.heard + 1⟩)) := n0.drew.then ((Upd.refl (· = w.heap.size) w1.drew).setCells 0 _) (fun i hi e => by omega)
  have HF := hide hfin
  have HN := hide nfin
  have hk : c.k.told = if c.k.awaits = true then c.k.signed - 1 else c.k.signed := rfl
  clear h h1 hb n0 hfin nfin
  cases ha : c.k.awaits with
  | true =>
    rw [ha] at c39 hk
    rw [if_pos rfl] at hk
    rw [hk] at hst HF HN
    generalize c.k.told = t at *
    subst hk
    go_wp2_with (with_reducible first | (first | refine' tw1 (ido ?_) ?_ | refine' tw2 (ido ?_) ?_); rotate_left | refine' tw3 (ido ?_) | rfl | apply tn | refine' tw4 ?_)
    refine bodyPost_ret (results_cell_row rfl _ _ w.heap.size _ _ _ _ rfl (unhide HF) Tryz.underlying72 rfl (by rw [List.size_toArray, MsgV.len _ z32i_len]; exact Tryz.infoMsg)) rfl ?_
    exact ⟨rfl, unhide HN⟩
  | false =>
    rw [ha] at c39 hk
    rw [if_neg (by decide)] at hk
    have e3 : IntKind.u64.wrap c.k.signed = c.k.signed := wrapU (by omega) (by omega)
    rw [hk, e3] at hst HF HN
    generalize c.k.told = t at *
    subst hk
    go_wp2_with (with_reducible first | (first | refine' tw1 (ido ?_) ?_ | refine' tw2 (ido ?_) ?_); rotate_left | refine' tw3 (ido ?_) | rfl | apply tn | refine' tw4 ?_)
    refine bodyPost_ret (results_cell_row rfl _ _ w.heap.size _ _ _ _ rfl (unhide HF) Tryz.underlying72 rfl (by rw [List.size_toArray, MsgV.len _ z32i_len]; exact Tryz.infoMsg)) rfl ?_
    exact ⟨by rw [e3], unhide HN⟩

set_option maxHeartbeats 1000000 in
theorem base_any (g : Nat) (c : ChanV) (w : World) (h : ChR w g c) :
    Calls Tryz.prog 35 #[.pointer (some ⟨g, 0, none⟩)] w (Makes (.agg #[.int .u64 c.loc, .int .u64 c.rem]) w) := by
  go_enter Tryz.func35, Tryz.ntmps35
  have n0 : New w (w.alloc (.cells #[.int .u64 0, .int .u64 0] 75)) := (Upd.refl _ _).alloc _
  have hb : (w.alloc (.cells #[.int .u64 0, .int .u64 0] 75)).heap[w.heap.size]? = some (.cells #[.int .u64 0, .int .u64 0] 75 (0, 0)) := blk_alloc _ _
  go_upto_region 1 with fail
  have h1 := h.new n0
  generalize w.alloc (.cells #[.int .u64 0, .int .u64 0] 75) = w1 at hb n0 h1 ⊢
  have c45 := h1.loc
  have c46 := h1.rem
  have d0 := blk_cell hb 0
  have d1 := blk_cell hb 1
  have z0 := blk_free hb 0
  have z1 := blk_free hb 1
  simp at d0 d1
  have hF : ((w1.setCell ⟨w.heap.size, 0, none⟩ (.int .u64 c.loc)).setCell ⟨w.heap.size, 1, none⟩ (.int .u64 c.rem)).heap[w.heap.size]? = some (.cells #[.int .u64 c.loc, .int .u64 c.rem] 75 (0, 0)) := blk_set (blk_set hb 0 _) 1 _
  have nF : New w ((w1.setCell ⟨w.heap.size, 0, none⟩ (.int .u64 c.loc)).setCell ⟨w.heap.size, 1, none⟩ (.int .u64 c.rem)) := n0.then (((Upd.refl (· = w.heap.size) w1).set1 0 _).set1 1 _) (fun i hi e => by omega)
  have HF := hide hF
  have HN := hide nF
  clear h h1 hb n0 hF nF
  go_wp2_with (with_reducible first | (first | refine' tw1 (ido ?_) ?_ | refine' tw2 (ido ?_) ?_); rotate_left | refine' tw3 (ido ?_) | rfl | apply tn | refine' tw4 ?_)
  refine bodyPost_ret (results_cell_row rfl _ _ w.heap.size _ _ _ _ rfl (unhide HF) Tryz.underlying75 rfl Tryz.infoBase) rfl ?_
  exact ⟨rfl, unhide HN⟩

/-- A channel, and what is live in it. -/
structure ChI (w : World) (g : Nat) (c : ChanV) (xs : List Live) : Prop extends ChR w g c where
  row : w.ownsRow 0 128 38 c.live xs.length (xs.flatMap liveCells)
theorem ChI.new {w w' : World} {g : Nat} {c : ChanV} {xs : List Live} (h : ChI w g c xs) (u : New w w') : ChI w' g c xs := ⟨h.toChR.new u, owns_new h.row u⟩
theorem ChI.lives {w : World} {g : Nat} {c : ChanV} {xs : List Live} (h : ChI w g c xs) : Lives w c.live xs := by
  rcases (heldL_of_owns h.row).2 with ⟨e, e0⟩ | ⟨g, cap, e, -, hh⟩
  · exact .inl ⟨none, 0, e, e0⟩
  · exact .inr ⟨g, 0, cap, e, hh.toL⟩
theorem ChI.shape {w : World} {g : Nat} {c : ChanV} {xs : List Live} (h : ChI w g c xs) : ∃ a cap, c.live = .slice a xs.length cap := by
  rcases (heldL_of_owns h.row).2 with ⟨e, e0⟩ | ⟨g, cap, e, -⟩
  · exact ⟨none, 0, by rw [e, e0]; rfl⟩
  · exact ⟨_, cap, e⟩
set_option maxHeartbeats 1000000 in
theorem live_any (g : Nat) (c : ChanV) (xs : List Live) (hl : xs.length ≤ 1048576) (w : World) (h : ChI w g c xs) :
    Calls Tryz.prog 46 #[.pointer (some ⟨g, 0, none⟩)] w fun e w' => ∃ u, e = .returned u ∧ New w w' ∧ ((∃ a k, u = .slice a 0 k ∧ xs = []) ∨ ∃ g' cap, u = .slice (some ⟨g', 0, none⟩) xs.length cap ∧ w.heap.size ≤ g' ∧ HeldO w' g' 0 xs) := by
  go_enter Tryz.func46, Tryz.ntmps46
  have c47 := h.toChR.live
  have hv := h.lives
  obtain ⟨a, cap, hsh⟩ := h.shape
  rw [hsh] at c47 hv
  clear h
  go_wp2_with (with_reducible first | (first | refine' tw1 (ido ?_) ?_ | refine' tw2 (ido ?_) ?_); rotate_left | refine' tw3 (ido ?_) | rfl | apply tn | refine' tw4 ?_)
  refine (clone_any _ xs hl _ hv).mono ?_
  rintro e w' ⟨u, rfl, n, hu⟩
  have HU := hide hu
  clear hu c47 hv
  go_wp2_with (with_reducible first | (first | refine' tw1 (ido ?_) ?_ | refine' tw2 (ido ?_) ?_); rotate_left | refine' tw3 (ido ?_) | rfl | apply tn | refine' tw4 ?_)
  go_ret
  exact ⟨u, rfl, n, unhide HU⟩

end Go.Proofs.YtainkaojnhfldaaGreatDoor
namespace Go.Proofs.YtainkaojnhfldaaGreatDoor
open Go.RowKit

theorem row_upd' {S : Nat → Prop} {w w' : World} {base : Nat} {e : TypeId} {size : Nat} {v : Value} {n : Nat} {xs : List Value} (h : w.ownsRow base e size v n xs) (u : Upd S w w') (hS : ∀ k, v.ownBlock = some k → ¬ S k) : w'.ownsRow base e size v n xs := by
  refine ⟨h.1, ?_⟩
  rcases h.2 with h | ⟨g, cap, cur, e1, e2, hg, r⟩
  · exact .inl h
  · exact .inr ⟨g, cap, cur, e1, e2, u.old hg (hS g (by rw [e1]; rfl)), r⟩
theorem own_blk' {w : World} {base : Nat} {e : TypeId} {size : Nat} {v : Value} {n : Nat} {xs : List Value} (h : w.ownsRow base e size v n xs) : ∀ k, v.ownBlock = some k → ∃ cur, w.heap[k]? = some (.cells cur e (0, 0)) := by
  intro k hk
  rcases h.2 with ⟨rfl, _⟩ | ⟨g, cap, cur, rfl, e2, hg, _⟩
  · simp [Value.ownBlock] at hk
  · simp [Value.ownBlock] at hk
    exact ⟨cur, hk ▸ hg⟩
/-- Blocks of other types are apart. -/
theorem apart_ty' {w : World} {k j : Nat} {c d : Array Value} {T U : TypeId} {x y : Nat × Nat} (h : w.heap[k]? = some (.cells c T x)) (g : w.heap[j]? = some (.cells d U y)) (n : T ≠ U) : k ≠ j := by
  rintro rfl
  rw [h] at g
  injection g with g
  injection g with _ g
  exact n g
theorem own_shape' {w : World} {base : Nat} {e : TypeId} {size : Nat} {v : Value} {n : Nat} {xs : List Value} (h : w.ownsRow base e size v n xs) : ∃ a cap, v = .slice a n cap := by
  rcases h.2 with ⟨e, e0⟩ | ⟨g, cap, cur, e, _⟩
  · exact ⟨none, 0, by rw [e, e0]⟩
  · exact ⟨_, cap, e⟩
theorem results_row_tmp' {P : Program} {fn : Func} {p u : Tmp} {ty : TypeId} (h : fn.results = #[.cell p ty, .tmp u]) (tmps : Array Value) (w : World) (g : Nat) (t : TypeId) (cs : Array Value) (fr : Nat × Nat) (d : TypeDesc)
    (hp : tmps.getD p undef = .pointer (some ⟨g, 0, none⟩)) (hg : w.heap[g]? = some (.cells cs t fr))
    (hu : P.underlying ty = some d) (hd : (match d with | .struct _ | .array _ _ => true | _ => false) = true) (hi : (P.info? ty).map (·.size) = some cs.size) :
    (results fn tmps).run P w = .ok (.tuple #[.agg cs, tmps.getD u undef]) w := by
  rw [results_cell_tmp h, hp]
  simp [asAddr, run_loadVar_row w g t ty cs fr d hg hu hd hi, Result.andThen]
/-- An end of a channel, as plain data. -/
structure Ch where
  s : SetupV
  k : CountsV
  loc : Int
  rem : Int
  xs : List Live
  shelf : List KeptV
  news : List MsgV
  last : List MsgV
def Ch.v (c : Ch) (lv nv av : Value) : ChanV := ⟨c.s, c.k, c.loc, c.rem, lv, c.shelf, nv, av⟩
/-- A row of lives; of messages. -/
def LivesO (w : World) (v : Value) (xs : List Live) : Prop := w.ownsRow 0 128 38 v xs.length (xs.flatMap liveCells)
def MsgsO (w : World) (v : Value) (ms : List MsgV) : Prop := w.ownsRow 0 72 38 v ms.length (ms.flatMap MsgV.cells)
def MsgsOk (ms : List MsgV) : Prop := ∀ m ∈ ms, m.hash.length = 32
/-- Numbers that fit. -/
structure Ch.Ok (c : Ch) : Prop where
  s : c.s.Ok
  signed : 0 ≤ c.k.signed ∧ c.k.signed ≤ 65535
  heard : 0 ≤ c.k.heard ∧ c.k.heard < 4294967296
  nextOwn : 0 ≤ c.k.nextOwn ∧ c.k.nextOwn < 18446744073709551616
  nextTheirs : 0 ≤ c.k.nextTheirs ∧ c.k.nextTheirs < 18446744073709551616
  loc : 0 ≤ c.loc ∧ c.loc < 18446744073709551616
  rem : 0 ≤ c.rem ∧ c.rem < 18446744073709551616
  xs : ∀ x ∈ c.xs, LiveOk x
  few : c.xs.length ≤ 1000000
  shelf : c.shelf.length = 17 ∧ ∀ p ∈ c.shelf, p.told.length = 32
  news : MsgsOk c.news
  last : MsgsOk c.last
  many : c.news.length ≤ 1000000 ∧ c.last.length ≤ 1000000
/-- A channel lies in block g; all its blocks are in S. -/
structure ChP (w : World) (g : Nat) (S : Nat → Prop) (c : Ch) (lv nv av : Value) : Prop where
  at_ : w.heap[g]? = some (.cells (c.v lv nv av).cells.toArray 104 (0, 0))
  ok : c.Ok
  live : LivesO w lv c.xs
  news : MsgsO w nv c.news
  last : MsgsO w av c.last
  inG : S g
  inL : ∀ k, lv.ownBlock = some k → S k
  inN : ∀ k, nv.ownBlock = some k → S k
  inA : ∀ k, av.ownBlock = some k → S k
  sep : ∀ k, nv.ownBlock = some k → av.ownBlock ≠ some k
  lt : ∀ k, S k → k < w.heap.size
/-- The same, its rows' values left open. -/
def ChS (w : World) (g : Nat) (S : Nat → Prop) (c : Ch) : Prop := ∃ lv nv av, ChP w g S c lv nv av
/-- S, and what is made from w to w'. -/
def Fr (S : Nat → Prop) (w w' : World) (k : Nat) : Prop := S k ∨ (w.heap.size ≤ k ∧ k < w'.heap.size)
section
variable {w w' : World} {g : Nat} {S T : Nat → Prop} {c : Ch} {lv nv av : Value}
theorem ChP.upd (h : ChP w g S c lv nv av) (u : Upd T w w') (hd : ∀ k, S k → ¬ T k) : ChP w' g S c lv nv av :=
  ⟨u.old h.at_ (hd g h.inG), h.ok, row_upd' h.live u (fun k hk => hd k (h.inL k hk)), row_upd' h.news u (fun k hk => hd k (h.inN k hk)), row_upd' h.last u (fun k hk => hd k (h.inA k hk)), h.inG, h.inL, h.inN, h.inA, h.sep, fun k hk => Nat.lt_of_lt_of_le (h.lt k hk) u.size⟩
theorem ChP.new (h : ChP w g S c lv nv av) (u : New w w') : ChP w' g S c lv nv av := h.upd u (fun _ _ h => h)
theorem ChP.wider (h : ChP w g S c lv nv av) (hs : ∀ k, S k → T k) (hl : ∀ k, T k → k < w.heap.size) : ChP w g T c lv nv av :=
  ⟨h.at_, h.ok, h.live, h.news, h.last, hs g h.inG, fun k e => hs k (h.inL k e), fun k e => hs k (h.inN k e), fun k e => hs k (h.inA k e), h.sep, hl⟩
theorem ChP.fr (h : ChP w' g S c lv nv av) (w : World) : ChS w' g (Fr S w w') c := ⟨_, _, _, h.wider (fun k hk => .inl hk) (fun k hk => hk.elim (h.lt k) (fun e => e.2))⟩
theorem ChS.upd (h : ChS w g S c) (u : Upd T w w') (hd : ∀ k, S k → ¬ T k) : ChS w' g S c := by
  obtain ⟨a, b, d, h⟩ := h
  exact ⟨a, b, d, h.upd u hd⟩
theorem ChS.new (h : ChS w g S c) (u : New w w') : ChS w' g S c := h.upd u (fun _ _ h => h)
theorem ChS.lt (h : ChS w g S c) : ∀ k, S k → k < w.heap.size := by
  obtain ⟨a, b, d, h⟩ := h
  exact h.lt
theorem ChP.toR (h : ChP w g S c lv nv av) : ChR w g (c.v lv nv av) := ⟨h.at_, h.ok.s.seed⟩
theorem ChP.toI (h : ChP w g S c lv nv av) : ChI w g (c.v lv nv av) c.xs := ⟨h.toR, h.live⟩
end

/-- One cell set. -/
theorem ChP.put {w : World} {g : Nat} {S : Nat → Prop} {c c' : Ch} {lv nv av : Value} (h : ChP w g S c lv nv av) {i : Nat} {x : Value} (he : (c.v lv nv av).cells.toArray.setIfInBounds i x = (c'.v lv nv av).cells.toArray) (hk : c'.Ok) (hx : c'.xs = c.xs) (hn : c'.news = c.news) (hl : c'.last = c.last) : ChP (w.setCell ⟨g, i, none⟩ x) g S c' lv nv av := by
  have u : Upd (· = g) w (w.setCell ⟨g, i, none⟩ x) := (Upd.refl _ _).set1 i x
  have ty : ∀ {T : TypeId} {v : Value} {n : Nat} {xs : List Value}, T ≠ 104 → w.ownsRow 0 T 38 v n xs → ∀ k, v.ownBlock = some k → ¬ k = g := by
    intro T v n xs hT hr k hk e
    obtain ⟨cur, hc⟩ := own_blk' hr k hk
    exact apart_ty' hc h.at_ hT e
  refine ⟨?_, hk, ?_, ?_, ?_, h.inG, h.inL, h.inN, h.inA, h.sep, fun k hk => Nat.lt_of_lt_of_le (h.lt k hk) u.size⟩
  · have := blk_set h.at_ i x
    rw [he] at this
    exact this
  · rw [hx]; exact row_upd' h.live u (ty (by decide) h.live)
  · rw [hn]; exact row_upd' h.news u (ty (by decide) h.news)
  · rw [hl]; exact row_upd' h.last u (ty (by decide) h.last)

-- a channel's cells, one of them set
theorem cells_set_mid (v : ChanV) (h : v.setup.seed.length = 32) (i : Nat) (x : Value) : v.cells.toArray.setIfInBounds (37 + i) x = (v.setup.cells ++ (v.k.cells ++ v.rest).set i x).toArray := by
  unfold ChanV.cells
  rw [List.setIfInBounds_toArray, List.set_append_right _ _ (by rw [v.setup.len h]; omega), v.setup.len h, Nat.add_sub_cancel_left]
theorem told_len (l : List KeptV) (h : ∀ p ∈ l, p.told.length = 32) : (l.flatMap KeptV.cells).length = l.length * 34 := by
  induction l with
  | nil => rfl
  | cons x l ih =>
    rw [List.flatMap_cons, List.length_append, ih (fun p hp => h p (List.mem_cons_of_mem _ hp)), List.length_cons]
    have := h x (List.mem_cons_self ..)
    simp [KeptV.cells, this]
    omega
section
variable (c : Ch) (lv nv av : Value) (h : c.s.seed.length = 32)
include h
theorem set_nextOwn (n : Int) : (c.v lv nv av).cells.toArray.setIfInBounds 40 (.int .u64 n) = (({ c with k := { c.k with nextOwn := n } } : Ch).v lv nv av).cells.toArray := cells_set_mid (c.v lv nv av) h 3 _
theorem set_loc (n : Int) : (c.v lv nv av).cells.toArray.setIfInBounds 45 (.int .u64 n) = (({ c with loc := n } : Ch).v lv nv av).cells.toArray := cells_set_mid (c.v lv nv av) h 8 _
theorem set_live (xs : List Live) (v : Value) : (c.v lv nv av).cells.toArray.setIfInBounds 47 v = (({ c with xs := xs } : Ch).v v nv av).cells.toArray := cells_set_mid (c.v lv nv av) h 10 _
theorem set_news (hk : c.shelf.length = 17 ∧ ∀ p ∈ c.shelf, p.told.length = 32) (ms : List MsgV) (v : Value) : (c.v lv nv av).cells.toArray.setIfInBounds 626 v = (({ c with news := ms } : Ch).v lv v av).cells.toArray := by
  have e := cells_set_mid (c.v lv nv av) h 589 v
  rw [show 37 + 589 = 626 from rfl] at e
  rw [e]
  have ht : (c.v lv nv av).told.length = 578 := by show (c.shelf.flatMap KeptV.cells).length = 578; rw [told_len _ hk.2, hk.1]
  have hset : ((c.v lv nv av).k.cells ++ (c.v lv nv av).rest).set 589 v = c.k.cells ++ (({ c with news := ms } : Ch).v lv v av).rest := by
    unfold ChanV.rest
    have h1 : (c.v lv nv av).k.cells.length = 8 := rfl
    rw [List.set_append_right _ _ (by rw [h1]; omega), h1]
    show c.k.cells ++ (Value.int .u64 c.loc :: Value.int .u64 c.rem :: lv :: ((c.v lv nv av).told ++ [nv, av])).set 581 v = _
    rw [List.set_cons_succ, List.set_cons_succ, List.set_cons_succ, List.set_append_right _ _ (by rw [ht]; omega), ht]
    rfl
  rw [hset]
  rfl
theorem set_last (hk : c.shelf.length = 17 ∧ ∀ p ∈ c.shelf, p.told.length = 32) (ms : List MsgV) (v : Value) : (c.v lv nv av).cells.toArray.setIfInBounds 627 v = (({ c with last := ms } : Ch).v lv nv v).cells.toArray := by
  have e := cells_set_mid (c.v lv nv av) h 590 v
  rw [show 37 + 590 = 627 from rfl] at e
  rw [e]
  have ht : (c.v lv nv av).told.length = 578 := by show (c.shelf.flatMap KeptV.cells).length = 578; rw [told_len _ hk.2, hk.1]
  have hset : ((c.v lv nv av).k.cells ++ (c.v lv nv av).rest).set 590 v = c.k.cells ++ (({ c with last := ms } : Ch).v lv nv v).rest := by
    unfold ChanV.rest
    have h1 : (c.v lv nv av).k.cells.length = 8 := rfl
    rw [List.set_append_right _ _ (by rw [h1]; omega), h1]
    show c.k.cells ++ (Value.int .u64 c.loc :: Value.int .u64 c.rem :: lv :: ((c.v lv nv av).told ++ [nv, av])).set 582 v = _
    rw [List.set_cons_succ, List.set_cons_succ, List.set_cons_succ, List.set_append_right _ _ (by rw [ht]; omega), ht]
    rfl
  rw [hset]
  rfl
theorem get_news (hk : c.shelf.length = 17 ∧ ∀ p ∈ c.shelf, p.told.length = 32) : (c.v lv nv av).cells.toArray[626]? = some nv := by
  rw [List.getElem?_toArray, show 626 = 37 + 589 from rfl, cells_mid _ h]
  have ht : (c.v lv nv av).told.length = 578 := by show (c.shelf.flatMap KeptV.cells).length = 578; rw [told_len _ hk.2, hk.1]
  unfold ChanV.rest
  have h1 : (c.v lv nv av).k.cells.length = 8 := rfl
  rw [List.getElem?_append_right (by rw [h1]; omega), h1]
  show (Value.int .u64 c.loc :: Value.int .u64 c.rem :: lv :: ((c.v lv nv av).told ++ [nv, av]))[581]? = _
  rw [List.getElem?_cons_succ, List.getElem?_cons_succ, List.getElem?_cons_succ, List.getElem?_append_right (by rw [ht]; omega), ht]
  rfl
end
end Go.Proofs.YtainkaojnhfldaaGreatDoor
