/-
  Messages as rows of cells.
-/
import Derived.Test.YtainkaojnhfldaaGreatDoorProg
import Derived.Test.YtainkaojnhfldaaGreatDoorLv
import Derived.Test.YtainkaojnhfldaaGreatDoorMba
import Derived.Test.YtainkaojnhfldaaGreatDoorTxt
set_option linter.unusedVariables false
set_option linter.unusedSimpArgs false
namespace Go.Proofs.YtainkaojnhfldaaGreatDoor
open Go.RowKit

structure MsgV where
  kind : Int
  ch : Int
  id : Int
  amount : Int
  hash : List Int
  expiry : Int
  number : Int
def MsgV.cells (m : MsgV) : List Value := .int .i64 m.kind :: .int .u32 m.ch :: .int .u64 m.id :: .int .u64 m.amount :: (m.hash.map (Value.int .u8) ++ [.int .i64 m.expiry, .int .i64 m.number])
theorem MsgV.len (m : MsgV) (h : m.hash.length = 32) : m.cells.length = 38 := by simp [MsgV.cells, h]
theorem MsgV.one (m : MsgV) : ∀ v ∈ m.cells, v.oneCell' = true := by
  intro v hv
  simp only [MsgV.cells, List.mem_cons, List.mem_append, List.mem_map, List.not_mem_nil, or_false] at hv
  rcases hv with rfl | rfl | rfl | rfl | ⟨n, _, rfl⟩ | rfl | rfl <;> rfl
def z32i : List Int := List.replicate 32 0
theorem z32i_len : z32i.length = 32 := List.length_replicate
theorem Tryz.infoMsg : (Tryz.prog.info? 72).map (·.size) = some 38 := by kernel_rfl
def ldMsg (x : Value) : Sem Value := Instr.loadAt 72 x
theorem ld_msg_fold (x : Value) : Instr.loadAt 72 x = ldMsg x := rfl
theorem ld_msg (b o : Nat) (w : World) : (ldMsg (.pointer (some ⟨b, o, none⟩))).run Tryz.prog w = match rowN w b o 38 with | some A => .ok (.agg A) w | none => slowLd Tryz.prog 72 w b o :=
  run_loadAt_rowN 72 38 _ Tryz.underlying72 rfl Tryz.infoMsg b o w
def stMsg (x v : Value) : Sem Unit := Instr.storeAt 72 x v
theorem st_msg_fold (x v : Value) : Instr.storeAt 72 x v = stMsg x v := rfl
theorem st_msg (b o : Nat) (A : Array Value) (w : World) : (stMsg (.pointer (some ⟨b, o, none⟩)) (.agg A)).run Tryz.prog w = if stOk w b o 38 A = true then .ok () (w.setCells b o A.toList) else slowSt Tryz.prog 72 w b o A :=
  run_storeAt_row 72 38 Tryz.infoMsg b o A w
def MsgV.zero : MsgV := ⟨0, 0, 0, 0, z32i, 0, 0⟩
def alMsg : Sem Value := Instr.alloc 72 true (.tuple #[])
theorem al_msg_fold : Instr.alloc 72 true (.tuple #[]) = alMsg := rfl
theorem al_msg (w : World) : alMsg.run Tryz.prog w = .ok (.pointer (some ⟨w.heap.size, 0, none⟩)) (w.alloc (.cells MsgV.zero.cells.toArray 72)) := by kernel_rfl
def bdMsg (p : Array (Nat × Value)) : Sem Value := Instr.build 72 p
theorem bd_msg_fold (p : Array (Nat × Value)) : Instr.build 72 p = bdMsg p := rfl
theorem bd_msg_again (c n k : Int) (w : World) : (bdMsg #[(0, .int .i64 9), (1, .int .u32 c), (6, .int .i64 n), (2, .int .u64 k)]).run Tryz.prog w = .ok (.agg (MsgV.cells ⟨9, c, k, 0, z32i, 0, n⟩).toArray) w := run_build w _ _ _ (by kernel_rfl)
theorem Tryz.infoBase : (Tryz.prog.info? 75).map (·.size) = some 2 := by kernel_rfl
/-- A message laid whole into a block of its own. -/
theorem laid_msg {w : World} {b : Nat} {m : MsgV} {T : TypeId} (h : w.heap[b]? = some (.cells MsgV.zero.cells.toArray T (0, 0))) (hm : m.hash.length = 32) : (w.setCells b 0 m.cells).heap[b]? = some (.cells m.cells.toArray T (0, 0)) := by
  rw [blk_setCells h 0 m.cells, layIn_whole _ _ (by rw [m.len hm]; rfl)]
theorem stOk_msg {w : World} {b : Nat} {T : TypeId} (h : w.heap[b]? = some (.cells MsgV.zero.cells.toArray T (0, 0))) {m : MsgV} (hm : m.hash.length = 32) : stOk w b 0 38 m.cells.toArray = true :=
  stOk_all (C := MsgV.zero.cells.toArray) h (by rw [m.len hm]; rfl) m.one
end Go.Proofs.YtainkaojnhfldaaGreatDoor
namespace Go.Proofs.YtainkaojnhfldaaGreatDoor
open Go.RowKit

attribute [local go_sem ↓ high] ld_msg_fold st_msg_fold bd_msg_fold
attribute [local go_sem] ld_msg st_msg bd_msg_again rowN_drew

/-- What an end says of itself behind a cut. -/
def CountsV.told (k : CountsV) : Int := if k.awaits then k.signed - 1 else k.signed
set_option maxRecDepth 100000 in
set_option maxHeartbeats 1000000 in
theorem again_any (g : Nat) (c : ChanV) (w : World) (h : ChR w g c) (hs : 0 ≤ c.k.signed ∧ c.k.signed < 4294967296) (hh : 0 ≤ c.k.heard ∧ c.k.heard < 4294967296) :
    Calls Tryz.prog 34 #[.pointer (some ⟨g, 0, none⟩)] w (Makes (.agg (MsgV.cells ⟨9, c.setup.ch, IntKind.u64.wrap c.k.told, 0, z32i, 0, c.k.heard + 1⟩).toArray) w) := by
  go_enter Tryz.func34, Tryz.ntmps34
  go_upto_region 1 with fail
  have hb : (w.alloc (.cells MsgV.zero.cells.toArray 72)).heap[w.heap.size]? = some (.cells MsgV.zero.cells.toArray 72 (0, 0)) := blk_alloc _ _
  have n0 : New w (w.alloc (.cells MsgV.zero.cells.toArray 72)) := (Upd.refl _ _).alloc _
  change Code.wp _ _ _ _ (w.alloc (.cells MsgV.zero.cells.toArray 72))
  generalize w.alloc (.cells MsgV.zero.cells.toArray 72) = w1 at hb n0 ⊢
  have h1 := h.new n0
  have hlt := h.lt
  have c0 := h1.ch
  have c37 := h1.signed
  have c38 := h1.heard
  have c39 := h1.awaits
  have e1 : IntKind.i64.wrap (c.k.heard + 1) = c.k.heard + 1 := wrapI (by omega) (by omega)
  have e2 : IntKind.i64.wrap (c.k.signed - 1) = c.k.signed - 1 := wrapI (by omega) (by omega)
  have hst : stOk w1.drew w.heap.size 0 38 (MsgV.cells ⟨9, c.setup.ch, IntKind.u64.wrap c.k.told, 0, z32i, 0, c.k.heard + 1⟩).toArray = true := stOk_msg (m := ⟨9, c.setup.ch, IntKind.u64.wrap c.k.told, 0, z32i, 0, c.k.heard + 1⟩) hb z32i_len
  have hfin := laid_msg (w := w1.drew) (m := ⟨9, c.setup.ch, IntKind.u64.wrap c.k.told, 0, z32i, 0, c.k.heard + 1⟩) hb z32i_len
  have nfin : New w (w1.drew.setCells w.heap.size 0 (MsgV.cells ⟨9, c.setup.ch, IntKind.u64.wrap c.k.told, 0, z32i, 0, c.k.heard + 1⟩)) := n0.drew.then ((Upd.refl (· = w.heap.size) w1.drew).setCells 0 _) (fun i hi e => by omega)
  have HF := hide hfin
  have HN := hide nfin
  have hk : c.k.told = if c.k.awaits = true then c.k.signed - 1 else c.k.signed := rfl
  clear h h1 hb n0 hfin nfin
  cases ha : c.k.awaits with
  | true =>
    rw [ha] at c39 hk
    rw [if_pos rfl] at hk
    rw [hk] at hst HF HN
    generalize c.k.told = t at *
    subst hk
    go_wp2_with (with_reducible first | (first | refine' tw1 (ido ?_) ?_ | refine' tw2 (ido ?_) ?_); rotate_left | refine' tw3 (ido ?_) | rfl | apply tn | refine' tw4 ?_)
    refine bodyPost_ret (results_cell_row rfl _ _ w.heap.size _ _ _ _ rfl (unhide HF) Tryz.underlying72 rfl (by rw [List.size_toArray, MsgV.len _ z32i_len]; exact Tryz.infoMsg)) rfl ?_
    exact ⟨rfl, unhide HN⟩
  | false =>
    rw [ha] at c39 hk
    rw [if_neg (by decide)] at hk
    have e3 : IntKind.u64.wrap c.k.signed = c.k.signed := wrapU (by omega) (by omega)
    rw [hk, e3] at hst HF HN
    generalize c.k.told = t at *
    subst hk
    go_wp2_with (with_reducible first | (first | refine' tw1 (ido ?_) ?_ | refine' tw2 (ido ?_) ?_); rotate_left | refine' tw3 (ido ?_) | rfl | apply tn | refine' tw4 ?_)
    refine bodyPost_ret (results_cell_row rfl _ _ w.heap.size _ _ _ _ rfl (unhide HF) Tryz.underlying72 rfl (by rw [List.size_toArray, MsgV.len _ z32i_len]; exact Tryz.infoMsg)) rfl ?_
    exact ⟨by rw [e3], unhide HN⟩

set_option maxHeartbeats 1000000 in
theorem base_any (g : Nat) (c : ChanV) (w : World) (h : ChR w g c) :
    Calls Tryz.prog 35 #[.pointer (some ⟨g, 0, none⟩)] w (Makes (.agg #[.int .u64 c.loc, .int .u64 c.rem]) w) := by
  go_enter Tryz.func35, Tryz.ntmps35
  have n0 : New w (w.alloc (.cells #[.int .u64 0, .int .u64 0] 75)) := (Upd.refl _ _).alloc _
  have hb : (w.alloc (.cells #[.int .u64 0, .int .u64 0] 75)).heap[w.heap.size]? = some (.cells #[.int .u64 0, .int .u64 0] 75 (0, 0)) := blk_alloc _ _
  go_upto_region 1 with fail
  have h1 := h.new n0
  generalize w.alloc (.cells #[.int .u64 0, .int .u64 0] 75) = w1 at hb n0 h1 ⊢
  have c45 := h1.loc
  have c46 := h1.rem
  have d0 := blk_cell hb 0
  have d1 := blk_cell hb 1
  have z0 := blk_free hb 0
  have z1 := blk_free hb 1
  simp at d0 d1
  have hF : ((w1.setCell ⟨w.heap.size, 0, none⟩ (.int .u64 c.loc)).setCell ⟨w.heap.size, 1, none⟩ (.int .u64 c.rem)).heap[w.heap.size]? = some (.cells #[.int .u64 c.loc, .int .u64 c.rem] 75 (0, 0)) := blk_set (blk_set hb 0 _) 1 _
  have nF : New w ((w1.setCell ⟨w.heap.size, 0, none⟩ (.int .u64 c.loc)).setCell ⟨w.heap.size, 1, none⟩ (.int .u64 c.rem)) := n0.then (((Upd.refl (· = w.heap.size) w1).set1 0 _).set1 1 _) (fun i hi e => by omega)
  have HF := hide hF
  have HN := hide nF
  clear h h1 hb n0 hF nF
  go_wp2_with (with_reducible first | (first | refine' tw1 (ido ?_) ?_ | refine' tw2 (ido ?_) ?_); rotate_left | refine' tw3 (ido ?_) | rfl | apply tn | refine' tw4 ?_)
  refine bodyPost_ret (results_cell_row rfl _ _ w.heap.size _ _ _ _ rfl (unhide HF) Tryz.underlying75 rfl Tryz.infoBase) rfl ?_
  exact ⟨rfl, unhide HN⟩

/-- A channel, and what is live in it. -/
structure ChI (w : World) (g : Nat) (c : ChanV) (xs : List Live) : Prop extends ChR w g c where
  row : w.ownsRow 0 128 38 c.live xs.length (xs.flatMap liveCells)
theorem ChI.new {w w' : World} {g : Nat} {c : ChanV} {xs : List Live} (h : ChI w g c xs) (u : New w w') : ChI w' g c xs := ⟨h.toChR.new u, owns_new h.row u⟩
theorem ChI.lives {w : World} {g : Nat} {c : ChanV} {xs : List Live} (h : ChI w g c xs) : Lives w c.live xs := by
  rcases (heldL_of_owns h.row).2 with ⟨e, e0⟩ | ⟨g, cap, e, -, hh⟩
  · exact .inl ⟨none, 0, e, e0⟩
  · exact .inr ⟨g, 0, cap, e, hh.toL⟩
theorem ChI.shape {w : World} {g : Nat} {c : ChanV} {xs : List Live} (h : ChI w g c xs) : ∃ a cap, c.live = .slice a xs.length cap := by
  rcases (heldL_of_owns h.row).2 with ⟨e, e0⟩ | ⟨g, cap, e, -⟩
  · exact ⟨none, 0, by rw [e, e0]; rfl⟩
  · exact ⟨_, cap, e⟩
set_option maxHeartbeats 1000000 in
theorem live_any (g : Nat) (c : ChanV) (xs : List Live) (hl : xs.length ≤ 1048576) (w : World) (h : ChI w g c xs) :
    Calls Tryz.prog 46 #[.pointer (some ⟨g, 0, none⟩)] w fun e w' => ∃ u, e = .returned u ∧ New w w' ∧ ((∃ a k, u = .slice a 0 k ∧ xs = []) ∨ ∃ g' cap, u = .slice (some ⟨g', 0, none⟩) xs.length cap ∧ w.heap.size ≤ g' ∧ HeldO w' g' 0 xs) := by
  go_enter Tryz.func46, Tryz.ntmps46
  have c47 := h.toChR.live
  have hv := h.lives
  obtain ⟨a, cap, hsh⟩ := h.shape
  rw [hsh] at c47 hv
  clear h
  go_wp2_with (with_reducible first | (first | refine' tw1 (ido ?_) ?_ | refine' tw2 (ido ?_) ?_); rotate_left | refine' tw3 (ido ?_) | rfl | apply tn | refine' tw4 ?_)
  refine (clone_any _ xs hl _ hv).mono ?_
  rintro e w' ⟨u, rfl, n, hu⟩
  have HU := hide hu
  clear hu c47 hv
  go_wp2_with (with_reducible first | (first | refine' tw1 (ido ?_) ?_ | refine' tw2 (ido ?_) ?_); rotate_left | refine' tw3 (ido ?_) | rfl | apply tn | refine' tw4 ?_)
  go_ret
  exact ⟨u, rfl, n, unhide HU⟩

end Go.Proofs.YtainkaojnhfldaaGreatDoor
