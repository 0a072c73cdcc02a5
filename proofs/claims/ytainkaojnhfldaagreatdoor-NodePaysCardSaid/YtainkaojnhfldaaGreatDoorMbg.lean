/-
  shut, Shut, Offer.
-/
import Derived.Test.YtainkaojnhfldaaGreatDoorCh2
import Derived.Test.YtainkaojnhfldaaGreatDoorMah
import Derived.Test.YtainkaojnhfldaaGreatDoorOc1
import Derived.Test.YtainkaojnhfldaaGreatDoorTxt
import Derived.Test.YtainkaojnhfldaaGreatDoorMba
set_option linter.unusedVariables false
set_option linter.unusedSimpArgs false
namespace Go.Proofs.YtainkaojnhfldaaGreatDoor
open Go.RowKit

theorem Tryz.infoHsh : (Tryz.prog.info? 32).map (·.size) = some 32 := by kernel_rfl
def ldHsh (x : Value) : Sem Value := Instr.loadAt 32 x
theorem ld_hsh_fold (x : Value) : Instr.loadAt 32 x = ldHsh x := rfl
theorem ld_hsh (b o : Nat) (w : World) : (ldHsh (.pointer (some ⟨b, o, none⟩))).run Tryz.prog w = match rowN w b o 32 with | some A => .ok (.agg A) w | none => slowLd Tryz.prog 32 w b o :=
  run_loadAt_rowN 32 32 _ Tryz.underlying32 rfl Tryz.infoHsh b o w
def stHsh (x v : Value) : Sem Unit := Instr.storeAt 32 x v
theorem st_hsh_fold (x v : Value) : Instr.storeAt 32 x v = stHsh x v := rfl
theorem st_hsh (b o : Nat) (A : Array Value) (w : World) : (stHsh (.pointer (some ⟨b, o, none⟩)) (.agg A)).run Tryz.prog w = if stOk w b o 32 A = true then .ok () (w.setCells b o A.toList) else slowSt Tryz.prog 32 w b o A :=
  run_storeAt_row 32 32 Tryz.infoHsh b o A w
theorem Tryz.infoHtl : (Tryz.prog.info? 126).map (·.size) = some 35 := by kernel_rfl
def ldHtl (x : Value) : Sem Value := Instr.loadAt 126 x
theorem ld_htl_fold (x : Value) : Instr.loadAt 126 x = ldHtl x := rfl
theorem ld_htl (b o : Nat) (w : World) : (ldHtl (.pointer (some ⟨b, o, none⟩))).run Tryz.prog w = match rowN w b o 35 with | some A => .ok (.agg A) w | none => slowLd Tryz.prog 126 w b o :=
  run_loadAt_rowN 126 35 _ Tryz.underlying126 rfl Tryz.infoHtl b o w
def stHtl (x v : Value) : Sem Unit := Instr.storeAt 126 x v
theorem st_htl_fold (x v : Value) : Instr.storeAt 126 x v = stHtl x v := rfl
theorem st_htl (b o : Nat) (A : Array Value) (w : World) : (stHtl (.pointer (some ⟨b, o, none⟩)) (.agg A)).run Tryz.prog w = if stOk w b o 35 A = true then .ok () (w.setCells b o A.toList) else slowSt Tryz.prog 126 w b o A :=
  run_storeAt_row 126 35 Tryz.infoHtl b o A w
def alHtl : Sem Value := Instr.alloc 126 true (.tuple #[])
theorem al_htl_fold : Instr.alloc 126 true (.tuple #[]) = alHtl := rfl
theorem al_htl (w : World) : alHtl.run Tryz.prog w = .ok (.pointer (some ⟨w.heap.size, 0, none⟩)) (w.alloc (.cells (htlcCells Htlc.zero).toArray 126)) := by kernel_rfl

attribute [local go_sem ↓ high] ld_msg_fold st_msg_fold al_msg_fold bd_msg_fold ld_hsh_fold
attribute [local go_sem] ld_msg st_msg al_msg bd_msg_zero bd_msg_shut rowN_drew ld_hsh

set_option maxRecDepth 100000 in
set_option maxHeartbeats 1000000 in
theorem shutM_any (g : Nat) (c : ChanV) (w : World) (h : ChR w g c) :
    Calls Tryz.prog 85 #[.pointer (some ⟨g, 0, none⟩)] w (Makes (.agg (MsgV.cells ⟨8, c.setup.ch, 0, 0, z32i, 0, 0⟩).toArray) w) := by
  go_enter Tryz.func85, Tryz.ntmps85
  go_upto_region 1 with fail
  have hb : (w.alloc (.cells MsgV.zero.cells.toArray 72)).heap[w.heap.size]? = some (.cells MsgV.zero.cells.toArray 72 (0, 0)) := blk_alloc _ _
  have n0 : New w (w.alloc (.cells MsgV.zero.cells.toArray 72)) := (Upd.refl _ _).alloc _
  generalize w.alloc (.cells MsgV.zero.cells.toArray 72) = w1 at hb n0 ⊢
  have c0 := (h.new n0).ch
  obtain ⟨B, hBe⟩ : ∃ B, B = w.heap.size := ⟨_, rfl⟩
  have hB : w.heap.size ≤ B := by omega
  rw [← hBe] at hb ⊢
  clear hBe
  have hst := stOk_msg (m := ⟨8, c.setup.ch, 0, 0, z32i, 0, 0⟩) hb z32i_len
  have hfin := laid_msg (m := ⟨8, c.setup.ch, 0, 0, z32i, 0, 0⟩) hb z32i_len
  have HF := hide hfin
  have u : Upd (· = B) w1 (w1.setCells B 0 (MsgV.cells ⟨8, c.setup.ch, 0, 0, z32i, 0, 0⟩)) := (Upd.refl _ _).setCells 0 _
  have HN := hide (n0.then u (fun i hi e => by omega))
  clear h hb hfin n0 u
  go_wp2_with (with_reducible first | (first | refine' tw1 (ido ?_) ?_ | refine' tw2 (ido ?_) ?_); rotate_left | refine' tw3 (ido ?_) | rfl | apply tn | refine' tw4 ?_)
  refine bodyPost_ret (results_cell_row rfl _ _ B _ _ _ _ rfl (unhide HF) Tryz.underlying72 rfl (by rw [List.size_toArray, MsgV.len _ z32i_len]; exact Tryz.infoMsg)) rfl ?_
  exact ⟨rfl, unhide HN⟩

def Ch.shutSaid (c : Ch) : Ch := { c with k := { c.k with shutSaid := true } }
theorem Ch.Ok.shutSaid {c : Ch} (h : c.Ok) : c.shutSaid.Ok := ⟨h.s, h.signed, h.heard, h.nextOwn, h.nextTheirs, h.loc, h.rem, h.xs, h.few, h.shelf, h.news, h.last, h.many⟩
def shutMsg (ch : Int) : MsgV := ⟨8, ch, 0, 0, z32i, 0, 0⟩
/-- What Shut does: the end, what it says, its error. -/
def Ch.shut (c : Ch) : Ch × MsgV × Int := if c.k.shutSaid then (c, MsgV.zero, 4) else (c.shutSaid, shutMsg c.s.ch, 0)
set_option maxRecDepth 100000 in
set_option maxHeartbeats 1000000 in
theorem shut_any (g : Nat) (S : Nat → Prop) (c : Ch) (w : World) (h : ChS w g S c) :
    Calls Tryz.prog 56 #[.pointer (some ⟨g, 0, none⟩)] w fun e w' => e = .returned (.tuple #[.agg c.shut.2.1.cells.toArray, .int .i64 c.shut.2.2]) ∧ ChS w' g (Fr S w w') c.shut.1 ∧ Upd S w w' := by
  obtain ⟨lv, nv, av, h⟩ := h
  go_enter Tryz.func56, Tryz.ntmps56
  go_upto_region 1 with fail
  have hb : (w.alloc (.cells MsgV.zero.cells.toArray 72)).heap[w.heap.size]? = some (.cells MsgV.zero.cells.toArray 72 (0, 0)) := blk_alloc _ _
  have n0 : New w (w.alloc (.cells MsgV.zero.cells.toArray 72)) := (Upd.refl _ _).alloc _
  generalize w.alloc (.cells MsgV.zero.cells.toArray 72) = w1 at hb n0 ⊢
  have h1 := h.new n0
  obtain ⟨B, hBe⟩ : ∃ B, B = w.heap.size := ⟨_, rfl⟩
  have hB : w.heap.size ≤ B := by omega
  rw [← hBe] at hb ⊢
  clear hBe
  have hgB : g ≠ B := by have := h.lt g h.inG; omega
  have c42 : w1.cell? ⟨g, 42, none⟩ = some (.bool c.k.shutSaid) := h1.toR.shutSaid
  have f42 : w1.frozen? ⟨g, 42, none⟩ = false := blk_free h1.at_ 42
  cases hs : c.k.shutSaid with
  | true =>
    rw [hs] at c42
    have e : c.shut = (c, MsgV.zero, 4) := by unfold Ch.shut; rw [if_pos hs]
    have hst := stOk_msg (m := MsgV.zero) hb z32i_len
    have hfin := laid_msg (m := MsgV.zero) hb z32i_len
    have HF := hide hfin
    have u : Upd (· = B) w1 (w1.setCells B 0 MsgV.zero.cells) := (Upd.refl _ _).setCells 0 _
    have HU := hide u
    have HN := hide (n0.then u (fun i hi e => by omega))
    have H1 := hide h1
    have HE := hide e
    have HL := hide h.lt
    clear h h1 hb hfin n0 u e
    go_wp2_with (with_reducible first | (first | refine' tw1 (ido ?_) ?_ | refine' tw2 (ido ?_) ?_); rotate_left | refine' tw3 (ido ?_) | rfl | apply tn | refine' tw4 ?_)
    refine bodyPost_ret (results_row_tmp' rfl _ _ B _ _ _ _ rfl (unhide HF) Tryz.underlying72 rfl (by rw [List.size_toArray, MsgV.len _ z32i_len]; exact Tryz.infoMsg)) rfl ?_
    rw [unhide HE]
    exact ⟨rfl, ((unhide H1).upd (unhide HU) (fun k hk e => by have := unhide HL k hk; omega)).fr w, (unhide HN).mono (fun _ _ h => h.elim)⟩
  | false =>
    rw [hs] at c42
    have e : c.shut = (c.shutSaid, shutMsg c.s.ch, 0) := by unfold Ch.shut; rw [if_neg (by rw [hs]; decide)]
    have h2 := h1.put (i := 42) (x := .bool true) (c' := c.shutSaid) (set_shutSaid c lv nv av h1.ok.s.seed true) h1.ok.shutSaid rfl rfl rfl
    have u2 : Upd (· = g) w1 (w1.setCell ⟨g, 42, none⟩ (.bool true)) := (Upd.refl _ _).set1 42 _
    have hb2 := u2.old hb (fun e => hgB e.symm)
    have HE := hide e
    have H := hide h
    have hsh : Calls Tryz.prog 85 #[.pointer (some ⟨g, 0, none⟩)] (w1.setCell ⟨g, 42, none⟩ (.bool true)) (Makes (.agg (shutMsg c.s.ch).cells.toArray) (w1.setCell ⟨g, 42, none⟩ (.bool true))) := shutM_any g (c.shutSaid.v lv nv av) _ h2.toR
    have H2 := hide h2
    have nU : Upd S w (w1.setCell ⟨g, 42, none⟩ (.bool true)) := (n0.mono (fun _ _ h => h.elim)).trans (u2.mono (fun k _ e => by rw [e]; exact h.inG))
    clear h h1 hb n0 u2 e h2
    go_upto_region 4 with (with_reducible first | (first | refine' tw1 (ido ?_) ?_ | refine' tw2 (ido ?_) ?_); rotate_left | refine' tw3 (ido ?_) | rfl | apply tn | refine' tw4 ?_)
    clear c42 f42
    generalize w1.setCell ⟨g, 42, none⟩ (.bool true) = w2 at hb2 hsh H2 nU ⊢
    go_wp2_with (with_reducible first | (first | refine' tw1 (ido ?_) ?_ | refine' tw2 (ido ?_) ?_); rotate_left | refine' tw3 (ido ?_) | rfl | apply tn | refine' tw4 ?_)
    refine hsh.mono ?_
    rintro e w3 ⟨rfl, n3⟩
    have hb3 := n3.old hb2 (fun h => h)
    change w3.heap[B]? = _ at hb3
    have hst := stOk_msg (m := shutMsg c.s.ch) hb3 z32i_len
    have hfin := laid_msg (m := shutMsg c.s.ch) hb3 z32i_len
    have u4 : Upd (· = B) w3 (w3.setCells B 0 (shutMsg c.s.ch).cells) := (Upd.refl _ _).setCells 0 _
    have HF := hide hfin
    have H4 := hide (((unhide H2).new n3).upd u4 (fun k hk e => by have := (unhide H).lt k hk; omega))
    have HN := hide ((nU.trans (n3.mono (fun _ _ h => h.elim))).then u4 (fun i hi e => by omega))
    clear hb3 hb2 hfin u4 hsh n3 nU
    go_wp2_with (with_reducible first | (first | refine' tw1 (ido ?_) ?_ | refine' tw2 (ido ?_) ?_); rotate_left | refine' tw3 (ido ?_) | rfl | apply tn | refine' tw4 ?_)
    refine bodyPost_ret (results_row_tmp' rfl _ _ B _ _ _ _ rfl (unhide HF) Tryz.underlying72 rfl (by rw [List.size_toArray, MsgV.len _ z32i_len]; exact Tryz.infoMsg)) rfl ?_
    rw [unhide HE]
    exact ⟨rfl, (unhide H4).fr w, unhide HN⟩

end Go.Proofs.YtainkaojnhfldaaGreatDoor
namespace Go.Proofs.YtainkaojnhfldaaGreatDoor
open Go.RowKit

def hshV (h : List Int) : List Value := h.map (Value.int .u8)
theorem hshV_len (h : List Int) : (hshV h).length = h.length := by simp [hshV]
theorem hshV_one (h : List Int) : ∀ v ∈ hshV h, v.oneCell' = true := by
  intro v hv
  obtain ⟨x, _, rfl⟩ := List.mem_map.1 hv
  rfl
def alHsh : Sem Value := Instr.alloc 32 true (.tuple #[])
theorem al_hsh_fold : Instr.alloc 32 true (.tuple #[]) = alHsh := rfl
theorem al_hsh (w : World) : alHsh.run Tryz.prog w = .ok (.pointer (some ⟨w.heap.size, 0, none⟩)) (w.alloc (.cells (hshV z32i).toArray 32)) := by kernel_rfl
def bdHsh (p : Array (Nat × Value)) : Sem Value := Instr.build 32 p
theorem bd_hsh_fold (p : Array (Nat × Value)) : Instr.build 32 p = bdHsh p := rfl
theorem bd_hsh (w : World) : (bdHsh #[]).run Tryz.prog w = .ok (.agg (hshV z32i).toArray) w := run_build w _ _ _ (by kernel_rfl)
/-- A hash lies in a block of its own. -/
structure HsB (w : World) (b : Nat) (h : List Int) : Prop where
  at_ : w.heap[b]? = some (.cells (hshV h).toArray 32 (0, 0))
  len : h.length = 32
theorem HsB.upd {S : Nat → Prop} {w w' : World} {b : Nat} {h : List Int} (a : HsB w b h) (u : Upd S w w') (n : ¬ S b) : HsB w' b h := ⟨u.old a.at_ n, a.len⟩
theorem HsB.new {w w' : World} {b : Nat} {h : List Int} (a : HsB w b h) (u : New w w') : HsB w' b h := a.upd u (fun h => h)
theorem HsB.row {w : World} {b : Nat} {h : List Int} (a : HsB w b h) : rowN w b 0 32 = some (hshV h).toArray := rowN_whole a.at_ 32 (by rw [List.size_toArray, hshV_len, a.len])
theorem HsB.stOk {w : World} {b : Nat} {h : List Int} (a : HsB w b h) (k : List Int) (hk : k.length = 32) : stOk w b 0 32 (hshV k).toArray = true := by
  have := stOk_all a.at_ (A := hshV k) (by rw [List.size_toArray, hshV_len, hshV_len, a.len, hk]) (hshV_one k)
  rwa [List.size_toArray, hshV_len, a.len] at this
theorem HsB.put {w : World} {b : Nat} {h : List Int} (a : HsB w b h) (k : List Int) (hk : k.length = 32) : HsB (w.setCells b 0 (hshV k)) b k := by
  refine ⟨?_, hk⟩
  rw [blk_setCells a.at_ 0 _, layIn_whole _ _ (by rw [List.size_toArray, hshV_len, hshV_len, a.len, hk])]
theorem HsB.lt {w : World} {b : Nat} {h : List Int} (a : HsB w b h) : b < w.heap.size := blk_lt a.at_
theorem hs_alloc (w : World) (h : List Int) (hh : h.length = 32) : HsB (w.alloc (.cells (hshV h).toArray 32)) w.heap.size h := ⟨blk_alloc _ _, hh⟩
theorem upd_sets {w : World} {b : Nat} (l : List Value) : Upd (· = b) w (w.setCells b 0 l) := (Upd.refl _ _).setCells 0 l

/-- A hash stored into a block made for it. -/
def hsNew (w : World) (k : List Int) : World := (w.alloc (.cells (hshV z32i).toArray 32)).setCells w.heap.size 0 (hshV k)
theorem hs_fresh (w : World) (k : List Int) (hk : k.length = 32) : stOk (w.alloc (.cells (hshV z32i).toArray 32)) w.heap.size 0 32 (hshV k).toArray = true ∧ HsB (hsNew w k) w.heap.size k ∧ New w (hsNew w k) := by
  have ha := hs_alloc w z32i z32i_len
  exact ⟨ha.stOk k hk, ha.put k hk, (((Upd.refl (fun _ => False) w).alloc _)).then (upd_sets _) (fun i hi e => by omega)⟩

end Go.Proofs.YtainkaojnhfldaaGreatDoor
namespace Go.Proofs.YtainkaojnhfldaaGreatDoor
open Go.RowKit

attribute [local go_sem ↓ high] ld_hsh_fold st_hsh_fold al_hsh_fold
attribute [local go_sem] ld_hsh st_hsh al_hsh rowN_drew
def sum4 (s : ByteArray) : ByteArray := strOfNums ((sumI s).take 4)
theorem sum4_size (s : ByteArray) : (sum4 s).size = 4 := by
  unfold sum4
  rw [strOfNums_size, List.length_take, sumI_len]
  rfl
set_option maxRecDepth 100000 in
set_option maxHeartbeats 1000000 in
theorem jsum_any (s : ByteArray) (w : World) (hs : s.size ≤ 1000000000) (hT : Tabs w) :
    Calls Tryz.prog 121 #[.string s] w (Makes (.string (sum4 s)) w) := by
  have hsum : Calls Tryz.prog 131 #[.string s] w fun e w' => e = .returned (.agg (hshV (sumI s)).toArray) ∧ New w w' := sum_any s w hs hT
  have hl := sumI_len s
  unfold sum4
  generalize sumI s = h at *
  go_enter Tryz.func121, Tryz.ntmps121
  go_wp2_with fail
  refine hsum.mono ?_
  rintro e w1 ⟨rfl, n1⟩
  obtain ⟨hst, hH, nH⟩ := hs_fresh w1 h hl
  have N2 := hide (n1.trans nH)
  clear hsum n1 nH
  go_upto_region 2 with fail
  change Code.wp _ _ _ _ (hsNew w1 h)
  generalize hsNew w1 h = w2 at hH N2 ⊢
  generalize w1.heap.size = B at hH ⊢
  clear hst
  have hst : (convert 146 9 (.slice (some ⟨B, 0, none⟩) 4 32)).run Tryz.prog w2 = .ok (.string (strOfNums (h.take 4))) w2 := by
    refine run_convert_bytes_arg w2 146 5 Tryz.underlying146 Tryz.underlying5 B 0 4 32 (h.take 4) (by rw [List.length_take]; omega) (fun i hi => ?_) 9 Tryz.underlying9
    have hli : i < h.length := by omega
    rw [Nat.zero_add, blk_cell hH.at_ i, List.getElem?_toArray]
    unfold hshV
    rw [List.getElem?_map, List.getElem?_eq_getElem hli]
    simp [List.getD, List.getElem?_eq_getElem hli, List.getElem?_take, hi]
  generalize hqe : strOfNums (h.take 4) = q at hst
  have HQE := hide hqe
  clear hH hqe
  go_wp2_with fail
  go_ret
  exact ⟨by rw [unhide HQE]; rfl, unhide N2⟩
end Go.Proofs.YtainkaojnhfldaaGreatDoor
namespace Go.Proofs.YtainkaojnhfldaaGreatDoor
open Go.RowKit

theorem results_tmp4 {fn : Func} {t u v x : Tmp} (h : fn.results = #[.tmp t, .tmp u, .tmp v, .tmp x]) (tmps : Array Value) (P : Program) (w : World) :
    (results fn tmps).run P w = .ok (.tuple #[tmps.getD t undef, tmps.getD u undef, tmps.getD v undef, tmps.getD x undef]) w := by
  simp [results, h]
set_option maxHeartbeats 1000000 in
theorem get_nil (w : World) : Calls Tryz.prog 86 #[.string ⟨#[]⟩] w (Reads (.tuple #[.int .u64 0, .string ⟨#[]⟩, .int .i64 0, .int .i64 3]) w) := by
  go_enter Tryz.func86, Tryz.ntmps86
  go_wp2_with fail
  refine bodyPost_ret (results_tmp4 rfl _ _ _) rfl ?_
  exact ⟨rfl, Q.refl _⟩

structure JourV where
  addr : Value
  buf : Value
  many : Int
  fused : Bool
  fuse : Int
  off : Bool
def JourV.cells (j : JourV) : List Value := [j.addr, j.buf, .int .i64 j.many, .bool j.fused, .int .i64 j.fuse, .bool j.off]
def JourV.new : JourV := ⟨.pointer none, nilV, 0, false, 0, false⟩
def JoR (w : World) (g : Nat) (j : JourV) : Prop := w.heap[g]? = some (.cells j.cells.toArray 171 (0, 0))

set_option maxHeartbeats 1000000 in
theorem recover_nil (w : World) : Calls Tryz.prog 58 #[.string ⟨#[]⟩] w fun e w' => ∃ g, e = .returned (.tuple #[.pointer (some ⟨g, 0, none⟩), nilV]) ∧ w.heap.size ≤ g ∧ JoR w' g .new ∧ New w w' := by
  go_enter Tryz.func58, Tryz.ntmps58
  go_wp2_with fail
  have hj : JoR (w.alloc (.cells #[.pointer none, .slice none 0 0, .int .i64 0, .bool false, .int .i64 0, .bool false] 171)) w.heap.size .new := blk_alloc _ _
  have n0 : New w (w.alloc (.cells #[.pointer none, .slice none 0 0, .int .i64 0, .bool false, .int .i64 0, .bool false] 171)) := (Upd.refl _ _).alloc _
  generalize w.alloc _ = w1 at hj n0 ⊢
  go_loopw [0, 5] (fun sv lv wr => sv = .string ⟨#[]⟩ ∧ lv = .slice none 0 0 ∧ wr = w1) (fun _ _ _ => 0)
  case atStart => exact ⟨rfl, rfl, rfl⟩
  case round =>
    obtain ⟨rfl, rfl, rfl⟩ := hrel
    go_wp2_with fail
    refine (get_nil _).mono ?_
    rintro e w2 ⟨rfl, q2⟩
    have hj' : JoR w2 w.heap.size .new := q2.old hj
    have n2 := n0.trans (q2.upd _)
    clear q2 hj n0
    go_wp2_with fail
    go_ret2
    exact ⟨_, rfl, Nat.le_refl _, hj', n2⟩

end Go.Proofs.YtainkaojnhfldaaGreatDoor
