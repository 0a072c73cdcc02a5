/-
  shut, Shut, Offer.
-/
import Derived.Test.YtfmkdoachjgjbaaGreatDoorMaj
import Derived.Test.YtfmkdoachjgjbaaGreatDoorMaf
import Derived.Test.YtfmkdoachjgjbaaGreatDoorTxt
import Derived.Test.YtfmkdoachjgjbaaGreatDoorMah
import Derived.Lib.Builder
import Derived.Lib.AppendStr
set_option linter.unusedVariables false
set_option linter.unusedSimpArgs false
namespace Go.Proofs.YtfmkdoachjgjbaaGreatDoor
open Go.RowKit

theorem Tryz.infoHsh : (Tryz.prog.info? 35).map (·.size) = some 32 := by kernel_rfl
def ldHsh (x : Value) : Sem Value := Instr.loadAt 35 x
theorem ld_hsh_fold (x : Value) : Instr.loadAt 35 x = ldHsh x := rfl
theorem ld_hsh (b o : Nat) (w : World) : (ldHsh (.pointer (some ⟨b, o, none⟩))).run Tryz.prog w = match rowN w b o 32 with | some A => .ok (.agg A) w | none => slowLd Tryz.prog 35 w b o :=
  run_loadAt_rowN 35 32 _ Tryz.underlying35 rfl Tryz.infoHsh b o w
def stHsh (x v : Value) : Sem Unit := Instr.storeAt 35 x v
theorem st_hsh_fold (x v : Value) : Instr.storeAt 35 x v = stHsh x v := rfl
theorem st_hsh (b o : Nat) (A : Array Value) (w : World) : (stHsh (.pointer (some ⟨b, o, none⟩)) (.agg A)).run Tryz.prog w = if stOk w b o 32 A = true then .ok () (w.setCells b o A.toList) else slowSt Tryz.prog 35 w b o A :=
  run_storeAt_row 35 32 Tryz.infoHsh b o A w
theorem Tryz.infoHtl : (Tryz.prog.info? 41).map (·.size) = some 35 := by kernel_rfl
def ldHtl (x : Value) : Sem Value := Instr.loadAt 41 x
theorem ld_htl_fold (x : Value) : Instr.loadAt 41 x = ldHtl x := rfl
theorem ld_htl (b o : Nat) (w : World) : (ldHtl (.pointer (some ⟨b, o, none⟩))).run Tryz.prog w = match rowN w b o 35 with | some A => .ok (.agg A) w | none => slowLd Tryz.prog 41 w b o :=
  run_loadAt_rowN 41 35 _ Tryz.underlying41 rfl Tryz.infoHtl b o w
def stHtl (x v : Value) : Sem Unit := Instr.storeAt 41 x v
theorem st_htl_fold (x v : Value) : Instr.storeAt 41 x v = stHtl x v := rfl
theorem st_htl (b o : Nat) (A : Array Value) (w : World) : (stHtl (.pointer (some ⟨b, o, none⟩)) (.agg A)).run Tryz.prog w = if stOk w b o 35 A = true then .ok () (w.setCells b o A.toList) else slowSt Tryz.prog 41 w b o A :=
  run_storeAt_row 41 35 Tryz.infoHtl b o A w
def alHtl : Sem Value := Instr.alloc 41 true (.tuple #[])
theorem al_htl_fold : Instr.alloc 41 true (.tuple #[]) = alHtl := rfl
theorem al_htl (w : World) : alHtl.run Tryz.prog w = .ok (.pointer (some ⟨w.heap.size, 0, none⟩)) (w.alloc (.cells (htlcCells Htlc.zero).toArray 41)) := by kernel_rfl

attribute [local go_sem ↓ high] ld_msg_fold st_msg_fold al_msg_fold bd_msg_fold ld_hsh_fold
attribute [local go_sem] ld_msg st_msg al_msg bd_msg_zero bd_msg_shut rowN_drew ld_hsh

def Ch.shutSaid (c : Ch) : Ch := { c with k := { c.k with shutSaid := true } }
theorem Ch.Ok.shutSaid {c : Ch} (h : c.Ok) : c.shutSaid.Ok := ⟨h.s, h.signed, h.heard, h.nextOwn, h.nextTheirs, h.loc, h.rem, h.xs, h.few, h.shelf, h.news, h.last, h.many⟩
def shutMsg (ch : Int) : MsgV := ⟨8, ch, 0, 0, z32i, 0, 0⟩
/-- What Shut does: the end, what it says, its error. -/
def Ch.shut (c : Ch) : Ch × MsgV × Int := if c.k.shutSaid then (c, MsgV.zero, 4) else (c.shutSaid, shutMsg c.s.ch, 0)

end Go.Proofs.YtfmkdoachjgjbaaGreatDoor
namespace Go.Proofs.YtfmkdoachjgjbaaGreatDoor
open Go.RowKit

def hshV (h : List Int) : List Value := h.map (Value.int .u8)
theorem hshV_len (h : List Int) : (hshV h).length = h.length := by simp [hshV]
theorem hshV_one (h : List Int) : ∀ v ∈ hshV h, v.oneCell' = true := by
  intro v hv
  obtain ⟨x, _, rfl⟩ := List.mem_map.1 hv
  rfl
def alHsh : Sem Value := Instr.alloc 35 true (.tuple #[])
theorem al_hsh_fold : Instr.alloc 35 true (.tuple #[]) = alHsh := rfl
theorem al_hsh (w : World) : alHsh.run Tryz.prog w = .ok (.pointer (some ⟨w.heap.size, 0, none⟩)) (w.alloc (.cells (hshV z32i).toArray 35)) := by kernel_rfl
def bdHsh (p : Array (Nat × Value)) : Sem Value := Instr.build 35 p
theorem bd_hsh_fold (p : Array (Nat × Value)) : Instr.build 35 p = bdHsh p := rfl
theorem bd_hsh (w : World) : (bdHsh #[]).run Tryz.prog w = .ok (.agg (hshV z32i).toArray) w := run_build w _ _ _ (by kernel_rfl)
/-- A hash lies in a block of its own. -/
structure HsB (w : World) (b : Nat) (h : List Int) : Prop where
  at_ : w.heap[b]? = some (.cells (hshV h).toArray 35 (0, 0))
  len : h.length = 32
theorem HsB.upd {S : Nat → Prop} {w w' : World} {b : Nat} {h : List Int} (a : HsB w b h) (u : Upd S w w') (n : ¬ S b) : HsB w' b h := ⟨u.old a.at_ n, a.len⟩
theorem HsB.new {w w' : World} {b : Nat} {h : List Int} (a : HsB w b h) (u : New w w') : HsB w' b h := a.upd u (fun h => h)
theorem HsB.row {w : World} {b : Nat} {h : List Int} (a : HsB w b h) : rowN w b 0 32 = some (hshV h).toArray := rowN_whole a.at_ 32 (by rw [List.size_toArray, hshV_len, a.len])
theorem HsB.stOk {w : World} {b : Nat} {h : List Int} (a : HsB w b h) (k : List Int) (hk : k.length = 32) : stOk w b 0 32 (hshV k).toArray = true := by
  have := stOk_all a.at_ (A := hshV k) (by rw [List.size_toArray, hshV_len, hshV_len, a.len, hk]) (hshV_one k)
  rwa [List.size_toArray, hshV_len, a.len] at this
theorem HsB.put {w : World} {b : Nat} {h : List Int} (a : HsB w b h) (k : List Int) (hk : k.length = 32) : HsB (w.setCells b 0 (hshV k)) b k := by
  refine ⟨?_, hk⟩
  rw [blk_setCells a.at_ 0 _, layIn_whole _ _ (by rw [List.size_toArray, hshV_len, hshV_len, a.len, hk])]
theorem HsB.lt {w : World} {b : Nat} {h : List Int} (a : HsB w b h) : b < w.heap.size := blk_lt a.at_
theorem hs_alloc (w : World) (h : List Int) (hh : h.length = 32) : HsB (w.alloc (.cells (hshV h).toArray 35)) w.heap.size h := ⟨blk_alloc _ _, hh⟩
theorem upd_sets {w : World} {b : Nat} (l : List Value) : Upd (· = b) w (w.setCells b 0 l) := (Upd.refl _ _).setCells 0 l

/-- A hash stored into a block made for it. -/
def hsNew (w : World) (k : List Int) : World := (w.alloc (.cells (hshV z32i).toArray 35)).setCells w.heap.size 0 (hshV k)
theorem hs_fresh (w : World) (k : List Int) (hk : k.length = 32) : stOk (w.alloc (.cells (hshV z32i).toArray 35)) w.heap.size 0 32 (hshV k).toArray = true ∧ HsB (hsNew w k) w.heap.size k ∧ New w (hsNew w k) := by
  have ha := hs_alloc w z32i z32i_len
  exact ⟨ha.stOk k hk, ha.put k hk, (((Upd.refl (fun _ => False) w).alloc _)).then (upd_sets _) (fun i hi e => by omega)⟩

attribute [local go_sem ↓ high] ld_hsh_fold st_hsh_fold al_hsh_fold
attribute [local go_sem] ld_hsh st_hsh al_hsh rowN_drew
def sum4 (s : ByteArray) : ByteArray := strOfNums ((sumI s).take 4)
theorem sum4_size (s : ByteArray) : (sum4 s).size = 4 := by
  unfold sum4
  rw [strOfNums_size, List.length_take, sumI_len]
  rfl
set_option maxRecDepth 100000 in
set_option maxHeartbeats 1000000 in
theorem jsum_any (s : ByteArray) (w : World) (hs : s.size ≤ 1000000000) (hT : Tabs w) :
    Calls Tryz.prog 162 #[.string s] w (Makes (.string (sum4 s)) w) := by
  have hsum : Calls Tryz.prog 164 #[.string s] w fun e w' => e = .returned (.agg (hshV (sumI s)).toArray) ∧ New w w' := sum_any s w hs hT
  have hl := sumI_len s
  unfold sum4
  generalize sumI s = h at *
  go_enter Tryz.func162, Tryz.ntmps162
  go_wp2_with fail
  refine hsum.mono ?_
  rintro e w1 ⟨rfl, n1⟩
  obtain ⟨hst, hH, nH⟩ := hs_fresh w1 h hl
  have N2 := hide (n1.trans nH)
  clear hsum n1 nH
  go_upto_region 2 with fail
  change Code.wp _ _ _ _ (hsNew w1 h)
  generalize hsNew w1 h = w2 at hH N2 ⊢
  generalize w1.heap.size = B at hH ⊢
  clear hst
  have hst : (convert 95 9 (.slice (some ⟨B, 0, none⟩) 4 32)).run Tryz.prog w2 = .ok (.string (strOfNums (h.take 4))) w2 := by
    refine run_convert_bytes_arg w2 95 5 Tryz.underlying95 Tryz.underlying5 B 0 4 32 (h.take 4) (by rw [List.length_take]; omega) (fun i hi => ?_) 9 Tryz.underlying9
    have hli : i < h.length := by omega
    rw [Nat.zero_add, blk_cell hH.at_ i, List.getElem?_toArray]
    unfold hshV
    rw [List.getElem?_map, List.getElem?_eq_getElem hli]
    simp [List.getD, List.getElem?_eq_getElem hli, List.getElem?_take, hi]
  generalize hqe : strOfNums (h.take 4) = q at hst
  have HQE := hide hqe
  clear hH hqe
  go_wp2_with fail
  go_ret
  exact ⟨by rw [unhide HQE]; rfl, unhide N2⟩
end Go.Proofs.YtfmkdoachjgjbaaGreatDoor
namespace Go.Proofs.YtfmkdoachjgjbaaGreatDoor
open Go.RowKit

theorem results_tmp4 {fn : Func} {t u v x : Tmp} (h : fn.results = #[.tmp t, .tmp u, .tmp v, .tmp x]) (tmps : Array Value) (P : Program) (w : World) :
    (results fn tmps).run P w = .ok (.tuple #[tmps.getD t undef, tmps.getD u undef, tmps.getD v undef, tmps.getD x undef]) w := by
  simp [results, h]
set_option maxHeartbeats 1000000 in
theorem get_nil (w : World) : Calls Tryz.prog 124 #[.string ⟨#[]⟩] w (Reads (.tuple #[.int .u64 0, .string ⟨#[]⟩, .int .i64 0, .int .i64 3]) w) := by
  go_enter Tryz.func124, Tryz.ntmps124
  go_wp2_with fail
  refine bodyPost_ret (results_tmp4 rfl _ _ _) rfl ?_
  exact ⟨rfl, Q.refl _⟩

structure JourV where
  addr : Value
  buf : Value
  many : Int
  fused : Bool
  fuse : Int
  off : Bool
def JourV.cells (j : JourV) : List Value := [j.addr, j.buf, .int .i64 j.many, .bool j.fused, .int .i64 j.fuse, .bool j.off]
def JourV.new : JourV := ⟨.pointer none, nilV, 0, false, 0, false⟩
def JoR (w : World) (g : Nat) (j : JourV) : Prop := w.heap[g]? = some (.cells j.cells.toArray 213 (0, 0))

set_option maxHeartbeats 1000000 in
theorem recover_nil (w : World) : Calls Tryz.prog 86 #[.string ⟨#[]⟩] w fun e w' => ∃ g, e = .returned (.tuple #[.pointer (some ⟨g, 0, none⟩), nilV]) ∧ w.heap.size ≤ g ∧ JoR w' g .new ∧ New w w' := by
  go_enter Tryz.func86, Tryz.ntmps86
  go_wp2_with fail
  have hj : JoR (w.alloc (.cells #[.pointer none, .slice none 0 0, .int .i64 0, .bool false, .int .i64 0, .bool false] 213)) w.heap.size .new := blk_alloc _ _
  have n0 : New w (w.alloc (.cells #[.pointer none, .slice none 0 0, .int .i64 0, .bool false, .int .i64 0, .bool false] 213)) := (Upd.refl _ _).alloc _
  generalize w.alloc _ = w1 at hj n0 ⊢
  go_loopw [0, 5] (fun sv lv wr => sv = .string ⟨#[]⟩ ∧ lv = .slice none 0 0 ∧ wr = w1) (fun _ _ _ => 0)
  case atStart => exact ⟨rfl, rfl, rfl⟩
  case round =>
    obtain ⟨rfl, rfl, rfl⟩ := hrel
    go_wp2_with fail
    refine (get_nil _).mono ?_
    rintro e w2 ⟨rfl, q2⟩
    have hj' : JoR w2 w.heap.size .new := q2.old hj
    have n2 := n0.trans (q2.upd _)
    clear q2 hj n0
    go_wp2_with fail
    go_ret2
    exact ⟨_, rfl, Nat.le_refl _, hj', n2⟩

theorem strCells_append (a b : ByteArray) : Lib.strCells (a ++ b) = Lib.strCells a ++ Lib.strCells b := by
  unfold Lib.strCells
  rw [ByteArray.data_append, Array.toList_append, List.map_append]
/-- A journal, as plain data. -/
structure Jo where
  bs : ByteArray
  many : Int
  fused : Bool
  fuse : Int
  off : Bool
def Jo.v (j : Jo) (p buf : Value) : JourV := ⟨p, buf, j.many, j.fused, j.fuse, j.off⟩
def Jo.new : Jo := ⟨⟨#[]⟩, 0, false, 0, false⟩
/-- A journal lies in block g; all its blocks are in S. -/
structure JoP (w : World) (g : Nat) (S : Nat → Prop) (j : Jo) (p buf : Value) : Prop where
  at_ : JoR w g (j.v p buf)
  addr : p = .pointer none ∨ p = .pointer (some ⟨g, 0, none⟩)
  row : w.ownsRow 0 5 1 buf j.bs.size (Lib.strCells j.bs)
  inG : S g
  inB : ∀ k, buf.ownBlock = some k → S k
  lt : ∀ k, S k → k < w.heap.size
def JoS (w : World) (g : Nat) (S : Nat → Prop) (j : Jo) : Prop := ∃ p buf, JoP w g S j p buf
section
variable {w w' : World} {g : Nat} {S T : Nat → Prop} {j : Jo} {p buf : Value}
theorem JoP.upd (h : JoP w g S j p buf) (u : Upd T w w') (hd : ∀ k, S k → ¬ T k) : JoP w' g S j p buf :=
  ⟨u.old h.at_ (hd g h.inG), h.addr, row_upd' h.row u (fun k hk => hd k (h.inB k hk)), h.inG, h.inB, fun k hk => Nat.lt_of_lt_of_le (h.lt k hk) u.size⟩
theorem JoS.upd (h : JoS w g S j) (u : Upd T w w') (hd : ∀ k, S k → ¬ T k) : JoS w' g S j := by
  obtain ⟨a, b, h⟩ := h
  exact ⟨a, b, h.upd u hd⟩
theorem JoS.new (h : JoS w g S j) (u : New w w') : JoS w' g S j := h.upd u (fun _ _ h => h)
theorem JoS.lt (h : JoS w g S j) : ∀ k, S k → k < w.heap.size := by
  obtain ⟨a, b, h⟩ := h
  exact h.lt
theorem JoP.wider (h : JoP w g S j p buf) (hs : ∀ k, S k → T k) (hl : ∀ k, T k → k < w.heap.size) : JoP w g T j p buf :=
  ⟨h.at_, h.addr, h.row, hs g h.inG, fun k e => hs k (h.inB k e), hl⟩
theorem JoP.fr (h : JoP w' g S j p buf) (w : World) : JoS w' g (Fr S w w') j := ⟨_, _, h.wider (fun k hk => .inl hk) (fun k hk => hk.elim (h.lt k) (fun e => e.2))⟩
end
theorem JoS.fresh {w : World} {g : Nat} (h : JoR w g .new) : JoS w g (· = g) .new :=
  ⟨_, _, h, .inl rfl, ⟨rfl, .inl ⟨rfl, rfl⟩⟩, rfl, fun k e => by simp [nilV, Value.ownBlock] at e, fun k e => e ▸ blk_lt h⟩
theorem Tryz.sizeBu : (Tryz.prog.info? 211).map (·.size) = some 2 := by kernel_rfl
set_option maxHeartbeats 1000000 in
set_option maxRecDepth 100000 in
theorem copyCheck_used (g : Nat) (w : World) (h0 : w.cell? ⟨g, 0, none⟩ = some (.pointer (some ⟨g, 0, none⟩))) :
    Calls Tryz.prog 163 #[.pointer (some ⟨g, 0, none⟩)] w fun e w' => e = .returned (.tuple #[]) ∧ w = w' := by
  obtain ⟨j, hj, _⟩ := Option.map_eq_some_iff.1 Tryz.sizeBu
  have hneq := fun w' : World => Lib.run_neq_ptr_same (P := Tryz.prog) w' (tp := 209) ⟨g, 0, none⟩ Tryz.underlying209 hj
  go_enter Tryz.func163, Tryz.ntmps163
  go_wp2_with fail
  go_end0
  exact ⟨rfl, rfl⟩
set_option maxHeartbeats 1000000 in
set_option maxRecDepth 100000 in
theorem copyCheck_fresh (g : Nat) (w : World) (h0 : w.cell? ⟨g, 0, none⟩ = some (.pointer none)) (hsh : w.shape? g = some (213, 6)) (hfz : w.frozen? ⟨g, 0, none⟩ = false) :
    Calls Tryz.prog 163 #[.pointer (some ⟨g, 0, none⟩)] w fun e w' => e = .returned (.tuple #[]) ∧ w' = w.setCell ⟨g, 0, none⟩ (.pointer (some ⟨g, 0, none⟩)) := by
  obtain ⟨j, hj, hjs⟩ := Option.map_eq_some_iff.1 Tryz.sizeBu
  have hto := Lib.run_to_unsafe (P := Tryz.prog) w (src := 209) (dst := 292) ⟨g, 0, none⟩ Tryz.underlying209 Tryz.underlying292 hj (by rw [hjs]; decide) hsh (by show (0 : Nat) < 6; decide)
  have hfrom := Lib.run_from_unsafe (P := Tryz.prog) w (src := 292) (dst := 209) ⟨g, 0, none⟩ Tryz.underlying292 Tryz.underlying209 hj hsh (by kernel_rfl)
  go_enter Tryz.func163, Tryz.ntmps163
  go_wp2_with fail
  rw [run_callFunc_extern Tryz.func195 (by kernel_rfl) (by kernel_rfl) (by kernel_rfl) (e := Extern.AbiNoEscape.same) (by kernel_rfl)]
  rw [Lib.run_noEscape]
  simp only [Result.andThen]
  rw [Oper.upon_value]
  go_wp2_with fail
  go_end0
  exact ⟨rfl, rfl⟩
theorem copyCheck_any (g : Nat) (S : Nat → Prop) (j : Jo) (p buf : Value) (w : World) (h : JoP w g S j p buf) :
    Calls Tryz.prog 163 #[.pointer (some ⟨g, 0, none⟩)] w fun e w' => e = .returned (.tuple #[]) ∧ Upd (· = g) w w' ∧ JoP w' g S j (.pointer (some ⟨g, 0, none⟩)) buf := by
  rcases h.addr with rfl | rfl
  · refine (copyCheck_fresh g w (blk_cell h.at_ 0) ?_ (blk_free h.at_ 0)).mono ?_
    · have := h.at_
      unfold JoR at this
      simp [World.shape?, this, JourV.cells]
    · rintro e w' ⟨rfl, rfl⟩
      have u : Upd (· = g) w (w.setCell ⟨g, 0, none⟩ (.pointer (some ⟨g, 0, none⟩))) := (Upd.refl _ _).set1 _ _
      refine ⟨rfl, u, ?_, .inr rfl, row_upd' h.row u ?_, h.inG, h.inB, fun k hk => Nat.lt_of_lt_of_le (h.lt k hk) u.size⟩
      · exact blk_set h.at_ 0 _
      · intro k hk e
        obtain ⟨cur, hc⟩ := own_blk' h.row k hk
        exact apart_ty' hc h.at_ (by decide) e
  · refine (copyCheck_used g w (blk_cell h.at_ 0)).mono ?_
    rintro e w' ⟨rfl, rfl⟩
    exact ⟨rfl, Upd.refl _ _, h⟩
/-- The append of a string to bytes that are owned: where the row lies. -/
theorem append_str {ops : Array Oper} {rest : List Oper} {o : Oper} {a : Act} {Q : Exit → Act → World → Prop} (hgd : o.guard = none) (sl x : Operand)
    (ho : o.op = .call { callee := .builtin .append, args := #[sl, x], argTypes := #[95, 9] })
    (v : Value) (n : Nat) (xs : List Value) (w : World) (hs : a.eval sl = v) (hown : w.ownsRow 0 5 1 v n xs) (s : ByteArray) (hx : a.eval x = .string s) (hb : n + s.size ≤ 140737488355328)
    (h : ∀ v' w', w'.ownsRow 0 5 1 v' (n + s.size) (xs ++ Lib.strCells s) → w.grownBy w' v.ownBlock → (v'.ownBlock = v.ownBlock ∨ v'.ownBlock = some w.heap.size) → wpList Tryz.prog ops Q rest (a.put o.dst v') w') : wpList Tryz.prog ops Q (o :: rest) a w := by
  obtain ⟨i, hi, hz0, hz1, hz2⟩ := info_parts Tryz.infoU8
  refine wpList_plain hgd fun K hK => ?_
  have ht := Tryz.underlying95
  have hu := Tryz.underlying9
  obtain ⟨v', w', hr, h2, h3, h4⟩ := Lib.run_append_own_string (P := Tryz.prog) w 0 _ _ o.type 5 i ht hu hi hz0 hz1 hz2 v n xs hown s (by unfold maxLen; omega) hb (Nat.zero_le _)
  have hblk : v'.ownBlock = v.ownBlock ∨ v'.ownBlock = some w.heap.size := by
    rcases hown.2 with ⟨rfl, rfl⟩ | ⟨g, cap, cur, rfl, hbg, hg, hnc, hcm, hcs, htake⟩
    · by_cases hm : s.size = 0
      · rw [h4.2 ⟨rfl, hm⟩]
        exact .inl rfl
      · have hq := run_append_nil_string (P := Tryz.prog) w _ _ o.type 5 i (.int .u8 0) ht hu hi hz0 s (by omega) (by omega) (by rw [hz2]; omega)
        rw [hr] at hq
        injection hq with hq
        rw [hq]
        exact .inr rfl
    · by_cases hroom : n + s.size ≤ cap
      · have hq := Lib.run_append_room_string (P := Tryz.prog) w _ _ o.type 5 i ht hu hi hz1 g n cap cur hg s hroom (by omega)
        rw [hr] at hq
        injection hq with hq
        rw [hq]
        exact .inl rfl
      · have holds : ∀ j u, xs[j]? = some u → w.cell? ((⟨g, 0, none⟩ : Addr).add j) = some u := hown.cells (g := g) rfl
        have hxl : xs.length = n := by simpa using hown.1
        have hq := Lib.run_append_grow_string (P := Tryz.prog) w _ _ o.type 5 i (.int .u8 0) ht hu hi hz0 ⟨g, 0, none⟩ n cap xs (by rw [hz1]; omega) holds s (by omega) (by omega) (by rw [hz2]; exact growslice_fits (by omega) (by omega))
        rw [hr] at hq
        injection hq with hq
        rw [hq]
        exact .inr rfl
  unfold Oper.wp execOp
  simp only [ho, resolve, invoke, builtin, Sem.run_bind, Sem.run_pure, Result.andThen_ok, List.map_toArray, List.map_cons, List.map_nil, hs, hx, hr]
  exact hK _ _ (h v' w' h2 h3 hblk)
def Jo.more (j : Jo) (s : ByteArray) : Jo := { j with bs := j.bs ++ s }
set_option maxHeartbeats 2000000 in
set_option maxRecDepth 100000 in
theorem wstr_any (g : Nat) (S : Nat → Prop) (j : Jo) (s : ByteArray) (w : World) (h : JoS w g S j) (hlen : j.bs.size + s.size ≤ 140737488355328) :
    Calls Tryz.prog 125 #[.pointer (some ⟨g, 0, none⟩), .string s] w fun e w' => e = .returned (.tuple #[.int .i64 s.size, .nilIface]) ∧ JoS w' g (Fr S w w') (j.more s) ∧ Upd S w w' := by
  obtain ⟨p, buf, h⟩ := h
  have hcc := copyCheck_any g S j p buf w h
  have hSg := h.inG
  go_enter Tryz.func125, Tryz.ntmps125
  go_wp2_with fail
  refine hcc.mono ?_
  rintro e w1 ⟨rfl, u1, h1⟩
  have c1 : w1.cell? ⟨g, 1, none⟩ = some buf := blk_cell h1.at_ 1
  have hlt : g < w1.heap.size := blk_lt h1.at_
  have H1 := hide h1
  have hrow := h1.row
  have U1 := hide (u1.mono (T := S) (fun k _ e => by rw [e]; exact hSg))
  clear hcc h1 u1 h
  go_wp2_with (at_builtin; refine append_str rfl _ _ rfl buf _ _ _ rfl hrow s rfl hlen ?_)
  intro v' w2 hown' hgrow hblk
  have h1 := unhide H1
  have hbg : buf.ownBlock ≠ some g := fun e => by
    obtain ⟨cur, hc⟩ := own_blk' h1.row g e
    exact apart_ty' hc h1.at_ (by decide) rfl
  have hat2 : JoR w2 g (j.v (.pointer (some ⟨g, 0, none⟩)) buf) := by
    unfold JoR
    rw [hgrow.block g hlt (fun e => hbg e.symm)]
    exact h1.at_
  have u2 : Upd S w1 w2 := (Upd.refl S w1).grown hgrow (fun k e _ => h1.inB k e)
  obtain ⟨ao, n', cap, rfl⟩ : ∃ ao n' cap, v' = .slice ao n' cap := by
    rcases hown'.2 with ⟨hv, _⟩ | ⟨g', cap, cur, hv, _⟩
    · exact ⟨_, _, _, hv⟩
    · exact ⟨_, _, _, hv⟩
  have d1 : w2.cell? ⟨g, 1, none⟩ = some buf := blk_cell hat2 1
  have f1 : w2.frozen? ⟨g, 1, none⟩ = false := blk_free hat2 1
  have hst : JoR (w2.setCell ⟨g, 1, none⟩ (.slice ao n' cap)) g ((j.more s).v (.pointer (some ⟨g, 0, none⟩)) (.slice ao n' cap)) := blk_set hat2 1 (.slice ao n' cap)
  have u3 : Upd (· = g) w2 (w2.setCell ⟨g, 1, none⟩ (.slice ao n' cap)) := (Upd.refl _ _).set1 _ _
  have hlt2 : g < w2.heap.size := blk_lt hat2
  have HO := hide hown'
  have HA := hide hat2
  have HS := hide hst
  have U2 := hide u2
  have U3 := hide u3
  have HBK := hide hblk
  clear hblk hown' hat2 hst hgrow u2 u3 hrow c1 hbg h1
  go_wp2_with fail
  go_ret2
  have h1 := unhide H1
  have hown' := unhide HO
  have u2 := unhide U2
  have u3 := unhide U3
  have hU : Upd S w (w2.setCell ⟨g, 1, none⟩ (.slice ao n' cap)) := ((unhide U1).trans u2).trans (u3.mono (fun k _ e => by rw [e]; exact hSg))
  have hge := (unhide U1).size
  have hge2 := u2.size
  have hge3 := u3.size
  refine ⟨rfl, ⟨.pointer (some ⟨g, 0, none⟩), .slice ao n' cap, unhide HS, .inr rfl, ?_, .inl hSg, ?_, ?_⟩, hU⟩
  · have : (w2.setCell ⟨g, 1, none⟩ (.slice ao n' cap)).ownsRow 0 5 1 (.slice ao n' cap) (j.bs.size + s.size) (Lib.strCells j.bs ++ Lib.strCells s) := row_upd' hown' u3 (fun k hk e => by
      obtain ⟨cur, hc⟩ := own_blk' hown' k hk
      exact apart_ty' hc (unhide HA) (by decide) e)
    show (w2.setCell ⟨g, 1, none⟩ (.slice ao n' cap)).ownsRow 0 5 1 (.slice ao n' cap) (j.bs ++ s).size (Lib.strCells (j.bs ++ s))
    rw [ByteArray.size_append, strCells_append]
    exact this
  · intro k hk
    rcases unhide HBK with e | e
    · rw [e] at hk
      exact .inl (h1.inB k hk)
    · rw [e] at hk
      injection hk with hk
      obtain ⟨cur, hc⟩ := own_blk' hown' k (by rw [e, hk])
      have := blk_lt hc
      exact .inr ⟨by omega, by omega⟩
  · rintro k (hk | hk)
    · have := h1.lt k hk
      omega
    · omega
set_option maxHeartbeats 1000000 in
set_option maxRecDepth 100000 in
theorem jwrite_any (g : Nat) (S : Nat → Prop) (j : Jo) (s : ByteArray) (w : World) (h : JoS w g S j) (hf : j.fused = false) (hlen : j.bs.size + s.size ≤ 140737488355328) :
    Calls Tryz.prog 149 #[.pointer (some ⟨g, 0, none⟩), .string s] w fun e w' => e = .returned (.bool true) ∧ JoS w' g (Fr S w w') (j.more s) ∧ Upd S w w' := by
  have hcall := wstr_any g S j s w h hlen
  obtain ⟨p, buf, hp⟩ := h
  have c3 : w.cell? ⟨g, 3, none⟩ = some (.bool false) := hf ▸ blk_cell hp.at_ 3
  clear hp
  go_enter Tryz.func149, Tryz.ntmps149
  go_wp2_with fail
  refine hcall.mono ?_
  rintro e w1 ⟨rfl, h1, u1⟩
  have H1 := hide h1
  have U1 := hide u1
  clear hcall h1 u1 c3
  go_wp2_with fail
  go_ret
  exact ⟨rfl, unhide H1, unhide U1⟩
end Go.Proofs.YtfmkdoachjgjbaaGreatDoor
