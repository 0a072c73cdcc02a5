/-
  node.Total, node.List.
-/
import Derived.Test.YtfmkdoachjgjbaaGreatDoorMeb
import Derived.Deep.CutRange
set_option linter.unusedVariables false
set_option linter.unusedSimpArgs false
namespace Go.Proofs.YtfmkdoachjgjbaaGreatDoor
open Go.RowKit

theorem node_swept (N : NodeV) (hs : N.shut.length = 8) (i : Nat) (b : Bool) (h : N.swept[i]? = some b) : N.cells[11 + i]? = some (.bool b) := by
  unfold NodeV.cells
  rw [show 11 + i = (8 + i) + 1 + 1 + 1 by omega, List.getElem?_cons_succ, List.getElem?_cons_succ, List.getElem?_cons_succ, List.getElem?_append_right (by simp [hs])]
  simp [hs, h]
/-- What a peer adds to a total. -/
def totF (N : NodeV) (ps : List PeerV) (X : Nat → List Live) (i : Nat) : Option Int :=
  if N.swept[i]? = some true then none else (ps[i]?).map fun p => IntKind.u64.wrap (p.c.loc + sumI64 (amts true false (X i)) 0)
def totK (f : Nat → Option Int) (a : Int) : Nat → Int
  | 0 => a
  | n + 1 => match f n with | none => totK f a n | some x => IntKind.u64.wrap (totK f a n + x)

theorem fd_base0 (a b : Value) (w : World) : (Instr.field 59 (.agg #[a, b]) 0).run Tryz.prog w = .ok a w := by kernel_rfl
theorem fd_msg_ch (m : MsgV) (w : World) : (Instr.field 101 (.agg m.cells.toArray) 1).run Tryz.prog w = .ok (.int .u32 m.ch) w := by kernel_rfl
attribute [local go_sem] fd_base0 fd_msg_ch rowN_drew
set_option maxRecDepth 100000 in
set_option maxHeartbeats 4000000 in
theorem total_any (g : Nat) (N : NodeV) (R : RelV) (ps : List PeerV) (X : Nat → List Live) (w : World) (h : NodI w g N R ps) (hl : ps.length ≤ 8) (hs : N.shut.length = 8) (hw : N.swept.length = 8)
    (hX : ∀ (i : Nat) (p : PeerV), ps[i]? = some p → ChI w p.l.en p.c (X i)) (hXl : ∀ i, (X i).length ≤ 1000000) (hXx : ∀ i, ∀ x ∈ X i, LiveOk x) :
    Calls Tryz.prog 40 #[.pointer (some ⟨g, 0, none⟩)] w (Makes (.int .u64 (totK (totF N ps X) N.funds ps.length)) w) := by
  have c0 : w.cell? ⟨g, 0, none⟩ = some (.pointer (some ⟨N.re, 0, none⟩)) := blk_cell h.at_ 0
  have c1 : w.cell? ⟨g, 1, none⟩ = some (.int .u64 N.funds) := blk_cell h.at_ 1
  go_enter Tryz.func40, Tryz.ntmps40
  go_wp2_with (with_reducible first | (first | refine' tw1 (ido ?_) ?_ | refine' tw2 (ido ?_) ?_); rotate_left | refine' tw3 (ido ?_) | rfl | apply tn | refine' tw4 ?_)
  refine (many_any N.re R ps w h.re).mono ?_
  rintro e w1 ⟨rfl, q1⟩
  have n1 : New w w1 := q1.upd _
  clear q1
  obtain ⟨wo, rfl⟩ : ∃ wo : World, wo = w1 := ⟨_, rfl⟩
  have hll : (ps.length : Int) ≤ 8 := by omega
  go_wp2_with (with_reducible first | (first | refine' tw1 (ido ?_) ?_ | refine' tw2 (ido ?_) ?_); rotate_left | refine' tw3 (ido ?_) | rfl | apply tn | refine' tw4 ?_)
  go_loopw [3, 4, 5, 15] (fun sv _ _ iv wr => ∃ i : Nat, iv = .int .i64 (i : Int) ∧ i ≤ ps.length ∧ sv = .int .u64 (totK (totF N ps X) N.funds i) ∧ New w wr) (fun _ _ _ iv _ => ps.length - (intOf iv).toNat)
  case atStart => exact ⟨0, rfl, Nat.zero_le _, rfl, n1⟩
  case round =>
    obtain ⟨i, rfl, hi, rfl, nr⟩ := hrel
    obtain ⟨wq, rfl⟩ : ∃ wq : World, wq = wr := ⟨_, rfl⟩
    have d0 := nr.cell c0 (fun h => h)
    have HX := hide hX
    have H := hide (h.new nr)
    by_cases hlt : i < ps.length
    · obtain ⟨p, hp⟩ : ∃ p, ps[i]? = some p := ⟨_, List.getElem?_eq_getElem hlt⟩
      obtain ⟨b, hb⟩ : ∃ b, N.swept[i]? = some b := ⟨_, List.getElem?_eq_getElem (by omega)⟩
      have ds : wq.cell? ⟨g, 11 + i, none⟩ = some (.bool b) := by rw [blk_cell (unhide H).at_, List.getElem?_toArray]; exact node_swept N hs i b hb
      have hi0 : (i : Int) < (ps.length : Int) := by omega
      have hi8 : (i : Int) < 8 := by omega
      have HP := hide hp
      have HB := hide hb
      have HT := hide (show totK (totF N ps X) N.funds (i + 1) = match totF N ps X i with | none => totK (totF N ps X) N.funds i | some x => IntKind.u64.wrap (totK (totF N ps X) N.funds i + x) from rfl)
      clear h hX hp hb c0 c1
      generalize totK (totF N ps X) N.funds i = A at *
      cases b with
      | true =>
        have hf : totF N ps X i = none := by unfold totF; rw [if_pos (unhide HB)]
        rw [hf] at HT
        have HF := hide hf
        clear hf
        go_wp2_with (with_reducible first | (first | refine' tw1 (ido ?_) ?_ | refine' tw2 (ido ?_) ?_); rotate_left | refine' tw3 (ido ?_) | rfl | apply tn | refine' tw4 ?_)
        go_roundw
        case rel => exact ⟨i + 1, by go_num, by omega, by rw [unhide HT], nr⟩
        case measure => simp [intOf]; omega
      | false =>
        have hf : totF N ps X i = some (IntKind.u64.wrap (p.c.loc + sumI64 (amts true false (X i)) 0)) := by
          unfold totF
          rw [if_neg (by rw [unhide HB]; decide), unhide HP]
          rfl
        rw [hf] at HT
        clear hf
        go_wp2_with (with_reducible first | (first | refine' tw1 (ido ?_) ?_ | refine' tw2 (ido ?_) ?_); rotate_left | refine' tw3 (ido ?_) | rfl | apply tn | refine' tw4 ?_)
        refine (link_at N.re R ps _ (unhide H).re (by omega) i p (unhide HP)).mono ?_
        rintro e w2 ⟨rfl, q2⟩
        have n2 : New w w2 := nr.trans (q2.upd _)
        have HC := hide (unhide HX i p (unhide HP))
        have HK := hide ((unhide H).re.links p (List.mem_of_getElem? (unhide HP))).1
        go_wp2_with (with_reducible first | (first | refine' tw1 (ido ?_) ?_ | refine' tw2 (ido ?_) ?_); rotate_left | refine' tw3 (ido ?_) | rfl | apply tn | refine' tw4 ?_)
        refine (chan_any p.lk p.l _ (q2.old (unhide HK))).mono ?_
        rintro e w3 ⟨rfl, q3⟩
        have n3 : New w w3 := n2.trans (q3.upd _)
        clear nr n2 q2 q3 HK
        go_wp2_with (with_reducible first | (first | refine' tw1 (ido ?_) ?_ | refine' tw2 (ido ?_) ?_); rotate_left | refine' tw3 (ido ?_) | rfl | apply tn | refine' tw4 ?_)
        refine (base_any p.l.en p.c _ ((unhide HC).toChR.new n3)).mono ?_
        rintro e w4 ⟨rfl, n4⟩
        have n4 := n3.trans n4
        go_wp2_with (with_reducible first | (first | refine' tw1 (ido ?_) ?_ | refine' tw2 (ido ?_) ?_); rotate_left | refine' tw3 (ido ?_) | rfl | apply tn | refine' tw4 ?_)
        refine (amounts_any p.l.en p.c (X i) true false (hXl i) _ ((unhide HC).new n4)).mono ?_
        rintro e w5 ⟨v, rfl, hv, n5⟩
        have n5 := n4.trans n5
        clear n3 n4
        have hsum := nsum_any v _ w5 hv (by have := List.length_filterMap_le (amtOf true false) (X i); have := hXl i; unfold amts; omega) (fun a ha => by
          obtain ⟨x, hx, hax⟩ := List.mem_filterMap.1 ha
          unfold amtOf at hax
          split at hax
          · injection hax with hax
            subst hax
            have := (hXx i x hx).h.amount
            omega
          · cases hax)
        clear hv
        generalize sumI64 (amts true false (X i)) 0 = S at *
        go_wp2_with (with_reducible first | (first | refine' tw1 (ido ?_) ?_ | refine' tw2 (ido ?_) ?_); rotate_left | refine' tw3 (ido ?_) | rfl | apply tn | refine' tw4 ?_)
        refine hsum.mono ?_
        rintro e w6 ⟨rfl, q6⟩
        have n6 := n5.trans (q6.upd _)
        clear q6 hsum n5
        go_wp2_with (with_reducible first | (first | refine' tw1 (ido ?_) ?_ | refine' tw2 (ido ?_) ?_); rotate_left | refine' tw3 (ido ?_) | rfl | apply tn | refine' tw4 ?_)
        go_roundw
        case rel => exact ⟨i + 1, by go_num, by omega, by rw [unhide HT, IntKind.wrap_u64, IntKind.wrap_u64], n6⟩
        case measure => simp [intOf]; omega
    · obtain rfl : i = ps.length := by omega
      clear h hX c0 c1
      generalize hA : totK (totF N ps X) N.funds ps.length = A at *
      go_wp2_with (with_reducible first | (first | refine' tw1 (ido ?_) ?_ | refine' tw2 (ido ?_) ?_); rotate_left | refine' tw3 (ido ?_) | rfl | apply tn | refine' tw4 ?_)
      go_ret
      exact ⟨rfl, nr⟩

structure RowV where
  ch : Int
  loc : Int
  rem : Int
  pend : Int
  closed : Bool
def RowV.cells (r : RowV) : List Value := [.int .u32 r.ch, .int .u64 r.loc, .int .u64 r.rem, .int .u64 r.pend, .bool r.closed]
def RowV.zero : RowV := ⟨0, 0, 0, 0, false⟩
theorem RowV.len (r : RowV) : r.cells.length = 5 := rfl
theorem Tryz.infoRow5 : (Tryz.prog.info? 87).map (·.size) = some 5 := by kernel_rfl
def ldRow (x : Value) : Sem Value := Instr.loadAt 87 x
theorem ld_row_fold (x : Value) : Instr.loadAt 87 x = ldRow x := rfl
theorem ld_row (b o : Nat) (w : World) : (ldRow (.pointer (some ⟨b, o, none⟩))).run Tryz.prog w = match rowN w b o 5 with | some A => .ok (.agg A) w | none => slowLd Tryz.prog 87 w b o :=
  run_loadAt_rowN 87 5 _ Tryz.underlying87 rfl Tryz.infoRow5 b o w
def stRow (x v : Value) : Sem Unit := Instr.storeAt 87 x v
theorem st_row_fold (x v : Value) : Instr.storeAt 87 x v = stRow x v := rfl
theorem st_row (b o : Nat) (A : Array Value) (w : World) : (stRow (.pointer (some ⟨b, o, none⟩)) (.agg A)).run Tryz.prog w = if stOk w b o 5 A = true then .ok () (w.setCells b o A.toList) else slowSt Tryz.prog 87 w b o A :=
  run_storeAt_row 87 5 Tryz.infoRow5 b o A w
def alRow : Sem Value := Instr.alloc 87 true (.tuple #[])
theorem al_row_fold : Instr.alloc 87 true (.tuple #[]) = alRow := rfl
theorem al_row (w : World) : alRow.run Tryz.prog w = .ok (.pointer (some ⟨w.heap.size, 0, none⟩)) (w.alloc (.cells RowV.zero.cells.toArray 87)) := by kernel_rfl
def bsRow (n : Nat) (p : Array (Nat × Value)) : Sem Value := Instr.buildSlice 88 n p
theorem bs_row_fold (n : Nat) (p : Array (Nat × Value)) : Instr.buildSlice 88 n p = bsRow n p := rfl
theorem bs_row (r : RowV) (w : World) : (bsRow 1 #[(0, .agg r.cells.toArray)]).run Tryz.prog w = .ok (.slice (some ⟨w.heap.size, 0, none⟩) 1 1) (w.alloc (.cells r.cells.toArray 87)) := by kernel_rfl
theorem RowV.one (r : RowV) : ∀ v ∈ r.cells, v.oneCell' = true := by
  intro v hv
  simp only [RowV.cells, List.mem_cons, List.not_mem_nil, or_false] at hv
  rcases hv with rfl | rfl | rfl | rfl | rfl <;> rfl
theorem stOk_row {w : World} {k : Nat} {T : TypeId} {r : RowV} (h : w.heap[k]? = some (.cells r.cells.toArray T (0, 0))) (r' : RowV) : stOk w k 0 5 r'.cells.toArray = true :=
  stOk_all (C := r.cells.toArray) h rfl (fun v hv => by
    simp only [RowV.cells, List.mem_cons, List.not_mem_nil, or_false] at hv
    rcases hv with rfl | rfl | rfl | rfl | rfl <;> rfl)
theorem laid_row {w : World} {k : Nat} {T : TypeId} {r : RowV} (h : w.heap[k]? = some (.cells r.cells.toArray T (0, 0))) (r' : RowV) : (w.setCells k 0 r'.cells).heap[k]? = some (.cells r'.cells.toArray T (0, 0)) := by
  rw [blk_setCells h 0 r'.cells, layIn_whole r.cells.toArray r'.cells rfl]
/-- A peer's row. -/
def rowOf (N : NodeV) (ps : List PeerV) (X : Nat → List Live) (i : Nat) : RowV :=
  match ps[i]? with
  | none => ⟨0, 0, 0, 0, false⟩
  | some p => if N.swept[i]? = some true then ⟨p.c.setup.ch, 0, 0, 0, true⟩ else ⟨p.c.setup.ch, p.c.loc, p.c.rem, sumI64 (amts true true (X i)) 0, false⟩
def bdRow (p : Array (Nat × Value)) : Sem Value := Instr.build 87 p
theorem bd_row_fold (p : Array (Nat × Value)) : Instr.build 87 p = bdRow p := rfl
theorem bd_row (c : Int) (b : Bool) (w : World) : (bdRow #[(0, .int .u32 c), (4, .bool b)]).run Tryz.prog w = .ok (.agg (RowV.cells ⟨c, 0, 0, 0, b⟩).toArray) w := run_build w _ _ _ (by kernel_rfl)
theorem Tryz.infoRow : (Tryz.prog.info? 87).map (fun i => (i.size, i.zero.map fun z => z.cells.toList)) = some (5, some [.int .u32 0, .int .u64 0, .int .u64 0, .int .u64 0, .bool false]) := by kernel_rfl
theorem row_info : ∃ i z b, Tryz.prog.info? 87 = some i ∧ i.zero = some z ∧ i.size = 5 ∧ i.bytes = b ∧ z.cells.size = 5 ∧ b ≤ 1000 := by
  cases hi : Tryz.prog.info? 87 with
  | none => have h := Tryz.infoRow; rw [hi] at h; simp at h
  | some i =>
    have h := Tryz.infoRow
    have hb : (Tryz.prog.info? 87).map (fun i => decide (i.bytes ≤ 1000)) = some true := by kernel_rfl
    rw [hi, Option.map_some, Option.some.injEq, Prod.mk.injEq] at h
    rw [hi, Option.map_some, Option.some.injEq] at hb
    cases hz : i.zero with
    | none => rw [hz] at h; simp at h
    | some z =>
      rw [hz, Option.map_some, Option.some.injEq] at h
      refine ⟨i, z, i.bytes, rfl, hz, h.1, rfl, ?_, of_decide_eq_true hb⟩
      rw [← Array.length_toList, h.2]
      rfl
attribute [local go_sem ↓ high] bd_row_fold ld_row_fold st_row_fold al_row_fold bs_row_fold
attribute [local go_sem] bd_row ld_row st_row al_row bs_row
set_option maxRecDepth 100000 in
set_option maxHeartbeats 4000000 in
theorem nlist_any (g : Nat) (N : NodeV) (R : RelV) (ps : List PeerV) (X : Nat → List Live) (w : World) (h : NodI w g N R ps) (hl : ps.length ≤ 8) (hs : N.shut.length = 8) (hw : N.swept.length = 8)
    (hX : ∀ (i : Nat) (p : PeerV), ps[i]? = some p → ChI w p.l.en p.c (X i) ∧ (0 ≤ p.c.k.signed ∧ p.c.k.signed < 4294967296) ∧ (0 ≤ p.c.k.heard ∧ p.c.k.heard < 4294967296)) (hXl : ∀ i, (X i).length ≤ 1000000) (hXx : ∀ i, ∀ x ∈ X i, LiveOk x) :
    Calls Tryz.prog 39 #[.pointer (some ⟨g, 0, none⟩)] w fun e w' => ∃ v, e = .returned v ∧ w'.ownsRow w.heap.size 87 5 v ps.length (((List.range ps.length).map (rowOf N ps X)).flatMap RowV.cells) ∧ New w w' := by
  have c0 : w.cell? ⟨g, 0, none⟩ = some (.pointer (some ⟨N.re, 0, none⟩)) := blk_cell h.at_ 0
  go_enter Tryz.func39, Tryz.ntmps39
  go_wp2_with (with_reducible first | (first | refine' tw1 (ido ?_) ?_ | refine' tw2 (ido ?_) ?_); rotate_left | refine' tw3 (ido ?_) | rfl | apply tn | refine' tw4 ?_)
  refine (many_any N.re R ps w h.re).mono ?_
  rintro e w1 ⟨rfl, q1⟩
  have n1 : New w w1 := q1.upd _
  clear q1
  obtain ⟨wo, rfl⟩ : ∃ wo : World, wo = w1 := ⟨_, rfl⟩
  have hll : (ps.length : Int) ≤ 8 := by omega
  obtain ⟨i9, z9, b9, hi9, hz9, hz0, hz1, hz2, hb9⟩ := row_info
  go_wp2_with (with_reducible first | (first | refine' tw1 (ido ?_) ?_ | refine' tw2 (ido ?_) ?_); rotate_left | refine' tw3 (ido ?_) | rfl | apply tn | refine' tw4 ?_)
  go_loopw [3, 4, 5, 6, 7, 13] (fun sv _ _ _ _ iv wr => ∃ i : Nat, iv = .int .i64 (i : Int) ∧ i ≤ ps.length ∧ wr.ownsRow w.heap.size 87 5 sv i (((List.range i).map (rowOf N ps X)).flatMap RowV.cells) ∧ New w wr) (fun _ _ _ _ _ iv _ => ps.length - (intOf iv).toNat)
  case atStart => exact ⟨0, rfl, Nat.zero_le _, ⟨rfl, .inl ⟨rfl, rfl⟩⟩, n1⟩
  case round =>
    obtain ⟨i, rfl, hi, hA, nr⟩ := hrel
    obtain ⟨wq, rfl⟩ : ∃ wq : World, wq = wr := ⟨_, rfl⟩
    have d0 := nr.cell c0 (fun h => h)
    have HX := hide hX
    have HA := hide hA
    have H := hide (h.new nr)
    by_cases hlt : i < ps.length
    · obtain ⟨p, hp⟩ : ∃ p, ps[i]? = some p := ⟨_, List.getElem?_eq_getElem hlt⟩
      obtain ⟨b, hb⟩ : ∃ b, N.swept[i]? = some b := ⟨_, List.getElem?_eq_getElem (by omega)⟩
      have ds : wq.cell? ⟨g, 11 + i, none⟩ = some (.bool b) := by rw [blk_cell (unhide H).at_, List.getElem?_toArray]; exact node_swept N hs i b hb
      have hi0 : (i : Int) < (ps.length : Int) := by omega
      have hi8 : (i : Int) < 8 := by omega
      have HP := hide hp
      have HB := hide hb
      obtain ⟨hCi, hk1, hk2⟩ := hX i p hp
      have HC := hide hCi
      clear h hX hp hb c0 hA hCi
      go_wp2_with (with_reducible first | (first | refine' tw1 (ido ?_) ?_ | refine' tw2 (ido ?_) ?_); rotate_left | refine' tw3 (ido ?_) | rfl | apply tn | refine' tw4 ?_)
      refine (link_at N.re R ps _ (unhide H).re (by omega) i p (unhide HP)).mono ?_
      rintro e w2 ⟨rfl, q2⟩
      have n2 : New w w2 := nr.trans (q2.upd _)
      have HK := hide ((unhide H).re.links p (List.mem_of_getElem? (unhide HP))).1
      go_wp2_with (with_reducible first | (first | refine' tw1 (ido ?_) ?_ | refine' tw2 (ido ?_) ?_); rotate_left | refine' tw3 (ido ?_) | rfl | apply tn | refine' tw4 ?_)
      refine (chan_any p.lk p.l _ (q2.old (unhide HK))).mono ?_
      rintro e w3 ⟨rfl, q3⟩
      have n3 : New w w3 := n2.trans (q3.upd _)
      have nq3 : New wq w3 := (q2.upd _).trans (q3.upd _)
      have HA3 := hide (owns_new (unhide HA) nq3)
      have ds3 := nq3.cell ds (fun h => h)
      clear nr n2 q2 q3 HK HA ds d0
      go_upto_region 6 with fail
      have hac : ∀ (w4 : World), New w3 w4 → ChR w4 p.l.en p.c := fun w4 n4 => (unhide HC).toChR.new (n3.trans n4)
      have HAC := hide hac
      clear hac
      have ds3d : w3.drew.cell? ⟨g, 11 + i, none⟩ = some (.bool b) := ds3
      go_cut [6] from 23 to 32 (fun sv wx => ∃ k, sv = .pointer (some ⟨k, 0, none⟩) ∧ w3.heap.size ≤ k ∧ wx.heap[k]? = some (.cells (RowV.cells ⟨p.c.setup.ch, 0, 0, 0, b⟩).toArray 87 (0, 0)) ∧ New w3 wx)
      case first =>
        refine wp_plan (fun w' => w'.cell? ⟨g, 11 + i, none⟩ = some (.bool b)) [8] (.fork (.of [0, 1, 2, 3, 4, 5, 6, 7, 8, 9, 10, 11]) (.of [10, 0, 1, 2, 3, 4, 5, 6, 7, 8, 9, 11])) (by kernel_rfl) (by kernel_rfl) ds3 ?_
        simp only [Plan.of]
        refine qf ?_ ?_
        · go_wp2_with (with_reducible first | (first | refine' qw1 (ido ?_) ?_ | refine' qw2 (ido ?_) ?_ | refine' qw3 (ido ?_) ?_); rotate_left | refine' qw4 (ido ?_) | refine' qw5 (ido ?_) | rfl | apply qn)
          refine (again_any p.l.en p.c _ (unhide HAC _ (Upd.refl _ _).drew) hk1 hk2).mono ?_
          rintro e w4 ⟨rfl, n4⟩
          have n4 := n4.ofDrew
          have ds4 := n4.cell ds3 (fun h => h)
          have hbk := blk_alloc w4 (.cells RowV.zero.cells.toArray 87)
          have n5 := n4.alloc (.cells RowV.zero.cells.toArray 87)
          have hz := n4.size
          go_wp2_with (with_reducible first | (first | refine' qw1 (ido ?_) ?_ | refine' qw2 (ido ?_) ?_ | refine' qw3 (ido ?_) ?_); rotate_left | refine' qw4 (ido ?_) | refine' qw5 (ido ?_) | rfl | apply qn)
          refine ⟨ds4, ?_⟩
          go_wp2_with (with_reducible first | (first | refine' qw1 (ido ?_) ?_ | refine' qw2 (ido ?_) ?_ | refine' qw3 (ido ?_) ?_); rotate_left | refine' qw4 (ido ?_) | refine' qw5 (ido ?_) | rfl | apply qn)
          refine ⟨n5.cell ds3 (fun h => h), ?_⟩
          have ds5 := n5.cell ds3 (fun h => h)
          generalize w4.alloc (.cells RowV.zero.cells.toArray 87) = wb at hbk n5 ds5 ⊢
          generalize w4.heap.size = k at hbk hz ⊢
          have hso := stOk_row hbk ⟨p.c.setup.ch, 0, 0, 0, b⟩
          have hS := laid_row hbk ⟨p.c.setup.ch, 0, 0, 0, b⟩
          have nS : New w3 (wb.setCells k 0 (RowV.cells ⟨p.c.setup.ch, 0, 0, 0, b⟩)) := n5.then ((Upd.refl (· = k) wb).setCells 0 _) (fun i hi e => by omega)
          have HSS := hide hS
          have HNN := hide nS
          clear hS nS n4 n5 hbk ds4
          go_wp2_with (with_reducible first | (first | refine' qw1 (ido ?_) ?_ | refine' qw2 (ido ?_) ?_ | refine' qw3 (ido ?_) ?_); rotate_left | refine' qw4 (ido ?_) | refine' qw5 (ido ?_) | rfl | apply qn)
          go_meet
          case rel => exact ⟨_, rfl, hz, unhide HSS, unhide HNN⟩
        · have n0 : New w3 (w3.alloc (.cells RowV.zero.cells.toArray 87)).drew := ((Upd.refl _ _).alloc _).drew
          have hbk : (w3.alloc (.cells RowV.zero.cells.toArray 87)).drew.heap[w3.heap.size]? = _ := blk_alloc w3 (.cells RowV.zero.cells.toArray 87)
          have ds5 := n0.cell ds3 (fun h => h)
          go_wp2_with (with_reducible first | (first | refine' qw1 (ido ?_) ?_ | refine' qw2 (ido ?_) ?_ | refine' qw3 (ido ?_) ?_); rotate_left | refine' qw4 (ido ?_) | refine' qw5 (ido ?_) | rfl | apply qn)
          refine ⟨ds5, ?_⟩
          generalize (w3.alloc (.cells RowV.zero.cells.toArray 87)).drew = wa at n0 hbk ds5 ⊢
          have hz : w3.heap.size ≤ w3.heap.size := Nat.le_refl _
          generalize hk : w3.heap.size = k at hbk ⊢
          rw [hk] at hz
          go_wp2_with (with_reducible first | (first | refine' qw1 (ido ?_) ?_ | refine' qw2 (ido ?_) ?_ | refine' qw3 (ido ?_) ?_); rotate_left | refine' qw4 (ido ?_) | refine' qw5 (ido ?_) | rfl | apply qn)
          refine (again_any p.l.en p.c _ (unhide HAC _ n0) hk1 hk2).mono ?_
          rintro e wb ⟨rfl, n4⟩
          have hbk := n4.old hbk (fun h => h)
          have ds4 := n4.cell ds5 (fun h => h)
          have n5 := n0.trans n4
          have hso := stOk_row hbk ⟨p.c.setup.ch, 0, 0, 0, b⟩
          have hS := laid_row hbk ⟨p.c.setup.ch, 0, 0, 0, b⟩
          have nS : New w3 (wb.setCells k 0 (RowV.cells ⟨p.c.setup.ch, 0, 0, 0, b⟩)) := n5.then ((Upd.refl (· = k) wb).setCells 0 _) (fun i hi e => by omega)
          have HSS := hide hS
          have HNN := hide nS
          clear hS nS n0 n4 n5 hbk
          go_wp2_with (with_reducible first | (first | refine' qw1 (ido ?_) ?_ | refine' qw2 (ido ?_) ?_ | refine' qw3 (ido ?_) ?_); rotate_left | refine' qw4 (ido ?_) | refine' qw5 (ido ?_) | rfl | apply qn)
          refine ⟨ds4, ?_⟩
          go_wp2_with (with_reducible first | (first | refine' qw1 (ido ?_) ?_ | refine' qw2 (ido ?_) ?_ | refine' qw3 (ido ?_) ?_); rotate_left | refine' qw4 (ido ?_) | refine' qw5 (ido ?_) | rfl | apply qn)
          go_meet
          case rel => exact ⟨_, rfl, by omega, unhide HSS, unhide HNN⟩
      case rest =>
        obtain ⟨k, rfl, hk, hb, nc⟩ := hcut
        obtain ⟨wd, rfl⟩ : ∃ wd : World, wd = wc := ⟨_, rfl⟩
        have n4 := n3.trans nc
        have e4 := blk_cell hb 4
        have f1 := blk_free hb 1
        have f2 := blk_free hb 2
        have f3 := blk_free hb 3
        simp [RowV.cells] at e4
        have HA4 := hide (owns_new (unhide HA3) nc)
        have hlt3 : ∀ j, Value.ownBlock u3 = some j → j < w3.heap.size := fun j hj => by
          obtain ⟨cur, hc⟩ := own_blk (unhide HA3) j hj
          exact blk_lt hc
        have HLT := hide hlt3
        clear hlt3
        have hkw : w.heap.size ≤ k := by have := n3.size; omega
        have HHB := hide hb
        have hrs : (List.range (i + 1)).map (rowOf N ps X) = (List.range i).map (rowOf N ps X) ++ [rowOf N ps X i] := by rw [List.range_succ, List.map_append]; rfl
        have HRS := hide hrs
        clear hrs hb HA3 nc ds3 HAC ds3d
        cases b with
        | true =>
          have hro : rowOf N ps X i = ⟨p.c.setup.ch, 0, 0, 0, true⟩ := by unfold rowOf; rw [unhide HP]; simp only; rw [if_pos (unhide HB)]
          have HRO := hide hro
          clear hro
          have hrow := rowN_whole (unhide HHB) 5 rfl
          go_wp2_with (at_builtin; refine wpList_append_own _ rfl (.tmp 48) (.tmp 50) 88 rfl w.heap.size 87 i9 _ 5 b9 Tryz.underlying88 hi9 hz9 hz0 hz1 hz2 (by decide) _ _ _ rfl ((unhide HA4).alloc _) ⟨wd.heap.size, 0, none⟩ 1 1 (RowV.cells ⟨p.c.setup.ch, 0, 0, 0, true⟩) rfl rfl ?c1 ?c2 ?c3 ?c4 ?c5 ?_)
          case c1 => exact World.news_of_block (cs := (RowV.cells ⟨p.c.setup.ch, 0, 0, 0, true⟩).toArray) (fr := (0, 0)) (heap_alloc_new wd _)
          case c2 => exact RowV.one _
          case c3 => unfold maxLen; omega
          case c4 => have := Nat.mul_le_mul (show i + 1 ≤ 8 by omega) hb9; omega
          case c5 => have := n4.size; simp; omega
          intro v' w' hown' hgr _
          have hge : ∀ k, Value.ownBlock u3 = some k → w.heap.size ≤ k := by
            intro k hk
            rcases (unhide HA4).2 with ⟨rfl, _⟩ | ⟨g, _, _, rfl, hb, _⟩
            · simp [Value.ownBlock] at hk
            · simp [Value.ownBlock] at hk
              omega
          have nw : New w w' := (n4.alloc _).grown hgr (fun k hk hlt => by have := hge k hk; omega)
          have HO2 := hide hown'
          clear hown' hgr hrow e4 f1 f2 f3
          go_wp2_with fail
          go_roundw
          case rel =>
            refine ⟨i + 1, by go_num, by omega, ?_, nw⟩
            rw [unhide HRS, List.flatMap_append, unhide HRO]
            exact unhide HO2
          case measure => simp [intOf]; omega
        | false =>
          have hro : rowOf N ps X i = ⟨p.c.setup.ch, p.c.loc, p.c.rem, sumI64 (amts true true (X i)) 0, false⟩ := by unfold rowOf; rw [unhide HP]; simp only; rw [if_neg (by rw [unhide HB]; decide)]
          have HRO := hide hro
          clear hro
          go_wp2_with (with_reducible first | (first | refine' tw1 (ido ?_) ?_ | refine' tw2 (ido ?_) ?_); rotate_left | refine' tw3 (ido ?_) | rfl | apply tn | refine' tw4 ?_)
          refine (base_any p.l.en p.c _ ((unhide HC).toChR.new n4)).mono ?_
          rintro e wb ⟨rfl, nb⟩
          have n5 := n4.trans nb
          have hb5 := nb.old (unhide HHB) (fun h => h)
          have HA5 := hide (owns_new (unhide HA4) nb)
          clear nb HA4 HHB e4 f1 f2 f3
          have hbB := blk_alloc wb (.cells #[.int .u64 p.c.loc, .int .u64 p.c.rem] 59)
          have nB : New wb (wb.alloc (.cells #[.int .u64 p.c.loc, .int .u64 p.c.rem] 59)) := (Upd.refl _ _).alloc _
          have hkB : k ≠ wb.heap.size := by have := blk_lt hb5; omega
          go_upto_region 9 with (with_reducible first | (first | refine' tw1 (ido ?_) ?_ | refine' tw2 (ido ?_) ?_); rotate_left | refine' tw3 (ido ?_) | rfl | apply tn | refine' tw4 ?_)
          replace hb5 := nB.old hb5 (fun h => h)
          replace n5 := n5.trans nB
          have HA6 := hide (owns_new (unhide HA5) nB)
          clear nB HA5
          generalize wb.alloc (.cells #[.int .u64 p.c.loc, .int .u64 p.c.rem] 59) = wB at hbB hb5 n5 HA6 ⊢
          generalize wb.heap.size = B at hbB hkB ⊢
          have g0 : wB.drew.cell? ⟨B, 0, none⟩ = some (.int .u64 p.c.loc) := blk_cell hbB 0
          have g1 : wB.drew.cell? ⟨B, 1, none⟩ = some (.int .u64 p.c.rem) := blk_cell hbB 1
          have u1 : Upd (· = k) wB (wB.setCell ⟨k, 1, none⟩ (.int .u64 p.c.loc)).drew := ((Upd.refl _ _).set1 1 _).drew
          have hb6 : (wB.setCell ⟨k, 1, none⟩ (.int .u64 p.c.loc)).drew.heap[k]? = _ := blk_set hb5 1 (.int .u64 p.c.loc)
          have g1' := u1.cell g1 (fun e => hkB e.symm)
          have u2 := u1.set1 2 (.int .u64 p.c.rem)
          have hb7 := blk_set hb6 2 (.int .u64 p.c.rem)
          have g1'' := u2.cell g1 (fun e => hkB e.symm)
          have e1 : wB.drew.cell? ⟨k, 1, none⟩ = some (.int .u64 0) := blk_cell hb5 1
          have f1 : wB.drew.frozen? ⟨k, 1, none⟩ = false := blk_free hb5 1
          have e2 : (wB.setCell ⟨k, 1, none⟩ (.int .u64 p.c.loc)).drew.cell? ⟨k, 2, none⟩ = some (.int .u64 0) := blk_cell hb6 2
          have f2 := blk_free hb6 2
          have HS := hide (And.intro u2 hb7)
          clear hb5 hb6 hb7 u1 u2 hbB
          refine wp_plan (fun w' => w'.cell? ⟨B, 1, none⟩ = some (.int .u64 p.c.rem)) [3] (.of [0, 1, 2, 3, 4, 5, 6, 7]) (by kernel_rfl) (by kernel_rfl) g1 ?_
          simp only [Plan.of]
          go_wp2_with (with_reducible first | (first | refine' qw1 (ido ?_) ?_ | refine' qw2 (ido ?_) ?_ | refine' qw3 (ido ?_) ?_); rotate_left | refine' qw4 (ido ?_) | refine' qw5 (ido ?_) | rfl | apply qn)
          refine ⟨g1', ?_⟩
          generalize (wB.setCell ⟨k, 1, none⟩ (.int .u64 p.c.loc)).drew = wC at g1' g1'' e2 f2 HS ⊢
          go_wp2_with (with_reducible first | (first | refine' qw1 (ido ?_) ?_ | refine' qw2 (ido ?_) ?_ | refine' qw3 (ido ?_) ?_); rotate_left | refine' qw4 (ido ?_) | refine' qw5 (ido ?_) | rfl | apply qn)
          first | refine ⟨g1'', ?_⟩ | skip
          obtain ⟨u7, hb7⟩ := unhide HS
          have n7 : New w (wC.setCell ⟨k, 2, none⟩ (.int .u64 p.c.rem)) := n5.then u7 (fun i hi e => by omega)
          have hbx : (wC.setCell ⟨k, 2, none⟩ (.int .u64 p.c.rem)).heap[k]? = some (.cells (RowV.cells ⟨p.c.setup.ch, p.c.loc, p.c.rem, 0, false⟩).toArray 87 (0, 0)) := hb7
          have HA7 := hide (row_upd (unhide HA6) u7 (fun j hj e => by have := unhide HLT j hj; omega))
          clear HS u7 hb7 g1 g1' e1 e2 f1 f2 g0 HA6 n5
          generalize wC.setCell ⟨k, 2, none⟩ (.int .u64 p.c.rem) = wD at n7 hbx HA7 g1'' ⊢
          go_wp2_with (first | (with_reducible apply qn) | fail)
          refine (amounts_any p.l.en p.c (X i) true true (hXl i) _ ((unhide HC).new n7)).mono ?_
          rintro e w5 ⟨v, rfl, hv, n5⟩
          replace hbx := n5.old hbx (fun h => h)
          have HA8 := hide (owns_new (unhide HA7) n5)
          have n5 := n7.trans n5
          have hsum := nsum_any v _ w5 hv (by have := List.length_filterMap_le (amtOf true true) (X i); have := hXl i; unfold amts; omega) (fun a ha => by
            obtain ⟨x, hx, hax⟩ := List.mem_filterMap.1 ha
            unfold amtOf at hax
            split at hax
            · injection hax with hax
              subst hax
              have := (hXx i x hx).h.amount
              omega
            · cases hax)
          clear hv n7 g1'' HA7
          generalize sumI64 (amts true true (X i)) 0 = S at *
          go_wp2_with (with_reducible first | (first | refine' tw1 (ido ?_) ?_ | refine' tw2 (ido ?_) ?_); rotate_left | refine' tw3 (ido ?_) | rfl | apply tn | refine' tw4 ?_)
          refine hsum.mono ?_
          rintro e w6 ⟨rfl, q6⟩
          replace hbx := q6.old hbx
          have HA9 := hide (owns_new (unhide HA8) (q6.upd _))
          have n6 := n5.trans (q6.upd _)
          clear q6 hsum n5 HA8
          have e3 : w6.cell? ⟨k, 3, none⟩ = some (.int .u64 0) := blk_cell hbx 3
          have f3 := blk_free hbx 3
          have u6 : Upd (· = k) w6 (w6.setCell ⟨k, 3, none⟩ (.int .u64 S)) := (Upd.refl _ _).set1 3 _
          have hbz : (w6.setCell ⟨k, 3, none⟩ (.int .u64 S)).heap[k]? = some (.cells (RowV.cells ⟨p.c.setup.ch, p.c.loc, p.c.rem, S, false⟩).toArray 87 (0, 0)) := blk_set hbx 3 _
          have n7 : New w (w6.setCell ⟨k, 3, none⟩ (.int .u64 S)) := n6.then u6 (fun i hi e => by omega)
          have HA10 := hide (row_upd (unhide HA9) u6 (fun j hj e => by have := unhide HLT j hj; omega))
          have HBZ := hide hbz
          have hrow := rowN_whole hbz 5 rfl
          clear hbx n6 u6 HA9 hbz
          go_upto_region 11 with fail
          generalize w6.setCell ⟨k, 3, none⟩ (.int .u64 S) = w7 at n7 HA10 HBZ hrow ⊢
          go_wp2_with (at_builtin; refine wpList_append_own _ rfl (.tmp 48) (.tmp 50) 88 rfl w.heap.size 87 i9 _ 5 b9 Tryz.underlying88 hi9 hz9 hz0 hz1 hz2 (by decide) _ _ _ rfl ((unhide HA10).alloc _) ⟨w7.heap.size, 0, none⟩ 1 1 (RowV.cells ⟨p.c.setup.ch, p.c.loc, p.c.rem, S, false⟩) rfl rfl ?c1 ?c2 ?c3 ?c4 ?c5 ?_)
          case c1 => exact World.news_of_block (cs := (RowV.cells ⟨p.c.setup.ch, p.c.loc, p.c.rem, S, false⟩).toArray) (fr := (0, 0)) (heap_alloc_new w7 _)
          case c2 => exact RowV.one _
          case c3 => unfold maxLen; omega
          case c4 => have := Nat.mul_le_mul (show i + 1 ≤ 8 by omega) hb9; omega
          case c5 => have := n7.size; simp; omega
          intro v' w' hown' hgr _
          have hge : ∀ k, Value.ownBlock u3 = some k → w.heap.size ≤ k := by
            intro k hk
            rcases (unhide HA10).2 with ⟨rfl, _⟩ | ⟨g, _, _, rfl, hb, _⟩
            · simp [Value.ownBlock] at hk
            · simp [Value.ownBlock] at hk
              omega
          have nw : New w w' := (n7.alloc _).grown hgr (fun k hk hlt => by have := hge k hk; omega)
          have HO2 := hide hown'
          clear hown' hgr hrow e3 f3
          go_wp2_with fail
          go_roundw
          case rel =>
            refine ⟨i + 1, by go_num, by omega, ?_, nw⟩
            rw [unhide HRS, List.flatMap_append, unhide HRO]
            exact unhide HO2
          case measure => simp [intOf]; omega
    · obtain rfl : i = ps.length := by omega
      clear h hX c0 hA
      go_wp2_with (with_reducible first | (first | refine' tw1 (ido ?_) ?_ | refine' tw2 (ido ?_) ?_); rotate_left | refine' tw3 (ido ?_) | rfl | apply tn | refine' tw4 ?_)
      go_ret
      exact ⟨_, rfl, unhide HA, nr⟩

end Go.Proofs.YtfmkdoachjgjbaaGreatDoor
