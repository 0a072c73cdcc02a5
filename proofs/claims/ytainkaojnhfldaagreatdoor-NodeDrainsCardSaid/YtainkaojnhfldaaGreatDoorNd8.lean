/-
  A node's readings: Many, Link, Channel, Funds, sum, amounts.
-/
import Derived.Test.YtainkaojnhfldaaGreatDoorNd7
import Derived.Test.YtainkaojnhfldaaGreatDoorMba
import Derived.Deep.Onto
set_option linter.unusedVariables false
set_option linter.unusedSimpArgs false
namespace Go.Proofs.YtainkaojnhfldaaGreatDoor
open Go.RowKit

set_option maxHeartbeats 1000000 in
theorem many_any (r : Nat) (R : RelV) (ps : List PeerV) (w : World) (h : RelI w r R ps) :
    Calls Tryz.prog 33 #[.pointer (some ⟨r, 0, none⟩)] w (Reads (.int .i64 ps.length) w) := by
  have c1 : w.cell? ⟨r, 1, none⟩ = some R.peers := blk_cell h.at_ 1
  obtain ⟨a, cap, hsh⟩ := h.shape
  rw [hsh] at c1
  clear h
  go_enter Tryz.func33, Tryz.ntmps33
  go_wp2_with fail
  go_ret
  exact ⟨rfl, Q.refl _⟩
set_option maxHeartbeats 1000000 in
theorem link_at (r : Nat) (R : RelV) (ps : List PeerV) (w : World) (h : RelI w r R ps) (hl : ps.length ≤ 1048576) (i : Nat) (p : PeerV) (hp : ps[i]? = some p) :
    Calls Tryz.prog 25 #[.pointer (some ⟨r, 0, none⟩), .int .i64 i] w (Reads (.pointer (some ⟨p.lk, 0, none⟩)) w) := by
  have c1 : w.cell? ⟨r, 1, none⟩ = some R.peers := blk_cell h.at_ 1
  have hlt := (List.getElem?_eq_some_iff.1 hp).1
  have hrow := owns_row PeerV.cells 2 PeerV.len h.row rfl
  rcases hrow with ⟨e, e0⟩ | ⟨g, cap, e, -, -, hcell⟩
  · rw [e0] at hlt; simp at hlt
  rw [e] at c1
  have d1 : w.cell? ⟨g, i * 2 + 1, none⟩ = some (.pointer (some ⟨p.lk, 0, none⟩)) := hcell i 1 p hp (by omega)
  have hi : (i : Int) < (ps.length : Int) := by omega
  have hi' : ¬ (ps.length : Int) ≤ (i : Int) := by omega
  have h0 : ¬ (i : Int) < 0 := by omega
  clear h hcell hp
  go_enter Tryz.func25, Tryz.ntmps25
  go_wp2_with fail
  go_ret
  exact ⟨rfl, Q.refl _⟩
set_option maxHeartbeats 1000000 in
theorem chan_any (g : Nat) (l : LinkV) (w : World) (h : LkR w g l) :
    Calls Tryz.prog 18 #[.pointer (some ⟨g, 0, none⟩)] w (Reads (.pointer (some ⟨l.en, 0, none⟩)) w) := by
  have c1 : w.cell? ⟨g, 1, none⟩ = some (.pointer (some ⟨l.en, 0, none⟩)) := blk_cell h 1
  clear h
  go_enter Tryz.func18, Tryz.ntmps18
  go_wp2_with fail
  go_ret
  exact ⟨rfl, Q.refl _⟩
set_option maxHeartbeats 1000000 in
theorem funds_any (g : Nat) (N : NodeV) (w : World) (h : NoR w g N) :
    Calls Tryz.prog 22 #[.pointer (some ⟨g, 0, none⟩)] w (Reads (.int .u64 N.funds) w) := by
  have c1 : w.cell? ⟨g, 1, none⟩ = some (.int .u64 N.funds) := blk_cell h 1
  clear h
  go_enter Tryz.func22, Tryz.ntmps22
  go_wp2_with fail
  go_ret
  exact ⟨rfl, Q.refl _⟩

/-- A row of amounts. -/
def Amts (w : World) (v : Value) (l : List Int) : Prop := w.ownsRow 0 25 1 v l.length (l.map (Value.int .u64))
def AmtsB (B : Nat) (w : World) (v : Value) (l : List Int) : Prop := w.ownsRow B 25 1 v l.length (l.map (Value.int .u64))
def sumI64 (l : List Int) (a : Int) : Int := l.foldl (fun a x => IntKind.u64.wrap (a + x)) a
set_option maxHeartbeats 1000000 in
theorem nsum_any (v : Value) (l : List Int) (w : World) (h : Amts w v l) (hl : l.length ≤ 1048576) (hx : ∀ x ∈ l, 0 ≤ x ∧ x < 18446744073709551616) :
    Calls Tryz.prog 36 #[v] w (Reads (.int .u64 (sumI64 l 0)) w) := by
  have hshape : ∃ a cap, v = .slice a l.length cap ∧ (∀ i x, l[i]? = some x → ∃ g, a = some ⟨g, 0, none⟩ ∧ w.cell? ⟨g, i, none⟩ = some (.int .u64 x)) := by
    rcases h.2 with ⟨e, e0⟩ | ⟨g, cap, cur, e, -, hg, hc, -, hs, ht⟩
    · have : l = [] := List.length_eq_zero_iff.1 e0
      subst this
      exact ⟨none, 0, e, fun i x h => by simp at h⟩
    · refine ⟨_, cap, e, fun i x hi => ⟨g, rfl, ?_⟩⟩
      have hlt := (List.getElem?_eq_some_iff.1 hi).1
      rw [blk_cell hg, ← Array.getElem?_toList]
      have h1 : (cur.toList.take (l.length * 1))[i]? = (l.map (Value.int .u64))[i]? := by rw [ht]
      rw [List.getElem?_take_of_lt (by omega), List.getElem?_map, hi] at h1
      exact h1
  obtain ⟨a, cap, rfl, hcell⟩ := hshape
  clear h
  have hll : (l.length : Int) ≤ 1048576 := by omega
  go_enter Tryz.func36, Tryz.ntmps36
  go_wp2_with fail
  obtain ⟨wo, rfl⟩ : ∃ wo : World, wo = w := ⟨_, rfl⟩
  go_loopw [3, 8] (fun sv iv wr => ∃ i : Nat, iv = .int .i64 (i : Int) ∧ i ≤ l.length ∧ sv = .int .u64 (sumI64 (l.take i) 0) ∧ wr = wo) (fun _ iv _ => l.length - (intOf iv).toNat)
  case atStart => exact ⟨0, rfl, Nat.zero_le _, rfl, rfl⟩
  case round =>
    obtain ⟨i, rfl, hi, rfl, rfl⟩ := hrel
    by_cases hlt : i < l.length
    · obtain ⟨x, hxx⟩ : ∃ x, l[i]? = some x := ⟨_, List.getElem?_eq_getElem hlt⟩
      obtain ⟨g, rfl, hc⟩ := hcell i x hxx
      have hi0 : (i : Int) < (l.length : Int) := by omega
      have hs : sumI64 (l.take (i + 1)) 0 = IntKind.u64.wrap (sumI64 (l.take i) 0 + x) := by
        rw [List.take_add_one, hxx]
        simp [sumI64]
      have HS := hide hs
      clear hs hcell hxx
      generalize sumI64 (l.take i) 0 = A at *
      go_wp2_with fail
      go_roundw
      case rel => exact ⟨i + 1, by go_num, by omega, by rw [unhide HS, IntKind.wrap_u64], trivial⟩
      case measure => simp [intOf]; omega
    · obtain rfl : i = l.length := by omega
      rw [List.take_length]
      generalize hA : sumI64 l 0 = A
      clear hcell
      go_wp2_with fail
      go_ret
      exact ⟨by rw [hA]; rfl, Q.refl _⟩

def amtOf (ours rest : Bool) (x : Live) : Option Int := if ((x.own || x.paid) && ours) || (!(x.own || x.paid) && rest) then some x.h.amount else none
def amts (ours rest : Bool) (xs : List Live) : List Int := xs.filterMap (amtOf ours rest)
theorem Tryz.infoU64 : (Tryz.prog.info? 25).map (fun i => (i.size, i.bytes, i.zero)) = some (1, 8, some (.int .u64 0)) := by kernel_rfl
theorem u64_info : ∃ i z, Tryz.prog.info? 25 = some i ∧ i.zero = some z ∧ i.size = 1 ∧ i.bytes = 8 ∧ z.cells.size = 1 := by
  have h := Tryz.infoU64
  cases hi : Tryz.prog.info? 25 with
  | none => rw [hi] at h; simp at h
  | some i =>
    rw [hi] at h
    simp only [Option.map_some, Option.some.injEq, Prod.mk.injEq] at h
    exact ⟨i, _, rfl, h.2.2, h.1, h.2.1, rfl⟩
attribute [local go_sem ↓ high] ld_live_fold st_live_fold al_live_fold
attribute [local go_sem] ld_live st_live al_live rowN_drew
set_option maxRecDepth 100000 in
set_option maxHeartbeats 4000000 in
theorem amounts_any (g : Nat) (c : ChanV) (xs : List Live) (ours rest : Bool) (hl : xs.length ≤ 1000000) (w : World) (h : ChI w g c xs) :
    Calls Tryz.prog 37 #[.pointer (some ⟨g, 0, none⟩), .bool ours, .bool rest] w fun e w' => ∃ v, e = .returned v ∧ Amts w' v (amts ours rest xs) ∧ New w w' := by
  go_enter Tryz.func37, Tryz.ntmps37
  go_wp2_with fail
  refine (live_any g c xs (by omega) w h).mono ?_
  rintro e w1 ⟨u, rfl, n1, hu⟩
  have hsh : ∃ (a : Option Addr) (cap : Nat), u = .slice a xs.length cap ∧ ∀ (i : Nat) (x : Live), xs[i]? = some x → ∃ g', a = some ⟨g', 0, none⟩ ∧ HeldO w1 g' 0 xs := by
    rcases hu with ⟨a, k, rfl, rfl⟩ | ⟨g', cap, rfl, -, hh⟩
    · exact ⟨a, k, rfl, fun i x h => by simp at h⟩
    · exact ⟨_, cap, rfl, fun i x h => ⟨g', rfl, hh⟩⟩
  obtain ⟨a, cap, rfl, hcell⟩ := hsh
  clear hu h
  have hll : (xs.length : Int) ≤ 1000000 := by omega
  obtain ⟨i9, z9, hi9, hz9, hz0, hz1, hz2⟩ := u64_info
  obtain ⟨wo, rfl⟩ : ∃ wo : World, wo = w1 := ⟨_, rfl⟩
  go_wp2_with fail
  go_loopw [7, 9, 10, 14] (fun sv _ _ iv wr => ∃ i : Nat, iv = .int .i64 (i : Int) ∧ i ≤ xs.length ∧ AmtsB wo.heap.size wr sv (amts ours rest (xs.take i)) ∧ New w wr ∧ New wo wr) (fun _ _ _ iv _ => xs.length - (intOf iv).toNat)
  case atStart => exact ⟨0, rfl, Nat.zero_le _, ⟨rfl, .inl ⟨rfl, rfl⟩⟩, n1, Upd.refl _ _⟩
  case round =>
    obtain ⟨i, rfl, hi, hA, nr, nwr⟩ := hrel
    obtain ⟨wq, rfl⟩ : ∃ wq : World, wq = wr := ⟨_, rfl⟩
    by_cases hlt : i < xs.length
    · obtain ⟨x, hxx⟩ : ∃ x, xs[i]? = some x := ⟨_, List.getElem?_eq_getElem hlt⟩
      obtain ⟨g', rfl, hh⟩ := hcell i x hxx
      have hrow := (hh.upd nwr (fun h => h)).row hxx
      rw [Nat.zero_add] at hrow
      have hi0 : (i : Int) < (xs.length : Int) := by omega
      have hst := stOk_live wq x
      have hlaid := laid_live wq x
      have hlx : (amts ours rest (xs.take (i + 1))) = amts ours rest (xs.take i) ++ (match amtOf ours rest x with | some a => [a] | none => []) := by
        rw [List.take_add_one, hxx]
        unfold amts
        rw [List.filterMap_append]
        cases hax : amtOf ours rest x <;> simp [hax]
      have HL := hide hlx
      have HA := hide hA
      clear hlx hxx hh hcell hA
      go_upto_region 5 with fail
      obtain ⟨hb, nb⟩ := hlaid
      generalize (wq.alloc (.cells (liveCells Live.zero).toArray 128)).setCells wq.heap.size 0 (liveCells x) = wb at hb nb ⊢
      have d35 : wb.cell? ⟨wq.heap.size, 35, none⟩ = some (.bool x.own) := by rw [blk_cell hb, List.getElem?_toArray]; exact live_35 x
      have d37 : wb.cell? ⟨wq.heap.size, 37, none⟩ = some (.bool x.paid) := by rw [blk_cell hb, List.getElem?_toArray]; exact live_37 x
      have d1 : wb.cell? ⟨wq.heap.size, 1, none⟩ = some (.int .u64 x.h.amount) := by rw [blk_cell hb, List.getElem?_toArray]; exact live_1 x
      have hown : wb.ownsRow wo.heap.size 25 1 u7 (amts ours rest (xs.take i)).length ((amts ours rest (xs.take i)).map (Value.int .u64)) := owns_new (unhide HA) nb
      have hle : (amts ours rest (xs.take i)).length ≤ 1000000 := by
        have := List.length_filterMap_le (amtOf ours rest) (xs.take i)
        rw [List.length_take] at this
        unfold amts
        omega
      replace nr := nr.trans nb
      replace nwr := nwr.trans nb
      have HO := hide hown
      have HLE := hide hle
      clear hst hrow hb nb HA hown hle
      cases ho : x.own <;> cases hp : x.paid <;> cases ours <;> cases rest
      all_goals
        have hax := HL
        unfold amtOf at hax
        rw [ho, hp] at hax
        rw [ho] at d35
        rw [hp] at d37
        simp only [Bool.or_true, Bool.or_false, Bool.true_and, Bool.false_and, Bool.and_true, Bool.and_false, Bool.not_true, Bool.not_false, Bool.false_eq_true, if_true, if_false, List.append_nil] at hax
        go_wp2_with (at_builtin; refine wpList_append_own _ rfl (.tmp 35) (.tmp 39) 78 rfl wo.heap.size 25 i9 _ 1 8 Tryz.underlying78 hi9 hz9 hz0 hz1 hz2 (by decide) _ _ _ rfl ((unhide HO).alloc _) ⟨wb.heap.size, 0, none⟩ 1 1 [.int .u64 x.h.amount] rfl rfl ?c1 ?c2 ?c3 ?c4 ?c5 ?_)
        first
        | (go_roundw
           case rel =>
             refine ⟨i + 1, by go_num, by omega, ?_, nr, nwr⟩
             rw [unhide hax]
             exact unhide HO
           case measure => simp [intOf]; omega)
        | (case c1 => exact cell_one_new _ _ _
           case c2 => intro u hu; simp at hu; subst hu; rfl
           case c3 => have := unhide HLE; unfold maxLen; omega
           case c4 => have := unhide HLE; omega
           case c5 => have := nwr.size; simp; omega
           intro v' w' hown' hg _
           have hge : ∀ k, Value.ownBlock u7 = some k → wo.heap.size ≤ k := by
             intro k hk
             rcases (unhide HO).2 with ⟨rfl, _⟩ | ⟨g, _, _, rfl, hb, _⟩
             · simp [Value.ownBlock] at hk
             · simp [Value.ownBlock] at hk
               omega
           have nw : New wo w' := (nwr.alloc _).grown hg (fun k hk hlt => by have := hge k hk; omega)
           have nww : New w w' := n1.then nw (fun _ _ h => h)
           have HO2 := hide hown'
           clear hown' hg
           go_wp2_with fail
           go_roundw
           case rel =>
             refine ⟨i + 1, by go_num, by omega, ?_, nww, nw⟩
             rw [unhide hax]
             unfold AmtsB
             rw [List.length_append, List.map_append]
             exact unhide HO2
           case measure => simp [intOf]; omega)
    · obtain rfl : i = xs.length := by omega
      rw [List.take_length] at hA
      have HA := hide hA
      clear hA hcell
      go_wp2_with fail
      go_ret
      exact ⟨_, rfl, (unhide HA).mono (Nat.zero_le _), nr⟩

end Go.Proofs.YtainkaojnhfldaaGreatDoor
