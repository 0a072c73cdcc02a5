/-
  A link hears what is no message.
-/
import Derived.Test.YtfmkdoachjgjbaaGreatDoorMdg
import Derived.Test.YtfmkdoachjgjbaaGreatDoorMdj
import Derived.Test.YtfmkdoachjgjbaaGreatDoorMda
import Derived.Test.YtfmkdoachjgjbaaGreatDoorMcb
set_option linter.unusedVariables false
set_option linter.unusedSimpArgs false
namespace Go.Proofs.YtfmkdoachjgjbaaGreatDoor
open Go.RowKit

theorem decL_len (s : ByteArray) : (decL s).1.hash.length = 32 := by
  have hb := bt_bd s 0
  unfold decL
  split
  · exact z32i_len
  · split
    · exact z32i_len
    · split
      · exact z32i_len
      · rename_i h
        split
        · exact z32i_len
        · split
          · exact (getL_ok _ _ _ (kindMsg_ok ⟨by omega, by omega⟩) h).1.len
          · exact z32i_len
attribute [local go_sem ↓ high] ld_msg_fold st_msg_fold al_msg_fold bd_msg_fold
attribute [local go_sem] ld_msg st_msg al_msg rowN_drew
set_option maxRecDepth 100000 in
set_option maxHeartbeats 1000000 in
theorem lhear_bad (g : Nat) (text : ByteArray) (w : World) (her : ((decL text).2 != 0) = true) :
    Calls Tryz.prog 65 #[.pointer (some ⟨g, 0, none⟩), .string text] w fun e w' => e = .returned (.int .i64 (decL text).2) ∧ New w w' := by
  have hmf : ∀ (fn : Fn) (first cap : Array Value) (w : World), (Instr.makeFunc fn first cap).run Tryz.prog w = .ok (.func fn first cap) w := fun _ _ _ _ => rfl
  have hD := fun W => decode_any text W
  have hml := decL_len text
  generalize (decL text).2 = er at *
  generalize (decL text).1 = m at *
  go_enter Tryz.func65, Tryz.ntmps65
  go_upto_region 1 with fail
  have n0 : New w (w.alloc (.cells #[.pointer (some ⟨g, 0, none⟩)] 28)) := (Upd.refl _ _).alloc _
  generalize w.alloc (.cells #[.pointer (some ⟨g, 0, none⟩)] 28) = w0 at n0 ⊢
  generalize w.heap.size = PL
  have N0 := hide n0
  clear n0
  go_wp2_with fail
  refine (hD w0).mono ?_
  rintro e w1 ⟨rfl, n1⟩
  obtain ⟨hst, hMb, nM⟩ := ms_fresh w1 m hml
  have N1 := hide (((unhide N0).trans n1).trans nM)
  clear n1 hD N0 nM hMb
  go_upto_region 2 with fail
  change Code.wp _ _ _ _ (msNew w1 m)
  generalize msNew w1 m = w2 at N1 ⊢
  generalize w1.heap.size = M at hst ⊢
  clear hst
  go_wp2_with fail
  go_ret
  exact ⟨rfl, unhide N1⟩
set_option maxRecDepth 100000 in
set_option maxHeartbeats 2000000 in
/-- The bytes of just one frame, whose text is no message. -/
theorem lbytes_bad (g : Nat) (S : Nat → Prop) (l : Lk) (s t : ByteArray) (er : Int) (w : World) (h : LkS w g S l) (hdd : l.dead = false) (hb : l.broken = false) (hr : l.rest = ⟨#[]⟩) (hsz : s.size ≤ 100000) (hR : Ready s) (ht : (s.extract 0 (2 + hd s).toNat).extract 2 (2 + hd s).toNat = t) (hz : (s.extract (2 + hd s).toNat s.size) = ⟨#[]⟩) (her : (er != 0) = true)
    (hH : ∀ W, Calls Tryz.prog 65 #[.pointer (some ⟨g, 0, none⟩), .string t] W fun e W' => e = .returned (.int .i64 er) ∧ New W W') :
    Calls Tryz.prog 24 #[.pointer (some ⟨g, 0, none⟩), .string s] w fun e w' => e = .returned (.int .i64 er) ∧ LkS w' g S { l with broken := true } ∧ Upd S w w' := by
  obtain ⟨sp, en, lo, SC, SJ, h⟩ := h
  have hspl : Spl w sp ⟨#[]⟩ := hr ▸ h.spl
  have c0 : w.cell? ⟨g, 0, none⟩ = some (.pointer (some ⟨sp, 0, none⟩)) := blk_cell h.at_ 0
  have c6 : w.cell? ⟨g, 6, none⟩ = some (.bool false) := hdd ▸ blk_cell h.at_ 6
  have c7 : w.cell? ⟨g, 7, none⟩ = some (.bool false) := hb ▸ blk_cell h.at_ 7
  have hnb : badB (⟨#[]⟩ : ByteArray) = false := rfl
  have e0 : (⟨#[]⟩ : ByteArray) ++ s = s := ByteArray.empty_append
  have HP := hide h
  clear h hdd hb
  go_enter Tryz.func24, Tryz.ntmps24
  go_wp2_with fail
  refine (bad_false sp _ w hspl.cell hnb).mono ?_
  rintro e w1 ⟨rfl, q1⟩
  have hp := push_ok sp _ s w1 (hspl.q q1) hnb (by show 0 + s.size ≤ _; omega)
  rw [e0] at hp
  have d0 := q1.cell c0
  have HP1 := hide ((unhide HP).new (q1.upd _))
  have U1 := hide (q1.upd (fun _ => False))
  clear q1 hspl c0 c6 c7
  go_wp2_with fail
  refine hp.mono ?_
  rintro e w2 ⟨rfl, u2, s2⟩
  have hn := next_ready sp s w2 s2 hR
  rw [ht, hz] at hn
  have hP2 := (unhide HP1).split u2 s2
  have d2 := u2.cell d0 (unhide HP1).ne
  have HP2 := hide hP2
  have U2 := hide (((unhide U1).mono (fun _ _ h => h.elim)).trans u2)
  clear hp u2 s2 hP2 d0 HP1 U1
  go_wp2_with fail
  refine hn.mono ?_
  rintro e w3 ⟨rfl, u3, s3⟩
  have hP3 : LkP w3 g S l sp en lo SC SJ := by
    have := (unhide HP2).split u3 s3
    rw [← hr] at this
    exact this
  have U3 := hide (show Upd S w w3 from ((unhide U2).trans u3).mono (fun k _ e => by have e : k = sp := e; rw [e]; exact hP3.inS))
  have HP3 := hide hP3
  clear hn u3 s3 hP3 d2 HP2 U2
  go_wp2_with fail
  go_loopw [5, 6, 7] (fun tv bv ev wr => tv = .string t ∧ bv = .bool true ∧ wr = w3) (fun _ _ _ _ => 0)
  case atStart => exact ⟨rfl, rfl, rfl⟩
  case round =>
    obtain ⟨rfl, rfl, rfl⟩ := hrel
    have hh := hH wr
    clear hH
    go_wp2_with fail
    refine hh.mono ?_
    rintro e w4 ⟨rfl, n4⟩
    have h4 := (unhide HP3).new n4
    have f7 := blk_free h4.at_ 7
    have d7 : w4.cell? ⟨g, 7, none⟩ = some (.bool l.broken) := blk_cell h4.at_ 7
    have u5 : Upd (· = g) w4 (w4.setCell ⟨g, 7, none⟩ (.bool true)) := (Upd.refl _ _).set1 _ _
    have h5 : LkP (w4.setCell ⟨g, 7, none⟩ (.bool true)) g S { l with broken := true } sp en lo SC SJ := h4.put rfl rfl rfl rfl
    have H5 := hide (And.intro h5 (((unhide U3).trans (n4.mono (fun _ _ h => h.elim))).trans (u5.mono (fun k _ e => by have e : k = g := e; rw [e]; exact h4.inG))))
    clear hh n4 h4 u5 h5
    go_wp2_with fail
    go_ret
    exact ⟨rfl, ⟨sp, en, lo, SC, SJ, (unhide H5).1⟩, (unhide H5).2⟩
set_option maxRecDepth 100000 in
set_option maxHeartbeats 1000000 in
theorem lbytes_broken (g : Nat) (S : Nat → Prop) (l : Lk) (s : ByteArray) (w : World) (h : LkS w g S l) (hdd : l.dead = false) (hb : l.broken = true) :
    Calls Tryz.prog 24 #[.pointer (some ⟨g, 0, none⟩), .string s] w (Reads (.int .i64 5) w) := by
  obtain ⟨sp, en, lo, SC, SJ, h⟩ := h
  have c6 : w.cell? ⟨g, 6, none⟩ = some (.bool false) := hdd ▸ blk_cell h.at_ 6
  have c7 : w.cell? ⟨g, 7, none⟩ = some (.bool true) := hb ▸ blk_cell h.at_ 7
  clear h
  go_enter Tryz.func24, Tryz.ntmps24
  go_wp2_with fail
  go_ret
  exact ⟨rfl, Q.refl _⟩
set_option maxRecDepth 100000 in
set_option maxHeartbeats 1000000 in
theorem lbytes_cap (g : Nat) (S : Nat → Prop) (l : Lk) (s : ByteArray) (w : World) (h : LkS w g S l) (hdd : l.dead = false) (hb : l.broken = false) (hr : badB l.rest = true) :
    Calls Tryz.prog 24 #[.pointer (some ⟨g, 0, none⟩), .string s] w (Reads (.int .i64 80) w) := by
  obtain ⟨sp, en, lo, SC, SJ, h⟩ := h
  have hspl : Spl w sp l.rest := h.spl
  have c0 : w.cell? ⟨g, 0, none⟩ = some (.pointer (some ⟨sp, 0, none⟩)) := blk_cell h.at_ 0
  have c6 : w.cell? ⟨g, 6, none⟩ = some (.bool false) := hdd ▸ blk_cell h.at_ 6
  have c7 : w.cell? ⟨g, 7, none⟩ = some (.bool false) := hb ▸ blk_cell h.at_ 7
  clear h
  go_enter Tryz.func24, Tryz.ntmps24
  go_wp2_with fail
  refine (bad_true sp _ w hspl.cell hr).mono ?_
  rintro e w1 ⟨rfl, q1⟩
  clear c0 c6 c7 hspl
  go_wp2_with fail
  go_ret
  exact ⟨rfl, q1⟩
set_option maxRecDepth 100000 in
set_option maxHeartbeats 2000000 in
/-- Bytes that hold no frame. -/
theorem lbytes_none (g : Nat) (S : Nat → Prop) (l : Lk) (s : ByteArray) (w : World) (h : LkS w g S l) (hdd : l.dead = false) (hb : l.broken = false) (hr : l.rest = ⟨#[]⟩) (hsz : s.size ≤ 100000) (hR : ¬ Ready s) :
    Calls Tryz.prog 24 #[.pointer (some ⟨g, 0, none⟩), .string s] w fun e w' => e = .returned (.int .i64 (if badB s then 80 else 0)) ∧ LkS w' g S { l with rest := s } ∧ Upd S w w' := by
  obtain ⟨sp, en, lo, SC, SJ, h⟩ := h
  have hspl : Spl w sp ⟨#[]⟩ := hr ▸ h.spl
  have c0 : w.cell? ⟨g, 0, none⟩ = some (.pointer (some ⟨sp, 0, none⟩)) := blk_cell h.at_ 0
  have c6 : w.cell? ⟨g, 6, none⟩ = some (.bool false) := hdd ▸ blk_cell h.at_ 6
  have c7 : w.cell? ⟨g, 7, none⟩ = some (.bool false) := hb ▸ blk_cell h.at_ 7
  have hnb : badB (⟨#[]⟩ : ByteArray) = false := rfl
  have e0 : (⟨#[]⟩ : ByteArray) ++ s = s := ByteArray.empty_append
  have HP := hide h
  clear h hdd hb
  go_enter Tryz.func24, Tryz.ntmps24
  go_wp2_with fail
  refine (bad_false sp _ w hspl.cell hnb).mono ?_
  rintro e w1 ⟨rfl, q1⟩
  have hp := push_ok sp _ s w1 (hspl.q q1) hnb (by show 0 + s.size ≤ _; omega)
  rw [e0] at hp
  have d0 := q1.cell c0
  have HP1 := hide ((unhide HP).new (q1.upd _))
  have U1 := hide (q1.upd (fun _ => False))
  clear q1 hspl c0 c6 c7
  go_wp2_with fail
  refine hp.mono ?_
  rintro e w2 ⟨rfl, u2, s2⟩
  have hn := next_not sp s w2 s2 hR
  have hP2 := (unhide HP1).split u2 s2
  have d2 := u2.cell d0 (unhide HP1).ne
  have HP2 := hide hP2
  have U2 := hide (((unhide U1).mono (fun _ _ h => h.elim)).trans u2)
  clear hp u2 s2 hP2 d0 HP1 U1
  go_wp2_with fail
  refine hn.mono ?_
  rintro e w3 ⟨rfl, u3, s3⟩
  have hP3 : LkP w3 g S { l with rest := s } sp en lo SC SJ := (unhide HP2).split u3 s3
  have U3 := hide (show Upd S w w3 from ((unhide U2).trans u3).mono (fun k _ e => by have e : k = sp := e; rw [e]; exact hP3.inS))
  have HP3 := hide hP3
  have d3 : w3.cell? ⟨g, 0, none⟩ = some (.pointer (some ⟨sp, 0, none⟩)) := blk_cell hP3.at_ 0
  have hs3 : w3.cell? ⟨sp, 0, none⟩ = some (.string s) := s3.cell
  clear hn u3 s3 hP3 d2 HP2 U2
  go_wp2_with fail
  go_loopw [5, 6, 7] (fun tv bv ev wr => bv = .bool false ∧ wr = w3) (fun _ _ _ _ => 0)
  case atStart => exact ⟨rfl, rfl⟩
  case round =>
    obtain ⟨rfl, rfl⟩ := hrel
    cases hbd : badB s with
    | false =>
      have hq := bad_false sp s wr hs3 hbd
      go_wp2_with fail
      refine hq.mono ?_
      rintro e w5 ⟨rfl, q5⟩
      have H5 := hide (And.intro ((unhide HP3).new (q5.upd _)) ((unhide U3).trans (q5.upd _)))
      clear hq q5
      go_wp2_with fail
      all_goals
        go_ret
        exact ⟨rfl, ⟨sp, en, lo, SC, SJ, (unhide H5).1⟩, (unhide H5).2⟩
    | true =>
      have hq := bad_true sp s wr hs3 hbd
      go_wp2_with fail
      refine hq.mono ?_
      rintro e w5 ⟨rfl, q5⟩
      have H5 := hide (And.intro ((unhide HP3).new (q5.upd _)) ((unhide U3).trans (q5.upd _)))
      clear hq q5
      go_wp2_with fail
      all_goals
        go_ret
        exact ⟨rfl, ⟨sp, en, lo, SC, SJ, (unhide H5).1⟩, (unhide H5).2⟩
end Go.Proofs.YtfmkdoachjgjbaaGreatDoor
namespace Go.Proofs.YtfmkdoachjgjbaaGreatDoor
open Go.RowKit

attribute [local go_sem ↓ high] ld_msg_fold st_msg_fold al_msg_fold bd_msg_fold
attribute [local go_sem] ld_msg st_msg al_msg bd_msg_zero bd_msg_fail rowN_drew

def failMsg (id r : Int) : MsgV := ⟨5, 0, id, 0, z32i, 0, r⟩
/-- What Fail does: the end, what it says, its error. -/
def Ch.fail (c : Ch) (id r : Int) : Ch × MsgV × Int := match bothX false id c.xs with
  | none => (c, MsgV.zero, 3)
  | some p => if r < 0 ∨ 65535 < r then (c, MsgV.zero, 1) else ((c.removed p.1 p.2 false).say (failMsg id r), (failMsg id r).on c.s.ch, 0)

end Go.Proofs.YtfmkdoachjgjbaaGreatDoor
namespace Go.Proofs.YtfmkdoachjgjbaaGreatDoor
open Go.RowKit

attribute [local go_sem ↓ high] ld_hsh_fold st_hsh_fold al_hsh_fold bd_hsh_fold eq_hsh_fold
attribute [local go_sem] ld_hsh st_hsh al_hsh bd_hsh rowN_drew

def ofI (p : List Int) : List Int := sumI (strOfNums p)
def opensB (p h : List Int) : Bool := ofI p == h

end Go.Proofs.YtfmkdoachjgjbaaGreatDoor
namespace Go.Proofs.YtfmkdoachjgjbaaGreatDoor
open Go.RowKit

theorem rowN_part {w : World} {b o n : Nat} {A : Array Value} (h : rowN w b o n = some A) (i k : Nat) (hik : i + k ≤ n) : rowN w b (o + i) k = some (A.extract i (i + k)) := by
  unfold rowN at h ⊢
  cases hb : w.heap[b]? with
  | none => rw [hb] at h; cases h
  | some ob =>
    rw [hb] at h
    cases ob with
    | cells C T fz =>
      simp only at h ⊢
      split at h
      · injection h with h
        subst h
        rw [if_pos (by omega), Array.extract_extract]
        congr 2
        omega
      · cases h
    | _ => simp at h
theorem live_hash (x : Live) : (liveCells x).toArray.extract 2 (2 + 32) = (hshV x.h.hash.toList).toArray := by
  apply Array.ext'
  rw [Array.toList_extract]
  unfold liveCells htlcCells hshV
  simp
theorem ChP.hash {w : World} {g : Nat} {S : Nat → Prop} {c : Ch} {lv nv av : Value} (h : ChP w g S c lv nv av) {i : Nat} {x : Live} (hi : c.xs[i]? = some x) : ∃ gl cap, lv = .slice (some ⟨gl, 0, none⟩) c.xs.length cap ∧ rowN w gl (i * 38 + 2) 32 = some (hshV x.h.hash.toList).toArray := by
  have hlt := (List.getElem?_eq_some_iff.1 hi).1
  rcases (heldL_of_owns h.live).2 with ⟨e, e0⟩ | ⟨g', cap', e, -, hh⟩
  · rw [e0] at hlt; simp at hlt
  · refine ⟨g', cap', e, ?_⟩
    have := rowN_part (hh.row hi) 2 32 (by omega)
    rw [live_hash, Nat.zero_add] at this
    exact this
def Ch.hearFulfill (c : Ch) (m : MsgV) : Ch × Int := match bothX true m.id c.xs with
  | none => (c, 3)
  | some p => if opensB m.hash p.2.h.hash.toList = true then (c.removed p.1 p.2 true, 0) else (c, 132)
attribute [local go_sem ↓ high] ld_msg_fold st_msg_fold al_msg_fold bd_msg_fold ld_hsh_fold st_hsh_fold al_hsh_fold
attribute [local go_sem] ld_msg st_msg al_msg bd_msg_zero ld_hsh st_hsh al_hsh rowN_drew

end Go.Proofs.YtfmkdoachjgjbaaGreatDoor
namespace Go.Proofs.YtfmkdoachjgjbaaGreatDoor
open Go.RowKit

/-- What an end tells to a message (Again: see hearAgain), and becomes. -/
noncomputable def Ch.hear (c : Ch) (m : MsgV) : Ch × List MsgV × Int :=
  if mayMsg m = false ∨ m.ch ≠ c.s.ch then (c, [], 1)
  else if m.kind = 3 then ((c.hearAdd m).1, [], (c.hearAdd m).2)
  else if m.kind = 4 then ((c.hearFulfill m).1, [], (c.hearFulfill m).2)
  else if m.kind = 5 then ((c.hearFail m).1, [], (c.hearFail m).2)
  else if m.kind = 6 then c.hearSign m
  else if m.kind = 7 then ((c.hearRevoke m).1, [], (c.hearRevoke m).2)
  else (c.hearShut.1, [], c.hearShut.2)

/-- What a cut takes back of one that is live. -/
def cutStep (c : Ch) (x : Live) : Ch :=
  if x.state = 0 then (if x.own = true then { c.give true x.h.amount with k := { c.k with nextOwn := IntKind.u64.wrap (c.k.nextOwn - 1) } } else { c.give false x.h.amount with k := { c.k with nextTheirs := IntKind.u64.wrap (c.k.nextTheirs - 1) } }) else c
def cutLive (x : Live) : Live := if x.state = 5 then { x with state := 4, paid := false } else x
def cutL (xs : List Live) : List Live := (xs.filter fun x => !(x.state == 0)).map cutLive
def cutOffs (xs : List Live) : List Htlc := (xs.filter fun x => x.state == 0 && x.own).map (·.h)
def cutRems (xs : List Live) : List Int := (xs.filter fun x => x.state == 5 && !x.own).map (·.h.id)
def Ch.unsaid (c : Ch) (xs : List Live) : Ch := { c with xs := xs, news := [], k := { c.k with shutHeard := false } }
/-- What Cut makes of an end. -/
def Ch.cut (c : Ch) : Ch := (c.xs.foldl cutStep c).unsaid (cutL c.xs)
theorem cutL_take {xs : List Live} {i : Nat} {x : Live} (hi : xs[i]? = some x) : cutL (xs.take (i + 1)) = cutL (xs.take i) ++ (if x.state = 0 then [] else [cutLive x]) := by
  unfold cutL
  rw [List.take_add_one, hi, List.filter_append, List.map_append]
  by_cases h : x.state = 0 <;> simp [h]
theorem cutF_take {xs : List Live} {i : Nat} {x : Live} (c : Ch) (hi : xs[i]? = some x) : (xs.take (i + 1)).foldl cutStep c = cutStep ((xs.take i).foldl cutStep c) x := by
  rw [List.take_add_one, hi, List.foldl_append]
  rfl
theorem cutO_take {xs : List Live} {i : Nat} {x : Live} (hi : xs[i]? = some x) : cutOffs (xs.take (i + 1)) = cutOffs (xs.take i) ++ (if x.state = 0 ∧ x.own = true then [x.h] else []) := by
  unfold cutOffs
  rw [List.take_add_one, hi, List.filter_append, List.map_append]
  by_cases h : x.state = 0 <;> cases ho : x.own <;> simp [h, ho]
theorem cutR_take {xs : List Live} {i : Nat} {x : Live} (hi : xs[i]? = some x) : cutRems (xs.take (i + 1)) = cutRems (xs.take i) ++ (if x.state = 5 ∧ x.own = false then [x.h.id] else []) := by
  unfold cutRems
  rw [List.take_add_one, hi, List.filter_append, List.map_append]
  by_cases h : x.state = 5 <;> cases ho : x.own <;> simp [h, ho]
theorem cutL_len (xs : List Live) : (cutL xs).length ≤ xs.length := by
  unfold cutL
  rw [List.length_map]
  exact List.length_filter_le _ _
theorem cutO_len (xs : List Live) : (cutOffs xs).length ≤ xs.length := by
  unfold cutOffs
  rw [List.length_map]
  exact List.length_filter_le _ _
theorem cutR_len (xs : List Live) : (cutRems xs).length ≤ xs.length := by
  unfold cutRems
  rw [List.length_map]
  exact List.length_filter_le _ _
theorem cutLive_ok {x : Live} (h : LiveOk x) : LiveOk (cutLive x) := by
  unfold cutLive
  split
  · exact ⟨h.h, by show _ ≤ (4 : Int) ∧ (4 : Int) ≤ _; decide⟩
  · exact h
section
variable {w : World} {g : Nat} {S : Nat → Prop} {c : Ch} {lv nv av : Value}
theorem ChP.putNextOwn (h : ChP w g S c lv nv av) (n : Int) (hn : 0 ≤ n ∧ n < 18446744073709551616) : ChP (w.setCell ⟨g, 40, none⟩ (.int .u64 n)) g S { c with k := { c.k with nextOwn := n } } lv nv av :=
  h.put (set_nextOwn c lv nv av h.ok.s.seed n) ⟨h.ok.s, h.ok.signed, h.ok.heard, hn, h.ok.nextTheirs, h.ok.loc, h.ok.rem, h.ok.xs, h.ok.few, h.ok.shelf, h.ok.news, h.ok.last, h.ok.many⟩ rfl rfl rfl
theorem ChP.putNextTheirs (h : ChP w g S c lv nv av) (n : Int) (hn : 0 ≤ n ∧ n < 18446744073709551616) : ChP (w.setCell ⟨g, 41, none⟩ (.int .u64 n)) g S { c with k := { c.k with nextTheirs := n } } lv nv av :=
  h.put (set_nextTheirs c lv nv av h.ok.s.seed n) ⟨h.ok.s, h.ok.signed, h.ok.heard, h.ok.nextOwn, hn, h.ok.loc, h.ok.rem, h.ok.xs, h.ok.few, h.ok.shelf, h.ok.news, h.ok.last, h.ok.many⟩ rfl rfl rfl
end
theorem htl_info : ∃ i z b, Tryz.prog.info? 41 = some i ∧ i.zero = some z ∧ i.size = 35 ∧ i.bytes = b ∧ z.cells.size = 35 ∧ b ≤ 1000 := by
  obtain ⟨i, z, hi, hz, hc⟩ := zero_of Tryz.zeroHtlc'
  have hb : (Tryz.prog.info? 41).map (fun i => decide (i.bytes ≤ 1000)) = some true := by kernel_rfl
  have hs := Tryz.infoHtl
  rw [hi, Option.map_some, Option.some.injEq] at hb hs
  exact ⟨i, z, i.bytes, hi, hz, hs, rfl, by rw [hc]; rfl, of_decide_eq_true hb⟩
theorem Tryz.zeroU64 : ((Tryz.prog.info? 22).map fun i => i.zero.map fun z => z.cells.toList) = some (some [.int .u64 0]) := by kernel_rfl
theorem Tryz.infoU64c : (Tryz.prog.info? 22).map (·.size) = some 1 := by kernel_rfl
theorem u64_infoc : ∃ i z b, Tryz.prog.info? 22 = some i ∧ i.zero = some z ∧ i.size = 1 ∧ i.bytes = b ∧ z.cells.size = 1 ∧ b ≤ 1000 := by
  obtain ⟨i, z, hi, hz, hc⟩ := zero_of Tryz.zeroU64
  have hb : (Tryz.prog.info? 22).map (fun i => decide (i.bytes ≤ 1000)) = some true := by kernel_rfl
  have hs := Tryz.infoU64c
  rw [hi, Option.map_some, Option.some.injEq] at hb hs
  exact ⟨i, z, i.bytes, hi, hz, hs, rfl, by rw [hc]; rfl, of_decide_eq_true hb⟩
def bsHtl (n : Nat) (p : Array (Nat × Value)) : Sem Value := Instr.buildSlice 139 n p
theorem bs_htl_fold (n : Nat) (p : Array (Nat × Value)) : Instr.buildSlice 139 n p = bsHtl n p := rfl
theorem bs_htl (A : List Value) (w : World) : (bsHtl 1 #[(0, .agg A.toArray)]).run Tryz.prog w = if A.length = 35 then .ok (.slice (some ⟨w.heap.size, 0, none⟩) 1 1) (w.alloc (.cells A.toArray 41)) else (Instr.buildSlice 139 1 #[(0, .agg A.toArray)]).run Tryz.prog w := by
  by_cases h : A.length = 35
  · rw [if_pos h]; exact row_of Tryz.underlying139 Tryz.zeroHtlc' Tryz.infoHtl rfl (by decide) (by decide) A h w
  · rw [if_neg h]; rfl
theorem live_htl (x : Live) : (liveCells x).toArray.extract 0 (0 + 35) = (htlcCells x.h).toArray := by
  apply Array.ext'
  rw [Array.toList_extract]
  unfold liveCells
  rw [List.extract_eq_take_drop]
  simp [htlc_len]

/-- Where Cut's loop stands: the end, what is kept, what is lost (in block K). -/
structure CutS (w0 w : World) (g K R : Nat) (S : Nat → Prop) (ci : Ch) (lv nv av kv ov rv : Value) (ks : List Live) (os : List Htlc) (rs : List Int) : Prop where
  ch : ChP w g S ci lv nv av
  k : w.heap[K]? = some (.cells #[ov, rv] 141 (0, 0))
  r : w.heap[R]? = some (.cells #[.slice none 0 0, .slice none 0 0] 141 (0, 0))
  ko : w.ownsRow w0.heap.size 69 38 kv ks.length (ks.flatMap liveCells)
  oo : w.ownsRow w0.heap.size 41 35 ov os.length (os.flatMap htlcCells)
  ro : w.ownsRow w0.heap.size 22 1 rv rs.length (rs.map (Value.int .u64))
  u : Upd (· = g) w0 w
  lt : ∀ k, S k → k < w0.heap.size
  kge : w0.heap.size ≤ K
  rge : w0.heap.size ≤ R
  ne : R ≠ K
section
variable {w0 w w' : World} {g K R : Nat} {S : Nat → Prop} {ci cj : Ch} {lv nv av kv ov rv v : Value} {ks ks' : List Live} {os os' : List Htlc} {rs rs' : List Int}
theorem CutS.glt (h : CutS w0 w g K R S ci lv nv av kv ov rv ks os rs) : g < w0.heap.size := h.lt g h.ch.inG
theorem CutS.new (h : CutS w0 w g K R S ci lv nv av kv ov rv ks os rs) (n : New w w') : CutS w0 w' g K R S ci lv nv av kv ov rv ks os rs :=
  ⟨h.ch.new n, n.old h.k (fun h => h), n.old h.r (fun h => h), row_upd' h.ko n (fun _ _ h => h), row_upd' h.oo n (fun _ _ h => h), row_upd' h.ro n (fun _ _ h => h), h.u.trans (n.mono (fun _ _ h => h.elim)), h.lt, h.kge, h.rge, h.ne⟩
theorem CutS.op (h : CutS w0 w g K R S ci lv nv av kv ov rv ks os rs) (hc : ChP w' g S cj lv nv av) (u : Upd (· = g) w w') : CutS w0 w' g K R S cj lv nv av kv ov rv ks os rs := by
  have hg := h.glt
  have hge : ∀ {T : TypeId} {sz n : Nat} {v : Value} {l : List Value}, w.ownsRow w0.heap.size T sz v n l → ∀ k, v.ownBlock = some k → ¬ k = g := fun hr k hk e => by have := own_ge hr k hk; omega
  have := h.kge
  have := h.rge
  exact ⟨hc, u.old h.k (fun e => by omega), u.old h.r (fun e => by omega), row_upd' h.ko u (hge h.ko), row_upd' h.oo u (hge h.oo), row_upd' h.ro u (hge h.ro), h.u.trans u, h.lt, h.kge, h.rge, h.ne⟩
/-- A row of it grown; the block of what is lost keeps it or not. -/
theorem CutS.grow (h : CutS w0 w g K R S ci lv nv av kv ov rv ks os rs) {T : TypeId} {sz n : Nat} {l : List Value} (hr : w.ownsRow w0.heap.size T sz v n l) (u : Upd (fun k => v.ownBlock = some k) w w') (hT : T ≠ 141) :
    ChP w' g S ci lv nv av ∧ w'.heap[K]? = some (.cells #[ov, rv] 141 (0, 0)) ∧ w'.heap[R]? = some (.cells #[.slice none 0 0, .slice none 0 0] 141 (0, 0)) ∧
    (T ≠ 69 → w'.ownsRow w0.heap.size 69 38 kv ks.length (ks.flatMap liveCells)) ∧ (T ≠ 41 → w'.ownsRow w0.heap.size 41 35 ov os.length (os.flatMap htlcCells)) ∧ (T ≠ 22 → w'.ownsRow w0.heap.size 22 1 rv rs.length (rs.map (Value.int .u64))) ∧ Upd (· = g) w0 w' := by
  have ty : ∀ {U : TypeId} {sz2 n2 : Nat} {v2 : Value} {l2 : List Value}, T ≠ U → w.ownsRow w0.heap.size U sz2 v2 n2 l2 → ∀ k, v2.ownBlock = some k → ¬ v.ownBlock = some k := by
    intro U sz2 n2 v2 l2 hne h2 k hk e
    obtain ⟨c1, hc1⟩ := own_blk' hr k e
    obtain ⟨c2, hc2⟩ := own_blk' h2 k hk
    exact apart_ty' hc1 hc2 hne rfl
  refine ⟨h.ch.upd u (fun k hk e => by have := h.lt k hk; have := own_ge hr k e; omega), u.old h.k ?_, u.old h.r ?_, fun hn => row_upd' h.ko u (ty hn h.ko), fun hn => row_upd' h.oo u (ty hn h.oo), fun hn => row_upd' h.ro u (ty hn h.ro), h.u.then u (fun i hi e => by have := own_ge hr i e; omega)⟩
  · intro e
    obtain ⟨c1, hc1⟩ := own_blk' hr K e
    exact apart_ty' hc1 h.k hT rfl
  · intro e
    obtain ⟨c1, hc1⟩ := own_blk' hr R e
    exact apart_ty' hc1 h.r hT rfl
/-- One more offer is lost. -/
theorem CutS.putO (h : CutS w0 w g K R S ci lv nv av kv ov rv ks os rs) (u : Upd (fun k => ov.ownBlock = some k) w w') (ho : w'.ownsRow w0.heap.size 41 35 v os'.length (os'.flatMap htlcCells)) : CutS w0 (w'.setCell ⟨K, 0, none⟩ v) g K R S ci lv nv av kv v rv ks os' rs := by
  obtain ⟨a1, a2, a3, a4, -, a6, a7⟩ := h.grow h.oo u (by decide)
  have hS : CutS w0 w' g K R S ci lv nv av kv ov rv ks [] rs → True := fun _ => trivial
  have u2 : Upd (· = K) w' (w'.setCell ⟨K, 0, none⟩ v) := (Upd.refl _ _).set1 0 v
  have hg := h.glt
  have h1 := h.kge
  have h2 := h.ne
  have ty : ∀ {U : TypeId} {sz2 n2 : Nat} {v2 : Value} {l2 : List Value}, U ≠ 141 → w'.ownsRow w0.heap.size U sz2 v2 n2 l2 → ∀ k, v2.ownBlock = some k → ¬ k = K := by
    intro U sz2 n2 v2 l2 hne h2 k hk e
    obtain ⟨c2, hc2⟩ := own_blk' h2 k hk
    exact apart_ty' hc2 a2 hne e
  exact ⟨a1.upd u2 (fun k hk e => by have := h.lt k hk; omega), by rw [blk_set a2]; rfl, u2.old a3 h2, row_upd' (a4 (by decide)) u2 (ty (by decide) (a4 (by decide))), row_upd' ho u2 (ty (by decide) ho), row_upd' (a6 (by decide)) u2 (ty (by decide) (a6 (by decide))), a7.then u2 (fun i hi e => by omega), h.lt, h.kge, h.rge, h.ne⟩
/-- One more removed one of theirs is lost. -/
theorem CutS.putR (h : CutS w0 w g K R S ci lv nv av kv ov rv ks os rs) (u : Upd (fun k => rv.ownBlock = some k) w w') (hr : w'.ownsRow w0.heap.size 22 1 v rs'.length (rs'.map (Value.int .u64))) : CutS w0 (w'.setCell ⟨K, 1, none⟩ v) g K R S ci lv nv av kv ov v ks os rs' := by
  obtain ⟨a1, a2, a3, a4, a5, -, a7⟩ := h.grow h.ro u (by decide)
  have u2 : Upd (· = K) w' (w'.setCell ⟨K, 1, none⟩ v) := (Upd.refl _ _).set1 1 v
  have hg := h.glt
  have h1 := h.kge
  have h2 := h.ne
  have ty : ∀ {U : TypeId} {sz2 n2 : Nat} {v2 : Value} {l2 : List Value}, U ≠ 141 → w'.ownsRow w0.heap.size U sz2 v2 n2 l2 → ∀ k, v2.ownBlock = some k → ¬ k = K := by
    intro U sz2 n2 v2 l2 hne h2 k hk e
    obtain ⟨c2, hc2⟩ := own_blk' h2 k hk
    exact apart_ty' hc2 a2 hne e
  exact ⟨a1.upd u2 (fun k hk e => by have := h.lt k hk; omega), by rw [blk_set a2]; rfl, u2.old a3 h2, row_upd' (a4 (by decide)) u2 (ty (by decide) (a4 (by decide))), row_upd' (a5 (by decide)) u2 (ty (by decide) (a5 (by decide))), row_upd' hr u2 (ty (by decide) hr), a7.then u2 (fun i hi e => by omega), h.lt, h.kge, h.rge, h.ne⟩
/-- One more is kept. -/
theorem CutS.putL (h : CutS w0 w g K R S ci lv nv av kv ov rv ks os rs) (u : Upd (fun k => kv.ownBlock = some k) w w') (hk : w'.ownsRow w0.heap.size 69 38 v ks'.length (ks'.flatMap liveCells)) : CutS w0 w' g K R S ci lv nv av v ov rv ks' os rs := by
  obtain ⟨a1, a2, a3, -, a5, a6, a7⟩ := h.grow h.ko u (by decide)
  exact ⟨a1, a2, a3, hk, a5 (by decide), a6 (by decide), a7, h.lt, h.kge, h.rge, h.ne⟩
/-- A block that is none of these. -/
theorem CutS.other (h : CutS w0 w g K R S ci lv nv av kv ov rv ks os rs) {X : Nat} (u : Upd (· = X) w w') (hX : w.heap.size ≤ X ∨ (w0.heap.size ≤ X ∧ X ≠ K ∧ X ≠ R ∧ (∀ k, kv.ownBlock = some k → k ≠ X) ∧ (∀ k, ov.ownBlock = some k → k ≠ X) ∧ (∀ k, rv.ownBlock = some k → k ≠ X))) : CutS w0 w' g K R S ci lv nv av kv ov rv ks os rs := by
  have hg := h.glt
  have hs := h.u.size
  have hz : ∀ {U : TypeId} {sz2 n2 : Nat} {v2 : Value} {l2 : List Value}, w.ownsRow w0.heap.size U sz2 v2 n2 l2 → ∀ k, v2.ownBlock = some k → k < w.heap.size := by
    intro U sz2 n2 v2 l2 h2 k hk
    obtain ⟨c2, hc2⟩ := own_blk' h2 k hk
    exact blk_lt hc2
  have hKl := blk_lt h.k
  have hRl := blk_lt h.r
  have hXw : w0.heap.size ≤ X := by rcases hX with e | e <;> omega
  refine ⟨h.ch.upd u (fun k hk e => by have := h.lt k hk; omega), u.old h.k (fun e => by rcases hX with e2 | e2 <;> omega), u.old h.r (fun e => by rcases hX with e2 | e2 <;> omega), row_upd' h.ko u (fun k hk e => ?_), row_upd' h.oo u (fun k hk e => ?_), row_upd' h.ro u (fun k hk e => ?_), h.u.then u (fun i hi e => by omega), h.lt, h.kge, h.rge, h.ne⟩
  · have := hz h.ko k hk
    rcases hX with e2 | e2
    · omega
    · exact e2.2.2.2.1 k hk e
  · have := hz h.oo k hk
    rcases hX with e2 | e2
    · omega
    · exact e2.2.2.2.2.1 k hk e
  · have := hz h.ro k hk
    rcases hX with e2 | e2
    · omega
    · exact e2.2.2.2.2.2 k hk e
end
theorem ChP.noNews {w : World} {g : Nat} {S : Nat → Prop} {c : Ch} {lv nv av : Value} (h : ChP w g S c lv nv av) : ChP (w.setCell ⟨g, 626, none⟩ nilV) g S { c with news := [] } lv nilV av := by
  have u : Upd (· = g) w (w.setCell ⟨g, 626, none⟩ nilV) := (Upd.refl _ _).set1 626 _
  have hat := blk_set h.at_ 626 nilV
  rw [set_news c lv nv av h.ok.s.seed h.ok.shelf [] nilV] at hat
  have ty : ∀ {T : TypeId} {sz n : Nat} {v : Value} {l : List Value}, T ≠ 126 → w.ownsRow 0 T sz v n l → ∀ k, v.ownBlock = some k → ¬ k = g := by
    intro T sz n v l hT hr k hk e
    obtain ⟨cur, hc⟩ := own_blk' hr k hk
    exact apart_ty' hc h.at_ hT e
  exact ⟨hat, ⟨h.ok.s, h.ok.signed, h.ok.heard, h.ok.nextOwn, h.ok.nextTheirs, h.ok.loc, h.ok.rem, h.ok.xs, h.ok.few, h.ok.shelf, (fun m hm => by cases hm), h.ok.last, ⟨Nat.zero_le _, h.ok.many.2⟩⟩, row_upd' h.live u (ty (by decide) h.live), World.ownsRow_nil _ _ _ _, row_upd' h.last u (ty (by decide) h.last), h.inG, h.inL, (fun k e => by cases e), h.inA, (fun k e => by cases e), fun k hk => Nat.lt_of_lt_of_le (h.lt k hk) u.size⟩
theorem live_cut (x : Live) : (((liveCells x).toArray.setIfInBounds 36 (.int .i64 4)).setIfInBounds 37 (.bool false)) = (liveCells { x with state := 4, paid := false }).toArray := by
  unfold liveCells
  rw [List.setIfInBounds_toArray, List.setIfInBounds_toArray, List.set_append_right _ _ (by rw [htlc_len]; omega), List.set_append_right _ _ (by rw [htlc_len]; omega), htlc_len]
  rfl

end Go.Proofs.YtfmkdoachjgjbaaGreatDoor
