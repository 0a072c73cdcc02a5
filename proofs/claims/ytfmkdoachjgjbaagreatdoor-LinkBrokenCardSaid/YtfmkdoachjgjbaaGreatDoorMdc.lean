/-
  What each function of package frame, and of its reference, does: a splitter is a block of one cell, a string.
-/
import Derived.Test.YtfmkdoachjgjbaaGreatDoorRows
import Derived.Test.YtfmkdoachjgjbaaGreatDoorMaa
import Derived.Test.YtfmkdoachjgjbaaGreatDoorMda
import Derived.Test.YtfmkdoachjgjbaaGreatDoorMdb
set_option linter.unusedVariables false
set_option linter.unusedSimpArgs false
namespace Go.Proofs.YtfmkdoachjgjbaaGreatDoor
open Go.RowKit

/-- The number of the first two bytes. -/
def hd (r : ByteArray) : Int := bt r 0 * 256 + bt r 1
theorem hd_bd (r : ByteArray) : 0 ≤ hd r ∧ hd r ≤ 65535 := by
  have h0 := bt_bd r 0
  have h1 := bt_bd r 1
  unfold hd
  omega
/-- Do bytes begin by a length that may not be? -/
def badB (r : ByteArray) : Bool := decide (2 ≤ r.size) && (decide (hd r = 0) || decide (1024 < hd r))
theorem badB_short {r : ByteArray} (h : r.size < 2) : badB r = false := by unfold badB; simp; omega
theorem badB_zero {r : ByteArray} (h : 2 ≤ r.size) (h0 : hd r = 0) : badB r = true := by unfold badB; simp; omega
theorem badB_great {r : ByteArray} (h : 2 ≤ r.size) (h0 : 1024 < hd r) : badB r = true := by unfold badB; simp; omega
theorem badB_good {r : ByteArray} (h1 : 1 ≤ hd r) (h2 : hd r ≤ 1024) : badB r = false := by unfold badB; simp; omega

/-- Block b is a splitter that holds r. -/
def Spl (w : World) (b : Nat) (r : ByteArray) : Prop := w.heap[b]? = some (.cells #[.string r] 169 (0, 0))
theorem Spl.cell {w : World} {b : Nat} {r : ByteArray} (h : Spl w b r) : w.cell? ⟨b, 0, none⟩ = some (.string r) := (blk_cell h 0)
theorem Spl.free {w : World} {b : Nat} {r : ByteArray} (h : Spl w b r) : w.frozen? ⟨b, 0, none⟩ = false := (blk_free h 0)
theorem Spl.set {w : World} {b : Nat} {r : ByteArray} (h : Spl w b r) (s : ByteArray) : Spl (w.setCell ⟨b, 0, none⟩ (.string s)) b s := (blk_set h 0 _)
theorem Spl.drewN {w : World} {b : Nat} {r : ByteArray} (h : Spl w b r) (n : Nat) : Spl (w.drewN n) b r := h
theorem Spl.q {w w' : World} {b : Nat} {r : ByteArray} (h : Spl w b r) (q : Q w w') : Spl w' b r := q.old h
theorem Spl.upd {S : Nat → Prop} {w w' : World} {b : Nat} {r : ByteArray} (h : Spl w b r) (u : Upd S w w') (hn : ¬ S b) : Spl w' b r := u.old h hn

/-- The end of a call that leaves r in block b. -/
def Leaves (v : Value) (b : Nat) (r : ByteArray) (w : World) (e : Ending) (w' : World) : Prop := e = .returned v ∧ Upd (· = b) w w' ∧ Spl w' b r
set_option maxHeartbeats 400000 in
theorem size_any (b : Nat) (r : ByteArray) (w : World) (hc : w.cell? ⟨b, 0, none⟩ = some (.string r)) :
    Calls Tryz.prog 103 #[.pointer (some ⟨b, 0, none⟩)] w fun e w' => e = .returned (.int .i64 r.size) ∧ w = w' := by
  go_enter Tryz.func103, Tryz.ntmps103
  go_wp2
  go_ret
  exact ⟨rfl, rfl⟩

set_option maxHeartbeats 400000 in
theorem put_any (b : Nat) (r s : ByteArray) (w : World) (hc : w.cell? ⟨b, 0, none⟩ = some (.string r)) (hf : w.frozen? ⟨b, 0, none⟩ = false) (hs : r.size + s.size ≤ 9223372036854775807) :
    Calls Tryz.prog 102 #[.pointer (some ⟨b, 0, none⟩), .string s] w fun e w' => e = .returned (.tuple #[]) ∧ w.setCell ⟨b, 0, none⟩ (.string (r ++ s)) = w' := by
  go_enter Tryz.func102, Tryz.ntmps102
  go_wp2
  go_end0
  exact ⟨rfl, rfl⟩

set_option maxHeartbeats 400000 in
theorem length_short (b : Nat) (r : ByteArray) (w : World) (hc : w.cell? ⟨b, 0, none⟩ = some (.string r)) (h : r.size < 2) :
    Calls Tryz.prog 101 #[.pointer (some ⟨b, 0, none⟩)] w (Reads (.tuple #[.int .i64 0, .bool false]) w) := by
  go_enter Tryz.func101, Tryz.ntmps101
  go_wp2
  go_ret2
  exact ⟨rfl, Q.refl _⟩

set_option maxHeartbeats 400000 in
theorem length_long (b : Nat) (r : ByteArray) (w : World) (hc : w.cell? ⟨b, 0, none⟩ = some (.string r)) (h : 2 ≤ r.size) :
    Calls Tryz.prog 101 #[.pointer (some ⟨b, 0, none⟩)] w (Reads (.tuple #[.int .i64 (hd r), .bool true]) w) := by
  have h0 : ∀ w, (Instr.index 9 (.string r) (.int .i64 0)).run Tryz.prog w = .ok (.int .u8 (bt r 0)) w := run_index_at 9 r .i64 0 0 Tryz.underlying9 rfl (by omega)
  have h1 : ∀ w, (Instr.index 9 (.string r) (.int .i64 1)).run Tryz.prog w = .ok (.int .u8 (bt r 1)) w := run_index_at 9 r .i64 1 1 Tryz.underlying9 rfl (by omega)
  obtain ⟨b00, b01⟩ := bt_bd r 0
  obtain ⟨b10, b11⟩ := bt_bd r 1
  go_enter Tryz.func101, Tryz.ntmps101
  go_wp2
  go_quiet (fail)
  go_wp2
  go_ret2
  refine ⟨?_, Q.drewN _ _⟩
  show Ending.returned (.tuple #[.int .i64 (bits .or .i64 (bt r 0 * 256) (bt r 1)), .bool true]) = _
  rw [or8 _ _ b00 b01 b10 b11]
  rfl

set_option maxHeartbeats 400000 in
theorem cut_any (b : Nat) (r : ByteArray) (n : Int) (w : World) (hc : w.cell? ⟨b, 0, none⟩ = some (.string r)) (hf : w.frozen? ⟨b, 0, none⟩ = false) (h0 : 0 ≤ n) (hn : n ≤ r.size) :
    Calls Tryz.prog 104 #[.pointer (some ⟨b, 0, none⟩), .int .i64 n] w fun e w' => e = .returned (.string (r.extract 0 n.toNat)) ∧ w.setCell ⟨b, 0, none⟩ (.string (r.extract n.toNat r.size)) = w' := by
  obtain ⟨k, rfl⟩ := Int.eq_ofNat_of_zero_le h0
  go_enter Tryz.func104, Tryz.ntmps104
  go_wp2
  go_ret
  exact ⟨rfl, rfl⟩

set_option maxHeartbeats 400000 in
theorem bad_any (b : Nat) (r : ByteArray) (w : World) (hc : w.cell? ⟨b, 0, none⟩ = some (.string r)) :
    Calls Tryz.prog 62 #[.pointer (some ⟨b, 0, none⟩)] w (Reads (.bool (badB r)) w) := by
  obtain ⟨g0, g1⟩ := hd_bd r
  by_cases h : r.size < 2
  · rw [badB_short h]
    go_enter Tryz.func62, Tryz.ntmps62
    go_wp2_with fail
    refine (length_short b r _ hc h).mono ?_
    rintro e w1 ⟨rfl, q1⟩
    go_wp2
    go_ret
    exact ⟨rfl, q1⟩
  · by_cases h0 : hd r = 0
    · rw [badB_zero (by omega) h0]
      have H := Lib.hid h0
      clear h0
      go_enter Tryz.func62, Tryz.ntmps62
      go_wp2_with fail
      refine (length_long b r _ hc (by omega)).mono ?_
      rintro e w1 ⟨rfl, q1⟩
      have he : (hd r == 0) = true := by rw [H.out]; rfl
      go_wp2
      go_ret
      exact ⟨rfl, q1⟩
    · have he : (hd r == 0) = false := by simpa using h0
      by_cases h1 : 1024 < hd r
      · rw [badB_great (by omega) h1]
        go_enter Tryz.func62, Tryz.ntmps62
        go_wp2_with fail
        refine (length_long b r _ hc (by omega)).mono ?_
        rintro e w1 ⟨rfl, q1⟩
        go_wp2
        go_ret
        exact ⟨rfl, q1⟩
      · rw [badB_good (by omega) (by omega)]
        have h1' : decide (1024 < hd r) = false := by simpa using h1
        go_enter Tryz.func62, Tryz.ntmps62
        go_wp2_with fail
        refine (length_long b r _ hc (by omega)).mono ?_
        rintro e w1 ⟨rfl, q1⟩
        go_wp2
        go_ret
        exact ⟨rfl, q1⟩

theorem bad_true (b : Nat) (r : ByteArray) (w : World) (hc : w.cell? ⟨b, 0, none⟩ = some (.string r)) (h : badB r = true) :
    Calls Tryz.prog 62 #[.pointer (some ⟨b, 0, none⟩)] w (Reads (.bool true) w) := h ▸ bad_any b r w hc
theorem bad_false (b : Nat) (r : ByteArray) (w : World) (hc : w.cell? ⟨b, 0, none⟩ = some (.string r)) (h : badB r = false) :
    Calls Tryz.prog 62 #[.pointer (some ⟨b, 0, none⟩)] w (Reads (.bool false) w) := h ▸ bad_any b r w hc

set_option maxHeartbeats 400000 in
theorem push_ok (b : Nat) (r s : ByteArray) (w : World) (hb : Spl w b r) (h : badB r = false) (hs : r.size + s.size ≤ 9223372036854775807) :
    Calls Tryz.prog 63 #[.pointer (some ⟨b, 0, none⟩), .string s] w (Leaves (.int .i64 0) b (r ++ s) w) := by
  go_enter Tryz.func63, Tryz.ntmps63
  go_wp2_with fail
  refine (bad_false b r _ hb.cell h).mono ?_
  rintro e w1 ⟨rfl, q1⟩
  go_wp2_with fail
  refine (put_any b r s _ (hb.q q1).cell (hb.q q1).free hs).mono ?_
  rintro e w' ⟨rfl, rfl⟩
  go_wp2
  go_ret
  exact ⟨rfl, (q1.upd _).set1 _ _, (hb.q q1).set _⟩

/-- Is the next frame there whole, and not bad? -/
def Ready (r : ByteArray) : Prop := 2 ≤ r.size ∧ badB r = false ∧ 2 + hd r ≤ r.size

set_option maxHeartbeats 400000 in
theorem next_ready (b : Nat) (r : ByteArray) (w : World) (hb : Spl w b r) (h : Ready r) :
    Calls Tryz.prog 64 #[.pointer (some ⟨b, 0, none⟩)] w (Leaves (.tuple #[.string ((r.extract 0 (2 + hd r).toNat).extract 2 (2 + hd r).toNat), .bool true]) b (r.extract (2 + hd r).toNat r.size) w) := by
  obtain ⟨h2, hbad, hle⟩ := h
  obtain ⟨g0, g1⟩ := hd_bd r
  have hd1 : decide ((r.size : Int) < 2 + hd r) = false := by simp; omega
  go_enter Tryz.func64, Tryz.ntmps64
  go_wp2_with fail
  refine (length_long b r _ hb.cell h2).mono ?_
  rintro e w1 ⟨rfl, q1⟩
  go_wp2_with fail
  refine (bad_false b r _ (hb.q q1).cell hbad).mono ?_
  rintro e w2 ⟨rfl, q2⟩
  go_wp2_with fail
  refine (size_any b r _ ((hb.q q1).q q2).cell).mono ?_
  rintro e w' ⟨rfl, rfl⟩
  go_wp2_with fail
  refine (cut_any b r (2 + hd r) _ ((hb.q q1).q q2).cell ((hb.q q1).q q2).free (by omega) hle).mono ?_
  rintro e w' ⟨rfl, rfl⟩
  go_wp2
  go_ret2
  exact ⟨rfl, ((q1.trans q2).upd _).set1 _ _, ((hb.q q1).q q2).set _⟩

theorem not_ready {r : ByteArray} (h : ¬ Ready r) : r.size < 2 ∨ (2 ≤ r.size ∧ badB r = true) ∨ (2 ≤ r.size ∧ badB r = false ∧ r.size < 2 + hd r) := by
  by_cases h1 : r.size < 2
  · exact .inl h1
  · cases hb : badB r with
    | true => exact .inr (.inl ⟨by omega, rfl⟩)
    | false => exact .inr (.inr ⟨by omega, rfl, by
        refine Int.not_le.1 fun h3 => h ⟨by omega, hb, h3⟩⟩)

set_option maxHeartbeats 400000 in
theorem next_not (b : Nat) (r : ByteArray) (w : World) (hb : Spl w b r) (h : ¬ Ready r) :
    Calls Tryz.prog 64 #[.pointer (some ⟨b, 0, none⟩)] w (Leaves (.tuple #[.string ⟨#[]⟩, .bool false]) b r w) := by
  obtain ⟨g0, g1⟩ := hd_bd r
  rcases not_ready h with h1 | ⟨h2, hbad⟩ | ⟨h2, hbad, hle⟩
  · clear h
    go_enter Tryz.func64, Tryz.ntmps64
    go_wp2_with fail
    refine (length_short b r _ hb.cell h1).mono ?_
    rintro e w1 ⟨rfl, q1⟩
    go_wp2
    go_ret2
    exact ⟨rfl, q1.upd _, hb.q q1⟩
  · clear h
    go_enter Tryz.func64, Tryz.ntmps64
    go_wp2_with fail
    refine (length_long b r _ hb.cell h2).mono ?_
    rintro e w1 ⟨rfl, q1⟩
    go_wp2_with fail
    refine (bad_true b r _ (hb.q q1).cell hbad).mono ?_
    rintro e w2 ⟨rfl, q2⟩
    go_wp2
    go_ret2
    exact ⟨rfl, (q1.trans q2).upd _, (hb.q q1).q q2⟩
  · have hd1 : decide ((r.size : Int) < 2 + hd r) = true := by simpa using hle
    clear h
    go_enter Tryz.func64, Tryz.ntmps64
    go_wp2_with fail
    refine (length_long b r _ hb.cell h2).mono ?_
    rintro e w1 ⟨rfl, q1⟩
    go_wp2_with fail
    refine (bad_false b r _ (hb.q q1).cell hbad).mono ?_
    rintro e w2 ⟨rfl, q2⟩
    go_wp2_with fail
    refine (size_any b r _ ((hb.q q1).q q2).cell).mono ?_
    rintro e w' ⟨rfl, rfl⟩
    go_wp2
    go_ret2
    exact ⟨rfl, (q1.trans q2).upd _, (hb.q q1).q q2⟩

/-! ### Put -/

/-- The frame of s. -/
def framed (s : ByteArray) : ByteArray := strOfNums [(s.size : Int) / 256, (s.size : Int) % 256] ++ s

set_option maxHeartbeats 400000 in
theorem put_good (s : ByteArray) (w : World) (h0 : 0 < s.size) (h1 : s.size ≤ 1024) :
    Calls Tryz.prog 116 #[.string s] w (Makes (.tuple #[.string (framed s), .int .i64 0]) w) := by
  have hne := str_ne h0
  have hcv := @run_string_two Tryz.prog 95 9 5 Tryz.underlying95 Tryz.underlying5 Tryz.underlying9 5
  have hsz : (strOfNums [(s.size : Int) / 256, (s.size : Int) % 256]).size = 2 := strOfNums_size _
  have hsz' : (strOfNums [(s.size : Int) / 256, (s.size : Int) % 256]).size + s.size ≤ 9223372036854775807 := by omega
  clear hsz
  go_enter Tryz.func116, Tryz.ntmps116
  go_wp2
  go_ret2
  exact ⟨rfl, (Upd.refl _ _).alloc _⟩

/-! ### the reference -/
set_option maxHeartbeats 400000 in
theorem refput_empty (s : ByteArray) (w : World) (h : s.size = 0) :
    Calls Tryz.prog 21 #[.string s] w (Makes (.tuple #[.string ⟨#[]⟩, .int .i64 1]) w) := by
  obtain rfl : s = ⟨#[]⟩ := by
    cases s with | mk d => simpa [ByteArray.size] using h
  go_enter Tryz.func21, Tryz.ntmps21
  go_wp2
  go_ret2
  exact ⟨rfl, Upd.refl _ _⟩

set_option maxHeartbeats 400000 in
theorem refput_great (s : ByteArray) (w : World) (h : 1024 < s.size) (hm : s.size ≤ maxLen) :
    Calls Tryz.prog 21 #[.string s] w (Makes (.tuple #[.string ⟨#[]⟩, .int .i64 80]) w) := by
  have hne : ((s.size : Int) == 0) = false := beq_eq_false_iff_ne.2 (by omega)
  unfold maxLen at hm
  go_enter Tryz.func21, Tryz.ntmps21
  go_wp2
  go_ret2
  exact ⟨rfl, Upd.refl _ _⟩

set_option maxHeartbeats 400000 in
theorem refput_good (s : ByteArray) (w : World) (h0 : 0 < s.size) (h1 : s.size ≤ 1024) :
    Calls Tryz.prog 21 #[.string s] w (Makes (.tuple #[.string (framed s), .int .i64 0]) w) := by
  have hne : ((s.size : Int) == 0) = false := beq_eq_false_iff_ne.2 (by omega)
  have hcv := @run_string_two Tryz.prog 95 9 5 Tryz.underlying95 Tryz.underlying5 Tryz.underlying9 5
  have hsz : (strOfNums [(s.size : Int) / 256, (s.size : Int) % 256]).size = 2 := strOfNums_size _
  have hsz' : (strOfNums [(s.size : Int) / 256, (s.size : Int) % 256]).size + s.size ≤ 9223372036854775807 := by omega
  clear hsz
  go_enter Tryz.func21, Tryz.ntmps21
  go_wp2
  go_ret2
  exact ⟨rfl, (Upd.refl _ _).alloc _⟩

/-! ### both ways in one -/
theorem text_eq (r : ByteArray) (n : Nat) : (r.extract 0 n).extract 2 n = r.extract 2 n := by
  rw [ByteArray.extract_extract]
  simp
def ready (r : ByteArray) : Bool := decide (2 ≤ r.size) && !badB r && decide (2 + hd r ≤ r.size)
def putS (s : ByteArray) : ByteArray := if s.size = 0 then ⟨#[]⟩ else if 1024 < s.size then ⟨#[]⟩ else framed s
def putE (s : ByteArray) : Int := if s.size = 0 then 1 else if 1024 < s.size then 80 else 0
theorem refput_all (s : ByteArray) (w : World) (hm : s.size ≤ maxLen) :
    Calls Tryz.prog 21 #[.string s] w (Makes (.tuple #[.string (putS s), .int .i64 (putE s)]) w) := by
  by_cases h0 : s.size = 0
  · simpa only [putS, putE, h0, if_true] using refput_empty s w h0
  · by_cases h1 : 1024 < s.size
    · simpa only [putS, putE, h0, h1, if_true, if_false] using refput_great s w h1 hm
    · simpa only [putS, putE, h0, h1, if_true, if_false] using refput_good s w (by omega) (by omega)

/-- The cells of a row of function values. -/
def FnRow2 (w : World) (b n : Nat) (F : Nat → FuncId) (fs caps : Nat → Array Value) : Prop := ∀ i, i < n → w.cell? ⟨b, i, none⟩ = some (.func (.func (F i)) (fs i) (caps i))
/-- What steps come to. -/
def DoEnd (n : Nat) (C : Nat → World → Prop) (D : Int → World → Prop) (e : Ending) (w' : World) : Prop :=
  (e = .returned (.int .i64 0) ∧ C n w') ∨ ∃ er : Int, er ≠ 0 ∧ e = .returned (.int .i64 er) ∧ D er w'
set_option maxRecDepth 100000 in
set_option maxHeartbeats 2000000 in
/-- Steps, one behind the other, up to the first error. -/
theorem do_any (g b n : Nat) (F : Nat → FuncId) (fs caps : Nat → Array Value) (T : Nat → Prop) (C : Nat → World → Prop) (D : Int → World → Prop) (w : World) (hn : n ≤ 100)
    (hd : w.cell? ⟨g, 6, none⟩ = some (.bool false)) (hrow : FnRow2 w b n F fs caps) (hT : ¬ T b)
    (hs : ∀ i, i < n → ∀ w', C i w' → (∀ args w, (callFunc (F i) args).run Tryz.prog w = .ok (.enter (F i) args) w) ∧ Calls Tryz.prog (F i) (fs i ++ caps i) w' fun e w'' => Upd T w' w'' ∧ DoEnd (i + 1) C D e w'')
    (h0 : C 0 w) :
    Calls Tryz.prog 66 #[.pointer (some ⟨g, 0, none⟩), .slice (some ⟨b, 0, none⟩) n n] w fun e w' => Upd T w w' ∧ DoEnd n C D e w' := by
  have hnn : (n : Int) ≤ 100 := by omega
  have H0 := hide h0
  have HR := hide hrow
  clear h0 hrow
  go_enter Tryz.func66, Tryz.ntmps66
  go_wp2_with fail
  go_loopw [14] (fun iv wr => ∃ i : Nat, iv = .int .i64 (i : Int) ∧ i ≤ n ∧ Hid (C i wr) ∧ Upd T w wr) (fun iv _ => n - (intOf iv).toNat)
  case atStart => exact ⟨0, rfl, Nat.zero_le _, H0, Upd.refl _ _⟩
  case round =>
    obtain ⟨i, rfl, hi, hC, u⟩ := hrel
    obtain ⟨wq, rfl⟩ : ∃ wq : World, wq = wr := ⟨_, rfl⟩
    by_cases hlt : i < n
    · have hil : (i : Int) < (n : Int) := by omega
      obtain ⟨hen, hcall⟩ := hs i hlt wq (unhide hC)
      have hc := u.cell (unhide HR i hlt) hT
      generalize F i = Fi at *
      generalize fs i = fi at *
      generalize caps i = ci at *
      clear hC hd
      go_wp2_with fail
      refine hcall.mono ?_
      rintro e w3 ⟨u3, hE⟩
      have u4 := u.trans u3
      rcases hE with ⟨rfl, hC3⟩ | ⟨er, he, rfl, hD⟩
      · have hC3 := hide hC3
        clear hc hen hcall u u3
        go_wp2_with fail
        go_roundw
        case rel => exact ⟨i + 1, by go_num, hlt, hC3, u4⟩
        case measure => simp [intOf]; omega
      · have HD := hide hD
        have HE := hide he
        clear hc hen hcall u u3 hD
        go_wp2_with fail
        go_ret
        exact ⟨u4, .inr ⟨er, unhide HE, rfl, unhide HD⟩⟩
    · obtain rfl : i = n := by omega
      have HU := hide u
      clear hd u
      go_wp2_with fail
      go_ret
      exact ⟨unhide HU, .inl ⟨rfl, unhide hC⟩⟩

set_option maxHeartbeats 1000000 in
theorem ready_any (g : Nat) (w : World) (hw : w.cell? ⟨g, 8, none⟩ = some (.bool false)) : Calls Tryz.prog 87 #[.pointer (some ⟨g, 0, none⟩)] w fun e w' => e = .returned (.int .i64 0) ∧ w = w' := by
  go_enter Tryz.func87, Tryz.ntmps87
  go_wp2_with fail
  go_ret
  exact ⟨rfl, rfl⟩
set_option maxHeartbeats 1000000 in
theorem note_any (g : Nat) (va : Option Addr) (vn vc : Nat) (w : World) : Calls Tryz.prog 69 #[.pointer (some ⟨g, 0, none⟩), .slice va vn vc] w fun e w' => ∃ P0 P1, e = .returned (.func (.func 112) #[] #[.pointer (some ⟨P0, 0, none⟩), .pointer (some ⟨P1, 0, none⟩)]) ∧ New w w' ∧ w.heap.size ≤ P0 ∧ w.heap.size ≤ P1 ∧ P0 < w'.heap.size ∧ P1 < w'.heap.size ∧ w'.cell? ⟨P0, 0, none⟩ = some (.pointer (some ⟨g, 0, none⟩)) ∧ w'.cell? ⟨P1, 0, none⟩ = some (.slice va vn vc) := by
  have hmf : ∀ (fn : Fn) (first cap : Array Value) (w : World), (Instr.makeFunc fn first cap).run Tryz.prog w = .ok (.func fn first cap) w := fun _ _ _ _ => rfl
  go_enter Tryz.func69, Tryz.ntmps69
  go_upto_region 1 with fail
  have n1 : New w (w.alloc (.cells #[.pointer (some ⟨g, 0, none⟩)] 28)) := (Upd.refl _ _).alloc _
  have b1 := blk_alloc w (.cells #[.pointer (some ⟨g, 0, none⟩)] 28)
  have z1 : (w.alloc (.cells #[.pointer (some ⟨g, 0, none⟩)] 28)).heap.size = w.heap.size + 1 := World.size_alloc _ _
  generalize w.alloc (.cells #[.pointer (some ⟨g, 0, none⟩)] 28) = w1 at n1 b1 z1 ⊢
  have n2 : New w1 (w1.alloc (.cells #[.slice va vn vc] 163)) := (Upd.refl _ _).alloc _
  have b2 := blk_alloc w1 (.cells #[.slice va vn vc] 163)
  have z2 : (w1.alloc (.cells #[.slice va vn vc] 163)).heap.size = w1.heap.size + 1 := World.size_alloc _ _
  generalize w1.alloc (.cells #[.slice va vn vc] 163) = w2 at n2 b2 z2 ⊢
  rw [z1] at b2
  have N := hide (And.intro n1 (And.intro n2 (And.intro b1 (And.intro b2 (And.intro z1 z2)))))
  clear n1 n2 b1 b2 z1 z2
  go_wp2_with fail
  go_ret
  obtain ⟨n1, n2, b1, b2, z1, z2⟩ := unhide N
  exact ⟨_, _, rfl, n1.trans n2, Nat.le_refl _, by omega, by omega, by omega, blk_cell (n2.old b1 (fun h => h)) 0, blk_cell b2 0⟩

set_option maxRecDepth 100000 in
set_option maxHeartbeats 2000000 in
/-- What note has made: it puts a record into the journal. -/
theorem note1_any (P0 P1 bk g : Nat) (S : Nat → Prop) (l : Lk) (sp en lo : Nat) (SC SJ : Nat → Prop) (xs : List ByteArray) (w : World) (h : LkP w g S l sp en lo SC SJ) (hd : l.dead = false) (hf : l.j.fused = false) (ho : l.j.off = false)
    (hm : 0 ≤ l.j.many ∧ l.j.many < 1099511627776) (hlen : l.j.bs.size ≤ 1099511627776) (hT : Tabs w) (hn : xs.length ≤ 1000) (hsz : (joinS xs).size ≤ 1024)
    (c0 : w.cell? ⟨P0, 0, none⟩ = some (.pointer (some ⟨g, 0, none⟩))) (c1 : w.cell? ⟨P1, 0, none⟩ = some (.slice (some ⟨bk, 0, none⟩) xs.length xs.length)) (hx : ∀ j x, xs[j]? = some x → w.cell? ⟨bk, j, none⟩ = some (.string x)) (hbk : bk < w.heap.size) (hP : ¬ S P0) :
    Calls Tryz.prog 112 #[.pointer (some ⟨P0, 0, none⟩), .pointer (some ⟨P1, 0, none⟩)] w fun e w' => e = .returned (.int .i64 0) ∧ (∃ SJ', LkP w' g (Fr S w w') { l with j := l.j.app (joinS xs) } sp en lo SC SJ') ∧ Upd S w w' := by
  have c2 : w.cell? ⟨g, 2, none⟩ = some (.pointer (some ⟨lo, 0, none⟩)) := blk_cell h.at_ 2
  have hjoin := fun w' (n' : New w w') => join_any bk xs w' (fun j x e => n'.cell (hx j x e) (fun h => h)) (Nat.lt_of_lt_of_le hbk n'.size) hn (by omega)
  have happ := fun b w' (n' : New w w') hb hS => jappend_any lo b SJ l.j (joinS xs) w' (h.jou.new n') hf ho hsz hm hlen (hT.new n') hb hS
  have hC : (w.cell? ⟨P0, 0, none⟩ = some (.pointer (some ⟨g, 0, none⟩))) ∧ (w.cell? ⟨g, 2, none⟩ = some (.pointer (some ⟨lo, 0, none⟩))) ∧ w.cell? ⟨P1, 0, none⟩ = some (.slice (some ⟨bk, 0, none⟩) xs.length xs.length) := ⟨c0, c2, c1⟩
  have HC := hide hC
  have H := hide h
  have hk : ∀ w', New w w' → (w'.cell? ⟨P0, 0, none⟩ = some (.pointer (some ⟨g, 0, none⟩))) ∧ (w'.cell? ⟨g, 2, none⟩ = some (.pointer (some ⟨lo, 0, none⟩))) ∧ w'.cell? ⟨P1, 0, none⟩ = some (.slice (some ⟨bk, 0, none⟩) xs.length xs.length) := fun w' n' => ⟨n'.cell hC.1 (fun h => h), n'.cell hC.2.1 (fun h => h), n'.cell hC.2.2 (fun h => h)⟩
  have HJl := hide h.jou.lt
  generalize hJ : joinS xs = J at *
  clear h c0 c1 c2 hx hn hsz hbk hm hlen hT hJ
  go_enter Tryz.func112, Tryz.ntmps112
  go_upto_region 1 with fail
  refine wp_plan (fun w' => (w'.cell? ⟨P0, 0, none⟩ = some (.pointer (some ⟨g, 0, none⟩))) ∧ (w'.cell? ⟨g, 2, none⟩ = some (.pointer (some ⟨lo, 0, none⟩))) ∧ w'.cell? ⟨P1, 0, none⟩ = some (.slice (some ⟨bk, 0, none⟩) xs.length xs.length)) [0, 3, 4] (.of [0, 1, 2, 3, 4, 5, 6, 7, 8]) (by kernel_rfl) (by kernel_rfl) hC ?_
  simp only [Plan.of]
  have k0 := hk _ ((Upd.refl (fun _ => False) w).drew)
  clear hC
  go_wp2_with (with_reducible first | (first | refine' qw1 (ido ?_) ?_ | refine' qw2 (ido ?_) ?_ | refine' qw3 (ido ?_) ?_); rotate_left | refine' qw4 (ido ?_) | refine' qw5 (ido ?_) | rfl | apply qn)
  refine (hjoin _ ((Upd.refl (fun _ => False) w).drew)).mono ?_
  rintro e w1 ⟨rfl, n1⟩
  have n1 := n1.ofDrew
  have k1 := hk _ n1
  clear hjoin k0
  go_wp2_with (first | (with_reducible first | (first | refine' qw1 (ido ?_) ?_ | refine' qw2 (ido ?_) ?_ | refine' qw3 (ido ?_) ?_); rotate_left | refine' qw4 (ido ?_) | refine' qw5 (ido ?_) | rfl | apply qn) | refine ⟨k1, ?_⟩)
  have n2 : New w (w1.alloc (.cells #[.string J] 9)) := n1.alloc _
  have n12 : New w1 (w1.alloc (.cells #[.string J] 9)) := (Upd.refl _ _).alloc _
  have b2 := blk_cell (blk_alloc w1 (.cells #[.string J] 9)) 0
  have k2 := hk _ n2
  have hz1 := n1.size
  generalize w1.alloc (.cells #[.string J] 9) = w2 at n2 n12 b2 k2 ⊢
  refine ⟨k2, ?_⟩
  generalize hB : w1.heap.size = B at b2 ⊢
  have hcall := happ B w2 n2 b2 (fun e => by have := (unhide HJl) B e; omega)
  have N2 := hide n2
  clear happ n1 n2 n12 k1 b2 hB hz1
  go_wp2_with (first | (with_reducible first | (first | refine' qw1 (ido ?_) ?_ | refine' qw2 (ido ?_) ?_ | refine' qw3 (ido ?_) ?_); rotate_left | refine' qw4 (ido ?_) | refine' qw5 (ido ?_) | rfl | apply qn) | refine ⟨k2, ?_⟩)
  refine hcall.mono ?_
  rintro e w3 ⟨rfl, hJ3, u3⟩
  have N2' := (unhide N2)
  have hP3 := ((unhide H).new N2').jour u3 hJ3
  have d0 : w3.cell? ⟨P0, 0, none⟩ = some (.pointer (some ⟨g, 0, none⟩)) := u3.cell k2.1 (fun e => hP ((unhide H).inJ _ e))
  have d6 := blk_free hP3.at_ 6
  have d66 : w3.cell? ⟨g, 6, none⟩ = some (.bool false) := hd ▸ blk_cell hP3.at_ 6
  have hP4 := hP3.put_dead false
  have u4 : Upd (· = g) w3 (w3.setCell ⟨g, 6, none⟩ (.bool false)) := (Upd.refl _ _).set1 _ _
  have HP4 := hide hP4
  have U3 := hide u3
  have U4 := hide u4
  have K2 := hide k2
  clear hcall hJ3 N2' hP3 hP4 u3 u4 k2 hk
  go_wp2_with (first | (with_reducible first | (first | refine' qw1 (ido ?_) ?_ | refine' qw2 (ido ?_) ?_ | refine' qw3 (ido ?_) ?_); rotate_left | refine' qw4 (ido ?_) | refine' qw5 (ido ?_) | rfl | apply qn) | (with_reducible first | (first | refine' tw1 (ido ?_) ?_ | refine' tw2 (ido ?_) ?_); rotate_left | refine' tw3 (ido ?_) | rfl | apply tn | refine' tw4 ?_) | refine ⟨trivial, ?_⟩)
  go_ret
  have n2 := unhide N2
  have u3 := unhide U3
  have u4 := unhide U4
  have z2 := n2.size
  have z3 := u3.size
  have z4 := u4.size
  have h := unhide H
  have hSl := h.lt
  have e : ({ l with j := l.j.app J } : Lk) = ⟨l.c, l.j.app J, l.rest, l.out, l.ev, l.ticks, false, l.broken, l.waits⟩ := by rw [← hd]
  refine ⟨rfl, ⟨Fr SJ w2 w3, ?_⟩, ?_⟩
  · rw [e]
    refine (unhide HP4).wider ?_ ?_
    · rintro k (hk | hk)
      · exact .inl hk
      · exact .inr ⟨by omega, by omega⟩
    · rintro k (hk | hk)
      · have := hSl k hk
        omega
      · exact hk.2
  · exact ((n2.mono (fun _ _ h => h.elim)).trans (u3.mono (fun k _ e => h.inJ k e))).trans (u4.mono (fun k _ e => by rw [e]; exact h.inG))
/-- What goes out for a message. -/
def sayS (m : MsgV) : ByteArray := match fieldsOf m.kind with | some xs => framed (encS xs m) | none => ⟨#[]⟩
structure SayOk (m : MsgV) : Prop where
  put : PutOk m
  may : mayMsg m = true
  kind : 0 ≤ m.kind ∧ m.kind < 256
theorem puts_ge (xs : List Fld) (m : MsgV) (s : ByteArray) : s.size ≤ (putsL xs m s).size := by
  induction xs generalizing s with
  | nil => exact Nat.le_refl _
  | cons x xs ih =>
    have := ih (s ++ x.put m)
    rw [ByteArray.size_append] at this
    show s.size ≤ (putsL xs m (s ++ x.put m)).size
    omega
theorem fieldsOf_five {k : Int} {xs : List Fld} (h : fieldsOf k = some xs) : xs.length ≤ 5 := by
  unfold fieldsOf at h
  repeat' (split at h)
  all_goals first
    | (injection h with h; subst h; decide)
    | cases h
theorem SayOk.say {m : MsgV} (h : SayOk m) : ∃ xs, fieldsOf m.kind = some xs ∧ sayS m = framed (encS xs m) ∧ 0 < (encS xs m).size ∧ (encS xs m).size ≤ 1024 := by
  cases e : fieldsOf m.kind with
  | none => have := h.may; rw [may_none e] at this; cases this
  | some xs =>
    have h5 := fieldsOf_five e
    have h1 := puts_size m h.put.ok.len xs (numS m.kind.toNat 1)
    have h2 := puts_ge xs m (numS m.kind.toNat 1)
    rw [numS_size] at h1 h2
    refine ⟨xs, rfl, by unfold sayS; rw [e], ?_, ?_⟩
    · show 0 < (putsL xs m (numS m.kind.toNat 1)).size
      omega
    · show (putsL xs m (numS m.kind.toNat 1)).size ≤ 1024
      omega
theorem framed_size (s : ByteArray) : (framed s).size = 2 + s.size := by
  unfold framed
  rw [ByteArray.size_append, strOfNums_size]
  rfl
theorem SayOk.size {m : MsgV} (h : SayOk m) : 2 < (sayS m).size ∧ (sayS m).size ≤ 1026 := by
  obtain ⟨xs, -, e, h1, h2⟩ := h.say
  rw [e, framed_size]
  omega
def sendS (ms : List MsgV) (out : ByteArray) : ByteArray := ms.foldl (fun s m => s ++ sayS m) out
theorem send_take {ms : List MsgV} {i : Nat} {m : MsgV} (h : ms[i]? = some m) (out : ByteArray) : sendS (ms.take (i + 1)) out = sendS (ms.take i) out ++ sayS m := by
  unfold sendS
  rw [List.take_add_one, h, List.foldl_append]
  rfl
theorem send_size (out : ByteArray) : ∀ (ms : List MsgV), (∀ m ∈ ms, SayOk m) → ∀ out : ByteArray, (sendS ms out).size ≤ out.size + 1026 * ms.length
  | [], _, out => Nat.le_refl _
  | m :: ms, h, o => by
    have h1 := send_size out ms (fun m hm => h m (List.mem_cons_of_mem _ hm)) (o ++ sayS m)
    have h2 := (h m (List.mem_cons_self ..)).size
    rw [ByteArray.size_append] at h1
    show (sendS ms (o ++ sayS m)).size ≤ _
    rw [List.length_cons]
    omega
set_option maxRecDepth 100000 in
set_option maxHeartbeats 2000000 in
theorem encode1_any (m : MsgV) (h : SayOk m) (w : World) : ∃ t, 0 < t.size ∧ t.size ≤ 1024 ∧ sayS m = framed t ∧ Calls Tryz.prog 115 #[.agg m.cells.toArray] w (Makes (.tuple #[.string t, .int .i64 0]) w) := by
  obtain ⟨xs, hk, e, h1, h2⟩ := h.say
  exact ⟨_, h1, h2, e, encode_any m xs h.put hk h.kind (fieldsOf_len hk) h.may w⟩
attribute [local go_sem ↓ high] ld_msg_fold st_msg_fold al_msg_fold
attribute [local go_sem] ld_msg st_msg al_msg rowN_drew
set_option maxRecDepth 100000 in
set_option maxHeartbeats 2000000 in
/-- What is said goes out. -/
theorem send_any (g B : Nat) (S : Nat → Prop) (l : Lk) (sp en lo : Nat) (SC SJ : Nat → Prop) (ms : List MsgV) (w : World) (h : LkP w g S l sp en lo SC SJ) (hm : ∀ m ∈ ms, SayOk m) (hn : ms.length ≤ 1000) (hz : l.out.size ≤ 1099511627776)
    (hr : ∀ i m, ms[i]? = some m → rowN w B (i * 38) 38 = some m.cells.toArray) (hB : B ≠ g) :
    Calls Tryz.prog 72 #[.pointer (some ⟨g, 0, none⟩), .slice (some ⟨B, 0, none⟩) ms.length ms.length] w fun e w' => e = .returned (.int .i64 0) ∧ LkP w' g S { l with out := sendS ms l.out } sp en lo SC SJ ∧ Upd (· = g) w w' := by
  have hnn : (ms.length : Int) ≤ 1000 := by omega
  have hgl := h.lt g h.inG
  have H := hide h
  have HR := hide hr
  have HM := hide hm
  clear h hr hm
  go_enter Tryz.func72, Tryz.ntmps72
  go_wp2_with fail
  go_loopw [13] (fun iv wr => ∃ i : Nat, iv = .int .i64 (i : Int) ∧ i ≤ ms.length ∧ Hid (LkP wr g S { l with out := sendS (ms.take i) l.out } sp en lo SC SJ) ∧ Upd (· = g) w wr) (fun iv _ => ms.length - (intOf iv).toNat)
  case atStart => exact ⟨0, rfl, Nat.zero_le _, H, Upd.refl _ _⟩
  case round =>
    obtain ⟨i, rfl, hi, hC, u⟩ := hrel
    obtain ⟨wq, rfl⟩ : ∃ wq : World, wq = wr := ⟨_, rfl⟩
    by_cases hlt : i < ms.length
    · have hil : (i : Int) < (ms.length : Int) := by omega
      have hx : ms[i]? = some ms[i] := List.getElem?_eq_getElem hlt
      generalize ms[i] = m at hx
      have hmok := unhide HM m (List.mem_of_getElem? hx)
      have rB := rowN_upd (unhide HR i m hx) u hB
      have hml := hmok.put.ok.len
      have hU := hide u
      have HX := hide hx
      have HOK := hide hmok
      clear u hx hmok
      obtain ⟨hst, hMb, nM⟩ := ms_fresh wq m hml
      go_upto_region 4 with fail
      change Code.wp _ _ _ _ (msNew wq m)
      generalize msNew wq m = w1 at hMb nM ⊢
      generalize wq.heap.size = K at hMb hst ⊢
      have rK := hMb.row
      obtain ⟨t, ht1, ht2, hte, henc⟩ := encode1_any m (unhide HOK) w1
      have hput := fun w' => put_good t w' ht1 ht2
      have hP := (unhide hC).new nM
      have U1 := hide ((unhide hU).trans (nM.mono (fun _ _ h => h.elim)))
      have hos := send_size ⟨#[]⟩ (ms.take i) (fun m hm => unhide HM m (List.mem_of_mem_take hm)) l.out
      have hos2 : (sendS (ms.take i) l.out).size ≤ 1099512653776 := by
        rw [List.length_take] at hos
        omega
      have hfz : (framed t).size ≤ 1026 := by rw [framed_size]; omega
      generalize hO : sendS (ms.take i) l.out = O at hP hos2
      have HO := hide hO
      have HP := hide hP
      have HTE := hide hte
      generalize framed t = ft at hput hfz HTE
      clear hst hMb nM hC hU hP hos hO hte
      go_wp2_with fail
      refine henc.mono ?_
      rintro e w2 ⟨rfl, n2⟩
      have HP := hide ((unhide HP).new n2)
      have U2 := hide ((unhide U1).trans (n2.mono (fun _ _ h => h.elim)))
      clear henc rK n2
      go_wp2_with fail
      refine (hput w2).mono ?_
      rintro e w3 ⟨rfl, n3⟩
      have hP3 := (unhide HP).new n3
      have U3 := hide ((unhide U2).trans (n3.mono (fun _ _ h => h.elim)))
      have c3 : w3.cell? ⟨g, 3, none⟩ = some (.string O) := blk_cell hP3.at_ 3
      have f3 := blk_free hP3.at_ 3
      have hP4 := hP3.put_out (O ++ ft)
      have u4 : Upd (· = g) w3 (w3.setCell ⟨g, 3, none⟩ (.string (O ++ ft))) := (Upd.refl _ _).set1 _ _
      have HP4 := hide hP4
      have U4 := hide ((unhide U3).trans u4)
      have hOz : O.size + ft.size ≤ 9223372036854775807 := by omega
      clear hput n3 hP3 hP4 u4
      go_wp2_with fail
      go_roundw
      case rel =>
        refine ⟨i + 1, by go_num, hlt, ?_, unhide U4⟩
        have e1 := send_take (unhide HX) l.out
        rw [unhide HO, unhide HTE] at e1
        rw [e1]
        exact HP4
      case measure => simp [intOf]; omega
    · obtain rfl : i = ms.length := by omega
      have hU := hide u
      clear u
      go_wp2_with fail
      go_ret
      refine ⟨rfl, ?_, unhide hU⟩
      have := unhide hC
      rw [List.take_length] at this
      exact this
end Go.Proofs.YtfmkdoachjgjbaaGreatDoor
