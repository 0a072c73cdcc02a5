/-
  What each function of package frame, and of its reference, does: a splitter is a block of one cell, a string.
-/
import Derived.Test.YtdmipaeolmcdgaaRows
import Derived.Test.YtdmipaeolmcdgaaBase
namespace Go.Proofs.Ytdmipaeolmcdgaa
open Go.RowKit

/-- The number of the first two bytes. -/
def hd (r : ByteArray) : Int := bt r 0 * 256 + bt r 1
theorem hd_bd (r : ByteArray) : 0 ≤ hd r ∧ hd r ≤ 65535 := by
  have h0 := bt_bd r 0
  have h1 := bt_bd r 1
  unfold hd
  omega
/-- Do bytes begin by a length that may not be? -/
def badB (r : ByteArray) : Bool := decide (2 ≤ r.size) && (decide (hd r = 0) || decide (1024 < hd r))
theorem badB_short {r : ByteArray} (h : r.size < 2) : badB r = false := by unfold badB; simp; omega
theorem badB_zero {r : ByteArray} (h : 2 ≤ r.size) (h0 : hd r = 0) : badB r = true := by unfold badB; simp; omega
theorem badB_great {r : ByteArray} (h : 2 ≤ r.size) (h0 : 1024 < hd r) : badB r = true := by unfold badB; simp; omega
theorem badB_good {r : ByteArray} (h1 : 1 ≤ hd r) (h2 : hd r ≤ 1024) : badB r = false := by unfold badB; simp; omega

/-- Block b is a splitter that holds r. -/
def Spl (w : World) (b : Nat) (r : ByteArray) : Prop := w.heap[b]? = some (.cells #[.string r] 28 (0, 0))
theorem Spl.cell {w : World} {b : Nat} {r : ByteArray} (h : Spl w b r) : w.cell? ⟨b, 0, none⟩ = some (.string r) := (blk_cell h 0)
theorem Spl.free {w : World} {b : Nat} {r : ByteArray} (h : Spl w b r) : w.frozen? ⟨b, 0, none⟩ = false := (blk_free h 0)
theorem Spl.set {w : World} {b : Nat} {r : ByteArray} (h : Spl w b r) (s : ByteArray) : Spl (w.setCell ⟨b, 0, none⟩ (.string s)) b s := (blk_set h 0 _)
theorem Spl.drewN {w : World} {b : Nat} {r : ByteArray} (h : Spl w b r) (n : Nat) : Spl (w.drewN n) b r := h
theorem Spl.q {w w' : World} {b : Nat} {r : ByteArray} (h : Spl w b r) (q : Q w w') : Spl w' b r := q.old h
theorem Spl.upd {S : Nat → Prop} {w w' : World} {b : Nat} {r : ByteArray} (h : Spl w b r) (u : Upd S w w') (hn : ¬ S b) : Spl w' b r := u.old h hn

/-- The end of a call that leaves r in block b. -/
def Leaves (v : Value) (b : Nat) (r : ByteArray) (w : World) (e : Ending) (w' : World) : Prop := e = .returned v ∧ Upd (· = b) w w' ∧ Spl w' b r
set_option maxHeartbeats 400000 in
theorem size_any (b : Nat) (r : ByteArray) (w : World) (hc : w.cell? ⟨b, 0, none⟩ = some (.string r)) :
    Calls Try.prog 19 #[.pointer (some ⟨b, 0, none⟩)] w fun e w' => e = .returned (.int .i64 r.size) ∧ w = w' := by
  go_enter Try.func19, Try.ntmps19
  go_wp2
  go_ret
  exact ⟨rfl, rfl⟩

set_option maxHeartbeats 400000 in
theorem put_any (b : Nat) (r s : ByteArray) (w : World) (hc : w.cell? ⟨b, 0, none⟩ = some (.string r)) (hf : w.frozen? ⟨b, 0, none⟩ = false) (hs : r.size + s.size ≤ 9223372036854775807) :
    Calls Try.prog 17 #[.pointer (some ⟨b, 0, none⟩), .string s] w fun e w' => e = .returned (.tuple #[]) ∧ w.setCell ⟨b, 0, none⟩ (.string (r ++ s)) = w' := by
  go_enter Try.func17, Try.ntmps17
  go_wp2
  go_end0
  exact ⟨rfl, rfl⟩

set_option maxHeartbeats 400000 in
theorem length_short (b : Nat) (r : ByteArray) (w : World) (hc : w.cell? ⟨b, 0, none⟩ = some (.string r)) (h : r.size < 2) :
    Calls Try.prog 18 #[.pointer (some ⟨b, 0, none⟩)] w (Reads (.tuple #[.int .i64 0, .bool false]) w) := by
  go_enter Try.func18, Try.ntmps18
  go_wp2
  go_ret2
  exact ⟨rfl, Q.refl _⟩

set_option maxHeartbeats 400000 in
theorem length_long (b : Nat) (r : ByteArray) (w : World) (hc : w.cell? ⟨b, 0, none⟩ = some (.string r)) (h : 2 ≤ r.size) :
    Calls Try.prog 18 #[.pointer (some ⟨b, 0, none⟩)] w (Reads (.tuple #[.int .i64 (hd r), .bool true]) w) := by
  have h0 : ∀ w, (Instr.index 9 (.string r) (.int .i64 0)).run Try.prog w = .ok (.int .u8 (bt r 0)) w := run_index_at 9 r .i64 0 0 Try.underlying9 rfl (by omega)
  have h1 : ∀ w, (Instr.index 9 (.string r) (.int .i64 1)).run Try.prog w = .ok (.int .u8 (bt r 1)) w := run_index_at 9 r .i64 1 1 Try.underlying9 rfl (by omega)
  obtain ⟨b00, b01⟩ := bt_bd r 0
  obtain ⟨b10, b11⟩ := bt_bd r 1
  go_enter Try.func18, Try.ntmps18
  go_wp2
  go_quiet (fail)
  go_wp2
  go_ret2
  refine ⟨?_, Q.drewN _ _⟩
  show Ending.returned (.tuple #[.int .i64 (bits .or .i64 (bt r 0 * 256) (bt r 1)), .bool true]) = _
  rw [or8 _ _ b00 b01 b10 b11]
  rfl

set_option maxHeartbeats 400000 in
theorem cut_any (b : Nat) (r : ByteArray) (n : Int) (w : World) (hc : w.cell? ⟨b, 0, none⟩ = some (.string r)) (hf : w.frozen? ⟨b, 0, none⟩ = false) (h0 : 0 ≤ n) (hn : n ≤ r.size) :
    Calls Try.prog 20 #[.pointer (some ⟨b, 0, none⟩), .int .i64 n] w fun e w' => e = .returned (.string (r.extract 0 n.toNat)) ∧ w.setCell ⟨b, 0, none⟩ (.string (r.extract n.toNat r.size)) = w' := by
  obtain ⟨k, rfl⟩ := Int.eq_ofNat_of_zero_le h0
  go_enter Try.func20, Try.ntmps20
  go_wp2
  go_ret
  exact ⟨rfl, rfl⟩

set_option maxHeartbeats 400000 in
theorem bad_any (b : Nat) (r : ByteArray) (w : World) (hc : w.cell? ⟨b, 0, none⟩ = some (.string r)) :
    Calls Try.prog 10 #[.pointer (some ⟨b, 0, none⟩)] w (Reads (.bool (badB r)) w) := by
  obtain ⟨g0, g1⟩ := hd_bd r
  by_cases h : r.size < 2
  · rw [badB_short h]
    go_enter Try.func10, Try.ntmps10
    go_wp2_with fail
    refine (length_short b r _ hc h).mono ?_
    rintro e w1 ⟨rfl, q1⟩
    go_wp2
    go_ret
    exact ⟨rfl, q1⟩
  · by_cases h0 : hd r = 0
    · rw [badB_zero (by omega) h0]
      have H := Lib.hid h0
      clear h0
      go_enter Try.func10, Try.ntmps10
      go_wp2_with fail
      refine (length_long b r _ hc (by omega)).mono ?_
      rintro e w1 ⟨rfl, q1⟩
      have he : (hd r == 0) = true := by rw [H.out]; rfl
      go_wp2
      go_ret
      exact ⟨rfl, q1⟩
    · have he : (hd r == 0) = false := by simpa using h0
      by_cases h1 : 1024 < hd r
      · rw [badB_great (by omega) h1]
        go_enter Try.func10, Try.ntmps10
        go_wp2_with fail
        refine (length_long b r _ hc (by omega)).mono ?_
        rintro e w1 ⟨rfl, q1⟩
        go_wp2
        go_ret
        exact ⟨rfl, q1⟩
      · rw [badB_good (by omega) (by omega)]
        have h1' : decide (1024 < hd r) = false := by simpa using h1
        go_enter Try.func10, Try.ntmps10
        go_wp2_with fail
        refine (length_long b r _ hc (by omega)).mono ?_
        rintro e w1 ⟨rfl, q1⟩
        go_wp2
        go_ret
        exact ⟨rfl, q1⟩

theorem bad_true (b : Nat) (r : ByteArray) (w : World) (hc : w.cell? ⟨b, 0, none⟩ = some (.string r)) (h : badB r = true) :
    Calls Try.prog 10 #[.pointer (some ⟨b, 0, none⟩)] w (Reads (.bool true) w) := h ▸ bad_any b r w hc
theorem bad_false (b : Nat) (r : ByteArray) (w : World) (hc : w.cell? ⟨b, 0, none⟩ = some (.string r)) (h : badB r = false) :
    Calls Try.prog 10 #[.pointer (some ⟨b, 0, none⟩)] w (Reads (.bool false) w) := h ▸ bad_any b r w hc

set_option maxHeartbeats 400000 in
theorem left_any (b : Nat) (r : ByteArray) (w : World) (hc : w.cell? ⟨b, 0, none⟩ = some (.string r)) :
    Calls Try.prog 12 #[.pointer (some ⟨b, 0, none⟩)] w fun e w' => e = .returned (.int .i64 r.size) ∧ w = w' := by
  go_enter Try.func12, Try.ntmps12
  go_wp2_with fail
  refine (size_any b r _ hc).mono ?_
  rintro e w' ⟨rfl, rfl⟩
  go_wp2
  go_ret
  exact ⟨rfl, rfl⟩

set_option maxHeartbeats 400000 in
theorem push_bad (b : Nat) (r s : ByteArray) (w : World) (hb : Spl w b r) (h : badB r = true) :
    Calls Try.prog 9 #[.pointer (some ⟨b, 0, none⟩), .string s] w (Leaves (.int .i64 80) b r w) := by
  go_enter Try.func9, Try.ntmps9
  go_wp2_with fail
  refine (bad_true b r _ hb.cell h).mono ?_
  rintro e w1 ⟨rfl, q1⟩
  go_wp2
  go_ret
  exact ⟨rfl, q1.upd _, hb.q q1⟩

set_option maxHeartbeats 400000 in
theorem push_ok (b : Nat) (r s : ByteArray) (w : World) (hb : Spl w b r) (h : badB r = false) (hs : r.size + s.size ≤ 9223372036854775807) :
    Calls Try.prog 9 #[.pointer (some ⟨b, 0, none⟩), .string s] w (Leaves (.int .i64 0) b (r ++ s) w) := by
  go_enter Try.func9, Try.ntmps9
  go_wp2_with fail
  refine (bad_false b r _ hb.cell h).mono ?_
  rintro e w1 ⟨rfl, q1⟩
  go_wp2_with fail
  refine (put_any b r s _ (hb.q q1).cell (hb.q q1).free hs).mono ?_
  rintro e w' ⟨rfl, rfl⟩
  go_wp2
  go_ret
  exact ⟨rfl, (q1.upd _).set1 _ _, (hb.q q1).set _⟩

/-- Is the next frame there whole, and not bad? -/
def Ready (r : ByteArray) : Prop := 2 ≤ r.size ∧ badB r = false ∧ 2 + hd r ≤ r.size

set_option maxHeartbeats 400000 in
theorem next_ready (b : Nat) (r : ByteArray) (w : World) (hb : Spl w b r) (h : Ready r) :
    Calls Try.prog 11 #[.pointer (some ⟨b, 0, none⟩)] w (Leaves (.tuple #[.string ((r.extract 0 (2 + hd r).toNat).extract 2 (2 + hd r).toNat), .bool true]) b (r.extract (2 + hd r).toNat r.size) w) := by
  obtain ⟨h2, hbad, hle⟩ := h
  obtain ⟨g0, g1⟩ := hd_bd r
  have hd1 : decide ((r.size : Int) < 2 + hd r) = false := by simp; omega
  go_enter Try.func11, Try.ntmps11
  go_wp2_with fail
  refine (length_long b r _ hb.cell h2).mono ?_
  rintro e w1 ⟨rfl, q1⟩
  go_wp2_with fail
  refine (bad_false b r _ (hb.q q1).cell hbad).mono ?_
  rintro e w2 ⟨rfl, q2⟩
  go_wp2_with fail
  refine (size_any b r _ ((hb.q q1).q q2).cell).mono ?_
  rintro e w' ⟨rfl, rfl⟩
  go_wp2_with fail
  refine (cut_any b r (2 + hd r) _ ((hb.q q1).q q2).cell ((hb.q q1).q q2).free (by omega) hle).mono ?_
  rintro e w' ⟨rfl, rfl⟩
  go_wp2
  go_ret2
  exact ⟨rfl, ((q1.trans q2).upd _).set1 _ _, ((hb.q q1).q q2).set _⟩

theorem not_ready {r : ByteArray} (h : ¬ Ready r) : r.size < 2 ∨ (2 ≤ r.size ∧ badB r = true) ∨ (2 ≤ r.size ∧ badB r = false ∧ r.size < 2 + hd r) := by
  by_cases h1 : r.size < 2
  · exact .inl h1
  · cases hb : badB r with
    | true => exact .inr (.inl ⟨by omega, rfl⟩)
    | false => exact .inr (.inr ⟨by omega, rfl, by
        refine Int.not_le.1 fun h3 => h ⟨by omega, hb, h3⟩⟩)

set_option maxHeartbeats 400000 in
theorem next_not (b : Nat) (r : ByteArray) (w : World) (hb : Spl w b r) (h : ¬ Ready r) :
    Calls Try.prog 11 #[.pointer (some ⟨b, 0, none⟩)] w (Leaves (.tuple #[.string ⟨#[]⟩, .bool false]) b r w) := by
  obtain ⟨g0, g1⟩ := hd_bd r
  rcases not_ready h with h1 | ⟨h2, hbad⟩ | ⟨h2, hbad, hle⟩
  · clear h
    go_enter Try.func11, Try.ntmps11
    go_wp2_with fail
    refine (length_short b r _ hb.cell h1).mono ?_
    rintro e w1 ⟨rfl, q1⟩
    go_wp2
    go_ret2
    exact ⟨rfl, q1.upd _, hb.q q1⟩
  · clear h
    go_enter Try.func11, Try.ntmps11
    go_wp2_with fail
    refine (length_long b r _ hb.cell h2).mono ?_
    rintro e w1 ⟨rfl, q1⟩
    go_wp2_with fail
    refine (bad_true b r _ (hb.q q1).cell hbad).mono ?_
    rintro e w2 ⟨rfl, q2⟩
    go_wp2
    go_ret2
    exact ⟨rfl, (q1.trans q2).upd _, (hb.q q1).q q2⟩
  · have hd1 : decide ((r.size : Int) < 2 + hd r) = true := by simpa using hle
    clear h
    go_enter Try.func11, Try.ntmps11
    go_wp2_with fail
    refine (length_long b r _ hb.cell h2).mono ?_
    rintro e w1 ⟨rfl, q1⟩
    go_wp2_with fail
    refine (bad_false b r _ (hb.q q1).cell hbad).mono ?_
    rintro e w2 ⟨rfl, q2⟩
    go_wp2_with fail
    refine (size_any b r _ ((hb.q q1).q q2).cell).mono ?_
    rintro e w' ⟨rfl, rfl⟩
    go_wp2
    go_ret2
    exact ⟨rfl, (q1.trans q2).upd _, (hb.q q1).q q2⟩

/-! ### Put -/
set_option maxHeartbeats 400000 in
theorem put_empty (s : ByteArray) (w : World) (h : s.size = 0) :
    Calls Try.prog 13 #[.string s] w (Makes (.tuple #[.string ⟨#[]⟩, .int .i64 1]) w) := by
  obtain rfl : s = ⟨#[]⟩ := by
    cases s with | mk d => simpa [ByteArray.size] using h
  go_enter Try.func13, Try.ntmps13
  go_wp2
  go_ret2
  exact ⟨rfl, Upd.refl _ _⟩

set_option maxHeartbeats 400000 in
theorem put_great (s : ByteArray) (w : World) (h : 1024 < s.size) (hm : s.size ≤ maxLen) :
    Calls Try.prog 13 #[.string s] w (Makes (.tuple #[.string ⟨#[]⟩, .int .i64 80]) w) := by
  have hne := str_ne (s := s) (by omega)
  unfold maxLen at hm
  go_enter Try.func13, Try.ntmps13
  go_wp2
  go_ret2
  exact ⟨rfl, Upd.refl _ _⟩

/-- The frame of s. -/
def framed (s : ByteArray) : ByteArray := strOfNums [(s.size : Int) / 256, (s.size : Int) % 256] ++ s

set_option maxHeartbeats 400000 in
theorem put_good (s : ByteArray) (w : World) (h0 : 0 < s.size) (h1 : s.size ≤ 1024) :
    Calls Try.prog 13 #[.string s] w (Makes (.tuple #[.string (framed s), .int .i64 0]) w) := by
  have hne := str_ne h0
  have hcv := @run_string_two Try.prog 35 9 5 Try.underlying35 Try.underlying5 Try.underlying9 5
  have hsz : (strOfNums [(s.size : Int) / 256, (s.size : Int) % 256]).size = 2 := strOfNums_size _
  have hsz' : (strOfNums [(s.size : Int) / 256, (s.size : Int) % 256]).size + s.size ≤ 9223372036854775807 := by omega
  clear hsz
  go_enter Try.func13, Try.ntmps13
  go_wp2
  go_ret2
  exact ⟨rfl, (Upd.refl _ _).alloc _⟩

/-! ### the reference -/
set_option maxHeartbeats 400000 in
theorem refput_empty (s : ByteArray) (w : World) (h : s.size = 0) :
    Calls Try.prog 14 #[.string s] w (Makes (.tuple #[.string ⟨#[]⟩, .int .i64 1]) w) := by
  obtain rfl : s = ⟨#[]⟩ := by
    cases s with | mk d => simpa [ByteArray.size] using h
  go_enter Try.func14, Try.ntmps14
  go_wp2
  go_ret2
  exact ⟨rfl, Upd.refl _ _⟩

set_option maxHeartbeats 400000 in
theorem refput_great (s : ByteArray) (w : World) (h : 1024 < s.size) (hm : s.size ≤ maxLen) :
    Calls Try.prog 14 #[.string s] w (Makes (.tuple #[.string ⟨#[]⟩, .int .i64 80]) w) := by
  have hne : ((s.size : Int) == 0) = false := beq_eq_false_iff_ne.2 (by omega)
  unfold maxLen at hm
  go_enter Try.func14, Try.ntmps14
  go_wp2
  go_ret2
  exact ⟨rfl, Upd.refl _ _⟩

set_option maxHeartbeats 400000 in
theorem refput_good (s : ByteArray) (w : World) (h0 : 0 < s.size) (h1 : s.size ≤ 1024) :
    Calls Try.prog 14 #[.string s] w (Makes (.tuple #[.string (framed s), .int .i64 0]) w) := by
  have hne : ((s.size : Int) == 0) = false := beq_eq_false_iff_ne.2 (by omega)
  have hcv := @run_string_two Try.prog 35 9 5 Try.underlying35 Try.underlying5 Try.underlying9 5
  have hsz : (strOfNums [(s.size : Int) / 256, (s.size : Int) % 256]).size = 2 := strOfNums_size _
  have hsz' : (strOfNums [(s.size : Int) / 256, (s.size : Int) % 256]).size + s.size ≤ 9223372036854775807 := by omega
  clear hsz
  go_enter Try.func14, Try.ntmps14
  go_wp2
  go_ret2
  exact ⟨rfl, (Upd.refl _ _).alloc _⟩

set_option maxHeartbeats 400000 in
theorem reflength_short (r : ByteArray) (w : World) (h : r.size < 2) :
    Calls Try.prog 21 #[.string r] w (Reads (.int .i64 (-1)) w) := by
  go_enter Try.func21, Try.ntmps21
  go_wp2
  go_ret
  exact ⟨rfl, Q.refl _⟩

set_option maxHeartbeats 400000 in
theorem reflength_long (r : ByteArray) (w : World) (h : 2 ≤ r.size) :
    Calls Try.prog 21 #[.string r] w (Reads (.int .i64 (hd r)) w) := by
  have h0 : ∀ w, (Instr.index 9 (.string r) (.int .i64 0)).run Try.prog w = .ok (.int .u8 (bt r 0)) w := run_index_at 9 r .i64 0 0 Try.underlying9 rfl (by omega)
  have h1 : ∀ w, (Instr.index 9 (.string r) (.int .i64 1)).run Try.prog w = .ok (.int .u8 (bt r 1)) w := run_index_at 9 r .i64 1 1 Try.underlying9 rfl (by omega)
  obtain ⟨b00, b01⟩ := bt_bd r 0
  obtain ⟨b10, b11⟩ := bt_bd r 1
  go_enter Try.func21, Try.ntmps21
  go_wp2
  go_quiet (fail)
  go_wp2
  go_ret
  exact ⟨rfl, Q.drewN _ _⟩

set_option maxHeartbeats 400000 in
theorem refbad_any (r : ByteArray) (w : World) :
    Calls Try.prog 15 #[.string r] w (Reads (.bool (badB r)) w) := by
  obtain ⟨g0, g1⟩ := hd_bd r
  by_cases h : r.size < 2
  · rw [badB_short h]
    go_enter Try.func15, Try.ntmps15
    go_wp2_with fail
    refine (reflength_short r _ h).mono ?_
    rintro e w1 ⟨rfl, q1⟩
    go_wp2
    go_ret
    exact ⟨rfl, q1⟩
  · have h2 : 2 ≤ r.size := by omega
    by_cases h0 : hd r = 0
    · have h0' : (hd r == 0) = true := by rw [h0]; rfl
      rw [badB_zero h2 h0]
      clear h0
      go_enter Try.func15, Try.ntmps15
      go_wp2_with fail
      refine (reflength_long r _ h2).mono ?_
      rintro e w1 ⟨rfl, q1⟩
      go_wp2
      go_ret
      exact ⟨rfl, q1⟩
    · have h0' : (hd r == 0) = false := by simpa using h0
      by_cases h1 : 1024 < hd r
      · rw [badB_great h2 h1]
        have h1' : decide (1024 < hd r) = true := by simpa using h1
        go_enter Try.func15, Try.ntmps15
        go_wp2_with fail
        refine (reflength_long r _ h2).mono ?_
        rintro e w1 ⟨rfl, q1⟩
        go_wp2
        go_ret
        exact ⟨rfl, q1⟩
      · rw [badB_good (by omega) (by omega)]
        have h1' : decide (1024 < hd r) = false := by simpa using h1
        go_enter Try.func15, Try.ntmps15
        go_wp2_with fail
        refine (reflength_long r _ h2).mono ?_
        rintro e w1 ⟨rfl, q1⟩
        go_wp2
        go_ret
        exact ⟨rfl, q1⟩

theorem refbad_true (r : ByteArray) (w : World) (h : badB r = true) :
    Calls Try.prog 15 #[.string r] w (Reads (.bool true) w) := h ▸ refbad_any r w
theorem refbad_false (r : ByteArray) (w : World) (h : badB r = false) :
    Calls Try.prog 15 #[.string r] w (Reads (.bool false) w) := h ▸ refbad_any r w

set_option maxHeartbeats 400000 in
theorem refnext_ready (r : ByteArray) (w : World) (h : Ready r) :
    Calls Try.prog 16 #[.string r] w (Reads (.tuple #[.string (r.extract 2 (2 + hd r).toNat), .string (r.extract (2 + hd r).toNat r.size), .bool true]) w) := by
  obtain ⟨h2, hbad, hle⟩ := h
  obtain ⟨g0, g1⟩ := hd_bd r
  have hd1 : decide ((r.size : Int) < 2 + hd r) = false := by simp; omega
  go_enter Try.func16, Try.ntmps16
  go_wp2_with fail
  refine (reflength_long r _ h2).mono ?_
  rintro e w1 ⟨rfl, q1⟩
  go_wp2_with fail
  refine (refbad_false r _ hbad).mono ?_
  rintro e w2 ⟨rfl, q2⟩
  go_wp2
  go_quiet (fail)
  go_wp2
  go_ret3
  exact ⟨rfl, (q1.trans q2).drewN' _⟩

set_option maxHeartbeats 400000 in
theorem refnext_not (r : ByteArray) (w : World) (h : ¬ Ready r) :
    Calls Try.prog 16 #[.string r] w (Reads (.tuple #[.string ⟨#[]⟩, .string r, .bool false]) w) := by
  obtain ⟨g0, g1⟩ := hd_bd r
  rcases not_ready h with h1 | ⟨h2, hbad⟩ | ⟨h2, hbad, hle⟩
  · have hb := badB_short h1
    clear h
    have H := Lib.hid hb
    clear hb
    go_enter Try.func16, Try.ntmps16
    go_wp2_with fail
    refine (reflength_short r _ h1).mono ?_
    rintro e w1 ⟨rfl, q1⟩
    go_wp2_with fail
    refine (refbad_false r _ H.out).mono ?_
    rintro e w2 ⟨rfl, q2⟩
    go_wp2
    go_ret3
    exact ⟨rfl, q1.trans q2⟩
  · clear h
    go_enter Try.func16, Try.ntmps16
    go_wp2_with fail
    refine (reflength_long r _ h2).mono ?_
    rintro e w1 ⟨rfl, q1⟩
    go_wp2_with fail
    refine (refbad_true r _ hbad).mono ?_
    rintro e w2 ⟨rfl, q2⟩
    go_wp2
    go_ret3
    exact ⟨rfl, q1.trans q2⟩
  · have hd1 : decide ((r.size : Int) < 2 + hd r) = true := by simpa using hle
    clear h
    go_enter Try.func16, Try.ntmps16
    go_wp2_with fail
    refine (reflength_long r _ h2).mono ?_
    rintro e w1 ⟨rfl, q1⟩
    go_wp2_with fail
    refine (refbad_false r _ hbad).mono ?_
    rintro e w2 ⟨rfl, q2⟩
    go_wp2
    go_ret3
    exact ⟨rfl, q1.trans q2⟩

/-! ### both ways in one -/
theorem text_eq (r : ByteArray) (n : Nat) : (r.extract 0 n).extract 2 n = r.extract 2 n := by
  rw [ByteArray.extract_extract]
  simp
def ready (r : ByteArray) : Bool := decide (2 ≤ r.size) && !badB r && decide (2 + hd r ≤ r.size)
theorem ready_iff (r : ByteArray) : ready r = true ↔ Ready r := by
  unfold ready Ready
  simp [and_assoc]
def nextT (r : ByteArray) : ByteArray := if ready r then r.extract 2 (2 + hd r).toNat else ⟨#[]⟩
def nextR (r : ByteArray) : ByteArray := if ready r then r.extract (2 + hd r).toNat r.size else r
theorem nextR_size (r : ByteArray) : (nextR r).size ≤ r.size := by
  unfold nextR
  split
  · simp
  · omega
theorem next_all (b : Nat) (r : ByteArray) (w : World) (hb : Spl w b r) :
    Calls Try.prog 11 #[.pointer (some ⟨b, 0, none⟩)] w (Leaves (.tuple #[.string (nextT r), .bool (ready r)]) b (nextR r) w) := by
  by_cases h : Ready r
  · have h' := (ready_iff r).2 h
    have e := next_ready b r w hb h
    rw [text_eq] at e
    simpa only [nextT, nextR, h', if_true] using e
  · have h' : ready r = false := by
      cases hr : ready r with
      | true => exact absurd ((ready_iff r).1 hr) h
      | false => rfl
    simpa only [nextT, nextR, h', Bool.false_eq_true, if_false] using next_not b r w hb h
theorem refnext_all (r : ByteArray) (w : World) :
    Calls Try.prog 16 #[.string r] w (Reads (.tuple #[.string (nextT r), .string (nextR r), .bool (ready r)]) w) := by
  by_cases h : Ready r
  · have h' := (ready_iff r).2 h
    simpa only [nextT, nextR, h', if_true] using refnext_ready r w h
  · have h' : ready r = false := by
      cases hr : ready r with
      | true => exact absurd ((ready_iff r).1 hr) h
      | false => rfl
    simpa only [nextT, nextR, h', Bool.false_eq_true, if_false] using refnext_not r w h
def putS (s : ByteArray) : ByteArray := if s.size = 0 then ⟨#[]⟩ else if 1024 < s.size then ⟨#[]⟩ else framed s
def putE (s : ByteArray) : Int := if s.size = 0 then 1 else if 1024 < s.size then 80 else 0
theorem put_all (s : ByteArray) (w : World) (hm : s.size ≤ maxLen) :
    Calls Try.prog 13 #[.string s] w (Makes (.tuple #[.string (putS s), .int .i64 (putE s)]) w) := by
  by_cases h0 : s.size = 0
  · simpa only [putS, putE, h0, if_true] using put_empty s w h0
  · by_cases h1 : 1024 < s.size
    · simpa only [putS, putE, h0, h1, if_true, if_false] using put_great s w h1 hm
    · simpa only [putS, putE, h0, h1, if_true, if_false] using put_good s w (by omega) (by omega)
theorem refput_all (s : ByteArray) (w : World) (hm : s.size ≤ maxLen) :
    Calls Try.prog 14 #[.string s] w (Makes (.tuple #[.string (putS s), .int .i64 (putE s)]) w) := by
  by_cases h0 : s.size = 0
  · simpa only [putS, putE, h0, if_true] using refput_empty s w h0
  · by_cases h1 : 1024 < s.size
    · simpa only [putS, putE, h0, h1, if_true, if_false] using refput_great s w h1 hm
    · simpa only [putS, putE, h0, h1, if_true, if_false] using refput_good s w (by omega) (by omega)

end Go.Proofs.Ytdmipaeolmcdgaa
