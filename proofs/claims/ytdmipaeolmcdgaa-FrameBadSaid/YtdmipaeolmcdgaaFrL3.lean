/-
  FrameBad: the walk.
-/
import Derived.Test.YtdmipaeolmcdgaaFrL1
import Derived.Test.YtdmipaeolmcdgaaFrPlain
namespace Go.Proofs.Ytdmipaeolmcdgaa
open Go.RowKit

set_option maxHeartbeats 400000 in
theorem bad_long (good more : ByteArray) (n : Int) (w : World) (hg : good.size ≤ maxLen) (hm : more.size ≤ maxLen) (h : 300 < good.size ∨ 300 < more.size) : Calls Try.prog 6 #[.string good, .string more, .int .u16 n] w (Makes (.bool true) w) := by
  unfold maxLen at hg hm
  by_cases h1 : 300 < good.size
  · clear h
    go_enter Try.func6, Try.ntmps6
    go_wp2_with fail
    refine (shown_any _).mono ?_
    rintro e w1 ⟨rfl, m1⟩
    go_wp2
    go_ret
    exact ⟨rfl, m1⟩
  · have h2 : 300 < more.size := by omega
    clear h
    go_enter Try.func6, Try.ntmps6
    go_wp2_with fail
    refine (shown_any _).mono ?_
    rintro e w1 ⟨rfl, m1⟩
    go_wp2
    go_ret
    exact ⟨rfl, m1⟩

set_option maxRecDepth 100000 in
set_option maxHeartbeats 1000000 in
theorem bad_e0 (good more : ByteArray) (n : Int) (w : World) (hg : good.size ≤ 300) (hm : more.size ≤ 300) (n0 : 0 ≤ n) (n1 : n ≤ 65535) (hgood : good.size = 0) (hk : n ≤ 0) : Calls Try.prog 6 #[.string good, .string more, .int .u16 n] w (Makes (.bool true) w) := by
  have hcv := @run_string_two Try.prog 35 9 5 Try.underlying35 Try.underlying5 Try.underlying9 5
  obtain rfl : n = 0 := by omega
  clear n0 n1 hk
  obtain rfl := empty_of hgood
  have hp := fun w => put_all ⟨#[]⟩ w (Nat.zero_le _)
  have e1 : putS ⟨#[]⟩ = ⟨#[]⟩ := rfl
  have e2 : putE ⟨#[]⟩ = 1 := rfl
  rw [e1, e2] at hp
  have er : (⟨#[]⟩ : ByteArray) ++ ((⟨#[]⟩ ++ strOfNums [0, 0]) ++ more) = two (0) ++ more := by rw [nil_append, nil_append]; rfl
  have hsz : (⟨#[]⟩ ++ strOfNums [0, 0]).size ≤ 2 := by rw [nil_append, show (strOfNums [0, 0]).size = 2 from rfl]; omega
  have hsz2 : ((⟨#[]⟩ ++ strOfNums [0, 0]) ++ more).size ≤ 302 := by rw [size_append', nil_append, show (strOfNums [0, 0]).size = 2 from rfl]; omega
  have hbad : badB (two (0) ++ more) = true := bad_two _ _ (by omega) (by omega) (by omega)
  have hnr := not_ready_of_bad hbad
  have hsr : (two (0) ++ more).size = 2 + more.size := by rw [size_append', two_size]
  have hT := nextT_not hnr
  have hR := nextR_not hnr
  have hnx := fun b w hb => next_all b (two (0) ++ more) w hb
  rw [hT, hR, hnr] at hnx
  have hlf := fun b w hc => left_any b (two (0) ++ more) w hc
  rw [hsr] at hlf
  have hbd := fun b w hc => bad_true b (two (0) ++ more) w hc hbad
  have hpb := fun b w hb => push_bad b (two (0) ++ more) ⟨#[122]⟩ w hb hbad
  have hs2 : (strOfNums [0, 0]).size ≤ 2 := by rw [show (strOfNums [0, 0]).size = 2 from rfl]; omega
  clear e1 e2 hgood hT hR hnr hsr hbad
  have Hp := hide hp
  have Er := hide er
  have Hn := hide hnx
  have Hl := hide hlf
  have Hb := hide hbd
  have Hq := hide hpb
  clear hp er hnx hlf hbd hpb
  go_enter Try.func6, Try.ntmps6
  go_wp2_with fail
  refine (shown_any _).mono ?_
  rintro e w1 ⟨rfl, m1⟩
  go_wp2_with fail
  refine (unhide Hp _).mono ?_
  rintro e w2 ⟨rfl, m2⟩
  have b2 : Spl w2 w1.heap.size ⟨#[]⟩ := Spl.upd (b := w1.heap.size) (blk_alloc _ _) m2 (fun h => h)
  have hn2 : New w w2 := (m1.alloc _).trans m2
  clear m2
  go_wp2_with fail
  refine (push_ok _ ⟨#[]⟩ _ _ (blk_alloc_old b2 _) (badB_short (by decide)) (by rw [show (⟨#[]⟩ : ByteArray).size = 0 from rfl]; omega)).mono ?_
  rintro e w3 ⟨rfl, u3, b3⟩
  have hn3 : New w w3 := (hn2.alloc _).then u3 (by intro i hi h; have := m1.size; omega)
  clear u3 hn2 b2
  replace b3 : Spl w3 w1.heap.size _ := (unhide Er) ▸ b3
  go_wp2_with fail
  refine (unhide Hn _ _ b3).mono ?_
  rintro e w4 ⟨rfl, u4, b4⟩
  go_wp2_with fail
  refine (unhide Hn _ _ b4).mono ?_
  rintro e w5 ⟨rfl, u5, b5⟩
  go_wp2_with fail
  refine (unhide Hb _ _ b5.cell).mono ?_
  rintro e w6 ⟨rfl, q6⟩
  go_wp2_with fail
  refine (unhide Hq _ _ (b5.q q6)).mono ?_
  rintro e w7 ⟨rfl, u7, b7⟩
  go_wp2_with fail
  refine (unhide Hl _ _ b7.cell).mono ?_
  rintro e w' ⟨rfl, rfl⟩
  go_wp2
  go_ret
  exact ⟨rfl, hn3.then (u4.trans (u5.trans ((q6.upd _).trans u7))) (by intro i hi h; have := m1.size; omega)⟩

set_option maxRecDepth 100000 in
set_option maxHeartbeats 1000000 in
theorem bad_e1 (good more : ByteArray) (n : Int) (w : World) (hg : good.size ≤ 300) (hm : more.size ≤ 300) (n0 : 0 ≤ n) (n1 : n ≤ 65535) (hgood : good.size = 0) (hk : 1 ≤ n) (hk2 : n ≤ 1024) : Calls Try.prog 6 #[.string good, .string more, .int .u16 n] w (Makes (.bool true) w) := by
  have hcv := @run_string_two Try.prog 35 9 5 Try.underlying35 Try.underlying5 Try.underlying9 5
  obtain rfl := empty_of hgood
  have hp := fun w => put_all ⟨#[]⟩ w (Nat.zero_le _)
  have e1 : putS ⟨#[]⟩ = ⟨#[]⟩ := rfl
  have e2 : putE ⟨#[]⟩ = 1 := rfl
  rw [e1, e2] at hp
  have er : (⟨#[]⟩ : ByteArray) ++ ((⟨#[]⟩ ++ two (n + 1024)) ++ more) = two (n + 1024) ++ more := by rw [nil_append, nil_append]
  have hsz : (⟨#[]⟩ ++ two (n + 1024)).size ≤ 2 := by rw [nil_append, two_size]; omega
  have hsz2 : ((⟨#[]⟩ ++ two (n + 1024)) ++ more).size ≤ 302 := by rw [size_append', nil_append, two_size]; omega
  have hbad : badB (two (n + 1024) ++ more) = true := bad_two _ _ (by omega) (by omega) (by omega)
  have hnr := not_ready_of_bad hbad
  have hsr : (two (n + 1024) ++ more).size = 2 + more.size := by rw [size_append', two_size]
  have hT := nextT_not hnr
  have hR := nextR_not hnr
  have hnx := fun b w hb => next_all b (two (n + 1024) ++ more) w hb
  rw [hT, hR, hnr] at hnx
  have hlf := fun b w hc => left_any b (two (n + 1024) ++ more) w hc
  rw [hsr] at hlf
  have hbd := fun b w hc => bad_true b (two (n + 1024) ++ more) w hc hbad
  have hpb := fun b w hb => push_bad b (two (n + 1024) ++ more) ⟨#[122]⟩ w hb hbad
  have hs2 : (two (n + 1024)).size ≤ 2 := by rw [two_size]; omega
  clear e1 e2 hgood hT hR hnr hsr hbad
  have Hp := hide hp
  have Er := hide er
  have Hn := hide hnx
  have Hl := hide hlf
  have Hb := hide hbd
  have Hq := hide hpb
  clear hp er hnx hlf hbd hpb
  unfold two at hs2 hsz hsz2
  go_enter Try.func6, Try.ntmps6
  go_wp2_with fail
  refine (shown_any _).mono ?_
  rintro e w1 ⟨rfl, m1⟩
  go_wp2_with fail
  refine (unhide Hp _).mono ?_
  rintro e w2 ⟨rfl, m2⟩
  have b2 : Spl w2 w1.heap.size ⟨#[]⟩ := Spl.upd (b := w1.heap.size) (blk_alloc _ _) m2 (fun h => h)
  have hn2 : New w w2 := (m1.alloc _).trans m2
  clear m2
  go_wp2_with fail
  refine (push_ok _ ⟨#[]⟩ _ _ (blk_alloc_old b2 _) (badB_short (by decide)) (by rw [show (⟨#[]⟩ : ByteArray).size = 0 from rfl]; omega)).mono ?_
  rintro e w3 ⟨rfl, u3, b3⟩
  have hn3 : New w w3 := (hn2.alloc _).then u3 (by intro i hi h; have := m1.size; omega)
  clear u3 hn2 b2
  replace b3 : Spl w3 w1.heap.size _ := (unhide Er) ▸ b3
  go_wp2_with fail
  refine (unhide Hn _ _ b3).mono ?_
  rintro e w4 ⟨rfl, u4, b4⟩
  go_wp2_with fail
  refine (unhide Hn _ _ b4).mono ?_
  rintro e w5 ⟨rfl, u5, b5⟩
  go_wp2_with fail
  refine (unhide Hb _ _ b5.cell).mono ?_
  rintro e w6 ⟨rfl, q6⟩
  go_wp2_with fail
  refine (unhide Hq _ _ (b5.q q6)).mono ?_
  rintro e w7 ⟨rfl, u7, b7⟩
  go_wp2_with fail
  refine (unhide Hl _ _ b7.cell).mono ?_
  rintro e w' ⟨rfl, rfl⟩
  go_wp2
  go_ret
  exact ⟨rfl, hn3.then (u4.trans (u5.trans ((q6.upd _).trans u7))) (by intro i hi h; have := m1.size; omega)⟩

set_option maxRecDepth 100000 in
set_option maxHeartbeats 1000000 in
theorem bad_e2 (good more : ByteArray) (n : Int) (w : World) (hg : good.size ≤ 300) (hm : more.size ≤ 300) (n0 : 0 ≤ n) (n1 : n ≤ 65535) (hgood : good.size = 0) (hk : 1024 < n) : Calls Try.prog 6 #[.string good, .string more, .int .u16 n] w (Makes (.bool true) w) := by
  have hcv := @run_string_two Try.prog 35 9 5 Try.underlying35 Try.underlying5 Try.underlying9 5
  obtain rfl := empty_of hgood
  have hp := fun w => put_all ⟨#[]⟩ w (Nat.zero_le _)
  have e1 : putS ⟨#[]⟩ = ⟨#[]⟩ := rfl
  have e2 : putE ⟨#[]⟩ = 1 := rfl
  rw [e1, e2] at hp
  have er : (⟨#[]⟩ : ByteArray) ++ ((⟨#[]⟩ ++ two (n)) ++ more) = two (n) ++ more := by rw [nil_append, nil_append]
  have hsz : (⟨#[]⟩ ++ two (n)).size ≤ 2 := by rw [nil_append, two_size]; omega
  have hsz2 : ((⟨#[]⟩ ++ two (n)) ++ more).size ≤ 302 := by rw [size_append', nil_append, two_size]; omega
  have hbad : badB (two (n) ++ more) = true := bad_two _ _ (by omega) (by omega) (by omega)
  have hnr := not_ready_of_bad hbad
  have hsr : (two (n) ++ more).size = 2 + more.size := by rw [size_append', two_size]
  have hT := nextT_not hnr
  have hR := nextR_not hnr
  have hnx := fun b w hb => next_all b (two (n) ++ more) w hb
  rw [hT, hR, hnr] at hnx
  have hlf := fun b w hc => left_any b (two (n) ++ more) w hc
  rw [hsr] at hlf
  have hbd := fun b w hc => bad_true b (two (n) ++ more) w hc hbad
  have hpb := fun b w hb => push_bad b (two (n) ++ more) ⟨#[122]⟩ w hb hbad
  have hs2 : (two (n)).size ≤ 2 := by rw [two_size]; omega
  clear e1 e2 hgood hT hR hnr hsr hbad
  have Hp := hide hp
  have Er := hide er
  have Hn := hide hnx
  have Hl := hide hlf
  have Hb := hide hbd
  have Hq := hide hpb
  clear hp er hnx hlf hbd hpb
  unfold two at hs2 hsz hsz2
  go_enter Try.func6, Try.ntmps6
  go_wp2_with fail
  refine (shown_any _).mono ?_
  rintro e w1 ⟨rfl, m1⟩
  go_wp2_with fail
  refine (unhide Hp _).mono ?_
  rintro e w2 ⟨rfl, m2⟩
  have b2 : Spl w2 w1.heap.size ⟨#[]⟩ := Spl.upd (b := w1.heap.size) (blk_alloc _ _) m2 (fun h => h)
  have hn2 : New w w2 := (m1.alloc _).trans m2
  clear m2
  go_wp2_with fail
  refine (push_ok _ ⟨#[]⟩ _ _ (blk_alloc_old b2 _) (badB_short (by decide)) (by rw [show (⟨#[]⟩ : ByteArray).size = 0 from rfl]; omega)).mono ?_
  rintro e w3 ⟨rfl, u3, b3⟩
  have hn3 : New w w3 := (hn2.alloc _).then u3 (by intro i hi h; have := m1.size; omega)
  clear u3 hn2 b2
  replace b3 : Spl w3 w1.heap.size _ := (unhide Er) ▸ b3
  go_wp2_with fail
  refine (unhide Hn _ _ b3).mono ?_
  rintro e w4 ⟨rfl, u4, b4⟩
  go_wp2_with fail
  refine (unhide Hn _ _ b4).mono ?_
  rintro e w5 ⟨rfl, u5, b5⟩
  go_wp2_with fail
  refine (unhide Hb _ _ b5.cell).mono ?_
  rintro e w6 ⟨rfl, q6⟩
  go_wp2_with fail
  refine (unhide Hq _ _ (b5.q q6)).mono ?_
  rintro e w7 ⟨rfl, u7, b7⟩
  go_wp2_with fail
  refine (unhide Hl _ _ b7.cell).mono ?_
  rintro e w' ⟨rfl, rfl⟩
  go_wp2
  go_ret
  exact ⟨rfl, hn3.then (u4.trans (u5.trans ((q6.upd _).trans u7))) (by intro i hi h; have := m1.size; omega)⟩

set_option maxRecDepth 100000 in
set_option maxHeartbeats 1000000 in
theorem bad_g0 (good more : ByteArray) (n : Int) (w : World) (hg : good.size ≤ 300) (hm : more.size ≤ 300) (n0 : 0 ≤ n) (n1 : n ≤ 65535) (hg0 : 0 < good.size) (hk : n ≤ 0) : Calls Try.prog 6 #[.string good, .string more, .int .u16 n] w (Makes (.bool true) w) := by
  have hcv := @run_string_two Try.prog 35 9 5 Try.underlying35 Try.underlying5 Try.underlying9 5
  obtain rfl : n = 0 := by omega
  clear n0 n1 hk
  have hp := fun w => put_all good w (by unfold maxLen; omega)
  rw [putS_good hg0 (by omega), putE_good hg0 (by omega)] at hp
  have er : (⟨#[]⟩ : ByteArray) ++ ((framed good ++ strOfNums [0, 0]) ++ more) = framed good ++ (two (0) ++ more) := by rw [nil_append, append_assoc']; rfl
  have hsz : (framed good ++ strOfNums [0, 0]).size ≤ 304 := by rw [size_append', framed_size, show (strOfNums [0, 0]).size = 2 from rfl]; omega
  have hsz2 : ((framed good ++ strOfNums [0, 0]) ++ more).size ≤ 604 := by rw [size_append', size_append', framed_size, show (strOfNums [0, 0]).size = 2 from rfl]; omega
  have hbad : badB (two (0) ++ more) = true := bad_two _ _ (by omega) (by omega) (by omega)
  have hnr := not_ready_of_bad hbad
  have hsr : (two (0) ++ more).size = 2 + more.size := by rw [size_append', two_size]
  have hT := nextT_not hnr
  have hR := nextR_not hnr
  have hnx := fun b w hb => next_all b (two (0) ++ more) w hb
  rw [hT, hR, hnr] at hnx
  have hnx1 := fun b w hb => next_all b (framed good ++ (two (0) ++ more)) w hb
  rw [nextT_framed good _ hg0 (by omega), nextR_framed good _ hg0 (by omega), ready_framed good _ hg0 (by omega)] at hnx1
  have hlf := fun b w hc => left_any b (two (0) ++ more) w hc
  rw [hsr] at hlf
  have hbd := fun b w hc => bad_true b (two (0) ++ more) w hc hbad
  have hpb := fun b w hb => push_bad b (two (0) ++ more) ⟨#[122]⟩ w hb hbad
  have hs2 : (strOfNums [0, 0]).size ≤ 2 := by rw [show (strOfNums [0, 0]).size = 2 from rfl]; omega
  have hs3 : (framed good).size ≤ 302 := by rw [framed_size]; omega
  clear hT hR hnr hsr hbad
  have Hp := hide hp
  have Er := hide er
  have Hn := hide hnx
  have Hl := hide hlf
  have Hb := hide hbd
  have Hq := hide hpb
  clear hp er hnx hlf hbd hpb
  have Hn1 := hide hnx1
  clear hnx1
  go_enter Try.func6, Try.ntmps6
  go_wp2_with fail
  refine (shown_any _).mono ?_
  rintro e w1 ⟨rfl, m1⟩
  go_wp2_with fail
  refine (unhide Hp _).mono ?_
  rintro e w2 ⟨rfl, m2⟩
  have b2 : Spl w2 w1.heap.size ⟨#[]⟩ := Spl.upd (b := w1.heap.size) (blk_alloc _ _) m2 (fun h => h)
  have hn2 : New w w2 := (m1.alloc _).trans m2
  clear m2
  go_wp2_with fail
  refine (push_ok _ ⟨#[]⟩ _ _ (blk_alloc_old b2 _) (badB_short (by decide)) (by rw [show (⟨#[]⟩ : ByteArray).size = 0 from rfl]; omega)).mono ?_
  rintro e w3 ⟨rfl, u3, b3⟩
  have hn3 : New w w3 := (hn2.alloc _).then u3 (by intro i hi h; have := m1.size; omega)
  clear u3 hn2 b2
  replace b3 : Spl w3 w1.heap.size _ := (unhide Er) ▸ b3
  go_wp2_with fail
  refine (unhide Hn1 _ _ b3).mono ?_
  rintro e w4 ⟨rfl, u4, b4⟩
  go_wp2_with fail
  refine (unhide Hn _ _ b4).mono ?_
  rintro e w5 ⟨rfl, u5, b5⟩
  go_wp2_with fail
  refine (unhide Hb _ _ b5.cell).mono ?_
  rintro e w6 ⟨rfl, q6⟩
  go_wp2_with fail
  refine (unhide Hq _ _ (b5.q q6)).mono ?_
  rintro e w7 ⟨rfl, u7, b7⟩
  go_wp2_with fail
  refine (unhide Hl _ _ b7.cell).mono ?_
  rintro e w' ⟨rfl, rfl⟩
  go_wp2
  go_ret
  exact ⟨rfl, hn3.then (u4.trans (u5.trans ((q6.upd _).trans u7))) (by intro i hi h; have := m1.size; omega)⟩

set_option maxRecDepth 100000 in
set_option maxHeartbeats 1000000 in
theorem bad_g1 (good more : ByteArray) (n : Int) (w : World) (hg : good.size ≤ 300) (hm : more.size ≤ 300) (n0 : 0 ≤ n) (n1 : n ≤ 65535) (hg0 : 0 < good.size) (hk : 1 ≤ n) (hk2 : n ≤ 1024) : Calls Try.prog 6 #[.string good, .string more, .int .u16 n] w (Makes (.bool true) w) := by
  have hcv := @run_string_two Try.prog 35 9 5 Try.underlying35 Try.underlying5 Try.underlying9 5
  have hp := fun w => put_all good w (by unfold maxLen; omega)
  rw [putS_good hg0 (by omega), putE_good hg0 (by omega)] at hp
  have er : (⟨#[]⟩ : ByteArray) ++ ((framed good ++ two (n + 1024)) ++ more) = framed good ++ (two (n + 1024) ++ more) := by rw [nil_append, append_assoc']
  have hsz : (framed good ++ two (n + 1024)).size ≤ 304 := by rw [size_append', framed_size, two_size]; omega
  have hsz2 : ((framed good ++ two (n + 1024)) ++ more).size ≤ 604 := by rw [size_append', size_append', framed_size, two_size]; omega
  have hbad : badB (two (n + 1024) ++ more) = true := bad_two _ _ (by omega) (by omega) (by omega)
  have hnr := not_ready_of_bad hbad
  have hsr : (two (n + 1024) ++ more).size = 2 + more.size := by rw [size_append', two_size]
  have hT := nextT_not hnr
  have hR := nextR_not hnr
  have hnx := fun b w hb => next_all b (two (n + 1024) ++ more) w hb
  rw [hT, hR, hnr] at hnx
  have hnx1 := fun b w hb => next_all b (framed good ++ (two (n + 1024) ++ more)) w hb
  rw [nextT_framed good _ hg0 (by omega), nextR_framed good _ hg0 (by omega), ready_framed good _ hg0 (by omega)] at hnx1
  have hlf := fun b w hc => left_any b (two (n + 1024) ++ more) w hc
  rw [hsr] at hlf
  have hbd := fun b w hc => bad_true b (two (n + 1024) ++ more) w hc hbad
  have hpb := fun b w hb => push_bad b (two (n + 1024) ++ more) ⟨#[122]⟩ w hb hbad
  have hs2 : (two (n + 1024)).size ≤ 2 := by rw [two_size]; omega
  have hs3 : (framed good).size ≤ 302 := by rw [framed_size]; omega
  clear hT hR hnr hsr hbad
  have Hp := hide hp
  have Er := hide er
  have Hn := hide hnx
  have Hl := hide hlf
  have Hb := hide hbd
  have Hq := hide hpb
  clear hp er hnx hlf hbd hpb
  have Hn1 := hide hnx1
  clear hnx1
  unfold two at hs2 hsz hsz2
  go_enter Try.func6, Try.ntmps6
  go_wp2_with fail
  refine (shown_any _).mono ?_
  rintro e w1 ⟨rfl, m1⟩
  go_wp2_with fail
  refine (unhide Hp _).mono ?_
  rintro e w2 ⟨rfl, m2⟩
  have b2 : Spl w2 w1.heap.size ⟨#[]⟩ := Spl.upd (b := w1.heap.size) (blk_alloc _ _) m2 (fun h => h)
  have hn2 : New w w2 := (m1.alloc _).trans m2
  clear m2
  go_wp2_with fail
  refine (push_ok _ ⟨#[]⟩ _ _ (blk_alloc_old b2 _) (badB_short (by decide)) (by rw [show (⟨#[]⟩ : ByteArray).size = 0 from rfl]; omega)).mono ?_
  rintro e w3 ⟨rfl, u3, b3⟩
  have hn3 : New w w3 := (hn2.alloc _).then u3 (by intro i hi h; have := m1.size; omega)
  clear u3 hn2 b2
  replace b3 : Spl w3 w1.heap.size _ := (unhide Er) ▸ b3
  go_wp2_with fail
  refine (unhide Hn1 _ _ b3).mono ?_
  rintro e w4 ⟨rfl, u4, b4⟩
  go_wp2_with fail
  refine (unhide Hn _ _ b4).mono ?_
  rintro e w5 ⟨rfl, u5, b5⟩
  go_wp2_with fail
  refine (unhide Hb _ _ b5.cell).mono ?_
  rintro e w6 ⟨rfl, q6⟩
  go_wp2_with fail
  refine (unhide Hq _ _ (b5.q q6)).mono ?_
  rintro e w7 ⟨rfl, u7, b7⟩
  go_wp2_with fail
  refine (unhide Hl _ _ b7.cell).mono ?_
  rintro e w' ⟨rfl, rfl⟩
  go_wp2
  go_ret
  exact ⟨rfl, hn3.then (u4.trans (u5.trans ((q6.upd _).trans u7))) (by intro i hi h; have := m1.size; omega)⟩

set_option maxRecDepth 100000 in
set_option maxHeartbeats 1000000 in
theorem bad_g2 (good more : ByteArray) (n : Int) (w : World) (hg : good.size ≤ 300) (hm : more.size ≤ 300) (n0 : 0 ≤ n) (n1 : n ≤ 65535) (hg0 : 0 < good.size) (hk : 1024 < n) : Calls Try.prog 6 #[.string good, .string more, .int .u16 n] w (Makes (.bool true) w) := by
  have hcv := @run_string_two Try.prog 35 9 5 Try.underlying35 Try.underlying5 Try.underlying9 5
  have hp := fun w => put_all good w (by unfold maxLen; omega)
  rw [putS_good hg0 (by omega), putE_good hg0 (by omega)] at hp
  have er : (⟨#[]⟩ : ByteArray) ++ ((framed good ++ two (n)) ++ more) = framed good ++ (two (n) ++ more) := by rw [nil_append, append_assoc']
  have hsz : (framed good ++ two (n)).size ≤ 304 := by rw [size_append', framed_size, two_size]; omega
  have hsz2 : ((framed good ++ two (n)) ++ more).size ≤ 604 := by rw [size_append', size_append', framed_size, two_size]; omega
  have hbad : badB (two (n) ++ more) = true := bad_two _ _ (by omega) (by omega) (by omega)
  have hnr := not_ready_of_bad hbad
  have hsr : (two (n) ++ more).size = 2 + more.size := by rw [size_append', two_size]
  have hT := nextT_not hnr
  have hR := nextR_not hnr
  have hnx := fun b w hb => next_all b (two (n) ++ more) w hb
  rw [hT, hR, hnr] at hnx
  have hnx1 := fun b w hb => next_all b (framed good ++ (two (n) ++ more)) w hb
  rw [nextT_framed good _ hg0 (by omega), nextR_framed good _ hg0 (by omega), ready_framed good _ hg0 (by omega)] at hnx1
  have hlf := fun b w hc => left_any b (two (n) ++ more) w hc
  rw [hsr] at hlf
  have hbd := fun b w hc => bad_true b (two (n) ++ more) w hc hbad
  have hpb := fun b w hb => push_bad b (two (n) ++ more) ⟨#[122]⟩ w hb hbad
  have hs2 : (two (n)).size ≤ 2 := by rw [two_size]; omega
  have hs3 : (framed good).size ≤ 302 := by rw [framed_size]; omega
  clear hT hR hnr hsr hbad
  have Hp := hide hp
  have Er := hide er
  have Hn := hide hnx
  have Hl := hide hlf
  have Hb := hide hbd
  have Hq := hide hpb
  clear hp er hnx hlf hbd hpb
  have Hn1 := hide hnx1
  clear hnx1
  unfold two at hs2 hsz hsz2
  go_enter Try.func6, Try.ntmps6
  go_wp2_with fail
  refine (shown_any _).mono ?_
  rintro e w1 ⟨rfl, m1⟩
  go_wp2_with fail
  refine (unhide Hp _).mono ?_
  rintro e w2 ⟨rfl, m2⟩
  have b2 : Spl w2 w1.heap.size ⟨#[]⟩ := Spl.upd (b := w1.heap.size) (blk_alloc _ _) m2 (fun h => h)
  have hn2 : New w w2 := (m1.alloc _).trans m2
  clear m2
  go_wp2_with fail
  refine (push_ok _ ⟨#[]⟩ _ _ (blk_alloc_old b2 _) (badB_short (by decide)) (by rw [show (⟨#[]⟩ : ByteArray).size = 0 from rfl]; omega)).mono ?_
  rintro e w3 ⟨rfl, u3, b3⟩
  have hn3 : New w w3 := (hn2.alloc _).then u3 (by intro i hi h; have := m1.size; omega)
  clear u3 hn2 b2
  replace b3 : Spl w3 w1.heap.size _ := (unhide Er) ▸ b3
  go_wp2_with fail
  refine (unhide Hn1 _ _ b3).mono ?_
  rintro e w4 ⟨rfl, u4, b4⟩
  go_wp2_with fail
  refine (unhide Hn _ _ b4).mono ?_
  rintro e w5 ⟨rfl, u5, b5⟩
  go_wp2_with fail
  refine (unhide Hb _ _ b5.cell).mono ?_
  rintro e w6 ⟨rfl, q6⟩
  go_wp2_with fail
  refine (unhide Hq _ _ (b5.q q6)).mono ?_
  rintro e w7 ⟨rfl, u7, b7⟩
  go_wp2_with fail
  refine (unhide Hl _ _ b7.cell).mono ?_
  rintro e w' ⟨rfl, rfl⟩
  go_wp2
  go_ret
  exact ⟨rfl, hn3.then (u4.trans (u5.trans ((q6.upd _).trans u7))) (by intro i hi h; have := m1.size; omega)⟩

theorem bad_walk (good more : ByteArray) (n : Int) (w : World) (hg : good.size ≤ maxLen) (hm : more.size ≤ maxLen) (hn : (Lit.int .u16 n).wf = true) : Calls Try.prog 6 #[.string good, .string more, .int .u16 n] w (Makes (.bool true) w) := by
  obtain ⟨n0, n1⟩ := bounds_u16 hn
  by_cases hl : 300 < good.size ∨ 300 < more.size
  · exact bad_long good more n w hg hm hl
  · by_cases h0 : good.size = 0
    · by_cases a : n ≤ 0
      · exact bad_e0 good more n w (by omega) (by omega) n0 n1 h0 a
      · by_cases b : n ≤ 1024
        · exact bad_e1 good more n w (by omega) (by omega) n0 n1 h0 (by omega) b
        · exact bad_e2 good more n w (by omega) (by omega) n0 n1 h0 (by omega)
    · by_cases a : n ≤ 0
      · exact bad_g0 good more n w (by omega) (by omega) n0 n1 (by omega) a
      · by_cases b : n ≤ 1024
        · exact bad_g1 good more n w (by omega) (by omega) n0 n1 (by omega) (by omega) b
        · exact bad_g2 good more n w (by omega) (by omega) n0 n1 (by omega) (by omega)

end Go.Proofs.Ytdmipaeolmcdgaa
