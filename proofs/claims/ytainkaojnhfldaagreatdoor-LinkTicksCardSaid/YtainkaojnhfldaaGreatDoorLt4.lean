/-
  Law 18: shown; LinkTicks.
-/
import Derived.Test.YtainkaojnhfldaaGreatDoorMfa
set_option linter.unusedVariables false
set_option linter.unusedSimpArgs false
namespace Go.Proofs.YtainkaojnhfldaaGreatDoor
open Go.RowKit

/-- The first link of a pair, behind one offer and k ticks; what it says waits in s. -/
def TkS (w0 w : World) (p g : Nat) (cap a : Int) (k n : Nat) (s : ByteArray) : Prop := ∃ S L, Lt w0 w p g S L ∧ LkB L n ∧ L.ticks = (k : Int) ∧ TkC cap a (hvec z32i) k L.c ∧ L.out = s
theorem TkS.cell {w0 w : World} {p g : Nat} {cap a : Int} {k n : Nat} {s : ByteArray} (h : TkS w0 w p g cap a k n s) : w.cell? ⟨p, 0, none⟩ = some (.pointer (some ⟨g, 0, none⟩)) := by
  obtain ⟨S, L, h, -⟩ := h
  exact h.cell
theorem TkS.nw {w0 w w' : World} {p g : Nat} {cap a : Int} {k n : Nat} {s : ByteArray} (h : TkS w0 w p g cap a k n s) (u : New w w') : TkS w0 w' p g cap a k n s := by
  obtain ⟨S, L, h, r⟩ := h
  exact ⟨S, L, h.nw u, r⟩
theorem TkS.new {w0 w : World} {p g : Nat} {cap a : Int} {k n : Nat} {s : ByteArray} (h : TkS w0 w p g cap a k n s) : New w0 w := by
  obtain ⟨S, L, h, r⟩ := h
  exact h.new
theorem tk_offer (w0 w : World) (p g : Nat) (S : Nat → Prop) (cap : Int) (a : Nat) (h : Lt w0 w p g S (.new (Ch.new (setAT cap cap)))) (hT : Tc w0) (h0 : 1 ≤ a) (h1 : (a : Int) ≤ cap) (h2 : cap ≤ 1125899906842624) :
    Calls Tryz.prog 15 #[.pointer (some ⟨g, 0, none⟩), .int .u64 (a : Int), .agg (hshV z32i).toArray, .int .i64 9] w fun e w' => e = .returned (.tuple #[.int .u64 0, .int .i64 0]) ∧ ∃ s, TkS w0 w' p g cap a 0 1 s ∧ 2 < s.size := by
  have hap := apc_ge hT h.ge
  have hof : ((Lk.new (Ch.new (setAT cap cap))).c.offer (a : Int) (hvec z32i) ((9 : Nat) : Int)) = (tc1 cap a (hvec z32i), ⟨3, 9, 0, a, (hvec z32i).toList, 9, 0⟩, 0) := tc0_offer cap a (hvec z32i) (by omega) h1
  have hso : SayOk ⟨3, 9, 0, a, (hvec z32i).toList, 9, 0⟩ := by
    rw [hvec_list z32i_len]
    exact sayOk_mk (by decide) (by decide) (by decide) ⟨by omega, by omega⟩ z32i_len z32i_bytes (by decide) (by decide) (may_addN z32i (by omega) (by decide))
  have hc9 : ((9 : Nat) : Int) = 9 := rfl
  refine (loffer_any g S (.new (Ch.new (setAT cap cap))) a 9 z32i w h.lk ((LkB.new _).ok (by decide)) z32i_len z32i_bytes (by omega) (by decide) ⟨by show 0 < 1000000; decide, by show 0 < 1000000; decide⟩ (fun _ => by rw [hof]; exact hso) (by rw [hof]; exact hso.put.ok.len) (hT.new h.new).tabs ⟨hap.c, hap.d⟩).mono ?_
  rintro e w' ⟨rfl, hl, u⟩
  have hb := (LkB.new (Ch.new (setAT cap cap))).offers (a := a) (x := 9) z32i_len (fun _ => by rw [hof]; exact hso)
  have hL : (Lk.new (Ch.new (setAT cap cap))).offers a 9 z32i = (Lk.new (Ch.new (setAT cap cap))).says (tc1 cap a (hvec z32i)) (joinS (recO a 9 z32i)) ⟨3, 9, 0, a, (hvec z32i).toList, 9, 0⟩ := by
    unfold Lk.offers
    rw [hof]
    rfl
  rw [hL] at hl hb
  rw [hof]
  refine ⟨rfl, _, ⟨_, _, h.op u hl, hb, rfl, ⟨fun _ => rfl, fun h => by omega⟩, rfl⟩, ?_⟩
  show 2 < ((⟨#[]⟩ : ByteArray) ++ sayS _).size
  rw [ByteArray.size_append]
  have := hso.size
  omega
theorem tk_tick (w0 w : World) (p g : Nat) (cap a : Int) (k n : Nat) (s : ByteArray) (h : TkS w0 w p g cap a k n s) (hT : Tc w0) (hk : k < 1000) (hn : n < 1000) :
    Calls Tryz.prog 17 #[.pointer (some ⟨g, 0, none⟩)] w fun e w' => e = .returned (.int .i64 0) ∧ ∃ s', TkS w0 w' p g cap a (k + 1) (n + 1) s' ∧ (k = 2 → 2 < s'.size) ∧ (k ≠ 2 → s' = s) := by
  obtain ⟨S, L, h, hb, ht, hc, rfl⟩ := h
  refine (tick_any w0 w p g S L cap a (hvec z32i) k n h hT hb ht hk hn hc).mono ?_
  rintro e w' ⟨rfl, S', L', h', hb', ht', hc', h2, h3⟩
  exact ⟨rfl, L'.out, ⟨S', L', h', hb', ht', hc', rfl⟩, h2, h3⟩
theorem tk_out (w0 w : World) (p g : Nat) (cap a : Int) (k n : Nat) (s : ByteArray) (h : TkS w0 w p g cap a k n s) :
    Calls Tryz.prog 16 #[.pointer (some ⟨g, 0, none⟩)] w fun e w' => e = .returned (.string s) ∧ TkS w0 w' p g cap a k n ⟨#[]⟩ := by
  obtain ⟨S, L, h, hb, ht, hc, rfl⟩ := h
  refine (out_any g S L w h.lk hb.dead).mono ?_
  rintro e w' ⟨rfl, hl, u⟩
  exact ⟨rfl, S, _, h.opS u hl, ⟨hb.dead, hb.waits, hb.fused, hb.off, hb.many, hb.len, Nat.zero_le _⟩, ht, hc, rfl⟩
theorem tk_chan (w0 w : World) (p g : Nat) (cap a : Int) (k n : Nat) (s : ByteArray) (h : TkS w0 w p g cap a k n s) :
    ∃ en, Calls Tryz.prog 18 #[.pointer (some ⟨g, 0, none⟩)] w (Reads (.pointer (some ⟨en, 0, none⟩)) w) ∧
      (k < 3 → ∀ w', New w w' → Calls Tryz.prog 19 #[.pointer (some ⟨en, 0, none⟩)] w' (Reads (.tuple #[.int .i64 0, .int .i64 0, .bool false]) w')) ∧
      (3 ≤ k → ∀ w', New w w' → Calls Tryz.prog 19 #[.pointer (some ⟨en, 0, none⟩)] w' (Reads (.tuple #[.int .i64 1, .int .i64 0, .bool true]) w')) := by
  obtain ⟨S, L, h, hb, ht, hc, rfl⟩ := h
  obtain ⟨sp, en, lo, SC, SJ, hl⟩ := h.lk
  refine ⟨en, chan_any g _ w hl.at_, fun hk w' n' => ?_, fun hk w' n' => ?_⟩
  · have := counts_any en SC L.c w' (hl.chn.new n')
    rw [hc.1 hk] at this
    exact this
  · have := counts_any en SC L.c w' (hl.chn.new n')
    rw [hc.2 hk] at this
    exact this
attribute [local go_sem ↓ high] bd_hsh_fold
attribute [local go_sem] bd_hsh rowN_drew
set_option maxRecDepth 100000 in
set_option maxHeartbeats 4000000 in
theorem shown18 (w : World) (hT : Tc w) : Calls Tryz.prog 14 #[] w (Makes (.bool true) w) := by
  have hb := begin18 10 10 (by decide) (by decide) (by decide) w
  go_enter Tryz.func14, Tryz.ntmps14
  go_wp2_with fail
  refine hb.mono ?_
  rintro e w1 ⟨p, g, S, rfl, h1⟩
  have c := h1.cell
  have ho := tk_offer w w1 p g S 10 4 h1 hT (by decide) (by decide) (by decide)
  clear hb h1
  go_wp2_with fail
  refine ho.mono ?_
  rintro e w2 ⟨rfl, sa, h2, hsa⟩
  replace c := h2.cell
  have hu := tk_out w w2 p g _ _ _ _ _ h2
  clear ho h2
  go_wp2_with fail
  refine hu.mono ?_
  rintro e w3 ⟨rfl, h3⟩
  replace c := h3.cell
  have ht := tk_tick w w3 p g _ _ _ _ _ h3 hT (by decide) (by decide)
  clear hu h3
  go_wp2_with fail
  refine ht.mono ?_
  rintro e w4 ⟨rfl, s4, h4, -, e4⟩
  obtain rfl := e4 (by decide)
  replace c := h4.cell
  have ht := tk_tick w w4 p g _ _ _ _ _ h4 hT (by decide) (by decide)
  clear h4
  go_wp2_with fail
  refine ht.mono ?_
  rintro e w5 ⟨rfl, s5, h5, -, e5⟩
  obtain rfl := e5 (by decide)
  replace c := h5.cell
  have hu := tk_out w w5 p g _ _ _ _ _ h5
  clear ht h5
  go_wp2_with fail
  refine hu.mono ?_
  rintro e w6 ⟨rfl, h6⟩
  replace c := h6.cell
  have ht := tk_tick w w6 p g _ _ _ _ _ h6 hT (by decide) (by decide)
  clear hu h6
  go_wp2_with fail
  refine ht.mono ?_
  rintro e w7 ⟨rfl, s7, h7, e7, -⟩
  have hs7 := e7 (by trivial)
  replace c := h7.cell
  have hu := tk_out w w7 p g _ _ _ _ _ h7
  clear ht h7 e7
  go_wp2_with fail
  refine hu.mono ?_
  rintro e w8 ⟨rfl, h8⟩
  replace c := h8.cell
  obtain ⟨en, hch, -⟩ := tk_chan w w8 p g _ _ _ _ _ h8
  have N8 := hide h8.new
  have hsa' : (0 : Int) < (sa.size : Int) := by omega
  have hs7' : (0 : Int) < (s7.size : Int) := by omega
  clear hu h8
  go_wp2_with fail
  refine hch.mono ?_
  rintro e w9 ⟨rfl, q9⟩
  have N9 := hide ((unhide N8).trans (q9.upd _))
  clear hch q9 c
  go_wp2_with fail
  go_ret
  exact ⟨rfl, unhide N9⟩
set_option maxRecDepth 100000 in
set_option maxHeartbeats 600000 in
theorem ticks_walk (n : Int) (a : Nat) (w : World) (hn0 : 0 ≤ n) (hn : n < 256) (ha : a < 65536) (hT : Tc w) : Calls Tryz.prog 4 #[.int .u8 n, .int .u16 (a : Int)] w (Makes (.bool true) w) := by
  have hb := begin18 100000 100000 (by decide) (by decide) (by decide) w
  have hca : IntKind.u64.wrap (a : Int) = a := wrapU (by omega) (by omega)
  have hca1 : IntKind.u64.wrap ((a : Int) + 1) = (a : Int) + 1 := wrapU (by omega) (by omega)
  obtain ⟨k, hk⟩ : ∃ k : Nat, n % 12 = (k : Int) := ⟨(n % 12).toNat, by omega⟩
  have hk12 : k < 12 := by omega
  have hkn : IntKind.i64.wrap n = n := wrapI (by omega) (by omega)
  have hkm : IntKind.i64.wrap (n.tmod 12) = (k : Int) := by
    rw [Int.tmod_eq_emod_of_nonneg hn0, hk]
    exact wrapI (by omega) (by omega)
  go_enter Tryz.func4, Tryz.ntmps4
  go_wp2_with fail
  refine hb.mono ?_
  rintro e w1 ⟨p, g, S, rfl, h1⟩
  have hsh := shown18 w1 (hT.new h1.new)
  have H1 := hide h1
  clear hb h1
  go_wp2_with fail
  refine hsh.mono ?_
  rintro e w2 ⟨rfl, n2⟩
  have h2 := (unhide H1).nw n2
  have c := h2.cell
  have ho := tk_offer w w2 p g S 100000 (a + 1) h2 hT (by omega) (by omega) (by decide)
  rw [show ((a + 1 : Nat) : Int) = (a : Int) + 1 from rfl] at ho
  clear hsh h2 H1 n2
  go_wp2_with fail
  clear hca1
  generalize (a : Int) + 1 = A at ho ⊢
  refine ho.mono ?_
  rintro e w3 ⟨rfl, sa, h3, -⟩
  replace c := h3.cell
  have hu := tk_out w w3 p g _ _ _ _ _ h3
  clear ho h3
  go_wp2_with fail
  refine hu.mono ?_
  rintro e w4 ⟨rfl, h4⟩
  have H4 := hide h4
  clear hu h4 c hca
  go_wp2_with fail
  go_loopw [8] (fun iv wr => ∃ i : Nat, iv = .int .i64 ((i : Int) + 1) ∧ i ≤ k ∧ Hid (TkS w wr p g 100000 A i (i + 1) ⟨#[]⟩)) (fun iv _ => k + 1 - (intOf iv).toNat)
  case atStart => exact ⟨0, rfl, Nat.zero_le _, H4⟩
  case round =>

    obtain ⟨i, rfl, hi, H⟩ := hrel
    obtain ⟨wq, rfl⟩ : ∃ wq : World, wq = wr := ⟨_, rfl⟩
    clear H4
    by_cases hlt : i < k
    · have hle : (i : Int) + 1 ≤ (k : Int) := by omega
      have ht := tk_tick w wq p g _ _ _ _ _ (unhide H) hT (by omega) (by omega)
      have c := (unhide H).cell
      go_wp2_with fail
      refine ht.mono ?_
      rintro e w5 ⟨rfl, s5, h5, e5, e6⟩
      have hu := tk_out w w5 p g _ _ _ _ _ h5
      replace c := h5.cell
      clear ht h5 H
      go_wp2_with fail
      refine hu.mono ?_
      rintro e w6 ⟨rfl, h6⟩
      have H6 := hide h6
      clear hu h6 c
      by_cases h2 : i = 2
      · subst h2
        have hs := e5 rfl
        have hne := str_ne (s := s5) (by omega)
        clear e5 e6
        rw [show ((2 : Nat) : Int) + 1 = 3 from rfl] at *
        go_wp2_with fail
        go_roundw
        case rel => exact ⟨3, rfl, by omega, H6⟩
        case measure => simp [intOf]; omega
      · obtain rfl := e6 h2
        have hb : ((i : Int) + 1 == 3) = false := by simp; omega
        clear e5 e6
        go_wp2_with fail
        go_roundw
        case rel => exact ⟨i + 1, by go_num, hlt, H6⟩
        case measure => simp [intOf]; omega
    · obtain rfl : i = k := by omega
      obtain ⟨en, hch, hc1, hc2⟩ := tk_chan w wq p g _ _ _ _ _ (unhide H)
      have c := (unhide H).cell
      have N := hide (unhide H).new
      have hgt : ¬ ((i : Int) + 1 ≤ (i : Int)) := by omega
      clear H
      go_wp2_with fail
      refine hch.mono ?_
      rintro e w5 ⟨rfl, q5⟩
      have N5 := hide ((unhide N).trans (q5.upd _))
      by_cases h3 : i < 3
      · have hc := hc1 h3 w5 (q5.upd _)
        have h3' : ¬ (3 : Int) ≤ (i : Int) := by omega
        clear hc1 hc2 hch c
        go_wp2_with fail
        refine hc.mono ?_
        rintro e w6 ⟨rfl, q6⟩
        have N6 := hide ((unhide N5).trans (q6.upd _))
        clear hc q6 q5
        go_wp2_with fail
        go_ret
        exact ⟨by show Ending.returned (Value.bool (!decide ((3 : Int) ≤ (i : Int)))) = _; rw [decide_eq_false (show ¬ (3 : Int) ≤ (i : Int) by omega)]; rfl, unhide N6⟩
      · have hc := hc2 (by omega) w5 (q5.upd _)
        have h3' : (3 : Int) ≤ (i : Int) := by omega
        clear hc1 hc2 hch c
        go_wp2_with fail
        refine hc.mono ?_
        rintro e w6 ⟨rfl, q6⟩
        have N6 := hide ((unhide N5).trans (q6.upd _))
        clear hc q6 q5
        go_wp2_with fail
        go_ret
        exact ⟨rfl, unhide N6⟩
end Go.Proofs.YtainkaojnhfldaaGreatDoor
