/-
  The law ChannelMany.
-/
import Derived.Test.YtjpmomdechibmaaGreatDoorMei
namespace Go.Proofs.YtjpmomdechibmaaGreatDoor
set_option linter.unusedVariables false
set_option linter.unusedSimpArgs false
open Go.RowKit

/-- An end that has offered k times x. -/
structure Mny (c : Ch) (k : Nat) (x : Int) : Prop where
  shut : c.k.shutSaid = false
  loc : c.loc = 1000000 - (k : Int) * x
  next : c.k.nextOwn = (k : Int)
  len : c.xs.length = k
  many : manyL true c.xs = k
  news : c.news.length = k
theorem kx_bd {k : Nat} {x : Int} (hk : k ≤ 8) (hx : 1 ≤ x ∧ x ≤ 65536) : 0 ≤ (k : Int) * x ∧ (k : Int) * x ≤ 524288 := by
  have h1 : (0 : Int) ≤ (k : Int) * x := Int.mul_nonneg (by omega) (by omega)
  have h2 : (k : Int) * x ≤ 8 * 65536 := Int.mul_le_mul (by omega) hx.2 (by omega) (by omega)
  exact ⟨h1, by omega⟩
theorem mny_ok {c : Ch} {k : Nat} {x : Int} (h : Mny c k x) (hk : k < 8) (hx : 1 ≤ x ∧ x ≤ 65536) : offerErr c x 5 = 0 := by
  have hb := kx_bd (k := k) (by omega) hx
  unfold offerErr
  rw [h.shut, if_neg (by decide), if_neg (by omega), if_neg (by omega), if_neg (by rw [h.many]; omega), if_neg (by rw [h.loc]; omega)]
theorem mny_step {c : Ch} {k : Nat} {x : Int} (h : Mny c k x) (hk : k < 8) (hx : 1 ≤ x ∧ x ≤ 65536) (hv : Vector Int 32) :
    (c.offer x hv 5).2.2 = 0 ∧ (c.offer x hv 5).2.1.id = (k : Int) ∧ (c.offer x hv 5).2.1.hash = hv.toList ∧ Mny (c.offer x hv 5).1 (k + 1) x := by
  have he : c.offer x hv 5 = ((c.offered x hv 5).say (offerMsg c x hv 5), (offerMsg c x hv 5).on c.s.ch, 0) := by unfold Ch.offer; rw [if_pos (mny_ok h hk hx)]
  have hb := kx_bd (k := k) (by omega) hx
  rw [he]
  refine ⟨rfl, h.next, rfl, ⟨h.shut, ?_, ?_, ?_, ?_, ?_⟩⟩
  · show c.loc - x = _
    rw [h.loc]
    have : ((k + 1 : Nat) : Int) * x = (k : Int) * x + x := by rw [Int.natCast_succ, Int.add_mul, Int.one_mul]
    omega
  · show IntKind.u64.wrap (c.k.nextOwn + 1) = _
    rw [h.next, wrapU (by omega) (by omega)]
    omega
  · show (c.xs ++ [offerLive c x hv 5]).length = _
    rw [List.length_append, h.len]
    rfl
  · show manyL true (c.xs ++ [offerLive c x hv 5]) = _
    have := h.many
    unfold manyL at this ⊢
    rw [List.filter_append, List.length_append, this]
    rfl
  · show (c.news ++ [_]).length = _
    rw [List.length_append, h.news]
    rfl
theorem mny_full {c : Ch} {x : Int} (h : Mny c 8 x) (hx : 1 ≤ x ∧ x ≤ 65536) (hv : Vector Int 32) : c.offer x hv 5 = (c, MsgV.zero, 130) := by
  have he : offerErr c x 5 = 130 := by
    unfold offerErr
    rw [h.shut, if_neg (by decide), if_neg (by omega), if_neg (by omega), if_pos (by rw [h.many]; omega)]
  unfold Ch.offer
  rw [he, if_neg (by decide)]
theorem mny_new (x : Int) : Mny (Ch.new (setA 1000000 1000000)) 0 x := ⟨rfl, by rw [Int.natCast_zero, Int.zero_mul]; rfl, rfl, rfl, rfl, rfl⟩
def neMsg (x y : Value) : Sem Value := binOp .neq 30 x y
theorem ne_msg_fold (x y : Value) : binOp .neq 30 x y = neMsg x y := rfl
theorem zero_msgOk : MsgOk MsgV.zero := msg_ok ⟨by decide, by decide⟩ ⟨by decide, by decide⟩ ⟨by decide, by decide⟩ ⟨by decide, by decide⟩ z32i_len z32i_bytes ⟨by decide, by decide⟩ ⟨by decide, by decide⟩
theorem ne_zero (w : World) : (neMsg (.agg MsgV.zero.cells.toArray) (.agg MsgV.zero.cells.toArray)).run Tryz.prog w = .ok (.bool false) w :=
  run_neq_flat 5 (by decide) Tryz.eqMsg Tryz.flatMsg Tryz.aggMsg (msg_fits zero_msgOk) (msg_fits zero_msgOk) true (by simp) w

attribute [local go_sem ↓ high] ld_hsh_fold st_hsh_fold al_hsh_fold bd_hsh_fold ld_msg_fold st_msg_fold al_msg_fold bd_msg_fold ne_msg_fold
attribute [local go_sem] ld_hsh st_hsh al_hsh bd_hsh rowN_drew ld_msg st_msg al_msg bd_msg_zero fld_base0 fld_base1 ne_zero

set_option maxRecDepth 100000 in
set_option maxHeartbeats 2000000 in
theorem many_law (n a : Int) (w : World) (hn : 0 ≤ n ∧ n < 256) (ha : 0 ≤ a ∧ a < 65536) (hT : Tb w) : Calls Tryz.prog 4 #[.int .u8 n, .int .u16 a] w (Makes (.bool true) w) := by
  obtain ⟨m, hm⟩ : ∃ m : Nat, m = n.toNat % 12 := ⟨_, rfl⟩
  have hmb : m < 12 := by omega
  have hmod : n.tmod 12 = (m : Int) := by rw [Int.tmod_eq_emod_of_nonneg hn.1]; omega
  have hw1 : IntKind.i64.wrap n = n := wrapI (by omega) (by omega)
  have hwa : IntKind.u64.wrap a = a := wrapU (by omega) (by omega)
  obtain ⟨x, hx⟩ : ∃ x, x = a + 1 := ⟨_, rfl⟩
  have hxb : 1 ≤ x ∧ x ≤ 65536 := by omega
  have hwm : IntKind.i64.wrap (m : Int) = (m : Int) := wrapI (by omega) (by omega)
  have HX := hide hx
  clear hm hx
  go_enter Tryz.func4, Tryz.ntmps4
  go_wp2_with fail
  refine (begin_any 1000000 1000000 ⟨by decide, by decide⟩ ⟨by decide, by decide⟩ w).mono ?_
  rintro e w1 (⟨p, gA, gB, rfl, -, hP⟩ | ⟨-, hno, -⟩)
  case inr => exact absurd ⟨by decide, by decide, by decide⟩ hno
  have HP := hide hP
  have hsh := shown_any w1 (hT.new hP.two.n)
  clear hP
  go_wp2_with fail
  refine hsh.mono ?_
  rintro e w2 ⟨rfl, n2⟩
  have HP2 := hide ((unhide HP).new n2)
  clear hsh HP n2
  have hmn := hide (mny_new x)
  go_wp2_with fail
  go_loopw [6, 7] (fun lv iv wr => ∃ (i : Nat) (L : Int) (SA : Nat → Prop) (c : Ch), iv = .int .i64 (i : Int) ∧ i ≤ m ∧ lv = .int .u64 L ∧ Hid (L = 1000000 - ((min i 8 : Nat) : Int) * x) ∧ Hid (PrP w wr p gA gB SA (· = gB) c (Ch.new (setB 1000000 1000000)) [] [] nilV nilV false) ∧ Hid (Mny c (min i 8) x)) (fun _ iv _ => m - (intOf iv).toNat)
  case atStart => exact ⟨0, _, _, _, rfl, Nat.zero_le _, rfl, hide (by rw [Nat.zero_min, Int.natCast_zero, Int.zero_mul]; rfl), HP2, hmn⟩
  case round =>
    obtain ⟨i, L, SA, c, rfl, hi, rfl, hL, hPr, hM⟩ := hrel
    obtain ⟨wq, rfl⟩ : ∃ wq : World, wq = wr := ⟨_, rfl⟩
    have c0 := (unhide hPr).cell.1
    by_cases hlt : i < m
    · have hlti : (i : Int) < (m : Int) := by omega
      have hoff := offerH_any gA SA c x z32i 5 wq (unhide hPr).two.A z32i_len z32i_bytes ⟨by omega, by omega⟩ ⟨by decide, by decide⟩ ⟨by rw [(unhide hM).news]; omega, by rw [(unhide hM).len]; omega⟩
      by_cases h8 : i < 8
      · have e8 : min i 8 = i := by omega
        rw [e8] at hM hL
        have hb := kx_bd (k := i) (by omega) hxb
        obtain ⟨s1, s2, s3, s4⟩ := mny_step (unhide hM) h8 hxb (hvec z32i)
        obtain ⟨c', hc'⟩ : ∃ c', c' = (c.offer x (hvec z32i) 5).1 := ⟨_, rfl⟩
        obtain ⟨M, hMe⟩ : ∃ M, M = (c.offer x (hvec z32i) 5).2.1 := ⟨_, rfl⟩
        rw [s1, ← hc', ← hMe] at hoff
        rw [← hMe] at s2 s3
        rw [← hc'] at s4
        have hMl : M.hash.length = 32 := by rw [s3, hvec_list z32i_len]; exact z32i_len
        have h8i : ¬ (8 : Int) ≤ (i : Int) := by omega
        have hwi : IntKind.u64.wrap (i : Int) = (i : Int) := wrapU (by omega) (by omega)
        have hLx : IntKind.u64.wrap (L - (a + 1)) = L - (a + 1) := by rw [← unhide HX]; exact wrapU (by rw [unhide hL]; omega) (by rw [unhide hL]; omega)
        have hloc : c'.loc = L - (a + 1) := by
          rw [← unhide HX, s4.loc, unhide hL]
          have : ((i + 1 : Nat) : Int) * x = (i : Int) * x + x := by rw [Int.natCast_succ, Int.add_mul, Int.one_mul]
          omega
        have HS4 := hide s4
        have HLO := hide hloc
        have HS2 := hide s2
        clear s1 s2 s3 s4 hc' hMe hb e8 hloc
        go_wp2_with fail
        rw [← unhide HX]
        refine hoff.mono ?_
        rintro e w3 ⟨rfl, hc3, u3⟩
        obtain ⟨hst, hK, nK⟩ := ms_fresh w3 M hMl
        have HP4 := hide (((unhide hPr).opA hc3 u3).new nK)
        clear hoff hc3 u3 nK c0
        go_upto_region 9 with fail
        change Code.wp _ _ _ _ (msNew w3 M)
        generalize msNew w3 M = w4 at hK HP4 ⊢
        generalize w3.heap.size = K at hK ⊢
        have c0 := (unhide HP4).cell.1
        obtain ⟨-, -, m2, -, -, -, -⟩ := hK.cells
        rw [unhide HS2] at m2
        have hbs := baseS_any gA _ c' w4 (unhide HP4).two.A
        rw [unhide HLO] at hbs
        clear hst hK
        go_wp2_with fail
        refine hbs.mono ?_
        rintro e w5 ⟨rfl, n5⟩
        have HP5 := hide ((unhide HP4).new n5)
        clear hbs n5 c0 m2
        go_wp2_with fail
        go_roundw
        case rel =>
          have e9 : min (i + 1) 8 = i + 1 := by omega
          refine ⟨i + 1, L - (a + 1), _, c', by go_num, by omega, rfl, hide ?_, HP5, ?_⟩
          · rw [e9, ← unhide HX, unhide hL]
            have : ((i + 1 : Nat) : Int) * x = (i : Int) * x + x := by rw [Int.natCast_succ, Int.add_mul, Int.one_mul]
            omega
          · rw [e9]; exact HS4
        case measure => simp [intOf]; omega
      · have e8 : min i 8 = 8 := by omega
        have e9 : min (i + 1) 8 = 8 := by omega
        rw [e8] at hM hL
        rw [mny_full (unhide hM) hxb] at hoff
        have h8i : (8 : Int) ≤ (i : Int) := by omega
        go_wp2_with fail
        rw [← unhide HX]
        refine hoff.mono ?_
        rintro e w3 ⟨rfl, hc3, u3⟩
        obtain ⟨hst, hK, nK⟩ := ms_fresh w3 MsgV.zero z32i_len
        have HP4 := hide (((unhide hPr).opA hc3 u3).new nK)
        clear hoff hc3 u3 nK c0
        go_upto_region 9 with fail
        change Code.wp _ _ _ _ (msNew w3 MsgV.zero)
        generalize msNew w3 MsgV.zero = w4 at hK HP4 ⊢
        generalize w3.heap.size = K at hK ⊢
        have rK := hK.row
        clear hst hK e8
        go_wp2_with fail
        go_roundw
        case rel => exact ⟨i + 1, L, _, c, by go_num, by omega, rfl, by rw [e9]; exact hL, HP4, by rw [e9]; exact hM⟩
        case measure => simp [intOf]; omega
    · obtain rfl : i = m := by omega
      have hlv := liveS_any gA SA c wq (unhide hPr).two.A
      have hlen := (unhide hM).len
      have HPN := hide (unhide hPr).two.n
      clear hM hL
      go_wp2_with fail
      refine hlv.mono ?_
      rintro e w3 ⟨u, rfl, n3, hu⟩
      obtain ⟨ua, uk, rfl⟩ : ∃ a k, u = .slice a c.xs.length k := by
        rcases hu with ⟨a, k, rfl, he⟩ | ⟨g6, cap6, rfl, _, _⟩
        · exact ⟨a, k, by rw [he]; rfl⟩
        · exact ⟨_, cap6, rfl⟩
      rw [hlen]
      have hN := (unhide HPN).trans n3
      clear hu hlv n3 hlen c0
      by_cases h8 : i ≤ 8
      · have e8 : min i 8 = i := by omega
        have h8i : (i : Int) ≤ 8 := by omega
        rw [e8]
        go_wp2_with fail
        go_ret
        exact ⟨rfl, hN⟩
      · have e8 : min i 8 = 8 := by omega
        have h8i : (8 : Int) < (i : Int) := by omega
        rw [e8]
        go_wp2_with fail
        go_ret
        exact ⟨rfl, hN⟩

end Go.Proofs.YtjpmomdechibmaaGreatDoor
