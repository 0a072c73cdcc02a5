/-
  Law 18, LinkBroken: the walk.
-/
import Derived.Test.YtfmkdoachjgjbaaGreatDoorLn1
set_option linter.unusedVariables false
set_option linter.unusedSimpArgs false
namespace Go.Proofs.YtfmkdoachjgjbaaGreatDoor
open Go.RowKit

attribute [local go_sem ↓ high] ld_msr_fold st_msr_fold al_msr_fold bd_msr_fold ld_bas_fold
attribute [local go_sem] ld_msr st_msr al_msr rowN_drew ld_bas
set_option maxRecDepth 100000 in
set_option maxHeartbeats 2000000 in
theorem broken_card (s more : ByteArray) (w : World) (hs : s.size ≤ maxLen) (hm : more.size ≤ maxLen) (hT : Tc w) : Calls Tryz.prog 4 #[.string s, .string more] w (Makes (.bool true) w) := by
  have hb := begin18 100 200 (by decide) (by decide) (by decide) w
  have heq : ∀ W, (binOp .eql 59 (.agg #[.int .u64 100, .int .u64 100]) (.agg #[.int .u64 100, .int .u64 100])).run Tryz.prog W = .ok (.bool true) W := fun W => by kernel_rfl
  go_enter Tryz.func4, Tryz.ntmps4
  go_wp2_with fail
  refine hb.mono ?_
  rintro e w1 ⟨p, g, S, rfl, h1⟩
  have hsh := shown18 w1 (hT.new h1.new)
  have H1 := hide h1
  have HT := hide hT
  clear hb h1 hT
  by_cases hA : 300 < s.size
  · have hA' : (300 : Int) < (s.size : Int) := by omega
    clear heq HT
    go_wp2_with fail
    refine hsh.mono ?_
    rintro e w2 ⟨rfl, n2⟩
    have N2 := hide ((unhide H1).new.trans n2)
    clear hsh n2 H1
    go_wp2_with fail
    go_ret
    exact ⟨rfl, unhide N2⟩
  by_cases hB : 300 < more.size
  · have hB' : (300 : Int) < (more.size : Int) := by omega
    clear heq HT
    go_wp2_with fail
    refine hsh.mono ?_
    rintro e w2 ⟨rfl, n2⟩
    have N2 := hide ((unhide H1).new.trans n2)
    clear hsh n2 H1
    go_wp2_with fail
    go_ret
    exact ⟨rfl, unhide N2⟩
  have hA' : (s.size : Int) ≤ 300 := by omega
  have hB' : (more.size : Int) ≤ 300 := by omega
  go_wp2_with fail
  refine hsh.mono ?_
  rintro e w2 ⟨rfl, n2⟩
  have H2 := hide ((unhide H1).nw n2)
  have hput := refput_all s w2 hs
  clear hsh n2 H1 hm
  by_cases h0 : s.size = 0
  · rw [show putE s = 1 by unfold putE; rw [if_pos h0]] at hput
    go_wp2_with fail
    refine hput.mono ?_
    rintro e w3 ⟨rfl, n3⟩
    have hdec := refDec_any s (by omega) w3
    have H3 := hide ((unhide H2).nw n3)
    clear hput n3 H2
    go_wp2_with fail
    refine hdec.mono ?_
    rintro e w4 ⟨n4, m, hml, rfl⟩
    obtain ⟨hst, -, nM⟩ := mr_fresh w4 m hml
    go_upto_region 8 with fail
    change Code.wp _ _ _ _ (mrNew w4 m)
    have H4 := hide (((unhide H3).nw n4).nw nM)
    generalize mrNew w4 m = w4 at nM H4 ⊢
    clear hdec n4 nM H3 hst
    obtain ⟨en, hch, hba⟩ := bk_base (unhide H4) ⟨bk_loc.2.2.1, bk_loc.2.2.2⟩
    have c := (unhide H4).cell
    go_wp2_with fail
    refine hch.mono ?_
    rintro e w5a ⟨rfl, q⟩
    have hbs := hba w5a (q.upd _)
    have Ha := hide ((unhide H4).nw (q.upd _))
    clear hch hba c q H4
    go_wp2_with fail
    refine hbs.mono ?_
    rintro e w5 ⟨rfl, n⟩
    have hBB := blk_alloc w5 (.cells #[.int .u64 100, .int .u64 100] 59)
    have nB : New w5 (w5.alloc (.cells #[.int .u64 100, .int .u64 100] 59)) := (Upd.refl _ _).alloc _
    have hlt := ((unhide Ha).nw n).lk.lt
    have Hb := hide (((unhide Ha).nw n).nw nB)
    clear hbs Ha n
    go_upto_region 11 with fail
    generalize w5.alloc (.cells #[.int .u64 100, .int .u64 100] 59) = w5b at hBB nB Hb ⊢
    generalize w5.heap.size = BB at hBB hlt ⊢
    have B5 := hide (BsB.mk (S := S) hBB (fun e => by have := hlt _ e; omega))
    have H5 := Hb
    clear hBB nB hlt Hb
    have hcl := bk_ff (unhide H5)
    have c := (unhide H5).cell
    go_wp2_with fail
    refine hcl.mono ?_
    rintro e w6 ⟨rfl, hx, u⟩
    have H6 := hide hx
    have B6 := hide ((unhide B5).upd u)
    clear hcl c hx u H5 B5
    have hcl := bk_cap (s := more) (unhide H6)
    have c := (unhide H6).cell
    go_wp2_with fail
    refine hcl.mono ?_
    rintro e w7 ⟨rfl, q⟩
    have H7 := hide ((unhide H6).nw (q.upd _))
    have B7 := hide ((unhide B6).new (q.upd _))
    clear hcl c q H6 B6
    go_upto_region 18 with fail
    have r0 : rowN w7.drew BB 0 2 = some #[.int .u64 100, .int .u64 100] := (unhide B7).row
    have n0 : New w7 w7.drew := (Upd.refl _ _).drew
    have Hd := hide ((unhide H7).nw n0)
    have Bd := hide ((unhide B7).new n0)
    clear H7 B7 n0
    refine wp_plan (fun w' => rowN w' BB 0 2 = some #[.int .u64 100, .int .u64 100]) [34] (.of [0, 1, 2, 3, 4, 5, 6, 7, 8, 9, 10, 11, 12, 13, 14, 15, 16, 17, 18, 19, 20, 21, 22, 23, 24, 25, 26, 27, 28, 29, 30, 31, 32, 33, 34, 35, 36, 37]) (by kernel_rfl) (by kernel_rfl) r0 ?_
    simp only [Plan.of]
    generalize w7.drew = wd at r0 Hd Bd ⊢
    have hcl := bk_cut (unhide HT) (unhide Hd)
    have c := (unhide Hd).cell
    go_wp2_with (with_reducible first | (first | refine' qw1 (ido ?_) ?_ | refine' qw2 (ido ?_) ?_ | refine' qw3 (ido ?_) ?_); rotate_left | refine' qw4 (ido ?_) | refine' qw5 (ido ?_) | rfl | apply qn)
    refine hcl.mono ?_
    rintro e wx ⟨rfl, hx, u⟩
    have Hx := hide hx
    have Bx := hide ((unhide Bd).fr u)
    have rx := (unhide Bx).row
    clear hcl c hx u Hd Bd r0
    have hcl := bk_none (unhide Hx)
    have c := (unhide Hx).cell
    go_wp2_with (first | (with_reducible first | (first | refine' qw1 (ido ?_) ?_ | refine' qw2 (ido ?_) ?_ | refine' qw3 (ido ?_) ?_); rotate_left | refine' qw4 (ido ?_) | refine' qw5 (ido ?_) | rfl | apply qn) | refine ⟨rx, ?_⟩)
    refine hcl.mono ?_
    rintro e wy ⟨rfl, hx, u⟩
    have Hy := hide hx
    have By := hide ((unhide Bx).upd u)
    have ry := (unhide By).row
    clear hcl c hx u Hx Bx rx
    obtain ⟨en, hch, hba⟩ := bk_base (unhide Hy) ⟨bk_loc.1, bk_loc.2.1⟩
    have c := (unhide Hy).cell
    go_wp2_with (first | (with_reducible first | (first | refine' qw1 (ido ?_) ?_ | refine' qw2 (ido ?_) ?_ | refine' qw3 (ido ?_) ?_); rotate_left | refine' qw4 (ido ?_) | refine' qw5 (ido ?_) | rfl | apply qn) | refine ⟨ry, ?_⟩)
    refine hch.mono ?_
    rintro e wz ⟨rfl, q⟩
    have hbs := hba wz (q.upd _)
    have Hz := hide ((unhide Hy).nw (q.upd _))
    have Bz := hide ((unhide By).new (q.upd _))
    have rz := (unhide Bz).row
    clear hch hba c q Hy By ry
    go_wp2_with (first | (with_reducible first | (first | refine' qw1 (ido ?_) ?_ | refine' qw2 (ido ?_) ?_ | refine' qw3 (ido ?_) ?_); rotate_left | refine' qw4 (ido ?_) | refine' qw5 (ido ?_) | rfl | apply qn) | refine ⟨rz, ?_⟩)
    refine hbs.mono ?_
    rintro e wu ⟨rfl, n⟩
    have Hu := hide ((unhide Hz).nw n)
    have ru := ((unhide Bz).new n).row
    clear hbs n Hz Bz rz
    go_wp2_with (first | (with_reducible first | (first | refine' qw1 (ido ?_) ?_ | refine' qw2 (ido ?_) ?_ | refine' qw3 (ido ?_) ?_); rotate_left | refine' qw4 (ido ?_) | refine' qw5 (ido ?_) | rfl | apply qn) | refine ⟨ru, ?_⟩)
    go_ret
    exact ⟨rfl, (unhide Hu).new⟩
  · rw [show putE s = 0 by unfold putE; rw [if_neg h0, if_neg (by omega)], show putS s = framed s by unfold putS; rw [if_neg h0, if_neg (by omega)]] at hput
    go_wp2_with fail
    refine hput.mono ?_
    rintro e w3 ⟨rfl, n3⟩
    have hdec := refDec_any s (by omega) w3
    have H3 := hide ((unhide H2).nw n3)
    clear hput n3 H2
    by_cases hd : (decL s).2 = 0
    · rw [hd] at hdec
      go_wp2_with fail
      refine hdec.mono ?_
      rintro e w4 ⟨n4, m, hml, rfl⟩
      clear hd
      obtain ⟨hst, -, nM⟩ := mr_fresh w4 m hml
      go_upto_region 8 with fail
      change Code.wp _ _ _ _ (mrNew w4 m)
      have H4 := hide (((unhide H3).nw n4).nw nM)
      generalize mrNew w4 m = w4 at nM H4 ⊢
      clear hdec n4 nM H3 hst
      go_wp2_with fail
      go_ret
      exact ⟨rfl, (unhide H4).new⟩
    · have hne : ((decL s).2 != 0) = true := by simpa using hd
      have hbd := fun (W : World) (h : Lt w W p g S bkL) => bk_bad (s := s) h (by omega) (by omega) hne
      have hq : ((decL s).2 == 0) = false := by simpa using hd
      generalize (decL s).2 = D at *
      clear hne hd
      go_wp2_with fail
      refine hdec.mono ?_
      rintro e w4 ⟨n4, m, hml, rfl⟩
      obtain ⟨hst, -, nM⟩ := mr_fresh w4 m hml
      go_upto_region 8 with fail
      change Code.wp _ _ _ _ (mrNew w4 m)
      have H4 := hide (((unhide H3).nw n4).nw nM)
      generalize mrNew w4 m = w4 at nM H4 ⊢
      clear hdec n4 nM H3 hst
      obtain ⟨en, hch, hba⟩ := bk_base (unhide H4) ⟨bk_loc.2.2.1, bk_loc.2.2.2⟩
      have c := (unhide H4).cell
      go_wp2_with fail
      refine hch.mono ?_
      rintro e w5a ⟨rfl, q⟩
      have hbs := hba w5a (q.upd _)
      have Ha := hide ((unhide H4).nw (q.upd _))
      clear hch hba c q H4
      go_wp2_with fail
      refine hbs.mono ?_
      rintro e w5 ⟨rfl, n⟩
      have hBB := blk_alloc w5 (.cells #[.int .u64 100, .int .u64 100] 59)
      have nB : New w5 (w5.alloc (.cells #[.int .u64 100, .int .u64 100] 59)) := (Upd.refl _ _).alloc _
      have hlt := ((unhide Ha).nw n).lk.lt
      have Hb := hide (((unhide Ha).nw n).nw nB)
      clear hbs Ha n
      go_upto_region 11 with fail
      generalize w5.alloc (.cells #[.int .u64 100, .int .u64 100] 59) = w5b at hBB nB Hb ⊢
      generalize w5.heap.size = BB at hBB hlt ⊢
      have B5 := hide (BsB.mk (S := S) hBB (fun e => by have := hlt _ e; omega))
      have H5 := Hb
      clear hBB nB hlt Hb
      have hcl := hbd _ (unhide H5)
      have c := (unhide H5).cell
      go_wp2_with fail
      refine hcl.mono ?_
      rintro e w6 ⟨rfl, hx, u⟩
      have H6 := hide hx
      have B6 := hide ((unhide B5).upd u)
      clear hcl c hx u H5 B5
      have hcl := bk_broken (s := more) (unhide H6)
      have c := (unhide H6).cell
      go_wp2_with fail
      refine hcl.mono ?_
      rintro e w7 ⟨rfl, q⟩
      have H7 := hide ((unhide H6).nw (q.upd _))
      have B7 := hide ((unhide B6).new (q.upd _))
      clear hcl c q H6 B6
      go_upto_region 18 with fail
      have r0 : rowN w7.drew BB 0 2 = some #[.int .u64 100, .int .u64 100] := (unhide B7).row
      have n0 : New w7 w7.drew := (Upd.refl _ _).drew
      have Hd := hide ((unhide H7).nw n0)
      have Bd := hide ((unhide B7).new n0)
      clear H7 B7 n0
      refine wp_plan (fun w' => rowN w' BB 0 2 = some #[.int .u64 100, .int .u64 100]) [34] (.of [0, 1, 2, 3, 4, 5, 6, 7, 8, 9, 10, 11, 12, 13, 14, 15, 16, 17, 18, 19, 20, 21, 22, 23, 24, 25, 26, 27, 28, 29, 30, 31, 32, 33, 34, 35, 36, 37]) (by kernel_rfl) (by kernel_rfl) r0 ?_
      simp only [Plan.of]
      generalize w7.drew = wd at r0 Hd Bd ⊢
      have hcl := bk_cut (unhide HT) (unhide Hd)
      have c := (unhide Hd).cell
      go_wp2_with (with_reducible first | (first | refine' qw1 (ido ?_) ?_ | refine' qw2 (ido ?_) ?_ | refine' qw3 (ido ?_) ?_); rotate_left | refine' qw4 (ido ?_) | refine' qw5 (ido ?_) | rfl | apply qn)
      refine hcl.mono ?_
      rintro e wx ⟨rfl, hx, u⟩
      have Hx := hide hx
      have Bx := hide ((unhide Bd).fr u)
      have rx := (unhide Bx).row
      clear hcl c hx u Hd Bd r0
      have hcl := bk_none (unhide Hx)
      have c := (unhide Hx).cell
      go_wp2_with (first | (with_reducible first | (first | refine' qw1 (ido ?_) ?_ | refine' qw2 (ido ?_) ?_ | refine' qw3 (ido ?_) ?_); rotate_left | refine' qw4 (ido ?_) | refine' qw5 (ido ?_) | rfl | apply qn) | refine ⟨rx, ?_⟩)
      refine hcl.mono ?_
      rintro e wy ⟨rfl, hx, u⟩
      have Hy := hide hx
      have By := hide ((unhide Bx).upd u)
      have ry := (unhide By).row
      clear hcl c hx u Hx Bx rx
      obtain ⟨en, hch, hba⟩ := bk_base (unhide Hy) ⟨bk_loc.1, bk_loc.2.1⟩
      have c := (unhide Hy).cell
      go_wp2_with (first | (with_reducible first | (first | refine' qw1 (ido ?_) ?_ | refine' qw2 (ido ?_) ?_ | refine' qw3 (ido ?_) ?_); rotate_left | refine' qw4 (ido ?_) | refine' qw5 (ido ?_) | rfl | apply qn) | refine ⟨ry, ?_⟩)
      refine hch.mono ?_
      rintro e wz ⟨rfl, q⟩
      have hbs := hba wz (q.upd _)
      have Hz := hide ((unhide Hy).nw (q.upd _))
      have Bz := hide ((unhide By).new (q.upd _))
      have rz := (unhide Bz).row
      clear hch hba c q Hy By ry
      go_wp2_with (first | (with_reducible first | (first | refine' qw1 (ido ?_) ?_ | refine' qw2 (ido ?_) ?_ | refine' qw3 (ido ?_) ?_); rotate_left | refine' qw4 (ido ?_) | refine' qw5 (ido ?_) | rfl | apply qn) | refine ⟨rz, ?_⟩)
      refine hbs.mono ?_
      rintro e wu ⟨rfl, n⟩
      have Hu := hide ((unhide Hz).nw n)
      have ru := ((unhide Bz).new n).row
      clear hbs n Hz Bz rz
      go_wp2_with (first | (with_reducible first | (first | refine' qw1 (ido ?_) ?_ | refine' qw2 (ido ?_) ?_ | refine' qw3 (ido ?_) ?_); rotate_left | refine' qw4 (ido ?_) | refine' qw5 (ido ?_) | rfl | apply qn) | refine ⟨ru, ?_⟩)
      go_ret
      exact ⟨rfl, (unhide Hu).new⟩
end Go.Proofs.YtfmkdoachjgjbaaGreatDoor
