/-
  The law NodeOpens, walked.
-/
import Derived.Test.YtehdhnckfdiioaaDoorNdA
namespace Go.Proofs.YtehdhnckfdiioaaDoor
open Go.RowKit

attribute [local go_sem ↓ high] bd_set_fold
attribute [local go_sem] bd_set3 bd_set2 rowN_drew
/-- The peers behind i Opens. -/
def PeersN (ps : List PeerV) (i : Nat) : Prop := ps.length = min i 8 ∧ ∀ (j : Nat) (p : PeerV), ps[j]? = some p → p.ch = j ∧ p.c = .new (.of j 1 0)
structure OpenI (w0 w : World) (g r : Nat) (f : Int) (R : RelV) (ps : List PeerV) (i : Nat) : Prop where
  nd : NodI w g (.new r f) R ps
  drains : R.drains = false
  peers : PeersN ps i
  new : New w0 w
  ge : w0.heap.size ≤ g ∧ w0.heap.size ≤ r ∧ w0.heap.size ≤ R.bs

theorem of_may (c a b : Int) : (SetupV.of c a b).may ↔ 1 ≤ a ∧ a ≤ 1125899906842624 ∧ b ≤ a :=
  ⟨fun h => ⟨h.1, h.2.1, h.2.2.1⟩, fun h => ⟨h.1, h.2.1, h.2.2, show (0 : Nat) ≤ 64 by decide, show (0 : Nat) ≤ 64 by decide⟩⟩
/-- One Open of the loop. -/
theorem open_step (w0 : World) (g r : Nat) (f : Int) (hf : 0 ≤ f ∧ f < 18446744073709551616) (R : RelV) (ps : List PeerV) (i : Nat) (hi : i < 10) (w : World) (h : OpenI w0 w g r f R ps i) :
    Calls Tryd.prog 6 #[.pointer (some ⟨g, 0, none⟩), .agg (SetupV.of i 1 0).cells.toArray] w fun e w' =>
      ∃ x, e = .returned (.tuple #[.int .i64 x, .int .i64 (if i < 8 then 0 else 2)]) ∧ ∃ R' ps', OpenI w0 w' g r f R' ps' (i + 1) := by
  obtain ⟨hnd, hd, ⟨hl, hp⟩, hn, hg, hr, hb⟩ := h
  have hs := of_ok (i : Int) 1 0 ⟨by omega, by omega⟩ ⟨by decide, by decide⟩ ⟨by decide, by decide⟩
  refine (open_any g (.new r f) R ps (.of i 1 0) hs w hnd (by omega) hf).mono ?_
  rintro e w' ⟨rfl, h1, h2⟩
  by_cases h8 : i < 8
  · have hE : openErr (.new r f) R ps (.of i 1 0) = 0 := openErr_ok rfl hd (by omega) (fun p hp' e => by
      obtain ⟨j, hj, rfl⟩ := List.mem_iff_getElem.1 hp'
      have := (hp j _ (List.getElem?_eq_getElem hj)).1
      rw [this] at e
      have e : (j : Int) = i := e
      omega) ((of_may _ _ _).2 ⟨by decide, by decide, by decide⟩) hf.1
    obtain ⟨v, k, l, hL, hN, u⟩ := h2 hE
    refine ⟨openRes (.new r f) R ps (.of i 1 0), by rw [hE, if_pos h8], { R with peers := v }, ps ++ [⟨(SetupV.of i 1 0).ch, k, l, .new (.of i 1 0)⟩], ⟨?_, hd, ⟨?_, ?_⟩, hn.then u ?_, hg, hr, hb⟩⟩
    · have e : ({ NodeV.new r f with funds := (NodeV.new r f).funds - (SetupV.of i 1 0).ours } : NodeV) = .new r f := by
        show NodeV.mk r (f - 0) false _ _ = _
        rw [Int.sub_zero]
        rfl
      rw [e] at hN
      exact hN
    · rw [List.length_append, hl]; simp; omega
    · intro j p hj
      rcases Nat.lt_or_ge j ps.length with hlt | hge
      · rw [List.getElem?_append_left hlt] at hj
        exact hp j p hj
      · rw [List.getElem?_append_right hge] at hj
        have hj0 : j - ps.length = 0 := by
          have := (List.getElem?_eq_some_iff.1 hj).1
          simpa using this
        rw [hj0] at hj
        simp at hj
        subst hj
        have : j = i := by omega
        subst this
        exact ⟨rfl, rfl⟩
    · intro k hk e
      rcases e with e | e | e
      · omega
      · have e : k = r := e
        omega
      · have := hnd.re.own e
        omega
  · have hE : openErr (.new r f) R ps (.of i 1 0) = 2 := by
      unfold openErr addErr
      rw [if_neg (by show ¬ false = true; decide), if_neg (by show ¬ (1 : Int) < 0; decide), if_neg (by show ¬ f < 0; omega), if_neg (by simp [hd]), if_pos (by omega)]
    refine ⟨openRes (.new r f) R ps (.of i 1 0), by rw [hE, if_neg h8], R, ps, ⟨hnd.new (h1 (by rw [hE]; decide)), hd, ⟨by omega, hp⟩, hn.trans (h1 (by rw [hE]; decide)), hg, hr, hb⟩⟩

theorem tot_zero {N : NodeV} {ps : List PeerV} (hN : N.swept = List.replicate 8 false) (hf : 0 ≤ N.funds ∧ N.funds < 18446744073709551616) : ∀ n, n ≤ ps.length → n ≤ 8 → (∀ (j : Nat) (p : PeerV), j < n → ps[j]? = some p → ∃ c a, p.c = .new (.of c a 0)) → totK (totF N ps (fun _ => [])) N.funds n = N.funds
  | 0, _, _, _ => rfl
  | n + 1, hn, h8, h => by
    obtain ⟨p, hp⟩ : ∃ p, ps[n]? = some p := ⟨_, List.getElem?_eq_getElem (by omega)⟩
    obtain ⟨c, a, hc⟩ := h n p (by omega) hp
    rw [totK, totF_new hp hc (by rw [hN, List.getElem?_replicate, if_pos (by omega)]) (show (0 : Int) ≤ 0 ∧ (0 : Int) < 18446744073709551616 by decide)]
    show IntKind.u64.wrap (totK (totF N ps (fun _ => [])) N.funds n + 0) = N.funds
    rw [Int.add_zero, tot_zero hN hf n (by omega) (by omega) (fun j p hj => h j p (by omega))]
    exact wrapU hf.1 (by omega)

/-- What the law wants. -/
def wantE (f c o : Int) (n : Nat) : Int := if c < o then 1 else if f < o then 61 else if 8 ≤ n then 2 else if c < 1 ∨ 1125899906842624 < c then 1 else 0
theorem open_last (w0 : World) (g r : Nat) (f c o : Int) (hf : 0 ≤ f ∧ f ≤ 1125899906842624) (hc : 0 ≤ c ∧ c < 18446744073709551616) (ho : 0 ≤ o ∧ o < 18446744073709551616) (R : RelV) (ps : List PeerV) (n : Nat) (hn : n < 10) (w : World) (h : OpenI w0 w g r f R ps n) :
    Calls Tryd.prog 6 #[.pointer (some ⟨g, 0, none⟩), .agg (SetupV.of 99 c o).cells.toArray] w fun e w' =>
      ∃ x, e = .returned (.tuple #[.int .i64 x, .int .i64 (wantE f c o n)]) ∧ New w0 w' ∧
        (∀ W, New w' W → Calls Tryd.prog 7 #[.pointer (some ⟨g, 0, none⟩)] W (Makes (.int .u64 f) W)) ∧
        (∀ W, New w' W → Calls Tryd.prog 8 #[.pointer (some ⟨g, 0, none⟩)] W (Reads (.int .u64 (if wantE f c o n = 0 then f - o else f)) W)) := by
  obtain ⟨hnd, hd, ⟨hl, hp⟩, hnw, hg, hr, hb⟩ := h
  have hs := of_ok 99 c o ⟨by decide, by decide⟩ hc ho
  have hE : openErr (.new r f) R ps (.of 99 c o) = wantE f c o n := by
    unfold openErr wantE addErr
    rw [if_neg (by show ¬ false = true; decide)]
    show (if c < o then 1 else if f < o then 61 else _) = _
    by_cases h1 : c < o
    · rw [if_pos h1, if_pos h1]
    rw [if_neg h1, if_neg h1]
    by_cases h2 : f < o
    · rw [if_pos h2, if_pos h2]
    rw [if_neg h2, if_neg h2, if_neg (by simp [hd])]
    by_cases h3 : 8 ≤ n
    · rw [if_pos (by omega), if_pos h3]
    rw [if_neg (by omega), if_neg h3, if_neg (by
      rintro ⟨p, hp', e⟩
      obtain ⟨j, hj, rfl⟩ := List.mem_iff_getElem.1 hp'
      have := (hp j _ (List.getElem?_eq_getElem hj)).1
      rw [this] at e
      have e : (j : Int) = 99 := e
      omega)]
    by_cases h4 : c < 1 ∨ 1125899906842624 < c
    · rw [if_pos h4, if_neg (by rw [of_may]; omega)]
    · rw [if_neg h4, if_pos (by rw [of_may]; omega)]
  refine (open_any g (.new r f) R ps (.of 99 c o) hs w hnd (by omega) (by show 0 ≤ f ∧ f < _; omega)).mono ?_
  rintro e w' ⟨rfl, h1, h2⟩
  rw [hE] at h1 h2 ⊢
  refine ⟨_, rfl, ?_⟩
  by_cases hw : wantE f c o n = 0
  · rw [if_pos hw]
    obtain ⟨v, k, l, hL, hN, u⟩ := h2 hw
    have hof : ¬ f < o := by
      intro h
      unfold wantE at hw
      split at hw
      · cases hw
      · first | cases hw | (rw [if_pos h] at hw; cases hw)
    have hn8 : n < 8 := by
      unfold wantE at hw
      split at hw
      · cases hw
      · split at hw
        · cases hw
        · split at hw
          · cases hw
          · omega
    refine ⟨hnw.then u ?_, fun W nW => ?_, fun W nW => ?_⟩
    · intro i hi e
      rcases e with e | e | e
      · omega
      · have e : i = r := e
        omega
      · have := hnd.re.own e
        omega
    · obtain ⟨N, hNN⟩ : ∃ N : NodeV, N = { NodeV.new r f with funds := (NodeV.new r f).funds - (SetupV.of 99 c o).ours } := ⟨_, rfl⟩
      obtain ⟨qs, hq⟩ : ∃ qs, qs = ps ++ [⟨(SetupV.of 99 c o).ch, k, l, .new (.of 99 c o)⟩] := ⟨_, rfl⟩
      rw [← hNN, ← hq] at hN
      have hfd : N.funds = f - o := by rw [hNN]; rfl
      have hql : qs.length = n + 1 := by rw [hq, List.length_append, hl]; simp; omega
      have hcs : ∀ (j : Nat) (p : PeerV), qs[j]? = some p → (j < n ∧ ps[j]? = some p) ∨ (j = n ∧ p = ⟨(SetupV.of 99 c o).ch, k, l, .new (.of 99 c o)⟩) := by
        intro j p hj
        rw [hq] at hj
        rcases Nat.lt_or_ge j ps.length with hlt | hge
        · rw [List.getElem?_append_left hlt] at hj
          exact .inl ⟨by omega, hj⟩
        · rw [List.getElem?_append_right hge] at hj
          have hj0 : j - ps.length = 0 := by
            have := (List.getElem?_eq_some_iff.1 hj).1
            simpa using this
          rw [hj0] at hj
          simp at hj
          exact .inr ⟨by omega, hj.symm⟩
      have ht : totK (totF N qs (fun _ => [])) N.funds qs.length = f := by
        obtain ⟨p, hpn⟩ : ∃ p, qs[n]? = some p := ⟨_, List.getElem?_eq_getElem (by omega)⟩
        have hpe : p.c = .new (.of 99 c o) := by
          rcases hcs n p hpn with ⟨h, _⟩ | ⟨_, h⟩
          · omega
          · rw [h]
        rw [hql, totK, totF_new hpn hpe (by rw [hNN]; show (List.replicate 8 false)[n]? = _; rw [List.getElem?_replicate, if_pos (by omega)]) ho]
        show IntKind.u64.wrap (totK (totF N qs (fun _ => [])) N.funds n + o) = f
        rw [tot_zero (by rw [hNN]; rfl) (by rw [hfd]; omega) n (by omega) (by omega) (fun j p hj hjp => by
          rcases hcs j p hjp with ⟨_, h⟩ | ⟨h, _⟩
          · exact ⟨_, _, (hp j p h).2⟩
          · omega), hfd, wrapU (by omega) (by omega)]
        omega
      have hX : ∀ (i : Nat) (p : PeerV), qs[i]? = some p → ChI W p.l.en p.c [] := by
        intro i p hip
        have hlk := (hN.re.links p (List.mem_of_getElem? hip)).2.new nW
        rcases hcs i p hip with ⟨_, h⟩ | ⟨_, h⟩
        · rw [(hp i p h).2] at hlk ⊢
          exact newCh_I hlk
        · rw [h] at hlk ⊢
          exact newCh_I hlk
      have := total_any g N _ qs (fun _ => []) W (hN.new nW) (by omega) (by rw [hNN]; rfl) (by rw [hNN]; rfl) hX (fun _ => by show 0 ≤ 1000000; omega) (fun _ x hx => by cases hx)
      rw [ht] at this
      exact this
    · exact funds_any g _ W (nW.old hN.at_ (fun h => h))
  · rw [if_neg hw]
    have n1 := h1 hw
    refine ⟨hnw.trans n1, fun W nW => ?_, fun W nW => ?_⟩
    · have hN := hnd.new (n1.trans nW)
      have hX : ∀ (i : Nat) (p : PeerV), ps[i]? = some p → ChI W p.l.en p.c [] := by
        intro i p hip
        have hlk := (hN.re.links p (List.mem_of_getElem? hip)).2
        rw [(hp i p hip).2] at hlk ⊢
        exact newCh_I hlk
      have := total_any g (.new r f) _ ps (fun _ => []) W hN (by omega) rfl rfl hX (fun _ => by show 0 ≤ 1000000; omega) (fun _ x hx => by cases hx)
      rw [tot_zero (N := .new r f) rfl (by show 0 ≤ f ∧ f < _; omega) ps.length (by omega) (by omega) (fun j p _ hjp => ⟨_, _, (hp j p hjp).2⟩)] at this
      exact this
    · exact funds_any g (.new r f) W ((n1.trans nW).old hnd.at_ (fun h => h))

set_option maxRecDepth 100000 in
set_option maxHeartbeats 8000000 in
theorem opens_walk (f c o m : Int) (w : World) (hf : 0 ≤ f ∧ f < 18446744073709551616) (hc : 0 ≤ c ∧ c < 18446744073709551616) (ho : 0 ≤ o ∧ o < 18446744073709551616) (hm : 0 ≤ m ∧ m < 256) :
    Calls Tryd.prog 3 #[.int .u64 f, .int .u64 c, .int .u64 o, .int .u8 m] w (Makes (.bool true) w) := by
  obtain ⟨f0, f1⟩ := hf
  obtain ⟨c0, c1⟩ := hc
  obtain ⟨o0, o1⟩ := ho
  obtain ⟨m0, m1⟩ := hm
  go_enter Tryd.func3, Tryd.ntmps3
  go_wp2_with fail
  refine (newN_any f 0 0 ⟨f0, f1⟩ w).mono ?_
  rintro e w1 (⟨hle, g, r, R, rfl, hr, hrg, hn, hR, n1⟩ | ⟨hgt, rfl, n1⟩)
  case' inr =>
    go_wp2_with fail
    refine (shown_any w1).mono ?_
    rintro e w2 ⟨rfl, n2⟩
    have n2 := n1.trans n2
    go_wp2_with fail
    go_ret
    exact ⟨rfl, n2⟩
  have hI : OpenI w w1 g r f R [] 0 := ⟨newNode_I hn hR, hR.drains, ⟨rfl, fun j p h => by simp at h⟩, n1, ⟨by omega, hr, by rw [hR.bs]; exact Nat.le_refl _⟩⟩
  have hng : ¬ 1125899906842624 < f := by omega
  clear hn hR
  go_wp2_with fail
  refine (shown_any w1).mono ?_
  rintro e w2 ⟨rfl, n2⟩
  have hI2 : OpenI w w2 g r f R [] 0 := ⟨hI.nd.new n2, hI.drains, hI.peers, hI.new.trans n2, hI.ge⟩
  clear hI n2 n1
  obtain ⟨k, hk⟩ : ∃ k : Nat, m % 10 = (k : Int) := ⟨(m % 10).toNat, by omega⟩
  have hk10 : k < 10 := by omega
  have hkm : IntKind.i64.wrap (m.tmod 10) = (k : Int) := by
    rw [Int.tmod_eq_emod_of_nonneg m0, hk]
    exact wrapI (by omega) (by omega)
  have HI := hide hI2
  clear hI2
  go_wp2_with fail
  go_loopw [10, 11, 12] (fun iv _ _ wr => ∃ i : Nat, iv = .int .i64 (i : Int) ∧ i ≤ k ∧ ∃ R ps, Hid (OpenI w wr g r f R ps i)) (fun iv _ _ _ => k - (intOf iv).toNat)
  case atStart => exact ⟨0, rfl, Nat.zero_le _, R, [], HI⟩
  case round =>
    obtain ⟨i, rfl, hi, R', ps, H⟩ := hrel
    obtain ⟨wq, rfl⟩ : ∃ wq : World, wq = wr := ⟨_, rfl⟩
    clear HI
    by_cases hlt : i < k
    · have hi0 : (i : Int) < (k : Int) := by omega
      have hw32 : IntKind.u32.wrap (i : Int) = (i : Int) := by rw [IntKind.wrap_u32]; omega
      have hst := open_step w g r f ⟨f0, f1⟩ R' ps i (by omega) wq (unhide H)
      go_wp2_with fail
      refine hst.mono ?_
      rintro e w3 ⟨x, rfl, R2, ps2, h2⟩
      have H2 := hide h2
      clear h2 hst H
      by_cases h8 : i < 8
      · have h8' : (i : Int) < 8 := by omega
        rw [if_pos h8]
        go_wp2_with fail
        go_roundw
        case rel => exact ⟨i + 1, by go_num, by omega, R2, ps2, H2⟩
        case measure => simp [intOf]; omega
      · have h8' : ¬ (i : Int) < 8 := by omega
        rw [if_neg h8]
        go_wp2_with fail
        go_roundw
        case rel => exact ⟨i + 1, by go_num, by omega, R2, ps2, H2⟩
        case measure => simp [intOf]; omega
    · obtain rfl : i = k := by omega
      have hop := open_last w g r f c o ⟨f0, hle⟩ ⟨c0, c1⟩ ⟨o0, o1⟩ R' ps i hk10 wq (unhide H)
      clear H
      go_wp2_with fail
      refine hop.mono ?_
      rintro e w3 ⟨x, rfl, n3, hT, hF⟩
      have HT := hide hT
      have HF := hide hF
      clear hT hF hop
      by_cases h1 : c < o
      · have hw : wantE f c o i = 1 := by unfold wantE; rw [if_pos h1]
        rw [hw] at HF ⊢
        rw [if_neg (by decide)] at HF
        clear hw
        go_wp2_with fail
        refine (unhide HT w3 (Upd.refl _ _)).mono ?_
        rintro e w4 ⟨rfl, n4⟩
        have hF := unhide HF w4 n4
        have n4 := n3.trans n4
        clear HT HF
        go_wp2_with fail
        refine hF.mono ?_
        rintro e w5 ⟨rfl, q5⟩
        have n5 := n4.trans (q5.upd _)
        clear q5 hF n4
        go_wp2_with fail
        go_ret
        exact ⟨rfl, n5⟩
      by_cases h2 : f < o
      · have hw : wantE f c o i = 61 := by unfold wantE; rw [if_neg h1, if_pos h2]
        rw [hw] at HF ⊢
        rw [if_neg (by decide)] at HF
        clear hw
        go_wp2_with fail
        refine (unhide HT w3 (Upd.refl _ _)).mono ?_
        rintro e w4 ⟨rfl, n4⟩
        have hF := unhide HF w4 n4
        have n4 := n3.trans n4
        clear HT HF
        go_wp2_with fail
        refine hF.mono ?_
        rintro e w5 ⟨rfl, q5⟩
        have n5 := n4.trans (q5.upd _)
        clear q5 hF n4
        go_wp2_with fail
        go_ret
        exact ⟨rfl, n5⟩
      by_cases h3 : 8 ≤ i
      · have h3' : 8 ≤ (i : Int) := by omega
        have hw : wantE f c o i = 2 := by unfold wantE; rw [if_neg h1, if_neg h2, if_pos h3]
        rw [hw] at HF ⊢
        rw [if_neg (by decide)] at HF
        clear hw
        go_wp2_with fail
        refine (unhide HT w3 (Upd.refl _ _)).mono ?_
        rintro e w4 ⟨rfl, n4⟩
        have hF := unhide HF w4 n4
        have n4 := n3.trans n4
        clear HT HF
        go_wp2_with fail
        refine hF.mono ?_
        rintro e w5 ⟨rfl, q5⟩
        have n5 := n4.trans (q5.upd _)
        clear q5 hF n4
        go_wp2_with fail
        go_ret
        exact ⟨rfl, n5⟩
      have h3' : ¬ 8 ≤ (i : Int) := by omega
      by_cases h4 : c = 0
      · have hw : wantE f c o i = 1 := by unfold wantE; rw [if_neg h1, if_neg h2, if_neg h3, if_pos (.inl (by omega))]
        rw [hw] at HF ⊢
        rw [if_neg (by decide)] at HF
        clear hw
        go_wp2_with fail
        refine (unhide HT w3 (Upd.refl _ _)).mono ?_
        rintro e w4 ⟨rfl, n4⟩
        have hF := unhide HF w4 n4
        have n4 := n3.trans n4
        clear HT HF
        go_wp2_with fail
        refine hF.mono ?_
        rintro e w5 ⟨rfl, q5⟩
        have n5 := n4.trans (q5.upd _)
        clear q5 hF n4
        go_wp2_with fail
        go_ret
        exact ⟨rfl, n5⟩
      by_cases h5 : 1125899906842624 < c
      · have hw : wantE f c o i = 1 := by unfold wantE; rw [if_neg h1, if_neg h2, if_neg h3, if_pos (.inr h5)]
        rw [hw] at HF ⊢
        rw [if_neg (by decide)] at HF
        clear hw
        go_wp2_with fail
        refine (unhide HT w3 (Upd.refl _ _)).mono ?_
        rintro e w4 ⟨rfl, n4⟩
        have hF := unhide HF w4 n4
        have n4 := n3.trans n4
        clear HT HF
        go_wp2_with fail
        refine hF.mono ?_
        rintro e w5 ⟨rfl, q5⟩
        have n5 := n4.trans (q5.upd _)
        clear q5 hF n4
        go_wp2_with fail
        go_ret
        exact ⟨rfl, n5⟩
      have hw : wantE f c o i = 0 := by unfold wantE; rw [if_neg h1, if_neg h2, if_neg h3, if_neg (by omega)]
      have hb4 : (c == 0) = false := by simp [h4]
      have hb5 : decide (1125899906842624 < c) = false := by simp [h5]
      have hsub : IntKind.u64.wrap (f - o) = f - o := wrapU (by omega) (by omega)
      rw [hw] at HF ⊢
      rw [if_pos rfl] at HF
      clear hw
      go_wp2_with fail
      refine (unhide HT w3 (Upd.refl _ _)).mono ?_
      rintro e w4 ⟨rfl, n4⟩
      have hF := unhide HF w4 n4
      have n4 := n3.trans n4
      clear HT HF
      go_wp2_with fail
      refine hF.mono ?_
      rintro e w5 ⟨rfl, q5⟩
      have n5 := n4.trans (q5.upd _)
      clear q5 hF n4
      go_wp2_with fail
      go_ret
      exact ⟨rfl, n5⟩

end Go.Proofs.YtehdhnckfdiioaaDoor
