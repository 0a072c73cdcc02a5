/-
  The law NodePays, walked.
-/
import Derived.Test.YtainkaojnhfldaaGreatDoorMfa
set_option linter.unusedVariables false
set_option linter.unusedSimpArgs false
namespace Go.Proofs.YtainkaojnhfldaaGreatDoor
open Go.RowKit

theorem bd_row4 (c a b p : Int) (w : World) : (bdRow3 #[(0, .int .u32 c), (1, .int .u64 a), (2, .int .u64 b), (3, .int .u64 p)]).run Tryz.prog w = .ok (.agg (RowV.cells ⟨c, a, b, p, false⟩).toArray) w := run_build w _ _ _ (by kernel_rfl)
def np0 : Ch := Ch.new (.of 1 100000 70000)
theorem offer_bad {c : Ch} {n x : Int} {h : Vector Int 32} {e : Int} (he : offerErr c n x = e) (h0 : e ≠ 0) : (c.offer n h x).1 = c := by
  unfold Ch.offer
  rw [he, if_neg h0]
theorem offer_good {c : Ch} {n x : Int} {h : Vector Int 32} (he : offerErr c n x = 0) : (c.offer n h x).1 = (c.offered n h x).say (offerMsg c n h x) := by
  unfold Ch.offer
  rw [if_pos he]
theorem np0_shut : np0.shut.2.2 = 0 ∧ np0.shut.1 = np0.shutSaid := ⟨rfl, rfl⟩
theorem np1_err (n x : Int) : offerErr np0.shutSaid n x = 135 := rfl
theorem np0_err0 : offerErr np0 0 9 = 1 := rfl
theorem np0_err {n : Int} (h0 : n ≠ 0) (h1 : n ≤ 65535) : offerErr np0 n 9 = 0 := by
  unfold offerErr
  rw [if_neg (by decide), if_neg h0, if_neg (by decide), if_neg (by decide), if_neg (by show ¬ (70000 : Int) < n; omega)]
attribute [local go_sem ↓ high] bd_set_fold bd_row3_fold eq_row_fold ld_row_fold bd_hsh_fold
attribute [local go_sem] bd_set3 bd_row4 ld_row rowN_drew bd_hsh
set_option maxRecDepth 100000 in
set_option maxHeartbeats 8000000 in
theorem pays_walk (n : Nat) (pt : Int) (sh : Bool) (w : World) (hn : n < 65536) (hpt : -9223372036854775808 ≤ pt ∧ pt ≤ 9223372036854775807) (hT : Tabs w) :
    Calls Tryz.prog 3 #[.int .u16 (n : Int), .int .i64 pt, .bool sh] w (Makes (.bool true) w) := by
  have hof := of_ok 1 100000 70000 (by decide) (by decide) (by decide)
  have hmay : (SetupV.of 1 100000 70000).may := ⟨by decide, by decide, by decide, by decide, by decide⟩
  have hz : z32i.length = 32 := z32i_len
  have hcv : IntKind.u64.wrap (n : Int) = n := wrapU (by omega) (by omega)
  go_enter Tryz.func3, Tryz.ntmps3
  go_wp2_with fail
  refine (newN_any 100000 0 0 (by decide) w).mono ?_
  rintro e w1 (⟨-, g, r, R, rfl, hr, hrg, hnode, hR, n1⟩ | ⟨hgt, -⟩)
  case inr => exact absurd hgt (by decide)
  have HH := hide (And.intro hnode (And.intro hR n1))
  clear hnode hR n1
  go_wp2_with fail
  refine (shown_any w1).mono ?_
  rintro e w2 ⟨rfl, n2⟩
  obtain ⟨hnode, hR, n1⟩ := unhide HH
  have hop := open_one w w2 g r w.heap.size 100000 1 100000 70000 R (n2.old hnode (fun h => h)) (hR.new n2) (Nat.le_refl _) hr (by omega) (n1.trans n2) hof hmay (by decide) (by decide)
  clear HH hnode hR n1 n2
  go_wp2_with fail
  refine hop.mono ?_
  rintro e w3 ⟨rfl, R', k, S, m, hN, hd, hE, hSge, n3, hmge⟩
  have hN : NodS w3 g { NodeV.new r 100000 with funds := 100000 - 70000 } R' 1 k S (.new np0) m := hN
  generalize hNV : ({ NodeV.new r 100000 with funds := 100000 - 70000 } : NodeV) = NV at hN
  have hsh0 : NV.shut = List.replicate 8 false := by rw [← hNV]; rfl
  have hsw0 : NV.swept = List.replicate 8 false := by rw [← hNV]; rfl
  have hap : ApD S := apd_ge hT hSge
  have hgS : w.heap.size ≤ g := by omega
  have hT3 := hT.new n3
  clear hop hNV
  have H3 := hide (And.intro hN (And.intro hd (And.intro hE (And.intro hSge (And.intro n3 (And.intro hmge (And.intro hsh0 hsw0)))))))
  clear hN hE hSge n3 hmge hsh0 hsw0
  have hby : Bytes z32i := z32i_bytes
  cases sh with
  | true =>
    obtain ⟨hN, -, hE, hSge, n3, hmge, hsh0, hsw0⟩ := unhide H3
    have hcl := close_any g NV R' 1 k S (.new np0) m false (List.replicate 7 false) w3 hN hsh0 ((LkB.new np0).ok (by decide)) (shut_say (by decide)) (shut_mlen _) hT3 hap
    have hce : (Lk.new np0).c.shut.2.2 = 0 := np0_shut.1
    have hcc : (Lk.new np0).shut.c = np0.shutSaid := (shut_c _).trans np0_shut.2
    rw [hce] at hcl
    have hLB : LkB (Lk.new np0).shut 1 := (LkB.new np0).shut (shut_say (by decide))
    generalize (Lk.new np0).shut = L1 at hcl hcc hLB
    have hgm : g ≠ m := ne_map hN.no hE
    have HC := hide hcl
    have HB := hide (And.intro hN (And.intro hE (And.intro hSge (And.intro n3 (And.intro hsh0 (And.intro hsw0 (And.intro hcc (And.intro hLB hgm))))))))
    clear hcl hN hE hSge n3 hsh0 hsw0 hcc hLB hgm H3 hce
    go_wp2_with fail
    refine (unhide HC).mono ?_
    rintro e w4 ⟨rfl, hN4, u4⟩
    obtain ⟨hN, hE, hSge, n3, hsh0, hsw0, hcc, hLB, hgm⟩ := unhide HB
    have n4 : New w w4 := n3.then u4 (fun i hi e => by
      rcases e with e | e
      · have := hSge i e; omega
      · omega)
    have hz3 := n3.size
    have hap4 : ApD (Fr S w3 w4) := apd_ge hT (fun i hi => hi.elim (hSge i) (fun e => by omega))
    have hE4 : EmM w4 m := u4.old hE (fun e => e.elim hN.mS (fun e => hgm e.symm))
    have hs4 : (NV.closes 0).shut = true :: List.replicate 7 false := by
      show NV.shut.set 0 true = _
      rw [hsh0]
      rfl
    have hw4 : (NV.closes 0).swept = List.replicate 8 false := hsw0
    have hrow : ∀ {W : World} {S' : Nat → Prop} {L2 : Lk}, NodS W g (NV.closes 0) R' 1 k S' L2 m → L2.c = np0.shutSaid → Lists W g ⟨1, 70000, 30000, 0, false⟩ := fun h hc => by
      have := lists_of h (by rw [hs4]; rfl) hw4 (by rw [hc]; decide)
      rw [hc] at this
      exact this
    have herr : ((L1.c.offer (n : Int) (hvec z32i) (9 : Nat)).2.2) = 135 := by rw [offer_err, hcc]; exact np1_err _ _
    have hpo : PayOk w4 L1 n 9 z32i := ⟨hLB.ok (by decide), z32i_len, hby, by omega, by decide, by rw [hcc]; decide, (fun h => by rw [herr] at h; cases h), offer_mlen _ _ _ _, hT.new n4⟩
    have HN := hide hN4
    have NW := hide n4
    generalize NV.closes 0 = N4 at hN4 HN hs4 hw4 hrow
    by_cases hp0 : pt = 0
    · subst hp0
      have hp := npay_any g N4 R' 1 k _ L1 m n 9 z32i true w4 hN4 (by rw [hs4]; rfl) hd hE4 hpo hap4 (by rw [herr]; decide)
      have hrow2 := fun {W : World} {S' : Nat → Prop} (h : NodS W g N4 R' 1 k S' (L1.offers n 9 z32i) m) => hrow h ((offers_c _ _ _ _).trans (by rw [hcc]; exact offer_bad (np1_err _ _) (by decide)))
      have hnew : ∀ {W : World}, Upd (fun i => Fr S w3 w4 i ∨ i = m) w4 W → New w W := fun u => n4.then u (fun i hi e => by
        rcases e with (e | e) | e
        · have := hSge i e; omega
        · omega
        · omega)
      have HP := hide (And.intro @hrow2 @hnew)
      clear hN4 hs4 hw4 hrow hrow2 hnew hpo herr hE4 hap4 hN hE hSge n3 hsh0 hsw0 hcc hLB u4 n4 HB HC HN NW
      go_wp2_with fail
      refine hp.mono ?_
      rintro e w5 ⟨⟨id, rfl⟩, hN5, u5⟩
      have HLs : Hid (New w w5 ∧ Lists w5 g ⟨1, 70000, 30000, 0, false⟩) := hide ⟨(unhide HP).2 u5, (unhide HP).1 hN5⟩
      clear hp hN5 u5 HP
      have hLs := (unhide HLs).2
      have hN5 := (unhide HLs).1
      clear HLs
      go_wp2_with fail
      refine (hLs _ (Upd.refl _ _)).mono ?_
      rintro e w6 ⟨G, cap, rfl, hr, hG, n6⟩
      have hok : RowOk ⟨1, 70000, 30000, 0, false⟩ := ⟨by decide, by decide, by decide, by decide⟩
      have heq := eq_row_same hok
      have NN := hide (hN5.trans n6)
      clear hLs hN5 n6 hok
      go_wp2_with fail
      go_ret
      exact ⟨rfl, unhide NN⟩
    · have hrow2 := fun (W : World) (n : New w4 W) => hrow (hN4.new n) hcc
      have HP := hide hrow2
      clear hN4 hw4 hrow hrow2 hpo herr hE4 hap4 hN hE hSge n3 hsh0 hsw0 hcc hLB u4 n4 HB HC
      have hp := npay_out g N4 R' 1 k _ L1 m n 9 z32i pt true w4 (unhide HN) hs4 hd z32i_len (by omega)
      go_wp2_with fail
      refine hp.mono ?_
      rintro e w5 ⟨rfl, n5⟩
      have HLs : Hid (New w w5 ∧ Lists w5 g ⟨1, 70000, 30000, 0, false⟩) := hide ⟨(unhide NW).trans n5, unhide HP _ n5⟩
      have hpb : (pt != 0) = true := by simpa using hp0
      clear hp n5
      have hLs := (unhide HLs).2
      have hN5 := (unhide HLs).1
      clear HLs
      go_wp2_with fail
      refine (hLs _ (Upd.refl _ _)).mono ?_
      rintro e w6 ⟨G, cap, rfl, hr, hG, n6⟩
      have hok : RowOk ⟨1, 70000, 30000, 0, false⟩ := ⟨by decide, by decide, by decide, by decide⟩
      have heq := eq_row_same hok
      have NN := hide (hN5.trans n6)
      clear hLs hN5 n6 hok
      go_wp2_with fail
      go_ret
      exact ⟨rfl, unhide NN⟩
  | false =>
    obtain ⟨hN, -, hE, hSge, n3, hmge, hsh0, hsw0⟩ := unhide H3
    have hz3 := n3.size
    have hLB := LkB.new np0
    have hrow : ∀ {W : World} {S' : Nat → Prop} {L2 : Lk}, NodS W g NV R' 1 k S' L2 m → (0 ≤ L2.c.k.heard ∧ L2.c.k.heard < 4294967296) → Lists W g ⟨L2.c.s.ch, L2.c.loc, L2.c.rem, sumI64 (amts true true L2.c.xs) 0, false⟩ := fun h hc => lists_of h (by rw [hsh0]; rfl) hsw0 hc
    have herr : (((Lk.new np0).c.offer (n : Int) (hvec z32i) (9 : Nat)).2.2) = offerErr np0 n 9 := offer_err _ _ _ _
    have hpo : PayOk w3 (.new np0) n 9 z32i := ⟨hLB.ok (by decide), z32i_len, hby, by omega, by decide, ⟨by decide, by decide⟩, offer_say z32i_len hby (by decide) (by decide) ⟨by omega, by omega⟩ ⟨by decide, by decide⟩, offer_mlen _ _ _ _, hT3⟩
    have HN := hide hN
    have NW := hide n3
    by_cases hp0 : pt = 0
    · subst hp0
      have hp := npay_any g NV R' 1 k S (.new np0) m n 9 z32i false w3 hN (by rw [hsh0]; rfl) hd hE hpo hap (by rw [herr]; exact offerErr_ne _ _ _)
      have hnew : ∀ {W : World}, Upd (fun i => S i ∨ i = m) w3 W → New w W := fun u => n3.then u (fun i hi e => by
        rcases e with e | e
        · have := hSge i e; omega
        · omega)
      rw [herr] at hp
      by_cases hn0 : n = 0
      · subst hn0
        have hrow2 := fun {W : World} {S' : Nat → Prop} (h : NodS W g NV R' 1 k S' ((Lk.new np0).offers 0 9 z32i) m) => hrow h (by rw [offers_c]; exact ⟨by decide, by decide⟩)
        have hlc : ((Lk.new np0).offers 0 9 z32i).c = np0 := (offers_c _ _ _ _).trans (offer_bad np0_err0 (by decide))
        rw [hlc] at hrow2
        have HP := hide (And.intro @hrow2 @hnew)
        have hp1 : offerErr np0 ((0 : Nat) : Int) 9 = 1 := np0_err0
        rw [hp1] at hp
        clear hN hrow hrow2 hnew hpo herr hE hSge n3 hsh0 hsw0 hLB HN NW H3 hlc hp1
        go_wp2_with fail
        refine hp.mono ?_
        rintro e w5 ⟨⟨id, rfl⟩, hN5, u5⟩
        have HLs : Hid (New w w5 ∧ Lists w5 g ⟨1, 70000, 30000, 0, false⟩) := hide ⟨(unhide HP).2 u5, (unhide HP).1 hN5⟩
        clear hp hN5 u5 HP
        have hLs := (unhide HLs).2
        have hN5 := (unhide HLs).1
        clear HLs
        go_wp2_with fail
        refine (hLs _ (Upd.refl _ _)).mono ?_
        rintro e w6 ⟨G, cap, rfl, hr, hG, n6⟩
        have hok : RowOk ⟨1, 70000, 30000, 0, false⟩ := ⟨by decide, by decide, by decide, by decide⟩
        have heq := eq_row_same hok
        have NN := hide (hN5.trans n6)
        clear hLs hN5 n6 hok
        go_wp2_with fail
        go_ret
        exact ⟨rfl, unhide NN⟩
      · have he0 := np0_err (n := n) (by omega) (by omega)
        have hlc : ((Lk.new np0).offers n 9 z32i).c = (np0.offered n (hvec z32i) 9).say (offerMsg np0 n (hvec z32i) 9) := (offers_c _ _ _ _).trans (offer_good he0)
        have hrow2 := fun {W : World} {S' : Nat → Prop} (h : NodS W g NV R' 1 k S' ((Lk.new np0).offers n 9 z32i) m) => hrow h (by rw [hlc]; exact ⟨Int.le_refl _, by show (0 : Int) < 4294967296; decide⟩)
        rw [hlc] at hrow2
        have hrow3 : ∀ {W : World} {S' : Nat → Prop}, NodS W g NV R' 1 k S' ((Lk.new np0).offers n 9 z32i) m → Lists W g ⟨1, 70000 - (n : Int), 30000, (n : Int), false⟩ := fun h => by
          have hsum : sumI64 (amts true true ((np0.offered n (hvec z32i) 9).say (offerMsg np0 n (hvec z32i) 9)).xs) 0 = (n : Int) := by
            show IntKind.u64.wrap (0 + (n : Int)) = n
            rw [Int.zero_add]
            exact hcv
          have := hrow2 h
          rw [hsum] at this
          exact this
        have HP := hide (And.intro @hrow3 @hnew)
        rw [he0] at hp
        have hnn : (n : Int) ≠ 0 := by omega
        clear hN hrow hrow2 hrow3 hnew hpo herr hE hSge n3 hsh0 hsw0 hLB HN NW H3 hlc he0
        go_wp2_with fail
        refine hp.mono ?_
        rintro e w5 ⟨⟨id, rfl⟩, hN5, u5⟩
        have HLs : Hid (New w w5 ∧ Lists w5 g ⟨1, 70000 - (n : Int), 30000, (n : Int), false⟩) := hide ⟨(unhide HP).2 u5, (unhide HP).1 hN5⟩
        clear hp hN5 u5 HP
        have hLs := (unhide HLs).2
        have hN5 := (unhide HLs).1
        clear HLs
        go_wp2_with fail
        refine (hLs _ (Upd.refl _ _)).mono ?_
        rintro e w6 ⟨G, cap, rfl, hr, hG, n6⟩
        have hok : RowOk ⟨1, 70000 - (n : Int), 30000, (n : Int), false⟩ := ⟨by show (0 : Int) ≤ 1 ∧ (1 : Int) ≤ 4294967295; decide, ⟨by show (0 : Int) ≤ 70000 - n; omega, by show 70000 - (n : Int) ≤ _; omega⟩, by show (0 : Int) ≤ 30000 ∧ (30000 : Int) ≤ 18446744073709551615; decide, ⟨by show (0 : Int) ≤ n; omega, by show (n : Int) ≤ _; omega⟩⟩
        have heq := eq_row_same hok
        have hwr : IntKind.u64.wrap (70000 - (n : Int)) = 70000 - n := wrapU (by omega) (by omega)
        have NN := hide (hN5.trans n6)
        clear hLs hN5 n6 hok
        go_wp2_with fail
        go_ret
        exact ⟨rfl, unhide NN⟩
    · have hrow2 := fun (W : World) (n : New w3 W) => hrow (hN.new n) (by decide)
      have HP := hide hrow2
      clear hN hrow hrow2 hpo herr hE hSge n3 hsw0 hLB H3
      have hp := npay_out g NV R' 1 k _ (.new np0) m n 9 z32i pt false w3 (unhide HN) hsh0 hd z32i_len (by omega)
      go_wp2_with fail
      refine hp.mono ?_
      rintro e w5 ⟨rfl, n5⟩
      have HLs : Hid (New w w5 ∧ Lists w5 g ⟨1, 70000, 30000, 0, false⟩) := hide ⟨(unhide NW).trans n5, unhide HP _ n5⟩
      have hpb : (pt != 0) = true := by simpa using hp0
      clear hp n5
      have hLs := (unhide HLs).2
      have hN5 := (unhide HLs).1
      clear HLs
      go_wp2_with fail
      refine (hLs _ (Upd.refl _ _)).mono ?_
      rintro e w6 ⟨G, cap, rfl, hr, hG, n6⟩
      have hok : RowOk ⟨1, 70000, 30000, 0, false⟩ := ⟨by decide, by decide, by decide, by decide⟩
      have heq := eq_row_same hok
      have NN := hide (hN5.trans n6)
      clear hLs hN5 n6 hok
      go_wp2_with fail
      go_ret
      exact ⟨rfl, unhide NN⟩
end Go.Proofs.YtainkaojnhfldaaGreatDoor
