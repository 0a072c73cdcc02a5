/-
  The law NodeDrains, walked.
-/
import Derived.Test.YtainkaojnhfldaaGreatDoorMej
import Derived.Test.YtainkaojnhfldaaGreatDoorNp4
set_option linter.unusedVariables false
set_option linter.unusedSimpArgs false
namespace Go.Proofs.YtainkaojnhfldaaGreatDoor
open Go.RowKit

def nc0 : Ch := Ch.new (.of 1 1000 900)
theorem nc0_err {n : Int} (h0 : n ≠ 0) (h1 : n ≤ 256) : offerErr nc0 n 9 = 0 := by
  unfold offerErr
  rw [if_neg (by decide), if_neg h0, if_neg (by decide), if_neg (by decide), if_neg (by show ¬ (900 : Int) < n; omega)]
/-- A node ahead of its Drain: all that the rest of the law asks of it. -/
def Ahead (w0 w : World) (g : Nat) (b : Bool) : Prop :=
  (Calls Tryz.prog 20 #[.pointer (some ⟨g, 0, none⟩)] w fun e w' => e = .returned (.bool false) ∧ New w w') ∧
  ∀ W, New w W → Calls Tryz.prog 21 #[.pointer (some ⟨g, 0, none⟩)] W fun e w' => e = .returned (.int .i64 0) ∧ ∃ x, RowOk x ∧ Drained w' g x b 100 ∧ (New w0 W → New w0 w')
theorem NodS.ahead {w0 w : World} {g : Nat} {N : NodeV} {R : RelV} {ch : Int} {k : Nat} {S : Nat → Prop} {L : Lk} {m m0 : Nat} (h : NodS w g N R ch k S L m) (hci : CiE w R.ci m0) (b : Bool) (hb : L.c.xs.isEmpty = b) (hd : N.drains = false) (hs : N.shut = List.replicate 8 false) (hw : N.swept = List.replicate 8 false) (hf : N.funds = 100) (hh : 0 ≤ L.c.k.heard ∧ L.c.k.heard < 4294967296) (hx : RowOk ⟨L.c.s.ch, L.c.loc, L.c.rem, sumI64 (amts true true L.c.xs) 0, false⟩) (hge : w0.heap.size ≤ g ∧ w0.heap.size ≤ N.re) : Ahead w0 w g b := by
  constructor
  · refine (done_any g N R ch k S L m m0 w h hci).mono ?_
    rintro e w' ⟨rfl, n⟩
    rw [hd]
    exact ⟨by simp, n⟩
  · intro W n
    refine (ndrain_any g N R W (n.old h.no (fun h => h)) (n.old h.re (fun h => h)) hd).mono ?_
    rintro e w' ⟨rfl, h1, h2, u⟩
    have hN := (h.new n).drained h1 h2 u
    have hc : CiE w' R.ci m0 := by
      obtain ⟨⟨a, b, m2, h3⟩, h4⟩ := hci.new n
      refine (hci.new n).upd u ?_ ?_
      · rintro (e | e)
        · exact apart_ty' h3 (h.new n).no (by decide) e
        · exact apart_ty' h3 (h.new n).re (by decide) e
      · rintro (e | e)
        · exact ne_map (h.new n).no h4 e.symm
        · exact ne_map (h.new n).re h4 e.symm
    refine ⟨rfl, _, hx, ?_, fun n0 => n0.then u (fun i hi e => e.elim (fun e => by omega) (fun e => by omega))⟩
    have := NodS.told hN hc (lists_of hN (by show N.shut.length = 8; rw [hs]; rfl) hw hh) false (by rw [hs]; rfl) (by rw [hf]; exact ⟨by decide, by decide⟩)
    rw [hb, hf] at this
    exact this
attribute [local go_sem ↓ high] bd_set_fold bd_row3_fold eq_row_fold ld_row_fold bd_hsh_fold
attribute [local go_sem] bd_set3 bd_set2 bd_row4 ld_row rowN_drew bd_hsh
set_option maxRecDepth 100000 in
set_option maxHeartbeats 600000 in
theorem drains_walk (n : Nat) (pay : Bool) (w : World) (hn : n < 256) (hT : Tabs w) :
    Calls Tryz.prog 5 #[.int .u8 (n : Int), .bool pay] w (Makes (.bool true) w) := by
  have hof := of_ok 1 1000 900 (by decide) (by decide) (by decide)
  have hmay : (SetupV.of 1 1000 900).may := ⟨by decide, by decide, by decide, by decide, by decide⟩
  have hz : z32i.length = 32 := z32i_len
  have hcv : IntKind.u64.wrap (n : Int) = n := wrapU (by omega) (by omega)
  have hc1 : IntKind.u64.wrap ((n : Int) + 1) = n + 1 := wrapU (by omega) (by omega)
  go_enter Tryz.func5, Tryz.ntmps5
  go_wp2_with fail
  refine (newN2_any 1000 0 0 (by decide) w).mono ?_
  rintro e w1 ⟨g, r, R, m0, m4, rfl, hr, hrg, hnode, hR, hci, hpm, hm04, hm0, hc0, n1⟩
  have HH := hide (And.intro hnode (And.intro hR (And.intro hci (And.intro hpm (And.intro hm04 (And.intro hm0 (And.intro hc0 n1)))))))
  clear hnode hR n1 hci hpm hm04 hm0 hc0
  go_wp2_with fail
  refine (shown_any w1).mono ?_
  rintro e w2 ⟨rfl, n2⟩
  obtain ⟨hnode, hR, hci, hpm, hm04, hm0, hc0, n1⟩ := unhide HH
  have hop := open_one2 w w2 g r w.heap.size 1000 1 1000 900 R m0 m4 (n2.old hnode (fun h => h)) (hR.new n2) (hci.new n2) hpm hm04 (Nat.le_refl _) hr (by omega) (n1.trans n2) hof hmay (by decide) (by decide)
  clear HH hnode hR n1 n2 hci hpm hm04 hm0 hc0
  go_wp2_with fail
  refine hop.mono ?_
  rintro e w3 ⟨rfl, R', k, S, m, hN, hd, hE, hSge, n3, hmge, hci, hcS, hm0S, hm0m⟩
  have hN : NodS w3 g { NodeV.new r 1000 with funds := 1000 - 900 } R' 1 k S (.new nc0) m := hN
  generalize hNV : ({ NodeV.new r 1000 with funds := 1000 - 900 } : NodeV) = NV at hN
  have hsh0 : NV.shut = List.replicate 8 false := by rw [← hNV]; rfl
  have hsw0 : NV.swept = List.replicate 8 false := by rw [← hNV]; rfl
  have hdr0 : NV.drains = false := by rw [← hNV]; rfl
  have hfu0 : NV.funds = 100 := by rw [← hNV]; rfl
  have hre0 : NV.re = r := by rw [← hNV]; rfl
  have hap : ApD S := apd_ge hT hSge
  have hgS : w.heap.size ≤ g := by omega
  have hT3 := hT.new n3
  have hby : Bytes z32i := z32i_bytes
  have hLB := LkB.new nc0
  cases pay with
  | false =>
    have hA : Ahead w w3 g true := hN.ahead hci true rfl hdr0 hsh0 hsw0 hfu0 ⟨by decide, by decide⟩ ⟨by decide, by decide, by decide, by decide⟩ ⟨by omega, by omega⟩
    have HA := hide (And.intro hA n3)
    clear hN hd hE hSge n3 hmge hci hcS hm0S hm0m hNV hsh0 hsw0 hdr0 hfu0 hre0 hap hT3 hLB hop hA
    have hA := (unhide HA).1.1
    have hD := (unhide HA).1.2
    have N4 := hide (unhide HA).2
    clear HA
    go_wp2_with fail
    refine hA.mono ?_
    rintro e w5 ⟨rfl, n5⟩
    have hdr := hD w5 n5
    have N5 := hide ((unhide N4).trans n5)
    clear hA hD N4 n5
    go_wp2_with fail
    refine hdr.mono ?_
    rintro e w6 ⟨rfl, x, hx, hT6, h6⟩
    have N6 := hide (h6 (unhide N5))
    clear hdr N5 h6
    have H6 := hide hT6
    have hl6 := hT6.lists _ (Upd.refl _ _)
    clear hT6
    go_wp2_with fail
    refine hl6.mono ?_
    rintro e w7 ⟨G1, cap1, rfl, hr1, hG1, n7⟩
    have ho := (unhide H6).op w7 n7
    have N7 := hide n7
    clear hl6 n7
    go_wp2_with fail
    refine ho.mono ?_
    rintro e w8 ⟨rfl, n8⟩
    have hr1' := rowN_upd hr1 n8 (fun h => h)
    have n9 := (unhide N7).trans n8
    have hp := (unhide H6).pay w8 n9
    have N8 := hide n9
    clear ho n8 n9 hr1 N7
    go_wp2_with fail
    refine hp.mono ?_
    rintro e w9 ⟨rfl, n9⟩
    have hr2 := rowN_upd hr1' n9 (fun h => h)
    have n10 := (unhide N8).trans n9
    have hl := (unhide H6).lists w9 n10
    have N9 := hide n10
    clear hp n9 n10 hr1' N8
    go_wp2_with fail
    refine hl.mono ?_
    rintro e wa ⟨G2, cap2, rfl, hr3, hG2, na⟩
    have hr4 := rowN_upd hr2 na (fun h => h)
    have nb := (unhide N9).trans na
    have heq := eq_row_same hx
    have NA := hide nb
    clear hl na nb hr2 N9 hx
    have ht := fun W (n : New wa W) => (unhide H6).twice W ((unhide NA).trans n)
    have hdn := fun W (n : New wa W) => (unhide H6).done W ((unhide NA).trans n)
    have hfn := fun W (n : New wa W) => (unhide H6).funds W ((unhide NA).trans n)
    have hda := (Upd.refl (fun _ => False) wa).drew
    have htw := ht _ hda
    have hr5 := rowN_upd hr3 hda (fun h => h)
    have hr6 := rowN_upd hr4 hda (fun h => h)
    have ND := hide hda
    clear ht hda hr3 hr4
    go_wp2_with (with_reducible first | (first | refine' tw1 (ido ?_) ?_ | refine' tw2 (ido ?_) ?_); rotate_left | refine' tw3 (ido ?_) | rfl | apply tn | refine' tw4 ?_)
    refine htw.mono ?_
    rintro e wb ⟨rfl, qb⟩
    have nb : New wa wb := (unhide ND).trans (qb.upd _)
    have hr7 := rowN_upd hr5 (qb.upd (fun _ => False)) (fun h => h)
    have hr8 := rowN_upd hr6 (qb.upd (fun _ => False)) (fun h => h)
    have hdw := hdn wb nb
    have NB := hide nb
    clear htw hdn ND nb hr5 hr6 qb
    go_wp2_with (with_reducible first | (first | refine' tw1 (ido ?_) ?_ | refine' tw2 (ido ?_) ?_); rotate_left | refine' tw3 (ido ?_) | rfl | apply tn | refine' tw4 ?_)
    refine hdw.mono ?_
    rintro e wc ⟨rfl, nc⟩
    have nd := (unhide NB).trans nc
    have hfw := hfn wc nd
    have NC := hide nd
    clear hdw hfn NB nd nc hr7 hr8
    go_wp2_with (with_reducible first | (first | refine' tw1 (ido ?_) ?_ | refine' tw2 (ido ?_) ?_); rotate_left | refine' tw3 (ido ?_) | rfl | apply tn | refine' tw4 ?_)
    refine hfw.mono ?_
    rintro e wd ⟨rfl, qd⟩
    have hfin : New w wd := (unhide N6).trans ((unhide NA).trans ((unhide NC).trans (qd.upd _)))
    have NF := hide hfin
    clear hfw NC NA N6 qd hfin
    go_wp2_with (with_reducible first | (first | refine' tw1 (ido ?_) ?_ | refine' tw2 (ido ?_) ?_); rotate_left | refine' tw3 (ido ?_) | rfl | apply tn | refine' tw4 ?_)
    go_ret
    exact ⟨rfl, unhide NF⟩
  | true =>
    have herr : (((Lk.new nc0).c.offer ((n + 1 : Nat) : Int) (hvec z32i) (9 : Nat)).2.2) = offerErr nc0 ((n + 1 : Nat) : Int) 9 := offer_err _ _ _ _
    have hpo : PayOk w3 (.new nc0) (n + 1) 9 z32i := ⟨hLB.ok (by decide), z32i_len, hby, by omega, by decide, ⟨by decide, by decide⟩, offer_say z32i_len hby (by decide) (by decide) ⟨by omega, by omega⟩ ⟨by decide, by decide⟩, offer_mlen _ _ _ _, hT3⟩
    have hp := npay_any g NV R' 1 k S (.new nc0) m (n + 1) 9 z32i false w3 hN (by rw [hsh0]; rfl) hd hE hpo hap (by rw [herr]; exact offerErr_ne _ _ _)
    have he0 := nc0_err (n := ((n + 1 : Nat) : Int)) (by omega) (by omega)
    rw [herr, he0] at hp
    have hlc : ((Lk.new nc0).offers (n + 1) 9 z32i).c = (nc0.offered ((n + 1 : Nat) : Int) (hvec z32i) 9).say (offerMsg nc0 ((n + 1 : Nat) : Int) (hvec z32i) 9) := (offers_c _ _ _ _).trans (offer_good he0)
    rw [show ((n + 1 : Nat) : Int) = (n : Int) + 1 from rfl] at hp
    have HB := hide (And.intro hN (And.intro hE (And.intro hSge (And.intro n3 (And.intro hmge (And.intro hci (And.intro hcS (And.intro hm0S (And.intro hm0m (And.intro hsh0 (And.intro hsw0 (And.intro hdr0 (And.intro hfu0 (And.intro hre0 hlc))))))))))))))
    clear hN hd hE hSge n3 hmge hci hcS hm0S hm0m hNV hsh0 hsw0 hdr0 hfu0 hre0 hap hT3 hLB hop herr hpo he0 hlc
    go_wp2_with fail
    refine hp.mono ?_
    rintro e w4 ⟨⟨id, rfl⟩, hN4, u4⟩
    obtain ⟨hN, hE, hSge, n3, hmge, hci, hcS, hm0S, hm0m, hsh0, hsw0, hdr0, hfu0, hre0, hlc⟩ := unhide HB
    have n4 : New w w4 := n3.then u4 (fun i hi e => by
      rcases e with e | e
      · have := hSge i e; omega
      · omega)
    have hci4 : CiE w4 R'.ci m0 := by
      refine hci.upd u4 ?_ ?_
      · rintro (e | e)
        · exact hcS e
        · obtain ⟨⟨a, b, m2, h3⟩, h4⟩ := hci
          exact ne_map h3 hE e
      · exact fun e => e.elim hm0S hm0m
    have hA : Ahead w w4 g false := by
      have hsum : sumI64 (amts true true ((nc0.offered ((n + 1 : Nat) : Int) (hvec z32i) 9).say (offerMsg nc0 ((n + 1 : Nat) : Int) (hvec z32i) 9)).xs) 0 = ((n + 1 : Nat) : Int) := by
        show IntKind.u64.wrap (0 + ((n + 1 : Nat) : Int)) = _
        rw [Int.zero_add]
        exact hc1
      refine hN4.ahead hci4 false (by rw [hlc]; rfl) hdr0 hsh0 hsw0 hfu0 ?_ ?_ ⟨by omega, by omega⟩
      · rw [hlc]
        exact ⟨Int.le_refl _, by show (0 : Int) < 4294967296; decide⟩
      · rw [hlc, hsum]
        refine ⟨by show (0 : Int) ≤ 1 ∧ (1 : Int) ≤ 4294967295; decide, ⟨?_, ?_⟩, by show (0 : Int) ≤ 100 ∧ (100 : Int) ≤ 18446744073709551615; decide, ⟨by show (0 : Int) ≤ ((n + 1 : Nat) : Int); omega, by show ((n + 1 : Nat) : Int) ≤ _; omega⟩⟩
        · show (0 : Int) ≤ 900 - ((n + 1 : Nat) : Int)
          omega
        · show 900 - ((n + 1 : Nat) : Int) ≤ _
          omega
    have HA := hide (And.intro hA n4)
    clear hN hE hSge n3 hmge hci hcS hm0S hm0m hsh0 hsw0 hdr0 hfu0 hre0 hlc hp HB hN4 u4 n4 hci4 hA
    have hA := (unhide HA).1.1
    have hD := (unhide HA).1.2
    have N4 := hide (unhide HA).2
    clear HA
    go_wp2_with fail
    refine hA.mono ?_
    rintro e w5 ⟨rfl, n5⟩
    have hdr := hD w5 n5
    have N5 := hide ((unhide N4).trans n5)
    clear hA hD N4 n5
    go_wp2_with fail
    refine hdr.mono ?_
    rintro e w6 ⟨rfl, x, hx, hT6, h6⟩
    have N6 := hide (h6 (unhide N5))
    clear hdr N5 h6
    have H6 := hide hT6
    have hl6 := hT6.lists _ (Upd.refl _ _)
    clear hT6
    go_wp2_with fail
    refine hl6.mono ?_
    rintro e w7 ⟨G1, cap1, rfl, hr1, hG1, n7⟩
    have ho := (unhide H6).op w7 n7
    have N7 := hide n7
    clear hl6 n7
    go_wp2_with fail
    refine ho.mono ?_
    rintro e w8 ⟨rfl, n8⟩
    have hr1' := rowN_upd hr1 n8 (fun h => h)
    have n9 := (unhide N7).trans n8
    have hp := (unhide H6).pay w8 n9
    have N8 := hide n9
    clear ho n8 n9 hr1 N7
    go_wp2_with fail
    refine hp.mono ?_
    rintro e w9 ⟨rfl, n9⟩
    have hr2 := rowN_upd hr1' n9 (fun h => h)
    have n10 := (unhide N8).trans n9
    have hl := (unhide H6).lists w9 n10
    have N9 := hide n10
    clear hp n9 n10 hr1' N8
    go_wp2_with fail
    refine hl.mono ?_
    rintro e wa ⟨G2, cap2, rfl, hr3, hG2, na⟩
    have hr4 := rowN_upd hr2 na (fun h => h)
    have nb := (unhide N9).trans na
    have heq := eq_row_same hx
    have NA := hide nb
    clear hl na nb hr2 N9 hx
    have ht := fun W (n : New wa W) => (unhide H6).twice W ((unhide NA).trans n)
    have hdn := fun W (n : New wa W) => (unhide H6).done W ((unhide NA).trans n)
    have hfn := fun W (n : New wa W) => (unhide H6).funds W ((unhide NA).trans n)
    have hda := (Upd.refl (fun _ => False) wa).drew
    have htw := ht _ hda
    have hr5 := rowN_upd hr3 hda (fun h => h)
    have hr6 := rowN_upd hr4 hda (fun h => h)
    have ND := hide hda
    clear ht hda hr3 hr4
    go_wp2_with (with_reducible first | (first | refine' tw1 (ido ?_) ?_ | refine' tw2 (ido ?_) ?_); rotate_left | refine' tw3 (ido ?_) | rfl | apply tn | refine' tw4 ?_)
    refine htw.mono ?_
    rintro e wb ⟨rfl, qb⟩
    have nb : New wa wb := (unhide ND).trans (qb.upd _)
    have hr7 := rowN_upd hr5 (qb.upd (fun _ => False)) (fun h => h)
    have hr8 := rowN_upd hr6 (qb.upd (fun _ => False)) (fun h => h)
    have hdw := hdn wb nb
    have NB := hide nb
    clear htw hdn ND nb hr5 hr6 qb
    go_wp2_with (with_reducible first | (first | refine' tw1 (ido ?_) ?_ | refine' tw2 (ido ?_) ?_); rotate_left | refine' tw3 (ido ?_) | rfl | apply tn | refine' tw4 ?_)
    refine hdw.mono ?_
    rintro e wc ⟨rfl, nc⟩
    have nd := (unhide NB).trans nc
    have hfw := hfn wc nd
    have NC := hide nd
    clear hdw hfn NB nd nc hr7 hr8
    go_wp2_with (with_reducible first | (first | refine' tw1 (ido ?_) ?_ | refine' tw2 (ido ?_) ?_); rotate_left | refine' tw3 (ido ?_) | rfl | apply tn | refine' tw4 ?_)
    refine hfw.mono ?_
    rintro e wd ⟨rfl, qd⟩
    have hfin : New w wd := (unhide N6).trans ((unhide NA).trans ((unhide NC).trans (qd.upd _)))
    have NF := hide hfin
    clear hfw NC NA N6 qd hfin
    go_wp2_with (with_reducible first | (first | refine' tw1 (ido ?_) ?_ | refine' tw2 (ido ?_) ?_); rotate_left | refine' tw3 (ido ?_) | rfl | apply tn | refine' tw4 ?_)
    go_ret
    exact ⟨rfl, unhide NF⟩
end Go.Proofs.YtainkaojnhfldaaGreatDoor
