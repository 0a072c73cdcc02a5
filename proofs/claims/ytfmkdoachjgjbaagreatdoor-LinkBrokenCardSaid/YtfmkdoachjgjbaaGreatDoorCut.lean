/-
  Cut.
-/
import Derived.Test.YtfmkdoachjgjbaaGreatDoorMea
set_option linter.unusedVariables false
set_option linter.unusedSimpArgs false
namespace Go.Proofs.YtfmkdoachjgjbaaGreatDoor
open Go.RowKit

attribute [local go_sem ↓ high] ld_live_fold st_live_fold al_live_fold bs_liv_fold ld_htl_fold bs_htl_fold
attribute [local go_sem] ld_live st_live al_live bs_liv ld_htl bs_htl rowN_drew

set_option maxRecDepth 100000 in
set_option maxHeartbeats 4000000 in
theorem ccut_any (g : Nat) (S : Nat → Prop) (c : Ch) (w : World) (h : ChS w g S c) :
    Calls Tryz.prog 68 #[.pointer (some ⟨g, 0, none⟩)] w fun e w' => (∃ ov rv, e = .returned (.agg #[ov, rv])) ∧ ChS w' g (Fr S w w') c.cut ∧ Upd S w w' := by
  obtain ⟨lv, nv, av, h⟩ := h
  have hfew := h.ok.few
  have hxo := h.ok.xs
  have hglt := h.lt g h.inG
  obtain ⟨la, lcap, hlv⟩ := own_shape' h.live
  have hcell : ∀ (i : Nat) (x : Live), c.xs[i]? = some x → ∃ g', la = some ⟨g', 0, none⟩ ∧ HeldL w g' 0 c.xs ∧ g' ≠ g ∧ g' < w.heap.size := by
    intro i x hi
    have hlt := (List.getElem?_eq_some_iff.1 hi).1
    rcases (heldL_of_owns h.live).2 with ⟨e, e0⟩ | ⟨g', cap', e, -, hh⟩
    · rw [e0] at hlt; simp at hlt
    · rw [hlv] at e
      injection e with e1
      obtain ⟨cur, hcur⟩ := own_blk' h.live g' (by rw [hlv, e1]; rfl)
      exact ⟨g', e1, hh.toL, apart_ty' hcur h.at_ (by decide), blk_lt hcur⟩
  have c47 : w.cell? ⟨g, 47, none⟩ = some lv := h.toR.live
  rw [hlv] at c47
  obtain ⟨i9, z9, b9, hi9, hz9, hz0, hz1, hz2, hb9⟩ := live_info'
  obtain ⟨j9, y9, d9, hj9, hy9, hy0, hy1, hy2, hd9⟩ := htl_info
  obtain ⟨k9, x9, e9, hk9, hx9, hx0, hx1, hx2, he9⟩ := u64_infoc
  have hll : (c.xs.length : Int) ≤ 1000000 := by omega
  have hce : c.cut = (c.xs.foldl cutStep c).unsaid (cutL c.xs) := rfl
  have HCE := hide hce
  have H0 := hide h
  have HXO := hide hxo
  clear h hce hxo
  generalize hxs : c.xs = xs at *
  clear hxs
  go_enter Tryz.func68, Tryz.ntmps68
  go_upto_region 2 with fail
  have hR := blk_alloc_old (blk_alloc w (.cells #[.slice none 0 0, .slice none 0 0] 141)) (.cells #[.slice none 0 0, .slice none 0 0] 141)
  have hK := blk_alloc (w.alloc (.cells #[.slice none 0 0, .slice none 0 0] 141)) (.cells #[.slice none 0 0, .slice none 0 0] 141)
  rw [World.size_alloc] at hK
  have n1 : New w ((w.alloc (.cells #[.slice none 0 0, .slice none 0 0] 141)).alloc (.cells #[.slice none 0 0, .slice none 0 0] 141)) := ((Upd.refl _ _).alloc _).alloc _
  generalize (w.alloc (.cells #[.slice none 0 0, .slice none 0 0] 141)).alloc (.cells #[.slice none 0 0, .slice none 0 0] 141) = w1 at hR hK n1 ⊢
  obtain ⟨R, hRe⟩ : ∃ R, R = w.heap.size := ⟨_, rfl⟩
  obtain ⟨K, hKe⟩ : ∃ K, K = w.heap.size + 1 := ⟨_, rfl⟩
  rw [← hKe] at hK ⊢
  rw [← hRe] at hR ⊢
  have hS0 : CutS w w1 g K R S c lv nv av (.slice none 0 0) (.slice none 0 0) (.slice none 0 0) [] [] [] :=
    ⟨(unhide H0).new n1, hK, hR, World.ownsRow_nil _ _ _ _, World.ownsRow_nil _ _ _ _, World.ownsRow_nil _ _ _ _, n1.mono (fun _ _ h => h.elim), (unhide H0).lt, by omega, by omega, by omega⟩
  have HS0 := hide hS0
  have c47 := n1.cell c47 (fun h => h)
  clear hRe hKe hK hR n1 hS0
  go_wp2_with fail
  go_loopw [4, 6, 12] (fun kv _ iv wr => ∃ (i : Nat) (ov rv : Value), iv = .int .i64 (i : Int) ∧ i ≤ xs.length ∧ CutS w wr g K R S ((xs.take i).foldl cutStep c) lv nv av kv ov rv (cutL (xs.take i)) (cutOffs (xs.take i)) (cutRems (xs.take i))) (fun _ _ iv _ => xs.length - (intOf iv).toNat)
  case atStart => exact ⟨0, _, _, rfl, Nat.zero_le _, unhide HS0⟩
  case round =>
    obtain ⟨i, ov, rv, rfl, hi, hS⟩ := hrel
    obtain ⟨wq, rfl⟩ : ∃ wq : World, wq = wr := ⟨_, rfl⟩
    obtain ⟨ka, kcap, hkv⟩ := own_shape' hS.ko
    subst hkv
    obtain ⟨oa, ocap, hov⟩ := own_shape' hS.oo
    subst hov
    obtain ⟨ra, rcap, hrv⟩ := own_shape' hS.ro
    subst hrv
    by_cases hlt : i < xs.length
    · obtain ⟨x, hxx⟩ : ∃ x, xs[i]? = some x := ⟨_, List.getElem?_eq_getElem hlt⟩
      obtain ⟨g', rfl, hh, hgg, hgl⟩ := hcell i x hxx
      have hrow := (hh.upd hS.u hgg).row hxx
      rw [Nat.zero_add] at hrow
      have hi0 : (i : Int) < (xs.length : Int) := by omega
      have hst := stOk_live wq x
      have hlaid := laid_live wq x
      have HT1 := hide (cutL_take hxx)
      have ht2 := cutF_take c hxx
      have HT3 := hide (cutO_take hxx)
      have HT4 := hide (cutR_take hxx)
      have hml : (cutL (xs.take i)).length ≤ i := by
        have := cutL_len (xs.take i)
        rw [List.length_take] at this
        omega
      have hmo : (cutOffs (xs.take i)).length ≤ i := by
        have := cutO_len (xs.take i)
        rw [List.length_take] at this
        omega
      have hmr : (cutRems (xs.take i)).length ≤ i := by
        have := cutR_len (xs.take i)
        rw [List.length_take] at this
        omega
      generalize (xs.take i).foldl cutStep c = ci at hS ht2
      have HT2 := hide ht2
      generalize hKS : cutL (xs.take i) = ks at *
      generalize hOS : cutOffs (xs.take i) = os at *
      generalize hRS : cutRems (xs.take i) = rs at *
      have HS := hide hS
      clear hxx hh hcell ht2 hS hKS hOS hRS HS0
      go_upto_region 6 with fail
      obtain ⟨hb, nb⟩ := hlaid
      generalize (wq.alloc (.cells (liveCells Live.zero).toArray 69)).setCells wq.heap.size 0 (liveCells x) = wb at hb nb ⊢
      obtain ⟨X, hX⟩ : ∃ X, X = wq.heap.size := ⟨_, rfl⟩
      rw [← hX] at hb ⊢
      have hXo : ∀ {U : TypeId} {sz2 n2 : Nat} {v2 : Value} {l2 : List Value}, wq.ownsRow w.heap.size U sz2 v2 n2 l2 → ∀ k, v2.ownBlock = some k → k ≠ X := by
        intro U sz2 n2 v2 l2 h2 k hk
        obtain ⟨c2, hc2⟩ := own_blk' h2 k hk
        have := blk_lt hc2
        omega
      have hXf := And.intro (hXo (unhide HS).ko) (And.intro (hXo (unhide HS).oo) (hXo (unhide HS).ro))
      have hXw : w.heap.size ≤ X := by rw [hX]; exact (unhide HS).u.size
      have hXK : X ≠ K := by have := blk_lt (unhide HS).k; omega
      have hXR : X ≠ R := by have := blk_lt (unhide HS).r; omega
      have hXg : X ≠ g := by omega
      have HXF := hide hXf
      clear hXo hXf
      have d36 : wb.cell? ⟨X, 36, none⟩ = some (.int .i64 x.state) := by rw [blk_cell hb, List.getElem?_toArray]; exact live_36 x
      have d35 : wb.cell? ⟨X, 35, none⟩ = some (.bool x.own) := by rw [blk_cell hb, List.getElem?_toArray]; exact live_35 x
      have HSb := hide ((unhide HS).new nb)
      have HB := hide hb
      clear hst hrow hb nb HS hX
      by_cases h0 : x.state = 0
      · rw [h0] at d36
        have d1 : wb.cell? ⟨X, 1, none⟩ = some (.int .u64 x.h.amount) := by rw [blk_cell (unhide HB), List.getElem?_toArray]; exact live_1 x
        have hgv := giveC_any g S _ lv nv av x.own x.h.amount wb (unhide HSb).ch
        go_wp2_with fail
        refine hgv.mono ?_
        rintro e w2 ⟨rfl, hp2, u2⟩
        have d35 := u2.cell d35 hXg
        have HS2 := hide ((unhide HSb).op hp2 u2)
        have HB2 := hide (u2.old (unhide HB) hXg)
        have hks : (ci.give x.own x.h.amount).k = ci.k := by unfold Ch.give; split <;> rfl
        clear hgv d1 d36 hp2 u2 HB HSb
        cases ho : x.own with
        | true =>
          have hcs : cutStep ci x = { ci.give true x.h.amount with k := { ci.k with nextOwn := IntKind.u64.wrap (ci.k.nextOwn - 1) } } := by unfold cutStep; rw [if_pos h0, if_pos ho]
          rw [ho] at d35 hks
          rw [ho] at HS2
          have c40 : w2.cell? ⟨g, 40, none⟩ = some (.int .u64 ci.k.nextOwn) := by rw [← hks]; exact (unhide HS2).ch.toR.nextOwn
          have f40 : w2.frozen? ⟨g, 40, none⟩ = false := blk_free (unhide HS2).ch.at_ 40
          have h3 := (unhide HS2).op ((unhide HS2).ch.putNextOwn (IntKind.u64.wrap (ci.k.nextOwn - 1)) (wrap_u64_ok _)) (upd_g _ _ _ _)
          have hb3 := (upd_g w2 g 40 (.int .u64 (IntKind.u64.wrap (ci.k.nextOwn - 1)))).old (unhide HB2) hXg
          rw [hks, ← hcs] at h3
          have HS3 := hide h3
          clear h3 hcs
          go_upto_region 11 with fail
          generalize w2.setCell ⟨g, 40, none⟩ (.int .u64 (IntKind.u64.wrap (ci.k.nextOwn - 1))) = w3 at hb3 HS3 ⊢
          clear c40 f40 d35 HS2 HB2
          have cK : w3.cell? ⟨K, 0, none⟩ = some (.slice oa os.length ocap) := by rw [blk_cell (unhide HS3).k]; rfl
          have rXh := rowN_part (rowN_whole hb3 38 (by rw [List.size_toArray, live_len])) 0 35 (by omega)
          rw [live_htl] at rXh
          have hhl := htlc_len x.h
          have nal : New w3 (w3.alloc (.cells (htlcCells x.h).toArray 41)) := (Upd.refl _ _).alloc _
          have HSA := hide ((unhide HS3).new nal)
          have HSZ := hide (unhide HSA).u.size
          clear hb3 nal
          go_wp2_with (at_builtin; refine wpList_append_own _ rfl (.tmp 39) (.tmp 42) 139 rfl w.heap.size 41 j9 _ 35 d9 Tryz.underlying139 hj9 hy9 hy0 hy1 hy2 (by decide) _ _ _ rfl (unhide HSA).oo ⟨w3.heap.size, 0, none⟩ 1 1 (htlcCells x.h) rfl (by rw [hhl]) ?c1 (htlc_one x.h) ?c3 ?c4 ?c5 ?_)
          case c1 => exact World.news_of_block (cs := (htlcCells x.h).toArray) (fr := (0, 0)) (blk_alloc _ _)
          case c3 => unfold maxLen; omega
          case c4 => have := Nat.mul_le_mul (show os.length + 1 ≤ 1000000 by omega) hd9; omega
          case c5 => exact unhide HSZ
          intro v5 w5 hown5 hgrow5 _
          obtain ⟨a5, cap5, hv5⟩ := own_shape' hown5
          subst hv5
          have u5 : Upd (fun k => (Value.slice oa os.length ocap).ownBlock = some k) (w3.alloc (.cells (htlcCells x.h).toArray 41)) w5 := (Upd.refl _ _).grown hgrow5 (fun k hk _ => hk)
          have h6 := (unhide HSA).putO (os' := os ++ [x.h]) u5 (by rw [List.length_append, List.flatMap_append, List.flatMap_cons, List.flatMap_nil, List.append_nil]; exact hown5)
          have cK5 : w5.cell? ⟨K, 0, none⟩ = some (.slice oa os.length ocap) := by rw [blk_cell ((unhide HSA).grow (unhide HSA).oo u5 (by decide)).2.1]; rfl
          have fK5 : w5.frozen? ⟨K, 0, none⟩ = false := blk_free ((unhide HSA).grow (unhide HSA).oo u5 (by decide)).2.1 0
          have HS6 := hide h6
          clear hown5 hgrow5 u5 h6 rXh cK HSA HSZ
          go_wp2_with fail
          go_roundw
          case rel =>
            refine ⟨i + 1, .slice a5 (os.length + 1) cap5, .slice ra rs.length rcap, by go_num, by omega, ?_⟩
            rw [unhide HT2, unhide HT1, unhide HT3, unhide HT4, if_pos h0, if_pos ⟨h0, ho⟩, if_neg (fun h => by rw [h0] at h; exact absurd h.1 (by decide)), List.append_nil, List.append_nil]
            exact unhide HS6
          case measure => simp [intOf]; omega
        | false =>
          have hcs : cutStep ci x = { ci.give false x.h.amount with k := { ci.k with nextTheirs := IntKind.u64.wrap (ci.k.nextTheirs - 1) } } := by unfold cutStep; rw [if_pos h0, if_neg (by rw [ho]; decide)]
          rw [ho] at d35 hks
          rw [ho] at HS2
          have c41 : w2.cell? ⟨g, 41, none⟩ = some (.int .u64 ci.k.nextTheirs) := by rw [← hks]; exact (unhide HS2).ch.toR.nextTheirs
          have f41 : w2.frozen? ⟨g, 41, none⟩ = false := blk_free (unhide HS2).ch.at_ 41
          have h3 := (unhide HS2).op ((unhide HS2).ch.putNextTheirs (IntKind.u64.wrap (ci.k.nextTheirs - 1)) (wrap_u64_ok _)) (upd_g _ _ _ _)
          rw [hks, ← hcs] at h3
          have HS3 := hide h3
          clear h3 hcs
          go_wp2_with fail
          go_roundw
          case rel =>
            refine ⟨i + 1, .slice oa os.length ocap, .slice ra rs.length rcap, by go_num, by omega, ?_⟩
            rw [unhide HT2, unhide HT1, unhide HT3, unhide HT4, if_pos h0, if_neg (fun h => by rw [ho] at h; exact absurd h.2 (by decide)), if_neg (fun h => by rw [h0] at h; exact absurd h.1 (by decide)), List.append_nil, List.append_nil, List.append_nil]
            exact unhide HS3
          case measure => simp [intOf]; omega
      · have h0' : (x.state == 0) = false := by simpa using h0
        have HCS : Hid (cutStep ci x = ci) := hide (by unfold cutStep; rw [if_neg h0])
        by_cases h5 : x.state = 5
        · rw [h5] at d36
          have HCL : Hid (cutLive x = { x with state := 4, paid := false }) := hide (by unfold cutLive; rw [if_pos h5])
          have hoth : ∀ (W : World) (v : Value) (o : Nat) (r' : Value) (l : List Int), CutS w W g K R S ci lv nv av (.slice ka ks.length kcap) (.slice oa os.length ocap) r' ks os l → (∀ k, r'.ownBlock = some k → k ≠ X) → CutS w (W.setCell ⟨X, o, none⟩ v) g K R S ci lv nv av (.slice ka ks.length kcap) (.slice oa os.length ocap) r' ks os l := fun W v o r' l h hr =>
            h.other ((Upd.refl (· = X) W).set1 o v) (.inr ⟨hXw, hXK, hXR, (unhide HXF).1, (unhide HXF).2.1, hr⟩)
          have HOTH := hide hoth
          clear hoth
          cases ho : x.own with
          | true =>
            rw [ho] at d35
            have f36 : wb.frozen? ⟨X, 36, none⟩ = false := blk_free (unhide HB) 36
            have f37 : (wb.setCell ⟨X, 36, none⟩ (.int .i64 4)).frozen? ⟨X, 37, none⟩ = false := blk_free (blk_set (unhide HB) 36 (.int .i64 4)) 37
            have e37 : ∃ o, (wb.setCell ⟨X, 36, none⟩ (.int .i64 4)).cell? ⟨X, 37, none⟩ = some o := ⟨_, by rw [blk_cell (blk_set (unhide HB) 36 (.int .i64 4)), Array.getElem?_setIfInBounds_ne (by decide), List.getElem?_toArray]; exact live_37 x⟩
            obtain ⟨o37, e37⟩ := e37
            have hS7 := unhide HOTH _ (.bool false) 37 _ _ (unhide HOTH _ (.int .i64 4) 36 _ _ (unhide HSb) (unhide HXF).2.2) (unhide HXF).2.2
            have hb7 := blk_set (blk_set (unhide HB) 36 (.int .i64 4)) 37 (.bool false)
            rw [live_cut, ← unhide HCL] at hb7
            have HRS : Hid (cutRems (xs.take (i + 1)) = rs) := hide (by rw [unhide HT4, if_neg (fun h => by rw [ho] at h; exact absurd h.2 (by decide)), List.append_nil])
            have HS7 := hide hS7
            have HB7 := hide hb7
            clear hS7 hb7
            go_upto_region 17 with fail
            have hS7 := unhide HS7
            have hb7 := unhide HB7
            generalize (wb.setCell ⟨X, 36, none⟩ (.int .i64 4)).setCell ⟨X, 37, none⟩ (.bool false) = w7 at hS7 hb7 ⊢
            clear HS7 HB7 f36 f37 e37
            have rXl := rowN_whole hb7 38 (by rw [List.size_toArray, live_len])
            have hxl := live_len (cutLive x)
            have nal : New w7 (w7.alloc (.cells (liveCells (cutLive x)).toArray 69)) := (Upd.refl _ _).alloc _
            have HSA := hide (hS7.new nal)
            have HSZ := hide (hS7.new nal).u.size
            clear hS7 hb7 nal d36 d35 HSb HB
            go_wp2_with (at_builtin; refine wpList_append_own _ rfl (.tmp 69) (.tmp 71) 46 rfl w.heap.size 69 i9 _ 38 b9 Tryz.underlying46 hi9 hz9 hz0 hz1 hz2 (by decide) _ _ _ rfl (unhide HSA).ko ⟨w7.heap.size, 0, none⟩ 1 1 (liveCells (cutLive x)) rfl (by rw [hxl]) ?c1 (live_one (cutLive x)) ?c3 ?c4 ?c5 ?_)
            case c1 => exact World.news_of_block (cs := (liveCells (cutLive x)).toArray) (fr := (0, 0)) (blk_alloc _ _)
            case c3 => unfold maxLen; omega
            case c4 => have := Nat.mul_le_mul (show ks.length + 1 ≤ 1000000 by omega) hb9; omega
            case c5 => exact unhide HSZ
            intro v8 w8 hown8 hgrow8 _
            obtain ⟨a8, cap8, hv8⟩ := own_shape' hown8
            subst hv8
            have u8 : Upd (fun k => (Value.slice ka ks.length kcap).ownBlock = some k) (w7.alloc (.cells (liveCells (cutLive x)).toArray 69)) w8 := (Upd.refl _ _).grown hgrow8 (fun k hk _ => hk)
            have h9 := (unhide HSA).putL (ks' := ks ++ [cutLive x]) u8 (by rw [List.length_append, List.flatMap_append, List.flatMap_cons, List.flatMap_nil, List.append_nil]; exact hown8)
            have HS9 := hide h9
            clear hown8 hgrow8 u8 h9 rXl HSA HSZ
            go_wp2_with fail
            go_roundw
            case rel =>
              refine ⟨i + 1, .slice oa os.length ocap, .slice ra rs.length rcap, by go_num, by omega, ?_⟩
              rw [unhide HT2, unhide HT1, unhide HT3, if_neg h0, if_neg (fun h => h0 h.1), List.append_nil, unhide HCS, unhide HRS]
              exact unhide HS9
            case measure => simp [intOf]; omega
          | false =>
            rw [ho] at d35
            have d0 : wb.cell? ⟨X, 0, none⟩ = some (.int .u64 x.h.id) := by rw [blk_cell (unhide HB), List.getElem?_toArray]; exact live_0 x
            have cK : wb.cell? ⟨K, 1, none⟩ = some (.slice ra rs.length rcap) := by rw [blk_cell (unhide HSb).k]; rfl
            have nal : New wb (wb.alloc (.cells #[.int .u64 x.h.id] 22)) := (Upd.refl _ _).alloc _
            have HSA := hide ((unhide HSb).new nal)
            have HSZ := hide (unhide HSA).u.size
            have HBA := hide (nal.old (unhide HB) (fun h => h))
            clear nal
            go_wp2_with (at_builtin; refine wpList_append_own _ rfl (.tmp 60) (.tmp 64) 92 rfl w.heap.size 22 k9 _ 1 e9 Tryz.underlying92 hk9 hx9 hx0 hx1 hx2 (by decide) _ _ _ rfl (unhide HSA).ro ⟨wb.heap.size, 0, none⟩ 1 1 [.int .u64 x.h.id] rfl rfl ?c1 ?c2 ?c3 ?c4 ?c5 ?_)
            case c1 => exact World.news_of_block (cs := #[.int .u64 x.h.id]) (fr := (0, 0)) (blk_alloc _ _)
            case c2 =>
              intro v hv
              rw [List.mem_singleton.1 hv]
              rfl
            case c3 => unfold maxLen; omega
            case c4 => have := Nat.mul_le_mul (show rs.length + 1 ≤ 1000000 by omega) he9; omega
            case c5 => exact unhide HSZ
            intro v5 w5 hown5 hgrow5 _
            obtain ⟨a5, cap5, hv5⟩ := own_shape' hown5
            subst hv5
            have u5 : Upd (fun k => (Value.slice ra rs.length rcap).ownBlock = some k) (wb.alloc (.cells #[.int .u64 x.h.id] 22)) w5 := (Upd.refl _ _).grown hgrow5 (fun k hk _ => hk)
            have hro : w5.ownsRow w.heap.size 22 1 (.slice a5 (rs.length + 1) cap5) (rs ++ [x.h.id]).length ((rs ++ [x.h.id]).map (Value.int .u64)) := by
              rw [List.length_append, List.map_append]
              exact hown5
            have h6 := (unhide HSA).putR (rs' := rs ++ [x.h.id]) u5 hro
            have hk5 := ((unhide HSA).grow (unhide HSA).ro u5 (by decide)).2.1
            have cK5 : w5.cell? ⟨K, 1, none⟩ = some (.slice ra rs.length rcap) := by rw [blk_cell hk5]; rfl
            have fK5 : w5.frozen? ⟨K, 1, none⟩ = false := blk_free hk5 1
            have hb5 := u5.old (unhide HBA) (fun e => by
              obtain ⟨c1, hc1⟩ := own_blk' (unhide HSA).ro X e
              exact apart_ty' hc1 (unhide HBA) (by decide) rfl)
            have hb6 := ((Upd.refl (· = K) w5).set1 1 (.slice a5 (rs.length + 1) cap5)).old hb5 hXK
            have HR6 : Hid (∀ k, (Value.slice a5 (rs.length + 1) cap5).ownBlock = some k → k ≠ X) := hide (fun k hk e => by
              obtain ⟨c1, hc1⟩ := own_blk' hro k hk
              exact apart_ty' hc1 hb5 (by decide) e)
            have HS6 := hide h6
            have HB6 := hide hb6
            clear hown5 hgrow5 u5 h6 hro hk5 hb5 hb6 HSA HSZ HBA cK d0 HSb HB d36 d35
            go_upto_region 16 with fail
            generalize w5.setCell ⟨K, 1, none⟩ (.slice a5 (rs.length + 1) cap5) = w6 at HS6 HB6 ⊢
            clear cK5 fK5
            have d36 : w6.cell? ⟨X, 36, none⟩ = some (.int .i64 x.state) := by rw [blk_cell (unhide HB6), List.getElem?_toArray]; exact live_36 x
            have f36 : w6.frozen? ⟨X, 36, none⟩ = false := blk_free (unhide HB6) 36
            have f37 : (w6.setCell ⟨X, 36, none⟩ (.int .i64 4)).frozen? ⟨X, 37, none⟩ = false := blk_free (blk_set (unhide HB6) 36 (.int .i64 4)) 37
            have e37 : ∃ o, (w6.setCell ⟨X, 36, none⟩ (.int .i64 4)).cell? ⟨X, 37, none⟩ = some o := ⟨_, by rw [blk_cell (blk_set (unhide HB6) 36 (.int .i64 4)), Array.getElem?_setIfInBounds_ne (by decide), List.getElem?_toArray]; exact live_37 x⟩
            obtain ⟨o37, e37⟩ := e37
            have hS7 := unhide HOTH _ (.bool false) 37 _ _ (unhide HOTH _ (.int .i64 4) 36 _ _ (unhide HS6) (unhide HR6)) (unhide HR6)
            have hb7 := blk_set (blk_set (unhide HB6) 36 (.int .i64 4)) 37 (.bool false)
            rw [live_cut, ← unhide HCL] at hb7
            have HRS : Hid (cutRems (xs.take (i + 1)) = rs ++ [x.h.id]) := hide (by rw [unhide HT4, if_pos ⟨h5, ho⟩])
            have HS7 := hide hS7
            have HB7 := hide hb7
            clear hS7 hb7
            go_upto_region 17 with fail
            have hS7 := unhide HS7
            have hb7 := unhide HB7
            generalize (w6.setCell ⟨X, 36, none⟩ (.int .i64 4)).setCell ⟨X, 37, none⟩ (.bool false) = w7 at hS7 hb7 ⊢
            clear HS7 HB7 f36 f37 e37
            have rXl := rowN_whole hb7 38 (by rw [List.size_toArray, live_len])
            have hxl := live_len (cutLive x)
            have nal : New w7 (w7.alloc (.cells (liveCells (cutLive x)).toArray 69)) := (Upd.refl _ _).alloc _
            have HSA := hide (hS7.new nal)
            have HSZ := hide (hS7.new nal).u.size
            clear hS7 hb7 nal HS6 HB6 d36
            go_wp2_with (at_builtin; refine wpList_append_own _ rfl (.tmp 69) (.tmp 71) 46 rfl w.heap.size 69 i9 _ 38 b9 Tryz.underlying46 hi9 hz9 hz0 hz1 hz2 (by decide) _ _ _ rfl (unhide HSA).ko ⟨w7.heap.size, 0, none⟩ 1 1 (liveCells (cutLive x)) rfl (by rw [hxl]) ?c1 (live_one (cutLive x)) ?c3 ?c4 ?c5 ?_)
            case c1 => exact World.news_of_block (cs := (liveCells (cutLive x)).toArray) (fr := (0, 0)) (blk_alloc _ _)
            case c3 => unfold maxLen; omega
            case c4 => have := Nat.mul_le_mul (show ks.length + 1 ≤ 1000000 by omega) hb9; omega
            case c5 => exact unhide HSZ
            intro v8 w8 hown8 hgrow8 _
            obtain ⟨a8, cap8, hv8⟩ := own_shape' hown8
            subst hv8
            have u8 : Upd (fun k => (Value.slice ka ks.length kcap).ownBlock = some k) (w7.alloc (.cells (liveCells (cutLive x)).toArray 69)) w8 := (Upd.refl _ _).grown hgrow8 (fun k hk _ => hk)
            have h9 := (unhide HSA).putL (ks' := ks ++ [cutLive x]) u8 (by rw [List.length_append, List.flatMap_append, List.flatMap_cons, List.flatMap_nil, List.append_nil]; exact hown8)
            have HS9 := hide h9
            clear hown8 hgrow8 u8 h9 rXl HSA HSZ
            go_wp2_with fail
            go_roundw
            case rel =>
              refine ⟨i + 1, .slice oa os.length ocap, .slice a5 (rs.length + 1) cap5, by go_num, by omega, ?_⟩
              rw [unhide HT2, unhide HT1, unhide HT3, if_neg h0, if_neg (fun h => h0 h.1), List.append_nil, unhide HCS, unhide HRS]
              exact unhide HS9
            case measure => simp [intOf]; omega
        · have h5' : (x.state == 5) = false := by simpa using h5
          have HCL : Hid (cutLive x = x) := hide (by unfold cutLive; rw [if_neg h5])
          have HRS : Hid (cutRems (xs.take (i + 1)) = rs) := hide (by rw [unhide HT4, if_neg (fun h => h5 h.1), List.append_nil])
          go_upto_region 17 with fail
          have hS7 := unhide HSb
          have hb7 := unhide HB
          rw [← unhide HCL] at hb7
          obtain ⟨w7, rfl⟩ : ∃ w7 : World, w7 = wb := ⟨_, rfl⟩
          have rXl := rowN_whole hb7 38 (by rw [List.size_toArray, live_len])
          have hxl := live_len (cutLive x)
          have nal : New w7 (w7.alloc (.cells (liveCells (cutLive x)).toArray 69)) := (Upd.refl _ _).alloc _
          have HSA := hide (hS7.new nal)
          have HSZ := hide (hS7.new nal).u.size
          clear hS7 hb7 nal d36 d35 HSb HB
          go_wp2_with (at_builtin; refine wpList_append_own _ rfl (.tmp 69) (.tmp 71) 46 rfl w.heap.size 69 i9 _ 38 b9 Tryz.underlying46 hi9 hz9 hz0 hz1 hz2 (by decide) _ _ _ rfl (unhide HSA).ko ⟨w7.heap.size, 0, none⟩ 1 1 (liveCells (cutLive x)) rfl (by rw [hxl]) ?c1 (live_one (cutLive x)) ?c3 ?c4 ?c5 ?_)
          case c1 => exact World.news_of_block (cs := (liveCells (cutLive x)).toArray) (fr := (0, 0)) (blk_alloc _ _)
          case c3 => unfold maxLen; omega
          case c4 => have := Nat.mul_le_mul (show ks.length + 1 ≤ 1000000 by omega) hb9; omega
          case c5 => exact unhide HSZ
          intro v8 w8 hown8 hgrow8 _
          obtain ⟨a8, cap8, hv8⟩ := own_shape' hown8
          subst hv8
          have u8 : Upd (fun k => (Value.slice ka ks.length kcap).ownBlock = some k) (w7.alloc (.cells (liveCells (cutLive x)).toArray 69)) w8 := (Upd.refl _ _).grown hgrow8 (fun k hk _ => hk)
          have h9 := (unhide HSA).putL (ks' := ks ++ [cutLive x]) u8 (by rw [List.length_append, List.flatMap_append, List.flatMap_cons, List.flatMap_nil, List.append_nil]; exact hown8)
          have HS9 := hide h9
          clear hown8 hgrow8 u8 h9 rXl HSA HSZ
          go_wp2_with fail
          go_roundw
          case rel =>
            refine ⟨i + 1, .slice oa os.length ocap, .slice ra rs.length rcap, by go_num, by omega, ?_⟩
            rw [unhide HT2, unhide HT1, unhide HT3, if_neg h0, if_neg (fun h => h0 h.1), List.append_nil, unhide HCS, unhide HRS]
            exact unhide HS9
          case measure => simp [intOf]; omega
    · obtain rfl : i = xs.length := by omega
      rw [List.take_length] at *
      have hP := hS.ch
      have c47 : wq.cell? ⟨g, 47, none⟩ = some lv := hP.toR.live
      have f47 : wq.frozen? ⟨g, 47, none⟩ = false := blk_free hP.at_ 47
      have hkl : (cutL xs).length ≤ 1000000 := Nat.le_trans (cutL_len xs) (by omega)
      have hfin := hP.newLive w hS.u (Upd.refl _ _) _ (cutL xs) (fun y hy => by
        obtain ⟨x, hx, rfl⟩ := List.mem_map.1 hy
        exact cutLive_ok (unhide HXO x (List.mem_filter.1 hx).1)) hkl hS.ko
      have f626 := blk_free hfin.at_ 626
      have c626 : (wq.setCell ⟨g, 47, none⟩ (.slice ka (cutL xs).length kcap)).cell? ⟨g, 626, none⟩ = some nv := by rw [blk_cell hfin.at_ 626]; exact get_news _ _ _ _ hfin.ok.s.seed hfin.ok.shelf
      have hfin2 := hfin.noNews
      have f43 := blk_free hfin2.at_ 43
      have c43 : ((wq.setCell ⟨g, 47, none⟩ (.slice ka (cutL xs).length kcap)).setCell ⟨g, 626, none⟩ nilV).cell? ⟨g, 43, none⟩ = some (.bool (xs.foldl cutStep c).k.shutHeard) := hfin2.toR.shutHeard
      have hfin3 := hfin2.putShutHeard false
      have hgK : ¬ K = g := by have := hS.glt; have := hS.kge; omega
      have hgR : ¬ R = g := by have := hS.glt; have := hS.rge; omega
      have uF : Upd (· = g) wq (((wq.setCell ⟨g, 47, none⟩ (.slice ka (cutL xs).length kcap)).setCell ⟨g, 626, none⟩ nilV).setCell ⟨g, 43, none⟩ (.bool false)) := ((upd_g _ _ _ _).trans (upd_g _ _ _ _)).trans (upd_g _ _ _ _)
      have hk2 := uF.old hS.k hgK
      have hr2 := uF.old hS.r hgR
      have HF := hide hfin3
      have HU := hide (hS.u.trans uF)
      have HKR := hide (And.intro hk2 hr2)
      have HKG := hide (own_ge hS.ko)
      have HRG := hide hS.rge
      have cK0 : (((wq.setCell ⟨g, 47, none⟩ (.slice ka (cutL xs).length kcap)).setCell ⟨g, 626, none⟩ nilV).setCell ⟨g, 43, none⟩ (.bool false)).cell? ⟨K, 0, none⟩ = some (.slice oa (cutOffs xs).length ocap) := by rw [blk_cell hk2]; rfl
      have cK1 : (((wq.setCell ⟨g, 47, none⟩ (.slice ka (cutL xs).length kcap)).setCell ⟨g, 626, none⟩ nilV).setCell ⟨g, 43, none⟩ (.bool false)).cell? ⟨K, 1, none⟩ = some (.slice ra (cutRems xs).length rcap) := by rw [blk_cell hk2]; rfl
      have rK := rowN_whole hk2 2 rfl
      have fR0 := blk_free hr2 0
      have fR1 := blk_free hr2 1
      unfold nilV at f626 f43 c43 cK0 cK1 rK fR0 fR1 HF HU HKR
      clear hcell hS hP hfin hfin2 hfin3 uF hk2 hr2
      go_upto_region 20 with fail
      generalize ((wq.setCell ⟨g, 47, none⟩ (.slice ka (cutL xs).length kcap)).setCell ⟨g, 626, none⟩ (.slice none 0 0)).setCell ⟨g, 43, none⟩ (.bool false) = w9 at *
      obtain ⟨hk9, hr9⟩ := unhide HKR
      have cR0 : w9.cell? ⟨R, 0, none⟩ = some (.slice none 0 0) := by rw [blk_cell hr9]; rfl
      have cR1 : w9.cell? ⟨R, 1, none⟩ = some (.slice none 0 0) := by rw [blk_cell hr9]; rfl
      have fR1' : (w9.setCell ⟨R, 0, none⟩ (.slice oa (cutOffs xs).length ocap)).frozen? ⟨R, 1, none⟩ = false := blk_free (blk_set hr9 0 _) 1
      have cR1' : (w9.setCell ⟨R, 0, none⟩ (.slice oa (cutOffs xs).length ocap)).cell? ⟨R, 1, none⟩ = some (.slice none 0 0) := by rw [blk_cell (blk_set hr9 0 _)]; rfl
      have hrf := blk_set (blk_set hr9 0 (.slice oa (cutOffs xs).length ocap)) 1 (.slice ra (cutRems xs).length rcap)
      have hF := unhide HF
      have h0 := unhide H0
      have hkv : ∀ k, (Value.slice ka (cutL xs).length kcap).ownBlock = some k → k < w9.heap.size ∧ k ≠ R ∧ w.heap.size ≤ k := fun k hk => by
        obtain ⟨c1, hc1⟩ := own_blk' hF.live k hk
        exact ⟨blk_lt hc1, apart_ty' hc1 hr9 (by decide), unhide HKG k hk⟩
      have h2 : ChP w9 g (fun k => S k ∨ (Value.slice ka (cutL xs).length kcap).ownBlock = some k) _ _ _ av := ⟨hF.at_, hF.ok, hF.live, hF.news, hF.last, .inl h0.inG, fun k e => .inr e, (fun k e => by cases e), fun k e => .inl (h0.inA k e), (fun k e => by cases e), fun k hk => hk.elim (fun e => Nat.lt_of_lt_of_le (h0.lt k e) (unhide HU).size) (fun e => (hkv k e).1)⟩
      have uR : Upd (· = R) w9 ((w9.setCell ⟨R, 0, none⟩ (.slice oa (cutOffs xs).length ocap)).setCell ⟨R, 1, none⟩ (.slice ra (cutRems xs).length rcap)) := ((Upd.refl _ _).set1 0 _).trans ((Upd.refl _ _).set1 1 _)
      have h3 := h2.upd uR (fun k hk e => hk.elim (fun e2 => by have := h0.lt k e2; have := unhide HRG; omega) (fun e2 => (hkv k e2).2.1 e))
      have hz := uR.size
      have h4 := h3.wider (T := Fr S w ((w9.setCell ⟨R, 0, none⟩ (.slice oa (cutOffs xs).length ocap)).setCell ⟨R, 1, none⟩ (.slice ra (cutRems xs).length rcap))) (fun k hk => hk.elim .inl (fun e => .inr ⟨(hkv k e).2.2, by have := (hkv k e).1; omega⟩)) (fun k hk => hk.elim (fun e => by have := h0.lt k e; have := (unhide HU).size; omega) (fun e => e.2))
      have hu := (unhide HU).then uR (fun i hi e => by have := unhide HRG; omega)
      have H4 := hide h4
      have HU4 := hide hu
      have HRF := hide hrf
      clear hk9 hr9 hrf hF h0 hkv h2 uR h3 hz h4 hu
      go_wp2_with fail
      refine bodyPost_ret (results_cell_row rfl _ _ R _ _ _ _ rfl (unhide HRF) Tryz.underlying141 rfl (by kernel_rfl)) rfl ?_
      rw [unhide HCE]
      exact ⟨⟨_, _, rfl⟩, ⟨_, _, _, unhide H4⟩, (unhide HU4).mono (fun k _ e => by rw [e]; exact (unhide H0).inG)⟩

end Go.Proofs.YtfmkdoachjgjbaaGreatDoor
