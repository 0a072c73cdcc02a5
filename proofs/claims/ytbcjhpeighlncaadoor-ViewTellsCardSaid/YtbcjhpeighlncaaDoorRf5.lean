/-
  The reference's Total, SameLive, After, Changes.
-/
import Derived.Test.YtbcjhpeighlncaaDoorLwM
namespace Go.Proofs.YtbcjhpeighlncaaDoor
open Go.RowKit Go.Sort

attribute [local go_sem ↓ high] ld_live_foldR st_live_foldR bs_live_foldR
attribute [local go_sem] ld_liveR st_liveR bs_liveR bs_live0R rowN_drew

theorem ItemsR.cell2 {w : World} {a : Option Addr} {n c : Nat} {X : List Item} (h : ItemsR w (.slice a n c) X) {i : Nat} {x : Item} (hi : X[i]? = some x) :
    ∃ b off, a = some ⟨b, off, none⟩ ∧ n = X.length ∧ w.cell? ⟨b, off + i * 36 + 2, none⟩ = some (.int .u64 x.h.amount) := by
  rcases h with ⟨_, _, e, rfl⟩ | ⟨b, off, cap, e, hh⟩
  · simp at hi
  · cases e
    obtain ⟨C, T, fz, hb, hs, hc⟩ := hh
    exact ⟨b, off, rfl, rfl, by rw [blk_cell hb, hc i x hi 2 (by decide), item_2]⟩

set_option maxRecDepth 100000 in
set_option maxHeartbeats 4000000 in
theorem reftotal_any (o t : Int) (u : Value) (X : List Item) (hl : X.length ≤ 1048576) (w : World) (hu : ItemsR w u X) :
    Calls Tryd.prog 19 #[.agg #[.int .u64 o, .int .u64 t, u]] w (Makes (.int .u64 (totalI o t X)) w) := by
  obtain ⟨ua, uc, rfl⟩ := hu.slice
  have n0 : New w (w.alloc (.cells #[.int .u64 o, .int .u64 t, .slice ua X.length uc] 36)) := (Upd.refl _ _).alloc _
  have b0 : (w.alloc (.cells #[.int .u64 o, .int .u64 t, .slice ua X.length uc] 36)).heap[w.heap.size]? = some (.cells #[.int .u64 o, .int .u64 t, .slice ua X.length uc] 36 (0, 0)) := blk_alloc _ _
  go_enter Tryd.func19, Tryd.ntmps19
  go_upto_region 1 with fail
  generalize w.alloc (.cells #[.int .u64 o, .int .u64 t, .slice ua X.length uc] 36) = wa at n0 b0 ⊢
  have c0 := blk_cell b0 0
  have c1 := blk_cell b0 1
  have c2 := blk_cell b0 2
  simp at c0 c1 c2
  have HU := hide (hu.new n0)
  clear hu
  obtain ⟨wo, rfl⟩ : ∃ wo : World, wo = wa := ⟨_, rfl⟩
  go_wp2_with fail
  go_loopw [3, 4] (fun sv iv wr => ∃ n : Nat, iv = .int .i64 (n : Int) ∧ n ≤ X.length ∧ sv = .int .u64 (totalI o t (X.take n)) ∧ wr = wo) (fun _ iv _ => X.length - (intOf iv).toNat)
  case atStart => exact ⟨0, rfl, Nat.zero_le _, by simp [totalI]⟩
  case round =>
    obtain ⟨n, rfl, hn, rfl, rfl⟩ := hrel
    by_cases hlt : n < X.length
    · obtain ⟨x, hx⟩ : ∃ x, X[n]? = some x := ⟨_, List.getElem?_eq_getElem hlt⟩
      obtain ⟨g, off, rfl, -, hc⟩ := (unhide HU).cell2 hx
      have hnn : (n : Int) < (X.length : Int) := by omega
      have hs : totalI o t (X.take (n + 1)) = IntKind.u64.wrap (totalI o t (X.take n) + x.h.amount) := by
        rw [List.take_add_one, hx]; simp [totalI]
      have HS := hide hs
      clear hs hx
      go_wp2
      go_roundw
      case rel => exact ⟨n + 1, by go_num, by omega, by rw [unhide HS], trivial⟩
      case measure => simp [intOf]; omega
    · obtain rfl : n = X.length := by omega
      go_wp2
      first | go_ret2 | go_ret
      exact ⟨by simp, n0⟩

theorem Lives.row {w : World} {a : Option Addr} {n c : Nat} {X : List Live} (h : Lives w (.slice a n c) X) {i : Nat} {x : Live} (hi : X[i]? = some x) :
    ∃ b off, a = some ⟨b, off, none⟩ ∧ n = X.length ∧ rowN w b (off + i * 38) 38 = some (liveCells x).toArray := by
  rcases h with ⟨_, _, e, rfl⟩ | ⟨b, off, cap, e, hh⟩
  · simp at hi
  · cases e
    exact ⟨b, off, rfl, rfl, hh.row hi⟩
theorem Lives.cell36 {w : World} {a : Option Addr} {n c : Nat} {X : List Live} (h : Lives w (.slice a n c) X) {i : Nat} {x : Live} (hi : X[i]? = some x) :
    ∃ b off, a = some ⟨b, off, none⟩ ∧ n = X.length ∧ w.cell? ⟨b, off + i * 38 + 36, none⟩ = some (.int .i64 x.state) := by
  rcases h with ⟨_, _, e, rfl⟩ | ⟨b, off, cap, e, hh⟩
  · simp at hi
  · cases e
    obtain ⟨C, T, fz, hb, hs, hc⟩ := hh
    exact ⟨b, off, rfl, rfl, by rw [blk_cell hb, hc i x hi 36 (by decide), live_36]⟩

theorem Tryd.flatLiveR : flatF Tryd.prog 5 76 = some liveLeaves := by kernel_rfl
theorem Tryd.eqLiveR : eqB Tryd.prog 5 76 = true := by kernel_rfl
theorem Tryd.aggLiveR : aggB Tryd.prog 76 = true := by kernel_rfl
def neLiveR (x y : Value) : Sem Value := binOp .neq 76 x y
theorem ne_live_foldR (x y : Value) : binOp .neq 76 x y = neLiveR x y := rfl
theorem ne_liveR {x y : Live} (hx : LiveOk x) (hy : LiveOk y) (r : Bool) (hr : r = true ↔ liveCells x = liveCells y) (w : World) : (neLiveR (.agg (liveCells x).toArray) (.agg (liveCells y).toArray)).run Tryd.prog w = .ok (.bool (!r)) w :=
  run_neq_flat 5 (by decide) Tryd.eqLiveR Tryd.flatLiveR Tryd.aggLiveR (fits_live hx) (fits_live hy) r hr w
attribute [local go_sem ↓ high] ne_live_foldR

set_option maxRecDepth 100000 in
set_option maxHeartbeats 4000000 in
theorem samelive_true (u1 u2 : Value) (X : List Live) (hl : X.length ≤ 1048576) (hok : ∀ x ∈ X, LiveOk x) (w : World) (h1 : Lives w u1 X) (h2 : Lives w u2 X) :
    Calls Tryd.prog 20 #[u1, u2] w (Makes (.bool true) w) := by
  obtain ⟨a1, c1, rfl⟩ := h1.slice
  obtain ⟨a2, c2, rfl⟩ := h2.slice
  have H1 := hide h1
  have H2 := hide h2
  clear h1 h2
  go_enter Tryd.func20, Tryd.ntmps20
  go_wp2_with fail
  go_loopw [5] (fun iv wr => ∃ (n : Nat), iv = .int .i64 (n : Int) ∧ n ≤ X.length ∧ Q w wr) (fun iv _ => X.length - (intOf iv).toNat)
  case atStart => exact ⟨0, rfl, Nat.zero_le _, Q.refl _⟩
  case round =>
    obtain ⟨n, rfl, hn, qr⟩ := hrel
    by_cases hlt : n < X.length
    · obtain ⟨x, hx⟩ : ∃ x, X[n]? = some x := ⟨_, List.getElem?_eq_getElem hlt⟩
      obtain ⟨g1, f1, rfl, -, r1⟩ := ((unhide H1).new (qr.upd _)).row hx
      obtain ⟨g2, f2, rfl, -, r2⟩ := ((unhide H2).new (qr.upd _)).row hx
      have hnn : (n : Int) < (X.length : Int) := by omega
      have hx2 := hok x (List.mem_of_getElem? hx)
      have hne := ne_liveR hx2 hx2 true (by simp)
      simp only [Bool.not_true] at hne
      clear hx hx2
      generalize liveCells x = C at r1 r2 hne
      go_wp2_with fail
      go_region_held3 (fun w' => rowN w' g1 (f1 + n * 38) 38 = some C.toArray ∧ rowN w' g2 (f2 + n * 38) 38 = some C.toArray)
        (exact ⟨r1, r2⟩) (fail)
      go_wp2
      go_roundw
      case rel => exact ⟨n + 1, by go_num, by omega, by first | exact qr.drewN' 1 | exact qr.trans ⟨1, rfl⟩⟩
      case measure => simp [intOf]; omega
    · obtain rfl : n = X.length := by omega
      go_wp2
      first | go_ret2 | go_ret
      exact ⟨rfl, qr.upd _⟩

theorem aft_cells (ev : Int) (x : Live) : liveCells (aft ev x) = (liveCells x).set 36 (.int .i64 (nextSt x.state x.own ev)) := live_set x _

set_option maxRecDepth 100000 in
set_option maxHeartbeats 4000000 in
theorem refafter_any (v : Value) (xs : List Live) (ev : Int) (hl : xs.length ≤ 1048576) (w : World) (hv : Lives w v xs) :
    Calls Tryd.prog 21 #[v, .int .i64 ev] w fun e w' => ∃ u, e = .returned u ∧ New w w' ∧ Lives w' u (afterL ev xs) := by
  obtain ⟨va, vc, rfl⟩ := hv.slice
  obtain ⟨i9, z9, hi, hz, hz0, hz1, hz2⟩ := live_infoR
  go_enter Tryd.func21, Tryd.ntmps21
  go_wp2_with fail
  have nA : New w (w.alloc (.cells #[] 76)) := (Upd.refl _ _).alloc _
  have hO := World.ownsRow_made (base := w.heap.size) (e := 76) (size := 38) w #[] 0 (Nat.le_refl _) (by decide) rfl
  have HV := hide hv
  generalize w.alloc (.cells #[] 76) = wa at nA hO ⊢
  have HO := hide hO
  clear hO hv
  obtain ⟨wo, rfl⟩ : ∃ wo : World, wo = wa := ⟨_, rfl⟩
  go_wp2_with fail
  go_loopw [5, 6, 7] (fun sv iv _ wr => ∃ (n : Nat) (a : Option Addr) (c : Nat), iv = .int .i64 (n : Int) ∧ n ≤ xs.length ∧ sv = .slice a n c ∧ Hid (wr.ownsRow w.heap.size 76 38 sv n ((afterL ev (xs.take n)).flatMap liveCells)) ∧ New w wr) (fun _ iv _ _ => xs.length - (intOf iv).toNat)
  case atStart => exact ⟨0, _, _, rfl, Nat.zero_le _, rfl, HO, nA⟩
  case round =>
    obtain ⟨n, a, c, rfl, hn, rfl, HO, nr⟩ := hrel
    by_cases hlt : n < xs.length
    · obtain ⟨x, hx⟩ : ∃ x, xs[n]? = some x := ⟨_, List.getElem?_eq_getElem hlt⟩
      rcases (unhide HV).new nr with ⟨_, _, e, e2⟩ | ⟨g, off, cap, e, hh⟩
      · rw [e2] at hlt; simp at hlt
      · cases e
        have hrow := hh.row hx
        have hnn : (n : Int) < (xs.length : Int) := by omega
        have hst : stOk (wr.alloc (.cells #[.int .u64 0, .int .u64 0, .int .u8 0, .int .u8 0, .int .u8 0, .int .u8 0, .int .u8 0, .int .u8 0, .int .u8 0, .int .u8 0, .int .u8 0, .int .u8 0, .int .u8 0, .int .u8 0, .int .u8 0, .int .u8 0, .int .u8 0, .int .u8 0, .int .u8 0, .int .u8 0, .int .u8 0, .int .u8 0, .int .u8 0, .int .u8 0, .int .u8 0, .int .u8 0, .int .u8 0, .int .u8 0, .int .u8 0, .int .u8 0, .int .u8 0, .int .u8 0, .int .u8 0, .int .u8 0, .int .i64 0, .bool false, .int .i64 0, .bool false] 76)) wr.heap.size 0 38 (liveCells x).toArray = true := stOk_blk (blk_alloc _ _) (by decide) (by rw [List.size_toArray, live_len]) (by rw [List.all_toArray, List.all_eq_true]; exact live_one x)
        have hlaid := laid_new wr #[.int .u64 0, .int .u64 0, .int .u8 0, .int .u8 0, .int .u8 0, .int .u8 0, .int .u8 0, .int .u8 0, .int .u8 0, .int .u8 0, .int .u8 0, .int .u8 0, .int .u8 0, .int .u8 0, .int .u8 0, .int .u8 0, .int .u8 0, .int .u8 0, .int .u8 0, .int .u8 0, .int .u8 0, .int .u8 0, .int .u8 0, .int .u8 0, .int .u8 0, .int .u8 0, .int .u8 0, .int .u8 0, .int .u8 0, .int .u8 0, .int .u8 0, .int .u8 0, .int .u8 0, .int .u8 0, .int .i64 0, .bool false, .int .i64 0, .bool false] 76 (liveCells x) (by rw [live_len]; rfl)
        have v35 := live_35 x
        have v36 := live_36 x
        have hfl := aft_cells ev x
        have hlen1 := live_len x
        have hlen2 := live_len (aft ev x)
        have h1 := live_one (aft ev x)
        have ht : afterL ev (xs.take (n + 1)) = afterL ev (xs.take n) ++ [aft ev x] := by rw [List.take_add_one, hx]; simp [afterL]
        have HT := hide ht
        clear hx hh ht
        generalize liveCells x = C at hrow hst hlaid v35 v36 hfl hlen1
        generalize hD : liveCells (aft ev x) = D at hfl hlen2 h1
        have HD := hide hD
        have HFL := hide hfl
        clear hD hfl
        go_upto_region 6 with fail
        obtain ⟨hbx, nC⟩ := hlaid
        generalize (wr.alloc (.cells #[.int .u64 0, .int .u64 0, .int .u8 0, .int .u8 0, .int .u8 0, .int .u8 0, .int .u8 0, .int .u8 0, .int .u8 0, .int .u8 0, .int .u8 0, .int .u8 0, .int .u8 0, .int .u8 0, .int .u8 0, .int .u8 0, .int .u8 0, .int .u8 0, .int .u8 0, .int .u8 0, .int .u8 0, .int .u8 0, .int .u8 0, .int .u8 0, .int .u8 0, .int .u8 0, .int .u8 0, .int .u8 0, .int .u8 0, .int .u8 0, .int .u8 0, .int .u8 0, .int .u8 0, .int .u8 0, .int .i64 0, .bool false, .int .i64 0, .bool false] 76)).setCells wr.heap.size 0 C = wC at hbx nC ⊢
        have s35 : wC.cell? ⟨wr.heap.size, 35, none⟩ = some (.bool x.own) := by rw [blk_cell hbx, List.getElem?_toArray]; exact v35
        have s36 : wC.cell? ⟨wr.heap.size, 36, none⟩ = some (.int .i64 x.state) := by rw [blk_cell hbx, List.getElem?_toArray]; exact v36
        clear hst hrow
        go_wp2_with fail
        refine (refnext_any x.state ev x.own wC).mono ?_
        rintro e w2 ⟨rfl, q2⟩
        have hb2 := q2.old hbx
        have t36 := q2.cell s36
        have z36 : w2.frozen? ⟨wr.heap.size, 36, none⟩ = false := blk_free hb2 36
        have hb3 := blk_set hb2 36 (.int .i64 (nextSt x.state x.own ev))
        have nD0 : New wr w2 := nC.trans (q2.upd _)
        generalize nextSt x.state x.own ev = s2 at HFL hb3 ⊢
        clear s35 s36 hbx hb2 nC q2
        go_upto_region 7 with fail
        have nD : New wr (w2.setCell ⟨wr.heap.size, 36, none⟩ (.int .i64 s2)) := nD0.setCell (fun h => by simp at h) _
        generalize w2.setCell ⟨wr.heap.size, 36, none⟩ (.int .i64 s2) = wD at hb3 nD ⊢
        have e1 : C.toArray.setIfInBounds 36 (.int .i64 s2) = D.toArray := by rw [unhide HFL]; simp
        rw [e1] at hb3
        have hr2 := rowN_whole hb3 38 (by simpa using hlen2)
        have hsz := nD.size
        have hsz2 := nr.size
        have nD2 := nr.trans nD
        have HOD := hide (owns_new (unhide HO) nD)
        clear e1 t36 z36 hb3 nD0 HFL
        go_wp2_with (at_builtin; refine wpList_append_own _ rfl (.tmp 26) (.tmp 28) 53 rfl w.heap.size 76 i9 _ 38 80 Tryd.underlying53 hi hz hz0 hz1 hz2 (by decide) _ _ _ rfl ((unhide HOD).alloc _) ⟨wD.heap.size, 0, none⟩ 1 1 D rfl (by omega) ?c1 h1 ?c3 ?c4 ?c5 ?_)
        case c1 =>
          intro j u hj
          have hadd : (⟨wD.heap.size, 0, none⟩ : Addr).add j = ⟨wD.heap.size, j, none⟩ := by unfold Addr.add; split <;> simp_all
          rw [hadd, blk_cell (blk_alloc _ _)]
          simpa using hj
        case c3 => unfold maxLen; omega
        case c4 => omega
        case c5 => simp; omega
        intro v' w5 hown5 hgrow5 _
        have n5 : New w w5 := (nD2.alloc _).grown hgrow5 (fun k h hk => by have := own_ge (unhide HOD) k h; omega)
        obtain ⟨va', vk', vc', rfl⟩ := own_shape hown5
        have hvk : vk' = n + 1 := own_n hown5
        subst hvk
        have HO5 := hide hown5
        clear hown5 hgrow5 hr2
        go_wp2
        go_roundw
        case rel =>
          refine ⟨n + 1, va', vc', by go_num, by omega, rfl, hide ?_, n5⟩
          rw [unhide HT, List.flatMap_append]
          have := unhide HO5
          rw [← unhide HD] at this
          simpa using this
        case measure => simp [intOf]; omega
    · obtain rfl : n = xs.length := by omega
      rw [List.take_length] at HO
      have hf := (heldL_of_ownsR (unhide HO)).2
      have HF := hide hf
      have hla : (afterL ev xs).length = xs.length := by simp [afterL]
      have HLA := hide hla
      clear hf hla
      go_wp2
      first | go_ret2 | go_ret
      refine ⟨_, rfl, nr, ?_⟩
      rcases unhide HF with ⟨e, e2⟩ | ⟨g, cap, e, _, hh⟩
      · refine .inl ⟨a, c, ?_, e2⟩
        rw [show xs.length = 0 by have := congrArg List.length e2; rw [unhide HLA] at this; simpa using this]
        rfl
      · refine .inr ⟨g, 0, cap, ?_, hh.toL⟩
        exact e

set_option maxRecDepth 100000 in
set_option maxHeartbeats 4000000 in
theorem refchanges_any (v : Value) (xs : List Live) (ev : Int) (hl : xs.length ≤ 1048576) (w : World) (hv : Lives w v xs) :
    Calls Tryd.prog 23 #[v, .int .i64 ev] w (Makes (.bool (changesB ev xs)) w) := by
  obtain ⟨va, vc, rfl⟩ := hv.slice
  have hal : (afterL ev xs).length = xs.length := by simp [afterL]
  have HAL := hide hal
  clear hal
  go_enter Tryd.func23, Tryd.ntmps23
  go_wp2_with fail
  refine (refafter_any _ xs ev hl w hv).mono ?_
  rintro e w1 ⟨u, rfl, n1, hm⟩
  obtain ⟨ma, mc, rfl⟩ := hm.slice
  rw [unhide HAL] at hm ⊢
  have HM := hide hm
  have HV := hide (hv.new n1)
  clear hm hv
  obtain ⟨wo, rfl⟩ : ∃ wo : World, wo = w1 := ⟨_, rfl⟩
  go_wp2_with fail
  go_loopw [6] (fun iv wr => ∃ n : Nat, iv = .int .i64 (n : Int) ∧ n ≤ xs.length ∧ Hid (changesB ev (xs.take n) = false) ∧ Q wo wr) (fun iv _ => xs.length - (intOf iv).toNat)
  case atStart => exact ⟨0, rfl, Nat.zero_le _, hide rfl, Q.refl _⟩
  case round =>
    obtain ⟨n, rfl, hn, HC, qr⟩ := hrel
    by_cases hlt : n < xs.length
    · obtain ⟨x, hx⟩ : ∃ x, xs[n]? = some x := ⟨_, List.getElem?_eq_getElem hlt⟩
      have hx2 : (afterL ev xs)[n]? = some (aft ev x) := by unfold afterL; rw [List.getElem?_map, hx]; rfl
      obtain ⟨g1, f1, rfl, -, r1⟩ := ((unhide HM).new (qr.upd _)).cell36 hx2
      obtain ⟨g2, f2, rfl, -, r2⟩ := ((unhide HV).new (qr.upd _)).cell36 hx
      have hnn : (n : Int) < (xs.length : Int) := by omega
      have hs : changesB ev (xs.take (n + 1)) = chg ev x := by
        have := unhide HC
        unfold changesB at this ⊢
        rw [List.take_add_one, hx, List.any_append, this]; simp
      have HS := hide hs
      clear hs hx hx2
      cases hc : chg ev x with
      | true =>
        have hd : ((aft ev x).state != x.state) = true := hc
        have hf : changesB ev xs = true := by
          have h1 : changesB ev (xs.take (n + 1)) = true := by rw [unhide HS, hc]
          unfold changesB at h1 ⊢
          rw [List.any_eq_true] at h1 ⊢
          obtain ⟨y, hy, hy2⟩ := h1
          exact ⟨y, List.mem_of_mem_take hy, hy2⟩
        generalize (aft ev x).state = y at r1 hd
        go_wp2_with fail
        go_quiet (fail)
        go_wp2
        first | go_ret2 | go_ret
        exact ⟨by rw [hf]; rfl, (n1.trans (qr.upd _)).drewN _⟩
      | false =>
        have hd : ((aft ev x).state != x.state) = false := hc
        have hf : changesB ev (xs.take (n + 1)) = false := by rw [unhide HS, hc]
        have HF := hide hf
        clear hf
        generalize (aft ev x).state = y at r1 hd
        go_wp2_with fail
        go_quiet (fail)
        go_wp2
        go_roundw
        case rel => exact ⟨n + 1, by go_num, by omega, HF, qr.drewN' _⟩
        case measure => simp [intOf]; omega
    · obtain rfl : n = xs.length := by omega
      have hf : changesB ev xs = false := by have := unhide HC; rwa [List.take_length] at this
      go_wp2
      first | go_ret2 | go_ret
      exact ⟨by rw [hf]; rfl, n1.trans (qr.upd _)⟩

end Go.Proofs.YtbcjhpeighlncaaDoor
