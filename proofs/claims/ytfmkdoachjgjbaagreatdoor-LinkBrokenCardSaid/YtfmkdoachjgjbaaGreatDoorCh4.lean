/-
  Offer.
-/
import Derived.Test.YtfmkdoachjgjbaaGreatDoorMba
set_option linter.unusedVariables false
set_option linter.unusedSimpArgs false
namespace Go.Proofs.YtfmkdoachjgjbaaGreatDoor
open Go.RowKit

attribute [local go_sem ↓ high] ld_msg_fold st_msg_fold al_msg_fold bd_msg_fold ld_hsh_fold ld_htl_fold st_htl_fold al_htl_fold bd_htl_fold bd_liv_fold bs_liv_fold
attribute [local go_sem] ld_msg st_msg al_msg bd_msg_zero rowN_drew ld_hsh ld_htl st_htl al_htl bd_htl bd_liv3 bs_liv bd_msg_add

def offerErr (c : Ch) (n ex : Int) : Int :=
  if c.k.shutSaid = true then 135 else if n = 0 then 1 else if ex < 1 ∨ 1073741824 < ex then 131 else if 8 ≤ manyL true c.xs then 130 else if c.loc < n then 61 else 0
def offerLive (c : Ch) (n : Int) (h : Vector Int 32) (ex : Int) : Live := ⟨⟨c.k.nextOwn, n, h, ex⟩, true, 0, false⟩
def Ch.offered (c : Ch) (n : Int) (h : Vector Int 32) (ex : Int) : Ch :=
  { c with loc := c.loc - n, k := { c.k with nextOwn := IntKind.u64.wrap (c.k.nextOwn + 1) }, xs := c.xs ++ [offerLive c n h ex] }
def offerMsg (c : Ch) (n : Int) (h : Vector Int 32) (ex : Int) : MsgV := ⟨3, 0, c.k.nextOwn, n, h.toList, ex, 0⟩
/-- What Offer does: the end, what it says, its error. -/
def Ch.offer (c : Ch) (n : Int) (h : Vector Int 32) (ex : Int) : Ch × MsgV × Int :=
  if offerErr c n ex = 0 then ((c.offered n h ex).say (offerMsg c n h ex), (offerMsg c n h ex).on c.s.ch, 0) else (c, MsgV.zero, offerErr c n ex)

theorem live_info' : ∃ i z b, Tryz.prog.info? 69 = some i ∧ i.zero = some z ∧ i.size = 38 ∧ i.bytes = b ∧ z.cells.size = 38 ∧ b ≤ 1000 := by
  obtain ⟨i, z, hi, hz, hc⟩ := zero_of Tryz.zeroLive'
  have hb : (Tryz.prog.info? 69).map (fun i => decide (i.bytes ≤ 1000)) = some true := by kernel_rfl
  have hs := Tryz.infoLive
  rw [hi, Option.map_some, Option.some.injEq] at hb hs
  exact ⟨i, z, i.bytes, hi, hz, hs, rfl, by rw [hc]; rfl, of_decide_eq_true hb⟩

/-- A live one put behind the others. -/
theorem ChP.appLive {wC wD : World} {g : Nat} {S : Nat → Prop} {c : Ch} {lv nv av : Value} (h : ChP wC g S c lv nv av) (x : Live) (hx : LiveOk x) (hfew : c.xs.length < 1000000) (v' : Value) (hown' : wD.ownsRow 0 69 38 v' (c.xs.length + 1) (c.xs.flatMap liveCells ++ liveCells x)) (hgr : wC.grownBy wD lv.ownBlock) (hblk : v'.ownBlock = lv.ownBlock ∨ v'.ownBlock = some wC.heap.size) :
    ChP (wD.setCell ⟨g, 47, none⟩ v') g (Fr S wC (wD.setCell ⟨g, 47, none⟩ v')) { c with xs := c.xs ++ [x] } v' nv av ∧ Upd S wC (wD.setCell ⟨g, 47, none⟩ v') := by
  have uD : Upd (fun k => lv.ownBlock = some k) wC wD := (Upd.refl _ _).grown hgr (fun k hk _ => hk)
  have tyg : ∀ {T : TypeId} {v : Value} {n : Nat} {xs : List Value}, T ≠ 126 → wC.ownsRow 0 T 38 v n xs → ∀ k, v.ownBlock = some k → k ≠ g := by
    intro T v n xs hT hr k hk e
    obtain ⟨cur, hc⟩ := own_blk' hr k hk
    exact apart_ty' hc h.at_ hT e
  have hatD := uD.old h.at_ (fun e => tyg (by decide) h.live g e rfl)
  have uE : Upd (· = g) wD (wD.setCell ⟨g, 47, none⟩ v') := (Upd.refl _ _).set1 47 _
  have hatE := blk_set hatD 47 v'
  rw [set_live c lv nv av h.ok.s.seed (c.xs ++ [x])] at hatE
  have hvg : ∀ k, v'.ownBlock = some k → k ≠ g := by
    intro k hk
    rcases hblk with e | e
    · rw [e] at hk
      exact tyg (by decide) h.live k hk
    · rw [e] at hk
      injection hk with hk
      have := blk_lt h.at_
      omega
  have hvlt : ∀ k, v'.ownBlock = some k → k < wD.heap.size := fun k hk => by
    obtain ⟨cur, hc⟩ := own_blk' hown' k hk
    exact blk_lt hc
  have hz := uD.size
  have hzE := uE.size
  generalize wD.setCell ⟨g, 47, none⟩ v' = wE at uE hatE hzE ⊢
  have rowM : ∀ {v : Value} {n : Nat} {xs : List Value}, wC.ownsRow 0 101 38 v n xs → wE.ownsRow 0 101 38 v n xs := by
    intro v n xs hr
    refine row_upd' (row_upd' hr uD (fun k hk e => ?_)) uE (fun k hk e => tyg (by decide) hr k hk e)
    obtain ⟨cur, hc⟩ := own_blk' hr k hk
    obtain ⟨cur2, hc2⟩ := own_blk' h.live k e
    exact apart_ty' hc hc2 (by decide) rfl
  refine ⟨⟨hatE, ⟨h.ok.s, h.ok.signed, h.ok.heard, h.ok.nextOwn, h.ok.nextTheirs, h.ok.loc, h.ok.rem, ?_, ?_, h.ok.shelf, h.ok.news, h.ok.last, h.ok.many⟩, ?_, rowM h.news, rowM h.last, .inl h.inG, ?_, fun k e => .inl (h.inN k e), fun k e => .inl (h.inA k e), h.sep, ?_⟩, (uD.mono (fun k _ e => h.inL k e)).trans (uE.mono (fun k _ e => by rw [e]; exact h.inG))⟩
  · intro y hy
    rcases List.mem_append.1 hy with hy | hy
    · exact h.ok.xs y hy
    · rw [List.mem_singleton.1 hy]
      exact hx
  · show (c.xs ++ [x]).length ≤ 1000000
    rw [List.length_append]
    simp
    omega
  · show wE.ownsRow 0 _ 38 v' (c.xs ++ [x]).length ((c.xs ++ [x]).flatMap liveCells)
    rw [List.length_append, List.flatMap_append]
    have : [x].flatMap liveCells = liveCells x := by simp
    rw [this]
    exact row_upd' hown' uE (fun k hk e => hvg k hk e)
  · intro k hk
    rcases hblk with e | e
    · rw [e] at hk
      exact .inl (h.inL k hk)
    · have := hvlt k hk
      rw [e] at hk
      injection hk with hk
      exact .inr ⟨by omega, by omega⟩
  · rintro k (hk | hk)
    · have := h.lt k hk
      omega
    · exact hk.2
set_option maxRecDepth 100000 in
set_option maxHeartbeats 800000 in
theorem offer_any (g : Nat) (S : Nat → Prop) (c : Ch) (n : Int) (hv : Vector Int 32) (ex : Int) (w : World) (h : ChS w g S c) (hn : 0 ≤ n ∧ n < 18446744073709551616) (hx : -9223372036854775808 ≤ ex ∧ ex ≤ 9223372036854775807) (hb : ∀ b ∈ hv.toList, 0 ≤ b ∧ b ≤ 255) (hfew : c.news.length < 1000000 ∧ c.xs.length < 1000000) :
    Calls Tryz.prog 47 #[.pointer (some ⟨g, 0, none⟩), .int .u64 n, .agg (hv.toList.map (Value.int .u8)).toArray, .int .i64 ex] w fun e w' =>
      e = .returned (.tuple #[.agg (c.offer n hv ex).2.1.cells.toArray, .int .i64 (c.offer n hv ex).2.2]) ∧ ChS w' g (Fr S w w') (c.offer n hv ex).1 ∧ Upd S w w' := by
  obtain ⟨lv, nv, av, h⟩ := h
  have hHl : (hv.toList.map (Value.int .u8)).length = 32 := by simp
  obtain ⟨H, hHe⟩ : ∃ H, H = hv.toList.map (Value.int .u8) := ⟨_, rfl⟩
  rw [← hHe] at hHl ⊢
  have HHE := hide hHe
  clear hHe
  go_enter Tryz.func47, Tryz.ntmps47
  go_upto_region 1 with fail
  have hbA : ((w.alloc (.cells H.toArray 35)).alloc (.cells MsgV.zero.cells.toArray 101)).heap[w.heap.size]? = some (.cells H.toArray 35 (0, 0)) := blk_alloc_old (blk_alloc _ _) _
  have hbB : ((w.alloc (.cells H.toArray 35)).alloc (.cells MsgV.zero.cells.toArray 101)).heap[w.heap.size + 1]? = some (.cells MsgV.zero.cells.toArray 101 (0, 0)) := by
    have := blk_alloc (w.alloc (.cells H.toArray 35)) (.cells MsgV.zero.cells.toArray 101)
    rwa [World.size_alloc] at this
  have nA : New w ((w.alloc (.cells H.toArray 35)).alloc (.cells MsgV.zero.cells.toArray 101)) := ((Upd.refl _ _).alloc _).alloc _
  generalize (w.alloc (.cells H.toArray 35)).alloc (.cells MsgV.zero.cells.toArray 101) = wA at hbA hbB nA ⊢
  obtain ⟨A, hAe⟩ : ∃ A, A = w.heap.size := ⟨_, rfl⟩
  obtain ⟨B, hBe⟩ : ∃ B, B = w.heap.size + 1 := ⟨_, rfl⟩
  rw [← hBe] at hbB ⊢
  rw [← hAe] at hbA ⊢
  have hA := h.new nA
  have hgA : g ≠ A := by have := h.lt g h.inG; omega
  have hgB : g ≠ B := by have := h.lt g h.inG; omega
  have hAl : w.heap.size ≤ A := by omega
  have hBl : w.heap.size ≤ B := by omega
  have hAB : B ≠ A := by omega
  clear hAe hBe
  have c42 : wA.cell? ⟨g, 42, none⟩ = some (.bool c.k.shutSaid) := hA.toR.shutSaid
  have c45 : wA.cell? ⟨g, 45, none⟩ = some (.int .u64 c.loc) := hA.toR.loc
  -- an error
  have bad : ∀ (W : World), New w W → W.heap[B]? = some (.cells MsgV.zero.cells.toArray 101 (0, 0)) →
      stOk W B 0 38 MsgV.zero.cells.toArray = true ∧ (W.setCells B 0 MsgV.zero.cells).heap[B]? = some (.cells MsgV.zero.cells.toArray 101 (0, 0)) ∧ ChS (W.setCells B 0 MsgV.zero.cells) g (Fr S w (W.setCells B 0 MsgV.zero.cells)) c ∧ Upd S w (W.setCells B 0 MsgV.zero.cells) := by
    intro W nW hW
    have u : Upd (· = B) W (W.setCells B 0 MsgV.zero.cells) := (Upd.refl _ _).setCells 0 _
    exact ⟨stOk_msg (m := MsgV.zero) hW z32i_len, laid_msg (m := MsgV.zero) hW z32i_len, ((h.new nW).upd u (fun k hk e => by have := h.lt k hk; omega)).fr w, ((nW.mono (fun _ _ h => h.elim)).then u (fun i hi e => by omega))⟩
  have HBAD := hide bad
  have H0 := hide h
  have HA := hide hA
  have NA := hide nA
  have BA := hide hbA
  have BB := hide hbB
  clear bad h hA nA hbA hbB
  by_cases e1 : c.k.shutSaid = true
  · have he : offerErr c n ex = 135 := by unfold offerErr; rw [if_pos e1]
    rw [e1] at c42
    have hoe : c.offer n hv ex = (c, MsgV.zero, 135) := by unfold Ch.offer; rw [if_neg (by rw [he]; decide), he]
    have HO := hide hoe
    clear hoe he
    go_upto_region 2 with fail
    obtain ⟨hst, hfin, hcs, hu⟩ := unhide HBAD wA (unhide NA) (unhide BB)
    have HF := hide hfin
    have HC := hide hcs
    have HU := hide hu
    clear hfin hcs hu
    go_wp2_with fail
    refine bodyPost_ret (results_row_tmp' rfl _ _ B _ _ _ _ rfl (unhide HF) Tryz.underlying101 rfl (by rw [List.size_toArray, MsgV.len _ z32i_len]; exact Tryz.infoMsg)) rfl ?_
    rw [unhide HO]
    exact ⟨rfl, unhide HC, unhide HU⟩
  have e1' : c.k.shutSaid = false := by simpa using e1
  rw [e1'] at c42
  by_cases e2 : n = 0
  · have he : offerErr c n ex = 1 := by unfold offerErr; rw [if_neg e1, if_pos e2]
    have hoe : c.offer n hv ex = (c, MsgV.zero, 1) := by unfold Ch.offer; rw [if_neg (by rw [he]; decide), he]
    have HO := hide hoe
    clear hoe he
    go_upto_region 4 with fail
    obtain ⟨hst, hfin, hcs, hu⟩ := unhide HBAD wA (unhide NA) (unhide BB)
    have HF := hide hfin
    have HC := hide hcs
    have HU := hide hu
    clear hfin hcs hu
    go_wp2_with fail
    refine bodyPost_ret (results_row_tmp' rfl _ _ B _ _ _ _ rfl (unhide HF) Tryz.underlying101 rfl (by rw [List.size_toArray, MsgV.len _ z32i_len]; exact Tryz.infoMsg)) rfl ?_
    rw [unhide HO]
    exact ⟨rfl, unhide HC, unhide HU⟩
  by_cases e3 : ex < 1
  · have he : offerErr c n ex = 131 := by unfold offerErr; rw [if_neg e1, if_neg e2, if_pos (.inl e3)]
    have hoe : c.offer n hv ex = (c, MsgV.zero, 131) := by unfold Ch.offer; rw [if_neg (by rw [he]; decide), he]
    have HO := hide hoe
    clear hoe he
    go_upto_region 6 with fail
    obtain ⟨hst, hfin, hcs, hu⟩ := unhide HBAD wA (unhide NA) (unhide BB)
    have HF := hide hfin
    have HC := hide hcs
    have HU := hide hu
    clear hfin hcs hu
    go_wp2_with fail
    refine bodyPost_ret (results_row_tmp' rfl _ _ B _ _ _ _ rfl (unhide HF) Tryz.underlying101 rfl (by rw [List.size_toArray, MsgV.len _ z32i_len]; exact Tryz.infoMsg)) rfl ?_
    rw [unhide HO]
    exact ⟨rfl, unhide HC, unhide HU⟩
  by_cases e4 : 1073741824 < ex
  · have he : offerErr c n ex = 131 := by unfold offerErr; rw [if_neg e1, if_neg e2, if_pos (.inr e4)]
    have hoe : c.offer n hv ex = (c, MsgV.zero, 131) := by unfold Ch.offer; rw [if_neg (by rw [he]; decide), he]
    have HO := hide hoe
    clear hoe he
    go_upto_region 6 with fail
    obtain ⟨hst, hfin, hcs, hu⟩ := unhide HBAD wA (unhide NA) (unhide BB)
    have HF := hide hfin
    have HC := hide hcs
    have HU := hide hu
    clear hfin hcs hu
    go_wp2_with fail
    refine bodyPost_ret (results_row_tmp' rfl _ _ B _ _ _ _ rfl (unhide HF) Tryz.underlying101 rfl (by rw [List.size_toArray, MsgV.len _ z32i_len]; exact Tryz.infoMsg)) rfl ?_
    rw [unhide HO]
    exact ⟨rfl, unhide HC, unhide HU⟩
  have hmn := manyC_any g S c true wA ⟨lv, nv, av, unhide HA⟩
  go_wp2_with fail
  refine hmn.mono ?_
  rintro e w1 ⟨rfl, n1⟩
  have c45' := n1.cell c45 (fun h => h)
  have hNA1 := (unhide NA).trans n1
  have hB1 := n1.old (unhide BB) (fun h => h)
  have N1 := hide hNA1
  have B1 := hide hB1
  have M1 := hide n1
  clear c45 c42 hmn n1 hNA1 hB1
  by_cases e5 : 8 ≤ manyL true c.xs
  · have he : offerErr c n ex = 130 := by unfold offerErr; rw [if_neg e1, if_neg e2, if_neg (by omega), if_pos e5]
    have e5' : 8 ≤ (manyL true c.xs : Int) := by omega
    have hoe : c.offer n hv ex = (c, MsgV.zero, 130) := by unfold Ch.offer; rw [if_neg (by rw [he]; decide), he]
    have HO := hide hoe
    clear hoe he
    go_upto_region 8 with fail
    obtain ⟨hst, hfin, hcs, hu⟩ := unhide HBAD w1 (unhide N1) (unhide B1)
    have HF := hide hfin
    have HC := hide hcs
    have HU := hide hu
    clear hfin hcs hu
    go_wp2_with fail
    refine bodyPost_ret (results_row_tmp' rfl _ _ B _ _ _ _ rfl (unhide HF) Tryz.underlying101 rfl (by rw [List.size_toArray, MsgV.len _ z32i_len]; exact Tryz.infoMsg)) rfl ?_
    rw [unhide HO]
    exact ⟨rfl, unhide HC, unhide HU⟩
  have e5' : ¬ 8 ≤ (manyL true c.xs : Int) := by omega
  by_cases e6 : c.loc < n
  · have he : offerErr c n ex = 61 := by unfold offerErr; rw [if_neg e1, if_neg e2, if_neg (by omega), if_neg e5, if_pos e6]
    have hoe : c.offer n hv ex = (c, MsgV.zero, 61) := by unfold Ch.offer; rw [if_neg (by rw [he]; decide), he]
    have HO := hide hoe
    clear hoe he
    go_upto_region 10 with fail
    obtain ⟨hst, hfin, hcs, hu⟩ := unhide HBAD w1 (unhide N1) (unhide B1)
    have HF := hide hfin
    have HC := hide hcs
    have HU := hide hu
    clear hfin hcs hu
    go_wp2_with fail
    refine bodyPost_ret (results_row_tmp' rfl _ _ B _ _ _ _ rfl (unhide HF) Tryz.underlying101 rfl (by rw [List.size_toArray, MsgV.len _ z32i_len]; exact Tryz.infoMsg)) rfl ?_
    rw [unhide HO]
    exact ⟨rfl, unhide HC, unhide HU⟩
  have he : offerErr c n ex = 0 := by unfold offerErr; rw [if_neg e1, if_neg e2, if_neg (by omega), if_neg e5, if_neg e6]
  have hoe : c.offer n hv ex = ((c.offered n hv ex).say (offerMsg c n hv ex), (offerMsg c n hv ex).on c.s.ch, 0) := by unfold Ch.offer; rw [if_pos he]
  have HO := hide hoe
  clear hoe he
  go_upto_region 11 with fail
  have hP1 := (unhide HA).new (unhide M1)
  have hA1 := (unhide M1).old (unhide BA) (fun h => h)
  have c40 : w1.cell? ⟨g, 40, none⟩ = some (.int .u64 c.k.nextOwn) := hP1.toR.nextOwn
  have rA : rowN w1 A 0 32 = some H.toArray := rowN_whole hA1 32 (by rw [List.size_toArray, hHl])
  have hC0 : w1.drew.cell? ⟨g, 40, none⟩ = some (.int .u64 c.k.nextOwn) ∧ rowN w1.drew A 0 32 = some H.toArray := ⟨c40, rA⟩
  obtain ⟨K, hK⟩ : ∃ K : List Value, K = .int .u64 c.k.nextOwn :: .int .u64 n :: (H ++ [.int .i64 ex]) := ⟨_, rfl⟩
  have hKl : K.length = 35 := by rw [hK]; simp [hHl]
  have hKc : K = htlcCells (offerLive c n hv ex).h := by rw [hK, unhide HHE]; rfl
  have nD : New w1 (w1.alloc (.cells (htlcCells Htlc.zero).toArray 41)).drew := ((Upd.refl _ _).alloc _).drew
  have hbD : (w1.alloc (.cells (htlcCells Htlc.zero).toArray 41)).drew.heap[w1.heap.size]? = some (.cells (htlcCells Htlc.zero).toArray 41 (0, 0)) := blk_alloc w1 _
  have hEl : w.heap.size ≤ w1.heap.size := (unhide N1).size
  have hgE : g ≠ w1.heap.size := by have := blk_lt hP1.at_; omega
  have hAE : A ≠ w1.heap.size := by have := blk_lt hA1; omega
  have hBE : B ≠ w1.heap.size := by have := blk_lt (unhide B1); omega
  have HP1 := hide hP1
  have HKC := hide hKc
  have HK := hide hK
  have HC1 : Hid ((w1.alloc (.cells (htlcCells Htlc.zero).toArray 41)).drew.cell? ⟨g, 40, none⟩ = some (.int .u64 c.k.nextOwn) ∧ rowN (w1.alloc (.cells (htlcCells Htlc.zero).toArray 41)).drew A 0 32 = some H.toArray) := hide ⟨nD.cell c40 (fun h => h), rowN_upd rA nD (fun h => h)⟩
  clear hP1 hA1 c40 rA hKc hK
  refine wp_plan (fun w' => w'.cell? ⟨g, 40, none⟩ = some (.int .u64 c.k.nextOwn) ∧ rowN w' A 0 32 = some H.toArray) [4, 6] (.of [0, 1, 2, 3, 4, 5, 6, 7, 8, 9, 10]) (by kernel_rfl) (by kernel_rfl) hC0 ?_
  simp only [Plan.of]
  go_wp2_with (with_reducible first | (first | refine' qw1 (ido ?_) ?_ | refine' qw2 (ido ?_) ?_ | refine' qw3 (ido ?_) ?_); rotate_left | refine' qw4 (ido ?_) | refine' qw5 (ido ?_) | rfl | apply qn)
  refine ⟨unhide HC1, ?_⟩
  obtain ⟨E, hE⟩ : ∃ E, E = w1.heap.size := ⟨_, rfl⟩
  rw [← hE] at hbD hEl hgE hAE hBE ⊢
  clear hE hC0
  have hA2 := nD.old ((unhide M1).old (unhide BA) (fun h => h)) (fun h => h)
  have hB2 := nD.old (unhide B1) (fun h => h)
  have hP2 := (unhide HP1).new nD
  have nw2 := (unhide N1).trans nD
  rw [← unhide HK]
  generalize (w1.alloc (.cells (htlcCells Htlc.zero).toArray 41)).drew = wD at hbD hA2 hB2 hP2 nw2 ⊢
  have hKone : ∀ v ∈ K, v.oneCell' = true := by rw [unhide HKC]; exact htlc_one _
  have hst : stOk wD E 0 35 K.toArray = true := stOk_all (C := (htlcCells Htlc.zero).toArray) hbD (by rw [hKl]; rfl) hKone
  have hbE : (wD.setCells E 0 K).heap[E]? = some (.cells K.toArray 41 (0, 0)) := by
    rw [blk_setCells hbD 0 K, layIn_whole _ _ (by rw [hKl]; rfl)]
  have uE : Upd (· = E) wD (wD.setCells E 0 K) := (Upd.refl _ _).setCells 0 K
  have hA3 := uE.old hA2 hAE
  have hB3 := uE.old hB2 hBE
  have hP3 := hP2.upd uE (fun k hk e => by have := (unhide H0).lt k hk; omega)
  have nw3 : New w (wD.setCells E 0 K) := nw2.then uE (fun i hi e => by omega)
  have P3 := hide hP3
  have A3 := hide hA3
  have B3 := hide hB3
  have E3 := hide hbE
  clear hA2 hB2 hP2 nw2 hbD hbE uE hA3 hB3 hP3 nD c45' HC1
  go_upto_region 12 with (with_reducible first | (first | refine' qw1 (ido ?_) ?_ | refine' qw2 (ido ?_) ?_ | refine' qw3 (ido ?_) ?_); rotate_left | refine' qw4 (ido ?_) | refine' qw5 (ido ?_) | rfl | apply qn)
  clear hst
  generalize wD.setCells E 0 K = w3 at P3 A3 B3 E3 nw3 ⊢
  -- the base, the number
  have hP3 := unhide P3
  have c45 : w3.cell? ⟨g, 45, none⟩ = some (.int .u64 c.loc) := hP3.toR.loc
  have f45 : w3.frozen? ⟨g, 45, none⟩ = false := blk_free hP3.at_ 45
  have hlo := hP3.ok.loc
  have hno := hP3.ok.nextOwn
  have hw1 : IntKind.u64.wrap (c.loc - n) = c.loc - n := wrapU (by omega) (by omega)
  obtain ⟨c1, hc1⟩ : ∃ c1 : Ch, c1 = { c with loc := c.loc - n } := ⟨_, rfl⟩
  have hok1 : c1.Ok := by
    rw [hc1]
    exact ⟨hP3.ok.s, hP3.ok.signed, hP3.ok.heard, hP3.ok.nextOwn, hP3.ok.nextTheirs, show 0 ≤ c.loc - n ∧ c.loc - n < _ by omega, hP3.ok.rem, hP3.ok.xs, hP3.ok.few, hP3.ok.shelf, hP3.ok.news, hP3.ok.last, hP3.ok.many⟩
  have hP4 := hP3.put (i := 45) (x := .int .u64 (c.loc - n)) (c' := c1) (by rw [hc1]; exact set_loc c lv nv av hP3.ok.s.seed (c.loc - n)) hok1 (by rw [hc1]) (by rw [hc1]) (by rw [hc1])
  have u4 : Upd (· = g) w3 (w3.setCell ⟨g, 45, none⟩ (.int .u64 (c.loc - n))) := (Upd.refl _ _).set1 45 _
  have P4 := hide hP4
  have A4 := hide (u4.old (unhide A3) (fun e => hgA e.symm))
  have B4 := hide (u4.old (unhide B3) (fun e => hgB e.symm))
  have E4 := hide (u4.old (unhide E3) (fun e => hgE e.symm))
  have U4 := hide ((nw3.mono (fun _ _ h => h.elim)).trans (u4.mono (fun k _ e => by rw [e]; exact (unhide H0).inG)) : Upd S w _)
  clear hP3 hok1 hP4 u4 P3 A3 B3 E3 nw3
  go_upto_region 13 with (with_reducible first | (first | refine' tw1 (ido ?_) ?_ | refine' tw2 (ido ?_) ?_); rotate_left | refine' tw3 (ido ?_) | rfl | apply tn | refine' tw4 ?_)
  clear c45 f45 hw1
  generalize w3.setCell ⟨g, 45, none⟩ (.int .u64 (c.loc - n)) = w4 at P4 A4 B4 E4 U4 ⊢
  have hP4 := unhide P4
  have hk1 : c1.k = c.k := by rw [hc1]
  have c40 : w4.cell? ⟨g, 40, none⟩ = some (.int .u64 c.k.nextOwn) := by rw [← hk1]; exact hP4.toR.nextOwn
  have f40 : w4.frozen? ⟨g, 40, none⟩ = false := blk_free hP4.at_ 40
  obtain ⟨N1', hN1⟩ : ∃ x, x = IntKind.u64.wrap (c.k.nextOwn + 1) := ⟨_, rfl⟩
  have hN1b : 0 ≤ N1' ∧ N1' < 18446744073709551616 := by rw [hN1, IntKind.wrap_u64]; omega
  have hww : IntKind.u64.wrap (c.k.nextOwn + 1) = N1' := hN1.symm
  obtain ⟨c2, hc2⟩ : ∃ c2 : Ch, c2 = { c1 with k := { c1.k with nextOwn := N1' } } := ⟨_, rfl⟩
  have hok2 : c2.Ok := by
    rw [hc2]
    exact ⟨hP4.ok.s, hP4.ok.signed, hP4.ok.heard, hN1b, hP4.ok.nextTheirs, hP4.ok.loc, hP4.ok.rem, hP4.ok.xs, hP4.ok.few, hP4.ok.shelf, hP4.ok.news, hP4.ok.last, hP4.ok.many⟩
  have hP5 := hP4.put (i := 40) (x := .int .u64 N1') (c' := c2) (by rw [hc2]; exact set_nextOwn c1 lv nv av hP4.ok.s.seed N1') hok2 (by rw [hc2]) (by rw [hc2]) (by rw [hc2])
  have u5 : Upd (· = g) w4 (w4.setCell ⟨g, 40, none⟩ (.int .u64 N1')) := (Upd.refl _ _).set1 40 _
  have P5 := hide hP5
  have A5 := hide (u5.old (unhide A4) (fun e => hgA e.symm))
  have B5 := hide (u5.old (unhide B4) (fun e => hgB e.symm))
  have E5 := hide (u5.old (unhide E4) (fun e => hgE e.symm))
  have U5 := hide ((unhide U4).trans (u5.mono (fun k _ e => by rw [e]; exact (unhide H0).inG)))
  have HC1 := hide hc1
  have HC2 := hide hc2
  have HN1 := hide hN1
  clear hP4 hok2 hP5 u5 P4 A4 B4 E4 U4 hc1 hc2 hN1
  go_upto_region 14 with (with_reducible first | (first | refine' tw1 (ido ?_) ?_ | refine' tw2 (ido ?_) ?_); rotate_left | refine' tw3 (ido ?_) | rfl | apply tn | refine' tw4 ?_)
  clear c40 f40 hww
  generalize w4.setCell ⟨g, 40, none⟩ (.int .u64 N1') = w5 at P5 A5 B5 E5 U5 ⊢
  have hP5 := unhide P5
  have c47 : w5.drew.cell? ⟨g, 47, none⟩ = some lv := hP5.toR.live
  have rE : rowN w5 E 0 35 = some K.toArray := rowN_whole (unhide E5) 35 (by rw [List.size_toArray, hKl])
  obtain ⟨L, hL⟩ : ∃ L : List Value, L = K ++ ([.bool true, .int .i64 0, .bool false] : List Value) := ⟨_, rfl⟩
  have hLl : L.length = 38 := by rw [hL]; simp [hKl]
  have hLc : L = liveCells (offerLive c n hv ex) := by rw [hL, unhide HKC]; rfl
  have hbd : ∀ W : World, (bdLiv #[(0, .agg K.toArray), (1, .bool true), (2, .int .i64 0)]).run Tryz.prog W = .ok (.agg L.toArray) W := fun W => by rw [bd_liv3, if_pos hKl, hL]
  obtain ⟨i9, z9, b9, hi9, hz9, hz0, hz1, hz2, hb9⟩ := live_info'
  obtain ⟨la, lcap, hlv⟩ := own_shape' hP5.live
  have hx2 : c2.xs = c.xs := by rw [unhide HC2, unhide HC1]
  have nF : New w5 (w5.alloc (.cells L.toArray 69)).drew := ((Upd.refl _ _).alloc _).drew
  have hbF : (w5.alloc (.cells L.toArray 69)).drew.heap[w5.heap.size]? = some (.cells L.toArray 69 (0, 0)) := blk_alloc w5 _
  have P6 := hide (hP5.new nF)
  have A6 := hide (nF.old (unhide A5) (fun h => h))
  have B6 := hide (nF.old (unhide B5) (fun h => h))
  have E6 := hide (nF.old (unhide E5) (fun h => h))
  have U6 := hide ((unhide U5).trans (nF.mono (fun _ _ h => h.elim)))
  have c47' := nF.cell c47 (fun h => h)
  have HL := hide hL
  have HLC := hide hLc
  have HX2 := hide hx2
  clear hP5 P5 A5 B5 E5 U5 hL hLc hx2
  refine wp_plan (fun w' => w'.cell? ⟨g, 47, none⟩ = some lv) [4] (.of [0, 1, 2, 3, 4, 5, 6, 7, 8, 9, 10, 11]) (by kernel_rfl) (by kernel_rfl) c47 ?_
  simp only [Plan.of]
  go_wp2_with (with_reducible first | (first | refine' qw1 (ido ?_) ?_ | refine' qw2 (ido ?_) ?_ | refine' qw3 (ido ?_) ?_); rotate_left | refine' qw4 (ido ?_) | refine' qw5 (ido ?_) | rfl | apply qn)
  refine ⟨trivial, ?_⟩
  clear c47 nF rE hbd
  have hDl : w.heap.size ≤ w5.heap.size := by
    have := (unhide U6).size
    have e : (w5.alloc (.cells L.toArray 69)).drew.heap.size = w5.heap.size + 1 := World.size_alloc _ _
    have := blk_lt (unhide E6)
    omega
  generalize (w5.alloc (.cells L.toArray 69)).drew = w6 at hbF P6 A6 B6 E6 U6 c47' ⊢
  generalize w5.heap.size = D at hbF hDl ⊢
  have hlive := (unhide P6).live
  unfold LivesO at hlive
  rw [hlv] at hlive
  have HN := hide hlive
  clear hlive
  have hfx : c2.xs.length < 1000000 := by rw [unhide HX2]; exact hfew.2
  go_wp2_with (first | (at_builtin; refine wpList_append_own_at _ rfl (.tmp 76) (.tmp 79) 46 rfl 0 69 i9 _ 38 b9 Tryz.underlying46 hi9 hz9 hz0 hz1 hz2 (by decide) _ _ _ rfl (unhide HN) ⟨D, 0, none⟩ 1 1 L rfl (by rw [hLl]) ?c1 ?c2 ?c3 ?c4 ?c5 ?_) | (with_reducible first | (first | refine' qw1 (ido ?_) ?_ | refine' qw2 (ido ?_) ?_ | refine' qw3 (ido ?_) ?_); rotate_left | refine' qw4 (ido ?_) | refine' qw5 (ido ?_) | rfl | apply qn))
  case c1 => exact World.news_of_block (cs := L.toArray) (fr := (0, 0)) hbF
  case c2 => rw [unhide HLC]; exact live_one _
  case c3 => unfold maxLen; omega
  case c4 => have := Nat.mul_le_mul (show c2.xs.length + 1 ≤ 1000000 by omega) hb9; omega
  case c5 => omega
  intro v' wE hown' hgr _ hblk
  obtain ⟨a', cap', hv'⟩ := own_shape' hown'
  rw [← hlv] at hgr hblk
  have hxo : LiveOk (offerLive c n hv ex) := ⟨⟨⟨(unhide H0).ok.nextOwn.1, by have := (unhide H0).ok.nextOwn.2; show c.k.nextOwn ≤ _; omega⟩, ⟨hn.1, by show n ≤ _; omega⟩, hb, hx⟩, ⟨by show (-9223372036854775808 : Int) ≤ 0; decide, by show (0 : Int) ≤ 9223372036854775807; decide⟩⟩
  have hap := (unhide P6).appLive (offerLive c n hv ex) hxo hfx v' (by rw [← unhide HLC]; exact hown') hgr hblk
  have uE : Upd (fun k => lv.ownBlock = some k) w6 wE := (Upd.refl _ _).grown hgr (fun k hk _ => hk)
  have hS0 := (unhide H0).lt
  have hlS : ∀ k, lv.ownBlock = some k → k < w.heap.size := fun k hk => hS0 k ((unhide H0).inL k hk)
  have uG : Upd (· = g) wE (wE.setCell ⟨g, 47, none⟩ v') := (Upd.refl _ _).set1 47 _
  have tr2 : ∀ {k : Nat} {o : Obj}, w.heap.size ≤ k → k ≠ g → w6.heap[k]? = some o → (wE.setCell ⟨g, 47, none⟩ v').heap[k]? = some o := fun hk hg ho => uG.old (uE.old ho (fun e => by have := hlS _ e; omega)) hg
  have A7 := hide (tr2 hAl (fun e => hgA e.symm) (unhide A6))
  have B7 := hide (tr2 hBl (fun e => hgB e.symm) (unhide B6))
  have E7 := hide (tr2 hEl (fun e => hgE e.symm) (unhide E6))
  have hatE := uE.old (unhide P6).at_ (fun e => by
    obtain ⟨cur, hc⟩ := own_blk' (unhide P6).live g e
    exact apart_ty' (unhide P6).at_ hc (by decide) rfl)
  have f47 : wE.frozen? ⟨g, 47, none⟩ = false := blk_free hatE 47
  have c47E : wE.cell? ⟨g, 47, none⟩ = some lv := uE.cell c47' (fun e => by
    obtain ⟨cur, hc⟩ := own_blk' (unhide P6).live g e
    exact apart_ty' (unhide P6).at_ hc (by decide) rfl)
  have U7 := hide ((unhide U6).trans hap.2)
  have P7 := hide hap.1
  have H67 := hide hap.2.size
  have hz6 := hide (unhide U6).size
  have hB6l := hide (blk_lt (unhide B6))
  have HV' := hide hv'
  rw [hv'] at A7 B7 E7 U7 P7 H67
  clear hown' hgr hblk hap uE uG tr2 hatE c47' hbF A6 B6 E6 HN
  rw [hv']
  clear hv'
  go_upto_region 15 with (with_reducible first | (first | refine' qw1 (ido ?_) ?_ | refine' qw2 (ido ?_) ?_ | refine' qw3 (ido ?_) ?_); rotate_left | refine' qw4 (ido ?_) | refine' qw5 (ido ?_) | rfl | apply qn)
  clear c47E f47
  generalize hw7 : wE.setCell ⟨g, 47, none⟩ (.slice a' (c2.xs.length + 1) cap') = w7 at A7 B7 E7 U7 P7 H67 ⊢
  clear hw7
  have dE : w7.cell? ⟨E, 0, none⟩ = some (.int .u64 c.k.nextOwn) := by rw [blk_cell (unhide E7), unhide HK]; rfl
  have rA : rowN w7 A 0 32 = some H.toArray := rowN_whole (unhide A7) 32 (by rw [List.size_toArray, hHl])
  obtain ⟨m, hm⟩ : ∃ m, m = offerMsg c n hv ex := ⟨_, rfl⟩
  have hml : m.hash.length = 32 := by rw [hm]; show hv.toList.length = 32; simp
  have hbm : ∀ W : World, (bdMsg #[(0, .int .i64 3), (2, .int .u64 c.k.nextOwn), (3, .int .u64 n), (4, .agg H.toArray), (5, .int .i64 ex)]).run Tryz.prog W = .ok (.agg m.cells.toArray) W := fun W => by
    rw [bd_msg_add, if_pos hHl, hm, unhide HHE]
    rfl
  obtain ⟨c3, hc3⟩ : ∃ c3 : Ch, c3 = c.offered n hv ex := ⟨_, rfl⟩
  have hce : ({ c2 with xs := c2.xs ++ [offerLive c n hv ex] } : Ch) = c3 := by
    rw [hc3, unhide HC2, unhide HC1, unhide HN1]
    rfl
  have hP7 := unhide P7
  rw [hce] at hP7
  have hsay := say_any g (Fr S w6 w7) c3 m hml w7 ⟨_, _, _, hP7⟩ (by rw [hc3]; exact hfew.1)
  have hch : c3.s.ch = c.s.ch := by rw [hc3]; rfl
  rw [hch] at hsay
  have HCH := hide hch
  have HM := hide hm
  have HC3 := hide hc3
  clear hP7 P7 hm hc3 hce hch
  go_wp2_with (with_reducible first | (first | refine' tw1 (ido ?_) ?_ | refine' tw2 (ido ?_) ?_); rotate_left | refine' tw3 (ido ?_) | rfl | apply tn | refine' tw4 ?_)
  refine hsay.mono ?_
  rintro e w8 ⟨rfl, hcs, u8⟩
  have hB8 := u8.old (unhide B7) (fun hk => by
    rcases hk with hk | hk
    · have := hS0 _ hk; omega
    · have := unhide hB6l; omega)
  have hmo : (m.on c.s.ch).hash.length = 32 := hml
  have hst := stOk_msg hB8 hmo
  have hfin := laid_msg hB8 hmo
  have HF := hide hfin
  have u9 : Upd (· = B) w8 (w8.setCells B 0 (m.on c.s.ch).cells) := (Upd.refl _ _).setCells 0 _
  have HS := hide (And.intro hcs (And.intro u8 u9))
  clear hB8 hfin hcs u8 u9 dE rA hbm hsay
  go_wp2_with (with_reducible first | (first | refine' tw1 (ido ?_) ?_ | refine' tw2 (ido ?_) ?_); rotate_left | refine' tw3 (ido ?_) | rfl | apply tn | refine' tw4 ?_)
  refine bodyPost_ret (results_row_tmp' rfl _ _ B _ _ _ _ rfl (unhide HF) Tryz.underlying101 rfl (by rw [List.size_toArray, MsgV.len _ hmo]; exact Tryz.infoMsg)) rfl ?_
  obtain ⟨hcs, u8, u9⟩ := unhide HS
  have hz6' := unhide hz6
  have hz7 := (unhide U7).size
  have hz8 := u8.size
  have hz9 := u9.size
  have h67 := unhide H67
  rw [unhide HO, ← unhide HM]
  refine ⟨rfl, ?_, ((unhide U7).then u8 (fun i hi e => ?_)).then u9 (fun i hi e => by omega)⟩
  · obtain ⟨p, q, r, hp⟩ := hcs
    have hp9 := hp.upd u9 (fun k hk e => by
      rcases hk with (hk | hk) | hk
      · have := hS0 k hk; omega
      · have := unhide hB6l; omega
      · have := unhide hB6l; omega)
    refine ⟨p, q, r, ?_⟩
    rw [← unhide HC3]
    refine hp9.wider (fun k hk => ?_) (fun k hk => ?_)
    · rcases hk with (hk | hk) | hk
      · exact .inl hk
      · exact .inr ⟨by omega, by omega⟩
      · exact .inr ⟨by omega, by omega⟩
    · rcases hk with hk | hk
      · have := hS0 k hk
        omega
      · exact hk.2
  · rcases e with e | e
    · exact e
    · omega

end Go.Proofs.YtfmkdoachjgjbaaGreatDoor
