/-
  What a message is to a hearer; hearAdd.
-/
import Derived.Test.YtjpmomdechibmaaGreatDoorCh8
namespace Go.Proofs.YtjpmomdechibmaaGreatDoor
set_option linter.unusedVariables false
set_option linter.unusedSimpArgs false
open Go.RowKit

theorem built_liv2 (s : Int) (H : List Value) (h : H.length = 35) : Tryz.prog.built 81 [(0, .agg H.toArray), (2, .int .i64 s)] = some (H ++ ([.bool false, .int .i64 s, .bool false] : List Value)).toArray := by
  obtain ⟨i, z, hi, hz, hc⟩ := zero_of Tryz.zeroLive'
  obtain ⟨fs, hu, hp⟩ := Tryz.placesLiv
  rw [built_struct' hi hu hz hp]
  rw [fill_one (P := []) (A := H) (Z := htlcCells Htlc.zero) (R := [.bool false, .int .i64 0, .bool false]) (off := 0) (by rw [h]; rfl) rfl (by rw [h]; rfl) (hc.trans zlive_split)]
  rw [fill_sc (P := H ++ [.bool false]) (z := .int .i64 0) (R := [.bool false]) (off := 36) rfl (by simp [h]) rfl (by simp)]
  rw [Instr.fill]
  simp
theorem bd_liv2 (s : Int) (H : List Value) (w : World) : (bdLiv #[(0, .agg H.toArray), (2, .int .i64 s)]).run Tryz.prog w = if H.length = 35 then .ok (.agg (H ++ ([.bool false, .int .i64 s, .bool false] : List Value)).toArray) w else (Instr.build 81 #[(0, .agg H.toArray), (2, .int .i64 s)]).run Tryz.prog w := by
  by_cases h : H.length = 35
  · rw [if_pos h]; exact run_build w _ _ _ (built_liv2 s H h)
  · rw [if_neg h]; rfl

attribute [local go_sem ↓ high] ld_live_fold st_live_fold al_live_fold bs_liv_fold ld_hsh_fold ld_htl_fold st_htl_fold al_htl_fold bd_htl_fold bd_liv_fold
attribute [local go_sem] ld_live st_live al_live bs_liv rowN_drew ld_hsh ld_htl st_htl al_htl bd_htl

/-- Numbers of a message that fit. -/
structure MsgOk (m : MsgV) : Prop where
  kind : -9223372036854775808 ≤ m.kind ∧ m.kind ≤ 9223372036854775807
  ch : 0 ≤ m.ch ∧ m.ch < 4294967296
  id : 0 ≤ m.id ∧ m.id < 18446744073709551616
  amount : 0 ≤ m.amount ∧ m.amount < 18446744073709551616
  len : m.hash.length = 32
  hash : ∀ b ∈ m.hash, 0 ≤ b ∧ b ≤ 255
  expiry : -9223372036854775808 ≤ m.expiry ∧ m.expiry ≤ 9223372036854775807
  number : -9223372036854775808 ≤ m.number ∧ m.number ≤ 9223372036854775807
def hvec (l : List Int) : Vector Int 32 := if h : l.length = 32 then ⟨l.toArray, by simpa using h⟩ else Vector.replicate 32 0
theorem hvec_list {l : List Int} (h : l.length = 32) : (hvec l).toList = l := by
  unfold hvec
  rw [dif_pos h]
  rfl
/-- A message's cells, one by one. -/
theorem msg_at (m : MsgV) {w : World} {b : Nat} {T : TypeId} {fz : Nat × Nat} (h : w.heap[b]? = some (.cells m.cells.toArray T fz)) (hl : m.hash.length = 32) :
    w.cell? ⟨b, 0, none⟩ = some (.int .i64 m.kind) ∧ w.cell? ⟨b, 1, none⟩ = some (.int .u32 m.ch) ∧ w.cell? ⟨b, 2, none⟩ = some (.int .u64 m.id) ∧ w.cell? ⟨b, 3, none⟩ = some (.int .u64 m.amount) ∧ w.cell? ⟨b, 36, none⟩ = some (.int .i64 m.expiry) ∧ w.cell? ⟨b, 37, none⟩ = some (.int .i64 m.number) ∧ rowN w b 4 32 = some (m.hash.map (Value.int .u8)).toArray := by
  have e36 : ∀ j, m.cells[36 + j]? = ([.int .i64 m.expiry, .int .i64 m.number] : List Value)[j]? := by
    intro j
    unfold MsgV.cells
    rw [show 36 + j = (32 + j) + 4 by omega]
    simp only [List.getElem?_cons_succ]
    rw [List.getElem?_append_right (by simp [hl]), List.length_map, hl, Nat.add_sub_cancel_left]
  refine ⟨blk_cell h 0, blk_cell h 1, blk_cell h 2, blk_cell h 3, ?_, ?_, ?_⟩
  · rw [blk_cell h 36, List.getElem?_toArray]; exact e36 0
  · rw [blk_cell h 37, List.getElem?_toArray]; exact e36 1
  · rw [rowN_blk h 4 32 (by rw [List.size_toArray, m.len hl]; omega)]
    congr 1
    apply Array.ext'
    rw [Array.toList_extract]
    unfold MsgV.cells
    simp [hl]

def hearAddErr (c : Ch) (m : MsgV) : Int :=
  if c.k.shutHeard = true then 135 else if m.amount = 0 then 1 else if m.id ≠ c.k.nextTheirs then 1 else if m.expiry = 0 then 131 else if 8 ≤ manyL false c.xs then 130 else if c.rem < m.amount then 61 else 0
def addLive (m : MsgV) : Live := ⟨⟨m.id, m.amount, hvec m.hash, m.expiry⟩, false, 0, false⟩
def Ch.added (c : Ch) (m : MsgV) : Ch := { c with rem := c.rem - m.amount, k := { c.k with nextTheirs := IntKind.u64.wrap (c.k.nextTheirs + 1) }, xs := c.xs ++ [addLive m] }
/-- What hearAdd does: the end, its error. -/
def Ch.hearAdd (c : Ch) (m : MsgV) : Ch × Int := if hearAddErr c m = 0 then (c.added m, 0) else (c, hearAddErr c m)

set_option maxRecDepth 100000 in
set_option maxHeartbeats 800000 in
theorem hearAdd_any (g : Nat) (S : Nat → Prop) (c : Ch) (m : MsgV) (hm : MsgOk m) (w : World) (h : ChS w g S c) (hfew : c.xs.length < 1000000) :
    Calls Tryz.prog 66 #[.pointer (some ⟨g, 0, none⟩), .agg m.cells.toArray] w fun e w' =>
      e = .returned (.tuple #[nilV, .int .i64 (c.hearAdd m).2]) ∧ ChS w' g (Fr S w w') (c.hearAdd m).1 ∧ Upd S w w' := by
  obtain ⟨lv, nv, av, h⟩ := h
  go_enter Tryz.func66, Tryz.ntmps66
  go_upto_region 1 with fail
  have hbA : (w.alloc (.cells m.cells.toArray 30)).heap[w.heap.size]? = some (.cells m.cells.toArray 30 (0, 0)) := blk_alloc _ _
  have nA : New w (w.alloc (.cells m.cells.toArray 30)) := (Upd.refl _ _).alloc _
  generalize w.alloc (.cells m.cells.toArray 30) = wA at hbA nA ⊢
  obtain ⟨A, hAe⟩ : ∃ A, A = w.heap.size := ⟨_, rfl⟩
  rw [← hAe] at hbA ⊢
  have hA := h.new nA
  have hgA : g ≠ A := by have := h.lt g h.inG; omega
  have hAl : w.heap.size ≤ A := by omega
  clear hAe
  have c43 : wA.cell? ⟨g, 43, none⟩ = some (.bool c.k.shutHeard) := hA.toR.shutHeard
  have c41 : wA.cell? ⟨g, 41, none⟩ = some (.int .u64 c.k.nextTheirs) := hA.toR.nextTheirs
  have c46 : wA.cell? ⟨g, 46, none⟩ = some (.int .u64 c.rem) := hA.toR.rem
  obtain ⟨m0, m1, m2, m3, m36, m37, m4⟩ := msg_at m hbA hm.len
  have bad : ∀ W, New w W → hearAddErr c m ≠ 0 → ChS W g (Fr S w W) (c.hearAdd m).1 ∧ (c.hearAdd m).2 = hearAddErr c m ∧ Upd S w W := by
    intro W nW he
    unfold Ch.hearAdd
    rw [if_neg he]
    exact ⟨(h.new nW).fr w, rfl, nW.mono (fun _ _ h => h.elim)⟩
  have HBAD := hide bad
  have H0 := hide h
  have HA := hide hA
  have NA := hide nA
  have BA := hide hbA
  clear bad h hA nA hbA m0 m1 m37 m4
  by_cases e1 : c.k.shutHeard = true
  · have he : hearAddErr c m = 135 := by unfold hearAddErr; rw [if_pos e1]
    rw [e1] at c43
    have HE := hide he
    clear he e1
    go_wp2_with (first | ((with_reducible apply tp); rfl; rfl; intro _ _ _) | ((with_reducible apply tr); rfl; intro _ _) | ((with_reducible apply te); rfl; intro _ _) | (with_reducible rfl) | (with_reducible apply tn) | ((with_reducible apply wp_txt); kernel_rfl; decide +kernel))
    go_ret2
    obtain ⟨b1, b2, b3⟩ := unhide HBAD wA (unhide NA) (by rw [unhide HE]; decide)
    exact ⟨by rw [b2, unhide HE]; rfl, b1, b3⟩
  have e1' : c.k.shutHeard = false := by simpa using e1
  rw [e1'] at c43
  by_cases e2 : m.amount = 0
  · have he : hearAddErr c m = 1 := by unfold hearAddErr; rw [if_neg e1, if_pos e2]
    rw [e2] at m3
    have HE := hide he
    clear he e1 e1'
    go_wp2_with (first | ((with_reducible apply tp); rfl; rfl; intro _ _ _) | ((with_reducible apply tr); rfl; intro _ _) | ((with_reducible apply te); rfl; intro _ _) | (with_reducible rfl) | (with_reducible apply tn) | ((with_reducible apply wp_txt); kernel_rfl; decide +kernel))
    go_ret2
    obtain ⟨b1, b2, b3⟩ := unhide HBAD _ ((unhide NA).drewN 1) (by rw [unhide HE]; decide)
    exact ⟨by rw [b2, unhide HE]; rfl, b1, b3⟩
  have e2' : (m.amount == 0) = false := by simpa using e2
  by_cases e3 : m.id ≠ c.k.nextTheirs
  · have he : hearAddErr c m = 1 := by unfold hearAddErr; rw [if_neg e1, if_neg e2, if_pos e3]
    have e3' : (m.id != c.k.nextTheirs) = true := by simpa using e3
    have HE := hide he
    clear he e1 e1' e2 e3
    go_wp2_with (first | ((with_reducible apply tp); rfl; rfl; intro _ _ _) | ((with_reducible apply tr); rfl; intro _ _) | ((with_reducible apply te); rfl; intro _ _) | (with_reducible rfl) | (with_reducible apply tn) | ((with_reducible apply wp_txt); kernel_rfl; decide +kernel))
    go_ret2
    obtain ⟨b1, b2, b3⟩ := unhide HBAD _ ((unhide NA).drewN 1) (by rw [unhide HE]; decide)
    exact ⟨by rw [b2, unhide HE]; rfl, b1, b3⟩
  have e3' : (m.id != c.k.nextTheirs) = false := by simpa using e3
  by_cases e4 : m.expiry = 0
  · have he : hearAddErr c m = 131 := by unfold hearAddErr; rw [if_neg e1, if_neg e2, if_neg e3, if_pos e4]
    rw [e4] at m36
    have HE := hide he
    clear he e1 e1' e2 e3
    go_wp2_with (first | ((with_reducible apply tp); rfl; rfl; intro _ _ _) | ((with_reducible apply tr); rfl; intro _ _) | ((with_reducible apply te); rfl; intro _ _) | (with_reducible rfl) | (with_reducible apply tn) | ((with_reducible apply wp_txt); kernel_rfl; decide +kernel))
    go_ret2
    obtain ⟨b1, b2, b3⟩ := unhide HBAD _ ((unhide NA).drewN 1) (by rw [unhide HE]; decide)
    exact ⟨by rw [b2, unhide HE]; rfl, b1, b3⟩
  have e4' : (m.expiry == 0) = false := by simpa using e4
  have hmn := fun (W : World) (q : Q wA W) => manyC_any g S c false W ⟨lv, nv, av, (unhide HA).upd (q.upd (fun _ => False)) (fun _ _ h => h)⟩
  have HMN := hide hmn
  clear hmn
  go_wp2_with (first | ((with_reducible apply tp); rfl; rfl; intro _ _ _) | ((with_reducible apply tr); rfl; intro _ _) | ((with_reducible apply te); rfl; intro _ _) | (with_reducible rfl) | (with_reducible apply tn) | ((with_reducible apply wp_txt); kernel_rfl; decide +kernel))
  refine (unhide HMN _ ((Q.refl _).drewN' 1)).mono ?_
  rintro e w1 ⟨rfl, n1'⟩
  have n1 : New wA w1 := n1'.ofDrew
  have c46' := n1.cell c46 (fun h => h)
  have m3' := n1.cell m3 (fun h => h)
  have hNA1 := (unhide NA).trans n1
  have hA1 := n1.old (unhide BA) (fun h => h)
  have hP1 := (unhide HA).new n1
  have N1 := hide hNA1
  have A1 := hide hA1
  have P1 := hide hP1
  clear c46 c41 c43 m3 m2 m36 HMN n1 n1' hNA1 hA1 hP1
  by_cases e5 : 8 ≤ manyL false c.xs
  · have he : hearAddErr c m = 130 := by unfold hearAddErr; rw [if_neg e1, if_neg e2, if_neg e3, if_neg e4, if_pos e5]
    have e5' : 8 ≤ (manyL false c.xs : Int) := by omega
    have HE := hide he
    clear he e1 e1' e2 e3
    go_wp2_with (first | ((with_reducible apply tp); rfl; rfl; intro _ _ _) | ((with_reducible apply tr); rfl; intro _ _) | ((with_reducible apply te); rfl; intro _ _) | (with_reducible rfl) | (with_reducible apply tn) | ((with_reducible apply wp_txt); kernel_rfl; decide +kernel))
    go_ret2
    obtain ⟨b1, b2, b3⟩ := unhide HBAD _ (unhide N1) (by rw [unhide HE]; decide)
    exact ⟨by rw [b2, unhide HE]; rfl, b1, b3⟩
  have e5' : ¬ 8 ≤ (manyL false c.xs : Int) := by omega
  by_cases e6 : c.rem < m.amount
  · have he : hearAddErr c m = 61 := by unfold hearAddErr; rw [if_neg e1, if_neg e2, if_neg e3, if_neg e4, if_neg e5, if_pos e6]
    have HE := hide he
    clear he e1 e1' e2 e3
    go_wp2_with (first | ((with_reducible apply tp); rfl; rfl; intro _ _ _) | ((with_reducible apply tr); rfl; intro _ _) | ((with_reducible apply te); rfl; intro _ _) | (with_reducible rfl) | (with_reducible apply tn) | ((with_reducible apply wp_txt); kernel_rfl; decide +kernel))
    go_ret2
    obtain ⟨b1, b2, b3⟩ := unhide HBAD _ ((unhide N1).drewN 1) (by rw [unhide HE]; decide)
    exact ⟨by rw [b2, unhide HE]; rfl, b1, b3⟩
  have he : hearAddErr c m = 0 := by unfold hearAddErr; rw [if_neg e1, if_neg e2, if_neg e3, if_neg e4, if_neg e5, if_neg e6]
  have hoe : c.hearAdd m = (c.added m, 0) := by unfold Ch.hearAdd; rw [if_pos he]
  have HO := hide hoe
  have hid : m.id = c.k.nextTheirs := by simpa using e3
  clear hoe he e1 e1' e2 e3 HBAD
  go_upto_region 11 with (first | ((with_reducible apply tp); rfl; rfl; intro _ _ _) | ((with_reducible apply tr); rfl; intro _ _) | ((with_reducible apply te); rfl; intro _ _) | (with_reducible rfl) | (with_reducible apply tn) | ((with_reducible apply wp_txt); kernel_rfl; decide +kernel))
  have nd : New w1 w1.drew := (Upd.refl _ _).drew
  have N2 := hide ((unhide N1).trans nd)
  have A2 := hide (nd.old (unhide A1) (fun h => h))
  have P2 := hide ((unhide P1).new nd)
  clear c46' m3' N1 A1 P1 nd
  generalize w1.drew = w2 at N2 A2 P2 ⊢
  obtain ⟨m0, m1, m2, m3, m36, m37, m4⟩ := msg_at m (w := w2) (unhide A2) hm.len
  rw [hid] at m2
  clear m0 m1 m37
  have hw1A := unhide A2
  have hP1 := unhide P2
  obtain ⟨K, hK⟩ : ∃ K : List Value, K = .int .u64 c.k.nextTheirs :: .int .u64 m.amount :: (m.hash.map (Value.int .u8) ++ [.int .i64 m.expiry]) := ⟨_, rfl⟩
  have hKl : K.length = 35 := by rw [hK]; simp [hm.len]
  have hKc : K = htlcCells (addLive m).h := by
    rw [hK, ← hid]
    show _ = Value.int .u64 m.id :: .int .u64 m.amount :: ((hvec m.hash).toList.map (Value.int .u8) ++ [.int .i64 m.expiry])
    rw [hvec_list hm.len]
  have hHl : (m.hash.map (Value.int .u8)).length = 32 := by simp [hm.len]
  have hbh : ∀ W : World, (bdHtl #[(0, .int .u64 c.k.nextTheirs), (1, .int .u64 m.amount), (2, .agg (m.hash.map (Value.int .u8)).toArray), (3, .int .i64 m.expiry)]).run Tryz.prog W = .ok (.agg K.toArray) W := fun W => by
    rw [bd_htl, if_pos hHl, hK]
  have nD : New w2 (w2.alloc (.cells (htlcCells Htlc.zero).toArray 79)) := (Upd.refl _ _).alloc _
  have hbD : (w2.alloc (.cells (htlcCells Htlc.zero).toArray 79)).heap[w2.heap.size]? = some (.cells (htlcCells Htlc.zero).toArray 79 (0, 0)) := blk_alloc w2 _
  have hEl : w.heap.size ≤ w2.heap.size := (unhide N2).size
  have hgE : g ≠ w2.heap.size := by have := blk_lt hP1.at_; omega
  have hAE : A ≠ w2.heap.size := by have := blk_lt hw1A; omega
  have hKone : ∀ v ∈ K, v.oneCell' = true := by rw [hKc]; exact htlc_one _
  have hst : stOk (w2.alloc (.cells (htlcCells Htlc.zero).toArray 79)) w2.heap.size 0 35 K.toArray = true := stOk_all (C := (htlcCells Htlc.zero).toArray) hbD (by rw [hKl]; rfl) hKone
  have hbE : ((w2.alloc (.cells (htlcCells Htlc.zero).toArray 79)).setCells w2.heap.size 0 K).heap[w2.heap.size]? = some (.cells K.toArray 79 (0, 0)) := by
    rw [blk_setCells hbD 0 K, layIn_whole _ _ (by rw [hKl]; rfl)]
  have uE : Upd (· = w2.heap.size) (w2.alloc (.cells (htlcCells Htlc.zero).toArray 79)) ((w2.alloc (.cells (htlcCells Htlc.zero).toArray 79)).setCells w2.heap.size 0 K) := (Upd.refl _ _).setCells 0 K
  have nw3 : New w2 ((w2.alloc (.cells (htlcCells Htlc.zero).toArray 79)).setCells w2.heap.size 0 K) := nD.then uE (fun i hi e => by omega)
  have P3 := hide (hP1.new nw3)
  have A3 := hide (nw3.old hw1A (fun h => h))
  have E3 := hide hbE
  have NW := hide ((unhide N2).trans nw3)
  have HK := hide hK
  have HKC := hide hKc
  clear hw1A hP1 nD hbD hKone hbE uE nw3 hK hKc
  go_upto_region 12 with (first | ((with_reducible apply tp); rfl; rfl; intro _ _ _) | ((with_reducible apply tr); rfl; intro _ _) | ((with_reducible apply te); rfl; intro _ _) | (with_reducible rfl) | (with_reducible apply tn) | ((with_reducible apply wp_txt); kernel_rfl; decide +kernel))
  clear hst hbh m4 m2 m36 m3
  obtain ⟨E, hE⟩ : ∃ E, E = w2.heap.size := ⟨_, rfl⟩
  rw [← hE] at hEl hgE hAE E3 A3 P3 NW ⊢
  generalize (w2.alloc (.cells (htlcCells Htlc.zero).toArray 79)).setCells E 0 K = w3 at P3 A3 E3 NW ⊢
  clear hE
  -- the base, the number
  have hP3 := unhide P3
  have c46 : w3.cell? ⟨g, 46, none⟩ = some (.int .u64 c.rem) := hP3.toR.rem
  have f46 : w3.frozen? ⟨g, 46, none⟩ = false := blk_free hP3.at_ 46
  obtain ⟨-, -, -, m3, -, -, -⟩ := msg_at m (unhide A3) hm.len
  have hlo := hP3.ok.rem
  have hno := hP3.ok.nextTheirs
  have hma := hm.amount
  have hw1 : IntKind.u64.wrap (c.rem - m.amount) = c.rem - m.amount := wrapU (by omega) (by omega)
  obtain ⟨c1, hc1⟩ : ∃ c1 : Ch, c1 = { c with rem := c.rem - m.amount } := ⟨_, rfl⟩
  have hok1 : c1.Ok := by
    rw [hc1]
    exact ⟨hP3.ok.s, hP3.ok.signed, hP3.ok.heard, hP3.ok.nextOwn, hP3.ok.nextTheirs, hP3.ok.loc, show 0 ≤ c.rem - m.amount ∧ c.rem - m.amount < _ by omega, hP3.ok.xs, hP3.ok.few, hP3.ok.shelf, hP3.ok.news, hP3.ok.last, hP3.ok.many⟩
  have hP4 := hP3.put (i := 46) (x := .int .u64 (c.rem - m.amount)) (c' := c1) (by rw [hc1]; exact set_rem c lv nv av hP3.ok.s.seed (c.rem - m.amount)) hok1 (by rw [hc1]) (by rw [hc1]) (by rw [hc1])
  have u4 : Upd (· = g) w3 (w3.setCell ⟨g, 46, none⟩ (.int .u64 (c.rem - m.amount))) := (Upd.refl _ _).set1 46 _
  have P4 := hide hP4
  have A4 := hide (u4.old (unhide A3) (fun e => hgA e.symm))
  have E4 := hide (u4.old (unhide E3) (fun e => hgE e.symm))
  have U4 := hide (((unhide NW).mono (fun _ _ h => h.elim)).trans (u4.mono (fun k _ e => by rw [e]; exact (unhide H0).inG)) : Upd S w _)
  clear hP3 hok1 hP4 u4 P3 A3 E3 NW
  go_upto_region 13 with (first | ((with_reducible apply tp); rfl; rfl; intro _ _ _) | ((with_reducible apply tr); rfl; intro _ _) | ((with_reducible apply te); rfl; intro _ _) | (with_reducible rfl) | (with_reducible apply tn) | ((with_reducible apply wp_txt); kernel_rfl; decide +kernel))
  clear c46 f46 hw1 m3
  generalize w3.setCell ⟨g, 46, none⟩ (.int .u64 (c.rem - m.amount)) = w4 at P4 A4 E4 U4 ⊢
  have hP4 := unhide P4
  have hk1 : c1.k = c.k := by rw [hc1]
  have c41 : w4.cell? ⟨g, 41, none⟩ = some (.int .u64 c.k.nextTheirs) := by rw [← hk1]; exact hP4.toR.nextTheirs
  have f41 : w4.frozen? ⟨g, 41, none⟩ = false := blk_free hP4.at_ 41
  obtain ⟨N1', hN1⟩ : ∃ x, x = IntKind.u64.wrap (c.k.nextTheirs + 1) := ⟨_, rfl⟩
  have hN1b : 0 ≤ N1' ∧ N1' < 18446744073709551616 := by rw [hN1, IntKind.wrap_u64]; omega
  have hww : IntKind.u64.wrap (c.k.nextTheirs + 1) = N1' := hN1.symm
  obtain ⟨c2, hc2⟩ : ∃ c2 : Ch, c2 = { c1 with k := { c1.k with nextTheirs := N1' } } := ⟨_, rfl⟩
  have hok2 : c2.Ok := by
    rw [hc2]
    exact ⟨hP4.ok.s, hP4.ok.signed, hP4.ok.heard, hP4.ok.nextOwn, hN1b, hP4.ok.loc, hP4.ok.rem, hP4.ok.xs, hP4.ok.few, hP4.ok.shelf, hP4.ok.news, hP4.ok.last, hP4.ok.many⟩
  have hP5 := hP4.put (i := 41) (x := .int .u64 N1') (c' := c2) (by rw [hc2]; exact set_nextTheirs c1 lv nv av hP4.ok.s.seed N1') hok2 (by rw [hc2]) (by rw [hc2]) (by rw [hc2])
  have u5 : Upd (· = g) w4 (w4.setCell ⟨g, 41, none⟩ (.int .u64 N1')) := (Upd.refl _ _).set1 41 _
  have P5 := hide hP5
  have E5 := hide (u5.old (unhide E4) (fun e => hgE e.symm))
  have U5 := hide ((unhide U4).trans (u5.mono (fun k _ e => by rw [e]; exact (unhide H0).inG)))
  have HC1 := hide hc1
  have HC2 := hide hc2
  have HN1 := hide hN1
  clear hP4 hok2 hP5 u5 P4 A4 E4 U4 hc1 hc2 hN1
  go_upto_region 14 with (first | ((with_reducible apply tp); rfl; rfl; intro _ _ _) | ((with_reducible apply tr); rfl; intro _ _) | ((with_reducible apply te); rfl; intro _ _) | (with_reducible rfl) | (with_reducible apply tn) | ((with_reducible apply wp_txt); kernel_rfl; decide +kernel))
  clear c41 f41 hww
  generalize w4.setCell ⟨g, 41, none⟩ (.int .u64 N1') = w5' at P5 E5 U5 ⊢
  have nd5 : New w5' w5'.drew := (Upd.refl _ _).drew
  replace P5 := hide ((unhide P5).new nd5)
  replace E5 := hide (nd5.old (unhide E5) (fun h => h))
  replace U5 := hide ((unhide U5).trans (nd5.mono (fun _ _ h => h.elim)))
  clear nd5
  generalize w5'.drew = w5 at P5 E5 U5 ⊢
  have hP5 := unhide P5
  have c47 : w5.drew.cell? ⟨g, 47, none⟩ = some lv := hP5.toR.live
  have rE : rowN w5 E 0 35 = some K.toArray := rowN_whole (unhide E5) 35 (by rw [List.size_toArray, hKl])
  obtain ⟨L, hL⟩ : ∃ L : List Value, L = K ++ ([.bool false, .int .i64 0, .bool false] : List Value) := ⟨_, rfl⟩
  have hLl : L.length = 38 := by rw [hL]; simp [hKl]
  have hLc : L = liveCells (addLive m) := by rw [hL, unhide HKC]; rfl
  have hbd : ∀ W : World, (bdLiv #[(0, .agg K.toArray), (2, .int .i64 0)]).run Tryz.prog W = .ok (.agg L.toArray) W := fun W => by rw [bd_liv2, if_pos hKl, hL]
  obtain ⟨i9, z9, b9, hi9, hz9, hz0, hz1, hz2, hb9⟩ := live_info'
  obtain ⟨la, lcap, hlv⟩ := own_shape' hP5.live
  have hx2 : c2.xs = c.xs := by rw [unhide HC2, unhide HC1]
  have nF : New w5 (w5.alloc (.cells L.toArray 81)).drew := ((Upd.refl _ _).alloc _).drew
  have hbF : (w5.alloc (.cells L.toArray 81)).drew.heap[w5.heap.size]? = some (.cells L.toArray 81 (0, 0)) := blk_alloc w5 _
  have P6 := hide (hP5.new nF)
  have U6 := hide ((unhide U5).trans (nF.mono (fun _ _ h => h.elim)))
  have c47' := nF.cell c47 (fun h => h)
  have hDl : w.heap.size ≤ w5.heap.size := by have := blk_lt (unhide E5); omega
  have HL := hide hL
  have HLC := hide hLc
  have HX2 := hide hx2
  clear hP5 P5 E5 U5 hL hLc hx2
  refine wp_plan (fun w' => w'.cell? ⟨g, 47, none⟩ = some lv) [4] (.of [0, 1, 2, 3, 4, 5, 6, 7, 8, 9, 10, 11]) (by kernel_rfl) (by kernel_rfl) c47 ?_
  simp only [Plan.of]
  go_wp2_with (first | ((with_reducible apply qp); rfl; rfl; rfl; intro _ _ _) | ((with_reducible apply qc); rfl; rfl; rfl; with_reducible assumption; intro _ hC _ _) | ((with_reducible apply qr); rfl; rfl; intro _ _) | ((with_reducible apply qd); rfl; rfl; decide +kernel; intro _ _) | ((with_reducible apply qe); rfl; rfl; intro _ _) | (with_reducible rfl) | (with_reducible apply qn))
  refine ⟨trivial, ?_⟩
  clear c47 nF rE hbd
  generalize (w5.alloc (.cells L.toArray 81)).drew = w6 at hbF P6 U6 c47' ⊢
  generalize w5.heap.size = D at hbF hDl ⊢
  have hlive := (unhide P6).live
  unfold LivesO at hlive
  rw [hlv] at hlive
  have HN := hide hlive
  clear hlive
  have hfx : c2.xs.length < 1000000 := by rw [unhide HX2]; exact hfew
  go_wp2_with (first | (at_builtin; refine wpList_append_own_at _ rfl (.tmp 77) (.tmp 80) 43 rfl 0 81 i9 _ 38 b9 Tryz.underlying43 hi9 hz9 hz0 hz1 hz2 (by decide) _ _ _ rfl (unhide HN) ⟨D, 0, none⟩ 1 1 L rfl (by rw [hLl]) ?c1 ?c2 ?c3 ?c4 ?c5 ?_) | (first | ((with_reducible apply qp); rfl; rfl; rfl; intro _ _ _) | ((with_reducible apply qc); rfl; rfl; rfl; with_reducible assumption; intro _ hC _ _) | ((with_reducible apply qr); rfl; rfl; intro _ _) | ((with_reducible apply qd); rfl; rfl; decide +kernel; intro _ _) | ((with_reducible apply qe); rfl; rfl; intro _ _) | (with_reducible rfl) | (with_reducible apply qn)))
  case c1 => exact World.news_of_block (cs := L.toArray) (fr := (0, 0)) hbF
  case c2 => rw [unhide HLC]; exact live_one _
  case c3 => unfold maxLen; omega
  case c4 => have := Nat.mul_le_mul (show c2.xs.length + 1 ≤ 1000000 by omega) hb9; omega
  case c5 => omega
  intro v' wE hown' hgr _ hblk
  obtain ⟨a', cap', hv'⟩ := own_shape' hown'
  rw [← hlv] at hgr hblk
  have hxo : LiveOk (addLive m) := ⟨⟨⟨hm.id.1, by have := hm.id.2; show m.id ≤ _; omega⟩, ⟨hm.amount.1, by show m.amount ≤ _; omega⟩, by rw [show (addLive m).h.hash = hvec m.hash from rfl, hvec_list hm.len]; exact hm.hash, hm.expiry⟩, ⟨by show (-9223372036854775808 : Int) ≤ 0; decide, by show (0 : Int) ≤ 9223372036854775807; decide⟩⟩
  have hap := (unhide P6).appLive (addLive m) hxo hfx v' (by rw [← unhide HLC]; exact hown') hgr hblk
  have uE : Upd (fun k => lv.ownBlock = some k) w6 wE := (Upd.refl _ _).grown hgr (fun k hk _ => hk)
  have hatE := uE.old (unhide P6).at_ (fun e => by
    obtain ⟨cur, hc⟩ := own_blk' (unhide P6).live g e
    exact apart_ty' (unhide P6).at_ hc (by decide) rfl)
  have f47 : wE.frozen? ⟨g, 47, none⟩ = false := blk_free hatE 47
  have c47E : wE.cell? ⟨g, 47, none⟩ = some lv := uE.cell c47' (fun e => by
    obtain ⟨cur, hc⟩ := own_blk' (unhide P6).live g e
    exact apart_ty' (unhide P6).at_ hc (by decide) rfl)
  have U7 := hide ((unhide U6).trans hap.2)
  have P7 := hide hap.1
  have hz6 := hide (unhide U6).size
  rw [hv'] at U7 P7
  clear hown' hgr hblk hap uE hatE c47' hbF HN
  rw [hv']
  clear hv'
  go_wp2_with (first | ((with_reducible apply qp); rfl; rfl; rfl; intro _ _ _) | ((with_reducible apply qc); rfl; rfl; rfl; with_reducible assumption; intro _ hC _ _) | ((with_reducible apply qr); rfl; rfl; intro _ _) | ((with_reducible apply qd); rfl; rfl; decide +kernel; intro _ _) | ((with_reducible apply qe); rfl; rfl; intro _ _) | (with_reducible rfl) | (with_reducible apply qn))
  go_ret2
  have hce : ({ c2 with xs := c2.xs ++ [addLive m] } : Ch) = c.added m := by
    rw [unhide HC2, unhide HC1, unhide HN1]
    rfl
  have hP7 := unhide P7
  rw [hce] at hP7
  rw [unhide HO]
  refine ⟨rfl, ⟨_, _, _, hP7.wider (fun k hk => ?_) (fun k hk => ?_)⟩, unhide U7⟩
  · have := unhide hz6
    rcases hk with hk | hk
    · exact .inl hk
    · exact .inr ⟨by omega, hk.2⟩
  · rcases hk with hk | hk
    · exact hP7.lt k (.inl hk)
    · exact hk.2

end Go.Proofs.YtjpmomdechibmaaGreatDoor
