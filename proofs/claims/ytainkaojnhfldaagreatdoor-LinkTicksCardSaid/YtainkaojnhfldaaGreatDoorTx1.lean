/-
  view.Text.
-/
import Derived.Test.YtainkaojnhfldaaGreatDoorMcf
import Derived.Test.YtainkaojnhfldaaGreatDoorTxt
set_option linter.unusedVariables false
set_option linter.unusedSimpArgs false
namespace Go.Proofs.YtainkaojnhfldaaGreatDoor
open Go.RowKit Go.Sort

/-- The text of a view, as it is written. -/
def itStep (s : ByteArray) (x : Item) : ByteArray := s ++ numS (if x.offered then 1 else 0) 1 ++ numS x.h.id.toNat 8 ++ numS x.h.amount.toNat 8 ++ strOfNums x.h.hash.toList ++ numS (x.h.expiry % 18446744073709551616).toNat 8
def headS (ch n A B : Int) (m : Nat) : ByteArray := numS ch.toNat 4 ++ numS (n % 18446744073709551616).toNat 8 ++ numS A.toNat 8 ++ numS B.toNat 8 ++ numS (m % 65536) 2
def textS (ch n A B : Int) (X : List Item) : ByteArray := X.foldl itStep (headS ch n A B X.length)
theorem itStep_size (s : ByteArray) (x : Item) : (itStep s x).size = s.size + 57 := by
  unfold itStep
  simp only [ByteArray.size_append, numS_size, strOfNums_size]
  simp
theorem headS_size (ch n A B : Int) (m : Nat) : (headS ch n A B m).size = 30 := by
  unfold headS
  simp only [ByteArray.size_append, numS_size]
theorem fold_size (X : List Item) : ∀ s : ByteArray, (X.foldl itStep s).size = s.size + 57 * X.length := by
  induction X with
  | nil => intro s; simp
  | cons x X ih => intro s; rw [List.foldl_cons, ih, itStep_size, List.length_cons]; omega
theorem fold_take (X : List Item) (s : ByteArray) {k : Nat} {x : Item} (h : X[k]? = some x) : (X.take (k + 1)).foldl itStep s = itStep ((X.take k).foldl itStep s) x := by
  rw [List.take_add_one, h]
  simp
def zItem : Array Value := (.bool false :: .int .u64 0 :: .int .u64 0 :: (List.replicate 32 (.int .u8 0) ++ [.int .i64 0]) : List Value).toArray
theorem empty_app (s : ByteArray) : (ByteArray.mk #[]) ++ s = s := by
  apply ByteArray.ext
  simp
theorem item_cell (x : Item) (i : Nat) (hi : i < 36) {w : World} {b : Nat} {T : TypeId} {fz : Nat × Nat} (h : w.heap[b]? = some (.cells (itemCells x).toArray T fz)) : w.cell? ⟨b, i, none⟩ = (itemCells x)[i]? := by
  rw [blk_cell h, List.getElem?_toArray]
theorem hash_row (x : Item) {w : World} {b : Nat} {T : TypeId} {fz : Nat × Nat} (h : w.heap[b]? = some (.cells (itemCells x).toArray T fz)) : rowN w b 3 32 = some (x.h.hash.toList.map (Value.int .u8)).toArray := by
  rw [rowN_blk h 3 32 (by simp [item_len])]
  congr 1
  apply Array.ext'
  rw [Array.toList_extract]
  unfold itemCells htlcCells
  simp
theorem item_35 (x : Item) : (itemCells x)[35]? = some (.int .i64 x.h.expiry) := by
  unfold itemCells htlcCells
  rw [List.getElem?_cons_succ, List.getElem?_cons_succ, List.getElem?_cons_succ, List.getElem?_append_right (by simp)]
  simp

theorem Tryz.infoHashT : (Tryz.prog.info? 32).map (·.size) = some 32 := by kernel_rfl
def ldHashT (x : Value) : Sem Value := Instr.loadAt 32 x
theorem ld_hasht_fold (x : Value) : Instr.loadAt 32 x = ldHashT x := rfl
theorem ld_hasht (b o : Nat) (w : World) : (ldHashT (.pointer (some ⟨b, o, none⟩))).run Tryz.prog w = match rowN w b o 32 with | some A => .ok (.agg A) w | none => slowLd Tryz.prog 32 w b o :=
  run_loadAt_rowN 32 32 _ Tryz.underlying32 rfl Tryz.infoHashT b o w
attribute [local go_sem ↓ high] ld_item_fold ld_hasht_fold
attribute [local go_sem] ld_item ld_hasht

set_option maxRecDepth 100000 in
set_option maxHeartbeats 4000000 in
theorem text_any (ch n A B : Int) (u : Value) (X : List Item) (hl : X.length ≤ 1048576) (hok : ∀ x ∈ X, HtlcOk x.h) (w : World) (hc : 0 ≤ ch ∧ ch < 4294967296) (hn : -9223372036854775808 ≤ n ∧ n ≤ 9223372036854775807)
    (hA : 0 ≤ A ∧ A < 18446744073709551616) (hB : 0 ≤ B ∧ B < 18446744073709551616) (hu : ItemsR w u X) :
    Calls Tryz.prog 97 #[.int .u32 ch, .int .i64 n, .agg #[.int .u64 A, .int .u64 B, u]] w (Makes (.string (textS ch n A B X)) w) := by
  obtain ⟨a, c, rfl⟩ := hu.slice
  go_enter Tryz.func97, Tryz.ntmps97
  go_upto_region 2 with fail
  have n0 : New w ((w.alloc (.cells #[.int .u64 A, .int .u64 B, .slice a X.length c] 152)).alloc (.cells #[.string ⟨#[]⟩] 144)) := ((Upd.refl _ _).alloc _).alloc _
  have hb : ((w.alloc (.cells #[.int .u64 A, .int .u64 B, .slice a X.length c] 152)).alloc (.cells #[.string ⟨#[]⟩] 144)).heap[w.heap.size]? = some (.cells #[.int .u64 A, .int .u64 B, .slice a X.length c] 152 (0, 0)) := blk_alloc_old (blk_alloc _ _) _
  have hg : Wr ((w.alloc (.cells #[.int .u64 A, .int .u64 B, .slice a X.length c] 152)).alloc (.cells #[.string ⟨#[]⟩] 144)) (w.heap.size + 1) ⟨#[]⟩ := by
    have := blk_alloc (w.alloc (.cells #[.int .u64 A, .int .u64 B, .slice a X.length c] 152)) (.cells #[.string ⟨#[]⟩] 144)
    rwa [World.size_alloc] at this
  generalize (w.alloc (.cells #[.int .u64 A, .int .u64 B, .slice a X.length c] 152)).alloc (.cells #[.string ⟨#[]⟩] 144) = w1 at n0 hb hg ⊢
  have HA := hide hA
  have HB := hide hB
  obtain ⟨nn, hnn⟩ : ∃ nn : Int, nn = n % 18446744073709551616 := ⟨_, rfl⟩
  have HNB := hide (show 0 ≤ nn ∧ nn < 18446744073709551616 by omega)
  have hwn : IntKind.u64.wrap n = nn := by rw [IntKind.wrap_u64, hnn]
  have hhead : headS ch n A B X.length = numS ch.toNat 4 ++ numS nn.toNat 8 ++ numS A.toNat 8 ++ numS B.toNat 8 ++ numS (X.length % 65536) 2 := by rw [hnn]; rfl
  have HHEAD := hide hhead
  obtain ⟨hc0, hc1⟩ := hc
  have s4 := fun x => numS_size x 4
  have s8 := fun x => numS_size x 8
  have HS4 := hide s4
  have HS8 := hide s8
  clear hnn hhead hA hB hn s4 s8
  have hgw : w.heap.size + 1 < w1.heap.size := hg.lt
  have hlx : (X.length : Int) ≤ 1048576 := by omega
  obtain ⟨G, hG⟩ : ∃ G, G = w.heap.size + 1 := ⟨_, rfl⟩
  rw [← hG] at hg hgw ⊢
  have hGB : w.heap.size < G := by omega
  clear hG
  go_wp2_with fail
  refine (number_4 G ch ⟨#[]⟩ w1 hg hc0 hc1 (by decide)).mono ?_
  rintro e w2 ⟨rfl, u2, g2⟩
  rw [empty_app] at g2
  replace hb := u2.old hb (by omega)
  replace n0 := n0.then u2 (fun q hq h => by omega)
  clear hg u2 hc0 hc1
  have z2 : (numS ch.toNat 4).size = 4 := unhide HS4 _
  generalize numS ch.toNat 4 = t4 at g2 z2 HHEAD
  have e0 := blk_cell hb 0
  have e1 := blk_cell hb 1
  have e2 := blk_cell hb 2
  simp at e0 e1 e2
  go_wp2_with fail
  refine (number_8 G nn t4 w2 g2 (unhide HNB).1 (unhide HNB).2 (by omega)).mono ?_
  rintro e w3 ⟨rfl, u3, g3⟩
  replace hb := u3.old hb (by omega)
  replace n0 := n0.then u3 (fun q hq h => by omega)
  clear e0 e1 e2 g2 u3
  have z3 : (t4 ++ numS nn.toNat 8).size = 12 := by rw [ByteArray.size_append, z2, unhide HS8]
  generalize t4 ++ numS nn.toNat 8 = t5 at g3 z3 HHEAD
  have e0 := blk_cell hb 0
  have e1 := blk_cell hb 1
  have e2 := blk_cell hb 2
  simp at e0 e1 e2
  go_wp2_with fail
  refine (number_8 G A t5 w3 g3 (unhide HA).1 (unhide HA).2 (by omega)).mono ?_
  rintro e w4 ⟨rfl, u4, g4⟩
  replace hb := u4.old hb (by omega)
  replace n0 := n0.then u4 (fun q hq h => by omega)
  clear e0 e1 e2 g3 u4
  have z4 : (t5 ++ numS A.toNat 8).size = 20 := by rw [ByteArray.size_append, z3, unhide HS8]
  generalize t5 ++ numS A.toNat 8 = t6 at g4 z4 HHEAD
  have e0 := blk_cell hb 0
  have e1 := blk_cell hb 1
  have e2 := blk_cell hb 2
  simp at e0 e1 e2
  go_wp2_with fail
  refine (number_8 G B t6 w4 g4 (unhide HB).1 (unhide HB).2 (by omega)).mono ?_
  rintro e w5 ⟨rfl, u5, g5⟩
  replace hb := u5.old hb (by omega)
  replace n0 := n0.then u5 (fun q hq h => by omega)
  clear e0 e1 e2 g4 u5
  have z5 : (t6 ++ numS B.toNat 8).size = 28 := by rw [ByteArray.size_append, z4, unhide HS8]
  generalize t6 ++ numS B.toNat 8 = t7 at g5 z5 HHEAD
  have e0 := blk_cell hb 0
  have e1 := blk_cell hb 1
  have e2 := blk_cell hb 2
  simp at e0 e1 e2
  go_wp2_with fail
  refine (number_2 G _ t7 w5 g5 (by omega) (by omega) (by omega)).mono ?_
  rintro e w6 ⟨rfl, u6, g6⟩
  replace hb := u6.old hb (by omega)
  replace n0 := n0.then u6 (fun q hq h => by omega)
  clear e0 e1 e2 g5 u6
  have hx1 : ((X.length : Int) % 65536).toNat = X.length % 65536 := by omega
  rw [hx1, ← unhide HHEAD] at g6
  have zh := headS_size ch n A B X.length
  have htx : textS ch n A B X = X.foldl itStep (headS ch n A B X.length) := rfl
  generalize headS ch n A B X.length = hd at g6 zh htx
  have HTX := hide htx
  clear hx1 htx z2 z3 z4 z5 HHEAD HS4 hwn HNB HA HB
  have e2 := blk_cell hb 2
  simp at e2
  go_wp2_with fail
  clear e2
  obtain ⟨wo, rfl⟩ : ∃ wo : World, wo = w6 := ⟨_, rfl⟩
  have HU := hide hu
  clear hu
  go_loopw [9, 38] (fun _ iv wr => ∃ k : Nat, iv = .int .i64 (k : Int) ∧ k ≤ X.length ∧ Wr wr G ((X.take k).foldl itStep hd) ∧ New w wr) (fun _ iv _ => X.length - (intOf iv).toNat)
  case atStart => exact ⟨0, rfl, Nat.zero_le _, g6, n0⟩
  case round =>
    clear g6 n0
    obtain ⟨k, rfl, hk, gk, nk⟩ := hrel
    obtain ⟨wq, rfl⟩ : ∃ wq : World, wq = wr := ⟨_, rfl⟩
    by_cases hlt : k < X.length
    · obtain ⟨x, hx⟩ : ∃ x, X[k]? = some x := ⟨_, List.getElem?_eq_getElem hlt⟩
      obtain ⟨b, off, rfl, -, hrow⟩ := ((unhide HU).new nk).at hx
      have hxok := hok x (List.mem_of_getElem? hx)
      have hfold := fold_take X hd hx
      have hsz := fold_size (X.take k) hd
      rw [zh, List.length_take, Nat.min_eq_left hk] at hsz
      have hk0 : (k : Int) < (X.length : Int) := by omega
      have hGw := gk.lt
      generalize (X.take k).foldl itStep hd = s0 at gk hfold hsz
      have HF := hide hfold
      have HXO := hide hxok
      clear hx hfold hxok
      go_upto_region 9 with fail
      refine wp_region_lit ?_
      refine wpList_val rfl (v := .pointer (some ⟨b, off + k * 36, none⟩)) (w' := wq) (by simp only [execOp]; go_simp) ?_
      refine wpList_val rfl (v := .agg (itemCells x).toArray) (w' := wq) (by simp only [execOp]; go_simp) ?_
      refine wpList_val rfl (v := .pointer (some ⟨wq.heap.size, 0, none⟩)) (w' := wq.alloc (.cells zItem 192)) (by kernel_rfl) ?_
      have n1 : New wq (wq.alloc (.cells zItem 192)) := (Upd.refl _ _).alloc _
      have hb1 : (wq.alloc (.cells zItem 192)).heap[wq.heap.size]? = some (.cells zItem 192 (0, 0)) := blk_alloc _ _
      generalize wq.alloc (.cells zItem 192) = w1a at n1 hb1 ⊢
      refine wpList_store_row rfl _ _ _ rfl wq.heap.size (itemCells x).toArray (by kernel_rfl) (by kernel_rfl) 192 _ hb1 (by rw [List.size_toArray, item_len]; exact Tryz.infoItem) (by have h9 : zItem.size = 36 := rfl; rw [h9]; simp [item_len]) (by rw [List.all_toArray, List.all_eq_true]; exact item_one x) ?_
      have hI := setRow_heap w1a wq.heap.size _ (itemCells x).toArray 192 (0, 0) hb1
      have n2 : New wq (w1a.setRow wq.heap.size (itemCells x).toArray) := n1.setRow (fun h => by omega) _
      generalize w1a.setRow wq.heap.size (itemCells x).toArray = w2a at hI n2 ⊢
      replace gk := gk.new n2
      replace nk := nk.trans n2
      have hIG : G < wq.heap.size := hGw
      have hIw : w.heap.size ≤ wq.heap.size := by omega
      generalize wq.heap.size = I at hI hIG hIw ⊢
      clear n1 hb1 n2 hrow
      have hrw := rowN_whole hI 36 (by simp [item_len])
      have hof : (itemCells x)[0]? = some (.bool x.offered) := rfl
      have hrk := rank_any x.offered (itemCells x).toArray w2a (by rw [List.getElem?_toArray]; exact hof)
      have hri : (1 - rankI x.offered).toNat = (if x.offered then 1 else 0) ∧ 0 ≤ 1 - rankI x.offered ∧ 1 - rankI x.offered ≤ 1 ∧ 0 ≤ rankI x.offered ∧ rankI x.offered ≤ 1 := by cases x.offered <;> decide
      obtain ⟨hri0, hri1, hri2, hri3, hri4⟩ := hri
      have HRI := hide hri0
      have HRK := hide hrk
      clear hof hrk hri0
      generalize hIC : (itemCells x).toArray = IC at hrw HRK
      have HIC := hide hIC
      clear hIC
      go_wp2_with fail
      refine (unhide HRK).mono ?_
      rintro e w3a ⟨rfl, n3⟩
      have m3 := _root_.Go.Proofs.YtainkaojnhfldaaGreatDoor.G.new n3
      replace hI := m3.old hI (fun h => h)
      replace gk := gk.new m3
      replace nk := nk.trans m3
      clear m3 n3 hrw HRK
      go_wp2_with fail
      refine (number_1 G (1 - rankI x.offered) s0 w3a gk hri1 (by omega) (by omega)).mono ?_
      rintro e w4 ⟨rfl, u4, gk4⟩
      replace hI := u4.old hI (by omega)
      replace nk := nk.then u4 (fun q hq h => by omega)
      clear u4
      rw [unhide HRI] at gk4
      have y4 : (s0 ++ numS (if x.offered then 1 else 0) 1).size = 31 + 57 * k := by rw [ByteArray.size_append, hsz, numS_size]; omega
      generalize hp4 : s0 ++ numS (if x.offered then 1 else 0) 1 = p4 at gk4 y4
      have d1 := item_cell x 1 (by decide) hI
      have d2 := item_cell x 2 (by decide) hI
      have d35 := item_cell x 35 (by decide) hI
      rw [item_35] at d35
      have dh := hash_row x hI
      replace d1 : w4.cell? ⟨I, 1, none⟩ = some (.int .u64 x.h.id) := d1
      clear d2 d35 dh gk
      go_wp2_with fail
      refine (number_8 G x.h.id p4 w4 gk4 (unhide HXO).id.1 (by have := (unhide HXO).id.2; omega) (by omega)).mono ?_
      rintro e w5 ⟨rfl, u5, gk5⟩
      replace hI := u5.old hI (by omega)
      replace nk := nk.then u5 (fun q hq h => by omega)
      clear u5
      have y5 : (p4 ++ numS x.h.id.toNat 8).size = 39 + 57 * k := by rw [ByteArray.size_append, y4, unhide HS8]; omega
      generalize hp5 : p4 ++ numS x.h.id.toNat 8 = p5 at gk5 y5
      have d2 : w5.cell? ⟨I, 2, none⟩ = some (.int .u64 x.h.amount) := item_cell x 2 (by decide) hI
      clear d1 gk4
      go_wp2_with fail
      refine (number_8 G x.h.amount p5 w5 gk5 (unhide HXO).amount.1 (by have := (unhide HXO).amount.2; omega) (by omega)).mono ?_
      rintro e w6 ⟨rfl, u6, gk6⟩
      replace hI := u6.old hI (by omega)
      replace nk := nk.then u6 (fun q hq h => by omega)
      clear u6
      have y6 : (p5 ++ numS x.h.amount.toNat 8).size = 47 + 57 * k := by rw [ByteArray.size_append, y5, unhide HS8]; omega
      generalize hp6 : p5 ++ numS x.h.amount.toNat 8 = p6 at gk6 y6
      have dh := hash_row x hI
      generalize hHC : (x.h.hash.toList.map (Value.int .u8)).toArray = HC at dh
      have hcon := hide (hash_any G x.h.hash.toList p6 w6 gk6 (by simp) (by omega))
      rw [hHC] at hcon
      clear d2 gk5 hHC gk6
      go_wp2_with fail
      refine (unhide hcon).mono ?_
      rintro e w7 ⟨rfl, u7, gk7⟩
      replace hI := u7.old hI (by omega)
      replace nk := nk.then u7 (fun q hq h => by omega)
      clear u7 hcon dh
      have y7 : (p6 ++ strOfNums x.h.hash.toList).size = 79 + 57 * k := by rw [ByteArray.size_append, y6, strOfNums_size]; simp; omega
      generalize hp7 : p6 ++ strOfNums x.h.hash.toList = p7 at gk7 y7
      have d35 := item_cell x 35 (by decide) hI
      rw [item_35] at d35
      obtain ⟨ee, hee⟩ : ∃ ee : Int, ee = x.h.expiry % 18446744073709551616 := ⟨_, rfl⟩
      have HEB := hide (show 0 ≤ ee ∧ ee < 18446744073709551616 by omega)
      have hwe : IntKind.u64.wrap x.h.expiry = ee := by rw [IntKind.wrap_u64, hee]
      have HEE := hide hee
      clear hee
      go_wp2_with fail
      refine (number_8 G ee p7 w7 gk7 (unhide HEB).1 (unhide HEB).2 (by omega)).mono ?_
      rintro e w8 ⟨rfl, u8, gk8⟩
      replace hI := u8.old hI (by omega)
      replace nk := nk.then u8 (fun q hq h => by omega)
      clear u8
      have hs9 : p7 ++ numS ee.toNat 8 = (X.take (k + 1)).foldl itStep hd := by
        rw [unhide HF, ← hp7, ← hp6, ← hp5, ← hp4, unhide HEE]
        rfl
      rw [hs9] at gk8
      clear d35 hwe hp4 hp5 hp6 hp7 hs9 gk7
      go_wp2
      go_roundw
      case rel => exact ⟨k + 1, by go_num, by omega, gk8, nk⟩
      case measure => simp [intOf]; omega
    · obtain rfl : k = X.length := by omega
      rw [List.take_length, ← unhide HTX] at gk
      generalize htt : textS ch n A B X = tt at gk HTX
      have HTT := hide htt
      clear htt
      go_wp2_with fail
      refine (bytesW_any G tt wq gk).mono ?_
      rintro e w9 ⟨rfl, rfl⟩
      go_wp2
      go_ret
      exact ⟨by rw [unhide HTT]; rfl, nk⟩

end Go.Proofs.YtainkaojnhfldaaGreatDoor
