/-
  The reference's Text.
-/
import Derived.Test.YtbcjhpeighlncaaDoorTx1
namespace Go.Proofs.YtbcjhpeighlncaaDoor
set_option linter.unusedVariables false
set_option linter.unusedSimpArgs false
open Go.RowKit Go.Sort
attribute [local go_sem ↓ high] ld_item_foldR ld_hasht_fold
attribute [local go_sem] ld_itemR ld_hasht

theorem one_0 : numS 0 1 = ⟨#[0]⟩ := by decide
theorem one_1 : numS 1 1 = ⟨#[1]⟩ := by decide
set_option maxRecDepth 100000 in
set_option maxHeartbeats 4000000 in
theorem textR_any (ch n A B : Int) (u : Value) (X : List Item) (hl : X.length ≤ 1048576) (hok : ∀ x ∈ X, HtlcOk x.h) (w : World) (hc : 0 ≤ ch ∧ ch < 4294967296) (hn : -9223372036854775808 ≤ n ∧ n ≤ 9223372036854775807)
    (hA : 0 ≤ A ∧ A < 18446744073709551616) (hB : 0 ≤ B ∧ B < 18446744073709551616) (hu : ItemsR w u X) :
    Calls Tryd.prog 25 #[.int .u32 ch, .int .i64 n, .agg #[.int .u64 A, .int .u64 B, u]] w (Makes (.string (textS ch n A B X)) w) := by
  obtain ⟨a, c, rfl⟩ := hu.slice
  obtain ⟨nn, hnn⟩ : ∃ nn : Int, nn = n % 18446744073709551616 := ⟨_, rfl⟩
  have hwn : IntKind.u64.wrap n = nn := by rw [IntKind.wrap_u64, hnn]
  have hhead : headS ch n A B X.length = numS ch.toNat 4 ++ numS nn.toNat 8 ++ numS A.toNat 8 ++ numS B.toNat 8 ++ numS (X.length % 65536) 2 := by rw [hnn]; rfl
  have hC0 := hide (fun W => numR_4 ch W hc.1 hc.2)
  have C1 := hide (fun W => eight_any nn W (by omega) (by omega))
  have C2 := hide (fun W => eight_any A W hA.1 hA.2)
  have C3 := hide (fun W => eight_any B W hB.1 hB.2)
  have hC4 := fun W => numR_2 ((X.length : Int) % 65536) W (by omega) (by omega)
  rw [show ((X.length : Int) % 65536).toNat = X.length % 65536 by omega] at hC4
  have C4 := hide hC4
  have z0 := numS_size ch.toNat 4
  have z1 := numS_size nn.toNat 8
  have z2 := numS_size A.toNat 8
  have z3 := numS_size B.toNat 8
  have z4 := numS_size (X.length % 65536) 2
  have hsz : (headS ch n A B X.length).size = 30 := headS_size ch n A B X.length
  have htx : textS ch n A B X = X.foldl itStep (headS ch n A B X.length) := rfl
  obtain ⟨hc0, hc1⟩ := hc
  clear hnn hA hB hn hC4
  generalize numS ch.toNat 4 = t4 at hC0 z0 hhead
  generalize numS nn.toNat 8 = q1 at C1 z1 hhead
  generalize numS A.toNat 8 = q2 at C2 z2 hhead
  generalize numS B.toNat 8 = q3 at C3 z3 hhead
  generalize numS (X.length % 65536) 2 = t2 at C4 z4 hhead
  have HHEAD := hide hhead
  have HTX := hide htx
  clear hhead htx
  have hlx : (X.length : Int) ≤ 1048576 := by omega
  go_enter Tryd.func25, Tryd.ntmps25
  go_upto_region 1 with fail
  have n0 : New w (w.alloc (.cells #[.int .u64 A, .int .u64 B, .slice a X.length c] 36)) := (Upd.refl _ _).alloc _
  have hb := blk_alloc w (.cells #[.int .u64 A, .int .u64 B, .slice a X.length c] 36)
  generalize w.alloc (.cells #[.int .u64 A, .int .u64 B, .slice a X.length c] 36) = w1 at n0 hb ⊢
  have HU := hide hu
  clear hu
  go_wp2_with fail
  refine (unhide hC0 w1).mono ?_
  rintro e w2 ⟨rfl, n2⟩
  replace hb := n2.old hb (fun h => h)
  replace n0 := n0.trans n2
  have e2 := blk_cell hb 2
  simp at e2
  clear n2 hC0
  go_wp2_with fail
  refine (unhide C4 w2).mono ?_
  rintro e w3 ⟨rfl, n3⟩
  replace hb := n3.old hb (fun h => h)
  replace n0 := n0.trans n3
  clear n3 e2 C4
  have e0 := blk_cell hb 0
  have e1 := blk_cell hb 1
  simp at e0 e1
  go_upto_region 3 with fail
  refine wp_dagP (by kernel_rfl) [[], [], [(1, 31)], [(2, 32)], [(0, 30), (3, 33)], [], [(5, 35)], [(6, 36)], [(4, 34), (7, 37)], [], [(9, 39)], [(10, 40)], [(8, 38), (11, 41)], [], [(12, 42), (13, 43)], [(14, 44)]] 84 rfl (by kernel_rfl) [(0, 30), (1, 31), (2, 32), (3, 33), (4, 34), (5, 35), (6, 36), (7, 37), (8, 38), (9, 39), (10, 40), (11, 41), (12, 42), (13, 43), (14, 44), (15, 11)] (by kernel_rfl) [] (by kernel_rfl) [[(0, 0)], [(0, 0)], [(0, 0)], [(0, 0)], [(0, 0)], [(0, 0)], [(0, 0)], [(0, 0)], [(0, 0)], [(0, 0)], [(0, 0)], [(0, 0)], [(0, 0)], [(0, 0)], [(0, 0)], [(0, 0)]] (by kernel_rfl)
    (NS w3) AnyW (isV [.string t4, .int .i64 n, .int .u64 nn, .string q1, .string (t4 ++ q1), .pointer (some ⟨w.heap.size, 0, none⟩), .int .u64 A, .string q2, .string (t4 ++ q1 ++ q2), .pointer (some ⟨w.heap.size, 1, none⟩), .int .u64 B, .string q3, .string (t4 ++ q1 ++ q2 ++ q3), .string t2, .string (t4 ++ q1 ++ q2 ++ q3 ++ t2), .string (t4 ++ q1 ++ q2 ++ q3 ++ t2)])
    (((Upd.refl _ _).drew)) (fun _ => AnyW.all _ _) (fun _ _ _ _ _ _ _ _ _ h => h) ?_ ?_
  · refine .pure rfl (fun _ => AnyW.all _ _) rfl ?_ <| .pure rfl (fun _ => AnyW.all _ _) rfl ?_ <| .pure rfl (fun _ => AnyW.all _ _) rfl ?_ <| .one rfl ?_ <| .pure rfl (fun _ => AnyW.all _ _) rfl ?_ <| .pure rfl (fun _ => AnyW.all _ _) rfl ?_ <| .one rfl ?_ <| .one rfl ?_ <| .pure rfl (fun _ => AnyW.all _ _) rfl ?_ <| .pure rfl (fun _ => AnyW.all _ _) rfl ?_ <| .one rfl ?_ <| .one rfl ?_ <| .pure rfl (fun _ => AnyW.all _ _) rfl ?_ <| .pure rfl (fun _ => AnyW.all _ _) rfl ?_ <| .pure rfl (fun _ => AnyW.all _ _) rfl ?_ <| .pure rfl (fun _ => AnyW.all _ _) rfl ?_ <| .nil
    · rintro vals w1 _
      unfold opRun; simp only [putL]; go_simp
      first | exact ⟨rfl, rfl⟩ | rfl
    · rintro vals w1 _
      unfold opRun; simp only [putL]; go_simp
      first | exact ⟨rfl, rfl⟩ | rfl
    · rintro vals w1 ⟨p0, -⟩
      replace p0 : vals 1 = .int .i64 n := p0
      have h1 := hwn
      unfold opRun; simp only [putL]; go_simp
      first | exact ⟨rfl, rfl⟩ | rfl
    · rintro vals w1 hS ⟨p0, -⟩
      replace hS : New w3 w1 := hS
      replace p0 : vals 2 = .int .u64 nn := p0
      unfold opRun; simp only [putL]; go_simp
      refine (unhide C1 w1).mono ?_
      rintro e w2 ⟨rfl, n2⟩
      exact ⟨_, rfl, AnyW.all _ _, Upd.trans hS n2, rfl⟩
    · rintro vals w1 ⟨p0, p1, -⟩
      replace p0 : vals 0 = .string t4 := p0
      replace p1 : vals 3 = .string q1 := p1
      have hz : t4.size + 8 ≤ 9223372036854775807 := by omega
      rw [← z1] at hz
      unfold opRun; simp only [putL]; go_simp
      first | exact ⟨rfl, rfl⟩ | rfl
    · rintro vals w1 _
      unfold opRun; simp only [putL]; go_simp
      first | exact ⟨rfl, rfl⟩ | rfl
    · rintro vals w1 hS ⟨p0, -⟩
      replace hS : New w3 w1 := hS
      replace p0 : vals 5 = .pointer (some ⟨w.heap.size, 0, none⟩) := p0
      have h1 : w1.cell? ⟨w.heap.size, 0, none⟩ = some (.int .u64 A) := Upd.cell hS e0 (fun h => h)
      unfold opRun; simp only [putL]; go_simp
      exact ⟨AnyW.all _ _, hS, rfl⟩
    · rintro vals w1 hS ⟨p0, -⟩
      replace hS : New w3 w1 := hS
      replace p0 : vals 6 = .int .u64 A := p0
      unfold opRun; simp only [putL]; go_simp
      refine (unhide C2 w1).mono ?_
      rintro e w2 ⟨rfl, n2⟩
      exact ⟨_, rfl, AnyW.all _ _, Upd.trans hS n2, rfl⟩
    · rintro vals w1 ⟨p0, p1, -⟩
      replace p0 : vals 4 = .string (t4 ++ q1) := p0
      replace p1 : vals 7 = .string q2 := p1
      have hz : t4.size + q1.size + q2.size ≤ 9223372036854775807 := by omega
      unfold opRun; simp only [putL]; go_simp
      first | exact ⟨rfl, rfl⟩ | rfl
    · rintro vals w1 _
      unfold opRun; simp only [putL]; go_simp
      first | exact ⟨rfl, rfl⟩ | rfl
    · rintro vals w1 hS ⟨p0, -⟩
      replace hS : New w3 w1 := hS
      replace p0 : vals 9 = .pointer (some ⟨w.heap.size, 1, none⟩) := p0
      have h1 : w1.cell? ⟨w.heap.size, 1, none⟩ = some (.int .u64 B) := Upd.cell hS e1 (fun h => h)
      unfold opRun; simp only [putL]; go_simp
      exact ⟨AnyW.all _ _, hS, rfl⟩
    · rintro vals w1 hS ⟨p0, -⟩
      replace hS : New w3 w1 := hS
      replace p0 : vals 10 = .int .u64 B := p0
      unfold opRun; simp only [putL]; go_simp
      refine (unhide C3 w1).mono ?_
      rintro e w2 ⟨rfl, n2⟩
      exact ⟨_, rfl, AnyW.all _ _, Upd.trans hS n2, rfl⟩
    · rintro vals w1 ⟨p0, p1, -⟩
      replace p0 : vals 8 = .string (t4 ++ q1 ++ q2) := p0
      replace p1 : vals 11 = .string q3 := p1
      have hz : t4.size + q1.size + q2.size + q3.size ≤ 9223372036854775807 := by omega
      unfold opRun; simp only [putL]; go_simp
      first | exact ⟨rfl, rfl⟩ | rfl
    · rintro vals w1 _
      unfold opRun; simp only [putL]; go_simp
      first | exact ⟨rfl, rfl⟩ | rfl
    · rintro vals w1 ⟨p0, p1, -⟩
      replace p0 : vals 12 = .string (t4 ++ q1 ++ q2 ++ q3) := p0
      replace p1 : vals 13 = .string t2 := p1
      have hz : t4.size + q1.size + q2.size + q3.size + t2.size ≤ 9223372036854775807 := by omega
      unfold opRun; simp only [putL]; go_simp
      first | exact ⟨rfl, rfl⟩ | rfl
    · rintro vals w1 ⟨p0, -⟩
      replace p0 : vals 14 = .string (t4 ++ q1 ++ q2 ++ q3 ++ t2) := p0
      unfold opRun; simp only [putL]; go_simp
      first | exact ⟨rfl, rfl⟩ | rfl
  · intro vals w1 hS hv
    replace hS : New w3 w1 := hS
    have v15 := hv 15 (by decide)
    replace v15 : vals 15 = .string (t4 ++ q1 ++ q2 ++ q3 ++ t2) := v15
    simp only [putL, v15]
    rw [← unhide HHEAD]
    clear hv v15
    go_simp
    replace hb := Upd.old hS hb (fun h => h)
    replace n0 := n0.trans hS
    clear hS e0 e1 hwn C1 C2 C3
    generalize headS ch n A B X.length = hd at hsz HTX ⊢
    have e2 := blk_cell hb 2
    simp at e2
    go_wp2_with fail
    obtain ⟨wo, rfl⟩ : ∃ wo : World, wo = w1 := ⟨_, rfl⟩
    have HB := hide hb
    clear hb e2
    go_loopw [11, 12, 13, 14] (fun sv iv _ _ wr => ∃ k : Nat, iv = .int .i64 (k : Int) ∧ k ≤ X.length ∧ sv = .string ((X.take k).foldl itStep hd) ∧ New wo wr) (fun _ iv _ _ _ => X.length - (intOf iv).toNat)
    case atStart => exact ⟨0, rfl, Nat.zero_le _, rfl, Upd.refl _ _⟩
    case round =>
      obtain ⟨k, rfl, hk, rfl, nk⟩ := hrel
      obtain ⟨wq, rfl⟩ : ∃ wq : World, wq = wr := ⟨_, rfl⟩
      have hbq := nk.old (unhide HB) (fun h => h)
      have e2 := blk_cell hbq 2
      simp at e2
      by_cases hlt : k < X.length
      · obtain ⟨x, hx⟩ : ∃ x, X[k]? = some x := ⟨_, List.getElem?_eq_getElem hlt⟩
        obtain ⟨b, off, rfl, -, hrow⟩ := ((unhide HU).new (n0.trans nk)).at hx
        have hxok := hok x (List.mem_of_getElem? hx)
        have hfold := fold_take X hd hx
        have hsk := fold_size (X.take k) hd
        rw [hsz, List.length_take, Nat.min_eq_left hk] at hsk
        have hk0 : (k : Int) < (X.length : Int) := by omega
        obtain ⟨ee, hee⟩ : ∃ ee : Int, ee = x.h.expiry % 18446744073709551616 := ⟨_, rfl⟩
        have hwe : IntKind.u64.wrap x.h.expiry = ee := by rw [IntKind.wrap_u64, hee]
        have hst : ∀ s, itStep s x = s ++ numS (if x.offered then 1 else 0) 1 ++ numS x.h.id.toNat 8 ++ numS x.h.amount.toNat 8 ++ strOfNums x.h.hash.toList ++ numS ee.toNat 8 := fun s => by rw [hee]; rfl
        have C1 := hide (fun W => eight_any x.h.id W hxok.id.1 (by have := hxok.id.2; omega))
        have C2 := hide (fun W => eight_any x.h.amount W hxok.amount.1 (by have := hxok.amount.2; omega))
        have C3 := hide (fun W => hashR_any x.h.hash.toList W (by simp))
        have C4 := hide (fun W => eight_any ee W (by omega) (by omega))
        have y1 := numS_size x.h.id.toNat 8
        have y2 := numS_size x.h.amount.toNat 8
        have y3 : (strOfNums x.h.hash.toList).size = 32 := by rw [strOfNums_size]; simp
        have y4 := numS_size ee.toNat 8
        have hHI : ∀ (W : World) (b : Nat) (T : TypeId) (fz : Nat × Nat), W.heap[b]? = some (.cells (itemCells x).toArray T fz) → rowN W b 3 32 = some (x.h.hash.toList.map (Value.int .u8)).toArray := fun _ _ _ _ h => hash_row x h
        generalize (x.h.hash.toList.map (Value.int .u8)).toArray = HC at C3 hHI
        generalize numS x.h.id.toNat 8 = i1 at C1 y1 hst
        generalize numS x.h.amount.toNat 8 = i2 at C2 y2 hst
        generalize strOfNums x.h.hash.toList = i3 at C3 y3 hst
        generalize numS ee.toNat 8 = i4 at C4 y4 hst
        generalize (X.take k).foldl itStep hd = s0 at hfold hsk ⊢
        have hf2 := hfold.trans (hst s0)
        clear hx hfold hxok hst hee
        have HF := hide hf2
        have HHI := hide hHI
        clear hf2 hHI
        go_upto_region 7 with fail
        refine wp_region_lit ?_
        refine wpList_val rfl (v := .pointer (some ⟨w.heap.size, 2, none⟩)) (w' := wq) (by kernel_rfl) ?_
        refine wpList_val rfl (v := .slice (some ⟨b, off, none⟩) X.length c) (w' := wq) (by simp only [execOp]; go_simp) ?_
        refine wpList_val rfl (v := .int .i64 (k : Int)) (w' := wq) (by kernel_rfl) ?_
        refine wpList_val rfl (v := .pointer (some ⟨b, off + k * 36, none⟩)) (w' := wq) (by simp only [execOp]; go_simp) ?_
        refine wpList_val rfl (v := .agg (itemCells x).toArray) (w' := wq) (by simp only [execOp]; go_simp) ?_
        refine wpList_val rfl (v := .pointer (some ⟨wq.heap.size, 0, none⟩)) (w' := wq.alloc (.cells zItem 67)) (by kernel_rfl) ?_
        have n1 : New wq (wq.alloc (.cells zItem 67)) := (Upd.refl _ _).alloc _
        have hb1 : (wq.alloc (.cells zItem 67)).heap[wq.heap.size]? = some (.cells zItem 67 (0, 0)) := blk_alloc _ _
        generalize wq.alloc (.cells zItem 67) = w1a at n1 hb1 ⊢
        refine wpList_store_row rfl _ _ _ rfl wq.heap.size (itemCells x).toArray (by kernel_rfl) (by kernel_rfl) 67 _ hb1 (by rw [List.size_toArray, item_len]; exact Tryd.infoItemR) (by have h9 : zItem.size = 36 := rfl; rw [h9]; simp [item_len]) (by rw [List.all_toArray, List.all_eq_true]; exact item_one x) ?_
        have hI := setRow_heap w1a wq.heap.size _ (itemCells x).toArray 67 (0, 0) hb1
        have n2 : New wq (w1a.setRow wq.heap.size (itemCells x).toArray) := n1.setRow (fun h => by omega) _
        generalize w1a.setRow wq.heap.size (itemCells x).toArray = w2a at hI n2 ⊢
        replace nk := nk.trans n2
        generalize wq.heap.size = I at hI ⊢
        have d0 : w2a.cell? ⟨I, 0, none⟩ = some (.bool x.offered) := item_cell x 0 (by decide) hI
        have d1 : w2a.cell? ⟨I, 1, none⟩ = some (.int .u64 x.h.id) := item_cell x 1 (by decide) hI
        have d2 : w2a.cell? ⟨I, 2, none⟩ = some (.int .u64 x.h.amount) := item_cell x 2 (by decide) hI
        have d35 := item_cell x 35 (by decide) hI
        rw [item_35] at d35
        have dh := unhide HHI _ _ _ _ hI
        clear n1 hb1 n2 hrow hI hbq e2
        obtain ⟨cc, hcc, hcs⟩ : ∃ cc : ByteArray, numS (if x.offered then 1 else 0) 1 = cc ∧ cc.size = 1 := ⟨_, rfl, numS_size _ _⟩
        have HF2 := unhide HF
        rw [hcc] at HF2
        have HFF := hide HF2
        clear HF2 HF HHI
        have HY := hide (And.intro y1 (And.intro y2 (And.intro y3 (And.intro y4 (And.intro hcs (And.intro hsk (show k ≤ 1048576 by omega)))))))
        clear y1 y2 y3 y4 hcs hsk
        cases hof : x.offered
        all_goals
          rw [hof] at d0 hcc
          simp only [if_true, Bool.false_eq_true, if_false] at hcc
          first | rw [one_0] at hcc | rw [one_1] at hcc
          have HCC := hide hcc
          clear hcc
          go_upto_region 11 with fail
          go_simp
          rw [unhide HCC]
          refine wp_dagP (by kernel_rfl) [[], [], [(0, 59), (1, 60)], [], [(3, 62)], [(4, 63)], [(5, 64)], [(2, 61), (6, 65)], [], [(8, 67)], [(9, 68)], [(10, 69)], [(7, 66), (11, 70)], [], [(13, 72)], [(14, 73)], [(15, 74)], [(12, 71), (16, 75)], [], [(18, 77)], [(19, 78)], [(20, 79)], [(21, 80)], [(17, 76), (22, 81)], [(23, 82)]] 84 rfl (by kernel_rfl) [(0, 59), (1, 60), (2, 61), (3, 62), (4, 63), (5, 64), (6, 65), (7, 66), (8, 67), (9, 68), (10, 69), (11, 70), (12, 71), (13, 72), (14, 73), (15, 74), (16, 75), (17, 76), (18, 77), (19, 78), (20, 79), (21, 80), (22, 81), (23, 82), (24, 11)] (by kernel_rfl) [] (by kernel_rfl) [[(0, 0)], [(0, 0)], [(0, 0)], [(0, 0)], [(0, 0)], [(0, 0)], [(0, 0)], [(0, 0)], [(0, 0)], [(0, 0)], [(0, 0)], [(0, 0)], [(0, 0)], [(0, 0)], [(0, 0)], [(0, 0)], [(0, 0)], [(0, 0)], [(0, 0)], [(0, 0)], [(0, 0)], [(0, 0)], [(0, 0)], [(0, 0)], [(0, 0)]] (by kernel_rfl)
            (NS w2a) AnyW (isV [.string s0, .string cc, .string (s0 ++ cc), .pointer (some ⟨I, 1, none⟩), .pointer (some ⟨I, 1, none⟩), .int .u64 x.h.id, .string i1, .string (s0 ++ cc ++ i1), .pointer (some ⟨I, 1, none⟩), .pointer (some ⟨I, 2, none⟩), .int .u64 x.h.amount, .string i2, .string (s0 ++ cc ++ i1 ++ i2), .pointer (some ⟨I, 1, none⟩), .pointer (some ⟨I, 3, none⟩), .agg HC, .string i3, .string (s0 ++ cc ++ i1 ++ i2 ++ i3), .pointer (some ⟨I, 1, none⟩), .pointer (some ⟨I, 35, none⟩), .int .i64 x.h.expiry, .int .u64 ee, .string i4, .string (s0 ++ cc ++ i1 ++ i2 ++ i3 ++ i4), .string (s0 ++ cc ++ i1 ++ i2 ++ i3 ++ i4)])
            (((Upd.refl _ _).drew)) (fun _ => AnyW.all _ _) (fun _ _ _ _ _ _ _ _ _ h => h) ?_ ?_
          · refine .pure rfl (fun _ => AnyW.all _ _) rfl ?_ <| .pure rfl (fun _ => AnyW.all _ _) rfl ?_ <| .pure rfl (fun _ => AnyW.all _ _) rfl ?_ <| .pure rfl (fun _ => AnyW.all _ _) rfl ?_ <| .pure rfl (fun _ => AnyW.all _ _) rfl ?_ <| .one rfl ?_ <| .one rfl ?_ <| .pure rfl (fun _ => AnyW.all _ _) rfl ?_ <| .pure rfl (fun _ => AnyW.all _ _) rfl ?_ <| .pure rfl (fun _ => AnyW.all _ _) rfl ?_ <| .one rfl ?_ <| .one rfl ?_ <| .pure rfl (fun _ => AnyW.all _ _) rfl ?_ <| .pure rfl (fun _ => AnyW.all _ _) rfl ?_ <| .pure rfl (fun _ => AnyW.all _ _) rfl ?_ <| .one rfl ?_ <| .one rfl ?_ <| .pure rfl (fun _ => AnyW.all _ _) rfl ?_ <| .pure rfl (fun _ => AnyW.all _ _) rfl ?_ <| .pure rfl (fun _ => AnyW.all _ _) rfl ?_ <| .one rfl ?_ <| .pure rfl (fun _ => AnyW.all _ _) rfl ?_ <| .one rfl ?_ <| .pure rfl (fun _ => AnyW.all _ _) rfl ?_ <| .pure rfl (fun _ => AnyW.all _ _) rfl ?_ <| .nil
            · rintro vals w1 _
              unfold opRun; simp only [putL]; go_simp
              first | exact ⟨rfl, rfl⟩ | rfl
            · rintro vals w1 _
              unfold opRun; simp only [putL]; go_simp
              first | exact ⟨rfl, rfl⟩ | rfl
            · rintro vals w1 ⟨p0, p1, -⟩
              replace p0 : vals 0 = .string s0 := p0
              replace p1 : vals 1 = .string cc := p1
              have hz : ¬ 9223372036854775807 < s0.size + cc.size := by have := unhide HY; omega
              unfold opRun; simp only [putL]; go_simp
              first | exact ⟨rfl, rfl⟩ | rfl
            · rintro vals w1 _
              unfold opRun; simp only [putL]; go_simp
              first | exact ⟨rfl, rfl⟩ | rfl
            · rintro vals w1 ⟨p0, -⟩
              replace p0 : vals 3 = .pointer (some ⟨I, 1, none⟩) := p0
              unfold opRun; simp only [putL]; go_simp
              first | exact ⟨rfl, rfl⟩ | rfl
            · rintro vals w1 hS ⟨p0, -⟩
              replace hS : New w2a w1 := hS
              replace p0 : vals 4 = .pointer (some ⟨I, 1, none⟩) := p0
              have h1 := Upd.cell hS d1 (fun h => h)
              unfold opRun; simp only [putL]; go_simp
              exact ⟨AnyW.all _ _, hS, rfl⟩
            · rintro vals w1 hS ⟨p0, -⟩
              replace hS : New w2a w1 := hS
              replace p0 : vals 5 = .int .u64 x.h.id := p0
              unfold opRun; simp only [putL]; go_simp
              refine (unhide C1 w1).mono ?_
              rintro e w2 ⟨rfl, n2⟩
              exact ⟨_, rfl, AnyW.all _ _, Upd.trans hS n2, rfl⟩
            · rintro vals w1 ⟨p0, p1, -⟩
              replace p0 : vals 2 = .string (s0 ++ cc) := p0
              replace p1 : vals 6 = .string i1 := p1
              have hz : ¬ 9223372036854775807 < s0.size + cc.size + i1.size := by have := unhide HY; omega
              unfold opRun; simp only [putL]; go_simp
              first | exact ⟨rfl, rfl⟩ | rfl
            · rintro vals w1 _
              unfold opRun; simp only [putL]; go_simp
              first | exact ⟨rfl, rfl⟩ | rfl
            · rintro vals w1 ⟨p0, -⟩
              replace p0 : vals 8 = .pointer (some ⟨I, 1, none⟩) := p0
              unfold opRun; simp only [putL]; go_simp
              first | exact ⟨rfl, rfl⟩ | rfl
            · rintro vals w1 hS ⟨p0, -⟩
              replace hS : New w2a w1 := hS
              replace p0 : vals 9 = .pointer (some ⟨I, 2, none⟩) := p0
              have h1 := Upd.cell hS d2 (fun h => h)
              unfold opRun; simp only [putL]; go_simp
              exact ⟨AnyW.all _ _, hS, rfl⟩
            · rintro vals w1 hS ⟨p0, -⟩
              replace hS : New w2a w1 := hS
              replace p0 : vals 10 = .int .u64 x.h.amount := p0
              unfold opRun; simp only [putL]; go_simp
              refine (unhide C2 w1).mono ?_
              rintro e w2 ⟨rfl, n2⟩
              exact ⟨_, rfl, AnyW.all _ _, Upd.trans hS n2, rfl⟩
            · rintro vals w1 ⟨p0, p1, -⟩
              replace p0 : vals 7 = .string (s0 ++ cc ++ i1) := p0
              replace p1 : vals 11 = .string i2 := p1
              have hz : ¬ 9223372036854775807 < s0.size + cc.size + i1.size + i2.size := by have := unhide HY; omega
              unfold opRun; simp only [putL]; go_simp
              first | exact ⟨rfl, rfl⟩ | rfl
            · rintro vals w1 _
              unfold opRun; simp only [putL]; go_simp
              first | exact ⟨rfl, rfl⟩ | rfl
            · rintro vals w1 ⟨p0, -⟩
              replace p0 : vals 13 = .pointer (some ⟨I, 1, none⟩) := p0
              unfold opRun; simp only [putL]; go_simp
              first | exact ⟨rfl, rfl⟩ | rfl
            · rintro vals w1 hS ⟨p0, -⟩
              replace hS : New w2a w1 := hS
              replace p0 : vals 14 = .pointer (some ⟨I, 3, none⟩) := p0
              have h1 := rowN_upd dh hS (fun h => h)
              unfold opRun; simp only [putL]; go_simp
              exact ⟨AnyW.all _ _, hS, rfl⟩
            · rintro vals w1 hS ⟨p0, -⟩
              replace hS : New w2a w1 := hS
              replace p0 : vals 15 = .agg HC := p0
              unfold opRun; simp only [putL]; go_simp
              refine (unhide C3 w1).mono ?_
              rintro e w2 ⟨rfl, n2⟩
              exact ⟨_, rfl, AnyW.all _ _, Upd.trans hS n2, rfl⟩
            · rintro vals w1 ⟨p0, p1, -⟩
              replace p0 : vals 12 = .string (s0 ++ cc ++ i1 ++ i2) := p0
              replace p1 : vals 16 = .string i3 := p1
              have hz : ¬ 9223372036854775807 < s0.size + cc.size + i1.size + i2.size + i3.size := by have := unhide HY; omega
              unfold opRun; simp only [putL]; go_simp
              first | exact ⟨rfl, rfl⟩ | rfl
            · rintro vals w1 _
              unfold opRun; simp only [putL]; go_simp
              first | exact ⟨rfl, rfl⟩ | rfl
            · rintro vals w1 ⟨p0, -⟩
              replace p0 : vals 18 = .pointer (some ⟨I, 1, none⟩) := p0
              unfold opRun; simp only [putL]; go_simp
              first | exact ⟨rfl, rfl⟩ | rfl
            · rintro vals w1 hS ⟨p0, -⟩
              replace hS : New w2a w1 := hS
              replace p0 : vals 19 = .pointer (some ⟨I, 35, none⟩) := p0
              have h1 := Upd.cell hS d35 (fun h => h)
              unfold opRun; simp only [putL]; go_simp
              exact ⟨AnyW.all _ _, hS, rfl⟩
            · rintro vals w1 ⟨p0, -⟩
              replace p0 : vals 20 = .int .i64 x.h.expiry := p0
              have h1 := hwe
              unfold opRun; simp only [putL]; go_simp
              first | exact ⟨rfl, rfl⟩ | rfl
            · rintro vals w1 hS ⟨p0, -⟩
              replace hS : New w2a w1 := hS
              replace p0 : vals 21 = .int .u64 ee := p0
              unfold opRun; simp only [putL]; go_simp
              refine (unhide C4 w1).mono ?_
              rintro e w2 ⟨rfl, n2⟩
              exact ⟨_, rfl, AnyW.all _ _, Upd.trans hS n2, rfl⟩
            · rintro vals w1 ⟨p0, p1, -⟩
              replace p0 : vals 17 = .string (s0 ++ cc ++ i1 ++ i2 ++ i3) := p0
              replace p1 : vals 22 = .string i4 := p1
              have hz : ¬ 9223372036854775807 < s0.size + cc.size + i1.size + i2.size + i3.size + i4.size := by have := unhide HY; omega
              unfold opRun; simp only [putL]; go_simp
              first | exact ⟨rfl, rfl⟩ | rfl
            · rintro vals w1 ⟨p0, -⟩
              replace p0 : vals 23 = .string (s0 ++ cc ++ i1 ++ i2 ++ i3 ++ i4) := p0
              unfold opRun; simp only [putL]; go_simp
              first | exact ⟨rfl, rfl⟩ | rfl
          · intro vals w1 hS hv
            replace hS : New w2a w1 := hS
            have v24 := hv 24 (by decide)
            replace v24 : vals 24 = .string (s0 ++ cc ++ i1 ++ i2 ++ i3 ++ i4) := v24
            simp only [putL, v24]
            rw [← unhide HFF]
            clear hv v24 d0 d1 d2 d35 dh C1 C2 C3 C4 hwe
            replace nk := nk.trans hS
            generalize hs9 : (X.take (k + 1)).foldl itStep hd = s9
            have HS9 := hide hs9
            clear hs9 hS
            go_simp
            go_wp2
            go_roundw
            case rel => exact ⟨k + 1, by go_num, by omega, by rw [unhide HS9], nk⟩
            case measure => simp [intOf]; omega
      · obtain rfl : k = X.length := by omega
        rw [List.take_length, ← unhide HTX]
        generalize htt : textS ch n A B X = tt
        have HTT := hide htt
        clear htt
        go_wp2
        go_ret
        exact ⟨by rw [unhide HTT]; rfl, n0.trans nk⟩

end Go.Proofs.YtbcjhpeighlncaaDoor
