/-
  The shelf: Insert$1, lowest.
-/
import Derived.Test.YtjpmomdechibmaaGreatDoorMci
import Derived.Test.YtjpmomdechibmaaGreatDoorMcj
namespace Go.Proofs.YtjpmomdechibmaaGreatDoor
set_option linter.unusedVariables false
set_option linter.unusedSimpArgs false
open Go.RowKit

theorem KeptV.len (k : KeptV) (h : k.told.length = 32) : k.cells.length = 34 := by simp [KeptV.cells, h]
theorem KeptV.one (k : KeptV) : ∀ v ∈ k.cells, v.oneCell' = true := by
  intro v hv
  simp only [KeptV.cells, List.mem_cons, List.mem_map] at hv
  rcases hv with rfl | rfl | ⟨n, _, rfl⟩ <;> rfl
theorem Tryz.infoKpt : (Tryz.prog.info? 87).map (·.size) = some 34 := by kernel_rfl
def ldKpt (x : Value) : Sem Value := Instr.loadAt 87 x
theorem ld_kpt_fold (x : Value) : Instr.loadAt 87 x = ldKpt x := rfl
theorem ld_kpt (b o : Nat) (w : World) : (ldKpt (.pointer (some ⟨b, o, none⟩))).run Tryz.prog w = match rowN w b o 34 with | some A => .ok (.agg A) w | none => slowLd Tryz.prog 87 w b o :=
  run_loadAt_rowN 87 34 _ Tryz.underlying87 rfl Tryz.infoKpt b o w
def stKpt (x v : Value) : Sem Unit := Instr.storeAt 87 x v
theorem st_kpt_fold (x v : Value) : Instr.storeAt 87 x v = stKpt x v := rfl
theorem st_kpt (b o : Nat) (A : Array Value) (w : World) : (stKpt (.pointer (some ⟨b, o, none⟩)) (.agg A)).run Tryz.prog w = if stOk w b o 34 A = true then .ok () (w.setCells b o A.toList) else slowSt Tryz.prog 87 w b o A :=
  run_storeAt_row 87 34 Tryz.infoKpt b o A w
theorem KeptV.zero_len : KeptV.zero.told.length = 32 := List.length_replicate
def alKpt : Sem Value := Instr.alloc 87 true (.tuple #[])
theorem al_kpt_fold : Instr.alloc 87 true (.tuple #[]) = alKpt := rfl
theorem al_kpt (w : World) : alKpt.run Tryz.prog w = .ok (.pointer (some ⟨w.heap.size, 0, none⟩)) (w.alloc (.cells KeptV.zero.cells.toArray 87)) := by kernel_rfl
def bdKpt (p : Array (Nat × Value)) : Sem Value := Instr.build 87 p
theorem bd_kpt_fold (p : Array (Nat × Value)) : Instr.build 87 p = bdKpt p := rfl
theorem bd_kpt_zero (w : World) : (bdKpt #[]).run Tryz.prog w = .ok (.agg KeptV.zero.cells.toArray) w := run_build w _ _ _ (by kernel_rfl)
theorem Tryz.zeroKpt : ((Tryz.prog.info? 87).map fun i => i.zero.map fun z => z.cells.toList) = some (some KeptV.zero.cells) := by kernel_rfl
theorem Tryz.placesKpt : ∃ fields, Tryz.prog.underlying 87 = some (.struct fields) ∧ fields.toList.mapM (fun f => (Tryz.prog.info? f.type).map fun i => (f.offset, i.size)) = some [(0, 1), (1, 1), (2, 32)] := ⟨_, Tryz.underlying87, by kernel_rfl⟩
theorem built_kpt (b : Bool) (n : Int) (H : List Value) (h : H.length = 32) : Tryz.prog.built 87 [(0, .bool b), (1, .int .i64 n), (2, .agg H.toArray)] = some (.bool b :: .int .i64 n :: H).toArray := by
  obtain ⟨i, z, hi, hz, hc⟩ := zero_of Tryz.zeroKpt
  obtain ⟨fs, hu, hp⟩ := Tryz.placesKpt
  rw [built_struct' hi hu hz hp]
  rw [fill_sc (P := []) (z := .bool false) (R := .int .i64 0 :: (z32i.map (Value.int .u8))) rfl rfl rfl hc]
  rw [fill_sc (P := [.bool b]) (z := .int .i64 0) (R := z32i.map (Value.int .u8)) rfl rfl rfl (by rfl)]
  rw [fill_one (P := [.bool b, .int .i64 n]) (A := H) (Z := z32i.map (Value.int .u8)) (R := []) (off := 2) (by rw [h]; rfl) rfl (by rw [h]; rfl) (by rfl)]
  rw [Instr.fill]
  simp
theorem bd_kpt (b : Bool) (n : Int) (h : List Int) (hh : h.length = 32) (w : World) : (bdKpt #[(0, .bool b), (1, .int .i64 n), (2, .agg (hshV h).toArray)]).run Tryz.prog w = .ok (.agg (KeptV.cells ⟨b, n, h⟩).toArray) w :=
  run_build w _ _ _ (built_kpt b n (hshV h) (by rw [hshV_len, hh]))
/-- A kept secret in a block of its own. -/
structure KpS (w : World) (b : Nat) (k : KeptV) : Prop where
  at_ : w.heap[b]? = some (.cells k.cells.toArray 87 (0, 0))
  len : k.told.length = 32
section
variable {S : Nat → Prop} {w w' : World} {b : Nat} {k : KeptV}
theorem KpS.upd (a : KpS w b k) (u : Upd S w w') (n : ¬ S b) : KpS w' b k := ⟨u.old a.at_ n, a.len⟩
theorem KpS.new (a : KpS w b k) (u : New w w') : KpS w' b k := a.upd u (fun h => h)
theorem KpS.lt (a : KpS w b k) : b < w.heap.size := blk_lt a.at_
theorem KpS.row (a : KpS w b k) : rowN w b 0 34 = some k.cells.toArray := rowN_whole a.at_ 34 (by rw [List.size_toArray, k.len a.len])
theorem KpS.stOk (a : KpS w b k) {j : KeptV} (hk : j.told.length = 32) : stOk w b 0 34 j.cells.toArray = true := by
  have := stOk_all a.at_ (A := j.cells) (by rw [List.size_toArray, k.len a.len, j.len hk]) j.one
  rwa [List.size_toArray, k.len a.len] at this
theorem KpS.put (a : KpS w b k) {j : KeptV} (hk : j.told.length = 32) : KpS (w.setCells b 0 j.cells) b j := by
  refine ⟨?_, hk⟩
  rw [blk_setCells a.at_ 0 _, layIn_whole _ _ (by rw [List.size_toArray, k.len a.len, j.len hk])]
theorem KpS.c0 (a : KpS w b k) : w.cell? ⟨b, 0, none⟩ = some (.bool k.full) := blk_cell a.at_ 0
theorem KpS.c1 (a : KpS w b k) : w.cell? ⟨b, 1, none⟩ = some (.int .i64 k.number) := blk_cell a.at_ 1
theorem KpS.hsh (a : KpS w b k) : rowN w b 2 32 = some (hshV k.told).toArray := by
  rw [rowN_blk a.at_ 2 32 (by rw [List.size_toArray, k.len a.len]; omega)]
  congr 1
  apply Array.ext'
  rw [Array.toList_extract]
  unfold KeptV.cells
  show List.take 32 (hshV k.told) = hshV k.told
  exact List.take_of_length_le (by rw [hshV_len, a.len]; exact Nat.le_refl _)
end
theorem kp_alloc (w : World) (k : KeptV) (hk : k.told.length = 32) : KpS (w.alloc (.cells k.cells.toArray 87)) w.heap.size k := ⟨blk_alloc _ _, hk⟩
attribute [local go_sem ↓ high] ld_hsh_fold st_hsh_fold al_hsh_fold bd_hsh_fold ld_kpt_fold st_kpt_fold al_kpt_fold bd_kpt_fold ne_hsh_fold
attribute [local go_sem] ld_hsh st_hsh al_hsh bd_hsh rowN_drew ld_kpt st_kpt al_kpt bd_kpt_zero

/-- Does a secret tell a kept one otherwise? -/
def otherB (told : List Int) (i : Int) (k : KeptV) : Bool := (deriveI told i k.number).2 == 0 && (deriveI told i k.number).1 != k.told
theorem chStep_bytes (h : List Int) (b : Nat) : Bytes (chStep h b) := sumI_bytes _
theorem fold_bytes (l : List Nat) : ∀ h : List Int, Bytes h → Bytes (l.foldl chStep h) := by
  induction l with
  | nil => intro h hh; exact hh
  | cons b l ih => intro h _; rw [List.foldl_cons]; exact ih _ (chStep_bytes h b)
theorem chainI_bytes (h : List Int) (hh : Bytes h) (i d : Nat) : Bytes (chainI h i d) := fold_bytes _ h hh
theorem deriveI_bytes (h : List Int) (hh : Bytes h) (f t : Int) : Bytes (deriveI h f t).1 := by
  unfold deriveI
  split
  · exact chainI_bytes h hh _ _
  · exact z32i_bytes
set_option maxRecDepth 100000 in
set_option maxHeartbeats 1000000 in
theorem insert1_any (told : List Int) (ht : told.length = 32) (hb : Bytes told) (i : Int) (k : KeptV) (hk : k.told.length = 32) (kb : Bytes k.told) (A I : Nat) (w : World) (hA : HsB w A told) (hI : w.cell? ⟨I, 0, none⟩ = some (.int .i64 i)) (hT : Tabs w) (hD : Deb w) :
    Calls Tryz.prog 125 #[.agg k.cells.toArray, .pointer (some ⟨A, 0, none⟩), .pointer (some ⟨I, 0, none⟩)] w (Makes (.bool (otherB told i k)) w) := by
  go_enter Tryz.func125, Tryz.ntmps125
  go_upto_region 1 with fail
  have hB := kp_alloc w k hk
  have n1 : New w (w.alloc (.cells k.cells.toArray 87)) := (Upd.refl _ _).alloc _
  generalize w.alloc (.cells k.cells.toArray 87) = w1 at hB n1 ⊢
  obtain ⟨B, hBe⟩ : ∃ B, B = w.heap.size := ⟨_, rfl⟩
  rw [← hBe] at hB ⊢
  have hBl : w.heap.size ≤ B := by omega
  clear hBe
  have c1 := hB.c1
  have rA := (hA.new n1).row
  have cI := n1.cell hI (fun h => h)
  have hd := derive_any told ht i k.number w1 (hT.new n1) (hD.new n1)
  have hl := deriveI_len told ht i k.number
  have hby := deriveI_bytes told hb i k.number
  have ho : otherB told i k = ((deriveI told i k.number).2 == 0 && (deriveI told i k.number).1 != k.told) := rfl
  have HO := hide ho
  have HB := hide hB
  clear ho hB
  generalize deriveI told i k.number = K at *
  go_wp2_with fail
  refine hd.mono ?_
  rintro e w2 ⟨rfl, n2⟩
  obtain ⟨hst, hF, nF⟩ := hs_fresh w2 K.1 hl
  have HF := hide hF
  have HB2 := hide (((unhide HB).new n2).new nF)
  have HN2 := hide ((n1.trans n2).trans nF)
  clear hd c1 rA cI n1 n2 hF nF
  go_upto_region 2 with fail
  change Code.wp _ _ _ _ (hsNew w2 K.1)
  generalize hsNew w2 K.1 = w3 at HF HB2 HN2 ⊢
  generalize w2.heap.size = H at HF ⊢
  clear hst
  have hne := fun W => ne_hsh hl hk hby kb W
  have rH := (unhide HF).row
  have rK := (unhide HB2).hsh
  cases h2 : K.2 == 0 with
  | false =>
    have HO2 : Hid (otherB told i k = false) := by rw [h2, Bool.false_and] at HO; exact HO
    clear HO rH rK
    have h2' : ¬ K.2 = 0 := by simpa using h2
    go_wp2_with fail
    go_ret
    exact ⟨by rw [unhide HO2]; rfl, unhide HN2⟩
  | true =>
    have HO2 : Hid (otherB told i k = (K.1 != k.told)) := by rw [h2, Bool.true_and] at HO; exact HO
    have h2' : K.2 = 0 := by simpa using h2
    clear HO h2
    go_wp2_with fail
    go_ret
    exact ⟨by rw [unhide HO2]; rfl, unhide HN2⟩

-- the shelf's rows
theorem drop_app {α : Type} {A B : List α} {n : Nat} (h : A.length = n) : (A ++ B).drop n = B := by subst h; simp
theorem flat_drop' (X : List KeptV) (hX : ∀ p ∈ X, p.told.length = 32) : ∀ (i : Nat) (x : KeptV), X[i]? = some x → ∃ R, (X.flatMap KeptV.cells).drop (i * 34) = x.cells ++ R := by
  induction X with
  | nil => intro i x h; simp at h
  | cons y X ih =>
    intro i x h
    have hy : y.cells.length = 34 := y.len (hX y (List.mem_cons_self ..))
    cases i with
    | zero =>
      simp only [List.getElem?_cons_zero, Option.some.injEq] at h
      subst h
      exact ⟨X.flatMap KeptV.cells, by simp⟩
    | succ i =>
      rw [List.getElem?_cons_succ] at h
      obtain ⟨R, hR⟩ := ih (fun p hp => hX p (List.mem_cons_of_mem _ hp)) i x h
      refine ⟨R, ?_⟩
      rw [List.flatMap_cons, Nat.add_mul, Nat.one_mul, Nat.add_comm (i * 34) 34, ← List.drop_drop, drop_app hy, hR]
theorem ChP.kept {w : World} {g : Nat} {S : Nat → Prop} {c : Ch} {lv nv av : Value} (h : ChP w g S c lv nv av) {i : Nat} {p : KeptV} (hi : c.shelf[i]? = some p) : rowN w g (48 + i * 34) 34 = some p.cells.toArray := by
  have hl := h.ok.s.seed
  have hlt := (List.getElem?_eq_some_iff.1 hi).1
  have hp := h.ok.shelf.2 p (List.mem_of_getElem? hi)
  have h37 : c.s.cells.length = 37 := c.s.len hl
  have ht : (c.shelf.flatMap KeptV.cells).length = 578 := by rw [told_len _ h.ok.shelf.2, h.ok.shelf.1]
  have hc : (c.v lv nv av).cells = (c.s.cells ++ (c.k.cells ++ [.int .u64 c.loc, .int .u64 c.rem, lv])) ++ (c.shelf.flatMap KeptV.cells ++ [nv, av]) := by
    show c.s.cells ++ (c.k.cells ++ (Value.int .u64 c.loc :: .int .u64 c.rem :: lv :: (c.shelf.flatMap KeptV.cells ++ [nv, av]))) = _
    simp
  have h48 : (c.s.cells ++ (c.k.cells ++ [.int .u64 c.loc, .int .u64 c.rem, lv])).length = 48 := by
    rw [List.length_append, List.length_append, h37]
    rfl
  have h17 := h.ok.shelf.1
  have hs : 48 + i * 34 + 34 ≤ (c.v lv nv av).cells.toArray.size := by
    rw [List.size_toArray, hc, List.length_append, h48, List.length_append, ht]
    show 48 + i * 34 + 34 ≤ 48 + (578 + 2)
    omega
  rw [rowN_blk h.at_ _ 34 hs]
  congr 1
  apply Array.ext'
  rw [Array.toList_extract, hc]
  show List.extract (_ ++ _) (48 + i * 34) (48 + i * 34 + 34) = _
  rw [List.extract_eq_take_drop, Nat.add_sub_cancel_left, ← List.drop_drop, drop_app h48]
  obtain ⟨R, hR⟩ := flat_drop' c.shelf h.ok.shelf.2 i p hi
  rw [List.drop_append_of_le_length (by omega), hR, List.append_assoc, List.take_append_of_le_length (by rw [p.len hp]; exact Nat.le_refl _), List.take_of_length_le (by rw [p.len hp]; exact Nat.le_refl _)]

/-- The lowest place below an end that tells otherwise. -/
def lowX (told : List Int) (i : Int) (ps : List KeptV) : Option KeptV := ps.find? fun k => k.full && otherB told i k
def lowK (told : List Int) (i : Int) (ps : List KeptV) : KeptV := (lowX told i ps).getD KeptV.zero
set_option maxRecDepth 100000 in
set_option maxHeartbeats 1000000 in
theorem lowest_any (g : Nat) (S : Nat → Prop) (c : Ch) (lv nv av : Value) (n : Nat) (told : List Int) (ht : told.length = 32) (hb : Bytes told) (i : Int) (A I : Nat) (w : World) (h : ChP w g S c lv nv av) (hby : ∀ p ∈ c.shelf, Bytes p.told) (hn : n ≤ 17)
    (hA : HsB w A told) (hI : w.cell? ⟨I, 0, none⟩ = some (.int .i64 i)) (hT : Tabs w) (hD : Deb w) :
    Calls Tryz.prog 124 #[.pointer (some ⟨g, 48, none⟩), .int .i64 n, .func (.func 125) #[] #[.pointer (some ⟨A, 0, none⟩), .pointer (some ⟨I, 0, none⟩)]] w (Makes (.tuple #[.agg (lowK told i (c.shelf.take n)).cells.toArray, .bool (lowX told i (c.shelf.take n)).isSome]) w) := by
  have hnb : (n : Int) ≤ 17 := by omega
  go_enter Tryz.func124, Tryz.ntmps124
  go_upto_region 1 with fail
  have hR := kp_alloc w KeptV.zero KeptV.zero_len
  have n1 : New w (w.alloc (.cells KeptV.zero.cells.toArray 87)) := (Upd.refl _ _).alloc _
  generalize w.alloc (.cells KeptV.zero.cells.toArray 87) = w1 at hR n1 ⊢
  obtain ⟨R, hRe⟩ : ∃ R, R = w.heap.size := ⟨_, rfl⟩
  rw [← hRe] at hR ⊢
  have hRl : w.heap.size ≤ R := by omega
  clear hRe
  have H1 := hide (h.new n1)
  have HA := hide (hA.new n1)
  have HI := hide (n1.cell hI (fun h => h))
  have HT := hide (hT.new n1)
  have HD := hide (hD.new n1)
  have HR := hide hR
  have HN := hide n1
  clear h hA hI hT hD hR n1
  go_wp2_with fail
  go_loopw [9, 16] (fun _ iv wr => ∃ j : Nat, iv = .int .i64 (j : Int) ∧ j ≤ n ∧ Hid (lowX told i (c.shelf.take j) = none) ∧ New w1 wr) (fun _ iv _ => n - (intOf iv).toNat)
  case atStart => exact ⟨0, rfl, Nat.zero_le _, hide rfl, Upd.refl _ _⟩
  case round =>
    obtain ⟨j, rfl, hj, hlow, nr⟩ := hrel
    obtain ⟨wq, rfl⟩ : ∃ wq : World, wq = wr := ⟨_, rfl⟩
    by_cases hlt : j < n
    · have hP := (unhide H1).new nr
      have h17 := hP.ok.shelf.1
      obtain ⟨p, hp⟩ : ∃ p, c.shelf[j]? = some p := ⟨_, List.getElem?_eq_getElem (by omega)⟩
      have hpm := List.mem_of_getElem? hp
      have hpl := hP.ok.shelf.2 p hpm
      have hpb := hby p hpm
      have hrow := hP.kept hp
      have ha := kp_alloc wq KeptV.zero KeptV.zero_len
      have hst := ha.stOk hpl
      have hput := ha.put hpl
      have nput : New wq ((wq.alloc (.cells KeptV.zero.cells.toArray 87)).setCells wq.heap.size 0 p.cells) := (((Upd.refl (fun _ => False) wq).alloc _)).then (upd_sets _) (fun i hi e => by omega)
      have hji : (j : Int) < (n : Int) := by omega
      have hnx : lowX told i (c.shelf.take (j + 1)) = if (p.full && otherB told i p) = true then some p else none := by
        unfold lowX at hlow ⊢
        rw [List.take_add_one, hp, List.find?_append, unhide hlow]
        simp only [Option.none_or, Option.toList_some, List.find?_cons, List.find?_nil]
        cases (p.full && otherB told i p) <;> rfl
      have HX := hide hnx
      have HPp := hide hp
      clear hP hpm ha hnx hp h17
      go_upto_region 4 with fail
      have HB := hide hput
      have hn5 := nr.trans nput
      generalize (wq.alloc (.cells KeptV.zero.cells.toArray 87)).setCells wq.heap.size 0 p.cells = w5 at HB hn5 ⊢
      generalize wq.heap.size = K at HB ⊢
      clear hst hput nput hrow nr
      have c0 := (unhide HB).c0
      cases hf : p.full with
      | false =>
        rw [hf] at c0
        rw [hf, Bool.false_and] at HX
        go_wp2_with fail
        go_roundw
        case rel => exact ⟨j + 1, by go_num, by omega, by rw [if_neg (by decide)] at HX; exact HX, hn5⟩
        case measure => simp [intOf]; omega
      | true =>
        rw [hf] at c0
        rw [hf, Bool.true_and] at HX
        have rK := (unhide HB).row
        have hcl := insert1_any told ht hb i p hpl hpb A I w5 ((unhide HA).new hn5) (hn5.cell (unhide HI) (fun h => h)) ((unhide HT).new hn5) ((unhide HD).new hn5)
        go_wp2_with fail
        refine hcl.mono ?_
        rintro e w6 ⟨rfl, n6⟩
        have hn6 := hn5.trans n6
        have HB6 := hide ((unhide HB).new n6)
        clear hcl rK c0 HB
        cases ho : otherB told i p with
        | false =>
          rw [ho, if_neg (by decide)] at HX
          go_wp2_with fail
          go_roundw
          case rel => exact ⟨j + 1, by go_num, by omega, HX, hn6⟩
          case measure => simp [intOf]; omega
        | true =>
          rw [ho, if_pos rfl] at HX
          have rK6 := (unhide HB6).row
          have hR6 := (unhide HR).new hn6
          have hst := hR6.stOk hpl
          have HF := hide (hR6.put hpl)
          have HU := hide (((unhide HN).trans hn6).then (upd_sets (w := w6) (b := R) p.cells) (fun i hi e => by omega))
          clear hR6 hn5 n6 hn6
          go_wp2_with fail
          have hF := unhide HF
          refine bodyPost_ret (results_row_tmp' rfl _ _ R _ _ _ _ rfl hF.at_ Tryz.underlying87 rfl (by rw [List.size_toArray, p.len hpl]; exact Tryz.infoKpt)) rfl ?_
          have hfin : lowX told i (c.shelf.take n) = some p := by
            have e : c.shelf.take n = c.shelf.take (j + 1) ++ (c.shelf.drop (j + 1)).take (n - (j + 1)) := by
              rw [← List.take_add, Nat.add_sub_cancel' (by omega)]
            have h0 := unhide HX
            unfold lowX at h0 ⊢
            rw [e, List.find?_append, h0]
            rfl
          refine ⟨?_, unhide HU⟩
          unfold lowK
          rw [hfin]
          rfl
    · obtain rfl : j = n := by omega
      have hR6 := (unhide HR).new nr
      have hst := hR6.stOk KeptV.zero_len
      have HF := hide (hR6.put KeptV.zero_len)
      have HU := hide (((unhide HN).trans nr).then (upd_sets (w := wq) (b := R) KeptV.zero.cells) (fun i hi e => by omega))
      clear hR6 nr
      go_wp2_with fail
      have hF := unhide HF
      refine bodyPost_ret (results_row_tmp' rfl _ _ R _ _ _ _ rfl hF.at_ Tryz.underlying87 rfl (by rw [List.size_toArray, KeptV.zero.len KeptV.zero_len]; exact Tryz.infoKpt)) rfl ?_
      refine ⟨?_, unhide HU⟩
      unfold lowK
      rw [unhide hlow]
      rfl

end Go.Proofs.YtjpmomdechibmaaGreatDoor

/-
  The shelf: Insert.
-/
namespace Go.Proofs.YtjpmomdechibmaaGreatDoor
set_option linter.unusedVariables false
set_option linter.unusedSimpArgs false
open Go.RowKit

theorem layIn_mid (P Z R Q : List Value) (o : Nat) (ho : P.length = o) (h : Z.length = Q.length) : layIn (P ++ (Z ++ R)).toArray o Q = (P ++ (Q ++ R)).toArray := by
  apply Array.ext'
  apply List.ext_getElem?
  intro j
  have hsz : (P ++ (Z ++ R)).toArray.size = P.length + (Z.length + R.length) := by simp
  rw [Array.getElem?_toList, layIn_get _ _ _ _ (by rw [hsz]; omega), List.getElem?_toArray]
  by_cases h1 : o ≤ j ∧ j < o + Q.length
  · rw [if_pos h1, List.getElem?_append_right (by omega), List.getElem?_append_left (by omega), ho]
  · rw [if_neg h1]
    by_cases h2 : j < o
    · rw [List.getElem?_append_left (by omega), List.getElem?_append_left (by omega)]
    · rw [List.getElem?_append_right (by omega), List.getElem?_append_right (by omega), List.getElem?_append_right (by omega), List.getElem?_append_right (by omega), h]
theorem flat_at (X : List KeptV) {i : Nat} {x : KeptV} (h : X[i]? = some x) : X.flatMap KeptV.cells = (X.take i).flatMap KeptV.cells ++ (x.cells ++ (X.drop (i + 1)).flatMap KeptV.cells) := by
  have hlt := (List.getElem?_eq_some_iff.1 h).1
  have hx := (List.getElem?_eq_some_iff.1 h).2
  conv => lhs; rw [← List.take_append_drop i X]
  rw [List.flatMap_append, List.drop_eq_getElem_cons hlt, hx, List.flatMap_cons]
/-- A kept secret laid into the shelf. -/
theorem ChP.putKept {w : World} {g : Nat} {S : Nat → Prop} {c : Ch} {lv nv av : Value} (h : ChP w g S c lv nv av) {i : Nat} {p k : KeptV} (hi : c.shelf[i]? = some p) (hk : k.told.length = 32) :
    stOk w g (48 + i * 34) 34 k.cells.toArray = true ∧ ChP (w.setCells g (48 + i * 34) k.cells) g S { c with shelf := c.shelf.set i k } lv nv av := by
  have hl := h.ok.s.seed
  have hlt := (List.getElem?_eq_some_iff.1 hi).1
  have hp := h.ok.shelf.2 p (List.mem_of_getElem? hi)
  have h37 : c.s.cells.length = 37 := c.s.len hl
  have h17 := h.ok.shelf.1
  have hpre : (c.s.cells ++ (c.k.cells ++ [.int .u64 c.loc, .int .u64 c.rem, lv])).length = 48 := by
    rw [List.length_append, List.length_append, h37]
    rfl
  have htk : ((c.shelf.take i).flatMap KeptV.cells).length = i * 34 := by
    rw [told_len _ (fun q hq => h.ok.shelf.2 q (List.mem_of_mem_take hq)), List.length_take, Nat.min_eq_left (by omega)]
  have hc : ∀ (s : List KeptV), (({ c with shelf := s } : Ch).v lv nv av).cells = (c.s.cells ++ (c.k.cells ++ [.int .u64 c.loc, .int .u64 c.rem, lv])) ++ (s.flatMap KeptV.cells ++ [nv, av]) := by
    intro s
    show c.s.cells ++ (c.k.cells ++ (Value.int .u64 c.loc :: .int .u64 c.rem :: lv :: (s.flatMap KeptV.cells ++ [nv, av]))) = _
    simp
  have e1 : (c.v lv nv av).cells = ((c.s.cells ++ (c.k.cells ++ [.int .u64 c.loc, .int .u64 c.rem, lv])) ++ (c.shelf.take i).flatMap KeptV.cells) ++ (p.cells ++ ((c.shelf.drop (i + 1)).flatMap KeptV.cells ++ [nv, av])) := by
    refine (hc c.shelf).trans ?_
    rw [flat_at c.shelf hi]
    simp only [List.append_assoc]
  have hset : (c.shelf.set i k)[i]? = some k := by rw [List.getElem?_set_self hlt]
  have e2 : (({ c with shelf := c.shelf.set i k } : Ch).v lv nv av).cells = ((c.s.cells ++ (c.k.cells ++ [.int .u64 c.loc, .int .u64 c.rem, lv])) ++ (c.shelf.take i).flatMap KeptV.cells) ++ (k.cells ++ ((c.shelf.drop (i + 1)).flatMap KeptV.cells ++ [nv, av])) := by
    refine (hc _).trans ?_
    rw [flat_at (c.shelf.set i k) hset, List.take_set_of_le (Nat.le_refl _), List.drop_set_of_lt (by omega)]
    simp only [List.append_assoc]
  have hP : ((c.s.cells ++ (c.k.cells ++ [.int .u64 c.loc, .int .u64 c.rem, lv])) ++ (c.shelf.take i).flatMap KeptV.cells).length = 48 + i * 34 := by
    rw [List.length_append, hpre, htk]
  have hsz : 48 + i * 34 + 34 ≤ (c.v lv nv av).cells.toArray.size := by
    rw [List.size_toArray, e1, List.length_append, hP, List.length_append, p.len hp]
    omega
  have hput := blk_setCells h.at_ (48 + i * 34) k.cells
  rw [e1, layIn_mid _ _ _ _ _ hP (by rw [p.len hp, k.len hk]), ← e2] at hput
  refine ⟨stOk_blk h.at_ hsz (by rw [List.size_toArray, k.len hk]) (by rw [Array.all_eq_true_iff_forall_mem]; intro v hv; exact k.one v (by simpa using hv)), ?_⟩
  have u : Upd (· = g) w (w.setCells g (48 + i * 34) k.cells) := (Upd.refl _ _).setCells _ _
  have ty : ∀ {T : TypeId} {v : Value} {n : Nat} {xs : List Value}, T ≠ 92 → w.ownsRow 0 T 38 v n xs → ∀ k, v.ownBlock = some k → ¬ k = g := by
    intro T v n xs hT hr k hk e
    obtain ⟨cur, hc⟩ := own_blk' hr k hk
    exact apart_ty' hc h.at_ hT e
  refine ⟨hput, ⟨h.ok.s, h.ok.signed, h.ok.heard, h.ok.nextOwn, h.ok.nextTheirs, h.ok.loc, h.ok.rem, h.ok.xs, h.ok.few, ?_, h.ok.news, h.ok.last, h.ok.many⟩, ?_, ?_, ?_, h.inG, h.inL, h.inN, h.inA, h.sep, fun k hk => Nat.lt_of_lt_of_le (h.lt k hk) u.size⟩
  · refine ⟨by show (c.shelf.set i k).length = 17; rw [List.length_set]; exact h17, fun q hq => ?_⟩
    rcases List.mem_or_eq_of_mem_set hq with e | e
    · exact h.ok.shelf.2 q e
    · rw [e]; exact hk
  · exact row_upd' h.live u (ty (by decide) h.live)
  · exact row_upd' h.news u (ty (by decide) h.news)
  · exact row_upd' h.last u (ty (by decide) h.last)

attribute [local go_sem ↓ high] ld_hsh_fold st_hsh_fold al_hsh_fold bd_hsh_fold ld_kpt_fold st_kpt_fold al_kpt_fold bd_kpt_fold ne_hsh_fold
attribute [local go_sem] ld_hsh st_hsh al_hsh bd_hsh rowN_drew ld_kpt st_kpt al_kpt bd_kpt_zero

def insErr (told : List Int) (i : Int) (ps : List KeptV) : Int := if canB i i = false then 1 else if (lowX told i (ps.take (placeI i))).isSome = true then 50 else 0
def insL (told : List Int) (i : Int) (ps : List KeptV) : List KeptV := if insErr told i ps = 0 then ps.set (placeI i) ⟨true, i, told⟩ else ps
set_option maxRecDepth 100000 in
set_option maxHeartbeats 1000000 in
theorem insert_any (g : Nat) (S : Nat → Prop) (c : Ch) (lv nv av : Value) (told : List Int) (ht : told.length = 32) (hb : Bytes told) (i : Int) (w : World) (h : ChP w g S c lv nv av) (hby : ∀ p ∈ c.shelf, Bytes p.told) (hT : Tabs w) (hD : Deb w) :
    Calls Tryz.prog 104 #[.pointer (some ⟨g, 48, none⟩), .int .i64 i, .agg (hshV told).toArray] w fun e w' =>
      e = .returned (.int .i64 (insErr told i c.shelf)) ∧ ChP w' g S { c with shelf := insL told i c.shelf } lv nv av ∧ Upd (· = g) w w' := by
  go_enter Tryz.func104, Tryz.ntmps104
  go_upto_region 1 with fail
  have hcI : ((w.alloc (.cells #[.int .i64 i] 3)).alloc (.cells (hshV told).toArray 28)).cell? ⟨w.heap.size, 0, none⟩ = some (.int .i64 i) := by
    rw [blk_cell (blk_alloc_old (blk_alloc _ _) _)]; rfl
  have hA := hs_alloc (w.alloc (.cells #[.int .i64 i] 3)) told ht
  rw [World.size_alloc] at hA
  have n1 : New w ((w.alloc (.cells #[.int .i64 i] 3)).alloc (.cells (hshV told).toArray 28)) := ((Upd.refl _ _).alloc _).alloc _
  generalize (w.alloc (.cells #[.int .i64 i] 3)).alloc (.cells (hshV told).toArray 28) = w1 at hcI hA n1 ⊢
  have hglt := h.lt g h.inG
  obtain ⟨I, hIe⟩ : ∃ I, I = w.heap.size := ⟨_, rfl⟩
  obtain ⟨A, hAe⟩ : ∃ A, A = w.heap.size + 1 := ⟨_, rfl⟩
  rw [← hAe] at hA ⊢
  rw [← hIe] at hcI ⊢
  have hgA : g ≠ A := by omega
  have hgI : g ≠ I := by omega
  clear hIe hAe hglt
  have hcan := can_any i i w1 (hD.new n1)
  have H1 := hide (h.new n1)
  have HA := hide hA
  have HT := hide (hT.new n1)
  have HD := hide (hD.new n1)
  have HN := hide n1
  have h17 := h.ok.shelf.1
  have hie : insErr told i c.shelf = if canB i i = false then 1 else if (lowX told i (c.shelf.take (placeI i))).isSome = true then 50 else 0 := rfl
  have hil : insL told i c.shelf = if insErr told i c.shelf = 0 then c.shelf.set (placeI i) ⟨true, i, told⟩ else c.shelf := rfl
  have HIE := hide hie
  have HIL := hide hil
  have hpl := placeI_le i
  clear h hA hT hD n1 hie hil
  go_wp2_with fail
  refine hcan.mono ?_
  rintro e w2 ⟨rfl, q2⟩
  have hcI2 := q2.cell hcI
  have n2 : New w1 w2 := q2.upd _
  clear hcan hcI
  cases hc : canB i i with
  | false =>
    rw [hc, if_pos rfl] at HIE
    rw [unhide HIE, if_neg (by decide)] at HIL
    have HU := hide (((unhide HN).trans n2).mono (T := (· = g)) (fun _ _ h => h.elim))
    have H2 := hide ((unhide H1).new n2)
    clear q2 n2 hcI2
    go_wp2_with fail
    go_ret
    rw [unhide HIL, unhide HIE]
    exact ⟨rfl, unhide H2, unhide HU⟩
  | true =>
    rw [hc, if_neg (by decide)] at HIE
    have hp := secPlace_any i w2 ((unhide HD).new n2)
    go_upto_region 3 with fail
    have N2 := hide n2
    clear q2 n2
    go_wp2_with fail
    refine hp.mono ?_
    rintro e w3 ⟨rfl, q3⟩
    have n3 : New w1 w3 := (unhide N2).trans (q3.upd _)
    have hcI3 := q3.cell hcI2
    have hlo := lowest_any g S c lv nv av (placeI i) told ht hb i A I w3 ((unhide H1).new n3) hby (by omega) ((unhide HA).new n3) hcI3 ((unhide HT).new n3) ((unhide HD).new n3)
    have N3 := hide n3
    clear hp n3 q3 hcI2 hc
    have hkl : (lowK told i (c.shelf.take (placeI i))).told.length = 32 := by
      unfold lowK
      cases e : lowX told i (c.shelf.take (placeI i)) with
      | none => exact KeptV.zero_len
      | some p =>
        unfold lowX at e
        exact (unhide H1).ok.shelf.2 p (List.mem_of_mem_take (List.mem_of_find?_eq_some e))
    generalize lowK told i (c.shelf.take (placeI i)) = K at *
    generalize lowX told i (c.shelf.take (placeI i)) = L at *
    generalize placeI i = P at *
    go_upto_region 4 with fail
    go_wp2_with fail
    refine hlo.mono ?_
    rintro e w4 ⟨rfl, n4⟩
    have hcI4 := n4.cell hcI3 (fun h => h)
    have ha := kp_alloc w4 KeptV.zero KeptV.zero_len
    have hst := ha.stOk hkl
    have nput : New w4 ((w4.alloc (.cells KeptV.zero.cells.toArray 87)).setCells w4.heap.size 0 K.cells) := (((Upd.refl (fun _ => False) w4).alloc _)).then (upd_sets _) (fun i hi e => by omega)
    have n5 := ((unhide N3).trans n4).trans nput
    have hcI5 := nput.cell hcI4 (fun h => h)
    have N5 := hide n5
    clear hlo n4 ha nput n5 hcI3 hcI4
    go_upto_region 5 with fail
    generalize (w4.alloc (.cells KeptV.zero.cells.toArray 87)).setCells w4.heap.size 0 K.cells = w5 at hcI5 N5 ⊢
    clear hst
    generalize w4.heap.size = k5
    cases hL : L.isSome with
    | true =>
      rw [hL, if_pos rfl] at HIE
      rw [unhide HIE, if_neg (by decide)] at HIL
      have HU := hide (((unhide HN).trans (unhide N5)).mono (T := (· = g)) (fun _ _ h => h.elim))
      have H5 := hide ((unhide H1).new (unhide N5))
      clear hcI5
      go_wp2_with fail
      go_ret
      rw [unhide HIL, unhide HIE]
      exact ⟨rfl, unhide H5, unhide HU⟩
    | false =>
      rw [hL, if_neg (by decide)] at HIE
      rw [unhide HIE, if_pos rfl] at HIL
      go_upto_region 7 with fail
      have nd : New w5 w5.drew := (Upd.refl _ _).drew
      have hP5 := ((unhide H1).new (unhide N5)).new nd
      obtain ⟨p, hp⟩ : ∃ p, c.shelf[P]? = some p := ⟨_, List.getElem?_eq_getElem (by omega)⟩
      obtain ⟨hst, hput⟩ := hP5.putKept hp (k := ⟨true, i, told⟩) ht
      have hbd := fun W => bd_kpt true i told ht W
      have rA := ((unhide HA).new (unhide N5)).row
      have HP := hide hput
      have u6 : Upd (· = g) w5.drew (w5.drew.setCells g (48 + P * 34) (KeptV.cells ⟨true, i, told⟩)) := (Upd.refl _ _).setCells _ _
      have HU := hide (((((unhide HN).trans (unhide N5)).trans nd).mono (T := (· = g)) (fun _ _ h => h.elim)).trans u6)
      have hPb : (P : Int) ≤ 16 := by omega
      clear hput hP5 hp nd u6
      go_wp2_with (first | ((with_reducible apply tp); rfl; rfl; intro _ _ _) | ((with_reducible apply tr); rfl; intro _ _) | ((with_reducible apply te); rfl; intro _ _) | (with_reducible rfl) | (with_reducible apply tn) | ((with_reducible apply wp_txt); kernel_rfl; decide +kernel))
      go_ret
      rw [unhide HIL, unhide HIE]
      exact ⟨rfl, unhide HP, unhide HU⟩

end Go.Proofs.YtjpmomdechibmaaGreatDoor
