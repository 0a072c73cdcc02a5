/-
  The reference's reader of bytes.
-/
import Derived.Test.YtfmkdoachjgjbaaGreatDoorMdi
set_option linter.unusedVariables false
set_option linter.unusedSimpArgs false
namespace Go.Proofs.YtfmkdoachjgjbaaGreatDoor
open Go.RowKit

/-- A reader of the reference, of which s is left. -/
def RdR (w : World) (g : Nat) (s : ByteArray) : Prop := w.heap[g]? = some (.cells #[.string s] 131 (0, 0))
theorem RdR.new {w w' : World} {g : Nat} {s : ByteArray} (h : RdR w g s) (n : New w w') : RdR w' g s := n.old h (fun h => h)
theorem RdR.lt {w : World} {g : Nat} {s : ByteArray} (h : RdR w g s) : g < w.heap.size := blk_lt h
theorem RdR.upd {w w' : World} {g : Nat} {s : ByteArray} {T : Nat → Prop} (h : RdR w g s) (u : Upd T w w') (hT : ¬ T g) : RdR w' g s := u.old h hT
theorem rdN_step (s : ByteArray) (i : Nat) (hi : i < 8) : IntKind.u64.wrap (rdN s i * 256) = rdN s i * 256 ∧ IntKind.u64.wrap (rdN s i * 256 + bt s i) = rdN s (i + 1) := by
  obtain ⟨h1, h2, h3⟩ := rdN_wrap s i hi
  have hb := bt_bd s i
  exact ⟨h1, by rw [wrapU (by omega) (by omega)]; rfl⟩
set_option maxRecDepth 100000 in
set_option maxHeartbeats 1000000 in
theorem refNum_ok (g n : Nat) (s : ByteArray) (w : World) (h : RdR w g s) (h1 : 1 ≤ n) (h8 : n ≤ 8) (hs : n ≤ s.size) :
    Calls Tryz.prog 59 #[.pointer (some ⟨g, 0, none⟩), .int .i64 n] w fun e w' => e = .returned (.tuple #[.int .u64 (rdN s n), .int .i64 0]) ∧ Upd (fun k => k = g) w w' ∧ RdR w' g (s.extract n s.size) := by
  have hc : w.cell? ⟨g, 0, none⟩ = some (.string s) := blk_cell h 0
  have hf : w.frozen? ⟨g, 0, none⟩ = false := blk_free h 0
  have h1' : (1 : Int) ≤ n := by omega
  have h8' : (n : Int) ≤ 8 := by omega
  have hn' : ¬ (s.size : Int) < (n : Int) := by omega
  have hn2 : (n : Int) ≤ (s.size : Int) := by omega
  have hlt : decide ((n : Int) < 1) = false := by simp; omega
  have hgt : decide ((8 : Int) < (n : Int)) = false := by simp; omega
  have HX := hide h
  clear h
  go_enter Tryz.func59, Tryz.ntmps59
  go_wp2_with fail
  clear hlt hgt
  obtain ⟨wo, rfl⟩ : ∃ wo : World, wo = w := ⟨_, rfl⟩
  go_loopw [6, 7] (fun nv iv wr => ∃ i : Nat, nv = .int .u64 (rdN s i) ∧ iv = .int .i64 (i : Int) ∧ i ≤ n ∧ wr = wo) (fun _ iv _ => n - (intOf iv).toNat)
  case atStart => exact ⟨0, rfl, rfl, Nat.zero_le _, rfl⟩
  case round =>
    obtain ⟨i, rfl, rfl, hi, rfl⟩ := hrel
    by_cases hlt : i < n
    · have hi0 : (i : Int) < (n : Int) := by omega
      obtain ⟨c1, c2⟩ := rdN_step s i (by omega)
      have hix : ∀ w, (Instr.index 9 (.string s) (.int .i64 (i : Int))).run Tryz.prog w = .ok (.int .u8 (bt s i)) w := run_index_at 9 s .i64 i i Tryz.underlying9 rfl (by omega)
      obtain ⟨b1, b2⟩ := bt_bd s i
      have c3 : IntKind.u64.wrap (bt s i) = bt s i := wrapU (by omega) (by omega)
      generalize hy : rdN s i = y at *
      generalize hb : bt s i = b at *
      generalize hz : rdN s (i + 1) = z at *
      have HZ := hide hz
      clear hy hb hz
      go_wp2_with fail
      go_roundw
      case rel => exact ⟨i + 1, by rw [unhide HZ], by go_num, by omega, by trivial⟩
      case measure => simp [intOf]; omega
    · obtain rfl : i = n := by omega
      generalize hV : rdN s i = V
      have HV := hide hV
      clear hV
      go_wp2_with fail
      go_ret2
      exact ⟨by rw [unhide HV]; rfl, (Upd.refl _ _).set1 _ _, blk_set (unhide HX) 0 _⟩
/-- A hash whose first i bytes are set. -/
def hcur (s : ByteArray) (i : Nat) : List Int := (List.range 32).map fun j => if j < i then bt s j else 0
theorem hcur_len (s : ByteArray) (i : Nat) : (hcur s i).length = 32 := by unfold hcur; simp
theorem hcur_zero (s : ByteArray) : hcur s 0 = z32i := by
  have e : hcur s 0 = (List.range 32).map fun _ => (0 : Int) := by
    unfold hcur
    refine List.map_congr_left (fun j _ => if_neg (Nat.not_lt_zero j))
  rw [e]
  decide
theorem hcur_all (s : ByteArray) : hcur s 32 = rdH s := by
  unfold hcur rdH
  refine List.map_congr_left (fun j hj => if_pos (List.mem_range.1 hj))
theorem hcur_set (s : ByteArray) (i : Nat) : (hshV (hcur s i)).toArray.setIfInBounds i (.int .u8 (bt s i)) = (hshV (hcur s (i + 1))).toArray := by
  rw [List.setIfInBounds_toArray]
  congr 1
  unfold hshV
  refine List.ext_getElem (by simp [hcur]) ?_
  intro j h1 h2
  have hj : j < 32 := by simpa [hcur] using h2
  rw [List.getElem_set, List.getElem_map, List.getElem_map]
  unfold hcur
  rw [List.getElem_map, List.getElem_map, List.getElem_range]
  by_cases hji : i = j
  · subst hji
    rw [if_pos rfl, if_pos (by omega)]
  · rw [if_neg hji]
    by_cases hl : j < i
    · rw [if_pos hl, if_pos (by omega)]
    · rw [if_neg hl, if_neg (by omega)]
attribute [local go_sem ↓ high] ld_hsh_fold st_hsh_fold al_hsh_fold bd_hsh_fold
attribute [local go_sem] ld_hsh st_hsh al_hsh bd_hsh rowN_drew
set_option maxRecDepth 100000 in
set_option maxHeartbeats 1000000 in
theorem refHash_ok (g : Nat) (s : ByteArray) (w : World) (h : RdR w g s) (hs : 32 ≤ s.size) :
    Calls Tryz.prog 60 #[.pointer (some ⟨g, 0, none⟩)] w fun e w' => e = .returned (.tuple #[.agg (hshV (rdH s)).toArray, .int .i64 0]) ∧ Upd (fun k => k = g) w w' ∧ RdR w' g (s.extract 32 s.size) := by
  have hgl := h.lt
  have hn2 : (32 : Int) ≤ (s.size : Int) := by omega
  have hn' : ¬ (s.size : Int) < 32 := by omega
  go_enter Tryz.func60, Tryz.ntmps60
  go_upto_region 1 with fail
  have n0 : New w (w.alloc (.cells (hshV z32i).toArray 35)) := (Upd.refl _ _).alloc _
  have h0 := hs_alloc w z32i z32i_len
  have z0 : (w.alloc (.cells (hshV z32i).toArray 35)).heap.size = w.heap.size + 1 := World.size_alloc _ _
  have hH := h.new n0
  generalize w.alloc (.cells (hshV z32i).toArray 35) = w0 at n0 h0 z0 hH ⊢
  obtain ⟨hst, hB, n1⟩ := hs_fresh w0 z32i z32i_len
  have Z0 := hide z0
  clear z0
  go_upto_region 2 with fail
  change Code.wp _ _ _ _ (hsNew w0 z32i)
  generalize hsNew w0 z32i = w1 at hB n1 ⊢
  have z0 := unhide Z0
  clear Z0
  generalize hRe : w.heap.size = RS at h0 z0 ⊢
  generalize hAe : w0.heap.size = A at hB hst z0 ⊢
  have HE := hide (And.intro hRe z0)
  have hR1 := h0.new n1
  have hg1 := hH.new n1
  have hc : w1.cell? ⟨g, 0, none⟩ = some (.string s) := blk_cell hg1 0
  have HX := hide (And.intro hR1 (And.intro hg1 (n0.trans n1)))
  have HB := hide hB
  clear hst hRe hAe z0 h0 hH n0 n1 hR1 hg1 hB h
  go_wp2_with fail
  go_loopw [5] (fun iv wr => ∃ i : Nat, iv = .int .i64 (i : Int) ∧ i ≤ 32 ∧ Hid (HsB wr A (hcur s i)) ∧ Upd (· = A) w1 wr) (fun iv _ => 32 - (intOf iv).toNat)
  case atStart => exact ⟨0, rfl, by decide, hide (by rw [hcur_zero]; exact unhide HB), Upd.refl _ _⟩
  case round =>
    obtain ⟨i, rfl, hi, hM, u⟩ := hrel
    obtain ⟨wq, rfl⟩ : ∃ wq : World, wq = wr := ⟨_, rfl⟩
    obtain ⟨hRe, hz0⟩ := unhide HE
    have hgA : g ≠ A := by omega
    have hRA : RS ≠ A := by omega
    have HRG := hide (And.intro hRe hz0)
    have hgR : g ≠ RS := by omega
    clear hRe hz0
    by_cases hlt : i < 32
    · have hi0 : (i : Int) < 32 := by omega
      have hix : ∀ w, (Instr.index 9 (.string s) (.int .i64 (i : Int))).run Tryz.prog w = .ok (.int .u8 (bt s i)) w := run_index_at 9 s .i64 i i Tryz.underlying9 rfl (by omega)
      have dc := u.cell hc hgA
      have hA := unhide hM
      have ca : wq.cell? ⟨A, i, none⟩ = some (.int .u8 ((hcur s i).getD i 0)) := by
        rw [blk_cell hA.at_ i, List.getElem?_toArray]
        unfold hshV
        rw [List.getElem?_map, List.getElem?_eq_getElem (by rw [hcur_len]; exact hlt)]
        simp [List.getD, List.getElem?_eq_getElem (show i < (hcur s i).length by rw [hcur_len]; exact hlt)]
      have fa : wq.frozen? ⟨A, i, none⟩ = false := blk_free hA.at_ i
      have hA2 : HsB (wq.setCell ⟨A, i, none⟩ (.int .u8 (bt s i))) A (hcur s (i + 1)) := ⟨by
        have := blk_set hA.at_ i (.int .u8 (bt s i))
        rwa [hcur_set] at this, hcur_len _ _⟩
      have u2 := u.set1 i (.int .u8 (bt s i))
      have H2 := hide (And.intro hA2 u2)
      generalize (hcur s i).getD i 0 = old at ca
      generalize bt s i = b at *
      clear hA hA2 u2 hM u HB
      go_wp2_with fail
      go_roundw
      case rel => exact ⟨i + 1, by go_num, by omega, hide (unhide H2).1, (unhide H2).2⟩
      case measure => simp [intOf]; omega
    · obtain rfl : i = 32 := by omega
      have hA := unhide hM
      rw [hcur_all] at hA
      obtain ⟨hR1, hg1, nn⟩ := unhide HX
      have hg2 := hg1.upd u hgA
      have dc : wq.cell? ⟨g, 0, none⟩ = some (.string s) := blk_cell hg2 0
      have df : wq.frozen? ⟨g, 0, none⟩ = false := blk_free hg2 0
      have hg3 : RdR (wq.setCell ⟨g, 0, none⟩ (.string (s.extract 32 s.size))) g (s.extract 32 s.size) := blk_set hg2 0 _
      have u3 : Upd (· = g) wq (wq.setCell ⟨g, 0, none⟩ (.string (s.extract 32 s.size))) := (Upd.refl _ _).set1 _ _
      have hA3 := hA.upd u3 (fun e => hgA e.symm)
      have hR2 := (hR1.upd u hRA).upd u3 (fun e => hgR e.symm)
      have rA := hA3.row
      have st := hR2.stOk (rdH s) (rdH_len s)
      have hR3 := hR2.put (rdH s) (rdH_len s)
      have u4 : Upd (· = RS) (wq.setCell ⟨g, 0, none⟩ (.string (s.extract 32 s.size))) ((wq.setCell ⟨g, 0, none⟩ (.string (s.extract 32 s.size))).setCells RS 0 (hshV (rdH s))) := upd_sets _
      have HF := hide (And.intro hR3 (And.intro (hg3.upd u4 hgR) (And.intro nn (And.intro u (And.intro u3 u4)))))
      clear hA hM hg2 hg3 u3 hA3 hR2 hR3 u4 hR1 hg1 nn u HX HB
      go_wp2_with fail
      obtain ⟨hR3, hg4, nn, u, u3, u4⟩ := unhide HF
      refine bodyPost_ret (results_row_tmp' rfl _ _ RS _ _ _ _ rfl hR3.at_ Tryz.underlying35 rfl (by rw [List.size_toArray, hshV_len, rdH_len]; exact Tryz.infoHsh)) rfl ?_
      obtain ⟨hRe, hz0⟩ := unhide HRG
      have uA : Upd (fun k => k = g ∨ k = A ∨ k = RS) w1 ((wq.setCell ⟨g, 0, none⟩ (.string (s.extract 32 s.size))).setCells RS 0 (hshV (rdH s))) := ((u.mono (fun k _ e => (.inr (.inl e) : k = g ∨ k = A ∨ k = RS))).trans (u3.mono (fun k _ e => .inl e))).trans (u4.mono (fun k _ e => .inr (.inr e)))
      exact ⟨rfl, (nn.mono (fun _ _ h => h.elim)).then uA (fun k hk e => by omega), hg4⟩
end Go.Proofs.YtfmkdoachjgjbaaGreatDoor
namespace Go.Proofs.YtfmkdoachjgjbaaGreatDoor
open Go.RowKit

/-- A field's letter. -/
def Fld.ltr : Fld → Nat
  | .ch => 0
  | .id => 105
  | .amount => 97
  | .hash => 104
  | .expiry => 101
  | .number => 110
def lettersOf (k : Int) : List Fld :=
  if k = 1 then [.amount] else if k = 3 then [.id, .amount, .hash, .expiry] else if k = 4 then [.id, .hash] else if k = 5 then [.id, .number] else if k = 6 ∨ k = 7 then [.number, .hash] else if k = 9 then [.number, .id] else []
def letS (xs : List Fld) : ByteArray := ⟨(xs.map fun x => x.ltr.toUInt8).toArray⟩
theorem letS_size (xs : List Fld) : (letS xs).size = xs.length := by simp [letS, ByteArray.size]
theorem ltr_byte (x : Fld) : (x.ltr.toUInt8.toNat : Int) = x.ltr := by cases x <;> rfl
theorem letS_bt {xs : List Fld} {i : Nat} {x : Fld} (h : xs[i]? = some x) : bt (letS xs) i = x.ltr := by
  unfold bt letS
  rw [List.getD_eq_getElem?_getD]
  show (((xs.map fun x : Fld => x.ltr.toUInt8)[i]?.getD 0).toNat : Int) = _
  rw [List.getElem?_map, h]
  exact ltr_byte x
set_option maxHeartbeats 1000000 in
theorem refFields_any (k : Int) (w : World) : Calls Tryz.prog 57 #[.int .i64 k] w (Reads (.string (letS (lettersOf k))) w) := by
  have d1 : ∀ n : Int, k ≠ n → (k == n) = false := fun n h => beq_eq_false_iff_ne.2 h
  unfold lettersOf
  by_cases h1 : k = 1
  · subst h1
    rw [if_pos rfl]
    go_enter Tryz.func57, Tryz.ntmps57
    go_wp2_with fail
    go_ret
    exact ⟨rfl, Q.refl _⟩
  have e1 := d1 1 h1
  by_cases h3 : k = 3
  · subst h3
    rw [if_neg h1, if_pos rfl]
    go_enter Tryz.func57, Tryz.ntmps57
    go_wp2_with fail
    go_ret
    exact ⟨rfl, Q.refl _⟩
  have e3 := d1 3 h3
  by_cases h4 : k = 4
  · subst h4
    rw [if_neg h1, if_neg h3, if_pos rfl]
    go_enter Tryz.func57, Tryz.ntmps57
    go_wp2_with fail
    go_ret
    exact ⟨rfl, Q.refl _⟩
  have e4 := d1 4 h4
  by_cases h5 : k = 5
  · subst h5
    rw [if_neg h1, if_neg h3, if_neg h4, if_pos rfl]
    go_enter Tryz.func57, Tryz.ntmps57
    go_wp2_with fail
    go_ret
    exact ⟨rfl, Q.refl _⟩
  have e5 := d1 5 h5
  by_cases h6 : k = 6
  · subst h6
    rw [if_neg h1, if_neg h3, if_neg h4, if_neg h5, if_pos (.inl rfl)]
    go_enter Tryz.func57, Tryz.ntmps57
    go_wp2_with fail
    go_ret
    exact ⟨rfl, Q.refl _⟩
  have e6 := d1 6 h6
  by_cases h7 : k = 7
  · subst h7
    rw [if_neg h1, if_neg h3, if_neg h4, if_neg h5, if_pos (.inr rfl)]
    go_enter Tryz.func57, Tryz.ntmps57
    go_wp2_with fail
    go_ret
    exact ⟨rfl, Q.refl _⟩
  have e7 := d1 7 h7
  rw [if_neg h1, if_neg h3, if_neg h4, if_neg h5, if_neg (fun e => e.elim h6 h7)]
  by_cases h9 : k = 9
  · subst h9
    rw [if_pos rfl]
    go_enter Tryz.func57, Tryz.ntmps57
    go_wp2_with fail
    go_ret
    exact ⟨rfl, Q.refl _⟩
  have e9 := d1 9 h9
  rw [if_neg h9]
  clear d1
  go_enter Tryz.func57, Tryz.ntmps57
  go_wp2_with fail
  go_ret
  exact ⟨rfl, Q.refl _⟩
set_option maxHeartbeats 1000000 in
theorem refWidth_any (x : Fld) (hx : x ≠ .ch) (w : World) : Calls Tryz.prog 58 #[.int .u8 (x.ltr : Int)] w (Reads (.int .i64 (x.wid : Int)) w) := by
  cases x
  · exact absurd rfl hx
  all_goals
    unfold Fld.ltr Fld.wid
    go_enter Tryz.func58, Tryz.ntmps58
    go_wp2_with fail
    go_ret
    exact ⟨rfl, Q.refl _⟩
def inL (xs : List Fld) (c : Nat) : Bool := xs.any fun y => y.ltr == c
theorem inL_take {xs : List Fld} {i : Nat} {x : Fld} (h : xs[i]? = some x) (c : Nat) : inL (xs.take (i + 1)) c = (inL (xs.take i) c || (x.ltr == c)) := by
  unfold inL
  rw [List.take_add_one, h, List.any_append]
  simp
set_option maxRecDepth 100000 in
set_option maxHeartbeats 1000000 in
theorem refIn_any (xs : List Fld) (hxl : xs.length ≤ 100) (c : Nat) (w : World) : Calls Tryz.prog 100 #[.string (letS xs), .int .u8 (c : Int)] w (Reads (.bool (inL xs c)) w) := by
  have hz := letS_size xs
  have HI := hide (fun i x (h : xs[i]? = some x) => letS_bt h)
  generalize letS xs = s at hz HI ⊢
  have hll : (s.size : Int) ≤ 100 := by omega
  go_enter Tryz.func100, Tryz.ntmps100
  go_wp2_with fail
  obtain ⟨wo, rfl⟩ : ∃ wo : World, wo = w := ⟨_, rfl⟩
  go_loopw [5] (fun iv wr => ∃ i : Nat, iv = .int .i64 (i : Int) ∧ i ≤ xs.length ∧ Hid (inL (xs.take i) c = false) ∧ wr = wo) (fun iv _ => xs.length - (intOf iv).toNat)
  case atStart => exact ⟨0, rfl, Nat.zero_le _, hide rfl, rfl⟩
  case round =>
    obtain ⟨i, rfl, hi, hn, rfl⟩ := hrel
    by_cases hlt : i < xs.length
    · obtain ⟨x, hx⟩ : ∃ x, xs[i]? = some x := ⟨_, List.getElem?_eq_getElem hlt⟩
      have hi0 : (i : Int) < (s.size : Int) := by omega
      have hix : ∀ w, (Instr.index 9 (.string s) (.int .i64 (i : Int))).run Tryz.prog w = .ok (.int .u8 (x.ltr : Int)) w := fun w => by
        rw [← unhide HI i x hx]
        exact run_index_at 9 s .i64 i i Tryz.underlying9 rfl (by omega) w
      have ht := inL_take hx c
      rw [unhide hn, Bool.false_or] at ht
      have HT := hide ht
      have hmem := List.mem_of_getElem? hx
      by_cases hc : x.ltr = c
      · have hb : ((x.ltr : Int) == (c : Int)) = true := by rw [hc]; exact beq_self_eq_true _
        have hfin : inL xs c = true := by
          unfold inL
          exact List.any_eq_true.2 ⟨x, hmem, by rw [hc]; exact beq_self_eq_true _⟩
        have HF := hide hfin
        generalize (x.ltr : Int) = l at *
        clear ht hfin hx hn hmem
        go_wp2_with fail
        go_ret
        exact ⟨by rw [unhide HF]; rfl, Q.refl _⟩
      · have hb : ((x.ltr : Int) == (c : Int)) = false := beq_eq_false_iff_ne.2 (by omega)
        have hn2 : Hid (inL (xs.take (i + 1)) c = false) := hide (by rw [unhide HT]; exact beq_eq_false_iff_ne.2 hc)
        generalize (x.ltr : Int) = l at *
        clear ht hx hn hmem
        go_wp2_with fail
        go_roundw
        case rel => exact ⟨i + 1, by go_num, by omega, hn2, by trivial⟩
        case measure => simp [intOf]; omega
    · obtain rfl : i = xs.length := by omega
      have hfin : inL xs c = false := by
        have := unhide hn
        rwa [List.take_length] at this
      have HF := hide hfin
      clear hfin hn
      go_wp2_with fail
      go_ret
      exact ⟨by rw [unhide HF]; rfl, Q.refl _⟩
end Go.Proofs.YtfmkdoachjgjbaaGreatDoor
