/-
  Package secret: chain.
-/
import Derived.Test.YtjpmomdechibmaaGreatDoorMcb
import Derived.Test.YtjpmomdechibmaaGreatDoorSha5
import Derived.Test.YtjpmomdechibmaaGreatDoorMcg
namespace Go.Proofs.YtjpmomdechibmaaGreatDoor
set_option linter.unusedVariables false
set_option linter.unusedSimpArgs false
open Go.RowKit Go.Shelf
attribute [local go_sem] Oper.semAt_some

attribute [local go_sem ↓ high] ld_hsh_fold st_hsh_fold
theorem KeepsOthers.of_upd {S : Nat → Prop} {W W' : World} (u : Upd S W W') (hS : ∀ k, S k → ∃ cs T fz, W.heap[k]? = some (.cells cs T fz)) : KeepsOthers W W' := by
  refine ⟨u.size, fun k o hk ho => ?_⟩
  refine u.old hk (fun hs => ?_)
  obtain ⟨cs, T, fz, e⟩ := hS k hs
  rw [hk] at e
  rw [Option.some.inj e] at ho
  cases ho
attribute [local go_sem] ld_hsh st_hsh rowN_drew

/-- A bit of a hash flipped; a step of the chain; the chain. -/
def flipB (h : List Int) (b : Nat) : List Int := h.set (b / 8) (bits .xor .u8 (h.getD (b / 8) 0) (2 ^ (b % 8)))
def chStep (h : List Int) (b : Nat) : List Int := sumI (strOfNums (flipB h b))
def chainI (h : List Int) (i d : Nat) : List Int := (hiB i d 0).foldl chStep h
theorem flipB_len (h : List Int) (b : Nat) : (flipB h b).length = h.length := by simp [flipB]
theorem chStep_len (h : List Int) (b : Nat) : (chStep h b).length = 32 := by unfold chStep; exact sumI_len _
theorem fold_len (l : List Nat) : ∀ h : List Int, h.length = 32 → (l.foldl chStep h).length = 32 := by
  induction l with
  | nil => intro h hh; exact hh
  | cons b l ih => intro h _; rw [List.foldl_cons]; exact ih (chStep h b) (chStep_len h b)
theorem chainI_len (h : List Int) (hh : h.length = 32) (i d : Nat) : (chainI h i d).length = 32 := fold_len _ h hh

set_option maxRecDepth 100000 in
set_option maxHeartbeats 1000000 in
theorem ones_any (i d : Nat) (w : World) :
    Calls Tryz.prog 107 #[.int .i64 i, .int .i64 d] w fun e w' => ∃ Bd Bi, e = .returned (.func (.func 127) #[] #[.pointer (some ⟨Bd, 0, none⟩), .pointer (some ⟨Bi, 0, none⟩)]) ∧ New w w' ∧ w.heap.size ≤ Bi ∧ Bd < w'.heap.size ∧ Bi < w'.heap.size ∧ w'.cell? ⟨Bd, 0, none⟩ = some (.int .i64 d) ∧ w'.cell? ⟨Bi, 0, none⟩ = some (.int .i64 i) := by
  go_enter Tryz.func107, Tryz.ntmps107
  go_wp2
  go_ret
  have hb := blk_alloc (w.alloc (.cells #[.int .i64 i] 3)) (.cells #[.int .i64 d] 3)
  rw [World.size_alloc] at hb
  exact ⟨_, _, rfl, ((Upd.refl _ _).alloc _).alloc _, Nat.le_refl _, by simp, by simp; omega, by rw [blk_cell hb]; rfl, by rw [blk_cell (blk_alloc_old (blk_alloc _ _) _)]; rfl⟩

def foldF (h : List Int) (l : List (Fin 16)) : List Int := l.foldl (fun h x => chStep h x.1) h
theorem foldF_cons (h : List Int) (b : Fin 16) (l : List (Fin 16)) : foldF h (b :: l) = foldF (chStep h b.1) l := by unfold foldF; rw [List.foldl_cons]
theorem foldF_len (l : List (Fin 16)) : ∀ h : List Int, h.length = 32 → (foldF h l).length = 32 := by
  induction l with
  | nil => intro h hh; exact hh
  | cons b l ih => intro h _; rw [foldF_cons]; exact ih (chStep h b.1) (chStep_len h b.1)
theorem foldF_snoc (h : List Int) (l : List (Fin 16)) (x : Fin 16) : foldF h (l ++ [x]) = chStep (foldF h l) x.1 := by unfold foldF; rw [List.foldl_append, List.foldl_cons, List.foldl_nil]
theorem foldF_val (h : List Int) (l : List (Fin 16)) : foldF h l = (l.map (·.1)).foldl chStep h := by unfold foldF; rw [List.foldl_map]
theorem blk_kept {W W' : World} {k : Nat} {cs : Array Value} {T : TypeId} {fz : Nat × Nat} {row : Option Nat} (h : W.heap[k]? = some (.cells cs T fz)) (hg : W.grownBy W' row) (hr : ∀ r, row = some r → ∃ o : Obj, W.heap[r]? = some o ∧ o.isCells = false) : W'.heap[k]? = some (.cells cs T fz) := by
  refine (hg.block k (blk_lt h) ?_).trans h
  intro e
  obtain ⟨o, ho, hc⟩ := hr k e.symm
  rw [h] at ho
  rw [← Option.some.inj ho] at hc
  cases hc
set_option maxRecDepth 100000 in
set_option maxHeartbeats 2000000 in
theorem chain_any (h : List Int) (hh : h.length = 32) (i d : Nat) (hi : i < 65536) (hd : d ≤ 16) (w : World) (hT : Tabs w) :
    Calls Tryz.prog 80 #[.agg (hshV h).toArray, .int .i64 i, .int .i64 d] w (Makes (.agg (hshV (chainI h i d)).toArray) w) := by
  refine (callsIn_wide (n := 6)).1 ?_
  refine callsIn_of_wp_marks Tryz.func80 rfl trivial ?_ rfl
  simp only [Tryz.ntmps80, List.size_toArray, List.length_cons, List.length_nil, Nat.reduceAdd, Nat.reduceSub, Array.replicate_succ, Array.replicate_zero, List.push_toArray, List.append_toArray, List.nil_append, List.cons_append]
  gi_wp2
  generalize hz : (Obj.cells #[_, _, _, _, _, _, _, _, _, _, _, _, _, _, _, _, _, _, _, _, _, _, _, _, _, _, _, _, _, _, _, _] 28) = zo
  have hA1 := blk_alloc_old (blk_alloc w (.cells (hshV h).toArray 28)) zo
  have hR1 := blk_alloc (w.alloc (.cells (hshV h).toArray 28)) zo
  rw [World.size_alloc] at hR1
  have n1 : New w ((w.alloc (.cells (hshV h).toArray 28)).alloc zo) := ((Upd.refl _ _).alloc _).alloc _
  generalize (w.alloc (.cells (hshV h).toArray 28)).alloc zo = w1 at hA1 hR1 n1 ⊢
  refine ⟨trivial, callsIn_wide.2 ((ones_any i d w1).mono ?_)⟩
  rintro e w2 ⟨Bd, Bi, rfl, n2, hBil, hBd, hBi, cd, ci⟩
  have hA0 := hA1
  replace hA1 := n2.old hA1 (fun h => h)
  replace hR1 := n2.old hR1 (fun h => h)
  have n12 := n1.trans n2
  obtain ⟨A, hAe⟩ : ∃ A, A = w.heap.size := ⟨_, rfl⟩
  obtain ⟨R, hRe⟩ : ∃ R, R = w.heap.size + 1 := ⟨_, rfl⟩
  have hAl : w.heap.size ≤ A := by omega
  have hRl : w.heap.size ≤ R := by omega
  have hAR : R ≠ A := by omega
  have hABi : Bi ≠ A := by have := n1.size; have := blk_lt (w := w1) (b := A) (o := .cells (hshV h).toArray 28 (0, 0)) (by rw [hAe]; exact hA0); omega
  rw [← hRe] at hR1 ⊢
  rw [← hAe] at hA1 ⊢
  clear hAe hRe hBil hA0
  have hbel : Below w.heap.size w w2 := n12.below' (Nat.le_refl _) (fun _ h => h.elim)
  have hzo : ∃ Z, zo = .cells Z 28 ∧ Z = (hshV z32i).toArray := ⟨_, hz.symm, rfl⟩
  obtain ⟨Z, rfl, hZs⟩ := hzo
  subst hZs
  clear hz n1 n2 n12
  gi_wp2
  refine wpIn_rangeFunc_ownF (α := Fin 16) rfl (by omega) (gf := 127) (lb := #[.pointer (some ⟨Bd, 0, none⟩), .pointer (some ⟨Bi, 0, none⟩)]) rfl trivial (enters_of Tryz.func127 (by kernel_rfl) rfl)
    (encs := fun x => #[.int .i64 (x.1 : Nat)]) (Kp := KpB Bi) (S := fun xs => xs = hiF i d 0) (Sp := fun pre => pre <+: hiF i d 0) (N := 16) (w0 := w2)
    (fun l J Jx W hW hJ hJx hY h0 => ones1_in Fence.wide 5 trivial rfl (by omega) l Bd Bi i d hi hd J Jx hY W ((hW.cell (p := ⟨Bd, 0, none⟩) hBd).trans cd) ((hW.cell (p := ⟨Bi, 0, none⟩) hBi).trans ci) h0)
    (fun h k v e => k v (h v e)) ?kb (Below.refl _ _) (fun _ => rfl)
    (fun pre W => (W.heap[A]? = some (.cells (hshV (foldF h pre)).toArray 28 (0, 0)) ∧ W.heap[R]? = some (.cells (hshV z32i).toArray 28 (0, 0)) ∧ W.cell? ⟨Bi, 0, none⟩ = some (.int .i64 i)) ∧ Below w.heap.size w W)
    (fun _ _ _ => False)
    (OwnFrom.and (Own.from (fun s A' B' row hs hg hr => ⟨blk_kept hs.1 hg hr, blk_kept hs.2.1 hg hr, cell_kept hs.2.2 hg hr⟩) _) (ownFrom_below (Nat.le_refl _) hbel.size))
    (fun _ _ _ _ _ hs _ _ => hs)
    ⟨⟨hA1, hR1, ci⟩, hbel⟩
    (fun (x : Fin 16) => { tmps := #[.agg (hshV h).toArray, .int .i64 i, .int .i64 d, .pointer (some ⟨A, 0, none⟩), undef, undef, .pointer (some ⟨R, 0, none⟩), .int .i64 (x.1 : Nat), .int .i64 i, .int .i64 d, .func (.func 127) #[] #[.pointer (some ⟨Bd, 0, none⟩), .pointer (some ⟨Bi, 0, none⟩)], .int .i64 (x.1 : Nat), undef, undef, undef, undef, undef, undef, undef, undef, undef, undef, undef, undef, undef], defers := [] }) ?assign ?body ?done ?stop
  case kb =>
    intro W l o o' hl ho hc _ v hv
    exact cell_kept hv (grownBy_putObj' W l o') (fun r e => by cases e; exact ⟨o, ho, hc⟩)
  case assign =>
    intro l x W K hK
    gi_wp2
    exact hK
  case body =>
    rintro l pre x W ⟨⟨hcA, hcR, hcB⟩, hB⟩ _
    have hl32 := foldF_len pre h hh
    obtain ⟨q, hq⟩ : ∃ q, q = foldF h pre := ⟨_, rfl⟩
    rw [← hq] at hl32 hcA
    obtain ⟨xv, hxv, hx16⟩ : ∃ xv : Nat, xv = x.1 ∧ xv < 16 := ⟨_, rfl, x.2⟩
    rw [← hxv]
    obtain ⟨k, hk⟩ : ∃ k, k = xv / 8 := ⟨_, rfl⟩
    obtain ⟨j, hj⟩ : ∃ j, j = xv % 8 := ⟨_, rfl⟩
    have hb8 : k < 32 := by omega
    have hj8 : j < 8 := by omega
    have ci0 : W.cell? ⟨A, k, none⟩ = some (.int .u8 (q.getD k 0)) := by
      unfold hshV at hcA
      rw [blk_cell hcA k, List.getElem?_toArray, List.getElem?_map, List.getD_eq_getElem?_getD, List.getElem?_eq_getElem (by omega)]
      rfl
    have fi0 := blk_free hcA k
    have hdv : (xv : Int).tdiv 8 = (k : Int) := by rw [hk]; exact (Int.ofNat_tdiv xv 8).symm
    have hmd : (xv : Int).tmod 8 = (j : Int) := by rw [hj]; exact (Int.ofNat_tmod xv 8).symm
    have hwq : IntKind.i64.wrap (k : Int) = (k : Int) := i64_nat k (by omega)
    have hwj : IntKind.i64.wrap (j : Int) = (j : Int) := i64_nat j (by omega)
    have hkb : (k : Int) < 32 := by omega
    have hjb : (j : Int) < 8 := by omega
    have hmx : Tryz.prog.follows .mixedOrders = true := by kernel_rfl
    have HXV := hide hxv
    have HK := hide hk
    have HJ := hide hj
    have HQ := hide hq
    clear hxv hk hj hq
    have hsv : bits .xor .u8 (q.getD k 0) (IntKind.u8.wrap (2 ^ j)) = (flipB q xv).getD k 0 := by
      have ew : ∀ j : Nat, j < 8 → IntKind.u8.wrap (2 ^ j) = 2 ^ j := by decide
      rw [ew j hj8]
      unfold flipB
      rw [← unhide HK, ← unhide HJ, List.getD_eq_getElem?_getD (l := q.set _ _), List.getElem?_set_self (by omega)]
      rfl
    have hfl : (W.setCell ⟨A, k, none⟩ (.int .u8 (bits .xor .u8 (q.getD k 0) (IntKind.u8.wrap (2 ^ j))))).drew.heap[A]? = some (.cells (hshV (flipB q xv)).toArray 28 (0, 0)) := by
      have := blk_set hcA k (.int .u8 (bits .xor .u8 (q.getD k 0) (IntKind.u8.wrap (2 ^ j))))
      refine this.trans ?_
      rw [hsv]
      have e : (flipB q xv).getD k 0 = bits .xor .u8 (q.getD k 0) (2 ^ j) := by
        unfold flipB
        rw [← unhide HK, ← unhide HJ, List.getD_eq_getElem?_getD (l := q.set _ _), List.getElem?_set_self (by omega)]
        rfl
      unfold hshV
      rw [e, List.setIfInBounds_toArray, ← List.map_set]
      unfold flipB
      rw [← unhide HK, ← unhide HJ]
    have hW1 : Below w.heap.size W (W.setCell ⟨A, k, none⟩ (.int .u8 (bits .xor .u8 (q.getD k 0) (IntKind.u8.wrap (2 ^ j))))).drew := ((Below.refl _ _).setCell (p := ⟨A, k, none⟩) hAl _).drew
    have kW1 : KeepsOthers W (W.setCell ⟨A, k, none⟩ (.int .u8 (bits .xor .u8 (q.getD k 0) (IntKind.u8.wrap (2 ^ j))))).drew := (KeepsOthers.setCell _ _ _).trans (KeepsOthers.drew _)
    have uW1 : Upd (· = A) W (W.setCell ⟨A, k, none⟩ (.int .u8 (bits .xor .u8 (q.getD k 0) (IntKind.u8.wrap (2 ^ j))))).drew := ((Upd.refl _ _).set1 _ _).drew
    clear hsv
    generalize q.getD k 0 = V at ci0 hfl hW1 kW1 uW1
    gi_wp2
    gi_region_o
    all_goals (
      generalize (W.setCell ⟨A, k, none⟩ (.int .u8 (bits .xor .u8 V (IntKind.u8.wrap (2 ^ j))))).drew = W1 at hfl hW1 kW1 uW1 ⊢
      clear ci0 fi0 hdv hmd hwq hwj hkb hjb
      have hfl32 : (flipB q xv).length = 32 := by rw [flipB_len, hl32]
      have hconv : (convert 111 9 (.slice (some ⟨A, 0, none⟩) 32 32)).run Tryz.prog W1 = .ok (.string (strOfNums (flipB q xv))) W1 :=
        run_string_block W1 _ _ _ Tryz.underlying111 Tryz.underlying5 Tryz.underlying9 A 32 _ _ _ 32 hfl32 hfl
      have hsum : Calls Tryz.prog 84 #[.string (strOfNums (flipB q xv))] W1 (fun e w' => e = .returned (.agg (hshV (sumI (strOfNums (flipB q xv)))).toArray) ∧ New W1 w') := sum_any (strOfNums (flipB q xv)) W1 (by rw [strOfNums_size, hfl32]; omega) (hT.upd (S := fun k => w.heap.size ≤ k) ⟨(hB.trans hW1).os, (hB.trans hW1).tape, (hB.trans hW1).output, (hB.trans hW1).size, fun k hk _ => (hB.trans hW1).block k hk⟩ (by have := hT.lt; omega) (by have := hT.lt; omega))
      have hsl := sumI_len (strOfNums (flipB q xv))
      have HFL := hide (HsB.mk hfl hfl32)
      have hchs : chStep q xv = sumI (strOfNums (flipB q xv)) := rfl
      have HCS := hide hchs
      clear hfl hchs
      generalize sumI (strOfNums (flipB q xv)) = K at hsum hsl HCS
      gi_wp2
      refine ⟨trivial, (CallsIn.inRound l (callsIn_wide.2 hsum)).mono ?_⟩
      rintro e W2 ⟨rfl, n2⟩
      have hb2 := (unhide HFL).new n2
      have hst := hb2.stOk K hsl
      have HB3 := hide (hb2.put K hsl)
      have u3 := upd_sets (w := W2) (b := A) (hshV K)
      have k3 : KeepsOthers W (W2.setCells A 0 (hshV K)) := (kW1.trans (KeepsOthers.of_upd n2 (fun _ h => h.elim))).trans (KeepsOthers.of_upd u3 (fun k e => ⟨_, _, _, (congrArg (fun z => W2.heap[z]?) e).trans hb2.at_⟩))
      have u4 : Upd (· = A) W (W2.setCells A 0 (hshV K)) := (uW1.trans (n2.mono (fun _ _ h => h.elim))).trans u3
      have K3 := hide k3
      have U4 := hide u4
      clear hsum hb2 u3 k3 u4 hconv HFL
      gi_wp2
      have hB3 := unhide HB3
      have hU4 := unhide U4
      refine ⟨unhide K3, fun v hv => hU4.cell hv hABi, ⟨⟨?_, hU4.old hcR hAR, hU4.cell hcB hABi⟩, hB.trans (hU4.below' hB.size (fun k e => by omega))⟩⟩
      rw [foldF_snoc, ← unhide HQ, ← unhide HXV, unhide HCS]
      exact hB3.at_)
  case done =>
    rintro D ys W hD rfl ⟨⟨hcA, hcR, hcB⟩, hB⟩ hK
    have hl := foldF_len (hiF i d 0) h hh
    have hfv : foldF h (hiF i d 0) = chainI h i d := by unfold chainI; rw [foldF_val, hiF_val hd]
    rw [hfv] at hl hcA
    have hA : HsB W A (chainI h i d) := ⟨hcA, hl⟩
    have hr := hA.row
    have hR : HsB W R z32i := ⟨hcR, z32i_len⟩
    have hst := hR.stOk _ hl
    have hput := hR.put _ hl
    have u5 := upd_sets (w := W) (b := R) (hshV (chainI h i d))
    have k5 : KeepsOthers W (W.setCells R 0 (hshV (chainI h i d))) := KeepsOthers.of_upd u5 (fun k e => ⟨_, _, _, (congrArg (fun z => W.heap[z]?) e).trans hcR⟩)
    have hK5 := k5.same D _ hK rfl
    have HP := hide hput
    have HB5 := hide (hB.trans (u5.below' hB.size (fun k e => by omega)))
    have HK5 := hide hK5
    clear hput u5 k5 hR hA hcA
    gi_wp2
    have hk5 := unhide HK5
    refine ⟨by simp, .inl ⟨_, _, rfl, run_takeDeferred hk5, ?_⟩⟩
    have hP := blk_kept (unhide HP).at_ (grownBy_putObj' _ D (.deferred none)) (fun r e => by cases e; exact ⟨_, hk5, rfl⟩)
    refine ⟨_, results_cell_row rfl _ _ R _ _ _ _ rfl hP Tryz.underlying28 rfl (by rw [List.size_toArray, hshV_len, hl]; exact Tryz.infoHsh), rfl, ?_⟩
    have hws := hbel.size
    exact Upd.of_below ((unhide HB5).trans (belowK_b (w := w) (Nat.le_refl _) _ D _ _ (by omega) hk5 rfl rfl)) (Nat.le_refl _)
  case stop =>
    rintro D c pre W _ _ h _
    exact h.elim

end Go.Proofs.YtjpmomdechibmaaGreatDoor
