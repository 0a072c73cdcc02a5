/-
  Package secret: chain.
-/
import Derived.Test.YtjckpgcmfieaoaaGreatDoorMce
import Derived.Test.YtjckpgcmfieaoaaGreatDoorMcd
import Derived.Test.YtjckpgcmfieaoaaGreatDoorMcf
import Derived.Test.YtjckpgcmfieaoaaGreatDoorMch
import Derived.Test.YtjckpgcmfieaoaaGreatDoorMbh
set_option linter.unusedVariables false
set_option linter.unusedSimpArgs false
namespace Go.Proofs.YtjckpgcmfieaoaaGreatDoor
open Go.RowKit Go.Shelf
attribute [local go_sem] Oper.semAt_some

attribute [local go_sem ↓ high] ld_hsh_fold st_hsh_fold
theorem KeepsOthers.of_upd {S : Nat → Prop} {W W' : World} (u : Upd S W W') (hS : ∀ k, S k → ∃ cs T fz, W.heap[k]? = some (.cells cs T fz)) : KeepsOthers W W' := by
  refine ⟨u.size, fun k o hk ho => ?_⟩
  refine u.old hk (fun hs => ?_)
  obtain ⟨cs, T, fz, e⟩ := hS k hs
  rw [hk] at e
  rw [Option.some.inj e] at ho
  cases ho
attribute [local go_sem] ld_hsh st_hsh rowN_drew

/-- A bit of a hash flipped; a step of the chain; the chain. -/
def flipB (h : List Int) (b : Nat) : List Int := h.set (b / 8) (bits .xor .u8 (h.getD (b / 8) 0) (2 ^ (b % 8)))
def chStep (h : List Int) (b : Nat) : List Int := sumI (strOfNums (flipB h b))
def chainI (h : List Int) (i d : Nat) : List Int := (hiB i d 0).foldl chStep h
theorem flipB_len (h : List Int) (b : Nat) : (flipB h b).length = h.length := by simp [flipB]
theorem chStep_len (h : List Int) (b : Nat) : (chStep h b).length = 32 := by unfold chStep; exact sumI_len _

set_option maxRecDepth 100000 in
set_option maxHeartbeats 1000000 in
theorem ones_any (i d : Nat) (w : World) :
    Calls Tryz.prog 360 #[.int .i64 i, .int .i64 d] w fun e w' => ∃ Bd Bi, e = .returned (.func (.func 361) #[] #[.pointer (some ⟨Bd, 0, none⟩), .pointer (some ⟨Bi, 0, none⟩)]) ∧ New w w' ∧ w.heap.size ≤ Bi ∧ Bd < w'.heap.size ∧ Bi < w'.heap.size ∧ w'.cell? ⟨Bd, 0, none⟩ = some (.int .i64 d) ∧ w'.cell? ⟨Bi, 0, none⟩ = some (.int .i64 i) := by
  go_enter Tryz.func360, Tryz.ntmps360
  go_wp2
  go_ret
  have hb := blk_alloc (w.alloc (.cells #[.int .i64 i] 3)) (.cells #[.int .i64 d] 3)
  rw [World.size_alloc] at hb
  exact ⟨_, _, rfl, ((Upd.refl _ _).alloc _).alloc _, Nat.le_refl _, by simp, by simp; omega, by rw [blk_cell hb]; rfl, by rw [blk_cell (blk_alloc_old (blk_alloc _ _) _)]; rfl⟩

def foldF (h : List Int) (l : List (Fin 16)) : List Int := l.foldl (fun h x => chStep h x.1) h
theorem foldF_cons (h : List Int) (b : Fin 16) (l : List (Fin 16)) : foldF h (b :: l) = foldF (chStep h b.1) l := by unfold foldF; rw [List.foldl_cons]
theorem foldF_len (l : List (Fin 16)) : ∀ h : List Int, h.length = 32 → (foldF h l).length = 32 := by
  induction l with
  | nil => intro h hh; exact hh
  | cons b l ih => intro h _; rw [foldF_cons]; exact ih (chStep h b.1) (chStep_len h b.1)
theorem foldF_snoc (h : List Int) (l : List (Fin 16)) (x : Fin 16) : foldF h (l ++ [x]) = chStep (foldF h l) x.1 := by unfold foldF; rw [List.foldl_append, List.foldl_cons, List.foldl_nil]
theorem foldF_val (h : List Int) (l : List (Fin 16)) : foldF h l = (l.map (·.1)).foldl chStep h := by unfold foldF; rw [List.foldl_map]
theorem blk_kept {W W' : World} {k : Nat} {cs : Array Value} {T : TypeId} {fz : Nat × Nat} {row : Option Nat} (h : W.heap[k]? = some (.cells cs T fz)) (hg : W.grownBy W' row) (hr : ∀ r, row = some r → ∃ o : Obj, W.heap[r]? = some o ∧ o.isCells = false) : W'.heap[k]? = some (.cells cs T fz) := by
  refine (hg.block k (blk_lt h) ?_).trans h
  intro e
  obtain ⟨o, ho, hc⟩ := hr k e.symm
  rw [h] at ho
  rw [← Option.some.inj ho] at hc
  cases hc
set_option maxRecDepth 100000 in
set_option maxHeartbeats 2000000 in
theorem chain_any (h : List Int) (hh : h.length = 32) (i d : Nat) (hi : i < 65536) (hd : d ≤ 16) (w : World) (hT : Tabs w) :
    Calls Tryz.prog 358 #[.agg (hshV h).toArray, .int .i64 i, .int .i64 d] w (Makes (.agg (hshV (chainI h i d)).toArray) w) := by
  refine (callsIn_wide (n := 6)).1 ?_
  refine callsIn_of_wp_marks Tryz.func358 rfl trivial ?_ rfl
  simp only [Tryz.ntmps358, List.size_toArray, List.length_cons, List.length_nil, Nat.reduceAdd, Nat.reduceSub, Array.replicate_succ, Array.replicate_zero, List.push_toArray, List.append_toArray, List.nil_append, List.cons_append]
  gi_wp2
  generalize hz : (Obj.cells #[_, _, _, _, _, _, _, _, _, _, _, _, _, _, _, _, _, _, _, _, _, _, _, _, _, _, _, _, _, _, _, _] 30) = zo
  have hA1 := blk_alloc_old (blk_alloc w (.cells (hshV h).toArray 30)) zo
  have hR1 := blk_alloc (w.alloc (.cells (hshV h).toArray 30)) zo
  rw [World.size_alloc] at hR1
  have n1 : New w ((w.alloc (.cells (hshV h).toArray 30)).alloc zo) := ((Upd.refl _ _).alloc _).alloc _
  generalize (w.alloc (.cells (hshV h).toArray 30)).alloc zo = w1 at hA1 hR1 n1 ⊢
  refine ⟨trivial, callsIn_wide.2 ((ones_any i d w1).mono ?_)⟩
  rintro e w2 ⟨Bd, Bi, rfl, n2, hBil, hBd, hBi, cd, ci⟩
  have hA0 := hA1
  replace hA1 := n2.old hA1 (fun h => h)
  replace hR1 := n2.old hR1 (fun h => h)
  have n12 := n1.trans n2
  obtain ⟨A, hAe⟩ : ∃ A, A = w.heap.size := ⟨_, rfl⟩
  obtain ⟨R, hRe⟩ : ∃ R, R = w.heap.size + 1 := ⟨_, rfl⟩
  have hAl : w.heap.size ≤ A := by omega
  have hRl : w.heap.size ≤ R := by omega
  have hAR : R ≠ A := by omega
  have hABi : Bi ≠ A := by have := n1.size; have := blk_lt (w := w1) (b := A) (o := .cells (hshV h).toArray 30 (0, 0)) (by rw [hAe]; exact hA0); omega
  rw [← hRe] at hR1 ⊢
  rw [← hAe] at hA1 ⊢
  clear hAe hRe hBil hA0
  have hbel : Below w.heap.size w w2 := n12.below' (Nat.le_refl _) (fun _ h => h.elim)
  have hzo : ∃ Z, zo = .cells Z 30 ∧ Z = (hshV z32i).toArray := ⟨_, hz.symm, rfl⟩
  obtain ⟨Z, rfl, hZs⟩ := hzo
  subst hZs
  clear hz n1 n2 n12
  gi_wp2
  refine wpIn_rangeFunc_ownF (α := Fin 16) rfl (by omega) (gf := 361) (lb := #[.pointer (some ⟨Bd, 0, none⟩), .pointer (some ⟨Bi, 0, none⟩)]) rfl trivial (enters_of Tryz.func361 (by kernel_rfl) rfl)
    (encs := fun x => #[.int .i64 (x.1 : Nat)]) (Kp := KpB Bi) (S := fun xs => xs = hiF i d 0) (Sp := fun pre => pre <+: hiF i d 0) (N := 16) (w0 := w2)
    (fun l J Jx W hW hJ hJx hY h0 => ones1_in Fence.wide 5 trivial rfl (by omega) l Bd Bi i d hi hd J Jx hY W ((hW.cell (p := ⟨Bd, 0, none⟩) hBd).trans cd) ((hW.cell (p := ⟨Bi, 0, none⟩) hBi).trans ci) h0)
    (fun h k v e => k v (h v e)) ?kb (Below.refl _ _) (fun _ => rfl)
    (fun pre W => (W.heap[A]? = some (.cells (hshV (foldF h pre)).toArray 30 (0, 0)) ∧ W.heap[R]? = some (.cells (hshV z32i).toArray 30 (0, 0)) ∧ W.cell? ⟨Bi, 0, none⟩ = some (.int .i64 i)) ∧ Below w.heap.size w W)
    (fun _ _ _ => False)
    (OwnFrom.and (Own.from (fun s A' B' row hs hg hr => ⟨blk_kept hs.1 hg hr, blk_kept hs.2.1 hg hr, cell_kept hs.2.2 hg hr⟩) _) (ownFrom_below (Nat.le_refl _) hbel.size))
    (fun _ _ _ _ _ hs _ _ => hs)
    ⟨⟨hA1, hR1, ci⟩, hbel⟩
    (fun (x : Fin 16) => { tmps := #[.agg (hshV h).toArray, .int .i64 i, .int .i64 d, .pointer (some ⟨A, 0, none⟩), undef, undef, .pointer (some ⟨R, 0, none⟩), .int .i64 (x.1 : Nat), .int .i64 i, .int .i64 d, .func (.func 361) #[] #[.pointer (some ⟨Bd, 0, none⟩), .pointer (some ⟨Bi, 0, none⟩)], .int .i64 (x.1 : Nat), undef, undef, undef, undef, undef, undef, undef, undef, undef, undef, undef, undef, undef], defers := [] }) ?assign ?body ?done ?stop
  case kb =>
    intro W l o o' hl ho hc _ v hv
    exact cell_kept hv (grownBy_putObj' W l o') (fun r e => by cases e; exact ⟨o, ho, hc⟩)
  case assign =>
    intro l x W K hK
    gi_wp2
    exact hK
  case body =>
    rintro l pre x W ⟨⟨hcA, hcR, hcB⟩, hB⟩ _
    have hl32 := foldF_len pre h hh
    obtain ⟨q, hq⟩ : ∃ q, q = foldF h pre := ⟨_, rfl⟩
    rw [← hq] at hl32 hcA
    obtain ⟨xv, hxv, hx16⟩ : ∃ xv : Nat, xv = x.1 ∧ xv < 16 := ⟨_, rfl, x.2⟩
    rw [← hxv]
    obtain ⟨k, hk⟩ : ∃ k, k = xv / 8 := ⟨_, rfl⟩
    obtain ⟨j, hj⟩ : ∃ j, j = xv % 8 := ⟨_, rfl⟩
    have hb8 : k < 32 := by omega
    have hj8 : j < 8 := by omega
    have ci0 : W.cell? ⟨A, k, none⟩ = some (.int .u8 (q.getD k 0)) := by
      unfold hshV at hcA
      rw [blk_cell hcA k, List.getElem?_toArray, List.getElem?_map, List.getD_eq_getElem?_getD, List.getElem?_eq_getElem (by omega)]
      rfl
    have fi0 := blk_free hcA k
    have hdv : (xv : Int).tdiv 8 = (k : Int) := by rw [hk]; exact (Int.ofNat_tdiv xv 8).symm
    have hmd : (xv : Int).tmod 8 = (j : Int) := by rw [hj]; exact (Int.ofNat_tmod xv 8).symm
    have hwq : IntKind.i64.wrap (k : Int) = (k : Int) := i64_nat k (by omega)
    have hwj : IntKind.i64.wrap (j : Int) = (j : Int) := i64_nat j (by omega)
    have hkb : (k : Int) < 32 := by omega
    have hjb : (j : Int) < 8 := by omega
    have hmx : Tryz.prog.follows .mixedOrders = true := by kernel_rfl
    have HXV := hide hxv
    have HK := hide hk
    have HJ := hide hj
    have HQ := hide hq
    clear hxv hk hj hq
    have hsv : bits .xor .u8 (q.getD k 0) (IntKind.u8.wrap (2 ^ j)) = (flipB q xv).getD k 0 := by
      have ew : ∀ j : Nat, j < 8 → IntKind.u8.wrap (2 ^ j) = 2 ^ j := by decide
      rw [ew j hj8]
      unfold flipB
      rw [← unhide HK, ← unhide HJ, List.getD_eq_getElem?_getD (l := q.set _ _), List.getElem?_set_self (by omega)]
      rfl
    have hfl : (W.setCell ⟨A, k, none⟩ (.int .u8 (bits .xor .u8 (q.getD k 0) (IntKind.u8.wrap (2 ^ j))))).drew.heap[A]? = some (.cells (hshV (flipB q xv)).toArray 30 (0, 0)) := by
      have := blk_set hcA k (.int .u8 (bits .xor .u8 (q.getD k 0) (IntKind.u8.wrap (2 ^ j))))
      refine this.trans ?_
      rw [hsv]
      have e : (flipB q xv).getD k 0 = bits .xor .u8 (q.getD k 0) (2 ^ j) := by
        unfold flipB
        rw [← unhide HK, ← unhide HJ, List.getD_eq_getElem?_getD (l := q.set _ _), List.getElem?_set_self (by omega)]
        rfl
      unfold hshV
      rw [e, List.setIfInBounds_toArray, ← List.map_set]
      unfold flipB
      rw [← unhide HK, ← unhide HJ]
    have hW1 : Below w.heap.size W (W.setCell ⟨A, k, none⟩ (.int .u8 (bits .xor .u8 (q.getD k 0) (IntKind.u8.wrap (2 ^ j))))).drew := ((Below.refl _ _).setCell (p := ⟨A, k, none⟩) hAl _).drew
    have kW1 : KeepsOthers W (W.setCell ⟨A, k, none⟩ (.int .u8 (bits .xor .u8 (q.getD k 0) (IntKind.u8.wrap (2 ^ j))))).drew := (KeepsOthers.setCell _ _ _).trans (KeepsOthers.drew _)
    have uW1 : Upd (· = A) W (W.setCell ⟨A, k, none⟩ (.int .u8 (bits .xor .u8 (q.getD k 0) (IntKind.u8.wrap (2 ^ j))))).drew := ((Upd.refl _ _).set1 _ _).drew
    clear hsv
    generalize q.getD k 0 = V at ci0 hfl hW1 kW1 uW1
    gi_wp2
    gi_region_o
    all_goals (
      generalize (W.setCell ⟨A, k, none⟩ (.int .u8 (bits .xor .u8 V (IntKind.u8.wrap (2 ^ j))))).drew = W1 at hfl hW1 kW1 uW1 ⊢
      clear ci0 fi0 hdv hmd hwq hwj hkb hjb
      have hfl32 : (flipB q xv).length = 32 := by rw [flipB_len, hl32]
      have hconv : (convert 157 9 (.slice (some ⟨A, 0, none⟩) 32 32)).run Tryz.prog W1 = .ok (.string (strOfNums (flipB q xv))) W1 :=
        run_string_block W1 _ _ _ Tryz.underlying157 Tryz.underlying5 Tryz.underlying9 A 32 _ _ _ 32 hfl32 hfl
      have hsum : Calls Tryz.prog 74 #[.string (strOfNums (flipB q xv))] W1 (fun e w' => e = .returned (.agg (hshV (sumI (strOfNums (flipB q xv)))).toArray) ∧ New W1 w') := sum_any (strOfNums (flipB q xv)) W1 (by rw [strOfNums_size, hfl32]; omega) (hT.upd (S := fun k => w.heap.size ≤ k) ⟨(hB.trans hW1).os, (hB.trans hW1).tape, (hB.trans hW1).output, (hB.trans hW1).size, fun k hk _ => (hB.trans hW1).block k hk⟩ (by have := hT.lt; omega) (by have := hT.lt; omega))
      have hsl := sumI_len (strOfNums (flipB q xv))
      have HFL := hide (HsB.mk hfl hfl32)
      have hchs : chStep q xv = sumI (strOfNums (flipB q xv)) := rfl
      have HCS := hide hchs
      clear hfl hchs
      generalize sumI (strOfNums (flipB q xv)) = K at hsum hsl HCS
      gi_wp2
      refine ⟨trivial, (CallsIn.inRound l (callsIn_wide.2 hsum)).mono ?_⟩
      rintro e W2 ⟨rfl, n2⟩
      have hb2 := (unhide HFL).new n2
      have hst := hb2.stOk K hsl
      have HB3 := hide (hb2.put K hsl)
      have u3 := upd_sets (w := W2) (b := A) (hshV K)
      have k3 : KeepsOthers W (W2.setCells A 0 (hshV K)) := (kW1.trans (KeepsOthers.of_upd n2 (fun _ h => h.elim))).trans (KeepsOthers.of_upd u3 (fun k e => ⟨_, _, _, (congrArg (fun z => W2.heap[z]?) e).trans hb2.at_⟩))
      have u4 : Upd (· = A) W (W2.setCells A 0 (hshV K)) := (uW1.trans (n2.mono (fun _ _ h => h.elim))).trans u3
      have K3 := hide k3
      have U4 := hide u4
      clear hsum hb2 u3 k3 u4 hconv HFL
      gi_wp2
      have hB3 := unhide HB3
      have hU4 := unhide U4
      refine ⟨unhide K3, fun v hv => hU4.cell hv hABi, ⟨⟨?_, hU4.old hcR hAR, hU4.cell hcB hABi⟩, hB.trans (hU4.below' hB.size (fun k e => by omega))⟩⟩
      rw [foldF_snoc, ← unhide HQ, ← unhide HXV, unhide HCS]
      exact hB3.at_)
  case done =>
    rintro D ys W hD rfl ⟨⟨hcA, hcR, hcB⟩, hB⟩ hK
    have hl := foldF_len (hiF i d 0) h hh
    have hfv : foldF h (hiF i d 0) = chainI h i d := by unfold chainI; rw [foldF_val, hiF_val hd]
    rw [hfv] at hl hcA
    have hA : HsB W A (chainI h i d) := ⟨hcA, hl⟩
    have hr := hA.row
    have hR : HsB W R z32i := ⟨hcR, z32i_len⟩
    have hst := hR.stOk _ hl
    have hput := hR.put _ hl
    have u5 := upd_sets (w := W) (b := R) (hshV (chainI h i d))
    have k5 : KeepsOthers W (W.setCells R 0 (hshV (chainI h i d))) := KeepsOthers.of_upd u5 (fun k e => ⟨_, _, _, (congrArg (fun z => W.heap[z]?) e).trans hcR⟩)
    have hK5 := k5.same D _ hK rfl
    have HP := hide hput
    have HB5 := hide (hB.trans (u5.below' hB.size (fun k e => by omega)))
    have HK5 := hide hK5
    clear hput u5 k5 hR hA hcA
    gi_wp2
    have hk5 := unhide HK5
    refine ⟨by simp, .inl ⟨_, _, rfl, run_takeDeferred hk5, ?_⟩⟩
    have hP := blk_kept (unhide HP).at_ (grownBy_putObj' _ D (.deferred none)) (fun r e => by cases e; exact ⟨_, hk5, rfl⟩)
    refine ⟨_, results_cell_row rfl _ _ R _ _ _ _ rfl hP Tryz.underlying30 rfl (by rw [List.size_toArray, hshV_len, hl]; exact Tryz.infoHsh), rfl, ?_⟩
    have hws := hbel.size
    exact Upd.of_below ((unhide HB5).trans (belowK_b (w := w) (Nat.le_refl _) _ D _ _ (by omega) hk5 rfl rfl)) (Nat.le_refl _)
  case stop =>
    rintro D c pre W _ _ h _
    exact h.elim

end Go.Proofs.YtjckpgcmfieaoaaGreatDoor
namespace Go.Proofs.YtjckpgcmfieaoaaGreatDoor
open Go.RowKit

noncomputable section
/-- Do a table's cells hold these numbers, from i on? -/
def iRowIs (c : ETr EV) (l : List Nat) : Nat → Bool :=
  List.rec (motive := fun _ => Nat → Bool) (fun _ => true) (fun x _ ih i => match c.get i with
    | some (.int .u32 (.ofNat n)) => match Nat.beq n x with
      | true => ih (Nat.succ i)
      | false => false
    | _ => false) l
def iTabIs (b : Option EBlk) (l : List Nat) : Bool := match b with
  | some (.tab n c) => match Nat.ble l.length n with
    | true => iRowIs c l 0
    | false => false
  | _ => false
def iBegin : List Nat := [1779033703, 3144134277, 1013904242, 2773480762, 1359893119, 2600822924, 528734635, 1541459225]
def iTabs (s : ESt) : Bool := match s with
  | .mk h _ => match iTabIs (h.get 1) hKs with
    | true => iTabIs (h.get 0) iBegin
    | false => false
def iShaL (l : SX) (n : Nat) : List EV := Nat.rec (motive := fun _ => List EV → List EV) (fun r => r) (fun i ih r => ih (.sint .u8 (.term 1 (.sha i l) (.cst 0)) :: r)) n []
def iSum (_ : ECall) (a : List EV) (s : ESt) : EO := match iTabs s with
  | false => .er
  | true => match a with
    | [.str l] => match Nat.ble l.length 1000000000 with
      | true => .v (.agg (eBytesV (hSum l))) s
      | false => .er
    | [.sstr l] => match Nat.ble (sLen l) 1000000000 with
      | true => .v (.agg (iShaL l 32)) s
      | false => .er
    | _ => .er
def hFlip (l : List Nat) (m : Nat) : Nat → List Nat := List.rec (motive := fun _ => Nat → List Nat) (fun _ => []) (fun x r ih n => match n with | 0 => Nat.xor x m :: r | n + 1 => x :: ih n) l
def hChain (i d : Nat) : List Nat → List Nat :=
  Nat.rec (motive := fun _ => List Nat → List Nat) (fun h => h) (fun b ih h => ih (match Nat.testBit i b with | true => hSum (hFlip h (Nat.pow 2 (Nat.mod b 8)) (Nat.div b 8)) | false => h)) d
def iChain (_ : ECall) (a : List EV) (s : ESt) : EO := match iTabs s with
  | false => .er
  | true => match a with
    | [.agg h, .int .i64 (.ofNat i), .int .i64 (.ofNat d)] => match Nat.beq h.length 32 && Nat.blt i 65536 && Nat.ble d 16 with
      | true => match eNatsV h with
        | some r => .v (.agg (eBytesV (hChain i d r))) s
        | none => .er
      | false => .er
    | _ => .er
end
theorem iRowIs_cons (c : ETr EV) (x : Nat) (l : List Nat) (i : Nat) : iRowIs c (x :: l) i = match c.get i with
    | some (.int .u32 (.ofNat n)) => (match Nat.beq n x with
      | true => iRowIs c l (i + 1)
      | false => false)
    | _ => false := rfl
theorem iRowIs_ok {c : ETr EV} : ∀ {l : List Nat} {i : Nat}, iRowIs c l i = true → ∀ j, j < l.length → c.get (i + j) = some (.int .u32 (l.getD j 0 : Nat))
  | [], _, _, j, hj => absurd hj (Nat.not_lt_zero _)
  | x :: l, i, h, j, hj => by
    rw [iRowIs_cons] at h
    split at h
    · rename_i n hc
      split at h
      · rename_i hb
        obtain rfl := Nat.eq_of_beq_eq_true hb
        cases j with
        | zero => exact hc
        | succ j =>
          have := iRowIs_ok h j (by simpa using hj)
          rw [show i + (j + 1) = i + 1 + j by omega, this]
          rfl
      · cases h
    · cases h
section
variable {w0 : World} {β : EMp} {s : ESt} {w : World}
theorem iTabIs_ok (hg : GB β) (h : HR w0 β s w) {g : Nat} (hgl : g < 1024) {l : List Nat} (ht : iTabIs (s.heap.get g) l = true) : ∀ i, i < l.length → w.cell? ⟨g, i, none⟩ = some (.int .u32 (l.getD i 0 : Nat)) := fun i hi => by
  unfold iTabIs at ht
  split at ht
  · rename_i n c hk
    split at ht
    · rename_i hn
      have hn := Nat.le_of_ble_eq_true hn
      obtain ⟨m, hm⟩ := hg g hgl
      obtain ⟨-, a, T, fz, h1, -, -, h4⟩ := h.blk g _ _ hm hk
      obtain ⟨x, v, e1, e2, e3⟩ := h4 i (by omega)
      have := iRowIs_ok ht i hi
      rw [Nat.zero_add, e1] at this
      obtain rfl := Option.some.inj this
      have e2 : a[i]? = some v := by simpa using e2
      rw [blk_cell h1, e2]
      cases e3
      rfl
    · cases ht
  · cases ht
theorem iTabs_ok (hg : GB β) (h : HR w0 β s w) (ht : iTabs s = true) : Tabs w := by
  unfold iTabs at ht
  rw [ESt.eta s] at ht
  simp only at ht
  split at ht
  · rename_i h1
    have a := iTabIs_ok hg h (by decide) h1
    have b := iTabIs_ok hg h (by decide) ht
    refine ⟨fun i hi => ?_, fun i hi => ?_⟩
    · rw [a i hi, kTab_eq, List.getD_eq_getElem?_getD, List.getD_eq_getElem?_getD, List.getElem?_map]
      cases hKs[i]? <;> rfl
    · rw [b i hi, show hBeg = iBegin.map (fun (n : Nat) => (n : Int)) from rfl, List.getD_eq_getElem?_getD, List.getD_eq_getElem?_getD, List.getElem?_map]
      cases iBegin[i]? <;> rfl
  · cases ht
end
theorem eBytesV_nat {β : EMp} : ∀ (l : List Nat), VRs β (eBytesV l) ((natI l).map (Value.int .u8))
  | [] => .nil
  | n :: l => .cons (.int .u8 (n : Int)) (eBytesV_nat l)
theorem iShaL_eq (l : SX) : ∀ n r, (Nat.rec (motive := fun _ => List EV → List EV) (fun r => r) (fun i ih r => ih (.sint .u8 (.term 1 (.sha i l) (.cst 0)) :: r)) n r : List EV) = (List.range n).map (fun i => EV.sint .u8 (.term 1 (.sha i l) (.cst 0))) ++ r
  | 0, r => rfl
  | n + 1, r => by
    rw [List.range_succ, List.map_append, List.append_assoc]
    exact iShaL_eq l n _
theorem iShaL_VRs {β : EMp} {l : SX} {bs : List Nat} (h : SB (symOf β) l bs) : VRs β (iShaL l 32) ((natI (hSum bs)).map (Value.int .u8)) := by
  have e : iShaL l 32 = (List.range 32).map (fun i => EV.sint .u8 (.term 1 (.sha i l) (.cst 0))) := by
    unfold iShaL
    rw [iShaL_eq, List.append_nil]
  rw [e]
  refine VRs.of_get (by simp [natI, hSum_len]) fun i x v hx hv => ?_
  rw [List.getElem?_map] at hx hv
  unfold natI at hv
  rw [List.getElem?_map] at hv
  cases hr : (List.range 32)[i]? with
  | none => rw [hr] at hx; cases hx
  | some j =>
    rw [hr] at hx
    obtain rfl := Option.some.inj hx
    obtain ⟨hj, hj2⟩ := List.getElem?_eq_some_iff.1 hr
    rw [List.getElem_range] at hj2
    subst hj2
    cases hq : (hSum bs)[i]? with
    | none => rw [hq] at hv; cases hv
    | some q =>
      rw [hq] at hv
      obtain rfl := Option.some.inj hv
      have hs := (SN.sha (i := i) h).one0
      have hd : (hSum bs).getD i 0 = q := by rw [List.getD_eq_getElem?_getD, hq]; rfl
      have hb := hSum_byte bs i
      rw [hd] at hs hb
      exact .sint hs (u8_wrap (by omega))
theorem iSum_ok {k : ECall} {args : List EV} {s s' : ESt} {x : EV} (ha : iSum k args s = .v x s') : KOk Tryz.prog 74 args s x s' := fun w0 β w av hg hr hv => by
  unfold iSum at ha
  split at ha
  · cases ha
  · rename_i ht
    have hT := iTabs_ok hg hr ht
    have one : ∀ {b : ByteArray} {l : List Nat} {y : EV}, b.data.toList.map (·.toNat) = l → b.size ≤ 1000000000 → VR β y (.agg ((natI (hSum l)).map (Value.int .u8)).toArray) → y = x → s = s' → av = #[.string b] →
        CallOk Tryz.prog 74 av w fun v w' => ∃ β', VR β' x v ∧ HR w0 β' s' w' ∧ Ext β s β' s' := by
      intro b l y hb hs hy e1 e2 e3
      subst e1 e2 e3
      refine .inr ⟨enters_of Tryz.func74 (by kernel_rfl) rfl _ _, (sum_any b w hs hT).mono ?_⟩
      rintro e w' ⟨rfl, n⟩
      refine ⟨_, rfl, β, ?_, hr.world n, Ext.refl _ _⟩
      rw [sumI_eq b hb hs]
      exact hy
    have arr : ∀ {x1 : EV}, VRs β [x1] av.toList → ∃ v, VR β x1 v ∧ av = #[v] := fun h => by
      obtain ⟨av⟩ := av
      cases h with
      | cons h1 h2 => cases h2; exact ⟨_, h1, rfl⟩
    split at ha
    · rename_i l
      split at ha
      · rename_i hl
        injection ha with e1 e2
        obtain ⟨v, h1, e3⟩ := arr hv
        cases h1 with
        | str hb =>
          rename_i b
          have hsz : b.size = l.length := by rw [← hb]; simp
          exact one hb (by rw [hsz]; exact Nat.le_of_ble_eq_true hl) (.agg (by simpa using eBytesV_nat (hSum l))) e1 e2 e3
      · cases ha
    · rename_i l
      split at ha
      · rename_i hl
        injection ha with e1 e2
        obtain ⟨v, h1, e3⟩ := arr hv
        cases h1 with
        | sstr hb =>
          rename_i b
          have hsz : b.size = sLen l := by rw [hb.len]; simp
          exact one rfl (by rw [hsz]; exact Nat.le_of_ble_eq_true hl) (.agg (by simpa using iShaL_VRs hb)) e1 e2 e3
      · cases ha
    · cases ha
theorem xor8 {x y : Nat} (hx : x < 256) (hy : y < 256) : bits .xor .u8 (x : Int) (y : Int) = (Nat.xor x y : Nat) := by
  have low : ∀ u : Nat, u < 256 → (BitVec.ofInt 8 (u : Int)).toNat = u := fun u hu => by
    rw [BitVec.toNat_ofInt]
    simp
    omega
  show IntKind.u8.wrap ((BitVec.ofInt 8 (x : Int) ^^^ BitVec.ofInt 8 (y : Int)).toNat : Int) = _
  have e : (BitVec.ofInt 8 (x : Int) ^^^ BitVec.ofInt 8 (y : Int)).toNat = Nat.xor x y := by rw [BitVec.toNat_xor, low x hx, low y hy]; rfl
  rw [e]
  exact u8_wrap (Nat.xor_lt_two_pow (n := 8) hx hy)
theorem hFlip_set : ∀ (l : List Nat) (m n : Nat), n < l.length → hFlip l m n = l.set n (Nat.xor (l.getD n 0) m)
  | [], _, _, h => absurd h (Nat.not_lt_zero _)
  | x :: l, m, 0, _ => rfl
  | x :: l, m, n + 1, h => congrArg (x :: ·) (hFlip_set l m n (by simpa using h))
theorem flip_eq {l : List Nat} (hl : l.length = 32) (hb : ∀ x ∈ l, x < 256) {b : Nat} (h : b < 16) : flipB (natI l) b = natI (hFlip l (Nat.pow 2 (Nat.mod b 8)) (Nat.div b 8)) ∧ ∀ x ∈ hFlip l (Nat.pow 2 (Nat.mod b 8)) (Nat.div b 8), x < 256 := by
  have hd : Nat.div b 8 = b / 8 := rfl
  have hm : Nat.pow 2 (Nat.mod b 8) = 2 ^ (b % 8) := rfl
  have hp : 2 ^ (b % 8) < 256 := Nat.pow_lt_pow_right (by omega) (show b % 8 < 8 by omega)
  have hg : l.getD (b / 8) 0 < 256 := by
    rw [List.getD_eq_getElem?_getD]
    cases hq : l[b / 8]? with
    | none => simp
    | some x => exact hb x (List.mem_of_getElem? hq)
  rw [hd, hm, hFlip_set l _ _ (by omega)]
  have hi : (natI l).getD (b / 8) 0 = ((l.getD (b / 8) 0 : Nat) : Int) := by
    unfold natI
    rw [List.getD_eq_getElem?_getD, List.getD_eq_getElem?_getD, List.getElem?_map]
    cases l[b / 8]? <;> rfl
  refine ⟨?_, fun x hx => ?_⟩
  · unfold flipB
    rw [hi, show (2 : Int) ^ (b % 8) = ((2 ^ (b % 8) : Nat) : Int) by simp, xor8 hg hp]
    unfold natI
    rw [List.map_set]
  · rcases List.mem_or_eq_of_mem_set hx with hx | rfl
    · exact hb x hx
    · exact Nat.xor_lt_two_pow (n := 8) hg hp
theorem hSum_lt (l : List Nat) : ∀ x ∈ hSum l, x < 256 := fun x hx => by
  obtain ⟨i, hi, rfl⟩ := List.mem_iff_getElem.1 hx
  have := hSum_byte l i
  rw [List.getD_eq_getElem?_getD, List.getElem?_eq_getElem hi] at this
  exact Nat.lt_succ_of_le this
theorem chStep_eq {l : List Nat} (hl : l.length = 32) (hb : ∀ x ∈ l, x < 256) {b : Nat} (h : b < 16) : chStep (natI l) b = natI (hSum (hFlip l (Nat.pow 2 (Nat.mod b 8)) (Nat.div b 8))) := by
  obtain ⟨f1, f2⟩ := flip_eq hl hb h
  unfold chStep
  rw [f1]
  have hlen : (hFlip l (Nat.pow 2 (Nat.mod b 8)) (Nat.div b 8)).length = 32 := by
    rw [hFlip_set l _ _ (by show b / 8 < _; omega)]
    simp [hl]
  refine sumI_eq _ ?_ (by rw [strOfNums_size]; unfold natI; rw [List.length_map, hlen]; decide)
  rw [strOfNums_data]
  unfold natI
  rw [List.map_map, List.map_map]
  exact (List.map_congr_left fun x hx => by
    show (UInt8.ofNat ((x : Int).toNat)).toNat = x
    rw [Int.toNat_natCast, UInt8.toNat_ofNat']
    exact Nat.mod_eq_of_lt (f2 x hx)).trans (List.map_id _)
theorem hiB_succ (i d : Nat) : hiB i (d + 1) 0 = (if i.testBit d then [d] else []) ++ hiB i d 0 := by
  unfold hiB
  rw [Nat.sub_zero, Nat.sub_zero, ← List.range_eq_range', ← List.range_eq_range', List.range_succ, List.reverse_append, List.filter_append]
  congr 1
  simp only [List.reverse_cons, List.reverse_nil, List.nil_append, List.filter_cons, List.filter_nil]
theorem hChain_eq (i : Nat) : ∀ (d : Nat), d ≤ 16 → ∀ (l : List Nat), l.length = 32 → (∀ x ∈ l, x < 256) → chainI (natI l) i d = natI (hChain i d l)
  | 0, _, l, _, _ => by
    unfold chainI
    rw [hiB_top]
    rfl
  | d + 1, hd, l, hl, hb => by
    have hc : hChain i (d + 1) l = hChain i d (match Nat.testBit i d with | true => hSum (hFlip l (Nat.pow 2 (Nat.mod d 8)) (Nat.div d 8)) | false => l) := rfl
    rw [hc]
    unfold chainI
    rw [hiB_succ, List.foldl_append]
    cases ht : Nat.testBit i d with
    | true =>
      rw [if_pos rfl, List.foldl_cons, List.foldl_nil, chStep_eq hl hb (by omega)]
      exact hChain_eq i d (by omega) _ (hSum_len _) (hSum_lt _)
    | false =>
      rw [if_neg (by simp), List.foldl_nil]
      exact hChain_eq i d (by omega) l hl hb
theorem eNatsV_nat {β : EMp} : ∀ {l : List EV} {vs : List Value} {r : List Nat}, VRs β l vs → eNatsV l = some r → vs = (natI r).map (Value.int .u8) ∧ r.length = l.length ∧ ∀ n ∈ r, n < 256
  | [], _, r, .nil, h => by obtain rfl := Option.some.inj (show some [] = some r from h); exact ⟨rfl, rfl, fun _ h => by cases h⟩
  | x :: l, _, r, .cons a t, h => by
    cases a with
    | int k n =>
      cases k <;> (try (cases h; done))
      cases n with
      | negSucc n => cases h
      | ofNat n =>
        have h2 : (match Nat.ble n 255 with | true => (match eNatsV l with | some r => some (n :: r) | none => none) | false => none) = some r := h
        clear h
        cases hn : Nat.ble n 255 with
        | false => rw [hn] at h2; cases h2
        | true =>
          rw [hn] at h2
          simp only at h2
          cases hl : eNatsV l with
          | none => rw [hl] at h2; cases h2
          | some q =>
            rw [hl] at h2
            obtain rfl := Option.some.inj h2
            obtain ⟨rfl, h4, h3⟩ := eNatsV_nat t hl
            have hn := Nat.le_of_ble_eq_true hn
            refine ⟨rfl, by rw [List.length_cons, List.length_cons, h4], fun m hm => ?_⟩
            rcases List.mem_cons.1 hm with rfl | hm
            · omega
            · exact h3 m hm
    | _ => cases h
theorem iChain_ok {k : ECall} {args : List EV} {s s' : ESt} {x : EV} (ha : iChain k args s = .v x s') : KOk Tryz.prog 358 args s x s' := fun w0 β w av hg hr hv => by
  unfold iChain at ha
  split at ha
  · cases ha
  · rename_i ht
    have hT := iTabs_ok hg hr ht
    split at ha
    · rename_i h i d
      split at ha
      · rename_i hc
        rw [Bool.and_eq_true, Bool.and_eq_true] at hc
        obtain ⟨⟨c1, c2⟩, c3⟩ := hc
        have c1 := Nat.eq_of_beq_eq_true c1
        have c2 : i < 65536 := Nat.le_of_ble_eq_true c2
        have c3 := Nat.le_of_ble_eq_true c3
        split at ha
        · rename_i r hr2
          injection ha with e1 e2
          subst e1 e2
          obtain ⟨av⟩ := av
          cases hv with
          | cons h1 hv =>
            cases hv with
            | cons h2 hv =>
              cases hv with
              | cons h3 hv =>
                cases hv
                cases h2
                cases h3
                cases h1 with
                | agg h1 =>
                  rename_i arr
                  obtain ⟨g1, g2, g3⟩ := eNatsV_nat h1 hr2
                  have g2 : r.length = 32 := g2.trans c1
                  have earr : arr = (hshV (natI r)).toArray := Array.ext' (by rw [g1]; rfl)
                  subst earr
                  refine .inr ⟨enters_of Tryz.func358 (by kernel_rfl) rfl _ _, (chain_any (natI r) (by simp [natI, g2]) i d c2 c3 w hT).mono ?_⟩
                  rintro e w' ⟨rfl, n⟩
                  refine ⟨_, rfl, β, .agg ?_, hr.world n, Ext.refl _ _⟩
                  rw [hChain_eq i d c3 r g2 g3]
                  exact eBytesV_nat _
        · cases ha
      · cases ha
    · cases ha
end Go.Proofs.YtjckpgcmfieaoaaGreatDoor
