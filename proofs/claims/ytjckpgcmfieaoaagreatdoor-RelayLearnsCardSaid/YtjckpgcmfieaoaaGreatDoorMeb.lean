/-
  Law 19's shown: whatever world it begins in; as a function whose contract is known.
-/
import Derived.Test.YtjckpgcmfieaoaaGreatDoorRs0
import Derived.Test.YtjckpgcmfieaoaaGreatDoorMbh
import Derived.Test.YtjckpgcmfieaoaaGreatDoorMde
set_option linter.unusedVariables false
set_option linter.unusedSimpArgs false
namespace Go.Proofs.YtjckpgcmfieaoaaGreatDoor
open Go.RowKit

theorem shown19_run (W : World) (ht : TabsAt W evTab5) : Calls Tryz.prog 10 #[] W fun e w' => e = .returned (.bool true) ∧ Upd (fun _ => False) W w' :=
  told_true1 (by kernel_rfl) intR_ok shown19_ev W ht (fun _ => none) .nil (enters_of Tryz.func10 (by kernel_rfl) rfl _ _)
noncomputable section
def gTabL (k : IntKind) (c : ETr EV) (l : List Nat) : Nat → Bool :=
  List.rec (motive := fun _ => Nat → Bool) (fun _ => true) (fun x _ ih i => match c.get i with
    | some (.int k' (.ofNat n)) => match k == k' && Nat.beq n x with
      | true => ih (Nat.succ i)
      | false => false
    | _ => false) l
def gTab (b : Option EBlk) (k : IntKind) (l : List Nat) : Bool := match b with
  | some (.tab n c) => match Nat.ble l.length n && Nat.ble 1 l.length with
    | true => gTabL k c l 0
    | false => false
  | _ => false
/-- Do all tables lie there? -/
def gTabs (s : ESt) (ts : List ETab) : Bool := List.rec (motive := fun _ => Bool) true (fun t _ ih => match Nat.blt t.1 1024 with
  | true => match gTab (s.heap.get t.1) t.2.1 t.2.2 with
    | true => ih
    | false => false
  | false => false) ts
def iShown19 (_ : ECall) (a : List EV) (s : ESt) : EO := match a with
  | [] => match gTabs s evTab5 with
    | true => .v (.bool true) s
    | false => .er
  | _ => .er
end
theorem gTabL_cons (k : IntKind) (c : ETr EV) (x : Nat) (l : List Nat) (i : Nat) : gTabL k c (x :: l) i = match c.get i with
    | some (.int k' (.ofNat n)) => (match k == k' && Nat.beq n x with
      | true => gTabL k c l (i + 1)
      | false => false)
    | _ => false := rfl
theorem gTabL_ok {k : IntKind} {c : ETr EV} : ∀ {l : List Nat} {i : Nat}, gTabL k c l i = true → ∀ j, j < l.length → c.get (i + j) = some (.int k (l.getD j 0 : Nat))
  | [], _, _, j, hj => absurd hj (Nat.not_lt_zero _)
  | x :: l, i, h, j, hj => by
    rw [gTabL_cons] at h
    split at h
    · rename_i k' n hc
      split at h
      · rename_i hb
        rw [Bool.and_eq_true, beq_iff_eq] at hb
        obtain ⟨rfl, hb⟩ := hb
        obtain rfl := Nat.eq_of_beq_eq_true hb
        cases j with
        | zero => exact hc
        | succ j =>
          have := gTabL_ok h j (by simpa using hj)
          rw [show i + (j + 1) = i + 1 + j by omega, this]
          rfl
      · cases h
    · cases h
theorem gTabs_ok {w0 w : World} {β : EMp} {s : ESt} (hg : GB β) (h : HR w0 β s w) : ∀ {ts : List ETab}, gTabs s ts = true → TabsAt w ts
  | [], _, t, ht => by cases ht
  | u :: ts, hh, t, ht => by
    have hh : (match Nat.blt u.1 1024 with
      | true => (match gTab (s.heap.get u.1) u.2.1 u.2.2 with
        | true => gTabs s ts
        | false => false)
      | false => false) = true := hh
    split at hh
    · rename_i hu
      have hu : u.1 < 1024 := Nat.le_of_ble_eq_true hu
      split at hh
      · rename_i ht2
        rcases List.mem_cons.1 ht with rfl | ht
        · unfold gTab at ht2
          split at ht2
          · rename_i n c hk
            split at ht2
            · rename_i hn
              rw [Bool.and_eq_true] at hn
              have hn1 := Nat.le_of_ble_eq_true hn.1
              have hn2 := Nat.le_of_ble_eq_true hn.2
              refine ⟨hu, hn2, fun i hi => ?_⟩
              obtain ⟨m, hm⟩ := hg t.1 hu
              obtain ⟨-, a, T, fz, h1, -, -, h4⟩ := h.blk t.1 _ _ hm hk
              obtain ⟨x, v, e1, e2, e3⟩ := h4 i (by omega)
              have := gTabL_ok ht2 i hi
              rw [Nat.zero_add, e1] at this
              obtain rfl := Option.some.inj this
              have e2 : a[i]? = some v := by simpa using e2
              rw [blk_cell h1, e2]
              cases e3
              rfl
            · cases ht2
          · cases ht2
        · exact gTabs_ok hg h hh t ht
      · cases hh
    · cases hh
theorem iShown19_ok {k : ECall} {args : List EV} {s s' : ESt} {x : EV} (ha : iShown19 k args s = .v x s') : KOk Tryz.prog 10 args s x s' := fun w0 β w av hg hr hv => by
  unfold iShown19 at ha
  split at ha <;> first | (cases ha; done) | skip
  split at ha <;> first | (cases ha; done) | skip
  rename_i ht
  injection ha with e1 e2
  subst e1 e2
  obtain ⟨av⟩ := av
  cases hv
  refine .inr ⟨enters_of Tryz.func10 (by kernel_rfl) rfl _ _, (shown19_run w (gTabs_ok hg hr ht)).mono ?_⟩
  rintro e w' ⟨rfl, n⟩
  exact ⟨_, rfl, β, .bool true, hr.world n, Ext.refl _ _⟩
/-- A number that is not known, as a symbol. -/
theorem sym_at {W : World} {ρ : Nat → Option Nat} {k : IntKind} {i n lo hi : Nat} (hi0 : i < 1024) (hρ : ρ i = some n) (h1 : lo ≤ n) (h2 : n ≤ hi) : SN (symOf (bet1 W ρ)) (.var i lo hi) n := by
  refine ⟨[], ?_⟩
  unfold SX.den
  rw [bet1_sym W _ hi0, hρ]
  exact if_pos ⟨h1, h2⟩

noncomputable section
def sTexts (l : List EV) : Option (List SX) :=
  List.rec (motive := fun _ => Option (List SX)) (some []) (fun x _ ih => match x with
    | .str a => match ih with
      | some r => some (sOf a :: r)
      | none => none
    | .sstr a => match ih with
      | some r => some (a :: r)
      | none => none
    | _ => none) l
def sJoinL (sep : SX) (l : List SX) : SX :=
  List.rec (motive := fun _ => SX) .nil (fun x r ih => match r with
    | [] => x
    | _ => sApp x (sApp sep ih)) l
def iJoinS (k : ECall) (a : List EV) (s : ESt) : EO := match iJoin k a s with
  | .v x t => .v x t
  | .er => match a with
    | [.sl (some (b, o)) n c z, .str sep] => match s.loadN b o n with
      | some l => match sTexts l with
        | some ls => match Nat.ble n c && Nat.ble 1 n && Nat.ble n 1000 && Nat.ble (sLen (sJoinL (sOf sep) ls)) 1000000000 with
          | true => .v (.sstr (sJoinL (sOf sep) ls)) s
          | false => .er
        | none => .er
      | none => .er
    | _ => .er
end
theorem sTexts_cons (x : EV) (l : List EV) : sTexts (x :: l) = match x with
    | .str a => (match sTexts l with
      | some r => some (sOf a :: r)
      | none => none)
    | .sstr a => (match sTexts l with
      | some r => some (a :: r)
      | none => none)
    | _ => none := rfl
/-- The texts that these forms tell. -/
inductive SBs (σ : Nat → Option Nat) : List SX → List ByteArray → Prop
  | nil : SBs σ [] []
  | cons {l : SX} {b : ByteArray} {ls : List SX} {bs : List ByteArray} : SB σ l (b.data.toList.map (·.toNat)) → SBs σ ls bs → SBs σ (l :: ls) (b :: bs)
theorem sTexts_run {β : EMp} : ∀ {l : List EV} {vs : List Value} {ls : List SX}, VRs β l vs → sTexts l = some ls → ∃ bs : List ByteArray, vs = bs.map Value.string ∧ SBs (symOf β) ls bs
  | _, _, ls, .nil, h => by
    obtain rfl := Option.some.inj (show some [] = some ls from h)
    exact ⟨[], rfl, .nil⟩
  | x :: l, v :: vs, ls, .cons hx hl, h => by
    rw [sTexts_cons] at h
    cases hx <;> first | (cases h; done) | skip
    · rename_i a b hb
      simp only at h
      cases hq : sTexts l with
      | none => rw [hq] at h; cases h
      | some r =>
        rw [hq] at h
        obtain rfl := Option.some.inj h
        obtain ⟨bs, rfl, h2⟩ := sTexts_run hl hq
        refine ⟨_ :: bs, rfl, .cons ?_ h2⟩
        rw [← hb]
        exact sOf_bytes _
    · rename_i a b hb
      simp only at h
      cases hq : sTexts l with
      | none => rw [hq] at h; cases h
      | some r =>
        rw [hq] at h
        obtain rfl := Option.some.inj h
        obtain ⟨bs, rfl, h2⟩ := sTexts_run hl hq
        exact ⟨_ :: bs, rfl, .cons hb h2⟩
theorem SBs.join {σ : Nat → Option Nat} {sep : SX} {sb : ByteArray} (hs : SB σ sep (sb.data.toList.map (·.toNat))) : ∀ {ls : List SX} {bs : List ByteArray}, SBs σ ls bs → SB σ (sJoinL sep ls) ((Lib.join (bs.map (·.data.toList)) sb.data.toList).map (·.toNat))
  | _, _, .nil => .nil
  | _, _, .cons h .nil => by rw [List.map_cons, List.map_nil, Lib.join_one]; exact h
  | _, _, .cons (l := l) (b := b) h (.cons (l := l2) (b := c) (ls := ls) (bs := r) h2 t) => by
    have ih := SBs.join hs (.cons h2 t)
    have e : sJoinL sep (l :: l2 :: ls) = sApp l (sApp sep (sJoinL sep (l2 :: ls))) := rfl
    have e2 : (Lib.join ((b :: c :: r).map (·.data.toList)) sb.data.toList).map (·.toNat) = b.data.toList.map (·.toNat) ++ (sb.data.toList.map (·.toNat) ++ (Lib.join ((c :: r).map (·.data.toList)) sb.data.toList).map (·.toNat)) := by
      unfold Lib.join
      rw [List.map_cons, List.map_cons, List.intercalate_cons_cons]
      simp
    rw [e, e2]
    exact sApp_ok (sApp_ok ih hs) h
theorem iJoinS_ok {k : ECall} {args : List EV} {s s' : ESt} {x : EV} (ha : iJoinS k args s = .v x s') : KOk Tryz.prog 162 args s x s' := by
  unfold iJoinS at ha
  split at ha
  · rename_i y t hj
    injection ha with e1 e2
    subst e1 e2
    exact iJoin_ok hj
  · exact fun w0 β w av hg hr hv => by
      split at ha <;> first | (cases ha; done) | skip
      rename_i b o n c z sep hj
      cases hl : s.loadN b o n with
      | none => rw [hl] at ha; cases ha
      | some l =>
        rw [hl] at ha
        simp only at ha
        cases ht : sTexts l with
        | none => rw [ht] at ha; cases ha
        | some ls =>
          rw [ht] at ha
          simp only at ha
          cases hc : (Nat.ble n c && Nat.ble 1 n && Nat.ble n 1000 && Nat.ble (sLen (sJoinL (sOf sep) ls)) 1000000000) with
          | false => rw [hc] at ha; cases ha
          | true =>
            rw [hc] at ha
            injection ha with e1 e2
            subst e1 e2
            simp only [Bool.and_eq_true] at hc
            obtain ⟨⟨⟨hc1, hc2⟩, hc3⟩, hc4⟩ := hc
            obtain ⟨av⟩ := av
            cases hv with
            | cons h1 h2 =>
              cases h2 with
              | cons h2 h3 =>
                cases h3
                cases h2 with
                | str hs =>
                  cases h1 with
                  | sle _ => exact absurd (Nat.le_of_ble_eq_true hc2) (by omega)
                  | sl hb h0 hz =>
                    obtain ⟨vs, g1, g2, g3⟩ := hr.loadN hb hl
                    obtain ⟨bs, rfl, hB⟩ := sTexts_run g2 ht
                    subst hs
                    rename_i sb cap' l2
                    have hn : n = bs.length := by rw [← g1, List.length_map]
                    subst hn
                    have hJ := hB.join (sb := sb) (sOf_bytes sb)
                    rw [hJ.len, List.length_map] at hc4
                    have hc4 := Nat.le_of_ble_eq_true hc4
                    have hc3 := Nat.le_of_ble_eq_true hc3
                    have hcap : bs.length ≤ cap' := by
                      have h1 := Nat.le_of_ble_eq_true hc1
                      by_cases e : z = 0
                      · rw [h0 e]; exact h1
                      · exact Nat.le_trans h1 (hz e).1
                    have hcell : ∀ (j : Nat) y, bs[j]? = some y → w.cell? ⟨l2.c, l2.sh + o + j, none⟩ = some (.string y) := fun j y hy => g3 j _ (by rw [List.getElem?_map, hy]; rfl)
                    have hlt : l2.c < w.heap.size := by
                      have hpos : 0 < bs.length := Nat.le_of_ble_eq_true hc2
                      have h1 := hcell 0 bs[0] (List.getElem?_eq_getElem hpos)
                      unfold World.cell? at h1
                      cases hq : w.heap[l2.c]? with
                      | none => simp [hq] at h1
                      | some _ => exact (Array.getElem?_eq_some_iff.1 hq).1
                    refine .inr ⟨enters_of Tryz.func162 (by kernel_rfl) rfl _ _, (Any.strings_Join joiL joiX l2.c (l2.sh + o) cap' bs sb w hcell hlt (by omega) hcap (by omega)).mono fun e w' he => ?_⟩
                    obtain ⟨rfl, hb2⟩ := he
                    have hu : Upd (fun _ => False) w w' := Upd.of_below hb2 (Nat.le_refl _)
                    exact ⟨_, rfl, β, .sstr (by simpa using hJ), hr.world hu, Ext.refl _ _⟩

noncomputable def intS (f : FuncId) : Option (ECall → List EV → ESt → EO) := match f with
  | 162 => some iJoinS
  | f => intR f
theorem intS_ok : IOk Tryz.prog intS := fun f g hi k hk args s x s' ha => by
  unfold intS at hi
  split at hi
  · obtain rfl := Option.some.inj hi
    exact iJoinS_ok ha
  · exact intR_ok f g hi k hk args s x s' ha
theorem intS_KS (d : Nat) : KS Tryz.prog (eCall Tryz.prog intS d) := call_ok (by kernel_rfl) intS_ok d
/-- With rests as it is told, and shown. -/
noncomputable def intD (r : ECall → List EV → ESt → EO) (f : FuncId) : Option (ECall → List EV → ESt → EO) := match f with
  | 10 => some iShown19
  | 15 => some r
  | f => intS f
theorem intD_ok {r : ECall → List EV → ESt → EO} (hr : ∀ k, KS Tryz.prog k → ∀ args s x s', r k args s = .v x s' → KOk Tryz.prog 15 args s x s') : IOk Tryz.prog (intD r) := fun f g hi k hk args s x s' ha => by
  unfold intD at hi
  split at hi
  · obtain rfl := Option.some.inj hi
    exact iShown19_ok ha
  · obtain rfl := Option.some.inj hi
    exact hr k hk args s x s' ha
  · exact intS_ok f g hi k hk args s x s' ha
end Go.Proofs.YtjckpgcmfieaoaaGreatDoor
