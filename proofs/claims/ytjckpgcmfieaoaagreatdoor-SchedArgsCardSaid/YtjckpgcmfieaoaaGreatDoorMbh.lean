/-
  Functions whose contract is known: bytes in texts.
-/
import Derived.Test.YtjckpgcmfieaoaaGreatDoorMbg
import Derived.Test.YtjckpgcmfieaoaaGreatDoorProg
import Derived.Lib.Bytealg
import Derived.ProofKit
import Derived.IntWalk
import Derived.Shelf.Abstract
set_option linter.unusedVariables false
set_option linter.unusedSimpArgs false
namespace Go.Proofs.YtjckpgcmfieaoaaGreatDoor
open Go.RowKit

/-- Where a byte stands. -/
noncomputable def iFind (c : Nat) (l : List Nat) : Nat → Int :=
  List.rec (motive := fun _ => Nat → Int) (fun _ => -1) (fun x _ ih i => match Nat.beq x c with | true => Int.ofNat i | false => ih (Nat.succ i)) l
/-- How often. -/
noncomputable def iCount (c : Nat) (l : List Nat) : Nat → Nat :=
  List.rec (motive := fun _ => Nat → Nat) (fun n => n) (fun x _ ih n => match Nat.beq x c with | true => ih (Nat.succ n) | false => ih n) l
theorem iFind_cons (c x : Nat) (l : List Nat) (i : Nat) : iFind c (x :: l) i = match Nat.beq x c with | true => Int.ofNat i | false => iFind c l (Nat.succ i) := rfl
theorem iCount_cons (c x : Nat) (l : List Nat) (i : Nat) : iCount c (x :: l) i = match Nat.beq x c with | true => iCount c l (Nat.succ i) | false => iCount c l i := rfl
theorem byte_beq (x : UInt8) {c : Nat} (hc : c < 256) : Nat.beq x.toNat c = (x == c.toUInt8) := by
  rw [Bool.eq_iff_iff]
  constructor
  · intro h
    have e := Nat.eq_of_beq_eq_true h
    rw [beq_iff_eq, ← UInt8.toNat_inj, e]
    simp [Nat.toUInt8, Nat.mod_eq_of_lt hc]
  · intro h
    rw [beq_iff_eq] at h
    subst h
    have : c.toUInt8.toNat = c := by simp [Nat.toUInt8, Nat.mod_eq_of_lt hc]
    rw [this, Nat.beq_refl]
theorem iFind_eq {c : Nat} (hc : c < 256) : ∀ (l : List UInt8) (i : Nat), iFind c (l.map (·.toNat)) i = if Lib.indexByte l c.toUInt8 = -1 then -1 else Lib.indexByte l c.toUInt8 + i
  | [], i => rfl
  | x :: l, i => by
    rw [List.map_cons, iFind_cons, byte_beq x hc]
    unfold Lib.indexByte
    have ge := Lib.indexByte_ge l c.toUInt8
    cases hb : x == c.toUInt8 with
    | true => simp
    | false =>
      simp only [Bool.false_eq_true, if_false]
      rw [iFind_eq hc l (i + 1)]
      by_cases h1 : Lib.indexByte l c.toUInt8 = -1
      · simp [h1]
      · have h2 : Lib.indexByte l c.toUInt8 + 1 ≠ -1 := by omega
        simp only [h1, if_false, beq_iff_eq, h2]
        push_cast
        omega
theorem iCount_eq {c : Nat} (hc : c < 256) : ∀ (l : List UInt8) (n : Nat), iCount c (l.map (·.toNat)) n = n + Lib.countByte l c.toUInt8
  | [], n => rfl
  | x :: l, n => by
    rw [List.map_cons, iCount_cons, byte_beq x hc]
    unfold Lib.countByte
    rw [List.count_cons]
    cases hb : x == c.toUInt8 with
    | true => simp only; rw [iCount_eq hc l]; unfold Lib.countByte; simp; omega
    | false => simp only; rw [iCount_eq hc l]; unfold Lib.countByte; simp

theorem ext_run {P : Program} {f : FuncId} {fn : Func} (h : P.funcs[f]? = some fn) (hn : (fn.name == "runtime.NumGoroutine") = false) (hb : fn.body.isNone = true) (h1 : (Extern.findNext fn).isNone = true) {e : Array Value → Sem Value} (h2 : Extern.find fn = some e) {args : Array Value} {w w' : World} {v : Value} (hr : (e args).run P w = .ok v w') :
    (callFunc f args).run P w = .ok (.value v) w' := by
  rw [Option.isNone_iff_eq_none] at h1 hb
  have hn : fn.name ≠ "runtime.NumGoroutine" := by simpa using hn
  simp [callFunc, h, hn, hb, h1, h2, hr]
noncomputable section
/-- CountString, IndexByteString. -/
def iCountStr (_ : ECall) (a : List EV) (s : ESt) : EO := match a with
  | [.str l, .int .u8 (.ofNat c)] => match Nat.blt c 256 with
    | true => .v (.int .i64 (Int.ofNat (iCount c l 0))) s
    | false => .er
  | _ => .er
def iIndexStr (_ : ECall) (a : List EV) (s : ESt) : EO := match a with
  | [.str l, .int .u8 (.ofNat c)] => match Nat.blt c 256 with
    | true => .v (.int .i64 (iFind c l 0)) s
    | false => .er
  | _ => .er
end
theorem two_args {β : EMp} {l : List Nat} {c : Nat} {av : Array Value} (h : VRs β [.str l, .int .u8 (.ofNat c)] av.toList) : ∃ b : ByteArray, b.data.toList.map (·.toNat) = l ∧ av = #[.string b, .int .u8 (Int.ofNat c)] := by
  obtain ⟨av⟩ := av
  cases h with
  | cons h1 h2 =>
    cases h2 with
    | cons h2 h3 =>
      cases h3
      cases h1
      cases h2
      exact ⟨_, ‹_›, rfl⟩
theorem iCountStr_ok {P : Program} {f : FuncId} {fn : Func} (h : P.funcs[f]? = some fn) (hn : (fn.name == "runtime.NumGoroutine") = false) (hb : fn.body.isNone = true) (h1 : (Extern.findNext fn).isNone = true) (h2 : Extern.find fn = some Extern.BytealgCount.count) {k : ECall} {args : List EV} {s s' : ESt} {x : EV} (ha : iCountStr k args s = .v x s') : KOk P f args s x s' := fun w0 β w av hg hr hv => by
  unfold iCountStr at ha
  split at ha <;> first | (cases ha; done) | skip
  rename_i l c
  cases hc : Nat.blt c 256 with
  | false => rw [hc] at ha; cases ha
  | true =>
    rw [hc] at ha
    injection ha with e1 e2
    subst e1 e2
    obtain ⟨b, rfl, rfl⟩ := two_args hv
    have hc := Nat.le_of_ble_eq_true hc
    refine .inl ⟨_, w, ext_run h hn hb h1 h2 (Lib.run_countString b c w), β, ?_, hr, Ext.refl _ _⟩
    rw [iCount_eq hc, Nat.zero_add]
    exact .int _ _
theorem iIndexStr_ok {P : Program} {f : FuncId} {fn : Func} (h : P.funcs[f]? = some fn) (hn : (fn.name == "runtime.NumGoroutine") = false) (hb : fn.body.isNone = true) (h1 : (Extern.findNext fn).isNone = true) (h2 : Extern.find fn = some Extern.BytealgIndexByte.indexByte) {k : ECall} {args : List EV} {s s' : ESt} {x : EV} (ha : iIndexStr k args s = .v x s') : KOk P f args s x s' := fun w0 β w av hg hr hv => by
  unfold iIndexStr at ha
  split at ha <;> first | (cases ha; done) | skip
  rename_i l c
  cases hc : Nat.blt c 256 with
  | false => rw [hc] at ha; cases ha
  | true =>
    rw [hc] at ha
    injection ha with e1 e2
    subst e1 e2
    obtain ⟨b, rfl, rfl⟩ := two_args hv
    have hc := Nat.le_of_ble_eq_true hc
    refine .inl ⟨_, w, ext_run h hn hb h1 h2 (Lib.run_indexByteString b c w), β, ?_, hr, Ext.refl _ _⟩
    rw [iFind_eq hc]
    have : (if Lib.indexByte b.data.toList c.toUInt8 = -1 then -1 else Lib.indexByte b.data.toList c.toUInt8 + ((0 : Nat) : Int)) = Lib.indexByte b.data.toList c.toUInt8 := by
      split
      · rename_i e; rw [e]
      · simp
    rw [this]
    exact .int _ _

/-- The package's variables alone. -/
def bet0 : EMp := fun g => if g < 1024 then some ⟨g, 0, 0⟩ else none
theorem HR.start (W : World) : HR W bet0 (.mk .e 1024) W := by
  have he : ∀ b, (ESt.mk .e 1024).heap.get b = none := fun b => ETr.get_e b
  refine ⟨Upd.refl _ _, fun b l h => ?_, fun b l k _ h => ?_, fun b b' l l' k k' _ _ h => ?_⟩
  · unfold bet0 at h
    by_cases hb : b < 1024
    · exact hb
    · rw [if_neg hb] at h; cases h
  · rw [he] at h; cases h
  · rw [he] at h; cases h
/-- What tells true. -/
noncomputable def tellsTrue (r : EO) : Bool := match r with
  | .v (.bool b) _ => b
  | _ => false

noncomputable section
/-- A cell of a row, as it is told: the world stays. -/
def gPut (h : ETr EBlk) (b i : Nat) (x : EV) : ETr EBlk := match h.get b with
  | some (.row n c) => match Nat.blt i n with
    | true => h.set b (.row n (c.set i x))
    | false => h
  | _ => h
def gPuts (x : EV) (i : Nat) (bs : List Nat) : ETr EBlk → ETr EBlk := List.rec (motive := fun _ => ETr EBlk → ETr EBlk) (fun h => h) (fun b _ ih h => ih (gPut h b i x)) bs
/-- The same to the letter. -/
def gEqV (x y : EV) : Bool := match x with
  | .bot => match y with | .bot => true | _ => false
  | .ifc t v => match y with
    | .ifc u w => match Nat.beq t u with | true => eSame v w | false => false
    | _ => false
  | .fn (.func f) a b => match y with
    | .fn (.func g) c d => match Nat.beq f g with
      | true => match eSameL a c with | true => eSameL b d | false => false
      | false => false
    | _ => false
  | x => eSame x y
def gEqO (x y : Option EV) : Bool := match x with
  | none => match y with | none => true | some _ => false
  | some x => match y with | none => false | some y => gEqV x y
def gEqC (c : ETr EV) : ETr EV → Bool :=
  ETr.rec (motive := fun _ => ETr EV → Bool) (fun d => match d with | .e => true | .n _ _ _ => false)
    (fun v _ _ il ir d => match d with
      | .e => false
      | .n u l r => match gEqO v u with
        | true => match il l with | true => ir r | false => false
        | false => false) c
def gEqM (es : List (EV × EV × Nat)) : List (EV × EV × Nat) → Bool :=
  List.rec (motive := fun _ => List (EV × EV × Nat) → Bool) (fun fs => match fs with | [] => true | _ => false)
    (fun e _ ih fs => match fs with
      | [] => false
      | f :: r => match gEqV e.1 f.1 && gEqV e.2.1 f.2.1 && Nat.beq e.2.2 f.2.2 with | true => ih r | false => false) es
def gEqB (k k' : EBlk) : Bool := match k with
  | .row n c => match k' with
    | .row m d => match Nat.beq n m with | true => gEqC c d | false => false
    | _ => false
  | .tab n c => match k' with
    | .tab m d => match Nat.beq n m with | true => gEqC c d | false => false
    | _ => false
  | .map es c => match k' with
    | .map fs d => match Nat.beq c d with | true => gEqM es fs | false => false
    | _ => false
  | .iter a b s l => match k' with
    | .iter a' b' s' l' => (match a with | none => (match a' with | none => true | some _ => false) | some p => (match a' with | none => false | some q => Nat.beq p q)) && Nat.beq b b' && eNatsEq s s' && Nat.beq l l'
    | _ => false
  | .siter s p => match k' with
    | .siter t q => sEqX s t && Nat.beq p q
    | _ => false
  | .dead => match k' with | .dead => true | _ => false
def gEqOB (x y : Option EBlk) : Bool := match x with
  | none => match y with | none => true | some _ => false
  | some x => match y with | none => false | some y => gEqB x y
/-- No number of this tree (a, a + m, ..) is below nx. -/
def gNone (nx : Nat) (h : ETr EBlk) : Nat → Nat → Bool :=
  ETr.rec (motive := fun _ => Nat → Nat → Bool) (fun _ _ => true)
    (fun v _ _ il ir a m => match Nat.ble nx a with
      | true => true
      | false => match v with
        | some _ => false
        | none => match il (Nat.add a m) (Nat.mul 2 m) with
          | true => ir (Nat.add a (Nat.mul 2 m)) (Nat.mul 2 m)
          | false => false) h
/-- Below nx they are the same. -/
def gEqT (nx : Nat) (h : ETr EBlk) : ETr EBlk → Nat → Nat → Bool :=
  ETr.rec (motive := fun _ => ETr EBlk → Nat → Nat → Bool) (fun g a m => gNone nx g a m)
    (fun v _ _ il ir g a m => match Nat.ble nx a with
      | true => true
      | false => match g with
        | .e => false
        | .n u l r => match gEqOB v u with
          | true => match il l (Nat.add a m) (Nat.mul 2 m) with
            | true => ir r (Nat.add a (Nat.mul 2 m)) (Nat.mul 2 m)
            | false => false
          | false => false) h
end
theorem gEqV_eq {x y : EV} (h : gEqV x y = true) : x = y := by
  unfold gEqV at h
  split at h
  · split at h
    · rfl
    · cases h
  · split at h
    · split at h
      · rename_i hb
        rw [Nat.eq_of_beq_eq_true hb, eSame_eq h]
      · cases h
    · cases h
  · split at h
    · split at h
      · rename_i hb
        split at h
        · rename_i ha
          rw [Nat.eq_of_beq_eq_true hb, eSameL_eq ha, eSameL_eq h]
        · cases h
      · cases h
    · cases h
  · exact eSame_eq h
theorem gEqO_eq {x y : Option EV} (h : gEqO x y = true) : x = y := by
  cases x with
  | none => cases y with | none => rfl | some _ => cases h
  | some x => cases y with | none => cases h | some y => rw [gEqV_eq h]
theorem gEqC_eq : ∀ {c d : ETr EV}, gEqC c d = true → c = d
  | .e, .e, _ => rfl
  | .e, .n _ _ _, h => by cases h
  | .n _ _ _, .e, h => by cases h
  | .n v l r, .n u l' r', h => by
    have h : (match gEqO v u with
        | true => (match gEqC l l' with | true => gEqC r r' | false => false)
        | false => false) = true := h
    split at h
    · rename_i h1
      split at h
      · rename_i h2
        rw [gEqO_eq h1, gEqC_eq h2, gEqC_eq h]
      · cases h
    · cases h
theorem gEqM_eq : ∀ {es fs : List (EV × EV × Nat)}, gEqM es fs = true → es = fs
  | [], [], _ => rfl
  | [], _ :: _, h => by cases h
  | _ :: _, [], h => by cases h
  | (a, b, c) :: es, (a', b', c') :: fs, h => by
    have h : (match gEqV a a' && gEqV b b' && Nat.beq c c' with | true => gEqM es fs | false => false) = true := h
    split at h
    · rename_i hc
      rw [Bool.and_eq_true, Bool.and_eq_true] at hc
      rw [gEqV_eq hc.1.1, gEqV_eq hc.1.2, Nat.eq_of_beq_eq_true hc.2, gEqM_eq h]
    · cases h
theorem gEqB_eq {k k' : EBlk} (h : gEqB k k' = true) : k = k' := by
  unfold gEqB at h
  split at h
  · split at h
    · split at h
      · rename_i hb
        rw [Nat.eq_of_beq_eq_true hb, gEqC_eq h]
      · cases h
    · cases h
  · split at h
    · split at h
      · rename_i hb
        rw [Nat.eq_of_beq_eq_true hb, gEqC_eq h]
      · cases h
    · cases h
  · split at h
    · split at h
      · rename_i hb
        rw [Nat.eq_of_beq_eq_true hb, gEqM_eq h]
      · cases h
    · cases h
  · split at h
    · rw [Bool.and_eq_true, Bool.and_eq_true, Bool.and_eq_true] at h
      obtain ⟨⟨⟨h1, h2⟩, h3⟩, h4⟩ := h
      rw [Nat.eq_of_beq_eq_true h2, (eNatsEq_eq _ _).1 h3, Nat.eq_of_beq_eq_true h4]
      split at h1
      · split at h1
        · rfl
        · cases h1
      · split at h1
        · cases h1
        · rw [Nat.eq_of_beq_eq_true h1]
    · cases h
  · split at h
    · rw [Bool.and_eq_true] at h
      rw [sEqX_iff _ _ h.1, Nat.eq_of_beq_eq_true h.2]
    · cases h
  · split at h
    · rfl
    · cases h
theorem gEqOB_eq {x y : Option EBlk} (h : gEqOB x y = true) : x = y := by
  cases x with
  | none => cases y with | none => rfl | some _ => cases h
  | some x => cases y with | none => cases h | some y => rw [gEqB_eq h]
/-- The number at the end of a way, in the tree of a, a + m, .. -/
def EPth.at_ (a m : Nat) (p : EPth) : Nat := a + m * p.val
theorem EPth.at_l (a m : Nat) (p : EPth) : (EPth.l p).at_ a m = p.at_ (a + m) (2 * m) := by
  unfold EPth.at_
  show a + m * (2 * p.val + 1) = a + m + 2 * m * p.val
  rw [Nat.mul_add, Nat.mul_one, ← Nat.mul_assoc, Nat.mul_comm m 2]
  omega
theorem EPth.at_r (a m : Nat) (p : EPth) : (EPth.r p).at_ a m = p.at_ (a + 2 * m) (2 * m) := by
  unfold EPth.at_
  show a + m * (2 * p.val + 2) = a + 2 * m + 2 * m * p.val
  rw [Nat.mul_add, ← Nat.mul_assoc, Nat.mul_comm m 2]
  omega
theorem EPth.at_z (a m : Nat) : EPth.z.at_ a m = a := by unfold EPth.at_; show a + m * 0 = a; omega
theorem EPth.at_ge (a m : Nat) (p : EPth) : a ≤ p.at_ a m := by unfold EPth.at_; omega
theorem gNone_n (nx : Nat) (v : Option EBlk) (l r : ETr EBlk) (a m : Nat) : gNone nx (.n v l r) a m = match Nat.ble nx a with
      | true => true
      | false => (match v with
        | some _ => false
        | none => (match gNone nx l (a + m) (2 * m) with
          | true => gNone nx r (a + 2 * m) (2 * m)
          | false => false)) := rfl
theorem gEqT_n (nx : Nat) (v : Option EBlk) (l r g : ETr EBlk) (a m : Nat) : gEqT nx (.n v l r) g a m = match Nat.ble nx a with
      | true => true
      | false => (match g with
        | .e => false
        | .n u l' r' => (match gEqOB v u with
          | true => (match gEqT nx l l' (a + m) (2 * m) with
            | true => gEqT nx r r' (a + 2 * m) (2 * m)
            | false => false)
          | false => false)) := rfl
theorem gNone_ok {nx : Nat} : ∀ {h : ETr EBlk} {a m : Nat}, gNone nx h a m = true → ∀ p : EPth, p.at_ a m < nx → h.getP p = none
  | .e, _, _, _, p, _ => ETr.getP_e p
  | .n v l r, a, m, hg, p, hp => by
    rw [gNone_n] at hg
    split at hg
    · rename_i hb
      have := Nat.le_of_ble_eq_true hb
      have := EPth.at_ge a m p
      omega
    · split at hg
      · cases hg
      · split at hg
        · rename_i hl
          cases p with
          | z => rfl
          | l p => exact gNone_ok hl p (by rw [← EPth.at_l]; exact hp)
          | r p => exact gNone_ok hg p (by rw [← EPth.at_r]; exact hp)
        · cases hg
theorem gEqT_ok {nx : Nat} : ∀ {h g : ETr EBlk} {a m : Nat}, gEqT nx h g a m = true → ∀ p : EPth, p.at_ a m < nx → g.getP p = h.getP p
  | .e, g, a, m, hg, p, hp => by rw [gNone_ok (show gNone nx g a m = true from hg) p hp, ETr.getP_e]
  | .n v l r, g, a, m, hg, p, hp => by
    rw [gEqT_n] at hg
    split at hg
    · rename_i hb
      have := Nat.le_of_ble_eq_true hb
      have := EPth.at_ge a m p
      omega
    · split at hg
      · cases hg
      · rename_i u l' r'
        split at hg
        · rename_i hv
          split at hg
          · rename_i hl
            cases p with
            | z => exact (gEqOB_eq hv).symm
            | l p => exact gEqT_ok hl p (by rw [← EPth.at_l]; exact hp)
            | r p => exact gEqT_ok hg p (by rw [← EPth.at_r]; exact hp)
          · cases hg
        · cases hg
theorem gEqT_get {nx : Nat} {h g : ETr EBlk} (hg : gEqT nx h g 0 1 = true) {b : Nat} (hb : b < nx) : g.get b = h.get b := by
  refine gEqT_ok hg (ePath b) ?_
  unfold EPth.at_ ePath
  rw [ePathF_val _ _ (Nat.lt_succ_self _)]
  omega

noncomputable section
/-- Are all symbols of a form below nx? -/
def gVars (nx : Nat) (e : SX) : Bool :=
  SX.rec (motive := fun _ => Bool) (fun n _ _ => Nat.blt (1024 + n) nx) (fun _ _ _ ih => ih) (fun _ _ ih => ih) (fun _ => true) (fun _ _ _ ia ir => match ia with | true => ir | false => false) true (fun _ _ ia ir => match ia with | true => ir | false => false) e
def gRefA (nx : Nat) (a : Option (Nat × Nat)) : Bool := match a with | none => true | some p => Nat.blt p.1 nx
/-- Is all that a value names below nx? -/
def gRefS (nx : Nat) (x : EV) : Bool := match x with
  | .bot => true
  | .bool _ => true
  | .int _ _ => true
  | .str _ => true
  | .ptr a => gRefA nx a
  | .sl a _ _ _ => gRefA nx a
  | .map none => true
  | .map (some r) => Nat.blt r nx
  | .nilF => true
  | .nilI => true
  | .sint _ e => gVars nx e
  | .sstr l => gVars nx l
  | _ => false
def gRefL (nx : Nat) (l : List EV) : Bool := List.rec (motive := fun _ => Bool) true (fun x _ ih => match gRefS nx x with | true => ih | false => false) l
def gRef (nx : Nat) (x : EV) : Bool := match x with
  | .agg l => gRefL nx l
  | .tup l => gRefL nx l
  | .fn _ a b => match gRefL nx a with | true => gRefL nx b | false => false
  | .ifc _ v => match v with
    | .agg l => gRefL nx l
    | v => gRefS nx v
  | x => gRefS nx x
def gRefC (nx : Nat) (c : ETr EV) : Bool := ETr.rec (motive := fun _ => Bool) true (fun v _ _ il ir => match (match v with | none => true | some x => gRef nx x) with | true => (match il with | true => ir | false => false) | false => false) c
def gRefM (nx : Nat) (es : List (EV × EV × Nat)) : Bool := List.rec (motive := fun _ => Bool) true (fun e _ ih => match gRef nx e.1 && gRef nx e.2.1 with | true => ih | false => false) es
def gRefB (nx : Nat) (k : EBlk) : Bool := match k with
  | .row _ c => gRefC nx c
  | .tab _ c => gRefC nx c
  | .map es _ => gRefM nx es
  | .iter none _ _ _ => true
  | .iter (some m) _ _ _ => Nat.blt m nx
  | .siter s _ => gVars nx s
  | .dead => true
def gRefT (nx : Nat) (h : ETr EBlk) : Bool := ETr.rec (motive := fun _ => Bool) true (fun v _ _ il ir => match (match v with | none => true | some x => gRefB nx x) with | true => (match il with | true => ir | false => false) | false => false) h
end
theorem gVars_den {nx : Nat} {σ τ : Nat → Option Nat} (hs : ∀ n, 1024 + n < nx → τ n = σ n) : ∀ (e : SX), gVars nx e = true → e.den τ = e.den σ
  | .var n lo hi, h => by
    unfold SX.den
    rw [hs n (Nat.le_of_ble_eq_true h)]
  | .dm m M e, h => by
    unfold SX.den
    rw [gVars_den hs e h]
  | .sha i l, h => by
    unfold SX.den
    rw [gVars_den hs l h]
  | .cst c, _ => rfl
  | .term c a r, h => by
    have h : (match gVars nx a with | true => gVars nx r | false => false) = true := h
    split at h
    · rename_i ha
      unfold SX.den
      rw [gVars_den hs a ha, gVars_den hs r h]
    · cases h
  | .nil, _ => rfl
  | .cons a r, h => by
    have h : (match gVars nx a with | true => gVars nx r | false => false) = true := h
    split at h
    · rename_i ha
      unfold SX.den
      rw [gVars_den hs a ha, gVars_den hs r h]
    · cases h
section
variable {nx : Nat} {β γ : EMp}
theorem sym_eq (hβ : ∀ b, b < nx → γ b = β b) : ∀ n, 1024 + n < nx → symOf γ n = symOf β n := fun n hn => by
  unfold symOf
  rw [hβ _ hn]
theorem gRefS_ok (hβ : ∀ b, b < nx → γ b = β b) {x : EV} {v : Value} (h : gRefS nx x = true) (hv : VR β x v) : VR γ x v := by
  have adr : ∀ {b : Nat} {l : ELoc}, Nat.blt b nx = true → β b = some l → γ b = some l := fun hb hl => by rw [hβ _ (Nat.le_of_ble_eq_true hb)]; exact hl
  cases hv with
  | bot v => exact .bot v
  | bool b => exact .bool b
  | int k n => exact .int k n
  | str e => exact .str e
  | pnil => exact .pnil
  | ptr e => exact .ptr (adr h e)
  | snil => exact .snil
  | sl e a b => exact .sl (adr h e) a b
  | sle e => exact .sle (adr h e)
  | mnil => exact .mnil
  | map e => exact .map (adr h e)
  | fn _ _ => cases h
  | nilF => exact .nilF
  | ifc _ => cases h
  | nilI => exact .nilI
  | agg _ => cases h
  | tup _ => cases h
  | sint e k =>
    obtain ⟨bs, hd⟩ := e
    exact .sint ⟨bs, by rw [gVars_den (sym_eq hβ) _ h]; exact hd⟩ k
  | sstr e =>
    obtain ⟨z, hd⟩ := e
    exact .sstr ⟨z, by rw [gVars_den (sym_eq hβ) _ h]; exact hd⟩
theorem gRefL_ok (hβ : ∀ b, b < nx → γ b = β b) : ∀ {l : List EV} {vs : List Value}, gRefL nx l = true → VRs β l vs → VRs γ l vs
  | _, _, _, .nil => .nil
  | x :: l, _, h, .cons a t => by
    have h : (match gRefS nx x with | true => gRefL nx l | false => false) = true := h
    split at h
    · rename_i hx
      exact .cons (gRefS_ok hβ hx a) (gRefL_ok hβ h t)
    · cases h
theorem gRef_ok (hβ : ∀ b, b < nx → γ b = β b) {x : EV} {v : Value} (h : gRef nx x = true) (hv : VR β x v) : VR γ x v := by
  unfold gRef at h
  split at h
  · cases hv with | agg a => exact .agg (gRefL_ok hβ h a)
  · cases hv with | tup a => exact .tup (gRefL_ok hβ h a)
  · cases hv with
    | fn a b =>
      split at h
      · rename_i ha
        exact .fn (gRefL_ok hβ ha a) (gRefL_ok hβ h b)
      · cases h
  · cases hv with
    | ifc a =>
      split at h
      · cases a with | agg a => exact .ifc (.agg (gRefL_ok hβ h a))
      · exact .ifc (gRefS_ok hβ h a)
  · exact gRefS_ok hβ h hv
theorem gRefC_get : ∀ {c : ETr EV}, gRefC nx c = true → ∀ p x, c.getP p = some x → gRef nx x = true
  | .e, _, p, x, h => by rw [ETr.getP_e] at h; cases h
  | .n v l r, hc, p, x, h => by
    have hc : (match (match v with | none => true | some x => gRef nx x) with | true => (match gRefC nx l with | true => gRefC nx r | false => false) | false => false) = true := hc
    split at hc
    · rename_i hv
      split at hc
      · rename_i hl
        cases p with
        | z =>
          have h : v = some x := h
          rw [h] at hv
          exact hv
        | l p => exact gRefC_get hl p x h
        | r p => exact gRefC_get hc p x h
      · cases hc
    · cases hc
theorem gRefT_get : ∀ {c : ETr EBlk}, gRefT nx c = true → ∀ p x, c.getP p = some x → gRefB nx x = true
  | .e, _, p, x, h => by rw [ETr.getP_e] at h; cases h
  | .n v l r, hc, p, x, h => by
    have hc : (match (match v with | none => true | some x => gRefB nx x) with | true => (match gRefT nx l with | true => gRefT nx r | false => false) | false => false) = true := hc
    split at hc
    · rename_i hv
      split at hc
      · rename_i hl
        cases p with
        | z =>
          have h : v = some x := h
          rw [h] at hv
          exact hv
        | l p => exact gRefT_get hl p x h
        | r p => exact gRefT_get hc p x h
      · cases hc
    · cases hc
theorem gRefM_ok (hβ : ∀ b, b < nx → γ b = β b) : ∀ {es : List (EV × EV × Nat)} {fs : List MapEntry}, gRefM nx es = true → MR β es fs → MR γ es fs
  | _, _, _, .nil => .nil
  | (k, v, b) :: es, _, h, .cons hk hv t => by
    have h : (match gRef nx k && gRef nx v with | true => gRefM nx es | false => false) = true := h
    split at h
    · rename_i hc
      rw [Bool.and_eq_true] at hc
      exact .cons (gRef_ok hβ hc.1 hk) (gRef_ok hβ hc.2 hv) (gRefM_ok hβ h t)
    · cases h
theorem BR.low {w0 w : World} {k : EBlk} {l : ELoc} (hβ : ∀ b, b < nx → γ b = β b) (h : gRefB nx k = true) (b : BR w0 β k l w) : BR w0 γ k l w := by
  have cr : ∀ {n : Nat} {cs : ETr EV} {sh : Nat} {a : Array Value}, gRefC nx cs = true → CR β n cs sh a → CR γ n cs sh a := fun hc c i hi => by
    obtain ⟨x, v, h1, h2, h3⟩ := c i hi
    exact ⟨x, v, h1, h2, gRef_ok hβ (gRefC_get hc _ x h1) h3⟩
  unfold BR at *
  cases k with
  | row n cs => obtain ⟨h0, a, T, fz, h1, h2, h3, h4, h5⟩ := b; exact ⟨h0, a, T, fz, h1, h2, h3, h4, cr h h5⟩
  | tab n cs => obtain ⟨h0, a, T, fz, h1, h2, h3, h5⟩ := b; exact ⟨h0, a, T, fz, h1, h2, h3, cr h h5⟩
  | map es ck => obtain ⟨h0, es', h1, h2⟩ := b; exact ⟨h0, es', h1, gRefM_ok hβ h h2⟩
  | iter m since seen last =>
    cases m with
    | none => exact b
    | some m => obtain ⟨h0, hs, lm, h1, h2⟩ := b; exact ⟨h0, hs, lm, by rw [hβ m (Nat.le_of_ble_eq_true h)]; exact h1, h2⟩
  | siter s pos =>
    obtain ⟨h0, hs, x, ⟨z, h1⟩, h2⟩ := b
    exact ⟨h0, hs, x, ⟨z, by rw [gVars_den (sym_eq hβ) _ h]; exact h1⟩, h2⟩
  | dead => trivial
end
section
variable {w0 w : World} {β : EMp} {s : ESt}
/-- Blocks from nx on are forgotten; what stands at nx is a symbol. -/
noncomputable def lowMap (β : EMp) (nx v : Nat) : EMp := fun b => if b < nx then β b else if b = nx then some ⟨v, 0, 0⟩ else none
theorem HR.low (h : HR w0 β s w) {B : ETr EBlk} {nx : Nat} (v : Nat) (he : ∀ b, b < nx → s.heap.get b = B.get b) (hr : gRefT nx B = true) (hn : B.get nx = none) : HR w0 (lowMap β nx v) (.mk B (nx + 1)) w := by
  have hβ : ∀ b, b < nx → lowMap β nx v b = β b := fun b hb => if_pos hb
  have inv : ∀ b l, lowMap β nx v b = some l → (b < nx ∧ β b = some l) ∨ b = nx := fun b l e => by
    unfold lowMap at e
    split at e
    · rename_i hb; exact .inl ⟨hb, e⟩
    · split at e
      · rename_i hb; exact .inr hb
      · cases e
  have hget : ∀ {b : Nat} {k : EBlk}, b < nx → (ESt.mk B (nx + 1)).heap.get b = some k → s.heap.get b = some k := fun hb hk => by
    rw [he _ hb]
    exact hk
  refine ⟨h.up, fun b l e => ?_, fun b l k e hk => ?_, fun b b' l l' k k' e e' g g' v1 v2 ec => ?_⟩
  · show b < nx + 1
    rcases inv b l e with ⟨hb, -⟩ | rfl <;> omega
  · rcases inv b l e with ⟨hb, e⟩ | rfl
    · exact (h.blk b l k e (hget hb hk)).low hβ (gRefT_get hr _ k hk)
    · have hk : B.get b = some k := hk
      rw [hn] at hk
      cases hk
  · rcases inv b l e with ⟨hb, e⟩ | rfl
    · rcases inv b' l' e' with ⟨hb', e'⟩ | rfl
      · exact h.inj b b' l l' k k' e e' (hget hb g) (hget hb' g') v1 v2 ec
      · have g' : B.get b' = some k' := g'
        rw [hn] at g'
        cases g'
    · have g : B.get b = some k := g
      rw [hn] at g
      cases g
/-- A cell told anew. -/
theorem HR.cellPut (h : HR w0 β s w) {b i : Nat} {x : EV} (hx : ∀ l v, β b = some l → w.cell? ⟨l.c, l.sh + i, none⟩ = some v → VR β x v) : HR w0 β (.mk (gPut s.heap b i x) s.next) w := by
  unfold gPut
  split
  · rename_i n c hk
    split
    · rename_i hi
      have hi : i < n := Nat.le_of_ble_eq_true hi
      have old : ∀ (y : Nat) (ky : EBlk), (s.heap.set b (.row n (c.set i x))).get y = some ky → ky.live → ∃ kz, s.heap.get y = some kz ∧ kz.live := fun y ky hy hv => by
        by_cases hyb : b = y
        · subst hyb; exact ⟨_, hk, trivial⟩
        · rw [ETr.get_set_ne _ _ hyb] at hy; exact ⟨ky, hy, hv⟩
      refine ⟨h.up, h.lt, fun b2 l k e hk2 => ?_, fun b1 b2 l1 l2 k1 k2 e1 e2 g1 g2 v1 v2 ec => ?_⟩
      · by_cases hb : b = b2
        · subst hb
          have hk2 : (s.heap.set b (.row n (c.set i x))).get b = some k := hk2
          rw [ETr.get_set] at hk2
          obtain rfl := Option.some.inj hk2
          obtain ⟨h0, a, T, fz, h1, h2, h3, ⟨h4, h6⟩, h5⟩ := h.blk b l _ e hk
          refine ⟨h0, a, T, fz, h1, h2, h3, ⟨h4, fun t v ev => h6 t v (by rw [ETr.get_set_ne _ _ (by omega)] at ev; exact ev)⟩, fun j hj => ?_⟩
          by_cases hij : i = j
          · subst hij
            obtain ⟨y, v, g1, g2, g3⟩ := h5 i hi
            exact ⟨x, v, ETr.get_set _ _ _, g2, hx l v e (by rw [blk_cell h1, g2])⟩
          · obtain ⟨y, v, g1, g2, g3⟩ := h5 j hj
            exact ⟨y, v, by rw [ETr.get_set_ne _ _ hij]; exact g1, g2, g3⟩
        · have hk2 : (s.heap.set b (.row n (c.set i x))).get b2 = some k := hk2
          rw [ETr.get_set_ne _ _ hb] at hk2
          exact h.blk b2 l k e hk2
      · obtain ⟨y1, z1, t1⟩ := old b1 k1 g1 v1
        obtain ⟨y2, z2, t2⟩ := old b2 k2 g2 v2
        exact h.inj b1 b2 l1 l2 y1 y2 e1 e2 z1 z2 t1 t2 ec
    · rw [← ESt.eta s]; exact h
  · rw [← ESt.eta s]; exact h
theorem gPut_get (h : ETr EBlk) {b i y : Nat} (x : EV) (hy : b ≠ y) : (gPut h b i x).get y = h.get y := by
  unfold gPut
  split
  · split
    · exact ETr.get_set_ne _ _ hy
    · rfl
  · rfl
theorem gPuts_cons (x : EV) (i b : Nat) (bs : List Nat) (h : ETr EBlk) : gPuts x i (b :: bs) h = gPuts x i bs (gPut h b i x) := rfl
theorem gPuts_get {i y : Nat} (x : EV) : ∀ (bs : List Nat) (h : ETr EBlk), y ∉ bs → (gPuts x i bs h).get y = h.get y
  | [], _, _ => rfl
  | b :: bs, h, hy => by
    rw [gPuts_cons, gPuts_get x bs _ fun hm => hy (List.mem_cons_of_mem _ hm)]
    exact gPut_get h x fun e => hy (by rw [e]; exact List.mem_cons_self ..)
theorem HR.cellPuts {i : Nat} {x : EV} : ∀ (bs : List Nat) {s : ESt}, HR w0 β s w → (∀ b ∈ bs, ∀ l v, β b = some l → w.cell? ⟨l.c, l.sh + i, none⟩ = some v → VR β x v) → HR w0 β (.mk (gPuts x i bs s.heap) s.next) w
  | [], s, h, _ => by
    show HR w0 β (.mk s.heap s.next) w
    rw [← ESt.eta s]
    exact h
  | b :: bs, s, h, hx => by
    rw [gPuts_cons]
    have h1 := h.cellPut (i := i) (x := x) (hx b (List.mem_cons_self ..))
    exact HR.cellPuts bs h1 fun b hb => hx b (List.mem_cons_of_mem _ hb)
end

noncomputable section
/-- n rounds. -/
def gIter (k : ECall) (a : List EV) (n : Nat) : ESt → Option ESt :=
  Nat.rec (motive := fun _ => ESt → Option ESt) (fun s => some s) (fun _ ih s => match k 19 a s with
    | .v (.tup []) s' => ih s'
    | _ => none) n
def gPath (s : ESt) (path : List Nat) : Nat → Option Nat :=
  List.rec (motive := fun _ => Nat → Option Nat) (fun b => some b) (fun o _ ih b => match s.load1 b o with
    | some (.ptr (some (c, _))) => ih c
    | some (.sl (some (c, _)) _ _ _) => ih c
    | _ => none) path
def gPaths (s : ESt) (w : Nat) (ps : List (List Nat)) : Option (List Nat) :=
  List.rec (motive := fun _ => Option (List Nat)) (some []) (fun p _ ih => match gPath s p w with
    | some b => match ih with | some r => some (b :: r) | none => none
    | none => none) ps
end
theorem gIter_succ {k : ECall} {a : List EV} {n : Nat} {s t : ESt} (h : gIter k a (n + 1) s = some t) : ∃ s', k 19 a s = .v (.tup []) s' ∧ gIter k a n s' = some t := by
  have h : (match k 19 a s with
    | .v (.tup []) s' => gIter k a n s'
    | _ => none) = some t := h
  split at h
  · rename_i s' hk
    exact ⟨s', hk, h⟩
  · cases h
section
variable {w0 w : World} {β : EMp} {s : ESt}
theorem gPath_ok (h : HR w0 β s w) : ∀ {path : List Nat} {b c : Nat} {l : ELoc}, β b = some l → gPath s path b = some c → ∃ l', β c = some l'
  | [], b, c, l, hb, hp => by
    obtain rfl := Option.some.inj (show some b = some c from hp)
    exact ⟨l, hb⟩
  | o :: path, b, c, l, hb, hp => by
    have hp : (match s.load1 b o with
      | some (.ptr (some (c, _))) => gPath s path c
      | some (.sl (some (c, _)) _ _ _) => gPath s path c
      | _ => none) = some c := hp
    split at hp
    · rename_i hl
      obtain ⟨v, v1, -⟩ := h.load1 hb hl
      cases v1 with
      | ptr hb => exact gPath_ok h hb hp
    · rename_i hl
      obtain ⟨v, v1, -⟩ := h.load1 hb hl
      cases v1 with
      | sl hb _ _ => exact gPath_ok h hb hp
      | sle hb => exact gPath_ok h hb hp
    · cases hp
theorem gPaths_ok (h : HR w0 β s w) {wb : Nat} {l : ELoc} (hb : β wb = some l) : ∀ {ps : List (List Nat)} {bs : List Nat}, gPaths s wb ps = some bs → ∀ b ∈ bs, ∃ l', β b = some l'
  | [], bs, hp => by
    obtain rfl := Option.some.inj (show some [] = some bs from hp)
    intro b hb; cases hb
  | p :: ps, bs, hp => by
    have hp : (match gPath s p wb with
      | some b => (match gPaths s wb ps with | some r => some (b :: r) | none => none)
      | none => none) = some bs := hp
    split at hp
    · rename_i c hc
      split at hp
      · rename_i r hr
        obtain rfl := Option.some.inj hp
        intro b hm
        rcases List.mem_cons.1 hm with rfl | hm
        · exact gPath_ok h hb hc
        · exact gPaths_ok h hb hr b hm
      · cases hp
    · cases hp
end

noncomputable section
/-- g is h, but that blocks from n0 on may lack. -/
def gSubT (n0 : Nat) (h : ETr EBlk) : ETr EBlk → Nat → Nat → Bool :=
  ETr.rec (motive := fun _ => ETr EBlk → Nat → Nat → Bool) (fun g _ _ => match g with | .e => true | .n _ _ _ => false)
    (fun v l r il ir g a m => match g with
      | .e => gNone n0 (.n v l r) a m
      | .n u l' r' => match (match u with
          | none => (match v with | none => true | some _ => Nat.ble n0 a)
          | some y => gEqOB v (some y)) with
        | true => match il l' (Nat.add a m) (Nat.mul 2 m) with
          | true => ir r' (Nat.add a (Nat.mul 2 m)) (Nat.mul 2 m)
          | false => false
        | false => false) h
def gSub (n0 : Nat) (s t : ESt) : Bool := match s with
  | .mk h n => match t with
    | .mk g m => match Nat.beq n m with
      | true => gSubT n0 h g 0 1
      | false => false
/-- n rounds from L come to M. -/
def gStage (k : ECall) (a : List EV) (n0 n : Nat) (L M : ESt) : Bool := match gIter k a n L with
  | none => false
  | some t => gSub n0 t M
end
theorem gSubT_n (n0 : Nat) (v : Option EBlk) (l r g : ETr EBlk) (a m : Nat) : gSubT n0 (.n v l r) g a m = match g with
      | .e => gNone n0 (.n v l r) a m
      | .n u l' r' => (match (match u with
          | none => (match v with | none => true | some _ => Nat.ble n0 a)
          | some y => gEqOB v (some y)) with
        | true => (match gSubT n0 l l' (a + m) (2 * m) with
          | true => gSubT n0 r r' (a + 2 * m) (2 * m)
          | false => false)
        | false => false) := rfl
theorem gSubT_ok {n0 : Nat} : ∀ {h g : ETr EBlk} {a m : Nat}, gSubT n0 h g a m = true → ∀ p : EPth, (p.at_ a m < n0 → g.getP p = h.getP p) ∧ (g.getP p = h.getP p ∨ g.getP p = none)
  | .e, .e, _, _, _, p => ⟨fun _ => rfl, .inl rfl⟩
  | .e, .n _ _ _, _, _, hg, _ => by cases hg
  | .n v l r, .e, a, m, hg, p => by
    have hg : gNone n0 (.n v l r) a m = true := hg
    exact ⟨fun hp => by rw [gNone_ok hg p hp, ETr.getP_e], .inr (ETr.getP_e p)⟩
  | .n v l r, .n u l' r', a, m, hg, p => by
    rw [gSubT_n] at hg
    simp only at hg
    split at hg
    · rename_i hv
      split at hg
      · rename_i hl
        cases p with
        | z =>
          cases u with
          | none =>
            refine ⟨fun hp => ?_, .inr rfl⟩
            cases v with
            | none => rfl
            | some y =>
              have := Nat.le_of_ble_eq_true hv
              rw [EPth.at_z] at hp
              omega
          | some y => exact ⟨fun _ => (gEqOB_eq hv).symm, .inl (gEqOB_eq hv).symm⟩
        | l p =>
          have := gSubT_ok hl p
          rw [EPth.at_l]
          exact this
        | r p =>
          have := gSubT_ok hg p
          rw [EPth.at_r]
          exact this
      · cases hg
    · cases hg
theorem gSub_ok {n0 : Nat} {s t : ESt} (h : gSub n0 s t = true) : s.next = t.next ∧ ∀ b, (b < n0 → t.heap.get b = s.heap.get b) ∧ (t.heap.get b = s.heap.get b ∨ t.heap.get b = none) := by
  obtain ⟨h0, n⟩ := s
  obtain ⟨g, m⟩ := t
  unfold gSub at h
  simp only at h
  split at h
  · rename_i hb
    refine ⟨Nat.eq_of_beq_eq_true hb, fun b => ?_⟩
    have := gSubT_ok h (ePath b)
    have e : (ePath b).at_ 0 1 = b := by
      unfold EPth.at_ ePath
      rw [ePathF_val _ _ (Nat.lt_succ_self _)]
      omega
    rw [e] at this
    exact this
  · cases h
section
variable {w0 w : World} {β β0 : EMp} {s t s0 : ESt}
theorem HR.sub {n0 : Nat} (hr : HR w0 β s w) (h : gSub n0 s t = true) : HR w0 β t w := by
  obtain ⟨hn, hb⟩ := gSub_ok h
  refine ⟨hr.up, fun b l e => by rw [← hn]; exact hr.lt b l e, fun b l k e hk => ?_, fun b b' l l' k k' e e' g g' v1 v2 ec => ?_⟩
  · rcases (hb b).2 with h1 | h1
    · rw [h1] at hk; exact hr.blk b l k e hk
    · rw [h1] at hk; cases hk
  · rcases (hb b).2 with h1 | h1
    · rcases (hb b').2 with h2 | h2
      · rw [h1] at g
        rw [h2] at g'
        exact hr.inj b b' l l' k k' e e' g g' v1 v2 ec
      · rw [h2] at g'; cases g'
    · rw [h1] at g; cases g
theorem Ext.sub {n0 : Nat} (he : Ext β0 s0 β s) (hn0 : s0.next = n0) (h : gSub n0 s t = true) : Ext β0 s0 β t := by
  obtain ⟨hn, hb⟩ := gSub_ok h
  refine ⟨he.le, by rw [← hn]; exact he.next, fun b hl e => ?_⟩
  obtain ⟨g1, g2⟩ := he.un b hl e
  exact ⟨g1, by rw [(hb b).1 (by omega), g2]⟩
end
/-- Rounds, and blocks forgotten between them. -/
inductive Tr (k : ECall) (a : List EV) (n0 : Nat) : Nat → ESt → ESt → Prop
  | nil (s : ESt) : Tr k a n0 0 s s
  | cut {n : Nat} {s t u : ESt} (h : gSub n0 s t = true) (r : Tr k a n0 n t u) : Tr k a n0 n s u
  | step {n : Nat} {s t u : ESt} (h : k 19 a s = .v (.tup []) t) (r : Tr k a n0 n t u) : Tr k a n0 (n + 1) s u
theorem Tr.iter {k : ECall} {a : List EV} {n0 m : Nat} : ∀ {n : Nat} {s t u : ESt}, gIter k a n s = some t → Tr k a n0 m t u → Tr k a n0 (n + m) s u
  | 0, s, t, u, h, r => by
    obtain rfl := Option.some.inj (show some s = some t from h)
    rw [Nat.zero_add]
    exact r
  | n + 1, s, t, u, h, r => by
    obtain ⟨s', h1, h2⟩ := gIter_succ h
    rw [show n + 1 + m = n + m + 1 by omega]
    exact .step h1 (Tr.iter h2 r)
theorem Tr.stage {k : ECall} {a : List EV} {n0 n m : Nat} {L M u : ESt} (h : gStage k a n0 n L M = true) (r : Tr k a n0 m M u) : Tr k a n0 (n + m) L u := by
  unfold gStage at h
  split at h
  · cases h
  · rename_i t ht
    exact Tr.iter ht (.cut h r)
theorem Tr.next {k : ECall} {a : List EV} {n0 : Nat} {w0 w : World} {β β0 : EMp} {s0 : ESt} (hn0 : s0.next = n0) {m : Nat} {s u : ESt} (h : Tr k a n0 m s u) : ∀ n, m = n + 1 → HR w0 β s w → Ext β0 s0 β s →
    ∃ s1 s2, HR w0 β s1 w ∧ Ext β0 s0 β s1 ∧ k 19 a s1 = .v (.tup []) s2 ∧ Tr k a n0 n s2 u := by
  induction h with
  | nil s => intro n e; cases e
  | cut h r ih => exact fun n e hr he => ih n e (hr.sub h) (he.sub hn0 h)
  | step h r ih =>
    intro n e hr he
    injection e with e
    subst e
    exact ⟨_, _, hr, he, h, r⟩
theorem Tr.last {k : ECall} {a : List EV} {n0 : Nat} {w0 w : World} {β β0 : EMp} {s0 : ESt} (hn0 : s0.next = n0) {m : Nat} {s u : ESt} (h : Tr k a n0 m s u) : m = 0 → HR w0 β s w → Ext β0 s0 β s → HR w0 β u w ∧ Ext β0 s0 β u := by
  induction h with
  | nil s => exact fun _ hr he => ⟨hr, he⟩
  | cut h r ih => exact fun e hr he => ih e (hr.sub h) (he.sub hn0 h)
  | step h r ih => intro e; cases e
end Go.Proofs.YtjckpgcmfieaoaaGreatDoor
