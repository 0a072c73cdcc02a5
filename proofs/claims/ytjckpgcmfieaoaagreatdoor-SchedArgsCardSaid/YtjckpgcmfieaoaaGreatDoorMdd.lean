/-
  Functions whose contract is known: bytes in texts that are not known.
-/
import Derived.Test.YtjckpgcmfieaoaaGreatDoorMbh
import Derived.Test.YtjckpgcmfieaoaaGreatDoorMbi
import Derived.Test.YtjckpgcmfieaoaaGreatDoorMci
import Derived.Test.YtjckpgcmfieaoaaGreatDoorAxF
import Derived.Test.YtjckpgcmfieaoaaGreatDoorMaa
import Derived.LaidLaws
import Derived.Lib.LaidTab
import Derived.Test.YtjckpgcmfieaoaaGreatDoorRows
import Derived.Shelf.Abstract
set_option linter.unusedVariables false
set_option linter.unusedSimpArgs false
namespace Go.Proofs.YtjckpgcmfieaoaaGreatDoor
open Go.RowKit

noncomputable section
def sCnt (c : Nat) (l : SX) : Nat → Option Nat :=
  SX.rec (motive := fun _ => Nat → Option Nat) (fun _ _ _ _ => none) (fun _ _ _ _ _ => none) (fun _ _ _ _ => none) (fun _ _ => none) (fun _ _ _ _ _ _ => none) (fun n => some n)
    (fun b _ _ ih n => match sSame b (.cst (.ofNat c)) with
      | some true => ih (Nat.succ n)
      | some false => ih n
      | none => none) l
def sFnd (c : Nat) (l : SX) : Nat → Option Int :=
  SX.rec (motive := fun _ => Nat → Option Int) (fun _ _ _ _ => none) (fun _ _ _ _ _ => none) (fun _ _ _ _ => none) (fun _ _ => none) (fun _ _ _ _ _ _ => none) (fun _ => some (-1))
    (fun b _ _ ih i => match sSame b (.cst (.ofNat c)) with
      | some true => some (.ofNat i)
      | some false => ih (Nat.succ i)
      | none => none) l
def iCountX (k : ECall) (a : List EV) (s : ESt) : EO := match a with
  | [.sstr l, .int .u8 (.ofNat c)] => match Nat.blt c 256 with
    | true => match sCnt c l 0 with
      | some n => .v (.int .i64 (Int.ofNat n)) s
      | none => .er
    | false => .er
  | a => iCountStr k a s
def iIndexX (k : ECall) (a : List EV) (s : ESt) : EO := match a with
  | [.sstr l, .int .u8 (.ofNat c)] => match Nat.blt c 256 with
    | true => match sFnd c l 0 with
      | some n => .v (.int .i64 n) s
      | none => .er
    | false => .er
  | a => iIndexStr k a s
end
theorem sCnt_cons (c : Nat) (b l : SX) (n : Nat) : sCnt c (.cons b l) n = match sSame b (.cst (.ofNat c)) with
      | some true => sCnt c l (n + 1)
      | some false => sCnt c l n
      | none => none := rfl
theorem sFnd_cons (c : Nat) (b l : SX) (n : Nat) : sFnd c (.cons b l) n = match sSame b (.cst (.ofNat c)) with
      | some true => some (.ofNat n)
      | some false => sFnd c l (n + 1)
      | none => none := rfl
section
variable {σ : Nat → Option Nat}
theorem same_byte {b : SX} {x : Int} {c : Nat} {r : Bool} (h0 : 0 ≤ x) (hr : sSame b (.cst (.ofNat c)) = some r) (hb : SN σ b x) : Nat.beq x.toNat c = r := by
  have h := sSame_ok hr hb (.cst _)
  rw [Bool.eq_iff_iff, h]
  constructor
  · intro e
    have := Nat.eq_of_beq_eq_true e
    show x = (c : Int)
    omega
  · intro e
    have e : x = (c : Int) := e
    rw [e, Int.toNat_natCast, Nat.beq_refl]
theorem sCnt_ok {c : Nat} : ∀ {l : SX} {bs : List Nat} {n m : Nat}, sCnt c l n = some m → SB σ l bs → iCount c bs n = m
  | .cons b l, bs, n, m, h, hb => by
    obtain ⟨x, cs, h0, h1, h3, h2, rfl⟩ := hb.cons_inv
    rw [sCnt_cons] at h
    rw [iCount_cons]
    split at h
    · rename_i hs
      rw [same_byte h0 hs h3]
      exact sCnt_ok h h2
    · rename_i hs
      rw [same_byte h0 hs h3]
      exact sCnt_ok h h2
    · cases h
  | .nil, bs, n, m, h, hb => by
    rw [hb.flat (fun _ _ e => by cases e)]
    exact Option.some.inj (show some n = some m from h)
  | .var .., _, _, _, h, _ => by cases h
  | .dm .., _, _, _, h, _ => by cases h
  | .sha .., _, _, _, h, _ => by cases h
  | .cst .., _, _, _, h, _ => by cases h
  | .term .., _, _, _, h, _ => by cases h
theorem sFnd_ok {c : Nat} : ∀ {l : SX} {bs : List Nat} {n : Nat} {m : Int}, sFnd c l n = some m → SB σ l bs → iFind c bs n = m
  | .cons b l, bs, n, m, h, hb => by
    obtain ⟨x, cs, h0, h1, h3, h2, rfl⟩ := hb.cons_inv
    rw [sFnd_cons] at h
    rw [iFind_cons]
    split at h
    · rename_i hs
      rw [same_byte h0 hs h3]
      exact Option.some.inj h
    · rename_i hs
      rw [same_byte h0 hs h3]
      exact sFnd_ok h h2
    · cases h
  | .nil, bs, n, m, h, hb => by
    rw [hb.flat (fun _ _ e => by cases e)]
    exact Option.some.inj (show some (-1) = some m from h)
  | .var .., _, _, _, h, _ => by cases h
  | .dm .., _, _, _, h, _ => by cases h
  | .sha .., _, _, _, h, _ => by cases h
  | .cst .., _, _, _, h, _ => by cases h
  | .term .., _, _, _, h, _ => by cases h
end
theorem two_argsX {β : EMp} {l : SX} {c : Nat} {av : Array Value} (h : VRs β [.sstr l, .int .u8 (.ofNat c)] av.toList) : ∃ b : ByteArray, SB (symOf β) l (b.data.toList.map (·.toNat)) ∧ av = #[.string b, .int .u8 (Int.ofNat c)] := by
  obtain ⟨av⟩ := av
  cases h with
  | cons h1 h2 =>
    cases h2 with
    | cons h2 h3 =>
      cases h3
      cases h1
      cases h2
      exact ⟨_, ‹_›, rfl⟩
theorem iCountX_ok {P : Program} {f : FuncId} {fn : Func} (h : P.funcs[f]? = some fn) (hn : (fn.name == "runtime.NumGoroutine") = false) (hb : fn.body.isNone = true) (h1 : (Extern.findNext fn).isNone = true) (h2 : Extern.find fn = some Extern.BytealgCount.count) {k : ECall} {args : List EV} {s s' : ESt} {x : EV} (ha : iCountX k args s = .v x s') : KOk P f args s x s' := by
  unfold iCountX at ha
  split at ha
  · rename_i l c
    intro w0 β w av hg hr hv
    split at ha <;> first | (cases ha; done) | skip
    rename_i hc
    split at ha <;> first | (cases ha; done) | skip
    rename_i n hs
    injection ha with e1 e2
    subst e1 e2
    obtain ⟨b, hbb, rfl⟩ := two_argsX hv
    have hc := Nat.le_of_ble_eq_true hc
    refine .inl ⟨_, w, ext_run h hn hb h1 h2 (Lib.run_countString b c w), β, ?_, hr, Ext.refl _ _⟩
    have := sCnt_ok hs hbb
    rw [iCount_eq hc, Nat.zero_add] at this
    rw [← this]
    exact .int _ _
  · exact iCountStr_ok h hn hb h1 h2 ha
theorem iIndexX_ok {P : Program} {f : FuncId} {fn : Func} (h : P.funcs[f]? = some fn) (hn : (fn.name == "runtime.NumGoroutine") = false) (hb : fn.body.isNone = true) (h1 : (Extern.findNext fn).isNone = true) (h2 : Extern.find fn = some Extern.BytealgIndexByte.indexByte) {k : ECall} {args : List EV} {s s' : ESt} {x : EV} (ha : iIndexX k args s = .v x s') : KOk P f args s x s' := by
  unfold iIndexX at ha
  split at ha
  · rename_i l c
    intro w0 β w av hg hr hv
    split at ha <;> first | (cases ha; done) | skip
    rename_i hc
    split at ha <;> first | (cases ha; done) | skip
    rename_i n hs
    injection ha with e1 e2
    subst e1 e2
    obtain ⟨b, hbb, rfl⟩ := two_argsX hv
    have hc := Nat.le_of_ble_eq_true hc
    refine .inl ⟨_, w, ext_run h hn hb h1 h2 (Lib.run_indexByteString b c w), β, ?_, hr, Ext.refl _ _⟩
    have := sFnd_ok hs hbb
    rw [iFind_eq hc] at this
    have e : (if Lib.indexByte b.data.toList c.toUInt8 = -1 then -1 else Lib.indexByte b.data.toList c.toUInt8 + ((0 : Nat) : Int)) = Lib.indexByte b.data.toList c.toUInt8 := by
      split
      · rename_i e; rw [e]
      · simp
    rw [e] at this
    rw [← this]
    exact .int _ _
  · exact iIndexStr_ok h hn hb h1 h2 ha

/-- A table: its variable, its kind, its numbers. -/
abbrev ETab := Nat × IntKind × List Nat
noncomputable def eTabV (k : IntKind) (l : List Nat) : List EV := List.rec (motive := fun _ => List EV) [] (fun n _ ih => .int k (Int.ofNat n) :: ih) l
noncomputable def eTabH (ts : List ETab) : ETr EBlk := List.rec (motive := fun _ => ETr EBlk) .e (fun t _ ih => ih.set t.1 (.tab t.2.2.length (eRow (eTabV t.2.1 t.2.2) 0 .e))) ts
/-- The tables lie in their variables. -/
def TabsAt (W : World) (ts : List ETab) : Prop := ∀ t ∈ ts, t.1 < 1024 ∧ 0 < t.2.2.length ∧ ∀ i, i < t.2.2.length → W.cell? ⟨t.1, i, none⟩ = some (.int t.2.1 (t.2.2.getD i 0 : Nat))
theorem TabsAt.new {W W' : World} {ts : List ETab} (h : TabsAt W ts) (n : New W W') : TabsAt W' ts := fun t ht => ⟨(h t ht).1, (h t ht).2.1, fun i hi => n.cell ((h t ht).2.2 i hi) (fun h => h)⟩
noncomputable def blkSize (W : World) (g : Nat) : Nat := match W.heap[g]? with
  | some (.cells a _ _) => a.size
  | _ => 0
/-- The package's variables, and what the symbols stand for. -/
noncomputable def bet1 (W : World) (ρ : Nat → Option Nat) : EMp := fun g => if g < 1024 then some ⟨g, 0, blkSize W g⟩ else if g < 2048 then (match ρ (g - 1024) with | some v => some ⟨v, 0, 0⟩ | none => none) else none
theorem bet1_GB (W : World) (ρ : Nat → Option Nat) : GB (bet1 W ρ) := fun g hg => ⟨blkSize W g, if_pos hg⟩
theorem bet1_sym (W : World) (ρ : Nat → Option Nat) {n : Nat} (hn : n < 1024) : symOf (bet1 W ρ) n = ρ n := by
  unfold symOf bet1
  rw [if_neg (by omega), if_pos (by omega), Nat.add_sub_cancel_left]
  cases ρ n <;> rfl
theorem eTabV_len (k : IntKind) : ∀ l, (eTabV k l).length = l.length
  | [] => rfl
  | _ :: l => congrArg (· + 1) (eTabV_len k l)
theorem eTabV_get (k : IntKind) : ∀ (l : List Nat) (i : Nat), i < l.length → (eTabV k l)[i]? = some (.int k (l.getD i 0 : Nat))
  | x :: l, 0, _ => rfl
  | x :: l, i + 1, h => eTabV_get k l i (by simpa using h)
  | [], _, h => absurd h (Nat.not_lt_zero _)
theorem eTabH_get : ∀ (ts : List ETab) (b : Nat) (k : EBlk), (eTabH ts).get b = some k → ∃ t ∈ ts, t.1 = b ∧ k = .tab t.2.2.length (eRow (eTabV t.2.1 t.2.2) 0 .e)
  | [], b, k, h => by rw [show eTabH [] = .e from rfl, ETr.get_e] at h; cases h
  | t :: ts, b, k, h => by
    have e : eTabH (t :: ts) = (eTabH ts).set t.1 (.tab t.2.2.length (eRow (eTabV t.2.1 t.2.2) 0 .e)) := rfl
    rw [e] at h
    by_cases hb : t.1 = b
    · rw [hb, ETr.get_set] at h
      exact ⟨t, List.mem_cons_self .., hb, (Option.some.inj h).symm⟩
    · rw [ETr.get_set_ne _ _ hb] at h
      obtain ⟨u, hu, h1, h2⟩ := eTabH_get ts b k h
      exact ⟨u, List.mem_cons_of_mem _ hu, h1, h2⟩
theorem HR.start1 (W : World) (ρ : Nat → Option Nat) {ts : List ETab} (ht : TabsAt W ts) : HR W (bet1 W ρ) (.mk (eTabH ts) 2048) W := by
  refine ⟨Upd.refl _ _, fun b l h => ?_, fun b l k hb h => ?_, fun b b' l l' k k' _ _ h _ hk => ?_⟩
  · unfold bet1 at h
    by_cases h1 : b < 1024
    · exact Nat.lt_trans h1 (by decide : 1024 < 2048)
    · rw [if_neg h1] at h
      by_cases h2 : b < 2048
      · exact h2
      · rw [if_neg h2] at h; cases h
  · obtain ⟨t, hm, rfl, rfl⟩ := eTabH_get ts b k h
    obtain ⟨h1, h2, h3⟩ := ht t hm
    have hl : l = ⟨t.1, 0, blkSize W t.1⟩ := by
      unfold bet1 at hb
      rw [if_pos h1] at hb
      exact (Option.some.inj hb).symm
    subst hl
    have hc : ∃ a T fz, W.heap[t.1]? = some (.cells a T fz) ∧ ∀ i, i < t.2.2.length → a[i]? = some (.int t.2.1 (t.2.2.getD i 0 : Nat)) := by
      cases hh : W.heap[t.1]? with
      | none =>
        have := h3 0 h2
        unfold World.cell? at this
        simp [hh] at this
      | some o =>
        cases o with
        | cells a T fz =>
          refine ⟨a, T, fz, rfl, fun i hi => ?_⟩
          have := h3 i hi
          rwa [blk_cell hh] at this
        | _ =>
          have := h3 0 h2
          unfold World.cell? at this
          simp [hh] at this
    obtain ⟨a, T, fz, g1, g2⟩ := hc
    have hs : blkSize W t.1 = a.size := by unfold blkSize; rw [g1]
    refine ⟨World.block_lt_of_cell? W _ (h3 0 h2), a, T, fz, g1, hs.symm, ?_, fun i hi => ?_⟩
    · have := g2 (t.2.2.length - 1) (by omega)
      have := (Array.getElem?_eq_some_iff.1 this).1
      show 0 + t.2.2.length ≤ blkSize W t.1
      rw [hs]
      omega
    · refine ⟨.int t.2.1 (t.2.2.getD i 0 : Nat), _, ?_, ?_, .int _ _⟩
      · rw [eRow_get, if_pos (by rw [eTabV_len]; omega), Nat.sub_zero]
        exact eTabV_get _ _ i hi
      · have := g2 i hi
        simpa using this
  · obtain ⟨t, -, -, rfl⟩ := eTabH_get ts b k h
    exact hk.elim
/-- What tells true, of arguments that stand for what is there. -/
theorem told_true1 {P : Program} (hm : P.follows .mixedOrders = true) {I : FuncId → Option (ECall → List EV → ESt → EO)} (hI : IOk P I) {d : Nat} {f : FuncId} {ts : List ETab} {args : List EV} (h : tellsTrue (eCall P I d f args (.mk (eTabH ts) 2048)) = true) (W : World) (ht : TabsAt W ts) (ρ : Nat → Option Nat) {av : Array Value}
    (hv : VRs (bet1 W ρ) args av.toList) (he : (callFunc f av).run P W = .ok (.enter f av) W) : Calls P f av W fun e w' => e = .returned (.bool true) ∧ Upd (fun _ => False) W w' := by
  unfold tellsTrue at h
  split at h <;> first | (cases h; done) | skip
  rename_i b s' hc
  subst h
  rcases call_ok hm hI d f args (.mk (eTabH ts) 2048) (.bool true) s' hc W (bet1 W ρ) W av (bet1_GB W ρ) (HR.start1 W ρ ht) hv with ⟨v, w', e, hr⟩ | ⟨e, hcl⟩
  · rw [he] at e; cases e
  · refine hcl.mono fun e w' hv => ?_
    obtain ⟨v, rfl, β', h1, h2, -⟩ := hv
    rw [vr_bool h1]
    exact ⟨rfl, h2.up⟩

noncomputable def intW (f : FuncId) : Option (ECall → List EV → ESt → EO) := match f with
  | 241 => some iCountX
  | 336 => some iIndexX
  | 162 => some iJoin
  | 74 => some iSum
  | 358 => some iChain
  | 226 => some iTry
  | 219 => some iCopy
  | _ => none
theorem intW_ok : IOk Tryz.prog intW := fun f g hi k hk args s x s' ha => by
  unfold intW at hi
  split at hi
  · obtain rfl := Option.some.inj hi
    exact iCountX_ok (fn := Tryz.f241) Tryz.func241 (by decide +kernel) rfl rfl rfl ha
  · obtain rfl := Option.some.inj hi
    exact iIndexX_ok (fn := Tryz.f336) Tryz.func336 (by decide +kernel) rfl rfl rfl ha
  · obtain rfl := Option.some.inj hi
    exact iJoin_ok ha
  · obtain rfl := Option.some.inj hi
    exact iSum_ok ha
  · obtain rfl := Option.some.inj hi
    exact iChain_ok ha
  · obtain rfl := Option.some.inj hi
    exact iTry_ok hk ha
  · obtain rfl := Option.some.inj hi
    exact iCopy_ok ha
  · cases hi
end Go.Proofs.YtjckpgcmfieaoaaGreatDoor
namespace Go.Proofs.YtjckpgcmfieaoaaGreatDoor
open Go.RowKit Go.ChangeShapes Go.WideShapes Go.ChangeAt Go.Deep

mutual
/-- The cells that a datum without pointers is read from. -/
def vals {H : Type} : DataW H → List Value
  | .lit (.bool b) => [.bool b]
  | .lit (.int k n) => [.int k n]
  | .lit (.string b) => [.string ⟨b.toArray⟩]
  | .agg ps => valsAll ps
  | _ => []
def valsAll {H : Type} : List (DataW H) → List Value
  | [] => []
  | d :: r => vals d ++ valsAll r
end
theorem valsAll_map {H α : Type} (f : α → DataW H) : ∀ l : List α, valsAll (l.map f) = (l.map fun x => vals (f x)).flatten
  | [] => rfl
  | x :: l => by rw [List.map_cons, List.map_cons, List.flatten_cons, ← valsAll_map f l]; rfl

section
variable {H : Type} {enc : TypeId × Value → H} {P : Program} {w : World} {base : Nat} {spare : Nat → Bool} {held : Bool}

theorem fields_vals {rec : TypeId → Option (List Leaf)} {cs : List Value} (hrec : ∀ t l c x fuel, rec t = some l → DataW.trod enc P w base spare held fuel t c = some x → c = vals x.1) :
    ∀ (fs : List Field) (o : Nat) (L : List Leaf) (xs : List (DataW H × List MemPlace)), flatFields P rec o fs = some L → cs.length = o + L.length → xs.length = fs.length →
      (∀ (i : Nat) f, fs[i]? = some f → ∃ fuel, DataW.trod enc P w base spare held fuel f.type ((cs.drop f.offset).take (P.cellsOf f.type)) = xs[i]?) → cs.drop o = valsAll (xs.map (·.1))
  | [], o, L, xs, h, hl, hx, _ => by
    simp only [flatFields, Option.some.injEq] at h
    subst h
    rw [List.length_eq_zero_iff.1 hx]
    exact List.drop_eq_nil_of_le (by simp at hl; omega)
  | f :: r, o, L, [], h, hl, hx, _ => by simp at hx
  | f :: r, o, L, x :: xs, h, hl, hx, hf => by
    unfold flatFields at h
    cases hr : rec f.type with
    | none => rw [hr] at h; cases h
    | some l =>
      rw [hr] at h
      simp only at h
      split at h
      · rename_i hc
        obtain ⟨ho, hk⟩ := hc
        rw [Option.map_eq_some_iff] at h
        obtain ⟨M, hM, rfl⟩ := h
        obtain ⟨fuel, hx0⟩ := hf 0 f rfl
        have h1 := hrec _ _ _ _ _ hr (hx0.trans rfl)
        rw [ho, hk] at h1
        rw [List.length_append] at hl
        have h2 := fields_vals hrec r (o + l.length) M xs hM (by omega) (by simpa using hx) (fun i g hg => hf (i + 1) g hg)
        have e : cs.drop o = (cs.drop o).take l.length ++ cs.drop (o + l.length) := by
          rw [← List.drop_drop, List.take_append_drop]
        rw [e, h1, h2]
        rfl
      · cases h

theorem flat_vals : ∀ (n : Nat) (t : TypeId) (l : List Leaf) (cs : List Value) (x : DataW H × List MemPlace) (fuel : Nat), flatF P n t = some l → DataW.trod enc P w base spare held fuel t cs = some x → cs = vals x.1
  | 0, _, _, _, _, _, h, _ => by simp [flatF] at h
  | n + 1, t, l, cs, x, fuel, h, hx => by
    unfold flatF at h
    split at h
    · rename_i hu
      obtain ⟨b, rfl, rfl⟩ := DataW.trod_bool hu hx
      rfl
    · rename_i k hu
      obtain ⟨z, rfl, rfl, hz⟩ := DataW.trod_int hu hx
      rfl
    · rename_i hu
      obtain ⟨s, rfl, rfl, hz⟩ := DataW.trod_string hu hx
      rfl
    · rename_i fs hu
      split at h
      · rename_i L hL
        split at h
        · rename_i hc
          simp only [Option.some.injEq] at h
          subst h
          obtain ⟨xs, m, _, rfl, hlen, hxl, hf⟩ := DataW.trod_struct hu hx
          have := fields_vals (rec := flatF P n) (cs := cs) (fun t l c x fuel h1 h2 => flat_vals n t l c x fuel h1 h2) fs.toList 0 L xs hL (by omega) (by simpa using hxl) fun i f hf' => ⟨m, hf i f (by simpa using hf')⟩
          exact this
        · cases h
      · cases h
    · rename_i m e hu
      split at h
      · rename_i L hL
        split at h
        · rename_i hc
          simp only [Option.some.injEq] at h
          subst h
          obtain ⟨xs, k, _, rfl, hlen, hxl, hf⟩ := DataW.trod_array hu hx
          show cs = valsAll (xs.map (·.1))
          rw [valsAll_map]
          refine (chunks L.length m cs (by omega)).trans ?_
          congr 1
          apply List.ext_getElem?
          intro i
          by_cases hi : i < m
          · have h1 := hf i hi
            rw [hc.1] at h1
            have hxi : xs[i]? = some (xs[i]'(by omega)) := List.getElem?_eq_getElem (by omega)
            rw [List.getElem?_map, List.getElem?_map, List.getElem?_range hi, hxi]
            exact congrArg some (flat_vals n e _ _ _ k hL (h1.trans hxi))
          · rw [List.getElem?_eq_none (by simp; omega), List.getElem?_eq_none (by simp; omega)]
        · cases h
      · cases h
    · cases h
end

theorem laid_vals {P : Program} {w : World} : ∀ {laid : List (String × DataW Unit)} {ps : List MemPlace}, DataW.LaidVars P w laid ps → ∀ {n : String} {d : DataW Unit} {g : Nat} {t : TypeId} (k : Nat) {l : List Leaf}, (n, d) ∈ laid →
    P.globalNamed n = some g → (P.globals[g]?).map (·.type) = some t → flatF P k t = some l → w.var? P n = some (vals d).toArray
  | [], _, _, _, _, _, _, _, _, hm, _, _, _ => by simp at hm
  | (n', d') :: rest, _, h, n, d, g, t, k, l, hm, hg, ht, hf => by
    obtain ⟨g', t', cs, fuel, p, q, hg', ht', hvar, hd, hrest, _⟩ := h
    rcases List.mem_cons.1 hm with e | hm
    · cases e
      obtain rfl := Option.some.inj (hg.symm.trans hg')
      obtain rfl := Option.some.inj (ht.symm.trans ht')
      rw [hvar, ← flat_vals k t l _ _ _ hf hd]
    · exact laid_vals hrest k hm hg ht hf
theorem laid_cell {P : Program} {w : World} {laid : List (String × DataW Unit)} (h : laidMet P laid w) {n : String} {d : DataW Unit} {g : Nat} {t : TypeId} (k : Nat) {l : List Leaf} (hm : (n, d) ∈ laid)
    (hg : P.globalNamed n = some g) (ht : (P.globals[g]?).map (·.type) = some t) (hf : flatF P k t = some l) (i : Nat) : w.cell? ⟨g, i, none⟩ = (vals d)[i]? := by
  obtain ⟨ps, hl, _⟩ := h
  have := World.var?_cell hg (laid_vals hl k hm hg ht hf) i
  simpa using this

end Go.Proofs.YtjckpgcmfieaoaaGreatDoor
namespace Go.Proofs.YtjckpgcmfieaoaaGreatDoor
open Go.RowKit Go.ChangeShapes Go.WideShapes Go.ChangeAt

theorem tab_at {W : World} {laid : List (String × DataW Unit)} (h : laidMet Tryz.prog laid W) {n : String} {d : DataW Unit} {g : Nat} {t : TypeId} {k : IntKind} {l : List Nat} (hm : (n, d) ∈ laid) (hg : Tryz.prog.globalNamed n = some g) (ht : (Tryz.prog.globals[g]?).map (·.type) = some t)
    (hf : flatF Tryz.prog 5 t = some (List.replicate l.length (.int k))) (hv : vals d = l.map fun (x : Nat) => Value.int k (x : Int)) (i : Nat) (hi : i < l.length) : W.cell? ⟨g, i, none⟩ = some (.int k (l.getD i 0 : Nat)) := by
  rw [laid_cell h 5 hm hg ht hf, hv, List.getElem?_map, List.getD_eq_getElem?_getD, List.getElem?_eq_getElem hi]
  rfl

def evTab5 : List ETab := [
  (2, .i64, [3, 4, 1, 2, 0, 1, 2, 3, 4, 0, 1, 2, 3, 4, 0, 3, 4, 1, 2, 0]),
  (4, .i64, [1, 7, 3, 5]),
  (9, .u8, [0, 1, 56, 2, 57, 49, 28, 3, 61, 58, 42, 50, 38, 29, 17, 4, 62, 47, 59, 36, 45, 43, 51, 22, 53, 39, 33, 30, 24, 18, 12, 5, 63, 55, 48, 27, 60, 41, 37, 16, 46, 35, 44, 21, 52, 32, 23, 11, 54, 26, 40, 15, 34, 20, 31, 10, 25, 14, 19, 9, 13, 8, 7, 6]),
  (1, .u32, [1116352408, 1899447441, 3049323471, 3921009573, 961987163, 1508970993, 2453635748, 2870763221, 3624381080, 310598401, 607225278, 1426881987, 1925078388, 2162078206, 2614888103, 3248222580, 3835390401, 4022224774, 264347078, 604807628, 770255983, 1249150122, 1555081692, 1996064986, 2554220882, 2821834349, 2952996808, 3210313671, 3336571891, 3584528711, 113926993, 338241895, 666307205, 773529912, 1294757372, 1396182291, 1695183700, 1986661051, 2177026350, 2456956037, 2730485921, 2820302411, 3259730800, 3345764771, 3516065817, 3600352804, 4094571909, 275423344, 430227734, 506948616, 659060556, 883997877, 958139571, 1322822218, 1537002063, 1747873779, 1955562222, 2024104815, 2227730452, 2361852424, 2428436474, 2756734187, 3204031479, 3329325298]),
  (0, .u32, [1779033703, 3144134277, 1013904242, 2773480762, 1359893119, 2600822924, 528734635, 1541459225])]
set_option maxRecDepth 100000 in
theorem evTab5_of {W : World} {laid : List (String × DataW Unit)} (h : laidMet Tryz.prog laid W)
    (m1 : ("remitter/htlc.events", Rows.laid_remitter_htlc_events) ∈ laid)
    (m2 : ("remitter/htlc.spans", Rows.laid_remitter_htlc_spans) ∈ laid)
    (m3 : ("math/bits.deBruijn64tab", Rows.laid_math_bits_deBruijn64tab) ∈ laid)
    (m5 : ("remitter/digest.table", Rows.laid_remitter_digest_table) ∈ laid)
    (m6 : ("remitter/digest.begin", Rows.laid_remitter_digest_begin) ∈ laid) : TabsAt W evTab5 := by
  intro t ht
  simp only [evTab5, List.mem_cons, List.not_mem_nil, or_false] at ht
  rcases ht with rfl | rfl | rfl | rfl | rfl
  · exact ⟨by decide, by decide, tab_at h m1 (by kernel_rfl) (t := 367) (by kernel_rfl) (by kernel_rfl) (by rfl)⟩
  · exact ⟨by decide, by decide, tab_at h m2 (by kernel_rfl) (t := 414) (by kernel_rfl) (by kernel_rfl) (by rfl)⟩
  · exact ⟨by decide, by decide, tab_at h m3 (by kernel_rfl) (t := 368) (by kernel_rfl) (by kernel_rfl) (by rfl)⟩
  · exact ⟨by decide, by decide, tab_at h m5 (by kernel_rfl) (t := 344) (by kernel_rfl) (by kernel_rfl) (by rfl)⟩
  · exact ⟨by decide, by decide, tab_at h m6 (by kernel_rfl) (t := 241) (by kernel_rfl) (by kernel_rfl) (by rfl)⟩
end Go.Proofs.YtjckpgcmfieaoaaGreatDoor
namespace Go.Proofs.YtjckpgcmfieaoaaGreatDoor
open Go.RowKit

end Go.Proofs.YtjckpgcmfieaoaaGreatDoor
namespace Go.Proofs.YtjckpgcmfieaoaaGreatDoor
noncomputable section
def yA (a b : List EV) : List EV := List.rec (motive := fun _ => List EV) b (fun x _ ih => x :: ih) a
def yB (n v : Nat) : List EV := Nat.rec (motive := fun _ => Nat → List EV) (fun _ => []) (fun _ ih v => .int .u8 (Int.ofNat (Nat.mod v 256)) :: ih (Nat.div v 256)) n v
def yR (n : Nat) (x : EV) : List EV := Nat.rec (motive := fun _ => List EV) [] (fun _ ih => x :: ih) n
def yRow (n : Nat) (l : List EV) : EBlk := .row n (eRow l 0 .e)
def vP (b o : Nat) : EV := .ptr (some (b, o))
def vS (b o l c z : Nat) : EV := .sl (some (b, o)) l c z
def vN : EV := .ptr none
def yH (l : List (Nat × EBlk)) (h : ETr EBlk) : ETr EBlk := List.rec (motive := fun _ => ETr EBlk) h (fun p _ ih => ih.set p.1 p.2) l
end
end Go.Proofs.YtjckpgcmfieaoaaGreatDoor
