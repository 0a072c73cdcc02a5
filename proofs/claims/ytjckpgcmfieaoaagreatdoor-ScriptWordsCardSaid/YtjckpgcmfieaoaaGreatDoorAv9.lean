/-
  The evaluator's places of elements, structs and rows built, conversions.
-/
import Derived.Test.YtjckpgcmfieaoaaGreatDoorAv8
import Derived.Laws.Tables
import Derived.Great.BuildSlice
import Derived.DataReads
namespace Go.Proofs.YtjckpgcmfieaoaaGreatDoor
open Go.RowKit

section
variable {P : Program} {β : EMp}
theorem eIdxA_run {t e : TypeId} {j : TypeInfo} {lim : Option Nat} {iv x z : EV} {u v : Value} (hj : eInfo P e = some j) (ht : (∃ n, eDesc P t = some (.array n e) ∧ lim = some n) ∨ (eDesc P t = some (.slice e) ∧ lim = none)) (h : eIdxA j.size lim iv x = some z) (hi : VR β iv u) (hx : VR β x v) (w : World) :
    ∃ c, (Instr.indexAt t v u).run P w = .ok c w ∧ VR β z c := by
  have hsz := (eInfo_run hj w).2
  cases hi with
  | int k i =>
    cases i with
    | negSucc i => cases h
    | ofNat i =>
      cases x with
      | ptr p =>
        cases p with
        | none => cases h
        | some p =>
          obtain ⟨b, o⟩ := p
          rcases ht with ⟨n, hd, rfl⟩ | ⟨hd, rfl⟩
          · have h2 : (match Nat.ble (Nat.succ i) n with | true => some (EV.ptr (some (b, o + i * j.size))) | false => none) = some z := h
            clear h
            cases hb : Nat.ble (Nat.succ i) n with
            | false => rw [hb] at h2; cases h2
            | true =>
              rw [hb] at h2
              obtain rfl := Option.some.inj h2
              have hb := Nat.le_of_ble_eq_true hb
              cases hx with
              | ptr hl =>
                refine ⟨_, ?_, .ptr hl⟩
                have h1 : i < n := hb
                simp [Instr.indexAt, asIntOf, run_underlying (eDesc_eq hd), Instr.sureAddr, hsz, h1, addr_add, Nat.add_assoc]
          · cases h
      | sl p n cap zz =>
        cases p with
        | none => cases h
        | some p =>
          obtain ⟨b, o⟩ := p
          rcases ht with ⟨m, hd, rfl⟩ | ⟨hd, rfl⟩
          · cases h
          · have h2 : (match Nat.ble (Nat.succ i) n with | true => some (EV.ptr (some (b, o + i * j.size))) | false => none) = some z := h
            clear h
            cases hb : Nat.ble (Nat.succ i) n with
            | false => rw [hb] at h2; cases h2
            | true =>
              rw [hb] at h2
              obtain rfl := Option.some.inj h2
              have hb := Nat.le_of_ble_eq_true hb
              cases hx with
              | sle _ => omega
              | sl hl _ _ =>
                refine ⟨_, ?_, .ptr hl⟩
                have h1 : i < n := hb
                simp [Instr.indexAt, asIntOf, run_underlying (eDesc_eq hd), hsz, h1, addr_add, Nat.add_assoc]
      | _ => cases h
  | _ => cases h
theorem eIdx_arr {t e : TypeId} {j : TypeInfo} {n : Nat} {iv x z : EV} {u v : Value} (hj : eInfo P e = some j) (hd : eDesc P t = some (.array n e)) (h : eIdx (eAgg P e) j.size (some n) iv x = some z) (hi : VR β iv u) (hx : VR β x v) (w : World) :
    ∃ c, (Instr.index t v u).run P w = .ok c w ∧ VR β z c := by
  have hsz := (eInfo_run hj w).2
  cases hi with
  | int k i =>
    cases i with
    | negSucc i => cases h
    | ofNat i =>
      cases hx with
      | agg hc =>
        rename_i cs a
        have h2 : (match Nat.ble (Nat.succ i) n with | true => ePart (eAgg P e) cs (i * j.size) | false => none) = some z := h
        clear h
        cases hb : Nat.ble (Nat.succ i) n with
        | false => rw [hb] at h2; cases h2
        | true =>
          rw [hb] at h2
          have hb := Nat.le_of_ble_eq_true hb
          obtain ⟨c, g1, g2⟩ := ePart_run h2 hc w
          refine ⟨c, ?_, g2⟩
          have h1 : i < n := hb
          simp [Instr.index, asIntOf, run_underlying (eDesc_eq hd), hsz, h1, g1]
      | _ => cases h
  | _ => cases h
theorem eIdx_str {t : TypeId} {iv x z : EV} {u v : Value} (hd : eDesc P t = some .string) (h : eIdx .no 0 none iv x = some z) (hi : VR β iv u) (hx : VR β x v) (w : World) :
    ∃ c, (Instr.index t v u).run P w = .ok c w ∧ VR β z c := by
  cases hi with
  | int k i =>
    cases i with
    | negSucc i => cases h
    | ofNat i =>
      cases hx with
      | str hs =>
        rename_i l s
        have h2 : (match eNth l i with | some b => some (EV.int .u8 (Int.ofNat b)) | none => none) = some z := h
        clear h
        rw [eNth_eq] at h2
        cases hb : l[i]? with
        | none => rw [hb] at h2; cases h2
        | some b =>
          rw [hb] at h2
          obtain rfl := Option.some.inj h2
          rw [← hs, List.getElem?_map] at hb
          cases hc : s.data.toList[i]? with
          | none => rw [hc] at hb; cases hb
          | some c =>
            rw [hc] at hb
            obtain rfl := Option.some.inj hb
            rw [Array.getElem?_toList] at hc
            have hlt := (Array.getElem?_eq_some_iff.1 hc).1
            have hlt' : i < s.size := hlt
            have hg : s[i] = c := by
              have := (Array.getElem?_eq_some_iff.1 hc).2
              exact this
            refine ⟨.int .u8 c.toNat, ?_, .int _ _⟩
            have h0 : (0 : Int) ≤ (i : Int) := by omega
            simp [Instr.index, asIntOf, run_underlying (eDesc_eq hd), h0, hlt', hg]
      | _ => cases h
  | _ => cases h

/-! Structs and rows built. -/
theorem ePlace_eq {fs : Array Field} (h : eFsOk P fs = true) : ∃ places : List (Nat × Nat), fs.toList.mapM (fun f => (P.info? f.type).map fun i => (f.offset, i.size)) = some places ∧ ∀ i p, ePlace P fs i = some p → places[i]? = some p := by
  unfold eFsOk at h
  rw [List.all_eq_true] at h
  have hm : ∀ f ∈ fs.toList, ∃ j, eInfo P f.type = some j ∧ P.info? f.type = some j := fun f hf => by
    obtain ⟨j, hj⟩ := Option.isSome_iff_exists.1 (h f hf)
    exact ⟨j, hj, eInfo_eq hj⟩
  obtain ⟨r, hr⟩ : ∃ r, fs.toList.mapM (fun f => (P.info? f.type).map fun i => (f.offset, i.size)) = some r := by
    have key : ∀ l : List Field, (∀ f ∈ l, ∃ j, eInfo P f.type = some j ∧ P.info? f.type = some j) → ∃ r, l.mapM (fun f => (P.info? f.type).map fun i => (f.offset, i.size)) = some r := by
      intro l
      induction l with
      | nil => intro _; exact ⟨[], rfl⟩
      | cons f l ih =>
        intro hl
        obtain ⟨j, -, hj⟩ := hl f (List.mem_cons_self ..)
        obtain ⟨r, hr⟩ := ih fun g hg => hl g (List.mem_cons_of_mem _ hg)
        exact ⟨_, by rw [List.mapM_cons, hj, hr]; rfl⟩
    exact key _ hm
  refine ⟨r, hr, fun i p hp => ?_⟩
  unfold ePlace at hp
  rw [eNth_eq] at hp
  cases hf : fs.toList[i]? with
  | none => rw [hf] at hp; cases hp
  | some f =>
    rw [hf] at hp
    simp only at hp
    obtain ⟨j, h1, h2⟩ := hm f (List.mem_of_getElem? hf)
    rw [h1] at hp
    rw [← mapM_some_get hr i f hf, h2]
    exact hp
theorem eEvps_get (ρ : Operand → Value) (tm : ERg) : ∀ (ps : List (Nat × Operand)), (eEvps ps tm).length = ps.length ∧ ∀ (i : Nat) p q, (eEvps ps tm)[i]? = some p → (ps.map fun (x : Nat × Operand) => (x.1, ρ x.2))[i]? = some q → ∃ y ∈ ps, p = (y.1, (eEvC y.2).f tm) ∧ q = (y.1, ρ y.2)
  | [] => ⟨rfl, fun i p q h => by cases h⟩
  | y :: ps => ⟨congrArg (· + 1) (eEvps_get ρ tm ps).1, fun i p q h k => by
    cases i with
    | zero =>
      obtain rfl := Option.some.inj h
      obtain rfl := Option.some.inj k
      exact ⟨y, List.mem_cons_self .., rfl, rfl⟩
    | succ i =>
      obtain ⟨z, hz, e⟩ := (eEvps_get ρ tm ps).2 i p q h k
      exact ⟨z, List.mem_cons_of_mem _ hz, e⟩⟩
/-- A struct, an array. -/
theorem eBuild_run {t : TypeId} {ps : Array (Nat × Operand)} {tm : ERg} {z : EV} {ρ : Operand → Value} (h : eBuild P t ps tm = some z) (hρ : ∀ p ∈ ps.toList, VR β ((eEvC p.2).f tm) (ρ p.2)) (w : World) :
    ∃ c, (Instr.build t (ps.map fun (x : Nat × Operand) => (x.1, ρ x.2))).run P w = .ok c w ∧ VR β z c := by
  unfold eBuild at h
  cases hz : eZero P t with
  | agg zs =>
    rw [hz] at h
    simp only at h
    unfold eZero at hz
    cases hi : eInfo P t with
    | none => rw [hi] at hz; cases hz
    | some it =>
      rw [hi] at hz
      simp only at hz
      cases hzz : it.zero with
      | none => rw [hzz] at hz; cases hz
      | some zv =>
        rw [hzz] at hz
        have hzv : VR β (.agg zs) zv := by rw [← hz]; exact eVal_VR β zv
        have hzc : VRs β zs zv.cells.toList := hzv.cells fun e => by cases e
        have fill : ∀ (place place' : Nat → Option (Nat × Nat)) (l : List EV), (∀ i p, place i = some p → place' i = some p) → eFill place (eEvps ps.toList tm) zs = some l → ∃ b, Instr.fill place' zv.cells (ps.map fun (x : Nat × Operand) => (x.1, ρ x.2)).toList = some b ∧ VRs β l b.toList := by
          intro place place' l hp hl
          obtain ⟨b, g1, g2, -⟩ := eFill_run hp (ps := eEvps ps.toList tm) (qs := (ps.map fun (x : Nat × Operand) => (x.1, ρ x.2)).toList) (by rw [(eEvps_get ρ tm _).1]; simp) (fun i p q e1 e2 => by
            rw [Array.toList_map] at e2
            obtain ⟨y, hy, rfl, rfl⟩ := (eEvps_get ρ tm _).2 i p q e1 e2
            exact ⟨rfl, hρ y hy⟩) hzc hl
          exact ⟨b, g1, g2⟩
        cases hd : eDesc P t with
        | none => rw [hd] at h; cases h
        | some d =>
          rw [hd] at h
          cases d with
          | struct fs =>
            simp only at h
            cases hok : eFsOk P fs with
            | false => rw [hok] at h; cases h
            | true =>
              rw [hok] at h
              simp only at h
              cases hl : eFill (ePlace P fs) (eEvps ps.toList tm) zs with
              | none => rw [hl] at h; cases h
              | some l =>
                rw [hl] at h
                obtain rfl := Option.some.inj h
                obtain ⟨places, k1, k2⟩ := ePlace_eq hok
                obtain ⟨b, g1, g2⟩ := fill _ (places.toArray[·]?) l (fun i p hp => by simpa using k2 i p hp) hl
                refine ⟨.agg b, run_build w t _ b ?_, .agg g2⟩
                unfold Program.built
                rw [eInfo_eq hi, eDesc_eq hd]
                simp only [hzz, k1]
                exact g1
          | array n e =>
            simp only at h
            cases he : eInfo P e with
            | none => rw [he] at h; cases h
            | some ie =>
              rw [he] at h
              simp only at h
              cases hl : eFill (fun j => some (j * ie.size, ie.size)) (eEvps ps.toList tm) zs with
              | none => rw [hl] at h; cases h
              | some l =>
                rw [hl] at h
                obtain rfl := Option.some.inj h
                obtain ⟨b, g1, g2⟩ := fill _ (fun j => some (j * ie.size, ie.size)) l (fun i p hp => hp) hl
                refine ⟨.agg b, run_build w t _ b ?_, .agg g2⟩
                unfold Program.built
                rw [eInfo_eq hi, eDesc_eq hd]
                simp only [hzz, eInfo_eq he]
                exact g1
          | _ => cases h
  | _ => rw [hz] at h; cases h
theorem eRepl_VRs {z : List EV} {a : Array Value} (h : VRs β z a.toList) : ∀ (n : Nat), VRs β (eRepl z n) ((Array.range (n * a.size)).map fun j => a[j % a.size]!).toList
  | 0 => by
    have e : eRepl z 0 = [] := rfl
    rw [e]
    simpa using VRs.nil
  | n + 1 => by
    have ih := eRepl_VRs h n
    have e : (List.range ((n + 1) * a.size)).map (fun j => a[j % a.size]!) = a.toList ++ (List.range (n * a.size)).map (fun j => a[j % a.size]!) := by
      rw [Nat.succ_mul, Nat.add_comm, List.range_add, List.map_append, List.map_map]
      congr 1
      · apply List.ext_getElem?
        intro i
        by_cases hi : i < a.size
        · simp [hi, Nat.mod_eq_of_lt hi]
        · simp [hi]
      · apply List.map_congr_left
        intro j _
        simp
    have ih' : VRs β (eRepl z n) ((List.range (n * a.size)).map fun j => a[j % a.size]!) := by simpa using ih
    have := h.app ih'
    rw [← e] at this
    have e2 : eRepl z (n + 1) = z ++ eRepl z n := rfl
    rw [e2]
    simpa using this
end
end Go.Proofs.YtjckpgcmfieaoaaGreatDoor
