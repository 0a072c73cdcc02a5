/-
  The evaluator's slices, places, parts.
-/
import Derived.Test.YtjckpgcmfieaoaaGreatDoorAv7
namespace Go.Proofs.YtjckpgcmfieaoaaGreatDoor
open Go.RowKit

section
variable {P : Program} {β : EMp}
/-- A value that may be there, or not. -/
inductive OVR (β : EMp) : Option EV → Option Value → Prop
  | none : OVR β none none
  | some {x : EV} {v : Value} (h : VR β x v) : OVR β (some x) (some v)
theorem eBound_run {v : EV} {u : Value} {d hi n : Nat} (h : eBound (some v) d hi = some n) (hv : VR β v u) {y : Nat} (hy : hi ≤ y) (code : BoundsCode) (w : World) : (Instr.sliceBound u y code).run P w = .ok n w ∧ n ≤ hi := by
  cases hv with
  | int k m =>
    cases m with
    | negSucc m => cases h
    | ofNat m =>
      have h2 : (match Nat.ble m hi with | true => some m | false => none) = some n := h
      clear h
      cases hb : Nat.ble m hi with
      | false => rw [hb] at h2; cases h2
      | true =>
        rw [hb] at h2
        obtain rfl := Option.some.inj h2
        have hb := Nat.le_of_ble_eq_true hb
        refine ⟨?_, hb⟩
        have : (0 : Int) ≤ (m : Int) ∧ (m : Int) ≤ y := ⟨by omega, by omega⟩
        simp [Instr.sliceBound, asIntOf, this]
  | _ => cases h
theorem eSlCut_run {sz l h m m' z : Nat} {a : Option (Nat × Nat)} {a' : Option Addr} {len len' cap cap' z0 : Nat} {r : EV} (hr : eSlCut sz a l h m z = some r) (hv : VR β (.sl a len cap z0) (.slice a' len' cap')) (hl : l ≤ h)
    (hz : (z = 0 ∧ m' = m) ∨ (z = z0 ∧ m = cap ∧ m' = cap')) (hm : m ≤ cap) :
    VR β r (.slice (if m' = l then a' else a'.map (·.add (l * sz))) (h - l) (m' - l)) := by
  unfold eSlCut at hr
  cases hb : Nat.ble h m with
  | false => rw [hb] at hr; cases hr
  | true =>
    rw [hb] at hr
    have hb := Nat.le_of_ble_eq_true hb
    simp only at hr
    cases h0 : Nat.beq l 0 with
    | true =>
      rw [h0] at hr
      obtain rfl := Nat.eq_of_beq_eq_true h0
      obtain rfl := Option.some.inj hr
      have e : (if m' = 0 then a' else a'.map (·.add (0 * sz))) = a' := by
        split
        · rfl
        · cases a' <;> simp [Addr.add]
      rw [e, Nat.sub_zero, Nat.sub_zero]
      cases hv with
      | snil =>
        have h1 : m = 0 := by omega
        have h2 : h = 0 := by omega
        have h3 : z = 0 := by omega
        have h4 : m' = 0 := by omega
        subst h1 h2 h3 h4
        exact .snil
      | sl g1 g2 g3 =>
        rcases hz with ⟨rfl, rfl⟩ | ⟨rfl, rfl, rfl⟩
        · exact .sl g1 (fun _ => rfl) fun e => absurd rfl e
        · exact .sl g1 g2 g3
      | sle g =>
        have h1 : m = 0 := by omega
        have h2 : h = 0 := by omega
        have h4 : m' = 0 := by omega
        subst h1 h2 h4
        exact .sle g
    | false =>
      rw [h0] at hr
      have hl0 : l ≠ 0 := fun e => by rw [e] at h0; cases h0
      simp only at hr
      cases a with
      | none => cases hr
      | some p =>
        obtain ⟨b, o⟩ := p
        simp only at hr
        cases h1 : Nat.beq z 0 || Nat.beq z sz with
        | false => rw [h1] at hr; cases hr
        | true =>
          rw [h1] at hr
          simp only at hr
          have hzs : z = 0 ∨ z = sz := by
            rw [Bool.or_eq_true] at h1
            exact h1.imp Nat.eq_of_beq_eq_true Nat.eq_of_beq_eq_true
          cases h2 : Nat.ble (Nat.succ l) m with
          | true =>
            rw [h2] at hr
            have h2 := Nat.le_of_ble_eq_true h2
            obtain rfl := Option.some.inj hr
            cases hv with
            | sle _ => omega
            | sl g1 g2 g3 =>
              have hne : m' ≠ l := by
                rcases hz with ⟨-, rfl⟩ | ⟨rfl, rfl, rfl⟩
                · omega
                · by_cases hq : z = 0
                  · have := g2 hq; omega
                  · have := (g3 hq).1; omega
              rw [if_neg hne, Option.map_some, addr_add, Nat.add_assoc]
              refine .sl g1 (fun e => ?_) fun e => ?_
              · rcases hz with ⟨-, rfl⟩ | ⟨rfl, rfl, rfl⟩
                · rfl
                · rw [g2 e]
              · rcases hz with ⟨rfl, -⟩ | ⟨rfl, rfl, rfl⟩
                · exact absurd rfl e
                · obtain ⟨g4, g5⟩ := g3 e
                  obtain rfl : z = sz := hzs.resolve_left e
                  refine ⟨by omega, ?_⟩
                  have : l * z + (m' - l) * z = m' * z := by rw [← Nat.add_mul]; congr 1; omega
                  omega
          | false =>
            rw [h2] at hr
            have h2 : ¬ (l + 1 ≤ m) := fun e => by rw [Nat.ble_eq_true_of_le e] at h2; cases h2
            have e1 : l = m := by omega
            have e2 : h = m := by omega
            simp only at hr
            have hsome : ∃ ad l, a' = some ad ∧ β b = some l := by
              cases hv with
              | sl g _ _ => exact ⟨_, _, rfl, g⟩
              | sle g => exact ⟨_, _, rfl, g⟩
            obtain ⟨ad, lb, rfl, hlb⟩ := hsome
            cases h3 : Nat.beq z 0 with
            | true =>
              rw [h3] at hr
              have h3 := Nat.eq_of_beq_eq_true h3
              obtain rfl := Option.some.inj hr
              have hm' : m' = m := by
                rcases hz with ⟨-, rfl⟩ | ⟨rfl, rfl, rfl⟩
                · rfl
                · cases hv with
                  | sl g1 g2 g3 => exact g2 h3
                  | sle _ => rfl
              rw [if_pos (by omega), show h - l = 0 by omega, show m' - l = 0 by omega]
              exact .sle hlb
            | false =>
              rw [h3] at hr
              have h3 : z ≠ 0 := fun e => by rw [e] at h3; cases h3
              obtain rfl := Option.some.inj hr
              rw [show h - l = 0 by omega]
              rcases hz with ⟨rfl, -⟩ | ⟨rfl, rfl, rfl⟩
              · exact absurd rfl h3
              · obtain rfl : z = sz := hzs.resolve_left h3
                cases hv with
                | sle _ => omega
                | sl g1 g2 g3 =>
                  obtain ⟨g4, g5⟩ := g3 h3
                  by_cases hq : m' = l
                  · rw [if_pos hq, show m' - l = 0 by omega]
                    exact .sle hlb
                  · rw [if_neg hq, Option.map_some, addr_add, Nat.add_assoc]
                    refine .sl g1 (fun e => absurd e h3) fun _ => ⟨Nat.zero_le _, ?_⟩
                    have : l * z + (m' - l) * z = m' * z := by rw [← Nat.add_mul]; congr 1; omega
                    omega
theorem eSlRow_run {sz len cap cap' z : Nat} {a : Option (Nat × Nat)} {a' : Option Addr} {lo hi mx : Option EV} {lo' hi' mx' : Option Value} {r : EV} (h : eSlRow sz a len cap z lo hi mx = some r) (hv : VR β (.sl a len cap z) (.slice a' len cap'))
    (h1 : OVR β lo lo') (h2 : OVR β hi hi') (h3 : OVR β mx mx') (isS : Bool) (w : World) :
    ∃ l hh m, (Instr.sliceBounds isS len cap' lo' hi' mx').run P w = .ok (l, hh, m) w ∧ VR β r (.slice (if m = l then a' else a'.map (·.add (l * sz))) (hh - l) (m - l)) := by
  have hcc : cap ≤ cap' := by
    cases hv with
    | snil => omega
    | sl g1 g2 g3 =>
      by_cases hz : z = 0
      · exact Nat.le_of_eq (g2 hz).symm
      · exact (g3 hz).1
    | sle _ => omega
  have low : ∀ {hh n : Nat}, eBound lo 0 hh = some n → n ≤ hh ∧ ((lo' = none ∧ n = 0) ∨ ∃ v, lo' = some v ∧ ∀ code, (Instr.sliceBound v hh code).run P w = .ok n w) := by
    intro hh n hn
    cases h1 with
    | none => obtain rfl := Option.some.inj hn; exact ⟨Nat.zero_le _, .inl ⟨rfl, rfl⟩⟩
    | some g => exact ⟨(eBound_run (P := P) hn g (Nat.le_refl _) .index w).2, .inr ⟨_, rfl, fun code => (eBound_run (P := P) hn g (Nat.le_refl _) code w).1⟩⟩
  unfold eSlRow at h
  cases h3 with
  | none =>
    simp only at h
    cases hb : eBound hi len cap with
    | none => rw [hb] at h; cases h
    | some hh =>
      rw [hb] at h
      simp only at h
      cases hl : eBound lo 0 hh with
      | none => rw [hl] at h; cases h
      | some l =>
        rw [hl] at h
        simp only at h
        obtain ⟨l1, l2⟩ := low hl
        refine ⟨l, hh, cap', ?_, eSlCut_run h hv l1 (.inr ⟨rfl, rfl, rfl⟩) (Nat.le_refl _)⟩
        cases h2 with
        | none =>
          obtain rfl := Option.some.inj hb
          unfold Instr.sliceBounds
          rcases l2 with ⟨rfl, rfl⟩ | ⟨v, rfl, l2⟩
          · simp
          · simp [l2]
        | some g =>
          obtain ⟨g1, g2⟩ := eBound_run (P := P) hb g hcc (if isS then .sliceAcap else .sliceAlen) w
          unfold Instr.sliceBounds
          rcases l2 with ⟨rfl, rfl⟩ | ⟨v, rfl, l2⟩
          · simp [g1]
          · simp [l2, g1]
  | some gm =>
    simp only at h
    cases h2 with
    | none => cases h
    | some gh =>
      simp only at h
      rename_i mv mu hv2 hu2
      cases hb : eBound (some mv) cap cap with
      | none => rw [hb] at h; cases h
      | some m =>
        rw [hb] at h
        simp only at h
        cases hc : eBound (some hv2) len m with
        | none => rw [hc] at h; cases h
        | some hh =>
          rw [hc] at h
          simp only at h
          cases hl : eBound lo 0 hh with
          | none => rw [hl] at h; cases h
          | some l =>
            rw [hl] at h
            simp only at h
            obtain ⟨l1, l2⟩ := low hl
            obtain ⟨g1, g2⟩ := eBound_run (P := P) hb gm hcc (if isS then .slice3Acap else .slice3Alen) w
            obtain ⟨g3, g4⟩ := eBound_run (P := P) hc gh (Nat.le_refl m) .slice3B w
            refine ⟨l, hh, m, ?_, eSlCut_run h hv l1 (.inl ⟨rfl, rfl⟩) g2⟩
            unfold Instr.sliceBounds
            rcases l2 with ⟨rfl, rfl⟩ | ⟨v, rfl, l2⟩
            · simp [g1, g3]
            · simp [l2, g1, g3]
theorem eSlStr_run {l : List Nat} {s : ByteArray} {lo hi : Option EV} {lo' hi' : Option Value} {r : EV} (h : eSlStr l lo hi = some r) (hs : s.data.toList.map (·.toNat) = l) (h1 : OVR β lo lo') (h2 : OVR β hi hi') (w : World) :
    ∃ a b, (Instr.sliceBounds false s.size s.size lo' hi' none).run P w = .ok (a, b, s.size) w ∧ VR β r (.string (s.extract a b)) := by
  have hsz : s.size = l.length := by rw [← hs]; simp
  unfold eSlStr at h
  cases hb : eBound hi l.length l.length with
  | none => rw [hb] at h; cases h
  | some hh =>
    rw [hb] at h
    simp only at h
    cases hl : eBound lo 0 hh with
    | none => rw [hl] at h; cases h
    | some b =>
      rw [hl] at h
      obtain rfl := Option.some.inj h
      refine ⟨b, hh, ?_, .str ?_⟩
      · unfold Instr.sliceBounds
        cases h2 with
        | none =>
          obtain rfl := Option.some.inj hb
          cases h1 with
          | none => obtain rfl := Option.some.inj hl; simp [hsz]
          | some g =>
            obtain ⟨g1, -⟩ := eBound_run (P := P) hl g (Nat.le_refl _) .sliceB w
            simp [hsz, g1]
        | some gh =>
          obtain ⟨g3, -⟩ := eBound_run (P := P) hb gh (Nat.le_of_eq hsz.symm) .sliceAlen w
          rw [hsz] at g3
          cases h1 with
          | none => obtain rfl := Option.some.inj hl; simp [hsz, g3]
          | some g =>
            obtain ⟨g1, -⟩ := eBound_run (P := P) hl g (Nat.le_refl _) .sliceB w
            simp [hsz, g1, g3]
      · rw [eTk_eq, eDrop_eq, ← hs, ← List.map_take, ← List.map_drop]
        congr 1
        rw [ByteArray.data_extract, Array.toList_extract, List.extract_eq_take_drop, List.drop_take]
theorem eSlOf_run {e : TypeId} {len cap cap' z : Nat} {a : Option (Nat × Nat)} {a' : Option Addr} {lo hi mx : Option EV} {lo' hi' mx' : Option Value} {r : EV} (h : eSlOf P e a len cap z lo hi mx = some r) (hv : VR β (.sl a len cap z) (.slice a' len cap'))
    (h1 : OVR β lo lo') (h2 : OVR β hi hi') (h3 : OVR β mx mx') (isS : Bool) (w : World) :
    ∃ sz l hh m, (sizeOf e).run P w = .ok sz w ∧ (Instr.sliceBounds isS len cap' lo' hi' mx').run P w = .ok (l, hh, m) w ∧ VR β r (.slice (if m = l then a' else a'.map (·.add (l * sz))) (hh - l) (m - l)) := by
  unfold eSlOf at h
  cases hi : eInfo P e with
  | none => rw [hi] at h; cases h
  | some i =>
    rw [hi] at h
    obtain ⟨l, hh, m, g1, g2⟩ := eSlRow_run (P := P) h hv h1 h2 h3 isS w
    exact ⟨i.size, l, hh, m, (eInfo_run hi w).2, g1, g2⟩
theorem eSlPtr {b o n : Nat} {l : ELoc} (hb : β b = some l) : VR β (.sl (some (b, o)) n n 0) (.slice (some ⟨l.c, l.sh + o, none⟩) n n) := .sl hb (fun _ => rfl) fun e => absurd rfl e
/-- A slice of anything. -/
theorem eSlice_run {t : TypeId} {x : EV} {v : Value} {lo hi mx : Option EV} {lo' hi' mx' : Option Value} {r : EV} (h : eSlice P (eDesc P t) x lo hi mx = some r) (hv : VR β x v) (h1 : OVR β lo lo') (h2 : OVR β hi hi') (h3 : OVR β mx mx') (w : World) :
    ∃ c, (Instr.sliceAt t v lo' hi' mx').run P w = .ok c w ∧ VR β r c := by
  unfold eSlice at h
  cases hd : eDesc P t with
  | none => rw [hd] at h; cases h
  | some d =>
    rw [hd] at h
    have hu := run_underlying (eDesc_eq hd) w
    cases d with
    | string =>
      cases hv with
      | str hs =>
        cases h3 with
        | none =>
          obtain ⟨a, b, g1, g2⟩ := eSlStr_run (P := P) h hs h1 h2 w
          exact ⟨_, by simp [Instr.sliceAt, Instr.slice, hu, g1], g2⟩
        | some _ => cases h
      | _ => cases h
    | slice e =>
      cases x with
      | sl a len cap z =>
        obtain ⟨a', cap', rfl⟩ : ∃ a' cap', v = .slice a' len cap' := by cases hv <;> exact ⟨_, _, rfl⟩
        obtain ⟨sz, l, hh, m, g1, g2, g3⟩ := eSlOf_run (P := P) h hv h1 h2 h3 true w
        exact ⟨_, by simp [Instr.sliceAt, Instr.slice, hu, g1, g2], g3⟩
      | _ => cases h
    | pointer u =>
      simp only at h
      cases x with
      | ptr p =>
        cases p with
        | none => cases h
        | some p =>
          simp only at h
          cases hv with
          | ptr hb =>
            rename_i b o l
            cases hd2 : eDesc P u with
            | none => rw [hd2] at h; cases h
            | some d2 =>
              rw [hd2] at h
              have hu2 := run_underlying (eDesc_eq hd2) w
              cases d2 with
              | array n e =>
                simp only at h
                obtain ⟨sz, l', hh, m, g1, g2, g3⟩ := eSlOf_run (P := P) h (eSlPtr hb) h1 h2 h3 false w
                refine ⟨_, ?_, g3⟩
                simp [Instr.sliceAt, Instr.slice, hu, hu2, asAddr, g1, g2]
                split <;> rfl
              | _ => cases h
      | _ => cases h
    | array n e =>
      simp only at h
      cases x with
      | ptr p =>
        cases p with
        | none => cases h
        | some p =>
          simp only at h
          cases hv with
          | ptr hb =>
            obtain ⟨sz, l', hh, m, g1, g2, g3⟩ := eSlOf_run (P := P) h (eSlPtr hb) h1 h2 h3 false w
            refine ⟨_, ?_, g3⟩
            simp [Instr.sliceAt, hu, Instr.sureAddr, g1, g2]
            split <;> rfl
      | _ => cases h
    | _ => cases h
/-- A part of an aggregate. -/
theorem ePart_run {t : TypeId} {cs : List EV} {a : Array Value} {off : Nat} {x : EV} (h : ePart (eAgg P t) cs off = some x) (hc : VRs β cs a.toList) (w : World) : ∃ v, (part t a off).run P w = .ok v w ∧ VR β x v := by
  unfold ePart at h
  cases hg : eAgg P t with
  | no => rw [hg] at h; cases h
  | agg k =>
    rw [hg] at h
    obtain rfl := Option.some.inj h
    obtain ⟨g1, g2⟩ := eAgg_agg hg w
    refine ⟨.agg (a.extract off (off + k)), by simp [part, g1, g2], .agg ?_⟩
    rw [eTk_eq, eDrop_eq, Array.toList_extract, List.extract_eq_take_drop, show off + k - off = k by omega]
    exact (hc.drop off).take k
  | one =>
    rw [hg] at h
    have h : eNth cs off = some x := h
    rw [eNth_eq] at h
    obtain ⟨v, g1, g2⟩ := hc.get h
    have g1 : a[off]? = some v := by simpa using g1
    exact ⟨v, by simp [part, eAgg_one hg w, g1], g2⟩
end
end Go.Proofs.YtjckpgcmfieaoaaGreatDoor
