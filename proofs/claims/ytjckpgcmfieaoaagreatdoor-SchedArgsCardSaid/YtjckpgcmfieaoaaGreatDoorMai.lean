/-
  The evaluator's slices, places, parts.
-/
import Derived.Test.YtjckpgcmfieaoaaGreatDoorAv7
import Derived.Laws.Tables
import Derived.Great.BuildSlice
import Derived.DataReads
set_option linter.unusedVariables false
set_option linter.unusedSimpArgs false
namespace Go.Proofs.YtjckpgcmfieaoaaGreatDoor
open Go.RowKit

section
variable {P : Program} {β : EMp}
/-- A value that may be there, or not. -/
inductive OVR (β : EMp) : Option EV → Option Value → Prop
  | none : OVR β none none
  | some {x : EV} {v : Value} (h : VR β x v) : OVR β (some x) (some v)
theorem eBound_run {v : EV} {u : Value} {d hi n : Nat} (h : eBound (some v) d hi = some n) (hv : VR β v u) {y : Nat} (hy : hi ≤ y) (code : BoundsCode) (w : World) : (Instr.sliceBound u y code).run P w = .ok n w ∧ n ≤ hi := by
  cases hv with
  | int k m =>
    cases m with
    | negSucc m => cases h
    | ofNat m =>
      have h2 : (match Nat.ble m hi with | true => some m | false => none) = some n := h
      clear h
      cases hb : Nat.ble m hi with
      | false => rw [hb] at h2; cases h2
      | true =>
        rw [hb] at h2
        obtain rfl := Option.some.inj h2
        have hb := Nat.le_of_ble_eq_true hb
        refine ⟨?_, hb⟩
        have : (0 : Int) ≤ (m : Int) ∧ (m : Int) ≤ y := ⟨by omega, by omega⟩
        simp [Instr.sliceBound, asIntOf, this]
  | _ => cases h
theorem eSlCut_run {sz l h m m' z : Nat} {a : Option (Nat × Nat)} {a' : Option Addr} {len len' cap cap' z0 : Nat} {r : EV} (hr : eSlCut sz a l h m z = some r) (hv : VR β (.sl a len cap z0) (.slice a' len' cap')) (hl : l ≤ h)
    (hz : (z = 0 ∧ m' = m) ∨ (z = z0 ∧ m = cap ∧ m' = cap')) (hm : m ≤ cap) :
    VR β r (.slice (if m' = l then a' else a'.map (·.add (l * sz))) (h - l) (m' - l)) := by
  unfold eSlCut at hr
  cases hb : Nat.ble h m with
  | false => rw [hb] at hr; cases hr
  | true =>
    rw [hb] at hr
    have hb := Nat.le_of_ble_eq_true hb
    simp only at hr
    cases h0 : Nat.beq l 0 with
    | true =>
      rw [h0] at hr
      obtain rfl := Nat.eq_of_beq_eq_true h0
      obtain rfl := Option.some.inj hr
      have e : (if m' = 0 then a' else a'.map (·.add (0 * sz))) = a' := by
        split
        · rfl
        · cases a' <;> simp [Addr.add]
      rw [e, Nat.sub_zero, Nat.sub_zero]
      cases hv with
      | snil =>
        have h1 : m = 0 := by omega
        have h2 : h = 0 := by omega
        have h3 : z = 0 := by omega
        have h4 : m' = 0 := by omega
        subst h1 h2 h3 h4
        exact .snil
      | sl g1 g2 g3 =>
        rcases hz with ⟨rfl, rfl⟩ | ⟨rfl, rfl, rfl⟩
        · exact .sl g1 (fun _ => rfl) fun e => absurd rfl e
        · exact .sl g1 g2 g3
      | sle g =>
        have h1 : m = 0 := by omega
        have h2 : h = 0 := by omega
        have h4 : m' = 0 := by omega
        subst h1 h2 h4
        exact .sle g
    | false =>
      rw [h0] at hr
      have hl0 : l ≠ 0 := fun e => by rw [e] at h0; cases h0
      simp only at hr
      cases a with
      | none => cases hr
      | some p =>
        obtain ⟨b, o⟩ := p
        simp only at hr
        cases h1 : Nat.beq z 0 || Nat.beq z sz with
        | false => rw [h1] at hr; cases hr
        | true =>
          rw [h1] at hr
          simp only at hr
          have hzs : z = 0 ∨ z = sz := by
            rw [Bool.or_eq_true] at h1
            exact h1.imp Nat.eq_of_beq_eq_true Nat.eq_of_beq_eq_true
          cases h2 : Nat.ble (Nat.succ l) m with
          | true =>
            rw [h2] at hr
            have h2 := Nat.le_of_ble_eq_true h2
            obtain rfl := Option.some.inj hr
            cases hv with
            | sle _ => omega
            | sl g1 g2 g3 =>
              have hne : m' ≠ l := by
                rcases hz with ⟨-, rfl⟩ | ⟨rfl, rfl, rfl⟩
                · omega
                · by_cases hq : z = 0
                  · have := g2 hq; omega
                  · have := (g3 hq).1; omega
              rw [if_neg hne, Option.map_some, addr_add, Nat.add_assoc]
              refine .sl g1 (fun e => ?_) fun e => ?_
              · rcases hz with ⟨-, rfl⟩ | ⟨rfl, rfl, rfl⟩
                · rfl
                · rw [g2 e]
              · rcases hz with ⟨rfl, -⟩ | ⟨rfl, rfl, rfl⟩
                · exact absurd rfl e
                · obtain ⟨g4, g5⟩ := g3 e
                  obtain rfl : z = sz := hzs.resolve_left e
                  refine ⟨by omega, ?_⟩
                  have : l * z + (m' - l) * z = m' * z := by rw [← Nat.add_mul]; congr 1; omega
                  omega
          | false =>
            rw [h2] at hr
            have h2 : ¬ (l + 1 ≤ m) := fun e => by rw [Nat.ble_eq_true_of_le e] at h2; cases h2
            have e1 : l = m := by omega
            have e2 : h = m := by omega
            simp only at hr
            have hsome : ∃ ad l, a' = some ad ∧ β b = some l := by
              cases hv with
              | sl g _ _ => exact ⟨_, _, rfl, g⟩
              | sle g => exact ⟨_, _, rfl, g⟩
            obtain ⟨ad, lb, rfl, hlb⟩ := hsome
            cases h3 : Nat.beq z 0 with
            | true =>
              rw [h3] at hr
              have h3 := Nat.eq_of_beq_eq_true h3
              obtain rfl := Option.some.inj hr
              have hm' : m' = m := by
                rcases hz with ⟨-, rfl⟩ | ⟨rfl, rfl, rfl⟩
                · rfl
                · cases hv with
                  | sl g1 g2 g3 => exact g2 h3
                  | sle _ => rfl
              rw [if_pos (by omega), show h - l = 0 by omega, show m' - l = 0 by omega]
              exact .sle hlb
            | false =>
              rw [h3] at hr
              have h3 : z ≠ 0 := fun e => by rw [e] at h3; cases h3
              obtain rfl := Option.some.inj hr
              rw [show h - l = 0 by omega]
              rcases hz with ⟨rfl, -⟩ | ⟨rfl, rfl, rfl⟩
              · exact absurd rfl h3
              · obtain rfl : z = sz := hzs.resolve_left h3
                cases hv with
                | sle _ => omega
                | sl g1 g2 g3 =>
                  obtain ⟨g4, g5⟩ := g3 h3
                  by_cases hq : m' = l
                  · rw [if_pos hq, show m' - l = 0 by omega]
                    exact .sle hlb
                  · rw [if_neg hq, Option.map_some, addr_add, Nat.add_assoc]
                    refine .sl g1 (fun e => absurd e h3) fun _ => ⟨Nat.zero_le _, ?_⟩
                    have : l * z + (m' - l) * z = m' * z := by rw [← Nat.add_mul]; congr 1; omega
                    omega
theorem eSlRow_run {sz len cap cap' z : Nat} {a : Option (Nat × Nat)} {a' : Option Addr} {lo hi mx : Option EV} {lo' hi' mx' : Option Value} {r : EV} (h : eSlRow sz a len cap z lo hi mx = some r) (hv : VR β (.sl a len cap z) (.slice a' len cap'))
    (h1 : OVR β lo lo') (h2 : OVR β hi hi') (h3 : OVR β mx mx') (isS : Bool) (w : World) :
    ∃ l hh m, (Instr.sliceBounds isS len cap' lo' hi' mx').run P w = .ok (l, hh, m) w ∧ VR β r (.slice (if m = l then a' else a'.map (·.add (l * sz))) (hh - l) (m - l)) := by
  have hcc : cap ≤ cap' := by
    cases hv with
    | snil => omega
    | sl g1 g2 g3 =>
      by_cases hz : z = 0
      · exact Nat.le_of_eq (g2 hz).symm
      · exact (g3 hz).1
    | sle _ => omega
  have low : ∀ {hh n : Nat}, eBound lo 0 hh = some n → n ≤ hh ∧ ((lo' = none ∧ n = 0) ∨ ∃ v, lo' = some v ∧ ∀ code, (Instr.sliceBound v hh code).run P w = .ok n w) := by
    intro hh n hn
    cases h1 with
    | none => obtain rfl := Option.some.inj hn; exact ⟨Nat.zero_le _, .inl ⟨rfl, rfl⟩⟩
    | some g => exact ⟨(eBound_run (P := P) hn g (Nat.le_refl _) .index w).2, .inr ⟨_, rfl, fun code => (eBound_run (P := P) hn g (Nat.le_refl _) code w).1⟩⟩
  unfold eSlRow at h
  cases h3 with
  | none =>
    simp only at h
    cases hb : eBound hi len cap with
    | none => rw [hb] at h; cases h
    | some hh =>
      rw [hb] at h
      simp only at h
      cases hl : eBound lo 0 hh with
      | none => rw [hl] at h; cases h
      | some l =>
        rw [hl] at h
        simp only at h
        obtain ⟨l1, l2⟩ := low hl
        refine ⟨l, hh, cap', ?_, eSlCut_run h hv l1 (.inr ⟨rfl, rfl, rfl⟩) (Nat.le_refl _)⟩
        cases h2 with
        | none =>
          obtain rfl := Option.some.inj hb
          unfold Instr.sliceBounds
          rcases l2 with ⟨rfl, rfl⟩ | ⟨v, rfl, l2⟩
          · simp
          · simp [l2]
        | some g =>
          obtain ⟨g1, g2⟩ := eBound_run (P := P) hb g hcc (if isS then .sliceAcap else .sliceAlen) w
          unfold Instr.sliceBounds
          rcases l2 with ⟨rfl, rfl⟩ | ⟨v, rfl, l2⟩
          · simp [g1]
          · simp [l2, g1]
  | some gm =>
    simp only at h
    cases h2 with
    | none => cases h
    | some gh =>
      simp only at h
      rename_i mv mu hv2 hu2
      cases hb : eBound (some mv) cap cap with
      | none => rw [hb] at h; cases h
      | some m =>
        rw [hb] at h
        simp only at h
        cases hc : eBound (some hv2) len m with
        | none => rw [hc] at h; cases h
        | some hh =>
          rw [hc] at h
          simp only at h
          cases hl : eBound lo 0 hh with
          | none => rw [hl] at h; cases h
          | some l =>
            rw [hl] at h
            simp only at h
            obtain ⟨l1, l2⟩ := low hl
            obtain ⟨g1, g2⟩ := eBound_run (P := P) hb gm hcc (if isS then .slice3Acap else .slice3Alen) w
            obtain ⟨g3, g4⟩ := eBound_run (P := P) hc gh (Nat.le_refl m) .slice3B w
            refine ⟨l, hh, m, ?_, eSlCut_run h hv l1 (.inl ⟨rfl, rfl⟩) g2⟩
            unfold Instr.sliceBounds
            rcases l2 with ⟨rfl, rfl⟩ | ⟨v, rfl, l2⟩
            · simp [g1, g3]
            · simp [l2, g1, g3]
theorem eSlStr_bounds {n : Nat} {s : ByteArray} (hsz : s.size = n) {lo hi : Option EV} {lo' hi' : Option Value} {hh b : Nat} (hb : eBound hi n n = some hh) (hl : eBound lo 0 hh = some b) (h1 : OVR β lo lo') (h2 : OVR β hi hi') (w : World) :
    (Instr.sliceBounds false s.size s.size lo' hi' none).run P w = .ok (b, hh, s.size) w := by
  unfold Instr.sliceBounds
  cases h2 with
  | none =>
    obtain rfl := Option.some.inj hb
    cases h1 with
    | none => obtain rfl := Option.some.inj hl; simp [hsz]
    | some g =>
      obtain ⟨g1, -⟩ := eBound_run (P := P) hl g (Nat.le_refl _) .sliceB w
      simp [hsz, g1]
  | some gh =>
    obtain ⟨g3, -⟩ := eBound_run (P := P) hb gh (Nat.le_of_eq hsz.symm) .sliceAlen w
    rw [hsz] at g3
    cases h1 with
    | none => obtain rfl := Option.some.inj hl; simp [hsz, g3]
    | some g =>
      obtain ⟨g1, -⟩ := eBound_run (P := P) hl g (Nat.le_refl _) .sliceB w
      simp [hsz, g1, g3]
theorem eSlStr_run {l : List Nat} {s : ByteArray} {lo hi : Option EV} {lo' hi' : Option Value} {r : EV} (h : eSlStr l lo hi = some r) (hs : s.data.toList.map (·.toNat) = l) (h1 : OVR β lo lo') (h2 : OVR β hi hi') (w : World) :
    ∃ a b, (Instr.sliceBounds false s.size s.size lo' hi' none).run P w = .ok (a, b, s.size) w ∧ VR β r (.string (s.extract a b)) := by
  have hsz : s.size = l.length := by rw [← hs]; simp
  unfold eSlStr at h
  cases hb : eBound hi l.length l.length with
  | none => rw [hb] at h; cases h
  | some hh =>
    rw [hb] at h
    simp only at h
    cases hl : eBound lo 0 hh with
    | none => rw [hl] at h; cases h
    | some b =>
      rw [hl] at h
      obtain rfl := Option.some.inj h
      refine ⟨b, hh, eSlStr_bounds hsz hb hl h1 h2 w, .str ?_⟩
      rw [eTk_eq, eDrop_eq, ← hs, ← List.map_take, ← List.map_drop]
      congr 1
      rw [ByteArray.data_extract, Array.toList_extract, List.extract_eq_take_drop, List.drop_take]
theorem eProg_ok : ∀ {l : List Nat} {c : Nat}, eProg l c = true → ∀ {i : Nat}, i < l.length → l[i]? = some (c + i)
  | [], _, _, i, h => absurd h (Nat.not_lt_zero _)
  | x :: l, c, hp, i, h => by
    have hp : (match Nat.beq x c with | true => eProg l (c + 1) | false => false) = true := hp
    split at hp
    · rename_i hx
      obtain rfl := Nat.eq_of_beq_eq_true hx
      cases i with
      | zero => rfl
      | succ i =>
        rw [List.getElem?_cons_succ, eProg_ok hp (by simpa using h), Nat.add_assoc, Nat.add_comm 1 i]
    · cases hp
theorem bound_nat {k : IntKind} (m y : Nat) (code : BoundsCode) (h : m ≤ y) (w : World) : (Instr.sliceBound (.int k (m : Int)) y code).run P w = .ok m w := by
  have : (0 : Int) ≤ (m : Int) ∧ (m : Int) ≤ y := ⟨by omega, by omega⟩
  simp [Instr.sliceBound, asIntOf, this]
theorem eSlDig_run {l : List Nat} {s : ByteArray} {lo hi : Option EV} {lo' hi' : Option Value} {r : EV} (h : eSlDig l lo hi = some r) (hs : s.data.toList.map (·.toNat) = l) (h1 : OVR β lo lo') (h2 : OVR β hi hi') (w : World) :
    ∃ a b, (Instr.sliceBounds false s.size s.size lo' hi' none).run P w = .ok (a, b, s.size) w ∧ VR β r (.string (s.extract a b)) := by
  have hsz : s.size = l.length := by rw [← hs]; simp
  unfold eSlDig at h
  split at h <;> first | (cases h; done) | skip
  rename_i k e
  split at h <;> first | (cases h; done) | skip
  rename_i k2 f
  split at h <;> first | (cases h; done) | skip
  rename_i hd
  split at h <;> first | (cases h; done) | skip
  rename_i a b hb
  split at h <;> first | (cases h; done) | skip
  rename_i c t hl
  split at h <;> first | (cases h; done) | skip
  rename_i hc
  rw [Bool.and_eq_true, Bool.and_eq_true] at hc
  obtain ⟨⟨c1, c2⟩, c3⟩ := hc
  have c1 := Nat.le_of_ble_eq_true c1
  have c2 : b < l.length := Nat.le_of_ble_eq_true c2
  obtain rfl := Option.some.inj h
  cases h1 with
  | some g1 =>
    cases h2 with
    | some g2 =>
      cases g1 with
      | sint x1 _ =>
        rename_i zx _
        cases g2 with
        | sint x2 _ =>
          rename_i zy _
          have hbe := sBnd_ok e x1
          rw [hb] at hbe
          have hbe : (a : Int) ≤ zx ∧ zx ≤ (b : Int) := hbe
          have hdiff := sSub_ok x2 x1
          rw [hd] at hdiff
          have hdiff : zy - zx = 1 := hdiff.cst_inv
          obtain ⟨n, rfl⟩ := Int.eq_ofNat_of_zero_le (show 0 ≤ zx by omega)
          obtain rfl : zy = ((n + 1 : Nat) : Int) := by omega
          have hn : n < l.length := by omega
          have hab : a ≤ n ∧ n ≤ b := by omega
          have c3 : eProg (eTk (c :: t) (b - a + 1)) c = true := c3
          refine ⟨n, n + 1, ?_, .sstr ?_⟩
          · have b1 := fun y code hy => bound_nat (P := P) (k := k2) (n + 1) y code hy w
            have b0 := fun y code hy => bound_nat (P := P) (k := k) n y code hy w
            obtain ⟨n1, hn1⟩ : ∃ n1, n1 = n + 1 := ⟨_, rfl⟩
            rw [← hn1] at b1 ⊢
            unfold Instr.sliceBounds
            simp [b1 s.size _ (by omega), b0 n1 _ (by omega)]
          · have hq : l[n]? = some (c + (n - a)) := by
              have h3 := eProg_ok c3 (i := n - a) (by rw [eTk_eq, List.length_take, ← hl, eDrop_eq, List.length_drop]; omega)
              rw [eTk_eq, List.getElem?_take_of_lt (by omega), ← hl, eDrop_eq, List.getElem?_drop] at h3
              rwa [show a + (n - a) = n by omega] at h3
            have he : (s.extract n (n + 1)).data.toList.map (·.toNat) = [c + (n - a)] := by
              rw [ByteArray.data_extract, Array.toList_extract, List.extract_eq_take_drop, List.map_take, List.map_drop, hs, show n + 1 - n = 1 by omega]
              rw [List.drop_eq_getElem_cons hn]
              simp only [List.take_succ_cons, List.take_zero, List.cons.injEq, and_true]
              rw [List.getElem?_eq_getElem hn] at hq
              exact Option.some.inj hq
            have hlt : c + (n - a) < 256 := by
              have : c + (n - a) ∈ l := List.mem_of_getElem? hq
              rw [← hs] at this
              obtain ⟨u, -, hu⟩ := List.mem_map.1 this
              have := u.toNat_lt
              omega
            rw [he]
            have hv := sAdd_ok x1 (.cst (Int.sub (.ofNat c) (.ofNat a)))
            have hval : (n : Int) + Int.sub (.ofNat c) (.ofNat a) = ((c + (n - a) : Nat) : Int) := by
              show (n : Int) + ((c : Int) - (a : Int)) = _
              omega
            rw [hval] at hv
            exact SB.cons (x := ((c + (n - a) : Nat) : Int)) (by omega) (by omega) hv .nil
theorem eSlX_run {l : SX} {s : ByteArray} {lo hi : Option EV} {lo' hi' : Option Value} {r : EV} (h : eSlX l lo hi = some r) (hs : SB (symOf β) l (s.data.toList.map (·.toNat))) (h1 : OVR β lo lo') (h2 : OVR β hi hi') (w : World) :
    ∃ a b, (Instr.sliceBounds false s.size s.size lo' hi' none).run P w = .ok (a, b, s.size) w ∧ VR β r (.string (s.extract a b)) := by
  have hsz : s.size = sLen l := by rw [hs.len]; simp
  unfold eSlX at h
  cases hb : eBound hi (sLen l) (sLen l) with
  | none => rw [hb] at h; cases h
  | some hh =>
    rw [hb] at h
    simp only at h
    cases hl : eBound lo 0 hh with
    | none => rw [hl] at h; cases h
    | some b =>
      rw [hl] at h
      obtain rfl := Option.some.inj h
      refine ⟨b, hh, eSlStr_bounds hsz hb hl h1 h2 w, eMkS_ok ?_⟩
      have := sDrop_ok (sTake_ok hs hh) b
      rw [← List.map_take, ← List.map_drop] at this
      rw [ByteArray.data_extract, Array.toList_extract, List.extract_eq_take_drop, ← List.drop_take]
      exact this
theorem eSlOf_run {e : TypeId} {len cap cap' z : Nat} {a : Option (Nat × Nat)} {a' : Option Addr} {lo hi mx : Option EV} {lo' hi' mx' : Option Value} {r : EV} (h : eSlOf P e a len cap z lo hi mx = some r) (hv : VR β (.sl a len cap z) (.slice a' len cap'))
    (h1 : OVR β lo lo') (h2 : OVR β hi hi') (h3 : OVR β mx mx') (isS : Bool) (w : World) :
    ∃ sz l hh m, (sizeOf e).run P w = .ok sz w ∧ (Instr.sliceBounds isS len cap' lo' hi' mx').run P w = .ok (l, hh, m) w ∧ VR β r (.slice (if m = l then a' else a'.map (·.add (l * sz))) (hh - l) (m - l)) := by
  unfold eSlOf at h
  cases hi : eInfo P e with
  | none => rw [hi] at h; cases h
  | some i =>
    rw [hi] at h
    obtain ⟨l, hh, m, g1, g2⟩ := eSlRow_run (P := P) h hv h1 h2 h3 isS w
    exact ⟨i.size, l, hh, m, (eInfo_run hi w).2, g1, g2⟩
theorem eSlPtr {b o n : Nat} {l : ELoc} (hb : β b = some l) : VR β (.sl (some (b, o)) n n 0) (.slice (some ⟨l.c, l.sh + o, none⟩) n n) := .sl hb (fun _ => rfl) fun e => absurd rfl e
/-- A slice of anything. -/
theorem eSlice_run {t : TypeId} {x : EV} {v : Value} {lo hi mx : Option EV} {lo' hi' mx' : Option Value} {r : EV} (h : eSlice P (eDesc P t) x lo hi mx = some r) (hv : VR β x v) (h1 : OVR β lo lo') (h2 : OVR β hi hi') (h3 : OVR β mx mx') (w : World) :
    ∃ c, (Instr.sliceAt t v lo' hi' mx').run P w = .ok c w ∧ VR β r c := by
  unfold eSlice at h
  cases hd : eDesc P t with
  | none => rw [hd] at h; cases h
  | some d =>
    rw [hd] at h
    have hu := run_underlying (eDesc_eq hd) w
    cases d with
    | string =>
      cases hv with
      | str hs =>
        cases h3 with
        | none =>
          have h : (match eSlStr _ lo hi with | some r => some r | none => eSlDig _ lo hi) = some r := h
          split at h
          · rename_i r' hr
            obtain rfl := Option.some.inj h
            obtain ⟨a, b, g1, g2⟩ := eSlStr_run (P := P) hr hs h1 h2 w
            exact ⟨_, by simp [Instr.sliceAt, Instr.slice, hu, g1], g2⟩
          · obtain ⟨a, b, g1, g2⟩ := eSlDig_run (P := P) h hs h1 h2 w
            exact ⟨_, by simp [Instr.sliceAt, Instr.slice, hu, g1], g2⟩
        | some _ => cases h
      | sstr hs =>
        cases h3 with
        | none =>
          obtain ⟨a, b, g1, g2⟩ := eSlX_run (P := P) h hs h1 h2 w
          exact ⟨_, by simp [Instr.sliceAt, Instr.slice, hu, g1], g2⟩
        | some _ => cases h
      | _ => cases h
    | slice e =>
      cases x with
      | sl a len cap z =>
        obtain ⟨a', cap', rfl⟩ : ∃ a' cap', v = .slice a' len cap' := by cases hv <;> exact ⟨_, _, rfl⟩
        obtain ⟨sz, l, hh, m, g1, g2, g3⟩ := eSlOf_run (P := P) h hv h1 h2 h3 true w
        exact ⟨_, by simp [Instr.sliceAt, Instr.slice, hu, g1, g2], g3⟩
      | _ => cases h
    | pointer u =>
      simp only at h
      cases x with
      | ptr p =>
        cases p with
        | none => cases h
        | some p =>
          simp only at h
          cases hv with
          | ptr hb =>
            rename_i b o l
            cases hd2 : eDesc P u with
            | none => rw [hd2] at h; cases h
            | some d2 =>
              rw [hd2] at h
              have hu2 := run_underlying (eDesc_eq hd2) w
              cases d2 with
              | array n e =>
                simp only at h
                obtain ⟨sz, l', hh, m, g1, g2, g3⟩ := eSlOf_run (P := P) h (eSlPtr hb) h1 h2 h3 false w
                refine ⟨_, ?_, g3⟩
                simp [Instr.sliceAt, Instr.slice, hu, hu2, asAddr, g1, g2]
                split <;> rfl
              | _ => cases h
      | _ => cases h
    | array n e =>
      simp only at h
      cases x with
      | ptr p =>
        cases p with
        | none => cases h
        | some p =>
          simp only at h
          cases hv with
          | ptr hb =>
            obtain ⟨sz, l', hh, m, g1, g2, g3⟩ := eSlOf_run (P := P) h (eSlPtr hb) h1 h2 h3 false w
            refine ⟨_, ?_, g3⟩
            simp [Instr.sliceAt, hu, Instr.sureAddr, g1, g2]
            split <;> rfl
      | _ => cases h
    | _ => cases h
/-- A part of an aggregate. -/
theorem ePart_run {t : TypeId} {cs : List EV} {a : Array Value} {off : Nat} {x : EV} (h : ePart (eAgg P t) cs off = some x) (hc : VRs β cs a.toList) (w : World) : ∃ v, (part t a off).run P w = .ok v w ∧ VR β x v := by
  unfold ePart at h
  cases hg : eAgg P t with
  | no => rw [hg] at h; cases h
  | agg k =>
    rw [hg] at h
    obtain rfl := Option.some.inj h
    obtain ⟨g1, g2⟩ := eAgg_agg hg w
    refine ⟨.agg (a.extract off (off + k)), by simp [part, g1, g2], .agg ?_⟩
    rw [eTk_eq, eDrop_eq, Array.toList_extract, List.extract_eq_take_drop, show off + k - off = k by omega]
    exact (hc.drop off).take k
  | one =>
    rw [hg] at h
    have h : eNth cs off = some x := h
    rw [eNth_eq] at h
    obtain ⟨v, g1, g2⟩ := hc.get h
    have g1 : a[off]? = some v := by simpa using g1
    exact ⟨v, by simp [part, eAgg_one hg w, g1], g2⟩
end

section
variable {P : Program} {β : EMp}
theorem eIdxA_run {t e : TypeId} {j : TypeInfo} {lim : Option Nat} {iv x z : EV} {u v : Value} (hj : eInfo P e = some j) (ht : (∃ n, eDesc P t = some (.array n e) ∧ lim = some n) ∨ (eDesc P t = some (.slice e) ∧ lim = none)) (h : eIdxA j.size lim iv x = some z) (hi : VR β iv u) (hx : VR β x v) (w : World) :
    ∃ c, (Instr.indexAt t v u).run P w = .ok c w ∧ VR β z c := by
  have hsz := (eInfo_run hj w).2
  cases hi with
  | int k i =>
    cases i with
    | negSucc i => cases h
    | ofNat i =>
      cases x with
      | ptr p =>
        cases p with
        | none => cases h
        | some p =>
          obtain ⟨b, o⟩ := p
          rcases ht with ⟨n, hd, rfl⟩ | ⟨hd, rfl⟩
          · have h2 : (match Nat.ble (Nat.succ i) n with | true => some (EV.ptr (some (b, o + i * j.size))) | false => none) = some z := h
            clear h
            cases hb : Nat.ble (Nat.succ i) n with
            | false => rw [hb] at h2; cases h2
            | true =>
              rw [hb] at h2
              obtain rfl := Option.some.inj h2
              have hb := Nat.le_of_ble_eq_true hb
              cases hx with
              | ptr hl =>
                refine ⟨_, ?_, .ptr hl⟩
                have h1 : i < n := hb
                simp [Instr.indexAt, asIntOf, run_underlying (eDesc_eq hd), Instr.sureAddr, hsz, h1, addr_add, Nat.add_assoc]
          · cases h
      | sl p n cap zz =>
        cases p with
        | none => cases h
        | some p =>
          obtain ⟨b, o⟩ := p
          rcases ht with ⟨m, hd, rfl⟩ | ⟨hd, rfl⟩
          · cases h
          · have h2 : (match Nat.ble (Nat.succ i) n with | true => some (EV.ptr (some (b, o + i * j.size))) | false => none) = some z := h
            clear h
            cases hb : Nat.ble (Nat.succ i) n with
            | false => rw [hb] at h2; cases h2
            | true =>
              rw [hb] at h2
              obtain rfl := Option.some.inj h2
              have hb := Nat.le_of_ble_eq_true hb
              cases hx with
              | sle _ => omega
              | sl hl _ _ =>
                refine ⟨_, ?_, .ptr hl⟩
                have h1 : i < n := hb
                simp [Instr.indexAt, asIntOf, run_underlying (eDesc_eq hd), hsz, h1, addr_add, Nat.add_assoc]
      | _ => cases h
  | _ => cases h
theorem eIdx_arr {t e : TypeId} {j : TypeInfo} {n : Nat} {iv x z : EV} {u v : Value} (hj : eInfo P e = some j) (hd : eDesc P t = some (.array n e)) (h : eIdx (eAgg P e) j.size (some n) iv x = some z) (hi : VR β iv u) (hx : VR β x v) (w : World) :
    ∃ c, (Instr.index t v u).run P w = .ok c w ∧ VR β z c := by
  have hsz := (eInfo_run hj w).2
  cases hi with
  | int k i =>
    cases i with
    | negSucc i => cases h
    | ofNat i =>
      cases hx with
      | agg hc =>
        rename_i cs a
        have h2 : (match Nat.ble (Nat.succ i) n with | true => ePart (eAgg P e) cs (i * j.size) | false => none) = some z := h
        clear h
        cases hb : Nat.ble (Nat.succ i) n with
        | false => rw [hb] at h2; cases h2
        | true =>
          rw [hb] at h2
          have hb := Nat.le_of_ble_eq_true hb
          obtain ⟨c, g1, g2⟩ := ePart_run h2 hc w
          refine ⟨c, ?_, g2⟩
          have h1 : i < n := hb
          simp [Instr.index, asIntOf, run_underlying (eDesc_eq hd), hsz, h1, g1]
      | _ => cases h
  | _ => cases h
theorem eIdx_str {t : TypeId} {iv x z : EV} {u v : Value} (hd : eDesc P t = some .string) (h : eIdx .no 0 none iv x = some z) (hi : VR β iv u) (hx : VR β x v) (w : World) :
    ∃ c, (Instr.index t v u).run P w = .ok c w ∧ VR β z c := by
  cases hi with
  | int k i =>
    cases i with
    | negSucc i => cases h
    | ofNat i =>
      cases hx with
      | str hs =>
        rename_i l s
        have h2 : (match eNth l i with | some b => some (EV.int .u8 (Int.ofNat b)) | none => none) = some z := h
        clear h
        rw [eNth_eq] at h2
        cases hb : l[i]? with
        | none => rw [hb] at h2; cases h2
        | some b =>
          rw [hb] at h2
          obtain rfl := Option.some.inj h2
          rw [← hs, List.getElem?_map] at hb
          cases hc : s.data.toList[i]? with
          | none => rw [hc] at hb; cases hb
          | some c =>
            rw [hc] at hb
            obtain rfl := Option.some.inj hb
            rw [Array.getElem?_toList] at hc
            have hlt := (Array.getElem?_eq_some_iff.1 hc).1
            have hlt' : i < s.size := hlt
            have hg : s[i] = c := by
              have := (Array.getElem?_eq_some_iff.1 hc).2
              exact this
            refine ⟨.int .u8 c.toNat, ?_, .int _ _⟩
            have h0 : (0 : Int) ≤ (i : Int) := by omega
            simp [Instr.index, asIntOf, run_underlying (eDesc_eq hd), h0, hlt', hg]
      | sstr hs =>
        rename_i l s
        have h2 : (match sNth l i with | some b => some (eMkX .u8 b) | none => none) = some z := h
        clear h
        cases hb : sNth l i with
        | none => rw [hb] at h2; cases h2
        | some b =>
          rw [hb] at h2
          obtain rfl := Option.some.inj h2
          obtain ⟨x, hx, hlt0, hsn⟩ := sNth_ok hs hb
          rw [List.getElem?_map] at hx
          cases hc : s.data.toList[i]? with
          | none => rw [hc] at hx; cases hx
          | some c =>
            rw [hc] at hx
            obtain rfl := Option.some.inj hx
            rw [Array.getElem?_toList] at hc
            have hlt := (Array.getElem?_eq_some_iff.1 hc).1
            have hlt' : i < s.size := hlt
            have hg : s[i] = c := by
              have := (Array.getElem?_eq_some_iff.1 hc).2
              exact this
            refine ⟨.int .u8 c.toNat, ?_, eMkX_ok hsn (u8_wrap hlt0)⟩
            have h0 : (0 : Int) ≤ (i : Int) := by omega
            simp [Instr.index, asIntOf, run_underlying (eDesc_eq hd), h0, hlt', hg]
      | _ => cases h
  | _ => cases h

/-! Structs and rows built. -/
theorem ePlace_eq {fs : Array Field} (h : eFsOk P fs = true) : ∃ places : List (Nat × Nat), fs.toList.mapM (fun f => (P.info? f.type).map fun i => (f.offset, i.size)) = some places ∧ ∀ i p, ePlace P fs i = some p → places[i]? = some p := by
  unfold eFsOk at h
  rw [List.all_eq_true] at h
  have hm : ∀ f ∈ fs.toList, ∃ j, eInfo P f.type = some j ∧ P.info? f.type = some j := fun f hf => by
    obtain ⟨j, hj⟩ := Option.isSome_iff_exists.1 (h f hf)
    exact ⟨j, hj, eInfo_eq hj⟩
  obtain ⟨r, hr⟩ : ∃ r, fs.toList.mapM (fun f => (P.info? f.type).map fun i => (f.offset, i.size)) = some r := by
    have key : ∀ l : List Field, (∀ f ∈ l, ∃ j, eInfo P f.type = some j ∧ P.info? f.type = some j) → ∃ r, l.mapM (fun f => (P.info? f.type).map fun i => (f.offset, i.size)) = some r := by
      intro l
      induction l with
      | nil => intro _; exact ⟨[], rfl⟩
      | cons f l ih =>
        intro hl
        obtain ⟨j, -, hj⟩ := hl f (List.mem_cons_self ..)
        obtain ⟨r, hr⟩ := ih fun g hg => hl g (List.mem_cons_of_mem _ hg)
        exact ⟨_, by rw [List.mapM_cons, hj, hr]; rfl⟩
    exact key _ hm
  refine ⟨r, hr, fun i p hp => ?_⟩
  unfold ePlace at hp
  rw [eNth_eq] at hp
  cases hf : fs.toList[i]? with
  | none => rw [hf] at hp; cases hp
  | some f =>
    rw [hf] at hp
    simp only at hp
    obtain ⟨j, h1, h2⟩ := hm f (List.mem_of_getElem? hf)
    rw [h1] at hp
    rw [← mapM_some_get hr i f hf, h2]
    exact hp
theorem eEvps_get (ρ : Operand → Value) (tm : ERg) : ∀ (ps : List (Nat × Operand)), (eEvps ps tm).length = ps.length ∧ ∀ (i : Nat) p q, (eEvps ps tm)[i]? = some p → (ps.map fun (x : Nat × Operand) => (x.1, ρ x.2))[i]? = some q → ∃ y ∈ ps, p = (y.1, (eEvC y.2).f tm) ∧ q = (y.1, ρ y.2)
  | [] => ⟨rfl, fun i p q h => by cases h⟩
  | y :: ps => ⟨congrArg (· + 1) (eEvps_get ρ tm ps).1, fun i p q h k => by
    cases i with
    | zero =>
      obtain rfl := Option.some.inj h
      obtain rfl := Option.some.inj k
      exact ⟨y, List.mem_cons_self .., rfl, rfl⟩
    | succ i =>
      obtain ⟨z, hz, e⟩ := (eEvps_get ρ tm ps).2 i p q h k
      exact ⟨z, List.mem_cons_of_mem _ hz, e⟩⟩
/-- A struct, an array. -/
theorem eBuild_run {t : TypeId} {ps : Array (Nat × Operand)} {tm : ERg} {z : EV} {ρ : Operand → Value} (h : eBuild P t ps tm = some z) (hρ : ∀ p ∈ ps.toList, VR β ((eEvC p.2).f tm) (ρ p.2)) (w : World) :
    ∃ c, (Instr.build t (ps.map fun (x : Nat × Operand) => (x.1, ρ x.2))).run P w = .ok c w ∧ VR β z c := by
  unfold eBuild at h
  cases hz : eZero P t with
  | agg zs =>
    rw [hz] at h
    simp only at h
    unfold eZero at hz
    cases hi : eInfo P t with
    | none => rw [hi] at hz; cases hz
    | some it =>
      rw [hi] at hz
      simp only at hz
      cases hzz : it.zero with
      | none => rw [hzz] at hz; cases hz
      | some zv =>
        rw [hzz] at hz
        have hzv : VR β (.agg zs) zv := by rw [← hz]; exact eVal_VR β zv
        have hzc : VRs β zs zv.cells.toList := hzv.cells fun e => by cases e
        have fill : ∀ (place place' : Nat → Option (Nat × Nat)) (l : List EV), (∀ i p, place i = some p → place' i = some p) → eFill place (eEvps ps.toList tm) zs = some l → ∃ b, Instr.fill place' zv.cells (ps.map fun (x : Nat × Operand) => (x.1, ρ x.2)).toList = some b ∧ VRs β l b.toList := by
          intro place place' l hp hl
          obtain ⟨b, g1, g2, -⟩ := eFill_run hp (ps := eEvps ps.toList tm) (qs := (ps.map fun (x : Nat × Operand) => (x.1, ρ x.2)).toList) (by rw [(eEvps_get ρ tm _).1]; simp) (fun i p q e1 e2 => by
            rw [Array.toList_map] at e2
            obtain ⟨y, hy, rfl, rfl⟩ := (eEvps_get ρ tm _).2 i p q e1 e2
            exact ⟨rfl, hρ y hy⟩) hzc hl
          exact ⟨b, g1, g2⟩
        cases hd : eDesc P t with
        | none => rw [hd] at h; cases h
        | some d =>
          rw [hd] at h
          cases d with
          | struct fs =>
            simp only at h
            cases hok : eFsOk P fs with
            | false => rw [hok] at h; cases h
            | true =>
              rw [hok] at h
              simp only at h
              cases hl : eFill (ePlace P fs) (eEvps ps.toList tm) zs with
              | none => rw [hl] at h; cases h
              | some l =>
                rw [hl] at h
                obtain rfl := Option.some.inj h
                obtain ⟨places, k1, k2⟩ := ePlace_eq hok
                obtain ⟨b, g1, g2⟩ := fill _ (places.toArray[·]?) l (fun i p hp => by simpa using k2 i p hp) hl
                refine ⟨.agg b, run_build w t _ b ?_, .agg g2⟩
                unfold Program.built
                rw [eInfo_eq hi, eDesc_eq hd]
                simp only [hzz, k1]
                exact g1
          | array n e =>
            simp only at h
            cases he : eInfo P e with
            | none => rw [he] at h; cases h
            | some ie =>
              rw [he] at h
              simp only at h
              cases hl : eFill (fun j => some (j * ie.size, ie.size)) (eEvps ps.toList tm) zs with
              | none => rw [hl] at h; cases h
              | some l =>
                rw [hl] at h
                obtain rfl := Option.some.inj h
                obtain ⟨b, g1, g2⟩ := fill _ (fun j => some (j * ie.size, ie.size)) l (fun i p hp => hp) hl
                refine ⟨.agg b, run_build w t _ b ?_, .agg g2⟩
                unfold Program.built
                rw [eInfo_eq hi, eDesc_eq hd]
                simp only [hzz, eInfo_eq he]
                exact g1
          | _ => cases h
  | _ => rw [hz] at h; cases h
theorem eRepl_VRs {z : List EV} {a : Array Value} (h : VRs β z a.toList) : ∀ (n : Nat), VRs β (eRepl z n) ((Array.range (n * a.size)).map fun j => a[j % a.size]!).toList
  | 0 => by
    have e : eRepl z 0 = [] := rfl
    rw [e]
    simpa using VRs.nil
  | n + 1 => by
    have ih := eRepl_VRs h n
    have e : (List.range ((n + 1) * a.size)).map (fun j => a[j % a.size]!) = a.toList ++ (List.range (n * a.size)).map (fun j => a[j % a.size]!) := by
      rw [Nat.succ_mul, Nat.add_comm, List.range_add, List.map_append, List.map_map]
      congr 1
      · apply List.ext_getElem?
        intro i
        by_cases hi : i < a.size
        · simp [hi, Nat.mod_eq_of_lt hi]
        · simp [hi]
      · apply List.map_congr_left
        intro j _
        simp
    have ih' : VRs β (eRepl z n) ((List.range (n * a.size)).map fun j => a[j % a.size]!) := by simpa using ih
    have := h.app ih'
    rw [← e] at this
    have e2 : eRepl z (n + 1) = z ++ eRepl z n := rfl
    rw [e2]
    simpa using this
end
end Go.Proofs.YtjckpgcmfieaoaaGreatDoor
