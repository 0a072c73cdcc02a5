/-
  XDag's law with phases: what holds of the world may turn with each of some operations (stores), that may stand anywhere in the order.
-/
import Derived.Test.YtjckpgcmfieaoaaGreatDoorDag
set_option linter.unusedVariables false
set_option linter.unusedSimpArgs false
namespace Go.Proofs.YtjckpgcmfieaoaaGreatDoor
open Go.RowKit

/-- Worlds that need not be told apart. -/
def AnyW (_ _ : World) : Prop := True
theorem AnyW.all (w w' : World) : AnyW w w' := trivial
/-- Values that are known beforehand. -/
def isV (xs : List Value) (i : Nat) (v : Value) (_ : World) : Prop := v = xs.getD i undef
/-- In all phases: draws alone; new blocks alone. -/
def QS (wo : World) (_ : Nat) (w : World) : Prop := Q wo w
section
variable {P : Program} {l : List Oper} {A : List (List Nat)} {L : List (List (Nat × Nat))} {n : Nat}

/-- How many of the operations st are done. -/
def phaseOf (st : List Nat) (listed : Array Bool) : Nat := st.countP fun s => listed.getD s false
def stB (l : List Oper) (st : List Nat) : Bool := decide st.Nodup && st.all fun s => decide (s < l.length)
/-- From which phase to which an operation may go. -/
def transOf (A : List (List Nat)) (st : List Nat) (i : Nat) : List (Nat × Nat) :=
  (List.range (st.countP (fun s => s != i && !(A.getD s []).contains i) + 1)).filterMap fun k =>
    if st.countP (fun s => (A.getD i []).contains s) ≤ k then some (k, k + if st.contains i then 1 else 0) else none
theorem trans_mem {st : List Nat} {i : Nat} {listed : Array Bool} (hst : stB l st = true) (hun : listed.getD i false = false) (h0 : ∀ k ∈ A.getD i [], listed.getD k false = true) (h1 : ∀ s, s ∈ st → i ∈ A.getD s [] → listed.getD s false = false) :
    (phaseOf st listed, phaseOf st listed + if st.contains i then 1 else 0) ∈ transOf A st i := by
  unfold transOf
  rw [List.mem_filterMap]
  refine ⟨phaseOf st listed, List.mem_range.2 ?_, ?_⟩
  · refine Nat.lt_succ_of_le (List.countP_mono_left fun s hs hl => ?_)
    simp only [Bool.and_eq_true, bne_iff_ne, ne_eq, Bool.not_eq_true']
    refine ⟨?_, ?_⟩
    · rintro rfl
      rw [hun] at hl
      cases hl
    · cases hc : (A.getD s []).contains i with
      | false => rfl
      | true =>
        have := h1 s hs (List.contains_iff_mem.1 hc)
        rw [this] at hl
        cases hl
  · rw [if_pos]
    exact List.countP_mono_left fun s _ hs => h0 s (List.contains_iff_mem.1 hs)
theorem phase_all {st : List Nat} {listed : Array Bool} (hst : stB l st = true) (all : ∀ i, i < l.length → listed.getD i false = true) : phaseOf st listed = st.length := by
  unfold stB at hst
  simp only [Bool.and_eq_true, List.all_eq_true, decide_eq_true_eq] at hst
  exact List.countP_eq_length.2 fun s hs => all s (hst.2 s hs)
theorem phase_set {st : List Nat} {listed : Array Bool} {i : Nat} (hst : stB l st = true) (hs : i < listed.size) (hun : listed.getD i false = false) : phaseOf st (listed.setIfInBounds i true) = phaseOf st listed + if st.contains i then 1 else 0 := by
  unfold stB at hst
  simp only [Bool.and_eq_true, decide_eq_true_eq] at hst
  have hn := hst.1
  clear hst
  unfold phaseOf
  induction st with
  | nil => rfl
  | cons s st ih =>
    have ih := ih hn.tail
    rw [List.countP_cons, List.countP_cons, ih]
    by_cases h : s = i
    · subst h
      have hni : st.contains s = false := by
        cases hc : st.contains s with
        | false => rfl
        | true => exact absurd (List.contains_iff_mem.1 hc) (List.nodup_cons.1 hn).1
      have h1 : (listed.setIfInBounds s true).getD s false = true := getD_set_self hs
      rw [h1, hun, hni]
      simp
    · have h1 : (listed.setIfInBounds i true).getD s false = listed.getD s false := getD_set_ne false (fun e => h e.symm)
      rw [h1]
      have h2 : (s :: st).contains i = st.contains i := by
        rw [List.contains_cons]
        have : (i == s) = false := by simpa using fun e => h e.symm
        rw [this, Bool.false_or]
      rw [h2]
      omega

/-- One operation's step. -/
def DagStepP (P : Program) (a0 : Act) (S : Nat → World → Prop) (R : World → World → Prop) (Φ : Nat → Value → World → Prop) (i : Nat) (o : Oper) (Li : List (Nat × Nat)) (Ti : List (Nat × Nat)) : Prop :=
  ∀ t ∈ Ti, ∀ (vals : Nat → Value) (w : World), S t.1 w → (∀ p ∈ Li, Φ p.1 (vals p.1) w) →
    match o.guard with
    | none => opRun P o (putL a0 vals Li).eval w fun v w' => R w w' ∧ S t.2 w' ∧ Φ i v w'
    | some (g, b) => Φ g (vals g) w → (vals g = .bool b → opRun P o (putL a0 vals Li).eval w fun v w' => R w w' ∧ S t.2 w' ∧ Φ i v w') ∧ (vals g ≠ .bool b → S t.2 w ∧ Φ i undef w)
/-- The steps of all. -/
def DagStepsP (P : Program) (a0 : Act) (S : Nat → World → Prop) (R : World → World → Prop) (Φ : Nat → Value → World → Prop) : Nat → List Oper → List (List (Nat × Nat)) → List (List (Nat × Nat)) → Prop
  | _, [], _, _ => True
  | i, o :: os, L, T => DagStepP P a0 S R Φ i o (L.headD []) (T.headD []) ∧ DagStepsP P a0 S R Φ (i + 1) os L.tail T.tail
theorem DagStepsP.nil {a0 : Act} {S : Nat → World → Prop} {R : World → World → Prop} {Φ : Nat → Value → World → Prop} {i : Nat} {L T : List (List (Nat × Nat))} : DagStepsP P a0 S R Φ i [] L T := trivial
theorem DagStepsP.at {a0 : Act} {S : Nat → World → Prop} {R : World → World → Prop} {Φ : Nat → Value → World → Prop} : ∀ {os : List Oper} {L T : List (List (Nat × Nat))} {k : Nat}, DagStepsP P a0 S R Φ k os L T → ∀ (i : Nat) o, os[i]? = some o → DagStepP P a0 S R Φ (k + i) o (L.getD i []) (T.getD i [])
  | [], _, _, _, _, _, _, h => by simp at h
  | o :: os, L, T, k, h, 0, o', he => by
    simp only [List.getElem?_cons_zero, Option.some.injEq] at he
    subst he
    have := h.1
    cases L <;> cases T <;> exact this
  | o :: os, L, T, k, h, i + 1, o', he => by
    have := DagStepsP.at h.2 i o' (by simpa using he)
    rw [show k + (i + 1) = k + 1 + i by omega]
    cases L <;> cases T <;> exact this
theorem opRun_mono {o : Oper} {ρ : Operand → Value} {w : World} {K K' : Value → World → Prop} (h : opRun P o ρ w K) (k : ∀ v w', K v w' → K' v w') : opRun P o ρ w K' := by
  unfold opRun at h ⊢
  generalize (execOp ρ o).run P w = r at h ⊢
  cases r with
  | ok n w' =>
    cases n <;> simp only at h ⊢
    · exact k _ _ h
    · exact k _ _ h
    · refine h.mono fun e w'' he => ?_
      obtain ⟨v, hv, hk⟩ := he
      exact ⟨v, hv, k _ _ hk⟩
  | halt x w' => simp only at h
/-- A step without a guard that stands in one phase alone. -/
theorem DagStepsP.one {a0 : Act} {S : Nat → World → Prop} {R : World → World → Prop} {Φ : Nat → Value → World → Prop} {i : Nat} {o : Oper} {os : List Oper} {Li : List (Nat × Nat)} {L T : List (List (Nat × Nat))} {k k' : Nat} (hg : o.guard = none)
    (h : ∀ (vals : Nat → Value) (w : World), S k w → Prem Φ vals w Li → opRun P o (putL a0 vals Li).eval w fun v w' => R w w' ∧ S k' w' ∧ Φ i v w')
    (r : DagStepsP P a0 S R Φ (i + 1) os L T) : DagStepsP P a0 S R Φ i (o :: os) (Li :: L) ([(k, k')] :: T) :=
  ⟨fun t ht vals w hS hp => by
    obtain rfl := List.mem_singleton.1 ht
    rw [hg]
    exact h vals w hS (prem_of hp), r⟩
/-- A step without a guard in whatever phase. -/
theorem DagStepsP.any {a0 : Act} {S : Nat → World → Prop} {R : World → World → Prop} {Φ : Nat → Value → World → Prop} {i : Nat} {o : Oper} {os : List Oper} {Li Ti : List (Nat × Nat)} {L T : List (List (Nat × Nat))} (hg : o.guard = none)
    (h : ∀ t ∈ Ti, ∀ (vals : Nat → Value) (w : World), S t.1 w → Prem Φ vals w Li → opRun P o (putL a0 vals Li).eval w fun v w' => R w w' ∧ S t.2 w' ∧ Φ i v w')
    (r : DagStepsP P a0 S R Φ (i + 1) os L T) : DagStepsP P a0 S R Φ i (o :: os) (Li :: L) (Ti :: T) :=
  ⟨fun t ht vals w hS hp => by
    rw [hg]
    exact h t ht vals w hS (prem_of hp), r⟩
/-- An operation that only computes, in whatever phase: its value by its operands alone. -/
theorem DagStepsP.pure {a0 : Act} {S : Nat → World → Prop} {R : World → World → Prop} {Φ : Nat → Value → World → Prop} {i : Nat} {o : Oper} {os : List Oper} {Li Ti : List (Nat × Nat)} {L T : List (List (Nat × Nat))} (hg : o.guard = none) (refl : ∀ w, R w w) (hT : (Ti.all fun t => t.1 == t.2) = true)
    (h : ∀ (vals : Nat → Value) (w : World), Prem Φ vals w Li → opRun P o (putL a0 vals Li).eval w fun v w' => w' = w ∧ Φ i v w)
    (r : DagStepsP P a0 S R Φ (i + 1) os L T) : DagStepsP P a0 S R Φ i (o :: os) (Li :: L) (Ti :: T) :=
  ⟨fun t ht vals w hS hp => by
    rw [hg]
    have e : t.1 = t.2 := by simpa using List.all_eq_true.1 hT t ht
    rw [e] at hS
    exact opRun_mono (h vals w (prem_of hp)) fun v w' he => by
      obtain ⟨rfl, hv⟩ := he
      exact ⟨refl _, hS, hv⟩, r⟩

structure DagInvP (l : List Oper) (A : List (List Nat)) (st : List Nat) (a0 : Act) (S : Nat → World → Prop) (Φ : Nat → Value → World → Prop) (listed : Array Bool) (a : Act) (w : World) (vals : Nat → Value) : Prop where
  size : listed.size = l.length
  s : S (phaseOf st listed) w
  phi : ∀ i, listed.getD i false = true → Φ i (vals i) w
  shut : ∀ i, listed.getD i false = true → ∀ k ∈ A.getD i [], listed.getD k false = true
  defers : a.defers = a0.defers
  tmps : a.tmps.size = a0.tmps.size
  other : ∀ t, (∀ i, listed.getD i false = true → slotOf l i ≠ some t) → a.tmps[t]? = a0.tmps[t]?
  at_ : ∀ i t, listed.getD i false = true → slotOf l i = some t → a.tmps[t]? = some (vals i)

theorem dagP_any (D : Dag l A L n) {st : List Nat} (hst : stB l st = true) {TS : List (List (Nat × Nat))} (hTS : (List.range l.length).map (transOf A st) = TS) {a0 : Act} (hn : a0.tmps.size = n) {S : Nat → World → Prop} {R : World → World → Prop} {Φ : Nat → Value → World → Prop} {Q : Exit → Act → World → Prop}
    (refl : ∀ w, R w w) (stable : ∀ i v w w' k k', S k w → S k' w' → R w w' → Φ i v w → Φ i v w') (steps : DagStepsP P a0 S R Φ 0 l L TS)
    (fin : ∀ vals w, S st.length w → (∀ i, i < l.length → Φ i (vals i) w) → Q .normal (putL a0 vals (allSlots l)) w) :
    ∀ (fuel : Nat) (listed : Array Bool) (a : Act) (w : World) (vals : Nat → Value), DagInvP l A st a0 S Φ listed a w vals → (List.range l.length).countP (fun i => !listed.getD i false) ≤ fuel → wpAny P .any l.toArray Q fuel listed a w := by
  have whole : ∀ (listed : Array Bool) (a : Act) (w : World) (vals : Nat → Value), DagInvP l A st a0 S Φ listed a w vals → Region.ready .any l.toArray listed = [] → Q .normal a w := by
    intro listed a w vals I hr
    -- all are listed
    have all : ∀ (i : Nat), i < l.length → listed.getD i false = true := by
      intro i
      induction i using Nat.strongRecOn with
      | _ i ih =>
        intro hi
        cases hl : listed.getD i false with
        | true => rfl
        | false =>
          exfalso
          have : i ∈ Region.ready .any l.toArray listed := by
            rw [mem_ready]
            have ho : l[i]? = some l[i] := List.getElem?_eq_getElem hi
            refine ⟨?_, l[i], by simp [hi], fun e he hb => ?_⟩
            · rw [Array.getD_eq_getD_getElem?] at hl ⊢
              have : i < listed.size := by rw [I.size]; exact hi
              rw [Array.getElem?_eq_getElem this] at hl ⊢
              simpa using hl
            · have h1 := (D.edge i _ ho e he hb).1
              have h2 := (D.anc i _ ho _ h1).1
              exact ih _ h2 (by omega)
          rw [hr] at this
          cases this
    have ha : a = putL a0 vals (allSlots l) := by
      refine act_eq (by rw [putL_defers]; exact I.defers) fun t => ?_
      by_cases h : ∃ i, slotOf l i = some t
      · obtain ⟨i, hi⟩ := h
        have hil := (slot_lt hi).1
        rw [I.at_ i t (all i hil) hi]
        have hm : (i, t) ∈ allSlots l := by
          unfold allSlots
          rw [List.mem_filterMap]
          exact ⟨i, List.mem_range.2 hil, by rw [hi]; rfl⟩
        refine (putL_at vals (allSlots l) a0 (i, t) hm (fun q hq e => ?_) (by rw [hn]; exact (D.slot i t hi).1)).symm
        unfold allSlots at hq
        rw [List.mem_filterMap] at hq
        obtain ⟨j, _, hj⟩ := hq
        rw [Option.map_eq_some_iff] at hj
        obtain ⟨t', ht', rfl⟩ := hj
        simp only at e
        subst e
        exact (D.slot i _ hi).2 j ht'
      · rw [I.other t fun i _ hs => h ⟨i, hs⟩, putL_other]
        intro p hp e
        unfold allSlots at hp
        rw [List.mem_filterMap] at hp
        obtain ⟨j, _, hj⟩ := hp
        rw [Option.map_eq_some_iff] at hj
        obtain ⟨t', ht', rfl⟩ := hj
        exact h ⟨j, by rw [ht', ← e]⟩
    rw [ha]
    exact fin vals w (by have := I.s; rwa [phase_all hst all] at this) fun i hi => I.phi i (all i hi)
  intro fuel
  induction fuel with
  | zero =>
    intro listed a w vals I hc
    have hr : Region.ready .any l.toArray listed = [] := by
      rw [List.eq_nil_iff_forall_not_mem]
      intro i hi
      obtain ⟨h0, o, ho, _⟩ := mem_ready.1 hi
      have hil : i < l.length := by simpa using (Array.getElem?_eq_some_iff.1 ho).1
      have : (List.range l.length).countP (fun i => !listed.getD i false) = 0 := by omega
      rw [List.countP_eq_zero] at this
      have := this i (List.mem_range.2 hil)
      rw [Array.getD_eq_getD_getElem?] at h0 this
      have hs : i < listed.size := by rw [I.size]; exact hil
      rw [Array.getElem?_eq_getElem hs] at h0 this
      simp at h0 this
      rw [h0] at this
      cases this
    exact ⟨hr, whole listed a w vals I hr⟩
  | succ fuel ih =>
    intro listed a w vals I hc
    refine ⟨fun hr => whole listed a w vals I hr, fun i hi => ?_⟩
    obtain ⟨h0, o, ho, hall⟩ := mem_ready.1 hi
    have hil : i < l.length := by simpa using (Array.getElem?_eq_some_iff.1 ho).1
    have hs : i < listed.size := by rw [I.size]; exact hil
    have hol : l[i]? = some o := by simpa using ho
    have hun : listed.getD i false = false := by
      rw [Array.getD_eq_getD_getElem?] at h0 ⊢
      rw [Array.getElem?_eq_getElem hs] at h0 ⊢
      simpa using h0
    have hanc : ∀ k ∈ A.getD i [], listed.getD k false = true := by
      intro k hk
      obtain ⟨_, e, he, hb, h⟩ := D.anc i o hol k hk
      have h1 := hall e he hb
      rcases h with rfl | h
      · exact h1
      · exact I.shut _ h1 k h
    -- what it looks at is as in the small frame
    have hlook : ∀ t ∈ o.looksAt l.toArray, a.tmps[t]? = (putL a0 vals (L.getD i [])).tmps[t]? := by
      intro t ht
      by_cases h : ∃ j, listed.getD j false = true ∧ slotOf l j = some t
      · obtain ⟨j, hj, hjt⟩ := h
        rcases D.look i o hol t ht j hjt with h1 | ⟨h1, h2⟩
        · have := I.shut j hj i h1
          rw [hun] at this
          cases this
        · rw [I.at_ j t hj hjt]
          refine (putL_at vals _ a0 (j, t) h2 (fun q hq e => ?_) (by rw [hn]; exact (D.slot j t hjt).1)).symm
          have := (D.lis i o hol q hq).2
          rw [e] at this
          exact (D.slot j t hjt).2 _ this
      · rw [I.other t fun j hj hs => h ⟨j, hj, hs⟩, putL_other]
        intro p hp e
        obtain ⟨h1, h2⟩ := D.lis i o hol p hp
        exact h ⟨p.1, hanc _ h1, by rw [h2, e]⟩
    have hcongr : execOp a.eval o = execOp (putL a0 vals (L.getD i [])).eval o := by
      refine execOp_congr o (D.sel i o hol) fun x hx => ?_
      cases x with
      | tmp t =>
        have := hlook t (List.mem_append_left _ (List.mem_filterMap.2 ⟨.tmp t, by simpa using hx, rfl⟩))
        simp only [Act.eval, Array.getD_eq_getD_getElem?, this]
      | _ => rfl
    have hstep := steps.at i o hol
    rw [Nat.zero_add] at hstep
    have hTi := trans_mem (A := A) (st := st) hst hun (fun k hk => hanc k hk) (fun s hs hi => by
      cases hl : listed.getD s false with
      | false => rfl
      | true => have := I.shut s hl i hi; rw [hun] at this; cases this)
    have hTS' : TS.getD i [] = transOf A st i := by
      rw [← hTS, List.getD_eq_getElem?_getD, List.getElem?_map, List.getElem?_range hil]
      rfl
    have hprem := hstep _ (by rw [hTS']; exact hTi) vals w I.s fun p hp => I.phi _ (hanc _ (D.lis i o hol p hp).1)
    -- going on
    have next : ∀ v w', R w w' → S (phaseOf st listed + if st.contains i then 1 else 0) w' → Φ i v w' → wpAny P .any l.toArray Q fuel (listed.setIfInBounds i true) (a.put o.dst v) w' := by
      intro v w' hR hS hΦ
      have hsl : slotOf l i = o.dst := by unfold slotOf; rw [hol]; rfl
      refine ih (listed.setIfInBounds i true) (a.put o.dst v) w' (fun j => if j = i then v else vals j) ⟨?_, by rw [phase_set hst hs hun]; exact hS, ?_, ?_, ?_, ?_, ?_, ?_⟩ ?_
      · rw [Array.size_setIfInBounds]; exact I.size
      · intro j hj
        rcases (getD_set_iff hs).1 hj with rfl | hj'
        · simpa using hΦ
        · have hne : j ≠ i := by rintro rfl; rw [hun] at hj'; cases hj'
          simp only [if_neg hne]
          exact stable j _ w w' _ _ I.s hS hR (I.phi j hj')
      · intro j hj k hk
        refine (getD_set_iff hs).2 ?_
        rcases (getD_set_iff hs).1 hj with rfl | hj'
        · exact .inr (hanc k hk)
        · exact .inr (I.shut j hj' k hk)
      · cases o.dst <;> exact I.defers
      · cases hd : o.dst with
        | none => exact I.tmps
        | some d => simpa [Act.put] using I.tmps
      · intro t ht
        have h1 := I.other t fun j hj => ht j ((getD_set_iff hs).2 (.inr hj))
        have h2 := ht i ((getD_set_iff hs).2 (.inl rfl))
        rw [hsl] at h2
        cases hd : o.dst with
        | none => exact h1
        | some d =>
          have hne : d ≠ t := by rintro rfl; exact h2 hd
          simpa [Act.put, Array.getElem?_setIfInBounds_ne hne] using h1
      · intro j t hj hjt
        rcases (getD_set_iff hs).1 hj with rfl | hj'
        · rw [hsl] at hjt
          rw [hjt, if_pos rfl]
          have : t < a.tmps.size := by rw [I.tmps, hn]; exact (D.slot j t (by rw [hsl, hjt])).1
          simp [Act.put, this]
        · have hne : j ≠ i := by rintro rfl; rw [hun] at hj'; cases hj'
          rw [if_neg hne]
          have h1 := I.at_ j t hj' hjt
          cases hd : o.dst with
          | none => exact h1
          | some d =>
            have hne2 : d ≠ t := by
              rintro rfl
              exact hne ((D.slot i d (by rw [hsl, hd])).2 j hjt)
            simpa [Act.put, Array.getElem?_setIfInBounds_ne hne2] using h1
      · have h1 : (List.range l.length).countP (fun j => !(listed.setIfInBounds i true).getD j false) < (List.range l.length).countP (fun j => !listed.getD j false) := by
          have hmem : i ∈ List.range l.length := List.mem_range.2 hil
          obtain ⟨s, r, hsr⟩ := List.append_of_mem hmem
          rw [hsr, List.countP_append, List.countP_append, List.countP_cons, List.countP_cons]
          have m : ∀ xs : List Nat, xs.countP (fun j => !(listed.setIfInBounds i true).getD j false) ≤ xs.countP (fun j => !listed.getD j false) := by
            intro xs
            refine List.countP_mono_left fun j _ hj => ?_
            cases h : listed.getD j false with
            | false => rfl
            | true => rw [(getD_set_iff hs).2 (.inr h)] at hj; cases hj
          have m1 := m s
          have m2 := m r
          rw [getD_set_self hs, hun]
          simp only [Bool.not_true, Bool.not_false, Bool.false_eq_true, if_false, if_true]
          omega
        omega
    -- the operation itself
    unfold wpOp
    rw [ho]
    simp only
    cases hg : o.guard with
    | none =>
      rw [hg] at hprem
      rw [if_pos (by unfold Region.wanted; rw [hg])]
      exact .inl (opRun_wp hcongr hprem fun v w' h => next v w' h.1 h.2.1 h.2.2)
    | some gb =>
      obtain ⟨g, b⟩ := gb
      rw [hg] at hprem
      obtain ⟨hgA, t, hgt⟩ := D.guard i o hol g b hg
      have hgl := hanc g hgA
      have hat := I.at_ g t hgl hgt
      obtain ⟨p1, p2⟩ := hprem (I.phi g hgl)
      have hy : Region.wanted o (yielded l.toArray a.tmps) = true ↔ vals g = .bool b := by
        unfold Region.wanted yielded
        rw [hg]
        have e1 : (l.toArray[g]?).bind (·.dst) = some t := by simpa [slotOf] using hgt
        simp only [e1, Option.bind_some, hat]
        constructor
        · intro h
          split at h
          · rename_i b' hb'
            simp only [Option.some.injEq] at hb'
            simp at h
            rw [hb', h]
          · simp at h
        · intro h
          rw [h]
          simp
      by_cases hw : Region.wanted o (yielded l.toArray a.tmps) = true
      · rw [if_pos hw]
        exact .inl (opRun_wp hcongr (p1 (hy.1 hw)) fun v w' h => next v w' h.1 h.2.1 h.2.2)
      · rw [if_neg hw]
        obtain ⟨q1, q2⟩ := p2 fun h => hw (hy.2 h)
        exact next undef w (refl w) q1 q2

/-- THE LAW. -/
theorem wp_dagP {id : Nat} {a : Act} {w : World} {Q : Exit → Act → World → Prop} (hm : P.follows .mixedOrders = true) (L : List (List (Nat × Nat))) (n : Nat) (hn : a.tmps.size = n) (hL : dagB l (ancL l []) L n = true) (A : List (Nat × Nat)) (hA : allSlots l = A)
    (st : List Nat) (hst : stB l st = true) (TS : List (List (Nat × Nat))) (hTS : (List.range l.length).map (transOf (ancL l []) st) = TS)
    (S : Nat → World → Prop) (R : World → World → Prop) (Φ : Nat → Value → World → Prop) (hS : S 0 w.drew) (refl : ∀ w, R w w) (stable : ∀ i v w w' k k', S k w → S k' w' → R w w' → Φ i v w → Φ i v w')
    (steps : DagStepsP P a S R Φ 0 l L TS) (fin : ∀ vals w, S st.length w → (∀ i, i < l.length → Φ i (vals i) w) → Q .normal (putL a vals A) w) :
    (Code.region id l.toArray true).wp P Q a w := by
  subst hA
  refine wp_region_any hm ?_
  have h0 : phaseOf st (Array.replicate l.length false) = 0 := List.countP_eq_zero.2 fun s _ h => by rw [none_listed] at h; cases h
  refine dagP_any (dag_of hL) hst hTS hn refl stable steps fin _ _ a _ (fun _ => undef) ⟨by simp, by rw [List.size_toArray, h0]; exact hS, ?_, ?_, rfl, rfl, fun _ _ => rfl, ?_⟩ ?_
  · intro i hi; rw [none_listed] at hi; cases hi
  · intro i hi; rw [none_listed] at hi; cases hi
  · intro i t hi; rw [none_listed] at hi; cases hi
  · refine Nat.le_trans List.countP_le_length ?_
    simp

end
end Go.Proofs.YtjckpgcmfieaoaaGreatDoor
