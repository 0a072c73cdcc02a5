/-
  A region that draws its order, by invariants: each operation is shown once, out of what is known of the operations that it looks at; whatever the order is.
-/
import Derived.Test.YtjckpgcmfieaoaaGreatDoorMaa
import Derived.Orders
set_option linter.unusedVariables false
set_option linter.unusedSimpArgs false
namespace Go.Proofs.YtjckpgcmfieaoaaGreatDoor
open Go.RowKit

/-- One operation by itself: what its value, and the world behind it, fulfil. -/
def opRun (P : Program) (o : Oper) (ρ : Operand → Value) (w : World) (K : Value → World → Prop) : Prop :=
  match (execOp ρ o).run P w with
  | .ok (.value v) w' => K v w'
  | .ok .skip w' => K undef w'
  | .ok (.enter f args) w' => Calls P f args w' fun e w'' => ∃ v, e = .returned v ∧ K v w''
  | _ => False
theorem opRun_wp {P : Program} {o : Oper} {a : Act} {ρ : Operand → Value} {w : World} {K : Value → World → Prop} {K' : Act → World → Prop} {Q : Exit → Act → World → Prop} (he : execOp a.eval o = execOp ρ o)
    (h : opRun P o ρ w K) (hk : ∀ v w', K v w' → K' (a.put o.dst v) w') : o.wp P a w K' Q := by
  unfold opRun at h
  unfold Oper.wp
  rw [he]
  generalize (execOp ρ o).run P w = r at h ⊢
  cases r with
  | ok n w' =>
    cases n <;> simp only at h <;> simp only [Oper.upon]
    · exact hk _ _ h
    · exact hk _ _ h
    · refine h.mono fun e w'' he => ?_
      obtain ⟨v, rfl, hv⟩ := he
      exact hk _ _ hv
  | halt x w' => simp only at h

/-- Values laid into a frame: of operation p.1, into slot p.2. -/
def putL (a : Act) (vals : Nat → Value) : List (Nat × Nat) → Act
  | [] => a
  | p :: r => putL (a.put (some p.2) (vals p.1)) vals r
theorem putL_defers (vals : Nat → Value) : ∀ (L : List (Nat × Nat)) (a : Act), (putL a vals L).defers = a.defers
  | [], _ => rfl
  | p :: r, a => putL_defers vals r _
theorem putL_other (vals : Nat → Value) : ∀ (L : List (Nat × Nat)) (a : Act) (t : Nat), (∀ p ∈ L, p.2 ≠ t) → (putL a vals L).tmps[t]? = a.tmps[t]?
  | [], _, _, _ => rfl
  | p :: r, a, t, h => by
    rw [putL, putL_other vals r _ t fun q hq => h q (List.mem_cons_of_mem _ hq)]
    have := h p (List.mem_cons_self ..)
    simp [Act.put, Array.getElem?_setIfInBounds_ne this]
theorem putL_at (vals : Nat → Value) : ∀ (L : List (Nat × Nat)) (a : Act) (p : Nat × Nat), p ∈ L → (∀ q ∈ L, q.2 = p.2 → q.1 = p.1) → p.2 < a.tmps.size → (putL a vals L).tmps[p.2]? = some (vals p.1)
  | [], _, _, h, _, _ => by cases h
  | q :: r, a, p, h, hu, hs => by
    rw [putL]
    by_cases hr : ∃ q' ∈ r, q'.2 = p.2
    · obtain ⟨q', hq', e⟩ := hr
      have e1 := hu q' (List.mem_cons_of_mem _ hq') e
      have hq2 : p ∈ r := by
        have : q' = p := Prod.ext e1 e
        exact this ▸ hq'
      exact putL_at vals r _ p hq2 (fun q hq => hu q (List.mem_cons_of_mem _ hq)) (by simpa [Act.put] using hs)
    · have hp : p = q := by
        rcases List.mem_cons.1 h with h | h
        · exact h
        · exact absurd ⟨p, h, rfl⟩ hr
      rw [putL_other vals r _ p.2 fun q' hq' e => hr ⟨q', hq', e⟩, ← hp]
      simp [Act.put, hs]

/-- What an operation waits for, directly or through others. -/
def ancL : List Oper → List (List Nat) → List (List Nat)
  | [], acc => acc
  | o :: r, acc => ancL r (acc ++ [((o.after.toList.filter (Region.binds .any)).flatMap fun e => e.on :: acc.getD e.on []).foldl (fun s k => if s.contains k then s else k :: s) []])
def slotOf (l : List Oper) (j : Nat) : Option Nat := (l[j]?).bind (·.dst)
def looks (l : List Oper) (o : Oper) : List Nat := o.looksAt l.toArray
/-- The region's form is fit for the law: L tells, of each operation, whose values it looks at. -/
def dagB (l : List Oper) (A : List (List Nat)) (L : List (List (Nat × Nat))) (n : Nat) : Bool :=
  (List.range l.length).all fun i => match l[i]? with
    | none => true
    | some o =>
      -- its edges
      (o.after.toList.all fun e => !Region.binds .any e || ((A.getD i []).contains e.on && (A.getD e.on []).all fun k => (A.getD i []).contains k)) &&
      ((A.getD i []).all fun k => o.after.toList.any fun e => Region.binds .any e && (k == e.on || (A.getD e.on []).contains k)) &&
      ((A.getD i []).all fun k => k < i) &&
      -- what it looks at
      ((looks l o).all fun t => (List.range l.length).all fun j => slotOf l j != some t || (A.getD j []).contains i || ((A.getD i []).contains j && (L.getD i []).contains (j, t))) &&
      ((L.getD i []).all fun p => (A.getD i []).contains p.1 && slotOf l p.1 == some p.2) &&
      -- its own slot
      (match o.dst with
       | some t => t < n && (List.range l.length).all fun j => j == i || slotOf l j != some t
       | none => true) &&
      (match o.guard with | some (g, _) => (A.getD i []).contains g && (slotOf l g).isSome | none => true) &&
      (match o.op with | .select .. => false | _ => true)

section
variable {P : Program} {l : List Oper} {A : List (List Nat)} {L : List (List (Nat × Nat))} {n : Nat}

structure Dag (l : List Oper) (A : List (List Nat)) (L : List (List (Nat × Nat))) (n : Nat) : Prop where
  edge : ∀ (i : Nat) o, l[i]? = some o → ∀ e ∈ o.after, Region.binds .any e = true → e.on ∈ A.getD i [] ∧ ∀ k ∈ A.getD e.on [], k ∈ A.getD i []
  anc : ∀ (i : Nat) o, l[i]? = some o → ∀ k ∈ A.getD i [], k < i ∧ ∃ e ∈ o.after, Region.binds .any e = true ∧ (k = e.on ∨ k ∈ A.getD e.on [])
  look : ∀ (i : Nat) o, l[i]? = some o → ∀ t ∈ o.looksAt l.toArray, ∀ j, slotOf l j = some t → i ∈ A.getD j [] ∨ (j ∈ A.getD i [] ∧ (j, t) ∈ L.getD i [])
  lis : ∀ (i : Nat) o, l[i]? = some o → ∀ p ∈ L.getD i [], p.1 ∈ A.getD i [] ∧ slotOf l p.1 = some p.2
  slot : ∀ (i : Nat) t, slotOf l i = some t → t < n ∧ ∀ j, slotOf l j = some t → j = i
  guard : ∀ (i : Nat) o, l[i]? = some o → ∀ g b, o.guard = some (g, b) → g ∈ A.getD i [] ∧ ∃ t, slotOf l g = some t
  sel : ∀ (i : Nat) o, l[i]? = some o → ∀ cs b, o.op ≠ .select cs b
theorem slot_lt {i t : Nat} (h : slotOf l i = some t) : i < l.length ∧ ∃ o, l[i]? = some o ∧ o.dst = some t := by
  unfold slotOf at h
  cases ho : l[i]? with
  | none => rw [ho] at h; cases h
  | some o => rw [ho] at h; exact ⟨(List.getElem?_eq_some_iff.1 ho).1, o, rfl, h⟩
theorem dag_of (h : dagB l A L n = true) : Dag l A L n := by
  have key : ∀ (i : Nat) o, l[i]? = some o → _ := fun i o ho => by
    have hi : i < l.length := (List.getElem?_eq_some_iff.1 ho).1
    have := List.all_eq_true.1 h i (List.mem_range.2 hi)
    rw [ho] at this
    simp only [Bool.and_eq_true] at this
    exact this
  refine ⟨?_, ?_, ?_, ?_, ?_, ?_, ?_⟩
  · intro i o ho e he hb
    obtain ⟨⟨⟨⟨⟨⟨⟨k, _⟩, _⟩, _⟩, _⟩, _⟩, _⟩, _⟩ := key i o ho
    have := List.all_eq_true.1 k e (by simpa using he)
    simpa [hb] using this
  · intro i o ho k hk
    obtain ⟨⟨⟨⟨⟨⟨⟨_, k1⟩, k2⟩, _⟩, _⟩, _⟩, _⟩, _⟩ := key i o ho
    have h1 := List.all_eq_true.1 k1 k hk
    have h2 := List.all_eq_true.1 k2 k hk
    obtain ⟨e, he, hb⟩ := List.any_eq_true.1 h1
    simp only [Bool.and_eq_true, Bool.or_eq_true, beq_iff_eq, List.contains_iff_mem] at hb
    exact ⟨by simpa using h2, e, by simpa using he, hb⟩
  · intro i o ho t ht j hj
    obtain ⟨⟨⟨⟨⟨⟨⟨_, _⟩, _⟩, k⟩, _⟩, _⟩, _⟩, _⟩ := key i o ho
    have h1 := List.all_eq_true.1 k t ht
    have h2 := List.all_eq_true.1 h1 j (List.mem_range.2 (slot_lt hj).1)
    simpa [hj] using h2
  · intro i o ho p hp
    obtain ⟨⟨⟨⟨⟨⟨⟨_, _⟩, _⟩, _⟩, k⟩, _⟩, _⟩, _⟩ := key i o ho
    have := List.all_eq_true.1 k p hp
    simpa using this
  · intro i t hi
    obtain ⟨_, o, ho, hd⟩ := slot_lt hi
    obtain ⟨⟨⟨⟨⟨⟨⟨_, _⟩, _⟩, _⟩, _⟩, k⟩, _⟩, _⟩ := key i o ho
    rw [hd] at k
    simp only [Bool.and_eq_true, decide_eq_true_eq] at k
    refine ⟨k.1, fun j hj => ?_⟩
    have := List.all_eq_true.1 k.2 j (List.mem_range.2 (slot_lt hj).1)
    simpa [hj] using this
  · intro i o ho g b hg
    obtain ⟨⟨⟨⟨⟨⟨⟨_, _⟩, _⟩, _⟩, _⟩, _⟩, k⟩, _⟩ := key i o ho
    rw [hg] at k
    simp only [Bool.and_eq_true, List.contains_iff_mem] at k
    exact ⟨k.1, Option.isSome_iff_exists.1 k.2⟩
  · intro i o ho cs b hs
    obtain ⟨⟨⟨⟨⟨⟨⟨_, _⟩, _⟩, _⟩, _⟩, _⟩, _⟩, k⟩ := key i o ho
    rw [hs] at k
    cases k

/-- One operation's step. -/
def DagStep (P : Program) (a0 : Act) (S : World → Prop) (R : World → World → Prop) (Φ : Nat → Value → World → Prop) (i : Nat) (o : Oper) (Li : List (Nat × Nat)) : Prop :=
  ∀ (vals : Nat → Value) (w : World), S w → (∀ p ∈ Li, Φ p.1 (vals p.1) w) →
    match o.guard with
    | none => opRun P o (putL a0 vals Li).eval w fun v w' => R w w' ∧ S w' ∧ Φ i v w'
    | some (g, b) => Φ g (vals g) w → (vals g = .bool b → opRun P o (putL a0 vals Li).eval w fun v w' => R w w' ∧ S w' ∧ Φ i v w') ∧ (vals g ≠ .bool b → Φ i undef w)
/-- The steps of all. -/
def DagSteps (P : Program) (a0 : Act) (S : World → Prop) (R : World → World → Prop) (Φ : Nat → Value → World → Prop) : Nat → List Oper → List (List (Nat × Nat)) → Prop
  | _, [], _ => True
  | i, o :: os, L => DagStep P a0 S R Φ i o (L.headD []) ∧ DagSteps P a0 S R Φ (i + 1) os L.tail
theorem DagSteps.nil {a0 : Act} {S : World → Prop} {R : World → World → Prop} {Φ : Nat → Value → World → Prop} {i : Nat} {L : List (List (Nat × Nat))} : DagSteps P a0 S R Φ i [] L := trivial
theorem DagSteps.cons {a0 : Act} {S : World → Prop} {R : World → World → Prop} {Φ : Nat → Value → World → Prop} {i : Nat} {o : Oper} {os : List Oper} {Li : List (Nat × Nat)} {L : List (List (Nat × Nat))} (h : DagStep P a0 S R Φ i o Li)
    (k : DagSteps P a0 S R Φ (i + 1) os L) : DagSteps P a0 S R Φ i (o :: os) (Li :: L) := ⟨h, k⟩
/-- What is known of what an operation looks at. -/
def Prem (Φ : Nat → Value → World → Prop) (vals : Nat → Value) (w : World) : List (Nat × Nat) → Prop
  | [] => True
  | p :: r => Φ p.1 (vals p.1) w ∧ Prem Φ vals w r
theorem prem_of {Φ : Nat → Value → World → Prop} {vals : Nat → Value} {w : World} : ∀ {L : List (Nat × Nat)}, (∀ p ∈ L, Φ p.1 (vals p.1) w) → Prem Φ vals w L
  | [], _ => trivial
  | p :: r, h => ⟨h p (List.mem_cons_self ..), prem_of fun q hq => h q (List.mem_cons_of_mem _ hq)⟩
theorem DagSteps.plain {a0 : Act} {S : World → Prop} {R : World → World → Prop} {Φ : Nat → Value → World → Prop} {i : Nat} {o : Oper} {os : List Oper} {Li : List (Nat × Nat)} {L : List (List (Nat × Nat))} (hg : o.guard = none)
    (h : ∀ (vals : Nat → Value) (w : World), S w → Prem Φ vals w Li → opRun P o (putL a0 vals Li).eval w fun v w' => R w w' ∧ S w' ∧ Φ i v w')
    (k : DagSteps P a0 S R Φ (i + 1) os L) : DagSteps P a0 S R Φ i (o :: os) (Li :: L) :=
  ⟨fun vals w hS hp => by rw [hg]; exact h vals w hS (prem_of hp), k⟩
theorem opRun_value {o : Oper} {ρ : Operand → Value} {w : World} {v : Value} {w' : World} {K : Value → World → Prop} (h : (execOp ρ o).run P w = .ok (.value v) w') (k : K v w') : opRun P o ρ w K := by
  unfold opRun
  rw [h]
  exact k
theorem DagSteps.at {a0 : Act} {S : World → Prop} {R : World → World → Prop} {Φ : Nat → Value → World → Prop} : ∀ {os : List Oper} {L : List (List (Nat × Nat))} {k : Nat}, DagSteps P a0 S R Φ k os L → ∀ (i : Nat) o, os[i]? = some o → DagStep P a0 S R Φ (k + i) o (L.getD i [])
  | [], _, _, _, _, _, h => by simp at h
  | o :: os, L, k, h, 0, o', he => by
    simp only [List.getElem?_cons_zero, Option.some.injEq] at he
    subst he
    have := h.1
    cases L <;> exact this
  | o :: os, L, k, h, i + 1, o', he => by
    have := DagSteps.at h.2 i o' (by simpa using he)
    rw [show k + (i + 1) = k + 1 + i by omega]
    cases L <;> exact this

def allSlots (l : List Oper) : List (Nat × Nat) := (List.range l.length).filterMap fun i => (slotOf l i).map fun t => (i, t)

structure DagInv (l : List Oper) (A : List (List Nat)) (a0 : Act) (S : World → Prop) (Φ : Nat → Value → World → Prop) (listed : Array Bool) (a : Act) (w : World) (vals : Nat → Value) : Prop where
  size : listed.size = l.length
  s : S w
  phi : ∀ i, listed.getD i false = true → Φ i (vals i) w
  shut : ∀ i, listed.getD i false = true → ∀ k ∈ A.getD i [], listed.getD k false = true
  defers : a.defers = a0.defers
  tmps : a.tmps.size = a0.tmps.size
  other : ∀ t, (∀ i, listed.getD i false = true → slotOf l i ≠ some t) → a.tmps[t]? = a0.tmps[t]?
  at_ : ∀ i t, listed.getD i false = true → slotOf l i = some t → a.tmps[t]? = some (vals i)

theorem act_eq {a b : Act} (hd : a.defers = b.defers) (ht : ∀ t : Nat, a.tmps[t]? = b.tmps[t]?) : a = b := by
  cases a; cases b
  simp only at hd ht
  subst hd
  congr 1
  exact Array.ext_getElem? ht

theorem getD_set_self {listed : Array Bool} {i : Nat} (h : i < listed.size) : (listed.setIfInBounds i true).getD i false = true := by simp [h]
theorem getD_set_iff {listed : Array Bool} {i j : Nat} (h : i < listed.size) : (listed.setIfInBounds i true).getD j false = true ↔ j = i ∨ listed.getD j false = true := by
  by_cases e : i = j
  · subst e; simp [h]
  · rw [getD_set_ne false e]
    constructor
    · exact .inr
    · rintro (rfl | h)
      · exact absurd rfl e
      · exact h

theorem dag_any (D : Dag l A L n) {a0 : Act} (hn : a0.tmps.size = n) {S : World → Prop} {R : World → World → Prop} {Φ : Nat → Value → World → Prop} {Q : Exit → Act → World → Prop}
    (refl : ∀ w, R w w) (stable : ∀ i v w w', S w → S w' → R w w' → Φ i v w → Φ i v w') (steps : DagSteps P a0 S R Φ 0 l L)
    (fin : ∀ vals w, S w → (∀ i, i < l.length → Φ i (vals i) w) → Q .normal (putL a0 vals (allSlots l)) w) :
    ∀ (fuel : Nat) (listed : Array Bool) (a : Act) (w : World) (vals : Nat → Value), DagInv l A a0 S Φ listed a w vals → (List.range l.length).countP (fun i => !listed.getD i false) ≤ fuel → wpAny P .any l.toArray Q fuel listed a w := by
  have whole : ∀ (listed : Array Bool) (a : Act) (w : World) (vals : Nat → Value), DagInv l A a0 S Φ listed a w vals → Region.ready .any l.toArray listed = [] → Q .normal a w := by
    intro listed a w vals I hr
    -- all are listed
    have all : ∀ (i : Nat), i < l.length → listed.getD i false = true := by
      intro i
      induction i using Nat.strongRecOn with
      | _ i ih =>
        intro hi
        cases hl : listed.getD i false with
        | true => rfl
        | false =>
          exfalso
          have : i ∈ Region.ready .any l.toArray listed := by
            rw [mem_ready]
            have ho : l[i]? = some l[i] := List.getElem?_eq_getElem hi
            refine ⟨?_, l[i], by simp [hi], fun e he hb => ?_⟩
            · rw [Array.getD_eq_getD_getElem?] at hl ⊢
              have : i < listed.size := by rw [I.size]; exact hi
              rw [Array.getElem?_eq_getElem this] at hl ⊢
              simpa using hl
            · have h1 := (D.edge i _ ho e he hb).1
              have h2 := (D.anc i _ ho _ h1).1
              exact ih _ h2 (by omega)
          rw [hr] at this
          cases this
    have ha : a = putL a0 vals (allSlots l) := by
      refine act_eq (by rw [putL_defers]; exact I.defers) fun t => ?_
      by_cases h : ∃ i, slotOf l i = some t
      · obtain ⟨i, hi⟩ := h
        have hil := (slot_lt hi).1
        rw [I.at_ i t (all i hil) hi]
        have hm : (i, t) ∈ allSlots l := by
          unfold allSlots
          rw [List.mem_filterMap]
          exact ⟨i, List.mem_range.2 hil, by rw [hi]; rfl⟩
        refine (putL_at vals (allSlots l) a0 (i, t) hm (fun q hq e => ?_) (by rw [hn]; exact (D.slot i t hi).1)).symm
        unfold allSlots at hq
        rw [List.mem_filterMap] at hq
        obtain ⟨j, _, hj⟩ := hq
        rw [Option.map_eq_some_iff] at hj
        obtain ⟨t', ht', rfl⟩ := hj
        simp only at e
        subst e
        exact (D.slot i _ hi).2 j ht'
      · rw [I.other t fun i _ hs => h ⟨i, hs⟩, putL_other]
        intro p hp e
        unfold allSlots at hp
        rw [List.mem_filterMap] at hp
        obtain ⟨j, _, hj⟩ := hp
        rw [Option.map_eq_some_iff] at hj
        obtain ⟨t', ht', rfl⟩ := hj
        exact h ⟨j, by rw [ht', ← e]⟩
    rw [ha]
    exact fin vals w I.s fun i hi => I.phi i (all i hi)
  intro fuel
  induction fuel with
  | zero =>
    intro listed a w vals I hc
    have hr : Region.ready .any l.toArray listed = [] := by
      rw [List.eq_nil_iff_forall_not_mem]
      intro i hi
      obtain ⟨h0, o, ho, _⟩ := mem_ready.1 hi
      have hil : i < l.length := by simpa using (Array.getElem?_eq_some_iff.1 ho).1
      have : (List.range l.length).countP (fun i => !listed.getD i false) = 0 := by omega
      rw [List.countP_eq_zero] at this
      have := this i (List.mem_range.2 hil)
      rw [Array.getD_eq_getD_getElem?] at h0 this
      have hs : i < listed.size := by rw [I.size]; exact hil
      rw [Array.getElem?_eq_getElem hs] at h0 this
      simp at h0 this
      rw [h0] at this
      cases this
    exact ⟨hr, whole listed a w vals I hr⟩
  | succ fuel ih =>
    intro listed a w vals I hc
    refine ⟨fun hr => whole listed a w vals I hr, fun i hi => ?_⟩
    obtain ⟨h0, o, ho, hall⟩ := mem_ready.1 hi
    have hil : i < l.length := by simpa using (Array.getElem?_eq_some_iff.1 ho).1
    have hs : i < listed.size := by rw [I.size]; exact hil
    have hol : l[i]? = some o := by simpa using ho
    have hun : listed.getD i false = false := by
      rw [Array.getD_eq_getD_getElem?] at h0 ⊢
      rw [Array.getElem?_eq_getElem hs] at h0 ⊢
      simpa using h0
    have hanc : ∀ k ∈ A.getD i [], listed.getD k false = true := by
      intro k hk
      obtain ⟨_, e, he, hb, h⟩ := D.anc i o hol k hk
      have h1 := hall e he hb
      rcases h with rfl | h
      · exact h1
      · exact I.shut _ h1 k h
    -- what it looks at is as in the small frame
    have hlook : ∀ t ∈ o.looksAt l.toArray, a.tmps[t]? = (putL a0 vals (L.getD i [])).tmps[t]? := by
      intro t ht
      by_cases h : ∃ j, listed.getD j false = true ∧ slotOf l j = some t
      · obtain ⟨j, hj, hjt⟩ := h
        rcases D.look i o hol t ht j hjt with h1 | ⟨h1, h2⟩
        · have := I.shut j hj i h1
          rw [hun] at this
          cases this
        · rw [I.at_ j t hj hjt]
          refine (putL_at vals _ a0 (j, t) h2 (fun q hq e => ?_) (by rw [hn]; exact (D.slot j t hjt).1)).symm
          have := (D.lis i o hol q hq).2
          rw [e] at this
          exact (D.slot j t hjt).2 _ this
      · rw [I.other t fun j hj hs => h ⟨j, hj, hs⟩, putL_other]
        intro p hp e
        obtain ⟨h1, h2⟩ := D.lis i o hol p hp
        exact h ⟨p.1, hanc _ h1, by rw [h2, e]⟩
    have hcongr : execOp a.eval o = execOp (putL a0 vals (L.getD i [])).eval o := by
      refine execOp_congr o (D.sel i o hol) fun x hx => ?_
      cases x with
      | tmp t =>
        have := hlook t (List.mem_append_left _ (List.mem_filterMap.2 ⟨.tmp t, by simpa using hx, rfl⟩))
        simp only [Act.eval, Array.getD_eq_getD_getElem?, this]
      | _ => rfl
    have hst := steps.at i o hol
    rw [Nat.zero_add] at hst
    have hprem := hst vals w I.s fun p hp => I.phi _ (hanc _ (D.lis i o hol p hp).1)
    -- going on
    have next : ∀ v w', R w w' → S w' → Φ i v w' → wpAny P .any l.toArray Q fuel (listed.setIfInBounds i true) (a.put o.dst v) w' := by
      intro v w' hR hS hΦ
      have hsl : slotOf l i = o.dst := by unfold slotOf; rw [hol]; rfl
      refine ih (listed.setIfInBounds i true) (a.put o.dst v) w' (fun j => if j = i then v else vals j) ⟨?_, hS, ?_, ?_, ?_, ?_, ?_, ?_⟩ ?_
      · rw [Array.size_setIfInBounds]; exact I.size
      · intro j hj
        rcases (getD_set_iff hs).1 hj with rfl | hj'
        · simpa using hΦ
        · have hne : j ≠ i := by rintro rfl; rw [hun] at hj'; cases hj'
          simp only [if_neg hne]
          exact stable j _ w w' I.s hS hR (I.phi j hj')
      · intro j hj k hk
        refine (getD_set_iff hs).2 ?_
        rcases (getD_set_iff hs).1 hj with rfl | hj'
        · exact .inr (hanc k hk)
        · exact .inr (I.shut j hj' k hk)
      · cases o.dst <;> exact I.defers
      · cases hd : o.dst with
        | none => exact I.tmps
        | some d => simpa [Act.put] using I.tmps
      · intro t ht
        have h1 := I.other t fun j hj => ht j ((getD_set_iff hs).2 (.inr hj))
        have h2 := ht i ((getD_set_iff hs).2 (.inl rfl))
        rw [hsl] at h2
        cases hd : o.dst with
        | none => exact h1
        | some d =>
          have hne : d ≠ t := by rintro rfl; exact h2 hd
          simpa [Act.put, Array.getElem?_setIfInBounds_ne hne] using h1
      · intro j t hj hjt
        rcases (getD_set_iff hs).1 hj with rfl | hj'
        · rw [hsl] at hjt
          rw [hjt, if_pos rfl]
          have : t < a.tmps.size := by rw [I.tmps, hn]; exact (D.slot j t (by rw [hsl, hjt])).1
          simp [Act.put, this]
        · have hne : j ≠ i := by rintro rfl; rw [hun] at hj'; cases hj'
          rw [if_neg hne]
          have h1 := I.at_ j t hj' hjt
          cases hd : o.dst with
          | none => exact h1
          | some d =>
            have hne2 : d ≠ t := by
              rintro rfl
              exact hne ((D.slot i d (by rw [hsl, hd])).2 j hjt)
            simpa [Act.put, Array.getElem?_setIfInBounds_ne hne2] using h1
      · have h1 : (List.range l.length).countP (fun j => !(listed.setIfInBounds i true).getD j false) < (List.range l.length).countP (fun j => !listed.getD j false) := by
          have hmem : i ∈ List.range l.length := List.mem_range.2 hil
          obtain ⟨s, r, hsr⟩ := List.append_of_mem hmem
          rw [hsr, List.countP_append, List.countP_append, List.countP_cons, List.countP_cons]
          have m : ∀ xs : List Nat, xs.countP (fun j => !(listed.setIfInBounds i true).getD j false) ≤ xs.countP (fun j => !listed.getD j false) := by
            intro xs
            refine List.countP_mono_left fun j _ hj => ?_
            cases h : listed.getD j false with
            | false => rfl
            | true => rw [(getD_set_iff hs).2 (.inr h)] at hj; cases hj
          have m1 := m s
          have m2 := m r
          rw [getD_set_self hs, hun]
          simp only [Bool.not_true, Bool.not_false, Bool.false_eq_true, if_false, if_true]
          omega
        omega
    -- the operation itself
    unfold wpOp
    rw [ho]
    simp only
    cases hg : o.guard with
    | none =>
      rw [hg] at hprem
      rw [if_pos (by unfold Region.wanted; rw [hg])]
      exact .inl (opRun_wp hcongr hprem fun v w' h => next v w' h.1 h.2.1 h.2.2)
    | some gb =>
      obtain ⟨g, b⟩ := gb
      rw [hg] at hprem
      obtain ⟨hgA, t, hgt⟩ := D.guard i o hol g b hg
      have hgl := hanc g hgA
      have hat := I.at_ g t hgl hgt
      obtain ⟨p1, p2⟩ := hprem (I.phi g hgl)
      have hy : Region.wanted o (yielded l.toArray a.tmps) = true ↔ vals g = .bool b := by
        unfold Region.wanted yielded
        rw [hg]
        have e1 : (l.toArray[g]?).bind (·.dst) = some t := by simpa [slotOf] using hgt
        simp only [e1, Option.bind_some, hat]
        constructor
        · intro h
          split at h
          · rename_i b' hb'
            simp only [Option.some.injEq] at hb'
            simp at h
            rw [hb', h]
          · simp at h
        · intro h
          rw [h]
          simp
      by_cases hw : Region.wanted o (yielded l.toArray a.tmps) = true
      · rw [if_pos hw]
        exact .inl (opRun_wp hcongr (p1 (hy.1 hw)) fun v w' h => next v w' h.1 h.2.1 h.2.2)
      · rw [if_neg hw]
        exact next undef w (refl w) I.s (p2 fun h => hw (hy.2 h))

theorem none_listed (n i : Nat) : (Array.replicate n false).getD i false = false := by
  rw [Array.getD_eq_getD_getElem?, Array.getElem?_replicate]
  split <;> rfl
/-- THE LAW. -/
theorem wp_dag {id : Nat} {a : Act} {w : World} {Q : Exit → Act → World → Prop} (hm : P.follows .mixedOrders = true) (L : List (List (Nat × Nat))) (n : Nat) (hn : a.tmps.size = n) (hL : dagB l (ancL l []) L n = true) (A : List (Nat × Nat)) (hA : allSlots l = A)
    (S : World → Prop) (R : World → World → Prop) (Φ : Nat → Value → World → Prop) (hS : S w.drew) (refl : ∀ w, R w w) (stable : ∀ i v w w', S w → S w' → R w w' → Φ i v w → Φ i v w')
    (steps : DagSteps P a S R Φ 0 l L) (fin : ∀ vals w, S w → (∀ i, i < l.length → Φ i (vals i) w) → Q .normal (putL a vals A) w) :
    (Code.region id l.toArray true).wp P Q a w := by
  subst hA
  refine wp_region_any hm ?_
  refine dag_any (dag_of hL) hn refl stable steps fin _ _ a _ (fun _ => undef) ⟨by simp, hS, ?_, ?_, rfl, rfl, fun _ _ => rfl, ?_⟩ ?_
  · intro i hi; rw [none_listed] at hi; cases hi
  · intro i hi; rw [none_listed] at hi; cases hi
  · intro i t hi; rw [none_listed] at hi; cases hi
  · refine Nat.le_trans List.countP_le_length ?_
    simp

end
end Go.Proofs.YtjckpgcmfieaoaaGreatDoor
