/-
  XDag's law, wider: what is known of an operation may name the values of those that it looks at; and each operation has its own relation between worlds (a store into a block that the region made).
-/
import Derived.Test.YtjckpgcmfieaoaaGreatDoorDag
import Derived.Test.YtjckpgcmfieaoaaGreatDoorDagP
import Derived.Test.YtjckpgcmfieaoaaGreatDoorMbi
set_option linter.unusedVariables false
set_option linter.unusedSimpArgs false
namespace Go.Proofs.YtjckpgcmfieaoaaGreatDoor
open Go.RowKit

section
variable {P : Program} {l : List Oper} {A : List (List Nat)} {L : List (List (Nat × Nat))} {n : Nat}
/-- Value v at k. -/
def upV (vals : Nat → Value) (k : Nat) (v : Value) : Nat → Value := fun j => if j = k then v else vals j
theorem upV_same (vals : Nat → Value) (k : Nat) (v : Value) : upV vals k v k = v := by simp [upV]
theorem upV_other (vals : Nat → Value) {k j : Nat} (v : Value) (h : j ≠ k) : upV vals k v j = vals j := by simp [upV, h]

/-- One operation's step. -/
def DagStepG (P : Program) (a0 : Act) (S : World → Prop) (R : Nat → World → World → Prop) (Φ : Nat → (Nat → Value) → World → Prop) (i : Nat) (o : Oper) (Li : List (Nat × Nat)) : Prop :=
  ∀ (vals : Nat → Value) (w : World), S w → (∀ p ∈ Li, Φ p.1 vals w) →
    match o.guard with
    | none => opRun P o (putL a0 vals Li).eval w fun v w' => R i w w' ∧ S w' ∧ Φ i (upV vals i v) w'
    | some (g, b) => Φ g vals w → (vals g = .bool b → opRun P o (putL a0 vals Li).eval w fun v w' => R i w w' ∧ S w' ∧ Φ i (upV vals i v) w') ∧ (vals g ≠ .bool b → Φ i (upV vals i undef) w)
/-- The steps of all. -/
def DagStepsG (P : Program) (a0 : Act) (S : World → Prop) (R : Nat → World → World → Prop) (Φ : Nat → (Nat → Value) → World → Prop) : Nat → List Oper → List (List (Nat × Nat)) → Prop
  | _, [], _ => True
  | i, o :: os, L => DagStepG P a0 S R Φ i o (L.headD []) ∧ DagStepsG P a0 S R Φ (i + 1) os L.tail
theorem DagStepsG.nil {a0 : Act} {S : World → Prop} {R : Nat → World → World → Prop} {Φ : Nat → (Nat → Value) → World → Prop} {i : Nat} {L : List (List (Nat × Nat))} : DagStepsG P a0 S R Φ i [] L := trivial
theorem DagStepsG.cons {a0 : Act} {S : World → Prop} {R : Nat → World → World → Prop} {Φ : Nat → (Nat → Value) → World → Prop} {i : Nat} {o : Oper} {os : List Oper} {Li : List (Nat × Nat)} {L : List (List (Nat × Nat))} (h : DagStepG P a0 S R Φ i o Li)
    (k : DagStepsG P a0 S R Φ (i + 1) os L) : DagStepsG P a0 S R Φ i (o :: os) (Li :: L) := ⟨h, k⟩
/-- What is known of what an operation looks at. -/
def PremG (Φ : Nat → (Nat → Value) → World → Prop) (vals : Nat → Value) (w : World) : List (Nat × Nat) → Prop
  | [] => True
  | p :: r => Φ p.1 vals w ∧ PremG Φ vals w r
theorem premG_of {Φ : Nat → (Nat → Value) → World → Prop} {vals : Nat → Value} {w : World} : ∀ {L : List (Nat × Nat)}, (∀ p ∈ L, Φ p.1 vals w) → PremG Φ vals w L
  | [], _ => trivial
  | p :: r, h => ⟨h p (List.mem_cons_self ..), premG_of fun q hq => h q (List.mem_cons_of_mem _ hq)⟩
theorem DagStepsG.plain {a0 : Act} {S : World → Prop} {R : Nat → World → World → Prop} {Φ : Nat → (Nat → Value) → World → Prop} {i : Nat} {o : Oper} {os : List Oper} {Li : List (Nat × Nat)} {L : List (List (Nat × Nat))} (hg : o.guard = none)
    (h : ∀ (vals : Nat → Value) (w : World), S w → PremG Φ vals w Li → opRun P o (putL a0 vals Li).eval w fun v w' => R i w w' ∧ S w' ∧ Φ i (upV vals i v) w')
    (k : DagStepsG P a0 S R Φ (i + 1) os L) : DagStepsG P a0 S R Φ i (o :: os) (Li :: L) :=
  ⟨fun vals w hS hp => by rw [hg]; exact h vals w hS (premG_of hp), k⟩
theorem DagStepsG.at {a0 : Act} {S : World → Prop} {R : Nat → World → World → Prop} {Φ : Nat → (Nat → Value) → World → Prop} : ∀ {os : List Oper} {L : List (List (Nat × Nat))} {k : Nat}, DagStepsG P a0 S R Φ k os L → ∀ (i : Nat) o, os[i]? = some o → DagStepG P a0 S R Φ (k + i) o (L.getD i [])
  | [], _, _, _, _, _, h => by simp at h
  | o :: os, L, k, h, 0, o', he => by
    simp only [List.getElem?_cons_zero, Option.some.injEq] at he
    subst he
    have := h.1
    cases L <;> exact this
  | o :: os, L, k, h, i + 1, o', he => by
    have := DagStepsG.at h.2 i o' (by simpa using he)
    rw [show k + (i + 1) = k + 1 + i by omega]
    cases L <;> exact this

structure DagInvG (l : List Oper) (A : List (List Nat)) (a0 : Act) (S : World → Prop) (Φ : Nat → (Nat → Value) → World → Prop) (listed : Array Bool) (a : Act) (w : World) (vals : Nat → Value) : Prop where
  size : listed.size = l.length
  s : S w
  phi : ∀ i, listed.getD i false = true → Φ i vals w
  shut : ∀ i, listed.getD i false = true → ∀ k ∈ A.getD i [], listed.getD k false = true
  defers : a.defers = a0.defers
  tmps : a.tmps.size = a0.tmps.size
  other : ∀ t, (∀ i, listed.getD i false = true → slotOf l i ≠ some t) → a.tmps[t]? = a0.tmps[t]?
  at_ : ∀ i t, listed.getD i false = true → slotOf l i = some t → a.tmps[t]? = some (vals i)

theorem dagG_any (D : Dag l A L n) {a0 : Act} (hn : a0.tmps.size = n) {S : World → Prop} {R : Nat → World → World → Prop} {Φ : Nat → (Nat → Value) → World → Prop} {Q : Exit → Act → World → Prop}
    (refl : ∀ i w, R i w w) (loc : ∀ i k vals v w, k ≠ i → (∀ p ∈ L.getD i [], p.1 ≠ k) → Φ i vals w → Φ i (upV vals k v) w) (stable : ∀ i j vals w w', i ≠ j → S w → S w' → R j w w' → Φ i vals w → Φ i vals w') (steps : DagStepsG P a0 S R Φ 0 l L)
    (fin : ∀ vals w, S w → (∀ i, i < l.length → Φ i vals w) → Q .normal (putL a0 vals (allSlots l)) w) :
    ∀ (fuel : Nat) (listed : Array Bool) (a : Act) (w : World) (vals : Nat → Value), DagInvG l A a0 S Φ listed a w vals → (List.range l.length).countP (fun i => !listed.getD i false) ≤ fuel → wpAny P .any l.toArray Q fuel listed a w := by
  have whole : ∀ (listed : Array Bool) (a : Act) (w : World) (vals : Nat → Value), DagInvG l A a0 S Φ listed a w vals → Region.ready .any l.toArray listed = [] → Q .normal a w := by
    intro listed a w vals I hr
    -- all are listed
    have all : ∀ (i : Nat), i < l.length → listed.getD i false = true := by
      intro i
      induction i using Nat.strongRecOn with
      | _ i ih =>
        intro hi
        cases hl : listed.getD i false with
        | true => rfl
        | false =>
          exfalso
          have : i ∈ Region.ready .any l.toArray listed := by
            rw [mem_ready]
            have ho : l[i]? = some l[i] := List.getElem?_eq_getElem hi
            refine ⟨?_, l[i], by simp [hi], fun e he hb => ?_⟩
            · rw [Array.getD_eq_getD_getElem?] at hl ⊢
              have : i < listed.size := by rw [I.size]; exact hi
              rw [Array.getElem?_eq_getElem this] at hl ⊢
              simpa using hl
            · have h1 := (D.edge i _ ho e he hb).1
              have h2 := (D.anc i _ ho _ h1).1
              exact ih _ h2 (by omega)
          rw [hr] at this
          cases this
    have ha : a = putL a0 vals (allSlots l) := by
      refine act_eq (by rw [putL_defers]; exact I.defers) fun t => ?_
      by_cases h : ∃ i, slotOf l i = some t
      · obtain ⟨i, hi⟩ := h
        have hil := (slot_lt hi).1
        rw [I.at_ i t (all i hil) hi]
        have hm : (i, t) ∈ allSlots l := by
          unfold allSlots
          rw [List.mem_filterMap]
          exact ⟨i, List.mem_range.2 hil, by rw [hi]; rfl⟩
        refine (putL_at vals (allSlots l) a0 (i, t) hm (fun q hq e => ?_) (by rw [hn]; exact (D.slot i t hi).1)).symm
        unfold allSlots at hq
        rw [List.mem_filterMap] at hq
        obtain ⟨j, _, hj⟩ := hq
        rw [Option.map_eq_some_iff] at hj
        obtain ⟨t', ht', rfl⟩ := hj
        simp only at e
        subst e
        exact (D.slot i _ hi).2 j ht'
      · rw [I.other t fun i _ hs => h ⟨i, hs⟩, putL_other]
        intro p hp e
        unfold allSlots at hp
        rw [List.mem_filterMap] at hp
        obtain ⟨j, _, hj⟩ := hp
        rw [Option.map_eq_some_iff] at hj
        obtain ⟨t', ht', rfl⟩ := hj
        exact h ⟨j, by rw [ht', ← e]⟩
    rw [ha]
    exact fin vals w I.s fun i hi => I.phi i (all i hi)
  intro fuel
  induction fuel with
  | zero =>
    intro listed a w vals I hc
    have hr : Region.ready .any l.toArray listed = [] := by
      rw [List.eq_nil_iff_forall_not_mem]
      intro i hi
      obtain ⟨h0, o, ho, _⟩ := mem_ready.1 hi
      have hil : i < l.length := by simpa using (Array.getElem?_eq_some_iff.1 ho).1
      have : (List.range l.length).countP (fun i => !listed.getD i false) = 0 := by omega
      rw [List.countP_eq_zero] at this
      have := this i (List.mem_range.2 hil)
      rw [Array.getD_eq_getD_getElem?] at h0 this
      have hs : i < listed.size := by rw [I.size]; exact hil
      rw [Array.getElem?_eq_getElem hs] at h0 this
      simp at h0 this
      rw [h0] at this
      cases this
    exact ⟨hr, whole listed a w vals I hr⟩
  | succ fuel ih =>
    intro listed a w vals I hc
    refine ⟨fun hr => whole listed a w vals I hr, fun i hi => ?_⟩
    obtain ⟨h0, o, ho, hall⟩ := mem_ready.1 hi
    have hil : i < l.length := by simpa using (Array.getElem?_eq_some_iff.1 ho).1
    have hs : i < listed.size := by rw [I.size]; exact hil
    have hol : l[i]? = some o := by simpa using ho
    have hun : listed.getD i false = false := by
      rw [Array.getD_eq_getD_getElem?] at h0 ⊢
      rw [Array.getElem?_eq_getElem hs] at h0 ⊢
      simpa using h0
    have hanc : ∀ k ∈ A.getD i [], listed.getD k false = true := by
      intro k hk
      obtain ⟨_, e, he, hb, h⟩ := D.anc i o hol k hk
      have h1 := hall e he hb
      rcases h with rfl | h
      · exact h1
      · exact I.shut _ h1 k h
    -- what it looks at is as in the small frame
    have hlook : ∀ t ∈ o.looksAt l.toArray, a.tmps[t]? = (putL a0 vals (L.getD i [])).tmps[t]? := by
      intro t ht
      by_cases h : ∃ j, listed.getD j false = true ∧ slotOf l j = some t
      · obtain ⟨j, hj, hjt⟩ := h
        rcases D.look i o hol t ht j hjt with h1 | ⟨h1, h2⟩
        · have := I.shut j hj i h1
          rw [hun] at this
          cases this
        · rw [I.at_ j t hj hjt]
          refine (putL_at vals _ a0 (j, t) h2 (fun q hq e => ?_) (by rw [hn]; exact (D.slot j t hjt).1)).symm
          have := (D.lis i o hol q hq).2
          rw [e] at this
          exact (D.slot j t hjt).2 _ this
      · rw [I.other t fun j hj hs => h ⟨j, hj, hs⟩, putL_other]
        intro p hp e
        obtain ⟨h1, h2⟩ := D.lis i o hol p hp
        exact h ⟨p.1, hanc _ h1, by rw [h2, e]⟩
    have hcongr : execOp a.eval o = execOp (putL a0 vals (L.getD i [])).eval o := by
      refine execOp_congr o (D.sel i o hol) fun x hx => ?_
      cases x with
      | tmp t =>
        have := hlook t (List.mem_append_left _ (List.mem_filterMap.2 ⟨.tmp t, by simpa using hx, rfl⟩))
        simp only [Act.eval, Array.getD_eq_getD_getElem?, this]
      | _ => rfl
    have hst := steps.at i o hol
    rw [Nat.zero_add] at hst
    have hprem := hst vals w I.s fun p hp => I.phi _ (hanc _ (D.lis i o hol p hp).1)
    -- going on
    have next : ∀ v w', R i w w' → S w' → Φ i (upV vals i v) w' → wpAny P .any l.toArray Q fuel (listed.setIfInBounds i true) (a.put o.dst v) w' := by
      intro v w' hR hS hΦ
      have hsl : slotOf l i = o.dst := by unfold slotOf; rw [hol]; rfl
      refine ih (listed.setIfInBounds i true) (a.put o.dst v) w' (upV vals i v) ⟨?_, hS, ?_, ?_, ?_, ?_, ?_, ?_⟩ ?_
      · rw [Array.size_setIfInBounds]; exact I.size
      · intro j hj
        rcases (getD_set_iff hs).1 hj with rfl | hj'
        · exact hΦ
        · have hne : j ≠ i := by rintro rfl; rw [hun] at hj'; cases hj'
          have hjl : j < l.length := by
            rcases Nat.lt_or_ge j l.length with h | h
            · exact h
            · rw [Array.getD_eq_getD_getElem?, Array.getElem?_eq_none (by rw [I.size]; exact h)] at hj'
              cases hj'
          refine stable j i _ w w' hne I.s hS hR (loc j i vals v w (Ne.symm hne) (fun p hp e => ?_) (I.phi j hj'))
          have hA := (D.lis j _ (List.getElem?_eq_getElem hjl) p hp).1
          have := I.shut j hj' _ hA
          rw [e, hun] at this
          cases this
      · intro j hj k hk
        refine (getD_set_iff hs).2 ?_
        rcases (getD_set_iff hs).1 hj with rfl | hj'
        · exact .inr (hanc k hk)
        · exact .inr (I.shut j hj' k hk)
      · cases o.dst <;> exact I.defers
      · cases hd : o.dst with
        | none => exact I.tmps
        | some d => simpa [Act.put] using I.tmps
      · intro t ht
        have h1 := I.other t fun j hj => ht j ((getD_set_iff hs).2 (.inr hj))
        have h2 := ht i ((getD_set_iff hs).2 (.inl rfl))
        rw [hsl] at h2
        cases hd : o.dst with
        | none => exact h1
        | some d =>
          have hne : d ≠ t := by rintro rfl; exact h2 hd
          simpa [Act.put, Array.getElem?_setIfInBounds_ne hne] using h1
      · intro j t hj hjt
        rcases (getD_set_iff hs).1 hj with rfl | hj'
        · rw [hsl] at hjt
          rw [hjt, upV_same]
          have : t < a.tmps.size := by rw [I.tmps, hn]; exact (D.slot j t (by rw [hsl, hjt])).1
          simp [Act.put, this]
        · have hne : j ≠ i := by rintro rfl; rw [hun] at hj'; cases hj'
          rw [upV_other _ _ hne]
          have h1 := I.at_ j t hj' hjt
          cases hd : o.dst with
          | none => exact h1
          | some d =>
            have hne2 : d ≠ t := by
              rintro rfl
              exact hne ((D.slot i d (by rw [hsl, hd])).2 j hjt)
            simpa [Act.put, Array.getElem?_setIfInBounds_ne hne2] using h1
      · have h1 : (List.range l.length).countP (fun j => !(listed.setIfInBounds i true).getD j false) < (List.range l.length).countP (fun j => !listed.getD j false) := by
          have hmem : i ∈ List.range l.length := List.mem_range.2 hil
          obtain ⟨s, r, hsr⟩ := List.append_of_mem hmem
          rw [hsr, List.countP_append, List.countP_append, List.countP_cons, List.countP_cons]
          have m : ∀ xs : List Nat, xs.countP (fun j => !(listed.setIfInBounds i true).getD j false) ≤ xs.countP (fun j => !listed.getD j false) := by
            intro xs
            refine List.countP_mono_left fun j _ hj => ?_
            cases h : listed.getD j false with
            | false => rfl
            | true => rw [(getD_set_iff hs).2 (.inr h)] at hj; cases hj
          have m1 := m s
          have m2 := m r
          rw [getD_set_self hs, hun]
          simp only [Bool.not_true, Bool.not_false, Bool.false_eq_true, if_false, if_true]
          omega
        omega
    -- the operation itself
    unfold wpOp
    rw [ho]
    simp only
    cases hg : o.guard with
    | none =>
      rw [hg] at hprem
      rw [if_pos (by unfold Region.wanted; rw [hg])]
      exact .inl (opRun_wp hcongr hprem fun v w' h => next v w' h.1 h.2.1 h.2.2)
    | some gb =>
      obtain ⟨g, b⟩ := gb
      rw [hg] at hprem
      obtain ⟨hgA, t, hgt⟩ := D.guard i o hol g b hg
      have hgl := hanc g hgA
      have hat := I.at_ g t hgl hgt
      obtain ⟨p1, p2⟩ := hprem (I.phi g hgl)
      have hy : Region.wanted o (yielded l.toArray a.tmps) = true ↔ vals g = .bool b := by
        unfold Region.wanted yielded
        rw [hg]
        have e1 : (l.toArray[g]?).bind (·.dst) = some t := by simpa [slotOf] using hgt
        simp only [e1, Option.bind_some, hat]
        constructor
        · intro h
          split at h
          · rename_i b' hb'
            simp only [Option.some.injEq] at hb'
            simp at h
            rw [hb', h]
          · simp at h
        · intro h
          rw [h]
          simp
      by_cases hw : Region.wanted o (yielded l.toArray a.tmps) = true
      · rw [if_pos hw]
        exact .inl (opRun_wp hcongr (p1 (hy.1 hw)) fun v w' h => next v w' h.1 h.2.1 h.2.2)
      · rw [if_neg hw]
        exact next undef w (refl i w) I.s (p2 fun h => hw (hy.2 h))

/-- THE LAW. -/
theorem wp_dagG {id : Nat} {a : Act} {w : World} {Q : Exit → Act → World → Prop} (hm : P.follows .mixedOrders = true) (L : List (List (Nat × Nat))) (n : Nat) (hn : a.tmps.size = n) (hL : dagB l (ancL l []) L n = true) (A : List (Nat × Nat)) (hA : allSlots l = A)
    (S : World → Prop) (R : Nat → World → World → Prop) (Φ : Nat → (Nat → Value) → World → Prop) (hS : S w.drew) (refl : ∀ i w, R i w w) (loc : ∀ i k vals v w, k ≠ i → (∀ p ∈ L.getD i [], p.1 ≠ k) → Φ i vals w → Φ i (upV vals k v) w) (stable : ∀ i j vals w w', i ≠ j → S w → S w' → R j w w' → Φ i vals w → Φ i vals w')
    (steps : DagStepsG P a S R Φ 0 l L) (fin : ∀ vals w, S w → (∀ i, i < l.length → Φ i vals w) → Q .normal (putL a vals A) w) :
    (Code.region id l.toArray true).wp P Q a w := by
  subst hA
  refine wp_region_any hm ?_
  refine dagG_any (dag_of hL) hn refl loc stable steps fin _ _ a _ (fun _ => undef) ⟨by simp, hS, ?_, ?_, rfl, rfl, fun _ _ => rfl, ?_⟩ ?_
  · intro i hi; rw [none_listed] at hi; cases hi
  · intro i hi; rw [none_listed] at hi; cases hi
  · intro i t hi; rw [none_listed] at hi; cases hi
  · refine Nat.le_trans List.countP_le_length ?_
    simp

end

/-- Blocks from B on keep their shape. -/
def ShapeB (B : Nat) (w w' : World) : Prop := Upd (fun k => B ≤ k) w w' ∧ ∀ (g : Nat) (T : TypeId) (cs : Array Value), w.heap[g]? = some (.cells cs T (0, 0)) → ∃ cs' : Array Value, cs'.size = cs.size ∧ w'.heap[g]? = some (.cells cs' T (0, 0))
def RN (B st j : Nat) (w w' : World) : Prop := if j = st then ShapeB B w w' else New w w'
theorem RN.refl (B st j : Nat) (w : World) : RN B st j w w := by
  unfold RN
  split
  · exact ⟨Upd.refl _ _, fun g T cs h => ⟨cs, rfl, h⟩⟩
  · exact Upd.refl _ _
/-- What is known of each operation. -/
def isN (B al st n : Nat) (r : Array Value) (xs : List Value) (i : Nat) (vals : Nat → Value) (w : World) : Prop :=
  if i = al then ∃ (g : Nat) (T : TypeId) (cs : Array Value), vals al = .pointer (some ⟨g, 0, none⟩) ∧ B ≤ g ∧ w.heap[g]? = some (.cells cs T (0, 0)) ∧ cs.size = n
  else if i = st then ∃ (g : Nat) (T : TypeId), vals al = .pointer (some ⟨g, 0, none⟩) ∧ B ≤ g ∧ w.heap[g]? = some (.cells r T (0, 0))
  else vals i = xs.getD i undef
theorem isN_val {B al st n : Nat} {r : Array Value} {xs : List Value} {i : Nat} {vals : Nat → Value} {w : World} (h1 : i ≠ al) (h2 : i ≠ st) (h : isN B al st n r xs i vals w) : vals i = xs.getD i undef := by
  unfold isN at h
  rwa [if_neg h1, if_neg h2] at h
theorem isN_of {B al st n : Nat} {r : Array Value} {xs : List Value} {i : Nat} {vals : Nat → Value} {v : Value} {w : World} (h1 : i ≠ al) (h2 : i ≠ st) (h : v = xs.getD i undef) : isN B al st n r xs i (upV vals i v) w := by
  unfold isN
  rw [if_neg h1, if_neg h2, upV_same]
  exact h
def isX (xs : List Value) (i : Nat) (v : Value) : Prop := v = xs.getD i undef
section
variable {P : Program} {l : List Oper} {A : List (Nat × Nat)} {L : List (List (Nat × Nat))} {n : Nat}
theorem wp_dagN {id : Nat} {a : Act} {w : World} {Q : Exit → Act → World → Prop} (hm : P.follows .mixedOrders = true) (L : List (List (Nat × Nat))) (n : Nat) (hn : a.tmps.size = n) (hL : dagB l (ancL l []) L n = true) (A : List (Nat × Nat)) (hA : allSlots l = A)
    (al st m : Nat) (hne : (al == st) = false) (hal : decide (al < l.length) = true) (hsl : decide (st < l.length) = true) (hLa : ((L.getD st []).any fun p => p.1 == al) = true) (r : Array Value) (xs : List Value)
    (steps : DagStepsG P a (fun w' => New w w') (RN w.heap.size st) (isN w.heap.size al st m r xs) 0 l L)
    (fin : ∀ (vals : Nat → Value) (w' : World) (g : Nat) (T : TypeId), New w w' → vals al = .pointer (some ⟨g, 0, none⟩) → w.heap.size ≤ g → w'.heap[g]? = some (.cells r T (0, 0)) → (∀ i, i < l.length → i ≠ al → i ≠ st → vals i = xs.getD i undef) → Q .normal (putL a vals A) w') :
    (Code.region id l.toArray true).wp P Q a w := by
  have hne' : al ≠ st := by simpa using hne
  refine wp_dagG hm L n hn hL A hA (fun w' => New w w') (RN w.heap.size st) (isN w.heap.size al st m r xs) (Upd.refl _ _).drew (fun i w => RN.refl _ _ _ _) ?_ ?_ steps ?_
  · intro i k vals v w' hki hp h
    unfold isN at h ⊢
    by_cases h1 : i = al
    · rw [if_pos h1] at h ⊢
      subst h1
      rw [upV_other _ _ (fun e => hki e.symm)]
      exact h
    · rw [if_neg h1] at h ⊢
      by_cases h2 : i = st
      · rw [if_pos h2] at h ⊢
        subst h2
        obtain ⟨p, hpm, hpe⟩ := List.any_eq_true.1 hLa
        have := hp p hpm
        have hpe' : p.1 = al := by simpa using hpe
        rw [upV_other _ _ (fun e => this (hpe'.trans e))]
        exact h
      · rw [if_neg h2] at h ⊢
        rw [upV_other _ _ (fun e => hki e.symm)]
        exact h
  · intro i j vals w1 w2 hij _ _ hR h
    unfold isN at h ⊢
    unfold RN at hR
    by_cases h1 : i = al
    · rw [if_pos h1] at h ⊢
      obtain ⟨g, T, cs, e1, e2, hg, hs⟩ := h
      by_cases hj : j = st
      · rw [if_pos hj] at hR
        obtain ⟨cs', hs', hg'⟩ := hR.2 g T cs hg
        exact ⟨g, T, cs', e1, e2, hg', hs'.trans hs⟩
      · rw [if_neg hj] at hR
        exact ⟨g, T, cs, e1, e2, hR.old hg (fun h => h), hs⟩
    · rw [if_neg h1] at h ⊢
      by_cases h2 : i = st
      · rw [if_pos h2] at h ⊢
        obtain ⟨g, T, e1, e2, hg⟩ := h
        rw [if_neg (fun e => hij (h2.trans e.symm))] at hR
        exact ⟨g, T, e1, e2, hR.old hg (fun h => h)⟩
      · rw [if_neg h2] at h ⊢
        exact h
  · intro vals w' hS hΦ
    have h1 := hΦ st (by simpa using hsl)
    unfold isN at h1
    rw [if_neg (fun e => hne' e.symm), if_pos rfl] at h1
    obtain ⟨g, T, e1, e2, hg⟩ := h1
    exact fin vals w' g T hS e1 e2 hg fun i hi h1 h2 => isN_val h1 h2 (hΦ i hi)

variable {a0 : Act} {wo : World} {al st m i : Nat} {r : Array Value} {xs : List Value} {o : Oper} {os : List Oper} {Li : List (Nat × Nat)} {L' : List (List (Nat × Nat))}
/-- A step that yields a value known beforehand, and may make blocks. -/
theorem DagStepsG.nval (hg : o.guard = none) (h1 : (i == al) = false) (h2 : (i == st) = false)
    (h : ∀ (vals : Nat → Value) (w : World), New wo w → PremG (isN wo.heap.size al st m r xs) vals w Li → opRun P o (putL a0 vals Li).eval w fun v w' => New w w' ∧ isX xs i v)
    (k : DagStepsG P a0 (fun w' => New wo w') (RN wo.heap.size st) (isN wo.heap.size al st m r xs) (i + 1) os L') : DagStepsG P a0 (fun w' => New wo w') (RN wo.heap.size st) (isN wo.heap.size al st m r xs) i (o :: os) (Li :: L') :=
  DagStepsG.plain hg (fun vals w hS hp => opRun_mono (h vals w hS hp) fun v w' hv => by
    have h1' : i ≠ al := by simpa using h1
    have h2' : i ≠ st := by simpa using h2
    refine ⟨?_, hS.trans hv.1, isN_of h1' h2' hv.2⟩
    unfold RN
    rw [if_neg h2']
    exact hv.1) k
/-- The block is made. -/
theorem DagStepsG.nalloc (hg : o.guard = none) (h1 : (i == al) = true) (h2 : (i == st) = false) (C : Array Value) (T : TypeId) (hC : C.size = m)
    (h : ∀ (vals : Nat → Value) (w : World), (execOp (putL a0 vals Li).eval o).run P w = .ok (.value (.pointer (some ⟨w.heap.size, 0, none⟩))) (w.alloc (.cells C T)))
    (k : DagStepsG P a0 (fun w' => New wo w') (RN wo.heap.size st) (isN wo.heap.size al st m r xs) (i + 1) os L') : DagStepsG P a0 (fun w' => New wo w') (RN wo.heap.size st) (isN wo.heap.size al st m r xs) i (o :: os) (Li :: L') :=
  DagStepsG.plain hg (fun vals w hS hp => opRun_value (h vals w) (by
    have h1' : i = al := by simpa using h1
    have h2' : i ≠ st := by simpa using h2
    refine ⟨?_, Upd.alloc hS _, ?_⟩
    · unfold RN
      rw [if_neg h2']
      exact (Upd.refl _ _).alloc _
    · unfold isN
      rw [if_pos h1', ← h1', upV_same]
      exact ⟨_, T, C, rfl, hS.size, blk_alloc _ _, hC⟩)) k
/-- The row is stored. -/
theorem DagStepsG.nstore (hg : o.guard = none) (h1 : (i == al) = false) (h2 : (i == st) = true) (hal : (Li.any fun p => p.1 == al) = true) (hr : r.size = m)
    (h : ∀ (vals : Nat → Value) (w : World) (g : Nat) (T : TypeId) (cs : Array Value), vals al = .pointer (some ⟨g, 0, none⟩) → w.heap[g]? = some (.cells cs T (0, 0)) → cs.size = m → PremG (isN wo.heap.size al st m r xs) vals w Li →
      opRun P o (putL a0 vals Li).eval w fun _ w' => w' = w.setCells g 0 r.toList)
    (k : DagStepsG P a0 (fun w' => New wo w') (RN wo.heap.size st) (isN wo.heap.size al st m r xs) (i + 1) os L') : DagStepsG P a0 (fun w' => New wo w') (RN wo.heap.size st) (isN wo.heap.size al st m r xs) i (o :: os) (Li :: L') :=
  DagStepsG.plain hg (fun vals w hS hp => by
    have h1' : i ≠ al := by simpa using h1
    have h2' : i = st := by simpa using h2
    obtain ⟨g, T, cs, e1, e2, hb, hsz⟩ : ∃ (g : Nat) (T : TypeId) (cs : Array Value), vals al = .pointer (some ⟨g, 0, none⟩) ∧ wo.heap.size ≤ g ∧ w.heap[g]? = some (.cells cs T (0, 0)) ∧ cs.size = m := by
      have key : ∀ Li : List (Nat × Nat), (Li.any fun p => p.1 == al) = true → PremG (isN wo.heap.size al st m r xs) vals w Li → isN wo.heap.size al st m r xs al vals w := by
        intro Li
        induction Li with
        | nil => intro h; simp at h
        | cons p Li ih =>
          intro hh hp
          rw [List.any_cons, Bool.or_eq_true] at hh
          rcases hh with hh | hh
          · have : p.1 = al := by simpa using hh
            rw [← this]
            exact this ▸ hp.1
          · exact ih hh hp.2
      have := key Li hal hp
      unfold isN at this
      rwa [if_pos rfl] at this
    refine opRun_mono (h vals w g T cs e1 hb hsz hp) fun v w' hw => ?_
    subst hw
    have hb2 := blk_setCells hb 0 r.toList
    have uu : Upd (fun k => wo.heap.size ≤ k) w (w.setCells g 0 r.toList) := ((Upd.refl (· = g) w).setCells 0 r.toList).mono (fun k _ e => by subst e; exact e2)
    refine ⟨?_, ?_, ?_⟩
    · unfold RN
      rw [if_pos h2']
      refine ⟨uu, fun g' T' cs' hg' => ?_⟩
      by_cases he : g' = g
      · subst he
        rw [hb] at hg'
        cases hg'
        exact ⟨_, layIn_size _ _ _, hb2⟩
      · exact ⟨cs', rfl, ((Upd.refl (· = g) w).setCells 0 r.toList).old hg' he⟩
    · exact hS.then uu (fun k hk e => by omega)
    · unfold isN
      rw [if_neg h1', if_pos h2', upV_other _ _ (fun e => h1' e.symm)]
      refine ⟨g, T, e1, e2, ?_⟩
      rw [hb2]
      congr 2
      refine Array.ext_getElem? fun j => ?_
      rw [layIn_get cs 0 r.toList j (by rw [Array.length_toList]; omega)]
      by_cases hj : j < r.size
      · rw [if_pos (by rw [Array.length_toList]; omega)]; simp
      · have z1 : cs[j]? = none := Array.getElem?_eq_none (by omega)
        have z2 : r[j]? = none := Array.getElem?_eq_none (by omega)
        rw [if_neg (by rw [Array.length_toList]; omega), z1, z2]) k
end
end Go.Proofs.YtjckpgcmfieaoaaGreatDoor
