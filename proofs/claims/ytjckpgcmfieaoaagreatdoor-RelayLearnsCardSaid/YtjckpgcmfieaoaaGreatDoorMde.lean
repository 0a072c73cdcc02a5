/-
  Functions whose contract is known: law 19's rests.
-/
import Derived.Test.YtjckpgcmfieaoaaGreatDoorMdd
import Derived.Shelf.Abstract
import Derived.Test.YtjckpgcmfieaoaaGreatDoorMdc
set_option linter.unusedVariables false
set_option linter.unusedSimpArgs false
namespace Go.Proofs.YtjckpgcmfieaoaaGreatDoor
open Go.RowKit

theorem ext_idle {w0 w : World} {β β1 : EMp} {s s1 : ESt} (hr : HR w0 β s w) (hE : Ext β s β1 s1) {B : ETr EBlk} {bs : List Nat} {nx q : Nat} {r : Int} (hs : s.next ≤ nx) (hbs : ∀ b ∈ bs, ∃ l, β1 b = some l) (hh : ∀ b, b < s.next → b ∉ bs → s1.heap.get b = B.get b) :
    Ext β s (lowMap β1 nx q) (gI B bs nx r) := by
  refine ⟨fun b l e => ?_, Nat.le_succ_of_le hs, fun b hb e => ?_⟩
  · have := hr.lt b l e
    rw [lowMap_lt (by omega)]
    exact hE.le b l e
  · obtain ⟨h1, h2⟩ := hE.un b hb e
    rw [lowMap_lt (by omega)]
    refine ⟨h1, ?_⟩
    have hn : b ∉ bs := fun hm => by
      obtain ⟨l, hl⟩ := hbs b hm
      rw [h1] at hl
      cases hl
    show (gPuts (gForm nx r) 5 bs B).get b = s.heap.get b
    rw [gPuts_get _ _ _ hn, ← hh b hb hn, h2]
theorem iRests_ok {k : ECall} (hk : KS Tryz.prog k) {args : List EV} {s s' : ESt} {x : EV} (ha : iRests k args s = .v x s') : KOk Tryz.prog 15 args s x s' := fun w0 β w av hg hr hv => by
  unfold iRests at ha
  split at ha <;> first | (cases ha; done) | skip
  rename_i wb
  split at ha <;> first | (cases ha; done) | skip
  rename_i h0 nx hit
  obtain ⟨h, hh0⟩ : ∃ h, h = gDead s.next gLive h0 0 1 := ⟨_, rfl⟩
  rw [← hh0] at ha
  unfold gRest at ha
  simp only at ha
  split at ha <;> first | (cases ha; done) | skip
  rename_i bs hps
  split at ha <;> first | (cases ha; done) | skip
  rename_i h15
  split at ha <;> first | (cases ha; done) | skip
  rename_i hid
  injection ha with e1 e2
  subst e1 e2
  obtain ⟨B, hB⟩ : ∃ B, B = gPuts .bot 5 bs h := ⟨_, rfl⟩
  rw [← hB] at hid ⊢
  unfold gIdle at hid
  split at hid <;> first | (cases hid; done) | skip
  rename_i hB0
  split at hid <;> first | (cases hid; done) | skip
  rename_i hBr
  split at hid <;> first | (cases hid; done) | skip
  rename_i s1 st0
  split at hid <;> first | (cases hid; done) | skip
  rename_i s2 st1
  split at hid <;> first | (cases hid; done) | skip
  rename_i s3 st2
  have st0 := gStep_inv st0
  have st1 := gStep_inv st1
  have st2 := gStep_inv st2
  obtain ⟨b1, b2⟩ := gBack_inv hid
  obtain ⟨St, hSt⟩ : ∃ St : Nat → ESt, St = fun r => match r with | 0 => gI B bs nx 0 | 1 => s1 | _ => s2 := ⟨_, rfl⟩
  have hlt : 1024 ≤ s.next := by
    obtain ⟨m, hm⟩ := hg 1023 (by decide)
    exact hr.lt _ _ hm
  obtain ⟨av⟩ := av
  have hv0 := hv
  cases hv with
  | cons hv1 hv2 =>
    cases hv2
    cases hv1 with
    | ptr hwb =>
      rename_i l
      have hround : Enters Tryz.prog 19 := enters_of Tryz.func19 (by kernel_rfl) rfl
      -- one round
      have one : ∀ {β' : EMp} {s1 s2 : ESt} {w' : World}, k 19 [.ptr (some (wb, 0))] s1 = .v (.tup []) s2 → HR w0 β' s1 w' → β.le β' →
          Calls Tryz.prog 19 #[.pointer (some ⟨l.c, l.sh + 0, none⟩)] w' fun e w'' => e = .returned (.tuple #[]) ∧ ∃ β'', HR w0 β'' s2 w'' ∧ Ext β' s1 β'' s2 := by
        intro β' s1 s2 w' hkk h1 hle
        rcases hk _ _ _ _ _ hkk w0 β' w' #[.pointer (some ⟨l.c, l.sh + 0, none⟩)] (hg.mono hle) h1 (hv0.mono hle) with ⟨v, w'', q, -⟩ | ⟨-, q⟩
        · rw [hround] at q
          cases q
        · refine q.mono ?_
          rintro e w'' ⟨v, rfl, β'', r1, r2, r3⟩
          cases r1 with
          | tup r1 =>
            rename_i ra
            obtain ⟨ra⟩ := ra
            cases r1
            exact ⟨rfl, β'', r2, r3⟩
      -- behind the rounds that change something
      have arrive : ∀ {β' : EMp} {w' : World}, HR w0 β' (.mk h0 nx) w' → Ext β s β' (.mk h0 nx) → HR w0 (lowMap β' nx 5) (gI B bs nx 0) w' ∧ Ext β s (lowMap β' nx 5) (gI B bs nx 0) ∧ ∀ b ∈ bs, b < nx ∧ ∃ l, lowMap β' nx 5 b = some l := by
        intro β' w' h1 h2
        have h1 : HR w0 β' (.mk h nx) w' := by rw [hh0]; exact h1.gdead _ _
        have h2 : Ext β s β' (.mk h nx) := ⟨h2.le, h2.next, fun b hb e => by
          obtain ⟨g1, g2⟩ := h2.un b hb e
          refine ⟨g1, ?_⟩
          show h.get b = s.heap.get b
          rw [hh0, (gDead_get _ _ _ b).1 hb]
          exact g2⟩
        have hnx : s.next ≤ nx := h2.next
        have kn := gPaths_ok h1 (h2.le _ _ hwb) hps
        have kl : ∀ b ∈ bs, b < nx := fun b hb => by
          obtain ⟨l', hl'⟩ := kn b hb
          exact h1.lt _ _ hl'
        refine ⟨to_idle (z := 15) h1 (by omega) (Nat.le_refl nx) (fun b _ => by rw [hB]; rfl) hBr hB0 kl (fun b hb l' hl' => ?_) (by omega) (by omega) (by omega), ext_idle hr h2 hnx kn fun b hb hn => ?_, fun b hb => ⟨kl b hb, ?_⟩⟩
        · obtain ⟨v, v1, v2⟩ := h1.load1 hl' (gAre_ok h15 b hb)
          cases v1
          exact v2
        · rw [hB, gPuts_get _ _ _ hn]
          rfl
        · obtain ⟨l', hl'⟩ := kn b hb
          exact ⟨l', by rw [lowMap_lt (kl b hb)]; exact hl'⟩
      refine .inr ⟨enters_of Tryz.func15 (by kernel_rfl) rfl _ _, (rests_walk (.pointer (some ⟨l.c, l.sh + 0, none⟩)) (fun i w' =>
        (i < 15 → ∃ β' s1, gIter k [.ptr (some (wb, 0))] (15 - i) s1 = some (.mk h0 nx) ∧ HR w0 β' s1 w' ∧ Ext β s β' s1) ∧
        (15 ≤ i → s.next ≤ nx ∧ ∃ β', HR w0 β' (St ((i - 15) % 3)) w' ∧ Ext β s β' (St ((i - 15) % 3)) ∧ β' nx = some ⟨5 + (i - 15) / 3, 0, 0⟩ ∧ ∀ b ∈ bs, b < nx ∧ ∃ l, β' b = some l)) w
        ⟨fun _ => ⟨β, s, hit, hr, Ext.refl _ _⟩, fun h => by omega⟩ ?_).mono ?_⟩
      · intro i hi w' ⟨c1, c2⟩
        by_cases h1 : i < 15
        · obtain ⟨β', s1, d1, d2, d3⟩ := c1 h1
          obtain ⟨m, hm⟩ : ∃ m, 15 - i = m + 1 := ⟨14 - i, by omega⟩
          rw [hm] at d1
          obtain ⟨s2, f1, f2⟩ := gIter_succ d1
          refine (one f1 d2 d3.le).mono ?_
          rintro e w'' ⟨rfl, β'', r2, r3⟩
          refine ⟨rfl, fun h2 => ⟨β'', s2, by rw [show 15 - (i + 1) = m by omega]; exact f2, r2, d3.trans r3⟩, fun h2 => ?_⟩
          obtain rfl : m = 0 := by omega
          obtain rfl := Option.some.inj (show some s2 = some (.mk h0 nx) from f2)
          obtain ⟨g1, g2, g3⟩ := arrive r2 (d3.trans r3)
          obtain rfl : i = 14 := by omega
          have e0 : St ((14 + 1 - 15) % 3) = gI B bs nx 0 := by rw [hSt]; rfl
          rw [e0]
          exact ⟨(d3.trans r3).next, _, g1, g2, lowMap_at nx 5, g3⟩
        · obtain ⟨hnx, β', d1, d2, d3, d4⟩ := c2 (by omega)
          have kn : ∀ {β'' : EMp}, β'.le β'' → ∀ b ∈ bs, ∃ l, β'' b = some l := fun hle b hb => by
            obtain ⟨-, l', hl'⟩ := d4 b hb
            exact ⟨l', hle _ _ hl'⟩
          have kl : ∀ b ∈ bs, b < nx := fun b hb => (d4 b hb).1
          -- a round between
          have mid : ∀ {r : Nat}, (i - 15) % 3 = r → r ≤ 1 → k 19 [.ptr (some (wb, 0))] (St r) = .v (.tup []) (St (r + 1)) → Calls Tryz.prog 19 #[.pointer (some ⟨l.c, l.sh + 0, none⟩)] w' fun e w'' => e = .returned (.tuple #[]) ∧
              (i + 1 < 15 → ∃ β' s1, gIter k [.ptr (some (wb, 0))] (15 - (i + 1)) s1 = some (.mk h0 nx) ∧ HR w0 β' s1 w'' ∧ Ext β s β' s1) ∧
              (15 ≤ i + 1 → s.next ≤ nx ∧ ∃ β', HR w0 β' (St ((i + 1 - 15) % 3)) w'' ∧ Ext β s β' (St ((i + 1 - 15) % 3)) ∧ β' nx = some ⟨5 + (i + 1 - 15) / 3, 0, 0⟩ ∧ ∀ b ∈ bs, b < nx ∧ ∃ l, β' b = some l) := by
            intro r hr3 hr1 hst
            rw [hr3] at d1 d2
            refine (one hst d1 d2.le).mono ?_
            rintro e w'' ⟨rfl, β'', r2, r3⟩
            rw [show (i + 1 - 15) % 3 = r + 1 by omega, show (i + 1 - 15) / 3 = (i - 15) / 3 by omega]
            exact ⟨rfl, fun h2 => by omega, fun _ => ⟨hnx, β'', r2, d2.trans r3, r3.le _ _ d3, fun b hb => ⟨kl b hb, kn r3.le b hb⟩⟩⟩
          rcases (by omega : (i - 15) % 3 = 0 ∨ (i - 15) % 3 = 1 ∨ (i - 15) % 3 = 2) with h3 | h3 | h3
          · exact mid h3 (by omega) (by rw [hSt]; exact st0)
          · exact mid h3 (by omega) (by rw [hSt]; exact st1)
          · have e2 : St 2 = s2 := by rw [hSt]; rfl
            have e0 : St 0 = gI B bs nx 0 := by rw [hSt]; rfl
            rw [h3, e2] at d1 d2
            refine (one st2 d1 d2.le).mono ?_
            rintro e w'' ⟨rfl, β'', r2, r3⟩
            refine ⟨rfl, fun h2 => by omega, fun _ => ⟨hnx, ?_⟩⟩
            rw [show (i + 1 - 15) % 3 = 0 by omega, show (i + 1 - 15) / 3 = (i - 15) / 3 + 1 by omega, e0]
            have d3' := r3.le _ _ d3
            have hn1 : nx + 1 ≤ s3.next := Nat.le_trans (d1.lt _ _ d3) r3.next
            have he : ∀ b, b < nx → (gPuts .bot 5 bs s3.heap).get b = B.get b := fun b hb => gEqT_get b2 hb
            refine ⟨lowMap β'' nx (5 + ((i - 15) / 3 + 1)), to_idle (z := 3 * (5 + (i - 15) / 3) + 3) r2 (by omega) (by omega) he hBr hB0 kl (fun b hb l' hl' => ?_) (by omega) (by omega) (by omega), ext_idle hr (d2.trans r3) hnx (kn r3.le) fun b hb hn => ?_, lowMap_at nx _, fun b hb => ⟨kl b hb, ?_⟩⟩
            · obtain ⟨v, v1, v2⟩ := r2.load1 hl' (gAre_ok b1 b hb)
              rw [gForm_inv (by omega) d3' v1] at v2
              rw [v2]
              congr 2
            · rw [← he b (by omega), gPuts_get _ _ _ hn]
            · obtain ⟨l', hl'⟩ := kn r3.le b hb
              exact ⟨l', by rw [lowMap_lt (kl b hb)]; exact hl'⟩
      · rintro e w' ⟨rfl, -, c2⟩
        obtain ⟨-, β', d1, d2, -, -⟩ := c2 (by omega)
        have e0 : St ((150 - 15) % 3) = gI B bs nx 0 := by rw [hSt]; rfl
        rw [e0] at d1 d2
        exact ⟨_, rfl, β', .tup .nil, d1, d2⟩

noncomputable section
/-- g is h, but that blocks from n0 on may lack. -/
def gSubT (n0 : Nat) (h : ETr EBlk) : ETr EBlk → Nat → Nat → Bool :=
  ETr.rec (motive := fun _ => ETr EBlk → Nat → Nat → Bool) (fun g _ _ => match g with | .e => true | .n _ _ _ => false)
    (fun v l r il ir g a m => match g with
      | .e => gNone n0 (.n v l r) a m
      | .n u l' r' => match (match u with
          | none => (match v with | none => true | some _ => Nat.ble n0 a)
          | some y => gEqOB v (some y)) with
        | true => match il l' (Nat.add a m) (Nat.mul 2 m) with
          | true => ir r' (Nat.add a (Nat.mul 2 m)) (Nat.mul 2 m)
          | false => false
        | false => false) h
def gSub (n0 : Nat) (s t : ESt) : Bool := match s with
  | .mk h n => match t with
    | .mk g m => match Nat.beq n m with
      | true => gSubT n0 h g 0 1
      | false => false
/-- n rounds from L come to M. -/
def gStage (k : ECall) (a : List EV) (n0 n : Nat) (L M : ESt) : Bool := match gIter k a n L with
  | none => false
  | some t => gSub n0 t M
/-- Behind the last round that changes something: rounds of three abstract states. -/
def gBackR (B : ETr EBlk) (bs : List Nat) (nx : Nat) (r : Int) (s : ESt) : Bool := match s with
  | .mk h n => match gAre (.mk h n) (gForm nx r) bs with
    | true => gEqT nx B (gPuts .bot 5 bs h) 0 1
    | false => false
def gIdleR (k : ECall) (a : List EV) (B : ETr EBlk) (bs : List Nat) (nx : Nat) (r : Int) : Bool := match B.get nx with
  | some _ => false
  | none => match gRefT nx B with
    | false => false
    | true => match gStep k a (gI B bs nx r) with
      | none => false
      | some s1 => match gStep k a s1 with
        | none => false
        | some s2 => match gStep k a s2 with
          | none => false
          | some s3 => match gAre (gI B bs nx r) (gForm nx r) bs with
            | true => gBackR B bs nx (Int.add r 3) s3
            | false => false
/-- Is this state at rest, the ticks 3 q + r? -/
def gAtRest (k : ECall) (w : Nat) (q r : Nat) (t : ESt) : Bool := match t with
  | .mk h nx => match gPaths t w gLinks with
    | none => false
    | some bs => match gAre t (.int .i64 (Int.ofNat (Nat.add (Nat.mul 3 q) r))) bs with
      | false => false
      | true => gIdleR k [.ptr (some (w, 0))] (gPuts .bot 5 bs h) bs nx (Int.ofNat r)
/-- The same state, its ticks z. -/
def gFin (w z r : Nat) (t : ESt) : ESt := match t with
  | .mk h nx => match gPaths t w gLinks with
    | none => .mk .e 0
    | some bs => .mk (gPuts (.int .i64 (Int.ofNat z)) 5 bs (gPuts (gForm nx (Int.ofNat r)) 5 bs (gPuts .bot 5 bs h))) (Nat.succ nx)
/-- Rests, from a state that is known. -/
def iRestL (w : Nat) (L F : ESt) (_ : ECall) (a : List EV) (s : ESt) : EO := match a with
  | [.ptr (some (v, 0))] => match Nat.beq v w with
    | false => .er
    | true => match gSub s.next s L with
      | true => .v (.tup []) F
      | false => .er
  | _ => .er
end
theorem gSubT_n (n0 : Nat) (v : Option EBlk) (l r g : ETr EBlk) (a m : Nat) : gSubT n0 (.n v l r) g a m = match g with
      | .e => gNone n0 (.n v l r) a m
      | .n u l' r' => (match (match u with
          | none => (match v with | none => true | some _ => Nat.ble n0 a)
          | some y => gEqOB v (some y)) with
        | true => (match gSubT n0 l l' (a + m) (2 * m) with
          | true => gSubT n0 r r' (a + 2 * m) (2 * m)
          | false => false)
        | false => false) := rfl
theorem gSubT_ok {n0 : Nat} : ∀ {h g : ETr EBlk} {a m : Nat}, gSubT n0 h g a m = true → ∀ p : EPth, (p.at_ a m < n0 → g.getP p = h.getP p) ∧ (g.getP p = h.getP p ∨ g.getP p = none)
  | .e, .e, _, _, _, p => ⟨fun _ => rfl, .inl rfl⟩
  | .e, .n _ _ _, _, _, hg, _ => by cases hg
  | .n v l r, .e, a, m, hg, p => by
    have hg : gNone n0 (.n v l r) a m = true := hg
    exact ⟨fun hp => by rw [gNone_ok hg p hp, ETr.getP_e], .inr (ETr.getP_e p)⟩
  | .n v l r, .n u l' r', a, m, hg, p => by
    rw [gSubT_n] at hg
    simp only at hg
    split at hg
    · rename_i hv
      split at hg
      · rename_i hl
        cases p with
        | z =>
          cases u with
          | none =>
            refine ⟨fun hp => ?_, .inr rfl⟩
            cases v with
            | none => rfl
            | some y =>
              have := Nat.le_of_ble_eq_true hv
              rw [EPth.at_z] at hp
              omega
          | some y => exact ⟨fun _ => (gEqOB_eq hv).symm, .inl (gEqOB_eq hv).symm⟩
        | l p =>
          have := gSubT_ok hl p
          rw [EPth.at_l]
          exact this
        | r p =>
          have := gSubT_ok hg p
          rw [EPth.at_r]
          exact this
      · cases hg
    · cases hg
theorem gSub_ok {n0 : Nat} {s t : ESt} (h : gSub n0 s t = true) : s.next = t.next ∧ ∀ b, (b < n0 → t.heap.get b = s.heap.get b) ∧ (t.heap.get b = s.heap.get b ∨ t.heap.get b = none) := by
  obtain ⟨h0, n⟩ := s
  obtain ⟨g, m⟩ := t
  unfold gSub at h
  simp only at h
  split at h
  · rename_i hb
    refine ⟨Nat.eq_of_beq_eq_true hb, fun b => ?_⟩
    have := gSubT_ok h (ePath b)
    have e : (ePath b).at_ 0 1 = b := by
      unfold EPth.at_ ePath
      rw [ePathF_val _ _ (Nat.lt_succ_self _)]
      omega
    rw [e] at this
    exact this
  · cases h
section
variable {w0 w : World} {β β0 : EMp} {s t s0 : ESt}
theorem HR.sub {n0 : Nat} (hr : HR w0 β s w) (h : gSub n0 s t = true) : HR w0 β t w := by
  obtain ⟨hn, hb⟩ := gSub_ok h
  refine ⟨hr.up, fun b l e => by rw [← hn]; exact hr.lt b l e, fun b l k e hk => ?_, fun b b' l l' k k' e e' g g' v1 v2 ec => ?_⟩
  · rcases (hb b).2 with h1 | h1
    · rw [h1] at hk; exact hr.blk b l k e hk
    · rw [h1] at hk; cases hk
  · rcases (hb b).2 with h1 | h1
    · rcases (hb b').2 with h2 | h2
      · rw [h1] at g
        rw [h2] at g'
        exact hr.inj b b' l l' k k' e e' g g' v1 v2 ec
      · rw [h2] at g'; cases g'
    · rw [h1] at g; cases g
theorem Ext.sub {n0 : Nat} (he : Ext β0 s0 β s) (hn0 : s0.next = n0) (h : gSub n0 s t = true) : Ext β0 s0 β t := by
  obtain ⟨hn, hb⟩ := gSub_ok h
  refine ⟨he.le, by rw [← hn]; exact he.next, fun b hl e => ?_⟩
  obtain ⟨g1, g2⟩ := he.un b hl e
  exact ⟨g1, by rw [(hb b).1 (by omega), g2]⟩
end
/-- Rounds, and blocks forgotten between them. -/
inductive Tr (k : ECall) (a : List EV) (n0 : Nat) : Nat → ESt → ESt → Prop
  | nil (s : ESt) : Tr k a n0 0 s s
  | cut {n : Nat} {s t u : ESt} (h : gSub n0 s t = true) (r : Tr k a n0 n t u) : Tr k a n0 n s u
  | step {n : Nat} {s t u : ESt} (h : k 19 a s = .v (.tup []) t) (r : Tr k a n0 n t u) : Tr k a n0 (n + 1) s u
theorem Tr.iter {k : ECall} {a : List EV} {n0 m : Nat} : ∀ {n : Nat} {s t u : ESt}, gIter k a n s = some t → Tr k a n0 m t u → Tr k a n0 (n + m) s u
  | 0, s, t, u, h, r => by
    obtain rfl := Option.some.inj (show some s = some t from h)
    rw [Nat.zero_add]
    exact r
  | n + 1, s, t, u, h, r => by
    obtain ⟨s', h1, h2⟩ := gIter_succ h
    rw [show n + 1 + m = n + m + 1 by omega]
    exact .step h1 (Tr.iter h2 r)
theorem Tr.stage {k : ECall} {a : List EV} {n0 n m : Nat} {L M u : ESt} (h : gStage k a n0 n L M = true) (r : Tr k a n0 m M u) : Tr k a n0 (n + m) L u := by
  unfold gStage at h
  split at h
  · cases h
  · rename_i t ht
    exact Tr.iter ht (.cut h r)
theorem Tr.next {k : ECall} {a : List EV} {n0 : Nat} {w0 w : World} {β β0 : EMp} {s0 : ESt} (hn0 : s0.next = n0) {m : Nat} {s u : ESt} (h : Tr k a n0 m s u) : ∀ n, m = n + 1 → HR w0 β s w → Ext β0 s0 β s →
    ∃ s1 s2, HR w0 β s1 w ∧ Ext β0 s0 β s1 ∧ k 19 a s1 = .v (.tup []) s2 ∧ Tr k a n0 n s2 u := by
  induction h with
  | nil s => intro n e; cases e
  | cut h r ih => exact fun n e hr he => ih n e (hr.sub h) (he.sub hn0 h)
  | step h r ih =>
    intro n e hr he
    injection e with e
    subst e
    exact ⟨_, _, hr, he, h, r⟩
theorem Tr.last {k : ECall} {a : List EV} {n0 : Nat} {w0 w : World} {β β0 : EMp} {s0 : ESt} (hn0 : s0.next = n0) {m : Nat} {s u : ESt} (h : Tr k a n0 m s u) : m = 0 → HR w0 β s w → Ext β0 s0 β s → HR w0 β u w ∧ Ext β0 s0 β u := by
  induction h with
  | nil s => exact fun _ hr he => ⟨hr, he⟩
  | cut h r ih => exact fun e hr he => ih e (hr.sub h) (he.sub hn0 h)
  | step h r ih => intro e; cases e

theorem gBackR_inv {B : ETr EBlk} {bs : List Nat} {nx : Nat} {r : Int} {s : ESt} (h : gBackR B bs nx r s = true) : gAre s (gForm nx r) bs = true ∧ gEqT nx B (gPuts .bot 5 bs s.heap) 0 1 = true := by
  obtain ⟨g, n⟩ := s
  have h : (match gAre (.mk g n) (gForm nx r) bs with
    | true => gEqT nx B (gPuts .bot 5 bs g) 0 1
    | false => false) = true := h
  split at h
  · rename_i ha
    exact ⟨ha, h⟩
  · cases h
/-- A state that is at rest, as facts. -/
theorem gAtRest_inv {k : ECall} {w q r : Nat} {h : ETr EBlk} {nx : Nat} (hid : gAtRest k w q r (.mk h nx) = true) : ∃ bs s1 s2 s3, gPaths (.mk h nx) w gLinks = some bs ∧ gAre (.mk h nx) (.int .i64 (Int.ofNat (Nat.add (Nat.mul 3 q) r))) bs = true ∧
    (gPuts .bot 5 bs h).get nx = none ∧ gRefT nx (gPuts .bot 5 bs h) = true ∧
    k 19 [.ptr (some (w, 0))] (gI (gPuts .bot 5 bs h) bs nx (Int.ofNat r)) = .v (.tup []) s1 ∧ k 19 [.ptr (some (w, 0))] s1 = .v (.tup []) s2 ∧ k 19 [.ptr (some (w, 0))] s2 = .v (.tup []) s3 ∧
    gAre (gI (gPuts .bot 5 bs h) bs nx (Int.ofNat r)) (gForm nx (Int.ofNat r)) bs = true ∧ gAre s3 (gForm nx (Int.add (Int.ofNat r) 3)) bs = true ∧ gEqT nx (gPuts .bot 5 bs h) (gPuts .bot 5 bs s3.heap) 0 1 = true := by
  unfold gAtRest at hid
  simp only at hid
  split at hid <;> first | (cases hid; done) | skip
  rename_i bs hps
  split at hid <;> first | (cases hid; done) | skip
  rename_i h15
  unfold gIdleR at hid
  split at hid <;> first | (cases hid; done) | skip
  rename_i hB0
  split at hid <;> first | (cases hid; done) | skip
  rename_i hBr
  split at hid <;> first | (cases hid; done) | skip
  rename_i s1 st0
  split at hid <;> first | (cases hid; done) | skip
  rename_i s2 st1
  split at hid <;> first | (cases hid; done) | skip
  rename_i s3 st2
  split at hid <;> first | (cases hid; done) | skip
  rename_i hA
  obtain ⟨b1, b2⟩ := gBackR_inv hid
  exact ⟨bs, s1, s2, s3, hps, h15, hB0, hBr, gStep_inv st0, gStep_inv st1, gStep_inv st2, hA, b1, b2⟩
theorem iRestL_ok {k0 : ECall} (hk : KS Tryz.prog k0) {wb n q r : Nat} {L T F : ESt} (hn1 : 1 ≤ n) (hn : n ≤ 150) (hd : (150 - n) % 3 = 0) (hq : q ≤ 1000) (hr2 : r ≤ 2) (htr : Tr k0 [.ptr (some (wb, 0))] L.next n L T) (hid : gAtRest k0 wb q r T = true) (hF : F = gFin wb (3 * q + r + (150 - n)) r T)
    {k : ECall} {args : List EV} {s s' : ESt} {x : EV} (ha : iRestL wb L F k args s = .v x s') : KOk Tryz.prog 15 args s x s' := fun w0 β w av hg hr hv => by
  unfold iRestL at ha
  split at ha <;> first | (cases ha; done) | skip
  rename_i v
  split at ha <;> first | (cases ha; done) | skip
  rename_i hvw
  split at ha <;> first | (cases ha; done) | skip
  rename_i hsub
  injection ha with e1 e2
  subst e1 e2
  obtain rfl := Nat.eq_of_beq_eq_true hvw
  obtain ⟨h, nx⟩ := T
  obtain ⟨bs, s1, s2, s3, hps, h15, hB0, hBr, st0, st1, st2, hA, b1, b2⟩ := gAtRest_inv hid
  have hF : F = .mk (gPuts (.int .i64 (Int.ofNat (3 * q + r + (150 - n)))) 5 bs (gPuts (gForm nx (Int.ofNat r)) 5 bs (gPuts .bot 5 bs h))) (Nat.succ nx) := by
    rw [hF]
    unfold gFin
    simp only [hps]
  subst hF
  have hLn : L.next = s.next := (gSub_ok hsub).1.symm
  rw [hLn] at htr
  obtain ⟨B, hB⟩ : ∃ B, B = gPuts .bot 5 bs h := ⟨_, rfl⟩
  rw [← hB] at hB0 hBr st0 hA b2 ⊢
  obtain ⟨St, hSt⟩ : ∃ St : Nat → ESt, St = fun j => match j with | 0 => gI B bs nx (Int.ofNat r) | 1 => s1 | _ => s2 := ⟨_, rfl⟩
  have hlt : 1024 ≤ s.next := by
    obtain ⟨m, hm⟩ := hg 1023 (by decide)
    exact hr.lt _ _ hm
  have hrL : HR w0 β L w := hr.sub hsub
  have heL : Ext β s β L := (Ext.refl β s).sub rfl hsub
  obtain ⟨av⟩ := av
  have hv0 := hv
  cases hv with
  | cons hv1 hv2 =>
    cases hv2
    cases hv1 with
    | ptr hwb =>
      rename_i l
      have hround : Enters Tryz.prog 19 := enters_of Tryz.func19 (by kernel_rfl) rfl
      -- one round
      have one : ∀ {β' : EMp} {s1 s2 : ESt} {w' : World}, k0 19 [.ptr (some (v, 0))] s1 = .v (.tup []) s2 → HR w0 β' s1 w' → β.le β' →
          Calls Tryz.prog 19 #[.pointer (some ⟨l.c, l.sh + 0, none⟩)] w' fun e w'' => e = .returned (.tuple #[]) ∧ ∃ β'', HR w0 β'' s2 w'' ∧ Ext β' s1 β'' s2 := by
        intro β' s1 s2 w' hkk h1 hle
        rcases hk _ _ _ _ _ hkk w0 β' w' #[.pointer (some ⟨l.c, l.sh + 0, none⟩)] (hg.mono hle) h1 (hv0.mono hle) with ⟨v, w'', q, -⟩ | ⟨-, q⟩
        · rw [hround] at q
          cases q
        · refine q.mono ?_
          rintro e w'' ⟨v, rfl, β'', r1, r2, r3⟩
          cases r1 with
          | tup r1 =>
            rename_i ra
            obtain ⟨ra⟩ := ra
            cases r1
            exact ⟨rfl, β'', r2, r3⟩
      -- behind the rounds that change something
      have arrive : ∀ {β' : EMp} {w' : World}, HR w0 β' (.mk h nx) w' → Ext β s β' (.mk h nx) → HR w0 (lowMap β' nx q) (gI B bs nx (Int.ofNat r)) w' ∧ Ext β s (lowMap β' nx q) (gI B bs nx (Int.ofNat r)) ∧ ∀ b ∈ bs, b < nx ∧ ∃ l, lowMap β' nx q b = some l := by
        intro β' w' h1 h2
        have hnx : s.next ≤ nx := h2.next
        have kn := gPaths_ok h1 (h2.le _ _ hwb) hps
        have kl : ∀ b ∈ bs, b < nx := fun b hb => by
          obtain ⟨l', hl'⟩ := kn b hb
          exact h1.lt _ _ hl'
        refine ⟨to_idle (z := 3 * q + r) h1 (by omega) (Nat.le_refl nx) (fun b _ => by rw [hB]; rfl) hBr hB0 kl (fun b hb l' hl' => ?_) (by omega) (by simp only [Int.ofNat_eq_natCast]; omega) (by simp only [Int.ofNat_eq_natCast]; omega), ext_idle hr h2 hnx kn fun b hb hn => ?_, fun b hb => ⟨kl b hb, ?_⟩⟩
        · obtain ⟨v, v1, v2⟩ := h1.load1 hl' (gAre_ok h15 b hb)
          cases v1
          exact v2
        · rw [hB, gPuts_get _ _ _ hn]
          rfl
        · obtain ⟨l', hl'⟩ := kn b hb
          exact ⟨l', by rw [lowMap_lt (kl b hb)]; exact hl'⟩
      refine .inr ⟨enters_of Tryz.func15 (by kernel_rfl) rfl _ _, (rests_walk (.pointer (some ⟨l.c, l.sh + 0, none⟩)) (fun i w' =>
        (i < n → ∃ β' s1, Tr k0 [.ptr (some (v, 0))] s.next (n - i) s1 (.mk h nx) ∧ HR w0 β' s1 w' ∧ Ext β s β' s1) ∧
        (n ≤ i → s.next ≤ nx ∧ ∃ β', HR w0 β' (St ((i - n) % 3)) w' ∧ Ext β s β' (St ((i - n) % 3)) ∧ β' nx = some ⟨q + (i - n) / 3, 0, 0⟩ ∧ ∀ b ∈ bs, b < nx ∧ ∃ l, β' b = some l)) w
        ⟨fun _ => ⟨β, L, htr, hrL, heL⟩, fun h => by omega⟩ ?_).mono ?_⟩
      · intro i hi w' ⟨c1, c2⟩
        by_cases h1 : i < n
        · obtain ⟨β', s1, d1, d2, d3⟩ := c1 h1
          obtain ⟨s1, s2, d2, d3, f1, f2⟩ := d1.next rfl (n - i - 1) (by omega) d2 d3
          refine (one f1 d2 d3.le).mono ?_
          rintro e w'' ⟨rfl, β'', r2, r3⟩
          refine ⟨rfl, fun h2 => ⟨β'', s2, by rw [show n - (i + 1) = n - i - 1 by omega]; exact f2, r2, d3.trans r3⟩, fun h2 => ?_⟩
          obtain ⟨r2, r4⟩ := f2.last rfl (by omega) r2 (d3.trans r3)
          obtain ⟨g1, g2, g3⟩ := arrive r2 r4
          obtain rfl : n = i + 1 := by omega
          have e0 : St ((i + 1 - (i + 1)) % 3) = gI B bs nx (Int.ofNat r) := by rw [hSt, Nat.sub_self]; rfl
          rw [e0]
          exact ⟨r4.next, _, g1, g2, by rw [Nat.sub_self]; exact lowMap_at nx q, g3⟩
        · obtain ⟨hnx, β', d1, d2, d3, d4⟩ := c2 (by omega)
          have kn : ∀ {β'' : EMp}, β'.le β'' → ∀ b ∈ bs, ∃ l, β'' b = some l := fun hle b hb => by
            obtain ⟨-, l', hl'⟩ := d4 b hb
            exact ⟨l', hle _ _ hl'⟩
          have kl : ∀ b ∈ bs, b < nx := fun b hb => (d4 b hb).1
          -- a round between
          have mid : ∀ {j : Nat}, (i - n) % 3 = j → j ≤ 1 → k0 19 [.ptr (some (v, 0))] (St j) = .v (.tup []) (St (j + 1)) → Calls Tryz.prog 19 #[.pointer (some ⟨l.c, l.sh + 0, none⟩)] w' fun e w'' => e = .returned (.tuple #[]) ∧
              (i + 1 < n → ∃ β' s1, Tr k0 [.ptr (some (v, 0))] s.next (n - (i + 1)) s1 (.mk h nx) ∧ HR w0 β' s1 w'' ∧ Ext β s β' s1) ∧
              (n ≤ i + 1 → s.next ≤ nx ∧ ∃ β', HR w0 β' (St ((i + 1 - n) % 3)) w'' ∧ Ext β s β' (St ((i + 1 - n) % 3)) ∧ β' nx = some ⟨q + (i + 1 - n) / 3, 0, 0⟩ ∧ ∀ b ∈ bs, b < nx ∧ ∃ l, β' b = some l) := by
            intro j hr3 hr1 hst
            rw [hr3] at d1 d2
            refine (one hst d1 d2.le).mono ?_
            rintro e w'' ⟨rfl, β'', r2, r3⟩
            rw [show (i + 1 - n) % 3 = j + 1 by omega, show (i + 1 - n) / 3 = (i - n) / 3 by omega]
            exact ⟨rfl, fun h2 => by omega, fun _ => ⟨hnx, β'', r2, d2.trans r3, r3.le _ _ d3, fun b hb => ⟨kl b hb, kn r3.le b hb⟩⟩⟩
          rcases (by omega : (i - n) % 3 = 0 ∨ (i - n) % 3 = 1 ∨ (i - n) % 3 = 2) with h3 | h3 | h3
          · exact mid h3 (by omega) (by rw [hSt]; exact st0)
          · exact mid h3 (by omega) (by rw [hSt]; exact st1)
          · have e2 : St 2 = s2 := by rw [hSt]; rfl
            have e0 : St 0 = gI B bs nx (Int.ofNat r) := by rw [hSt]; rfl
            rw [h3, e2] at d1 d2
            refine (one st2 d1 d2.le).mono ?_
            rintro e w'' ⟨rfl, β'', r2, r3⟩
            refine ⟨rfl, fun h2 => by omega, fun _ => ⟨hnx, ?_⟩⟩
            rw [show (i + 1 - n) % 3 = 0 by omega, show (i + 1 - n) / 3 = (i - n) / 3 + 1 by omega, e0]
            have d3' := r3.le _ _ d3
            have hn1 : nx + 1 ≤ s3.next := Nat.le_trans (d1.lt _ _ d3) r3.next
            have he : ∀ b, b < nx → (gPuts .bot 5 bs s3.heap).get b = B.get b := fun b hb => gEqT_get b2 hb
            refine ⟨lowMap β'' nx (q + ((i - n) / 3 + 1)), to_idle (z := 3 * (q + (i - n) / 3) + (r + 3)) r2 (by omega) (by omega) he hBr hB0 kl (fun b hb l' hl' => ?_) (by omega) (by simp only [Int.ofNat_eq_natCast]; omega) (by simp only [Int.ofNat_eq_natCast]; omega), ext_idle hr (d2.trans r3) hnx (kn r3.le) fun b hb hn => ?_, lowMap_at nx _, fun b hb => ⟨kl b hb, ?_⟩⟩
            · obtain ⟨v, v1, v2⟩ := r2.load1 hl' (gAre_ok b1 b hb)
              rw [gForm_inv (by omega) d3' v1] at v2
              rw [v2]
              congr 2
            · rw [← he b (by omega), gPuts_get _ _ _ hn]
            · obtain ⟨l', hl'⟩ := kn r3.le b hb
              exact ⟨l', by rw [lowMap_lt (kl b hb)]; exact hl'⟩
      · rintro e w' ⟨rfl, -, c2⟩
        obtain ⟨hnx, β', d1, d2, d3, d4⟩ := c2 (by omega)
        have e0 : St ((150 - n) % 3) = gI B bs nx (Int.ofNat r) := by rw [hSt, hd]; rfl
        rw [e0] at d1 d2
        refine ⟨_, rfl, β', .tup .nil, d1.cellPuts (i := 5) (x := .int .i64 (Int.ofNat (3 * q + r + (150 - n)))) bs fun b hb l' v hl' hc => ?_, d2.le, d2.next, fun b hb e => ?_⟩
        · obtain ⟨v', v1, v2⟩ := d1.load1 hl' (gAre_ok hA b hb)
          rw [gForm_inv (by omega) d3 v1] at v2
          rw [v2] at hc
          obtain rfl := Option.some.inj hc
          have : (Int.ofNat (3 * q + r + (150 - n)) : Int) = 3 * ((q + (150 - n) / 3 : Nat) : Int) + Int.ofNat r := by simp only [Int.ofNat_eq_natCast]; omega
          rw [this]
          exact .int _ _
        · obtain ⟨g1, g2⟩ := d2.un b hb e
          refine ⟨g1, ?_⟩
          rw [← g2]
          refine gPuts_get _ _ _ fun hm => ?_
          obtain ⟨-, l', hl'⟩ := d4 b hm
          rw [g1] at hl'
          cases hl'
end Go.Proofs.YtjckpgcmfieaoaaGreatDoor
namespace Go.Proofs.YtjckpgcmfieaoaaGreatDoor
noncomputable section
def yX (a b : List SX) : List SX := List.rec (motive := fun _ => List SX) b (fun x _ ih => x :: ih) a
def yL (l : List SX) (z : SX) : SX := List.rec (motive := fun _ => SX) z (fun b _ ih => .cons b ih) l
def yC (l : List Nat) : List SX := List.rec (motive := fun _ => List SX) [] (fun n _ ih => .cst (Int.ofNat n) :: ih) l
def yS (m : SX) : List SX := Nat.rec (motive := fun _ => List SX → List SX) (fun r => r) (fun i ih r => ih (.term 1 (.sha i m) (.cst 0) :: r)) 32 []
def yA (a b : List EV) : List EV := List.rec (motive := fun _ => List EV) b (fun x _ ih => x :: ih) a
def yB (n v : Nat) : List EV := Nat.rec (motive := fun _ => Nat → List EV) (fun _ => []) (fun _ ih v => .int .u8 (Int.ofNat (Nat.mod v 256)) :: ih (Nat.div v 256)) n v
def yR (n : Nat) (x : EV) : List EV := Nat.rec (motive := fun _ => List EV) [] (fun _ ih => x :: ih) n
def yRow (n : Nat) (l : List EV) : EBlk := .row n (eRow l 0 .e)
def vP (b o : Nat) : EV := .ptr (some (b, o))
def vS (b o l c z : Nat) : EV := .sl (some (b, o)) l c z
def vN : EV := .ptr none
def yH (l : List (Nat × EBlk)) (h : ETr EBlk) : ETr EBlk := List.rec (motive := fun _ => ETr EBlk) h (fun p _ ih => ih.set p.1 p.2) l
end
end Go.Proofs.YtjckpgcmfieaoaaGreatDoor
