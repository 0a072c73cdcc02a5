/-
  The trace of a region that draws its order.
-/
import Derived.Test.YtjckpgcmfieaoaaGreatDoorAvM
namespace Go.Proofs.YtjckpgcmfieaoaaGreatDoor
open Go.RowKit

section
variable {P : Program} {k : ECall} {N : Nat}
theorem eSameO_eq {a b : Option (Nat × Nat)} (h : eSameO a b = true) : a = b := by
  cases a with
  | none => cases b with | none => rfl | some _ => cases h
  | some p => cases b with
    | none => cases h
    | some q =>
      obtain ⟨p1, p2⟩ := p
      obtain ⟨q1, q2⟩ := q
      have h : (Nat.beq p1 q1 && Nat.beq p2 q2) = true := h
      rw [Bool.and_eq_true] at h
      rw [Nat.eq_of_beq_eq_true h.1, Nat.eq_of_beq_eq_true h.2]
theorem eSameS_eq {x y : EV} (h : eSameS x y = true) : x = y := by
  unfold eSameS at h
  split at h <;> (try (cases h; done)) <;> split at h <;> (try (cases h; done))
  · simp only [Bool.and_eq_true, beq_iff_eq, eIntEq_eq, decide_eq_true_eq] at h
    rw [h.1, h.2]
  · rename_i a _ b
    cases a <;> cases b <;> first | rfl | cases h
  · rw [(eNatsEq_eq _ _).1 h]
  · rw [eSameO_eq h]
  · simp only [Bool.and_eq_true] at h
    obtain ⟨⟨⟨h1, h2⟩, h3⟩, h4⟩ := h
    rw [eSameO_eq h1, Nat.eq_of_beq_eq_true h2, Nat.eq_of_beq_eq_true h3, Nat.eq_of_beq_eq_true h4]
  · rfl
  · rw [Nat.eq_of_beq_eq_true h]
  · rfl
  · rfl
  · rw [Nat.eq_of_beq_eq_true h]
theorem eSameL_cons (x : EV) (a b : List EV) : eSameL (x :: a) b = match b with
      | [] => false
      | y :: r => match eSameS x y with | true => eSameL a r | false => false := rfl
theorem eSameL_eq : ∀ {a b : List EV}, eSameL a b = true → a = b
  | [], [], _ => rfl
  | [], _ :: _, h => by cases h
  | x :: a, [], h => by cases h
  | x :: a, y :: b, h => by
    rw [eSameL_cons] at h
    simp only at h
    cases hs : eSameS x y with
    | false => rw [hs] at h; cases h
    | true =>
      rw [hs] at h
      rw [eSameS_eq hs, eSameL_eq h]
theorem eSame_eq {x y : EV} (h : eSame x y = true) : x = y := by
  unfold eSame at h
  split at h
  · split at h
    · rw [eSameL_eq h]
    · cases h
  · split at h
    · rw [eSameL_eq h]
    · cases h
  · exact eSameS_eq h
theorem eCheck_cons (m : Nat) (s : ESt) (p : EPend) (l : List EPend) : eCheck k m s (p :: l) = match Nat.testBit m p.i with
    | true => eCheck k m s l
    | false => EO.rec (motive := fun _ => Bool) false (fun v _ => match eSame p.v v with | true => eCheck k m s l | false => false) (p.c.f k p.tm s) := rfl
theorem check_inv {m : Nat} {s : ESt} : ∀ {l : List EPend}, eCheck k m s l = true → ∀ p ∈ l, m.testBit p.i = true ∨ ∃ s', p.c.f k p.tm s = .v p.v s'
  | [], _, p, hp => by cases hp
  | q :: l, h, p, hp => by
    rw [eCheck_cons] at h
    cases hb : Nat.testBit m q.i with
    | true =>
      rw [hb] at h
      rcases List.mem_cons.1 hp with rfl | hp
      · exact .inl hb
      · exact check_inv h p hp
    | false =>
      rw [hb] at h
      simp only at h
      cases hr : q.c.f k q.tm s with
      | er => rw [hr] at h; cases h
      | v v s' =>
        rw [hr] at h
        simp only at h
        cases hs : eSame q.v v with
        | false => rw [hs] at h; cases h
        | true =>
          rw [hs] at h
          rcases List.mem_cons.1 hp with rfl | hp
          · exact .inr ⟨s', by rw [hr, eSame_eq hs]⟩
          · exact check_inv h p hp
/-- What a guard says. -/
def GdIs (all : List Oper) (o : Oper) (tm : ERg) (b : Bool) : Prop := match o.guard with
  | none => b = true
  | some (j, want) => ∃ q p, all[j]? = some q ∧ q.dst = some p ∧ p < 256 ∧ ((∃ c, ERg.get p tm = .bool c ∧ b = (c == want)) ∨ (ERg.get p tm = .tup [] ∧ b = false))
theorem GdIs.wanted {all : List Oper} {o : Oper} {tm : ERg} {b : Bool} (h : GdIs all o tm b) {β : EMp} {a : Act} (hr : ∀ t ∈ o.looksAt all.toArray, t < 256 → VR β (ERg.get t tm) (a.tmps.getD t undef)) : Region.wanted o (yielded all.toArray a.tmps) = b := by
  unfold GdIs at h
  cases hg : o.guard with
  | none => rw [hg] at h; rw [h]; simp [Region.wanted, hg]
  | some gw =>
    obtain ⟨j, want⟩ := gw
    rw [hg] at h
    simp only at h
    obtain ⟨q, p, h1, h2, h3, h4⟩ := h
    have hv := hr p (by simp [Oper.looksAt, hg, h1, h2]) h3
    have hy : yielded all.toArray a.tmps j = match a.tmps.getD p undef with | .bool b => some b | _ => none := by
      unfold yielded
      rw [show all.toArray[j]? = some q by simpa using h1]
      simp only [Option.bind_some, h2]
      rw [Array.getD_eq_getD_getElem?]
      cases a.tmps[p]? with
      | none => rfl
      | some v => cases v <;> rfl
    generalize a.tmps.getD p undef = v at hv hy
    rcases h4 with ⟨c, h4, h5⟩ | ⟨h4, h5⟩
    · rw [h4] at hv
      obtain rfl := vr_bool hv
      simp only at hy
      rw [h5]
      simp [Region.wanted, hg, hy]
    · rw [h4] at hv
      obtain ⟨arr, rfl, -⟩ := vr_tup hv
      simp only at hy
      rw [h5]
      simp [Region.wanted, hg, hy]
theorem guardD_inv {all : List Oper} {x : EItem} {go ih : EClD} {tm : ERg} {df : EDf} {pd : List EPend} {s : ESt} {out : EOut} (h : (eGuardedD all N x go ih).f k tm df pd s = out) (ho : out ≠ .er) :
    (GdIs all x.o tm true ∧ go.f k tm df pd s = out) ∨ (GdIs all x.o tm false ∧ (∀ t, x.o.dst = some t → t < N) ∧ ih.f k (ePutD x.o.dst tm (.tup [])) df pd s = out) := by
  unfold eGuardedD at h
  unfold GdIs
  cases hg : x.o.guard with
  | none => rw [hg] at h; exact .inl ⟨rfl, h⟩
  | some gw =>
    obtain ⟨j, want⟩ := gw
    cases hn : eNth all j with
    | none => simp only [hg, eGuard, hn] at h; exact absurd h.symm ho
    | some q =>
      cases hd : q.dst with
      | none => simp only [hg, eGuard, hn, hd] at h; exact absurd h.symm ho
      | some p =>
        simp only [hg, eGuard, hn, hd] at h
        cases hp : (Nat.blt p 256 && eDstOk N x.o) with
        | false => rw [hp] at h; exact absurd h.symm ho
        | true =>
          rw [hp] at h
          simp only at h
          rw [Bool.and_eq_true] at hp
          have hdN := dstOk hp.2
          have hq : all[j]? = some q := by rw [← eNth_eq]; exact hn
          have hlt : p < 256 := Nat.le_of_ble_eq_true hp.1
          cases he : ERg.get p tm <;> rw [he] at h <;> first | exact absurd h.symm ho | skip
          · rename_i b
            cases b <;> cases want <;> first
              | exact .inl ⟨⟨q, p, hq, hd, hlt, .inl ⟨_, he, rfl⟩⟩, h⟩
              | exact .inr ⟨⟨q, p, hq, hd, hlt, .inl ⟨_, he, rfl⟩⟩, hdN, h⟩
          · rename_i l
            cases l with
            | cons _ _ => exact absurd h.symm ho
            | nil => exact .inr ⟨⟨q, p, hq, hd, hlt, .inr ⟨he, rfl⟩⟩, hdN, h⟩
/-- The trace: temporaries, states, values, and whether it was done. -/
structure Trc (P : Program) (k : ECall) (all : List Oper) (N : Nat) (L : List EItem) (tm : ERg) (s : ESt) (pd : List EPend) (T : Nat → ERg) (S : Nat → ESt) (V : Nat → EV) (W : Nat → Bool) : Prop where
  t0 : T 0 = tm
  s0 : S 0 = s
  gd : ∀ i x, L[i]? = some x → GdIs all x.o (T i) (W i)
  dst : ∀ (i : Nat) (x : EItem), L[i]? = some x → ∀ t, x.o.dst = some t → t < N
  put : ∀ (i : Nat) (x : EItem), L[i]? = some x → T (i + 1) = ePutD x.o.dst (T i) (V i)
  run : ∀ i x, L[i]? = some x → W i = true → (eOp P x.o).f k (T i) (S i) = .v (V i) (S (i + 1))
  skip : ∀ (i : Nat) (x : EItem), L[i]? = some x → W i = false → V i = .tup [] ∧ S (i + 1) = S i
  chk : ∀ i x, L[i]? = some x → W i = true → eCls P x.o = .eff → ∀ l y, l < i → L[l]? = some y → W l = true → eCls P y.o = .look → x.m.testBit y.i = true ∨ ∃ s', (eOp P y.o).f k (T l) (S (i + 1)) = .v (V l) s'
  chk0 : ∀ i x, L[i]? = some x → W i = true → eCls P x.o = .eff → ∀ p ∈ pd, x.m.testBit p.i = true ∨ ∃ s', p.c.f k p.tm (S (i + 1)) = .v p.v s'
def cons0 {α : Type} (a : α) (f : Nat → α) : Nat → α
  | 0 => a
  | n + 1 => f n
theorem Trc.cons {all : List Oper} {x : EItem} {L : List EItem} {tm tm' : ERg} {s s' : ESt} {pd pd' : List EPend} {T : Nat → ERg} {S : Nat → ESt} {V : Nat → EV} {W : Nat → Bool} {v : EV} {b : Bool} (h : Trc P k all N L tm' s' pd' T S V W)
    (hg : GdIs all x.o tm b) (hd : ∀ t, x.o.dst = some t → t < N) (ht : tm' = ePutD x.o.dst tm v) (hr : b = true → (eOp P x.o).f k tm s = .v v s') (hs : b = false → v = .tup [] ∧ s' = s)
    (hp : ∀ p ∈ pd, p ∈ pd') (hl : b = true → eCls P x.o = .look → ⟨x.i, eOp P x.o, tm, v⟩ ∈ pd') (hc : b = true → eCls P x.o = .eff → ∀ p ∈ pd, x.m.testBit p.i = true ∨ ∃ s2, p.c.f k p.tm s' = .v p.v s2) :
    Trc P k all N (x :: L) tm s pd (cons0 tm T) (cons0 s S) (cons0 v V) (cons0 b W) where
  t0 := rfl
  s0 := rfl
  gd i y hi := by
    cases i with
    | zero => obtain rfl := Option.some.inj hi; exact hg
    | succ i => exact h.gd i y hi
  dst i y hi := by
    cases i with
    | zero => obtain rfl := Option.some.inj hi; exact hd
    | succ i => exact h.dst i y hi
  put i y hi := by
    cases i with
    | zero => obtain rfl := Option.some.inj hi; exact h.t0.trans ht
    | succ i => exact h.put i y hi
  run i y hi hw := by
    cases i with
    | zero =>
      obtain rfl := Option.some.inj hi
      show (eOp P x.o).f k tm s = .v v (S 0)
      rw [h.s0]; exact hr hw
    | succ i => exact h.run i y hi hw
  skip i y hi hw := by
    cases i with
    | zero =>
      obtain rfl := Option.some.inj hi
      show v = .tup [] ∧ S 0 = s
      rw [h.s0]; exact hs hw
    | succ i => exact h.skip i y hi hw
  chk i y hi hw he l z hl2 hz hwz hcz := by
    cases i with
    | zero => omega
    | succ i =>
      cases l with
      | zero =>
        obtain rfl := Option.some.inj hz
        exact h.chk0 i y hi hw he _ (hl hwz hcz)
      | succ l => exact h.chk i y hi hw he l z (by omega) hz hwz hcz
  chk0 i y hi hw he p hpp := by
    cases i with
    | zero =>
      obtain rfl := Option.some.inj hi
      show x.m.testBit p.i = true ∨ ∃ s2, p.c.f k p.tm (S 0) = .v p.v s2
      rw [h.s0]; exact hc hw he p hpp
    | succ i => exact h.chk0 i y hi hw he p (hp p hpp)
theorem trace_run {all : List Oper} : ∀ (L : List EItem) {tm : ERg} {df : EDf} {pd : List EPend} {s : ESt} {out : EOut}, (eOpsD P all N L).f k tm df pd s = out → out ≠ .er →
    ∃ T S V W, Trc P k all N L tm s pd T S V W ∧ out = .n (T L.length) df (S L.length)
  | [], tm, df, pd, s, out, h, ho => ⟨fun _ => tm, fun _ => s, fun _ => .bot, fun _ => true, ⟨rfl, rfl, fun i x h => by simp at h, fun i x h => by simp at h, fun i x h => by simp at h, fun i x h => by simp at h, fun i x h => by simp at h, fun i x h => by simp at h, fun i x h => by simp at h⟩, h.symm⟩
  | x :: L, tm, df, pd, s, out, h, ho => by
    rcases guardD_inv (show (eGuardedD all N x (eStepD P N x (eOpsD P all N L)) (eOpsD P all N L)).f k tm df pd s = out from h) ho with ⟨hg, h⟩ | ⟨hg, hd, h⟩
    · unfold eStepD at h
      cases hd : eDstOk N x.o with
      | false => rw [hd] at h; exact absurd h.symm ho
      | true =>
        rw [hd] at h
        simp only at h
        cases hc : eCls P x.o with
        | look =>
          rw [hc] at h
          obtain ⟨v, s', h1, h2⟩ := er_inv h ho
          obtain ⟨T, S, V, W, g1, g2⟩ := trace_run L h2 ho
          exact ⟨_, _, _, _, g1.cons hg (dstOk hd) rfl (fun _ => h1) (fun e => by cases e) (fun p hp => List.mem_cons_of_mem _ hp) (fun _ _ => List.mem_cons_self ..) (fun _ e => by rw [hc] at e; cases e), g2⟩
        | eff =>
          rw [hc] at h
          obtain ⟨v, s', h1, h2⟩ := er_inv h ho
          cases hk : eCheck k x.m s' pd with
          | false => rw [hk] at h2; exact absurd h2.symm ho
          | true =>
            rw [hk] at h2
            obtain ⟨T, S, V, W, g1, g2⟩ := trace_run L h2 ho
            exact ⟨_, _, _, _, g1.cons hg (dstOk hd) rfl (fun _ => h1) (fun e => by cases e) (fun p hp => hp) (fun _ e => by rw [hc] at e; cases e) (fun _ _ => check_inv hk), g2⟩
        | pure =>
          rw [hc] at h
          obtain ⟨v, s', h1, h2⟩ := er_inv h ho
          obtain ⟨T, S, V, W, g1, g2⟩ := trace_run L h2 ho
          exact ⟨_, _, _, _, g1.cons hg (dstOk hd) rfl (fun _ => h1) (fun e => by cases e) (fun p hp => hp) (fun _ e => by rw [hc] at e; cases e) (fun _ e => by rw [hc] at e; cases e), g2⟩
        | fresh =>
          rw [hc] at h
          obtain ⟨v, s', h1, h2⟩ := er_inv h ho
          obtain ⟨T, S, V, W, g1, g2⟩ := trace_run L h2 ho
          exact ⟨_, _, _, _, g1.cons hg (dstOk hd) rfl (fun _ => h1) (fun e => by cases e) (fun p hp => hp) (fun _ e => by rw [hc] at e; cases e) (fun _ e => by rw [hc] at e; cases e), g2⟩
    · obtain ⟨T, S, V, W, g1, g2⟩ := trace_run L h ho
      exact ⟨_, _, _, _, g1.cons hg hd rfl (fun e => by cases e) (fun _ => ⟨rfl, rfl⟩) (fun p hp => hp) (fun e => by cases e) (fun e => by cases e), g2⟩
end
end Go.Proofs.YtjckpgcmfieaoaaGreatDoor
