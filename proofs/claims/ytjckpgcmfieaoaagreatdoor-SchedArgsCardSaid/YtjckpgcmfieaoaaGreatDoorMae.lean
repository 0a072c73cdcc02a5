/-
  Rows of bytes that are not known.
-/
import Derived.Test.YtjckpgcmfieaoaaGreatDoorMad
set_option linter.unusedVariables false
set_option linter.unusedSimpArgs false
namespace Go.Proofs.YtjckpgcmfieaoaaGreatDoor

section
variable {σ : Nat → Option Nat}
theorem SB.flat {e : SX} {bs : List Nat} (h : SB σ e bs) (hc : ∀ b l, e ≠ .cons b l) : bs = [] := by
  obtain ⟨z, h⟩ := h
  cases e with
  | cons b l => exact absurd rfl (hc b l)
  | var n lo hi =>
    unfold SX.den at h
    split at h
    · split at h
      · injection h with h; injection h with _ h; exact h.symm
      · cases h
    · cases h
  | dm m M e =>
    unfold SX.den at h
    split at h
    · split at h
      · injection h with h; injection h with _ h; exact h.symm
      · cases h
    · cases h
  | sha i l =>
    unfold SX.den at h
    split at h
    · injection h with h; injection h with _ h; exact h.symm
    · cases h
  | cst c => injection h with h; injection h with _ h; exact h.symm
  | term c a r =>
    unfold SX.den at h
    split at h
    · split at h
      · injection h with h; injection h with _ h; exact h.symm
      · cases h
    · cases h
  | nil => injection h with h; injection h with _ h; exact h.symm
theorem SB.len : ∀ {l : SX} {bs : List Nat}, SB σ l bs → sLen l = bs.length
  | .cons b l, bs, h => by
    obtain ⟨x, cs, -, -, -, h2, rfl⟩ := h.cons_inv
    exact congrArg Nat.succ (SB.len h2)
  | .var .., bs, h => by rw [h.flat (fun _ _ e => by cases e)]; rfl
  | .dm .., bs, h => by rw [h.flat (fun _ _ e => by cases e)]; rfl
  | .sha .., bs, h => by rw [h.flat (fun _ _ e => by cases e)]; rfl
  | .cst .., bs, h => by rw [h.flat (fun _ _ e => by cases e)]; rfl
  | .term .., bs, h => by rw [h.flat (fun _ _ e => by cases e)]; rfl
  | .nil, bs, h => by rw [h.flat (fun _ _ e => by cases e)]; rfl
theorem SB.lt : ∀ {l : SX} {bs : List Nat}, SB σ l bs → ∀ b ∈ bs, b < 256
  | .cons b l, bs, h => by
    obtain ⟨x, cs, h0, h1, -, h2, rfl⟩ := h.cons_inv
    intro y hy
    rcases List.mem_cons.1 hy with rfl | hy
    · omega
    · exact SB.lt h2 y hy
  | .var .., bs, h => by rw [h.flat (fun _ _ e => by cases e)]; intro y hy; cases hy
  | .dm .., bs, h => by rw [h.flat (fun _ _ e => by cases e)]; intro y hy; cases hy
  | .sha .., bs, h => by rw [h.flat (fun _ _ e => by cases e)]; intro y hy; cases hy
  | .cst .., bs, h => by rw [h.flat (fun _ _ e => by cases e)]; intro y hy; cases hy
  | .term .., bs, h => by rw [h.flat (fun _ _ e => by cases e)]; intro y hy; cases hy
  | .nil, bs, h => by rw [h.flat (fun _ _ e => by cases e)]; intro y hy; cases hy
theorem sNth_ok : ∀ {l : SX} {bs : List Nat}, SB σ l bs → ∀ {i : Nat} {b : SX}, sNth l i = some b → ∃ x : Nat, bs[i]? = some x ∧ x < 256 ∧ SN σ b x
  | .cons b l, bs, h, i, c, hi => by
    obtain ⟨x, cs, h0, h1, h3, h2, rfl⟩ := h.cons_inv
    cases i with
    | zero =>
      obtain rfl := Option.some.inj hi
      exact ⟨x.toNat, rfl, by omega, by rw [Int.toNat_of_nonneg h0]; exact h3⟩
    | succ i => exact sNth_ok h2 (i := i) hi
  | .var .., bs, h, i, c, hi => by cases hi
  | .dm .., bs, h, i, c, hi => by cases hi
  | .sha .., bs, h, i, c, hi => by cases hi
  | .cst .., bs, h, i, c, hi => by cases hi
  | .term .., bs, h, i, c, hi => by cases hi
  | .nil, bs, h, i, c, hi => by cases hi
theorem sNth_some : ∀ {l : SX} {i : Nat}, i < sLen l → ∃ b, sNth l i = some b
  | .cons b l, 0, _ => ⟨b, rfl⟩
  | .cons b l, i + 1, h => sNth_some (l := l) (i := i) (by have : i + 1 < sLen l + 1 := h; omega)
  | .var .., _, h => absurd h (Nat.not_lt_zero _)
  | .dm .., _, h => absurd h (Nat.not_lt_zero _)
  | .sha .., _, h => absurd h (Nat.not_lt_zero _)
  | .cst .., _, h => absurd h (Nat.not_lt_zero _)
  | .term .., _, h => absurd h (Nat.not_lt_zero _)
  | .nil, _, h => absurd h (Nat.not_lt_zero _)
theorem sTake_ok : ∀ {l : SX} {bs : List Nat}, SB σ l bs → ∀ (n : Nat), SB σ (sTake l n) (bs.take n)
  | .cons b l, bs, h, n => by
    obtain ⟨x, cs, h0, h1, h3, h2, rfl⟩ := h.cons_inv
    cases n with
    | zero => exact .nil
    | succ n => exact .cons h0 h1 h3 (sTake_ok h2 n)
  | .var .., bs, h, n => by rw [h.flat (fun _ _ e => by cases e), List.take_nil]; exact .nil
  | .dm .., bs, h, n => by rw [h.flat (fun _ _ e => by cases e), List.take_nil]; exact .nil
  | .sha .., bs, h, n => by rw [h.flat (fun _ _ e => by cases e), List.take_nil]; exact .nil
  | .cst .., bs, h, n => by rw [h.flat (fun _ _ e => by cases e), List.take_nil]; exact .nil
  | .term .., bs, h, n => by rw [h.flat (fun _ _ e => by cases e), List.take_nil]; exact .nil
  | .nil, bs, h, n => by rw [h.flat (fun _ _ e => by cases e), List.take_nil]; exact .nil
theorem sDrop_ok : ∀ {l : SX} {bs : List Nat}, SB σ l bs → ∀ (n : Nat), SB σ (sDrop l n) (bs.drop n)
  | .cons b l, bs, h, n => by
    obtain ⟨x, cs, h0, h1, h3, h2, rfl⟩ := h.cons_inv
    cases n with
    | zero => exact h
    | succ n => exact sDrop_ok h2 n
  | .var .., bs, h, n => by rw [h.flat (fun _ _ e => by cases e), List.drop_nil]; exact .nil
  | .dm .., bs, h, n => by rw [h.flat (fun _ _ e => by cases e), List.drop_nil]; exact .nil
  | .sha .., bs, h, n => by rw [h.flat (fun _ _ e => by cases e), List.drop_nil]; exact .nil
  | .cst .., bs, h, n => by rw [h.flat (fun _ _ e => by cases e), List.drop_nil]; exact .nil
  | .term .., bs, h, n => by rw [h.flat (fun _ _ e => by cases e), List.drop_nil]; exact .nil
  | .nil, bs, h, n => by rw [h.flat (fun _ _ e => by cases e), List.drop_nil]; exact .nil
theorem sApp_ok {k : SX} {ks : List Nat} (hk : SB σ k ks) : ∀ {l : SX} {bs : List Nat}, SB σ l bs → SB σ (sApp l k) (bs ++ ks)
  | .cons b l, bs, h => by
    obtain ⟨x, cs, h0, h1, h3, h2, rfl⟩ := h.cons_inv
    exact .cons h0 h1 h3 (sApp_ok hk h2)
  | .var .., bs, h => by rw [h.flat (fun _ _ e => by cases e)]; exact hk
  | .dm .., bs, h => by rw [h.flat (fun _ _ e => by cases e)]; exact hk
  | .sha .., bs, h => by rw [h.flat (fun _ _ e => by cases e)]; exact hk
  | .cst .., bs, h => by rw [h.flat (fun _ _ e => by cases e)]; exact hk
  | .term .., bs, h => by rw [h.flat (fun _ _ e => by cases e)]; exact hk
  | .nil, bs, h => by rw [h.flat (fun _ _ e => by cases e)]; exact hk
theorem sOf_ok : ∀ {bs : List Nat}, (∀ b ∈ bs, b < 256) → SB σ (sOf bs) bs
  | [], _ => .nil
  | b :: bs, h => by
    have h0 := h b (List.mem_cons_self ..)
    exact SB.cons (σ := σ) (b := .cst b) (x := (b : Int)) (by omega) (by omega) (.cst _) (sOf_ok fun x hx => h x (List.mem_cons_of_mem _ hx))
theorem sKnown_cons (b l : SX) : sKnown (.cons b l) = match b with
      | .cst (.ofNat n) => (match sKnown l with
        | some r => some (n :: r)
        | none => none)
      | _ => none := rfl
theorem sSameL_nil (k : SX) : sSameL .nil k = match k with | .nil => some true | .cons _ _ => some false | _ => none := rfl
theorem sSameL_cons (b l k : SX) : sSameL (.cons b l) k = match k with
      | .nil => some false
      | .cons c r => (match sSame b c with
        | some true => sSameL l r
        | some false => some false
        | none => (match sSameL l r with
          | some false => some false
          | _ => none))
      | _ => none := rfl
theorem sKnown_ok : ∀ {l : SX} {bs cs : List Nat}, sKnown l = some cs → SB σ l bs → bs = cs
  | .cons b l, bs, cs, hk, h => by
    obtain ⟨x, ds, h0, h1, h3, h2, rfl⟩ := h.cons_inv
    rw [sKnown_cons] at hk
    split at hk
    · split at hk
      · rename_i r hr
        obtain rfl := Option.some.inj hk
        rw [h3.cst_inv, sKnown_ok hr h2]
        rfl
      · cases hk
    · cases hk
  | .var .., bs, cs, hk, h => by cases hk
  | .dm .., bs, cs, hk, h => by cases hk
  | .sha .., bs, cs, hk, h => by cases hk
  | .cst .., bs, cs, hk, h => by cases hk
  | .term .., bs, cs, hk, h => by cases hk
  | .nil, bs, cs, hk, h => by
    obtain rfl := Option.some.inj (show some [] = some cs from hk)
    exact h.flat fun _ _ e => by cases e
theorem sSameL_ok : ∀ {l k : SX} {bs cs : List Nat} {r : Bool}, sSameL l k = some r → SB σ l bs → SB σ k cs → (r = true ↔ bs = cs)
  | .nil, k, bs, cs, r, hr, h, g => by
    rw [sSameL_nil] at hr
    rw [h.flat (fun _ _ e => by cases e)]
    split at hr
    · obtain rfl := Option.some.inj hr
      rw [g.flat (fun _ _ e => by cases e)]
      simp
    · obtain rfl := Option.some.inj hr
      obtain ⟨x, ds, -, -, -, -, rfl⟩ := g.cons_inv
      simp
    · cases hr
  | .cons b l, k, bs, cs, r, hr, h, g => by
    obtain ⟨x, ds, h0, h1, h3, h2, rfl⟩ := h.cons_inv
    rw [sSameL_cons] at hr
    split at hr
    · obtain rfl := Option.some.inj hr
      rw [g.flat (fun _ _ e => by cases e)]
      simp
    · rename_i c t
      obtain ⟨y, es, g0, g1, g3, g2, rfl⟩ := g.cons_inv
      have key : x.toNat = y.toNat ↔ x = y := by omega
      split at hr
      · rename_i hs
        have e := (sSame_ok hs h3 g3).1 rfl
        rw [sSameL_ok hr h2 g2, e]
        simp
      · rename_i hs
        obtain rfl := Option.some.inj hr
        have e : ¬ x = y := fun e => by have := (sSame_ok hs h3 g3).2 e; cases this
        simp [key, e]
      · split at hr
        · rename_i hl
          obtain rfl := Option.some.inj hr
          have e : ¬ ds = es := fun e => by have := (sSameL_ok hl h2 g2).2 e; cases this
          simp [e]
        · cases hr
    · cases hr
  | .var .., k, bs, cs, r, hr, h, g => by cases hr
  | .dm .., k, bs, cs, r, hr, h, g => by cases hr
  | .sha .., k, bs, cs, r, hr, h, g => by cases hr
  | .cst .., k, bs, cs, r, hr, h, g => by cases hr
  | .term .., k, bs, cs, r, hr, h, g => by cases hr
end
end Go.Proofs.YtjckpgcmfieaoaaGreatDoor
namespace Go.Proofs.YtjckpgcmfieaoaaGreatDoor
open Go.RowKit

/-- Where an abstract block lies: in which block, from which cell on; how many cells that block has. -/
structure ELoc where
  c : Nat
  sh : Nat
  m : Nat
abbrev EMp := Nat → Option ELoc

/-- Numbers that stand for nothing but themselves: they stand ahead of all blocks. -/
def symOf (β : EMp) (n : Nat) : Option Nat := match β (1024 + n) with
  | some l => some l.c
  | none => none

mutual
inductive VR (β : EMp) : EV → Value → Prop
  | bot (v : Value) : VR β .bot v
  | bool (b : Bool) : VR β (.bool b) (.bool b)
  | int (k : IntKind) (n : Int) : VR β (.int k n) (.int k n)
  | str {l : List Nat} {s : ByteArray} (h : s.data.toList.map (·.toNat) = l) : VR β (.str l) (.string s)
  | pnil : VR β (.ptr none) (.pointer none)
  | ptr {b o : Nat} {l : ELoc} (h : β b = some l) : VR β (.ptr (some (b, o))) (.pointer (some ⟨l.c, l.sh + o, none⟩))
  | snil : VR β (.sl none 0 0 0) (.slice none 0 0)
  | sl {b o len cap cap' z : Nat} {l : ELoc} (h : β b = some l) (h0 : z = 0 → cap' = cap) (hz : z ≠ 0 → cap ≤ cap' ∧ l.sh + o + cap' * z = l.m) : VR β (.sl (some (b, o)) len cap z) (.slice (some ⟨l.c, l.sh + o, none⟩) len cap')
  | sle {b o z : Nat} {l : ELoc} {a : Addr} (h : β b = some l) : VR β (.sl (some (b, o)) 0 0 z) (.slice (some a) 0 0)
  | mnil : VR β (.map none) (.map none)
  | map {r : Nat} {l : ELoc} (h : β r = some l) : VR β (.map (some r)) (.map (some l.c))
  | fn {f : Fn} {a b : List EV} {a' b' : Array Value} (ha : VRs β a a'.toList) (hb : VRs β b b'.toList) : VR β (.fn f a b) (.func f a' b')
  | nilF : VR β .nilF .nilFunc
  | ifc {t : TypeId} {v : EV} {v' : Value} (h : VR β v v') : VR β (.ifc t v) (.iface t v')
  | nilI : VR β .nilI .nilIface
  | agg {l : List EV} {a : Array Value} (h : VRs β l a.toList) : VR β (.agg l) (.agg a)
  | tup {l : List EV} {a : Array Value} (h : VRs β l a.toList) : VR β (.tup l) (.tuple a)
  | sint {k : IntKind} {e : SX} {z : Int} (h : SN (symOf β) e z) (hk : k.wrap z = z) : VR β (.sint k e) (.int k z)
  | sstr {l : SX} {s : ByteArray} (h : SB (symOf β) l (s.data.toList.map (·.toNat))) : VR β (.sstr l) (.string s)
inductive VRs (β : EMp) : List EV → List Value → Prop
  | nil : VRs β [] []
  | cons {x : EV} {v : Value} {l : List EV} {vs : List Value} (h : VR β x v) (t : VRs β l vs) : VRs β (x :: l) (v :: vs)
end
def EMp.le (β β' : EMp) : Prop := ∀ b l, β b = some l → β' b = some l
theorem EMp.le_refl (β : EMp) : β.le β := fun _ _ h => h
theorem EMp.le_trans {a b c : EMp} (h : a.le b) (k : b.le c) : a.le c := fun x l e => k x l (h x l e)

section
variable {β β' : EMp}
theorem symOf_mono (h : β.le β') : ∀ n v, symOf β n = some v → symOf β' n = some v := fun n v e => by
  unfold symOf at *
  cases hb : β (1024 + n) with
  | none => rw [hb] at e; cases e
  | some l => rw [hb] at e; rw [h _ _ hb]; exact e
mutual
theorem VR.mono (h : β.le β') : ∀ {x : EV} {v : Value}, VR β x v → VR β' x v
  | _, _, .bot v => .bot v
  | _, _, .bool b => .bool b
  | _, _, .int k n => .int k n
  | _, _, .str e => .str e
  | _, _, .pnil => .pnil
  | _, _, .ptr e => .ptr (h _ _ e)
  | _, _, .snil => .snil
  | _, _, .sl e a b => .sl (h _ _ e) a b
  | _, _, .sle e => .sle (h _ _ e)
  | _, _, .mnil => .mnil
  | _, _, .map e => .map (h _ _ e)
  | _, _, .fn a b => .fn (VRs.mono h a) (VRs.mono h b)
  | _, _, .nilF => .nilF
  | _, _, .ifc e => .ifc (VR.mono h e)
  | _, _, .nilI => .nilI
  | _, _, .agg e => .agg (VRs.mono h e)
  | _, _, .tup e => .tup (VRs.mono h e)
  | _, _, .sint e k => .sint (e.mono (symOf_mono h)) k
  | _, _, .sstr e => .sstr (e.mono (symOf_mono h))
theorem VRs.mono (h : β.le β') : ∀ {x : List EV} {v : List Value}, VRs β x v → VRs β' x v
  | _, _, .nil => .nil
  | _, _, .cons a b => .cons (VR.mono h a) (VRs.mono h b)
end
theorem VRs.len : ∀ {l : List EV} {vs : List Value}, VRs β l vs → l.length = vs.length
  | _, _, .nil => rfl
  | _, _, .cons _ t => congrArg (· + 1) t.len
theorem VRs.get : ∀ {l : List EV} {vs : List Value}, VRs β l vs → ∀ {i : Nat} {x : EV}, l[i]? = some x → ∃ v, vs[i]? = some v ∧ VR β x v
  | _, _, .nil, _, _, h => by cases h
  | _, _, .cons (v := v) a _, 0, _, h => by obtain rfl := Option.some.inj h; exact ⟨v, rfl, a⟩
  | _, _, .cons _ t, i + 1, _, h => t.get h
theorem VRs.of_get : ∀ {l : List EV} {vs : List Value}, l.length = vs.length → (∀ (i : Nat) x v, l[i]? = some x → vs[i]? = some v → VR β x v) → VRs β l vs
  | [], [], _, _ => .nil
  | [], _ :: _, h, _ => by simp at h
  | _ :: _, [], h, _ => by simp at h
  | x :: l, v :: vs, h, k => .cons (k 0 x v rfl rfl) (VRs.of_get (by simpa using h) fun i a b ha hb => k (i + 1) a b ha hb)
theorem VRs.app : ∀ {l m : List EV} {vs us : List Value}, VRs β l vs → VRs β m us → VRs β (l ++ m) (vs ++ us)
  | _, _, _, _, .nil, k => k
  | _, _, _, _, .cons a t, k => .cons a (t.app k)
theorem VRs.take : ∀ {l : List EV} {vs : List Value} (n : Nat), VRs β l vs → VRs β (l.take n) (vs.take n)
  | _, _, n, .nil => by simpa using VRs.nil
  | _, _, 0, .cons _ _ => by simpa using VRs.nil
  | _, _, n + 1, .cons a t => .cons a (t.take n)
theorem VRs.drop : ∀ {l : List EV} {vs : List Value} (n : Nat), VRs β l vs → VRs β (l.drop n) (vs.drop n)
  | _, _, n, .nil => by simpa using VRs.nil
  | _, _, 0, .cons a t => .cons a t
  | _, _, n + 1, .cons _ t => t.drop n
/-- The cells of a value. -/
theorem VR.cells {x : EV} {v : Value} (h : VR β x v) (hb : x ≠ .bot) : VRs β x.cells v.cells.toList := by
  cases h with
  | bot v => exact absurd rfl hb
  | agg h => exact h
  | tup h => exact .cons (.tup h) .nil
  | bool b => exact .cons (.bool b) .nil
  | int k n => exact .cons (.int k n) .nil
  | str h => exact .cons (.str h) .nil
  | pnil => exact .cons .pnil .nil
  | ptr h => exact .cons (.ptr h) .nil
  | snil => exact .cons .snil .nil
  | sl h a b => exact .cons (.sl h a b) .nil
  | sle h => exact .cons (.sle h) .nil
  | mnil => exact .cons .mnil .nil
  | map h => exact .cons (.map h) .nil
  | fn a b => exact .cons (.fn a b) .nil
  | nilF => exact .cons .nilF .nil
  | ifc h => exact .cons (.ifc h) .nil
  | nilI => exact .cons .nilI .nil
  | sint h k => exact .cons (.sint h k) .nil
  | sstr h => exact .cons (.sstr h) .nil
theorem VR.one {x : EV} {v : Value} (h : VR β x v) (hs : x.scal = true) : v.oneCell' = true := by
  cases h <;> first | rfl | cases hs
theorem eAll_cons (x : EV) (l : List EV) : eAll (x :: l) = match x.scal with | true => eAll l | false => false := rfl
theorem VRs.one : ∀ {l : List EV} {vs : List Value}, VRs β l vs → eAll l = true → ∀ v ∈ vs, v.oneCell' = true
  | _, _, .nil, _, v, hv => by cases hv
  | x :: l, _, .cons a t, h, v, hv => by
    rw [eAll_cons] at h
    cases hs : x.scal with
    | false => rw [hs] at h; cases h
    | true =>
      rw [hs] at h
      rcases List.mem_cons.1 hv with rfl | hv
      · exact a.one hs
      · exact t.one h v hv
end

/-! Blocks. -/
/-- The entries of a map. -/
inductive MR (β : EMp) : List (EV × EV × Nat) → List MapEntry → Prop
  | nil : MR β [] []
  | cons {k v : EV} {b : Nat} {k' v' : Value} {l : List (EV × EV × Nat)} {es : List MapEntry} (hk : VR β k k') (hv : VR β v v') (t : MR β l es) : MR β ((k, v, b) :: l) (⟨k', v', b⟩ :: es)
/-- n cells of an array, from sh on. -/
def CR (β : EMp) (n : Nat) (cs : ETr EV) (sh : Nat) (a : Array Value) : Prop := ∀ i, i < n → ∃ x v, cs.get i = some x ∧ a[sh + i]? = some v ∧ VR β x v
/-- Its type, where it is told: then it is the whole block. -/
def TyOk (l : ELoc) (n : Nat) (cs : ETr EV) (T : TypeId) : Prop := ∀ t v, cs.get n = some (.ifc t v) → T = t ∧ l.sh = 0 ∧ l.m = n
/-- What an abstract block stands for; blocks of the world w0 are not written. -/
def BR (w0 : World) (β : EMp) (k : EBlk) (l : ELoc) (w : World) : Prop := match k with
  | .row n cs => w0.heap.size ≤ l.c ∧ ∃ a T fz, w.heap[l.c]? = some (.cells a T fz) ∧ a.size = l.m ∧ l.sh + n ≤ l.m ∧ ((∀ i, i < l.m → ¬ (fz.1 ≤ i ∧ i < fz.2)) ∧ TyOk l n cs T) ∧ CR β n cs l.sh a
  | .tab n cs => l.c < w0.heap.size ∧ ∃ a T fz, w.heap[l.c]? = some (.cells a T fz) ∧ a.size = l.m ∧ l.sh + n ≤ l.m ∧ CR β n cs l.sh a
  | .map es ck => w0.heap.size ≤ l.c ∧ ∃ es', w.heap[l.c]? = some (.map es' ck) ∧ MR β es es'.toList
  | .iter none _ _ _ => w0.heap.size ≤ l.c ∧ l.sh = 0 ∧ ∃ a b c, w.heap[l.c]? = some (.mapIter none a b c)
  | .iter (some m) since seen last => w0.heap.size ≤ l.c ∧ l.sh = 0 ∧ ∃ lm, β m = some lm ∧ w.heap[l.c]? = some (.mapIter (some lm.c) since seen.toArray last)
  | .siter s pos => w0.heap.size ≤ l.c ∧ l.sh = 0 ∧ ∃ b : ByteArray, SB (symOf β) s (b.data.toList.map (·.toNat)) ∧ w.heap[l.c]? = some (.stringIter b pos)
  | .dead => True
def EBlk.live (k : EBlk) : Prop := match k with | .dead => False | .tab _ _ => False | _ => True
def ESt.heap (s : ESt) : ETr EBlk := match s with | .mk h _ => h
def ESt.next (s : ESt) : Nat := match s with | .mk _ n => n
/-- A state, and the world that it stands for; w0: the world that it began in. -/
structure HR (w0 : World) (β : EMp) (s : ESt) (w : World) : Prop where
  up : Upd (fun _ => False) w0 w
  lt : ∀ b l, β b = some l → b < s.next
  blk : ∀ b l k, β b = some l → s.heap.get b = some k → BR w0 β k l w
  inj : ∀ b b' l l' k k', β b = some l → β b' = some l' → s.heap.get b = some k → s.heap.get b' = some k' → k.live → k'.live → l.c = l'.c → b = b'
/-- From one state to a later one. -/
structure Ext (β : EMp) (s : ESt) (β' : EMp) (s' : ESt) : Prop where
  le : β.le β'
  next : s.next ≤ s'.next
  un : ∀ b, b < s.next → β b = none → β' b = none ∧ s'.heap.get b = s.heap.get b
theorem Ext.refl (β : EMp) (s : ESt) : Ext β s β s := ⟨β.le_refl, Nat.le_refl _, fun _ _ h => ⟨h, rfl⟩⟩
theorem Ext.trans {β β' β'' : EMp} {s s' s'' : ESt} (h : Ext β s β' s') (k : Ext β' s' β'' s'') : Ext β s β'' s'' :=
  ⟨EMp.le_trans h.le k.le, Nat.le_trans h.next k.next, fun b hb h0 => by
    obtain ⟨h1, h2⟩ := h.un b hb h0
    obtain ⟨h3, h4⟩ := k.un b (Nat.lt_of_lt_of_le hb h.next) h1
    exact ⟨h3, h4.trans h2⟩⟩

section
variable {w0 : World} {β β' : EMp}
theorem MR.mono (h : β.le β') : ∀ {l : List (EV × EV × Nat)} {es : List MapEntry}, MR β l es → MR β' l es
  | _, _, .nil => .nil
  | _, _, .cons a b t => .cons (a.mono h) (b.mono h) (t.mono h)
theorem CR.mono (h : β.le β') {n : Nat} {cs : ETr EV} {sh : Nat} {a : Array Value} (c : CR β n cs sh a) : CR β' n cs sh a := fun i hi => by
  obtain ⟨x, v, h1, h2, h3⟩ := c i hi
  exact ⟨x, v, h1, h2, h3.mono h⟩
/-- A block's fact stays, where the block's own contents stay. -/
theorem BR.keep (h : β.le β') {k : EBlk} {l : ELoc} {w w' : World} (b : BR w0 β k l w) (e : k.live ∨ l.c < w0.heap.size → w'.heap[l.c]? = w.heap[l.c]?) : BR w0 β' k l w' := by
  unfold BR at *
  cases k with
  | row n cs => obtain ⟨h0, a, T, fz, h1, h2, h3, h4, h5⟩ := b; exact ⟨h0, a, T, fz, (e (.inl trivial)).trans h1, h2, h3, h4, h5.mono h⟩
  | tab n cs => obtain ⟨h0, a, T, fz, h1, h2, h3, h5⟩ := b; exact ⟨h0, a, T, fz, (e (.inr h0)).trans h1, h2, h3, h5.mono h⟩
  | map es ck => obtain ⟨h0, es', h1, h2⟩ := b; exact ⟨h0, es', (e (.inl trivial)).trans h1, h2.mono h⟩
  | iter m since seen last =>
    cases m with
    | none => obtain ⟨h0, hs, x, y, z, h1⟩ := b; exact ⟨h0, hs, x, y, z, (e (.inl trivial)).trans h1⟩
    | some m => obtain ⟨h0, hs, lm, h1, h2⟩ := b; exact ⟨h0, hs, lm, h m lm h1, (e (.inl trivial)).trans h2⟩
  | siter s pos => obtain ⟨h0, hs, x, h1, h2⟩ := b; exact ⟨h0, hs, x, h1.mono (symOf_mono h), (e (.inl trivial)).trans h2⟩
  | dead => trivial
theorem BR.lives {k : EBlk} {l : ELoc} {w : World} (b : BR w0 β k l w) (hk : k.live) : w0.heap.size ≤ l.c ∧ l.c < w.heap.size := by
  have lt : ∀ {o : Obj}, w.heap[l.c]? = some o → l.c < w.heap.size := fun h => (Array.getElem?_eq_some_iff.1 h).1
  unfold BR at b
  cases k with
  | row n cs => obtain ⟨h0, a, T, fz, h1, -⟩ := b; exact ⟨h0, lt h1⟩
  | tab n cs => cases hk
  | map es ck => obtain ⟨h0, es', h1, -⟩ := b; exact ⟨h0, lt h1⟩
  | iter m since seen last =>
    cases m with
    | none => obtain ⟨h0, -, x, y, z, h1⟩ := b; exact ⟨h0, lt h1⟩
    | some m => obtain ⟨h0, -, lm, -, h1⟩ := b; exact ⟨h0, lt h1⟩
  | siter s pos => obtain ⟨h0, -, x, -, h1⟩ := b; exact ⟨h0, lt h1⟩
  | dead => cases hk
/-- A world that keeps all that was there. -/
theorem HR.world {s : ESt} {w w' : World} (h : HR w0 β s w) (u : Upd (fun _ => False) w w') : HR w0 β s w' :=
  ⟨h.up.trans u, h.lt, fun b l k hb hk => (h.blk b l k hb hk).keep β.le_refl fun e => u.block _ (by
    rcases e with e | e
    · exact ((h.blk b l k hb hk).lives e).2
    · exact Nat.lt_of_lt_of_le e h.up.size) (fun h => h), h.inj⟩
/-- One block is made new: as a number's contents, and as the world's. -/
theorem HR.upd1 {s : ESt} {w w' : World} (h : HR w0 β s w) {b : Nat} {l : ELoc} {k k' : EBlk} (hb : β b = some l) (hk : s.heap.get b = some k) (hl : k.live) (hl' : k'.live)
    (u : Upd (· = l.c) w w') (hB : BR w0 β k' l w') : HR w0 β (.mk (s.heap.set b k') s.next) w' := by
  have hc := (h.blk b l k hb hk).lives hl
  have up : Upd (fun _ => False) w0 w' := ⟨u.os.trans h.up.os, u.tape.trans h.up.tape, u.output.trans h.up.output, Nat.le_trans h.up.size u.size, fun i hi _ => (u.block i (Nat.lt_of_lt_of_le hi h.up.size) (by omega)).trans (h.up.block i hi (fun x => x))⟩
  refine ⟨up, h.lt, fun b2 l2 k2 e1 e2 => ?_, fun b1 b2 l1 l2 k1 k2 e1 e2 g1 g2 v1 v2 e => ?_⟩
  · by_cases hbb : b = b2
    · subst hbb
      rw [hb] at e1
      obtain rfl := Option.some.inj e1
      have e2 : (s.heap.set b k').get b = some k2 := e2
      rw [ETr.get_set] at e2
      obtain rfl := Option.some.inj e2
      exact hB
    · have e2 : (s.heap.set b k').get b2 = some k2 := e2
      rw [ETr.get_set_ne _ _ hbb] at e2
      refine (h.blk b2 l2 k2 e1 e2).keep β.le_refl fun e => u.block _ ?_ ?_
      · rcases e with e | e
        · exact ((h.blk b2 l2 k2 e1 e2).lives e).2
        · exact Nat.lt_of_lt_of_le e h.up.size
      · intro ec
        rcases e with e | e
        · exact hbb (h.inj b b2 l l2 k k2 hb e1 hk e2 hl e ec.symm)
        · omega
  · have old : ∀ (x : Nat) (kx : EBlk), (s.heap.set b k').get x = some kx → kx.live → ∃ ky, s.heap.get x = some ky ∧ ky.live := fun x kx hx hv => by
      by_cases hxb : b = x
      · subst hxb; exact ⟨k, hk, hl⟩
      · rw [ETr.get_set_ne _ _ hxb] at hx; exact ⟨kx, hx, hv⟩
    obtain ⟨y1, z1, t1⟩ := old b1 k1 g1 v1
    obtain ⟨y2, z2, t2⟩ := old b2 k2 g2 v2
    exact h.inj b1 b2 l1 l2 y1 y2 e1 e2 z1 z2 t1 t2 e
theorem Ext.upd1 {s : ESt} {b : Nat} {l : ELoc} {k' : EBlk} (hb : β b = some l) : Ext β s β (.mk (s.heap.set b k') s.next) :=
  ⟨β.le_refl, Nat.le_refl _, fun x _ h0 => ⟨h0, ETr.get_set_ne _ _ fun e => by subst e; rw [hb] at h0; cases h0⟩⟩
/-- The map with one more block. -/
def EMp.put (β : EMp) (b : Nat) (l : ELoc) : EMp := fun x => if x = b then some l else β x
theorem EMp.put_le (β : EMp) {b : Nat} (l : ELoc) (h : β b = none) : β.le (β.put b l) := fun x y e => by
  unfold EMp.put
  by_cases hx : x = b
  · rw [hx] at e; rw [h] at e; cases e
  · rw [if_neg hx]; exact e
theorem EMp.put_at (β : EMp) (b : Nat) (l : ELoc) : β.put b l b = some l := if_pos rfl
theorem EMp.put_ne (β : EMp) {b x : Nat} (l : ELoc) (h : x ≠ b) : β.put b l x = β x := if_neg h
/-- A block that is there as a number, and comes into the world. -/
theorem HR.come {s : ESt} {w w' : World} (h : HR w0 β s w) {b : Nat} {k : EBlk} (hb : β b = none) (hlt : b < s.next) (hk : s.heap.get b = some k)
    (u : Upd (fun _ => False) w w') {l : ELoc} (hc : w.heap.size ≤ l.c) (hB : BR w0 (β.put b l) k l w') : HR w0 (β.put b l) s w' := by
  have h' := h.world u
  refine ⟨h'.up, fun x y e => ?_, fun x y z e1 e2 => ?_, fun b1 b2 l1 l2 k1 k2 e1 e2 g1 g2 v1 v2 e => ?_⟩
  · by_cases hx : x = b
    · rw [hx]; exact hlt
    · rw [EMp.put_ne _ _ hx] at e; exact h.lt x y e
  · by_cases hx : x = b
    · subst hx
      rw [EMp.put_at] at e1
      obtain rfl := Option.some.inj e1
      rw [hk] at e2
      obtain rfl := Option.some.inj e2
      exact hB
    · rw [EMp.put_ne _ _ hx] at e1
      exact (h'.blk x y z e1 e2).keep (β.put_le l hb) fun _ => rfl
  · have big : ∀ (x : Nat) (y : ELoc) (z : EBlk), x ≠ b → β.put b l x = some y → s.heap.get x = some z → z.live → y.c < w.heap.size := fun x y z hx e1 e2 hz => by
      rw [EMp.put_ne _ _ hx] at e1
      exact ((h.blk x y z e1 e2).lives hz).2
    by_cases x1 : b1 = b
    · by_cases x2 : b2 = b
      · rw [x1, x2]
      · have := big b2 l2 k2 x2 e2 g2 v2
        rw [x1, EMp.put_at] at e1
        obtain rfl := Option.some.inj e1
        omega
    · by_cases x2 : b2 = b
      · have := big b1 l1 k1 x1 e1 g1 v1
        rw [x2, EMp.put_at] at e2
        obtain rfl := Option.some.inj e2
        omega
      · rw [EMp.put_ne _ _ x1] at e1
        rw [EMp.put_ne _ _ x2] at e2
        exact h.inj b1 b2 l1 l2 k1 k2 e1 e2 g1 g2 v1 v2 e
/-- A block as a number alone. -/
theorem HR.num {s : ESt} {w : World} (h : HR w0 β s w) (k : EBlk) : HR w0 β (.mk (s.heap.set s.next k) (s.next + 1)) w := by
  have ne : ∀ x y, β x = some y → s.next ≠ x := fun x y e => by have := h.lt x y e; omega
  refine ⟨h.up, fun x y e => Nat.lt_succ_of_lt (h.lt x y e), fun x y z e1 e2 => ?_, fun b1 b2 l1 l2 k1 k2 e1 e2 g1 g2 v1 v2 e => ?_⟩
  · have e2 : (s.heap.set s.next k).get x = some z := e2
    rw [ETr.get_set_ne _ _ (ne x y e1)] at e2
    exact h.blk x y z e1 e2
  · have g1 : (s.heap.set s.next k).get b1 = some k1 := g1
    have g2 : (s.heap.set s.next k).get b2 = some k2 := g2
    rw [ETr.get_set_ne _ _ (ne _ _ e1)] at g1
    rw [ETr.get_set_ne _ _ (ne _ _ e2)] at g2
    exact h.inj b1 b2 l1 l2 k1 k2 e1 e2 g1 g2 v1 v2 e
theorem HR.none_next {s : ESt} {w : World} (h : HR w0 β s w) : β s.next = none := by
  cases e : β s.next with
  | none => rfl
  | some l => exact absurd (h.lt _ _ e) (Nat.lt_irrefl _)
theorem Ext.num {s : ESt} (k : EBlk) (l : ELoc) (h : β s.next = none) : Ext β s (β.put s.next l) (.mk (s.heap.set s.next k) (s.next + 1)) :=
  ⟨β.put_le l h, Nat.le_succ _, fun b hb h0 => ⟨(EMp.put_ne _ _ (by omega)).trans h0, ETr.get_set_ne _ _ (by omega)⟩⟩
theorem ESt.eta (s : ESt) : s = .mk s.heap s.next := by cases s; rfl
end
end Go.Proofs.YtjckpgcmfieaoaaGreatDoor
