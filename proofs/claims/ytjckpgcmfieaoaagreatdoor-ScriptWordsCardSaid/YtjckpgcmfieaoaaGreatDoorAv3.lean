/-
  What an abstract value, block, state stands for.
-/
import Derived.Test.YtjckpgcmfieaoaaGreatDoorAv2
namespace Go.Proofs.YtjckpgcmfieaoaaGreatDoor
open Go.RowKit

/-- Where an abstract block lies: in which block, from which cell on; how many cells that block has. -/
structure ELoc where
  c : Nat
  sh : Nat
  m : Nat
abbrev EMp := Nat → Option ELoc

mutual
inductive VR (β : EMp) : EV → Value → Prop
  | bot (v : Value) : VR β .bot v
  | bool (b : Bool) : VR β (.bool b) (.bool b)
  | int (k : IntKind) (n : Int) : VR β (.int k n) (.int k n)
  | str {l : List Nat} {s : ByteArray} (h : s.data.toList.map (·.toNat) = l) : VR β (.str l) (.string s)
  | pnil : VR β (.ptr none) (.pointer none)
  | ptr {b o : Nat} {l : ELoc} (h : β b = some l) : VR β (.ptr (some (b, o))) (.pointer (some ⟨l.c, l.sh + o, none⟩))
  | snil : VR β (.sl none 0 0 0) (.slice none 0 0)
  | sl {b o len cap cap' z : Nat} {l : ELoc} (h : β b = some l) (h0 : z = 0 → cap' = cap) (hz : z ≠ 0 → cap ≤ cap' ∧ l.sh + o + cap' * z = l.m) : VR β (.sl (some (b, o)) len cap z) (.slice (some ⟨l.c, l.sh + o, none⟩) len cap')
  | sle {b o z : Nat} {l : ELoc} {a : Addr} (h : β b = some l) : VR β (.sl (some (b, o)) 0 0 z) (.slice (some a) 0 0)
  | mnil : VR β (.map none) (.map none)
  | map {r : Nat} {l : ELoc} (h : β r = some l) : VR β (.map (some r)) (.map (some l.c))
  | fn {f : Fn} {a b : List EV} {a' b' : Array Value} (ha : VRs β a a'.toList) (hb : VRs β b b'.toList) : VR β (.fn f a b) (.func f a' b')
  | nilF : VR β .nilF .nilFunc
  | ifc {t : TypeId} {v : EV} {v' : Value} (h : VR β v v') : VR β (.ifc t v) (.iface t v')
  | nilI : VR β .nilI .nilIface
  | agg {l : List EV} {a : Array Value} (h : VRs β l a.toList) : VR β (.agg l) (.agg a)
  | tup {l : List EV} {a : Array Value} (h : VRs β l a.toList) : VR β (.tup l) (.tuple a)
inductive VRs (β : EMp) : List EV → List Value → Prop
  | nil : VRs β [] []
  | cons {x : EV} {v : Value} {l : List EV} {vs : List Value} (h : VR β x v) (t : VRs β l vs) : VRs β (x :: l) (v :: vs)
end
def EMp.le (β β' : EMp) : Prop := ∀ b l, β b = some l → β' b = some l
theorem EMp.le_refl (β : EMp) : β.le β := fun _ _ h => h
theorem EMp.le_trans {a b c : EMp} (h : a.le b) (k : b.le c) : a.le c := fun x l e => k x l (h x l e)

section
variable {β β' : EMp}
mutual
theorem VR.mono (h : β.le β') : ∀ {x : EV} {v : Value}, VR β x v → VR β' x v
  | _, _, .bot v => .bot v
  | _, _, .bool b => .bool b
  | _, _, .int k n => .int k n
  | _, _, .str e => .str e
  | _, _, .pnil => .pnil
  | _, _, .ptr e => .ptr (h _ _ e)
  | _, _, .snil => .snil
  | _, _, .sl e a b => .sl (h _ _ e) a b
  | _, _, .sle e => .sle (h _ _ e)
  | _, _, .mnil => .mnil
  | _, _, .map e => .map (h _ _ e)
  | _, _, .fn a b => .fn (VRs.mono h a) (VRs.mono h b)
  | _, _, .nilF => .nilF
  | _, _, .ifc e => .ifc (VR.mono h e)
  | _, _, .nilI => .nilI
  | _, _, .agg e => .agg (VRs.mono h e)
  | _, _, .tup e => .tup (VRs.mono h e)
theorem VRs.mono (h : β.le β') : ∀ {x : List EV} {v : List Value}, VRs β x v → VRs β' x v
  | _, _, .nil => .nil
  | _, _, .cons a b => .cons (VR.mono h a) (VRs.mono h b)
end
theorem VRs.len : ∀ {l : List EV} {vs : List Value}, VRs β l vs → l.length = vs.length
  | _, _, .nil => rfl
  | _, _, .cons _ t => congrArg (· + 1) t.len
theorem VRs.get : ∀ {l : List EV} {vs : List Value}, VRs β l vs → ∀ {i : Nat} {x : EV}, l[i]? = some x → ∃ v, vs[i]? = some v ∧ VR β x v
  | _, _, .nil, _, _, h => by cases h
  | _, _, .cons (v := v) a _, 0, _, h => by obtain rfl := Option.some.inj h; exact ⟨v, rfl, a⟩
  | _, _, .cons _ t, i + 1, _, h => t.get h
theorem VRs.of_get : ∀ {l : List EV} {vs : List Value}, l.length = vs.length → (∀ (i : Nat) x v, l[i]? = some x → vs[i]? = some v → VR β x v) → VRs β l vs
  | [], [], _, _ => .nil
  | [], _ :: _, h, _ => by simp at h
  | _ :: _, [], h, _ => by simp at h
  | x :: l, v :: vs, h, k => .cons (k 0 x v rfl rfl) (VRs.of_get (by simpa using h) fun i a b ha hb => k (i + 1) a b ha hb)
theorem VRs.app : ∀ {l m : List EV} {vs us : List Value}, VRs β l vs → VRs β m us → VRs β (l ++ m) (vs ++ us)
  | _, _, _, _, .nil, k => k
  | _, _, _, _, .cons a t, k => .cons a (t.app k)
theorem VRs.take : ∀ {l : List EV} {vs : List Value} (n : Nat), VRs β l vs → VRs β (l.take n) (vs.take n)
  | _, _, n, .nil => by simpa using VRs.nil
  | _, _, 0, .cons _ _ => by simpa using VRs.nil
  | _, _, n + 1, .cons a t => .cons a (t.take n)
theorem VRs.drop : ∀ {l : List EV} {vs : List Value} (n : Nat), VRs β l vs → VRs β (l.drop n) (vs.drop n)
  | _, _, n, .nil => by simpa using VRs.nil
  | _, _, 0, .cons a t => .cons a t
  | _, _, n + 1, .cons _ t => t.drop n
/-- The cells of a value. -/
theorem VR.cells {x : EV} {v : Value} (h : VR β x v) (hb : x ≠ .bot) : VRs β x.cells v.cells.toList := by
  cases h with
  | bot v => exact absurd rfl hb
  | agg h => exact h
  | tup h => exact .cons (.tup h) .nil
  | bool b => exact .cons (.bool b) .nil
  | int k n => exact .cons (.int k n) .nil
  | str h => exact .cons (.str h) .nil
  | pnil => exact .cons .pnil .nil
  | ptr h => exact .cons (.ptr h) .nil
  | snil => exact .cons .snil .nil
  | sl h a b => exact .cons (.sl h a b) .nil
  | sle h => exact .cons (.sle h) .nil
  | mnil => exact .cons .mnil .nil
  | map h => exact .cons (.map h) .nil
  | fn a b => exact .cons (.fn a b) .nil
  | nilF => exact .cons .nilF .nil
  | ifc h => exact .cons (.ifc h) .nil
  | nilI => exact .cons .nilI .nil
theorem VR.one {x : EV} {v : Value} (h : VR β x v) (hs : x.scal = true) : v.oneCell' = true := by
  cases h <;> first | rfl | cases hs
theorem eAll_cons (x : EV) (l : List EV) : eAll (x :: l) = match x.scal with | true => eAll l | false => false := rfl
theorem VRs.one : ∀ {l : List EV} {vs : List Value}, VRs β l vs → eAll l = true → ∀ v ∈ vs, v.oneCell' = true
  | _, _, .nil, _, v, hv => by cases hv
  | x :: l, _, .cons a t, h, v, hv => by
    rw [eAll_cons] at h
    cases hs : x.scal with
    | false => rw [hs] at h; cases h
    | true =>
      rw [hs] at h
      rcases List.mem_cons.1 hv with rfl | hv
      · exact a.one hs
      · exact t.one h v hv
end

/-! Blocks. -/
/-- The entries of a map. -/
inductive MR (β : EMp) : List (EV × EV × Nat) → List MapEntry → Prop
  | nil : MR β [] []
  | cons {k v : EV} {b : Nat} {k' v' : Value} {l : List (EV × EV × Nat)} {es : List MapEntry} (hk : VR β k k') (hv : VR β v v') (t : MR β l es) : MR β ((k, v, b) :: l) (⟨k', v', b⟩ :: es)
/-- n cells of an array, from sh on. -/
def CR (β : EMp) (n : Nat) (cs : ETr EV) (sh : Nat) (a : Array Value) : Prop := ∀ i, i < n → ∃ x v, cs.get i = some x ∧ a[sh + i]? = some v ∧ VR β x v
/-- What an abstract block stands for; blocks of the world w0 are not written. -/
def BR (w0 : World) (β : EMp) (k : EBlk) (l : ELoc) (w : World) : Prop := match k with
  | .row n cs => w0.heap.size ≤ l.c ∧ ∃ a T fz, w.heap[l.c]? = some (.cells a T fz) ∧ a.size = l.m ∧ l.sh + n ≤ l.m ∧ (∀ i, i < l.m → ¬ (fz.1 ≤ i ∧ i < fz.2)) ∧ CR β n cs l.sh a
  | .tab n cs => l.c < w0.heap.size ∧ ∃ a T fz, w.heap[l.c]? = some (.cells a T fz) ∧ a.size = l.m ∧ l.sh + n ≤ l.m ∧ CR β n cs l.sh a
  | .map es ck => w0.heap.size ≤ l.c ∧ ∃ es', w.heap[l.c]? = some (.map es' ck) ∧ MR β es es'.toList
  | .iter none _ _ _ => w0.heap.size ≤ l.c ∧ l.sh = 0 ∧ ∃ a b c, w.heap[l.c]? = some (.mapIter none a b c)
  | .iter (some m) since seen last => w0.heap.size ≤ l.c ∧ l.sh = 0 ∧ ∃ lm, β m = some lm ∧ w.heap[l.c]? = some (.mapIter (some lm.c) since seen.toArray last)
  | .siter s pos => w0.heap.size ≤ l.c ∧ l.sh = 0 ∧ ∃ b : ByteArray, b.data.toList.map (·.toNat) = s ∧ w.heap[l.c]? = some (.stringIter b pos)
  | .dead => True
def EBlk.live (k : EBlk) : Prop := match k with | .dead => False | .tab _ _ => False | _ => True
def ESt.heap (s : ESt) : ETr EBlk := match s with | .mk h _ => h
def ESt.next (s : ESt) : Nat := match s with | .mk _ n => n
/-- A state, and the world that it stands for; w0: the world that it began in. -/
structure HR (w0 : World) (β : EMp) (s : ESt) (w : World) : Prop where
  up : Upd (fun _ => False) w0 w
  lt : ∀ b l, β b = some l → b < s.next
  blk : ∀ b l k, β b = some l → s.heap.get b = some k → BR w0 β k l w
  inj : ∀ b b' l l' k k', β b = some l → β b' = some l' → s.heap.get b = some k → s.heap.get b' = some k' → k.live → k'.live → l.c = l'.c → b = b'
/-- From one state to a later one. -/
structure Ext (β : EMp) (s : ESt) (β' : EMp) (s' : ESt) : Prop where
  le : β.le β'
  next : s.next ≤ s'.next
  un : ∀ b, b < s.next → β b = none → β' b = none ∧ s'.heap.get b = s.heap.get b
theorem Ext.refl (β : EMp) (s : ESt) : Ext β s β s := ⟨β.le_refl, Nat.le_refl _, fun _ _ h => ⟨h, rfl⟩⟩
theorem Ext.trans {β β' β'' : EMp} {s s' s'' : ESt} (h : Ext β s β' s') (k : Ext β' s' β'' s'') : Ext β s β'' s'' :=
  ⟨EMp.le_trans h.le k.le, Nat.le_trans h.next k.next, fun b hb h0 => by
    obtain ⟨h1, h2⟩ := h.un b hb h0
    obtain ⟨h3, h4⟩ := k.un b (Nat.lt_of_lt_of_le hb h.next) h1
    exact ⟨h3, h4.trans h2⟩⟩

section
variable {w0 : World} {β β' : EMp}
theorem MR.mono (h : β.le β') : ∀ {l : List (EV × EV × Nat)} {es : List MapEntry}, MR β l es → MR β' l es
  | _, _, .nil => .nil
  | _, _, .cons a b t => .cons (a.mono h) (b.mono h) (t.mono h)
theorem CR.mono (h : β.le β') {n : Nat} {cs : ETr EV} {sh : Nat} {a : Array Value} (c : CR β n cs sh a) : CR β' n cs sh a := fun i hi => by
  obtain ⟨x, v, h1, h2, h3⟩ := c i hi
  exact ⟨x, v, h1, h2, h3.mono h⟩
/-- A block's fact stays, where the block's own contents stay. -/
theorem BR.keep (h : β.le β') {k : EBlk} {l : ELoc} {w w' : World} (b : BR w0 β k l w) (e : k.live ∨ l.c < w0.heap.size → w'.heap[l.c]? = w.heap[l.c]?) : BR w0 β' k l w' := by
  unfold BR at *
  cases k with
  | row n cs => obtain ⟨h0, a, T, fz, h1, h2, h3, h4, h5⟩ := b; exact ⟨h0, a, T, fz, (e (.inl trivial)).trans h1, h2, h3, h4, h5.mono h⟩
  | tab n cs => obtain ⟨h0, a, T, fz, h1, h2, h3, h5⟩ := b; exact ⟨h0, a, T, fz, (e (.inr h0)).trans h1, h2, h3, h5.mono h⟩
  | map es ck => obtain ⟨h0, es', h1, h2⟩ := b; exact ⟨h0, es', (e (.inl trivial)).trans h1, h2.mono h⟩
  | iter m since seen last =>
    cases m with
    | none => obtain ⟨h0, hs, x, y, z, h1⟩ := b; exact ⟨h0, hs, x, y, z, (e (.inl trivial)).trans h1⟩
    | some m => obtain ⟨h0, hs, lm, h1, h2⟩ := b; exact ⟨h0, hs, lm, h m lm h1, (e (.inl trivial)).trans h2⟩
  | siter s pos => obtain ⟨h0, hs, x, h1, h2⟩ := b; exact ⟨h0, hs, x, h1, (e (.inl trivial)).trans h2⟩
  | dead => trivial
theorem BR.lives {k : EBlk} {l : ELoc} {w : World} (b : BR w0 β k l w) (hk : k.live) : w0.heap.size ≤ l.c ∧ l.c < w.heap.size := by
  have lt : ∀ {o : Obj}, w.heap[l.c]? = some o → l.c < w.heap.size := fun h => (Array.getElem?_eq_some_iff.1 h).1
  unfold BR at b
  cases k with
  | row n cs => obtain ⟨h0, a, T, fz, h1, -⟩ := b; exact ⟨h0, lt h1⟩
  | tab n cs => cases hk
  | map es ck => obtain ⟨h0, es', h1, -⟩ := b; exact ⟨h0, lt h1⟩
  | iter m since seen last =>
    cases m with
    | none => obtain ⟨h0, -, x, y, z, h1⟩ := b; exact ⟨h0, lt h1⟩
    | some m => obtain ⟨h0, -, lm, -, h1⟩ := b; exact ⟨h0, lt h1⟩
  | siter s pos => obtain ⟨h0, -, x, -, h1⟩ := b; exact ⟨h0, lt h1⟩
  | dead => cases hk
/-- A world that keeps all that was there. -/
theorem HR.world {s : ESt} {w w' : World} (h : HR w0 β s w) (u : Upd (fun _ => False) w w') : HR w0 β s w' :=
  ⟨h.up.trans u, h.lt, fun b l k hb hk => (h.blk b l k hb hk).keep β.le_refl fun e => u.block _ (by
    rcases e with e | e
    · exact ((h.blk b l k hb hk).lives e).2
    · exact Nat.lt_of_lt_of_le e h.up.size) (fun h => h), h.inj⟩
/-- One block is made new: as a number's contents, and as the world's. -/
theorem HR.upd1 {s : ESt} {w w' : World} (h : HR w0 β s w) {b : Nat} {l : ELoc} {k k' : EBlk} (hb : β b = some l) (hk : s.heap.get b = some k) (hl : k.live) (hl' : k'.live)
    (u : Upd (· = l.c) w w') (hB : BR w0 β k' l w') : HR w0 β (.mk (s.heap.set b k') s.next) w' := by
  have hc := (h.blk b l k hb hk).lives hl
  have up : Upd (fun _ => False) w0 w' := ⟨u.os.trans h.up.os, u.tape.trans h.up.tape, u.output.trans h.up.output, Nat.le_trans h.up.size u.size, fun i hi _ => (u.block i (Nat.lt_of_lt_of_le hi h.up.size) (by omega)).trans (h.up.block i hi (fun x => x))⟩
  refine ⟨up, h.lt, fun b2 l2 k2 e1 e2 => ?_, fun b1 b2 l1 l2 k1 k2 e1 e2 g1 g2 v1 v2 e => ?_⟩
  · by_cases hbb : b = b2
    · subst hbb
      rw [hb] at e1
      obtain rfl := Option.some.inj e1
      have e2 : (s.heap.set b k').get b = some k2 := e2
      rw [ETr.get_set] at e2
      obtain rfl := Option.some.inj e2
      exact hB
    · have e2 : (s.heap.set b k').get b2 = some k2 := e2
      rw [ETr.get_set_ne _ _ hbb] at e2
      refine (h.blk b2 l2 k2 e1 e2).keep β.le_refl fun e => u.block _ ?_ ?_
      · rcases e with e | e
        · exact ((h.blk b2 l2 k2 e1 e2).lives e).2
        · exact Nat.lt_of_lt_of_le e h.up.size
      · intro ec
        rcases e with e | e
        · exact hbb (h.inj b b2 l l2 k k2 hb e1 hk e2 hl e ec.symm)
        · omega
  · have old : ∀ (x : Nat) (kx : EBlk), (s.heap.set b k').get x = some kx → kx.live → ∃ ky, s.heap.get x = some ky ∧ ky.live := fun x kx hx hv => by
      by_cases hxb : b = x
      · subst hxb; exact ⟨k, hk, hl⟩
      · rw [ETr.get_set_ne _ _ hxb] at hx; exact ⟨kx, hx, hv⟩
    obtain ⟨y1, z1, t1⟩ := old b1 k1 g1 v1
    obtain ⟨y2, z2, t2⟩ := old b2 k2 g2 v2
    exact h.inj b1 b2 l1 l2 y1 y2 e1 e2 z1 z2 t1 t2 e
theorem Ext.upd1 {s : ESt} {b : Nat} {l : ELoc} {k' : EBlk} (hb : β b = some l) : Ext β s β (.mk (s.heap.set b k') s.next) :=
  ⟨β.le_refl, Nat.le_refl _, fun x _ h0 => ⟨h0, ETr.get_set_ne _ _ fun e => by subst e; rw [hb] at h0; cases h0⟩⟩
/-- The map with one more block. -/
def EMp.put (β : EMp) (b : Nat) (l : ELoc) : EMp := fun x => if x = b then some l else β x
theorem EMp.put_le (β : EMp) {b : Nat} (l : ELoc) (h : β b = none) : β.le (β.put b l) := fun x y e => by
  unfold EMp.put
  by_cases hx : x = b
  · rw [hx] at e; rw [h] at e; cases e
  · rw [if_neg hx]; exact e
theorem EMp.put_at (β : EMp) (b : Nat) (l : ELoc) : β.put b l b = some l := if_pos rfl
theorem EMp.put_ne (β : EMp) {b x : Nat} (l : ELoc) (h : x ≠ b) : β.put b l x = β x := if_neg h
/-- A block that is there as a number, and comes into the world. -/
theorem HR.come {s : ESt} {w w' : World} (h : HR w0 β s w) {b : Nat} {k : EBlk} (hb : β b = none) (hlt : b < s.next) (hk : s.heap.get b = some k)
    (u : Upd (fun _ => False) w w') {l : ELoc} (hc : w.heap.size ≤ l.c) (hB : BR w0 (β.put b l) k l w') : HR w0 (β.put b l) s w' := by
  have h' := h.world u
  refine ⟨h'.up, fun x y e => ?_, fun x y z e1 e2 => ?_, fun b1 b2 l1 l2 k1 k2 e1 e2 g1 g2 v1 v2 e => ?_⟩
  · by_cases hx : x = b
    · rw [hx]; exact hlt
    · rw [EMp.put_ne _ _ hx] at e; exact h.lt x y e
  · by_cases hx : x = b
    · subst hx
      rw [EMp.put_at] at e1
      obtain rfl := Option.some.inj e1
      rw [hk] at e2
      obtain rfl := Option.some.inj e2
      exact hB
    · rw [EMp.put_ne _ _ hx] at e1
      exact (h'.blk x y z e1 e2).keep (β.put_le l hb) fun _ => rfl
  · have big : ∀ (x : Nat) (y : ELoc) (z : EBlk), x ≠ b → β.put b l x = some y → s.heap.get x = some z → z.live → y.c < w.heap.size := fun x y z hx e1 e2 hz => by
      rw [EMp.put_ne _ _ hx] at e1
      exact ((h.blk x y z e1 e2).lives hz).2
    by_cases x1 : b1 = b
    · by_cases x2 : b2 = b
      · rw [x1, x2]
      · have := big b2 l2 k2 x2 e2 g2 v2
        rw [x1, EMp.put_at] at e1
        obtain rfl := Option.some.inj e1
        omega
    · by_cases x2 : b2 = b
      · have := big b1 l1 k1 x1 e1 g1 v1
        rw [x2, EMp.put_at] at e2
        obtain rfl := Option.some.inj e2
        omega
      · rw [EMp.put_ne _ _ x1] at e1
        rw [EMp.put_ne _ _ x2] at e2
        exact h.inj b1 b2 l1 l2 k1 k2 e1 e2 g1 g2 v1 v2 e
/-- A block as a number alone. -/
theorem HR.num {s : ESt} {w : World} (h : HR w0 β s w) (k : EBlk) : HR w0 β (.mk (s.heap.set s.next k) (s.next + 1)) w := by
  have ne : ∀ x y, β x = some y → s.next ≠ x := fun x y e => by have := h.lt x y e; omega
  refine ⟨h.up, fun x y e => Nat.lt_succ_of_lt (h.lt x y e), fun x y z e1 e2 => ?_, fun b1 b2 l1 l2 k1 k2 e1 e2 g1 g2 v1 v2 e => ?_⟩
  · have e2 : (s.heap.set s.next k).get x = some z := e2
    rw [ETr.get_set_ne _ _ (ne x y e1)] at e2
    exact h.blk x y z e1 e2
  · have g1 : (s.heap.set s.next k).get b1 = some k1 := g1
    have g2 : (s.heap.set s.next k).get b2 = some k2 := g2
    rw [ETr.get_set_ne _ _ (ne _ _ e1)] at g1
    rw [ETr.get_set_ne _ _ (ne _ _ e2)] at g2
    exact h.inj b1 b2 l1 l2 k1 k2 e1 e2 g1 g2 v1 v2 e
theorem HR.none_next {s : ESt} {w : World} (h : HR w0 β s w) : β s.next = none := by
  cases e : β s.next with
  | none => rfl
  | some l => exact absurd (h.lt _ _ e) (Nat.lt_irrefl _)
theorem Ext.num {s : ESt} (k : EBlk) (l : ELoc) (h : β s.next = none) : Ext β s (β.put s.next l) (.mk (s.heap.set s.next k) (s.next + 1)) :=
  ⟨β.put_le l h, Nat.le_succ _, fun b hb h0 => ⟨(EMp.put_ne _ _ (by omega)).trans h0, ETr.get_set_ne _ _ (by omega)⟩⟩
theorem ESt.eta (s : ESt) : s = .mk s.heap s.next := by cases s; rfl
end
end Go.Proofs.YtjckpgcmfieaoaaGreatDoor
