/-
  An end, as New makes it.
-/
import Derived.Test.YtfmkdoachjgjbaaGreatDoorMaj
import Derived.Test.YtfmkdoachjgjbaaGreatDoorLk9
import Derived.Test.YtfmkdoachjgjbaaGreatDoorMcb
import Derived.Test.YtfmkdoachjgjbaaGreatDoorMda
import Derived.Test.YtfmkdoachjgjbaaGreatDoorMdd
import Derived.Test.YtfmkdoachjgjbaaGreatDoorLk7
import Derived.Test.YtfmkdoachjgjbaaGreatDoorMce
import Derived.Test.YtfmkdoachjgjbaaGreatDoorMaf
import Derived.Defers
set_option linter.unusedVariables false
set_option linter.unusedSimpArgs false
namespace Go.Proofs.YtfmkdoachjgjbaaGreatDoor
open Go.RowKit

/-- An end, as New makes it. -/
def Ch.new (s : SetupV) : Ch := ⟨s, .zero, s.ours, s.cap - s.ours, [], List.replicate 17 .zero, [], []⟩
theorem Ch.new_ok {s : SetupV} (h : s.Ok) (m : s.may) : (Ch.new s).Ok := by
  obtain ⟨m1, m2, m3, _, _⟩ := m
  have h1 := h.ours
  have h2 := h.cap
  refine ⟨h, ⟨Int.le_refl _, show (0 : Int) ≤ 65535 by decide⟩, ⟨Int.le_refl _, show (0 : Int) < 4294967296 by decide⟩, ⟨Int.le_refl _, show (0 : Int) < 18446744073709551616 by decide⟩, ⟨Int.le_refl _, show (0 : Int) < 18446744073709551616 by decide⟩, h1, ?_, ?_, Nat.zero_le _, ⟨rfl, ?_⟩, ?_, ?_, ⟨Nat.zero_le _, Nat.zero_le _⟩⟩
  · show 0 ≤ s.cap - s.ours ∧ s.cap - s.ours < _
    omega
  · intro x hx; cases hx
  · intro p hp; rw [List.eq_of_mem_replicate hp]; rfl
  · intro x hx; cases hx
  · intro x hx; cases hx
theorem chS_new {w : World} {g : Nat} {s : SetupV} (h : ChR w g (.new s)) (hs : s.Ok) (m : s.may) : ChS w g (· = g) (Ch.new s) := by
  refine ⟨nilV, nilV, nilV, h.at_, Ch.new_ok hs m, World.ownsRow_nil _ _ _ _, World.ownsRow_nil _ _ _ _, World.ownsRow_nil _ _ _ _, rfl, ?_, ?_, ?_, ?_, ?_⟩
  · intro k hk; simp [nilV, Value.ownBlock] at hk
  · intro k hk; simp [nilV, Value.ownBlock] at hk
  · intro k hk; simp [nilV, Value.ownBlock] at hk
  · intro k hk; simp [nilV, Value.ownBlock] at hk
  · intro k hk; rw [hk]; exact blk_lt h.at_

theorem may_addN {c i a e : Int} (h : List Int) (ha : a ≤ 1125899906842624) (he : 0 ≤ e ∧ e ≤ 1073741824) : mayMsg ⟨3, c, i, a, h, e, 0⟩ = true := by
  unfold mayMsg
  show (if e < 0 ∨ 1073741824 < e ∨ (0 : Int) < 0 ∨ 65535 < (0 : Int) ∨ 1125899906842624 < a then false else decide (zeros _ _ = kindMsg 3)) = true
  rw [if_neg (by omega)]
  kernel_rfl
theorem may_signN (c : Int) (T : List Int) {n : Int} (hn : 0 ≤ n ∧ n ≤ 65535) : mayMsg ⟨6, c, 0, 0, T, 0, n⟩ = true := by
  unfold mayMsg
  show (if (0 : Int) < 0 ∨ 1073741824 < (0 : Int) ∨ n < 0 ∨ 65535 < n ∨ 1125899906842624 < (0 : Int) then false else decide (zeros _ _ = kindMsg 6)) = true
  rw [if_neg (by omega)]
  kernel_rfl
theorem sayOk_mk {k c i a e n : Int} {h : List Int} (hk : 0 ≤ k ∧ k < 256) (hc : 0 ≤ c ∧ c < 4294967296) (hi : 0 ≤ i ∧ i < 18446744073709551616) (ha : 0 ≤ a ∧ a ≤ 1125899906842624) (hl : h.length = 32) (hb : ∀ b ∈ h, 0 ≤ b ∧ b ≤ 255) (he : 0 ≤ e ∧ e ≤ 1073741824) (hn : 0 ≤ n ∧ n ≤ 65535) (hm : mayMsg ⟨k, c, i, a, h, e, n⟩ = true) : SayOk ⟨k, c, i, a, h, e, n⟩ := by
  refine ⟨⟨⟨?_, hc, hi, ⟨ha.1, ?_⟩, hl, hb, ?_, ?_⟩, ⟨he.1, ?_⟩, ⟨hn.1, ?_⟩⟩, hm, hk⟩
  · show -9223372036854775808 ≤ k ∧ k ≤ 9223372036854775807
    omega
  · show a < 18446744073709551616
    omega
  · show -9223372036854775808 ≤ e ∧ e ≤ 9223372036854775807
    omega
  · show -9223372036854775808 ≤ n ∧ n ≤ 9223372036854775807
    omega
  · show e < 4294967296
    omega
  · show n < 65536
    omega
/-- A link that has said at most n messages since it was new. -/
structure LkB (l : Lk) (n : Nat) : Prop where
  dead : l.dead = false
  waits : l.waits = false
  fused : l.j.fused = false
  off : l.j.off = false
  many : 0 ≤ l.j.many ∧ l.j.many ≤ n
  len : l.j.bs.size ≤ 2000 * n
  out : l.out.size ≤ 2000 * n
theorem LkB.ok {l : Lk} {n : Nat} (h : LkB l n) (hn : n ≤ 100000000) : LkOk l := ⟨h.dead, h.waits, h.fused, h.off, ⟨h.many.1, by have := h.many.2; omega⟩, by have := h.len; omega, by have := h.out; omega⟩
theorem LkB.mono {l : Lk} {n m : Nat} (h : LkB l n) (hn : n ≤ m) : LkB l m := ⟨h.dead, h.waits, h.fused, h.off, ⟨h.many.1, by have := h.many.2; omega⟩, by have := h.len; omega, by have := h.out; omega⟩
theorem LkB.new (c : Ch) : LkB (.new c) 0 := ⟨rfl, rfl, rfl, rfl, ⟨Int.le_refl _, Int.le_refl _⟩, Nat.le_refl _, Nat.le_refl _⟩
theorem LkB.acts {l : Lk} {n : Nat} (h : LkB l n) {c' : Ch} {rec : ByteArray} {m : MsgV} {er : Int} (hr : rec.size ≤ 1024) (hs : er = 0 → SayOk m) : LkB (l.acts c' rec m er) (n + 1) := by
  unfold Lk.acts
  split
  · rename_i he
    have hz := (hs he).size
    have hp := putI_size l.j.many.toNat rec
    have h1 := h.len
    have h2 := h.out
    have h3 := h.many
    refine ⟨h.dead, h.waits, h.fused, h.off, ⟨?_, ?_⟩, ?_, ?_⟩
    · show 0 ≤ l.j.many + 1
      omega
    · show l.j.many + 1 ≤ ((n + 1 : Nat) : Int)
      omega
    · show (l.j.bs ++ putI l.j.many.toNat rec).size ≤ _
      rw [ByteArray.size_append]
      omega
    · show (l.out ++ sayS m).size ≤ _
      rw [ByteArray.size_append]
      omega
  · have := h.mono (Nat.le_succ n)
    exact ⟨this.dead, this.waits, this.fused, this.off, this.many, this.len, this.out⟩
theorem LkB.offers {l : Lk} {n : Nat} (h : LkB l n) {a x : Nat} {hh : List Int} (hl : hh.length = 32) (hs : (l.c.offer a (hvec hh) x).2.2 = 0 → SayOk (l.c.offer a (hvec hh) x).2.1) : LkB (l.offers a x hh) (n + 1) := h.acts (join4_size hl) hs
theorem LkB.shut {l : Lk} {n : Nat} (h : LkB l n) (hs : l.c.shut.2.2 = 0 → SayOk l.c.shut.2.1) : LkB l.shut (n + 1) := h.acts (by rw [numS_size]; decide) hs
/-- A link that is new, whole. -/
theorem NewL.whole {w : World} {B g : Nat} {s : SetupV} {l : LinkV} (h : NewL w B g s l) (hs : s.Ok) (hm : s.may) : LkS w g (fun i => i = g ∨ i = l.sp ∨ i = l.en ∨ i = l.lo) (.new (Ch.new s)) := by
  have hc := chS_new h.ch hs hm
  have hj := JoS.fresh h.jo
  have hat : LkR w g ((Lk.new (Ch.new s)).v l.sp l.en l.lo) := by
    have := h.lk
    rw [h.isNew] at this
    exact this
  have e1 := h.ne
  refine ⟨l.sp, l.en, l.lo, _, _, ⟨hat, h.sp, hc, hj, .inl rfl, .inr (.inl rfl), fun k e => .inr (.inr (.inl e)), fun k e => .inr (.inr (.inr e)), ?_, ?_, ?_, ?_, ?_, ?_⟩⟩
  · show ¬ g = l.en
    omega
  · show ¬ g = l.lo
    omega
  · show ¬ l.sp = l.en
    omega
  · show ¬ l.sp = l.lo
    omega
  · intro k e e'
    have e : k = l.en := e
    have e' : k = l.lo := e'
    omega
  · have h1 := blk_lt h.lk
    have h2 := blk_lt h.sp
    have h3 := blk_lt h.ch.at_
    have h4 := blk_lt h.jo
    rintro k (e | e | e | e) <;> rw [e]
    · exact h1
    · exact h2
    · exact h3
    · exact h4

attribute [local go_sem ↓ high] ld_msg_fold st_msg_fold al_msg_fold bd_msg_fold bs_msg_fold
attribute [local go_sem] ld_msg st_msg al_msg rowN_drew bd_msg_zero bs_msg
end Go.Proofs.YtfmkdoachjgjbaaGreatDoor
namespace Go.Proofs.YtfmkdoachjgjbaaGreatDoor
open Go.RowKit

attribute [local go_sem ↓ high] ld_msg_fold st_msg_fold al_msg_fold bd_msg_fold bs_msg_fold
attribute [local go_sem] ld_msg st_msg al_msg rowN_drew bd_msg_zero bs_msg
end Go.Proofs.YtfmkdoachjgjbaaGreatDoor
namespace Go.Proofs.YtfmkdoachjgjbaaGreatDoor
open Go.RowKit

section
variable {w w' : World} {g : Nat} {S T : Nat → Prop} {l : Lk} {sp en lo : Nat} {SC SJ : Nat → Prop}
/-- The splitter's bytes set. -/
theorem LkP.split (h : LkP w g S l sp en lo SC SJ) (u : Upd (fun k => k = sp) w w') {r : ByteArray} (hs : Spl w' sp r) : LkP w' g S { l with rest := r } sp en lo SC SJ :=
  ⟨u.old h.at_ h.ne, hs, h.chn.upd u (fun k hk e => h.sC (e ▸ hk)), h.jou.upd u (fun k hk e => h.sJ (e ▸ hk)), h.inG, h.inS, h.inC, h.inJ, h.gC, h.gJ, h.sC, h.sJ, h.cJ, fun k hk => Nat.lt_of_lt_of_le (h.lt k hk) u.size⟩
end

/-- The number of the first n bytes. -/
def rdN (s : ByteArray) : Nat → Int
  | 0 => 0
  | n + 1 => rdN s n * 256 + bt s n
theorem rdN_bd (s : ByteArray) : ∀ n, 0 ≤ rdN s n ∧ rdN s n < 256 ^ n
  | 0 => ⟨Int.le_refl _, by show (0 : Int) < 1; decide⟩
  | n + 1 => by
    have h := rdN_bd s n
    have b := bt_bd s n
    rw [Int.pow_succ]
    unfold rdN
    omega
theorem bt_extract (s : ByteArray) (n i : Nat) (hi : i < n) (hn : n ≤ s.size) : bt (s.extract 0 n) i = bt s i := by
  have h1 : i < (s.extract 0 n).size := by rw [ByteArray.size_extract]; omega
  rw [← bt_eq _ i h1, ← bt_eq s i (by omega), ByteArray.getElem_extract]
  simp
/-- The hash of the first 32 bytes. -/
def rdH (s : ByteArray) : List Int := (List.range 32).map (bt s)
theorem rdH_len (s : ByteArray) : (rdH s).length = 32 := by unfold rdH; simp
theorem rdH_bytes (s : ByteArray) : ∀ b ∈ rdH s, 0 ≤ b ∧ b ≤ 255 := by
  intro b hb
  obtain ⟨i, -, rfl⟩ := List.mem_map.1 hb
  exact bt_bd s i
def Fld.wid : Fld → Nat
  | .ch => 4
  | .id => 8
  | .amount => 8
  | .hash => 32
  | .expiry => 4
  | .number => 2
def Fld.get (x : Fld) (s : ByteArray) (m : MsgV) : MsgV :=
  match x with
  | .ch => { m with ch := rdN s 4 }
  | .id => { m with id := rdN s 8 }
  | .amount => { m with amount := rdN s 8 }
  | .hash => { m with hash := rdH s }
  | .expiry => { m with expiry := rdN s 4 }
  | .number => { m with number := rdN s 2 }
theorem get_ok {m : MsgV} (h : MsgOk m) (x : Fld) (s : ByteArray) : MsgOk (x.get s m) := by
  have h2 : 0 ≤ rdN s 2 ∧ rdN s 2 < 65536 := rdN_bd s 2
  have h4 : 0 ≤ rdN s 4 ∧ rdN s 4 < 4294967296 := rdN_bd s 4
  have h8 : 0 ≤ rdN s 8 ∧ rdN s 8 < 18446744073709551616 := rdN_bd s 8
  cases x
  · exact ⟨h.kind, h4, h.id, h.amount, h.len, h.hash, h.expiry, h.number⟩
  · exact ⟨h.kind, h.ch, h8, h.amount, h.len, h.hash, h.expiry, h.number⟩
  · exact ⟨h.kind, h.ch, h.id, h8, h.len, h.hash, h.expiry, h.number⟩
  · exact ⟨h.kind, h.ch, h.id, h.amount, rdH_len s, rdH_bytes s, h.expiry, h.number⟩
  · exact ⟨h.kind, h.ch, h.id, h.amount, h.len, h.hash, ⟨show -9223372036854775808 ≤ rdN s 4 by omega, show rdN s 4 ≤ 9223372036854775807 by omega⟩, h.number⟩
  · exact ⟨h.kind, h.ch, h.id, h.amount, h.len, h.hash, h.expiry, ⟨show -9223372036854775808 ≤ rdN s 2 by omega, show rdN s 2 ≤ 9223372036854775807 by omega⟩⟩
theorem get_kind (x : Fld) (s : ByteArray) (m : MsgV) : (x.get s m).kind = m.kind := by cases x <;> rfl
/-- Fields, read one behind the other. -/
def getL : List Fld → ByteArray → MsgV → Option (MsgV × ByteArray)
  | [], s, m => some (m, s)
  | x :: xs, s, m => if s.size < x.wid then none else getL xs (s.extract x.wid s.size) (x.get s m)
theorem getL_snoc (x : Fld) : ∀ (xs : List Fld) (s : ByteArray) (m : MsgV), getL (xs ++ [x]) s m = (getL xs s m).bind fun p => if p.2.size < x.wid then none else some (x.get p.2 p.1, p.2.extract x.wid p.2.size)
  | [], s, m => rfl
  | y :: ys, s, m => by
    show (if s.size < y.wid then none else getL (ys ++ [x]) _ _) = _
    rw [getL]
    split
    · rfl
    · exact getL_snoc x ys _ _
theorem getL_take {xs : List Fld} {i : Nat} {x : Fld} (h : xs[i]? = some x) {s r : ByteArray} {m n : MsgV} (hg : getL (xs.take i) s m = some (n, r)) : getL (xs.take (i + 1)) s m = if r.size < x.wid then none else some (x.get r n, r.extract x.wid r.size) := by
  rw [List.take_add_one, h]
  show getL (xs.take i ++ [x]) s m = _
  rw [getL_snoc, hg]
  rfl
theorem getL_none {s : ByteArray} {m : MsgV} : ∀ (xs ys : List Fld), getL xs s m = none → getL (xs ++ ys) s m = none := by
  intro xs
  induction xs generalizing s m with
  | nil => intro ys h; cases h
  | cons x xs ih =>
    intro ys h
    show (if s.size < x.wid then none else getL (xs ++ ys) _ _) = none
    rw [getL] at h
    split
    · rfl
    · rename_i hs
      rw [if_neg hs] at h
      exact ih ys h
theorem getL_ok {r : ByteArray} {n : MsgV} : ∀ (xs : List Fld) (s : ByteArray) (m : MsgV), MsgOk m → getL xs s m = some (n, r) → MsgOk n ∧ n.kind = m.kind ∧ r.size ≤ s.size
  | [], s, m, h, e => by
    cases e
    exact ⟨h, rfl, Nat.le_refl _⟩
  | x :: xs, s, m, h, e => by
    rw [getL] at e
    split at e
    · cases e
    · obtain ⟨h1, h2, h3⟩ := getL_ok xs _ _ (get_ok h x s) e
      rw [ByteArray.size_extract] at h3
      exact ⟨h1, h2.trans (get_kind x s m), by omega⟩
/-- The message that bytes are, or the error. -/
def decL (s : ByteArray) : MsgV × Int :=
  if s.size = 0 then (MsgV.zero, 10) else
  match fieldsOf (bt s 0) with
  | none => (MsgV.zero, 70)
  | some xs => match getL xs (s.extract 1 s.size) (kindMsg (bt s 0)) with
    | none => (MsgV.zero, 10)
    | some (m, r) => if r.size ≠ 0 then (MsgV.zero, 11) else if mayMsg m = true then (m, 0) else (MsgV.zero, 1)
theorem dec_empty {s : ByteArray} (h : s.size = 0) : decL s = (MsgV.zero, 10) := by unfold decL; rw [if_pos h]
theorem dec_kind {s : ByteArray} (h : s.size ≠ 0) (hf : fieldsOf (bt s 0) = none) : decL s = (MsgV.zero, 70) := by unfold decL; rw [if_neg h, hf]
theorem dec_short {s : ByteArray} {xs : List Fld} (h : s.size ≠ 0) (hf : fieldsOf (bt s 0) = some xs) (hg : getL xs (s.extract 1 s.size) (kindMsg (bt s 0)) = none) : decL s = (MsgV.zero, 10) := by unfold decL; rw [if_neg h, hf]; simp only []; rw [hg]
theorem dec_more {s r : ByteArray} {m : MsgV} {xs : List Fld} (h : s.size ≠ 0) (hf : fieldsOf (bt s 0) = some xs) (hg : getL xs (s.extract 1 s.size) (kindMsg (bt s 0)) = some (m, r)) (hr : r.size ≠ 0) : decL s = (MsgV.zero, 11) := by unfold decL; rw [if_neg h, hf]; simp only []; rw [hg]; simp only []; rw [if_pos hr]
theorem dec_may {s r : ByteArray} {m : MsgV} {xs : List Fld} (h : s.size ≠ 0) (hf : fieldsOf (bt s 0) = some xs) (hg : getL xs (s.extract 1 s.size) (kindMsg (bt s 0)) = some (m, r)) (hr : r.size = 0) (hm : mayMsg m = true) : decL s = (m, 0) := by unfold decL; rw [if_neg h, hf]; simp only []; rw [hg]; simp only []; rw [if_neg (by omega), if_pos hm]
theorem dec_not {s r : ByteArray} {m : MsgV} {xs : List Fld} (h : s.size ≠ 0) (hf : fieldsOf (bt s 0) = some xs) (hg : getL xs (s.extract 1 s.size) (kindMsg (bt s 0)) = some (m, r)) (hr : r.size = 0) (hm : mayMsg m = false) : decL s = (MsgV.zero, 1) := by unfold decL; rw [if_neg h, hf]; simp only []; rw [hg]; simp only []; rw [if_neg (by omega), if_neg (by rw [hm]; decide)]

/-- A reader, of which s is left. -/
def Rd (w : World) (g : Nat) (s : ByteArray) : Prop := w.heap[g]? = some (.cells #[.string s] 262 (0, 0))
theorem Rd.new {w w' : World} {g : Nat} {s : ByteArray} (h : Rd w g s) (n : New w w') : Rd w' g s := n.old h (fun h => h)
theorem Rd.lt {w : World} {g : Nat} {s : ByteArray} (h : Rd w g s) : g < w.heap.size := blk_lt h
theorem Rd.cell {w : World} {g : Nat} {s : ByteArray} (h : Rd w g s) : w.cell? ⟨g, 0, none⟩ = some (.string s) := blk_cell h 0
theorem Rd.free {w : World} {g : Nat} {s : ByteArray} (h : Rd w g s) : w.frozen? ⟨g, 0, none⟩ = false := blk_free h 0
theorem Rd.set {w : World} {g : Nat} {s : ByteArray} (h : Rd w g s) (r : ByteArray) : Rd (w.setCell ⟨g, 0, none⟩ (.string r)) g r := blk_set h 0 _
theorem Rd.upd {w w' : World} {g : Nat} {s : ByteArray} {T : Nat → Prop} (h : Rd w g s) (u : Upd T w w') (hT : ¬ T g) : Rd w' g s := u.old h hT
set_option maxHeartbeats 400000 in
theorem newRd_any (s : ByteArray) (w : World) : Calls Tryz.prog 131 #[.string s] w fun e w' => e = .returned (.pointer (some ⟨w.heap.size, 0, none⟩)) ∧ Rd w' w.heap.size s ∧ New w w' ∧ w'.heap.size = w.heap.size + 1 := by
  go_enter Tryz.func131, Tryz.ntmps131
  go_wp2_with fail
  go_ret
  exact ⟨rfl, blk_alloc _ _, (Upd.refl _ _).alloc _, World.size_alloc _ _⟩
set_option maxHeartbeats 400000 in
theorem take_short (g n : Nat) (s : ByteArray) (w : World) (h : Rd w g s) (hn : s.size < n) :
    Calls Tryz.prog 167 #[.pointer (some ⟨g, 0, none⟩), .int .i64 n] w (Reads (.tuple #[.string ⟨#[]⟩, .int .i64 10]) w) := by
  have hc := h.cell
  have hn' : (s.size : Int) < (n : Int) := by omega
  clear h
  go_enter Tryz.func167, Tryz.ntmps167
  go_wp2_with fail
  go_ret2
  exact ⟨rfl, Q.refl _⟩
set_option maxHeartbeats 400000 in
theorem take_ok (g n : Nat) (s : ByteArray) (w : World) (h : Rd w g s) (hn : n ≤ s.size) :
    Calls Tryz.prog 167 #[.pointer (some ⟨g, 0, none⟩), .int .i64 n] w fun e w' => e = .returned (.tuple #[.string (s.extract 0 n), .int .i64 0]) ∧ w.setCell ⟨g, 0, none⟩ (.string (s.extract n s.size)) = w' := by
  have hc := h.cell
  have hf := h.free
  have hn' : ¬ (s.size : Int) < (n : Int) := by omega
  have hn2 : (n : Int) ≤ (s.size : Int) := by omega
  clear h
  go_enter Tryz.func167, Tryz.ntmps167
  go_wp2
  go_ret2
  exact ⟨rfl, rfl⟩
set_option maxHeartbeats 400000 in
theorem end_ok (g : Nat) (s : ByteArray) (w : World) (h : Rd w g s) (hs : s.size = 0) :
    Calls Tryz.prog 141 #[.pointer (some ⟨g, 0, none⟩)] w (Reads (.int .i64 0) w) := by
  have hc := h.cell
  obtain rfl : s = ⟨#[]⟩ := by
    cases s with | mk d => simpa [ByteArray.size] using hs
  clear h
  go_enter Tryz.func141, Tryz.ntmps141
  go_wp2
  go_ret
  exact ⟨rfl, Q.refl _⟩
set_option maxHeartbeats 400000 in
theorem end_more (g : Nat) (s : ByteArray) (w : World) (h : Rd w g s) (hs : 0 < s.size) :
    Calls Tryz.prog 141 #[.pointer (some ⟨g, 0, none⟩)] w (Reads (.int .i64 11) w) := by
  have hc := h.cell
  have hne := str_ne hs
  clear h
  go_enter Tryz.func141, Tryz.ntmps141
  go_wp2
  go_ret
  exact ⟨rfl, Q.refl _⟩
/-- What back has made: the places of what it keeps. -/
structure BackV (w : World) (g E : Nat) (s : ByteArray) (p q r : Nat) : Prop where
  e : w.cell? ⟨p, 0, none⟩ = some (.pointer (some ⟨E, 0, none⟩))
  s : w.cell? ⟨q, 0, none⟩ = some (.string s)
  g : w.cell? ⟨r, 0, none⟩ = some (.pointer (some ⟨g, 0, none⟩))
theorem BackV.upd {w w' : World} {g E : Nat} {s : ByteArray} {p q r : Nat} {T : Nat → Prop} (h : BackV w g E s p q r) (u : Upd T w w') (hp : ¬ T p) (hq : ¬ T q) (hr : ¬ T r) : BackV w' g E s p q r := ⟨u.cell h.e hp, u.cell h.s hq, u.cell h.g hr⟩
set_option maxHeartbeats 1000000 in
theorem back_any (g E : Nat) (s : ByteArray) (w : World) (h : Rd w g s) : Calls Tryz.prog 166 #[.pointer (some ⟨g, 0, none⟩), .pointer (some ⟨E, 0, none⟩)] w fun e w' => ∃ p q r, e = .returned (.func (.func 199) #[] #[.pointer (some ⟨p, 0, none⟩), .pointer (some ⟨q, 0, none⟩), .pointer (some ⟨r, 0, none⟩)]) ∧ New w w' ∧ BackV w' g E s p q r ∧ w.heap.size ≤ p ∧ w.heap.size ≤ q ∧ w.heap.size ≤ r := by
  have hmf : ∀ (fn : Fn) (first cap : Array Value) (w : World), (Instr.makeFunc fn first cap).run Tryz.prog w = .ok (.func fn first cap) w := fun _ _ _ _ => rfl
  have hc := h.cell
  go_enter Tryz.func166, Tryz.ntmps166
  go_upto_region 1 with fail
  have b1 := blk_alloc w (.cells #[.pointer (some ⟨g, 0, none⟩)] 227)
  have n1 : New w (w.alloc (.cells #[.pointer (some ⟨g, 0, none⟩)] 227)) := (Upd.refl _ _).alloc _
  have z1 : (w.alloc (.cells #[.pointer (some ⟨g, 0, none⟩)] 227)).heap.size = w.heap.size + 1 := World.size_alloc _ _
  generalize w.alloc (.cells #[.pointer (some ⟨g, 0, none⟩)] 227) = w1 at b1 n1 z1 ⊢
  have b2 := blk_alloc w1 (.cells #[.pointer (some ⟨E, 0, none⟩)] 268)
  have n2 : New w1 (w1.alloc (.cells #[.pointer (some ⟨E, 0, none⟩)] 268)) := (Upd.refl _ _).alloc _
  have z2 : (w1.alloc (.cells #[.pointer (some ⟨E, 0, none⟩)] 268)).heap.size = w1.heap.size + 1 := World.size_alloc _ _
  generalize w1.alloc (.cells #[.pointer (some ⟨E, 0, none⟩)] 268) = w2 at b2 n2 z2 ⊢
  rw [z1] at b2 z2
  have c1 : w2.cell? ⟨w.heap.size, 0, none⟩ = some (.pointer (some ⟨g, 0, none⟩)) := n2.cell (blk_cell b1 0) (fun h => h)
  have c2 := n2.cell (n1.cell hc (fun h => h)) (fun h => h)
  have HX := hide (And.intro b1 (And.intro b2 (And.intro z1 (And.intro z2 (And.intro n1 n2)))))
  clear b1 b2 z1 z2 n1 n2 hc h
  go_upto_region 2 with fail
  have n3 : New w2 (w2.alloc (.cells #[.string s] 9)) := (Upd.refl _ _).alloc _
  have b3 := blk_alloc w2 (.cells #[.string s] 9)
  generalize w2.alloc (.cells #[.string s] 9) = w3 at n3 b3 ⊢
  generalize hQ : w2.heap.size = q at b3 ⊢
  have HY := hide (And.intro n3 (And.intro b3 hQ))
  clear n3 b3 hQ c1 c2
  go_wp2_with fail
  go_ret
  obtain ⟨b1, b2, z1, z2, n1, n2⟩ := unhide HX
  obtain ⟨n3, b3, hQ⟩ := unhide HY
  exact ⟨_, _, _, rfl, (n1.trans n2).trans n3, ⟨n3.cell (blk_cell b2 0) (fun h => h), blk_cell b3 0, n3.cell (n2.cell (blk_cell b1 0) (fun h => h)) (fun h => h)⟩, by omega, by omega, by omega⟩
set_option maxHeartbeats 400000 in
theorem back_idle (g E p q r : Nat) (s : ByteArray) (u : FrameMode) (w : World) (h : BackV w g E s p q r) (hE : w.cell? ⟨E, 0, none⟩ = some (.int .i64 0)) :
    CallsD Tryz.prog 199 #[.pointer (some ⟨p, 0, none⟩), .pointer (some ⟨q, 0, none⟩), .pointer (some ⟨r, 0, none⟩)] u w fun e u' w' => u' = u ∧ (e = .returned (.tuple #[]) ∧ w = w') := by
  obtain ⟨h1, h2, h3⟩ := h
  go_enter_d Tryz.func199, Tryz.ntmps199
  go_wp2
  go_end0
  exact ⟨rfl, rfl⟩
set_option maxHeartbeats 400000 in
theorem back_err (g E p q r : Nat) (s t : ByteArray) (er : Int) (u : FrameMode) (w : World) (h : BackV w g E s p q r) (hE : w.cell? ⟨E, 0, none⟩ = some (.int .i64 er)) (her : (er != 0) = true) (hg : Rd w g t) :
    CallsD Tryz.prog 199 #[.pointer (some ⟨p, 0, none⟩), .pointer (some ⟨q, 0, none⟩), .pointer (some ⟨r, 0, none⟩)] u w fun e u' w' => u' = u ∧ (e = .returned (.tuple #[]) ∧ w' = w.setCell ⟨g, 0, none⟩ (.string s)) := by
  obtain ⟨h1, h2, h3⟩ := h
  have hc := hg.cell
  have hf := hg.free
  go_enter_d Tryz.func199, Tryz.ntmps199
  go_wp2
  go_end0
  exact ⟨rfl, rfl⟩
theorem or64 (x y : Int) (h0 : 0 ≤ x) (h1 : x < 72057594037927936) (h2 : 0 ≤ y) (h3 : y ≤ 255) : bits .or .u64 (x * 256) y = x * 256 + y := by
  obtain ⟨a, rfl⟩ := Int.eq_ofNat_of_zero_le h0
  obtain ⟨b, rfl⟩ := Int.eq_ofNat_of_zero_le h2
  have e : (a : Int) * 256 = ((a * 256 : Nat) : Int) := by omega
  rw [e]
  show IntKind.u64.wrap ((BitVec.ofInt 64 ((a * 256 : Nat) : Int) ||| BitVec.ofInt 64 (b : Int)).toNat : Int) = _
  rw [BitVec.toNat_or, ofInt64_nat _ (by omega), ofInt64_nat _ (by omega)]
  have h := Nat.shiftLeft_add_eq_or_of_lt (b := b) (i := 8) (by omega) a
  rw [Nat.shiftLeft_eq] at h
  rw [show a * 256 = a * 2 ^ 8 from rfl, ← h, IntKind.wrap_u64]
  omega

theorem rdN_wrap (s : ByteArray) (i : Nat) (hi : i < 8) : IntKind.u64.wrap (rdN s i * 256) = rdN s i * 256 ∧ 0 ≤ rdN s i ∧ rdN s i < 72057594037927936 := by
  have h : 0 ≤ rdN s i ∧ rdN s i < 72057594037927936 := by
    rcases (by omega : i = 0 ∨ i = 1 ∨ i = 2 ∨ i = 3 ∨ i = 4 ∨ i = 5 ∨ i = 6 ∨ i = 7) with rfl | rfl | rfl | rfl | rfl | rfl | rfl | rfl
    · have h : 0 ≤ rdN s 0 ∧ rdN s 0 < 1 := rdN_bd s 0
      omega
    · have h : 0 ≤ rdN s 1 ∧ rdN s 1 < 256 := rdN_bd s 1
      omega
    · have h : 0 ≤ rdN s 2 ∧ rdN s 2 < 65536 := rdN_bd s 2
      omega
    · have h : 0 ≤ rdN s 3 ∧ rdN s 3 < 16777216 := rdN_bd s 3
      omega
    · have h : 0 ≤ rdN s 4 ∧ rdN s 4 < 4294967296 := rdN_bd s 4
      omega
    · have h : 0 ≤ rdN s 5 ∧ rdN s 5 < 1099511627776 := rdN_bd s 5
      omega
    · have h : 0 ≤ rdN s 6 ∧ rdN s 6 < 281474976710656 := rdN_bd s 6
      omega
    · exact rdN_bd s 7
  exact ⟨wrapU (by omega) (by omega), h.1, h.2⟩
set_option maxRecDepth 100000 in
set_option maxHeartbeats 1000000 in
theorem rnum_ok (g n : Nat) (s : ByteArray) (w : World) (h : Rd w g s) (h1 : 1 ≤ n) (h8 : n ≤ 8) (hs : n ≤ s.size) :
    Calls Tryz.prog 134 #[.pointer (some ⟨g, 0, none⟩), .int .i64 n] w fun e w' => e = .returned (.tuple #[.int .u64 (rdN s n), .int .i64 0]) ∧ Upd (fun k => k = g) w w' ∧ Rd w' g (s.extract n s.size) := by
  have hmf : ∀ (fn : Fn) (first cap : Array Value) (w : World), (Instr.makeFunc fn first cap).run Tryz.prog w = .ok (.func fn first cap) w := fun _ _ _ _ => rfl
  have hgl := h.lt
  have h1' : (1 : Int) ≤ n := by omega
  have h8' : (n : Int) ≤ 8 := by omega
  have hlt : decide ((n : Int) < 1) = false := by simp; omega
  have hgt : decide ((8 : Int) < (n : Int)) = false := by simp; omega
  go_enter_defers Tryz.func134, Tryz.ntmps134
  go_upto_region 1 with fail
  have n1 : New w (w.alloc (.cells #[.int .i64 0] 26)) := (Upd.refl _ _).alloc _
  have hE := blk_alloc w (.cells #[.int .i64 0] 26)
  have hH := h.new n1
  generalize w.alloc (.cells #[.int .i64 0] 26) = w1 at n1 hE hH ⊢
  have hgE : g ≠ w.heap.size := by omega
  generalize hEe : w.heap.size = E at hE hgE ⊢
  have HEe := hide hEe
  have HEb := hide hE
  have N1 := hide n1
  clear hEe hE n1 h
  go_wp2_with fail
  refine (back_any g E s w1 hH).mono ?_
  rintro e w2 ⟨p, q, r, rfl, n2, hB, ge1, ge2, ge3⟩
  have HB := hide (And.intro hB (And.intro ge1 (And.intro ge2 ge3)))
  have hE2 := n2.old (unhide HEb) (fun h => h)
  have hR2 := hH.new n2
  have N2 := hide ((unhide N1).trans n2)
  have hEl := blk_lt (unhide HEb)
  clear hB hH ge1 ge2 ge3 n2
  go_wp2_with fail
  refine (take_ok g n s w2 hR2 hs).mono ?_
  rintro e w3 ⟨rfl, rfl⟩
  have hR3 := hR2.set (s.extract n s.size)
  have u3 : Upd (fun k => k = g) w2 (w2.setCell ⟨g, 0, none⟩ (.string (s.extract n s.size))) := (Upd.refl _ _).set1 _ _
  have hE3 := u3.old hE2 (fun e => hgE e.symm)
  generalize w2.setCell ⟨g, 0, none⟩ (.string (s.extract n s.size)) = w3 at hR3 u3 hE3 ⊢
  have c3 := blk_cell hE3 0
  have f3 := blk_free hE3 0
  have hE4 := blk_set hE3 0 (.int .i64 0)
  have u4 : Upd (fun k => k = E) w3 (w3.setCell ⟨E, 0, none⟩ (.int .i64 0)) := (Upd.refl _ _).set1 _ _
  have hqz : (s.extract 0 n).size = n := by rw [ByteArray.size_extract]; omega
  have hqb : ∀ i, i < n → bt (s.extract 0 n) i = bt s i := fun i hi => bt_extract s n i hi hs
  generalize s.extract 0 n = x at hqz hqb ⊢
  have HR := hide hR3
  have HU := hide (And.intro u3 (And.intro u4 hE4))
  have HQ := hide hqb
  clear hE2 hR2 hR3 u3 hE3 u4 hE4 hqb hlt hgt
  go_upto_region 5 with fail
  generalize w3.setCell ⟨E, 0, none⟩ (.int .i64 0) = w4 at HU ⊢
  have c4 : w4.cell? ⟨E, 0, none⟩ = some (.int .i64 0) := blk_cell (unhide HU).2.2 0
  go_wp2_with fail
  go_loopw [4, 27] (fun nv iv wr => ∃ i : Nat, nv = .int .u64 (rdN s i) ∧ iv = .int .i64 (i : Int) ∧ i ≤ n ∧ Q w4 wr) (fun _ iv _ => n - (intOf iv).toNat)
  case atStart => exact ⟨0, rfl, rfl, Nat.zero_le _, Q.refl _⟩
  case round =>
    obtain ⟨i, rfl, rfl, hi, qi⟩ := hrel
    obtain ⟨wq, rfl⟩ : ∃ wq : World, wq = wr := ⟨_, rfl⟩
    clear c3 f3 c4
    by_cases hlt : i < n
    · have hi0 : (i : Int) < (n : Int) := by omega
      obtain ⟨c1, d1, d2⟩ := rdN_wrap s i (by omega)
      obtain ⟨b1, b2⟩ := bt_bd s i
      have hix : ∀ w, (Instr.index 9 (.string x) (.int .i64 (i : Int))).run Tryz.prog w = .ok (.int .u8 (bt s i)) w := fun w => by
        rw [← unhide HQ i hlt]
        exact run_index_at 9 x .i64 i i Tryz.underlying9 rfl (by omega) w
      have hor := or64 (rdN s i) (bt s i) d1 d2 b1 b2
      have hsucc : rdN s (i + 1) = rdN s i * 256 + bt s i := rfl
      generalize hy : rdN s i = y at *
      generalize hb : bt s i = b at *
      have HS := hide hsucc
      clear hsucc hy hb
      go_wp2_with fail
      go_roundw
      case rel => exact ⟨i + 1, by rw [unhide HS, ← hor], by go_num, by omega, qi⟩
      case measure => simp [intOf]; omega
    · obtain rfl : i = n := by omega
      have hE5 := qi.old (unhide HU).2.2
      have f5 := blk_free hE5 0
      have d5 := blk_cell hE5 0
      have hE6 := blk_set hE5 0 (.int .i64 0)
      have u6 : Upd (fun k => k = E) wq (wq.setCell ⟨E, 0, none⟩ (.int .i64 0)) := (Upd.refl _ _).set1 _ _
      have HU6 := hide (And.intro hE6 (And.intro u6 qi))
      clear hE5 hE6 u6 qi
      generalize hV : rdN s i = V
      have HV := hide hV
      clear hV
      go_wp2_with fail
      obtain ⟨hE6, u6, q6⟩ := unhide HU6
      obtain ⟨u3, u4, -⟩ := unhide HU
      obtain ⟨hB, ge1, ge2, ge3⟩ := unhide HB
      have hw1 := (unhide N1).size
      have hz := unhide HEe
      have u26 : Upd (fun k => k = g ∨ k = E) w2 (wq.setCell ⟨E, 0, none⟩ (.int .i64 0)) := (((u3.mono (fun k _ e => Or.inl (a := k = g) (b := k = E) e)).trans (u4.mono (fun k _ e => Or.inr (a := k = g) (b := k = E) e))).trans (q6.upd _)).trans (u6.mono (fun k _ e => .inr e))
      have hB6 := hB.upd u26 (by omega) (by omega) (by omega)
      have c6 : (wq.setCell ⟨E, 0, none⟩ (.int .i64 0)).cell? ⟨E, 0, none⟩ = some (.int .i64 0) := blk_cell hE6 0
      have hR6 : Rd (wq.setCell ⟨E, 0, none⟩ (.int .i64 0)) g (s.extract i s.size) := (((unhide HR).upd u4 hgE).upd (q6.upd (fun _ => False)) (fun h => h)).upd u6 hgE
      have hU : Upd (fun k => k = g) w (wq.setCell ⟨E, 0, none⟩ (.int .i64 0)) := ((unhide N2).mono (fun _ _ h => h.elim)).then u26 (fun k hk e => e.elim id (fun e => by omega))
      generalize wq.setCell ⟨E, 0, none⟩ (.int .i64 0) = w6 at hB6 c6 hR6 hU ⊢
      refine leaves_cons (f := 199) (args := #[.pointer (some ⟨p, 0, none⟩), .pointer (some ⟨q, 0, none⟩), .pointer (some ⟨r, 0, none⟩)]) (by simp) (by simp [go_sem]) ?_
      refine (back_idle g E p q r s _ w6 hB6 c6).mono ?_
      rintro e u' w'' ⟨rfl, rfl, rfl⟩
      simp [Go.Leaves, settle, results, Tryz.results134, go_sem, c6]
      exact ⟨(unhide HV).symm, hU, hR6⟩
set_option maxRecDepth 100000 in
set_option maxHeartbeats 1000000 in
theorem rnum_short (g n : Nat) (s : ByteArray) (w : World) (h : Rd w g s) (h1 : 1 ≤ n) (h8 : n ≤ 8) (hs : s.size < n) :
    Calls Tryz.prog 134 #[.pointer (some ⟨g, 0, none⟩), .int .i64 n] w fun e w' => e = .returned (.tuple #[.int .u64 0, .int .i64 10]) ∧ Upd (fun k => k = g) w w' ∧ Rd w' g s := by
  have hmf : ∀ (fn : Fn) (first cap : Array Value) (w : World), (Instr.makeFunc fn first cap).run Tryz.prog w = .ok (.func fn first cap) w := fun _ _ _ _ => rfl
  have hgl := h.lt
  have h1' : (1 : Int) ≤ n := by omega
  have h8' : (n : Int) ≤ 8 := by omega
  have hlt : decide ((n : Int) < 1) = false := by simp; omega
  have hgt : decide ((8 : Int) < (n : Int)) = false := by simp; omega
  go_enter_defers Tryz.func134, Tryz.ntmps134
  go_upto_region 1 with fail
  have n1 : New w (w.alloc (.cells #[.int .i64 0] 26)) := (Upd.refl _ _).alloc _
  have hE := blk_alloc w (.cells #[.int .i64 0] 26)
  have hH := h.new n1
  generalize w.alloc (.cells #[.int .i64 0] 26) = w1 at n1 hE hH ⊢
  have hgE : g ≠ w.heap.size := by omega
  generalize hEe : w.heap.size = E at hE hgE ⊢
  have HEe := hide hEe
  have HEb := hide hE
  have N1 := hide n1
  clear hEe hE n1 h
  go_wp2_with fail
  refine (back_any g E s w1 hH).mono ?_
  rintro e w2 ⟨p, q, r, rfl, n2, hB, ge1, ge2, ge3⟩
  have HB := hide (And.intro hB (And.intro ge1 (And.intro ge2 ge3)))
  have hE2 := n2.old (unhide HEb) (fun h => h)
  have hR2 := hH.new n2
  have N2 := hide ((unhide N1).trans n2)
  have hEl := blk_lt (unhide HEb)
  clear hB hH ge1 ge2 ge3 n2
  go_wp2_with fail
  refine (take_short g n s w2 hR2 hs).mono ?_
  rintro e w3 ⟨rfl, q3⟩
  have hR3 := hR2.new (q3.upd _)
  have hE3 := q3.old hE2
  have c3 := blk_cell hE3 0
  have f3 := blk_free hE3 0
  have hE4 := blk_set hE3 0 (.int .i64 10)
  have u4 : Upd (fun k => k = E) w3 (w3.setCell ⟨E, 0, none⟩ (.int .i64 10)) := (Upd.refl _ _).set1 _ _
  have HU := hide (And.intro (hR3.upd u4 hgE) (And.intro ((q3.upd (fun k => k = E)).trans u4) hE4))
  clear hE2 hR2 hR3 q3 hE3 u4 hE4 hlt hgt
  go_upto_region 5 with fail
  generalize w3.setCell ⟨E, 0, none⟩ (.int .i64 10) = w4 at HU ⊢
  have c4 : w4.cell? ⟨E, 0, none⟩ = some (.int .i64 10) := blk_cell (unhide HU).2.2 0
  have f4 : w4.frozen? ⟨E, 0, none⟩ = false := blk_free (unhide HU).2.2 0
  have c4' : w4.drew.cell? ⟨E, 0, none⟩ = some (.int .i64 10) := c4
  have f4' : w4.drew.frozen? ⟨E, 0, none⟩ = false := f4
  clear c3 f3
  go_wp2_with (with_reducible first | (first | refine' tw1 (ido ?_) ?_ | refine' tw2 (ido ?_) ?_); rotate_left | refine' tw3 (ido ?_) | rfl | apply tn | refine' tw4 ?_)
  obtain ⟨hR4, u24, hE4⟩ := unhide HU
  obtain ⟨hB, ge1, ge2, ge3⟩ := unhide HB
  have hw1 := (unhide N1).size
  have hz := unhide HEe
  have hE5 : (w4.setCell ⟨E, 0, none⟩ (.int .i64 10)).drew.heap[E]? = _ := blk_set hE4 0 (.int .i64 10)
  have u5 : Upd (fun k => k = E) w4 (w4.setCell ⟨E, 0, none⟩ (.int .i64 10)).drew := ((Upd.refl _ _).set1 _ _).drew
  generalize (w4.setCell ⟨E, 0, none⟩ (.int .i64 10)).drew = w5 at u5 hE5 ⊢
  have hR5 := hR4.upd u5 hgE
  have u25 := u24.trans u5
  have hB5 := hB.upd u25 (by omega) (by omega) (by omega)
  have c5 : w5.cell? ⟨E, 0, none⟩ = some (.int .i64 10) := blk_cell hE5 0
  have u6 : Upd (fun k => k = g) w5 (w5.setCell ⟨g, 0, none⟩ (.string s)) := (Upd.refl _ _).set1 _ _
  have c6 := u6.cell c5 (fun e => hgE e.symm)
  have hU : Upd (fun k => k = g) w (w5.setCell ⟨g, 0, none⟩ (.string s)) := (((unhide N2).mono (fun _ _ h => h.elim)).then u25 (fun k hk e => by omega)).trans u6
  refine leaves_cons (f := 199) (args := #[.pointer (some ⟨p, 0, none⟩), .pointer (some ⟨q, 0, none⟩), .pointer (some ⟨r, 0, none⟩)]) (by simp) (by simp [go_sem]) ?_
  refine (back_err g E p q r s s 10 _ w5 hB5 c5 (by decide) hR5).mono ?_
  rintro e u' w'' ⟨rfl, rfl, rfl⟩
  have hRF := hR5.set s
  generalize w5.setCell ⟨g, 0, none⟩ (.string s) = w6 at c6 hU hRF ⊢
  simp [Go.Leaves, settle, results, Tryz.results134, go_sem, c6]
  exact ⟨hU, hRF⟩
/-- The bytes of a hash, as 'copy' lays them. -/
theorem hash_cells (s : ByteArray) (hs : 32 ≤ s.size) : ((s.extract 0 32).data.toList.map fun x => Value.int .u8 (x.toNat : Int)) = hshV (rdH s) := by
  have hz : (s.extract 0 32).size = 32 := by rw [ByteArray.size_extract]; omega
  have hz' : (s.extract 0 32).data.toList.length = 32 := by rw [← Lib.size_eq]; exact hz
  unfold hshV rdH
  rw [List.map_map]
  refine List.ext_getElem (by simp; omega) ?_
  intro i h1 h2
  have hi : i < 32 := by rw [List.length_map, hz'] at h1; exact h1
  rw [List.getElem_map, List.getElem_map, List.getElem_range]
  show Value.int .u8 _ = Value.int .u8 (bt s i)
  rw [← bt_extract s 32 i hi hs]
  unfold bt
  rw [List.getD_eq_getElem?_getD, List.getElem?_eq_getElem (by omega)]
  rfl
end Go.Proofs.YtfmkdoachjgjbaaGreatDoor
