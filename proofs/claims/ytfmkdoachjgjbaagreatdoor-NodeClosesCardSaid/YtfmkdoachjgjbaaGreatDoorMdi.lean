/-
  An end, as New makes it.
-/
import Derived.Test.YtfmkdoachjgjbaaGreatDoorMaj
import Derived.Test.YtfmkdoachjgjbaaGreatDoorLk9
import Derived.Test.YtfmkdoachjgjbaaGreatDoorMcc
import Derived.Test.YtfmkdoachjgjbaaGreatDoorMdb
set_option linter.unusedVariables false
set_option linter.unusedSimpArgs false
namespace Go.Proofs.YtfmkdoachjgjbaaGreatDoor
open Go.RowKit

/-- An end, as New makes it. -/
def Ch.new (s : SetupV) : Ch := ⟨s, .zero, s.ours, s.cap - s.ours, [], List.replicate 17 .zero, [], []⟩
theorem Ch.new_ok {s : SetupV} (h : s.Ok) (m : s.may) : (Ch.new s).Ok := by
  obtain ⟨m1, m2, m3, _, _⟩ := m
  have h1 := h.ours
  have h2 := h.cap
  refine ⟨h, ⟨Int.le_refl _, show (0 : Int) ≤ 65535 by decide⟩, ⟨Int.le_refl _, show (0 : Int) < 4294967296 by decide⟩, ⟨Int.le_refl _, show (0 : Int) < 18446744073709551616 by decide⟩, ⟨Int.le_refl _, show (0 : Int) < 18446744073709551616 by decide⟩, h1, ?_, ?_, Nat.zero_le _, ⟨rfl, ?_⟩, ?_, ?_, ⟨Nat.zero_le _, Nat.zero_le _⟩⟩
  · show 0 ≤ s.cap - s.ours ∧ s.cap - s.ours < _
    omega
  · intro x hx; cases hx
  · intro p hp; rw [List.eq_of_mem_replicate hp]; rfl
  · intro x hx; cases hx
  · intro x hx; cases hx
theorem chS_new {w : World} {g : Nat} {s : SetupV} (h : ChR w g (.new s)) (hs : s.Ok) (m : s.may) : ChS w g (· = g) (Ch.new s) := by
  refine ⟨nilV, nilV, nilV, h.at_, Ch.new_ok hs m, World.ownsRow_nil _ _ _ _, World.ownsRow_nil _ _ _ _, World.ownsRow_nil _ _ _ _, rfl, ?_, ?_, ?_, ?_, ?_⟩
  · intro k hk; simp [nilV, Value.ownBlock] at hk
  · intro k hk; simp [nilV, Value.ownBlock] at hk
  · intro k hk; simp [nilV, Value.ownBlock] at hk
  · intro k hk; simp [nilV, Value.ownBlock] at hk
  · intro k hk; rw [hk]; exact blk_lt h.at_

theorem may_shutN (c : Int) : mayMsg ⟨8, c, 0, 0, z32i, 0, 0⟩ = true := by kernel_rfl
theorem sayOk_mk {k c i a e n : Int} {h : List Int} (hk : 0 ≤ k ∧ k < 256) (hc : 0 ≤ c ∧ c < 4294967296) (hi : 0 ≤ i ∧ i < 18446744073709551616) (ha : 0 ≤ a ∧ a ≤ 1125899906842624) (hl : h.length = 32) (hb : ∀ b ∈ h, 0 ≤ b ∧ b ≤ 255) (he : 0 ≤ e ∧ e ≤ 1073741824) (hn : 0 ≤ n ∧ n ≤ 65535) (hm : mayMsg ⟨k, c, i, a, h, e, n⟩ = true) : SayOk ⟨k, c, i, a, h, e, n⟩ := by
  refine ⟨⟨⟨?_, hc, hi, ⟨ha.1, ?_⟩, hl, hb, ?_, ?_⟩, ⟨he.1, ?_⟩, ⟨hn.1, ?_⟩⟩, hm, hk⟩
  · show -9223372036854775808 ≤ k ∧ k ≤ 9223372036854775807
    omega
  · show a < 18446744073709551616
    omega
  · show -9223372036854775808 ≤ e ∧ e ≤ 9223372036854775807
    omega
  · show -9223372036854775808 ≤ n ∧ n ≤ 9223372036854775807
    omega
  · show e < 4294967296
    omega
  · show n < 65536
    omega
theorem offer_mlen (c : Ch) (n : Int) (h : Vector Int 32) (x : Int) : (c.offer n h x).2.1.hash.length = 32 := by
  unfold Ch.offer
  split
  · show h.toList.length = 32
    simp
  · exact z32i_len
theorem offer_err (c : Ch) (n : Int) (h : Vector Int 32) (x : Int) : (c.offer n h x).2.2 = offerErr c n x := by
  unfold Ch.offer
  split
  · rename_i he; exact he.symm
  · rfl
theorem shut_mlen (c : Ch) : c.shut.2.1.hash.length = 32 := by
  unfold Ch.shut
  split <;> exact z32i_len
theorem shut_say {c : Ch} (hch : 0 ≤ c.s.ch ∧ c.s.ch < 4294967296) (h0 : c.shut.2.2 = 0) : SayOk c.shut.2.1 := by
  unfold Ch.shut at h0 ⊢
  split at h0
  · cases h0
  · rename_i he
    rw [if_neg he]
    exact sayOk_mk (k := 8) (i := 0) (a := 0) (e := 0) (n := 0) (by decide) hch (by decide) (by decide) z32i_len z32i_bytes (by decide) (by decide) (may_shutN _)
/-- A link that has said at most n messages since it was new. -/
structure LkB (l : Lk) (n : Nat) : Prop where
  dead : l.dead = false
  waits : l.waits = false
  fused : l.j.fused = false
  off : l.j.off = false
  many : 0 ≤ l.j.many ∧ l.j.many ≤ n
  len : l.j.bs.size ≤ 2000 * n
  out : l.out.size ≤ 2000 * n
theorem LkB.ok {l : Lk} {n : Nat} (h : LkB l n) (hn : n ≤ 100000000) : LkOk l := ⟨h.dead, h.waits, h.fused, h.off, ⟨h.many.1, by have := h.many.2; omega⟩, by have := h.len; omega, by have := h.out; omega⟩
theorem LkB.mono {l : Lk} {n m : Nat} (h : LkB l n) (hn : n ≤ m) : LkB l m := ⟨h.dead, h.waits, h.fused, h.off, ⟨h.many.1, by have := h.many.2; omega⟩, by have := h.len; omega, by have := h.out; omega⟩
theorem LkB.new (c : Ch) : LkB (.new c) 0 := ⟨rfl, rfl, rfl, rfl, ⟨Int.le_refl _, Int.le_refl _⟩, Nat.le_refl _, Nat.le_refl _⟩
theorem LkB.acts {l : Lk} {n : Nat} (h : LkB l n) {c' : Ch} {rec : ByteArray} {m : MsgV} {er : Int} (hr : rec.size ≤ 1024) (hs : er = 0 → SayOk m) : LkB (l.acts c' rec m er) (n + 1) := by
  unfold Lk.acts
  split
  · rename_i he
    have hz := (hs he).size
    have hp := putI_size l.j.many.toNat rec
    have h1 := h.len
    have h2 := h.out
    have h3 := h.many
    refine ⟨h.dead, h.waits, h.fused, h.off, ⟨?_, ?_⟩, ?_, ?_⟩
    · show 0 ≤ l.j.many + 1
      omega
    · show l.j.many + 1 ≤ ((n + 1 : Nat) : Int)
      omega
    · show (l.j.bs ++ putI l.j.many.toNat rec).size ≤ _
      rw [ByteArray.size_append]
      omega
    · show (l.out ++ sayS m).size ≤ _
      rw [ByteArray.size_append]
      omega
  · have := h.mono (Nat.le_succ n)
    exact ⟨this.dead, this.waits, this.fused, this.off, this.many, this.len, this.out⟩
theorem LkB.offers {l : Lk} {n : Nat} (h : LkB l n) {a x : Nat} {hh : List Int} (hl : hh.length = 32) (hs : (l.c.offer a (hvec hh) x).2.2 = 0 → SayOk (l.c.offer a (hvec hh) x).2.1) : LkB (l.offers a x hh) (n + 1) := h.acts (join4_size hl) hs
theorem LkB.shut {l : Lk} {n : Nat} (h : LkB l n) (hs : l.c.shut.2.2 = 0 → SayOk l.c.shut.2.1) : LkB l.shut (n + 1) := h.acts (by rw [numS_size]; decide) hs
theorem acts_c {l : Lk} {c' : Ch} {rec : ByteArray} {m : MsgV} {er : Int} : (l.acts c' rec m er).c = c' := by
  unfold Lk.acts
  split <;> rfl
theorem offers_c (l : Lk) (n x : Nat) (h : List Int) : (l.offers n x h).c = (l.c.offer n (hvec h) x).1 := acts_c
theorem shut_c (l : Lk) : l.shut.c = l.c.shut.1 := acts_c
/-- A link that is new, whole. -/
theorem NewL.whole {w : World} {B g : Nat} {s : SetupV} {l : LinkV} (h : NewL w B g s l) (hs : s.Ok) (hm : s.may) : LkS w g (fun i => i = g ∨ i = l.sp ∨ i = l.en ∨ i = l.lo) (.new (Ch.new s)) := by
  have hc := chS_new h.ch hs hm
  have hj := JoS.fresh h.jo
  have hat : LkR w g ((Lk.new (Ch.new s)).v l.sp l.en l.lo) := by
    have := h.lk
    rw [h.isNew] at this
    exact this
  have e1 := h.ne
  refine ⟨l.sp, l.en, l.lo, _, _, ⟨hat, h.sp, hc, hj, .inl rfl, .inr (.inl rfl), fun k e => .inr (.inr (.inl e)), fun k e => .inr (.inr (.inr e)), ?_, ?_, ?_, ?_, ?_, ?_⟩⟩
  · show ¬ g = l.en
    omega
  · show ¬ g = l.lo
    omega
  · show ¬ l.sp = l.en
    omega
  · show ¬ l.sp = l.lo
    omega
  · intro k e e'
    have e : k = l.en := e
    have e' : k = l.lo := e'
    omega
  · have h1 := blk_lt h.lk
    have h2 := blk_lt h.sp
    have h3 := blk_lt h.ch.at_
    have h4 := blk_lt h.jo
    rintro k (e | e | e | e) <;> rw [e]
    · exact h1
    · exact h2
    · exact h3
    · exact h4

set_option maxHeartbeats 1000000 in
theorem came_none (g : Nat) (v : Value) (a : Option Addr) (k : Nat) (w : World) : Calls Tryz.prog 146 #[.pointer (some ⟨g, 0, none⟩), v, .slice a 0 k] w (Reads (.tuple #[]) w) := by
  go_enter Tryz.func146, Tryz.ntmps146
  go_wp2_with fail
  go_loopw [11] (fun iv wr => iv = .int .i64 0 ∧ wr = w) (fun _ _ => 0)
  case atStart => exact ⟨rfl, rfl⟩
  case round =>
    obtain ⟨rfl, rfl⟩ := hrel
    go_wp2_with fail
    go_end0
    exact ⟨rfl, Q.refl _⟩
set_option maxHeartbeats 1000000 in
theorem failed_none (g : Nat) (v : Value) (a : Option Addr) (k : Nat) (w : World) : Calls Tryz.prog 147 #[.pointer (some ⟨g, 0, none⟩), .slice a 0 k, v] w (Reads (.tuple #[]) w) := by
  go_enter Tryz.func147, Tryz.ntmps147
  go_wp2_with fail
  go_loopw [10] (fun iv wr => iv = .int .i64 0 ∧ wr = w) (fun _ _ => 0)
  case atStart => exact ⟨rfl, rfl⟩
  case round =>
    obtain ⟨rfl, rfl⟩ := hrel
    go_wp2_with fail
    go_end0
    exact ⟨rfl, Q.refl _⟩
set_option maxHeartbeats 1000000 in
theorem send_none (g : Nat) (a : Option Addr) (k : Nat) (w : World) : Calls Tryz.prog 72 #[.pointer (some ⟨g, 0, none⟩), .slice a 0 k] w (Reads (.int .i64 0) w) := by
  go_enter Tryz.func72, Tryz.ntmps72
  go_wp2_with fail
  go_loopw [13] (fun iv wr => iv = .int .i64 0 ∧ wr = w) (fun _ _ => 0)
  case atStart => exact ⟨rfl, rfl⟩
  case round =>
    obtain ⟨rfl, rfl⟩ := hrel
    go_wp2_with fail
    go_ret
    exact ⟨rfl, Q.refl _⟩
theorem live_none {en : Nat} {SC : Nat → Prop} {c : Ch} {w : World} (h : ChS w en SC c) (hx : c.xs = []) : Calls Tryz.prog 20 #[.pointer (some ⟨en, 0, none⟩)] w fun e w' => ∃ a k, e = .returned (.slice a 0 k) ∧ New w w' := by
  refine (liveS_any en SC c w h).mono ?_
  rintro e w' ⟨u, rfl, n, (⟨a, k, rfl, -⟩ | ⟨g', cap, rfl, -, -⟩)⟩
  · exact ⟨a, k, rfl, n⟩
  · rw [hx]
    exact ⟨_, cap, rfl, n⟩
attribute [local go_sem ↓ high] ld_msg_fold st_msg_fold al_msg_fold bd_msg_fold bs_msg_fold
attribute [local go_sem] ld_msg st_msg al_msg rowN_drew bd_msg_zero bs_msg
set_option maxRecDepth 100000 in
set_option maxHeartbeats 1000000 in
/-- Nothing was live, nor is: no event. -/
theorem tell_quiet (g : Nat) (S : Nat → Prop) (l : Lk) (sp en lo : Nat) (SC SJ : Nat → Prop) (m : MsgV) (va : Option Addr) (vc : Nat) (w : World) (h : LkP w g S l sp en lo SC SJ) (hx : l.c.xs = []) (hml : m.hash.length = 32) (h4 : (m.kind == 4) = false) (h9 : (m.kind == 9) = false) :
    Calls Tryz.prog 110 #[.pointer (some ⟨g, 0, none⟩), .agg m.cells.toArray, .slice va 0 vc] w fun e w' => e = .returned (.int .i64 0) ∧ New w w' := by
  have hlv := fun W (n : New w W) => live_none ((h.new n).chn) hx
  have c1 : w.cell? ⟨g, 1, none⟩ = some (.pointer (some ⟨en, 0, none⟩)) := blk_cell h.at_ 1
  clear h
  go_enter Tryz.func110, Tryz.ntmps110
  go_upto_region 1 with fail
  have hB := ms_alloc w m hml
  have n1 : New w (w.alloc (.cells m.cells.toArray 101)) := (Upd.refl _ _).alloc _
  generalize w.alloc (.cells m.cells.toArray 101) = w1 at hB n1 ⊢
  generalize w.heap.size = B at hB ⊢
  replace c1 := n1.cell c1 (fun h => h)
  have hlw := hlv w1 n1
  have HB := hide hB
  have N1 := hide n1
  clear hB n1 hlv
  go_wp2_with fail
  refine hlw.mono ?_
  rintro e w2 ⟨a, k, rfl, n2⟩
  have c0 := ((unhide HB).new n2).cells.1
  have N2 := hide ((unhide N1).trans n2)
  clear hlw N1 n2 c1
  go_wp2_with fail
  refine (came_none g _ a k w2).mono ?_
  rintro e w3 ⟨rfl, q3⟩
  have N3 := hide ((unhide N2).trans (q3.upd _))
  clear q3 N2 c0
  go_wp2_with fail
  refine (failed_none g _ va vc w3).mono ?_
  rintro e w4 ⟨rfl, q4⟩
  have N4 := hide ((unhide N3).trans (q4.upd _))
  clear q4 N3
  go_wp2_with fail
  go_ret
  exact ⟨rfl, unhide N4⟩
set_option maxRecDepth 100000 in
set_option maxHeartbeats 1000000 in
theorem hear1_any (PL M SD g : Nat) (S : Nat → Prop) (l : Lk) (sp en lo : Nat) (SC SJ : Nat → Prop) (m : MsgV) (c' : Ch) (ms : List MsgV) (er : Int) (v0 : Value) (w : World) (h : LkP w g S l sp en lo SC SJ) (hPL : w.cell? ⟨PL, 0, none⟩ = some (.pointer (some ⟨g, 0, none⟩))) (hM : MsB w M m) (hSD : w.heap[SD]? = some (.cells #[v0] 124 (0, 0))) (hn : ¬ SC SD)
    (hF : ∀ a, New w a → Calls Tryz.prog 107 #[.pointer (some ⟨en, 0, none⟩), .agg m.cells.toArray] a (Heard en SC a c' ms er)) :
    Calls Tryz.prog 106 #[.pointer (some ⟨PL, 0, none⟩), .pointer (some ⟨M, 0, none⟩), .pointer (some ⟨SD, 0, none⟩)] w fun e w' => e = .returned (.int .i64 er) ∧ ∃ a a1 v, New w a ∧ Upd SC a a1 ∧ ChS a1 en (Fr SC a a1) c' ∧ SaidO a.heap.size a1 v ms ∧ w' = a1.setCell ⟨SD, 0, none⟩ v := by
  have c1 : w.cell? ⟨g, 1, none⟩ = some (.pointer (some ⟨en, 0, none⟩)) := blk_cell h.at_ 1
  have rM := hM.row
  have hFd := hF _ ((Upd.refl (fun _ => False) w).drew)
  clear h hF hM
  go_enter Tryz.func106, Tryz.ntmps106
  go_wp2_with (with_reducible first | (first | refine' tw1 (ido ?_) ?_ | refine' tw2 (ido ?_) ?_); rotate_left | refine' tw3 (ido ?_) | rfl | apply tn | refine' tw4 ?_)
  refine hFd.mono ?_
  rintro e w1 ⟨v, rfl, hv, hc, u⟩
  obtain ⟨va, vc, rfl⟩ : ∃ a c, v = .slice a ms.length c := own_shape' hv
  have hS1 := u.old (((Upd.refl (fun _ => False) w).drew).old hSD (fun h => h)) hn
  have f1 := blk_free hS1 0
  have d1 := blk_cell hS1 0
  have HX := hide (And.intro hv (And.intro hc u))
  clear hv hc u hS1 hFd hSD
  go_wp2_with (with_reducible first | (first | refine' tw1 (ido ?_) ?_ | refine' tw2 (ido ?_) ?_); rotate_left | refine' tw3 (ido ?_) | rfl | apply tn | refine' tw4 ?_)
  go_ret
  obtain ⟨hv, hc, u⟩ := unhide HX
  exact ⟨rfl, _, _, _, (Upd.refl (fun _ => False) w).drew, u, hc, hv, rfl⟩
set_option maxHeartbeats 1000000 in
theorem hear2_none (PL SD g : Nat) (a : Option Addr) (k : Nat) (w : World) (hPL : w.cell? ⟨PL, 0, none⟩ = some (.pointer (some ⟨g, 0, none⟩))) (hSD : w.cell? ⟨SD, 0, none⟩ = some (.slice a 0 k)) :
    Calls Tryz.prog 108 #[.pointer (some ⟨PL, 0, none⟩), .pointer (some ⟨SD, 0, none⟩)] w (Reads (.int .i64 0) w) := by
  go_enter Tryz.func108, Tryz.ntmps108
  go_wp2_with fail
  refine (send_none g a k w).mono ?_
  rintro e w1 ⟨rfl, q⟩
  go_wp2_with fail
  go_ret
  exact ⟨rfl, q⟩
set_option maxRecDepth 100000 in
set_option maxHeartbeats 1000000 in
theorem hear3_quiet (PL M BF g : Nat) (S : Nat → Prop) (l : Lk) (sp en lo : Nat) (SC SJ : Nat → Prop) (m : MsgV) (va : Option Addr) (vc : Nat) (w : World) (h : LkP w g S l sp en lo SC SJ) (hx : l.c.xs = []) (h4 : (m.kind == 4) = false) (h9 : (m.kind == 9) = false) (hPL : w.cell? ⟨PL, 0, none⟩ = some (.pointer (some ⟨g, 0, none⟩))) (hM : MsB w M m) (hBF : w.cell? ⟨BF, 0, none⟩ = some (.slice va 0 vc)) :
    Calls Tryz.prog 109 #[.pointer (some ⟨PL, 0, none⟩), .pointer (some ⟨M, 0, none⟩), .pointer (some ⟨BF, 0, none⟩)] w fun e w' => e = .returned (.int .i64 0) ∧ New w w' := by
  have rM := hM.row
  have ht := tell_quiet g S l sp en lo SC SJ m va vc w h hx hM.len h4 h9
  clear h hM
  go_enter Tryz.func109, Tryz.ntmps109
  go_wp2_with fail
  refine ht.mono ?_
  rintro e w1 ⟨rfl, n1⟩
  go_wp2_with fail
  go_ret
  exact ⟨rfl, n1⟩
end Go.Proofs.YtfmkdoachjgjbaaGreatDoor
