/-
  A link: Tick, Out.
-/
import Derived.Test.YtfmkdoachjgjbaaGreatDoorLk7
set_option linter.unusedVariables false
set_option linter.unusedSimpArgs false
namespace Go.Proofs.YtfmkdoachjgjbaaGreatDoor
open Go.RowKit

attribute [local go_sem ↓ high] ld_msg_fold st_msg_fold al_msg_fold bd_msg_fold bs_msg_fold
attribute [local go_sem] ld_msg st_msg al_msg rowN_drew bd_msg_zero bs_msg
theorem acts_dead {l : Lk} {c' : Ch} {rec : ByteArray} {m : MsgV} {er : Int} : (l.acts c' rec m er).dead = l.dead := by
  unfold Lk.acts
  split <;> rfl
set_option maxHeartbeats 1000000 in
theorem out_any (g : Nat) (S : Nat → Prop) (l : Lk) (w : World) (h : LkS w g S l) (hd : l.dead = false) :
    Calls Tryz.prog 44 #[.pointer (some ⟨g, 0, none⟩)] w fun e w' => e = .returned (.string l.out) ∧ LkS w' g S { l with out := ⟨#[]⟩ } ∧ Upd S w w' := by
  obtain ⟨sp, en, lo, SC, SJ, h⟩ := h
  have c6 : w.cell? ⟨g, 6, none⟩ = some (.bool false) := hd ▸ blk_cell h.at_ 6
  have c3 : w.cell? ⟨g, 3, none⟩ = some (.string l.out) := blk_cell h.at_ 3
  have f3 := blk_free h.at_ 3
  have u : Upd (· = g) w (w.setCell ⟨g, 3, none⟩ (.string ⟨#[]⟩)) := (Upd.refl _ _).set1 _ _
  have HE := hide (And.intro (h.put_out ⟨#[]⟩) (u.mono (T := S) (fun k _ e => by rw [e]; exact h.inG)))
  clear h u
  go_enter Tryz.func44, Tryz.ntmps44
  go_wp2_with fail
  go_ret
  exact ⟨rfl, ⟨sp, en, lo, SC, SJ, (unhide HE).1⟩, (unhide HE).2⟩
set_option maxRecDepth 100000 in
set_option maxHeartbeats 2000000 in
/-- A tick between. -/
theorem tick_between (g : Nat) (S : Nat → Prop) (l : Lk) (n : Nat) (w : World) (h : LkS w g S l) (hk : LkOk l) (hn : l.ticks = n) (hn2 : n < 1000000) (h3 : (n + 1) % 3 ≠ 0) :
    Calls Tryz.prog 28 #[.pointer (some ⟨g, 0, none⟩)] w fun e w' => e = .returned (.int .i64 0) ∧ LkS w' g S { l with ticks := (n : Int) + 1 } ∧ Upd S w w' := by
  obtain ⟨sp, en, lo, SC, SJ, h⟩ := h
  have c6 : w.cell? ⟨g, 6, none⟩ = some (.bool false) := hk.dead ▸ blk_cell h.at_ 6
  have c5 : w.cell? ⟨g, 5, none⟩ = some (.int .i64 (n : Int)) := by rw [← hn]; exact blk_cell h.at_ 5
  have f5 := blk_free h.at_ 5
  have u : Upd (· = g) w (w.setCell ⟨g, 5, none⟩ (.int .i64 ((n : Int) + 1))) := (Upd.refl _ _).set1 _ _
  have h1 := h.put_ticks ((n : Int) + 1)
  have d5 : (w.setCell ⟨g, 5, none⟩ (.int .i64 ((n : Int) + 1))).cell? ⟨g, 5, none⟩ = some (.int .i64 ((n : Int) + 1)) := blk_cell h1.at_ 5
  have d8 : (w.setCell ⟨g, 5, none⟩ (.int .i64 ((n : Int) + 1))).cell? ⟨g, 8, none⟩ = some (.bool false) := hk.waits ▸ blk_cell h1.at_ 8
  have HE := hide (And.intro h1 (u.mono (T := S) (fun k _ e => by rw [e]; exact h.inG)))
  have hm : ((n : Int) + 1) % 3 = 1 ∨ ((n : Int) + 1) % 3 = 2 := by omega
  have hn3 : (n : Int) < 1000000 := by omega
  clear h h1 u hn hn2 h3
  go_enter Tryz.func28, Tryz.ntmps28
  go_upto_region 4 with fail
  generalize w.setCell ⟨g, 5, none⟩ (.int .i64 ((n : Int) + 1)) = w1 at d5 d8 HE ⊢
  clear c6 c5 f5
  rcases hm with hm | hm
  · go_wp2_with fail
    go_ret
    exact ⟨rfl, ⟨sp, en, lo, SC, SJ, (unhide HE).1⟩, (unhide HE).2⟩
  · go_wp2_with fail
    go_ret
    exact ⟨rfl, ⟨sp, en, lo, SC, SJ, (unhide HE).1⟩, (unhide HE).2⟩

noncomputable def Lk.signs (l : Lk) : Lk := l.acts l.c.sign.1 (numS 4 1) l.c.sign.2.1 l.c.sign.2.2
/-- What a tick tells. -/
def tickErr (er : Int) : Int := if er = 5 then 0 else er
set_option maxRecDepth 100000 in
set_option maxHeartbeats 4000000 in
/-- A third tick. -/
theorem tick_third (g : Nat) (S : Nat → Prop) (l : Lk) (n : Nat) (w : World) (h : LkS w g S l) (hk : LkOk l) (hn : l.ticks = n) (hn2 : n < 1000000) (h3 : (n + 1) % 3 = 0) (hsay : l.c.sign.2.2 = 0 → SayOk l.c.sign.2.1) (hm0 : l.c.sign.2.1.hash.length = 32) (hT : Tc w) (hA : ApC S)
    (hkey : l.c.s.key.size ≤ 100000000) (hch : 0 ≤ l.c.s.ch ∧ l.c.s.ch < 4294967296) (hfew : l.c.news.length < 1000000) (hxl : l.c.xs.length ≤ 16) :
    Calls Tryz.prog 28 #[.pointer (some ⟨g, 0, none⟩)] w fun e w' => e = .returned (.int .i64 (tickErr l.c.sign.2.2)) ∧ LkS w' g (Fr S w w') ({ l with ticks := (n : Int) + 1 } : Lk).signs ∧ Upd S w w' := by
  have hmf : ∀ (fn : Fn) (first cap : Array Value) (w : World), (Instr.makeFunc fn first cap).run Tryz.prog w = .ok (.func fn first cap) w := fun _ _ _ _ => rfl
  obtain ⟨sp, en, lo, SC, SJ, h⟩ := h
  have c6 : w.cell? ⟨g, 6, none⟩ = some (.bool false) := hk.dead ▸ blk_cell h.at_ 6
  have c5 : w.cell? ⟨g, 5, none⟩ = some (.int .i64 (n : Int)) := by rw [← hn]; exact blk_cell h.at_ 5
  have f5 := blk_free h.at_ 5
  have u0 : Upd (· = g) w (w.setCell ⟨g, 5, none⟩ (.int .i64 ((n : Int) + 1))) := (Upd.refl _ _).set1 _ _
  have hT1 := hT.upd (u0.mono (T := S) (fun k _ e => by rw [e]; exact h.inG)) hA
  have h1 := h.put_ticks ((n : Int) + 1)
  have d5 : (w.setCell ⟨g, 5, none⟩ (.int .i64 ((n : Int) + 1))).cell? ⟨g, 5, none⟩ = some (.int .i64 ((n : Int) + 1)) := blk_cell h1.at_ 5
  have d8 : (w.setCell ⟨g, 5, none⟩ (.int .i64 ((n : Int) + 1))).cell? ⟨g, 8, none⟩ = some (.bool false) := hk.waits ▸ blk_cell h1.at_ 8
  have HU0 := hide (u0.mono (T := S) (fun k _ e => by rw [e]; exact h.inG))
  have hm : ((n : Int) + 1) % 3 = 0 := by omega
  have hn3 : (n : Int) < 1000000 := by omega
  obtain ⟨l0, hl0⟩ : ∃ l0 : Lk, l0 = { l with ticks := (n : Int) + 1 } := ⟨_, rfl⟩
  have hk1 : LkOk l0 := by rw [hl0]; exact ⟨hk.dead, hk.waits, hk.fused, hk.off, hk.many, hk.len, hk.out⟩
  have hc0 : l0.c = l.c := by rw [hl0]
  rw [← hl0] at h1 ⊢
  rw [← hc0] at hsay hm0 hkey hch hfew hxl ⊢
  have HZ := hide u0.size
  have hF0 : ∀ a, ChS a en SC l0.c → Tc a → Calls Tryz.prog 75 (#[.pointer (some ⟨en, 0, none⟩)] ++ #[]) a fun e a' => SaysIt en SC l0.c.sign.2.1 l0.c.sign.2.2 l0.c.sign.1 e a a' := fun a hc ta => by
    refine (signC_any en SC l0.c a hc ta (hA.mono h1.inC) hkey hch hfew hxl).mono ?_
    rintro e a' ⟨he, hc, u⟩
    exact ⟨he, hc, u⟩
  unfold Lk.signs
  rw [← join1 (numS 4 1)]
  obtain ⟨l, rfl⟩ : ∃ l, l = l0 := ⟨_, rfl⟩
  generalize l.c.sign.1 = c' at *
  generalize l.c.sign.2.1 = MM0 at *
  generalize l.c.sign.2.2 = er at *
  obtain ⟨MM, hMM⟩ : ∃ MM, MM = actM MM0 er := ⟨_, rfl⟩
  have hml : MM.hash.length = 32 := by rw [hMM]; exact actM_len hm0
  have HMM := hide hMM
  obtain ⟨LL, hLL⟩ : ∃ LL, LL = l.acts c' (joinS [numS 4 1]) MM0 er := ⟨_, rfl⟩
  have hdd : LL.dead = false := by rw [hLL, acts_dead]; exact hk1.dead
  have HLL := hide hLL
  clear hMM hLL hkey hch hfew hxl
  clear h hn hn2 h3 hk u0 hT hl0 hc0
  go_enter Tryz.func28, Tryz.ntmps28
  go_upto_region 4 with fail
  generalize w.setCell ⟨g, 5, none⟩ (.int .i64 ((n : Int) + 1)) = w1 at d5 d8 h1 hT1 HU0 HZ ⊢
  clear c6 c5 f5
  have hSl := h1.lt
  have c1 : w1.drew.cell? ⟨g, 1, none⟩ = some (.pointer (some ⟨en, 0, none⟩)) := blk_cell h1.at_ 1
  have hkC : ∀ X, New w1 X → X.cell? ⟨g, 1, none⟩ = some (.pointer (some ⟨en, 0, none⟩)) := fun X n => n.cell (blk_cell h1.at_ 1) (fun h => h)
  have hF := fun a (na : New w1 a) => hF0 a (h1.chn.new na) (hT1.new na)
  have n00 : New w1 w1.drew := (Upd.refl _ _).drew
  have HL := hide h1
  have hsz : (joinS [numS 4 1]).size ≤ 1024 := by rw [join1, numS_size]; decide
  have hT := hT1.tabs
  have hA0 := hA
  have hA : ApD S := ⟨hA0.c, hA0.d⟩
  have hk := hk1
  go_upto_region 6 with fail
  rw [hm]
  clear d5 d8 hm
  have hkU : ∀ X S', LkE X g S' sp en lo LL → Upd S w1 X → X.cell? ⟨g, 1, none⟩ = some (.pointer (some ⟨en, 0, none⟩)) := fun X S' h _ => h.end_
  clear h1 hT1 hk1
  go_cut [3, 4] from 28 to 39 (fun kv ev wx => ∃ K, kv = .pointer (some ⟨K, 0, none⟩) ∧ ev = .int .i64 er ∧ MsB wx K MM ∧ LkE wx g (Fr S w1 wx) sp en lo LL ∧ Upd S w1 wx ∧ w1.heap.size ≤ K)
  case first =>
    refine wp_plan (fun w' => w'.cell? ⟨g, 1, none⟩ = some (.pointer (some ⟨en, 0, none⟩))) [4] (.fork (.of [12, 0, 1, 2, 3, 4, 5, 6, 7, 8, 9, 10, 11, 13, 14]) (Plan.pre [0, 1, 2, 3, 4, 5, 6] (.fork (.of [12, 7, 8, 9, 10, 11, 13, 14]) (Plan.pre [7] (.fork (.of [12, 8, 9, 10, 11, 13, 14]) (.of [8, 9, 10, 11, 12, 13, 14])))))) (by kernel_rfl) (by kernel_rfl) c1 ?_
    simp only [Plan.of, Plan.pre]
    refine qf ?_ ?_
    · skip
      try go_wp2_with (with_reducible first | (first | refine' qw1 (ido ?_) ?_ | refine' qw2 (ido ?_) ?_ | refine' qw3 (ido ?_) ?_); rotate_left | refine' qw4 (ido ?_) | refine' qw5 (ido ?_) | rfl | apply qn)
      have m1 : New w1 (w1.alloc (.cells MsgV.zero.cells.toArray 101)).drew := ((Upd.refl _ _).alloc _).drew
      have b1 : MsB (w1.alloc (.cells MsgV.zero.cells.toArray 101)).drew w1.heap.size MsgV.zero := (ms_alloc w1 MsgV.zero z32i_len).new (Upd.drew (Upd.refl (fun _ => False) _))
      obtain ⟨K1, e1⟩ : ∃ K, K = w1.heap.size := ⟨_, rfl⟩
      have n1 : New w1 (w1.alloc (.cells MsgV.zero.cells.toArray 101)).drew := m1
      first | refine ⟨hkC _ n1, ?_⟩ | skip
      have y1 := b1.lt
      generalize (w1.alloc (.cells MsgV.zero.cells.toArray 101)).drew = wa1 at m1 b1 n1 y1 ⊢
      have q1 := hkC _ n1
      rw [← e1] at b1 y1 ⊢
      have E1 := hide e1
      have g1 : w1.heap.size ≤ K1 := by rw [e1]; exact Nat.le_refl _
      clear e1
      try go_wp2_with (with_reducible first | (first | refine' qw1 (ido ?_) ?_ | refine' qw2 (ido ?_) ?_ | refine' qw3 (ido ?_) ?_); rotate_left | refine' qw4 (ido ?_) | refine' qw5 (ido ?_) | rfl | apply qn)
      refine (lnum_any 4 1 wa1 (by decide) (by decide) (by decide)).mono ?_
      rintro e wc2 ⟨rfl, m2⟩
      have n2 : New w1 wc2 := n1.trans m2
      have b2 := b1.new m2
      have q2 := hkC _ n2
      go_wp2_with (first | (with_reducible first | (first | refine' qw1 (ido ?_) ?_ | refine' qw2 (ido ?_) ?_ | refine' qw3 (ido ?_) ?_); rotate_left | refine' qw4 (ido ?_) | refine' qw5 (ido ?_) | rfl | apply qn) | refine ⟨hkC _ n2, ?_⟩)
      try go_wp2_with (with_reducible first | (first | refine' qw1 (ido ?_) ?_ | refine' qw2 (ido ?_) ?_ | refine' qw3 (ido ?_) ?_); rotate_left | refine' qw4 (ido ?_) | refine' qw5 (ido ?_) | rfl | apply qn)
      have m3 : New wc2 (wc2.alloc (.cells #[.string (numS 4 1)] 9)) := (Upd.refl _ _).alloc _
      have n3 := n2.trans m3
      have r3 := blk_alloc wc2 (.cells #[.string (numS 4 1)] 9)
      have z3 : wc2.heap.size < (wc2.alloc (.cells #[.string (numS 4 1)] 9)).heap.size := by rw [World.size_alloc]; omega
      have y3 := n2.size
      have b3 := b2.new m3
      have a3 := b2.lt
      generalize wc2.alloc (.cells #[.string (numS 4 1)] 9) = ws3 at m3 n3 r3 z3 b3 ⊢
      first | refine ⟨hkC _ n3, ?_⟩ | skip
      clear m3
      have q3 := hkC _ n3
      generalize wc2.heap.size = B3 at *
      try go_wp2_with (with_reducible first | (first | refine' qw1 (ido ?_) ?_ | refine' qw2 (ido ?_) ?_ | refine' qw3 (ido ?_) ?_); rotate_left | refine' qw4 (ido ?_) | refine' qw5 (ido ?_) | rfl | apply qn)
      have hcall := act_fn g B3 S l sp en lo SC SJ 75 #[.pointer (some ⟨en, 0, none⟩)] #[] MM0 er c' [numS 4 1] ws3 ((unhide HL).new n3) hk hm0 hsay (hT.new n3) hA (enters_of Tryz.func75 (by kernel_rfl) rfl) (fun a na => hF a (n3.trans na)) (fun j x hx => by
        cases j with
        | zero =>
          obtain rfl : numS 4 1 = x := by simpa using hx
          exact blk_cell r3 0
        | succ j => simp at hx) (by decide) hsz (by omega) (fun e => by have := hSl _ e; omega)
      rw [← unhide HMM, ← unhide HLL] at hcall
      refine hcall.mono ?_
      rintro e wt4 ⟨rfl, l4, v4⟩
      have u4 : Upd S w1 wt4 := (n3.mono (fun _ _ h => h.elim)).trans v4
      have x4 := n3.size
      have y4 := v4.size
      have b4 := b3.upd v4 (fun e => by have := hSl _ e; omega)
      clear hcall v4
      have hst := b4.stOk hml
      have c5 := b4.put hml
      have x5 : Upd (· = K1) wt4 _ := upd_sets (w := wt4) (b := K1) MM.cells
      have HE := hide (And.intro c5 (And.intro x5 (And.intro l4 u4)))
      have xx5 := x5.size
      clear c5 x5
      try go_wp2_with (with_reducible first | (first | refine' qw1 (ido ?_) ?_ | refine' qw2 (ido ?_) ?_ | refine' qw3 (ido ?_) ?_); rotate_left | refine' qw4 (ido ?_) | refine' qw5 (ido ?_) | rfl | apply qn)
      go_meet
      case rel =>
        obtain ⟨c, x, l, u⟩ := unhide HE
        refine ⟨K1, rfl, rfl, c, ?_, u.then x (fun i hi e => by omega), by omega⟩
        have E := unhide E1
        refine (l.upd x (fun k hk e => ?_)).wider (fun k hk => ?_) (fun k hk => ?_)
        · rcases hk with hk | hk
          · have := hSl k hk
            omega
          · omega
        · rcases hk with hk | hk
          · exact .inl hk
          · exact .inr ⟨by omega, by omega⟩
        · rcases hk with hk | hk
          · have := hSl k hk
            omega
          · exact hk.2
    · skip
      try go_wp2_with (with_reducible first | (first | refine' qw1 (ido ?_) ?_ | refine' qw2 (ido ?_) ?_ | refine' qw3 (ido ?_) ?_); rotate_left | refine' qw4 (ido ?_) | refine' qw5 (ido ?_) | rfl | apply qn)
      refine (lnum_any 4 1 w1.drew (by decide) (by decide) (by decide)).mono ?_
      rintro e wc6 ⟨rfl, m6⟩
      replace m6 := m6.ofDrew
      have n6 : New w1 wc6 := m6
      have q6 := hkC _ n6
      go_wp2_with (first | (with_reducible first | (first | refine' qw1 (ido ?_) ?_ | refine' qw2 (ido ?_) ?_ | refine' qw3 (ido ?_) ?_); rotate_left | refine' qw4 (ido ?_) | refine' qw5 (ido ?_) | rfl | apply qn) | refine ⟨hkC _ n6, ?_⟩)
      refine qf ?_ ?_
      · skip
        try go_wp2_with (with_reducible first | (first | refine' qw1 (ido ?_) ?_ | refine' qw2 (ido ?_) ?_ | refine' qw3 (ido ?_) ?_); rotate_left | refine' qw4 (ido ?_) | refine' qw5 (ido ?_) | rfl | apply qn)
        have m7 : New wc6 (wc6.alloc (.cells MsgV.zero.cells.toArray 101)) := ((Upd.refl _ _).alloc _)
        have b7 : MsB (wc6.alloc (.cells MsgV.zero.cells.toArray 101)) wc6.heap.size MsgV.zero := ms_alloc wc6 MsgV.zero z32i_len
        obtain ⟨K7, e7⟩ : ∃ K, K = wc6.heap.size := ⟨_, rfl⟩
        have n7 : New w1 (wc6.alloc (.cells MsgV.zero.cells.toArray 101)) := n6.trans m7
        first | refine ⟨hkC _ n7, ?_⟩ | skip
        have y7 := b7.lt
        generalize (wc6.alloc (.cells MsgV.zero.cells.toArray 101)) = wa7 at m7 b7 n7 y7 ⊢
        have q7 := hkC _ n7
        rw [← e7] at b7 y7 ⊢
        have E7 := hide e7
        have g7 : w1.heap.size ≤ K7 := by rw [e7]; exact n6.size
        clear e7
        try go_wp2_with (with_reducible first | (first | refine' qw1 (ido ?_) ?_ | refine' qw2 (ido ?_) ?_ | refine' qw3 (ido ?_) ?_); rotate_left | refine' qw4 (ido ?_) | refine' qw5 (ido ?_) | rfl | apply qn)
        have m8 : New wa7 (wa7.alloc (.cells #[.string (numS 4 1)] 9)) := (Upd.refl _ _).alloc _
        have n8 := n7.trans m8
        have r8 := blk_alloc wa7 (.cells #[.string (numS 4 1)] 9)
        have z8 : wa7.heap.size < (wa7.alloc (.cells #[.string (numS 4 1)] 9)).heap.size := by rw [World.size_alloc]; omega
        have y8 := n7.size
        have b8 := b7.new m8
        have a8 := b7.lt
        generalize wa7.alloc (.cells #[.string (numS 4 1)] 9) = ws8 at m8 n8 r8 z8 b8 ⊢
        first | refine ⟨hkC _ n8, ?_⟩ | skip
        clear m8
        have q8 := hkC _ n8
        generalize wa7.heap.size = B8 at *
        try go_wp2_with (with_reducible first | (first | refine' qw1 (ido ?_) ?_ | refine' qw2 (ido ?_) ?_ | refine' qw3 (ido ?_) ?_); rotate_left | refine' qw4 (ido ?_) | refine' qw5 (ido ?_) | rfl | apply qn)
        have hcall := act_fn g B8 S l sp en lo SC SJ 75 #[.pointer (some ⟨en, 0, none⟩)] #[] MM0 er c' [numS 4 1] ws8 ((unhide HL).new n8) hk hm0 hsay (hT.new n8) hA (enters_of Tryz.func75 (by kernel_rfl) rfl) (fun a na => hF a (n8.trans na)) (fun j x hx => by
          cases j with
          | zero =>
            obtain rfl : numS 4 1 = x := by simpa using hx
            exact blk_cell r8 0
          | succ j => simp at hx) (by decide) hsz (by omega) (fun e => by have := hSl _ e; omega)
        rw [← unhide HMM, ← unhide HLL] at hcall
        refine hcall.mono ?_
        rintro e wt9 ⟨rfl, l9, v9⟩
        have u9 : Upd S w1 wt9 := (n8.mono (fun _ _ h => h.elim)).trans v9
        have x9 := n8.size
        have y9 := v9.size
        have b9 := b8.upd v9 (fun e => by have := hSl _ e; omega)
        clear hcall v9
        have hst := b9.stOk hml
        have c10 := b9.put hml
        have x10 : Upd (· = K7) wt9 _ := upd_sets (w := wt9) (b := K7) MM.cells
        have HE := hide (And.intro c10 (And.intro x10 (And.intro l9 u9)))
        have xx10 := x10.size
        clear c10 x10
        try go_wp2_with (with_reducible first | (first | refine' qw1 (ido ?_) ?_ | refine' qw2 (ido ?_) ?_ | refine' qw3 (ido ?_) ?_); rotate_left | refine' qw4 (ido ?_) | refine' qw5 (ido ?_) | rfl | apply qn)
        go_meet
        case rel =>
          obtain ⟨c, x, l, u⟩ := unhide HE
          refine ⟨K7, rfl, rfl, c, ?_, u.then x (fun i hi e => by omega), by omega⟩
          have E := unhide E7
          refine (l.upd x (fun k hk e => ?_)).wider (fun k hk => ?_) (fun k hk => ?_)
          · rcases hk with hk | hk
            · have := hSl k hk
              omega
            · omega
          · rcases hk with hk | hk
            · exact .inl hk
            · exact .inr ⟨by omega, by omega⟩
          · rcases hk with hk | hk
            · have := hSl k hk
              omega
            · exact hk.2
      · skip
        try go_wp2_with (with_reducible first | (first | refine' qw1 (ido ?_) ?_ | refine' qw2 (ido ?_) ?_ | refine' qw3 (ido ?_) ?_); rotate_left | refine' qw4 (ido ?_) | refine' qw5 (ido ?_) | rfl | apply qn)
        have m11 : New wc6 (wc6.alloc (.cells #[.string (numS 4 1)] 9)) := (Upd.refl _ _).alloc _
        have n11 := n6.trans m11
        have r11 := blk_alloc wc6 (.cells #[.string (numS 4 1)] 9)
        have z11 : wc6.heap.size < (wc6.alloc (.cells #[.string (numS 4 1)] 9)).heap.size := by rw [World.size_alloc]; omega
        have y11 := n6.size
        generalize wc6.alloc (.cells #[.string (numS 4 1)] 9) = ws11 at m11 n11 r11 z11 ⊢
        first | refine ⟨hkC _ n11, ?_⟩ | skip
        clear m11
        have q11 := hkC _ n11
        generalize wc6.heap.size = B11 at *
        refine qf ?_ ?_
        · skip
          try go_wp2_with (with_reducible first | (first | refine' qw1 (ido ?_) ?_ | refine' qw2 (ido ?_) ?_ | refine' qw3 (ido ?_) ?_); rotate_left | refine' qw4 (ido ?_) | refine' qw5 (ido ?_) | rfl | apply qn)
          have m12 : New ws11 (ws11.alloc (.cells MsgV.zero.cells.toArray 101)) := ((Upd.refl _ _).alloc _)
          have b12 : MsB (ws11.alloc (.cells MsgV.zero.cells.toArray 101)) ws11.heap.size MsgV.zero := ms_alloc ws11 MsgV.zero z32i_len
          obtain ⟨K12, e12⟩ : ∃ K, K = ws11.heap.size := ⟨_, rfl⟩
          have n12 : New w1 (ws11.alloc (.cells MsgV.zero.cells.toArray 101)) := n11.trans m12
          first | refine ⟨hkC _ n12, ?_⟩ | skip
          have y12 := b12.lt
          generalize (ws11.alloc (.cells MsgV.zero.cells.toArray 101)) = wa12 at m12 b12 n12 y12 ⊢
          have q12 := hkC _ n12
          have r12 := m12.old r11 (fun h => h)
          have z12 := Nat.lt_of_lt_of_le z11 m12.size
          rw [← e12] at b12 y12 ⊢
          have E12 := hide e12
          have g12 : w1.heap.size ≤ K12 := by rw [e12]; exact n11.size
          clear e12
          try go_wp2_with (with_reducible first | (first | refine' qw1 (ido ?_) ?_ | refine' qw2 (ido ?_) ?_ | refine' qw3 (ido ?_) ?_); rotate_left | refine' qw4 (ido ?_) | refine' qw5 (ido ?_) | rfl | apply qn)
          have hcall := act_fn g B11 S l sp en lo SC SJ 75 #[.pointer (some ⟨en, 0, none⟩)] #[] MM0 er c' [numS 4 1] wa12 ((unhide HL).new n12) hk hm0 hsay (hT.new n12) hA (enters_of Tryz.func75 (by kernel_rfl) rfl) (fun a na => hF a (n12.trans na)) (fun j x hx => by
            cases j with
            | zero =>
              obtain rfl : numS 4 1 = x := by simpa using hx
              exact blk_cell r12 0
            | succ j => simp at hx) (by decide) hsz (by omega) (fun e => by have := hSl _ e; omega)
          rw [← unhide HMM, ← unhide HLL] at hcall
          refine hcall.mono ?_
          rintro e wt13 ⟨rfl, l13, v13⟩
          have u13 : Upd S w1 wt13 := (n12.mono (fun _ _ h => h.elim)).trans v13
          have x13 := n12.size
          have y13 := v13.size
          have b13 := b12.upd v13 (fun e => by have := hSl _ e; omega)
          clear hcall v13
          have hst := b13.stOk hml
          have c14 := b13.put hml
          have x14 : Upd (· = K12) wt13 _ := upd_sets (w := wt13) (b := K12) MM.cells
          have HE := hide (And.intro c14 (And.intro x14 (And.intro l13 u13)))
          have xx14 := x14.size
          clear c14 x14
          try go_wp2_with (with_reducible first | (first | refine' qw1 (ido ?_) ?_ | refine' qw2 (ido ?_) ?_ | refine' qw3 (ido ?_) ?_); rotate_left | refine' qw4 (ido ?_) | refine' qw5 (ido ?_) | rfl | apply qn)
          go_meet
          case rel =>
            obtain ⟨c, x, l, u⟩ := unhide HE
            refine ⟨K12, rfl, rfl, c, ?_, u.then x (fun i hi e => by omega), by omega⟩
            have E := unhide E12
            refine (l.upd x (fun k hk e => ?_)).wider (fun k hk => ?_) (fun k hk => ?_)
            · rcases hk with hk | hk
              · have := hSl k hk
                omega
              · omega
            · rcases hk with hk | hk
              · exact .inl hk
              · exact .inr ⟨by omega, by omega⟩
            · rcases hk with hk | hk
              · have := hSl k hk
                omega
              · exact hk.2
        · skip
          try go_wp2_with (with_reducible first | (first | refine' qw1 (ido ?_) ?_ | refine' qw2 (ido ?_) ?_ | refine' qw3 (ido ?_) ?_); rotate_left | refine' qw4 (ido ?_) | refine' qw5 (ido ?_) | rfl | apply qn)
          have hcall := act_fn g B11 S l sp en lo SC SJ 75 #[.pointer (some ⟨en, 0, none⟩)] #[] MM0 er c' [numS 4 1] ws11 ((unhide HL).new n11) hk hm0 hsay (hT.new n11) hA (enters_of Tryz.func75 (by kernel_rfl) rfl) (fun a na => hF a (n11.trans na)) (fun j x hx => by
            cases j with
            | zero =>
              obtain rfl : numS 4 1 = x := by simpa using hx
              exact blk_cell r11 0
            | succ j => simp at hx) (by decide) hsz (by omega) (fun e => by have := hSl _ e; omega)
          rw [← unhide HMM, ← unhide HLL] at hcall
          refine hcall.mono ?_
          rintro e wt15 ⟨rfl, l15, v15⟩
          have u15 : Upd S w1 wt15 := (n11.mono (fun _ _ h => h.elim)).trans v15
          have x15 := n11.size
          have y15 := v15.size
          clear hcall v15
          try go_wp2_with (with_reducible first | (first | refine' qw1 (ido ?_) ?_ | refine' qw2 (ido ?_) ?_ | refine' qw3 (ido ?_) ?_); rotate_left | refine' qw4 (ido ?_) | refine' qw5 (ido ?_) | rfl | apply qn)
          have m16 : New wt15 (wt15.alloc (.cells MsgV.zero.cells.toArray 101)) := ((Upd.refl _ _).alloc _)
          have b16 : MsB (wt15.alloc (.cells MsgV.zero.cells.toArray 101)) wt15.heap.size MsgV.zero := ms_alloc wt15 MsgV.zero z32i_len
          obtain ⟨K16, e16⟩ : ∃ K, K = wt15.heap.size := ⟨_, rfl⟩
          have l16 := l15.new m16
          have u16 := u15.trans (m16.mono (fun _ _ h => h.elim))
          have y16 := m16.size
          generalize (wt15.alloc (.cells MsgV.zero.cells.toArray 101)) = wa16 at m16 b16 l16 u16 y16 ⊢
          first | refine ⟨hkU _ _ l16 u16, ?_⟩ | skip
          rw [← e16] at b16 y16 ⊢
          have E16 := hide e16
          have g16 : w1.heap.size ≤ K16 := by rw [e16]; exact u15.size
          clear e16
          have hst := b16.stOk hml
          have c17 := b16.put hml
          have x17 : Upd (· = K16) wa16 _ := upd_sets (w := wa16) (b := K16) MM.cells
          have HE := hide (And.intro c17 (And.intro x17 (And.intro l16 u16)))
          have xx17 := x17.size
          clear c17 x17
          try go_wp2_with (with_reducible first | (first | refine' qw1 (ido ?_) ?_ | refine' qw2 (ido ?_) ?_ | refine' qw3 (ido ?_) ?_); rotate_left | refine' qw4 (ido ?_) | refine' qw5 (ido ?_) | rfl | apply qn)
          go_meet
          case rel =>
            obtain ⟨c, x, l, u⟩ := unhide HE
            refine ⟨K16, rfl, rfl, c, ?_, u.then x (fun i hi e => by omega), by omega⟩
            have E := unhide E16
            refine (l.upd x (fun k hk e => ?_)).wider (fun k hk => ?_) (fun k hk => ?_)
            · rcases hk with hk | hk
              · have := hSl k hk
                omega
              · omega
            · rcases hk with hk | hk
              · exact .inl hk
              · exact .inr ⟨by omega, by omega⟩
            · rcases hk with hk | hk
              · have := hSl k hk
                omega
              · exact hk.2
  case rest =>
    obtain ⟨K, rfl, rfl, hM, hl, u, hK⟩ := hcut
    obtain ⟨w3, rfl⟩ : ∃ w3 : World, w3 = wc := ⟨_, rfl⟩
    have d6 : w3.cell? ⟨g, 6, none⟩ = some (.bool false) := by
      obtain ⟨_, _, hl⟩ := hl
      exact hdd ▸ blk_cell hl.at_ 6
    have HE := hide (And.intro hl u)
    clear hl u hM
    by_cases h5 : er = 5
    · subst h5
      go_wp2_with (with_reducible first | (first | refine' tw1 (ido ?_) ?_ | refine' tw2 (ido ?_) ?_); rotate_left | refine' tw3 (ido ?_) | rfl | apply tn | refine' tw4 ?_)
      go_ret
      rw [unhide HLL] at HE
      exact ⟨rfl, ((unhide HE).1.s).later (unhide HZ), (unhide HU0).trans (unhide HE).2⟩
    · go_wp2_with (with_reducible first | (first | refine' tw1 (ido ?_) ?_ | refine' tw2 (ido ?_) ?_); rotate_left | refine' tw3 (ido ?_) | rfl | apply tn | refine' tw4 ?_)
      go_ret
      rw [unhide HLL] at HE
      refine ⟨?_, ((unhide HE).1.s).later (unhide HZ), (unhide HU0).trans (unhide HE).2⟩
      unfold tickErr
      rw [if_neg h5]
      rfl
end Go.Proofs.YtfmkdoachjgjbaaGreatDoor
