/-
  A link: Shut, Sign (of Tick), Out.
-/
import Derived.Test.YtfmkdoachjgjbaaGreatDoorMdf
import Derived.Test.YtfmkdoachjgjbaaGreatDoorSgn
set_option linter.unusedVariables false
set_option linter.unusedSimpArgs false
namespace Go.Proofs.YtfmkdoachjgjbaaGreatDoor
open Go.RowKit

theorem LkS.wider {w : World} {g : Nat} {S T : Nat → Prop} {l : Lk} (h : LkS w g S l) (hs : ∀ k, S k → T k) (hl : ∀ k, T k → k < w.heap.size) : LkS w g T l := by
  obtain ⟨sp, en, lo, SC, SJ, h⟩ := h
  exact ⟨sp, en, lo, SC, SJ, h.wider hs hl⟩
theorem LkS.later {S : Nat → Prop} {w1 w2 w3 : World} {g : Nat} {l : Lk} (h : LkS w3 g (Fr S w2 w3) l) (h1 : w1.heap.size ≤ w2.heap.size) : LkS w3 g (Fr S w1 w3) l :=
  h.wider (fun k hk => hk.elim .inl (fun e => .inr ⟨by omega, e.2⟩)) (fun k hk => hk.elim (fun e => h.lt k (.inl e)) (fun e => e.2))
def actM (m : MsgV) (er : Int) : MsgV := if er = 0 then m else MsgV.zero
def Lk.acts (l : Lk) (c' : Ch) (rec : ByteArray) (m : MsgV) (er : Int) : Lk := if er = 0 then l.says c' rec m else { l with c := c' }
theorem actM_len {m : MsgV} {er : Int} (h : m.hash.length = 32) : (actM m er).hash.length = 32 := by
  unfold actM
  split
  · exact h
  · exact z32i_len
theorem act_fn (g B : Nat) (S : Nat → Prop) (l : Lk) (sp en lo : Nat) (SC SJ : Nat → Prop) (F : FuncId) (fs caps : Array Value) (m : MsgV) (er : Int) (c' : Ch) (xs : List ByteArray) (w : World)
    (h : LkP w g S l sp en lo SC SJ) (hk : LkOk l) (hml : m.hash.length = 32) (hsay : er = 0 → SayOk m) (hT : Tabs w) (hA : ApD S)
    (hen : ∀ args w, (callFunc F args).run Tryz.prog w = .ok (.enter F args) w) (hF : ∀ a, New w a → Calls Tryz.prog F (fs ++ caps) a fun e a' => SaysIt en SC m er c' e a a')
    (hx : ∀ j x, xs[j]? = some x → w.cell? ⟨B, j, none⟩ = some (.string x)) (hn : xs.length ≤ 1000) (hsz : (joinS xs).size ≤ 1024) (hBl : B < w.heap.size) (hBS : ¬ S B) :
    Calls Tryz.prog 45 #[.pointer (some ⟨g, 0, none⟩), .func (.func F) fs caps, .slice (some ⟨B, 0, none⟩) xs.length xs.length] w fun e w' => e = .returned (.tuple #[.agg (actM m er).cells.toArray, .int .i64 er]) ∧ LkE w' g (Fr S w w') sp en lo (l.acts c' (joinS xs) m er) ∧ Upd S w w' := by
  refine (act_any g B S l sp en lo SC SJ F fs caps m er c' xs w h hk hml hsay hT hA hen hF hx hn hsz hBl hBS).mono ?_
  rintro e w' ⟨u, (⟨he, rfl, hl⟩ | ⟨he, rfl, hl⟩)⟩
  · unfold actM Lk.acts
    rw [if_neg he, if_neg he]
    exact ⟨rfl, hl, u⟩
  · subst he
    exact ⟨rfl, hl, u⟩
theorem join1 (a : ByteArray) : joinS [a] = a := by
  show a ++ (⟨#[]⟩ : ByteArray) = a
  exact ByteArray.append_empty
attribute [local go_sem ↓ high] ld_msg_fold st_msg_fold al_msg_fold bd_msg_fold bs_msg_fold
attribute [local go_sem] ld_msg st_msg al_msg rowN_drew bd_msg_zero bs_msg

def Lk.shut (l : Lk) : Lk := l.acts l.c.shut.1 (numS 5 1) l.c.shut.2.1 l.c.shut.2.2
set_option maxRecDepth 100000 in
set_option maxHeartbeats 4000000 in
theorem lshut_any (g : Nat) (S : Nat → Prop) (l : Lk) (w : World) (h : LkS w g S l) (hk : LkOk l) (hsay : l.c.shut.2.2 = 0 → SayOk l.c.shut.2.1) (hm0 : l.c.shut.2.1.hash.length = 32) (hT : Tabs w) (hA : ApD S) :
    Calls Tryz.prog 27 #[.pointer (some ⟨g, 0, none⟩)] w fun e w' => e = .returned (.int .i64 l.c.shut.2.2) ∧ LkS w' g (Fr S w w') l.shut ∧ Upd S w w' := by
  have hmf : ∀ (fn : Fn) (first cap : Array Value) (w : World), (Instr.makeFunc fn first cap).run Tryz.prog w = .ok (.func fn first cap) w := fun _ _ _ _ => rfl
  have hSl := h.lt
  obtain ⟨sp, en, lo, SC, SJ, h⟩ := h
  have c1 : w.drew.cell? ⟨g, 1, none⟩ = some (.pointer (some ⟨en, 0, none⟩)) := blk_cell h.at_ 1
  have hkC : ∀ X, New w X → X.cell? ⟨g, 1, none⟩ = some (.pointer (some ⟨en, 0, none⟩)) := fun X n => n.cell (blk_cell h.at_ 1) (fun h => h)
  have hF : ∀ a, New w a → Calls Tryz.prog 74 (#[.pointer (some ⟨en, 0, none⟩)] ++ #[]) a fun e a' => SaysIt en SC l.c.shut.2.1 l.c.shut.2.2 l.c.shut.1 e a a' := fun a na => by
    refine (shut_any en SC l.c a (h.chn.new na)).mono ?_
    rintro e a' ⟨he, hc, u⟩
    exact ⟨he, hc, u⟩
  have n00 : New w w.drew := (Upd.refl _ _).drew
  have HL := hide h
  have hsz : (joinS [numS 5 1]).size ≤ 1024 := by rw [join1, numS_size]; decide
  unfold Lk.shut
  rw [← join1 (numS 5 1)]
  generalize l.c.shut.1 = c' at *
  generalize l.c.shut.2.1 = MM0 at *
  generalize l.c.shut.2.2 = er at *
  obtain ⟨MM, hMM⟩ : ∃ MM, MM = actM MM0 er := ⟨_, rfl⟩
  have hml : MM.hash.length = 32 := by rw [hMM]; exact actM_len hm0
  have HMM := hide hMM
  obtain ⟨LL, hLL⟩ : ∃ LL, LL = l.acts c' (joinS [numS 5 1]) MM0 er := ⟨_, rfl⟩
  have HLL := hide hLL
  clear hMM hLL
  have hkU : ∀ X S', LkE X g S' sp en lo LL → Upd S w X → X.cell? ⟨g, 1, none⟩ = some (.pointer (some ⟨en, 0, none⟩)) := fun X S' h _ => h.end_
  clear h
  go_enter Tryz.func27, Tryz.ntmps27
  go_upto_region 1 with fail
  go_cut [3, 4] from 5 to 16 (fun kv ev wx => ∃ K, kv = .pointer (some ⟨K, 0, none⟩) ∧ ev = .int .i64 er ∧ MsB wx K MM ∧ LkE wx g (Fr S w wx) sp en lo LL ∧ Upd S w wx ∧ w.heap.size ≤ K)
  case first =>
    refine wp_plan (fun w' => w'.cell? ⟨g, 1, none⟩ = some (.pointer (some ⟨en, 0, none⟩))) [4] (.fork (.of [12, 0, 1, 2, 3, 4, 5, 6, 7, 8, 9, 10, 11, 13, 14]) (Plan.pre [0, 1, 2, 3, 4, 5, 6] (.fork (.of [12, 7, 8, 9, 10, 11, 13, 14]) (Plan.pre [7] (.fork (.of [12, 8, 9, 10, 11, 13, 14]) (.of [8, 9, 10, 11, 12, 13, 14])))))) (by kernel_rfl) (by kernel_rfl) c1 ?_
    simp only [Plan.of, Plan.pre]
    refine qf ?_ ?_
    · skip
      try go_wp2_with (with_reducible first | (first | refine' qw1 (ido ?_) ?_ | refine' qw2 (ido ?_) ?_ | refine' qw3 (ido ?_) ?_); rotate_left | refine' qw4 (ido ?_) | refine' qw5 (ido ?_) | rfl | apply qn)
      have m1 : New w (w.alloc (.cells MsgV.zero.cells.toArray 101)).drew := ((Upd.refl _ _).alloc _).drew
      have b1 : MsB (w.alloc (.cells MsgV.zero.cells.toArray 101)).drew w.heap.size MsgV.zero := (ms_alloc w MsgV.zero z32i_len).new (Upd.drew (Upd.refl (fun _ => False) _))
      obtain ⟨K1, e1⟩ : ∃ K, K = w.heap.size := ⟨_, rfl⟩
      have n1 : New w (w.alloc (.cells MsgV.zero.cells.toArray 101)).drew := m1
      first | refine ⟨hkC _ n1, ?_⟩ | skip
      have y1 := b1.lt
      generalize (w.alloc (.cells MsgV.zero.cells.toArray 101)).drew = wa1 at m1 b1 n1 y1 ⊢
      have q1 := hkC _ n1
      rw [← e1] at b1 y1 ⊢
      have E1 := hide e1
      have g1 : w.heap.size ≤ K1 := by rw [e1]; exact Nat.le_refl _
      clear e1
      try go_wp2_with (with_reducible first | (first | refine' qw1 (ido ?_) ?_ | refine' qw2 (ido ?_) ?_ | refine' qw3 (ido ?_) ?_); rotate_left | refine' qw4 (ido ?_) | refine' qw5 (ido ?_) | rfl | apply qn)
      refine (lnum_any 5 1 wa1 (by decide) (by decide) (by decide)).mono ?_
      rintro e wc2 ⟨rfl, m2⟩
      have n2 : New w wc2 := n1.trans m2
      have b2 := b1.new m2
      have q2 := hkC _ n2
      go_wp2_with (first | (with_reducible first | (first | refine' qw1 (ido ?_) ?_ | refine' qw2 (ido ?_) ?_ | refine' qw3 (ido ?_) ?_); rotate_left | refine' qw4 (ido ?_) | refine' qw5 (ido ?_) | rfl | apply qn) | refine ⟨hkC _ n2, ?_⟩)
      try go_wp2_with (with_reducible first | (first | refine' qw1 (ido ?_) ?_ | refine' qw2 (ido ?_) ?_ | refine' qw3 (ido ?_) ?_); rotate_left | refine' qw4 (ido ?_) | refine' qw5 (ido ?_) | rfl | apply qn)
      have m3 : New wc2 (wc2.alloc (.cells #[.string (numS 5 1)] 9)) := (Upd.refl _ _).alloc _
      have n3 := n2.trans m3
      have r3 := blk_alloc wc2 (.cells #[.string (numS 5 1)] 9)
      have z3 : wc2.heap.size < (wc2.alloc (.cells #[.string (numS 5 1)] 9)).heap.size := by rw [World.size_alloc]; omega
      have y3 := n2.size
      have b3 := b2.new m3
      have a3 := b2.lt
      generalize wc2.alloc (.cells #[.string (numS 5 1)] 9) = ws3 at m3 n3 r3 z3 b3 ⊢
      first | refine ⟨hkC _ n3, ?_⟩ | skip
      clear m3
      have q3 := hkC _ n3
      generalize wc2.heap.size = B3 at *
      try go_wp2_with (with_reducible first | (first | refine' qw1 (ido ?_) ?_ | refine' qw2 (ido ?_) ?_ | refine' qw3 (ido ?_) ?_); rotate_left | refine' qw4 (ido ?_) | refine' qw5 (ido ?_) | rfl | apply qn)
      have hcall := act_fn g B3 S l sp en lo SC SJ 74 #[.pointer (some ⟨en, 0, none⟩)] #[] MM0 er c' [numS 5 1] ws3 ((unhide HL).new n3) hk hm0 hsay (hT.new n3) hA (enters_of Tryz.func74 (by kernel_rfl) rfl) (fun a na => hF a (n3.trans na)) (fun j x hx => by
        cases j with
        | zero =>
          obtain rfl : numS 5 1 = x := by simpa using hx
          exact blk_cell r3 0
        | succ j => simp at hx) (by decide) hsz (by omega) (fun e => by have := hSl _ e; omega)
      rw [← unhide HMM, ← unhide HLL] at hcall
      refine hcall.mono ?_
      rintro e wt4 ⟨rfl, l4, v4⟩
      have u4 : Upd S w wt4 := (n3.mono (fun _ _ h => h.elim)).trans v4
      have x4 := n3.size
      have y4 := v4.size
      have b4 := b3.upd v4 (fun e => by have := hSl _ e; omega)
      clear hcall v4
      have hst := b4.stOk hml
      have c5 := b4.put hml
      have x5 : Upd (· = K1) wt4 _ := upd_sets (w := wt4) (b := K1) MM.cells
      have HE := hide (And.intro c5 (And.intro x5 (And.intro l4 u4)))
      have xx5 := x5.size
      clear c5 x5
      try go_wp2_with (with_reducible first | (first | refine' qw1 (ido ?_) ?_ | refine' qw2 (ido ?_) ?_ | refine' qw3 (ido ?_) ?_); rotate_left | refine' qw4 (ido ?_) | refine' qw5 (ido ?_) | rfl | apply qn)
      go_meet
      case rel =>
        obtain ⟨c, x, l, u⟩ := unhide HE
        refine ⟨K1, rfl, rfl, c, ?_, u.then x (fun i hi e => by omega), by omega⟩
        have E := unhide E1
        refine (l.upd x (fun k hk e => ?_)).wider (fun k hk => ?_) (fun k hk => ?_)
        · rcases hk with hk | hk
          · have := hSl k hk
            omega
          · omega
        · rcases hk with hk | hk
          · exact .inl hk
          · exact .inr ⟨by omega, by omega⟩
        · rcases hk with hk | hk
          · have := hSl k hk
            omega
          · exact hk.2
    · skip
      try go_wp2_with (with_reducible first | (first | refine' qw1 (ido ?_) ?_ | refine' qw2 (ido ?_) ?_ | refine' qw3 (ido ?_) ?_); rotate_left | refine' qw4 (ido ?_) | refine' qw5 (ido ?_) | rfl | apply qn)
      refine (lnum_any 5 1 w.drew (by decide) (by decide) (by decide)).mono ?_
      rintro e wc6 ⟨rfl, m6⟩
      replace m6 := m6.ofDrew
      have n6 : New w wc6 := m6
      have q6 := hkC _ n6
      go_wp2_with (first | (with_reducible first | (first | refine' qw1 (ido ?_) ?_ | refine' qw2 (ido ?_) ?_ | refine' qw3 (ido ?_) ?_); rotate_left | refine' qw4 (ido ?_) | refine' qw5 (ido ?_) | rfl | apply qn) | refine ⟨hkC _ n6, ?_⟩)
      refine qf ?_ ?_
      · skip
        try go_wp2_with (with_reducible first | (first | refine' qw1 (ido ?_) ?_ | refine' qw2 (ido ?_) ?_ | refine' qw3 (ido ?_) ?_); rotate_left | refine' qw4 (ido ?_) | refine' qw5 (ido ?_) | rfl | apply qn)
        have m7 : New wc6 (wc6.alloc (.cells MsgV.zero.cells.toArray 101)) := ((Upd.refl _ _).alloc _)
        have b7 : MsB (wc6.alloc (.cells MsgV.zero.cells.toArray 101)) wc6.heap.size MsgV.zero := ms_alloc wc6 MsgV.zero z32i_len
        obtain ⟨K7, e7⟩ : ∃ K, K = wc6.heap.size := ⟨_, rfl⟩
        have n7 : New w (wc6.alloc (.cells MsgV.zero.cells.toArray 101)) := n6.trans m7
        first | refine ⟨hkC _ n7, ?_⟩ | skip
        have y7 := b7.lt
        generalize (wc6.alloc (.cells MsgV.zero.cells.toArray 101)) = wa7 at m7 b7 n7 y7 ⊢
        have q7 := hkC _ n7
        rw [← e7] at b7 y7 ⊢
        have E7 := hide e7
        have g7 : w.heap.size ≤ K7 := by rw [e7]; exact n6.size
        clear e7
        try go_wp2_with (with_reducible first | (first | refine' qw1 (ido ?_) ?_ | refine' qw2 (ido ?_) ?_ | refine' qw3 (ido ?_) ?_); rotate_left | refine' qw4 (ido ?_) | refine' qw5 (ido ?_) | rfl | apply qn)
        have m8 : New wa7 (wa7.alloc (.cells #[.string (numS 5 1)] 9)) := (Upd.refl _ _).alloc _
        have n8 := n7.trans m8
        have r8 := blk_alloc wa7 (.cells #[.string (numS 5 1)] 9)
        have z8 : wa7.heap.size < (wa7.alloc (.cells #[.string (numS 5 1)] 9)).heap.size := by rw [World.size_alloc]; omega
        have y8 := n7.size
        have b8 := b7.new m8
        have a8 := b7.lt
        generalize wa7.alloc (.cells #[.string (numS 5 1)] 9) = ws8 at m8 n8 r8 z8 b8 ⊢
        first | refine ⟨hkC _ n8, ?_⟩ | skip
        clear m8
        have q8 := hkC _ n8
        generalize wa7.heap.size = B8 at *
        try go_wp2_with (with_reducible first | (first | refine' qw1 (ido ?_) ?_ | refine' qw2 (ido ?_) ?_ | refine' qw3 (ido ?_) ?_); rotate_left | refine' qw4 (ido ?_) | refine' qw5 (ido ?_) | rfl | apply qn)
        have hcall := act_fn g B8 S l sp en lo SC SJ 74 #[.pointer (some ⟨en, 0, none⟩)] #[] MM0 er c' [numS 5 1] ws8 ((unhide HL).new n8) hk hm0 hsay (hT.new n8) hA (enters_of Tryz.func74 (by kernel_rfl) rfl) (fun a na => hF a (n8.trans na)) (fun j x hx => by
          cases j with
          | zero =>
            obtain rfl : numS 5 1 = x := by simpa using hx
            exact blk_cell r8 0
          | succ j => simp at hx) (by decide) hsz (by omega) (fun e => by have := hSl _ e; omega)
        rw [← unhide HMM, ← unhide HLL] at hcall
        refine hcall.mono ?_
        rintro e wt9 ⟨rfl, l9, v9⟩
        have u9 : Upd S w wt9 := (n8.mono (fun _ _ h => h.elim)).trans v9
        have x9 := n8.size
        have y9 := v9.size
        have b9 := b8.upd v9 (fun e => by have := hSl _ e; omega)
        clear hcall v9
        have hst := b9.stOk hml
        have c10 := b9.put hml
        have x10 : Upd (· = K7) wt9 _ := upd_sets (w := wt9) (b := K7) MM.cells
        have HE := hide (And.intro c10 (And.intro x10 (And.intro l9 u9)))
        have xx10 := x10.size
        clear c10 x10
        try go_wp2_with (with_reducible first | (first | refine' qw1 (ido ?_) ?_ | refine' qw2 (ido ?_) ?_ | refine' qw3 (ido ?_) ?_); rotate_left | refine' qw4 (ido ?_) | refine' qw5 (ido ?_) | rfl | apply qn)
        go_meet
        case rel =>
          obtain ⟨c, x, l, u⟩ := unhide HE
          refine ⟨K7, rfl, rfl, c, ?_, u.then x (fun i hi e => by omega), by omega⟩
          have E := unhide E7
          refine (l.upd x (fun k hk e => ?_)).wider (fun k hk => ?_) (fun k hk => ?_)
          · rcases hk with hk | hk
            · have := hSl k hk
              omega
            · omega
          · rcases hk with hk | hk
            · exact .inl hk
            · exact .inr ⟨by omega, by omega⟩
          · rcases hk with hk | hk
            · have := hSl k hk
              omega
            · exact hk.2
      · skip
        try go_wp2_with (with_reducible first | (first | refine' qw1 (ido ?_) ?_ | refine' qw2 (ido ?_) ?_ | refine' qw3 (ido ?_) ?_); rotate_left | refine' qw4 (ido ?_) | refine' qw5 (ido ?_) | rfl | apply qn)
        have m11 : New wc6 (wc6.alloc (.cells #[.string (numS 5 1)] 9)) := (Upd.refl _ _).alloc _
        have n11 := n6.trans m11
        have r11 := blk_alloc wc6 (.cells #[.string (numS 5 1)] 9)
        have z11 : wc6.heap.size < (wc6.alloc (.cells #[.string (numS 5 1)] 9)).heap.size := by rw [World.size_alloc]; omega
        have y11 := n6.size
        generalize wc6.alloc (.cells #[.string (numS 5 1)] 9) = ws11 at m11 n11 r11 z11 ⊢
        first | refine ⟨hkC _ n11, ?_⟩ | skip
        clear m11
        have q11 := hkC _ n11
        generalize wc6.heap.size = B11 at *
        refine qf ?_ ?_
        · skip
          try go_wp2_with (with_reducible first | (first | refine' qw1 (ido ?_) ?_ | refine' qw2 (ido ?_) ?_ | refine' qw3 (ido ?_) ?_); rotate_left | refine' qw4 (ido ?_) | refine' qw5 (ido ?_) | rfl | apply qn)
          have m12 : New ws11 (ws11.alloc (.cells MsgV.zero.cells.toArray 101)) := ((Upd.refl _ _).alloc _)
          have b12 : MsB (ws11.alloc (.cells MsgV.zero.cells.toArray 101)) ws11.heap.size MsgV.zero := ms_alloc ws11 MsgV.zero z32i_len
          obtain ⟨K12, e12⟩ : ∃ K, K = ws11.heap.size := ⟨_, rfl⟩
          have n12 : New w (ws11.alloc (.cells MsgV.zero.cells.toArray 101)) := n11.trans m12
          first | refine ⟨hkC _ n12, ?_⟩ | skip
          have y12 := b12.lt
          generalize (ws11.alloc (.cells MsgV.zero.cells.toArray 101)) = wa12 at m12 b12 n12 y12 ⊢
          have q12 := hkC _ n12
          have r12 := m12.old r11 (fun h => h)
          have z12 := Nat.lt_of_lt_of_le z11 m12.size
          rw [← e12] at b12 y12 ⊢
          have E12 := hide e12
          have g12 : w.heap.size ≤ K12 := by rw [e12]; exact n11.size
          clear e12
          try go_wp2_with (with_reducible first | (first | refine' qw1 (ido ?_) ?_ | refine' qw2 (ido ?_) ?_ | refine' qw3 (ido ?_) ?_); rotate_left | refine' qw4 (ido ?_) | refine' qw5 (ido ?_) | rfl | apply qn)
          have hcall := act_fn g B11 S l sp en lo SC SJ 74 #[.pointer (some ⟨en, 0, none⟩)] #[] MM0 er c' [numS 5 1] wa12 ((unhide HL).new n12) hk hm0 hsay (hT.new n12) hA (enters_of Tryz.func74 (by kernel_rfl) rfl) (fun a na => hF a (n12.trans na)) (fun j x hx => by
            cases j with
            | zero =>
              obtain rfl : numS 5 1 = x := by simpa using hx
              exact blk_cell r12 0
            | succ j => simp at hx) (by decide) hsz (by omega) (fun e => by have := hSl _ e; omega)
          rw [← unhide HMM, ← unhide HLL] at hcall
          refine hcall.mono ?_
          rintro e wt13 ⟨rfl, l13, v13⟩
          have u13 : Upd S w wt13 := (n12.mono (fun _ _ h => h.elim)).trans v13
          have x13 := n12.size
          have y13 := v13.size
          have b13 := b12.upd v13 (fun e => by have := hSl _ e; omega)
          clear hcall v13
          have hst := b13.stOk hml
          have c14 := b13.put hml
          have x14 : Upd (· = K12) wt13 _ := upd_sets (w := wt13) (b := K12) MM.cells
          have HE := hide (And.intro c14 (And.intro x14 (And.intro l13 u13)))
          have xx14 := x14.size
          clear c14 x14
          try go_wp2_with (with_reducible first | (first | refine' qw1 (ido ?_) ?_ | refine' qw2 (ido ?_) ?_ | refine' qw3 (ido ?_) ?_); rotate_left | refine' qw4 (ido ?_) | refine' qw5 (ido ?_) | rfl | apply qn)
          go_meet
          case rel =>
            obtain ⟨c, x, l, u⟩ := unhide HE
            refine ⟨K12, rfl, rfl, c, ?_, u.then x (fun i hi e => by omega), by omega⟩
            have E := unhide E12
            refine (l.upd x (fun k hk e => ?_)).wider (fun k hk => ?_) (fun k hk => ?_)
            · rcases hk with hk | hk
              · have := hSl k hk
                omega
              · omega
            · rcases hk with hk | hk
              · exact .inl hk
              · exact .inr ⟨by omega, by omega⟩
            · rcases hk with hk | hk
              · have := hSl k hk
                omega
              · exact hk.2
        · skip
          try go_wp2_with (with_reducible first | (first | refine' qw1 (ido ?_) ?_ | refine' qw2 (ido ?_) ?_ | refine' qw3 (ido ?_) ?_); rotate_left | refine' qw4 (ido ?_) | refine' qw5 (ido ?_) | rfl | apply qn)
          have hcall := act_fn g B11 S l sp en lo SC SJ 74 #[.pointer (some ⟨en, 0, none⟩)] #[] MM0 er c' [numS 5 1] ws11 ((unhide HL).new n11) hk hm0 hsay (hT.new n11) hA (enters_of Tryz.func74 (by kernel_rfl) rfl) (fun a na => hF a (n11.trans na)) (fun j x hx => by
            cases j with
            | zero =>
              obtain rfl : numS 5 1 = x := by simpa using hx
              exact blk_cell r11 0
            | succ j => simp at hx) (by decide) hsz (by omega) (fun e => by have := hSl _ e; omega)
          rw [← unhide HMM, ← unhide HLL] at hcall
          refine hcall.mono ?_
          rintro e wt15 ⟨rfl, l15, v15⟩
          have u15 : Upd S w wt15 := (n11.mono (fun _ _ h => h.elim)).trans v15
          have x15 := n11.size
          have y15 := v15.size
          clear hcall v15
          try go_wp2_with (with_reducible first | (first | refine' qw1 (ido ?_) ?_ | refine' qw2 (ido ?_) ?_ | refine' qw3 (ido ?_) ?_); rotate_left | refine' qw4 (ido ?_) | refine' qw5 (ido ?_) | rfl | apply qn)
          have m16 : New wt15 (wt15.alloc (.cells MsgV.zero.cells.toArray 101)) := ((Upd.refl _ _).alloc _)
          have b16 : MsB (wt15.alloc (.cells MsgV.zero.cells.toArray 101)) wt15.heap.size MsgV.zero := ms_alloc wt15 MsgV.zero z32i_len
          obtain ⟨K16, e16⟩ : ∃ K, K = wt15.heap.size := ⟨_, rfl⟩
          have l16 := l15.new m16
          have u16 := u15.trans (m16.mono (fun _ _ h => h.elim))
          have y16 := m16.size
          generalize (wt15.alloc (.cells MsgV.zero.cells.toArray 101)) = wa16 at m16 b16 l16 u16 y16 ⊢
          first | refine ⟨hkU _ _ l16 u16, ?_⟩ | skip
          rw [← e16] at b16 y16 ⊢
          have E16 := hide e16
          have g16 : w.heap.size ≤ K16 := by rw [e16]; exact u15.size
          clear e16
          have hst := b16.stOk hml
          have c17 := b16.put hml
          have x17 : Upd (· = K16) wa16 _ := upd_sets (w := wa16) (b := K16) MM.cells
          have HE := hide (And.intro c17 (And.intro x17 (And.intro l16 u16)))
          have xx17 := x17.size
          clear c17 x17
          try go_wp2_with (with_reducible first | (first | refine' qw1 (ido ?_) ?_ | refine' qw2 (ido ?_) ?_ | refine' qw3 (ido ?_) ?_); rotate_left | refine' qw4 (ido ?_) | refine' qw5 (ido ?_) | rfl | apply qn)
          go_meet
          case rel =>
            obtain ⟨c, x, l, u⟩ := unhide HE
            refine ⟨K16, rfl, rfl, c, ?_, u.then x (fun i hi e => by omega), by omega⟩
            have E := unhide E16
            refine (l.upd x (fun k hk e => ?_)).wider (fun k hk => ?_) (fun k hk => ?_)
            · rcases hk with hk | hk
              · have := hSl k hk
                omega
              · omega
            · rcases hk with hk | hk
              · exact .inl hk
              · exact .inr ⟨by omega, by omega⟩
            · rcases hk with hk | hk
              · have := hSl k hk
                omega
              · exact hk.2
  case rest =>
    obtain ⟨K, rfl, rfl, hM, hl, u, hK⟩ := hcut
    obtain ⟨w3, rfl⟩ : ∃ w3 : World, w3 = wc := ⟨_, rfl⟩
    have HE := hide (And.intro hl u)
    clear hl u
    go_wp2_with (with_reducible first | (first | refine' tw1 (ido ?_) ?_ | refine' tw2 (ido ?_) ?_); rotate_left | refine' tw3 (ido ?_) | rfl | apply tn | refine' tw4 ?_)
    go_ret
    rw [unhide HLL] at HE
    exact ⟨rfl, (unhide HE).1.s, (unhide HE).2⟩
end Go.Proofs.YtfmkdoachjgjbaaGreatDoor
