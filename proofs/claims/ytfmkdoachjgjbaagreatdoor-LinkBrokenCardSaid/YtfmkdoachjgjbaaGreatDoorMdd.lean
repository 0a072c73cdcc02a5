/-
  A link: act.
-/
import Derived.Test.YtfmkdoachjgjbaaGreatDoorMdc
set_option linter.unusedVariables false
set_option linter.unusedSimpArgs false
namespace Go.Proofs.YtfmkdoachjgjbaaGreatDoor
open Go.RowKit

attribute [local go_sem ↓ high] ld_msg_fold st_msg_fold al_msg_fold bd_msg_fold bs_msg_fold
attribute [local go_sem] ld_msg st_msg al_msg rowN_drew bd_msg_zero bs_msg
/-- What a call of the channel does that says one message. -/
structure SaysIt (en : Nat) (SC : Nat → Prop) (m : MsgV) (er : Int) (c' : Ch) (e : Ending) (a a' : World) : Prop where
  ret : e = .returned (.tuple #[.agg m.cells.toArray, .int .i64 er])
  chn : ChS a' en (Fr SC a a') c'
  upd : Upd SC a a'
set_option maxRecDepth 100000 in
set_option maxHeartbeats 2000000 in
theorem act1_any (PC M en : Nat) (SC : Nat → Prop) (F : FuncId) (fs caps : Array Value) (m : MsgV) (er : Int) (c' : Ch) (m0 : MsgV) (w : World) (hml : m.hash.length = 32)
    (hPC : w.cell? ⟨PC, 0, none⟩ = some (.func (.func F) fs caps)) (hM : MsB w M m0) (hMS : ¬ SC M) (hen : ∀ args w, (callFunc F args).run Tryz.prog w = .ok (.enter F args) w)
    (hF : Calls Tryz.prog F (fs ++ caps) w fun e w' => SaysIt en SC m er c' e w w') :
    Calls Tryz.prog 88 #[.pointer (some ⟨PC, 0, none⟩), .pointer (some ⟨M, 0, none⟩)] w fun e w' => e = .returned (.int .i64 er) ∧ MsB w' M m ∧ ∃ a, Upd SC w a ∧ ChS a en (Fr SC w a) c' ∧ Upd (· = M) a w' := by
  have HM := hide hM
  clear hM
  go_enter Tryz.func88, Tryz.ntmps88
  go_wp2_with (with_reducible first | (first | refine' tw1 (ido ?_) ?_ | refine' tw2 (ido ?_) ?_); rotate_left | refine' tw3 (ido ?_) | rfl | apply tn | refine' tw4 ?_)
  refine hF.mono ?_
  rintro e w1 ⟨rfl, hc, u⟩
  have hM1 := (unhide HM).upd u hMS
  have hst := hM1.stOk hml
  have hM2 := hM1.put hml
  have u2 : Upd (· = M) w1 (w1.setCells M 0 m.cells) := upd_sets _
  have HX := hide (And.intro hc (And.intro u (And.intro hM2 u2)))
  clear hc u hM1 hM2 u2 hF
  go_wp2_with (with_reducible first | (first | refine' tw1 (ido ?_) ?_ | refine' tw2 (ido ?_) ?_); rotate_left | refine' tw3 (ido ?_) | rfl | apply tn | refine' tw4 ?_)
  go_ret
  obtain ⟨hc, u, hM2, u2⟩ := unhide HX
  exact ⟨rfl, hM2, w1, u, hc, u2⟩
set_option maxRecDepth 100000 in
set_option maxHeartbeats 2000000 in
theorem act2_any (P0 M g : Nat) (S : Nat → Prop) (l : Lk) (sp en lo : Nat) (SC SJ : Nat → Prop) (m : MsgV) (w : World) (h : LkP w g S l sp en lo SC SJ) (hm : SayOk m) (hz : l.out.size ≤ 1099511627776)
    (c0 : w.cell? ⟨P0, 0, none⟩ = some (.pointer (some ⟨g, 0, none⟩))) (hM : MsB w M m) :
    Calls Tryz.prog 89 #[.pointer (some ⟨P0, 0, none⟩), .pointer (some ⟨M, 0, none⟩)] w fun e w' => e = .returned (.int .i64 0) ∧ LkP w' g S { l with out := l.out ++ sayS m } sp en lo SC SJ ∧ Upd (· = g) w w' := by
  have rM := hM.row
  have hgl := h.lt g h.inG
  have hs := fun w' (n' : New w w') B hB hr => send_any g B S l sp en lo SC SJ [m] w' (h.new n') (fun x hx => by rw [List.mem_singleton.1 hx]; exact hm) (by simp) hz hr hB
  have H := hide h
  have hml := hm.put.ok.len
  have hmc := m.len hml
  have HMM := hide hM
  have b1 := ms_alloc w m hml
  have n1 : New w (w.alloc (.cells m.cells.toArray 101)) := (Upd.refl _ _).alloc _
  have HS := hide (hs _ n1 w.heap.size (by omega) (fun i x hx => by
    cases i with
    | zero =>
      obtain rfl : m = x := by simpa using hx
      exact b1.row
    | succ i => simp at hx))
  have N1 := hide n1
  clear h hM hm hs b1 n1
  go_enter Tryz.func89, Tryz.ntmps89
  go_wp2_with (with_reducible first | (first | refine' tw1 (ido ?_) ?_ | refine' tw2 (ido ?_) ?_); rotate_left | refine' tw3 (ido ?_) | rfl | apply tn | refine' tw4 ?_)
  refine (unhide HS).mono ?_
  rintro e w2 ⟨rfl, h2, u2⟩
  have HX := hide (And.intro h2 u2)
  clear h2 u2 HS
  go_wp2_with (with_reducible first | (first | refine' tw1 (ido ?_) ?_ | refine' tw2 (ido ?_) ?_); rotate_left | refine' tw3 (ido ?_) | rfl | apply tn | refine' tw4 ?_)
  go_ret
  exact ⟨rfl, (unhide HX).1, ((unhide N1).mono (fun _ _ h => h.elim)).trans (unhide HX).2⟩
end Go.Proofs.YtfmkdoachjgjbaaGreatDoor
namespace Go.Proofs.YtfmkdoachjgjbaaGreatDoor
open Go.RowKit

/-- Where the steps of act stand. -/
structure ActSt (W : World) (g : Nat) (S : Nat → Prop) (sp en lo M : Nat) (m : MsgV) (L : Lk) (a : World) : Prop where
  upd : Upd (fun k => S k ∨ k = M) W a
  msb : MsB a M m
  lk : ∃ SC SJ, LkP a g (Fr S W a) L sp en lo SC SJ
/-- What a link can bear. -/
structure LkOk (l : Lk) : Prop where
  dead : l.dead = false
  waits : l.waits = false
  fused : l.j.fused = false
  off : l.j.off = false
  many : 0 ≤ l.j.many ∧ l.j.many < 1000000000000
  len : l.j.bs.size ≤ 1000000000000
  out : l.out.size ≤ 1000000000000
def Lk.says (l : Lk) (c' : Ch) (rec : ByteArray) (m : MsgV) : Lk := { l with c := c', j := l.j.app rec, out := l.out ++ sayS m }
def actF (i : Nat) : Nat := if i = 0 then 87 else if i = 1 then 88 else if i = 2 then 112 else 89
def actFs (g : Nat) (i : Nat) : Array Value := if i = 0 then #[.pointer (some ⟨g, 0, none⟩)] else #[]
def actCaps (PL PC M P0 P1 : Nat) (i : Nat) : Array Value :=
  if i = 0 then #[] else if i = 1 then #[.pointer (some ⟨PC, 0, none⟩), .pointer (some ⟨M, 0, none⟩)] else if i = 2 then #[.pointer (some ⟨P0, 0, none⟩), .pointer (some ⟨P1, 0, none⟩)] else #[.pointer (some ⟨PL, 0, none⟩), .pointer (some ⟨M, 0, none⟩)]
def actC (W : World) (g : Nat) (S : Nat → Prop) (sp en lo M : Nat) (m : MsgV) (l : Lk) (c' : Ch) (rec : ByteArray) (er : Int) (i : Nat) (a : World) : Prop :=
  if i ≤ 1 then New W a else er = 0 ∧ ActSt W g S sp en lo M m (if i = 2 then { l with c := c' } else if i = 3 then { l with c := c', j := l.j.app rec } else l.says c' rec m) a
def actD (W : World) (g : Nat) (S : Nat → Prop) (sp en lo M : Nat) (m : MsgV) (l : Lk) (c' : Ch) (er : Int) (x : Int) (a : World) : Prop := x = er ∧ ActSt W g S sp en lo M m { l with c := c' } a
/-- The steps of act, from the world in which they begin. -/
theorem act_steps (g b PL PC M P0 P1 B : Nat) (S : Nat → Prop) (l : Lk) (sp en lo : Nat) (SC SJ : Nat → Prop) (F : FuncId) (fs caps : Array Value) (m : MsgV) (er : Int) (c' : Ch) (xs : List ByteArray) (W : World)
    (h : LkP W g S l sp en lo SC SJ) (hk : LkOk l) (hml : m.hash.length = 32) (hsay : er = 0 → SayOk m) (hT : Tabs W) (hA : ApD S)
    (hen : ∀ args w, (callFunc F args).run Tryz.prog w = .ok (.enter F args) w) (hF : ∀ a, New W a → Calls Tryz.prog F (fs ++ caps) a fun e a' => SaysIt en SC m er c' e a a')
    (cL : W.cell? ⟨PL, 0, none⟩ = some (.pointer (some ⟨g, 0, none⟩))) (cC : W.cell? ⟨PC, 0, none⟩ = some (.func (.func F) fs caps)) (hM : MsB W M MsgV.zero)
    (c0 : W.cell? ⟨P0, 0, none⟩ = some (.pointer (some ⟨g, 0, none⟩))) (c1 : W.cell? ⟨P1, 0, none⟩ = some (.slice (some ⟨B, 0, none⟩) xs.length xs.length)) (hx : ∀ j x, xs[j]? = some x → W.cell? ⟨B, j, none⟩ = some (.string x))
    (hn : xs.length ≤ 1000) (hsz : (joinS xs).size ≤ 1024)
    (hrow : FnRow2 W b 4 actF (actFs g) (actCaps PL PC M P0 P1))
    (hS : ¬ S PL ∧ ¬ S M ∧ ¬ S P0 ∧ ¬ S P1 ∧ ¬ S b ∧ ¬ S B) (hne : PL ≠ M ∧ PC ≠ M ∧ P0 ≠ M ∧ P1 ≠ M ∧ b ≠ M ∧ B ≠ M) (hBl : B < W.heap.size) (hbl : b < W.heap.size) (hMT : M ≠ 4 ∧ M ≠ 1) :
    Calls Tryz.prog 66 #[.pointer (some ⟨g, 0, none⟩), .slice (some ⟨b, 0, none⟩) 4 4] W fun e w' => Upd (fun k => S k ∨ k = M ∨ W.heap.size ≤ k) W w' ∧ DoEnd 4 (actC W g S sp en lo M m l c' (joinS xs) er) (actD W g S sp en lo M m l c' er) e w' := by
  have hSl := h.lt
  have hMl := hM.lt
  have hFr : ∀ {a : World} {k : Nat}, k < W.heap.size → ¬ S k → ¬ Fr S W a k := fun hk hs e => e.elim hs (fun e => by omega)
  have hzT : ∀ {a : World} {T : Nat → Prop}, Upd T W a → (∀ k, T k → S k ∨ k = M) → Tabs a := fun u hT' => hT.upd u (fun e => (hT' _ e).elim hA.c (fun e => hMT.1 e.symm)) (fun e => (hT' _ e).elim hA.d (fun e => hMT.2 e.symm))
  refine do_any g b 4 actF (actFs g) (actCaps PL PC M P0 P1) (fun k => S k ∨ k = M ∨ W.heap.size ≤ k) _ _ W (by decide) (hk.dead ▸ blk_cell h.at_ 6) hrow ?_ ?_ ?_
  · rintro (e | e | e)
    · exact hS.2.2.2.2.1 e
    · exact hne.2.2.2.2.1 e
    · omega
  · intro i hi a hC
    rcases (by omega : i = 0 ∨ i = 1 ∨ i = 2 ∨ i = 3) with rfl | rfl | rfl | rfl
    · refine ⟨enters_of Tryz.func87 (by kernel_rfl) rfl, ?_⟩
      have nA : New W a := hC
      refine (ready_any g a (hk.waits ▸ blk_cell (h.new nA).at_ 8)).mono ?_
      rintro e a' ⟨rfl, rfl⟩
      exact ⟨Upd.refl _ _, .inl ⟨rfl, nA⟩⟩
    · refine ⟨enters_of Tryz.func88 (by kernel_rfl) rfl, ?_⟩
      have nA : New W a := hC
      have hMa := hM.new nA
      refine (act1_any PC M en SC F fs caps m er c' MsgV.zero a hml (nA.cell cC (fun h => h)) hMa (fun e => hS.2.1 (h.inC _ e)) hen (hF a nA)).mono ?_
      rintro e a' ⟨rfl, hM', a1, u1, hc1, u2⟩
      have h1 := (h.new nA).chan u1 hc1
      have z0 := nA.size
      have z1 := u1.size
      have z2 := u2.size
      have h2 := h1.upd u2 (fun k hk e => by
        rcases hk with hk | hk
        · exact hS.2.1 (e ▸ hk)
        · omega)
      have h3 : LkP a' g (Fr S W a') { l with c := c' } sp en lo (Fr SC a a1) SJ := h2.wider (fun k hk => hk.elim .inl (fun e => .inr ⟨by omega, by omega⟩)) (fun k hk => hk.elim (fun e => by have := hSl k e; omega) (fun e => e.2))
      have u : Upd (fun k => S k ∨ k = M) W a' := ((nA.mono (fun _ _ h => h.elim)).trans (u1.mono (fun k _ e => .inl (h.inC k e)))).trans (u2.mono (fun k _ e => .inr e))
      have st : ActSt W g S sp en lo M m { l with c := c' } a' := ⟨u, hM', _, _, h3⟩
      refine ⟨(u1.mono (fun k _ e => .inl (h.inC k e))).trans (u2.mono (fun k _ e => .inr (.inl e))), ?_⟩
      by_cases he : er = 0
      · subst he
        exact .inl ⟨rfl, rfl, st⟩
      · exact .inr ⟨er, he, rfl, rfl, st⟩
    · refine ⟨enters_of Tryz.func112 (by kernel_rfl) rfl, ?_⟩
      obtain ⟨he, u, hMa, SC', SJ', hl⟩ : er = 0 ∧ ActSt W g S sp en lo M m { l with c := c' } a := hC
      have z0 := u.size
      have nT : ∀ k, k < W.heap.size → ¬ S k → k ≠ M → ¬ (S k ∨ k = M) := fun k _ h1 h2 e => e.elim h1 h2
      have hP0l := World.block_lt_of_cell? W _ c0
      refine (note1_any P0 P1 B g (Fr S W a) { l with c := c' } sp en lo SC' SJ' xs a hl hk.dead hk.fused hk.off ⟨hk.many.1, by have := hk.many.2; show l.j.many < _; omega⟩ (by have := hk.len; show l.j.bs.size ≤ _; omega) (hzT u (fun k h => h)) hn hsz
        (u.cell c0 (fun e => e.elim hS.2.2.1 hne.2.2.1)) (u.cell c1 (fun e => e.elim hS.2.2.2.1 hne.2.2.2.1)) (fun j x e => u.cell (hx j x e) (fun e => e.elim hS.2.2.2.2.2 hne.2.2.2.2.2)) (by omega) (hFr hP0l hS.2.2.1)).mono ?_
      rintro e a' ⟨rfl, ⟨SJ2, h2⟩, u2⟩
      have z2 := u2.size
      refine ⟨u2.mono (fun k hk e => e.elim .inl (fun e => .inr (.inr e.1))), .inl ⟨rfl, he, ⟨?_, ?_, ?_⟩⟩⟩
      · exact u.then u2 (fun k hk e => e.elim .inl (fun e => by omega))
      · exact hMa.upd u2 (hFr hMl hS.2.1)
      · exact ⟨_, _, h2.wider (fun k hk => hk.elim (fun e => e.elim .inl (fun e => .inr ⟨e.1, by omega⟩)) (fun e => .inr ⟨by omega, e.2⟩)) (fun k hk => hk.elim (fun e => by have := hSl k e; omega) (fun e => e.2))⟩
    · refine ⟨enters_of Tryz.func89 (by kernel_rfl) rfl, ?_⟩
      obtain ⟨he, u, hMa, SC', SJ', hl⟩ : er = 0 ∧ ActSt W g S sp en lo M m { l with c := c', j := l.j.app (joinS xs) } a := hC
      have z0 := u.size
      have hg := hl.inG
      refine (act2_any PL M g (Fr S W a) _ sp en lo SC' SJ' m a hl (hsay he) (by have := hk.out; show l.out.size ≤ _; omega) (u.cell cL (fun e => e.elim hS.1 hne.1)) hMa).mono ?_
      rintro e a' ⟨rfl, h2, u2⟩
      have z2 := u2.size
      refine ⟨u2.mono (fun k hk e => .inl (e ▸ h.inG)), .inl ⟨rfl, he, ⟨?_, ?_, ?_⟩⟩⟩
      · exact u.trans (u2.mono (fun k hk e => .inl (e ▸ h.inG)))
      · exact hMa.upd u2 (fun e => hS.2.1 (e ▸ h.inG))
      · exact ⟨_, _, h2.wider (fun k hk => hk.elim .inl (fun e => .inr ⟨e.1, by omega⟩)) (fun k hk => hk.elim (fun e => by have := hSl k e; omega) (fun e => e.2))⟩
  · exact Upd.refl _ _

attribute [local go_sem ↓ high] ld_msg_fold st_msg_fold al_msg_fold bd_msg_fold bs_msg_fold
attribute [local go_sem] ld_msg st_msg al_msg rowN_drew bd_msg_zero bs_msg
/-- A link, its parts' places kept. -/
def LkE (w : World) (g : Nat) (S : Nat → Prop) (sp en lo : Nat) (l : Lk) : Prop := ∃ SC SJ, LkP w g S l sp en lo SC SJ
theorem LkE.upd {w w' : World} {g : Nat} {S T : Nat → Prop} {sp en lo : Nat} {l : Lk} (h : LkE w g S sp en lo l) (u : Upd T w w') (hd : ∀ k, S k → ¬ T k) : LkE w' g S sp en lo l := by
  obtain ⟨SC, SJ, h⟩ := h
  exact ⟨SC, SJ, h.upd u hd⟩
theorem LkE.new {w w' : World} {g : Nat} {S : Nat → Prop} {sp en lo : Nat} {l : Lk} (h : LkE w g S sp en lo l) (u : New w w') : LkE w' g S sp en lo l := h.upd u (fun _ _ h => h)
theorem LkE.wider {w : World} {g : Nat} {S T : Nat → Prop} {sp en lo : Nat} {l : Lk} (h : LkE w g S sp en lo l) (hs : ∀ k, S k → T k) (hl : ∀ k, T k → k < w.heap.size) : LkE w g T sp en lo l := by
  obtain ⟨SC, SJ, h⟩ := h
  exact ⟨SC, SJ, h.wider hs hl⟩
theorem LkE.end_ {w : World} {g : Nat} {S : Nat → Prop} {sp en lo : Nat} {l : Lk} (h : LkE w g S sp en lo l) : w.cell? ⟨g, 1, none⟩ = some (.pointer (some ⟨en, 0, none⟩)) := by
  obtain ⟨SC, SJ, h⟩ := h
  exact blk_cell h.at_ 1
theorem LkE.s {w : World} {g : Nat} {S : Nat → Prop} {sp en lo : Nat} {l : Lk} (h : LkE w g S sp en lo l) : LkS w g S l := by
  obtain ⟨SC, SJ, h⟩ := h
  exact ⟨sp, en, lo, SC, SJ, h⟩
/-- What act comes to. -/
def ActEnd (sp en lo : Nat) (g : Nat) (S : Nat → Prop) (l : Lk) (m : MsgV) (er : Int) (c' : Ch) (rec : ByteArray) (w : World) (e : Ending) (w' : World) : Prop :=
  Upd S w w' ∧ ((er ≠ 0 ∧ e = .returned (.tuple #[.agg MsgV.zero.cells.toArray, .int .i64 er]) ∧ LkE w' g (Fr S w w') sp en lo { l with c := c' }) ∨
    (er = 0 ∧ e = .returned (.tuple #[.agg m.cells.toArray, .int .i64 0]) ∧ LkE w' g (Fr S w w') sp en lo (l.says c' rec m)))
set_option maxRecDepth 100000 in
set_option maxHeartbeats 1000000 in
theorem act_any (g B : Nat) (S : Nat → Prop) (l : Lk) (sp en lo : Nat) (SC SJ : Nat → Prop) (F : FuncId) (fs caps : Array Value) (m : MsgV) (er : Int) (c' : Ch) (xs : List ByteArray) (w : World)
    (h : LkP w g S l sp en lo SC SJ) (hk : LkOk l) (hml : m.hash.length = 32) (hsay : er = 0 → SayOk m) (hT : Tabs w) (hA : ApD S)
    (hen : ∀ args w, (callFunc F args).run Tryz.prog w = .ok (.enter F args) w) (hF : ∀ a, New w a → Calls Tryz.prog F (fs ++ caps) a fun e a' => SaysIt en SC m er c' e a a')
    (hx : ∀ j x, xs[j]? = some x → w.cell? ⟨B, j, none⟩ = some (.string x)) (hn : xs.length ≤ 1000) (hsz : (joinS xs).size ≤ 1024) (hBl : B < w.heap.size) (hBS : ¬ S B) :
    Calls Tryz.prog 45 #[.pointer (some ⟨g, 0, none⟩), .func (.func F) fs caps, .slice (some ⟨B, 0, none⟩) xs.length xs.length] w fun e w' => ActEnd sp en lo g S l m er c' (joinS xs) w e w' := by
  have hmf : ∀ (fn : Fn) (first cap : Array Value) (w : World), (Instr.makeFunc fn first cap).run Tryz.prog w = .ok (.func fn first cap) w := fun _ _ _ _ => rfl
  have hSl := hide h.lt
  have hgl := h.lt g h.inG
  -- the blocks that are made first
  obtain ⟨w4, hw4⟩ : ∃ w4, w4 = (((w.alloc (.cells #[.pointer (some ⟨g, 0, none⟩)] 28)).alloc (.cells #[.func (.func F) fs caps] 109)).alloc (.cells MsgV.zero.cells.toArray 101)).alloc (.cells MsgV.zero.cells.toArray 101) := ⟨_, rfl⟩
  have n4 : New w w4 := by rw [hw4]; exact ((((Upd.refl _ _).alloc _).alloc _).alloc _).alloc _
  have z4 : w4.heap.size = w.heap.size + 4 := by rw [hw4]; simp only [World.size_alloc]
  have bL : w4.cell? ⟨w.heap.size, 0, none⟩ = some (.pointer (some ⟨g, 0, none⟩)) := by
    rw [hw4]
    exact blk_cell (blk_alloc_old (blk_alloc_old (blk_alloc_old (blk_alloc _ _) _) _) _) 0
  have bC : w4.cell? ⟨w.heap.size + 1, 0, none⟩ = some (.func (.func F) fs caps) := by
    rw [hw4]
    have := blk_alloc (w.alloc (.cells #[.pointer (some ⟨g, 0, none⟩)] 28)) (.cells #[.func (.func F) fs caps] 109)
    rw [World.size_alloc] at this
    exact blk_cell (blk_alloc_old (blk_alloc_old this _) _) 0
  have bR : MsB w4 (w.heap.size + 2) MsgV.zero := by
    rw [hw4]
    have := blk_alloc ((w.alloc (.cells #[.pointer (some ⟨g, 0, none⟩)] 28)).alloc (.cells #[.func (.func F) fs caps] 109)) (.cells MsgV.zero.cells.toArray 101)
    rw [World.size_alloc, World.size_alloc] at this
    exact ⟨blk_alloc_old this _, z32i_len⟩
  have bM : MsB w4 (w.heap.size + 3) MsgV.zero := by
    rw [hw4]
    have := blk_alloc (((w.alloc (.cells #[.pointer (some ⟨g, 0, none⟩)] 28)).alloc (.cells #[.func (.func F) fs caps] 109)).alloc (.cells MsgV.zero.cells.toArray 101)) (.cells MsgV.zero.cells.toArray 101)
    rw [World.size_alloc, World.size_alloc, World.size_alloc] at this
    exact ⟨this, z32i_len⟩
  have HX := hide (And.intro h (And.intro hk (And.intro hsay (And.intro hF hx))))
  have HTA := hide (And.intro hT hA)
  clear h hk hsay hF hx hT hA
  go_enter Tryz.func45, Tryz.ntmps45
  go_upto_region 2 with fail
  rw [← hw4]
  have bR : MsB w4 (w.heap.size + 1 + 1) MsgV.zero := bR
  have bM : MsB w4 (w.heap.size + 1 + 1 + 1) MsgV.zero := bM
  have HW := hide z4
  clear hw4 z4
  generalize hZ : w.heap.size = Z at *
  have HZ := hide hZ
  clear hZ
  have cL0 : w4.drew.cell? ⟨Z, 0, none⟩ = some (.pointer (some ⟨g, 0, none⟩)) := bL
  have HB := hide (And.intro bL (And.intro bC (And.intro bR bM)))
  have N4 := hide n4
  clear bL bC bR bM n4
  refine wp_plan (fun w' => w'.cell? ⟨Z, 0, none⟩ = some (.pointer (some ⟨g, 0, none⟩))) [0, 1, 4] (.of [0, 1, 2, 3, 4, 5, 6, 7, 8, 9, 10]) (by kernel_rfl) (by kernel_rfl) cL0 ?_
  simp only [Plan.of]
  go_wp2_with (with_reducible first | (first | refine' qw1 (ido ?_) ?_ | refine' qw2 (ido ?_) ?_ | refine' qw3 (ido ?_) ?_); rotate_left | refine' qw4 (ido ?_) | refine' qw5 (ido ?_) | rfl | apply qn)
  refine (note_any g _ _ _ w4.drew).mono ?_
  rintro e w5 ⟨P0, P1, rfl, n5, ge0, ge1, lt0, lt1, d0, d1⟩
  have n5 := n5.ofDrew
  have cL5 := n5.cell (unhide HB).1 (fun h => h)
  have HD := hide (And.intro n5 (And.intro ge0 (And.intro ge1 (And.intro lt0 (And.intro lt1 (And.intro d0 d1))))))
  clear n5 ge0 ge1 lt0 lt1 d0 d1 cL0
  go_wp2_with (first | (with_reducible first | (first | refine' qw1 (ido ?_) ?_ | refine' qw2 (ido ?_) ?_ | refine' qw3 (ido ?_) ?_); rotate_left | refine' qw4 (ido ?_) | refine' qw5 (ido ?_) | rfl | apply qn) | refine ⟨cL5, ?_⟩)
  have nW : New w5 (w5.alloc (.cells #[.func (.func 87) #[.pointer (some ⟨g, 0, none⟩)] #[], .func (.func 88) #[] #[.pointer (some ⟨Z + 1, 0, none⟩), .pointer (some ⟨Z + 1 + 1 + 1, 0, none⟩)], .func (.func 112) #[] #[.pointer (some ⟨P0, 0, none⟩), .pointer (some ⟨P1, 0, none⟩)], .func (.func 89) #[] #[.pointer (some ⟨Z, 0, none⟩), .pointer (some ⟨Z + 1 + 1 + 1, 0, none⟩)]] 62)) := (Upd.refl _ _).alloc _
  have bW := blk_alloc w5 (.cells #[.func (.func 87) #[.pointer (some ⟨g, 0, none⟩)] #[], .func (.func 88) #[] #[.pointer (some ⟨Z + 1, 0, none⟩), .pointer (some ⟨Z + 1 + 1 + 1, 0, none⟩)], .func (.func 112) #[] #[.pointer (some ⟨P0, 0, none⟩), .pointer (some ⟨P1, 0, none⟩)], .func (.func 89) #[] #[.pointer (some ⟨Z, 0, none⟩), .pointer (some ⟨Z + 1 + 1 + 1, 0, none⟩)]] 62)
  have zW : (w5.alloc (.cells #[.func (.func 87) #[.pointer (some ⟨g, 0, none⟩)] #[], .func (.func 88) #[] #[.pointer (some ⟨Z + 1, 0, none⟩), .pointer (some ⟨Z + 1 + 1 + 1, 0, none⟩)], .func (.func 112) #[] #[.pointer (some ⟨P0, 0, none⟩), .pointer (some ⟨P1, 0, none⟩)], .func (.func 89) #[] #[.pointer (some ⟨Z, 0, none⟩), .pointer (some ⟨Z + 1 + 1 + 1, 0, none⟩)]] 62)).heap.size = w5.heap.size + 1 := World.size_alloc _ _
  generalize w5.alloc (.cells #[.func (.func 87) #[.pointer (some ⟨g, 0, none⟩)] #[], .func (.func 88) #[] #[.pointer (some ⟨Z + 1, 0, none⟩), .pointer (some ⟨Z + 1 + 1 + 1, 0, none⟩)], .func (.func 112) #[] #[.pointer (some ⟨P0, 0, none⟩), .pointer (some ⟨P1, 0, none⟩)], .func (.func 89) #[] #[.pointer (some ⟨Z, 0, none⟩), .pointer (some ⟨Z + 1 + 1 + 1, 0, none⟩)]] 62) = W at nW bW zW ⊢
  have cLW := nW.cell cL5 (fun h => h)
  refine ⟨cLW, ?_⟩
  obtain ⟨n5', ge0, ge1, lt0, lt1, d0, d1⟩ := unhide HD
  obtain ⟨h, hk, hsay, hF, hx⟩ := unhide HX
  obtain ⟨hT, hA⟩ := unhide HTA
  have nn : New w W := ((unhide N4).trans n5').trans nW
  have z4 := unhide HW
  have z5 := n5'.size
  have ge0 : w4.heap.size ≤ P0 := ge0
  have ge1 : w4.heap.size ≤ P1 := ge1
  have hrow : FnRow2 W w5.heap.size 4 actF (actFs g) (actCaps Z (Z + 1) (Z + 1 + 1 + 1) P0 P1) := by
    intro i hi
    rcases (by omega : i = 0 ∨ i = 1 ∨ i = 2 ∨ i = 3) with rfl | rfl | rfl | rfl
    · exact blk_cell bW 0
    · exact blk_cell bW 1
    · exact blk_cell bW 2
    · exact blk_cell bW 3
  have hS : ∀ k, Z ≤ k → ¬ S k := fun k hk e => by have := unhide hSl k e; omega
  have htl := hT.lt
  have hZw := unhide HZ
  have hM5 := ((unhide HB).2.2.2.new n5').new nW
  have hR5 := ((unhide HB).2.2.1.new n5').new nW
  have hcall := act_steps g w5.heap.size Z (Z + 1) (Z + 1 + 1 + 1) P0 P1 B S l sp en lo SC SJ F fs caps m er c' xs W (h.new nn) hk hml hsay (hT.new nn) hA hen (fun a na => hF a (nn.trans na)) cLW
    (nW.cell (n5'.cell (unhide HB).2.1 (fun h => h)) (fun h => h)) hM5 (nW.cell d0 (fun h => h)) (nW.cell d1 (fun h => h)) (fun j x e => nn.cell (hx j x e) (fun h => h)) hn hsz hrow
    ⟨hS _ (by omega), hS _ (by omega), hS _ (by omega), hS _ (by omega), hS _ (by omega), hBS⟩ ⟨by omega, by omega, by omega, by omega, by omega, by omega⟩ (by omega) (by omega) ⟨by omega, by omega⟩
  have NN := hide nn
  have HRR := hide hR5
  have HZZ := hide (And.intro z4 (And.intro z5 zW))
  have HSS := hide hS
  clear hrow bW htl hM5 hR5 hS nn nW n5' ge0 ge1 lt0 lt1 d0 d1 h hk hsay hF hx hT hA z4 z5 zW HD HB cL5 cLW bR bM
  generalize w5.heap.size = bb at *
  go_wp2_with (with_reducible first | (first | refine' qw1 (ido ?_) ?_ | refine' qw2 (ido ?_) ?_ | refine' qw3 (ido ?_) ?_); rotate_left | refine' qw4 (ido ?_) | refine' qw5 (ido ?_) | rfl | apply qn)
  refine hcall.mono ?_
  rintro e w6 ⟨u6, (⟨rfl, he, hst⟩ | ⟨x, hx0, rfl, he, hst⟩)⟩
  · have hst : ActSt W g S sp en lo (Z + 1 + 1 + 1) m (l.says c' (joinS xs) m) w6 := hst
    have hcx := he
    have bR6 := trivial
    clear he
    have hR6 := (unhide HRR).upd u6 (fun e => by
      have z := unhide HZZ
      rcases e with e | e | e
      · exact unhide HSS _ (by omega) e
      · omega
      · omega)
    have hst6 := hR6.stOk hml
    have hR7 := hR6.put hml
    have u7 : Upd (· = Z + 1 + 1) w6 (w6.setCells (Z + 1 + 1) 0 m.cells) := upd_sets _
    have hF := hR7.at_
    have rM := hst.msb.row
    have HQ := hide (And.intro u6 (And.intro hst (And.intro u7 hcx)))
    clear hR6 hR7 u7 u6 hst hcx hcall HRR HX HTA N4 bR6
    go_wp2_with (first | (with_reducible first | (first | refine' qw1 (ido ?_) ?_ | refine' qw2 (ido ?_) ?_ | refine' qw3 (ido ?_) ?_); rotate_left | refine' qw4 (ido ?_) | refine' qw5 (ido ?_) | rfl | apply qn) | (with_reducible first | (first | refine' tw1 (ido ?_) ?_ | refine' tw2 (ido ?_) ?_); rotate_left | refine' tw3 (ido ?_) | rfl | apply tn | refine' tw4 ?_))
    refine bodyPost_ret (results_row_tmp' rfl _ _ (Z + 1 + 1) _ _ _ _ rfl hF Tryz.underlying101 rfl (by rw [List.size_toArray, MsgV.len _ hml]; exact Tryz.infoMsg)) rfl ?_
    obtain ⟨u6, hst, u7, hcx⟩ := unhide HQ
    have nn := unhide NN
    have z := unhide HZZ
    have zw := unhide HZ
    have zn := nn.size
    have z6 := u6.size
    have z7 := u7.size
    have hs := unhide HSS
    refine ⟨?_, .inr ⟨hcx, rfl, ?_⟩⟩
    · refine ((nn.mono (T := S) (fun _ _ h => h.elim)).then u6 (fun k hk e => ?_)).then u7 (fun k hk e => by omega)
      rcases e with e | e | e
      · exact e
      · omega
      · omega
    · obtain ⟨SC', SJ', hl⟩ := hst.lk
      have hl7 := hl.upd u7 (fun k hk e => by
        rcases hk with hk | hk
        · exact hs _ (by omega) (e ▸ hk)
        · omega)
      exact ⟨SC', SJ', hl7.wider (fun k hk => hk.elim .inl (fun e => .inr ⟨by omega, by omega⟩)) (fun k hk => hk.elim (fun e => by have := unhide hSl k e; omega) (fun e => e.2))⟩
  · have he : x = er := he
    subst he
    have hcx := hx0
    have bR6 := trivial
    have hR6 := (unhide HRR).upd u6 (fun e => by
      have z := unhide HZZ
      rcases e with e | e | e
      · exact unhide HSS _ (by omega) e
      · omega
      · omega)
    have hst6 := hR6.stOk (k := MsgV.zero) z32i_len
    have hR7 := hR6.put (k := MsgV.zero) z32i_len
    have u7 : Upd (· = Z + 1 + 1) w6 (w6.setCells (Z + 1 + 1) 0 MsgV.zero.cells) := upd_sets _
    have hF := hR7.at_
    have HQ := hide (And.intro u6 (And.intro hst (And.intro u7 hcx)))
    clear hR6 hR7 u7 u6 hst hcx hcall HRR HX HTA N4 bR6
    have HST := hide hst6
    have HFF := hide hF
    clear hst6 hF
    go_upto_if 21 with (first | (with_reducible first | (first | refine' qw1 (ido ?_) ?_ | refine' qw2 (ido ?_) ?_ | refine' qw3 (ido ?_) ?_); rotate_left | refine' qw4 (ido ?_) | refine' qw5 (ido ?_) | rfl | apply qn) | (with_reducible first | (first | refine' tw1 (ido ?_) ?_ | refine' tw2 (ido ?_) ?_); rotate_left | refine' tw3 (ido ?_) | rfl | apply tn | refine' tw4 ?_))
    refine wp_cond_true (show _ = Value.bool true from congrArg Value.bool (show (x != 0) = true by simpa using hx0)) ?_
    have hst6 := unhide HST
    go_wp2_with (first | (with_reducible first | (first | refine' qw1 (ido ?_) ?_ | refine' qw2 (ido ?_) ?_ | refine' qw3 (ido ?_) ?_); rotate_left | refine' qw4 (ido ?_) | refine' qw5 (ido ?_) | rfl | apply qn) | (with_reducible first | (first | refine' tw1 (ido ?_) ?_ | refine' tw2 (ido ?_) ?_); rotate_left | refine' tw3 (ido ?_) | rfl | apply tn | refine' tw4 ?_))
    refine bodyPost_ret (results_row_tmp' rfl _ _ (Z + 1 + 1) _ _ _ _ rfl (unhide HFF) Tryz.underlying101 rfl (by rw [List.size_toArray, MsgV.len _ z32i_len]; exact Tryz.infoMsg)) rfl ?_
    obtain ⟨u6, hst, u7, hcx⟩ := unhide HQ
    have nn := unhide NN
    have z := unhide HZZ
    have zw := unhide HZ
    have zn := nn.size
    have z6 := u6.size
    have z7 := u7.size
    have hs := unhide HSS
    refine ⟨?_, .inl ⟨hcx, rfl, ?_⟩⟩
    · refine ((nn.mono (T := S) (fun _ _ h => h.elim)).then u6 (fun k hk e => ?_)).then u7 (fun k hk e => by omega)
      rcases e with e | e | e
      · exact e
      · omega
      · omega
    · obtain ⟨SC', SJ', hl⟩ := hst.lk
      have hl7 := hl.upd u7 (fun k hk e => by
        rcases hk with hk | hk
        · exact hs _ (by omega) (e ▸ hk)
        · omega)
      exact ⟨SC', SJ', hl7.wider (fun k hk => hk.elim .inl (fun e => .inr ⟨by omega, by omega⟩)) (fun k hk => hk.elim (fun e => by have := unhide hSl k e; omega) (fun e => e.2))⟩
end Go.Proofs.YtfmkdoachjgjbaaGreatDoor
