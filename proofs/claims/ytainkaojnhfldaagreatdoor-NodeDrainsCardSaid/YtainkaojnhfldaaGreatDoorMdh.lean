/-
  A link: act.
-/
import Derived.Test.YtainkaojnhfldaaGreatDoorLk3
set_option linter.unusedVariables false
set_option linter.unusedSimpArgs false
namespace Go.Proofs.YtainkaojnhfldaaGreatDoor
open Go.RowKit

attribute [local go_sem ↓ high] ld_msg_fold st_msg_fold al_msg_fold bd_msg_fold bs_msg_fold
attribute [local go_sem] ld_msg st_msg al_msg rowN_drew bd_msg_zero bs_msg
/-- What a call of the channel does that says one message. -/
structure SaysIt (en : Nat) (SC : Nat → Prop) (m : MsgV) (er : Int) (c' : Ch) (e : Ending) (a a' : World) : Prop where
  ret : e = .returned (.tuple #[.agg m.cells.toArray, .int .i64 er])
  chn : ChS a' en (Fr SC a a') c'
  upd : Upd SC a a'
set_option maxRecDepth 100000 in
set_option maxHeartbeats 2000000 in
theorem act1_any (PC M en : Nat) (SC : Nat → Prop) (F : FuncId) (fs caps : Array Value) (m : MsgV) (er : Int) (c' : Ch) (m0 : MsgV) (w : World) (hml : m.hash.length = 32)
    (hPC : w.cell? ⟨PC, 0, none⟩ = some (.func (.func F) fs caps)) (hM : MsB w M m0) (hMS : ¬ SC M) (hen : ∀ args w, (callFunc F args).run Tryz.prog w = .ok (.enter F args) w)
    (hF : Calls Tryz.prog F (fs ++ caps) w fun e w' => SaysIt en SC m er c' e w w') :
    Calls Tryz.prog 61 #[.pointer (some ⟨PC, 0, none⟩), .pointer (some ⟨M, 0, none⟩)] w fun e w' => e = .returned (.int .i64 er) ∧ MsB w' M m ∧ ∃ a, Upd SC w a ∧ ChS a en (Fr SC w a) c' ∧ Upd (· = M) a w' := by
  have HM := hide hM
  clear hM
  go_enter Tryz.func61, Tryz.ntmps61
  go_wp2_with (with_reducible first | (first | refine' tw1 (ido ?_) ?_ | refine' tw2 (ido ?_) ?_); rotate_left | refine' tw3 (ido ?_) | rfl | apply tn | refine' tw4 ?_)
  refine hF.mono ?_
  rintro e w1 ⟨rfl, hc, u⟩
  have hM1 := (unhide HM).upd u hMS
  have hst := hM1.stOk hml
  have hM2 := hM1.put hml
  have u2 : Upd (· = M) w1 (w1.setCells M 0 m.cells) := upd_sets _
  have HX := hide (And.intro hc (And.intro u (And.intro hM2 u2)))
  clear hc u hM1 hM2 u2 hF
  go_wp2_with (with_reducible first | (first | refine' tw1 (ido ?_) ?_ | refine' tw2 (ido ?_) ?_); rotate_left | refine' tw3 (ido ?_) | rfl | apply tn | refine' tw4 ?_)
  go_ret
  obtain ⟨hc, u, hM2, u2⟩ := unhide HX
  exact ⟨rfl, hM2, w1, u, hc, u2⟩
set_option maxRecDepth 100000 in
set_option maxHeartbeats 2000000 in
theorem act2_any (P0 M g : Nat) (S : Nat → Prop) (l : Lk) (sp en lo : Nat) (SC SJ : Nat → Prop) (m : MsgV) (w : World) (h : LkP w g S l sp en lo SC SJ) (hm : SayOk m) (hz : l.out.size ≤ 1099511627776)
    (c0 : w.cell? ⟨P0, 0, none⟩ = some (.pointer (some ⟨g, 0, none⟩))) (hM : MsB w M m) :
    Calls Tryz.prog 63 #[.pointer (some ⟨P0, 0, none⟩), .pointer (some ⟨M, 0, none⟩)] w fun e w' => e = .returned (.int .i64 0) ∧ LkP w' g S { l with out := l.out ++ sayS m } sp en lo SC SJ ∧ Upd (· = g) w w' := by
  have rM := hM.row
  have hgl := h.lt g h.inG
  have hs := fun w' (n' : New w w') B hB hr => send_any g B S l sp en lo SC SJ [m] w' (h.new n') (fun x hx => by rw [List.mem_singleton.1 hx]; exact hm) (by simp) hz hr hB
  have H := hide h
  have hml := hm.put.ok.len
  have hmc := m.len hml
  have HMM := hide hM
  have b1 := ms_alloc w m hml
  have n1 : New w (w.alloc (.cells m.cells.toArray 72)) := (Upd.refl _ _).alloc _
  have HS := hide (hs _ n1 w.heap.size (by omega) (fun i x hx => by
    cases i with
    | zero =>
      obtain rfl : m = x := by simpa using hx
      exact b1.row
    | succ i => simp at hx))
  have N1 := hide n1
  clear h hM hm hs b1 n1
  go_enter Tryz.func63, Tryz.ntmps63
  go_wp2_with (with_reducible first | (first | refine' tw1 (ido ?_) ?_ | refine' tw2 (ido ?_) ?_); rotate_left | refine' tw3 (ido ?_) | rfl | apply tn | refine' tw4 ?_)
  refine (unhide HS).mono ?_
  rintro e w2 ⟨rfl, h2, u2⟩
  have HX := hide (And.intro h2 u2)
  clear h2 u2 HS
  go_wp2_with (with_reducible first | (first | refine' tw1 (ido ?_) ?_ | refine' tw2 (ido ?_) ?_); rotate_left | refine' tw3 (ido ?_) | rfl | apply tn | refine' tw4 ?_)
  go_ret
  exact ⟨rfl, (unhide HX).1, ((unhide N1).mono (fun _ _ h => h.elim)).trans (unhide HX).2⟩
end Go.Proofs.YtainkaojnhfldaaGreatDoor
namespace Go.Proofs.YtainkaojnhfldaaGreatDoor
open Go.RowKit

/-- Where the steps of act stand. -/
structure ActSt (W : World) (g : Nat) (S : Nat → Prop) (sp en lo M : Nat) (m : MsgV) (L : Lk) (a : World) : Prop where
  upd : Upd (fun k => S k ∨ k = M) W a
  msb : MsB a M m
  lk : ∃ SC SJ, LkP a g (Fr S W a) L sp en lo SC SJ
/-- What a link can bear. -/
structure LkOk (l : Lk) : Prop where
  dead : l.dead = false
  waits : l.waits = false
  fused : l.j.fused = false
  off : l.j.off = false
  many : 0 ≤ l.j.many ∧ l.j.many < 1000000000000
  len : l.j.bs.size ≤ 1000000000000
  out : l.out.size ≤ 1000000000000
def Lk.says (l : Lk) (c' : Ch) (rec : ByteArray) (m : MsgV) : Lk := { l with c := c', j := l.j.app rec, out := l.out ++ sayS m }
def actF (i : Nat) : Nat := if i = 0 then 60 else if i = 1 then 61 else if i = 2 then 88 else 63
def actFs (g : Nat) (i : Nat) : Array Value := if i = 0 then #[.pointer (some ⟨g, 0, none⟩)] else #[]
def actCaps (PL PC M P0 P1 : Nat) (i : Nat) : Array Value :=
  if i = 0 then #[] else if i = 1 then #[.pointer (some ⟨PC, 0, none⟩), .pointer (some ⟨M, 0, none⟩)] else if i = 2 then #[.pointer (some ⟨P0, 0, none⟩), .pointer (some ⟨P1, 0, none⟩)] else #[.pointer (some ⟨PL, 0, none⟩), .pointer (some ⟨M, 0, none⟩)]
def actC (W : World) (g : Nat) (S : Nat → Prop) (sp en lo M : Nat) (m : MsgV) (l : Lk) (c' : Ch) (rec : ByteArray) (er : Int) (i : Nat) (a : World) : Prop :=
  if i ≤ 1 then New W a else er = 0 ∧ ActSt W g S sp en lo M m (if i = 2 then { l with c := c' } else if i = 3 then { l with c := c', j := l.j.app rec } else l.says c' rec m) a
def actD (W : World) (g : Nat) (S : Nat → Prop) (sp en lo M : Nat) (m : MsgV) (l : Lk) (c' : Ch) (er : Int) (x : Int) (a : World) : Prop := x = er ∧ ActSt W g S sp en lo M m { l with c := c' } a
/-- The steps of act, from the world in which they begin. -/
theorem act_steps (g b PL PC M P0 P1 B : Nat) (S : Nat → Prop) (l : Lk) (sp en lo : Nat) (SC SJ : Nat → Prop) (F : FuncId) (fs caps : Array Value) (m : MsgV) (er : Int) (c' : Ch) (xs : List ByteArray) (W : World)
    (h : LkP W g S l sp en lo SC SJ) (hk : LkOk l) (hml : m.hash.length = 32) (hsay : er = 0 → SayOk m) (hT : Tabs W) (hA : ApD S)
    (hen : ∀ args w, (callFunc F args).run Tryz.prog w = .ok (.enter F args) w) (hF : ∀ a, New W a → Calls Tryz.prog F (fs ++ caps) a fun e a' => SaysIt en SC m er c' e a a')
    (cL : W.cell? ⟨PL, 0, none⟩ = some (.pointer (some ⟨g, 0, none⟩))) (cC : W.cell? ⟨PC, 0, none⟩ = some (.func (.func F) fs caps)) (hM : MsB W M MsgV.zero)
    (c0 : W.cell? ⟨P0, 0, none⟩ = some (.pointer (some ⟨g, 0, none⟩))) (c1 : W.cell? ⟨P1, 0, none⟩ = some (.slice (some ⟨B, 0, none⟩) xs.length xs.length)) (hx : ∀ j x, xs[j]? = some x → W.cell? ⟨B, j, none⟩ = some (.string x))
    (hn : xs.length ≤ 1000) (hsz : (joinS xs).size ≤ 1024)
    (hrow : FnRow2 W b 4 actF (actFs g) (actCaps PL PC M P0 P1))
    (hS : ¬ S PL ∧ ¬ S M ∧ ¬ S P0 ∧ ¬ S P1 ∧ ¬ S b ∧ ¬ S B) (hne : PL ≠ M ∧ PC ≠ M ∧ P0 ≠ M ∧ P1 ≠ M ∧ b ≠ M ∧ B ≠ M) (hBl : B < W.heap.size) (hbl : b < W.heap.size) (hMT : M ≠ 4 ∧ M ≠ 1) :
    Calls Tryz.prog 59 #[.pointer (some ⟨g, 0, none⟩), .slice (some ⟨b, 0, none⟩) 4 4] W fun e w' => Upd (fun k => S k ∨ k = M ∨ W.heap.size ≤ k) W w' ∧ DoEnd 4 (actC W g S sp en lo M m l c' (joinS xs) er) (actD W g S sp en lo M m l c' er) e w' := by
  have hSl := h.lt
  have hMl := hM.lt
  have hFr : ∀ {a : World} {k : Nat}, k < W.heap.size → ¬ S k → ¬ Fr S W a k := fun hk hs e => e.elim hs (fun e => by omega)
  have hzT : ∀ {a : World} {T : Nat → Prop}, Upd T W a → (∀ k, T k → S k ∨ k = M) → Tabs a := fun u hT' => hT.upd u (fun e => (hT' _ e).elim hA.c (fun e => hMT.1 e.symm)) (fun e => (hT' _ e).elim hA.d (fun e => hMT.2 e.symm))
  refine do_any g b 4 actF (actFs g) (actCaps PL PC M P0 P1) (fun k => S k ∨ k = M ∨ W.heap.size ≤ k) _ _ W (by decide) (hk.dead ▸ blk_cell h.at_ 6) hrow ?_ ?_ ?_
  · rintro (e | e | e)
    · exact hS.2.2.2.2.1 e
    · exact hne.2.2.2.2.1 e
    · omega
  · intro i hi a hC
    rcases (by omega : i = 0 ∨ i = 1 ∨ i = 2 ∨ i = 3) with rfl | rfl | rfl | rfl
    · refine ⟨enters_of Tryz.func60 (by kernel_rfl) rfl, ?_⟩
      have nA : New W a := hC
      refine (ready_any g a (hk.waits ▸ blk_cell (h.new nA).at_ 8)).mono ?_
      rintro e a' ⟨rfl, rfl⟩
      exact ⟨Upd.refl _ _, .inl ⟨rfl, nA⟩⟩
    · refine ⟨enters_of Tryz.func61 (by kernel_rfl) rfl, ?_⟩
      have nA : New W a := hC
      have hMa := hM.new nA
      refine (act1_any PC M en SC F fs caps m er c' MsgV.zero a hml (nA.cell cC (fun h => h)) hMa (fun e => hS.2.1 (h.inC _ e)) hen (hF a nA)).mono ?_
      rintro e a' ⟨rfl, hM', a1, u1, hc1, u2⟩
      have h1 := (h.new nA).chan u1 hc1
      have z0 := nA.size
      have z1 := u1.size
      have z2 := u2.size
      have h2 := h1.upd u2 (fun k hk e => by
        rcases hk with hk | hk
        · exact hS.2.1 (e ▸ hk)
        · omega)
      have h3 : LkP a' g (Fr S W a') { l with c := c' } sp en lo (Fr SC a a1) SJ := h2.wider (fun k hk => hk.elim .inl (fun e => .inr ⟨by omega, by omega⟩)) (fun k hk => hk.elim (fun e => by have := hSl k e; omega) (fun e => e.2))
      have u : Upd (fun k => S k ∨ k = M) W a' := ((nA.mono (fun _ _ h => h.elim)).trans (u1.mono (fun k _ e => .inl (h.inC k e)))).trans (u2.mono (fun k _ e => .inr e))
      have st : ActSt W g S sp en lo M m { l with c := c' } a' := ⟨u, hM', _, _, h3⟩
      refine ⟨(u1.mono (fun k _ e => .inl (h.inC k e))).trans (u2.mono (fun k _ e => .inr (.inl e))), ?_⟩
      by_cases he : er = 0
      · subst he
        exact .inl ⟨rfl, rfl, st⟩
      · exact .inr ⟨er, he, rfl, rfl, st⟩
    · refine ⟨enters_of Tryz.func88 (by kernel_rfl) rfl, ?_⟩
      obtain ⟨he, u, hMa, SC', SJ', hl⟩ : er = 0 ∧ ActSt W g S sp en lo M m { l with c := c' } a := hC
      have z0 := u.size
      have nT : ∀ k, k < W.heap.size → ¬ S k → k ≠ M → ¬ (S k ∨ k = M) := fun k _ h1 h2 e => e.elim h1 h2
      have hP0l := World.block_lt_of_cell? W _ c0
      refine (note1_any P0 P1 B g (Fr S W a) { l with c := c' } sp en lo SC' SJ' xs a hl hk.dead hk.fused hk.off ⟨hk.many.1, by have := hk.many.2; show l.j.many < _; omega⟩ (by have := hk.len; show l.j.bs.size ≤ _; omega) (hzT u (fun k h => h)) hn hsz
        (u.cell c0 (fun e => e.elim hS.2.2.1 hne.2.2.1)) (u.cell c1 (fun e => e.elim hS.2.2.2.1 hne.2.2.2.1)) (fun j x e => u.cell (hx j x e) (fun e => e.elim hS.2.2.2.2.2 hne.2.2.2.2.2)) (by omega) (hFr hP0l hS.2.2.1)).mono ?_
      rintro e a' ⟨rfl, ⟨SJ2, h2⟩, u2⟩
      have z2 := u2.size
      refine ⟨u2.mono (fun k hk e => e.elim .inl (fun e => .inr (.inr e.1))), .inl ⟨rfl, he, ⟨?_, ?_, ?_⟩⟩⟩
      · exact u.then u2 (fun k hk e => e.elim .inl (fun e => by omega))
      · exact hMa.upd u2 (hFr hMl hS.2.1)
      · exact ⟨_, _, h2.wider (fun k hk => hk.elim (fun e => e.elim .inl (fun e => .inr ⟨e.1, by omega⟩)) (fun e => .inr ⟨by omega, e.2⟩)) (fun k hk => hk.elim (fun e => by have := hSl k e; omega) (fun e => e.2))⟩
    · refine ⟨enters_of Tryz.func63 (by kernel_rfl) rfl, ?_⟩
      obtain ⟨he, u, hMa, SC', SJ', hl⟩ : er = 0 ∧ ActSt W g S sp en lo M m { l with c := c', j := l.j.app (joinS xs) } a := hC
      have z0 := u.size
      have hg := hl.inG
      refine (act2_any PL M g (Fr S W a) _ sp en lo SC' SJ' m a hl (hsay he) (by have := hk.out; show l.out.size ≤ _; omega) (u.cell cL (fun e => e.elim hS.1 hne.1)) hMa).mono ?_
      rintro e a' ⟨rfl, h2, u2⟩
      have z2 := u2.size
      refine ⟨u2.mono (fun k hk e => .inl (e ▸ h.inG)), .inl ⟨rfl, he, ⟨?_, ?_, ?_⟩⟩⟩
      · exact u.trans (u2.mono (fun k hk e => .inl (e ▸ h.inG)))
      · exact hMa.upd u2 (fun e => hS.2.1 (e ▸ h.inG))
      · exact ⟨_, _, h2.wider (fun k hk => hk.elim .inl (fun e => .inr ⟨e.1, by omega⟩)) (fun k hk => hk.elim (fun e => by have := hSl k e; omega) (fun e => e.2))⟩
  · exact Upd.refl _ _
end Go.Proofs.YtainkaojnhfldaaGreatDoor
