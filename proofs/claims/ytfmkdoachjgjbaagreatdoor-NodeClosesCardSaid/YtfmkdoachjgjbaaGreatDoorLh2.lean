/-
  A link hears a message, where nothing is live: hear, whole.
-/
import Derived.Test.YtfmkdoachjgjbaaGreatDoorMdi
import Derived.Test.YtfmkdoachjgjbaaGreatDoorMdf
set_option linter.unusedVariables false
set_option linter.unusedSimpArgs false
namespace Go.Proofs.YtfmkdoachjgjbaaGreatDoor
open Go.RowKit

structure QSt (W : World) (g : Nat) (S : Nat → Prop) (sp en lo SD : Nat) (L : Lk) (a : World) : Prop where
  upd : Upd (fun k => S k ∨ k = SD) W a
  said : ∃ va vc, a.cell? ⟨SD, 0, none⟩ = some (.slice va 0 vc)
  lk : ∃ SC SJ, LkP a g (Fr S W a) L sp en lo SC SJ
def hearF (i : Nat) : Nat := if i = 0 then 106 else if i = 1 then 112 else if i = 2 then 108 else 109
def hearCaps (PL M SD BF P0 P1 : Nat) (i : Nat) : Array Value :=
  if i = 0 then #[.pointer (some ⟨PL, 0, none⟩), .pointer (some ⟨M, 0, none⟩), .pointer (some ⟨SD, 0, none⟩)] else if i = 1 then #[.pointer (some ⟨P0, 0, none⟩), .pointer (some ⟨P1, 0, none⟩)] else if i = 2 then #[.pointer (some ⟨PL, 0, none⟩), .pointer (some ⟨SD, 0, none⟩)] else #[.pointer (some ⟨PL, 0, none⟩), .pointer (some ⟨M, 0, none⟩), .pointer (some ⟨BF, 0, none⟩)]
def hearC (W : World) (g : Nat) (S : Nat → Prop) (sp en lo SD : Nat) (l : Lk) (c' : Ch) (rec : ByteArray) (i : Nat) (a : World) : Prop :=
  if i = 0 then New W a else QSt W g S sp en lo SD (if i = 1 then { l with c := c' } else { l with c := c', j := l.j.app rec }) a
theorem hear_steps (g b PL M SD BF P0 P1 B : Nat) (S : Nat → Prop) (l : Lk) (sp en lo : Nat) (SC SJ : Nat → Prop) (m : MsgV) (c' : Ch) (xs : List ByteArray) (v0 : Value) (va : Option Addr) (vc : Nat) (W : World)
    (h : LkP W g S l sp en lo SC SJ) (hk : LkOk l) (hT : Tabs W) (hA : ApD S) (hx0 : l.c.xs = []) (hx1 : c'.xs = []) (h4 : (m.kind == 4) = false) (h9 : (m.kind == 9) = false)
    (hF : ∀ a, New W a → Calls Tryz.prog 107 #[.pointer (some ⟨en, 0, none⟩), .agg m.cells.toArray] a (Heard en SC a c' [] 0))
    (cL : W.cell? ⟨PL, 0, none⟩ = some (.pointer (some ⟨g, 0, none⟩))) (hM : MsB W M m) (hSD : W.heap[SD]? = some (.cells #[v0] 124 (0, 0))) (hBF : W.cell? ⟨BF, 0, none⟩ = some (.slice va 0 vc))
    (c0 : W.cell? ⟨P0, 0, none⟩ = some (.pointer (some ⟨g, 0, none⟩))) (c1 : W.cell? ⟨P1, 0, none⟩ = some (.slice (some ⟨B, 0, none⟩) xs.length xs.length)) (hx : ∀ j x, xs[j]? = some x → W.cell? ⟨B, j, none⟩ = some (.string x))
    (hn : xs.length ≤ 1000) (hsz : (joinS xs).size ≤ 1024) (hrow : FnRow2 W b 4 hearF (fun _ => #[]) (hearCaps PL M SD BF P0 P1))
    (hS : ¬ S PL ∧ ¬ S M ∧ ¬ S P0 ∧ ¬ S P1 ∧ ¬ S b ∧ ¬ S B ∧ ¬ S SD ∧ ¬ S BF) (hne : PL ≠ SD ∧ M ≠ SD ∧ P0 ≠ SD ∧ P1 ≠ SD ∧ b ≠ SD ∧ B ≠ SD ∧ BF ≠ SD) (hBl : B < W.heap.size) (hbl : b < W.heap.size) (hST : SD ≠ 4 ∧ SD ≠ 1) :
    Calls Tryz.prog 66 #[.pointer (some ⟨g, 0, none⟩), .slice (some ⟨b, 0, none⟩) 4 4] W fun e w' => Upd (fun k => S k ∨ k = SD ∨ W.heap.size ≤ k) W w' ∧ DoEnd 4 (hearC W g S sp en lo SD l c' (joinS xs)) (fun _ _ => False) e w' := by
  have hSl := h.lt
  have hMl := hM.lt
  have hSDl := blk_lt hSD
  have hFr : ∀ {a : World} {k : Nat}, k < W.heap.size → ¬ S k → ¬ Fr S W a k := fun hk hs e => e.elim hs (fun e => by omega)
  have hzT : ∀ {a : World}, Upd (fun k => S k ∨ k = SD) W a → Tabs a := fun u => hT.upd u (fun e => e.elim hA.c (fun e => hST.1 e.symm)) (fun e => e.elim hA.d (fun e => hST.2 e.symm))
  refine do_any g b 4 hearF (fun _ => #[]) (hearCaps PL M SD BF P0 P1) (fun k => S k ∨ k = SD ∨ W.heap.size ≤ k) _ _ W (by decide) (hk.dead ▸ blk_cell h.at_ 6) hrow ?_ ?_ ?_
  · rintro (e | e | e)
    · exact hS.2.2.2.2.1 e
    · exact hne.2.2.2.2.1 e
    · omega
  · intro i hi a hC
    rcases (by omega : i = 0 ∨ i = 1 ∨ i = 2 ∨ i = 3) with rfl | rfl | rfl | rfl
    · refine ⟨enters_of Tryz.func106 (by kernel_rfl) rfl, ?_⟩
      have nA : New W a := hC
      have hnSC : ¬ SC SD := fun e => hS.2.2.2.2.2.2.1 (h.inC _ e)
      refine (hear1_any PL M SD g S l sp en lo SC SJ m c' [] 0 v0 a (h.new nA) (nA.cell cL (fun h => h)) (hM.new nA) (nA.old hSD (fun h => h)) hnSC (fun W' n => hF W' (nA.trans n))).mono ?_
      rintro e a' ⟨rfl, a0, a1, v, n0, u1, hc1, hv, rfl⟩
      obtain ⟨sa, sc, rfl⟩ : ∃ a c, v = .slice a 0 c := own_shape' hv
      have nB := nA.trans n0
      have h1 := (h.new nB).chan u1 hc1
      have z0 := nB.size
      have z1 := u1.size
      have hS1 := u1.old (nB.old hSD (fun h => h)) hnSC
      have hS2 := blk_set hS1 0 (.slice sa 0 sc)
      have u2 : Upd (· = SD) a1 (a1.setCell ⟨SD, 0, none⟩ (.slice sa 0 sc)) := (Upd.refl _ _).set1 _ _
      generalize a1.setCell ⟨SD, 0, none⟩ (.slice sa 0 sc) = a2 at hS2 u2 ⊢
      have z2 := u2.size
      have h2 := h1.upd u2 (fun k hk e => by
        rcases hk with hk | hk
        · exact hS.2.2.2.2.2.2.1 (e ▸ hk)
        · omega)
      have h3 : LkP a2 g (Fr S W a2) { l with c := c' } sp en lo (Fr SC a0 a1) SJ := h2.wider (fun k hk => hk.elim .inl (fun e => .inr ⟨by omega, by omega⟩)) (fun k hk => hk.elim (fun e => by have := hSl k e; omega) (fun e => e.2))
      have u : Upd (fun k => S k ∨ k = SD) W a2 := ((nB.mono (fun _ _ h => h.elim)).trans (u1.mono (fun k _ e => .inl (h.inC k e)))).trans (u2.mono (fun k _ e => .inr e))
      refine ⟨((n0.mono (fun _ _ h => h.elim)).trans (u1.mono (fun k _ e => .inl (h.inC k e)))).trans (u2.mono (fun k _ e => .inr (.inl e))), .inl ⟨rfl, ?_⟩⟩
      show QSt W g S sp en lo SD { l with c := c' } a2
      exact ⟨u, ⟨sa, sc, blk_cell hS2 0⟩, _, _, h3⟩
    · refine ⟨enters_of Tryz.func112 (by kernel_rfl) rfl, ?_⟩
      obtain ⟨u, ⟨sa, sc, hsd⟩, SC', SJ', hl⟩ : QSt W g S sp en lo SD { l with c := c' } a := hC
      have z0 := u.size
      have hP0l := World.block_lt_of_cell? W _ c0
      refine (note1_any P0 P1 B g (Fr S W a) { l with c := c' } sp en lo SC' SJ' xs a hl hk.dead hk.fused hk.off ⟨hk.many.1, by have := hk.many.2; show l.j.many < _; omega⟩ (by have := hk.len; show l.j.bs.size ≤ _; omega) (hzT u) hn hsz
        (u.cell c0 (fun e => e.elim hS.2.2.1 hne.2.2.1)) (u.cell c1 (fun e => e.elim hS.2.2.2.1 hne.2.2.2.1)) (fun j x e => u.cell (hx j x e) (fun e => e.elim hS.2.2.2.2.2.1 hne.2.2.2.2.2.1)) (by omega) (hFr hP0l hS.2.2.1)).mono ?_
      rintro e a' ⟨rfl, ⟨SJ2, h2⟩, u2⟩
      have z2 := u2.size
      refine ⟨u2.mono (fun k hk e => e.elim .inl (fun e => .inr (.inr e.1))), .inl ⟨rfl, ?_⟩⟩
      show QSt W g S sp en lo SD { l with c := c', j := l.j.app (joinS xs) } a'
      refine ⟨?_, ⟨sa, sc, u2.cell hsd (hFr hSDl hS.2.2.2.2.2.2.1)⟩, ?_⟩
      · exact u.then u2 (fun k hk e => e.elim .inl (fun e => by omega))
      · exact ⟨_, _, h2.wider (fun k hk => hk.elim (fun e => e.elim .inl (fun e => .inr ⟨e.1, by omega⟩)) (fun e => .inr ⟨by omega, e.2⟩)) (fun k hk => hk.elim (fun e => by have := hSl k e; omega) (fun e => e.2))⟩
    · refine ⟨enters_of Tryz.func108 (by kernel_rfl) rfl, ?_⟩
      obtain ⟨u, ⟨sa, sc, hsd⟩, SC', SJ', hl⟩ : QSt W g S sp en lo SD { l with c := c', j := l.j.app (joinS xs) } a := hC
      refine (hear2_none PL SD g sa sc a (u.cell cL (fun e => e.elim hS.1 hne.1)) hsd).mono ?_
      rintro e a' ⟨rfl, q⟩
      have n : New a a' := q.upd _
      have zn := n.size
      refine ⟨q.upd _, .inl ⟨rfl, ?_⟩⟩
      show QSt W g S sp en lo SD { l with c := c', j := l.j.app (joinS xs) } a'
      exact ⟨u.trans (q.upd _), ⟨sa, sc, n.cell hsd (fun h => h)⟩, _, _, (hl.new n).wider (fun k hk => hk.elim .inl (fun e => .inr ⟨e.1, by omega⟩)) (fun k hk => hk.elim (fun e => by have := hSl k e; have := u.size; omega) (fun e => e.2))⟩
    · refine ⟨enters_of Tryz.func109 (by kernel_rfl) rfl, ?_⟩
      obtain ⟨u, ⟨sa, sc, hsd⟩, SC', SJ', hl⟩ : QSt W g S sp en lo SD { l with c := c', j := l.j.app (joinS xs) } a := hC
      refine (hear3_quiet PL M BF g _ _ sp en lo SC' SJ' m va vc a hl hx1 h4 h9 (u.cell cL (fun e => e.elim hS.1 hne.1)) (hM.upd u (fun e => e.elim hS.2.1 hne.2.1)) (u.cell hBF (fun e => e.elim hS.2.2.2.2.2.2.2 hne.2.2.2.2.2.2))).mono ?_
      rintro e a' ⟨rfl, n⟩
      have zn := n.size
      refine ⟨n.mono (fun _ _ h => h.elim), .inl ⟨rfl, ?_⟩⟩
      show QSt W g S sp en lo SD { l with c := c', j := l.j.app (joinS xs) } a'
      exact ⟨u.trans (n.mono (fun _ _ h => h.elim)), ⟨sa, sc, n.cell hsd (fun h => h)⟩, _, _, (hl.new n).wider (fun k hk => hk.elim .inl (fun e => .inr ⟨e.1, by omega⟩)) (fun k hk => hk.elim (fun e => by have := hSl k e; have := u.size; omega) (fun e => e.2))⟩
  · exact Upd.refl _ _
attribute [local go_sem ↓ high] ld_msg_fold st_msg_fold al_msg_fold bd_msg_fold bs_msg_fold
attribute [local go_sem] ld_msg st_msg al_msg rowN_drew bd_msg_zero bs_msg
set_option maxRecDepth 100000 in
set_option maxHeartbeats 2000000 in
theorem lhear_quiet (g : Nat) (S : Nat → Prop) (l : Lk) (sp en lo : Nat) (SC SJ : Nat → Prop) (m : MsgV) (c' : Ch) (text : ByteArray) (w : World) (h : LkP w g S l sp en lo SC SJ) (hk : LkOk l) (hT : Tabs w) (hA : ApD S) (hx0 : l.c.xs = []) (hx1 : c'.xs = []) (h4 : (m.kind == 4) = false) (h9 : (m.kind == 9) = false) (hml : m.hash.length = 32) (hts : text.size ≤ 1000)
    (hD : ∀ W, Calls Tryz.prog 105 #[.string text] W (Makes (.tuple #[.agg m.cells.toArray, .int .i64 0]) W))
    (hF : ∀ a, New w a → Calls Tryz.prog 107 #[.pointer (some ⟨en, 0, none⟩), .agg m.cells.toArray] a (Heard en SC a c' [] 0)) :
    Calls Tryz.prog 65 #[.pointer (some ⟨g, 0, none⟩), .string text] w fun e w' => e = .returned (.int .i64 0) ∧ Upd S w w' ∧ LkE w' g (Fr S w w') sp en lo { l with c := c', j := l.j.app (joinS [numS 6 1, text]) } := by
  have hmf : ∀ (fn : Fn) (first cap : Array Value) (w : World), (Instr.makeFunc fn first cap).run Tryz.prog w = .ok (.func fn first cap) w := fun _ _ _ _ => rfl
  have c1 : w.cell? ⟨g, 1, none⟩ = some (.pointer (some ⟨en, 0, none⟩)) := blk_cell h.at_ 1
  have HX := hide (And.intro h (And.intro hk (And.intro hF (And.intro hT hA))))
  have hSl := hide h.lt
  have hlv := fun W (n : New w W) => live_none ((h.new n).chn) hx0
  clear h hk hF hT hA
  go_enter Tryz.func65, Tryz.ntmps65
  go_upto_region 1 with fail
  have b0 := blk_alloc w (.cells #[.pointer (some ⟨g, 0, none⟩)] 28)
  have n0 : New w (w.alloc (.cells #[.pointer (some ⟨g, 0, none⟩)] 28)) := (Upd.refl _ _).alloc _
  have z0 : (w.alloc (.cells #[.pointer (some ⟨g, 0, none⟩)] 28)).heap.size = w.heap.size + 1 := World.size_alloc _ _
  generalize w.alloc (.cells #[.pointer (some ⟨g, 0, none⟩)] 28) = w0 at b0 n0 z0 ⊢
  generalize hPL : w.heap.size = PL at b0 z0 ⊢
  have HPL := hide hPL
  have Z0 := hide z0
  have B0 := hide b0
  have N0 := hide n0
  clear hPL b0 n0 z0
  go_wp2_with fail
  refine (hD w0).mono ?_
  rintro e w1 ⟨rfl, n1⟩
  have N1 := hide ((unhide N0).trans n1)
  have B1 := hide (n1.old (unhide B0) (fun h => h))
  have Z1 := hide n1.size
  clear n1 hD N0 B0
  obtain ⟨hst, hMb, nM⟩ := ms_fresh w1 m hml
  go_upto_region 2 with fail
  change Code.wp _ _ _ _ (msNew w1 m)
  generalize msNew w1 m = w2 at hMb nM ⊢
  generalize hMe : w1.heap.size = M at hMb hst ⊢
  have c2 := nM.cell ((unhide N1).cell c1 (fun h => h)) (fun h => h)
  have hl2 := hlv w2 ((unhide N1).trans nM)
  have d2 : w2.cell? ⟨PL, 0, none⟩ = some (.pointer (some ⟨g, 0, none⟩)) := nM.cell (blk_cell (unhide B1) 0) (fun h => h)
  have H2 := hide (And.intro hMb (And.intro nM hMe))
  clear hst hMb nM hMe hlv c1
  go_wp2_with fail
  refine hl2.mono ?_
  rintro e w3 ⟨la, lk, rfl, n3⟩
  have d3 := n3.cell d2 (fun h => h)
  have H3 := hide n3
  clear hl2 n3 c2 d2
  go_upto_region 5 with fail
  have b4 := blk_alloc w3 (.cells #[.slice la 0 lk] 46)
  have n4 : New w3 (w3.alloc (.cells #[.slice la 0 lk] 46)) := (Upd.refl _ _).alloc _
  have z4 : (w3.alloc (.cells #[.slice la 0 lk] 46)).heap.size = w3.heap.size + 1 := World.size_alloc _ _
  generalize w3.alloc (.cells #[.slice la 0 lk] 46) = w4 at b4 n4 z4 ⊢
  generalize hBFe : w3.heap.size = BF at b4 z4 ⊢
  have H4 := hide (And.intro b4 (And.intro n4 (And.intro z4 hBFe)))
  have d4 := n4.cell d3 (fun h => h)
  clear b4 n4 z4 hBFe d3
  go_upto_region 6 with fail
  have b5 := blk_alloc w4 (.cells #[.slice none 0 0] 124)
  have n5 : New w4 (w4.alloc (.cells #[.slice none 0 0] 124)) := (Upd.refl _ _).alloc _
  have z5 : (w4.alloc (.cells #[.slice none 0 0] 124)).heap.size = w4.heap.size + 1 := World.size_alloc _ _
  generalize w4.alloc (.cells #[.slice none 0 0] 124) = w5 at b5 n5 z5 ⊢
  generalize hSDe : w4.heap.size = SD at b5 z5 ⊢
  have H5 := hide (And.intro b5 (And.intro n5 (And.intro z5 hSDe)))
  have d5 : w5.drew.cell? ⟨PL, 0, none⟩ = some (.pointer (some ⟨g, 0, none⟩)) := n5.cell d4 (fun h => h)
  clear b5 n5 z5 hSDe d4
  refine wp_plan (fun w' => w'.cell? ⟨PL, 0, none⟩ = some (.pointer (some ⟨g, 0, none⟩))) [0, 2] (.of [0, 1, 2, 3, 4, 5, 6, 7, 8, 9, 10, 11]) (by kernel_rfl) (by kernel_rfl) d5 ?_
  simp only [Plan.of]
  go_wp2_with (with_reducible first | (first | refine' qw1 (ido ?_) ?_ | refine' qw2 (ido ?_) ?_ | refine' qw3 (ido ?_) ?_); rotate_left | refine' qw4 (ido ?_) | refine' qw5 (ido ?_) | rfl | apply qn)
  refine (lnum_any 6 1 w5.drew (by decide) (by decide) (by decide)).mono ?_
  rintro e w6 ⟨rfl, n6⟩
  have n6 := n6.ofDrew
  have d6 : w6.cell? ⟨PL, 0, none⟩ = some (.pointer (some ⟨g, 0, none⟩)) := n6.cell d5 (fun h => h)
  have H6 := hide n6
  clear n6 d5
  go_wp2_with (first | (with_reducible first | (first | refine' qw1 (ido ?_) ?_ | refine' qw2 (ido ?_) ?_ | refine' qw3 (ido ?_) ?_); rotate_left | refine' qw4 (ido ?_) | refine' qw5 (ido ?_) | rfl | apply qn) | refine ⟨d6, ?_⟩)
  have b7 := blk_alloc w6 (.cells #[.string (numS 6 1), .string text] 9)
  have n7 : New w6 (w6.alloc (.cells #[.string (numS 6 1), .string text] 9)) := (Upd.refl _ _).alloc _
  have z7 : (w6.alloc (.cells #[.string (numS 6 1), .string text] 9)).heap.size = w6.heap.size + 1 := World.size_alloc _ _
  generalize w6.alloc (.cells #[.string (numS 6 1), .string text] 9) = w7 at b7 n7 z7 ⊢
  generalize hBe : w6.heap.size = B at b7 z7 ⊢
  have d7 := n7.cell d6 (fun h => h)
  have H7 := hide (And.intro b7 (And.intro n7 (And.intro z7 hBe)))
  clear b7 n7 z7 hBe d6
  refine ⟨d7, ?_⟩
  go_wp2_with (with_reducible first | (first | refine' qw1 (ido ?_) ?_ | refine' qw2 (ido ?_) ?_ | refine' qw3 (ido ?_) ?_); rotate_left | refine' qw4 (ido ?_) | refine' qw5 (ido ?_) | rfl | apply qn)
  refine (note_any g _ _ _ w7).mono ?_
  rintro e w8 ⟨P0, P1, rfl, n8, ge0, ge1, lt0, lt1, p0, p1⟩
  have d8 := n8.cell d7 (fun h => h)
  have H8 := hide (And.intro n8 (And.intro ge0 (And.intro ge1 (And.intro lt0 (And.intro lt1 (And.intro p0 p1))))))
  clear n8 ge0 ge1 lt0 lt1 p0 p1 d7
  go_wp2_with (first | (with_reducible first | (first | refine' qw1 (ido ?_) ?_ | refine' qw2 (ido ?_) ?_ | refine' qw3 (ido ?_) ?_); rotate_left | refine' qw4 (ido ?_) | refine' qw5 (ido ?_) | rfl | apply qn) | refine ⟨d8, ?_⟩)
  have b9 := blk_alloc w8 (.cells #[.func (.func 106) #[] #[.pointer (some ⟨PL, 0, none⟩), .pointer (some ⟨M, 0, none⟩), .pointer (some ⟨SD, 0, none⟩)], .func (.func 112) #[] #[.pointer (some ⟨P0, 0, none⟩), .pointer (some ⟨P1, 0, none⟩)], .func (.func 108) #[] #[.pointer (some ⟨PL, 0, none⟩), .pointer (some ⟨SD, 0, none⟩)], .func (.func 109) #[] #[.pointer (some ⟨PL, 0, none⟩), .pointer (some ⟨M, 0, none⟩), .pointer (some ⟨BF, 0, none⟩)]] 62)
  have n9 : New w8 (w8.alloc (.cells #[.func (.func 106) #[] #[.pointer (some ⟨PL, 0, none⟩), .pointer (some ⟨M, 0, none⟩), .pointer (some ⟨SD, 0, none⟩)], .func (.func 112) #[] #[.pointer (some ⟨P0, 0, none⟩), .pointer (some ⟨P1, 0, none⟩)], .func (.func 108) #[] #[.pointer (some ⟨PL, 0, none⟩), .pointer (some ⟨SD, 0, none⟩)], .func (.func 109) #[] #[.pointer (some ⟨PL, 0, none⟩), .pointer (some ⟨M, 0, none⟩), .pointer (some ⟨BF, 0, none⟩)]] 62)) := (Upd.refl _ _).alloc _
  generalize w8.alloc (.cells #[.func (.func 106) #[] #[.pointer (some ⟨PL, 0, none⟩), .pointer (some ⟨M, 0, none⟩), .pointer (some ⟨SD, 0, none⟩)], .func (.func 112) #[] #[.pointer (some ⟨P0, 0, none⟩), .pointer (some ⟨P1, 0, none⟩)], .func (.func 108) #[] #[.pointer (some ⟨PL, 0, none⟩), .pointer (some ⟨SD, 0, none⟩)], .func (.func 109) #[] #[.pointer (some ⟨PL, 0, none⟩), .pointer (some ⟨M, 0, none⟩), .pointer (some ⟨BF, 0, none⟩)]] 62) = W at b9 n9 ⊢
  have d9 := n9.cell d8 (fun h => h)
  refine ⟨d9, ?_⟩
  obtain ⟨h, hk, hF, hT, hA⟩ := unhide HX
  obtain ⟨hM, nM, hMe⟩ := unhide H2
  obtain ⟨b4, n4, z4, hBFe⟩ := unhide H4
  obtain ⟨b5, n5, z5, hSDe⟩ := unhide H5
  obtain ⟨b7, n7, z7, hBe⟩ := unhide H7
  obtain ⟨n8, ge0, ge1, lt0, lt1, p0, p1⟩ := unhide H8
  have hPLe := unhide HPL
  have n89 := n8.trans n9
  have n79 := n7.trans n89
  have n69 := (unhide H6).trans n79
  have n59 := n5.trans n69
  have n49 := n4.trans n59
  have n39 := (unhide H3).trans n49
  have n29 := nM.trans n39
  have nn : New w W := (unhide N1).trans n29
  have s1 := (unhide N1).size
  have s0 := unhide Z0
  have s01 := unhide Z1
  have s2 := nM.size
  have s3 := (unhide H3).size
  have s6 := (unhide H6).size
  have s8 := n8.size
  have hMl := hM.lt
  have hS : ∀ k, w.heap.size ≤ k → ¬ S k := fun k hk e => by have := unhide hSl k e; omega
  have htl := hT.lt
  have hrow : FnRow2 W w8.heap.size 4 hearF (fun _ => #[]) (hearCaps PL M SD BF P0 P1) := by
    intro i hi
    rcases (by omega : i = 0 ∨ i = 1 ∨ i = 2 ∨ i = 3) with rfl | rfl | rfl | rfl
    · exact blk_cell b9 0
    · exact blk_cell b9 1
    · exact blk_cell b9 2
    · exact blk_cell b9 3
  have hxs : ∀ j x, [numS 6 1, text][j]? = some x → W.cell? ⟨B, j, none⟩ = some (.string x) := by
    intro j x e
    rw [blk_cell (n89.old b7 (fun h => h)) j]
    match j, e with
    | 0, e => cases e; rfl
    | 1, e => cases e; rfl
  have hjs : (joinS [numS 6 1, text]).size ≤ 1024 := by
    have e0 : (⟨#[]⟩ : ByteArray).size = 0 := rfl
    unfold joinS joinS joinS
    simp only [ByteArray.size_append, numS_size]
    omega
  have hcall := hear_steps g w8.heap.size PL M SD BF P0 P1 B S l sp en lo SC SJ m c' [numS 6 1, text] (.slice none 0 0) la lk W (h.new nn) hk (hT.new nn) hA hx0 hx1 h4 h9 (fun a na => hF a (nn.trans na)) d9 (hM.new n39) (n69.old b5 (fun h => h)) (blk_cell (n59.old b4 (fun h => h)) 0)
    (n9.cell p0 (fun h => h)) (n9.cell p1 (fun h => h)) hxs (by simp) hjs hrow
    ⟨hS _ (by omega), hS _ (by omega), hS _ (by omega), hS _ (by omega), hS _ (by omega), hS _ (by omega), hS _ (by omega), hS _ (by omega)⟩ ⟨by omega, by omega, by omega, by omega, by omega, by omega, by omega⟩ (by have := n89.size; omega) (by have := blk_lt b9; omega) ⟨by omega, by omega⟩
  have NN := hide (And.intro nn (by have := blk_lt b5; omega : w.heap.size ≤ SD))
  have HC := hide hcall
  clear hcall hrow hxs hjs htl hS n89 n79 n69 n59 n49 n39 n29 nn s1 s0 s01 s2 s3 s6 s8 hMl h hk hF hT hA hM nM hMe b4 n4 z4 hBFe b5 n5 z5 hSDe b7 n7 z7 hBe n8 ge0 ge1 lt0 lt1 p0 p1 hPLe b9 n9 d8 d9 H2 H3 H4 H5 H6 H7 H8
  go_wp2_with (with_reducible first | (first | refine' qw1 (ido ?_) ?_ | refine' qw2 (ido ?_) ?_ | refine' qw3 (ido ?_) ?_); rotate_left | refine' qw4 (ido ?_) | refine' qw5 (ido ?_) | rfl | apply qn)
  refine (unhide HC).mono ?_
  rintro e w6 ⟨u6, (⟨rfl, hst⟩ | ⟨x, hx0, rfl, hf⟩)⟩
  · have HQ := hide (And.intro u6 hst)
    clear u6 hst HC
    go_wp2_with (with_reducible first | (first | refine' qw1 (ido ?_) ?_ | refine' qw2 (ido ?_) ?_ | refine' qw3 (ido ?_) ?_); rotate_left | refine' qw4 (ido ?_) | refine' qw5 (ido ?_) | rfl | apply qn)
    go_ret
    obtain ⟨u6, hst⟩ := unhide HQ
    obtain ⟨nn, hge⟩ := unhide NN
    obtain ⟨u, -, SC', SJ', hl⟩ : QSt W g S sp en lo SD { l with c := c', j := l.j.app (joinS [numS 6 1, text]) } w6 := hst
    have z := nn.size
    have hlS := unhide hSl
    refine ⟨rfl, nn.mono (fun _ _ h => h.elim) |>.then u (fun k hk e => e.elim id (fun e => by omega)), _, _, hl.wider (fun k hk => hk.elim .inl (fun e => .inr ⟨by omega, e.2⟩)) (fun k hk => hk.elim (fun e => by have := hlS k e; have := u.size; omega) (fun e => e.2))⟩
  · exact hf.elim
end Go.Proofs.YtfmkdoachjgjbaaGreatDoor
