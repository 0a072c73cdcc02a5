/-
  A link is cut: the steps.
-/
import Derived.Test.YtfmkdoachjgjbaaGreatDoorMdg
import Derived.Test.YtfmkdoachjgjbaaGreatDoorCut
set_option linter.unusedVariables false
set_option linter.unusedSimpArgs false
namespace Go.Proofs.YtfmkdoachjgjbaaGreatDoor
open Go.RowKit

def againM (c : Ch) : MsgV := ⟨9, c.s.ch, IntKind.u64.wrap c.k.told, 0, z32i, 0, c.k.heard + 1⟩
theorem againS_any {en : Nat} {SC : Nat → Prop} {c : Ch} {w : World} (h : ChS w en SC c) : Calls Tryz.prog 73 #[.pointer (some ⟨en, 0, none⟩)] w (Makes (.agg (againM c).cells.toArray) w) := by
  obtain ⟨lv, nv, av, h⟩ := h
  exact again_any _ _ w h.toR ⟨h.ok.signed.1, by have := h.ok.signed.2; show c.k.signed < _; omega⟩ h.ok.heard
section
variable {w w1 : World} {g : Nat} {S : Nat → Prop} {l : Lk} {sp en lo B : Nat} {SC SJ : Nat → Prop}
/-- A new splitter. -/
theorem LkP.resplit (h : LkP w g S l sp en lo SC SJ) (n : New w w1) (hB : SpR w1 B ⟨#[]⟩) (hBg : w.heap.size ≤ B) :
    LkP (w1.setCell ⟨g, 0, none⟩ (.pointer (some ⟨B, 0, none⟩))) g (Fr S w w1) { l with rest := ⟨#[]⟩ } B en lo SC SJ := by
  have h1 := h.new n
  have u : Upd (· = g) w1 (w1.setCell ⟨g, 0, none⟩ (.pointer (some ⟨B, 0, none⟩))) := (Upd.refl _ _).set1 _ _
  have hgl := h.lt g h.inG
  have hBl : B < w1.heap.size := blk_lt hB
  have hz := n.size
  refine ⟨?_, u.old hB (by omega), h1.chn.upd u (fun k hk e => h.gC (e ▸ hk)), h1.jou.upd u (fun k hk e => h.gJ (e ▸ hk)), .inl h.inG, .inr ⟨hBg, hBl⟩, fun k hk => .inl (h.inC k hk), fun k hk => .inl (h.inJ k hk), h.gC, h.gJ, fun e => by have := h.lt _ (h.inC _ e); omega, fun e => by have := h.lt _ (h.inJ _ e); omega, h.cJ, ?_⟩
  · have := blk_set h1.at_ 0 (.pointer (some ⟨B, 0, none⟩))
    exact this
  · rintro k (hk | hk)
    · have := h.lt k hk
      have := u.size
      omega
    · exact Nat.lt_of_lt_of_le hk.2 u.size
end
def Lk.renewed (l : Lk) : Lk := { l with rest := ⟨#[]⟩, out := ⟨#[]⟩, ticks := 0, broken := false, waits := true }
set_option maxRecDepth 100000 in
set_option maxHeartbeats 1000000 in
theorem lcut1_any (PL g : Nat) (S : Nat → Prop) (l : Lk) (sp en lo : Nat) (SC SJ : Nat → Prop) (w : World) (h : LkP w g S l sp en lo SC SJ) (hPL : w.cell? ⟨PL, 0, none⟩ = some (.pointer (some ⟨g, 0, none⟩))) :
    Calls Tryz.prog 67 #[.pointer (some ⟨PL, 0, none⟩)] w fun e w' => e = .returned (.int .i64 0) ∧ LkP w' g (Fr S w w') { l with c := l.c.cut } sp en lo (Fr SC w w') SJ ∧ Upd S w w' := by
  have c1 : w.cell? ⟨g, 1, none⟩ = some (.pointer (some ⟨en, 0, none⟩)) := blk_cell h.at_ 1
  have hc := ccut_any en SC l.c w h.chn
  have H := hide h
  clear h
  go_enter Tryz.func67, Tryz.ntmps67
  go_wp2_with fail
  refine hc.mono ?_
  rintro e w1 ⟨⟨ov, rv, rfl⟩, h1, u1⟩
  have H1 := hide (And.intro ((unhide H).chan u1 h1) (u1.mono (fun k hk e => (unhide H).inC k e)))
  clear hc h1 u1 c1
  go_wp2_with fail
  go_ret
  exact ⟨rfl, (unhide H1).1, (unhide H1).2⟩
set_option maxRecDepth 100000 in
set_option maxHeartbeats 1000000 in
theorem renew_any (g : Nat) (S : Nat → Prop) (l : Lk) (sp en lo : Nat) (SC SJ : Nat → Prop) (w : World) (h : LkP w g S l sp en lo SC SJ) :
    Calls Tryz.prog 70 #[.pointer (some ⟨g, 0, none⟩)] w fun e w' => e = .returned (.int .i64 0) ∧ (∃ B, LkP w' g (Fr S w w') l.renewed B en lo SC SJ) ∧ Upd S w w' := by
  obtain ⟨wB, hwB⟩ : ∃ wB : World, wB = w.alloc (.cells #[.string ⟨#[]⟩] 169) := ⟨_, rfl⟩
  have nB : New w wB := by rw [hwB]; exact (Upd.refl _ _).alloc _
  have hB : SpR wB w.heap.size ⟨#[]⟩ := by rw [hwB]; exact blk_alloc _ _
  have h1 := h.new nB
  have c0 : wB.cell? ⟨g, 0, none⟩ = some (.pointer (some ⟨sp, 0, none⟩)) := blk_cell h1.at_ 0
  have f0 := blk_free h1.at_ 0
  have h2 := h.resplit nB hB (Nat.le_refl _)
  have u2 : Upd (· = g) wB (wB.setCell ⟨g, 0, none⟩ (.pointer (some ⟨w.heap.size, 0, none⟩))) := (Upd.refl _ _).set1 _ _
  have H2 := hide (And.intro h2 (((nB.mono (fun _ _ h => h.elim)).trans (u2.mono (fun k _ e => by have e : k = g := e; rw [e]; exact h.inG)) : Upd S w _)))
  have hgS := h.inG
  clear h h1 h2 u2 hB nB
  have HG := hide hgS
  clear hgS
  have ZB := hide (show wB.heap.size = w.heap.size + 1 by rw [hwB]; exact World.size_alloc _ _)
  rw [hwB] at c0 f0
  go_enter Tryz.func70, Tryz.ntmps70
  go_upto_region 2 with fail
  rw [← hwB]
  clear c0 f0 hwB
  generalize wB.setCell ⟨g, 0, none⟩ (.pointer (some ⟨w.heap.size, 0, none⟩)) = w2 at H2 ⊢
  generalize w.heap.size = B at H2 ⊢
  obtain ⟨h2, u2⟩ := unhide H2
  have c3 : w2.cell? ⟨g, 3, none⟩ = some (.string l.out) := blk_cell h2.at_ 3
  have f3 := blk_free h2.at_ 3
  have h3 := h2.put_out ⟨#[]⟩
  have c5 : (w2.setCell ⟨g, 3, none⟩ (.string ⟨#[]⟩)).cell? ⟨g, 5, none⟩ = some (.int .i64 l.ticks) := blk_cell h3.at_ 5
  have f5 := blk_free h3.at_ 5
  have h4 := h3.put_ticks 0
  have u4 : Upd S w ((w2.setCell ⟨g, 3, none⟩ (.string ⟨#[]⟩)).setCell ⟨g, 5, none⟩ (.int .i64 0)) := u2.trans (((Upd.refl (· = g) w2).set1 3 _ |>.trans ((Upd.refl (· = g) _).set1 5 _)).mono (fun k _ e => by have e : k = g := e; rw [e]; exact unhide HG))
  have H4 := hide (And.intro h4 u4)
  clear h2 u2 h3 h4 u4 H2
  go_upto_region 3 with fail
  generalize (w2.setCell ⟨g, 3, none⟩ (.string ⟨#[]⟩)).setCell ⟨g, 5, none⟩ (.int .i64 0) = w4 at H4 ⊢
  clear c3 f3 c5 f5
  obtain ⟨h4, u4⟩ := unhide H4
  have c7 : w4.cell? ⟨g, 7, none⟩ = some (.bool l.broken) := blk_cell h4.at_ 7
  have f7 := blk_free h4.at_ 7
  have h5 : LkP (w4.setCell ⟨g, 7, none⟩ (.bool false)) g (Fr S w wB) { l with rest := ⟨#[]⟩, out := ⟨#[]⟩, ticks := 0, broken := false } B en lo SC SJ := h4.put rfl rfl rfl rfl
  have c8 : (w4.setCell ⟨g, 7, none⟩ (.bool false)).cell? ⟨g, 8, none⟩ = some (.bool l.waits) := blk_cell h5.at_ 8
  have f8 := blk_free h5.at_ 8
  have h6 : LkP ((w4.setCell ⟨g, 7, none⟩ (.bool false)).setCell ⟨g, 8, none⟩ (.bool true)) g (Fr S w wB) l.renewed B en lo SC SJ := h5.put rfl rfl rfl rfl
  have u6 : Upd S w ((w4.setCell ⟨g, 7, none⟩ (.bool false)).setCell ⟨g, 8, none⟩ (.bool true)) := u4.trans (((Upd.refl (· = g) w4).set1 7 _ |>.trans ((Upd.refl (· = g) _).set1 8 _)).mono (fun k _ e => by have e : k = g := e; rw [e]; exact unhide HG))
  have H6 := hide (And.intro h6 u6)
  clear h4 u4 h5 h6 u6 H4
  go_upto_region 4 with fail
  generalize (w4.setCell ⟨g, 7, none⟩ (.bool false)).setCell ⟨g, 8, none⟩ (.bool true) = w6 at H6 ⊢
  clear c7 f7 c8 f8
  go_wp2_with fail
  go_ret
  obtain ⟨h6, u6⟩ := unhide H6
  have hz := h6.lt
  exact ⟨rfl, ⟨B, h6.wider (fun k hk => hk.elim .inl (fun e => .inr ⟨e.1, hz k (.inr e)⟩)) (fun k hk => hk.elim (fun e => hz k (.inl e)) (fun e => e.2))⟩, u6⟩
attribute [local go_sem ↓ high] ld_msg_fold st_msg_fold al_msg_fold bd_msg_fold bs_msg_fold
attribute [local go_sem] ld_msg st_msg al_msg rowN_drew bs_msg
set_option maxRecDepth 100000 in
set_option maxHeartbeats 200000 in
theorem lcut2_any (PL g : Nat) (S : Nat → Prop) (l : Lk) (sp en lo : Nat) (SC SJ : Nat → Prop) (w : World) (h : LkP w g S l sp en lo SC SJ) (hm : SayOk (againM l.c)) (hz : l.out.size ≤ 1099511627776) (hPL : w.cell? ⟨PL, 0, none⟩ = some (.pointer (some ⟨g, 0, none⟩))) :
    Calls Tryz.prog 71 #[.pointer (some ⟨PL, 0, none⟩)] w fun e w' => e = .returned (.int .i64 0) ∧ LkP w' g S { l with out := l.out ++ sayS (againM l.c) } sp en lo SC SJ ∧ Upd (· = g) w w' := by
  have c1 : w.cell? ⟨g, 1, none⟩ = some (.pointer (some ⟨en, 0, none⟩)) := blk_cell h.at_ 1
  have hag := fun W (n : New w W) => againS_any ((h.new n).chn)
  have hml : (againM l.c).hash.length = 32 := hm.put.ok.len
  have hs := fun w' (n' : New w w') B hB hr => send_any g B S l sp en lo SC SJ [againM l.c] w' (h.new n') (fun x hx => by rw [List.mem_singleton.1 hx]; exact hm) (by simp) hz hr hB
  have hgl := h.lt g h.inG
  generalize againM l.c = m at *
  have hmc := m.len hml
  have HS := hide hs
  have HGL := hide hgl
  clear h hs hz hm hgl
  go_enter Tryz.func71, Tryz.ntmps71
  go_upto_region 1 with fail
  have d0 : w.drew.cell? ⟨PL, 0, none⟩ = some (.pointer (some ⟨g, 0, none⟩)) := hPL
  have d1 : w.drew.cell? ⟨g, 1, none⟩ = some (.pointer (some ⟨en, 0, none⟩)) := c1
  refine wp_plan (fun w' => w'.cell? ⟨PL, 0, none⟩ = some (.pointer (some ⟨g, 0, none⟩))) [0] (.of [0, 1, 2, 3, 4, 5, 6, 7, 8]) (by kernel_rfl) (by kernel_rfl) d0 ?_
  simp only [Plan.of]
  go_wp2_with (with_reducible first | (first | refine' qw1 (ido ?_) ?_ | refine' qw2 (ido ?_) ?_ | refine' qw3 (ido ?_) ?_); rotate_left | refine' qw4 (ido ?_) | refine' qw5 (ido ?_) | rfl | apply qn)
  refine (hag w.drew ((Upd.refl (fun _ => False) w).drew)).mono ?_
  rintro e w2 ⟨rfl, n2⟩
  have n2 := n2.ofDrew
  have d2 : w2.cell? ⟨PL, 0, none⟩ = some (.pointer (some ⟨g, 0, none⟩)) := n2.cell d0 (fun h => h)
  have N2 := hide n2
  clear n2 hag d1 c1 hPL d0
  go_wp2_with (first | (with_reducible first | (first | refine' qw1 (ido ?_) ?_ | refine' qw2 (ido ?_) ?_ | refine' qw3 (ido ?_) ?_); rotate_left | refine' qw4 (ido ?_) | refine' qw5 (ido ?_) | rfl | apply qn) | refine ⟨d2, ?_⟩)
  have b3 := ms_alloc w2 m hml
  have n3 : New w2 (w2.alloc (.cells m.cells.toArray 101)) := (Upd.refl _ _).alloc _
  generalize w2.alloc (.cells m.cells.toArray 101) = w3 at b3 n3 ⊢
  have hBg : w2.heap.size ≠ g := by have := unhide HGL; have := (unhide N2).size; omega
  generalize w2.heap.size = B at b3 hBg ⊢
  have d3 := n3.cell d2 (fun h => h)
  have hsend := unhide HS w3 ((unhide N2).trans n3) B hBg (fun i x hx => by
    cases i with
    | zero =>
      obtain rfl : m = x := by simpa using hx
      exact b3.row
    | succ i => simp at hx)
  have N3 := hide ((unhide N2).trans n3)
  clear HS b3 n3 N2 HGL hBg d2 hmc hml
  refine ⟨d3, ?_⟩
  go_wp2_with (with_reducible first | (first | refine' qw1 (ido ?_) ?_ | refine' qw2 (ido ?_) ?_ | refine' qw3 (ido ?_) ?_); rotate_left | refine' qw4 (ido ?_) | refine' qw5 (ido ?_) | rfl | apply qn)
  refine hsend.mono ?_
  rintro e w4 ⟨rfl, h4, u4⟩
  have H4 := hide (And.intro h4 (((unhide N3).mono (fun _ _ h => h.elim)).trans u4))
  clear hsend h4 u4 d3
  go_wp2_with (with_reducible first | (first | refine' qw1 (ido ?_) ?_ | refine' qw2 (ido ?_) ?_ | refine' qw3 (ido ?_) ?_); rotate_left | refine' qw4 (ido ?_) | refine' qw5 (ido ?_) | rfl | apply qn)
  go_ret
  exact ⟨rfl, (unhide H4).1, (unhide H4).2⟩
end Go.Proofs.YtfmkdoachjgjbaaGreatDoor
namespace Go.Proofs.YtfmkdoachjgjbaaGreatDoor
open Go.RowKit

structure CSt (W : World) (g : Nat) (S : Nat → Prop) (en lo : Nat) (L : Lk) (a : World) : Prop where
  upd : Upd S W a
  lk : ∃ sp SC SJ, LkP a g (Fr S W a) L sp en lo SC SJ
def cutF (i : Nat) : Nat := if i = 0 then 67 else if i = 1 then 112 else if i = 2 then 70 else 71
def cutFs (g : Nat) (i : Nat) : Array Value := if i = 2 then #[.pointer (some ⟨g, 0, none⟩)] else #[]
def cutCaps (PL P0 P1 : Nat) (i : Nat) : Array Value :=
  if i = 1 then #[.pointer (some ⟨P0, 0, none⟩), .pointer (some ⟨P1, 0, none⟩)] else if i = 2 then #[] else #[.pointer (some ⟨PL, 0, none⟩)]
def Lk.cut (l : Lk) (rec : ByteArray) : Lk := { ({ l with c := l.c.cut, j := l.j.app rec } : Lk).renewed with out := sayS (againM l.c.cut) }
def cutC (W : World) (g : Nat) (S : Nat → Prop) (en lo : Nat) (l : Lk) (rec : ByteArray) (i : Nat) (a : World) : Prop :=
  if i = 0 then New W a else CSt W g S en lo (if i = 1 then { l with c := l.c.cut } else if i = 2 then { l with c := l.c.cut, j := l.j.app rec } else if i = 3 then ({ l with c := l.c.cut, j := l.j.app rec } : Lk).renewed else l.cut rec) a
theorem lcut_steps (g b PL P0 P1 B : Nat) (S : Nat → Prop) (l : Lk) (sp en lo : Nat) (SC SJ : Nat → Prop) (xs : List ByteArray) (W : World)
    (h : LkP W g S l sp en lo SC SJ) (hk : LkOk l) (hsay : SayOk (againM l.c.cut)) (hT : Tabs W) (hA : ApD S)
    (cL : W.cell? ⟨PL, 0, none⟩ = some (.pointer (some ⟨g, 0, none⟩)))
    (c0 : W.cell? ⟨P0, 0, none⟩ = some (.pointer (some ⟨g, 0, none⟩))) (c1 : W.cell? ⟨P1, 0, none⟩ = some (.slice (some ⟨B, 0, none⟩) xs.length xs.length)) (hx : ∀ j x, xs[j]? = some x → W.cell? ⟨B, j, none⟩ = some (.string x))
    (hn : xs.length ≤ 1000) (hsz : (joinS xs).size ≤ 1024) (hrow : FnRow2 W b 4 cutF (cutFs g) (cutCaps PL P0 P1))
    (hS : ¬ S PL ∧ ¬ S P0 ∧ ¬ S P1 ∧ ¬ S b ∧ ¬ S B) (hBl : B < W.heap.size) (hbl : b < W.heap.size) :
    Calls Tryz.prog 66 #[.pointer (some ⟨g, 0, none⟩), .slice (some ⟨b, 0, none⟩) 4 4] W fun e w' => Upd (fun k => S k ∨ W.heap.size ≤ k) W w' ∧ DoEnd 4 (cutC W g S en lo l (joinS xs)) (fun _ _ => False) e w' := by
  have hSl := h.lt
  have hFr : ∀ {a : World} {k : Nat}, k < W.heap.size → ¬ S k → ¬ Fr S W a k := fun hk hs e => e.elim hs (fun e => by omega)
  have hzT : ∀ {a : World}, Upd S W a → Tabs a := fun u => hT.upd u (fun e => hA.c e) (fun e => hA.d e)
  have hwd : ∀ {a a' : World} {L : Lk} {sp' : Nat} {SC' SJ' : Nat → Prop}, Upd S W a → a.heap.size ≤ a'.heap.size → LkP a' g (Fr (Fr S W a) a a') L sp' en lo SC' SJ' → LkP a' g (Fr S W a') L sp' en lo SC' SJ' := by
    intro a a' L sp' SC' SJ' u hz hl
    have hz0 := u.size
    exact hl.wider (fun k hk => hk.elim (fun e => e.elim .inl (fun e => .inr ⟨e.1, by omega⟩)) (fun e => .inr ⟨by omega, e.2⟩)) (fun k hk => hk.elim (fun e => by have := hSl k e; omega) (fun e => e.2))
  refine do_any g b 4 cutF (cutFs g) (cutCaps PL P0 P1) (fun k => S k ∨ W.heap.size ≤ k) _ _ W (by decide) (hk.dead ▸ blk_cell h.at_ 6) hrow ?_ ?_ ?_
  · rintro (e | e)
    · exact hS.2.2.2.1 e
    · omega
  · intro i hi a hC
    rcases (by omega : i = 0 ∨ i = 1 ∨ i = 2 ∨ i = 3) with rfl | rfl | rfl | rfl
    · refine ⟨enters_of Tryz.func67 (by kernel_rfl) rfl, ?_⟩
      have nA : New W a := hC
      have hz := nA.size
      refine (lcut1_any PL g S l sp en lo SC SJ a (h.new nA) (nA.cell cL (fun h => h))).mono ?_
      rintro e a' ⟨rfl, h1, u1⟩
      refine ⟨u1.mono (fun k _ e => .inl e), .inl ⟨rfl, ?_⟩⟩
      show CSt W g S en lo { l with c := l.c.cut } a'
      have hz1 := u1.size
      exact ⟨(nA.mono (fun _ _ h => h.elim)).trans u1, _, _, _, h1.wider (fun k hk => hk.elim .inl (fun e => .inr ⟨by omega, e.2⟩)) (fun k hk => hk.elim (fun e => by have := hSl k e; omega) (fun e => e.2))⟩
    · refine ⟨enters_of Tryz.func112 (by kernel_rfl) rfl, ?_⟩
      obtain ⟨u, sp', SC', SJ', hl⟩ : CSt W g S en lo { l with c := l.c.cut } a := hC
      have z0 := u.size
      have hP0l := World.block_lt_of_cell? W _ c0
      refine (note1_any P0 P1 B g (Fr S W a) { l with c := l.c.cut } sp' en lo SC' SJ' xs a hl hk.dead hk.fused hk.off ⟨hk.many.1, by have := hk.many.2; show l.j.many < _; omega⟩ (by have := hk.len; show l.j.bs.size ≤ _; omega) (hzT u) hn hsz
        (u.cell c0 hS.2.1) (u.cell c1 hS.2.2.1) (fun j x e => u.cell (hx j x e) hS.2.2.2.2) (by omega) (hFr hP0l hS.2.1)).mono ?_
      rintro e a' ⟨rfl, ⟨SJ2, h2⟩, u2⟩
      have z2 := u2.size
      refine ⟨u2.mono (fun k hk e => e.elim .inl (fun e => .inr e.1)), .inl ⟨rfl, ?_⟩⟩
      show CSt W g S en lo { l with c := l.c.cut, j := l.j.app (joinS xs) } a'
      exact ⟨u.then u2 (fun k hk e => e.elim id (fun e => by omega)), _, _, _, hwd u z2 h2⟩
    · refine ⟨enters_of Tryz.func70 (by kernel_rfl) rfl, ?_⟩
      obtain ⟨u, sp', SC', SJ', hl⟩ : CSt W g S en lo { l with c := l.c.cut, j := l.j.app (joinS xs) } a := hC
      refine (renew_any g (Fr S W a) _ sp' en lo SC' SJ' a hl).mono ?_
      rintro e a' ⟨rfl, ⟨B', h2⟩, u2⟩
      have z0 := u.size
      have z2 := u2.size
      refine ⟨u2.mono (fun k hk e => e.elim .inl (fun e => .inr e.1)), .inl ⟨rfl, ?_⟩⟩
      show CSt W g S en lo ({ l with c := l.c.cut, j := l.j.app (joinS xs) } : Lk).renewed a'
      exact ⟨u.then u2 (fun k hk e => e.elim id (fun e => by omega)), _, _, _, hwd u z2 h2⟩
    · refine ⟨enters_of Tryz.func71 (by kernel_rfl) rfl, ?_⟩
      obtain ⟨u, sp', SC', SJ', hl⟩ : CSt W g S en lo ({ l with c := l.c.cut, j := l.j.app (joinS xs) } : Lk).renewed a := hC
      refine (lcut2_any PL g (Fr S W a) _ sp' en lo SC' SJ' a hl hsay (by show 0 ≤ _; omega) (u.cell cL hS.1)).mono ?_
      rintro e a' ⟨rfl, h2, u2⟩
      have z0 := u.size
      have z2 := u2.size
      have hgS := h.inG
      refine ⟨u2.mono (fun k hk e => .inl (by have e : k = g := e; rw [e]; exact hgS)), .inl ⟨rfl, ?_⟩⟩
      show CSt W g S en lo (l.cut (joinS xs)) a'
      have e0 : (⟨#[]⟩ : ByteArray) ++ sayS (againM l.c.cut) = sayS (againM l.c.cut) := ByteArray.empty_append
      have h3 : LkP a' g (Fr S W a) (l.cut (joinS xs)) sp' en lo SC' SJ' := by
        unfold Lk.cut
        rw [← e0]
        exact h2
      exact ⟨u.then u2 (fun k hk e => by have e : k = g := e; rw [e]; exact hgS), _, _, _, h3.wider (fun k hk => hk.elim .inl (fun e => .inr ⟨e.1, by omega⟩)) (fun k hk => hk.elim (fun e => by have := hSl k e; omega) (fun e => e.2))⟩
  · exact (Upd.refl _ _)

set_option maxRecDepth 100000 in
set_option maxHeartbeats 1000000 in
theorem lcut_any (g : Nat) (S : Nat → Prop) (l : Lk) (w : World) (h0 : LkS w g S l) (hk : LkOk l) (hsay : SayOk (againM l.c.cut)) (hT : Tabs w) (hA : ApD S) :
    Calls Tryz.prog 25 #[.pointer (some ⟨g, 0, none⟩)] w fun e w' => e = .returned (.int .i64 0) ∧ LkS w' g (Fr S w w') (l.cut (numS 7 1)) ∧ Upd S w w' := by
  have hmf : ∀ (fn : Fn) (first cap : Array Value) (w : World), (Instr.makeFunc fn first cap).run Tryz.prog w = .ok (.func fn first cap) w := fun _ _ _ _ => rfl
  obtain ⟨sp, en, lo, SC, SJ, h⟩ := h0
  have HX := hide (And.intro h (And.intro hk (And.intro hsay (And.intro hT hA))))
  have hSl := hide h.lt
  clear h hk hsay hT hA
  go_enter Tryz.func25, Tryz.ntmps25
  go_upto_region 1 with fail
  have b0 := blk_alloc w (.cells #[.pointer (some ⟨g, 0, none⟩)] 28)
  have n0 : New w (w.alloc (.cells #[.pointer (some ⟨g, 0, none⟩)] 28)) := (Upd.refl _ _).alloc _
  have z0 : (w.alloc (.cells #[.pointer (some ⟨g, 0, none⟩)] 28)).heap.size = w.heap.size + 1 := World.size_alloc _ _
  generalize w.alloc (.cells #[.pointer (some ⟨g, 0, none⟩)] 28) = w0 at b0 n0 z0 ⊢
  generalize hPL : w.heap.size = PL at b0 z0 ⊢
  have HPL := hide (And.intro hPL (And.intro n0 z0))
  have d5 : w0.drew.cell? ⟨PL, 0, none⟩ = some (.pointer (some ⟨g, 0, none⟩)) := blk_cell b0 0
  clear hPL b0 n0 z0
  refine wp_plan (fun w' => w'.cell? ⟨PL, 0, none⟩ = some (.pointer (some ⟨g, 0, none⟩))) [0, 2, 6] (.of [0, 1, 2, 3, 4, 5, 6, 7, 8, 9, 10, 11]) (by kernel_rfl) (by kernel_rfl) d5 ?_
  simp only [Plan.of]
  go_wp2_with (with_reducible first | (first | refine' qw1 (ido ?_) ?_ | refine' qw2 (ido ?_) ?_ | refine' qw3 (ido ?_) ?_); rotate_left | refine' qw4 (ido ?_) | refine' qw5 (ido ?_) | rfl | apply qn)
  refine (lnum_any 7 1 w0.drew (by decide) (by decide) (by decide)).mono ?_
  rintro e w6 ⟨rfl, n6⟩
  have n6 := n6.ofDrew
  have d6 : w6.cell? ⟨PL, 0, none⟩ = some (.pointer (some ⟨g, 0, none⟩)) := n6.cell d5 (fun h => h)
  have H6 := hide n6
  clear n6 d5
  go_wp2_with (first | (with_reducible first | (first | refine' qw1 (ido ?_) ?_ | refine' qw2 (ido ?_) ?_ | refine' qw3 (ido ?_) ?_); rotate_left | refine' qw4 (ido ?_) | refine' qw5 (ido ?_) | rfl | apply qn) | refine ⟨d6, ?_⟩)
  have b7 := blk_alloc w6 (.cells #[.string (numS 7 1)] 9)
  have n7 : New w6 (w6.alloc (.cells #[.string (numS 7 1)] 9)) := (Upd.refl _ _).alloc _
  have z7 : (w6.alloc (.cells #[.string (numS 7 1)] 9)).heap.size = w6.heap.size + 1 := World.size_alloc _ _
  generalize w6.alloc (.cells #[.string (numS 7 1)] 9) = w7 at b7 n7 z7 ⊢
  generalize hBe : w6.heap.size = B at b7 z7 ⊢
  have d7 := n7.cell d6 (fun h => h)
  have H7 := hide (And.intro b7 (And.intro n7 (And.intro z7 hBe)))
  clear b7 n7 z7 hBe d6
  refine ⟨d7, ?_⟩
  go_wp2_with (with_reducible first | (first | refine' qw1 (ido ?_) ?_ | refine' qw2 (ido ?_) ?_ | refine' qw3 (ido ?_) ?_); rotate_left | refine' qw4 (ido ?_) | refine' qw5 (ido ?_) | rfl | apply qn)
  refine (note_any g _ _ _ w7).mono ?_
  rintro e w8 ⟨P0, P1, rfl, n8, ge0, ge1, lt0, lt1, p0, p1⟩
  have d8 := n8.cell d7 (fun h => h)
  have H8 := hide (And.intro n8 (And.intro ge0 (And.intro ge1 (And.intro lt0 (And.intro lt1 (And.intro p0 p1))))))
  clear n8 ge0 ge1 lt0 lt1 p0 p1 d7
  go_wp2_with (first | (with_reducible first | (first | refine' qw1 (ido ?_) ?_ | refine' qw2 (ido ?_) ?_ | refine' qw3 (ido ?_) ?_); rotate_left | refine' qw4 (ido ?_) | refine' qw5 (ido ?_) | rfl | apply qn) | refine ⟨d8, ?_⟩)
  have b9 := blk_alloc w8 (.cells #[.func (.func 67) #[] #[.pointer (some ⟨PL, 0, none⟩)], .func (.func 112) #[] #[.pointer (some ⟨P0, 0, none⟩), .pointer (some ⟨P1, 0, none⟩)], .func (.func 70) #[.pointer (some ⟨g, 0, none⟩)] #[], .func (.func 71) #[] #[.pointer (some ⟨PL, 0, none⟩)]] 62)
  have n9 : New w8 (w8.alloc (.cells #[.func (.func 67) #[] #[.pointer (some ⟨PL, 0, none⟩)], .func (.func 112) #[] #[.pointer (some ⟨P0, 0, none⟩), .pointer (some ⟨P1, 0, none⟩)], .func (.func 70) #[.pointer (some ⟨g, 0, none⟩)] #[], .func (.func 71) #[] #[.pointer (some ⟨PL, 0, none⟩)]] 62)) := (Upd.refl _ _).alloc _
  generalize w8.alloc (.cells #[.func (.func 67) #[] #[.pointer (some ⟨PL, 0, none⟩)], .func (.func 112) #[] #[.pointer (some ⟨P0, 0, none⟩), .pointer (some ⟨P1, 0, none⟩)], .func (.func 70) #[.pointer (some ⟨g, 0, none⟩)] #[], .func (.func 71) #[] #[.pointer (some ⟨PL, 0, none⟩)]] 62) = W at b9 n9 ⊢
  have d9 := n9.cell d8 (fun h => h)
  refine ⟨d9, ?_⟩
  obtain ⟨h, hk, hsay, hT, hA⟩ := unhide HX
  obtain ⟨hPLe, n0, z0⟩ := unhide HPL
  obtain ⟨b7, n7, z7, hBe⟩ := unhide H7
  obtain ⟨n8, ge0, ge1, lt0, lt1, p0, p1⟩ := unhide H8
  have n89 := n8.trans n9
  have n79 := n7.trans n89
  have nn : New w W := n0.trans ((unhide H6).trans n79)
  have s6 := (unhide H6).size
  have s8 := n8.size
  have s0 := n0.size
  have hS : ∀ k, w.heap.size ≤ k → ¬ S k := fun k hk e => by have := unhide hSl k e; omega
  have hrow : FnRow2 W w8.heap.size 4 cutF (cutFs g) (cutCaps PL P0 P1) := by
    intro i hi
    rcases (by omega : i = 0 ∨ i = 1 ∨ i = 2 ∨ i = 3) with rfl | rfl | rfl | rfl
    · exact blk_cell b9 0
    · exact blk_cell b9 1
    · exact blk_cell b9 2
    · exact blk_cell b9 3
  have hxs : ∀ j x, [numS 7 1][j]? = some x → W.cell? ⟨B, j, none⟩ = some (.string x) := by
    intro j x e
    rw [blk_cell (n89.old b7 (fun h => h)) j]
    match j, e with
    | 0, e => cases e; rfl
  have hjs : (joinS [numS 7 1]).size ≤ 1024 := by rw [join1, numS_size]; decide
  have hcall := lcut_steps g w8.heap.size PL P0 P1 B S l sp en lo SC SJ [numS 7 1] W (h.new nn) hk hsay (hT.new nn) hA d9 (n9.cell p0 (fun h => h)) (n9.cell p1 (fun h => h)) hxs (by simp) hjs hrow
    ⟨hS _ (by omega), hS _ (by omega), hS _ (by omega), hS _ (by omega), hS _ (by omega)⟩ (by have := n89.size; omega) (by have := blk_lt b9; omega)
  rw [join1] at hcall
  have NN := hide nn
  have HC := hide hcall
  clear hcall hrow hxs hjs hS n89 n79 nn s6 s8 s0 h hk hsay hT hA hPLe n0 z0 b7 n7 z7 hBe n8 ge0 ge1 lt0 lt1 p0 p1 b9 n9 d8 d9 H6 H7 H8 HX HPL
  go_wp2_with (with_reducible first | (first | refine' qw1 (ido ?_) ?_ | refine' qw2 (ido ?_) ?_ | refine' qw3 (ido ?_) ?_); rotate_left | refine' qw4 (ido ?_) | refine' qw5 (ido ?_) | rfl | apply qn)
  refine (unhide HC).mono ?_
  rintro e w9 ⟨u9, (⟨rfl, hst⟩ | ⟨x, hx0, rfl, hf⟩)⟩
  · have HQ := hide hst
    clear u9 hst HC
    go_wp2_with (with_reducible first | (first | refine' qw1 (ido ?_) ?_ | refine' qw2 (ido ?_) ?_ | refine' qw3 (ido ?_) ?_); rotate_left | refine' qw4 (ido ?_) | refine' qw5 (ido ?_) | rfl | apply qn)
    go_ret
    obtain ⟨u, sp', SC', SJ', hl⟩ : CSt W g S en lo (l.cut (numS 7 1)) w9 := unhide HQ
    have z := (unhide NN).size
    have hlS := unhide hSl
    refine ⟨rfl, ⟨sp', en, lo, SC', SJ', hl.wider (fun k hk => hk.elim .inl (fun e => .inr ⟨by omega, e.2⟩)) (fun k hk => hk.elim (fun e => by have := hlS k e; have := u.size; omega) (fun e => e.2))⟩, ((unhide NN).mono (fun _ _ h => h.elim)).trans u⟩
  · exact hf.elim
end Go.Proofs.YtfmkdoachjgjbaaGreatDoor
