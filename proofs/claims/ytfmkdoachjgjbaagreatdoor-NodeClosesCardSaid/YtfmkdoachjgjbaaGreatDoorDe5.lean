/-
  wire.Decode: any bytes.
-/
import Derived.Test.YtfmkdoachjgjbaaGreatDoorMej
set_option linter.unusedVariables false
set_option linter.unusedSimpArgs false
namespace Go.Proofs.YtfmkdoachjgjbaaGreatDoor
open Go.RowKit

/-- Where the steps of Decode stand. -/
def decC (w0 : World) (A L G : Nat) (v0 : Value) (s : ByteArray) (i : Nat) (a : World) : Prop :=
  (i < 5 → Upd (fun k => k = A ∨ k = G ∨ k = L) w0 a) ∧
  (if i = 0 then MsB a A MsgV.zero ∧ Rd a G s ∧ a.heap[L]? = some (.cells #[v0] 226 (0, 0))
  else if i = 1 then s.size ≠ 0 ∧ MsB a A (kindMsg (bt s 0)) ∧ Rd a G (s.extract 1 s.size) ∧ a.heap[L]? = some (.cells #[v0] 226 (0, 0))
  else if i = 2 then s.size ≠ 0 ∧ MsB a A (kindMsg (bt s 0)) ∧ Rd a G (s.extract 1 s.size) ∧ ∃ xs v base, w0.heap.size ≤ base ∧ fieldsOf (bt s 0) = some xs ∧ a.cell? ⟨L, 0, none⟩ = some v ∧ FldsO base a v xs
  else ∃ xs m r, s.size ≠ 0 ∧ fieldsOf (bt s 0) = some xs ∧ getL xs (s.extract 1 s.size) (kindMsg (bt s 0)) = some (m, r) ∧ MsB a A m ∧ Rd a G r ∧ (4 ≤ i → r.size = 0) ∧ (5 ≤ i → mayMsg m = true))
def decF (i : Nat) : Nat := if i = 0 then 133 else if i = 1 then 136 else if i = 2 then 138 else if i = 3 then 140 else 142
def decCaps (RB A L : Nat) (i : Nat) : Array Value :=
  if i = 0 then #[.pointer (some ⟨RB, 0, none⟩), .pointer (some ⟨A, 0, none⟩)] else if i = 1 then #[.pointer (some ⟨A, 0, none⟩), .pointer (some ⟨L, 0, none⟩)] else if i = 2 then #[.pointer (some ⟨RB, 0, none⟩), .pointer (some ⟨L, 0, none⟩), .pointer (some ⟨A, 0, none⟩)] else if i = 3 then #[.pointer (some ⟨RB, 0, none⟩)] else #[.pointer (some ⟨A, 0, none⟩)]
theorem dec_steps (RB A L G b : Nat) (s : ByteArray) (v0 : Value) (w : World) (hR : AtR w RB G) (hA : MsB w A MsgV.zero) (hG : Rd w G s) (hL : w.heap[L]? = some (.cells #[v0] 226 (0, 0))) (hrow : FnRow w b 5 decF (decCaps RB A L)) (hAG : A ≠ G) (hAL : A ≠ L) (hGL : G ≠ L) (hRB : RB ≠ A ∧ RB ≠ G ∧ RB ≠ L) (hb : A < b ∧ G < b ∧ L < b) (hbl : b < w.heap.size) :
    Calls Tryz.prog 132 #[.slice (some ⟨b, 0, none⟩) 5 5] w fun e w' => Upd (fun k => k = A ∨ k = G ∨ k = L) w w' ∧ ((e = .returned (.int .i64 0) ∧ decC w A L G v0 s 5 w') ∨ ∃ er : Int, (er != 0) = true ∧ e = .returned (.int .i64 er) ∧ decL s = (MsgV.zero, er)) := by
  have hz := hA.lt
  have hkb := bt_bd s 0
  have hst : ∀ w1 w2 : World, decC w A L G v0 s 5 w1 → Upd (fun k => b ≤ k) w1 w2 → decC w A L G v0 s 5 w2 := by
    rintro w1 w2 ⟨-, xs, m, r, h0, h1, h2, hM, hr, h4, h5⟩ u2
    exact ⟨fun h => absurd h (by decide), xs, m, r, h0, h1, h2, hM.upd u2 (by omega), hr.upd u2 (by omega), h4, h5⟩
  refine try_gen b 5 b decF (decCaps RB A L) (fun k => k = A ∨ k = G ∨ k = L) (decC w A L G v0 s) (fun er _ => decL s = (MsgV.zero, er)) w (by decide) hrow (fun k hk => by omega) (Nat.le_refl _) (by omega) hbl ?_ hst (fun _ _ _ h _ => h) ?_
  · intro w' n
    exact ⟨fun _ => n.mono (fun _ _ h => h.elim), hA.new n, hG.new n, n.old hL (fun h => h)⟩
  · intro i hi a hC
    obtain ⟨u0, hC⟩ := hC
    have u := u0 hi
    clear u0
    have hRa : AtR a RB G := u.cell hR (fun e => e.elim hRB.1 (fun e => e.elim hRB.2.1 hRB.2.2))
    have up : ∀ {a' : World}, Upd (fun k => k = A ∨ k = G) a a' → Upd (fun k => k = A ∨ k = G ∨ k = L) a a' := fun h => h.mono (fun k _ e => e.elim .inl (fun e => .inr (.inl e)))
    rcases (by omega : i = 0 ∨ i = 1 ∨ i = 2 ∨ i = 3 ∨ i = 4) with rfl | rfl | rfl | rfl | rfl
    · refine ⟨enters_of Tryz.func133 (by kernel_rfl) rfl, ?_⟩
      obtain ⟨hM, hr, hLa⟩ : MsB a A MsgV.zero ∧ Rd a G s ∧ a.heap[L]? = some (.cells #[v0] 226 (0, 0)) := hC
      refine (dec1_any RB A G s a hRa hM hr hAG).mono ?_
      rintro e a' ⟨u', (⟨h0, rfl, h1, h2⟩ | ⟨h0, he⟩)⟩
      · exact ⟨up u', .inl ⟨rfl, fun _ => u.trans (up u'), h0, h1, h2, u'.old hLa (fun e => e.elim (fun e => hAL e.symm) (fun e => hGL e.symm))⟩⟩
      · exact ⟨up u', .inr ⟨10, by decide, he, dec_empty h0⟩⟩
    · refine ⟨enters_of Tryz.func136 (by kernel_rfl) rfl, ?_⟩
      obtain ⟨h0, hM, hr, hLa⟩ : s.size ≠ 0 ∧ MsB a A (kindMsg (bt s 0)) ∧ Rd a G (s.extract 1 s.size) ∧ a.heap[L]? = some (.cells #[v0] 226 (0, 0)) := hC
      refine (dec2_any A L (bt s 0) v0 a hM hLa).mono ?_
      rintro e a' ⟨u', (⟨xs, v, h1, rfl, h2, h3⟩ | ⟨h1, he⟩)⟩
      · have uu : Upd (fun k => k = A ∨ k = G ∨ k = L) a a' := u'.mono (fun k _ e => .inr (.inr e))
        exact ⟨uu, .inl ⟨rfl, fun _ => u.trans uu, h0, hM.upd u' hAL, hr.upd u' hGL, xs, v, _, u.size, h1, h2, h3⟩⟩
      · exact ⟨u'.mono (fun k _ e => .inr (.inr e)), .inr ⟨70, by decide, he, dec_kind h0 h1⟩⟩
    · refine ⟨enters_of Tryz.func138 (by kernel_rfl) rfl, ?_⟩
      obtain ⟨h0, hM, hr, xs, v, base, hbs, h1, h2, h3⟩ : s.size ≠ 0 ∧ MsB a A (kindMsg (bt s 0)) ∧ Rd a G (s.extract 1 s.size) ∧ ∃ xs v base, w.heap.size ≤ base ∧ fieldsOf (bt s 0) = some xs ∧ a.cell? ⟨L, 0, none⟩ = some v ∧ FldsO base a v xs := hC
      refine (dec3_any base RB L A G v xs _ _ a hRa h2 h3 hM hr hAG (by omega) (by omega) (fieldsOf_len h1)).mono ?_
      rintro e a' ⟨u', (⟨m, r, h4, rfl, h5, h6⟩ | ⟨h4, he⟩)⟩
      · exact ⟨up u', .inl ⟨rfl, fun _ => u.trans (up u'), xs, m, r, h0, h1, h4, h5, h6, fun h => absurd h (by decide), fun h => absurd h (by decide)⟩⟩
      · exact ⟨up u', .inr ⟨10, by decide, he, dec_short h0 h1 h4⟩⟩
    · refine ⟨enters_of Tryz.func140 (by kernel_rfl) rfl, ?_⟩
      obtain ⟨xs, m, r, h0, h1, h2, hM, hr, -, -⟩ : ∃ xs m r, s.size ≠ 0 ∧ fieldsOf (bt s 0) = some xs ∧ getL xs (s.extract 1 s.size) (kindMsg (bt s 0)) = some (m, r) ∧ MsB a A m ∧ Rd a G r ∧ (4 ≤ 3 → r.size = 0) ∧ (5 ≤ 3 → mayMsg m = true) := hC
      refine (dec4_any RB G r a hRa hr).mono ?_
      rintro e a' ⟨n, (⟨h3, rfl⟩ | ⟨h3, he⟩)⟩
      · exact ⟨n.mono (fun _ _ h => h.elim), .inl ⟨rfl, fun _ => u.trans (n.mono (fun _ _ h => h.elim)), xs, m, r, h0, h1, h2, hM.new n, hr.new n, fun _ => h3, fun h => absurd h (by decide)⟩⟩
      · exact ⟨n.mono (fun _ _ h => h.elim), .inr ⟨11, by decide, he, dec_more h0 h1 h2 h3⟩⟩
    · refine ⟨enters_of Tryz.func142 (by kernel_rfl) rfl, ?_⟩
      obtain ⟨xs, m, r, h0, h1, h2, hM, hr, h3, -⟩ : ∃ xs m r, s.size ≠ 0 ∧ fieldsOf (bt s 0) = some xs ∧ getL xs (s.extract 1 s.size) (kindMsg (bt s 0)) = some (m, r) ∧ MsB a A m ∧ Rd a G r ∧ (4 ≤ 4 → r.size = 0) ∧ (5 ≤ 4 → mayMsg m = true) := hC
      have hok := (getL_ok xs _ _ (kindMsg_ok ⟨by omega, by omega⟩) h2).1
      refine (dec5_any A m a hM hok).mono ?_
      rintro e a' ⟨n, (⟨h4, rfl⟩ | ⟨h4, he⟩)⟩
      · exact ⟨n.mono (fun _ _ h => h.elim), .inl ⟨rfl, fun h => absurd h (by decide), xs, m, r, h0, h1, h2, hM.new n, hr.new n, fun _ => h3 (by decide), fun _ => h4⟩⟩
      · exact ⟨n.mono (fun _ _ h => h.elim), .inr ⟨1, by decide, he, dec_not h0 h1 h2 (h3 (by decide)) h4⟩⟩
attribute [local go_sem ↓ high] ld_msg_fold st_msg_fold al_msg_fold bd_msg_fold
attribute [local go_sem] ld_msg st_msg al_msg rowN_drew bd_msg_zero
set_option maxRecDepth 100000 in
set_option maxHeartbeats 2000000 in
theorem decode_any (s : ByteArray) (w : World) : Calls Tryz.prog 105 #[.string s] w (Makes (.tuple #[.agg (decL s).1.cells.toArray, .int .i64 (decL s).2]) w) := by
  have hmf : ∀ (fn : Fn) (first cap : Array Value) (w : World), (Instr.makeFunc fn first cap).run Tryz.prog w = .ok (.func fn first cap) w := fun _ _ _ _ => rfl
  go_enter Tryz.func105, Tryz.ntmps105
  go_upto_region 3 with fail
  obtain ⟨w3, hw3⟩ : ∃ w3, w3 = ((w.alloc (.cells MsgV.zero.cells.toArray 101)).alloc (.cells MsgV.zero.cells.toArray 101)).alloc (.cells #[.slice none 0 0] 226) := ⟨_, rfl⟩
  have n3 : New w w3 := by rw [hw3]; exact (((Upd.refl _ _).alloc _).alloc _).alloc _
  have z3 : w3.heap.size = w.heap.size + 3 := by rw [hw3]; simp only [World.size_alloc]
  have hL3 : w3.heap[w.heap.size + 1 + 1]? = some (.cells #[.slice none 0 0] 226 (0, 0)) := by
    rw [hw3]
    have := blk_alloc ((w.alloc (.cells MsgV.zero.cells.toArray 101)).alloc (.cells MsgV.zero.cells.toArray 101)) (.cells #[.slice none 0 0] 226)
    rwa [World.size_alloc, World.size_alloc] at this
  have hA3 : MsB w3 (w.heap.size + 1) MsgV.zero := by
    rw [hw3]
    have := blk_alloc (w.alloc (.cells MsgV.zero.cells.toArray 101)) (.cells MsgV.zero.cells.toArray 101)
    rw [World.size_alloc] at this
    exact ⟨blk_alloc_old this _, z32i_len⟩
  have hM3 : MsB w3 w.heap.size MsgV.zero := by
    rw [hw3]
    exact ⟨blk_alloc_old (blk_alloc_old (blk_alloc _ _) _) _, z32i_len⟩
  rw [← hw3]
  clear hw3
  generalize hZ : w.heap.size = Z at *
  have HZ := hide (And.intro hZ z3)
  have H3 := hide (And.intro n3 (And.intro hL3 (And.intro hA3 hM3)))
  clear hZ z3 n3 hL3 hA3 hM3
  go_wp2_with fail
  refine (newRd_any s w3).mono ?_
  rintro e w4 ⟨rfl, hG, n4, z4⟩
  have H4 := hide (And.intro hG (And.intro n4 z4))
  clear hG n4 z4
  go_upto_region 4 with fail
  have b5 := blk_alloc w4 (.cells #[.pointer (some ⟨w3.heap.size, 0, none⟩)] 227)
  have n5 : New w4 (w4.alloc (.cells #[.pointer (some ⟨w3.heap.size, 0, none⟩)] 227)) := (Upd.refl _ _).alloc _
  have z5 : (w4.alloc (.cells #[.pointer (some ⟨w3.heap.size, 0, none⟩)] 227)).heap.size = w4.heap.size + 1 := World.size_alloc _ _
  generalize w4.alloc (.cells #[.pointer (some ⟨w3.heap.size, 0, none⟩)] 227) = w5 at b5 n5 z5 ⊢
  obtain ⟨hz, z3⟩ := unhide HZ
  obtain ⟨n3, hL3, hA3, hM3⟩ := unhide H3
  obtain ⟨hG, n4, z4⟩ := unhide H4
  have e4 : w4.heap.size = Z + 1 + 1 + 1 + 1 := by omega
  have e3 : w3.heap.size = Z + 1 + 1 + 1 := by omega
  have e5 : w5.heap.size = Z + 5 := by omega
  rw [e4] at b5 ⊢
  rw [e3] at b5 hG
  have b6 := blk_alloc w5 (.cells #[.func (.func 133) #[] #[.pointer (some ⟨Z + 1 + 1 + 1 + 1, 0, none⟩), .pointer (some ⟨Z + 1, 0, none⟩)], .func (.func 136) #[] #[.pointer (some ⟨Z + 1, 0, none⟩), .pointer (some ⟨Z + 1 + 1, 0, none⟩)], .func (.func 138) #[] #[.pointer (some ⟨Z + 1 + 1 + 1 + 1, 0, none⟩), .pointer (some ⟨Z + 1 + 1, 0, none⟩), .pointer (some ⟨Z + 1, 0, none⟩)], .func (.func 140) #[] #[.pointer (some ⟨Z + 1 + 1 + 1 + 1, 0, none⟩)], .func (.func 142) #[] #[.pointer (some ⟨Z + 1, 0, none⟩)]] 1)
  have n6 : New w5 (w5.alloc (.cells #[.func (.func 133) #[] #[.pointer (some ⟨Z + 1 + 1 + 1 + 1, 0, none⟩), .pointer (some ⟨Z + 1, 0, none⟩)], .func (.func 136) #[] #[.pointer (some ⟨Z + 1, 0, none⟩), .pointer (some ⟨Z + 1 + 1, 0, none⟩)], .func (.func 138) #[] #[.pointer (some ⟨Z + 1 + 1 + 1 + 1, 0, none⟩), .pointer (some ⟨Z + 1 + 1, 0, none⟩), .pointer (some ⟨Z + 1, 0, none⟩)], .func (.func 140) #[] #[.pointer (some ⟨Z + 1 + 1 + 1 + 1, 0, none⟩)], .func (.func 142) #[] #[.pointer (some ⟨Z + 1, 0, none⟩)]] 1)) := (Upd.refl _ _).alloc _
  have z6 : (w5.alloc (.cells #[.func (.func 133) #[] #[.pointer (some ⟨Z + 1 + 1 + 1 + 1, 0, none⟩), .pointer (some ⟨Z + 1, 0, none⟩)], .func (.func 136) #[] #[.pointer (some ⟨Z + 1, 0, none⟩), .pointer (some ⟨Z + 1 + 1, 0, none⟩)], .func (.func 138) #[] #[.pointer (some ⟨Z + 1 + 1 + 1 + 1, 0, none⟩), .pointer (some ⟨Z + 1 + 1, 0, none⟩), .pointer (some ⟨Z + 1, 0, none⟩)], .func (.func 140) #[] #[.pointer (some ⟨Z + 1 + 1 + 1 + 1, 0, none⟩)], .func (.func 142) #[] #[.pointer (some ⟨Z + 1, 0, none⟩)]] 1)).heap.size = w5.heap.size + 1 := World.size_alloc _ _
  have n46 := n5.trans n6
  have n36 := n4.trans n46
  have hrow : FnRow (w5.alloc (.cells #[.func (.func 133) #[] #[.pointer (some ⟨Z + 1 + 1 + 1 + 1, 0, none⟩), .pointer (some ⟨Z + 1, 0, none⟩)], .func (.func 136) #[] #[.pointer (some ⟨Z + 1, 0, none⟩), .pointer (some ⟨Z + 1 + 1, 0, none⟩)], .func (.func 138) #[] #[.pointer (some ⟨Z + 1 + 1 + 1 + 1, 0, none⟩), .pointer (some ⟨Z + 1 + 1, 0, none⟩), .pointer (some ⟨Z + 1, 0, none⟩)], .func (.func 140) #[] #[.pointer (some ⟨Z + 1 + 1 + 1 + 1, 0, none⟩)], .func (.func 142) #[] #[.pointer (some ⟨Z + 1, 0, none⟩)]] 1)) w5.heap.size 5 decF (decCaps (Z + 1 + 1 + 1 + 1) (Z + 1) (Z + 1 + 1)) := by
    intro i hi
    rcases (by omega : i = 0 ∨ i = 1 ∨ i = 2 ∨ i = 3 ∨ i = 4) with rfl | rfl | rfl | rfl | rfl
    · exact blk_cell b6 0
    · exact blk_cell b6 1
    · exact blk_cell b6 2
    · exact blk_cell b6 3
    · exact blk_cell b6 4
  have hcall := dec_steps (Z + 1 + 1 + 1 + 1) (Z + 1) (Z + 1 + 1) (Z + 1 + 1 + 1) w5.heap.size s (.slice none 0 0) (w5.alloc (.cells #[.func (.func 133) #[] #[.pointer (some ⟨Z + 1 + 1 + 1 + 1, 0, none⟩), .pointer (some ⟨Z + 1, 0, none⟩)], .func (.func 136) #[] #[.pointer (some ⟨Z + 1, 0, none⟩), .pointer (some ⟨Z + 1 + 1, 0, none⟩)], .func (.func 138) #[] #[.pointer (some ⟨Z + 1 + 1 + 1 + 1, 0, none⟩), .pointer (some ⟨Z + 1 + 1, 0, none⟩), .pointer (some ⟨Z + 1, 0, none⟩)], .func (.func 140) #[] #[.pointer (some ⟨Z + 1 + 1 + 1 + 1, 0, none⟩)], .func (.func 142) #[] #[.pointer (some ⟨Z + 1, 0, none⟩)]] 1)) (n6.cell (blk_cell b5 0) (fun h => h)) (hA3.new n36) (hG.new n46) (n36.old hL3 (fun h => h)) hrow (by omega) (by omega) (by omega) ⟨by omega, by omega, by omega⟩ ⟨by omega, by omega, by omega⟩ (by omega)
  have HM := hide (And.intro (hM3.new n36) (n3.trans n36))
  have HE := hide (And.intro hz (And.intro e3 (And.intro e4 (And.intro e5 (And.intro z6 ((unhide HM).2.size))))))
  have hcall := hide hcall
  clear b5 n5 z5 hL3 hA3 hM3 hG n4 n3 b6 n6 n46 n36 hrow z4 hz z3 e3 e4 e5 z6
  go_wp2_with fail
  refine (unhide hcall).mono ?_
  obtain ⟨hZw, e3, e4, e5, z6, zM⟩ := unhide HE
  rintro e w7 ⟨u7, (⟨rfl, hC⟩ | ⟨er, her, rfl, hd⟩)⟩
  · obtain ⟨-, xs, m, r, h0, h1, h2, hM, -, h3, h4⟩ := hC
    have hd := dec_may h0 h1 h2 (h3 (by decide)) (h4 (by decide))
    have hZ7 := (unhide HM).1.upd u7 (by omega)
    have N7 : New w w7 := (unhide HM).2.then u7 (fun k hk e => by omega)
    have rA := hM.row
    have hml := hM.len
    have st := hZ7.stOk hml
    have hZ8 := hZ7.put hml
    have u8 : Upd (· = Z) w7 (w7.setCells Z 0 m.cells) := upd_sets _
    have HX := hide (And.intro hZ8 (N7.then u8 (fun k hk e => by omega)))
    have HD := hide hd
    clear hcall hd h0 h1 h2 hM h3 h4 hZ7 N7 hZ8 u8 u7 HM H3 H4 HZ hZw e3 e4 e5 z6 zM
    go_wp2_with fail
    obtain ⟨hZ8, N8⟩ := unhide HX
    refine bodyPost_ret (results_row_tmp' rfl _ _ Z _ _ _ _ rfl hZ8.at_ Tryz.underlying101 rfl (by rw [List.size_toArray, MsgV.len _ hml]; exact Tryz.infoMsg)) rfl ?_
    exact ⟨by rw [unhide HD]; rfl, N8⟩
  · have hZ7 := (unhide HM).1.upd u7 (by omega)
    have N7 : New w w7 := (unhide HM).2.then u7 (fun k hk e => by omega)
    have hml : MsgV.zero.hash.length = 32 := z32i_len
    have st := hZ7.stOk hml
    have hZ8 := hZ7.put hml
    have u8 : Upd (· = Z) w7 (w7.setCells Z 0 MsgV.zero.cells) := upd_sets _
    have HX := hide (And.intro hZ8 (N7.then u8 (fun k hk e => by omega)))
    have HD := hide hd
    clear hcall hd hZ7 N7 hZ8 u8 u7 HM H3 H4 HZ hZw e3 e4 e5 z6 zM
    go_wp2_with fail
    obtain ⟨hZ8, N8⟩ := unhide HX
    refine bodyPost_ret (results_row_tmp' rfl _ _ Z _ _ _ _ rfl hZ8.at_ Tryz.underlying101 rfl (by rw [List.size_toArray, MsgV.len _ hml]; exact Tryz.infoMsg)) rfl ?_
    exact ⟨by rw [unhide HD]; rfl, N8⟩
end Go.Proofs.YtfmkdoachjgjbaaGreatDoor
