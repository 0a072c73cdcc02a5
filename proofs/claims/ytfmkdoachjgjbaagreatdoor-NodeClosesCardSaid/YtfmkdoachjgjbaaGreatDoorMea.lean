/-
  A link hears the bytes of one frame.
-/
import Derived.Test.YtfmkdoachjgjbaaGreatDoorLh2
import Derived.Test.YtfmkdoachjgjbaaGreatDoorLk7
import Derived.Test.YtfmkdoachjgjbaaGreatDoorMcc
set_option linter.unusedVariables false
set_option linter.unusedSimpArgs false
namespace Go.Proofs.YtfmkdoachjgjbaaGreatDoor
open Go.RowKit

section
variable {w w' : World} {g : Nat} {S T : Nat → Prop} {l : Lk} {sp en lo : Nat} {SC SJ : Nat → Prop}
/-- The splitter's bytes set. -/
theorem LkP.split (h : LkP w g S l sp en lo SC SJ) (u : Upd (fun k => k = sp) w w') {r : ByteArray} (hs : Spl w' sp r) : LkP w' g S { l with rest := r } sp en lo SC SJ :=
  ⟨u.old h.at_ h.ne, hs, h.chn.upd u (fun k hk e => h.sC (e ▸ hk)), h.jou.upd u (fun k hk e => h.sJ (e ▸ hk)), h.inG, h.inS, h.inC, h.inJ, h.gC, h.gJ, h.sC, h.sJ, h.cJ, fun k hk => Nat.lt_of_lt_of_le (h.lt k hk) u.size⟩
end
set_option maxRecDepth 100000 in
set_option maxHeartbeats 2000000 in
/-- The bytes of just one frame, whose text is heard without an error. -/
theorem lbytes_one (g : Nat) (S : Nat → Prop) (l l' : Lk) (s t : ByteArray) (w : World) (h : LkS w g S l) (hdd : l.dead = false) (hb : l.broken = false) (hr : l.rest = ⟨#[]⟩) (hsz : s.size ≤ 100000) (hR : Ready s) (ht : (s.extract 0 (2 + hd s).toNat).extract 2 (2 + hd s).toNat = t) (hz : (s.extract (2 + hd s).toNat s.size) = ⟨#[]⟩) (hl' : l'.rest = ⟨#[]⟩)
    (hH : ∀ W sp en lo SC SJ, Upd S w W → LkP W g S l sp en lo SC SJ → Calls Tryz.prog 65 #[.pointer (some ⟨g, 0, none⟩), .string t] W fun e W' => e = .returned (.int .i64 0) ∧ Upd S W W' ∧ LkE W' g (Fr S W W') sp en lo l') :
    Calls Tryz.prog 24 #[.pointer (some ⟨g, 0, none⟩), .string s] w fun e w' => e = .returned (.int .i64 0) ∧ LkS w' g (Fr S w w') l' ∧ Upd S w w' := by
  obtain ⟨sp, en, lo, SC, SJ, h⟩ := h
  have hspl : Spl w sp ⟨#[]⟩ := hr ▸ h.spl
  have c0 : w.cell? ⟨g, 0, none⟩ = some (.pointer (some ⟨sp, 0, none⟩)) := blk_cell h.at_ 0
  have c6 : w.cell? ⟨g, 6, none⟩ = some (.bool false) := hdd ▸ blk_cell h.at_ 6
  have c7 : w.cell? ⟨g, 7, none⟩ = some (.bool false) := hb ▸ blk_cell h.at_ 7
  have hnb : badB (⟨#[]⟩ : ByteArray) = false := rfl
  have hnr : ¬ Ready (⟨#[]⟩ : ByteArray) := fun e => absurd e.1 (by decide)
  have e0 : (⟨#[]⟩ : ByteArray) ++ s = s := ByteArray.empty_append
  have HP := hide h
  clear h
  go_enter Tryz.func24, Tryz.ntmps24
  go_wp2_with fail
  refine (bad_false sp _ w hspl.cell hnb).mono ?_
  rintro e w1 ⟨rfl, q1⟩
  have hp := push_ok sp _ s w1 (hspl.q q1) hnb (by show 0 + s.size ≤ _; omega)
  rw [e0] at hp
  have d0 := q1.cell c0
  have HP1 := hide ((unhide HP).new (q1.upd _))
  have U1 := hide (q1.upd (fun _ => False))
  clear q1 hspl c0 c6 c7
  go_wp2_with fail
  refine hp.mono ?_
  rintro e w2 ⟨rfl, u2, s2⟩
  have hn := next_ready sp s w2 s2 hR
  rw [ht, hz] at hn
  have hP2 := (unhide HP1).split u2 s2
  have d2 := u2.cell d0 (unhide HP1).ne
  have HP2 := hide hP2
  have U2 := hide (((unhide U1).mono (fun _ _ h => h.elim)).trans u2)
  clear hp u2 s2 hP2 d0 HP1 U1
  go_wp2_with fail
  refine hn.mono ?_
  rintro e w3 ⟨rfl, u3, s3⟩
  have hP3 : LkP w3 g S l sp en lo SC SJ := by
    have := (unhide HP2).split u3 s3
    rw [← hr] at this
    exact this
  have U3 := hide (show Upd S w w3 from ((unhide U2).trans u3).mono (fun k _ e => by have e : k = sp := e; rw [e]; exact hP3.inS))
  have HP3 := hide hP3
  clear hn u3 s3 hP3 d2 HP2 U2
  go_wp2_with fail
  go_loopw [5, 6, 7] (fun tv bv ev wr => (tv = .string t ∧ bv = .bool true ∧ wr = w3) ∨ (tv = .string ⟨#[]⟩ ∧ bv = .bool false ∧ Hid (∃ SC SJ, Upd S w wr ∧ LkP wr g (Fr S w wr) l' sp en lo SC SJ))) (fun _ bv _ _ => match bv with | .bool true => 1 | _ => 0)
  case atStart => exact .inl ⟨rfl, rfl, rfl⟩
  case round =>
    obtain ⟨wq, rfl⟩ : ∃ wq : World, wq = wr := ⟨_, rfl⟩
    rcases hrel with ⟨rfl, rfl, rfl⟩ | ⟨rfl, rfl, H⟩
    · have hh := hH wq sp en lo SC SJ (unhide U3) (unhide HP3)
      clear hH
      go_wp2_with fail
      refine hh.mono ?_
      rintro e w4 ⟨rfl, u4, SC', SJ', h4⟩
      have hz3 := (unhide U3).size
      have hSl := (unhide HP).lt
      have h5 : LkP w4 g (Fr S w w4) l' sp en lo SC' SJ' := h4.wider (fun k hk => hk.elim .inl (fun e => .inr ⟨by omega, e.2⟩)) (fun k hk => hk.elim (fun e => by have := hSl k e; have := u4.size; omega) (fun e => e.2))
      have hn := next_not sp _ w4 (hl' ▸ h5.spl : Spl w4 sp ⟨#[]⟩) hnr
      have c4 : w4.cell? ⟨g, 0, none⟩ = some (.pointer (some ⟨sp, 0, none⟩)) := blk_cell h5.at_ 0
      have H5 := hide (And.intro h5 ((unhide U3).trans u4))
      clear hh u4 h4 h5
      go_wp2_with fail
      refine hn.mono ?_
      rintro e w5 ⟨rfl, u5, s5⟩
      have h6 : LkP w5 g (Fr S w w4) l' sp en lo SC' SJ' := by
        have := (unhide H5).1.split u5 s5
        rw [← hl'] at this
        exact this
      have hz5 := u5.size
      have U5 : Upd S w w5 := (unhide H5).2.then u5 (fun k hk e => by
        have := (unhide HP).inS
        rw [e]; exact this)
      have H6 : Hid (∃ SC SJ, Upd S w w5 ∧ LkP w5 g (Fr S w w5) l' sp en lo SC SJ) := hide ⟨_, _, U5, h6.wider (fun k hk => hk.elim .inl (fun e => .inr ⟨e.1, by omega⟩)) (fun k hk => hk.elim (fun e => by have := hSl k e; have := U5.size; omega) (fun e => e.2))⟩
      clear hn u5 s5 h6 U5 c4
      go_wp2_with fail
      go_roundw
      case rel => exact .inr ⟨rfl, rfl, H6⟩
      case measure => decide
    · obtain ⟨SC', SJ', u, h⟩ := unhide H
      have hs : Spl wq sp ⟨#[]⟩ := hl' ▸ h.spl
      have c4 : wq.cell? ⟨g, 0, none⟩ = some (.pointer (some ⟨sp, 0, none⟩)) := blk_cell h.at_ 0
      have hbd := bad_false sp _ wq hs.cell hnb
      have H7 := hide (And.intro u h)
      clear u h hs hH
      go_wp2_with fail
      refine hbd.mono ?_
      rintro e w5 ⟨rfl, q5⟩
      have H8 : Hid (Upd S w w5 ∧ LkP w5 g (Fr S w wq) l' sp en lo SC' SJ') := hide ⟨(unhide H7).1.trans (q5.upd _), (unhide H7).2.new (q5.upd _)⟩
      have hz := (q5.upd (fun _ => False)).size
      clear hbd q5
      go_wp2_with fail
      go_ret
      have hSl := (unhide HP).lt
      obtain ⟨u, h⟩ := unhide H8
      exact ⟨rfl, ⟨sp, en, lo, SC', SJ', h.wider (fun k hk => hk.elim .inl (fun e => .inr ⟨e.1, by omega⟩)) (fun k hk => hk.elim (fun e => by have := hSl k e; have := u.size; omega) (fun e => e.2))⟩, u⟩

structure RelV where
  ci : Nat
  peers : Value
  invoices : Value
  known : Value
  routes : Value
  payments : Value
  drains : Bool
  /-- No block of the peers' row lies below this. -/
  bs : Nat
def RelV.cells (r : RelV) : List Value := [ptrV r.ci, r.peers, r.invoices, r.known, r.routes, r.payments, .bool r.drains]
def ReR (w : World) (g : Nat) (r : RelV) : Prop := w.heap[g]? = some (.cells r.cells.toArray 157 (0, 0))
structure NodeV where
  re : Nat
  funds : Int
  drains : Bool
  shut : List Bool
  swept : List Bool
def NodeV.cells (n : NodeV) : List Value := ptrV n.re :: .int .u64 n.funds :: .bool n.drains :: (n.shut.map Value.bool ++ n.swept.map Value.bool)
def NoR (w : World) (g : Nat) (n : NodeV) : Prop := w.heap[g]? = some (.cells n.cells.toArray 149 (0, 0))

def mapV (b : Nat) : Value := .map (some b)
def EmM (w : World) (b : Nat) : Prop := w.heap[b]? = some (.map #[] 0)
set_option maxHeartbeats 1000000 in
theorem newCi_any (a b : Int) (w : World) : Calls Tryz.prog 122 #[.int .u64 a, .int .u64 b] w fun e w' => ∃ g, e = .returned (.pointer (some ⟨g, 0, none⟩)) ∧ w.heap.size ≤ g ∧ g < w'.heap.size ∧ New w w' := by
  have hmm := @run_makeMap Tryz.prog
  go_enter Tryz.func122, Tryz.ntmps122
  go_wp2_with fail
  go_ret
  refine ⟨w.heap.size + 2, rfl, by omega, ?_, (((Upd.refl _ _).alloc _).alloc _).alloc _⟩
  rw [World.size_alloc, World.size_alloc, World.size_alloc]
  omega

/-- A relay that is new. -/
structure NewR (w : World) (B g : Nat) (r : RelV) : Prop where
  at_ : ReR w g r
  peers : r.peers = nilV
  drains : r.drains = false
  bs : r.bs = B
  maps : ∃ m1 m2 m3 m4, r.invoices = mapV m1 ∧ r.known = mapV m2 ∧ r.routes = mapV m3 ∧ r.payments = mapV m4 ∧ EmM w m1 ∧ EmM w m2 ∧ EmM w m3 ∧ EmM w m4 ∧ B ≤ m1 ∧ m1 < m2 ∧ m2 < m3 ∧ m3 < m4 ∧ m4 < g
theorem NewR.lt {w : World} {B g : Nat} {r : RelV} (h : NewR w B g r) : g < w.heap.size := blk_lt h.at_
theorem NewR.new {w w' : World} {B g : Nat} {r : RelV} (h : NewR w B g r) (n : New w w') : NewR w' B g r := by
  obtain ⟨a, p, d, bb, m1, m2, m3, m4, i1, i2, i3, i4, e1, e2, e3, e4, l⟩ := h
  have n' (x : False) : False := x
  exact ⟨n.old a n', p, d, bb, m1, m2, m3, m4, i1, i2, i3, i4, n.old e1 n', n.old e2 n', n.old e3 n', n.old e4 n', l⟩
set_option maxHeartbeats 1000000 in
theorem newR_any (a b : Int) (w : World) : Calls Tryz.prog 76 #[.int .u64 a, .int .u64 b] w fun e w' => ∃ g r, e = .returned (.pointer (some ⟨g, 0, none⟩)) ∧ w.heap.size ≤ g ∧ NewR w' w.heap.size g r ∧ New w w' := by
  have hmm := @run_makeMap Tryz.prog
  go_enter Tryz.func76, Tryz.ntmps76
  go_wp2_with fail
  refine (newCi_any a b w).mono ?_
  rintro e w1 ⟨c, rfl, hc, hc', n1⟩
  go_wp2_with fail
  go_ret
  have s1 := n1.size
  obtain ⟨w2, h2⟩ : ∃ w2, w2 = w1.alloc (.map #[] 0) := ⟨_, rfl⟩
  obtain ⟨w3, h3⟩ : ∃ w3, w3 = w2.alloc (.map #[] 0) := ⟨_, rfl⟩
  obtain ⟨w4, h4⟩ : ∃ w4, w4 = w3.alloc (.map #[] 0) := ⟨_, rfl⟩
  obtain ⟨w5, h5⟩ : ∃ w5, w5 = w4.alloc (.map #[] 0) := ⟨_, rfl⟩
  have z2 : w2.heap.size = w1.heap.size + 1 := by rw [h2]; exact World.size_alloc _ _
  have z3 : w3.heap.size = w1.heap.size + 2 := by rw [h3, World.size_alloc, z2]
  have z4 : w4.heap.size = w1.heap.size + 3 := by rw [h4, World.size_alloc, z3]
  have z5 : w5.heap.size = w1.heap.size + 4 := by rw [h5, World.size_alloc, z4]
  have e2 : EmM w2 w1.heap.size := by rw [h2]; exact blk_alloc _ _
  have e3 : EmM w3 (w1.heap.size + 1) := by rw [h3, ← z2]; exact blk_alloc _ _
  have e4 : EmM w4 (w1.heap.size + 2) := by rw [h4, ← z3]; exact blk_alloc _ _
  have e5 : EmM w5 (w1.heap.size + 3) := by rw [h5, ← z4]; exact blk_alloc _ _
  have n2 : New w1 w2 := by rw [h2]; exact (Upd.refl _ _).alloc _
  have n3 : New w2 w3 := by rw [h3]; exact (Upd.refl _ _).alloc _
  have n4 : New w3 w4 := by rw [h4]; exact (Upd.refl _ _).alloc _
  have n5 : New w4 w5 := by rw [h5]; exact (Upd.refl _ _).alloc _
  rw [← h2, ← h3, ← h4, ← h5]
  obtain ⟨r, hr⟩ : ∃ r : RelV, r = ⟨c, nilV, mapV w1.heap.size, mapV (w1.heap.size + 1), mapV (w1.heap.size + 2), mapV (w1.heap.size + 3), false, w.heap.size⟩ := ⟨_, rfl⟩
  have h6 : ReR (w5.alloc (.cells r.cells.toArray 157)) (w1.heap.size + 4) r := by
    have := blk_alloc w5 (.cells r.cells.toArray 157)
    rwa [z5] at this
  have n6 : New w5 (w5.alloc (.cells r.cells.toArray 157)) := (Upd.refl _ _).alloc _
  subst hr
  have n (x : False) : False := x
  exact ⟨w1.heap.size + 4, _, rfl, by omega, ⟨h6, rfl, rfl, rfl, _, _, _, _, rfl, rfl, rfl, rfl, (n3.trans (n4.trans (n5.trans n6))).old e2 n, (n4.trans (n5.trans n6)).old e3 n, (n5.trans n6).old e4 n, n6.old e5 n, s1, by omega, by omega, by omega, by omega⟩, n1.trans (n2.trans (n3.trans (n4.trans (n5.trans n6))))⟩

def NodeV.new (re : Nat) (funds : Int) : NodeV := ⟨re, funds, false, List.replicate 8 false, List.replicate 8 false⟩
set_option maxHeartbeats 1000000 in
theorem newN_any (f a b : Int) (hf : 0 ≤ f ∧ f < 18446744073709551616) (w : World) : Calls Tryz.prog 30 #[.int .u64 f, .int .u64 a, .int .u64 b] w fun e w' =>
    (f ≤ 1125899906842624 ∧ ∃ g r R, e = .returned (.pointer (some ⟨g, 0, none⟩)) ∧ w.heap.size ≤ r ∧ r < g ∧ NoR w' g (.new r f) ∧ NewR w' w.heap.size r R ∧ New w w') ∨ (1125899906842624 < f ∧ e = .returned (.pointer none) ∧ New w w') := by
  go_enter Tryz.func30, Tryz.ntmps30
  by_cases h1 : 1125899906842624 < f
  · go_wp2_with fail
    go_ret
    exact .inr ⟨h1, rfl, Upd.refl _ _⟩
  · go_wp2_with fail
    refine (newR_any a b w).mono ?_
    rintro e w1 ⟨r, R, rfl, hr, hR, n1⟩
    go_wp2_with fail
    go_ret
    have n2 : New w1 (w1.alloc (.cells (NodeV.new r f).cells.toArray 149)) := (Upd.refl _ _).alloc _
    have hn : NoR (w1.alloc (.cells (NodeV.new r f).cells.toArray 149)) w1.heap.size (.new r f) := blk_alloc _ _
    exact .inl ⟨by omega, w1.heap.size, r, R, rfl, hr, hR.lt, hn, hR.new n2, n1.trans n2⟩

theorem flatMap_get {α : Type} (f : α → List Value) (k : Nat) (hf : ∀ x, (f x).length = k) : ∀ (X : List α) (i j : Nat) (x : α), X[i]? = some x → j < k → (X.flatMap f)[i * k + j]? = (f x)[j]? := by
  intro X
  induction X with
  | nil => intro i j x h; simp at h
  | cons y X ih =>
    intro i j x hx hj
    rw [List.flatMap_cons]
    cases i with
    | zero =>
      rw [List.getElem?_append_left (by rw [hf]; omega), Nat.zero_mul, Nat.zero_add]
      have : y = x := by simpa using hx
      rw [this]
    | succ i =>
      rw [List.getElem?_append_right (by rw [hf, Nat.succ_mul]; omega), hf, show (i + 1) * k + j - k = i * k + j by rw [Nat.succ_mul]; omega]
      exact ih i j x (by simpa using hx) hj
/-- What an owned row holds, where its elements are flat. -/
theorem owns_row {α : Type} (f : α → List Value) (k : Nat) (hf : ∀ x, (f x).length = k) {w : World} {base : Nat} {T : TypeId} {v : Value} {n : Nat} {X : List α} (h : w.ownsRow base T k v n (X.flatMap f)) (hn : n = X.length) :
    (v = .slice none 0 0 ∧ X = []) ∨ ∃ g cap, v = .slice (some ⟨g, 0, none⟩) n cap ∧ base ≤ g ∧ (∃ cur, w.heap[g]? = some (.cells cur T (0, 0))) ∧ ∀ i j x, X[i]? = some x → j < k → w.cell? ⟨g, i * k + j, none⟩ = (f x)[j]? := by
  rcases h.2 with ⟨e, e0⟩ | ⟨g, cap, cur, e, hb, hg, hc, hz, hs, ht⟩
  · exact .inl ⟨e, List.length_eq_zero_iff.1 (by omega)⟩
  · refine .inr ⟨g, cap, e, hb, ⟨cur, hg⟩, fun i j x hx hj => ?_⟩
    have hi := (List.getElem?_eq_some_iff.1 hx).1
    rw [blk_cell hg, ← Array.getElem?_toList, ← flatMap_get f k hf X i j x hx hj, ← ht, List.getElem?_take_of_lt]
    have := Nat.mul_le_mul_right k (show i + 1 ≤ n from by omega)
    rw [Nat.succ_mul] at this
    omega

structure PeerV where
  ch : Int
  lk : Nat
  l : LinkV
  c : ChanV
def PeerV.cells (p : PeerV) : List Value := [.int .u32 p.ch, ptrV p.lk]
theorem PeerV.len (p : PeerV) : p.cells.length = 2 := rfl
/-- A relay, and its peers. -/
structure RelI (w : World) (r : Nat) (R : RelV) (ps : List PeerV) : Prop where
  at_ : ReR w r R
  row : w.ownsRow R.bs 159 2 R.peers ps.length (ps.flatMap PeerV.cells)
  links : ∀ p ∈ ps, LkR w p.lk p.l ∧ ChR w p.l.en p.c
  bsle : R.bs ≤ w.heap.size
theorem RelI.shape {w : World} {r : Nat} {R : RelV} {ps : List PeerV} (h : RelI w r R ps) : ∃ a cap, R.peers = .slice a ps.length cap := by
  rcases owns_row PeerV.cells 2 PeerV.len h.row rfl with ⟨e, e0⟩ | ⟨g, cap, e, -⟩
  · exact ⟨none, 0, by rw [e, e0]; rfl⟩
  · exact ⟨_, cap, e⟩

set_option maxRecDepth 100000 in
set_option maxHeartbeats 1000000 in
theorem byChan_any (r : Nat) (R : RelV) (ps : List PeerV) (w : World) (h : RelI w r R ps) (ch : Int) (hl : ps.length ≤ 1048576) :
    Calls Tryz.prog 123 #[.pointer (some ⟨r, 0, none⟩), .int .u32 ch] w fun e w' =>
      ((∃ p ∈ ps, p.ch = ch ∧ e = .returned (.pointer (some ⟨p.lk, 0, none⟩))) ∨ ((∀ p ∈ ps, p.ch ≠ ch) ∧ e = .returned (.pointer none))) ∧ New w w' := by
  have c1 : w.cell? ⟨r, 1, none⟩ = some R.peers := blk_cell h.at_ 1
  have hrow := owns_row PeerV.cells 2 PeerV.len h.row rfl
  obtain ⟨a, cap, hsh⟩ := h.shape
  rw [hsh] at c1 hrow
  have hll : (ps.length : Int) ≤ 1048576 := by omega
  go_enter Tryz.func123, Tryz.ntmps123
  go_wp2_with fail
  clear c1
  go_loopw [12] (fun iv wr => ∃ i : Nat, iv = .int .i64 (i : Int) ∧ i ≤ ps.length ∧ (∀ j x, j < i → ps[j]? = some x → x.ch ≠ ch) ∧ New w wr) (fun iv _ => ps.length - (intOf iv).toNat)
  case atStart => exact ⟨0, rfl, Nat.zero_le _, fun j x h => by omega, Upd.refl _ _⟩
  case round =>
    obtain ⟨i, rfl, hi, hb, nr⟩ := hrel
    obtain ⟨wq, rfl⟩ : ∃ wq : World, wq = wr := ⟨_, rfl⟩
    by_cases hlt : i < ps.length
    · have hx : ps[i]? = some ps[i] := List.getElem?_eq_getElem hlt
      generalize ps[i] = x at hx
      rcases hrow with ⟨e, e0⟩ | ⟨g, cp, e, -, -, hcell⟩
      · rw [e0] at hlt; simp at hlt
      · injection e with e1 e2 e3
        subst e1 e3
        have d0 : wq.cell? ⟨g, i * 2 + 0, none⟩ = some (.int .u32 x.ch) := nr.cell (hcell i 0 x hx (by omega)) (fun h => h)
        have d1 : wq.cell? ⟨g, i * 2 + 1, none⟩ = some (.pointer (some ⟨x.lk, 0, none⟩)) := nr.cell (hcell i 1 x hx (by omega)) (fun h => h)
        rw [Nat.add_zero] at d0
        have hi0 : (i : Int) < (ps.length : Int) := by omega
        by_cases he : x.ch = ch
        · have n1 : New w (wq.alloc (.cells #[.int .u32 ch, .pointer (some ⟨x.lk, 0, none⟩)] 159)) := nr.alloc _
          have HM := hide (List.mem_of_getElem? hx)
          rw [he] at d0
          go_wp2_with fail
          go_ret
          exact ⟨.inl ⟨x, unhide HM, he, rfl⟩, n1⟩
        · have n1 : New w (wq.alloc (.cells #[.int .u32 x.ch, .pointer (some ⟨x.lk, 0, none⟩)] 159)) := nr.alloc _
          have hb2 : ∀ j y, j < i + 1 → ps[j]? = some y → y.ch ≠ ch := by
            intro j y hj hy
            by_cases hji : j < i
            · exact hb j y hji hy
            · obtain rfl : j = i := by omega
              rw [hx] at hy
              injection hy with hy
              exact hy ▸ he
          have HB := hide hb2
          clear hb hb2
          go_wp2_with fail
          go_roundw
          case rel => exact ⟨i + 1, rfl, by omega, unhide HB, n1⟩
          case measure => simp [intOf]; omega
    · obtain rfl : i = ps.length := by omega
      have HB := hide hb
      clear hb hrow
      go_wp2_with fail
      go_ret
      refine ⟨.inr ⟨fun p hp => ?_, rfl⟩, nr⟩
      obtain ⟨j, hj, e⟩ := List.mem_iff_getElem.1 hp
      exact unhide HB j p hj (by rw [List.getElem?_eq_getElem hj, e])

end Go.Proofs.YtfmkdoachjgjbaaGreatDoor
