/-
  Law 18: ticks, plain, and one by one.
-/
import Derived.Test.YtfmkdoachjgjbaaGreatDoorMed
import Derived.Test.YtfmkdoachjgjbaaGreatDoorLk8
import Derived.Test.YtfmkdoachjgjbaaGreatDoorMcb
import Derived.Deep.AppendLies
import Derived.Test.YtfmkdoachjgjbaaGreatDoorTxt
import Derived.Test.YtfmkdoachjgjbaaGreatDoorMai
import Derived.Deep.Onto
set_option linter.unusedVariables false
set_option linter.unusedSimpArgs false
namespace Go.Proofs.YtfmkdoachjgjbaaGreatDoor
open Go.RowKit

theorem fold_stayT (L : List Live) : ∀ c : Ch, (∀ z ∈ L, z.state ≠ 9) → L.foldl gstep c = c := by
  induction L with
  | nil => intro c _; rfl
  | cons z L ih =>
    intro c h
    rw [List.foldl_cons, show gstep c z = c by unfold gstep; rw [if_neg (h z (List.mem_cons_self ..))], ih c fun y hy => h y (List.mem_cons_of_mem _ hy)]
theorem goOn_stayT {c : Ch} {ev : Int} {L : List Live} (h : afterL ev c.xs = L) (h9 : ∀ z ∈ L, z.state ≠ 9) : c.goOn ev = { c with xs := L } := by
  unfold Ch.goOn
  rw [h, fold_stayT L c h9]
  have : keptL L = L := by
    unfold keptL
    rw [List.filter_eq_self]
    intro z hz
    have := h9 z hz
    simpa using this
  rw [this]
theorem sign_goodT {c : Ch} (h : signErr c = 0) : c.sign = ((c.signing.say (signMsg c)).turned, (signMsg c).on c.s.ch, 0) := by unfold Ch.sign; rw [if_pos h]
theorem sgn_noT (c : Ch) (h : c.k.awaits = true) : c.sign = (c, MsgV.zero, 5) := by
  refine sign_bad ?_ (by decide)
  unfold signErr
  rw [if_pos h]
section
variable (cap a : Int) (hv : Vector Int 32)
def tLive (st : Int) : Live := ⟨⟨0, a, hv, 9⟩, true, st, false⟩
def tc1 : Ch := ⟨setAT cap cap, ⟨0, 0, false, 1, 0, false, false, false⟩, cap - a, cap - cap, [tLive a hv 0], List.replicate 17 .zero, [⟨3, 9, 0, a, hv.toList, 9, 0⟩], []⟩
noncomputable def tTag : List Int := viewTag false ⟨#[107]⟩ 9 1 (cap - a) (cap - cap) [tLive a hv 1]
noncomputable def tc2 : Ch := ⟨setAT cap cap, ⟨1, 0, true, 1, 0, false, false, false⟩, cap - a, cap - cap, [tLive a hv 1], List.replicate 17 .zero, [], [⟨3, 9, 0, a, hv.toList, 9, 0⟩, ⟨6, 9, 0, 0, tTag cap a hv, 0, 1⟩]⟩
theorem tc0_offer (h0 : 1 ≤ a) (h1 : a ≤ cap) : (Ch.new (setAT cap cap)).offer a hv 9 = (tc1 cap a hv, ⟨3, 9, 0, a, hv.toList, 9, 0⟩, 0) := by
  have e : offerErr (Ch.new (setAT cap cap)) a 9 = 0 := by
    unfold offerErr
    rw [if_neg (by show ¬ false = true; decide), if_neg (by omega), if_neg (by decide), if_neg (by show ¬ 8 ≤ manyL true []; decide), if_neg (by show ¬ cap < a; omega)]
  unfold Ch.offer
  rw [e, if_pos rfl]
  rfl
theorem tTag_len : (tTag cap a hv).length = 32 := viewTag_len _ _ _ _ _ _ _
theorem tTag_bytes : Bytes (tTag cap a hv) := by unfold tTag viewTag tagI; exact sumI_bytes _
theorem tc1_sign : (tc1 cap a hv).sign = (tc2 cap a hv, ⟨6, 9, 0, 0, tTag cap a hv, 0, 1⟩, 0) := by
  have e : signErr (tc1 cap a hv) = 0 := by
    unfold signErr
    rw [if_neg (by show ¬ false = true; decide), if_neg (by show ¬ changesB 1 [tLive a hv 0] = false; have : changesB 1 [tLive a hv 0] = true := by rfl
                                                            rw [this]; decide), if_neg (by show ¬ (0 : Int) = 65535; decide)]
  have g : (tc1 cap a hv).signing = ⟨setAT cap cap, ⟨1, 0, true, 1, 0, false, false, false⟩, cap - a, cap - cap, [tLive a hv 1], List.replicate 17 .zero, [⟨3, 9, 0, a, hv.toList, 9, 0⟩], []⟩ := by
    unfold Ch.signing
    rw [goOn_stayT (L := [tLive a hv 1]) (by rfl) (by intro z hz; rw [List.mem_singleton.1 hz]; show (1 : Int) ≠ 9; decide)]
    rfl
  have hm : signMsg (tc1 cap a hv) = ⟨6, 0, 0, 0, tTag cap a hv, 0, 1⟩ := by
    unfold signMsg
    rw [g]
    rfl
  rw [sign_goodT e, g, hm]
  unfold tc2
  generalize tTag cap a hv = T
  rfl
theorem tSay : SayOk ⟨6, 9, 0, 0, tTag cap a hv, 0, 1⟩ := by
  have h1 := tTag_len cap a hv
  have h2 := tTag_bytes cap a hv
  generalize tTag cap a hv = T at *
  exact sayOk_mk (by decide) (by decide) (by decide) (by decide) h1 h2 (by decide) (by decide) (may_signN _ _ (by decide))
theorem tc1_signs {c : Ch} (h : c = tc1 cap a hv) : ∃ c2 M, c.sign = (c2, M, 0) ∧ SayOk M ∧ c2 = tc2 cap a hv := ⟨_, _, h ▸ tc1_sign cap a hv, tSay cap a hv, rfl⟩
theorem tc2_sign : (tc2 cap a hv).sign = (tc2 cap a hv, MsgV.zero, 5) := sgn_noT _ rfl
end
/-- A channel behind one offer, and k ticks. -/
def TkC (cap a : Int) (hv : Vector Int 32) (k : Nat) (c : Ch) : Prop := (k < 3 → c = tc1 cap a hv) ∧ (3 ≤ k → c = tc2 cap a hv)
theorem tick_any (w0 w : World) (p g : Nat) (S : Nat → Prop) (L : Lk) (cap a : Int) (hv : Vector Int 32) (k n : Nat) (h : Lt w0 w p g S L) (hT : Tc w0) (hb : LkB L n) (hk : L.ticks = k) (hk1 : k < 1000) (hn : n < 1000) (hc : TkC cap a hv k L.c) :
    Calls Tryz.prog 28 #[.pointer (some ⟨g, 0, none⟩)] w fun e w' => e = .returned (.int .i64 0) ∧ ∃ S' L', Lt w0 w' p g S' L' ∧ LkB L' (n + 1) ∧ L'.ticks = ((k + 1 : Nat) : Int) ∧ TkC cap a hv (k + 1) L'.c ∧ (k = 2 → 2 < L'.out.size) ∧ (k ≠ 2 → L'.out = L.out) := by
  have hap := apc_ge hT h.ge
  by_cases h3 : (k + 1) % 3 = 0
  · have hsz : (numS 4 1).size ≤ 1024 := by rw [numS_size]; decide
    have hfacts : L.c.s.key.size ≤ 100000000 ∧ (0 ≤ L.c.s.ch ∧ L.c.s.ch < 4294967296) ∧ L.c.news.length < 1000000 ∧ L.c.xs.length ≤ 16 := by
      by_cases h2 : k < 3
      · rw [hc.1 h2]
        exact ⟨by show 1 ≤ 100000000; decide, ⟨by show (0 : Int) ≤ 9; decide, by show (9 : Int) < 4294967296; decide⟩, by show 1 < 1000000; decide, by show 1 ≤ 16; decide⟩
      · rw [hc.2 (by omega)]
        exact ⟨by show 1 ≤ 100000000; decide, ⟨by show (0 : Int) ≤ 9; decide, by show (9 : Int) < 4294967296; decide⟩, by show 0 < 1000000; decide, by show 1 ≤ 16; decide⟩
    by_cases h2 : k = 2
    · have hcc := hc.1 (by omega)
      obtain ⟨c2, M, hsg, hso, hc2⟩ := tc1_signs cap a hv hcc
      refine (tick_third g S L k w h.lk (hb.ok (by omega)) hk (by omega) h3 (fun _ => by rw [hsg]; exact hso) (by rw [hsg]; exact hso.put.ok.len) (hT.new h.new) hap hfacts.1 hfacts.2.1 hfacts.2.2.1 hfacts.2.2.2).mono ?_
      rintro e w' ⟨rfl, hl, u⟩
      have hL : ({ L with ticks := (k : Int) + 1 } : Lk).signs = ({ L with ticks := (k : Int) + 1 } : Lk).says c2 (numS 4 1) M := by
        show Lk.acts _ L.c.sign.1 _ L.c.sign.2.1 L.c.sign.2.2 = _
        rw [hsg]
        rfl
      have hb1 : LkB ({ L with ticks := (k : Int) + 1 } : Lk) n := ⟨hb.dead, hb.waits, hb.fused, hb.off, hb.many, hb.len, hb.out⟩
      have hb2 : LkB (({ L with ticks := (k : Int) + 1 } : Lk).acts L.c.sign.1 (numS 4 1) L.c.sign.2.1 L.c.sign.2.2) (n + 1) := hb1.acts hsz (fun _ => by rw [hsg]; exact hso)
      have he : tickErr L.c.sign.2.2 = 0 := by rw [hsg]; rfl
      rw [he]
      have hbL : LkB (({ L with ticks := (k : Int) + 1 } : Lk).signs) (n + 1) := hb2
      rw [hL] at hl hbL
      refine ⟨rfl, _, _, h.op u hl, hbL, ?_, ?_, fun _ => ?_, fun hne => absurd h2 hne⟩
      · show (k : Int) + 1 = ((k + 1 : Nat) : Int)
        omega
      · exact ⟨fun hlt => by omega, fun _ => hc2⟩
      · show 2 < (L.out ++ sayS _).size
        rw [ByteArray.size_append]
        have := hso.size
        omega
    · have hcc := hc.2 (by omega)
      have hsg : L.c.sign = (tc2 cap a hv, MsgV.zero, 5) := by rw [hcc]; exact tc2_sign cap a hv
      refine (tick_third g S L k w h.lk (hb.ok (by omega)) hk (by omega) h3 (fun h5 => by rw [hsg] at h5; cases h5) (by rw [hsg]; exact z32i_len) (hT.new h.new) hap hfacts.1 hfacts.2.1 hfacts.2.2.1 hfacts.2.2.2).mono ?_
      rintro e w' ⟨rfl, hl, u⟩
      have hL : ({ L with ticks := (k : Int) + 1 } : Lk).signs = { L with ticks := (k : Int) + 1 } := by
        show Lk.acts _ L.c.sign.1 _ L.c.sign.2.1 L.c.sign.2.2 = _
        rw [hsg, ← hcc]
        rfl
      have hb1 : LkB ({ L with ticks := (k : Int) + 1 } : Lk) n := ⟨hb.dead, hb.waits, hb.fused, hb.off, hb.many, hb.len, hb.out⟩
      have he : tickErr L.c.sign.2.2 = 0 := by rw [hsg]; rfl
      rw [he]
      rw [hL] at hl
      refine ⟨rfl, _, _, h.op u hl, hb1.mono (by omega), ?_, ?_, fun h2' => absurd h2' h2, fun _ => rfl⟩
      · show (k : Int) + 1 = ((k + 1 : Nat) : Int)
        omega
      · exact ⟨fun hlt => by omega, fun _ => hcc⟩
  · refine (tick_between g S L k w h.lk (hb.ok (by omega)) hk (by omega) h3).mono ?_
    rintro e w' ⟨rfl, hl, u⟩
    have hb1 : LkB ({ L with ticks := (k : Int) + 1 } : Lk) n := ⟨hb.dead, hb.waits, hb.fused, hb.off, hb.many, hb.len, hb.out⟩
    refine ⟨rfl, _, _, h.opS u hl, hb1.mono (by omega), ?_, ?_, fun h2' => by omega, fun _ => rfl⟩
    · show (k : Int) + 1 = ((k + 1 : Nat) : Int)
      omega
    · exact ⟨fun hlt => hc.1 (by omega), fun hge => hc.2 (by omega)⟩

structure RelV where
  ci : Nat
  peers : Value
  invoices : Value
  known : Value
  routes : Value
  payments : Value
  drains : Bool
  /-- No block of the peers' row lies below this. -/
  bs : Nat
def RelV.cells (r : RelV) : List Value := [ptrV r.ci, r.peers, r.invoices, r.known, r.routes, r.payments, .bool r.drains]
def ReR (w : World) (g : Nat) (r : RelV) : Prop := w.heap[g]? = some (.cells r.cells.toArray 157 (0, 0))
structure NodeV where
  re : Nat
  funds : Int
  drains : Bool
  shut : List Bool
  swept : List Bool
def NodeV.cells (n : NodeV) : List Value := ptrV n.re :: .int .u64 n.funds :: .bool n.drains :: (n.shut.map Value.bool ++ n.swept.map Value.bool)
def NoR (w : World) (g : Nat) (n : NodeV) : Prop := w.heap[g]? = some (.cells n.cells.toArray 149 (0, 0))

def mapV (b : Nat) : Value := .map (some b)
def EmM (w : World) (b : Nat) : Prop := w.heap[b]? = some (.map #[] 0)

/-- A relay that is new. -/
structure NewR (w : World) (B g : Nat) (r : RelV) : Prop where
  at_ : ReR w g r
  peers : r.peers = nilV
  drains : r.drains = false
  bs : r.bs = B
  maps : ∃ m1 m2 m3 m4, r.invoices = mapV m1 ∧ r.known = mapV m2 ∧ r.routes = mapV m3 ∧ r.payments = mapV m4 ∧ EmM w m1 ∧ EmM w m2 ∧ EmM w m3 ∧ EmM w m4 ∧ B ≤ m1 ∧ m1 < m2 ∧ m2 < m3 ∧ m3 < m4 ∧ m4 < g
theorem NewR.lt {w : World} {B g : Nat} {r : RelV} (h : NewR w B g r) : g < w.heap.size := blk_lt h.at_
theorem NewR.new {w w' : World} {B g : Nat} {r : RelV} (h : NewR w B g r) (n : New w w') : NewR w' B g r := by
  obtain ⟨a, p, d, bb, m1, m2, m3, m4, i1, i2, i3, i4, e1, e2, e3, e4, l⟩ := h
  have n' (x : False) : False := x
  exact ⟨n.old a n', p, d, bb, m1, m2, m3, m4, i1, i2, i3, i4, n.old e1 n', n.old e2 n', n.old e3 n', n.old e4 n', l⟩

def NodeV.new (re : Nat) (funds : Int) : NodeV := ⟨re, funds, false, List.replicate 8 false, List.replicate 8 false⟩

theorem flatMap_get {α : Type} (f : α → List Value) (k : Nat) (hf : ∀ x, (f x).length = k) : ∀ (X : List α) (i j : Nat) (x : α), X[i]? = some x → j < k → (X.flatMap f)[i * k + j]? = (f x)[j]? := by
  intro X
  induction X with
  | nil => intro i j x h; simp at h
  | cons y X ih =>
    intro i j x hx hj
    rw [List.flatMap_cons]
    cases i with
    | zero =>
      rw [List.getElem?_append_left (by rw [hf]; omega), Nat.zero_mul, Nat.zero_add]
      have : y = x := by simpa using hx
      rw [this]
    | succ i =>
      rw [List.getElem?_append_right (by rw [hf, Nat.succ_mul]; omega), hf, show (i + 1) * k + j - k = i * k + j by rw [Nat.succ_mul]; omega]
      exact ih i j x (by simpa using hx) hj
/-- What an owned row holds, where its elements are flat. -/
theorem owns_row {α : Type} (f : α → List Value) (k : Nat) (hf : ∀ x, (f x).length = k) {w : World} {base : Nat} {T : TypeId} {v : Value} {n : Nat} {X : List α} (h : w.ownsRow base T k v n (X.flatMap f)) (hn : n = X.length) :
    (v = .slice none 0 0 ∧ X = []) ∨ ∃ g cap, v = .slice (some ⟨g, 0, none⟩) n cap ∧ base ≤ g ∧ (∃ cur, w.heap[g]? = some (.cells cur T (0, 0))) ∧ ∀ i j x, X[i]? = some x → j < k → w.cell? ⟨g, i * k + j, none⟩ = (f x)[j]? := by
  rcases h.2 with ⟨e, e0⟩ | ⟨g, cap, cur, e, hb, hg, hc, hz, hs, ht⟩
  · exact .inl ⟨e, List.length_eq_zero_iff.1 (by omega)⟩
  · refine .inr ⟨g, cap, e, hb, ⟨cur, hg⟩, fun i j x hx hj => ?_⟩
    have hi := (List.getElem?_eq_some_iff.1 hx).1
    rw [blk_cell hg, ← Array.getElem?_toList, ← flatMap_get f k hf X i j x hx hj, ← ht, List.getElem?_take_of_lt]
    have := Nat.mul_le_mul_right k (show i + 1 ≤ n from by omega)
    rw [Nat.succ_mul] at this
    omega

structure PeerV where
  ch : Int
  lk : Nat
  l : LinkV
  c : ChanV
def PeerV.cells (p : PeerV) : List Value := [.int .u32 p.ch, ptrV p.lk]
theorem PeerV.len (p : PeerV) : p.cells.length = 2 := rfl
/-- A relay, and its peers. -/
structure RelI (w : World) (r : Nat) (R : RelV) (ps : List PeerV) : Prop where
  at_ : ReR w r R
  row : w.ownsRow R.bs 159 2 R.peers ps.length (ps.flatMap PeerV.cells)
  links : ∀ p ∈ ps, LkR w p.lk p.l ∧ ChR w p.l.en p.c
  bsle : R.bs ≤ w.heap.size
theorem RelI.shape {w : World} {r : Nat} {R : RelV} {ps : List PeerV} (h : RelI w r R ps) : ∃ a cap, R.peers = .slice a ps.length cap := by
  rcases owns_row PeerV.cells 2 PeerV.len h.row rfl with ⟨e, e0⟩ | ⟨g, cap, e, -⟩
  · exact ⟨none, 0, by rw [e, e0]; rfl⟩
  · exact ⟨_, cap, e⟩

theorem row_upd {S : Nat → Prop} {w w' : World} {base : Nat} {e : TypeId} {size : Nat} {v : Value} {n : Nat} {xs : List Value} (h : w.ownsRow base e size v n xs) (u : Upd S w w') (hS : ∀ k, v.ownBlock = some k → ¬ S k) : w'.ownsRow base e size v n xs := by
  refine ⟨h.1, ?_⟩
  rcases h.2 with h | ⟨g, cap, cur, e1, e2, hg, r⟩
  · exact .inl h
  · exact .inr ⟨g, cap, cur, e1, e2, u.old hg (hS g (by rw [e1]; rfl)), r⟩
theorem RelI.upd {S : Nat → Prop} {w w' : World} {r : Nat} {R : RelV} {ps : List PeerV} (h : RelI w r R ps) (u : Upd S w w') (hr : ¬ S r) (hb : ∀ k, R.peers.ownBlock = some k → ¬ S k) (hl : ∀ p ∈ ps, ¬ S p.lk ∧ ¬ S p.l.en) : RelI w' r R ps := by
  refine ⟨u.old h.at_ hr, row_upd h.row u hb, fun p hp => ⟨u.old (h.links p hp).1 (hl p hp).1, (h.links p hp).2.upd u (hl p hp).2⟩, Nat.le_trans h.bsle u.size⟩
theorem RelI.new {w w' : World} {r : Nat} {R : RelV} {ps : List PeerV} (h : RelI w r R ps) (u : New w w') : RelI w' r R ps := h.upd u (fun h => h) (fun _ _ h => h) (fun _ _ => ⟨fun h => h, fun h => h⟩)
theorem RelI.own {w : World} {r : Nat} {R : RelV} {ps : List PeerV} (h : RelI w r R ps) {k : Nat} (hk : R.peers.ownBlock = some k) : R.bs ≤ k := by
  rcases h.row.2 with ⟨e, _⟩ | ⟨g, cap, cur, e, hb, _⟩
  · rw [e] at hk; simp [Value.ownBlock] at hk
  · rw [e] at hk; simp [Value.ownBlock] at hk; omega
theorem NewL.upd {S : Nat → Prop} {w w' : World} {B A g : Nat} {s : SetupV} {l : LinkV} (h : NewL w B g s l) (u : Upd S w w') (hA : A ≤ B) (n : ¬ S g ∧ ¬ S l.sp ∧ ¬ S l.en ∧ ¬ S l.lo) : NewL w' A g s l :=
  ⟨h.isNew, u.old h.lk n.1, u.old h.sp n.2.1, h.ch.upd u n.2.2.1, u.old h.jo n.2.2.2, ⟨by have := h.ge.1; omega, by have := h.ge.2.1; omega, by have := h.ge.2.2.1; omega, by have := h.ge.2.2.2; omega⟩, h.ne⟩
theorem NewL.new {w w' : World} {B g : Nat} {s : SetupV} {l : LinkV} (h : NewL w B g s l) (u : New w w') : NewL w' B g s l := 
  ⟨h.isNew, u.old h.lk (fun h => h), u.old h.sp (fun h => h), h.ch.new u, u.old h.jo (fun h => h), h.ge, h.ne⟩

attribute [local go_sem ↓ high] ld_setup_fold
attribute [local go_sem] ld_setup

end Go.Proofs.YtfmkdoachjgjbaaGreatDoor
namespace Go.Proofs.YtfmkdoachjgjbaaGreatDoor
open Go.RowKit

structure NodI (w : World) (g : Nat) (N : NodeV) (R : RelV) (ps : List PeerV) : Prop where
  at_ : NoR w g N
  re : RelI w N.re R ps
theorem NodI.new {w w' : World} {g : Nat} {N : NodeV} {R : RelV} {ps : List PeerV} (h : NodI w g N R ps) (u : New w w') : NodI w' g N R ps := ⟨u.old h.at_ (fun h => h), h.re.new u⟩

attribute [local go_sem ↓ high] ld_setup_fold
attribute [local go_sem] ld_setup rowN_drew

end Go.Proofs.YtfmkdoachjgjbaaGreatDoor
namespace Go.Proofs.YtfmkdoachjgjbaaGreatDoor
open Go.RowKit

set_option maxHeartbeats 1000000 in
theorem chan_any (g : Nat) (l : LinkV) (w : World) (h : LkR w g l) :
    Calls Tryz.prog 19 #[.pointer (some ⟨g, 0, none⟩)] w (Reads (.pointer (some ⟨l.en, 0, none⟩)) w) := by
  have c1 : w.cell? ⟨g, 1, none⟩ = some (.pointer (some ⟨l.en, 0, none⟩)) := blk_cell h 1
  clear h
  go_enter Tryz.func19, Tryz.ntmps19
  go_wp2_with fail
  go_ret
  exact ⟨rfl, Q.refl _⟩

attribute [local go_sem ↓ high] ld_live_fold st_live_fold al_live_fold
attribute [local go_sem] ld_live st_live al_live rowN_drew

end Go.Proofs.YtfmkdoachjgjbaaGreatDoor
namespace Go.Proofs.YtfmkdoachjgjbaaGreatDoor
open Go.RowKit

/-- The first link of a pair, behind one offer and k ticks; what it says waits in s. -/
def TkS (w0 w : World) (p g : Nat) (cap a : Int) (k n : Nat) (s : ByteArray) : Prop := ∃ S L, Lt w0 w p g S L ∧ LkB L n ∧ L.ticks = (k : Int) ∧ TkC cap a (hvec z32i) k L.c ∧ L.out = s
theorem TkS.cell {w0 w : World} {p g : Nat} {cap a : Int} {k n : Nat} {s : ByteArray} (h : TkS w0 w p g cap a k n s) : w.cell? ⟨p, 0, none⟩ = some (.pointer (some ⟨g, 0, none⟩)) := by
  obtain ⟨S, L, h, -⟩ := h
  exact h.cell
theorem TkS.nw {w0 w w' : World} {p g : Nat} {cap a : Int} {k n : Nat} {s : ByteArray} (h : TkS w0 w p g cap a k n s) (u : New w w') : TkS w0 w' p g cap a k n s := by
  obtain ⟨S, L, h, r⟩ := h
  exact ⟨S, L, h.nw u, r⟩
theorem TkS.new {w0 w : World} {p g : Nat} {cap a : Int} {k n : Nat} {s : ByteArray} (h : TkS w0 w p g cap a k n s) : New w0 w := by
  obtain ⟨S, L, h, r⟩ := h
  exact h.new
theorem tk_offer (w0 w : World) (p g : Nat) (S : Nat → Prop) (cap : Int) (a : Nat) (h : Lt w0 w p g S (.new (Ch.new (setAT cap cap)))) (hT : Tc w0) (h0 : 1 ≤ a) (h1 : (a : Int) ≤ cap) (h2 : cap ≤ 1125899906842624) :
    Calls Tryz.prog 11 #[.pointer (some ⟨g, 0, none⟩), .int .u64 (a : Int), .agg (hshV z32i).toArray, .int .i64 9] w fun e w' => e = .returned (.tuple #[.int .u64 0, .int .i64 0]) ∧ ∃ s, TkS w0 w' p g cap a 0 1 s ∧ 2 < s.size := by
  have hap := apc_ge hT h.ge
  have hof : ((Lk.new (Ch.new (setAT cap cap))).c.offer (a : Int) (hvec z32i) ((9 : Nat) : Int)) = (tc1 cap a (hvec z32i), ⟨3, 9, 0, a, (hvec z32i).toList, 9, 0⟩, 0) := tc0_offer cap a (hvec z32i) (by omega) h1
  have hso : SayOk ⟨3, 9, 0, a, (hvec z32i).toList, 9, 0⟩ := by
    rw [hvec_list z32i_len]
    exact sayOk_mk (by decide) (by decide) (by decide) ⟨by omega, by omega⟩ z32i_len z32i_bytes (by decide) (by decide) (may_addN z32i (by omega) (by decide))
  have hc9 : ((9 : Nat) : Int) = 9 := rfl
  refine (loffer_any g S (.new (Ch.new (setAT cap cap))) a 9 z32i w h.lk ((LkB.new _).ok (by decide)) z32i_len z32i_bytes (by omega) (by decide) ⟨by show 0 < 1000000; decide, by show 0 < 1000000; decide⟩ (fun _ => by rw [hof]; exact hso) (by rw [hof]; exact hso.put.ok.len) (hT.new h.new).tabs ⟨hap.c, hap.d⟩).mono ?_
  rintro e w' ⟨rfl, hl, u⟩
  have hb := (LkB.new (Ch.new (setAT cap cap))).offers (a := a) (x := 9) z32i_len (fun _ => by rw [hof]; exact hso)
  have hL : (Lk.new (Ch.new (setAT cap cap))).offers a 9 z32i = (Lk.new (Ch.new (setAT cap cap))).says (tc1 cap a (hvec z32i)) (joinS (recO a 9 z32i)) ⟨3, 9, 0, a, (hvec z32i).toList, 9, 0⟩ := by
    unfold Lk.offers
    rw [hof]
    rfl
  rw [hL] at hl hb
  rw [hof]
  refine ⟨rfl, _, ⟨_, _, h.op u hl, hb, rfl, ⟨fun _ => rfl, fun h => by omega⟩, rfl⟩, ?_⟩
  show 2 < ((⟨#[]⟩ : ByteArray) ++ sayS _).size
  rw [ByteArray.size_append]
  have := hso.size
  omega
theorem tk_tick (w0 w : World) (p g : Nat) (cap a : Int) (k n : Nat) (s : ByteArray) (h : TkS w0 w p g cap a k n s) (hT : Tc w0) (hk : k < 1000) (hn : n < 1000) :
    Calls Tryz.prog 28 #[.pointer (some ⟨g, 0, none⟩)] w fun e w' => e = .returned (.int .i64 0) ∧ ∃ s', TkS w0 w' p g cap a (k + 1) (n + 1) s' ∧ (k = 2 → 2 < s'.size) ∧ (k ≠ 2 → s' = s) := by
  obtain ⟨S, L, h, hb, ht, hc, rfl⟩ := h
  refine (tick_any w0 w p g S L cap a (hvec z32i) k n h hT hb ht hk hn hc).mono ?_
  rintro e w' ⟨rfl, S', L', h', hb', ht', hc', h2, h3⟩
  exact ⟨rfl, L'.out, ⟨S', L', h', hb', ht', hc', rfl⟩, h2, h3⟩
theorem tk_out (w0 w : World) (p g : Nat) (cap a : Int) (k n : Nat) (s : ByteArray) (h : TkS w0 w p g cap a k n s) :
    Calls Tryz.prog 44 #[.pointer (some ⟨g, 0, none⟩)] w fun e w' => e = .returned (.string s) ∧ TkS w0 w' p g cap a k n ⟨#[]⟩ := by
  obtain ⟨S, L, h, hb, ht, hc, rfl⟩ := h
  refine (out_any g S L w h.lk hb.dead).mono ?_
  rintro e w' ⟨rfl, hl, u⟩
  exact ⟨rfl, S, _, h.opS u hl, ⟨hb.dead, hb.waits, hb.fused, hb.off, hb.many, hb.len, Nat.zero_le _⟩, ht, hc, rfl⟩
theorem tk_chan0 (w0 w : World) (p g : Nat) (cap a : Int) (k n : Nat) (s : ByteArray) (h : TkS w0 w p g cap a k n s) :
    ∃ en, Calls Tryz.prog 19 #[.pointer (some ⟨g, 0, none⟩)] w (Reads (.pointer (some ⟨en, 0, none⟩)) w) := by
  obtain ⟨S, L, h, hb, ht, hc, rfl⟩ := h
  obtain ⟨sp, en, lo, SC, SJ, hl⟩ := h.lk
  exact ⟨en, chan_any g _ w hl.at_⟩
attribute [local go_sem ↓ high] bd_hsh_fold
attribute [local go_sem] bd_hsh rowN_drew
set_option maxRecDepth 100000 in
set_option maxHeartbeats 4000000 in
theorem shown18 (w : World) (hT : Tc w) : Calls Tryz.prog 10 #[] w (Makes (.bool true) w) := by
  have hb := begin18 10 10 (by decide) (by decide) (by decide) w
  go_enter Tryz.func10, Tryz.ntmps10
  go_wp2_with fail
  refine hb.mono ?_
  rintro e w1 ⟨p, g, S, rfl, h1⟩
  have c := h1.cell
  have ho := tk_offer w w1 p g S 10 4 h1 hT (by decide) (by decide) (by decide)
  clear hb h1
  go_wp2_with fail
  refine ho.mono ?_
  rintro e w2 ⟨rfl, sa, h2, hsa⟩
  replace c := h2.cell
  have hu := tk_out w w2 p g _ _ _ _ _ h2
  clear ho h2
  go_wp2_with fail
  refine hu.mono ?_
  rintro e w3 ⟨rfl, h3⟩
  replace c := h3.cell
  have ht := tk_tick w w3 p g _ _ _ _ _ h3 hT (by decide) (by decide)
  clear hu h3
  go_wp2_with fail
  refine ht.mono ?_
  rintro e w4 ⟨rfl, s4, h4, -, e4⟩
  obtain rfl := e4 (by decide)
  replace c := h4.cell
  have ht := tk_tick w w4 p g _ _ _ _ _ h4 hT (by decide) (by decide)
  clear h4
  go_wp2_with fail
  refine ht.mono ?_
  rintro e w5 ⟨rfl, s5, h5, -, e5⟩
  obtain rfl := e5 (by decide)
  replace c := h5.cell
  have hu := tk_out w w5 p g _ _ _ _ _ h5
  clear ht h5
  go_wp2_with fail
  refine hu.mono ?_
  rintro e w6 ⟨rfl, h6⟩
  replace c := h6.cell
  have ht := tk_tick w w6 p g _ _ _ _ _ h6 hT (by decide) (by decide)
  clear hu h6
  go_wp2_with fail
  refine ht.mono ?_
  rintro e w7 ⟨rfl, s7, h7, e7, -⟩
  have hs7 := e7 (by trivial)
  replace c := h7.cell
  have hu := tk_out w w7 p g _ _ _ _ _ h7
  clear ht h7 e7
  go_wp2_with fail
  refine hu.mono ?_
  rintro e w8 ⟨rfl, h8⟩
  replace c := h8.cell
  obtain ⟨en, hch⟩ := tk_chan0 w w8 p g _ _ _ _ _ h8
  have N8 := hide h8.new
  have hsa' : (0 : Int) < (sa.size : Int) := by omega
  have hs7' : (0 : Int) < (s7.size : Int) := by omega
  clear hu h8
  go_wp2_with fail
  refine hch.mono ?_
  rintro e w9 ⟨rfl, q9⟩
  have N9 := hide ((unhide N8).trans (q9.upd _))
  clear hch q9 c
  go_wp2_with fail
  go_ret
  exact ⟨rfl, unhide N9⟩
end Go.Proofs.YtfmkdoachjgjbaaGreatDoor
