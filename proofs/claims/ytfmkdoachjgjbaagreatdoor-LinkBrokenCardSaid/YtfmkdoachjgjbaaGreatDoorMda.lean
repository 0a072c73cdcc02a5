/-
  A cell set within a row of lives; remove.
-/
import Derived.Test.YtfmkdoachjgjbaaGreatDoorMbc
import Derived.Test.YtfmkdoachjgjbaaGreatDoorMbi
import Derived.Test.YtfmkdoachjgjbaaGreatDoorMce
import Derived.Test.YtfmkdoachjgjbaaGreatDoorHsg
import Derived.Test.YtfmkdoachjgjbaaGreatDoorMcb
import Derived.Test.YtfmkdoachjgjbaaGreatDoorRows
import Derived.Test.YtfmkdoachjgjbaaGreatDoorMaa
import Derived.Shelf.Strings.OnBuilder
set_option linter.unusedVariables false
set_option linter.unusedSimpArgs false
namespace Go.Proofs.YtfmkdoachjgjbaaGreatDoor
open Go.RowKit

/-- The one at i is removed. -/
def Ch.removed (c : Ch) (i : Nat) (x : Live) (paid : Bool) : Ch := { c with xs := c.xs.set i { x with state := 5, paid := paid } }

attribute [local go_sem ↓ high] ld_live_fold
attribute [local go_sem] ld_live rowN_drew
def bothB (own : Bool) (id : Int) (x : Live) : Bool := x.own == own && (x.h.id == id && x.state == 4)

end Go.Proofs.YtfmkdoachjgjbaaGreatDoor
namespace Go.Proofs.YtfmkdoachjgjbaaGreatDoor
open Go.RowKit

attribute [local go_sem ↓ high] ld_hsh_fold st_hsh_fold al_hsh_fold bd_hsh_fold ld_msg_fold st_msg_fold al_msg_fold bd_msg_fold
attribute [local go_sem] ld_hsh st_hsh al_hsh bd_hsh rowN_drew ld_msg st_msg al_msg

/-- The one of an Id that is live in state Both, and its place. -/
def bothX (own : Bool) (id : Int) (xs : List Live) : Option (Nat × Live) := match xs.findIdx? (bothB own id) with | some i => (xs[i]?).map fun x => (i, x) | none => none

def Ch.hearShut (c : Ch) : Ch × Int := if c.k.shutHeard = true then (c, 4) else ({ c with k := { c.k with shutHeard := true } }, 0)

def Ch.hearFail (c : Ch) (m : MsgV) : Ch × Int := match bothX true m.id c.xs with | none => (c, 3) | some p => (c.removed p.1 p.2 false, 0)

end Go.Proofs.YtfmkdoachjgjbaaGreatDoor
namespace Go.Proofs.YtfmkdoachjgjbaaGreatDoor
open Go.RowKit

attribute [local go_sem ↓ high] ld_msg_fold st_msg_fold al_msg_fold bd_msg_fold
attribute [local go_sem] ld_msg st_msg al_msg rowN_drew

end Go.Proofs.YtfmkdoachjgjbaaGreatDoor
namespace Go.Proofs.YtfmkdoachjgjbaaGreatDoor
open Go.RowKit

/-- Two ends, whose blocks are apart, all made since w0. -/
structure Two (w0 w : World) (gA gB : Nat) (SA SB : Nat → Prop) (a b : Ch) : Prop where
  A : ChS w gA SA a
  B : ChS w gB SB b
  geA : ∀ k, SA k → w0.heap.size ≤ k
  geB : ∀ k, SB k → w0.heap.size ≤ k
  sep : ∀ k, SA k → ¬ SB k
  n : New w0 w
section
variable {w0 w w' : World} {gA gB : Nat} {SA SB : Nat → Prop} {a b a' b' : Ch}
theorem Two.new (h : Two w0 w gA gB SA SB a b) (u : New w w') : Two w0 w' gA gB SA SB a b := ⟨h.A.new u, h.B.new u, h.geA, h.geB, h.sep, h.n.trans u⟩
theorem Two.swap (h : Two w0 w gA gB SA SB a b) : Two w0 w gB gA SB SA b a := ⟨h.B, h.A, h.geB, h.geA, fun k hb ha => h.sep k ha hb, h.n⟩
/-- A block that is neither's. -/
structure Off (w : World) (SA SB : Nat → Prop) (K : Nat) : Prop where
  lt : K < w.heap.size
  a : ¬ SA K
  b : ¬ SB K
theorem Off.new {K : Nat} (h : Off w SA SB K) (u : w.heap.size ≤ w'.heap.size) : Off w' SA SB K := ⟨by have := h.lt; omega, h.a, h.b⟩
theorem Off.fresh {K : Nat} (h : Two w0 w gA gB SA SB a b) (hK : w.heap.size ≤ K) (hl : K < w'.heap.size) : Off w' SA SB K :=
  ⟨hl, fun k => by have := h.A.lt K k; omega, fun k => by have := h.B.lt K k; omega⟩
/-- A store into a block that is neither's. -/
theorem Two.put {K : Nat} (h : Two w0 w gA gB SA SB a b) (o : Off w SA SB K) (hK : w0.heap.size ≤ K) (u : Upd (· = K) w w') : Two w0 w' gA gB SA SB a b :=
  ⟨h.A.upd u (fun k hk e => o.a (e ▸ hk)), h.B.upd u (fun k hk e => o.b (e ▸ hk)), h.geA, h.geB, h.sep, h.n.then u (fun i hi e => by omega)⟩
end
theorem offerH_any (g : Nat) (S : Nat → Prop) (c : Ch) (n : Int) (h : List Int) (ex : Int) (w : World) (hc : ChS w g S c) (hl : h.length = 32) (hb : Bytes h) (hn : 0 ≤ n ∧ n < 18446744073709551616) (hx : -9223372036854775808 ≤ ex ∧ ex ≤ 9223372036854775807) (hfew : c.news.length < 1000000 ∧ c.xs.length < 1000000) :
    Calls Tryz.prog 47 #[.pointer (some ⟨g, 0, none⟩), .int .u64 n, .agg (hshV h).toArray, .int .i64 ex] w fun e w' =>
      e = .returned (.tuple #[.agg (c.offer n (hvec h) ex).2.1.cells.toArray, .int .i64 (c.offer n (hvec h) ex).2.2]) ∧ ChS w' g (Fr S w w') (c.offer n (hvec h) ex).1 ∧ Upd S w w' := by
  have := offer_any g S c n (hvec h) ex w hc hn hx (by rw [hvec_list hl]; exact hb) hfew
  rw [hvec_list hl] at this
  exact this
theorem baseS_any (g : Nat) (S : Nat → Prop) (c : Ch) (w : World) (h : ChS w g S c) : Calls Tryz.prog 23 #[.pointer (some ⟨g, 0, none⟩)] w (Makes (.agg #[.int .u64 c.loc, .int .u64 c.rem]) w) := by
  obtain ⟨lv, nv, av, h⟩ := h
  exact base_any g _ w h.toR
theorem SaidO.row0 {base : Nat} {w : World} {v : Value} {m : MsgV} {ms : List MsgV} (h : SaidO base w v (m :: ms)) (hm : m.hash.length = 32) : ∃ g cap, v = .slice (some ⟨g, 0, none⟩) (m :: ms).length cap ∧ base ≤ g ∧ rowN w g 0 38 = some m.cells.toArray ∧ g < w.heap.size := by
  rcases h.2 with ⟨e, e0⟩ | ⟨g, cap, cur, e, hb, hg, hc, _, hs, ht⟩
  · simp at e0
  · refine ⟨g, cap, e, hb, ?_, blk_lt hg⟩
    have hsz : 38 ≤ cur.size := by rw [hs]; simp at hc; omega
    rw [rowN_blk hg 0 38 (by omega)]
    congr 1
    apply Array.ext'
    rw [Array.toList_extract, List.extract_eq_take_drop, List.drop_zero]
    have h1 : (cur.toList.take ((m :: ms).length * 38)).take 38 = ((m :: ms).flatMap MsgV.cells).take 38 := by rw [ht]
    rw [List.take_take, Nat.min_eq_left (by rw [List.length_cons]; omega)] at h1
    show cur.toList.take 38 = m.cells
    rw [h1, List.flatMap_cons, List.take_append_of_le_length (by rw [m.len hm]; exact Nat.le_refl _), List.take_of_length_le (by rw [m.len hm]; exact Nat.le_refl _)]

/-- A link, as plain data. -/
structure Lk where
  c : Ch
  j : Jo
  rest : ByteArray
  out : ByteArray
  ev : Value
  ticks : Int
  dead : Bool
  broken : Bool
  waits : Bool
def Lk.v (l : Lk) (sp en lo : Nat) : LinkV := ⟨sp, en, lo, l.out, l.ev, l.ticks, l.dead, l.broken, l.waits⟩
/-- A link lies in block g; all its blocks are in S. -/
structure LkP (w : World) (g : Nat) (S : Nat → Prop) (l : Lk) (sp en lo : Nat) (SC SJ : Nat → Prop) : Prop where
  at_ : LkR w g (l.v sp en lo)
  spl : SpR w sp l.rest
  chn : ChS w en SC l.c
  jou : JoS w lo SJ l.j
  inG : S g
  inS : S sp
  inC : ∀ k, SC k → S k
  inJ : ∀ k, SJ k → S k
  gC : ¬ SC g
  gJ : ¬ SJ g
  sC : ¬ SC sp
  sJ : ¬ SJ sp
  cJ : ∀ k, SC k → ¬ SJ k
  lt : ∀ k, S k → k < w.heap.size
def LkS (w : World) (g : Nat) (S : Nat → Prop) (l : Lk) : Prop := ∃ sp en lo SC SJ, LkP w g S l sp en lo SC SJ
section
variable {w w' : World} {g : Nat} {S T : Nat → Prop} {l : Lk} {sp en lo : Nat} {SC SJ : Nat → Prop}
theorem LkP.upd (h : LkP w g S l sp en lo SC SJ) (u : Upd T w w') (hd : ∀ k, S k → ¬ T k) : LkP w' g S l sp en lo SC SJ :=
  ⟨u.old h.at_ (hd g h.inG), u.old h.spl (hd sp h.inS), h.chn.upd u (fun k hk => hd k (h.inC k hk)), h.jou.upd u (fun k hk => hd k (h.inJ k hk)), h.inG, h.inS, h.inC, h.inJ, h.gC, h.gJ, h.sC, h.sJ, h.cJ, fun k hk => Nat.lt_of_lt_of_le (h.lt k hk) u.size⟩
theorem LkS.upd (h : LkS w g S l) (u : Upd T w w') (hd : ∀ k, S k → ¬ T k) : LkS w' g S l := by
  obtain ⟨sp, en, lo, SC, SJ, h⟩ := h
  exact ⟨sp, en, lo, SC, SJ, h.upd u hd⟩
theorem LkS.new (h : LkS w g S l) (u : New w w') : LkS w' g S l := h.upd u (fun _ _ h => h)
theorem LkP.new (h : LkP w g S l sp en lo SC SJ) (u : New w w') : LkP w' g S l sp en lo SC SJ := h.upd u (fun _ _ h => h)
theorem LkS.lt (h : LkS w g S l) : ∀ k, S k → k < w.heap.size := by
  obtain ⟨sp, en, lo, SC, SJ, h⟩ := h
  exact h.lt
theorem LkP.ne (h : LkP w g S l sp en lo SC SJ) : g ≠ sp := apart_ty' h.at_ h.spl (by decide)
theorem LkP.wider (h : LkP w g S l sp en lo SC SJ) (hs : ∀ k, S k → T k) (hl : ∀ k, T k → k < w.heap.size) : LkP w g T l sp en lo SC SJ :=
  ⟨h.at_, h.spl, h.chn, h.jou, hs g h.inG, hs sp h.inS, fun k e => hs k (h.inC k e), fun k e => hs k (h.inJ k e), h.gC, h.gJ, h.sC, h.sJ, h.cJ, hl⟩
/-- The channel goes on. -/
theorem LkP.chan (h : LkP w g S l sp en lo SC SJ) (u : Upd SC w w') {c' : Ch} (hc : ChS w' en (Fr SC w w') c') : LkP w' g (Fr S w w') { l with c := c' } sp en lo (Fr SC w w') SJ := by
  have hge : ∀ k, Fr SC w w' k → k < w.heap.size → SC k := fun k hk hl => hk.elim id (fun e => by omega)
  refine ⟨u.old h.at_ h.gC, u.old h.spl h.sC, hc, h.jou.upd u (fun k hk e => h.cJ k e hk), .inl h.inG, .inl h.inS, ?_, fun k hk => .inl (h.inJ k hk), ?_, h.gJ, ?_, h.sJ, ?_, ?_⟩
  · rintro k (hk | hk)
    · exact .inl (h.inC k hk)
    · exact .inr hk
  · exact fun e => h.gC (hge g e (h.lt g h.inG))
  · exact fun e => h.sC (hge sp e (h.lt sp h.inS))
  · exact fun k hk hj => h.cJ k (hge k hk (h.jou.lt k hj)) hj
  · rintro k (hk | hk)
    · exact Nat.lt_of_lt_of_le (h.lt k hk) u.size
    · exact hk.2
/-- The journal goes on. -/
theorem LkP.jour (h : LkP w g S l sp en lo SC SJ) (u : Upd SJ w w') {j' : Jo} (hc : JoS w' lo (Fr SJ w w') j') : LkP w' g (Fr S w w') { l with j := j' } sp en lo SC (Fr SJ w w') := by
  have hge : ∀ k, Fr SJ w w' k → k < w.heap.size → SJ k := fun k hk hl => hk.elim id (fun e => by omega)
  refine ⟨u.old h.at_ h.gJ, u.old h.spl h.sJ, h.chn.upd u (fun k hk e => h.cJ k hk e), hc, .inl h.inG, .inl h.inS, fun k hk => .inl (h.inC k hk), ?_, h.gC, ?_, h.sC, ?_, ?_, ?_⟩
  · rintro k (hk | hk)
    · exact .inl (h.inJ k hk)
    · exact .inr hk
  · exact fun e => h.gJ (hge g e (h.lt g h.inG))
  · exact fun e => h.sJ (hge sp e (h.lt sp h.inS))
  · exact fun k hk hj => h.cJ k hk (hge k hj (h.chn.lt k hk))
  · rintro k (hk | hk)
    · exact Nat.lt_of_lt_of_le (h.lt k hk) u.size
    · exact hk.2
/-- A cell of the link's own block set. -/
theorem LkP.put (h : LkP w g S l sp en lo SC SJ) {i : Nat} {x : Value} {l' : Lk} (he : (l.v sp en lo).cells.toArray.setIfInBounds i x = (l'.v sp en lo).cells.toArray) (hr : l'.rest = l.rest) (hc : l'.c = l.c) (hj : l'.j = l.j) :
    LkP (w.setCell ⟨g, i, none⟩ x) g S l' sp en lo SC SJ := by
  have u : Upd (· = g) w (w.setCell ⟨g, i, none⟩ x) := (Upd.refl _ _).set1 i x
  refine ⟨?_, ?_, ?_, ?_, h.inG, h.inS, h.inC, h.inJ, h.gC, h.gJ, h.sC, h.sJ, h.cJ, fun k hk => Nat.lt_of_lt_of_le (h.lt k hk) u.size⟩
  · have := blk_set h.at_ i x
    rw [he] at this
    exact this
  · rw [hr]; exact u.old h.spl (fun e => h.ne e.symm)
  · rw [hc]; exact h.chn.upd u (fun k hk e => h.gC (e ▸ hk))
  · rw [hj]; exact h.jou.upd u (fun k hk e => h.gJ (e ▸ hk))
end
theorem LkP.put_out {w : World} {g : Nat} {S : Nat → Prop} {l : Lk} {sp en lo : Nat} {SC SJ : Nat → Prop} (h : LkP w g S l sp en lo SC SJ) (s : ByteArray) : LkP (w.setCell ⟨g, 3, none⟩ (.string s)) g S { l with out := s } sp en lo SC SJ := h.put rfl rfl rfl rfl
theorem LkP.put_ticks {w : World} {g : Nat} {S : Nat → Prop} {l : Lk} {sp en lo : Nat} {SC SJ : Nat → Prop} (h : LkP w g S l sp en lo SC SJ) (n : Int) : LkP (w.setCell ⟨g, 5, none⟩ (.int .i64 n)) g S { l with ticks := n } sp en lo SC SJ := h.put rfl rfl rfl rfl
theorem LkP.put_dead {w : World} {g : Nat} {S : Nat → Prop} {l : Lk} {sp en lo : Nat} {SC SJ : Nat → Prop} (h : LkP w g S l sp en lo SC SJ) (b : Bool) : LkP (w.setCell ⟨g, 6, none⟩ (.bool b)) g S { l with dead := b } sp en lo SC SJ := h.put rfl rfl rfl rfl
def Lk.new (c : Ch) : Lk := ⟨c, .new, ⟨#[]⟩, ⟨#[]⟩, nilV, 0, false, false, false⟩

set_option maxRecDepth 100000 in
set_option maxHeartbeats 1000000 in
theorem lnum_any (n width : Nat) (w : World) (hw1 : 1 ≤ width) (hw8 : width ≤ 8) (hn : n < 2 ^ (8 * width)) :
    Calls Tryz.prog 48 #[.int .u64 n, .int .i64 width] w (Makes (.string (numS n width)) w) := by
  go_enter Tryz.func48, Tryz.ntmps48
  go_upto_region 2 with fail
  have b1 : Wr (w.alloc (.cells #[.string ⟨#[]⟩] 174)) w.heap.size ⟨#[]⟩ := blk_alloc _ _
  have n1 : New w (w.alloc (.cells #[.string ⟨#[]⟩] 174)) := (Upd.refl _ _).alloc _
  have hz : ¬ w.heap.size < w.heap.size := Nat.lt_irrefl _
  generalize w.alloc (.cells #[.string ⟨#[]⟩] 174) = w1 at b1 n1 ⊢
  have N1 := hide n1
  have HZ := hide hz
  generalize hB : w.heap.size = B at b1 HZ ⊢
  have HB := hide hB
  clear n1 hB hz
  have e0 : (⟨#[]⟩ : ByteArray) ++ numS n width = numS n width := ByteArray.empty_append
  have hcall := number_any B n width ⟨#[]⟩ w1 b1 hw1 hw8 hn (by show (0 : Nat) ≤ _; omega)
  rw [e0] at hcall
  generalize hv : numS n width = v at hcall
  have HV := hide hv
  clear e0 b1 hn hw1 hw8 hv
  go_wp2_with fail
  refine hcall.mono ?_
  rintro e w2 ⟨rfl, u2, h2⟩
  have N2 := hide ((unhide N1).then u2 (fun k hk e => by have := unhide HB; omega))
  clear hcall u2
  go_wp2_with fail
  refine (bytesW_any _ _ _ h2).mono ?_
  rintro e w3 ⟨rfl, rfl⟩
  go_wp2_with fail
  go_ret
  exact ⟨by rw [unhide HV]; rfl, unhide N2⟩
attribute [local go_sem ↓ high] ld_hsh_fold st_hsh_fold al_hsh_fold
attribute [local go_sem] ld_hsh st_hsh al_hsh rowN_drew
set_option maxRecDepth 100000 in
set_option maxHeartbeats 1000000 in
theorem lhash_any (h : List Int) (w : World) (hl : h.length = 32) :
    Calls Tryz.prog 49 #[.agg (hshV h).toArray] w (Makes (.string (strOfNums h)) w) := by
  go_enter Tryz.func49, Tryz.ntmps49
  go_upto_region 1 with fail
  have hb := blk_alloc w (.cells (hshV h).toArray 35)
  have n1 : New w (w.alloc (.cells (hshV h).toArray 35)) := (Upd.refl _ _).alloc _
  generalize w.alloc (.cells (hshV h).toArray 35) = w1 at hb n1 ⊢
  generalize w.heap.size = B at hb ⊢
  have hst : (convert 95 9 (.slice (some ⟨B, 0, none⟩) 32 32)).run Tryz.prog w1 = .ok (.string (strOfNums h)) w1 := by
    refine run_convert_bytes_arg w1 95 5 Tryz.underlying95 Tryz.underlying5 B 0 32 32 h hl (fun i hi => ?_) 9 Tryz.underlying9
    have hli : i < h.length := by omega
    rw [Nat.zero_add, blk_cell hb i, List.getElem?_toArray]
    unfold hshV
    rw [List.getElem?_map, List.getElem?_eq_getElem hli]
    simp [List.getD, List.getElem?_eq_getElem hli]
  generalize hqe : strOfNums h = q at hst
  have HQE := hide hqe
  clear hqe
  have N1 := hide n1
  clear n1
  go_wp2_with fail
  go_ret
  exact ⟨by rw [unhide HQE]; rfl, unhide N1⟩
end Go.Proofs.YtfmkdoachjgjbaaGreatDoor
namespace Go.Proofs.YtfmkdoachjgjbaaGreatDoor
open Go.RowKit

def joiF (n : Nat) : Nat := if n = 156 then 114 else if n = 165 then 150 else if n = 166 then 125 else if n = 169 then 151 else if n = 240 then 163 else if n = 241 then 184 else if n = 276 then 195 else if n = 277 then 207 else n
def joiT (n : Nat) : Nat := if n = 0 then 0 else if n = 3 then 3 else if n = 4 then 4 else if n = 5 then 5 else if n = 9 then 9 else if n = 20 then 20 else if n = 31 then 163 else if n = 37 then 95 else if n = 70 then 209 else if n = 72 then 211 else if n = 75 then 217 else if n = 76 then 218 else if n = 80 then 100 else if n = 127 then 279 else if n = 164 then 292 else n
def joiR : Go.Shelf.Ren := ⟨joiF, joiT, fun n => n⟩
theorem joiL : Lays.n156 Tryz.prog joiR where
  mixed := by kernel_rfl
  f156 := by kernel_rfl
  f165 := by kernel_rfl
  f166 := by kernel_rfl
  f169 := by kernel_rfl
  f240 := by kernel_rfl
  f241 := by kernel_rfl
  f276 := by kernel_rfl
  f277 := by kernel_rfl
  t0 := Tryz.underlying0
  a0 := Tryz.isAgg0
  z0 := Tryz.sizeOf0
  v0 := Tryz.zeroValue0
  t3 := Tryz.underlying3
  a3 := Tryz.isAgg3
  z3 := Tryz.sizeOf3
  v3 := Tryz.zeroValue3
  t4 := Tryz.underlying4
  a4 := Tryz.isAgg4
  z4 := Tryz.sizeOf4
  v4 := Tryz.zeroValue4
  t9 := Tryz.underlying9
  a9 := Tryz.isAgg9
  z9 := Tryz.sizeOf9
  v9 := Tryz.zeroValue9
  t20 := Tryz.underlying20
  a20 := Tryz.isAgg20
  z20 := Tryz.sizeOf20
  v20 := Tryz.zeroValue20
  t31 := Tryz.underlying163
  a31 := Tryz.isAgg163
  z31 := Tryz.sizeOf163
  v31 := Tryz.zeroValue163
  t37 := Tryz.underlying95
  a37 := Tryz.isAgg95
  z37 := Tryz.sizeOf95
  v37 := Tryz.zeroValue95
  t70 := Tryz.underlying209
  a70 := Tryz.isAgg209
  z70 := Tryz.sizeOf209
  v70 := Tryz.zeroValue209
  t72 := Tryz.underlying211
  a72 := Tryz.isAgg211
  z72 := Tryz.sizeOf211
  v72 := Tryz.zeroValue211
  t75 := Tryz.underlying217
  a75 := Tryz.isAgg217
  z75 := Tryz.sizeOf217
  v75 := Tryz.zeroValue217
  t76 := Tryz.underlying218
  a76 := Tryz.isAgg218
  z76 := Tryz.sizeOf218
  v76 := Tryz.zeroValue218
  t127 := Tryz.underlying279
  a127 := Tryz.isAgg279
  z127 := Tryz.sizeOf279
  v127 := Tryz.zeroValue279
  t164 := Tryz.underlying292
  a164 := Tryz.isAgg292
  z164 := Tryz.sizeOf292
  v164 := Tryz.zeroValue292
theorem joiX : Builder.Extra Tryz.prog joiR where
  sizeBuilder := by kernel_rfl
  liesBuilder := by kernel_rfl
  t5 := Tryz.underlying5
  a5 := Tryz.isAgg5
  z5 := Tryz.sizeOf5
  v5 := Tryz.zeroValue5
  infoByte := by kernel_rfl
  cellsByte := by kernel_rfl
  sizeByte := by kernel_rfl
  neB5 := by decide
def joinS : List ByteArray → ByteArray
  | [] => ⟨#[]⟩
  | x :: r => x ++ joinS r
theorem inter_nil {α : Type} : ∀ zs : List (List α), ([] : List α).intercalate zs = zs.flatten
  | [] => rfl
  | [x] => by rw [List.intercalate_singleton]; simp
  | x :: y :: r => by rw [List.intercalate_cons_cons, inter_nil (y :: r)]; simp
theorem join_nil (xs : List ByteArray) : (⟨(Lib.join (xs.map (·.data.toList)) []).toArray⟩ : ByteArray) = joinS xs := by
  unfold Lib.join
  rw [inter_nil]
  induction xs with
  | nil => rfl
  | cons x r ih =>
    rw [List.map_cons, List.flatten_cons, joinS, ← ih]
    apply ByteArray.ext
    simp [ByteArray.data_append]
theorem join_any (b : Nat) (xs : List ByteArray) (w : World) (hc : ∀ j x, xs[j]? = some x → w.cell? ⟨b, j, none⟩ = some (.string x)) (hb : b < w.heap.size) (hn : xs.length ≤ 1000) (hl : (joinS xs).size ≤ 1000000000) :
    Calls Tryz.prog 114 #[.slice (some ⟨b, 0, none⟩) xs.length xs.length, .string ⟨#[]⟩] w (Makes (.string (joinS xs)) w) := by
  have e := join_nil xs
  refine (Any.strings_Join joiL joiX b 0 xs.length xs ⟨#[]⟩ w (fun j x h => by rw [Nat.zero_add]; exact hc j x h) hb (by omega) (Nat.le_refl _) ?_).mono ?_
  · have : (Lib.join (xs.map (·.data.toList)) []).length = (joinS xs).size := by rw [← e]; simp [ByteArray.size]
    show (Lib.join (xs.map (·.data.toList)) []).length ≤ _
    omega
  · rintro r w' ⟨rfl, hw⟩
    exact ⟨congrArg (fun s => Ending.returned (Value.string s)) e, Upd.of_below hw (Nat.le_refl _)⟩
end Go.Proofs.YtfmkdoachjgjbaaGreatDoor
