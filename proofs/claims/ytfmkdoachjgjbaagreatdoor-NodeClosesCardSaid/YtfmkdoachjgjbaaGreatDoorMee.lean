/-
  A node with one peer: Sweep.
-/
import Derived.Test.YtfmkdoachjgjbaaGreatDoorMed
import Derived.Test.YtfmkdoachjgjbaaGreatDoorMbd
import Derived.Test.YtfmkdoachjgjbaaGreatDoorMdb
import Derived.Test.YtfmkdoachjgjbaaGreatDoorMcf
set_option linter.unusedVariables false
set_option linter.unusedSimpArgs false
namespace Go.Proofs.YtfmkdoachjgjbaaGreatDoor
open Go.RowKit

def NodeV.sweeps (N : NodeV) (b : Int) (t : List Bool) : NodeV := { N with funds := IntKind.u64.wrap (N.funds + b), swept := true :: t }
theorem set_funds (N : NodeV) (f : Int) : N.cells.toArray.setIfInBounds 1 (.int .u64 f) = ({ N with funds := f } : NodeV).cells.toArray := rfl
theorem set_swept (N : NodeV) (hs : N.shut.length = 8) (b : Bool) (t : List Bool) (h : N.swept = b :: t) : N.cells.toArray.setIfInBounds 11 (.bool true) = ({ N with swept := true :: t } : NodeV).cells.toArray := by
  obtain ⟨re, fu, dr, sh, sw⟩ := N
  have hs : sh.length = 8 := hs
  have h : sw = b :: t := h
  subst h
  match sh, hs with
  | [a0, a1, a2, a3, a4, a5, a6, a7], _ => rfl
section
variable {w w' : World} {g : Nat} {N N' : NodeV} {R : RelV} {ch : Int} {k : Nat} {S : Nat → Prop} {L : Lk} {m : Nat}
/-- The node's own block set. -/
theorem NodS.own (h : NodS w g N R ch k S L m) (u : Upd (· = g) w w') (hn : NoR w' g N') (hr : N'.re = N.re) : NodS w' g N' R ch k S L m := by
  have hnr : g ≠ N.re := apart_ty' h.no h.re (by decide)
  refine ⟨hn, by rw [hr]; exact u.old h.re (fun e => hnr e.symm), row_upd' h.row u (fun i hi e => ?_), h.lk.upd u (fun i hi e => h.gS (e ▸ hi)), Nat.le_trans h.bsle u.size, h.pay, h.gS, by rw [hr]; exact h.rS, h.bS, h.mS, Nat.lt_of_lt_of_le h.mlt u.size⟩
  obtain ⟨cur, hc⟩ := own_blk' h.row i hi
  exact apart_ty' hc h.no (by decide) e
end
attribute [local go_sem] fd_base0 rowN_drew
set_option maxRecDepth 100000 in
set_option maxHeartbeats 2000000 in
theorem sweep_any (g : Nat) (N : NodeV) (R : RelV) (ch : Int) (k : Nat) (S : Nat → Prop) (L : Lk) (m : Nat) (b : Bool) (t : List Bool) (cl : Bool) (w : World) (hN : NodS w g N R ch k S L m) (hs : N.shut.length = 8) (hb : N.swept = b :: t) (hcl : (L.c.k.shutSaid && L.c.k.shutHeard && L.c.xs.isEmpty) = cl) :
    Calls Tryz.prog 33 #[.pointer (some ⟨g, 0, none⟩)] w fun e w' => e = .returned (.int .i64 (if (cl && !b) = true then 1 else 0)) ∧ NodS w' g (if (cl && !b) = true then N.sweeps L.c.loc t else N) R ch k S L m ∧ Upd (· = g) w w' := by
  obtain ⟨lv, cv, hI, -⟩ := hN.toI
  obtain ⟨sp, en, lo, SC, SJ, hl⟩ := hN.lk
  have c0 : w.cell? ⟨g, 0, none⟩ = some (.pointer (some ⟨N.re, 0, none⟩)) := blk_cell hN.no 0
  have c1 : w.cell? ⟨g, 1, none⟩ = some (.int .u64 N.funds) := blk_cell hN.no 1
  have f1 : w.frozen? ⟨g, 1, none⟩ = false := blk_free hN.no 1
  have c11 : w.cell? ⟨g, 11, none⟩ = some (.bool b) := by
    rw [blk_cell hN.no 11, List.getElem?_toArray]
    exact node_swept N hs 0 b (by rw [hb]; rfl)
  have hmany := many_any N.re R [⟨ch, k, lv, cv⟩] w hI.re
  have hlk := fun W (n : New w W) => link_at N.re R [⟨ch, k, lv, cv⟩] W (hI.re.new n) (by simp) 0 ⟨ch, k, lv, cv⟩ rfl
  have hch : ∀ W (n : New w W), Calls Tryz.prog 19 #[.pointer (some ⟨k, 0, none⟩)] W (Reads (.pointer (some ⟨en, 0, none⟩)) W) := fun W (n : New w W) => chan_any k (L.v sp en lo) W ((hl.new n).at_)
  have hcd := fun W (n : New w W) => closed_any en SC L.c W ((hl.new n).chn)
  have hbs := fun W (n : New w W) => baseS_any en SC L.c W ((hl.new n).chn)
  simp only [hcl] at hcd
  have HN := hide hN
  clear hI hl hN
  go_enter Tryz.func33, Tryz.ntmps33
  go_wp2_with fail
  refine hmany.mono ?_
  rintro e w1 ⟨rfl, q1⟩
  have N1 := hide (q1.upd (fun _ => False))
  clear hmany q1
  go_wp2_with fail
  go_loopw [3, 4, 5, 11] (fun mv _ _ iv wr => (iv = .int .i64 0 ∧ mv = .int .i64 0 ∧ New w wr) ∨ (iv = .int .i64 1 ∧ mv = .int .i64 (if (cl && !b) = true then 1 else 0) ∧ Hid (NodS wr g (if (cl && !b) = true then N.sweeps L.c.loc t else N) R ch k S L m ∧ Upd (· = g) w wr))) (fun _ _ _ iv _ => 1 - (intOf iv).toNat)
  case atStart => exact .inl ⟨rfl, rfl, unhide N1⟩
  case round =>
    obtain ⟨wq, rfl⟩ : ∃ wq : World, wq = wr := ⟨_, rfl⟩
    rcases hrel with ⟨rfl, rfl, n⟩ | ⟨rfl, rfl, H⟩
    · have HQ := hide n
      have hlkw := hlk wq n
      have d0 := n.cell c0 (fun h => h)
      clear n N1
      go_wp2_with fail
      refine hlkw.mono ?_
      rintro e w2 ⟨rfl, q2⟩
      have n2 := (unhide HQ).trans (q2.upd (fun _ => False))
      have hchw := hch w2 n2
      have HQ := hide n2
      clear hlkw q2 d0 n2
      go_wp2_with fail
      refine hchw.mono ?_
      rintro e w3 ⟨rfl, q3⟩
      have n3 := (unhide HQ).trans (q3.upd (fun _ => False))
      have hcdw := hcd w3 n3
      have HQ := hide n3
      clear hchw q3 n3
      go_wp2_with fail
      refine hcdw.mono ?_
      rintro e w4 ⟨rfl, q4⟩
      have n4 := (unhide HQ).trans (q4.upd (fun _ => False))
      have d11 := n4.cell c11 (fun h => h)
      have d1 := n4.cell c1 (fun h => h)
      have hN4 := (unhide HN).new n4
      have g1 := blk_free hN4.no 1
      have hbw := hbs
      have HQ := hide n4
      have HN4 := hide hN4
      clear hcdw q4 n4 hN4
      cases cl with
      | false =>
        go_wp2_with fail
        go_roundw
        case rel => exact .inr ⟨rfl, rfl, hide ⟨unhide HN4, (unhide HQ).mono (fun _ _ h => h.elim)⟩⟩
        case measure => simp [intOf]
      | true =>
        cases b with
        | true =>
          go_wp2_with fail
          go_roundw
          case rel => exact .inr ⟨rfl, rfl, hide ⟨unhide HN4, (unhide HQ).mono (fun _ _ h => h.elim)⟩⟩
          case measure => simp [intOf]
        | false =>
          go_upto_region 7 with fail
          refine wp_plan (fun w' => w'.cell? ⟨g, 1, none⟩ = some (.int .u64 N.funds)) [3] (.of [0, 1, 2, 3, 4, 5, 6, 7, 8, 9, 10]) (by kernel_rfl) (by kernel_rfl) (show w4.drew.cell? _ = _ from d1) ?_
          simp only [Plan.of]
          have nd : New w4 w4.drew := (Upd.refl _ _).drew
          have e1 : w4.drew.cell? ⟨g, 1, none⟩ = some (.int .u64 N.funds) := d1
          have hbw := hbs _ ((unhide HQ).trans nd)
          have ND := hide nd
          clear nd hbs
          go_wp2_with (with_reducible first | (first | refine' qw1 (ido ?_) ?_ | refine' qw2 (ido ?_) ?_ | refine' qw3 (ido ?_) ?_); rotate_left | refine' qw4 (ido ?_) | refine' qw5 (ido ?_) | rfl | apply qn)
          refine hbw.mono ?_
          rintro e w5 ⟨rfl, n5⟩
          have n5 := (unhide ND).trans n5
          have hN5 := (unhide HN4).new n5
          have k1 : w5.cell? ⟨g, 1, none⟩ = some (.int .u64 N.funds) := blk_cell hN5.no 1
          have g5 := blk_free hN5.no 1
          have h6 := blk_set hN5.no 1 (.int .u64 (IntKind.u64.wrap (N.funds + L.c.loc)))
          rw [set_funds] at h6
          have u6 : Upd (· = g) w5 (w5.setCell ⟨g, 1, none⟩ (.int .u64 (IntKind.u64.wrap (N.funds + L.c.loc)))) := (Upd.refl _ _).set1 _ _
          have hN6 := hN5.own u6 h6 rfl
          have hs6 : ({ N with funds := IntKind.u64.wrap (N.funds + L.c.loc) } : NodeV).shut.length = 8 := hs
          have k11 : (w5.setCell ⟨g, 1, none⟩ (.int .u64 (IntKind.u64.wrap (N.funds + L.c.loc)))).cell? ⟨g, 11, none⟩ = some (.bool false) := by
            rw [blk_cell hN6.no 11, List.getElem?_toArray]
            exact node_swept _ hs6 0 false (by show N.swept[0]? = _; rw [hb]; rfl)
          have g11 : (w5.setCell ⟨g, 1, none⟩ (.int .u64 (IntKind.u64.wrap (N.funds + L.c.loc)))).frozen? ⟨g, 11, none⟩ = false := blk_free hN6.no 11
          have h7 := blk_set hN6.no 11 (.bool true)
          rw [set_swept _ hs6 false t hb] at h7
          have u7 : Upd (· = g) (w5.setCell ⟨g, 1, none⟩ (.int .u64 (IntKind.u64.wrap (N.funds + L.c.loc)))) ((w5.setCell ⟨g, 1, none⟩ (.int .u64 (IntKind.u64.wrap (N.funds + L.c.loc)))).setCell ⟨g, 11, none⟩ (.bool true)) := (Upd.refl _ _).set1 _ _
          have H6 := hide (And.intro (hN6.own (N' := N.sweeps L.c.loc t) u7 h7 rfl) ((((unhide HQ).mono (fun _ _ h => h.elim)).trans ((n5.mono (fun _ _ h => h.elim)).trans u6)).trans u7))
          clear hbw ND n5 hN5 h6 u6 hN6 h7 u7 hs6 hb hcd
          go_wp2_with (first | (with_reducible first | (first | refine' qw1 (ido ?_) ?_ | refine' qw2 (ido ?_) ?_ | refine' qw3 (ido ?_) ?_); rotate_left | refine' qw4 (ido ?_) | refine' qw5 (ido ?_) | rfl | apply qn) | refine ⟨k1, ?_⟩ | refine ⟨trivial, ?_⟩)
          go_roundw
          case rel => exact .inr ⟨rfl, rfl, H6⟩
          case measure => simp [intOf]
    · clear hcd hbs hch hlk c0 c1 f1 c11 N1 hcl
      cases cl <;> cases b
      all_goals
        go_wp2_with fail
        go_ret
        exact ⟨rfl, unhide H⟩
end Go.Proofs.YtfmkdoachjgjbaaGreatDoor
namespace Go.Proofs.YtfmkdoachjgjbaaGreatDoor
open Go.RowKit

/-- The number of the first n bytes. -/
def rdN (s : ByteArray) : Nat → Int
  | 0 => 0
  | n + 1 => rdN s n * 256 + bt s n
theorem rdN_bd (s : ByteArray) : ∀ n, 0 ≤ rdN s n ∧ rdN s n < 256 ^ n
  | 0 => ⟨Int.le_refl _, by show (0 : Int) < 1; decide⟩
  | n + 1 => by
    have h := rdN_bd s n
    have b := bt_bd s n
    rw [Int.pow_succ]
    unfold rdN
    omega
theorem bt_extract (s : ByteArray) (n i : Nat) (hi : i < n) (hn : n ≤ s.size) : bt (s.extract 0 n) i = bt s i := by
  have h1 : i < (s.extract 0 n).size := by rw [ByteArray.size_extract]; omega
  rw [← bt_eq _ i h1, ← bt_eq s i (by omega), ByteArray.getElem_extract]
  simp
/-- The hash of the first 32 bytes. -/
def rdH (s : ByteArray) : List Int := (List.range 32).map (bt s)
theorem rdH_len (s : ByteArray) : (rdH s).length = 32 := by unfold rdH; simp
theorem rdH_bytes (s : ByteArray) : ∀ b ∈ rdH s, 0 ≤ b ∧ b ≤ 255 := by
  intro b hb
  obtain ⟨i, -, rfl⟩ := List.mem_map.1 hb
  exact bt_bd s i
def Fld.wid : Fld → Nat
  | .ch => 4
  | .id => 8
  | .amount => 8
  | .hash => 32
  | .expiry => 4
  | .number => 2
def Fld.get (x : Fld) (s : ByteArray) (m : MsgV) : MsgV :=
  match x with
  | .ch => { m with ch := rdN s 4 }
  | .id => { m with id := rdN s 8 }
  | .amount => { m with amount := rdN s 8 }
  | .hash => { m with hash := rdH s }
  | .expiry => { m with expiry := rdN s 4 }
  | .number => { m with number := rdN s 2 }
theorem get_ok {m : MsgV} (h : MsgOk m) (x : Fld) (s : ByteArray) : MsgOk (x.get s m) := by
  have h2 : 0 ≤ rdN s 2 ∧ rdN s 2 < 65536 := rdN_bd s 2
  have h4 : 0 ≤ rdN s 4 ∧ rdN s 4 < 4294967296 := rdN_bd s 4
  have h8 : 0 ≤ rdN s 8 ∧ rdN s 8 < 18446744073709551616 := rdN_bd s 8
  cases x
  · exact ⟨h.kind, h4, h.id, h.amount, h.len, h.hash, h.expiry, h.number⟩
  · exact ⟨h.kind, h.ch, h8, h.amount, h.len, h.hash, h.expiry, h.number⟩
  · exact ⟨h.kind, h.ch, h.id, h8, h.len, h.hash, h.expiry, h.number⟩
  · exact ⟨h.kind, h.ch, h.id, h.amount, rdH_len s, rdH_bytes s, h.expiry, h.number⟩
  · exact ⟨h.kind, h.ch, h.id, h.amount, h.len, h.hash, ⟨show -9223372036854775808 ≤ rdN s 4 by omega, show rdN s 4 ≤ 9223372036854775807 by omega⟩, h.number⟩
  · exact ⟨h.kind, h.ch, h.id, h.amount, h.len, h.hash, h.expiry, ⟨show -9223372036854775808 ≤ rdN s 2 by omega, show rdN s 2 ≤ 9223372036854775807 by omega⟩⟩
theorem get_kind (x : Fld) (s : ByteArray) (m : MsgV) : (x.get s m).kind = m.kind := by cases x <;> rfl
/-- Fields, read one behind the other. -/
def getL : List Fld → ByteArray → MsgV → Option (MsgV × ByteArray)
  | [], s, m => some (m, s)
  | x :: xs, s, m => if s.size < x.wid then none else getL xs (s.extract x.wid s.size) (x.get s m)
theorem getL_snoc (x : Fld) : ∀ (xs : List Fld) (s : ByteArray) (m : MsgV), getL (xs ++ [x]) s m = (getL xs s m).bind fun p => if p.2.size < x.wid then none else some (x.get p.2 p.1, p.2.extract x.wid p.2.size)
  | [], s, m => rfl
  | y :: ys, s, m => by
    show (if s.size < y.wid then none else getL (ys ++ [x]) _ _) = _
    rw [getL]
    split
    · rfl
    · exact getL_snoc x ys _ _
theorem getL_take {xs : List Fld} {i : Nat} {x : Fld} (h : xs[i]? = some x) {s r : ByteArray} {m n : MsgV} (hg : getL (xs.take i) s m = some (n, r)) : getL (xs.take (i + 1)) s m = if r.size < x.wid then none else some (x.get r n, r.extract x.wid r.size) := by
  rw [List.take_add_one, h]
  show getL (xs.take i ++ [x]) s m = _
  rw [getL_snoc, hg]
  rfl
theorem getL_none {s : ByteArray} {m : MsgV} : ∀ (xs ys : List Fld), getL xs s m = none → getL (xs ++ ys) s m = none := by
  intro xs
  induction xs generalizing s m with
  | nil => intro ys h; cases h
  | cons x xs ih =>
    intro ys h
    show (if s.size < x.wid then none else getL (xs ++ ys) _ _) = none
    rw [getL] at h
    split
    · rfl
    · rename_i hs
      rw [if_neg hs] at h
      exact ih ys h
theorem getL_ok {r : ByteArray} {n : MsgV} : ∀ (xs : List Fld) (s : ByteArray) (m : MsgV), MsgOk m → getL xs s m = some (n, r) → MsgOk n ∧ n.kind = m.kind ∧ r.size ≤ s.size
  | [], s, m, h, e => by
    cases e
    exact ⟨h, rfl, Nat.le_refl _⟩
  | x :: xs, s, m, h, e => by
    rw [getL] at e
    split at e
    · cases e
    · obtain ⟨h1, h2, h3⟩ := getL_ok xs _ _ (get_ok h x s) e
      rw [ByteArray.size_extract] at h3
      exact ⟨h1, h2.trans (get_kind x s m), by omega⟩
/-- The message that bytes are, or the error. -/
def decL (s : ByteArray) : MsgV × Int :=
  if s.size = 0 then (MsgV.zero, 10) else
  match fieldsOf (bt s 0) with
  | none => (MsgV.zero, 70)
  | some xs => match getL xs (s.extract 1 s.size) (kindMsg (bt s 0)) with
    | none => (MsgV.zero, 10)
    | some (m, r) => if r.size ≠ 0 then (MsgV.zero, 11) else if mayMsg m = true then (m, 0) else (MsgV.zero, 1)
theorem dec_empty {s : ByteArray} (h : s.size = 0) : decL s = (MsgV.zero, 10) := by unfold decL; rw [if_pos h]
theorem dec_kind {s : ByteArray} (h : s.size ≠ 0) (hf : fieldsOf (bt s 0) = none) : decL s = (MsgV.zero, 70) := by unfold decL; rw [if_neg h, hf]
theorem dec_short {s : ByteArray} {xs : List Fld} (h : s.size ≠ 0) (hf : fieldsOf (bt s 0) = some xs) (hg : getL xs (s.extract 1 s.size) (kindMsg (bt s 0)) = none) : decL s = (MsgV.zero, 10) := by unfold decL; rw [if_neg h, hf]; simp only []; rw [hg]
theorem dec_more {s r : ByteArray} {m : MsgV} {xs : List Fld} (h : s.size ≠ 0) (hf : fieldsOf (bt s 0) = some xs) (hg : getL xs (s.extract 1 s.size) (kindMsg (bt s 0)) = some (m, r)) (hr : r.size ≠ 0) : decL s = (MsgV.zero, 11) := by unfold decL; rw [if_neg h, hf]; simp only []; rw [hg]; simp only []; rw [if_pos hr]
theorem dec_may {s r : ByteArray} {m : MsgV} {xs : List Fld} (h : s.size ≠ 0) (hf : fieldsOf (bt s 0) = some xs) (hg : getL xs (s.extract 1 s.size) (kindMsg (bt s 0)) = some (m, r)) (hr : r.size = 0) (hm : mayMsg m = true) : decL s = (m, 0) := by unfold decL; rw [if_neg h, hf]; simp only []; rw [hg]; simp only []; rw [if_neg (by omega), if_pos hm]
theorem dec_not {s r : ByteArray} {m : MsgV} {xs : List Fld} (h : s.size ≠ 0) (hf : fieldsOf (bt s 0) = some xs) (hg : getL xs (s.extract 1 s.size) (kindMsg (bt s 0)) = some (m, r)) (hr : r.size = 0) (hm : mayMsg m = false) : decL s = (MsgV.zero, 1) := by unfold decL; rw [if_neg h, hf]; simp only []; rw [hg]; simp only []; rw [if_neg (by omega), if_neg (by rw [hm]; decide)]
end Go.Proofs.YtfmkdoachjgjbaaGreatDoor
