/-
  The evaluator's append, copy, conversions, new rows and maps.
-/
import Derived.Test.YtjckpgcmfieaoaaGreatDoorMai
import Derived.Deep.AppendSrc
import Derived.Laws.BytesString
set_option linter.unusedVariables false
set_option linter.unusedSimpArgs false
namespace Go.Proofs.YtjckpgcmfieaoaaGreatDoor
open Go.RowKit

section
variable {P : Program} {w0 : World} {β : EMp} {s s' : ESt} {w : World}
theorem eBytesV_VRs : ∀ (l : List UInt8), VRs β (eBytesV (l.map (·.toNat))) (l.map fun b => Value.int .u8 b.toNat)
  | [] => .nil
  | b :: l => .cons (.int .u8 (b.toNat : Int)) (eBytesV_VRs l)
theorem eBytesV_len (l : List Nat) : (eBytesV l).length = l.length := by
  induction l with
  | nil => rfl
  | cons a l ih => exact congrArg (· + 1) ih
/-- What is appended, or copied. -/
theorem eElems_run {sz n : Nat} {y : EV} {v : Value} {new : List EV} (h : HR w0 β s w) (hv : VR β y v) (he : eElems sz y s = some (n, new)) :
    ∃ vs, VRs β new vs ∧ vs.length = n * sz ∧ (∀ w', (Builtin.lenOf v).run P w' = .ok n w') ∧
      ((∃ a c, v = .slice (some a) n c ∧ ∀ j u, vs[j]? = some u → w.cell? (a.add j) = some u) ∨ (v = .slice none 0 0 ∧ n = 0 ∧ vs = []) ∨ (∃ b : ByteArray, v = .string b ∧ n = b.size ∧ vs = byteCells b ∧ sz = 1)) := by
  cases hv with
  | sl hb h0 hz =>
    rename_i b o len cap cap' z l
    have he2 : (match s.loadN b o (len * sz) with | some cs => some (len, cs) | none => none) = some (n, new) := he
    clear he
    cases hl : s.loadN b o (len * sz) with
    | none => rw [hl] at he2; cases he2
    | some cs =>
      rw [hl] at he2
      obtain ⟨rfl, rfl⟩ := Prod.mk.inj (Option.some.inj he2)
      obtain ⟨vs, g1, g2, g3⟩ := h.loadN hb hl
      exact ⟨vs, g2, g1, fun _ => rfl, .inl ⟨_, _, rfl, fun j u hu => by rw [addr_add]; exact g3 j u hu⟩⟩
  | sle hb =>
    rename_i b o z l a
    have he2 : (match s.loadN b o (0 * sz) with | some cs => some (0, cs) | none => none) = some (n, new) := he
    clear he
    cases hl : s.loadN b o (0 * sz) with
    | none => rw [hl] at he2; cases he2
    | some cs =>
      rw [hl] at he2
      obtain ⟨rfl, rfl⟩ := Prod.mk.inj (Option.some.inj he2)
      obtain ⟨vs, g1, g2, g3⟩ := h.loadN hb hl
      obtain rfl : vs = [] := List.eq_nil_of_length_eq_zero (by simpa using g1)
      exact ⟨[], g2, by simp, fun _ => rfl, .inl ⟨_, _, rfl, fun j u hu => by cases hu⟩⟩
  | snil =>
    obtain ⟨rfl, rfl⟩ := Prod.mk.inj (Option.some.inj (show some (0, []) = some (n, new) from he))
    exact ⟨[], .nil, by simp, fun _ => rfl, .inr (.inl ⟨rfl, rfl, rfl⟩)⟩
  | str hs =>
    rename_i l b
    have he2 : (match Nat.beq sz 1 with | true => some (l.length, eBytesV l) | false => none) = some (n, new) := he
    clear he
    cases h1 : Nat.beq sz 1 with
    | false => rw [h1] at he2; cases he2
    | true =>
      rw [h1] at he2
      obtain ⟨rfl, rfl⟩ := Prod.mk.inj (Option.some.inj he2)
      obtain rfl := Nat.eq_of_beq_eq_true h1
      have hlen : b.size = l.length := by rw [← hs]; simp
      refine ⟨byteCells b, by rw [← hs]; exact eBytesV_VRs _, by rw [byteCells_length, hlen, Nat.mul_one], fun _ => by rw [← hlen]; rfl, .inr (.inr ⟨b, rfl, hlen.symm, rfl, rfl⟩)⟩
  | sstr hs =>
    rename_i l b
    have he2 : (match Nat.beq sz 1 with | true => some (sLen l, eCellsX l) | false => none) = some (n, new) := he
    clear he
    cases h1 : Nat.beq sz 1 with
    | false => rw [h1] at he2; cases he2
    | true =>
      rw [h1] at he2
      obtain ⟨rfl, rfl⟩ := Prod.mk.inj (Option.some.inj he2)
      obtain rfl := Nat.eq_of_beq_eq_true h1
      have hlen : b.size = sLen l := by rw [hs.len]; simp
      have hv := eCellsX_ok hs
      rw [List.map_map] at hv
      refine ⟨byteCells b, hv, by rw [byteCells_length, hlen, Nat.mul_one], fun _ => by rw [← hlen]; rfl, .inr (.inr ⟨b, rfl, hlen.symm, rfl, rfl⟩)⟩
  | _ => cases he
theorem eElems_src {sz n : Nat} {y : EV} {v : Value} {new : List EV} {tx : TypeId} (h : HR w0 β s w) (hv : VR β y v) (he : eElems sz y s = some (n, new)) (hk : (∃ e, eDesc P tx = some (.slice e)) ∨ eDesc P tx = some .string) (h1 : eAll new = true) :
    ∃ vs, VRs β new vs ∧ Src P sz tx v n vs w := by
  obtain ⟨vs, g1, g2, g3, g4⟩ := eElems_run (P := P) h hv he
  have hk' : (∃ e, P.underlying tx = some (.slice e)) ∨ P.underlying tx = some .string := hk.imp (fun ⟨e, h⟩ => ⟨e, eDesc_eq h⟩) eDesc_eq
  refine ⟨vs, g1, hk', g3, ?_, ?_, g2, g1.one h1⟩
  · rcases g4 with ⟨a, c, rfl, hc⟩ | ⟨rfl, rfl, rfl⟩ | ⟨b, rfl, rfl, rfl, rfl⟩
    · exact run_firstCells_some w sz n a n c vs g2 hc
    · exact run_firstCells_none w sz 0 0 0
    · exact firstCells_string b w
  · rcases g4 with ⟨a, c, rfl, hc⟩ | ⟨rfl, rfl, rfl⟩ | ⟨b, rfl, rfl, rfl, rfl⟩
    · exact run_firstCells_some w.drew sz n a n c vs g2 (by simpa using hc)
    · exact run_firstCells_none w.drew sz 0 0 0
    · exact firstCells_string b w.drew
theorem HR.drew (h : HR w0 β s w) : HR w0 β s w.drew := h.world (Upd.refl _ w).drew
theorem storeN_all {b o : Nat} {cs : List EV} {s' : ESt} (h : s.storeN b o cs = some s') : eAll cs = true := by
  unfold ESt.storeN at h
  rw [ESt.eta s] at h
  simp only at h
  cases hk : s.heap.get b with
  | none => rw [hk] at h; cases h
  | some k =>
    rw [hk] at h
    cases k with
    | row n c =>
      simp only at h
      cases hn : Nat.ble (o + cs.length) n with
      | false => rw [hn] at h; cases h
      | true =>
        rw [hn] at h
        cases ha : eAll cs with
        | false => rw [ha] at h; cases h
        | true => rfl
    | _ => cases h
/-- A block that nobody looks at any more. -/
theorem HR.dead (h : HR w0 β s w) (b : Nat) : HR w0 β (.mk (s.heap.set b .dead) s.next) w := by
  refine ⟨h.up, h.lt, fun x l k e1 e2 => ?_, fun b1 b2 l1 l2 k1 k2 e1 e2 g1 g2 v1 v2 e => ?_⟩
  · have e2 : (s.heap.set b .dead).get x = some k := e2
    by_cases hx : b = x
    · subst hx
      rw [ETr.get_set] at e2
      obtain rfl := Option.some.inj e2
      trivial
    · rw [ETr.get_set_ne _ _ hx] at e2
      exact h.blk x l k e1 e2
  · have old : ∀ (x : Nat) (kx : EBlk), (s.heap.set b .dead).get x = some kx → kx.live → s.heap.get x = some kx := fun x kx hx hv => by
      by_cases hxb : b = x
      · subst hxb
        rw [ETr.get_set] at hx
        obtain rfl := Option.some.inj hx
        cases hv
      · rwa [ETr.get_set_ne _ _ hxb] at hx
    exact h.inj b1 b2 l1 l2 k1 k2 e1 e2 (old b1 k1 g1 v1) (old b2 k2 g2 v2) v1 v2 e
theorem kill_inv {a : Option (Nat × Nat)} {s1 : ESt} (h : s.kill a = some s1) : ∃ b o n c, a = some (b, o) ∧ s.heap.get b = some (.row n c) ∧ s1 = .mk (s.heap.set b .dead) s.next := by
  unfold ESt.kill at h
  cases a with
  | none => cases h
  | some p =>
    obtain ⟨b, o⟩ := p
    rw [ESt.eta s] at h
    simp only at h
    cases hk : s.heap.get b with
    | none => rw [hk] at h; cases h
    | some k =>
      rw [hk] at h
      cases k with
      | row n c => obtain rfl := Option.some.inj h; exact ⟨b, o, n, c, rfl, hk, rfl⟩
      | _ => cases h
/-- A row that grows in its place: its number is new. -/
theorem HR.regrow (h : HR w0 β s w) {b : Nat} {l l2 : ELoc} {k k2 : EBlk} {w' : World} (hb : β b = some l) (hk : s.heap.get b = some k) (hl : k.live) (u : Upd (· = l.c) w w') (hc : l2.c = l.c) (hB : BR w0 (β.put s.next l2) k2 l2 w') :
    HR w0 (β.put s.next l2) (.mk ((s.heap.set b .dead).set s.next k2) (s.next + 1)) w' := by
  have hn := h.none_next
  have hbn : b ≠ s.next := fun e => by rw [e, hn] at hb; cases hb
  have hlc := (h.blk b l k hb hk).lives hl
  have up : Upd (fun _ => False) w0 w' := ⟨u.os.trans h.up.os, u.tape.trans h.up.tape, u.output.trans h.up.output, Nat.le_trans h.up.size u.size, fun i hi _ => (u.block i (Nat.lt_of_lt_of_le hi h.up.size) (by omega)).trans (h.up.block i hi (fun x => x))⟩
  have old : ∀ (x : Nat) (y : ELoc) (z : EBlk), x ≠ s.next → (β.put s.next l2) x = some y → ((s.heap.set b .dead).set s.next k2).get x = some z → z = .dead ∨ (x ≠ b ∧ β x = some y ∧ s.heap.get x = some z) := fun x y z hx e1 e2 => by
    rw [EMp.put_ne _ _ hx] at e1
    rw [ETr.get_set_ne _ _ (Ne.symm hx)] at e2
    by_cases hxb : b = x
    · subst hxb
      rw [ETr.get_set] at e2
      exact .inl (Option.some.inj e2).symm
    · rw [ETr.get_set_ne _ _ hxb] at e2
      exact .inr ⟨Ne.symm hxb, e1, e2⟩
  refine ⟨up, fun x y e => ?_, fun x y z e1 e2 => ?_, fun b1 b2 l1 l3 k1 k3 e1 e2 g1 g2 v1 v2 e => ?_⟩
  · by_cases hx : x = s.next
    · rw [hx]; exact Nat.lt_succ_self _
    · rw [EMp.put_ne _ _ hx] at e; exact Nat.lt_succ_of_lt (h.lt x y e)
  · by_cases hx : x = s.next
    · subst hx
      rw [EMp.put_at] at e1
      obtain rfl := Option.some.inj e1
      have e2 : ((s.heap.set b .dead).set s.next k2).get s.next = some z := e2
      rw [ETr.get_set] at e2
      obtain rfl := Option.some.inj e2
      exact hB
    · rcases old x y z hx e1 e2 with rfl | ⟨hxb, f1, f2⟩
      · trivial
      · refine (h.blk x y z f1 f2).keep (β.put_le l2 hn) fun e => u.block _ ?_ ?_
        · rcases e with e | e
          · exact ((h.blk x y z f1 f2).lives e).2
          · exact Nat.lt_of_lt_of_le e h.up.size
        · intro ec
          rcases e with e | e
          · exact hxb (h.inj x b y l z k f1 hb f2 hk e hl ec)
          · omega
  · have one : ∀ (x : Nat) (y : ELoc) (z : EBlk), x ≠ s.next → (β.put s.next l2) x = some y → ((s.heap.set b .dead).set s.next k2).get x = some z → z.live → y.c ≠ l.c := fun x y z hx f1 f2 hz ec => by
      rcases old x y z hx f1 f2 with rfl | ⟨hxb, f1, f2⟩
      · cases hz
      · exact hxb (h.inj x b y l z k f1 hb f2 hk hz hl ec)
    by_cases x1 : b1 = s.next
    · by_cases x2 : b2 = s.next
      · rw [x1, x2]
      · exfalso
        rw [x1, EMp.put_at] at e1
        obtain rfl := Option.some.inj e1
        exact one b2 l3 k3 x2 e2 g2 v2 (by omega)
    · by_cases x2 : b2 = s.next
      · exfalso
        rw [x2, EMp.put_at] at e2
        obtain rfl := Option.some.inj e2
        exact one b1 l1 k1 x1 e1 g1 v1 (by omega)
      · rcases old b1 l1 k1 x1 e1 g1 with rfl | ⟨_, f1, f2⟩
        · cases v1
        · rcases old b2 l3 k3 x2 e2 g2 with rfl | ⟨_, f3, f4⟩
          · cases v2
          · exact h.inj b1 b2 l1 l3 k1 k3 f1 f3 f2 f4 v1 v2 e
/-- append. -/
theorem eAppend_run {t u ty e : TypeId} {i : TypeInfo} {x y z : EV} {v1 v2 : Value} (ht : eDesc P t = some (.slice e)) (hi : eInfo P e = some i) (hu : (∃ e, eDesc P u = some (.slice e)) ∨ eDesc P u = some .string) (hby : i.bytes ≤ 1000000) {zv : EV} (hz : eZero P e = zv) (hzb : zv ≠ .bot) (hzl : zv.cells.length = i.size)
    (h : HR w0 β s w) (hx : VR β x v1) (hy : VR β y v2) (ha : eAppend i.size x y s = .v z s') :
    ∃ β' c w', (Builtin.append_ #[t, u] ty #[v1, v2]).run P w = .ok c w' ∧ VR β' z c ∧ HR w0 β' s' w' ∧ Ext β s β' s' := by
  have hT := eDesc_eq ht
  have hI := eInfo_eq hi
  obtain ⟨zval, hzero, hzc⟩ : ∃ zval, i.zero = some zval ∧ zval.cells.size = i.size := by
    unfold eZero at hz
    rw [hi] at hz
    simp only at hz
    cases hq : i.zero with
    | none => rw [hq] at hz; exact absurd hz.symm hzb
    | some q =>
      rw [hq] at hz
      have := (hz ▸ eVal_VR β q : VR β zv q).cells hzb
      refine ⟨q, rfl, ?_⟩
      rw [← hzl, this.len, Array.length_toList]
  cases x with
  | sl a len cap zz =>
    obtain ⟨a', cap', rfl⟩ : ∃ a' cap', v1 = .slice a' len cap' := by cases hx <;> exact ⟨_, _, rfl⟩
    unfold eAppend at ha
    simp only at ha
    cases he : eElems i.size y s with
    | none => rw [he] at ha; cases ha
    | some p =>
      obtain ⟨n, new⟩ := p
      rw [he] at ha
      simp only at ha
      cases hr : Nat.ble (len + n) cap with
      | true =>
        rw [hr] at ha
        have hr := Nat.le_of_ble_eq_true hr
        simp only at ha
        cases a with
        | none =>
          simp only at ha
          cases n with
          | succ n => cases ha
          | zero =>
            injection ha with e1 e2
            subst e1 e2
            obtain ⟨vs, g1, g2, g3, g4⟩ := eElems_run (P := P) h hy he
            obtain rfl : vs = [] := List.eq_nil_of_length_eq_zero (by simpa using g2)
            cases g1
            obtain ⟨vs, k1, k2⟩ := eElems_src (tx := u) h hy he hu rfl
            cases k1
            cases hx
            refine ⟨β, _, w, ?_, .snil, h, Ext.refl _ _⟩
            have hk := k2.kind
            rcases hk with ⟨e', hk⟩ | hk <;> simp [Builtin.append_, run_underlying hT, run_underlying hk, sizeOf, typeInfo, hI, k2.len, k2.cells]
        | some p =>
          obtain ⟨b, o⟩ := p
          simp only at ha
          cases hst : s.storeN b (o + len * i.size) new with
          | none => rw [hst] at ha; cases ha
          | some s2 =>
            rw [hst] at ha
            injection ha with e1 e2
            subst e1 e2
            have hal := storeN_all hst
            obtain ⟨vs, k1, k2⟩ := eElems_src (tx := u) h hy he hu hal
            cases hx with
            | sl hb h0 hz' =>
              rename_i l
              obtain ⟨q1, q2, q3⟩ := h.storeN (P := P) hb hst k1
              have hcap : cap ≤ cap' := by
                by_cases hq : zz = 0
                · exact Nat.le_of_eq (h0 hq).symm
                · exact (hz' hq).1
              -- the cells that are written are there
              have hrow : ∀ j, j < vs.length → (w.cell? ⟨l.c, l.sh + o + len * i.size + j, none⟩).isSome = true ∧ w.frozen? ⟨l.c, l.sh + o + len * i.size + j, none⟩ = false := by
                unfold ESt.storeN at hst
                rw [ESt.eta s] at hst
                simp only at hst
                cases hk : s.heap.get b with
                | none => rw [hk] at hst; cases hst
                | some k =>
                  rw [hk] at hst
                  cases k with
                  | row nn c =>
                    simp only at hst
                    cases hn : Nat.ble (o + len * i.size + new.length) nn with
                    | false => rw [hn] at hst; cases hst
                    | true =>
                      have hn := Nat.le_of_ble_eq_true hn
                      obtain ⟨_, arr, T, fz, m1, m2, m3, m4, m5⟩ := h.blk b l _ hb hk
                      have hlen := k1.len
                      intro j hj
                      have hlt : l.sh + o + len * i.size + j < arr.size := by omega
                      refine ⟨by rw [blk_cell m1]; simp [hlt], ?_⟩
                      have hf := m4.1 (l.sh + o + len * i.size + j) (by omega)
                      simp only [World.frozen?, m1]
                      simpa using hf
                  | _ => cases hst
              have hrun := run_append_room_src (P := P) w t u ty e i hT hI l.c (l.sh + o) len cap' v2 n vs k2 (by omega) (fun j hj => (hrow j hj).1) (fun j hj => (hrow j hj).2)
              rw [show l.sh + o + len * i.size = l.sh + (o + len * i.size) by omega] at hrun
              exact ⟨β, _, _, hrun, .sl hb h0 hz', q2, q3⟩
            | sle hb =>
              rename_i ad _
              obtain ⟨q1, q2, q3⟩ := h.storeN (P := P) hb hst k1
              obtain rfl : n = 0 := by omega
              obtain rfl : vs = [] := List.eq_nil_of_length_eq_zero (by rw [k2.newsLen]; simp)
              refine ⟨β, .slice (some ad) 0 0, w, ?_, .sle hb, q2, q3⟩
              have hk := k2.kind
              rcases hk with ⟨e', hk⟩ | hk <;> simp [Builtin.append_, run_underlying hT, run_underlying hk, sizeOf, typeInfo, hI, k2.len, k2.cells, storeCells]
      | false =>
        rw [hr] at ha
        have hr : ¬ (len + n ≤ cap) := fun e => by rw [Nat.ble_eq_true_of_le e] at hr; cases hr
        simp only at ha
        cases hg : Nat.ble (len + n) 1000000 && eAll new && Nat.ble 1 i.size with
        | false => rw [hg] at ha; cases ha
        | true =>
          rw [hg] at ha
          simp only at ha
          rw [Bool.and_eq_true, Bool.and_eq_true] at hg
          obtain ⟨⟨hg1, hal⟩, hg2⟩ := hg
          have hg1 := Nat.le_of_ble_eq_true hg1
          have hg2 := Nat.le_of_ble_eq_true hg2
          cases ho : eElems i.size (.sl a len cap zz) s with
          | none => rw [ho] at ha; cases ha
          | some p =>
            obtain ⟨m, old⟩ := p
            rw [ho] at ha
            simp only at ha
            obtain ⟨vs, k1, k2⟩ := eElems_src (tx := u) h hy he hu hal
            obtain ⟨os, o1, o2, o3, o4⟩ := eElems_run (P := P) h hx ho
            have hm : m = len := by
              have := o3 w
              injection this with e1
              exact e1.symm
            subst hm
            have hfirst : ∀ w', (∀ a, w'.cell? a = w.cell? a) → (Builtin.firstCells i.size m (.slice a' m cap')).run P w' = .ok os.toArray w' := by
              intro w' hw'
              rcases o4 with ⟨ad, c, e, hc⟩ | ⟨e, h0, rfl⟩ | ⟨b, e, -⟩
              · injection e with e1 e2 e3
                subst e1
                exact run_firstCells_some w' i.size m ad m cap' os o2 (fun j q hq => by rw [hw']; exact hc j q hq)
              · injection e with e1 e2 e3
                subst e1
                rw [h0]
                exact run_firstCells_none w' i.size 0 0 cap'
              · cases e
            -- there is no room: a new row
            have grow : cap' < m + n → ∀ (s1 : ESt), HR w0 β s1 w.drew → Ext β s β s1 → (s1.row (old ++ new) fun b => .sl (some (b, 0)) (m + n) (m + n) i.size) = .v z s' →
                ∃ β' c w', (Builtin.append_ #[t, u] ty #[.slice a' m cap', v2]).run P w = .ok c w' ∧ VR β' z c ∧ HR w0 β' s' w' ∧ Ext β s β' s' := by
              intro hlt s1 h1 hx1 hrow
              have hrun := run_append_grow_src (P := P) w t u ty e i zval hT hI hzero a' m cap' os (hfirst w.drew fun _ => rfl) v2 n vs k2 hlt (by omega) (growslice_fits hlt (by
                have : (m + n) * i.bytes ≤ 1000000 * 1000000 := Nat.mul_le_mul hg1 hby
                omega))
              have hG := grownCap_ge w (m + n) cap' e
              generalize grownCap w (m + n) cap' e = G at hrun hG
              have hrow' := rowOk (w0 := w0) (β := β) (w := w.drew) h1.up.size (o1.app k1) (Builtin.zeroCells zval.cells (G - (m + n))).toList e (f := fun b => .sl (some (b, 0)) (m + n) (m + n) i.size) (v := .slice (some ⟨w.heap.size, 0, none⟩) (m + n) G) (fun β' b _ hb => by
                have hsz : 0 + 0 + G * i.size = (os ++ vs).length + (Builtin.zeroCells zval.cells (G - (m + n))).toList.length := by
                  have e1 : (Builtin.zeroCells zval.cells (G - (m + n))).size = (G - (m + n)) * zval.cells.size := by simp [Builtin.zeroCells]
                  rw [List.length_append, o2, k2.newsLen, Array.length_toList, e1, hzc, ← Nat.add_mul, ← Nat.add_mul, show m + n + (G - (m + n)) = G by omega]
                  omega
                exact .sl hb (fun e => by omega) fun _ => ⟨hG, hsz⟩)
              have e1 : ((os ++ vs) ++ (Builtin.zeroCells zval.cells (G - (m + n))).toList).toArray = (os ++ vs).toArray ++ Builtin.zeroCells zval.cells (G - (m + n)) := by
                apply Array.ext'
                simp
              rw [e1] at hrow'
              obtain ⟨β', g1, g2, g3⟩ := h1.fresh hrow hrow'
              exact ⟨β', _, _, hrun, g1, g2, hx1.trans g3⟩
            cases zz with
            | zero =>
              have hcc : cap' = cap := by
                cases hx with
                | snil => rfl
                | sl _ h0 _ => exact h0 rfl
                | sle _ => rfl
              exact grow (by omega) s h.drew (Ext.refl _ _) ha
            | succ zz =>
              simp only at ha
              cases hzs : Nat.beq (zz + 1) i.size with
              | false => rw [hzs] at ha; cases ha
              | true =>
                rw [hzs] at ha
                simp only at ha
                have hzs := Nat.eq_of_beq_eq_true hzs
                cases hkl : s.kill a with
                | none => rw [hkl] at ha; cases ha
                | some s1 =>
                  rw [hkl] at ha
                  simp only at ha
                  obtain ⟨b, o, nn, c, rfl, hk, rfl⟩ := kill_inv hkl
                  have hext : ∀ l, β b = some l → Ext β s β (.mk (s.heap.set b .dead) s.next) := fun l hb => Ext.upd1 hb
                  cases hx with
                  | sle hb => exact grow (by omega) _ (h.drew.dead b) (hext _ hb) ha
                  | sl hb h0 hz' =>
                    rename_i l
                    by_cases hlt : cap' < m + n
                    · exact grow hlt _ (h.drew.dead b) (hext _ hb) ha
                    · obtain ⟨z1, z2⟩ := hz' (by omega)
                      obtain ⟨h00, arr, T, fz, m1, m2, m3, m4, m5⟩ := h.blk b l _ hb hk
                      have hfit : l.sh + o + m * i.size + vs.length ≤ arr.size := by
                        rw [k2.newsLen, m2, ← z2, ← hzs]
                        have : (m + n) * (zz + 1) ≤ cap' * (zz + 1) := Nat.mul_le_mul_right _ (by omega)
                        rw [Nat.add_mul] at this
                        omega
                      have hrun := run_append_room_src (P := P) w t u ty e i hT hI l.c (l.sh + o) m cap' v2 n vs k2 (by omega) (fun j hj => by
                          have hlt : l.sh + o + m * i.size + j < arr.size := by omega
                          rw [blk_cell m1]; simp [hlt]) (fun j hj => by
                          have hf := m4.1 (l.sh + o + m * i.size + j) (by omega)
                          simp only [World.frozen?, m1]
                          simpa using hf)
                      obtain ⟨-, rfl, rfl⟩ := blk_inv ha
                      have hlay := eblk_setCells vs l.c (l.sh + o + m * i.size) w arr T fz m1
                      have hn := h.none_next
                      have hol := o1.len
                      have hnl := k1.len
                      have hnews := k2.newsLen
                      refine ⟨β.put s.next ⟨l.c, l.sh + o, l.m⟩, _, _, hrun, ?_, h.regrow hb hk trivial (upd_setCells _ _ _ _) rfl ⟨h00, _, T, fz, hlay, (layA_size _ _ _).trans m2, ?_, ⟨m4.1, fun t v e => by rw [eRow_get, if_neg (by omega), ETr.get_e] at e; cases e⟩, fun j hj => ?_⟩, ?_⟩
                      · have := VR.sl (β := β.put s.next ⟨l.c, l.sh + o, l.m⟩) (b := s.next) (o := 0) (len := m + n) (cap := m + n) (cap' := cap') (z := i.size) (l := ⟨l.c, l.sh + o, l.m⟩) (EMp.put_at _ _ _) (fun e => by omega) (fun _ => ⟨by omega, by rw [← hzs]; simpa using z2⟩)
                        rw [Nat.add_zero] at this
                        exact this
                      · rw [List.length_append]
                        show l.sh + o + (old.length + new.length) ≤ l.m
                        omega
                      · rw [List.length_append] at hj
                        rw [eRow_get, if_pos (by rw [List.length_append]; omega), Nat.sub_zero]
                        have hlay2 : ∀ q, (layA arr (l.sh + o + m * i.size) vs)[q]? = if l.sh + o + m * i.size ≤ q ∧ q < l.sh + o + m * i.size + vs.length then vs[q - (l.sh + o + m * i.size)]? else arr[q]? := fun q => layA_get _ _ _ _ hfit
                        by_cases hj2 : j < old.length
                        · rw [List.getElem?_append_left hj2]
                          obtain ⟨v, g1, g2⟩ := o1.get (List.getElem?_eq_getElem hj2)
                          refine ⟨_, v, List.getElem?_eq_getElem hj2, ?_, g2.mono (β.put_le _ hn)⟩
                          rw [hlay2, if_neg (by show ¬ (_ ≤ l.sh + o + j ∧ _); omega)]
                          rcases o4 with ⟨ad, cc, e, hc⟩ | ⟨e, -⟩ | ⟨bb, e, -⟩
                          · injection e with e1 e2 e3
                            injection e1 with e1
                            have := hc j v g1
                            rw [← e1, addr_add, blk_cell m1] at this
                            exact this
                          · cases e
                          · cases e
                        · rw [List.getElem?_append_right (by omega)]
                          have hlt2 : j - old.length < new.length := by omega
                          obtain ⟨v, g1, g2⟩ := k1.get (List.getElem?_eq_getElem hlt2)
                          refine ⟨_, v, List.getElem?_eq_getElem hlt2, ?_, g2.mono (β.put_le _ hn)⟩
                          rw [hlay2, if_pos (by show _ ≤ l.sh + o + j ∧ l.sh + o + j < _; omega)]
                          rw [show l.sh + o + j - (l.sh + o + m * i.size) = j - old.length by omega]
                          exact g1
                      · refine ⟨β.put_le _ hn, Nat.le_succ _, fun x hx h0 => ⟨(EMp.put_ne _ _ (by omega)).trans h0, ?_⟩⟩
                        show ((s.heap.set b .dead).set s.next _).get x = _
                        rw [ETr.get_set_ne _ _ (by omega), ETr.get_set_ne _ _ fun e => by subst e; rw [hb] at h0; cases h0]
  | _ => cases ha
end
end Go.Proofs.YtjckpgcmfieaoaaGreatDoor
