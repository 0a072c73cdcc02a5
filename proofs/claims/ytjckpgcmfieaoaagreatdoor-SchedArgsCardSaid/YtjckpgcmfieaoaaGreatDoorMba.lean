/-
  The evaluator's copy, conversions, new rows, new maps.
-/
import Derived.Test.YtjckpgcmfieaoaaGreatDoorAvA
import Derived.Test.YtjckpgcmfieaoaaGreatDoorMaa
set_option linter.unusedVariables false
set_option linter.unusedSimpArgs false
namespace Go.Proofs.YtjckpgcmfieaoaaGreatDoor
open Go.RowKit

section
variable {P : Program} {w0 : World} {β : EMp} {s s' : ESt} {w : World}
/-- copy. -/
theorem eCopy_run {t ty e : TypeId} {u : TypeId} {i : TypeInfo} {x y z : EV} {v1 v2 : Value} (ht : eDesc P t = some (.slice e)) (hi : eInfo P e = some i) (h : HR w0 β s w) (hx : VR β x v1) (hy : VR β y v2) (ha : eCopy i.size x y s = .v z s') (rest : List TypeId) :
    ∃ c w', (Builtin.copy_ (t :: rest).toArray ty #[v1, v2]).run P w = .ok c w' ∧ VR β z c ∧ HR w0 β s' w' ∧ Ext β s β s' := by
  have hT := eDesc_eq ht
  have hsz := (eInfo_run hi w).2
  cases x with
  | sl a len cap zz =>
    cases a with
    | none => cases ha
    | some p =>
      obtain ⟨b, o⟩ := p
      have ha2 : (match eElems i.size y s with
        | some (n, new) => (match s.storeN b o (eTk new (Nat.min n len * i.size)) with
          | some s' => EO.v (.int .i64 (Int.ofNat (Nat.min n len))) s'
          | none => .er)
        | none => .er) = .v z s' := ha
      clear ha
      cases he : eElems i.size y s with
      | none => rw [he] at ha2; cases ha2
      | some p =>
        obtain ⟨n, new⟩ := p
        rw [he] at ha2
        simp only at ha2
        cases hst : s.storeN b o (eTk new (Nat.min n len * i.size)) with
        | none => rw [hst] at ha2; cases ha2
        | some s2 =>
          rw [hst] at ha2
          injection ha2 with e1 e2
          subst e1 e2
          obtain ⟨vs, g1, g2, g3, g4⟩ := eElems_run (P := P) h hy he
          rw [eTk_eq] at hst
          have hvt := g1.take (Nat.min n len * i.size)
          have hlen : (vs.take (Nat.min n len * i.size)).length = Nat.min n len * i.size := by
            rw [List.length_take, g2]
            exact Nat.min_eq_left (Nat.mul_le_mul_right _ (Nat.min_le_left _ _))
          have hfirst : (Builtin.firstCells i.size (Nat.min n len) v2).run P w = .ok (vs.take (Nat.min n len * i.size)).toArray w := by
            rcases g4 with ⟨ad, c, rfl, hc⟩ | ⟨rfl, rfl, rfl⟩ | ⟨bb, rfl, rfl, rfl, h1⟩
            · exact run_firstCells_some w i.size (Nat.min n len) ad n c _ hlen fun j q hq => hc j q (by
                rw [List.getElem?_take] at hq
                split at hq
                · exact hq
                · cases hq)
            · simp [Builtin.firstCells]
            · rw [h1]
              simp only [Builtin.firstCells, Sem.run_pure]
              congr 1
              apply Array.ext'
              simp [byteCells, List.extract_eq_take_drop, List.map_take]
          cases hx with
          | sl hb h0 hz =>
            rename_i cap' l
            obtain ⟨q1, q2, q3⟩ := h.storeN (P := P) hb hst hvt
            refine ⟨_, _, ?_, .int _ _, q2, q3⟩
            simp [Builtin.copy_, run_underlying hT, g3, hsz, hfirst, q1]
            rfl
          | sle hb =>
            rename_i ad _
            obtain ⟨q1, q2, q3⟩ := h.storeN (P := P) hb hst hvt
            have hnil : vs.take (Nat.min n 0 * i.size) = [] := by simp
            rw [hnil] at q1 q2 hfirst
            rw [show Nat.min n 0 = 0 from Nat.min_zero n] at hfirst
            refine ⟨_, w, ?_, .int _ _, q2, q3⟩
            simp [Builtin.copy_, run_underlying hT, g3, hsz, hfirst, storeCells]
            rfl
  | _ => cases ha
/-- The bytes of cells. -/
theorem eNatsV_run : ∀ {l : List EV} {vs : List Value} {r : List Nat}, VRs β l vs → eNatsV l = some r → ∃ ns : List Int, vs = ns.map (Value.int .u8) ∧ ns.map (·.toNat) = r ∧ ∀ n ∈ r, n < 256
  | [], _, r, .nil, h => by obtain rfl := Option.some.inj (show some [] = some r from h); exact ⟨[], rfl, rfl, fun _ h => by cases h⟩
  | x :: l, _, r, .cons a t, h => by
    cases a with
    | int k n =>
      cases k <;> (try (cases h; done))
      cases n with
      | negSucc n => cases h
      | ofNat n =>
        have h2 : (match Nat.ble n 255 with | true => (match eNatsV l with | some r => some (n :: r) | none => none) | false => none) = some r := h
        clear h
        cases hn : Nat.ble n 255 with
        | false => rw [hn] at h2; cases h2
        | true =>
          rw [hn] at h2
          simp only at h2
          cases hl : eNatsV l with
          | none => rw [hl] at h2; cases h2
          | some q =>
            rw [hl] at h2
            obtain rfl := Option.some.inj h2
            obtain ⟨ns, rfl, rfl, h3⟩ := eNatsV_run t hl
            have hn := Nat.le_of_ble_eq_true hn
            refine ⟨(n : Int) :: ns, rfl, rfl, fun m hm => ?_⟩
            rcases List.mem_cons.1 hm with rfl | hm
            · omega
            · exact h3 m hm
    | _ => cases h
theorem foldl_bytes : ∀ (ns : List Int) (s : ByteArray), (∀ n ∈ ns, n.toNat < 256) → (ns.foldl (fun r n => r.push (UInt8.ofNat n.toNat)) s).data.toList.map (·.toNat) = s.data.toList.map (·.toNat) ++ ns.map (·.toNat)
  | [], s, _ => by simp
  | n :: ns, s, h => by
    rw [List.foldl_cons, foldl_bytes ns _ fun m hm => h m (List.mem_cons_of_mem _ hm)]
    have : (UInt8.ofNat n.toNat).toNat = n.toNat := by
      rw [UInt8.toNat_ofNat']
      exact Nat.mod_eq_of_lt (h n (List.mem_cons_self ..))
    simp [ByteArray.push, this]
theorem eByteSl_eq {t : TypeId} (h : eByteSl P (eDesc P t) = true) : ∃ e, P.underlying t = some (.slice e) ∧ P.underlying e = some (.int .u8) ∧ eDesc P t = some (.slice e) := by
  unfold eByteSl at h
  cases hd : eDesc P t with
  | none => rw [hd] at h; cases h
  | some d =>
    rw [hd] at h
    cases d with
    | slice e =>
      simp only at h
      cases he : eDesc P e with
      | none => rw [he] at h; cases h
      | some d2 =>
        rw [he] at h
        cases d2 with
        | int k => cases k <;> first | exact ⟨e, eDesc_eq hd, eDesc_eq he, rfl⟩ | cases h
        | _ => cases h
    | _ => cases h
/-- A conversion that makes no block. -/
theorem eConv_run {src dst : TypeId} {x z : EV} {v : Value} (h : HR w0 β s w) (hx : VR β x v) (ha : eConv (eDesc P src) (eDesc P dst) (eByteSl P (match eDesc P dst with | some .string => eDesc P src | d => d)) x s = .v z s') (hd : ∀ e, eDesc P dst ≠ some (.slice e)) :
    s' = s ∧ ∃ c, (convert src dst v).run P w = .ok c w ∧ VR β z c := by
  unfold eConv at ha
  cases hD : eDesc P dst with
  | none => rw [hD] at ha; cases ha
  | some d =>
    rw [hD] at ha
    have hDu := run_underlying (eDesc_eq hD) w
    cases d with
    | int k =>
      simp only at ha
      cases hS : eDesc P src with
      | none => rw [hS] at ha; cases ha
      | some e =>
        rw [hS] at ha
        have hSu := run_underlying (eDesc_eq hS) w
        cases e with
        | int k2 =>
          simp only at ha
          cases hx with
          | int k3 n =>
            injection ha with e1 e2
            subst e1 e2
            rw [eWrap_eq]
            exact ⟨rfl, _, by simp [convert, hDu, hSu, Conv.intToInt], .int _ _⟩
          | sint hs hk =>
            rename_i k3 e n
            have ha : (match eToX k e with | some y => EO.v y s | none => .er) = .v z s' := ha
            cases hy : eToX k e with
            | none => rw [hy] at ha; cases ha
            | some y =>
              rw [hy] at ha
              injection ha with e1 e2
              subst e1 e2
              exact ⟨rfl, _, by simp [convert, hDu, hSu, Conv.intToInt], eToX_ok hy hs⟩
          | _ => cases ha
        | _ => cases ha
    | string =>
      simp only at ha
      cases hS : eDesc P src with
      | none => rw [hS] at ha; cases ha
      | some e =>
        rw [hS] at ha
        have hSu := run_underlying (eDesc_eq hS) w
        cases e with
        | string =>
          simp only at ha
          cases hx with
          | str hs =>
            injection ha with e1 e2
            subst e1 e2
            exact ⟨rfl, _, by simp [convert, hDu, hSu], .str hs⟩
          | sstr hs =>
            injection ha with e1 e2
            subst e1 e2
            exact ⟨rfl, _, by simp [convert, hDu, hSu], .sstr hs⟩
          | _ => cases ha
        | slice e =>
          simp only at ha
          cases hbt : eByteSl P (some (.slice e)) with
          | false => rw [hbt] at ha; cases ha
          | true =>
            rw [hbt] at ha
            rw [← hS] at hbt
            obtain ⟨e', g1, g2, g3⟩ := eByteSl_eq hbt
            rw [hS] at g3
            injection g3 with g3
            injection g3 with g3
            subst g3
            simp only at ha
            have key : ∀ b o len l, β b = some l → (match s.loadN b o len with
                | some l => (match eNatsV l with
                  | some r => EO.v (.str r) s
                  | none => (match eBytesX l with
                    | some r => EO.v (.sstr r) s
                    | none => .er))
                | none => .er) = .v z s' → s' = s ∧ ∀ a cap, (len = 0 ∨ a = ⟨l.c, l.sh + o, none⟩) → ∃ c, (convert src dst (.slice (some a) len cap)).run P w = .ok c w ∧ VR β z c := by
              intro b o len l hb hq
              cases hl : s.loadN b o len with
              | none => rw [hl] at hq; cases hq
              | some cs =>
                rw [hl] at hq
                simp only at hq
                obtain ⟨vs, q1, q2, q3⟩ := h.loadN hb hl
                have fin : ∀ {ns : List Int} (a : Addr) (cap : Nat), vs = ns.map (Value.int .u8) → (len = 0 ∨ a = ⟨l.c, l.sh + o, none⟩) → (∀ n ∈ ns, n.toNat < 256) →
                    ∃ sb : ByteArray, (convert src dst (.slice (some a) len cap)).run P w = .ok (.string sb) w ∧ sb.data.toList.map (·.toNat) = ns.map (·.toNat) := by
                  intro ns a cap hvs hcase hlt
                  subst hvs
                  have hload : (loadCells a len).run P w = .ok (ns.map (Value.int .u8)).toArray w := by
                    refine run_loadCells_at q1 fun j u hu => ?_
                    rcases hcase with rfl | rfl
                    · have : j < 0 := by rw [← q1]; exact (List.getElem?_eq_some_iff.1 hu).1
                      omega
                    · rw [addr_add]; exact q3 j u hu
                  refine ⟨_, by rw [run_convert_bytes_string w src dst e (some a) len cap g1 g2 (eDesc_eq hD)]; exact run_bytesToString w a len cap ns hload, ?_⟩
                  rw [foldl_bytes ns _ hlt]
                  exact List.nil_append _
                cases hn : eNatsV cs with
                | none =>
                  rw [hn] at hq
                  simp only at hq
                  cases hx2 : eBytesX cs with
                  | none => rw [hx2] at hq; cases hq
                  | some r =>
                    rw [hx2] at hq
                    injection hq with e1 e2
                    subst e1 e2
                    refine ⟨rfl, fun a cap hcase => ?_⟩
                    obtain ⟨ns, hv, k3, k4⟩ := eBytesX_ok q2 hx2
                    obtain ⟨sb, f1, f2⟩ := fin a cap hv hcase k3
                    exact ⟨_, f1, .sstr (by rw [f2]; exact k4)⟩
                | some r =>
                  rw [hn] at hq
                  injection hq with e1 e2
                  subst e1 e2
                  refine ⟨rfl, fun a cap hcase => ?_⟩
                  obtain ⟨ns, hv, rfl, k3⟩ := eNatsV_run q2 hn
                  obtain ⟨sb, f1, f2⟩ := fin a cap hv hcase fun n hn => k3 _ (List.mem_map_of_mem hn)
                  exact ⟨_, f1, .str f2⟩
            cases hx with
            | snil =>
              injection ha with e1 e2
              subst e1 e2
              exact ⟨rfl, .string .empty, by rw [run_convert_bytes_string w src dst e none 0 0 g1 g2 (eDesc_eq hD)]; rfl, .str rfl⟩
            | sl hb h0 hz =>
              obtain ⟨r1, r2⟩ := key _ _ _ _ hb ha
              obtain ⟨c, r3, r4⟩ := r2 _ _ (.inr rfl)
              exact ⟨r1, c, r3, r4⟩
            | sle hb =>
              obtain ⟨r1, r2⟩ := key _ _ _ _ hb ha
              obtain ⟨c, r3, r4⟩ := r2 _ _ (.inl rfl)
              exact ⟨r1, c, r3, r4⟩
            | _ => cases ha
        | _ => cases ha
    | slice e => exact absurd hD (hd e)
    | _ => cases ha
theorem freeze_blk {W : World} {b n : Nat} {A : Array Value} {T : TypeId} (h : W.heap[b]? = some (.cells A T (0, 0))) :
    (W.freeze ⟨b, n, none⟩ 1).heap[b]? = some (.cells A T (n, n + 1)) ∧ (∀ k, k ≠ b → (W.freeze ⟨b, n, none⟩ 1).heap[k]? = W.heap[k]?) ∧ (W.freeze ⟨b, n, none⟩ 1).heap.size = W.heap.size := by
  refine ⟨?_, fun k hk => ?_, ?_⟩
  · simp [World.freeze, Array.getElem?_modify, h]
  · simp [World.freeze, Array.getElem?_modify, Ne.symm hk]
  · simp [World.freeze]
/-- '[]byte(s)'. -/
theorem eConv_fresh {src dst e : TypeId} {x z : EV} {v : Value} (hw : w0.heap.size ≤ w.heap.size) (hx : VR β x v) (hd : eDesc P dst = some (.slice e)) (ha : eConv (eDesc P src) (eDesc P dst) (eByteSl P (match eDesc P dst with | some .string => eDesc P src | d => d)) x s = .v z s') :
    ∃ k f, s.blk k f = .v z s' ∧ ∃ c w' l, (convert src dst v).run P w = .ok c w' ∧ FreshOk w0 β k f w c w' l := by
  unfold eConv at ha
  rw [hd] at ha
  simp only at ha
  cases hS : eDesc P src with
  | none => rw [hS] at ha; cases ha
  | some d =>
    rw [hS] at ha
    cases d with
    | string =>
      simp only at ha
      cases hbt : eByteSl P (some (.slice e)) with
      | false => rw [hbt] at ha; cases ha
      | true =>
        rw [hbt] at ha
        rw [← hd] at hbt
        obtain ⟨e', g1, g2, g3⟩ := eByteSl_eq hbt
        rw [hd] at g3
        injection g3 with g3
        injection g3 with g3
        subst g3
        simp only at ha
        have fresh : ∀ (n : Nat) (cs : List EV) (bs : ByteArray), n ≤ 1000000000 → bs.size = n → cs.length = n → VRs β cs (bs.data.toList.map fun b => Value.int .u8 b.toNat) →
            ∃ c w' l, (convert src dst (.string bs)).run P w = .ok c w' ∧ FreshOk w0 β (.row cs.length (eRow cs 0 .e)) (fun b => .sl (some (b, 0)) n n 1) w c w' l := by
          intro n cs bs hlen hsz hcl hv
          obtain ⟨G, hG⟩ : ∃ G, G = grownCap w bs.size 0 e := ⟨_, rfl⟩
          have hGe := grownCap_ge w bs.size 0 e
          rw [← hG] at hGe
          obtain ⟨A, hA⟩ : ∃ A : Array Value, A = (bs.data.toList.map fun b => Value.int .u8 b.toNat).toArray ++ Array.replicate (G - bs.size) (.int .u8 0) := ⟨_, rfl⟩
          have hAs : A.size = G := by
            rw [hA]
            simp
            show bs.size + (G - bs.size) = G
            omega
          obtain ⟨hB, hO', hS'⟩ := freeze_blk (n := A.size) (blk_alloc w.drew (.cells A e))
          have hB : ((w.drew.alloc (.cells A e)).freeze ⟨w.heap.size, A.size, none⟩ 1).heap[w.heap.size]? = some (.cells A e (A.size, A.size + 1)) := hB
          have hO : ∀ k, k < w.heap.size → ((w.drew.alloc (.cells A e)).freeze ⟨w.heap.size, A.size, none⟩ 1).heap[k]? = w.heap[k]? := fun k hk =>
            (hO' k (by show k ≠ w.heap.size; omega)).trans (Below.heap_alloc w.drew _ k hk)
          refine ⟨.slice (some ⟨w.heap.size, 0, none⟩) bs.size G, (w.drew.alloc (.cells A e)).freeze ⟨w.heap.size, A.size, none⟩ 1, ⟨w.heap.size, 0, G⟩, ?_, ⟨⟨rfl, rfl, rfl, ?_, fun k hk _ => hO k hk⟩, Nat.le_refl _, fun β' b hle hb => ⟨?_, hw, A, e, _, hB, hAs, ?_, ?_, ?_⟩⟩⟩
          · have hsh : (w.drew.alloc (.cells A e)).shape? w.heap.size = some (e, A.size) := by
              have := blk_alloc w.drew (.cells A e)
              have this : (w.drew.alloc (.cells A e)).heap[w.heap.size]? = _ := this
              unfold World.shape?
              rw [this]
            simp [convert, run_underlying (eDesc_eq hS), run_underlying g1, run_underlying g2, Conv.stringToBytes, Question.forced, newRow, markStringish]
            have hG' : (Question.appendCap bs.size 0 e).cut (w.tape w.drawn (.appendCap bs.size 0 e)) = G := hG.symm
            have hA' : Array.map (fun b => Value.int .u8 (b.toNat : Int)) bs.data ++ Array.replicate (G - bs.size) (.int .u8 0) = A := by
              rw [hA]
              congr 1
              apply Array.ext'
              simp
            rw [hG', hA', hsh]
            simp
          · have : w.heap.size ≤ (w.drew.alloc (.cells A e)).heap.size := by simp
            exact Nat.le_trans this (Nat.le_of_eq hS'.symm)
          · rw [hsz]
            exact .sl hb (fun e => by cases e) fun _ => ⟨by omega, by show 0 + 0 + G * 1 = G; omega⟩
          · show 0 + cs.length ≤ G
            omega
          · refine ⟨fun i hi => ?_, fun t v e => by rw [eRow_get, if_neg (by omega), ETr.get_e] at e; cases e⟩
            show ¬ (A.size ≤ i ∧ i < A.size + 1)
            have hi : i < G := hi
            omega
          · refine CR.of (hv.mono hle) rfl fun i v hi => ?_
            rw [hA, Array.getElem?_append_left (by
              have := (List.getElem?_eq_some_iff.1 hi).1
              simpa using this), List.getElem?_toArray]
            exact hi
        cases hx with
        | str hs =>
          rename_i l bs
          simp only at ha
          cases hlen : Nat.ble l.length 1000000000 with
          | false => rw [hlen] at ha; cases ha
          | true =>
            rw [hlen] at ha
            have hv := eBytesV_VRs (β := β) bs.data.toList
            rw [hs] at hv
            exact ⟨_, _, ha, fresh l.length (eBytesV l) bs (Nat.le_of_ble_eq_true hlen) (by rw [← hs]; simp) (eBytesV_len l) hv⟩
        | sstr hs =>
          rename_i l bs
          simp only at ha
          cases hlen : Nat.ble (sLen l) 1000000000 with
          | false => rw [hlen] at ha; cases ha
          | true =>
            rw [hlen] at ha
            have hsz : bs.size = sLen l := by rw [hs.len]; simp
            have hv := eCellsX_ok hs
            rw [List.map_map] at hv
            exact ⟨_, _, ha, fresh (sLen l) (eCellsX l) bs (Nat.le_of_ble_eq_true hlen) hsz (by rw [hv.len, ← hsz]; simp) hv⟩
        | _ => cases ha
    | _ => cases ha
end

section
variable {P : Program} {w0 : World} {β : EMp} {s s' : ESt} {w : World}
theorem zero_val {e : TypeId} {i : TypeInfo} {zv : EV} (hi : eInfo P e = some i) (hz : eZero P e = zv) (hb : zv ≠ .bot) (β : EMp) : ∃ q, i.zero = some q ∧ VR β zv q := by
  unfold eZero at hz
  rw [hi] at hz
  simp only at hz
  cases hq : i.zero with
  | none => rw [hq] at hz; exact absurd hz.symm hb
  | some q => rw [hq] at hz; exact ⟨q, rfl, hz ▸ eVal_VR β q⟩
/-- A row laid out. -/
theorem buildSlice_run {t e : TypeId} {i : TypeInfo} {zv : EV} {len : Nat} {ps : Array (Nat × Operand)} {tm : ERg} {ρ : Operand → Value} {l : List EV} (hw : w0.heap.size ≤ w.heap.size) (ht : eDesc P t = some (.slice e)) (hi : eInfo P e = some i) (hz : eZero P e = zv) (hb : zv ≠ .bot) (hzl : zv.cells.length = i.size) (hle : len * i.size ≤ 10000)
    (hρ : ∀ p ∈ ps.toList, VR β ((eEvC p.2).f tm) (ρ p.2)) (hf : eFill (fun j => some (j * i.size, i.size)) (eEvps ps.toList tm) (eRepl zv.cells len) = some l) :
    ∃ v w' loc, (Instr.buildSlice t len (ps.map fun (x : Nat × Operand) => (x.1, ρ x.2))).run P w = .ok v w' ∧ FreshOk w0 β (.row l.length (eRow l 0 .e)) (fun b => .sl (some (b, 0)) len len 0) w v w' loc := by
  obtain ⟨q, hq, hqv⟩ := zero_val hi hz hb β
  have hqc := hqv.cells hb
  have hqs : q.cells.size = i.size := by rw [← hzl, hqc.len, Array.length_toList]
  have hrep := eRepl_VRs hqc len
  rw [hqs] at hrep
  obtain ⟨b, g1, g2, g3⟩ := eFill_run (place' := fun j => some (j * i.size, i.size)) (fun _ _ h => h) (ps := eEvps ps.toList tm) (qs := (ps.map fun (x : Nat × Operand) => (x.1, ρ x.2)).toList) (by rw [(eEvps_get ρ tm _).1]; simp) (fun j p q e1 e2 => by
    rw [Array.toList_map] at e2
    obtain ⟨y, hy, rfl, rfl⟩ := (eEvps_get ρ tm _).2 j p q e1 e2
    exact ⟨rfl, hρ y hy⟩) hrep hf
  have hrow := rowOk (w0 := w0) (w := w) hw g2 [] e (f := fun b => .sl (some (b, 0)) len len 0) (v := .slice (some ⟨w.heap.size, 0, none⟩) len len) fun β' b _ hb => by
    have := VR.sl (β := β') (b := b) (o := 0) (len := len) (cap := len) (cap' := len) (z := 0) hb (fun _ => rfl) fun e => absurd rfl e
    simpa using this
  rw [List.append_nil] at hrow
  have hb2 : b.toList.toArray = b := by simp
  rw [hb2] at hrow
  refine ⟨_, _, _, ?_, hrow⟩
  by_cases h0 : len * i.size = 0
  · have hu := run_underlying (eDesc_eq ht) w
    have hs := eInfo_run hi w
    rw [h0] at g1
    have hr0 : Array.range 0 = #[] := rfl
    rw [hr0] at g1
    simp only [Array.map_empty] at g1
    simp [Instr.buildSlice, hu, hs.2, h0, newRow, hr0]
    have g1' : Instr.fill (fun j => some (j * i.size, i.size)) #[] (List.map (fun x => (x.fst, ρ x.snd)) ps.toList) = some b := by simpa using g1
    rw [g1']
    rfl
  · exact run_buildSlice w t e len _ b i q (eDesc_eq ht) (eInfo_eq hi) hq (by omega) h0 (by rw [← hqs] at g1 ⊢; simpa using g1)
/-- An empty map. -/
theorem mapOk (hw : w0.heap.size ≤ w.heap.size) : FreshOk w0 β (.map [] 0) (fun b => .map (some b)) w (.map (some w.heap.size)) (w.alloc (.map #[] 0)) ⟨w.heap.size, 0, 0⟩ :=
  ⟨(Upd.refl _ _).alloc _, Nat.le_refl _, fun β' b _ hb => ⟨.map hb, hw, #[], blk_alloc _ _, .nil⟩⟩
/-- 'make' of a row. -/
theorem makeSlice_run {t e : TypeId} {i : TypeInfo} {zv : EV} {l c : Nat} {k1 k2 : IntKind} (hw : w0.heap.size ≤ w.heap.size) (ht : eDesc P t = some (.slice e)) (hi : eInfo P e = some i) (hz : eZero P e = zv) (hb : zv ≠ .bot) (hzl : zv.cells.length = i.size)
    (h1 : l ≤ c) (h2 : c ≤ 1000000) (h3 : i.bytes * c ≤ 1000000000) :
    ∃ v w' loc, (Instr.makeSlice t (.int k1 (l : Nat)) (.int k2 (c : Nat))).run P w = .ok v w' ∧ FreshOk w0 β (.row (eRepl zv.cells c).length (eRow (eRepl zv.cells c) 0 .e)) (fun b => .sl (some (b, 0)) l c 0) w v w' loc := by
  obtain ⟨q, hq, hqv⟩ := zero_val hi hz hb β
  have hqc := hqv.cells hb
  have hqs : q.cells.size = i.size := by rw [← hzl, hqc.len, Array.length_toList]
  have hrep := eRepl_VRs hqc c
  have hrow := rowOk (w0 := w0) (w := w) hw hrep [] e (f := fun b => .sl (some (b, 0)) l c 0) (v := .slice (some ⟨w.heap.size, 0, none⟩) l c) fun β' b _ hb => by
    have := VR.sl (β := β') (b := b) (o := 0) (len := l) (cap := c) (cap' := c) (z := 0) hb (fun _ => rfl) fun e => absurd rfl e
    simpa using this
  rw [List.append_nil] at hrow
  have hb2 : ∀ b : Array Value, b.toList.toArray = b := fun b => by simp
  rw [hb2, hqs] at hrow
  refine ⟨_, _, _, ?_, hrow⟩
  have hu := run_underlying (eDesc_eq ht) w
  have hs := eInfo_run hi w
  have wrap : ∀ n : Nat, n ≤ 1000000 → IntKind.i64.wrap (n : Int) = n := fun n hn => by
    rw [IntKind.wrap_i64]
    omega
  have e1 : ¬ ((c : Int) < 0) := by omega
  have e2 : ¬ ((l : Int) < 0) := by omega
  have e3 : ¬ (281474976710656 < (i.bytes : Int) * (c : Int)) := by
    have : ((i.bytes * c : Nat) : Int) ≤ 1000000000 := by omega
    rw [Int.natCast_mul] at this
    omega
  have e4 : ¬ ((c : Int) < (l : Int)) := by omega
  have hr0 : Array.range 0 = #[] := rfl
  by_cases h0 : c * i.size = 0
  · rw [h0, hr0]
    simp [Instr.makeSlice, hu, hs.1, hs.2, asInt, asIntOf, wrap c h2, wrap l (by omega), e1, e2, e3, e4, h0, newRow, hr0]
  · simp [Instr.makeSlice, hu, hs.1, hs.2, asInt, asIntOf, wrap c h2, wrap l (by omega), e1, e2, e3, e4, h0, newRow, zeroValue, hq, hqs]
end
end Go.Proofs.YtjckpgcmfieaoaaGreatDoor
namespace Go.Proofs.YtjckpgcmfieaoaaGreatDoor
open Go.RowKit Go.ChangeShapes Go.WideShapes Go.ChangeAt Go.Deep

section
variable {P : Program}
theorem fields_part {rec : TypeId → Option (List Leaf)} {xs : List Value} : ∀ (fs : List Field) (o : Nat) (L : List Leaf), flatFields P rec o fs = some L → xs.length = o + L.length → Fits L (xs.drop o) →
    ∀ f ∈ fs, ∃ l, rec f.type = some l ∧ P.cellsOf f.type = l.length ∧ f.offset + l.length ≤ xs.length ∧ Fits l ((xs.drop f.offset).take l.length)
  | [], _, _, _, _, _, f, hf => by cases hf
  | g :: gs, o, L, h, hx, fx, f, hf => by
    unfold flatFields at h
    cases hl : rec g.type with
    | none => rw [hl] at h; cases h
    | some l =>
      rw [hl] at h
      simp only at h
      split at h
      · rename_i hc
        obtain ⟨ho, hk⟩ := hc
        rw [Option.map_eq_some_iff] at h
        obtain ⟨M, hM, rfl⟩ := h
        rw [List.length_append] at hx
        obtain ⟨a, a', ea, fa, fa'⟩ := fx.split
        have la := fa.len
        have ta : (xs.drop o).take l.length = a := by rw [ea, ← la]; simp
        have da : xs.drop (o + l.length) = a' := by rw [← List.drop_drop, ea, ← la]; simp
        rcases List.mem_cons.1 hf with rfl | hf
        · exact ⟨l, hl, hk, by omega, by rw [ho, ta]; exact fa⟩
        · exact fields_part gs (o + l.length) M hM (by omega) (by rw [da]; exact fa') f hf
      · cases h
theorem Fits.chunk {l : List Leaf} : ∀ {m : Nat} {xs : List Value}, Fits (List.replicate m l).flatten xs → ∀ {i : Nat}, i < m → i * l.length + l.length ≤ xs.length ∧ Fits l ((xs.drop (i * l.length)).take l.length)
  | 0, _, _, i, hi => by omega
  | m + 1, xs, h, i, hi => by
    rw [List.replicate_succ, List.flatten_cons] at h
    obtain ⟨a, b, rfl, ha, hb⟩ := h.split
    have la := ha.len
    cases i with
    | zero =>
      rw [Nat.zero_mul, List.drop_zero, ← la, List.length_append, List.take_left]
      exact ⟨by omega, ha⟩
    | succ i =>
      obtain ⟨h1, h2⟩ := Fits.chunk hb (i := i) (by omega)
      have e : (i + 1) * l.length = a.length + i * l.length := by rw [la, Nat.succ_mul, Nat.add_comm]
      rw [e, ← List.drop_drop, List.drop_left, List.length_append]
      exact ⟨by omega, h2⟩
theorem check_flat (em : Bool) : ∀ (n d : Nat) (t : TypeId) (l : List Leaf) (xs : List Value), n ≤ d → eqB P n t = true → flatF P n t = some l → Fits l xs → ∀ w, (Instr.checkKey em d t (mkV P t xs)).run P w = .ok () w
  | 0, _, _, _, _, _, h, _, _, _ => by cases h
  | n + 1, d, t, l, xs, hd, he, h, fx, w => by
    obtain ⟨d, rfl⟩ : ∃ d', d = d' + 1 := ⟨d - 1, by omega⟩
    unfold flatF at h
    have leaf : aggB P t = false → (∀ a b, P.underlying t ≠ some (.array a b)) → (∀ a, P.underlying t ≠ some (.struct a)) → (∀ a, P.underlying t ≠ some (.interface a)) → (∃ u, P.underlying t = some u) → (Instr.checkKey em (d + 1) t (mkV P t xs)).run P w = .ok () w := by
      rintro - h1 h2 h3 ⟨u, hu⟩
      unfold Instr.checkKey
      simp only [Sem.run_bind, run_underlying hu, Result.andThen_ok]
      cases u <;> first | exact absurd hu (h1 _ _) | exact absurd hu (h2 _) | exact absurd hu (h3 _) | rfl
    split at h
    · rename_i hu
      exact leaf (by unfold aggB; rw [hu]) (fun _ _ e => by rw [hu] at e; cases e) (fun _ e => by rw [hu] at e; cases e) (fun _ e => by rw [hu] at e; cases e) ⟨_, hu⟩
    · rename_i hu
      exact leaf (by unfold aggB; rw [hu]) (fun _ _ e => by rw [hu] at e; cases e) (fun _ e => by rw [hu] at e; cases e) (fun _ e => by rw [hu] at e; cases e) ⟨_, hu⟩
    · rename_i hu
      exact leaf (by unfold aggB; rw [hu]) (fun _ _ e => by rw [hu] at e; cases e) (fun _ e => by rw [hu] at e; cases e) (fun _ e => by rw [hu] at e; cases e) ⟨_, hu⟩
    · rename_i fs hu
      split at h
      · rename_i L hL
        split at h
        · simp only [Option.some.injEq] at h
          subst h
          unfold eqB at he
          rw [hu] at he
          simp only [Bool.and_eq_true, Bool.not_eq_true'] at he
          obtain ⟨_, _, hfs⟩ := he
          have ha : aggB P t = true := by unfold aggB; rw [hu]
          unfold mkV
          rw [ha]
          simp only [if_true]
          unfold Instr.checkKey
          simp only [Sem.run_bind, run_underlying hu, Result.andThen_ok]
          rw [← Array.forIn_toList]
          have each : ∀ f ∈ fs.toList, f.name ≠ "_" ∧ ∃ v, (part f.type xs.toArray f.offset).run P w = .ok v w ∧ (Instr.checkKey em d f.type v).run P w = .ok () w := fun f hf => by
            have hin := List.all_eq_true.1 hfs f hf
            simp only [Bool.and_eq_true, bne_iff_ne, ne_eq] at hin
            obtain ⟨l, h1, h2, h3, h4⟩ := fields_part fs.toList 0 L hL (by rw [fx.len, Nat.zero_add]) fx f hf
            obtain ⟨i, hi⟩ := eqB_info hin.2
            exact ⟨hin.1, _, run_part h1 h2 hi xs _ h3 w, check_flat em n d f.type l _ (by omega) hin.2 h1 h4 w⟩
          clear hL hfs
          generalize fs.toList = F at each
          induction F with
          | nil => simp
          | cons f F ih =>
            obtain ⟨hn, v, p1, p2⟩ := each f (List.mem_cons_self ..)
            simp only [List.forIn_cons, Sem.run_bind, hn, ne_eq, not_false_eq_true, if_true, Result.andThen_ok, p1, p2, Sem.run_pure]
            exact ih fun g hg => each g (List.mem_cons_of_mem _ hg)
        · cases h
      · cases h
    · rename_i m e hu
      split at h
      · rename_i L hL
        split at h
        · rename_i hc
          simp only [Option.some.injEq] at h
          subst h
          unfold eqB at he
          rw [hu] at he
          simp only [Bool.and_eq_true] at he
          obtain ⟨_, heb⟩ := he
          obtain ⟨ie, hie⟩ := eqB_info heb
          have ha : aggB P t = true := by unfold aggB; rw [hu]
          unfold mkV
          rw [ha]
          simp only [if_true]
          unfold Instr.checkKey
          simp only [Sem.run_bind, run_underlying hu, Result.andThen_ok]
          simp only [Std.Legacy.Range.forIn_eq_forIn_range', Std.Legacy.Range.size, Nat.sub_zero, Nat.add_one_sub_one, Nat.div_one]
          have each : ∀ i ∈ List.range' 0 m, ∃ v, (part e xs.toArray (i * P.cellsOf e)).run P w = .ok v w ∧ (Instr.checkKey em d e v).run P w = .ok () w := fun i hi => by
            have hi : i < m := by
              have := List.mem_range'.1 hi
              omega
            obtain ⟨h3, h4⟩ := fx.chunk hi
            rw [hc.1]
            exact ⟨_, run_part hL hc.1 hie xs _ h3 w, check_flat em n d e L _ (by omega) heb hL h4 w⟩
          generalize List.range' 0 m = F at each
          induction F with
          | nil => simp
          | cons i F ih =>
            obtain ⟨v, p1, p2⟩ := each i (List.mem_cons_self ..)
            simp only [List.forIn_cons, Sem.run_bind, run_sizeOf hie, Result.andThen_ok, p1, p2, Sem.run_pure]
            exact ih fun g hg => each g (List.mem_cons_of_mem _ hg)
        · cases h
      · cases h
    · cases h
/-- A value that is the same stays the same. -/
theorem sameBits_flat {l : List Leaf} {xs : List Value} (h : Fits l xs) (n : Nat) : Instr.sameBits (n + 1) (.agg xs.toArray) (.agg xs.toArray) = true := by
  unfold Instr.sameBits
  simp only [beq_self_eq_true, Bool.true_and]
  induction l generalizing xs with
  | nil => rw [show xs = [] from h]; rfl
  | cons k l ih =>
    obtain ⟨v, r, rfl, hv, hr⟩ := h
    have : Instr.sameBits n v v = true := by
      cases k with
      | bool => obtain ⟨b, rfl⟩ := hv; unfold Instr.sameBits; simp
      | int k => obtain ⟨b, rfl, _⟩ := hv; unfold Instr.sameBits; simp
      | str => obtain ⟨b, rfl, _⟩ := hv; unfold Instr.sameBits; simp [beq_toListBytes]
    have ih := ih hr
    simp only [List.zip_cons_cons, List.all_cons, this, Bool.true_and]
    exact ih
end
end Go.Proofs.YtjckpgcmfieaoaaGreatDoor
