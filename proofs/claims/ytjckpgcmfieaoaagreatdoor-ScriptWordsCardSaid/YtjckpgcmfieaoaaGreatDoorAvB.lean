/-
  The evaluator's copy, conversions, new rows, new maps.
-/
import Derived.Test.YtjckpgcmfieaoaaGreatDoorAvA
namespace Go.Proofs.YtjckpgcmfieaoaaGreatDoor
open Go.RowKit

section
variable {P : Program} {w0 : World} {β : EMp} {s s' : ESt} {w : World}
/-- copy. -/
theorem eCopy_run {t ty e : TypeId} {u : TypeId} {i : TypeInfo} {x y z : EV} {v1 v2 : Value} (ht : eDesc P t = some (.slice e)) (hi : eInfo P e = some i) (h : HR w0 β s w) (hx : VR β x v1) (hy : VR β y v2) (ha : eCopy i.size x y s = .v z s') (rest : List TypeId) :
    ∃ c w', (Builtin.copy_ (t :: rest).toArray ty #[v1, v2]).run P w = .ok c w' ∧ VR β z c ∧ HR w0 β s' w' ∧ Ext β s β s' := by
  have hT := eDesc_eq ht
  have hsz := (eInfo_run hi w).2
  cases x with
  | sl a len cap zz =>
    cases a with
    | none => cases ha
    | some p =>
      obtain ⟨b, o⟩ := p
      have ha2 : (match eElems i.size y s with
        | some (n, new) => (match s.storeN b o (eTk new (Nat.min n len * i.size)) with
          | some s' => EO.v (.int .i64 (Int.ofNat (Nat.min n len))) s'
          | none => .er)
        | none => .er) = .v z s' := ha
      clear ha
      cases he : eElems i.size y s with
      | none => rw [he] at ha2; cases ha2
      | some p =>
        obtain ⟨n, new⟩ := p
        rw [he] at ha2
        simp only at ha2
        cases hst : s.storeN b o (eTk new (Nat.min n len * i.size)) with
        | none => rw [hst] at ha2; cases ha2
        | some s2 =>
          rw [hst] at ha2
          injection ha2 with e1 e2
          subst e1 e2
          obtain ⟨vs, g1, g2, g3, g4⟩ := eElems_run (P := P) h hy he
          rw [eTk_eq] at hst
          have hvt := g1.take (Nat.min n len * i.size)
          have hlen : (vs.take (Nat.min n len * i.size)).length = Nat.min n len * i.size := by
            rw [List.length_take, g2]
            exact Nat.min_eq_left (Nat.mul_le_mul_right _ (Nat.min_le_left _ _))
          have hfirst : (Builtin.firstCells i.size (Nat.min n len) v2).run P w = .ok (vs.take (Nat.min n len * i.size)).toArray w := by
            rcases g4 with ⟨ad, c, rfl, hc⟩ | ⟨rfl, rfl, rfl⟩ | ⟨bb, rfl, rfl, rfl, h1⟩
            · exact run_firstCells_some w i.size (Nat.min n len) ad n c _ hlen fun j q hq => hc j q (by
                rw [List.getElem?_take] at hq
                split at hq
                · exact hq
                · cases hq)
            · simp [Builtin.firstCells]
            · rw [h1]
              simp only [Builtin.firstCells, Sem.run_pure]
              congr 1
              apply Array.ext'
              simp [byteCells, List.extract_eq_take_drop, List.map_take]
          cases hx with
          | sl hb h0 hz =>
            rename_i cap' l
            obtain ⟨q1, q2, q3⟩ := h.storeN (P := P) hb hst hvt
            refine ⟨_, _, ?_, .int _ _, q2, q3⟩
            simp [Builtin.copy_, run_underlying hT, g3, hsz, hfirst, q1]
            rfl
          | sle hb =>
            rename_i ad _
            obtain ⟨q1, q2, q3⟩ := h.storeN (P := P) hb hst hvt
            have hnil : vs.take (Nat.min n 0 * i.size) = [] := by simp
            rw [hnil] at q1 q2 hfirst
            rw [show Nat.min n 0 = 0 from Nat.min_zero n] at hfirst
            refine ⟨_, w, ?_, .int _ _, q2, q3⟩
            simp [Builtin.copy_, run_underlying hT, g3, hsz, hfirst, storeCells]
            rfl
  | _ => cases ha
/-- The bytes of cells. -/
theorem eNatsV_run : ∀ {l : List EV} {vs : List Value} {r : List Nat}, VRs β l vs → eNatsV l = some r → ∃ ns : List Int, vs = ns.map (Value.int .u8) ∧ ns.map (·.toNat) = r ∧ ∀ n ∈ r, n < 256
  | [], _, r, .nil, h => by obtain rfl := Option.some.inj (show some [] = some r from h); exact ⟨[], rfl, rfl, fun _ h => by cases h⟩
  | x :: l, _, r, .cons a t, h => by
    cases a with
    | int k n =>
      cases k <;> (try (cases h; done))
      cases n with
      | negSucc n => cases h
      | ofNat n =>
        have h2 : (match Nat.ble n 255 with | true => (match eNatsV l with | some r => some (n :: r) | none => none) | false => none) = some r := h
        clear h
        cases hn : Nat.ble n 255 with
        | false => rw [hn] at h2; cases h2
        | true =>
          rw [hn] at h2
          simp only at h2
          cases hl : eNatsV l with
          | none => rw [hl] at h2; cases h2
          | some q =>
            rw [hl] at h2
            obtain rfl := Option.some.inj h2
            obtain ⟨ns, rfl, rfl, h3⟩ := eNatsV_run t hl
            have hn := Nat.le_of_ble_eq_true hn
            refine ⟨(n : Int) :: ns, rfl, rfl, fun m hm => ?_⟩
            rcases List.mem_cons.1 hm with rfl | hm
            · omega
            · exact h3 m hm
    | _ => cases h
theorem foldl_bytes : ∀ (ns : List Int) (s : ByteArray), (∀ n ∈ ns, n.toNat < 256) → (ns.foldl (fun r n => r.push (UInt8.ofNat n.toNat)) s).data.toList.map (·.toNat) = s.data.toList.map (·.toNat) ++ ns.map (·.toNat)
  | [], s, _ => by simp
  | n :: ns, s, h => by
    rw [List.foldl_cons, foldl_bytes ns _ fun m hm => h m (List.mem_cons_of_mem _ hm)]
    have : (UInt8.ofNat n.toNat).toNat = n.toNat := by
      rw [UInt8.toNat_ofNat']
      exact Nat.mod_eq_of_lt (h n (List.mem_cons_self ..))
    simp [ByteArray.push, this]
theorem eByteSl_eq {t : TypeId} (h : eByteSl P (eDesc P t) = true) : ∃ e, P.underlying t = some (.slice e) ∧ P.underlying e = some (.int .u8) ∧ eDesc P t = some (.slice e) := by
  unfold eByteSl at h
  cases hd : eDesc P t with
  | none => rw [hd] at h; cases h
  | some d =>
    rw [hd] at h
    cases d with
    | slice e =>
      simp only at h
      cases he : eDesc P e with
      | none => rw [he] at h; cases h
      | some d2 =>
        rw [he] at h
        cases d2 with
        | int k => cases k <;> first | exact ⟨e, eDesc_eq hd, eDesc_eq he, rfl⟩ | cases h
        | _ => cases h
    | _ => cases h
/-- A conversion that makes no block. -/
theorem eConv_run {src dst : TypeId} {x z : EV} {v : Value} (h : HR w0 β s w) (hx : VR β x v) (ha : eConv (eDesc P src) (eDesc P dst) (eByteSl P (match eDesc P dst with | some .string => eDesc P src | d => d)) x s = .v z s') (hd : ∀ e, eDesc P dst ≠ some (.slice e)) :
    s' = s ∧ ∃ c, (convert src dst v).run P w = .ok c w ∧ VR β z c := by
  unfold eConv at ha
  cases hD : eDesc P dst with
  | none => rw [hD] at ha; cases ha
  | some d =>
    rw [hD] at ha
    have hDu := run_underlying (eDesc_eq hD) w
    cases d with
    | int k =>
      simp only at ha
      cases hS : eDesc P src with
      | none => rw [hS] at ha; cases ha
      | some e =>
        rw [hS] at ha
        have hSu := run_underlying (eDesc_eq hS) w
        cases e with
        | int k2 =>
          simp only at ha
          cases hx with
          | int k3 n =>
            injection ha with e1 e2
            subst e1 e2
            rw [eWrap_eq]
            exact ⟨rfl, _, by simp [convert, hDu, hSu, Conv.intToInt], .int _ _⟩
          | _ => cases ha
        | _ => cases ha
    | string =>
      simp only at ha
      cases hS : eDesc P src with
      | none => rw [hS] at ha; cases ha
      | some e =>
        rw [hS] at ha
        have hSu := run_underlying (eDesc_eq hS) w
        cases e with
        | string =>
          simp only at ha
          cases hx with
          | str hs =>
            injection ha with e1 e2
            subst e1 e2
            exact ⟨rfl, _, by simp [convert, hDu, hSu], .str hs⟩
          | _ => cases ha
        | slice e =>
          simp only at ha
          cases hbt : eByteSl P (some (.slice e)) with
          | false => rw [hbt] at ha; cases ha
          | true =>
            rw [hbt] at ha
            rw [← hS] at hbt
            obtain ⟨e', g1, g2, g3⟩ := eByteSl_eq hbt
            rw [hS] at g3
            injection g3 with g3
            injection g3 with g3
            subst g3
            simp only at ha
            have key : ∀ b o len l, β b = some l → (match s.loadN b o len with
                | some l => (match eNatsV l with
                  | some r => EO.v (.str r) s
                  | none => .er)
                | none => .er) = .v z s' → s' = s ∧ ∀ a cap, (len = 0 ∨ a = ⟨l.c, l.sh + o, none⟩) → ∃ c, (convert src dst (.slice (some a) len cap)).run P w = .ok c w ∧ VR β z c := by
              intro b o len l hb hq
              cases hl : s.loadN b o len with
              | none => rw [hl] at hq; cases hq
              | some cs =>
                rw [hl] at hq
                simp only at hq
                cases hn : eNatsV cs with
                | none => rw [hn] at hq; cases hq
                | some r =>
                  rw [hn] at hq
                  injection hq with e1 e2
                  subst e1 e2
                  refine ⟨rfl, fun a cap hcase => ?_⟩
                  obtain ⟨vs, q1, q2, q3⟩ := h.loadN hb hl
                  obtain ⟨ns, rfl, rfl, k3⟩ := eNatsV_run q2 hn
                  have hload : (loadCells a len).run P w = .ok (ns.map (Value.int .u8)).toArray w := by
                    refine run_loadCells_at q1 fun j u hu => ?_
                    rcases hcase with rfl | rfl
                    · have : j < 0 := by rw [← q1]; exact (List.getElem?_eq_some_iff.1 hu).1
                      omega
                    · rw [addr_add]; exact q3 j u hu
                  refine ⟨_, by rw [run_convert_bytes_string w src dst e (some a) len cap g1 g2 (eDesc_eq hD)]; exact run_bytesToString w a len cap ns hload, .str ?_⟩
                  rw [foldl_bytes ns _ fun n hn => k3 _ (List.mem_map_of_mem hn)]
                  exact List.nil_append _
            cases hx with
            | snil =>
              injection ha with e1 e2
              subst e1 e2
              exact ⟨rfl, .string .empty, by rw [run_convert_bytes_string w src dst e none 0 0 g1 g2 (eDesc_eq hD)]; rfl, .str rfl⟩
            | sl hb h0 hz =>
              obtain ⟨r1, r2⟩ := key _ _ _ _ hb ha
              obtain ⟨c, r3, r4⟩ := r2 _ _ (.inr rfl)
              exact ⟨r1, c, r3, r4⟩
            | sle hb =>
              obtain ⟨r1, r2⟩ := key _ _ _ _ hb ha
              obtain ⟨c, r3, r4⟩ := r2 _ _ (.inl rfl)
              exact ⟨r1, c, r3, r4⟩
            | _ => cases ha
        | _ => cases ha
    | slice e => exact absurd hD (hd e)
    | _ => cases ha
theorem freeze_blk {W : World} {b n : Nat} {A : Array Value} {T : TypeId} (h : W.heap[b]? = some (.cells A T (0, 0))) :
    (W.freeze ⟨b, n, none⟩ 1).heap[b]? = some (.cells A T (n, n + 1)) ∧ (∀ k, k ≠ b → (W.freeze ⟨b, n, none⟩ 1).heap[k]? = W.heap[k]?) ∧ (W.freeze ⟨b, n, none⟩ 1).heap.size = W.heap.size := by
  refine ⟨?_, fun k hk => ?_, ?_⟩
  · simp [World.freeze, Array.getElem?_modify, h]
  · simp [World.freeze, Array.getElem?_modify, Ne.symm hk]
  · simp [World.freeze]
/-- '[]byte(s)'. -/
theorem eConv_fresh {src dst e : TypeId} {x z : EV} {v : Value} (hw : w0.heap.size ≤ w.heap.size) (hx : VR β x v) (hd : eDesc P dst = some (.slice e)) (ha : eConv (eDesc P src) (eDesc P dst) (eByteSl P (match eDesc P dst with | some .string => eDesc P src | d => d)) x s = .v z s') :
    ∃ k f, s.blk k f = .v z s' ∧ ∃ c w' l, (convert src dst v).run P w = .ok c w' ∧ FreshOk w0 β k f w c w' l := by
  unfold eConv at ha
  rw [hd] at ha
  simp only at ha
  cases hS : eDesc P src with
  | none => rw [hS] at ha; cases ha
  | some d =>
    rw [hS] at ha
    cases d with
    | string =>
      simp only at ha
      cases hbt : eByteSl P (some (.slice e)) with
      | false => rw [hbt] at ha; cases ha
      | true =>
        rw [hbt] at ha
        rw [← hd] at hbt
        obtain ⟨e', g1, g2, g3⟩ := eByteSl_eq hbt
        rw [hd] at g3
        injection g3 with g3
        injection g3 with g3
        subst g3
        simp only at ha
        cases hx with
        | str hs =>
          rename_i l bs
          simp only at ha
          cases hlen : Nat.ble l.length 1000000000 with
          | false => rw [hlen] at ha; cases ha
          | true =>
            rw [hlen] at ha
            have hlen := Nat.le_of_ble_eq_true hlen
            refine ⟨_, _, ha, ?_⟩
            have hsz : bs.size = l.length := by rw [← hs]; simp
            have hv := eBytesV_VRs (β := β) bs.data.toList
            rw [hs] at hv
            obtain ⟨G, hG⟩ : ∃ G, G = grownCap w bs.size 0 e := ⟨_, rfl⟩
            have hGe := grownCap_ge w bs.size 0 e
            rw [← hG] at hGe
            obtain ⟨A, hA⟩ : ∃ A : Array Value, A = (bs.data.toList.map fun b => Value.int .u8 b.toNat).toArray ++ Array.replicate (G - bs.size) (.int .u8 0) := ⟨_, rfl⟩
            have hAs : A.size = G := by
              rw [hA]
              simp
              show bs.size + (G - bs.size) = G
              omega
            obtain ⟨hB, hO', hS'⟩ := freeze_blk (n := A.size) (blk_alloc w.drew (.cells A e))
            have hB : ((w.drew.alloc (.cells A e)).freeze ⟨w.heap.size, A.size, none⟩ 1).heap[w.heap.size]? = some (.cells A e (A.size, A.size + 1)) := hB
            have hO : ∀ k, k < w.heap.size → ((w.drew.alloc (.cells A e)).freeze ⟨w.heap.size, A.size, none⟩ 1).heap[k]? = w.heap[k]? := fun k hk =>
              (hO' k (by show k ≠ w.heap.size; omega)).trans (Below.heap_alloc w.drew _ k hk)
            refine ⟨.slice (some ⟨w.heap.size, 0, none⟩) bs.size G, (w.drew.alloc (.cells A e)).freeze ⟨w.heap.size, A.size, none⟩ 1, ⟨w.heap.size, 0, G⟩, ?_, ⟨⟨rfl, rfl, rfl, ?_, fun k hk _ => hO k hk⟩, Nat.le_refl _, fun β' b hle hb => ⟨?_, hw, A, e, _, hB, hAs, ?_, ?_, ?_⟩⟩⟩
            · have hsh : (w.drew.alloc (.cells A e)).shape? w.heap.size = some (e, A.size) := by
                have := blk_alloc w.drew (.cells A e)
                have this : (w.drew.alloc (.cells A e)).heap[w.heap.size]? = _ := this
                unfold World.shape?
                rw [this]
              simp [convert, run_underlying (eDesc_eq hS), run_underlying g1, run_underlying g2, Conv.stringToBytes, Question.forced, newRow, markStringish]
              have hG' : (Question.appendCap bs.size 0 e).cut (w.tape w.drawn (.appendCap bs.size 0 e)) = G := hG.symm
              have hA' : Array.map (fun b => Value.int .u8 (b.toNat : Int)) bs.data ++ Array.replicate (G - bs.size) (.int .u8 0) = A := by
                rw [hA]
                congr 1
                apply Array.ext'
                simp
              rw [hG', hA', hsh]
              simp
            · have : w.heap.size ≤ (w.drew.alloc (.cells A e)).heap.size := by simp
              exact Nat.le_trans this (Nat.le_of_eq hS'.symm)
            · rw [hsz]
              exact .sl hb (fun e => by cases e) fun _ => ⟨by omega, by show 0 + 0 + G * 1 = G; omega⟩
            · show 0 + (eBytesV l).length ≤ G
              rw [eBytesV_len]
              omega
            · intro i hi
              show ¬ (A.size ≤ i ∧ i < A.size + 1)
              have hi : i < G := hi
              omega
            · refine CR.of (hv.mono hle) rfl fun i v hi => ?_
              rw [hA, Array.getElem?_append_left (by
                have := (List.getElem?_eq_some_iff.1 hi).1
                simpa using this), List.getElem?_toArray]
              exact hi
        | _ => cases ha
    | _ => cases ha
end
end Go.Proofs.YtjckpgcmfieaoaaGreatDoor
