/-
  Package digest: blocks.
-/
import Derived.Test.YtjckpgcmfieaoaaGreatDoorSha3
import Derived.Test.YtjckpgcmfieaoaaGreatDoorDagP
import Derived.Test.YtjckpgcmfieaoaaGreatDoorRows
import Derived.Test.YtjckpgcmfieaoaaGreatDoorMaa
import Derived.OpenShut
set_option linter.unusedVariables false
set_option linter.unusedSimpArgs false
namespace Go.Proofs.YtjckpgcmfieaoaaGreatDoor
open Go.RowKit

/-- Whole blocks of a text into the eight letters. -/
def blkI : Nat → List Int → ByteArray → List Int
  | 0, h, _ => h
  | n + 1, h, s => blkI n (digI h (s.extract 0 64)) (s.extract 64 s.size)
def strSz : Value → Nat
  | .string b => b.size
  | _ => 0
theorem blkI_ok (n : Nat) : ∀ (h : List Int) (s : ByteArray), h.length = 8 ∧ U32s h → (blkI n h s).length = 8 ∧ U32s (blkI n h s) := by
  induction n with
  | zero => intro h s hh; exact hh
  | succ n ih => intro h s hh; exact ih _ _ (digI_ok _ _ hh)

def blkS (wq : World) (A : Nat) (r : List Int) : Nat → World → Prop
  | 0, w => New wq w
  | _, w => Upd (fun k => k = A) wq w ∧ Ints .u32 w A r
theorem layIn_all {C : Array Value} {vs : List Value} (h : C.size = vs.length) : layIn C 0 vs = vs.toArray := by
  refine Array.ext_getElem? fun i => ?_
  rw [layIn_get C 0 vs i (by omega)]
  by_cases hi : i < vs.length
  · rw [if_pos (by omega)]; simp
  · have h1 : C[i]? = none := Array.getElem?_eq_none (by omega)
    have h2 : vs.toArray[i]? = none := Array.getElem?_eq_none (by simp; omega)
    rw [if_neg (by omega), h1, h2]
theorem Ints.setAll {k : IntKind} {w : World} {b : Nat} {ws : List Int} (h : Ints k w b ws) {r : List Int} (hr : r.length = ws.length) : Ints k (w.setCells b 0 (r.map (Value.int k))) b r := by
  obtain ⟨T, h⟩ := h
  refine ⟨T, (blk_setCells h 0 _).trans ?_⟩
  rw [layIn_all (by simp [hr])]
theorem Ints.stOk {k : IntKind} {w : World} {b : Nat} {ws : List Int} (h : Ints k w b ws) {r : List Int} {n : Nat} (hr : r.length = ws.length) (hn : r.length = n) : stOk w b 0 n (r.map (Value.int k)).toArray = true := by
  obtain ⟨T, h⟩ := h
  refine stOk_blk h (by simp; omega) (by simp; omega) ?_
  rw [List.all_toArray, List.all_map, List.all_eq_true]
  intro x _
  rfl
def ldW8 (x : Value) : Sem Value := Instr.loadAt 241 x
theorem ld_w8_fold (x : Value) : Instr.loadAt 241 x = ldW8 x := rfl
theorem ld_w8 (b o : Nat) (w : World) : (ldW8 (.pointer (some ⟨b, o, none⟩))).run Tryz.prog w = match rowN w b o 8 with | some A => .ok (.agg A) w | none => slowLd Tryz.prog 241 w b o :=
  run_loadAt_rowN 241 8 _ Tryz.underlying241 rfl Tryz.infoW8 b o w
def stW8 (x v : Value) : Sem Unit := Instr.storeAt 241 x v
theorem st_w8_fold (x v : Value) : Instr.storeAt 241 x v = stW8 x v := rfl
theorem st_w8 (b o : Nat) (A : Array Value) (w : World) : (stW8 (.pointer (some ⟨b, o, none⟩)) (.agg A)).run Tryz.prog w = if stOk w b o 8 A = true then .ok () (w.setCells b o A.toList) else slowSt Tryz.prog 241 w b o A :=
  run_storeAt_row 241 8 Tryz.infoW8 b o A w
attribute [local go_sem ↓ high] ld_w8_fold st_w8_fold
attribute [local go_sem] ld_w8 st_w8

set_option maxRecDepth 100000 in
set_option maxHeartbeats 1000000 in
theorem blocks_any (h : List Int) (s : ByteArray) (w : World) (hh : h.length = 8) (hu : U32s h) (hs : s.size ≤ 1073741824) (hT0 : Tabs w) :
    Calls Tryz.prog 134 #[.agg (h.map (Value.int .u32)).toArray, .string s] w fun e w' => e = .returned (.agg ((blkI (s.size / 64) h s).map (Value.int .u32)).toArray) ∧ New w w' := by
  have hw := hT0.lt
  obtain ⟨h0, h1, h2, h3, h4, h5, h6, h7, rfl⟩ := eight_letters hh
  simp only [List.map_cons, List.map_nil]
  go_enter Tryz.func134, Tryz.ntmps134
  go_upto_region 1 with fail
  obtain ⟨wA, hwA⟩ : ∃ wA : World, wA = (w.alloc (.cells #[.int .u32 h0, .int .u32 h1, .int .u32 h2, .int .u32 h3, .int .u32 h4, .int .u32 h5, .int .u32 h6, .int .u32 h7] 241)).alloc (.cells #[.int .u32 0, .int .u32 0, .int .u32 0, .int .u32 0, .int .u32 0, .int .u32 0, .int .u32 0, .int .u32 0] 241) := ⟨_, rfl⟩
  have sA : wA.heap.size = w.heap.size + 2 := by rw [hwA]; simp
  have nA : New w wA := by rw [hwA]; exact ((Upd.refl _ _).alloc _).alloc _
  have vA : Ints .u32 wA w.heap.size [h0, h1, h2, h3, h4, h5, h6, h7] := by rw [hwA]; exact ⟨_, blk_alloc_old (blk_alloc _ _) _⟩
  have vR : Ints .u32 wA (w.heap.size + 1) [0, 0, 0, 0, 0, 0, 0, 0] := by
    rw [hwA]
    have := blk_alloc (w.alloc (.cells #[.int .u32 h0, .int .u32 h1, .int .u32 h2, .int .u32 h3, .int .u32 h4, .int .u32 h5, .int .u32 h6, .int .u32 h7] 241)) (.cells #[.int .u32 0, .int .u32 0, .int .u32 0, .int .u32 0, .int .u32 0, .int .u32 0, .int .u32 0, .int .u32 0] 241)
    rw [World.size_alloc] at this
    exact ⟨_, this⟩
  rw [← hwA]
  clear hwA
  have TA := hT0.new nA
  generalize hAw : w.heap.size = A at *
  have HAW := hide hAw
  clear hAw
  obtain ⟨wo, rfl⟩ : ∃ wo : World, wo = wA := ⟨_, rfl⟩
  generalize hhs : [h0, h1, h2, h3, h4, h5, h6, h7] = hs0 at vA hu
  have hl8 : hs0.length = 8 := by rw [← hhs]; rfl
  go_wp2_with fail
  go_loopw [1, 10] (fun sv _ wr => ∃ (t : ByteArray) (hc : List Int), sv = .string t ∧ t.size ≤ s.size ∧ hc.length = 8 ∧ U32s hc ∧ Hid (blkI (t.size / 64) hc t = blkI (s.size / 64) hs0 s) ∧ Ints .u32 wr A hc ∧ Upd (fun k => k = A) wo wr) (fun sv _ _ => strSz sv)
  case atStart => exact ⟨s, hs0, rfl, Nat.le_refl _, hl8, hu, hide rfl, vA, Upd.refl _ _⟩
  case round =>
    obtain ⟨t, hc, rfl, hts, hc8, hcu, HE, hA, ur⟩ := hrel
    obtain ⟨g0, g1, g2, g3, g4, g5, g6, g7, rfl⟩ := eight_letters hc8
    obtain ⟨wq, rfl⟩ : ∃ wq : World, wq = wr := ⟨_, rfl⟩
    by_cases hlt : 64 ≤ t.size
    · have hsz := ur.size
      have ht64 : (t.extract 0 64).size = 64 := by rw [ByteArray.size_extract]; omega
      have hTq := TA.upd ur (by omega) (by omega)
      have hC : ∀ W, New wq W → _ := fun W n => compress_any [g0, g1, g2, g3, g4, g5, g6, g7] (t.extract 0 64) W rfl hcu ht64 (hTq.new n)
      have hok := digI_ok [g0, g1, g2, g3, g4, g5, g6, g7] (t.extract 0 64) ⟨rfl, hcu⟩
      have hstep : blkI (t.size / 64) [g0, g1, g2, g3, g4, g5, g6, g7] t = blkI ((t.extract 64 t.size).size / 64) (digI [g0, g1, g2, g3, g4, g5, g6, g7] (t.extract 0 64)) (t.extract 64 t.size) := by
        obtain ⟨n, hn⟩ : ∃ n, t.size / 64 = n + 1 := ⟨t.size / 64 - 1, by omega⟩
        have : (t.extract 64 t.size).size / 64 = n := by rw [ByteArray.size_extract]; omega
        rw [hn, this]
        rfl
      simp only [List.map_cons, List.map_nil] at hC
      generalize digI [g0, g1, g2, g3, g4, g5, g6, g7] (t.extract 0 64) = r at hC hok hstep
      obtain ⟨r8, hru⟩ := hok
      obtain ⟨d0, d1, d2, d3, d4, d5, d6, d7, rfl⟩ := eight_letters r8
      simp only [List.map_cons, List.map_nil] at hC
      have HC := hide hC
      have HN := hide (hstep.symm.trans (unhide HE))
      clear hC hstep HE r8
      have HA := hide hA
      clear hA hcu hc8
      have t1 : (64 : Int) ≤ (t.size : Int) := by omega
      have t2 : ¬ (t.size : Int) < 64 := by omega
      go_wp2_with fail
      refine wp_dagP (by kernel_rfl) [[], [], [(1, 12)], [(0, 11), (2, 13)], [(3, 14)], [(4, 10)], [(4, 10)], [(5, 15)]] 18 rfl (by kernel_rfl) [(0, 11), (1, 12), (2, 13), (3, 14), (4, 10), (5, 15), (6, 16)] (by kernel_rfl) [7] (by kernel_rfl) [[(0, 0)], [(0, 0)], [(0, 0)], [(0, 0)], [(0, 0)], [(0, 0)], [(0, 0), (1, 1)], [(0, 1)]] (by kernel_rfl)
        (blkS wq A [d0, d1, d2, d3, d4, d5, d6, d7]) AnyW
        (isV [.agg #[.int .u32 g0, .int .u32 g1, .int .u32 g2, .int .u32 g3, .int .u32 g4, .int .u32 g5, .int .u32 g6, .int .u32 g7], .string t, .string (t.extract 0 64),
          .tuple #[.agg #[.int .u32 d0, .int .u32 d1, .int .u32 d2, .int .u32 d3, .int .u32 d4, .int .u32 d5, .int .u32 d6, .int .u32 d7], .bool true], .tuple #[.agg #[.int .u32 d0, .int .u32 d1, .int .u32 d2, .int .u32 d3, .int .u32 d4, .int .u32 d5, .int .u32 d6, .int .u32 d7], .bool true],
          .agg #[.int .u32 d0, .int .u32 d1, .int .u32 d2, .int .u32 d3, .int .u32 d4, .int .u32 d5, .int .u32 d6, .int .u32 d7], .bool true, undef])
        ((Upd.refl _ _).drew) (fun _ => AnyW.all _ _) (fun _ _ _ _ _ _ _ _ _ h => h) ?_ ?_
      · refine .one rfl ?_ <| .pure rfl (fun _ => AnyW.all _ _) rfl ?_ <| .pure rfl (fun _ => AnyW.all _ _) rfl ?_ <| .one rfl ?_ <| .pure rfl (fun _ => AnyW.all _ _) rfl ?_ <| .pure rfl (fun _ => AnyW.all _ _) rfl ?_ <| .pure rfl (fun _ => AnyW.all _ _) rfl ?_ <| .one rfl ?_ <| .nil
        · intro vals w1 hS _
          replace hS : New wq w1 := hS
          have hr := ((unhide HA).upd hS (fun h => h)).row (n := 8) rfl
          simp only [List.map_cons, List.map_nil] at hr
          unfold opRun; simp only [putL]; go_simp
          exact ⟨AnyW.all _ _, hS, rfl⟩
        · intro vals w1 _
          unfold opRun; simp only [putL]; go_simp
          first | exact ⟨rfl, rfl⟩ | rfl
        · rintro vals w1 ⟨p0, -⟩
          replace p0 : vals 1 = .string t := p0
          unfold opRun; simp only [putL]; go_simp
          first | exact ⟨rfl, rfl⟩ | rfl
        · rintro vals w1 hS ⟨p0, p1, -⟩
          replace p0 : vals 0 = .agg #[.int .u32 g0, .int .u32 g1, .int .u32 g2, .int .u32 g3, .int .u32 g4, .int .u32 g5, .int .u32 g6, .int .u32 g7] := p0
          replace p1 : vals 2 = .string (t.extract 0 64) := p1
          unfold opRun; simp only [putL]; go_simp
          refine (unhide HC w1 hS).mono ?_
          rintro e w2 ⟨rfl, n2⟩
          exact ⟨_, rfl, AnyW.all _ _, Upd.trans hS n2, rfl⟩
        · rintro vals w1 ⟨p0, -⟩
          replace p0 : vals 3 = .tuple #[.agg #[.int .u32 d0, .int .u32 d1, .int .u32 d2, .int .u32 d3, .int .u32 d4, .int .u32 d5, .int .u32 d6, .int .u32 d7], .bool true] := p0
          unfold opRun; simp only [putL]; go_simp
          first | exact ⟨rfl, rfl⟩ | rfl
        · rintro vals w1 ⟨p0, -⟩
          replace p0 : vals 4 = .tuple #[.agg #[.int .u32 d0, .int .u32 d1, .int .u32 d2, .int .u32 d3, .int .u32 d4, .int .u32 d5, .int .u32 d6, .int .u32 d7], .bool true] := p0
          unfold opRun; simp only [putL]; go_simp
          first | exact ⟨rfl, rfl⟩ | rfl
        · rintro vals w1 ⟨p0, -⟩
          replace p0 : vals 4 = .tuple #[.agg #[.int .u32 d0, .int .u32 d1, .int .u32 d2, .int .u32 d3, .int .u32 d4, .int .u32 d5, .int .u32 d6, .int .u32 d7], .bool true] := p0
          unfold opRun; simp only [putL]; go_simp
          first | exact ⟨rfl, rfl⟩ | rfl
        · rintro vals w1 hS ⟨p0, -⟩
          replace hS : New wq w1 := hS
          replace p0 : vals 5 = .agg #[.int .u32 d0, .int .u32 d1, .int .u32 d2, .int .u32 d3, .int .u32 d4, .int .u32 d5, .int .u32 d6, .int .u32 d7] := p0
          have hI := (unhide HA).upd hS (fun h => h)
          have hst := hI.stOk (r := [d0, d1, d2, d3, d4, d5, d6, d7]) (n := 8) rfl rfl
          have hS1 := hI.setAll (r := [d0, d1, d2, d3, d4, d5, d6, d7]) rfl
          simp only [List.map_cons, List.map_nil] at hst hS1
          have HS1 := hide hS1
          have u1 := ((hS.mono (T := fun k => k = A) (fun _ _ h => h.elim)).then ((Upd.refl (· = A) w1).setCells 0 [.int .u32 d0, .int .u32 d1, .int .u32 d2, .int .u32 d3, .int .u32 d4, .int .u32 d5, .int .u32 d6, .int .u32 d7]) (fun _ _ h => h))
          have HU1 := hide u1
          clear hS1 u1 hI
          unfold opRun; simp only [putL]; go_simp
          first | exact ⟨AnyW.all _ _, ⟨unhide HU1, unhide HS1⟩, rfl⟩ | (trace_state; sorry)
      · intro vals w1 hS hv
        have v0 := hv 0 (by decide)
        have v1 := hv 1 (by decide)
        have v2 := hv 2 (by decide)
        have v3 := hv 3 (by decide)
        have v4 := hv 4 (by decide)
        have v5 := hv 5 (by decide)
        have v6 := hv 6 (by decide)
        clear hv
        replace hS : Upd (fun k => k = A) wq w1 ∧ Ints .u32 w1 A [d0, d1, d2, d3, d4, d5, d6, d7] := hS
        obtain ⟨u1, hI⟩ := hS
        have us := ur.trans u1
        simp only [putL, v0, v1, v2, v3, v4, v5, v6]
        clear HC HA u1 ur v0 v1 v2 v3 v4 v5 v6
        obtain ⟨wz, rfl⟩ : ∃ wz : World, wz = w1 := ⟨_, rfl⟩
        have HI := hide hI
        clear hI
        go_simp
        go_wp2
        go_roundw
        case rel => exact ⟨t.extract 64 t.size, [d0, d1, d2, d3, d4, d5, d6, d7], rfl, by rw [ByteArray.size_extract]; omega, rfl, hru, HN, unhide HI, us⟩
        case measure => simp [strSz]; omega
    · have hlt2 : t.size < 64 := by omega
      have hz : t.size / 64 = 0 := by omega
      have HE2 := unhide HE
      rw [hz] at HE2
      replace HE2 := hide (show blkI (s.size / 64) hs0 s = [g0, g1, g2, g3, g4, g5, g6, g7] from HE2.symm)
      clear HE hz
      have t1 : (t.size : Int) < 64 := by omega
      have t2 : ¬ (64 : Int) ≤ (t.size : Int) := by omega
      have vR2 := vR.upd ur (by omega)
      have nn := nA.then ur (by intro q hq h; rw [unhide HAW] at hq; omega)
      subst hhs
      clear vR ur hcu hc8 TA hl8 vA
      have hr := hA.row (n := 8) rfl
      have hst := vR2.stOk (r := [g0, g1, g2, g3, g4, g5, g6, g7]) (n := 8) rfl rfl
      have hR := vR2.setAll (r := [g0, g1, g2, g3, g4, g5, g6, g7]) rfl
      simp only [List.map_cons, List.map_nil] at hr hst hR
      have HR := hide hR
      have u1 := nn.then ((Upd.refl (· = A + 1) wq).setCells 0 [.int .u32 g0, .int .u32 g1, .int .u32 g2, .int .u32 g3, .int .u32 g4, .int .u32 g5, .int .u32 g6, .int .u32 g7]) (by intro q hq h; rw [unhide HAW] at hq; omega)
      have HU := hide u1
      clear hA vR2 nn hR u1
      go_wp2
      obtain ⟨TF, hF⟩ := unhide HR
      refine bodyPost_ret (results_cell_row rfl _ _ (A + 1) TF _ _ _ rfl hF Tryz.underlying241 rfl (by exact Tryz.infoW8)) rfl ?_
      refine ⟨?_, unhide HU⟩
      rw [unhide HE2]

end Go.Proofs.YtjckpgcmfieaoaaGreatDoor
namespace Go.Proofs.YtjckpgcmfieaoaaGreatDoor
open Go.RowKit

theorem Tryz.infoU8 : (Tryz.prog.info? 5).map (fun i => (i.zero, i.size, i.bytes)) = some (some (.int .u8 0), 1, 1) := by kernel_rfl
/-- v holds the bytes xs in a block of its own, from base on. -/
def BytesO (w : World) (base : Nat) (v : Value) (xs : List Int) : Prop := w.ownsRow base 5 1 v xs.length (xs.map (Value.int .u8))
theorem BytesO.shape {w : World} {base : Nat} {v : Value} {xs : List Int} (h : BytesO w base v xs) : ∃ a c, v = .slice a xs.length c := by
  rcases h.2 with ⟨rfl, e⟩ | ⟨g, cap, cur, rfl, _⟩
  · exact ⟨none, 0, by rw [e]⟩
  · exact ⟨_, _, rfl⟩
theorem BytesO.ge {w : World} {base : Nat} {v : Value} {xs : List Int} (h : BytesO w base v xs) {k : Nat} (hk : v.ownBlock = some k) : base ≤ k ∧ k < w.heap.size := by
  rcases h.2 with ⟨rfl, _⟩ | ⟨g, cap, cur, rfl, e2, hg, _⟩
  · simp [Value.ownBlock] at hk
  · simp [Value.ownBlock] at hk; subst hk; exact ⟨e2, blk_lt hg⟩
theorem BytesO.upd {S : Nat → Prop} {w w' : World} {base : Nat} {v : Value} {xs : List Int} (h : BytesO w base v xs) (u : Upd S w w') (hS : ∀ k, v.ownBlock = some k → ¬ S k) : BytesO w' base v xs := by
  refine ⟨h.1, ?_⟩
  rcases h.2 with h | ⟨g, cap, cur, e1, e2, hg, r⟩
  · exact .inl h
  · exact .inr ⟨g, cap, cur, e1, e2, u.old hg (hS g (by rw [e1]; rfl)), r⟩
theorem BytesO.new {w w' : World} {base : Nat} {v : Value} {xs : List Int} (h : BytesO w base v xs) (u : New w w') : BytesO w' base v xs := h.upd u (fun _ _ h => h)
theorem BytesO.nil (w : World) (base : Nat) : BytesO w base (.slice none 0 0) [] := ⟨rfl, .inl ⟨rfl, rfl⟩⟩
theorem BytesO.made (w : World) (base : Nat) (xs : List Int) (hb : base ≤ w.heap.size) (hl : xs.length ≤ 1073741824) : BytesO (w.alloc (.cells (xs.map (Value.int .u8)).toArray 5)) base (.slice (some ⟨w.heap.size, 0, none⟩) xs.length xs.length) xs := by
  refine ⟨by simp, .inr ⟨w.heap.size, xs.length, _, rfl, hb, blk_alloc _ _, Nat.le_refl _, by unfold maxLen; omega, by simp, ?_⟩⟩
  simp
  exact List.take_of_length_le (by simp)

/-- 'append(b, c)'. -/
theorem append_byte {ops : Array Oper} {rest : List Oper} {o : Oper} {a : Act} {Q : Exit → Act → World → Prop} (hgd : o.guard = none) (s x : Operand)
    (ho : o.op = .call { callee := .builtin .append, args := #[s, x], argTypes := #[157, 157] })
    (base : Nat) (v : Value) (xs : List Int) (hs : a.eval s = v) (c : Int) (T : TypeId) (w : World) (hx : a.eval x = .slice (some ⟨w.heap.size, 0, none⟩) 1 1) (hown : BytesO w base v xs) (hl : xs.length ≤ 1073741824) (hb : base ≤ w.heap.size)
    (h : ∀ v' w', BytesO w' base v' (xs ++ [c]) → Upd (fun k => v.ownBlock = some k) w w' → wpList Tryz.prog ops Q rest (a.put o.dst v') w') :
    wpList Tryz.prog ops Q (o :: rest) a (w.alloc (.cells #[.int .u8 c] T)) := by
  obtain ⟨i, hi, hz0, hz1, hz2⟩ := info_parts Tryz.infoU8
  have h0 : (w.alloc (.cells #[.int .u8 c] T)).ownsRow base 5 1 v xs.length (xs.map (Value.int .u8)) := hown.new ((Upd.refl _ _).alloc _)
  refine wpList_append_own _ hgd s x 157 ho base 5 i (.int .u8 0) 1 1 Tryz.underlying157 hi hz0 hz1 hz2 rfl (by decide) v xs.length _ hs h0 ⟨w.heap.size, 0, none⟩ 1 1 [.int .u8 c] hx rfl ?_ ?_ (by unfold maxLen; omega) (by omega) (by simp; omega) ?_
  · intro j u hj
    have hadd : (⟨w.heap.size, 0, none⟩ : Addr).add j = ⟨w.heap.size, j, none⟩ := by unfold Addr.add; split <;> simp_all
    rw [hadd, blk_cell (blk_alloc _ _)]
    simpa using hj
  · intro u hu
    obtain rfl := List.mem_singleton.1 hu
    rfl
  · intro v' w' ho' hg _
    refine h v' w' ?_ ((((Upd.refl _ w).alloc _)).grown hg (fun k e _ => e))
    unfold BytesO
    rw [List.length_append, List.map_append]
    exact ho'
theorem run_string_own {w : World} {base : Nat} {v : Value} {xs : List Int} (h : BytesO w base v xs) : (convert 157 9 v).run Tryz.prog w = .ok (.string (strOfNums xs)) w := by
  rcases h.2 with ⟨rfl, e⟩ | ⟨g, cap, cur, rfl, e2, hg, e3, e4, e5, e6⟩
  · rw [List.eq_nil_of_length_eq_zero e]
    exact run_convert_bytes_nil w 157 5 Tryz.underlying157 Tryz.underlying5 0 0 9 Tryz.underlying9
  · refine run_convert_bytes_arg w 157 5 Tryz.underlying157 Tryz.underlying5 g 0 xs.length cap xs rfl (fun i hi => ?_) 9 Tryz.underlying9
    have h1 : cur.toList[i]? = (xs.map (Value.int .u8))[i]? := by rw [← e6, List.getElem?_take_of_lt (by omega)]
    rw [Nat.zero_add, blk_cell hg i, ← Array.getElem?_toList, h1, List.getElem?_map, List.getElem?_eq_getElem hi]
    simp [List.getD, List.getElem?_eq_getElem hi]

end Go.Proofs.YtjckpgcmfieaoaaGreatDoor
