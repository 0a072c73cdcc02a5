/-
  Package digest: blocks.
-/
import Derived.Test.YtjckpgcmfieaoaaGreatDoorSha3
import Derived.Test.YtjckpgcmfieaoaaGreatDoorDagP
import Derived.Test.YtjckpgcmfieaoaaGreatDoorRows
import Derived.Test.YtjckpgcmfieaoaaGreatDoorMaa
import Derived.OpenShut
import Derived.Outline
import Derived.Test.YtjckpgcmfieaoaaGreatDoorMad
set_option linter.unusedVariables false
set_option linter.unusedSimpArgs false
namespace Go.Proofs.YtjckpgcmfieaoaaGreatDoor
open Go.RowKit

/-- Whole blocks of a text into the eight letters. -/
def blkI : Nat → List Int → ByteArray → List Int
  | 0, h, _ => h
  | n + 1, h, s => blkI n (digI h (s.extract 0 64)) (s.extract 64 s.size)
def strSz : Value → Nat
  | .string b => b.size
  | _ => 0
theorem blkI_ok (n : Nat) : ∀ (h : List Int) (s : ByteArray), h.length = 8 ∧ U32s h → (blkI n h s).length = 8 ∧ U32s (blkI n h s) := by
  induction n with
  | zero => intro h s hh; exact hh
  | succ n ih => intro h s hh; exact ih _ _ (digI_ok _ _ hh)

def blkS (wq : World) (A : Nat) (r : List Int) : Nat → World → Prop
  | 0, w => New wq w
  | _, w => Upd (fun k => k = A) wq w ∧ Ints .u32 w A r
theorem layIn_all {C : Array Value} {vs : List Value} (h : C.size = vs.length) : layIn C 0 vs = vs.toArray := by
  refine Array.ext_getElem? fun i => ?_
  rw [layIn_get C 0 vs i (by omega)]
  by_cases hi : i < vs.length
  · rw [if_pos (by omega)]; simp
  · have h1 : C[i]? = none := Array.getElem?_eq_none (by omega)
    have h2 : vs.toArray[i]? = none := Array.getElem?_eq_none (by simp; omega)
    rw [if_neg (by omega), h1, h2]
theorem Ints.setAll {k : IntKind} {w : World} {b : Nat} {ws : List Int} (h : Ints k w b ws) {r : List Int} (hr : r.length = ws.length) : Ints k (w.setCells b 0 (r.map (Value.int k))) b r := by
  obtain ⟨T, h⟩ := h
  refine ⟨T, (blk_setCells h 0 _).trans ?_⟩
  rw [layIn_all (by simp [hr])]
theorem Ints.stOk {k : IntKind} {w : World} {b : Nat} {ws : List Int} (h : Ints k w b ws) {r : List Int} {n : Nat} (hr : r.length = ws.length) (hn : r.length = n) : stOk w b 0 n (r.map (Value.int k)).toArray = true := by
  obtain ⟨T, h⟩ := h
  refine stOk_blk h (by simp; omega) (by simp; omega) ?_
  rw [List.all_toArray, List.all_map, List.all_eq_true]
  intro x _
  rfl
def ldW8 (x : Value) : Sem Value := Instr.loadAt 241 x
theorem ld_w8_fold (x : Value) : Instr.loadAt 241 x = ldW8 x := rfl
theorem ld_w8 (b o : Nat) (w : World) : (ldW8 (.pointer (some ⟨b, o, none⟩))).run Tryz.prog w = match rowN w b o 8 with | some A => .ok (.agg A) w | none => slowLd Tryz.prog 241 w b o :=
  run_loadAt_rowN 241 8 _ Tryz.underlying241 rfl Tryz.infoW8 b o w
def stW8 (x v : Value) : Sem Unit := Instr.storeAt 241 x v
theorem st_w8_fold (x v : Value) : Instr.storeAt 241 x v = stW8 x v := rfl
theorem st_w8 (b o : Nat) (A : Array Value) (w : World) : (stW8 (.pointer (some ⟨b, o, none⟩)) (.agg A)).run Tryz.prog w = if stOk w b o 8 A = true then .ok () (w.setCells b o A.toList) else slowSt Tryz.prog 241 w b o A :=
  run_storeAt_row 241 8 Tryz.infoW8 b o A w
attribute [local go_sem ↓ high] ld_w8_fold st_w8_fold
attribute [local go_sem] ld_w8 st_w8

set_option maxRecDepth 100000 in
set_option maxHeartbeats 1000000 in
theorem blocks_any (h : List Int) (s : ByteArray) (w : World) (hh : h.length = 8) (hu : U32s h) (hs : s.size ≤ 1073741824) (hT0 : Tabs w) :
    Calls Tryz.prog 134 #[.agg (h.map (Value.int .u32)).toArray, .string s] w fun e w' => e = .returned (.agg ((blkI (s.size / 64) h s).map (Value.int .u32)).toArray) ∧ New w w' := by
  have hw := hT0.lt
  obtain ⟨h0, h1, h2, h3, h4, h5, h6, h7, rfl⟩ := eight_letters hh
  simp only [List.map_cons, List.map_nil]
  go_enter Tryz.func134, Tryz.ntmps134
  go_upto_region 1 with fail
  obtain ⟨wA, hwA⟩ : ∃ wA : World, wA = (w.alloc (.cells #[.int .u32 h0, .int .u32 h1, .int .u32 h2, .int .u32 h3, .int .u32 h4, .int .u32 h5, .int .u32 h6, .int .u32 h7] 241)).alloc (.cells #[.int .u32 0, .int .u32 0, .int .u32 0, .int .u32 0, .int .u32 0, .int .u32 0, .int .u32 0, .int .u32 0] 241) := ⟨_, rfl⟩
  have sA : wA.heap.size = w.heap.size + 2 := by rw [hwA]; simp
  have nA : New w wA := by rw [hwA]; exact ((Upd.refl _ _).alloc _).alloc _
  have vA : Ints .u32 wA w.heap.size [h0, h1, h2, h3, h4, h5, h6, h7] := by rw [hwA]; exact ⟨_, blk_alloc_old (blk_alloc _ _) _⟩
  have vR : Ints .u32 wA (w.heap.size + 1) [0, 0, 0, 0, 0, 0, 0, 0] := by
    rw [hwA]
    have := blk_alloc (w.alloc (.cells #[.int .u32 h0, .int .u32 h1, .int .u32 h2, .int .u32 h3, .int .u32 h4, .int .u32 h5, .int .u32 h6, .int .u32 h7] 241)) (.cells #[.int .u32 0, .int .u32 0, .int .u32 0, .int .u32 0, .int .u32 0, .int .u32 0, .int .u32 0, .int .u32 0] 241)
    rw [World.size_alloc] at this
    exact ⟨_, this⟩
  rw [← hwA]
  clear hwA
  have TA := hT0.new nA
  generalize hAw : w.heap.size = A at *
  have HAW := hide hAw
  clear hAw
  obtain ⟨wo, rfl⟩ : ∃ wo : World, wo = wA := ⟨_, rfl⟩
  generalize hhs : [h0, h1, h2, h3, h4, h5, h6, h7] = hs0 at vA hu
  have hl8 : hs0.length = 8 := by rw [← hhs]; rfl
  go_wp2_with fail
  go_loopw [1, 10] (fun sv _ wr => ∃ (t : ByteArray) (hc : List Int), sv = .string t ∧ t.size ≤ s.size ∧ hc.length = 8 ∧ U32s hc ∧ Hid (blkI (t.size / 64) hc t = blkI (s.size / 64) hs0 s) ∧ Ints .u32 wr A hc ∧ Upd (fun k => k = A) wo wr) (fun sv _ _ => strSz sv)
  case atStart => exact ⟨s, hs0, rfl, Nat.le_refl _, hl8, hu, hide rfl, vA, Upd.refl _ _⟩
  case round =>
    obtain ⟨t, hc, rfl, hts, hc8, hcu, HE, hA, ur⟩ := hrel
    obtain ⟨g0, g1, g2, g3, g4, g5, g6, g7, rfl⟩ := eight_letters hc8
    obtain ⟨wq, rfl⟩ : ∃ wq : World, wq = wr := ⟨_, rfl⟩
    by_cases hlt : 64 ≤ t.size
    · have hsz := ur.size
      have ht64 : (t.extract 0 64).size = 64 := by rw [ByteArray.size_extract]; omega
      have hTq := TA.upd ur (by omega) (by omega)
      have hC : ∀ W, New wq W → _ := fun W n => compress_any [g0, g1, g2, g3, g4, g5, g6, g7] (t.extract 0 64) W rfl hcu ht64 (hTq.new n)
      have hok := digI_ok [g0, g1, g2, g3, g4, g5, g6, g7] (t.extract 0 64) ⟨rfl, hcu⟩
      have hstep : blkI (t.size / 64) [g0, g1, g2, g3, g4, g5, g6, g7] t = blkI ((t.extract 64 t.size).size / 64) (digI [g0, g1, g2, g3, g4, g5, g6, g7] (t.extract 0 64)) (t.extract 64 t.size) := by
        obtain ⟨n, hn⟩ : ∃ n, t.size / 64 = n + 1 := ⟨t.size / 64 - 1, by omega⟩
        have : (t.extract 64 t.size).size / 64 = n := by rw [ByteArray.size_extract]; omega
        rw [hn, this]
        rfl
      simp only [List.map_cons, List.map_nil] at hC
      generalize digI [g0, g1, g2, g3, g4, g5, g6, g7] (t.extract 0 64) = r at hC hok hstep
      obtain ⟨r8, hru⟩ := hok
      obtain ⟨d0, d1, d2, d3, d4, d5, d6, d7, rfl⟩ := eight_letters r8
      simp only [List.map_cons, List.map_nil] at hC
      have HC := hide hC
      have HN := hide (hstep.symm.trans (unhide HE))
      clear hC hstep HE r8
      have HA := hide hA
      clear hA hcu hc8
      have t1 : (64 : Int) ≤ (t.size : Int) := by omega
      have t2 : ¬ (t.size : Int) < 64 := by omega
      go_wp2_with fail
      refine wp_dagP (by kernel_rfl) [[], [], [(1, 12)], [(0, 11), (2, 13)], [(3, 14)], [(4, 10)], [(4, 10)], [(5, 15)]] 18 rfl (by kernel_rfl) [(0, 11), (1, 12), (2, 13), (3, 14), (4, 10), (5, 15), (6, 16)] (by kernel_rfl) [7] (by kernel_rfl) [[(0, 0)], [(0, 0)], [(0, 0)], [(0, 0)], [(0, 0)], [(0, 0)], [(0, 0), (1, 1)], [(0, 1)]] (by kernel_rfl)
        (blkS wq A [d0, d1, d2, d3, d4, d5, d6, d7]) AnyW
        (isV [.agg #[.int .u32 g0, .int .u32 g1, .int .u32 g2, .int .u32 g3, .int .u32 g4, .int .u32 g5, .int .u32 g6, .int .u32 g7], .string t, .string (t.extract 0 64),
          .tuple #[.agg #[.int .u32 d0, .int .u32 d1, .int .u32 d2, .int .u32 d3, .int .u32 d4, .int .u32 d5, .int .u32 d6, .int .u32 d7], .bool true], .tuple #[.agg #[.int .u32 d0, .int .u32 d1, .int .u32 d2, .int .u32 d3, .int .u32 d4, .int .u32 d5, .int .u32 d6, .int .u32 d7], .bool true],
          .agg #[.int .u32 d0, .int .u32 d1, .int .u32 d2, .int .u32 d3, .int .u32 d4, .int .u32 d5, .int .u32 d6, .int .u32 d7], .bool true, undef])
        ((Upd.refl _ _).drew) (fun _ => AnyW.all _ _) (fun _ _ _ _ _ _ _ _ _ h => h) ?_ ?_
      · refine .one rfl ?_ <| .pure rfl (fun _ => AnyW.all _ _) rfl ?_ <| .pure rfl (fun _ => AnyW.all _ _) rfl ?_ <| .one rfl ?_ <| .pure rfl (fun _ => AnyW.all _ _) rfl ?_ <| .pure rfl (fun _ => AnyW.all _ _) rfl ?_ <| .pure rfl (fun _ => AnyW.all _ _) rfl ?_ <| .one rfl ?_ <| .nil
        · intro vals w1 hS _
          replace hS : New wq w1 := hS
          have hr := ((unhide HA).upd hS (fun h => h)).row (n := 8) rfl
          simp only [List.map_cons, List.map_nil] at hr
          unfold opRun; simp only [putL]; go_simp
          exact ⟨AnyW.all _ _, hS, rfl⟩
        · intro vals w1 _
          unfold opRun; simp only [putL]; go_simp
          first | exact ⟨rfl, rfl⟩ | rfl
        · rintro vals w1 ⟨p0, -⟩
          replace p0 : vals 1 = .string t := p0
          unfold opRun; simp only [putL]; go_simp
          first | exact ⟨rfl, rfl⟩ | rfl
        · rintro vals w1 hS ⟨p0, p1, -⟩
          replace p0 : vals 0 = .agg #[.int .u32 g0, .int .u32 g1, .int .u32 g2, .int .u32 g3, .int .u32 g4, .int .u32 g5, .int .u32 g6, .int .u32 g7] := p0
          replace p1 : vals 2 = .string (t.extract 0 64) := p1
          unfold opRun; simp only [putL]; go_simp
          refine (unhide HC w1 hS).mono ?_
          rintro e w2 ⟨rfl, n2⟩
          exact ⟨_, rfl, AnyW.all _ _, Upd.trans hS n2, rfl⟩
        · rintro vals w1 ⟨p0, -⟩
          replace p0 : vals 3 = .tuple #[.agg #[.int .u32 d0, .int .u32 d1, .int .u32 d2, .int .u32 d3, .int .u32 d4, .int .u32 d5, .int .u32 d6, .int .u32 d7], .bool true] := p0
          unfold opRun; simp only [putL]; go_simp
          first | exact ⟨rfl, rfl⟩ | rfl
        · rintro vals w1 ⟨p0, -⟩
          replace p0 : vals 4 = .tuple #[.agg #[.int .u32 d0, .int .u32 d1, .int .u32 d2, .int .u32 d3, .int .u32 d4, .int .u32 d5, .int .u32 d6, .int .u32 d7], .bool true] := p0
          unfold opRun; simp only [putL]; go_simp
          first | exact ⟨rfl, rfl⟩ | rfl
        · rintro vals w1 ⟨p0, -⟩
          replace p0 : vals 4 = .tuple #[.agg #[.int .u32 d0, .int .u32 d1, .int .u32 d2, .int .u32 d3, .int .u32 d4, .int .u32 d5, .int .u32 d6, .int .u32 d7], .bool true] := p0
          unfold opRun; simp only [putL]; go_simp
          first | exact ⟨rfl, rfl⟩ | rfl
        · rintro vals w1 hS ⟨p0, -⟩
          replace hS : New wq w1 := hS
          replace p0 : vals 5 = .agg #[.int .u32 d0, .int .u32 d1, .int .u32 d2, .int .u32 d3, .int .u32 d4, .int .u32 d5, .int .u32 d6, .int .u32 d7] := p0
          have hI := (unhide HA).upd hS (fun h => h)
          have hst := hI.stOk (r := [d0, d1, d2, d3, d4, d5, d6, d7]) (n := 8) rfl rfl
          have hS1 := hI.setAll (r := [d0, d1, d2, d3, d4, d5, d6, d7]) rfl
          simp only [List.map_cons, List.map_nil] at hst hS1
          have HS1 := hide hS1
          have u1 := ((hS.mono (T := fun k => k = A) (fun _ _ h => h.elim)).then ((Upd.refl (· = A) w1).setCells 0 [.int .u32 d0, .int .u32 d1, .int .u32 d2, .int .u32 d3, .int .u32 d4, .int .u32 d5, .int .u32 d6, .int .u32 d7]) (fun _ _ h => h))
          have HU1 := hide u1
          clear hS1 u1 hI
          unfold opRun; simp only [putL]; go_simp
          exact ⟨AnyW.all _ _, ⟨unhide HU1, unhide HS1⟩, rfl⟩
      · intro vals w1 hS hv
        have v0 := hv 0 (by decide)
        have v1 := hv 1 (by decide)
        have v2 := hv 2 (by decide)
        have v3 := hv 3 (by decide)
        have v4 := hv 4 (by decide)
        have v5 := hv 5 (by decide)
        have v6 := hv 6 (by decide)
        clear hv
        replace hS : Upd (fun k => k = A) wq w1 ∧ Ints .u32 w1 A [d0, d1, d2, d3, d4, d5, d6, d7] := hS
        obtain ⟨u1, hI⟩ := hS
        have us := ur.trans u1
        simp only [putL, v0, v1, v2, v3, v4, v5, v6]
        clear HC HA u1 ur v0 v1 v2 v3 v4 v5 v6
        obtain ⟨wz, rfl⟩ : ∃ wz : World, wz = w1 := ⟨_, rfl⟩
        have HI := hide hI
        clear hI
        go_simp
        go_wp2
        go_roundw
        case rel => exact ⟨t.extract 64 t.size, [d0, d1, d2, d3, d4, d5, d6, d7], rfl, by rw [ByteArray.size_extract]; omega, rfl, hru, HN, unhide HI, us⟩
        case measure => simp [strSz]; omega
    · have hlt2 : t.size < 64 := by omega
      have hz : t.size / 64 = 0 := by omega
      have HE2 := unhide HE
      rw [hz] at HE2
      replace HE2 := hide (show blkI (s.size / 64) hs0 s = [g0, g1, g2, g3, g4, g5, g6, g7] from HE2.symm)
      clear HE hz
      have t1 : (t.size : Int) < 64 := by omega
      have t2 : ¬ (64 : Int) ≤ (t.size : Int) := by omega
      have vR2 := vR.upd ur (by omega)
      have nn := nA.then ur (by intro q hq h; rw [unhide HAW] at hq; omega)
      subst hhs
      clear vR ur hcu hc8 TA hl8 vA
      have hr := hA.row (n := 8) rfl
      have hst := vR2.stOk (r := [g0, g1, g2, g3, g4, g5, g6, g7]) (n := 8) rfl rfl
      have hR := vR2.setAll (r := [g0, g1, g2, g3, g4, g5, g6, g7]) rfl
      simp only [List.map_cons, List.map_nil] at hr hst hR
      have HR := hide hR
      have u1 := nn.then ((Upd.refl (· = A + 1) wq).setCells 0 [.int .u32 g0, .int .u32 g1, .int .u32 g2, .int .u32 g3, .int .u32 g4, .int .u32 g5, .int .u32 g6, .int .u32 g7]) (by intro q hq h; rw [unhide HAW] at hq; omega)
      have HU := hide u1
      clear hA vR2 nn hR u1
      go_wp2
      obtain ⟨TF, hF⟩ := unhide HR
      refine bodyPost_ret (results_cell_row rfl _ _ (A + 1) TF _ _ _ rfl hF Tryz.underlying241 rfl (by exact Tryz.infoW8)) rfl ?_
      refine ⟨?_, unhide HU⟩
      rw [unhide HE2]

end Go.Proofs.YtjckpgcmfieaoaaGreatDoor
namespace Go.Proofs.YtjckpgcmfieaoaaGreatDoor
open Go.RowKit

theorem Tryz.infoU8 : (Tryz.prog.info? 5).map (fun i => (i.zero, i.size, i.bytes)) = some (some (.int .u8 0), 1, 1) := by kernel_rfl
/-- v holds the bytes xs in a block of its own, from base on. -/
def BytesO (w : World) (base : Nat) (v : Value) (xs : List Int) : Prop := w.ownsRow base 5 1 v xs.length (xs.map (Value.int .u8))
theorem BytesO.shape {w : World} {base : Nat} {v : Value} {xs : List Int} (h : BytesO w base v xs) : ∃ a c, v = .slice a xs.length c := by
  rcases h.2 with ⟨rfl, e⟩ | ⟨g, cap, cur, rfl, _⟩
  · exact ⟨none, 0, by rw [e]⟩
  · exact ⟨_, _, rfl⟩
theorem BytesO.ge {w : World} {base : Nat} {v : Value} {xs : List Int} (h : BytesO w base v xs) {k : Nat} (hk : v.ownBlock = some k) : base ≤ k ∧ k < w.heap.size := by
  rcases h.2 with ⟨rfl, _⟩ | ⟨g, cap, cur, rfl, e2, hg, _⟩
  · simp [Value.ownBlock] at hk
  · simp [Value.ownBlock] at hk; subst hk; exact ⟨e2, blk_lt hg⟩
theorem BytesO.upd {S : Nat → Prop} {w w' : World} {base : Nat} {v : Value} {xs : List Int} (h : BytesO w base v xs) (u : Upd S w w') (hS : ∀ k, v.ownBlock = some k → ¬ S k) : BytesO w' base v xs := by
  refine ⟨h.1, ?_⟩
  rcases h.2 with h | ⟨g, cap, cur, e1, e2, hg, r⟩
  · exact .inl h
  · exact .inr ⟨g, cap, cur, e1, e2, u.old hg (hS g (by rw [e1]; rfl)), r⟩
theorem BytesO.new {w w' : World} {base : Nat} {v : Value} {xs : List Int} (h : BytesO w base v xs) (u : New w w') : BytesO w' base v xs := h.upd u (fun _ _ h => h)
theorem BytesO.nil (w : World) (base : Nat) : BytesO w base (.slice none 0 0) [] := ⟨rfl, .inl ⟨rfl, rfl⟩⟩
theorem BytesO.made (w : World) (base : Nat) (xs : List Int) (hb : base ≤ w.heap.size) (hl : xs.length ≤ 1073741824) : BytesO (w.alloc (.cells (xs.map (Value.int .u8)).toArray 5)) base (.slice (some ⟨w.heap.size, 0, none⟩) xs.length xs.length) xs := by
  refine ⟨by simp, .inr ⟨w.heap.size, xs.length, _, rfl, hb, blk_alloc _ _, Nat.le_refl _, by unfold maxLen; omega, by simp, ?_⟩⟩
  simp
  exact List.take_of_length_le (by simp)

/-- 'append(b, c)'. -/
theorem append_byte {ops : Array Oper} {rest : List Oper} {o : Oper} {a : Act} {Q : Exit → Act → World → Prop} (hgd : o.guard = none) (s x : Operand)
    (ho : o.op = .call { callee := .builtin .append, args := #[s, x], argTypes := #[157, 157] })
    (base : Nat) (v : Value) (xs : List Int) (hs : a.eval s = v) (c : Int) (T : TypeId) (w : World) (hx : a.eval x = .slice (some ⟨w.heap.size, 0, none⟩) 1 1) (hown : BytesO w base v xs) (hl : xs.length ≤ 1073741824) (hb : base ≤ w.heap.size)
    (h : ∀ v' w', BytesO w' base v' (xs ++ [c]) → Upd (fun k => v.ownBlock = some k) w w' → wpList Tryz.prog ops Q rest (a.put o.dst v') w') :
    wpList Tryz.prog ops Q (o :: rest) a (w.alloc (.cells #[.int .u8 c] T)) := by
  obtain ⟨i, hi, hz0, hz1, hz2⟩ := info_parts Tryz.infoU8
  have h0 : (w.alloc (.cells #[.int .u8 c] T)).ownsRow base 5 1 v xs.length (xs.map (Value.int .u8)) := hown.new ((Upd.refl _ _).alloc _)
  refine wpList_append_own _ hgd s x 157 ho base 5 i (.int .u8 0) 1 1 Tryz.underlying157 hi hz0 hz1 hz2 rfl (by decide) v xs.length _ hs h0 ⟨w.heap.size, 0, none⟩ 1 1 [.int .u8 c] hx rfl ?_ ?_ (by unfold maxLen; omega) (by omega) (by simp; omega) ?_
  · intro j u hj
    have hadd : (⟨w.heap.size, 0, none⟩ : Addr).add j = ⟨w.heap.size, j, none⟩ := by unfold Addr.add; split <;> simp_all
    rw [hadd, blk_cell (blk_alloc _ _)]
    simpa using hj
  · intro u hu
    obtain rfl := List.mem_singleton.1 hu
    rfl
  · intro v' w' ho' hg _
    refine h v' w' ?_ ((((Upd.refl _ w).alloc _)).grown hg (fun k e _ => e))
    unfold BytesO
    rw [List.length_append, List.map_append]
    exact ho'
theorem run_string_own {w : World} {base : Nat} {v : Value} {xs : List Int} (h : BytesO w base v xs) : (convert 157 9 v).run Tryz.prog w = .ok (.string (strOfNums xs)) w := by
  rcases h.2 with ⟨rfl, e⟩ | ⟨g, cap, cur, rfl, e2, hg, e3, e4, e5, e6⟩
  · rw [List.eq_nil_of_length_eq_zero e]
    exact run_convert_bytes_nil w 157 5 Tryz.underlying157 Tryz.underlying5 0 0 9 Tryz.underlying9
  · refine run_convert_bytes_arg w 157 5 Tryz.underlying157 Tryz.underlying5 g 0 xs.length cap xs rfl (fun i hi => ?_) 9 Tryz.underlying9
    have h1 : cur.toList[i]? = (xs.map (Value.int .u8))[i]? := by rw [← e6, List.getElem?_take_of_lt (by omega)]
    rw [Nat.zero_add, blk_cell hg i, ← Array.getElem?_toList, h1, List.getElem?_map, List.getElem?_eq_getElem hi]
    simp [List.getD, List.getElem?_eq_getElem hi]

/-- How many zeros stand behind the byte 128. -/
def padZ (n : Nat) : Nat := (119 - n % 64) % 64
theorem padZ_lt (n : Nat) : padZ n < 64 := Nat.mod_lt _ (by decide)
theorem padZ_ne (n k : Nat) (h : k < padZ n) : (n + (k + 1) + 8) % 64 ≠ 0 := by unfold padZ at h; omega
theorem padZ_eq (n : Nat) : (n + (padZ n + 1) + 8) % 64 = 0 := by unfold padZ; omega
def lenB (n i : Nat) : Int := (8 * n : Int) / 2 ^ (56 - 8 * i) % 256
def tailI (n : Nat) : List Int := (128 :: List.replicate (padZ n) 0) ++ (List.range 8).map (lenB n)
theorem tailI_len (n : Nat) : (tailI n).length = padZ n + 9 := by simp [tailI]

set_option maxRecDepth 100000 in
set_option maxHeartbeats 1000000 in
theorem tail_any (n : Nat) (w : World) (hn : n ≤ 1073741824) :
    Calls Tryz.prog 188 #[.int .u64 n] w (Makes (.string (strOfNums (tailI n))) w) := by
  have hz := padZ_lt n
  go_enter Tryz.func188, Tryz.ntmps188
  go_wp2_with fail
  have hO := BytesO.made w w.heap.size [128] (Nat.le_refl _) (by decide)
  have u0 : Upd (fun k => w.heap.size ≤ k) w (w.alloc (.cells #[.int .u8 128] 5)) := (Upd.refl _ _).alloc _
  simp only [List.map_cons, List.map_nil, List.length_cons, List.length_nil, Nat.zero_add] at hO
  generalize w.alloc (.cells #[.int .u8 128] 5) = wa at hO u0 ⊢
  have HO := hide hO
  clear hO
  go_loopw [3] (fun bv wr => ∃ (k : Nat) (a : Option Addr) (c : Nat), bv = .slice a (k + 1) c ∧ k ≤ padZ n ∧ Hid (BytesO wr w.heap.size bv (128 :: List.replicate k 0)) ∧ Upd (fun k => w.heap.size ≤ k) w wr) (fun bv _ => 100 - (match bv with | .slice _ l _ => l | _ => 0))
  case atStart => exact ⟨0, _, _, rfl, Nat.zero_le _, HO, u0⟩
  case round =>
    obtain ⟨k, a, c, rfl, hk, HO, ur⟩ := hrel
    by_cases hlt : k < padZ n
    · have hne := padZ_ne n k hlt
      have h1 : ((((n : Int) + ((k : Int) + 1)) + 8) % 64 != 0) = true := by rw [bne_iff_ne]; omega
      have hk0 : (k : Int) < 64 := by omega
      have hn0 : (n : Int) ≤ 1073741824 := by omega
      have hb := ur.size
      clear hne
      go_wp2_with (at_builtin; refine append_byte rfl (.tmp 14) (.tmp 15) rfl w.heap.size _ _ rfl 0 _ _ rfl (unhide HO) (by simp; omega) hb ?_)
      intro v' w5 hO5 u5
      have u6 := ur.then u5 (fun q _ h => ((unhide HO).ge h).1)
      obtain ⟨a5, c5, rfl⟩ := hO5.shape
      replace hO5 : BytesO w5 w.heap.size (Value.slice a5 (128 :: (List.replicate k (0 : Int) ++ [0])).length c5) (128 :: (List.replicate k 0 ++ [0])) := hO5
      rw [← List.replicate_succ'] at hO5
      simp only [List.length_append, List.length_cons, List.length_replicate, List.length_nil, Nat.zero_add] at hO5 ⊢
      have HO5 := hide hO5
      clear hO5 u5 HO
      go_wp2
      go_roundw
      case rel => exact ⟨k + 1, a5, c5, rfl, by omega, HO5, u6⟩
      case measure => simp; omega
    · obtain rfl : k = padZ n := by omega
      have hne := padZ_eq n
      have h1 : ((((n : Int) + ((padZ n : Int) + 1)) + 8) % 64 != 0) = false := by rw [bne_eq_false_iff_eq]; omega
      have hk0 : (padZ n : Int) < 64 := by omega
      have hn0 : (n : Int) ≤ 1073741824 := by omega
      obtain ⟨wo, rfl⟩ : ∃ wo : World, wo = wr := ⟨_, rfl⟩
      clear hne
      go_wp2_with fail
      go_loopw [3, 4, 17] (fun bv _ iv wr => ∃ (i : Nat) (a : Option Addr) (c : Nat), iv = .int .i64 (i : Int) ∧ i ≤ 8 ∧ bv = .slice a (padZ n + 1 + i) c ∧ Hid (BytesO wr w.heap.size bv ((128 :: List.replicate (padZ n) 0) ++ (List.range i).map (lenB n))) ∧ Upd (fun k => w.heap.size ≤ k) w wr) (fun _ _ iv _ => 8 - (intOf iv).toNat)
      case atStart => exact ⟨0, _, _, rfl, by omega, rfl, by simpa using HO, ur⟩
      case round =>
        obtain ⟨i, a, c, rfl, hi, rfl, HO, ur⟩ := hrel
        by_cases hlt : i < 8
        · have hi0 : (i : Int) < 8 := by omega
          have hb := ur.size
          go_wp2_with (at_builtin; refine append_byte rfl (.tmp 20) (.tmp 28) rfl w.heap.size _ _ rfl _ _ _ rfl (unhide HO) (by simp; omega) hb ?_)
          intro v' w5 hO5 u5
          have u6 := ur.then u5 (fun q _ h => ((unhide HO).ge h).1)
          obtain ⟨a5, c5, rfl⟩ := hO5.shape
          have hlen5 : (128 :: (List.replicate (padZ n) (0 : Int) ++ ((List.range i).map (lenB n) ++ [8 * (n : Int) / 2 ^ (56 - 8 * i) % 256]))).length = padZ n + 1 + (i + 1) := by simp; omega
          rw [hlen5] at hO5 ⊢
          replace hO5 : BytesO w5 w.heap.size (.slice a5 (padZ n + 1 + (i + 1)) c5) ((128 :: List.replicate (padZ n) 0) ++ (List.range (i + 1)).map (lenB n)) := by
            rw [List.range_succ, List.map_append, ← List.append_assoc]
            have e : (128 :: List.replicate (padZ n) (0 : Int)) ++ (List.range i).map (lenB n) ++ [lenB n i] = 128 :: (List.replicate (padZ n) 0 ++ ((List.range i).map (lenB n) ++ [8 * (n : Int) / 2 ^ (56 - 8 * i) % 256])) := by simp [lenB]
            exact e ▸ hO5
          clear hlen5
          have HO5 := hide hO5
          clear hO5 u5 HO
          go_wp2
          go_roundw
          case rel => exact ⟨i + 1, a5, c5, by go_num, by omega, rfl, HO5, u6⟩
          case measure => simp [intOf]; omega
        · obtain rfl : i = 8 := by omega
          rw [show ((8 : Nat) : Int) = 8 from rfl]
          have hst := run_string_own (unhide HO)
          go_wp2
          go_ret
          exact ⟨rfl, ur.below' (Nat.le_refl _) (fun _ h => h) |> fun h => Upd.of_below h (Nat.le_refl _)⟩

set_option maxHeartbeats 1000000 in
theorem pad_any (s : ByteArray) (w : World) (hs : s.size ≤ 1073741824) :
    Calls Tryz.prog 135 #[.string s] w (Makes (.string (s ++ strOfNums (tailI s.size))) w) := by
  have hn0 : (s.size : Int) ≤ 1073741824 := by omega
  have hz := padZ_lt s.size
  have hl : (strOfNums (tailI s.size)).size = padZ s.size + 9 := by rw [strOfNums_size, tailI_len]
  generalize padZ s.size = z at hz hl
  go_enter Tryz.func135, Tryz.ntmps135
  go_wp2_with fail
  refine (tail_any s.size w hs).mono ?_
  rintro e w1 ⟨rfl, n1⟩
  generalize ht : strOfNums (tailI s.size) = t at hl ⊢
  have HT := hide ht
  clear ht
  go_wp2
  go_ret
  exact ⟨by rw [unhide HT]; rfl, n1⟩

theorem rowN_of_cells {w : World} {b n : Nat} {A : Array Value} (hn : 0 < n) (hA : A.size = n) (h : ∀ j, j < n → w.cell? ⟨b, j, none⟩ = A[j]?) : rowN w b 0 n = some A := by
  have h0 := h (n - 1) (by omega)
  rw [Array.getElem?_eq_getElem (by omega)] at h0
  unfold rowN
  unfold World.cell? at h h0
  cases hb : w.heap[b]? with
  | none => rw [hb] at h0; cases h0
  | some ob =>
    simp only [hb] at h h0
    cases ob with
    | cells C T fz =>
      simp only at h h0 ⊢
      have hs := (Array.getElem?_eq_some_iff.1 h0).1
      rw [if_pos (by omega)]
      congr 1
      refine Array.ext_getElem? fun i => ?_
      rw [Array.getElem?_extract]
      by_cases hi : i < n
      · rw [if_pos (by omega), Nat.zero_add]
        exact h i hi
      · rw [if_neg (by omega), Array.getElem?_eq_none (by omega)]
    | _ => cases h0
theorem Tabs.row {w : World} (h : Tabs w) : rowN w 0 0 8 = some (hBeg.map (Value.int .u32)).toArray := by
  refine rowN_of_cells (by decide) rfl fun j hj => ?_
  rw [h.start j hj]
  match j, hj with
  | 0, _ => rfl
  | 1, _ => rfl
  | 2, _ => rfl
  | 3, _ => rfl
  | 4, _ => rfl
  | 5, _ => rfl
  | 6, _ => rfl
  | 7, _ => rfl
theorem hBeg_u32 : U32s hBeg := by unfold U32s hBeg; decide

/-- The sum of a text, as the program reckons it: thirty-two bytes. -/
def padS (s : ByteArray) : ByteArray := s ++ strOfNums (tailI s.size)
def sumI (s : ByteArray) : List Int := byAll (blkI ((padS s).size / 64) hBeg (padS s)) 32
theorem sumI_len (s : ByteArray) : (sumI s).length = 32 := byAll_len _ _
def ldH32 (x : Value) : Sem Value := Instr.loadAt 30 x
theorem ld_h32_fold (x : Value) : Instr.loadAt 30 x = ldH32 x := rfl
theorem ld_h32 (b o : Nat) (w : World) : (ldH32 (.pointer (some ⟨b, o, none⟩))).run Tryz.prog w = match rowN w b o 32 with | some A => .ok (.agg A) w | none => slowLd Tryz.prog 30 w b o :=
  run_loadAt_rowN 30 32 _ Tryz.underlying30 rfl Tryz.infoHash b o w
def stH32 (x v : Value) : Sem Unit := Instr.storeAt 30 x v
theorem st_h32_fold (x v : Value) : Instr.storeAt 30 x v = stH32 x v := rfl
theorem st_h32 (b o : Nat) (A : Array Value) (w : World) : (stH32 (.pointer (some ⟨b, o, none⟩)) (.agg A)).run Tryz.prog w = if stOk w b o 32 A = true then .ok () (w.setCells b o A.toList) else slowSt Tryz.prog 30 w b o A :=
  run_storeAt_row 30 32 Tryz.infoHash b o A w
attribute [local go_sem ↓ high] ld_w8_fold st_w8_fold ld_h32_fold st_h32_fold
attribute [local go_sem] ld_w8 st_w8 ld_h32 st_h32
def sumS (wo : World) (A : Nat) (r : List Int) : Nat → World → Prop
  | 0, w => New wo w
  | _, w => Upd (fun k => k = A) wo w ∧ Ints .u8 w A r

set_option maxRecDepth 100000 in
set_option maxHeartbeats 1000000 in
theorem sum_any (s : ByteArray) (w : World) (hs : s.size ≤ 1000000000) (hT : Tabs w) :
    Calls Tryz.prog 74 #[.string s] w fun e w' => e = .returned (.agg ((sumI s).map (Value.int .u8)).toArray) ∧ New w w' := by
  have hl : (padS s).size ≤ 1073741824 := by
    unfold padS
    rw [ByteArray.size_append, strOfNums_size, tailI_len]
    have := padZ_lt s.size
    omega
  have hp := fun W => pad_any s W (by omega)
  have hb := fun W h1 => blocks_any hBeg (padS s) W rfl hBeg_u32 hl h1
  have hy := fun W => bytes_any (blkI ((padS s).size / 64) hBeg (padS s)) W (blkI_ok _ _ _ ⟨rfl, hBeg_u32⟩).1 (blkI_ok _ _ _ ⟨rfl, hBeg_u32⟩).2
  have hlen := sumI_len s
  change ∀ W, Calls _ _ _ _ (Makes (.string (padS s)) W) at hp
  change ∀ W, Calls _ _ _ _ (fun e w' => e = .returned (.agg ((sumI s).map (Value.int .u8)).toArray) ∧ New W w') at hy
  have HF := hide (rfl : sumI s = sumI s)
  go_enter Tryz.func74, Tryz.ntmps74
  go_upto_region 1 with fail
  obtain ⟨T0, h0⟩ : ∃ T, (w.alloc (.cells #[.int .u8 0, .int .u8 0, .int .u8 0, .int .u8 0, .int .u8 0, .int .u8 0, .int .u8 0, .int .u8 0, .int .u8 0, .int .u8 0, .int .u8 0, .int .u8 0, .int .u8 0, .int .u8 0, .int .u8 0, .int .u8 0, .int .u8 0, .int .u8 0, .int .u8 0, .int .u8 0, .int .u8 0, .int .u8 0, .int .u8 0, .int .u8 0, .int .u8 0, .int .u8 0, .int .u8 0, .int .u8 0, .int .u8 0, .int .u8 0, .int .u8 0, .int .u8 0] 30)).heap[w.heap.size]? = some (.cells ((List.replicate 32 0).map (Value.int .u8)).toArray T (0, 0)) := ⟨_, blk_alloc _ _⟩
  have n0 : New w (w.alloc (.cells #[.int .u8 0, .int .u8 0, .int .u8 0, .int .u8 0, .int .u8 0, .int .u8 0, .int .u8 0, .int .u8 0, .int .u8 0, .int .u8 0, .int .u8 0, .int .u8 0, .int .u8 0, .int .u8 0, .int .u8 0, .int .u8 0, .int .u8 0, .int .u8 0, .int .u8 0, .int .u8 0, .int .u8 0, .int .u8 0, .int .u8 0, .int .u8 0, .int .u8 0, .int .u8 0, .int .u8 0, .int .u8 0, .int .u8 0, .int .u8 0, .int .u8 0, .int .u8 0] 30)) := (Upd.refl _ _).alloc _
  generalize w.alloc (.cells #[.int .u8 0, .int .u8 0, .int .u8 0, .int .u8 0, .int .u8 0, .int .u8 0, .int .u8 0, .int .u8 0, .int .u8 0, .int .u8 0, .int .u8 0, .int .u8 0, .int .u8 0, .int .u8 0, .int .u8 0, .int .u8 0, .int .u8 0, .int .u8 0, .int .u8 0, .int .u8 0, .int .u8 0, .int .u8 0, .int .u8 0, .int .u8 0, .int .u8 0, .int .u8 0, .int .u8 0, .int .u8 0, .int .u8 0, .int .u8 0, .int .u8 0, .int .u8 0] 30) = wo at h0 n0 ⊢
  have hr := hlen
  have H0 : Ints .u8 wo w.heap.size (List.replicate 32 0) := ⟨T0, h0⟩
  have HT := hide (hT.new n0)
  generalize hbl : blkI ((padS s).size / 64) hBeg (padS s) = bl at hb hy
  generalize hsi : sumI s = si at hy hlen hr
  generalize hps : padS s = ps at hp hb hl
  have HP := hide hp
  have HB := hide hb
  have HY := hide hy
  have HSI := hide hsi
  have HL := hide hlen
  have hst := H0.stOk (r := si) (n := 32) (by simpa using hr) hr
  clear hp hb hy hbl hsi hps hr h0 hT hlen HF
  refine wp_dagP (by kernel_rfl) [[], [], [(1, 4)], [(0, 3), (2, 5)], [(3, 6)], [(4, 7)]] 8 rfl (by kernel_rfl) [(0, 3), (1, 4), (2, 5), (3, 6), (4, 7)] (by kernel_rfl) [5] (by kernel_rfl) [[(0, 0)], [(0, 0)], [(0, 0)], [(0, 0)], [(0, 0)], [(0, 1)]] (by kernel_rfl)
    (sumS wo w.heap.size si) AnyW (isV [.agg (hBeg.map (Value.int .u32)).toArray, .string s, .string ps, .agg (bl.map (Value.int .u32)).toArray, .agg (si.map (Value.int .u8)).toArray, undef])
    ((Upd.refl _ _).drew) (fun _ => AnyW.all _ _) (fun _ _ _ _ _ _ _ _ _ h => h) ?_ ?_
  · refine .one rfl ?_ <| .pure rfl (fun _ => AnyW.all _ _) rfl ?_ <| .one rfl ?_ <| .one rfl ?_ <| .one rfl ?_ <| .one rfl ?_ <| .nil
    · intro vals w1 hS _
      replace hS : New wo w1 := hS
      have hr := ((unhide HT).new hS).row
      generalize (hBeg.map (Value.int .u32)).toArray = hB at hr ⊢
      unfold opRun; simp only [putL]; go_simp
      exact ⟨AnyW.all _ _, hS, rfl⟩
    · intro vals w1 _
      unfold opRun; simp only [putL]; go_simp
      first | exact ⟨rfl, rfl⟩ | rfl
    · rintro vals w1 hS ⟨p0, -⟩
      replace hS : New wo w1 := hS
      replace p0 : vals 1 = .string s := p0
      unfold opRun; simp only [putL]; go_simp
      refine (unhide HP w1).mono ?_
      rintro e w2 ⟨rfl, n2⟩
      exact ⟨_, rfl, AnyW.all _ _, hS.trans n2, rfl⟩
    · rintro vals w1 hS ⟨p0, p1, -⟩
      replace hS : New wo w1 := hS
      replace p0 : vals 0 = .agg (hBeg.map (Value.int .u32)).toArray := p0
      replace p1 : vals 2 = .string ps := p1
      have HQ := hide (unhide HB w1 ((unhide HT).new hS))
      generalize (hBeg.map (Value.int .u32)).toArray = hB at p0 HQ
      unfold opRun; simp only [putL]; go_simp
      refine (unhide HQ).mono ?_
      rintro e w2 ⟨rfl, n2⟩
      exact ⟨_, rfl, AnyW.all _ _, hS.trans n2, rfl⟩
    · rintro vals w1 hS ⟨p0, -⟩
      replace hS : New wo w1 := hS
      replace p0 : vals 3 = .agg (bl.map (Value.int .u32)).toArray := p0
      have HQ := hide (unhide HY w1)
      generalize (bl.map (Value.int .u32)).toArray = hB at p0 HQ
      unfold opRun; simp only [putL]; go_simp
      refine (unhide HQ).mono ?_
      rintro e w2 ⟨rfl, n2⟩
      exact ⟨_, rfl, AnyW.all _ _, hS.trans n2, rfl⟩
    · rintro vals w1 hS ⟨p0, -⟩
      replace hS : New wo w1 := hS
      replace p0 : vals 4 = .agg (si.map (Value.int .u8)).toArray := p0
      have hI := H0.upd hS (fun h => h)
      have hst := hI.stOk (r := si) (n := 32) (by simpa using unhide HL) (unhide HL)
      have hS1 := hide (hI.setAll (r := si) (by simpa using unhide HL))
      have u1 := hide ((hS.mono (T := fun k => k = w.heap.size) (fun _ _ h => h.elim)).then ((Upd.refl (· = w.heap.size) w1).setCells 0 (si.map (Value.int .u8))) (fun _ _ h => h))
      have e0 : (si.map (Value.int .u8)).toArray.toList = si.map (Value.int .u8) := rfl
      generalize hcs : (si.map (Value.int .u8)).toArray = cs at p0 hst e0
      generalize hcl : si.map (Value.int .u8) = cl at e0 hS1 u1
      clear hcs hcl hI
      unfold opRun; simp only [putL]; go_simp
      exact ⟨AnyW.all _ _, ⟨unhide u1, unhide hS1⟩, rfl⟩
  · intro vals w1 hS hv
    clear hv
    replace hS : Upd (fun k => k = w.heap.size) wo w1 ∧ Ints .u8 w1 w.heap.size si := hS
    obtain ⟨u1, T1, hI⟩ := hS
    simp only [putL]
    have nE := n0.then u1 (by intro q hq h; omega)
    go_wp2_with fail
    refine bodyPost_ret (results_cell_row rfl _ _ w.heap.size T1 _ _ _ rfl hI Tryz.underlying30 rfl (by rw [List.size_toArray, List.length_map, unhide HL]; exact Tryz.infoHash)) rfl ?_
    exact ⟨by rw [unhide HSI], nE⟩

end Go.Proofs.YtjckpgcmfieaoaaGreatDoor
namespace Go.Proofs.YtjckpgcmfieaoaaGreatDoor
open Go.RowKit

theorem bits_nat {op : BinOp} {f : Nat → Nat → Nat} (hop : (op = .or ∧ f = Nat.lor) ∨ (op = .xor ∧ f = Nat.xor) ∨ (op = .and ∧ f = Nat.land)) {x y : Nat} (hx : x < 4294967296) (hy : y < 4294967296) : bits op .u32 (x : Int) (y : Int) = (f x y : Nat) := by
  have low : ∀ u : Nat, u < 4294967296 → (BitVec.ofInt 32 (u : Int)).toNat = u := fun u hu => by
    rw [BitVec.toNat_ofInt]
    simp
    omega
  have fin : ∀ n : Nat, n < 4294967296 → IntKind.u32.wrap (n : Int) = n := fun n hn => by
    simp [IntKind.wrap, IntKind.bits, IntKind.signed]
    omega
  rcases hop with ⟨rfl, rfl⟩ | ⟨rfl, rfl⟩ | ⟨rfl, rfl⟩
  · show IntKind.u32.wrap ((BitVec.ofInt 32 (x : Int) ||| BitVec.ofInt 32 (y : Int)).toNat : Int) = _
    have e : (BitVec.ofInt 32 (x : Int) ||| BitVec.ofInt 32 (y : Int)).toNat = Nat.lor x y := by rw [BitVec.toNat_or, low x hx, low y hy]; rfl
    rw [e]
    exact fin _ (Nat.or_lt_two_pow (n := 32) hx hy)
  · show IntKind.u32.wrap ((BitVec.ofInt 32 (x : Int) ^^^ BitVec.ofInt 32 (y : Int)).toNat : Int) = _
    have e : (BitVec.ofInt 32 (x : Int) ^^^ BitVec.ofInt 32 (y : Int)).toNat = Nat.xor x y := by rw [BitVec.toNat_xor, low x hx, low y hy]; rfl
    rw [e]
    exact fin _ (Nat.xor_lt_two_pow (n := 32) hx hy)
  · show IntKind.u32.wrap ((BitVec.ofInt 32 (x : Int) &&& BitVec.ofInt 32 (y : Int)).toNat : Int) = _
    have e : (BitVec.ofInt 32 (x : Int) &&& BitVec.ofInt 32 (y : Int)).toNat = Nat.land x y := by rw [BitVec.toNat_and, low x hx, low y hy]; rfl
    rw [e]
    exact fin _ (Nat.and_lt_two_pow (n := 32) x hy)
theorem or_nat {x y : Nat} (hx : x < 4294967296) (hy : y < 4294967296) : bits .or .u32 (x : Int) (y : Int) = (Nat.lor x y : Nat) := bits_nat (.inl ⟨rfl, rfl⟩) hx hy
theorem xor_nat {x y : Nat} (hx : x < 4294967296) (hy : y < 4294967296) : bits .xor .u32 (x : Int) (y : Int) = (Nat.xor x y : Nat) := bits_nat (.inr (.inl ⟨rfl, rfl⟩)) hx hy
theorem and_nat {x y : Nat} (hx : x < 4294967296) (hy : y < 4294967296) : bits .and .u32 (x : Int) (y : Int) = (Nat.land x y : Nat) := bits_nat (.inr (.inr ⟨rfl, rfl⟩)) hx hy
theorem xor_lt {x y : Nat} (hx : x < 4294967296) (hy : y < 4294967296) : Nat.xor x y < 4294967296 := Nat.xor_lt_two_pow (n := 32) hx hy
theorem and_lt {x y : Nat} (hy : y < 4294967296) : Nat.land x y < 4294967296 := Nat.and_lt_two_pow (n := 32) x hy
theorem hAdd_lt (x y : Nat) : hAdd x y < 4294967296 := Nat.mod_lt _ (by omega)
theorem hRot_eq {x n : Nat} (hx : x < 4294967296) (hn : n < 32) : rotI (x : Int) (n : Int) = (hRot x n : Nat) ∧ hRot x n < 4294967296 := by
  unfold rotI hRot
  have e1 : (x : Int) / 2 ^ ((n : Int).toNat) = ((Nat.shiftRight x n : Nat) : Int) := by
    show _ = ((x >>> n : Nat) : Int)
    rw [Nat.shiftRight_eq_div_pow]
    simp
  have e2 : (x : Int) * 2 ^ ((32 - (n : Int)).toNat) % 4294967296 = ((Nat.mod (Nat.shiftLeft x (Nat.sub 32 n)) 4294967296 : Nat) : Int) := by
    show _ = (((x <<< (32 - n)) % 4294967296 : Nat) : Int)
    rw [Nat.shiftLeft_eq, show (32 - (n : Int)).toNat = 32 - n by omega]
    simp
  have l1 : Nat.shiftRight x n < 4294967296 := by
    show x >>> n < _
    rw [Nat.shiftRight_eq_div_pow]
    exact Nat.lt_of_le_of_lt (Nat.div_le_self _ _) hx
  have l2 : Nat.mod (Nat.shiftLeft x (Nat.sub 32 n)) 4294967296 < 4294967296 := Nat.mod_lt _ (by omega)
  rw [e1, e2, or_nat l1 l2]
  exact ⟨rfl, Nat.or_lt_two_pow (n := 32) l1 l2⟩
theorem turns2 {x a b : Nat} (hx : x < 4294967296) (ha : a < 32) (hb : b < 32) : turnsI (x : Int) [(a : Int), (b : Int)] = (Nat.xor (hRot x a) (hRot x b) : Nat) ∧ Nat.xor (hRot x a) (hRot x b) < 4294967296 := by
  obtain ⟨r1, l1⟩ := hRot_eq hx ha
  obtain ⟨r2, l2⟩ := hRot_eq hx hb
  refine ⟨?_, xor_lt l1 l2⟩
  unfold turnsI
  simp only [List.foldl_cons, List.foldl_nil]
  rw [r1, r2, show (0 : Int) = ((0 : Nat) : Int) from rfl, xor_nat (by omega) l1]
  rw [show Nat.xor 0 (hRot x a) = hRot x a from Nat.zero_xor _, xor_nat l1 l2]
theorem turns3 {x a b c : Nat} (hx : x < 4294967296) (ha : a < 32) (hb : b < 32) (hc : c < 32) : turnsI (x : Int) [(a : Int), (b : Int), (c : Int)] = (hX3 (hRot x a) (hRot x b) (hRot x c) : Nat) ∧ hX3 (hRot x a) (hRot x b) (hRot x c) < 4294967296 := by
  obtain ⟨r1, l1⟩ := hRot_eq hx ha
  obtain ⟨r2, l2⟩ := hRot_eq hx hb
  obtain ⟨r3, l3⟩ := hRot_eq hx hc
  unfold hX3
  refine ⟨?_, xor_lt (xor_lt l1 l2) l3⟩
  unfold turnsI
  simp only [List.foldl_cons, List.foldl_nil]
  rw [r1, r2, r3, show (0 : Int) = ((0 : Nat) : Int) from rfl, xor_nat (by omega) l1]
  rw [show Nat.xor 0 (hRot x a) = hRot x a from Nat.zero_xor _, xor_nat l1 l2, xor_nat (xor_lt l1 l2) l3]
/-- The letters as a row. -/
def W8.toL (v : W8) : List Int := [(v.a : Int), v.b, v.c, v.d, v.e, v.f, v.g, v.h]
structure W8.Ok (v : W8) : Prop where
  a : v.a < 4294967296
  b : v.b < 4294967296
  c : v.c < 4294967296
  d : v.d < 4294967296
  e : v.e < 4294967296
  f : v.f < 4294967296
  g : v.g < 4294967296
  h : v.h < 4294967296
theorem rotD {x n : Nat} (hx : x < 4294967296) (hn : n < 32) : (x * 4294967297) >>> n % 4294967296 = hRot x n := by
  have hPQ : 2 ^ n * 2 ^ (32 - n) = 4294967296 := by rw [← Nat.pow_add, show n + (32 - n) = 32 by omega]
  have hP : 0 < 2 ^ n := Nat.two_pow_pos n
  have hQ : 0 < 2 ^ (32 - n) := Nat.two_pow_pos _
  have hrot : hRot x n = Nat.lor (x >>> n) (x <<< (32 - n) % 4294967296) := rfl
  rw [hrot, Nat.shiftRight_eq_div_pow, Nat.shiftRight_eq_div_pow, Nat.shiftLeft_eq]
  have hQi : ∀ y z : Nat, y < 2 ^ (32 - n) → Nat.lor y (2 ^ (32 - n) * z) = 2 ^ (32 - n) * z + y := fun y z hy => by
    rw [Nat.two_pow_add_eq_or_of_lt hy z]
    exact Nat.or_comm _ _
  generalize 2 ^ (32 - n) = Q at *
  generalize 2 ^ n = P at *
  have hd := Nat.div_add_mod x P
  have hz := Nat.mod_lt x hP
  generalize x / P = y at *
  generalize x % P = z at *
  have hy : y < Q := by
    rcases Nat.lt_or_ge y Q with h | h
    · exact h
    · have := Nat.mul_le_mul_left P h
      omega
  have e1 : x * 4294967297 / P = x * Q + y := by
    have : x * 4294967297 = P * (x * Q) + x := by
      rw [show (4294967297 : Nat) = P * Q + 1 by omega, Nat.mul_add, Nat.mul_one, ← Nat.mul_assoc, ← Nat.mul_assoc, Nat.mul_comm x P]
    rw [this, Nat.mul_add_div hP, ← hd, Nat.mul_add_div hP, Nat.div_eq_of_lt hz, Nat.add_zero, hd]
  have hzQ : Q * z + y < P * Q := by
    have h1 : z + 1 ≤ P := hz
    have := Nat.mul_le_mul_left Q h1
    rw [Nat.mul_add, Nat.mul_one, Nat.mul_comm Q P] at this
    omega
  have e2 : x * Q = P * Q * y + Q * z := by
    rw [← hd, Nat.add_mul, Nat.mul_comm z Q, Nat.mul_assoc, Nat.mul_comm y Q, ← Nat.mul_assoc]
  have e3 : (x * Q + y) % 4294967296 = Q * z + y := by
    rw [e2, Nat.add_assoc, ← hPQ, Nat.mul_add_mod, Nat.mod_eq_of_lt hzQ]
  have e4 : x * Q % 4294967296 = Q * z := by
    rw [e2, ← hPQ, Nat.mul_add_mod, Nat.mod_eq_of_lt (by omega)]
  rw [e1, e3, e4, hQi y z hy]
theorem hS2_eq {x a b : Nat} (hx : x < 4294967296) (ha : a < 32) (hb : b < 32) : hS2 (Nat.mul x 4294967297) a b = Nat.xor (hRot x a) (hRot x b) := by
  have h := Nat.xor_mod_two_pow (a := (x * 4294967297) >>> a) (b := (x * 4294967297) >>> b) (n := 32)
  have e : (2 : Nat) ^ 32 = 4294967296 := rfl
  rw [e, rotD hx ha, rotD hx hb] at h
  exact h
theorem hS3_eq {x a b c : Nat} (hx : x < 4294967296) (ha : a < 32) (hb : b < 32) (hc : c < 32) : hS3 (Nat.mul x 4294967297) a b c = hX3 (hRot x a) (hRot x b) (hRot x c) := by
  have h := Nat.xor_mod_two_pow (a := (x * 4294967297) >>> a ^^^ (x * 4294967297) >>> b) (b := (x * 4294967297) >>> c) (n := 32)
  have h2 := Nat.xor_mod_two_pow (a := (x * 4294967297) >>> a) (b := (x * 4294967297) >>> b) (n := 32)
  have e : (2 : Nat) ^ 32 = 4294967296 := rfl
  rw [e] at h h2
  rw [h2, rotD hx ha, rotD hx hb, rotD hx hc] at h
  exact h
theorem hRound_old {v : W8} (hv : v.Ok) (k w : Nat) : hRound v k w = hRoundO v k w := by
  obtain ⟨a, b, c, d, e, f, g, h⟩ := v
  obtain ⟨ha, hb, hc, hd, he, hf, hg, hh⟩ := hv
  simp only at ha hb hc hd he hf hg hh
  unfold hRound hRoundO
  simp only
  rw [hS3_eq ha (by omega) (by omega) (by omega), hS3_eq he (by omega) (by omega) (by omega)]
  generalize hX3 (hRot a 2) (hRot a 13) (hRot a 22) = p
  generalize hX3 (hRot e 6) (hRot e 11) (hRot e 25) = q
  generalize hX3 (Nat.land a b) (Nat.land a c) (Nat.land b c) = m
  generalize Nat.xor (Nat.land e f) (Nat.land (Nat.xor 4294967295 e) g) = r
  have e1 : Nat.mod (Nat.add (Nat.add (Nat.add (Nat.add (Nat.add h q) r) k) w) (Nat.add p m)) 4294967296 = hAdd (hAdd (hAdd (hAdd (hAdd h q) r) k) w) (hAdd p m) := by
    unfold hAdd
    show (h + q + r + k + w + (p + m)) % 4294967296 = (((((h + q) % 4294967296 + r) % 4294967296 + k) % 4294967296 + w) % 4294967296 + (p + m) % 4294967296) % 4294967296
    omega
  have e2 : Nat.mod (Nat.add d (Nat.add (Nat.add (Nat.add (Nat.add h q) r) k) w)) 4294967296 = hAdd d (hAdd (hAdd (hAdd (hAdd h q) r) k) w) := by
    unfold hAdd
    show (d + (h + q + r + k + w)) % 4294967296 = (d + ((((h + q) % 4294967296 + r) % 4294967296 + k) % 4294967296 + w) % 4294967296) % 4294967296
    omega
  rw [e1, e2]
theorem hRound_eq {v : W8} (hv : v.Ok) {ws : List Int} {k w n : Nat} (hk : kTab.getD n 0 = (k : Int)) (hw : wd ws n = (w : Int)) : rdStep ws v.toL n = (hRound v k w).toL ∧ (hRound v k w).Ok := by
  rw [hRound_old hv]
  obtain ⟨a, b, c, d, e, f, g, h⟩ := v
  obtain ⟨ha, hb, hc, hd, he, hf, hg, hh⟩ := hv
  simp only at ha hb hc hd he hf hg hh
  obtain ⟨t1, u1⟩ := turns3 he (a := 6) (b := 11) (c := 25) (by omega) (by omega) (by omega)
  obtain ⟨t2, u2⟩ := turns3 ha (a := 2) (b := 13) (c := 22) (by omega) (by omega) (by omega)
  have nE : Nat.xor 4294967295 e < 4294967296 := xor_lt (by omega) he
  have c1 : chI (e : Int) f g = (Nat.xor (Nat.land e f) (Nat.land (Nat.xor 4294967295 e) g) : Nat) := by
    unfold chI
    rw [and_nat he hf, show (4294967295 : Int) = ((4294967295 : Nat) : Int) from rfl, xor_nat (by omega) he, and_nat nE hg, xor_nat (and_lt hf) (and_lt hg)]
  have m1 : majI (a : Int) b c = (hX3 (Nat.land a b) (Nat.land a c) (Nat.land b c) : Nat) := by
    unfold majI hX3
    rw [and_nat ha hb, and_nat ha hc, and_nat hb hc, xor_nat (and_lt hb) (and_lt hc), xor_nat (xor_lt (and_lt hb) (and_lt hc)) (and_lt hc)]
  have o1 : oneI (e : Int) f g h (k : Int) (w : Int) = ((hAdd (hAdd (hAdd (hAdd h (hX3 (hRot e 6) (hRot e 11) (hRot e 25))) (Nat.xor (Nat.land e f) (Nat.land (Nat.xor 4294967295 e) g))) k) w : Nat) : Int) := by
    unfold oneI
    have t1' : turnsI (e : Int) [6, 11, 25] = _ := t1
    rw [t1', c1]
    unfold hAdd
    generalize hX3 (hRot e 6) (hRot e 11) (hRot e 25) = p
    generalize Nat.xor (Nat.land e f) (Nat.land (Nat.xor 4294967295 e) g) = q
    show _ = ((((((h + p) % 4294967296 + q) % 4294967296 + k) % 4294967296 + w) % 4294967296 : Nat) : Int)
    omega
  have o2 : twoI (a : Int) b c = ((hAdd (hX3 (hRot a 2) (hRot a 13) (hRot a 22)) (hX3 (Nat.land a b) (Nat.land a c) (Nat.land b c)) : Nat) : Int) := by
    unfold twoI
    have t2' : turnsI (a : Int) [2, 13, 22] = _ := t2
    rw [t2', m1]
    unfold hAdd
    generalize hX3 (hRot a 2) (hRot a 13) (hRot a 22) = p
    generalize hX3 (Nat.land a b) (Nat.land a c) (Nat.land b c) = q
    show _ = (((p + q) % 4294967296 : Nat) : Int)
    omega
  refine ⟨?_, ⟨hAdd_lt _ _, ha, hb, hc, hAdd_lt _ _, he, hf, hg⟩⟩
  show [(oneI (e : Int) f g h (kTab.getD n 0) (wd ws n) + twoI (a : Int) b c) % 4294967296, (a : Int), b, c, (d + oneI (e : Int) f g h (kTab.getD n 0) (wd ws n)) % 4294967296, (e : Int), f, g] = _
  rw [hk, hw, o1, o2]
  show _ = W8.toL ⟨hAdd (hAdd (hAdd (hAdd (hAdd h (hX3 (hRot e 6) (hRot e 11) (hRot e 25))) (Nat.xor (Nat.land e f) (Nat.land (Nat.xor 4294967295 e) g))) k) w) (hAdd (hX3 (hRot a 2) (hRot a 13) (hRot a 22)) (hX3 (Nat.land a b) (Nat.land a c) (Nat.land b c))), a, b, c, hAdd d (hAdd (hAdd (hAdd (hAdd h (hX3 (hRot e 6) (hRot e 11) (hRot e 25))) (Nat.xor (Nat.land e f) (Nat.land (Nat.xor 4294967295 e) g))) k) w), e, f, g⟩
  generalize hAdd (hAdd (hAdd (hAdd h (hX3 (hRot e 6) (hRot e 11) (hRot e 25))) (Nat.xor (Nat.land e f) (Nat.land (Nat.xor 4294967295 e) g))) k) w = P
  generalize hAdd (hX3 (hRot a 2) (hRot a 13) (hRot a 22)) (hX3 (Nat.land a b) (Nat.land a c) (Nat.land b c)) = R
  have e1 : ((P : Int) + R) % 4294967296 = ((hAdd P R : Nat) : Int) := by show _ = (((P + R) % 4294967296 : Nat) : Int); omega
  have e2 : ((d : Int) + P) % 4294967296 = ((hAdd d P : Nat) : Int) := by show _ = (((d + P) % 4294967296 : Nat) : Int); omega
  rw [e1, e2]
  rfl
theorem hRounds_nil (ws : List Nat) (v : W8) : hRounds [] ws v = v := rfl
theorem hRounds_step (k : Nat) (ks : List Nat) : hRounds (k :: ks) = fun ws v => (match ws with | [] => v | w :: ws => hRounds ks ws (hRound v k w)) := rfl
theorem hRounds_cons (k w : Nat) (ks ws : List Nat) (v : W8) : hRounds (k :: ks) (w :: ws) v = hRounds ks ws (hRound v k w) := by
  rw [hRounds_step]
theorem hRounds_snoc (k w : Nat) : ∀ (ks ws : List Nat) (v : W8), ks.length = ws.length → hRounds (ks ++ [k]) (ws ++ [w]) v = hRound (hRounds ks ws v) k w
  | [], [], v, _ => by rw [List.nil_append, List.nil_append, hRounds_cons, hRounds_nil, hRounds_nil]
  | [], _ :: _, _, h => by simp at h
  | _ :: _, [], _, h => by simp at h
  | a :: ks, b :: ws, v, h => by
    rw [List.cons_append, List.cons_append, hRounds_cons, hRounds_cons]
    exact hRounds_snoc k w ks ws (hRound v a b) (by simpa using h)
theorem kTab_eq : kTab = hKs.map fun (n : Nat) => (n : Int) := by unfold kTab hKs; rfl
theorem rdAll_eq {v : W8} (hv : v.Ok) {ws : List Int} {W : List Nat} (hW : W.length = 64) (hws : ∀ i, i < 64 → wd ws i = (W.getD i 0 : Nat)) : ∀ n, n ≤ 64 → rdAll ws v.toL n = (hRounds (hKs.take n) (W.take n) v).toL ∧ (hRounds (hKs.take n) (W.take n) v).Ok
  | 0, _ => ⟨rfl, hv⟩
  | n + 1, hn => by
    obtain ⟨h1, h2⟩ := rdAll_eq hv hW hws n (by omega)
    have hk64 : hKs.length = 64 := rfl
    have tk : ∀ (l : List Nat), n < l.length → l.take (n + 1) = l.take n ++ [l.getD n 0] := fun l hl => by
      rw [List.take_succ_eq_append_getElem hl, List.getD_eq_getElem?_getD, List.getElem?_eq_getElem hl]
      rfl
    rw [rdAll_succ, h1, tk hKs (by omega), tk W (by omega), hRounds_snoc _ _ _ _ _ (by simp; omega)]
    refine hRound_eq h2 ?_ (hws n (by omega))
    rw [kTab_eq, List.getD_eq_getElem?_getD, List.getElem?_map, List.getD_eq_getElem?_getD]
    cases hKs[n]? <;> rfl
end Go.Proofs.YtjckpgcmfieaoaaGreatDoor
