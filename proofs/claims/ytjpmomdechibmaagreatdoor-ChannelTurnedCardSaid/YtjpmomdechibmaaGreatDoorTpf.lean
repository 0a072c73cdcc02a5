/-
  The revocation with any bit turned: its hash is another (printed by tools/mk_tn.py).
-/
import Derived.Test.YtjpmomdechibmaaGreatDoorTpc
import Derived.Test.YtjpmomdechibmaaGreatDoorTpd
import Derived.Test.YtjpmomdechibmaaGreatDoorMeg
import Derived.Test.YtjpmomdechibmaaGreatDoorMcj
import Derived.Test.YtjpmomdechibmaaGreatDoorTpa
import Derived.Test.YtjpmomdechibmaaGreatDoorTuR
import Derived.LaidLaws
import Derived.Lib.LaidTab
import Derived.Test.YtjpmomdechibmaaGreatDoorMaa
import Derived.ProofKit
import Derived.OpenShut
import Derived.ShutString
import Derived.ChangeOld
import Derived.Test.YtjpmomdechibmaaGreatDoorMde
import Derived.Test.YtjpmomdechibmaaGreatDoorRows
namespace Go.Proofs.YtjpmomdechibmaaGreatDoor
set_option linter.unusedVariables false
set_option linter.unusedSimpArgs false
open Go.RowKit

theorem turned_any (k : Nat) (hk : k < 256) : turnedB k = true := by
  have h : ∀ n, (∃ q, n = 4 * q ∧ q < 64) → ([n, n + 1, n + 2, n + 3] : List Nat).all turnedB = true := by
    rintro n ⟨q, rfl, hq⟩
    match q, hq with
    | 0, _ => exact turned_0
    | 1, _ => exact turned_4
    | 2, _ => exact turned_8
    | 3, _ => exact turned_12
    | 4, _ => exact turned_16
    | 5, _ => exact turned_20
    | 6, _ => exact turned_24
    | 7, _ => exact turned_28
    | 8, _ => exact turned_32
    | 9, _ => exact turned_36
    | 10, _ => exact turned_40
    | 11, _ => exact turned_44
    | 12, _ => exact turned_48
    | 13, _ => exact turned_52
    | 14, _ => exact turned_56
    | 15, _ => exact turned_60
    | 16, _ => exact turned_64
    | 17, _ => exact turned_68
    | 18, _ => exact turned_72
    | 19, _ => exact turned_76
    | 20, _ => exact turned_80
    | 21, _ => exact turned_84
    | 22, _ => exact turned_88
    | 23, _ => exact turned_92
    | 24, _ => exact turned_96
    | 25, _ => exact turned_100
    | 26, _ => exact turned_104
    | 27, _ => exact turned_108
    | 28, _ => exact turned_112
    | 29, _ => exact turned_116
    | 30, _ => exact turned_120
    | 31, _ => exact turned_124
    | 32, _ => exact turned_128
    | 33, _ => exact turned_132
    | 34, _ => exact turned_136
    | 35, _ => exact turned_140
    | 36, _ => exact turned_144
    | 37, _ => exact turned_148
    | 38, _ => exact turned_152
    | 39, _ => exact turned_156
    | 40, _ => exact turned_160
    | 41, _ => exact turned_164
    | 42, _ => exact turned_168
    | 43, _ => exact turned_172
    | 44, _ => exact turned_176
    | 45, _ => exact turned_180
    | 46, _ => exact turned_184
    | 47, _ => exact turned_188
    | 48, _ => exact turned_192
    | 49, _ => exact turned_196
    | 50, _ => exact turned_200
    | 51, _ => exact turned_204
    | 52, _ => exact turned_208
    | 53, _ => exact turned_212
    | 54, _ => exact turned_216
    | 55, _ => exact turned_220
    | 56, _ => exact turned_224
    | 57, _ => exact turned_228
    | 58, _ => exact turned_232
    | 59, _ => exact turned_236
    | 60, _ => exact turned_240
    | 61, _ => exact turned_244
    | 62, _ => exact turned_248
    | 63, _ => exact turned_252
    | q + 64, h => omega
  have h1 := h (4 * (k / 4)) ⟨k / 4, rfl, by omega⟩
  simp only [List.all_cons, List.all_nil, Bool.and_true, Bool.and_eq_true] at h1
  obtain ⟨a0, a1, a2, a3⟩ := h1
  rcases (show k = 4 * (k / 4) ∨ k = 4 * (k / 4) + 1 ∨ k = 4 * (k / 4) + 2 ∨ k = 4 * (k / 4) + 3 by omega) with e | e | e | e <;> rw [e]
  · exact a0
  · exact a1
  · exact a2
  · exact a3
end Go.Proofs.YtjpmomdechibmaaGreatDoor

/-
  Law 13's live, the reference's SameLive (printed by tools/mk_lvr.py out of the view's texts).
-/
namespace Go.Proofs.YtjpmomdechibmaaGreatDoor
set_option linter.unusedVariables false
set_option linter.unusedSimpArgs false
open Go.RowKit Go.Sort Go.ChangeShapes Go.WideShapes Go.ChangeAt Go.Deep

theorem Tryz.infoLiveR : (Tryz.prog.info? 109).map (·.size) = some 38 := by kernel_rfl

def ldLiveR (x : Value) : Sem Value := Instr.loadAt 109 x
theorem ld_live_foldR (x : Value) : Instr.loadAt 109 x = ldLiveR x := rfl
theorem ld_liveR (b o : Nat) (w : World) : (ldLiveR (.pointer (some ⟨b, o, none⟩))).run Tryz.prog w = match rowN w b o 38 with | some A => .ok (.agg A) w | none => slowLd Tryz.prog 109 w b o :=
  run_loadAt_rowN 109 38 _ Tryz.underlying109 rfl Tryz.infoLiveR b o w

def stLiveR (x v : Value) : Sem Unit := Instr.storeAt 109 x v
theorem st_live_foldR (x v : Value) : Instr.storeAt 109 x v = stLiveR x v := rfl
theorem st_liveR (b o : Nat) (A : Array Value) (w : World) : (stLiveR (.pointer (some ⟨b, o, none⟩)) (.agg A)).run Tryz.prog w = if stOk w b o 38 A = true then .ok () (w.setCells b o A.toList) else slowSt Tryz.prog 109 w b o A :=
  run_storeAt_row 109 38 Tryz.infoLiveR b o A w
theorem heldL_of_ownsR {w : World} {base : Nat} {v : Value} {n : Nat} {X : List Live} (h : w.ownsRow base 109 38 v n (X.flatMap liveCells)) :
    n = X.length ∧ ((v = .slice none 0 0 ∧ X = []) ∨ ∃ g cap, v = .slice (some ⟨g, 0, none⟩) X.length cap ∧ base ≤ g ∧ HeldO w g 0 X) := by
  have hn : n = X.length := by have := h.1; rw [flatL_len] at this; omega
  refine ⟨hn, ?_⟩
  subst hn
  rcases h.2 with ⟨e, e0⟩ | ⟨g, cap, cur, e, hb, hg, hc, _, hs, ht⟩
  · exact .inl ⟨e, List.length_eq_zero_iff.1 e0⟩
  · refine .inr ⟨g, cap, e, hb, cur, _, hg, by have := Nat.mul_le_mul_right 38 hc; omega, fun i x hi j hj => ?_⟩
    have hlt := (List.getElem?_eq_some_iff.1 hi).1
    rw [Nat.zero_add, ← flatL_get X i j x hi hj, ← ht, List.getElem?_take, if_pos (by have := Nat.mul_le_mul_right 38 (show i + 1 ≤ X.length from hlt); omega), Array.getElem?_toList]


theorem Tryz.infoLiveBR : (Tryz.prog.info? 109).map (fun i => (i.size, i.bytes, i.zero.map (·.cells.size))) = some (38, 80, some 38) := by kernel_rfl
theorem Tryz.zeroLiveR : ((Tryz.prog.info? 109).map fun i => i.zero.map fun z => z.cells.toList) = some (some (.int .u64 0 :: .int .u64 0 :: (List.replicate 32 (.int .u8 0) ++ [.int .i64 0, .bool false, .int .i64 0, .bool false]))) := by kernel_rfl
theorem live_zeroR : ∃ i z, Tryz.prog.info? 109 = some i ∧ i.zero = some z ∧ z.cells = (.int .u64 0 :: .int .u64 0 :: (List.replicate 32 (.int .u8 0) ++ [.int .i64 0, .bool false, .int .i64 0, .bool false])).toArray := by
  have h := Tryz.zeroLiveR
  cases hi : Tryz.prog.info? 109 with
  | none => rw [hi] at h; simp at h
  | some i =>
    rw [hi, Option.map_some, Option.some.injEq] at h
    cases hz : i.zero with
    | none => rw [hz] at h; simp at h
    | some z =>
      rw [hz, Option.map_some, Option.some.injEq] at h
      exact ⟨i, z, rfl, hz, by rw [← h]⟩
theorem row_liveR (A : List Value) (h : A.length = 38) (w : World) : (Instr.buildSlice 48 1 #[(0, .agg A.toArray)]).run Tryz.prog w = .ok (.slice (some ⟨w.heap.size, 0, none⟩) 1 1) (w.alloc (.cells A.toArray 109)) := by
  obtain ⟨i, z, hi, hz, hc⟩ := live_zeroR
  have hsz : i.size = 38 := by have := Tryz.infoLiveR; rw [hi] at this; simpa using this
  refine run_buildSlice w _ _ 1 _ _ i z Tryz.underlying48 hi hz (by rw [hsz]; decide) (by rw [hsz]; decide) ?_
  rw [hsz, hc]
  generalize hW : Array.map _ _ = W
  have hWs : W.toList.length = A.length := by rw [← hW, h]; simp
  have hf := fill_all W.toList A [] hWs
  have hWs2 : W.size = 38 := by rw [← h, ← hWs]; simp
  simp [Instr.fill, Value.cells, h, hWs2] at hf ⊢
  exact hf
def bsLiveR (n : Nat) (p : Array (Nat × Value)) : Sem Value := Instr.buildSlice 48 n p
theorem bs_live_foldR (n : Nat) (p : Array (Nat × Value)) : Instr.buildSlice 48 n p = bsLiveR n p := rfl
theorem bs_liveR (A : List Value) (w : World) : (bsLiveR 1 #[(0, .agg A.toArray)]).run Tryz.prog w = if A.length = 38 then .ok (.slice (some ⟨w.heap.size, 0, none⟩) 1 1) (w.alloc (.cells A.toArray 109)) else (Instr.buildSlice 48 1 #[(0, .agg A.toArray)]).run Tryz.prog w := by
  by_cases h : A.length = 38
  · rw [if_pos h]; exact row_liveR A h w
  · rw [if_neg h]; rfl
theorem bs_live0R (w : World) : (bsLiveR 0 #[]).run Tryz.prog w = .ok (.slice (some ⟨w.heap.size, 0, none⟩) 0 0) (w.alloc (.cells #[] 109)) := by
  obtain ⟨i, z, hi, hz, hc⟩ := live_zeroR
  have hsz : i.size = 38 := by have := Tryz.infoLiveR; rw [hi] at this; simpa using this
  show (Instr.buildSlice 48 0 #[]).run Tryz.prog w = _
  simp [Instr.buildSlice, run_underlying Tryz.underlying48, sizeOf, typeInfo, zeroValue, hi, hz, hsz, Instr.fill, newRow]
  rw [Array.eq_empty_of_size_eq_zero (xs := Array.map _ (Array.range 0)) (by simp)]


theorem live_infoR : ∃ i z, Tryz.prog.info? 109 = some i ∧ i.zero = some z ∧ i.size = 38 ∧ i.bytes = 80 ∧ z.cells.size = 38 := by
  have h := Tryz.infoLiveBR
  cases hi : Tryz.prog.info? 109 with
  | none => rw [hi] at h; simp at h
  | some i =>
    rw [hi] at h
    simp only [Option.map_some, Option.some.injEq, Prod.mk.injEq] at h
    obtain ⟨h1, h2, h3⟩ := h
    cases hz : i.zero with
    | none => rw [hz] at h3; simp at h3
    | some z => rw [hz] at h3; simp at h3; exact ⟨i, z, rfl, hz, h1, h2, h3⟩
section
attribute [local go_sem ↓ high] ld_live_fold bs_live_foldR
attribute [local go_sem] ld_live bs_liveR bs_live0R
set_option maxRecDepth 100000 in
set_option maxHeartbeats 4000000 in
theorem live13_any (v : Value) (xs : List Live) (hl : xs.length ≤ 1048576) (w : World) (hv : Lives w v xs) :
    Calls Tryz.prog 20 #[v] w fun e w' => ∃ u, e = .returned u ∧ New w w' ∧ Lives w' u xs := by
  obtain ⟨va, vc, rfl⟩ : ∃ a c, v = .slice a xs.length c := by
    rcases hv with ⟨_, _, rfl, rfl⟩ | ⟨g, off, cap, rfl, _⟩
    · exact ⟨_, _, rfl⟩
    · exact ⟨_, _, rfl⟩
  obtain ⟨i9, z9, hi, hz, hz0, hz1, hz2⟩ := live_infoR
  go_enter Tryz.func20, Tryz.ntmps20
  go_wp2_with fail
  have nA : New w (w.alloc (.cells #[] 109)) := (Upd.refl _ _).alloc _
  have hO := World.ownsRow_made (base := w.heap.size) (e := 109) (size := 38) w #[] 0 (Nat.le_refl _) (by decide) rfl
  have HV := hide hv
  generalize w.alloc (.cells #[] 109) = wa at nA hO ⊢
  have HO := hide hO
  clear hO hv
  obtain ⟨wo, rfl⟩ : ∃ wo : World, wo = wa := ⟨_, rfl⟩
  go_wp2_with fail
  go_loopw [3, 4] (fun sv iv wr => ∃ (n : Nat), iv = .int .i64 (n : Int) ∧ n ≤ xs.length ∧ (∃ a k c, sv = .slice a k c) ∧ Hid (wr.ownsRow w.heap.size 109 38 sv n ((xs.take n).flatMap liveCells)) ∧ New w wr) (fun _ iv _ => xs.length - (intOf iv).toNat)
  case atStart => exact ⟨0, rfl, Nat.zero_le _, ⟨_, _, _, rfl⟩, HO, nA⟩
  case round =>
    obtain ⟨n, rfl, hn, ⟨sa, sk, sc, rfl⟩, HO, nr⟩ := hrel
    by_cases hlt : n < xs.length
    · obtain ⟨x, hx⟩ : ∃ x, xs[n]? = some x := ⟨_, List.getElem?_eq_getElem hlt⟩
      rcases (unhide HV).new nr with ⟨_, _, e, e2⟩ | ⟨g, off, cap, e, hh⟩
      · rw [e2] at hlt; simp at hlt
      · cases e
        have hrow := hh.row hx
        have hnn : (n : Int) < (xs.length : Int) := by omega
        have hlen := live_len x
        have h1 := live_one x
        have ht : xs.take (n + 1) = xs.take n ++ [x] := by rw [List.take_add_one, hx]; rfl
        have HT := hide ht
        clear hx hh ht
        generalize hC : liveCells x = C at hrow hlen h1
        have HC := hide hC
        clear hC
        have hsz := nr.size
        go_wp2_with (at_builtin; refine wpList_append_own _ rfl (.tmp 12) (.tmp 17) 48 rfl w.heap.size 109 i9 _ 38 80 Tryz.underlying48 hi hz hz0 hz1 hz2 (by decide) _ _ _ rfl ((unhide HO).alloc _) ⟨wr.heap.size, 0, none⟩ 1 1 C rfl (by omega) ?c1 h1 ?c3 ?c4 ?c5 ?_)
        case c1 =>
          intro j u hj
          have hadd : (⟨wr.heap.size, 0, none⟩ : Addr).add j = ⟨wr.heap.size, j, none⟩ := by unfold Addr.add; split <;> simp_all
          rw [hadd, blk_cell (blk_alloc _ _)]
          simpa using hj
        case c3 => unfold maxLen; omega
        case c4 => omega
        case c5 => simp; omega
        intro v' w5 hown5 hgrow5 _
        have n5 : New w w5 := (nr.alloc _).grown hgrow5 (fun k h hk => by have := (unhide HO).lt k h; omega)
        obtain ⟨va', vk', vc', rfl⟩ := own_shape hown5
        have HO5 := hide hown5
        clear hown5 hgrow5
        go_wp2
        go_roundw
        case rel =>
          refine ⟨n + 1, by go_num, by omega, ⟨_, _, _, rfl⟩, hide ?_, n5⟩
          rw [unhide HT, List.flatMap_append]
          have := unhide HO5
          rw [← unhide HC] at this
          simpa using this
        case measure => simp [intOf]; omega
    · obtain rfl : n = xs.length := by omega
      rw [List.take_length] at HO
      have hf := (heldL_of_ownsR (unhide HO)).2
      have HF := hide hf
      clear hf
      go_wp2
      first | go_ret2 | go_ret
      refine ⟨_, rfl, nr, ?_⟩
      rcases unhide HF with ⟨e, e2⟩ | ⟨g, cap, e, _, hh⟩
      · rw [e]; exact .inl ⟨_, _, rfl, e2⟩
      · rw [e]; exact .inr ⟨g, 0, cap, rfl, hh.toL⟩


end
def htlcLeaves : List Leaf := .int .u64 :: .int .u64 :: (List.replicate 32 (.int .u8) ++ [.int .i64])
def liveLeaves : List Leaf := htlcLeaves ++ [.bool, .int .i64, .bool]
theorem ints_fitsL (k : IntKind) : ∀ (l : List Int), (∀ x ∈ l, (Lit.int k x).wf = true) → Fits (List.replicate l.length (.int k)) (l.map (Value.int k))
  | [], _ => rfl
  | x :: l, h => ⟨_, _, rfl, ⟨x, rfl, h x (List.mem_cons_self ..)⟩, ints_fitsL k l fun y hy => h y (List.mem_cons_of_mem _ hy)⟩
theorem wf_u64L {n : Int} (h : 0 ≤ n ∧ n ≤ 18446744073709551615) : (Lit.int .u64 n).wf = true := by
  simp [Lit.wf, IntKind.min, IntKind.max, IntKind.signed, IntKind.bits]; omega
theorem wf_i64L {n : Int} (h : -9223372036854775808 ≤ n ∧ n ≤ 9223372036854775807) : (Lit.int .i64 n).wf = true := by
  simp [Lit.wf, IntKind.min, IntKind.max, IntKind.signed, IntKind.bits]; omega
theorem wf_u8L {n : Int} (h : 0 ≤ n ∧ n ≤ 255) : (Lit.int .u8 n).wf = true := by
  simp [Lit.wf, IntKind.min, IntKind.max, IntKind.signed, IntKind.bits]; omega
theorem fits_htlc {x : Htlc} (h : HtlcOk x) : Fits htlcLeaves (htlcCells x) := by
  refine ⟨_, _, rfl, ⟨_, rfl, wf_u64L h.id⟩, _, _, rfl, ⟨_, rfl, wf_u64L h.amount⟩, Fits.app ?_ ⟨_, _, rfl, ⟨_, rfl, wf_i64L h.expiry⟩, rfl⟩⟩
  have := ints_fitsL .u8 x.hash.toList fun n hn => wf_u8L (h.hash n hn)
  simpa using this
theorem fits_live {x : Live} (h : LiveOk x) : Fits liveLeaves (liveCells x) :=
  Fits.app (fits_htlc h.h) ⟨_, _, rfl, ⟨_, rfl⟩, _, _, rfl, ⟨_, rfl, wf_i64L h.state⟩, _, _, rfl, ⟨_, rfl⟩, rfl⟩
theorem Lives.slice {w : World} {v : Value} {xs : List Live} (h : Lives w v xs) : ∃ a c, v = .slice a xs.length c := by
  rcases h with ⟨_, _, rfl, rfl⟩ | ⟨g, off, cap, rfl, _⟩
  · exact ⟨_, _, rfl⟩
  · exact ⟨_, _, rfl⟩
theorem Lives.row {w : World} {a : Option Addr} {n c : Nat} {X : List Live} (h : Lives w (.slice a n c) X) {i : Nat} {x : Live} (hi : X[i]? = some x) :
    ∃ b off, a = some ⟨b, off, none⟩ ∧ n = X.length ∧ rowN w b (off + i * 38) 38 = some (liveCells x).toArray := by
  rcases h with ⟨_, _, e, rfl⟩ | ⟨b, off, cap, e, hh⟩
  · simp at hi
  · cases e
    exact ⟨b, off, rfl, rfl, hh.row hi⟩
section
attribute [local go_sem ↓ high] ld_live_foldR st_live_foldR bs_live_foldR
attribute [local go_sem] ld_liveR st_liveR bs_liveR bs_live0R rowN_drew
theorem Tryz.flatLiveR : flatF Tryz.prog 5 109 = some liveLeaves := by kernel_rfl
theorem Tryz.eqLiveR : eqB Tryz.prog 5 109 = true := by kernel_rfl
theorem Tryz.aggLiveR : aggB Tryz.prog 109 = true := by kernel_rfl
def neLiveR (x y : Value) : Sem Value := binOp .neq 109 x y
theorem ne_live_foldR (x y : Value) : binOp .neq 109 x y = neLiveR x y := rfl
theorem ne_liveR {x y : Live} (hx : LiveOk x) (hy : LiveOk y) (r : Bool) (hr : r = true ↔ liveCells x = liveCells y) (w : World) : (neLiveR (.agg (liveCells x).toArray) (.agg (liveCells y).toArray)).run Tryz.prog w = .ok (.bool (!r)) w :=
  run_neq_flat 5 (by decide) Tryz.eqLiveR Tryz.flatLiveR Tryz.aggLiveR (fits_live hx) (fits_live hy) r hr w
attribute [local go_sem ↓ high] ne_live_foldR

set_option maxRecDepth 100000 in
set_option maxHeartbeats 4000000 in
theorem samelive_true (u1 u2 : Value) (X : List Live) (hl : X.length ≤ 1048576) (hok : ∀ x ∈ X, LiveOk x) (w : World) (h1 : Lives w u1 X) (h2 : Lives w u2 X) :
    Calls Tryz.prog 19 #[u1, u2] w (Makes (.bool true) w) := by
  obtain ⟨a1, c1, rfl⟩ := h1.slice
  obtain ⟨a2, c2, rfl⟩ := h2.slice
  have H1 := hide h1
  have H2 := hide h2
  clear h1 h2
  go_enter Tryz.func19, Tryz.ntmps19
  go_wp2_with fail
  go_loopw [5] (fun iv wr => ∃ (n : Nat), iv = .int .i64 (n : Int) ∧ n ≤ X.length ∧ Q w wr) (fun iv _ => X.length - (intOf iv).toNat)
  case atStart => exact ⟨0, rfl, Nat.zero_le _, Q.refl _⟩
  case round =>
    obtain ⟨n, rfl, hn, qr⟩ := hrel
    by_cases hlt : n < X.length
    · obtain ⟨x, hx⟩ : ∃ x, X[n]? = some x := ⟨_, List.getElem?_eq_getElem hlt⟩
      obtain ⟨g1, f1, rfl, -, r1⟩ := ((unhide H1).new (qr.upd _)).row hx
      obtain ⟨g2, f2, rfl, -, r2⟩ := ((unhide H2).new (qr.upd _)).row hx
      have hnn : (n : Int) < (X.length : Int) := by omega
      have hx2 := hok x (List.mem_of_getElem? hx)
      have hne := ne_liveR hx2 hx2 true (by simp)
      simp only [Bool.not_true] at hne
      clear hx hx2
      generalize liveCells x = C at r1 r2 hne
      go_wp2_with fail
      go_region_held3 (fun w' => rowN w' g1 (f1 + n * 38) 38 = some C.toArray ∧ rowN w' g2 (f2 + n * 38) 38 = some C.toArray)
        (exact ⟨r1, r2⟩) (fail)
      go_wp2
      go_roundw
      case rel => exact ⟨n + 1, by go_num, by omega, by first | exact qr.drewN' 1 | exact qr.trans ⟨1, rfl⟩⟩
      case measure => simp [intOf]; omega
    · obtain rfl : n = X.length := by omega
      go_wp2
      first | go_ret2 | go_ret
      exact ⟨rfl, qr.upd _⟩

end
end Go.Proofs.YtjpmomdechibmaaGreatDoor

/-
  Law 13: the steps of ChannelTurned, each as a contract over the pair.
-/
namespace Go.Proofs.YtjpmomdechibmaaGreatDoor
set_option linter.unusedVariables false
set_option linter.unusedSimpArgs false
open Go.RowKit

section
variable (x y : Int)
theorem tM1_ok (hx : 1 ≤ x ∧ x ≤ 1000) : MsgOk (tM1 x) := msg_ok ⟨by decide, by decide⟩ ⟨by decide, by decide⟩ ⟨by decide, by decide⟩ ⟨by omega, by omega⟩ z32i_len z32i_bytes ⟨by decide, by decide⟩ ⟨by decide, by decide⟩
theorem tM4_ok (hy : 0 ≤ y ∧ y ≤ 1000) : MsgOk (tM4 y) := msg_ok ⟨by decide, by decide⟩ ⟨by decide, by decide⟩ ⟨by decide, by decide⟩ ⟨by omega, by omega⟩ z32i_len z32i_bytes ⟨by decide, by decide⟩ ⟨by decide, by decide⟩
theorem tS1_ok : MsgOk (tS1 x) := msg_ok ⟨by decide, by decide⟩ ⟨by decide, by decide⟩ ⟨by decide, by decide⟩ ⟨by decide, by decide⟩ (tTag1_len x) (tTag1_bytes x) ⟨by decide, by decide⟩ ⟨by decide, by decide⟩
theorem tS4_ok : MsgOk (tS4 x y) := msg_ok ⟨by decide, by decide⟩ ⟨by decide, by decide⟩ ⟨by decide, by decide⟩ ⟨by decide, by decide⟩ (tTag4_len x y) (tTag4_bytes x y) ⟨by decide, by decide⟩ ⟨by decide, by decide⟩
theorem sec0_bytes : Bytes sec0L := by unfold Bytes; decide
theorem sec1_bytes : Bytes sec1L := by unfold Bytes; decide
theorem tR0_ok : MsgOk tR0 := msg_ok ⟨by decide, by decide⟩ ⟨by decide, by decide⟩ ⟨by decide, by decide⟩ ⟨by decide, by decide⟩ rfl sec0_bytes ⟨by decide, by decide⟩ ⟨by decide, by decide⟩
theorem tR1_ok {R : List Int} (hl : R.length = 32) (hb : Bytes R) : MsgOk (tR1 R) := msg_ok ⟨by decide, by decide⟩ ⟨by decide, by decide⟩ ⟨by decide, by decide⟩ ⟨by decide, by decide⟩ hl hb ⟨by decide, by decide⟩ ⟨by decide, by decide⟩
theorem may_add {i a : Int} (ha : 0 ≤ a ∧ a ≤ 1000) : mayMsg ⟨3, 7, i, a, z32i, 5, 0⟩ = true := by
  unfold mayMsg
  show (if (5 : Int) < 0 ∨ 1073741824 < (5 : Int) ∨ (0 : Int) < 0 ∨ 65535 < (0 : Int) ∨ 1125899906842624 < a then false else decide (zeros _ _ = kindMsg 3)) = true
  rw [if_neg (by omega)]
  kernel_rfl
theorem may_sign (T : List Int) (n : Int) (hn : 0 ≤ n ∧ n ≤ 65535) : mayMsg ⟨6, 7, 0, 0, T, 0, n⟩ = true := by
  unfold mayMsg
  show (if (0 : Int) < 0 ∨ 1073741824 < (0 : Int) ∨ n < 0 ∨ 65535 < n ∨ 1125899906842624 < (0 : Int) then false else decide (zeros _ _ = kindMsg 6)) = true
  rw [if_neg (by omega)]
  kernel_rfl
theorem may_rev (T : List Int) (n : Int) (hn : 0 ≤ n ∧ n ≤ 65535) : mayMsg ⟨7, 7, 0, 0, T, 0, n⟩ = true := by
  unfold mayMsg
  show (if (0 : Int) < 0 ∨ 1073741824 < (0 : Int) ∨ n < 0 ∨ 65535 < n ∨ 1125899906842624 < (0 : Int) then false else decide (zeros _ _ = kindMsg 7)) = true
  rw [if_neg (by omega)]
  kernel_rfl
end
section
variable {w0 w : World} {p K : Nat} {mk : MsgV} {x y : Int}
theorem stOffer1 {S : Nat → Prop} (hT : Tb w0) (h : PrS w0 w p S tA0 tB0 [] [] false) (hx : 1 ≤ x ∧ x ≤ 1000) : ∃ g, w.cell? ⟨p, 0, none⟩ = some (.pointer (some ⟨g, 0, none⟩)) ∧
    Calls Tryz.prog 13 #[.pointer (some ⟨g, 0, none⟩), .int .u64 x, .agg (hshV z32i).toArray, .int .i64 5] w fun e w' => e = .returned (.tuple #[.agg (tM1 x).cells.toArray, .int .i64 0]) ∧ ∃ S', PrS w0 w' p S' (tA1 x) tB0 [] [] false := by
  obtain ⟨g, S', hc, hA, hap, hn, hop⟩ := h.endA hT
  have ho := offerH_any g S' tA0 x z32i 5 w hA z32i_len z32i_bytes ⟨by omega, by omega⟩ ⟨by decide, by decide⟩ ⟨by decide, by decide⟩
  rw [show tA0.offer x (hvec z32i) 5 = _ from tOff1 x hx] at ho
  refine ⟨g, hc, ho.mono ?_⟩
  rintro e w' ⟨he, hc', hu⟩
  exact ⟨he, _, (hop _ _ hc' hu).1⟩
theorem stHear1 (hT : Tb w0) (h : PrX w0 w p (tA1 x) tB0 [] [tM1 x] false K mk) (hx : 1 ≤ x ∧ x ≤ 1000) :
    Calls Tryz.prog 15 #[.pointer (some ⟨p, 0, none⟩), .int .i64 1] w fun e w' => e = .returned (.bool true) ∧ PrX w0 w' p (tA1 x) (tB1 x) [] [] false K mk :=
  hears1X w0 hT p _ _ _ _ _ _ K mk w h (tB1 x) [] 0 (fun l hl => by cases hl) ⟨by decide, by decide⟩ fun W g S' hc _ _ => by
    have := hear_add g S' tB0 (tM1 x) (tM1_ok x hx) W hc (may_add ⟨by omega, by omega⟩) rfl rfl (by decide)
    rw [tHear1 x hx] at this
    exact this
theorem stSign1 (hT : Tb w0) (h : PrX w0 w p (tA1 x) (tB1 x) [] [] false K mk) : ∃ g, w.cell? ⟨p, 0, none⟩ = some (.pointer (some ⟨g, 0, none⟩)) ∧
    Calls Tryz.prog 16 #[.pointer (some ⟨g, 0, none⟩)] w fun e w' => e = .returned (.tuple #[.agg (tS1 x).cells.toArray, .int .i64 0]) ∧ PrX w0 w' p (tA2 x) (tB1 x) [] [] false K mk := by
  obtain ⟨g, S', hc, hA, hap, hn, hop⟩ := h.endA hT
  obtain ⟨-, -, -, -, e5, e6⟩ := tSigning1 x
  have e7 : (tA1 x).news.length = 1 := by kernel_rfl
  have ho := sign_any g S' (tA1 x) w hA (hT.new hn) hap (by rw [e5]; decide) (by rw [e6]; exact ⟨by decide, by decide⟩) (by rw [e7]; decide)
  rw [tSign1] at ho
  refine ⟨g, hc, ho.mono ?_⟩
  rintro e w' ⟨he, hc', hu⟩
  exact ⟨he, hop _ _ hc' hu⟩
theorem stHear2 (hT : Tb w0) (h : PrX w0 w p (tA2 x) (tB1 x) [] [tS1 x] false K mk) :
    Calls Tryz.prog 15 #[.pointer (some ⟨p, 0, none⟩), .int .i64 1] w fun e w' => e = .returned (.bool true) ∧ PrX w0 w' p (tA2 x) (tB2 x) [tR0] [] false K mk :=
  hears1X w0 hT p _ _ _ _ _ _ K mk w h (tB2 x) [tR0] 0 (fun l hl => by rw [List.mem_singleton.1 hl]; exact tR0_ok) ⟨by decide, by decide⟩ fun W g S' hc ha ht => by
    obtain ⟨p1, p2, -, -, p5, -⟩ := tB1_at x
    have := hear_sign g S' (tB1 x) (tS1 x) (tS1_ok x) W hc (may_sign _ 1 ⟨by decide, by decide⟩) p2.symm rfl ht ha (by rw [p1]; decide) (by rw [p2]; exact ⟨by decide, by decide⟩) (by rw [p5]; decide)
    rw [tHsign1, tRev1] at this
    exact this
theorem stHear3 (hT : Tb w0) (h : PrX w0 w p (tA2 x) (tB2 x) [tR0] [] false K mk) :
    Calls Tryz.prog 15 #[.pointer (some ⟨p, 0, none⟩), .int .i64 0] w fun e w' => e = .returned (.bool true) ∧ PrX w0 w' p (tA3 x) (tB2 x) [] [] false K mk :=
  hears0X w0 hT p _ _ _ _ _ _ K mk w h (tA3 x) [] 0 (fun l hl => by cases hl) ⟨by decide, by decide⟩ fun W g S' hc ha ht => by
    have := hear_revoke g S' (tA2 x) tR0 tR0_ok W hc (may_rev _ 0 ⟨by decide, by decide⟩) (tA2_at x).2.2.2.symm rfl (tA2_shelf x) ht ha
    rw [tHrev1] at this
    exact this
theorem stOffer4 (hT : Tb w0) (h : PrX w0 w p (tA3 x) (tB2 x) [] [] false K mk) (hx : 1 ≤ x) (hy : 1 ≤ y ∧ y ≤ 1000 - x) : ∃ g, w.cell? ⟨p, 0, none⟩ = some (.pointer (some ⟨g, 0, none⟩)) ∧
    Calls Tryz.prog 13 #[.pointer (some ⟨g, 0, none⟩), .int .u64 y, .agg (hshV z32i).toArray, .int .i64 5] w fun e w' => e = .returned (.tuple #[.agg (tM4 y).cells.toArray, .int .i64 0]) ∧ PrX w0 w' p (tA4 x y) (tB2 x) [] [] false K mk := by
  obtain ⟨g, S', hc, hA, hap, hn, hop⟩ := h.endA hT
  obtain ⟨-, -, -, -, -, -, -, -, e9, e10⟩ := tA3_at x
  have ho := offerH_any g S' (tA3 x) y z32i 5 w hA z32i_len z32i_bytes ⟨by omega, by omega⟩ ⟨by decide, by decide⟩ ⟨by rw [e10]; decide, by rw [e9]; show 1 < 1000000; decide⟩
  rw [show (tA3 x).offer y (hvec z32i) 5 = _ from tOff4 x y hy] at ho
  refine ⟨g, hc, ho.mono ?_⟩
  rintro e w' ⟨he, hc', hu⟩
  exact ⟨he, hop _ _ hc' hu⟩
theorem stOffer4_none (hT : Tb w0) (h : PrX w0 w p (tA3 x) (tB2 x) [] [] false K mk) : ∃ g, w.cell? ⟨p, 0, none⟩ = some (.pointer (some ⟨g, 0, none⟩)) ∧
    Calls Tryz.prog 13 #[.pointer (some ⟨g, 0, none⟩), .int .u64 0, .agg (hshV z32i).toArray, .int .i64 5] w fun e w' => e = .returned (.tuple #[.agg MsgV.zero.cells.toArray, .int .i64 1]) ∧ PrX w0 w' p (tA3 x) (tB2 x) [] [] false K mk := by
  obtain ⟨g, S', hc, hA, hap, hn, hop⟩ := h.endA hT
  obtain ⟨-, -, -, -, -, -, -, -, e9, e10⟩ := tA3_at x
  have ho := offerH_any g S' (tA3 x) 0 z32i 5 w hA z32i_len z32i_bytes ⟨by omega, by omega⟩ ⟨by decide, by decide⟩ ⟨by rw [e10]; decide, by rw [e9]; show 1 < 1000000; decide⟩
  rw [show (tA3 x).offer 0 (hvec z32i) 5 = _ from tOff4_none x] at ho
  refine ⟨g, hc, ho.mono ?_⟩
  rintro e w' ⟨he, hc', hu⟩
  exact ⟨he, hop _ _ hc' hu⟩
theorem stHear4 (hT : Tb w0) (h : PrX w0 w p (tA4 x y) (tB2 x) [] [tM4 y] false K mk) (hx : 1 ≤ x) (hy : 1 ≤ y ∧ y ≤ 1000 - x) :
    Calls Tryz.prog 15 #[.pointer (some ⟨p, 0, none⟩), .int .i64 1] w fun e w' => e = .returned (.bool true) ∧ PrX w0 w' p (tA4 x y) (tB3 x y) [] [] false K mk :=
  hears1X w0 hT p _ _ _ _ _ _ K mk w h (tB3 x y) [] 0 (fun l hl => by cases hl) ⟨by decide, by decide⟩ fun W g S' hc _ _ => by
    have e : (tB2 x).xs.length = 1 := by kernel_rfl
    have := hear_add g S' (tB2 x) (tM4 y) (tM4_ok y ⟨by omega, by omega⟩) W hc (may_add ⟨by omega, by omega⟩) (tB2_at x).2.2.2.2.symm rfl (by rw [e]; decide)
    rw [tHear4 x y hy] at this
    exact this
theorem stSign4 (hT : Tb w0) (h : PrX w0 w p (tA4 x y) (tB3 x y) [] [] false K mk) : ∃ g, w.cell? ⟨p, 0, none⟩ = some (.pointer (some ⟨g, 0, none⟩)) ∧
    Calls Tryz.prog 16 #[.pointer (some ⟨g, 0, none⟩)] w fun e w' => e = .returned (.tuple #[.agg (tS4 x y).cells.toArray, .int .i64 0]) ∧ PrX w0 w' p (tA5 x y) (tB3 x y) [] [] false K mk := by
  obtain ⟨g, S', hc, hA, hap, hn, hop⟩ := h.endA hT
  obtain ⟨-, -, -, -, e5, e6⟩ := tSigning4 x y
  have e7 : (tA4 x y).news.length = 1 := by kernel_rfl
  have ho := sign_any g S' (tA4 x y) w hA (hT.new hn) hap (by rw [e5]; decide) (by rw [e6]; exact ⟨by decide, by decide⟩) (by rw [e7]; decide)
  rw [tSign4] at ho
  refine ⟨g, hc, ho.mono ?_⟩
  rintro e w' ⟨he, hc', hu⟩
  exact ⟨he, hop _ _ hc' hu⟩
theorem stHear5 (hT : Tb w0) (h : PrX w0 w p (tA5 x y) (tB3 x y) [] [tS4 x y] false K mk) :
    Calls Tryz.prog 15 #[.pointer (some ⟨p, 0, none⟩), .int .i64 1] w fun e w' => e = .returned (.bool true) ∧ PrX w0 w' p (tA5 x y) (tB4 x y) [tR1 sec1L] [] false K mk :=
  hears1X w0 hT p _ _ _ _ _ _ K mk w h (tB4 x y) [tR1 sec1L] 0 (fun l hl => by rw [List.mem_singleton.1 hl]; exact tR1_ok rfl sec1_bytes) ⟨by decide, by decide⟩ fun W g S' hc ha ht => by
    obtain ⟨p1, p2, -, -, p5, -⟩ := tB3_at x y
    have := hear_sign g S' (tB3 x y) (tS4 x y) (tS4_ok x y) W hc (may_sign _ 2 ⟨by decide, by decide⟩) p2.symm rfl ht ha (by rw [p1]; decide) (by rw [p2]; exact ⟨by decide, by decide⟩) (by rw [p5]; decide)
    rw [tHsign4, tRev4] at this
    exact this
/-- The ends at the law's tail. -/
theorem tailA {a b : Ch} {wa wb : List MsgV} {bad : Bool} (hT : Tb w0) (h : PrX w0 w p a b wa wb bad K mk) : ∃ g S', w.cell? ⟨p, 0, none⟩ = some (.pointer (some ⟨g, 0, none⟩)) ∧ ChS w g S' a ∧ Apart S' ∧ New w0 w ∧ ¬ S' p ∧ ¬ S' K ∧ (∀ k, S' k → w0.heap.size ≤ k) := by
  obtain ⟨S, ⟨gA, gB, SA, SB, ua, ub, hP, h1, h2⟩, hK, hM, hge⟩ := h
  exact ⟨gA, SA, hP.cell.1, hP.two.A, hP.two.apA hT, hP.two.n, hP.off.a, fun k => hK (h1 K (.inl k)), hP.two.geA⟩
theorem tailB {a b : Ch} {wa wb : List MsgV} {bad : Bool} (hT : Tb w0) (h : PrX w0 w p a b wa wb bad K mk) : ∃ g S', w.cell? ⟨p, 1, none⟩ = some (.pointer (some ⟨g, 0, none⟩)) ∧ ChS w g S' b ∧ Apart S' ∧ New w0 w ∧ ¬ S' p ∧ ¬ S' K ∧ (∀ k, S' k → w0.heap.size ≤ k) := by
  obtain ⟨S, ⟨gA, gB, SA, SB, ua, ub, hP, h1, h2⟩, hK, hM, hge⟩ := h
  exact ⟨gB, SB, hP.cell.2.1, hP.two.B, hP.two.apB hT, hP.two.n, hP.off.b, fun k => hK (h1 K (.inr (.inl k))), hP.two.geB⟩
end
theorem wrap_u8 (x : Int) : IntKind.u8.wrap x = x % 256 := rfl
theorem msb_at {w : World} {K : Nat} {m : MsgV} (h : MsB w K m) {j : Nat} (hj : j < 32) : ∃ v, v = m.hash.getD j 0 ∧ w.cell? ⟨K, 4 + j, none⟩ = some (.int .u8 v) ∧ w.frozen? ⟨K, 4 + j, none⟩ = false := by
  refine ⟨_, rfl, ?_, blk_free h.at_ _⟩
  rw [blk_cell h.at_, List.getElem?_toArray]
  have hl := h.len
  obtain ⟨k, ch, i, a, hs, e, n⟩ := m
  show (.int .i64 k :: .int .u32 ch :: .int .u64 i :: .int .u64 a :: (hs.map (Value.int .u8) ++ [.int .i64 e, .int .i64 n]) : List Value)[4 + j]? = _
  change hs.length = 32 at hl
  rw [show 4 + j = j + 1 + 1 + 1 + 1 by omega, List.getElem?_cons_succ, List.getElem?_cons_succ, List.getElem?_cons_succ, List.getElem?_cons_succ, List.getElem?_append_left (by simp; omega), List.getElem?_map, List.getElem?_eq_getElem (by omega)]
  show _ = some (Value.int .u8 (hs.getD j 0))
  rw [List.getD_eq_getElem?_getD, List.getElem?_eq_getElem (by omega)]
  rfl
def MsgV.withHash (m : MsgV) (h : List Int) : MsgV := { m with hash := h }
theorem MsB.flip {w : World} {K : Nat} {m : MsgV} (h : MsB w K m) {j : Nat} (hj : j < 32) (v : Int) : MsB (w.setCell ⟨K, 4 + j, none⟩ (.int .u8 v)) K (m.withHash (m.hash.set j v)) := by
  have hl := h.len
  refine ⟨?_, by show (m.hash.set j v).length = 32; rw [List.length_set]; exact hl⟩
  rw [blk_set h.at_]
  obtain ⟨k, ch, i, a, hs, e, n⟩ := m
  change hs.length = 32 at hl
  have e1 : (.int .i64 k :: .int .u32 ch :: .int .u64 i :: .int .u64 a :: (hs.map (Value.int .u8) ++ [.int .i64 e, .int .i64 n]) : List Value).set (4 + j) (.int .u8 v) = (.int .i64 k :: .int .u32 ch :: .int .u64 i :: .int .u64 a :: ((hs.set j v).map (Value.int .u8) ++ [.int .i64 e, .int .i64 n])) := by
    rw [show 4 + j = j + 1 + 1 + 1 + 1 by omega, List.set_cons_succ, List.set_cons_succ, List.set_cons_succ, List.set_cons_succ, List.set_append_left _ _ (by simp; omega), List.map_set]
  show some (Obj.cells (Array.setIfInBounds (.int .i64 k :: .int .u32 ch :: .int .u64 i :: .int .u64 a :: (hs.map (Value.int .u8) ++ [.int .i64 e, .int .i64 n]) : List Value).toArray (4 + j) (.int .u8 v)) _ _) = some (Obj.cells ((.int .i64 k :: .int .u32 ch :: .int .u64 i :: .int .u64 a :: ((hs.set j v).map (Value.int .u8) ++ [.int .i64 e, .int .i64 n])) : List Value).toArray _ _)
  rw [List.setIfInBounds_toArray, e1]
theorem PrX.flip {w0 w : World} {p K : Nat} {a b : Ch} {wa wb : List MsgV} {bad : Bool} {m : MsgV} (h : PrX w0 w p a b wa wb bad K m) {j : Nat} (hj : j < 32) (v : Int) : PrX w0 (w.setCell ⟨K, 4 + j, none⟩ (.int .u8 v)) p a b wa wb bad K (m.withHash (m.hash.set j v)) := by
  obtain ⟨S, hP, hK, hM, hge⟩ := h
  exact ⟨S, hP.put hK hM.lt hge ((Upd.refl _ _).set1 (4 + j) _), hK, hM.flip hj v, hge⟩
theorem xor_all : ∀ v : Fin 256, ∀ r : Fin 8, bits .xor .u8 (v.val : Int) (2 ^ r.val) ≠ (v.val : Int) ∧ 0 ≤ bits .xor .u8 (v.val : Int) (2 ^ r.val) ∧ bits .xor .u8 (v.val : Int) (2 ^ r.val) ≤ 255 ∧ (2 : Int) ^ r.val % 256 = 2 ^ r.val := by decide +kernel
theorem flip_facts {h : List Int} (hl : h.length = 32) (hb : Bytes h) {k : Nat} (hk : k < 256) : flipB h k ≠ h ∧ (flipB h k).length = 32 ∧ Bytes (flipB h k) ∧ flipB h k = h.set (k / 8) (bits .xor .u8 (h.getD (k / 8) 0) (2 ^ (k % 8) % 256)) := by
  have hj : k / 8 < h.length := by omega
  have hg : h.getD (k / 8) 0 = h[k / 8] := by rw [List.getD_eq_getElem?_getD, List.getElem?_eq_getElem hj]; rfl
  obtain ⟨b1, b2⟩ := hb h[k / 8] (List.getElem_mem hj)
  obtain ⟨x1, x2, x3, x4⟩ := xor_all ⟨(h[k / 8]).toNat, by omega⟩ ⟨k % 8, by omega⟩
  have hv : (((h[k / 8]).toNat : Nat) : Int) = h[k / 8] := by omega
  simp only [hv] at x1 x2 x3
  refine ⟨?_, by rw [flipB_len]; exact hl, ?_, ?_⟩
  · intro e
    have : (flipB h k)[k / 8]? = h[k / 8]? := by rw [e]
    unfold flipB at this
    rw [List.getElem?_set_self hj, List.getElem?_eq_getElem hj, hg] at this
    injection this with this
    exact x1 this
  · intro b hbm
    unfold flipB at hbm
    rcases List.mem_or_eq_of_mem_set hbm with e | e
    · exact hb b e
    · rw [e, hg]; exact ⟨x2, x3⟩
  · unfold flipB
    rw [x4]
theorem hz_ok : ∀ n ∈ hz.toList, 0 ≤ n ∧ n ≤ 255 := by
  have e : hz.toList = z32i := hvec_list z32i_len
  rw [e]
  exact z32i_bytes
theorem live_ok {i a s : Int} {o d : Bool} (hi : 0 ≤ i ∧ i ≤ 1) (ha : 0 ≤ a ∧ a ≤ 1000) (hs : 0 ≤ s ∧ s ≤ 9) : LiveOk ⟨⟨i, a, hz, 5⟩, o, s, d⟩ :=
  ⟨⟨⟨hi.1, by show i ≤ _; omega⟩, ⟨ha.1, by show a ≤ _; omega⟩, hz_ok, ⟨by show (-9223372036854775808 : Int) ≤ 5; decide, by show (5 : Int) ≤ 9223372036854775807; decide⟩⟩, by show _ ≤ s ∧ s ≤ _; omega⟩
theorem tB1_xs (x : Int) : (tB1 x).xs = [⟨⟨0, x, hz, 5⟩, false, 0, false⟩] := by kernel_rfl
theorem tL1_ok {x : Int} (hx : 1 ≤ x ∧ x ≤ 1000) : ∀ l ∈ ([⟨⟨0, x, hz, 5⟩, false, 0, false⟩] : List Live), LiveOk l := by
  intro l hl
  rw [List.mem_singleton.1 hl]
  exact live_ok ⟨by omega, by omega⟩ ⟨by omega, by omega⟩ ⟨by omega, by omega⟩
theorem tL4_ok {x y : Int} (hx : 1 ≤ x ∧ x ≤ 1000) (hy : 1 ≤ y ∧ y ≤ 1000) : ∀ l ∈ tL4 x y, LiveOk l := by
  intro l hl
  unfold tL4 at hl
  rcases List.mem_cons.1 hl with rfl | hl
  · exact live_ok ⟨by omega, by omega⟩ ⟨by omega, by omega⟩ ⟨by omega, by omega⟩
  · rw [List.mem_singleton.1 hl]
    exact live_ok ⟨by omega, by omega⟩ ⟨by omega, by omega⟩ ⟨by omega, by omega⟩
theorem tS1_flip (x : Int) (k : Nat) : (tS1 x).withHash (flipB (tS1 x).hash k) = ⟨6, 7, 0, 0, flipB (tTag1 x) k, 0, 1⟩ := by
  have h : ∀ T : List Int, (⟨6, 7, 0, 0, T, 0, 1⟩ : MsgV).withHash (flipB (⟨6, 7, 0, 0, T, 0, 1⟩ : MsgV).hash k) = ⟨6, 7, 0, 0, flipB T k, 0, 1⟩ := fun T => rfl
  exact h (tTag1 x)
theorem tR1_flip (R : List Int) (k : Nat) : (tR1 R).withHash (flipB (tR1 R).hash k) = tR1 (flipB R k) := rfl
theorem tHearB {w : World} {g k : Nat} {S' : Nat → Prop} (x : Int) (hk : k < 256) (hD : ChS w g S' (tB1 x)) (hT : Tb w) (hap : Apart S') :
    Calls Tryz.prog 18 #[.pointer (some ⟨g, 0, none⟩), .agg ((tS1 x).withHash (flipB (tS1 x).hash k)).cells.toArray] w (Heard g S' w (tB1 x) [] 133) := by
  rw [tS1_flip]
  obtain ⟨p1, p2, -, -, p5, -⟩ := tB1_at x
  obtain ⟨f1, f2, f3, -⟩ := flip_facts (tTag1_len x) (tTag1_bytes x) hk
  have hbad := tBad1 x _ f1
  generalize flipB (tTag1 x) k = R at *
  have := hear_sign g S' (tB1 x) ⟨6, 7, 0, 0, R, 0, 1⟩ (msg_ok ⟨by decide, by decide⟩ ⟨by decide, by decide⟩ ⟨by decide, by decide⟩ ⟨by decide, by decide⟩ f2 f3 ⟨by decide, by decide⟩ ⟨by decide, by decide⟩) w hD (may_sign _ 1 ⟨by decide, by decide⟩) p2.symm rfl hT hap (by rw [p1]; decide) (by rw [p2]; exact ⟨by decide, by decide⟩) (by rw [p5]; decide)
  rw [hbad] at this
  exact this
theorem tHearA {w : World} {g k : Nat} {S' : Nat → Prop} (x y : Int) (hk : k < 256) (hb : turnedB k = true) (hD : ChS w g S' (tA5 x y)) (hT : Tb w) (hap : Apart S') :
    Calls Tryz.prog 18 #[.pointer (some ⟨g, 0, none⟩), .agg ((tR1 sec1L).withHash (flipB (tR1 sec1L).hash k)).cells.toArray] w (Heard g S' w (tA5 x y) [] 134) := by
  rw [tR1_flip]
  obtain ⟨f1, f2, f3, -⟩ := flip_facts (h := sec1L) rfl sec1_bytes hk
  have hbad := tBad4 x y _ hb
  generalize flipB sec1L k = R at *
  have := hear_revoke g S' (tA5 x y) (tR1 R) (tR1_ok f2 f3) w hD (may_rev _ 1 ⟨by decide, by decide⟩) (tA5_at x y).2.2.2.1.symm rfl (tA5_shelf _ _ sec0_bytes) hT hap
  rw [hbad] at this
  exact this
theorem PrX.n {w0 w : World} {p K : Nat} {a b : Ch} {wa wb : List MsgV} {bad : Bool} {m : MsgV} (h : PrX w0 w p a b wa wb bad K m) : New w0 w := by
  obtain ⟨S, ⟨gA, gB, SA, SB, ua, ub, hP, h1, h2⟩, -⟩ := h
  exact hP.two.n
end Go.Proofs.YtjpmomdechibmaaGreatDoor

/-
  What a listed variable of a type without pointers holds, cell for cell.
-/
namespace Go.Proofs.YtjpmomdechibmaaGreatDoor
set_option linter.unusedVariables false
set_option linter.unusedSimpArgs false
open Go.RowKit Go.ChangeShapes Go.WideShapes Go.ChangeAt Go.Deep

mutual
/-- The cells that a datum without pointers is read from. -/
def vals {H : Type} : DataW H → List Value
  | .lit (.bool b) => [.bool b]
  | .lit (.int k n) => [.int k n]
  | .lit (.string b) => [.string ⟨b.toArray⟩]
  | .agg ps => valsAll ps
  | _ => []
def valsAll {H : Type} : List (DataW H) → List Value
  | [] => []
  | d :: r => vals d ++ valsAll r
end
theorem valsAll_map {H α : Type} (f : α → DataW H) : ∀ l : List α, valsAll (l.map f) = (l.map fun x => vals (f x)).flatten
  | [] => rfl
  | x :: l => by rw [List.map_cons, List.map_cons, List.flatten_cons, ← valsAll_map f l]; rfl

section
variable {H : Type} {enc : TypeId × Value → H} {P : Program} {w : World} {base : Nat} {spare : Nat → Bool} {held : Bool}

theorem fields_vals {rec : TypeId → Option (List Leaf)} {cs : List Value} (hrec : ∀ t l c x fuel, rec t = some l → DataW.trod enc P w base spare held fuel t c = some x → c = vals x.1) :
    ∀ (fs : List Field) (o : Nat) (L : List Leaf) (xs : List (DataW H × List MemPlace)), flatFields P rec o fs = some L → cs.length = o + L.length → xs.length = fs.length →
      (∀ (i : Nat) f, fs[i]? = some f → ∃ fuel, DataW.trod enc P w base spare held fuel f.type ((cs.drop f.offset).take (P.cellsOf f.type)) = xs[i]?) → cs.drop o = valsAll (xs.map (·.1))
  | [], o, L, xs, h, hl, hx, _ => by
    simp only [flatFields, Option.some.injEq] at h
    subst h
    rw [List.length_eq_zero_iff.1 hx]
    exact List.drop_eq_nil_of_le (by simp at hl; omega)
  | f :: r, o, L, [], h, hl, hx, _ => by simp at hx
  | f :: r, o, L, x :: xs, h, hl, hx, hf => by
    unfold flatFields at h
    cases hr : rec f.type with
    | none => rw [hr] at h; cases h
    | some l =>
      rw [hr] at h
      simp only at h
      split at h
      · rename_i hc
        obtain ⟨ho, hk⟩ := hc
        rw [Option.map_eq_some_iff] at h
        obtain ⟨M, hM, rfl⟩ := h
        obtain ⟨fuel, hx0⟩ := hf 0 f rfl
        have h1 := hrec _ _ _ _ _ hr (hx0.trans rfl)
        rw [ho, hk] at h1
        rw [List.length_append] at hl
        have h2 := fields_vals hrec r (o + l.length) M xs hM (by omega) (by simpa using hx) (fun i g hg => hf (i + 1) g hg)
        have e : cs.drop o = (cs.drop o).take l.length ++ cs.drop (o + l.length) := by
          rw [← List.drop_drop, List.take_append_drop]
        rw [e, h1, h2]
        rfl
      · cases h

theorem flat_vals : ∀ (n : Nat) (t : TypeId) (l : List Leaf) (cs : List Value) (x : DataW H × List MemPlace) (fuel : Nat), flatF P n t = some l → DataW.trod enc P w base spare held fuel t cs = some x → cs = vals x.1
  | 0, _, _, _, _, _, h, _ => by simp [flatF] at h
  | n + 1, t, l, cs, x, fuel, h, hx => by
    unfold flatF at h
    split at h
    · rename_i hu
      obtain ⟨b, rfl, rfl⟩ := DataW.trod_bool hu hx
      rfl
    · rename_i k hu
      obtain ⟨z, rfl, rfl, hz⟩ := DataW.trod_int hu hx
      rfl
    · rename_i hu
      obtain ⟨s, rfl, rfl, hz⟩ := DataW.trod_string hu hx
      rfl
    · rename_i fs hu
      split at h
      · rename_i L hL
        split at h
        · rename_i hc
          simp only [Option.some.injEq] at h
          subst h
          obtain ⟨xs, m, _, rfl, hlen, hxl, hf⟩ := DataW.trod_struct hu hx
          have := fields_vals (rec := flatF P n) (cs := cs) (fun t l c x fuel h1 h2 => flat_vals n t l c x fuel h1 h2) fs.toList 0 L xs hL (by omega) (by simpa using hxl) fun i f hf' => ⟨m, hf i f (by simpa using hf')⟩
          exact this
        · cases h
      · cases h
    · rename_i m e hu
      split at h
      · rename_i L hL
        split at h
        · rename_i hc
          simp only [Option.some.injEq] at h
          subst h
          obtain ⟨xs, k, _, rfl, hlen, hxl, hf⟩ := DataW.trod_array hu hx
          show cs = valsAll (xs.map (·.1))
          rw [valsAll_map]
          refine (chunks L.length m cs (by omega)).trans ?_
          congr 1
          apply List.ext_getElem?
          intro i
          by_cases hi : i < m
          · have h1 := hf i hi
            rw [hc.1] at h1
            have hxi : xs[i]? = some (xs[i]'(by omega)) := List.getElem?_eq_getElem (by omega)
            rw [List.getElem?_map, List.getElem?_map, List.getElem?_range hi, hxi]
            exact congrArg some (flat_vals n e _ _ _ k hL (h1.trans hxi))
          · rw [List.getElem?_eq_none (by simp; omega), List.getElem?_eq_none (by simp; omega)]
        · cases h
      · cases h
    · cases h
end

theorem laid_vals {P : Program} {w : World} : ∀ {laid : List (String × DataW Unit)} {ps : List MemPlace}, DataW.LaidVars P w laid ps → ∀ {n : String} {d : DataW Unit} {g : Nat} {t : TypeId} (k : Nat) {l : List Leaf}, (n, d) ∈ laid →
    P.globalNamed n = some g → (P.globals[g]?).map (·.type) = some t → flatF P k t = some l → w.var? P n = some (vals d).toArray
  | [], _, _, _, _, _, _, _, _, hm, _, _, _ => by simp at hm
  | (n', d') :: rest, _, h, n, d, g, t, k, l, hm, hg, ht, hf => by
    obtain ⟨g', t', cs, fuel, p, q, hg', ht', hvar, hd, hrest, _⟩ := h
    rcases List.mem_cons.1 hm with e | hm
    · cases e
      obtain rfl := Option.some.inj (hg.symm.trans hg')
      obtain rfl := Option.some.inj (ht.symm.trans ht')
      rw [hvar, ← flat_vals k t l _ _ _ hf hd]
    · exact laid_vals hrest k hm hg ht hf
theorem laid_cell {P : Program} {w : World} {laid : List (String × DataW Unit)} (h : laidMet P laid w) {n : String} {d : DataW Unit} {g : Nat} {t : TypeId} (k : Nat) {l : List Leaf} (hm : (n, d) ∈ laid)
    (hg : P.globalNamed n = some g) (ht : (P.globals[g]?).map (·.type) = some t) (hf : flatF P k t = some l) (i : Nat) : w.cell? ⟨g, i, none⟩ = (vals d)[i]? := by
  obtain ⟨ps, hl, _⟩ := h
  have := World.var?_cell hg (laid_vals hl k hm hg ht hf) i
  simpa using this

end Go.Proofs.YtjpmomdechibmaaGreatDoor

/-
  What a walk is told of arguments that came in: slices of strings, slices of integers.
-/
namespace Go.Proofs.YtjpmomdechibmaaGreatDoor
set_option linter.unusedVariables false
set_option linter.unusedSimpArgs false
open Go.ChangeShapes Go.WideShapes Go.ChangeAt Go.RowKit

/-- A slice of strings that came in: empty, or a row of cells. -/
def StrRow (w : World) (v : Value) (ss : List ByteArray) : Prop :=
  (∃ a cap, v = .slice a 0 cap ∧ ss = []) ∨
  ∃ b off cap, v = .slice (some ⟨b, off, none⟩) ss.length cap ∧ 0 < ss.length ∧ ss.length ≤ cap ∧ cap ≤ maxLen ∧
    (∀ i, i < ss.length → w.cell? ⟨b, off + i, none⟩ = some (.string (ss.getD i ByteArray.empty))) ∧ ∀ s ∈ ss, s.size ≤ maxLen
/-- A slice of integers that came in: empty, or a row of cells. -/
def IntRow (k : IntKind) (w : World) (v : Value) (zs : List Int) : Prop :=
  (∃ a cap, v = .slice a 0 cap ∧ zs = []) ∨
  ∃ b off cap, v = .slice (some ⟨b, off, none⟩) zs.length cap ∧ 0 < zs.length ∧ zs.length ≤ cap ∧ cap ≤ maxLen ∧
    (∀ i, i < zs.length → w.cell? ⟨b, off + i, none⟩ = some (.int k (zs.getD i 0))) ∧ ∀ n ∈ zs, (Lit.int k n).wf = true

theorem getD_mem {ss : List ByteArray} {k : Nat} (h : k < ss.length) : ss.getD k ByteArray.empty ∈ ss := by
  rw [List.getD_eq_getElem?_getD, List.getElem?_eq_getElem h]
  exact List.getElem_mem h
theorem getD_mem_int {zs : List Int} {k : Nat} (h : k < zs.length) : zs.getD k 0 ∈ zs := by
  rw [List.getD_eq_getElem?_getD, List.getElem?_eq_getElem h]
  exact List.getElem_mem h
theorem getD_take {α : Type} (l : List α) (n i : Nat) (d : α) (h : i < n) : (l.take n).getD i d = l.getD i d := by
  rw [List.getD_eq_getElem?_getD, List.getD_eq_getElem?_getD, List.getElem?_take, if_pos h]

section
variable {H : Type} {enc : TypeId × Value → H} {P : Program} {W : World} {base : Nat} {t e : TypeId} {v : Value} {d : DataW H} {p : List MemPlace}

theorem open_strrow (ht : P.underlying t = some (.slice e)) (he : P.underlying e = some .string) (hc : P.cellsOf e = 1)
    (hv : Value.okWide P W .any base t v) (h : DataW.Trod enc P W 0 (fun _ => true) true t v d p) : ∃ ss, StrRow W v ss := by
  obtain ⟨a0, len, cap, rfl⟩ := okWide_slice ht hv
  obtain ⟨fuel, hf⟩ := h
  rcases open_strings ht he hc hf with ⟨hcs, _⟩ | ⟨x, l, c, ss, hcs, _, hl, hm, hz, _, hcell, hwz⟩
  · simp [Value.cells] at hcs
    obtain ⟨rfl, rfl, rfl⟩ := hcs
    exact ⟨[], .inl ⟨_, _, rfl, rfl⟩⟩
  · simp [Value.cells] at hcs
    obtain ⟨rfl, rfl, rfl⟩ := hcs
    replace hz : ss.length = cap := by simpa using hz
    by_cases h0 : len = 0
    · subst h0
      exact ⟨[], .inl ⟨_, _, rfl, rfl⟩⟩
    · obtain ⟨b, off, spot⟩ := x
      have hspot : spot = none := by simpa [Addr.add] using World.cell?_spot (hcell 0 (by omega))
      subst hspot
      have hlt : (ss.take len).length = len := by rw [List.length_take]; omega
      refine ⟨ss.take len, .inr ⟨b, off, cap, by rw [hlt], by omega, by omega, hm, fun i hi => ?_, fun s hs => hwz s (List.mem_of_mem_take hs)⟩⟩
      have := hcell i (by omega)
      rw [getD_take _ _ _ _ (by omega)]
      have e1 : (⟨b, off, none⟩ : Addr).add i = ⟨b, off + i, none⟩ := by unfold Addr.add; split <;> simp_all
      rwa [e1] at this

theorem open_introw {k : IntKind} (ht : P.underlying t = some (.slice e)) (he : P.underlying e = some (.int k)) (hc : P.cellsOf e = 1)
    (hv : Value.okWide P W .any base t v) (h : DataW.Trod enc P W 0 (fun _ => true) true t v d p) : ∃ zs, IntRow k W v zs := by
  obtain ⟨a0, len, cap, rfl⟩ := okWide_slice ht hv
  obtain ⟨fuel, hf⟩ := h
  rcases open_ints ht he hc hf with ⟨hcs, _⟩ | ⟨x, l, c, ss, hcs, _, hl, hm, hz, _, hcell, hwz⟩
  · simp [Value.cells] at hcs
    obtain ⟨rfl, rfl, rfl⟩ := hcs
    exact ⟨[], .inl ⟨_, _, rfl, rfl⟩⟩
  · simp [Value.cells] at hcs
    obtain ⟨rfl, rfl, rfl⟩ := hcs
    replace hz : ss.length = cap := by simpa using hz
    by_cases h0 : len = 0
    · subst h0
      exact ⟨[], .inl ⟨_, _, rfl, rfl⟩⟩
    · obtain ⟨b, off, spot⟩ := x
      have hspot : spot = none := by simpa [Addr.add] using World.cell?_spot (hcell 0 (by omega))
      subst hspot
      have hlt : (ss.take len).length = len := by rw [List.length_take]; omega
      refine ⟨ss.take len, .inr ⟨b, off, cap, by rw [hlt], by omega, by omega, hm, fun i hi => ?_, fun s hs => hwz s (List.mem_of_mem_take hs)⟩⟩
      have := hcell i (by omega)
      rw [getD_take _ _ _ _ (by omega)]
      have e1 : (⟨b, off, none⟩ : Addr).add i = ⟨b, off + i, none⟩ := by unfold Addr.add; split <;> simp_all
      rwa [e1] at this

end
end Go.Proofs.YtjpmomdechibmaaGreatDoor

/-
  The listed tables, together; an argument that is a setup.
-/
namespace Go.Proofs.YtjpmomdechibmaaGreatDoor
set_option linter.unusedVariables false
set_option linter.unusedSimpArgs false
open Go.RowKit Go.Sort Go.ChangeShapes Go.WideShapes Go.ChangeAt

section
variable {W : World}
set_option maxRecDepth 100000 in
theorem tb_of {laid : List (String × DataW Unit)} (h : laidMet Tryz.prog laid W) (m1 : ("remitter/htlc.events", Rows.laid_remitter_htlc_events) ∈ laid) (m2 : ("remitter/htlc.spans", Rows.laid_remitter_htlc_spans) ∈ laid) (m3 : ("remitter/digest.table", Rows.laid_remitter_digest_table) ∈ laid) (m4 : ("remitter/digest.begin", Rows.laid_remitter_digest_begin) ∈ laid) (m5 : ("math/bits.deBruijn64tab", Rows.laid_math_bits_deBruijn64tab) ∈ laid) : Tb W := by
  refine ⟨⟨fun i hi => ?_⟩, ⟨fun i hi => ?_⟩, ⟨fun i hi => ?_, fun i hi => ?_⟩, ⟨fun i hi => ?_⟩⟩
  · rw [laid_cell h 5 m1 (g := 0) (by kernel_rfl) (t := 150) (by kernel_rfl) (l := List.replicate 20 (.int .i64)) (by kernel_rfl)]
    have hv : vals (H := Unit) Rows.laid_remitter_htlc_events = eventsL.map (Value.int .i64) := by rfl
    rw [hv, List.getElem?_map, List.getD_eq_getElem?_getD, List.getElem?_eq_getElem (show i < eventsL.length from hi)]
    rfl
  · rw [laid_cell h 5 m2 (g := 2) (by kernel_rfl) (t := 183) (by kernel_rfl) (l := List.replicate 4 (.int .i64)) (by kernel_rfl)]
    have hv : vals (H := Unit) Rows.laid_remitter_htlc_spans = spansL.map (Value.int .i64) := by rfl
    rw [hv, List.getElem?_map, List.getD_eq_getElem?_getD, List.getElem?_eq_getElem (show i < spansL.length from hi)]
    rfl
  · rw [laid_cell h 5 m3 (g := 3) (by kernel_rfl) (t := 215) (by kernel_rfl) (l := List.replicate 64 (.int .u32)) (by kernel_rfl)]
    have hv : vals (H := Unit) Rows.laid_remitter_digest_table = kTab.map (Value.int .u32) := by rfl
    rw [hv, List.getElem?_map, List.getD_eq_getElem?_getD, List.getElem?_eq_getElem (show i < kTab.length from hi)]
    rfl
  · rw [laid_cell h 5 m4 (g := 1) (by kernel_rfl) (t := 180) (by kernel_rfl) (l := List.replicate 8 (.int .u32)) (by kernel_rfl)]
    have hv : vals (H := Unit) Rows.laid_remitter_digest_begin = hBeg.map (Value.int .u32) := by rfl
    rw [hv, List.getElem?_map, List.getD_eq_getElem?_getD, List.getElem?_eq_getElem (show i < hBeg.length from hi)]
    rfl
  · rw [laid_cell h 5 m5 (g := 5) (by kernel_rfl) (t := 151) (by kernel_rfl) (l := List.replicate 64 (.int .u8)) (by kernel_rfl)]
    have hv : vals (H := Unit) Rows.laid_math_bits_deBruijn64tab = Lib.deBruijn64tab.map (fun n : Nat => Value.int .u8 n) := by rfl
    rw [hv, List.getElem?_map, List.getD_eq_getElem?_getD, List.getElem?_eq_getElem (show i < Lib.deBruijn64tab.length from hi)]
    rfl
end
section
variable {H : Type} {enc : TypeId × Value → H} {W : World} {base : Nat} {v : Value} {d : DataW H} {p : List MemPlace}
theorem b_u64 {n : Int} (h : (Lit.int .u64 n).wf = true) : 0 ≤ n ∧ n < 18446744073709551616 := by
  simp [Lit.wf, IntKind.min, IntKind.max, IntKind.signed, IntKind.bits] at h
  omega
theorem b_u32 {n : Int} (h : (Lit.int .u32 n).wf = true) : 0 ≤ n ∧ n < 4294967296 := by
  simp [Lit.wf, IntKind.min, IntKind.max, IntKind.signed, IntKind.bits] at h
  omega
theorem fits_ints : ∀ (n : Nat) (cs : List Value) (r : List Leaf), Fits (List.replicate n (.int .u8) ++ r) cs → ∃ l : List Int, l.length = n ∧ ∃ ds, cs = l.map (Value.int .u8) ++ ds ∧ Fits r ds
  | 0, cs, r, h => ⟨[], rfl, cs, rfl, h⟩
  | n + 1, cs, r, h => by
    rw [List.replicate_succ, List.cons_append] at h
    obtain ⟨v, t, rfl, ⟨x, rfl, _⟩, h2⟩ := h
    obtain ⟨l, hl, ds, rfl, hd⟩ := fits_ints n t r h2
    exact ⟨x :: l, by simp [hl], ds, rfl, hd⟩
set_option maxRecDepth 100000 in
theorem open_setup (hv : Value.okWide Tryz.prog W .any base 57 v) (h : DataW.Trod enc Tryz.prog W 0 (fun _ => true) true 57 v d p) :
    ∃ s : SetupV, v = .agg s.cells.toArray ∧ s.Ok := by
  obtain ⟨cs, rfl, _⟩ := okWide_struct Tryz.underlying57 hv
  obtain ⟨fuel, hf⟩ := h
  have := flat_fits 5 57 (.int .u32 :: .int .u64 :: .int .u64 :: (List.replicate 32 (.int .u8) ++ [.str, .str])) _ _ _ (by kernel_rfl) hf
  obtain ⟨_, _, e, ⟨i, rfl, hi⟩, _, _, rfl, ⟨a, rfl, ha⟩, _, _, rfl, ⟨b, rfl, hb⟩, hr⟩ := this
  obtain ⟨l, hl, ds, rfl, hd⟩ := fits_ints 32 _ _ hr
  obtain ⟨_, _, rfl, ⟨k, rfl, _⟩, _, _, rfl, ⟨q, rfl, _⟩, rfl⟩ := hd
  refine ⟨⟨i, a, b, l, k, q⟩, ?_, ⟨b_u32 hi, b_u64 ha, b_u64 hb, hl⟩⟩
  congr 1
  apply Array.ext'
  simpa [Value.cells, SetupV.cells] using e
end

end Go.Proofs.YtjpmomdechibmaaGreatDoor

/-
  The law ChannelTurned.
-/
namespace Go.Proofs.YtjpmomdechibmaaGreatDoor
set_option linter.unusedVariables false
set_option linter.unusedSimpArgs false
open Go.RowKit

attribute [local go_sem ↓ high] ld_hsh_fold st_hsh_fold al_hsh_fold bd_hsh_fold ld_msg_fold st_msg_fold al_msg_fold bd_msg_fold
attribute [local go_sem] ld_hsh st_hsh al_hsh bd_hsh rowN_drew ld_msg st_msg al_msg bd_msg_zero

set_option maxRecDepth 100000 in
set_option maxHeartbeats 2000000 in
theorem turned_law (n at8 : Int) (rv : Bool) (w : World) (hn : 0 ≤ n ∧ n < 18446744073709551616) (ha : 0 ≤ at8 ∧ at8 < 256) (hT : Tb w) : Calls Tryz.prog 3 #[.int .u64 n, .int .u8 at8, .bool rv] w (Makes (.bool true) w) := by
  obtain ⟨q, hq⟩ : ∃ q : Int, n.tmod 1000 = q := ⟨_, rfl⟩
  have hqb : 0 ≤ q ∧ q ≤ 999 := by rw [Int.tmod_eq_emod_of_nonneg hn.1] at hq; omega
  obtain ⟨k, rfl⟩ : ∃ k : Nat, at8 = (k : Int) := ⟨at8.toNat, by omega⟩
  have hk : k < 256 := by omega
  obtain ⟨j, hj⟩ : ∃ j : Nat, j = k / 8 := ⟨_, rfl⟩
  have hjb : j < 32 := by omega
  have hqj : (k : Int).tdiv 8 = (j : Int) := by rw [Int.tdiv_eq_ediv_of_nonneg (by omega)]; omega
  obtain ⟨r, hr⟩ : ∃ r : Nat, r = k % 8 := ⟨_, rfl⟩
  have hrb : r < 8 := by omega
  have hqr : (k : Int).tmod 8 = (r : Int) := by rw [Int.tmod_eq_emod_of_nonneg (by omega)]; omega
  have hwj : IntKind.u8.wrap (j : Int) = (j : Int) := by rw [wrap_u8]; omega
  have hwr : IntKind.u8.wrap (r : Int) = (r : Int) := by rw [wrap_u8]; omega
  have hj2 : (j : Int) < 32 := by omega
  have hj0 : (0 : Int) ≤ (j : Int) := by omega
  have hr8 : (r : Int) < 8 := by omega
  have hr0 : (0 : Int) ≤ (r : Int) := by omega
  have HJ := hide hj
  have HR := hide hr
  clear hj hr ha
  have hwq : IntKind.u64.wrap q = q := wrapU (by omega) (by omega)
  have hwx : IntKind.u64.wrap (1 + q) = 1 + q := wrapU (by omega) (by omega)
  have hwx2 : IntKind.u64.wrap (q + 1) = q + 1 := wrapU (by omega) (by omega)
  go_enter Tryz.func3, Tryz.ntmps3
  go_wp2_with fail
  refine (begin_any 1000 1000 ⟨by decide, by decide⟩ ⟨by decide, by decide⟩ w).mono ?_
  rintro e w1 (⟨p, gA, gB, rfl, -, hP⟩ | ⟨-, hno, -⟩)
  case inr => exact absurd ⟨by decide, by decide, by decide⟩ hno
  have HP := hide hP
  have hsh := shown_any w1 (hT.new hP.two.n)
  clear hP
  go_wp2_with fail
  refine hsh.mono ?_
  rintro e w2 ⟨rfl, n2⟩
  have hS2 := ((unhide HP).new n2).toS
  obtain ⟨g1, c0, hof⟩ := stOffer1 hT hS2 (x := 1 + q) ⟨by omega, by omega⟩
  clear hsh HP n2 hS2
  go_wp2_with (first | ((with_reducible apply tp); rfl; rfl; intro _ _ _) | ((with_reducible apply tr); rfl; intro _ _) | ((with_reducible apply te); rfl; intro _ _) | (with_reducible rfl) | (with_reducible apply tn) | ((with_reducible apply wp_txt); kernel_rfl; decide +kernel))
  refine hof.mono ?_
  rintro e w3 ⟨rfl, S3, h3⟩
  have hx : 1 ≤ 1 + q ∧ 1 + q ≤ 1000 := ⟨by omega, by omega⟩
  obtain ⟨hst, hK, nK⟩ := ms_fresh w3 (tM1 (1 + q)) z32i_len
  have HX := hide (PrX.box h3 hK (Nat.le_refl _) nK)
  clear hof c0 h3 hK nK
  go_upto_region 5 with (first | ((with_reducible apply tp); rfl; rfl; intro _ _ _) | ((with_reducible apply tr); rfl; intro _ _) | ((with_reducible apply te); rfl; intro _ _) | (with_reducible rfl) | (with_reducible apply tn) | ((with_reducible apply wp_txt); kernel_rfl; decide +kernel))
  change Code.wp _ _ _ _ (msNew w3 (tM1 (1 + q)))
  generalize msNew w3 (tM1 (1 + q)) = w4 at HX ⊢
  generalize w3.heap.size = K at HX ⊢
  clear hst w3
  have rK := (unhide HX).row
  have hsay := says0X w p _ _ _ _ _ K _ _ (tM1_ok _ hx) w4 (unhide HX) (by decide)
  clear HX
  go_wp2_with (first | ((with_reducible apply tp); rfl; rfl; intro _ _ _) | ((with_reducible apply tr); rfl; intro _ _) | ((with_reducible apply te); rfl; intro _ _) | (with_reducible rfl) | (with_reducible apply tn) | ((with_reducible apply wp_txt); kernel_rfl; decide +kernel))
  refine hsay.mono ?_
  rintro e w5 ⟨rfl, h5⟩
  have hhe := stHear1 hT h5 hx
  clear hsay rK h5
  go_wp2_with (first | ((with_reducible apply tp); rfl; rfl; intro _ _ _) | ((with_reducible apply tr); rfl; intro _ _) | ((with_reducible apply te); rfl; intro _ _) | (with_reducible rfl) | (with_reducible apply tn) | ((with_reducible apply wp_txt); kernel_rfl; decide +kernel))
  refine hhe.mono ?_
  rintro e w6 ⟨rfl, h6⟩
  obtain ⟨g2, c0, hsg⟩ := stSign1 hT h6
  clear hhe h6
  go_wp2_with (first | ((with_reducible apply tp); rfl; rfl; intro _ _ _) | ((with_reducible apply tr); rfl; intro _ _) | ((with_reducible apply te); rfl; intro _ _) | (with_reducible rfl) | (with_reducible apply tn) | ((with_reducible apply wp_txt); kernel_rfl; decide +kernel))
  refine hsg.mono ?_
  rintro e w7 ⟨rfl, h7⟩
  have hsl := (tS1_ok (1 + q)).len
  obtain ⟨M, hM⟩ : ∃ M, M = tS1 (1 + q) := ⟨_, rfl⟩
  rw [← hM] at hsl ⊢
  have HM := hide hM
  clear hM
  have hst := h7.msb.stOk hsl
  have HX := hide (h7.put hsl)
  clear hsg c0 h7
  go_upto_region 8 with (first | ((with_reducible apply tp); rfl; rfl; intro _ _ _) | ((with_reducible apply tr); rfl; intro _ _) | ((with_reducible apply te); rfl; intro _ _) | (with_reducible rfl) | (with_reducible apply tn) | ((with_reducible apply wp_txt); kernel_rfl; decide +kernel))
  generalize w7.setCells K 0 M.cells = w8 at HX ⊢
  clear hst w7
  go_upto_region 11 with (first | ((with_reducible apply tp); rfl; rfl; intro _ _ _) | ((with_reducible apply tr); rfl; intro _ _) | ((with_reducible apply te); rfl; intro _ _) | (with_reducible rfl) | (with_reducible apply tn) | ((with_reducible apply wp_txt); kernel_rfl; decide +kernel))
  cases rv
  · have hMb : Bytes M.hash := (show MsgOk M from unhide HM ▸ tS1_ok _).hash
    obtain ⟨v, hv, cK, fK⟩ := msb_at (unhide HX).msb hjb
    have HVV := hide hv
    clear hv
    go_upto_region 28 with (first | ((with_reducible apply tp); rfl; rfl; intro _ _ _) | ((with_reducible apply tr); rfl; intro _ _) | ((with_reducible apply te); rfl; intro _ _) | (with_reducible rfl) | (with_reducible apply tn) | ((with_reducible apply wp_txt); kernel_rfl; decide +kernel))
    have hF := (unhide HX).flip hjb (bits .xor .u8 v (2 ^ r % 256))
    generalize w8.setCell ⟨K, 4 + j, none⟩ (.int .u8 (bits .xor .u8 v (2 ^ r % 256))) = w9 at hF ⊢
    have hfl : M.hash.set j (bits .xor .u8 v (2 ^ r % 256)) = flipB M.hash k := by
      rw [(flip_facts hsl hMb hk).2.2.2, ← unhide HJ, ← unhide HR, unhide HVV]
    rw [hfl] at hF
    obtain ⟨M2, hM2⟩ : ∃ M2, M2 = M.withHash (flipB M.hash k) := ⟨_, rfl⟩
    rw [← hM2] at hF
    have HM2 := hide hM2
    clear hM2 hfl cK fK HX HVV HJ HR hwj hwr hqj hqr hj2 hj0 hr8 hr0
    obtain ⟨g, S', c1, hD, hap, hn0, hp', hK', hgeS⟩ := tailB hT hF
    have rK := hF.row
    have hMB := hF.msb
    have hlv := liveS_any g S' (tB1 (1 + q)) w9 hD
    clear hF
    go_wp2_with (first | ((with_reducible apply tp); rfl; rfl; intro _ _ _) | ((with_reducible apply tr); rfl; intro _ _) | ((with_reducible apply te); rfl; intro _ _) | (with_reducible rfl) | (with_reducible apply tn) | ((with_reducible apply wp_txt); kernel_rfl; decide +kernel))
    refine hlv.mono ?_
    rintro e w10 ⟨u, rfl, n10, hu⟩
    have c1' := n10.cell c1 (fun h => h)
    have n10d : New w9 w10.drew := n10.drew
    have hhr : Calls Tryz.prog 18 #[.pointer (some ⟨g, 0, none⟩), .agg M2.cells.toArray] w10.drew (Heard g S' w10.drew (tB1 (1 + q)) [] 133) := by
      rw [unhide HM2, unhide HM]
      exact tHearB (1 + q) hk (hD.new n10d) (hT.new (hn0.trans n10d)) hap
    have rK' := (hMB.new n10).row
    clear hlv c1 rK
    go_wp2_with (first | ((with_reducible apply tp); rfl; rfl; intro _ _ _) | ((with_reducible apply tr); rfl; intro _ _) | ((with_reducible apply te); rfl; intro _ _) | (with_reducible rfl) | (with_reducible apply tn) | ((with_reducible apply wp_txt); kernel_rfl; decide +kernel))
    refine hhr.mono ?_
    rintro e w11 ⟨v2, rfl, hs2, hc2, u11⟩
    have hlt : ∀ i, S' i → i < w9.heap.size := hD.lt
    have hp11 : ∀ i, S' i → i ≠ p := fun i hi e => hp' (e ▸ hi)
    have hcP : w11.cell? ⟨p, 1, none⟩ = some (.pointer (some ⟨g, 0, none⟩)) := u11.cell (show w10.drew.cell? ⟨p, 1, none⟩ = _ from c1') hp'
    have hcPd : w11.drew.cell? ⟨p, 1, none⟩ = some (.pointer (some ⟨g, 0, none⟩)) := hcP
    have hLu : Lives w11 u (tB1 (1 + q)).xs := by
      rcases hu with ⟨a, k, e, e0⟩ | ⟨g', cap, e, hg', hh⟩
      · exact .inl ⟨a, k, e, e0⟩
      · exact .inr ⟨g', 0, cap, e, (hh.upd ((Upd.refl S' w10).drew.trans u11) (fun hS => by have := hlt g' hS; omega)).toL⟩
    have hxs := tB1_xs (1 + q)
    have hok : ∀ x ∈ (tB1 (1 + q)).xs, LiveOk x := by rw [hxs]; exact tL1_ok hx
    have hlen : (tB1 (1 + q)).xs.length ≤ 1048576 := by rw [hxs]; show 1 ≤ 1048576; decide
    have HN := hide ((hn0.trans n10d).then u11 (fun i hi e => by have := hgeS i e; omega))
    have HC2 := hide hc2
    have HLU := hide hLu
    clear hhr rK' hs2 hc2 u11 hlt hp11 hLu hxs hu hD c1' n10 n10d hap hn0 hp' hK' hgeS hMB
    go_upto_region 33 with (first | ((with_reducible apply tp); rfl; rfl; intro _ _ _) | ((with_reducible apply tr); rfl; intro _ _) | ((with_reducible apply te); rfl; intro _ _) | (with_reducible rfl) | (with_reducible apply tn) | ((with_reducible apply wp_txt); kernel_rfl; decide +kernel))
    refine wp_plan (fun w' => w'.cell? ⟨p, 1, none⟩ = some (.pointer (some ⟨g, 0, none⟩))) [11] (.of [0, 1, 2, 3, 4, 5, 6, 7, 8, 9, 10, 11, 12, 13, 14, 15, 16]) (by kernel_rfl) (by kernel_rfl) hcPd ?_
    simp only [Plan.of]
    have hl1 := live13_any u (tB1 (1 + q)).xs hlen w11.drew ((unhide HLU).new ((Upd.refl _ _).drew))
    have HCP := hide hcP
    go_wp2_with (first | ((with_reducible apply qp); rfl; rfl; rfl; intro _ _ _) | ((with_reducible apply qc); rfl; rfl; rfl; with_reducible assumption; intro _ hC _ _) | ((with_reducible apply qr); rfl; rfl; intro _ _) | ((with_reducible apply qd); rfl; rfl; decide +kernel; intro _ _) | ((with_reducible apply qe); rfl; rfl; intro _ _) | (with_reducible rfl) | (with_reducible apply qn))
    refine hl1.mono ?_
    rintro e w12 ⟨u1, rfl, m12, hL1⟩
    have hC12 : w12.cell? ⟨p, 1, none⟩ = some (.pointer (some ⟨g, 0, none⟩)) := m12.cell (show w11.drew.cell? ⟨p, 1, none⟩ = _ from hcP) (fun h => h)
    have HL1 := hide hL1
    have hlv2 := liveS_any g _ (tB1 (1 + q)) w12 (((unhide HC2).new ((Upd.refl _ _).drew)).new m12)
    clear hl1 hL1 hcPd hcP
    go_wp2_with (first | ((with_reducible apply qp); rfl; rfl; rfl; intro _ _ _) | ((with_reducible apply qc); rfl; rfl; rfl; with_reducible assumption; intro _ hC _ _) | ((with_reducible apply qr); rfl; rfl; intro _ _) | ((with_reducible apply qd); rfl; rfl; decide +kernel; intro _ _) | ((with_reducible apply qe); rfl; rfl; intro _ _) | (with_reducible rfl) | (with_reducible apply qn))
    refine ⟨hC12, ?_⟩
    go_wp2_with (first | ((with_reducible apply qp); rfl; rfl; rfl; intro _ _ _) | ((with_reducible apply qc); rfl; rfl; rfl; with_reducible assumption; intro _ hC _ _) | ((with_reducible apply qr); rfl; rfl; intro _ _) | ((with_reducible apply qd); rfl; rfl; decide +kernel; intro _ _) | ((with_reducible apply qe); rfl; rfl; intro _ _) | (with_reducible rfl) | (with_reducible apply qn))
    refine hlv2.mono ?_
    rintro e w13 ⟨u2, rfl, m13, hu2⟩
    have hC13 := m13.cell hC12 (fun h => h)
    have hL2 : Lives w13 u2 (tB1 (1 + q)).xs := by
      rcases hu2 with ⟨a, k, e, e0⟩ | ⟨g', cap, e, hg', hh⟩
      · exact .inl ⟨a, k, e, e0⟩
      · exact .inr ⟨g', 0, cap, e, hh.toL⟩
    have hl2 := live13_any u2 (tB1 (1 + q)).xs hlen w13 hL2
    clear hlv2 hu2 hL2 hC12
    go_wp2_with (first | ((with_reducible apply qp); rfl; rfl; rfl; intro _ _ _) | ((with_reducible apply qc); rfl; rfl; rfl; with_reducible assumption; intro _ hC _ _) | ((with_reducible apply qr); rfl; rfl; intro _ _) | ((with_reducible apply qd); rfl; rfl; decide +kernel; intro _ _) | ((with_reducible apply qe); rfl; rfl; intro _ _) | (with_reducible rfl) | (with_reducible apply qn))
    refine hl2.mono ?_
    rintro e w14 ⟨u3, rfl, m14, hL3⟩
    have hC14 := m14.cell hC13 (fun h => h)
    have hsm := samelive_true u1 u3 (tB1 (1 + q)).xs hlen hok w14 (((unhide HL1).new m13).new m14) hL3
    clear hl2 hL3 hC13
    go_wp2_with (first | ((with_reducible apply qp); rfl; rfl; rfl; intro _ _ _) | ((with_reducible apply qc); rfl; rfl; rfl; with_reducible assumption; intro _ hC _ _) | ((with_reducible apply qr); rfl; rfl; intro _ _) | ((with_reducible apply qd); rfl; rfl; decide +kernel; intro _ _) | ((with_reducible apply qe); rfl; rfl; intro _ _) | (with_reducible rfl) | (with_reducible apply qn))
    refine hsm.mono ?_
    rintro e w15 ⟨rfl, m15⟩
    have hC15 := m15.cell hC14 (fun h => h)
    clear hsm hC14
    go_wp2_with (first | ((with_reducible apply qp); rfl; rfl; rfl; intro _ _ _) | ((with_reducible apply qc); rfl; rfl; rfl; with_reducible assumption; intro _ hC _ _) | ((with_reducible apply qr); rfl; rfl; intro _ _) | ((with_reducible apply qd); rfl; rfl; decide +kernel; intro _ _) | ((with_reducible apply qe); rfl; rfl; intro _ _) | (with_reducible rfl) | (with_reducible apply qn))
    go_ret
    exact ⟨rfl, ((((unhide HN).drew.trans m12).trans m13).trans m14).trans m15⟩

  · have rK := (unhide HX).row
    have hsay := says0X w p _ _ _ _ _ K _ M (unhide HM ▸ tS1_ok _) w8 (unhide HX) (by decide)
    clear HX
    go_wp2_with (first | ((with_reducible apply tp); rfl; rfl; intro _ _ _) | ((with_reducible apply tr); rfl; intro _ _) | ((with_reducible apply te); rfl; intro _ _) | (with_reducible rfl) | (with_reducible apply tn) | ((with_reducible apply wp_txt); kernel_rfl; decide +kernel))
    refine hsay.mono ?_
    rintro e w9 ⟨rfl, h9⟩
    have h9 : PrX w w9 p (tA2 (1 + q)) (tB1 (1 + q)) [] [tS1 (1 + q)] false K M := by
      have := h9
      rw [List.nil_append] at this
      rw [← unhide HM]
      exact this
    have hhe := stHear2 hT h9
    clear hsay rK h9
    go_wp2_with (first | ((with_reducible apply tp); rfl; rfl; intro _ _ _) | ((with_reducible apply tr); rfl; intro _ _) | ((with_reducible apply te); rfl; intro _ _) | (with_reducible rfl) | (with_reducible apply tn) | ((with_reducible apply wp_txt); kernel_rfl; decide +kernel))
    refine hhe.mono ?_
    rintro e w10 ⟨rfl, h10⟩
    have hhe2 := stHear3 hT h10
    clear hhe h10
    go_wp2_with (first | ((with_reducible apply tp); rfl; rfl; intro _ _ _) | ((with_reducible apply tr); rfl; intro _ _) | ((with_reducible apply te); rfl; intro _ _) | (with_reducible rfl) | (with_reducible apply tn) | ((with_reducible apply wp_txt); kernel_rfl; decide +kernel))
    refine hhe2.mono ?_
    rintro e w11 ⟨rfl, h11⟩
    clear hhe2
    go_upto_region 15 with (first | ((with_reducible apply tp); rfl; rfl; intro _ _ _) | ((with_reducible apply tr); rfl; intro _ _) | ((with_reducible apply te); rfl; intro _ _) | (with_reducible rfl) | (with_reducible apply tn) | ((with_reducible apply wp_txt); kernel_rfl; decide +kernel))
    have hwy : IntKind.u64.wrap (1000 - (1 + q)) = 1000 - (1 + q) := wrapU (by omega) (by omega)
    by_cases hq9 : q = 999
    · subst hq9
      obtain ⟨g3, c0, hof⟩ := stOffer4_none hT h11
      clear h11
      go_wp2_with (first | ((with_reducible apply tp); rfl; rfl; intro _ _ _) | ((with_reducible apply tr); rfl; intro _ _) | ((with_reducible apply te); rfl; intro _ _) | (with_reducible rfl) | (with_reducible apply tn) | ((with_reducible apply wp_txt); kernel_rfl; decide +kernel))
      refine hof.mono ?_
      rintro e w12 ⟨rfl, h12⟩
      obtain ⟨hst, hK2, nK2⟩ := ms_fresh w12 MsgV.zero z32i_len
      have HN := hide (h12.n.trans nK2)
      clear hof c0 h12 hK2 nK2
      go_upto_region 16 with (first | ((with_reducible apply tp); rfl; rfl; intro _ _ _) | ((with_reducible apply tr); rfl; intro _ _) | ((with_reducible apply te); rfl; intro _ _) | (with_reducible rfl) | (with_reducible apply tn) | ((with_reducible apply wp_txt); kernel_rfl; decide +kernel))
      change Code.wp _ _ _ _ (msNew w12 MsgV.zero)
      generalize msNew w12 MsgV.zero = w13 at HN ⊢
      clear hst
      generalize w12.heap.size = K2
      go_wp2_with (first | ((with_reducible apply tp); rfl; rfl; intro _ _ _) | ((with_reducible apply tr); rfl; intro _ _) | ((with_reducible apply te); rfl; intro _ _) | (with_reducible rfl) | (with_reducible apply tn) | ((with_reducible apply wp_txt); kernel_rfl; decide +kernel))
      go_ret
      exact ⟨rfl, unhide HN⟩
    · obtain ⟨y, hy0⟩ : ∃ y, y = 1000 - (1 + q) := ⟨_, rfl⟩
      have hy : 1 ≤ y ∧ y ≤ 1000 - (1 + q) := ⟨by omega, by omega⟩
      have hy1 : 1 ≤ y ∧ y ≤ 1000 := ⟨by omega, by omega⟩
      obtain ⟨g3, c0, hof⟩ := stOffer4 hT h11 hx.1 hy
      have HY0 := hide hy0
      rw [hy0] at hof
      clear h11 hy0
      have hne : ¬ (1 + q = 1000) := by omega
      have hne2 : ¬ (q = 999) := hq9
      go_wp2_with (first | ((with_reducible apply tp); rfl; rfl; intro _ _ _) | ((with_reducible apply tr); rfl; intro _ _) | ((with_reducible apply te); rfl; intro _ _) | (with_reducible rfl) | (with_reducible apply tn) | ((with_reducible apply wp_txt); kernel_rfl; decide +kernel))
      refine hof.mono ?_
      rw [← unhide HY0]
      rintro e w12 ⟨rfl, h12⟩
      have hl4 := (tM4_ok y ⟨by omega, by omega⟩).len
      obtain ⟨hst, hK2, nK2⟩ := ms_fresh w12 (tM4 y) hl4
      have HX := hide (h12.new nK2)
      clear hof c0 h12 nK2
      go_upto_region 16 with (first | ((with_reducible apply tp); rfl; rfl; intro _ _ _) | ((with_reducible apply tr); rfl; intro _ _) | ((with_reducible apply te); rfl; intro _ _) | (with_reducible rfl) | (with_reducible apply tn) | ((with_reducible apply wp_txt); kernel_rfl; decide +kernel))
      change Code.wp _ _ _ _ (msNew w12 (tM4 y))
      generalize msNew w12 (tM4 y) = w13 at HX hK2 ⊢
      generalize w12.heap.size = K2 at hK2 ⊢
      clear hst
      have rK := hK2.row
      have hsay := says0X w p _ _ _ _ _ K _ (tM4 y) (tM4_ok y ⟨by omega, by omega⟩) w13 (unhide HX) (by decide)
      clear HX hK2
      go_wp2_with (first | ((with_reducible apply tp); rfl; rfl; intro _ _ _) | ((with_reducible apply tr); rfl; intro _ _) | ((with_reducible apply te); rfl; intro _ _) | (with_reducible rfl) | (with_reducible apply tn) | ((with_reducible apply wp_txt); kernel_rfl; decide +kernel))
      refine hsay.mono ?_
      rintro e w14 ⟨rfl, h14⟩
      have hhe := stHear4 hT h14 hx.1 hy
      clear hsay rK h14
      go_wp2_with (first | ((with_reducible apply tp); rfl; rfl; intro _ _ _) | ((with_reducible apply tr); rfl; intro _ _) | ((with_reducible apply te); rfl; intro _ _) | (with_reducible rfl) | (with_reducible apply tn) | ((with_reducible apply wp_txt); kernel_rfl; decide +kernel))
      refine hhe.mono ?_
      rintro e w15 ⟨rfl, h15⟩
      obtain ⟨g4, c0, hsg⟩ := stSign4 hT h15
      clear hhe h15
      go_wp2_with (first | ((with_reducible apply tp); rfl; rfl; intro _ _ _) | ((with_reducible apply tr); rfl; intro _ _) | ((with_reducible apply te); rfl; intro _ _) | (with_reducible rfl) | (with_reducible apply tn) | ((with_reducible apply wp_txt); kernel_rfl; decide +kernel))
      refine hsg.mono ?_
      rintro e w16 ⟨rfl, h16⟩
      have ok4 := tS4_ok (1 + q) y
      obtain ⟨M4, hM4⟩ : ∃ M4, M4 = tS4 (1 + q) y := ⟨_, rfl⟩
      rw [← hM4] at ok4 ⊢
      have HM4 := hide hM4
      clear hM4
      obtain ⟨hst, hK3, nK3⟩ := ms_fresh w16 M4 ok4.len
      have HX := hide (h16.new nK3)
      clear hsg c0 h16 nK3
      go_upto_region 21 with (first | ((with_reducible apply tp); rfl; rfl; intro _ _ _) | ((with_reducible apply tr); rfl; intro _ _) | ((with_reducible apply te); rfl; intro _ _) | (with_reducible rfl) | (with_reducible apply tn) | ((with_reducible apply wp_txt); kernel_rfl; decide +kernel))
      change Code.wp _ _ _ _ (msNew w16 M4)
      generalize msNew w16 M4 = w17 at HX hK3 ⊢
      generalize w16.heap.size = K3 at hK3 ⊢
      clear hst
      have rK := hK3.row
      have hsay := says0X w p _ _ _ _ _ K _ M4 ok4 w17 (unhide HX) (by decide)
      clear HX hK3
      go_wp2_with (first | ((with_reducible apply tp); rfl; rfl; intro _ _ _) | ((with_reducible apply tr); rfl; intro _ _) | ((with_reducible apply te); rfl; intro _ _) | (with_reducible rfl) | (with_reducible apply tn) | ((with_reducible apply wp_txt); kernel_rfl; decide +kernel))
      refine hsay.mono ?_
      rintro e w18 ⟨rfl, h18⟩
      have h18 : PrX w w18 p (tA5 (1 + q) y) (tB3 (1 + q) y) [] [tS4 (1 + q) y] false K M := by
        have := h18
        rw [List.nil_append] at this
        rw [← unhide HM4]
        exact this
      have hhe := stHear5 hT h18
      clear hsay rK h18
      go_wp2_with (first | ((with_reducible apply tp); rfl; rfl; intro _ _ _) | ((with_reducible apply tr); rfl; intro _ _) | ((with_reducible apply te); rfl; intro _ _) | (with_reducible rfl) | (with_reducible apply tn) | ((with_reducible apply wp_txt); kernel_rfl; decide +kernel))
      refine hhe.mono ?_
      rintro e w19 ⟨rfl, h19⟩
      obtain ⟨g5, cap5, c2, hcap5, r5⟩ := said0 h19
      have okR := tR1_ok (R := sec1L) rfl sec1_bytes
      obtain ⟨R, hR⟩ : ∃ R, R = tR1 sec1L := ⟨_, rfl⟩
      rw [← hR] at r5 okR
      have HR1 := hide hR
      clear hR
      have hst := h19.msb.stOk okR.len
      have HX0 := hide (h19.put okR.len)
      clear hhe h19
      go_upto_region 26 with (first | ((with_reducible apply tp); rfl; rfl; intro _ _ _) | ((with_reducible apply tr); rfl; intro _ _) | ((with_reducible apply te); rfl; intro _ _) | (with_reducible rfl) | (with_reducible apply tn) | ((with_reducible apply wp_txt); kernel_rfl; decide +kernel))
      generalize w19.setCells K 0 R.cells = w20 at HX0 ⊢
      clear hst c2 r5
      have HX := HX0
      clear HX0
      have hRl := okR.len
      have hMb := okR.hash
      obtain ⟨v, hv, cK, fK⟩ := msb_at (unhide HX).msb hjb
      have HVV := hide hv
      clear hv
      go_upto_region 28 with (first | ((with_reducible apply tp); rfl; rfl; intro _ _ _) | ((with_reducible apply tr); rfl; intro _ _) | ((with_reducible apply te); rfl; intro _ _) | (with_reducible rfl) | (with_reducible apply tn) | ((with_reducible apply wp_txt); kernel_rfl; decide +kernel))
      have hF := (unhide HX).flip hjb (bits .xor .u8 v (2 ^ r % 256))
      generalize w20.setCell ⟨K, 4 + j, none⟩ (.int .u8 (bits .xor .u8 v (2 ^ r % 256))) = w9 at hF ⊢
      have hfl : R.hash.set j (bits .xor .u8 v (2 ^ r % 256)) = flipB R.hash k := by
        rw [(flip_facts hRl hMb hk).2.2.2, ← unhide HJ, ← unhide HR, unhide HVV]
      rw [hfl] at hF
      obtain ⟨M2, hM2⟩ : ∃ M2, M2 = R.withHash (flipB R.hash k) := ⟨_, rfl⟩
      rw [← hM2] at hF
      have HM2 := hide hM2
      clear hM2 hfl cK fK HX HVV HJ HR hwj hwr hqj hqr hj2 hj0 hr8 hr0
      obtain ⟨g, S', c1, hD, hap, hn0, hp', hK', hgeS⟩ := tailA hT hF
      have rK := hF.row
      have hMB := hF.msb
      have hlv := liveS_any g S' (tA5 (1 + q) y) w9 hD
      clear hF
      go_wp2_with (first | ((with_reducible apply tp); rfl; rfl; intro _ _ _) | ((with_reducible apply tr); rfl; intro _ _) | ((with_reducible apply te); rfl; intro _ _) | (with_reducible rfl) | (with_reducible apply tn) | ((with_reducible apply wp_txt); kernel_rfl; decide +kernel))
      refine hlv.mono ?_
      rintro e w10 ⟨u, rfl, n10, hu⟩
      have c1' := n10.cell c1 (fun h => h)
      have n10d : New w9 w10.drew := n10.drew
      have hhr : Calls Tryz.prog 18 #[.pointer (some ⟨g, 0, none⟩), .agg M2.cells.toArray] w10.drew (Heard g S' w10.drew (tA5 (1 + q) y) [] 134) := by
        rw [unhide HM2, unhide HR1]
        exact tHearA (1 + q) y hk (turned_any k hk) (hD.new n10d) (hT.new (hn0.trans n10d)) hap
      have rK' := (hMB.new n10).row
      clear hlv c1 rK
      go_wp2_with (first | ((with_reducible apply tp); rfl; rfl; intro _ _ _) | ((with_reducible apply tr); rfl; intro _ _) | ((with_reducible apply te); rfl; intro _ _) | (with_reducible rfl) | (with_reducible apply tn) | ((with_reducible apply wp_txt); kernel_rfl; decide +kernel))
      refine hhr.mono ?_
      rintro e w11 ⟨v2, rfl, hs2, hc2, u11⟩
      have hlt : ∀ i, S' i → i < w9.heap.size := hD.lt
      have hp11 : ∀ i, S' i → i ≠ p := fun i hi e => hp' (e ▸ hi)
      have hcP : w11.cell? ⟨p, 0, none⟩ = some (.pointer (some ⟨g, 0, none⟩)) := u11.cell (show w10.drew.cell? ⟨p, 0, none⟩ = _ from c1') hp'
      have hcPd : w11.drew.cell? ⟨p, 0, none⟩ = some (.pointer (some ⟨g, 0, none⟩)) := hcP
      have hLu : Lives w11 u (tA5 (1 + q) y).xs := by
        rcases hu with ⟨a, k, e, e0⟩ | ⟨g', cap, e, hg', hh⟩
        · exact .inl ⟨a, k, e, e0⟩
        · exact .inr ⟨g', 0, cap, e, (hh.upd ((Upd.refl S' w10).drew.trans u11) (fun hS => by have := hlt g' hS; omega)).toL⟩
      have hxs := (tA5_at (1 + q) y).2.2.2.2
      have hok : ∀ x ∈ (tA5 (1 + q) y).xs, LiveOk x := by rw [hxs]; exact tL4_ok hx hy1
      have hlen : (tA5 (1 + q) y).xs.length ≤ 1048576 := by rw [hxs]; show 2 ≤ 1048576; decide
      have HN := hide ((hn0.trans n10d).then u11 (fun i hi e => by have := hgeS i e; omega))
      have HC2 := hide hc2
      have HLU := hide hLu
      clear hhr rK' hs2 hc2 u11 hlt hp11 hLu hxs hu hD c1' n10 n10d hap hn0 hp' hK' hgeS hMB
      go_upto_region 33 with (first | ((with_reducible apply tp); rfl; rfl; intro _ _ _) | ((with_reducible apply tr); rfl; intro _ _) | ((with_reducible apply te); rfl; intro _ _) | (with_reducible rfl) | (with_reducible apply tn) | ((with_reducible apply wp_txt); kernel_rfl; decide +kernel))
      refine wp_plan (fun w' => w'.cell? ⟨p, 0, none⟩ = some (.pointer (some ⟨g, 0, none⟩))) [11] (.of [0, 1, 2, 3, 4, 5, 6, 7, 8, 9, 10, 11, 12, 13, 14, 15, 16]) (by kernel_rfl) (by kernel_rfl) hcPd ?_
      simp only [Plan.of]
      have hl1 := live13_any u (tA5 (1 + q) y).xs hlen w11.drew ((unhide HLU).new ((Upd.refl _ _).drew))
      have HCP := hide hcP
      go_wp2_with (first | ((with_reducible apply qp); rfl; rfl; rfl; intro _ _ _) | ((with_reducible apply qc); rfl; rfl; rfl; with_reducible assumption; intro _ hC _ _) | ((with_reducible apply qr); rfl; rfl; intro _ _) | ((with_reducible apply qd); rfl; rfl; decide +kernel; intro _ _) | ((with_reducible apply qe); rfl; rfl; intro _ _) | (with_reducible rfl) | (with_reducible apply qn))
      refine hl1.mono ?_
      rintro e w12 ⟨u1, rfl, m12, hL1⟩
      have hC12 : w12.cell? ⟨p, 0, none⟩ = some (.pointer (some ⟨g, 0, none⟩)) := m12.cell (show w11.drew.cell? ⟨p, 0, none⟩ = _ from hcP) (fun h => h)
      have HL1 := hide hL1
      have hlv2 := liveS_any g _ (tA5 (1 + q) y) w12 (((unhide HC2).new ((Upd.refl _ _).drew)).new m12)
      clear hl1 hL1 hcPd hcP
      go_wp2_with (first | ((with_reducible apply qp); rfl; rfl; rfl; intro _ _ _) | ((with_reducible apply qc); rfl; rfl; rfl; with_reducible assumption; intro _ hC _ _) | ((with_reducible apply qr); rfl; rfl; intro _ _) | ((with_reducible apply qd); rfl; rfl; decide +kernel; intro _ _) | ((with_reducible apply qe); rfl; rfl; intro _ _) | (with_reducible rfl) | (with_reducible apply qn))
      refine ⟨hC12, ?_⟩
      go_wp2_with (first | ((with_reducible apply qp); rfl; rfl; rfl; intro _ _ _) | ((with_reducible apply qc); rfl; rfl; rfl; with_reducible assumption; intro _ hC _ _) | ((with_reducible apply qr); rfl; rfl; intro _ _) | ((with_reducible apply qd); rfl; rfl; decide +kernel; intro _ _) | ((with_reducible apply qe); rfl; rfl; intro _ _) | (with_reducible rfl) | (with_reducible apply qn))
      refine hlv2.mono ?_
      rintro e w13 ⟨u2, rfl, m13, hu2⟩
      have hC13 := m13.cell hC12 (fun h => h)
      have hL2 : Lives w13 u2 (tA5 (1 + q) y).xs := by
        rcases hu2 with ⟨a, k, e, e0⟩ | ⟨g', cap, e, hg', hh⟩
        · exact .inl ⟨a, k, e, e0⟩
        · exact .inr ⟨g', 0, cap, e, hh.toL⟩
      have hl2 := live13_any u2 (tA5 (1 + q) y).xs hlen w13 hL2
      clear hlv2 hu2 hL2 hC12
      go_wp2_with (first | ((with_reducible apply qp); rfl; rfl; rfl; intro _ _ _) | ((with_reducible apply qc); rfl; rfl; rfl; with_reducible assumption; intro _ hC _ _) | ((with_reducible apply qr); rfl; rfl; intro _ _) | ((with_reducible apply qd); rfl; rfl; decide +kernel; intro _ _) | ((with_reducible apply qe); rfl; rfl; intro _ _) | (with_reducible rfl) | (with_reducible apply qn))
      refine hl2.mono ?_
      rintro e w14 ⟨u3, rfl, m14, hL3⟩
      have hC14 := m14.cell hC13 (fun h => h)
      have hsm := samelive_true u1 u3 (tA5 (1 + q) y).xs hlen hok w14 (((unhide HL1).new m13).new m14) hL3
      clear hl2 hL3 hC13
      go_wp2_with (first | ((with_reducible apply qp); rfl; rfl; rfl; intro _ _ _) | ((with_reducible apply qc); rfl; rfl; rfl; with_reducible assumption; intro _ hC _ _) | ((with_reducible apply qr); rfl; rfl; intro _ _) | ((with_reducible apply qd); rfl; rfl; decide +kernel; intro _ _) | ((with_reducible apply qe); rfl; rfl; intro _ _) | (with_reducible rfl) | (with_reducible apply qn))
      refine hsm.mono ?_
      rintro e w15 ⟨rfl, m15⟩
      have hC15 := m15.cell hC14 (fun h => h)
      clear hsm hC14
      go_wp2_with (first | ((with_reducible apply qp); rfl; rfl; rfl; intro _ _ _) | ((with_reducible apply qc); rfl; rfl; rfl; with_reducible assumption; intro _ hC _ _) | ((with_reducible apply qr); rfl; rfl; intro _ _) | ((with_reducible apply qd); rfl; rfl; decide +kernel; intro _ _) | ((with_reducible apply qe); rfl; rfl; intro _ _) | (with_reducible rfl) | (with_reducible apply qn))
      go_ret
      exact ⟨rfl, ((((unhide HN).drew.trans m12).trans m13).trans m14).trans m15⟩

end Go.Proofs.YtjpmomdechibmaaGreatDoor

/-
  The law ChannelTurned, at arguments as they are read.
-/
namespace Go.Proofs.YtjpmomdechibmaaGreatDoor
set_option linter.unusedVariables false
set_option linter.unusedSimpArgs false
open Go.RowKit
theorem c_u64 {n : Int} (h : (Lit.int .u64 n).wf = true) : 0 ≤ n ∧ n < 18446744073709551616 := by
  simp [Lit.wf, IntKind.min, IntKind.max, IntKind.signed, IntKind.bits] at h
  omega
theorem c_u8 {n : Int} (h : (Lit.int .u8 n).wf = true) : 0 ≤ n ∧ n < 256 := by
  simp [Lit.wf, IntKind.min, IntKind.max, IntKind.signed, IntKind.bits] at h
  omega
theorem turned_walk (n a : Int) (r : Bool) (W : World) (h0 : (Lit.int .u64 n).wf = true) (h1 : (Lit.int .u8 a).wf = true) (hT : Tb W) : Calls Tryz.prog 3 #[.int .u64 n, .int .u8 a, .bool r] W (Makes (.bool true) W) :=
  turned_law n a r W (c_u64 h0) (c_u8 h1) hT

end Go.Proofs.YtjpmomdechibmaaGreatDoor
