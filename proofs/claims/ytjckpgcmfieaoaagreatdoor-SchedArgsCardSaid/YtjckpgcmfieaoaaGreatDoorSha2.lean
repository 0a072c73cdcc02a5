/-
  Package digest: Compress.
-/
import Derived.Test.YtjckpgcmfieaoaaGreatDoorMbi
import Derived.BigRegion
import Derived.Deep.RegionLaw
import Derived.Deep.CutRange
import Derived.Deep.DrawnRows
import Derived.IntWalk
import Derived.Laws.ResultCell
import Derived.Test.YtjckpgcmfieaoaaGreatDoorDag
set_option linter.unusedVariables false
set_option linter.unusedSimpArgs false
namespace Go.Proofs.YtjckpgcmfieaoaaGreatDoor
open Go.RowKit

def wd (ws : List Int) (i : Nat) : Int := ws.getD i 0
/-- One byte into the words. -/
def ldStep (s : ByteArray) (ws : List Int) (k : Nat) : List Int := ws.set (k / 4) (bits .or .u32 (wd ws (k / 4) * 256 % 4294967296) (bt s k))
def ldWords (s : ByteArray) (n : Nat) : List Int := (List.range n).foldl (ldStep s) (List.replicate 64 0)
theorem ldWords_succ (s : ByteArray) (n : Nat) : ldWords s (n + 1) = ldStep s (ldWords s n) n := by simp [ldWords, List.range_succ]
theorem ldWords_len (s : ByteArray) (n : Nat) : (ldWords s n).length = 64 := by
  induction n with
  | zero => simp [ldWords]
  | succ n ih => rw [ldWords_succ]; simp [ldStep, ih]
/-- Words in their range. -/
def U32s (ws : List Int) : Prop := ∀ x ∈ ws, 0 ≤ x ∧ x < 4294967296
theorem U32s.at {ws : List Int} (h : U32s ws) (i : Nat) : 0 ≤ wd ws i ∧ wd ws i < 4294967296 := by
  unfold wd
  rw [List.getD_eq_getElem?_getD]
  cases hi : ws[i]? with
  | none => simp
  | some x => exact h x (List.mem_of_getElem? hi)
theorem U32s.set {ws : List Int} (h : U32s ws) (i : Nat) {x : Int} (hx : 0 ≤ x ∧ x < 4294967296) : U32s (ws.set i x) := by
  intro y hy
  rcases List.mem_or_eq_of_mem_set hy with hy | rfl
  · exact h y hy
  · exact hx
theorem ldWords_u32 (s : ByteArray) (n : Nat) : U32s (ldWords s n) := by
  induction n with
  | zero => intro x hx; simp [ldWords] at hx; omega
  | succ n ih => rw [ldWords_succ]; exact ih.set _ (bits_u32 ..)

def kTab : List Int := [1116352408, 1899447441, 3049323471, 3921009573, 961987163, 1508970993, 2453635748, 2870763221, 3624381080, 310598401, 607225278, 1426881987, 1925078388, 2162078206, 2614888103, 3248222580, 3835390401, 4022224774, 264347078, 604807628, 770255983, 1249150122, 1555081692, 1996064986, 2554220882, 2821834349, 2952996808, 3210313671, 3336571891, 3584528711, 113926993, 338241895, 666307205, 773529912, 1294757372, 1396182291, 1695183700, 1986661051, 2177026350, 2456956037, 2730485921, 2820302411, 3259730800, 3345764771, 3516065817, 3600352804, 4094571909, 275423344, 430227734, 506948616, 659060556, 883997877, 958139571, 1322822218, 1537002063, 1747873779, 1955562222, 2024104815, 2227730452, 2361852424, 2428436474, 2756734187, 3204031479, 3329325298]
def hBeg : List Int := [1779033703, 3144134277, 1013904242, 2773480762, 1359893119, 2600822924, 528734635, 1541459225]
/-- The tables of package digest lie in their blocks. -/
structure Tabs (w : World) : Prop where
  table : ∀ i, i < 64 → w.cell? ⟨1, i, none⟩ = some (.int .u32 (kTab.getD i 0))
  start : ∀ i, i < 8 → w.cell? ⟨0, i, none⟩ = some (.int .u32 (hBeg.getD i 0))
theorem Tabs.upd {S : Nat → Prop} {w w' : World} (h : Tabs w) (u : Upd S w w') (h0 : ¬ S 1) (h1 : ¬ S 0) : Tabs w' := ⟨fun i hi => u.cell (h.table i hi) h0, fun i hi => u.cell (h.start i hi) h1⟩
theorem Tabs.lt {w : World} (h : Tabs w) : 1 < w.heap.size ∧ 0 < w.heap.size := ⟨World.block_lt_of_cell? w _ (h.table 0 (by decide)), World.block_lt_of_cell? w _ (h.start 0 (by decide))⟩
theorem Tabs.new {w w' : World} (h : Tabs w) (u : New w w') : Tabs w' := h.upd u (fun h => h) (fun h => h)
theorem kTab_u32 : U32s kTab := by unfold U32s kTab; decide

/-- One word more of the sixty-four. -/
def sig0 (x : Int) : Int := bits .xor .u32 (turnsI x [7, 18]) (x / 8)
def sig1 (y : Int) : Int := bits .xor .u32 (turnsI y [17, 19]) (y / 1024)
def scStep (ws : List Int) (j : Nat) : List Int := ws.set (j + 16) ((wd ws j + sig0 (wd ws (j + 1)) + wd ws (j + 9) + sig1 (wd ws (j + 14))) % 4294967296)
def scWords (s : ByteArray) (n : Nat) : List Int := (List.range n).foldl scStep (ldWords s 64)
theorem scWords_zero (s : ByteArray) : scWords s 0 = ldWords s 64 := by unfold scWords; simp only [List.range_zero, List.foldl_nil]
theorem scWords_succ (s : ByteArray) (n : Nat) : scWords s (n + 1) = scStep (scWords s n) n := by simp [scWords, List.range_succ]
theorem scWords_len (s : ByteArray) (n : Nat) : (scWords s n).length = 64 := by
  induction n with
  | zero => rw [scWords_zero]; exact ldWords_len s 64
  | succ n ih => rw [scWords_succ]; simp [scStep, ih]
theorem scWords_u32 (s : ByteArray) (n : Nat) : U32s (scWords s n) := by
  induction n with
  | zero => rw [scWords_zero]; exact ldWords_u32 s 64
  | succ n ih => rw [scWords_succ]; exact ih.set _ (by omega)
def chI (e f g : Int) : Int := bits .xor .u32 (bits .and .u32 e f) (bits .and .u32 (bits .xor .u32 4294967295 e) g)
def majI (a b c : Int) : Int := bits .xor .u32 (bits .xor .u32 (bits .and .u32 a b) (bits .and .u32 a c)) (bits .and .u32 b c)
def oneI (e f g h k w : Int) : Int := (h + turnsI e [6, 11, 25] + chI e f g + k + w) % 4294967296
def twoI (a b c : Int) : Int := (turnsI a [2, 13, 22] + majI a b c) % 4294967296
/-- One round over the eight letters. -/
def rdStep (ws : List Int) : List Int → Nat → List Int
  | [a, b, c, d, e, f, g, h], k => [(oneI e f g h (kTab.getD k 0) (wd ws k) + twoI a b c) % 4294967296, a, b, c, (d + oneI e f g h (kTab.getD k 0) (wd ws k)) % 4294967296, e, f, g]
  | v, _ => v
def rdAll (ws v : List Int) (n : Nat) : List Int := (List.range n).foldl (rdStep ws) v
theorem rdAll_zero (ws v : List Int) : rdAll ws v 0 = v := by unfold rdAll; simp only [List.range_zero, List.foldl_nil]
theorem rdAll_succ (ws v : List Int) (n : Nat) : rdAll ws v (n + 1) = rdStep ws (rdAll ws v n) n := by simp [rdAll, List.range_succ]
theorem eight_letters {l : List Int} (h : l.length = 8) : ∃ a b c d e f g i, l = [a, b, c, d, e, f, g, i] := by
  match l, h with
  | [a, b, c, d, e, f, g, i], _ => exact ⟨a, b, c, d, e, f, g, i, rfl⟩
theorem rdStep_ok (ws : List Int) (v : List Int) (k : Nat) (h : v.length = 8 ∧ U32s v) : (rdStep ws v k).length = 8 ∧ U32s (rdStep ws v k) := by
  obtain ⟨h8, hu⟩ := h
  obtain ⟨a, b, c, d, e, f, g, i, rfl⟩ := eight_letters h8
  refine ⟨rfl, ?_⟩
  intro x hx
  simp only [rdStep, List.mem_cons, List.not_mem_nil, or_false] at hx
  rcases hx with rfl | rfl | rfl | rfl | rfl | rfl | rfl | rfl
  · omega
  · exact hu _ (by simp)
  · exact hu _ (by simp)
  · exact hu _ (by simp)
  · omega
  · exact hu _ (by simp)
  · exact hu _ (by simp)
  · exact hu _ (by simp)
theorem rdAll_ok (ws v : List Int) (n : Nat) (h : v.length = 8 ∧ U32s v) : (rdAll ws v n).length = 8 ∧ U32s (rdAll ws v n) := by
  induction n with
  | zero => rw [rdAll_zero]; exact h
  | succ n ih => rw [rdAll_succ]; exact rdStep_ok _ _ _ ih
def adStep (v hs : List Int) (i : Nat) : List Int := hs.set i ((wd hs i + wd v i) % 4294967296)
def adWords (v hs : List Int) (n : Nat) : List Int := (List.range n).foldl (adStep v) hs
theorem adWords_zero (v hs : List Int) : adWords v hs 0 = hs := by unfold adWords; simp only [List.range_zero, List.foldl_nil]
theorem adWords_succ (v hs : List Int) (n : Nat) : adWords v hs (n + 1) = adStep v (adWords v hs n) n := by simp [adWords, List.range_succ]
theorem adWords_ok (v hs : List Int) (n : Nat) (h : hs.length = 8 ∧ U32s hs) : (adWords v hs n).length = 8 ∧ U32s (adWords v hs n) := by
  induction n with
  | zero => rw [adWords_zero]; exact h
  | succ n ih => rw [adWords_succ]; exact ⟨by simp [adStep, ih.1], ih.2.set _ (by omega)⟩
/-- What each operation of a round's first sum yields. -/
def oneE (xs : List Value) (ns : Array Value) (i : Nat) (v : Value) (w : World) : Prop := if i = 3 then ∃ g T, v = .slice (some ⟨g, 0, none⟩) 3 3 ∧ w.heap[g]? = some (.cells ns T (0, 0)) else v = xs.getD i undef
theorem oneE_new {xs : List Value} {ns : Array Value} (i : Nat) (v : Value) {w w' : World} (n : New w w') (h : oneE xs ns i v w) : oneE xs ns i v w' := by
  unfold oneE at h ⊢
  split
  · rename_i hi
    rw [if_pos hi] at h
    obtain ⟨g, T, e, hb⟩ := h
    exact ⟨g, T, e, n.old hb (fun h => h)⟩
  · rename_i hi
    rw [if_neg hi] at h
    exact h
theorem Ints.of {k : IntKind} {w : World} {b : Nat} {ws : List Int} {T : TypeId} {C : Array Value} (h : w.heap[b]? = some (.cells C T (0, 0))) (e : C = (ws.map (Value.int k)).toArray) : Ints k w b ws := ⟨T, by rw [h, e]⟩

theorem Tryz.infoW64 : (Tryz.prog.info? 344).map (·.size) = some 64 := by kernel_rfl
def ldW64 (x : Value) : Sem Value := Instr.loadAt 344 x
theorem ld_w64_fold (x : Value) : Instr.loadAt 344 x = ldW64 x := rfl
theorem ld_w64 (b o : Nat) (w : World) : (ldW64 (.pointer (some ⟨b, o, none⟩))).run Tryz.prog w = match rowN w b o 64 with | some A => .ok (.agg A) w | none => slowLd Tryz.prog 344 w b o :=
  run_loadAt_rowN 344 64 _ Tryz.underlying344 rfl Tryz.infoW64 b o w
theorem Ints.row {k : IntKind} {w : World} {b : Nat} {ws : List Int} (h : Ints k w b ws) {n : Nat} (hn : ws.length = n) : rowN w b 0 n = some (ws.map (Value.int k)).toArray := by
  obtain ⟨T, h⟩ := h
  exact rowN_whole h n (by simp [hn])
attribute [local go_sem ↓ high] ld_w64_fold
attribute [local go_sem] ld_w64
attribute [local go_sem ↓] Go.wp_at_zero Go.wp_at_succ

/-- A function's results: a row out of a cell, and one slot. -/
theorem results_row_tmp {P : Program} {fn : Func} {p u : Tmp} {ty : TypeId} (h : fn.results = #[.cell p ty, .tmp u]) (tmps : Array Value) (w : World) (g : Nat) (t : TypeId) (cs : Array Value) (fr : Nat × Nat) (d : TypeDesc)
    (hp : tmps.getD p undef = .pointer (some ⟨g, 0, none⟩)) (hg : w.heap[g]? = some (.cells cs t fr))
    (hu : P.underlying ty = some d) (hd : (match d with | .struct _ | .array _ _ => true | _ => false) = true) (hi : (P.info? ty).map (·.size) = some cs.size) :
    (results fn tmps).run P w = .ok (.tuple #[.agg cs, tmps.getD u undef]) w := by
  rw [results_cell_tmp h, hp]
  simp [asAddr, run_loadVar_row w g t ty cs fr d hg hu hd hi, Result.andThen]
theorem Tryz.infoW8 : (Tryz.prog.info? 241).map (·.size) = some 8 := by kernel_rfl
/-- One block of sixty-four bytes into the eight letters. -/
def digI (h : List Int) (s : ByteArray) : List Int := adWords (rdAll (scWords s 48) h 64) h 8
theorem digI_ok (h : List Int) (s : ByteArray) (hh : h.length = 8 ∧ U32s h) : (digI h s).length = 8 ∧ U32s (digI h s) := adWords_ok _ _ _ hh
set_option maxRecDepth 100000 in
set_option maxHeartbeats 4000000 in
theorem compress_any (h : List Int) (s : ByteArray) (w : World) (hh : h.length = 8) (hu : U32s h) (hs : s.size = 64) (hT0 : Tabs w) :
    Calls Tryz.prog 187 #[.agg (h.map (Value.int .u32)).toArray, .string s] w fun e w' => e = .returned (.tuple #[.agg ((digI h s).map (Value.int .u32)).toArray, .bool true]) ∧ New w w' := by
  have hw := hT0.lt
  obtain ⟨h0, h1, h2, h3, h4, h5, h6, h7, rfl⟩ : ∃ a b c d e f g i, h = [a, b, c, d, e, f, g, i] := by
    match h, hh with
    | [a, b, c, d, e, f, g, i], _ => exact ⟨a, b, c, d, e, f, g, i, rfl⟩
  simp only [List.map_cons, List.map_nil]
  go_enter Tryz.func187, Tryz.ntmps187
  go_upto_region 4 with fail
  obtain ⟨wA, hwA⟩ : ∃ wA : World, wA = ((w.alloc (.cells #[.int .u32 h0, .int .u32 h1, .int .u32 h2, .int .u32 h3, .int .u32 h4, .int .u32 h5, .int .u32 h6, .int .u32 h7] 241)).alloc (.cells #[.int .u32 0, .int .u32 0, .int .u32 0, .int .u32 0, .int .u32 0, .int .u32 0, .int .u32 0, .int .u32 0] 241)).alloc (.cells #[.int .u32 0, .int .u32 0, .int .u32 0, .int .u32 0, .int .u32 0, .int .u32 0, .int .u32 0, .int .u32 0, .int .u32 0, .int .u32 0, .int .u32 0, .int .u32 0, .int .u32 0, .int .u32 0, .int .u32 0, .int .u32 0, .int .u32 0, .int .u32 0, .int .u32 0, .int .u32 0, .int .u32 0, .int .u32 0, .int .u32 0, .int .u32 0, .int .u32 0, .int .u32 0, .int .u32 0, .int .u32 0, .int .u32 0, .int .u32 0, .int .u32 0, .int .u32 0, .int .u32 0, .int .u32 0, .int .u32 0, .int .u32 0, .int .u32 0, .int .u32 0, .int .u32 0, .int .u32 0, .int .u32 0, .int .u32 0, .int .u32 0, .int .u32 0, .int .u32 0, .int .u32 0, .int .u32 0, .int .u32 0, .int .u32 0, .int .u32 0, .int .u32 0, .int .u32 0, .int .u32 0, .int .u32 0, .int .u32 0, .int .u32 0, .int .u32 0, .int .u32 0, .int .u32 0, .int .u32 0, .int .u32 0, .int .u32 0, .int .u32 0, .int .u32 0] 344) := ⟨_, rfl⟩
  have sA : wA.heap.size = w.heap.size + 3 := by rw [hwA]; simp
  have nA : New w wA := by rw [hwA]; exact (((Upd.refl _ _).alloc _).alloc _).alloc _
  have vA : Ints .u32 wA w.heap.size [h0, h1, h2, h3, h4, h5, h6, h7] := by rw [hwA]; exact ⟨_, blk_alloc_old (blk_alloc_old (blk_alloc _ _) _) _⟩
  have vB : Ints .u32 wA (w.heap.size + 1) [0, 0, 0, 0, 0, 0, 0, 0] := by
    rw [hwA]
    have := blk_alloc (w.alloc (.cells #[.int .u32 h0, .int .u32 h1, .int .u32 h2, .int .u32 h3, .int .u32 h4, .int .u32 h5, .int .u32 h6, .int .u32 h7] 241)) (.cells #[.int .u32 0, .int .u32 0, .int .u32 0, .int .u32 0, .int .u32 0, .int .u32 0, .int .u32 0, .int .u32 0] 241)
    rw [World.size_alloc] at this
    exact ⟨_, blk_alloc_old this _⟩
  have vW : Ints .u32 wA (w.heap.size + 1 + 1) (List.replicate 64 0) := by
    rw [hwA]
    have := blk_alloc ((w.alloc (.cells #[.int .u32 h0, .int .u32 h1, .int .u32 h2, .int .u32 h3, .int .u32 h4, .int .u32 h5, .int .u32 h6, .int .u32 h7] 241)).alloc (.cells #[.int .u32 0, .int .u32 0, .int .u32 0, .int .u32 0, .int .u32 0, .int .u32 0, .int .u32 0, .int .u32 0] 241)) (.cells #[.int .u32 0, .int .u32 0, .int .u32 0, .int .u32 0, .int .u32 0, .int .u32 0, .int .u32 0, .int .u32 0, .int .u32 0, .int .u32 0, .int .u32 0, .int .u32 0, .int .u32 0, .int .u32 0, .int .u32 0, .int .u32 0, .int .u32 0, .int .u32 0, .int .u32 0, .int .u32 0, .int .u32 0, .int .u32 0, .int .u32 0, .int .u32 0, .int .u32 0, .int .u32 0, .int .u32 0, .int .u32 0, .int .u32 0, .int .u32 0, .int .u32 0, .int .u32 0, .int .u32 0, .int .u32 0, .int .u32 0, .int .u32 0, .int .u32 0, .int .u32 0, .int .u32 0, .int .u32 0, .int .u32 0, .int .u32 0, .int .u32 0, .int .u32 0, .int .u32 0, .int .u32 0, .int .u32 0, .int .u32 0, .int .u32 0, .int .u32 0, .int .u32 0, .int .u32 0, .int .u32 0, .int .u32 0, .int .u32 0, .int .u32 0, .int .u32 0, .int .u32 0, .int .u32 0, .int .u32 0, .int .u32 0, .int .u32 0, .int .u32 0, .int .u32 0] 344)
    rw [World.size_alloc, World.size_alloc] at this
    exact ⟨_, this⟩
  rw [← hwA]
  clear hwA
  have TA := hT0.new nA
  generalize hAw : w.heap.size = A at *
  have HAW := hide hAw
  clear hAw
  have hsz : A + 3 ≤ wA.heap.size := by omega
  clear sA
  obtain ⟨wo, rfl⟩ : ∃ wo : World, wo = wA := ⟨_, rfl⟩
  go_wp2_with fail
  go_loopw [7, 30] (fun _ iv wr => ∃ k : Nat, iv = .int .i64 (k : Int) ∧ k ≤ 64 ∧ Ints .u32 wr (A + 1 + 1) (ldWords s k) ∧ Upd (fun k => k = A + 1 + 1) wo wr) (fun _ iv _ => 64 - (intOf iv).toNat)
  case atStart => exact ⟨0, rfl, by omega, vW, Upd.refl _ _⟩
  case round =>
    obtain ⟨k, rfl, hk, hW, ur⟩ := hrel
    by_cases hlt : k < 64
    · have hlen := ldWords_len s k
      have c0 := hW.cell (i := k / 4) (by omega)
      have z0 := hW.free (k / 4)
      have hst := hW.set (k / 4) (bits .or .u32 (wd (ldWords s k) (k / 4) * 256 % 4294967296) (bt s k))
      obtain ⟨hb0, hb1⟩ := (ldWords_u32 s k).at (k / 4)
      rw [show (ldWords s k).set (k / 4) (bits .or .u32 (wd (ldWords s k) (k / 4) * 256 % 4294967296) (bt s k)) = ldWords s (k + 1) from (ldWords_succ s k).symm] at hst
      change wr.cell? _ = some (.int .u32 (wd (ldWords s k) (k / 4))) at c0
      have hix : ∀ W : World, (Instr.index 9 (.string s) (.int .i64 (k : Int))).run Tryz.prog W = .ok (.int .u8 (bt s k)) W := fun W => run_index_at _ s _ _ k Tryz.underlying9 rfl (by omega) W
      obtain ⟨hbt0, hbt1⟩ := bt_bd s k
      have h01 : (k : Int) < 64 := by omega
      have h02 : ((k : Int) / 4).toNat = k / 4 := by omega
      have h03 : (0 : Int) ≤ (k : Int) / 4 := by omega
      have h04 : (k : Int) / 4 < 64 := by omega
      have h05 : IntKind.i64.wrap ((k : Int) / 4) = (k : Int) / 4 := IntWalk.i64_in _ (by omega)
      have HST := hide hst
      clear hst hlen hW
      generalize wd (ldWords s k) (k / 4) = x at c0 hb0 hb1 HST
      generalize bt s k = y at hix hbt0 hbt1 HST
      have h06 : IntKind.u32.wrap (x * 256) = x * 256 % 4294967296 := by rw [IntKind.wrap_u32]
      have h07 : IntKind.u32.wrap y = y := IntWalk.u32_in _ (by omega)
      go_wp2_with fail
      go_region_law (fail)
      all_goals
        have us := ur.set1 (k / 4) (.int .u32 (bits .or .u32 (x * 256 % 4294967296) y))
        have hst2 := unhide HST
        generalize wr.setCell ⟨A + 1 + 1, k / 4, none⟩ (.int .u32 (bits .or .u32 (x * 256 % 4294967296) y)) = wS at *
        go_wp2
        go_roundw
        case rel => exact ⟨k + 1, by go_num, by omega, (hst2 : Ints .u32 wS _ _), us.drew⟩
        case measure => simp [intOf]; omega
    · obtain rfl : k = 64 := by omega
      rw [show ((64 : Nat) : Int) = 64 from rfl]
      have vA2 := vA.upd ur (by omega)
      have vB2 := vB.upd ur (by omega)
      have hsz2 := ur.size
      have u0 := ur
      clear vA vB vW ur
      obtain ⟨w2, rfl⟩ : ∃ w2 : World, w2 = wr := ⟨_, rfl⟩
      go_wp2_with fail
      go_loopw [8, 9, 10, 11, 12] (fun iv _ _ _ _ wr => ∃ j : Nat, iv = .int .i64 ((j : Int) + 16) ∧ j ≤ 48 ∧ Ints .u32 wr (A + 1 + 1) (scWords s j) ∧ Upd (fun k => k = A + 1 + 1) w2 wr) (fun iv _ _ _ _ _ => 64 - (intOf iv).toNat)
      case atStart => exact ⟨0, rfl, by omega, by rw [scWords_zero]; exact hW, Upd.refl _ _⟩
      case round =>
        clear hW
        obtain ⟨j, rfl, hj, hW, ur⟩ := hrel
        by_cases hlt2 : j < 48
        · have hlen := scWords_len s j
          have hr := scWords_u32 s j
          have c1 : wr.cell? ⟨A + 1 + 1, j + 1, none⟩ = some (.int .u32 (wd (scWords s j) (j + 1))) := hW.cell (by omega)
          have c14 : wr.cell? ⟨A + 1 + 1, j + 14, none⟩ = some (.int .u32 (wd (scWords s j) (j + 14))) := hW.cell (by omega)
          obtain ⟨r1, r1'⟩ := hr.at (j + 1)
          obtain ⟨r14, r14'⟩ := hr.at (j + 14)
          obtain ⟨r0, r0'⟩ := hr.at j
          obtain ⟨r9, r9'⟩ := hr.at (j + 9)
          have hnext := scWords_succ s j
          unfold scStep sig0 sig1 at hnext
          have HN := hide hnext
          have HW := hide hW
          have h01 : (j : Int) < 48 := by omega
          have h02 : IntKind.i64.wrap ((j : Int) + 16 - 15) = (j : Int) + 1 := by rw [IntWalk.i64_in _ (by omega)]; omega
          have h03 : IntKind.i64.wrap ((j : Int) + 16 - 2) = (j : Int) + 14 := by rw [IntWalk.i64_in _ (by omega)]; omega
          have h04 : ((j : Int) + 1).toNat = j + 1 := by omega
          have h05 : ((j : Int) + 14).toNat = j + 14 := by omega
          clear hW hr hlen hnext
          generalize hx : wd (scWords s j) (j + 1) = x at c1 r1 r1' HN
          generalize hy : wd (scWords s j) (j + 14) = y at c14 r14 r14' HN
          clear hx hy
          go_wp2_with fail
          go_quiet (fail)
          go_wp2_with fail
          refine (turns_two x 7 18 _ _ _ (by decide) (by decide) r1 r1' (by exact blk_alloc _ _)).mono ?_
          rintro e w5 ⟨rfl, q5⟩
          have n5 : New wr w5 := (((Upd.refl _ wr).drewN _).alloc _).trans (q5.upd _)
          clear q5
          go_wp2_with fail
          refine (turns_two y 17 19 _ _ _ (by decide) (by decide) r14 r14' (by exact blk_alloc _ _)).mono ?_
          rintro e w6 ⟨rfl, q6⟩
          have n6 : New wr w6 := n5.trans (((Upd.refl _ w5).alloc _).trans (q6.upd _))
          clear n5 q6 c1 c14
          have hW6 := (unhide HW).upd n6 (fun h => h)
          have c0 : w6.cell? ⟨A + 1 + 1, j, none⟩ = some (.int .u32 (wd (scWords s j) j)) := hW6.cell (by rw [scWords_len]; omega)
          have c9 : w6.cell? ⟨A + 1 + 1, j + 9, none⟩ = some (.int .u32 (wd (scWords s j) (j + 9))) := hW6.cell (by rw [scWords_len]; omega)
          obtain ⟨v16, c16⟩ : ∃ v, w6.cell? ⟨A + 1 + 1, j + 16, none⟩ = some v := ⟨_, hW6.cell (by rw [scWords_len]; omega)⟩
          have z16 := hW6.free (j + 16)
          go_upto_region 15 with fail
          obtain ⟨p0, p1⟩ := bits_u32 .xor (turnsI x [7, 18]) (x / 8)
          obtain ⟨p2, p3⟩ := bits_u32 .xor (turnsI y [17, 19]) (y / 1024)
          generalize bits .xor .u32 (turnsI x [7, 18]) (x / 8) = p at HN p0 p1 ⊢
          generalize bits .xor .u32 (turnsI y [17, 19]) (y / 1024) = q at HN p2 p3 ⊢
          generalize wd (scWords s j) j = a at c0 r0 r0' HN
          generalize wd (scWords s j) (j + 9) = b at c9 r9 r9' HN
          have hst := hW6.set (j + 16) ((a + p + b + q) % 4294967296)
          rw [← unhide HN] at hst
          have HST := hide hst
          have u6 := ur.then n6 (fun _ _ h => h.elim)
          clear hst hW6 n6 HW HN h02 h03 h04 h05
          have h06 : IntKind.i64.wrap (j : Int) = (j : Int) := IntWalk.i64_in _ (by omega)
          have h07 : IntKind.i64.wrap ((j : Int) + 16 - 7) = (j : Int) + 9 := by rw [IntWalk.i64_in _ (by omega)]; omega
          have h13 : (j : Int) < 64 := by omega
          have h14 : (j : Int) + 9 < 64 := by omega
          have h15 : (j : Int) + 16 < 64 := by omega
          have h16 : (0 : Int) ≤ (j : Int) + 9 := by omega
          have h17 : (0 : Int) ≤ (j : Int) + 16 := by omega
          have h08 : ((j : Int) + 9).toNat = j + 9 := by omega
          have h09 : ((j : Int) + 16).toNat = j + 16 := by omega
          have h10 : IntKind.u32.wrap (a + p) = (a + p) % 4294967296 := by rw [IntKind.wrap_u32]
          have h11 : IntKind.u32.wrap ((a + p) % 4294967296 + b) = (a + p + b) % 4294967296 := by rw [IntKind.wrap_u32]; omega
          have h12 : IntKind.u32.wrap ((a + p + b) % 4294967296 + q) = (a + p + b + q) % 4294967296 := by rw [IntKind.wrap_u32]; omega
          go_wp2_with fail
          go_region_law (fail)
          all_goals
            have us := u6.set1 (j + 16) (.int .u32 ((a + p + b + q) % 4294967296))
            have hst2 := unhide HST
            generalize w6.setCell ⟨A + 1 + 1, j + 16, none⟩ (.int .u32 ((a + p + b + q) % 4294967296)) = wS at *
            clear h10 h11 h12 h06 h07
            go_wp2
            go_roundw
            case rel => exact ⟨j + 1, by first | (rw [show ((j + 1 : Nat) : Int) + 16 = (j : Int) + 16 + 1 by omega]; done) | (simp; omega), by omega, (hst2 : Ints .u32 wS _ _), us.drew⟩
            case measure => simp [intOf]; omega
        · obtain rfl : j = 48 := by omega
          rw [show ((48 : Nat) : Int) + 16 = 64 from rfl]
          have vA3 := vA2.upd ur (by omega)
          have vB3 := vB2.upd ur (by omega)
          have u3 := u0.trans ur
          have hszr := ur.size
          obtain ⟨w3, rfl⟩ : ∃ w3 : World, w3 = wr := ⟨_, rfl⟩
          have a0 := vA3.cell (i := 0) (by simp)
          have a1 := vA3.cell (i := 1) (by simp)
          have a2 := vA3.cell (i := 2) (by simp)
          have a3 := vA3.cell (i := 3) (by simp)
          have a4 := vA3.cell (i := 4) (by simp)
          have a5 := vA3.cell (i := 5) (by simp)
          have a6 := vA3.cell (i := 6) (by simp)
          have a7 := vA3.cell (i := 7) (by simp)
          simp at a0 a1 a2 a3 a4 a5 a6 a7
          have HW3 := hide hW
          clear vA2 vB2 u0 ur hW
          have hrw := (unhide HW3).row (scWords_len s 48)
          go_upto_region 17 with fail
          have vV := Ints.of (k := .u32) (ws := [h0, h1, h2, h3, h4, h5, h6, h7]) (blk_alloc w3 (.cells #[.int .u32 h0, .int .u32 h1, .int .u32 h2, .int .u32 h3, .int .u32 h4, .int .u32 h5, .int .u32 h6, .int .u32 h7] 241)) rfl
          have nV : New w3 (w3.alloc (.cells #[.int .u32 h0, .int .u32 h1, .int .u32 h2, .int .u32 h3, .int .u32 h4, .int .u32 h5, .int .u32 h6, .int .u32 h7] 241)) := (Upd.refl _ _).alloc _
          generalize w3.alloc (.cells #[.int .u32 h0, .int .u32 h1, .int .u32 h2, .int .u32 h3, .int .u32 h4, .int .u32 h5, .int .u32 h6, .int .u32 h7] 241) = w4 at vV nV ⊢
          have hrw4 := rowN_upd hrw nV (fun h => h)
          have hwl := scWords_len s 48
          have hwu := scWords_u32 s 48
          have hszv := vV.lt
          have hszn := nV.size
          have TT := (TA.upd u3 (by omega) (by omega)).new nV
          clear hrw HW3 a0 a1 a2 a3 a4 a5 a6 a7
          generalize hws : scWords s 48 = ws at hrw4 hwl hwu
          have HWS := hide hws
          clear hws
          generalize hCw : (ws.map (Value.int .u32)).toArray = Cw at hrw4
          have hidx : ∀ (k : Nat) (W : World), k < 64 → (Instr.index 344 (.agg Cw) (.int .i64 (k : Int))).run Tryz.prog W = .ok (.int .u32 (wd ws k)) W := by
            intro k W hk
            have e1 : Cw[k]? = some (.int .u32 (wd ws k)) := by
              rw [← hCw, List.getElem?_toArray, List.getElem?_map, List.getElem?_eq_getElem (by omega), wd, List.getD_eq_getElem?_getD, List.getElem?_eq_getElem (by omega)]
              rfl
            have h2 : 0 ≤ (k : Int) ∧ (k : Int) < ((64 : Nat) : Int) := by omega
            simp [Instr.index, run_underlying Tryz.underlying344, asIntOf, h2, e1, go_sem]
            intro hbad
            omega
          have HX := hide hidx
          clear hidx hCw
          obtain ⟨w5, rfl⟩ : ∃ w5 : World, w5 = w4 := ⟨_, rfl⟩
          go_wp2_with fail
          go_loopw [14, 15, 16, 17, 18, 19, 20, 21, 22, 23, 24, 88] (fun _ _ _ _ _ _ _ _ _ _ _ iv wr => ∃ k : Nat, iv = .int .i64 (k : Int) ∧ k ≤ 64 ∧ Ints .u32 wr w3.heap.size (rdAll ws [h0, h1, h2, h3, h4, h5, h6, h7] k) ∧ Upd (fun k => k = w3.heap.size) w5 wr) (fun _ _ _ _ _ _ _ _ _ _ _ iv _ => 64 - (intOf iv).toNat)
          case atStart => exact ⟨0, rfl, by omega, by rw [rdAll_zero]; exact vV, Upd.refl _ _⟩
          case round =>
            obtain ⟨k, rfl, hk, hV, ur⟩ := hrel
            by_cases hlt3 : k < 64
            · have hok := rdAll_ok ws [h0, h1, h2, h3, h4, h5, h6, h7] k ⟨rfl, hu⟩
              have hnext := rdAll_succ ws [h0, h1, h2, h3, h4, h5, h6, h7] k
              generalize hv : rdAll ws [h0, h1, h2, h3, h4, h5, h6, h7] k = v at hV hok hnext
              clear hv
              obtain ⟨h8, hvu⟩ := hok
              obtain ⟨a, b, c, d, e, f, g, hh', rfl⟩ := eight_letters h8
              clear h8
              have HN := hide hnext
              have v0 := hV.cell (i := 0) (by simp)
              have v1 := hV.cell (i := 1) (by simp)
              have v2 := hV.cell (i := 2) (by simp)
              have v3 := hV.cell (i := 3) (by simp)
              have v4 := hV.cell (i := 4) (by simp)
              have v5 := hV.cell (i := 5) (by simp)
              have v6 := hV.cell (i := 6) (by simp)
              have v7 := hV.cell (i := 7) (by simp)
              simp at v0 v1 v2 v3 v4 v5 v6 v7
              have HV := hide hV
              clear hnext hV
              have ix := unhide HX k wr hlt3
              have tk := (TT.upd ur (by omega) (by omega)).table k hlt3
              obtain ⟨t0, t0'⟩ := kTab_u32.at k
              obtain ⟨x0, x0'⟩ := hwu.at k
              change wr.cell? _ = some (.int .u32 (wd kTab k)) at tk
              generalize hKK : wd kTab k = kk at tk t0 t0'
              generalize hWK : wd ws k = wk at ix x0 x0'
              have b0 := hvu a (by simp)
              have b1 := hvu b (by simp)
              have b2 := hvu c (by simp)
              have b3 := hvu d (by simp)
              have b4 := hvu e (by simp)
              have b5 := hvu f (by simp)
              have b6 := hvu g (by simp)
              have b7 := hvu hh' (by simp)
              obtain ⟨b40, b41⟩ := b4
              have BB := hide (And.intro b0 (And.intro b1 (And.intro b2 (And.intro b3 (And.intro b5 (And.intro b6 b7))))))
              clear b0 b1 b2 b3 b5 b6 b7
              have hk0 : (k : Int) < 64 := by omega
              clear hvu
              obtain ⟨wq, rfl⟩ : ∃ wq : World, wq = wr := ⟨_, rfl⟩
              go_wp2_with fail
              go_quiet (fail)
              clear v0 v1 v2 v3 v4 v5 v6 ix
              obtain ⟨T0, T1⟩ := turnsI_bd e [6, 11, 25]
              obtain ⟨p0, p1⟩ := bits_u32 .xor (bits .and .u32 e f) (bits .and .u32 (bits .xor .u32 4294967295 e) g)
              generalize hTE : turnsI e [6, 11, 25] = te at T0 T1
              generalize hPE : bits .xor .u32 (bits .and .u32 e f) (bits .and .u32 (bits .xor .u32 4294967295 e) g) = p at p0 p1
              have hone : oneI e f g hh' (kTab.getD k 0) (wd ws k) = (hh' + te + p + kk + wk) % 4294967296 := by
                unfold oneI chI
                rw [hTE, hPE, hWK, show kTab.getD k 0 = kk from hKK]
              clear hKK hWK
              obtain ⟨one, hOE⟩ : ∃ one : Int, one = (hh' + te + p + kk + wk) % 4294967296 := ⟨_, rfl⟩
              rw [← hOE] at hone
              have HONE := hide hone
              clear hone
              have h06 : IntKind.u32.wrap (hh' + te) = (hh' + te) % 4294967296 := by rw [IntKind.wrap_u32]
              have h07 : IntKind.u32.wrap ((hh' + te) % 4294967296 + p) = (hh' + te + p) % 4294967296 := by rw [IntKind.wrap_u32]; omega
              have h08 : IntKind.u32.wrap ((hh' + te + p) % 4294967296 + kk) = (hh' + te + p + kk) % 4294967296 := by rw [IntKind.wrap_u32]; omega
              have h09 : IntKind.u32.wrap ((hh' + te + p + kk) % 4294967296 + wk) = one := by rw [IntKind.wrap_u32]; omega
              clear hOE
              have h10 : (k : Int).toNat = k := by omega
              have h11 : IntKind.i64.wrap (k : Int) = (k : Int) := IntWalk.i64_in _ (by omega)
              go_wp2_with fail
              refine wp_dag (by kernel_rfl) [[], [(0, 106)], [], [], [(2, 108), (3, 109)], [(1, 107), (4, 110)], [], [], [(6, 112), (7, 113)], [], [(9, 115)], [], [(10, 116), (11, 117)], [(8, 114), (12, 118)], [(5, 111), (13, 119)], [], [(15, 121)], [(16, 122)], [(14, 120), (17, 123)], [], [(18, 124), (19, 125)], [(20, 126)]] 169 (by rfl) (by kernel_rfl)
                [(0, 106), (1, 107), (2, 108), (3, 109), (4, 110), (5, 111), (6, 112), (7, 113), (8, 114), (9, 115), (10, 116), (11, 117), (12, 118), (13, 119), (14, 120), (15, 121), (16, 122), (17, 123), (18, 124), (19, 125), (20, 126), (21, 23)] (by kernel_rfl) (fun w' => New wq w') New
                (oneE [.pointer (some ⟨w3.heap.size, 7, none⟩), .int .u32 (hh'), .int .u32 (e), undef, .int .u32 (te), .int .u32 ((hh' + te) % 4294967296), .int .u32 (e), .int .u32 (f), .int .u32 (bits .and .u32 e f), .int .u32 (e), .int .u32 (bits .xor .u32 4294967295 e), .int .u32 (g), .int .u32 (bits .and .u32 (bits .xor .u32 4294967295 e) g), .int .u32 (p), .int .u32 ((hh' + te + p) % 4294967296), .int .i64 (k : Int), .pointer (some ⟨1, k, none⟩), .int .u32 (kk), .int .u32 ((hh' + te + p + kk) % 4294967296), .int .u32 (wk), .int .u32 one, .int .u32 one] #[.int .u64 6, .int .u64 11, .int .u64 25]) (((Upd.refl _ wq).drewN _).drew) (fun w => Upd.refl _ w) (fun i v w w' _ _ n h => oneE_new i v n h) ?_ ?_
              · have q7 : ∀ {w' : World}, New wq w' → w'.cell? ⟨w3.heap.size, 7, none⟩ = some (.int .u32 hh') := fun n => n.cell v7 (fun h => h)
                have qt : ∀ {w' : World}, New wq w' → w'.cell? ⟨1, k, none⟩ = some (.int .u32 kk) := fun n => n.cell tk (fun h => h)
                refine DagSteps.plain rfl ?_ (DagSteps.plain rfl ?_ (DagSteps.plain rfl ?_ (DagSteps.plain rfl ?_ (DagSteps.plain rfl ?_ (DagSteps.plain rfl ?_ (DagSteps.plain rfl ?_ (DagSteps.plain rfl ?_ (DagSteps.plain rfl ?_ (DagSteps.plain rfl ?_ (DagSteps.plain rfl ?_ (DagSteps.plain rfl ?_ (DagSteps.plain rfl ?_ (DagSteps.plain rfl ?_ (DagSteps.plain rfl ?_ (DagSteps.plain rfl ?_ (DagSteps.plain rfl ?_ (DagSteps.plain rfl ?_ (DagSteps.plain rfl ?_ (DagSteps.plain rfl ?_ (DagSteps.plain rfl ?_ (DagSteps.plain rfl ?_ (DagSteps.nil))))))))))))))))))))))
                · intro vals w' hS _
                  unfold opRun; simp only [putL]; go_simp
                  first | exact ⟨Upd.refl _ _, rfl⟩ | exact ⟨Upd.refl _ _, hS, rfl⟩ | skip
                · rintro vals w' hS ⟨g0, -⟩
                  replace g0 : vals 0 = .pointer (some ⟨w3.heap.size, 7, none⟩) := g0
                  have q7 := q7 hS
                  unfold opRun; simp only [putL]; go_simp
                  first | exact ⟨Upd.refl _ _, rfl⟩ | exact ⟨Upd.refl _ _, hS, rfl⟩ | skip
                · intro vals w' hS _
                  unfold opRun; simp only [putL]; go_simp
                  first | exact ⟨Upd.refl _ _, rfl⟩ | exact ⟨Upd.refl _ _, hS, rfl⟩ | skip
                · intro vals w' hS _
                  unfold opRun; simp only [putL]; go_simp
                  first | exact ⟨(Upd.refl _ _).alloc _, hS.trans ((Upd.refl _ _).alloc _), _, _, rfl, blk_alloc _ _⟩ | skip
                · rintro vals w' hS ⟨g0, g1, -⟩
                  replace g0 : vals 2 = .int .u32 (e) := g0
                  obtain ⟨g3, T3, g1, hb⟩ := g1
                  unfold opRun; simp only [putL]; go_simp
                  refine (turns_three e 6 11 25 _ _ _ (by decide) (by decide) (by decide) b40 b41 hb).mono ?_
                  rintro e2 w2 ⟨rfl, q2⟩
                  exact ⟨_, rfl, q2.upd _, hS.trans (q2.upd _), by rw [hTE]; rfl⟩
                · rintro vals w' hS ⟨g0, g1, -⟩
                  replace g0 : vals 1 = .int .u32 (hh') := g0
                  replace g1 : vals 4 = .int .u32 (te) := g1
                  unfold opRun; simp only [putL]; go_simp
                  first | exact ⟨Upd.refl _ _, rfl⟩ | exact ⟨Upd.refl _ _, hS, rfl⟩ | skip
                · intro vals w' hS _
                  unfold opRun; simp only [putL]; go_simp
                  first | exact ⟨Upd.refl _ _, rfl⟩ | exact ⟨Upd.refl _ _, hS, rfl⟩ | skip
                · intro vals w' hS _
                  unfold opRun; simp only [putL]; go_simp
                  first | exact ⟨Upd.refl _ _, rfl⟩ | exact ⟨Upd.refl _ _, hS, rfl⟩ | skip
                · rintro vals w' hS ⟨g0, g1, -⟩
                  replace g0 : vals 6 = .int .u32 (e) := g0
                  replace g1 : vals 7 = .int .u32 (f) := g1
                  unfold opRun; simp only [putL]; go_simp
                  first | exact ⟨Upd.refl _ _, rfl⟩ | exact ⟨Upd.refl _ _, hS, rfl⟩ | skip
                · intro vals w' hS _
                  unfold opRun; simp only [putL]; go_simp
                  first | exact ⟨Upd.refl _ _, rfl⟩ | exact ⟨Upd.refl _ _, hS, rfl⟩ | skip
                · rintro vals w' hS ⟨g0, -⟩
                  replace g0 : vals 9 = .int .u32 (e) := g0
                  unfold opRun; simp only [putL]; go_simp
                  first | exact ⟨Upd.refl _ _, rfl⟩ | exact ⟨Upd.refl _ _, hS, rfl⟩ | skip
                · intro vals w' hS _
                  unfold opRun; simp only [putL]; go_simp
                  first | exact ⟨Upd.refl _ _, rfl⟩ | exact ⟨Upd.refl _ _, hS, rfl⟩ | skip
                · rintro vals w' hS ⟨g0, g1, -⟩
                  replace g0 : vals 10 = .int .u32 (bits .xor .u32 4294967295 e) := g0
                  replace g1 : vals 11 = .int .u32 (g) := g1
                  unfold opRun; simp only [putL]; go_simp
                  first | exact ⟨Upd.refl _ _, rfl⟩ | exact ⟨Upd.refl _ _, hS, rfl⟩ | skip
                · rintro vals w' hS ⟨g0, g1, -⟩
                  replace g0 : vals 8 = .int .u32 (bits .and .u32 e f) := g0
                  replace g1 : vals 12 = .int .u32 (bits .and .u32 (bits .xor .u32 4294967295 e) g) := g1
                  unfold opRun; simp only [putL]; go_simp
                  first | exact ⟨Upd.refl _ _, rfl⟩ | exact ⟨Upd.refl _ _, hS, rfl⟩ | skip
                · rintro vals w' hS ⟨g0, g1, -⟩
                  replace g0 : vals 5 = .int .u32 ((hh' + te) % 4294967296) := g0
                  replace g1 : vals 13 = .int .u32 (p) := g1
                  unfold opRun; simp only [putL]; go_simp
                  first | exact ⟨Upd.refl _ _, rfl⟩ | exact ⟨Upd.refl _ _, hS, rfl⟩ | skip
                · intro vals w' hS _
                  unfold opRun; simp only [putL]; go_simp
                  first | exact ⟨Upd.refl _ _, rfl⟩ | exact ⟨Upd.refl _ _, hS, rfl⟩ | skip
                · rintro vals w' hS ⟨g0, -⟩
                  replace g0 : vals 15 = .int .i64 (k : Int) := g0
                  unfold opRun; simp only [putL]; go_simp
                  first | exact ⟨Upd.refl _ _, rfl⟩ | exact ⟨Upd.refl _ _, hS, rfl⟩ | skip
                · rintro vals w' hS ⟨g0, -⟩
                  replace g0 : vals 16 = .pointer (some ⟨1, k, none⟩) := g0
                  have qt := qt hS
                  unfold opRun; simp only [putL]; go_simp
                  first | exact ⟨Upd.refl _ _, rfl⟩ | exact ⟨Upd.refl _ _, hS, rfl⟩ | skip
                · rintro vals w' hS ⟨g0, g1, -⟩
                  replace g0 : vals 14 = .int .u32 ((hh' + te + p) % 4294967296) := g0
                  replace g1 : vals 17 = .int .u32 (kk) := g1
                  unfold opRun; simp only [putL]; go_simp
                  first | exact ⟨Upd.refl _ _, rfl⟩ | exact ⟨Upd.refl _ _, hS, rfl⟩ | skip
                · intro vals w' hS _
                  unfold opRun; simp only [putL]; go_simp
                  first | exact ⟨Upd.refl _ _, rfl⟩ | exact ⟨Upd.refl _ _, hS, rfl⟩ | skip
                · rintro vals w' hS ⟨g0, g1, -⟩
                  replace g0 : vals 18 = .int .u32 ((hh' + te + p + kk) % 4294967296) := g0
                  replace g1 : vals 19 = .int .u32 (wk) := g1
                  unfold opRun; simp only [putL]; go_simp
                  first | exact ⟨Upd.refl _ _, rfl⟩ | exact ⟨Upd.refl _ _, hS, rfl⟩ | skip
                · rintro vals w' hS ⟨g0, -⟩
                  replace g0 : vals 20 = .int .u32 one := g0
                  unfold opRun; simp only [putL]; go_simp
                  first | exact ⟨Upd.refl _ _, rfl⟩ | exact ⟨Upd.refl _ _, hS, rfl⟩ | skip
              · intro vals w9 n9 hv9
                have hlast := hv9 21 (by decide)
                replace hlast : vals 21 = .int .u32 one := hlast
                clear hv9
                simp only [putL, hlast]; go_simp
                clear hlast
                have HV9 := (unhide HV).upd n9 (fun h => h)
                have u9 := ur.then n9 (fun _ _ h => h.elim)
                have HVV := hide HV9
                obtain ⟨⟨a0, a0'⟩, -, -, ⟨d0, d0'⟩, -⟩ := unhide BB
                clear HV9 HV v7 tk n9 h06 h07 h08 h09 h10 h11 BB hTE hPE
                obtain ⟨wz, rfl⟩ : ∃ wz : World, wz = w9 := ⟨_, rfl⟩
                go_wp2_with fail
                refine (turns_three a 2 13 22 _ _ _ (by decide) (by decide) (by decide) a0 a0' (by exact blk_alloc _ _)).mono ?_
                rintro e2 w10 ⟨rfl, q10⟩
                have n10 : New wz w10 := (((Upd.refl _ wz)).alloc _).trans (q10.upd _)
                clear q10
                have HV10 := (unhide HVV).upd n10 (fun h => h)
                have u10 := u9.then n10 (fun _ _ h => h.elim)
                generalize hTA : turnsI a [2, 13, 22] = ta
                have k0 : ∀ m : Int, IntKind.u32.wrap (ta + m) = (ta + m) % 4294967296 := fun m => by rw [IntKind.wrap_u32]
                go_upto_region 23 with fail
                generalize hMA : bits .xor .u32 (bits .xor .u32 (bits .and .u32 a b) (bits .and .u32 a c)) (bits .and .u32 b c) = ma
                have htwo : twoI a b c = (ta + ma) % 4294967296 := by unfold twoI majI; rw [hTA, hMA]
                obtain ⟨two, hTO⟩ : ∃ two : Int, two = (ta + ma) % 4294967296 := ⟨_, rfl⟩
                rw [← hTO] at htwo ⊢
                have HTWO := hide htwo
                clear htwo hTA hMA hTO k0
                have k1 : IntKind.u32.wrap (one + two) = (one + two) % 4294967296 := by rw [IntKind.wrap_u32]
                have k2 : IntKind.u32.wrap (d + one) = (d + one) % 4294967296 := by rw [IntKind.wrap_u32]
                have z := fun i => HV10.free i
                have v0 := HV10.cell (i := 0) (by simp)
                have v1 := HV10.cell (i := 1) (by simp)
                have v2 := HV10.cell (i := 2) (by simp)
                have v3 := HV10.cell (i := 3) (by simp)
                have v4 := HV10.cell (i := 4) (by simp)
                have v5 := HV10.cell (i := 5) (by simp)
                have v6 := HV10.cell (i := 6) (by simp)
                have v7 := HV10.cell (i := 7) (by simp)
                simp at v0 v1 v2 v3 v4 v5 v6 v7
                have HVX := hide HV10
                clear HV10
                go_wp2_with fail
                have hst := ((((((((unhide HVX).set 0 ((one + two) % 4294967296)).set 1 a).set 2 b).set 3 c).set 4 ((d + one) % 4294967296)).set 5 e).set 6 f).set 7 g
                have us := (((((((u10.set1 0 (.int .u32 ((one + two) % 4294967296))).set1 1 (.int .u32 a)).set1 2 (.int .u32 b)).set1 3 (.int .u32 c)).set1 4 (.int .u32 ((d + one) % 4294967296))).set1 5 (.int .u32 e)).set1 6 (.int .u32 f)).set1 7 (.int .u32 g)
                have hnx : rdAll ws [h0, h1, h2, h3, h4, h5, h6, h7] (k + 1) = [(one + two) % 4294967296, a, b, c, (d + one) % 4294967296, e, f, g] := by
                  rw [unhide HN]
                  simp only [rdStep]
                  rw [unhide HONE, unhide HTWO]
                go_roundw
                case rel => exact ⟨k + 1, by go_num, by omega, by rw [hnx]; exact hst, us⟩
                case measure => simp [intOf]; omega
            · obtain rfl : k = 64 := by omega
              rw [show ((64 : Nat) : Int) = 64 from rfl]
              have hszu := ur.size
              have vA4 := (vA3.upd nV (fun h => h)).upd ur (by omega)
              have vB4 := (vB3.upd nV (fun h => h)).upd ur (by omega)
              have nn := ((nA.then u3 (by intro q hq h; rw [unhide HAW] at hq; omega)).trans nV).then ur (by intro q hq h; rw [unhide HAW] at hq; omega)
              have hvo := rdAll_ok ws [h0, h1, h2, h3, h4, h5, h6, h7] 64 ⟨rfl, hu⟩
              have HR := hide (show rdAll (scWords s 48) [h0, h1, h2, h3, h4, h5, h6, h7] 64 = rdAll ws [h0, h1, h2, h3, h4, h5, h6, h7] 64 by rw [unhide HWS])
              generalize rdAll ws [h0, h1, h2, h3, h4, h5, h6, h7] 64 = v at hV hvo HR
              clear ur vA3 vB3 u3 nV hrw4 HX vV TT
              obtain ⟨h8, hvu⟩ := hvo
              obtain ⟨w6, rfl⟩ : ∃ w6 : World, w6 = wr := ⟨_, rfl⟩
              go_wp2_with fail
              go_loopw [25, 156] (fun _ iv wr => ∃ i : Nat, iv = .int .i64 (i : Int) ∧ i ≤ 8 ∧ Ints .u32 wr A (adWords v [h0, h1, h2, h3, h4, h5, h6, h7] i) ∧ Upd (fun k => k = A) w6 wr) (fun _ iv _ => 8 - (intOf iv).toNat)
              case atStart => exact ⟨0, rfl, by omega, by rw [adWords_zero]; exact vA4, Upd.refl _ _⟩
              case round =>
                obtain ⟨i, rfl, hi, hA, ur⟩ := hrel
                by_cases hlt4 : i < 8
                · have hok := adWords_ok v [h0, h1, h2, h3, h4, h5, h6, h7] i ⟨rfl, hu⟩
                  have hnext := adWords_succ v [h0, h1, h2, h3, h4, h5, h6, h7] i
                  unfold adStep at hnext
                  have c0 := hA.cell (i := i) (by omega)
                  have z0 := hA.free i
                  have c1 := (hV.upd ur (by omega)).cell (i := i) (by omega)
                  obtain ⟨a0, a0'⟩ := hok.2.at i
                  obtain ⟨b0, b0'⟩ := hvu.at i
                  have hst := hA.set i ((wd (adWords v [h0, h1, h2, h3, h4, h5, h6, h7] i) i + wd v i) % 4294967296)
                  rw [← hnext] at hst
                  have HST := hide hst
                  clear hst hnext hok hA
                  change wr.cell? _ = some (.int .u32 (wd (adWords v [h0, h1, h2, h3, h4, h5, h6, h7] i) i)) at c0
                  change wr.cell? _ = some (.int .u32 (wd v i)) at c1
                  generalize wd (adWords v [h0, h1, h2, h3, h4, h5, h6, h7] i) i = x at c0 a0 a0' HST
                  generalize wd v i = y at c1 b0 b0' HST
                  have h06 : IntKind.u32.wrap (x + y) = (x + y) % 4294967296 := by rw [IntKind.wrap_u32]
                  have h01 : (i : Int) < 8 := by omega
                  have h02 : (i : Int).toNat = i := by omega
                  go_wp2_with fail
                  go_region_law (fail)
                  all_goals
                    have us := ur.set1 i (.int .u32 ((x + y) % 4294967296))
                    have hst2 := unhide HST
                    generalize wr.setCell ⟨A, i, none⟩ (.int .u32 ((x + y) % 4294967296)) = wS at *
                    go_wp2
                    go_roundw
                    case rel => exact ⟨i + 1, by go_num, by omega, (hst2 : Ints .u32 wS _ _), us.drew⟩
                    case measure => simp [intOf]; omega
                · obtain rfl : i = 8 := by omega
                  rw [show ((8 : Nat) : Int) = 8 from rfl]
                  have hfin : digI [h0, h1, h2, h3, h4, h5, h6, h7] s = adWords v [h0, h1, h2, h3, h4, h5, h6, h7] 8 := by unfold digI; rw [unhide HR]
                  have hok := adWords_ok v [h0, h1, h2, h3, h4, h5, h6, h7] 8 ⟨rfl, hu⟩
                  have vB5 := vB4.upd ur (by omega)
                  have nn2 := nn.then ur (by intro q hq h; rw [unhide HAW] at hq; omega)
                  generalize hr : adWords v [h0, h1, h2, h3, h4, h5, h6, h7] 8 = r at hA hok
                  rw [hr] at hfin
                  clear hr HR vA4 vB4 ur nn hV HWS
                  obtain ⟨r8, -⟩ := hok
                  obtain ⟨a, b, c, d, e, f, g, hh', rfl⟩ := eight_letters r8
                  have HF := hide hfin
                  clear r8 hfin
                  have z := fun i => vB5.free i
                  have y0 := vB5.cell (i := 0) (by simp)
                  have y1 := vB5.cell (i := 1) (by simp)
                  have y2 := vB5.cell (i := 2) (by simp)
                  have y3 := vB5.cell (i := 3) (by simp)
                  have y4 := vB5.cell (i := 4) (by simp)
                  have y5 := vB5.cell (i := 5) (by simp)
                  have y6 := vB5.cell (i := 6) (by simp)
                  have y7 := vB5.cell (i := 7) (by simp)
                  have v0 := hA.cell (i := 0) (by simp)
                  have v1 := hA.cell (i := 1) (by simp)
                  have v2 := hA.cell (i := 2) (by simp)
                  have v3 := hA.cell (i := 3) (by simp)
                  have v4 := hA.cell (i := 4) (by simp)
                  have v5 := hA.cell (i := 5) (by simp)
                  have v6 := hA.cell (i := 6) (by simp)
                  have v7 := hA.cell (i := 7) (by simp)
                  simp at v0 v1 v2 v3 v4 v5 v6 v7 y0 y1 y2 y3 y4 y5 y6 y7
                  have HB := hide vB5
                  clear vB5 hA
                  obtain ⟨wy, rfl⟩ : ∃ wy : World, wy = wr := ⟨_, rfl⟩
                  go_wp2_with fail
                  have hB := ((((((((unhide HB).set 0 a).set 1 b).set 2 c).set 3 d).set 4 e).set 5 f).set 6 g).set 7 hh'
                  have nB := ((((((((Upd.refl (fun k => k = A + 1) wy).set1 0 (.int .u32 a)).set1 1 (.int .u32 b)).set1 2 (.int .u32 c)).set1 3 (.int .u32 d)).set1 4 (.int .u32 e)).set1 5 (.int .u32 f)).set1 6 (.int .u32 g)).set1 7 (.int .u32 hh')
                  have nE := nn2.then nB (by intro q hq h; rw [unhide HAW] at hq; omega)
                  replace hB : Ints .u32 _ (A + 1) [a, b, c, d, e, f, g, hh'] := hB
                  obtain ⟨TB, hB⟩ := hB
                  refine bodyPost_ret (results_row_tmp rfl _ _ (A + 1) TB _ _ _ rfl hB Tryz.underlying241 rfl (by exact Tryz.infoW8)) rfl ?_
                  refine ⟨?_, nE⟩
                  rw [unhide HF]
                  rfl

end Go.Proofs.YtjckpgcmfieaoaaGreatDoor
