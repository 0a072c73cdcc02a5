/-
  An end, as New makes it.
-/
import Derived.Test.YtainkaojnhfldaaGreatDoorMaf
import Derived.Test.YtainkaojnhfldaaGreatDoorMcf
import Derived.Test.YtainkaojnhfldaaGreatDoorMbh
import Derived.Test.YtainkaojnhfldaaGreatDoorMci
import Derived.Test.YtainkaojnhfldaaGreatDoorMcc
import Derived.Test.YtainkaojnhfldaaGreatDoorOc1
import Derived.Test.YtainkaojnhfldaaGreatDoorTxt
import Derived.Test.YtainkaojnhfldaaGreatDoorMab
set_option linter.unusedVariables false
set_option linter.unusedSimpArgs false
namespace Go.Proofs.YtainkaojnhfldaaGreatDoor
open Go.RowKit

/-- An end, as New makes it. -/
def Ch.new (s : SetupV) : Ch := ⟨s, .zero, s.ours, s.cap - s.ours, [], List.replicate 17 .zero, [], []⟩
theorem Ch.new_ok {s : SetupV} (h : s.Ok) (m : s.may) : (Ch.new s).Ok := by
  obtain ⟨m1, m2, m3, _, _⟩ := m
  have h1 := h.ours
  have h2 := h.cap
  refine ⟨h, ⟨Int.le_refl _, show (0 : Int) ≤ 65535 by decide⟩, ⟨Int.le_refl _, show (0 : Int) < 4294967296 by decide⟩, ⟨Int.le_refl _, show (0 : Int) < 18446744073709551616 by decide⟩, ⟨Int.le_refl _, show (0 : Int) < 18446744073709551616 by decide⟩, h1, ?_, ?_, Nat.zero_le _, ⟨rfl, ?_⟩, ?_, ?_, ⟨Nat.zero_le _, Nat.zero_le _⟩⟩
  · show 0 ≤ s.cap - s.ours ∧ s.cap - s.ours < _
    omega
  · intro x hx; cases hx
  · intro p hp; rw [List.eq_of_mem_replicate hp]; rfl
  · intro x hx; cases hx
  · intro x hx; cases hx
theorem chS_new {w : World} {g : Nat} {s : SetupV} (h : ChR w g (.new s)) (hs : s.Ok) (m : s.may) : ChS w g (· = g) (Ch.new s) := by
  refine ⟨nilV, nilV, nilV, h.at_, Ch.new_ok hs m, World.ownsRow_nil _ _ _ _, World.ownsRow_nil _ _ _ _, World.ownsRow_nil _ _ _ _, rfl, ?_, ?_, ?_, ?_, ?_⟩
  · intro k hk; simp [nilV, Value.ownBlock] at hk
  · intro k hk; simp [nilV, Value.ownBlock] at hk
  · intro k hk; simp [nilV, Value.ownBlock] at hk
  · intro k hk; simp [nilV, Value.ownBlock] at hk
  · intro k hk; rw [hk]; exact blk_lt h.at_
end Go.Proofs.YtainkaojnhfldaaGreatDoor
namespace Go.Proofs.YtainkaojnhfldaaGreatDoor
open Go.RowKit

attribute [local go_sem ↓ high] ld_hsh_fold st_hsh_fold al_hsh_fold bd_hsh_fold
attribute [local go_sem] ld_hsh st_hsh al_hsh rowN_drew
theorem bd_hsh1T (x : Int) (w : World) : (bdHsh #[(0, .int .u8 x)]).run Tryz.prog w = .ok (.agg (hshV (x :: List.replicate 31 0)).toArray) w := run_build w _ _ _ (by kernel_rfl)
-- the two setups
def seedIT (x : Int) : List Int := x :: List.replicate 31 0
def setAT (ours cap : Int) : SetupV := ⟨9, cap, ours, seedIT 3, ⟨#[107]⟩, ⟨#[108]⟩⟩
def setBT (ours cap : Int) : SetupV := ⟨9, cap, IntKind.u64.wrap (cap - ours), seedIT 4, ⟨#[108]⟩, ⟨#[107]⟩⟩
theorem setA_okT {ours cap : Int} (h1 : 0 ≤ ours ∧ ours < 18446744073709551616) (h2 : 0 ≤ cap ∧ cap < 18446744073709551616) : (setAT ours cap).Ok := ⟨by show (0 : Int) ≤ 9 ∧ (9 : Int) < 4294967296; decide, h2, h1, rfl⟩
theorem setB_okT {ours cap : Int} (h2 : 0 ≤ cap ∧ cap < 18446744073709551616) : (setBT ours cap).Ok := ⟨by show (0 : Int) ≤ 9 ∧ (9 : Int) < 4294967296; decide, h2, u64_mod _, rfl⟩
def bdSetT (p : Array (Nat × Value)) : Sem Value := Instr.build 34 p
theorem bd_set_foldT (p : Array (Nat × Value)) : Instr.build 34 p = bdSetT p := rfl
theorem bd_setAT (ours cap : Int) (w : World) : (bdSetT #[(0, .int .u32 9), (1, .int .u64 cap), (2, .int .u64 ours), (3, .agg (hshV (seedIT 3)).toArray), (4, .string ⟨#[107]⟩), (5, .string ⟨#[108]⟩)]).run Tryz.prog w = .ok (.agg (setAT ours cap).cells.toArray) w := run_build w _ _ _ (by kernel_rfl)
theorem bd_setBT (o cap : Int) (w : World) : (bdSetT #[(0, .int .u32 9), (1, .int .u64 cap), (2, .int .u64 o), (3, .agg (hshV (seedIT 4)).toArray), (4, .string ⟨#[108]⟩), (5, .string ⟨#[107]⟩)]).run Tryz.prog w = .ok (.agg (SetupV.cells ⟨9, cap, o, seedIT 4, ⟨#[108]⟩, ⟨#[107]⟩⟩).toArray) w := run_build w _ _ _ (by kernel_rfl)
def bdSt2T (p : Array (Nat × Value)) : Sem Value := Instr.build 80 p
theorem bd_st2_foldT (p : Array (Nat × Value)) : Instr.build 80 p = bdSt2T p := rfl
def sets2T (a b : SetupV) : List Value := a.cells ++ b.cells
theorem Tryz.infoSt2T : (Tryz.prog.info? 80).map (·.size) = some 74 := by kernel_rfl
def stSt2T (x v : Value) : Sem Unit := Instr.storeAt 80 x v
theorem st_st2_foldT (x v : Value) : Instr.storeAt 80 x v = stSt2T x v := rfl
theorem st_st2T (b o : Nat) (A : Array Value) (w : World) : (stSt2T (.pointer (some ⟨b, o, none⟩)) (.agg A)).run Tryz.prog w = if stOk w b o 74 A = true then .ok () (w.setCells b o A.toList) else slowSt Tryz.prog 80 w b o A :=
  run_storeAt_row 80 74 Tryz.infoSt2T b o A w
def zSt2T : List Value := zSetup ++ zSetup
def alSt2T : Sem Value := Instr.alloc 80 true (.tuple #[])
theorem al_st2_foldT : Instr.alloc 80 true (.tuple #[]) = alSt2T := rfl
theorem al_st2T (w : World) : alSt2T.run Tryz.prog w = .ok (.pointer (some ⟨w.heap.size, 0, none⟩)) (w.alloc (.cells zSt2T.toArray 80)) := by kernel_rfl
theorem bd_st2T (o1 c1 o2 c2 : Int) (w : World) : (bdSt2T #[(0, .agg (setAT o1 c1).cells.toArray), (1, .agg (SetupV.cells ⟨9, c2, o2, seedIT 4, ⟨#[108]⟩, ⟨#[107]⟩⟩).toArray)]).run Tryz.prog w = .ok (.agg (sets2T (setAT o1 c1) ⟨9, c2, o2, seedIT 4, ⟨#[108]⟩, ⟨#[107]⟩⟩).toArray) w := run_build w _ _ _ (by kernel_rfl)
theorem SetupV.oneT (s : SetupV) : ∀ v ∈ s.cells, v.oneCell' = true := by
  intro v hv
  simp only [SetupV.cells, List.mem_cons, List.mem_append, List.mem_map, List.not_mem_nil, or_false] at hv
  rcases hv with rfl | rfl | rfl | ⟨n, _, rfl⟩ | rfl | rfl <;> rfl
/-- Two setups in a block. -/
structure St2T (w : World) (b : Nat) (s t : SetupV) : Prop where
  at_ : w.heap[b]? = some (.cells (sets2T s t).toArray 80 (0, 0))
  l1 : s.seed.length = 32
  l2 : t.seed.length = 32
theorem sets2_lenT {s t : SetupV} (h1 : s.seed.length = 32) (h2 : t.seed.length = 32) : (sets2T s t).length = 74 := by unfold sets2T; rw [List.length_append, s.len h1, t.len h2]
theorem St2T.upd {S : Nat → Prop} {w w' : World} {b : Nat} {s t : SetupV} (a : St2T w b s t) (u : Upd S w w') (n : ¬ S b) : St2T w' b s t := ⟨u.old a.at_ n, a.l1, a.l2⟩
theorem St2T.new {w w' : World} {b : Nat} {s t : SetupV} (a : St2T w b s t) (u : New w w') : St2T w' b s t := a.upd u (fun h => h)
theorem St2T.row0 {w : World} {b : Nat} {s t : SetupV} (a : St2T w b s t) : rowN w b 0 37 = some s.cells.toArray := by
  rw [rowN_blk a.at_ 0 37 (by rw [List.size_toArray, sets2_lenT a.l1 a.l2]; omega)]
  congr 1
  apply Array.ext'
  rw [Array.toList_extract]
  show List.extract (s.cells ++ t.cells) 0 37 = s.cells
  rw [List.extract_eq_take_drop, List.drop_zero, List.take_append_of_le_length (by rw [s.len a.l1]; exact Nat.le_refl _), List.take_of_length_le (by rw [s.len a.l1]; exact Nat.le_refl _)]
theorem St2T.row1 {w : World} {b : Nat} {s t : SetupV} (a : St2T w b s t) : rowN w b 37 37 = some t.cells.toArray := by
  rw [rowN_blk a.at_ 37 37 (by rw [List.size_toArray, sets2_lenT a.l1 a.l2]; omega)]
  congr 1
  apply Array.ext'
  rw [Array.toList_extract]
  show List.extract (s.cells ++ t.cells) 37 74 = t.cells
  rw [List.extract_eq_take_drop, drop_app (s.len a.l1), List.take_of_length_le (by rw [t.len a.l2]; exact Nat.le_refl _)]
theorem st2_freshT {w : World} {b : Nat} (h : w.heap[b]? = some (.cells zSt2T.toArray 80 (0, 0))) {s t : SetupV} (h1 : s.seed.length = 32) (h2 : t.seed.length = 32) :
    stOk w b 0 74 (sets2T s t).toArray = true ∧ St2T (w.setCells b 0 (sets2T s t)) b s t := by
  have hl := sets2_lenT h1 h2
  refine ⟨stOk_all (C := zSt2T.toArray) h (by rw [hl]; rfl) (fun v hv => (List.mem_append.1 hv).elim (s.oneT v) (t.oneT v)), ⟨?_, h1, h2⟩⟩
  rw [blk_setCells h 0 _]
  exact congrArg (fun z => some (Obj.cells z 80 (0, 0))) (layIn_whole zSt2T.toArray (sets2T s t) (by rw [hl]; rfl))
attribute [local go_sem ↓ high] bd_set_foldT bd_st2_foldT st_st2_foldT al_st2_foldT
attribute [local go_sem] bd_st2T st_st2T al_st2T bd_setAT bd_setBT
set_option maxRecDepth 100000 in
set_option maxHeartbeats 1000000 in
theorem setups_anyT (ours cap : Int) (w : World) : Calls Tryz.prog 38 #[.int .u64 ours, .int .u64 cap] w (Makes (.agg (sets2T (setAT ours cap) (setBT ours cap)).toArray) w) := by
  go_enter Tryz.func38, Tryz.ntmps38
  go_upto_region 1 with fail
  have hB := blk_alloc w (.cells zSt2T.toArray 80)
  have n1 : New w (w.alloc (.cells zSt2T.toArray 80)) := (Upd.refl _ _).alloc _
  generalize w.alloc (.cells zSt2T.toArray 80) = w1 at hB n1 ⊢
  obtain ⟨B, hBe⟩ : ∃ B, B = w.heap.size := ⟨_, rfl⟩
  rw [← hBe] at hB ⊢
  have hBl : w.heap.size ≤ B := by omega
  clear hBe
  obtain ⟨hst, hF⟩ := st2_freshT hB (s := setAT ours cap) (t := setBT ours cap) rfl rfl
  have hseb : setBT ours cap = ⟨9, cap, IntKind.u64.wrap (cap - ours), seedIT 4, ⟨#[108]⟩, ⟨#[107]⟩⟩ := rfl
  have h1 := fun W => bd_hsh1T 3 W
  have h2 := fun W => bd_hsh1T 4 W
  have e1 : (3 : Int) :: List.replicate 31 0 = seedIT 3 := rfl
  have e2 : (4 : Int) :: List.replicate 31 0 = seedIT 4 := rfl
  rw [e1] at h1
  rw [e2] at h2
  have HF := hide hF
  have HN := hide (n1.then (upd_sets (w := w1) (b := B) (sets2T (setAT ours cap) (setBT ours cap))) (fun i hi e => by omega))
  clear hF hB n1 e1 e2
  rw [hseb] at hst HF HN
  have HS := hide hseb
  clear hseb
  go_wp2_with fail
  have hF := unhide HF
  rw [unhide HS]
  exact bodyPost_ret (results_cell_row rfl _ _ B _ _ _ _ rfl hF.at_ Tryz.underlying80 rfl (by rw [List.size_toArray, sets2_lenT hF.l1 hF.l2]; exact Tryz.infoSt2T)) rfl ⟨rfl, unhide HN⟩

end Go.Proofs.YtainkaojnhfldaaGreatDoor
namespace Go.Proofs.YtainkaojnhfldaaGreatDoor
open Go.RowKit

attribute [local go_sem ↓ high] ld_hsh_fold st_hsh_fold al_hsh_fold
attribute [local go_sem] ld_hsh st_hsh al_hsh rowN_drew
def sum4 (s : ByteArray) : ByteArray := strOfNums ((sumI s).take 4)
theorem sum4_size (s : ByteArray) : (sum4 s).size = 4 := by
  unfold sum4
  rw [strOfNums_size, List.length_take, sumI_len]
  rfl
set_option maxRecDepth 100000 in
set_option maxHeartbeats 1000000 in
theorem jsum_any (s : ByteArray) (w : World) (hs : s.size ≤ 1000000000) (hT : Tabs w) :
    Calls Tryz.prog 121 #[.string s] w (Makes (.string (sum4 s)) w) := by
  have hsum : Calls Tryz.prog 131 #[.string s] w fun e w' => e = .returned (.agg (hshV (sumI s)).toArray) ∧ New w w' := sum_any s w hs hT
  have hl := sumI_len s
  unfold sum4
  generalize sumI s = h at *
  go_enter Tryz.func121, Tryz.ntmps121
  go_wp2_with fail
  refine hsum.mono ?_
  rintro e w1 ⟨rfl, n1⟩
  obtain ⟨hst, hH, nH⟩ := hs_fresh w1 h hl
  have N2 := hide (n1.trans nH)
  clear hsum n1 nH
  go_upto_region 2 with fail
  change Code.wp _ _ _ _ (hsNew w1 h)
  generalize hsNew w1 h = w2 at hH N2 ⊢
  generalize w1.heap.size = B at hH ⊢
  clear hst
  have hst : (convert 146 9 (.slice (some ⟨B, 0, none⟩) 4 32)).run Tryz.prog w2 = .ok (.string (strOfNums (h.take 4))) w2 := by
    refine run_convert_bytes_arg w2 146 5 Tryz.underlying146 Tryz.underlying5 B 0 4 32 (h.take 4) (by rw [List.length_take]; omega) (fun i hi => ?_) 9 Tryz.underlying9
    have hli : i < h.length := by omega
    rw [Nat.zero_add, blk_cell hH.at_ i, List.getElem?_toArray]
    unfold hshV
    rw [List.getElem?_map, List.getElem?_eq_getElem hli]
    simp [List.getD, List.getElem?_eq_getElem hli, List.getElem?_take, hi]
  generalize hqe : strOfNums (h.take 4) = q at hst
  have HQE := hide hqe
  clear hH hqe
  go_wp2_with fail
  go_ret
  exact ⟨by rw [unhide HQE]; rfl, unhide N2⟩
end Go.Proofs.YtainkaojnhfldaaGreatDoor
namespace Go.Proofs.YtainkaojnhfldaaGreatDoor
open Go.RowKit

theorem results_tmp4 {fn : Func} {t u v x : Tmp} (h : fn.results = #[.tmp t, .tmp u, .tmp v, .tmp x]) (tmps : Array Value) (P : Program) (w : World) :
    (results fn tmps).run P w = .ok (.tuple #[tmps.getD t undef, tmps.getD u undef, tmps.getD v undef, tmps.getD x undef]) w := by
  simp [results, h]
set_option maxHeartbeats 1000000 in
theorem get_nil (w : World) : Calls Tryz.prog 86 #[.string ⟨#[]⟩] w (Reads (.tuple #[.int .u64 0, .string ⟨#[]⟩, .int .i64 0, .int .i64 3]) w) := by
  go_enter Tryz.func86, Tryz.ntmps86
  go_wp2_with fail
  refine bodyPost_ret (results_tmp4 rfl _ _ _) rfl ?_
  exact ⟨rfl, Q.refl _⟩

structure JourV where
  addr : Value
  buf : Value
  many : Int
  fused : Bool
  fuse : Int
  off : Bool
def JourV.cells (j : JourV) : List Value := [j.addr, j.buf, .int .i64 j.many, .bool j.fused, .int .i64 j.fuse, .bool j.off]
def JourV.new : JourV := ⟨.pointer none, nilV, 0, false, 0, false⟩
def JoR (w : World) (g : Nat) (j : JourV) : Prop := w.heap[g]? = some (.cells j.cells.toArray 171 (0, 0))

set_option maxHeartbeats 1000000 in
theorem recover_nil (w : World) : Calls Tryz.prog 58 #[.string ⟨#[]⟩] w fun e w' => ∃ g, e = .returned (.tuple #[.pointer (some ⟨g, 0, none⟩), nilV]) ∧ w.heap.size ≤ g ∧ JoR w' g .new ∧ New w w' := by
  go_enter Tryz.func58, Tryz.ntmps58
  go_wp2_with fail
  have hj : JoR (w.alloc (.cells #[.pointer none, .slice none 0 0, .int .i64 0, .bool false, .int .i64 0, .bool false] 171)) w.heap.size .new := blk_alloc _ _
  have n0 : New w (w.alloc (.cells #[.pointer none, .slice none 0 0, .int .i64 0, .bool false, .int .i64 0, .bool false] 171)) := (Upd.refl _ _).alloc _
  generalize w.alloc _ = w1 at hj n0 ⊢
  go_loopw [0, 5] (fun sv lv wr => sv = .string ⟨#[]⟩ ∧ lv = .slice none 0 0 ∧ wr = w1) (fun _ _ _ => 0)
  case atStart => exact ⟨rfl, rfl, rfl⟩
  case round =>
    obtain ⟨rfl, rfl, rfl⟩ := hrel
    go_wp2_with fail
    refine (get_nil _).mono ?_
    rintro e w2 ⟨rfl, q2⟩
    have hj' : JoR w2 w.heap.size .new := q2.old hj
    have n2 := n0.trans (q2.upd _)
    clear q2 hj n0
    go_wp2_with fail
    go_ret2
    exact ⟨_, rfl, Nat.le_refl _, hj', n2⟩

end Go.Proofs.YtainkaojnhfldaaGreatDoor
