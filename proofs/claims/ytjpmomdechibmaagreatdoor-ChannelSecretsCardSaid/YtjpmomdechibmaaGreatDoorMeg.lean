/-
  seal.Of, seal.Opens.
-/
import Derived.Test.YtjpmomdechibmaaGreatDoorMcj
import Derived.Test.YtjpmomdechibmaaGreatDoorMec
import Derived.Test.YtjpmomdechibmaaGreatDoorShR4
namespace Go.Proofs.YtjpmomdechibmaaGreatDoor
set_option linter.unusedVariables false
set_option linter.unusedSimpArgs false
open Go.RowKit

attribute [local go_sem ↓ high] ld_hsh_fold st_hsh_fold al_hsh_fold bd_hsh_fold eq_hsh_fold
attribute [local go_sem] ld_hsh st_hsh al_hsh bd_hsh rowN_drew

def ofI (p : List Int) : List Int := sumI (strOfNums p)
def opensB (p h : List Int) : Bool := ofI p == h
set_option maxRecDepth 100000 in
set_option maxHeartbeats 1000000 in
theorem sealOf_any (p : List Int) (hp : p.length = 32) (w : World) (hT : Tabs w) :
    Calls Tryz.prog 78 #[.agg (hshV p).toArray] w (Makes (.agg (hshV (ofI p)).toArray) w) := by
  have hl : (ofI p).length = 32 := sumI_len _
  go_enter Tryz.func78, Tryz.ntmps78
  go_upto_region 1 with fail
  have hA := (hs_alloc w p hp).new ((Upd.refl _ _).alloc (.cells (hshV z32i).toArray 28))
  have hB := hs_alloc (w.alloc (.cells (hshV p).toArray 28)) z32i z32i_len
  rw [World.size_alloc] at hB
  have n1 : New w ((w.alloc (.cells (hshV p).toArray 28)).alloc (.cells (hshV z32i).toArray 28)) := ((Upd.refl _ _).alloc _).alloc _
  generalize (w.alloc (.cells (hshV p).toArray 28)).alloc (.cells (hshV z32i).toArray 28) = w1 at hA hB n1 ⊢
  obtain ⟨A, hAe⟩ : ∃ A, A = w.heap.size := ⟨_, rfl⟩
  obtain ⟨B, hBe⟩ : ∃ B, B = w.heap.size + 1 := ⟨_, rfl⟩
  rw [← hBe] at hB ⊢
  rw [← hAe] at hA ⊢
  have hBl : w.heap.size ≤ B := by omega
  clear hAe hBe
  have hconv : (convert 111 9 (.slice (some ⟨A, 0, none⟩) 32 32)).run Tryz.prog w1 = .ok (.string (strOfNums p)) w1 :=
    run_string_block w1 _ _ _ Tryz.underlying111 Tryz.underlying5 Tryz.underlying9 A 32 _ _ _ 32 hp hA.at_
  have hsum : Calls Tryz.prog 84 #[.string (strOfNums p)] w1 (fun e w' => e = .returned (.agg (hshV (ofI p)).toArray) ∧ New w1 w') := sum_any (strOfNums p) w1 (by rw [strOfNums_size, hp]; omega) (hT.new n1)
  have HB := hide hB
  clear hA hB
  generalize ofI p = K at *
  go_wp2_with fail
  refine hsum.mono ?_
  rintro e w2 ⟨rfl, n2⟩
  have hB2 := (unhide HB).new n2
  have hst := hB2.stOk K hl
  have HF := hide (hB2.put K hl)
  have HN := hide ((n1.trans n2).then (upd_sets (w := w2) (b := B) (hshV K)) (fun i hi e => by omega))
  clear hB2 n1 n2 hsum hconv
  go_wp2_with fail
  have hF := unhide HF
  exact bodyPost_ret (results_cell_row rfl _ _ B _ _ _ _ rfl hF.at_ Tryz.underlying28 rfl (by rw [List.size_toArray, hshV_len, hl]; exact Tryz.infoHsh)) rfl ⟨rfl, unhide HN⟩

set_option maxRecDepth 100000 in
set_option maxHeartbeats 1000000 in
theorem opens_any (p h : List Int) (hp : p.length = 32) (hh : h.length = 32) (hb : Bytes h) (w : World) (hT : Tabs w) :
    Calls Tryz.prog 48 #[.agg (hshV p).toArray, .agg (hshV h).toArray] w (Makes (.bool (opensB p h)) w) := by
  have hl : (ofI p).length = 32 := sumI_len _
  have hbo : Bytes (ofI p) := sumI_bytes _
  go_enter Tryz.func48, Tryz.ntmps48
  go_upto_region 1 with fail
  have hA := (hs_alloc w p hp).new ((Upd.refl _ _).alloc (.cells (hshV h).toArray 28))
  have hB := hs_alloc (w.alloc (.cells (hshV p).toArray 28)) h hh
  rw [World.size_alloc] at hB
  have n1 : New w ((w.alloc (.cells (hshV p).toArray 28)).alloc (.cells (hshV h).toArray 28)) := ((Upd.refl _ _).alloc _).alloc _
  generalize (w.alloc (.cells (hshV p).toArray 28)).alloc (.cells (hshV h).toArray 28) = w1 at hA hB n1 ⊢
  obtain ⟨A, hAe⟩ : ∃ A, A = w.heap.size := ⟨_, rfl⟩
  obtain ⟨B, hBe⟩ : ∃ B, B = w.heap.size + 1 := ⟨_, rfl⟩
  rw [← hBe] at hB ⊢
  rw [← hAe] at hA ⊢
  clear hAe hBe
  have heq := fun W => eq_hsh hl hh hbo hb W
  have hof := fun W (hW : Tabs W) => sealOf_any p hp W hW
  have ho : opensB p h = (ofI p == h) := rfl
  have HO := hide ho
  clear ho
  generalize ofI p = K at *
  have rA : rowN w1.drew A 0 32 = some (hshV p).toArray := hA.row
  have rB : rowN w1.drew B 0 32 = some (hshV h).toArray := hB.row
  have HB := hide hB
  refine wp_plan (fun w' => rowN w' B 0 32 = some (hshV h).toArray) [2] (.of [0, 1, 2, 3, 4]) (by kernel_rfl) (by kernel_rfl) rB ?_
  simp only [Plan.of]
  clear hA hB
  go_wp2_with (first | ((with_reducible apply qp); rfl; rfl; rfl; intro _ _ _) | ((with_reducible apply qc); rfl; rfl; rfl; with_reducible assumption; intro _ hC _ _) | ((with_reducible apply qr); rfl; rfl; intro _ _) | ((with_reducible apply qd); rfl; rfl; decide +kernel; intro _ _) | ((with_reducible apply qe); rfl; rfl; intro _ _) | (with_reducible rfl) | (with_reducible apply qn))
  refine (hof w1.drew (hT.new (n1.drew))).mono ?_
  rintro e w2 ⟨rfl, n2⟩
  have n2' : New w1 w2 := n2.ofDrew
  have rB2 := ((unhide HB).new n2').row
  have HN := hide (n1.trans n2')
  clear hof rA rB n2 n2' n1
  go_wp2_with (first | ((with_reducible apply qp); rfl; rfl; rfl; intro _ _ _) | ((with_reducible apply qc); rfl; rfl; rfl; with_reducible assumption; intro _ hC _ _) | ((with_reducible apply qr); rfl; rfl; intro _ _) | ((with_reducible apply qd); rfl; rfl; decide +kernel; intro _ _) | ((with_reducible apply qe); rfl; rfl; intro _ _) | (with_reducible rfl) | (with_reducible apply qn))
  refine ⟨rB2, ?_⟩
  go_wp2_with (first | ((with_reducible apply qp); rfl; rfl; rfl; intro _ _ _) | ((with_reducible apply qc); rfl; rfl; rfl; with_reducible assumption; intro _ hC _ _) | ((with_reducible apply qr); rfl; rfl; intro _ _) | ((with_reducible apply qd); rfl; rfl; decide +kernel; intro _ _) | ((with_reducible apply qe); rfl; rfl; intro _ _) | (with_reducible rfl) | (with_reducible apply qn))
  go_ret
  exact ⟨by rw [unhide HO]; rfl, unhide HN⟩

end Go.Proofs.YtjpmomdechibmaaGreatDoor

/-
  Law 13: setups, preimages; the reference's Of; a new end.
-/
namespace Go.Proofs.YtjpmomdechibmaaGreatDoor
set_option linter.unusedVariables false
set_option linter.unusedSimpArgs false
open Go.RowKit

attribute [local go_sem ↓ high] ld_hsh_fold st_hsh_fold al_hsh_fold bd_hsh_fold
attribute [local go_sem] ld_hsh st_hsh al_hsh rowN_drew

theorem bd_hsh1 (x : Int) (w : World) : (bdHsh #[(0, .int .u8 x)]).run Tryz.prog w = .ok (.agg (hshV (x :: List.replicate 31 0)).toArray) w := run_build w _ _ _ (by kernel_rfl)
theorem bd_hsh2 (x y : Int) (w : World) : (bdHsh #[(0, .int .u8 x), (1, .int .u8 y)]).run Tryz.prog w = .ok (.agg (hshV (x :: y :: List.replicate 30 0)).toArray) w := run_build w _ _ _ (by kernel_rfl)
def preI (p : Int) : List Int := (p % 4) :: 9 :: List.replicate 30 0
theorem preI_len (p : Int) : (preI p).length = 32 := rfl
theorem preI_bytes (p : Int) : Bytes (preI p) := by
  intro b hb
  unfold preI at hb
  simp only [List.mem_cons, List.mem_replicate] at hb
  rcases hb with rfl | rfl | ⟨_, rfl⟩ <;> omega
set_option maxRecDepth 100000 in
set_option maxHeartbeats 1000000 in
theorem preimage_any (p : Int) (hp : 0 ≤ p ∧ p ≤ 255) (w : World) : Calls Tryz.prog 25 #[.int .u8 p] w (Makes (.agg (hshV (preI p)).toArray) w) := by
  go_enter Tryz.func25, Tryz.ntmps25
  go_upto_region 1 with fail
  have hB := hs_alloc w z32i z32i_len
  have n1 : New w (w.alloc (.cells (hshV z32i).toArray 28)) := (Upd.refl _ _).alloc _
  generalize w.alloc (.cells (hshV z32i).toArray 28) = w1 at hB n1 ⊢
  obtain ⟨B, hBe⟩ : ∃ B, B = w.heap.size := ⟨_, rfl⟩
  rw [← hBe] at hB ⊢
  have hBl : w.heap.size ≤ B := by omega
  clear hBe
  have hm : p.tmod 4 = p % 4 := Int.tmod_eq_emod_of_nonneg hp.1
  have hbd := fun W => bd_hsh2 (p % 4) 9 W
  have hst := hB.stOk _ (preI_len p)
  have HF := hide (hB.put _ (preI_len p))
  have HN := hide (n1.then (upd_sets (w := w1) (b := B) (hshV (preI p))) (fun i hi e => by omega))
  have hpe : (p % 4 :: 9 :: List.replicate 30 0) = preI p := rfl
  rw [hpe] at hbd
  clear hB n1 hpe
  generalize preI p = K at *
  go_wp2_with fail
  have hF := unhide HF
  exact bodyPost_ret (results_cell_row rfl _ _ B _ _ _ _ rfl hF.at_ Tryz.underlying28 rfl (by rw [List.size_toArray, hshV_len, hF.len]; exact Tryz.infoHsh)) rfl ⟨rfl, unhide HN⟩

set_option maxRecDepth 100000 in
set_option maxHeartbeats 1000000 in
theorem refOf_any (p : List Int) (hp : p.length = 32) (w : World) : Calls Tryz.prog 24 #[.agg (hshV p).toArray] w (Makes (.agg (hshV (ofI p)).toArray) w) := by
  have hl : (ofI p).length = 32 := sumI_len _
  go_enter Tryz.func24, Tryz.ntmps24
  go_upto_region 1 with fail
  have hA := (hs_alloc w p hp).new ((Upd.refl _ _).alloc (.cells (hshV z32i).toArray 28))
  have hB := hs_alloc (w.alloc (.cells (hshV p).toArray 28)) z32i z32i_len
  rw [World.size_alloc] at hB
  have n1 : New w ((w.alloc (.cells (hshV p).toArray 28)).alloc (.cells (hshV z32i).toArray 28)) := ((Upd.refl _ _).alloc _).alloc _
  generalize (w.alloc (.cells (hshV p).toArray 28)).alloc (.cells (hshV z32i).toArray 28) = w1 at hA hB n1 ⊢
  obtain ⟨A, hAe⟩ : ∃ A, A = w.heap.size := ⟨_, rfl⟩
  obtain ⟨B, hBe⟩ : ∃ B, B = w.heap.size + 1 := ⟨_, rfl⟩
  rw [← hBe] at hB ⊢
  rw [← hAe] at hA ⊢
  have hBl : w.heap.size ≤ B := by omega
  clear hAe hBe
  have hconv : (convert 111 9 (.slice (some ⟨A, 0, none⟩) 32 32)).run Tryz.prog w1 = .ok (.string (strOfNums p)) w1 :=
    run_string_block w1 _ _ _ Tryz.underlying111 Tryz.underlying5 Tryz.underlying9 A 32 _ _ _ 32 hp hA.at_
  have hsum : Calls Tryz.prog 46 #[.string (strOfNums p)] w1 (fun e w' => e = .returned (.agg (hshV (ofI p)).toArray) ∧ New w1 w') := sumR_any (strOfNums p) w1 (by rw [strOfNums_size, hp]; omega)
  have HB := hide hB
  clear hA hB
  generalize ofI p = K at *
  go_wp2_with fail
  refine hsum.mono ?_
  rintro e w2 ⟨rfl, n2⟩
  have hB2 := (unhide HB).new n2
  have hst := hB2.stOk K hl
  have HF := hide (hB2.put K hl)
  have HN := hide ((n1.trans n2).then (upd_sets (w := w2) (b := B) (hshV K)) (fun i hi e => by omega))
  clear hB2 n1 n2 hsum hconv
  go_wp2_with fail
  have hF := unhide HF
  exact bodyPost_ret (results_cell_row rfl _ _ B _ _ _ _ rfl hF.at_ Tryz.underlying28 rfl (by rw [List.size_toArray, hshV_len, hl]; exact Tryz.infoHsh)) rfl ⟨rfl, unhide HN⟩

/-- An end, as New makes it. -/
def Ch.new (s : SetupV) : Ch := ⟨s, .zero, s.ours, s.cap - s.ours, [], List.replicate 17 .zero, [], []⟩
theorem Ch.new_ok {s : SetupV} (h : s.Ok) (m : s.may) : (Ch.new s).Ok := by
  obtain ⟨m1, m2, m3, _, _⟩ := m
  have h1 := h.ours
  have h2 := h.cap
  refine ⟨h, ⟨Int.le_refl _, show (0 : Int) ≤ 65535 by decide⟩, ⟨Int.le_refl _, show (0 : Int) < 4294967296 by decide⟩, ⟨Int.le_refl _, show (0 : Int) < 18446744073709551616 by decide⟩, ⟨Int.le_refl _, show (0 : Int) < 18446744073709551616 by decide⟩, h1, ?_, ?_, Nat.zero_le _, ⟨rfl, ?_⟩, ?_, ?_, ⟨Nat.zero_le _, Nat.zero_le _⟩⟩
  · show 0 ≤ s.cap - s.ours ∧ s.cap - s.ours < _
    omega
  · intro x hx; cases hx
  · intro p hp; rw [List.eq_of_mem_replicate hp]; rfl
  · intro x hx; cases hx
  · intro x hx; cases hx
theorem Ch.new_shelf (s : SetupV) : ShelfB (Ch.new s) := by
  intro p hp b hb
  rw [List.eq_of_mem_replicate hp] at hb
  have := List.eq_of_mem_replicate hb
  omega
theorem chS_new {w : World} {g : Nat} {s : SetupV} (h : ChR w g (.new s)) (hs : s.Ok) (m : s.may) : ChS w g (· = g) (Ch.new s) := by
  refine ⟨nilV, nilV, nilV, h.at_, Ch.new_ok hs m, World.ownsRow_nil _ _ _ _, World.ownsRow_nil _ _ _ _, World.ownsRow_nil _ _ _ _, rfl, ?_, ?_, ?_, ?_, ?_⟩
  · intro k hk; simp [nilV, Value.ownBlock] at hk
  · intro k hk; simp [nilV, Value.ownBlock] at hk
  · intro k hk; simp [nilV, Value.ownBlock] at hk
  · intro k hk; simp [nilV, Value.ownBlock] at hk
  · intro k hk; rw [hk]; exact blk_lt h.at_

-- the two setups
def seedI (x : Int) : List Int := x :: List.replicate 31 0
def setA (ours cap : Int) : SetupV := ⟨7, cap, ours, seedI 1, ⟨#[97]⟩, ⟨#[98]⟩⟩
def setB (ours cap : Int) : SetupV := ⟨7, cap, IntKind.u64.wrap (cap - ours), seedI 2, ⟨#[98]⟩, ⟨#[97]⟩⟩
theorem setA_ok {ours cap : Int} (h1 : 0 ≤ ours ∧ ours < 18446744073709551616) (h2 : 0 ≤ cap ∧ cap < 18446744073709551616) : (setA ours cap).Ok := ⟨by show (0 : Int) ≤ 7 ∧ (7 : Int) < 4294967296; decide, h2, h1, rfl⟩
theorem setB_ok {ours cap : Int} (h2 : 0 ≤ cap ∧ cap < 18446744073709551616) : (setB ours cap).Ok := ⟨by show (0 : Int) ≤ 7 ∧ (7 : Int) < 4294967296; decide, h2, u64_mod _, rfl⟩
def bdSet (p : Array (Nat × Value)) : Sem Value := Instr.build 57 p
theorem bd_set_fold (p : Array (Nat × Value)) : Instr.build 57 p = bdSet p := rfl
theorem bd_setA (ours cap : Int) (w : World) : (bdSet #[(0, .int .u32 7), (1, .int .u64 cap), (2, .int .u64 ours), (3, .agg (hshV (seedI 1)).toArray), (4, .string ⟨#[97]⟩), (5, .string ⟨#[98]⟩)]).run Tryz.prog w = .ok (.agg (setA ours cap).cells.toArray) w := run_build w _ _ _ (by kernel_rfl)
theorem bd_setB (o cap : Int) (w : World) : (bdSet #[(0, .int .u32 7), (1, .int .u64 cap), (2, .int .u64 o), (3, .agg (hshV (seedI 2)).toArray), (4, .string ⟨#[98]⟩), (5, .string ⟨#[97]⟩)]).run Tryz.prog w = .ok (.agg (SetupV.cells ⟨7, cap, o, seedI 2, ⟨#[98]⟩, ⟨#[97]⟩⟩).toArray) w := run_build w _ _ _ (by kernel_rfl)
def bdSt2 (p : Array (Nat × Value)) : Sem Value := Instr.build 82 p
theorem bd_st2_fold (p : Array (Nat × Value)) : Instr.build 82 p = bdSt2 p := rfl
def sets2 (a b : SetupV) : List Value := a.cells ++ b.cells
theorem Tryz.infoSt2 : (Tryz.prog.info? 82).map (·.size) = some 74 := by kernel_rfl
def stSt2 (x v : Value) : Sem Unit := Instr.storeAt 82 x v
theorem st_st2_fold (x v : Value) : Instr.storeAt 82 x v = stSt2 x v := rfl
theorem st_st2 (b o : Nat) (A : Array Value) (w : World) : (stSt2 (.pointer (some ⟨b, o, none⟩)) (.agg A)).run Tryz.prog w = if stOk w b o 74 A = true then .ok () (w.setCells b o A.toList) else slowSt Tryz.prog 82 w b o A :=
  run_storeAt_row 82 74 Tryz.infoSt2 b o A w
def zSt2 : List Value := zSetup ++ zSetup
def alSt2 : Sem Value := Instr.alloc 82 true (.tuple #[])
theorem al_st2_fold : Instr.alloc 82 true (.tuple #[]) = alSt2 := rfl
theorem al_st2 (w : World) : alSt2.run Tryz.prog w = .ok (.pointer (some ⟨w.heap.size, 0, none⟩)) (w.alloc (.cells zSt2.toArray 82)) := by kernel_rfl
theorem bd_st2 (o1 c1 o2 c2 : Int) (w : World) : (bdSt2 #[(0, .agg (setA o1 c1).cells.toArray), (1, .agg (SetupV.cells ⟨7, c2, o2, seedI 2, ⟨#[98]⟩, ⟨#[97]⟩⟩).toArray)]).run Tryz.prog w = .ok (.agg (sets2 (setA o1 c1) ⟨7, c2, o2, seedI 2, ⟨#[98]⟩, ⟨#[97]⟩⟩).toArray) w := run_build w _ _ _ (by kernel_rfl)
theorem SetupV.one (s : SetupV) : ∀ v ∈ s.cells, v.oneCell' = true := by
  intro v hv
  simp only [SetupV.cells, List.mem_cons, List.mem_append, List.mem_map, List.not_mem_nil, or_false] at hv
  rcases hv with rfl | rfl | rfl | ⟨n, _, rfl⟩ | rfl | rfl <;> rfl
/-- Two setups in a block. -/
structure St2 (w : World) (b : Nat) (s t : SetupV) : Prop where
  at_ : w.heap[b]? = some (.cells (sets2 s t).toArray 82 (0, 0))
  l1 : s.seed.length = 32
  l2 : t.seed.length = 32
theorem sets2_len {s t : SetupV} (h1 : s.seed.length = 32) (h2 : t.seed.length = 32) : (sets2 s t).length = 74 := by unfold sets2; rw [List.length_append, s.len h1, t.len h2]
theorem St2.upd {S : Nat → Prop} {w w' : World} {b : Nat} {s t : SetupV} (a : St2 w b s t) (u : Upd S w w') (n : ¬ S b) : St2 w' b s t := ⟨u.old a.at_ n, a.l1, a.l2⟩
theorem St2.new {w w' : World} {b : Nat} {s t : SetupV} (a : St2 w b s t) (u : New w w') : St2 w' b s t := a.upd u (fun h => h)
theorem St2.row0 {w : World} {b : Nat} {s t : SetupV} (a : St2 w b s t) : rowN w b 0 37 = some s.cells.toArray := by
  rw [rowN_blk a.at_ 0 37 (by rw [List.size_toArray, sets2_len a.l1 a.l2]; omega)]
  congr 1
  apply Array.ext'
  rw [Array.toList_extract]
  show List.extract (s.cells ++ t.cells) 0 37 = s.cells
  rw [List.extract_eq_take_drop, List.drop_zero, List.take_append_of_le_length (by rw [s.len a.l1]; exact Nat.le_refl _), List.take_of_length_le (by rw [s.len a.l1]; exact Nat.le_refl _)]
theorem St2.row1 {w : World} {b : Nat} {s t : SetupV} (a : St2 w b s t) : rowN w b 37 37 = some t.cells.toArray := by
  rw [rowN_blk a.at_ 37 37 (by rw [List.size_toArray, sets2_len a.l1 a.l2]; omega)]
  congr 1
  apply Array.ext'
  rw [Array.toList_extract]
  show List.extract (s.cells ++ t.cells) 37 74 = t.cells
  rw [List.extract_eq_take_drop, drop_app (s.len a.l1), List.take_of_length_le (by rw [t.len a.l2]; exact Nat.le_refl _)]
theorem st2_fresh {w : World} {b : Nat} (h : w.heap[b]? = some (.cells zSt2.toArray 82 (0, 0))) {s t : SetupV} (h1 : s.seed.length = 32) (h2 : t.seed.length = 32) :
    stOk w b 0 74 (sets2 s t).toArray = true ∧ St2 (w.setCells b 0 (sets2 s t)) b s t := by
  have hl := sets2_len h1 h2
  refine ⟨stOk_all (C := zSt2.toArray) h (by rw [hl]; rfl) (fun v hv => (List.mem_append.1 hv).elim (s.one v) (t.one v)), ⟨?_, h1, h2⟩⟩
  rw [blk_setCells h 0 _]
  exact congrArg (fun z => some (Obj.cells z 82 (0, 0))) (layIn_whole zSt2.toArray (sets2 s t) (by rw [hl]; rfl))
attribute [local go_sem ↓ high] bd_set_fold bd_st2_fold st_st2_fold al_st2_fold
attribute [local go_sem] bd_st2 st_st2 al_st2 bd_setA bd_setB
set_option maxRecDepth 100000 in
set_option maxHeartbeats 1000000 in
theorem setups_any (ours cap : Int) (w : World) : Calls Tryz.prog 36 #[.int .u64 ours, .int .u64 cap] w (Makes (.agg (sets2 (setA ours cap) (setB ours cap)).toArray) w) := by
  go_enter Tryz.func36, Tryz.ntmps36
  go_upto_region 1 with fail
  have hB := blk_alloc w (.cells zSt2.toArray 82)
  have n1 : New w (w.alloc (.cells zSt2.toArray 82)) := (Upd.refl _ _).alloc _
  generalize w.alloc (.cells zSt2.toArray 82) = w1 at hB n1 ⊢
  obtain ⟨B, hBe⟩ : ∃ B, B = w.heap.size := ⟨_, rfl⟩
  rw [← hBe] at hB ⊢
  have hBl : w.heap.size ≤ B := by omega
  clear hBe
  obtain ⟨hst, hF⟩ := st2_fresh hB (s := setA ours cap) (t := setB ours cap) rfl rfl
  have hseb : setB ours cap = ⟨7, cap, IntKind.u64.wrap (cap - ours), seedI 2, ⟨#[98]⟩, ⟨#[97]⟩⟩ := rfl
  have h1 := fun W => bd_hsh1 1 W
  have h2 := fun W => bd_hsh1 2 W
  have e1 : (1 : Int) :: List.replicate 31 0 = seedI 1 := rfl
  have e2 : (2 : Int) :: List.replicate 31 0 = seedI 2 := rfl
  rw [e1] at h1
  rw [e2] at h2
  have HF := hide hF
  have HN := hide (n1.then (upd_sets (w := w1) (b := B) (sets2 (setA ours cap) (setB ours cap))) (fun i hi e => by omega))
  clear hF hB n1 e1 e2
  rw [hseb] at hst HF HN
  have HS := hide hseb
  clear hseb
  go_wp2_with fail
  have hF := unhide HF
  rw [unhide HS]
  exact bodyPost_ret (results_cell_row rfl _ _ B _ _ _ _ rfl hF.at_ Tryz.underlying82 rfl (by rw [List.size_toArray, sets2_len hF.l1 hF.l2]; exact Tryz.infoSt2)) rfl ⟨rfl, unhide HN⟩

end Go.Proofs.YtjpmomdechibmaaGreatDoor

/-
  Two ends side by side; what is neither's.
-/
namespace Go.Proofs.YtjpmomdechibmaaGreatDoor
set_option linter.unusedVariables false
set_option linter.unusedSimpArgs false
open Go.RowKit

/-- Two ends, whose blocks are apart, all made since w0. -/
structure Two (w0 w : World) (gA gB : Nat) (SA SB : Nat → Prop) (a b : Ch) : Prop where
  A : ChS w gA SA a
  B : ChS w gB SB b
  geA : ∀ k, SA k → w0.heap.size ≤ k
  geB : ∀ k, SB k → w0.heap.size ≤ k
  sep : ∀ k, SA k → ¬ SB k
  n : New w0 w
section
variable {w0 w w' : World} {gA gB : Nat} {SA SB : Nat → Prop} {a b a' b' : Ch}
theorem Two.new (h : Two w0 w gA gB SA SB a b) (u : New w w') : Two w0 w' gA gB SA SB a b := ⟨h.A.new u, h.B.new u, h.geA, h.geB, h.sep, h.n.trans u⟩
theorem Two.opA (h : Two w0 w gA gB SA SB a b) (hc : ChS w' gA (Fr SA w w') a') (u : Upd SA w w') : Two w0 w' gA gB (Fr SA w w') SB a' b := by
  refine ⟨hc, h.B.upd u (fun k hk e => h.sep k e hk), ?_, h.geB, ?_, h.n.then u (fun i hi e => by have := h.geA i e; omega)⟩
  · rintro k (hk | hk)
    · exact h.geA k hk
    · have := h.n.size
      omega
  · rintro k (hk | hk) hb
    · exact h.sep k hk hb
    · have := h.B.lt k hb
      omega
theorem Two.swap (h : Two w0 w gA gB SA SB a b) : Two w0 w gB gA SB SA b a := ⟨h.B, h.A, h.geB, h.geA, fun k hb ha => h.sep k ha hb, h.n⟩
theorem Two.opB (h : Two w0 w gA gB SA SB a b) (hc : ChS w' gB (Fr SB w w') b') (u : Upd SB w w') : Two w0 w' gA gB SA (Fr SB w w') a b' := (h.swap.opA hc u).swap
theorem apart_ge {S : Nat → Prop} (t : Tb w0) (ge : ∀ k, S k → w0.heap.size ≤ k) : Apart S := by
  obtain ⟨a, b, c, d, e⟩ := t.lt
  exact ⟨fun h => by have := ge _ h; omega, fun h => by have := ge _ h; omega, fun h => by have := ge _ h; omega, fun h => by have := ge _ h; omega, fun h => by have := ge _ h; omega⟩
theorem Two.apA (h : Two w0 w gA gB SA SB a b) (t : Tb w0) : Apart SA := apart_ge t h.geA
theorem Two.apB (h : Two w0 w gA gB SA SB a b) (t : Tb w0) : Apart SB := apart_ge t h.geB
/-- A block that is neither's. -/
structure Off (w : World) (SA SB : Nat → Prop) (K : Nat) : Prop where
  lt : K < w.heap.size
  a : ¬ SA K
  b : ¬ SB K
theorem Off.new {K : Nat} (h : Off w SA SB K) (u : w.heap.size ≤ w'.heap.size) : Off w' SA SB K := ⟨by have := h.lt; omega, h.a, h.b⟩
theorem Off.opA {K : Nat} (h : Off w SA SB K) (u : Upd SA w w') : Off w' (Fr SA w w') SB K := by
  refine ⟨Nat.lt_of_lt_of_le h.lt u.size, ?_, h.b⟩
  rintro (k | k)
  · exact h.a k
  · have := h.lt
    omega
theorem Off.opB {K : Nat} (h : Off w SA SB K) (u : Upd SB w w') : Off w' SA (Fr SB w w') K := by
  refine ⟨Nat.lt_of_lt_of_le h.lt u.size, h.a, ?_⟩
  rintro (k | k)
  · exact h.b k
  · have := h.lt
    omega
theorem Off.fresh {K : Nat} (h : Two w0 w gA gB SA SB a b) (hK : w.heap.size ≤ K) (hl : K < w'.heap.size) : Off w' SA SB K :=
  ⟨hl, fun k => by have := h.A.lt K k; omega, fun k => by have := h.B.lt K k; omega⟩
/-- A store into a block that is neither's. -/
theorem Two.put {K : Nat} (h : Two w0 w gA gB SA SB a b) (o : Off w SA SB K) (hK : w0.heap.size ≤ K) (u : Upd (· = K) w w') : Two w0 w' gA gB SA SB a b :=
  ⟨h.A.upd u (fun k hk e => o.a (e ▸ hk)), h.B.upd u (fun k hk e => o.b (e ▸ hk)), h.geA, h.geB, h.sep, h.n.then u (fun i hi e => by omega)⟩
end
theorem offerH_any (g : Nat) (S : Nat → Prop) (c : Ch) (n : Int) (h : List Int) (ex : Int) (w : World) (hc : ChS w g S c) (hl : h.length = 32) (hb : Bytes h) (hn : 0 ≤ n ∧ n < 18446744073709551616) (hx : -9223372036854775808 ≤ ex ∧ ex ≤ 9223372036854775807) (hfew : c.news.length < 1000000 ∧ c.xs.length < 1000000) :
    Calls Tryz.prog 13 #[.pointer (some ⟨g, 0, none⟩), .int .u64 n, .agg (hshV h).toArray, .int .i64 ex] w fun e w' =>
      e = .returned (.tuple #[.agg (c.offer n (hvec h) ex).2.1.cells.toArray, .int .i64 (c.offer n (hvec h) ex).2.2]) ∧ ChS w' g (Fr S w w') (c.offer n (hvec h) ex).1 ∧ Upd S w w' := by
  have := offer_any g S c n (hvec h) ex w hc hn hx (by rw [hvec_list hl]; exact hb) hfew
  rw [hvec_list hl] at this
  exact this
theorem baseS_any (g : Nat) (S : Nat → Prop) (c : Ch) (w : World) (h : ChS w g S c) : Calls Tryz.prog 21 #[.pointer (some ⟨g, 0, none⟩)] w (Makes (.agg #[.int .u64 c.loc, .int .u64 c.rem]) w) := by
  obtain ⟨lv, nv, av, h⟩ := h
  exact base_any g _ w h.toR
theorem liveS_any (g : Nat) (S : Nat → Prop) (c : Ch) (w : World) (h : ChS w g S c) : Calls Tryz.prog 17 #[.pointer (some ⟨g, 0, none⟩)] w fun e w' => ∃ u, e = .returned u ∧ New w w' ∧ ((∃ a k, u = .slice a 0 k ∧ c.xs = []) ∨ ∃ g' cap, u = .slice (some ⟨g', 0, none⟩) c.xs.length cap ∧ w.heap.size ≤ g' ∧ HeldO w' g' 0 c.xs) := by
  obtain ⟨lv, nv, av, h⟩ := h
  exact live_any g _ c.xs (by have := h.ok.few; omega) w h.toI
theorem SaidO.row0 {base : Nat} {w : World} {v : Value} {m : MsgV} {ms : List MsgV} (h : SaidO base w v (m :: ms)) (hm : m.hash.length = 32) : ∃ g cap, v = .slice (some ⟨g, 0, none⟩) (m :: ms).length cap ∧ base ≤ g ∧ rowN w g 0 38 = some m.cells.toArray ∧ g < w.heap.size := by
  rcases h.2 with ⟨e, e0⟩ | ⟨g, cap, cur, e, hb, hg, hc, _, hs, ht⟩
  · simp at e0
  · refine ⟨g, cap, e, hb, ?_, blk_lt hg⟩
    have hsz : 38 ≤ cur.size := by rw [hs]; simp at hc; omega
    rw [rowN_blk hg 0 38 (by omega)]
    congr 1
    apply Array.ext'
    rw [Array.toList_extract, List.extract_eq_take_drop, List.drop_zero]
    have h1 : (cur.toList.take ((m :: ms).length * 38)).take 38 = ((m :: ms).flatMap MsgV.cells).take 38 := by rw [ht]
    rw [List.take_take, Nat.min_eq_left (by rw [List.length_cons]; omega)] at h1
    show cur.toList.take 38 = m.cells
    rw [h1, List.flatMap_cons, List.take_append_of_le_length (by rw [m.len hm]; exact Nat.le_refl _), List.take_of_length_le (by rw [m.len hm]; exact Nat.le_refl _)]

theorem fld_base0 (a b : Int) (w : World) : (Instr.field 53 (.agg #[.int .u64 a, .int .u64 b]) 0).run Tryz.prog w = .ok (.int .u64 a) w := by kernel_rfl
theorem fld_base1 (a b : Int) (w : World) : (Instr.field 53 (.agg #[.int .u64 a, .int .u64 b]) 1).run Tryz.prog w = .ok (.int .u64 b) w := by kernel_rfl
/-- The tag of a view and of its mirror. -/
theorem viewTag_mirror (key : ByteArray) (ch n l r : Int) (xs : List Live) : viewTag true key ch n r l (xs.map flip') = viewTag false key ch n l r xs := by
  have e1 := items_flip false xs
  have e2 := sums_flip false l r xs
  unfold viewTag viewA viewB
  simp only [Bool.not_false] at e1 e2
  rw [e1, e2]
  rfl

end Go.Proofs.YtjpmomdechibmaaGreatDoor
