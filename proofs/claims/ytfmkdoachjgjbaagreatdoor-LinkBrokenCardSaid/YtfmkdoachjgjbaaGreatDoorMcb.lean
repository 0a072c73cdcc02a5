/-
  '==' and '!=' of hashes; what a sum's bytes are.
-/
import Derived.Test.YtfmkdoachjgjbaaGreatDoorMca
import Derived.Test.YtfmkdoachjgjbaaGreatDoorMba
import Derived.Test.YtfmkdoachjgjbaaGreatDoorMaf
import Derived.Test.YtfmkdoachjgjbaaGreatDoorMbg
set_option linter.unusedVariables false
set_option linter.unusedSimpArgs false
namespace Go.Proofs.YtfmkdoachjgjbaaGreatDoor
open Go.RowKit

def Bytes (h : List Int) : Prop := ∀ b ∈ h, 0 ≤ b ∧ b ≤ 255
theorem Tryz.flatHsh : flatF Tryz.prog 5 35 = some (List.replicate 32 (.int .u8)) := by kernel_rfl
theorem Tryz.eqHsh : eqB Tryz.prog 5 35 = true := by kernel_rfl
theorem Tryz.aggHsh : aggB Tryz.prog 35 = true := by kernel_rfl
theorem wf_byte {x : Int} (h : 0 ≤ x ∧ x ≤ 255) : (Lit.int .u8 x).wf = true := by
  simp [Lit.wf, IntKind.min, IntKind.max, IntKind.signed, IntKind.bits]; omega
theorem ints_fits' (k : IntKind) : ∀ (l : List Int), (∀ x ∈ l, (Lit.int k x).wf = true) → Fits (List.replicate l.length (.int k)) (l.map (Value.int k))
  | [], _ => rfl
  | x :: l, h => ⟨_, _, rfl, ⟨_, rfl, h x (List.mem_cons_self ..)⟩, ints_fits' k l fun y hy => h y (List.mem_cons_of_mem _ hy)⟩
theorem hsh_fits {h : List Int} (hl : h.length = 32) (hb : Bytes h) : Fits (List.replicate 32 (.int .u8)) (hshV h) := by
  have := ints_fits' .u8 h fun n hn => wf_byte (hb n hn)
  rwa [hl] at this
theorem hshV_inj {a b : List Int} (h : hshV a = hshV b) : a = b := by
  unfold hshV at h
  exact (List.map_inj_right (fun x y e => by injection e)).1 h
def neHsh (x y : Value) : Sem Value := binOp .neq 35 x y
theorem ne_hsh_fold (x y : Value) : binOp .neq 35 x y = neHsh x y := rfl
def eqHsh (x y : Value) : Sem Value := binOp .eql 35 x y
theorem eq_hsh_fold (x y : Value) : binOp .eql 35 x y = eqHsh x y := rfl
theorem eq_hsh {a b : List Int} (ha : a.length = 32) (hb : b.length = 32) (ba : Bytes a) (bb : Bytes b) (w : World) : (eqHsh (.agg (hshV a).toArray) (.agg (hshV b).toArray)).run Tryz.prog w = .ok (.bool (a == b)) w := by
  have := run_eql_flat 5 (by decide) Tryz.eqHsh Tryz.flatHsh Tryz.aggHsh (hsh_fits ha ba) (hsh_fits hb bb) (a == b) (by constructor <;> intro e <;> simp_all [hshV_inj]; exact hshV_inj e) w
  exact this
theorem byAll_bytes (h : List Int) (n : Nat) : Bytes (byAll h n) := by
  induction n with
  | zero => intro x hx; rw [byAll_zero] at hx; have := List.eq_of_mem_replicate hx; omega
  | succ n ih =>
    intro x hx
    rw [byAll_succ] at hx
    rcases List.mem_or_eq_of_mem_set hx with h | rfl
    · exact ih x h
    · unfold byI; omega
theorem sumI_bytes (s : ByteArray) : Bytes (sumI s) := byAll_bytes _ _
theorem z32i_bytes : Bytes z32i := by
  intro b hb
  have := List.eq_of_mem_replicate hb
  omega

theorem KeptV.len (k : KeptV) (h : k.told.length = 32) : k.cells.length = 34 := by simp [KeptV.cells, h]
theorem KeptV.one (k : KeptV) : ∀ v ∈ k.cells, v.oneCell' = true := by
  intro v hv
  simp only [KeptV.cells, List.mem_cons, List.mem_map] at hv
  rcases hv with rfl | rfl | ⟨n, _, rfl⟩ <;> rfl
theorem Tryz.infoKpt : (Tryz.prog.info? 120).map (·.size) = some 34 := by kernel_rfl
def ldKpt (x : Value) : Sem Value := Instr.loadAt 120 x
theorem ld_kpt_fold (x : Value) : Instr.loadAt 120 x = ldKpt x := rfl
theorem ld_kpt (b o : Nat) (w : World) : (ldKpt (.pointer (some ⟨b, o, none⟩))).run Tryz.prog w = match rowN w b o 34 with | some A => .ok (.agg A) w | none => slowLd Tryz.prog 120 w b o :=
  run_loadAt_rowN 120 34 _ Tryz.underlying120 rfl Tryz.infoKpt b o w
def stKpt (x v : Value) : Sem Unit := Instr.storeAt 120 x v
theorem st_kpt_fold (x v : Value) : Instr.storeAt 120 x v = stKpt x v := rfl
theorem st_kpt (b o : Nat) (A : Array Value) (w : World) : (stKpt (.pointer (some ⟨b, o, none⟩)) (.agg A)).run Tryz.prog w = if stOk w b o 34 A = true then .ok () (w.setCells b o A.toList) else slowSt Tryz.prog 120 w b o A :=
  run_storeAt_row 120 34 Tryz.infoKpt b o A w
def alKpt : Sem Value := Instr.alloc 120 true (.tuple #[])
theorem al_kpt_fold : Instr.alloc 120 true (.tuple #[]) = alKpt := rfl
theorem al_kpt (w : World) : alKpt.run Tryz.prog w = .ok (.pointer (some ⟨w.heap.size, 0, none⟩)) (w.alloc (.cells KeptV.zero.cells.toArray 120)) := by kernel_rfl
def bdKpt (p : Array (Nat × Value)) : Sem Value := Instr.build 120 p
theorem bd_kpt_fold (p : Array (Nat × Value)) : Instr.build 120 p = bdKpt p := rfl
theorem bd_kpt_zero (w : World) : (bdKpt #[]).run Tryz.prog w = .ok (.agg KeptV.zero.cells.toArray) w := run_build w _ _ _ (by kernel_rfl)
/-- A kept secret in a block of its own. -/
structure KpS (w : World) (b : Nat) (k : KeptV) : Prop where
  at_ : w.heap[b]? = some (.cells k.cells.toArray 120 (0, 0))
  len : k.told.length = 32
section
variable {S : Nat → Prop} {w w' : World} {b : Nat} {k : KeptV}
theorem KpS.upd (a : KpS w b k) (u : Upd S w w') (n : ¬ S b) : KpS w' b k := ⟨u.old a.at_ n, a.len⟩
theorem KpS.new (a : KpS w b k) (u : New w w') : KpS w' b k := a.upd u (fun h => h)
theorem KpS.lt (a : KpS w b k) : b < w.heap.size := blk_lt a.at_
theorem KpS.row (a : KpS w b k) : rowN w b 0 34 = some k.cells.toArray := rowN_whole a.at_ 34 (by rw [List.size_toArray, k.len a.len])
theorem KpS.stOk (a : KpS w b k) {j : KeptV} (hk : j.told.length = 32) : stOk w b 0 34 j.cells.toArray = true := by
  have := stOk_all a.at_ (A := j.cells) (by rw [List.size_toArray, k.len a.len, j.len hk]) j.one
  rwa [List.size_toArray, k.len a.len] at this
theorem KpS.put (a : KpS w b k) {j : KeptV} (hk : j.told.length = 32) : KpS (w.setCells b 0 j.cells) b j := by
  refine ⟨?_, hk⟩
  rw [blk_setCells a.at_ 0 _, layIn_whole _ _ (by rw [List.size_toArray, k.len a.len, j.len hk])]
theorem KpS.c0 (a : KpS w b k) : w.cell? ⟨b, 0, none⟩ = some (.bool k.full) := blk_cell a.at_ 0
theorem KpS.c1 (a : KpS w b k) : w.cell? ⟨b, 1, none⟩ = some (.int .i64 k.number) := blk_cell a.at_ 1
theorem KpS.hsh (a : KpS w b k) : rowN w b 2 32 = some (hshV k.told).toArray := by
  rw [rowN_blk a.at_ 2 32 (by rw [List.size_toArray, k.len a.len]; omega)]
  congr 1
  apply Array.ext'
  rw [Array.toList_extract]
  unfold KeptV.cells
  show List.take 32 (hshV k.told) = hshV k.told
  exact List.take_of_length_le (by rw [hshV_len, a.len]; exact Nat.le_refl _)
end
attribute [local go_sem ↓ high] ld_hsh_fold st_hsh_fold al_hsh_fold bd_hsh_fold ld_kpt_fold st_kpt_fold al_kpt_fold bd_kpt_fold ne_hsh_fold
attribute [local go_sem] ld_hsh st_hsh al_hsh bd_hsh rowN_drew ld_kpt st_kpt al_kpt bd_kpt_zero

/-- Does a secret tell a kept one otherwise? -/
def otherB (told : List Int) (i : Int) (k : KeptV) : Bool := (deriveI told i k.number).2 == 0 && (deriveI told i k.number).1 != k.told

-- the shelf's rows
theorem drop_app {α : Type} {A B : List α} {n : Nat} (h : A.length = n) : (A ++ B).drop n = B := by subst h; simp
theorem flat_drop' (X : List KeptV) (hX : ∀ p ∈ X, p.told.length = 32) : ∀ (i : Nat) (x : KeptV), X[i]? = some x → ∃ R, (X.flatMap KeptV.cells).drop (i * 34) = x.cells ++ R := by
  induction X with
  | nil => intro i x h; simp at h
  | cons y X ih =>
    intro i x h
    have hy : y.cells.length = 34 := y.len (hX y (List.mem_cons_self ..))
    cases i with
    | zero =>
      simp only [List.getElem?_cons_zero, Option.some.injEq] at h
      subst h
      exact ⟨X.flatMap KeptV.cells, by simp⟩
    | succ i =>
      rw [List.getElem?_cons_succ] at h
      obtain ⟨R, hR⟩ := ih (fun p hp => hX p (List.mem_cons_of_mem _ hp)) i x h
      refine ⟨R, ?_⟩
      rw [List.flatMap_cons, Nat.add_mul, Nat.one_mul, Nat.add_comm (i * 34) 34, ← List.drop_drop, drop_app hy, hR]
theorem ChP.kept {w : World} {g : Nat} {S : Nat → Prop} {c : Ch} {lv nv av : Value} (h : ChP w g S c lv nv av) {i : Nat} {p : KeptV} (hi : c.shelf[i]? = some p) : rowN w g (48 + i * 34) 34 = some p.cells.toArray := by
  have hl := h.ok.s.seed
  have hlt := (List.getElem?_eq_some_iff.1 hi).1
  have hp := h.ok.shelf.2 p (List.mem_of_getElem? hi)
  have h37 : c.s.cells.length = 37 := c.s.len hl
  have ht : (c.shelf.flatMap KeptV.cells).length = 578 := by rw [told_len _ h.ok.shelf.2, h.ok.shelf.1]
  have hc : (c.v lv nv av).cells = (c.s.cells ++ (c.k.cells ++ [.int .u64 c.loc, .int .u64 c.rem, lv])) ++ (c.shelf.flatMap KeptV.cells ++ [nv, av]) := by
    show c.s.cells ++ (c.k.cells ++ (Value.int .u64 c.loc :: .int .u64 c.rem :: lv :: (c.shelf.flatMap KeptV.cells ++ [nv, av]))) = _
    simp
  have h48 : (c.s.cells ++ (c.k.cells ++ [.int .u64 c.loc, .int .u64 c.rem, lv])).length = 48 := by
    rw [List.length_append, List.length_append, h37]
    rfl
  have h17 := h.ok.shelf.1
  have hs : 48 + i * 34 + 34 ≤ (c.v lv nv av).cells.toArray.size := by
    rw [List.size_toArray, hc, List.length_append, h48, List.length_append, ht]
    show 48 + i * 34 + 34 ≤ 48 + (578 + 2)
    omega
  rw [rowN_blk h.at_ _ 34 hs]
  congr 1
  apply Array.ext'
  rw [Array.toList_extract, hc]
  show List.extract (_ ++ _) (48 + i * 34) (48 + i * 34 + 34) = _
  rw [List.extract_eq_take_drop, Nat.add_sub_cancel_left, ← List.drop_drop, drop_app h48]
  obtain ⟨R, hR⟩ := flat_drop' c.shelf h.ok.shelf.2 i p hi
  rw [List.drop_append_of_le_length (by omega), hR, List.append_assoc, List.take_append_of_le_length (by rw [p.len hp]; exact Nat.le_refl _), List.take_of_length_le (by rw [p.len hp]; exact Nat.le_refl _)]

/-- The lowest place below an end that tells otherwise. -/
def lowX (told : List Int) (i : Int) (ps : List KeptV) : Option KeptV := ps.find? fun k => k.full && otherB told i k

end Go.Proofs.YtfmkdoachjgjbaaGreatDoor
namespace Go.Proofs.YtfmkdoachjgjbaaGreatDoor
open Go.RowKit

theorem layIn_mid (P Z R Q : List Value) (o : Nat) (ho : P.length = o) (h : Z.length = Q.length) : layIn (P ++ (Z ++ R)).toArray o Q = (P ++ (Q ++ R)).toArray := by
  apply Array.ext'
  apply List.ext_getElem?
  intro j
  have hsz : (P ++ (Z ++ R)).toArray.size = P.length + (Z.length + R.length) := by simp
  rw [Array.getElem?_toList, layIn_get _ _ _ _ (by rw [hsz]; omega), List.getElem?_toArray]
  by_cases h1 : o ≤ j ∧ j < o + Q.length
  · rw [if_pos h1, List.getElem?_append_right (by omega), List.getElem?_append_left (by omega), ho]
  · rw [if_neg h1]
    by_cases h2 : j < o
    · rw [List.getElem?_append_left (by omega), List.getElem?_append_left (by omega)]
    · rw [List.getElem?_append_right (by omega), List.getElem?_append_right (by omega), List.getElem?_append_right (by omega), List.getElem?_append_right (by omega), h]

attribute [local go_sem ↓ high] ld_hsh_fold st_hsh_fold al_hsh_fold bd_hsh_fold ld_kpt_fold st_kpt_fold al_kpt_fold bd_kpt_fold ne_hsh_fold
attribute [local go_sem] ld_hsh st_hsh al_hsh bd_hsh rowN_drew ld_kpt st_kpt al_kpt bd_kpt_zero

def insErr (told : List Int) (i : Int) (ps : List KeptV) : Int := if canB i i = false then 1 else if (lowX told i (ps.take (placeI i))).isSome = true then 50 else 0
def insL (told : List Int) (i : Int) (ps : List KeptV) : List KeptV := if insErr told i ps = 0 then ps.set (placeI i) ⟨true, i, told⟩ else ps

end Go.Proofs.YtfmkdoachjgjbaaGreatDoor
namespace Go.Proofs.YtfmkdoachjgjbaaGreatDoor
open Go.RowKit

structure Tb (w : World) : Prop where
  glob : Glob w
  spans : Spans w
  tabs : Tabs w
  deb : Deb w
/-- No table lies in S. -/
structure Apart (S : Nat → Prop) : Prop where
  a : ¬ S 0
  b : ¬ S 2
  c : ¬ S 4
  d : ¬ S 1
  e : ¬ S 6
theorem Tb.upd {S : Nat → Prop} {w w' : World} (h : Tb w) (u : Upd S w w') (a : Apart S) : Tb w' := ⟨h.glob.upd u a.a, h.spans.upd u a.b, h.tabs.upd u a.c a.d, h.deb.upd u a.e⟩
theorem Tb.new {w w' : World} (h : Tb w) (u : New w w') : Tb w' := ⟨h.glob.new u, h.spans.new u, h.tabs.new u, h.deb.new u⟩
theorem Tb.lt {w : World} (h : Tb w) : 0 < w.heap.size ∧ 2 < w.heap.size ∧ 4 < w.heap.size ∧ 1 < w.heap.size ∧ 6 < w.heap.size :=
  ⟨World.block_lt_of_cell? w _ (h.glob.events 0 (by decide)), World.block_lt_of_cell? w _ (h.spans.spans 0 (by decide)), h.tabs.lt.1, h.tabs.lt.2, World.block_lt_of_cell? w _ (h.deb.tab 0 (by decide))⟩
theorem Apart.fr {S : Nat → Prop} {w : World} (h : Apart S) (t : Tb w) (w' : World) : Apart (Fr S w w') := by
  obtain ⟨a, b, c, d, e⟩ := t.lt
  refine ⟨?_, ?_, ?_, ?_, ?_⟩
  · rintro (k | k)
    · exact h.a k
    · omega
  · rintro (k | k)
    · exact h.b k
    · omega
  · rintro (k | k)
    · exact h.c k
    · omega
  · rintro (k | k)
    · exact h.d k
    · omega
  · rintro (k | k)
    · exact h.e k
    · omega
theorem Apart.mono {S T : Nat → Prop} (h : Apart S) (st : ∀ k, T k → S k) : Apart T := ⟨fun k => h.a (st _ k), fun k => h.b (st _ k), fun k => h.c (st _ k), fun k => h.d (st _ k), fun k => h.e (st _ k)⟩
/-- The tables but bits'. -/
structure Tc (w : World) : Prop where
  glob : Glob w
  spans : Spans w
  tabs : Tabs w
structure ApC (S : Nat → Prop) : Prop where
  a : ¬ S 0
  b : ¬ S 2
  c : ¬ S 4
  d : ¬ S 1
theorem Tb.c {w : World} (h : Tb w) : Tc w := ⟨h.glob, h.spans, h.tabs⟩
theorem Tc.upd {S : Nat → Prop} {w w' : World} (h : Tc w) (u : Upd S w w') (a : ApC S) : Tc w' := ⟨h.glob.upd u a.a, h.spans.upd u a.b, h.tabs.upd u a.c a.d⟩
theorem Tc.new {w w' : World} (h : Tc w) (u : New w w') : Tc w' := ⟨h.glob.new u, h.spans.new u, h.tabs.new u⟩
theorem Tc.lt {w : World} (h : Tc w) : 0 < w.heap.size ∧ 2 < w.heap.size ∧ 4 < w.heap.size ∧ 1 < w.heap.size :=
  ⟨World.block_lt_of_cell? w _ (h.glob.events 0 (by decide)), World.block_lt_of_cell? w _ (h.spans.spans 0 (by decide)), h.tabs.lt.1, h.tabs.lt.2⟩
theorem ApC.mono {S T : Nat → Prop} (h : ApC S) (st : ∀ k, T k → S k) : ApC T := ⟨fun k => h.a (st _ k), fun k => h.b (st _ k), fun k => h.c (st _ k), fun k => h.d (st _ k)⟩
theorem apc_ge {S : Nat → Prop} {w0 : World} (t : Tc w0) (ge : ∀ k, S k → w0.heap.size ≤ k) : ApC S := by
  obtain ⟨a, b, c, d⟩ := t.lt
  exact ⟨fun h => by have := ge _ h; omega, fun h => by have := ge _ h; omega, fun h => by have := ge _ h; omega, fun h => by have := ge _ h; omega⟩
/-- The digest's tables are not in S. -/
structure ApD (S : Nat → Prop) : Prop where
  c : ¬ S 4
  d : ¬ S 1
theorem Upd.fr {S : Nat → Prop} {w1 w2 w3 : World} (u : Upd S w1 w2) (v : Upd (Fr S w1 w2) w2 w3) : Upd S w1 w3 := u.then v fun i hi h => by
  rcases h with h | h
  · exact h
  · omega
/-- S and what was made later is S and what was made at all. -/
theorem ChS.later {S : Nat → Prop} {w1 w2 w3 : World} {g : Nat} {c : Ch} (h : ChS w3 g (Fr S w2 w3) c) (h1 : w1.heap.size ≤ w2.heap.size) : ChS w3 g (Fr S w1 w3) c := by
  obtain ⟨a, b, d, h⟩ := h
  refine ⟨a, b, d, h.wider (fun k hk => ?_) (fun k hk => ?_)⟩
  · rcases hk with hk | hk
    · exact .inl hk
    · exact .inr ⟨by omega, hk.2⟩
  · rcases hk with hk | hk
    · exact h.lt k (.inl hk)
    · exact hk.2

theorem ChS.grow {S : Nat → Prop} {w0 w1 w2 : World} {g : Nat} {c : Ch} (h : ChS w2 g (Fr S w0 w1) c) (h1 : w1.heap.size ≤ w2.heap.size) : ChS w2 g (Fr S w0 w2) c := by
  obtain ⟨a, b, d, h⟩ := h
  refine ⟨a, b, d, h.wider (fun k hk => ?_) (fun k hk => ?_)⟩
  · rcases hk with hk | hk
    · exact .inl hk
    · exact .inr ⟨hk.1, by omega⟩
  · rcases hk with hk | hk
    · exact h.lt k (.inl hk)
    · exact hk.2

def jheadS (n : Nat) (s : ByteArray) : ByteArray := numS n 8 ++ numS s.size 2 ++ s
def putI (n : Nat) (s : ByteArray) : ByteArray := jheadS n s ++ sum4 (jheadS n s)
theorem jheadS_size (n : Nat) (s : ByteArray) : (jheadS n s).size = 10 + s.size := by
  unfold jheadS
  rw [ByteArray.size_append, ByteArray.size_append, numS_size, numS_size]
theorem putI_size (n : Nat) (s : ByteArray) : (putI n s).size = 14 + s.size := by
  unfold putI
  rw [ByteArray.size_append, jheadS_size, sum4_size]
  omega
set_option maxRecDepth 100000 in
set_option maxHeartbeats 1000000 in
theorem jput_any (n : Nat) (s : ByteArray) (w : World) (hn : n < 2 ^ 64) (hs : s.size ≤ 1024) (hT : Tabs w) :
    Calls Tryz.prog 148 #[.int .u64 n, .string s] w (Makes (.tuple #[.string (putI n s), .int .i64 0]) w) := by
  have hwr : IntKind.u64.wrap (s.size : Int) = s.size := wrapU (by omega) (by omega)
  have hsz := jheadS_size n s
  have hs4 := sum4_size (jheadS n s)
  have e0 : (⟨#[]⟩ : ByteArray) ++ numS n 8 = numS n 8 := ByteArray.empty_append
  have E8 := hide (numS_size n 8)
  have e9 : (numS n 8 ++ numS s.size 2).size = 10 := by rw [ByteArray.size_append, numS_size, numS_size]
  have E9 := hide e9
  have EH := hide (show numS n 8 ++ numS s.size 2 ++ s = jheadS n s from rfl)
  have EP := hide (show jheadS n s ++ sum4 (jheadS n s) = putI n s from rfl)
  have HS := hide (And.intro hsz hs4)
  clear e9 hsz hs4
  go_enter Tryz.func148, Tryz.ntmps148
  go_upto_region 2 with fail
  have b1 : Wr (w.alloc (.cells #[.string ⟨#[]⟩] 174)) w.heap.size ⟨#[]⟩ := blk_alloc _ _
  have n1 : New w (w.alloc (.cells #[.string ⟨#[]⟩] 174)) := (Upd.refl _ _).alloc _
  generalize w.alloc (.cells #[.string ⟨#[]⟩] 174) = w1 at b1 n1 ⊢
  have N1 := hide n1
  generalize hB : w.heap.size = B at b1 ⊢
  have HB := hide hB
  clear n1 hB
  have hcall := number_any B n 8 ⟨#[]⟩ w1 b1 (by decide) (by decide) hn (by show (0 : Nat) ≤ _; omega)
  rw [e0] at hcall
  clear e0 b1
  go_wp2_with fail
  refine hcall.mono ?_
  rintro e w2 ⟨rfl, u2, h2⟩
  have N2 := hide ((unhide N1).then u2 (fun k hk e => by have := unhide HB; omega))
  have hcall := number_any B s.size 2 (numS n 8) w2 h2 (by decide) (by decide) (by show s.size < 65536; omega) (by have := unhide E8; omega)
  clear u2 h2 N1
  go_wp2_with fail
  refine hcall.mono ?_
  rintro e w3 ⟨rfl, u3, h3⟩
  have N3 := hide ((unhide N2).then u3 (fun k hk e => by have := unhide HB; omega))
  clear hcall u3 N2 hwr
  go_wp2_with fail
  refine (bytesW_any _ _ _ h3).mono ?_
  rintro e w4 ⟨rfl, rfl⟩
  have hj := jsum_any (jheadS n s) w3 (by have := (unhide HS).1; omega) (hT.new (unhide N3))
  have hq1 : (jheadS n s).size ≤ 1034 := by have := (unhide HS).1; omega
  have hq2 := (unhide HS).2
  have hq3 := unhide E9
  clear h3 hT
  generalize numS n 8 ++ numS s.size 2 = a at *
  go_wp2_with fail
  rw [unhide EH]
  refine hj.mono ?_
  rintro e w5 ⟨rfl, n5⟩
  have N5 := hide ((unhide N3).trans n5)
  clear hj n5 N3 HB E8
  go_wp2_with fail
  rw [unhide EP]
  clear EP HS hq1 hq2 EH
  generalize jheadS n s = hv
  generalize putI n s = pv
  generalize sum4 hv = sv
  go_ret2
  exact ⟨rfl, unhide N5⟩
/-- One record more. -/
def Jo.app (j : Jo) (s : ByteArray) : Jo := { j with bs := j.bs ++ putI j.many.toNat s, many := j.many + 1 }
theorem set_many {w : World} {g : Nat} {S : Nat → Prop} {j : Jo} (h : JoS w g S j) (n : Int) : JoS (w.setCell ⟨g, 2, none⟩ (.int .i64 n)) g S { j with many := n } := by
  obtain ⟨p, buf, h⟩ := h
  have u : Upd (· = g) w (w.setCell ⟨g, 2, none⟩ (.int .i64 n)) := (Upd.refl _ _).set1 _ _
  refine ⟨p, buf, blk_set h.at_ 2 _, h.addr, row_upd' h.row u ?_, h.inG, h.inB, fun k hk => Nat.lt_of_lt_of_le (h.lt k hk) u.size⟩
  intro k hk e
  obtain ⟨cur, hc⟩ := own_blk' h.row k hk
  exact apart_ty' hc h.at_ (by decide) e
theorem JoS.wider {w : World} {g : Nat} {S T : Nat → Prop} {j : Jo} (h : JoS w g S j) (hs : ∀ k, S k → T k) (hl : ∀ k, T k → k < w.heap.size) : JoS w g T j := by
  obtain ⟨p, b, h⟩ := h
  exact ⟨p, b, h.wider hs hl⟩
def AppSt (g : Nat) (S : Nat → Prop) (j : Jo) (s : ByteArray) (w0 : World) (i : Nat) (w : World) : Prop := (i = 0 → w = w0) ∧ (i = 1 → JoS w g (Fr S w0 w) (j.app s) ∧ Upd S w0 w)
set_option maxRecDepth 100000 in
set_option maxHeartbeats 2000000 in
/-- One record is put behind all others. -/
theorem jappend_any (g b : Nat) (S : Nat → Prop) (j : Jo) (s : ByteArray) (w : World) (h : JoS w g S j) (hf : j.fused = false) (ho : j.off = false) (hs : s.size ≤ 1024) (hm : 0 ≤ j.many ∧ j.many < 1099511627776) (hlen : j.bs.size ≤ 1099511627776) (hT : Tabs w) (hb : w.cell? ⟨b, 0, none⟩ = some (.string s)) (hbS : ¬ S b) :
    Calls Tryz.prog 113 #[.pointer (some ⟨g, 0, none⟩), .slice (some ⟨b, 0, none⟩) 1 1] w fun e w' => e = .returned (.int .i64 0) ∧ JoS w' g (Fr S w w') (j.app s) ∧ Upd S w w' := by
  obtain ⟨p, buf, hp⟩ := h
  have c5 : w.cell? ⟨g, 5, none⟩ = some (.bool false) := ho ▸ blk_cell hp.at_ 5
  have hp2 : w.cell? ⟨g, 2, none⟩ = some (.int .i64 j.many) := blk_cell hp.at_ 2
  have hG := hp.inG
  have H := hide (show JoS w g S j from ⟨p, buf, hp⟩)
  obtain ⟨m, hme⟩ := Int.eq_ofNat_of_zero_le hm.1
  have hwr : IntKind.u64.wrap (m : Int) = (m : Int) := wrapU (by omega) (by omega)
  rw [hme] at hp2
  have hput := fun w' (n' : New w w') => jput_any m s w' (by omega) hs (hT.new n')
  have hpz := putI_size m s
  have hmb : m < 1099511627776 := by omega
  have HME := hide hme
  have HM := hide hm
  clear hp hme hm
  go_enter Tryz.func113, Tryz.ntmps113
  go_wp2_with fail
  go_loopw [13] (fun iv wr => ∃ i : Nat, iv = .int .i64 (i : Int) ∧ i ≤ 1 ∧ wr = w) (fun iv _ => 1 - (intOf iv).toNat)
  case atStart => exact ⟨0, rfl, by omega, rfl⟩
  case round =>
    obtain ⟨i, rfl, hi, rfl⟩ := hrel
    rcases (by omega : i = 0 ∨ i = 1) with rfl | rfl
    · go_wp2_with fail
      go_roundw
      case rel => exact ⟨1, rfl, by omega, by trivial⟩
      case measure => simp [intOf]
    · rw [show ((1 : Nat) : Int) = 1 from rfl]
      go_wp2_with fail
      go_loopw [27] (fun iv wr' => ∃ i : Nat, iv = .int .i64 (i : Int) ∧ i ≤ 1 ∧ Hid (AppSt g S j s wr i wr')) (fun iv _ => 1 - (intOf iv).toNat)
      case atStart => exact ⟨0, rfl, by omega, hide ⟨fun _ => rfl, fun e => by cases e⟩⟩
      case round =>
        obtain ⟨i, rfl, hi, hrel⟩ := hrel
        rcases (by omega : i = 0 ∨ i = 1) with rfl | rfl
        · obtain rfl := (unhide hrel).1 rfl
          clear hrel
          rw [show ((0 : Nat) : Int) = 0 from rfl]
          go_wp2_with fail
          refine (hput _ (Upd.refl _ _)).mono ?_
          rintro e w1 ⟨rfl, n1⟩
          have hw := jwrite_any g S j (putI m s) w1 ((unhide H).new n1) hf (by omega)
          have N1 := hide n1
          clear n1 hput hb c5 hp2
          go_wp2_with fail
          refine hw.mono ?_
          rintro e w2 ⟨rfl, h2, u2⟩
          have hn : JoS (w2.setCell ⟨g, 2, none⟩ (.int .i64 ((m : Int) + 1))) g (Fr S w1 w2) (j.app s) := by
            have := set_many h2 ((m : Int) + 1)
            unfold Jo.app
            rw [unhide HME, Int.toNat_natCast]
            exact this
          have hu3 : Upd (· = g) w2 (w2.setCell ⟨g, 2, none⟩ (.int .i64 ((m : Int) + 1))) := (Upd.refl _ _).set1 _ _
          have HU3 := hide hu3
          have HZ3 := hide hu3.size
          obtain ⟨p2, b2, hp2⟩ := h2
          have d2 : w2.cell? ⟨g, 2, none⟩ = some (.int .i64 (m : Int)) := by have := unhide HME; rw [← this]; exact blk_cell hp2.at_ 2
          have f2 := blk_free hp2.at_ 2
          have HN := hide hn
          have U2 := hide u2
          clear hw hn hp2 u2 hu3
          go_wp2_with fail
          go_roundw
          case rel =>
            have n1 := unhide N1
            have u2 := unhide U2
            have z3 := unhide HZ3
            have z1 := n1.size
            have z2 := u2.size
            have hz := (unhide H).lt
            refine ⟨1, rfl, by omega, hide ⟨(fun e => by cases e), fun _ => ⟨(unhide HN).wider ?_ ?_, ?_⟩⟩⟩
            · rintro k (hk | hk)
              · exact .inl hk
              · exact .inr ⟨by omega, by omega⟩
            · rintro k (hk | hk)
              · have := hz k hk
                omega
              · exact hk.2
            · exact ((n1.mono (fun _ _ h => h.elim)).trans u2).trans ((unhide HU3).mono (fun k _ e => by rw [e]; exact hG))
          case measure => simp [intOf]
        · go_wp2_with fail
          go_ret
          exact ⟨rfl, (unhide hrel).2 rfl⟩

structure LinkV where
  sp : Nat
  en : Nat
  lo : Nat
  out : ByteArray
  events : Value
  ticks : Int
  dead : Bool
  broken : Bool
  waits : Bool
def ptrV (g : Nat) : Value := .pointer (some ⟨g, 0, none⟩)
def LinkV.cells (l : LinkV) : List Value := [ptrV l.sp, ptrV l.en, ptrV l.lo, .string l.out, l.events, .int .i64 l.ticks, .bool l.dead, .bool l.broken, .bool l.waits]
def LkR (w : World) (g : Nat) (l : LinkV) : Prop := w.heap[g]? = some (.cells l.cells.toArray 107 (0, 0))
/-- A splitter that holds s. -/
def SpR (w : World) (g : Nat) (s : ByteArray) : Prop := w.heap[g]? = some (.cells #[.string s] 169 (0, 0))
def LinkV.new (sp en lo : Nat) : LinkV := ⟨sp, en, lo, ⟨#[]⟩, nilV, 0, false, false, false⟩

/-- A link that is new, of a channel that is new. -/
structure NewL (w : World) (B g : Nat) (s : SetupV) (l : LinkV) : Prop where
  isNew : l = .new l.sp l.en l.lo
  lk : LkR w g l
  sp : SpR w l.sp ⟨#[]⟩
  ch : ChR w l.en (.new s)
  jo : JoR w l.lo .new
  ge : B ≤ g ∧ B ≤ l.sp ∧ B ≤ l.en ∧ B ≤ l.lo
  ne : l.en < l.lo ∧ l.lo < l.sp ∧ l.sp < g

attribute [local go_sem ↓ high] ld_setup_fold
attribute [local go_sem] ld_setup
set_option maxRecDepth 100000 in
set_option maxHeartbeats 1000000 in
theorem newL_any (s : SetupV) (hs : s.Ok) (w : World) : Calls Tryz.prog 43 #[.agg s.cells.toArray] w fun e w' =>
    (s.may ∧ ∃ g l, e = .returned (.pointer (some ⟨g, 0, none⟩)) ∧ NewL w' w.heap.size g s l ∧ New w w') ∨ (¬ s.may ∧ e = .returned (.pointer none) ∧ New w w') := by
  go_enter Tryz.func43, Tryz.ntmps43
  go_upto_region 1 with fail
  have hb : SetR (w.alloc (.cells s.cells.toArray 78)) w.heap.size s := blk_alloc _ _
  have n0 : New w (w.alloc (.cells s.cells.toArray 78)) := (Upd.refl _ _).alloc _
  generalize w.alloc (.cells s.cells.toArray 78) = w1 at hb n0 ⊢
  have hrow := hb.row hs.seed
  go_wp2_with fail
  refine (newC_any s hs _).mono ?_
  rintro e w2 (⟨hm, g, rfl, hg, hc, n2⟩ | ⟨hm, rfl, n2⟩)
  · replace n2 := n0.trans n2
    have hg' : w.heap.size ≤ g := Nat.le_trans n0.size hg
    clear n0 hb hrow hg
    have HM := hide hm
    clear hm
    go_wp2_with fail
    refine (recover_nil _).mono ?_
    rintro e w3 ⟨j, rfl, hj, hjo, n3⟩
    have hgl := hc.lt
    replace hc := hc.new n3
    replace n3 := n2.trans n3
    have hjl := blk_lt hjo
    have hj' := n2.size
    clear n2
    go_wp2_with fail
    go_ret
    have hm := unhide HM
    have n4 := n3.alloc (.cells #[.string ⟨#[]⟩] 169)
    have hsp : SpR _ w3.heap.size ⟨#[]⟩ := blk_alloc w3 (.cells #[.string ⟨#[]⟩] 169)
    have n43 : New w3 (w3.alloc (.cells #[.string ⟨#[]⟩] 169)) := (Upd.refl _ _).alloc _
    have hz : (w3.alloc (.cells #[.string ⟨#[]⟩] 169)).heap.size = w3.heap.size + 1 := World.size_alloc _ _
    replace hc := hc.new n43
    replace hjo : JoR _ j .new := n43.old hjo (fun h => h)
    have hw : w.heap.size ≤ j := by omega
    generalize w3.alloc (.cells #[.string ⟨#[]⟩] 169) = w4 at n4 hsp n43 hz hc hjo ⊢
    have hlk : LkR _ w4.heap.size (.new w3.heap.size g j) := blk_alloc w4 (.cells (LinkV.new w3.heap.size g j).cells.toArray 107)
    have n54 : New w4 (w4.alloc (.cells (LinkV.new w3.heap.size g j).cells.toArray 107)) := (Upd.refl _ _).alloc _
    have n5 := n4.trans n54
    rw [hz] at hlk
    have h43 := n3.size
    exact .inl ⟨hm, w3.heap.size + 1, .new w3.heap.size g j, rfl, ⟨rfl, hlk, n54.old hsp (fun h => h), hc.new n54, n54.old hjo (fun h => h), ⟨by omega, h43, hg', hw⟩, ⟨by show g < j; omega, hjl, by show w3.heap.size < _; omega⟩⟩, n5⟩
  · have n3 := n0.trans n2
    clear n0 hb hrow n2
    have HM := hide hm
    clear hm
    go_wp2_with fail
    go_ret
    exact .inr ⟨unhide HM, rfl, n3⟩

end Go.Proofs.YtfmkdoachjgjbaaGreatDoor
