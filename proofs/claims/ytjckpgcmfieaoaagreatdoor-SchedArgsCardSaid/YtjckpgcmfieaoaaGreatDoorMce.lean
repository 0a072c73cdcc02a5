/-
  The evaluator's sum of bytes is the program's: words, blocks, the whole.
-/
import Derived.Test.YtjckpgcmfieaoaaGreatDoorMcd
import Derived.Test.YtjckpgcmfieaoaaGreatDoorProg
import Derived.Test.YtjckpgcmfieaoaaGreatDoorMaa
import Derived.RangeFuncNested
import Derived.RangeFuncBound
import Derived.RangeFuncCalls
import Derived.RangeFuncLeaves
import Derived.Shelf.Abstract
import Derived.Shelf.RegionOpen
import Derived.WalkKit
import Derived.OwnWalkIn
import Derived.TacticsInMore
import Derived.LoopNIn
import Derived.LoopIn
import Derived.Test.YtjckpgcmfieaoaaGreatDoorMbi
import Derived.Lib.JoinLaws
import Derived.ArgAppend
import Derived.Laws.IdiomStrings
set_option linter.unusedVariables false
set_option linter.unusedSimpArgs false
namespace Go.Proofs.YtjckpgcmfieaoaaGreatDoor
open Go.RowKit

def natI (l : List Nat) : List Int := l.map fun (n : Nat) => (n : Int)
theorem hNth_eq : ∀ (l : List Nat) (n : Nat), hNth l n = l.getD n 0
  | [], _ => rfl
  | _ :: _, 0 => rfl
  | _ :: l, n + 1 => hNth_eq l n
theorem hRev_eq : ∀ (l r : List Nat), hRev l r = l.reverse ++ r
  | [], r => rfl
  | x :: l, r => by
    show hRev l (x :: r) = _
    rw [hRev_eq l, List.reverse_cons, List.append_assoc]
    rfl
theorem hDrop_eq : ∀ (l : List Nat) (n : Nat), hDrop l n = l.drop n
  | [], _ => by simp [hDrop]
  | x :: l, 0 => rfl
  | x :: l, n + 1 => hDrop_eq l n
noncomputable def hNx (l : List Nat) : Nat := Nat.mod (Nat.add (Nat.add (Nat.add (hNth l 15) (Nat.xor (hS2 (Nat.mul (hNth l 14) 4294967297) 7 18) (Nat.shiftRight (hNth l 14) 3))) (hNth l 6)) (Nat.xor (hS2 (Nat.mul (hNth l 1) 4294967297) 17 19) (Nat.shiftRight (hNth l 1) 10))) 4294967296
theorem hMore_succ : ∀ (n : Nat) (l : List Nat), hMore (n + 1) l = hNx (hMore n l) :: hMore n l
  | 0, _ => rfl
  | n + 1, l => hMore_succ n (hNx l :: l)
theorem hMore_len (n : Nat) (l : List Nat) : (hMore n l).length = l.length + n := by
  induction n with
  | zero => rfl
  | succ n ih => rw [hMore_succ, List.length_cons, ih]; rfl
theorem hMore_lt {l : List Nat} (h : ∀ x ∈ l, x < 4294967296) (n : Nat) : ∀ x ∈ hMore n l, x < 4294967296 := by
  induction n with
  | zero => exact h
  | succ n ih =>
    rw [hMore_succ]
    intro x hx
    rcases List.mem_cons.1 hx with rfl | hx
    · exact Nat.mod_lt _ (by omega)
    · exact ih x hx
theorem getD_lt {l : List Nat} (h : ∀ x ∈ l, x < 4294967296) (i : Nat) : l.getD i 0 < 4294967296 := by
  rw [List.getD_eq_getElem?_getD]
  cases hi : l[i]? with
  | none => simp
  | some x => exact h x (List.mem_of_getElem? hi)
theorem shr_lt {x : Nat} (h : x < 4294967296) (n : Nat) : Nat.shiftRight x n < 4294967296 := by
  show x >>> n < _
  rw [Nat.shiftRight_eq_div_pow]
  exact Nat.lt_of_le_of_lt (Nat.div_le_self _ _) h
theorem sig0_eq {x : Nat} (h : x < 4294967296) : sig0 (x : Int) = (hX3 (hRot x 7) (hRot x 18) (Nat.shiftRight x 3) : Nat) := by
  obtain ⟨t, u⟩ := turns2 h (a := 7) (b := 18) (by omega) (by omega)
  have t : turnsI (x : Int) [7, 18] = _ := t
  unfold sig0 hX3
  have e : (x : Int) / 8 = ((Nat.shiftRight x 3 : Nat) : Int) := by
    show _ = ((x >>> 3 : Nat) : Int)
    rw [Nat.shiftRight_eq_div_pow]
    simp
  rw [t, e, xor_nat u (shr_lt h 3)]
theorem sig1_eq {x : Nat} (h : x < 4294967296) : sig1 (x : Int) = (hX3 (hRot x 17) (hRot x 19) (Nat.shiftRight x 10) : Nat) := by
  obtain ⟨t, u⟩ := turns2 h (a := 17) (b := 19) (by omega) (by omega)
  have t : turnsI (x : Int) [17, 19] = _ := t
  unfold sig1 hX3
  have e : (x : Int) / 1024 = ((Nat.shiftRight x 10 : Nat) : Int) := by
    show _ = ((x >>> 10 : Nat) : Int)
    rw [Nat.shiftRight_eq_div_pow]
    simp
  rw [t, e, xor_nat u (shr_lt h 10)]
theorem wd_rev {r : List Nat} {z : List Int} {i : Nat} (h : i < r.length) : wd (natI r.reverse ++ z) i = (r.getD (r.length - 1 - i) 0 : Nat) := by
  unfold wd natI
  rw [List.getD_eq_getElem?_getD, List.getElem?_append_left (by simpa using h), List.getElem?_map, List.getElem?_reverse h, List.getD_eq_getElem?_getD]
  cases hq : r[r.length - 1 - i]? with
  | none => rfl
  | some x => rfl
theorem set_end {A R : List Int} {x y : Int} {i : Nat} (h : i = A.length) : (A ++ x :: R).set i y = A ++ y :: R := by
  subst h
  rw [List.set_append_right _ _ (Nat.le_refl _), Nat.sub_self]
  rfl
theorem scWords_eq {s : ByteArray} {base : List Nat} (hb : base.length = 16) (hlt : ∀ x ∈ base, x < 4294967296) (h0 : ldWords s 64 = natI base.reverse ++ List.replicate 48 0) :
    ∀ j, j ≤ 48 → scWords s j = natI (hMore j base).reverse ++ List.replicate (48 - j) 0 := by
  intro j
  induction j with
  | zero => intro _; rw [scWords_zero]; exact h0
  | succ j ih =>
    intro hj
    have ih := ih (by omega)
    have hlen : (hMore j base).length = 16 + j := by rw [hMore_len, hb]
    have hl := hMore_lt hlt j
    rw [scWords_succ, ih]
    unfold scStep
    have at_ : ∀ i k, i + k = 15 + j → i < 16 + j → wd (natI (hMore j base).reverse ++ List.replicate (48 - j) 0) i = ((hMore j base).getD k 0 : Nat) := fun i k h1 h2 => by
      rw [wd_rev (by omega), hlen, show 16 + j - 1 - i = k by omega]
    rw [at_ j 15 (by omega) (by omega), at_ (j + 1) 14 (by omega) (by omega), at_ (j + 9) 6 (by omega) (by omega), at_ (j + 14) 1 (by omega) (by omega), sig0_eq (getD_lt hl 14), sig1_eq (getD_lt hl 1)]
    clear at_
    obtain ⟨m, hm⟩ : ∃ m, 48 - j = m + 1 := ⟨47 - j, by omega⟩
    rw [hm, List.replicate_succ, set_end (by simp [natI, hlen]; omega), hMore_succ, List.reverse_cons, show 48 - (j + 1) = m by omega]
    unfold natI
    rw [List.map_append, List.append_assoc]
    refine congrArg (List.map _ _ ++ ·) (congrArg (· :: _) ?_)
    unfold hNx
    rw [hNth_eq, hNth_eq, hNth_eq, hNth_eq, hS2_eq (getD_lt hl 14) (by omega) (by omega), hS2_eq (getD_lt hl 1) (by omega) (by omega)]
    rw [show Nat.xor (Nat.xor (hRot ((hMore j base).getD 14 0) 7) (hRot ((hMore j base).getD 14 0) 18)) (Nat.shiftRight ((hMore j base).getD 14 0) 3) = hX3 (hRot ((hMore j base).getD 14 0) 7) (hRot ((hMore j base).getD 14 0) 18) (Nat.shiftRight ((hMore j base).getD 14 0) 3) from rfl,
      show Nat.xor (Nat.xor (hRot ((hMore j base).getD 1 0) 17) (hRot ((hMore j base).getD 1 0) 19)) (Nat.shiftRight ((hMore j base).getD 1 0) 10) = hX3 (hRot ((hMore j base).getD 1 0) 17) (hRot ((hMore j base).getD 1 0) 19) (Nat.shiftRight ((hMore j base).getD 1 0) 10) from rfl]
    generalize hX3 (hRot ((hMore j base).getD 14 0) 7) (hRot ((hMore j base).getD 14 0) 18) (Nat.shiftRight ((hMore j base).getD 14 0) 3) = p
    generalize hX3 (hRot ((hMore j base).getD 1 0) 17) (hRot ((hMore j base).getD 1 0) 19) (Nat.shiftRight ((hMore j base).getD 1 0) 10) = q
    generalize (hMore j base).getD 15 0 = a
    generalize (hMore j base).getD 6 0 = b
    show _ = (((a + p + b + q) % 4294967296 : Nat) : Int)
    omega
/-! The words of a block's bytes. -/
def hWordAt (l : List Nat) : Nat := ((l.getD 0 0 * 256 + l.getD 1 0) * 256 + l.getD 2 0) * 256 + l.getD 3 0
theorem hWords_succ : ∀ (i : Nat) (ws l : List Nat), 4 * i + 4 ≤ l.length → hWords (i + 1) ws l = hWordAt (l.drop (4 * i)) :: hWords i ws l
  | 0, ws, a :: b :: c :: d :: r, _ => rfl
  | i + 1, ws, a :: b :: c :: d :: r, h => by
    have h1 := hWords_succ i (hWordAt (a :: b :: c :: d :: r) :: ws) r (by simp at h; omega)
    rw [show 4 * (i + 1) = 4 * i + 4 by omega]
    exact h1
  | _, _, [], h => by simp only [List.length_nil] at h; omega
  | _, _, [_], h => by simp only [List.length_cons, List.length_nil] at h; omega
  | _, _, [_, _], h => by simp only [List.length_cons, List.length_nil] at h; omega
  | _, _, [_, _, _], h => by simp only [List.length_cons, List.length_nil] at h; omega
theorem hWords_take : ∀ (i : Nat) (ws l : List Nat) (m : Nat), 4 * i ≤ m → hWords i ws (l.take m) = hWords i ws l
  | 0, _, _, _, _ => rfl
  | i + 1, ws, [], m, _ => by rw [List.take_nil]
  | i + 1, ws, [a], m, h => by
    obtain ⟨k, rfl⟩ : ∃ k, m = k + 4 := ⟨m - 4, by omega⟩
    rfl
  | i + 1, ws, [a, b], m, h => by
    obtain ⟨k, rfl⟩ : ∃ k, m = k + 4 := ⟨m - 4, by omega⟩
    rfl
  | i + 1, ws, [a, b, c], m, h => by
    obtain ⟨k, rfl⟩ : ∃ k, m = k + 4 := ⟨m - 4, by omega⟩
    rfl
  | i + 1, ws, a :: b :: c :: d :: r, m, h => by
    obtain ⟨k, rfl⟩ : ∃ k, m = k + 4 := ⟨m - 4, by omega⟩
    exact hWords_take i _ r k (by omega)
theorem or256 {x y : Nat} (hx : x < 16777216) (hy : y < 256) : bits .or .u32 ((x : Int) * 256 % 4294967296) (y : Int) = ((x * 256 + y : Nat) : Int) := by
  have e : (x : Int) * 256 % 4294967296 = ((x * 256 : Nat) : Int) := by omega
  rw [e, or_nat (by omega) (by omega)]
  have := Nat.two_pow_add_eq_or_of_lt (i := 8) hy x
  have e2 : Nat.lor (x * 256) y = x * 256 + y := by
    show x * 256 ||| y = _
    rw [Nat.mul_comm]
    exact this.symm
  rw [e2]
theorem ldStep_at {s : ByteArray} {A R : List Int} {x k : Nat} (hk : k / 4 = A.length) (hx : x < 16777216) : ldStep s (A ++ (x : Int) :: R) k = A ++ ((x * 256 + (s.data.toList.map (·.toNat)).getD k 0 : Nat) : Int) :: R := by
  have hb : bt s k = (((s.data.toList.map (·.toNat)).getD k 0 : Nat) : Int) := by
    unfold bt
    rw [List.getD_eq_getElem?_getD, List.getD_eq_getElem?_getD, List.getElem?_map]
    cases s.data.toList[k]? <;> rfl
  have hlt : (s.data.toList.map (·.toNat)).getD k 0 < 256 := by
    have := bt_bd s k
    omega
  have hw : wd (A ++ (x : Int) :: R) A.length = x := by
    unfold wd
    rw [List.getD_eq_getElem?_getD, List.getElem?_append_right (Nat.le_refl _), Nat.sub_self]
    rfl
  unfold ldStep
  rw [hk, hw, hb, or256 hx hlt, set_end rfl]
theorem ldWords_eq {s : ByteArray} {l : List Nat} (hl : s.data.toList.map (·.toNat) = l) (h64 : 64 ≤ l.length) : ∀ i, i ≤ 16 → ldWords s (4 * i) = natI (hWords i [] l).reverse ++ List.replicate (64 - i) 0 ∧ (hWords i [] l).length = i ∧ ∀ x ∈ hWords i [] l, x < 4294967296
  | 0, _ => ⟨by unfold ldWords; rfl, rfl, by intro x hx; cases hx⟩
  | i + 1, hi => by
    obtain ⟨h1, h2, h3⟩ := ldWords_eq hl h64 i (by omega)
    have hb : ∀ k, l.getD k 0 < 256 := fun k => by
      rw [List.getD_eq_getElem?_getD]
      cases hk : l[k]? with
      | none => simp
      | some x =>
        have := List.mem_of_getElem? hk
        rw [← hl] at this
        obtain ⟨u, -, rfl⟩ := List.mem_map.1 this
        exact u.toNat_lt
    have hd : ∀ k, (l.drop (4 * i)).getD k 0 = l.getD (4 * i + k) 0 := fun k => by
      rw [List.getD_eq_getElem?_getD, List.getD_eq_getElem?_getD, List.getElem?_drop]
    have b0 := hb (4 * i)
    have b1 := hb (4 * i + 1)
    have b2 := hb (4 * i + 2)
    have b3 := hb (4 * i + 3)
    have hw : hWordAt (l.drop (4 * i)) = ((l.getD (4 * i) 0 * 256 + l.getD (4 * i + 1) 0) * 256 + l.getD (4 * i + 2) 0) * 256 + l.getD (4 * i + 3) 0 := by
      unfold hWordAt
      rw [hd, hd, hd, hd, Nat.add_zero]
    rw [hWords_succ i [] l (by omega), hw]
    have hA : (natI (hWords i [] l).reverse).length = i := by simp [natI, h2]
    obtain ⟨m, hm⟩ : ∃ m, 64 - i = m + 1 := ⟨63 - i, by omega⟩
    refine ⟨?_, by rw [List.length_cons, h2], ?_⟩
    · rw [show 4 * (i + 1) = 4 * i + 1 + 1 + 1 + 1 by omega, ldWords_succ, ldWords_succ, ldWords_succ, ldWords_succ, h1, hm, List.replicate_succ, List.reverse_cons, show 64 - (i + 1) = m by omega]
      have e0 := ldStep_at (s := s) (A := natI (hWords i [] l).reverse) (R := List.replicate m 0) (x := 0) (k := 4 * i) (by rw [hA]; omega) (by omega)
      rw [show (((0 : Nat) : Nat) : Int) = 0 from rfl] at e0
      rw [e0, ldStep_at (by rw [hA]; omega) (by rw [hl]; omega), ldStep_at (by rw [hA]; omega) (by rw [hl]; omega), ldStep_at (by rw [hA]; omega) (by rw [hl]; omega), hl]
      unfold natI
      rw [List.map_append, List.append_assoc, Nat.zero_mul, Nat.zero_add]
      rfl
    · intro x hx
      rcases List.mem_cons.1 hx with rfl | hx
      · omega
      · exact h3 x hx
/-- A block. -/
theorem digI_eq {s : ByteArray} {l : List Nat} (hl : s.data.toList.map (·.toNat) = l) (h64 : 64 ≤ l.length) {v : W8} (hv : v.Ok) : digI v.toL s = (hBlock v l).toL ∧ (hBlock v l).Ok := by
  obtain ⟨h1, h2, h3⟩ := ldWords_eq hl h64 16 (Nat.le_refl _)
  have hs := scWords_eq h2 h3 h1 48 (Nat.le_refl _)
  rw [Nat.sub_self, List.replicate_zero, List.append_nil] at hs
  have hM : (hMore 48 (hWords 16 [] l)).length = 64 := by rw [hMore_len, h2]
  have hW : (hRev (hMore 48 (hWords 16 [] l)) []).length = 64 := by rw [hRev_eq, List.append_nil, List.length_reverse, hM]
  obtain ⟨g1, g2⟩ := rdAll_eq hv (ws := scWords s 48) hW (fun i hi => by
    rw [hs, hRev_eq, List.append_nil]
    unfold wd natI
    rw [List.getD_eq_getElem?_getD, List.getD_eq_getElem?_getD, List.getElem?_map]
    cases (hMore 48 (hWords 16 [] l)).reverse[i]? <;> rfl) 64 (Nat.le_refl _)
  rw [List.take_of_length_le (by rw [show hKs.length = 64 from rfl]; exact Nat.le_refl _), List.take_of_length_le (by rw [hW]; exact Nat.le_refl _)] at g1 g2
  unfold digI
  rw [g1]
  unfold hBlock
  generalize hRounds hKs (hRev (hMore 48 (hWords 16 [] l)) []) v = r at g2
  obtain ⟨a, b, c, d, e, f, g, h⟩ := r
  obtain ⟨va, vb, vc, vd, ve, vf, vg, vh⟩ := v
  have ad : ∀ x y : Nat, ((x : Int) + y) % 4294967296 = ((hAdd x y : Nat) : Int) := fun x y => by show _ = (((x + y) % 4294967296 : Nat) : Int); omega
  refine ⟨?_, ⟨hAdd_lt _ _, hAdd_lt _ _, hAdd_lt _ _, hAdd_lt _ _, hAdd_lt _ _, hAdd_lt _ _, hAdd_lt _ _, hAdd_lt _ _⟩⟩
  show [((va : Int) + a) % 4294967296, ((vb : Int) + b) % 4294967296, ((vc : Int) + c) % 4294967296, ((vd : Int) + d) % 4294967296, ((ve : Int) + e) % 4294967296, ((vf : Int) + f) % 4294967296, ((vg : Int) + g) % 4294967296, ((vh : Int) + h) % 4294967296] = _
  rw [ad, ad, ad, ad, ad, ad, ad, ad]
  rfl
theorem bytes_extract (s : ByteArray) (a b : Nat) : (s.extract a b).data.toList.map (·.toNat) = ((s.data.toList.map (·.toNat)).take b).drop a := by
  rw [ByteArray.data_extract, Array.toList_extract, List.extract_eq_take_drop, ← List.map_take, ← List.map_drop, List.drop_take]
theorem blkI_eq : ∀ (n : Nat) {s : ByteArray} {l : List Nat}, s.data.toList.map (·.toNat) = l → 64 * n ≤ l.length → ∀ {v : W8}, v.Ok → blkI n v.toL s = (hBlocks n v l).toL ∧ (hBlocks n v l).Ok
  | 0, _, _, _, _, v, hv => ⟨rfl, hv⟩
  | n + 1, s, l, hl, hn, v, hv => by
    have hb1 : (s.extract 0 64).data.toList.map (·.toNat) = l.take 64 := by rw [bytes_extract, hl, List.drop_zero]
    have hsz : s.size = l.length := by rw [← hl]; simp
    have hb2 : (s.extract 64 s.size).data.toList.map (·.toNat) = l.drop 64 := by rw [bytes_extract, hl, hsz, List.take_length]
    obtain ⟨d1, d2⟩ := digI_eq hb1 (by rw [List.length_take]; omega) hv
    have hk : hBlock v (l.take 64) = hBlock v l := by
      unfold hBlock
      rw [hWords_take 16 [] l 64 (by omega)]
    rw [hk] at d1 d2
    show blkI n (digI v.toL (s.extract 0 64)) (s.extract 64 s.size) = (hBlocks n (hBlock v l) (hDrop l 64)).toL ∧ (hBlocks n (hBlock v l) (hDrop l 64)).Ok
    rw [d1, hDrop_eq]
    exact blkI_eq n hb2 (by rw [List.length_drop]; omega) d2
theorem hZero_eq : ∀ n, hZero n = List.replicate n 0
  | 0 => rfl
  | n + 1 => congrArg (0 :: ·) (hZero_eq n)
theorem pad_eq (s : ByteArray) {l : List Nat} (hl : s.data.toList.map (·.toNat) = l) (hs : s.size ≤ 1000000000) : (padS s).data.toList.map (·.toNat) = l ++ hPad l.length := by
  have hsz : s.size = l.length := by rw [← hl]; simp
  unfold padS
  rw [ByteArray.data_append, Array.toList_append, List.map_append, hl, strOfNums_data, List.map_map]
  congr 1
  unfold tailI hPad
  rw [hsz] at hs ⊢
  rw [List.map_append, List.map_cons, List.map_replicate, hZero_eq, List.map_map]
  generalize l.length = n at hs
  show (128 :: List.replicate (Nat.mod (Nat.sub 119 (Nat.mod n 64)) 64) 0) ++ List.map (((fun x : UInt8 => x.toNat) ∘ fun n : Int => UInt8.ofNat n.toNat) ∘ lenB n) (List.range 8) = 128 :: (List.replicate (Nat.mod (Nat.sub 119 (Nat.mod n 64)) 64) 0 ++ _)
  rw [List.cons_append]
  congr 2
  · skip
    have key : ∀ k : Nat, (UInt8.ofNat (((8 * n : Int) / 2 ^ k % 256).toNat)).toNat = Nat.mod (Nat.shiftRight (Nat.mul 8 n) k) 256 := fun k => by
      have e : ((8 * n : Int) / 2 ^ k % 256) = (((8 * n) >>> k % 256 : Nat) : Int) := by
        rw [Nat.shiftRight_eq_div_pow]
        simp
      rw [e, Int.toNat_natCast, UInt8.toNat_ofNat', Nat.mod_mod]
      rfl
    have k56 := key 56
    have k48 := key 48
    have k40 := key 40
    have k32 := key 32
    have k24 := key 24
    have k16 := key 16
    have k8 := key 8
    have k0 := key 0
    show [(UInt8.ofNat (((8 * n : Int) / 2 ^ 56 % 256).toNat)).toNat, (UInt8.ofNat (((8 * n : Int) / 2 ^ 48 % 256).toNat)).toNat, (UInt8.ofNat (((8 * n : Int) / 2 ^ 40 % 256).toNat)).toNat, (UInt8.ofNat (((8 * n : Int) / 2 ^ 32 % 256).toNat)).toNat, (UInt8.ofNat (((8 * n : Int) / 2 ^ 24 % 256).toNat)).toNat, (UInt8.ofNat (((8 * n : Int) / 2 ^ 16 % 256).toNat)).toNat, (UInt8.ofNat (((8 * n : Int) / 2 ^ 8 % 256).toNat)).toNat, (UInt8.ofNat (((8 * n : Int) / 2 ^ 0 % 256).toNat)).toNat] = _
    rw [k56, k48, k40, k32, k24, k16, k8, k0]
theorem byI_eq {w : Nat} (i : Nat) (h : i < 4) : (w : Int) / 2 ^ (24 - 8 * i) % 256 = (hByte w i : Nat) := by
  unfold hByte
  show _ = (((w >>> (24 - 8 * i)) % 256 : Nat) : Int)
  rw [Nat.shiftRight_eq_div_pow]
  simp
/-- The sum. -/
theorem sumI_eq (s : ByteArray) {l : List Nat} (hl : s.data.toList.map (·.toNat) = l) (hs : s.size ≤ 1000000000) : sumI s = natI (hSum l) := by
  have hsz : s.size = l.length := by rw [← hl]; simp
  have hp := pad_eq s hl hs
  have hz : hBeg = W8.toL ⟨1779033703, 3144134277, 1013904242, 2773480762, 1359893119, 2600822924, 528734635, 1541459225⟩ := rfl
  have hlen : (l ++ hPad l.length).length = (padS s).size := by rw [← hp]; simp
  have hps : (padS s).size = 64 * ((l.length + 72) / 64) := by
    unfold padS
    rw [ByteArray.size_append, strOfNums_size, hsz]
    unfold tailI padZ
    simp only [List.length_append, List.length_cons, List.length_replicate, List.length_map, List.length_range]
    omega
  have hn : (padS s).size / 64 = Nat.div (Nat.add l.length 72) 64 := by
    rw [hps]
    show _ = (l.length + 72) / 64
    omega
  obtain ⟨g1, -⟩ := blkI_eq (Nat.div (Nat.add l.length 72) 64) hp (by rw [hlen, ← hn]; omega) (v := ⟨1779033703, 3144134277, 1013904242, 2773480762, 1359893119, 2600822924, 528734635, 1541459225⟩) ⟨by decide, by decide, by decide, by decide, by decide, by decide, by decide, by decide⟩
  unfold sumI
  rw [hn, hz, g1]
  unfold hSum
  generalize hBlocks (Nat.div (Nat.add l.length 72) 64) ⟨1779033703, 3144134277, 1013904242, 2773480762, 1359893119, 2600822924, 528734635, 1541459225⟩ (l ++ hPad l.length) = r
  obtain ⟨a, b, c, d, e, f, g, h⟩ := r
  obtain ⟨L, hL⟩ : ∃ L, L = W8.toL ⟨a, b, c, d, e, f, g, h⟩ := ⟨_, rfl⟩
  have c0 : byI L 0 = ((hByte a 0 : Nat) : Int) := by rw [hL]; exact byI_eq 0 (by omega)
  have c1 : byI L 1 = ((hByte a 1 : Nat) : Int) := by rw [hL]; exact byI_eq 1 (by omega)
  have c2 : byI L 2 = ((hByte a 2 : Nat) : Int) := by rw [hL]; exact byI_eq 2 (by omega)
  have c3 : byI L 3 = ((hByte a 3 : Nat) : Int) := by rw [hL]; exact byI_eq 3 (by omega)
  have c4 : byI L 4 = ((hByte b 0 : Nat) : Int) := by rw [hL]; exact byI_eq 0 (by omega)
  have c5 : byI L 5 = ((hByte b 1 : Nat) : Int) := by rw [hL]; exact byI_eq 1 (by omega)
  have c6 : byI L 6 = ((hByte b 2 : Nat) : Int) := by rw [hL]; exact byI_eq 2 (by omega)
  have c7 : byI L 7 = ((hByte b 3 : Nat) : Int) := by rw [hL]; exact byI_eq 3 (by omega)
  have c8 : byI L 8 = ((hByte c 0 : Nat) : Int) := by rw [hL]; exact byI_eq 0 (by omega)
  have c9 : byI L 9 = ((hByte c 1 : Nat) : Int) := by rw [hL]; exact byI_eq 1 (by omega)
  have c10 : byI L 10 = ((hByte c 2 : Nat) : Int) := by rw [hL]; exact byI_eq 2 (by omega)
  have c11 : byI L 11 = ((hByte c 3 : Nat) : Int) := by rw [hL]; exact byI_eq 3 (by omega)
  have c12 : byI L 12 = ((hByte d 0 : Nat) : Int) := by rw [hL]; exact byI_eq 0 (by omega)
  have c13 : byI L 13 = ((hByte d 1 : Nat) : Int) := by rw [hL]; exact byI_eq 1 (by omega)
  have c14 : byI L 14 = ((hByte d 2 : Nat) : Int) := by rw [hL]; exact byI_eq 2 (by omega)
  have c15 : byI L 15 = ((hByte d 3 : Nat) : Int) := by rw [hL]; exact byI_eq 3 (by omega)
  have c16 : byI L 16 = ((hByte e 0 : Nat) : Int) := by rw [hL]; exact byI_eq 0 (by omega)
  have c17 : byI L 17 = ((hByte e 1 : Nat) : Int) := by rw [hL]; exact byI_eq 1 (by omega)
  have c18 : byI L 18 = ((hByte e 2 : Nat) : Int) := by rw [hL]; exact byI_eq 2 (by omega)
  have c19 : byI L 19 = ((hByte e 3 : Nat) : Int) := by rw [hL]; exact byI_eq 3 (by omega)
  have c20 : byI L 20 = ((hByte f 0 : Nat) : Int) := by rw [hL]; exact byI_eq 0 (by omega)
  have c21 : byI L 21 = ((hByte f 1 : Nat) : Int) := by rw [hL]; exact byI_eq 1 (by omega)
  have c22 : byI L 22 = ((hByte f 2 : Nat) : Int) := by rw [hL]; exact byI_eq 2 (by omega)
  have c23 : byI L 23 = ((hByte f 3 : Nat) : Int) := by rw [hL]; exact byI_eq 3 (by omega)
  have c24 : byI L 24 = ((hByte g 0 : Nat) : Int) := by rw [hL]; exact byI_eq 0 (by omega)
  have c25 : byI L 25 = ((hByte g 1 : Nat) : Int) := by rw [hL]; exact byI_eq 1 (by omega)
  have c26 : byI L 26 = ((hByte g 2 : Nat) : Int) := by rw [hL]; exact byI_eq 2 (by omega)
  have c27 : byI L 27 = ((hByte g 3 : Nat) : Int) := by rw [hL]; exact byI_eq 3 (by omega)
  have c28 : byI L 28 = ((hByte h 0 : Nat) : Int) := by rw [hL]; exact byI_eq 0 (by omega)
  have c29 : byI L 29 = ((hByte h 1 : Nat) : Int) := by rw [hL]; exact byI_eq 1 (by omega)
  have c30 : byI L 30 = ((hByte h 2 : Nat) : Int) := by rw [hL]; exact byI_eq 2 (by omega)
  have c31 : byI L 31 = ((hByte h 3 : Nat) : Int) := by rw [hL]; exact byI_eq 3 (by omega)
  rw [← hL]
  have hall : ∀ n, n ≤ 32 → byAll L n = (List.range n).map (byI L) ++ List.replicate (32 - n) 0 := by
    intro n
    induction n with
    | zero => intro _; rfl
    | succ n ih =>
      intro hn
      have e : byAll L (n + 1) = (byAll L n).set n (byI L n) := by simp [byAll, List.range_succ]
      obtain ⟨m, hm⟩ : ∃ m, 32 - n = m + 1 := ⟨31 - n, by omega⟩
      rw [e, ih (by omega), hm, List.replicate_succ, set_end (by simp), List.range_succ, List.map_append, List.append_assoc, show 32 - (n + 1) = m by omega]
      rfl
  rw [hall 32 (Nat.le_refl _), Nat.sub_self, List.replicate_zero, List.append_nil]
  show [byI L 0, byI L 1, byI L 2, byI L 3, byI L 4, byI L 5, byI L 6, byI L 7, byI L 8, byI L 9, byI L 10, byI L 11, byI L 12, byI L 13, byI L 14, byI L 15, byI L 16, byI L 17, byI L 18, byI L 19, byI L 20, byI L 21, byI L 22, byI L 23, byI L 24, byI L 25, byI L 26, byI L 27, byI L 28, byI L 29, byI L 30, byI L 31] = [((hByte a 0 : Nat) : Int), ((hByte a 1 : Nat) : Int), ((hByte a 2 : Nat) : Int), ((hByte a 3 : Nat) : Int), ((hByte b 0 : Nat) : Int), ((hByte b 1 : Nat) : Int), ((hByte b 2 : Nat) : Int), ((hByte b 3 : Nat) : Int), ((hByte c 0 : Nat) : Int), ((hByte c 1 : Nat) : Int), ((hByte c 2 : Nat) : Int), ((hByte c 3 : Nat) : Int), ((hByte d 0 : Nat) : Int), ((hByte d 1 : Nat) : Int), ((hByte d 2 : Nat) : Int), ((hByte d 3 : Nat) : Int), ((hByte e 0 : Nat) : Int), ((hByte e 1 : Nat) : Int), ((hByte e 2 : Nat) : Int), ((hByte e 3 : Nat) : Int), ((hByte f 0 : Nat) : Int), ((hByte f 1 : Nat) : Int), ((hByte f 2 : Nat) : Int), ((hByte f 3 : Nat) : Int), ((hByte g 0 : Nat) : Int), ((hByte g 1 : Nat) : Int), ((hByte g 2 : Nat) : Int), ((hByte g 3 : Nat) : Int), ((hByte h 0 : Nat) : Int), ((hByte h 1 : Nat) : Int), ((hByte h 2 : Nat) : Int), ((hByte h 3 : Nat) : Int)]
  rw [c0, c1, c2, c3, c4, c5, c6, c7, c8, c9, c10, c11, c12, c13, c14, c15, c16, c17, c18, c19, c20, c21, c22, c23, c24, c25, c26, c27, c28, c29, c30, c31]
end Go.Proofs.YtjckpgcmfieaoaaGreatDoor
namespace Go.Proofs.YtjckpgcmfieaoaaGreatDoor
open Go.RowKit Go.Shelf
attribute [local go_sem] Oper.semAt_some

/-- The places from d down to k at which i has a bit. -/
def hiB (i d k : Nat) : List Nat := ((List.range' k (d - k)).reverse).filter fun b => i.testBit b
theorem hiB_top (i d : Nat) : hiB i d d = [] := by simp [hiB]
theorem hiB_step {i d k : Nat} (h : k < d) : hiB i d k = hiB i d (k + 1) ++ (if i.testBit k then [k] else []) := by
  unfold hiB
  rw [show d - k = (d - (k + 1)) + 1 by omega, List.range'_succ, List.reverse_cons, List.filter_append]
  cases hb : i.testBit k <;> simp [hb]
theorem hiB_prefix {i d : Nat} : ∀ {k : Nat}, k ≤ d → hiB i d k <+: hiB i d 0
  | 0, _ => List.prefix_refl _
  | k + 1, h => by
    refine List.IsPrefix.trans ?_ (hiB_prefix (k := k) (by omega))
    rw [hiB_step (show k < d by omega)]
    exact List.prefix_append _ _
/-- The same, as what the rounds are handed. -/
def hiF (i d k : Nat) : List (Fin 16) := (hiB i d k).map (Fin.ofNat 16)
theorem hiF_top (i d : Nat) : hiF i d d = [] := by unfold hiF; rw [hiB_top]; rfl
theorem hiF_step {i d k : Nat} (h : k < d) (hk : k < 16) : hiF i d k = hiF i d (k + 1) ++ (if i.testBit k then [⟨k, hk⟩] else []) := by
  unfold hiF
  rw [hiB_step h, List.map_append]
  have e : Fin.ofNat 16 k = ⟨k, hk⟩ := Fin.ext (Nat.mod_eq_of_lt hk)
  cases i.testBit k <;> simp [e]
theorem hiF_prefix {i d k : Nat} (h : k ≤ d) : hiF i d k <+: hiF i d 0 := by
  obtain ⟨r, hr⟩ := hiB_prefix (i := i) h
  exact ⟨r.map (Fin.ofNat 16), by unfold hiF; rw [← List.map_append, hr]⟩
theorem hiF_val {i d : Nat} (hd : d ≤ 16) : (hiF i d 0).map (·.1) = hiB i d 0 := by
  unfold hiF
  rw [List.map_map]
  refine (List.map_congr_left (g := id) fun b hb => ?_).trans (List.map_id _)
  have : b < 16 := by
    unfold hiB at hb
    rw [List.mem_filter, List.mem_reverse, List.mem_range'_1] at hb
    omega
  exact Nat.mod_eq_of_lt this
theorem shr_nat (i k : Nat) : (i : Int) / 2 ^ k = ((i / 2 ^ k : Nat) : Int) := by
  rw [Int.natCast_ediv]
  rfl
theorem and_one (x : Nat) (h : x < 9223372036854775808) : bits .and .i64 (x : Int) 1 = ((x % 2 : Nat) : Int) := by
  show IntKind.i64.wrap ((BitVec.ofInt 64 (x : Int) &&& BitVec.ofInt 64 (1 : Int)).toNat : Int) = _
  rw [BitVec.toNat_and, ofInt64_nat _ (by omega), show (BitVec.ofInt 64 (1 : Int)).toNat = 1 from rfl, Nat.and_one_is_mod, i64_nat _ (by omega)]
theorem bit_test (i k : Nat) (h : i < 65536) : (bits .and .i64 ((i : Int) / 2 ^ k) 1 == 1) = i.testBit k := by
  have hl : i / 2 ^ k < 65536 := Nat.lt_of_le_of_lt (Nat.div_le_self _ _) h
  rw [shr_nat, and_one _ (by omega), Nat.testBit_eq_decide_div_mod_eq]
  rcases Nat.mod_two_eq_zero_or_one (i / 2 ^ k) with e | e <;> rw [e] <;> rfl
/-- A block of one cell holds what it held. -/
def KpB (B : Nat) (W W' : World) : Prop := ∀ v, W.cell? ⟨B, 0, none⟩ = some v → W'.cell? ⟨B, 0, none⟩ = some v
set_option maxRecDepth 100000 in
set_option maxHeartbeats 2000000 in
theorem ones1_in (F : Fence) (n : Nat) (h6 : F.fn 361) (hro : F.round = none) (hn : 1 ≤ n) (l Bd Bi : Nat) (i d : Nat) (hi : i < 65536) (hd : d ≤ 16) (J Jx : List (Fin 16) → World → Prop)
    (hY : ∀ pre x W, J pre W → pre.length < 16 → YieldAt F (n - 1) Tryz.prog l #[.int .i64 (x.1 : Nat)] W fun e W' =>
      (e = .returned (.bool true) ∧ J (pre ++ [x]) W' ∧ KpB Bi W W') ∨ (e = .returned (.bool false) ∧ Jx (pre ++ [x]) W'))
    (W : World) (hBd : W.cell? ⟨Bd, 0, none⟩ = some (.int .i64 d)) (hBi : W.cell? ⟨Bi, 0, none⟩ = some (.int .i64 i)) (h0 : J [] W) :
    CallsIn F n Tryz.prog 361 #[.func (.yield l) #[] #[], .pointer (some ⟨Bd, 0, none⟩), .pointer (some ⟨Bi, 0, none⟩)] W fun e W' => (∃ v, e = .returned v) ∧
      ((∃ ys, ys = hiF i d 0 ∧ J ys W') ∨ (∃ pre, pre <+: hiF i d 0 ∧ Jx pre W')) := by
  refine callsIn_of_wp Tryz.func361 rfl h6 ?_ hro
  simp only [Tryz.ntmps361, List.size_toArray, List.length_cons, List.length_nil, Nat.reduceAdd, Nat.reduceSub, Array.replicate_succ, Array.replicate_zero, List.push_toArray, List.append_toArray, List.nil_append, List.cons_append]
  have hw : IntKind.i64.wrap ((d : Int) - 1) = (d : Int) - 1 := by rw [IntKind.wrap_i64]; omega
  gi_wp2
  gi_loopw [4] (fun p wr => ∃ k : Nat, p = .int .i64 ((k : Int) - 1) ∧ k ≤ d ∧ J (hiF i d k) wr ∧ wr.cell? ⟨Bi, 0, none⟩ = some (.int .i64 i)) (fun p wr => (intOf p + 1).toNat)
  case atStart => exact ⟨d, by simp, Nat.le_refl _, by rw [hiF_top]; exact h0, hBi⟩
  case round =>
    obtain ⟨k, rfl, hk, hJ, hBi'⟩ := hrel
    cases k with
    | zero =>
      gi_wp2
      go_end0
      exact ⟨⟨_, rfl⟩, .inl ⟨hiF i d 0, rfl, hJ⟩⟩
    | succ k =>
      have hk0 : ((k + 1 : Nat) : Int) - 1 = (k : Int) := by omega
      rw [hk0]
      have hk1 : (0 : Int) ≤ (k : Int) := by omega
      have hlen : (hiF i d (k + 1)).length < 16 := by
        unfold hiF hiB
        rw [List.length_map]
        refine Nat.lt_of_le_of_lt (List.length_filter_le _ _) ?_
        simp
        omega
      obtain ⟨fn, tmps, assign, body, hy, hR⟩ := hY (hiF i d (k + 1)) ⟨k, by omega⟩ wr hJ hlen
      dsimp only at hy
      have htest := bit_test i k hi
      have hst := hiF_step (i := i) (show k < d from hk) (by omega)
      cases htb : i.testBit k with
      | true =>
        rw [htb, if_pos rfl] at hst
        rw [htb] at htest
        have HST := hide hst
        clear hst
        gi_wp2
        refine hR.mono ?_
        rintro e W3 (⟨rfl, hJ3, hk3⟩ | ⟨rfl, hJx3⟩)
        · have hBi3 : W3.cell? ⟨Bi, 0, none⟩ = some (.int .i64 i) := hk3 _ hBi'
          have hwk : IntKind.i64.wrap ((k : Int) - 1) = (k : Int) - 1 := by rw [IntKind.wrap_i64]; omega
          gi_wp2
          go_roundw
          case rel => exact ⟨k, rfl, by omega, by rw [unhide HST]; exact hJ3, hBi3⟩
          case measure => simp [intOf]
        · gi_wp2
          refine bodyPost_ret (results_none rfl _ _ _) rfl ?_
          refine ⟨⟨_, rfl⟩, .inr ⟨hiF i d (k + 1) ++ [⟨k, by omega⟩], ?_, hJx3⟩⟩
          rw [← unhide HST]
          exact hiF_prefix (by omega)
      | false =>
        rw [htb, if_neg (by simp), List.append_nil] at hst
        rw [htb] at htest
        have hwk : IntKind.i64.wrap ((k : Int) - 1) = (k : Int) - 1 := by rw [IntKind.wrap_i64]; omega
        rw [← hst] at hJ
        clear hst hR hy
        gi_wp2
        refine ⟨fun _ h => (by cases h), ?_⟩
        gi_wp2
        go_roundw
        case rel => exact ⟨k, rfl, by omega, hJ, hBi'⟩
        case measure => simp [intOf]

end Go.Proofs.YtjckpgcmfieaoaaGreatDoor
namespace Go.Proofs.YtjckpgcmfieaoaaGreatDoor
open Go.RowKit

/-- v holds the bytes xs in a block from base on, of which no cell is frozen. -/
def BytesG (w : World) (base : Nat) (v : Value) (xs : List Int) : Prop :=
  ∃ g cap cur fz, v = .slice (some ⟨g, 0, none⟩) xs.length cap ∧ base ≤ g ∧ w.heap[g]? = some (.cells cur 5 fz) ∧ (fz = (0, 0) ∨ cur.size ≤ fz.1) ∧ xs.length ≤ cap ∧ cur.size = cap ∧ cur.toList.take xs.length = xs.map (Value.int .u8)
theorem BytesG.shape {w : World} {base : Nat} {v : Value} {xs : List Int} (h : BytesG w base v xs) : ∃ a c, v = .slice (some a) xs.length c := by
  obtain ⟨g, cap, cur, fz, rfl, _⟩ := h
  exact ⟨_, _, rfl⟩
theorem BytesG.ge {w : World} {base : Nat} {v : Value} {xs : List Int} (h : BytesG w base v xs) {k : Nat} (hk : v.ownBlock = some k) : base ≤ k ∧ k < w.heap.size := by
  obtain ⟨g, cap, cur, fz, rfl, e2, hg, _⟩ := h
  simp [Value.ownBlock] at hk
  subst hk
  exact ⟨e2, blk_lt hg⟩
theorem BytesG.upd {S : Nat → Prop} {w w' : World} {base : Nat} {v : Value} {xs : List Int} (h : BytesG w base v xs) (u : Upd S w w') (hS : ∀ k, v.ownBlock = some k → ¬ S k) : BytesG w' base v xs := by
  obtain ⟨g, cap, cur, fz, e1, e2, hg, r⟩ := h
  exact ⟨g, cap, cur, fz, e1, e2, u.old hg (hS g (by rw [e1]; rfl)), r⟩
theorem BytesG.ofO {w : World} {base : Nat} {v : Value} {xs : List Int} (h : BytesO w base v xs) (hn : 0 < xs.length) : BytesG w base v xs := by
  rcases h.2 with ⟨rfl, e⟩ | ⟨g, cap, cur, rfl, e2, hg, e3, e4, e5, e6⟩
  · omega
  · exact ⟨g, cap, cur, (0, 0), rfl, e2, hg, .inl rfl, e3, by omega, by simpa using e6⟩
def bytesI (s : ByteArray) : List Int := s.data.toList.map fun c => (c.toNat : Int)
theorem bytesI_len (s : ByteArray) : (bytesI s).length = s.size := by
  unfold bytesI
  rw [List.length_map, Array.length_toList]
  rfl
/-- '[]byte(s)'. -/
theorem BytesG.ofS (w : World) (s : ByteArray) (cap base : Nat) (hb : base ≤ w.heap.size) (hc : s.size ≤ cap) :
    BytesG (w.drew.alloc (.cells (bytesRow s cap) 5 ((bytesRow s cap).size, (bytesRow s cap).size + 1))) base (.slice (some ⟨w.heap.size, 0, none⟩) s.size cap) (bytesI s) := by
  have hsz : (bytesRow s cap).size = cap := by
    unfold bytesRow
    have : s.data.size = s.size := rfl
    simp
    omega
  refine ⟨w.heap.size, cap, bytesRow s cap, ((bytesRow s cap).size, (bytesRow s cap).size + 1), by rw [bytesI_len], hb, ?_, .inr (Nat.le_refl _), by rw [bytesI_len]; exact hc, hsz, ?_⟩
  · exact blk_alloc w.drew _
  · unfold bytesRow bytesI
    rw [Array.toList_append, List.take_append_of_le_length (by simp)]
    simp
    rw [List.take_of_length_le (by simp)]
    rfl

/-- 'append(b, c)'. -/
theorem append_byteG {ops : Array Oper} {rest : List Oper} {o : Oper} {a : Act} {Q : Exit → Act → World → Prop} (hgd : o.guard = none) (s x : Operand)
    (ho : o.op = .call { callee := .builtin .append, args := #[s, x], argTypes := #[157, 157] })
    (base : Nat) (v : Value) (xs : List Int) (hs : a.eval s = v) (c : Int) (T : TypeId) (w : World) (hx : a.eval x = .slice (some ⟨w.heap.size, 0, none⟩) 1 1) (hown : BytesG w base v xs) (hl : xs.length ≤ 1073741824) (hb : base ≤ w.heap.size)
    (h : ∀ v' w', BytesG w' base v' (xs ++ [c]) → Upd (fun k => v.ownBlock = some k) w w' → wpList Tryz.prog ops Q rest (a.put o.dst v') w') :
    wpList Tryz.prog ops Q (o :: rest) a (w.alloc (.cells #[.int .u8 c] T)) := by
  obtain ⟨i, hi, hz0, hz1, hz2⟩ := info_parts Tryz.infoU8
  obtain ⟨g, cap, cur, fz, rfl, e2, hg, hf, e3, e4, e6⟩ := hown
  have hg1 : (w.alloc (.cells #[.int .u8 c] T)).heap[g]? = some (.cells cur 5 fz) := blk_alloc_old hg _
  have hnew : ∀ j u, [Value.int .u8 c][j]? = some u → (w.alloc (.cells #[.int .u8 c] T)).cell? ((⟨w.heap.size, 0, none⟩ : Addr).add j) = some u := by
    intro j u hj
    have hadd : (⟨w.heap.size, 0, none⟩ : Addr).add j = ⟨w.heap.size, j, none⟩ := by unfold Addr.add; split <;> simp_all
    rw [hadd, blk_cell (blk_alloc _ _)]
    simpa using hj
  have hone : ∀ u ∈ [Value.int .u8 c], u.oneCell' = true := by
    intro u hu
    obtain rfl := List.mem_singleton.1 hu
    rfl
  by_cases hroom : xs.length + 1 ≤ cap
  · refine wpList_append_room_src _ hgd s x 157 157 ho 5 i Tryz.underlying157 hi g 0 xs.length cap hs _ hx 1 [.int .u8 c] (Src.ofSlice _ Tryz.underlying157 ⟨w.heap.size, 0, none⟩ 1 1 _ (by rw [hz1]; rfl) hnew hone) hroom ?_ ?_ ?_
    · intro j hj
      rw [blk_cell hg1]
      simp only [List.length_cons, List.length_nil] at hj
      rw [Array.getElem?_eq_getElem (by rw [hz1]; omega)]
      rfl
    · intro j hj
      simp only [List.length_cons, List.length_nil] at hj
      have hlt : 0 + xs.length * i.size + j < cur.size := by rw [hz1]; omega
      unfold World.frozen?
      rw [hg1]
      rcases hf with rfl | hf
      · simp
      · obtain ⟨lo, hi'⟩ := fz
        simp only at hf ⊢
        rw [show decide (lo ≤ 0 + xs.length * i.size + j) = false by simpa using by omega]
        rfl
    · refine h _ _ ⟨g, cap, cur.setIfInBounds xs.length (.int .u8 c), fz, by simp, e2, ?_, by simpa using hf, by simpa using hroom, by simpa using e4, ?_⟩ ?_
      · have := blk_set hg1 (0 + xs.length * i.size) (.int .u8 c)
        rw [show 0 + xs.length * i.size = xs.length by rw [hz1]; omega] at this
        simpa [World.setCells, hz1] using this
      · rw [List.length_append, List.map_append, Array.toList_setIfInBounds]
        simp only [List.length_cons, List.length_nil, List.map_cons, List.map_nil, Nat.zero_add]
        have hle : xs.length < cur.toList.length := by
          have h9 : cur.toList.length = cur.size := Array.length_toList
          omega
        rw [List.take_add_one, List.take_set_of_le (Nat.le_refl _), e6, List.getElem?_set_self hle]
        rfl
      · have u0 : Upd (fun k => (Value.slice (some ⟨g, 0, none⟩) xs.length cap).ownBlock = some k) w (w.alloc (.cells #[.int .u8 c] T)) := (Upd.refl _ _).alloc _
        simp only [World.setCells]
        exact u0.setCell (p := ⟨g, 0 + xs.length * i.size, none⟩) (fun _ => rfl) _
  · refine wpList_append_grows _ hgd s x 157 ho 5 i (.int .u8 0) 1 1 Tryz.underlying157 hi hz0 hz1 hz2 rfl (by decide) (some ⟨g, 0, none⟩) xs.length cap (xs.map (Value.int .u8)) hs (fun h => by cases h) (by simp) ?_ ⟨w.heap.size, 0, none⟩ 1 1 [.int .u8 c] hx rfl hnew hone (by omega) (by unfold maxLen; omega) (by omega) ?_
    · intro b hb2 j u hj
      obtain rfl : (⟨g, 0, none⟩ : Addr) = b := Option.some.inj hb2
      have hjl : j < xs.length := by
        have := (List.getElem?_eq_some_iff.1 hj).1
        simpa using this
      have hadd : (⟨g, 0, none⟩ : Addr).add j = ⟨g, j, none⟩ := by unfold Addr.add; split <;> simp_all
      rw [hadd, blk_cell hg1, ← Array.getElem?_toList]
      rw [← e6, List.getElem?_take_of_lt hjl] at hj
      exact hj
    · intro v' w' ho' hgr
      refine h v' w' (BytesG.ofO (xs := xs ++ [c]) ?_ (by simp)) ((((Upd.refl _ w).alloc _)).grown hgr (fun k e _ => by cases e))
      unfold BytesO
      rw [List.length_append, List.map_append]
      refine ⟨ho'.1, ?_⟩
      rcases ho'.2 with h2 | ⟨g2, cap2, cur2, h1, h2, h3⟩
      · exact .inl h2
      · exact .inr ⟨g2, cap2, cur2, h1, by simp at h2; omega, h3⟩
theorem run_string_G {w : World} {base : Nat} {v : Value} {xs : List Int} (h : BytesG w base v xs) : (convert 157 9 v).run Tryz.prog w = .ok (.string (strOfNums xs)) w := by
  obtain ⟨g, cap, cur, fz, rfl, e2, hg, hf, e3, e4, e6⟩ := h
  refine run_convert_bytes_arg w 157 5 Tryz.underlying157 Tryz.underlying5 g 0 xs.length cap xs rfl (fun i hi => ?_) 9 Tryz.underlying9
  have h1 : cur.toList[i]? = (xs.map (Value.int .u8))[i]? := by rw [← e6, List.getElem?_take_of_lt (by omega)]
  rw [Nat.zero_add, blk_cell hg i, ← Array.getElem?_toList, h1, List.getElem?_map, List.getElem?_eq_getElem hi]
  simp [List.getD, List.getElem?_eq_getElem hi]

end Go.Proofs.YtjckpgcmfieaoaaGreatDoor
