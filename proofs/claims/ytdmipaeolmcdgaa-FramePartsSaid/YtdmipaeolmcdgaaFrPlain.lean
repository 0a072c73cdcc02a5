/-
  Plain facts on bytes: frames put one behind the other. No program in sight.
-/
import Derived.Test.YtdmipaeolmcdgaaFr1
import Derived.Lib.Strings
namespace Go.Proofs.Ytdmipaeolmcdgaa
open Go.RowKit

theorem ba_ext {a b : ByteArray} (h : a.data.toList = b.data.toList) : a = b := by
  cases a; cases b
  simp at h
  subst h
  rfl
theorem toList_append (a b : ByteArray) : (a ++ b).data.toList = a.data.toList ++ b.data.toList := by simp
theorem toList_extract (s : ByteArray) (i j : Nat) : (s.extract i j).data.toList = (s.data.toList.drop i).take (j - i) := by
  simp [ByteArray.data_extract, List.extract_eq_take_drop]
theorem toList_size (s : ByteArray) : s.data.toList.length = s.size := by rw [Array.length_toList]; rfl
theorem nil_append (s : ByteArray) : (⟨#[]⟩ : ByteArray) ++ s = s := ba_ext (by rw [toList_append]; rfl)
theorem append_nil' (s : ByteArray) : s ++ (⟨#[]⟩ : ByteArray) = s := ba_ext (by rw [toList_append]; simp)
theorem append_assoc' (a b c : ByteArray) : (a ++ b) ++ c = a ++ (b ++ c) := ba_ext (by simp only [toList_append, List.append_assoc])
theorem size_append' (a b : ByteArray) : (a ++ b).size = a.size + b.size := ByteArray.size_append
theorem bt_append (a b : ByteArray) (n : Nat) (h : n < a.size) : bt (a ++ b) n = bt a n := by
  unfold bt
  rw [toList_append, List.getD_eq_getElem?_getD, List.getD_eq_getElem?_getD, List.getElem?_append_left (by rw [toList_size]; exact h)]
/-- Two bytes of a length. -/
def two (k : Int) : ByteArray := strOfNums [k / 256, k % 256]
theorem two_size (k : Int) : (two k).size = 2 := strOfNums_size _
theorem hd_two (k : Int) (s : ByteArray) (h0 : 0 ≤ k) (h1 : k ≤ 65535) : hd (two k ++ s) = k := by
  unfold hd
  rw [bt_append _ _ 0 (by rw [two_size]; omega), bt_append _ _ 1 (by rw [two_size]; omega)]
  have e0 : bt (two k) 0 = k / 256 := by
    show ((UInt8.ofNat (k / 256).toNat).toNat : Int) = _
    rw [UInt8.toNat_ofNat']
    omega
  have e1 : bt (two k) 1 = k % 256 := by
    show ((UInt8.ofNat (k % 256).toNat).toNat : Int) = _
    rw [UInt8.toNat_ofNat']
    omega
  rw [e0, e1]
  omega
theorem bad_two (k : Int) (s : ByteArray) (h0 : k = 0 ∨ 1024 < k) (h1 : 0 ≤ k) (h2 : k ≤ 65535) : badB (two k ++ s) = true := by
  have hs : 2 ≤ (two k ++ s).size := by rw [size_append', two_size]; omega
  have e := hd_two k s h1 h2
  rcases h0 with h | h
  · exact badB_zero hs (by rw [e]; exact h)
  · exact badB_great hs (by rw [e]; exact h)
theorem framed_eq (s : ByteArray) : framed s = two s.size ++ s := rfl
theorem framed_size (s : ByteArray) : (framed s).size = 2 + s.size := by rw [framed_eq, size_append', two_size]
theorem hd_framed (g t : ByteArray) (h1 : g.size ≤ 1024) : hd (framed g ++ t) = g.size := by
  rw [framed_eq, append_assoc', hd_two _ _ (by omega) (by omega)]
theorem ready_framed (g t : ByteArray) (h0 : 0 < g.size) (h1 : g.size ≤ 1024) : ready (framed g ++ t) = true := by
  rw [ready_iff]
  have e := hd_framed g t h1
  have hs : (framed g ++ t).size = 2 + g.size + t.size := by rw [size_append', framed_size]
  exact ⟨by omega, badB_good (by omega) (by omega), by omega⟩
theorem bad_framed (g t : ByteArray) (h0 : 0 < g.size) (h1 : g.size ≤ 1024) : badB (framed g ++ t) = false :=
  ((ready_iff _).1 (ready_framed g t h0 h1)).2.1
theorem nextT_framed (g t : ByteArray) (h0 : 0 < g.size) (h1 : g.size ≤ 1024) : nextT (framed g ++ t) = g := by
  unfold nextT
  rw [if_pos (ready_framed g t h0 h1), hd_framed g t h1]
  refine ba_ext ?_
  have e2 : (2 + (g.size : Int)).toNat - 2 = g.size := by omega
  rw [toList_extract, e2, framed_eq, append_assoc', toList_append, toList_append, List.drop_append_of_le_length (by rw [toList_size, two_size]; omega)]
  rw [List.drop_eq_nil_of_le (by rw [toList_size, two_size]; omega), List.nil_append, List.take_append_of_le_length (by rw [toList_size]; omega), List.take_of_length_le (by rw [toList_size]; omega)]
theorem nextR_framed (g t : ByteArray) (h0 : 0 < g.size) (h1 : g.size ≤ 1024) : nextR (framed g ++ t) = t := by
  unfold nextR
  rw [if_pos (ready_framed g t h0 h1), hd_framed g t h1]
  refine ba_ext ?_
  have hs : (framed g ++ t).size = 2 + g.size + t.size := by rw [size_append', framed_size]
  rw [toList_extract, toList_append]
  have e3 : (2 + (g.size : Int)).toNat = (framed g).data.toList.length := by rw [toList_size, framed_size]; omega
  rw [e3, List.drop_left, List.take_of_length_le]
  rw [toList_size, toList_size, hs, framed_size]
  omega
theorem not_ready_of_bad {r : ByteArray} (h : badB r = true) : ready r = false := by
  unfold ready
  rw [h]
  simp
theorem nextT_not {r : ByteArray} (h : ready r = false) : nextT r = ⟨#[]⟩ := by unfold nextT; rw [h]; rfl
theorem nextR_not {r : ByteArray} (h : ready r = false) : nextR r = r := by unfold nextR; rw [h]; rfl
theorem ready_short {r : ByteArray} (h : r.size < 2) : ready r = false := by
  cases e : ready r with
  | false => rfl
  | true => have := ((ready_iff r).1 e).1; omega
theorem putS_good {s : ByteArray} (h0 : 0 < s.size) (h1 : s.size ≤ 1024) : putS s = framed s := by unfold putS; rw [if_neg (by omega), if_neg (by omega)]
theorem putE_good {s : ByteArray} (h0 : 0 < s.size) (h1 : s.size ≤ 1024) : putE s = 0 := by unfold putE; rw [if_neg (by omega), if_neg (by omega)]
theorem empty_of {s : ByteArray} (h : s.size = 0) : s = ⟨#[]⟩ := by
  cases s with | mk d => simpa [ByteArray.size] using h

end Go.Proofs.Ytdmipaeolmcdgaa
