/-
  Plain facts: frames one behind the other, cut anywhere, come out as they were put. No program in sight.
-/
import Derived.Test.YtdmipaeolmcdgaaFrPlain
namespace Go.Proofs.Ytdmipaeolmcdgaa
open Go.RowKit

/-- The frames of texts, one behind the other. -/
def F : List ByteArray → ByteArray
  | [] => ⟨#[]⟩
  | t :: r => framed t ++ F r
def Good (ws : List ByteArray) : Prop := ∀ t ∈ ws, 0 < t.size ∧ t.size ≤ 300
theorem F_snoc (ws : List ByteArray) (t : ByteArray) : F (ws ++ [t]) = F ws ++ framed t := by
  induction ws with
  | nil => simp only [List.nil_append, F, nil_append, append_nil']
  | cons a r ih => simp only [List.cons_append, F, ih, append_assoc']
theorem F_size {ws : List ByteArray} (h : Good ws) : (F ws).size ≤ 302 * ws.length := by
  induction ws with
  | nil => simp [F, ByteArray.size]
  | cons a r ih =>
    have h1 := h a (List.mem_cons_self)
    have h2 := ih (fun t ht => h t (List.mem_cons_of_mem _ ht))
    simp only [F, size_append', framed_size, List.length_cons]
    omega
theorem hd_append (a b : ByteArray) (h : 2 ≤ a.size) : hd (a ++ b) = hd a := by
  unfold hd
  rw [bt_append _ _ 0 (by omega), bt_append _ _ 1 (by omega)]
theorem F_cons_of {rest : List ByteArray} {r s : ByteArray} (h : F rest = r ++ s) (h2 : 2 ≤ r.size) : ∃ t rest', rest = t :: rest' := by
  cases rest with
  | nil => have e := congrArg ByteArray.size h; rw [size_append'] at e; have e2 : (F []).size = 0 := rfl; omega
  | cons t rest' => exact ⟨t, rest', rfl⟩
theorem F_hd {t : ByteArray} {rest : List ByteArray} {r s : ByteArray} (ht : t.size ≤ 1024) (h : F (t :: rest) = r ++ s) (h2 : 2 ≤ r.size) : hd r = t.size := by
  rw [← hd_append r s h2, ← h]
  exact hd_framed t _ ht
theorem F_notbad {rest : List ByteArray} {r s : ByteArray} (hg : Good rest) (h : F rest = r ++ s) : badB r = false := by
  by_cases h2 : r.size < 2
  · exact badB_short h2
  · obtain ⟨t, rest', rfl⟩ := F_cons_of h (by omega)
    have ht := hg t (List.mem_cons_self)
    have e := F_hd (by omega) h (by omega)
    exact badB_good (by omega) (by omega)
theorem F_ready {rest : List ByteArray} {r s : ByteArray} (hg : Good rest) (h : F rest = r ++ s) (hr : ready r = true) :
    ∃ t rest', rest = t :: rest' ∧ nextT r = t ∧ F rest' = nextR r ++ s := by
  obtain ⟨h2, _, h3⟩ := (ready_iff r).1 hr
  obtain ⟨t, rest', rfl⟩ := F_cons_of h h2
  have ht := hg t (List.mem_cons_self)
  have e := F_hd (by omega) h h2
  rw [e] at h3
  have hl := congrArg (fun b : ByteArray => b.data.toList) h
  simp only [F, toList_append] at hl
  have hlen : (framed t).data.toList.length ≤ r.data.toList.length := by rw [toList_size, toList_size, framed_size]; omega
  obtain ⟨y, hy1, hy2⟩ : ∃ y, r.data.toList = (framed t).data.toList ++ y ∧ (F rest').data.toList = y ++ s.data.toList := by
    refine ⟨r.data.toList.drop (framed t).data.toList.length, ?_, ?_⟩
    · have h4 := congrArg (List.take (framed t).data.toList.length) hl
      rw [List.take_left, List.take_append_of_le_length hlen] at h4
      conv => lhs; rw [← List.take_append_drop (framed t).data.toList.length r.data.toList, ← h4]
    · have h4 := congrArg (List.drop (framed t).data.toList.length) hl
      rw [List.drop_left, List.drop_append_of_le_length hlen] at h4
      exact h4
  have er : r = framed t ++ ⟨y.toArray⟩ := ba_ext (by rw [toList_append, hy1])
  refine ⟨t, rest', rfl, ?_, ?_⟩
  · rw [er]; exact nextT_framed t _ (by omega) (by omega)
  · rw [er, nextR_framed t _ (by omega) (by omega)]
    exact ba_ext (by rw [toList_append, hy2])
theorem F_done {rest : List ByteArray} {r : ByteArray} (hg : Good rest) (h : F rest = r ++ ⟨#[]⟩) (hr : ready r = false) : rest = [] ∧ r = ⟨#[]⟩ := by
  rw [append_nil'] at h
  cases rest with
  | nil => exact ⟨rfl, h.symm⟩
  | cons t rest' =>
    have ht := hg t (List.mem_cons_self)
    rw [← h] at hr
    rw [show F (t :: rest') = framed t ++ F rest' from rfl, ready_framed t _ (by omega) (by omega)] at hr
    cases hr

end Go.Proofs.Ytdmipaeolmcdgaa
