/-
  Functions whose contract is known: strings.Join.
-/
import Derived.Test.YtjckpgcmfieaoaaGreatDoorAwC
import Derived.Test.YtjckpgcmfieaoaaGreatDoorJoi
namespace Go.Proofs.YtjckpgcmfieaoaaGreatDoor
open Go.RowKit

noncomputable section
def iTexts (l : List EV) : Option (List (List Nat)) :=
  List.rec (motive := fun _ => Option (List (List Nat))) (some []) (fun x _ ih => match x with
    | .str a => match ih with
      | some r => some (a :: r)
      | none => none
    | _ => none) l
def iJoinL (sep : List Nat) (l : List (List Nat)) : List Nat :=
  List.rec (motive := fun _ => List Nat) [] (fun x r ih => match r with
    | [] => x
    | _ => x ++ (sep ++ ih)) l
end
theorem iTexts_cons (x : EV) (l : List EV) : iTexts (x :: l) = match x with
    | .str a => match iTexts l with
      | some r => some (a :: r)
      | none => none
    | _ => none := rfl
theorem iTexts_run {β : EMp} : ∀ {l : List EV} {vs : List Value} {ls : List (List Nat)}, VRs β l vs → iTexts l = some ls → ∃ bs : List ByteArray, vs = bs.map Value.string ∧ ls = bs.map fun b => b.data.toList.map (·.toNat)
  | _, _, ls, .nil, h => by
    obtain rfl := Option.some.inj (show some [] = some ls from h)
    exact ⟨[], rfl, rfl⟩
  | x :: l, v :: vs, ls, .cons hx hl, h => by
    rw [iTexts_cons] at h
    cases hx <;> first | (cases h; done) | skip
    rename_i a b hb
    simp only at h
    cases hq : iTexts l with
    | none => rw [hq] at h; cases h
    | some r =>
      rw [hq] at h
      obtain rfl := Option.some.inj h
      obtain ⟨bs, rfl, rfl⟩ := iTexts_run hl hq
      exact ⟨_ :: bs, rfl, by rw [List.map_cons, hb]⟩
theorem iJoinL_run (sep : ByteArray) : ∀ (bs : List ByteArray), iJoinL (sep.data.toList.map (·.toNat)) (bs.map fun b => b.data.toList.map (·.toNat)) = (Lib.join (bs.map (·.data.toList)) sep.data.toList).map (·.toNat)
  | [] => rfl
  | [b] => by rw [List.map_cons, List.map_nil, List.map_cons, List.map_nil, Lib.join_one]; rfl
  | b :: c :: r => by
    have ih := iJoinL_run sep (c :: r)
    have e : iJoinL (sep.data.toList.map (·.toNat)) ((b :: c :: r).map fun b => b.data.toList.map (·.toNat)) = b.data.toList.map (·.toNat) ++ (sep.data.toList.map (·.toNat) ++ iJoinL (sep.data.toList.map (·.toNat)) ((c :: r).map fun b => b.data.toList.map (·.toNat))) := rfl
    rw [e, ih]
    unfold Lib.join
    rw [List.map_cons, List.map_cons, List.map_cons, List.intercalate_cons_cons]
    simp
noncomputable def iJoin (_ : ECall) (a : List EV) (s : ESt) : EO := match a with
  | [.sl (some (b, o)) n c z, .str sep] => match s.loadN b o n with
    | some l => match iTexts l with
      | some ls => match Nat.ble n c && Nat.ble 1 n && Nat.ble n 1000 && Nat.ble (iJoinL sep ls).length 1000000000 with
        | true => .v (.str (iJoinL sep ls)) s
        | false => .er
      | none => .er
    | none => .er
  | _ => .er
theorem iJoin_ok {k : ECall} {args : List EV} {s s' : ESt} {x : EV} (ha : iJoin k args s = .v x s') : KOk Tryz.prog 162 args s x s' := fun w0 β w av hg hr hv => by
  unfold iJoin at ha
  split at ha <;> first | (cases ha; done) | skip
  rename_i b o n c z sep
  cases hl : s.loadN b o n with
  | none => rw [hl] at ha; cases ha
  | some l =>
    rw [hl] at ha
    simp only at ha
    cases ht : iTexts l with
    | none => rw [ht] at ha; cases ha
    | some ls =>
      rw [ht] at ha
      simp only at ha
      cases hc : (Nat.ble n c && Nat.ble 1 n && Nat.ble n 1000 && Nat.ble (iJoinL sep ls).length 1000000000) with
      | false => rw [hc] at ha; cases ha
      | true =>
        rw [hc] at ha
        injection ha with e1 e2
        subst e1 e2
        simp only [Bool.and_eq_true] at hc
        obtain ⟨⟨⟨hc1, hc2⟩, hc3⟩, hc4⟩ := hc
        obtain ⟨av⟩ := av
        cases hv with
        | cons h1 h2 =>
          cases h2 with
          | cons h2 h3 =>
            cases h3
            cases h2 with
            | str hs =>
              cases h1 with
              | sle _ => exact absurd (Nat.le_of_ble_eq_true hc2) (by omega)
              | sl hb h0 hz =>
                obtain ⟨vs, g1, g2, g3⟩ := hr.loadN hb hl
                obtain ⟨bs, rfl, rfl⟩ := iTexts_run g2 ht
                subst hs
                rename_i sb cap' l2
                have hn : n = bs.length := by rw [← g1, List.length_map]
                subst hn
                rw [iJoinL_run] at hc4 ⊢
                rw [List.length_map] at hc4
                have hc4 := Nat.le_of_ble_eq_true hc4
                have hc3 := Nat.le_of_ble_eq_true hc3
                have hcap : bs.length ≤ cap' := by
                  have h1 := Nat.le_of_ble_eq_true hc1
                  by_cases e : z = 0
                  · rw [h0 e]; exact h1
                  · exact Nat.le_trans h1 (hz e).1
                have hcell : ∀ (j : Nat) y, bs[j]? = some y → w.cell? ⟨l2.c, l2.sh + o + j, none⟩ = some (.string y) := fun j y hy => g3 j _ (by rw [List.getElem?_map, hy]; rfl)
                have hlt : l2.c < w.heap.size := by
                  have hpos : 0 < bs.length := Nat.le_of_ble_eq_true hc2
                  have h1 := hcell 0 bs[0] (List.getElem?_eq_getElem hpos)
                  unfold World.cell? at h1
                  cases hq : w.heap[l2.c]? with
                  | none => simp [hq] at h1
                  | some _ => exact (Array.getElem?_eq_some_iff.1 hq).1
                refine .inr ⟨enters_of Tryz.func162 (by kernel_rfl) rfl _ _, (Any.strings_Join joiL joiX l2.c (l2.sh + o) cap' bs sb w hcell hlt (by omega) hcap (by omega)).mono fun e w' he => ?_⟩
                obtain ⟨rfl, hb2⟩ := he
                have hu : Upd (fun _ => False) w w' := Upd.of_below hb2 (Nat.le_refl _)
                exact ⟨_, rfl, β, .str (by simp), hr.world hu, Ext.refl _ _⟩
end Go.Proofs.YtjckpgcmfieaoaaGreatDoor
