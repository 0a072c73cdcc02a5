/-
  strings.Join, by the shelf's contract.
-/
import Derived.Test.YtainkaojnhfldaaGreatDoorRows
import Derived.Test.YtainkaojnhfldaaGreatDoorMaa
import Derived.Shelf.Strings.OnBuilder
set_option linter.unusedVariables false
set_option linter.unusedSimpArgs false
namespace Go.Proofs.YtainkaojnhfldaaGreatDoor
open Go.RowKit

def joiF (n : Nat) : Nat := if n = 156 then 90 else if n = 165 then 125 else if n = 166 then 87 else if n = 169 then 126 else if n = 240 then 122 else if n = 241 then 164 else if n = 276 then 163 else if n = 277 then 187 else n
def joiT (n : Nat) : Nat := if n = 0 then 0 else if n = 3 then 3 else if n = 4 then 4 else if n = 5 then 5 else if n = 9 then 9 else if n = 20 then 20 else if n = 31 then 130 else if n = 37 then 146 else if n = 70 then 167 else if n = 72 then 169 else if n = 75 then 175 else if n = 76 then 176 else if n = 80 then 51 else if n = 127 then 268 else if n = 164 then 266 else n
def joiR : Go.Shelf.Ren := ⟨joiF, joiT, fun n => n⟩
theorem joiL : Lays.n156 Tryz.prog joiR where
  mixed := by kernel_rfl
  f156 := by kernel_rfl
  f165 := by kernel_rfl
  f166 := by kernel_rfl
  f169 := by kernel_rfl
  f240 := by kernel_rfl
  f241 := by kernel_rfl
  f276 := by kernel_rfl
  f277 := by kernel_rfl
  t0 := Tryz.underlying0
  a0 := Tryz.isAgg0
  z0 := Tryz.sizeOf0
  v0 := Tryz.zeroValue0
  t3 := Tryz.underlying3
  a3 := Tryz.isAgg3
  z3 := Tryz.sizeOf3
  v3 := Tryz.zeroValue3
  t4 := Tryz.underlying4
  a4 := Tryz.isAgg4
  z4 := Tryz.sizeOf4
  v4 := Tryz.zeroValue4
  t9 := Tryz.underlying9
  a9 := Tryz.isAgg9
  z9 := Tryz.sizeOf9
  v9 := Tryz.zeroValue9
  t20 := Tryz.underlying20
  a20 := Tryz.isAgg20
  z20 := Tryz.sizeOf20
  v20 := Tryz.zeroValue20
  t31 := Tryz.underlying130
  a31 := Tryz.isAgg130
  z31 := Tryz.sizeOf130
  v31 := Tryz.zeroValue130
  t37 := Tryz.underlying146
  a37 := Tryz.isAgg146
  z37 := Tryz.sizeOf146
  v37 := Tryz.zeroValue146
  t70 := Tryz.underlying167
  a70 := Tryz.isAgg167
  z70 := Tryz.sizeOf167
  v70 := Tryz.zeroValue167
  t72 := Tryz.underlying169
  a72 := Tryz.isAgg169
  z72 := Tryz.sizeOf169
  v72 := Tryz.zeroValue169
  t75 := Tryz.underlying175
  a75 := Tryz.isAgg175
  z75 := Tryz.sizeOf175
  v75 := Tryz.zeroValue175
  t76 := Tryz.underlying176
  a76 := Tryz.isAgg176
  z76 := Tryz.sizeOf176
  v76 := Tryz.zeroValue176
  t127 := Tryz.underlying268
  a127 := Tryz.isAgg268
  z127 := Tryz.sizeOf268
  v127 := Tryz.zeroValue268
  t164 := Tryz.underlying266
  a164 := Tryz.isAgg266
  z164 := Tryz.sizeOf266
  v164 := Tryz.zeroValue266
theorem joiX : Builder.Extra Tryz.prog joiR where
  sizeBuilder := by kernel_rfl
  liesBuilder := by kernel_rfl
  t5 := Tryz.underlying5
  a5 := Tryz.isAgg5
  z5 := Tryz.sizeOf5
  v5 := Tryz.zeroValue5
  infoByte := by kernel_rfl
  cellsByte := by kernel_rfl
  sizeByte := by kernel_rfl
  neB5 := by decide
def joinS : List ByteArray → ByteArray
  | [] => ⟨#[]⟩
  | x :: r => x ++ joinS r
theorem inter_nil {α : Type} : ∀ zs : List (List α), ([] : List α).intercalate zs = zs.flatten
  | [] => rfl
  | [x] => by rw [List.intercalate_singleton]; simp
  | x :: y :: r => by rw [List.intercalate_cons_cons, inter_nil (y :: r)]; simp
theorem join_nil (xs : List ByteArray) : (⟨(Lib.join (xs.map (·.data.toList)) []).toArray⟩ : ByteArray) = joinS xs := by
  unfold Lib.join
  rw [inter_nil]
  induction xs with
  | nil => rfl
  | cons x r ih =>
    rw [List.map_cons, List.flatten_cons, joinS, ← ih]
    apply ByteArray.ext
    simp [ByteArray.data_append]
theorem join_any (b : Nat) (xs : List ByteArray) (w : World) (hc : ∀ j x, xs[j]? = some x → w.cell? ⟨b, j, none⟩ = some (.string x)) (hb : b < w.heap.size) (hn : xs.length ≤ 1000) (hl : (joinS xs).size ≤ 1000000000) :
    Calls Tryz.prog 90 #[.slice (some ⟨b, 0, none⟩) xs.length xs.length, .string ⟨#[]⟩] w (Makes (.string (joinS xs)) w) := by
  have e := join_nil xs
  refine (Any.strings_Join joiL joiX b 0 xs.length xs ⟨#[]⟩ w (fun j x h => by rw [Nat.zero_add]; exact hc j x h) hb (by omega) (Nat.le_refl _) ?_).mono ?_
  · have : (Lib.join (xs.map (·.data.toList)) []).length = (joinS xs).size := by rw [← e]; simp [ByteArray.size]
    show (Lib.join (xs.map (·.data.toList)) []).length ≤ _
    omega
  · rintro r w' ⟨rfl, hw⟩
    exact ⟨congrArg (fun s => Ending.returned (Value.string s)) e, Upd.of_below hw (Nat.le_refl _)⟩
end Go.Proofs.YtainkaojnhfldaaGreatDoor
