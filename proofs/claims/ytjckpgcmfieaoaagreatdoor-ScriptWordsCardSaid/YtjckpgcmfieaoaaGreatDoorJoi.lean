/-
  strings.Join, by the shelf's contract.
-/
import Derived.Test.YtjckpgcmfieaoaaGreatDoorRows
import Derived.Test.YtjckpgcmfieaoaaGreatDoorBase
import Derived.Shelf.Strings.OnBuilder
namespace Go.Proofs.YtjckpgcmfieaoaaGreatDoor
open Go.RowKit

def joiF (n : Nat) : Nat := if n = 156 then 162 else if n = 165 then 222 else if n = 166 then 158 else if n = 169 then 223 else if n = 240 then 219 else if n = 241 then 283 else if n = 276 then 282 else if n = 277 then 325 else n
def joiT (n : Nat) : Nat := if n = 0 then 0 else if n = 3 then 3 else if n = 4 then 4 else if n = 5 then 5 else if n = 9 then 9 else if n = 20 then 20 else if n = 31 then 77 else if n = 37 then 157 else if n = 70 then 261 else if n = 72 then 263 else if n = 75 then 269 else if n = 76 then 270 else if n = 80 then 193 else if n = 127 then 386 else if n = 164 then 384 else n
def joiR : Go.Shelf.Ren := ⟨joiF, joiT, fun n => n⟩
theorem joiL : Lays.n156 Tryz.prog joiR where
  mixed := by kernel_rfl
  f156 := by kernel_rfl
  f165 := by kernel_rfl
  f166 := by kernel_rfl
  f169 := by kernel_rfl
  f240 := by kernel_rfl
  f241 := by kernel_rfl
  f276 := by kernel_rfl
  f277 := by kernel_rfl
  t0 := Tryz.underlying0
  a0 := Tryz.isAgg0
  z0 := Tryz.sizeOf0
  v0 := Tryz.zeroValue0
  t3 := Tryz.underlying3
  a3 := Tryz.isAgg3
  z3 := Tryz.sizeOf3
  v3 := Tryz.zeroValue3
  t4 := Tryz.underlying4
  a4 := Tryz.isAgg4
  z4 := Tryz.sizeOf4
  v4 := Tryz.zeroValue4
  t9 := Tryz.underlying9
  a9 := Tryz.isAgg9
  z9 := Tryz.sizeOf9
  v9 := Tryz.zeroValue9
  t20 := Tryz.underlying20
  a20 := Tryz.isAgg20
  z20 := Tryz.sizeOf20
  v20 := Tryz.zeroValue20
  t31 := Tryz.underlying77
  a31 := Tryz.isAgg77
  z31 := Tryz.sizeOf77
  v31 := Tryz.zeroValue77
  t37 := Tryz.underlying157
  a37 := Tryz.isAgg157
  z37 := Tryz.sizeOf157
  v37 := Tryz.zeroValue157
  t70 := Tryz.underlying261
  a70 := Tryz.isAgg261
  z70 := Tryz.sizeOf261
  v70 := Tryz.zeroValue261
  t72 := Tryz.underlying263
  a72 := Tryz.isAgg263
  z72 := Tryz.sizeOf263
  v72 := Tryz.zeroValue263
  t75 := Tryz.underlying269
  a75 := Tryz.isAgg269
  z75 := Tryz.sizeOf269
  v75 := Tryz.zeroValue269
  t76 := Tryz.underlying270
  a76 := Tryz.isAgg270
  z76 := Tryz.sizeOf270
  v76 := Tryz.zeroValue270
  t127 := Tryz.underlying386
  a127 := Tryz.isAgg386
  z127 := Tryz.sizeOf386
  v127 := Tryz.zeroValue386
  t164 := Tryz.underlying384
  a164 := Tryz.isAgg384
  z164 := Tryz.sizeOf384
  v164 := Tryz.zeroValue384
theorem joiX : Builder.Extra Tryz.prog joiR where
  sizeBuilder := by kernel_rfl
  liesBuilder := by kernel_rfl
  t5 := Tryz.underlying5
  a5 := Tryz.isAgg5
  z5 := Tryz.sizeOf5
  v5 := Tryz.zeroValue5
  infoByte := by kernel_rfl
  cellsByte := by kernel_rfl
  sizeByte := by kernel_rfl
  neB5 := by decide
end Go.Proofs.YtjckpgcmfieaoaaGreatDoor
