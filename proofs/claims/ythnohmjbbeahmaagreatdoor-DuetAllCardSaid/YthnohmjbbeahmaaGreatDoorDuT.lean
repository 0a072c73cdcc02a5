/-
  Law 14: does, walked, kind by kind (printed by tools/mk_dut.py).
-/
import Derived.Test.YthnohmjbbeahmaaGreatDoorMeb
import Derived.Test.YthnohmjbbeahmaaGreatDoorMec
import Derived.Test.YthnohmjbbeahmaaGreatDoorDuE
import Derived.Deep.Upon
set_option linter.unusedVariables false
set_option linter.unusedSimpArgs false
namespace Go.Proofs.YthnohmjbbeahmaaGreatDoor
open Go.RowKit
structure ActD where
 kind:Int
 side:Int
 expiry:Int
 n:Int
 id:Int
 p:Int
 l0:Int
 l1:Int
def ActD.cells(x:ActD):List Value:=[.int .i64 x.kind,.int .i64 x.side,.int .i64 x.expiry,.int .u64 x.n,.int .u64 x.id,.int .u8 x.p,.int .i64 x.l0,.int .i64 x.l1]
structure ActD.Ok(x:ActD):Prop where
 kind : -9223372036854775808≤x.kind∧x.kind≤9223372036854775807
 side : -9223372036854775808≤x.side∧x.side≤9223372036854775807
 expiry : -9223372036854775808≤x.expiry∧x.expiry≤9223372036854775807
 n:0≤x.n∧x.n<18446744073709551616
 id:0≤x.id∧x.id<18446744073709551616
 p:0≤x.p∧x.p≤255
 l0 : -9223372036854775808≤x.l0∧x.l0≤9223372036854775807
 l1 : -9223372036854775808≤x.l1∧x.l1≤9223372036854775807
def ActD.k(x:ActD):Nat:=sd x.side
noncomputable def Pr.doesD(P:Pr)(x:ActD):Pr :=
 if x.kind=0∨x.kind=1 then P.act x.k ((P.en x.k).offer x.n (qbm (ofI (qdt x.p))) x.expiry)
 else if x.kind=2 then P.act x.k ((P.en x.k).fulfill x.id (qdt x.p))
 else if x.kind=3 then P.act x.k ((P.en x.k).fail x.id x.expiry)
 else if x.kind=4∨x.kind=5 then P.act x.k (P.en x.k).sign
 else if x.kind=6∨x.kind=7∨x.kind=8 then (P.heard x.k).1
 else if x.kind=9 then P.act x.k (P.en x.k).shut
 else if x.kind=10 then P.cutD x.l0 x.l1
 else if x.kind=11 then P.restD
 else P
abbrev zf3(B:Nat)(x:ActD)(w:World):Prop:=w.cell? ⟨B,1,none⟩=some (.int .i64 x.side)∧w.cell? ⟨B,2,none⟩=some (.int .i64 x.expiry)∧w.cell? ⟨B,3,none⟩=some (.int .u64 x.n)∧w.cell? ⟨B,4,none⟩=some (.int .u64 x.id)∧w.cell? ⟨B,5,none⟩=some (.int .u8 x.p)
theorem zf3.new{w w':World}{B:Nat}{x:ActD}(h:zf3 B x w)(n:qu w w'):zf3 B x w':=⟨n.cell h.1 (fun h=>h),n.cell h.2.1 (fun h=>h),n.cell h.2.2.1 (fun h=>h),n.cell h.2.2.2.1 (fun h=>h),n.cell h.2.2.2.2 (fun h=>h)⟩
section
attribute [local go_sem] zb
end
section
variable {w0 w:World}{p:Nat}{S:Nat→Prop}{K:Kon}{n:Nat}{P:Pr}
attribute [local go_sem ↓ high] zy
attribute [local go_sem] qcl zb
end
end Go.Proofs.YthnohmjbbeahmaaGreatDoor
