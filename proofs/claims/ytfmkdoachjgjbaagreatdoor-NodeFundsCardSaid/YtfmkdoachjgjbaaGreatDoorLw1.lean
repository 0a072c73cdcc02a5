/-
  A link: numbers of any size; Fulfill and Fail, whatever act does.
-/
import Derived.Test.YtfmkdoachjgjbaaGreatDoorMcg
import Derived.Test.YtfmkdoachjgjbaaGreatDoorMcd
set_option maxRecDepth 100000
set_option maxHeartbeats 1000000
set_option linter.unusedVariables false
set_option linter.unusedSimpArgs false
namespace Go.Proofs.YtfmkdoachjgjbaaGreatDoor
open Go.RowKit
theorem qug(g n i:Nat)(s:ByteArray)(w:World)(M:Wr w g s)(E:1≤i)(H:i≤7)(t:2 ^ (8*i)≤n)(m:n<18446744073709551616) :
  Calls Tryz.prog 92 #[.pointer (some ⟨g,0,none⟩),.int .u64 n,.int .i64 i] w fun e w'=>e = .returned (.int .i64 1)∧qq w w':=by
 have J:(8*(i:Int)).toNat=8*i:=by omega
 have v:(1:Int)≤i:=by omega
 have x:(i:Int)≤8:=by omega
 have C:decide ((i:Int)<1)=false:=by simp;omega
 have z:decide ((8:Int)<(i:Int))=false:=by simp;omega
 have q:¬(i:Int)<1:=by omega
 have o:¬(8:Int)<(i:Int):=by omega
 have N:1≤(n:Int) / 2 ^ (8*i):=by
  have y:(0:Int)<2 ^ (8*i):=Int.pow_pos (by decide);rw[Int.le_ediv_iff_mul_le y,Int.one_mul];exact_mod_cast t
 have D:(n:Int) / 2 ^ (8*i)<18446744073709551616:=Int.lt_of_le_of_lt (Int.ediv_le_self _ (by omega)) (by omega)
 have I:IntKind.u64.wrap ((n:Int) / 2 ^ (8*i))=(n:Int) / 2 ^ (8*i):=by rw[IntKind.wrap_u64];omega
 generalize K:(n:Int) / 2 ^ (8*i)=Q at *
 have O:(Q != 0)=true:=by simp;omega
 clear t m
 go_enter Tryz.func92,Tryz.ntmps92
 go_wp2_with fail
 go_ret
 exact⟨rfl,Upd.refl _ _⟩
def qi4(n i:Nat):ByteArray:=if n<2 ^ (8*i) then zr n i else ⟨#[]⟩
theorem q0u(n i:Nat):(qi4 n i).size≤i:=by
 unfold qi4;split
 ·rw[qaq];exact Nat.le_refl _
 ·exact Nat.zero_le _
theorem qgc(n i:Nat)(w:World)(q:1≤i)(v:i≤8)(y:n<18446744073709551616) :
  Calls Tryz.prog 48 #[.int .u64 n,.int .i64 i] w (qar (.string (qi4 n i)) w):=by
 by_cases h:n<2 ^ (8*i)
 ·unfold qi4;rw[if_pos h];exact qcy n i w q v h
 ·have x:i≤7:=by
   rcases (by omega:i≤7∨i=8) with x | rfl
   ·exact x
   ·exact absurd y (by simpa using h)
  unfold qi4;rw[if_neg h];go_enter Tryz.func48,Tryz.ntmps48;go_upto_region 2 with fail;have o:Wr (w.alloc (.cells #[.string ⟨#[]⟩] 174)) w.heap.size ⟨#[]⟩:=ql _ _;have t:qq w (w.alloc (.cells #[.string ⟨#[]⟩] 174)):=(Upd.refl _ _).alloc _;generalize w.alloc (.cells #[.string ⟨#[]⟩] 174)=w1 at o t ⊢;generalize H:w.heap.size=B at o ⊢;have m:=qug B n i ⟨#[]⟩ w1 o q x (by omega) y;have C:=qj (And.intro o t);clear o t H h q v y x;go_wp2_with fail;refine m.mono ?_;rintro e I ⟨rfl,z⟩;obtain⟨o,t⟩:=qg C;have E:=o.new z;have D:=qj (t.trans z);clear m o t z C;go_wp2_with fail;refine(qe3 _ _ _ E).mono ?_;rintro e J ⟨rfl,rfl⟩;go_wp2_with fail;go_ret;exact⟨rfl,qg D⟩
attribute [local go_sem ↓ high] ze zf zg zj qak zl
attribute [local go_sem] qau qav qaw qy zz qck qa9
end Go.Proofs.YtfmkdoachjgjbaaGreatDoor
