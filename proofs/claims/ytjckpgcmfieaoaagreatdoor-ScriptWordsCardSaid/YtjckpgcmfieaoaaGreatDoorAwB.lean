/-
  Functions whose contract is known: those that the machine brings.
-/
import Derived.Test.YtjckpgcmfieaoaaGreatDoorAwA
import Derived.ProofKit
namespace Go.Proofs.YtjckpgcmfieaoaaGreatDoor
open Go.RowKit

theorem ext_run {P : Program} {f : FuncId} {fn : Func} (h : P.funcs[f]? = some fn) (hn : (fn.name == "runtime.NumGoroutine") = false) (hb : fn.body.isNone = true) (h1 : (Extern.findNext fn).isNone = true) {e : Array Value → Sem Value} (h2 : Extern.find fn = some e) {args : Array Value} {w w' : World} {v : Value} (hr : (e args).run P w = .ok v w') :
    (callFunc f args).run P w = .ok (.value v) w' := by
  rw [Option.isNone_iff_eq_none] at h1 hb
  have hn : fn.name ≠ "runtime.NumGoroutine" := by simpa using hn
  simp [callFunc, h, hn, hb, h1, h2, hr]
noncomputable section
/-- CountString, IndexByteString. -/
def iCountStr (_ : ECall) (a : List EV) (s : ESt) : EO := match a with
  | [.str l, .int .u8 (.ofNat c)] => match Nat.blt c 256 with
    | true => .v (.int .i64 (Int.ofNat (iCount c l 0))) s
    | false => .er
  | _ => .er
def iIndexStr (_ : ECall) (a : List EV) (s : ESt) : EO := match a with
  | [.str l, .int .u8 (.ofNat c)] => match Nat.blt c 256 with
    | true => .v (.int .i64 (iFind c l 0)) s
    | false => .er
  | _ => .er
end
theorem two_args {β : EMp} {l : List Nat} {c : Nat} {av : Array Value} (h : VRs β [.str l, .int .u8 (.ofNat c)] av.toList) : ∃ b : ByteArray, b.data.toList.map (·.toNat) = l ∧ av = #[.string b, .int .u8 (Int.ofNat c)] := by
  obtain ⟨av⟩ := av
  cases h with
  | cons h1 h2 =>
    cases h2 with
    | cons h2 h3 =>
      cases h3
      cases h1
      cases h2
      exact ⟨_, ‹_›, rfl⟩
theorem iCountStr_ok {P : Program} {f : FuncId} {fn : Func} (h : P.funcs[f]? = some fn) (hn : (fn.name == "runtime.NumGoroutine") = false) (hb : fn.body.isNone = true) (h1 : (Extern.findNext fn).isNone = true) (h2 : Extern.find fn = some Extern.BytealgCount.count) {k : ECall} {args : List EV} {s s' : ESt} {x : EV} (ha : iCountStr k args s = .v x s') : KOk P f args s x s' := fun w0 β w av hg hr hv => by
  unfold iCountStr at ha
  split at ha <;> first | (cases ha; done) | skip
  rename_i l c
  cases hc : Nat.blt c 256 with
  | false => rw [hc] at ha; cases ha
  | true =>
    rw [hc] at ha
    injection ha with e1 e2
    subst e1 e2
    obtain ⟨b, rfl, rfl⟩ := two_args hv
    have hc := Nat.le_of_ble_eq_true hc
    refine .inl ⟨_, w, ext_run h hn hb h1 h2 (Lib.run_countString b c w), β, ?_, hr, Ext.refl _ _⟩
    rw [iCount_eq hc, Nat.zero_add]
    exact .int _ _
theorem iIndexStr_ok {P : Program} {f : FuncId} {fn : Func} (h : P.funcs[f]? = some fn) (hn : (fn.name == "runtime.NumGoroutine") = false) (hb : fn.body.isNone = true) (h1 : (Extern.findNext fn).isNone = true) (h2 : Extern.find fn = some Extern.BytealgIndexByte.indexByte) {k : ECall} {args : List EV} {s s' : ESt} {x : EV} (ha : iIndexStr k args s = .v x s') : KOk P f args s x s' := fun w0 β w av hg hr hv => by
  unfold iIndexStr at ha
  split at ha <;> first | (cases ha; done) | skip
  rename_i l c
  cases hc : Nat.blt c 256 with
  | false => rw [hc] at ha; cases ha
  | true =>
    rw [hc] at ha
    injection ha with e1 e2
    subst e1 e2
    obtain ⟨b, rfl, rfl⟩ := two_args hv
    have hc := Nat.le_of_ble_eq_true hc
    refine .inl ⟨_, w, ext_run h hn hb h1 h2 (Lib.run_indexByteString b c w), β, ?_, hr, Ext.refl _ _⟩
    rw [iFind_eq hc]
    have : (if Lib.indexByte b.data.toList c.toUInt8 = -1 then -1 else Lib.indexByte b.data.toList c.toUInt8 + ((0 : Nat) : Int)) = Lib.indexByte b.data.toList c.toUInt8 := by
      split
      · rename_i e; rw [e]
      · simp
    rw [this]
    exact .int _ _
end Go.Proofs.YtjckpgcmfieaoaaGreatDoor
