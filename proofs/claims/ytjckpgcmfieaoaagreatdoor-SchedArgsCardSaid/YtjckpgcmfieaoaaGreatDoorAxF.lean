/-
  Functions whose contract is known: strings.Builder's copyCheck, in a journal.
-/
import Derived.Test.YtjckpgcmfieaoaaGreatDoorMcj
import Derived.Test.YtjckpgcmfieaoaaGreatDoorMdb
set_option linter.unusedVariables false
set_option linter.unusedSimpArgs false
namespace Go.Proofs.YtjckpgcmfieaoaaGreatDoor
open Go.RowKit

noncomputable section
/-- A journal, as it was allocated. -/
def iIsJo (b : Option EBlk) : Bool := match b with
  | some (.row n c) => match Nat.beq n 6 with
    | true => match c.get 6 with
      | some (.ifc t _) => Nat.beq t 265
      | _ => false
    | false => false
  | _ => false
def iCopy (_ : ECall) (a : List EV) (s : ESt) : EO := match a with
  | [.ptr (some (b, o))] => match Nat.beq o 0 && iIsJo (s.heap.get b) with
    | true => match s.load1 b 0 with
      | some (.ptr none) => match s.storeN b 0 [.ptr (some (b, 0))] with
        | some s' => .v (.tup []) s'
        | none => .er
      | some (.ptr (some (c, p))) => match Nat.beq b c && Nat.beq p 0 with
        | true => .v (.tup []) s
        | false => .er
      | _ => .er
    | false => .er
  | _ => .er
end
theorem iIsJo_ok {w0 : World} {β : EMp} {s : ESt} {w : World} (h : HR w0 β s w) {b : Nat} {l : ELoc} (hb : β b = some l) (hj : iIsJo (s.heap.get b) = true) : l.sh = 0 ∧ l.m = 6 ∧ w.shape? l.c = some (265, 6) := by
  unfold iIsJo at hj
  split at hj
  · rename_i n c hk
    split at hj
    · rename_i hn
      obtain rfl := Nat.eq_of_beq_eq_true hn
      split at hj
      · rename_i t v hc
        obtain ⟨-, a, T, fz, h1, h2, -, h4, -⟩ := h.blk b l _ hb hk
        obtain ⟨rfl, hsh, hm⟩ := h4.2 t v hc
        refine ⟨hsh, hm, ?_⟩
        unfold World.shape?
        rw [h1]
        simp only
        rw [h2, hm, Nat.eq_of_beq_eq_true hj]
      · cases hj
    · cases hj
  · cases hj
theorem iCopy_ok {k : ECall} {args : List EV} {s s' : ESt} {x : EV} (ha : iCopy k args s = .v x s') : KOk Tryz.prog 219 args s x s' := fun w0 β w av hg hr hv => by
  unfold iCopy at ha
  split at ha <;> first | (cases ha; done) | skip
  rename_i b o
  split at ha <;> first | (cases ha; done) | skip
  rename_i hc
  rw [Bool.and_eq_true] at hc
  obtain ⟨h0, hj⟩ := hc
  obtain rfl := Nat.eq_of_beq_eq_true h0
  obtain ⟨av⟩ := av
  cases hv with
  | cons hv hv2 =>
    cases hv2
    cases hv with
    | ptr hb =>
      rename_i l
      obtain ⟨hsh, hm, hshape⟩ := iIsJo_ok hr hb hj
      have hadr : (⟨l.c, l.sh + 0, none⟩ : Addr) = ⟨l.c, 0, none⟩ := by rw [hsh]
      have hen : (callFunc 219 #[.pointer (some ⟨l.c, 0, none⟩)]).run Tryz.prog w = .ok (.enter 219 #[.pointer (some ⟨l.c, 0, none⟩)]) w := enters_of Tryz.func219 (by kernel_rfl) rfl _ _
      rw [hadr]
      split at ha <;> first | (cases ha; done) | skip
      · rename_i hl
        split at ha <;> first | (cases ha; done) | skip
        rename_i s3 hs3
        injection ha with e1 e2
        subst e1 e2
        obtain ⟨v, v1, v2⟩ := hr.load1 hb hl
        cases v1
        rw [hadr] at v2
        have hfz := row_free hr hb hs3 (i := 0) (by rw [hm]; omega)
        refine .inr ⟨hen, (copyCheck_fresh l.c w v2 hshape hfz).mono ?_⟩
        rintro e w' ⟨rfl, rfl⟩
        have hp : VR β (.ptr (some (b, 0))) (.pointer (some ⟨l.c, 0, none⟩)) := by
          have := VR.ptr (o := 0) hb
          rwa [hadr] at this
        obtain ⟨-, q2, q3⟩ := hr.storeN (P := Tryz.prog) hb hs3 (.cons hp .nil)
        rw [hsh] at q2
        exact ⟨_, rfl, β, .tup .nil, q2, q3⟩
      · rename_i c p hl
        split at ha <;> first | (cases ha; done) | skip
        rename_i he
        rw [Bool.and_eq_true] at he
        obtain rfl := Nat.eq_of_beq_eq_true he.1
        obtain rfl := Nat.eq_of_beq_eq_true he.2
        injection ha with e1 e2
        subst e1 e2
        obtain ⟨v, v1, v2⟩ := hr.load1 hb hl
        cases v1 with
        | ptr hb2 =>
          rw [hb] at hb2
          obtain rfl := Option.some.inj hb2
          rw [hadr] at v2
          refine .inr ⟨hen, (copyCheck_used l.c w v2).mono ?_⟩
          rintro e w' ⟨rfl, rfl⟩
          exact ⟨_, rfl, β, .tup .nil, hr, Ext.refl _ _⟩
end Go.Proofs.YtjckpgcmfieaoaaGreatDoor
