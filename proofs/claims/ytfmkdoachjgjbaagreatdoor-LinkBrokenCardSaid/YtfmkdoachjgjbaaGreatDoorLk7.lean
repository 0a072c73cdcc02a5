/-
  A link: Shut, Sign (of Tick), Out.
-/
import Derived.Test.YtfmkdoachjgjbaaGreatDoorMdd
import Derived.Test.YtfmkdoachjgjbaaGreatDoorSgn
set_option linter.unusedVariables false
set_option linter.unusedSimpArgs false
namespace Go.Proofs.YtfmkdoachjgjbaaGreatDoor
open Go.RowKit

theorem LkS.wider {w : World} {g : Nat} {S T : Nat → Prop} {l : Lk} (h : LkS w g S l) (hs : ∀ k, S k → T k) (hl : ∀ k, T k → k < w.heap.size) : LkS w g T l := by
  obtain ⟨sp, en, lo, SC, SJ, h⟩ := h
  exact ⟨sp, en, lo, SC, SJ, h.wider hs hl⟩
theorem LkS.later {S : Nat → Prop} {w1 w2 w3 : World} {g : Nat} {l : Lk} (h : LkS w3 g (Fr S w2 w3) l) (h1 : w1.heap.size ≤ w2.heap.size) : LkS w3 g (Fr S w1 w3) l :=
  h.wider (fun k hk => hk.elim .inl (fun e => .inr ⟨by omega, e.2⟩)) (fun k hk => hk.elim (fun e => h.lt k (.inl e)) (fun e => e.2))
def actM (m : MsgV) (er : Int) : MsgV := if er = 0 then m else MsgV.zero
def Lk.acts (l : Lk) (c' : Ch) (rec : ByteArray) (m : MsgV) (er : Int) : Lk := if er = 0 then l.says c' rec m else { l with c := c' }
theorem actM_len {m : MsgV} {er : Int} (h : m.hash.length = 32) : (actM m er).hash.length = 32 := by
  unfold actM
  split
  · exact h
  · exact z32i_len
theorem act_fn (g B : Nat) (S : Nat → Prop) (l : Lk) (sp en lo : Nat) (SC SJ : Nat → Prop) (F : FuncId) (fs caps : Array Value) (m : MsgV) (er : Int) (c' : Ch) (xs : List ByteArray) (w : World)
    (h : LkP w g S l sp en lo SC SJ) (hk : LkOk l) (hml : m.hash.length = 32) (hsay : er = 0 → SayOk m) (hT : Tabs w) (hA : ApD S)
    (hen : ∀ args w, (callFunc F args).run Tryz.prog w = .ok (.enter F args) w) (hF : ∀ a, New w a → Calls Tryz.prog F (fs ++ caps) a fun e a' => SaysIt en SC m er c' e a a')
    (hx : ∀ j x, xs[j]? = some x → w.cell? ⟨B, j, none⟩ = some (.string x)) (hn : xs.length ≤ 1000) (hsz : (joinS xs).size ≤ 1024) (hBl : B < w.heap.size) (hBS : ¬ S B) :
    Calls Tryz.prog 45 #[.pointer (some ⟨g, 0, none⟩), .func (.func F) fs caps, .slice (some ⟨B, 0, none⟩) xs.length xs.length] w fun e w' => e = .returned (.tuple #[.agg (actM m er).cells.toArray, .int .i64 er]) ∧ LkE w' g (Fr S w w') sp en lo (l.acts c' (joinS xs) m er) ∧ Upd S w w' := by
  refine (act_any g B S l sp en lo SC SJ F fs caps m er c' xs w h hk hml hsay hT hA hen hF hx hn hsz hBl hBS).mono ?_
  rintro e w' ⟨u, (⟨he, rfl, hl⟩ | ⟨he, rfl, hl⟩)⟩
  · unfold actM Lk.acts
    rw [if_neg he, if_neg he]
    exact ⟨rfl, hl, u⟩
  · subst he
    exact ⟨rfl, hl, u⟩
theorem join1 (a : ByteArray) : joinS [a] = a := by
  show a ++ (⟨#[]⟩ : ByteArray) = a
  exact ByteArray.append_empty
attribute [local go_sem ↓ high] ld_msg_fold st_msg_fold al_msg_fold bd_msg_fold bs_msg_fold
attribute [local go_sem] ld_msg st_msg al_msg rowN_drew bd_msg_zero bs_msg

def Lk.shut (l : Lk) : Lk := l.acts l.c.shut.1 (numS 5 1) l.c.shut.2.1 l.c.shut.2.2
end Go.Proofs.YtfmkdoachjgjbaaGreatDoor
