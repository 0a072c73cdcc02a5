/-
  hearRevoke.
-/
import Derived.Test.YtjpmomdechibmaaGreatDoorMde
namespace Go.Proofs.YtjpmomdechibmaaGreatDoor
set_option linter.unusedVariables false
set_option linter.unusedSimpArgs false
open Go.RowKit

attribute [local go_sem ↓ high] ld_hsh_fold st_hsh_fold al_hsh_fold bd_hsh_fold ld_msg_fold st_msg_fold al_msg_fold bd_msg_fold
attribute [local go_sem] ld_hsh st_hsh al_hsh bd_hsh rowN_drew ld_msg st_msg al_msg

def ShelfB (c : Ch) : Prop := ∀ p ∈ c.shelf, Bytes p.told
def revErr (c : Ch) (m : MsgV) : Int :=
  if c.k.awaits = false then 5 else if m.number ≠ c.k.signed - 1 then 134 else if insErr m.hash (65535 - m.number) c.shelf ≠ 0 then 134 else 0
def Ch.shelved (c : Ch) (m : MsgV) : Ch := { c with shelf := insL m.hash (65535 - m.number) c.shelf }
def Ch.unawait (c : Ch) : Ch := { c with k := { c.k with awaits := false } }
/-- What hearRevoke does. -/
def Ch.hearRevoke (c : Ch) (m : MsgV) : Ch × Int := if revErr c m = 0 then (((c.shelved m).goOn 2).unawait, 0) else (c, revErr c m)
theorem hearRevoke_bad {c : Ch} {m : MsgV} {e : Int} (h : revErr c m = e) (n : e ≠ 0) : c.hearRevoke m = (c, e) := by unfold Ch.hearRevoke; rw [h, if_neg n]
set_option maxRecDepth 100000 in
set_option maxHeartbeats 1000000 in
theorem hearRevoke_any (g : Nat) (S : Nat → Prop) (c : Ch) (m : MsgV) (hm : MsgOk m) (w : World) (h : ChS w g S c) (hby : ShelfB c) (hT : Tb w) (hS : Apart S) :
    Calls Tryz.prog 70 #[.pointer (some ⟨g, 0, none⟩), .agg m.cells.toArray] w fun e w' =>
      e = .returned (.tuple #[nilV, .int .i64 (c.hearRevoke m).2]) ∧ ChS w' g (Fr S w w') (c.hearRevoke m).1 ∧ Upd S w w' := by
  obtain ⟨lv, nv, av, h⟩ := h
  go_enter Tryz.func70, Tryz.ntmps70
  go_upto_region 1 with fail
  have hA := ms_alloc w m hm.len
  have n1 : New w (w.alloc (.cells m.cells.toArray 30)) := (Upd.refl _ _).alloc _
  generalize w.alloc (.cells m.cells.toArray 30) = w1 at n1 hA ⊢
  obtain ⟨A, hAe⟩ : ∃ A, A = w.heap.size := ⟨_, rfl⟩
  rw [← hAe] at hA ⊢
  have hgA : g ≠ A := by have := h.lt g h.inG; omega
  clear hAe
  have h1 := h.new n1
  have c39 : w1.cell? ⟨g, 39, none⟩ = some (.bool c.k.awaits) := h1.toR.awaits
  have hre : revErr c m = if c.k.awaits = false then 5 else if m.number ≠ c.k.signed - 1 then 134 else if insErr m.hash (65535 - m.number) c.shelf ≠ 0 then 134 else 0 := rfl
  have HRE := hide hre
  have H0 := hide h
  have H1 := hide h1
  have HA := hide hA
  have N1 := hide n1
  have HTT := hide (hT.new n1)
  have hsg := h.ok.signed
  clear hre h h1 hA n1 hT
  cases ha : c.k.awaits with
  | false =>
    rw [ha, if_pos rfl] at HRE
    rw [ha] at c39
    have HE := hide (hearRevoke_bad (unhide HRE) (by decide))
    have H2 := hide ((unhide H1).fr w)
    have HU := hide ((unhide N1).mono (T := S) (fun _ _ h => h.elim))
    go_wp2_with (first | ((with_reducible apply tp); rfl; rfl; intro _ _ _) | ((with_reducible apply tr); rfl; intro _ _) | ((with_reducible apply te); rfl; intro _ _) | (with_reducible rfl) | (with_reducible apply tn) | ((with_reducible apply wp_txt); kernel_rfl; decide +kernel))
    go_ret2
    rw [unhide HE]
    exact ⟨rfl, unhide H2, unhide HU⟩
  | true =>
    rw [ha, if_neg (by decide)] at HRE
    rw [ha] at c39
    go_upto_region 3 with fail
    have c37 : w1.cell? ⟨g, 37, none⟩ = some (.int .i64 c.k.signed) := (unhide H1).toR.signed
    obtain ⟨-, -, -, -, -, m37, m4⟩ := (unhide HA).cells
    have hw1 : IntKind.i64.wrap (c.k.signed - 1) = c.k.signed - 1 := wrapI (by omega) (by omega)
    by_cases hnum : m.number = c.k.signed - 1
    · have hsub : IntKind.i64.wrap (65535 - m.number) = 65535 - m.number := wrapI (by omega) (by omega)
      rw [if_neg (fun h => h hnum)] at HRE
      have hins := fun W (n : New w1 W) => insert_any g S c lv nv av m.hash hm.len hm.hash (65535 - m.number) W ((unhide H1).new n) hby ((unhide HTT).new n).tabs ((unhide HTT).new n).deb
      have HI := hide hins
      have hgo := fun W (h : ChS W g S (c.shelved m)) (hG : Glob W) => goOn_any g S (c.shelved m) 2 W h hG
      have HG := hide hgo
      have hil : insErr m.hash (65535 - m.number) c.shelf ≠ 0 → insL m.hash (65535 - m.number) c.shelf = c.shelf := fun h => by unfold insL; rw [if_neg h]
      have HIL := hide hil
      clear hins hgo hil c39
      have hne : (m.number != c.k.signed - 1) = false := by rw [hnum]; simp
      rw [hnum] at HI HRE HIL
      rw [hnum] at m37
      clear hsub hne m37 m4
      obtain ⟨-, -, -, -, -, m37, m4⟩ := (unhide HA).cells
      rw [hnum] at m37
      have hsub : IntKind.i64.wrap (65535 - (c.k.signed - 1)) = 65535 - (c.k.signed - 1) := wrapI (by omega) (by omega)
      have hshv : c.shelved m = { c with shelf := insL m.hash (65535 - (c.k.signed - 1)) c.shelf } := by unfold Ch.shelved; rw [hnum]
      have HSV := hide hshv
      clear hshv
      go_wp2_with (first | ((with_reducible apply tp); rfl; rfl; intro _ _ _) | ((with_reducible apply tr); rfl; intro _ _) | ((with_reducible apply te); rfl; intro _ _) | (with_reducible rfl) | (with_reducible apply tn) | ((with_reducible apply wp_txt); kernel_rfl; decide +kernel))
      refine (unhide HI _ ((Upd.refl _ _).drew.drew)).mono ?_
      rintro e w2 ⟨rfl, h2, u2⟩
      have U2 : Hid (Upd S w w2) := hide ((((unhide N1).trans ((Upd.refl _ _).drew.drew)).mono (T := S) (fun _ _ h => h.elim)).trans (u2.mono (fun k _ e => by rw [e]; exact (unhide H0).inG)))
      have HT2 : Hid (Tb w2) := hide ((unhide HTT).upd (((Upd.refl (fun _ => False) w1).drew.drew.mono (T := S) (fun _ _ h => h.elim)).trans (u2.mono (T := S) (fun k _ e => by rw [e]; exact (unhide H0).inG))) hS)
      have H2 := hide h2
      clear h2 u2 c37 m37 m4 hw1 hsub
      generalize insErr m.hash (65535 - (c.k.signed - 1)) c.shelf = E at *
      by_cases hE : E = 0
      · rw [hE, if_neg (fun h => h rfl)] at HRE
        have hhr : c.hearRevoke m = (((c.shelved m).goOn 2).unawait, 0) := by unfold Ch.hearRevoke; rw [if_pos (unhide HRE)]
        have HH := hide hhr
        have H2' : ChS w2 g S (c.shelved m) := ⟨lv, nv, av, by rw [unhide HSV]; exact unhide H2⟩
        have hgo := unhide HG w2 H2' (unhide HT2).glob
        clear hhr H2'
        go_wp2_with (first | ((with_reducible apply tp); rfl; rfl; intro _ _ _) | ((with_reducible apply tr); rfl; intro _ _) | ((with_reducible apply te); rfl; intro _ _) | (with_reducible rfl) | (with_reducible apply tn) | ((with_reducible apply wp_txt); kernel_rfl; decide +kernel))
        refine hgo.mono ?_
        rintro e w3 ⟨rfl, ⟨lv3, nv3, av3, h3⟩, u3⟩
        have f39 : w3.frozen? ⟨g, 39, none⟩ = false := blk_free h3.at_ 39
        have c39 : w3.cell? ⟨g, 39, none⟩ = some (.bool ((c.shelved m).goOn 2).k.awaits) := h3.toR.awaits
        have hput := h3.putAwaits false
        have u4 := upd_g w3 g 39 (.bool false)
        have hz2 := (unhide U2).size
        have hz3 := u3.size
        have hz4 := u4.size
        have HP := hide hput
        have HU := hide (((unhide U2).trans u3).trans (u4.mono (fun k _ e => by rw [e]; exact (unhide H0).inG)))
        clear hgo h3 hput u3 u4
        go_wp2_with (first | ((with_reducible apply tp); rfl; rfl; intro _ _ _) | ((with_reducible apply tr); rfl; intro _ _) | ((with_reducible apply te); rfl; intro _ _) | (with_reducible rfl) | (with_reducible apply tn) | ((with_reducible apply wp_txt); kernel_rfl; decide +kernel))
        go_ret2
        rw [unhide HH]
        refine ⟨rfl, ⟨lv3, nv3, av3, (unhide HP).wider (fun k hk => ?_) (fun k hk => ?_)⟩, unhide HU⟩
        · rcases hk with hk | hk
          · exact .inl hk
          · exact .inr ⟨by omega, by omega⟩
        · rcases hk with hk | hk
          · exact (unhide HP).lt k (.inl hk)
          · exact hk.2
      · rw [if_pos hE] at HRE
        have HE := hide (hearRevoke_bad (unhide HRE) (by decide))
        have hil := unhide HIL hE
        have H2' : ChP w2 g S c lv nv av := by
          have := unhide H2
          rw [hil] at this
          exact this
        have HC := hide (H2'.fr w)
        clear hil H2' H2 HIL
        go_wp2_with (first | ((with_reducible apply tp); rfl; rfl; intro _ _ _) | ((with_reducible apply tr); rfl; intro _ _) | ((with_reducible apply te); rfl; intro _ _) | (with_reducible rfl) | (with_reducible apply tn) | ((with_reducible apply wp_txt); kernel_rfl; decide +kernel))
        go_ret2
        rw [unhide HE]
        exact ⟨rfl, unhide HC, unhide U2⟩
    · rw [if_pos hnum] at HRE
      have HE := hide (hearRevoke_bad (unhide HRE) (by decide))
      have hne : ¬ m.number = c.k.signed - 1 := hnum
      clear hm
      go_wp2_with (first | ((with_reducible apply tp); rfl; rfl; intro _ _ _) | ((with_reducible apply tr); rfl; intro _ _) | ((with_reducible apply te); rfl; intro _ _) | (with_reducible rfl) | (with_reducible apply tn) | ((with_reducible apply wp_txt); kernel_rfl; decide +kernel))
      go_ret2
      rw [unhide HE]
      have nd : New w1 w1.drew := (Upd.refl _ _).drew
      exact ⟨rfl, ((unhide H1).new nd).fr w, ((unhide N1).trans nd).mono (fun _ _ h => h.elim)⟩

end Go.Proofs.YtjpmomdechibmaaGreatDoor
