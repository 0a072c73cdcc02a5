/-
  hearSign.
-/
import Derived.Test.YtjpmomdechibmaaGreatDoorSgn
import Derived.Test.YtjpmomdechibmaaGreatDoorRvk
namespace Go.Proofs.YtjpmomdechibmaaGreatDoor
set_option linter.unusedVariables false
set_option linter.unusedSimpArgs false
open Go.RowKit

def ldVw (x : Value) : Sem Value := Instr.loadAt 100 x
theorem ld_vw_fold (x : Value) : Instr.loadAt 100 x = ldVw x := rfl
theorem ld_vw (b o : Nat) (w : World) : (ldVw (.pointer (some ⟨b, o, none⟩))).run Tryz.prog w = match rowN w b o 3 with | some A => .ok (.agg A) w | none => slowLd Tryz.prog 100 w b o :=
  run_loadAt_rowN 100 3 _ Tryz.underlying100 rfl Tryz.infoView b o w
def stVw (x v : Value) : Sem Unit := Instr.storeAt 100 x v
theorem st_vw_fold (x v : Value) : Instr.storeAt 100 x v = stVw x v := rfl
theorem st_vw (b o : Nat) (A : Array Value) (w : World) : (stVw (.pointer (some ⟨b, o, none⟩)) (.agg A)).run Tryz.prog w = if stOk w b o 3 A = true then .ok () (w.setCells b o A.toList) else slowSt Tryz.prog 100 w b o A :=
  run_storeAt_row 100 3 Tryz.infoView b o A w
def alVw : Sem Value := Instr.alloc 100 true (.tuple #[])
theorem al_vw_fold : Instr.alloc 100 true (.tuple #[]) = alVw := rfl
def zVw : List Value := [.int .u64 0, .int .u64 0, .slice none 0 0]
theorem al_vw (w : World) : alVw.run Tryz.prog w = .ok (.pointer (some ⟨w.heap.size, 0, none⟩)) (w.alloc (.cells zVw.toArray 100)) := by kernel_rfl
/-- A view's three cells. -/
def vwC (A B : Int) (a : Option Addr) (n c : Nat) : List Value := [.int .u64 A, .int .u64 B, .slice a n c]
theorem vwC_one (A B : Int) (a : Option Addr) (n c : Nat) : ∀ v ∈ vwC A B a n c, v.oneCell' = true := by
  intro v hv
  simp only [vwC, List.mem_cons, List.not_mem_nil, or_false] at hv
  rcases hv with rfl | rfl | rfl <;> rfl
theorem vw_st {w : World} {b : Nat} (h : w.heap[b]? = some (.cells zVw.toArray 100 (0, 0))) (A B : Int) (a : Option Addr) (n c : Nat) :
    stOk w b 0 3 #[.int .u64 A, .int .u64 B, .slice a n c] = true ∧ (w.setCells b 0 [.int .u64 A, .int .u64 B, .slice a n c]).heap[b]? = some (.cells #[.int .u64 A, .int .u64 B, .slice a n c] 100 (0, 0)) ∧ Upd (· = b) w (w.setCells b 0 [.int .u64 A, .int .u64 B, .slice a n c]) := by
  refine ⟨stOk_all (C := zVw.toArray) h rfl (vwC_one A B a n c), ?_⟩
  refine ⟨?_, (Upd.refl _ _).setCells 0 _⟩
  rw [blk_setCells h 0 _]
  exact congrArg (fun z => some (Obj.cells z 100 (0, 0))) (layIn_whole zVw.toArray (vwC A B a n c) rfl)

/-- Items abide a store into a block of three cells. -/
theorem ItemsR.putV {w w' : World} {v : Value} {X : List Item} {K : Nat} {C C' : Array Value} {T T' : TypeId} {fz fz' : Nat × Nat} (h : ItemsR w v X) (hK : w.heap[K]? = some (.cells C T fz)) (h3 : C.size = 3) (u : Upd (· = K) w w') (hK' : w'.heap[K]? = some (.cells C' T' fz')) (h3' : C'.size = 3) : ItemsR w' v X := by
  rcases h with h | ⟨g, off, cap, e, h⟩
  · exact .inl h
  · refine .inr ⟨g, off, cap, e, ?_⟩
    by_cases hg : g = K
    · subst hg
      obtain ⟨D, U, fy, hb, hs, hc⟩ := h
      rw [hK] at hb
      injection hb with hb
      injection hb with hb1 hb2 hb3
      subst hb1
      have hX : X = [] := by
        cases X with
        | nil => rfl
        | cons x X => simp at hs; omega
      subst hX
      exact ⟨C', T', fz', hK', by simp at hs ⊢; omega, fun i x hx => by simp at hx⟩
    · exact h.upd u hg

attribute [local go_sem ↓ high] ld_hsh_fold st_hsh_fold al_hsh_fold bd_hsh_fold ld_msg_fold st_msg_fold al_msg_fold bd_msg_fold ld_bas_fold ld_vw_fold st_vw_fold al_vw_fold ne_hsh_fold bs_msg_fold
attribute [local go_sem] ld_hsh st_hsh al_hsh bd_hsh rowN_drew ld_msg st_msg al_msg bd_msg_zero ld_bas ld_vw st_vw al_vw bs_msg

noncomputable def hsgErr (c : Ch) (m : MsgV) : Bool := m.hash != viewTag true c.s.peer c.s.ch m.number c.loc c.rem (afterL 3 c.xs)
noncomputable def hearSignErr (c : Ch) (m : MsgV) : Int :=
  if changesB 3 c.xs = false then 5 else if m.number ≠ c.k.heard + 1 then 1 else if hsgErr c m = true then 133 else 0
/-- The end behind a signature of the peer. -/
def Ch.heardOne (c : Ch) : Ch := { c with k := { c.k with heard := c.k.heard + 1 } }
def Ch.revokes (c : Ch) : Ch := { c with k := { c.k with revoked := true } }
def Ch.signedBy (c : Ch) : Ch := ((c.goOn 3).heardOne.goOn 4).revokes
/-- What hearSign does: the end, what it says, its error. -/
noncomputable def Ch.hearSign (c : Ch) (m : MsgV) : Ch × List MsgV × Int := if hearSignErr c m = 0 then (c.signedBy, [c.signedBy.revocation], 0) else (c, [], hearSignErr c m)
theorem hearSign_bad {c : Ch} {m : MsgV} {e : Int} (h : hearSignErr c m = e) (n : e ≠ 0) : c.hearSign m = (c, [], e) := by unfold Ch.hearSign; rw [h, if_neg n]
theorem said_one {w : World} {m : MsgV} (hm : m.hash.length = 32) (b0 : Nat) (hb : b0 ≤ w.heap.size) : SaidO b0 (w.alloc (.cells m.cells.toArray 30)) (.slice (some ⟨w.heap.size, 0, none⟩) 1 1) [m] := by
  refine ⟨by simp [m.len hm], .inr ⟨w.heap.size, 1, m.cells.toArray, rfl, hb, blk_alloc _ _, Nat.le_refl _, by decide, by rw [List.size_toArray, m.len hm], ?_⟩⟩
  show List.take (1 * 38) m.cells = [m].flatMap MsgV.cells
  rw [List.take_of_length_le (by rw [m.len hm]; exact Nat.le_refl _)]
  simp

set_option maxRecDepth 100000 in
set_option maxHeartbeats 1000000 in
theorem hearSign_any (g : Nat) (S : Nat → Prop) (c : Ch) (m : MsgV) (hm : MsgOk m) (w : World) (h : ChS w g S c) (hT : Tb w) (hS : Apart S) (hk : c.s.peer.size ≤ 100000000) (hch : 0 ≤ c.s.ch ∧ c.s.ch < 4294967296) (hhd : c.k.heard < 4294967295) :
    Calls Tryz.prog 69 #[.pointer (some ⟨g, 0, none⟩), .agg m.cells.toArray] w fun e w' => ∃ v,
      e = .returned (.tuple #[v, .int .i64 (c.hearSign m).2.2]) ∧ SaidO w.heap.size w' v (c.hearSign m).2.1 ∧ ChS w' g (Fr S w w') (c.hearSign m).1 ∧ Upd S w w' := by
  obtain ⟨lv, nv, av, h⟩ := h
  go_enter Tryz.func69, Tryz.ntmps69
  go_upto_region 1 with fail
  have hA := ms_alloc w m hm.len
  have n1 : New w (w.alloc (.cells m.cells.toArray 30)) := (Upd.refl _ _).alloc _
  generalize w.alloc (.cells m.cells.toArray 30) = w1 at n1 hA ⊢
  obtain ⟨A, hAe⟩ : ∃ A, A = w.heap.size := ⟨_, rfl⟩
  rw [← hAe] at hA ⊢
  have hgA : g ≠ A := by have := h.lt g h.inG; omega
  have hAS : ¬ S A := fun e => by have := h.lt A e; omega
  have hAl : w.heap.size ≤ A := by omega
  clear hAe
  have h1 := h.new n1
  have c47 : w1.cell? ⟨g, 47, none⟩ = some lv := h1.toR.live
  have hxf := h.ok.few
  have hchg := changes_any lv c.xs 3 (by omega) w1 (hT.new n1).glob h1.toI.lives
  obtain ⟨la, lcap, hlv⟩ := own_shape' h.live
  have hse : hearSignErr c m = if changesB 3 c.xs = false then 5 else if m.number ≠ c.k.heard + 1 then 1 else if hsgErr c m = true then 133 else 0 := rfl
  have HSE := hide hse
  have H0 := hide h
  have H1 := hide h1
  have HA := hide hA
  have N1 := hide n1
  have HT1 := hide (hT.new n1)
  have HT0 := hide hT
  have hhb := h.ok.heard
  have bad : ∀ (W : World) (e : Int), New w1 W → hearSignErr c m = e → e ≠ 0 → c.hearSign m = (c, [], e) ∧ ChS W g (Fr S w W) c ∧ Upd S w W := by
    intro W e nW hs he
    exact ⟨hearSign_bad hs he, (h1.new nW).fr w, (n1.trans nW).mono (T := S) (fun _ _ h => h.elim)⟩
  have HBAD := hide bad
  clear hse h h1 hA n1 hT bad
  rw [hlv] at c47 hchg
  go_wp2_with (first | ((with_reducible apply tp); rfl; rfl; intro _ _ _) | ((with_reducible apply tr); rfl; intro _ _) | ((with_reducible apply te); rfl; intro _ _) | (with_reducible rfl) | (with_reducible apply tn) | ((with_reducible apply wp_txt); kernel_rfl; decide +kernel))
  refine hchg.mono ?_
  rintro e w2 ⟨rfl, n2⟩
  clear hchg c47
  cases hc : changesB 3 c.xs with
  | false =>
    rw [hc, if_pos rfl] at HSE
    have HX := hide (unhide HBAD w2 5 n2 (unhide HSE) (by decide))
    clear n2
    go_wp2_with (first | ((with_reducible apply tp); rfl; rfl; intro _ _ _) | ((with_reducible apply tr); rfl; intro _ _) | ((with_reducible apply te); rfl; intro _ _) | (with_reducible rfl) | (with_reducible apply tn) | ((with_reducible apply wp_txt); kernel_rfl; decide +kernel))
    go_ret2
    obtain ⟨hE, hC, hU⟩ := unhide HX
    rw [hE]
    exact ⟨_, rfl, SaidO.nil _ _, hC, hU⟩
  | true =>
    rw [hc, if_neg (by decide)] at HSE
    have hP2 := (unhide H1).new n2
    have c38 : w2.cell? ⟨g, 38, none⟩ = some (.int .i64 c.k.heard) := hP2.toR.heard
    obtain ⟨-, -, -, -, -, m37, -⟩ := ((unhide HA).new n2).cells
    have hw1 : IntKind.i64.wrap (c.k.heard + 1) = c.k.heard + 1 := wrapI (by omega) (by omega)
    by_cases hnum : m.number = c.k.heard + 1
    · rw [if_neg (fun h => h hnum)] at HSE
      rw [hnum] at m37
      have N2 := hide n2
      have H2 := hide hP2
      clear hP2 n2
      go_upto_region 5 with (first | ((with_reducible apply tp); rfl; rfl; intro _ _ _) | ((with_reducible apply tr); rfl; intro _ _) | ((with_reducible apply te); rfl; intro _ _) | (with_reducible rfl) | (with_reducible apply tn) | ((with_reducible apply wp_txt); kernel_rfl; decide +kernel))
      have n3 : New w1 w2.drew := (unhide N2).drew
      have N3 := hide n3
      clear n3 c38 m37 N2 H2
      generalize w2.drew = w3 at N3 ⊢
      have hP := (unhide H1).new (unhide N3)
      have H3 := hide hP
      have dB : rowN w3.drew g 45 2 = some #[.int .u64 c.loc, .int .u64 c.rem] := hP.base
      have d47 : w3.drew.cell? ⟨g, 47, none⟩ = some lv := hP.toR.live
      have haf := fun W (n : New w3 W) => after_anyN lv c.xs 3 (by omega) W (((unhide HT1).new (unhide N3)).new n).glob (hP.toI.lives.new n)
      rw [hlv] at d47 haf
      have hyl : (afterL 3 c.xs).length ≤ 1000000 := by unfold afterL; rw [List.length_map]; exact hxf
      have hyo : ∀ x ∈ afterL 3 c.xs, LiveOk x := by
        intro y hy
        obtain ⟨x, hx, rfl⟩ := List.mem_map.1 hy
        exact aft_ok (hP.ok.xs x hx) 3
      have hof := fun W (n : New w3 W) u (hu : Lives W u (afterL 3 c.xs)) => of_viewO true c.loc c.rem u (afterL 3 c.xs) hyl W (((unhide HT1).new (unhide N3)).new n).spans hu
      have htg := fun W (n : New w3 W) V (hV : ViewO true c.loc c.rem (afterL 3 c.xs) W V) => tag_viewO true c.loc c.rem V (afterL 3 c.xs) c.s.peer c.s.ch (c.k.heard + 1) hyl W (((unhide HT1).new (unhide N3)).new n).tabs hV hyo hk hch (by omega) hP.ok.loc hP.ok.rem
      have hTl := viewTag_len true c.s.peer c.s.ch (c.k.heard + 1) c.loc c.rem (afterL 3 c.xs)
      have hTb : Bytes (viewTag true c.s.peer c.s.ch (c.k.heard + 1) c.loc c.rem (afterL 3 c.xs)) := by unfold viewTag tagI; exact sumI_bytes _
      have hhe : hsgErr c m = (m.hash != viewTag true c.s.peer c.s.ch (c.k.heard + 1) c.loc c.rem (afterL 3 c.xs)) := by unfold hsgErr; rw [hnum]
      have keep : ∀ W, New w3.drew W → rowN W g 45 2 = some #[.int .u64 c.loc, .int .u64 c.rem] ∧ W.cell? ⟨g, 47, none⟩ = some (.slice la c.xs.length lcap) := by
        intro W n
        have hP2 := hP.new (((Upd.refl (fun _ => False) w3).drew).trans n)
        exact ⟨hP2.base, n.cell d47 (fun h => h)⟩
      have HAF := hide haf
      have HOF := hide hof
      have HTG := hide htg
      have HHE := hide hhe
      have KEEP := hide keep
      have hC0 := keep w3.drew (Upd.refl _ _)
      clear hP haf hof htg hhe keep dB d47 hyl hyo
      generalize viewTag true c.s.peer c.s.ch (c.k.heard + 1) c.loc c.rem (afterL 3 c.xs) = T at *
      generalize hY : afterL 3 c.xs = Y at *
      have HY := hide hY
      clear hY
      go_cut [6] from 24 to 33 (fun ov wx => ∃ K u, ov = .pointer (some ⟨K, 0, none⟩) ∧ w3.heap.size ≤ K ∧ wx.heap[K]? = some (.cells #[.int .u64 (viewA true c.loc c.rem Y), .int .u64 (viewB true c.loc c.rem Y), u] 100 (0, 0)) ∧ ViewO true c.loc c.rem Y wx (.agg #[.int .u64 (viewA true c.loc c.rem Y), .int .u64 (viewB true c.loc c.rem Y), u]) ∧ New w3 wx)
      case first =>
        have nd : New w3 w3.drew := (Upd.refl _ _).drew
        refine wp_plan (fun w' => rowN w' g 45 2 = some #[.int .u64 c.loc, .int .u64 c.rem] ∧ w'.cell? ⟨g, 47, none⟩ = some (.slice la c.xs.length lcap)) [3, 7] (Plan.pre [0, 1, 2, 3, 4, 5, 6, 7] (.fork (.step 8 (.fork (.of [9, 10, 11]) (.of [10, 9, 11]))) (.of [10, 8, 9, 11]))) (by kernel_rfl) (by kernel_rfl) hC0 ?_
        simp only [Plan.of, Plan.pre]
        go_wp2_with (first | ((with_reducible apply qp); rfl; rfl; rfl; intro _ _ _) | ((with_reducible apply qc); rfl; rfl; rfl; with_reducible assumption; intro _ hC _ _) | ((with_reducible apply qr); rfl; rfl; intro _ _) | ((with_reducible apply qd); rfl; rfl; decide +kernel; intro _ _) | ((with_reducible apply qe); rfl; rfl; intro _ _) | (with_reducible rfl) | (with_reducible apply qn))
        refine qf ?_ ?_
        · go_wp2_with (first | ((with_reducible apply qp); rfl; rfl; rfl; intro _ _ _) | ((with_reducible apply qc); rfl; rfl; rfl; with_reducible assumption; intro _ hC _ _) | ((with_reducible apply qr); rfl; rfl; intro _ _) | ((with_reducible apply qd); rfl; rfl; decide +kernel; intro _ _) | ((with_reducible apply qe); rfl; rfl; intro _ _) | (with_reducible rfl) | (with_reducible apply qn))
          refine (unhide HAF w3.drew nd).mono ?_
          rintro e wa ⟨u, rfl, na, hu⟩
          go_wp2_with (first | ((with_reducible apply qp); rfl; rfl; rfl; intro _ _ _) | ((with_reducible apply qc); rfl; rfl; rfl; with_reducible assumption; intro _ hC _ _) | ((with_reducible apply qr); rfl; rfl; intro _ _) | ((with_reducible apply qd); rfl; rfl; decide +kernel; intro _ _) | ((with_reducible apply qe); rfl; rfl; intro _ _) | (with_reducible rfl) | (with_reducible apply qn))
          refine ⟨unhide KEEP _ na, ?_⟩
          refine qf ?_ ?_
          · go_wp2_with (first | ((with_reducible apply qp); rfl; rfl; rfl; intro _ _ _) | ((with_reducible apply qc); rfl; rfl; rfl; with_reducible assumption; intro _ hC _ _) | ((with_reducible apply qr); rfl; rfl; intro _ _) | ((with_reducible apply qd); rfl; rfl; decide +kernel; intro _ _) | ((with_reducible apply qe); rfl; rfl; intro _ _) | (with_reducible rfl) | (with_reducible apply qn))
            refine (unhide HOF wa (nd.trans na) u hu.to).mono ?_
            rintro e wb ⟨V, rfl, nb, hV⟩
            obtain ⟨⟨u2, rfl, hi⟩, hI⟩ := hV
            obtain ⟨a2, k2, rfl⟩ := hi.slice
            have hal : New wb (wb.alloc (.cells zVw.toArray 100)) := (Upd.refl _ _).alloc _
            have hzz : w3.heap.size ≤ wb.heap.size := ((nd.trans na).trans nb).size
            obtain ⟨hst, hF, um⟩ := vw_st (blk_alloc wb (.cells zVw.toArray 100)) (viewA true c.loc c.rem Y) (viewB true c.loc c.rem Y) a2 (viewL (itemsOf true Y)).length k2
            have nF := hal.then um (fun i hi e => by omega)
            have HF := hide hF
            have HV := hide (ViewO.mk (ours := true) (l := c.loc) (r := c.rem) (xs := Y) ⟨_, rfl, hi.new nF⟩ hI)
            have HN := hide (((nd.trans na).trans nb).trans nF)
            clear hF um nF hi
            go_wp2_with (first | ((with_reducible apply qp); rfl; rfl; rfl; intro _ _ _) | ((with_reducible apply qc); rfl; rfl; rfl; with_reducible assumption; intro _ hC _ _) | ((with_reducible apply qr); rfl; rfl; intro _ _) | ((with_reducible apply qd); rfl; rfl; decide +kernel; intro _ _) | ((with_reducible apply qe); rfl; rfl; intro _ _) | (with_reducible rfl) | (with_reducible apply qn))
            refine ⟨unhide KEEP _ ((na.trans nb).trans hal), ?_⟩
            clear hal
            go_wp2_with (first | ((with_reducible apply qp); rfl; rfl; rfl; intro _ _ _) | ((with_reducible apply qc); rfl; rfl; rfl; with_reducible assumption; intro _ hC _ _) | ((with_reducible apply qr); rfl; rfl; intro _ _) | ((with_reducible apply qd); rfl; rfl; decide +kernel; intro _ _) | ((with_reducible apply qe); rfl; rfl; intro _ _) | (with_reducible rfl) | (with_reducible apply qn))
            go_meet
            case rel => exact ⟨_, _, rfl, hzz, unhide HF, unhide HV, unhide HN⟩
          · have hal : New wa (wa.alloc (.cells zVw.toArray 100)) := (Upd.refl _ _).alloc _
            have hbk := blk_alloc wa (.cells zVw.toArray 100)
            have hzz : w3.heap.size ≤ wa.heap.size := (nd.trans na).size
            go_wp2_with (first | ((with_reducible apply qp); rfl; rfl; rfl; intro _ _ _) | ((with_reducible apply qc); rfl; rfl; rfl; with_reducible assumption; intro _ hC _ _) | ((with_reducible apply qr); rfl; rfl; intro _ _) | ((with_reducible apply qd); rfl; rfl; decide +kernel; intro _ _) | ((with_reducible apply qe); rfl; rfl; intro _ _) | (with_reducible rfl) | (with_reducible apply qn))
            refine ⟨unhide KEEP _ (na.trans hal), ?_⟩
            generalize wa.alloc (.cells zVw.toArray 100) = wd at hal hbk ⊢
            generalize wa.heap.size = K at hbk hzz ⊢
            have HBK := hide hbk
            clear hbk
            go_wp2_with (first | ((with_reducible apply qp); rfl; rfl; rfl; intro _ _ _) | ((with_reducible apply qc); rfl; rfl; rfl; with_reducible assumption; intro _ hC _ _) | ((with_reducible apply qr); rfl; rfl; intro _ _) | ((with_reducible apply qd); rfl; rfl; decide +kernel; intro _ _) | ((with_reducible apply qe); rfl; rfl; intro _ _) | (with_reducible rfl) | (with_reducible apply qn))
            refine (unhide HOF wd ((nd.trans na).trans hal) u (hu.to.new hal)).mono ?_
            rintro e wb ⟨V, rfl, nb, hV⟩
            obtain ⟨⟨u2, rfl, hi⟩, hI⟩ := hV
            obtain ⟨a2, k2, rfl⟩ := hi.slice
            obtain ⟨hst, hF, um⟩ := vw_st (nb.old (unhide HBK) (fun h => h)) (viewA true c.loc c.rem Y) (viewB true c.loc c.rem Y) a2 (viewL (itemsOf true Y)).length k2
            have HF := hide hF
            have HV := hide (ViewO.mk (ours := true) (l := c.loc) (r := c.rem) (xs := Y) ⟨_, rfl, hi.putV (nb.old (unhide HBK) (fun h => h)) rfl um hF rfl⟩ hI)
            have HN := hide ((((nd.trans na).trans hal).trans nb).then um (fun i hi e => by omega))
            clear hF um hi
            go_wp2_with (first | ((with_reducible apply qp); rfl; rfl; rfl; intro _ _ _) | ((with_reducible apply qc); rfl; rfl; rfl; with_reducible assumption; intro _ hC _ _) | ((with_reducible apply qr); rfl; rfl; intro _ _) | ((with_reducible apply qd); rfl; rfl; decide +kernel; intro _ _) | ((with_reducible apply qe); rfl; rfl; intro _ _) | (with_reducible rfl) | (with_reducible apply qn))
            go_meet
            case rel => exact ⟨_, _, rfl, hzz, unhide HF, unhide HV, unhide HN⟩
        · have hal : New w3 (w3.alloc (.cells zVw.toArray 100)).drew := ((Upd.refl _ _).alloc _).drew
          have hbk : (w3.alloc (.cells zVw.toArray 100)).drew.heap[w3.heap.size]? = some (.cells zVw.toArray 100 (0, 0)) := blk_alloc w3 _
          have hkp : New w3.drew (w3.alloc (.cells zVw.toArray 100)).drew := (Upd.refl (fun _ => False) w3.drew).alloc (.cells zVw.toArray 100)
          go_wp2_with (first | ((with_reducible apply qp); rfl; rfl; rfl; intro _ _ _) | ((with_reducible apply qc); rfl; rfl; rfl; with_reducible assumption; intro _ hC _ _) | ((with_reducible apply qr); rfl; rfl; intro _ _) | ((with_reducible apply qd); rfl; rfl; decide +kernel; intro _ _) | ((with_reducible apply qe); rfl; rfl; intro _ _) | (with_reducible rfl) | (with_reducible apply qn))
          refine ⟨unhide KEEP _ hkp, ?_⟩
          generalize (w3.alloc (.cells zVw.toArray 100)).drew = wd at hal hbk hkp ⊢
          generalize hK3 : w3.heap.size = K at hbk ⊢
          have HBK := hide hbk
          clear hbk
          go_wp2_with (first | ((with_reducible apply qp); rfl; rfl; rfl; intro _ _ _) | ((with_reducible apply qc); rfl; rfl; rfl; with_reducible assumption; intro _ hC _ _) | ((with_reducible apply qr); rfl; rfl; intro _ _) | ((with_reducible apply qd); rfl; rfl; decide +kernel; intro _ _) | ((with_reducible apply qe); rfl; rfl; intro _ _) | (with_reducible rfl) | (with_reducible apply qn))
          refine (unhide HAF wd hal).mono ?_
          rintro e wa ⟨u, rfl, na, hu⟩
          go_wp2_with (first | ((with_reducible apply qp); rfl; rfl; rfl; intro _ _ _) | ((with_reducible apply qc); rfl; rfl; rfl; with_reducible assumption; intro _ hC _ _) | ((with_reducible apply qr); rfl; rfl; intro _ _) | ((with_reducible apply qd); rfl; rfl; decide +kernel; intro _ _) | ((with_reducible apply qe); rfl; rfl; intro _ _) | (with_reducible rfl) | (with_reducible apply qn))
          refine ⟨unhide KEEP _ (hkp.trans na), ?_⟩
          go_wp2_with (first | ((with_reducible apply qp); rfl; rfl; rfl; intro _ _ _) | ((with_reducible apply qc); rfl; rfl; rfl; with_reducible assumption; intro _ hC _ _) | ((with_reducible apply qr); rfl; rfl; intro _ _) | ((with_reducible apply qd); rfl; rfl; decide +kernel; intro _ _) | ((with_reducible apply qe); rfl; rfl; intro _ _) | (with_reducible rfl) | (with_reducible apply qn))
          refine (unhide HOF wa (hal.trans na) u hu.to).mono ?_
          rintro e wb ⟨V, rfl, nb, hV⟩
          obtain ⟨⟨u2, rfl, hi⟩, hI⟩ := hV
          obtain ⟨a2, k2, rfl⟩ := hi.slice
          have hKw := (na.trans nb).old (unhide HBK) (fun h => h)
          obtain ⟨hst, hF, um⟩ := vw_st hKw (viewA true c.loc c.rem Y) (viewB true c.loc c.rem Y) a2 (viewL (itemsOf true Y)).length k2
          have HF := hide hF
          have HV := hide (ViewO.mk (ours := true) (l := c.loc) (r := c.rem) (xs := Y) ⟨_, rfl, hi.putV hKw rfl um hF rfl⟩ hI)
          have HN := hide (((hal.trans na).trans nb).then um (fun i hi e => by omega))
          clear hF um hi hKw
          go_wp2_with (first | ((with_reducible apply qp); rfl; rfl; rfl; intro _ _ _) | ((with_reducible apply qc); rfl; rfl; rfl; with_reducible assumption; intro _ hC _ _) | ((with_reducible apply qr); rfl; rfl; intro _ _) | ((with_reducible apply qd); rfl; rfl; decide +kernel; intro _ _) | ((with_reducible apply qe); rfl; rfl; intro _ _) | (with_reducible rfl) | (with_reducible apply qn))
          go_meet
          case rel => exact ⟨_, _, rfl, Nat.le_of_eq hK3, unhide HF, unhide HV, unhide HN⟩
      case rest =>
        obtain ⟨K, u, rfl, hK, hKb, hV, n4⟩ := hcut
        obtain ⟨w4, rfl⟩ : ∃ w4 : World, w4 = wc := ⟨_, rfl⟩
        clear hC0
        go_upto_region 6 with fail
        have N4 := hide ((unhide N3).trans n4)
        have hP4 := (unhide H1).new (unhide N4)
        have hA4 := (unhide HA).new (unhide N4)
        obtain ⟨-, -, -, -, -, m37, m4⟩ := hA4.cells
        rw [hnum] at m37
        have d36 : w4.cell? ⟨g, 36, none⟩ = some (.string c.s.peer) := hP4.peer
        have d0 : w4.cell? ⟨g, 0, none⟩ = some (.int .u32 c.s.ch) := hP4.toR.ch
        have rK := rowN_whole hKb 3 rfl
        have hne := fun W => ne_hsh hm.len hTl hm.hash hTb W
        have hC1 : rowN w4.drew A 4 32 = some (hshV m.hash).toArray := m4
        have H4 := hide hP4
        have hut := hV.u
        clear hP4 hA4 m4
        refine wp_plan (fun w' => rowN w' A 4 32 = some (hshV m.hash).toArray) [1] (.of [0, 1, 2, 3, 4, 5, 6, 7, 8, 9, 10, 11, 12, 13, 14, 15, 16]) (by kernel_rfl) (by kernel_rfl) hC1 ?_
        simp only [Plan.of]
        clear hut hKb
        go_wp2_with (first | ((with_reducible apply qp); rfl; rfl; rfl; intro _ _ _) | ((with_reducible apply qc); rfl; rfl; rfl; with_reducible assumption; intro _ hC _ _) | ((with_reducible apply qr); rfl; rfl; intro _ _) | ((with_reducible apply qd); rfl; rfl; decide +kernel; intro _ _) | ((with_reducible apply qe); rfl; rfl; intro _ _) | (with_reducible rfl) | (with_reducible apply qn))
        have nd4 : New w3 w4.drew := n4.drew
        refine (unhide HTG w4.drew nd4 _ (hV.new ((Upd.refl _ _).drew))).mono ?_
        rintro e w5 ⟨rfl, n5⟩
        have N5 := hide ((unhide N4).trans n5.ofDrew)
        have hrw5 := ((unhide HA).new (unhide N5)).cells.2.2.2.2.2.2
        clear m37 d36 d0 rK hV hC1 n4 nd4 n5
        go_wp2_with (first | ((with_reducible apply qp); rfl; rfl; rfl; intro _ _ _) | ((with_reducible apply qc); rfl; rfl; rfl; with_reducible assumption; intro _ hC _ _) | ((with_reducible apply qr); rfl; rfl; intro _ _) | ((with_reducible apply qd); rfl; rfl; decide +kernel; intro _ _) | ((with_reducible apply qe); rfl; rfl; intro _ _) | (with_reducible rfl) | (with_reducible apply qn))
        refine ⟨hrw5, ?_⟩
        clear hrw5
        cases hh : (m.hash != T) with
        | true =>
          have HSE2 : Hid (hearSignErr c m = 133) := by rw [unhide HHE, hh, if_pos rfl] at HSE; exact HSE
          have HX := hide (unhide HBAD w5 133 (unhide N5) (unhide HSE2) (by decide))
          rw [hh] at hne
          go_wp2_with (first | ((with_reducible apply qp); rfl; rfl; rfl; intro _ _ _) | ((with_reducible apply qc); rfl; rfl; rfl; with_reducible assumption; intro _ hC _ _) | ((with_reducible apply qr); rfl; rfl; intro _ _) | ((with_reducible apply qd); rfl; rfl; decide +kernel; intro _ _) | ((with_reducible apply qe); rfl; rfl; intro _ _) | (with_reducible rfl) | (with_reducible apply qn))
          go_ret2
          obtain ⟨hE, hC, hU⟩ := unhide HX
          rw [hE]
          exact ⟨_, rfl, SaidO.nil _ _, hC, hU⟩
        | false =>
          have HSE2 : Hid (hearSignErr c m = 0) := by rw [unhide HHE, hh, if_neg (by decide)] at HSE; exact HSE
          rw [hh] at hne
          have hhs : c.hearSign m = (c.signedBy, [c.signedBy.revocation], 0) := by unfold Ch.hearSign; rw [if_pos (unhide HSE2)]
          have HHS := hide hhs
          have hg3 := goOn_any g S c 3 w5 ⟨lv, nv, av, (unhide H1).new (unhide N5)⟩ ((unhide HT1).new (unhide N5)).glob
          clear hhs
          go_wp2_with (first | ((with_reducible apply qp); rfl; rfl; rfl; intro _ _ _) | ((with_reducible apply qc); rfl; rfl; rfl; with_reducible assumption; intro _ hC _ _) | ((with_reducible apply qr); rfl; rfl; intro _ _) | ((with_reducible apply qd); rfl; rfl; decide +kernel; intro _ _) | ((with_reducible apply qe); rfl; rfl; intro _ _) | (with_reducible rfl) | (with_reducible apply qn))
          refine hg3.mono ?_
          rintro e w6 ⟨rfl, ⟨lv6, nv6, av6, h6⟩, u6⟩
          clear hg3 hne
          obtain ⟨c1, hc1⟩ : ∃ c1, c1 = c.goOn 3 := ⟨_, rfl⟩
          have hk1 : c1.k.heard = c.k.heard := by rw [hc1, goOn_k]
          rw [← hc1] at h6
          have c38 : w6.cell? ⟨g, 38, none⟩ = some (.int .i64 c.k.heard) := by rw [← hk1]; exact h6.toR.heard
          have f38 : w6.frozen? ⟨g, 38, none⟩ = false := blk_free h6.at_ 38
          have h7 := h6.putHeard (c.k.heard + 1) (by omega)
          have u7 := upd_g w6 g 38 (.int .i64 (c.k.heard + 1))
          have hgS : S g := (unhide H0).inG
          have U6 := hide (((((unhide N1).trans (unhide N5)).mono (T := S) (fun _ _ h => h.elim)).trans u6))
          have U7 := hide ((unhide U6).trans (u7.mono (fun k _ e => by rw [e]; exact hgS)))
          have hz5 : w.heap.size ≤ w5.heap.size := ((unhide N1).trans (unhide N5)).size
          have h7' : ChS (w6.setCell ⟨g, 38, none⟩ (.int .i64 (c.k.heard + 1))) g (Fr S w (w6.setCell ⟨g, 38, none⟩ (.int .i64 (c.k.heard + 1)))) ({ c1 with k := { c1.k with heard := c.k.heard + 1 } } : Ch) :=
            (ChS.grow (S := S) (w0 := w5) (w1 := w6) ⟨_, _, _, h7⟩ u7.size).later hz5
          have hc2 : ({ c1 with k := { c1.k with heard := c.k.heard + 1 } } : Ch) = (c.goOn 3).heardOne := by rw [hc1, ← hk1, hc1]; rfl
          rw [hc2] at h7'
          have HC7 := hide h7'
          have HT7 := hide (((unhide HT1).new (unhide N5)).upd (u6.trans (u7.mono (T := S) (fun k _ e => by rw [e]; exact hgS))) hS)
          clear h6 h7 h7' u6 u7 hc2
          go_upto_region 10 with fail
          clear c38 f38
          generalize w6.setCell ⟨g, 38, none⟩ (.int .i64 (c.k.heard + 1)) = w7 at U7 HC7 HT7 ⊢
          have hg4 := goOn_any g (Fr S w w7) (c.goOn 3).heardOne 4 w7 (unhide HC7) (unhide HT7).glob
          go_wp2_with (first | ((with_reducible apply tp); rfl; rfl; intro _ _ _) | ((with_reducible apply tr); rfl; intro _ _) | ((with_reducible apply te); rfl; intro _ _) | (with_reducible rfl) | (with_reducible apply tn) | ((with_reducible apply wp_txt); kernel_rfl; decide +kernel))
          refine hg4.mono ?_
          rintro e w8 ⟨rfl, h8, u8⟩
          clear hg4
          have hz7 := (unhide U7).size
          obtain ⟨lv8, nv8, av8, h8⟩ := h8.comp hz7 u8.size
          have U8 := hide ((unhide U7).fr u8)
          have f44 : w8.frozen? ⟨g, 44, none⟩ = false := blk_free h8.at_ 44
          have c44 : w8.cell? ⟨g, 44, none⟩ = some (.bool ((c.goOn 3).heardOne.goOn 4).k.revoked) := h8.toR.revoked
          have h9 := h8.putRevoked true
          have u9 := upd_g w8 g 44 (.bool true)
          have h9' : ChS (w8.setCell ⟨g, 44, none⟩ (.bool true)) g (Fr S w (w8.setCell ⟨g, 44, none⟩ (.bool true))) c.signedBy := ChS.grow (S := S) (w0 := w) (w1 := w8) ⟨_, _, _, h9⟩ u9.size
          have U9 := hide ((unhide U8).trans (u9.mono (fun k _ e => by rw [e]; exact hgS)))
          have hrv := revocation_any g _ c.signedBy (w8.setCell ⟨g, 44, none⟩ (.bool true)) h9' ((unhide HT0).upd (unhide U9) hS).tabs
          have hrl : c.signedBy.revocation.hash.length = 32 := by
            obtain ⟨_, _, _, hq⟩ := h9'
            exact Ch.secret_len hq.ok _
          have HC9 := hide h9'
          clear h8 u8 h9 u9 h9'
          go_upto_region 12 with (first | ((with_reducible apply tp); rfl; rfl; intro _ _ _) | ((with_reducible apply tr); rfl; intro _ _) | ((with_reducible apply te); rfl; intro _ _) | (with_reducible rfl) | (with_reducible apply tn) | ((with_reducible apply wp_txt); kernel_rfl; decide +kernel))
          clear c44 f44
          generalize w8.setCell ⟨g, 44, none⟩ (.bool true) = w9 at hrv HC9 U9 ⊢
          have HRL := hide hrl
          have hcl := MsgV.len _ hrl
          clear hrl
          generalize hR : c.signedBy.revocation = R at *
          go_wp2_with (first | ((with_reducible apply tp); rfl; rfl; intro _ _ _) | ((with_reducible apply tr); rfl; intro _ _) | ((with_reducible apply te); rfl; intro _ _) | (with_reducible rfl) | (with_reducible apply tn) | ((with_reducible apply wp_txt); kernel_rfl; decide +kernel))
          refine hrv.mono ?_
          rintro e w10 ⟨rfl, n10⟩
          have hz9 := (unhide U9).size
          have hsd := said_one (w := w10) (unhide HRL) w.heap.size (by have := n10.size; omega)
          have nal : New w9 (w10.alloc (.cells R.cells.toArray 30)) := n10.alloc _
          have HSD := hide hsd
          have HCF := hide (((unhide HC9).new nal).grow nal.size)
          have HUF := hide ((unhide U9).trans (nal.mono (T := S) (fun _ _ h => h.elim)))
          clear hrv n10 hsd nal
          go_wp2_with (first | ((with_reducible apply tp); rfl; rfl; intro _ _ _) | ((with_reducible apply tr); rfl; intro _ _) | ((with_reducible apply te); rfl; intro _ _) | (with_reducible rfl) | (with_reducible apply tn) | ((with_reducible apply wp_txt); kernel_rfl; decide +kernel))
          go_ret2
          rw [unhide HHS]
          exact ⟨_, rfl, unhide HSD, unhide HCF, unhide HUF⟩

    · rw [if_pos hnum] at HSE
      have nd : New w1 w2.drew := n2.drew
      have HX := hide (unhide HBAD w2.drew 1 nd (unhide HSE) (by decide))
      have hne : ¬ m.number = c.k.heard + 1 := hnum
      clear n2 nd hP2 hm
      go_wp2_with (first | ((with_reducible apply tp); rfl; rfl; intro _ _ _) | ((with_reducible apply tr); rfl; intro _ _) | ((with_reducible apply te); rfl; intro _ _) | (with_reducible rfl) | (with_reducible apply tn) | ((with_reducible apply wp_txt); kernel_rfl; decide +kernel))
      go_ret2
      obtain ⟨hE, hC, hU⟩ := unhide HX
      rw [hE]
      exact ⟨_, rfl, SaidO.nil _ _, hC, hU⟩

end Go.Proofs.YtjpmomdechibmaaGreatDoor
