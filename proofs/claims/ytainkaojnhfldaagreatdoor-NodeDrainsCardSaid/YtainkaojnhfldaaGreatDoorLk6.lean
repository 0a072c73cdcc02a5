/-
  A link: act, from its entry.
-/
import Derived.Test.YtainkaojnhfldaaGreatDoorMdh
set_option linter.unusedVariables false
set_option linter.unusedSimpArgs false
namespace Go.Proofs.YtainkaojnhfldaaGreatDoor
open Go.RowKit

attribute [local go_sem ↓ high] ld_msg_fold st_msg_fold al_msg_fold bd_msg_fold bs_msg_fold
attribute [local go_sem] ld_msg st_msg al_msg rowN_drew bd_msg_zero bs_msg
/-- A link, its parts' places kept. -/
def LkE (w : World) (g : Nat) (S : Nat → Prop) (sp en lo : Nat) (l : Lk) : Prop := ∃ SC SJ, LkP w g S l sp en lo SC SJ
theorem LkE.upd {w w' : World} {g : Nat} {S T : Nat → Prop} {sp en lo : Nat} {l : Lk} (h : LkE w g S sp en lo l) (u : Upd T w w') (hd : ∀ k, S k → ¬ T k) : LkE w' g S sp en lo l := by
  obtain ⟨SC, SJ, h⟩ := h
  exact ⟨SC, SJ, h.upd u hd⟩
theorem LkE.new {w w' : World} {g : Nat} {S : Nat → Prop} {sp en lo : Nat} {l : Lk} (h : LkE w g S sp en lo l) (u : New w w') : LkE w' g S sp en lo l := h.upd u (fun _ _ h => h)
theorem LkE.wider {w : World} {g : Nat} {S T : Nat → Prop} {sp en lo : Nat} {l : Lk} (h : LkE w g S sp en lo l) (hs : ∀ k, S k → T k) (hl : ∀ k, T k → k < w.heap.size) : LkE w g T sp en lo l := by
  obtain ⟨SC, SJ, h⟩ := h
  exact ⟨SC, SJ, h.wider hs hl⟩
theorem LkE.s {w : World} {g : Nat} {S : Nat → Prop} {sp en lo : Nat} {l : Lk} (h : LkE w g S sp en lo l) : LkS w g S l := by
  obtain ⟨SC, SJ, h⟩ := h
  exact ⟨sp, en, lo, SC, SJ, h⟩
/-- What act comes to. -/
def ActEnd (sp en lo : Nat) (g : Nat) (S : Nat → Prop) (l : Lk) (m : MsgV) (er : Int) (c' : Ch) (rec : ByteArray) (w : World) (e : Ending) (w' : World) : Prop :=
  Upd S w w' ∧ ((er ≠ 0 ∧ e = .returned (.tuple #[.agg MsgV.zero.cells.toArray, .int .i64 er]) ∧ LkE w' g (Fr S w w') sp en lo { l with c := c' }) ∨
    (er = 0 ∧ e = .returned (.tuple #[.agg m.cells.toArray, .int .i64 0]) ∧ LkE w' g (Fr S w w') sp en lo (l.says c' rec m)))
set_option maxRecDepth 100000 in
set_option maxHeartbeats 1000000 in
theorem act_any (g B : Nat) (S : Nat → Prop) (l : Lk) (sp en lo : Nat) (SC SJ : Nat → Prop) (F : FuncId) (fs caps : Array Value) (m : MsgV) (er : Int) (c' : Ch) (xs : List ByteArray) (w : World)
    (h : LkP w g S l sp en lo SC SJ) (hk : LkOk l) (hml : m.hash.length = 32) (hsay : er = 0 → SayOk m) (hT : Tabs w) (hA : ApD S)
    (hen : ∀ args w, (callFunc F args).run Tryz.prog w = .ok (.enter F args) w) (hF : ∀ a, New w a → Calls Tryz.prog F (fs ++ caps) a fun e a' => SaysIt en SC m er c' e a a')
    (hx : ∀ j x, xs[j]? = some x → w.cell? ⟨B, j, none⟩ = some (.string x)) (hn : xs.length ≤ 1000) (hsz : (joinS xs).size ≤ 1024) (hBl : B < w.heap.size) (hBS : ¬ S B) :
    Calls Tryz.prog 40 #[.pointer (some ⟨g, 0, none⟩), .func (.func F) fs caps, .slice (some ⟨B, 0, none⟩) xs.length xs.length] w fun e w' => ActEnd sp en lo g S l m er c' (joinS xs) w e w' := by
  have hmf : ∀ (fn : Fn) (first cap : Array Value) (w : World), (Instr.makeFunc fn first cap).run Tryz.prog w = .ok (.func fn first cap) w := fun _ _ _ _ => rfl
  have hSl := hide h.lt
  have hgl := h.lt g h.inG
  -- the blocks that are made first
  obtain ⟨w4, hw4⟩ : ∃ w4, w4 = (((w.alloc (.cells #[.pointer (some ⟨g, 0, none⟩)] 45)).alloc (.cells #[.func (.func F) fs caps] 91)).alloc (.cells MsgV.zero.cells.toArray 72)).alloc (.cells MsgV.zero.cells.toArray 72) := ⟨_, rfl⟩
  have n4 : New w w4 := by rw [hw4]; exact ((((Upd.refl _ _).alloc _).alloc _).alloc _).alloc _
  have z4 : w4.heap.size = w.heap.size + 4 := by rw [hw4]; simp only [World.size_alloc]
  have bL : w4.cell? ⟨w.heap.size, 0, none⟩ = some (.pointer (some ⟨g, 0, none⟩)) := by
    rw [hw4]
    exact blk_cell (blk_alloc_old (blk_alloc_old (blk_alloc_old (blk_alloc _ _) _) _) _) 0
  have bC : w4.cell? ⟨w.heap.size + 1, 0, none⟩ = some (.func (.func F) fs caps) := by
    rw [hw4]
    have := blk_alloc (w.alloc (.cells #[.pointer (some ⟨g, 0, none⟩)] 45)) (.cells #[.func (.func F) fs caps] 91)
    rw [World.size_alloc] at this
    exact blk_cell (blk_alloc_old (blk_alloc_old this _) _) 0
  have bR : MsB w4 (w.heap.size + 2) MsgV.zero := by
    rw [hw4]
    have := blk_alloc ((w.alloc (.cells #[.pointer (some ⟨g, 0, none⟩)] 45)).alloc (.cells #[.func (.func F) fs caps] 91)) (.cells MsgV.zero.cells.toArray 72)
    rw [World.size_alloc, World.size_alloc] at this
    exact ⟨blk_alloc_old this _, z32i_len⟩
  have bM : MsB w4 (w.heap.size + 3) MsgV.zero := by
    rw [hw4]
    have := blk_alloc (((w.alloc (.cells #[.pointer (some ⟨g, 0, none⟩)] 45)).alloc (.cells #[.func (.func F) fs caps] 91)).alloc (.cells MsgV.zero.cells.toArray 72)) (.cells MsgV.zero.cells.toArray 72)
    rw [World.size_alloc, World.size_alloc, World.size_alloc] at this
    exact ⟨this, z32i_len⟩
  have HX := hide (And.intro h (And.intro hk (And.intro hsay (And.intro hF hx))))
  have HTA := hide (And.intro hT hA)
  clear h hk hsay hF hx hT hA
  go_enter Tryz.func40, Tryz.ntmps40
  go_upto_region 2 with fail
  rw [← hw4]
  have bR : MsB w4 (w.heap.size + 1 + 1) MsgV.zero := bR
  have bM : MsB w4 (w.heap.size + 1 + 1 + 1) MsgV.zero := bM
  have HW := hide z4
  clear hw4 z4
  generalize hZ : w.heap.size = Z at *
  have HZ := hide hZ
  clear hZ
  have cL0 : w4.drew.cell? ⟨Z, 0, none⟩ = some (.pointer (some ⟨g, 0, none⟩)) := bL
  have HB := hide (And.intro bL (And.intro bC (And.intro bR bM)))
  have N4 := hide n4
  clear bL bC bR bM n4
  refine wp_plan (fun w' => w'.cell? ⟨Z, 0, none⟩ = some (.pointer (some ⟨g, 0, none⟩))) [0, 1, 4] (.of [0, 1, 2, 3, 4, 5, 6, 7, 8, 9, 10]) (by kernel_rfl) (by kernel_rfl) cL0 ?_
  simp only [Plan.of]
  go_wp2_with (with_reducible first | (first | refine' qw1 (ido ?_) ?_ | refine' qw2 (ido ?_) ?_ | refine' qw3 (ido ?_) ?_); rotate_left | refine' qw4 (ido ?_) | refine' qw5 (ido ?_) | rfl | apply qn)
  refine (note_any g _ _ _ w4.drew).mono ?_
  rintro e w5 ⟨P0, P1, rfl, n5, ge0, ge1, lt0, lt1, d0, d1⟩
  have n5 := n5.ofDrew
  have cL5 := n5.cell (unhide HB).1 (fun h => h)
  have HD := hide (And.intro n5 (And.intro ge0 (And.intro ge1 (And.intro lt0 (And.intro lt1 (And.intro d0 d1))))))
  clear n5 ge0 ge1 lt0 lt1 d0 d1 cL0
  go_wp2_with (first | (with_reducible first | (first | refine' qw1 (ido ?_) ?_ | refine' qw2 (ido ?_) ?_ | refine' qw3 (ido ?_) ?_); rotate_left | refine' qw4 (ido ?_) | refine' qw5 (ido ?_) | rfl | apply qn) | refine ⟨cL5, ?_⟩)
  have nW : New w5 (w5.alloc (.cells #[.func (.func 60) #[.pointer (some ⟨g, 0, none⟩)] #[], .func (.func 61) #[] #[.pointer (some ⟨Z + 1, 0, none⟩), .pointer (some ⟨Z + 1 + 1 + 1, 0, none⟩)], .func (.func 88) #[] #[.pointer (some ⟨P0, 0, none⟩), .pointer (some ⟨P1, 0, none⟩)], .func (.func 63) #[] #[.pointer (some ⟨Z, 0, none⟩), .pointer (some ⟨Z + 1 + 1 + 1, 0, none⟩)]] 52)) := (Upd.refl _ _).alloc _
  have bW := blk_alloc w5 (.cells #[.func (.func 60) #[.pointer (some ⟨g, 0, none⟩)] #[], .func (.func 61) #[] #[.pointer (some ⟨Z + 1, 0, none⟩), .pointer (some ⟨Z + 1 + 1 + 1, 0, none⟩)], .func (.func 88) #[] #[.pointer (some ⟨P0, 0, none⟩), .pointer (some ⟨P1, 0, none⟩)], .func (.func 63) #[] #[.pointer (some ⟨Z, 0, none⟩), .pointer (some ⟨Z + 1 + 1 + 1, 0, none⟩)]] 52)
  have zW : (w5.alloc (.cells #[.func (.func 60) #[.pointer (some ⟨g, 0, none⟩)] #[], .func (.func 61) #[] #[.pointer (some ⟨Z + 1, 0, none⟩), .pointer (some ⟨Z + 1 + 1 + 1, 0, none⟩)], .func (.func 88) #[] #[.pointer (some ⟨P0, 0, none⟩), .pointer (some ⟨P1, 0, none⟩)], .func (.func 63) #[] #[.pointer (some ⟨Z, 0, none⟩), .pointer (some ⟨Z + 1 + 1 + 1, 0, none⟩)]] 52)).heap.size = w5.heap.size + 1 := World.size_alloc _ _
  generalize w5.alloc (.cells #[.func (.func 60) #[.pointer (some ⟨g, 0, none⟩)] #[], .func (.func 61) #[] #[.pointer (some ⟨Z + 1, 0, none⟩), .pointer (some ⟨Z + 1 + 1 + 1, 0, none⟩)], .func (.func 88) #[] #[.pointer (some ⟨P0, 0, none⟩), .pointer (some ⟨P1, 0, none⟩)], .func (.func 63) #[] #[.pointer (some ⟨Z, 0, none⟩), .pointer (some ⟨Z + 1 + 1 + 1, 0, none⟩)]] 52) = W at nW bW zW ⊢
  have cLW := nW.cell cL5 (fun h => h)
  refine ⟨cLW, ?_⟩
  obtain ⟨n5', ge0, ge1, lt0, lt1, d0, d1⟩ := unhide HD
  obtain ⟨h, hk, hsay, hF, hx⟩ := unhide HX
  obtain ⟨hT, hA⟩ := unhide HTA
  have nn : New w W := ((unhide N4).trans n5').trans nW
  have z4 := unhide HW
  have z5 := n5'.size
  have ge0 : w4.heap.size ≤ P0 := ge0
  have ge1 : w4.heap.size ≤ P1 := ge1
  have hrow : FnRow2 W w5.heap.size 4 actF (actFs g) (actCaps Z (Z + 1) (Z + 1 + 1 + 1) P0 P1) := by
    intro i hi
    rcases (by omega : i = 0 ∨ i = 1 ∨ i = 2 ∨ i = 3) with rfl | rfl | rfl | rfl
    · exact blk_cell bW 0
    · exact blk_cell bW 1
    · exact blk_cell bW 2
    · exact blk_cell bW 3
  have hS : ∀ k, Z ≤ k → ¬ S k := fun k hk e => by have := unhide hSl k e; omega
  have htl := hT.lt
  have hZw := unhide HZ
  have hM5 := ((unhide HB).2.2.2.new n5').new nW
  have hR5 := ((unhide HB).2.2.1.new n5').new nW
  have hcall := act_steps g w5.heap.size Z (Z + 1) (Z + 1 + 1 + 1) P0 P1 B S l sp en lo SC SJ F fs caps m er c' xs W (h.new nn) hk hml hsay (hT.new nn) hA hen (fun a na => hF a (nn.trans na)) cLW
    (nW.cell (n5'.cell (unhide HB).2.1 (fun h => h)) (fun h => h)) hM5 (nW.cell d0 (fun h => h)) (nW.cell d1 (fun h => h)) (fun j x e => nn.cell (hx j x e) (fun h => h)) hn hsz hrow
    ⟨hS _ (by omega), hS _ (by omega), hS _ (by omega), hS _ (by omega), hS _ (by omega), hBS⟩ ⟨by omega, by omega, by omega, by omega, by omega, by omega⟩ (by omega) (by omega) ⟨by omega, by omega⟩
  have NN := hide nn
  have HRR := hide hR5
  have HZZ := hide (And.intro z4 (And.intro z5 zW))
  have HSS := hide hS
  clear hrow bW htl hM5 hR5 hS nn nW n5' ge0 ge1 lt0 lt1 d0 d1 h hk hsay hF hx hT hA z4 z5 zW HD HB cL5 cLW bR bM
  generalize w5.heap.size = bb at *
  go_wp2_with (with_reducible first | (first | refine' qw1 (ido ?_) ?_ | refine' qw2 (ido ?_) ?_ | refine' qw3 (ido ?_) ?_); rotate_left | refine' qw4 (ido ?_) | refine' qw5 (ido ?_) | rfl | apply qn)
  refine hcall.mono ?_
  rintro e w6 ⟨u6, (⟨rfl, he, hst⟩ | ⟨x, hx0, rfl, he, hst⟩)⟩
  · have hst : ActSt W g S sp en lo (Z + 1 + 1 + 1) m (l.says c' (joinS xs) m) w6 := hst
    have hcx := he
    have bR6 := trivial
    clear he
    have hR6 := (unhide HRR).upd u6 (fun e => by
      have z := unhide HZZ
      rcases e with e | e | e
      · exact unhide HSS _ (by omega) e
      · omega
      · omega)
    have hst6 := hR6.stOk hml
    have hR7 := hR6.put hml
    have u7 : Upd (· = Z + 1 + 1) w6 (w6.setCells (Z + 1 + 1) 0 m.cells) := upd_sets _
    have hF := hR7.at_
    have rM := hst.msb.row
    have HQ := hide (And.intro u6 (And.intro hst (And.intro u7 hcx)))
    clear hR6 hR7 u7 u6 hst hcx hcall HRR HX HTA N4 bR6
    go_wp2_with (first | (with_reducible first | (first | refine' qw1 (ido ?_) ?_ | refine' qw2 (ido ?_) ?_ | refine' qw3 (ido ?_) ?_); rotate_left | refine' qw4 (ido ?_) | refine' qw5 (ido ?_) | rfl | apply qn) | (with_reducible first | (first | refine' tw1 (ido ?_) ?_ | refine' tw2 (ido ?_) ?_); rotate_left | refine' tw3 (ido ?_) | rfl | apply tn | refine' tw4 ?_))
    refine bodyPost_ret (results_row_tmp' rfl _ _ (Z + 1 + 1) _ _ _ _ rfl hF Tryz.underlying72 rfl (by rw [List.size_toArray, MsgV.len _ hml]; exact Tryz.infoMsg)) rfl ?_
    obtain ⟨u6, hst, u7, hcx⟩ := unhide HQ
    have nn := unhide NN
    have z := unhide HZZ
    have zw := unhide HZ
    have zn := nn.size
    have z6 := u6.size
    have z7 := u7.size
    have hs := unhide HSS
    refine ⟨?_, .inr ⟨hcx, rfl, ?_⟩⟩
    · refine ((nn.mono (T := S) (fun _ _ h => h.elim)).then u6 (fun k hk e => ?_)).then u7 (fun k hk e => by omega)
      rcases e with e | e | e
      · exact e
      · omega
      · omega
    · obtain ⟨SC', SJ', hl⟩ := hst.lk
      have hl7 := hl.upd u7 (fun k hk e => by
        rcases hk with hk | hk
        · exact hs _ (by omega) (e ▸ hk)
        · omega)
      exact ⟨SC', SJ', hl7.wider (fun k hk => hk.elim .inl (fun e => .inr ⟨by omega, by omega⟩)) (fun k hk => hk.elim (fun e => by have := unhide hSl k e; omega) (fun e => e.2))⟩
  · have he : x = er := he
    subst he
    have hcx := hx0
    have bR6 := trivial
    have hR6 := (unhide HRR).upd u6 (fun e => by
      have z := unhide HZZ
      rcases e with e | e | e
      · exact unhide HSS _ (by omega) e
      · omega
      · omega)
    have hst6 := hR6.stOk (k := MsgV.zero) z32i_len
    have hR7 := hR6.put (k := MsgV.zero) z32i_len
    have u7 : Upd (· = Z + 1 + 1) w6 (w6.setCells (Z + 1 + 1) 0 MsgV.zero.cells) := upd_sets _
    have hF := hR7.at_
    have HQ := hide (And.intro u6 (And.intro hst (And.intro u7 hcx)))
    clear hR6 hR7 u7 u6 hst hcx hcall HRR HX HTA N4 bR6
    have HST := hide hst6
    have HFF := hide hF
    clear hst6 hF
    go_upto_if 21 with (first | (with_reducible first | (first | refine' qw1 (ido ?_) ?_ | refine' qw2 (ido ?_) ?_ | refine' qw3 (ido ?_) ?_); rotate_left | refine' qw4 (ido ?_) | refine' qw5 (ido ?_) | rfl | apply qn) | (with_reducible first | (first | refine' tw1 (ido ?_) ?_ | refine' tw2 (ido ?_) ?_); rotate_left | refine' tw3 (ido ?_) | rfl | apply tn | refine' tw4 ?_))
    refine wp_cond_true (show _ = Value.bool true from congrArg Value.bool (show (x != 0) = true by simpa using hx0)) ?_
    have hst6 := unhide HST
    go_wp2_with (first | (with_reducible first | (first | refine' qw1 (ido ?_) ?_ | refine' qw2 (ido ?_) ?_ | refine' qw3 (ido ?_) ?_); rotate_left | refine' qw4 (ido ?_) | refine' qw5 (ido ?_) | rfl | apply qn) | (with_reducible first | (first | refine' tw1 (ido ?_) ?_ | refine' tw2 (ido ?_) ?_); rotate_left | refine' tw3 (ido ?_) | rfl | apply tn | refine' tw4 ?_))
    refine bodyPost_ret (results_row_tmp' rfl _ _ (Z + 1 + 1) _ _ _ _ rfl (unhide HFF) Tryz.underlying72 rfl (by rw [List.size_toArray, MsgV.len _ z32i_len]; exact Tryz.infoMsg)) rfl ?_
    obtain ⟨u6, hst, u7, hcx⟩ := unhide HQ
    have nn := unhide NN
    have z := unhide HZZ
    have zw := unhide HZ
    have zn := nn.size
    have z6 := u6.size
    have z7 := u7.size
    have hs := unhide HSS
    refine ⟨?_, .inl ⟨hcx, rfl, ?_⟩⟩
    · refine ((nn.mono (T := S) (fun _ _ h => h.elim)).then u6 (fun k hk e => ?_)).then u7 (fun k hk e => by omega)
      rcases e with e | e | e
      · exact e
      · omega
      · omega
    · obtain ⟨SC', SJ', hl⟩ := hst.lk
      have hl7 := hl.upd u7 (fun k hk e => by
        rcases hk with hk | hk
        · exact hs _ (by omega) (e ▸ hk)
        · omega)
      exact ⟨SC', SJ', hl7.wider (fun k hk => hk.elim .inl (fun e => .inr ⟨by omega, by omega⟩)) (fun k hk => hk.elim (fun e => by have := unhide hSl k e; omega) (fun e => e.2))⟩
end Go.Proofs.YtainkaojnhfldaaGreatDoor
