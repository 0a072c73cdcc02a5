/-
  The journal: copyCheck, WriteString of its builder; journal.write, where no fuse is set.
-/
import Derived.Test.YtainkaojnhfldaaGreatDoorMbc
import Derived.Test.YtainkaojnhfldaaGreatDoorMba
import Derived.Lib.Builder
import Derived.Lib.AppendStr
set_option linter.unusedVariables false
set_option linter.unusedSimpArgs false
namespace Go.Proofs.YtainkaojnhfldaaGreatDoor
open Go.RowKit

theorem strCells_append (a b : ByteArray) : Lib.strCells (a ++ b) = Lib.strCells a ++ Lib.strCells b := by
  unfold Lib.strCells
  rw [ByteArray.data_append, Array.toList_append, List.map_append]
/-- A journal, as plain data. -/
structure Jo where
  bs : ByteArray
  many : Int
  fused : Bool
  fuse : Int
  off : Bool
def Jo.v (j : Jo) (p buf : Value) : JourV := ⟨p, buf, j.many, j.fused, j.fuse, j.off⟩
def Jo.new : Jo := ⟨⟨#[]⟩, 0, false, 0, false⟩
/-- A journal lies in block g; all its blocks are in S. -/
structure JoP (w : World) (g : Nat) (S : Nat → Prop) (j : Jo) (p buf : Value) : Prop where
  at_ : JoR w g (j.v p buf)
  addr : p = .pointer none ∨ p = .pointer (some ⟨g, 0, none⟩)
  row : w.ownsRow 0 5 1 buf j.bs.size (Lib.strCells j.bs)
  inG : S g
  inB : ∀ k, buf.ownBlock = some k → S k
  lt : ∀ k, S k → k < w.heap.size
def JoS (w : World) (g : Nat) (S : Nat → Prop) (j : Jo) : Prop := ∃ p buf, JoP w g S j p buf
section
variable {w w' : World} {g : Nat} {S T : Nat → Prop} {j : Jo} {p buf : Value}
theorem JoP.upd (h : JoP w g S j p buf) (u : Upd T w w') (hd : ∀ k, S k → ¬ T k) : JoP w' g S j p buf :=
  ⟨u.old h.at_ (hd g h.inG), h.addr, row_upd' h.row u (fun k hk => hd k (h.inB k hk)), h.inG, h.inB, fun k hk => Nat.lt_of_lt_of_le (h.lt k hk) u.size⟩
theorem JoS.upd (h : JoS w g S j) (u : Upd T w w') (hd : ∀ k, S k → ¬ T k) : JoS w' g S j := by
  obtain ⟨a, b, h⟩ := h
  exact ⟨a, b, h.upd u hd⟩
theorem JoS.new (h : JoS w g S j) (u : New w w') : JoS w' g S j := h.upd u (fun _ _ h => h)
theorem JoS.lt (h : JoS w g S j) : ∀ k, S k → k < w.heap.size := by
  obtain ⟨a, b, h⟩ := h
  exact h.lt
theorem JoP.wider (h : JoP w g S j p buf) (hs : ∀ k, S k → T k) (hl : ∀ k, T k → k < w.heap.size) : JoP w g T j p buf :=
  ⟨h.at_, h.addr, h.row, hs g h.inG, fun k e => hs k (h.inB k e), hl⟩
theorem JoP.fr (h : JoP w' g S j p buf) (w : World) : JoS w' g (Fr S w w') j := ⟨_, _, h.wider (fun k hk => .inl hk) (fun k hk => hk.elim (h.lt k) (fun e => e.2))⟩
end
theorem JoS.fresh {w : World} {g : Nat} (h : JoR w g .new) : JoS w g (· = g) .new :=
  ⟨_, _, h, .inl rfl, ⟨rfl, .inl ⟨rfl, rfl⟩⟩, rfl, fun k e => by simp [nilV, Value.ownBlock] at e, fun k e => e ▸ blk_lt h⟩
theorem Tryz.sizeBu : (Tryz.prog.info? 169).map (·.size) = some 2 := by kernel_rfl
set_option maxHeartbeats 1000000 in
set_option maxRecDepth 100000 in
theorem copyCheck_used (g : Nat) (w : World) (h0 : w.cell? ⟨g, 0, none⟩ = some (.pointer (some ⟨g, 0, none⟩))) :
    Calls Tryz.prog 122 #[.pointer (some ⟨g, 0, none⟩)] w fun e w' => e = .returned (.tuple #[]) ∧ w = w' := by
  obtain ⟨j, hj, _⟩ := Option.map_eq_some_iff.1 Tryz.sizeBu
  have hneq := fun w' : World => Lib.run_neq_ptr_same (P := Tryz.prog) w' (tp := 167) ⟨g, 0, none⟩ Tryz.underlying167 hj
  go_enter Tryz.func122, Tryz.ntmps122
  go_wp2_with fail
  go_end0
  exact ⟨rfl, rfl⟩
set_option maxHeartbeats 1000000 in
set_option maxRecDepth 100000 in
theorem copyCheck_fresh (g : Nat) (w : World) (h0 : w.cell? ⟨g, 0, none⟩ = some (.pointer none)) (hsh : w.shape? g = some (171, 6)) (hfz : w.frozen? ⟨g, 0, none⟩ = false) :
    Calls Tryz.prog 122 #[.pointer (some ⟨g, 0, none⟩)] w fun e w' => e = .returned (.tuple #[]) ∧ w' = w.setCell ⟨g, 0, none⟩ (.pointer (some ⟨g, 0, none⟩)) := by
  obtain ⟨j, hj, hjs⟩ := Option.map_eq_some_iff.1 Tryz.sizeBu
  have hto := Lib.run_to_unsafe (P := Tryz.prog) w (src := 167) (dst := 266) ⟨g, 0, none⟩ Tryz.underlying167 Tryz.underlying266 hj (by rw [hjs]; decide) hsh (by show (0 : Nat) < 6; decide)
  have hfrom := Lib.run_from_unsafe (P := Tryz.prog) w (src := 266) (dst := 167) ⟨g, 0, none⟩ Tryz.underlying266 Tryz.underlying167 hj hsh (by kernel_rfl)
  go_enter Tryz.func122, Tryz.ntmps122
  go_wp2_with fail
  rw [run_callFunc_extern Tryz.func163 (by kernel_rfl) (by kernel_rfl) (by kernel_rfl) (e := Extern.AbiNoEscape.same) (by kernel_rfl)]
  rw [Lib.run_noEscape]
  simp only [Result.andThen]
  rw [Oper.upon_value]
  go_wp2_with fail
  go_end0
  exact ⟨rfl, rfl⟩
theorem copyCheck_any (g : Nat) (S : Nat → Prop) (j : Jo) (p buf : Value) (w : World) (h : JoP w g S j p buf) :
    Calls Tryz.prog 122 #[.pointer (some ⟨g, 0, none⟩)] w fun e w' => e = .returned (.tuple #[]) ∧ Upd (· = g) w w' ∧ JoP w' g S j (.pointer (some ⟨g, 0, none⟩)) buf := by
  rcases h.addr with rfl | rfl
  · refine (copyCheck_fresh g w (blk_cell h.at_ 0) ?_ (blk_free h.at_ 0)).mono ?_
    · have := h.at_
      unfold JoR at this
      simp [World.shape?, this, JourV.cells]
    · rintro e w' ⟨rfl, rfl⟩
      have u : Upd (· = g) w (w.setCell ⟨g, 0, none⟩ (.pointer (some ⟨g, 0, none⟩))) := (Upd.refl _ _).set1 _ _
      refine ⟨rfl, u, ?_, .inr rfl, row_upd' h.row u ?_, h.inG, h.inB, fun k hk => Nat.lt_of_lt_of_le (h.lt k hk) u.size⟩
      · exact blk_set h.at_ 0 _
      · intro k hk e
        obtain ⟨cur, hc⟩ := own_blk' h.row k hk
        exact apart_ty' hc h.at_ (by decide) e
  · refine (copyCheck_used g w (blk_cell h.at_ 0)).mono ?_
    rintro e w' ⟨rfl, rfl⟩
    exact ⟨rfl, Upd.refl _ _, h⟩
/-- The append of a string to bytes that are owned: where the row lies. -/
theorem append_str {ops : Array Oper} {rest : List Oper} {o : Oper} {a : Act} {Q : Exit → Act → World → Prop} (hgd : o.guard = none) (sl x : Operand)
    (ho : o.op = .call { callee := .builtin .append, args := #[sl, x], argTypes := #[146, 9] })
    (v : Value) (n : Nat) (xs : List Value) (w : World) (hs : a.eval sl = v) (hown : w.ownsRow 0 5 1 v n xs) (s : ByteArray) (hx : a.eval x = .string s) (hb : n + s.size ≤ 140737488355328)
    (h : ∀ v' w', w'.ownsRow 0 5 1 v' (n + s.size) (xs ++ Lib.strCells s) → w.grownBy w' v.ownBlock → (v'.ownBlock = v.ownBlock ∨ v'.ownBlock = some w.heap.size) → wpList Tryz.prog ops Q rest (a.put o.dst v') w') : wpList Tryz.prog ops Q (o :: rest) a w := by
  obtain ⟨i, hi, hz0, hz1, hz2⟩ := info_parts Tryz.infoU8
  refine wpList_plain hgd fun K hK => ?_
  have ht := Tryz.underlying146
  have hu := Tryz.underlying9
  obtain ⟨v', w', hr, h2, h3, h4⟩ := Lib.run_append_own_string (P := Tryz.prog) w 0 _ _ o.type 5 i ht hu hi hz0 hz1 hz2 v n xs hown s (by unfold maxLen; omega) hb (Nat.zero_le _)
  have hblk : v'.ownBlock = v.ownBlock ∨ v'.ownBlock = some w.heap.size := by
    rcases hown.2 with ⟨rfl, rfl⟩ | ⟨g, cap, cur, rfl, hbg, hg, hnc, hcm, hcs, htake⟩
    · by_cases hm : s.size = 0
      · rw [h4.2 ⟨rfl, hm⟩]
        exact .inl rfl
      · have hq := run_append_nil_string (P := Tryz.prog) w _ _ o.type 5 i (.int .u8 0) ht hu hi hz0 s (by omega) (by omega) (by rw [hz2]; omega)
        rw [hr] at hq
        injection hq with hq
        rw [hq]
        exact .inr rfl
    · by_cases hroom : n + s.size ≤ cap
      · have hq := Lib.run_append_room_string (P := Tryz.prog) w _ _ o.type 5 i ht hu hi hz1 g n cap cur hg s hroom (by omega)
        rw [hr] at hq
        injection hq with hq
        rw [hq]
        exact .inl rfl
      · have holds : ∀ j u, xs[j]? = some u → w.cell? ((⟨g, 0, none⟩ : Addr).add j) = some u := hown.cells (g := g) rfl
        have hxl : xs.length = n := by simpa using hown.1
        have hq := Lib.run_append_grow_string (P := Tryz.prog) w _ _ o.type 5 i (.int .u8 0) ht hu hi hz0 ⟨g, 0, none⟩ n cap xs (by rw [hz1]; omega) holds s (by omega) (by omega) (by rw [hz2]; exact growslice_fits (by omega) (by omega))
        rw [hr] at hq
        injection hq with hq
        rw [hq]
        exact .inr rfl
  unfold Oper.wp execOp
  simp only [ho, resolve, invoke, builtin, Sem.run_bind, Sem.run_pure, Result.andThen_ok, List.map_toArray, List.map_cons, List.map_nil, hs, hx, hr]
  exact hK _ _ (h v' w' h2 h3 hblk)
def Jo.more (j : Jo) (s : ByteArray) : Jo := { j with bs := j.bs ++ s }
set_option maxHeartbeats 2000000 in
set_option maxRecDepth 100000 in
theorem wstr_any (g : Nat) (S : Nat → Prop) (j : Jo) (s : ByteArray) (w : World) (h : JoS w g S j) (hlen : j.bs.size + s.size ≤ 140737488355328) :
    Calls Tryz.prog 87 #[.pointer (some ⟨g, 0, none⟩), .string s] w fun e w' => e = .returned (.tuple #[.int .i64 s.size, .nilIface]) ∧ JoS w' g (Fr S w w') (j.more s) ∧ Upd S w w' := by
  obtain ⟨p, buf, h⟩ := h
  have hcc := copyCheck_any g S j p buf w h
  have hSg := h.inG
  go_enter Tryz.func87, Tryz.ntmps87
  go_wp2_with fail
  refine hcc.mono ?_
  rintro e w1 ⟨rfl, u1, h1⟩
  have c1 : w1.cell? ⟨g, 1, none⟩ = some buf := blk_cell h1.at_ 1
  have hlt : g < w1.heap.size := blk_lt h1.at_
  have H1 := hide h1
  have hrow := h1.row
  have U1 := hide (u1.mono (T := S) (fun k _ e => by rw [e]; exact hSg))
  clear hcc h1 u1 h
  go_wp2_with (at_builtin; refine append_str rfl _ _ rfl buf _ _ _ rfl hrow s rfl hlen ?_)
  intro v' w2 hown' hgrow hblk
  have h1 := unhide H1
  have hbg : buf.ownBlock ≠ some g := fun e => by
    obtain ⟨cur, hc⟩ := own_blk' h1.row g e
    exact apart_ty' hc h1.at_ (by decide) rfl
  have hat2 : JoR w2 g (j.v (.pointer (some ⟨g, 0, none⟩)) buf) := by
    unfold JoR
    rw [hgrow.block g hlt (fun e => hbg e.symm)]
    exact h1.at_
  have u2 : Upd S w1 w2 := (Upd.refl S w1).grown hgrow (fun k e _ => h1.inB k e)
  obtain ⟨ao, n', cap, rfl⟩ : ∃ ao n' cap, v' = .slice ao n' cap := by
    rcases hown'.2 with ⟨hv, _⟩ | ⟨g', cap, cur, hv, _⟩
    · exact ⟨_, _, _, hv⟩
    · exact ⟨_, _, _, hv⟩
  have d1 : w2.cell? ⟨g, 1, none⟩ = some buf := blk_cell hat2 1
  have f1 : w2.frozen? ⟨g, 1, none⟩ = false := blk_free hat2 1
  have hst : JoR (w2.setCell ⟨g, 1, none⟩ (.slice ao n' cap)) g ((j.more s).v (.pointer (some ⟨g, 0, none⟩)) (.slice ao n' cap)) := blk_set hat2 1 (.slice ao n' cap)
  have u3 : Upd (· = g) w2 (w2.setCell ⟨g, 1, none⟩ (.slice ao n' cap)) := (Upd.refl _ _).set1 _ _
  have hlt2 : g < w2.heap.size := blk_lt hat2
  have HO := hide hown'
  have HA := hide hat2
  have HS := hide hst
  have U2 := hide u2
  have U3 := hide u3
  have HBK := hide hblk
  clear hblk hown' hat2 hst hgrow u2 u3 hrow c1 hbg h1
  go_wp2_with fail
  go_ret2
  have h1 := unhide H1
  have hown' := unhide HO
  have u2 := unhide U2
  have u3 := unhide U3
  have hU : Upd S w (w2.setCell ⟨g, 1, none⟩ (.slice ao n' cap)) := ((unhide U1).trans u2).trans (u3.mono (fun k _ e => by rw [e]; exact hSg))
  have hge := (unhide U1).size
  have hge2 := u2.size
  have hge3 := u3.size
  refine ⟨rfl, ⟨.pointer (some ⟨g, 0, none⟩), .slice ao n' cap, unhide HS, .inr rfl, ?_, .inl hSg, ?_, ?_⟩, hU⟩
  · have : (w2.setCell ⟨g, 1, none⟩ (.slice ao n' cap)).ownsRow 0 5 1 (.slice ao n' cap) (j.bs.size + s.size) (Lib.strCells j.bs ++ Lib.strCells s) := row_upd' hown' u3 (fun k hk e => by
      obtain ⟨cur, hc⟩ := own_blk' hown' k hk
      exact apart_ty' hc (unhide HA) (by decide) e)
    show (w2.setCell ⟨g, 1, none⟩ (.slice ao n' cap)).ownsRow 0 5 1 (.slice ao n' cap) (j.bs ++ s).size (Lib.strCells (j.bs ++ s))
    rw [ByteArray.size_append, strCells_append]
    exact this
  · intro k hk
    rcases unhide HBK with e | e
    · rw [e] at hk
      exact .inl (h1.inB k hk)
    · rw [e] at hk
      injection hk with hk
      obtain ⟨cur, hc⟩ := own_blk' hown' k (by rw [e, hk])
      have := blk_lt hc
      exact .inr ⟨by omega, by omega⟩
  · rintro k (hk | hk)
    · have := h1.lt k hk
      omega
    · omega
set_option maxHeartbeats 1000000 in
set_option maxRecDepth 100000 in
theorem jwrite_any (g : Nat) (S : Nat → Prop) (j : Jo) (s : ByteArray) (w : World) (h : JoS w g S j) (hf : j.fused = false) (hlen : j.bs.size + s.size ≤ 140737488355328) :
    Calls Tryz.prog 124 #[.pointer (some ⟨g, 0, none⟩), .string s] w fun e w' => e = .returned (.bool true) ∧ JoS w' g (Fr S w w') (j.more s) ∧ Upd S w w' := by
  have hcall := wstr_any g S j s w h hlen
  obtain ⟨p, buf, hp⟩ := h
  have c3 : w.cell? ⟨g, 3, none⟩ = some (.bool false) := hf ▸ blk_cell hp.at_ 3
  clear hp
  go_enter Tryz.func124, Tryz.ntmps124
  go_wp2_with fail
  refine hcall.mono ?_
  rintro e w1 ⟨rfl, h1, u1⟩
  have H1 := hide h1
  have U1 := hide u1
  clear hcall h1 u1 c3
  go_wp2_with fail
  go_ret
  exact ⟨rfl, unhide H1, unhide U1⟩
end Go.Proofs.YtainkaojnhfldaaGreatDoor
