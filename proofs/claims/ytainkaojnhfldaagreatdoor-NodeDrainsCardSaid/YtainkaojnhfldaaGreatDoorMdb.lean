/-
  hearRevoke.
-/
import Derived.Test.YtainkaojnhfldaaGreatDoorMcb
import Derived.Test.YtainkaojnhfldaaGreatDoorSgn
import Derived.Test.YtainkaojnhfldaaGreatDoorMbf
import Derived.Test.YtainkaojnhfldaaGreatDoorMcg
set_option linter.unusedVariables false
set_option linter.unusedSimpArgs false
namespace Go.Proofs.YtainkaojnhfldaaGreatDoor
open Go.RowKit

attribute [local go_sem ↓ high] ld_hsh_fold st_hsh_fold al_hsh_fold bd_hsh_fold ld_msg_fold st_msg_fold al_msg_fold bd_msg_fold
attribute [local go_sem] ld_hsh st_hsh al_hsh bd_hsh rowN_drew ld_msg st_msg al_msg

end Go.Proofs.YtainkaojnhfldaaGreatDoor
namespace Go.Proofs.YtainkaojnhfldaaGreatDoor
open Go.RowKit

def ldVw (x : Value) : Sem Value := Instr.loadAt 152 x
theorem ld_vw_fold (x : Value) : Instr.loadAt 152 x = ldVw x := rfl
theorem ld_vw (b o : Nat) (w : World) : (ldVw (.pointer (some ⟨b, o, none⟩))).run Tryz.prog w = match rowN w b o 3 with | some A => .ok (.agg A) w | none => slowLd Tryz.prog 152 w b o :=
  run_loadAt_rowN 152 3 _ Tryz.underlying152 rfl Tryz.infoView b o w
def stVw (x v : Value) : Sem Unit := Instr.storeAt 152 x v
theorem st_vw_fold (x v : Value) : Instr.storeAt 152 x v = stVw x v := rfl
theorem st_vw (b o : Nat) (A : Array Value) (w : World) : (stVw (.pointer (some ⟨b, o, none⟩)) (.agg A)).run Tryz.prog w = if stOk w b o 3 A = true then .ok () (w.setCells b o A.toList) else slowSt Tryz.prog 152 w b o A :=
  run_storeAt_row 152 3 Tryz.infoView b o A w
def alVw : Sem Value := Instr.alloc 152 true (.tuple #[])
theorem al_vw_fold : Instr.alloc 152 true (.tuple #[]) = alVw := rfl
def zVw : List Value := [.int .u64 0, .int .u64 0, .slice none 0 0]
theorem al_vw (w : World) : alVw.run Tryz.prog w = .ok (.pointer (some ⟨w.heap.size, 0, none⟩)) (w.alloc (.cells zVw.toArray 152)) := by kernel_rfl

attribute [local go_sem ↓ high] ld_hsh_fold st_hsh_fold al_hsh_fold bd_hsh_fold ld_msg_fold st_msg_fold al_msg_fold bd_msg_fold ld_bas_fold ld_vw_fold st_vw_fold al_vw_fold ne_hsh_fold bs_msg_fold
attribute [local go_sem] ld_hsh st_hsh al_hsh bd_hsh rowN_drew ld_msg st_msg al_msg bd_msg_zero ld_bas ld_vw st_vw al_vw bs_msg

end Go.Proofs.YtainkaojnhfldaaGreatDoor
namespace Go.Proofs.YtainkaojnhfldaaGreatDoor
open Go.RowKit

end Go.Proofs.YtainkaojnhfldaaGreatDoor
namespace Go.Proofs.YtainkaojnhfldaaGreatDoor
open Go.RowKit

attribute [local go_sem ↓ high] ld_live_fold
attribute [local go_sem] ld_live rowN_drew

end Go.Proofs.YtainkaojnhfldaaGreatDoor
namespace Go.Proofs.YtainkaojnhfldaaGreatDoor
open Go.RowKit

attribute [local go_sem ↓ high] ld_hsh_fold st_hsh_fold al_hsh_fold bd_hsh_fold ld_msg_fold st_msg_fold al_msg_fold bd_msg_fold
attribute [local go_sem] ld_hsh st_hsh al_hsh bd_hsh rowN_drew ld_msg st_msg al_msg

end Go.Proofs.YtainkaojnhfldaaGreatDoor
namespace Go.Proofs.YtainkaojnhfldaaGreatDoor
open Go.RowKit

attribute [local go_sem ↓ high] ld_msg_fold st_msg_fold al_msg_fold bd_msg_fold
attribute [local go_sem] ld_msg st_msg al_msg rowN_drew

end Go.Proofs.YtainkaojnhfldaaGreatDoor
namespace Go.Proofs.YtainkaojnhfldaaGreatDoor
open Go.RowKit

/-- Two ends, whose blocks are apart, all made since w0. -/
structure Two (w0 w : World) (gA gB : Nat) (SA SB : Nat → Prop) (a b : Ch) : Prop where
  A : ChS w gA SA a
  B : ChS w gB SB b
  geA : ∀ k, SA k → w0.heap.size ≤ k
  geB : ∀ k, SB k → w0.heap.size ≤ k
  sep : ∀ k, SA k → ¬ SB k
  n : New w0 w
section
variable {w0 w w' : World} {gA gB : Nat} {SA SB : Nat → Prop} {a b a' b' : Ch}
theorem Two.new (h : Two w0 w gA gB SA SB a b) (u : New w w') : Two w0 w' gA gB SA SB a b := ⟨h.A.new u, h.B.new u, h.geA, h.geB, h.sep, h.n.trans u⟩
/-- A block that is neither's. -/
structure Off (w : World) (SA SB : Nat → Prop) (K : Nat) : Prop where
  lt : K < w.heap.size
  a : ¬ SA K
  b : ¬ SB K
theorem Off.new {K : Nat} (h : Off w SA SB K) (u : w.heap.size ≤ w'.heap.size) : Off w' SA SB K := ⟨by have := h.lt; omega, h.a, h.b⟩
theorem Off.fresh {K : Nat} (h : Two w0 w gA gB SA SB a b) (hK : w.heap.size ≤ K) (hl : K < w'.heap.size) : Off w' SA SB K :=
  ⟨hl, fun k => by have := h.A.lt K k; omega, fun k => by have := h.B.lt K k; omega⟩
/-- A store into a block that is neither's. -/
theorem Two.put {K : Nat} (h : Two w0 w gA gB SA SB a b) (o : Off w SA SB K) (hK : w0.heap.size ≤ K) (u : Upd (· = K) w w') : Two w0 w' gA gB SA SB a b :=
  ⟨h.A.upd u (fun k hk e => o.a (e ▸ hk)), h.B.upd u (fun k hk e => o.b (e ▸ hk)), h.geA, h.geB, h.sep, h.n.then u (fun i hi e => by omega)⟩
end
theorem offerH_any (g : Nat) (S : Nat → Prop) (c : Ch) (n : Int) (h : List Int) (ex : Int) (w : World) (hc : ChS w g S c) (hl : h.length = 32) (hb : Bytes h) (hn : 0 ≤ n ∧ n < 18446744073709551616) (hx : -9223372036854775808 ≤ ex ∧ ex ≤ 9223372036854775807) (hfew : c.news.length < 1000000 ∧ c.xs.length < 1000000) :
    Calls Tryz.prog 42 #[.pointer (some ⟨g, 0, none⟩), .int .u64 n, .agg (hshV h).toArray, .int .i64 ex] w fun e w' =>
      e = .returned (.tuple #[.agg (c.offer n (hvec h) ex).2.1.cells.toArray, .int .i64 (c.offer n (hvec h) ex).2.2]) ∧ ChS w' g (Fr S w w') (c.offer n (hvec h) ex).1 ∧ Upd S w w' := by
  have := offer_any g S c n (hvec h) ex w hc hn hx (by rw [hvec_list hl]; exact hb) hfew
  rw [hvec_list hl] at this
  exact this

end Go.Proofs.YtainkaojnhfldaaGreatDoor
namespace Go.Proofs.YtainkaojnhfldaaGreatDoor
open Go.RowKit

/-- A link, as plain data. -/
structure Lk where
  c : Ch
  j : Jo
  rest : ByteArray
  out : ByteArray
  ev : Value
  ticks : Int
  dead : Bool
  broken : Bool
  waits : Bool
def Lk.v (l : Lk) (sp en lo : Nat) : LinkV := ⟨sp, en, lo, l.out, l.ev, l.ticks, l.dead, l.broken, l.waits⟩
/-- A link lies in block g; all its blocks are in S. -/
structure LkP (w : World) (g : Nat) (S : Nat → Prop) (l : Lk) (sp en lo : Nat) (SC SJ : Nat → Prop) : Prop where
  at_ : LkR w g (l.v sp en lo)
  spl : SpR w sp l.rest
  chn : ChS w en SC l.c
  jou : JoS w lo SJ l.j
  inG : S g
  inS : S sp
  inC : ∀ k, SC k → S k
  inJ : ∀ k, SJ k → S k
  gC : ¬ SC g
  gJ : ¬ SJ g
  sC : ¬ SC sp
  sJ : ¬ SJ sp
  cJ : ∀ k, SC k → ¬ SJ k
  lt : ∀ k, S k → k < w.heap.size
def LkS (w : World) (g : Nat) (S : Nat → Prop) (l : Lk) : Prop := ∃ sp en lo SC SJ, LkP w g S l sp en lo SC SJ
section
variable {w w' : World} {g : Nat} {S T : Nat → Prop} {l : Lk} {sp en lo : Nat} {SC SJ : Nat → Prop}
theorem LkP.upd (h : LkP w g S l sp en lo SC SJ) (u : Upd T w w') (hd : ∀ k, S k → ¬ T k) : LkP w' g S l sp en lo SC SJ :=
  ⟨u.old h.at_ (hd g h.inG), u.old h.spl (hd sp h.inS), h.chn.upd u (fun k hk => hd k (h.inC k hk)), h.jou.upd u (fun k hk => hd k (h.inJ k hk)), h.inG, h.inS, h.inC, h.inJ, h.gC, h.gJ, h.sC, h.sJ, h.cJ, fun k hk => Nat.lt_of_lt_of_le (h.lt k hk) u.size⟩
theorem LkS.upd (h : LkS w g S l) (u : Upd T w w') (hd : ∀ k, S k → ¬ T k) : LkS w' g S l := by
  obtain ⟨sp, en, lo, SC, SJ, h⟩ := h
  exact ⟨sp, en, lo, SC, SJ, h.upd u hd⟩
theorem LkS.new (h : LkS w g S l) (u : New w w') : LkS w' g S l := h.upd u (fun _ _ h => h)
theorem LkP.new (h : LkP w g S l sp en lo SC SJ) (u : New w w') : LkP w' g S l sp en lo SC SJ := h.upd u (fun _ _ h => h)
theorem LkS.lt (h : LkS w g S l) : ∀ k, S k → k < w.heap.size := by
  obtain ⟨sp, en, lo, SC, SJ, h⟩ := h
  exact h.lt
theorem LkP.ne (h : LkP w g S l sp en lo SC SJ) : g ≠ sp := apart_ty' h.at_ h.spl (by decide)
theorem LkP.wider (h : LkP w g S l sp en lo SC SJ) (hs : ∀ k, S k → T k) (hl : ∀ k, T k → k < w.heap.size) : LkP w g T l sp en lo SC SJ :=
  ⟨h.at_, h.spl, h.chn, h.jou, hs g h.inG, hs sp h.inS, fun k e => hs k (h.inC k e), fun k e => hs k (h.inJ k e), h.gC, h.gJ, h.sC, h.sJ, h.cJ, hl⟩
/-- The channel goes on. -/
theorem LkP.chan (h : LkP w g S l sp en lo SC SJ) (u : Upd SC w w') {c' : Ch} (hc : ChS w' en (Fr SC w w') c') : LkP w' g (Fr S w w') { l with c := c' } sp en lo (Fr SC w w') SJ := by
  have hge : ∀ k, Fr SC w w' k → k < w.heap.size → SC k := fun k hk hl => hk.elim id (fun e => by omega)
  refine ⟨u.old h.at_ h.gC, u.old h.spl h.sC, hc, h.jou.upd u (fun k hk e => h.cJ k e hk), .inl h.inG, .inl h.inS, ?_, fun k hk => .inl (h.inJ k hk), ?_, h.gJ, ?_, h.sJ, ?_, ?_⟩
  · rintro k (hk | hk)
    · exact .inl (h.inC k hk)
    · exact .inr hk
  · exact fun e => h.gC (hge g e (h.lt g h.inG))
  · exact fun e => h.sC (hge sp e (h.lt sp h.inS))
  · exact fun k hk hj => h.cJ k (hge k hk (h.jou.lt k hj)) hj
  · rintro k (hk | hk)
    · exact Nat.lt_of_lt_of_le (h.lt k hk) u.size
    · exact hk.2
/-- The journal goes on. -/
theorem LkP.jour (h : LkP w g S l sp en lo SC SJ) (u : Upd SJ w w') {j' : Jo} (hc : JoS w' lo (Fr SJ w w') j') : LkP w' g (Fr S w w') { l with j := j' } sp en lo SC (Fr SJ w w') := by
  have hge : ∀ k, Fr SJ w w' k → k < w.heap.size → SJ k := fun k hk hl => hk.elim id (fun e => by omega)
  refine ⟨u.old h.at_ h.gJ, u.old h.spl h.sJ, h.chn.upd u (fun k hk e => h.cJ k hk e), hc, .inl h.inG, .inl h.inS, fun k hk => .inl (h.inC k hk), ?_, h.gC, ?_, h.sC, ?_, ?_, ?_⟩
  · rintro k (hk | hk)
    · exact .inl (h.inJ k hk)
    · exact .inr hk
  · exact fun e => h.gJ (hge g e (h.lt g h.inG))
  · exact fun e => h.sJ (hge sp e (h.lt sp h.inS))
  · exact fun k hk hj => h.cJ k hk (hge k hj (h.chn.lt k hk))
  · rintro k (hk | hk)
    · exact Nat.lt_of_lt_of_le (h.lt k hk) u.size
    · exact hk.2
/-- A cell of the link's own block set. -/
theorem LkP.put (h : LkP w g S l sp en lo SC SJ) {i : Nat} {x : Value} {l' : Lk} (he : (l.v sp en lo).cells.toArray.setIfInBounds i x = (l'.v sp en lo).cells.toArray) (hr : l'.rest = l.rest) (hc : l'.c = l.c) (hj : l'.j = l.j) :
    LkP (w.setCell ⟨g, i, none⟩ x) g S l' sp en lo SC SJ := by
  have u : Upd (· = g) w (w.setCell ⟨g, i, none⟩ x) := (Upd.refl _ _).set1 i x
  refine ⟨?_, ?_, ?_, ?_, h.inG, h.inS, h.inC, h.inJ, h.gC, h.gJ, h.sC, h.sJ, h.cJ, fun k hk => Nat.lt_of_lt_of_le (h.lt k hk) u.size⟩
  · have := blk_set h.at_ i x
    rw [he] at this
    exact this
  · rw [hr]; exact u.old h.spl (fun e => h.ne e.symm)
  · rw [hc]; exact h.chn.upd u (fun k hk e => h.gC (e ▸ hk))
  · rw [hj]; exact h.jou.upd u (fun k hk e => h.gJ (e ▸ hk))
end
theorem LkP.put_out {w : World} {g : Nat} {S : Nat → Prop} {l : Lk} {sp en lo : Nat} {SC SJ : Nat → Prop} (h : LkP w g S l sp en lo SC SJ) (s : ByteArray) : LkP (w.setCell ⟨g, 3, none⟩ (.string s)) g S { l with out := s } sp en lo SC SJ := h.put rfl rfl rfl rfl
theorem LkP.put_dead {w : World} {g : Nat} {S : Nat → Prop} {l : Lk} {sp en lo : Nat} {SC SJ : Nat → Prop} (h : LkP w g S l sp en lo SC SJ) (b : Bool) : LkP (w.setCell ⟨g, 6, none⟩ (.bool b)) g S { l with dead := b } sp en lo SC SJ := h.put rfl rfl rfl rfl
def Lk.new (c : Ch) : Lk := ⟨c, .new, ⟨#[]⟩, ⟨#[]⟩, nilV, 0, false, false, false⟩

set_option maxRecDepth 100000 in
set_option maxHeartbeats 1000000 in
theorem lnum_any (n width : Nat) (w : World) (hw1 : 1 ≤ width) (hw8 : width ≤ 8) (hn : n < 2 ^ (8 * width)) :
    Calls Tryz.prog 43 #[.int .u64 n, .int .i64 width] w (Makes (.string (numS n width)) w) := by
  go_enter Tryz.func43, Tryz.ntmps43
  go_upto_region 2 with fail
  have b1 : Wr (w.alloc (.cells #[.string ⟨#[]⟩] 144)) w.heap.size ⟨#[]⟩ := blk_alloc _ _
  have n1 : New w (w.alloc (.cells #[.string ⟨#[]⟩] 144)) := (Upd.refl _ _).alloc _
  have hz : ¬ w.heap.size < w.heap.size := Nat.lt_irrefl _
  generalize w.alloc (.cells #[.string ⟨#[]⟩] 144) = w1 at b1 n1 ⊢
  have N1 := hide n1
  have HZ := hide hz
  generalize hB : w.heap.size = B at b1 HZ ⊢
  have HB := hide hB
  clear n1 hB hz
  have e0 : (⟨#[]⟩ : ByteArray) ++ numS n width = numS n width := ByteArray.empty_append
  have hcall := number_any B n width ⟨#[]⟩ w1 b1 hw1 hw8 hn (by show (0 : Nat) ≤ _; omega)
  rw [e0] at hcall
  generalize hv : numS n width = v at hcall
  have HV := hide hv
  clear e0 b1 hn hw1 hw8 hv
  go_wp2_with fail
  refine hcall.mono ?_
  rintro e w2 ⟨rfl, u2, h2⟩
  have N2 := hide ((unhide N1).then u2 (fun k hk e => by have := unhide HB; omega))
  clear hcall u2
  go_wp2_with fail
  refine (bytesW_any _ _ _ h2).mono ?_
  rintro e w3 ⟨rfl, rfl⟩
  go_wp2_with fail
  go_ret
  exact ⟨by rw [unhide HV]; rfl, unhide N2⟩
attribute [local go_sem ↓ high] ld_hsh_fold st_hsh_fold al_hsh_fold
attribute [local go_sem] ld_hsh st_hsh al_hsh rowN_drew
set_option maxRecDepth 100000 in
set_option maxHeartbeats 1000000 in
theorem lhash_any (h : List Int) (w : World) (hl : h.length = 32) :
    Calls Tryz.prog 44 #[.agg (hshV h).toArray] w (Makes (.string (strOfNums h)) w) := by
  go_enter Tryz.func44, Tryz.ntmps44
  go_upto_region 1 with fail
  have hb := blk_alloc w (.cells (hshV h).toArray 32)
  have n1 : New w (w.alloc (.cells (hshV h).toArray 32)) := (Upd.refl _ _).alloc _
  generalize w.alloc (.cells (hshV h).toArray 32) = w1 at hb n1 ⊢
  generalize w.heap.size = B at hb ⊢
  have hst : (convert 146 9 (.slice (some ⟨B, 0, none⟩) 32 32)).run Tryz.prog w1 = .ok (.string (strOfNums h)) w1 := by
    refine run_convert_bytes_arg w1 146 5 Tryz.underlying146 Tryz.underlying5 B 0 32 32 h hl (fun i hi => ?_) 9 Tryz.underlying9
    have hli : i < h.length := by omega
    rw [Nat.zero_add, blk_cell hb i, List.getElem?_toArray]
    unfold hshV
    rw [List.getElem?_map, List.getElem?_eq_getElem hli]
    simp [List.getD, List.getElem?_eq_getElem hli]
  generalize hqe : strOfNums h = q at hst
  have HQE := hide hqe
  clear hqe
  have N1 := hide n1
  clear n1
  go_wp2_with fail
  go_ret
  exact ⟨by rw [unhide HQE]; rfl, unhide N1⟩
end Go.Proofs.YtainkaojnhfldaaGreatDoor
