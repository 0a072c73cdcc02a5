/-
  The tables that an end's calls read, together.
-/
import Derived.Test.YtainkaojnhfldaaGreatDoorCh8
import Derived.Test.YtainkaojnhfldaaGreatDoorMcf
import Derived.Test.YtainkaojnhfldaaGreatDoorJr2
import Derived.Test.YtainkaojnhfldaaGreatDoorMcj
set_option linter.unusedVariables false
set_option linter.unusedSimpArgs false
namespace Go.Proofs.YtainkaojnhfldaaGreatDoor
open Go.RowKit

structure Tb (w : World) : Prop where
  glob : Glob w
  spans : Spans w
  tabs : Tabs w
  deb : Deb w
/-- No table lies in S. -/
structure Apart (S : Nat → Prop) : Prop where
  a : ¬ S 0
  b : ¬ S 2
  c : ¬ S 4
  d : ¬ S 1
  e : ¬ S 6
theorem Tb.upd {S : Nat → Prop} {w w' : World} (h : Tb w) (u : Upd S w w') (a : Apart S) : Tb w' := ⟨h.glob.upd u a.a, h.spans.upd u a.b, h.tabs.upd u a.c a.d, h.deb.upd u a.e⟩
theorem Tb.new {w w' : World} (h : Tb w) (u : New w w') : Tb w' := ⟨h.glob.new u, h.spans.new u, h.tabs.new u, h.deb.new u⟩
theorem Tb.lt {w : World} (h : Tb w) : 0 < w.heap.size ∧ 2 < w.heap.size ∧ 4 < w.heap.size ∧ 1 < w.heap.size ∧ 6 < w.heap.size :=
  ⟨World.block_lt_of_cell? w _ (h.glob.events 0 (by decide)), World.block_lt_of_cell? w _ (h.spans.spans 0 (by decide)), h.tabs.lt.1, h.tabs.lt.2, World.block_lt_of_cell? w _ (h.deb.tab 0 (by decide))⟩
theorem Apart.fr {S : Nat → Prop} {w : World} (h : Apart S) (t : Tb w) (w' : World) : Apart (Fr S w w') := by
  obtain ⟨a, b, c, d, e⟩ := t.lt
  refine ⟨?_, ?_, ?_, ?_, ?_⟩
  · rintro (k | k)
    · exact h.a k
    · omega
  · rintro (k | k)
    · exact h.b k
    · omega
  · rintro (k | k)
    · exact h.c k
    · omega
  · rintro (k | k)
    · exact h.d k
    · omega
  · rintro (k | k)
    · exact h.e k
    · omega
theorem Apart.mono {S T : Nat → Prop} (h : Apart S) (st : ∀ k, T k → S k) : Apart T := ⟨fun k => h.a (st _ k), fun k => h.b (st _ k), fun k => h.c (st _ k), fun k => h.d (st _ k), fun k => h.e (st _ k)⟩
/-- The tables but bits'. -/
structure Tc (w : World) : Prop where
  glob : Glob w
  spans : Spans w
  tabs : Tabs w
structure ApC (S : Nat → Prop) : Prop where
  a : ¬ S 0
  b : ¬ S 2
  c : ¬ S 4
  d : ¬ S 1
theorem Tb.c {w : World} (h : Tb w) : Tc w := ⟨h.glob, h.spans, h.tabs⟩
theorem Tc.upd {S : Nat → Prop} {w w' : World} (h : Tc w) (u : Upd S w w') (a : ApC S) : Tc w' := ⟨h.glob.upd u a.a, h.spans.upd u a.b, h.tabs.upd u a.c a.d⟩
theorem Tc.new {w w' : World} (h : Tc w) (u : New w w') : Tc w' := ⟨h.glob.new u, h.spans.new u, h.tabs.new u⟩
theorem Tc.lt {w : World} (h : Tc w) : 0 < w.heap.size ∧ 2 < w.heap.size ∧ 4 < w.heap.size ∧ 1 < w.heap.size :=
  ⟨World.block_lt_of_cell? w _ (h.glob.events 0 (by decide)), World.block_lt_of_cell? w _ (h.spans.spans 0 (by decide)), h.tabs.lt.1, h.tabs.lt.2⟩
theorem ApC.mono {S T : Nat → Prop} (h : ApC S) (st : ∀ k, T k → S k) : ApC T := ⟨fun k => h.a (st _ k), fun k => h.b (st _ k), fun k => h.c (st _ k), fun k => h.d (st _ k)⟩
theorem apc_ge {S : Nat → Prop} {w0 : World} (t : Tc w0) (ge : ∀ k, S k → w0.heap.size ≤ k) : ApC S := by
  obtain ⟨a, b, c, d⟩ := t.lt
  exact ⟨fun h => by have := ge _ h; omega, fun h => by have := ge _ h; omega, fun h => by have := ge _ h; omega, fun h => by have := ge _ h; omega⟩
/-- The digest's tables are not in S. -/
structure ApD (S : Nat → Prop) : Prop where
  c : ¬ S 4
  d : ¬ S 1
theorem Upd.fr {S : Nat → Prop} {w1 w2 w3 : World} (u : Upd S w1 w2) (v : Upd (Fr S w1 w2) w2 w3) : Upd S w1 w3 := u.then v fun i hi h => by
  rcases h with h | h
  · exact h
  · omega
/-- S and what was made later is S and what was made at all. -/
theorem ChS.later {S : Nat → Prop} {w1 w2 w3 : World} {g : Nat} {c : Ch} (h : ChS w3 g (Fr S w2 w3) c) (h1 : w1.heap.size ≤ w2.heap.size) : ChS w3 g (Fr S w1 w3) c := by
  obtain ⟨a, b, d, h⟩ := h
  refine ⟨a, b, d, h.wider (fun k hk => ?_) (fun k hk => ?_)⟩
  · rcases hk with hk | hk
    · exact .inl hk
    · exact .inr ⟨by omega, hk.2⟩
  · rcases hk with hk | hk
    · exact h.lt k (.inl hk)
    · exact hk.2

theorem ChS.grow {S : Nat → Prop} {w0 w1 w2 : World} {g : Nat} {c : Ch} (h : ChS w2 g (Fr S w0 w1) c) (h1 : w1.heap.size ≤ w2.heap.size) : ChS w2 g (Fr S w0 w2) c := by
  obtain ⟨a, b, d, h⟩ := h
  refine ⟨a, b, d, h.wider (fun k hk => ?_) (fun k hk => ?_)⟩
  · rcases hk with hk | hk
    · exact .inl hk
    · exact .inr ⟨hk.1, by omega⟩
  · rcases hk with hk | hk
    · exact h.lt k (.inl hk)
    · exact hk.2

end Go.Proofs.YtainkaojnhfldaaGreatDoor
namespace Go.Proofs.YtainkaojnhfldaaGreatDoor
open Go.RowKit

def jheadS (n : Nat) (s : ByteArray) : ByteArray := numS n 8 ++ numS s.size 2 ++ s
def putI (n : Nat) (s : ByteArray) : ByteArray := jheadS n s ++ sum4 (jheadS n s)
theorem jheadS_size (n : Nat) (s : ByteArray) : (jheadS n s).size = 10 + s.size := by
  unfold jheadS
  rw [ByteArray.size_append, ByteArray.size_append, numS_size, numS_size]
theorem putI_size (n : Nat) (s : ByteArray) : (putI n s).size = 14 + s.size := by
  unfold putI
  rw [ByteArray.size_append, jheadS_size, sum4_size]
  omega
set_option maxRecDepth 100000 in
set_option maxHeartbeats 1000000 in
theorem jput_any (n : Nat) (s : ByteArray) (w : World) (hn : n < 2 ^ 64) (hs : s.size ≤ 1024) (hT : Tabs w) :
    Calls Tryz.prog 123 #[.int .u64 n, .string s] w (Makes (.tuple #[.string (putI n s), .int .i64 0]) w) := by
  have hwr : IntKind.u64.wrap (s.size : Int) = s.size := wrapU (by omega) (by omega)
  have hsz := jheadS_size n s
  have hs4 := sum4_size (jheadS n s)
  have e0 : (⟨#[]⟩ : ByteArray) ++ numS n 8 = numS n 8 := ByteArray.empty_append
  have E8 := hide (numS_size n 8)
  have e9 : (numS n 8 ++ numS s.size 2).size = 10 := by rw [ByteArray.size_append, numS_size, numS_size]
  have E9 := hide e9
  have EH := hide (show numS n 8 ++ numS s.size 2 ++ s = jheadS n s from rfl)
  have EP := hide (show jheadS n s ++ sum4 (jheadS n s) = putI n s from rfl)
  have HS := hide (And.intro hsz hs4)
  clear e9 hsz hs4
  go_enter Tryz.func123, Tryz.ntmps123
  go_upto_region 2 with fail
  have b1 : Wr (w.alloc (.cells #[.string ⟨#[]⟩] 144)) w.heap.size ⟨#[]⟩ := blk_alloc _ _
  have n1 : New w (w.alloc (.cells #[.string ⟨#[]⟩] 144)) := (Upd.refl _ _).alloc _
  generalize w.alloc (.cells #[.string ⟨#[]⟩] 144) = w1 at b1 n1 ⊢
  have N1 := hide n1
  generalize hB : w.heap.size = B at b1 ⊢
  have HB := hide hB
  clear n1 hB
  have hcall := number_any B n 8 ⟨#[]⟩ w1 b1 (by decide) (by decide) hn (by show (0 : Nat) ≤ _; omega)
  rw [e0] at hcall
  clear e0 b1
  go_wp2_with fail
  refine hcall.mono ?_
  rintro e w2 ⟨rfl, u2, h2⟩
  have N2 := hide ((unhide N1).then u2 (fun k hk e => by have := unhide HB; omega))
  have hcall := number_any B s.size 2 (numS n 8) w2 h2 (by decide) (by decide) (by show s.size < 65536; omega) (by have := unhide E8; omega)
  clear u2 h2 N1
  go_wp2_with fail
  refine hcall.mono ?_
  rintro e w3 ⟨rfl, u3, h3⟩
  have N3 := hide ((unhide N2).then u3 (fun k hk e => by have := unhide HB; omega))
  clear hcall u3 N2 hwr
  go_wp2_with fail
  refine (bytesW_any _ _ _ h3).mono ?_
  rintro e w4 ⟨rfl, rfl⟩
  have hj := jsum_any (jheadS n s) w3 (by have := (unhide HS).1; omega) (hT.new (unhide N3))
  have hq1 : (jheadS n s).size ≤ 1034 := by have := (unhide HS).1; omega
  have hq2 := (unhide HS).2
  have hq3 := unhide E9
  clear h3 hT
  generalize numS n 8 ++ numS s.size 2 = a at *
  go_wp2_with fail
  rw [unhide EH]
  refine hj.mono ?_
  rintro e w5 ⟨rfl, n5⟩
  have N5 := hide ((unhide N3).trans n5)
  clear hj n5 N3 HB E8
  go_wp2_with fail
  rw [unhide EP]
  clear EP HS hq1 hq2 EH
  generalize jheadS n s = hv
  generalize putI n s = pv
  generalize sum4 hv = sv
  go_ret2
  exact ⟨rfl, unhide N5⟩
/-- One record more. -/
def Jo.app (j : Jo) (s : ByteArray) : Jo := { j with bs := j.bs ++ putI j.many.toNat s, many := j.many + 1 }
theorem set_many {w : World} {g : Nat} {S : Nat → Prop} {j : Jo} (h : JoS w g S j) (n : Int) : JoS (w.setCell ⟨g, 2, none⟩ (.int .i64 n)) g S { j with many := n } := by
  obtain ⟨p, buf, h⟩ := h
  have u : Upd (· = g) w (w.setCell ⟨g, 2, none⟩ (.int .i64 n)) := (Upd.refl _ _).set1 _ _
  refine ⟨p, buf, blk_set h.at_ 2 _, h.addr, row_upd' h.row u ?_, h.inG, h.inB, fun k hk => Nat.lt_of_lt_of_le (h.lt k hk) u.size⟩
  intro k hk e
  obtain ⟨cur, hc⟩ := own_blk' h.row k hk
  exact apart_ty' hc h.at_ (by decide) e
theorem JoS.wider {w : World} {g : Nat} {S T : Nat → Prop} {j : Jo} (h : JoS w g S j) (hs : ∀ k, S k → T k) (hl : ∀ k, T k → k < w.heap.size) : JoS w g T j := by
  obtain ⟨p, b, h⟩ := h
  exact ⟨p, b, h.wider hs hl⟩
def AppSt (g : Nat) (S : Nat → Prop) (j : Jo) (s : ByteArray) (w0 : World) (i : Nat) (w : World) : Prop := (i = 0 → w = w0) ∧ (i = 1 → JoS w g (Fr S w0 w) (j.app s) ∧ Upd S w0 w)
set_option maxRecDepth 100000 in
set_option maxHeartbeats 2000000 in
/-- One record is put behind all others. -/
theorem jappend_any (g b : Nat) (S : Nat → Prop) (j : Jo) (s : ByteArray) (w : World) (h : JoS w g S j) (hf : j.fused = false) (ho : j.off = false) (hs : s.size ≤ 1024) (hm : 0 ≤ j.many ∧ j.many < 1099511627776) (hlen : j.bs.size ≤ 1099511627776) (hT : Tabs w) (hb : w.cell? ⟨b, 0, none⟩ = some (.string s)) (hbS : ¬ S b) :
    Calls Tryz.prog 89 #[.pointer (some ⟨g, 0, none⟩), .slice (some ⟨b, 0, none⟩) 1 1] w fun e w' => e = .returned (.int .i64 0) ∧ JoS w' g (Fr S w w') (j.app s) ∧ Upd S w w' := by
  obtain ⟨p, buf, hp⟩ := h
  have c5 : w.cell? ⟨g, 5, none⟩ = some (.bool false) := ho ▸ blk_cell hp.at_ 5
  have hp2 : w.cell? ⟨g, 2, none⟩ = some (.int .i64 j.many) := blk_cell hp.at_ 2
  have hG := hp.inG
  have H := hide (show JoS w g S j from ⟨p, buf, hp⟩)
  obtain ⟨m, hme⟩ := Int.eq_ofNat_of_zero_le hm.1
  have hwr : IntKind.u64.wrap (m : Int) = (m : Int) := wrapU (by omega) (by omega)
  rw [hme] at hp2
  have hput := fun w' (n' : New w w') => jput_any m s w' (by omega) hs (hT.new n')
  have hpz := putI_size m s
  have hmb : m < 1099511627776 := by omega
  have HME := hide hme
  have HM := hide hm
  clear hp hme hm
  go_enter Tryz.func89, Tryz.ntmps89
  go_wp2_with fail
  go_loopw [13] (fun iv wr => ∃ i : Nat, iv = .int .i64 (i : Int) ∧ i ≤ 1 ∧ wr = w) (fun iv _ => 1 - (intOf iv).toNat)
  case atStart => exact ⟨0, rfl, by omega, rfl⟩
  case round =>
    obtain ⟨i, rfl, hi, rfl⟩ := hrel
    rcases (by omega : i = 0 ∨ i = 1) with rfl | rfl
    · go_wp2_with fail
      go_roundw
      case rel => exact ⟨1, rfl, by omega, by trivial⟩
      case measure => simp [intOf]
    · rw [show ((1 : Nat) : Int) = 1 from rfl]
      go_wp2_with fail
      go_loopw [27] (fun iv wr' => ∃ i : Nat, iv = .int .i64 (i : Int) ∧ i ≤ 1 ∧ Hid (AppSt g S j s wr i wr')) (fun iv _ => 1 - (intOf iv).toNat)
      case atStart => exact ⟨0, rfl, by omega, hide ⟨fun _ => rfl, fun e => by cases e⟩⟩
      case round =>
        obtain ⟨i, rfl, hi, hrel⟩ := hrel
        rcases (by omega : i = 0 ∨ i = 1) with rfl | rfl
        · obtain rfl := (unhide hrel).1 rfl
          clear hrel
          rw [show ((0 : Nat) : Int) = 0 from rfl]
          go_wp2_with fail
          refine (hput _ (Upd.refl _ _)).mono ?_
          rintro e w1 ⟨rfl, n1⟩
          have hw := jwrite_any g S j (putI m s) w1 ((unhide H).new n1) hf (by omega)
          have N1 := hide n1
          clear n1 hput hb c5 hp2
          go_wp2_with fail
          refine hw.mono ?_
          rintro e w2 ⟨rfl, h2, u2⟩
          have hn : JoS (w2.setCell ⟨g, 2, none⟩ (.int .i64 ((m : Int) + 1))) g (Fr S w1 w2) (j.app s) := by
            have := set_many h2 ((m : Int) + 1)
            unfold Jo.app
            rw [unhide HME, Int.toNat_natCast]
            exact this
          have hu3 : Upd (· = g) w2 (w2.setCell ⟨g, 2, none⟩ (.int .i64 ((m : Int) + 1))) := (Upd.refl _ _).set1 _ _
          have HU3 := hide hu3
          have HZ3 := hide hu3.size
          obtain ⟨p2, b2, hp2⟩ := h2
          have d2 : w2.cell? ⟨g, 2, none⟩ = some (.int .i64 (m : Int)) := by have := unhide HME; rw [← this]; exact blk_cell hp2.at_ 2
          have f2 := blk_free hp2.at_ 2
          have HN := hide hn
          have U2 := hide u2
          clear hw hn hp2 u2 hu3
          go_wp2_with fail
          go_roundw
          case rel =>
            have n1 := unhide N1
            have u2 := unhide U2
            have z3 := unhide HZ3
            have z1 := n1.size
            have z2 := u2.size
            have hz := (unhide H).lt
            refine ⟨1, rfl, by omega, hide ⟨(fun e => by cases e), fun _ => ⟨(unhide HN).wider ?_ ?_, ?_⟩⟩⟩
            · rintro k (hk | hk)
              · exact .inl hk
              · exact .inr ⟨by omega, by omega⟩
            · rintro k (hk | hk)
              · have := hz k hk
                omega
              · exact hk.2
            · exact ((n1.mono (fun _ _ h => h.elim)).trans u2).trans ((unhide HU3).mono (fun k _ e => by rw [e]; exact hG))
          case measure => simp [intOf]
        · go_wp2_with fail
          go_ret
          exact ⟨rfl, (unhide hrel).2 rfl⟩
end Go.Proofs.YtainkaojnhfldaaGreatDoor
namespace Go.Proofs.YtainkaojnhfldaaGreatDoor
open Go.RowKit

structure LinkV where
  sp : Nat
  en : Nat
  lo : Nat
  out : ByteArray
  events : Value
  ticks : Int
  dead : Bool
  broken : Bool
  waits : Bool
def ptrV (g : Nat) : Value := .pointer (some ⟨g, 0, none⟩)
def LinkV.cells (l : LinkV) : List Value := [ptrV l.sp, ptrV l.en, ptrV l.lo, .string l.out, l.events, .int .i64 l.ticks, .bool l.dead, .bool l.broken, .bool l.waits]
def LkR (w : World) (g : Nat) (l : LinkV) : Prop := w.heap[g]? = some (.cells l.cells.toArray 89 (0, 0))
/-- A splitter that holds s. -/
def SpR (w : World) (g : Nat) (s : ByteArray) : Prop := w.heap[g]? = some (.cells #[.string s] 136 (0, 0))
def LinkV.new (sp en lo : Nat) : LinkV := ⟨sp, en, lo, ⟨#[]⟩, nilV, 0, false, false, false⟩

/-- A link that is new, of a channel that is new. -/
structure NewL (w : World) (B g : Nat) (s : SetupV) (l : LinkV) : Prop where
  isNew : l = .new l.sp l.en l.lo
  lk : LkR w g l
  sp : SpR w l.sp ⟨#[]⟩
  ch : ChR w l.en (.new s)
  jo : JoR w l.lo .new
  ge : B ≤ g ∧ B ≤ l.sp ∧ B ≤ l.en ∧ B ≤ l.lo
  ne : l.en < l.lo ∧ l.lo < l.sp ∧ l.sp < g

attribute [local go_sem ↓ high] ld_setup_fold
attribute [local go_sem] ld_setup
set_option maxRecDepth 100000 in
set_option maxHeartbeats 1000000 in
theorem newL_any (s : SetupV) (hs : s.Ok) (w : World) : Calls Tryz.prog 39 #[.agg s.cells.toArray] w fun e w' =>
    (s.may ∧ ∃ g l, e = .returned (.pointer (some ⟨g, 0, none⟩)) ∧ NewL w' w.heap.size g s l ∧ New w w') ∨ (¬ s.may ∧ e = .returned (.pointer none) ∧ New w w') := by
  go_enter Tryz.func39, Tryz.ntmps39
  go_upto_region 1 with fail
  have hb : SetR (w.alloc (.cells s.cells.toArray 34)) w.heap.size s := blk_alloc _ _
  have n0 : New w (w.alloc (.cells s.cells.toArray 34)) := (Upd.refl _ _).alloc _
  generalize w.alloc (.cells s.cells.toArray 34) = w1 at hb n0 ⊢
  have hrow := hb.row hs.seed
  go_wp2_with fail
  refine (newC_any s hs _).mono ?_
  rintro e w2 (⟨hm, g, rfl, hg, hc, n2⟩ | ⟨hm, rfl, n2⟩)
  · replace n2 := n0.trans n2
    have hg' : w.heap.size ≤ g := Nat.le_trans n0.size hg
    clear n0 hb hrow hg
    have HM := hide hm
    clear hm
    go_wp2_with fail
    refine (recover_nil _).mono ?_
    rintro e w3 ⟨j, rfl, hj, hjo, n3⟩
    have hgl := hc.lt
    replace hc := hc.new n3
    replace n3 := n2.trans n3
    have hjl := blk_lt hjo
    have hj' := n2.size
    clear n2
    go_wp2_with fail
    go_ret
    have hm := unhide HM
    have n4 := n3.alloc (.cells #[.string ⟨#[]⟩] 136)
    have hsp : SpR _ w3.heap.size ⟨#[]⟩ := blk_alloc w3 (.cells #[.string ⟨#[]⟩] 136)
    have n43 : New w3 (w3.alloc (.cells #[.string ⟨#[]⟩] 136)) := (Upd.refl _ _).alloc _
    have hz : (w3.alloc (.cells #[.string ⟨#[]⟩] 136)).heap.size = w3.heap.size + 1 := World.size_alloc _ _
    replace hc := hc.new n43
    replace hjo : JoR _ j .new := n43.old hjo (fun h => h)
    have hw : w.heap.size ≤ j := by omega
    generalize w3.alloc (.cells #[.string ⟨#[]⟩] 136) = w4 at n4 hsp n43 hz hc hjo ⊢
    have hlk : LkR _ w4.heap.size (.new w3.heap.size g j) := blk_alloc w4 (.cells (LinkV.new w3.heap.size g j).cells.toArray 89)
    have n54 : New w4 (w4.alloc (.cells (LinkV.new w3.heap.size g j).cells.toArray 89)) := (Upd.refl _ _).alloc _
    have n5 := n4.trans n54
    rw [hz] at hlk
    have h43 := n3.size
    exact .inl ⟨hm, w3.heap.size + 1, .new w3.heap.size g j, rfl, ⟨rfl, hlk, n54.old hsp (fun h => h), hc.new n54, n54.old hjo (fun h => h), ⟨by omega, h43, hg', hw⟩, ⟨by show g < j; omega, hjl, by show w3.heap.size < _; omega⟩⟩, n5⟩
  · have n3 := n0.trans n2
    clear n0 hb hrow n2
    have HM := hide hm
    clear hm
    go_wp2_with fail
    go_ret
    exact .inr ⟨unhide HM, rfl, n3⟩

end Go.Proofs.YtainkaojnhfldaaGreatDoor
