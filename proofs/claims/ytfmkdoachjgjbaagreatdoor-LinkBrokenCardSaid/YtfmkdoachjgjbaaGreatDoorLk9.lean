/-
  A link: Offer.
-/
import Derived.Test.YtfmkdoachjgjbaaGreatDoorLk7
import Derived.Test.YtfmkdoachjgjbaaGreatDoorMda
set_option linter.unusedVariables false
set_option linter.unusedSimpArgs false
namespace Go.Proofs.YtfmkdoachjgjbaaGreatDoor
open Go.RowKit

attribute [local go_sem ↓ high] ld_msg_fold st_msg_fold al_msg_fold bd_msg_fold bs_msg_fold ld_hsh_fold
attribute [local go_sem] ld_msg st_msg al_msg rowN_drew bd_msg_zero bs_msg ld_hsh
set_option maxRecDepth 100000 in
set_option maxHeartbeats 2000000 in
/-- What Offer hands to act. -/
theorem offer1_any (PL PN PH PX g en : Nat) (SC : Nat → Prop) (c : Ch) (n : Int) (h : List Int) (ex : Int) (w : World) (hc : ChS w en SC c) (hl : h.length = 32) (hb : Bytes h) (hn : 0 ≤ n ∧ n < 18446744073709551616) (hx : -9223372036854775808 ≤ ex ∧ ex ≤ 9223372036854775807) (hfew : c.news.length < 1000000 ∧ c.xs.length < 1000000) (hml : (c.offer n (hvec h) ex).2.1.hash.length = 32)
    (cL : w.cell? ⟨PL, 0, none⟩ = some (.pointer (some ⟨g, 0, none⟩))) (cE : w.cell? ⟨g, 1, none⟩ = some (.pointer (some ⟨en, 0, none⟩))) (cN : w.cell? ⟨PN, 0, none⟩ = some (.int .u64 n)) (cH : rowN w PH 0 32 = some (hshV h).toArray) (cX : w.cell? ⟨PX, 0, none⟩ = some (.int .i64 ex)) :
    Calls Tryz.prog 46 #[.pointer (some ⟨PL, 0, none⟩), .pointer (some ⟨PN, 0, none⟩), .pointer (some ⟨PH, 0, none⟩), .pointer (some ⟨PX, 0, none⟩)] w fun e w' => SaysIt en SC (c.offer n (hvec h) ex).2.1 (c.offer n (hvec h) ex).2.2 (c.offer n (hvec h) ex).1 e w w' := by
  have hlt := hc.lt
  have hcall := fun w' (n' : New w w') => offerH_any en SC c n h ex w' (hc.new n') hl hb hn hx hfew
  generalize (c.offer n (hvec h) ex).2.1 = M at *
  generalize (c.offer n (hvec h) ex).2.2 = er at *
  generalize (c.offer n (hvec h) ex).1 = c' at *
  have n1 : New w (w.alloc (.cells MsgV.zero.cells.toArray 101)) := (Upd.refl _ _).alloc _
  have b1 := ms_alloc w MsgV.zero z32i_len
  have hK : w.heap.size < (w.alloc (.cells MsgV.zero.cells.toArray 101)).heap.size := by rw [World.size_alloc]; omega
  have HS := hide hlt
  have HB := hide hb
  clear hc hb hlt
  go_enter Tryz.func46, Tryz.ntmps46
  go_upto_region 1 with fail
  generalize w.alloc (.cells MsgV.zero.cells.toArray 101) = w1 at n1 b1 hK ⊢
  replace cL := n1.cell cL (fun h => h)
  replace cE := n1.cell cE (fun h => h)
  replace cN := n1.cell cN (fun h => h)
  replace cX := n1.cell cX (fun h => h)
  replace cH := rowN_upd cH n1 (fun h => h)
  replace hcall := hcall w1.drew n1.drew
  obtain ⟨K, e⟩ : ∃ K, K = w.heap.size := ⟨_, rfl⟩
  rw [← e] at b1 hK ⊢
  have E := hide e
  clear e
  go_wp2_with (with_reducible first | (first | refine' tw1 (ido ?_) ?_ | refine' tw2 (ido ?_) ?_); rotate_left | refine' tw3 (ido ?_) | rfl | apply tn | refine' tw4 ?_)
  refine hcall.mono ?_
  rintro e w2 ⟨rfl, hc2, u2⟩
  have z2 := u2.size
  have z1 := n1.size
  have hKS : ¬ SC K := fun e => by have := unhide HS K e; have := unhide E; omega
  have b2 := b1.upd u2.ofDrew hKS
  have hst := b2.stOk hml
  have b3 := b2.put hml
  have u3 : Upd (· = K) w2 (w2.setCells K 0 M.cells) := upd_sets _
  have hF := b3.at_
  have HE := hide (And.intro hc2 (And.intro u2 u3))
  have z3 := u3.size
  clear hcall hc2 u2 b2 b3 u3 cL cE cN cX cH b1
  go_wp2_with (with_reducible first | (first | refine' tw1 (ido ?_) ?_ | refine' tw2 (ido ?_) ?_); rotate_left | refine' tw3 (ido ?_) | rfl | apply tn | refine' tw4 ?_)
  refine bodyPost_ret (results_row_tmp' rfl _ _ K _ _ _ _ rfl hF Tryz.underlying101 rfl (by rw [List.size_toArray, M.len hml]; exact Tryz.infoMsg)) rfl ?_
  obtain ⟨hc2, u2, u3⟩ := unhide HE
  have e := unhide E
  have z2 : w1.heap.size ≤ w2.heap.size := z2
  refine ⟨rfl, ?_, ((n1.mono (fun _ _ h => h.elim)).trans u2.ofDrew).then u3 (fun k hk e => by omega)⟩
  have h3 := hc2.upd u3 (fun k hk e => by
    rcases hk with hk | hk
    · exact hKS (e ▸ hk)
    · have : w1.heap.size ≤ k := hk.1
      omega)
  exact ChS.later (ChS.grow (w0 := w1) h3 z3) z1

theorem row4 {a b c d x : ByteArray} {w : World} {B j : Nat} (hx : [a, b, c, d][j]? = some x) (hr : w.heap[B]? = some (.cells #[.string a, .string b, .string c, .string d] 9 (0, 0))) : w.cell? ⟨B, j, none⟩ = some (.string x) := by
  rw [blk_cell hr]
  match j, hx with
  | 0, hx => obtain rfl : a = x := by simpa using hx
             rfl
  | 1, hx => obtain rfl : b = x := by simpa using hx
             rfl
  | 2, hx => obtain rfl : c = x := by simpa using hx
             rfl
  | 3, hx => obtain rfl : d = x := by simpa using hx
             rfl
  | j + 4, hx => simp at hx
theorem join4_size {n x : Nat} {h : List Int} (hl : h.length = 32) : (joinS [numS 1 1, numS n 8, strOfNums h, numS x 4]).size ≤ 1024 := by
  unfold joinS joinS joinS joinS joinS
  simp only [ByteArray.size_append, numS_size, strOfNums_size, hl]
  decide
def recO (n x : Nat) (h : List Int) : List ByteArray := [numS 1 1, numS n 8, strOfNums h, numS x 4]
def Lk.offers (l : Lk) (n x : Nat) (h : List Int) : Lk := l.acts (l.c.offer n (hvec h) x).1 (joinS (recO n x h)) (l.c.offer n (hvec h) x).2.1 (l.c.offer n (hvec h) x).2.2
set_option maxRecDepth 100000 in
set_option maxHeartbeats 8000000 in
theorem loffer_any (g : Nat) (S : Nat → Prop) (l : Lk) (n x : Nat) (h : List Int) (w : World) (h0 : LkS w g S l) (hk : LkOk l) (hl : h.length = 32) (hb : Bytes h) (hn8 : n < 2 ^ (8 * 8)) (hx4 : x < 2 ^ (8 * 4)) (hfew : l.c.news.length < 1000000 ∧ l.c.xs.length < 1000000)
    (hsay : (l.c.offer n (hvec h) x).2.2 = 0 → SayOk (l.c.offer n (hvec h) x).2.1) (hm0 : (l.c.offer n (hvec h) x).2.1.hash.length = 32) (hT : Tabs w) (hA : ApD S) :
    Calls Tryz.prog 11 #[.pointer (some ⟨g, 0, none⟩), .int .u64 (n : Int), .agg (hshV h).toArray, .int .i64 (x : Int)] w fun e w' => e = .returned (.tuple #[.int .u64 (actM (l.c.offer n (hvec h) x).2.1 (l.c.offer n (hvec h) x).2.2).id, .int .i64 (l.c.offer n (hvec h) x).2.2]) ∧ LkS w' g (Fr S w w') (l.offers n x h) ∧ Upd S w w' := by
  have hmf : ∀ (fn : Fn) (first cap : Array Value) (w : World), (Instr.makeFunc fn first cap).run Tryz.prog w = .ok (.func fn first cap) w := fun _ _ _ _ => rfl
  have hwx : IntKind.u64.wrap (x : Int) = x := wrapU (by omega) (by omega)
  have hS0 := h0.lt
  obtain ⟨sp, en, lo, SC, SJ, h0⟩ := h0
  -- the blocks that are made first
  obtain ⟨w4, hw4⟩ : ∃ w4, w4 = (((w.alloc (.cells #[.pointer (some ⟨g, 0, none⟩)] 28)).alloc (.cells #[.int .u64 (n : Int)] 22)).alloc (.cells (hshV h).toArray 35)).alloc (.cells #[.int .i64 (x : Int)] 3) := ⟨_, rfl⟩
  have n4 : New w w4 := by rw [hw4]; exact ((((Upd.refl _ _).alloc _).alloc _).alloc _).alloc _
  have bL : w4.cell? ⟨w.heap.size, 0, none⟩ = some (.pointer (some ⟨g, 0, none⟩)) := by
    rw [hw4]
    exact blk_cell (blk_alloc_old (blk_alloc_old (blk_alloc_old (blk_alloc _ _) _) _) _) 0
  have bN : w4.cell? ⟨w.heap.size + 1, 0, none⟩ = some (.int .u64 (n : Int)) := by
    rw [hw4]
    have := blk_alloc (w.alloc (.cells #[.pointer (some ⟨g, 0, none⟩)] 28)) (.cells #[.int .u64 (n : Int)] 22)
    rw [World.size_alloc] at this
    exact blk_cell (blk_alloc_old (blk_alloc_old this _) _) 0
  have bH : rowN w4 (w.heap.size + 1 + 1) 0 32 = some (hshV h).toArray := by
    rw [hw4]
    have := blk_alloc ((w.alloc (.cells #[.pointer (some ⟨g, 0, none⟩)] 28)).alloc (.cells #[.int .u64 (n : Int)] 22)) (.cells (hshV h).toArray 35)
    rw [World.size_alloc, World.size_alloc] at this
    exact rowN_whole (blk_alloc_old this _) 32 (by rw [List.size_toArray, hshV_len, hl])
  have bX : w4.cell? ⟨w.heap.size + 1 + 1 + 1, 0, none⟩ = some (.int .i64 (x : Int)) := by
    rw [hw4]
    have := blk_alloc (((w.alloc (.cells #[.pointer (some ⟨g, 0, none⟩)] 28)).alloc (.cells #[.int .u64 (n : Int)] 22)).alloc (.cells (hshV h).toArray 35)) (.cells #[.int .i64 (x : Int)] 3)
    rw [World.size_alloc, World.size_alloc, World.size_alloc] at this
    exact blk_cell this 0
  have hF0 : ∀ (PL PN PH PX : Nat) a, ChS a en SC l.c → a.cell? ⟨PL, 0, none⟩ = some (.pointer (some ⟨g, 0, none⟩)) → a.cell? ⟨g, 1, none⟩ = some (.pointer (some ⟨en, 0, none⟩)) → a.cell? ⟨PN, 0, none⟩ = some (.int .u64 (n : Int)) → rowN a PH 0 32 = some (hshV h).toArray → a.cell? ⟨PX, 0, none⟩ = some (.int .i64 (x : Int)) →
      Calls Tryz.prog 46 (#[] ++ #[.pointer (some ⟨PL, 0, none⟩), .pointer (some ⟨PN, 0, none⟩), .pointer (some ⟨PH, 0, none⟩), .pointer (some ⟨PX, 0, none⟩)]) a fun e a' => SaysIt en SC (l.c.offer n (hvec h) x).2.1 (l.c.offer n (hvec h) x).2.2 (l.c.offer n (hvec h) x).1 e a a' := fun PL PN PH PX a hc c1 c2 c3 c4 c5 =>
    offer1_any PL PN PH PX g en SC l.c n h x a hc hl hb ⟨by omega, by omega⟩ ⟨by omega, by omega⟩ hfew hm0 c1 c2 c3 c4 c5
  have hsz : (joinS [numS 1 1, numS n 8, strOfNums h, numS x 4]).size ≤ 1024 := join4_size hl
  unfold Lk.offers recO
  generalize (l.c.offer n (hvec h) x).1 = c' at *
  generalize (l.c.offer n (hvec h) x).2.1 = MM0 at *
  generalize (l.c.offer n (hvec h) x).2.2 = er at *
  obtain ⟨MM, hMM⟩ : ∃ MM, MM = actM MM0 er := ⟨_, rfl⟩
  rw [← hMM]
  have hml : MM.hash.length = 32 := by rw [hMM]; exact actM_len hm0
  have HMM := hide hMM
  obtain ⟨LL, hLL⟩ : ∃ LL, LL = l.acts c' (joinS [numS 1 1, numS n 8, strOfNums h, numS x 4]) MM0 er := ⟨_, rfl⟩
  rw [← hLL]
  have HLL := hide hLL
  clear hMM hLL hfew hb
  go_enter Tryz.func11, Tryz.ntmps11
  go_upto_region 1 with fail
  rw [← hw4]
  have z4 : w.heap.size + 1 + 1 + 1 < w4.heap.size := by rw [hw4]; simp only [World.size_alloc]; omega
  clear hw4
  obtain ⟨PL, ePL⟩ : ∃ PL, PL = w.heap.size := ⟨_, rfl⟩
  rw [← ePL] at bL bN bH bX z4 ⊢
  obtain ⟨PN, ePN⟩ : ∃ PN, PN = PL + 1 := ⟨_, rfl⟩
  rw [← ePN] at bN bH bX z4 ⊢
  obtain ⟨PH, ePH⟩ : ∃ PH, PH = PN + 1 := ⟨_, rfl⟩
  rw [← ePH] at bH bX z4 ⊢
  obtain ⟨PX, ePX⟩ : ∃ PX, PX = PH + 1 := ⟨_, rfl⟩
  rw [← ePX] at bX z4 ⊢
  have hSP : ¬ S PL ∧ ¬ S PN ∧ ¬ S PH ∧ ¬ S PX := ⟨fun e => by have := hS0 _ e; omega, fun e => by have := hS0 _ e; omega, fun e => by have := hS0 _ e; omega, fun e => by have := hS0 _ e; omega⟩
  have HPP := hide (And.intro ePL (And.intro ePN (And.intro ePH ePX)))
  have HN4 := hide n4
  have hSl : ∀ k, S k → k < w4.heap.size := fun k e => Nat.lt_of_lt_of_le (hS0 k e) n4.size
  replace hT := hT.new n4
  have h1 := h0.new n4
  have HZ4 := hide z4
  clear ePL ePN ePH ePX z4 n4 h0 hS0
  have c1 : w4.drew.cell? ⟨PL, 0, none⟩ = some (.pointer (some ⟨g, 0, none⟩)) ∧ w4.drew.cell? ⟨PN, 0, none⟩ = some (.int .u64 (n : Int)) ∧ rowN w4.drew PH 0 32 = some (hshV h).toArray ∧ w4.drew.cell? ⟨PX, 0, none⟩ = some (.int .i64 (x : Int)) := ⟨bL, bN, bH, bX⟩
  have hkC : ∀ X, New w4 X → X.cell? ⟨PL, 0, none⟩ = some (.pointer (some ⟨g, 0, none⟩)) ∧ X.cell? ⟨PN, 0, none⟩ = some (.int .u64 (n : Int)) ∧ rowN X PH 0 32 = some (hshV h).toArray ∧ X.cell? ⟨PX, 0, none⟩ = some (.int .i64 (x : Int)) := fun X q => ⟨q.cell bL (fun h => h), q.cell bN (fun h => h), rowN_upd bH q (fun h => h), q.cell bX (fun h => h)⟩
  have hkU : ∀ X S', LkE X g S' sp en lo LL → Upd S w4 X → X.cell? ⟨PL, 0, none⟩ = some (.pointer (some ⟨g, 0, none⟩)) ∧ X.cell? ⟨PN, 0, none⟩ = some (.int .u64 (n : Int)) ∧ rowN X PH 0 32 = some (hshV h).toArray ∧ X.cell? ⟨PX, 0, none⟩ = some (.int .i64 (x : Int)) := fun X S' _ q => ⟨q.cell bL hSP.1, q.cell bN hSP.2.1, rowN_upd bH q hSP.2.2.1, q.cell bX hSP.2.2.2⟩
  have hF := fun a (na : New w4 a) => hF0 PL PN PH PX a (h1.chn.new na) (hkC a na).1 (na.cell (blk_cell h1.at_ 1) (fun h => h)) (hkC a na).2.1 (hkC a na).2.2.1 (hkC a na).2.2.2
  have n00 : New w4 w4.drew := (Upd.refl _ _).drew
  have HL := hide h1
  clear hF0 h1 bL bN bH bX
  go_cut [10, 11] from 12 to 26 (fun kv ev wx => ∃ K, kv = .pointer (some ⟨K, 0, none⟩) ∧ ev = .int .i64 er ∧ MsB wx K MM ∧ LkE wx g (Fr S w4 wx) sp en lo LL ∧ Upd S w4 wx ∧ w4.heap.size ≤ K)
  case first =>
    refine wp_plan (fun w' => w'.cell? ⟨PL, 0, none⟩ = some (.pointer (some ⟨g, 0, none⟩)) ∧ w'.cell? ⟨PN, 0, none⟩ = some (.int .u64 (n : Int)) ∧ rowN w' PH 0 32 = some (hshV h).toArray ∧ w'.cell? ⟨PX, 0, none⟩ = some (.int .i64 (x : Int))) [0, 3, 5, 7, 8] (.fork (.of [15, 0, 1, 2, 3, 4, 5, 6, 7, 8, 9, 10, 11, 12, 13, 14, 16, 17]) (Plan.pre [0, 1, 2] (.fork (.of [15, 3, 4, 5, 6, 7, 8, 9, 10, 11, 12, 13, 14, 16, 17]) (Plan.pre [3, 4] (.fork (.of [15, 5, 6, 7, 8, 9, 10, 11, 12, 13, 14, 16, 17]) (Plan.pre [5, 6] (.fork (.of [15, 7, 8, 9, 10, 11, 12, 13, 14, 16, 17]) (Plan.pre [7, 8, 9] (.fork (.of [15, 10, 11, 12, 13, 14, 16, 17]) (Plan.pre [10] (.fork (.of [15, 11, 12, 13, 14, 16, 17]) (.of [11, 12, 13, 14, 15, 16, 17])))))))))))) (by kernel_rfl) (by kernel_rfl) c1 ?_
    simp only [Plan.of, Plan.pre]
    refine qf ?_ ?_
    · skip
      try go_wp2_with (with_reducible first | (first | refine' qw1 (ido ?_) ?_ | refine' qw2 (ido ?_) ?_ | refine' qw3 (ido ?_) ?_); rotate_left | refine' qw4 (ido ?_) | refine' qw5 (ido ?_) | rfl | apply qn)
      have m1 : New w4 (w4.alloc (.cells MsgV.zero.cells.toArray 101)).drew := ((Upd.refl _ _).alloc _).drew
      have b1 : MsB (w4.alloc (.cells MsgV.zero.cells.toArray 101)).drew w4.heap.size MsgV.zero := (ms_alloc w4 MsgV.zero z32i_len).new (Upd.drew (Upd.refl (fun _ => False) _))
      obtain ⟨K1, e1⟩ : ∃ K, K = w4.heap.size := ⟨_, rfl⟩
      have n1 : New w4 (w4.alloc (.cells MsgV.zero.cells.toArray 101)).drew := m1
      first | refine ⟨hkC _ n1, ?_⟩ | skip
      have y1 := b1.lt
      generalize (w4.alloc (.cells MsgV.zero.cells.toArray 101)).drew = wa1 at m1 b1 n1 y1 ⊢
      have q1 := hkC _ n1
      rw [← e1] at b1 y1 ⊢
      have E1 := hide e1
      have g1 : w4.heap.size ≤ K1 := by rw [e1]; exact Nat.le_refl _
      clear e1
      try go_wp2_with (with_reducible first | (first | refine' qw1 (ido ?_) ?_ | refine' qw2 (ido ?_) ?_ | refine' qw3 (ido ?_) ?_); rotate_left | refine' qw4 (ido ?_) | refine' qw5 (ido ?_) | rfl | apply qn)
      refine (lnum_any 1 1 wa1 (by decide) (by decide) (by decide)).mono ?_
      rintro e wc2 ⟨rfl, m2⟩
      have n2 : New w4 wc2 := n1.trans m2
      have b2 := b1.new m2
      have q2 := hkC _ n2
      go_wp2_with (first | (with_reducible first | (first | refine' qw1 (ido ?_) ?_ | refine' qw2 (ido ?_) ?_ | refine' qw3 (ido ?_) ?_); rotate_left | refine' qw4 (ido ?_) | refine' qw5 (ido ?_) | rfl | apply qn) | refine ⟨hkC _ n2, ?_⟩)
      try go_wp2_with (with_reducible first | (first | refine' qw1 (ido ?_) ?_ | refine' qw2 (ido ?_) ?_ | refine' qw3 (ido ?_) ?_); rotate_left | refine' qw4 (ido ?_) | refine' qw5 (ido ?_) | rfl | apply qn)
      refine (lnum_any n 8 wc2 (by decide) (by decide) hn8).mono ?_
      rintro e wc3 ⟨rfl, m3⟩
      have n3 : New w4 wc3 := n2.trans m3
      have b3 := b2.new m3
      have q3 := hkC _ n3
      go_wp2_with (first | (with_reducible first | (first | refine' qw1 (ido ?_) ?_ | refine' qw2 (ido ?_) ?_ | refine' qw3 (ido ?_) ?_); rotate_left | refine' qw4 (ido ?_) | refine' qw5 (ido ?_) | rfl | apply qn) | refine ⟨hkC _ n3, ?_⟩)
      try go_wp2_with (with_reducible first | (first | refine' qw1 (ido ?_) ?_ | refine' qw2 (ido ?_) ?_ | refine' qw3 (ido ?_) ?_); rotate_left | refine' qw4 (ido ?_) | refine' qw5 (ido ?_) | rfl | apply qn)
      refine (lhash_any h wc3 hl).mono ?_
      rintro e wc4 ⟨rfl, m4⟩
      have n4 : New w4 wc4 := n3.trans m4
      have b4 := b3.new m4
      have q4 := hkC _ n4
      go_wp2_with (first | (with_reducible first | (first | refine' qw1 (ido ?_) ?_ | refine' qw2 (ido ?_) ?_ | refine' qw3 (ido ?_) ?_); rotate_left | refine' qw4 (ido ?_) | refine' qw5 (ido ?_) | rfl | apply qn) | refine ⟨hkC _ n4, ?_⟩)
      try go_wp2_with (with_reducible first | (first | refine' qw1 (ido ?_) ?_ | refine' qw2 (ido ?_) ?_ | refine' qw3 (ido ?_) ?_); rotate_left | refine' qw4 (ido ?_) | refine' qw5 (ido ?_) | rfl | apply qn)
      refine (lnum_any x 4 wc4 (by decide) (by decide) hx4).mono ?_
      rintro e wc5 ⟨rfl, m5⟩
      have n5 : New w4 wc5 := n4.trans m5
      have b5 := b4.new m5
      have q5 := hkC _ n5
      go_wp2_with (first | (with_reducible first | (first | refine' qw1 (ido ?_) ?_ | refine' qw2 (ido ?_) ?_ | refine' qw3 (ido ?_) ?_); rotate_left | refine' qw4 (ido ?_) | refine' qw5 (ido ?_) | rfl | apply qn) | refine ⟨hkC _ n5, ?_⟩)
      try go_wp2_with (with_reducible first | (first | refine' qw1 (ido ?_) ?_ | refine' qw2 (ido ?_) ?_ | refine' qw3 (ido ?_) ?_); rotate_left | refine' qw4 (ido ?_) | refine' qw5 (ido ?_) | rfl | apply qn)
      have m6 : New wc5 (wc5.alloc (.cells #[.string (numS 1 1), .string (numS n 8), .string (strOfNums h), .string (numS x 4)] 9)) := (Upd.refl _ _).alloc _
      have n6 := n5.trans m6
      have r6 := blk_alloc wc5 (.cells #[.string (numS 1 1), .string (numS n 8), .string (strOfNums h), .string (numS x 4)] 9)
      have z6 : wc5.heap.size < (wc5.alloc (.cells #[.string (numS 1 1), .string (numS n 8), .string (strOfNums h), .string (numS x 4)] 9)).heap.size := by rw [World.size_alloc]; omega
      have y6 := n5.size
      have b6 := b5.new m6
      have a6 := b5.lt
      generalize wc5.alloc (.cells #[.string (numS 1 1), .string (numS n 8), .string (strOfNums h), .string (numS x 4)] 9) = ws6 at m6 n6 r6 z6 b6 ⊢
      first | refine ⟨hkC _ n6, ?_⟩ | skip
      clear m6
      have q6 := hkC _ n6
      generalize wc5.heap.size = B6 at *
      try go_wp2_with (with_reducible first | (first | refine' qw1 (ido ?_) ?_ | refine' qw2 (ido ?_) ?_ | refine' qw3 (ido ?_) ?_); rotate_left | refine' qw4 (ido ?_) | refine' qw5 (ido ?_) | rfl | apply qn)
      have hcall := act_fn g B6 S l sp en lo SC SJ 46 #[] #[.pointer (some ⟨PL, 0, none⟩), .pointer (some ⟨PN, 0, none⟩), .pointer (some ⟨PH, 0, none⟩), .pointer (some ⟨PX, 0, none⟩)] MM0 er c' [numS 1 1, numS n 8, strOfNums h, numS x 4] ws6 ((unhide HL).new n6) hk hm0 hsay (hT.new n6) hA (enters_of Tryz.func46 (by kernel_rfl) rfl) (fun a na => hF a (n6.trans na)) (fun j x hx => row4 hx r6) (by simp) hsz (by omega) (fun e => by have := hSl _ e; omega)
      rw [← unhide HMM, ← unhide HLL] at hcall
      refine hcall.mono ?_
      rintro e wt7 ⟨rfl, l7, v7⟩
      have u7 : Upd S w4 wt7 := (n6.mono (fun _ _ h => h.elim)).trans v7
      have x7 := n6.size
      have y7 := v7.size
      have b7 := b6.upd v7 (fun e => by have := hSl _ e; omega)
      clear hcall v7
      have hst := b7.stOk hml
      have c8 := b7.put hml
      have x8 : Upd (· = K1) wt7 _ := upd_sets (w := wt7) (b := K1) MM.cells
      have HE := hide (And.intro c8 (And.intro x8 (And.intro l7 u7)))
      have xx8 := x8.size
      clear c8 x8
      try go_wp2_with (with_reducible first | (first | refine' qw1 (ido ?_) ?_ | refine' qw2 (ido ?_) ?_ | refine' qw3 (ido ?_) ?_); rotate_left | refine' qw4 (ido ?_) | refine' qw5 (ido ?_) | rfl | apply qn)
      go_meet
      case rel =>
        obtain ⟨c, x, l, u⟩ := unhide HE
        refine ⟨K1, rfl, rfl, c, ?_, u.then x (fun i hi e => by omega), by omega⟩
        have E := unhide E1
        refine (l.upd x (fun k hk e => ?_)).wider (fun k hk => ?_) (fun k hk => ?_)
        · rcases hk with hk | hk
          · have := hSl k hk
            omega
          · omega
        · rcases hk with hk | hk
          · exact .inl hk
          · exact .inr ⟨by omega, by omega⟩
        · rcases hk with hk | hk
          · have := hSl k hk
            omega
          · exact hk.2
    · skip
      try go_wp2_with (with_reducible first | (first | refine' qw1 (ido ?_) ?_ | refine' qw2 (ido ?_) ?_ | refine' qw3 (ido ?_) ?_); rotate_left | refine' qw4 (ido ?_) | refine' qw5 (ido ?_) | rfl | apply qn)
      refine (lnum_any 1 1 w4.drew (by decide) (by decide) (by decide)).mono ?_
      rintro e wc9 ⟨rfl, m9⟩
      replace m9 := m9.ofDrew
      have n9 : New w4 wc9 := m9
      have q9 := hkC _ n9
      go_wp2_with (first | (with_reducible first | (first | refine' qw1 (ido ?_) ?_ | refine' qw2 (ido ?_) ?_ | refine' qw3 (ido ?_) ?_); rotate_left | refine' qw4 (ido ?_) | refine' qw5 (ido ?_) | rfl | apply qn) | refine ⟨hkC _ n9, ?_⟩)
      refine qf ?_ ?_
      · skip
        try go_wp2_with (with_reducible first | (first | refine' qw1 (ido ?_) ?_ | refine' qw2 (ido ?_) ?_ | refine' qw3 (ido ?_) ?_); rotate_left | refine' qw4 (ido ?_) | refine' qw5 (ido ?_) | rfl | apply qn)
        have m10 : New wc9 (wc9.alloc (.cells MsgV.zero.cells.toArray 101)) := ((Upd.refl _ _).alloc _)
        have b10 : MsB (wc9.alloc (.cells MsgV.zero.cells.toArray 101)) wc9.heap.size MsgV.zero := ms_alloc wc9 MsgV.zero z32i_len
        obtain ⟨K10, e10⟩ : ∃ K, K = wc9.heap.size := ⟨_, rfl⟩
        have n10 : New w4 (wc9.alloc (.cells MsgV.zero.cells.toArray 101)) := n9.trans m10
        first | refine ⟨hkC _ n10, ?_⟩ | skip
        have y10 := b10.lt
        generalize (wc9.alloc (.cells MsgV.zero.cells.toArray 101)) = wa10 at m10 b10 n10 y10 ⊢
        have q10 := hkC _ n10
        rw [← e10] at b10 y10 ⊢
        have E10 := hide e10
        have g10 : w4.heap.size ≤ K10 := by rw [e10]; exact n9.size
        clear e10
        try go_wp2_with (with_reducible first | (first | refine' qw1 (ido ?_) ?_ | refine' qw2 (ido ?_) ?_ | refine' qw3 (ido ?_) ?_); rotate_left | refine' qw4 (ido ?_) | refine' qw5 (ido ?_) | rfl | apply qn)
        refine (lnum_any n 8 wa10 (by decide) (by decide) hn8).mono ?_
        rintro e wc11 ⟨rfl, m11⟩
        have n11 : New w4 wc11 := n10.trans m11
        have b11 := b10.new m11
        have q11 := hkC _ n11
        go_wp2_with (first | (with_reducible first | (first | refine' qw1 (ido ?_) ?_ | refine' qw2 (ido ?_) ?_ | refine' qw3 (ido ?_) ?_); rotate_left | refine' qw4 (ido ?_) | refine' qw5 (ido ?_) | rfl | apply qn) | refine ⟨hkC _ n11, ?_⟩)
        try go_wp2_with (with_reducible first | (first | refine' qw1 (ido ?_) ?_ | refine' qw2 (ido ?_) ?_ | refine' qw3 (ido ?_) ?_); rotate_left | refine' qw4 (ido ?_) | refine' qw5 (ido ?_) | rfl | apply qn)
        refine (lhash_any h wc11 hl).mono ?_
        rintro e wc12 ⟨rfl, m12⟩
        have n12 : New w4 wc12 := n11.trans m12
        have b12 := b11.new m12
        have q12 := hkC _ n12
        go_wp2_with (first | (with_reducible first | (first | refine' qw1 (ido ?_) ?_ | refine' qw2 (ido ?_) ?_ | refine' qw3 (ido ?_) ?_); rotate_left | refine' qw4 (ido ?_) | refine' qw5 (ido ?_) | rfl | apply qn) | refine ⟨hkC _ n12, ?_⟩)
        try go_wp2_with (with_reducible first | (first | refine' qw1 (ido ?_) ?_ | refine' qw2 (ido ?_) ?_ | refine' qw3 (ido ?_) ?_); rotate_left | refine' qw4 (ido ?_) | refine' qw5 (ido ?_) | rfl | apply qn)
        refine (lnum_any x 4 wc12 (by decide) (by decide) hx4).mono ?_
        rintro e wc13 ⟨rfl, m13⟩
        have n13 : New w4 wc13 := n12.trans m13
        have b13 := b12.new m13
        have q13 := hkC _ n13
        go_wp2_with (first | (with_reducible first | (first | refine' qw1 (ido ?_) ?_ | refine' qw2 (ido ?_) ?_ | refine' qw3 (ido ?_) ?_); rotate_left | refine' qw4 (ido ?_) | refine' qw5 (ido ?_) | rfl | apply qn) | refine ⟨hkC _ n13, ?_⟩)
        try go_wp2_with (with_reducible first | (first | refine' qw1 (ido ?_) ?_ | refine' qw2 (ido ?_) ?_ | refine' qw3 (ido ?_) ?_); rotate_left | refine' qw4 (ido ?_) | refine' qw5 (ido ?_) | rfl | apply qn)
        have m14 : New wc13 (wc13.alloc (.cells #[.string (numS 1 1), .string (numS n 8), .string (strOfNums h), .string (numS x 4)] 9)) := (Upd.refl _ _).alloc _
        have n14 := n13.trans m14
        have r14 := blk_alloc wc13 (.cells #[.string (numS 1 1), .string (numS n 8), .string (strOfNums h), .string (numS x 4)] 9)
        have z14 : wc13.heap.size < (wc13.alloc (.cells #[.string (numS 1 1), .string (numS n 8), .string (strOfNums h), .string (numS x 4)] 9)).heap.size := by rw [World.size_alloc]; omega
        have y14 := n13.size
        have b14 := b13.new m14
        have a14 := b13.lt
        generalize wc13.alloc (.cells #[.string (numS 1 1), .string (numS n 8), .string (strOfNums h), .string (numS x 4)] 9) = ws14 at m14 n14 r14 z14 b14 ⊢
        first | refine ⟨hkC _ n14, ?_⟩ | skip
        clear m14
        have q14 := hkC _ n14
        generalize wc13.heap.size = B14 at *
        try go_wp2_with (with_reducible first | (first | refine' qw1 (ido ?_) ?_ | refine' qw2 (ido ?_) ?_ | refine' qw3 (ido ?_) ?_); rotate_left | refine' qw4 (ido ?_) | refine' qw5 (ido ?_) | rfl | apply qn)
        have hcall := act_fn g B14 S l sp en lo SC SJ 46 #[] #[.pointer (some ⟨PL, 0, none⟩), .pointer (some ⟨PN, 0, none⟩), .pointer (some ⟨PH, 0, none⟩), .pointer (some ⟨PX, 0, none⟩)] MM0 er c' [numS 1 1, numS n 8, strOfNums h, numS x 4] ws14 ((unhide HL).new n14) hk hm0 hsay (hT.new n14) hA (enters_of Tryz.func46 (by kernel_rfl) rfl) (fun a na => hF a (n14.trans na)) (fun j x hx => row4 hx r14) (by simp) hsz (by omega) (fun e => by have := hSl _ e; omega)
        rw [← unhide HMM, ← unhide HLL] at hcall
        refine hcall.mono ?_
        rintro e wt15 ⟨rfl, l15, v15⟩
        have u15 : Upd S w4 wt15 := (n14.mono (fun _ _ h => h.elim)).trans v15
        have x15 := n14.size
        have y15 := v15.size
        have b15 := b14.upd v15 (fun e => by have := hSl _ e; omega)
        clear hcall v15
        have hst := b15.stOk hml
        have c16 := b15.put hml
        have x16 : Upd (· = K10) wt15 _ := upd_sets (w := wt15) (b := K10) MM.cells
        have HE := hide (And.intro c16 (And.intro x16 (And.intro l15 u15)))
        have xx16 := x16.size
        clear c16 x16
        try go_wp2_with (with_reducible first | (first | refine' qw1 (ido ?_) ?_ | refine' qw2 (ido ?_) ?_ | refine' qw3 (ido ?_) ?_); rotate_left | refine' qw4 (ido ?_) | refine' qw5 (ido ?_) | rfl | apply qn)
        go_meet
        case rel =>
          obtain ⟨c, x, l, u⟩ := unhide HE
          refine ⟨K10, rfl, rfl, c, ?_, u.then x (fun i hi e => by omega), by omega⟩
          have E := unhide E10
          refine (l.upd x (fun k hk e => ?_)).wider (fun k hk => ?_) (fun k hk => ?_)
          · rcases hk with hk | hk
            · have := hSl k hk
              omega
            · omega
          · rcases hk with hk | hk
            · exact .inl hk
            · exact .inr ⟨by omega, by omega⟩
          · rcases hk with hk | hk
            · have := hSl k hk
              omega
            · exact hk.2
      · skip
        try go_wp2_with (with_reducible first | (first | refine' qw1 (ido ?_) ?_ | refine' qw2 (ido ?_) ?_ | refine' qw3 (ido ?_) ?_); rotate_left | refine' qw4 (ido ?_) | refine' qw5 (ido ?_) | rfl | apply qn)
        refine (lnum_any n 8 wc9 (by decide) (by decide) hn8).mono ?_
        rintro e wc17 ⟨rfl, m17⟩
        have n17 : New w4 wc17 := n9.trans m17
        have q17 := hkC _ n17
        go_wp2_with (first | (with_reducible first | (first | refine' qw1 (ido ?_) ?_ | refine' qw2 (ido ?_) ?_ | refine' qw3 (ido ?_) ?_); rotate_left | refine' qw4 (ido ?_) | refine' qw5 (ido ?_) | rfl | apply qn) | refine ⟨hkC _ n17, ?_⟩)
        refine qf ?_ ?_
        · skip
          try go_wp2_with (with_reducible first | (first | refine' qw1 (ido ?_) ?_ | refine' qw2 (ido ?_) ?_ | refine' qw3 (ido ?_) ?_); rotate_left | refine' qw4 (ido ?_) | refine' qw5 (ido ?_) | rfl | apply qn)
          have m18 : New wc17 (wc17.alloc (.cells MsgV.zero.cells.toArray 101)) := ((Upd.refl _ _).alloc _)
          have b18 : MsB (wc17.alloc (.cells MsgV.zero.cells.toArray 101)) wc17.heap.size MsgV.zero := ms_alloc wc17 MsgV.zero z32i_len
          obtain ⟨K18, e18⟩ : ∃ K, K = wc17.heap.size := ⟨_, rfl⟩
          have n18 : New w4 (wc17.alloc (.cells MsgV.zero.cells.toArray 101)) := n17.trans m18
          first | refine ⟨hkC _ n18, ?_⟩ | skip
          have y18 := b18.lt
          generalize (wc17.alloc (.cells MsgV.zero.cells.toArray 101)) = wa18 at m18 b18 n18 y18 ⊢
          have q18 := hkC _ n18
          rw [← e18] at b18 y18 ⊢
          have E18 := hide e18
          have g18 : w4.heap.size ≤ K18 := by rw [e18]; exact n17.size
          clear e18
          try go_wp2_with (with_reducible first | (first | refine' qw1 (ido ?_) ?_ | refine' qw2 (ido ?_) ?_ | refine' qw3 (ido ?_) ?_); rotate_left | refine' qw4 (ido ?_) | refine' qw5 (ido ?_) | rfl | apply qn)
          refine (lhash_any h wa18 hl).mono ?_
          rintro e wc19 ⟨rfl, m19⟩
          have n19 : New w4 wc19 := n18.trans m19
          have b19 := b18.new m19
          have q19 := hkC _ n19
          go_wp2_with (first | (with_reducible first | (first | refine' qw1 (ido ?_) ?_ | refine' qw2 (ido ?_) ?_ | refine' qw3 (ido ?_) ?_); rotate_left | refine' qw4 (ido ?_) | refine' qw5 (ido ?_) | rfl | apply qn) | refine ⟨hkC _ n19, ?_⟩)
          try go_wp2_with (with_reducible first | (first | refine' qw1 (ido ?_) ?_ | refine' qw2 (ido ?_) ?_ | refine' qw3 (ido ?_) ?_); rotate_left | refine' qw4 (ido ?_) | refine' qw5 (ido ?_) | rfl | apply qn)
          refine (lnum_any x 4 wc19 (by decide) (by decide) hx4).mono ?_
          rintro e wc20 ⟨rfl, m20⟩
          have n20 : New w4 wc20 := n19.trans m20
          have b20 := b19.new m20
          have q20 := hkC _ n20
          go_wp2_with (first | (with_reducible first | (first | refine' qw1 (ido ?_) ?_ | refine' qw2 (ido ?_) ?_ | refine' qw3 (ido ?_) ?_); rotate_left | refine' qw4 (ido ?_) | refine' qw5 (ido ?_) | rfl | apply qn) | refine ⟨hkC _ n20, ?_⟩)
          try go_wp2_with (with_reducible first | (first | refine' qw1 (ido ?_) ?_ | refine' qw2 (ido ?_) ?_ | refine' qw3 (ido ?_) ?_); rotate_left | refine' qw4 (ido ?_) | refine' qw5 (ido ?_) | rfl | apply qn)
          have m21 : New wc20 (wc20.alloc (.cells #[.string (numS 1 1), .string (numS n 8), .string (strOfNums h), .string (numS x 4)] 9)) := (Upd.refl _ _).alloc _
          have n21 := n20.trans m21
          have r21 := blk_alloc wc20 (.cells #[.string (numS 1 1), .string (numS n 8), .string (strOfNums h), .string (numS x 4)] 9)
          have z21 : wc20.heap.size < (wc20.alloc (.cells #[.string (numS 1 1), .string (numS n 8), .string (strOfNums h), .string (numS x 4)] 9)).heap.size := by rw [World.size_alloc]; omega
          have y21 := n20.size
          have b21 := b20.new m21
          have a21 := b20.lt
          generalize wc20.alloc (.cells #[.string (numS 1 1), .string (numS n 8), .string (strOfNums h), .string (numS x 4)] 9) = ws21 at m21 n21 r21 z21 b21 ⊢
          first | refine ⟨hkC _ n21, ?_⟩ | skip
          clear m21
          have q21 := hkC _ n21
          generalize wc20.heap.size = B21 at *
          try go_wp2_with (with_reducible first | (first | refine' qw1 (ido ?_) ?_ | refine' qw2 (ido ?_) ?_ | refine' qw3 (ido ?_) ?_); rotate_left | refine' qw4 (ido ?_) | refine' qw5 (ido ?_) | rfl | apply qn)
          have hcall := act_fn g B21 S l sp en lo SC SJ 46 #[] #[.pointer (some ⟨PL, 0, none⟩), .pointer (some ⟨PN, 0, none⟩), .pointer (some ⟨PH, 0, none⟩), .pointer (some ⟨PX, 0, none⟩)] MM0 er c' [numS 1 1, numS n 8, strOfNums h, numS x 4] ws21 ((unhide HL).new n21) hk hm0 hsay (hT.new n21) hA (enters_of Tryz.func46 (by kernel_rfl) rfl) (fun a na => hF a (n21.trans na)) (fun j x hx => row4 hx r21) (by simp) hsz (by omega) (fun e => by have := hSl _ e; omega)
          rw [← unhide HMM, ← unhide HLL] at hcall
          refine hcall.mono ?_
          rintro e wt22 ⟨rfl, l22, v22⟩
          have u22 : Upd S w4 wt22 := (n21.mono (fun _ _ h => h.elim)).trans v22
          have x22 := n21.size
          have y22 := v22.size
          have b22 := b21.upd v22 (fun e => by have := hSl _ e; omega)
          clear hcall v22
          have hst := b22.stOk hml
          have c23 := b22.put hml
          have x23 : Upd (· = K18) wt22 _ := upd_sets (w := wt22) (b := K18) MM.cells
          have HE := hide (And.intro c23 (And.intro x23 (And.intro l22 u22)))
          have xx23 := x23.size
          clear c23 x23
          try go_wp2_with (with_reducible first | (first | refine' qw1 (ido ?_) ?_ | refine' qw2 (ido ?_) ?_ | refine' qw3 (ido ?_) ?_); rotate_left | refine' qw4 (ido ?_) | refine' qw5 (ido ?_) | rfl | apply qn)
          go_meet
          case rel =>
            obtain ⟨c, x, l, u⟩ := unhide HE
            refine ⟨K18, rfl, rfl, c, ?_, u.then x (fun i hi e => by omega), by omega⟩
            have E := unhide E18
            refine (l.upd x (fun k hk e => ?_)).wider (fun k hk => ?_) (fun k hk => ?_)
            · rcases hk with hk | hk
              · have := hSl k hk
                omega
              · omega
            · rcases hk with hk | hk
              · exact .inl hk
              · exact .inr ⟨by omega, by omega⟩
            · rcases hk with hk | hk
              · have := hSl k hk
                omega
              · exact hk.2
        · skip
          try go_wp2_with (with_reducible first | (first | refine' qw1 (ido ?_) ?_ | refine' qw2 (ido ?_) ?_ | refine' qw3 (ido ?_) ?_); rotate_left | refine' qw4 (ido ?_) | refine' qw5 (ido ?_) | rfl | apply qn)
          refine (lhash_any h wc17 hl).mono ?_
          rintro e wc24 ⟨rfl, m24⟩
          have n24 : New w4 wc24 := n17.trans m24
          have q24 := hkC _ n24
          go_wp2_with (first | (with_reducible first | (first | refine' qw1 (ido ?_) ?_ | refine' qw2 (ido ?_) ?_ | refine' qw3 (ido ?_) ?_); rotate_left | refine' qw4 (ido ?_) | refine' qw5 (ido ?_) | rfl | apply qn) | refine ⟨hkC _ n24, ?_⟩)
          refine qf ?_ ?_
          · skip
            try go_wp2_with (with_reducible first | (first | refine' qw1 (ido ?_) ?_ | refine' qw2 (ido ?_) ?_ | refine' qw3 (ido ?_) ?_); rotate_left | refine' qw4 (ido ?_) | refine' qw5 (ido ?_) | rfl | apply qn)
            have m25 : New wc24 (wc24.alloc (.cells MsgV.zero.cells.toArray 101)) := ((Upd.refl _ _).alloc _)
            have b25 : MsB (wc24.alloc (.cells MsgV.zero.cells.toArray 101)) wc24.heap.size MsgV.zero := ms_alloc wc24 MsgV.zero z32i_len
            obtain ⟨K25, e25⟩ : ∃ K, K = wc24.heap.size := ⟨_, rfl⟩
            have n25 : New w4 (wc24.alloc (.cells MsgV.zero.cells.toArray 101)) := n24.trans m25
            first | refine ⟨hkC _ n25, ?_⟩ | skip
            have y25 := b25.lt
            generalize (wc24.alloc (.cells MsgV.zero.cells.toArray 101)) = wa25 at m25 b25 n25 y25 ⊢
            have q25 := hkC _ n25
            rw [← e25] at b25 y25 ⊢
            have E25 := hide e25
            have g25 : w4.heap.size ≤ K25 := by rw [e25]; exact n24.size
            clear e25
            try go_wp2_with (with_reducible first | (first | refine' qw1 (ido ?_) ?_ | refine' qw2 (ido ?_) ?_ | refine' qw3 (ido ?_) ?_); rotate_left | refine' qw4 (ido ?_) | refine' qw5 (ido ?_) | rfl | apply qn)
            refine (lnum_any x 4 wa25 (by decide) (by decide) hx4).mono ?_
            rintro e wc26 ⟨rfl, m26⟩
            have n26 : New w4 wc26 := n25.trans m26
            have b26 := b25.new m26
            have q26 := hkC _ n26
            go_wp2_with (first | (with_reducible first | (first | refine' qw1 (ido ?_) ?_ | refine' qw2 (ido ?_) ?_ | refine' qw3 (ido ?_) ?_); rotate_left | refine' qw4 (ido ?_) | refine' qw5 (ido ?_) | rfl | apply qn) | refine ⟨hkC _ n26, ?_⟩)
            try go_wp2_with (with_reducible first | (first | refine' qw1 (ido ?_) ?_ | refine' qw2 (ido ?_) ?_ | refine' qw3 (ido ?_) ?_); rotate_left | refine' qw4 (ido ?_) | refine' qw5 (ido ?_) | rfl | apply qn)
            have m27 : New wc26 (wc26.alloc (.cells #[.string (numS 1 1), .string (numS n 8), .string (strOfNums h), .string (numS x 4)] 9)) := (Upd.refl _ _).alloc _
            have n27 := n26.trans m27
            have r27 := blk_alloc wc26 (.cells #[.string (numS 1 1), .string (numS n 8), .string (strOfNums h), .string (numS x 4)] 9)
            have z27 : wc26.heap.size < (wc26.alloc (.cells #[.string (numS 1 1), .string (numS n 8), .string (strOfNums h), .string (numS x 4)] 9)).heap.size := by rw [World.size_alloc]; omega
            have y27 := n26.size
            have b27 := b26.new m27
            have a27 := b26.lt
            generalize wc26.alloc (.cells #[.string (numS 1 1), .string (numS n 8), .string (strOfNums h), .string (numS x 4)] 9) = ws27 at m27 n27 r27 z27 b27 ⊢
            first | refine ⟨hkC _ n27, ?_⟩ | skip
            clear m27
            have q27 := hkC _ n27
            generalize wc26.heap.size = B27 at *
            try go_wp2_with (with_reducible first | (first | refine' qw1 (ido ?_) ?_ | refine' qw2 (ido ?_) ?_ | refine' qw3 (ido ?_) ?_); rotate_left | refine' qw4 (ido ?_) | refine' qw5 (ido ?_) | rfl | apply qn)
            have hcall := act_fn g B27 S l sp en lo SC SJ 46 #[] #[.pointer (some ⟨PL, 0, none⟩), .pointer (some ⟨PN, 0, none⟩), .pointer (some ⟨PH, 0, none⟩), .pointer (some ⟨PX, 0, none⟩)] MM0 er c' [numS 1 1, numS n 8, strOfNums h, numS x 4] ws27 ((unhide HL).new n27) hk hm0 hsay (hT.new n27) hA (enters_of Tryz.func46 (by kernel_rfl) rfl) (fun a na => hF a (n27.trans na)) (fun j x hx => row4 hx r27) (by simp) hsz (by omega) (fun e => by have := hSl _ e; omega)
            rw [← unhide HMM, ← unhide HLL] at hcall
            refine hcall.mono ?_
            rintro e wt28 ⟨rfl, l28, v28⟩
            have u28 : Upd S w4 wt28 := (n27.mono (fun _ _ h => h.elim)).trans v28
            have x28 := n27.size
            have y28 := v28.size
            have b28 := b27.upd v28 (fun e => by have := hSl _ e; omega)
            clear hcall v28
            have hst := b28.stOk hml
            have c29 := b28.put hml
            have x29 : Upd (· = K25) wt28 _ := upd_sets (w := wt28) (b := K25) MM.cells
            have HE := hide (And.intro c29 (And.intro x29 (And.intro l28 u28)))
            have xx29 := x29.size
            clear c29 x29
            try go_wp2_with (with_reducible first | (first | refine' qw1 (ido ?_) ?_ | refine' qw2 (ido ?_) ?_ | refine' qw3 (ido ?_) ?_); rotate_left | refine' qw4 (ido ?_) | refine' qw5 (ido ?_) | rfl | apply qn)
            go_meet
            case rel =>
              obtain ⟨c, x, l, u⟩ := unhide HE
              refine ⟨K25, rfl, rfl, c, ?_, u.then x (fun i hi e => by omega), by omega⟩
              have E := unhide E25
              refine (l.upd x (fun k hk e => ?_)).wider (fun k hk => ?_) (fun k hk => ?_)
              · rcases hk with hk | hk
                · have := hSl k hk
                  omega
                · omega
              · rcases hk with hk | hk
                · exact .inl hk
                · exact .inr ⟨by omega, by omega⟩
              · rcases hk with hk | hk
                · have := hSl k hk
                  omega
                · exact hk.2
          · skip
            try go_wp2_with (with_reducible first | (first | refine' qw1 (ido ?_) ?_ | refine' qw2 (ido ?_) ?_ | refine' qw3 (ido ?_) ?_); rotate_left | refine' qw4 (ido ?_) | refine' qw5 (ido ?_) | rfl | apply qn)
            refine (lnum_any x 4 wc24 (by decide) (by decide) hx4).mono ?_
            rintro e wc30 ⟨rfl, m30⟩
            have n30 : New w4 wc30 := n24.trans m30
            have q30 := hkC _ n30
            go_wp2_with (first | (with_reducible first | (first | refine' qw1 (ido ?_) ?_ | refine' qw2 (ido ?_) ?_ | refine' qw3 (ido ?_) ?_); rotate_left | refine' qw4 (ido ?_) | refine' qw5 (ido ?_) | rfl | apply qn) | refine ⟨hkC _ n30, ?_⟩)
            refine qf ?_ ?_
            · skip
              try go_wp2_with (with_reducible first | (first | refine' qw1 (ido ?_) ?_ | refine' qw2 (ido ?_) ?_ | refine' qw3 (ido ?_) ?_); rotate_left | refine' qw4 (ido ?_) | refine' qw5 (ido ?_) | rfl | apply qn)
              have m31 : New wc30 (wc30.alloc (.cells MsgV.zero.cells.toArray 101)) := ((Upd.refl _ _).alloc _)
              have b31 : MsB (wc30.alloc (.cells MsgV.zero.cells.toArray 101)) wc30.heap.size MsgV.zero := ms_alloc wc30 MsgV.zero z32i_len
              obtain ⟨K31, e31⟩ : ∃ K, K = wc30.heap.size := ⟨_, rfl⟩
              have n31 : New w4 (wc30.alloc (.cells MsgV.zero.cells.toArray 101)) := n30.trans m31
              first | refine ⟨hkC _ n31, ?_⟩ | skip
              have y31 := b31.lt
              generalize (wc30.alloc (.cells MsgV.zero.cells.toArray 101)) = wa31 at m31 b31 n31 y31 ⊢
              have q31 := hkC _ n31
              rw [← e31] at b31 y31 ⊢
              have E31 := hide e31
              have g31 : w4.heap.size ≤ K31 := by rw [e31]; exact n30.size
              clear e31
              try go_wp2_with (with_reducible first | (first | refine' qw1 (ido ?_) ?_ | refine' qw2 (ido ?_) ?_ | refine' qw3 (ido ?_) ?_); rotate_left | refine' qw4 (ido ?_) | refine' qw5 (ido ?_) | rfl | apply qn)
              have m32 : New wa31 (wa31.alloc (.cells #[.string (numS 1 1), .string (numS n 8), .string (strOfNums h), .string (numS x 4)] 9)) := (Upd.refl _ _).alloc _
              have n32 := n31.trans m32
              have r32 := blk_alloc wa31 (.cells #[.string (numS 1 1), .string (numS n 8), .string (strOfNums h), .string (numS x 4)] 9)
              have z32 : wa31.heap.size < (wa31.alloc (.cells #[.string (numS 1 1), .string (numS n 8), .string (strOfNums h), .string (numS x 4)] 9)).heap.size := by rw [World.size_alloc]; omega
              have y32 := n31.size
              have b32 := b31.new m32
              have a32 := b31.lt
              generalize wa31.alloc (.cells #[.string (numS 1 1), .string (numS n 8), .string (strOfNums h), .string (numS x 4)] 9) = ws32 at m32 n32 r32 z32 b32 ⊢
              first | refine ⟨hkC _ n32, ?_⟩ | skip
              clear m32
              have q32 := hkC _ n32
              generalize wa31.heap.size = B32 at *
              try go_wp2_with (with_reducible first | (first | refine' qw1 (ido ?_) ?_ | refine' qw2 (ido ?_) ?_ | refine' qw3 (ido ?_) ?_); rotate_left | refine' qw4 (ido ?_) | refine' qw5 (ido ?_) | rfl | apply qn)
              have hcall := act_fn g B32 S l sp en lo SC SJ 46 #[] #[.pointer (some ⟨PL, 0, none⟩), .pointer (some ⟨PN, 0, none⟩), .pointer (some ⟨PH, 0, none⟩), .pointer (some ⟨PX, 0, none⟩)] MM0 er c' [numS 1 1, numS n 8, strOfNums h, numS x 4] ws32 ((unhide HL).new n32) hk hm0 hsay (hT.new n32) hA (enters_of Tryz.func46 (by kernel_rfl) rfl) (fun a na => hF a (n32.trans na)) (fun j x hx => row4 hx r32) (by simp) hsz (by omega) (fun e => by have := hSl _ e; omega)
              rw [← unhide HMM, ← unhide HLL] at hcall
              refine hcall.mono ?_
              rintro e wt33 ⟨rfl, l33, v33⟩
              have u33 : Upd S w4 wt33 := (n32.mono (fun _ _ h => h.elim)).trans v33
              have x33 := n32.size
              have y33 := v33.size
              have b33 := b32.upd v33 (fun e => by have := hSl _ e; omega)
              clear hcall v33
              have hst := b33.stOk hml
              have c34 := b33.put hml
              have x34 : Upd (· = K31) wt33 _ := upd_sets (w := wt33) (b := K31) MM.cells
              have HE := hide (And.intro c34 (And.intro x34 (And.intro l33 u33)))
              have xx34 := x34.size
              clear c34 x34
              try go_wp2_with (with_reducible first | (first | refine' qw1 (ido ?_) ?_ | refine' qw2 (ido ?_) ?_ | refine' qw3 (ido ?_) ?_); rotate_left | refine' qw4 (ido ?_) | refine' qw5 (ido ?_) | rfl | apply qn)
              go_meet
              case rel =>
                obtain ⟨c, x, l, u⟩ := unhide HE
                refine ⟨K31, rfl, rfl, c, ?_, u.then x (fun i hi e => by omega), by omega⟩
                have E := unhide E31
                refine (l.upd x (fun k hk e => ?_)).wider (fun k hk => ?_) (fun k hk => ?_)
                · rcases hk with hk | hk
                  · have := hSl k hk
                    omega
                  · omega
                · rcases hk with hk | hk
                  · exact .inl hk
                  · exact .inr ⟨by omega, by omega⟩
                · rcases hk with hk | hk
                  · have := hSl k hk
                    omega
                  · exact hk.2
            · skip
              try go_wp2_with (with_reducible first | (first | refine' qw1 (ido ?_) ?_ | refine' qw2 (ido ?_) ?_ | refine' qw3 (ido ?_) ?_); rotate_left | refine' qw4 (ido ?_) | refine' qw5 (ido ?_) | rfl | apply qn)
              have m35 : New wc30 (wc30.alloc (.cells #[.string (numS 1 1), .string (numS n 8), .string (strOfNums h), .string (numS x 4)] 9)) := (Upd.refl _ _).alloc _
              have n35 := n30.trans m35
              have r35 := blk_alloc wc30 (.cells #[.string (numS 1 1), .string (numS n 8), .string (strOfNums h), .string (numS x 4)] 9)
              have z35 : wc30.heap.size < (wc30.alloc (.cells #[.string (numS 1 1), .string (numS n 8), .string (strOfNums h), .string (numS x 4)] 9)).heap.size := by rw [World.size_alloc]; omega
              have y35 := n30.size
              generalize wc30.alloc (.cells #[.string (numS 1 1), .string (numS n 8), .string (strOfNums h), .string (numS x 4)] 9) = ws35 at m35 n35 r35 z35 ⊢
              first | refine ⟨hkC _ n35, ?_⟩ | skip
              clear m35
              have q35 := hkC _ n35
              generalize wc30.heap.size = B35 at *
              refine qf ?_ ?_
              · skip
                try go_wp2_with (with_reducible first | (first | refine' qw1 (ido ?_) ?_ | refine' qw2 (ido ?_) ?_ | refine' qw3 (ido ?_) ?_); rotate_left | refine' qw4 (ido ?_) | refine' qw5 (ido ?_) | rfl | apply qn)
                have m36 : New ws35 (ws35.alloc (.cells MsgV.zero.cells.toArray 101)) := ((Upd.refl _ _).alloc _)
                have b36 : MsB (ws35.alloc (.cells MsgV.zero.cells.toArray 101)) ws35.heap.size MsgV.zero := ms_alloc ws35 MsgV.zero z32i_len
                obtain ⟨K36, e36⟩ : ∃ K, K = ws35.heap.size := ⟨_, rfl⟩
                have n36 : New w4 (ws35.alloc (.cells MsgV.zero.cells.toArray 101)) := n35.trans m36
                first | refine ⟨hkC _ n36, ?_⟩ | skip
                have y36 := b36.lt
                generalize (ws35.alloc (.cells MsgV.zero.cells.toArray 101)) = wa36 at m36 b36 n36 y36 ⊢
                have q36 := hkC _ n36
                have r36 := m36.old r35 (fun h => h)
                have z36 := Nat.lt_of_lt_of_le z35 m36.size
                rw [← e36] at b36 y36 ⊢
                have E36 := hide e36
                have g36 : w4.heap.size ≤ K36 := by rw [e36]; exact n35.size
                clear e36
                try go_wp2_with (with_reducible first | (first | refine' qw1 (ido ?_) ?_ | refine' qw2 (ido ?_) ?_ | refine' qw3 (ido ?_) ?_); rotate_left | refine' qw4 (ido ?_) | refine' qw5 (ido ?_) | rfl | apply qn)
                have hcall := act_fn g B35 S l sp en lo SC SJ 46 #[] #[.pointer (some ⟨PL, 0, none⟩), .pointer (some ⟨PN, 0, none⟩), .pointer (some ⟨PH, 0, none⟩), .pointer (some ⟨PX, 0, none⟩)] MM0 er c' [numS 1 1, numS n 8, strOfNums h, numS x 4] wa36 ((unhide HL).new n36) hk hm0 hsay (hT.new n36) hA (enters_of Tryz.func46 (by kernel_rfl) rfl) (fun a na => hF a (n36.trans na)) (fun j x hx => row4 hx r36) (by simp) hsz (by omega) (fun e => by have := hSl _ e; omega)
                rw [← unhide HMM, ← unhide HLL] at hcall
                refine hcall.mono ?_
                rintro e wt37 ⟨rfl, l37, v37⟩
                have u37 : Upd S w4 wt37 := (n36.mono (fun _ _ h => h.elim)).trans v37
                have x37 := n36.size
                have y37 := v37.size
                have b37 := b36.upd v37 (fun e => by have := hSl _ e; omega)
                clear hcall v37
                have hst := b37.stOk hml
                have c38 := b37.put hml
                have x38 : Upd (· = K36) wt37 _ := upd_sets (w := wt37) (b := K36) MM.cells
                have HE := hide (And.intro c38 (And.intro x38 (And.intro l37 u37)))
                have xx38 := x38.size
                clear c38 x38
                try go_wp2_with (with_reducible first | (first | refine' qw1 (ido ?_) ?_ | refine' qw2 (ido ?_) ?_ | refine' qw3 (ido ?_) ?_); rotate_left | refine' qw4 (ido ?_) | refine' qw5 (ido ?_) | rfl | apply qn)
                go_meet
                case rel =>
                  obtain ⟨c, x, l, u⟩ := unhide HE
                  refine ⟨K36, rfl, rfl, c, ?_, u.then x (fun i hi e => by omega), by omega⟩
                  have E := unhide E36
                  refine (l.upd x (fun k hk e => ?_)).wider (fun k hk => ?_) (fun k hk => ?_)
                  · rcases hk with hk | hk
                    · have := hSl k hk
                      omega
                    · omega
                  · rcases hk with hk | hk
                    · exact .inl hk
                    · exact .inr ⟨by omega, by omega⟩
                  · rcases hk with hk | hk
                    · have := hSl k hk
                      omega
                    · exact hk.2
              · skip
                try go_wp2_with (with_reducible first | (first | refine' qw1 (ido ?_) ?_ | refine' qw2 (ido ?_) ?_ | refine' qw3 (ido ?_) ?_); rotate_left | refine' qw4 (ido ?_) | refine' qw5 (ido ?_) | rfl | apply qn)
                have hcall := act_fn g B35 S l sp en lo SC SJ 46 #[] #[.pointer (some ⟨PL, 0, none⟩), .pointer (some ⟨PN, 0, none⟩), .pointer (some ⟨PH, 0, none⟩), .pointer (some ⟨PX, 0, none⟩)] MM0 er c' [numS 1 1, numS n 8, strOfNums h, numS x 4] ws35 ((unhide HL).new n35) hk hm0 hsay (hT.new n35) hA (enters_of Tryz.func46 (by kernel_rfl) rfl) (fun a na => hF a (n35.trans na)) (fun j x hx => row4 hx r35) (by simp) hsz (by omega) (fun e => by have := hSl _ e; omega)
                rw [← unhide HMM, ← unhide HLL] at hcall
                refine hcall.mono ?_
                rintro e wt39 ⟨rfl, l39, v39⟩
                have u39 : Upd S w4 wt39 := (n35.mono (fun _ _ h => h.elim)).trans v39
                have x39 := n35.size
                have y39 := v39.size
                clear hcall v39
                try go_wp2_with (with_reducible first | (first | refine' qw1 (ido ?_) ?_ | refine' qw2 (ido ?_) ?_ | refine' qw3 (ido ?_) ?_); rotate_left | refine' qw4 (ido ?_) | refine' qw5 (ido ?_) | rfl | apply qn)
                have m40 : New wt39 (wt39.alloc (.cells MsgV.zero.cells.toArray 101)) := ((Upd.refl _ _).alloc _)
                have b40 : MsB (wt39.alloc (.cells MsgV.zero.cells.toArray 101)) wt39.heap.size MsgV.zero := ms_alloc wt39 MsgV.zero z32i_len
                obtain ⟨K40, e40⟩ : ∃ K, K = wt39.heap.size := ⟨_, rfl⟩
                have l40 := l39.new m40
                have u40 := u39.trans (m40.mono (fun _ _ h => h.elim))
                have y40 := m40.size
                generalize (wt39.alloc (.cells MsgV.zero.cells.toArray 101)) = wa40 at m40 b40 l40 u40 y40 ⊢
                first | refine ⟨hkU _ _ l40 u40, ?_⟩ | skip
                rw [← e40] at b40 y40 ⊢
                have E40 := hide e40
                have g40 : w4.heap.size ≤ K40 := by rw [e40]; exact u39.size
                clear e40
                have hst := b40.stOk hml
                have c41 := b40.put hml
                have x41 : Upd (· = K40) wa40 _ := upd_sets (w := wa40) (b := K40) MM.cells
                have HE := hide (And.intro c41 (And.intro x41 (And.intro l40 u40)))
                have xx41 := x41.size
                clear c41 x41
                try go_wp2_with (with_reducible first | (first | refine' qw1 (ido ?_) ?_ | refine' qw2 (ido ?_) ?_ | refine' qw3 (ido ?_) ?_); rotate_left | refine' qw4 (ido ?_) | refine' qw5 (ido ?_) | rfl | apply qn)
                go_meet
                case rel =>
                  obtain ⟨c, x, l, u⟩ := unhide HE
                  refine ⟨K40, rfl, rfl, c, ?_, u.then x (fun i hi e => by omega), by omega⟩
                  have E := unhide E40
                  refine (l.upd x (fun k hk e => ?_)).wider (fun k hk => ?_) (fun k hk => ?_)
                  · rcases hk with hk | hk
                    · have := hSl k hk
                      omega
                    · omega
                  · rcases hk with hk | hk
                    · exact .inl hk
                    · exact .inr ⟨by omega, by omega⟩
                  · rcases hk with hk | hk
                    · have := hSl k hk
                      omega
                    · exact hk.2
  case rest =>
    obtain ⟨K, rfl, rfl, hM, hl', u, hK⟩ := hcut
    obtain ⟨w3, rfl⟩ : ∃ w3 : World, w3 = wc := ⟨_, rfl⟩
    have hid := hM.cells.2.2.1
    have HE := hide (And.intro hl' u)
    clear hl' u hM
    go_wp2_with (with_reducible first | (first | refine' tw1 (ido ?_) ?_ | refine' tw2 (ido ?_) ?_); rotate_left | refine' tw3 (ido ?_) | rfl | apply tn | refine' tw4 ?_)
    go_ret2
    exact ⟨rfl, ((unhide HE).1.s).later (unhide HN4).size, ((unhide HN4).mono (fun _ _ h => h.elim)).trans (unhide HE).2⟩
end Go.Proofs.YtfmkdoachjgjbaaGreatDoor
