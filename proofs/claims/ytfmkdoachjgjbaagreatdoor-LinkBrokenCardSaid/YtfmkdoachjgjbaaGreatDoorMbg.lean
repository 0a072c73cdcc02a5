/-
  Lives as flat rows of cells; slices.Clone (all of it stands in XLv now).
-/
import Derived.Test.YtfmkdoachjgjbaaGreatDoorVw5
import Derived.Test.YtfmkdoachjgjbaaGreatDoorMai
import Derived.Test.YtfmkdoachjgjbaaGreatDoorCh4
import Derived.Test.YtfmkdoachjgjbaaGreatDoorMbc
set_option linter.unusedVariables false
set_option linter.unusedSimpArgs false
namespace Go.Proofs.YtfmkdoachjgjbaaGreatDoor
end Go.Proofs.YtfmkdoachjgjbaaGreatDoor
namespace Go.Proofs.YtfmkdoachjgjbaaGreatDoor
open Go.RowKit Go.Sort

theorem live_set (x : Live) (s : Int) : liveCells { x with state := s } = (liveCells x).set 36 (.int .i64 s) := by
  unfold liveCells
  rw [List.set_append_right _ _ (by rw [htlc_len]; omega), htlc_len]
  rfl
theorem HeldO.setState {w : World} {g off : Nat} {X : List Live} (h : HeldO w g off X) {n : Nat} {x : Live} (hx : X[n]? = some x) (s : Int) :
    HeldO (w.setCell ⟨g, off + n * 38 + 36, none⟩ (.int .i64 s)) g off (X.set n { x with state := s }) := by
  obtain ⟨C, T, hb, hs, hc⟩ := h
  refine ⟨_, T, blk_set hb _ _, by rw [Array.size_setIfInBounds, List.length_set]; exact hs, fun i y hi j hj => ?_⟩
  have hn := (List.getElem?_eq_some_iff.1 hx).1
  have hle : off + n * 38 + 38 ≤ C.size := by have := Nat.mul_le_mul_right 38 (show n + 1 ≤ X.length from hn); omega
  rw [Array.getElem?_setIfInBounds]
  rw [List.getElem?_set] at hi
  by_cases e : n = i
  · subst e
    rw [if_pos rfl, if_pos hn, Option.some.injEq] at hi
    subst hi
    rw [live_set, List.getElem?_set]
    by_cases e2 : 36 = j
    · subst e2
      rw [if_pos rfl, if_pos (by omega), if_pos rfl, if_pos (by rw [live_len]; omega)]
    · rw [if_neg (by omega), if_neg e2]
      exact hc n x hx j hj
  · rw [if_neg e] at hi
    rw [if_neg ?_]
    · exact hc i y hi j hj
    · rcases Nat.lt_or_gt_of_ne e with h | h
      · have := Nat.mul_le_mul_right 38 (show n + 1 ≤ i from h); omega
      · have := Nat.mul_le_mul_right 38 (show i + 1 ≤ n from h); omega

attribute [local go_sem ↓ high] ld_live_fold st_live_fold
attribute [local go_sem] ld_live st_live

def aft (ev : Int) (x : Live) : Live := { x with state := nextSt x.state x.own ev }
def afterL (ev : Int) (xs : List Live) : List Live := xs.map (aft ev)

set_option maxRecDepth 100000 in
set_option maxHeartbeats 4000000 in
theorem after_anyN (v : Value) (xs : List Live) (ev : Int) (hl : xs.length ≤ 1048576) (w : World) (hG : Glob w) (hv : Lives w v xs) :
    Calls Tryz.prog 155 #[v, .int .i64 ev] w fun e w' => ∃ u, e = .returned u ∧ New w w' ∧ LivesN w.heap.size w' u (afterL ev xs) := by
  have hvs : ∃ a k c, v = .slice a k c := by
    rcases hv with ⟨_, _, rfl, _⟩ | ⟨g, off, cap, rfl, _⟩
    · exact ⟨_, _, _, rfl⟩
    · exact ⟨_, _, _, rfl⟩
  obtain ⟨va, vk, vc, rfl⟩ := hvs
  go_enter Tryz.func155, Tryz.ntmps155
  go_wp2_with fail
  refine (clone_any _ xs hl w hv).mono ?_
  rintro e w1 ⟨u, rfl, n1, ⟨ua, uc, rfl, rfl⟩ | ⟨g, cap, rfl, hg, hh⟩⟩
  · obtain ⟨wo, rfl⟩ : ∃ wo : World, wo = w1 := ⟨_, rfl⟩
    go_wp2_with fail
    go_loopw [12] (fun iv wr => iv = .int .i64 0 ∧ wr = wo) (fun _ _ => 0)
    case atStart => exact ⟨rfl, rfl⟩
    case round =>
      obtain ⟨rfl, rfl⟩ := hrel
      go_wp2
      first | go_ret2 | go_ret
      exact ⟨_, rfl, n1, .inl ⟨_, _, rfl, rfl⟩⟩
  · have hG1 := hG.new n1
    obtain ⟨wo, rfl⟩ : ∃ wo : World, wo = w1 := ⟨_, rfl⟩
    go_wp2_with fail
    go_loopw [12] (fun iv wr => ∃ n : Nat, iv = .int .i64 (n : Int) ∧ n ≤ xs.length ∧ Hid (HeldO wr g 0 (afterL ev (xs.take n) ++ xs.drop n)) ∧ New w wr) (fun iv _ => xs.length - (intOf iv).toNat)
    case atStart => exact ⟨0, rfl, Nat.zero_le _, hide (by simpa [afterL] using hh), n1⟩
    case round =>
      obtain ⟨n, rfl, hn, HH, nr⟩ := hrel
      by_cases hlt : n < xs.length
      · obtain ⟨x, hx⟩ : ∃ x, xs[n]? = some x := ⟨_, List.getElem?_eq_getElem hlt⟩
        have hxx : (afterL ev (xs.take n) ++ xs.drop n)[n]? = some x := by
          have hl1 : (afterL ev (xs.take n)).length = n := by simp [afterL]; omega
          rw [List.getElem?_append_right (by omega), hl1, Nat.sub_self, List.getElem?_drop, Nat.add_zero]; exact hx
        have hh0 := unhide HH
        have hrow := hh0.row hxx
        rw [Nat.zero_add] at hrow
        have hset := hh0.setState hxx (nextSt x.state x.own ev)
        obtain ⟨CC, TT, hbb, hss, hcc⟩ := id hh0
        have hnn : (n : Int) < (xs.length : Int) := by omega
        have hst : stOk (wr.alloc (.cells #[.int .u64 0, .int .u64 0, .int .u8 0, .int .u8 0, .int .u8 0, .int .u8 0, .int .u8 0, .int .u8 0, .int .u8 0, .int .u8 0, .int .u8 0, .int .u8 0, .int .u8 0, .int .u8 0, .int .u8 0, .int .u8 0, .int .u8 0, .int .u8 0, .int .u8 0, .int .u8 0, .int .u8 0, .int .u8 0, .int .u8 0, .int .u8 0, .int .u8 0, .int .u8 0, .int .u8 0, .int .u8 0, .int .u8 0, .int .u8 0, .int .u8 0, .int .u8 0, .int .u8 0, .int .u8 0, .int .i64 0, .bool false, .int .i64 0, .bool false] 69)) wr.heap.size 0 38 (liveCells x).toArray = true := stOk_blk (blk_alloc _ _) (by decide) (by rw [List.size_toArray, live_len]) (by rw [List.all_toArray, List.all_eq_true]; exact live_one x)
        have hlaid := laid_new wr #[.int .u64 0, .int .u64 0, .int .u8 0, .int .u8 0, .int .u8 0, .int .u8 0, .int .u8 0, .int .u8 0, .int .u8 0, .int .u8 0, .int .u8 0, .int .u8 0, .int .u8 0, .int .u8 0, .int .u8 0, .int .u8 0, .int .u8 0, .int .u8 0, .int .u8 0, .int .u8 0, .int .u8 0, .int .u8 0, .int .u8 0, .int .u8 0, .int .u8 0, .int .u8 0, .int .u8 0, .int .u8 0, .int .u8 0, .int .u8 0, .int .u8 0, .int .u8 0, .int .u8 0, .int .u8 0, .int .i64 0, .bool false, .int .i64 0, .bool false] 69 (liveCells x) (by rw [live_len]; rfl)
        have v35 := live_35 x
        have v36 := live_36 x
        have hlen := live_len x
        have HX := hide hx
        have HXX := hide hxx
        clear hx hxx hset hbb hss hcc hh0 hh
        generalize liveCells x = C at hrow hst hlaid v35 v36 hlen
        go_upto_region 5 with fail
        obtain ⟨hbx, nC⟩ := hlaid
        generalize (wr.alloc (.cells #[.int .u64 0, .int .u64 0, .int .u8 0, .int .u8 0, .int .u8 0, .int .u8 0, .int .u8 0, .int .u8 0, .int .u8 0, .int .u8 0, .int .u8 0, .int .u8 0, .int .u8 0, .int .u8 0, .int .u8 0, .int .u8 0, .int .u8 0, .int .u8 0, .int .u8 0, .int .u8 0, .int .u8 0, .int .u8 0, .int .u8 0, .int .u8 0, .int .u8 0, .int .u8 0, .int .u8 0, .int .u8 0, .int .u8 0, .int .u8 0, .int .u8 0, .int .u8 0, .int .u8 0, .int .u8 0, .int .i64 0, .bool false, .int .i64 0, .bool false] 69)).setCells wr.heap.size 0 C = wC at hbx nC ⊢
        have s35 : wC.cell? ⟨wr.heap.size, 35, none⟩ = some (.bool x.own) := by rw [blk_cell hbx, List.getElem?_toArray]; exact v35
        have s36 : wC.cell? ⟨wr.heap.size, 36, none⟩ = some (.int .i64 x.state) := by rw [blk_cell hbx, List.getElem?_toArray]; exact v36
        have hGC : Glob wC := hG.new (nr.trans nC)
        clear hst hrow
        go_wp2_with fail
        refine (next_any x.state ev x.own wC hGC).mono ?_
        rintro e w2 ⟨rfl, q2⟩
        have hh2 : HeldO w2 g 0 (afterL ev (xs.take n) ++ xs.drop n) := ((unhide HH).upd nC (fun h => h)).upd (q2.upd (fun _ => False)) (fun h => h)
        have hset := hh2.setState (unhide HXX) (nextSt x.state x.own ev)
        have hrow2 := hh2.row (unhide HXX)
        obtain ⟨CC, TT, hbb, hss, hcc⟩ := id hh2
        have t36 : w2.cell? ⟨g, n * 38 + 36, none⟩ = some (.int .i64 x.state) := by
          rw [blk_cell hbb]
          have := hcc n x (unhide HXX) 36 (by decide)
          rw [Nat.zero_add] at this
          rw [this, live_36]
        have z36 : w2.frozen? ⟨g, n * 38 + 36, none⟩ = false := blk_free hbb _
        rw [Nat.zero_add] at hset
        have HSET := hide hset
        have n2 : New w w2 := (nr.trans nC).then (q2.upd (fun _ => False)) (fun _ _ h => h.elim)
        clear hset hrow2 hbb hss hcc hh2 s35 s36 hbx nC
        go_wp2
        go_roundw
        case rel =>
          refine ⟨n + 1, by go_num, by omega, hide ?_, n2.setCell (fun h => by have h1 : g < w.heap.size := h; omega) _⟩
          have := unhide HSET
          have e : (afterL ev (xs.take n) ++ xs.drop n).set n { x with state := nextSt x.state x.own ev } = afterL ev (xs.take (n + 1)) ++ xs.drop (n + 1) := by
            have hl1 : (afterL ev (xs.take n)).length = n := by simp [afterL]; omega
            rw [List.set_append_right _ _ (by omega), hl1, Nat.sub_self, List.take_add_one, unhide HX]
            have hd : xs.drop n = x :: xs.drop (n + 1) := by
              rw [List.drop_eq_getElem_cons hlt]
              congr 1
              have := unhide HX
              rw [List.getElem?_eq_getElem hlt] at this
              exact Option.some.inj this
            rw [hd]
            simp [afterL, aft]
          rwa [e] at this
        case measure => simp [intOf]; omega
      · obtain rfl : n = xs.length := by omega
        have hf : HeldO wr g 0 (afterL ev xs) := by have := unhide HH; simpa using this
        have hlL : (afterL ev xs).length = xs.length := by simp [afterL]
        have HF := hide hf
        clear hf hh
        go_wp2
        first | go_ret2 | go_ret
        exact ⟨_, rfl, nr, .inr ⟨g, 0, _, by rw [hlL]; rfl, hg, (unhide HF).toL⟩⟩

end Go.Proofs.YtfmkdoachjgjbaaGreatDoor
namespace Go.Proofs.YtfmkdoachjgjbaaGreatDoor
open Go.RowKit

attribute [local go_sem ↓ high] ld_live_fold st_live_fold al_live_fold bs_liv_fold
attribute [local go_sem] ld_live st_live al_live bs_liv rowN_drew

def gstep (c : Ch) (x : Live) : Ch := if x.state = 9 then c.give (x.own != x.paid) x.h.amount else c
def keptL (xs : List Live) : List Live := xs.filter fun x => !(x.state == 9)
/-- All that is live goes on by an event. -/
def Ch.goOn (c : Ch) (ev : Int) : Ch := { (afterL ev c.xs).foldl gstep c with xs := keptL (afterL ev c.xs) }
theorem keptL_take {xs : List Live} {i : Nat} {x : Live} (hi : xs[i]? = some x) : keptL (xs.take (i + 1)) = keptL (xs.take i) ++ (if x.state = 9 then [] else [x]) := by
  unfold keptL
  rw [List.take_add_one, hi, List.filter_append]
  by_cases h : x.state = 9 <;> simp [h]
theorem gfold_take {xs : List Live} {i : Nat} {x : Live} (c : Ch) (hi : xs[i]? = some x) : (xs.take (i + 1)).foldl gstep c = gstep ((xs.take i).foldl gstep c) x := by
  rw [List.take_add_one, hi, List.foldl_append]
  rfl
theorem nextSt_ok {st : Int} (h : -9223372036854775808 ≤ st ∧ st ≤ 9223372036854775807) (own : Bool) (ev : Int) : -9223372036854775808 ≤ nextSt st own ev ∧ nextSt st own ev ≤ 9223372036854775807 := by
  unfold nextSt
  split
  · rename_i hm
    have := hm.1
    unfold mayB at this
    simp at this
    omega
  · exact h
theorem aft_ok {x : Live} (h : LiveOk x) (ev : Int) : LiveOk (aft ev x) := ⟨h.h, nextSt_ok h.state _ _⟩

/-- The row of lives laid anew. -/
theorem ChP.newLive {wC wD : World} {g : Nat} {S : Nat → Prop} {c : Ch} {lv nv av : Value} (h : ChP wC g S c lv nv av) (w0 : World) (u : Upd (· = g) w0 wC) (u2 : New wC wD) (v' : Value) (ys : List Live) (hy : ∀ y ∈ ys, LiveOk y) (hfew : ys.length ≤ 1000000) (hown' : wD.ownsRow w0.heap.size 69 38 v' ys.length (ys.flatMap liveCells)) :
    ChP (wD.setCell ⟨g, 47, none⟩ v') g (Fr S w0 (wD.setCell ⟨g, 47, none⟩ v')) { c with xs := ys } v' nv av := by
  have hD := h.new u2
  have uE : Upd (· = g) wD (wD.setCell ⟨g, 47, none⟩ v') := (Upd.refl _ _).set1 47 _
  have hatE := blk_set hD.at_ 47 v'
  rw [set_live c lv nv av h.ok.s.seed ys] at hatE
  have hvge : ∀ k, v'.ownBlock = some k → w0.heap.size ≤ k := by
    intro k hk
    rcases hown'.2 with ⟨e, _⟩ | ⟨g', cap, cur, e, e2, _⟩
    · rw [e] at hk; simp [Value.ownBlock] at hk
    · rw [e] at hk; simp [Value.ownBlock] at hk; omega
  have hvlt : ∀ k, v'.ownBlock = some k → k < wD.heap.size := fun k hk => by
    obtain ⟨cur, hc⟩ := own_blk' hown' k hk
    exact blk_lt hc
  have hown0 : wD.ownsRow 0 69 38 v' ys.length (ys.flatMap liveCells) := by
    refine ⟨hown'.1, ?_⟩
    rcases hown'.2 with e | ⟨g', cap, cur, e, e2, r⟩
    · exact .inl e
    · exact .inr ⟨g', cap, cur, e, Nat.zero_le _, r⟩
  have tyg : ∀ {T : TypeId} {v : Value} {n : Nat} {xs : List Value}, T ≠ 126 → wD.ownsRow 0 T 38 v n xs → ∀ k, v.ownBlock = some k → k ≠ g := by
    intro T v n xs hT hr k hk e
    obtain ⟨cur, hc⟩ := own_blk' hr k hk
    exact apart_ty' hc hD.at_ hT e
  have hz := uE.size
  refine ⟨hatE, ⟨h.ok.s, h.ok.signed, h.ok.heard, h.ok.nextOwn, h.ok.nextTheirs, h.ok.loc, h.ok.rem, hy, hfew, h.ok.shelf, h.ok.news, h.ok.last, h.ok.many⟩, ?_, ?_, ?_, .inl h.inG, ?_, fun k e => .inl (h.inN k e), fun k e => .inl (h.inA k e), h.sep, ?_⟩
  · exact row_upd' hown0 uE (fun k hk e => tyg (by decide) hown0 k hk e)
  · exact row_upd' hD.news uE (fun k hk e => tyg (by decide) hD.news k hk e)
  · exact row_upd' hD.last uE (fun k hk e => tyg (by decide) hD.last k hk e)
  · intro k hk
    have := hvlt k hk
    exact .inr ⟨hvge k hk, by omega⟩
  · rintro k (hk | hk)
    · have := hD.lt k hk
      omega
    · exact hk.2

set_option maxRecDepth 100000 in
set_option maxHeartbeats 2000000 in
theorem goOn_any (g : Nat) (S : Nat → Prop) (c : Ch) (ev : Int) (w : World) (h : ChS w g S c) (hG : Glob w) :
    Calls Tryz.prog 119 #[.pointer (some ⟨g, 0, none⟩), .int .i64 ev] w fun e w' => e = .returned (.tuple #[]) ∧ ChS w' g (Fr S w w') (c.goOn ev) ∧ Upd S w w' := by
  obtain ⟨lv, nv, av, h⟩ := h
  have c47 : w.cell? ⟨g, 47, none⟩ = some lv := h.toR.live
  have haf := after_anyN lv c.xs ev (by have := h.ok.few; omega) w hG h.toI.lives
  obtain ⟨i9, z9, b9, hi9, hz9, hz0, hz1, hz2, hb9⟩ := live_info'
  have H0 := hide h
  obtain ⟨la, lcap, hlv⟩ := own_shape' h.live
  rw [hlv] at c47 haf
  clear h
  go_enter Tryz.func119, Tryz.ntmps119
  go_wp2_with fail
  refine haf.mono ?_
  rintro e w1 ⟨u, rfl, n1, hu⟩
  obtain ⟨ua, ucap, rfl, hcell⟩ := hu.row
  have hlen : (afterL ev c.xs).length ≤ 1000000 := by have := (unhide H0).ok.few; simp [afterL]; omega
  have hyo : ∀ y ∈ afterL ev c.xs, LiveOk y := by
    intro y hy
    obtain ⟨x, hx, rfl⟩ := List.mem_map.1 hy
    exact aft_ok ((unhide H0).ok.xs x hx) ev
  have hgx : c.goOn ev = { (afterL ev c.xs).foldl gstep c with xs := keptL (afterL ev c.xs) } := rfl
  have HGX := hide hgx
  have HYO := hide hyo
  clear haf hu c47 hyo hgx
  generalize hys : afterL ev c.xs = ys at *
  clear hys
  have h1 := (unhide H0).new n1
  have hglt : g < w.heap.size := blk_lt (unhide H0).at_
  have hll : (ys.length : Int) ≤ 1000000 := by omega
  have h1' := hide h1
  have hn1 := n1.size
  clear h1
  go_wp2_with fail
  go_loopw [4, 6, 14] (fun kv _ iv wr => ∃ i : Nat, iv = .int .i64 (i : Int) ∧ i ≤ ys.length ∧ wr.ownsRow w1.heap.size 69 38 kv (keptL (ys.take i)).length ((keptL (ys.take i)).flatMap liveCells) ∧ Hid (ChP wr g S ((ys.take i).foldl gstep c) lv nv av) ∧ Upd (· = g) w1 wr) (fun _ _ iv _ => ys.length - (intOf iv).toNat)
  case atStart => exact ⟨0, rfl, Nat.zero_le _, World.ownsRow_nil _ _ _ _, h1', Upd.refl _ _⟩
  case round =>
    obtain ⟨i, rfl, hi, hown, HC, nr⟩ := hrel
    obtain ⟨wq, rfl⟩ : ∃ wq : World, wq = wr := ⟨_, rfl⟩
    obtain ⟨ka, kcap, hkv⟩ := own_shape' hown
    subst hkv
    by_cases hlt : i < ys.length
    · obtain ⟨x, hxx⟩ : ∃ x, ys[i]? = some x := ⟨_, List.getElem?_eq_getElem hlt⟩
      obtain ⟨g', off, rfl, hge, hh⟩ := hcell i x hxx
      have hrow := (hh.upd nr (fun e => by omega)).row hxx
      have hi0 : (i : Int) < (ys.length : Int) := by omega
      have hst := stOk_live wq x
      have hlaid := laid_live wq x
      have hkt := keptL_take hxx
      have hgt := gfold_take c hxx
      have hml : (keptL (ys.take i)).length ≤ i := by
        unfold keptL
        refine Nat.le_trans (List.length_filter_le _ _) ?_
        rw [List.length_take]
        omega
      have HO := hide hown
      have HK := hide hkt
      have HT := hide hgt
      clear hkt hgt hxx hh hcell hown
      go_upto_region 4 with fail
      obtain ⟨hb, nb⟩ := hlaid
      generalize (wq.alloc (.cells (liveCells Live.zero).toArray 69)).setCells wq.heap.size 0 (liveCells x) = wb at hb nb ⊢
      have d36 : wb.cell? ⟨wq.heap.size, 36, none⟩ = some (.int .i64 x.state) := by rw [blk_cell hb, List.getElem?_toArray]; exact live_36 x
      have hqs := nr.size
      have hbq : w1.heap.size ≤ wq.heap.size := hqs
      have HCb := hide ((unhide HC).new nb)
      have nwb := nr.then (nb.mono (T := fun _ => False) (fun _ _ h => h)) (fun _ _ h => h.elim)
      clear hst hrow
      by_cases h9 : x.state = 9
      · have d35 : wb.cell? ⟨wq.heap.size, 35, none⟩ = some (.bool x.own) := by rw [blk_cell hb, List.getElem?_toArray]; exact live_35 x
        have d37 : wb.cell? ⟨wq.heap.size, 37, none⟩ = some (.bool x.paid) := by rw [blk_cell hb, List.getElem?_toArray]; exact live_37 x
        have d1 : wb.cell? ⟨wq.heap.size, 1, none⟩ = some (.int .u64 x.h.amount) := by rw [blk_cell hb, List.getElem?_toArray]; exact live_1 x
        have hgv := fun (W : World) (q : Q wb W) => giveC_any g S _ lv nv av (x.own != x.paid) x.h.amount W ((unhide HCb).upd (q.upd (fun _ => False)) (fun _ _ h => h))
        have HGV := hide hgv
        rw [h9] at d36
        clear hgv hb
        go_wp2_with fail
        refine (unhide HGV _ (Q.refl _)).mono ?_
        rintro e w2 ⟨rfl, hp2, u2⟩
        have hgs : gstep ((ys.take i).foldl gstep c) x = ((ys.take i).foldl gstep c).give (x.own != x.paid) x.h.amount := by unfold gstep; rw [if_pos h9]
        have HP2 := hide hp2
        have nw2 := nwb.trans u2
        have HO2 := hide (row_upd' (row_upd' (unhide HO) nb (fun _ _ h => h)) u2 (fun k hk e => by
          have hge := (unhide HO)
          rcases hge.2 with ⟨e, _⟩ | ⟨g2, cap, cur, e2, e3, _⟩
          · rw [e] at hk; simp [Value.ownBlock] at hk
          · rw [e2] at hk; simp [Value.ownBlock] at hk; omega))
        clear hp2 HGV
        go_wp2_with fail
        go_roundw
        case rel =>
          refine ⟨i + 1, by go_num, by omega, ?_, ?_, nw2⟩
          · rw [unhide HK, if_pos h9, List.append_nil]; exact unhide HO2
          · rw [unhide HT, hgs]; exact HP2
        case measure => simp [intOf]; omega
      · have h9' : (x.state == 9) = false := by simpa using h9
        have hrb := rowN_whole hb 38 (by rw [List.size_toArray, live_len])
        have hxl := live_len x
        have HB := hide hb
        have HOb := hide (row_upd' (unhide HO) nb (fun _ _ h => h))
        have hbg : wb.heap.size = wb.heap.size := rfl
        have hnbs := nb.size
        clear hb
        go_wp2_with (at_builtin; refine wpList_append_own _ rfl (.tmp 31) (.tmp 33) 46 rfl w1.heap.size 69 i9 _ 38 b9 Tryz.underlying46 hi9 hz9 hz0 hz1 hz2 (by decide) _ _ _ rfl ((unhide HOb).alloc _) ⟨wb.heap.size, 0, none⟩ 1 1 (liveCells x) rfl (by rw [hxl]) ?c1 (live_one x) ?c3 ?c4 ?c5 ?_)
        case c3 => unfold maxLen; omega
        case c4 => have := Nat.mul_le_mul (show (keptL (ys.take i)).length + 1 ≤ 1000000 by omega) hb9; omega
        case c5 => omega
        intro v' w5 hown5 hgrow5 _
        obtain ⟨a5, k5, c5, rfl⟩ := own_shape hown5
        have hO := unhide HO
        have hAl : New wb (wb.alloc (.cells (liveCells x).toArray 69)) := (Upd.refl _ _).alloc _
        have n5 : Upd (· = g) w1 w5 := (nwb.alloc _).grown hgrow5 (fun k hk hkk => by
          rcases hO.2 with ⟨e, _⟩ | ⟨g2, cap, cur, e2, e3, _⟩
          · rw [e] at hk; simp [Value.ownBlock] at hk
          · rw [e2] at hk; simp [Value.ownBlock] at hk; omega)
        have u5 : Upd (fun k => w1.heap.size ≤ k) (wb.alloc (.cells (liveCells x).toArray 69)) w5 := (Upd.refl _ _).grown hgrow5 (fun k hk hkk => by
          rcases hO.2 with ⟨e, _⟩ | ⟨g2, cap, cur, e2, e3, _⟩
          · rw [e] at hk; simp [Value.ownBlock] at hk
          · rw [e2] at hk; simp [Value.ownBlock] at hk; omega)
        have HP5 := hide (((unhide HCb).new hAl).upd u5 (fun k hk e => by have := (unhide H0).lt k hk; omega))
        have hgs : gstep ((ys.take i).foldl gstep c) x = (ys.take i).foldl gstep c := by unfold gstep; rw [if_neg h9]
        have HN5 := hide hown5
        clear hown5 hgrow5 HB
        go_wp2_with fail
        go_roundw
        case rel =>
          refine ⟨i + 1, by go_num, by omega, ?_, ?_, n5⟩
          · rw [unhide HK, if_neg h9, List.length_append, List.flatMap_append]
            have : [x].flatMap liveCells = liveCells x := by simp
            rw [this]
            exact unhide HN5
          · rw [unhide HT, hgs]; exact HP5
        case measure => simp [intOf]; omega
    · obtain rfl : i = ys.length := by omega
      rw [List.take_length] at *
      have hP := unhide HC
      have c47 : wq.cell? ⟨g, 47, none⟩ = some lv := hP.toR.live
      have f47 : wq.frozen? ⟨g, 47, none⟩ = false := blk_free hP.at_ 47
      have hkl : (keptL ys).length ≤ 1000000 := Nat.le_trans (List.length_filter_le _ _) hlen
      have hfin := hP.newLive w1 nr (Upd.refl _ _) _ (keptL ys) (fun y hy => unhide HYO y (List.mem_filter.1 hy).1) hkl hown
      have uF : Upd (· = g) wq (wq.setCell ⟨g, 47, none⟩ (.slice ka (keptL ys).length kcap)) := (Upd.refl _ _).set1 47 _
      have HF := hide hfin
      have HU := hide (nr.trans uF)
      clear hfin hown uF hcell hP
      go_wp2_with fail
      go_end0
      have hU := unhide HU
      have hF := unhide HF
      have h0 := unhide H0
      rw [unhide HGX]
      refine ⟨rfl, ⟨_, _, _, hF.wider (fun k hk => ?_) (fun k hk => ?_)⟩, (n1.mono (fun _ _ h => h.elim)).trans (hU.mono (fun k _ e => by rw [e]; exact h0.inG))⟩
      · rcases hk with hk | hk
        · exact .inl hk
        · exact .inr ⟨by omega, hk.2⟩
      · rcases hk with hk | hk
        · exact hF.lt k (.inl hk)
        · exact hk.2

end Go.Proofs.YtfmkdoachjgjbaaGreatDoor
