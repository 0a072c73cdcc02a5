/-
  goOn: all that is live goes on by an event; what is gone goes into the base.
-/
import Derived.Test.YtainkaojnhfldaaGreatDoorCh4
import Derived.Test.YtainkaojnhfldaaGreatDoorMaj
import Derived.Test.YtainkaojnhfldaaGreatDoorVw8
set_option linter.unusedVariables false
set_option linter.unusedSimpArgs false
namespace Go.Proofs.YtainkaojnhfldaaGreatDoor
open Go.RowKit

attribute [local go_sem ↓ high] ld_live_fold st_live_fold al_live_fold bs_liv_fold
attribute [local go_sem] ld_live st_live al_live bs_liv rowN_drew

def gstep (c : Ch) (x : Live) : Ch := if x.state = 9 then c.give (x.own != x.paid) x.h.amount else c
def keptL (xs : List Live) : List Live := xs.filter fun x => !(x.state == 9)
/-- All that is live goes on by an event. -/
def Ch.goOn (c : Ch) (ev : Int) : Ch := { (afterL ev c.xs).foldl gstep c with xs := keptL (afterL ev c.xs) }
theorem keptL_take {xs : List Live} {i : Nat} {x : Live} (hi : xs[i]? = some x) : keptL (xs.take (i + 1)) = keptL (xs.take i) ++ (if x.state = 9 then [] else [x]) := by
  unfold keptL
  rw [List.take_add_one, hi, List.filter_append]
  by_cases h : x.state = 9 <;> simp [h]
theorem gfold_take {xs : List Live} {i : Nat} {x : Live} (c : Ch) (hi : xs[i]? = some x) : (xs.take (i + 1)).foldl gstep c = gstep ((xs.take i).foldl gstep c) x := by
  rw [List.take_add_one, hi, List.foldl_append]
  rfl
theorem nextSt_ok {st : Int} (h : -9223372036854775808 ≤ st ∧ st ≤ 9223372036854775807) (own : Bool) (ev : Int) : -9223372036854775808 ≤ nextSt st own ev ∧ nextSt st own ev ≤ 9223372036854775807 := by
  unfold nextSt
  split
  · rename_i hm
    have := hm.1
    unfold mayB at this
    simp at this
    omega
  · exact h
theorem aft_ok {x : Live} (h : LiveOk x) (ev : Int) : LiveOk (aft ev x) := ⟨h.h, nextSt_ok h.state _ _⟩

/-- The row of lives laid anew. -/
theorem ChP.newLive {wC wD : World} {g : Nat} {S : Nat → Prop} {c : Ch} {lv nv av : Value} (h : ChP wC g S c lv nv av) (w0 : World) (u : Upd (· = g) w0 wC) (u2 : New wC wD) (v' : Value) (ys : List Live) (hy : ∀ y ∈ ys, LiveOk y) (hfew : ys.length ≤ 1000000) (hown' : wD.ownsRow w0.heap.size 128 38 v' ys.length (ys.flatMap liveCells)) :
    ChP (wD.setCell ⟨g, 47, none⟩ v') g (Fr S w0 (wD.setCell ⟨g, 47, none⟩ v')) { c with xs := ys } v' nv av := by
  have hD := h.new u2
  have uE : Upd (· = g) wD (wD.setCell ⟨g, 47, none⟩ v') := (Upd.refl _ _).set1 47 _
  have hatE := blk_set hD.at_ 47 v'
  rw [set_live c lv nv av h.ok.s.seed ys] at hatE
  have hvge : ∀ k, v'.ownBlock = some k → w0.heap.size ≤ k := by
    intro k hk
    rcases hown'.2 with ⟨e, _⟩ | ⟨g', cap, cur, e, e2, _⟩
    · rw [e] at hk; simp [Value.ownBlock] at hk
    · rw [e] at hk; simp [Value.ownBlock] at hk; omega
  have hvlt : ∀ k, v'.ownBlock = some k → k < wD.heap.size := fun k hk => by
    obtain ⟨cur, hc⟩ := own_blk' hown' k hk
    exact blk_lt hc
  have hown0 : wD.ownsRow 0 128 38 v' ys.length (ys.flatMap liveCells) := by
    refine ⟨hown'.1, ?_⟩
    rcases hown'.2 with e | ⟨g', cap, cur, e, e2, r⟩
    · exact .inl e
    · exact .inr ⟨g', cap, cur, e, Nat.zero_le _, r⟩
  have tyg : ∀ {T : TypeId} {v : Value} {n : Nat} {xs : List Value}, T ≠ 104 → wD.ownsRow 0 T 38 v n xs → ∀ k, v.ownBlock = some k → k ≠ g := by
    intro T v n xs hT hr k hk e
    obtain ⟨cur, hc⟩ := own_blk' hr k hk
    exact apart_ty' hc hD.at_ hT e
  have hz := uE.size
  refine ⟨hatE, ⟨h.ok.s, h.ok.signed, h.ok.heard, h.ok.nextOwn, h.ok.nextTheirs, h.ok.loc, h.ok.rem, hy, hfew, h.ok.shelf, h.ok.news, h.ok.last, h.ok.many⟩, ?_, ?_, ?_, .inl h.inG, ?_, fun k e => .inl (h.inN k e), fun k e => .inl (h.inA k e), h.sep, ?_⟩
  · exact row_upd' hown0 uE (fun k hk e => tyg (by decide) hown0 k hk e)
  · exact row_upd' hD.news uE (fun k hk e => tyg (by decide) hD.news k hk e)
  · exact row_upd' hD.last uE (fun k hk e => tyg (by decide) hD.last k hk e)
  · intro k hk
    have := hvlt k hk
    exact .inr ⟨hvge k hk, by omega⟩
  · rintro k (hk | hk)
    · have := hD.lt k hk
      omega
    · exact hk.2

set_option maxRecDepth 100000 in
set_option maxHeartbeats 2000000 in
theorem goOn_any (g : Nat) (S : Nat → Prop) (c : Ch) (ev : Int) (w : World) (h : ChS w g S c) (hG : Glob w) :
    Calls Tryz.prog 70 #[.pointer (some ⟨g, 0, none⟩), .int .i64 ev] w fun e w' => e = .returned (.tuple #[]) ∧ ChS w' g (Fr S w w') (c.goOn ev) ∧ Upd S w w' := by
  obtain ⟨lv, nv, av, h⟩ := h
  have c47 : w.cell? ⟨g, 47, none⟩ = some lv := h.toR.live
  have haf := after_anyN lv c.xs ev (by have := h.ok.few; omega) w hG h.toI.lives
  obtain ⟨i9, z9, b9, hi9, hz9, hz0, hz1, hz2, hb9⟩ := live_info'
  have H0 := hide h
  obtain ⟨la, lcap, hlv⟩ := own_shape' h.live
  rw [hlv] at c47 haf
  clear h
  go_enter Tryz.func70, Tryz.ntmps70
  go_wp2_with fail
  refine haf.mono ?_
  rintro e w1 ⟨u, rfl, n1, hu⟩
  obtain ⟨ua, ucap, rfl, hcell⟩ := hu.row
  have hlen : (afterL ev c.xs).length ≤ 1000000 := by have := (unhide H0).ok.few; simp [afterL]; omega
  have hyo : ∀ y ∈ afterL ev c.xs, LiveOk y := by
    intro y hy
    obtain ⟨x, hx, rfl⟩ := List.mem_map.1 hy
    exact aft_ok ((unhide H0).ok.xs x hx) ev
  have hgx : c.goOn ev = { (afterL ev c.xs).foldl gstep c with xs := keptL (afterL ev c.xs) } := rfl
  have HGX := hide hgx
  have HYO := hide hyo
  clear haf hu c47 hyo hgx
  generalize hys : afterL ev c.xs = ys at *
  clear hys
  have h1 := (unhide H0).new n1
  have hglt : g < w.heap.size := blk_lt (unhide H0).at_
  have hll : (ys.length : Int) ≤ 1000000 := by omega
  have h1' := hide h1
  have hn1 := n1.size
  clear h1
  go_wp2_with fail
  go_loopw [4, 6, 14] (fun kv _ iv wr => ∃ i : Nat, iv = .int .i64 (i : Int) ∧ i ≤ ys.length ∧ wr.ownsRow w1.heap.size 128 38 kv (keptL (ys.take i)).length ((keptL (ys.take i)).flatMap liveCells) ∧ Hid (ChP wr g S ((ys.take i).foldl gstep c) lv nv av) ∧ Upd (· = g) w1 wr) (fun _ _ iv _ => ys.length - (intOf iv).toNat)
  case atStart => exact ⟨0, rfl, Nat.zero_le _, World.ownsRow_nil _ _ _ _, h1', Upd.refl _ _⟩
  case round =>
    obtain ⟨i, rfl, hi, hown, HC, nr⟩ := hrel
    obtain ⟨wq, rfl⟩ : ∃ wq : World, wq = wr := ⟨_, rfl⟩
    obtain ⟨ka, kcap, hkv⟩ := own_shape' hown
    subst hkv
    by_cases hlt : i < ys.length
    · obtain ⟨x, hxx⟩ : ∃ x, ys[i]? = some x := ⟨_, List.getElem?_eq_getElem hlt⟩
      obtain ⟨g', off, rfl, hge, hh⟩ := hcell i x hxx
      have hrow := (hh.upd nr (fun e => by omega)).row hxx
      have hi0 : (i : Int) < (ys.length : Int) := by omega
      have hst := stOk_live wq x
      have hlaid := laid_live wq x
      have hkt := keptL_take hxx
      have hgt := gfold_take c hxx
      have hml : (keptL (ys.take i)).length ≤ i := by
        unfold keptL
        refine Nat.le_trans (List.length_filter_le _ _) ?_
        rw [List.length_take]
        omega
      have HO := hide hown
      have HK := hide hkt
      have HT := hide hgt
      clear hkt hgt hxx hh hcell hown
      go_upto_region 4 with fail
      obtain ⟨hb, nb⟩ := hlaid
      generalize (wq.alloc (.cells (liveCells Live.zero).toArray 128)).setCells wq.heap.size 0 (liveCells x) = wb at hb nb ⊢
      have d36 : wb.cell? ⟨wq.heap.size, 36, none⟩ = some (.int .i64 x.state) := by rw [blk_cell hb, List.getElem?_toArray]; exact live_36 x
      have hqs := nr.size
      have hbq : w1.heap.size ≤ wq.heap.size := hqs
      have HCb := hide ((unhide HC).new nb)
      have nwb := nr.then (nb.mono (T := fun _ => False) (fun _ _ h => h)) (fun _ _ h => h.elim)
      clear hst hrow
      by_cases h9 : x.state = 9
      · have d35 : wb.cell? ⟨wq.heap.size, 35, none⟩ = some (.bool x.own) := by rw [blk_cell hb, List.getElem?_toArray]; exact live_35 x
        have d37 : wb.cell? ⟨wq.heap.size, 37, none⟩ = some (.bool x.paid) := by rw [blk_cell hb, List.getElem?_toArray]; exact live_37 x
        have d1 : wb.cell? ⟨wq.heap.size, 1, none⟩ = some (.int .u64 x.h.amount) := by rw [blk_cell hb, List.getElem?_toArray]; exact live_1 x
        have hgv := fun (W : World) (q : Q wb W) => giveC_any g S _ lv nv av (x.own != x.paid) x.h.amount W ((unhide HCb).upd (q.upd (fun _ => False)) (fun _ _ h => h))
        have HGV := hide hgv
        rw [h9] at d36
        clear hgv hb
        go_wp2_with fail
        refine (unhide HGV _ (Q.refl _)).mono ?_
        rintro e w2 ⟨rfl, hp2, u2⟩
        have hgs : gstep ((ys.take i).foldl gstep c) x = ((ys.take i).foldl gstep c).give (x.own != x.paid) x.h.amount := by unfold gstep; rw [if_pos h9]
        have HP2 := hide hp2
        have nw2 := nwb.trans u2
        have HO2 := hide (row_upd' (row_upd' (unhide HO) nb (fun _ _ h => h)) u2 (fun k hk e => by
          have hge := (unhide HO)
          rcases hge.2 with ⟨e, _⟩ | ⟨g2, cap, cur, e2, e3, _⟩
          · rw [e] at hk; simp [Value.ownBlock] at hk
          · rw [e2] at hk; simp [Value.ownBlock] at hk; omega))
        clear hp2 HGV
        go_wp2_with fail
        go_roundw
        case rel =>
          refine ⟨i + 1, by go_num, by omega, ?_, ?_, nw2⟩
          · rw [unhide HK, if_pos h9, List.append_nil]; exact unhide HO2
          · rw [unhide HT, hgs]; exact HP2
        case measure => simp [intOf]; omega
      · have h9' : (x.state == 9) = false := by simpa using h9
        have hrb := rowN_whole hb 38 (by rw [List.size_toArray, live_len])
        have hxl := live_len x
        have HB := hide hb
        have HOb := hide (row_upd' (unhide HO) nb (fun _ _ h => h))
        have hbg : wb.heap.size = wb.heap.size := rfl
        have hnbs := nb.size
        clear hb
        go_wp2_with (at_builtin; refine wpList_append_own _ rfl (.tmp 31) (.tmp 33) 96 rfl w1.heap.size 128 i9 _ 38 b9 Tryz.underlying96 hi9 hz9 hz0 hz1 hz2 (by decide) _ _ _ rfl ((unhide HOb).alloc _) ⟨wb.heap.size, 0, none⟩ 1 1 (liveCells x) rfl (by rw [hxl]) ?c1 (live_one x) ?c3 ?c4 ?c5 ?_)
        case c3 => unfold maxLen; omega
        case c4 => have := Nat.mul_le_mul (show (keptL (ys.take i)).length + 1 ≤ 1000000 by omega) hb9; omega
        case c5 => omega
        intro v' w5 hown5 hgrow5 _
        obtain ⟨a5, k5, c5, rfl⟩ := own_shape hown5
        have hO := unhide HO
        have hAl : New wb (wb.alloc (.cells (liveCells x).toArray 128)) := (Upd.refl _ _).alloc _
        have n5 : Upd (· = g) w1 w5 := (nwb.alloc _).grown hgrow5 (fun k hk hkk => by
          rcases hO.2 with ⟨e, _⟩ | ⟨g2, cap, cur, e2, e3, _⟩
          · rw [e] at hk; simp [Value.ownBlock] at hk
          · rw [e2] at hk; simp [Value.ownBlock] at hk; omega)
        have u5 : Upd (fun k => w1.heap.size ≤ k) (wb.alloc (.cells (liveCells x).toArray 128)) w5 := (Upd.refl _ _).grown hgrow5 (fun k hk hkk => by
          rcases hO.2 with ⟨e, _⟩ | ⟨g2, cap, cur, e2, e3, _⟩
          · rw [e] at hk; simp [Value.ownBlock] at hk
          · rw [e2] at hk; simp [Value.ownBlock] at hk; omega)
        have HP5 := hide (((unhide HCb).new hAl).upd u5 (fun k hk e => by have := (unhide H0).lt k hk; omega))
        have hgs : gstep ((ys.take i).foldl gstep c) x = (ys.take i).foldl gstep c := by unfold gstep; rw [if_neg h9]
        have HN5 := hide hown5
        clear hown5 hgrow5 HB
        go_wp2_with fail
        go_roundw
        case rel =>
          refine ⟨i + 1, by go_num, by omega, ?_, ?_, n5⟩
          · rw [unhide HK, if_neg h9, List.length_append, List.flatMap_append]
            have : [x].flatMap liveCells = liveCells x := by simp
            rw [this]
            exact unhide HN5
          · rw [unhide HT, hgs]; exact HP5
        case measure => simp [intOf]; omega
    · obtain rfl : i = ys.length := by omega
      rw [List.take_length] at *
      have hP := unhide HC
      have c47 : wq.cell? ⟨g, 47, none⟩ = some lv := hP.toR.live
      have f47 : wq.frozen? ⟨g, 47, none⟩ = false := blk_free hP.at_ 47
      have hkl : (keptL ys).length ≤ 1000000 := Nat.le_trans (List.length_filter_le _ _) hlen
      have hfin := hP.newLive w1 nr (Upd.refl _ _) _ (keptL ys) (fun y hy => unhide HYO y (List.mem_filter.1 hy).1) hkl hown
      have uF : Upd (· = g) wq (wq.setCell ⟨g, 47, none⟩ (.slice ka (keptL ys).length kcap)) := (Upd.refl _ _).set1 47 _
      have HF := hide hfin
      have HU := hide (nr.trans uF)
      clear hfin hown uF hcell hP
      go_wp2_with fail
      go_end0
      have hU := unhide HU
      have hF := unhide HF
      have h0 := unhide H0
      rw [unhide HGX]
      refine ⟨rfl, ⟨_, _, _, hF.wider (fun k hk => ?_) (fun k hk => ?_)⟩, (n1.mono (fun _ _ h => h.elim)).trans (hU.mono (fun k _ e => by rw [e]; exact h0.inG))⟩
      · rcases hk with hk | hk
        · exact .inl hk
        · exact .inr ⟨by omega, hk.2⟩
      · rcases hk with hk | hk
        · exact hF.lt k (.inl hk)
        · exact hk.2

end Go.Proofs.YtainkaojnhfldaaGreatDoor
