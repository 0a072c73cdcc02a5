/-
  Law 18, LinkBroken: the parts.
-/
import Derived.Test.YtfmkdoachjgjbaaGreatDoorMea
import Derived.Test.YtfmkdoachjgjbaaGreatDoorMec
import Derived.Test.YtfmkdoachjgjbaaGreatDoorMef
import Derived.Test.YtfmkdoachjgjbaaGreatDoorRe5
set_option linter.unusedVariables false
set_option linter.unusedSimpArgs false
namespace Go.Proofs.YtfmkdoachjgjbaaGreatDoor
open Go.RowKit

-- a frame, opened
theorem toL_ext {a b : ByteArray} (h : a.data.toList = b.data.toList) : a = b := by
  cases a; cases b
  simp at h
  subst h
  rfl
theorem toL_app (a b : ByteArray) : (a ++ b).data.toList = a.data.toList ++ b.data.toList := by simp
theorem toL_ext2 (s : ByteArray) (i j : Nat) : (s.extract i j).data.toList = (s.data.toList.drop i).take (j - i) := by
  simp [ByteArray.data_extract, List.extract_eq_take_drop]
theorem toL_len (s : ByteArray) : s.data.toList.length = s.size := by rw [Array.length_toList]; rfl
theorem bt_app (a b : ByteArray) (n : Nat) (h : n < a.size) : bt (a ++ b) n = bt a n := by
  unfold bt
  rw [toL_app, List.getD_eq_getElem?_getD, List.getD_eq_getElem?_getD, List.getElem?_append_left (by rw [toL_len]; exact h)]
theorem hd_frm (g : ByteArray) (h1 : g.size ≤ 1024) : hd (framed g) = g.size := by
  have hz : (strOfNums [(g.size : Int) / 256, (g.size : Int) % 256]).size = 2 := strOfNums_size _
  unfold hd framed
  rw [bt_app _ _ 0 (by omega), bt_app _ _ 1 (by omega)]
  have e0 : bt (strOfNums [(g.size : Int) / 256, (g.size : Int) % 256]) 0 = (g.size : Int) / 256 := by
    show ((UInt8.ofNat ((g.size : Int) / 256).toNat).toNat : Int) = _
    rw [UInt8.toNat_ofNat']
    omega
  have e1 : bt (strOfNums [(g.size : Int) / 256, (g.size : Int) % 256]) 1 = (g.size : Int) % 256 := by
    show ((UInt8.ofNat ((g.size : Int) % 256).toNat).toNat : Int) = _
    rw [UInt8.toNat_ofNat']
    omega
  rw [e0, e1]
  omega
theorem ready_frm (g : ByteArray) (h0 : 0 < g.size) (h1 : g.size ≤ 1024) : Ready (framed g) := by
  have e := hd_frm g h1
  have hs := framed_size g
  exact ⟨by omega, badB_good (by omega) (by omega), by omega⟩
theorem text_frm (g : ByteArray) (h1 : g.size ≤ 1024) : ((framed g).extract 0 (2 + hd (framed g)).toNat).extract 2 (2 + hd (framed g)).toNat = g := by
  have hz : (strOfNums [(g.size : Int) / 256, (g.size : Int) % 256]).data.toList.length = 2 := by rw [toL_len]; exact strOfNums_size _
  have e2 : (2 + (g.size : Int)).toNat = 2 + g.size := by omega
  rw [text_eq, hd_frm g h1, e2]
  refine toL_ext ?_
  rw [toL_ext2, show 2 + g.size - 2 = g.size by omega]
  unfold framed
  rw [toL_app, List.drop_append_of_le_length (by omega), List.drop_eq_nil_of_le (by omega), List.nil_append, List.take_of_length_le (by rw [toL_len]; omega)]
theorem rest_frm (g : ByteArray) (h1 : g.size ≤ 1024) : (framed g).extract (2 + hd (framed g)).toNat (framed g).size = ⟨#[]⟩ := by
  have e2 : (2 + (g.size : Int)).toNat = 2 + g.size := by omega
  rw [hd_frm g h1, e2, framed_size]
  refine toL_ext ?_
  rw [toL_ext2, Nat.sub_self]
  simp
-- the two ways
def ffS : ByteArray := ⟨#[255, 255]⟩
theorem ff_bad : badB ffS = true := by kernel_rfl
def bk0 : Ch := Ch.new (setAT 100 200)
def bkL : Lk := Lk.new bk0
theorem bk_again : SayOk (againM bk0.cut) := by
  have h : mayMsg (againM bk0.cut) = true := by kernel_rfl
  exact sayOk_mk (by decide) (by decide) (by decide) (by decide) z32i_len z32i_bytes (by decide) (by decide) h
theorem bk_loc : bk0.cut.loc = 100 ∧ bk0.cut.rem = 100 ∧ bk0.loc = 100 ∧ bk0.rem = 100 := by
  refine ⟨?_, ?_, ?_, ?_⟩ <;> kernel_rfl
section
variable {w0 w : World} {p g : Nat} {S : Nat → Prop}
theorem bk_bad {s : ByteArray} (h : Lt w0 w p g S bkL) (h0 : 0 < s.size) (h1 : s.size ≤ 300) (he : ((decL s).2 != 0) = true) :
    Calls Tryz.prog 24 #[.pointer (some ⟨g, 0, none⟩), .string (framed s)] w fun e w' => e = .returned (.int .i64 (decL s).2) ∧ Lt w0 w' p g S { bkL with broken := true } ∧ Upd S w w' := by
  refine (lbytes_bad g S bkL (framed s) s (decL s).2 w h.lk rfl rfl rfl (by rw [framed_size]; omega) (ready_frm s h0 (by omega)) (text_frm s (by omega)) (rest_frm s (by omega)) he (fun W => lhear_bad g s W he)).mono ?_
  rintro e w' ⟨rfl, hl, u⟩
  exact ⟨rfl, h.opS u hl, u⟩
theorem bk_broken {s : ByteArray} (h : Lt w0 w p g S { bkL with broken := true }) :
    Calls Tryz.prog 24 #[.pointer (some ⟨g, 0, none⟩), .string s] w (Reads (.int .i64 5) w) := lbytes_broken g S _ s w h.lk rfl rfl
theorem bk_ff (h : Lt w0 w p g S bkL) :
    Calls Tryz.prog 24 #[.pointer (some ⟨g, 0, none⟩), .string ffS] w fun e w' => e = .returned (.int .i64 80) ∧ Lt w0 w' p g S { bkL with rest := ffS } ∧ Upd S w w' := by
  refine (lbytes_none g S bkL ffS w h.lk rfl rfl rfl (by decide) (fun e => by have := e.2.1; rw [ff_bad] at this; cases this)).mono ?_
  rintro e w' ⟨rfl, hl, u⟩
  rw [ff_bad]
  exact ⟨rfl, h.opS u hl, u⟩
theorem bk_cap {s : ByteArray} (h : Lt w0 w p g S { bkL with rest := ffS }) :
    Calls Tryz.prog 24 #[.pointer (some ⟨g, 0, none⟩), .string s] w (Reads (.int .i64 80) w) := lbytes_cap g S _ s w h.lk rfl rfl ff_bad
def bkCut : Lk := bkL.cut (numS 7 1)
theorem bk_cut {b : Bool} {r : ByteArray} (hT : Tc w0) (h : Lt w0 w p g S { bkL with broken := b, rest := r }) :
    Calls Tryz.prog 25 #[.pointer (some ⟨g, 0, none⟩)] w fun e w' => e = .returned (.int .i64 0) ∧ Lt w0 w' p g (Fr S w w') bkCut ∧ Upd S w w' := by
  have hap := apc_ge hT h.ge
  refine (lcut_any g S _ w h.lk ⟨rfl, rfl, rfl, rfl, (by decide : (0 : Int) ≤ 0 ∧ (0 : Int) < 1000000000000), (by decide : 0 ≤ 1000000000000), (by decide : 0 ≤ 1000000000000)⟩ bk_again (hT.new h.new).tabs ⟨hap.c, hap.d⟩).mono ?_
  rintro e w' ⟨rfl, hl, u⟩
  exact ⟨rfl, h.op u hl, u⟩
theorem bk_none (h : Lt w0 w p g S bkCut) :
    Calls Tryz.prog 24 #[.pointer (some ⟨g, 0, none⟩), .string ⟨#[]⟩] w fun e w' => e = .returned (.int .i64 0) ∧ Lt w0 w' p g S bkCut ∧ Upd S w w' := by
  refine (lbytes_none g S bkCut ⟨#[]⟩ w h.lk rfl rfl rfl (by decide) (fun e => absurd e.1 (by decide))).mono ?_
  rintro e w' ⟨rfl, hl, u⟩
  exact ⟨rfl, h.opS u hl, u⟩
theorem bk_base {L : Lk} (h : Lt w0 w p g S L) (hc : L.c.loc = 100 ∧ L.c.rem = 100) :
    ∃ en, Calls Tryz.prog 19 #[.pointer (some ⟨g, 0, none⟩)] w (Reads (.pointer (some ⟨en, 0, none⟩)) w) ∧ ∀ w', New w w' → Calls Tryz.prog 23 #[.pointer (some ⟨en, 0, none⟩)] w' (Makes (.agg #[.int .u64 100, .int .u64 100]) w') := by
  obtain ⟨sp, en, lo, SC, SJ, hl⟩ := h.lk
  refine ⟨en, chan_any g _ w hl.at_, fun w' n => ?_⟩
  have := baseS_any en SC L.c w' (hl.chn.new n)
  rwa [hc.1, hc.2] at this
end
/-- What the base was, in a block apart. -/
structure BsB (w : World) (b : Nat) (S : Nat → Prop) : Prop where
  at_ : w.heap[b]? = some (.cells #[.int .u64 100, .int .u64 100] 59 (0, 0))
  nS : ¬ S b
theorem BsB.upd {w w' : World} {b : Nat} {S : Nat → Prop} (h : BsB w b S) (u : Upd S w w') : BsB w' b S := ⟨u.old h.at_ h.nS, h.nS⟩
theorem BsB.new {w w' : World} {b : Nat} {S : Nat → Prop} (h : BsB w b S) (u : New w w') : BsB w' b S := ⟨u.old h.at_ (fun h => h), h.nS⟩
theorem BsB.fr {w w' : World} {b : Nat} {S : Nat → Prop} (h : BsB w b S) (u : Upd S w w') : BsB w' b (Fr S w w') := ⟨u.old h.at_ h.nS, fun e => e.elim h.nS (fun e => by have := blk_lt h.at_; omega)⟩
theorem BsB.row {w : World} {b : Nat} {S : Nat → Prop} (h : BsB w b S) : rowN w b 0 2 = some #[.int .u64 100, .int .u64 100] := rowN_whole h.at_ 2 rfl
end Go.Proofs.YtfmkdoachjgjbaaGreatDoor
