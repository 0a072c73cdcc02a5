/-
  Hashes in cells: made, loaded, stored, built of nothing.
-/
import Derived.Test.YthnohmjbbeahmaaGreatDoorMad
import Derived.Test.YthnohmjbbeahmaaGreatDoorHr1
import Derived.Test.YthnohmjbbeahmaaGreatDoorProg
import Derived.Test.YthnohmjbbeahmaaGreatDoorMaa
import Derived.RangeFuncNested
import Derived.RangeFuncBound
import Derived.RangeFuncCalls
import Derived.RangeFuncLeaves
import Derived.Shelf.Abstract
import Derived.Shelf.RegionOpen
import Derived.WalkKit
import Derived.OwnWalkIn
import Derived.TacticsInMore
import Derived.LoopNIn
import Derived.LoopIn
import Derived.Test.YthnohmjbbeahmaaGreatDoorRows
import Derived.Deep.RegionHeld3
import Derived.OpenShut
set_option linter.unusedVariables false
set_option linter.unusedSimpArgs false
namespace Go.Proofs.YthnohmjbbeahmaaGreatDoor
open Go.RowKit
def qx(h:List Int):List Value:=h.map (Value.int .u8)
theorem qa0(h:List Int):(qx h).length=h.length:=by simp[qx]
theorem qy3(h:List Int):∀v∈qx h,v.oneCell'=true:=by
 intro v hv;obtain⟨x,_,rfl⟩:=List.mem_map.1 hv;rfl
def ze5:Sem Value:=Instr.alloc 33 true (.tuple #[])
theorem qaq:Instr.alloc 33 true (.tuple #[])=ze5:=rfl
theorem qdn(w:World):ze5.run Tryz.prog w = .ok (.pointer (some ⟨w.heap.size,0,none⟩)) (w.alloc (.cells (qx zv).toArray 33)):=by kernel_rfl
def q3s(p:Array (Nat × Value)):Sem Value:=Instr.build 33 p
theorem qat(p:Array (Nat × Value)):Instr.build 33 p=q3s p:=rfl
theorem qgw(w:World):(q3s #[]).run Tryz.prog w = .ok (.agg (qx zv).toArray) w:=run_build w _ _ _ (by kernel_rfl)
structure HsB(w:World)(b:Nat)(h:List Int):Prop where
 at_:w.heap[b]? = some (.cells (qx h).toArray 33 (0,0))
 len:h.length=32
theorem HsB.upd{S:Nat→Prop}{w w':World}{b:Nat}{h:List Int}(a:HsB w b h)(u:Upd S w w')(n:¬S b):HsB w' b h:=⟨u.old a.at_ n,a.len⟩
theorem HsB.new{w w':World}{b:Nat}{h:List Int}(a:HsB w b h)(u:qu w w'):HsB w' b h:=a.upd u (fun h=>h)
theorem HsB.row{w:World}{b:Nat}{h:List Int}(a:HsB w b h):zm w b 0 32=some (qx h).toArray:=qad a.at_ 32 (by rw[List.size_toArray,qa0,a.len])
theorem HsB.stOk{w:World}{b:Nat}{h:List Int}(a:HsB w b h)(k:List Int)(g:k.length=32):stOk w b 0 32 (qx k).toArray=true:=by
 have:=qfb a.at_ (A:=qx k) (by rw[List.size_toArray,qa0,qa0,a.len,g]) (qy3 k);rwa [List.size_toArray,qa0,a.len] at this
theorem HsB.put{w:World}{b:Nat}{h:List Int}(a:HsB w b h)(k:List Int)(g:k.length=32):HsB (w.setCells b 0 (qx k)) b k:=by
 refine⟨?_,g⟩;rw[qa2 a.at_ 0 _,qcz _ _ (by rw[List.size_toArray,qa0,qa0,a.len,g])]
theorem HsB.lt{w:World}{b:Nat}{h:List Int}(a:HsB w b h):b<w.heap.size:=z6 a.at_
theorem qch(w:World)(h:List Int)(g:h.length=32):HsB (w.alloc (.cells (qx h).toArray 33)) w.heap.size h:=⟨qi _ _,g⟩
theorem zz{w:World}{b:Nat}(l:List Value):Upd (· = b) w (w.setCells b 0 l):=(Upd.refl _ _).setCells 0 l
def qud(w:World)(k:List Int):World:=(w.alloc (.cells (qx zv).toArray 33)).setCells w.heap.size 0 (qx k)
theorem qrs(w:World)(k:List Int)(l:k.length=32):stOk (w.alloc (.cells (qx zv).toArray 33)) w.heap.size 0 32 (qx k).toArray=true∧HsB (qud w k) w.heap.size k∧qu w (qud w k):=by
 have g:=qch w zv qs;exact⟨g.stOk k l,g.put k l,(((Upd.refl (fun _=>False) w).alloc _)).then (zz _) (fun i m e=>by omega)⟩
structure MsB(w:World)(b:Nat)(m:MsgV):Prop where
 at_:w.heap[b]? = some (.cells m.cells.toArray 71 (0,0))
 len:m.hash.length=32
section
variable {S:Nat→Prop}{w w':World}{b:Nat}{m:MsgV}
theorem MsB.upd(a:MsB w b m)(u:Upd S w w')(n:¬S b):MsB w' b m:=⟨u.old a.at_ n,a.len⟩
theorem MsB.new(a:MsB w b m)(u:qu w w'):MsB w' b m:=a.upd u (fun h=>h)
theorem MsB.lt(a:MsB w b m):b<w.heap.size:=z6 a.at_
theorem MsB.row(a:MsB w b m):zm w b 0 38=some m.cells.toArray:=qad a.at_ 38 (by rw[List.size_toArray,m.len a.len])
theorem MsB.stOk(a:MsB w b m){k:MsgV}(i:k.hash.length=32):stOk w b 0 38 k.cells.toArray=true:=by
 have:=qfb a.at_ (A:=k.cells) (by rw[List.size_toArray,m.len a.len,k.len i]) k.one;rwa [List.size_toArray,m.len a.len] at this
theorem MsB.put(a:MsB w b m){k:MsgV}(i:k.hash.length=32):MsB (w.setCells b 0 k.cells) b k:=by
 refine⟨?_,i⟩;rw[qa2 a.at_ 0 _,qcz _ _ (by rw[List.size_toArray,m.len a.len,k.len i])]
theorem MsB.cells(a:MsB w b m):w.cell? ⟨b,0,none⟩=some (.int .i64 m.kind)∧w.cell? ⟨b,1,none⟩=some (.int .u32 m.ch)∧w.cell? ⟨b,2,none⟩=some (.int .u64 m.id)∧w.cell? ⟨b,3,none⟩=some (.int .u64 m.amount)∧w.cell? ⟨b,36,none⟩=some (.int .i64 m.expiry)∧w.cell? ⟨b,37,none⟩=some (.int .i64 m.number)∧zm w b 4 32=some (qx m.hash).toArray:=qwo m a.at_ a.len
end
theorem qbx(w:World)(m:MsgV)(i:m.hash.length=32):MsB (w.alloc (.cells m.cells.toArray 71)) w.heap.size m:=⟨qi _ _,i⟩
def qh8(w:World)(k:MsgV):World:=(w.alloc (.cells MsgV.zero.cells.toArray 71)).setCells w.heap.size 0 k.cells
theorem qhq(w:World)(k:MsgV)(o:k.hash.length=32):stOk (w.alloc (.cells MsgV.zero.cells.toArray 71)) w.heap.size 0 38 k.cells.toArray=true∧MsB (qh8 w k) w.heap.size k∧qu w (qh8 w k):=by
 have l:=qbx w MsgV.zero qs;exact⟨l.stOk o,l.put o,(((Upd.refl (fun _=>False) w).alloc _)).then (zz _) (fun i q e=>by omega)⟩
theorem MsB.agg{w:World}{b:Nat}{m:MsgV}(a:MsB w b m):m.cells.toArray.size=38:=by rw[List.size_toArray,m.len a.len]
theorem q5i(k n:Int)(H:List Value)(h:H.length=32):Tryz.prog.built 71 [(0,.int .i64 k),(6,.int .i64 n),(4,.agg H.toArray)]=some (.int .i64 k :: .int .u32 0 :: .int .u64 0 :: .int .u64 0::(H++[.int .i64 0,.int .i64 n])).toArray:=by
 obtain⟨i,z,o,v,l⟩:=qec Tryz.zeroMsg;obtain⟨C,t,q⟩:=Tryz.placesMsg;rw[qcb o t v q];rw[qcw (P:=[]) (z:= .int .i64 0) (R:= .int .u32 0 :: .int .u64 0 :: .int .u64 0::(zv.map (Value.int .u8)++[.int .i64 0,.int .i64 0])) rfl rfl rfl l];rw[qcw (P:= .int .i64 k :: .int .u32 0 :: .int .u64 0 :: .int .u64 0::(zv.map (Value.int .u8)++[.int .i64 0])) (z:= .int .i64 0) (R:=[]) rfl rfl rfl (by rfl)];rw[qe9 (P:=[.int .i64 k,.int .u32 0,.int .u64 0,.int .u64 0]) (A:=H) (Z:=zv.map (Value.int .u8)) (R:=[.int .i64 0,.int .i64 n]) (off:=4) (by rw[h];rfl) rfl (by rw[h];rfl) (by rfl)];rw[Instr.fill];simp
theorem q07(k n:Int)(h:List Int)(i:h.length=32)(w:World):(qkt #[(0,.int .i64 k),(6,.int .i64 n),(4,.agg (qx h).toArray)]).run Tryz.prog w = .ok (.agg (MsgV.cells ⟨k,0,0,0,h,0,n⟩).toArray) w :=
 run_build w _ _ _ (q5i k n (qx h) (by rw[qa0,i]))
theorem q5h(k c n:Int)(H:List Value)(h:H.length=32):Tryz.prog.built 71 [(0,.int .i64 k),(1,.int .u32 c),(6,.int .i64 n),(4,.agg H.toArray)]=some (.int .i64 k :: .int .u32 c :: .int .u64 0 :: .int .u64 0::(H++[.int .i64 0,.int .i64 n])).toArray:=by
 obtain⟨i,z,o,v,l⟩:=qec Tryz.zeroMsg;obtain⟨C,t,q⟩:=Tryz.placesMsg;rw[qcb o t v q];rw[qcw (P:=[]) (z:= .int .i64 0) (R:= .int .u32 0 :: .int .u64 0 :: .int .u64 0::(zv.map (Value.int .u8)++[.int .i64 0,.int .i64 0])) rfl rfl rfl l];rw[qcw (P:=[.int .i64 k]) (z:= .int .u32 0) (R:= .int .u64 0 :: .int .u64 0::(zv.map (Value.int .u8)++[.int .i64 0,.int .i64 0])) rfl rfl rfl (by rfl)];rw[qcw (P:= .int .i64 k :: .int .u32 c :: .int .u64 0 :: .int .u64 0::(zv.map (Value.int .u8)++[.int .i64 0])) (z:= .int .i64 0) (R:=[]) rfl rfl rfl (by rfl)];rw[qe9 (P:=[.int .i64 k,.int .u32 c,.int .u64 0,.int .u64 0]) (A:=H) (Z:=zv.map (Value.int .u8)) (R:=[.int .i64 0,.int .i64 n]) (off:=4) (by rw[h];rfl) rfl (by rw[h];rfl) (by rfl)];rw[Instr.fill];simp
theorem q06(k c n:Int)(h:List Int)(i:h.length=32)(w:World):(qkt #[(0,.int .i64 k),(1,.int .u32 c),(6,.int .i64 n),(4,.agg (qx h).toArray)]).run Tryz.prog w = .ok (.agg (MsgV.cells ⟨k,c,0,0,h,0,n⟩).toArray) w :=
 run_build w _ _ _ (q5h k c n (qx h) (by rw[qa0,i]))
theorem q5e(k l:Int)(H:List Value)(h:H.length=32):Tryz.prog.built 71 [(0,.int .i64 k),(2,.int .u64 l),(4,.agg H.toArray)]=some (.int .i64 k :: .int .u32 0 :: .int .u64 l :: .int .u64 0::(H++[.int .i64 0,.int .i64 0])).toArray:=by
 obtain⟨i,z,q,C,o⟩:=qec Tryz.zeroMsg;obtain⟨D,v,t⟩:=Tryz.placesMsg;rw[qcb q v C t];rw[qcw (P:=[]) (z:= .int .i64 0) (R:= .int .u32 0 :: .int .u64 0 :: .int .u64 0::(zv.map (Value.int .u8)++[.int .i64 0,.int .i64 0])) rfl rfl rfl o];rw[qcw (P:=[.int .i64 k,.int .u32 0]) (z:= .int .u64 0) (R:= .int .u64 0::(zv.map (Value.int .u8)++[.int .i64 0,.int .i64 0])) rfl rfl rfl (by rfl)];rw[qe9 (P:=[.int .i64 k,.int .u32 0,.int .u64 l,.int .u64 0]) (A:=H) (Z:=zv.map (Value.int .u8)) (R:=[.int .i64 0,.int .i64 0]) (off:=4) (by rw[h];rfl) rfl (by rw[h];rfl) (by rfl)];rw[Instr.fill];simp
theorem qq2(k i:Int)(h:List Int)(l:h.length=32)(w:World):(qkt #[(0,.int .i64 k),(2,.int .u64 i),(4,.agg (qx h).toArray)]).run Tryz.prog w = .ok (.agg (MsgV.cells ⟨k,0,i,0,h,0,0⟩).toArray) w :=
 run_build w _ _ _ (q5e k i (qx h) (by rw[qa0,l]))
theorem qx3(k i n:Int)(w:World):(qkt #[(0,.int .i64 k),(2,.int .u64 i),(6,.int .i64 n)]).run Tryz.prog w = .ok (.agg (MsgV.cells ⟨k,0,i,0,zv,0,n⟩).toArray) w:=run_build w _ _ _ (by kernel_rfl)
section
variable {w:World}{g:Nat}{S:Nat→Prop}{c:Ch}{lv nv av:Value}
theorem ChP.putSigned(h:ChP w g S c lv nv av)(n:Int)(i:0≤n∧n≤65535):ChP (w.setCell ⟨g,37,none⟩ (.int .i64 n)) g S {c with k:= {c.k with signed:=n}} lv nv av :=
 h.put (q3c c lv nv av h.ok.s.seed n) ⟨h.ok.s,i,h.ok.heard,h.ok.nextOwn,h.ok.nextTheirs,h.ok.loc,h.ok.rem,h.ok.xs,h.ok.few,h.ok.shelf,h.ok.news,h.ok.last,h.ok.many⟩ rfl rfl rfl
theorem ChP.putHeard(h:ChP w g S c lv nv av)(n:Int)(i:0≤n∧n<4294967296):ChP (w.setCell ⟨g,38,none⟩ (.int .i64 n)) g S {c with k:= {c.k with heard:=n}} lv nv av :=
 h.put (q7u c lv nv av h.ok.s.seed n) ⟨h.ok.s,h.ok.signed,i,h.ok.nextOwn,h.ok.nextTheirs,h.ok.loc,h.ok.rem,h.ok.xs,h.ok.few,h.ok.shelf,h.ok.news,h.ok.last,h.ok.many⟩ rfl rfl rfl
theorem ChP.putAwaits(h:ChP w g S c lv nv av)(b:Bool):ChP (w.setCell ⟨g,39,none⟩ (.bool b)) g S {c with k:= {c.k with awaits:=b}} lv nv av :=
 h.put (q29 c lv nv av h.ok.s.seed b) ⟨h.ok.s,h.ok.signed,h.ok.heard,h.ok.nextOwn,h.ok.nextTheirs,h.ok.loc,h.ok.rem,h.ok.xs,h.ok.few,h.ok.shelf,h.ok.news,h.ok.last,h.ok.many⟩ rfl rfl rfl
theorem ChP.putShutHeard(h:ChP w g S c lv nv av)(b:Bool):ChP (w.setCell ⟨g,43,none⟩ (.bool b)) g S {c with k:= {c.k with shutHeard:=b}} lv nv av :=
 h.put (qto c lv nv av h.ok.s.seed b) ⟨h.ok.s,h.ok.signed,h.ok.heard,h.ok.nextOwn,h.ok.nextTheirs,h.ok.loc,h.ok.rem,h.ok.xs,h.ok.few,h.ok.shelf,h.ok.news,h.ok.last,h.ok.many⟩ rfl rfl rfl
theorem ChP.putRevoked(h:ChP w g S c lv nv av)(b:Bool):ChP (w.setCell ⟨g,44,none⟩ (.bool b)) g S {c with k:= {c.k with revoked:=b}} lv nv av :=
 h.put (q0b c lv nv av h.ok.s.seed b) ⟨h.ok.s,h.ok.signed,h.ok.heard,h.ok.nextOwn,h.ok.nextTheirs,h.ok.loc,h.ok.rem,h.ok.xs,h.ok.few,h.ok.shelf,h.ok.news,h.ok.last,h.ok.many⟩ rfl rfl rfl
theorem qje(w:World)(g i:Nat)(v:Value):Upd (· = g) w (w.setCell ⟨g,i,none⟩ v):=(Upd.refl _ _).set1 i v
theorem ChP.seed(h:ChP w g S c lv nv av):zm w g 3 32=some (qx c.s.seed).toArray:=by
 have i:=h.ok.s.seed;have l:3+32≤(c.v lv nv av).cells.toArray.size:=by
  rw[List.size_toArray];unfold ChanV.cells;rw[List.length_append,(c.v lv nv av).setup.len i];omega
 rw[qbz h.at_ 3 32 l];congr 1;apply Array.ext';rw[Array.toList_extract];unfold ChanV.cells;show List.extract (c.s.cells++_) 3 35=qx c.s.seed;unfold SetupV.cells;simp[i,qx]
theorem ChP.key(h:ChP w g S c lv nv av):w.cell? ⟨g,35,none⟩=some (.string c.s.key):=(h.toR.low 35 (by omega)).trans (c.s.c35 h.ok.s.seed)
theorem ChP.peer(h:ChP w g S c lv nv av):w.cell? ⟨g,36,none⟩=some (.string c.s.peer):=(h.toR.low 36 (by omega)).trans (c.s.c36 h.ok.s.seed)
theorem ChP.base(h:ChP w g S c lv nv av):zm w g 45 2=some #[.int .u64 c.loc,.int .u64 c.rem]:=by
 have o:=h.ok.s.seed;have l:(c.v lv nv av).cells=c.s.cells++(c.k.cells++([.int .u64 c.loc,.int .u64 c.rem]++(lv::((c.v lv nv av).told++[nv,av])))):=rfl;have i:c.s.cells.length=37:=c.s.len o;have q:45+2≤(c.v lv nv av).cells.toArray.size:=by
  rw[List.size_toArray,l,List.length_append,List.length_append,List.length_append,i];show 45+2≤37+(8+(2+_));omega
 rw[qbz h.at_ 45 2 q];congr 1;apply Array.ext';rw[Array.toList_extract,l];show List.extract (c.s.cells++_) 45 47=_;rw[List.extract_eq_take_drop,List.drop_append,i,List.drop_of_length_le (by omega),List.nil_append];show List.take 2 (List.drop 8 (c.k.cells++_))=_;rw[List.drop_append_of_le_length (by show 8≤8;omega)];rfl
end
def zfd(x:Value):Sem Value:=Instr.loadAt 42 x
theorem qpm(x:Value):Instr.loadAt 42 x=zfd x:=rfl
theorem zar(b o:Nat)(w:World):(zfd (.pointer (some ⟨b,o,none⟩))).run Tryz.prog w=match zm w b o 2 with | some A=> .ok (.agg A) w | none=>qek Tryz.prog 42 w b o :=
 qae 42 2 _ Tryz.underlying42 rfl Tryz.infoBase b o w
def qc0(base:Nat)(w:World)(v:Value)(ms:List MsgV):Prop:=w.ownsRow base 71 38 v ms.length (ms.flatMap MsgV.cells)
theorem qc0.nil(base:Nat)(w:World):qc0 base w qcd []:=World.ownsRow_nil _ _ _ _
end Go.Proofs.YthnohmjbbeahmaaGreatDoor
namespace Go.Proofs.YthnohmjbbeahmaaGreatDoor
open Go.RowKit Go.Shelf
attribute [local go_sem] Oper.semAt_some
def hiB(i d k:Nat):List Nat:=((List.range' k (d-k)).reverse).filter fun b=>i.testBit b
theorem zdz(i d:Nat):hiB i d d=[]:=by simp[hiB]
theorem qy2{i d k:Nat}(h:k<d):hiB i d k=hiB i d (k+1)++(if i.testBit k then [k] else []):=by
 unfold hiB;rw[show d-k=(d-(k+1))+1 by omega,List.range'_succ,List.reverse_cons,List.filter_append];cases g:i.testBit k<;>simp[g]
theorem qrp{i d:Nat} : ∀ {k:Nat},k≤d→hiB i d k <+: hiB i d 0
 | 0,_=>List.prefix_refl _
 | k+1,h=>by
  refine List.IsPrefix.trans ?_ (qrp (k:=k) (by omega));rw[qy2 (show k<d by omega)];exact List.prefix_append _ _
def hiF(i d k:Nat):List (Fin 16):=(hiB i d k).map (Fin.ofNat 16)
theorem zd0(i d:Nat):hiF i d d=[]:=by unfold hiF;rw[zdz];rfl
theorem zac{i d k:Nat}(h:k<d)(g:k<16):hiF i d k=hiF i d (k+1)++(if i.testBit k then [⟨k,g⟩] else []):=by
 unfold hiF;rw[qy2 h,List.map_append];have e:Fin.ofNat 16 k=⟨k,g⟩:=Fin.ext (Nat.mod_eq_of_lt g);cases i.testBit k<;>simp[e]
theorem q12{i d k:Nat}(h:k≤d):hiF i d k <+: hiF i d 0:=by
 obtain⟨r,g⟩:=qrp (i:=i) h;exact⟨r.map (Fin.ofNat 16),by unfold hiF;rw[←List.map_append,g]⟩
theorem zd1{i d:Nat}(hd:d≤16):(hiF i d 0).map (·.1)=hiB i d 0:=by
 unfold hiF;rw[List.map_map];refine(List.map_congr_left (g:=id) fun b l=> ?_).trans (List.map_id _);have:b<16:=by
  unfold hiB at l;rw[List.mem_filter,List.mem_reverse,List.mem_range'_1] at l;omega
 exact Nat.mod_eq_of_lt this
theorem zeo(i k:Nat):(i:Int) / 2 ^ k=((i / 2 ^ k:Nat):Int):=by
 rw[Int.natCast_ediv];rfl
theorem zc6(x:Nat)(h:x<9223372036854775808):bits .and .i64 (x:Int) 1=((x%2:Nat):Int):=by
 show IntKind.i64.wrap ((BitVec.ofInt 64 (x:Int) &&& BitVec.ofInt 64 (1:Int)).toNat:Int)=_;rw[BitVec.toNat_and,qzm _ (by omega),show (BitVec.ofInt 64 (1:Int)).toNat=1 from rfl,Nat.and_one_is_mod,qwh _ (by omega)]
theorem q8z(i k:Nat)(h:i<65536):(bits .and .i64 ((i:Int) / 2 ^ k) 1==1)=i.testBit k:=by
 have g:i / 2 ^ k<65536:=Nat.lt_of_le_of_lt (Nat.div_le_self _ _) h;rw[zeo,zc6 _ (by omega),Nat.testBit_eq_decide_div_mod_eq];rcases Nat.mod_two_eq_zero_or_one (i / 2 ^ k) with e | e<;>rw[e]<;>rfl
def KpB(B:Nat)(W g:World):Prop:=∀v,W.cell? ⟨B,0,none⟩=some v→g.cell? ⟨B,0,none⟩=some v
set_option maxRecDepth 100000 in
set_option maxHeartbeats 2000000 in
theorem zbi(F:Fence)(n:Nat)(Y:F.fn 149)(N:F.round=none)(hn:1≤n)(l Bd Bi:Nat)(i d:Nat)(hi:i<65536)(hd:d≤16)(J Jx:List (Fin 16)→World→Prop)
  (hY:∀pre x W,J pre W→pre.length<16→YieldAt F (n-1) Tryz.prog l #[.int .i64 (x.1:Nat)] W fun e t =>
   (e = .returned (.bool true)∧J (pre++[x]) t∧KpB Bi W t)∨(e = .returned (.bool false)∧Jx (pre++[x]) t))
  (W:World) (Z:W.cell? ⟨Bd,0,none⟩=some (.int .i64 d)) (I:W.cell? ⟨Bi,0,none⟩=some (.int .i64 i)) (X:J [] W) :
  CallsIn F n Tryz.prog 149 #[.func (.yield l) #[] #[],.pointer (some ⟨Bd,0,none⟩),.pointer (some ⟨Bi,0,none⟩)] W fun e t=>(∃v,e = .returned v) ∧
   ((∃U,U=hiF i d 0∧J U t)∨(∃pre,pre <+: hiF i d 0∧Jx pre t)):=by
 refine callsIn_of_wp Tryz.func149 rfl Y ?_ N
 simp only[Tryz.ntmps149,List.size_toArray,List.length_cons,List.length_nil,Nat.reduceAdd,Nat.reduceSub,Array.replicate_succ,Array.replicate_zero,List.push_toArray,List.append_toArray,List.nil_append,List.cons_append]
 have hw:IntKind.i64.wrap ((d:Int)-1)=(d:Int)-1:=by rw[IntKind.wrap_i64];omega
 gi_wp2
 gi_loopw [4] (fun p wr=>∃k:Nat,p = .int .i64 ((k:Int)-1)∧k≤d∧J (hiF i d k) wr∧wr.cell? ⟨Bi,0,none⟩=some (.int .i64 i)) (fun p wr=>(intOf p+1).toNat)
 case atStart=>exact⟨d,by simp,Nat.le_refl _,by rw[zd0];exact X,I⟩
 case round =>
  obtain⟨k,rfl,hk,H,q⟩:=hrel;cases k with
  | zero =>
   gi_wp2;go_end0;exact⟨⟨_,rfl⟩,.inl ⟨hiF i d 0,rfl,H⟩⟩
  | succ k =>
   have L:((k+1:Nat):Int)-1=(k:Int):=by omega
   rw[L];have a4:(0:Int)≤(k:Int):=by omega
   have D:(hiF i d (k+1)).length<16:=by
    unfold hiF hiB;rw[List.length_map];refine Nat.lt_of_le_of_lt (List.length_filter_le _ _) ?_;simp;omega
   obtain⟨fn,tmps,E,P,T,R⟩:=hY (hiF i d (k+1)) ⟨k,by omega⟩ wr H D;dsimp only at T;have m:=q8z i k hi;have g:=zac (i:=i) (show k<d from hk) (by omega);cases o:i.testBit k with
   | true =>
    rw[o,if_pos rfl] at g;rw[o] at m;have w:=qb g;clear g;gi_wp2;refine R.mono ?_;rintro e V (⟨rfl,K,M⟩ | ⟨rfl,C⟩)
    ·have z:V.cell? ⟨Bi,0,none⟩=some (.int .i64 i):=M _ q;have O:IntKind.i64.wrap ((k:Int)-1)=(k:Int)-1:=by rw[IntKind.wrap_i64];omega
     gi_wp2;go_roundw
     case rel=>exact⟨k,rfl,by omega,by rw[qa w];exact K,z⟩
     case measure=>simp[intOf]
    ·gi_wp2;refine bodyPost_ret (results_none rfl _ _ _) rfl ?_;refine⟨⟨_,rfl⟩,.inr ⟨hiF i d (k+1)++[⟨k,by omega⟩],?_,C⟩⟩;rw[←qa w];exact q12 (by omega)
   | false =>
    rw[o,if_neg (by simp),List.append_nil] at g;rw[o] at m;have O:IntKind.i64.wrap ((k:Int)-1)=(k:Int)-1:=by rw[IntKind.wrap_i64];omega
    rw[←g] at H;clear g R T;gi_wp2;refine⟨fun _ h=>(by cases h),?_⟩;gi_wp2;go_roundw
    case rel=>exact⟨k,rfl,by omega,H,q⟩
    case measure=>simp[intOf]
end Go.Proofs.YthnohmjbbeahmaaGreatDoor
namespace Go.Proofs.YthnohmjbbeahmaaGreatDoor
open Go.RowKit
def qbd(k:IntKind)(w:World)(b:Nat)(ws:List Int):Prop:=∃T,w.heap[b]? = some (.cells (ws.map (Value.int k)).toArray T (0,0))
theorem qbd.cell{k:IntKind}{w:World}{b:Nat}{ws:List Int}(h:qbd k w b ws){i:Nat}(g:i<ws.length):w.cell? ⟨b,i,none⟩=some (.int k (ws.getD i 0)):=by
 obtain⟨T,h⟩:=h;rw[qh h,List.getElem?_toArray,List.getElem?_map,List.getElem?_eq_getElem g,List.getD_eq_getElem?_getD,List.getElem?_eq_getElem g];rfl
theorem qbd.free{k:IntKind}{w:World}{b:Nat}{ws:List Int}(h:qbd k w b ws)(i:Nat):w.frozen? ⟨b,i,none⟩=false:=by
 obtain⟨T,h⟩:=h;exact qv h i
theorem qbd.set{k:IntKind}{w:World}{b:Nat}{ws:List Int}(h:qbd k w b ws)(i:Nat)(v:Int):qbd k (w.setCell ⟨b,i,none⟩ (.int k v)) b (ws.set i v):=by
 obtain⟨T,h⟩:=h;refine⟨T,(z7 h i _).trans ?_⟩;simp[List.map_set]
theorem qbd.upd{S:Nat→Prop}{k:IntKind}{w w':World}{b:Nat}{ws:List Int}(h:qbd k w b ws)(u:Upd S w w')(g:¬S b):qbd k w' b ws:=by
 obtain⟨T,h⟩:=h;exact⟨T,u.old h g⟩
theorem qbd.q{k:IntKind}{w w':World}{b:Nat}{ws:List Int}(h:qbd k w b ws)(q:Q w w'):qbd k w' b ws:=h.upd (q.upd (fun _=>False)) (fun h=>h)
theorem qbd.lt{k:IntKind}{w:World}{b:Nat}{ws:List Int}(h:qbd k w b ws):b<w.heap.size:=by
 obtain⟨T,h⟩:=h;exact z6 h
def qcy(x n:Int):Int:=bits .or .u32 (x / 2 ^ n.toNat) (x*2 ^ (32-n).toNat%4294967296)
def qca(x:Int)(g:List Int):Int:=g.foldl (fun a n=>bits .xor .u32 a (qcy x n)) 0
theorem qb6(g:BinOp)(x y:Int):0≤bits g .u32 x y∧bits g .u32 x y<4294967296:=by
 have h:=wf_bits g .u32 x y;simp[Lit.wf,IntKind.min,IntKind.max,IntKind.signed,IntKind.bits] at h;omega
theorem ql8(x:Int)(g:List Int):0≤qca x g∧qca x g<4294967296:=by
 unfold qca;have key:∀(g:List Int) (a:Int),0≤a∧a<4294967296→0≤g.foldl (fun a n=>bits .xor .u32 a (qcy x n)) a∧g.foldl (fun a n=>bits .xor .u32 a (qcy x n)) a<4294967296:=by
  intro g
  induction g with
  | nil=>intro a h;exact h
  | cons n g i=>intro a _;exact i _ (qb6 ..)
 exact key g 0 (by omega)
theorem q0p(x:Int)(g:List Int)(n:Int):qca x (g++[n])=bits .xor .u32 (qca x g) (qcy x n):=by simp[qca]
set_option maxHeartbeats 1000000 in
theorem qu9(x:Int)(g:List Int)(b c:Nat)(w:World)(v:∀n∈g,0<n∧n<32)(J:g.length≤8)(K:0≤x)(H:x<4294967296)(E:qbd .u64 w b g) :
  Calls Tryz.prog 143 #[.int .u32 x,.slice (some ⟨b,0,none⟩) g.length c] w (qce (.int .u32 (qca x g)) w):=by
 go_enter Tryz.func143,Tryz.ntmps143
 go_wp2_with fail
 go_loopw [5,7,10] (fun s _ z wr=>∃k:Nat,z = .int .i64 (k:Int)∧k≤g.length∧s = .int .u32 (qca x (g.take k))∧wr=w) (fun _ _ z _=>g.length-(intOf z).toNat)
 case atStart=>exact⟨0,rfl,Nat.zero_le _,rfl,rfl⟩
 case round =>
  obtain⟨k,rfl,I,rfl,rfl⟩:=hrel;by_cases i:k<g.length
  ·have C:=E.cell i;obtain⟨q,t⟩:=v (g.getD k 0) (by rw[List.getD_eq_getElem?_getD,List.getElem?_eq_getElem i];exact List.getElem_mem i);have l:=q0p x (g.take k) (g.getD k 0);rw[show g.take k++[g.getD k 0]=g.take (k+1) by rw[List.take_add_one,List.getD_eq_getElem?_getD,List.getElem?_eq_getElem i];rfl] at l;obtain⟨D,o⟩:=ql8 x (g.take k);unfold qcy at l;have m:=qb l;have F:(k:Int)<(g.length:Int):=by omega
   clear l;generalize g.getD k 0=n at C q t m;generalize qca x (g.take k)=a at D o m ⊢;go_wp2;go_roundw
   case rel=>exact⟨k+1,by go_num,by omega,by rw[qa m],trivial⟩
   case measure=>simp[intOf];omega
  ·obtain rfl:k=g.length:=by omega
   rw[List.take_length];go_wp2;go_ret;exact⟨rfl,Q.refl _⟩
theorem qva(x i l:Int)(g:Nat)(T:TypeId)(w:World)(q:0<i∧i<32)(t:0<l∧l<32)(z:0≤x)(m:x<4294967296)(v:w.heap[g]? = some (.cells #[.int .u64 i,.int .u64 l] T (0,0))) :
  Calls Tryz.prog 143 #[.int .u32 x,.slice (some ⟨g,0,none⟩) 2 2] w (qce (.int .u32 (qca x [i,l])) w) :=
 qu9 x [i,l] g 2 w (by intro n o;simp only[List.mem_cons,List.not_mem_nil,or_false] at o;rcases o with rfl | rfl;exact q;exact t) (by simp) z m ⟨T,v⟩
theorem qp0(x i l m:Int)(g:Nat)(T:TypeId)(w:World)(t:0<i∧i<32)(v:0<l∧l<32)(z:0<m∧m<32)(D:0≤x)(o:x<4294967296)(C:w.heap[g]? = some (.cells #[.int .u64 i,.int .u64 l,.int .u64 m] T (0,0))) :
  Calls Tryz.prog 143 #[.int .u32 x,.slice (some ⟨g,0,none⟩) 3 3] w (qce (.int .u32 (qca x [i,l,m])) w) :=
 qu9 x [i,l,m] g 3 w (by intro n q;simp only[List.mem_cons,List.not_mem_nil,or_false] at q;rcases q with rfl | rfl | rfl;exact t;exact v;exact z) (by simp) D o ⟨T,C⟩
end Go.Proofs.YthnohmjbbeahmaaGreatDoor
