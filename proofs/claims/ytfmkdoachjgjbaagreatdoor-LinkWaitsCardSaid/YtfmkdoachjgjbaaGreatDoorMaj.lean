/-
  Helpers for an end's calls: messages in blocks of their own, cells put, a channel's seed; messages built of parts.
-/
import Derived.Test.YtfmkdoachjgjbaaGreatDoorMai
import Derived.Test.YtfmkdoachjgjbaaGreatDoorMaf
import Derived.Test.YtfmkdoachjgjbaaGreatDoorProg
import Derived.Test.YtfmkdoachjgjbaaGreatDoorMaa
import Derived.RangeFuncNested
import Derived.RangeFuncBound
import Derived.RangeFuncCalls
import Derived.RangeFuncLeaves
import Derived.Shelf.Abstract
import Derived.Shelf.RegionOpen
import Derived.WalkKit
import Derived.OwnWalkIn
import Derived.TacticsInMore
import Derived.LoopNIn
import Derived.LoopIn
import Derived.Test.YtfmkdoachjgjbaaGreatDoorMac
import Derived.Test.YtfmkdoachjgjbaaGreatDoorTxt
import Derived.Lib.TrailingZeros
import Derived.Laws.Bits64b
import Derived.ProofKit
import Derived.OpenShut
import Derived.ShutString
import Derived.ChangeOld
import Derived.Deep.Slices
set_option maxRecDepth 100000
set_option maxHeartbeats 2000000
set_option linter.unusedVariables false
set_option linter.unusedSimpArgs false
namespace Go.Proofs.YtfmkdoachjgjbaaGreatDoor
section
open Go.RowKit
structure MsB(w:World)(b:Nat)(m:MsgV):Prop where
 at_:w.heap[b]? = some (.cells m.cells.toArray 101 (0,0))
 len:m.hash.length=32
section
variable {S:Nat→Prop}{w w':World}{b:Nat}{m:MsgV}
theorem MsB.upd(a:MsB w b m)(u:Upd S w w')(n:¬S b):MsB w' b m:=⟨u.old a.at_ n,a.len⟩
theorem MsB.new(a:MsB w b m)(u:qu w w'):MsB w' b m:=a.upd u (fun h=>h)
theorem MsB.lt(a:MsB w b m):b<w.heap.size:=zr a.at_
theorem MsB.row(a:MsB w b m):zj w b 0 38=some m.cells.toArray:=qai a.at_ 38 (by rw[List.size_toArray,m.len a.len])
theorem MsB.stOk(a:MsB w b m){k:MsgV}(f:k.hash.length=32):stOk w b 0 38 k.cells.toArray=true:=by
 have:=qej a.at_ (A:=k.cells) (by rw[List.size_toArray,m.len a.len,k.len f]) k.one;rwa [List.size_toArray,m.len a.len] at this
theorem MsB.put(a:MsB w b m){k:MsgV}(f:k.hash.length=32):MsB (w.setCells b 0 k.cells) b k:=by
 refine⟨?_,f⟩;rw[qa3 a.at_ 0 _,qcv _ _ (by rw[List.size_toArray,m.len a.len,k.len f])]
theorem MsB.cells(a:MsB w b m):w.cell? ⟨b,0,none⟩=some (.int .i64 m.kind)∧w.cell? ⟨b,1,none⟩=some (.int .u32 m.ch)∧w.cell? ⟨b,2,none⟩=some (.int .u64 m.id)∧w.cell? ⟨b,3,none⟩=some (.int .u64 m.amount)∧w.cell? ⟨b,36,none⟩=some (.int .i64 m.expiry)∧w.cell? ⟨b,37,none⟩=some (.int .i64 m.number)∧zj w b 4 32=some (qs m.hash).toArray:=qso m a.at_ a.len
end
theorem qan(w:World)(m:MsgV)(f:m.hash.length=32):MsB (w.alloc (.cells m.cells.toArray 101)) w.heap.size m:=⟨qh _ _,f⟩
def qjz(w:World)(k:MsgV):World:=(w.alloc (.cells MsgV.zero.cells.toArray 101)).setCells w.heap.size 0 k.cells
theorem qi3(w:World)(k:MsgV)(p:k.hash.length=32):stOk (w.alloc (.cells MsgV.zero.cells.toArray 101)) w.heap.size 0 38 k.cells.toArray=true∧MsB (qjz w k) w.heap.size k∧qu w (qjz w k):=by
 have f:=qan w MsgV.zero ql;exact⟨f.stOk p,f.put p,(((Upd.refl (fun _=>False) w).alloc _)).then (qx _) (fun i q e=>by omega)⟩
theorem MsB.agg{w:World}{b:Nat}{m:MsgV}(a:MsB w b m):m.cells.toArray.size=38:=by rw[List.size_toArray,m.len a.len]
theorem qz7(k n:Int)(H:List Value)(h:H.length=32):Tryz.prog.built 101 [(0,.int .i64 k),(6,.int .i64 n),(4,.agg H.toArray)]=some (.int .i64 k :: .int .u32 0 :: .int .u64 0 :: .int .u64 0::(H++[.int .i64 0,.int .i64 n])).toArray:=by
 obtain⟨i,z,p,C,f⟩:=qcn Tryz.zeroMsg;obtain⟨E,v,q⟩:=Tryz.placesMsg;rw[qbl p v C q];rw[qb1 (P:=[]) (z:= .int .i64 0) (R:= .int .u32 0 :: .int .u64 0 :: .int .u64 0::(ze.map (Value.int .u8)++[.int .i64 0,.int .i64 0])) rfl rfl rfl f];rw[qb1 (P:= .int .i64 k :: .int .u32 0 :: .int .u64 0 :: .int .u64 0::(ze.map (Value.int .u8)++[.int .i64 0])) (z:= .int .i64 0) (R:=[]) rfl rfl rfl (by rfl)];rw[qc3 (P:=[.int .i64 k,.int .u32 0,.int .u64 0,.int .u64 0]) (A:=H) (Z:=ze.map (Value.int .u8)) (R:=[.int .i64 0,.int .i64 n]) (off:=4) (by rw[h];rfl) rfl (by rw[h];rfl) (by rfl)];rw[Instr.fill];simp
theorem qwe(k n:Int)(h:List Int)(f:h.length=32)(w:World):(qis #[(0,.int .i64 k),(6,.int .i64 n),(4,.agg (qs h).toArray)]).run Tryz.prog w = .ok (.agg (MsgV.cells ⟨k,0,0,0,h,0,n⟩).toArray) w :=
 run_build w _ _ _ (qz7 k n (qs h) (by rw[qaj,f]))
theorem qz6(k c n:Int)(H:List Value)(h:H.length=32):Tryz.prog.built 101 [(0,.int .i64 k),(1,.int .u32 c),(6,.int .i64 n),(4,.agg H.toArray)]=some (.int .i64 k :: .int .u32 c :: .int .u64 0 :: .int .u64 0::(H++[.int .i64 0,.int .i64 n])).toArray:=by
 obtain⟨i,z,p,C,f⟩:=qcn Tryz.zeroMsg;obtain⟨E,v,q⟩:=Tryz.placesMsg;rw[qbl p v C q];rw[qb1 (P:=[]) (z:= .int .i64 0) (R:= .int .u32 0 :: .int .u64 0 :: .int .u64 0::(ze.map (Value.int .u8)++[.int .i64 0,.int .i64 0])) rfl rfl rfl f];rw[qb1 (P:=[.int .i64 k]) (z:= .int .u32 0) (R:= .int .u64 0 :: .int .u64 0::(ze.map (Value.int .u8)++[.int .i64 0,.int .i64 0])) rfl rfl rfl (by rfl)];rw[qb1 (P:= .int .i64 k :: .int .u32 c :: .int .u64 0 :: .int .u64 0::(ze.map (Value.int .u8)++[.int .i64 0])) (z:= .int .i64 0) (R:=[]) rfl rfl rfl (by rfl)];rw[qc3 (P:=[.int .i64 k,.int .u32 c,.int .u64 0,.int .u64 0]) (A:=H) (Z:=ze.map (Value.int .u8)) (R:=[.int .i64 0,.int .i64 n]) (off:=4) (by rw[h];rfl) rfl (by rw[h];rfl) (by rfl)];rw[Instr.fill];simp
theorem qwd(k c n:Int)(h:List Int)(f:h.length=32)(w:World):(qis #[(0,.int .i64 k),(1,.int .u32 c),(6,.int .i64 n),(4,.agg (qs h).toArray)]).run Tryz.prog w = .ok (.agg (MsgV.cells ⟨k,c,0,0,h,0,n⟩).toArray) w :=
 run_build w _ _ _ (qz6 k c n (qs h) (by rw[qaj,f]))
theorem qz3(k f:Int)(H:List Value)(h:H.length=32):Tryz.prog.built 101 [(0,.int .i64 k),(2,.int .u64 f),(4,.agg H.toArray)]=some (.int .i64 k :: .int .u32 0 :: .int .u64 f :: .int .u64 0::(H++[.int .i64 0,.int .i64 0])).toArray:=by
 obtain⟨i,z,q,E,p⟩:=qcn Tryz.zeroMsg;obtain⟨F,C,v⟩:=Tryz.placesMsg;rw[qbl q C E v];rw[qb1 (P:=[]) (z:= .int .i64 0) (R:= .int .u32 0 :: .int .u64 0 :: .int .u64 0::(ze.map (Value.int .u8)++[.int .i64 0,.int .i64 0])) rfl rfl rfl p];rw[qb1 (P:=[.int .i64 k,.int .u32 0]) (z:= .int .u64 0) (R:= .int .u64 0::(ze.map (Value.int .u8)++[.int .i64 0,.int .i64 0])) rfl rfl rfl (by rfl)];rw[qc3 (P:=[.int .i64 k,.int .u32 0,.int .u64 f,.int .u64 0]) (A:=H) (Z:=ze.map (Value.int .u8)) (R:=[.int .i64 0,.int .i64 0]) (off:=4) (by rw[h];rfl) rfl (by rw[h];rfl) (by rfl)];rw[Instr.fill];simp
theorem qn1(k f:Int)(h:List Int)(i:h.length=32)(w:World):(qis #[(0,.int .i64 k),(2,.int .u64 f),(4,.agg (qs h).toArray)]).run Tryz.prog w = .ok (.agg (MsgV.cells ⟨k,0,f,0,h,0,0⟩).toArray) w :=
 run_build w _ _ _ (qz3 k f (qs h) (by rw[qaj,i]))
theorem qtk(k f n:Int)(w:World):(qis #[(0,.int .i64 k),(2,.int .u64 f),(6,.int .i64 n)]).run Tryz.prog w = .ok (.agg (MsgV.cells ⟨k,0,f,0,ze,0,n⟩).toArray) w:=run_build w _ _ _ (by kernel_rfl)
section
variable {w:World}{g:Nat}{S:Nat→Prop}{c:Ch}{lv nv av:Value}
theorem ChP.putSigned(h:ChP w g S c lv nv av)(n:Int)(f:0≤n∧n≤65535):ChP (w.setCell ⟨g,37,none⟩ (.int .i64 n)) g S {c with k:= {c.k with signed:=n}} lv nv av :=
 h.put (qx9 c lv nv av h.ok.s.seed n) ⟨h.ok.s,f,h.ok.heard,h.ok.nextOwn,h.ok.nextTheirs,h.ok.loc,h.ok.rem,h.ok.xs,h.ok.few,h.ok.shelf,h.ok.news,h.ok.last,h.ok.many⟩ rfl rfl rfl
theorem ChP.putHeard(h:ChP w g S c lv nv av)(n:Int)(f:0≤n∧n<4294967296):ChP (w.setCell ⟨g,38,none⟩ (.int .i64 n)) g S {c with k:= {c.k with heard:=n}} lv nv av :=
 h.put (q3c c lv nv av h.ok.s.seed n) ⟨h.ok.s,h.ok.signed,f,h.ok.nextOwn,h.ok.nextTheirs,h.ok.loc,h.ok.rem,h.ok.xs,h.ok.few,h.ok.shelf,h.ok.news,h.ok.last,h.ok.many⟩ rfl rfl rfl
theorem ChP.putAwaits(h:ChP w g S c lv nv av)(b:Bool):ChP (w.setCell ⟨g,39,none⟩ (.bool b)) g S {c with k:= {c.k with awaits:=b}} lv nv av :=
 h.put (qx8 c lv nv av h.ok.s.seed b) ⟨h.ok.s,h.ok.signed,h.ok.heard,h.ok.nextOwn,h.ok.nextTheirs,h.ok.loc,h.ok.rem,h.ok.xs,h.ok.few,h.ok.shelf,h.ok.news,h.ok.last,h.ok.many⟩ rfl rfl rfl
theorem ChP.putShutHeard(h:ChP w g S c lv nv av)(b:Bool):ChP (w.setCell ⟨g,43,none⟩ (.bool b)) g S {c with k:= {c.k with shutHeard:=b}} lv nv av :=
 h.put (qp0 c lv nv av h.ok.s.seed b) ⟨h.ok.s,h.ok.signed,h.ok.heard,h.ok.nextOwn,h.ok.nextTheirs,h.ok.loc,h.ok.rem,h.ok.xs,h.ok.few,h.ok.shelf,h.ok.news,h.ok.last,h.ok.many⟩ rfl rfl rfl
theorem ChP.putRevoked(h:ChP w g S c lv nv av)(b:Bool):ChP (w.setCell ⟨g,44,none⟩ (.bool b)) g S {c with k:= {c.k with revoked:=b}} lv nv av :=
 h.put (qvk c lv nv av h.ok.s.seed b) ⟨h.ok.s,h.ok.signed,h.ok.heard,h.ok.nextOwn,h.ok.nextTheirs,h.ok.loc,h.ok.rem,h.ok.xs,h.ok.few,h.ok.shelf,h.ok.news,h.ok.last,h.ok.many⟩ rfl rfl rfl
theorem qj1(w:World)(g i:Nat)(v:Value):Upd (· = g) w (w.setCell ⟨g,i,none⟩ v):=(Upd.refl _ _).set1 i v
theorem ChP.seed(h:ChP w g S c lv nv av):zj w g 3 32=some (qs c.s.seed).toArray:=by
 have f:=h.ok.s.seed;have i:3+32≤(c.v lv nv av).cells.toArray.size:=by
  rw[List.size_toArray];unfold ChanV.cells;rw[List.length_append,(c.v lv nv av).setup.len f];omega
 rw[qbx h.at_ 3 32 i];congr 1;apply Array.ext';rw[Array.toList_extract];unfold ChanV.cells;show List.extract (c.s.cells++_) 3 35=qs c.s.seed;unfold SetupV.cells;simp[f,qs]
theorem ChP.key(h:ChP w g S c lv nv av):w.cell? ⟨g,35,none⟩=some (.string c.s.key):=(h.toR.low 35 (by omega)).trans (c.s.c35 h.ok.s.seed)
theorem ChP.peer(h:ChP w g S c lv nv av):w.cell? ⟨g,36,none⟩=some (.string c.s.peer):=(h.toR.low 36 (by omega)).trans (c.s.c36 h.ok.s.seed)
theorem ChP.base(h:ChP w g S c lv nv av):zj w g 45 2=some #[.int .u64 c.loc,.int .u64 c.rem]:=by
 have p:=h.ok.s.seed;have i:(c.v lv nv av).cells=c.s.cells++(c.k.cells++([.int .u64 c.loc,.int .u64 c.rem]++(lv::((c.v lv nv av).told++[nv,av])))):=rfl;have f:c.s.cells.length=37:=c.s.len p;have q:45+2≤(c.v lv nv av).cells.toArray.size:=by
  rw[List.size_toArray,i,List.length_append,List.length_append,List.length_append,f];show 45+2≤37+(8+(2+_));omega
 rw[qbx h.at_ 45 2 q];congr 1;apply Array.ext';rw[Array.toList_extract,i];show List.extract (c.s.cells++_) 45 47=_;rw[List.extract_eq_take_drop,List.drop_append,f,List.drop_of_length_le (by omega),List.nil_append];show List.take 2 (List.drop 8 (c.k.cells++_))=_;rw[List.drop_append_of_le_length (by show 8≤8;omega)];rfl
end
def za2(x:Value):Sem Value:=Instr.loadAt 59 x
theorem qmm(x:Value):Instr.loadAt 59 x=za2 x:=rfl
theorem q6m(b o:Nat)(w:World):(za2 (.pointer (some ⟨b,o,none⟩))).run Tryz.prog w=match zj w b o 2 with | some A=> .ok (.agg A) w | none=>qc6 Tryz.prog 59 w b o :=
 zy 59 2 _ Tryz.underlying59 rfl Tryz.infoBase b o w
def qb3(base:Nat)(w:World)(v:Value)(f:List MsgV):Prop:=w.ownsRow base 101 38 v f.length (f.flatMap MsgV.cells)
theorem qb3.nil(base:Nat)(w:World):qb3 base w qbw []:=World.ownsRow_nil _ _ _ _
end
section
open Go.RowKit Go.Shelf
attribute [local go_sem] Oper.semAt_some
def hiB(i d k:Nat):List Nat:=((List.range' k (d-k)).reverse).filter fun b=>i.testBit b
theorem q9p(i d:Nat):hiB i d d=[]:=by simp[hiB]
theorem quh{i d k:Nat}(h:k<d):hiB i d k=hiB i d (k+1)++(if i.testBit k then [k] else []):=by
 unfold hiB;rw[show d-k=(d-(k+1))+1 by omega,List.range'_succ,List.reverse_cons,List.filter_append];cases f:i.testBit k<;>simp[f]
theorem qom{i d:Nat} : ∀ {k:Nat},k≤d→hiB i d k <+: hiB i d 0
 | 0,_=>List.prefix_refl _
 | k+1,h=>by
  refine List.IsPrefix.trans ?_ (qom (k:=k) (by omega));rw[quh (show k<d by omega)];exact List.prefix_append _ _
def hiF(i d k:Nat):List (Fin 16):=(hiB i d k).map (Fin.ofNat 16)
theorem q9q(i d:Nat):hiF i d d=[]:=by unfold hiF;rw[q9p];rfl
theorem q6a{i d k:Nat}(h:k<d)(f:k<16):hiF i d k=hiF i d (k+1)++(if i.testBit k then [⟨k,f⟩] else []):=by
 unfold hiF;rw[quh h,List.map_append];have e:Fin.ofNat 16 k=⟨k,f⟩:=Fin.ext (Nat.mod_eq_of_lt f);cases i.testBit k<;>simp[e]
theorem qw6{i d k:Nat}(h:k≤d):hiF i d k <+: hiF i d 0:=by
 obtain⟨r,f⟩:=qom (i:=i) h;exact⟨r.map (Fin.ofNat 16),by unfold hiF;rw[←List.map_append,f]⟩
theorem q9r{i d:Nat}(hd:d≤16):(hiF i d 0).map (·.1)=hiB i d 0:=by
 unfold hiF;rw[List.map_map];refine(List.map_congr_left (g:=id) fun b f=> ?_).trans (List.map_id _);have:b<16:=by
  unfold hiB at f;rw[List.mem_filter,List.mem_reverse,List.mem_range'_1] at f;omega
 exact Nat.mod_eq_of_lt this
theorem zad(i k:Nat):(i:Int) / 2 ^ k=((i / 2 ^ k:Nat):Int):=by
 rw[Int.natCast_ediv];rfl
theorem q8r(x:Nat)(h:x<9223372036854775808):bits .and .i64 (x:Int) 1=((x%2:Nat):Int):=by
 show IntKind.i64.wrap ((BitVec.ofInt 64 (x:Int) &&& BitVec.ofInt 64 (1:Int)).toNat:Int)=_;rw[BitVec.toNat_and,qe9 _ (by omega),show (BitVec.ofInt 64 (1:Int)).toNat=1 from rfl,Nat.and_one_is_mod,qni _ (by omega)]
theorem q4h(i k:Nat)(h:i<65536):(bits .and .i64 ((i:Int) / 2 ^ k) 1==1)=i.testBit k:=by
 have f:i / 2 ^ k<65536:=Nat.lt_of_le_of_lt (Nat.div_le_self _ _) h;rw[zad,q8r _ (by omega),Nat.testBit_eq_decide_div_mod_eq];rcases Nat.mod_two_eq_zero_or_one (i / 2 ^ k) with e | e<;>rw[e]<;>rfl
def KpB(B:Nat)(W f:World):Prop:=∀v,W.cell? ⟨B,0,none⟩=some v→f.cell? ⟨B,0,none⟩=some v
theorem q7b(F:Fence)(n:Nat)(h6:F.fn 232)(S:F.round=none)(hn:1≤n)(l Bd Bi:Nat)(i d:Nat)(hi:i<65536)(hd:d≤16)(J Jx:List (Fin 16)→World→Prop)
  (hY:∀pre x W,J pre W→pre.length<16→YieldAt F (n-1) Tryz.prog l #[.int .i64 (x.1:Nat)] W fun e C =>
   (e = .returned (.bool true)∧J (pre++[x]) C∧KpB Bi W C)∨(e = .returned (.bool false)∧Jx (pre++[x]) C))
  (W:World) (a6:W.cell? ⟨Bd,0,none⟩=some (.int .i64 d)) (N:W.cell? ⟨Bi,0,none⟩=some (.int .i64 i)) (h0:J [] W) :
  CallsIn F n Tryz.prog 232 #[.func (.yield l) #[] #[],.pointer (some ⟨Bd,0,none⟩),.pointer (some ⟨Bi,0,none⟩)] W fun e C=>(∃v,e = .returned v) ∧
   ((∃Y,Y=hiF i d 0∧J Y C)∨(∃pre,pre <+: hiF i d 0∧Jx pre C)):=by
 refine callsIn_of_wp Tryz.func232 rfl h6 ?_ S
 simp only[Tryz.ntmps232,List.size_toArray,List.length_cons,List.length_nil,Nat.reduceAdd,Nat.reduceSub,Array.replicate_succ,Array.replicate_zero,List.push_toArray,List.append_toArray,List.nil_append,List.cons_append]
 have hw:IntKind.i64.wrap ((d:Int)-1)=(d:Int)-1:=by rw[IntKind.wrap_i64];omega
 gi_wp2
 gi_loopw [4] (fun p wr=>∃k:Nat,p = .int .i64 ((k:Int)-1)∧k≤d∧J (hiF i d k) wr∧wr.cell? ⟨Bi,0,none⟩=some (.int .i64 i)) (fun p wr=>(intOf p+1).toNat)
 case atStart=>exact⟨d,by simp,Nat.le_refl _,by rw[q9q];exact h0,N⟩
 case round =>
  obtain⟨k,rfl,hk,M,z⟩:=hrel;cases k with
  | zero =>
   gi_wp2;go_end0;exact⟨⟨_,rfl⟩,.inl ⟨hiF i d 0,rfl,M⟩⟩
  | succ k =>
   have P:((k+1:Nat):Int)-1=(k:Int):=by omega
   rw[P];have a7:(0:Int)≤(k:Int):=by omega
   have K:(hiF i d (k+1)).length<16:=by
    unfold hiF hiB;rw[List.length_map];refine Nat.lt_of_le_of_lt (List.length_filter_le _ _) ?_;simp;omega
   obtain⟨fn,tmps,L,U,X,V⟩:=hY (hiF i d (k+1)) ⟨k,by omega⟩ wr M K;dsimp only at X;have m:=q4h i k hi;have f:=q6a (i:=i) (show k<d from hk) (by omega);cases q:i.testBit k with
   | true =>
    rw[q,if_pos rfl] at f;rw[q] at m;have E:=qb f;clear f;gi_wp2;refine V.mono ?_;rintro e Z (⟨rfl,O,R⟩ | ⟨rfl,I⟩)
    ·have H:Z.cell? ⟨Bi,0,none⟩=some (.int .i64 i):=R _ z;have T:IntKind.i64.wrap ((k:Int)-1)=(k:Int)-1:=by rw[IntKind.wrap_i64];omega
     gi_wp2;go_roundw
     case rel=>exact⟨k,rfl,by omega,by rw[qa E];exact O,H⟩
     case measure=>simp[intOf]
    ·gi_wp2;refine bodyPost_ret (results_none rfl _ _ _) rfl ?_;refine⟨⟨_,rfl⟩,.inr ⟨hiF i d (k+1)++[⟨k,by omega⟩],?_,I⟩⟩;rw[←qa E];exact qw6 (by omega)
   | false =>
    rw[q,if_neg (by simp),List.append_nil] at f;rw[q] at m;have T:IntKind.i64.wrap ((k:Int)-1)=(k:Int)-1:=by rw[IntKind.wrap_i64];omega
    rw[←f] at M;clear f V X;gi_wp2;refine⟨fun _ h=>(by cases h),?_⟩;gi_wp2;go_roundw
    case rel=>exact⟨k,rfl,by omega,M,z⟩
    case measure=>simp[intOf]
end
section
open Go.RowKit Go.Shelf
attribute [local go_sem] Oper.semAt_some
attribute [local go_sem ↓ high] zl qaa
theorem KeepsOthers.of_upd{S:Nat→Prop}{W f:World}(u:Upd S W f)(q:∀k,S k→∃cs T i,W.heap[k]? = some (.cells cs T i)):KeepsOthers W f:=by
 refine⟨u.size,fun k o m p=> ?_⟩;refine u.old m (fun v=> ?_);obtain⟨cs,T,i,e⟩:=q k v;rw[m] at e;rw[Option.some.inj e] at p;cases p
attribute [local go_sem] qbf qci qv
def qe5(h:List Int)(b:Nat):List Int:=h.set (b / 8) (bits .xor .u8 (h.getD (b / 8) 0) (2 ^ (b%8)))
def qes(h:List Int)(b:Nat):List Int:=qek (strOfNums (qe5 h b))
def qc2(h:List Int)(i d:Nat):List Int:=(hiB i d 0).foldl qes h
theorem q01(h:List Int)(b:Nat):(qe5 h b).length=h.length:=by simp[qe5]
theorem qn7(h:List Int)(b:Nat):(qes h b).length=32:=by unfold qes;exact qb5 _
theorem q5t(l:List Nat):∀h:List Int,h.length=32→(l.foldl qes h).length=32:=by
 induction l with
 | nil=>intro h f;exact f
 | cons b l i=>intro h _;rw[List.foldl_cons];exact i (qes h b) (qn7 h b)
theorem qhv(h:List Int)(f:h.length=32)(i d:Nat):(qc2 h i d).length=32:=q5t _ h f
theorem q7c(i d:Nat)(w:World) :
  Calls Tryz.prog 231 #[.int .i64 i,.int .i64 d] w fun e w'=>∃Bd Bi,e = .returned (.func (.func 232) #[] #[.pointer (some ⟨Bd,0,none⟩),.pointer (some ⟨Bi,0,none⟩)])∧qu w w'∧w.heap.size≤Bi∧Bd<w'.heap.size∧Bi<w'.heap.size∧w'.cell? ⟨Bd,0,none⟩=some (.int .i64 d)∧w'.cell? ⟨Bi,0,none⟩=some (.int .i64 i):=by
 go_enter Tryz.func231,Tryz.ntmps231
 go_wp2
 go_ret
 have f:=qh (w.alloc (.cells #[.int .i64 i] 3)) (.cells #[.int .i64 d] 3)
 rw[World.size_alloc] at f
 exact⟨_,_,rfl,((Upd.refl _ _).alloc _).alloc _,Nat.le_refl _,by simp,by simp;omega,by rw[qg f];rfl,by rw[qg (qq (qh _ _) _)];rfl⟩
def qie(h:List Int)(l:List (Fin 16)):List Int:=l.foldl (fun h x=>qes h x.1) h
theorem qwu(h:List Int)(b:Fin 16)(l:List (Fin 16)):qie h (b::l)=qie (qes h b.1) l:=by unfold qie;rw[List.foldl_cons]
theorem qqf(l:List (Fin 16)):∀h:List Int,h.length=32→(qie h l).length=32:=by
 induction l with
 | nil=>intro h f;exact f
 | cons b l i=>intro h _;rw[qwu];exact i (qes h b.1) (qn7 h b.1)
theorem qwv(h:List Int)(l:List (Fin 16))(x:Fin 16):qie h (l++[x])=qes (qie h l) x.1:=by unfold qie;rw[List.foldl_append,List.foldl_cons,List.foldl_nil]
theorem q02(h:List Int)(l:List (Fin 16)):qie h l=(l.map (·.1)).foldl qes h:=by unfold qie;rw[List.foldl_map]
theorem qn3{W f:World}{k:Nat}{cs:Array Value}{T:TypeId}{i:Nat × Nat}{row:Option Nat}(h:W.heap[k]? = some (.cells cs T i))(q:W.grownBy f row)(v:∀r,row=some r→∃o:Obj,W.heap[r]? = some o∧o.isCells=false):f.heap[k]? = some (.cells cs T i):=by
 refine(q.block k (zr h) ?_).trans h;intro e;obtain⟨o,p,m⟩:=v k e.symm;rw[h] at p;rw[←Option.some.inj p] at m;cases m
theorem qp7(h:List Int)(hh:h.length=32)(i d:Nat)(hi:i<65536)(hd:d≤16)(w:World)(hT:Tabs w) :
  Calls Tryz.prog 227 #[.agg (qs h).toArray,.int .i64 i,.int .i64 d] w (qa1 (.agg (qs (qc2 h i d)).toArray) w):=by
 refine(callsIn_wide (n:=6)).1 ?_
 refine callsIn_of_wp_marks Tryz.func227 rfl trivial ?_ rfl
 simp only[Tryz.ntmps227,List.size_toArray,List.length_cons,List.length_nil,Nat.reduceAdd,Nat.reduceSub,Array.replicate_succ,Array.replicate_zero,List.push_toArray,List.append_toArray,List.nil_append,List.cons_append]
 gi_wp2
 generalize hz:(Obj.cells #[_,_,_,_,_,_,_,_,_,_,_,_,_,_,_,_,_,_,_,_,_,_,_,_,_,_,_,_,_,_,_,_] 35)=zo
 have F:=qq (qh w (.cells (qs h).toArray 35)) zo
 have H:=qh (w.alloc (.cells (qs h).toArray 35)) zo
 rw[World.size_alloc] at H
 have n1:qu w ((w.alloc (.cells (qs h).toArray 35)).alloc zo):=((Upd.refl _ _).alloc _).alloc _
 generalize (w.alloc (.cells (qs h).toArray 35)).alloc zo=w1 at F H n1 ⊢
 refine⟨trivial,callsIn_wide.2 ((q7c i d w1).mono ?_)⟩
 rintro e w2 ⟨Bd,Bi,rfl,n2,c3,d6,d7,cd,ci⟩
 have c2:=F
 replace F:=n2.old F (fun h=>h)
 replace H:=n2.old H (fun h=>h)
 have c7:=n1.trans n2
 obtain⟨A,a8⟩:∃A,A=w.heap.size:=⟨_,rfl⟩
 obtain⟨R,c4⟩:∃R,R=w.heap.size+1:=⟨_,rfl⟩
 have d4:w.heap.size≤A:=by omega
 have f2:w.heap.size≤R:=by omega
 have d3:R≠A:=by omega
 have X:Bi≠A:=by have:=n1.size;have:=zr (w:=w1) (b:=A) (o:= .cells (qs h).toArray 35 (0,0)) (by rw[a8];exact c2);omega
 rw[←c4] at H ⊢
 rw[←a8] at F ⊢
 clear a8 c4 c3 c2
 have I:Below w.heap.size w w2:=c7.below' (Nat.le_refl _) (fun _ h=>h.elim)
 have e9:∃Z,zo = .cells Z 35∧Z=(qs ze).toArray:=⟨_,hz.symm,rfl⟩
 obtain⟨Z,rfl,d9⟩:=e9
 subst d9
 clear hz n1 n2 c7
 gi_wp2
 refine wpIn_rangeFunc_ownF (α:=Fin 16) rfl (by omega) (gf:=232) (lb:=#[.pointer (some ⟨Bd,0,none⟩),.pointer (some ⟨Bi,0,none⟩)]) rfl trivial (enters_of Tryz.func232 (by kernel_rfl) rfl)
  (encs:=fun x=>#[.int .i64 (x.1:Nat)]) (Kp:=KpB Bi) (S:=fun xs=>xs=hiF i d 0) (Sp:=fun pre=>pre <+: hiF i d 0) (N:=16) (w0:=w2)
  (fun l J Jx W hW hJ f1 hY h0=>q7b Fence.wide 5 trivial rfl (by omega) l Bd Bi i d hi hd J Jx hY W ((hW.cell (p:=⟨Bd,0,none⟩) d6).trans cd) ((hW.cell (p:=⟨Bi,0,none⟩) d7).trans ci) h0)
  (fun h k v e=>k v (h v e)) ?kb (Below.refl _ _) (fun _=>rfl)
  (fun pre W=>(W.heap[A]? = some (.cells (qs (qie h pre)).toArray 35 (0,0))∧W.heap[R]? = some (.cells (qs ze).toArray 35 (0,0))∧W.cell? ⟨Bi,0,none⟩=some (.int .i64 i))∧Below w.heap.size w W)
  (fun _ _ _=>False)
  (OwnFrom.and (Own.from (fun s A' B' row hs hg hr=>⟨qn3 hs.1 hg hr,qn3 hs.2.1 hg hr,cell_kept hs.2.2 hg hr⟩) _) (ownFrom_below (Nat.le_refl _) I.size))
  (fun _ _ _ _ _ hs _ _=>hs)
  ⟨⟨F,H,ci⟩,I⟩
  (fun(x:Fin 16)=> {tmps:=#[.agg (qs h).toArray,.int .i64 i,.int .i64 d,.pointer (some ⟨A,0,none⟩),undef,undef,.pointer (some ⟨R,0,none⟩),.int .i64 (x.1:Nat),.int .i64 i,.int .i64 d,.func (.func 232) #[] #[.pointer (some ⟨Bd,0,none⟩),.pointer (some ⟨Bi,0,none⟩)],.int .i64 (x.1:Nat),undef,undef,undef,undef,undef,undef,undef,undef,undef,undef,undef,undef,undef],defers:=[]}) ?assign ?body ?done ?stop
 case kb =>
  intro W l o o' hl ho hc _ v hv;exact cell_kept hv (grownBy_putObj' W l o') (fun r e=>by cases e;exact⟨o,ho,hc⟩)
 case assign =>
  intro l x W K hK;gi_wp2;exact hK
 case body =>
  rintro l pre x W ⟨⟨m,U,c5⟩,O⟩ _;have a6:=qqf pre h hh;obtain⟨q,hq⟩:∃q,q=qie h pre:=⟨_,rfl⟩;rw[←hq] at a6 m;obtain⟨f,b6,f0⟩:∃f:Nat,f=x.1∧f<16:=⟨_,rfl,x.2⟩;rw[←b6];obtain⟨k,hk⟩:∃k,k=f / 8:=⟨_,rfl⟩;obtain⟨j,hj⟩:∃j,j=f%8:=⟨_,rfl⟩;have f3:k<32:=by omega
  have e2:j<8:=by omega
  have c1:W.cell? ⟨A,k,none⟩=some (.int .u8 (q.getD k 0)):=by
   unfold qs at m;rw[qg m k,List.getElem?_toArray,List.getElem?_map,List.getD_eq_getElem?_getD,List.getElem?_eq_getElem (by omega)];rfl
  have d2:=qo m k;have e0:(f:Int).tdiv 8=(k:Int):=by rw[hk];exact(Int.ofNat_tdiv f 8).symm
  have e5:(f:Int).tmod 8=(j:Int):=by rw[hj];exact(Int.ofNat_tmod f 8).symm
  have e8:IntKind.i64.wrap (k:Int)=(k:Int):=qni k (by omega);have e7:IntKind.i64.wrap (j:Int)=(j:Int):=qni j (by omega);have e4:(k:Int)<32:=by omega
  have e3:(j:Int)<8:=by omega
  have f4:Tryz.prog.follows .mixedOrders=true:=by kernel_rfl
  have d1:=qb b6;have HK:=qb hk;have HJ:=qb hj;have HQ:=qb hq;clear b6 hk hj hq;have c6:bits .xor .u8 (q.getD k 0) (IntKind.u8.wrap (2 ^ j))=(qe5 q f).getD k 0:=by
   have ew:∀j:Nat,j<8→IntKind.u8.wrap (2 ^ j)=2 ^ j:=by decide
   rw[ew j e2];unfold qe5;rw[←qa HK,←qa HJ,List.getD_eq_getElem?_getD (l:=q.set _ _),List.getElem?_set_self (by omega)];rfl
  have L:(W.setCell ⟨A,k,none⟩ (.int .u8 (bits .xor .u8 (q.getD k 0) (IntKind.u8.wrap (2 ^ j))))).drew.heap[A]? = some (.cells (qs (qe5 q f)).toArray 35 (0,0)):=by
   have:=zt m k (.int .u8 (bits .xor .u8 (q.getD k 0) (IntKind.u8.wrap (2 ^ j))));refine this.trans ?_;rw[c6];have e:(qe5 q f).getD k 0=bits .xor .u8 (q.getD k 0) (2 ^ j):=by
    unfold qe5;rw[←qa HK,←qa HJ,List.getD_eq_getElem?_getD (l:=q.set _ _),List.getElem?_set_self (by omega)];rfl
   unfold qs;rw[e,List.setIfInBounds_toArray,←List.map_set];unfold qe5;rw[←qa HK,←qa HJ]
  have C:Below w.heap.size W (W.setCell ⟨A,k,none⟩ (.int .u8 (bits .xor .u8 (q.getD k 0) (IntKind.u8.wrap (2 ^ j))))).drew:=((Below.refl _ _).setCell (p:=⟨A,k,none⟩) d4 _).drew;have b7:KeepsOthers W (W.setCell ⟨A,k,none⟩ (.int .u8 (bits .xor .u8 (q.getD k 0) (IntKind.u8.wrap (2 ^ j))))).drew:=(KeepsOthers.setCell _ _ _).trans (KeepsOthers.drew _);have b8:Upd (· = A) W (W.setCell ⟨A,k,none⟩ (.int .u8 (bits .xor .u8 (q.getD k 0) (IntKind.u8.wrap (2 ^ j))))).drew:=((Upd.refl _ _).set1 _ _).drew;clear c6;generalize q.getD k 0=V at c1 L C b7 b8;gi_wp2;gi_region_o
  all_goals (
   generalize (W.setCell ⟨A,k,none⟩ (.int .u8 (bits .xor .u8 V (IntKind.u8.wrap (2 ^ j))))).drew=W1 at L C b7 b8 ⊢
   clear c1 d2 e0 e5 e8 e7 e4 e3
   have E:(qe5 q f).length=32:=by rw[q01,a6]
   have b3:(convert 95 9 (.slice (some ⟨A,0,none⟩) 32 32)).run Tryz.prog W1 = .ok (.string (strOfNums (qe5 q f))) W1 :=
    qc5 W1 _ _ _ Tryz.underlying95 Tryz.underlying5 Tryz.underlying9 A 32 _ _ _ 32 E L
   have M:Calls Tryz.prog 164 #[.string (strOfNums (qe5 q f))] W1 (fun e w'=>e = .returned (.agg (qs (qek (strOfNums (qe5 q f)))).toArray)∧qu W1 w'):=qgn (strOfNums (qe5 q f)) W1 (by rw[strOfNums_size,E];omega) (hT.upd (S:=fun k=>w.heap.size≤k) ⟨(O.trans C).os,(O.trans C).tape,(O.trans C).output,(O.trans C).size,fun k hk _=>(O.trans C).block k hk⟩ (by have:=hT.lt;omega) (by have:=hT.lt;omega))
   have b5:=qb5 (strOfNums (qe5 q f))
   have c0:=qb (HsB.mk L E)
   have Y:qes q f=qek (strOfNums (qe5 q f)):=rfl
   have b9:=qb Y
   clear L Y
   generalize qek (strOfNums (qe5 q f))=K at M b5 b9
   gi_wp2
   refine⟨trivial,(CallsIn.inRound l (callsIn_wide.2 M)).mono ?_⟩
   rintro e W2 ⟨rfl,n2⟩
   have T:=(qa c0).new n2
   have e6:=T.stOk K b5
   have c8:=qb (T.put K b5)
   have u3:=qx (w:=W2) (b:=A) (qs K)
   have k3:KeepsOthers W (W2.setCells A 0 (qs K)):=(b7.trans (KeepsOthers.of_upd n2 (fun _ h=>h.elim))).trans (KeepsOthers.of_upd u3 (fun k e=>⟨_,_,_,(congrArg (fun z=>W2.heap[z]?) e).trans T.at_⟩))
   have u4:Upd (· = A) W (W2.setCells A 0 (qs K)):=(b8.trans (n2.mono (fun _ _ h=>h.elim))).trans u3
   have K3:=qb k3
   have U4:=qb u4
   clear M T u3 k3 u4 b3 c0
   gi_wp2
   have d5:=qa c8
   have P:=qa U4
   refine⟨qa K3,fun v hv=>P.cell hv X,⟨⟨?_,P.old U d3,P.cell c5 X⟩,O.trans (P.below' O.size (fun k e=>by omega))⟩⟩
   rw[qwv,←qa HQ,←qa d1,qa b9]
   exact d5.at_)
 case done =>
  rintro D ys W hD rfl ⟨⟨m,U,c5⟩,O⟩ hK;have hl:=qqf (hiF i d 0) h hh;have e1:qie h (hiF i d 0)=qc2 h i d:=by unfold qc2;rw[q02,q9r hd]
  rw[e1] at hl m;have hA:HsB W A (qc2 h i d):=⟨m,hl⟩;have hr:=hA.row;have hR:HsB W R ze:=⟨U,ql⟩;have e6:=hR.stOk _ hl;have a7:=hR.put _ hl;have u5:=qx (w:=W) (b:=R) (qs (qc2 h i d));have k5:KeepsOthers W (W.setCells R 0 (qs (qc2 h i d))):=KeepsOthers.of_upd u5 (fun k e=>⟨_,_,_,(congrArg (fun z=>W.heap[z]?) e).trans U⟩);have d8:=k5.same D _ hK rfl;have HP:=qb a7;have c9:=qb (O.trans (u5.below' O.size (fun k e=>by omega)));have d0:=qb d8;clear a7 u5 k5 hR hA m;gi_wp2;have b4:=qa d0;refine⟨by simp,.inl ⟨_,_,rfl,run_takeDeferred b4,?_⟩⟩;have hP:=qn3 (qa HP).at_ (grownBy_putObj' _ D (.deferred none)) (fun r e=>by cases e;exact⟨_,b4,rfl⟩);refine⟨_,results_cell_row rfl _ _ R _ _ _ _ rfl hP Tryz.underlying35 rfl (by rw[List.size_toArray,qaj,hl];exact Tryz.infoHsh),rfl,?_⟩;have f5:=I.size;exact Upd.of_below ((qa c9).trans (belowK_b (w:=w) (Nat.le_refl _) _ D _ _ (by omega) b4 rfl rfl)) (Nat.le_refl _)
 case stop =>
  rintro D c pre W _ _ h _;exact h.elim
end
section
open Go.RowKit
structure Deb(w:World):Prop where
 tab:∀j,j<64→w.cell? ⟨6,j,none⟩=some (.int .u8 (Lib.deBruijn64tab.getD j 0))
theorem Deb.upd{S:Nat→Prop}{w w':World}(h:Deb w)(u:Upd S w w')(f:¬S 6):Deb w':=⟨fun i m=>u.cell (h.tab i m) f⟩
theorem Deb.new{w w':World}(h:Deb w)(u:qu w w'):Deb w':=h.upd u (fun h=>h)
def qcy(i:Int):Bool:=decide (0≤i)&&decide (i<65536)
theorem qzg{i:Int}(f:0≤i)(m:i<65536):qcy i=true:=by unfold qcy;simp;omega
theorem q65{i:Int}(h:i<0∨65536≤i):qcy i=false:=by unfold qcy;simp;omega
theorem qlw{i:Int}(h:qcy i=true):0≤i∧i<65536:=by unfold qcy at h;simpa using h
theorem qjj(i:Int)(w:World):Calls Tryz.prog 225 #[.int .i64 i] w (qay (.bool (qcy i)) w):=by
 by_cases m:0≤i
 ·by_cases f:i<65536
  ·rw[qzg m f];go_enter Tryz.func225,Tryz.ntmps225;go_wp2;go_ret;exact⟨rfl,Q.refl _⟩
  ·rw[q65 (by omega)];have p:decide (i<65536)=false:=by simpa using f
   go_enter Tryz.func225,Tryz.ntmps225;go_wp2;go_ret;exact⟨rfl,Q.refl _⟩
 ·rw[q65 (by omega)];go_enter Tryz.func225,Tryz.ntmps225;go_wp2;go_ret;exact⟨rfl,Q.refl _⟩
theorem q3n(x a:Nat)(m:x<18446744073709551616)(f:x &&& (18446744073709551616-x)=a)(p:x≠0) :
  IntKind.u64.wrap (bits BinOp.and IntKind.u64 (x:Int) (IntKind.u64.wrap (-(x:Int)))*285870213051353865) / 288230376151711744=((a*285870213051353865%18446744073709551616 / 288230376151711744:Nat):Int):=by
 have i:IntKind.u64.wrap (-(x:Int))=((18446744073709551616-x:Nat):Int):=by rw[IntKind.wrap_u64];omega
 rw[i,bits_and_u64_nat x _ m (by omega),f,IntKind.wrap_u64]
 omega
theorem q3m(x k f:Nat)(w:World)(m:((x:Int)==0)=false)
  (key:IntKind.u64.wrap (bits BinOp.and IntKind.u64 (x:Int) (IntKind.u64.wrap (-(x:Int)))*285870213051353865) / 288230376151711744=(f:Int))
  (p:f<64) (q:k<64) (i:w.cell? ⟨6,f,none⟩=some (.int .u8 k)) :
  Calls Tryz.prog 230 #[.int .u64 x] w (qay (.int .i64 k) w):=by
 go_enter Tryz.func230,Tryz.ntmps230
 go_wp2_with (simp only[key])
 go_ret
 exact⟨rfl,Q.refl _⟩
theorem q3o(w:World):Calls Tryz.prog 230 #[.int .u64 0] w (qay (.int .i64 64) w):=by
 go_enter Tryz.func230,Tryz.ntmps230;go_wp2;go_ret;exact⟨rfl,Q.refl _⟩
theorem q8f(x:Nat)(z:x<18446744073709551616)(w:World)(C:Deb w) :
  Calls Tryz.prog 230 #[.int .u64 x] w (qay (.int .i64 (Lib.ctz 64 x)) w):=by
 by_cases i:x=0
 ·subst i;have e:Lib.ctz 64 0=64:=by decide
  rw[e];exact q3o w
 ·obtain⟨m,v⟩:=Lib.lowest_bit 64 x i z;obtain⟨q,p⟩:=Lib.deBruijn64_at _ v;have f:=C.tab _ q;rw[p] at f;exact q3m x _ _ w (by simp;omega) (q3n x _ z m i) q v f
theorem zcz(x:Nat)(m:x<18446744073709551616)(w:World)(f:Deb w) :
  Calls Tryz.prog 226 #[.int .u64 x] w (qay (.int .i64 (Lib.ctz 64 x)) w):=by
 have p:IntKind.u64.wrap (x:Int)=(x:Int):=by rw[IntKind.wrap_u64];omega
 have i:=q8f x m w f
 go_enter Tryz.func226,Tryz.ntmps226
 go_wp2_with fail
 refine i.mono ?_
 rintro e w1 ⟨rfl,q⟩
 go_wp2_with fail
 go_ret
 exact⟨rfl,q⟩
def qbm(i:Int):Nat:=if qcy i then min (Lib.ctz 64 i.toNat) 16 else 0
theorem qjn(i:Int):qbm i≤16:=by unfold qbm;split<;>omega
theorem qh9(i:Int)(w:World)(I:Deb w):Calls Tryz.prog 217 #[.int .i64 i] w (qay (.int .i64 (qbm i)) w):=by
 have z:=qjj i w;go_enter Tryz.func217,Tryz.ntmps217;go_wp2_with fail;refine z.mono ?_;rintro e w1 ⟨rfl,q⟩;cases p:qcy i with
 | false =>
  have e:qbm i=0:=by unfold qbm;rw[if_neg (by rw[p];decide)]
  have f:=qb e;clear e;go_wp2_with fail;go_ret;exact⟨by rw[qa f];rfl,q⟩
 | true =>
  obtain⟨v,K⟩:=qlw p;obtain⟨n,rfl⟩:=Int.eq_ofNat_of_zero_le v;have M:IntKind.u64.wrap (n:Int)=(n:Int):=by rw[IntKind.wrap_u64];omega
  have C:=zcz n (by omega) w1 (I.new (q.upd _));have e:qbm (n:Int)=min (Lib.ctz 64 n) 16:=by unfold qbm;rw[if_pos p];rfl
  have f:=qb e;clear e z;have J:=qb p;clear p v;go_wp2_with fail;refine C.mono ?_;rintro e N ⟨rfl,E⟩;have F:=q.trans E;generalize Lib.ctz 64 n=k at *
  clear C q E;by_cases L:k≤16
  ·have m:min k 16=k:=by omega
   have H:min (k:Int) 16=(k:Int):=by omega
   rw[m] at f;clear m;go_wp2_with fail;go_ret;exact⟨by rw[qa f];rfl,F⟩
  ·have m:min k 16=16:=by omega
   have H:(16:Int)<(k:Int):=by omega
   rw[m] at f;clear m;go_wp2_with fail;go_ret;exact⟨by rw[qa f];rfl,F⟩
def qkm(f t:Int):Bool:=qcy f&&(qcy t&&(f.toNat / 2 ^ qbm f==t.toNat / 2 ^ qbm f))
theorem qy0(f t:Int)(w:World)(O:Deb w):Calls Tryz.prog 216 #[.int .i64 f,.int .i64 t] w (qay (.bool (qkm f t)) w):=by
 have L:=qh9 f w O;have U:=qjn f;have i:=fun W=>qjj f W
 have v:=fun W=>qjj t W
 have z:qkm f t=(qcy f&&(qcy t&&(f.toNat / 2 ^ qbm f==t.toNat / 2 ^ qbm f))):=rfl;have C:=qb z;clear z;generalize qbm f=p at *
 go_enter Tryz.func216,Tryz.ntmps216;go_wp2_with fail;refine L.mono ?_;rintro e w1 ⟨rfl,q⟩;clear L;have P:(p:Int)≤16:=by omega
 cases E:qcy f with
 | false =>
  rw[E,Bool.false_and] at C;replace i:=i;rw[E] at i;go_wp2_with ((with_reducible first|rfl|refine' ut ?_ ?_;rotate_left|refine' uu ?_)<;>intros);refine(i _).mono ?_;rintro e M ⟨rfl,H⟩;go_wp2_with ((with_reducible first|rfl|refine' ut ?_ ?_;rotate_left|refine' uu ?_)<;>intros);go_ret;exact⟨by rw[qa C];rfl,q.trans H.ofDrew⟩
 | true =>
  rw[E,Bool.true_and] at C;rw[E] at i;cases F:qcy t with
  | false =>
   rw[F,Bool.false_and] at C;rw[F] at v;go_wp2_with ((with_reducible first|rfl|refine' ut ?_ ?_;rotate_left|refine' uu ?_)<;>intros);refine(i _).mono ?_;rintro e M ⟨rfl,H⟩;go_wp2_with ((with_reducible first|rfl|refine' ut ?_ ?_;rotate_left|refine' uu ?_)<;>intros);refine(v _).mono ?_;rintro e R ⟨rfl,J⟩;go_wp2_with ((with_reducible first|rfl|refine' ut ?_ ?_;rotate_left|refine' uu ?_)<;>intros);go_ret;exact⟨by rw[qa C];rfl,(q.trans H.ofDrew).trans J⟩
  | true =>
   rw[F,Bool.true_and] at C;rw[F] at v;obtain⟨K,f1⟩:=qlw E;obtain⟨t0,V⟩:=qlw F;obtain⟨n,rfl⟩:=Int.eq_ofNat_of_zero_le K;obtain⟨m,rfl⟩:=Int.eq_ofNat_of_zero_le t0;have S:=qb E;have T:=qb F;clear E F K t0;go_wp2_with ((with_reducible first|rfl|refine' ut ?_ ?_;rotate_left|refine' uu ?_)<;>intros);refine(i _).mono ?_;rintro e M ⟨rfl,H⟩;go_wp2_with ((with_reducible first|rfl|refine' ut ?_ ?_;rotate_left|refine' uu ?_)<;>intros);refine(v _).mono ?_;rintro e R ⟨rfl,J⟩;go_wp2_with ((with_reducible first|rfl|refine' ut ?_ ?_;rotate_left|refine' uu ?_)<;>intros);go_ret;refine⟨?_,(q.trans H.ofDrew).trans J⟩;have I:((n:Int) / 2 ^ p==(m:Int) / 2 ^ p)=((n:Int).toNat / 2 ^ p==(m:Int).toNat / 2 ^ p):=by
    have en:(n:Int) / 2 ^ p=((n / 2 ^ p:Nat):Int):=by rw[Int.natCast_ediv];rfl
    have N:(m:Int) / 2 ^ p=((m / 2 ^ p:Nat):Int):=by rw[Int.natCast_ediv];rfl
    rw[en,N,Int.toNat_natCast,Int.toNat_natCast];by_cases e:n / 2 ^ p=m / 2 ^ p
    ·rw[e];simp
    ·rw[beq_false_of_ne e,beq_false_of_ne (by omega)]
   rw[qa C,←I];rfl
attribute [local go_sem ↓ high] zl qaa qad qam
attribute [local go_sem] qbf qci qcj qdh qv
def qc4(h:List Int)(i:Int):List Int × Int:=if qcy i=true then (qc2 h i.toNat 16,0) else (ze,1)
theorem q6s(h:List Int)(T:h.length=32)(i:Int)(w:World)(S:Tabs w) :
  Calls Tryz.prog 224 #[.agg (qs h).toArray,.int .i64 i] w (qa1 (.tuple #[.agg (qs (qc4 h i).1).toArray,.int .i64 (qc4 h i).2]) w):=by
 have m:=fun W=>qjj i W
 go_enter Tryz.func224,Tryz.ntmps224
 go_upto_region 1 with fail
 have I:=(qb4 w h T).new ((Upd.refl _ _).alloc (.cells (qs ze).toArray 35))
 have E:=qb4 (w.alloc (.cells (qs h).toArray 35)) ze ql
 rw[World.size_alloc] at E
 have L:qu w ((w.alloc (.cells (qs h).toArray 35)).alloc (.cells (qs ze).toArray 35)):=((Upd.refl _ _).alloc _).alloc _
 generalize (w.alloc (.cells (qs h).toArray 35)).alloc (.cells (qs ze).toArray 35)=w1 at I E L ⊢
 obtain⟨A,C⟩:∃A,A=w.heap.size:=⟨_,rfl⟩
 obtain⟨B,F⟩:∃B,B=w.heap.size+1:=⟨_,rfl⟩
 rw[←F] at E ⊢
 rw[←C] at I ⊢
 have a7:w.heap.size≤B:=by omega
 have a6:B≠A:=by omega
 clear C F
 have HA:=qb I
 have HB:=qb E
 clear I E
 go_wp2_with fail
 refine(m _).mono ?_
 rintro e w2 ⟨rfl,q⟩
 have f:=(qa HB).new (q.upd _)
 have p:=(qa HA).new (q.upd _)
 have H:=L.trans (q.upd _)
 have z:=S.new H
 cases J:qcy i with
 | false =>
  have e:qc4 h i=(ze,1):=by unfold qc4;rw[if_neg (by rw[J];decide)]
  have N:=qb e;have V:=f.stOk ze ql;have O:=qb (f.put ze ql);have P:=qb (H.then (qx (w:=w2) (b:=B) (qs ze)) (fun i hi e=>by omega));clear f p H L z S e;go_wp2_with fail;refine bodyPost_ret (qw rfl _ _ B _ _ _ _ rfl (qa O).at_ Tryz.underlying35 rfl (by rw[List.size_toArray,qaj,ql];exact Tryz.infoHsh)) rfl ?_;rw[qa N];exact⟨rfl,qa P⟩
 | true =>
  obtain⟨Y,h1⟩:=qlw J;obtain⟨n,rfl⟩:=Int.eq_ofNat_of_zero_le Y;have e:qc4 h (n:Int)=(qc2 h n 16,0):=by unfold qc4;rw[if_pos J];rfl
  have N:=qb e;have U:=qhv h T n 16;have Z:=qp7 h T n 16 (by omega) (by omega) w2 z;have hr:=p.row;have M:=qb f;have R:=qb H;clear e m Y p f H L S J z;go_wp2_with fail;refine Z.mono ?_;rintro e w3 ⟨rfl,X⟩;have v:=(qa M).new X;have n4:=(qa R).trans X;have V:=v.stOk _ U;have O:=qb (v.put _ U);have P:=qb (n4.then (qx (w:=w3) (b:=B) (qs (qc2 h n 16))) (fun i hi e=>by omega));clear v n4 X Z hr;generalize qc2 h n 16=K at *
  go_wp2_with fail;refine bodyPost_ret (qw rfl _ _ B _ _ _ _ rfl (qa O).at_ Tryz.underlying35 rfl (by rw[List.size_toArray,qaj,U];exact Tryz.infoHsh)) rfl ?_;rw[qa N];exact⟨rfl,qa P⟩
def qcg(h:List Int)(f t:Int):List Int × Int:=if qkm f t=true then (qc2 h t.toNat (qbm f),0) else (ze,1)
theorem qtu(h:List Int)(i:h.length=32)(f t:Int):(qcg h f t).1.length=32:=by
 unfold qcg;split
 ·exact qhv h i _ _
 ·exact ql
theorem q84{f t:Int}(h:qkm f t=true):qcy t=true:=by
 unfold qkm at h;simp only[Bool.and_eq_true] at h;exact h.2.1
theorem qwo(h:List Int)(hh:h.length=32)(f t:Int)(w:World)(hT:Tabs w)(S:Deb w) :
  Calls Tryz.prog 220 #[.agg (qs h).toArray,.int .i64 f,.int .i64 t] w (qa1 (.tuple #[.agg (qs (qcg h f t).1).toArray,.int .i64 (qcg h f t).2]) w):=by
 go_enter Tryz.func220,Tryz.ntmps220
 go_upto_region 1 with fail
 have R:=(qb4 w h hh).new ((Upd.refl _ _).alloc (.cells (qs ze).toArray 35))
 have J:=qb4 (w.alloc (.cells (qs h).toArray 35)) ze ql
 rw[World.size_alloc] at J
 have O:qu w ((w.alloc (.cells (qs h).toArray 35)).alloc (.cells (qs ze).toArray 35)):=((Upd.refl _ _).alloc _).alloc _
 generalize (w.alloc (.cells (qs h).toArray 35)).alloc (.cells (qs ze).toArray 35)=w1 at R J O ⊢
 obtain⟨A,I⟩:∃A,A=w.heap.size:=⟨_,rfl⟩
 obtain⟨B,L⟩:∃B,B=w.heap.size+1:=⟨_,rfl⟩
 rw[←L] at J ⊢
 rw[←I] at R ⊢
 have b5:w.heap.size≤B:=by omega
 have b4:B≠A:=by omega
 clear I L
 have HA:=qb R
 have HB:=qb J
 have z:=qy0 f t w1 (S.new O)
 clear R J
 go_wp2_with fail
 refine z.mono ?_
 rintro e w2 ⟨rfl,q⟩
 have m:=(qa HB).new (q.upd _)
 have v:=(qa HA).new (q.upd _)
 have H:=O.trans (q.upd _)
 have F:=hT.new H
 have E:=S.new H
 clear z
 cases T:qkm f t with
 | false =>
  have e:qcg h f t=(ze,1):=by unfold qcg;rw[if_neg (by rw[T];decide)]
  have Y:=qb e;have b3:=m.stOk ze ql;have Z:=qb (m.put ze ql);have HN:=qb (H.then (qx (w:=w2) (b:=B) (qs ze)) (fun i hi e=>by omega));clear m v H O F hT e S E;go_wp2_with fail;refine bodyPost_ret (qw rfl _ _ B _ _ _ _ rfl (qa Z).at_ Tryz.underlying35 rfl (by rw[List.size_toArray,qaj,ql];exact Tryz.infoHsh)) rfl ?_;rw[qa Y];exact⟨rfl,qa HN⟩
 | true =>
  obtain⟨h0,h1⟩:=qlw (q84 T);obtain⟨n,rfl⟩:=Int.eq_ofNat_of_zero_le h0;have e:qcg h f (n:Int)=(qc2 h n (qbm f),0):=by unfold qcg;rw[if_pos T];rfl
  have Y:=qb e;have hl:=qhv h hh n (qbm f);have a8:=qjn f;have M:=fun W (hW:Tabs W)=>qp7 h hh n (qbm f) (by omega) a8 W hW
  have hp:=fun W (hW:Deb W)=>qh9 f W hW
  have hr:zj w2.drew A 0 32=some (qs h).toArray:=v.row;have V:=qb m;have U:=qb v;have a6:=qb H;have a7:=qb F;have X:=qb E;have HC:=qb M;have HP:=qb hp;clear e h0 v m H O hT T F S E M hp;generalize qc2 h n (qbm f)=K at *
  generalize qbm f=p at *
  go_upto_region 3 with fail;refine qaw (fun w'=>zj w' A 0 32=some (qs h).toArray) [0] (.of [0,1,2,3,4,5,6]) (by kernel_rfl) (by kernel_rfl) hr ?_;simp only[Plan.of];go_wp2_with ((with_reducible first|rfl|refine' ut ?_ ?_;rotate_left|refine' uu ?_)<;>intros);refine(qa HP _ ((qa X).new ((Upd.refl _ _).drew))).mono ?_;rintro e w3 ⟨rfl,q3⟩;have P:qu w2 w3:=(q3.ofDrew).upd _;have N:=((qa U).new P).row;have M:=qa HC w3 ((qa a7).new P);clear hr HP;go_wp2_with ((with_reducible first|rfl|refine' ut ?_ ?_;rotate_left|refine' uu ?_)<;>intros);refine⟨N,?_⟩;go_wp2_with ((with_reducible first|rfl|refine' ut ?_ ?_;rotate_left|refine' uu ?_)<;>intros);refine M.mono ?_;rintro e w4 ⟨rfl,n4⟩;have C:=((qa V).new P).new n4;have n5:=((qa a6).trans P).trans n4;have b3:=C.stOk _ hl;have Z:=qb (C.put _ hl);have HN:=qb (n5.then (qx (w:=w4) (b:=B) (qs K)) (fun i hi e=>by omega));clear C n5 P M n4 N;go_wp2_with ((with_reducible first|rfl|refine' ut ?_ ?_;rotate_left|refine' uu ?_)<;>intros);refine bodyPost_ret (qw rfl _ _ B _ _ _ _ rfl (qa Z).at_ Tryz.underlying35 rfl (by rw[List.size_toArray,qaj,hl];exact Tryz.infoHsh)) rfl ?_;rw[qa Y];exact⟨rfl,qa HN⟩
end
section
open Go.RowKit
attribute [local go_sem ↓ high] zl qaa qad qam qy qz zb zf
attribute [local go_sem] qbf qci qcj qdh qv qas qat qax
def Ch.secret(c:Ch)(n:Int):List Int × Int:=if n<0∨c.k.heard≤n then (ze,1) else qc4 c.s.seed (65535-n)
theorem qlu(h:List Int)(f:h.length=32)(i:Int):(qc4 h i).1.length=32:=by
 unfold qc4;split
 ·exact qhv h f _ _
 ·exact ql
theorem Ch.secret_len{c:Ch}(h:c.Ok)(n:Int):(c.secret n).1.length=32:=by
 unfold Ch.secret;split
 ·exact ql
 ·exact qlu _ h.s.seed _
theorem qx6(g:Nat)(S:Nat→Prop)(c:Ch)(n:Int)(w:World)(h:ChS w g S c)(V:Tabs w)(hn : -9223372036854775808≤n∧n≤9223372036854775807) :
  Calls Tryz.prog 215 #[.pointer (some ⟨g,0,none⟩),.int .i64 n] w (qa1 (.tuple #[.agg (qs (c.secret n).1).toArray,.int .i64 (c.secret n).2]) w):=by
 obtain⟨lv,nv,Z,h⟩:=h
 go_enter Tryz.func215,Tryz.ntmps215
 go_upto_region 1 with fail
 have f:=qb4 w ze ql
 have q:qu w (w.alloc (.cells (qs ze).toArray 35)):=(Upd.refl _ _).alloc _
 generalize w.alloc (.cells (qs ze).toArray 35)=w1 at f q ⊢
 obtain⟨B,v⟩:∃B,B=w.heap.size:=⟨_,rfl⟩
 rw[←v] at f ⊢
 have U:w.heap.size≤B:=by omega
 clear v
 have H:=h.new q
 have P:w1.cell? ⟨g,38,none⟩=some (.int .i64 c.k.heard):=H.toR.heard
 have p:=H.seed
 by_cases e:n<0∨c.k.heard≤n
 ·have z:c.secret n=(ze,1):=by unfold Ch.secret;rw[if_pos e]
  have J:=f.stOk ze ql;have E:=qb (f.put ze ql);have F:=qb (q.then (qx (w:=w1) (b:=B) (qs ze)) (fun i W e=>by omega));have C:=qb z;clear h H f q z;by_cases R:n<0
  ·go_wp2_with fail;refine bodyPost_ret (qw rfl _ _ B _ _ _ _ rfl (qa E).at_ Tryz.underlying35 rfl (by rw[List.size_toArray,qaj,ql];exact Tryz.infoHsh)) rfl ?_;rw[qa C];exact⟨rfl,qa F⟩
  ·have T:c.k.heard≤n:=by omega
   clear e;go_wp2_with fail;refine bodyPost_ret (qw rfl _ _ B _ _ _ _ rfl (qa E).at_ Tryz.underlying35 rfl (by rw[List.size_toArray,qaj,ql];exact Tryz.infoHsh)) rfl ?_;rw[qa C];exact⟨rfl,qa F⟩
 ·have z:c.secret n=qc4 c.s.seed (65535-n):=by unfold Ch.secret;rw[if_neg e]
  have R:¬n<0:=by omega
  have T:¬c.k.heard≤n:=by omega
  have X:IntKind.i64.wrap (65535-n)=65535-n:=qhl (by omega) (by omega);have M:=q6s c.s.seed h.ok.s.seed (65535-n) w1 (V.new q);have I:=qlu c.s.seed h.ok.s.seed (65535-n);have C:=qb z;have N:=qb f;have O:=qb q;clear h H f q z e;generalize qc4 c.s.seed (65535-n)=K at *
  go_wp2_with fail;refine M.mono ?_;rintro e Y ⟨rfl,L⟩;have m:=(qa N).new L;have J:=m.stOk _ I;have E:=qb (m.put _ I);have F:=qb (((qa O).trans L).then (qx (w:=Y) (b:=B) (qs K.1)) (fun i W e=>by omega));clear m L M p;go_wp2_with fail;refine bodyPost_ret (qw rfl _ _ B _ _ _ _ rfl (qa E).at_ Tryz.underlying35 rfl (by rw[List.size_toArray,qaj,I];exact Tryz.infoHsh)) rfl ?_;rw[qa C];exact⟨rfl,qa F⟩
def Ch.revocation(c:Ch):MsgV:=⟨7,c.s.ch,0,0,(c.secret (c.k.heard-1)).1,0,c.k.heard-1⟩
theorem qi6(g:Nat)(S:Nat→Prop)(c:Ch)(w:World)(h:ChS w g S c)(hT:Tabs w) :
  Calls Tryz.prog 205 #[.pointer (some ⟨g,0,none⟩)] w (qa1 (.agg c.revocation.cells.toArray) w):=by
 obtain⟨lv,nv,av,h⟩:=h
 have a8:=h.ok.heard
 go_enter Tryz.func205,Tryz.ntmps205
 go_upto_region 1 with fail
 have I:=qan w MsgV.zero ql
 have F:qu w (w.alloc (.cells MsgV.zero.cells.toArray 101)):=(Upd.refl _ _).alloc _
 generalize w.alloc (.cells MsgV.zero.cells.toArray 101)=w1 at I F ⊢
 obtain⟨B,v⟩:∃B,B=w.heap.size:=⟨_,rfl⟩
 rw[←v] at I ⊢
 have a7:w.heap.size≤B:=by omega
 clear v
 have H:=h.new F
 have q:w1.cell? ⟨g,38,none⟩=some (.int .i64 c.k.heard):=H.toR.heard
 have b4:IntKind.i64.wrap (c.k.heard-1)=c.k.heard-1:=qhl (by omega) (by omega)
 have Z:=qx6 g S c (c.k.heard-1) w1 ⟨lv,nv,av,H⟩ (hT.new F) (by omega)
 have J:=Ch.secret_len h.ok (c.k.heard-1)
 have C:c.revocation=⟨7,c.s.ch,0,0,(c.secret (c.k.heard-1)).1,0,c.k.heard-1⟩:=rfl
 have HR:=qb C
 have HB:=qb I
 have N1:=qb F
 have H1:=qb H
 clear h H I F C
 generalize c.secret (c.k.heard-1)=K at *
 go_wp2_with fail
 refine Z.mono ?_
 rintro e N ⟨rfl,L⟩
 obtain⟨E,z,M⟩:=qg0 N K.1 J
 have Y:=((qa H1).new L).new M
 have O:=qb z
 have f:=qb (((qa HB).new L).new M)
 have p:=qb (((qa N1).trans L).trans M)
 have U:=qb Y
 clear Z L z M Y q
 go_upto_region 2 with fail
 change Code.wp _ _ _ _ (qif N K.1)
 generalize qif N K.1=m at O f p U ⊢
 generalize N.heap.size=A at O ⊢
 have P:=qa U
 have b3:=(qa O).row
 have a6:m.cell? ⟨g,0,none⟩=some (.int .u32 c.s.ch):=P.toR.ch
 have q:m.cell? ⟨g,38,none⟩=some (.int .i64 c.k.heard):=P.toR.heard
 have R:=fun W=>qwd 7 c.s.ch (c.k.heard-1) K.1 J W
 have E:stOk m.drew B 0 38 (MsgV.cells ⟨7,c.s.ch,0,0,K.1,0,c.k.heard-1⟩).toArray=true:=(qa f).stOk (k:=⟨7,c.s.ch,0,0,K.1,0,c.k.heard-1⟩) J
 have T:qu m m.drew:=(Upd.refl _ _).drew
 have V:=qb (((qa f).new T).put (k:=⟨7,c.s.ch,0,0,K.1,0,c.k.heard-1⟩) J)
 have X:=qb (((qa p).trans T).then (qx (w:=m.drew) (b:=B) (MsgV.cells ⟨7,c.s.ch,0,0,K.1,0,c.k.heard-1⟩)) (fun i hi e=>by omega))
 clear P T
 rw[←qa HR] at E V X R
 go_wp2_with ((with_reducible first|rfl|refine' ut ?_ ?_;rotate_left|refine' uu ?_)<;>intros)
 have z:=qa V
 exact bodyPost_ret (results_cell_row rfl _ _ B _ _ _ _ rfl z.at_ Tryz.underlying101 rfl (by rw[z.agg];exact Tryz.infoMsg)) rfl ⟨rfl,qa X⟩
end
section
open Go.RowKit Go.ChangeShapes Go.WideShapes Go.ChangeAt Go.Deep
inductive Leaf where
 | bool
 | int (k:IntKind)
 | str
 deriving DecidableEq
def Leaf.fits:Leaf→Value→Prop
 | .bool,v=>∃b,v = .bool b
 | .int k,v=>∃n,v = .int k n∧(Lit.int k n).wf=true
 | .str,v=>∃s:ByteArray,v = .string s∧s.size≤maxLen
def qdx:List Leaf→List Value→Prop
 | [],cs=>cs=[]
 | l::ls,cs=>∃v r,cs=v::r∧l.fits v∧qdx ls r
theorem qdx.len:∀ {ls:List Leaf} {cs:List Value},qdx ls cs→cs.length=ls.length
 | [],_,h=>by rw[show _=[] from h];rfl
 | l::ls,_,h=>by obtain⟨v,r,rfl,_,f⟩:=h;simp[f.len]
theorem qdx.app:∀ {ls i:List Leaf} {cs f:List Value},qdx ls cs→qdx i f→qdx (ls++i) (cs++f)
 | [],_,_,_,h,k=>by rw[show _=[] from h];exact k
 | l::ls,_,_,_,h,k=>by obtain⟨v,r,rfl,p,m⟩:=h;exact⟨v,_,rfl,p,m.app k⟩
theorem qdx.split:∀ {ls f:List Leaf} {cs:List Value},qdx (ls++f) cs→∃a b,cs=a++b∧qdx ls a∧qdx f b
 | [],_,cs,h=>⟨[],cs,rfl,rfl,h⟩
 | l::ls,_,_,h=>by
  obtain⟨v,r,rfl,q,p⟩:=h;obtain⟨a,b,rfl,i,m⟩:=qdx.split p;exact⟨v::a,b,rfl,⟨v,a,rfl,q,i⟩,m⟩
def qcl(P:Program)(rec:TypeId→Option (List Leaf)):Nat→List Field→Option (List Leaf)
 | _,[]=>some []
 | o,f::r=>match rec f.type with
  | none=>none
  | some l=>if f.offset=o∧P.cellsOf f.type=l.length then (qcl P rec (o+l.length) r).map (l ++ ·) else none
def qc9(P:Program):Nat→TypeId→Option (List Leaf)
 | 0,_=>none
 | n+1,t=>match P.underlying t with
  | some .bool=>some [.bool]
  | some (.int k)=>some [.int k]
  | some .string=>some [.str]
  | some (.struct f)=>match qcl P (qc9 P n) 0 f.toList with
   | some l=>if P.cellsOf t=l.length then some l else none
   | none=>none
  | some (.array m e)=>match qc9 P n e with
   | some l=>if P.cellsOf e=l.length∧P.cellsOf t=m*l.length then some (List.replicate m l).flatten else none
   | none=>none
  | _=>none
section
variable {H:Type}{enc:TypeId × Value→H}{P:Program}{w:World}{base:Nat}{spare:Nat→Bool}{held:Bool}
theorem qr3(k:Nat):∀(m:Nat) (cs:List Value),cs.length=m*k→cs=((List.range m).map fun i=>(cs.drop (i*k)).take k).flatten
 | 0,cs,h=>by
  have:cs=[]:=List.length_eq_zero_iff.1 (by omega);subst this;rfl
 | m+1,cs,h=>by
  have f:=qr3 k m (cs.drop k) (by rw[List.length_drop,h,Nat.succ_mul];omega);rw[List.range_succ_eq_map,List.map_cons,List.flatten_cons,Nat.zero_mul,List.drop_zero,List.map_map];have e:((List.range m).map ((fun i=>(cs.drop (i*k)).take k) ∘ Nat.succ))=((List.range m).map fun i=>((cs.drop k).drop (i*k)).take k):=by
   apply List.map_congr_left;intro i _;show (cs.drop ((i+1)*k)).take k=_;rw[List.drop_drop,Nat.succ_mul,Nat.add_comm]
  rw[e,←f,List.take_append_drop]
end
end
end Go.Proofs.YtfmkdoachjgjbaaGreatDoor
