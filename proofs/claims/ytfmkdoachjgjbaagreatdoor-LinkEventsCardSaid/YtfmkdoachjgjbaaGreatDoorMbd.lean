/-
  Helpers for an end's calls: messages in blocks of their own, cells put, a channel's seed; messages built of parts.
-/
import Derived.Test.YtfmkdoachjgjbaaGreatDoorHr1
import Derived.Test.YtfmkdoachjgjbaaGreatDoorMah
import Derived.Test.YtfmkdoachjgjbaaGreatDoorProg
import Derived.Test.YtfmkdoachjgjbaaGreatDoorMaa
import Derived.RangeFuncNested
import Derived.RangeFuncBound
import Derived.RangeFuncCalls
import Derived.RangeFuncLeaves
import Derived.Shelf.Abstract
import Derived.Shelf.RegionOpen
import Derived.WalkKit
import Derived.OwnWalkIn
import Derived.TacticsInMore
import Derived.LoopNIn
import Derived.LoopIn
set_option maxRecDepth 100000
set_option maxHeartbeats 2000000
set_option linter.unusedVariables false
set_option linter.unusedSimpArgs false
namespace Go.Proofs.YtfmkdoachjgjbaaGreatDoor
section
open Go.RowKit
structure MsB(w:World)(b:Nat)(m:MsgV):Prop where
 at_:w.heap[b]? = some (.cells m.cells.toArray 101 (0,0))
 len:m.hash.length=32
section
variable {S:Nat→Prop}{w w':World}{b:Nat}{m:MsgV}
theorem MsB.upd(a:MsB w b m)(u:Upd S w w')(n:¬S b):MsB w' b m:=⟨u.old a.at_ n,a.len⟩
theorem MsB.new(a:MsB w b m)(u:qq w w'):MsB w' b m:=a.upd u (fun h=>h)
theorem MsB.lt(a:MsB w b m):b<w.heap.size:=zr a.at_
theorem MsB.row(a:MsB w b m):zf w b 0 38=some m.cells.toArray:=qas a.at_ 38 (by rw[List.size_toArray,m.len a.len])
theorem MsB.stOk(a:MsB w b m){k:MsgV}(f:k.hash.length=32):stOk w b 0 38 k.cells.toArray=true:=by
 have:=qem a.at_ (A:=k.cells) (by rw[List.size_toArray,m.len a.len,k.len f]) k.one;rwa [List.size_toArray,m.len a.len] at this
theorem MsB.put(a:MsB w b m){k:MsgV}(f:k.hash.length=32):MsB (w.setCells b 0 k.cells) b k:=by
 refine⟨?_,f⟩;rw[qba a.at_ 0 _,qcz _ _ (by rw[List.size_toArray,m.len a.len,k.len f])]
theorem MsB.cells(a:MsB w b m):w.cell? ⟨b,0,none⟩=some (.int .i64 m.kind)∧w.cell? ⟨b,1,none⟩=some (.int .u32 m.ch)∧w.cell? ⟨b,2,none⟩=some (.int .u64 m.id)∧w.cell? ⟨b,3,none⟩=some (.int .u64 m.amount)∧w.cell? ⟨b,36,none⟩=some (.int .i64 m.expiry)∧w.cell? ⟨b,37,none⟩=some (.int .i64 m.number)∧zf w b 4 32=some (qu m.hash).toArray:=qso m a.at_ a.len
end
theorem zt(w:World)(m:MsgV)(f:m.hash.length=32):MsB (w.alloc (.cells m.cells.toArray 101)) w.heap.size m:=⟨qj _ _,f⟩
def qj4(w:World)(k:MsgV):World:=(w.alloc (.cells MsgV.zero.cells.toArray 101)).setCells w.heap.size 0 k.cells
theorem qi7(w:World)(k:MsgV)(q:k.hash.length=32):stOk (w.alloc (.cells MsgV.zero.cells.toArray 101)) w.heap.size 0 38 k.cells.toArray=true∧MsB (qj4 w k) w.heap.size k∧qq w (qj4 w k):=by
 have f:=zt w MsgV.zero qm;exact⟨f.stOk q,f.put q,(((Upd.refl (fun _=>False) w).alloc _)).then (zc _) (fun i r e=>by omega)⟩
theorem MsB.agg{w:World}{b:Nat}{m:MsgV}(a:MsB w b m):m.cells.toArray.size=38:=by rw[List.size_toArray,m.len a.len]
theorem qz8(k n:Int)(H:List Value)(h:H.length=32):Tryz.prog.built 101 [(0,.int .i64 k),(6,.int .i64 n),(4,.agg H.toArray)]=some (.int .i64 k :: .int .u32 0 :: .int .u64 0 :: .int .u64 0::(H++[.int .i64 0,.int .i64 n])).toArray:=by
 obtain⟨i,z,q,C,f⟩:=qc6 Tryz.zeroMsg;obtain⟨E,v,r⟩:=Tryz.placesMsg;rw[qbq q v C r];rw[qb4 (P:=[]) (z:= .int .i64 0) (R:= .int .u32 0 :: .int .u64 0 :: .int .u64 0::(zg.map (Value.int .u8)++[.int .i64 0,.int .i64 0])) rfl rfl rfl f];rw[qb4 (P:= .int .i64 k :: .int .u32 0 :: .int .u64 0 :: .int .u64 0::(zg.map (Value.int .u8)++[.int .i64 0])) (z:= .int .i64 0) (R:=[]) rfl rfl rfl (by rfl)];rw[qc9 (P:=[.int .i64 k,.int .u32 0,.int .u64 0,.int .u64 0]) (A:=H) (Z:=zg.map (Value.int .u8)) (R:=[.int .i64 0,.int .i64 n]) (off:=4) (by rw[h];rfl) rfl (by rw[h];rfl) (by rfl)];rw[Instr.fill];simp
theorem qwc(k n:Int)(h:List Int)(f:h.length=32)(w:World):(qiv #[(0,.int .i64 k),(6,.int .i64 n),(4,.agg (qu h).toArray)]).run Tryz.prog w = .ok (.agg (MsgV.cells ⟨k,0,0,0,h,0,n⟩).toArray) w :=
 run_build w _ _ _ (qz8 k n (qu h) (by rw[qal,f]))
theorem qz7(k c n:Int)(H:List Value)(h:H.length=32):Tryz.prog.built 101 [(0,.int .i64 k),(1,.int .u32 c),(6,.int .i64 n),(4,.agg H.toArray)]=some (.int .i64 k :: .int .u32 c :: .int .u64 0 :: .int .u64 0::(H++[.int .i64 0,.int .i64 n])).toArray:=by
 obtain⟨i,z,q,C,f⟩:=qc6 Tryz.zeroMsg;obtain⟨E,v,r⟩:=Tryz.placesMsg;rw[qbq q v C r];rw[qb4 (P:=[]) (z:= .int .i64 0) (R:= .int .u32 0 :: .int .u64 0 :: .int .u64 0::(zg.map (Value.int .u8)++[.int .i64 0,.int .i64 0])) rfl rfl rfl f];rw[qb4 (P:=[.int .i64 k]) (z:= .int .u32 0) (R:= .int .u64 0 :: .int .u64 0::(zg.map (Value.int .u8)++[.int .i64 0,.int .i64 0])) rfl rfl rfl (by rfl)];rw[qb4 (P:= .int .i64 k :: .int .u32 c :: .int .u64 0 :: .int .u64 0::(zg.map (Value.int .u8)++[.int .i64 0])) (z:= .int .i64 0) (R:=[]) rfl rfl rfl (by rfl)];rw[qc9 (P:=[.int .i64 k,.int .u32 c,.int .u64 0,.int .u64 0]) (A:=H) (Z:=zg.map (Value.int .u8)) (R:=[.int .i64 0,.int .i64 n]) (off:=4) (by rw[h];rfl) rfl (by rw[h];rfl) (by rfl)];rw[Instr.fill];simp
theorem qwb(k c n:Int)(h:List Int)(f:h.length=32)(w:World):(qiv #[(0,.int .i64 k),(1,.int .u32 c),(6,.int .i64 n),(4,.agg (qu h).toArray)]).run Tryz.prog w = .ok (.agg (MsgV.cells ⟨k,c,0,0,h,0,n⟩).toArray) w :=
 run_build w _ _ _ (qz7 k c n (qu h) (by rw[qal,f]))
theorem qz4(k f:Int)(H:List Value)(h:H.length=32):Tryz.prog.built 101 [(0,.int .i64 k),(2,.int .u64 f),(4,.agg H.toArray)]=some (.int .i64 k :: .int .u32 0 :: .int .u64 f :: .int .u64 0::(H++[.int .i64 0,.int .i64 0])).toArray:=by
 obtain⟨i,z,r,E,q⟩:=qc6 Tryz.zeroMsg;obtain⟨F,C,v⟩:=Tryz.placesMsg;rw[qbq r C E v];rw[qb4 (P:=[]) (z:= .int .i64 0) (R:= .int .u32 0 :: .int .u64 0 :: .int .u64 0::(zg.map (Value.int .u8)++[.int .i64 0,.int .i64 0])) rfl rfl rfl q];rw[qb4 (P:=[.int .i64 k,.int .u32 0]) (z:= .int .u64 0) (R:= .int .u64 0::(zg.map (Value.int .u8)++[.int .i64 0,.int .i64 0])) rfl rfl rfl (by rfl)];rw[qc9 (P:=[.int .i64 k,.int .u32 0,.int .u64 f,.int .u64 0]) (A:=H) (Z:=zg.map (Value.int .u8)) (R:=[.int .i64 0,.int .i64 0]) (off:=4) (by rw[h];rfl) rfl (by rw[h];rfl) (by rfl)];rw[Instr.fill];simp
theorem qn8(k f:Int)(h:List Int)(i:h.length=32)(w:World):(qiv #[(0,.int .i64 k),(2,.int .u64 f),(4,.agg (qu h).toArray)]).run Tryz.prog w = .ok (.agg (MsgV.cells ⟨k,0,f,0,h,0,0⟩).toArray) w :=
 run_build w _ _ _ (qz4 k f (qu h) (by rw[qal,i]))
theorem qtk(k f n:Int)(w:World):(qiv #[(0,.int .i64 k),(2,.int .u64 f),(6,.int .i64 n)]).run Tryz.prog w = .ok (.agg (MsgV.cells ⟨k,0,f,0,zg,0,n⟩).toArray) w:=run_build w _ _ _ (by kernel_rfl)
section
variable {w:World}{g:Nat}{S:Nat→Prop}{c:Ch}{lv nv av:Value}
theorem ChP.putSigned(h:ChP w g S c lv nv av)(n:Int)(f:0≤n∧n≤65535):ChP (w.setCell ⟨g,37,none⟩ (.int .i64 n)) g S {c with k:= {c.k with signed:=n}} lv nv av :=
 h.put (qyf c lv nv av h.ok.s.seed n) ⟨h.ok.s,f,h.ok.heard,h.ok.nextOwn,h.ok.nextTheirs,h.ok.loc,h.ok.rem,h.ok.xs,h.ok.few,h.ok.shelf,h.ok.news,h.ok.last,h.ok.many⟩ rfl rfl rfl
theorem ChP.putHeard(h:ChP w g S c lv nv av)(n:Int)(f:0≤n∧n<4294967296):ChP (w.setCell ⟨g,38,none⟩ (.int .i64 n)) g S {c with k:= {c.k with heard:=n}} lv nv av :=
 h.put (q2y c lv nv av h.ok.s.seed n) ⟨h.ok.s,h.ok.signed,f,h.ok.nextOwn,h.ok.nextTheirs,h.ok.loc,h.ok.rem,h.ok.xs,h.ok.few,h.ok.shelf,h.ok.news,h.ok.last,h.ok.many⟩ rfl rfl rfl
theorem ChP.putAwaits(h:ChP w g S c lv nv av)(b:Bool):ChP (w.setCell ⟨g,39,none⟩ (.bool b)) g S {c with k:= {c.k with awaits:=b}} lv nv av :=
 h.put (qye c lv nv av h.ok.s.seed b) ⟨h.ok.s,h.ok.signed,h.ok.heard,h.ok.nextOwn,h.ok.nextTheirs,h.ok.loc,h.ok.rem,h.ok.xs,h.ok.few,h.ok.shelf,h.ok.news,h.ok.last,h.ok.many⟩ rfl rfl rfl
theorem ChP.putShutHeard(h:ChP w g S c lv nv av)(b:Bool):ChP (w.setCell ⟨g,43,none⟩ (.bool b)) g S {c with k:= {c.k with shutHeard:=b}} lv nv av :=
 h.put (qp1 c lv nv av h.ok.s.seed b) ⟨h.ok.s,h.ok.signed,h.ok.heard,h.ok.nextOwn,h.ok.nextTheirs,h.ok.loc,h.ok.rem,h.ok.xs,h.ok.few,h.ok.shelf,h.ok.news,h.ok.last,h.ok.many⟩ rfl rfl rfl
theorem ChP.putRevoked(h:ChP w g S c lv nv av)(b:Bool):ChP (w.setCell ⟨g,44,none⟩ (.bool b)) g S {c with k:= {c.k with revoked:=b}} lv nv av :=
 h.put (qvl c lv nv av h.ok.s.seed b) ⟨h.ok.s,h.ok.signed,h.ok.heard,h.ok.nextOwn,h.ok.nextTheirs,h.ok.loc,h.ok.rem,h.ok.xs,h.ok.few,h.ok.shelf,h.ok.news,h.ok.last,h.ok.many⟩ rfl rfl rfl
theorem qpl(w:World)(g i:Nat)(v:Value):Upd (· = g) w (w.setCell ⟨g,i,none⟩ v):=(Upd.refl _ _).set1 i v
theorem ChP.seed(h:ChP w g S c lv nv av):zf w g 3 32=some (qu c.s.seed).toArray:=by
 have f:=h.ok.s.seed;have i:3+32≤(c.v lv nv av).cells.toArray.size:=by
  rw[List.size_toArray];unfold ChanV.cells;rw[List.length_append,(c.v lv nv av).setup.len f];omega
 rw[qb8 h.at_ 3 32 i];congr 1;apply Array.ext';rw[Array.toList_extract];unfold ChanV.cells;show List.extract (c.s.cells++_) 3 35=qu c.s.seed;unfold SetupV.cells;simp[f,qu]
theorem ChP.key(h:ChP w g S c lv nv av):w.cell? ⟨g,35,none⟩=some (.string c.s.key):=(h.toR.low 35 (by omega)).trans (c.s.c35 h.ok.s.seed)
theorem ChP.peer(h:ChP w g S c lv nv av):w.cell? ⟨g,36,none⟩=some (.string c.s.peer):=(h.toR.low 36 (by omega)).trans (c.s.c36 h.ok.s.seed)
theorem ChP.base(h:ChP w g S c lv nv av):zf w g 45 2=some #[.int .u64 c.loc,.int .u64 c.rem]:=by
 have q:=h.ok.s.seed;have i:(c.v lv nv av).cells=c.s.cells++(c.k.cells++([.int .u64 c.loc,.int .u64 c.rem]++(lv::((c.v lv nv av).told++[nv,av])))):=rfl;have f:c.s.cells.length=37:=c.s.len q;have r:45+2≤(c.v lv nv av).cells.toArray.size:=by
  rw[List.size_toArray,i,List.length_append,List.length_append,List.length_append,f];show 45+2≤37+(8+(2+_));omega
 rw[qb8 h.at_ 45 2 r];congr 1;apply Array.ext';rw[Array.toList_extract,i];show List.extract (c.s.cells++_) 45 47=_;rw[List.extract_eq_take_drop,List.drop_append,f,List.drop_of_length_le (by omega),List.nil_append];show List.take 2 (List.drop 8 (c.k.cells++_))=_;rw[List.drop_append_of_le_length (by show 8≤8;omega)];rfl
end
def zal(x:Value):Sem Value:=Instr.loadAt 59 x
theorem qms(x:Value):Instr.loadAt 59 x=zal x:=rfl
theorem q59(b o:Nat)(w:World):(zal (.pointer (some ⟨b,o,none⟩))).run Tryz.prog w=match zf w b o 2 with | some A=> .ok (.agg A) w | none=>qdn Tryz.prog 59 w b o :=
 qah 59 2 _ Tryz.underlying59 rfl Tryz.infoBase b o w
def qb6(base:Nat)(w:World)(v:Value)(f:List MsgV):Prop:=w.ownsRow base 101 38 v f.length (f.flatMap MsgV.cells)
theorem qb6.nil(base:Nat)(w:World):qb6 base w qcu []:=World.ownsRow_nil _ _ _ _
end
section
open Go.RowKit Go.Shelf
attribute [local go_sem] Oper.semAt_some
def hiB(i d k:Nat):List Nat:=((List.range' k (d-k)).reverse).filter fun b=>i.testBit b
theorem q9b(i d:Nat):hiB i d d=[]:=by simp[hiB]
theorem qug{i d k:Nat}(h:k<d):hiB i d k=hiB i d (k+1)++(if i.testBit k then [k] else []):=by
 unfold hiB;rw[show d-k=(d-(k+1))+1 by omega,List.range'_succ,List.reverse_cons,List.filter_append];cases f:i.testBit k<;>simp[f]
theorem qoq{i d:Nat} : ∀ {k:Nat},k≤d→hiB i d k <+: hiB i d 0
 | 0,_=>List.prefix_refl _
 | k+1,h=>by
  refine List.IsPrefix.trans ?_ (qoq (k:=k) (by omega));rw[qug (show k<d by omega)];exact List.prefix_append _ _
def hiF(i d k:Nat):List (Fin 16):=(hiB i d k).map (Fin.ofNat 16)
theorem q9c(i d:Nat):hiF i d d=[]:=by unfold hiF;rw[q9b];rfl
theorem q5w{i d k:Nat}(h:k<d)(f:k<16):hiF i d k=hiF i d (k+1)++(if i.testBit k then [⟨k,f⟩] else []):=by
 unfold hiF;rw[qug h,List.map_append];have e:Fin.ofNat 16 k=⟨k,f⟩:=Fin.ext (Nat.mod_eq_of_lt f);cases i.testBit k<;>simp[e]
theorem qxc{i d k:Nat}(h:k≤d):hiF i d k <+: hiF i d 0:=by
 obtain⟨r,f⟩:=qoq (i:=i) h;exact⟨r.map (Fin.ofNat 16),by unfold hiF;rw[←List.map_append,f]⟩
theorem q9d{i d:Nat}(hd:d≤16):(hiF i d 0).map (·.1)=hiB i d 0:=by
 unfold hiF;rw[List.map_map];refine(List.map_congr_left (g:=id) fun b f=> ?_).trans (List.map_id _);have:b<16:=by
  unfold hiB at f;rw[List.mem_filter,List.mem_reverse,List.mem_range'_1] at f;omega
 exact Nat.mod_eq_of_lt this
theorem q9y(i k:Nat):(i:Int) / 2 ^ k=((i / 2 ^ k:Nat):Int):=by
 rw[Int.natCast_ediv];rfl
theorem q8f(x:Nat)(h:x<9223372036854775808):bits .and .i64 (x:Int) 1=((x%2:Nat):Int):=by
 show IntKind.i64.wrap ((BitVec.ofInt 64 (x:Int) &&& BitVec.ofInt 64 (1:Int)).toNat:Int)=_;rw[BitVec.toNat_and,qfe _ (by omega),show (BitVec.ofInt 64 (1:Int)).toNat=1 from rfl,Nat.and_one_is_mod,qnq _ (by omega)]
theorem q4b(i k:Nat)(h:i<65536):(bits .and .i64 ((i:Int) / 2 ^ k) 1==1)=i.testBit k:=by
 have f:i / 2 ^ k<65536:=Nat.lt_of_le_of_lt (Nat.div_le_self _ _) h;rw[q9y,q8f _ (by omega),Nat.testBit_eq_decide_div_mod_eq];rcases Nat.mod_two_eq_zero_or_one (i / 2 ^ k) with e | e<;>rw[e]<;>rfl
def KpB(B:Nat)(W f:World):Prop:=∀v,W.cell? ⟨B,0,none⟩=some v→f.cell? ⟨B,0,none⟩=some v
theorem q6x(F:Fence)(n:Nat)(h6:F.fn 232)(R:F.round=none)(hn:1≤n)(l Bd Bi:Nat)(i d:Nat)(hi:i<65536)(hd:d≤16)(J Jx:List (Fin 16)→World→Prop)
  (hY:∀pre x W,J pre W→pre.length<16→YieldAt F (n-1) Tryz.prog l #[.int .i64 (x.1:Nat)] W fun e z =>
   (e = .returned (.bool true)∧J (pre++[x]) z∧KpB Bi W z)∨(e = .returned (.bool false)∧Jx (pre++[x]) z))
  (W:World) (a6:W.cell? ⟨Bd,0,none⟩=some (.int .i64 d)) (M:W.cell? ⟨Bi,0,none⟩=some (.int .i64 i)) (Z:J [] W) :
  CallsIn F n Tryz.prog 232 #[.func (.yield l) #[] #[],.pointer (some ⟨Bd,0,none⟩),.pointer (some ⟨Bi,0,none⟩)] W fun e z=>(∃v,e = .returned v) ∧
   ((∃X,X=hiF i d 0∧J X z)∨(∃pre,pre <+: hiF i d 0∧Jx pre z)):=by
 refine callsIn_of_wp Tryz.func232 rfl h6 ?_ R
 simp only[Tryz.ntmps232,List.size_toArray,List.length_cons,List.length_nil,Nat.reduceAdd,Nat.reduceSub,Array.replicate_succ,Array.replicate_zero,List.push_toArray,List.append_toArray,List.nil_append,List.cons_append]
 have hw:IntKind.i64.wrap ((d:Int)-1)=(d:Int)-1:=by rw[IntKind.wrap_i64];omega
 gi_wp2
 gi_loopw [4] (fun p wr=>∃k:Nat,p = .int .i64 ((k:Int)-1)∧k≤d∧J (hiF i d k) wr∧wr.cell? ⟨Bi,0,none⟩=some (.int .i64 i)) (fun p wr=>(intOf p+1).toNat)
 case atStart=>exact⟨d,by simp,Nat.le_refl _,by rw[q9c];exact Z,M⟩
 case round =>
  obtain⟨k,rfl,hk,L,r⟩:=hrel;cases k with
  | zero =>
   gi_wp2;go_end0;exact⟨⟨_,rfl⟩,.inl ⟨hiF i d 0,rfl,L⟩⟩
  | succ k =>
   have O:((k+1:Nat):Int)-1=(k:Int):=by omega
   rw[O];have a7:(0:Int)≤(k:Int):=by omega
   have I:(hiF i d (k+1)).length<16:=by
    unfold hiF hiB;rw[List.length_map];refine Nat.lt_of_le_of_lt (List.length_filter_le _ _) ?_;simp;omega
   obtain⟨fn,tmps,K,T,V,U⟩:=hY (hiF i d (k+1)) ⟨k,by omega⟩ wr L I;dsimp only at V;have m:=q4b i k hi;have f:=q5w (i:=i) (show k<d from hk) (by omega);cases q:i.testBit k with
   | true =>
    rw[q,if_pos rfl] at f;rw[q] at m;have C:=qb f;clear f;gi_wp2;refine U.mono ?_;rintro e Y (⟨rfl,N,P⟩ | ⟨rfl,H⟩)
    ·have E:Y.cell? ⟨Bi,0,none⟩=some (.int .i64 i):=P _ r;have S:IntKind.i64.wrap ((k:Int)-1)=(k:Int)-1:=by rw[IntKind.wrap_i64];omega
     gi_wp2;go_roundw
     case rel=>exact⟨k,rfl,by omega,by rw[qa C];exact N,E⟩
     case measure=>simp[intOf]
    ·gi_wp2;refine bodyPost_ret (results_none rfl _ _ _) rfl ?_;refine⟨⟨_,rfl⟩,.inr ⟨hiF i d (k+1)++[⟨k,by omega⟩],?_,H⟩⟩;rw[←qa C];exact qxc (by omega)
   | false =>
    rw[q,if_neg (by simp),List.append_nil] at f;rw[q] at m;have S:IntKind.i64.wrap ((k:Int)-1)=(k:Int)-1:=by rw[IntKind.wrap_i64];omega
    rw[←f] at L;clear f U V;gi_wp2;refine⟨fun _ h=>(by cases h),?_⟩;gi_wp2;go_roundw
    case rel=>exact⟨k,rfl,by omega,L,r⟩
    case measure=>simp[intOf]
end
end Go.Proofs.YtfmkdoachjgjbaaGreatDoor
