/-
  Hashes in cells: made, loaded, stored, built of nothing.
-/
import Derived.Test.YtjpmomdechibmaaGreatDoorMaf
import Derived.Test.YtjpmomdechibmaaGreatDoorHr1
import Derived.Test.YtjpmomdechibmaaGreatDoorProg
import Derived.Test.YtjpmomdechibmaaGreatDoorMaa
import Derived.RangeFuncNested
import Derived.RangeFuncBound
import Derived.RangeFuncCalls
import Derived.RangeFuncLeaves
import Derived.Shelf.Abstract
import Derived.Shelf.RegionOpen
import Derived.WalkKit
import Derived.OwnWalkIn
import Derived.TacticsInMore
import Derived.LoopNIn
import Derived.LoopIn
import Derived.Test.YtjpmomdechibmaaGreatDoorRows
import Derived.Deep.RegionHeld3
import Derived.OpenShut
set_option linter.unusedVariables false
set_option linter.unusedSimpArgs false
namespace Go.Proofs.YtjpmomdechibmaaGreatDoor
open Go.RowKit
def zb(h:List Int):List Value:=h.map (Value.int .u8)
theorem qaw(h:List Int):(zb h).length=h.length:=by simp[zb]
theorem qwd(h:List Int):∀v∈zb h,v.oneCell'=true:=by
 intro v f
 obtain⟨x,_,rfl⟩:=List.mem_map.1 f
 rfl
def zaz:Sem Value:=Instr.alloc 28 true (.tuple #[])
theorem qan:Instr.alloc 28 true (.tuple #[])=zaz:=rfl
theorem qdr(w:World):zaz.run Tryz.prog w = .ok (.pointer (some ⟨w.heap.size,0,none⟩)) (w.alloc (.cells (zb zz).toArray 28)):=by kernel_rfl
def q0u(p:Array (Nat × Value)):Sem Value:=Instr.build 28 p
theorem qa0(p:Array (Nat × Value)):Instr.build 28 p=q0u p:=rfl
theorem qfx(w:World):(q0u #[]).run Tryz.prog w = .ok (.agg (zb zz).toArray) w:=run_build w _ _ _ (by kernel_rfl)
structure HsB(w:World)(b:Nat)(h:List Int):Prop where
 at_:w.heap[b]? = some (.cells (zb h).toArray 28 (0,0))
 len:h.length=32
theorem HsB.upd{S:Nat→Prop}{w w':World}{b:Nat}{h:List Int}(a:HsB w b h)(u:Upd S w w')(n:¬S b):HsB w' b h:=⟨u.old a.at_ n,a.len⟩
theorem HsB.new{w w':World}{b:Nat}{h:List Int}(a:HsB w b h)(u:qx w w'):HsB w' b h:=a.upd u (fun h=>h)
theorem HsB.row{w:World}{b:Nat}{h:List Int}(a:HsB w b h):zr w b 0 32=some (zb h).toArray:=qaj a.at_ 32 (by rw[List.size_toArray,qaw,a.len])
theorem HsB.stOk{w:World}{b:Nat}{h:List Int}(a:HsB w b h)(k:List Int)(f:k.length=32):stOk w b 0 32 (zb k).toArray=true:=by
 have:=qez a.at_ (A:=zb k) (by rw[List.size_toArray,qaw,qaw,a.len,f]) (qwd k)
 rwa [List.size_toArray,qaw,a.len] at this
theorem HsB.put{w:World}{b:Nat}{h:List Int}(a:HsB w b h)(k:List Int)(f:k.length=32):HsB (w.setCells b 0 (zb k)) b k:=by
 refine⟨?_,f⟩
 rw[qa1 a.at_ 0 _,qcu _ _ (by rw[List.size_toArray,qaw,qaw,a.len,f])]
theorem HsB.lt{w:World}{b:Nat}{h:List Int}(a:HsB w b h):b<w.heap.size:=zq a.at_
theorem qby(w:World)(h:List Int)(f:h.length=32):HsB (w.alloc (.cells (zb h).toArray 28)) w.heap.size h:=⟨qi _ _,f⟩
theorem qad{w:World}{b:Nat}(l:List Value):Upd (· = b) w (w.setCells b 0 l):=(Upd.refl _ _).setCells 0 l
def qr1(w:World)(k:List Int):World:=(w.alloc (.cells (zb zz).toArray 28)).setCells w.heap.size 0 (zb k)
theorem qpm(w:World)(k:List Int)(g:k.length=32):stOk (w.alloc (.cells (zb zz).toArray 28)) w.heap.size 0 32 (zb k).toArray=true∧HsB (qr1 w k) w.heap.size k∧qx w (qr1 w k):=by
 have f:=qby w zz qo
 exact⟨f.stOk k g,f.put k g,(((Upd.refl (fun _=>False) w).alloc _)).then (qad _) (fun i j e=>by omega)⟩
structure MsB(w:World)(b:Nat)(m:MsgV):Prop where
 at_:w.heap[b]? = some (.cells m.cells.toArray 30 (0,0))
 len:m.hash.length=32
section
variable {S:Nat→Prop}{w w':World}{b:Nat}{m:MsgV}
theorem MsB.upd(a:MsB w b m)(u:Upd S w w')(n:¬S b):MsB w' b m:=⟨u.old a.at_ n,a.len⟩
theorem MsB.new(a:MsB w b m)(u:qx w w'):MsB w' b m:=a.upd u (fun h=>h)
theorem MsB.lt(a:MsB w b m):b<w.heap.size:=zq a.at_
theorem MsB.row(a:MsB w b m):zr w b 0 38=some m.cells.toArray:=qaj a.at_ 38 (by rw[List.size_toArray,m.len a.len])
theorem MsB.stOk(a:MsB w b m){k:MsgV}(f:k.hash.length=32):stOk w b 0 38 k.cells.toArray=true:=by
 have:=qez a.at_ (A:=k.cells) (by rw[List.size_toArray,m.len a.len,k.len f]) k.one
 rwa [List.size_toArray,m.len a.len] at this
theorem MsB.put(a:MsB w b m){k:MsgV}(f:k.hash.length=32):MsB (w.setCells b 0 k.cells) b k:=by
 refine⟨?_,f⟩
 rw[qa1 a.at_ 0 _,qcu _ _ (by rw[List.size_toArray,m.len a.len,k.len f])]
theorem MsB.cells(a:MsB w b m):w.cell? ⟨b,0,none⟩=some (.int .i64 m.kind)∧w.cell? ⟨b,1,none⟩=some (.int .u32 m.ch)∧w.cell? ⟨b,2,none⟩=some (.int .u64 m.id)∧w.cell? ⟨b,3,none⟩=some (.int .u64 m.amount)∧w.cell? ⟨b,36,none⟩=some (.int .i64 m.expiry)∧w.cell? ⟨b,37,none⟩=some (.int .i64 m.number)∧zr w b 4 32=some (zb m.hash).toArray:=qt6 m a.at_ a.len
end
theorem qb6(w:World)(m:MsgV)(f:m.hash.length=32):MsB (w.alloc (.cells m.cells.toArray 30)) w.heap.size m:=⟨qi _ _,f⟩
def qfr(w:World)(k:MsgV):World:=(w.alloc (.cells MsgV.zero.cells.toArray 30)).setCells w.heap.size 0 k.cells
theorem qgu(w:World)(k:MsgV)(j:k.hash.length=32):stOk (w.alloc (.cells MsgV.zero.cells.toArray 30)) w.heap.size 0 38 k.cells.toArray=true∧MsB (qfr w k) w.heap.size k∧qx w (qfr w k):=by
 have f:=qb6 w MsgV.zero qo
 exact⟨f.stOk j,f.put j,(((Upd.refl (fun _=>False) w).alloc _)).then (qad _) (fun i l e=>by omega)⟩
theorem MsB.agg{w:World}{b:Nat}{m:MsgV}(a:MsB w b m):m.cells.toArray.size=38:=by rw[List.size_toArray,m.len a.len]
theorem q13(k n:Int)(H:List Value)(h:H.length=32):Tryz.prog.built 30 [(0,.int .i64 k),(6,.int .i64 n),(4,.agg H.toArray)]=some (.int .i64 k :: .int .u32 0 :: .int .u64 0 :: .int .u64 0::(H++[.int .i64 0,.int .i64 n])).toArray:=by
 obtain⟨i,z,j,q,f⟩:=qdo Tryz.zeroMsg
 obtain⟨t,o,l⟩:=Tryz.placesMsg
 rw[qbv j o q l]
 rw[qcf (P:=[]) (z:= .int .i64 0) (R:= .int .u32 0 :: .int .u64 0 :: .int .u64 0::(zz.map (Value.int .u8)++[.int .i64 0,.int .i64 0])) rfl rfl rfl f]
 rw[qcf (P:= .int .i64 k :: .int .u32 0 :: .int .u64 0 :: .int .u64 0::(zz.map (Value.int .u8)++[.int .i64 0])) (z:= .int .i64 0) (R:=[]) rfl rfl rfl (by rfl)]
 rw[qee (P:=[.int .i64 k,.int .u32 0,.int .u64 0,.int .u64 0]) (A:=H) (Z:=zz.map (Value.int .u8)) (R:=[.int .i64 0,.int .i64 n]) (off:=4) (by rw[h];rfl) rfl (by rw[h];rfl) (by rfl)]
 rw[Instr.fill]
 simp
theorem qyg(k n:Int)(h:List Int)(f:h.length=32)(w:World):(qju #[(0,.int .i64 k),(6,.int .i64 n),(4,.agg (zb h).toArray)]).run Tryz.prog w = .ok (.agg (MsgV.cells ⟨k,0,0,0,h,0,n⟩).toArray) w :=
 run_build w _ _ _ (q13 k n (zb h) (by rw[qaw,f]))
theorem q12(k c n:Int)(H:List Value)(h:H.length=32):Tryz.prog.built 30 [(0,.int .i64 k),(1,.int .u32 c),(6,.int .i64 n),(4,.agg H.toArray)]=some (.int .i64 k :: .int .u32 c :: .int .u64 0 :: .int .u64 0::(H++[.int .i64 0,.int .i64 n])).toArray:=by
 obtain⟨i,z,j,q,f⟩:=qdo Tryz.zeroMsg
 obtain⟨t,o,l⟩:=Tryz.placesMsg
 rw[qbv j o q l]
 rw[qcf (P:=[]) (z:= .int .i64 0) (R:= .int .u32 0 :: .int .u64 0 :: .int .u64 0::(zz.map (Value.int .u8)++[.int .i64 0,.int .i64 0])) rfl rfl rfl f]
 rw[qcf (P:=[.int .i64 k]) (z:= .int .u32 0) (R:= .int .u64 0 :: .int .u64 0::(zz.map (Value.int .u8)++[.int .i64 0,.int .i64 0])) rfl rfl rfl (by rfl)]
 rw[qcf (P:= .int .i64 k :: .int .u32 c :: .int .u64 0 :: .int .u64 0::(zz.map (Value.int .u8)++[.int .i64 0])) (z:= .int .i64 0) (R:=[]) rfl rfl rfl (by rfl)]
 rw[qee (P:=[.int .i64 k,.int .u32 c,.int .u64 0,.int .u64 0]) (A:=H) (Z:=zz.map (Value.int .u8)) (R:=[.int .i64 0,.int .i64 n]) (off:=4) (by rw[h];rfl) rfl (by rw[h];rfl) (by rfl)]
 rw[Instr.fill]
 simp
theorem qyf(k c n:Int)(h:List Int)(f:h.length=32)(w:World):(qju #[(0,.int .i64 k),(1,.int .u32 c),(6,.int .i64 n),(4,.agg (zb h).toArray)]).run Tryz.prog w = .ok (.agg (MsgV.cells ⟨k,c,0,0,h,0,n⟩).toArray) w :=
 run_build w _ _ _ (q12 k c n (zb h) (by rw[qaw,f]))
theorem q1y(k f:Int)(H:List Value)(h:H.length=32):Tryz.prog.built 30 [(0,.int .i64 k),(2,.int .u64 f),(4,.agg H.toArray)]=some (.int .i64 k :: .int .u32 0 :: .int .u64 f :: .int .u64 0::(H++[.int .i64 0,.int .i64 0])).toArray:=by
 obtain⟨i,z,l,t,j⟩:=qdo Tryz.zeroMsg
 obtain⟨v,q,o⟩:=Tryz.placesMsg
 rw[qbv l q t o]
 rw[qcf (P:=[]) (z:= .int .i64 0) (R:= .int .u32 0 :: .int .u64 0 :: .int .u64 0::(zz.map (Value.int .u8)++[.int .i64 0,.int .i64 0])) rfl rfl rfl j]
 rw[qcf (P:=[.int .i64 k,.int .u32 0]) (z:= .int .u64 0) (R:= .int .u64 0::(zz.map (Value.int .u8)++[.int .i64 0,.int .i64 0])) rfl rfl rfl (by rfl)]
 rw[qee (P:=[.int .i64 k,.int .u32 0,.int .u64 f,.int .u64 0]) (A:=H) (Z:=zz.map (Value.int .u8)) (R:=[.int .i64 0,.int .i64 0]) (off:=4) (by rw[h];rfl) rfl (by rw[h];rfl) (by rfl)]
 rw[Instr.fill]
 simp
theorem qo1(k f:Int)(h:List Int)(i:h.length=32)(w:World):(qju #[(0,.int .i64 k),(2,.int .u64 f),(4,.agg (zb h).toArray)]).run Tryz.prog w = .ok (.agg (MsgV.cells ⟨k,0,f,0,h,0,0⟩).toArray) w :=
 run_build w _ _ _ (q1y k f (zb h) (by rw[qaw,i]))
theorem qvb(k f n:Int)(w:World):(qju #[(0,.int .i64 k),(2,.int .u64 f),(6,.int .i64 n)]).run Tryz.prog w = .ok (.agg (MsgV.cells ⟨k,0,f,0,zz,0,n⟩).toArray) w:=run_build w _ _ _ (by kernel_rfl)
section
variable {w:World}{g:Nat}{S:Nat→Prop}{c:Ch}{lv nv av:Value}
theorem ChP.putSigned(h:ChP w g S c lv nv av)(n:Int)(f:0≤n∧n≤65535):ChP (w.setCell ⟨g,37,none⟩ (.int .i64 n)) g S {c with k:= {c.k with signed:=n}} lv nv av :=
 h.put (qz9 c lv nv av h.ok.s.seed n) ⟨h.ok.s,f,h.ok.heard,h.ok.nextOwn,h.ok.nextTheirs,h.ok.loc,h.ok.rem,h.ok.xs,h.ok.few,h.ok.shelf,h.ok.news,h.ok.last,h.ok.many⟩ rfl rfl rfl
theorem ChP.putHeard(h:ChP w g S c lv nv av)(n:Int)(f:0≤n∧n<4294967296):ChP (w.setCell ⟨g,38,none⟩ (.int .i64 n)) g S {c with k:= {c.k with heard:=n}} lv nv av :=
 h.put (q38 c lv nv av h.ok.s.seed n) ⟨h.ok.s,h.ok.signed,f,h.ok.nextOwn,h.ok.nextTheirs,h.ok.loc,h.ok.rem,h.ok.xs,h.ok.few,h.ok.shelf,h.ok.news,h.ok.last,h.ok.many⟩ rfl rfl rfl
theorem ChP.putAwaits(h:ChP w g S c lv nv av)(b:Bool):ChP (w.setCell ⟨g,39,none⟩ (.bool b)) g S {c with k:= {c.k with awaits:=b}} lv nv av :=
 h.put (qz6 c lv nv av h.ok.s.seed b) ⟨h.ok.s,h.ok.signed,h.ok.heard,h.ok.nextOwn,h.ok.nextTheirs,h.ok.loc,h.ok.rem,h.ok.xs,h.ok.few,h.ok.shelf,h.ok.news,h.ok.last,h.ok.many⟩ rfl rfl rfl
theorem ChP.putShutHeard(h:ChP w g S c lv nv av)(b:Bool):ChP (w.setCell ⟨g,43,none⟩ (.bool b)) g S {c with k:= {c.k with shutHeard:=b}} lv nv av :=
 h.put (qrc c lv nv av h.ok.s.seed b) ⟨h.ok.s,h.ok.signed,h.ok.heard,h.ok.nextOwn,h.ok.nextTheirs,h.ok.loc,h.ok.rem,h.ok.xs,h.ok.few,h.ok.shelf,h.ok.news,h.ok.last,h.ok.many⟩ rfl rfl rfl
theorem ChP.putRevoked(h:ChP w g S c lv nv av)(b:Bool):ChP (w.setCell ⟨g,44,none⟩ (.bool b)) g S {c with k:= {c.k with revoked:=b}} lv nv av :=
 h.put (qxm c lv nv av h.ok.s.seed b) ⟨h.ok.s,h.ok.signed,h.ok.heard,h.ok.nextOwn,h.ok.nextTheirs,h.ok.loc,h.ok.rem,h.ok.xs,h.ok.few,h.ok.shelf,h.ok.news,h.ok.last,h.ok.many⟩ rfl rfl rfl
theorem qf2(w:World)(g i:Nat)(v:Value):Upd (· = g) w (w.setCell ⟨g,i,none⟩ v):=(Upd.refl _ _).set1 i v
theorem ChP.seed(h:ChP w g S c lv nv av):zr w g 3 32=some (zb c.s.seed).toArray:=by
 have f:=h.ok.s.seed
 have i:3+32≤(c.v lv nv av).cells.toArray.size:=by
  rw[List.size_toArray]
  unfold ChanV.cells
  rw[List.length_append,(c.v lv nv av).setup.len f]
  omega
 rw[qbz h.at_ 3 32 i]
 congr 1
 apply Array.ext'
 rw[Array.toList_extract]
 unfold ChanV.cells
 show List.extract (c.s.cells++_) 3 35=zb c.s.seed
 unfold SetupV.cells
 simp[f,zb]
theorem ChP.key(h:ChP w g S c lv nv av):w.cell? ⟨g,35,none⟩=some (.string c.s.key):=(h.toR.low 35 (by omega)).trans (c.s.c35 h.ok.s.seed)
theorem ChP.peer(h:ChP w g S c lv nv av):w.cell? ⟨g,36,none⟩=some (.string c.s.peer):=(h.toR.low 36 (by omega)).trans (c.s.c36 h.ok.s.seed)
theorem ChP.base(h:ChP w g S c lv nv av):zr w g 45 2=some #[.int .u64 c.loc,.int .u64 c.rem]:=by
 have j:=h.ok.s.seed
 have i:(c.v lv nv av).cells=c.s.cells++(c.k.cells++([.int .u64 c.loc,.int .u64 c.rem]++(lv::((c.v lv nv av).told++[nv,av])))):=rfl
 have f:c.s.cells.length=37:=c.s.len j
 have l:45+2≤(c.v lv nv av).cells.toArray.size:=by
  rw[List.size_toArray,i,List.length_append,List.length_append,List.length_append,f]
  show 45+2≤37+(8+(2+_))
  omega
 rw[qbz h.at_ 45 2 l]
 congr 1
 apply Array.ext'
 rw[Array.toList_extract,i]
 show List.extract (c.s.cells++_) 45 47=_
 rw[List.extract_eq_take_drop,List.drop_append,f,List.drop_of_length_le (by omega),List.nil_append]
 show List.take 2 (List.drop 8 (c.k.cells++_))=_
 rw[List.drop_append_of_le_length (by show 8≤8;omega)]
 rfl
end
def za8(x:Value):Sem Value:=Instr.loadAt 53 x
theorem qnt(x:Value):Instr.loadAt 53 x=za8 x:=rfl
theorem q6t(b o:Nat)(w:World):(za8 (.pointer (some ⟨b,o,none⟩))).run Tryz.prog w=match zr w b o 2 with | some A=> .ok (.agg A) w | none=>qdk Tryz.prog 53 w b o :=
 zt 53 2 _ Tryz.underlying53 rfl Tryz.infoBase b o w
def qcj(base:Nat)(w:World)(v:Value)(f:List MsgV):Prop:=w.ownsRow base 30 38 v f.length (f.flatMap MsgV.cells)
theorem qcj.nil(base:Nat)(w:World):qcj base w qbl []:=World.ownsRow_nil _ _ _ _
end Go.Proofs.YtjpmomdechibmaaGreatDoor
namespace Go.Proofs.YtjpmomdechibmaaGreatDoor
open Go.RowKit Go.Shelf
attribute [local go_sem] Oper.semAt_some
def hiB(i d k:Nat):List Nat:=((List.range' k (d-k)).reverse).filter fun b=>i.testBit b
theorem q9t(i d:Nat):hiB i d d=[]:=by simp[hiB]
theorem qwc{i d k:Nat}(h:k<d):hiB i d k=hiB i d (k+1)++(if i.testBit k then [k] else []):=by
 unfold hiB
 rw[show d-k=(d-(k+1))+1 by omega,List.range'_succ,List.reverse_cons,List.filter_append]
 cases f:i.testBit k<;>simp[f]
theorem qpl{i d:Nat} : ∀ {k:Nat},k≤d→hiB i d k <+: hiB i d 0
 | 0,_=>List.prefix_refl _
 | k+1,h=>by
  refine List.IsPrefix.trans ?_ (qpl (k:=k) (by omega))
  rw[qwc (show k<d by omega)]
  exact List.prefix_append _ _
def hiF(i d k:Nat):List (Fin 16):=(hiB i d k).map (Fin.ofNat 16)
theorem q9u(i d:Nat):hiF i d d=[]:=by unfold hiF;rw[q9t];rfl
theorem q6j{i d k:Nat}(h:k<d)(f:k<16):hiF i d k=hiF i d (k+1)++(if i.testBit k then [⟨k,f⟩] else []):=by
 unfold hiF
 rw[qwc h,List.map_append]
 have e:Fin.ofNat 16 k=⟨k,f⟩:=Fin.ext (Nat.mod_eq_of_lt f)
 cases i.testBit k<;>simp[e]
theorem qy9{i d k:Nat}(h:k≤d):hiF i d k <+: hiF i d 0:=by
 obtain⟨r,f⟩:=qpl (i:=i) h
 exact⟨r.map (Fin.ofNat 16),by unfold hiF;rw[←List.map_append,f]⟩
theorem q9v{i d:Nat}(j:d≤16):(hiF i d 0).map (·.1)=hiB i d 0:=by
 unfold hiF
 rw[List.map_map]
 refine(List.map_congr_left (g:=id) fun b f=> ?_).trans (List.map_id _)
 have:b<16:=by
  unfold hiB at f
  rw[List.mem_filter,List.mem_reverse,List.mem_range'_1] at f
  omega
 exact Nat.mod_eq_of_lt this
theorem zaj(i k:Nat):(i:Int) / 2 ^ k=((i / 2 ^ k:Nat):Int):=by
 rw[Int.natCast_ediv]
 rfl
theorem q8z(x:Nat)(h:x<9223372036854775808):bits .and .i64 (x:Int) 1=((x%2:Nat):Int):=by
 show IntKind.i64.wrap ((BitVec.ofInt 64 (x:Int) &&& BitVec.ofInt 64 (1:Int)).toNat:Int)=_
 rw[BitVec.toNat_and,qws _ (by omega),show (BitVec.ofInt 64 (1:Int)).toNat=1 from rfl,Nat.and_one_is_mod,qt1 _ (by omega)]
theorem q5b(i k:Nat)(h:i<65536):(bits .and .i64 ((i:Int) / 2 ^ k) 1==1)=i.testBit k:=by
 have f:i / 2 ^ k<65536:=Nat.lt_of_le_of_lt (Nat.div_le_self _ _) h
 rw[zaj,q8z _ (by omega),Nat.testBit_eq_decide_div_mod_eq]
 rcases Nat.mod_two_eq_zero_or_one (i / 2 ^ k) with e | e<;>rw[e]<;>rfl
def KpB(B:Nat)(W f:World):Prop:=∀v,W.cell? ⟨B,0,none⟩=some v→f.cell? ⟨B,0,none⟩=some v
set_option maxRecDepth 100000 in
set_option maxHeartbeats 2000000 in
theorem q7j(F:Fence)(n:Nat)(U:F.fn 127)(K:F.round=none)(hn:1≤n)(l Bd Bi:Nat)(i d:Nat)(Y:i<65536)(hd:d≤16)(J Jx:List (Fin 16)→World→Prop)
  (X:∀pre x W,J pre W→pre.length<16→YieldAt F (n-1) Tryz.prog l #[.int .i64 (x.1:Nat)] W fun e o =>
   (e = .returned (.bool true)∧J (pre++[x]) o∧KpB Bi W o)∨(e = .returned (.bool false)∧Jx (pre++[x]) o))
  (W:World) (V:W.cell? ⟨Bd,0,none⟩=some (.int .i64 d)) (D:W.cell? ⟨Bi,0,none⟩=some (.int .i64 i)) (T:J [] W) :
  CallsIn F n Tryz.prog 127 #[.func (.yield l) #[] #[],.pointer (some ⟨Bd,0,none⟩),.pointer (some ⟨Bi,0,none⟩)] W fun e o=>(∃v,e = .returned v) ∧
   ((∃P,P=hiF i d 0∧J P o)∨(∃pre,pre <+: hiF i d 0∧Jx pre o)):=by
 refine callsIn_of_wp Tryz.func127 rfl U ?_ K
 simp only[Tryz.ntmps127,List.size_toArray,List.length_cons,List.length_nil,Nat.reduceAdd,Nat.reduceSub,Array.replicate_succ,Array.replicate_zero,List.push_toArray,List.append_toArray,List.nil_append,List.cons_append]
 have hw:IntKind.i64.wrap ((d:Int)-1)=(d:Int)-1:=by rw[IntKind.wrap_i64];omega
 gi_wp2
 gi_loopw [4] (fun p wr=>∃k:Nat,p = .int .i64 ((k:Int)-1)∧k≤d∧J (hiF i d k) wr∧wr.cell? ⟨Bi,0,none⟩=some (.int .i64 i)) (fun p wr=>(intOf p+1).toNat)
 case atStart=>exact⟨d,by simp,Nat.le_refl _,by rw[q9u];exact T,D⟩
 case round =>
  obtain⟨k,rfl,Z,C,m⟩:=hrel
  cases k with
  | zero =>
   gi_wp2
   go_end0
   exact⟨⟨_,rfl⟩,.inl ⟨hiF i d 0,rfl,C⟩⟩
  | succ k =>
   have H:((k+1:Nat):Int)-1=(k:Int):=by omega
   rw[H]
   have a4:(0:Int)≤(k:Int):=by omega
   have y:(hiF i d (k+1)).length<16:=by
    unfold hiF hiB
    rw[List.length_map]
    refine Nat.lt_of_le_of_lt (List.length_filter_le _ _) ?_
    simp
    omega
   obtain⟨fn,tmps,z,M,O,N⟩:=X (hiF i d (k+1)) ⟨k,by omega⟩ wr C y
   dsimp only at O
   have g:=q5b i k Y
   have f:=q6j (i:=i) (show k<d from Z) (by omega)
   cases j:i.testBit k with
   | true =>
    rw[j,if_pos rfl] at f
    rw[j] at g
    have q:=qb f
    clear f
    gi_wp2
    refine N.mono ?_
    rintro e R (⟨rfl,E,I⟩ | ⟨rfl,w⟩)
    ·have t:R.cell? ⟨Bi,0,none⟩=some (.int .i64 i):=I _ m
     have L:IntKind.i64.wrap ((k:Int)-1)=(k:Int)-1:=by rw[IntKind.wrap_i64];omega
     gi_wp2
     go_roundw
     case rel=>exact⟨k,rfl,by omega,by rw[qa q];exact E,t⟩
     case measure=>simp[intOf]
    ·gi_wp2
     refine bodyPost_ret (results_none rfl _ _ _) rfl ?_
     refine⟨⟨_,rfl⟩,.inr ⟨hiF i d (k+1)++[⟨k,by omega⟩],?_,w⟩⟩
     rw[←qa q]
     exact qy9 (by omega)
   | false =>
    rw[j,if_neg (by simp),List.append_nil] at f
    rw[j] at g
    have L:IntKind.i64.wrap ((k:Int)-1)=(k:Int)-1:=by rw[IntKind.wrap_i64];omega
    rw[←f] at C
    clear f N O
    gi_wp2
    refine⟨fun _ h=>(by cases h),?_⟩
    gi_wp2
    go_roundw
    case rel=>exact⟨k,rfl,by omega,C,m⟩
    case measure=>simp[intOf]
end Go.Proofs.YtjpmomdechibmaaGreatDoor
namespace Go.Proofs.YtjpmomdechibmaaGreatDoor
open Go.RowKit
def qa2(k:IntKind)(w:World)(b:Nat)(ws:List Int):Prop:=∃T,w.heap[b]? = some (.cells (ws.map (Value.int k)).toArray T (0,0))
theorem qa2.cell{k:IntKind}{w:World}{b:Nat}{ws:List Int}(h:qa2 k w b ws){i:Nat}(f:i<ws.length):w.cell? ⟨b,i,none⟩=some (.int k (ws.getD i 0)):=by
 obtain⟨T,h⟩:=h
 rw[qg h,List.getElem?_toArray,List.getElem?_map,List.getElem?_eq_getElem f,List.getD_eq_getElem?_getD,List.getElem?_eq_getElem f]
 rfl
theorem qa2.free{k:IntKind}{w:World}{b:Nat}{ws:List Int}(h:qa2 k w b ws)(i:Nat):w.frozen? ⟨b,i,none⟩=false:=by
 obtain⟨T,h⟩:=h
 exact qm h i
theorem qa2.set{k:IntKind}{w:World}{b:Nat}{ws:List Int}(h:qa2 k w b ws)(i:Nat)(v:Int):qa2 k (w.setCell ⟨b,i,none⟩ (.int k v)) b (ws.set i v):=by
 obtain⟨T,h⟩:=h
 refine⟨T,(zu h i _).trans ?_⟩
 simp[List.map_set]
theorem qa2.upd{S:Nat→Prop}{k:IntKind}{w w':World}{b:Nat}{ws:List Int}(h:qa2 k w b ws)(u:Upd S w w')(f:¬S b):qa2 k w' b ws:=by
 obtain⟨T,h⟩:=h
 exact⟨T,u.old h f⟩
theorem qa2.q{k:IntKind}{w w':World}{b:Nat}{ws:List Int}(h:qa2 k w b ws)(q:Q w w'):qa2 k w' b ws:=h.upd (q.upd (fun _=>False)) (fun h=>h)
theorem qa2.lt{k:IntKind}{w:World}{b:Nat}{ws:List Int}(h:qa2 k w b ws):b<w.heap.size:=by
 obtain⟨T,h⟩:=h
 exact zq h
def qch(x n:Int):Int:=bits .or .u32 (x / 2 ^ n.toNat) (x*2 ^ (32-n).toNat%4294967296)
def qbu(x:Int)(f:List Int):Int:=f.foldl (fun a n=>bits .xor .u32 a (qch x n)) 0
theorem qbq(f:BinOp)(x y:Int):0≤bits f .u32 x y∧bits f .u32 x y<4294967296:=by
 have h:=wf_bits f .u32 x y
 simp[Lit.wf,IntKind.min,IntKind.max,IntKind.signed,IntKind.bits] at h
 omega
theorem qky(x:Int)(f:List Int):0≤qbu x f∧qbu x f<4294967296:=by
 unfold qbu
 have key:∀(f:List Int) (a:Int),0≤a∧a<4294967296→0≤f.foldl (fun a n=>bits .xor .u32 a (qch x n)) a∧f.foldl (fun a n=>bits .xor .u32 a (qch x n)) a<4294967296:=by
  intro f
  induction f with
  | nil=>intro a h;exact h
  | cons n f g=>intro a _;exact g _ (qbq ..)
 exact key f 0 (by omega)
theorem qx1(x:Int)(f:List Int)(n:Int):qbu x (f++[n])=bits .xor .u32 (qbu x f) (qch x n):=by simp[qbu]
set_option maxHeartbeats 1000000 in
theorem qsu(x:Int)(f:List Int)(b c:Nat)(w:World)(q:∀n∈f,0<n∧n<32)(F:f.length≤8)(H:0≤x)(D:x<4294967296)(z:qa2 .u64 w b f) :
  Calls Tryz.prog 136 #[.int .u32 x,.slice (some ⟨b,0,none⟩) f.length c] w (qci (.int .u32 (qbu x f)) w):=by
 go_enter Tryz.func136,Tryz.ntmps136
 go_wp2_with fail
 go_loopw [5,7,10] (fun s _ t wr=>∃k:Nat,t = .int .i64 (k:Int)∧k≤f.length∧s = .int .u32 (qbu x (f.take k))∧wr=w) (fun _ _ t _=>f.length-(intOf t).toNat)
 case atStart=>exact⟨0,rfl,Nat.zero_le _,rfl,rfl⟩
 case round =>
  obtain⟨k,rfl,E,rfl,rfl⟩:=hrel
  by_cases g:k<f.length
  ·have v:=z.cell g
   obtain⟨m,o⟩:=q (f.getD k 0) (by rw[List.getD_eq_getElem?_getD,List.getElem?_eq_getElem g];exact List.getElem_mem g)
   have i:=qx1 x (f.take k) (f.getD k 0)
   rw[show f.take k++[f.getD k 0]=f.take (k+1) by rw[List.take_add_one,List.getD_eq_getElem?_getD,List.getElem?_eq_getElem g];rfl] at i
   obtain⟨y,l⟩:=qky x (f.take k)
   unfold qch at i
   have j:=qb i
   have C:(k:Int)<(f.length:Int):=by omega
   clear i
   generalize f.getD k 0=n at v m o j
   generalize qbu x (f.take k)=a at y l j ⊢
   go_wp2
   go_roundw
   case rel=>exact⟨k+1,by go_num,by omega,by rw[qa j],trivial⟩
   case measure=>simp[intOf];omega
  ·obtain rfl:k=f.length:=by omega
   rw[List.take_length]
   go_wp2
   go_ret
   exact⟨rfl,Q.refl _⟩
theorem qsv(x f i:Int)(g:Nat)(T:TypeId)(w:World)(m:0<f∧f<32)(o:0<i∧i<32)(t:0≤x)(j:x<4294967296)(q:w.heap[g]? = some (.cells #[.int .u64 f,.int .u64 i] T (0,0))) :
  Calls Tryz.prog 136 #[.int .u32 x,.slice (some ⟨g,0,none⟩) 2 2] w (qci (.int .u32 (qbu x [f,i])) w) :=
 qsu x [f,i] g 2 w (by intro n l;simp only[List.mem_cons,List.not_mem_nil,or_false] at l;rcases l with rfl | rfl;exact m;exact o) (by simp) t j ⟨T,q⟩
theorem qn4(x f i j:Int)(g:Nat)(T:TypeId)(w:World)(o:0<f∧f<32)(q:0<i∧i<32)(t:0<j∧j<32)(y:0≤x)(l:x<4294967296)(v:w.heap[g]? = some (.cells #[.int .u64 f,.int .u64 i,.int .u64 j] T (0,0))) :
  Calls Tryz.prog 136 #[.int .u32 x,.slice (some ⟨g,0,none⟩) 3 3] w (qci (.int .u32 (qbu x [f,i,j])) w) :=
 qsu x [f,i,j] g 3 w (by intro n m;simp only[List.mem_cons,List.not_mem_nil,or_false] at m;rcases m with rfl | rfl | rfl;exact o;exact q;exact t) (by simp) y l ⟨T,v⟩
end Go.Proofs.YtjpmomdechibmaaGreatDoor
