/-
  Hashes in cells: made, loaded, stored, built of nothing.
-/
import Derived.Test.YtjpmomdechibmaaGreatDoorMae
import Derived.Test.YtjpmomdechibmaaGreatDoorHr1
import Derived.Test.YtjpmomdechibmaaGreatDoorProg
import Derived.Test.YtjpmomdechibmaaGreatDoorMaa
import Derived.RangeFuncNested
import Derived.RangeFuncBound
import Derived.RangeFuncCalls
import Derived.RangeFuncLeaves
import Derived.Shelf.Abstract
import Derived.Shelf.RegionOpen
import Derived.WalkKit
import Derived.OwnWalkIn
import Derived.TacticsInMore
import Derived.LoopNIn
import Derived.LoopIn
import Derived.Test.YtjpmomdechibmaaGreatDoorRows
import Derived.Deep.RegionHeld3
import Derived.OpenShut
set_option linter.unusedVariables false
set_option linter.unusedSimpArgs false
namespace Go.Proofs.YtjpmomdechibmaaGreatDoor
open Go.RowKit
def zf(h:List Int):List Value:=h.map (Value.int .u8)
theorem qa4(h:List Int):(zf h).length=h.length:=by simp[zf]
theorem qxo(h:List Int):∀v∈zf h,v.oneCell'=true:=by
 intro v f
 obtain⟨x,_,rfl⟩:=List.mem_map.1 f
 rfl
def zcq:Sem Value:=Instr.alloc 28 true (.tuple #[])
theorem qar:Instr.alloc 28 true (.tuple #[])=zcq:=rfl
theorem qdt(w:World):zcq.run Tryz.prog w = .ok (.pointer (some ⟨w.heap.size,0,none⟩)) (w.alloc (.cells (zf qad).toArray 28)):=by kernel_rfl
def q2c(p:Array (Nat × Value)):Sem Value:=Instr.build 28 p
theorem qa1(p:Array (Nat × Value)):Instr.build 28 p=q2c p:=rfl
theorem qfm(w:World):(q2c #[]).run Tryz.prog w = .ok (.agg (zf qad).toArray) w:=run_build w _ _ _ (by kernel_rfl)
structure HsB(w:World)(b:Nat)(h:List Int):Prop where
 at_:w.heap[b]? = some (.cells (zf h).toArray 28 (0,0))
 len:h.length=32
theorem HsB.upd{S:Nat→Prop}{w w':World}{b:Nat}{h:List Int}(a:HsB w b h)(u:Upd S w w')(n:¬S b):HsB w' b h:=⟨u.old a.at_ n,a.len⟩
theorem HsB.new{w w':World}{b:Nat}{h:List Int}(a:HsB w b h)(u:qy w w'):HsB w' b h:=a.upd u (fun h=>h)
theorem HsB.row{w:World}{b:Nat}{h:List Int}(a:HsB w b h):zx w b 0 32=some (zf h).toArray:=qaq a.at_ 32 (by rw[List.size_toArray,qa4,a.len])
theorem HsB.stOk{w:World}{b:Nat}{h:List Int}(a:HsB w b h)(k:List Int)(f:k.length=32):stOk w b 0 32 (zf k).toArray=true:=by
 have:=qfe a.at_ (A:=zf k) (by rw[List.size_toArray,qa4,qa4,a.len,f]) (qxo k)
 rwa [List.size_toArray,qa4,a.len] at this
theorem HsB.put{w:World}{b:Nat}{h:List Int}(a:HsB w b h)(k:List Int)(f:k.length=32):HsB (w.setCells b 0 (zf k)) b k:=by
 refine⟨?_,f⟩
 rw[qa9 a.at_ 0 _,qc5 _ _ (by rw[List.size_toArray,qa4,qa4,a.len,f])]
theorem HsB.lt{w:World}{b:Nat}{h:List Int}(a:HsB w b h):b<w.heap.size:=zw a.at_
theorem qb9(w:World)(h:List Int)(f:h.length=32):HsB (w.alloc (.cells (zf h).toArray 28)) w.heap.size h:=⟨qi _ _,f⟩
theorem qak{w:World}{b:Nat}(l:List Value):Upd (· = b) w (w.setCells b 0 l):=(Upd.refl _ _).setCells 0 l
def qs5(w:World)(k:List Int):World:=(w.alloc (.cells (zf qad).toArray 28)).setCells w.heap.size 0 (zf k)
theorem qqm(w:World)(k:List Int)(g:k.length=32):stOk (w.alloc (.cells (zf qad).toArray 28)) w.heap.size 0 32 (zf k).toArray=true∧HsB (qs5 w k) w.heap.size k∧qy w (qs5 w k):=by
 have f:=qb9 w qad qo
 exact⟨f.stOk k g,f.put k g,(((Upd.refl (fun _=>False) w).alloc _)).then (qak _) (fun i l e=>by omega)⟩
structure MsB(w:World)(b:Nat)(m:MsgV):Prop where
 at_:w.heap[b]? = some (.cells m.cells.toArray 30 (0,0))
 len:m.hash.length=32
section
variable {S:Nat→Prop}{w w':World}{b:Nat}{m:MsgV}
theorem MsB.upd(a:MsB w b m)(u:Upd S w w')(n:¬S b):MsB w' b m:=⟨u.old a.at_ n,a.len⟩
theorem MsB.new(a:MsB w b m)(u:qy w w'):MsB w' b m:=a.upd u (fun h=>h)
theorem MsB.lt(a:MsB w b m):b<w.heap.size:=zw a.at_
theorem MsB.row(a:MsB w b m):zx w b 0 38=some m.cells.toArray:=qaq a.at_ 38 (by rw[List.size_toArray,m.len a.len])
theorem MsB.stOk(a:MsB w b m){k:MsgV}(f:k.hash.length=32):stOk w b 0 38 k.cells.toArray=true:=by
 have:=qfe a.at_ (A:=k.cells) (by rw[List.size_toArray,m.len a.len,k.len f]) k.one
 rwa [List.size_toArray,m.len a.len] at this
theorem MsB.put(a:MsB w b m){k:MsgV}(f:k.hash.length=32):MsB (w.setCells b 0 k.cells) b k:=by
 refine⟨?_,f⟩
 rw[qa9 a.at_ 0 _,qc5 _ _ (by rw[List.size_toArray,m.len a.len,k.len f])]
theorem MsB.cells(a:MsB w b m):w.cell? ⟨b,0,none⟩=some (.int .i64 m.kind)∧w.cell? ⟨b,1,none⟩=some (.int .u32 m.ch)∧w.cell? ⟨b,2,none⟩=some (.int .u64 m.id)∧w.cell? ⟨b,3,none⟩=some (.int .u64 m.amount)∧w.cell? ⟨b,36,none⟩=some (.int .i64 m.expiry)∧w.cell? ⟨b,37,none⟩=some (.int .i64 m.number)∧zx w b 4 32=some (zf m.hash).toArray:=qvb m a.at_ a.len
end
theorem qch(w:World)(m:MsgV)(f:m.hash.length=32):MsB (w.alloc (.cells m.cells.toArray 30)) w.heap.size m:=⟨qi _ _,f⟩
def qea(w:World)(k:MsgV):World:=(w.alloc (.cells MsgV.zero.cells.toArray 30)).setCells w.heap.size 0 k.cells
theorem qes(w:World)(k:MsgV)(l:k.hash.length=32):stOk (w.alloc (.cells MsgV.zero.cells.toArray 30)) w.heap.size 0 38 k.cells.toArray=true∧MsB (qea w k) w.heap.size k∧qy w (qea w k):=by
 have f:=qch w MsgV.zero qo
 exact⟨f.stOk l,f.put l,(((Upd.refl (fun _=>False) w).alloc _)).then (qak _) (fun i o e=>by omega)⟩
theorem MsB.agg{w:World}{b:Nat}{m:MsgV}(a:MsB w b m):m.cells.toArray.size=38:=by rw[List.size_toArray,m.len a.len]
theorem q3r(k n:Int)(H:List Value)(h:H.length=32):Tryz.prog.built 30 [(0,.int .i64 k),(6,.int .i64 n),(4,.agg H.toArray)]=some (.int .i64 k :: .int .u32 0 :: .int .u64 0 :: .int .u64 0::(H++[.int .i64 0,.int .i64 n])).toArray:=by
 obtain⟨i,z,l,t,f⟩:=qdy Tryz.zeroMsg
 obtain⟨v,q,o⟩:=Tryz.placesMsg
 rw[qb3 l q t o]
 rw[qcr (P:=[]) (z:= .int .i64 0) (R:= .int .u32 0 :: .int .u64 0 :: .int .u64 0::(qad.map (Value.int .u8)++[.int .i64 0,.int .i64 0])) rfl rfl rfl f]
 rw[qcr (P:= .int .i64 k :: .int .u32 0 :: .int .u64 0 :: .int .u64 0::(qad.map (Value.int .u8)++[.int .i64 0])) (z:= .int .i64 0) (R:=[]) rfl rfl rfl (by rfl)]
 rw[qer (P:=[.int .i64 k,.int .u32 0,.int .u64 0,.int .u64 0]) (A:=H) (Z:=qad.map (Value.int .u8)) (R:=[.int .i64 0,.int .i64 n]) (off:=4) (by rw[h];rfl) rfl (by rw[h];rfl) (by rfl)]
 rw[Instr.fill]
 simp
theorem qzn(k n:Int)(h:List Int)(f:h.length=32)(w:World):(qkd #[(0,.int .i64 k),(6,.int .i64 n),(4,.agg (zf h).toArray)]).run Tryz.prog w = .ok (.agg (MsgV.cells ⟨k,0,0,0,h,0,n⟩).toArray) w :=
 run_build w _ _ _ (q3r k n (zf h) (by rw[qa4,f]))
theorem q3q(k c n:Int)(H:List Value)(h:H.length=32):Tryz.prog.built 30 [(0,.int .i64 k),(1,.int .u32 c),(6,.int .i64 n),(4,.agg H.toArray)]=some (.int .i64 k :: .int .u32 c :: .int .u64 0 :: .int .u64 0::(H++[.int .i64 0,.int .i64 n])).toArray:=by
 obtain⟨i,z,l,t,f⟩:=qdy Tryz.zeroMsg
 obtain⟨v,q,o⟩:=Tryz.placesMsg
 rw[qb3 l q t o]
 rw[qcr (P:=[]) (z:= .int .i64 0) (R:= .int .u32 0 :: .int .u64 0 :: .int .u64 0::(qad.map (Value.int .u8)++[.int .i64 0,.int .i64 0])) rfl rfl rfl f]
 rw[qcr (P:=[.int .i64 k]) (z:= .int .u32 0) (R:= .int .u64 0 :: .int .u64 0::(qad.map (Value.int .u8)++[.int .i64 0,.int .i64 0])) rfl rfl rfl (by rfl)]
 rw[qcr (P:= .int .i64 k :: .int .u32 c :: .int .u64 0 :: .int .u64 0::(qad.map (Value.int .u8)++[.int .i64 0])) (z:= .int .i64 0) (R:=[]) rfl rfl rfl (by rfl)]
 rw[qer (P:=[.int .i64 k,.int .u32 c,.int .u64 0,.int .u64 0]) (A:=H) (Z:=qad.map (Value.int .u8)) (R:=[.int .i64 0,.int .i64 n]) (off:=4) (by rw[h];rfl) rfl (by rw[h];rfl) (by rfl)]
 rw[Instr.fill]
 simp
theorem qzm(k c n:Int)(h:List Int)(f:h.length=32)(w:World):(qkd #[(0,.int .i64 k),(1,.int .u32 c),(6,.int .i64 n),(4,.agg (zf h).toArray)]).run Tryz.prog w = .ok (.agg (MsgV.cells ⟨k,c,0,0,h,0,n⟩).toArray) w :=
 run_build w _ _ _ (q3q k c n (zf h) (by rw[qa4,f]))
theorem q3n(k f:Int)(H:List Value)(h:H.length=32):Tryz.prog.built 30 [(0,.int .i64 k),(2,.int .u64 f),(4,.agg H.toArray)]=some (.int .i64 k :: .int .u32 0 :: .int .u64 f :: .int .u64 0::(H++[.int .i64 0,.int .i64 0])).toArray:=by
 obtain⟨i,z,o,v,l⟩:=qdy Tryz.zeroMsg
 obtain⟨x,t,q⟩:=Tryz.placesMsg
 rw[qb3 o t v q]
 rw[qcr (P:=[]) (z:= .int .i64 0) (R:= .int .u32 0 :: .int .u64 0 :: .int .u64 0::(qad.map (Value.int .u8)++[.int .i64 0,.int .i64 0])) rfl rfl rfl l]
 rw[qcr (P:=[.int .i64 k,.int .u32 0]) (z:= .int .u64 0) (R:= .int .u64 0::(qad.map (Value.int .u8)++[.int .i64 0,.int .i64 0])) rfl rfl rfl (by rfl)]
 rw[qer (P:=[.int .i64 k,.int .u32 0,.int .u64 f,.int .u64 0]) (A:=H) (Z:=qad.map (Value.int .u8)) (R:=[.int .i64 0,.int .i64 0]) (off:=4) (by rw[h];rfl) rfl (by rw[h];rfl) (by rfl)]
 rw[Instr.fill]
 simp
theorem qpx(k f:Int)(h:List Int)(i:h.length=32)(w:World):(qkd #[(0,.int .i64 k),(2,.int .u64 f),(4,.agg (zf h).toArray)]).run Tryz.prog w = .ok (.agg (MsgV.cells ⟨k,0,f,0,h,0,0⟩).toArray) w :=
 run_build w _ _ _ (q3n k f (zf h) (by rw[qa4,i]))
theorem qwf(k f n:Int)(w:World):(qkd #[(0,.int .i64 k),(2,.int .u64 f),(6,.int .i64 n)]).run Tryz.prog w = .ok (.agg (MsgV.cells ⟨k,0,f,0,qad,0,n⟩).toArray) w:=run_build w _ _ _ (by kernel_rfl)
section
variable {w:World}{g:Nat}{S:Nat→Prop}{c:Ch}{lv nv av:Value}
theorem ChP.putSigned(h:ChP w g S c lv nv av)(n:Int)(f:0≤n∧n≤65535):ChP (w.setCell ⟨g,37,none⟩ (.int .i64 n)) g S {c with k:= {c.k with signed:=n}} lv nv av :=
 h.put (q1o c lv nv av h.ok.s.seed n) ⟨h.ok.s,f,h.ok.heard,h.ok.nextOwn,h.ok.nextTheirs,h.ok.loc,h.ok.rem,h.ok.xs,h.ok.few,h.ok.shelf,h.ok.news,h.ok.last,h.ok.many⟩ rfl rfl rfl
theorem ChP.putHeard(h:ChP w g S c lv nv av)(n:Int)(f:0≤n∧n<4294967296):ChP (w.setCell ⟨g,38,none⟩ (.int .i64 n)) g S {c with k:= {c.k with heard:=n}} lv nv av :=
 h.put (q5v c lv nv av h.ok.s.seed n) ⟨h.ok.s,h.ok.signed,f,h.ok.nextOwn,h.ok.nextTheirs,h.ok.loc,h.ok.rem,h.ok.xs,h.ok.few,h.ok.shelf,h.ok.news,h.ok.last,h.ok.many⟩ rfl rfl rfl
theorem ChP.putAwaits(h:ChP w g S c lv nv av)(b:Bool):ChP (w.setCell ⟨g,39,none⟩ (.bool b)) g S {c with k:= {c.k with awaits:=b}} lv nv av :=
 h.put (q1l c lv nv av h.ok.s.seed b) ⟨h.ok.s,h.ok.signed,h.ok.heard,h.ok.nextOwn,h.ok.nextTheirs,h.ok.loc,h.ok.rem,h.ok.xs,h.ok.few,h.ok.shelf,h.ok.news,h.ok.last,h.ok.many⟩ rfl rfl rfl
theorem ChP.putShutHeard(h:ChP w g S c lv nv av)(b:Bool):ChP (w.setCell ⟨g,43,none⟩ (.bool b)) g S {c with k:= {c.k with shutHeard:=b}} lv nv av :=
 h.put (qse c lv nv av h.ok.s.seed b) ⟨h.ok.s,h.ok.signed,h.ok.heard,h.ok.nextOwn,h.ok.nextTheirs,h.ok.loc,h.ok.rem,h.ok.xs,h.ok.few,h.ok.shelf,h.ok.news,h.ok.last,h.ok.many⟩ rfl rfl rfl
theorem ChP.putRevoked(h:ChP w g S c lv nv av)(b:Bool):ChP (w.setCell ⟨g,44,none⟩ (.bool b)) g S {c with k:= {c.k with revoked:=b}} lv nv av :=
 h.put (qyv c lv nv av h.ok.s.seed b) ⟨h.ok.s,h.ok.signed,h.ok.heard,h.ok.nextOwn,h.ok.nextTheirs,h.ok.loc,h.ok.rem,h.ok.xs,h.ok.few,h.ok.shelf,h.ok.news,h.ok.last,h.ok.many⟩ rfl rfl rfl
theorem qgf(w:World)(g i:Nat)(v:Value):Upd (· = g) w (w.setCell ⟨g,i,none⟩ v):=(Upd.refl _ _).set1 i v
theorem ChP.seed(h:ChP w g S c lv nv av):zx w g 3 32=some (zf c.s.seed).toArray:=by
 have f:=h.ok.s.seed
 have i:3+32≤(c.v lv nv av).cells.toArray.size:=by
  rw[List.size_toArray]
  unfold ChanV.cells
  rw[List.length_append,(c.v lv nv av).setup.len f]
  omega
 rw[qca h.at_ 3 32 i]
 congr 1
 apply Array.ext'
 rw[Array.toList_extract]
 unfold ChanV.cells
 show List.extract (c.s.cells++_) 3 35=zf c.s.seed
 unfold SetupV.cells
 simp[f,zf]
theorem ChP.key(h:ChP w g S c lv nv av):w.cell? ⟨g,35,none⟩=some (.string c.s.key):=(h.toR.low 35 (by omega)).trans (c.s.c35 h.ok.s.seed)
theorem ChP.peer(h:ChP w g S c lv nv av):w.cell? ⟨g,36,none⟩=some (.string c.s.peer):=(h.toR.low 36 (by omega)).trans (c.s.c36 h.ok.s.seed)
theorem ChP.base(h:ChP w g S c lv nv av):zx w g 45 2=some #[.int .u64 c.loc,.int .u64 c.rem]:=by
 have l:=h.ok.s.seed
 have i:(c.v lv nv av).cells=c.s.cells++(c.k.cells++([.int .u64 c.loc,.int .u64 c.rem]++(lv::((c.v lv nv av).told++[nv,av])))):=rfl
 have f:c.s.cells.length=37:=c.s.len l
 have o:45+2≤(c.v lv nv av).cells.toArray.size:=by
  rw[List.size_toArray,i,List.length_append,List.length_append,List.length_append,f]
  show 45+2≤37+(8+(2+_))
  omega
 rw[qca h.at_ 45 2 o]
 congr 1
 apply Array.ext'
 rw[Array.toList_extract,i]
 show List.extract (c.s.cells++_) 45 47=_
 rw[List.extract_eq_take_drop,List.drop_append,f,List.drop_of_length_le (by omega),List.nil_append]
 show List.take 2 (List.drop 8 (c.k.cells++_))=_
 rw[List.drop_append_of_le_length (by show 8≤8;omega)]
 rfl
end
def zcz(x:Value):Sem Value:=Instr.loadAt 53 x
theorem qol(x:Value):Instr.loadAt 53 x=zcz x:=rfl
theorem q8h(b o:Nat)(w:World):(zcz (.pointer (some ⟨b,o,none⟩))).run Tryz.prog w=match zx w b o 2 with | some A=> .ok (.agg A) w | none=>qdw Tryz.prog 53 w b o :=
 zy 53 2 _ Tryz.underlying53 rfl Tryz.infoBase b o w
def qcu(base:Nat)(w:World)(v:Value)(f:List MsgV):Prop:=w.ownsRow base 30 38 v f.length (f.flatMap MsgV.cells)
theorem qcu.nil(base:Nat)(w:World):qcu base w qbt []:=World.ownsRow_nil _ _ _ _
end Go.Proofs.YtjpmomdechibmaaGreatDoor
namespace Go.Proofs.YtjpmomdechibmaaGreatDoor
open Go.RowKit Go.Shelf
attribute [local go_sem] Oper.semAt_some
def hiB(i d k:Nat):List Nat:=((List.range' k (d-k)).reverse).filter fun b=>i.testBit b
theorem zbk(i d:Nat):hiB i d d=[]:=by simp[hiB]
theorem qxn{i d k:Nat}(h:k<d):hiB i d k=hiB i d (k+1)++(if i.testBit k then [k] else []):=by
 unfold hiB
 rw[show d-k=(d-(k+1))+1 by omega,List.range'_succ,List.reverse_cons,List.filter_append]
 cases f:i.testBit k<;>simp[f]
theorem qql{i d:Nat} : ∀ {k:Nat},k≤d→hiB i d k <+: hiB i d 0
 | 0,_=>List.prefix_refl _
 | k+1,h=>by
  refine List.IsPrefix.trans ?_ (qql (k:=k) (by omega))
  rw[qxn (show k<d by omega)]
  exact List.prefix_append _ _
def hiF(i d k:Nat):List (Fin 16):=(hiB i d k).map (Fin.ofNat 16)
theorem zbl(i d:Nat):hiF i d d=[]:=by unfold hiF;rw[zbk];rfl
theorem q79{i d k:Nat}(h:k<d)(f:k<16):hiF i d k=hiF i d (k+1)++(if i.testBit k then [⟨k,f⟩] else []):=by
 unfold hiF
 rw[qxn h,List.map_append]
 have e:Fin.ofNat 16 k=⟨k,f⟩:=Fin.ext (Nat.mod_eq_of_lt f)
 cases i.testBit k<;>simp[e]
theorem q0h{i d k:Nat}(h:k≤d):hiF i d k <+: hiF i d 0:=by
 obtain⟨r,f⟩:=qql (i:=i) h
 exact⟨r.map (Fin.ofNat 16),by unfold hiF;rw[←List.map_append,f]⟩
theorem zbm{i d:Nat}(l:d≤16):(hiF i d 0).map (·.1)=hiB i d 0:=by
 unfold hiF
 rw[List.map_map]
 refine(List.map_congr_left (g:=id) fun b f=> ?_).trans (List.map_id _)
 have:b<16:=by
  unfold hiB at f
  rw[List.mem_filter,List.mem_reverse,List.mem_range'_1] at f
  omega
 exact Nat.mod_eq_of_lt this
theorem zb9(i k:Nat):(i:Int) / 2 ^ k=((i / 2 ^ k:Nat):Int):=by
 rw[Int.natCast_ediv]
 rfl
theorem zaq(x:Nat)(h:x<9223372036854775808):bits .and .i64 (x:Int) 1=((x%2:Nat):Int):=by
 show IntKind.i64.wrap ((BitVec.ofInt 64 (x:Int) &&& BitVec.ofInt 64 (1:Int)).toNat:Int)=_
 rw[BitVec.toNat_and,qx6 _ (by omega),show (BitVec.ofInt 64 (1:Int)).toNat=1 from rfl,Nat.and_one_is_mod,qu7 _ (by omega)]
theorem q62(i k:Nat)(h:i<65536):(bits .and .i64 ((i:Int) / 2 ^ k) 1==1)=i.testBit k:=by
 have f:i / 2 ^ k<65536:=Nat.lt_of_le_of_lt (Nat.div_le_self _ _) h
 rw[zb9,zaq _ (by omega),Nat.testBit_eq_decide_div_mod_eq]
 rcases Nat.mod_two_eq_zero_or_one (i / 2 ^ k) with e | e<;>rw[e]<;>rfl
def KpB(B:Nat)(W f:World):Prop:=∀v,W.cell? ⟨B,0,none⟩=some v→f.cell? ⟨B,0,none⟩=some v
set_option maxRecDepth 100000 in
set_option maxHeartbeats 2000000 in
theorem q87(F:Fence)(n:Nat)(V:F.fn 127)(L:F.round=none)(hn:1≤n)(l Bd Bi:Nat)(i d:Nat)(Z:i<65536)(hd:d≤16)(J Jx:List (Fin 16)→World→Prop)
  (Y:∀pre x W,J pre W→pre.length<16→YieldAt F (n-1) Tryz.prog l #[.int .i64 (x.1:Nat)] W fun e q =>
   (e = .returned (.bool true)∧J (pre++[x]) q∧KpB Bi W q)∨(e = .returned (.bool false)∧Jx (pre++[x]) q))
  (W:World) (X:W.cell? ⟨Bd,0,none⟩=some (.int .i64 d)) (E:W.cell? ⟨Bi,0,none⟩=some (.int .i64 i)) (U:J [] W) :
  CallsIn F n Tryz.prog 127 #[.func (.yield l) #[] #[],.pointer (some ⟨Bd,0,none⟩),.pointer (some ⟨Bi,0,none⟩)] W fun e q=>(∃v,e = .returned v) ∧
   ((∃R,R=hiF i d 0∧J R q)∨(∃pre,pre <+: hiF i d 0∧Jx pre q)):=by
 refine callsIn_of_wp Tryz.func127 rfl V ?_ L
 simp only[Tryz.ntmps127,List.size_toArray,List.length_cons,List.length_nil,Nat.reduceAdd,Nat.reduceSub,Array.replicate_succ,Array.replicate_zero,List.push_toArray,List.append_toArray,List.nil_append,List.cons_append]
 have hw:IntKind.i64.wrap ((d:Int)-1)=(d:Int)-1:=by rw[IntKind.wrap_i64];omega
 gi_wp2
 gi_loopw [4] (fun p wr=>∃k:Nat,p = .int .i64 ((k:Int)-1)∧k≤d∧J (hiF i d k) wr∧wr.cell? ⟨Bi,0,none⟩=some (.int .i64 i)) (fun p wr=>(intOf p+1).toNat)
 case atStart=>exact⟨d,by simp,Nat.le_refl _,by rw[zbl];exact U,E⟩
 case round =>
  obtain⟨k,rfl,hk,D,o⟩:=hrel
  cases k with
  | zero =>
   gi_wp2
   go_end0
   exact⟨⟨_,rfl⟩,.inl ⟨hiF i d 0,rfl,D⟩⟩
  | succ k =>
   have I:((k+1:Nat):Int)-1=(k:Int):=by omega
   rw[I]
   have a4:(0:Int)≤(k:Int):=by omega
   have z:(hiF i d (k+1)).length<16:=by
    unfold hiF hiB
    rw[List.length_map]
    refine Nat.lt_of_le_of_lt (List.length_filter_le _ _) ?_
    simp
    omega
   obtain⟨fn,tmps,C,N,P,O⟩:=Y (hiF i d (k+1)) ⟨k,by omega⟩ wr D z
   dsimp only at P
   have g:=q62 i k Z
   have f:=q79 (i:=i) (show k<d from hk) (by omega)
   cases m:i.testBit k with
   | true =>
    rw[m,if_pos rfl] at f
    rw[m] at g
    have t:=qb f
    clear f
    gi_wp2
    refine O.mono ?_
    rintro e T (⟨rfl,H,K⟩ | ⟨rfl,y⟩)
    ·have w:T.cell? ⟨Bi,0,none⟩=some (.int .i64 i):=K _ o
     have M:IntKind.i64.wrap ((k:Int)-1)=(k:Int)-1:=by rw[IntKind.wrap_i64];omega
     gi_wp2
     go_roundw
     case rel=>exact⟨k,rfl,by omega,by rw[qa t];exact H,w⟩
     case measure=>simp[intOf]
    ·gi_wp2
     refine bodyPost_ret (results_none rfl _ _ _) rfl ?_
     refine⟨⟨_,rfl⟩,.inr ⟨hiF i d (k+1)++[⟨k,by omega⟩],?_,y⟩⟩
     rw[←qa t]
     exact q0h (by omega)
   | false =>
    rw[m,if_neg (by simp),List.append_nil] at f
    rw[m] at g
    have M:IntKind.i64.wrap ((k:Int)-1)=(k:Int)-1:=by rw[IntKind.wrap_i64];omega
    rw[←f] at D
    clear f O P
    gi_wp2
    refine⟨fun _ h=>(by cases h),?_⟩
    gi_wp2
    go_roundw
    case rel=>exact⟨k,rfl,by omega,D,o⟩
    case measure=>simp[intOf]
end Go.Proofs.YtjpmomdechibmaaGreatDoor
namespace Go.Proofs.YtjpmomdechibmaaGreatDoor
open Go.RowKit
def qba(k:IntKind)(w:World)(b:Nat)(ws:List Int):Prop:=∃T,w.heap[b]? = some (.cells (ws.map (Value.int k)).toArray T (0,0))
theorem qba.cell{k:IntKind}{w:World}{b:Nat}{ws:List Int}(h:qba k w b ws){i:Nat}(f:i<ws.length):w.cell? ⟨b,i,none⟩=some (.int k (ws.getD i 0)):=by
 obtain⟨T,h⟩:=h
 rw[qh h,List.getElem?_toArray,List.getElem?_map,List.getElem?_eq_getElem f,List.getD_eq_getElem?_getD,List.getElem?_eq_getElem f]
 rfl
theorem qba.free{k:IntKind}{w:World}{b:Nat}{ws:List Int}(h:qba k w b ws)(i:Nat):w.frozen? ⟨b,i,none⟩=false:=by
 obtain⟨T,h⟩:=h
 exact qq h i
theorem qba.set{k:IntKind}{w:World}{b:Nat}{ws:List Int}(h:qba k w b ws)(i:Nat)(v:Int):qba k (w.setCell ⟨b,i,none⟩ (.int k v)) b (ws.set i v):=by
 obtain⟨T,h⟩:=h
 refine⟨T,(zz h i _).trans ?_⟩
 simp[List.map_set]
theorem qba.upd{S:Nat→Prop}{k:IntKind}{w w':World}{b:Nat}{ws:List Int}(h:qba k w b ws)(u:Upd S w w')(f:¬S b):qba k w' b ws:=by
 obtain⟨T,h⟩:=h
 exact⟨T,u.old h f⟩
theorem qba.q{k:IntKind}{w w':World}{b:Nat}{ws:List Int}(h:qba k w b ws)(q:Q w w'):qba k w' b ws:=h.upd (q.upd (fun _=>False)) (fun h=>h)
theorem qba.lt{k:IntKind}{w:World}{b:Nat}{ws:List Int}(h:qba k w b ws):b<w.heap.size:=by
 obtain⟨T,h⟩:=h
 exact zw h
def qct(x n:Int):Int:=bits .or .u32 (x / 2 ^ n.toNat) (x*2 ^ (32-n).toNat%4294967296)
def qb1(x:Int)(f:List Int):Int:=f.foldl (fun a n=>bits .xor .u32 a (qct x n)) 0
theorem qby(f:BinOp)(x y:Int):0≤bits f .u32 x y∧bits f .u32 x y<4294967296:=by
 have h:=wf_bits f .u32 x y
 simp[Lit.wf,IntKind.min,IntKind.max,IntKind.signed,IntKind.bits] at h
 omega
theorem qlh(x:Int)(f:List Int):0≤qb1 x f∧qb1 x f<4294967296:=by
 unfold qb1
 have key:∀(f:List Int) (a:Int),0≤a∧a<4294967296→0≤f.foldl (fun a n=>bits .xor .u32 a (qct x n)) a∧f.foldl (fun a n=>bits .xor .u32 a (qct x n)) a<4294967296:=by
  intro f
  induction f with
  | nil=>intro a h;exact h
  | cons n f g=>intro a _;exact g _ (qby ..)
 exact key f 0 (by omega)
theorem qy8(x:Int)(f:List Int)(n:Int):qb1 x (f++[n])=bits .xor .u32 (qb1 x f) (qct x n):=by simp[qb1]
set_option maxHeartbeats 1000000 in
theorem qt2(x:Int)(f:List Int)(b c:Nat)(w:World)(t:∀n∈f,0<n∧n<32)(H:f.length≤8)(I:0≤x)(E:x<4294967296)(C:qba .u64 w b f) :
  Calls Tryz.prog 136 #[.int .u32 x,.slice (some ⟨b,0,none⟩) f.length c] w (qcc (.int .u32 (qb1 x f)) w):=by
 go_enter Tryz.func136,Tryz.ntmps136
 go_wp2_with fail
 go_loopw [5,7,10] (fun s _ v wr=>∃k:Nat,v = .int .i64 (k:Int)∧k≤f.length∧s = .int .u32 (qb1 x (f.take k))∧wr=w) (fun _ _ v _=>f.length-(intOf v).toNat)
 case atStart=>exact⟨0,rfl,Nat.zero_le _,rfl,rfl⟩
 case round =>
  obtain⟨k,rfl,F,rfl,rfl⟩:=hrel
  by_cases g:k<f.length
  ·have y:=C.cell g
   obtain⟨o,q⟩:=t (f.getD k 0) (by rw[List.getD_eq_getElem?_getD,List.getElem?_eq_getElem g];exact List.getElem_mem g)
   have i:=qy8 x (f.take k) (f.getD k 0)
   rw[show f.take k++[f.getD k 0]=f.take (k+1) by rw[List.take_add_one,List.getD_eq_getElem?_getD,List.getElem?_eq_getElem g];rfl] at i
   obtain⟨z,m⟩:=qlh x (f.take k)
   unfold qct at i
   have l:=qb i
   have D:(k:Int)<(f.length:Int):=by omega
   clear i
   generalize f.getD k 0=n at y o q l
   generalize qb1 x (f.take k)=a at z m l ⊢
   go_wp2
   go_roundw
   case rel=>exact⟨k+1,by go_num,by omega,by rw[qa l],trivial⟩
   case measure=>simp[intOf];omega
  ·obtain rfl:k=f.length:=by omega
   rw[List.take_length]
   go_wp2
   go_ret
   exact⟨rfl,Q.refl _⟩
theorem qt3(x f i:Int)(g:Nat)(T:TypeId)(w:World)(o:0<f∧f<32)(q:0<i∧i<32)(v:0≤x)(l:x<4294967296)(t:w.heap[g]? = some (.cells #[.int .u64 f,.int .u64 i] T (0,0))) :
  Calls Tryz.prog 136 #[.int .u32 x,.slice (some ⟨g,0,none⟩) 2 2] w (qcc (.int .u32 (qb1 x [f,i])) w) :=
 qt2 x [f,i] g 2 w (by intro n m;simp only[List.mem_cons,List.not_mem_nil,or_false] at m;rcases m with rfl | rfl;exact o;exact q) (by simp) v l ⟨T,t⟩
theorem qow(x f i l:Int)(g:Nat)(T:TypeId)(w:World)(q:0<f∧f<32)(t:0<i∧i<32)(v:0<l∧l<32)(z:0≤x)(m:x<4294967296)(y:w.heap[g]? = some (.cells #[.int .u64 f,.int .u64 i,.int .u64 l] T (0,0))) :
  Calls Tryz.prog 136 #[.int .u32 x,.slice (some ⟨g,0,none⟩) 3 3] w (qcc (.int .u32 (qb1 x [f,i,l])) w) :=
 qt2 x [f,i,l] g 3 w (by intro n o;simp only[List.mem_cons,List.not_mem_nil,or_false] at o;rcases o with rfl | rfl | rfl;exact q;exact t;exact v) (by simp) z m ⟨T,y⟩
end Go.Proofs.YtjpmomdechibmaaGreatDoor
