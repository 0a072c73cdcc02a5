/-
  A channel's cells.
-/
import Derived.Test.YtjpmomdechibmaaGreatDoorProg
import Derived.Test.YtjpmomdechibmaaGreatDoorMaa
import Derived.Test.YtjpmomdechibmaaGreatDoorRows
import Derived.IntWalk
import Derived.Outline
import Derived.Deep.CutRange
import Derived.BigRegion
import Derived.Deep.RegionLaw
import Derived.Lib.LazyBuf
set_option linter.unusedVariables false
set_option linter.unusedSimpArgs false
namespace Go.Proofs.YtjpmomdechibmaaGreatDoor
open Go.RowKit
structure SetupV where
 ch:Int
 cap:Int
 ours:Int
 seed:List Int
 key:ByteArray
 peer:ByteArray
def SetupV.cells(s:SetupV):List Value:= .int .u32 s.ch :: .int .u64 s.cap :: .int .u64 s.ours::(s.seed.map (Value.int .u8)++[.string s.key,.string s.peer])
structure SetupV.Ok(s:SetupV):Prop where
 ch:0≤s.ch∧s.ch<4294967296
 cap:0≤s.cap∧s.cap<18446744073709551616
 ours:0≤s.ours∧s.ours<18446744073709551616
 seed:s.seed.length=32
theorem SetupV.len(s:SetupV)(h:s.seed.length=32):s.cells.length=37:=by simp[SetupV.cells,h]
structure KeptV where
 full:Bool
 number:Int
 told:List Int
def KeptV.cells(k:KeptV):List Value:= .bool k.full :: .int .i64 k.number::k.told.map (Value.int .u8)
def KeptV.zero:KeptV:=⟨false,0,List.replicate 32 0⟩
structure CountsV where
 signed:Int
 heard:Int
 awaits:Bool
 nextOwn:Int
 nextTheirs:Int
 shutSaid:Bool
 shutHeard:Bool
 revoked:Bool
def CountsV.cells(k:CountsV):List Value:=[.int .i64 k.signed,.int .i64 k.heard,.bool k.awaits,.int .u64 k.nextOwn,.int .u64 k.nextTheirs,.bool k.shutSaid,.bool k.shutHeard,.bool k.revoked]
def CountsV.zero:CountsV:=⟨0,0,false,0,0,false,false,false⟩
structure ChanV where
 setup:SetupV
 k:CountsV
 loc:Int
 rem:Int
 live:Value
 shelf:List KeptV
 news:Value
 last:Value
def ChanV.told(c:ChanV):List Value:=c.shelf.flatMap KeptV.cells
def ChanV.rest(c:ChanV):List Value:= .int .u64 c.loc :: .int .u64 c.rem::c.live::(c.told++[c.news,c.last])
def ChanV.cells(c:ChanV):List Value:=c.setup.cells++(c.k.cells++c.rest)
def qbl:Value:= .slice none 0 0
def ChanV.new(s:SetupV):ChanV:=⟨s,.zero,s.ours,s.cap-s.ours,qbl,List.replicate 17 .zero,qbl,qbl⟩
structure ChR(w:World)(g:Nat)(c:ChanV):Prop where
 at_:w.heap[g]? = some (.cells c.cells.toArray 92 (0,0))
 seed:c.setup.seed.length=32
theorem ChR.lt{w:World}{g:Nat}{c:ChanV}(h:ChR w g c):g<w.heap.size:=zq h.at_
theorem ChR.upd{S:Nat→Prop}{w w':World}{g:Nat}{c:ChanV}(h:ChR w g c)(u:Upd S w w')(f:¬S g):ChR w' g c:=⟨u.old h.at_ f,h.seed⟩
theorem ChR.new{w w':World}{g:Nat}{c:ChanV}(h:ChR w g c)(u:qx w w'):ChR w' g c:=h.upd u (fun h=>h)
theorem ChR.free{w:World}{g:Nat}{c:ChanV}(h:ChR w g c)(i:Nat):w.frozen? ⟨g,i,none⟩=false:=qm h.at_ i
theorem ChR.cell{w:World}{g:Nat}{c:ChanV}(h:ChR w g c)(i:Nat):w.cell? ⟨g,i,none⟩=c.cells[i]? := by
 rw[qg h.at_,List.getElem?_toArray]
theorem q17(c:ChanV)(h:c.setup.seed.length=32)(i:Nat)(f:i<37):c.cells[i]? = c.setup.cells[i]? := by
 unfold ChanV.cells
 rw[List.getElem?_append_left (by rw[c.setup.len h];exact f)]
theorem qmt(c:ChanV)(h:c.setup.seed.length=32)(i:Nat):c.cells[37+i]? = (c.k.cells++c.rest)[i]? := by
 unfold ChanV.cells
 rw[List.getElem?_append_right (by rw[c.setup.len h];omega),c.setup.len h,Nat.add_sub_cancel_left]
theorem ChR.low{w:World}{g:Nat}{c:ChanV}(h:ChR w g c)(i:Nat)(f:i<37):w.cell? ⟨g,i,none⟩=c.setup.cells[i]? := (h.cell i).trans (q17 c h.seed i f)
theorem ChR.mid{w:World}{g:Nat}{c:ChanV}(h:ChR w g c)(i:Nat):w.cell? ⟨g,37+i,none⟩=(c.k.cells++c.rest)[i]? := (h.cell _).trans (qmt c h.seed i)
section
variable {w:World}{g:Nat}{c:ChanV}(h:ChR w g c)
include h
theorem ChR.ch:w.cell? ⟨g,0,none⟩=some (.int .u32 c.setup.ch):=h.low 0 (by omega)
theorem ChR.cap:w.cell? ⟨g,1,none⟩=some (.int .u64 c.setup.cap):=h.low 1 (by omega)
theorem ChR.signed:w.cell? ⟨g,37,none⟩=some (.int .i64 c.k.signed):=h.mid 0
theorem ChR.heard:w.cell? ⟨g,38,none⟩=some (.int .i64 c.k.heard):=h.mid 1
theorem ChR.awaits:w.cell? ⟨g,39,none⟩=some (.bool c.k.awaits):=h.mid 2
theorem ChR.nextOwn:w.cell? ⟨g,40,none⟩=some (.int .u64 c.k.nextOwn):=h.mid 3
theorem ChR.nextTheirs:w.cell? ⟨g,41,none⟩=some (.int .u64 c.k.nextTheirs):=h.mid 4
theorem ChR.shutSaid:w.cell? ⟨g,42,none⟩=some (.bool c.k.shutSaid):=h.mid 5
theorem ChR.shutHeard:w.cell? ⟨g,43,none⟩=some (.bool c.k.shutHeard):=h.mid 6
theorem ChR.revoked:w.cell? ⟨g,44,none⟩=some (.bool c.k.revoked):=h.mid 7
theorem ChR.loc:w.cell? ⟨g,45,none⟩=some (.int .u64 c.loc):=h.mid 8
theorem ChR.rem:w.cell? ⟨g,46,none⟩=some (.int .u64 c.rem):=h.mid 9
theorem ChR.live:w.cell? ⟨g,47,none⟩=some c.live:=h.mid 10
end
def qqv:List Value:=qbl::((List.replicate 17 KeptV.zero).flatMap KeptV.cells++[qbl,qbl])
def quy:List Value:= .int .u32 0 :: .int .u64 0 :: .int .u64 0::((List.replicate 32 0).map (Value.int .u8)++[.string ⟨#[]⟩,.string ⟨#[]⟩])
theorem Tryz.zeroChan:((Tryz.prog.info? 92).map fun i=>i.zero.map fun z=>z.cells.toList)=some (some (quy++(CountsV.zero.cells++([.int .u64 0,.int .u64 0]++qqv)))):=by kernel_rfl
theorem Tryz.placesChan:∃j,Tryz.prog.underlying 92=some (.struct j)∧j.toList.mapM (fun f=>(Tryz.prog.info? f.type).map fun i=>(f.offset,i.size))=some [(0,37),(37,8),(45,2),(47,1),(48,578),(626,1),(627,1)]:=⟨_,Tryz.underlying92,by kernel_rfl⟩
theorem qyi(S:List Value)(a b:Value)(f:S.length=37):Tryz.prog.built 92 [(0,.agg S.toArray),(2,.agg [a,b].toArray)]=some (S++(CountsV.zero.cells++([a,b]++qqv))).toArray:=by
 obtain⟨i,z,l,q,j⟩:=qdo Tryz.zeroChan
 obtain⟨t,o,m⟩:=Tryz.placesChan
 rw[qbv l o q m]
 rw[qee (P:=[]) (A:=S) (Z:=quy) (R:=CountsV.zero.cells++([.int .u64 0,.int .u64 0]++qqv)) (off:=0) (by rw[f];rfl) rfl (by rw[f];rfl) j]
 rw[qee (P:=S++CountsV.zero.cells) (A:=[a,b]) (Z:=[.int .u64 0,.int .u64 0]) (R:=qqv) (off:=45) (by rfl) (by rw[List.length_append,f];rfl) rfl (by simp)]
 rw[Instr.fill]
 simp
def q46(p:Array (Nat × Value)):Sem Value:=Instr.build 92 p
theorem qs8(p:Array (Nat × Value)):Instr.build 92 p=q46 p:=rfl
theorem q80(s:SetupV)(f:s.seed.length=32)(a b:Value)(w:World):(q46 #[(0,.agg s.cells.toArray),(2,.agg #[a,b])]).run Tryz.prog w = .ok (.agg (s.cells++(CountsV.zero.cells++([a,b]++qqv))).toArray) w :=
 run_build w _ _ _ (qyi s.cells a b (s.len f))
theorem Tryz.infoSetup:(Tryz.prog.info? 57).map (·.size)=some 37:=by kernel_rfl
def q1b(x:Value):Sem Value:=Instr.loadAt 57 x
theorem qhk(x:Value):Instr.loadAt 57 x=q1b x:=rfl
theorem qpx(b o:Nat)(w:World):(q1b (.pointer (some ⟨b,o,none⟩))).run Tryz.prog w=match zr w b o 37 with | some A=> .ok (.agg A) w | none=>qdk Tryz.prog 57 w b o :=
 zt 57 37 _ Tryz.underlying57 rfl Tryz.infoSetup b o w
def qkz(w:World)(b:Nat)(s:SetupV):Prop:=w.heap[b]? = some (.cells s.cells.toArray 57 (0,0))
theorem qkz.upd{S:Nat→Prop}{w w':World}{g:Nat}{s:SetupV}(h:qkz w g s)(u:Upd S w w')(f:¬S g):qkz w' g s:=u.old h f
theorem qkz.new{w w':World}{g:Nat}{s:SetupV}(h:qkz w g s)(u:qx w w'):qkz w' g s:=h.upd u (fun h=>h)
theorem qkz.lt{w:World}{g:Nat}{s:SetupV}(h:qkz w g s):g<w.heap.size:=zq h
theorem qkz.drew{w:World}{g:Nat}{s:SetupV}(h:qkz w g s):qkz w.drew g s:=h
theorem qkz.row{w:World}{b:Nat}{s:SetupV}(h:qkz w b s)(f:s.seed.length=32):zr w b 0 37=some s.cells.toArray:=by
 rw[qbz h 0 37 (by simp[s.len f])]
 congr 1
 apply Array.ext'
 rw[Array.toList_extract]
 show List.take 37 (List.drop 0 s.cells)=s.cells
 rw[List.drop_zero,List.take_of_length_le (by rw[s.len f];exact Nat.le_refl _)]
theorem qkz.cell{w:World}{b:Nat}{s:SetupV}(h:qkz w b s)(i:Nat):w.cell? ⟨b,i,none⟩=s.cells[i]? := by rw[qg h,List.getElem?_toArray]
theorem SetupV.c35(s:SetupV)(h:s.seed.length=32):s.cells[35]? = some (.string s.key):=by
 unfold SetupV.cells
 rw[List.getElem?_cons_succ,List.getElem?_cons_succ,List.getElem?_cons_succ,List.getElem?_append_right (by simp[h])]
 simp[h]
theorem SetupV.c36(s:SetupV)(h:s.seed.length=32):s.cells[36]? = some (.string s.peer):=by
 unfold SetupV.cells
 rw[List.getElem?_cons_succ,List.getElem?_cons_succ,List.getElem?_cons_succ,List.getElem?_append_right (by simp[h])]
 simp[h]
attribute [local go_sem ↓ high] qhk qs8
attribute [local go_sem] qpx
def SetupV.may(s:SetupV):Prop:=1≤s.cap∧s.cap≤1125899906842624∧s.ours≤s.cap∧s.key.size≤64∧s.peer.size≤64
theorem q3l(s:SetupV):s.cells++(CountsV.zero.cells++([.int .u64 s.ours,.int .u64 (s.cap-s.ours)]++qqv))=(ChanV.new s).cells:=by
 unfold ChanV.new ChanV.cells ChanV.rest ChanV.told qqv
 simp
set_option maxRecDepth 100000 in
set_option maxHeartbeats 1000000 in
theorem ql2(s:SetupV)(j:s.Ok)(w:World):Calls Tryz.prog 22 #[.agg s.cells.toArray] w fun e w' =>
  (s.may∧∃g,e = .returned (.pointer (some ⟨g,0,none⟩))∧w.heap.size≤g∧ChR w' g (.new s)∧qx w w')∨(¬s.may∧e = .returned (.pointer none)∧qx w w'):=by
 go_enter Tryz.func22,Tryz.ntmps22
 go_upto_region 1 with fail
 have i:qkz (w.alloc (.cells s.cells.toArray 57)) w.heap.size s:=qi _ _
 have f:qx w (w.alloc (.cells s.cells.toArray 57)):=(Upd.refl _ _).alloc _
 generalize w.alloc (.cells s.cells.toArray 57)=w1 at i f ⊢
 have x:=i.lt
 have q:=i.row j.seed
 have C:w1.cell? ⟨w.heap.size,1,none⟩=some (.int .u64 s.cap):=i.cell 1
 have D:w1.cell? ⟨w.heap.size,2,none⟩=some (.int .u64 s.ours):=i.cell 2
 have t:w1.cell? ⟨w.heap.size,35,none⟩=some (.string s.key):=(i.cell 35).trans (s.c35 j.seed)
 have v:w1.cell? ⟨w.heap.size,36,none⟩=some (.string s.peer):=(i.cell 36).trans (s.c36 j.seed)
 obtain⟨a0,a1⟩:=j.cap
 obtain⟨b0,b1⟩:=j.ours
 have o:=q80 s j.seed (.int .u64 s.ours) (.int .u64 (s.cap-s.ours))
 rw[q3l] at o
 by_cases E:s.cap<1
 ·go_wp2
  go_ret
  exact .inr ⟨(fun h=>by have:=h.1;omega),rfl,f⟩
 by_cases F:1125899906842624<s.cap
 ·go_wp2
  go_ret
  exact .inr ⟨(fun h=>by have:=h.2.1;omega),rfl,f⟩
 by_cases H:s.cap<s.ours
 ·go_wp2
  go_ret
  exact .inr ⟨(fun h=>by have:=h.2.2.1;omega),rfl,f⟩
 by_cases I:64<s.key.size
 ·have l:64<(s.key.size:Int):=by omega
  go_wp2
  go_ret
  exact .inr ⟨(fun h=>by have:=h.2.2.2.1;omega),rfl,f⟩
 by_cases J:64<s.peer.size
 ·have l:¬64<(s.key.size:Int):=by omega
  have m:64<(s.peer.size:Int):=by omega
  go_wp2
  go_ret
  exact .inr ⟨(fun h=>by have:=h.2.2.2.2;omega),rfl,f⟩
 ·have l:¬64<(s.key.size:Int):=by omega
  have m:¬64<(s.peer.size:Int):=by omega
  have K:IntKind.u64.wrap (s.cap-s.ours)=s.cap-s.ours:=by rw[IntKind.wrap_u64];omega
  go_wp2
  go_ret
  have y:s.may:=⟨by omega,by omega,by omega,by omega,by omega⟩
  have z:qx w (w1.alloc (.cells (ChanV.new s).cells.toArray 92)):=f.alloc _
  exact .inl ⟨y,w1.heap.size,rfl,f.size,⟨qi _ _,j.seed⟩,z⟩
end Go.Proofs.YtjpmomdechibmaaGreatDoor
namespace Go.Proofs.YtjpmomdechibmaaGreatDoor
open Go.RowKit
structure Htlc where
 id:Int
 amount:Int
 hash:Vector Int 32
 expiry:Int
structure Live where
 h:Htlc
 own:Bool
 state:Int
 paid:Bool
structure Item where
 offered:Bool
 h:Htlc
def zi(h:Htlc):List Value:= .int .u64 h.id :: .int .u64 h.amount::(h.hash.toList.map (Value.int .u8)++[.int .i64 h.expiry])
def ql(x:Live):List Value:=zi x.h++[.bool x.own,.int .i64 x.state,.bool x.paid]
def ze(x:Item):List Value:= .bool x.offered::zi x.h
structure HtlcOk(h:Htlc):Prop where
 id:0≤h.id∧h.id≤18446744073709551615
 amount:0≤h.amount∧h.amount≤18446744073709551615
 hash:∀n∈h.hash.toList,0≤n∧n≤255
 expiry : -9223372036854775808≤h.expiry∧h.expiry≤9223372036854775807
structure LiveOk(x:Live):Prop where
 h:HtlcOk x.h
 state : -9223372036854775808≤x.state∧x.state≤9223372036854775807
theorem qba(h:Htlc):(zi h).length=35:=by simp[zi]
theorem qas(x:Live):(ql x).length=38:=by simp[ql,qba]
theorem qb5(x:Item):(ze x).length=36:=by simp[ze,qba]
theorem q6w(x:Live):(ql x)[0]? = some (.int .u64 x.h.id):=rfl
theorem qt5(x:Live):(ql x)[1]? = some (.int .u64 x.h.amount):=rfl
theorem qi3(x:Live):(ql x)[35]? = some (.bool x.own):=by
 unfold ql;rw[List.getElem?_append_right (by rw[qba];omega),qba];rfl
theorem qfk(x:Live):(ql x)[36]? = some (.int .i64 x.state):=by
 unfold ql;rw[List.getElem?_append_right (by rw[qba];omega),qba];rfl
theorem qlw(x:Live):(ql x)[37]? = some (.bool x.paid):=by
 unfold ql;rw[List.getElem?_append_right (by rw[qba];omega),qba];rfl
theorem qj0(h:Htlc):∀v∈zi h,v.oneCell'=true:=by
 intro v f
 simp only[zi,List.mem_cons,List.mem_append,List.mem_map,List.not_mem_nil,or_false] at f
 rcases f with rfl | rfl | ⟨n,_,rfl⟩ | rfl<;>rfl
theorem qpq(x:Item):∀v∈ze x,v.oneCell'=true:=by
 intro v f
 rcases List.mem_cons.1 f with rfl | f
 ·rfl
 ·exact qj0 _ v f
theorem Tryz.infoLive:(Tryz.prog.info? 81).map (·.size)=some 38:=by kernel_rfl
theorem Tryz.infoHtlc:(Tryz.prog.info? 79).map (·.size)=some 35:=by kernel_rfl
def q6s(x:Value):Sem Value:=Instr.loadAt 81 x
theorem qcv(x:Value):Instr.loadAt 81 x=q6s x:=rfl
theorem qg6(b o:Nat)(w:World):(q6s (.pointer (some ⟨b,o,none⟩))).run Tryz.prog w=match zr w b o 38 with | some A=> .ok (.agg A) w | none=>qdk Tryz.prog 81 w b o :=
 zt 81 38 _ Tryz.underlying81 rfl Tryz.infoLive b o w
def q6q(x:Value):Sem Value:=Instr.loadAt 79 x
theorem qt4(x:Value):Instr.loadAt 79 x=q6q x:=rfl
theorem q90(b o:Nat)(w:World):(q6q (.pointer (some ⟨b,o,none⟩))).run Tryz.prog w=match zr w b o 35 with | some A=> .ok (.agg A) w | none=>qdk Tryz.prog 79 w b o :=
 zt 79 35 _ Tryz.underlying79 rfl Tryz.infoHtlc b o w
def q77(x v:Value):Sem Unit:=Instr.storeAt 81 x v
theorem qdm(x v:Value):Instr.storeAt 81 x v=q77 x v:=rfl
theorem qjd(b o:Nat)(A:Array Value)(w:World):(q77 (.pointer (some ⟨b,o,none⟩)) (.agg A)).run Tryz.prog w=if stOk w b o 38 A=true then .ok () (w.setCells b o A.toList) else qfe Tryz.prog 81 w b o A :=
 qap 81 38 Tryz.infoLive b o A w
def qfo(w:World)(g off:Nat)(xs:List Live):Prop :=
 ∃C T f,w.heap[g]? = some (.cells C T f)∧off+xs.length*38≤C.size∧∀i x,xs[i]? = some x→∀j,j<38→C[off+i*38+j]? = (ql x)[j]?
theorem qfo.row{w:World}{g off:Nat}{xs:List Live}(h:qfo w g off xs){i:Nat}{x:Live}(m:xs[i]? = some x):zr w g (off+i*38) 38=some (ql x).toArray:=by
 obtain⟨C,T,v,o,y,q⟩:=h
 have l:i<xs.length:=(List.getElem?_eq_some_iff.1 m).1
 have f:off+i*38+38≤C.size:=by have:=Nat.mul_le_mul_right 38 (show i+1≤xs.length from l);omega
 rw[qbz o _ _ f]
 congr 1
 apply Array.ext'
 apply List.ext_getElem?
 intro j
 rw[Array.getElem?_toList,Array.getElem?_extract]
 by_cases t:j<38
 ·rw[if_pos (by omega),q i x m j t]
 ·rw[if_neg (by omega),List.getElem?_eq_none (by rw[qas];omega)]
theorem qfo.upd{S:Nat→Prop}{w w':World}{b off:Nat}{xs:List Live}(h:qfo w b off xs)(u:Upd S w w')(i:¬S b):qfo w' b off xs:=by
 obtain⟨C,T,f,g,r⟩:=h
 exact⟨C,T,f,u.old g i,r⟩
theorem qfo.lt{w:World}{g off:Nat}{xs:List Live}(h:qfo w g off xs):g<w.heap.size:=by
 obtain⟨C,T,i,f,r⟩:=h
 exact zq f
def qhq(w:World)(v:Value)(xs:List Live):Prop:=(∃a c,v = .slice a 0 c∧xs=[])∨∃g off cap,v = .slice (some ⟨g,off,none⟩) xs.length cap∧qfo w g off xs
theorem qhq.new{w w':World}{v:Value}{xs:List Live}(h:qhq w v xs)(u:qx w w'):qhq w' v xs:=by
 rcases h with h | ⟨g,off,cap,e,h⟩
 ·exact .inl h
 ·exact .inr ⟨g,off,cap,e,h.upd u (fun h=>h)⟩
def qjo(base:Nat)(w:World)(v:Value)(xs:List Live):Prop:=(∃a c,v = .slice a 0 c∧xs=[])∨∃g off cap,v = .slice (some ⟨g,off,none⟩) xs.length cap∧base≤g∧qfo w g off xs
theorem qjo.to{base:Nat}{w:World}{v:Value}{xs:List Live}(h:qjo base w v xs):qhq w v xs:=by
 rcases h with h | ⟨g,off,cap,e,_,h⟩
 ·exact .inl h
 ·exact .inr ⟨g,off,cap,e,h⟩
theorem qjo.new{base:Nat}{w w':World}{v:Value}{xs:List Live}(h:qjo base w v xs)(u:qx w w'):qjo base w' v xs:=by
 rcases h with h | ⟨g,off,cap,e,f,h⟩
 ·exact .inl h
 ·exact .inr ⟨g,off,cap,e,f,h.upd u (fun h=>h)⟩
theorem qjo.row{base:Nat}{w:World}{v:Value}{xs:List Live}(h:qjo base w v xs):∃a cap,v = .slice a xs.length cap∧∀(i:Nat) (x:Live),xs[i]? = some x→∃g off,a=some ⟨g,off,none⟩∧base≤g∧qfo w g off xs:=by
 rcases h with ⟨a,c,e,rfl⟩ | ⟨g,off,cap,e,f,j⟩
 ·exact⟨a,c,e,fun i x l=>by simp at l⟩
 ·exact⟨_,cap,e,fun i x _=>⟨g,off,rfl,f,j⟩⟩
theorem qcu(Z:Array Value)(C:List Value)(h:Z.size=C.length):qj1 Z 0 C=C.toArray:=by
 apply Array.ext'
 apply List.ext_getElem?
 intro j
 rw[Array.getElem?_toList,qh0 _ _ _ _ (by omega)]
 by_cases g:j<C.length
 ·rw[if_pos (by omega)];simp
 ·have f:Z[j]? = none:=Array.getElem?_eq_none (by omega)
  rw[if_neg (by omega),f]
  exact(List.getElem?_eq_none (by simp;omega)).symm
theorem qlv(w:World)(Z:Array Value)(T:TypeId)(C:List Value)(f:Z.size=C.length) :
  ((w.alloc (.cells Z T)).setCells w.heap.size 0 C).heap[w.heap.size]? = some (.cells C.toArray T (0,0))∧qx w ((w.alloc (.cells Z T)).setCells w.heap.size 0 C):=by
 constructor
 ·rw[qa1 (qi w (.cells Z T)) 0 C,qcu Z C f]
 ·exact(((Upd.refl (· = w.heap.size) w).alloc _).setCells 0 C).mono (fun i g e=>by omega)
theorem qdy(x:Live):∀v∈ql x,v.oneCell'=true:=by
 intro v f
 simp only[ql,List.mem_append,List.mem_cons,List.not_mem_nil,or_false] at f
 rcases f with f | rfl | rfl | rfl
 ·exact qj0 _ v f
 ·rfl
 ·rfl
 ·rfl
theorem qwy{w w':World}{base:Nat}{e:TypeId}{size:Nat}{v:Value}{n:Nat}{xs:List Value}(h:w.ownsRow base e size v n xs)(u:qx w w'):w'.ownsRow base e size v n xs:=by
 refine⟨h.1,?_⟩
 rcases h.2 with h | ⟨g,cap,f,i,j,l,r⟩
 ·exact .inl h
 ·exact .inr ⟨g,cap,f,i,j,u.old l (fun h=>h),r⟩
theorem qm4{w:World}{base:Nat}{e:TypeId}{size:Nat}{v:Value}{n:Nat}{xs:List Value}(h:w.ownsRow base e size v n xs):∃a k c,v = .slice a k c:=by
 rcases h.2 with ⟨rfl,_⟩ | ⟨g,cap,f,rfl,_⟩
 ·exact⟨_,_,_,rfl⟩
 ·exact⟨_,_,_,rfl⟩
theorem ql5{S:Nat→Prop}{w w':World}{base:Nat}{e:TypeId}{size:Nat}{v:Value}{n:Nat}{xs:List Value}(h:w.ownsRow base e size v n xs)(u:Upd S w w')(l:∀k,base≤k→¬S k):w'.ownsRow base e size v n xs:=by
 refine⟨h.1,?_⟩
 rcases h.2 with h | ⟨g,cap,f,j,i,m,r⟩
 ·exact .inl h
 ·exact .inr ⟨g,cap,f,j,i,u.old m (l g i),r⟩
theorem qmu(X:List Live):(X.flatMap ql).length=X.length*38:=by
 induction X with
 | nil=>rfl
 | cons x X f=>rw[List.flatMap_cons,List.length_append,f,qas,List.length_cons];omega
theorem qrp:∀(X:List Live) (i j:Nat) (x:Live),X[i]? = some x→j<38→(X.flatMap ql)[i*38+j]? = (ql x)[j]? := by
 intro X
 induction X with
 | nil=>intro i j x h;simp at h
 | cons y X l =>
  intro i j x f g
  rw[List.flatMap_cons]
  cases i with
  | zero =>
   simp only[List.getElem?_cons_zero,Option.some.injEq] at f
   subst f
   rw[List.getElem?_append_left (by rw[qas];omega),Nat.zero_mul,Nat.zero_add]
  | succ i =>
   rw[List.getElem?_append_right (by rw[qas];omega),qas,show (i+1)*38+j-38=i*38+j by omega]
   exact l i j x (by simpa using f) g
theorem q2q(X:List Live):∀u∈X.flatMap ql,u.oneCell'=true:=by
 intro u f
 obtain⟨x,_,g⟩:=List.mem_flatMap.1 f
 exact qdy x u g
def qfp(w:World)(g off:Nat)(xs:List Live):Prop :=
 ∃C T,w.heap[g]? = some (.cells C T (0,0))∧off+xs.length*38≤C.size∧∀i x,xs[i]? = some x→∀j,j<38→C[off+i*38+j]? = (ql x)[j]?
theorem qfp.toL{w:World}{g off:Nat}{xs:List Live}(h:qfp w g off xs):qfo w g off xs:=by
 obtain⟨C,T,f,r⟩:=h
 exact⟨C,T,_,f,r⟩
theorem qfp.row{w:World}{g off:Nat}{xs:List Live}(h:qfp w g off xs){i:Nat}{x:Live}(f:xs[i]? = some x):zr w g (off+i*38) 38=some (ql x).toArray:=h.toL.row f
theorem qfp.upd{S:Nat→Prop}{w w':World}{b off:Nat}{xs:List Live}(h:qfp w b off xs)(u:Upd S w w')(g:¬S b):qfp w' b off xs:=by
 obtain⟨C,T,f,r⟩:=h
 exact⟨C,T,u.old f g,r⟩
theorem qfo.cells{w:World}{g off:Nat}{X:List Live}(h:qfo w g off X):∀j u,(X.flatMap ql)[j]? = some u→w.cell? ((⟨g,off,none⟩:Addr).add j)=some u:=by
 intro j u m
 obtain⟨C,T,y,q,D,t⟩:=h
 have z:j<X.length*38:=by
  have:=(List.getElem?_eq_some_iff.1 m).1
  rwa [qmu] at this
 have f:(⟨g,off,none⟩:Addr).add j=⟨g,off+j,none⟩:=by unfold Addr.add;split<;>simp_all
 rw[f,qg q]
 have v:j / 38<X.length:=Nat.div_lt_of_lt_mul (by omega)
 obtain⟨x,o⟩:∃x,X[j / 38]? = some x:=⟨_,List.getElem?_eq_getElem v⟩
 have e:=Nat.div_add_mod j 38
 have l:=Nat.mod_lt j (show 0<38 by decide)
 rw[←m,show off+j=off+j / 38*38+j%38 by omega,t _ x o _ l]
 have i:=qrp X _ _ x o l
 rw[show j / 38*38+j%38=j by omega] at i
 exact i.symm
theorem qc1{w:World}{base:Nat}{v:Value}{n:Nat}{X:List Live}(h:w.ownsRow base 81 38 v n (X.flatMap ql)) :
  n=X.length∧((v = .slice none 0 0∧X=[])∨∃g cap,v = .slice (some ⟨g,0,none⟩) X.length cap∧base≤g∧qfp w g 0 X):=by
 have o:n=X.length:=by have:=h.1;rw[qmu] at this;omega
 refine⟨o,?_⟩
 subst o
 rcases h.2 with ⟨e,q⟩ | ⟨g,cap,f,e,t,z,y,_,E,D⟩
 ·exact .inl ⟨e,List.length_eq_zero_iff.1 q⟩
 ·refine .inr ⟨g,cap,e,t,f,_,z,by have:=Nat.mul_le_mul_right 38 y;omega,fun i x m j C=> ?_⟩
  have l:=(List.getElem?_eq_some_iff.1 m).1
  rw[Nat.zero_add,←qrp X i j x m C,←D,List.getElem?_take,if_pos (by have:=Nat.mul_le_mul_right 38 (show i+1≤X.length from l);omega),Array.getElem?_toList]
theorem Tryz.infoLiveB:(Tryz.prog.info? 81).map (fun i=>(i.size,i.bytes,i.zero.map (·.cells.size)))=some (38,80,some 38):=by kernel_rfl
theorem q3f:∃i z,Tryz.prog.info? 81=some i∧i.zero=some z∧i.size=38∧i.bytes=80∧z.cells.size=38:=by
 have h:=Tryz.infoLiveB
 cases j:Tryz.prog.info? 81 with
 | none=>rw[j] at h;simp at h
 | some i =>
  rw[j] at h
  simp only[Option.map_some,Option.some.injEq,Prod.mk.injEq] at h
  obtain⟨l,m,f⟩:=h
  cases g:i.zero with
  | none=>rw[g] at f;simp at f
  | some z=>rw[g] at f;simp at f;exact⟨i,z,rfl,g,l,m,f⟩
set_option maxRecDepth 100000 in
set_option maxHeartbeats 1000000 in
theorem qrl(v:Value)(xs:List Live)(R:xs.length≤1048576)(w:World)(I:qhq w v xs) :
  Calls Tryz.prog 43 #[v] w fun e w'=>∃u,e = .returned u∧qx w w'∧((∃a c,u = .slice a 0 c∧xs=[])∨∃g cap,u = .slice (some ⟨g,0,none⟩) xs.length cap∧w.heap.size≤g∧qfp w' g 0 xs):=by
 have t:(∃c,v = .slice none 0 c∧xs=[])∨∃(a:Addr) (cap:Nat),v = .slice (some a) xs.length cap∧∀j u,(xs.flatMap ql)[j]? = some u→w.cell? (a.add j)=some u:=by
  rcases I with ⟨a,c,rfl,rfl⟩ | ⟨g,off,cap,rfl,o⟩
  ·cases a with
   | none=>exact .inl ⟨_,rfl,rfl⟩
   | some a=>exact .inr ⟨a,c,rfl,by simp⟩
  ·exact .inr ⟨_,cap,rfl,o.cells⟩
 rcases t with ⟨c,rfl,rfl⟩ | ⟨a,cap,rfl,o⟩
 ·go_enter Tryz.func43,Tryz.ntmps43
  have C:=fun(w:World)=>run_eql_slice_nil (P:=Tryz.prog) w 43 _ none 0 c Tryz.underlying43
  go_wp2
  first | go_ret2 | go_ret
  exact⟨_,rfl,Upd.refl _ _,.inl ⟨_,_,rfl,trivial⟩⟩
 ·obtain⟨K,V,F,J,x,y,z⟩:=q3f
  have C:=fun(w:World)=>run_eql_slice_nil (P:=Tryz.prog) w 43 _ (some a) xs.length cap Tryz.underlying43
  simp only[Option.isNone_some] at C
  go_enter Tryz.func43,Tryz.ntmps43
  go_wp2_with (at_builtin;refine wpList_append_own _ rfl (.tmp 5) (.tmp 6) 43 rfl w.heap.size 81 K _ 38 80 Tryz.underlying43 F J x y z (by decide) _ 0 [] rfl (World.ownsRow_made (base:=w.heap.size) w #[] 0 (Nat.le_refl _) (by decide) rfl) a xs.length cap (xs.flatMap ql) rfl (qmu xs) ?c1 (q2q xs) ?c3 ?c4 ?c5 ?_)
  case c1 =>
   intro j u H
   exact((Upd.refl (fun _=>False) w).alloc _).cell (o j u H) (fun h=>h)
  case c3=>unfold maxLen;omega
  case c4=>omega
  case c5=>simp
  intro U M f i _
  have L:qx w M:=((Upd.refl _ w).alloc _).grown i (fun k h O=>by simp[Value.ownBlock] at h;omega)
  have l:=(qc1 f).2
  obtain⟨N,T,c5,rfl⟩:=qm4 f
  have D:=qb l
  clear l f i
  go_wp2
  first | go_ret2 | go_ret
  refine⟨_,rfl,L,?_⟩
  rcases qa D with h | ⟨g',m,e,E,q⟩
  ·exact .inl ⟨_,_,h.1,h.2⟩
  ·exact .inr ⟨g',m,e,E,q⟩
def Live.zero:Live:=⟨⟨0,0,Vector.replicate 32 0,0⟩,false,0,false⟩
def q4y:Sem Value:=Instr.alloc 81 true (.tuple #[])
theorem qf3:Instr.alloc 81 true (.tuple #[])=q4y:=rfl
theorem qoe(w:World):q4y.run Tryz.prog w = .ok (.pointer (some ⟨w.heap.size,0,none⟩)) (w.alloc (.cells (ql Live.zero).toArray 81)):=by kernel_rfl
theorem qez{w:World}{b:Nat}{C:Array Value}{T:TypeId}(h:w.heap[b]? = some (.cells C T (0,0))){A:List Value}(g:A.length=C.size)(f:∀v∈A,v.oneCell'=true):stOk w b 0 C.size A.toArray=true :=
 qe0 h (by omega) (by simpa using g) (by rw[Array.all_eq_true_iff_forall_mem];intro v i;exact f v (by simpa using i))
theorem qm6(w:World)(x:Live):stOk (w.alloc (.cells (ql Live.zero).toArray 81)) w.heap.size 0 38 (ql x).toArray=true :=
 qez (C:=(ql Live.zero).toArray) (qi _ _) (by rw[qas];rfl) (qdy x)
theorem qmz(w:World)(x:Live):((w.alloc (.cells (ql Live.zero).toArray 81)).setCells w.heap.size 0 (ql x)).heap[w.heap.size]? = some (.cells (ql x).toArray 81 (0,0))∧qx w ((w.alloc (.cells (ql Live.zero).toArray 81)).setCells w.heap.size 0 (ql x)) :=
 qlv w _ _ _ (by rw[qas];rfl)
end Go.Proofs.YtjpmomdechibmaaGreatDoor
