/-
  A struct that is built of its parts: a part laid into the zero cells.
-/
import Derived.Test.YtfmkdoachjgjbaaGreatDoorMad
import Derived.Great.BuildSlice
import Derived.Test.YtfmkdoachjgjbaaGreatDoorProg
import Derived.Test.YtfmkdoachjgjbaaGreatDoorRows
import Derived.IntWalk
import Derived.Outline
import Derived.Deep.CutRange
import Derived.BigRegion
import Derived.Deep.RegionLaw
import Derived.Test.YtfmkdoachjgjbaaGreatDoorMaa
import Derived.Lib.LazyBuf
set_option maxRecDepth 100000
set_option maxHeartbeats 1000000
set_option linter.unusedVariables false
set_option linter.unusedSimpArgs false
namespace Go.Proofs.YtfmkdoachjgjbaaGreatDoor
section
open Go.RowKit
theorem qt0(A P Z R:List Value)(h:Z.length=A.length):(A.zipIdx).foldl (fun(cs:Array Value) (c,j)=>cs.setIfInBounds (P.length+j) c) (P++(Z++R)).toArray=(P++(A++R)).toArray:=by
 have key:∀(A:List Value) (k:Nat) (Q Z:List Value),Z.length=A.length→Q.length=P.length+k→(A.zipIdx k).foldl (fun(cs:Array Value) (c,j)=>cs.setIfInBounds (P.length+j) c) (Q++(Z++R)).toArray=(Q++(A++R)).toArray:=by
  intro A
  induction A with
  | nil=>intro k Q Z f _;rw[List.length_eq_zero_iff.1 f];rfl
  | cons a A m =>
   intro k Q Z f i;cases Z with
   | nil=>simp at f
   | cons z Z =>
    rw[List.zipIdx_cons,List.foldl_cons];have e:(Q++(z::Z++R)).toArray.setIfInBounds (P.length+k) a=((Q++[a])++(Z++R)).toArray:=by
     rw[←i];simp
    show List.foldl _ ((Q++(z::Z++R)).toArray.setIfInBounds (P.length+k) a) _=_;rw[e,m (k+1) (Q++[a]) Z (by simpa using f) (by simp[i];omega)];simp
 exact key A 0 P Z h rfl
theorem qbq{P:Program}{t:TypeId}{r:TypeInfo}{z:Value}{m:Array Field}{places:List (Nat × Nat)}(v:P.info? t=some r)(E:P.underlying t=some (.struct m))(F:r.zero=some z)
  (C:m.toList.mapM (fun f=>(P.info? f.type).map fun i=>(f.offset,i.size))=some places) (q:List (Nat × Value)):P.built t q=Instr.fill (places.toArray[·]?) z.cells q:=by
 unfold Program.built
 rw[v,E]
 simp only[F,C]
theorem qc6{P:Program}{t:TypeId}{l:List Value}(h:((P.info? t).map fun i=>i.zero.map fun z=>z.cells.toList)=some (some l)):∃i z,P.info? t=some i∧i.zero=some z∧z.cells=l.toArray:=by
 cases m:P.info? t with
 | none=>rw[m] at h;simp at h
 | some i =>
  rw[m,Option.map_some,Option.some.injEq] at h;cases f:i.zero with
  | none=>rw[f] at h;simp at h
  | some z =>
   rw[f,Option.map_some,Option.some.injEq] at h;exact⟨i,z,rfl,f,by rw[←h]⟩
theorem qc9{f:Nat→Option (Nat × Nat)}{i off:Nat}{A P Z R:List Value}{cs:Array Value}(z:f i=some (off,A.length))(v:P.length=off)(q:Z.length=A.length)(r:cs=(P++(Z++R)).toArray)(rest:List (Nat × Value)) :
  Instr.fill f cs ((i,.agg A.toArray)::rest)=Instr.fill f (P++(A++R)).toArray rest:=by
 subst r v
 rw[Instr.fill,z]
 have C:¬(A.toArray.size≠A.length || P.length+A.toArray.size>(P++(Z++R)).toArray.size)=true:=by
  simp[q]
 have m:((Value.agg A.toArray).cells.size≠A.length || P.length+(Value.agg A.toArray).cells.size>(P++(Z++R)).toArray.size)=false:=by
  simpa [Value.cells] using C
 simp only[m,Bool.false_eq_true,if_false]
 congr 1
 have:=qt0 A P Z R q
 simpa [Value.cells] using this
structure SetupV where
 ch:Int
 cap:Int
 ours:Int
 seed:List Int
 key:ByteArray
 peer:ByteArray
def SetupV.cells(s:SetupV):List Value:= .int .u32 s.ch :: .int .u64 s.cap :: .int .u64 s.ours::(s.seed.map (Value.int .u8)++[.string s.key,.string s.peer])
structure SetupV.Ok(s:SetupV):Prop where
 ch:0≤s.ch∧s.ch<4294967296
 cap:0≤s.cap∧s.cap<18446744073709551616
 ours:0≤s.ours∧s.ours<18446744073709551616
 seed:s.seed.length=32
theorem SetupV.len(s:SetupV)(h:s.seed.length=32):s.cells.length=37:=by simp[SetupV.cells,h]
structure KeptV where
 full:Bool
 number:Int
 told:List Int
def KeptV.cells(k:KeptV):List Value:= .bool k.full :: .int .i64 k.number::k.told.map (Value.int .u8)
def KeptV.zero:KeptV:=⟨false,0,List.replicate 32 0⟩
structure CountsV where
 signed:Int
 heard:Int
 awaits:Bool
 nextOwn:Int
 nextTheirs:Int
 shutSaid:Bool
 shutHeard:Bool
 revoked:Bool
def CountsV.cells(k:CountsV):List Value:=[.int .i64 k.signed,.int .i64 k.heard,.bool k.awaits,.int .u64 k.nextOwn,.int .u64 k.nextTheirs,.bool k.shutSaid,.bool k.shutHeard,.bool k.revoked]
def CountsV.zero:CountsV:=⟨0,0,false,0,0,false,false,false⟩
structure ChanV where
 setup:SetupV
 k:CountsV
 loc:Int
 rem:Int
 live:Value
 shelf:List KeptV
 news:Value
 last:Value
def ChanV.told(c:ChanV):List Value:=c.shelf.flatMap KeptV.cells
def ChanV.rest(c:ChanV):List Value:= .int .u64 c.loc :: .int .u64 c.rem::c.live::(c.told++[c.news,c.last])
def ChanV.cells(c:ChanV):List Value:=c.setup.cells++(c.k.cells++c.rest)
def qcu:Value:= .slice none 0 0
def ChanV.new(s:SetupV):ChanV:=⟨s,.zero,s.ours,s.cap-s.ours,qcu,List.replicate 17 .zero,qcu,qcu⟩
structure ChR(w:World)(g:Nat)(c:ChanV):Prop where
 at_:w.heap[g]? = some (.cells c.cells.toArray 126 (0,0))
 seed:c.setup.seed.length=32
theorem ChR.lt{w:World}{g:Nat}{c:ChanV}(h:ChR w g c):g<w.heap.size:=zr h.at_
theorem ChR.upd{S:Nat→Prop}{w w':World}{g:Nat}{c:ChanV}(h:ChR w g c)(u:Upd S w w')(f:¬S g):ChR w' g c:=⟨u.old h.at_ f,h.seed⟩
theorem ChR.new{w w':World}{g:Nat}{c:ChanV}(h:ChR w g c)(u:qq w w'):ChR w' g c:=h.upd u (fun h=>h)
theorem ChR.cell{w:World}{g:Nat}{c:ChanV}(h:ChR w g c)(i:Nat):w.cell? ⟨g,i,none⟩=c.cells[i]? := by
 rw[qg h.at_,List.getElem?_toArray]
theorem q0e(c:ChanV)(h:c.setup.seed.length=32)(i:Nat)(f:i<37):c.cells[i]? = c.setup.cells[i]? := by
 unfold ChanV.cells;rw[List.getElem?_append_left (by rw[c.setup.len h];exact f)]
theorem qls(c:ChanV)(h:c.setup.seed.length=32)(i:Nat):c.cells[37+i]? = (c.k.cells++c.rest)[i]? := by
 unfold ChanV.cells;rw[List.getElem?_append_right (by rw[c.setup.len h];omega),c.setup.len h,Nat.add_sub_cancel_left]
theorem ChR.low{w:World}{g:Nat}{c:ChanV}(h:ChR w g c)(i:Nat)(f:i<37):w.cell? ⟨g,i,none⟩=c.setup.cells[i]? := (h.cell i).trans (q0e c h.seed i f)
theorem ChR.mid{w:World}{g:Nat}{c:ChanV}(h:ChR w g c)(i:Nat):w.cell? ⟨g,37+i,none⟩=(c.k.cells++c.rest)[i]? := (h.cell _).trans (qls c h.seed i)
section
variable {w:World}{g:Nat}{c:ChanV}(h:ChR w g c)
include h
theorem ChR.ch:w.cell? ⟨g,0,none⟩=some (.int .u32 c.setup.ch):=h.low 0 (by omega)
theorem ChR.signed:w.cell? ⟨g,37,none⟩=some (.int .i64 c.k.signed):=h.mid 0
theorem ChR.heard:w.cell? ⟨g,38,none⟩=some (.int .i64 c.k.heard):=h.mid 1
theorem ChR.awaits:w.cell? ⟨g,39,none⟩=some (.bool c.k.awaits):=h.mid 2
theorem ChR.nextOwn:w.cell? ⟨g,40,none⟩=some (.int .u64 c.k.nextOwn):=h.mid 3
theorem ChR.nextTheirs:w.cell? ⟨g,41,none⟩=some (.int .u64 c.k.nextTheirs):=h.mid 4
theorem ChR.shutSaid:w.cell? ⟨g,42,none⟩=some (.bool c.k.shutSaid):=h.mid 5
theorem ChR.shutHeard:w.cell? ⟨g,43,none⟩=some (.bool c.k.shutHeard):=h.mid 6
theorem ChR.revoked:w.cell? ⟨g,44,none⟩=some (.bool c.k.revoked):=h.mid 7
theorem ChR.loc:w.cell? ⟨g,45,none⟩=some (.int .u64 c.loc):=h.mid 8
theorem ChR.rem:w.cell? ⟨g,46,none⟩=some (.int .u64 c.rem):=h.mid 9
theorem ChR.live:w.cell? ⟨g,47,none⟩=some c.live:=h.mid 10
end
def qpp:List Value:=qcu::((List.replicate 17 KeptV.zero).flatMap KeptV.cells++[qcu,qcu])
def ql9:List Value:= .int .u32 0 :: .int .u64 0 :: .int .u64 0::((List.replicate 32 0).map (Value.int .u8)++[.string ⟨#[]⟩,.string ⟨#[]⟩])
theorem Tryz.zeroChan:((Tryz.prog.info? 126).map fun i=>i.zero.map fun z=>z.cells.toList)=some (some (ql9++(CountsV.zero.cells++([.int .u64 0,.int .u64 0]++qpp)))):=by kernel_rfl
theorem Tryz.placesChan:∃m,Tryz.prog.underlying 126=some (.struct m)∧m.toList.mapM (fun f=>(Tryz.prog.info? f.type).map fun i=>(f.offset,i.size))=some [(0,37),(37,8),(45,2),(47,1),(48,578),(626,1),(627,1)]:=⟨_,Tryz.underlying126,by kernel_rfl⟩
theorem qwe(S:List Value)(a b:Value)(f:S.length=37):Tryz.prog.built 126 [(0,.agg S.toArray),(2,.agg [a,b].toArray)]=some (S++(CountsV.zero.cells++([a,b]++qpp))).toArray:=by
 obtain⟨i,z,q,C,m⟩:=qc6 Tryz.zeroChan;obtain⟨E,v,r⟩:=Tryz.placesChan;rw[qbq q v C r];rw[qc9 (P:=[]) (A:=S) (Z:=ql9) (R:=CountsV.zero.cells++([.int .u64 0,.int .u64 0]++qpp)) (off:=0) (by rw[f];rfl) rfl (by rw[f];rfl) m];rw[qc9 (P:=S++CountsV.zero.cells) (A:=[a,b]) (Z:=[.int .u64 0,.int .u64 0]) (R:=qpp) (off:=45) (by rfl) (by rw[List.length_append,f];rfl) rfl (by simp)];rw[Instr.fill];simp
def q3w(p:Array (Nat × Value)):Sem Value:=Instr.build 126 p
theorem qru(p:Array (Nat × Value)):Instr.build 126 p=q3w p:=rfl
theorem q8g(s:SetupV)(f:s.seed.length=32)(a b:Value)(w:World):(q3w #[(0,.agg s.cells.toArray),(2,.agg #[a,b])]).run Tryz.prog w = .ok (.agg (s.cells++(CountsV.zero.cells++([a,b]++qpp))).toArray) w :=
 run_build w _ _ _ (qwe s.cells a b (s.len f))
theorem Tryz.infoSetup:(Tryz.prog.info? 78).map (·.size)=some 37:=by kernel_rfl
def qzg(x:Value):Sem Value:=Instr.loadAt 78 x
theorem qb5(x:Value):Instr.loadAt 78 x=qzg x:=rfl
theorem qeg(b o:Nat)(w:World):(qzg (.pointer (some ⟨b,o,none⟩))).run Tryz.prog w=match zf w b o 37 with | some A=> .ok (.agg A) w | none=>qdn Tryz.prog 78 w b o :=
 qah 78 37 _ Tryz.underlying78 rfl Tryz.infoSetup b o w
def qtd(w:World)(b:Nat)(s:SetupV):Prop:=w.heap[b]? = some (.cells s.cells.toArray 78 (0,0))
theorem qtd.lt{w:World}{g:Nat}{s:SetupV}(h:qtd w g s):g<w.heap.size:=zr h
theorem qtd.row{w:World}{b:Nat}{s:SetupV}(h:qtd w b s)(f:s.seed.length=32):zf w b 0 37=some s.cells.toArray:=by
 rw[qb8 h 0 37 (by simp[s.len f])];congr 1;apply Array.ext';rw[Array.toList_extract];show List.take 37 (List.drop 0 s.cells)=s.cells;rw[List.drop_zero,List.take_of_length_le (by rw[s.len f];exact Nat.le_refl _)]
theorem qtd.cell{w:World}{b:Nat}{s:SetupV}(h:qtd w b s)(i:Nat):w.cell? ⟨b,i,none⟩=s.cells[i]? := by rw[qg h,List.getElem?_toArray]
theorem SetupV.c35(s:SetupV)(h:s.seed.length=32):s.cells[35]? = some (.string s.key):=by
 unfold SetupV.cells;rw[List.getElem?_cons_succ,List.getElem?_cons_succ,List.getElem?_cons_succ,List.getElem?_append_right (by simp[h])];simp[h]
theorem SetupV.c36(s:SetupV)(h:s.seed.length=32):s.cells[36]? = some (.string s.peer):=by
 unfold SetupV.cells;rw[List.getElem?_cons_succ,List.getElem?_cons_succ,List.getElem?_cons_succ,List.getElem?_append_right (by simp[h])];simp[h]
attribute [local go_sem ↓ high] qb5 qru
attribute [local go_sem] qeg
def SetupV.may(s:SetupV):Prop:=1≤s.cap∧s.cap≤1125899906842624∧s.ours≤s.cap∧s.key.size≤64∧s.peer.size≤64
theorem q1x(s:SetupV):s.cells++(CountsV.zero.cells++([.int .u64 s.ours,.int .u64 (s.cap-s.ours)]++qpp))=(ChanV.new s).cells:=by
 unfold ChanV.new ChanV.cells ChanV.rest ChanV.told qpp;simp
theorem q6p(s:SetupV)(m:s.Ok)(w:World):Calls Tryz.prog 85 #[.agg s.cells.toArray] w fun e w' =>
  (s.may∧∃g,e = .returned (.pointer (some ⟨g,0,none⟩))∧w.heap.size≤g∧ChR w' g (.new s)∧qq w w')∨(¬s.may∧e = .returned (.pointer none)∧qq w w'):=by
 go_enter Tryz.func85,Tryz.ntmps85
 go_upto_region 1 with fail
 have i:qtd (w.alloc (.cells s.cells.toArray 78)) w.heap.size s:=qj _ _
 have f:qq w (w.alloc (.cells s.cells.toArray 78)):=(Upd.refl _ _).alloc _
 generalize w.alloc (.cells s.cells.toArray 78)=w1 at i f ⊢
 have F:=i.lt
 have z:=i.row m.seed
 have J:w1.cell? ⟨w.heap.size,1,none⟩=some (.int .u64 s.cap):=i.cell 1
 have K:w1.cell? ⟨w.heap.size,2,none⟩=some (.int .u64 s.ours):=i.cell 2
 have C:w1.cell? ⟨w.heap.size,35,none⟩=some (.string s.key):=(i.cell 35).trans (s.c35 m.seed)
 have E:w1.cell? ⟨w.heap.size,36,none⟩=some (.string s.peer):=(i.cell 36).trans (s.c36 m.seed)
 obtain⟨a0,a1⟩:=m.cap
 obtain⟨b0,b1⟩:=m.ours
 have v:=q8g s m.seed (.int .u64 s.ours) (.int .u64 (s.cap-s.ours))
 rw[q1x] at v
 by_cases L:s.cap<1
 ·go_wp2;go_ret;exact .inr ⟨(fun h=>by have:=h.1;omega),rfl,f⟩
 by_cases M:1125899906842624<s.cap
 ·go_wp2;go_ret;exact .inr ⟨(fun h=>by have:=h.2.1;omega),rfl,f⟩
 by_cases N:s.cap<s.ours
 ·go_wp2;go_ret;exact .inr ⟨(fun h=>by have:=h.2.2.1;omega),rfl,f⟩
 by_cases O:64<s.key.size
 ·have q:64<(s.key.size:Int):=by omega
  go_wp2;go_ret;exact .inr ⟨(fun h=>by have:=h.2.2.2.1;omega),rfl,f⟩
 by_cases P:64<s.peer.size
 ·have q:¬64<(s.key.size:Int):=by omega
  have r:64<(s.peer.size:Int):=by omega
  go_wp2;go_ret;exact .inr ⟨(fun h=>by have:=h.2.2.2.2;omega),rfl,f⟩
 ·have q:¬64<(s.key.size:Int):=by omega
  have r:¬64<(s.peer.size:Int):=by omega
  have R:IntKind.u64.wrap (s.cap-s.ours)=s.cap-s.ours:=by rw[IntKind.wrap_u64];omega
  go_wp2;go_ret;have H:s.may:=⟨by omega,by omega,by omega,by omega,by omega⟩;have I:qq w (w1.alloc (.cells (ChanV.new s).cells.toArray 126)):=f.alloc _;exact .inl ⟨H,w1.heap.size,rfl,f.size,⟨qj _ _,m.seed⟩,I⟩
end
section
open Go.RowKit
structure Htlc where
 id:Int
 amount:Int
 hash:Vector Int 32
 expiry:Int
structure Live where
 h:Htlc
 own:Bool
 state:Int
 paid:Bool
structure Item where
 offered:Bool
 h:Htlc
def qk(h:Htlc):List Value:= .int .u64 h.id :: .int .u64 h.amount::(h.hash.toList.map (Value.int .u8)++[.int .i64 h.expiry])
def qo(x:Live):List Value:=qk x.h++[.bool x.own,.int .i64 x.state,.bool x.paid]
def zk(x:Item):List Value:= .bool x.offered::qk x.h
structure HtlcOk(h:Htlc):Prop where
 id:0≤h.id∧h.id≤18446744073709551615
 amount:0≤h.amount∧h.amount≤18446744073709551615
 hash:∀n∈h.hash.toList,0≤n∧n≤255
 expiry : -9223372036854775808≤h.expiry∧h.expiry≤9223372036854775807
structure LiveOk(x:Live):Prop where
 h:HtlcOk x.h
 state : -9223372036854775808≤x.state∧x.state≤9223372036854775807
theorem qbj(h:Htlc):(qk h).length=35:=by simp[qk]
theorem qbo(x:Live):(qo x).length=38:=by simp[qo,qbj]
theorem qcf(x:Item):(zk x).length=36:=by simp[zk,qbj]
theorem qsn(x:Live):(qo x)[0]? = some (.int .u64 x.h.id):=rfl
theorem q6c(x:Live):(qo x)[1]? = some (.int .u64 x.h.amount):=rfl
theorem qfo(x:Live):(qo x)[35]? = some (.bool x.own):=by
 unfold qo;rw[List.getElem?_append_right (by rw[qbj];omega),qbj];rfl
theorem qfp(x:Live):(qo x)[36]? = some (.int .i64 x.state):=by
 unfold qo;rw[List.getElem?_append_right (by rw[qbj];omega),qbj];rfl
theorem qns(x:Live):(qo x)[37]? = some (.bool x.paid):=by
 unfold qo;rw[List.getElem?_append_right (by rw[qbj];omega),qbj];rfl
theorem qi2(h:Htlc):∀v∈qk h,v.oneCell'=true:=by
 intro v f;simp only[qk,List.mem_cons,List.mem_append,List.mem_map,List.not_mem_nil,or_false] at f;rcases f with rfl | rfl | ⟨n,_,rfl⟩ | rfl<;>rfl
theorem qot(x:Item):∀v∈zk x,v.oneCell'=true:=by
 intro v f;rcases List.mem_cons.1 f with rfl | f
 ·rfl
 ·exact qi2 _ v f
theorem Tryz.infoLive:(Tryz.prog.info? 69).map (·.size)=some 38:=by kernel_rfl
theorem Tryz.infoHtlc:(Tryz.prog.info? 41).map (·.size)=some 35:=by kernel_rfl
def q58(x:Value):Sem Value:=Instr.loadAt 69 x
theorem qbf(x:Value):Instr.loadAt 69 x=q58 x:=rfl
theorem qdo(b o:Nat)(w:World):(q58 (.pointer (some ⟨b,o,none⟩))).run Tryz.prog w=match zf w b o 38 with | some A=> .ok (.agg A) w | none=>qdn Tryz.prog 69 w b o :=
 qah 69 38 _ Tryz.underlying69 rfl Tryz.infoLive b o w
def q56(x:Value):Sem Value:=Instr.loadAt 41 x
theorem qsl(x:Value):Instr.loadAt 41 x=q56 x:=rfl
theorem q9g(b o:Nat)(w:World):(q56 (.pointer (some ⟨b,o,none⟩))).run Tryz.prog w=match zf w b o 35 with | some A=> .ok (.agg A) w | none=>qdn Tryz.prog 41 w b o :=
 qah 41 35 _ Tryz.underlying41 rfl Tryz.infoHtlc b o w
def q7o(x v:Value):Sem Unit:=Instr.storeAt 69 x v
theorem qbs(x v:Value):Instr.storeAt 69 x v=q7o x v:=rfl
theorem qd2(b o:Nat)(A:Array Value)(w:World):(q7o (.pointer (some ⟨b,o,none⟩)) (.agg A)).run Tryz.prog w=if stOk w b o 38 A=true then .ok () (w.setCells b o A.toList) else qel Tryz.prog 69 w b o A :=
 qaw 69 38 Tryz.infoLive b o A w
def qd9(w:World)(g off:Nat)(xs:List Live):Prop :=
 ∃C T f,w.heap[g]? = some (.cells C T f)∧off+xs.length*38≤C.size∧∀i x,xs[i]? = some x→∀j,j<38→C[off+i*38+j]? = (qo x)[j]?
theorem qd9.row{w:World}{g off:Nat}{xs:List Live}(h:qd9 w g off xs){i:Nat}{x:Live}(q:xs[i]? = some x):zf w g (off+i*38) 38=some (qo x).toArray:=by
 obtain⟨C,T,E,r,F,v⟩:=h;have m:i<xs.length:=(List.getElem?_eq_some_iff.1 q).1;have f:off+i*38+38≤C.size:=by have:=Nat.mul_le_mul_right 38 (show i+1≤xs.length from m);omega
 rw[qb8 r _ _ f];congr 1;apply Array.ext';apply List.ext_getElem?;intro j;rw[Array.getElem?_toList,Array.getElem?_extract];by_cases z:j<38
 ·rw[if_pos (by omega),v i x q j z]
 ·rw[if_neg (by omega),List.getElem?_eq_none (by rw[qbo];omega)]
theorem qd9.upd{S:Nat→Prop}{w w':World}{b off:Nat}{xs:List Live}(h:qd9 w b off xs)(u:Upd S w w')(m:¬S b):qd9 w' b off xs:=by
 obtain⟨C,T,f,i,r⟩:=h;exact⟨C,T,f,u.old i m,r⟩
theorem qd9.lt{w:World}{g off:Nat}{xs:List Live}(h:qd9 w g off xs):g<w.heap.size:=by
 obtain⟨C,T,i,f,r⟩:=h;exact zr f
def qgx(w:World)(v:Value)(xs:List Live):Prop:=(∃a c,v = .slice a 0 c∧xs=[])∨∃g off cap,v = .slice (some ⟨g,off,none⟩) xs.length cap∧qd9 w g off xs
theorem qgx.new{w w':World}{v:Value}{xs:List Live}(h:qgx w v xs)(u:qq w w'):qgx w' v xs:=by
 rcases h with h | ⟨g,off,cap,e,h⟩
 ·exact .inl h
 ·exact .inr ⟨g,off,cap,e,h.upd u (fun h=>h)⟩
def qn1(base:Nat)(w:World)(v:Value)(xs:List Live):Prop:=(∃a c,v = .slice a 0 c∧xs=[])∨∃g off cap,v = .slice (some ⟨g,off,none⟩) xs.length cap∧base≤g∧qd9 w g off xs
theorem qn1.to{base:Nat}{w:World}{v:Value}{xs:List Live}(h:qn1 base w v xs):qgx w v xs:=by
 rcases h with h | ⟨g,off,cap,e,_,h⟩
 ·exact .inl h
 ·exact .inr ⟨g,off,cap,e,h⟩
theorem qn1.row{base:Nat}{w:World}{v:Value}{xs:List Live}(h:qn1 base w v xs):∃a cap,v = .slice a xs.length cap∧∀(i:Nat) (x:Live),xs[i]? = some x→∃g off,a=some ⟨g,off,none⟩∧base≤g∧qd9 w g off xs:=by
 rcases h with ⟨a,c,e,rfl⟩ | ⟨g,off,cap,e,f,m⟩
 ·exact⟨a,c,e,fun i x q=>by simp at q⟩
 ·exact⟨_,cap,e,fun i x _=>⟨g,off,rfl,f,m⟩⟩
theorem qcz(Z:Array Value)(C:List Value)(h:Z.size=C.length):qi4 Z 0 C=C.toArray:=by
 apply Array.ext';apply List.ext_getElem?;intro j;rw[Array.getElem?_toList,qg9 _ _ _ _ (by omega)];by_cases i:j<C.length
 ·rw[if_pos (by omega)];simp
 ·have f:Z[j]? = none:=Array.getElem?_eq_none (by omega);rw[if_neg (by omega),f];exact(List.getElem?_eq_none (by simp;omega)).symm
theorem qk2(w:World)(Z:Array Value)(T:TypeId)(C:List Value)(f:Z.size=C.length) :
  ((w.alloc (.cells Z T)).setCells w.heap.size 0 C).heap[w.heap.size]? = some (.cells C.toArray T (0,0))∧qq w ((w.alloc (.cells Z T)).setCells w.heap.size 0 C):=by
 constructor
 ·rw[qba (qj w (.cells Z T)) 0 C,qcz Z C f]
 ·exact(((Upd.refl (· = w.heap.size) w).alloc _).setCells 0 C).mono (fun i m e=>by omega)
theorem qfc(x:Live):∀v∈qo x,v.oneCell'=true:=by
 intro v f;simp only[qo,List.mem_append,List.mem_cons,List.not_mem_nil,or_false] at f;rcases f with f | rfl | rfl | rfl
 ·exact qi2 _ v f
 ·rfl
 ·rfl
 ·rfl
theorem q60{w w':World}{base:Nat}{e:TypeId}{size:Nat}{v:Value}{n:Nat}{xs:List Value}(h:w.ownsRow base e size v n xs)(u:qq w w'):w'.ownsRow base e size v n xs:=by
 refine⟨h.1,?_⟩;rcases h.2 with h | ⟨g,cap,f,i,m,q,r⟩
 ·exact .inl h
 ·exact .inr ⟨g,cap,f,i,m,u.old q (fun h=>h),r⟩
theorem ql1{w:World}{base:Nat}{e:TypeId}{size:Nat}{v:Value}{n:Nat}{xs:List Value}(h:w.ownsRow base e size v n xs):∃a k c,v = .slice a k c:=by
 rcases h.2 with ⟨rfl,_⟩ | ⟨g,cap,f,rfl,_⟩
 ·exact⟨_,_,_,rfl⟩
 ·exact⟨_,_,_,rfl⟩
theorem qk9{S:Nat→Prop}{w w':World}{base:Nat}{e:TypeId}{size:Nat}{v:Value}{n:Nat}{xs:List Value}(h:w.ownsRow base e size v n xs)(u:Upd S w w')(q:∀k,base≤k→¬S k):w'.ownsRow base e size v n xs:=by
 refine⟨h.1,?_⟩;rcases h.2 with h | ⟨g,cap,f,m,i,z,r⟩
 ·exact .inl h
 ·exact .inr ⟨g,cap,f,m,i,u.old z (q g i),r⟩
theorem qlt(X:List Live):(X.flatMap qo).length=X.length*38:=by
 induction X with
 | nil=>rfl
 | cons x X f=>rw[List.flatMap_cons,List.length_append,f,qbo,List.length_cons];omega
theorem qqd:∀(X:List Live) (i j:Nat) (x:Live),X[i]? = some x→j<38→(X.flatMap qo)[i*38+j]? = (qo x)[j]? := by
 intro X
 induction X with
 | nil=>intro i j x h;simp at h
 | cons y X q =>
  intro i j x f m;rw[List.flatMap_cons];cases i with
  | zero =>
   simp only[List.getElem?_cons_zero,Option.some.injEq] at f;subst f;rw[List.getElem?_append_left (by rw[qbo];omega),Nat.zero_mul,Nat.zero_add]
  | succ i =>
   rw[List.getElem?_append_right (by rw[qbo];omega),qbo,show (i+1)*38+j-38=i*38+j by omega];exact q i j x (by simpa using f) m
theorem q0s(X:List Live):∀u∈X.flatMap qo,u.oneCell'=true:=by
 intro u f;obtain⟨x,_,i⟩:=List.mem_flatMap.1 f;exact qfc x u i
def qdy(w:World)(g off:Nat)(xs:List Live):Prop :=
 ∃C T,w.heap[g]? = some (.cells C T (0,0))∧off+xs.length*38≤C.size∧∀i x,xs[i]? = some x→∀j,j<38→C[off+i*38+j]? = (qo x)[j]?
theorem qdy.toL{w:World}{g off:Nat}{xs:List Live}(h:qdy w g off xs):qd9 w g off xs:=by
 obtain⟨C,T,f,r⟩:=h;exact⟨C,T,_,f,r⟩
theorem qdy.row{w:World}{g off:Nat}{xs:List Live}(h:qdy w g off xs){i:Nat}{x:Live}(f:xs[i]? = some x):zf w g (off+i*38) 38=some (qo x).toArray:=h.toL.row f
theorem qdy.upd{S:Nat→Prop}{w w':World}{b off:Nat}{xs:List Live}(h:qdy w b off xs)(u:Upd S w w')(i:¬S b):qdy w' b off xs:=by
 obtain⟨C,T,f,r⟩:=h;exact⟨C,T,u.old f i,r⟩
theorem qd9.cells{w:World}{g off:Nat}{X:List Live}(h:qd9 w g off X):∀j u,(X.flatMap qo)[j]? = some u→w.cell? ((⟨g,off,none⟩:Addr).add j)=some u:=by
 intro j u q;obtain⟨C,T,F,v,I,z⟩:=h;have H:j<X.length*38:=by
  have:=(List.getElem?_eq_some_iff.1 q).1;rwa [qlt] at this
 have f:(⟨g,off,none⟩:Addr).add j=⟨g,off+j,none⟩:=by unfold Addr.add;split<;>simp_all
 rw[f,qg v];have E:j / 38<X.length:=Nat.div_lt_of_lt_mul (by omega);obtain⟨x,r⟩:∃x,X[j / 38]? = some x:=⟨_,List.getElem?_eq_getElem E⟩;have e:=Nat.div_add_mod j 38;have m:=Nat.mod_lt j (show 0<38 by decide);rw[←q,show off+j=off+j / 38*38+j%38 by omega,z _ x r _ m];have i:=qqd X _ _ x r m;rw[show j / 38*38+j%38=j by omega] at i;exact i.symm
theorem qdl{w:World}{base:Nat}{v:Value}{n:Nat}{X:List Live}(h:w.ownsRow base 69 38 v n (X.flatMap qo)) :
  n=X.length∧((v = .slice none 0 0∧X=[])∨∃g cap,v = .slice (some ⟨g,0,none⟩) X.length cap∧base≤g∧qdy w g 0 X):=by
 have r:n=X.length:=by have:=h.1;rw[qlt] at this;omega
 refine⟨r,?_⟩
 subst r
 rcases h.2 with ⟨e,z⟩ | ⟨g,cap,f,e,C,F,E,_,J,I⟩
 ·exact .inl ⟨e,List.length_eq_zero_iff.1 z⟩
 ·refine .inr ⟨g,cap,e,C,f,_,F,by have:=Nat.mul_le_mul_right 38 E;omega,fun i x q j H=> ?_⟩;have m:=(List.getElem?_eq_some_iff.1 q).1;rw[Nat.zero_add,←qqd X i j x q H,←I,List.getElem?_take,if_pos (by have:=Nat.mul_le_mul_right 38 (show i+1≤X.length from m);omega),Array.getElem?_toList]
theorem Tryz.infoLiveB:(Tryz.prog.info? 69).map (fun i=>(i.size,i.bytes,i.zero.map (·.cells.size)))=some (38,80,some 38):=by kernel_rfl
theorem q1q:∃i z,Tryz.prog.info? 69=some i∧i.zero=some z∧i.size=38∧i.bytes=80∧z.cells.size=38:=by
 have h:=Tryz.infoLiveB;cases q:Tryz.prog.info? 69 with
 | none=>rw[q] at h;simp at h
 | some i =>
  rw[q] at h;simp only[Option.map_some,Option.some.injEq,Prod.mk.injEq] at h;obtain⟨r,v,f⟩:=h;cases m:i.zero with
  | none=>rw[m] at f;simp at f
  | some z=>rw[m] at f;simp at f;exact⟨i,z,rfl,m,r,v,f⟩
theorem qp9(v:Value)(xs:List Live)(W:xs.length≤1048576)(w:World)(O:qgx w v xs) :
  Calls Tryz.prog 56 #[v] w fun e w'=>∃u,e = .returned u∧qq w w'∧((∃a c,u = .slice a 0 c∧xs=[])∨∃g cap,u = .slice (some ⟨g,0,none⟩) xs.length cap∧w.heap.size≤g∧qdy w' g 0 xs):=by
 have C:(∃c,v = .slice none 0 c∧xs=[])∨∃(a:Addr) (cap:Nat),v = .slice (some a) xs.length cap∧∀j u,(xs.flatMap qo)[j]? = some u→w.cell? (a.add j)=some u:=by
  rcases O with ⟨a,c,rfl,rfl⟩ | ⟨g,off,cap,rfl,r⟩
  ·cases a with
   | none=>exact .inl ⟨_,rfl,rfl⟩
   | some a=>exact .inr ⟨a,c,rfl,by simp⟩
  ·exact .inr ⟨_,cap,rfl,r.cells⟩
 rcases C with ⟨c,rfl,rfl⟩ | ⟨a,cap,rfl,r⟩
 ·go_enter Tryz.func56,Tryz.ntmps56;have I:=fun(w:World)=>run_eql_slice_nil (P:=Tryz.prog) w 46 _ none 0 c Tryz.underlying46
  go_wp2
  first | go_ret2 | go_ret
  exact⟨_,rfl,Upd.refl _ _,.inl ⟨_,_,rfl,trivial⟩⟩
 ·obtain⟨S,z9,M,R,E,F,H⟩:=q1q;have I:=fun(w:World)=>run_eql_slice_nil (P:=Tryz.prog) w 46 _ (some a) xs.length cap Tryz.underlying46
  simp only[Option.isNone_some] at I;go_enter Tryz.func56,Tryz.ntmps56;go_wp2_with (at_builtin;refine wpList_append_own _ rfl (.tmp 5) (.tmp 6) 46 rfl w.heap.size 69 S _ 38 80 Tryz.underlying46 M R E F H (by decide) _ 0 [] rfl (World.ownsRow_made (base:=w.heap.size) w #[] 0 (Nat.le_refl _) (by decide) rfl) a xs.length cap (xs.flatMap qo) rfl (qlt xs) ?c1 (q0s xs) ?c3 ?c4 ?c5 ?_)
  case c1 =>
   intro j u N;exact((Upd.refl (fun _=>False) w).alloc _).cell (r j u N) (fun h=>h)
  case c3=>unfold maxLen;omega
  case c4=>omega
  case c5=>simp
  intro Y U f i _;have T:qq w U:=((Upd.refl _ w).alloc _).grown i (fun k h V=>by simp[Value.ownBlock] at h;omega);have m:=(qdl f).2;obtain⟨a5,X,c5,rfl⟩:=ql1 f;have J:=qb m;clear m f i;go_wp2
  first | go_ret2 | go_ret
  refine⟨_,rfl,T,?_⟩;rcases qa J with h | ⟨K,q,e,L,z⟩
  ·exact .inl ⟨_,_,h.1,h.2⟩
  ·exact .inr ⟨K,q,e,L,z⟩
def Live.zero:Live:=⟨⟨0,0,Vector.replicate 32 0,0⟩,false,0,false⟩
def q3r:Sem Value:=Instr.alloc 69 true (.tuple #[])
theorem qci:Instr.alloc 69 true (.tuple #[])=q3r:=rfl
theorem qfl(w:World):q3r.run Tryz.prog w = .ok (.pointer (some ⟨w.heap.size,0,none⟩)) (w.alloc (.cells (qo Live.zero).toArray 69)):=by kernel_rfl
theorem qem{w:World}{b:Nat}{C:Array Value}{T:TypeId}(h:w.heap[b]? = some (.cells C T (0,0))){A:List Value}(i:A.length=C.size)(f:∀v∈A,v.oneCell'=true):stOk w b 0 C.size A.toArray=true :=
 qd0 h (by omega) (by simpa using i) (by rw[Array.all_eq_true_iff_forall_mem];intro v m;exact f v (by simpa using m))
theorem qjw(w:World)(x:Live):stOk (w.alloc (.cells (qo Live.zero).toArray 69)) w.heap.size 0 38 (qo x).toArray=true :=
 qem (C:=(qo Live.zero).toArray) (qj _ _) (by rw[qbo];rfl) (qfc x)
theorem qjq(w:World)(x:Live):((w.alloc (.cells (qo Live.zero).toArray 69)).setCells w.heap.size 0 (qo x)).heap[w.heap.size]? = some (.cells (qo x).toArray 69 (0,0))∧qq w ((w.alloc (.cells (qo Live.zero).toArray 69)).setCells w.heap.size 0 (qo x)) :=
 qk2 w _ _ _ (by rw[qbo];rfl)
end
end Go.Proofs.YtfmkdoachjgjbaaGreatDoor
