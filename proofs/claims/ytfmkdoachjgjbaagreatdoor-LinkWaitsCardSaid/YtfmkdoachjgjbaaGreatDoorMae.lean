/-
  A struct that is built of its parts: a part laid into the zero cells.
-/
import Derived.Test.YtfmkdoachjgjbaaGreatDoorMac
import Derived.Great.BuildSlice
import Derived.Test.YtfmkdoachjgjbaaGreatDoorProg
import Derived.Test.YtfmkdoachjgjbaaGreatDoorRows
import Derived.IntWalk
import Derived.Outline
import Derived.Deep.CutRange
import Derived.BigRegion
import Derived.Deep.RegionLaw
import Derived.Test.YtfmkdoachjgjbaaGreatDoorMaa
import Derived.Lib.LazyBuf
import Derived.Test.YtfmkdoachjgjbaaGreatDoorTxt
import Derived.Deep.Onto
import Derived.Maps.AppendAt
import Derived.Deep.AppendLies
set_option maxRecDepth 100000
set_option maxHeartbeats 2000000
set_option linter.unusedVariables false
set_option linter.unusedSimpArgs false
namespace Go.Proofs.YtfmkdoachjgjbaaGreatDoor
section
open Go.RowKit
theorem qt3(A P Z R:List Value)(h:Z.length=A.length):(A.zipIdx).foldl (fun(cs:Array Value) (c,j)=>cs.setIfInBounds (P.length+j) c) (P++(Z++R)).toArray=(P++(A++R)).toArray:=by
 have key:∀(A:List Value) (k:Nat) (Q Z:List Value),Z.length=A.length→Q.length=P.length+k→(A.zipIdx k).foldl (fun(cs:Array Value) (c,j)=>cs.setIfInBounds (P.length+j) c) (Q++(Z++R)).toArray=(Q++(A++R)).toArray:=by
  intro A
  induction A with
  | nil=>intro k Q Z f _;rw[List.length_eq_zero_iff.1 f];rfl
  | cons a A m =>
   intro k Q Z f i;cases Z with
   | nil=>simp at f
   | cons z Z =>
    rw[List.zipIdx_cons,List.foldl_cons];have e:(Q++(z::Z++R)).toArray.setIfInBounds (P.length+k) a=((Q++[a])++(Z++R)).toArray:=by
     rw[←i];simp
    show List.foldl _ ((Q++(z::Z++R)).toArray.setIfInBounds (P.length+k) a) _=_;rw[e,m (k+1) (Q++[a]) Z (by simpa using f) (by simp[i];omega)];simp
 exact key A 0 P Z h rfl
theorem qbl{P:Program}{t:TypeId}{q:TypeInfo}{z:Value}{m:Array Field}{places:List (Nat × Nat)}(v:P.info? t=some q)(E:P.underlying t=some (.struct m))(F:q.zero=some z)
  (C:m.toList.mapM (fun f=>(P.info? f.type).map fun i=>(f.offset,i.size))=some places) (p:List (Nat × Value)):P.built t p=Instr.fill (places.toArray[·]?) z.cells p:=by
 unfold Program.built
 rw[v,E]
 simp only[F,C]
theorem qcn{P:Program}{t:TypeId}{l:List Value}(h:((P.info? t).map fun i=>i.zero.map fun z=>z.cells.toList)=some (some l)):∃i z,P.info? t=some i∧i.zero=some z∧z.cells=l.toArray:=by
 cases m:P.info? t with
 | none=>rw[m] at h;simp at h
 | some i =>
  rw[m,Option.map_some,Option.some.injEq] at h;cases f:i.zero with
  | none=>rw[f] at h;simp at h
  | some z =>
   rw[f,Option.map_some,Option.some.injEq] at h;exact⟨i,z,rfl,f,by rw[←h]⟩
theorem qc3{f:Nat→Option (Nat × Nat)}{i off:Nat}{A P Z R:List Value}{cs:Array Value}(z:f i=some (off,A.length))(v:P.length=off)(p:Z.length=A.length)(q:cs=(P++(Z++R)).toArray)(rest:List (Nat × Value)) :
  Instr.fill f cs ((i,.agg A.toArray)::rest)=Instr.fill f (P++(A++R)).toArray rest:=by
 subst q v
 rw[Instr.fill,z]
 have C:¬(A.toArray.size≠A.length || P.length+A.toArray.size>(P++(Z++R)).toArray.size)=true:=by
  simp[p]
 have m:((Value.agg A.toArray).cells.size≠A.length || P.length+(Value.agg A.toArray).cells.size>(P++(Z++R)).toArray.size)=false:=by
  simpa [Value.cells] using C
 simp only[m,Bool.false_eq_true,if_false]
 congr 1
 have:=qt3 A P Z R p
 simpa [Value.cells] using this
structure SetupV where
 ch:Int
 cap:Int
 ours:Int
 seed:List Int
 key:ByteArray
 peer:ByteArray
def SetupV.cells(s:SetupV):List Value:= .int .u32 s.ch :: .int .u64 s.cap :: .int .u64 s.ours::(s.seed.map (Value.int .u8)++[.string s.key,.string s.peer])
structure SetupV.Ok(s:SetupV):Prop where
 ch:0≤s.ch∧s.ch<4294967296
 cap:0≤s.cap∧s.cap<18446744073709551616
 ours:0≤s.ours∧s.ours<18446744073709551616
 seed:s.seed.length=32
theorem SetupV.len(s:SetupV)(h:s.seed.length=32):s.cells.length=37:=by simp[SetupV.cells,h]
structure KeptV where
 full:Bool
 number:Int
 told:List Int
def KeptV.cells(k:KeptV):List Value:= .bool k.full :: .int .i64 k.number::k.told.map (Value.int .u8)
def KeptV.zero:KeptV:=⟨false,0,List.replicate 32 0⟩
structure CountsV where
 signed:Int
 heard:Int
 awaits:Bool
 nextOwn:Int
 nextTheirs:Int
 shutSaid:Bool
 shutHeard:Bool
 revoked:Bool
def CountsV.cells(k:CountsV):List Value:=[.int .i64 k.signed,.int .i64 k.heard,.bool k.awaits,.int .u64 k.nextOwn,.int .u64 k.nextTheirs,.bool k.shutSaid,.bool k.shutHeard,.bool k.revoked]
def CountsV.zero:CountsV:=⟨0,0,false,0,0,false,false,false⟩
structure ChanV where
 setup:SetupV
 k:CountsV
 loc:Int
 rem:Int
 live:Value
 shelf:List KeptV
 news:Value
 last:Value
def ChanV.told(c:ChanV):List Value:=c.shelf.flatMap KeptV.cells
def ChanV.rest(c:ChanV):List Value:= .int .u64 c.loc :: .int .u64 c.rem::c.live::(c.told++[c.news,c.last])
def ChanV.cells(c:ChanV):List Value:=c.setup.cells++(c.k.cells++c.rest)
def qbw:Value:= .slice none 0 0
def ChanV.new(s:SetupV):ChanV:=⟨s,.zero,s.ours,s.cap-s.ours,qbw,List.replicate 17 .zero,qbw,qbw⟩
structure ChR(w:World)(g:Nat)(c:ChanV):Prop where
 at_:w.heap[g]? = some (.cells c.cells.toArray 126 (0,0))
 seed:c.setup.seed.length=32
theorem ChR.lt{w:World}{g:Nat}{c:ChanV}(h:ChR w g c):g<w.heap.size:=zr h.at_
theorem ChR.upd{S:Nat→Prop}{w w':World}{g:Nat}{c:ChanV}(h:ChR w g c)(u:Upd S w w')(f:¬S g):ChR w' g c:=⟨u.old h.at_ f,h.seed⟩
theorem ChR.new{w w':World}{g:Nat}{c:ChanV}(h:ChR w g c)(u:qu w w'):ChR w' g c:=h.upd u (fun h=>h)
theorem ChR.cell{w:World}{g:Nat}{c:ChanV}(h:ChR w g c)(i:Nat):w.cell? ⟨g,i,none⟩=c.cells[i]? := by
 rw[qg h.at_,List.getElem?_toArray]
theorem q0e(c:ChanV)(h:c.setup.seed.length=32)(i:Nat)(f:i<37):c.cells[i]? = c.setup.cells[i]? := by
 unfold ChanV.cells;rw[List.getElem?_append_left (by rw[c.setup.len h];exact f)]
theorem qll(c:ChanV)(h:c.setup.seed.length=32)(i:Nat):c.cells[37+i]? = (c.k.cells++c.rest)[i]? := by
 unfold ChanV.cells;rw[List.getElem?_append_right (by rw[c.setup.len h];omega),c.setup.len h,Nat.add_sub_cancel_left]
theorem ChR.low{w:World}{g:Nat}{c:ChanV}(h:ChR w g c)(i:Nat)(f:i<37):w.cell? ⟨g,i,none⟩=c.setup.cells[i]? := (h.cell i).trans (q0e c h.seed i f)
theorem ChR.mid{w:World}{g:Nat}{c:ChanV}(h:ChR w g c)(i:Nat):w.cell? ⟨g,37+i,none⟩=(c.k.cells++c.rest)[i]? := (h.cell _).trans (qll c h.seed i)
section
variable {w:World}{g:Nat}{c:ChanV}(h:ChR w g c)
include h
theorem ChR.ch:w.cell? ⟨g,0,none⟩=some (.int .u32 c.setup.ch):=h.low 0 (by omega)
theorem ChR.signed:w.cell? ⟨g,37,none⟩=some (.int .i64 c.k.signed):=h.mid 0
theorem ChR.heard:w.cell? ⟨g,38,none⟩=some (.int .i64 c.k.heard):=h.mid 1
theorem ChR.awaits:w.cell? ⟨g,39,none⟩=some (.bool c.k.awaits):=h.mid 2
theorem ChR.nextOwn:w.cell? ⟨g,40,none⟩=some (.int .u64 c.k.nextOwn):=h.mid 3
theorem ChR.nextTheirs:w.cell? ⟨g,41,none⟩=some (.int .u64 c.k.nextTheirs):=h.mid 4
theorem ChR.shutSaid:w.cell? ⟨g,42,none⟩=some (.bool c.k.shutSaid):=h.mid 5
theorem ChR.shutHeard:w.cell? ⟨g,43,none⟩=some (.bool c.k.shutHeard):=h.mid 6
theorem ChR.revoked:w.cell? ⟨g,44,none⟩=some (.bool c.k.revoked):=h.mid 7
theorem ChR.loc:w.cell? ⟨g,45,none⟩=some (.int .u64 c.loc):=h.mid 8
theorem ChR.rem:w.cell? ⟨g,46,none⟩=some (.int .u64 c.rem):=h.mid 9
theorem ChR.live:w.cell? ⟨g,47,none⟩=some c.live:=h.mid 10
end
def qpl:List Value:=qbw::((List.replicate 17 KeptV.zero).flatMap KeptV.cells++[qbw,qbw])
def ql3:List Value:= .int .u32 0 :: .int .u64 0 :: .int .u64 0::((List.replicate 32 0).map (Value.int .u8)++[.string ⟨#[]⟩,.string ⟨#[]⟩])
theorem Tryz.zeroChan:((Tryz.prog.info? 126).map fun i=>i.zero.map fun z=>z.cells.toList)=some (some (ql3++(CountsV.zero.cells++([.int .u64 0,.int .u64 0]++qpl)))):=by kernel_rfl
theorem Tryz.placesChan:∃m,Tryz.prog.underlying 126=some (.struct m)∧m.toList.mapM (fun f=>(Tryz.prog.info? f.type).map fun i=>(f.offset,i.size))=some [(0,37),(37,8),(45,2),(47,1),(48,578),(626,1),(627,1)]:=⟨_,Tryz.underlying126,by kernel_rfl⟩
theorem qwh(S:List Value)(a b:Value)(f:S.length=37):Tryz.prog.built 126 [(0,.agg S.toArray),(2,.agg [a,b].toArray)]=some (S++(CountsV.zero.cells++([a,b]++qpl))).toArray:=by
 obtain⟨i,z,p,C,m⟩:=qcn Tryz.zeroChan;obtain⟨E,v,q⟩:=Tryz.placesChan;rw[qbl p v C q];rw[qc3 (P:=[]) (A:=S) (Z:=ql3) (R:=CountsV.zero.cells++([.int .u64 0,.int .u64 0]++qpl)) (off:=0) (by rw[f];rfl) rfl (by rw[f];rfl) m];rw[qc3 (P:=S++CountsV.zero.cells) (A:=[a,b]) (Z:=[.int .u64 0,.int .u64 0]) (R:=qpl) (off:=45) (by rfl) (by rw[List.length_append,f];rfl) rfl (by simp)];rw[Instr.fill];simp
def q37(p:Array (Nat × Value)):Sem Value:=Instr.build 126 p
theorem qrs(p:Array (Nat × Value)):Instr.build 126 p=q37 p:=rfl
theorem q8s(s:SetupV)(f:s.seed.length=32)(a b:Value)(w:World):(q37 #[(0,.agg s.cells.toArray),(2,.agg #[a,b])]).run Tryz.prog w = .ok (.agg (s.cells++(CountsV.zero.cells++([a,b]++qpl))).toArray) w :=
 run_build w _ _ _ (qwh s.cells a b (s.len f))
theorem Tryz.infoSetup:(Tryz.prog.info? 78).map (·.size)=some 37:=by kernel_rfl
def qzd(x:Value):Sem Value:=Instr.loadAt 78 x
theorem qb2(x:Value):Instr.loadAt 78 x=qzd x:=rfl
theorem qee(b o:Nat)(w:World):(qzd (.pointer (some ⟨b,o,none⟩))).run Tryz.prog w=match zj w b o 37 with | some A=> .ok (.agg A) w | none=>qc6 Tryz.prog 78 w b o :=
 zy 78 37 _ Tryz.underlying78 rfl Tryz.infoSetup b o w
def qtd(w:World)(b:Nat)(s:SetupV):Prop:=w.heap[b]? = some (.cells s.cells.toArray 78 (0,0))
theorem qtd.lt{w:World}{g:Nat}{s:SetupV}(h:qtd w g s):g<w.heap.size:=zr h
theorem qtd.row{w:World}{b:Nat}{s:SetupV}(h:qtd w b s)(f:s.seed.length=32):zj w b 0 37=some s.cells.toArray:=by
 rw[qbx h 0 37 (by simp[s.len f])];congr 1;apply Array.ext';rw[Array.toList_extract];show List.take 37 (List.drop 0 s.cells)=s.cells;rw[List.drop_zero,List.take_of_length_le (by rw[s.len f];exact Nat.le_refl _)]
theorem qtd.cell{w:World}{b:Nat}{s:SetupV}(h:qtd w b s)(i:Nat):w.cell? ⟨b,i,none⟩=s.cells[i]? := by rw[qg h,List.getElem?_toArray]
theorem SetupV.c35(s:SetupV)(h:s.seed.length=32):s.cells[35]? = some (.string s.key):=by
 unfold SetupV.cells;rw[List.getElem?_cons_succ,List.getElem?_cons_succ,List.getElem?_cons_succ,List.getElem?_append_right (by simp[h])];simp[h]
theorem SetupV.c36(s:SetupV)(h:s.seed.length=32):s.cells[36]? = some (.string s.peer):=by
 unfold SetupV.cells;rw[List.getElem?_cons_succ,List.getElem?_cons_succ,List.getElem?_cons_succ,List.getElem?_append_right (by simp[h])];simp[h]
attribute [local go_sem ↓ high] qb2 qrs
attribute [local go_sem] qee
def SetupV.may(s:SetupV):Prop:=1≤s.cap∧s.cap≤1125899906842624∧s.ours≤s.cap∧s.key.size≤64∧s.peer.size≤64
theorem q2c(s:SetupV):s.cells++(CountsV.zero.cells++([.int .u64 s.ours,.int .u64 (s.cap-s.ours)]++qpl))=(ChanV.new s).cells:=by
 unfold ChanV.new ChanV.cells ChanV.rest ChanV.told qpl;simp
theorem q62(s:SetupV)(m:s.Ok)(w:World):Calls Tryz.prog 85 #[.agg s.cells.toArray] w fun e w' =>
  (s.may∧∃g,e = .returned (.pointer (some ⟨g,0,none⟩))∧w.heap.size≤g∧ChR w' g (.new s)∧qu w w')∨(¬s.may∧e = .returned (.pointer none)∧qu w w'):=by
 go_enter Tryz.func85,Tryz.ntmps85
 go_upto_region 1 with fail
 have i:qtd (w.alloc (.cells s.cells.toArray 78)) w.heap.size s:=qh _ _
 have f:qu w (w.alloc (.cells s.cells.toArray 78)):=(Upd.refl _ _).alloc _
 generalize w.alloc (.cells s.cells.toArray 78)=w1 at i f ⊢
 have F:=i.lt
 have z:=i.row m.seed
 have J:w1.cell? ⟨w.heap.size,1,none⟩=some (.int .u64 s.cap):=i.cell 1
 have K:w1.cell? ⟨w.heap.size,2,none⟩=some (.int .u64 s.ours):=i.cell 2
 have C:w1.cell? ⟨w.heap.size,35,none⟩=some (.string s.key):=(i.cell 35).trans (s.c35 m.seed)
 have E:w1.cell? ⟨w.heap.size,36,none⟩=some (.string s.peer):=(i.cell 36).trans (s.c36 m.seed)
 obtain⟨a0,a1⟩:=m.cap
 obtain⟨b0,b1⟩:=m.ours
 have v:=q8s s m.seed (.int .u64 s.ours) (.int .u64 (s.cap-s.ours))
 rw[q2c] at v
 by_cases L:s.cap<1
 ·go_wp2;go_ret;exact .inr ⟨(fun h=>by have:=h.1;omega),rfl,f⟩
 by_cases M:1125899906842624<s.cap
 ·go_wp2;go_ret;exact .inr ⟨(fun h=>by have:=h.2.1;omega),rfl,f⟩
 by_cases N:s.cap<s.ours
 ·go_wp2;go_ret;exact .inr ⟨(fun h=>by have:=h.2.2.1;omega),rfl,f⟩
 by_cases O:64<s.key.size
 ·have p:64<(s.key.size:Int):=by omega
  go_wp2;go_ret;exact .inr ⟨(fun h=>by have:=h.2.2.2.1;omega),rfl,f⟩
 by_cases P:64<s.peer.size
 ·have p:¬64<(s.key.size:Int):=by omega
  have q:64<(s.peer.size:Int):=by omega
  go_wp2;go_ret;exact .inr ⟨(fun h=>by have:=h.2.2.2.2;omega),rfl,f⟩
 ·have p:¬64<(s.key.size:Int):=by omega
  have q:¬64<(s.peer.size:Int):=by omega
  have R:IntKind.u64.wrap (s.cap-s.ours)=s.cap-s.ours:=by rw[IntKind.wrap_u64];omega
  go_wp2;go_ret;have H:s.may:=⟨by omega,by omega,by omega,by omega,by omega⟩;have I:qu w (w1.alloc (.cells (ChanV.new s).cells.toArray 126)):=f.alloc _;exact .inl ⟨H,w1.heap.size,rfl,f.size,⟨qh _ _,m.seed⟩,I⟩
end
section
open Go.RowKit
structure Htlc where
 id:Int
 amount:Int
 hash:Vector Int 32
 expiry:Int
structure Live where
 h:Htlc
 own:Bool
 state:Int
 paid:Bool
structure Item where
 offered:Bool
 h:Htlc
def qm(h:Htlc):List Value:= .int .u64 h.id :: .int .u64 h.amount::(h.hash.toList.map (Value.int .u8)++[.int .i64 h.expiry])
def qk(x:Live):List Value:=qm x.h++[.bool x.own,.int .i64 x.state,.bool x.paid]
def zi(x:Item):List Value:= .bool x.offered::qm x.h
structure HtlcOk(h:Htlc):Prop where
 id:0≤h.id∧h.id≤18446744073709551615
 amount:0≤h.amount∧h.amount≤18446744073709551615
 hash:∀n∈h.hash.toList,0≤n∧n≤255
 expiry : -9223372036854775808≤h.expiry∧h.expiry≤9223372036854775807
structure LiveOk(x:Live):Prop where
 h:HtlcOk x.h
 state : -9223372036854775808≤x.state∧x.state≤9223372036854775807
theorem qbh(h:Htlc):(qm h).length=35:=by simp[qm]
theorem qbb(x:Live):(qk x).length=38:=by simp[qk,qbh]
theorem qcc(x:Item):(zi x).length=36:=by simp[zi,qbh]
theorem qsn(x:Live):(qk x)[0]? = some (.int .u64 x.h.id):=rfl
theorem q6p(x:Live):(qk x)[1]? = some (.int .u64 x.h.amount):=rfl
theorem qez(x:Live):(qk x)[35]? = some (.bool x.own):=by
 unfold qk;rw[List.getElem?_append_right (by rw[qbh];omega),qbh];rfl
theorem qe0(x:Live):(qk x)[36]? = some (.int .i64 x.state):=by
 unfold qk;rw[List.getElem?_append_right (by rw[qbh];omega),qbh];rfl
theorem qnk(x:Live):(qk x)[37]? = some (.bool x.paid):=by
 unfold qk;rw[List.getElem?_append_right (by rw[qbh];omega),qbh];rfl
theorem qix(h:Htlc):∀v∈qm h,v.oneCell'=true:=by
 intro v f;simp only[qm,List.mem_cons,List.mem_append,List.mem_map,List.not_mem_nil,or_false] at f;rcases f with rfl | rfl | ⟨n,_,rfl⟩ | rfl<;>rfl
theorem qop(x:Item):∀v∈zi x,v.oneCell'=true:=by
 intro v f;rcases List.mem_cons.1 f with rfl | f
 ·rfl
 ·exact qix _ v f
theorem Tryz.infoLive:(Tryz.prog.info? 69).map (·.size)=some 38:=by kernel_rfl
theorem Tryz.infoHtlc:(Tryz.prog.info? 41).map (·.size)=some 35:=by kernel_rfl
def q6l(x:Value):Sem Value:=Instr.loadAt 69 x
theorem qba(x:Value):Instr.loadAt 69 x=q6l x:=rfl
theorem qdk(b o:Nat)(w:World):(q6l (.pointer (some ⟨b,o,none⟩))).run Tryz.prog w=match zj w b o 38 with | some A=> .ok (.agg A) w | none=>qc6 Tryz.prog 69 w b o :=
 zy 69 38 _ Tryz.underlying69 rfl Tryz.infoLive b o w
def q6j(x:Value):Sem Value:=Instr.loadAt 41 x
theorem qsl(x:Value):Instr.loadAt 41 x=q6j x:=rfl
theorem q9v(b o:Nat)(w:World):(q6j (.pointer (some ⟨b,o,none⟩))).run Tryz.prog w=match zj w b o 35 with | some A=> .ok (.agg A) w | none=>qc6 Tryz.prog 41 w b o :=
 zy 41 35 _ Tryz.underlying41 rfl Tryz.infoHtlc b o w
def q71(x v:Value):Sem Unit:=Instr.storeAt 69 x v
theorem qbn(x v:Value):Instr.storeAt 69 x v=q71 x v:=rfl
theorem qd2(b o:Nat)(A:Array Value)(w:World):(q71 (.pointer (some ⟨b,o,none⟩)) (.agg A)).run Tryz.prog w=if stOk w b o 38 A=true then .ok () (w.setCells b o A.toList) else qd3 Tryz.prog 69 w b o A :=
 qap 69 38 Tryz.infoLive b o A w
def qd4(w:World)(g off:Nat)(xs:List Live):Prop :=
 ∃C T f,w.heap[g]? = some (.cells C T f)∧off+xs.length*38≤C.size∧∀i x,xs[i]? = some x→∀j,j<38→C[off+i*38+j]? = (qk x)[j]?
theorem qd4.row{w:World}{g off:Nat}{xs:List Live}(h:qd4 w g off xs){i:Nat}{x:Live}(p:xs[i]? = some x):zj w g (off+i*38) 38=some (qk x).toArray:=by
 obtain⟨C,T,E,q,F,v⟩:=h;have m:i<xs.length:=(List.getElem?_eq_some_iff.1 p).1;have f:off+i*38+38≤C.size:=by have:=Nat.mul_le_mul_right 38 (show i+1≤xs.length from m);omega
 rw[qbx q _ _ f];congr 1;apply Array.ext';apply List.ext_getElem?;intro j;rw[Array.getElem?_toList,Array.getElem?_extract];by_cases z:j<38
 ·rw[if_pos (by omega),v i x p j z]
 ·rw[if_neg (by omega),List.getElem?_eq_none (by rw[qbb];omega)]
theorem qd4.upd{S:Nat→Prop}{w w':World}{b off:Nat}{xs:List Live}(h:qd4 w b off xs)(u:Upd S w w')(m:¬S b):qd4 w' b off xs:=by
 obtain⟨C,T,f,i,r⟩:=h;exact⟨C,T,f,u.old i m,r⟩
theorem qd4.lt{w:World}{g off:Nat}{xs:List Live}(h:qd4 w g off xs):g<w.heap.size:=by
 obtain⟨C,T,i,f,r⟩:=h;exact zr f
def qgu(w:World)(v:Value)(xs:List Live):Prop:=(∃a c,v = .slice a 0 c∧xs=[])∨∃g off cap,v = .slice (some ⟨g,off,none⟩) xs.length cap∧qd4 w g off xs
theorem qgu.new{w w':World}{v:Value}{xs:List Live}(h:qgu w v xs)(u:qu w w'):qgu w' v xs:=by
 rcases h with h | ⟨g,off,cap,e,h⟩
 ·exact .inl h
 ·exact .inr ⟨g,off,cap,e,h.upd u (fun h=>h)⟩
def qnu(base:Nat)(w:World)(v:Value)(xs:List Live):Prop:=(∃a c,v = .slice a 0 c∧xs=[])∨∃g off cap,v = .slice (some ⟨g,off,none⟩) xs.length cap∧base≤g∧qd4 w g off xs
theorem qnu.to{base:Nat}{w:World}{v:Value}{xs:List Live}(h:qnu base w v xs):qgu w v xs:=by
 rcases h with h | ⟨g,off,cap,e,_,h⟩
 ·exact .inl h
 ·exact .inr ⟨g,off,cap,e,h⟩
theorem qnu.row{base:Nat}{w:World}{v:Value}{xs:List Live}(h:qnu base w v xs):∃a cap,v = .slice a xs.length cap∧∀(i:Nat) (x:Live),xs[i]? = some x→∃g off,a=some ⟨g,off,none⟩∧base≤g∧qd4 w g off xs:=by
 rcases h with ⟨a,c,e,rfl⟩ | ⟨g,off,cap,e,f,m⟩
 ·exact⟨a,c,e,fun i x p=>by simp at p⟩
 ·exact⟨_,cap,e,fun i x _=>⟨g,off,rfl,f,m⟩⟩
theorem qcv(Z:Array Value)(C:List Value)(h:Z.size=C.length):qiz Z 0 C=C.toArray:=by
 apply Array.ext';apply List.ext_getElem?;intro j;rw[Array.getElem?_toList,qg5 _ _ _ _ (by omega)];by_cases i:j<C.length
 ·rw[if_pos (by omega)];simp
 ·have f:Z[j]? = none:=Array.getElem?_eq_none (by omega);rw[if_neg (by omega),f];exact(List.getElem?_eq_none (by simp;omega)).symm
theorem qky(w:World)(Z:Array Value)(T:TypeId)(C:List Value)(f:Z.size=C.length) :
  ((w.alloc (.cells Z T)).setCells w.heap.size 0 C).heap[w.heap.size]? = some (.cells C.toArray T (0,0))∧qu w ((w.alloc (.cells Z T)).setCells w.heap.size 0 C):=by
 constructor
 ·rw[qa3 (qh w (.cells Z T)) 0 C,qcv Z C f]
 ·exact(((Upd.refl (· = w.heap.size) w).alloc _).setCells 0 C).mono (fun i m e=>by omega)
theorem qef(x:Live):∀v∈qk x,v.oneCell'=true:=by
 intro v f;simp only[qk,List.mem_append,List.mem_cons,List.not_mem_nil,or_false] at f;rcases f with f | rfl | rfl | rfl
 ·exact qix _ v f
 ·rfl
 ·rfl
 ·rfl
theorem q7e{w w':World}{base:Nat}{e:TypeId}{size:Nat}{v:Value}{n:Nat}{xs:List Value}(h:w.ownsRow base e size v n xs)(u:qu w w'):w'.ownsRow base e size v n xs:=by
 refine⟨h.1,?_⟩;rcases h.2 with h | ⟨g,cap,f,i,m,p,r⟩
 ·exact .inl h
 ·exact .inr ⟨g,cap,f,i,m,u.old p (fun h=>h),r⟩
theorem qly{w:World}{base:Nat}{e:TypeId}{size:Nat}{v:Value}{n:Nat}{xs:List Value}(h:w.ownsRow base e size v n xs):∃a k c,v = .slice a k c:=by
 rcases h.2 with ⟨rfl,_⟩ | ⟨g,cap,f,rfl,_⟩
 ·exact⟨_,_,_,rfl⟩
 ·exact⟨_,_,_,rfl⟩
theorem qk6{S:Nat→Prop}{w w':World}{base:Nat}{e:TypeId}{size:Nat}{v:Value}{n:Nat}{xs:List Value}(h:w.ownsRow base e size v n xs)(u:Upd S w w')(p:∀k,base≤k→¬S k):w'.ownsRow base e size v n xs:=by
 refine⟨h.1,?_⟩;rcases h.2 with h | ⟨g,cap,f,m,i,q,r⟩
 ·exact .inl h
 ·exact .inr ⟨g,cap,f,m,i,u.old q (p g i),r⟩
theorem qlm(X:List Live):(X.flatMap qk).length=X.length*38:=by
 induction X with
 | nil=>rfl
 | cons x X f=>rw[List.flatMap_cons,List.length_append,f,qbb,List.length_cons];omega
theorem qqd:∀(X:List Live) (i j:Nat) (x:Live),X[i]? = some x→j<38→(X.flatMap qk)[i*38+j]? = (qk x)[j]? := by
 intro X
 induction X with
 | nil=>intro i j x h;simp at h
 | cons y X p =>
  intro i j x f m;rw[List.flatMap_cons];cases i with
  | zero =>
   simp only[List.getElem?_cons_zero,Option.some.injEq] at f;subst f;rw[List.getElem?_append_left (by rw[qbb];omega),Nat.zero_mul,Nat.zero_add]
  | succ i =>
   rw[List.getElem?_append_right (by rw[qbb];omega),qbb,show (i+1)*38+j-38=i*38+j by omega];exact p i j x (by simpa using f) m
theorem q0x(X:List Live):∀u∈X.flatMap qk,u.oneCell'=true:=by
 intro u f;obtain⟨x,_,i⟩:=List.mem_flatMap.1 f;exact qef x u i
def qdy(w:World)(g off:Nat)(xs:List Live):Prop :=
 ∃C T,w.heap[g]? = some (.cells C T (0,0))∧off+xs.length*38≤C.size∧∀i x,xs[i]? = some x→∀j,j<38→C[off+i*38+j]? = (qk x)[j]?
theorem qdy.toL{w:World}{g off:Nat}{xs:List Live}(h:qdy w g off xs):qd4 w g off xs:=by
 obtain⟨C,T,f,r⟩:=h;exact⟨C,T,_,f,r⟩
theorem qdy.row{w:World}{g off:Nat}{xs:List Live}(h:qdy w g off xs){i:Nat}{x:Live}(f:xs[i]? = some x):zj w g (off+i*38) 38=some (qk x).toArray:=h.toL.row f
theorem qdy.upd{S:Nat→Prop}{w w':World}{b off:Nat}{xs:List Live}(h:qdy w b off xs)(u:Upd S w w')(i:¬S b):qdy w' b off xs:=by
 obtain⟨C,T,f,r⟩:=h;exact⟨C,T,u.old f i,r⟩
theorem qd4.cells{w:World}{g off:Nat}{X:List Live}(h:qd4 w g off X):∀j u,(X.flatMap qk)[j]? = some u→w.cell? ((⟨g,off,none⟩:Addr).add j)=some u:=by
 intro j u p;obtain⟨C,T,F,v,I,z⟩:=h;have H:j<X.length*38:=by
  have:=(List.getElem?_eq_some_iff.1 p).1;rwa [qlm] at this
 have f:(⟨g,off,none⟩:Addr).add j=⟨g,off+j,none⟩:=by unfold Addr.add;split<;>simp_all
 rw[f,qg v];have E:j / 38<X.length:=Nat.div_lt_of_lt_mul (by omega);obtain⟨x,q⟩:∃x,X[j / 38]? = some x:=⟨_,List.getElem?_eq_getElem E⟩;have e:=Nat.div_add_mod j 38;have m:=Nat.mod_lt j (show 0<38 by decide);rw[←p,show off+j=off+j / 38*38+j%38 by omega,z _ x q _ m];have i:=qqd X _ _ x q m;rw[show j / 38*38+j%38=j by omega] at i;exact i.symm
theorem qcx{w:World}{base:Nat}{v:Value}{n:Nat}{X:List Live}(h:w.ownsRow base 69 38 v n (X.flatMap qk)) :
  n=X.length∧((v = .slice none 0 0∧X=[])∨∃g cap,v = .slice (some ⟨g,0,none⟩) X.length cap∧base≤g∧qdy w g 0 X):=by
 have q:n=X.length:=by have:=h.1;rw[qlm] at this;omega
 refine⟨q,?_⟩
 subst q
 rcases h.2 with ⟨e,z⟩ | ⟨g,cap,f,e,C,F,E,_,J,I⟩
 ·exact .inl ⟨e,List.length_eq_zero_iff.1 z⟩
 ·refine .inr ⟨g,cap,e,C,f,_,F,by have:=Nat.mul_le_mul_right 38 E;omega,fun i x p j H=> ?_⟩;have m:=(List.getElem?_eq_some_iff.1 p).1;rw[Nat.zero_add,←qqd X i j x p H,←I,List.getElem?_take,if_pos (by have:=Nat.mul_le_mul_right 38 (show i+1≤X.length from m);omega),Array.getElem?_toList]
theorem Tryz.infoLiveB:(Tryz.prog.info? 69).map (fun i=>(i.size,i.bytes,i.zero.map (·.cells.size)))=some (38,80,some 38):=by kernel_rfl
theorem q1w:∃i z,Tryz.prog.info? 69=some i∧i.zero=some z∧i.size=38∧i.bytes=80∧z.cells.size=38:=by
 have h:=Tryz.infoLiveB;cases p:Tryz.prog.info? 69 with
 | none=>rw[p] at h;simp at h
 | some i =>
  rw[p] at h;simp only[Option.map_some,Option.some.injEq,Prod.mk.injEq] at h;obtain⟨q,v,f⟩:=h;cases m:i.zero with
  | none=>rw[m] at f;simp at f
  | some z=>rw[m] at f;simp at f;exact⟨i,z,rfl,m,q,v,f⟩
theorem qp8(v:Value)(xs:List Live)(W:xs.length≤1048576)(w:World)(O:qgu w v xs) :
  Calls Tryz.prog 56 #[v] w fun e w'=>∃u,e = .returned u∧qu w w'∧((∃a c,u = .slice a 0 c∧xs=[])∨∃g cap,u = .slice (some ⟨g,0,none⟩) xs.length cap∧w.heap.size≤g∧qdy w' g 0 xs):=by
 have C:(∃c,v = .slice none 0 c∧xs=[])∨∃(a:Addr) (cap:Nat),v = .slice (some a) xs.length cap∧∀j u,(xs.flatMap qk)[j]? = some u→w.cell? (a.add j)=some u:=by
  rcases O with ⟨a,c,rfl,rfl⟩ | ⟨g,off,cap,rfl,q⟩
  ·cases a with
   | none=>exact .inl ⟨_,rfl,rfl⟩
   | some a=>exact .inr ⟨a,c,rfl,by simp⟩
  ·exact .inr ⟨_,cap,rfl,q.cells⟩
 rcases C with ⟨c,rfl,rfl⟩ | ⟨a,cap,rfl,q⟩
 ·go_enter Tryz.func56,Tryz.ntmps56;have I:=fun(w:World)=>run_eql_slice_nil (P:=Tryz.prog) w 46 _ none 0 c Tryz.underlying46
  go_wp2
  first | go_ret2 | go_ret
  exact⟨_,rfl,Upd.refl _ _,.inl ⟨_,_,rfl,trivial⟩⟩
 ·obtain⟨S,z9,M,R,E,F,H⟩:=q1w;have I:=fun(w:World)=>run_eql_slice_nil (P:=Tryz.prog) w 46 _ (some a) xs.length cap Tryz.underlying46
  simp only[Option.isNone_some] at I;go_enter Tryz.func56,Tryz.ntmps56;go_wp2_with (at_builtin;refine wpList_append_own _ rfl (.tmp 5) (.tmp 6) 46 rfl w.heap.size 69 S _ 38 80 Tryz.underlying46 M R E F H (by decide) _ 0 [] rfl (World.ownsRow_made (base:=w.heap.size) w #[] 0 (Nat.le_refl _) (by decide) rfl) a xs.length cap (xs.flatMap qk) rfl (qlm xs) ?c1 (q0x xs) ?c3 ?c4 ?c5 ?_)
  case c1 =>
   intro j u N;exact((Upd.refl (fun _=>False) w).alloc _).cell (q j u N) (fun h=>h)
  case c3=>unfold maxLen;omega
  case c4=>omega
  case c5=>simp
  intro Y U f i _;have T:qu w U:=((Upd.refl _ w).alloc _).grown i (fun k h V=>by simp[Value.ownBlock] at h;omega);have m:=(qcx f).2;obtain⟨a5,X,c5,rfl⟩:=qly f;have J:=qb m;clear m f i;go_wp2
  first | go_ret2 | go_ret
  refine⟨_,rfl,T,?_⟩;rcases qa J with h | ⟨K,p,e,L,z⟩
  ·exact .inl ⟨_,_,h.1,h.2⟩
  ·exact .inr ⟨K,p,e,L,z⟩
def Live.zero:Live:=⟨⟨0,0,Vector.replicate 32 0,0⟩,false,0,false⟩
def q3x:Sem Value:=Instr.alloc 69 true (.tuple #[])
theorem qcf:Instr.alloc 69 true (.tuple #[])=q3x:=rfl
theorem qfi(w:World):q3x.run Tryz.prog w = .ok (.pointer (some ⟨w.heap.size,0,none⟩)) (w.alloc (.cells (qk Live.zero).toArray 69)):=by kernel_rfl
theorem qej{w:World}{b:Nat}{C:Array Value}{T:TypeId}(h:w.heap[b]? = some (.cells C T (0,0))){A:List Value}(i:A.length=C.size)(f:∀v∈A,v.oneCell'=true):stOk w b 0 C.size A.toArray=true :=
 qdf h (by omega) (by simpa using i) (by rw[Array.all_eq_true_iff_forall_mem];intro v m;exact f v (by simpa using m))
theorem qhh(w:World)(x:Live):stOk (w.alloc (.cells (qk Live.zero).toArray 69)) w.heap.size 0 38 (qk x).toArray=true :=
 qej (C:=(qk Live.zero).toArray) (qh _ _) (by rw[qbb];rfl) (qef x)
theorem qg4(w:World)(x:Live):((w.alloc (.cells (qk Live.zero).toArray 69)).setCells w.heap.size 0 (qk x)).heap[w.heap.size]? = some (.cells (qk x).toArray 69 (0,0))∧qu w ((w.alloc (.cells (qk Live.zero).toArray 69)).setCells w.heap.size 0 (qk x)) :=
 qky w _ _ _ (by rw[qbb];rfl)
structure MsgV where
 kind:Int
 ch:Int
 id:Int
 amount:Int
 hash:List Int
 expiry:Int
 number:Int
def MsgV.cells(m:MsgV):List Value:= .int .i64 m.kind :: .int .u32 m.ch :: .int .u64 m.id :: .int .u64 m.amount::(m.hash.map (Value.int .u8)++[.int .i64 m.expiry,.int .i64 m.number])
theorem MsgV.len(m:MsgV)(h:m.hash.length=32):m.cells.length=38:=by simp[MsgV.cells,h]
theorem MsgV.one(m:MsgV):∀v∈m.cells,v.oneCell'=true:=by
 intro v f;simp only[MsgV.cells,List.mem_cons,List.mem_append,List.mem_map,List.not_mem_nil,or_false] at f;rcases f with rfl | rfl | rfl | rfl | ⟨n,_,rfl⟩ | rfl | rfl<;>rfl
def ze:List Int:=List.replicate 32 0
theorem ql:ze.length=32:=List.length_replicate
theorem Tryz.infoMsg:(Tryz.prog.info? 101).map (·.size)=some 38:=by kernel_rfl
def za7(x:Value):Sem Value:=Instr.loadAt 101 x
theorem qy(x:Value):Instr.loadAt 101 x=za7 x:=rfl
theorem qas(b o:Nat)(w:World):(za7 (.pointer (some ⟨b,o,none⟩))).run Tryz.prog w=match zj w b o 38 with | some A=> .ok (.agg A) w | none=>qc6 Tryz.prog 101 w b o :=
 zy 101 38 _ Tryz.underlying101 rfl Tryz.infoMsg b o w
def zbi(x v:Value):Sem Unit:=Instr.storeAt 101 x v
theorem qz(x v:Value):Instr.storeAt 101 x v=zbi x v:=rfl
theorem qat(b o:Nat)(A:Array Value)(w:World):(zbi (.pointer (some ⟨b,o,none⟩)) (.agg A)).run Tryz.prog w=if stOk w b o 38 A=true then .ok () (w.setCells b o A.toList) else qd3 Tryz.prog 101 w b o A :=
 qap 101 38 Tryz.infoMsg b o A w
def MsgV.zero:MsgV:=⟨0,0,0,0,ze,0,0⟩
def zat:Sem Value:=Instr.alloc 101 true (.tuple #[])
theorem zb:Instr.alloc 101 true (.tuple #[])=zat:=rfl
theorem qax(w:World):zat.run Tryz.prog w = .ok (.pointer (some ⟨w.heap.size,0,none⟩)) (w.alloc (.cells MsgV.zero.cells.toArray 101)):=by kernel_rfl
def qis(p:Array (Nat × Value)):Sem Value:=Instr.build 101 p
theorem zf(p:Array (Nat × Value)):Instr.build 101 p=qis p:=rfl
theorem qru(c n k:Int)(w:World):(qis #[(0,.int .i64 9),(1,.int .u32 c),(6,.int .i64 n),(2,.int .u64 k)]).run Tryz.prog w = .ok (.agg (MsgV.cells ⟨9,c,k,0,ze,0,n⟩).toArray) w:=run_build w _ _ _ (by kernel_rfl)
theorem Tryz.infoBase:(Tryz.prog.info? 59).map (·.size)=some 2:=by kernel_rfl
theorem qiy{w:World}{b:Nat}{m:MsgV}{T:TypeId}(h:w.heap[b]? = some (.cells MsgV.zero.cells.toArray T (0,0)))(f:m.hash.length=32):(w.setCells b 0 m.cells).heap[b]? = some (.cells m.cells.toArray T (0,0)):=by
 rw[qa3 h 0 m.cells,qcv _ _ (by rw[m.len f];rfl)]
theorem qi9{w:World}{b:Nat}{T:TypeId}(h:w.heap[b]? = some (.cells MsgV.zero.cells.toArray T (0,0))){m:MsgV}(f:m.hash.length=32):stOk w b 0 38 m.cells.toArray=true :=
 qej (C:=MsgV.zero.cells.toArray) h (by rw[m.len f];rfl) m.one
attribute [local go_sem ↓ high] qy qz zf
attribute [local go_sem] qas qat qru qv
def CountsV.told(k:CountsV):Int:=if k.awaits then k.signed-1 else k.signed
theorem qzx(g:Nat)(c:ChanV)(w:World)(h:ChR w g c)(U:0≤c.k.signed∧c.k.signed<4294967296)(S:0≤c.k.heard∧c.k.heard<4294967296) :
  Calls Tryz.prog 73 #[.pointer (some ⟨g,0,none⟩)] w (qa1 (.agg (MsgV.cells ⟨9,c.setup.ch,IntKind.u64.wrap c.k.told,0,ze,0,c.k.heard+1⟩).toArray) w):=by
 go_enter Tryz.func73,Tryz.ntmps73
 go_upto_region 1 with fail
 have H:(w.alloc (.cells MsgV.zero.cells.toArray 101)).heap[w.heap.size]? = some (.cells MsgV.zero.cells.toArray 101 (0,0)):=qh _ _
 have I:qu w (w.alloc (.cells MsgV.zero.cells.toArray 101)):=(Upd.refl _ _).alloc _
 change Code.wp _ _ _ _ (w.alloc (.cells MsgV.zero.cells.toArray 101))
 generalize w.alloc (.cells MsgV.zero.cells.toArray 101)=w1 at H I ⊢
 have z:=h.new I
 have N:=h.lt
 have O:=z.ch
 have L:=z.signed
 have M:=z.heard
 have v:=z.awaits
 have P:IntKind.i64.wrap (c.k.heard+1)=c.k.heard+1:=qhl (by omega) (by omega)
 have R:IntKind.i64.wrap (c.k.signed-1)=c.k.signed-1:=qhl (by omega) (by omega)
 have C:stOk w1.drew w.heap.size 0 38 (MsgV.cells ⟨9,c.setup.ch,IntKind.u64.wrap c.k.told,0,ze,0,c.k.heard+1⟩).toArray=true:=qi9 (m:=⟨9,c.setup.ch,IntKind.u64.wrap c.k.told,0,ze,0,c.k.heard+1⟩) H ql
 have f:=qiy (w:=w1.drew) (m:=⟨9,c.setup.ch,IntKind.u64.wrap c.k.told,0,ze,0,c.k.heard+1⟩) H ql
 have q:qu w (w1.drew.setCells w.heap.size 0 (MsgV.cells ⟨9,c.setup.ch,IntKind.u64.wrap c.k.told,0,ze,0,c.k.heard+1⟩)):=I.drew.then ((Upd.refl (· = w.heap.size) w1.drew).setCells 0 _) (fun i T e=>by omega)
 have E:=qb f
 have F:=qb q
 have p:c.k.told=if c.k.awaits=true then c.k.signed-1 else c.k.signed:=rfl
 clear h z H I f q
 cases K:c.k.awaits with
 | true =>
  rw[K] at v p;rw[if_pos rfl] at p;rw[p] at C E F;generalize c.k.told=t at *
  subst p;go_wp2_with ((with_reducible first|rfl|refine' ut ?_ ?_;rotate_left|refine' uu ?_)<;>intros);refine bodyPost_ret (results_cell_row rfl _ _ w.heap.size _ _ _ _ rfl (qa E) Tryz.underlying101 rfl (by rw[List.size_toArray,MsgV.len _ ql];exact Tryz.infoMsg)) rfl ?_;exact⟨rfl,qa F⟩
 | false =>
  rw[K] at v p;rw[if_neg (by decide)] at p;have J:IntKind.u64.wrap c.k.signed=c.k.signed:=qel (by omega) (by omega);rw[p,J] at C E F;generalize c.k.told=t at *
  subst p;go_wp2_with ((with_reducible first|rfl|refine' ut ?_ ?_;rotate_left|refine' uu ?_)<;>intros);refine bodyPost_ret (results_cell_row rfl _ _ w.heap.size _ _ _ _ rfl (qa E) Tryz.underlying101 rfl (by rw[List.size_toArray,MsgV.len _ ql];exact Tryz.infoMsg)) rfl ?_;exact⟨by rw[J],qa F⟩
structure ChI(w:World)(g:Nat)(c:ChanV)(xs:List Live):Prop extends ChR w g c where
 row:w.ownsRow 0 69 38 c.live xs.length (xs.flatMap qk)
theorem ChI.lives{w:World}{g:Nat}{c:ChanV}{xs:List Live}(h:ChI w g c xs):qgu w c.live xs:=by
 rcases (qcx h.row).2 with ⟨e,f⟩ | ⟨g,cap,e,-,i⟩
 ·exact .inl ⟨none,0,e,f⟩
 ·exact .inr ⟨g,0,cap,e,i.toL⟩
theorem ChI.shape{w:World}{g:Nat}{c:ChanV}{xs:List Live}(h:ChI w g c xs):∃a cap,c.live = .slice a xs.length cap:=by
 rcases (qcx h.row).2 with ⟨e,f⟩ | ⟨g,cap,e,-⟩
 ·exact⟨none,0,by rw[e,f];rfl⟩
 ·exact⟨_,cap,e⟩
theorem q6q(g:Nat)(c:ChanV)(xs:List Live)(z:xs.length≤1048576)(w:World)(h:ChI w g c xs) :
  Calls Tryz.prog 20 #[.pointer (some ⟨g,0,none⟩)] w fun e w'=>∃u,e = .returned u∧qu w w'∧((∃a k,u = .slice a 0 k∧xs=[])∨∃i cap,u = .slice (some ⟨i,0,none⟩) xs.length cap∧w.heap.size≤i∧qdy w' i 0 xs):=by
 go_enter Tryz.func20,Tryz.ntmps20
 have f:=h.toChR.live
 have p:=h.lives
 obtain⟨a,cap,m⟩:=h.shape
 rw[m] at f p
 clear h
 go_wp2_with ((with_reducible first|rfl|refine' ut ?_ ?_;rotate_left|refine' uu ?_)<;>intros)
 refine(qp8 _ xs z _ p).mono ?_
 rintro e w' ⟨u,rfl,n,q⟩
 have v:=qb q
 clear q f p
 go_wp2_with ((with_reducible first|rfl|refine' ut ?_ ?_;rotate_left|refine' uu ?_)<;>intros)
 go_ret
 exact⟨u,rfl,n,qa v⟩
end
section
open Go.RowKit
theorem zq{S:Nat→Prop}{w w':World}{base:Nat}{e:TypeId}{size:Nat}{v:Value}{n:Nat}{xs:List Value}(h:w.ownsRow base e size v n xs)(u:Upd S w w')(p:∀k,v.ownBlock=some k→¬S k):w'.ownsRow base e size v n xs:=by
 refine⟨h.1,?_⟩;rcases h.2 with h | ⟨g,cap,f,i,m,q,r⟩
 ·exact .inl h
 ·exact .inr ⟨g,cap,f,i,m,u.old q (p g (by rw[i];rfl)),r⟩
theorem qab{w:World}{base:Nat}{e:TypeId}{size:Nat}{v:Value}{n:Nat}{xs:List Value}(h:w.ownsRow base e size v n xs):∀k,v.ownBlock=some k→∃f,w.heap[k]? = some (.cells f e (0,0)):=by
 intro k i;rcases h.2 with ⟨rfl,_⟩ | ⟨g,cap,f,rfl,p,m,_⟩
 ·simp[Value.ownBlock] at i
 ·simp[Value.ownBlock] at i;exact⟨f,i▸m⟩
theorem qao{w:World}{k j:Nat}{c d:Array Value}{T U:TypeId}{x y:Nat × Nat}(h:w.heap[k]? = some (.cells c T x))(g:w.heap[j]? = some (.cells d U y))(n:T≠U):k≠j:=by
 rintro rfl;rw[h] at g;injection g with g;injection g with _ g;exact n g
theorem zv{w:World}{base:Nat}{e:TypeId}{size:Nat}{v:Value}{n:Nat}{xs:List Value}(h:w.ownsRow base e size v n xs):∃a cap,v = .slice a n cap:=by
 rcases h.2 with ⟨e,i⟩ | ⟨g,cap,f,e,_⟩
 ·exact⟨none,0,by rw[e,i]⟩
 ·exact⟨_,cap,e⟩
theorem qw{P:Program}{i:Func}{p u:Tmp}{f:TypeId}(h:i.results=#[.cell p f,.tmp u])(tmps:Array Value)(w:World)(g:Nat)(t:TypeId)(cs:Array Value)(fr:Nat × Nat)(d:TypeDesc)
  (v:tmps.getD p undef = .pointer (some ⟨g,0,none⟩)) (m:w.heap[g]? = some (.cells cs t fr))
  (z:P.underlying f=some d) (hd:(match d with | .struct _ | .array _ _=>true | _=>false)=true) (q:(P.info? f).map (·.size)=some cs.size) :
  (results i tmps).run P w = .ok (.tuple #[.agg cs,tmps.getD u undef]) w:=by
 rw[results_cell_tmp h,v]
 simp[asAddr,run_loadVar_row w g t f cs fr d m z hd q,Result.andThen]
structure Ch where
 s:SetupV
 k:CountsV
 loc:Int
 rem:Int
 xs:List Live
 shelf:List KeptV
 news:List MsgV
 last:List MsgV
def Ch.v(c:Ch)(lv nv av:Value):ChanV:=⟨c.s,c.k,c.loc,c.rem,lv,c.shelf,nv,av⟩
def qrk(w:World)(v:Value)(xs:List Live):Prop:=w.ownsRow 0 69 38 v xs.length (xs.flatMap qk)
def qyv(w:World)(v:Value)(f:List MsgV):Prop:=w.ownsRow 0 101 38 v f.length (f.flatMap MsgV.cells)
def q3r(f:List MsgV):Prop:=∀m∈f,m.hash.length=32
structure Ch.Ok(c:Ch):Prop where
 s:c.s.Ok
 signed:0≤c.k.signed∧c.k.signed≤65535
 heard:0≤c.k.heard∧c.k.heard<4294967296
 nextOwn:0≤c.k.nextOwn∧c.k.nextOwn<18446744073709551616
 nextTheirs:0≤c.k.nextTheirs∧c.k.nextTheirs<18446744073709551616
 loc:0≤c.loc∧c.loc<18446744073709551616
 rem:0≤c.rem∧c.rem<18446744073709551616
 xs:∀x∈c.xs,LiveOk x
 few:c.xs.length≤1000000
 shelf:c.shelf.length=17∧∀p∈c.shelf,p.told.length=32
 news:q3r c.news
 last:q3r c.last
 many:c.news.length≤1000000∧c.last.length≤1000000
structure ChP(w:World)(g:Nat)(S:Nat→Prop)(c:Ch)(lv nv av:Value):Prop where
 at_:w.heap[g]? = some (.cells (c.v lv nv av).cells.toArray 126 (0,0))
 ok:c.Ok
 live:qrk w lv c.xs
 news:qyv w nv c.news
 last:qyv w av c.last
 inG:S g
 inL:∀k,lv.ownBlock=some k→S k
 inN:∀k,nv.ownBlock=some k→S k
 inA:∀k,av.ownBlock=some k→S k
 sep:∀k,nv.ownBlock=some k→av.ownBlock≠some k
 lt:∀k,S k→k<w.heap.size
def ChS(w:World)(g:Nat)(S:Nat→Prop)(c:Ch):Prop:=∃lv nv av,ChP w g S c lv nv av
def Fr(S:Nat→Prop)(w w':World)(k:Nat):Prop:=S k∨(w.heap.size≤k∧k<w'.heap.size)
section
variable {w w':World}{g:Nat}{S T:Nat→Prop}{c:Ch}{lv nv av:Value}
theorem ChP.upd(h:ChP w g S c lv nv av)(u:Upd T w w')(hd:∀k,S k→¬T k):ChP w' g S c lv nv av :=
 ⟨u.old h.at_ (hd g h.inG),h.ok,zq h.live u (fun k f=>hd k (h.inL k f)),zq h.news u (fun k f=>hd k (h.inN k f)),zq h.last u (fun k f=>hd k (h.inA k f)),h.inG,h.inL,h.inN,h.inA,h.sep,fun k f=>Nat.lt_of_lt_of_le (h.lt k f) u.size⟩
theorem ChP.new(h:ChP w g S c lv nv av)(u:qu w w'):ChP w' g S c lv nv av:=h.upd u (fun _ _ h=>h)
theorem ChP.wider(h:ChP w g S c lv nv av)(f:∀k,S k→T k)(i:∀k,T k→k<w.heap.size):ChP w g T c lv nv av :=
 ⟨h.at_,h.ok,h.live,h.news,h.last,f g h.inG,fun k e=>f k (h.inL k e),fun k e=>f k (h.inN k e),fun k e=>f k (h.inA k e),h.sep,i⟩
theorem ChP.fr(h:ChP w' g S c lv nv av)(w:World):ChS w' g (Fr S w w') c:=⟨_,_,_,h.wider (fun k f=> .inl f) (fun k f=>f.elim (h.lt k) (fun e=>e.2))⟩
theorem ChS.upd(h:ChS w g S c)(u:Upd T w w')(hd:∀k,S k→¬T k):ChS w' g S c:=by
 obtain⟨a,b,d,h⟩:=h;exact⟨a,b,d,h.upd u hd⟩
theorem ChS.new(h:ChS w g S c)(u:qu w w'):ChS w' g S c:=h.upd u (fun _ _ h=>h)
theorem ChS.lt(h:ChS w g S c):∀k,S k→k<w.heap.size:=by
 obtain⟨a,b,d,h⟩:=h;exact h.lt
theorem ChP.toR(h:ChP w g S c lv nv av):ChR w g (c.v lv nv av):=⟨h.at_,h.ok.s.seed⟩
theorem ChP.toI(h:ChP w g S c lv nv av):ChI w g (c.v lv nv av) c.xs:=⟨h.toR,h.live⟩
end
theorem ChP.put{w:World}{g:Nat}{S:Nat→Prop}{c c':Ch}{lv nv av:Value}(h:ChP w g S c lv nv av){i:Nat}{x:Value}(C:(c.v lv nv av).cells.toArray.setIfInBounds i x=(c'.v lv nv av).cells.toArray)(f:c'.Ok)(I:c'.xs=c.xs)(F:c'.news=c.news)(E:c'.last=c.last):ChP (w.setCell ⟨g,i,none⟩ x) g S c' lv nv av:=by
 have u:Upd (· = g) w (w.setCell ⟨g,i,none⟩ x):=(Upd.refl _ _).set1 i x;have m:∀ {T:TypeId} {v:Value} {n:Nat} {xs:List Value},T≠126→w.ownsRow 0 T 38 v n xs→∀k,v.ownBlock=some k→¬k=g:=by
  intro T v n xs q H k f e;obtain⟨p,z⟩:=qab H k f;exact qao z h.at_ q e
 refine⟨?_,f,?_,?_,?_,h.inG,h.inL,h.inN,h.inA,h.sep,fun k f=>Nat.lt_of_lt_of_le (h.lt k f) u.size⟩
 ·have:=zt h.at_ i x;rw[C] at this;exact this
 ·rw[I];exact zq h.live u (m (by decide) h.live)
 ·rw[F];exact zq h.news u (m (by decide) h.news)
 ·rw[E];exact zq h.last u (m (by decide) h.last)
theorem qbe(v:ChanV)(h:v.setup.seed.length=32)(i:Nat)(x:Value):v.cells.toArray.setIfInBounds (37+i) x=(v.setup.cells++(v.k.cells++v.rest).set i x).toArray:=by
 unfold ChanV.cells;rw[List.setIfInBounds_toArray,List.set_append_right _ _ (by rw[v.setup.len h];omega),v.setup.len h,Nat.add_sub_cancel_left]
theorem qhi(l:List KeptV)(h:∀p∈l,p.told.length=32):(l.flatMap KeptV.cells).length=l.length*34:=by
 induction l with
 | nil=>rfl
 | cons x l i =>
  rw[List.flatMap_cons,List.length_append,i (fun p f=>h p (List.mem_cons_of_mem _ f)),List.length_cons];have:=h x (List.mem_cons_self ..);simp[KeptV.cells,this];omega
section
variable (c:Ch)(lv nv av:Value)(h:c.s.seed.length=32)
include h
theorem qx9(n:Int):(c.v lv nv av).cells.toArray.setIfInBounds 37 (.int .i64 n)=(({c with k:= {c.k with signed:=n}} : Ch).v lv nv av).cells.toArray:=qbe (c.v lv nv av) h 0 _
theorem q3c(n:Int):(c.v lv nv av).cells.toArray.setIfInBounds 38 (.int .i64 n)=(({c with k:= {c.k with heard:=n}} : Ch).v lv nv av).cells.toArray:=qbe (c.v lv nv av) h 1 _
theorem qx8(b:Bool):(c.v lv nv av).cells.toArray.setIfInBounds 39 (.bool b)=(({c with k:= {c.k with awaits:=b}} : Ch).v lv nv av).cells.toArray:=qbe (c.v lv nv av) h 2 _
theorem qvj(n:Int):(c.v lv nv av).cells.toArray.setIfInBounds 40 (.int .u64 n)=(({c with k:= {c.k with nextOwn:=n}} : Ch).v lv nv av).cells.toArray:=qbe (c.v lv nv av) h 3 _
theorem qo8(n:Int):(c.v lv nv av).cells.toArray.setIfInBounds 41 (.int .u64 n)=(({c with k:= {c.k with nextTheirs:=n}} : Ch).v lv nv av).cells.toArray:=qbe (c.v lv nv av) h 4 _
theorem qp0(b:Bool):(c.v lv nv av).cells.toArray.setIfInBounds 43 (.bool b)=(({c with k:= {c.k with shutHeard:=b}} : Ch).v lv nv av).cells.toArray:=qbe (c.v lv nv av) h 6 _
theorem qvk(b:Bool):(c.v lv nv av).cells.toArray.setIfInBounds 44 (.bool b)=(({c with k:= {c.k with revoked:=b}} : Ch).v lv nv av).cells.toArray:=qbe (c.v lv nv av) h 7 _
theorem qzn(n:Int):(c.v lv nv av).cells.toArray.setIfInBounds 45 (.int .u64 n)=(({c with loc:=n} : Ch).v lv nv av).cells.toArray:=qbe (c.v lv nv av) h 8 _
theorem qzo(n:Int):(c.v lv nv av).cells.toArray.setIfInBounds 46 (.int .u64 n)=(({c with rem:=n} : Ch).v lv nv av).cells.toArray:=qbe (c.v lv nv av) h 9 _
theorem qvi(xs:List Live)(v:Value):(c.v lv nv av).cells.toArray.setIfInBounds 47 v=(({c with xs:=xs} : Ch).v v nv av).cells.toArray:=qbe (c.v lv nv av) h 10 _
theorem qo7(m:c.shelf.length=17∧∀p∈c.shelf,p.told.length=32)(z:List MsgV)(v:Value):(c.v lv nv av).cells.toArray.setIfInBounds 626 v=(({c with news:=z} : Ch).v lv v av).cells.toArray:=by
 have e:=qbe (c.v lv nv av) h 589 v;rw[show 37+589=626 from rfl] at e;rw[e];have q:(c.v lv nv av).told.length=578:=by show (c.shelf.flatMap KeptV.cells).length=578;rw[qhi _ m.2,m.1]
 have f:((c.v lv nv av).k.cells++(c.v lv nv av).rest).set 589 v=c.k.cells++(({c with news:=z} : Ch).v lv v av).rest:=by
  unfold ChanV.rest;have i:(c.v lv nv av).k.cells.length=8:=rfl;rw[List.set_append_right _ _ (by rw[i];omega),i];show c.k.cells++(Value.int .u64 c.loc::Value.int .u64 c.rem::lv::((c.v lv nv av).told++[nv,av])).set 581 v=_;rw[List.set_cons_succ,List.set_cons_succ,List.set_cons_succ,List.set_append_right _ _ (by rw[q];omega),q];rfl
 rw[f];rfl
theorem q7t(m:c.shelf.length=17∧∀p∈c.shelf,p.told.length=32)(z:List MsgV)(v:Value):(c.v lv nv av).cells.toArray.setIfInBounds 627 v=(({c with last:=z} : Ch).v lv nv v).cells.toArray:=by
 have e:=qbe (c.v lv nv av) h 590 v;rw[show 37+590=627 from rfl] at e;rw[e];have q:(c.v lv nv av).told.length=578:=by show (c.shelf.flatMap KeptV.cells).length=578;rw[qhi _ m.2,m.1]
 have f:((c.v lv nv av).k.cells++(c.v lv nv av).rest).set 590 v=c.k.cells++(({c with last:=z} : Ch).v lv nv v).rest:=by
  unfold ChanV.rest;have i:(c.v lv nv av).k.cells.length=8:=rfl;rw[List.set_append_right _ _ (by rw[i];omega),i];show c.k.cells++(Value.int .u64 c.loc::Value.int .u64 c.rem::lv::((c.v lv nv av).told++[nv,av])).set 582 v=_;rw[List.set_cons_succ,List.set_cons_succ,List.set_cons_succ,List.set_append_right _ _ (by rw[q];omega),q];rfl
 rw[f];rfl
theorem qoh(i:c.shelf.length=17∧∀p∈c.shelf,p.told.length=32):(c.v lv nv av).cells.toArray[626]? = some nv:=by
 rw[List.getElem?_toArray,show 626=37+589 from rfl,qll _ h];have m:(c.v lv nv av).told.length=578:=by show (c.shelf.flatMap KeptV.cells).length=578;rw[qhi _ i.2,i.1]
 unfold ChanV.rest;have f:(c.v lv nv av).k.cells.length=8:=rfl;rw[List.getElem?_append_right (by rw[f];omega),f];show (Value.int .u64 c.loc::Value.int .u64 c.rem::lv::((c.v lv nv av).told++[nv,av]))[581]? = _;rw[List.getElem?_cons_succ,List.getElem?_cons_succ,List.getElem?_cons_succ,List.getElem?_append_right (by rw[m];omega),m];rfl
theorem qog(i:c.shelf.length=17∧∀p∈c.shelf,p.told.length=32):(c.v lv nv av).cells.toArray[627]? = some av:=by
 rw[List.getElem?_toArray,show 627=37+590 from rfl,qll _ h];have m:(c.v lv nv av).told.length=578:=by show (c.shelf.flatMap KeptV.cells).length=578;rw[qhi _ i.2,i.1]
 unfold ChanV.rest;have f:(c.v lv nv av).k.cells.length=8:=rfl;rw[List.getElem?_append_right (by rw[f];omega),f];show (Value.int .u64 c.loc::Value.int .u64 c.rem::lv::((c.v lv nv av).told++[nv,av]))[582]? = _;rw[List.getElem?_cons_succ,List.getElem?_cons_succ,List.getElem?_cons_succ,List.getElem?_append_right (by rw[m];omega),m];rfl
end
theorem qb1{f:Nat→Option (Nat × Nat)}{i off:Nat}{v z:Value}{P R:List Value}{cs:Array Value}(q:f i=some (off,1))(p:P.length=off)(C:v.cells=#[v])(m:cs=(P++(z::R)).toArray)(rest:List (Nat × Value)) :
  Instr.fill f cs ((i,v)::rest)=Instr.fill f (P++(v::R)).toArray rest:=by
 subst m p
 rw[Instr.fill,q]
 simp[C]
theorem qsz{P:Program}{sl T:TypeId}{n:Nat}{Z:List Value}(J:P.underlying sl=some (.slice T))(K:((P.info? T).map fun i=>i.zero.map fun z=>z.cells.toList)=some (some Z))(E:(P.info? T).map (·.size)=some n)(M:Z.length=n)(L:n≠0)(F:n≤1000)
  (A:List Value) (h:A.length=n) (w:World):(Instr.buildSlice sl 1 #[(0,.agg A.toArray)]).run P w = .ok (.slice (some ⟨w.heap.size,0,none⟩) 1 1) (w.alloc (.cells A.toArray T)):=by
 obtain⟨i,z,C,q,I⟩:=qcn K
 have f:i.size=n:=by rw[C] at E;simpa using E
 refine run_buildSlice w _ _ 1 _ _ i z J C q (by rw[f];first | omega | (simp;omega)) (by rw[f];first | omega | (simp;omega)) ?_
 rw[f,I]
 generalize H:Array.map _ _=W
 have m:W.toList.length=A.length:=by rw[←H,h];simp
 have v:=qt3 A [] W.toList [] m
 have p:W.size=n:=by rw[←h,←m];simp
 simp[Instr.fill,Value.cells,h,p] at v ⊢
 exact v
theorem Tryz.zeroMsg:((Tryz.prog.info? 101).map fun i=>i.zero.map fun z=>z.cells.toList)=some (some MsgV.zero.cells):=by kernel_rfl
theorem Tryz.zeroLive':((Tryz.prog.info? 69).map fun i=>i.zero.map fun z=>z.cells.toList)=some (some (qk Live.zero)):=by kernel_rfl
def Htlc.zero:Htlc:=⟨0,0,Vector.replicate 32 0,0⟩
theorem Tryz.zeroHtlc':((Tryz.prog.info? 41).map fun i=>i.zero.map fun z=>z.cells.toList)=some (some (qm Htlc.zero)):=by kernel_rfl
def q4j(n:Nat)(p:Array (Nat × Value)):Sem Value:=Instr.buildSlice 124 n p
theorem qae(n:Nat)(p:Array (Nat × Value)):Instr.buildSlice 124 n p=q4j n p:=rfl
theorem qck(A:List Value)(w:World):(q4j 1 #[(0,.agg A.toArray)]).run Tryz.prog w=if A.length=38 then .ok (.slice (some ⟨w.heap.size,0,none⟩) 1 1) (w.alloc (.cells A.toArray 101)) else (Instr.buildSlice 124 1 #[(0,.agg A.toArray)]).run Tryz.prog w:=by
 by_cases h:A.length=38
 ·rw[if_pos h];exact qsz Tryz.underlying124 Tryz.zeroMsg Tryz.infoMsg rfl (by decide) (by decide) A h w
 ·rw[if_neg h];rfl
def zax(n:Nat)(p:Array (Nat × Value)):Sem Value:=Instr.buildSlice 46 n p
theorem qgg(n:Nat)(p:Array (Nat × Value)):Instr.buildSlice 46 n p=zax n p:=rfl
theorem qry(A:List Value)(w:World):(zax 1 #[(0,.agg A.toArray)]).run Tryz.prog w=if A.length=38 then .ok (.slice (some ⟨w.heap.size,0,none⟩) 1 1) (w.alloc (.cells A.toArray 69)) else (Instr.buildSlice 46 1 #[(0,.agg A.toArray)]).run Tryz.prog w:=by
 by_cases h:A.length=38
 ·rw[if_pos h];exact qsz Tryz.underlying46 Tryz.zeroLive' Tryz.infoLive rfl (by decide) (by decide) A h w
 ·rw[if_neg h];rfl
theorem Tryz.placesMsg:∃m,Tryz.prog.underlying 101=some (.struct m)∧m.toList.mapM (fun f=>(Tryz.prog.info? f.type).map fun i=>(f.offset,i.size))=some [(0,1),(1,1),(2,1),(3,1),(4,32),(36,1),(37,1)]:=⟨_,Tryz.underlying101,by kernel_rfl⟩
theorem qz1(k id n ex:Int)(H:List Value)(h:H.length=32):Tryz.prog.built 101 [(0,.int .i64 k),(2,.int .u64 id),(3,.int .u64 n),(4,.agg H.toArray),(5,.int .i64 ex)]=some (.int .i64 k :: .int .u32 0 :: .int .u64 id :: .int .u64 n::(H++[.int .i64 ex,.int .i64 0])).toArray:=by
 obtain⟨i,z,m,v,f⟩:=qcn Tryz.zeroMsg;obtain⟨C,q,p⟩:=Tryz.placesMsg;rw[qbl m q v p];rw[qb1 (P:=[]) (z:= .int .i64 0) (R:= .int .u32 0 :: .int .u64 0 :: .int .u64 0::(ze.map (Value.int .u8)++[.int .i64 0,.int .i64 0])) rfl rfl rfl f];rw[qb1 (P:=[.int .i64 k,.int .u32 0]) (z:= .int .u64 0) (R:= .int .u64 0::(ze.map (Value.int .u8)++[.int .i64 0,.int .i64 0])) rfl rfl rfl (by rfl)];rw[qb1 (P:=[.int .i64 k,.int .u32 0,.int .u64 id]) (z:= .int .u64 0) (R:=(ze.map (Value.int .u8)++[.int .i64 0,.int .i64 0])) rfl rfl rfl (by rfl)];rw[qc3 (P:=[.int .i64 k,.int .u32 0,.int .u64 id,.int .u64 n]) (A:=H) (Z:=ze.map (Value.int .u8)) (R:=[.int .i64 0,.int .i64 0]) (off:=4) (by rw[h];rfl) rfl (by rw[h];rfl) (by rfl)];rw[qb1 (P:=[.int .i64 k,.int .u32 0,.int .u64 id,.int .u64 n]++H) (z:= .int .i64 0) (R:=[.int .i64 0]) (off:=36) rfl (by simp[h]) rfl (by simp)];rw[Instr.fill];simp
theorem qn0(k id n ex:Int)(H:List Value)(w:World):(qis #[(0,.int .i64 k),(2,.int .u64 id),(3,.int .u64 n),(4,.agg H.toArray),(5,.int .i64 ex)]).run Tryz.prog w=if H.length=32 then .ok (.agg (.int .i64 k :: .int .u32 0 :: .int .u64 id :: .int .u64 n::(H++[.int .i64 ex,.int .i64 0])).toArray) w else (Instr.build 101 #[(0,.int .i64 k),(2,.int .u64 id),(3,.int .u64 n),(4,.agg H.toArray),(5,.int .i64 ex)]).run Tryz.prog w:=by
 by_cases h:H.length=32
 ·rw[if_pos h];exact run_build w _ _ _ (qz1 k id n ex H h)
 ·rw[if_neg h];rfl
theorem zx(w:World):(qis #[]).run Tryz.prog w = .ok (.agg MsgV.zero.cells.toArray) w:=run_build w _ _ _ (by kernel_rfl)
theorem qma(k c:Int)(w:World):(qis #[(0,.int .i64 k),(1,.int .u32 c)]).run Tryz.prog w = .ok (.agg (MsgV.cells ⟨k,c,0,0,ze,0,0⟩).toArray) w:=run_build w _ _ _ (by kernel_rfl)
def q38(p:Array (Nat × Value)):Sem Value:=Instr.build 41 p
theorem ql6(p:Array (Nat × Value)):Instr.build 41 p=q38 p:=rfl
theorem Tryz.placesHtl:∃m,Tryz.prog.underlying 41=some (.struct m)∧m.toList.mapM (fun f=>(Tryz.prog.info? f.type).map fun i=>(f.offset,i.size))=some [(0,1),(1,1),(2,32),(34,1)]:=⟨_,Tryz.underlying41,by kernel_rfl⟩
theorem qz4(id n ex:Int)(H:List Value)(h:H.length=32):Tryz.prog.built 41 [(0,.int .u64 id),(1,.int .u64 n),(2,.agg H.toArray),(3,.int .i64 ex)]=some (.int .u64 id :: .int .u64 n::(H++[.int .i64 ex])).toArray:=by
 obtain⟨i,z,m,v,f⟩:=qcn Tryz.zeroHtlc';obtain⟨C,q,p⟩:=Tryz.placesHtl;rw[qbl m q v p];rw[qb1 (P:=[]) (z:= .int .u64 0) (R:= .int .u64 0::(ze.map (Value.int .u8)++[.int .i64 0])) rfl rfl rfl (f.trans (by kernel_rfl))];rw[qb1 (P:=[.int .u64 id]) (z:= .int .u64 0) (R:=ze.map (Value.int .u8)++[.int .i64 0]) rfl rfl rfl (by rfl)];rw[qc3 (P:=[.int .u64 id,.int .u64 n]) (A:=H) (Z:=ze.map (Value.int .u8)) (R:=[.int .i64 0]) (off:=2) (by rw[h];rfl) rfl (by rw[h];rfl) (by rfl)];rw[qb1 (P:=[.int .u64 id,.int .u64 n]++H) (z:= .int .i64 0) (R:=[]) (off:=34) rfl (by simp[h]) rfl (by simp)];rw[Instr.fill];simp
theorem qwc(id n ex:Int)(H:List Value)(w:World):(q38 #[(0,.int .u64 id),(1,.int .u64 n),(2,.agg H.toArray),(3,.int .i64 ex)]).run Tryz.prog w=if H.length=32 then .ok (.agg (.int .u64 id :: .int .u64 n::(H++[.int .i64 ex])).toArray) w else (Instr.build 41 #[(0,.int .u64 id),(1,.int .u64 n),(2,.agg H.toArray),(3,.int .i64 ex)]).run Tryz.prog w:=by
 by_cases h:H.length=32
 ·rw[if_pos h];exact run_build w _ _ _ (qz4 id n ex H h)
 ·rw[if_neg h];rfl
def qti(p:Array (Nat × Value)):Sem Value:=Instr.build 69 p
theorem ql9(p:Array (Nat × Value)):Instr.build 69 p=qti p:=rfl
theorem Tryz.placesLiv:∃m,Tryz.prog.underlying 69=some (.struct m)∧m.toList.mapM (fun f=>(Tryz.prog.info? f.type).map fun i=>(f.offset,i.size))=some [(0,35),(35,1),(36,1),(37,1)]:=⟨_,Tryz.underlying69,by kernel_rfl⟩
theorem qmz:(qk Live.zero).toArray=(([]:List Value)++(qm Htlc.zero++([.bool false,.int .i64 0,.bool false]:List Value))).toArray:=rfl
theorem qwk(b:Bool)(s:Int)(H:List Value)(h:H.length=35):Tryz.prog.built 69 [(0,.agg H.toArray),(1,.bool b),(2,.int .i64 s)]=some (H++([.bool b,.int .i64 s,.bool false]:List Value)).toArray:=by
 obtain⟨i,z,m,v,f⟩:=qcn Tryz.zeroLive';obtain⟨C,q,p⟩:=Tryz.placesLiv;rw[qbl m q v p];rw[qc3 (P:=[]) (A:=H) (Z:=qm Htlc.zero) (R:=[.bool false,.int .i64 0,.bool false]) (off:=0) (by rw[h];rfl) rfl (by rw[h];rfl) (f.trans qmz)];rw[qb1 (P:=H) (z:= .bool false) (R:=[.int .i64 0,.bool false]) (off:=35) rfl h rfl (by simp)];rw[qb1 (P:=H++[.bool b]) (z:= .int .i64 0) (R:=[.bool false]) (off:=36) rfl (by simp[h]) rfl (by simp)];rw[Instr.fill];simp
theorem qyy(b:Bool)(s:Int)(H:List Value)(w:World):(qti #[(0,.agg H.toArray),(1,.bool b),(2,.int .i64 s)]).run Tryz.prog w=if H.length=35 then .ok (.agg (H++([.bool b,.int .i64 s,.bool false]:List Value)).toArray) w else (Instr.build 69 #[(0,.agg H.toArray),(1,.bool b),(2,.int .i64 s)]).run Tryz.prog w:=by
 by_cases h:H.length=35
 ·rw[if_pos h];exact run_build w _ _ _ (qwk b s H h)
 ·rw[if_neg h];rfl
attribute [local go_sem ↓ high] qba qbn qcf qy qz zb zf qae
attribute [local go_sem] qdk qd2 qfi qas qat qax zx qma qck qv
def qe7(own:Bool)(xs:List Live):Nat:=(xs.filter fun x=>x.own==own).length
theorem qqs(g:Nat)(S:Nat→Prop)(c:Ch)(own:Bool)(w:World)(h:ChS w g S c) :
  Calls Tryz.prog 90 #[.pointer (some ⟨g,0,none⟩),.bool own] w (qa1 (.int .i64 (qe7 own c.xs)) w):=by
 obtain⟨W,nv,av,h⟩:=h
 have C:=h.toR.live
 have U:=h.ok.few
 have L:=h.toI.lives
 obtain⟨a,cap,O⟩:=zv h.live
 change w.cell? ⟨g,47,none⟩=some W at C
 change qgu w W c.xs at L
 rw[O] at C L
 have f:∀(i:Nat) (x:Live),c.xs[i]? = some x→∃E off,a=some ⟨E,off,none⟩∧qd4 w E off c.xs:=by
  intro i x V;have m:=(List.getElem?_eq_some_iff.1 V).1;rcases L with ⟨a',k,e,Y⟩ | ⟨E,off,k,e,K⟩
  ·rw[Y] at m;simp at m
  ·injection e with e1;exact⟨E,off,e1,K⟩
 clear h L
 generalize c.xs=xs at *
 have a8:(xs.length:Int)≤1000000:=by omega
 go_enter Tryz.func90,Tryz.ntmps90
 go_wp2_with fail
 go_loopw [5,7,13] (fun sv _ R wr=>∃i:Nat,R = .int .i64 (i:Int)∧i≤xs.length∧sv = .int .i64 (qe7 own (xs.take i))∧qu w wr) (fun _ _ R _=>xs.length-(intOf R).toNat)
 case atStart=>exact⟨0,rfl,Nat.zero_le _,rfl,Upd.refl _ _⟩
 case round =>
  obtain⟨i,rfl,V,rfl,N⟩:=hrel;obtain⟨z,rfl⟩:∃z:World,z=wr:=⟨_,rfl⟩;by_cases m:i<xs.length
  ·obtain⟨x,p⟩:∃x,xs[i]? = some x:=⟨_,List.getElem?_eq_getElem m⟩;obtain⟨E,off,rfl,K⟩:=f i x p;have H:=(K.upd N (fun h=>h)).row p;have a6:(i:Int)<(xs.length:Int):=by omega
   have P:=qhh z x;have v:=qg4 z x;have F:qe7 own (xs.take (i+1))=qe7 own (xs.take i)+(if x.own==own then 1 else 0):=by
    unfold qe7;rw[List.take_add_one,p,List.filter_append,List.length_append];cases q:x.own==own<;>simp[q]
   have a7:qe7 own (xs.take i)≤i:=by
    unfold qe7;refine Nat.le_trans (List.length_filter_le _ _) ?_;rw[List.length_take];omega
   have J:=qb F;clear F p K f;generalize qe7 own (xs.take i)=M at *
   go_upto_region 5 with fail;obtain⟨q,T⟩:=v;generalize (z.alloc (.cells (qk Live.zero).toArray 69)).setCells z.heap.size 0 (qk x)=wb at q T ⊢;have X:wb.cell? ⟨z.heap.size,35,none⟩=some (.bool x.own):=by rw[qg q,List.getElem?_toArray];exact qez x
   have I:=N.trans T;have Z:(M:Int)≤1000000:=by omega
   clear P H q T N;cases q:x.own==own with
   | true =>
    rw[q] at J;go_wp2_with fail;go_roundw
    case rel=>exact⟨i+1,by go_num,by omega,by rw[qa J];simp,I⟩
    case measure=>simp[intOf];omega
   | false =>
    rw[q] at J;go_wp2_with fail;go_roundw
    case rel=>exact⟨i+1,by go_num,by omega,by rw[qa J];simp,I⟩
    case measure=>simp[intOf];omega
  ·obtain rfl:i=xs.length:=by omega
   rw[List.take_length];clear f;go_wp2_with fail;go_ret;exact⟨rfl,N⟩
theorem quu:∃i z b,Tryz.prog.info? 101=some i∧i.zero=some z∧i.size=38∧i.bytes=b∧z.cells.size=38∧b≤1000:=by
 obtain⟨i,z,m,v,q⟩:=qcn Tryz.zeroMsg;have f:(Tryz.prog.info? 101).map (fun i=>decide (i.bytes≤1000))=some true:=by kernel_rfl
 have p:=Tryz.infoMsg;rw[m,Option.map_some,Option.some.injEq] at f p;exact⟨i,z,i.bytes,m,v,p,rfl,by rw[q];rfl,of_decide_eq_true f⟩
def MsgV.on(m:MsgV)(ch:Int):MsgV:= {m with ch:=ch}
def Ch.say(c:Ch)(m:MsgV):Ch:= {c with news:=c.news++[m.on c.s.ch]}
theorem qnp(g:Nat)(S:Nat→Prop)(c:Ch)(m:MsgV)(hm:m.hash.length=32)(w:World)(h:ChS w g S c)(f6:c.news.length<1000000) :
  Calls Tryz.prog 91 #[.pointer (some ⟨g,0,none⟩),.agg m.cells.toArray] w fun e w'=>e = .returned (.agg (m.on c.s.ch).cells.toArray)∧ChS w' g (Fr S w w') (c.say m)∧Upd S w w':=by
 obtain⟨lv,nv,av,h⟩:=h
 go_enter Tryz.func91,Tryz.ntmps91
 go_upto_region 1 with fail
 have M:((w.alloc (.cells m.cells.toArray 101)).alloc (.cells MsgV.zero.cells.toArray 101)).heap[w.heap.size]? = some (.cells m.cells.toArray 101 (0,0)):=qq (qh _ _) _
 have a7:((w.alloc (.cells m.cells.toArray 101)).alloc (.cells MsgV.zero.cells.toArray 101)).heap[w.heap.size+1]? = some (.cells MsgV.zero.cells.toArray 101 (0,0)):=by
  have:=qh (w.alloc (.cells m.cells.toArray 101)) (.cells MsgV.zero.cells.toArray 101);rwa [World.size_alloc] at this
 have nA:qu w ((w.alloc (.cells m.cells.toArray 101)).alloc (.cells MsgV.zero.cells.toArray 101)):=((Upd.refl _ _).alloc _).alloc _
 generalize (w.alloc (.cells m.cells.toArray 101)).alloc (.cells MsgV.zero.cells.toArray 101)=wA at M a7 nA ⊢
 obtain⟨A,c8⟩:∃A,A=w.heap.size:=⟨_,rfl⟩
 obtain⟨B,c9⟩:∃B,B=w.heap.size+1:=⟨_,rfl⟩
 rw[←c9] at a7 ⊢
 rw[←c8] at M ⊢
 have hA:=h.new nA
 have e2:g≠A:=by have:=h.lt g h.inG;omega
 have d1:g≠B:=by have:=h.lt g h.inG;omega
 have f8:w.heap.size≤A:=by omega
 have f9:w.heap.size≤B:=by omega
 have d7:B≠A:=by omega
 clear c8 c9
 have c0:wA.cell? ⟨g,0,none⟩=some (.int .u32 c.s.ch):=hA.toR.ch
 have e1:wA.cell? ⟨A,1,none⟩=some (.int .u32 m.ch):=qg M 1
 have f1:=qo M 1
 have uB:Upd (· = A) wA (wA.setCell ⟨A,1,none⟩ (.int .u32 c.s.ch)):=(Upd.refl _ _).set1 1 _
 have J:(wA.setCell ⟨A,1,none⟩ (.int .u32 c.s.ch)).heap[A]? = some (.cells (m.on c.s.ch).cells.toArray 101 (0,0)):=zt M 1 _
 have U:=uB.old a7 d7
 have hB:=hA.upd uB (fun k f e=>by have:=h.lt k f;omega)
 have nB:qu w (wA.setCell ⟨A,1,none⟩ (.int .u32 c.s.ch)):=nA.then uB (fun i hi e=>by omega)
 have H0:=qb h
 clear h hA M a7 nA uB
 go_upto_region 2 with fail
 clear c0 e1 f1
 generalize wA.setCell ⟨A,1,none⟩ (.int .u32 c.s.ch)=L at hB J U nB ⊢
 have I:L.drew.cell? ⟨g,626,none⟩=some nv:=by
  have e:L.drew.cell? ⟨g,626,none⟩=_:=qg hB.at_ 626;rw[e];exact qoh c lv nv av hB.ok.s.seed hB.ok.shelf
 have c7:L.frozen? ⟨g,626,none⟩=false:=qo hB.at_ 626
 have Y:(m.on c.s.ch).hash.length=32:=hm
 have hr:zj L A 0 38=some (m.on c.s.ch).cells.toArray:=qai J 38 (by rw[List.size_toArray,MsgV.len _ Y])
 have X:=MsgV.len _ Y
 obtain⟨i9,z9,b9,e3,f0,e7,e8,e9,d9⟩:=quu
 have HB:=qb hB
 have d0:Hid (∃cs,L.heap[g]? = some (.cells cs 126 (0,0))):=qb ⟨_,hB.at_⟩
 obtain⟨na,f7,d2⟩:=zv hB.news
 clear hB
 refine qaw (fun w'=>w'.cell? ⟨g,626,none⟩=some nv) [4] (.of [0,1,2,3,4,5,6,7,8,9,10]) (by kernel_rfl) (by kernel_rfl) I ?_
 simp only[Plan.of]
 go_wp2_with ((with_reducible first|rfl|refine' ut ?_ ?_;rotate_left|refine' uu ?_)<;>intros)
 refine⟨((Upd.refl (fun _=>False) L).alloc _).drew.cell I (fun h=>h),?_⟩
 have nC:qu L (L.alloc (.cells (m.on c.s.ch).cells.toArray 101)).drew:=((Upd.refl _ _).alloc _).drew
 have a8:(L.alloc (.cells (m.on c.s.ch).cells.toArray 101)).drew.heap[L.heap.size]? = _:=qh L (.cells (m.on c.s.ch).cells.toArray 101)
 have HC:=qb ((qa HB).new nC)
 have P:=nC.old J (fun h=>h)
 have K:=nC.old U (fun h=>h)
 have H:=nC.cell I (fun h=>h)
 have c6:=nB.trans nC
 have d8:w.heap.size≤L.heap.size:=nB.size
 clear I c7 hr HB J U nB nC d0
 generalize (L.alloc (.cells (m.on c.s.ch).cells.toArray 101)).drew=wC at a8 HC P K H c6 ⊢
 generalize L.heap.size=D at a8 d8 ⊢
 have E:=(qa HC).news
 unfold qyv at E
 rw[d2] at E
 have HN:=qb E
 clear E
 go_wp2_with (first | (at_builtin;refine wpList_append_own_at _ rfl (.tmp 15) (.tmp 17) 124 rfl 0 101 i9 _ 38 b9 Tryz.underlying124 e3 f0 e7 e8 e9 (by decide) _ _ _ rfl (qa HN) ⟨D,0,none⟩ 1 1 (m.on c.s.ch).cells rfl (by rw[X]) ?c1 ?c2 ?c3 ?c4 ?c5 ?_) | ((with_reducible first|rfl|refine' ut ?_ ?_;rotate_left|refine' uu ?_)<;>intros))
 case c1=>exact World.news_of_block (cs:=(m.on c.s.ch).cells.toArray) (fr:=(0,0)) a8
 case c2=>exact MsgV.one _
 case c3=>unfold maxLen;omega
 case c4=>have:=Nat.mul_le_mul (show c.news.length+1≤1000000 by omega) d9;omega
 case c5=>omega
 intro N Z p b7 _ q
 obtain⟨a',f3,b8⟩:=zv p
 have F:=fun k (e:nv.ownBlock=some k)=>(qa HC).inN k e
 rw[←d2] at b7 q
 have uD:Upd (fun k=>nv.ownBlock=some k) wC Z:=(Upd.refl _ _).grown b7 (fun k f _=>f)
 have b6:¬(nv.ownBlock=some g):=fun e=>by
  obtain⟨a6,W⟩:=qab (qa HC).news g e;exact qao (qa HC).at_ W (by decide) rfl
 have C:=(qa H0).lt
 have f5:=zr K
 have b3:=uD.old P (fun e=>by have:=C _ (F _ e);omega)
 have b4:=uD.old K (fun e=>by have:=C _ (F _ e);omega)
 have O:=uD.old (qa HC).at_ b6
 have d5:=uD.cell H b6
 have d6:Z.frozen? ⟨g,626,none⟩=false:=qo O 626
 have HV:=qb (And.intro p (And.intro q uD))
 clear p q b7 uD H P K a8
 have uE:Upd (· = g) Z (Z.setCell ⟨g,626,none⟩ N):=(Upd.refl _ _).set1 626 _
 have R:=uE.old b3 (fun e=>e2 e.symm)
 have V:=uE.old b4 (fun e=>d1 e.symm)
 have z:=zt O 626 N
 rw[qo7 c lv nv av (qa HC).ok.s.seed (qa HC).ok.shelf (c.news++[m.on c.s.ch])] at z
 have HE:=qb (And.intro z uE)
 have d4:=qb b8
 clear z uE O b3 b4
 rw[b8] at R V ⊢
 have g0:=qai R 38 (by rw[List.size_toArray,X])
 have g1:=qi9 V Y
 have hF:=qiy V Y
 have HF:=qb hF
 clear hF b8 R
 go_wp2_with ((with_reducible first|rfl|refine' ut ?_ ?_;rotate_left|refine' uu ?_)<;>intros)
 refine bodyPost_ret (results_cell_row rfl _ _ B _ _ _ _ rfl (qa HF) Tryz.underlying101 rfl (by rw[List.size_toArray,X];exact Tryz.infoMsg)) rfl ?_
 have e5:=qa d4
 obtain⟨p,q,uD⟩:=qa HV
 obtain⟨z,uE⟩:=qa HE
 rw[←e5]
 have h:=qa H0
 have hC:=qa HC
 have uF:Upd (· = B) (Z.setCell ⟨g,626,none⟩ N) ((Z.setCell ⟨g,626,none⟩ N).setCells B 0 (m.on c.s.ch).cells):=(Upd.refl _ _).setCells 0 _
 have g2:=c6.size
 refine⟨rfl,?_,(((c6.mono (fun _ _ h=>h.elim)).trans (uD.mono (fun k _ e=>F k e))).trans (uE.mono (fun k _ e=>by rw[e];exact h.inG))).then uF (fun i hi e=>by omega)⟩
 have f2:Z.heap.size≤((Z.setCell ⟨g,626,none⟩ N).setCells B 0 (m.on c.s.ch).cells).heap.size:=Nat.le_trans uE.size uF.size
 generalize (Z.setCell ⟨g,626,none⟩ N).setCells B 0 (m.on c.s.ch).cells=wF at uF f2 ⊢
 generalize Z.setCell ⟨g,626,none⟩ N=wE at uE uF z
 have d3:∀k,N.ownBlock=some k→k<Z.heap.size:=fun k f=>by
  obtain⟨a6,W⟩:=qab p k f;exact zr W
 have e4:∀k,N.ownBlock=some k→k≠B:=by
  intro k f;rcases q with e | e
  ·rw[e] at f;have:=C k (F k f);omega
  ·rw[e] at f;injection f with f;omega
 have e6:∀k,N.ownBlock=some k→k≠g:=by
  intro k f;rcases q with e | e
  ·rw[e] at f;rintro rfl;exact b6 f
  ·rw[e] at f;injection f with f;have:=zr hC.at_;omega
 have b5:∀ {T:TypeId} {v:Value} {n:Nat} {xs:List Value},wC.ownsRow 0 T 38 v n xs→(∀k,v.ownBlock=some k→S k)→(∀k,v.ownBlock=some k→k≠g)→(∀k,v.ownBlock=some k→nv.ownBlock≠some k)→wF.ownsRow 0 T 38 v n xs:=by
  intro T v n xs hr hs h1 h2;exact zq (zq (zq hr uD (fun k f e=>h2 k f e)) uE (fun k f e=>h1 k f e)) uF (fun k f e=>by have:=C k (hs k f);omega)
 refine⟨lv,N,av,⟨uF.old z d1,⟨h.ok.s,h.ok.signed,h.ok.heard,h.ok.nextOwn,h.ok.nextTheirs,h.ok.loc,h.ok.rem,h.ok.xs,h.ok.few,h.ok.shelf,?_,h.ok.last,?_,h.ok.many.2⟩,?_,?_,?_,.inl h.inG,fun k e=> .inl (h.inL k e),?_,fun k e=> .inl (h.inA k e),?_,?_⟩⟩
 ·intro x hx;rcases List.mem_append.1 hx with hx | hx
  ·exact h.ok.news x hx
  ·rw[List.mem_singleton.1 hx];exact Y
 ·show (c.news++[m.on c.s.ch]).length≤1000000;rw[List.length_append];simp;omega
 ·refine b5 hC.live h.inL ?_ ?_
  ·intro k f e;obtain⟨a6,W⟩:=qab hC.live k f;rw[e] at W;exact qao hC.at_ W (by decide) rfl
  ·intro k f e;obtain⟨a6,W⟩:=qab hC.live k f;obtain⟨f4,e0⟩:=qab hC.news k e;exact qao W e0 (by decide) rfl
 ·show wF.ownsRow 0 _ 38 N (c.news++[m.on c.s.ch]).length ((c.news++[m.on c.s.ch]).flatMap MsgV.cells);rw[List.length_append,List.flatMap_append];have:[m.on c.s.ch].flatMap MsgV.cells=(m.on c.s.ch).cells:=by simp
  rw[this];exact zq (zq p uE (fun k f e=>e6 k f e)) uF (fun k f e=>e4 k f e)
 ·refine b5 hC.last h.inA ?_ ?_
  ·intro k f e;obtain⟨a6,W⟩:=qab hC.last k f;rw[e] at W;exact qao hC.at_ W (by decide) rfl
  ·intro k f e;exact h.sep k e f
 ·intro k f;rcases q with e | e
  ·rw[e] at f;exact .inl (h.inN k f)
  ·have:=d3 k f;rw[e] at f;injection f with f;exact .inr ⟨by omega,by omega⟩
 ·intro k f e';rcases q with e | e
  ·rw[e] at f;exact h.sep k f e'
  ·rw[e] at f;injection f with f;have:=C k (h.inA k e');omega
 ·rintro k (f | f)
  ·have:=C k f;have:=uD.size;omega
  ·exact f.2
end
end Go.Proofs.YtfmkdoachjgjbaaGreatDoor
