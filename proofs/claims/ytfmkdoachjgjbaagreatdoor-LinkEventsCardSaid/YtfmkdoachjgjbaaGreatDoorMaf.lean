/-
  A struct that is built of its parts: a part laid into the zero cells.
-/
import Derived.Test.YtfmkdoachjgjbaaGreatDoorMad
import Derived.Great.BuildSlice
import Derived.Test.YtfmkdoachjgjbaaGreatDoorProg
import Derived.Test.YtfmkdoachjgjbaaGreatDoorRows
import Derived.IntWalk
import Derived.Outline
import Derived.Deep.CutRange
import Derived.BigRegion
import Derived.Deep.RegionLaw
import Derived.Test.YtfmkdoachjgjbaaGreatDoorMaa
import Derived.Lib.LazyBuf
set_option linter.unusedVariables false
set_option linter.unusedSimpArgs false
namespace Go.Proofs.YtfmkdoachjgjbaaGreatDoor
open Go.RowKit
theorem qts(A P Z R:List Value)(h:Z.length=A.length):(A.zipIdx).foldl (fun(cs:Array Value) (c,j)=>cs.setIfInBounds (P.length+j) c) (P++(Z++R)).toArray=(P++(A++R)).toArray:=by
 have key:∀(A:List Value) (k:Nat) (Q Z:List Value),Z.length=A.length→Q.length=P.length+k→(A.zipIdx k).foldl (fun(cs:Array Value) (c,j)=>cs.setIfInBounds (P.length+j) c) (Q++(Z++R)).toArray=(Q++(A++R)).toArray:=by
  intro A
  induction A with
  | nil=>intro k Q Z f _;rw[List.length_eq_zero_iff.1 f];rfl
  | cons a A m =>
   intro k Q Z f i;cases Z with
   | nil=>simp at f
   | cons z Z =>
    rw[List.zipIdx_cons,List.foldl_cons];have e:(Q++(z::Z++R)).toArray.setIfInBounds (P.length+k) a=((Q++[a])++(Z++R)).toArray:=by
     rw[←i];simp
    show List.foldl _ ((Q++(z::Z++R)).toArray.setIfInBounds (P.length+k) a) _=_;rw[e,m (k+1) (Q++[a]) Z (by simpa using f) (by simp[i];omega)];simp
 exact key A 0 P Z h rfl
theorem qbm{P:Program}{t:TypeId}{v:TypeInfo}{z:Value}{m:Array Field}{places:List (Nat × Nat)}(C:P.info? t=some v)(F:P.underlying t=some (.struct m))(H:v.zero=some z)
  (E:m.toList.mapM (fun f=>(P.info? f.type).map fun i=>(f.offset,i.size))=some places) (q:List (Nat × Value)):P.built t q=Instr.fill (places.toArray[·]?) z.cells q:=by
 unfold Program.built
 rw[C,F]
 simp only[H,E]
theorem qc2{P:Program}{t:TypeId}{l:List Value}(h:((P.info? t).map fun i=>i.zero.map fun z=>z.cells.toList)=some (some l)):∃i z,P.info? t=some i∧i.zero=some z∧z.cells=l.toArray:=by
 cases m:P.info? t with
 | none=>rw[m] at h;simp at h
 | some i =>
  rw[m,Option.map_some,Option.some.injEq] at h;cases f:i.zero with
  | none=>rw[f] at h;simp at h
  | some z =>
   rw[f,Option.map_some,Option.some.injEq] at h;exact⟨i,z,rfl,f,by rw[←h]⟩
theorem qc5{f:Nat→Option (Nat × Nat)}{i off:Nat}{A P Z R:List Value}{cs:Array Value}(C:f i=some (off,A.length))(z:P.length=off)(q:Z.length=A.length)(v:cs=(P++(Z++R)).toArray)(rest:List (Nat × Value)) :
  Instr.fill f cs ((i,.agg A.toArray)::rest)=Instr.fill f (P++(A++R)).toArray rest:=by
 subst v z
 rw[Instr.fill,C]
 have E:¬(A.toArray.size≠A.length || P.length+A.toArray.size>(P++(Z++R)).toArray.size)=true:=by
  simp[q]
 have m:((Value.agg A.toArray).cells.size≠A.length || P.length+(Value.agg A.toArray).cells.size>(P++(Z++R)).toArray.size)=false:=by
  simpa [Value.cells] using E
 simp only[m,Bool.false_eq_true,if_false]
 congr 1
 have:=qts A P Z R q
 simpa [Value.cells] using this
structure SetupV where
 ch:Int
 cap:Int
 ours:Int
 seed:List Int
 key:ByteArray
 peer:ByteArray
def SetupV.cells(s:SetupV):List Value:= .int .u32 s.ch :: .int .u64 s.cap :: .int .u64 s.ours::(s.seed.map (Value.int .u8)++[.string s.key,.string s.peer])
structure SetupV.Ok(s:SetupV):Prop where
 ch:0≤s.ch∧s.ch<4294967296
 cap:0≤s.cap∧s.cap<18446744073709551616
 ours:0≤s.ours∧s.ours<18446744073709551616
 seed:s.seed.length=32
theorem SetupV.len(s:SetupV)(h:s.seed.length=32):s.cells.length=37:=by simp[SetupV.cells,h]
structure KeptV where
 full:Bool
 number:Int
 told:List Int
def KeptV.cells(k:KeptV):List Value:= .bool k.full :: .int .i64 k.number::k.told.map (Value.int .u8)
def KeptV.zero:KeptV:=⟨false,0,List.replicate 32 0⟩
structure CountsV where
 signed:Int
 heard:Int
 awaits:Bool
 nextOwn:Int
 nextTheirs:Int
 shutSaid:Bool
 shutHeard:Bool
 revoked:Bool
def CountsV.cells(k:CountsV):List Value:=[.int .i64 k.signed,.int .i64 k.heard,.bool k.awaits,.int .u64 k.nextOwn,.int .u64 k.nextTheirs,.bool k.shutSaid,.bool k.shutHeard,.bool k.revoked]
def CountsV.zero:CountsV:=⟨0,0,false,0,0,false,false,false⟩
structure ChanV where
 setup:SetupV
 k:CountsV
 loc:Int
 rem:Int
 live:Value
 shelf:List KeptV
 news:Value
 last:Value
def ChanV.told(c:ChanV):List Value:=c.shelf.flatMap KeptV.cells
def ChanV.rest(c:ChanV):List Value:= .int .u64 c.loc :: .int .u64 c.rem::c.live::(c.told++[c.news,c.last])
def ChanV.cells(c:ChanV):List Value:=c.setup.cells++(c.k.cells++c.rest)
def qco:Value:= .slice none 0 0
def ChanV.new(s:SetupV):ChanV:=⟨s,.zero,s.ours,s.cap-s.ours,qco,List.replicate 17 .zero,qco,qco⟩
structure ChR(w:World)(g:Nat)(c:ChanV):Prop where
 at_:w.heap[g]? = some (.cells c.cells.toArray 126 (0,0))
 seed:c.setup.seed.length=32
theorem ChR.lt{w:World}{g:Nat}{c:ChanV}(h:ChR w g c):g<w.heap.size:=zr h.at_
theorem ChR.upd{S:Nat→Prop}{w w':World}{g:Nat}{c:ChanV}(h:ChR w g c)(u:Upd S w w')(f:¬S g):ChR w' g c:=⟨u.old h.at_ f,h.seed⟩
theorem ChR.new{w w':World}{g:Nat}{c:ChanV}(h:ChR w g c)(u:qq w w'):ChR w' g c:=h.upd u (fun h=>h)
theorem ChR.free{w:World}{g:Nat}{c:ChanV}(h:ChR w g c)(i:Nat):w.frozen? ⟨g,i,none⟩=false:=qu h.at_ i
theorem ChR.cell{w:World}{g:Nat}{c:ChanV}(h:ChR w g c)(i:Nat):w.cell? ⟨g,i,none⟩=c.cells[i]? := by
 rw[qg h.at_,List.getElem?_toArray]
theorem qz2(c:ChanV)(h:c.setup.seed.length=32)(i:Nat)(f:i<37):c.cells[i]? = c.setup.cells[i]? := by
 unfold ChanV.cells;rw[List.getElem?_append_left (by rw[c.setup.len h];exact f)]
theorem qlr(c:ChanV)(h:c.setup.seed.length=32)(i:Nat):c.cells[37+i]? = (c.k.cells++c.rest)[i]? := by
 unfold ChanV.cells;rw[List.getElem?_append_right (by rw[c.setup.len h];omega),c.setup.len h,Nat.add_sub_cancel_left]
theorem ChR.low{w:World}{g:Nat}{c:ChanV}(h:ChR w g c)(i:Nat)(f:i<37):w.cell? ⟨g,i,none⟩=c.setup.cells[i]? := (h.cell i).trans (qz2 c h.seed i f)
theorem ChR.mid{w:World}{g:Nat}{c:ChanV}(h:ChR w g c)(i:Nat):w.cell? ⟨g,37+i,none⟩=(c.k.cells++c.rest)[i]? := (h.cell _).trans (qlr c h.seed i)
section
variable {w:World}{g:Nat}{c:ChanV}(h:ChR w g c)
include h
theorem ChR.ch:w.cell? ⟨g,0,none⟩=some (.int .u32 c.setup.ch):=h.low 0 (by omega)
theorem ChR.cap:w.cell? ⟨g,1,none⟩=some (.int .u64 c.setup.cap):=h.low 1 (by omega)
theorem ChR.signed:w.cell? ⟨g,37,none⟩=some (.int .i64 c.k.signed):=h.mid 0
theorem ChR.heard:w.cell? ⟨g,38,none⟩=some (.int .i64 c.k.heard):=h.mid 1
theorem ChR.awaits:w.cell? ⟨g,39,none⟩=some (.bool c.k.awaits):=h.mid 2
theorem ChR.nextOwn:w.cell? ⟨g,40,none⟩=some (.int .u64 c.k.nextOwn):=h.mid 3
theorem ChR.nextTheirs:w.cell? ⟨g,41,none⟩=some (.int .u64 c.k.nextTheirs):=h.mid 4
theorem ChR.shutSaid:w.cell? ⟨g,42,none⟩=some (.bool c.k.shutSaid):=h.mid 5
theorem ChR.shutHeard:w.cell? ⟨g,43,none⟩=some (.bool c.k.shutHeard):=h.mid 6
theorem ChR.revoked:w.cell? ⟨g,44,none⟩=some (.bool c.k.revoked):=h.mid 7
theorem ChR.loc:w.cell? ⟨g,45,none⟩=some (.int .u64 c.loc):=h.mid 8
theorem ChR.rem:w.cell? ⟨g,46,none⟩=some (.int .u64 c.rem):=h.mid 9
theorem ChR.live:w.cell? ⟨g,47,none⟩=some c.live:=h.mid 10
end
def qph:List Value:=qco::((List.replicate 17 KeptV.zero).flatMap KeptV.cells++[qco,qco])
def ql7:List Value:= .int .u32 0 :: .int .u64 0 :: .int .u64 0::((List.replicate 32 0).map (Value.int .u8)++[.string ⟨#[]⟩,.string ⟨#[]⟩])
theorem Tryz.zeroChan:((Tryz.prog.info? 126).map fun i=>i.zero.map fun z=>z.cells.toList)=some (some (ql7++(CountsV.zero.cells++([.int .u64 0,.int .u64 0]++qph)))):=by kernel_rfl
theorem Tryz.placesChan:∃m,Tryz.prog.underlying 126=some (.struct m)∧m.toList.mapM (fun f=>(Tryz.prog.info? f.type).map fun i=>(f.offset,i.size))=some [(0,37),(37,8),(45,2),(47,1),(48,578),(626,1),(627,1)]:=⟨_,Tryz.underlying126,by kernel_rfl⟩
theorem qv5(S:List Value)(a b:Value)(f:S.length=37):Tryz.prog.built 126 [(0,.agg S.toArray),(2,.agg [a,b].toArray)]=some (S++(CountsV.zero.cells++([a,b]++qph))).toArray:=by
 obtain⟨i,z,q,E,m⟩:=qc2 Tryz.zeroChan;obtain⟨F,C,v⟩:=Tryz.placesChan;rw[qbm q C E v];rw[qc5 (P:=[]) (A:=S) (Z:=ql7) (R:=CountsV.zero.cells++([.int .u64 0,.int .u64 0]++qph)) (off:=0) (by rw[f];rfl) rfl (by rw[f];rfl) m];rw[qc5 (P:=S++CountsV.zero.cells) (A:=[a,b]) (Z:=[.int .u64 0,.int .u64 0]) (R:=qph) (off:=45) (by rfl) (by rw[List.length_append,f];rfl) rfl (by simp)];rw[Instr.fill];simp
def q3k(p:Array (Nat × Value)):Sem Value:=Instr.build 126 p
theorem qrm(p:Array (Nat × Value)):Instr.build 126 p=q3k p:=rfl
theorem q74(s:SetupV)(f:s.seed.length=32)(a b:Value)(w:World):(q3k #[(0,.agg s.cells.toArray),(2,.agg #[a,b])]).run Tryz.prog w = .ok (.agg (s.cells++(CountsV.zero.cells++([a,b]++qph))).toArray) w :=
 run_build w _ _ _ (qv5 s.cells a b (s.len f))
theorem Tryz.infoSetup:(Tryz.prog.info? 78).map (·.size)=some 37:=by kernel_rfl
def qy2(x:Value):Sem Value:=Instr.loadAt 78 x
theorem qb4(x:Value):Instr.loadAt 78 x=qy2 x:=rfl
theorem qd8(b o:Nat)(w:World):(qy2 (.pointer (some ⟨b,o,none⟩))).run Tryz.prog w=match zg w b o 37 with | some A=> .ok (.agg A) w | none=>qdh Tryz.prog 78 w b o :=
 qae 78 37 _ Tryz.underlying78 rfl Tryz.infoSetup b o w
def qif(w:World)(b:Nat)(s:SetupV):Prop:=w.heap[b]? = some (.cells s.cells.toArray 78 (0,0))
theorem qif.upd{S:Nat→Prop}{w w':World}{g:Nat}{s:SetupV}(h:qif w g s)(u:Upd S w w')(f:¬S g):qif w' g s:=u.old h f
theorem qif.new{w w':World}{g:Nat}{s:SetupV}(h:qif w g s)(u:qq w w'):qif w' g s:=h.upd u (fun h=>h)
theorem qif.lt{w:World}{g:Nat}{s:SetupV}(h:qif w g s):g<w.heap.size:=zr h
theorem qif.drew{w:World}{g:Nat}{s:SetupV}(h:qif w g s):qif w.drew g s:=h
theorem qif.row{w:World}{b:Nat}{s:SetupV}(h:qif w b s)(f:s.seed.length=32):zg w b 0 37=some s.cells.toArray:=by
 rw[qbt h 0 37 (by simp[s.len f])];congr 1;apply Array.ext';rw[Array.toList_extract];show List.take 37 (List.drop 0 s.cells)=s.cells;rw[List.drop_zero,List.take_of_length_le (by rw[s.len f];exact Nat.le_refl _)]
theorem qif.cell{w:World}{b:Nat}{s:SetupV}(h:qif w b s)(i:Nat):w.cell? ⟨b,i,none⟩=s.cells[i]? := by rw[qg h,List.getElem?_toArray]
theorem SetupV.c35(s:SetupV)(h:s.seed.length=32):s.cells[35]? = some (.string s.key):=by
 unfold SetupV.cells;rw[List.getElem?_cons_succ,List.getElem?_cons_succ,List.getElem?_cons_succ,List.getElem?_append_right (by simp[h])];simp[h]
theorem SetupV.c36(s:SetupV)(h:s.seed.length=32):s.cells[36]? = some (.string s.peer):=by
 unfold SetupV.cells;rw[List.getElem?_cons_succ,List.getElem?_cons_succ,List.getElem?_cons_succ,List.getElem?_append_right (by simp[h])];simp[h]
attribute [local go_sem ↓ high] qb4 qrm
attribute [local go_sem] qd8
def SetupV.may(s:SetupV):Prop:=1≤s.cap∧s.cap≤1125899906842624∧s.ours≤s.cap∧s.key.size≤64∧s.peer.size≤64
theorem q1l(s:SetupV):s.cells++(CountsV.zero.cells++([.int .u64 s.ours,.int .u64 (s.cap-s.ours)]++qph))=(ChanV.new s).cells:=by
 unfold ChanV.new ChanV.cells ChanV.rest ChanV.told qph;simp
set_option maxRecDepth 100000 in
set_option maxHeartbeats 1000000 in
theorem q6e(s:SetupV)(m:s.Ok)(w:World):Calls Tryz.prog 85 #[.agg s.cells.toArray] w fun e w' =>
  (s.may∧∃g,e = .returned (.pointer (some ⟨g,0,none⟩))∧w.heap.size≤g∧ChR w' g (.new s)∧qq w w')∨(¬s.may∧e = .returned (.pointer none)∧qq w w'):=by
 go_enter Tryz.func85,Tryz.ntmps85
 go_upto_region 1 with fail
 have i:qif (w.alloc (.cells s.cells.toArray 78)) w.heap.size s:=qj _ _
 have f:qq w (w.alloc (.cells s.cells.toArray 78)):=(Upd.refl _ _).alloc _
 generalize w.alloc (.cells s.cells.toArray 78)=w1 at i f ⊢
 have H:=i.lt
 have C:=i.row m.seed
 have K:w1.cell? ⟨w.heap.size,1,none⟩=some (.int .u64 s.cap):=i.cell 1
 have L:w1.cell? ⟨w.heap.size,2,none⟩=some (.int .u64 s.ours):=i.cell 2
 have E:w1.cell? ⟨w.heap.size,35,none⟩=some (.string s.key):=(i.cell 35).trans (s.c35 m.seed)
 have F:w1.cell? ⟨w.heap.size,36,none⟩=some (.string s.peer):=(i.cell 36).trans (s.c36 m.seed)
 obtain⟨a0,a1⟩:=m.cap
 obtain⟨b0,b1⟩:=m.ours
 have z:=q74 s m.seed (.int .u64 s.ours) (.int .u64 (s.cap-s.ours))
 rw[q1l] at z
 by_cases M:s.cap<1
 ·go_wp2;go_ret;exact .inr ⟨(fun h=>by have:=h.1;omega),rfl,f⟩
 by_cases N:1125899906842624<s.cap
 ·go_wp2;go_ret;exact .inr ⟨(fun h=>by have:=h.2.1;omega),rfl,f⟩
 by_cases O:s.cap<s.ours
 ·go_wp2;go_ret;exact .inr ⟨(fun h=>by have:=h.2.2.1;omega),rfl,f⟩
 by_cases P:64<s.key.size
 ·have q:64<(s.key.size:Int):=by omega
  go_wp2;go_ret;exact .inr ⟨(fun h=>by have:=h.2.2.2.1;omega),rfl,f⟩
 by_cases R:64<s.peer.size
 ·have q:¬64<(s.key.size:Int):=by omega
  have v:64<(s.peer.size:Int):=by omega
  go_wp2;go_ret;exact .inr ⟨(fun h=>by have:=h.2.2.2.2;omega),rfl,f⟩
 ·have q:¬64<(s.key.size:Int):=by omega
  have v:¬64<(s.peer.size:Int):=by omega
  have S:IntKind.u64.wrap (s.cap-s.ours)=s.cap-s.ours:=by rw[IntKind.wrap_u64];omega
  go_wp2;go_ret;have I:s.may:=⟨by omega,by omega,by omega,by omega,by omega⟩;have J:qq w (w1.alloc (.cells (ChanV.new s).cells.toArray 126)):=f.alloc _;exact .inl ⟨I,w1.heap.size,rfl,f.size,⟨qj _ _,m.seed⟩,J⟩
end Go.Proofs.YtfmkdoachjgjbaaGreatDoor
namespace Go.Proofs.YtfmkdoachjgjbaaGreatDoor
open Go.RowKit
structure Htlc where
 id:Int
 amount:Int
 hash:Vector Int 32
 expiry:Int
structure Live where
 h:Htlc
 own:Bool
 state:Int
 paid:Bool
structure Item where
 offered:Bool
 h:Htlc
def qk(h:Htlc):List Value:= .int .u64 h.id :: .int .u64 h.amount::(h.hash.toList.map (Value.int .u8)++[.int .i64 h.expiry])
def qm(x:Live):List Value:=qk x.h++[.bool x.own,.int .i64 x.state,.bool x.paid]
def zl(x:Item):List Value:= .bool x.offered::qk x.h
structure HtlcOk(h:Htlc):Prop where
 id:0≤h.id∧h.id≤18446744073709551615
 amount:0≤h.amount∧h.amount≤18446744073709551615
 hash:∀n∈h.hash.toList,0≤n∧n≤255
 expiry : -9223372036854775808≤h.expiry∧h.expiry≤9223372036854775807
structure LiveOk(x:Live):Prop where
 h:HtlcOk x.h
 state : -9223372036854775808≤x.state∧x.state≤9223372036854775807
theorem qbf(h:Htlc):(qk h).length=35:=by simp[qk]
theorem qbj(x:Live):(qm x).length=38:=by simp[qm,qbf]
theorem qcb(x:Item):(zl x).length=36:=by simp[zl,qbf]
theorem qsf(x:Live):(qm x)[0]? = some (.int .u64 x.h.id):=rfl
theorem q53(x:Live):(qm x)[1]? = some (.int .u64 x.h.amount):=rfl
theorem qfe(x:Live):(qm x)[35]? = some (.bool x.own):=by
 unfold qm;rw[List.getElem?_append_right (by rw[qbf];omega),qbf];rfl
theorem qff(x:Live):(qm x)[36]? = some (.int .i64 x.state):=by
 unfold qm;rw[List.getElem?_append_right (by rw[qbf];omega),qbf];rfl
theorem qnp(x:Live):(qm x)[37]? = some (.bool x.paid):=by
 unfold qm;rw[List.getElem?_append_right (by rw[qbf];omega),qbf];rfl
theorem qis(h:Htlc):∀v∈qk h,v.oneCell'=true:=by
 intro v f;simp only[qk,List.mem_cons,List.mem_append,List.mem_map,List.not_mem_nil,or_false] at f;rcases f with rfl | rfl | ⟨n,_,rfl⟩ | rfl<;>rfl
theorem qol(x:Item):∀v∈zl x,v.oneCell'=true:=by
 intro v f;rcases List.mem_cons.1 f with rfl | f
 ·rfl
 ·exact qis _ v f
theorem Tryz.infoLive:(Tryz.prog.info? 69).map (·.size)=some 38:=by kernel_rfl
theorem Tryz.infoHtlc:(Tryz.prog.info? 41).map (·.size)=some 35:=by kernel_rfl
def q5z(x:Value):Sem Value:=Instr.loadAt 69 x
theorem qbc(x:Value):Instr.loadAt 69 x=q5z x:=rfl
theorem qdi(b o:Nat)(w:World):(q5z (.pointer (some ⟨b,o,none⟩))).run Tryz.prog w=match zg w b o 38 with | some A=> .ok (.agg A) w | none=>qdh Tryz.prog 69 w b o :=
 qae 69 38 _ Tryz.underlying69 rfl Tryz.infoLive b o w
def q5x(x:Value):Sem Value:=Instr.loadAt 41 x
theorem qse(x:Value):Instr.loadAt 41 x=q5x x:=rfl
theorem q84(b o:Nat)(w:World):(q5x (.pointer (some ⟨b,o,none⟩))).run Tryz.prog w=match zg w b o 35 with | some A=> .ok (.agg A) w | none=>qdh Tryz.prog 41 w b o :=
 qae 41 35 _ Tryz.underlying41 rfl Tryz.infoHtlc b o w
def q7c(x v:Value):Sem Unit:=Instr.storeAt 69 x v
theorem qbo(x v:Value):Instr.storeAt 69 x v=q7c x v:=rfl
theorem qdx(b o:Nat)(A:Array Value)(w:World):(q7c (.pointer (some ⟨b,o,none⟩)) (.agg A)).run Tryz.prog w=if stOk w b o 38 A=true then .ok () (w.setCells b o A.toList) else qed Tryz.prog 69 w b o A :=
 qau 69 38 Tryz.infoLive b o A w
def qd3(w:World)(g off:Nat)(xs:List Live):Prop :=
 ∃C T f,w.heap[g]? = some (.cells C T f)∧off+xs.length*38≤C.size∧∀i x,xs[i]? = some x→∀j,j<38→C[off+i*38+j]? = (qm x)[j]?
theorem qd3.row{w:World}{g off:Nat}{xs:List Live}(h:qd3 w g off xs){i:Nat}{x:Live}(q:xs[i]? = some x):zg w g (off+i*38) 38=some (qm x).toArray:=by
 obtain⟨C,T,F,v,H,z⟩:=h;have m:i<xs.length:=(List.getElem?_eq_some_iff.1 q).1;have f:off+i*38+38≤C.size:=by have:=Nat.mul_le_mul_right 38 (show i+1≤xs.length from m);omega
 rw[qbt v _ _ f];congr 1;apply Array.ext';apply List.ext_getElem?;intro j;rw[Array.getElem?_toList,Array.getElem?_extract];by_cases E:j<38
 ·rw[if_pos (by omega),z i x q j E]
 ·rw[if_neg (by omega),List.getElem?_eq_none (by rw[qbj];omega)]
theorem qd3.upd{S:Nat→Prop}{w w':World}{b off:Nat}{xs:List Live}(h:qd3 w b off xs)(u:Upd S w w')(m:¬S b):qd3 w' b off xs:=by
 obtain⟨C,T,f,i,r⟩:=h;exact⟨C,T,f,u.old i m,r⟩
theorem qd3.lt{w:World}{g off:Nat}{xs:List Live}(h:qd3 w g off xs):g<w.heap.size:=by
 obtain⟨C,T,i,f,r⟩:=h;exact zr f
def qgo(w:World)(v:Value)(xs:List Live):Prop:=(∃a c,v = .slice a 0 c∧xs=[])∨∃g off cap,v = .slice (some ⟨g,off,none⟩) xs.length cap∧qd3 w g off xs
theorem qgo.new{w w':World}{v:Value}{xs:List Live}(h:qgo w v xs)(u:qq w w'):qgo w' v xs:=by
 rcases h with h | ⟨g,off,cap,e,h⟩
 ·exact .inl h
 ·exact .inr ⟨g,off,cap,e,h.upd u (fun h=>h)⟩
def qie(base:Nat)(w:World)(v:Value)(xs:List Live):Prop:=(∃a c,v = .slice a 0 c∧xs=[])∨∃g off cap,v = .slice (some ⟨g,off,none⟩) xs.length cap∧base≤g∧qd3 w g off xs
theorem qie.to{base:Nat}{w:World}{v:Value}{xs:List Live}(h:qie base w v xs):qgo w v xs:=by
 rcases h with h | ⟨g,off,cap,e,_,h⟩
 ·exact .inl h
 ·exact .inr ⟨g,off,cap,e,h⟩
theorem qie.new{base:Nat}{w w':World}{v:Value}{xs:List Live}(h:qie base w v xs)(u:qq w w'):qie base w' v xs:=by
 rcases h with h | ⟨g,off,cap,e,f,h⟩
 ·exact .inl h
 ·exact .inr ⟨g,off,cap,e,f,h.upd u (fun h=>h)⟩
theorem qie.row{base:Nat}{w:World}{v:Value}{xs:List Live}(h:qie base w v xs):∃a cap,v = .slice a xs.length cap∧∀(i:Nat) (x:Live),xs[i]? = some x→∃g off,a=some ⟨g,off,none⟩∧base≤g∧qd3 w g off xs:=by
 rcases h with ⟨a,c,e,rfl⟩ | ⟨g,off,cap,e,f,m⟩
 ·exact⟨a,c,e,fun i x q=>by simp at q⟩
 ·exact⟨_,cap,e,fun i x _=>⟨g,off,rfl,f,m⟩⟩
theorem qcu(Z:Array Value)(C:List Value)(h:Z.size=C.length):qiu Z 0 C=C.toArray:=by
 apply Array.ext';apply List.ext_getElem?;intro j;rw[Array.getElem?_toList,qgy _ _ _ _ (by omega)];by_cases i:j<C.length
 ·rw[if_pos (by omega)];simp
 ·have f:Z[j]? = none:=Array.getElem?_eq_none (by omega);rw[if_neg (by omega),f];exact(List.getElem?_eq_none (by simp;omega)).symm
theorem qkz(w:World)(Z:Array Value)(T:TypeId)(C:List Value)(f:Z.size=C.length) :
  ((w.alloc (.cells Z T)).setCells w.heap.size 0 C).heap[w.heap.size]? = some (.cells C.toArray T (0,0))∧qq w ((w.alloc (.cells Z T)).setCells w.heap.size 0 C):=by
 constructor
 ·rw[qa8 (qj w (.cells Z T)) 0 C,qcu Z C f]
 ·exact(((Upd.refl (· = w.heap.size) w).alloc _).setCells 0 C).mono (fun i m e=>by omega)
theorem qe3(x:Live):∀v∈qm x,v.oneCell'=true:=by
 intro v f;simp only[qm,List.mem_append,List.mem_cons,List.not_mem_nil,or_false] at f;rcases f with f | rfl | rfl | rfl
 ·exact qis _ v f
 ·rfl
 ·rfl
 ·rfl
theorem qus{w w':World}{base:Nat}{e:TypeId}{size:Nat}{v:Value}{n:Nat}{xs:List Value}(h:w.ownsRow base e size v n xs)(u:qq w w'):w'.ownsRow base e size v n xs:=by
 refine⟨h.1,?_⟩;rcases h.2 with h | ⟨g,cap,f,i,m,q,r⟩
 ·exact .inl h
 ·exact .inr ⟨g,cap,f,i,m,u.old q (fun h=>h),r⟩
theorem ql1{w:World}{base:Nat}{e:TypeId}{size:Nat}{v:Value}{n:Nat}{xs:List Value}(h:w.ownsRow base e size v n xs):∃a k c,v = .slice a k c:=by
 rcases h.2 with ⟨rfl,_⟩ | ⟨g,cap,f,rfl,_⟩
 ·exact⟨_,_,_,rfl⟩
 ·exact⟨_,_,_,rfl⟩
theorem qk6{S:Nat→Prop}{w w':World}{base:Nat}{e:TypeId}{size:Nat}{v:Value}{n:Nat}{xs:List Value}(h:w.ownsRow base e size v n xs)(u:Upd S w w')(q:∀k,base≤k→¬S k):w'.ownsRow base e size v n xs:=by
 refine⟨h.1,?_⟩;rcases h.2 with h | ⟨g,cap,f,m,i,z,r⟩
 ·exact .inl h
 ·exact .inr ⟨g,cap,f,m,i,u.old z (q g i),r⟩
theorem qls(X:List Live):(X.flatMap qm).length=X.length*38:=by
 induction X with
 | nil=>rfl
 | cons x X f=>rw[List.flatMap_cons,List.length_append,f,qbj,List.length_cons];omega
theorem qp6:∀(X:List Live) (i j:Nat) (x:Live),X[i]? = some x→j<38→(X.flatMap qm)[i*38+j]? = (qm x)[j]? := by
 intro X
 induction X with
 | nil=>intro i j x h;simp at h
 | cons y X q =>
  intro i j x f m;rw[List.flatMap_cons];cases i with
  | zero =>
   simp only[List.getElem?_cons_zero,Option.some.injEq] at f;subst f;rw[List.getElem?_append_left (by rw[qbj];omega),Nat.zero_mul,Nat.zero_add]
  | succ i =>
   rw[List.getElem?_append_right (by rw[qbj];omega),qbj,show (i+1)*38+j-38=i*38+j by omega];exact q i j x (by simpa using f) m
theorem q0g(X:List Live):∀u∈X.flatMap qm,u.oneCell'=true:=by
 intro u f;obtain⟨x,_,i⟩:=List.mem_flatMap.1 f;exact qe3 x u i
def qds(w:World)(g off:Nat)(xs:List Live):Prop :=
 ∃C T,w.heap[g]? = some (.cells C T (0,0))∧off+xs.length*38≤C.size∧∀i x,xs[i]? = some x→∀j,j<38→C[off+i*38+j]? = (qm x)[j]?
theorem qds.toL{w:World}{g off:Nat}{xs:List Live}(h:qds w g off xs):qd3 w g off xs:=by
 obtain⟨C,T,f,r⟩:=h;exact⟨C,T,_,f,r⟩
theorem qds.row{w:World}{g off:Nat}{xs:List Live}(h:qds w g off xs){i:Nat}{x:Live}(f:xs[i]? = some x):zg w g (off+i*38) 38=some (qm x).toArray:=h.toL.row f
theorem qds.upd{S:Nat→Prop}{w w':World}{b off:Nat}{xs:List Live}(h:qds w b off xs)(u:Upd S w w')(i:¬S b):qds w' b off xs:=by
 obtain⟨C,T,f,r⟩:=h;exact⟨C,T,u.old f i,r⟩
theorem qd3.cells{w:World}{g off:Nat}{X:List Live}(h:qd3 w g off X):∀j u,(X.flatMap qm)[j]? = some u→w.cell? ((⟨g,off,none⟩:Addr).add j)=some u:=by
 intro j u q;obtain⟨C,T,H,z,J,E⟩:=h;have I:j<X.length*38:=by
  have:=(List.getElem?_eq_some_iff.1 q).1;rwa [qls] at this
 have f:(⟨g,off,none⟩:Addr).add j=⟨g,off+j,none⟩:=by unfold Addr.add;split<;>simp_all
 rw[f,qg z];have F:j / 38<X.length:=Nat.div_lt_of_lt_mul (by omega);obtain⟨x,v⟩:∃x,X[j / 38]? = some x:=⟨_,List.getElem?_eq_getElem F⟩;have e:=Nat.div_add_mod j 38;have m:=Nat.mod_lt j (show 0<38 by decide);rw[←q,show off+j=off+j / 38*38+j%38 by omega,E _ x v _ m];have i:=qp6 X _ _ x v m;rw[show j / 38*38+j%38=j by omega] at i;exact i.symm
theorem qdf{w:World}{base:Nat}{v:Value}{n:Nat}{X:List Live}(h:w.ownsRow base 69 38 v n (X.flatMap qm)) :
  n=X.length∧((v = .slice none 0 0∧X=[])∨∃g cap,v = .slice (some ⟨g,0,none⟩) X.length cap∧base≤g∧qds w g 0 X):=by
 have z:n=X.length:=by have:=h.1;rw[qls] at this;omega
 refine⟨z,?_⟩
 subst z
 rcases h.2 with ⟨e,C⟩ | ⟨g,cap,f,e,E,H,F,_,K,J⟩
 ·exact .inl ⟨e,List.length_eq_zero_iff.1 C⟩
 ·refine .inr ⟨g,cap,e,E,f,_,H,by have:=Nat.mul_le_mul_right 38 F;omega,fun i x q j I=> ?_⟩;have m:=(List.getElem?_eq_some_iff.1 q).1;rw[Nat.zero_add,←qp6 X i j x q I,←J,List.getElem?_take,if_pos (by have:=Nat.mul_le_mul_right 38 (show i+1≤X.length from m);omega),Array.getElem?_toList]
theorem Tryz.infoLiveB:(Tryz.prog.info? 69).map (fun i=>(i.size,i.bytes,i.zero.map (·.cells.size)))=some (38,80,some 38):=by kernel_rfl
theorem q1e:∃i z,Tryz.prog.info? 69=some i∧i.zero=some z∧i.size=38∧i.bytes=80∧z.cells.size=38:=by
 have h:=Tryz.infoLiveB;cases q:Tryz.prog.info? 69 with
 | none=>rw[q] at h;simp at h
 | some i =>
  rw[q] at h;simp only[Option.map_some,Option.some.injEq,Prod.mk.injEq] at h;obtain⟨v,C,f⟩:=h;cases m:i.zero with
  | none=>rw[m] at f;simp at f
  | some z=>rw[m] at f;simp at f;exact⟨i,z,rfl,m,v,C,f⟩
set_option maxRecDepth 100000 in
set_option maxHeartbeats 1000000 in
theorem qp2(v:Value)(xs:List Live)(X:xs.length≤1048576)(w:World)(R:qgo w v xs) :
  Calls Tryz.prog 56 #[v] w fun e w'=>∃u,e = .returned u∧qq w w'∧((∃a c,u = .slice a 0 c∧xs=[])∨∃g cap,u = .slice (some ⟨g,0,none⟩) xs.length cap∧w.heap.size≤g∧qds w' g 0 xs):=by
 have E:(∃c,v = .slice none 0 c∧xs=[])∨∃(a:Addr) (cap:Nat),v = .slice (some a) xs.length cap∧∀j u,(xs.flatMap qm)[j]? = some u→w.cell? (a.add j)=some u:=by
  rcases R with ⟨a,c,rfl,rfl⟩ | ⟨g,off,cap,rfl,z⟩
  ·cases a with
   | none=>exact .inl ⟨_,rfl,rfl⟩
   | some a=>exact .inr ⟨a,c,rfl,by simp⟩
  ·exact .inr ⟨_,cap,rfl,z.cells⟩
 rcases E with ⟨c,rfl,rfl⟩ | ⟨a,cap,rfl,z⟩
 ·go_enter Tryz.func56,Tryz.ntmps56;have J:=fun(w:World)=>run_eql_slice_nil (P:=Tryz.prog) w 46 _ none 0 c Tryz.underlying46
  go_wp2
  first | go_ret2 | go_ret
  exact⟨_,rfl,Upd.refl _ _,.inl ⟨_,_,rfl,trivial⟩⟩
 ·obtain⟨T,z9,N,S,F,H,I⟩:=q1e;have J:=fun(w:World)=>run_eql_slice_nil (P:=Tryz.prog) w 46 _ (some a) xs.length cap Tryz.underlying46
  simp only[Option.isNone_some] at J;go_enter Tryz.func56,Tryz.ntmps56;go_wp2_with (at_builtin;refine wpList_append_own _ rfl (.tmp 5) (.tmp 6) 46 rfl w.heap.size 69 T _ 38 80 Tryz.underlying46 N S F H I (by decide) _ 0 [] rfl (World.ownsRow_made (base:=w.heap.size) w #[] 0 (Nat.le_refl _) (by decide) rfl) a xs.length cap (xs.flatMap qm) rfl (qls xs) ?c1 (q0g xs) ?c3 ?c4 ?c5 ?_)
  case c1 =>
   intro j u O;exact((Upd.refl (fun _=>False) w).alloc _).cell (z j u O) (fun h=>h)
  case c3=>unfold maxLen;omega
  case c4=>omega
  case c5=>simp
  intro Z V f i _;have U:qq w V:=((Upd.refl _ w).alloc _).grown i (fun k h W=>by simp[Value.ownBlock] at h;omega);have m:=(qdf f).2;obtain⟨a5,Y,c5,rfl⟩:=ql1 f;have K:=qb m;clear m f i;go_wp2
  first | go_ret2 | go_ret
  refine⟨_,rfl,U,?_⟩;rcases qa K with h | ⟨L,q,e,M,C⟩
  ·exact .inl ⟨_,_,h.1,h.2⟩
  ·exact .inr ⟨L,q,e,M,C⟩
def Live.zero:Live:=⟨⟨0,0,Vector.replicate 32 0,0⟩,false,0,false⟩
def q3f:Sem Value:=Instr.alloc 69 true (.tuple #[])
theorem qce:Instr.alloc 69 true (.tuple #[])=q3f:=rfl
theorem qfb(w:World):q3f.run Tryz.prog w = .ok (.pointer (some ⟨w.heap.size,0,none⟩)) (w.alloc (.cells (qm Live.zero).toArray 69)):=by kernel_rfl
theorem qee{w:World}{b:Nat}{C:Array Value}{T:TypeId}(h:w.heap[b]? = some (.cells C T (0,0))){A:List Value}(i:A.length=C.size)(f:∀v∈A,v.oneCell'=true):stOk w b 0 C.size A.toArray=true :=
 qdu h (by omega) (by simpa using i) (by rw[Array.all_eq_true_iff_forall_mem];intro v m;exact f v (by simpa using m))
theorem qjo(w:World)(x:Live):stOk (w.alloc (.cells (qm Live.zero).toArray 69)) w.heap.size 0 38 (qm x).toArray=true :=
 qee (C:=(qm Live.zero).toArray) (qj _ _) (by rw[qbj];rfl) (qe3 x)
theorem qjg(w:World)(x:Live):((w.alloc (.cells (qm Live.zero).toArray 69)).setCells w.heap.size 0 (qm x)).heap[w.heap.size]? = some (.cells (qm x).toArray 69 (0,0))∧qq w ((w.alloc (.cells (qm Live.zero).toArray 69)).setCells w.heap.size 0 (qm x)) :=
 qkz w _ _ _ (by rw[qbj];rfl)
end Go.Proofs.YtfmkdoachjgjbaaGreatDoor
