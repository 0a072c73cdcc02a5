/-
  A struct that is built of its parts: a part laid into the zero cells.
-/
import Derived.Test.YtfmkdoachjgjbaaGreatDoorMae
import Derived.Great.BuildSlice
import Derived.Test.YtfmkdoachjgjbaaGreatDoorProg
import Derived.Test.YtfmkdoachjgjbaaGreatDoorRows
import Derived.IntWalk
import Derived.Outline
import Derived.Deep.CutRange
import Derived.BigRegion
import Derived.Deep.RegionLaw
import Derived.Test.YtfmkdoachjgjbaaGreatDoorMaa
import Derived.Test.YtfmkdoachjgjbaaGreatDoorTxt
set_option maxRecDepth 100000
set_option maxHeartbeats 1000000
set_option linter.unusedVariables false
set_option linter.unusedSimpArgs false
namespace Go.Proofs.YtfmkdoachjgjbaaGreatDoor
section
open Go.RowKit
theorem qtn(A P Z R:List Value)(h:Z.length=A.length):(A.zipIdx).foldl (fun(cs:Array Value) (c,j)=>cs.setIfInBounds (P.length+j) c) (P++(Z++R)).toArray=(P++(A++R)).toArray:=by
 have key:∀(A:List Value) (k:Nat) (Q Z:List Value),Z.length=A.length→Q.length=P.length+k→(A.zipIdx k).foldl (fun(cs:Array Value) (c,j)=>cs.setIfInBounds (P.length+j) c) (Q++(Z++R)).toArray=(Q++(A++R)).toArray:=by
  intro A
  induction A with
  | nil=>intro k Q Z i _;rw[List.length_eq_zero_iff.1 i];rfl
  | cons a A o =>
   intro k Q Z i m;cases Z with
   | nil=>simp at i
   | cons z Z =>
    rw[List.zipIdx_cons,List.foldl_cons];have e:(Q++(z::Z++R)).toArray.setIfInBounds (P.length+k) a=((Q++[a])++(Z++R)).toArray:=by
     rw[←m];simp
    show List.foldl _ ((Q++(z::Z++R)).toArray.setIfInBounds (P.length+k) a) _=_;rw[e,o (k+1) (Q++[a]) Z (by simpa using i) (by simp[m];omega)];simp
 exact key A 0 P Z h rfl
theorem qbc{P:Program}{t:TypeId}{q:TypeInfo}{z:Value}{m:Array Field}{places:List (Nat × Nat)}(v:P.info? t=some q)(x:P.underlying t=some (.struct m))(y:q.zero=some z)
  (w:m.toList.mapM (fun f=>(P.info? f.type).map fun i=>(f.offset,i.size))=some places) (o:List (Nat × Value)):P.built t o=Instr.fill (places.toArray[·]?) z.cells o:=by
 unfold Program.built
 rw[v,x]
 simp only[y,w]
theorem qcv{P:Program}{t:TypeId}{l:List Value}(h:((P.info? t).map fun i=>i.zero.map fun z=>z.cells.toList)=some (some l)):∃i z,P.info? t=some i∧i.zero=some z∧z.cells=l.toArray:=by
 cases o:P.info? t with
 | none=>rw[o] at h;simp at h
 | some i =>
  rw[o,Option.map_some,Option.some.injEq] at h;cases m:i.zero with
  | none=>rw[m] at h;simp at h
  | some z =>
   rw[m,Option.map_some,Option.some.injEq] at h;exact⟨i,z,rfl,m,by rw[←h]⟩
theorem qcq{m:Nat→Option (Nat × Nat)}{i off:Nat}{A P Z R:List Value}{cs:Array Value}(w:m i=some (off,A.length))(v:P.length=off)(q:Z.length=A.length)(t:cs=(P++(Z++R)).toArray)(rest:List (Nat × Value)) :
  Instr.fill m cs ((i,.agg A.toArray)::rest)=Instr.fill m (P++(A++R)).toArray rest:=by
 subst t v
 rw[Instr.fill,w]
 have x:¬(A.toArray.size≠A.length || P.length+A.toArray.size>(P++(Z++R)).toArray.size)=true:=by
  simp[q]
 have o:((Value.agg A.toArray).cells.size≠A.length || P.length+(Value.agg A.toArray).cells.size>(P++(Z++R)).toArray.size)=false:=by
  simpa [Value.cells] using x
 simp only[o,Bool.false_eq_true,if_false]
 congr 1
 have:=qtn A P Z R q
 simpa [Value.cells] using this
structure SetupV where
 ch:Int
 cap:Int
 ours:Int
 seed:List Int
 key:ByteArray
 peer:ByteArray
def SetupV.cells(s:SetupV):List Value:= .int .u32 s.ch :: .int .u64 s.cap :: .int .u64 s.ours::(s.seed.map (Value.int .u8)++[.string s.key,.string s.peer])
structure SetupV.Ok(s:SetupV):Prop where
 ch:0≤s.ch∧s.ch<4294967296
 cap:0≤s.cap∧s.cap<18446744073709551616
 ours:0≤s.ours∧s.ours<18446744073709551616
 seed:s.seed.length=32
theorem SetupV.len(s:SetupV)(h:s.seed.length=32):s.cells.length=37:=by simp[SetupV.cells,h]
structure KeptV where
 full:Bool
 number:Int
 told:List Int
def KeptV.cells(k:KeptV):List Value:= .bool k.full :: .int .i64 k.number::k.told.map (Value.int .u8)
def KeptV.zero:KeptV:=⟨false,0,List.replicate 32 0⟩
structure CountsV where
 signed:Int
 heard:Int
 awaits:Bool
 nextOwn:Int
 nextTheirs:Int
 shutSaid:Bool
 shutHeard:Bool
 revoked:Bool
def CountsV.cells(k:CountsV):List Value:=[.int .i64 k.signed,.int .i64 k.heard,.bool k.awaits,.int .u64 k.nextOwn,.int .u64 k.nextTheirs,.bool k.shutSaid,.bool k.shutHeard,.bool k.revoked]
def CountsV.zero:CountsV:=⟨0,0,false,0,0,false,false,false⟩
structure ChanV where
 setup:SetupV
 k:CountsV
 loc:Int
 rem:Int
 live:Value
 shelf:List KeptV
 news:Value
 last:Value
def ChanV.told(c:ChanV):List Value:=c.shelf.flatMap KeptV.cells
def ChanV.rest(c:ChanV):List Value:= .int .u64 c.loc :: .int .u64 c.rem::c.live::(c.told++[c.news,c.last])
def ChanV.cells(c:ChanV):List Value:=c.setup.cells++(c.k.cells++c.rest)
def qcb:Value:= .slice none 0 0
def ChanV.new(s:SetupV):ChanV:=⟨s,.zero,s.ours,s.cap-s.ours,qcb,List.replicate 17 .zero,qcb,qcb⟩
structure ChR(w:World)(g:Nat)(c:ChanV):Prop where
 at_:w.heap[g]? = some (.cells c.cells.toArray 126 (0,0))
 seed:c.setup.seed.length=32
theorem ChR.lt{w:World}{g:Nat}{c:ChanV}(h:ChR w g c):g<w.heap.size:=zi h.at_
theorem ChR.upd{S:Nat→Prop}{w w':World}{g:Nat}{c:ChanV}(h:ChR w g c)(u:Upd S w w')(i:¬S g):ChR w' g c:=⟨u.old h.at_ i,h.seed⟩
theorem ChR.new{w w':World}{g:Nat}{c:ChanV}(h:ChR w g c)(u:qq w w'):ChR w' g c:=h.upd u (fun h=>h)
theorem ChR.free{w:World}{g:Nat}{c:ChanV}(h:ChR w g c)(i:Nat):w.frozen? ⟨g,i,none⟩=false:=qo h.at_ i
theorem ChR.cell{w:World}{g:Nat}{c:ChanV}(h:ChR w g c)(i:Nat):w.cell? ⟨g,i,none⟩=c.cells[i]? := by
 rw[qk h.at_,List.getElem?_toArray]
theorem qzd(c:ChanV)(h:c.setup.seed.length=32)(i:Nat)(m:i<37):c.cells[i]? = c.setup.cells[i]? := by
 unfold ChanV.cells;rw[List.getElem?_append_left (by rw[c.setup.len h];exact m)]
theorem qkc(c:ChanV)(h:c.setup.seed.length=32)(i:Nat):c.cells[37+i]? = (c.k.cells++c.rest)[i]? := by
 unfold ChanV.cells;rw[List.getElem?_append_right (by rw[c.setup.len h];omega),c.setup.len h,Nat.add_sub_cancel_left]
theorem ChR.low{w:World}{g:Nat}{c:ChanV}(h:ChR w g c)(i:Nat)(m:i<37):w.cell? ⟨g,i,none⟩=c.setup.cells[i]? := (h.cell i).trans (qzd c h.seed i m)
theorem ChR.mid{w:World}{g:Nat}{c:ChanV}(h:ChR w g c)(i:Nat):w.cell? ⟨g,37+i,none⟩=(c.k.cells++c.rest)[i]? := (h.cell _).trans (qkc c h.seed i)
section
variable {w:World}{g:Nat}{c:ChanV}(h:ChR w g c)
include h
theorem ChR.ch:w.cell? ⟨g,0,none⟩=some (.int .u32 c.setup.ch):=h.low 0 (by omega)
theorem ChR.cap:w.cell? ⟨g,1,none⟩=some (.int .u64 c.setup.cap):=h.low 1 (by omega)
theorem ChR.signed:w.cell? ⟨g,37,none⟩=some (.int .i64 c.k.signed):=h.mid 0
theorem ChR.heard:w.cell? ⟨g,38,none⟩=some (.int .i64 c.k.heard):=h.mid 1
theorem ChR.awaits:w.cell? ⟨g,39,none⟩=some (.bool c.k.awaits):=h.mid 2
theorem ChR.nextOwn:w.cell? ⟨g,40,none⟩=some (.int .u64 c.k.nextOwn):=h.mid 3
theorem ChR.nextTheirs:w.cell? ⟨g,41,none⟩=some (.int .u64 c.k.nextTheirs):=h.mid 4
theorem ChR.shutSaid:w.cell? ⟨g,42,none⟩=some (.bool c.k.shutSaid):=h.mid 5
theorem ChR.shutHeard:w.cell? ⟨g,43,none⟩=some (.bool c.k.shutHeard):=h.mid 6
theorem ChR.revoked:w.cell? ⟨g,44,none⟩=some (.bool c.k.revoked):=h.mid 7
theorem ChR.loc:w.cell? ⟨g,45,none⟩=some (.int .u64 c.loc):=h.mid 8
theorem ChR.rem:w.cell? ⟨g,46,none⟩=some (.int .u64 c.rem):=h.mid 9
theorem ChR.live:w.cell? ⟨g,47,none⟩=some c.live:=h.mid 10
end
def qov:List Value:=qcb::((List.replicate 17 KeptV.zero).flatMap KeptV.cells++[qcb,qcb])
def q6h:List Value:= .int .u32 0 :: .int .u64 0 :: .int .u64 0::((List.replicate 32 0).map (Value.int .u8)++[.string ⟨#[]⟩,.string ⟨#[]⟩])
theorem Tryz.zeroChan:((Tryz.prog.info? 126).map fun i=>i.zero.map fun z=>z.cells.toList)=some (some (q6h++(CountsV.zero.cells++([.int .u64 0,.int .u64 0]++qov)))):=by kernel_rfl
theorem Tryz.placesChan:∃m,Tryz.prog.underlying 126=some (.struct m)∧m.toList.mapM (fun f=>(Tryz.prog.info? f.type).map fun i=>(f.offset,i.size))=some [(0,37),(37,8),(45,2),(47,1),(48,578),(626,1),(627,1)]:=⟨_,Tryz.underlying126,by kernel_rfl⟩
theorem qvm(S:List Value)(a b:Value)(m:S.length=37):Tryz.prog.built 126 [(0,.agg S.toArray),(2,.agg [a,b].toArray)]=some (S++(CountsV.zero.cells++([a,b]++qov))).toArray:=by
 obtain⟨i,z,q,x,o⟩:=qcv Tryz.zeroChan;obtain⟨y,v,t⟩:=Tryz.placesChan;rw[qbc q v x t];rw[qcq (P:=[]) (A:=S) (Z:=q6h) (R:=CountsV.zero.cells++([.int .u64 0,.int .u64 0]++qov)) (off:=0) (by rw[m];rfl) rfl (by rw[m];rfl) o];rw[qcq (P:=S++CountsV.zero.cells) (A:=[a,b]) (Z:=[.int .u64 0,.int .u64 0]) (R:=qov) (off:=45) (by rfl) (by rw[List.length_append,m];rfl) rfl (by simp)];rw[Instr.fill];simp
def q2g(p:Array (Nat × Value)):Sem Value:=Instr.build 126 p
theorem qq9(p:Array (Nat × Value)):Instr.build 126 p=q2g p:=rfl
theorem q6s(s:SetupV)(i:s.seed.length=32)(a b:Value)(w:World):(q2g #[(0,.agg s.cells.toArray),(2,.agg #[a,b])]).run Tryz.prog w = .ok (.agg (s.cells++(CountsV.zero.cells++([a,b]++qov))).toArray) w :=
 run_build w _ _ _ (qvm s.cells a b (s.len i))
theorem Tryz.infoSetup:(Tryz.prog.info? 78).map (·.size)=some 37:=by kernel_rfl
def qyd(x:Value):Sem Value:=Instr.loadAt 78 x
theorem qed(x:Value):Instr.loadAt 78 x=qyd x:=rfl
theorem qji(b o:Nat)(w:World):(qyd (.pointer (some ⟨b,o,none⟩))).run Tryz.prog w=match zt w b o 37 with | some A=> .ok (.agg A) w | none=>qc3 Tryz.prog 78 w b o :=
 qag 78 37 _ Tryz.underlying78 rfl Tryz.infoSetup b o w
def qgs(w:World)(b:Nat)(s:SetupV):Prop:=w.heap[b]? = some (.cells s.cells.toArray 78 (0,0))
theorem qgs.upd{S:Nat→Prop}{w w':World}{g:Nat}{s:SetupV}(h:qgs w g s)(u:Upd S w w')(i:¬S g):qgs w' g s:=u.old h i
theorem qgs.new{w w':World}{g:Nat}{s:SetupV}(h:qgs w g s)(u:qq w w'):qgs w' g s:=h.upd u (fun h=>h)
theorem qgs.lt{w:World}{g:Nat}{s:SetupV}(h:qgs w g s):g<w.heap.size:=zi h
theorem qgs.drew{w:World}{g:Nat}{s:SetupV}(h:qgs w g s):qgs w.drew g s:=h
theorem qgs.row{w:World}{b:Nat}{s:SetupV}(h:qgs w b s)(i:s.seed.length=32):zt w b 0 37=some s.cells.toArray:=by
 rw[qby h 0 37 (by simp[s.len i])];congr 1;apply Array.ext';rw[Array.toList_extract];show List.take 37 (List.drop 0 s.cells)=s.cells;rw[List.drop_zero,List.take_of_length_le (by rw[s.len i];exact Nat.le_refl _)]
theorem qgs.cell{w:World}{b:Nat}{s:SetupV}(h:qgs w b s)(i:Nat):w.cell? ⟨b,i,none⟩=s.cells[i]? := by rw[qk h,List.getElem?_toArray]
theorem SetupV.c35(s:SetupV)(h:s.seed.length=32):s.cells[35]? = some (.string s.key):=by
 unfold SetupV.cells;rw[List.getElem?_cons_succ,List.getElem?_cons_succ,List.getElem?_cons_succ,List.getElem?_append_right (by simp[h])];simp[h]
theorem SetupV.c36(s:SetupV)(h:s.seed.length=32):s.cells[36]? = some (.string s.peer):=by
 unfold SetupV.cells;rw[List.getElem?_cons_succ,List.getElem?_cons_succ,List.getElem?_cons_succ,List.getElem?_append_right (by simp[h])];simp[h]
attribute [local go_sem ↓ high] qed qq9
attribute [local go_sem] qji
def SetupV.may(s:SetupV):Prop:=1≤s.cap∧s.cap≤1125899906842624∧s.ours≤s.cap∧s.key.size≤64∧s.peer.size≤64
theorem q0q(s:SetupV):s.cells++(CountsV.zero.cells++([.int .u64 s.ours,.int .u64 (s.cap-s.ours)]++qov))=(ChanV.new s).cells:=by
 unfold ChanV.new ChanV.cells ChanV.rest ChanV.told qov;simp
theorem q4u(s:SetupV)(m:s.Ok)(w:World):Calls Tryz.prog 85 #[.agg s.cells.toArray] w fun e w' =>
  (s.may∧∃g,e = .returned (.pointer (some ⟨g,0,none⟩))∧w.heap.size≤g∧ChR w' g (.new s)∧qq w w')∨(¬s.may∧e = .returned (.pointer none)∧qq w w'):=by
 go_enter Tryz.func85,Tryz.ntmps85
 go_upto_region 1 with fail
 have i:qgs (w.alloc (.cells s.cells.toArray 78)) w.heap.size s:=ql _ _
 have n0:qq w (w.alloc (.cells s.cells.toArray 78)):=(Upd.refl _ _).alloc _
 generalize w.alloc (.cells s.cells.toArray 78)=w1 at i n0 ⊢
 have z:=i.lt
 have v:=i.row m.seed
 have J:w1.cell? ⟨w.heap.size,1,none⟩=some (.int .u64 s.cap):=i.cell 1
 have K:w1.cell? ⟨w.heap.size,2,none⟩=some (.int .u64 s.ours):=i.cell 2
 have x:w1.cell? ⟨w.heap.size,35,none⟩=some (.string s.key):=(i.cell 35).trans (s.c35 m.seed)
 have y:w1.cell? ⟨w.heap.size,36,none⟩=some (.string s.peer):=(i.cell 36).trans (s.c36 m.seed)
 obtain⟨a0,E⟩:=m.cap
 obtain⟨H,I⟩:=m.ours
 have t:=q6s s m.seed (.int .u64 s.ours) (.int .u64 (s.cap-s.ours))
 rw[q0q] at t
 by_cases M:s.cap<1
 ·go_wp2;go_ret;exact .inr ⟨(fun h=>by have:=h.1;omega),rfl,n0⟩
 by_cases N:1125899906842624<s.cap
 ·go_wp2;go_ret;exact .inr ⟨(fun h=>by have:=h.2.1;omega),rfl,n0⟩
 by_cases O:s.cap<s.ours
 ·go_wp2;go_ret;exact .inr ⟨(fun h=>by have:=h.2.2.1;omega),rfl,n0⟩
 by_cases P:64<s.key.size
 ·have o:64<(s.key.size:Int):=by omega
  go_wp2;go_ret;exact .inr ⟨(fun h=>by have:=h.2.2.2.1;omega),rfl,n0⟩
 by_cases R:64<s.peer.size
 ·have o:¬64<(s.key.size:Int):=by omega
  have q:64<(s.peer.size:Int):=by omega
  go_wp2;go_ret;exact .inr ⟨(fun h=>by have:=h.2.2.2.2;omega),rfl,n0⟩
 ·have o:¬64<(s.key.size:Int):=by omega
  have q:¬64<(s.peer.size:Int):=by omega
  have T:IntKind.u64.wrap (s.cap-s.ours)=s.cap-s.ours:=by rw[IntKind.wrap_u64];omega
  go_wp2;go_ret;have C:s.may:=⟨by omega,by omega,by omega,by omega,by omega⟩;have D:qq w (w1.alloc (.cells (ChanV.new s).cells.toArray 126)):=n0.alloc _;exact .inl ⟨C,w1.heap.size,rfl,n0.size,⟨ql _ _,m.seed⟩,D⟩
end
section
open Go.RowKit
structure MsgV where
 kind:Int
 ch:Int
 id:Int
 amount:Int
 hash:List Int
 expiry:Int
 number:Int
def MsgV.cells(m:MsgV):List Value:= .int .i64 m.kind :: .int .u32 m.ch :: .int .u64 m.id :: .int .u64 m.amount::(m.hash.map (Value.int .u8)++[.int .i64 m.expiry,.int .i64 m.number])
theorem MsgV.len(m:MsgV)(h:m.hash.length=32):m.cells.length=38:=by simp[MsgV.cells,h]
theorem MsgV.one(m:MsgV):∀v∈m.cells,v.oneCell'=true:=by
 intro v i;simp only[MsgV.cells,List.mem_cons,List.mem_append,List.mem_map,List.not_mem_nil,or_false] at i;rcases i with rfl | rfl | rfl | rfl | ⟨n,_,rfl⟩ | rfl | rfl<;>rfl
def zm:List Int:=List.replicate 32 0
theorem qu:zm.length=32:=List.length_replicate
theorem Tryz.infoMsg:(Tryz.prog.info? 101).map (·.size)=some 38:=by kernel_rfl
def q8y(x:Value):Sem Value:=Instr.loadAt 101 x
theorem ze(x:Value):Instr.loadAt 101 x=q8y x:=rfl
theorem qau(b o:Nat)(w:World):(q8y (.pointer (some ⟨b,o,none⟩))).run Tryz.prog w=match zt w b o 38 with | some A=> .ok (.agg A) w | none=>qc3 Tryz.prog 101 w b o :=
 qag 101 38 _ Tryz.underlying101 rfl Tryz.infoMsg b o w
def q89(x v:Value):Sem Unit:=Instr.storeAt 101 x v
theorem zf(x v:Value):Instr.storeAt 101 x v=q89 x v:=rfl
theorem qav(b o:Nat)(A:Array Value)(w:World):(q89 (.pointer (some ⟨b,o,none⟩)) (.agg A)).run Tryz.prog w=if stOk w b o 38 A=true then .ok () (w.setCells b o A.toList) else qes Tryz.prog 101 w b o A :=
 qaz 101 38 Tryz.infoMsg b o A w
def MsgV.zero:MsgV:=⟨0,0,0,0,zm,0,0⟩
def q8l:Sem Value:=Instr.alloc 101 true (.tuple #[])
theorem zg:Instr.alloc 101 true (.tuple #[])=q8l:=rfl
theorem qaw(w:World):q8l.run Tryz.prog w = .ok (.pointer (some ⟨w.heap.size,0,none⟩)) (w.alloc (.cells MsgV.zero.cells.toArray 101)):=by kernel_rfl
def qhq(p:Array (Nat × Value)):Sem Value:=Instr.build 101 p
theorem zj(p:Array (Nat × Value)):Instr.build 101 p=qhq p:=rfl
theorem qrb(c n k:Int)(w:World):(qhq #[(0,.int .i64 9),(1,.int .u32 c),(6,.int .i64 n),(2,.int .u64 k)]).run Tryz.prog w = .ok (.agg (MsgV.cells ⟨9,c,k,0,zm,0,n⟩).toArray) w:=run_build w _ _ _ (by kernel_rfl)
theorem Tryz.infoBase:(Tryz.prog.info? 59).map (·.size)=some 2:=by kernel_rfl
theorem qe9{w:World}{b:Nat}{m:MsgV}{T:TypeId}(h:w.heap[b]? = some (.cells MsgV.zero.cells.toArray T (0,0)))(i:m.hash.length=32):(w.setCells b 0 m.cells).heap[b]? = some (.cells m.cells.toArray T (0,0)):=by
 rw[qax h 0 m.cells,qb5 _ _ (by rw[m.len i];rfl)]
theorem qfd{w:World}{b:Nat}{T:TypeId}(h:w.heap[b]? = some (.cells MsgV.zero.cells.toArray T (0,0))){m:MsgV}(i:m.hash.length=32):stOk w b 0 38 m.cells.toArray=true :=
 qdk (C:=MsgV.zero.cells.toArray) h (by rw[m.len i];rfl) m.one
attribute [local go_sem ↓ high] ze zf zj
attribute [local go_sem] qau qav qrb qy
def CountsV.told(k:CountsV):Int:=if k.awaits then k.signed-1 else k.signed
theorem qph(g:Nat)(c:ChanV)(w:World)(h:ChR w g c)(U:0≤c.k.signed∧c.k.signed<4294967296)(R:0≤c.k.heard∧c.k.heard<4294967296) :
  Calls Tryz.prog 73 #[.pointer (some ⟨g,0,none⟩)] w (qar (.agg (MsgV.cells ⟨9,c.setup.ch,IntKind.u64.wrap c.k.told,0,zm,0,c.k.heard+1⟩).toArray) w):=by
 go_enter Tryz.func73,Tryz.ntmps73
 go_upto_region 1 with fail
 have E:(w.alloc (.cells MsgV.zero.cells.toArray 101)).heap[w.heap.size]? = some (.cells MsgV.zero.cells.toArray 101 (0,0)):=ql _ _
 have n0:qq w (w.alloc (.cells MsgV.zero.cells.toArray 101)):=(Upd.refl _ _).alloc _
 change Code.wp _ _ _ _ (w.alloc (.cells MsgV.zero.cells.toArray 101))
 generalize w.alloc (.cells MsgV.zero.cells.toArray 101)=w1 at E n0 ⊢
 have y:=h.new n0
 have M:=h.lt
 have N:=y.ch
 have J:=y.signed
 have K:=y.heard
 have x:=y.awaits
 have O:IntKind.i64.wrap (c.k.heard+1)=c.k.heard+1:=qgq (by omega) (by omega)
 have P:IntKind.i64.wrap (c.k.signed-1)=c.k.signed-1:=qgq (by omega) (by omega)
 have z:stOk w1.drew w.heap.size 0 38 (MsgV.cells ⟨9,c.setup.ch,IntKind.u64.wrap c.k.told,0,zm,0,c.k.heard+1⟩).toArray=true:=qfd (m:=⟨9,c.setup.ch,IntKind.u64.wrap c.k.told,0,zm,0,c.k.heard+1⟩) E qu
 have o:=qe9 (w:=w1.drew) (m:=⟨9,c.setup.ch,IntKind.u64.wrap c.k.told,0,zm,0,c.k.heard+1⟩) E qu
 have v:qq w (w1.drew.setCells w.heap.size 0 (MsgV.cells ⟨9,c.setup.ch,IntKind.u64.wrap c.k.told,0,zm,0,c.k.heard+1⟩)):=n0.drew.then ((Upd.refl (· = w.heap.size) w1.drew).setCells 0 _) (fun i T e=>by omega)
 have C:=qj o
 have D:=qj v
 have q:c.k.told=if c.k.awaits=true then c.k.signed-1 else c.k.signed:=rfl
 clear h y E n0 o v
 cases I:c.k.awaits with
 | true =>
  rw[I] at x q;rw[if_pos rfl] at q;rw[q] at z C D;generalize c.k.told=t at *
  subst q;go_wp2_with ((with_reducible first|rfl|refine' ut ?_ ?_;rotate_left|refine' uu ?_)<;>intros);refine bodyPost_ret (results_cell_row rfl _ _ w.heap.size _ _ _ _ rfl (qg C) Tryz.underlying101 rfl (by rw[List.size_toArray,MsgV.len _ qu];exact Tryz.infoMsg)) rfl ?_;exact⟨rfl,qg D⟩
 | false =>
  rw[I] at x q;rw[if_neg (by decide)] at q;have H:IntKind.u64.wrap c.k.signed=c.k.signed:=qdl (by omega) (by omega);rw[q,H] at z C D;generalize c.k.told=t at *
  subst q;go_wp2_with ((with_reducible first|rfl|refine' ut ?_ ?_;rotate_left|refine' uu ?_)<;>intros);refine bodyPost_ret (results_cell_row rfl _ _ w.heap.size _ _ _ _ rfl (qg C) Tryz.underlying101 rfl (by rw[List.size_toArray,MsgV.len _ qu];exact Tryz.infoMsg)) rfl ?_;exact⟨by rw[H],qg D⟩
theorem qmy(g:Nat)(c:ChanV)(w:World)(h:ChR w g c) :
  Calls Tryz.prog 23 #[.pointer (some ⟨g,0,none⟩)] w (qar (.agg #[.int .u64 c.loc,.int .u64 c.rem]) w):=by
 go_enter Tryz.func23,Tryz.ntmps23
 have n0:qq w (w.alloc (.cells #[.int .u64 0,.int .u64 0] 59)):=(Upd.refl _ _).alloc _
 have m:(w.alloc (.cells #[.int .u64 0,.int .u64 0] 59)).heap[w.heap.size]? = some (.cells #[.int .u64 0,.int .u64 0] 59 (0,0)):=ql _ _
 go_upto_region 1 with fail
 have o:=h.new n0
 generalize w.alloc (.cells #[.int .u64 0,.int .u64 0] 59)=w1 at m n0 o ⊢
 have y:=o.loc
 have z:=o.rem
 have C:=qk m 0
 have D:=qk m 1
 have z0:=qo m 0
 have H:=qo m 1
 simp at C D
 have q:((w1.setCell ⟨w.heap.size,0,none⟩ (.int .u64 c.loc)).setCell ⟨w.heap.size,1,none⟩ (.int .u64 c.rem)).heap[w.heap.size]? = some (.cells #[.int .u64 c.loc,.int .u64 c.rem] 59 (0,0)):=zq (zq m 0 _) 1 _
 have t:qq w ((w1.setCell ⟨w.heap.size,0,none⟩ (.int .u64 c.loc)).setCell ⟨w.heap.size,1,none⟩ (.int .u64 c.rem)):=n0.then (((Upd.refl (· = w.heap.size) w1).set1 0 _).set1 1 _) (fun i E e=>by omega)
 have v:=qj q
 have x:=qj t
 clear h o m n0 q t
 go_wp2_with ((with_reducible first|rfl|refine' ut ?_ ?_;rotate_left|refine' uu ?_)<;>intros)
 refine bodyPost_ret (results_cell_row rfl _ _ w.heap.size _ _ _ _ rfl (qg v) Tryz.underlying59 rfl Tryz.infoBase) rfl ?_
 exact⟨rfl,qg x⟩
structure ChI(w:World)(g:Nat)(c:ChanV)(xs:List Live):Prop extends ChR w g c where
 row:w.ownsRow 0 69 38 c.live xs.length (xs.flatMap qm)
theorem ChI.new{w w':World}{g:Nat}{c:ChanV}{xs:List Live}(h:ChI w g c xs)(u:qq w w'):ChI w' g c xs:=⟨h.toChR.new u,qcg h.row u⟩
theorem ChI.lives{w:World}{g:Nat}{c:ChanV}{xs:List Live}(h:ChI w g c xs):qf0 w c.live xs:=by
 rcases (qc0 h.row).2 with ⟨e,e0⟩ | ⟨g,cap,e,-,i⟩
 ·exact .inl ⟨none,0,e,e0⟩
 ·exact .inr ⟨g,0,cap,e,i.toL⟩
theorem ChI.shape{w:World}{g:Nat}{c:ChanV}{xs:List Live}(h:ChI w g c xs):∃a cap,c.live = .slice a xs.length cap:=by
 rcases (qc0 h.row).2 with ⟨e,e0⟩ | ⟨g,cap,e,-⟩
 ·exact⟨none,0,by rw[e,e0];rfl⟩
 ·exact⟨_,cap,e⟩
theorem qt6(g:Nat)(c:ChanV)(xs:List Live)(x:xs.length≤1048576)(w:World)(h:ChI w g c xs) :
  Calls Tryz.prog 20 #[.pointer (some ⟨g,0,none⟩)] w fun e w'=>∃u,e = .returned u∧qq w w'∧((∃a k,u = .slice a 0 k∧xs=[])∨∃m cap,u = .slice (some ⟨m,0,none⟩) xs.length cap∧w.heap.size≤m∧qdf w' m 0 xs):=by
 go_enter Tryz.func20,Tryz.ntmps20
 have i:=h.toChR.live
 have q:=h.lives
 obtain⟨a,cap,o⟩:=h.shape
 rw[o] at i q
 clear h
 go_wp2_with ((with_reducible first|rfl|refine' ut ?_ ?_;rotate_left|refine' uu ?_)<;>intros)
 refine(qpl _ xs x _ q).mono ?_
 rintro e w' ⟨u,rfl,n,t⟩
 have v:=qj t
 clear t i q
 go_wp2_with ((with_reducible first|rfl|refine' ut ?_ ?_;rotate_left|refine' uu ?_)<;>intros)
 go_ret
 exact⟨u,rfl,n,qg v⟩
end
end Go.Proofs.YtfmkdoachjgjbaaGreatDoor
