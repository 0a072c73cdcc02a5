/-
  Messages as rows of cells.
-/
import Derived.Test.YthnohmjbbeahmaaGreatDoorProg
import Derived.Test.YthnohmjbbeahmaaGreatDoorMaa
import Derived.Test.YthnohmjbbeahmaaGreatDoorTxt
import Derived.Deep.Onto
import Derived.Maps.AppendAt
import Derived.Deep.AppendLies
set_option linter.unusedVariables false
set_option linter.unusedSimpArgs false
namespace Go.Proofs.YthnohmjbbeahmaaGreatDoor
open Go.RowKit
structure MsgV where
 kind:Int
 ch:Int
 id:Int
 amount:Int
 hash:List Int
 expiry:Int
 number:Int
def MsgV.cells(m:MsgV):List Value:= .int .i64 m.kind :: .int .u32 m.ch :: .int .u64 m.id :: .int .u64 m.amount::(m.hash.map (Value.int .u8)++[.int .i64 m.expiry,.int .i64 m.number])
theorem MsgV.len(m:MsgV)(h:m.hash.length=32):m.cells.length=38:=by simp[MsgV.cells,h]
theorem MsgV.one(m:MsgV):∀v∈m.cells,v.oneCell'=true:=by
 intro v hv;simp only[MsgV.cells,List.mem_cons,List.mem_append,List.mem_map,List.not_mem_nil,or_false] at hv;rcases hv with rfl | rfl | rfl | rfl | ⟨n,_,rfl⟩ | rfl | rfl<;>rfl
def zv:List Int:=List.replicate 32 0
theorem qs:zv.length=32:=List.length_replicate
theorem Tryz.infoMsg:(Tryz.prog.info? 71).map (·.size)=some 38:=by kernel_rfl
def zfi(x:Value):Sem Value:=Instr.loadAt 71 x
theorem zr(x:Value):Instr.loadAt 71 x=zfi x:=rfl
theorem qb3(b o:Nat)(w:World):(zfi (.pointer (some ⟨b,o,none⟩))).run Tryz.prog w=match zm w b o 38 with | some A=> .ok (.agg A) w | none=>qek Tryz.prog 71 w b o :=
 qae 71 38 _ Tryz.underlying71 rfl Tryz.infoMsg b o w
def zfu(x v:Value):Sem Unit:=Instr.storeAt 71 x v
theorem zu(x v:Value):Instr.storeAt 71 x v=zfu x v:=rfl
theorem qb9(b o:Nat)(A:Array Value)(w:World):(zfu (.pointer (some ⟨b,o,none⟩)) (.agg A)).run Tryz.prog w=if stOk w b o 38 A=true then .ok () (w.setCells b o A.toList) else qf2 Tryz.prog 71 w b o A :=
 qax 71 38 Tryz.infoMsg b o A w
def MsgV.zero:MsgV:=⟨0,0,0,0,zv,0,0⟩
def ze9:Sem Value:=Instr.alloc 71 true (.tuple #[])
theorem zw:Instr.alloc 71 true (.tuple #[])=ze9:=rfl
theorem qcf(w:World):ze9.run Tryz.prog w = .ok (.pointer (some ⟨w.heap.size,0,none⟩)) (w.alloc (.cells MsgV.zero.cells.toArray 71)):=by kernel_rfl
def qkt(p:Array (Nat × Value)):Sem Value:=Instr.build 71 p
theorem zx(p:Array (Nat × Value)):Instr.build 71 p=qkt p:=rfl
theorem qvq(c n k:Int)(w:World):(qkt #[(0,.int .i64 9),(1,.int .u32 c),(6,.int .i64 n),(2,.int .u64 k)]).run Tryz.prog w = .ok (.agg (MsgV.cells ⟨9,c,k,0,zv,0,n⟩).toArray) w:=run_build w _ _ _ (by kernel_rfl)
theorem Tryz.infoBase:(Tryz.prog.info? 42).map (·.size)=some 2:=by kernel_rfl
theorem qk5{w:World}{b:Nat}{m:MsgV}{T:TypeId}(h:w.heap[b]? = some (.cells MsgV.zero.cells.toArray T (0,0)))(g:m.hash.length=32):(w.setCells b 0 m.cells).heap[b]? = some (.cells m.cells.toArray T (0,0)):=by
 rw[qa2 h 0 m.cells,qcz _ _ (by rw[m.len g];rfl)]
theorem qlm{w:World}{b:Nat}{T:TypeId}(h:w.heap[b]? = some (.cells MsgV.zero.cells.toArray T (0,0))){m:MsgV}(g:m.hash.length=32):stOk w b 0 38 m.cells.toArray=true :=
 qfb (C:=MsgV.zero.cells.toArray) h (by rw[m.len g];rfl) m.one
attribute [local go_sem ↓ high] zr zu zx
attribute [local go_sem] qb3 qb9 qvq zb
def CountsV.told(k:CountsV):Int:=if k.awaits then k.signed-1 else k.signed
set_option maxRecDepth 100000 in
set_option maxHeartbeats 1000000 in
theorem q44(g:Nat)(c:ChanV)(w:World)(h:ChR w g c)(U:0≤c.k.signed∧c.k.signed<4294967296)(R:0≤c.k.heard∧c.k.heard<4294967296) :
  Calls Tryz.prog 40 #[.pointer (some ⟨g,0,none⟩)] w (qbr (.agg (MsgV.cells ⟨9,c.setup.ch,IntKind.u64.wrap c.k.told,0,zv,0,c.k.heard+1⟩).toArray) w):=by
 go_enter Tryz.func40,Tryz.ntmps40
 go_upto_region 1 with fail
 have F:(w.alloc (.cells MsgV.zero.cells.toArray 71)).heap[w.heap.size]? = some (.cells MsgV.zero.cells.toArray 71 (0,0)):=qi _ _
 have H:qu w (w.alloc (.cells MsgV.zero.cells.toArray 71)):=(Upd.refl _ _).alloc _
 change Code.wp _ _ _ _ (w.alloc (.cells MsgV.zero.cells.toArray 71))
 generalize w.alloc (.cells MsgV.zero.cells.toArray 71)=w1 at F H ⊢
 have z:=h.new H
 have M:=h.lt
 have N:=z.ch
 have K:=z.signed
 have L:=z.heard
 have v:=z.awaits
 have O:IntKind.i64.wrap (c.k.heard+1)=c.k.heard+1:=qkj (by omega) (by omega)
 have P:IntKind.i64.wrap (c.k.signed-1)=c.k.signed-1:=qkj (by omega) (by omega)
 have C:stOk w1.drew w.heap.size 0 38 (MsgV.cells ⟨9,c.setup.ch,IntKind.u64.wrap c.k.told,0,zv,0,c.k.heard+1⟩).toArray=true:=qlm (m:=⟨9,c.setup.ch,IntKind.u64.wrap c.k.told,0,zv,0,c.k.heard+1⟩) F qs
 have l:=qk5 (w:=w1.drew) (m:=⟨9,c.setup.ch,IntKind.u64.wrap c.k.told,0,zv,0,c.k.heard+1⟩) F qs
 have q:qu w (w1.drew.setCells w.heap.size 0 (MsgV.cells ⟨9,c.setup.ch,IntKind.u64.wrap c.k.told,0,zv,0,c.k.heard+1⟩)):=H.drew.then ((Upd.refl (· = w.heap.size) w1.drew).setCells 0 _) (fun i T e=>by omega)
 have D:=qb l
 have E:=qb q
 have o:c.k.told=if c.k.awaits=true then c.k.signed-1 else c.k.signed:=rfl
 clear h z F H l q
 cases J:c.k.awaits with
 | true =>
  rw[J] at v o;rw[if_pos rfl] at o;rw[o] at C D E;generalize c.k.told=t at *
  subst o;go_wp2_with (with_reducible first|(first|refine' tw1 (qg ?_) ?_|refine' tw2 (qg ?_) ?_);rotate_left|refine' tw3 (qg ?_)|rfl|apply tn|refine' tw4 ?_);refine bodyPost_ret (results_cell_row rfl _ _ w.heap.size _ _ _ _ rfl (qa D) Tryz.underlying71 rfl (by rw[List.size_toArray,MsgV.len _ qs];exact Tryz.infoMsg)) rfl ?_;exact⟨rfl,qa E⟩
 | false =>
  rw[J] at v o;rw[if_neg (by decide)] at o;have I:IntKind.u64.wrap c.k.signed=c.k.signed:=qaw (by omega) (by omega);rw[o,I] at C D E;generalize c.k.told=t at *
  subst o;go_wp2_with (with_reducible first|(first|refine' tw1 (qg ?_) ?_|refine' tw2 (qg ?_) ?_);rotate_left|refine' tw3 (qg ?_)|rfl|apply tn|refine' tw4 ?_);refine bodyPost_ret (results_cell_row rfl _ _ w.heap.size _ _ _ _ rfl (qa D) Tryz.underlying71 rfl (by rw[List.size_toArray,MsgV.len _ qs];exact Tryz.infoMsg)) rfl ?_;exact⟨by rw[I],qa E⟩
set_option maxHeartbeats 1000000 in
theorem q8s(g:Nat)(c:ChanV)(w:World)(h:ChR w g c) :
  Calls Tryz.prog 19 #[.pointer (some ⟨g,0,none⟩)] w (qbr (.agg #[.int .u64 c.loc,.int .u64 c.rem]) w):=by
 go_enter Tryz.func19,Tryz.ntmps19
 have o:qu w (w.alloc (.cells #[.int .u64 0,.int .u64 0] 42)):=(Upd.refl _ _).alloc _
 have l:(w.alloc (.cells #[.int .u64 0,.int .u64 0] 42)).heap[w.heap.size]? = some (.cells #[.int .u64 0,.int .u64 0] 42 (0,0)):=qi _ _
 go_upto_region 1 with fail
 have m:=h.new o
 generalize w.alloc (.cells #[.int .u64 0,.int .u64 0] 42)=w1 at l o m ⊢
 have C:=m.loc
 have D:=m.rem
 have E:=qh l 0
 have F:=qh l 1
 have I:=qv l 0
 have J:=qv l 1
 simp at E F
 have q:((w1.setCell ⟨w.heap.size,0,none⟩ (.int .u64 c.loc)).setCell ⟨w.heap.size,1,none⟩ (.int .u64 c.rem)).heap[w.heap.size]? = some (.cells #[.int .u64 c.loc,.int .u64 c.rem] 42 (0,0)):=z7 (z7 l 0 _) 1 _
 have t:qu w ((w1.setCell ⟨w.heap.size,0,none⟩ (.int .u64 c.loc)).setCell ⟨w.heap.size,1,none⟩ (.int .u64 c.rem)):=o.then (((Upd.refl (· = w.heap.size) w1).set1 0 _).set1 1 _) (fun i H e=>by omega)
 have v:=qb q
 have z:=qb t
 clear h m l o q t
 go_wp2_with (with_reducible first|(first|refine' tw1 (qg ?_) ?_|refine' tw2 (qg ?_) ?_);rotate_left|refine' tw3 (qg ?_)|rfl|apply tn|refine' tw4 ?_)
 refine bodyPost_ret (results_cell_row rfl _ _ w.heap.size _ _ _ _ rfl (qa v) Tryz.underlying42 rfl Tryz.infoBase) rfl ?_
 exact⟨rfl,qa z⟩
structure ChI(w:World)(g:Nat)(c:ChanV)(xs:List Live):Prop extends ChR w g c where
 row:w.ownsRow 0 56 38 c.live xs.length (xs.flatMap ql)
theorem ChI.new{w w':World}{g:Nat}{c:ChanV}{xs:List Live}(h:ChI w g c xs)(u:qu w w'):ChI w' g c xs:=⟨h.toChR.new u,qzu h.row u⟩
theorem ChI.lives{w:World}{g:Nat}{c:ChanV}{xs:List Live}(h:ChI w g c xs):qio w c.live xs:=by
 rcases (qdo h.row).2 with ⟨e,e0⟩ | ⟨g,cap,e,-,i⟩
 ·exact .inl ⟨none,0,e,e0⟩
 ·exact .inr ⟨g,0,cap,e,i.toL⟩
theorem ChI.shape{w:World}{g:Nat}{c:ChanV}{xs:List Live}(h:ChI w g c xs):∃a cap,c.live = .slice a xs.length cap:=by
 rcases (qdo h.row).2 with ⟨e,e0⟩ | ⟨g,cap,e,-⟩
 ·exact⟨none,0,by rw[e,e0];rfl⟩
 ·exact⟨_,cap,e⟩
end Go.Proofs.YthnohmjbbeahmaaGreatDoor
namespace Go.Proofs.YthnohmjbbeahmaaGreatDoor
open Go.RowKit
theorem zc{S:Nat→Prop}{w w':World}{base:Nat}{e:TypeId}{size:Nat}{v:Value}{n:Nat}{xs:List Value}(h:w.ownsRow base e size v n xs)(u:Upd S w w')(o:∀k,v.ownBlock=some k→¬S k):w'.ownsRow base e size v n xs:=by
 refine⟨h.1,?_⟩;rcases h.2 with h | ⟨g,cap,i,l,m,q,r⟩
 ·exact .inl h
 ·exact .inr ⟨g,cap,i,l,m,u.old q (o g (by rw[l];rfl)),r⟩
theorem qai{w:World}{base:Nat}{e:TypeId}{size:Nat}{v:Value}{n:Nat}{xs:List Value}(h:w.ownsRow base e size v n xs):∀k,v.ownBlock=some k→∃i,w.heap[k]? = some (.cells i e (0,0)):=by
 intro k l;rcases h.2 with ⟨rfl,_⟩ | ⟨g,cap,i,rfl,o,m,_⟩
 ·simp[Value.ownBlock] at l
 ·simp[Value.ownBlock] at l;exact⟨i,l▸m⟩
theorem qao{w:World}{k j:Nat}{c d:Array Value}{T U:TypeId}{x y:Nat × Nat}(h:w.heap[k]? = some (.cells c T x))(g:w.heap[j]? = some (.cells d U y))(n:T≠U):k≠j:=by
 rintro rfl;rw[h] at g;injection g with g;injection g with _ g;exact n g
theorem qap{w:World}{base:Nat}{e:TypeId}{size:Nat}{v:Value}{n:Nat}{xs:List Value}(h:w.ownsRow base e size v n xs):∃a cap,v = .slice a n cap:=by
 rcases h.2 with ⟨e,e0⟩ | ⟨g,cap,i,e,_⟩
 ·exact⟨none,0,by rw[e,e0]⟩
 ·exact⟨_,cap,e⟩
theorem qq{P:Program}{l:Func}{p u:Tmp}{i:TypeId}(h:l.results=#[.cell p i,.tmp u])(tmps:Array Value)(w:World)(g:Nat)(t:TypeId)(cs:Array Value)(fr:Nat × Nat)(d:TypeDesc)
  (q:tmps.getD p undef = .pointer (some ⟨g,0,none⟩)) (m:w.heap[g]? = some (.cells cs t fr))
  (v:P.underlying i=some d) (hd:(match d with | .struct _ | .array _ _=>true | _=>false)=true) (o:(P.info? i).map (·.size)=some cs.size) :
  (results l tmps).run P w = .ok (.tuple #[.agg cs,tmps.getD u undef]) w:=by
 rw[results_cell_tmp h,q]
 simp[asAddr,run_loadVar_row w g t i cs fr d m v hd o,Result.andThen]
structure Ch where
 s:SetupV
 k:CountsV
 loc:Int
 rem:Int
 xs:List Live
 shelf:List KeptV
 news:List MsgV
 last:List MsgV
def Ch.v(c:Ch)(lv nv av:Value):ChanV:=⟨c.s,c.k,c.loc,c.rem,lv,c.shelf,nv,av⟩
def qvl(w:World)(v:Value)(xs:List Live):Prop:=w.ownsRow 0 56 38 v xs.length (xs.flatMap ql)
def q3r(w:World)(v:Value)(ms:List MsgV):Prop:=w.ownsRow 0 71 38 v ms.length (ms.flatMap MsgV.cells)
def q8i(ms:List MsgV):Prop:=∀m∈ms,m.hash.length=32
structure Ch.Ok(c:Ch):Prop where
 s:c.s.Ok
 signed:0≤c.k.signed∧c.k.signed≤65535
 heard:0≤c.k.heard∧c.k.heard<4294967296
 nextOwn:0≤c.k.nextOwn∧c.k.nextOwn<18446744073709551616
 nextTheirs:0≤c.k.nextTheirs∧c.k.nextTheirs<18446744073709551616
 loc:0≤c.loc∧c.loc<18446744073709551616
 rem:0≤c.rem∧c.rem<18446744073709551616
 xs:∀x∈c.xs,LiveOk x
 few:c.xs.length≤1000000
 shelf:c.shelf.length=17∧∀p∈c.shelf,p.told.length=32
 news:q8i c.news
 last:q8i c.last
 many:c.news.length≤1000000∧c.last.length≤1000000
structure ChP(w:World)(g:Nat)(S:Nat→Prop)(c:Ch)(lv nv av:Value):Prop where
 at_:w.heap[g]? = some (.cells (c.v lv nv av).cells.toArray 106 (0,0))
 ok:c.Ok
 live:qvl w lv c.xs
 news:q3r w nv c.news
 last:q3r w av c.last
 inG:S g
 inL:∀k,lv.ownBlock=some k→S k
 inN:∀k,nv.ownBlock=some k→S k
 inA:∀k,av.ownBlock=some k→S k
 sep:∀k,nv.ownBlock=some k→av.ownBlock≠some k
 lt:∀k,S k→k<w.heap.size
def ChS(w:World)(g:Nat)(S:Nat→Prop)(c:Ch):Prop:=∃lv nv av,ChP w g S c lv nv av
def Fr(S:Nat→Prop)(w w':World)(k:Nat):Prop:=S k∨(w.heap.size≤k∧k<w'.heap.size)
section
variable {w w':World}{g:Nat}{S T:Nat→Prop}{c:Ch}{lv nv av:Value}
theorem ChP.upd(h:ChP w g S c lv nv av)(u:Upd T w w')(hd:∀k,S k→¬T k):ChP w' g S c lv nv av :=
 ⟨u.old h.at_ (hd g h.inG),h.ok,zc h.live u (fun k i=>hd k (h.inL k i)),zc h.news u (fun k i=>hd k (h.inN k i)),zc h.last u (fun k i=>hd k (h.inA k i)),h.inG,h.inL,h.inN,h.inA,h.sep,fun k i=>Nat.lt_of_lt_of_le (h.lt k i) u.size⟩
theorem ChP.new(h:ChP w g S c lv nv av)(u:qu w w'):ChP w' g S c lv nv av:=h.upd u (fun _ _ h=>h)
theorem ChP.wider(h:ChP w g S c lv nv av)(i:∀k,S k→T k)(l:∀k,T k→k<w.heap.size):ChP w g T c lv nv av :=
 ⟨h.at_,h.ok,h.live,h.news,h.last,i g h.inG,fun k e=>i k (h.inL k e),fun k e=>i k (h.inN k e),fun k e=>i k (h.inA k e),h.sep,l⟩
theorem ChP.fr(h:ChP w' g S c lv nv av)(w:World):ChS w' g (Fr S w w') c:=⟨_,_,_,h.wider (fun k i=> .inl i) (fun k i=>i.elim (h.lt k) (fun e=>e.2))⟩
theorem ChS.upd(h:ChS w g S c)(u:Upd T w w')(hd:∀k,S k→¬T k):ChS w' g S c:=by
 obtain⟨a,b,d,h⟩:=h;exact⟨a,b,d,h.upd u hd⟩
theorem ChS.new(h:ChS w g S c)(u:qu w w'):ChS w' g S c:=h.upd u (fun _ _ h=>h)
theorem ChS.lt(h:ChS w g S c):∀k,S k→k<w.heap.size:=by
 obtain⟨a,b,d,h⟩:=h;exact h.lt
theorem ChP.toR(h:ChP w g S c lv nv av):ChR w g (c.v lv nv av):=⟨h.at_,h.ok.s.seed⟩
theorem ChP.toI(h:ChP w g S c lv nv av):ChI w g (c.v lv nv av) c.xs:=⟨h.toR,h.live⟩
end
theorem ChP.put{w:World}{g:Nat}{S:Nat→Prop}{c c':Ch}{lv nv av:Value}(h:ChP w g S c lv nv av){i:Nat}{x:Value}(z:(c.v lv nv av).cells.toArray.setIfInBounds i x=(c'.v lv nv av).cells.toArray)(l:c'.Ok)(F:c'.xs=c.xs)(D:c'.news=c.news)(C:c'.last=c.last):ChP (w.setCell ⟨g,i,none⟩ x) g S c' lv nv av:=by
 have u:Upd (· = g) w (w.setCell ⟨g,i,none⟩ x):=(Upd.refl _ _).set1 i x;have m:∀ {T:TypeId} {v:Value} {n:Nat} {xs:List Value},T≠106→w.ownsRow 0 T 38 v n xs→∀k,v.ownBlock=some k→¬k=g:=by
  intro T v n xs q E k l e;obtain⟨o,t⟩:=qai E k l;exact qao t h.at_ q e
 refine⟨?_,l,?_,?_,?_,h.inG,h.inL,h.inN,h.inA,h.sep,fun k l=>Nat.lt_of_lt_of_le (h.lt k l) u.size⟩
 ·have:=z7 h.at_ i x;rw[z] at this;exact this
 ·rw[F];exact zc h.live u (m (by decide) h.live)
 ·rw[D];exact zc h.news u (m (by decide) h.news)
 ·rw[C];exact zc h.last u (m (by decide) h.last)
theorem qbi(v:ChanV)(h:v.setup.seed.length=32)(i:Nat)(x:Value):v.cells.toArray.setIfInBounds (37+i) x=(v.setup.cells++(v.k.cells++v.rest).set i x).toArray:=by
 unfold ChanV.cells;rw[List.setIfInBounds_toArray,List.set_append_right _ _ (by rw[v.setup.len h];omega),v.setup.len h,Nat.add_sub_cancel_left]
theorem qjb(l:List KeptV)(h:∀p∈l,p.told.length=32):(l.flatMap KeptV.cells).length=l.length*34:=by
 induction l with
 | nil=>rfl
 | cons x l m =>
  rw[List.flatMap_cons,List.length_append,m (fun p i=>h p (List.mem_cons_of_mem _ i)),List.length_cons];have:=h x (List.mem_cons_self ..);simp[KeptV.cells,this];omega
section
variable (c:Ch)(lv nv av:Value)(h:c.s.seed.length=32)
include h
theorem q3c(n:Int):(c.v lv nv av).cells.toArray.setIfInBounds 37 (.int .i64 n)=(({c with k:= {c.k with signed:=n}} : Ch).v lv nv av).cells.toArray:=qbi (c.v lv nv av) h 0 _
theorem q7u(n:Int):(c.v lv nv av).cells.toArray.setIfInBounds 38 (.int .i64 n)=(({c with k:= {c.k with heard:=n}} : Ch).v lv nv av).cells.toArray:=qbi (c.v lv nv av) h 1 _
theorem q29(b:Bool):(c.v lv nv av).cells.toArray.setIfInBounds 39 (.bool b)=(({c with k:= {c.k with awaits:=b}} : Ch).v lv nv av).cells.toArray:=qbi (c.v lv nv av) h 2 _
theorem qpu(n:Int):(c.v lv nv av).cells.toArray.setIfInBounds 40 (.int .u64 n)=(({c with k:= {c.k with nextOwn:=n}} : Ch).v lv nv av).cells.toArray:=qbi (c.v lv nv av) h 3 _
theorem qli(n:Int):(c.v lv nv av).cells.toArray.setIfInBounds 41 (.int .u64 n)=(({c with k:= {c.k with nextTheirs:=n}} : Ch).v lv nv av).cells.toArray:=qbi (c.v lv nv av) h 4 _
theorem qto(b:Bool):(c.v lv nv av).cells.toArray.setIfInBounds 43 (.bool b)=(({c with k:= {c.k with shutHeard:=b}} : Ch).v lv nv av).cells.toArray:=qbi (c.v lv nv av) h 6 _
theorem q0b(b:Bool):(c.v lv nv av).cells.toArray.setIfInBounds 44 (.bool b)=(({c with k:= {c.k with revoked:=b}} : Ch).v lv nv av).cells.toArray:=qbi (c.v lv nv av) h 7 _
theorem q4v(n:Int):(c.v lv nv av).cells.toArray.setIfInBounds 45 (.int .u64 n)=(({c with loc:=n} : Ch).v lv nv av).cells.toArray:=qbi (c.v lv nv av) h 8 _
theorem q4w(n:Int):(c.v lv nv av).cells.toArray.setIfInBounds 46 (.int .u64 n)=(({c with rem:=n} : Ch).v lv nv av).cells.toArray:=qbi (c.v lv nv av) h 9 _
theorem q0a(xs:List Live)(v:Value):(c.v lv nv av).cells.toArray.setIfInBounds 47 v=(({c with xs:=xs} : Ch).v v nv av).cells.toArray:=qbi (c.v lv nv av) h 10 _
theorem qsv(m:c.shelf.length=17∧∀p∈c.shelf,p.told.length=32)(ms:List MsgV)(v:Value):(c.v lv nv av).cells.toArray.setIfInBounds 626 v=(({c with news:=ms} : Ch).v lv v av).cells.toArray:=by
 have e:=qbi (c.v lv nv av) h 589 v;rw[show 37+589=626 from rfl] at e;rw[e];have o:(c.v lv nv av).told.length=578:=by show (c.shelf.flatMap KeptV.cells).length=578;rw[qjb _ m.2,m.1]
 have i:((c.v lv nv av).k.cells++(c.v lv nv av).rest).set 589 v=c.k.cells++(({c with news:=ms} : Ch).v lv v av).rest:=by
  unfold ChanV.rest;have l:(c.v lv nv av).k.cells.length=8:=rfl;rw[List.set_append_right _ _ (by rw[l];omega),l];show c.k.cells++(Value.int .u64 c.loc::Value.int .u64 c.rem::lv::((c.v lv nv av).told++[nv,av])).set 581 v=_;rw[List.set_cons_succ,List.set_cons_succ,List.set_cons_succ,List.set_append_right _ _ (by rw[o];omega),o];rfl
 rw[i];rfl
theorem zb0(m:c.shelf.length=17∧∀p∈c.shelf,p.told.length=32)(ms:List MsgV)(v:Value):(c.v lv nv av).cells.toArray.setIfInBounds 627 v=(({c with last:=ms} : Ch).v lv nv v).cells.toArray:=by
 have e:=qbi (c.v lv nv av) h 590 v;rw[show 37+590=627 from rfl] at e;rw[e];have o:(c.v lv nv av).told.length=578:=by show (c.shelf.flatMap KeptV.cells).length=578;rw[qjb _ m.2,m.1]
 have i:((c.v lv nv av).k.cells++(c.v lv nv av).rest).set 590 v=c.k.cells++(({c with last:=ms} : Ch).v lv nv v).rest:=by
  unfold ChanV.rest;have l:(c.v lv nv av).k.cells.length=8:=rfl;rw[List.set_append_right _ _ (by rw[l];omega),l];show c.k.cells++(Value.int .u64 c.loc::Value.int .u64 c.rem::lv::((c.v lv nv av).told++[nv,av])).set 582 v=_;rw[List.set_cons_succ,List.set_cons_succ,List.set_cons_succ,List.set_append_right _ _ (by rw[o];omega),o];rfl
 rw[i];rfl
theorem qrg(l:c.shelf.length=17∧∀p∈c.shelf,p.told.length=32):(c.v lv nv av).cells.toArray[626]? = some nv:=by
 rw[List.getElem?_toArray,show 626=37+589 from rfl,qoi _ h];have m:(c.v lv nv av).told.length=578:=by show (c.shelf.flatMap KeptV.cells).length=578;rw[qjb _ l.2,l.1]
 unfold ChanV.rest;have i:(c.v lv nv av).k.cells.length=8:=rfl;rw[List.getElem?_append_right (by rw[i];omega),i];show (Value.int .u64 c.loc::Value.int .u64 c.rem::lv::((c.v lv nv av).told++[nv,av]))[581]? = _;rw[List.getElem?_cons_succ,List.getElem?_cons_succ,List.getElem?_cons_succ,List.getElem?_append_right (by rw[m];omega),m];rfl
theorem qrf(l:c.shelf.length=17∧∀p∈c.shelf,p.told.length=32):(c.v lv nv av).cells.toArray[627]? = some av:=by
 rw[List.getElem?_toArray,show 627=37+590 from rfl,qoi _ h];have m:(c.v lv nv av).told.length=578:=by show (c.shelf.flatMap KeptV.cells).length=578;rw[qjb _ l.2,l.1]
 unfold ChanV.rest;have i:(c.v lv nv av).k.cells.length=8:=rfl;rw[List.getElem?_append_right (by rw[i];omega),i];show (Value.int .u64 c.loc::Value.int .u64 c.rem::lv::((c.v lv nv av).told++[nv,av]))[582]? = _;rw[List.getElem?_cons_succ,List.getElem?_cons_succ,List.getElem?_cons_succ,List.getElem?_append_right (by rw[m];omega),m];rfl
end
theorem qcw{g:Nat→Option (Nat × Nat)}{i off:Nat}{v z:Value}{P R:List Value}{cs:Array Value}(o:g i=some (off,1))(m:P.length=off)(hv:v.cells=#[v])(l:cs=(P++(z::R)).toArray)(rest:List (Nat × Value)) :
  Instr.fill g cs ((i,v)::rest)=Instr.fill g (P++(v::R)).toArray rest:=by
 subst l m
 rw[Instr.fill,o]
 simp[hv]
theorem q23{P:Program}{C T:TypeId}{n:Nat}{Z:List Value}(H:P.underlying C=some (.slice T))(I:((P.info? T).map fun i=>i.zero.map fun z=>z.cells.toList)=some (some Z))(v:(P.info? T).map (·.size)=some n)(K:Z.length=n)(J:n≠0)(D:n≤1000)
  (A:List Value) (h:A.length=n) (w:World):(Instr.buildSlice C 1 #[(0,.agg A.toArray)]).run P w = .ok (.slice (some ⟨w.heap.size,0,none⟩) 1 1) (w.alloc (.cells A.toArray T)):=by
 obtain⟨i,z,t,o,F⟩:=qec I
 have g:i.size=n:=by rw[t] at v;simpa using v
 refine run_buildSlice w _ _ 1 _ _ i z H t o (by rw[g];first | omega | (simp;omega)) (by rw[g];first | omega | (simp;omega)) ?_
 rw[g,F]
 generalize E:Array.map _ _=W
 have l:W.toList.length=A.length:=by rw[←E,h];simp
 have q:=qyr A [] W.toList [] l
 have m:W.size=n:=by rw[←h,←l];simp
 simp[Instr.fill,Value.cells,h,m] at q ⊢
 exact q
theorem Tryz.zeroMsg:((Tryz.prog.info? 71).map fun i=>i.zero.map fun z=>z.cells.toList)=some (some MsgV.zero.cells):=by kernel_rfl
theorem Tryz.zeroLive':((Tryz.prog.info? 56).map fun i=>i.zero.map fun z=>z.cells.toList)=some (some (ql Live.zero)):=by kernel_rfl
def Htlc.zero:Htlc:=⟨0,0,Vector.replicate 32 0,0⟩
theorem Tryz.zeroHtlc':((Tryz.prog.info? 54).map fun i=>i.zero.map fun z=>z.cells.toList)=some (some (ze Htlc.zero)):=by kernel_rfl
def q81(n:Nat)(p:Array (Nat × Value)):Sem Value:=Instr.buildSlice 58 n p
theorem qd4(n:Nat)(p:Array (Nat × Value)):Instr.buildSlice 58 n p=q81 n p:=rfl
theorem qkw(A:List Value)(w:World):(q81 1 #[(0,.agg A.toArray)]).run Tryz.prog w=if A.length=38 then .ok (.slice (some ⟨w.heap.size,0,none⟩) 1 1) (w.alloc (.cells A.toArray 71)) else (Instr.buildSlice 58 1 #[(0,.agg A.toArray)]).run Tryz.prog w:=by
 by_cases h:A.length=38
 ·rw[if_pos h];exact q23 Tryz.underlying58 Tryz.zeroMsg Tryz.infoMsg rfl (by decide) (by decide) A h w
 ·rw[if_neg h];rfl
def zfc(n:Nat)(p:Array (Nat × Value)):Sem Value:=Instr.buildSlice 51 n p
theorem qh1(n:Nat)(p:Array (Nat × Value)):Instr.buildSlice 51 n p=zfc n p:=rfl
theorem qvs(A:List Value)(w:World):(zfc 1 #[(0,.agg A.toArray)]).run Tryz.prog w=if A.length=38 then .ok (.slice (some ⟨w.heap.size,0,none⟩) 1 1) (w.alloc (.cells A.toArray 56)) else (Instr.buildSlice 51 1 #[(0,.agg A.toArray)]).run Tryz.prog w:=by
 by_cases h:A.length=38
 ·rw[if_pos h];exact q23 Tryz.underlying51 Tryz.zeroLive' Tryz.infoLive rfl (by decide) (by decide) A h w
 ·rw[if_neg h];rfl
theorem Tryz.placesMsg:∃g,Tryz.prog.underlying 71=some (.struct g)∧g.toList.mapM (fun f=>(Tryz.prog.info? f.type).map fun i=>(f.offset,i.size))=some [(0,1),(1,1),(2,1),(3,1),(4,32),(36,1),(37,1)]:=⟨_,Tryz.underlying71,by kernel_rfl⟩
theorem q5d(k id n ex:Int)(H:List Value)(h:H.length=32):Tryz.prog.built 71 [(0,.int .i64 k),(2,.int .u64 id),(3,.int .u64 n),(4,.agg H.toArray),(5,.int .i64 ex)]=some (.int .i64 k :: .int .u32 0 :: .int .u64 id :: .int .u64 n::(H++[.int .i64 ex,.int .i64 0])).toArray:=by
 obtain⟨i,z,l,q,g⟩:=qec Tryz.zeroMsg;obtain⟨t,o,m⟩:=Tryz.placesMsg;rw[qcb l o q m];rw[qcw (P:=[]) (z:= .int .i64 0) (R:= .int .u32 0 :: .int .u64 0 :: .int .u64 0::(zv.map (Value.int .u8)++[.int .i64 0,.int .i64 0])) rfl rfl rfl g];rw[qcw (P:=[.int .i64 k,.int .u32 0]) (z:= .int .u64 0) (R:= .int .u64 0::(zv.map (Value.int .u8)++[.int .i64 0,.int .i64 0])) rfl rfl rfl (by rfl)];rw[qcw (P:=[.int .i64 k,.int .u32 0,.int .u64 id]) (z:= .int .u64 0) (R:=(zv.map (Value.int .u8)++[.int .i64 0,.int .i64 0])) rfl rfl rfl (by rfl)];rw[qe9 (P:=[.int .i64 k,.int .u32 0,.int .u64 id,.int .u64 n]) (A:=H) (Z:=zv.map (Value.int .u8)) (R:=[.int .i64 0,.int .i64 0]) (off:=4) (by rw[h];rfl) rfl (by rw[h];rfl) (by rfl)];rw[qcw (P:=[.int .i64 k,.int .u32 0,.int .u64 id,.int .u64 n]++H) (z:= .int .i64 0) (R:=[.int .i64 0]) (off:=36) rfl (by simp[h]) rfl (by simp)];rw[Instr.fill];simp
theorem qq1(k id n ex:Int)(H:List Value)(w:World):(qkt #[(0,.int .i64 k),(2,.int .u64 id),(3,.int .u64 n),(4,.agg H.toArray),(5,.int .i64 ex)]).run Tryz.prog w=if H.length=32 then .ok (.agg (.int .i64 k :: .int .u32 0 :: .int .u64 id :: .int .u64 n::(H++[.int .i64 ex,.int .i64 0])).toArray) w else (Instr.build 71 #[(0,.int .i64 k),(2,.int .u64 id),(3,.int .u64 n),(4,.agg H.toArray),(5,.int .i64 ex)]).run Tryz.prog w:=by
 by_cases h:H.length=32
 ·rw[if_pos h];exact run_build w _ _ _ (q5d k id n ex H h)
 ·rw[if_neg h];rfl
theorem qbg(w:World):(qkt #[]).run Tryz.prog w = .ok (.agg MsgV.zero.cells.toArray) w:=run_build w _ _ _ (by kernel_rfl)
theorem qpd(k c:Int)(w:World):(qkt #[(0,.int .i64 k),(1,.int .u32 c)]).run Tryz.prog w = .ok (.agg (MsgV.cells ⟨k,c,0,0,zv,0,0⟩).toArray) w:=run_build w _ _ _ (by kernel_rfl)
def q8u(p:Array (Nat × Value)):Sem Value:=Instr.build 54 p
theorem qo9(p:Array (Nat × Value)):Instr.build 54 p=q8u p:=rfl
theorem Tryz.placesHtl:∃g,Tryz.prog.underlying 54=some (.struct g)∧g.toList.mapM (fun f=>(Tryz.prog.info? f.type).map fun i=>(f.offset,i.size))=some [(0,1),(1,1),(2,32),(34,1)]:=⟨_,Tryz.underlying54,by kernel_rfl⟩
theorem q5f(id n ex:Int)(H:List Value)(h:H.length=32):Tryz.prog.built 54 [(0,.int .u64 id),(1,.int .u64 n),(2,.agg H.toArray),(3,.int .i64 ex)]=some (.int .u64 id :: .int .u64 n::(H++[.int .i64 ex])).toArray:=by
 obtain⟨i,z,l,q,g⟩:=qec Tryz.zeroHtlc';obtain⟨t,o,m⟩:=Tryz.placesHtl;rw[qcb l o q m];rw[qcw (P:=[]) (z:= .int .u64 0) (R:= .int .u64 0::(zv.map (Value.int .u8)++[.int .i64 0])) rfl rfl rfl (g.trans (by kernel_rfl))];rw[qcw (P:=[.int .u64 id]) (z:= .int .u64 0) (R:=zv.map (Value.int .u8)++[.int .i64 0]) rfl rfl rfl (by rfl)];rw[qe9 (P:=[.int .u64 id,.int .u64 n]) (A:=H) (Z:=zv.map (Value.int .u8)) (R:=[.int .i64 0]) (off:=2) (by rw[h];rfl) rfl (by rw[h];rfl) (by rfl)];rw[qcw (P:=[.int .u64 id,.int .u64 n]++H) (z:= .int .i64 0) (R:=[]) (off:=34) rfl (by simp[h]) rfl (by simp)];rw[Instr.fill];simp
theorem q05(id n ex:Int)(H:List Value)(w:World):(q8u #[(0,.int .u64 id),(1,.int .u64 n),(2,.agg H.toArray),(3,.int .i64 ex)]).run Tryz.prog w=if H.length=32 then .ok (.agg (.int .u64 id :: .int .u64 n::(H++[.int .i64 ex])).toArray) w else (Instr.build 54 #[(0,.int .u64 id),(1,.int .u64 n),(2,.agg H.toArray),(3,.int .i64 ex)]).run Tryz.prog w:=by
 by_cases h:H.length=32
 ·rw[if_pos h];exact run_build w _ _ _ (q5f id n ex H h)
 ·rw[if_neg h];rfl
def qx0(p:Array (Nat × Value)):Sem Value:=Instr.build 56 p
theorem qpc(p:Array (Nat × Value)):Instr.build 56 p=qx0 p:=rfl
theorem Tryz.placesLiv:∃g,Tryz.prog.underlying 56=some (.struct g)∧g.toList.mapM (fun f=>(Tryz.prog.info? f.type).map fun i=>(f.offset,i.size))=some [(0,35),(35,1),(36,1),(37,1)]:=⟨_,Tryz.underlying56,by kernel_rfl⟩
theorem qp4:(ql Live.zero).toArray=(([]:List Value)++(ze Htlc.zero++([.bool false,.int .i64 0,.bool false]:List Value))).toArray:=rfl
theorem q1c(b:Bool)(s:Int)(H:List Value)(h:H.length=35):Tryz.prog.built 56 [(0,.agg H.toArray),(1,.bool b),(2,.int .i64 s)]=some (H++([.bool b,.int .i64 s,.bool false]:List Value)).toArray:=by
 obtain⟨i,z,l,q,g⟩:=qec Tryz.zeroLive';obtain⟨t,o,m⟩:=Tryz.placesLiv;rw[qcb l o q m];rw[qe9 (P:=[]) (A:=H) (Z:=ze Htlc.zero) (R:=[.bool false,.int .i64 0,.bool false]) (off:=0) (by rw[h];rfl) rfl (by rw[h];rfl) (g.trans qp4)];rw[qcw (P:=H) (z:= .bool false) (R:=[.int .i64 0,.bool false]) (off:=35) rfl h rfl (by simp)];rw[qcw (P:=H++[.bool b]) (z:= .int .i64 0) (R:=[.bool false]) (off:=36) rfl (by simp[h]) rfl (by simp)];rw[Instr.fill];simp
theorem q3u(b:Bool)(s:Int)(H:List Value)(w:World):(qx0 #[(0,.agg H.toArray),(1,.bool b),(2,.int .i64 s)]).run Tryz.prog w=if H.length=35 then .ok (.agg (H++([.bool b,.int .i64 s,.bool false]:List Value)).toArray) w else (Instr.build 56 #[(0,.agg H.toArray),(1,.bool b),(2,.int .i64 s)]).run Tryz.prog w:=by
 by_cases h:H.length=35
 ·rw[if_pos h];exact run_build w _ _ _ (q1c b s H h)
 ·rw[if_neg h];rfl
attribute [local go_sem ↓ high] qdf qeb qg0 zr zu zw zx qd4
attribute [local go_sem] qh5 qj8 qp9 qb3 qb9 qcf qbg qpd qkw zb
def qdg(own:Bool)(xs:List Live):Nat:=(xs.filter fun x=>x.own==own).length
set_option maxRecDepth 100000 in
set_option maxHeartbeats 2000000 in
theorem qul(g:Nat)(S:Nat→Prop)(c:Ch)(own:Bool)(w:World)(h:ChS w g S c) :
  Calls Tryz.prog 48 #[.pointer (some ⟨g,0,none⟩),.bool own] w (qbr (.int .i64 (qdg own c.xs)) w):=by
 obtain⟨R,nv,av,h⟩:=h
 have z:=h.toR.live
 have O:=h.ok.few
 have hv:=h.toI.lives
 obtain⟨a,cap,J⟩:=qap h.live
 change w.cell? ⟨g,47,none⟩=some R at z
 change qio w R c.xs at hv
 rw[J] at z hv
 have l:∀(i:Nat) (x:Live),c.xs[i]? = some x→∃g' off,a=some ⟨g',off,none⟩∧qgz w g' off c.xs:=by
  intro i x P;have m:=(List.getElem?_eq_some_iff.1 P).1;rcases hv with ⟨Z,k,e,e0⟩ | ⟨g',off,k,e,H⟩
  ·rw[e0] at m;simp at m
  ·injection e with e1;exact⟨g',off,e1,H⟩
 clear h hv
 generalize c.xs=xs at *
 have X:(xs.length:Int)≤1000000:=by omega
 go_enter Tryz.func48,Tryz.ntmps48
 go_wp2_with fail
 go_loopw [5,7,13] (fun Y _ L wr=>∃i:Nat,L = .int .i64 (i:Int)∧i≤xs.length∧Y = .int .i64 (qdg own (xs.take i))∧qu w wr) (fun _ _ L _=>xs.length-(intOf L).toNat)
 case atStart=>exact⟨0,rfl,Nat.zero_le _,rfl,Upd.refl _ _⟩
 case round =>
  obtain⟨i,rfl,P,rfl,I⟩:=hrel;obtain⟨v,rfl⟩:∃v:World,v=wr:=⟨_,rfl⟩;by_cases m:i<xs.length
  ·obtain⟨x,o⟩:∃x,xs[i]? = some x:=⟨_,List.getElem?_eq_getElem m⟩;obtain⟨g',off,rfl,H⟩:=l i x o;have D:=(H.upd I (fun h=>h)).row o;have V:(i:Int)<(xs.length:Int):=by omega
   have K:=qo3 v x;have t:=qov v x;have C:qdg own (xs.take (i+1))=qdg own (xs.take i)+(if x.own==own then 1 else 0):=by
    unfold qdg;rw[List.take_add_one,o,List.filter_append,List.length_append];cases q:x.own==own<;>simp[q]
   have W:qdg own (xs.take i)≤i:=by
    unfold qdg;refine Nat.le_trans (List.length_filter_le _ _) ?_;rw[List.length_take];omega
   have F:=qb C;clear C o H l;generalize qdg own (xs.take i)=M at *
   go_upto_region 5 with fail;obtain⟨q,N⟩:=t;generalize (v.alloc (.cells (ql Live.zero).toArray 56)).setCells v.heap.size 0 (ql x)=wb at q N ⊢;have T:wb.cell? ⟨v.heap.size,35,none⟩=some (.bool x.own):=by rw[qh q,List.getElem?_toArray];exact qh6 x
   have E:=I.trans N;have U:(M:Int)≤1000000:=by omega
   clear K D q N I;cases q:x.own==own with
   | true =>
    rw[q] at F;go_wp2_with fail;go_roundw
    case rel=>exact⟨i+1,by go_num,by omega,by rw[qa F];simp,E⟩
    case measure=>simp[intOf];omega
   | false =>
    rw[q] at F;go_wp2_with fail;go_roundw
    case rel=>exact⟨i+1,by go_num,by omega,by rw[qa F];simp,E⟩
    case measure=>simp[intOf];omega
  ·obtain rfl:i=xs.length:=by omega
   rw[List.take_length];clear l;go_wp2_with fail;go_ret;exact⟨rfl,I⟩
theorem qsd:∃i z b,Tryz.prog.info? 71=some i∧i.zero=some z∧i.size=38∧i.bytes=b∧z.cells.size=38∧b≤1000:=by
 obtain⟨i,z,l,q,o⟩:=qec Tryz.zeroMsg;have g:(Tryz.prog.info? 71).map (fun i=>decide (i.bytes≤1000))=some true:=by kernel_rfl
 have m:=Tryz.infoMsg;rw[l,Option.map_some,Option.some.injEq] at g m;exact⟨i,z,i.bytes,l,q,m,rfl,by rw[o];rfl,of_decide_eq_true g⟩
def MsgV.on(m:MsgV)(ch:Int):MsgV:= {m with ch:=ch}
def Ch.say(c:Ch)(m:MsgV):Ch:= {c with news:=c.news++[m.on c.s.ch]}
set_option maxRecDepth 100000 in
set_option maxHeartbeats 2000000 in
theorem qqm(g:Nat)(S:Nat→Prop)(c:Ch)(m:MsgV)(hm:m.hash.length=32)(w:World)(h:ChS w g S c)(f3:c.news.length<1000000) :
  Calls Tryz.prog 49 #[.pointer (some ⟨g,0,none⟩),.agg m.cells.toArray] w fun e w'=>e = .returned (.agg (m.on c.s.ch).cells.toArray)∧ChS w' g (Fr S w w') (c.say m)∧Upd S w w':=by
 obtain⟨lv,nv,av,h⟩:=h
 go_enter Tryz.func49,Tryz.ntmps49
 go_upto_region 1 with fail
 have L:((w.alloc (.cells m.cells.toArray 71)).alloc (.cells MsgV.zero.cells.toArray 71)).heap[w.heap.size]? = some (.cells m.cells.toArray 71 (0,0)):=zj (qi _ _) _
 have a5:((w.alloc (.cells m.cells.toArray 71)).alloc (.cells MsgV.zero.cells.toArray 71)).heap[w.heap.size+1]? = some (.cells MsgV.zero.cells.toArray 71 (0,0)):=by
  have:=qi (w.alloc (.cells m.cells.toArray 71)) (.cells MsgV.zero.cells.toArray 71);rwa [World.size_alloc] at this
 have nA:qu w ((w.alloc (.cells m.cells.toArray 71)).alloc (.cells MsgV.zero.cells.toArray 71)):=((Upd.refl _ _).alloc _).alloc _
 generalize (w.alloc (.cells m.cells.toArray 71)).alloc (.cells MsgV.zero.cells.toArray 71)=wA at L a5 nA ⊢
 obtain⟨A,b8⟩:∃A,A=w.heap.size:=⟨_,rfl⟩
 obtain⟨B,c6⟩:∃B,B=w.heap.size+1:=⟨_,rfl⟩
 rw[←c6] at a5 ⊢
 rw[←b8] at L ⊢
 have hA:=h.new nA
 have d8:g≠A:=by have:=h.lt g h.inG;omega
 have c8:g≠B:=by have:=h.lt g h.inG;omega
 have f5:w.heap.size≤A:=by omega
 have f6:w.heap.size≤B:=by omega
 have d4:B≠A:=by omega
 clear b8 c6
 have c0:wA.cell? ⟨g,0,none⟩=some (.int .u32 c.s.ch):=hA.toR.ch
 have e1:wA.cell? ⟨A,1,none⟩=some (.int .u32 m.ch):=qh L 1
 have f1:=qv L 1
 have uB:Upd (· = A) wA (wA.setCell ⟨A,1,none⟩ (.int .u32 c.s.ch)):=(Upd.refl _ _).set1 1 _
 have I:(wA.setCell ⟨A,1,none⟩ (.int .u32 c.s.ch)).heap[A]? = some (.cells (m.on c.s.ch).cells.toArray 71 (0,0)):=z7 L 1 _
 have R:=uB.old a5 d4
 have hB:=hA.upd uB (fun k l e=>by have:=h.lt k l;omega)
 have nB:qu w (wA.setCell ⟨A,1,none⟩ (.int .u32 c.s.ch)):=nA.then uB (fun i hi e=>by omega)
 have H0:=qb h
 clear h hA L a5 nA uB
 go_upto_region 2 with fail
 clear c0 e1 f1
 generalize wA.setCell ⟨A,1,none⟩ (.int .u32 c.s.ch)=K at hB I R nB ⊢
 have H:K.drew.cell? ⟨g,626,none⟩=some nv:=by
  have e:K.drew.cell? ⟨g,626,none⟩=_:=qh hB.at_ 626;rw[e];exact qrg c lv nv av hB.ok.s.seed hB.ok.shelf
 have b7:K.frozen? ⟨g,626,none⟩=false:=qv hB.at_ 626
 have X:(m.on c.s.ch).hash.length=32:=hm
 have hr:zm K A 0 38=some (m.on c.s.ch).cells.toArray:=qad I 38 (by rw[List.size_toArray,MsgV.len _ X])
 have W:=MsgV.len _ X
 obtain⟨i9,z9,b9,d9,e7,e4,e5,e6,d6⟩:=qsd
 have HB:=qb hB
 have c7:Hid (∃cs,K.heap[g]? = some (.cells cs 106 (0,0))):=qb ⟨_,hB.at_⟩
 obtain⟨na,f4,c9⟩:=qap hB.news
 clear hB
 refine qc7 (fun w'=>w'.cell? ⟨g,626,none⟩=some nv) [4] (.of [0,1,2,3,4,5,6,7,8,9,10]) (by kernel_rfl) (by kernel_rfl) H ?_
 simp only[Plan.of]
 go_wp2_with (with_reducible first|(first|refine' qw1 (qg ?_) ?_|refine' qw2 (qg ?_) ?_|refine' qw3 (qg ?_) ?_);rotate_left|refine' qw4 (qg ?_)|refine' qw5 (qg ?_)|rfl|apply qn)
 refine⟨((Upd.refl (fun _=>False) K).alloc _).drew.cell H (fun h=>h),?_⟩
 have nC:qu K (K.alloc (.cells (m.on c.s.ch).cells.toArray 71)).drew:=((Upd.refl _ _).alloc _).drew
 have a6:(K.alloc (.cells (m.on c.s.ch).cells.toArray 71)).drew.heap[K.heap.size]? = _:=qi K (.cells (m.on c.s.ch).cells.toArray 71)
 have HC:=qb ((qa HB).new nC)
 have O:=nC.old I (fun h=>h)
 have J:=nC.old R (fun h=>h)
 have F:=nC.cell H (fun h=>h)
 have b6:=nB.trans nC
 have d5:w.heap.size≤K.heap.size:=nB.size
 clear H b7 hr HB I R nB nC c7
 generalize (K.alloc (.cells (m.on c.s.ch).cells.toArray 71)).drew=wC at a6 HC O J F b6 ⊢
 generalize K.heap.size=D at a6 d5 ⊢
 have C:=(qa HC).news
 unfold q3r at C
 rw[c9] at C
 have HN:=qb C
 clear C
 go_wp2_with (first | (at_builtin;refine wpList_append_own_at _ rfl (.tmp 15) (.tmp 17) 58 rfl 0 71 i9 _ 38 b9 Tryz.underlying58 d9 e7 e4 e5 e6 (by decide) _ _ _ rfl (qa HN) ⟨D,0,none⟩ 1 1 (m.on c.s.ch).cells rfl (by rw[W]) ?c1 ?c2 ?c3 ?c4 ?c5 ?_) | (with_reducible first|(first|refine' qw1 (qg ?_) ?_|refine' qw2 (qg ?_) ?_|refine' qw3 (qg ?_) ?_);rotate_left|refine' qw4 (qg ?_)|refine' qw5 (qg ?_)|rfl|apply qn))
 case c1=>exact World.news_of_block (cs:=(m.on c.s.ch).cells.toArray) (fr:=(0,0)) a6
 case c2=>exact MsgV.one _
 case c3=>unfold maxLen;omega
 case c4=>have:=Nat.mul_le_mul (show c.news.length+1≤1000000 by omega) d6;omega
 case c5=>omega
 intro M Y o b4 _ q
 obtain⟨a',e9,b5⟩:=qap o
 have E:=fun k (e:nv.ownBlock=some k)=>(qa HC).inN k e
 rw[←c9] at b4 q
 have Z:Upd (fun k=>nv.ownBlock=some k) wC Y:=(Upd.refl _ _).grown b4 (fun k l _=>l)
 have b3:¬(nv.ownBlock=some g):=fun e=>by
  obtain⟨a4,V⟩:=qai (qa HC).news g e;exact qao (qa HC).at_ V (by decide) rfl
 have z:=(qa H0).lt
 have f2:=z6 J
 have a7:=Z.old O (fun e=>by have:=z _ (E _ e);omega)
 have a8:=Z.old J (fun e=>by have:=z _ (E _ e);omega)
 have N:=Z.old (qa HC).at_ b3
 have d2:=Z.cell F b3
 have d3:Y.frozen? ⟨g,626,none⟩=false:=qv N 626
 have HV:=qb (And.intro o (And.intro q Z))
 clear o q b4 Z F O J a6
 have uE:Upd (· = g) Y (Y.setCell ⟨g,626,none⟩ M):=(Upd.refl _ _).set1 626 _
 have P:=uE.old a7 (fun e=>d8 e.symm)
 have U:=uE.old a8 (fun e=>c8 e.symm)
 have t:=z7 N 626 M
 rw[qsv c lv nv av (qa HC).ok.s.seed (qa HC).ok.shelf (c.news++[m.on c.s.ch])] at t
 have HE:=qb (And.intro t uE)
 have d1:=qb b5
 clear t uE N a7 a8
 rw[b5] at P U ⊢
 have f7:=qad P 38 (by rw[List.size_toArray,W])
 have f8:=qlm U X
 have hF:=qk5 U X
 have HF:=qb hF
 clear hF b5 P
 go_wp2_with (with_reducible first|(first|refine' qw1 (qg ?_) ?_|refine' qw2 (qg ?_) ?_|refine' qw3 (qg ?_) ?_);rotate_left|refine' qw4 (qg ?_)|refine' qw5 (qg ?_)|rfl|apply qn)
 refine bodyPost_ret (results_cell_row rfl _ _ B _ _ _ _ rfl (qa HF) Tryz.underlying71 rfl (by rw[List.size_toArray,W];exact Tryz.infoMsg)) rfl ?_
 have e2:=qa d1
 obtain⟨o,q,Z⟩:=qa HV
 obtain⟨t,uE⟩:=qa HE
 rw[←e2]
 have h:=qa H0
 have hC:=qa HC
 have uF:Upd (· = B) (Y.setCell ⟨g,626,none⟩ M) ((Y.setCell ⟨g,626,none⟩ M).setCells B 0 (m.on c.s.ch).cells):=(Upd.refl _ _).setCells 0 _
 have f9:=b6.size
 refine⟨rfl,?_,(((b6.mono (fun _ _ h=>h.elim)).trans (Z.mono (fun k _ e=>E k e))).trans (uE.mono (fun k _ e=>by rw[e];exact h.inG))).then uF (fun i hi e=>by omega)⟩
 have e8:Y.heap.size≤((Y.setCell ⟨g,626,none⟩ M).setCells B 0 (m.on c.s.ch).cells).heap.size:=Nat.le_trans uE.size uF.size
 generalize (Y.setCell ⟨g,626,none⟩ M).setCells B 0 (m.on c.s.ch).cells=wF at uF e8 ⊢
 generalize Y.setCell ⟨g,626,none⟩ M=wE at uE uF t
 have d0:∀k,M.ownBlock=some k→k<Y.heap.size:=fun k l=>by
  obtain⟨a4,V⟩:=qai o k l;exact z6 V
 have e0:∀k,M.ownBlock=some k→k≠B:=by
  intro k l;rcases q with e | e
  ·rw[e] at l;have:=z k (E k l);omega
  ·rw[e] at l;injection l with l;omega
 have e3:∀k,M.ownBlock=some k→k≠g:=by
  intro k l;rcases q with e | e
  ·rw[e] at l;rintro rfl;exact b3 l
  ·rw[e] at l;injection l with l;have:=z6 hC.at_;omega
 have a9:∀ {T:TypeId} {v:Value} {n:Nat} {xs:List Value},wC.ownsRow 0 T 38 v n xs→(∀k,v.ownBlock=some k→S k)→(∀k,v.ownBlock=some k→k≠g)→(∀k,v.ownBlock=some k→nv.ownBlock≠some k)→wF.ownsRow 0 T 38 v n xs:=by
  intro T v n xs hr hs h1 h2;exact zc (zc (zc hr Z (fun k l e=>h2 k l e)) uE (fun k l e=>h1 k l e)) uF (fun k l e=>by have:=z k (hs k l);omega)
 refine⟨lv,M,av,⟨uF.old t c8,⟨h.ok.s,h.ok.signed,h.ok.heard,h.ok.nextOwn,h.ok.nextTheirs,h.ok.loc,h.ok.rem,h.ok.xs,h.ok.few,h.ok.shelf,?_,h.ok.last,?_,h.ok.many.2⟩,?_,?_,?_,.inl h.inG,fun k e=> .inl (h.inL k e),?_,fun k e=> .inl (h.inA k e),?_,?_⟩⟩
 ·intro x hx;rcases List.mem_append.1 hx with hx | hx
  ·exact h.ok.news x hx
  ·rw[List.mem_singleton.1 hx];exact X
 ·show (c.news++[m.on c.s.ch]).length≤1000000;rw[List.length_append];simp;omega
 ·refine a9 hC.live h.inL ?_ ?_
  ·intro k l e;obtain⟨a4,V⟩:=qai hC.live k l;rw[e] at V;exact qao hC.at_ V (by decide) rfl
  ·intro k l e;obtain⟨a4,V⟩:=qai hC.live k l;obtain⟨f0,d7⟩:=qai hC.news k e;exact qao V d7 (by decide) rfl
 ·show wF.ownsRow 0 _ 38 M (c.news++[m.on c.s.ch]).length ((c.news++[m.on c.s.ch]).flatMap MsgV.cells);rw[List.length_append,List.flatMap_append];have:[m.on c.s.ch].flatMap MsgV.cells=(m.on c.s.ch).cells:=by simp
  rw[this];exact zc (zc o uE (fun k l e=>e3 k l e)) uF (fun k l e=>e0 k l e)
 ·refine a9 hC.last h.inA ?_ ?_
  ·intro k l e;obtain⟨a4,V⟩:=qai hC.last k l;rw[e] at V;exact qao hC.at_ V (by decide) rfl
  ·intro k l e;exact h.sep k e l
 ·intro k l;rcases q with e | e
  ·rw[e] at l;exact .inl (h.inN k l)
  ·have:=d0 k l;rw[e] at l;injection l with l;exact .inr ⟨by omega,by omega⟩
 ·intro k l e';rcases q with e | e
  ·rw[e] at l;exact h.sep k l e'
  ·rw[e] at l;injection l with l;have:=z k (h.inA k e');omega
 ·rintro k (l | l)
  ·have:=z k l;have:=Z.size;omega
  ·exact l.2
end Go.Proofs.YthnohmjbbeahmaaGreatDoor
namespace Go.Proofs.YthnohmjbbeahmaaGreatDoor
open Go.RowKit
theorem Tryz.infoHsh:(Tryz.prog.info? 33).map (·.size)=some 32:=by kernel_rfl
def zff(x:Value):Sem Value:=Instr.loadAt 33 x
theorem zy(x:Value):Instr.loadAt 33 x=zff x:=rfl
theorem qcl(b o:Nat)(w:World):(zff (.pointer (some ⟨b,o,none⟩))).run Tryz.prog w=match zm w b o 32 with | some A=> .ok (.agg A) w | none=>qek Tryz.prog 33 w b o :=
 qae 33 32 _ Tryz.underlying33 rfl Tryz.infoHsh b o w
def zfq(x v:Value):Sem Unit:=Instr.storeAt 33 x v
theorem qak(x v:Value):Instr.storeAt 33 x v=zfq x v:=rfl
theorem qdb(b o:Nat)(A:Array Value)(w:World):(zfq (.pointer (some ⟨b,o,none⟩)) (.agg A)).run Tryz.prog w=if stOk w b o 32 A=true then .ok () (w.setCells b o A.toList) else qf2 Tryz.prog 33 w b o A :=
 qax 33 32 Tryz.infoHsh b o A w
theorem Tryz.infoHtl:(Tryz.prog.info? 54).map (·.size)=some 35:=by kernel_rfl
def zfg(x:Value):Sem Value:=Instr.loadAt 54 x
theorem qk7(x:Value):Instr.loadAt 54 x=zfg x:=rfl
theorem q2b(b o:Nat)(w:World):(zfg (.pointer (some ⟨b,o,none⟩))).run Tryz.prog w=match zm w b o 35 with | some A=> .ok (.agg A) w | none=>qek Tryz.prog 54 w b o :=
 qae 54 35 _ Tryz.underlying54 rfl Tryz.infoHtl b o w
def zfr(x v:Value):Sem Unit:=Instr.storeAt 54 x v
theorem qpx(x v:Value):Instr.storeAt 54 x v=zfr x v:=rfl
theorem zci(b o:Nat)(A:Array Value)(w:World):(zfr (.pointer (some ⟨b,o,none⟩)) (.agg A)).run Tryz.prog w=if stOk w b o 35 A=true then .ok () (w.setCells b o A.toList) else qf2 Tryz.prog 54 w b o A :=
 qax 54 35 Tryz.infoHtl b o A w
def ze6:Sem Value:=Instr.alloc 54 true (.tuple #[])
theorem qo7:Instr.alloc 54 true (.tuple #[])=ze6:=rfl
theorem q8n(w:World):ze6.run Tryz.prog w = .ok (.pointer (some ⟨w.heap.size,0,none⟩)) (w.alloc (.cells (ze Htlc.zero).toArray 54)):=by kernel_rfl
attribute [local go_sem ↓ high] zr zu zw zx zy
attribute [local go_sem] qb3 qb9 qcf qbg qpd zb qcl
set_option maxRecDepth 100000 in
set_option maxHeartbeats 1000000 in
theorem q7v(g:Nat)(c:ChanV)(w:World)(h:ChR w g c) :
  Calls Tryz.prog 88 #[.pointer (some ⟨g,0,none⟩)] w (qbr (.agg (MsgV.cells ⟨8,c.setup.ch,0,0,zv,0,0⟩).toArray) w):=by
 go_enter Tryz.func88,Tryz.ntmps88
 go_upto_region 1 with fail
 have q:(w.alloc (.cells MsgV.zero.cells.toArray 71)).heap[w.heap.size]? = some (.cells MsgV.zero.cells.toArray 71 (0,0)):=qi _ _
 have t:qu w (w.alloc (.cells MsgV.zero.cells.toArray 71)):=(Upd.refl _ _).alloc _
 generalize w.alloc (.cells MsgV.zero.cells.toArray 71)=w1 at q t ⊢
 have D:=(h.new t).ch
 obtain⟨B,o⟩:∃B,B=w.heap.size:=⟨_,rfl⟩
 have E:w.heap.size≤B:=by omega
 rw[←o] at q ⊢
 clear o
 have C:=qlm (m:=⟨8,c.setup.ch,0,0,zv,0,0⟩) q qs
 have l:=qk5 (m:=⟨8,c.setup.ch,0,0,zv,0,0⟩) q qs
 have v:=qb l
 have u:Upd (· = B) w1 (w1.setCells B 0 (MsgV.cells ⟨8,c.setup.ch,0,0,zv,0,0⟩)):=(Upd.refl _ _).setCells 0 _
 have z:=qb (t.then u (fun i F e=>by omega))
 clear h q l t u
 go_wp2_with (with_reducible first|(first|refine' tw1 (qg ?_) ?_|refine' tw2 (qg ?_) ?_);rotate_left|refine' tw3 (qg ?_)|rfl|apply tn|refine' tw4 ?_)
 refine bodyPost_ret (results_cell_row rfl _ _ B _ _ _ _ rfl (qa v) Tryz.underlying71 rfl (by rw[List.size_toArray,MsgV.len _ qs];exact Tryz.infoMsg)) rfl ?_
 exact⟨rfl,qa z⟩
def Ch.shutSaid(c:Ch):Ch:= {c with k:= {c.k with shutSaid:=true}}
theorem Ch.Ok.shutSaid{c:Ch}(h:c.Ok):c.shutSaid.Ok:=⟨h.s,h.signed,h.heard,h.nextOwn,h.nextTheirs,h.loc,h.rem,h.xs,h.few,h.shelf,h.news,h.last,h.many⟩
def qdl(ch:Int):MsgV:=⟨8,ch,0,0,zv,0,0⟩
def Ch.shut(c:Ch):Ch × MsgV × Int:=if c.k.shutSaid then (c,MsgV.zero,4) else (c.shutSaid,qdl c.s.ch,0)
end Go.Proofs.YthnohmjbbeahmaaGreatDoor
