/-
  A channel whole: its cells, and what its rows hold; what is written into it.
-/
import Derived.Test.YtfmkdoachjgjbaaGreatDoorMag
import Derived.Deep.Onto
import Derived.Maps.AppendAt
import Derived.Deep.AppendLies
set_option maxRecDepth 100000
set_option maxHeartbeats 2000000
set_option linter.unusedVariables false
set_option linter.unusedSimpArgs false
namespace Go.Proofs.YtfmkdoachjgjbaaGreatDoor
open Go.RowKit
theorem zc{S:Nat→Prop}{w w':World}{base:Nat}{e:TypeId}{size:Nat}{v:Value}{n:Nat}{xs:List Value}(h:w.ownsRow base e size v n xs)(u:Upd S w w')(q:∀k,v.ownBlock=some k→¬S k):w'.ownsRow base e size v n xs:=by
 refine⟨h.1,?_⟩;rcases h.2 with h | ⟨g,cap,i,m,o,t,r⟩
 ·exact .inl h
 ·exact .inr ⟨g,cap,i,m,o,u.old t (q g (by rw[m];rfl)),r⟩
theorem zv{w:World}{base:Nat}{e:TypeId}{size:Nat}{v:Value}{n:Nat}{xs:List Value}(h:w.ownsRow base e size v n xs):∀k,v.ownBlock=some k→∃i,w.heap[k]? = some (.cells i e (0,0)):=by
 intro k m;rcases h.2 with ⟨rfl,_⟩ | ⟨g,cap,i,rfl,q,o,_⟩
 ·simp[Value.ownBlock] at m
 ·simp[Value.ownBlock] at m;exact⟨i,m▸o⟩
theorem zx{w:World}{k j:Nat}{c d:Array Value}{T U:TypeId}{x y:Nat × Nat}(h:w.heap[k]? = some (.cells c T x))(g:w.heap[j]? = some (.cells d U y))(n:T≠U):k≠j:=by
 rintro rfl;rw[h] at g;injection g with g;injection g with _ g;exact n g
theorem qaa{w:World}{base:Nat}{e:TypeId}{size:Nat}{v:Value}{n:Nat}{xs:List Value}(h:w.ownsRow base e size v n xs):∃a cap,v = .slice a n cap:=by
 rcases h.2 with ⟨e,e0⟩ | ⟨g,cap,i,e,_⟩
 ·exact⟨none,0,by rw[e,e0]⟩
 ·exact⟨_,cap,e⟩
theorem zb{P:Program}{fn:Func}{p u:Tmp}{i:TypeId}(h:fn.results=#[.cell p i,.tmp u])(tmps:Array Value)(w:World)(g:Nat)(t:TypeId)(cs:Array Value)(fr:Nat × Nat)(d:TypeDesc)
  (q:tmps.getD p undef = .pointer (some ⟨g,0,none⟩)) (m:w.heap[g]? = some (.cells cs t fr))
  (v:P.underlying i=some d) (hd:(match d with | .struct _ | .array _ _=>true | _=>false)=true) (o:(P.info? i).map (·.size)=some cs.size) :
  (results fn tmps).run P w = .ok (.tuple #[.agg cs,tmps.getD u undef]) w:=by
 rw[results_cell_tmp h,q]
 simp[asAddr,run_loadVar_row w g t i cs fr d m v hd o,Result.andThen]
structure Ch where
 s:SetupV
 k:CountsV
 loc:Int
 rem:Int
 xs:List Live
 shelf:List KeptV
 news:List MsgV
 last:List MsgV
def Ch.v(c:Ch)(lv nv av:Value):ChanV:=⟨c.s,c.k,c.loc,c.rem,lv,c.shelf,nv,av⟩
def qq1(w:World)(v:Value)(xs:List Live):Prop:=w.ownsRow 0 69 38 v xs.length (xs.flatMap qm)
def qxy(w:World)(v:Value)(i:List MsgV):Prop:=w.ownsRow 0 101 38 v i.length (i.flatMap MsgV.cells)
def q1t(i:List MsgV):Prop:=∀m∈i,m.hash.length=32
structure Ch.Ok(c:Ch):Prop where
 s:c.s.Ok
 signed:0≤c.k.signed∧c.k.signed≤65535
 heard:0≤c.k.heard∧c.k.heard<4294967296
 nextOwn:0≤c.k.nextOwn∧c.k.nextOwn<18446744073709551616
 nextTheirs:0≤c.k.nextTheirs∧c.k.nextTheirs<18446744073709551616
 loc:0≤c.loc∧c.loc<18446744073709551616
 rem:0≤c.rem∧c.rem<18446744073709551616
 xs:∀x∈c.xs,LiveOk x
 few:c.xs.length≤1000000
 shelf:c.shelf.length=17∧∀p∈c.shelf,p.told.length=32
 news:q1t c.news
 last:q1t c.last
 many:c.news.length≤1000000∧c.last.length≤1000000
structure ChP(w:World)(g:Nat)(S:Nat→Prop)(c:Ch)(lv nv av:Value):Prop where
 at_:w.heap[g]? = some (.cells (c.v lv nv av).cells.toArray 126 (0,0))
 ok:c.Ok
 live:qq1 w lv c.xs
 news:qxy w nv c.news
 last:qxy w av c.last
 inG:S g
 inL:∀k,lv.ownBlock=some k→S k
 inN:∀k,nv.ownBlock=some k→S k
 inA:∀k,av.ownBlock=some k→S k
 sep:∀k,nv.ownBlock=some k→av.ownBlock≠some k
 lt:∀k,S k→k<w.heap.size
def ChS(w:World)(g:Nat)(S:Nat→Prop)(c:Ch):Prop:=∃lv nv av,ChP w g S c lv nv av
def Fr(S:Nat→Prop)(w w':World)(k:Nat):Prop:=S k∨(w.heap.size≤k∧k<w'.heap.size)
section
variable {w w':World}{g:Nat}{S T:Nat→Prop}{c:Ch}{lv nv av:Value}
theorem ChP.upd(h:ChP w g S c lv nv av)(u:Upd T w w')(hd:∀k,S k→¬T k):ChP w' g S c lv nv av :=
 ⟨u.old h.at_ (hd g h.inG),h.ok,zc h.live u (fun k i=>hd k (h.inL k i)),zc h.news u (fun k i=>hd k (h.inN k i)),zc h.last u (fun k i=>hd k (h.inA k i)),h.inG,h.inL,h.inN,h.inA,h.sep,fun k i=>Nat.lt_of_lt_of_le (h.lt k i) u.size⟩
theorem ChP.new(h:ChP w g S c lv nv av)(u:qq w w'):ChP w' g S c lv nv av:=h.upd u (fun _ _ h=>h)
theorem ChP.wider(h:ChP w g S c lv nv av)(i:∀k,S k→T k)(m:∀k,T k→k<w.heap.size):ChP w g T c lv nv av :=
 ⟨h.at_,h.ok,h.live,h.news,h.last,i g h.inG,fun k e=>i k (h.inL k e),fun k e=>i k (h.inN k e),fun k e=>i k (h.inA k e),h.sep,m⟩
theorem ChP.fr(h:ChP w' g S c lv nv av)(w:World):ChS w' g (Fr S w w') c:=⟨_,_,_,h.wider (fun k i=> .inl i) (fun k i=>i.elim (h.lt k) (fun e=>e.2))⟩
theorem ChS.upd(h:ChS w g S c)(u:Upd T w w')(hd:∀k,S k→¬T k):ChS w' g S c:=by
 obtain⟨a,b,d,h⟩:=h;exact⟨a,b,d,h.upd u hd⟩
theorem ChS.new(h:ChS w g S c)(u:qq w w'):ChS w' g S c:=h.upd u (fun _ _ h=>h)
theorem ChS.lt(h:ChS w g S c):∀k,S k→k<w.heap.size:=by
 obtain⟨a,b,d,h⟩:=h;exact h.lt
theorem ChP.toR(h:ChP w g S c lv nv av):ChR w g (c.v lv nv av):=⟨h.at_,h.ok.s.seed⟩
theorem ChP.toI(h:ChP w g S c lv nv av):ChI w g (c.v lv nv av) c.xs:=⟨h.toR,h.live⟩
end
theorem ChP.put{w:World}{g:Nat}{S:Nat→Prop}{c c':Ch}{lv nv av:Value}(h:ChP w g S c lv nv av){i:Nat}{x:Value}(z:(c.v lv nv av).cells.toArray.setIfInBounds i x=(c'.v lv nv av).cells.toArray)(m:c'.Ok)(H:c'.xs=c.xs)(D:c'.news=c.news)(C:c'.last=c.last):ChP (w.setCell ⟨g,i,none⟩ x) g S c' lv nv av:=by
 have u:Upd (· = g) w (w.setCell ⟨g,i,none⟩ x):=(Upd.refl _ _).set1 i x;have o:∀ {T:TypeId} {v:Value} {n:Nat} {xs:List Value},T≠126→w.ownsRow 0 T 38 v n xs→∀k,v.ownBlock=some k→¬k=g:=by
  intro T v n xs t E k m e;obtain⟨q,y⟩:=zv E k m;exact zx y h.at_ t e
 refine⟨?_,m,?_,?_,?_,h.inG,h.inL,h.inN,h.inA,h.sep,fun k m=>Nat.lt_of_lt_of_le (h.lt k m) u.size⟩
 ·have:=zq h.at_ i x;rw[z] at this;exact this
 ·rw[H];exact zc h.live u (o (by decide) h.live)
 ·rw[D];exact zc h.news u (o (by decide) h.news)
 ·rw[C];exact zc h.last u (o (by decide) h.last)
theorem qa0(v:ChanV)(h:v.setup.seed.length=32)(i:Nat)(x:Value):v.cells.toArray.setIfInBounds (37+i) x=(v.setup.cells++(v.k.cells++v.rest).set i x).toArray:=by
 unfold ChanV.cells;rw[List.setIfInBounds_toArray,List.set_append_right _ _ (by rw[v.setup.len h];omega),v.setup.len h,Nat.add_sub_cancel_left]
theorem qgo(l:List KeptV)(h:∀p∈l,p.told.length=32):(l.flatMap KeptV.cells).length=l.length*34:=by
 induction l with
 | nil=>rfl
 | cons x l m =>
  rw[List.flatMap_cons,List.length_append,m (fun p i=>h p (List.mem_cons_of_mem _ i)),List.length_cons];have:=h x (List.mem_cons_self ..);simp[KeptV.cells,this];omega
section
variable (c:Ch)(lv nv av:Value)(h:c.s.seed.length=32)
include h
theorem qxe(n:Int):(c.v lv nv av).cells.toArray.setIfInBounds 37 (.int .i64 n)=(({c with k:= {c.k with signed:=n}} : Ch).v lv nv av).cells.toArray:=qa0 (c.v lv nv av) h 0 _
theorem q1h(n:Int):(c.v lv nv av).cells.toArray.setIfInBounds 38 (.int .i64 n)=(({c with k:= {c.k with heard:=n}} : Ch).v lv nv av).cells.toArray:=qa0 (c.v lv nv av) h 1 _
theorem qxc(b:Bool):(c.v lv nv av).cells.toArray.setIfInBounds 39 (.bool b)=(({c with k:= {c.k with awaits:=b}} : Ch).v lv nv av).cells.toArray:=qa0 (c.v lv nv av) h 2 _
theorem quw(n:Int):(c.v lv nv av).cells.toArray.setIfInBounds 40 (.int .u64 n)=(({c with k:= {c.k with nextOwn:=n}} : Ch).v lv nv av).cells.toArray:=qa0 (c.v lv nv av) h 3 _
theorem qoh(n:Int):(c.v lv nv av).cells.toArray.setIfInBounds 41 (.int .u64 n)=(({c with k:= {c.k with nextTheirs:=n}} : Ch).v lv nv av).cells.toArray:=qa0 (c.v lv nv av) h 4 _
theorem qsl(b:Bool):(c.v lv nv av).cells.toArray.setIfInBounds 42 (.bool b)=(({c with k:= {c.k with shutSaid:=b}} : Ch).v lv nv av).cells.toArray:=qa0 (c.v lv nv av) h 5 _
theorem qo9(b:Bool):(c.v lv nv av).cells.toArray.setIfInBounds 43 (.bool b)=(({c with k:= {c.k with shutHeard:=b}} : Ch).v lv nv av).cells.toArray:=qa0 (c.v lv nv av) h 6 _
theorem qux(b:Bool):(c.v lv nv av).cells.toArray.setIfInBounds 44 (.bool b)=(({c with k:= {c.k with revoked:=b}} : Ch).v lv nv av).cells.toArray:=qa0 (c.v lv nv av) h 7 _
theorem qyk(n:Int):(c.v lv nv av).cells.toArray.setIfInBounds 45 (.int .u64 n)=(({c with loc:=n} : Ch).v lv nv av).cells.toArray:=qa0 (c.v lv nv av) h 8 _
theorem qyl(n:Int):(c.v lv nv av).cells.toArray.setIfInBounds 46 (.int .u64 n)=(({c with rem:=n} : Ch).v lv nv av).cells.toArray:=qa0 (c.v lv nv av) h 9 _
theorem quu(xs:List Live)(v:Value):(c.v lv nv av).cells.toArray.setIfInBounds 47 v=(({c with xs:=xs} : Ch).v v nv av).cells.toArray:=qa0 (c.v lv nv av) h 10 _
theorem quv(o:c.shelf.length=17∧∀p∈c.shelf,p.told.length=32)(t:List MsgV)(v:Value):(c.v lv nv av).cells.toArray.setIfInBounds 626 v=(({c with news:=t} : Ch).v lv v av).cells.toArray:=by
 have e:=qa0 (c.v lv nv av) h 589 v;rw[show 37+589=626 from rfl] at e;rw[e];have q:(c.v lv nv av).told.length=578:=by show (c.shelf.flatMap KeptV.cells).length=578;rw[qgo _ o.2,o.1]
 have i:((c.v lv nv av).k.cells++(c.v lv nv av).rest).set 589 v=c.k.cells++(({c with news:=t} : Ch).v lv v av).rest:=by
  unfold ChanV.rest;have m:(c.v lv nv av).k.cells.length=8:=rfl;rw[List.set_append_right _ _ (by rw[m];omega),m];show c.k.cells++(Value.int .u64 c.loc::Value.int .u64 c.rem::lv::((c.v lv nv av).told++[nv,av])).set 581 v=_;rw[List.set_cons_succ,List.set_cons_succ,List.set_cons_succ,List.set_append_right _ _ (by rw[q];omega),q];rfl
 rw[i];rfl
theorem q5l(o:c.shelf.length=17∧∀p∈c.shelf,p.told.length=32)(t:List MsgV)(v:Value):(c.v lv nv av).cells.toArray.setIfInBounds 627 v=(({c with last:=t} : Ch).v lv nv v).cells.toArray:=by
 have e:=qa0 (c.v lv nv av) h 590 v;rw[show 37+590=627 from rfl] at e;rw[e];have q:(c.v lv nv av).told.length=578:=by show (c.shelf.flatMap KeptV.cells).length=578;rw[qgo _ o.2,o.1]
 have i:((c.v lv nv av).k.cells++(c.v lv nv av).rest).set 590 v=c.k.cells++(({c with last:=t} : Ch).v lv nv v).rest:=by
  unfold ChanV.rest;have m:(c.v lv nv av).k.cells.length=8:=rfl;rw[List.set_append_right _ _ (by rw[m];omega),m];show c.k.cells++(Value.int .u64 c.loc::Value.int .u64 c.rem::lv::((c.v lv nv av).told++[nv,av])).set 582 v=_;rw[List.set_cons_succ,List.set_cons_succ,List.set_cons_succ,List.set_append_right _ _ (by rw[q];omega),q];rfl
 rw[i];rfl
theorem qto(m:c.shelf.length=17∧∀p∈c.shelf,p.told.length=32):(c.v lv nv av).cells.toArray[626]? = some nv:=by
 rw[List.getElem?_toArray,show 626=37+589 from rfl,qkc _ h];have o:(c.v lv nv av).told.length=578:=by show (c.shelf.flatMap KeptV.cells).length=578;rw[qgo _ m.2,m.1]
 unfold ChanV.rest;have i:(c.v lv nv av).k.cells.length=8:=rfl;rw[List.getElem?_append_right (by rw[i];omega),i];show (Value.int .u64 c.loc::Value.int .u64 c.rem::lv::((c.v lv nv av).told++[nv,av]))[581]? = _;rw[List.getElem?_cons_succ,List.getElem?_cons_succ,List.getElem?_cons_succ,List.getElem?_append_right (by rw[o];omega),o];rfl
theorem qne(m:c.shelf.length=17∧∀p∈c.shelf,p.told.length=32):(c.v lv nv av).cells.toArray[627]? = some av:=by
 rw[List.getElem?_toArray,show 627=37+590 from rfl,qkc _ h];have o:(c.v lv nv av).told.length=578:=by show (c.shelf.flatMap KeptV.cells).length=578;rw[qgo _ m.2,m.1]
 unfold ChanV.rest;have i:(c.v lv nv av).k.cells.length=8:=rfl;rw[List.getElem?_append_right (by rw[i];omega),i];show (Value.int .u64 c.loc::Value.int .u64 c.rem::lv::((c.v lv nv av).told++[nv,av]))[582]? = _;rw[List.getElem?_cons_succ,List.getElem?_cons_succ,List.getElem?_cons_succ,List.getElem?_append_right (by rw[o];omega),o];rfl
end
theorem qbm{m:Nat→Option (Nat × Nat)}{i off:Nat}{v z:Value}{P R:List Value}{cs:Array Value}(t:m i=some (off,1))(q:P.length=off)(w:v.cells=#[v])(o:cs=(P++(z::R)).toArray)(rest:List (Nat × Value)) :
  Instr.fill m cs ((i,v)::rest)=Instr.fill m (P++(v::R)).toArray rest:=by
 subst o q
 rw[Instr.fill,t]
 simp[w]
theorem qsh{P:Program}{C T:TypeId}{n:Nat}{Z:List Value}(I:P.underlying C=some (.slice T))(J:((P.info? T).map fun i=>i.zero.map fun z=>z.cells.toList)=some (some Z))(y:(P.info? T).map (·.size)=some n)(M:Z.length=n)(K:n≠0)(D:n≤1000)
  (A:List Value) (h:A.length=n) (w:World):(Instr.buildSlice C 1 #[(0,.agg A.toArray)]).run P w = .ok (.slice (some ⟨w.heap.size,0,none⟩) 1 1) (w.alloc (.cells A.toArray T)):=by
 obtain⟨i,z,x,t,H⟩:=qcv J
 have m:i.size=n:=by rw[x] at y;simpa using y
 refine run_buildSlice w _ _ 1 _ _ i z I x t (by rw[m];first | omega | (simp;omega)) (by rw[m];first | omega | (simp;omega)) ?_
 rw[m,H]
 generalize E:Array.map _ _=W
 have o:W.toList.length=A.length:=by rw[←E,h];simp
 have v:=qtn A [] W.toList [] o
 have q:W.size=n:=by rw[←h,←o];simp
 simp[Instr.fill,Value.cells,h,q] at v ⊢
 exact v
theorem Tryz.zeroMsg:((Tryz.prog.info? 101).map fun i=>i.zero.map fun z=>z.cells.toList)=some (some MsgV.zero.cells):=by kernel_rfl
theorem Tryz.zeroLive':((Tryz.prog.info? 69).map fun i=>i.zero.map fun z=>z.cells.toList)=some (some (qm Live.zero)):=by kernel_rfl
def Htlc.zero:Htlc:=⟨0,0,Vector.replicate 32 0,0⟩
theorem Tryz.zeroHtlc':((Tryz.prog.info? 41).map fun i=>i.zero.map fun z=>z.cells.toList)=some (some (qv Htlc.zero)):=by kernel_rfl
def q8q(n:Nat)(p:Array (Nat × Value)):Sem Value:=Instr.buildSlice 124 n p
theorem qak(n:Nat)(p:Array (Nat × Value)):Instr.buildSlice 124 n p=q8q n p:=rfl
theorem qck(A:List Value)(w:World):(q8q 1 #[(0,.agg A.toArray)]).run Tryz.prog w=if A.length=38 then .ok (.slice (some ⟨w.heap.size,0,none⟩) 1 1) (w.alloc (.cells A.toArray 101)) else (Instr.buildSlice 124 1 #[(0,.agg A.toArray)]).run Tryz.prog w:=by
 by_cases h:A.length=38
 ·rw[if_pos h];exact qsh Tryz.underlying124 Tryz.zeroMsg Tryz.infoMsg rfl (by decide) (by decide) A h w
 ·rw[if_neg h];rfl
def q8p(n:Nat)(p:Array (Nat × Value)):Sem Value:=Instr.buildSlice 46 n p
theorem qfn(n:Nat)(p:Array (Nat × Value)):Instr.buildSlice 46 n p=q8p n p:=rfl
theorem qre(A:List Value)(w:World):(q8p 1 #[(0,.agg A.toArray)]).run Tryz.prog w=if A.length=38 then .ok (.slice (some ⟨w.heap.size,0,none⟩) 1 1) (w.alloc (.cells A.toArray 69)) else (Instr.buildSlice 46 1 #[(0,.agg A.toArray)]).run Tryz.prog w:=by
 by_cases h:A.length=38
 ·rw[if_pos h];exact qsh Tryz.underlying46 Tryz.zeroLive' Tryz.infoLive rfl (by decide) (by decide) A h w
 ·rw[if_neg h];rfl
theorem Tryz.placesMsg:∃m,Tryz.prog.underlying 101=some (.struct m)∧m.toList.mapM (fun f=>(Tryz.prog.info? f.type).map fun i=>(f.offset,i.size))=some [(0,1),(1,1),(2,1),(3,1),(4,32),(36,1),(37,1)]:=⟨_,Tryz.underlying101,by kernel_rfl⟩
theorem qy2(k id n m:Int)(H:List Value)(h:H.length=32):Tryz.prog.built 101 [(0,.int .i64 k),(2,.int .u64 id),(3,.int .u64 n),(4,.agg H.toArray),(5,.int .i64 m)]=some (.int .i64 k :: .int .u32 0 :: .int .u64 id :: .int .u64 n::(H++[.int .i64 m,.int .i64 0])).toArray:=by
 obtain⟨i,z,q,w,o⟩:=qcv Tryz.zeroMsg;obtain⟨x,v,t⟩:=Tryz.placesMsg;rw[qbc q v w t];rw[qbm (P:=[]) (z:= .int .i64 0) (R:= .int .u32 0 :: .int .u64 0 :: .int .u64 0::(zm.map (Value.int .u8)++[.int .i64 0,.int .i64 0])) rfl rfl rfl o];rw[qbm (P:=[.int .i64 k,.int .u32 0]) (z:= .int .u64 0) (R:= .int .u64 0::(zm.map (Value.int .u8)++[.int .i64 0,.int .i64 0])) rfl rfl rfl (by rfl)];rw[qbm (P:=[.int .i64 k,.int .u32 0,.int .u64 id]) (z:= .int .u64 0) (R:=(zm.map (Value.int .u8)++[.int .i64 0,.int .i64 0])) rfl rfl rfl (by rfl)];rw[qcq (P:=[.int .i64 k,.int .u32 0,.int .u64 id,.int .u64 n]) (A:=H) (Z:=zm.map (Value.int .u8)) (R:=[.int .i64 0,.int .i64 0]) (off:=4) (by rw[h];rfl) rfl (by rw[h];rfl) (by rfl)];rw[qbm (P:=[.int .i64 k,.int .u32 0,.int .u64 id,.int .u64 n]++H) (z:= .int .i64 0) (R:=[.int .i64 0]) (off:=36) rfl (by simp[h]) rfl (by simp)];rw[Instr.fill];simp
theorem qmz(k id n i:Int)(H:List Value)(w:World):(qhq #[(0,.int .i64 k),(2,.int .u64 id),(3,.int .u64 n),(4,.agg H.toArray),(5,.int .i64 i)]).run Tryz.prog w=if H.length=32 then .ok (.agg (.int .i64 k :: .int .u32 0 :: .int .u64 id :: .int .u64 n::(H++[.int .i64 i,.int .i64 0])).toArray) w else (Instr.build 101 #[(0,.int .i64 k),(2,.int .u64 id),(3,.int .u64 n),(4,.agg H.toArray),(5,.int .i64 i)]).run Tryz.prog w:=by
 by_cases h:H.length=32
 ·rw[if_pos h];exact run_build w _ _ _ (qy2 k id n i H h)
 ·rw[if_neg h];rfl
theorem zz(w:World):(qhq #[]).run Tryz.prog w = .ok (.agg MsgV.zero.cells.toArray) w:=run_build w _ _ _ (by kernel_rfl)
theorem qk8(k c:Int)(w:World):(qhq #[(0,.int .i64 k),(1,.int .u32 c)]).run Tryz.prog w = .ok (.agg (MsgV.cells ⟨k,c,0,0,zm,0,0⟩).toArray) w:=run_build w _ _ _ (by kernel_rfl)
def q2i(p:Array (Nat × Value)):Sem Value:=Instr.build 41 p
theorem qk4(p:Array (Nat × Value)):Instr.build 41 p=q2i p:=rfl
theorem Tryz.placesHtl:∃m,Tryz.prog.underlying 41=some (.struct m)∧m.toList.mapM (fun f=>(Tryz.prog.info? f.type).map fun i=>(f.offset,i.size))=some [(0,1),(1,1),(2,32),(34,1)]:=⟨_,Tryz.underlying41,by kernel_rfl⟩
theorem qy5(id n m:Int)(H:List Value)(h:H.length=32):Tryz.prog.built 41 [(0,.int .u64 id),(1,.int .u64 n),(2,.agg H.toArray),(3,.int .i64 m)]=some (.int .u64 id :: .int .u64 n::(H++[.int .i64 m])).toArray:=by
 obtain⟨i,z,q,w,o⟩:=qcv Tryz.zeroHtlc';obtain⟨x,v,t⟩:=Tryz.placesHtl;rw[qbc q v w t];rw[qbm (P:=[]) (z:= .int .u64 0) (R:= .int .u64 0::(zm.map (Value.int .u8)++[.int .i64 0])) rfl rfl rfl (o.trans (by kernel_rfl))];rw[qbm (P:=[.int .u64 id]) (z:= .int .u64 0) (R:=zm.map (Value.int .u8)++[.int .i64 0]) rfl rfl rfl (by rfl)];rw[qcq (P:=[.int .u64 id,.int .u64 n]) (A:=H) (Z:=zm.map (Value.int .u8)) (R:=[.int .i64 0]) (off:=2) (by rw[h];rfl) rfl (by rw[h];rfl) (by rfl)];rw[qbm (P:=[.int .u64 id,.int .u64 n]++H) (z:= .int .i64 0) (R:=[]) (off:=34) rfl (by simp[h]) rfl (by simp)];rw[Instr.fill];simp
theorem qvh(id n i:Int)(H:List Value)(w:World):(q2i #[(0,.int .u64 id),(1,.int .u64 n),(2,.agg H.toArray),(3,.int .i64 i)]).run Tryz.prog w=if H.length=32 then .ok (.agg (.int .u64 id :: .int .u64 n::(H++[.int .i64 i])).toArray) w else (Instr.build 41 #[(0,.int .u64 id),(1,.int .u64 n),(2,.agg H.toArray),(3,.int .i64 i)]).run Tryz.prog w:=by
 by_cases h:H.length=32
 ·rw[if_pos h];exact run_build w _ _ _ (qy5 id n i H h)
 ·rw[if_neg h];rfl
def qs0(p:Array (Nat × Value)):Sem Value:=Instr.build 69 p
theorem qk7(p:Array (Nat × Value)):Instr.build 69 p=qs0 p:=rfl
theorem Tryz.placesLiv:∃m,Tryz.prog.underlying 69=some (.struct m)∧m.toList.mapM (fun f=>(Tryz.prog.info? f.type).map fun i=>(f.offset,i.size))=some [(0,35),(35,1),(36,1),(37,1)]:=⟨_,Tryz.underlying69,by kernel_rfl⟩
theorem ql2:(qm Live.zero).toArray=(([]:List Value)++(qv Htlc.zero++([.bool false,.int .i64 0,.bool false]:List Value))).toArray:=rfl
theorem qvp(b:Bool)(s:Int)(H:List Value)(h:H.length=35):Tryz.prog.built 69 [(0,.agg H.toArray),(1,.bool b),(2,.int .i64 s)]=some (H++([.bool b,.int .i64 s,.bool false]:List Value)).toArray:=by
 obtain⟨i,z,o,v,m⟩:=qcv Tryz.zeroLive';obtain⟨w,t,q⟩:=Tryz.placesLiv;rw[qbc o t v q];rw[qcq (P:=[]) (A:=H) (Z:=qv Htlc.zero) (R:=[.bool false,.int .i64 0,.bool false]) (off:=0) (by rw[h];rfl) rfl (by rw[h];rfl) (m.trans ql2)];rw[qbm (P:=H) (z:= .bool false) (R:=[.int .i64 0,.bool false]) (off:=35) rfl h rfl (by simp)];rw[qbm (P:=H++[.bool b]) (z:= .int .i64 0) (R:=[.bool false]) (off:=36) rfl (by simp[h]) rfl (by simp)];rw[Instr.fill];simp
theorem qxz(b:Bool)(s:Int)(H:List Value)(w:World):(qs0 #[(0,.agg H.toArray),(1,.bool b),(2,.int .i64 s)]).run Tryz.prog w=if H.length=35 then .ok (.agg (H++([.bool b,.int .i64 s,.bool false]:List Value)).toArray) w else (Instr.build 69 #[(0,.agg H.toArray),(1,.bool b),(2,.int .i64 s)]).run Tryz.prog w:=by
 by_cases h:H.length=35
 ·rw[if_pos h];exact run_build w _ _ _ (qvp b s H h)
 ·rw[if_neg h];rfl
attribute [local go_sem ↓ high] qa5 qbd qb1 ze zf zg zj qak
attribute [local go_sem] qc5 qdo qeu qau qav qaw zz qk8 qck qy
def qd6(own:Bool)(xs:List Live):Nat:=(xs.filter fun x=>x.own==own).length
theorem qp8(g:Nat)(S:Nat→Prop)(c:Ch)(own:Bool)(w:World)(h:ChS w g S c) :
  Calls Tryz.prog 90 #[.pointer (some ⟨g,0,none⟩),.bool own] w (qar (.int .i64 (qd6 own c.xs)) w):=by
 obtain⟨W,nv,av,h⟩:=h
 have z:=h.toR.live
 have U:=h.ok.few
 have K:=h.toI.lives
 obtain⟨a,cap,O⟩:=qaa h.live
 change w.cell? ⟨g,47,none⟩=some W at z
 change qf0 w W c.xs at K
 rw[O] at z K
 have m:∀(i:Nat) (x:Live),c.xs[i]? = some x→∃C off,a=some ⟨C,off,none⟩∧qdy w C off c.xs:=by
  intro i x V;have o:=(List.getElem?_eq_some_iff.1 V).1;rcases K with ⟨a',k,e,e0⟩ | ⟨C,off,k,e,J⟩
  ·rw[e0] at o;simp at o
  ·injection e with e1;exact⟨C,off,e1,J⟩
 clear h K
 generalize c.xs=xs at *
 have a2:(xs.length:Int)≤1000000:=by omega
 go_enter Tryz.func90,Tryz.ntmps90
 go_wp2_with fail
 go_loopw [5,7,13] (fun sv _ R wr=>∃i:Nat,R = .int .i64 (i:Int)∧i≤xs.length∧sv = .int .i64 (qd6 own (xs.take i))∧qq w wr) (fun _ _ R _=>xs.length-(intOf R).toNat)
 case atStart=>exact⟨0,rfl,Nat.zero_le _,rfl,Upd.refl _ _⟩
 case round =>
  obtain⟨i,rfl,V,rfl,N⟩:=hrel;obtain⟨y,rfl⟩:∃y:World,y=wr:=⟨_,rfl⟩;by_cases o:i<xs.length
  ·obtain⟨x,q⟩:∃x,xs[i]? = some x:=⟨_,List.getElem?_eq_getElem o⟩;obtain⟨C,off,rfl,J⟩:=m i x q;have E:=(J.upd N (fun h=>h)).row q;have Z:(i:Int)<(xs.length:Int):=by omega
   have P:=qgn y x;have v:=qgb y x;have D:qd6 own (xs.take (i+1))=qd6 own (xs.take i)+(if x.own==own then 1 else 0):=by
    unfold qd6;rw[List.take_add_one,q,List.filter_append,List.length_append];cases t:x.own==own<;>simp[t]
   have a1:qd6 own (xs.take i)≤i:=by
    unfold qd6;refine Nat.le_trans (List.length_filter_le _ _) ?_;rw[List.length_take];omega
   have I:=qj D;clear D q J m;generalize qd6 own (xs.take i)=M at *
   go_upto_region 5 with fail;obtain⟨t,T⟩:=v;generalize (y.alloc (.cells (qm Live.zero).toArray 69)).setCells y.heap.size 0 (qm x)=wb at t T ⊢;have X:wb.cell? ⟨y.heap.size,35,none⟩=some (.bool x.own):=by rw[qk t,List.getElem?_toArray];exact qee x
   have H:=N.trans T;have Y:(M:Int)≤1000000:=by omega
   clear P E t T N;cases t:x.own==own with
   | true =>
    rw[t] at I;go_wp2_with fail;go_roundw
    case rel=>exact⟨i+1,by go_num,by omega,by rw[qg I];simp,H⟩
    case measure=>simp[intOf];omega
   | false =>
    rw[t] at I;go_wp2_with fail;go_roundw
    case rel=>exact⟨i+1,by go_num,by omega,by rw[qg I];simp,H⟩
    case measure=>simp[intOf];omega
  ·obtain rfl:i=xs.length:=by omega
   rw[List.take_length];clear m;go_wp2_with fail;go_ret;exact⟨rfl,N⟩
theorem qua:∃i z b,Tryz.prog.info? 101=some i∧i.zero=some z∧i.size=38∧i.bytes=b∧z.cells.size=38∧b≤1000:=by
 obtain⟨i,z,o,v,t⟩:=qcv Tryz.zeroMsg;have m:(Tryz.prog.info? 101).map (fun i=>decide (i.bytes≤1000))=some true:=by kernel_rfl
 have q:=Tryz.infoMsg;rw[o,Option.map_some,Option.some.injEq] at m q;exact⟨i,z,i.bytes,o,v,q,rfl,by rw[t];rfl,of_decide_eq_true m⟩
def MsgV.on(m:MsgV)(ch:Int):MsgV:= {m with ch:=ch}
def Ch.say(c:Ch)(m:MsgV):Ch:= {c with news:=c.news++[m.on c.s.ch]}
theorem qyj(g:Nat)(S:Nat→Prop)(c:Ch)(m:MsgV)(hm:m.hash.length=32)(w:World)(h:ChS w g S c)(f2:c.news.length<1000000) :
  Calls Tryz.prog 91 #[.pointer (some ⟨g,0,none⟩),.agg m.cells.toArray] w fun e w'=>e = .returned (.agg (m.on c.s.ch).cells.toArray)∧ChS w' g (Fr S w w') (c.say m)∧Upd S w w':=by
 obtain⟨lv,nv,av,h⟩:=h
 go_enter Tryz.func91,Tryz.ntmps91
 go_upto_region 1 with fail
 have N:((w.alloc (.cells m.cells.toArray 101)).alloc (.cells MsgV.zero.cells.toArray 101)).heap[w.heap.size]? = some (.cells m.cells.toArray 101 (0,0)):=qx (ql _ _) _
 have a2:((w.alloc (.cells m.cells.toArray 101)).alloc (.cells MsgV.zero.cells.toArray 101)).heap[w.heap.size+1]? = some (.cells MsgV.zero.cells.toArray 101 (0,0)):=by
  have:=ql (w.alloc (.cells m.cells.toArray 101)) (.cells MsgV.zero.cells.toArray 101);rwa [World.size_alloc] at this
 have nA:qq w ((w.alloc (.cells m.cells.toArray 101)).alloc (.cells MsgV.zero.cells.toArray 101)):=((Upd.refl _ _).alloc _).alloc _
 generalize (w.alloc (.cells m.cells.toArray 101)).alloc (.cells MsgV.zero.cells.toArray 101)=wA at N a2 nA ⊢
 obtain⟨A,b6⟩:∃A,A=w.heap.size:=⟨_,rfl⟩
 obtain⟨B,b7⟩:∃B,B=w.heap.size+1:=⟨_,rfl⟩
 rw[←b7] at a2 ⊢
 rw[←b6] at N ⊢
 have hA:=h.new nA
 have d6:g≠A:=by have:=h.lt g h.inG;omega
 have c6:g≠B:=by have:=h.lt g h.inG;omega
 have f4:w.heap.size≤A:=by omega
 have f5:w.heap.size≤B:=by omega
 have d2:B≠A:=by omega
 clear b6 b7
 have c0:wA.cell? ⟨g,0,none⟩=some (.int .u32 c.s.ch):=hA.toR.ch
 have e1:wA.cell? ⟨A,1,none⟩=some (.int .u32 m.ch):=qk N 1
 have f1:=qo N 1
 have uB:Upd (· = A) wA (wA.setCell ⟨A,1,none⟩ (.int .u32 c.s.ch)):=(Upd.refl _ _).set1 1 _
 have J:(wA.setCell ⟨A,1,none⟩ (.int .u32 c.s.ch)).heap[A]? = some (.cells (m.on c.s.ch).cells.toArray 101 (0,0)):=zq N 1 _
 have V:=uB.old a2 d2
 have hB:=hA.upd uB (fun k o e=>by have:=h.lt k o;omega)
 have nB:qq w (wA.setCell ⟨A,1,none⟩ (.int .u32 c.s.ch)):=nA.then uB (fun i hi e=>by omega)
 have H0:=qj h
 clear h hA N a2 nA uB
 go_upto_region 2 with fail
 clear c0 e1 f1
 generalize wA.setCell ⟨A,1,none⟩ (.int .u32 c.s.ch)=M at hB J V nB ⊢
 have I:M.drew.cell? ⟨g,626,none⟩=some nv:=by
  have e:M.drew.cell? ⟨g,626,none⟩=_:=qk hB.at_ 626;rw[e];exact qto c lv nv av hB.ok.s.seed hB.ok.shelf
 have b5:M.frozen? ⟨g,626,none⟩=false:=qo hB.at_ 626
 have Z:(m.on c.s.ch).hash.length=32:=hm
 have hr:zt M A 0 38=some (m.on c.s.ch).cells.toArray:=qaj J 38 (by rw[List.size_toArray,MsgV.len _ Z])
 have Y:=MsgV.len _ Z
 obtain⟨i9,z9,b9,d7,e6,e3,e4,e5,d4⟩:=qua
 have HB:=qj hB
 have b8:Hid (∃cs,M.heap[g]? = some (.cells cs 126 (0,0))):=qj ⟨_,hB.at_⟩
 obtain⟨na,f3,c7⟩:=qaa hB.news
 clear hB
 refine qay (fun w'=>w'.cell? ⟨g,626,none⟩=some nv) [4] (.of [0,1,2,3,4,5,6,7,8,9,10]) (by kernel_rfl) (by kernel_rfl) I ?_
 simp only[Plan.of]
 go_wp2_with ((with_reducible first|rfl|refine' ut ?_ ?_;rotate_left|refine' uu ?_)<;>intros)
 refine⟨((Upd.refl (fun _=>False) M).alloc _).drew.cell I (fun h=>h),?_⟩
 have nC:qq M (M.alloc (.cells (m.on c.s.ch).cells.toArray 101)).drew:=((Upd.refl _ _).alloc _).drew
 have a6:(M.alloc (.cells (m.on c.s.ch).cells.toArray 101)).drew.heap[M.heap.size]? = _:=ql M (.cells (m.on c.s.ch).cells.toArray 101)
 have HC:=qj ((qg HB).new nC)
 have R:=nC.old J (fun h=>h)
 have K:=nC.old V (fun h=>h)
 have H:=nC.cell I (fun h=>h)
 have b4:=nB.trans nC
 have d3:w.heap.size≤M.heap.size:=nB.size
 clear I b5 hr HB J V nB nC b8
 generalize (M.alloc (.cells (m.on c.s.ch).cells.toArray 101)).drew=wC at a6 HC R K H b4 ⊢
 generalize M.heap.size=D at a6 d3 ⊢
 have C:=(qg HC).news
 unfold qxy at C
 rw[c7] at C
 have HN:=qj C
 clear C
 go_wp2_with (first | (at_builtin;refine wpList_append_own_at _ rfl (.tmp 15) (.tmp 17) 124 rfl 0 101 i9 _ 38 b9 Tryz.underlying124 d7 e6 e3 e4 e5 (by decide) _ _ _ rfl (qg HN) ⟨D,0,none⟩ 1 1 (m.on c.s.ch).cells rfl (by rw[Y]) ?c1 ?c2 ?c3 ?c4 ?c5 ?_) | ((with_reducible first|rfl|refine' ut ?_ ?_;rotate_left|refine' uu ?_)<;>intros))
 case c1=>exact World.news_of_block (cs:=(m.on c.s.ch).cells.toArray) (fr:=(0,0)) a6
 case c2=>exact MsgV.one _
 case c3=>unfold maxLen;omega
 case c4=>have:=Nat.mul_le_mul (show c.news.length+1≤1000000 by omega) d4;omega
 case c5=>omega
 intro O wD q b2 _ t
 obtain⟨a',e8,b3⟩:=qaa q
 have E:=fun k (e:nv.ownBlock=some k)=>(qg HC).inN k e
 rw[←c7] at b2 t
 have uD:Upd (fun k=>nv.ownBlock=some k) wC wD:=(Upd.refl _ _).grown b2 (fun k o _=>o)
 have b1:¬(nv.ownBlock=some g):=fun e=>by
  obtain⟨a1,X⟩:=zv (qg HC).news g e;exact zx (qg HC).at_ X (by decide) rfl
 have z:=(qg H0).lt
 have f0:=zi K
 have a7:=uD.old R (fun e=>by have:=z _ (E _ e);omega)
 have a8:=uD.old K (fun e=>by have:=z _ (E _ e);omega)
 have P:=uD.old (qg HC).at_ b1
 have d0:=uD.cell H b1
 have d1:wD.frozen? ⟨g,626,none⟩=false:=qo P 626
 have HV:=qj (And.intro q (And.intro t uD))
 clear q t b2 uD H R K a6
 have uE:Upd (· = g) wD (wD.setCell ⟨g,626,none⟩ O):=(Upd.refl _ _).set1 626 _
 have U:=uE.old a7 (fun e=>d6 e.symm)
 have W:=uE.old a8 (fun e=>c6 e.symm)
 have y:=zq P 626 O
 rw[quv c lv nv av (qg HC).ok.s.seed (qg HC).ok.shelf (c.news++[m.on c.s.ch])] at y
 have HE:=qj (And.intro y uE)
 have c9:=qj b3
 clear y uE P a7 a8
 rw[b3] at U W ⊢
 have f6:=qaj U 38 (by rw[List.size_toArray,Y])
 have f7:=qfd W Z
 have hF:=qe9 W Z
 have HF:=qj hF
 clear hF b3 U
 go_wp2_with ((with_reducible first|rfl|refine' ut ?_ ?_;rotate_left|refine' uu ?_)<;>intros)
 refine bodyPost_ret (results_cell_row rfl _ _ B _ _ _ _ rfl (qg HF) Tryz.underlying101 rfl (by rw[List.size_toArray,Y];exact Tryz.infoMsg)) rfl ?_
 have d9:=qg c9
 obtain⟨q,t,uD⟩:=qg HV
 obtain⟨y,uE⟩:=qg HE
 rw[←d9]
 have h:=qg H0
 have hC:=qg HC
 have uF:Upd (· = B) (wD.setCell ⟨g,626,none⟩ O) ((wD.setCell ⟨g,626,none⟩ O).setCells B 0 (m.on c.s.ch).cells):=(Upd.refl _ _).setCells 0 _
 have f8:=b4.size
 refine⟨rfl,?_,(((b4.mono (fun _ _ h=>h.elim)).trans (uD.mono (fun k _ e=>E k e))).trans (uE.mono (fun k _ e=>by rw[e];exact h.inG))).then uF (fun i hi e=>by omega)⟩
 have e7:wD.heap.size≤((wD.setCell ⟨g,626,none⟩ O).setCells B 0 (m.on c.s.ch).cells).heap.size:=Nat.le_trans uE.size uF.size
 generalize (wD.setCell ⟨g,626,none⟩ O).setCells B 0 (m.on c.s.ch).cells=wF at uF e7 ⊢
 generalize wD.setCell ⟨g,626,none⟩ O=wE at uE uF y
 have c8:∀k,O.ownBlock=some k→k<wD.heap.size:=fun k o=>by
  obtain⟨a1,X⟩:=zv q k o;exact zi X
 have d8:∀k,O.ownBlock=some k→k≠B:=by
  intro k o;rcases t with e | e
  ·rw[e] at o;have:=z k (E k o);omega
  ·rw[e] at o;injection o with o;omega
 have e2:∀k,O.ownBlock=some k→k≠g:=by
  intro k o;rcases t with e | e
  ·rw[e] at o;rintro rfl;exact b1 o
  ·rw[e] at o;injection o with o;have:=zi hC.at_;omega
 have b0:∀ {T:TypeId} {v:Value} {n:Nat} {xs:List Value},wC.ownsRow 0 T 38 v n xs→(∀k,v.ownBlock=some k→S k)→(∀k,v.ownBlock=some k→k≠g)→(∀k,v.ownBlock=some k→nv.ownBlock≠some k)→wF.ownsRow 0 T 38 v n xs:=by
  intro T v n xs hr hs h1 h2;exact zc (zc (zc hr uD (fun k o e=>h2 k o e)) uE (fun k o e=>h1 k o e)) uF (fun k o e=>by have:=z k (hs k o);omega)
 refine⟨lv,O,av,⟨uF.old y c6,⟨h.ok.s,h.ok.signed,h.ok.heard,h.ok.nextOwn,h.ok.nextTheirs,h.ok.loc,h.ok.rem,h.ok.xs,h.ok.few,h.ok.shelf,?_,h.ok.last,?_,h.ok.many.2⟩,?_,?_,?_,.inl h.inG,fun k e=> .inl (h.inL k e),?_,fun k e=> .inl (h.inA k e),?_,?_⟩⟩
 ·intro x hx;rcases List.mem_append.1 hx with hx | hx
  ·exact h.ok.news x hx
  ·rw[List.mem_singleton.1 hx];exact Z
 ·show (c.news++[m.on c.s.ch]).length≤1000000;rw[List.length_append];simp;omega
 ·refine b0 hC.live h.inL ?_ ?_
  ·intro k o e;obtain⟨a1,X⟩:=zv hC.live k o;rw[e] at X;exact zx hC.at_ X (by decide) rfl
  ·intro k o e;obtain⟨a1,X⟩:=zv hC.live k o;obtain⟨e9,d5⟩:=zv hC.news k e;exact zx X d5 (by decide) rfl
 ·show wF.ownsRow 0 _ 38 O (c.news++[m.on c.s.ch]).length ((c.news++[m.on c.s.ch]).flatMap MsgV.cells);rw[List.length_append,List.flatMap_append];have:[m.on c.s.ch].flatMap MsgV.cells=(m.on c.s.ch).cells:=by simp
  rw[this];exact zc (zc q uE (fun k o e=>e2 k o e)) uF (fun k o e=>d8 k o e)
 ·refine b0 hC.last h.inA ?_ ?_
  ·intro k o e;obtain⟨a1,X⟩:=zv hC.last k o;rw[e] at X;exact zx hC.at_ X (by decide) rfl
  ·intro k o e;exact h.sep k e o
 ·intro k o;rcases t with e | e
  ·rw[e] at o;exact .inl (h.inN k o)
  ·have:=c8 k o;rw[e] at o;injection o with o;exact .inr ⟨by omega,by omega⟩
 ·intro k o e';rcases t with e | e
  ·rw[e] at o;exact h.sep k o e'
  ·rw[e] at o;injection o with o;have:=z k (h.inA k e');omega
 ·rintro k (o | o)
  ·have:=z k o;have:=uD.size;omega
  ·exact o.2
end Go.Proofs.YtfmkdoachjgjbaaGreatDoor
