/-
  Messages as rows of cells.
-/
import Derived.Test.YtfmkdoachjgjbaaGreatDoorProg
import Derived.Test.YtfmkdoachjgjbaaGreatDoorMaf
import Derived.Test.YtfmkdoachjgjbaaGreatDoorTxt
import Derived.Deep.Onto
import Derived.Maps.AppendAt
import Derived.Deep.AppendLies
set_option maxRecDepth 100000
set_option maxHeartbeats 2000000
set_option linter.unusedVariables false
set_option linter.unusedSimpArgs false
namespace Go.Proofs.YtfmkdoachjgjbaaGreatDoor
section
open Go.RowKit
structure MsgV where
 kind:Int
 ch:Int
 id:Int
 amount:Int
 hash:List Int
 expiry:Int
 number:Int
def MsgV.cells(m:MsgV):List Value:= .int .i64 m.kind :: .int .u32 m.ch :: .int .u64 m.id :: .int .u64 m.amount::(m.hash.map (Value.int .u8)++[.int .i64 m.expiry,.int .i64 m.number])
theorem MsgV.len(m:MsgV)(h:m.hash.length=32):m.cells.length=38:=by simp[MsgV.cells,h]
theorem MsgV.one(m:MsgV):∀v∈m.cells,v.oneCell'=true:=by
 intro v f;simp only[MsgV.cells,List.mem_cons,List.mem_append,List.mem_map,List.not_mem_nil,or_false] at f;rcases f with rfl | rfl | rfl | rfl | ⟨n,_,rfl⟩ | rfl | rfl<;>rfl
def zg:List Int:=List.replicate 32 0
theorem qm:zg.length=32:=List.length_replicate
theorem Tryz.infoMsg:(Tryz.prog.info? 101).map (·.size)=some 38:=by kernel_rfl
def zaq(x:Value):Sem Value:=Instr.loadAt 101 x
theorem qz(x:Value):Instr.loadAt 101 x=zaq x:=rfl
theorem qax(b o:Nat)(w:World):(zaq (.pointer (some ⟨b,o,none⟩))).run Tryz.prog w=match zf w b o 38 with | some A=> .ok (.agg A) w | none=>qdn Tryz.prog 101 w b o :=
 qah 101 38 _ Tryz.underlying101 rfl Tryz.infoMsg b o w
def za1(x v:Value):Sem Unit:=Instr.storeAt 101 x v
theorem zb(x v:Value):Instr.storeAt 101 x v=za1 x v:=rfl
theorem qay(b o:Nat)(A:Array Value)(w:World):(za1 (.pointer (some ⟨b,o,none⟩)) (.agg A)).run Tryz.prog w=if stOk w b o 38 A=true then .ok () (w.setCells b o A.toList) else qel Tryz.prog 101 w b o A :=
 qaw 101 38 Tryz.infoMsg b o A w
def MsgV.zero:MsgV:=⟨0,0,0,0,zg,0,0⟩
def zae:Sem Value:=Instr.alloc 101 true (.tuple #[])
theorem ze:Instr.alloc 101 true (.tuple #[])=zae:=rfl
theorem qa4(w:World):zae.run Tryz.prog w = .ok (.pointer (some ⟨w.heap.size,0,none⟩)) (w.alloc (.cells MsgV.zero.cells.toArray 101)):=by kernel_rfl
def qiv(p:Array (Nat × Value)):Sem Value:=Instr.build 101 p
theorem zi(p:Array (Nat × Value)):Instr.build 101 p=qiv p:=rfl
theorem qrx(c n k:Int)(w:World):(qiv #[(0,.int .i64 9),(1,.int .u32 c),(6,.int .i64 n),(2,.int .u64 k)]).run Tryz.prog w = .ok (.agg (MsgV.cells ⟨9,c,k,0,zg,0,n⟩).toArray) w:=run_build w _ _ _ (by kernel_rfl)
theorem Tryz.infoBase:(Tryz.prog.info? 59).map (·.size)=some 2:=by kernel_rfl
theorem qk1{w:World}{b:Nat}{m:MsgV}{T:TypeId}(h:w.heap[b]? = some (.cells MsgV.zero.cells.toArray T (0,0)))(f:m.hash.length=32):(w.setCells b 0 m.cells).heap[b]? = some (.cells m.cells.toArray T (0,0)):=by
 rw[qba h 0 m.cells,qcz _ _ (by rw[m.len f];rfl)]
theorem qlj{w:World}{b:Nat}{T:TypeId}(h:w.heap[b]? = some (.cells MsgV.zero.cells.toArray T (0,0))){m:MsgV}(f:m.hash.length=32):stOk w b 0 38 m.cells.toArray=true :=
 qem (C:=MsgV.zero.cells.toArray) h (by rw[m.len f];rfl) m.one
attribute [local go_sem ↓ high] qz zb zi
attribute [local go_sem] qax qay qrx qx
structure ChI(w:World)(g:Nat)(c:ChanV)(xs:List Live):Prop extends ChR w g c where
 row:w.ownsRow 0 69 38 c.live xs.length (xs.flatMap qo)
theorem ChI.lives{w:World}{g:Nat}{c:ChanV}{xs:List Live}(h:ChI w g c xs):qgx w c.live xs:=by
 rcases (qdl h.row).2 with ⟨e,f⟩ | ⟨g,cap,e,-,i⟩
 ·exact .inl ⟨none,0,e,f⟩
 ·exact .inr ⟨g,0,cap,e,i.toL⟩
theorem ChI.shape{w:World}{g:Nat}{c:ChanV}{xs:List Live}(h:ChI w g c xs):∃a cap,c.live = .slice a xs.length cap:=by
 rcases (qdl h.row).2 with ⟨e,f⟩ | ⟨g,cap,e,-⟩
 ·exact⟨none,0,by rw[e,f];rfl⟩
 ·exact⟨_,cap,e⟩
theorem q6d(g:Nat)(c:ChanV)(xs:List Live)(z:xs.length≤1048576)(w:World)(h:ChI w g c xs) :
  Calls Tryz.prog 20 #[.pointer (some ⟨g,0,none⟩)] w fun e w'=>∃u,e = .returned u∧qq w w'∧((∃a k,u = .slice a 0 k∧xs=[])∨∃i cap,u = .slice (some ⟨i,0,none⟩) xs.length cap∧w.heap.size≤i∧qdy w' i 0 xs):=by
 go_enter Tryz.func20,Tryz.ntmps20
 have f:=h.toChR.live
 have q:=h.lives
 obtain⟨a,cap,m⟩:=h.shape
 rw[m] at f q
 clear h
 go_wp2_with (with_reducible first|(first|refine' tw1 (qh ?_) ?_|refine' tw2 (qh ?_) ?_);rotate_left|refine' tw3 (qh ?_)|rfl|apply tn|refine' tw4 ?_)
 refine(qp9 _ xs z _ q).mono ?_
 rintro e w' ⟨u,rfl,n,r⟩
 have v:=qb r
 clear r f q
 go_wp2_with (with_reducible first|(first|refine' tw1 (qh ?_) ?_|refine' tw2 (qh ?_) ?_);rotate_left|refine' tw3 (qh ?_)|rfl|apply tn|refine' tw4 ?_)
 go_ret
 exact⟨u,rfl,n,qa v⟩
end
section
open Go.RowKit
theorem qac{S:Nat→Prop}{w w':World}{base:Nat}{e:TypeId}{size:Nat}{v:Value}{n:Nat}{xs:List Value}(h:w.ownsRow base e size v n xs)(u:Upd S w w')(q:∀k,v.ownBlock=some k→¬S k):w'.ownsRow base e size v n xs:=by
 refine⟨h.1,?_⟩;rcases h.2 with h | ⟨g,cap,f,i,m,z,r⟩
 ·exact .inl h
 ·exact .inr ⟨g,cap,f,i,m,u.old z (q g (by rw[i];rfl)),r⟩
theorem qa3{w:World}{base:Nat}{e:TypeId}{size:Nat}{v:Value}{n:Nat}{xs:List Value}(h:w.ownsRow base e size v n xs):∀k,v.ownBlock=some k→∃f,w.heap[k]? = some (.cells f e (0,0)):=by
 intro k i;rcases h.2 with ⟨rfl,_⟩ | ⟨g,cap,f,rfl,q,m,_⟩
 ·simp[Value.ownBlock] at i
 ·simp[Value.ownBlock] at i;exact⟨f,i▸m⟩
theorem qbe{w:World}{k j:Nat}{c d:Array Value}{T U:TypeId}{x y:Nat × Nat}(h:w.heap[k]? = some (.cells c T x))(g:w.heap[j]? = some (.cells d U y))(n:T≠U):k≠j:=by
 rintro rfl;rw[h] at g;injection g with g;injection g with _ g;exact n g
theorem qaf{w:World}{base:Nat}{e:TypeId}{size:Nat}{v:Value}{n:Nat}{xs:List Value}(h:w.ownsRow base e size v n xs):∃a cap,v = .slice a n cap:=by
 rcases h.2 with ⟨e,i⟩ | ⟨g,cap,f,e,_⟩
 ·exact⟨none,0,by rw[e,i]⟩
 ·exact⟨_,cap,e⟩
theorem qy{P:Program}{i:Func}{p u:Tmp}{f:TypeId}(h:i.results=#[.cell p f,.tmp u])(tmps:Array Value)(w:World)(g:Nat)(t:TypeId)(cs:Array Value)(fr:Nat × Nat)(d:TypeDesc)
  (r:tmps.getD p undef = .pointer (some ⟨g,0,none⟩)) (m:w.heap[g]? = some (.cells cs t fr))
  (v:P.underlying f=some d) (hd:(match d with | .struct _ | .array _ _=>true | _=>false)=true) (q:(P.info? f).map (·.size)=some cs.size) :
  (results i tmps).run P w = .ok (.tuple #[.agg cs,tmps.getD u undef]) w:=by
 rw[results_cell_tmp h,r]
 simp[asAddr,run_loadVar_row w g t f cs fr d m v hd q,Result.andThen]
structure Ch where
 s:SetupV
 k:CountsV
 loc:Int
 rem:Int
 xs:List Live
 shelf:List KeptV
 news:List MsgV
 last:List MsgV
def Ch.v(c:Ch)(lv nv av:Value):ChanV:=⟨c.s,c.k,c.loc,c.rem,lv,c.shelf,nv,av⟩
def qrm(w:World)(v:Value)(xs:List Live):Prop:=w.ownsRow 0 69 38 v xs.length (xs.flatMap qo)
def qyz(w:World)(v:Value)(f:List MsgV):Prop:=w.ownsRow 0 101 38 v f.length (f.flatMap MsgV.cells)
def q3l(f:List MsgV):Prop:=∀m∈f,m.hash.length=32
structure Ch.Ok(c:Ch):Prop where
 s:c.s.Ok
 signed:0≤c.k.signed∧c.k.signed≤65535
 heard:0≤c.k.heard∧c.k.heard<4294967296
 nextOwn:0≤c.k.nextOwn∧c.k.nextOwn<18446744073709551616
 nextTheirs:0≤c.k.nextTheirs∧c.k.nextTheirs<18446744073709551616
 loc:0≤c.loc∧c.loc<18446744073709551616
 rem:0≤c.rem∧c.rem<18446744073709551616
 xs:∀x∈c.xs,LiveOk x
 few:c.xs.length≤1000000
 shelf:c.shelf.length=17∧∀p∈c.shelf,p.told.length=32
 news:q3l c.news
 last:q3l c.last
 many:c.news.length≤1000000∧c.last.length≤1000000
structure ChP(w:World)(g:Nat)(S:Nat→Prop)(c:Ch)(lv nv av:Value):Prop where
 at_:w.heap[g]? = some (.cells (c.v lv nv av).cells.toArray 126 (0,0))
 ok:c.Ok
 live:qrm w lv c.xs
 news:qyz w nv c.news
 last:qyz w av c.last
 inG:S g
 inL:∀k,lv.ownBlock=some k→S k
 inN:∀k,nv.ownBlock=some k→S k
 inA:∀k,av.ownBlock=some k→S k
 sep:∀k,nv.ownBlock=some k→av.ownBlock≠some k
 lt:∀k,S k→k<w.heap.size
def ChS(w:World)(g:Nat)(S:Nat→Prop)(c:Ch):Prop:=∃lv nv av,ChP w g S c lv nv av
def Fr(S:Nat→Prop)(w w':World)(k:Nat):Prop:=S k∨(w.heap.size≤k∧k<w'.heap.size)
section
variable {w w':World}{g:Nat}{S T:Nat→Prop}{c:Ch}{lv nv av:Value}
theorem ChP.upd(h:ChP w g S c lv nv av)(u:Upd T w w')(hd:∀k,S k→¬T k):ChP w' g S c lv nv av :=
 ⟨u.old h.at_ (hd g h.inG),h.ok,qac h.live u (fun k f=>hd k (h.inL k f)),qac h.news u (fun k f=>hd k (h.inN k f)),qac h.last u (fun k f=>hd k (h.inA k f)),h.inG,h.inL,h.inN,h.inA,h.sep,fun k f=>Nat.lt_of_lt_of_le (h.lt k f) u.size⟩
theorem ChP.new(h:ChP w g S c lv nv av)(u:qq w w'):ChP w' g S c lv nv av:=h.upd u (fun _ _ h=>h)
theorem ChP.wider(h:ChP w g S c lv nv av)(f:∀k,S k→T k)(i:∀k,T k→k<w.heap.size):ChP w g T c lv nv av :=
 ⟨h.at_,h.ok,h.live,h.news,h.last,f g h.inG,fun k e=>f k (h.inL k e),fun k e=>f k (h.inN k e),fun k e=>f k (h.inA k e),h.sep,i⟩
theorem ChP.fr(h:ChP w' g S c lv nv av)(w:World):ChS w' g (Fr S w w') c:=⟨_,_,_,h.wider (fun k f=> .inl f) (fun k f=>f.elim (h.lt k) (fun e=>e.2))⟩
theorem ChS.upd(h:ChS w g S c)(u:Upd T w w')(hd:∀k,S k→¬T k):ChS w' g S c:=by
 obtain⟨a,b,d,h⟩:=h;exact⟨a,b,d,h.upd u hd⟩
theorem ChS.new(h:ChS w g S c)(u:qq w w'):ChS w' g S c:=h.upd u (fun _ _ h=>h)
theorem ChS.lt(h:ChS w g S c):∀k,S k→k<w.heap.size:=by
 obtain⟨a,b,d,h⟩:=h;exact h.lt
theorem ChP.toR(h:ChP w g S c lv nv av):ChR w g (c.v lv nv av):=⟨h.at_,h.ok.s.seed⟩
theorem ChP.toI(h:ChP w g S c lv nv av):ChI w g (c.v lv nv av) c.xs:=⟨h.toR,h.live⟩
end
theorem ChP.put{w:World}{g:Nat}{S:Nat→Prop}{c c':Ch}{lv nv av:Value}(h:ChP w g S c lv nv av){i:Nat}{x:Value}(C:(c.v lv nv av).cells.toArray.setIfInBounds i x=(c'.v lv nv av).cells.toArray)(f:c'.Ok)(I:c'.xs=c.xs)(F:c'.news=c.news)(E:c'.last=c.last):ChP (w.setCell ⟨g,i,none⟩ x) g S c' lv nv av:=by
 have u:Upd (· = g) w (w.setCell ⟨g,i,none⟩ x):=(Upd.refl _ _).set1 i x;have m:∀ {T:TypeId} {v:Value} {n:Nat} {xs:List Value},T≠126→w.ownsRow 0 T 38 v n xs→∀k,v.ownBlock=some k→¬k=g:=by
  intro T v n xs r H k f e;obtain⟨q,z⟩:=qa3 H k f;exact qbe z h.at_ r e
 refine⟨?_,f,?_,?_,?_,h.inG,h.inL,h.inN,h.inA,h.sep,fun k f=>Nat.lt_of_lt_of_le (h.lt k f) u.size⟩
 ·have:=qad h.at_ i x;rw[C] at this;exact this
 ·rw[I];exact qac h.live u (m (by decide) h.live)
 ·rw[F];exact qac h.news u (m (by decide) h.news)
 ·rw[E];exact qac h.last u (m (by decide) h.last)
theorem qbk(v:ChanV)(h:v.setup.seed.length=32)(i:Nat)(x:Value):v.cells.toArray.setIfInBounds (37+i) x=(v.setup.cells++(v.k.cells++v.rest).set i x).toArray:=by
 unfold ChanV.cells;rw[List.setIfInBounds_toArray,List.set_append_right _ _ (by rw[v.setup.len h];omega),v.setup.len h,Nat.add_sub_cancel_left]
theorem qhl(l:List KeptV)(h:∀p∈l,p.told.length=32):(l.flatMap KeptV.cells).length=l.length*34:=by
 induction l with
 | nil=>rfl
 | cons x l i =>
  rw[List.flatMap_cons,List.length_append,i (fun p f=>h p (List.mem_cons_of_mem _ f)),List.length_cons];have:=h x (List.mem_cons_self ..);simp[KeptV.cells,this];omega
section
variable (c:Ch)(lv nv av:Value)(h:c.s.seed.length=32)
include h
theorem qyf(n:Int):(c.v lv nv av).cells.toArray.setIfInBounds 37 (.int .i64 n)=(({c with k:= {c.k with signed:=n}} : Ch).v lv nv av).cells.toArray:=qbk (c.v lv nv av) h 0 _
theorem q2y(n:Int):(c.v lv nv av).cells.toArray.setIfInBounds 38 (.int .i64 n)=(({c with k:= {c.k with heard:=n}} : Ch).v lv nv av).cells.toArray:=qbk (c.v lv nv av) h 1 _
theorem qye(b:Bool):(c.v lv nv av).cells.toArray.setIfInBounds 39 (.bool b)=(({c with k:= {c.k with awaits:=b}} : Ch).v lv nv av).cells.toArray:=qbk (c.v lv nv av) h 2 _
theorem qvk(n:Int):(c.v lv nv av).cells.toArray.setIfInBounds 40 (.int .u64 n)=(({c with k:= {c.k with nextOwn:=n}} : Ch).v lv nv av).cells.toArray:=qbk (c.v lv nv av) h 3 _
theorem qpd(n:Int):(c.v lv nv av).cells.toArray.setIfInBounds 41 (.int .u64 n)=(({c with k:= {c.k with nextTheirs:=n}} : Ch).v lv nv av).cells.toArray:=qbk (c.v lv nv av) h 4 _
theorem qp1(b:Bool):(c.v lv nv av).cells.toArray.setIfInBounds 43 (.bool b)=(({c with k:= {c.k with shutHeard:=b}} : Ch).v lv nv av).cells.toArray:=qbk (c.v lv nv av) h 6 _
theorem qvl(b:Bool):(c.v lv nv av).cells.toArray.setIfInBounds 44 (.bool b)=(({c with k:= {c.k with revoked:=b}} : Ch).v lv nv av).cells.toArray:=qbk (c.v lv nv av) h 7 _
theorem qzo(n:Int):(c.v lv nv av).cells.toArray.setIfInBounds 45 (.int .u64 n)=(({c with loc:=n} : Ch).v lv nv av).cells.toArray:=qbk (c.v lv nv av) h 8 _
theorem qzp(n:Int):(c.v lv nv av).cells.toArray.setIfInBounds 46 (.int .u64 n)=(({c with rem:=n} : Ch).v lv nv av).cells.toArray:=qbk (c.v lv nv av) h 9 _
theorem qvi(xs:List Live)(v:Value):(c.v lv nv av).cells.toArray.setIfInBounds 47 v=(({c with xs:=xs} : Ch).v v nv av).cells.toArray:=qbk (c.v lv nv av) h 10 _
theorem qvj(m:c.shelf.length=17∧∀p∈c.shelf,p.told.length=32)(r:List MsgV)(v:Value):(c.v lv nv av).cells.toArray.setIfInBounds 626 v=(({c with news:=r} : Ch).v lv v av).cells.toArray:=by
 have e:=qbk (c.v lv nv av) h 589 v;rw[show 37+589=626 from rfl] at e;rw[e];have q:(c.v lv nv av).told.length=578:=by show (c.shelf.flatMap KeptV.cells).length=578;rw[qhl _ m.2,m.1]
 have f:((c.v lv nv av).k.cells++(c.v lv nv av).rest).set 589 v=c.k.cells++(({c with news:=r} : Ch).v lv v av).rest:=by
  unfold ChanV.rest;have i:(c.v lv nv av).k.cells.length=8:=rfl;rw[List.set_append_right _ _ (by rw[i];omega),i];show c.k.cells++(Value.int .u64 c.loc::Value.int .u64 c.rem::lv::((c.v lv nv av).told++[nv,av])).set 581 v=_;rw[List.set_cons_succ,List.set_cons_succ,List.set_cons_succ,List.set_append_right _ _ (by rw[q];omega),q];rfl
 rw[f];rfl
theorem q7h(m:c.shelf.length=17∧∀p∈c.shelf,p.told.length=32)(r:List MsgV)(v:Value):(c.v lv nv av).cells.toArray.setIfInBounds 627 v=(({c with last:=r} : Ch).v lv nv v).cells.toArray:=by
 have e:=qbk (c.v lv nv av) h 590 v;rw[show 37+590=627 from rfl] at e;rw[e];have q:(c.v lv nv av).told.length=578:=by show (c.shelf.flatMap KeptV.cells).length=578;rw[qhl _ m.2,m.1]
 have f:((c.v lv nv av).k.cells++(c.v lv nv av).rest).set 590 v=c.k.cells++(({c with last:=r} : Ch).v lv nv v).rest:=by
  unfold ChanV.rest;have i:(c.v lv nv av).k.cells.length=8:=rfl;rw[List.set_append_right _ _ (by rw[i];omega),i];show c.k.cells++(Value.int .u64 c.loc::Value.int .u64 c.rem::lv::((c.v lv nv av).told++[nv,av])).set 582 v=_;rw[List.set_cons_succ,List.set_cons_succ,List.set_cons_succ,List.set_append_right _ _ (by rw[q];omega),q];rfl
 rw[f];rfl
theorem qt7(i:c.shelf.length=17∧∀p∈c.shelf,p.told.length=32):(c.v lv nv av).cells.toArray[626]? = some nv:=by
 rw[List.getElem?_toArray,show 626=37+589 from rfl,qls _ h];have m:(c.v lv nv av).told.length=578:=by show (c.shelf.flatMap KeptV.cells).length=578;rw[qhl _ i.2,i.1]
 unfold ChanV.rest;have f:(c.v lv nv av).k.cells.length=8:=rfl;rw[List.getElem?_append_right (by rw[f];omega),f];show (Value.int .u64 c.loc::Value.int .u64 c.rem::lv::((c.v lv nv av).told++[nv,av]))[581]? = _;rw[List.getElem?_cons_succ,List.getElem?_cons_succ,List.getElem?_cons_succ,List.getElem?_append_right (by rw[m];omega),m];rfl
theorem qom(i:c.shelf.length=17∧∀p∈c.shelf,p.told.length=32):(c.v lv nv av).cells.toArray[627]? = some av:=by
 rw[List.getElem?_toArray,show 627=37+590 from rfl,qls _ h];have m:(c.v lv nv av).told.length=578:=by show (c.shelf.flatMap KeptV.cells).length=578;rw[qhl _ i.2,i.1]
 unfold ChanV.rest;have f:(c.v lv nv av).k.cells.length=8:=rfl;rw[List.getElem?_append_right (by rw[f];omega),f];show (Value.int .u64 c.loc::Value.int .u64 c.rem::lv::((c.v lv nv av).told++[nv,av]))[582]? = _;rw[List.getElem?_cons_succ,List.getElem?_cons_succ,List.getElem?_cons_succ,List.getElem?_append_right (by rw[m];omega),m];rfl
end
theorem qb4{f:Nat→Option (Nat × Nat)}{i off:Nat}{v z:Value}{P R:List Value}{cs:Array Value}(r:f i=some (off,1))(q:P.length=off)(C:v.cells=#[v])(m:cs=(P++(z::R)).toArray)(rest:List (Nat × Value)) :
  Instr.fill f cs ((i,v)::rest)=Instr.fill f (P++(v::R)).toArray rest:=by
 subst m q
 rw[Instr.fill,r]
 simp[C]
theorem qs1{P:Program}{sl T:TypeId}{n:Nat}{Z:List Value}(J:P.underlying sl=some (.slice T))(K:((P.info? T).map fun i=>i.zero.map fun z=>z.cells.toList)=some (some Z))(E:(P.info? T).map (·.size)=some n)(M:Z.length=n)(L:n≠0)(F:n≤1000)
  (A:List Value) (h:A.length=n) (w:World):(Instr.buildSlice sl 1 #[(0,.agg A.toArray)]).run P w = .ok (.slice (some ⟨w.heap.size,0,none⟩) 1 1) (w.alloc (.cells A.toArray T)):=by
 obtain⟨i,z,C,r,I⟩:=qc6 K
 have f:i.size=n:=by rw[C] at E;simpa using E
 refine run_buildSlice w _ _ 1 _ _ i z J C r (by rw[f];first | omega | (simp;omega)) (by rw[f];first | omega | (simp;omega)) ?_
 rw[f,I]
 generalize H:Array.map _ _=W
 have m:W.toList.length=A.length:=by rw[←H,h];simp
 have v:=qt0 A [] W.toList [] m
 have q:W.size=n:=by rw[←h,←m];simp
 simp[Instr.fill,Value.cells,h,q] at v ⊢
 exact v
theorem Tryz.zeroMsg:((Tryz.prog.info? 101).map fun i=>i.zero.map fun z=>z.cells.toList)=some (some MsgV.zero.cells):=by kernel_rfl
theorem Tryz.zeroLive':((Tryz.prog.info? 69).map fun i=>i.zero.map fun z=>z.cells.toList)=some (some (qo Live.zero)):=by kernel_rfl
def Htlc.zero:Htlc:=⟨0,0,Vector.replicate 32 0,0⟩
theorem Tryz.zeroHtlc':((Tryz.prog.info? 41).map fun i=>i.zero.map fun z=>z.cells.toList)=some (some (qk Htlc.zero)):=by kernel_rfl
def q4d(n:Nat)(p:Array (Nat × Value)):Sem Value:=Instr.buildSlice 124 n p
theorem qak(n:Nat)(p:Array (Nat × Value)):Instr.buildSlice 124 n p=q4d n p:=rfl
theorem qco(A:List Value)(w:World):(q4d 1 #[(0,.agg A.toArray)]).run Tryz.prog w=if A.length=38 then .ok (.slice (some ⟨w.heap.size,0,none⟩) 1 1) (w.alloc (.cells A.toArray 101)) else (Instr.buildSlice 124 1 #[(0,.agg A.toArray)]).run Tryz.prog w:=by
 by_cases h:A.length=38
 ·rw[if_pos h];exact qs1 Tryz.underlying124 Tryz.zeroMsg Tryz.infoMsg rfl (by decide) (by decide) A h w
 ·rw[if_neg h];rfl
def zai(n:Nat)(p:Array (Nat × Value)):Sem Value:=Instr.buildSlice 46 n p
theorem qgk(n:Nat)(p:Array (Nat × Value)):Instr.buildSlice 46 n p=zai n p:=rfl
theorem qr1(A:List Value)(w:World):(zai 1 #[(0,.agg A.toArray)]).run Tryz.prog w=if A.length=38 then .ok (.slice (some ⟨w.heap.size,0,none⟩) 1 1) (w.alloc (.cells A.toArray 69)) else (Instr.buildSlice 46 1 #[(0,.agg A.toArray)]).run Tryz.prog w:=by
 by_cases h:A.length=38
 ·rw[if_pos h];exact qs1 Tryz.underlying46 Tryz.zeroLive' Tryz.infoLive rfl (by decide) (by decide) A h w
 ·rw[if_neg h];rfl
theorem Tryz.placesMsg:∃m,Tryz.prog.underlying 101=some (.struct m)∧m.toList.mapM (fun f=>(Tryz.prog.info? f.type).map fun i=>(f.offset,i.size))=some [(0,1),(1,1),(2,1),(3,1),(4,32),(36,1),(37,1)]:=⟨_,Tryz.underlying101,by kernel_rfl⟩
theorem qz2(k id n ex:Int)(H:List Value)(h:H.length=32):Tryz.prog.built 101 [(0,.int .i64 k),(2,.int .u64 id),(3,.int .u64 n),(4,.agg H.toArray),(5,.int .i64 ex)]=some (.int .i64 k :: .int .u32 0 :: .int .u64 id :: .int .u64 n::(H++[.int .i64 ex,.int .i64 0])).toArray:=by
 obtain⟨i,z,m,v,f⟩:=qc6 Tryz.zeroMsg;obtain⟨C,r,q⟩:=Tryz.placesMsg;rw[qbq m r v q];rw[qb4 (P:=[]) (z:= .int .i64 0) (R:= .int .u32 0 :: .int .u64 0 :: .int .u64 0::(zg.map (Value.int .u8)++[.int .i64 0,.int .i64 0])) rfl rfl rfl f];rw[qb4 (P:=[.int .i64 k,.int .u32 0]) (z:= .int .u64 0) (R:= .int .u64 0::(zg.map (Value.int .u8)++[.int .i64 0,.int .i64 0])) rfl rfl rfl (by rfl)];rw[qb4 (P:=[.int .i64 k,.int .u32 0,.int .u64 id]) (z:= .int .u64 0) (R:=(zg.map (Value.int .u8)++[.int .i64 0,.int .i64 0])) rfl rfl rfl (by rfl)];rw[qc9 (P:=[.int .i64 k,.int .u32 0,.int .u64 id,.int .u64 n]) (A:=H) (Z:=zg.map (Value.int .u8)) (R:=[.int .i64 0,.int .i64 0]) (off:=4) (by rw[h];rfl) rfl (by rw[h];rfl) (by rfl)];rw[qb4 (P:=[.int .i64 k,.int .u32 0,.int .u64 id,.int .u64 n]++H) (z:= .int .i64 0) (R:=[.int .i64 0]) (off:=36) rfl (by simp[h]) rfl (by simp)];rw[Instr.fill];simp
theorem qn7(k id n ex:Int)(H:List Value)(w:World):(qiv #[(0,.int .i64 k),(2,.int .u64 id),(3,.int .u64 n),(4,.agg H.toArray),(5,.int .i64 ex)]).run Tryz.prog w=if H.length=32 then .ok (.agg (.int .i64 k :: .int .u32 0 :: .int .u64 id :: .int .u64 n::(H++[.int .i64 ex,.int .i64 0])).toArray) w else (Instr.build 101 #[(0,.int .i64 k),(2,.int .u64 id),(3,.int .u64 n),(4,.agg H.toArray),(5,.int .i64 ex)]).run Tryz.prog w:=by
 by_cases h:H.length=32
 ·rw[if_pos h];exact run_build w _ _ _ (qz2 k id n ex H h)
 ·rw[if_neg h];rfl
theorem qab(w:World):(qiv #[]).run Tryz.prog w = .ok (.agg MsgV.zero.cells.toArray) w:=run_build w _ _ _ (by kernel_rfl)
theorem qmf(k c:Int)(w:World):(qiv #[(0,.int .i64 k),(1,.int .u32 c)]).run Tryz.prog w = .ok (.agg (MsgV.cells ⟨k,c,0,0,zg,0,0⟩).toArray) w:=run_build w _ _ _ (by kernel_rfl)
def q3x(p:Array (Nat × Value)):Sem Value:=Instr.build 41 p
theorem qiw(p:Array (Nat × Value)):Instr.build 41 p=q3x p:=rfl
theorem Tryz.placesHtl:∃m,Tryz.prog.underlying 41=some (.struct m)∧m.toList.mapM (fun f=>(Tryz.prog.info? f.type).map fun i=>(f.offset,i.size))=some [(0,1),(1,1),(2,32),(34,1)]:=⟨_,Tryz.underlying41,by kernel_rfl⟩
theorem qz5(id n ex:Int)(H:List Value)(h:H.length=32):Tryz.prog.built 41 [(0,.int .u64 id),(1,.int .u64 n),(2,.agg H.toArray),(3,.int .i64 ex)]=some (.int .u64 id :: .int .u64 n::(H++[.int .i64 ex])).toArray:=by
 obtain⟨i,z,m,v,f⟩:=qc6 Tryz.zeroHtlc';obtain⟨C,r,q⟩:=Tryz.placesHtl;rw[qbq m r v q];rw[qb4 (P:=[]) (z:= .int .u64 0) (R:= .int .u64 0::(zg.map (Value.int .u8)++[.int .i64 0])) rfl rfl rfl (f.trans (by kernel_rfl))];rw[qb4 (P:=[.int .u64 id]) (z:= .int .u64 0) (R:=zg.map (Value.int .u8)++[.int .i64 0]) rfl rfl rfl (by rfl)];rw[qc9 (P:=[.int .u64 id,.int .u64 n]) (A:=H) (Z:=zg.map (Value.int .u8)) (R:=[.int .i64 0]) (off:=2) (by rw[h];rfl) rfl (by rw[h];rfl) (by rfl)];rw[qb4 (P:=[.int .u64 id,.int .u64 n]++H) (z:= .int .i64 0) (R:=[]) (off:=34) rfl (by simp[h]) rfl (by simp)];rw[Instr.fill];simp
theorem qrv(id n ex:Int)(H:List Value)(w:World):(q3x #[(0,.int .u64 id),(1,.int .u64 n),(2,.agg H.toArray),(3,.int .i64 ex)]).run Tryz.prog w=if H.length=32 then .ok (.agg (.int .u64 id :: .int .u64 n::(H++[.int .i64 ex])).toArray) w else (Instr.build 41 #[(0,.int .u64 id),(1,.int .u64 n),(2,.agg H.toArray),(3,.int .i64 ex)]).run Tryz.prog w:=by
 by_cases h:H.length=32
 ·rw[if_pos h];exact run_build w _ _ _ (qz5 id n ex H h)
 ·rw[if_neg h];rfl
def qti(p:Array (Nat × Value)):Sem Value:=Instr.build 69 p
theorem qme(p:Array (Nat × Value)):Instr.build 69 p=qti p:=rfl
theorem Tryz.placesLiv:∃m,Tryz.prog.underlying 69=some (.struct m)∧m.toList.mapM (fun f=>(Tryz.prog.info? f.type).map fun i=>(f.offset,i.size))=some [(0,35),(35,1),(36,1),(37,1)]:=⟨_,Tryz.underlying69,by kernel_rfl⟩
theorem qm8:(qo Live.zero).toArray=(([]:List Value)++(qk Htlc.zero++([.bool false,.int .i64 0,.bool false]:List Value))).toArray:=rfl
theorem qwh(b:Bool)(s:Int)(H:List Value)(h:H.length=35):Tryz.prog.built 69 [(0,.agg H.toArray),(1,.bool b),(2,.int .i64 s)]=some (H++([.bool b,.int .i64 s,.bool false]:List Value)).toArray:=by
 obtain⟨i,z,m,v,f⟩:=qc6 Tryz.zeroLive';obtain⟨C,r,q⟩:=Tryz.placesLiv;rw[qbq m r v q];rw[qc9 (P:=[]) (A:=H) (Z:=qk Htlc.zero) (R:=[.bool false,.int .i64 0,.bool false]) (off:=0) (by rw[h];rfl) rfl (by rw[h];rfl) (f.trans qm8)];rw[qb4 (P:=H) (z:= .bool false) (R:=[.int .i64 0,.bool false]) (off:=35) rfl h rfl (by simp)];rw[qb4 (P:=H++[.bool b]) (z:= .int .i64 0) (R:=[.bool false]) (off:=36) rfl (by simp[h]) rfl (by simp)];rw[Instr.fill];simp
theorem qy1(b:Bool)(s:Int)(H:List Value)(w:World):(qti #[(0,.agg H.toArray),(1,.bool b),(2,.int .i64 s)]).run Tryz.prog w=if H.length=35 then .ok (.agg (H++([.bool b,.int .i64 s,.bool false]:List Value)).toArray) w else (Instr.build 69 #[(0,.agg H.toArray),(1,.bool b),(2,.int .i64 s)]).run Tryz.prog w:=by
 by_cases h:H.length=35
 ·rw[if_pos h];exact run_build w _ _ _ (qwh b s H h)
 ·rw[if_neg h];rfl
attribute [local go_sem ↓ high] qbf qbs qci qz zb ze zi qak
attribute [local go_sem] qdo qd2 qfl qax qay qa4 qab qmf qco qx
def qeu(own:Bool)(xs:List Live):Nat:=(xs.filter fun x=>x.own==own).length
theorem qqu(g:Nat)(S:Nat→Prop)(c:Ch)(own:Bool)(w:World)(h:ChS w g S c) :
  Calls Tryz.prog 90 #[.pointer (some ⟨g,0,none⟩),.bool own] w (qa7 (.int .i64 (qeu own c.xs)) w):=by
 obtain⟨W,nv,av,h⟩:=h
 have C:=h.toR.live
 have U:=h.ok.few
 have L:=h.toI.lives
 obtain⟨a,cap,O⟩:=qaf h.live
 change w.cell? ⟨g,47,none⟩=some W at C
 change qgx w W c.xs at L
 rw[O] at C L
 have f:∀(i:Nat) (x:Live),c.xs[i]? = some x→∃E off,a=some ⟨E,off,none⟩∧qd9 w E off c.xs:=by
  intro i x V;have m:=(List.getElem?_eq_some_iff.1 V).1;rcases L with ⟨a',k,e,Y⟩ | ⟨E,off,k,e,K⟩
  ·rw[Y] at m;simp at m
  ·injection e with e1;exact⟨E,off,e1,K⟩
 clear h L
 generalize c.xs=xs at *
 have a8:(xs.length:Int)≤1000000:=by omega
 go_enter Tryz.func90,Tryz.ntmps90
 go_wp2_with fail
 go_loopw [5,7,13] (fun sv _ R wr=>∃i:Nat,R = .int .i64 (i:Int)∧i≤xs.length∧sv = .int .i64 (qeu own (xs.take i))∧qq w wr) (fun _ _ R _=>xs.length-(intOf R).toNat)
 case atStart=>exact⟨0,rfl,Nat.zero_le _,rfl,Upd.refl _ _⟩
 case round =>
  obtain⟨i,rfl,V,rfl,N⟩:=hrel;obtain⟨z,rfl⟩:∃z:World,z=wr:=⟨_,rfl⟩;by_cases m:i<xs.length
  ·obtain⟨x,q⟩:∃x,xs[i]? = some x:=⟨_,List.getElem?_eq_getElem m⟩;obtain⟨E,off,rfl,K⟩:=f i x q;have H:=(K.upd N (fun h=>h)).row q;have a6:(i:Int)<(xs.length:Int):=by omega
   have P:=qjw z x;have v:=qjq z x;have F:qeu own (xs.take (i+1))=qeu own (xs.take i)+(if x.own==own then 1 else 0):=by
    unfold qeu;rw[List.take_add_one,q,List.filter_append,List.length_append];cases r:x.own==own<;>simp[r]
   have a7:qeu own (xs.take i)≤i:=by
    unfold qeu;refine Nat.le_trans (List.length_filter_le _ _) ?_;rw[List.length_take];omega
   have J:=qb F;clear F q K f;generalize qeu own (xs.take i)=M at *
   go_upto_region 5 with fail;obtain⟨r,T⟩:=v;generalize (z.alloc (.cells (qo Live.zero).toArray 69)).setCells z.heap.size 0 (qo x)=wb at r T ⊢;have X:wb.cell? ⟨z.heap.size,35,none⟩=some (.bool x.own):=by rw[qg r,List.getElem?_toArray];exact qfo x
   have I:=N.trans T;have Z:(M:Int)≤1000000:=by omega
   clear P H r T N;cases r:x.own==own with
   | true =>
    rw[r] at J;go_wp2_with fail;go_roundw
    case rel=>exact⟨i+1,by go_num,by omega,by rw[qa J];simp,I⟩
    case measure=>simp[intOf];omega
   | false =>
    rw[r] at J;go_wp2_with fail;go_roundw
    case rel=>exact⟨i+1,by go_num,by omega,by rw[qa J];simp,I⟩
    case measure=>simp[intOf];omega
  ·obtain rfl:i=xs.length:=by omega
   rw[List.take_length];clear f;go_wp2_with fail;go_ret;exact⟨rfl,N⟩
theorem qut:∃i z b,Tryz.prog.info? 101=some i∧i.zero=some z∧i.size=38∧i.bytes=b∧z.cells.size=38∧b≤1000:=by
 obtain⟨i,z,m,v,r⟩:=qc6 Tryz.zeroMsg;have f:(Tryz.prog.info? 101).map (fun i=>decide (i.bytes≤1000))=some true:=by kernel_rfl
 have q:=Tryz.infoMsg;rw[m,Option.map_some,Option.some.injEq] at f q;exact⟨i,z,i.bytes,m,v,q,rfl,by rw[r];rfl,of_decide_eq_true f⟩
def MsgV.on(m:MsgV)(ch:Int):MsgV:= {m with ch:=ch}
def Ch.say(c:Ch)(m:MsgV):Ch:= {c with news:=c.news++[m.on c.s.ch]}
theorem qnx(g:Nat)(S:Nat→Prop)(c:Ch)(m:MsgV)(hm:m.hash.length=32)(w:World)(h:ChS w g S c)(f6:c.news.length<1000000) :
  Calls Tryz.prog 91 #[.pointer (some ⟨g,0,none⟩),.agg m.cells.toArray] w fun e w'=>e = .returned (.agg (m.on c.s.ch).cells.toArray)∧ChS w' g (Fr S w w') (c.say m)∧Upd S w w':=by
 obtain⟨lv,nv,av,h⟩:=h
 go_enter Tryz.func91,Tryz.ntmps91
 go_upto_region 1 with fail
 have M:((w.alloc (.cells m.cells.toArray 101)).alloc (.cells MsgV.zero.cells.toArray 101)).heap[w.heap.size]? = some (.cells m.cells.toArray 101 (0,0)):=qs (qj _ _) _
 have a7:((w.alloc (.cells m.cells.toArray 101)).alloc (.cells MsgV.zero.cells.toArray 101)).heap[w.heap.size+1]? = some (.cells MsgV.zero.cells.toArray 101 (0,0)):=by
  have:=qj (w.alloc (.cells m.cells.toArray 101)) (.cells MsgV.zero.cells.toArray 101);rwa [World.size_alloc] at this
 have nA:qq w ((w.alloc (.cells m.cells.toArray 101)).alloc (.cells MsgV.zero.cells.toArray 101)):=((Upd.refl _ _).alloc _).alloc _
 generalize (w.alloc (.cells m.cells.toArray 101)).alloc (.cells MsgV.zero.cells.toArray 101)=wA at M a7 nA ⊢
 obtain⟨A,c8⟩:∃A,A=w.heap.size:=⟨_,rfl⟩
 obtain⟨B,c9⟩:∃B,B=w.heap.size+1:=⟨_,rfl⟩
 rw[←c9] at a7 ⊢
 rw[←c8] at M ⊢
 have hA:=h.new nA
 have e2:g≠A:=by have:=h.lt g h.inG;omega
 have d1:g≠B:=by have:=h.lt g h.inG;omega
 have f8:w.heap.size≤A:=by omega
 have f9:w.heap.size≤B:=by omega
 have d7:B≠A:=by omega
 clear c8 c9
 have c0:wA.cell? ⟨g,0,none⟩=some (.int .u32 c.s.ch):=hA.toR.ch
 have e1:wA.cell? ⟨A,1,none⟩=some (.int .u32 m.ch):=qg M 1
 have f1:=qv M 1
 have uB:Upd (· = A) wA (wA.setCell ⟨A,1,none⟩ (.int .u32 c.s.ch)):=(Upd.refl _ _).set1 1 _
 have J:(wA.setCell ⟨A,1,none⟩ (.int .u32 c.s.ch)).heap[A]? = some (.cells (m.on c.s.ch).cells.toArray 101 (0,0)):=qad M 1 _
 have U:=uB.old a7 d7
 have hB:=hA.upd uB (fun k f e=>by have:=h.lt k f;omega)
 have nB:qq w (wA.setCell ⟨A,1,none⟩ (.int .u32 c.s.ch)):=nA.then uB (fun i hi e=>by omega)
 have H0:=qb h
 clear h hA M a7 nA uB
 go_upto_region 2 with fail
 clear c0 e1 f1
 generalize wA.setCell ⟨A,1,none⟩ (.int .u32 c.s.ch)=L at hB J U nB ⊢
 have I:L.drew.cell? ⟨g,626,none⟩=some nv:=by
  have e:L.drew.cell? ⟨g,626,none⟩=_:=qg hB.at_ 626;rw[e];exact qt7 c lv nv av hB.ok.s.seed hB.ok.shelf
 have c7:L.frozen? ⟨g,626,none⟩=false:=qv hB.at_ 626
 have Y:(m.on c.s.ch).hash.length=32:=hm
 have hr:zf L A 0 38=some (m.on c.s.ch).cells.toArray:=qas J 38 (by rw[List.size_toArray,MsgV.len _ Y])
 have X:=MsgV.len _ Y
 obtain⟨i9,z9,b9,e3,f0,e7,e8,e9,d9⟩:=qut
 have HB:=qb hB
 have d0:Hid (∃cs,L.heap[g]? = some (.cells cs 126 (0,0))):=qb ⟨_,hB.at_⟩
 obtain⟨na,f7,d2⟩:=qaf hB.news
 clear hB
 refine qa1 (fun w'=>w'.cell? ⟨g,626,none⟩=some nv) [4] (.of [0,1,2,3,4,5,6,7,8,9,10]) (by kernel_rfl) (by kernel_rfl) I ?_
 simp only[Plan.of]
 go_wp2_with (with_reducible first|(first|refine' zv (qh ?_) ?_|refine' zx (qh ?_) ?_|refine' zy (qh ?_) ?_);rotate_left|refine' zz (qh ?_)|refine' qw5 (qh ?_)|rfl|apply qn)
 refine⟨((Upd.refl (fun _=>False) L).alloc _).drew.cell I (fun h=>h),?_⟩
 have nC:qq L (L.alloc (.cells (m.on c.s.ch).cells.toArray 101)).drew:=((Upd.refl _ _).alloc _).drew
 have a8:(L.alloc (.cells (m.on c.s.ch).cells.toArray 101)).drew.heap[L.heap.size]? = _:=qj L (.cells (m.on c.s.ch).cells.toArray 101)
 have HC:=qb ((qa HB).new nC)
 have P:=nC.old J (fun h=>h)
 have K:=nC.old U (fun h=>h)
 have H:=nC.cell I (fun h=>h)
 have c6:=nB.trans nC
 have d8:w.heap.size≤L.heap.size:=nB.size
 clear I c7 hr HB J U nB nC d0
 generalize (L.alloc (.cells (m.on c.s.ch).cells.toArray 101)).drew=wC at a8 HC P K H c6 ⊢
 generalize L.heap.size=D at a8 d8 ⊢
 have E:=(qa HC).news
 unfold qyz at E
 rw[d2] at E
 have HN:=qb E
 clear E
 go_wp2_with (first | (at_builtin;refine wpList_append_own_at _ rfl (.tmp 15) (.tmp 17) 124 rfl 0 101 i9 _ 38 b9 Tryz.underlying124 e3 f0 e7 e8 e9 (by decide) _ _ _ rfl (qa HN) ⟨D,0,none⟩ 1 1 (m.on c.s.ch).cells rfl (by rw[X]) ?c1 ?c2 ?c3 ?c4 ?c5 ?_) | (with_reducible first|(first|refine' zv (qh ?_) ?_|refine' zx (qh ?_) ?_|refine' zy (qh ?_) ?_);rotate_left|refine' zz (qh ?_)|refine' qw5 (qh ?_)|rfl|apply qn))
 case c1=>exact World.news_of_block (cs:=(m.on c.s.ch).cells.toArray) (fr:=(0,0)) a8
 case c2=>exact MsgV.one _
 case c3=>unfold maxLen;omega
 case c4=>have:=Nat.mul_le_mul (show c.news.length+1≤1000000 by omega) d9;omega
 case c5=>omega
 intro N Z q b7 _ r
 obtain⟨a',f3,b8⟩:=qaf q
 have F:=fun k (e:nv.ownBlock=some k)=>(qa HC).inN k e
 rw[←d2] at b7 r
 have uD:Upd (fun k=>nv.ownBlock=some k) wC Z:=(Upd.refl _ _).grown b7 (fun k f _=>f)
 have b6:¬(nv.ownBlock=some g):=fun e=>by
  obtain⟨a6,W⟩:=qa3 (qa HC).news g e;exact qbe (qa HC).at_ W (by decide) rfl
 have C:=(qa H0).lt
 have f5:=zr K
 have b3:=uD.old P (fun e=>by have:=C _ (F _ e);omega)
 have b4:=uD.old K (fun e=>by have:=C _ (F _ e);omega)
 have O:=uD.old (qa HC).at_ b6
 have d5:=uD.cell H b6
 have d6:Z.frozen? ⟨g,626,none⟩=false:=qv O 626
 have HV:=qb (And.intro q (And.intro r uD))
 clear q r b7 uD H P K a8
 have uE:Upd (· = g) Z (Z.setCell ⟨g,626,none⟩ N):=(Upd.refl _ _).set1 626 _
 have R:=uE.old b3 (fun e=>e2 e.symm)
 have V:=uE.old b4 (fun e=>d1 e.symm)
 have z:=qad O 626 N
 rw[qvj c lv nv av (qa HC).ok.s.seed (qa HC).ok.shelf (c.news++[m.on c.s.ch])] at z
 have HE:=qb (And.intro z uE)
 have d4:=qb b8
 clear z uE O b3 b4
 rw[b8] at R V ⊢
 have g0:=qas R 38 (by rw[List.size_toArray,X])
 have g1:=qlj V Y
 have hF:=qk1 V Y
 have HF:=qb hF
 clear hF b8 R
 go_wp2_with (with_reducible first|(first|refine' zv (qh ?_) ?_|refine' zx (qh ?_) ?_|refine' zy (qh ?_) ?_);rotate_left|refine' zz (qh ?_)|refine' qw5 (qh ?_)|rfl|apply qn)
 refine bodyPost_ret (results_cell_row rfl _ _ B _ _ _ _ rfl (qa HF) Tryz.underlying101 rfl (by rw[List.size_toArray,X];exact Tryz.infoMsg)) rfl ?_
 have e5:=qa d4
 obtain⟨q,r,uD⟩:=qa HV
 obtain⟨z,uE⟩:=qa HE
 rw[←e5]
 have h:=qa H0
 have hC:=qa HC
 have uF:Upd (· = B) (Z.setCell ⟨g,626,none⟩ N) ((Z.setCell ⟨g,626,none⟩ N).setCells B 0 (m.on c.s.ch).cells):=(Upd.refl _ _).setCells 0 _
 have g2:=c6.size
 refine⟨rfl,?_,(((c6.mono (fun _ _ h=>h.elim)).trans (uD.mono (fun k _ e=>F k e))).trans (uE.mono (fun k _ e=>by rw[e];exact h.inG))).then uF (fun i hi e=>by omega)⟩
 have f2:Z.heap.size≤((Z.setCell ⟨g,626,none⟩ N).setCells B 0 (m.on c.s.ch).cells).heap.size:=Nat.le_trans uE.size uF.size
 generalize (Z.setCell ⟨g,626,none⟩ N).setCells B 0 (m.on c.s.ch).cells=wF at uF f2 ⊢
 generalize Z.setCell ⟨g,626,none⟩ N=wE at uE uF z
 have d3:∀k,N.ownBlock=some k→k<Z.heap.size:=fun k f=>by
  obtain⟨a6,W⟩:=qa3 q k f;exact zr W
 have e4:∀k,N.ownBlock=some k→k≠B:=by
  intro k f;rcases r with e | e
  ·rw[e] at f;have:=C k (F k f);omega
  ·rw[e] at f;injection f with f;omega
 have e6:∀k,N.ownBlock=some k→k≠g:=by
  intro k f;rcases r with e | e
  ·rw[e] at f;rintro rfl;exact b6 f
  ·rw[e] at f;injection f with f;have:=zr hC.at_;omega
 have b5:∀ {T:TypeId} {v:Value} {n:Nat} {xs:List Value},wC.ownsRow 0 T 38 v n xs→(∀k,v.ownBlock=some k→S k)→(∀k,v.ownBlock=some k→k≠g)→(∀k,v.ownBlock=some k→nv.ownBlock≠some k)→wF.ownsRow 0 T 38 v n xs:=by
  intro T v n xs hr hs h1 h2;exact qac (qac (qac hr uD (fun k f e=>h2 k f e)) uE (fun k f e=>h1 k f e)) uF (fun k f e=>by have:=C k (hs k f);omega)
 refine⟨lv,N,av,⟨uF.old z d1,⟨h.ok.s,h.ok.signed,h.ok.heard,h.ok.nextOwn,h.ok.nextTheirs,h.ok.loc,h.ok.rem,h.ok.xs,h.ok.few,h.ok.shelf,?_,h.ok.last,?_,h.ok.many.2⟩,?_,?_,?_,.inl h.inG,fun k e=> .inl (h.inL k e),?_,fun k e=> .inl (h.inA k e),?_,?_⟩⟩
 ·intro x hx;rcases List.mem_append.1 hx with hx | hx
  ·exact h.ok.news x hx
  ·rw[List.mem_singleton.1 hx];exact Y
 ·show (c.news++[m.on c.s.ch]).length≤1000000;rw[List.length_append];simp;omega
 ·refine b5 hC.live h.inL ?_ ?_
  ·intro k f e;obtain⟨a6,W⟩:=qa3 hC.live k f;rw[e] at W;exact qbe hC.at_ W (by decide) rfl
  ·intro k f e;obtain⟨a6,W⟩:=qa3 hC.live k f;obtain⟨f4,e0⟩:=qa3 hC.news k e;exact qbe W e0 (by decide) rfl
 ·show wF.ownsRow 0 _ 38 N (c.news++[m.on c.s.ch]).length ((c.news++[m.on c.s.ch]).flatMap MsgV.cells);rw[List.length_append,List.flatMap_append];have:[m.on c.s.ch].flatMap MsgV.cells=(m.on c.s.ch).cells:=by simp
  rw[this];exact qac (qac q uE (fun k f e=>e6 k f e)) uF (fun k f e=>e4 k f e)
 ·refine b5 hC.last h.inA ?_ ?_
  ·intro k f e;obtain⟨a6,W⟩:=qa3 hC.last k f;rw[e] at W;exact qbe hC.at_ W (by decide) rfl
  ·intro k f e;exact h.sep k e f
 ·intro k f;rcases r with e | e
  ·rw[e] at f;exact .inl (h.inN k f)
  ·have:=d3 k f;rw[e] at f;injection f with f;exact .inr ⟨by omega,by omega⟩
 ·intro k f e';rcases r with e | e
  ·rw[e] at f;exact h.sep k f e'
  ·rw[e] at f;injection f with f;have:=C k (h.inA k e');omega
 ·rintro k (f | f)
  ·have:=C k f;have:=uD.size;omega
  ·exact f.2
end
end Go.Proofs.YtfmkdoachjgjbaaGreatDoor
