/-
  Messages as rows of cells.
-/
import Derived.Test.YtfmkdoachjgjbaaGreatDoorProg
import Derived.Test.YtfmkdoachjgjbaaGreatDoorMaf
import Derived.Test.YtfmkdoachjgjbaaGreatDoorTxt
import Derived.Deep.Onto
import Derived.Maps.AppendAt
import Derived.Deep.AppendLies
import Derived.Test.YtfmkdoachjgjbaaGreatDoorMad
import Derived.Lib.Builder
import Derived.Lib.AppendStr
set_option linter.unusedVariables false
set_option linter.unusedSimpArgs false
namespace Go.Proofs.YtfmkdoachjgjbaaGreatDoor
open Go.RowKit
structure MsgV where
 kind:Int
 ch:Int
 id:Int
 amount:Int
 hash:List Int
 expiry:Int
 number:Int
def MsgV.cells(m:MsgV):List Value:= .int .i64 m.kind :: .int .u32 m.ch :: .int .u64 m.id :: .int .u64 m.amount::(m.hash.map (Value.int .u8)++[.int .i64 m.expiry,.int .i64 m.number])
theorem MsgV.len(m:MsgV)(h:m.hash.length=32):m.cells.length=38:=by simp[MsgV.cells,h]
theorem MsgV.one(m:MsgV):∀v∈m.cells,v.oneCell'=true:=by
 intro v f;simp only[MsgV.cells,List.mem_cons,List.mem_append,List.mem_map,List.not_mem_nil,or_false] at f;rcases f with rfl | rfl | rfl | rfl | ⟨n,_,rfl⟩ | rfl | rfl<;>rfl
def ze:List Int:=List.replicate 32 0
theorem qo:ze.length=32:=List.length_replicate
theorem Tryz.infoMsg:(Tryz.prog.info? 101).map (·.size)=some 38:=by kernel_rfl
def zag(x:Value):Sem Value:=Instr.loadAt 101 x
theorem qz(x:Value):Instr.loadAt 101 x=zag x:=rfl
theorem qaw(b o:Nat)(w:World):(zag (.pointer (some ⟨b,o,none⟩))).run Tryz.prog w=match zg w b o 38 with | some A=> .ok (.agg A) w | none=>qdh Tryz.prog 101 w b o :=
 qae 101 38 _ Tryz.underlying101 rfl Tryz.infoMsg b o w
def zar(x v:Value):Sem Unit:=Instr.storeAt 101 x v
theorem zb(x v:Value):Instr.storeAt 101 x v=zar x v:=rfl
theorem qax(b o:Nat)(A:Array Value)(w:World):(zar (.pointer (some ⟨b,o,none⟩)) (.agg A)).run Tryz.prog w=if stOk w b o 38 A=true then .ok () (w.setCells b o A.toList) else qed Tryz.prog 101 w b o A :=
 qau 101 38 Tryz.infoMsg b o A w
def MsgV.zero:MsgV:=⟨0,0,0,0,ze,0,0⟩
def q94:Sem Value:=Instr.alloc 101 true (.tuple #[])
theorem zc:Instr.alloc 101 true (.tuple #[])=q94:=rfl
theorem qa1(w:World):q94.run Tryz.prog w = .ok (.pointer (some ⟨w.heap.size,0,none⟩)) (w.alloc (.cells MsgV.zero.cells.toArray 101)):=by kernel_rfl
def qij(p:Array (Nat × Value)):Sem Value:=Instr.build 101 p
theorem zf(p:Array (Nat × Value)):Instr.build 101 p=qij p:=rfl
theorem qrp(c n k:Int)(w:World):(qij #[(0,.int .i64 9),(1,.int .u32 c),(6,.int .i64 n),(2,.int .u64 k)]).run Tryz.prog w = .ok (.agg (MsgV.cells ⟨9,c,k,0,ze,0,n⟩).toArray) w:=run_build w _ _ _ (by kernel_rfl)
theorem Tryz.infoBase:(Tryz.prog.info? 59).map (·.size)=some 2:=by kernel_rfl
theorem qky{w:World}{b:Nat}{m:MsgV}{T:TypeId}(h:w.heap[b]? = some (.cells MsgV.zero.cells.toArray T (0,0)))(f:m.hash.length=32):(w.setCells b 0 m.cells).heap[b]? = some (.cells m.cells.toArray T (0,0)):=by
 rw[qa8 h 0 m.cells,qcu _ _ (by rw[m.len f];rfl)]
theorem qlj{w:World}{b:Nat}{T:TypeId}(h:w.heap[b]? = some (.cells MsgV.zero.cells.toArray T (0,0))){m:MsgV}(f:m.hash.length=32):stOk w b 0 38 m.cells.toArray=true :=
 qee (C:=MsgV.zero.cells.toArray) h (by rw[m.len f];rfl) m.one
attribute [local go_sem ↓ high] qz zb zf
attribute [local go_sem] qaw qax qrp qw
def CountsV.told(k:CountsV):Int:=if k.awaits then k.signed-1 else k.signed
structure ChI(w:World)(g:Nat)(c:ChanV)(xs:List Live):Prop extends ChR w g c where
 row:w.ownsRow 0 69 38 c.live xs.length (xs.flatMap qm)
theorem ChI.new{w w':World}{g:Nat}{c:ChanV}{xs:List Live}(h:ChI w g c xs)(u:qq w w'):ChI w' g c xs:=⟨h.toChR.new u,qus h.row u⟩
theorem ChI.lives{w:World}{g:Nat}{c:ChanV}{xs:List Live}(h:ChI w g c xs):qgo w c.live xs:=by
 rcases (qdf h.row).2 with ⟨e,f⟩ | ⟨g,cap,e,-,i⟩
 ·exact .inl ⟨none,0,e,f⟩
 ·exact .inr ⟨g,0,cap,e,i.toL⟩
theorem ChI.shape{w:World}{g:Nat}{c:ChanV}{xs:List Live}(h:ChI w g c xs):∃a cap,c.live = .slice a xs.length cap:=by
 rcases (qdf h.row).2 with ⟨e,f⟩ | ⟨g,cap,e,-⟩
 ·exact⟨none,0,by rw[e,f];rfl⟩
 ·exact⟨_,cap,e⟩
set_option maxHeartbeats 1000000 in
theorem q54(g:Nat)(c:ChanV)(xs:List Live)(C:xs.length≤1048576)(w:World)(h:ChI w g c xs) :
  Calls Tryz.prog 20 #[.pointer (some ⟨g,0,none⟩)] w fun e w'=>∃u,e = .returned u∧qq w w'∧((∃a k,u = .slice a 0 k∧xs=[])∨∃i cap,u = .slice (some ⟨i,0,none⟩) xs.length cap∧w.heap.size≤i∧qds w' i 0 xs):=by
 go_enter Tryz.func20,Tryz.ntmps20
 have f:=h.toChR.live
 have q:=h.lives
 obtain⟨a,cap,m⟩:=h.shape
 rw[m] at f q
 clear h
 go_wp2_with (with_reducible first|(first|refine' tw1 (qh ?_) ?_|refine' tw2 (qh ?_) ?_);rotate_left|refine' tw3 (qh ?_)|rfl|apply tn|refine' tw4 ?_)
 refine(qp2 _ xs C _ q).mono ?_
 rintro e w' ⟨u,rfl,n,v⟩
 have z:=qb v
 clear v f q
 go_wp2_with (with_reducible first|(first|refine' tw1 (qh ?_) ?_|refine' tw2 (qh ?_) ?_);rotate_left|refine' tw3 (qh ?_)|rfl|apply tn|refine' tw4 ?_)
 go_ret
 exact⟨u,rfl,n,qa z⟩
end Go.Proofs.YtfmkdoachjgjbaaGreatDoor
namespace Go.Proofs.YtfmkdoachjgjbaaGreatDoor
open Go.RowKit
theorem zk{S:Nat→Prop}{w w':World}{base:Nat}{e:TypeId}{size:Nat}{v:Value}{n:Nat}{xs:List Value}(h:w.ownsRow base e size v n xs)(u:Upd S w w')(q:∀k,v.ownBlock=some k→¬S k):w'.ownsRow base e size v n xs:=by
 refine⟨h.1,?_⟩;rcases h.2 with h | ⟨g,cap,f,i,m,z,r⟩
 ·exact .inl h
 ·exact .inr ⟨g,cap,f,i,m,u.old z (q g (by rw[i];rfl)),r⟩
theorem qal{w:World}{base:Nat}{e:TypeId}{size:Nat}{v:Value}{n:Nat}{xs:List Value}(h:w.ownsRow base e size v n xs):∀k,v.ownBlock=some k→∃f,w.heap[k]? = some (.cells f e (0,0)):=by
 intro k i;rcases h.2 with ⟨rfl,_⟩ | ⟨g,cap,f,rfl,q,m,_⟩
 ·simp[Value.ownBlock] at i
 ·simp[Value.ownBlock] at i;exact⟨f,i▸m⟩
theorem qay{w:World}{k j:Nat}{c d:Array Value}{T U:TypeId}{x y:Nat × Nat}(h:w.heap[k]? = some (.cells c T x))(g:w.heap[j]? = some (.cells d U y))(n:T≠U):k≠j:=by
 rintro rfl;rw[h] at g;injection g with g;injection g with _ g;exact n g
theorem qaa{w:World}{base:Nat}{e:TypeId}{size:Nat}{v:Value}{n:Nat}{xs:List Value}(h:w.ownsRow base e size v n xs):∃a cap,v = .slice a n cap:=by
 rcases h.2 with ⟨e,i⟩ | ⟨g,cap,f,e,_⟩
 ·exact⟨none,0,by rw[e,i]⟩
 ·exact⟨_,cap,e⟩
theorem qy{P:Program}{i:Func}{p u:Tmp}{f:TypeId}(h:i.results=#[.cell p f,.tmp u])(tmps:Array Value)(w:World)(g:Nat)(t:TypeId)(cs:Array Value)(fr:Nat × Nat)(d:TypeDesc)
  (v:tmps.getD p undef = .pointer (some ⟨g,0,none⟩)) (m:w.heap[g]? = some (.cells cs t fr))
  (z:P.underlying f=some d) (hd:(match d with | .struct _ | .array _ _=>true | _=>false)=true) (q:(P.info? f).map (·.size)=some cs.size) :
  (results i tmps).run P w = .ok (.tuple #[.agg cs,tmps.getD u undef]) w:=by
 rw[results_cell_tmp h,v]
 simp[asAddr,run_loadVar_row w g t f cs fr d m z hd q,Result.andThen]
structure Ch where
 s:SetupV
 k:CountsV
 loc:Int
 rem:Int
 xs:List Live
 shelf:List KeptV
 news:List MsgV
 last:List MsgV
def Ch.v(c:Ch)(lv nv av:Value):ChanV:=⟨c.s,c.k,c.loc,c.rem,lv,c.shelf,nv,av⟩
def qrg(w:World)(v:Value)(xs:List Live):Prop:=w.ownsRow 0 69 38 v xs.length (xs.flatMap qm)
def qyj(w:World)(v:Value)(f:List MsgV):Prop:=w.ownsRow 0 101 38 v f.length (f.flatMap MsgV.cells)
def q3a(f:List MsgV):Prop:=∀m∈f,m.hash.length=32
structure Ch.Ok(c:Ch):Prop where
 s:c.s.Ok
 signed:0≤c.k.signed∧c.k.signed≤65535
 heard:0≤c.k.heard∧c.k.heard<4294967296
 nextOwn:0≤c.k.nextOwn∧c.k.nextOwn<18446744073709551616
 nextTheirs:0≤c.k.nextTheirs∧c.k.nextTheirs<18446744073709551616
 loc:0≤c.loc∧c.loc<18446744073709551616
 rem:0≤c.rem∧c.rem<18446744073709551616
 xs:∀x∈c.xs,LiveOk x
 few:c.xs.length≤1000000
 shelf:c.shelf.length=17∧∀p∈c.shelf,p.told.length=32
 news:q3a c.news
 last:q3a c.last
 many:c.news.length≤1000000∧c.last.length≤1000000
structure ChP(w:World)(g:Nat)(S:Nat→Prop)(c:Ch)(lv nv av:Value):Prop where
 at_:w.heap[g]? = some (.cells (c.v lv nv av).cells.toArray 126 (0,0))
 ok:c.Ok
 live:qrg w lv c.xs
 news:qyj w nv c.news
 last:qyj w av c.last
 inG:S g
 inL:∀k,lv.ownBlock=some k→S k
 inN:∀k,nv.ownBlock=some k→S k
 inA:∀k,av.ownBlock=some k→S k
 sep:∀k,nv.ownBlock=some k→av.ownBlock≠some k
 lt:∀k,S k→k<w.heap.size
def ChS(w:World)(g:Nat)(S:Nat→Prop)(c:Ch):Prop:=∃lv nv av,ChP w g S c lv nv av
def Fr(S:Nat→Prop)(w w':World)(k:Nat):Prop:=S k∨(w.heap.size≤k∧k<w'.heap.size)
section
variable {w w':World}{g:Nat}{S T:Nat→Prop}{c:Ch}{lv nv av:Value}
theorem ChP.upd(h:ChP w g S c lv nv av)(u:Upd T w w')(hd:∀k,S k→¬T k):ChP w' g S c lv nv av :=
 ⟨u.old h.at_ (hd g h.inG),h.ok,zk h.live u (fun k f=>hd k (h.inL k f)),zk h.news u (fun k f=>hd k (h.inN k f)),zk h.last u (fun k f=>hd k (h.inA k f)),h.inG,h.inL,h.inN,h.inA,h.sep,fun k f=>Nat.lt_of_lt_of_le (h.lt k f) u.size⟩
theorem ChP.new(h:ChP w g S c lv nv av)(u:qq w w'):ChP w' g S c lv nv av:=h.upd u (fun _ _ h=>h)
theorem ChP.wider(h:ChP w g S c lv nv av)(f:∀k,S k→T k)(i:∀k,T k→k<w.heap.size):ChP w g T c lv nv av :=
 ⟨h.at_,h.ok,h.live,h.news,h.last,f g h.inG,fun k e=>f k (h.inL k e),fun k e=>f k (h.inN k e),fun k e=>f k (h.inA k e),h.sep,i⟩
theorem ChP.fr(h:ChP w' g S c lv nv av)(w:World):ChS w' g (Fr S w w') c:=⟨_,_,_,h.wider (fun k f=> .inl f) (fun k f=>f.elim (h.lt k) (fun e=>e.2))⟩
theorem ChS.upd(h:ChS w g S c)(u:Upd T w w')(hd:∀k,S k→¬T k):ChS w' g S c:=by
 obtain⟨a,b,d,h⟩:=h;exact⟨a,b,d,h.upd u hd⟩
theorem ChS.new(h:ChS w g S c)(u:qq w w'):ChS w' g S c:=h.upd u (fun _ _ h=>h)
theorem ChS.lt(h:ChS w g S c):∀k,S k→k<w.heap.size:=by
 obtain⟨a,b,d,h⟩:=h;exact h.lt
theorem ChP.toR(h:ChP w g S c lv nv av):ChR w g (c.v lv nv av):=⟨h.at_,h.ok.s.seed⟩
theorem ChP.toI(h:ChP w g S c lv nv av):ChI w g (c.v lv nv av) c.xs:=⟨h.toR,h.live⟩
end
theorem ChP.put{w:World}{g:Nat}{S:Nat→Prop}{c c':Ch}{lv nv av:Value}(h:ChP w g S c lv nv av){i:Nat}{x:Value}(E:(c.v lv nv av).cells.toArray.setIfInBounds i x=(c'.v lv nv av).cells.toArray)(f:c'.Ok)(J:c'.xs=c.xs)(H:c'.news=c.news)(F:c'.last=c.last):ChP (w.setCell ⟨g,i,none⟩ x) g S c' lv nv av:=by
 have u:Upd (· = g) w (w.setCell ⟨g,i,none⟩ x):=(Upd.refl _ _).set1 i x;have m:∀ {T:TypeId} {v:Value} {n:Nat} {xs:List Value},T≠126→w.ownsRow 0 T 38 v n xs→∀k,v.ownBlock=some k→¬k=g:=by
  intro T v n xs z I k f e;obtain⟨q,C⟩:=qal I k f;exact qay C h.at_ z e
 refine⟨?_,f,?_,?_,?_,h.inG,h.inL,h.inN,h.inA,h.sep,fun k f=>Nat.lt_of_lt_of_le (h.lt k f) u.size⟩
 ·have:=zv h.at_ i x;rw[E] at this;exact this
 ·rw[J];exact zk h.live u (m (by decide) h.live)
 ·rw[H];exact zk h.news u (m (by decide) h.news)
 ·rw[F];exact zk h.last u (m (by decide) h.last)
theorem qbg(v:ChanV)(h:v.setup.seed.length=32)(i:Nat)(x:Value):v.cells.toArray.setIfInBounds (37+i) x=(v.setup.cells++(v.k.cells++v.rest).set i x).toArray:=by
 unfold ChanV.cells;rw[List.setIfInBounds_toArray,List.set_append_right _ _ (by rw[v.setup.len h];omega),v.setup.len h,Nat.add_sub_cancel_left]
theorem qg9(l:List KeptV)(h:∀p∈l,p.told.length=32):(l.flatMap KeptV.cells).length=l.length*34:=by
 induction l with
 | nil=>rfl
 | cons x l i =>
  rw[List.flatMap_cons,List.length_append,i (fun p f=>h p (List.mem_cons_of_mem _ f)),List.length_cons];have:=h x (List.mem_cons_self ..);simp[KeptV.cells,this];omega
section
variable (c:Ch)(lv nv av:Value)(h:c.s.seed.length=32)
include h
theorem qx1(n:Int):(c.v lv nv av).cells.toArray.setIfInBounds 37 (.int .i64 n)=(({c with k:= {c.k with signed:=n}} : Ch).v lv nv av).cells.toArray:=qbg (c.v lv nv av) h 0 _
theorem q2o(n:Int):(c.v lv nv av).cells.toArray.setIfInBounds 38 (.int .i64 n)=(({c with k:= {c.k with heard:=n}} : Ch).v lv nv av).cells.toArray:=qbg (c.v lv nv av) h 1 _
theorem qx0(b:Bool):(c.v lv nv av).cells.toArray.setIfInBounds 39 (.bool b)=(({c with k:= {c.k with awaits:=b}} : Ch).v lv nv av).cells.toArray:=qbg (c.v lv nv av) h 2 _
theorem qva(n:Int):(c.v lv nv av).cells.toArray.setIfInBounds 40 (.int .u64 n)=(({c with k:= {c.k with nextOwn:=n}} : Ch).v lv nv av).cells.toArray:=qbg (c.v lv nv av) h 3 _
theorem qo5(n:Int):(c.v lv nv av).cells.toArray.setIfInBounds 41 (.int .u64 n)=(({c with k:= {c.k with nextTheirs:=n}} : Ch).v lv nv av).cells.toArray:=qbg (c.v lv nv av) h 4 _
theorem qpu(b:Bool):(c.v lv nv av).cells.toArray.setIfInBounds 43 (.bool b)=(({c with k:= {c.k with shutHeard:=b}} : Ch).v lv nv av).cells.toArray:=qbg (c.v lv nv av) h 6 _
theorem qvb(b:Bool):(c.v lv nv av).cells.toArray.setIfInBounds 44 (.bool b)=(({c with k:= {c.k with revoked:=b}} : Ch).v lv nv av).cells.toArray:=qbg (c.v lv nv av) h 7 _
theorem qza(n:Int):(c.v lv nv av).cells.toArray.setIfInBounds 45 (.int .u64 n)=(({c with loc:=n} : Ch).v lv nv av).cells.toArray:=qbg (c.v lv nv av) h 8 _
theorem qzb(n:Int):(c.v lv nv av).cells.toArray.setIfInBounds 46 (.int .u64 n)=(({c with rem:=n} : Ch).v lv nv av).cells.toArray:=qbg (c.v lv nv av) h 9 _
theorem qu8(xs:List Live)(v:Value):(c.v lv nv av).cells.toArray.setIfInBounds 47 v=(({c with xs:=xs} : Ch).v v nv av).cells.toArray:=qbg (c.v lv nv av) h 10 _
theorem qu9(m:c.shelf.length=17∧∀p∈c.shelf,p.told.length=32)(z:List MsgV)(v:Value):(c.v lv nv av).cells.toArray.setIfInBounds 626 v=(({c with news:=z} : Ch).v lv v av).cells.toArray:=by
 have e:=qbg (c.v lv nv av) h 589 v;rw[show 37+589=626 from rfl] at e;rw[e];have q:(c.v lv nv av).told.length=578:=by show (c.shelf.flatMap KeptV.cells).length=578;rw[qg9 _ m.2,m.1]
 have f:((c.v lv nv av).k.cells++(c.v lv nv av).rest).set 589 v=c.k.cells++(({c with news:=z} : Ch).v lv v av).rest:=by
  unfold ChanV.rest;have i:(c.v lv nv av).k.cells.length=8:=rfl;rw[List.set_append_right _ _ (by rw[i];omega),i];show c.k.cells++(Value.int .u64 c.loc::Value.int .u64 c.rem::lv::((c.v lv nv av).told++[nv,av])).set 581 v=_;rw[List.set_cons_succ,List.set_cons_succ,List.set_cons_succ,List.set_append_right _ _ (by rw[q];omega),q];rfl
 rw[f];rfl
theorem q65(m:c.shelf.length=17∧∀p∈c.shelf,p.told.length=32)(z:List MsgV)(v:Value):(c.v lv nv av).cells.toArray.setIfInBounds 627 v=(({c with last:=z} : Ch).v lv nv v).cells.toArray:=by
 have e:=qbg (c.v lv nv av) h 590 v;rw[show 37+590=627 from rfl] at e;rw[e];have q:(c.v lv nv av).told.length=578:=by show (c.shelf.flatMap KeptV.cells).length=578;rw[qg9 _ m.2,m.1]
 have f:((c.v lv nv av).k.cells++(c.v lv nv av).rest).set 590 v=c.k.cells++(({c with last:=z} : Ch).v lv nv v).rest:=by
  unfold ChanV.rest;have i:(c.v lv nv av).k.cells.length=8:=rfl;rw[List.set_append_right _ _ (by rw[i];omega),i];show c.k.cells++(Value.int .u64 c.loc::Value.int .u64 c.rem::lv::((c.v lv nv av).told++[nv,av])).set 582 v=_;rw[List.set_cons_succ,List.set_cons_succ,List.set_cons_succ,List.set_append_right _ _ (by rw[q];omega),q];rfl
 rw[f];rfl
theorem qtw(i:c.shelf.length=17∧∀p∈c.shelf,p.told.length=32):(c.v lv nv av).cells.toArray[626]? = some nv:=by
 rw[List.getElem?_toArray,show 626=37+589 from rfl,qlr _ h];have m:(c.v lv nv av).told.length=578:=by show (c.shelf.flatMap KeptV.cells).length=578;rw[qg9 _ i.2,i.1]
 unfold ChanV.rest;have f:(c.v lv nv av).k.cells.length=8:=rfl;rw[List.getElem?_append_right (by rw[f];omega),f];show (Value.int .u64 c.loc::Value.int .u64 c.rem::lv::((c.v lv nv av).told++[nv,av]))[581]? = _;rw[List.getElem?_cons_succ,List.getElem?_cons_succ,List.getElem?_cons_succ,List.getElem?_append_right (by rw[m];omega),m];rfl
theorem qoe(i:c.shelf.length=17∧∀p∈c.shelf,p.told.length=32):(c.v lv nv av).cells.toArray[627]? = some av:=by
 rw[List.getElem?_toArray,show 627=37+590 from rfl,qlr _ h];have m:(c.v lv nv av).told.length=578:=by show (c.shelf.flatMap KeptV.cells).length=578;rw[qg9 _ i.2,i.1]
 unfold ChanV.rest;have f:(c.v lv nv av).k.cells.length=8:=rfl;rw[List.getElem?_append_right (by rw[f];omega),f];show (Value.int .u64 c.loc::Value.int .u64 c.rem::lv::((c.v lv nv av).told++[nv,av]))[582]? = _;rw[List.getElem?_cons_succ,List.getElem?_cons_succ,List.getElem?_cons_succ,List.getElem?_append_right (by rw[m];omega),m];rfl
end
theorem qb3{f:Nat→Option (Nat × Nat)}{i off:Nat}{v z:Value}{P R:List Value}{cs:Array Value}(C:f i=some (off,1))(q:P.length=off)(E:v.cells=#[v])(m:cs=(P++(z::R)).toArray)(rest:List (Nat × Value)) :
  Instr.fill f cs ((i,v)::rest)=Instr.fill f (P++(v::R)).toArray rest:=by
 subst m q
 rw[Instr.fill,C]
 simp[E]
theorem qss{P:Program}{sl T:TypeId}{n:Nat}{Z:List Value}(K:P.underlying sl=some (.slice T))(L:((P.info? T).map fun i=>i.zero.map fun z=>z.cells.toList)=some (some Z))(F:(P.info? T).map (·.size)=some n)(N:Z.length=n)(M:n≠0)(H:n≤1000)
  (A:List Value) (h:A.length=n) (w:World):(Instr.buildSlice sl 1 #[(0,.agg A.toArray)]).run P w = .ok (.slice (some ⟨w.heap.size,0,none⟩) 1 1) (w.alloc (.cells A.toArray T)):=by
 obtain⟨i,z,E,v,J⟩:=qc2 L
 have f:i.size=n:=by rw[E] at F;simpa using F
 refine run_buildSlice w _ _ 1 _ _ i z K E v (by rw[f];first | omega | (simp;omega)) (by rw[f];first | omega | (simp;omega)) ?_
 rw[f,J]
 generalize I:Array.map _ _=W
 have m:W.toList.length=A.length:=by rw[←I,h];simp
 have C:=qts A [] W.toList [] m
 have q:W.size=n:=by rw[←h,←m];simp
 simp[Instr.fill,Value.cells,h,q] at C ⊢
 exact C
theorem Tryz.zeroMsg:((Tryz.prog.info? 101).map fun i=>i.zero.map fun z=>z.cells.toList)=some (some MsgV.zero.cells):=by kernel_rfl
theorem Tryz.zeroLive':((Tryz.prog.info? 69).map fun i=>i.zero.map fun z=>z.cells.toList)=some (some (qm Live.zero)):=by kernel_rfl
def Htlc.zero:Htlc:=⟨0,0,Vector.replicate 32 0,0⟩
theorem Tryz.zeroHtlc':((Tryz.prog.info? 41).map fun i=>i.zero.map fun z=>z.cells.toList)=some (some (qk Htlc.zero)):=by kernel_rfl
def q3w(n:Nat)(p:Array (Nat × Value)):Sem Value:=Instr.buildSlice 124 n p
theorem qah(n:Nat)(p:Array (Nat × Value)):Instr.buildSlice 124 n p=q3w n p:=rfl
theorem qcl(A:List Value)(w:World):(q3w 1 #[(0,.agg A.toArray)]).run Tryz.prog w=if A.length=38 then .ok (.slice (some ⟨w.heap.size,0,none⟩) 1 1) (w.alloc (.cells A.toArray 101)) else (Instr.buildSlice 124 1 #[(0,.agg A.toArray)]).run Tryz.prog w:=by
 by_cases h:A.length=38
 ·rw[if_pos h];exact qss Tryz.underlying124 Tryz.zeroMsg Tryz.infoMsg rfl (by decide) (by decide) A h w
 ·rw[if_neg h];rfl
def q98(n:Nat)(p:Array (Nat × Value)):Sem Value:=Instr.buildSlice 46 n p
theorem qga(n:Nat)(p:Array (Nat × Value)):Instr.buildSlice 46 n p=q98 n p:=rfl
theorem qrt(A:List Value)(w:World):(q98 1 #[(0,.agg A.toArray)]).run Tryz.prog w=if A.length=38 then .ok (.slice (some ⟨w.heap.size,0,none⟩) 1 1) (w.alloc (.cells A.toArray 69)) else (Instr.buildSlice 46 1 #[(0,.agg A.toArray)]).run Tryz.prog w:=by
 by_cases h:A.length=38
 ·rw[if_pos h];exact qss Tryz.underlying46 Tryz.zeroLive' Tryz.infoLive rfl (by decide) (by decide) A h w
 ·rw[if_neg h];rfl
theorem Tryz.placesMsg:∃m,Tryz.prog.underlying 101=some (.struct m)∧m.toList.mapM (fun f=>(Tryz.prog.info? f.type).map fun i=>(f.offset,i.size))=some [(0,1),(1,1),(2,1),(3,1),(4,32),(36,1),(37,1)]:=⟨_,Tryz.underlying101,by kernel_rfl⟩
theorem qzq(k id n ex:Int)(H:List Value)(h:H.length=32):Tryz.prog.built 101 [(0,.int .i64 k),(2,.int .u64 id),(3,.int .u64 n),(4,.agg H.toArray),(5,.int .i64 ex)]=some (.int .i64 k :: .int .u32 0 :: .int .u64 id :: .int .u64 n::(H++[.int .i64 ex,.int .i64 0])).toArray:=by
 obtain⟨i,z,m,C,f⟩:=qc2 Tryz.zeroMsg;obtain⟨E,v,q⟩:=Tryz.placesMsg;rw[qbm m v C q];rw[qb3 (P:=[]) (z:= .int .i64 0) (R:= .int .u32 0 :: .int .u64 0 :: .int .u64 0::(ze.map (Value.int .u8)++[.int .i64 0,.int .i64 0])) rfl rfl rfl f];rw[qb3 (P:=[.int .i64 k,.int .u32 0]) (z:= .int .u64 0) (R:= .int .u64 0::(ze.map (Value.int .u8)++[.int .i64 0,.int .i64 0])) rfl rfl rfl (by rfl)];rw[qb3 (P:=[.int .i64 k,.int .u32 0,.int .u64 id]) (z:= .int .u64 0) (R:=(ze.map (Value.int .u8)++[.int .i64 0,.int .i64 0])) rfl rfl rfl (by rfl)];rw[qc5 (P:=[.int .i64 k,.int .u32 0,.int .u64 id,.int .u64 n]) (A:=H) (Z:=ze.map (Value.int .u8)) (R:=[.int .i64 0,.int .i64 0]) (off:=4) (by rw[h];rfl) rfl (by rw[h];rfl) (by rfl)];rw[qb3 (P:=[.int .i64 k,.int .u32 0,.int .u64 id,.int .u64 n]++H) (z:= .int .i64 0) (R:=[.int .i64 0]) (off:=36) rfl (by simp[h]) rfl (by simp)];rw[Instr.fill];simp
theorem qn0(k id n ex:Int)(H:List Value)(w:World):(qij #[(0,.int .i64 k),(2,.int .u64 id),(3,.int .u64 n),(4,.agg H.toArray),(5,.int .i64 ex)]).run Tryz.prog w=if H.length=32 then .ok (.agg (.int .i64 k :: .int .u32 0 :: .int .u64 id :: .int .u64 n::(H++[.int .i64 ex,.int .i64 0])).toArray) w else (Instr.build 101 #[(0,.int .i64 k),(2,.int .u64 id),(3,.int .u64 n),(4,.agg H.toArray),(5,.int .i64 ex)]).run Tryz.prog w:=by
 by_cases h:H.length=32
 ·rw[if_pos h];exact run_build w _ _ _ (qzq k id n ex H h)
 ·rw[if_neg h];rfl
theorem zt(w:World):(qij #[]).run Tryz.prog w = .ok (.agg MsgV.zero.cells.toArray) w:=run_build w _ _ _ (by kernel_rfl)
theorem qmd(k c:Int)(w:World):(qij #[(0,.int .i64 k),(1,.int .u32 c)]).run Tryz.prog w = .ok (.agg (MsgV.cells ⟨k,c,0,0,ze,0,0⟩).toArray) w:=run_build w _ _ _ (by kernel_rfl)
def q3l(p:Array (Nat × Value)):Sem Value:=Instr.build 41 p
theorem qik(p:Array (Nat × Value)):Instr.build 41 p=q3l p:=rfl
theorem Tryz.placesHtl:∃m,Tryz.prog.underlying 41=some (.struct m)∧m.toList.mapM (fun f=>(Tryz.prog.info? f.type).map fun i=>(f.offset,i.size))=some [(0,1),(1,1),(2,32),(34,1)]:=⟨_,Tryz.underlying41,by kernel_rfl⟩
theorem qzt(id n ex:Int)(H:List Value)(h:H.length=32):Tryz.prog.built 41 [(0,.int .u64 id),(1,.int .u64 n),(2,.agg H.toArray),(3,.int .i64 ex)]=some (.int .u64 id :: .int .u64 n::(H++[.int .i64 ex])).toArray:=by
 obtain⟨i,z,m,C,f⟩:=qc2 Tryz.zeroHtlc';obtain⟨E,v,q⟩:=Tryz.placesHtl;rw[qbm m v C q];rw[qb3 (P:=[]) (z:= .int .u64 0) (R:= .int .u64 0::(ze.map (Value.int .u8)++[.int .i64 0])) rfl rfl rfl (f.trans (by kernel_rfl))];rw[qb3 (P:=[.int .u64 id]) (z:= .int .u64 0) (R:=ze.map (Value.int .u8)++[.int .i64 0]) rfl rfl rfl (by rfl)];rw[qc5 (P:=[.int .u64 id,.int .u64 n]) (A:=H) (Z:=ze.map (Value.int .u8)) (R:=[.int .i64 0]) (off:=2) (by rw[h];rfl) rfl (by rw[h];rfl) (by rfl)];rw[qb3 (P:=[.int .u64 id,.int .u64 n]++H) (z:= .int .i64 0) (R:=[]) (off:=34) rfl (by simp[h]) rfl (by simp)];rw[Instr.fill];simp
theorem qrn(id n ex:Int)(H:List Value)(w:World):(q3l #[(0,.int .u64 id),(1,.int .u64 n),(2,.agg H.toArray),(3,.int .i64 ex)]).run Tryz.prog w=if H.length=32 then .ok (.agg (.int .u64 id :: .int .u64 n::(H++[.int .i64 ex])).toArray) w else (Instr.build 41 #[(0,.int .u64 id),(1,.int .u64 n),(2,.agg H.toArray),(3,.int .i64 ex)]).run Tryz.prog w:=by
 by_cases h:H.length=32
 ·rw[if_pos h];exact run_build w _ _ _ (qzt id n ex H h)
 ·rw[if_neg h];rfl
def qs9(p:Array (Nat × Value)):Sem Value:=Instr.build 69 p
theorem qmc(p:Array (Nat × Value)):Instr.build 69 p=qs9 p:=rfl
theorem Tryz.placesLiv:∃m,Tryz.prog.underlying 69=some (.struct m)∧m.toList.mapM (fun f=>(Tryz.prog.info? f.type).map fun i=>(f.offset,i.size))=some [(0,35),(35,1),(36,1),(37,1)]:=⟨_,Tryz.underlying69,by kernel_rfl⟩
theorem qm5:(qm Live.zero).toArray=(([]:List Value)++(qk Htlc.zero++([.bool false,.int .i64 0,.bool false]:List Value))).toArray:=rfl
theorem qv8(b:Bool)(s:Int)(H:List Value)(h:H.length=35):Tryz.prog.built 69 [(0,.agg H.toArray),(1,.bool b),(2,.int .i64 s)]=some (H++([.bool b,.int .i64 s,.bool false]:List Value)).toArray:=by
 obtain⟨i,z,m,C,f⟩:=qc2 Tryz.zeroLive';obtain⟨E,v,q⟩:=Tryz.placesLiv;rw[qbm m v C q];rw[qc5 (P:=[]) (A:=H) (Z:=qk Htlc.zero) (R:=[.bool false,.int .i64 0,.bool false]) (off:=0) (by rw[h];rfl) rfl (by rw[h];rfl) (f.trans qm5)];rw[qb3 (P:=H) (z:= .bool false) (R:=[.int .i64 0,.bool false]) (off:=35) rfl h rfl (by simp)];rw[qb3 (P:=H++[.bool b]) (z:= .int .i64 0) (R:=[.bool false]) (off:=36) rfl (by simp[h]) rfl (by simp)];rw[Instr.fill];simp
theorem qyn(b:Bool)(s:Int)(H:List Value)(w:World):(qs9 #[(0,.agg H.toArray),(1,.bool b),(2,.int .i64 s)]).run Tryz.prog w=if H.length=35 then .ok (.agg (H++([.bool b,.int .i64 s,.bool false]:List Value)).toArray) w else (Instr.build 69 #[(0,.agg H.toArray),(1,.bool b),(2,.int .i64 s)]).run Tryz.prog w:=by
 by_cases h:H.length=35
 ·rw[if_pos h];exact run_build w _ _ _ (qv8 b s H h)
 ·rw[if_neg h];rfl
attribute [local go_sem ↓ high] qbc qbo qce qz zb zc zf qah
attribute [local go_sem] qdi qdx qfb qaw qax qa1 zt qmd qcl qw
def qem(own:Bool)(xs:List Live):Nat:=(xs.filter fun x=>x.own==own).length
set_option maxRecDepth 100000 in
set_option maxHeartbeats 2000000 in
theorem qqn(g:Nat)(S:Nat→Prop)(c:Ch)(own:Bool)(w:World)(h:ChS w g S c) :
  Calls Tryz.prog 90 #[.pointer (some ⟨g,0,none⟩),.bool own] w (qa5 (.int .i64 (qem own c.xs)) w):=by
 obtain⟨X,nv,av,h⟩:=h
 have E:=h.toR.live
 have V:=h.ok.few
 have N:=h.toI.lives
 obtain⟨a,cap,P⟩:=qaa h.live
 change w.cell? ⟨g,47,none⟩=some X at E
 change qgo w X c.xs at N
 rw[P] at E N
 have f:∀(i:Nat) (x:Live),c.xs[i]? = some x→∃F off,a=some ⟨F,off,none⟩∧qd3 w F off c.xs:=by
  intro i x W;have m:=(List.getElem?_eq_some_iff.1 W).1;rcases N with ⟨a',k,e,Z⟩ | ⟨F,off,k,e,L⟩
  ·rw[Z] at m;simp at m
  ·injection e with e1;exact⟨F,off,e1,L⟩
 clear h N
 generalize c.xs=xs at *
 have b3:(xs.length:Int)≤1000000:=by omega
 go_enter Tryz.func90,Tryz.ntmps90
 go_wp2_with fail
 go_loopw [5,7,13] (fun sv _ T wr=>∃i:Nat,T = .int .i64 (i:Int)∧i≤xs.length∧sv = .int .i64 (qem own (xs.take i))∧qq w wr) (fun _ _ T _=>xs.length-(intOf T).toNat)
 case atStart=>exact⟨0,rfl,Nat.zero_le _,rfl,Upd.refl _ _⟩
 case round =>
  obtain⟨i,rfl,W,rfl,O⟩:=hrel;obtain⟨C,rfl⟩:∃C:World,C=wr:=⟨_,rfl⟩;by_cases m:i<xs.length
  ·obtain⟨x,q⟩:∃x,xs[i]? = some x:=⟨_,List.getElem?_eq_getElem m⟩;obtain⟨F,off,rfl,L⟩:=f i x q;have I:=(L.upd O (fun h=>h)).row q;have a7:(i:Int)<(xs.length:Int):=by omega
   have R:=qjo C x;have z:=qjg C x;have H:qem own (xs.take (i+1))=qem own (xs.take i)+(if x.own==own then 1 else 0):=by
    unfold qem;rw[List.take_add_one,q,List.filter_append,List.length_append];cases v:x.own==own<;>simp[v]
   have a8:qem own (xs.take i)≤i:=by
    unfold qem;refine Nat.le_trans (List.length_filter_le _ _) ?_;rw[List.length_take];omega
   have K:=qb H;clear H q L f;generalize qem own (xs.take i)=M at *
   go_upto_region 5 with fail;obtain⟨v,U⟩:=z;generalize (C.alloc (.cells (qm Live.zero).toArray 69)).setCells C.heap.size 0 (qm x)=wb at v U ⊢;have Y:wb.cell? ⟨C.heap.size,35,none⟩=some (.bool x.own):=by rw[qg v,List.getElem?_toArray];exact qfe x
   have J:=O.trans U;have a6:(M:Int)≤1000000:=by omega
   clear R I v U O;cases v:x.own==own with
   | true =>
    rw[v] at K;go_wp2_with fail;go_roundw
    case rel=>exact⟨i+1,by go_num,by omega,by rw[qa K];simp,J⟩
    case measure=>simp[intOf];omega
   | false =>
    rw[v] at K;go_wp2_with fail;go_roundw
    case rel=>exact⟨i+1,by go_num,by omega,by rw[qa K];simp,J⟩
    case measure=>simp[intOf];omega
  ·obtain rfl:i=xs.length:=by omega
   rw[List.take_length];clear f;go_wp2_with fail;go_ret;exact⟨rfl,O⟩
theorem qui:∃i z b,Tryz.prog.info? 101=some i∧i.zero=some z∧i.size=38∧i.bytes=b∧z.cells.size=38∧b≤1000:=by
 obtain⟨i,z,m,C,v⟩:=qc2 Tryz.zeroMsg;have f:(Tryz.prog.info? 101).map (fun i=>decide (i.bytes≤1000))=some true:=by kernel_rfl
 have q:=Tryz.infoMsg;rw[m,Option.map_some,Option.some.injEq] at f q;exact⟨i,z,i.bytes,m,C,q,rfl,by rw[v];rfl,of_decide_eq_true f⟩
def MsgV.on(m:MsgV)(ch:Int):MsgV:= {m with ch:=ch}
def Ch.say(c:Ch)(m:MsgV):Ch:= {c with news:=c.news++[m.on c.s.ch]}
set_option maxRecDepth 100000 in
set_option maxHeartbeats 2000000 in
theorem qsu(g:Nat)(S:Nat→Prop)(c:Ch)(m:MsgV)(hm:m.hash.length=32)(w:World)(h:ChS w g S c)(f6:c.news.length<1000000) :
  Calls Tryz.prog 91 #[.pointer (some ⟨g,0,none⟩),.agg m.cells.toArray] w fun e w'=>e = .returned (.agg (m.on c.s.ch).cells.toArray)∧ChS w' g (Fr S w w') (c.say m)∧Upd S w w':=by
 obtain⟨lv,nv,av,h⟩:=h
 go_enter Tryz.func91,Tryz.ntmps91
 go_upto_region 1 with fail
 have N:((w.alloc (.cells m.cells.toArray 101)).alloc (.cells MsgV.zero.cells.toArray 101)).heap[w.heap.size]? = some (.cells m.cells.toArray 101 (0,0)):=qs (qj _ _) _
 have a7:((w.alloc (.cells m.cells.toArray 101)).alloc (.cells MsgV.zero.cells.toArray 101)).heap[w.heap.size+1]? = some (.cells MsgV.zero.cells.toArray 101 (0,0)):=by
  have:=qj (w.alloc (.cells m.cells.toArray 101)) (.cells MsgV.zero.cells.toArray 101);rwa [World.size_alloc] at this
 have nA:qq w ((w.alloc (.cells m.cells.toArray 101)).alloc (.cells MsgV.zero.cells.toArray 101)):=((Upd.refl _ _).alloc _).alloc _
 generalize (w.alloc (.cells m.cells.toArray 101)).alloc (.cells MsgV.zero.cells.toArray 101)=wA at N a7 nA ⊢
 obtain⟨A,c8⟩:∃A,A=w.heap.size:=⟨_,rfl⟩
 obtain⟨B,c9⟩:∃B,B=w.heap.size+1:=⟨_,rfl⟩
 rw[←c9] at a7 ⊢
 rw[←c8] at N ⊢
 have hA:=h.new nA
 have e2:g≠A:=by have:=h.lt g h.inG;omega
 have d1:g≠B:=by have:=h.lt g h.inG;omega
 have f8:w.heap.size≤A:=by omega
 have f9:w.heap.size≤B:=by omega
 have d7:B≠A:=by omega
 clear c8 c9
 have c0:wA.cell? ⟨g,0,none⟩=some (.int .u32 c.s.ch):=hA.toR.ch
 have e1:wA.cell? ⟨A,1,none⟩=some (.int .u32 m.ch):=qg N 1
 have f1:=qu N 1
 have uB:Upd (· = A) wA (wA.setCell ⟨A,1,none⟩ (.int .u32 c.s.ch)):=(Upd.refl _ _).set1 1 _
 have K:(wA.setCell ⟨A,1,none⟩ (.int .u32 c.s.ch)).heap[A]? = some (.cells (m.on c.s.ch).cells.toArray 101 (0,0)):=zv N 1 _
 have V:=uB.old a7 d7
 have hB:=hA.upd uB (fun k f e=>by have:=h.lt k f;omega)
 have nB:qq w (wA.setCell ⟨A,1,none⟩ (.int .u32 c.s.ch)):=nA.then uB (fun i hi e=>by omega)
 have H0:=qb h
 clear h hA N a7 nA uB
 go_upto_region 2 with fail
 clear c0 e1 f1
 generalize wA.setCell ⟨A,1,none⟩ (.int .u32 c.s.ch)=M at hB K V nB ⊢
 have J:M.drew.cell? ⟨g,626,none⟩=some nv:=by
  have e:M.drew.cell? ⟨g,626,none⟩=_:=qg hB.at_ 626;rw[e];exact qtw c lv nv av hB.ok.s.seed hB.ok.shelf
 have c7:M.frozen? ⟨g,626,none⟩=false:=qu hB.at_ 626
 have Z:(m.on c.s.ch).hash.length=32:=hm
 have hr:zg M A 0 38=some (m.on c.s.ch).cells.toArray:=qat K 38 (by rw[List.size_toArray,MsgV.len _ Z])
 have Y:=MsgV.len _ Z
 obtain⟨i9,z9,b9,e3,f0,e7,e8,e9,d9⟩:=qui
 have HB:=qb hB
 have d0:Hid (∃cs,M.heap[g]? = some (.cells cs 126 (0,0))):=qb ⟨_,hB.at_⟩
 obtain⟨na,f7,d2⟩:=qaa hB.news
 clear hB
 refine qa2 (fun w'=>w'.cell? ⟨g,626,none⟩=some nv) [4] (.of [0,1,2,3,4,5,6,7,8,9,10]) (by kernel_rfl) (by kernel_rfl) J ?_
 simp only[Plan.of]
 go_wp2_with (with_reducible first|(first|refine' zy (qh ?_) ?_|refine' zz (qh ?_) ?_|refine' qw3 (qh ?_) ?_);rotate_left|refine' qw4 (qh ?_)|refine' qw5 (qh ?_)|rfl|apply qn)
 refine⟨((Upd.refl (fun _=>False) M).alloc _).drew.cell J (fun h=>h),?_⟩
 have nC:qq M (M.alloc (.cells (m.on c.s.ch).cells.toArray 101)).drew:=((Upd.refl _ _).alloc _).drew
 have a8:(M.alloc (.cells (m.on c.s.ch).cells.toArray 101)).drew.heap[M.heap.size]? = _:=qj M (.cells (m.on c.s.ch).cells.toArray 101)
 have HC:=qb ((qa HB).new nC)
 have R:=nC.old K (fun h=>h)
 have L:=nC.old V (fun h=>h)
 have I:=nC.cell J (fun h=>h)
 have c6:=nB.trans nC
 have d8:w.heap.size≤M.heap.size:=nB.size
 clear J c7 hr HB K V nB nC d0
 generalize (M.alloc (.cells (m.on c.s.ch).cells.toArray 101)).drew=wC at a8 HC R L I c6 ⊢
 generalize M.heap.size=D at a8 d8 ⊢
 have F:=(qa HC).news
 unfold qyj at F
 rw[d2] at F
 have HN:=qb F
 clear F
 go_wp2_with (first | (at_builtin;refine wpList_append_own_at _ rfl (.tmp 15) (.tmp 17) 124 rfl 0 101 i9 _ 38 b9 Tryz.underlying124 e3 f0 e7 e8 e9 (by decide) _ _ _ rfl (qa HN) ⟨D,0,none⟩ 1 1 (m.on c.s.ch).cells rfl (by rw[Y]) ?c1 ?c2 ?c3 ?c4 ?c5 ?_) | (with_reducible first|(first|refine' zy (qh ?_) ?_|refine' zz (qh ?_) ?_|refine' qw3 (qh ?_) ?_);rotate_left|refine' qw4 (qh ?_)|refine' qw5 (qh ?_)|rfl|apply qn))
 case c1=>exact World.news_of_block (cs:=(m.on c.s.ch).cells.toArray) (fr:=(0,0)) a8
 case c2=>exact MsgV.one _
 case c3=>unfold maxLen;omega
 case c4=>have:=Nat.mul_le_mul (show c.news.length+1≤1000000 by omega) d9;omega
 case c5=>omega
 intro O wD q b7 _ z
 obtain⟨a',f3,b8⟩:=qaa q
 have H:=fun k (e:nv.ownBlock=some k)=>(qa HC).inN k e
 rw[←d2] at b7 z
 have uD:Upd (fun k=>nv.ownBlock=some k) wC wD:=(Upd.refl _ _).grown b7 (fun k f _=>f)
 have b6:¬(nv.ownBlock=some g):=fun e=>by
  obtain⟨a6,X⟩:=qal (qa HC).news g e;exact qay (qa HC).at_ X (by decide) rfl
 have E:=(qa H0).lt
 have f5:=zr L
 have b3:=uD.old R (fun e=>by have:=E _ (H _ e);omega)
 have b4:=uD.old L (fun e=>by have:=E _ (H _ e);omega)
 have P:=uD.old (qa HC).at_ b6
 have d5:=uD.cell I b6
 have d6:wD.frozen? ⟨g,626,none⟩=false:=qu P 626
 have HV:=qb (And.intro q (And.intro z uD))
 clear q z b7 uD I R L a8
 have uE:Upd (· = g) wD (wD.setCell ⟨g,626,none⟩ O):=(Upd.refl _ _).set1 626 _
 have U:=uE.old b3 (fun e=>e2 e.symm)
 have W:=uE.old b4 (fun e=>d1 e.symm)
 have C:=zv P 626 O
 rw[qu9 c lv nv av (qa HC).ok.s.seed (qa HC).ok.shelf (c.news++[m.on c.s.ch])] at C
 have HE:=qb (And.intro C uE)
 have d4:=qb b8
 clear C uE P b3 b4
 rw[b8] at U W ⊢
 have g0:=qat U 38 (by rw[List.size_toArray,Y])
 have g1:=qlj W Z
 have hF:=qky W Z
 have HF:=qb hF
 clear hF b8 U
 go_wp2_with (with_reducible first|(first|refine' zy (qh ?_) ?_|refine' zz (qh ?_) ?_|refine' qw3 (qh ?_) ?_);rotate_left|refine' qw4 (qh ?_)|refine' qw5 (qh ?_)|rfl|apply qn)
 refine bodyPost_ret (results_cell_row rfl _ _ B _ _ _ _ rfl (qa HF) Tryz.underlying101 rfl (by rw[List.size_toArray,Y];exact Tryz.infoMsg)) rfl ?_
 have e5:=qa d4
 obtain⟨q,z,uD⟩:=qa HV
 obtain⟨C,uE⟩:=qa HE
 rw[←e5]
 have h:=qa H0
 have hC:=qa HC
 have uF:Upd (· = B) (wD.setCell ⟨g,626,none⟩ O) ((wD.setCell ⟨g,626,none⟩ O).setCells B 0 (m.on c.s.ch).cells):=(Upd.refl _ _).setCells 0 _
 have g2:=c6.size
 refine⟨rfl,?_,(((c6.mono (fun _ _ h=>h.elim)).trans (uD.mono (fun k _ e=>H k e))).trans (uE.mono (fun k _ e=>by rw[e];exact h.inG))).then uF (fun i hi e=>by omega)⟩
 have f2:wD.heap.size≤((wD.setCell ⟨g,626,none⟩ O).setCells B 0 (m.on c.s.ch).cells).heap.size:=Nat.le_trans uE.size uF.size
 generalize (wD.setCell ⟨g,626,none⟩ O).setCells B 0 (m.on c.s.ch).cells=wF at uF f2 ⊢
 generalize wD.setCell ⟨g,626,none⟩ O=wE at uE uF C
 have d3:∀k,O.ownBlock=some k→k<wD.heap.size:=fun k f=>by
  obtain⟨a6,X⟩:=qal q k f;exact zr X
 have e4:∀k,O.ownBlock=some k→k≠B:=by
  intro k f;rcases z with e | e
  ·rw[e] at f;have:=E k (H k f);omega
  ·rw[e] at f;injection f with f;omega
 have e6:∀k,O.ownBlock=some k→k≠g:=by
  intro k f;rcases z with e | e
  ·rw[e] at f;rintro rfl;exact b6 f
  ·rw[e] at f;injection f with f;have:=zr hC.at_;omega
 have b5:∀ {T:TypeId} {v:Value} {n:Nat} {xs:List Value},wC.ownsRow 0 T 38 v n xs→(∀k,v.ownBlock=some k→S k)→(∀k,v.ownBlock=some k→k≠g)→(∀k,v.ownBlock=some k→nv.ownBlock≠some k)→wF.ownsRow 0 T 38 v n xs:=by
  intro T v n xs hr hs h1 h2;exact zk (zk (zk hr uD (fun k f e=>h2 k f e)) uE (fun k f e=>h1 k f e)) uF (fun k f e=>by have:=E k (hs k f);omega)
 refine⟨lv,O,av,⟨uF.old C d1,⟨h.ok.s,h.ok.signed,h.ok.heard,h.ok.nextOwn,h.ok.nextTheirs,h.ok.loc,h.ok.rem,h.ok.xs,h.ok.few,h.ok.shelf,?_,h.ok.last,?_,h.ok.many.2⟩,?_,?_,?_,.inl h.inG,fun k e=> .inl (h.inL k e),?_,fun k e=> .inl (h.inA k e),?_,?_⟩⟩
 ·intro x hx;rcases List.mem_append.1 hx with hx | hx
  ·exact h.ok.news x hx
  ·rw[List.mem_singleton.1 hx];exact Z
 ·show (c.news++[m.on c.s.ch]).length≤1000000;rw[List.length_append];simp;omega
 ·refine b5 hC.live h.inL ?_ ?_
  ·intro k f e;obtain⟨a6,X⟩:=qal hC.live k f;rw[e] at X;exact qay hC.at_ X (by decide) rfl
  ·intro k f e;obtain⟨a6,X⟩:=qal hC.live k f;obtain⟨f4,e0⟩:=qal hC.news k e;exact qay X e0 (by decide) rfl
 ·show wF.ownsRow 0 _ 38 O (c.news++[m.on c.s.ch]).length ((c.news++[m.on c.s.ch]).flatMap MsgV.cells);rw[List.length_append,List.flatMap_append];have:[m.on c.s.ch].flatMap MsgV.cells=(m.on c.s.ch).cells:=by simp
  rw[this];exact zk (zk q uE (fun k f e=>e6 k f e)) uF (fun k f e=>e4 k f e)
 ·refine b5 hC.last h.inA ?_ ?_
  ·intro k f e;obtain⟨a6,X⟩:=qal hC.last k f;rw[e] at X;exact qay hC.at_ X (by decide) rfl
  ·intro k f e;exact h.sep k e f
 ·intro k f;rcases z with e | e
  ·rw[e] at f;exact .inl (h.inN k f)
  ·have:=d3 k f;rw[e] at f;injection f with f;exact .inr ⟨by omega,by omega⟩
 ·intro k f e';rcases z with e | e
  ·rw[e] at f;exact h.sep k f e'
  ·rw[e] at f;injection f with f;have:=E k (h.inA k e');omega
 ·rintro k (f | f)
  ·have:=E k f;have:=uD.size;omega
  ·exact f.2
end Go.Proofs.YtfmkdoachjgjbaaGreatDoor
namespace Go.Proofs.YtfmkdoachjgjbaaGreatDoor
open Go.RowKit
theorem Tryz.infoHsh:(Tryz.prog.info? 35).map (·.size)=some 32:=by kernel_rfl
def zad(x:Value):Sem Value:=Instr.loadAt 35 x
theorem zq(x:Value):Instr.loadAt 35 x=zad x:=rfl
theorem qbi(b o:Nat)(w:World):(zad (.pointer (some ⟨b,o,none⟩))).run Tryz.prog w=match zg w b o 32 with | some A=> .ok (.agg A) w | none=>qdh Tryz.prog 35 w b o :=
 qae 35 32 _ Tryz.underlying35 rfl Tryz.infoHsh b o w
def zao(x v:Value):Sem Unit:=Instr.storeAt 35 x v
theorem qad(x v:Value):Instr.storeAt 35 x v=zao x v:=rfl
theorem qch(b o:Nat)(A:Array Value)(w:World):(zao (.pointer (some ⟨b,o,none⟩)) (.agg A)).run Tryz.prog w=if stOk w b o 32 A=true then .ok () (w.setCells b o A.toList) else qed Tryz.prog 35 w b o A :=
 qau 35 32 Tryz.infoHsh b o A w
theorem Tryz.infoHtl:(Tryz.prog.info? 41).map (·.size)=some 35:=by kernel_rfl
def zae(x:Value):Sem Value:=Instr.loadAt 41 x
theorem qdm(x:Value):Instr.loadAt 41 x=zae x:=rfl
theorem qj8(b o:Nat)(w:World):(zae (.pointer (some ⟨b,o,none⟩))).run Tryz.prog w=match zg w b o 35 with | some A=> .ok (.agg A) w | none=>qdh Tryz.prog 41 w b o :=
 qae 41 35 _ Tryz.underlying41 rfl Tryz.infoHtl b o w
def zap(x v:Value):Sem Unit:=Instr.storeAt 41 x v
theorem qmx(x v:Value):Instr.storeAt 41 x v=zap x v:=rfl
theorem q7e(b o:Nat)(A:Array Value)(w:World):(zap (.pointer (some ⟨b,o,none⟩)) (.agg A)).run Tryz.prog w=if stOk w b o 35 A=true then .ok () (w.setCells b o A.toList) else qed Tryz.prog 41 w b o A :=
 qau 41 35 Tryz.infoHtl b o A w
def q92:Sem Value:=Instr.alloc 41 true (.tuple #[])
theorem ql8:Instr.alloc 41 true (.tuple #[])=q92:=rfl
theorem q3h(w:World):q92.run Tryz.prog w = .ok (.pointer (some ⟨w.heap.size,0,none⟩)) (w.alloc (.cells (qk Htlc.zero).toArray 41)):=by kernel_rfl
attribute [local go_sem ↓ high] qz zb zc zf zq
attribute [local go_sem] qaw qax qa1 zt qmd qw qbi
set_option maxRecDepth 100000 in
set_option maxHeartbeats 1000000 in
theorem q2q(g:Nat)(c:ChanV)(w:World)(h:ChR w g c) :
  Calls Tryz.prog 117 #[.pointer (some ⟨g,0,none⟩)] w (qa5 (.agg (MsgV.cells ⟨8,c.setup.ch,0,0,ze,0,0⟩).toArray) w):=by
 go_enter Tryz.func117,Tryz.ntmps117
 go_upto_region 1 with fail
 have v:(w.alloc (.cells MsgV.zero.cells.toArray 101)).heap[w.heap.size]? = some (.cells MsgV.zero.cells.toArray 101 (0,0)):=qj _ _
 have z:qq w (w.alloc (.cells MsgV.zero.cells.toArray 101)):=(Upd.refl _ _).alloc _
 generalize w.alloc (.cells MsgV.zero.cells.toArray 101)=w1 at v z ⊢
 have H:=(h.new z).ch
 obtain⟨B,q⟩:∃B,B=w.heap.size:=⟨_,rfl⟩
 have I:w.heap.size≤B:=by omega
 rw[←q] at v ⊢
 clear q
 have F:=qlj (m:=⟨8,c.setup.ch,0,0,ze,0,0⟩) v qo
 have f:=qky (m:=⟨8,c.setup.ch,0,0,ze,0,0⟩) v qo
 have C:=qb f
 have u:Upd (· = B) w1 (w1.setCells B 0 (MsgV.cells ⟨8,c.setup.ch,0,0,ze,0,0⟩)):=(Upd.refl _ _).setCells 0 _
 have E:=qb (z.then u (fun i J e=>by omega))
 clear h v f z u
 go_wp2_with (with_reducible first|(first|refine' tw1 (qh ?_) ?_|refine' tw2 (qh ?_) ?_);rotate_left|refine' tw3 (qh ?_)|rfl|apply tn|refine' tw4 ?_)
 refine bodyPost_ret (results_cell_row rfl _ _ B _ _ _ _ rfl (qa C) Tryz.underlying101 rfl (by rw[List.size_toArray,MsgV.len _ qo];exact Tryz.infoMsg)) rfl ?_
 exact⟨rfl,qa E⟩
def Ch.shutSaid(c:Ch):Ch:= {c with k:= {c.k with shutSaid:=true}}
theorem Ch.Ok.shutSaid{c:Ch}(h:c.Ok):c.shutSaid.Ok:=⟨h.s,h.signed,h.heard,h.nextOwn,h.nextTheirs,h.loc,h.rem,h.xs,h.few,h.shelf,h.news,h.last,h.many⟩
def qlh(ch:Int):MsgV:=⟨8,ch,0,0,ze,0,0⟩
def Ch.shut(c:Ch):Ch × MsgV × Int:=if c.k.shutSaid then (c,MsgV.zero,4) else (c.shutSaid,qlh c.s.ch,0)
end Go.Proofs.YtfmkdoachjgjbaaGreatDoor
namespace Go.Proofs.YtfmkdoachjgjbaaGreatDoor
open Go.RowKit
def qv(h:List Int):List Value:=h.map (Value.int .u8)
theorem qaj(h:List Int):(qv h).length=h.length:=by simp[qv]
theorem qoj(h:List Int):∀v∈qv h,v.oneCell'=true:=by
 intro v f;obtain⟨x,_,rfl⟩:=List.mem_map.1 f;rfl
def q91:Sem Value:=Instr.alloc 35 true (.tuple #[])
theorem qag:Instr.alloc 35 true (.tuple #[])=q91:=rfl
theorem qck(w:World):q91.run Tryz.prog w = .ok (.pointer (some ⟨w.heap.size,0,none⟩)) (w.alloc (.cells (qv ze).toArray 35)):=by kernel_rfl
def qym(p:Array (Nat × Value)):Sem Value:=Instr.build 35 p
theorem qan(p:Array (Nat × Value)):Instr.build 35 p=qym p:=rfl
theorem qdg(w:World):(qym #[]).run Tryz.prog w = .ok (.agg (qv ze).toArray) w:=run_build w _ _ _ (by kernel_rfl)
structure HsB(w:World)(b:Nat)(h:List Int):Prop where
 at_:w.heap[b]? = some (.cells (qv h).toArray 35 (0,0))
 len:h.length=32
theorem HsB.upd{S:Nat→Prop}{w w':World}{b:Nat}{h:List Int}(a:HsB w b h)(u:Upd S w w')(n:¬S b):HsB w' b h:=⟨u.old a.at_ n,a.len⟩
theorem HsB.new{w w':World}{b:Nat}{h:List Int}(a:HsB w b h)(u:qq w w'):HsB w' b h:=a.upd u (fun h=>h)
theorem HsB.row{w:World}{b:Nat}{h:List Int}(a:HsB w b h):zg w b 0 32=some (qv h).toArray:=qat a.at_ 32 (by rw[List.size_toArray,qaj,a.len])
theorem HsB.stOk{w:World}{b:Nat}{h:List Int}(a:HsB w b h)(k:List Int)(f:k.length=32):stOk w b 0 32 (qv k).toArray=true:=by
 have:=qee a.at_ (A:=qv k) (by rw[List.size_toArray,qaj,qaj,a.len,f]) (qoj k);rwa [List.size_toArray,qaj,a.len] at this
theorem HsB.put{w:World}{b:Nat}{h:List Int}(a:HsB w b h)(k:List Int)(f:k.length=32):HsB (w.setCells b 0 (qv k)) b k:=by
 refine⟨?_,f⟩;rw[qa8 a.at_ 0 _,qcu _ _ (by rw[List.size_toArray,qaj,qaj,a.len,f])]
theorem HsB.lt{w:World}{b:Nat}{h:List Int}(a:HsB w b h):b<w.heap.size:=zr a.at_
theorem qca(w:World)(h:List Int)(f:h.length=32):HsB (w.alloc (.cells (qv h).toArray 35)) w.heap.size h:=⟨qj _ _,f⟩
theorem zj{w:World}{b:Nat}(l:List Value):Upd (· = b) w (w.setCells b 0 l):=(Upd.refl _ _).setCells 0 l
def qh5(w:World)(k:List Int):World:=(w.alloc (.cells (qv ze).toArray 35)).setCells w.heap.size 0 (qv k)
theorem qgv(w:World)(k:List Int)(m:k.length=32):stOk (w.alloc (.cells (qv ze).toArray 35)) w.heap.size 0 32 (qv k).toArray=true∧HsB (qh5 w k) w.heap.size k∧qq w (qh5 w k):=by
 have f:=qca w ze qo;exact⟨f.stOk k m,f.put k m,(((Upd.refl (fun _=>False) w).alloc _)).then (zj _) (fun i q e=>by omega)⟩
attribute [local go_sem ↓ high] zq qad qag
attribute [local go_sem] qbi qch qck qw
def qx8(s:ByteArray):ByteArray:=strOfNums ((qef s).take 4)
theorem qq1(s:ByteArray):(qx8 s).size=4:=by
 unfold qx8;rw[strOfNums_size,List.length_take,qb5];rfl
set_option maxRecDepth 100000 in
set_option maxHeartbeats 1000000 in
theorem q5v(s:ByteArray)(w:World)(N:s.size≤1000000000)(K:Tabs w) :
  Calls Tryz.prog 162 #[.string s] w (qa5 (.string (qx8 s)) w):=by
 have f:Calls Tryz.prog 164 #[.string s] w fun e w'=>e = .returned (.agg (qv (qef s)).toArray)∧qq w w':=qgg s w N K
 have M:=qb5 s
 unfold qx8
 generalize qef s=h at *
 go_enter Tryz.func162,Tryz.ntmps162
 go_wp2_with fail
 refine f.mono ?_
 rintro e w1 ⟨rfl,I⟩
 obtain⟨m,C,J⟩:=qgv w1 h M
 have H:=qb (I.trans J)
 clear f I J
 go_upto_region 2 with fail
 change Code.wp _ _ _ _ (qh5 w1 h)
 generalize qh5 w1 h=F at C H ⊢
 generalize w1.heap.size=B at C ⊢
 clear m
 have m:(convert 95 9 (.slice (some ⟨B,0,none⟩) 4 32)).run Tryz.prog F = .ok (.string (strOfNums (h.take 4))) F:=by
  refine run_convert_bytes_arg F 95 5 Tryz.underlying95 Tryz.underlying5 B 0 4 32 (h.take 4) (by rw[List.length_take];omega) (fun i L=> ?_) 9 Tryz.underlying9;have v:i<h.length:=by omega
  rw[Nat.zero_add,qg C.at_ i,List.getElem?_toArray];unfold qv;rw[List.getElem?_map,List.getElem?_eq_getElem v];simp[List.getD,List.getElem?_eq_getElem v,List.getElem?_take,L]
 generalize z:strOfNums (h.take 4)=q at m
 have E:=qb z
 clear C z
 go_wp2_with fail
 go_ret
 exact⟨by rw[qa E];rfl,qa H⟩
end Go.Proofs.YtfmkdoachjgjbaaGreatDoor
namespace Go.Proofs.YtfmkdoachjgjbaaGreatDoor
open Go.RowKit
theorem qsn{f:Func}{t u v x:Tmp}(h:f.results=#[.tmp t,.tmp u,.tmp v,.tmp x])(tmps:Array Value)(P:Program)(w:World) :
  (results f tmps).run P w = .ok (.tuple #[tmps.getD t undef,tmps.getD u undef,tmps.getD v undef,tmps.getD x undef]) w:=by
 simp[results,h]
set_option maxHeartbeats 1000000 in
theorem q8w(w:World):Calls Tryz.prog 124 #[.string ⟨#[]⟩] w (qa0 (.tuple #[.int .u64 0,.string ⟨#[]⟩,.int .i64 0,.int .i64 3]) w):=by
 go_enter Tryz.func124,Tryz.ntmps124;go_wp2_with fail;refine bodyPost_ret (qsn rfl _ _ _) rfl ?_;exact⟨rfl,Q.refl _⟩
structure JourV where
 addr:Value
 buf:Value
 many:Int
 fused:Bool
 fuse:Int
 off:Bool
def JourV.cells(j:JourV):List Value:=[j.addr,j.buf,.int .i64 j.many,.bool j.fused,.int .i64 j.fuse,.bool j.off]
def JourV.new:JourV:=⟨.pointer none,qco,0,false,0,false⟩
def JoR(w:World)(g:Nat)(j:JourV):Prop:=w.heap[g]? = some (.cells j.cells.toArray 213 (0,0))
set_option maxHeartbeats 1000000 in
theorem qu2(w:World):Calls Tryz.prog 86 #[.string ⟨#[]⟩] w fun e w'=>∃g,e = .returned (.tuple #[.pointer (some ⟨g,0,none⟩),qco])∧w.heap.size≤g∧JoR w' g .new∧qq w w':=by
 go_enter Tryz.func86,Tryz.ntmps86;go_wp2_with fail;have f:JoR (w.alloc (.cells #[.pointer none,.slice none 0 0,.int .i64 0,.bool false,.int .i64 0,.bool false] 213)) w.heap.size .new:=qj _ _;have m:qq w (w.alloc (.cells #[.pointer none,.slice none 0 0,.int .i64 0,.bool false,.int .i64 0,.bool false] 213)):=(Upd.refl _ _).alloc _;generalize w.alloc _=w1 at f m ⊢
 go_loopw [0,5] (fun C v wr=>C = .string ⟨#[]⟩∧v = .slice none 0 0∧wr=w1) (fun _ _ _=>0)
 case atStart=>exact⟨rfl,rfl,rfl⟩
 case round =>
  obtain⟨rfl,rfl,rfl⟩:=hrel;go_wp2_with fail;refine(q8w _).mono ?_;rintro e E ⟨rfl,q⟩;have i:JoR E w.heap.size .new:=q.old f;have z:=m.trans (q.upd _);clear q f m;go_wp2_with fail;go_ret2;exact⟨_,rfl,Nat.le_refl _,i,z⟩
theorem qna(a b:ByteArray):Lib.strCells (a++b)=Lib.strCells a++Lib.strCells b:=by
 unfold Lib.strCells;rw[ByteArray.data_append,Array.toList_append,List.map_append]
structure Jo where
 bs:ByteArray
 many:Int
 fused:Bool
 fuse:Int
 off:Bool
def Jo.v(j:Jo)(p buf:Value):JourV:=⟨p,buf,j.many,j.fused,j.fuse,j.off⟩
def Jo.new:Jo:=⟨⟨#[]⟩,0,false,0,false⟩
structure JoP(w:World)(g:Nat)(S:Nat→Prop)(j:Jo)(p buf:Value):Prop where
 at_:JoR w g (j.v p buf)
 addr:p = .pointer none∨p = .pointer (some ⟨g,0,none⟩)
 row:w.ownsRow 0 5 1 buf j.bs.size (Lib.strCells j.bs)
 inG:S g
 inB:∀k,buf.ownBlock=some k→S k
 lt:∀k,S k→k<w.heap.size
def JoS(w:World)(g:Nat)(S:Nat→Prop)(j:Jo):Prop:=∃p buf,JoP w g S j p buf
section
variable {w w':World}{g:Nat}{S T:Nat→Prop}{j:Jo}{p buf:Value}
theorem JoP.upd(h:JoP w g S j p buf)(u:Upd T w w')(hd:∀k,S k→¬T k):JoP w' g S j p buf :=
 ⟨u.old h.at_ (hd g h.inG),h.addr,zk h.row u (fun k f=>hd k (h.inB k f)),h.inG,h.inB,fun k f=>Nat.lt_of_lt_of_le (h.lt k f) u.size⟩
theorem JoS.upd(h:JoS w g S j)(u:Upd T w w')(hd:∀k,S k→¬T k):JoS w' g S j:=by
 obtain⟨a,b,h⟩:=h;exact⟨a,b,h.upd u hd⟩
theorem JoS.new(h:JoS w g S j)(u:qq w w'):JoS w' g S j:=h.upd u (fun _ _ h=>h)
theorem JoS.lt(h:JoS w g S j):∀k,S k→k<w.heap.size:=by
 obtain⟨a,b,h⟩:=h;exact h.lt
theorem JoP.wider(h:JoP w g S j p buf)(f:∀k,S k→T k)(i:∀k,T k→k<w.heap.size):JoP w g T j p buf :=
 ⟨h.at_,h.addr,h.row,f g h.inG,fun k e=>f k (h.inB k e),i⟩
theorem JoP.fr(h:JoP w' g S j p buf)(w:World):JoS w' g (Fr S w w') j:=⟨_,_,h.wider (fun k f=> .inl f) (fun k f=>f.elim (h.lt k) (fun e=>e.2))⟩
end
theorem JoS.fresh{w:World}{g:Nat}(h:JoR w g .new):JoS w g (· = g) .new :=
 ⟨_,_,h,.inl rfl,⟨rfl,.inl ⟨rfl,rfl⟩⟩,rfl,fun k e=>by simp[qco,Value.ownBlock] at e,fun k e=>e▸zr h⟩
theorem Tryz.sizeBu:(Tryz.prog.info? 211).map (·.size)=some 2:=by kernel_rfl
set_option maxHeartbeats 1000000 in
set_option maxRecDepth 100000 in
theorem qn8(g:Nat)(w:World)(m:w.cell? ⟨g,0,none⟩=some (.pointer (some ⟨g,0,none⟩))) :
  Calls Tryz.prog 163 #[.pointer (some ⟨g,0,none⟩)] w fun e w'=>e = .returned (.tuple #[])∧w=w':=by
 obtain⟨j,i,_⟩:=Option.map_eq_some_iff.1 Tryz.sizeBu
 have f:=fun w':World=>Lib.run_neq_ptr_same (P:=Tryz.prog) w' (tp:=209) ⟨g,0,none⟩ Tryz.underlying209 i
 go_enter Tryz.func163,Tryz.ntmps163
 go_wp2_with fail
 go_end0
 exact⟨rfl,rfl⟩
set_option maxHeartbeats 1000000 in
set_option maxRecDepth 100000 in
theorem qm6(g:Nat)(w:World)(C:w.cell? ⟨g,0,none⟩=some (.pointer none))(f:w.shape? g=some (213,6))(v:w.frozen? ⟨g,0,none⟩=false) :
  Calls Tryz.prog 163 #[.pointer (some ⟨g,0,none⟩)] w fun e w'=>e = .returned (.tuple #[])∧w'=w.setCell ⟨g,0,none⟩ (.pointer (some ⟨g,0,none⟩)):=by
 obtain⟨j,q,m⟩:=Option.map_eq_some_iff.1 Tryz.sizeBu
 have z:=Lib.run_to_unsafe (P:=Tryz.prog) w (src:=209) (dst:=292) ⟨g,0,none⟩ Tryz.underlying209 Tryz.underlying292 q (by rw[m];decide) f (by show (0:Nat)<6;decide)
 have i:=Lib.run_from_unsafe (P:=Tryz.prog) w (src:=292) (dst:=209) ⟨g,0,none⟩ Tryz.underlying292 Tryz.underlying209 q f (by kernel_rfl)
 go_enter Tryz.func163,Tryz.ntmps163
 go_wp2_with fail
 rw[run_callFunc_extern Tryz.func195 (by kernel_rfl) (by kernel_rfl) (by kernel_rfl) (e:=Extern.AbiNoEscape.same) (by kernel_rfl)]
 rw[Lib.run_noEscape]
 simp only[Result.andThen]
 rw[Oper.upon_value]
 go_wp2_with fail
 go_end0
 exact⟨rfl,rfl⟩
theorem qpj(g:Nat)(S:Nat→Prop)(j:Jo)(p buf:Value)(w:World)(h:JoP w g S j p buf) :
  Calls Tryz.prog 163 #[.pointer (some ⟨g,0,none⟩)] w fun e w'=>e = .returned (.tuple #[])∧Upd (· = g) w w'∧JoP w' g S j (.pointer (some ⟨g,0,none⟩)) buf:=by
 rcases h.addr with rfl | rfl
 ·refine(qm6 g w (qg h.at_ 0) ?_ (qu h.at_ 0)).mono ?_
  ·have:=h.at_;unfold JoR at this;simp[World.shape?,this,JourV.cells]
  ·rintro e w' ⟨rfl,rfl⟩;have u:Upd (· = g) w (w.setCell ⟨g,0,none⟩ (.pointer (some ⟨g,0,none⟩))):=(Upd.refl _ _).set1 _ _;refine⟨rfl,u,?_,.inr rfl,zk h.row u ?_,h.inG,h.inB,fun k f=>Nat.lt_of_lt_of_le (h.lt k f) u.size⟩
   ·exact zv h.at_ 0 _
   ·intro k f e;obtain⟨i,m⟩:=qal h.row k f;exact qay m h.at_ (by decide) e
 ·refine(qn8 g w (qg h.at_ 0)).mono ?_;rintro e w' ⟨rfl,rfl⟩;exact⟨rfl,Upd.refl _ _,h⟩
theorem qvw{J:Array Oper}{rest:List Oper}{o:Oper}{a:Act}{Q:Exit→Act→World→Prop}(U:o.guard=none)(sl x:Operand)
  (ho:o.op = .call {callee:= .builtin .append,args:=#[sl,x],argTypes:=#[95,9]})
  (v:Value) (n:Nat) (xs:List Value) (w:World) (hs:a.eval sl=v) (f:w.ownsRow 0 5 1 v n xs) (s:ByteArray) (hx:a.eval x = .string s) (hb:n+s.size≤140737488355328)
  (h:∀q w',w'.ownsRow 0 5 1 q (n+s.size) (xs++Lib.strCells s)→w.grownBy w' v.ownBlock→(q.ownBlock=v.ownBlock∨q.ownBlock=some w.heap.size)→wpList Tryz.prog J Q rest (a.put o.dst q) w'):wpList Tryz.prog J Q (o::rest) a w:=by
 obtain⟨i,L,E,F,H⟩:=info_parts Tryz.infoU8
 refine wpList_plain U fun K Z=> ?_
 have N:=Tryz.underlying95
 have O:=Tryz.underlying9
 obtain⟨q,w',M,W,X,Y⟩:=Lib.run_append_own_string (P:=Tryz.prog) w 0 _ _ o.type 5 i N O L E F H v n xs f s (by unfold maxLen;omega) hb (Nat.zero_le _)
 have I:q.ownBlock=v.ownBlock∨q.ownBlock=some w.heap.size:=by
  rcases f.2 with ⟨rfl,rfl⟩ | ⟨g,cap,R,rfl,a6,hg,b3,a7,a8,V⟩
  ·by_cases hm:s.size=0
   ·rw[Y.2 ⟨rfl,hm⟩];exact .inl rfl
   ·have m:=run_append_nil_string (P:=Tryz.prog) w _ _ o.type 5 i (.int .u8 0) N O L E s (by omega) (by omega) (by rw[H];omega);rw[M] at m;injection m with m;rw[m];exact .inr rfl
  ·by_cases C:n+s.size≤cap
   ·have m:=Lib.run_append_room_string (P:=Tryz.prog) w _ _ o.type 5 i N O L F g n cap R hg s C (by omega);rw[M] at m;injection m with m;rw[m];exact .inl rfl
   ·have z:∀j u,xs[j]? = some u→w.cell? ((⟨g,0,none⟩:Addr).add j)=some u:=f.cells (g:=g) rfl;have b4:xs.length=n:=by simpa using f.1
    have m:=Lib.run_append_grow_string (P:=Tryz.prog) w _ _ o.type 5 i (.int .u8 0) N O L E ⟨g,0,none⟩ n cap xs (by rw[F];omega) z s (by omega) (by omega) (by rw[H];exact growslice_fits (by omega) (by omega));rw[M] at m;injection m with m;rw[m];exact .inr rfl
 unfold Oper.wp execOp
 simp only[ho,resolve,invoke,builtin,Sem.run_bind,Sem.run_pure,Result.andThen_ok,List.map_toArray,List.map_cons,List.map_nil,hs,hx,M]
 exact Z _ _ (h q w' W X I)
def Jo.more(j:Jo)(s:ByteArray):Jo:= {j with bs:=j.bs++s}
set_option maxHeartbeats 2000000 in
set_option maxRecDepth 100000 in
theorem q7y(g:Nat)(S:Nat→Prop)(j:Jo)(s:ByteArray)(w:World)(h:JoS w g S j)(P:j.bs.size+s.size≤140737488355328) :
  Calls Tryz.prog 125 #[.pointer (some ⟨g,0,none⟩),.string s] w fun e w'=>e = .returned (.tuple #[.int .i64 s.size,.nilIface])∧JoS w' g (Fr S w w') (j.more s)∧Upd S w w':=by
 obtain⟨p,buf,h⟩:=h
 have O:=qpj g S j p buf w h
 have K:=h.inG
 go_enter Tryz.func125,Tryz.ntmps125
 go_wp2_with fail
 refine O.mono ?_
 rintro e w1 ⟨rfl,u1,q⟩
 have c1:w1.cell? ⟨g,1,none⟩=some buf:=qg q.at_ 1
 have W:g<w1.heap.size:=zr q.at_
 have Y:=qb q
 have I:=q.row
 have Z:=qb (u1.mono (T:=S) (fun k _ e=>by rw[e];exact K))
 clear O q u1 h
 go_wp2_with (at_builtin;refine qvw rfl _ _ rfl buf _ _ _ rfl I s rfl P ?_)
 intro v' F f m H
 have q:=qa Y
 have M:buf.ownBlock≠some g:=fun e=>by
  obtain⟨J,N⟩:=qal q.row g e;exact qay N q.at_ (by decide) rfl
 have i:JoR F g (j.v (.pointer (some ⟨g,0,none⟩)) buf):=by
  unfold JoR;rw[m.block g W (fun e=>M e.symm)];exact q.at_
 have U:Upd S w1 F:=(Upd.refl S w1).grown m (fun k e _=>q.inB k e)
 obtain⟨z,C,cap,rfl⟩:∃z C cap,v' = .slice z C cap:=by
  rcases f.2 with ⟨X,_⟩ | ⟨g',cap,J,X,_⟩
  ·exact⟨_,_,_,X⟩
  ·exact⟨_,_,_,X⟩
 have d1:F.cell? ⟨g,1,none⟩=some buf:=qg i 1
 have f1:F.frozen? ⟨g,1,none⟩=false:=qu i 1
 have R:JoR (F.setCell ⟨g,1,none⟩ (.slice z C cap)) g ((j.more s).v (.pointer (some ⟨g,0,none⟩)) (.slice z C cap)):=zv i 1 (.slice z C cap)
 have L:Upd (· = g) F (F.setCell ⟨g,1,none⟩ (.slice z C cap)):=(Upd.refl _ _).set1 _ _
 have a8:g<F.heap.size:=zr i
 have HO:=qb f
 have HA:=qb i
 have HS:=qb R
 have U2:=qb U
 have U3:=qb L
 have V:=qb H
 clear H f i R m U L I c1 M q
 go_wp2_with fail
 go_ret2
 have q:=qa Y
 have f:=qa HO
 have U:=qa U2
 have L:=qa U3
 have hU:Upd S w (F.setCell ⟨g,1,none⟩ (.slice z C cap)):=((qa Z).trans U).trans (L.mono (fun k _ e=>by rw[e];exact K))
 have b3:=(qa Z).size
 have a6:=U.size
 have a7:=L.size
 refine⟨rfl,⟨.pointer (some ⟨g,0,none⟩),.slice z C cap,qa HS,.inr rfl,?_,.inl K,?_,?_⟩,hU⟩
 ·have:(F.setCell ⟨g,1,none⟩ (.slice z C cap)).ownsRow 0 5 1 (.slice z C cap) (j.bs.size+s.size) (Lib.strCells j.bs++Lib.strCells s):=zk f L (fun k E e=>by
   obtain⟨J,N⟩:=qal f k E;exact qay N (qa HA) (by decide) e)
  show (F.setCell ⟨g,1,none⟩ (.slice z C cap)).ownsRow 0 5 1 (.slice z C cap) (j.bs++s).size (Lib.strCells (j.bs++s));rw[ByteArray.size_append,qna];exact this
 ·intro k E;rcases qa V with e | e
  ·rw[e] at E;exact .inl (q.inB k E)
  ·rw[e] at E;injection E with E;obtain⟨J,N⟩:=qal f k (by rw[e,E]);have:=zr N;exact .inr ⟨by omega,by omega⟩
 ·rintro k (E | E)
  ·have:=q.lt k E;omega
  ·omega
set_option maxHeartbeats 1000000 in
set_option maxRecDepth 100000 in
theorem qw6(g:Nat)(S:Nat→Prop)(j:Jo)(s:ByteArray)(w:World)(h:JoS w g S j)(F:j.fused=false)(i:j.bs.size+s.size≤140737488355328) :
  Calls Tryz.prog 149 #[.pointer (some ⟨g,0,none⟩),.string s] w fun e w'=>e = .returned (.bool true)∧JoS w' g (Fr S w w') (j.more s)∧Upd S w w':=by
 have f:=q7y g S j s w h i
 obtain⟨p,buf,q⟩:=h
 have E:w.cell? ⟨g,3,none⟩=some (.bool false):=F▸qg q.at_ 3
 clear q
 go_enter Tryz.func149,Tryz.ntmps149
 go_wp2_with fail
 refine f.mono ?_
 rintro e w1 ⟨rfl,m,v⟩
 have z:=qb m
 have C:=qb v
 clear f m v E
 go_wp2_with fail
 go_ret
 exact⟨rfl,qa z,qa C⟩
end Go.Proofs.YtfmkdoachjgjbaaGreatDoor
