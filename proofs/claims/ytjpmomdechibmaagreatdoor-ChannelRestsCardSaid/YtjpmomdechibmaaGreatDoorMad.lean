/-
  Messages as rows of cells.
-/
import Derived.Test.YtjpmomdechibmaaGreatDoorProg
import Derived.Test.YtjpmomdechibmaaGreatDoorMaa
import Derived.Test.YtjpmomdechibmaaGreatDoorTxt
set_option linter.unusedVariables false
set_option linter.unusedSimpArgs false
namespace Go.Proofs.YtjpmomdechibmaaGreatDoor
open Go.RowKit
structure MsgV where
 kind:Int
 ch:Int
 id:Int
 amount:Int
 hash:List Int
 expiry:Int
 number:Int
def MsgV.cells(m:MsgV):List Value:= .int .i64 m.kind :: .int .u32 m.ch :: .int .u64 m.id :: .int .u64 m.amount::(m.hash.map (Value.int .u8)++[.int .i64 m.expiry,.int .i64 m.number])
theorem MsgV.len(m:MsgV)(h:m.hash.length=32):m.cells.length=38:=by simp[MsgV.cells,h]
theorem MsgV.one(m:MsgV):∀v∈m.cells,v.oneCell'=true:=by
 intro v f
 simp only[MsgV.cells,List.mem_cons,List.mem_append,List.mem_map,List.not_mem_nil,or_false] at f
 rcases f with rfl | rfl | rfl | rfl | ⟨n,_,rfl⟩ | rfl | rfl<;>rfl
def qad:List Int:=List.replicate 32 0
theorem qo:qad.length=32:=List.length_replicate
theorem Tryz.infoMsg:(Tryz.prog.info? 30).map (·.size)=some 38:=by kernel_rfl
def zc4(x:Value):Sem Value:=Instr.loadAt 30 x
theorem qab(x:Value):Instr.loadAt 30 x=zc4 x:=rfl
theorem qcy(b o:Nat)(w:World):(zc4 (.pointer (some ⟨b,o,none⟩))).run Tryz.prog w=match zx w b o 38 with | some A=> .ok (.agg A) w | none=>qdw Tryz.prog 30 w b o :=
 zy 30 38 _ Tryz.underlying30 rfl Tryz.infoMsg b o w
def zdj(x v:Value):Sem Unit:=Instr.storeAt 30 x v
theorem qac(x v:Value):Instr.storeAt 30 x v=zdj x v:=rfl
theorem qc0(b o:Nat)(A:Array Value)(w:World):(zdj (.pointer (some ⟨b,o,none⟩)) (.agg A)).run Tryz.prog w=if stOk w b o 38 A=true then .ok () (w.setCells b o A.toList) else qfx Tryz.prog 30 w b o A :=
 qay 30 38 Tryz.infoMsg b o A w
def MsgV.zero:MsgV:=⟨0,0,0,0,qad,0,0⟩
def zct:Sem Value:=Instr.alloc 30 true (.tuple #[])
theorem qag:Instr.alloc 30 true (.tuple #[])=zct:=rfl
theorem qc2(w:World):zct.run Tryz.prog w = .ok (.pointer (some ⟨w.heap.size,0,none⟩)) (w.alloc (.cells MsgV.zero.cells.toArray 30)):=by kernel_rfl
def qkd(p:Array (Nat × Value)):Sem Value:=Instr.build 30 p
theorem qah(p:Array (Nat × Value)):Instr.build 30 p=qkd p:=rfl
theorem qui(c n k:Int)(w:World):(qkd #[(0,.int .i64 9),(1,.int .u32 c),(6,.int .i64 n),(2,.int .u64 k)]).run Tryz.prog w = .ok (.agg (MsgV.cells ⟨9,c,k,0,qad,0,n⟩).toArray) w:=run_build w _ _ _ (by kernel_rfl)
theorem Tryz.infoBase:(Tryz.prog.info? 53).map (·.size)=some 2:=by kernel_rfl
theorem qg3{w:World}{b:Nat}{m:MsgV}{T:TypeId}(h:w.heap[b]? = some (.cells MsgV.zero.cells.toArray T (0,0)))(f:m.hash.length=32):(w.setCells b 0 m.cells).heap[b]? = some (.cells m.cells.toArray T (0,0)):=by
 rw[qa9 h 0 m.cells,qc5 _ _ (by rw[m.len f];rfl)]
theorem qg8{w:World}{b:Nat}{T:TypeId}(h:w.heap[b]? = some (.cells MsgV.zero.cells.toArray T (0,0))){m:MsgV}(f:m.hash.length=32):stOk w b 0 38 m.cells.toArray=true :=
 qfe (C:=MsgV.zero.cells.toArray) h (by rw[m.len f];rfl) m.one
attribute [local go_sem ↓ high] qab qac qah
attribute [local go_sem] qcy qc0 qui zq
def CountsV.told(k:CountsV):Int:=if k.awaits then k.signed-1 else k.signed
set_option maxRecDepth 100000 in
set_option maxHeartbeats 1000000 in
theorem q3i(g:Nat)(c:ChanV)(w:World)(h:ChR w g c)(P:0≤c.k.signed∧c.k.signed<4294967296)(N:0≤c.k.heard∧c.k.heard<4294967296) :
  Calls Tryz.prog 23 #[.pointer (some ⟨g,0,none⟩)] w (qa7 (.agg (MsgV.cells ⟨9,c.setup.ch,IntKind.u64.wrap c.k.told,0,qad,0,c.k.heard+1⟩).toArray) w):=by
 go_enter Tryz.func23,Tryz.ntmps23
 go_upto_region 1 with fail
 have C:(w.alloc (.cells MsgV.zero.cells.toArray 30)).heap[w.heap.size]? = some (.cells MsgV.zero.cells.toArray 30 (0,0)):=qi _ _
 have D:qy w (w.alloc (.cells MsgV.zero.cells.toArray 30)):=(Upd.refl _ _).alloc _
 change Code.wp _ _ _ _ (w.alloc (.cells MsgV.zero.cells.toArray 30))
 generalize w.alloc (.cells MsgV.zero.cells.toArray 30)=w1 at C D ⊢
 have v:=h.new D
 have J:=h.lt
 have K:=v.ch
 have H:=v.signed
 have I:=v.heard
 have q:=v.awaits
 have L:IntKind.i64.wrap (c.k.heard+1)=c.k.heard+1:=qiz (by omega) (by omega)
 have M:IntKind.i64.wrap (c.k.signed-1)=c.k.signed-1:=qiz (by omega) (by omega)
 have x:stOk w1.drew w.heap.size 0 38 (MsgV.cells ⟨9,c.setup.ch,IntKind.u64.wrap c.k.told,0,qad,0,c.k.heard+1⟩).toArray=true:=qg8 (m:=⟨9,c.setup.ch,IntKind.u64.wrap c.k.told,0,qad,0,c.k.heard+1⟩) C qo
 have f:=qg3 (w:=w1.drew) (m:=⟨9,c.setup.ch,IntKind.u64.wrap c.k.told,0,qad,0,c.k.heard+1⟩) C qo
 have o:qy w (w1.drew.setCells w.heap.size 0 (MsgV.cells ⟨9,c.setup.ch,IntKind.u64.wrap c.k.told,0,qad,0,c.k.heard+1⟩)):=D.drew.then ((Upd.refl (· = w.heap.size) w1.drew).setCells 0 _) (fun i O e=>by omega)
 have y:=qb f
 have z:=qb o
 have l:c.k.told=if c.k.awaits=true then c.k.signed-1 else c.k.signed:=rfl
 clear h v C D f o
 cases F:c.k.awaits with
 | true =>
  rw[F] at q l
  rw[if_pos rfl] at l
  rw[l] at x y z
  generalize c.k.told=t at *
  subst l
  go_wp2_with (with_reducible first|(first|refine' zr (qg ?_) ?_|refine' zt (qg ?_) ?_);rotate_left|refine' zu (qg ?_)|rfl|apply tn|refine' zv ?_)
  refine bodyPost_ret (results_cell_row rfl _ _ w.heap.size _ _ _ _ rfl (qa y) Tryz.underlying30 rfl (by rw[List.size_toArray,MsgV.len _ qo];exact Tryz.infoMsg)) rfl ?_
  exact⟨rfl,qa z⟩
 | false =>
  rw[F] at q l
  rw[if_neg (by decide)] at l
  have E:IntKind.u64.wrap c.k.signed=c.k.signed:=qeg (by omega) (by omega)
  rw[l,E] at x y z
  generalize c.k.told=t at *
  subst l
  go_wp2_with (with_reducible first|(first|refine' zr (qg ?_) ?_|refine' zt (qg ?_) ?_);rotate_left|refine' zu (qg ?_)|rfl|apply tn|refine' zv ?_)
  refine bodyPost_ret (results_cell_row rfl _ _ w.heap.size _ _ _ _ rfl (qa y) Tryz.underlying30 rfl (by rw[List.size_toArray,MsgV.len _ qo];exact Tryz.infoMsg)) rfl ?_
  exact⟨by rw[E],qa z⟩
set_option maxHeartbeats 1000000 in
theorem q6w(g:Nat)(c:ChanV)(w:World)(h:ChR w g c) :
  Calls Tryz.prog 21 #[.pointer (some ⟨g,0,none⟩)] w (qa7 (.agg #[.int .u64 c.loc,.int .u64 c.rem]) w):=by
 go_enter Tryz.func21,Tryz.ntmps21
 have m:qy w (w.alloc (.cells #[.int .u64 0,.int .u64 0] 53)):=(Upd.refl _ _).alloc _
 have f:(w.alloc (.cells #[.int .u64 0,.int .u64 0] 53)).heap[w.heap.size]? = some (.cells #[.int .u64 0,.int .u64 0] 53 (0,0)):=qi _ _
 go_upto_region 1 with fail
 have l:=h.new m
 generalize w.alloc (.cells #[.int .u64 0,.int .u64 0] 53)=w1 at f m l ⊢
 have x:=l.loc
 have y:=l.rem
 have z:=qh f 0
 have C:=qh f 1
 have E:=qq f 0
 have F:=qq f 1
 simp at z C
 have o:((w1.setCell ⟨w.heap.size,0,none⟩ (.int .u64 c.loc)).setCell ⟨w.heap.size,1,none⟩ (.int .u64 c.rem)).heap[w.heap.size]? = some (.cells #[.int .u64 c.loc,.int .u64 c.rem] 53 (0,0)):=zz (zz f 0 _) 1 _
 have q:qy w ((w1.setCell ⟨w.heap.size,0,none⟩ (.int .u64 c.loc)).setCell ⟨w.heap.size,1,none⟩ (.int .u64 c.rem)):=m.then (((Upd.refl (· = w.heap.size) w1).set1 0 _).set1 1 _) (fun i D e=>by omega)
 have t:=qb o
 have v:=qb q
 clear h l f m o q
 go_wp2_with (with_reducible first|(first|refine' zr (qg ?_) ?_|refine' zt (qg ?_) ?_);rotate_left|refine' zu (qg ?_)|rfl|apply tn|refine' zv ?_)
 refine bodyPost_ret (results_cell_row rfl _ _ w.heap.size _ _ _ _ rfl (qa t) Tryz.underlying53 rfl Tryz.infoBase) rfl ?_
 exact⟨rfl,qa v⟩
structure ChI(w:World)(g:Nat)(c:ChanV)(xs:List Live):Prop extends ChR w g c where
 row:w.ownsRow 0 81 38 c.live xs.length (xs.flatMap qm)
theorem ChI.new{w w':World}{g:Nat}{c:ChanV}{xs:List Live}(h:ChI w g c xs)(u:qy w w'):ChI w' g c xs:=⟨h.toChR.new u,qyc h.row u⟩
theorem ChI.lives{w:World}{g:Nat}{c:ChanV}{xs:List Live}(h:ChI w g c xs):qh6 w c.live xs:=by
 rcases (qdc h.row).2 with ⟨e,f⟩ | ⟨g,cap,e,-,i⟩
 ·exact .inl ⟨none,0,e,f⟩
 ·exact .inr ⟨g,0,cap,e,i.toL⟩
theorem ChI.shape{w:World}{g:Nat}{c:ChanV}{xs:List Live}(h:ChI w g c xs):∃a cap,c.live = .slice a xs.length cap:=by
 rcases (qdc h.row).2 with ⟨e,f⟩ | ⟨g,cap,e,-⟩
 ·exact⟨none,0,by rw[e,f];rfl⟩
 ·exact⟨_,cap,e⟩
set_option maxHeartbeats 1000000 in
theorem q8l(g:Nat)(c:ChanV)(xs:List Live)(q:xs.length≤1048576)(w:World)(h:ChI w g c xs) :
  Calls Tryz.prog 17 #[.pointer (some ⟨g,0,none⟩)] w fun e w'=>∃u,e = .returned u∧qy w w'∧((∃a k,u = .slice a 0 k∧xs=[])∨∃g' cap,u = .slice (some ⟨g',0,none⟩) xs.length cap∧w.heap.size≤g'∧qfj w' g' 0 xs):=by
 go_enter Tryz.func17,Tryz.ntmps17
 have f:=h.toChR.live
 have l:=h.lives
 obtain⟨a,cap,i⟩:=h.shape
 rw[i] at f l
 clear h
 go_wp2_with (with_reducible first|(first|refine' zr (qg ?_) ?_|refine' zt (qg ?_) ?_);rotate_left|refine' zu (qg ?_)|rfl|apply tn|refine' zv ?_)
 refine(qsp _ xs q _ l).mono ?_
 rintro e w' ⟨u,rfl,n,m⟩
 have o:=qb m
 clear m f l
 go_wp2_with (with_reducible first|(first|refine' zr (qg ?_) ?_|refine' zt (qg ?_) ?_);rotate_left|refine' zu (qg ?_)|rfl|apply tn|refine' zv ?_)
 go_ret
 exact⟨u,rfl,n,qa o⟩
end Go.Proofs.YtjpmomdechibmaaGreatDoor
namespace Go.Proofs.YtjpmomdechibmaaGreatDoor
open Go.RowKit
theorem qu{S:Nat→Prop}{w w':World}{base:Nat}{e:TypeId}{size:Nat}{v:Value}{n:Nat}{xs:List Value}(h:w.ownsRow base e size v n xs)(u:Upd S w w')(m:∀k,v.ownBlock=some k→¬S k):w'.ownsRow base e size v n xs:=by
 refine⟨h.1,?_⟩
 rcases h.2 with h | ⟨g,cap,f,i,l,o,r⟩
 ·exact .inl h
 ·exact .inr ⟨g,cap,f,i,l,u.old o (m g (by rw[i];rfl)),r⟩
theorem q8{w:World}{base:Nat}{e:TypeId}{size:Nat}{v:Value}{n:Nat}{xs:List Value}(h:w.ownsRow base e size v n xs):∀k,v.ownBlock=some k→∃f,w.heap[k]? = some (.cells f e (0,0)):=by
 intro k i
 rcases h.2 with ⟨rfl,_⟩ | ⟨g,cap,f,rfl,m,l,_⟩
 ·simp[Value.ownBlock] at i
 ·simp[Value.ownBlock] at i
  exact⟨f,i▸l⟩
theorem ze{w:World}{k j:Nat}{c d:Array Value}{T U:TypeId}{x y:Nat × Nat}(h:w.heap[k]? = some (.cells c T x))(g:w.heap[j]? = some (.cells d U y))(n:T≠U):k≠j:=by
 rintro rfl
 rw[h] at g
 injection g with g
 injection g with _ g
 exact n g
theorem qx{w:World}{base:Nat}{e:TypeId}{size:Nat}{v:Value}{n:Nat}{xs:List Value}(h:w.ownsRow base e size v n xs):∃a cap,v = .slice a n cap:=by
 rcases h.2 with ⟨e,i⟩ | ⟨g,cap,f,e,_⟩
 ·exact⟨none,0,by rw[e,i]⟩
 ·exact⟨_,cap,e⟩
theorem qw{P:Program}{i:Func}{p u:Tmp}{f:TypeId}(h:i.results=#[.cell p f,.tmp u])(tmps:Array Value)(w:World)(g:Nat)(t:TypeId)(cs:Array Value)(fr:Nat × Nat)(d:TypeDesc)
  (q:tmps.getD p undef = .pointer (some ⟨g,0,none⟩)) (m:w.heap[g]? = some (.cells cs t fr))
  (v:P.underlying f=some d) (l:(match d with | .struct _ | .array _ _=>true | _=>false)=true) (o:(P.info? f).map (·.size)=some cs.size) :
  (results i tmps).run P w = .ok (.tuple #[.agg cs,tmps.getD u undef]) w:=by
 rw[results_cell_tmp h,q]
 simp[asAddr,run_loadVar_row w g t f cs fr d m v l o,Result.andThen]
structure Ch where
 s:SetupV
 k:CountsV
 loc:Int
 rem:Int
 xs:List Live
 shelf:List KeptV
 news:List MsgV
 last:List MsgV
def Ch.v(c:Ch)(lv nv av:Value):ChanV:=⟨c.s,c.k,c.loc,c.rem,lv,c.shelf,nv,av⟩
def qud(w:World)(v:Value)(xs:List Live):Prop:=w.ownsRow 0 81 38 v xs.length (xs.flatMap qm)
def q19(w:World)(v:Value)(f:List MsgV):Prop:=w.ownsRow 0 30 38 v f.length (f.flatMap MsgV.cells)
def q6k(f:List MsgV):Prop:=∀m∈f,m.hash.length=32
structure Ch.Ok(c:Ch):Prop where
 s:c.s.Ok
 signed:0≤c.k.signed∧c.k.signed≤65535
 heard:0≤c.k.heard∧c.k.heard<4294967296
 nextOwn:0≤c.k.nextOwn∧c.k.nextOwn<18446744073709551616
 nextTheirs:0≤c.k.nextTheirs∧c.k.nextTheirs<18446744073709551616
 loc:0≤c.loc∧c.loc<18446744073709551616
 rem:0≤c.rem∧c.rem<18446744073709551616
 xs:∀x∈c.xs,LiveOk x
 few:c.xs.length≤1000000
 shelf:c.shelf.length=17∧∀p∈c.shelf,p.told.length=32
 news:q6k c.news
 last:q6k c.last
 many:c.news.length≤1000000∧c.last.length≤1000000
structure ChP(w:World)(g:Nat)(S:Nat→Prop)(c:Ch)(lv nv av:Value):Prop where
 at_:w.heap[g]? = some (.cells (c.v lv nv av).cells.toArray 92 (0,0))
 ok:c.Ok
 live:qud w lv c.xs
 news:q19 w nv c.news
 last:q19 w av c.last
 inG:S g
 inL:∀k,lv.ownBlock=some k→S k
 inN:∀k,nv.ownBlock=some k→S k
 inA:∀k,av.ownBlock=some k→S k
 sep:∀k,nv.ownBlock=some k→av.ownBlock≠some k
 lt:∀k,S k→k<w.heap.size
def ChS(w:World)(g:Nat)(S:Nat→Prop)(c:Ch):Prop:=∃lv nv av,ChP w g S c lv nv av
def Fr(S:Nat→Prop)(w w':World)(k:Nat):Prop:=S k∨(w.heap.size≤k∧k<w'.heap.size)
section
variable {w w':World}{g:Nat}{S T:Nat→Prop}{c:Ch}{lv nv av:Value}
theorem ChP.upd(h:ChP w g S c lv nv av)(u:Upd T w w')(i:∀k,S k→¬T k):ChP w' g S c lv nv av :=
 ⟨u.old h.at_ (i g h.inG),h.ok,qu h.live u (fun k f=>i k (h.inL k f)),qu h.news u (fun k f=>i k (h.inN k f)),qu h.last u (fun k f=>i k (h.inA k f)),h.inG,h.inL,h.inN,h.inA,h.sep,fun k f=>Nat.lt_of_lt_of_le (h.lt k f) u.size⟩
theorem ChP.new(h:ChP w g S c lv nv av)(u:qy w w'):ChP w' g S c lv nv av:=h.upd u (fun _ _ h=>h)
theorem ChP.wider(h:ChP w g S c lv nv av)(f:∀k,S k→T k)(i:∀k,T k→k<w.heap.size):ChP w g T c lv nv av :=
 ⟨h.at_,h.ok,h.live,h.news,h.last,f g h.inG,fun k e=>f k (h.inL k e),fun k e=>f k (h.inN k e),fun k e=>f k (h.inA k e),h.sep,i⟩
theorem ChP.fr(h:ChP w' g S c lv nv av)(w:World):ChS w' g (Fr S w w') c:=⟨_,_,_,h.wider (fun k f=> .inl f) (fun k f=>f.elim (h.lt k) (fun e=>e.2))⟩
theorem ChS.upd(h:ChS w g S c)(u:Upd T w w')(f:∀k,S k→¬T k):ChS w' g S c:=by
 obtain⟨a,b,d,h⟩:=h
 exact⟨a,b,d,h.upd u f⟩
theorem ChS.new(h:ChS w g S c)(u:qy w w'):ChS w' g S c:=h.upd u (fun _ _ h=>h)
theorem ChS.lt(h:ChS w g S c):∀k,S k→k<w.heap.size:=by
 obtain⟨a,b,d,h⟩:=h
 exact h.lt
theorem ChP.toR(h:ChP w g S c lv nv av):ChR w g (c.v lv nv av):=⟨h.at_,h.ok.s.seed⟩
theorem ChP.toI(h:ChP w g S c lv nv av):ChI w g (c.v lv nv av) c.xs:=⟨h.toR,h.live⟩
end
theorem ChP.put{w:World}{g:Nat}{S:Nat→Prop}{c c':Ch}{lv nv av:Value}(h:ChP w g S c lv nv av){i:Nat}{x:Value}(t:(c.v lv nv av).cells.toArray.setIfInBounds i x=(c'.v lv nv av).cells.toArray)(f:c'.Ok)(D:c'.xs=c.xs)(z:c'.news=c.news)(y:c'.last=c.last):ChP (w.setCell ⟨g,i,none⟩ x) g S c' lv nv av:=by
 have u:Upd (· = g) w (w.setCell ⟨g,i,none⟩ x):=(Upd.refl _ _).set1 i x
 have l:∀ {T:TypeId} {v:Value} {n:Nat} {xs:List Value},T≠92→w.ownsRow 0 T 38 v n xs→∀k,v.ownBlock=some k→¬k=g:=by
  intro T v n xs o C k f e
  obtain⟨m,q⟩:=q8 C k f
  exact ze q h.at_ o e
 refine⟨?_,f,?_,?_,?_,h.inG,h.inL,h.inN,h.inA,h.sep,fun k f=>Nat.lt_of_lt_of_le (h.lt k f) u.size⟩
 ·have:=zz h.at_ i x
  rw[t] at this
  exact this
 ·rw[D];exact qu h.live u (l (by decide) h.live)
 ·rw[z];exact qu h.news u (l (by decide) h.news)
 ·rw[y];exact qu h.last u (l (by decide) h.last)
theorem qa5(v:ChanV)(h:v.setup.seed.length=32)(i:Nat)(x:Value):v.cells.toArray.setIfInBounds (37+i) x=(v.setup.cells++(v.k.cells++v.rest).set i x).toArray:=by
 unfold ChanV.cells
 rw[List.setIfInBounds_toArray,List.set_append_right _ _ (by rw[v.setup.len h];omega),v.setup.len h,Nat.add_sub_cancel_left]
theorem qiv(l:List KeptV)(h:∀p∈l,p.told.length=32):(l.flatMap KeptV.cells).length=l.length*34:=by
 induction l with
 | nil=>rfl
 | cons x l i =>
  rw[List.flatMap_cons,List.length_append,i (fun p f=>h p (List.mem_cons_of_mem _ f)),List.length_cons]
  have:=h x (List.mem_cons_self ..)
  simp[KeptV.cells,this]
  omega
section
variable (c:Ch)(lv nv av:Value)(h:c.s.seed.length=32)
include h
theorem q1o(n:Int):(c.v lv nv av).cells.toArray.setIfInBounds 37 (.int .i64 n)=(({c with k:= {c.k with signed:=n}} : Ch).v lv nv av).cells.toArray:=qa5 (c.v lv nv av) h 0 _
theorem q5v(n:Int):(c.v lv nv av).cells.toArray.setIfInBounds 38 (.int .i64 n)=(({c with k:= {c.k with heard:=n}} : Ch).v lv nv av).cells.toArray:=qa5 (c.v lv nv av) h 1 _
theorem q1l(b:Bool):(c.v lv nv av).cells.toArray.setIfInBounds 39 (.bool b)=(({c with k:= {c.k with awaits:=b}} : Ch).v lv nv av).cells.toArray:=qa5 (c.v lv nv av) h 2 _
theorem qoq(n:Int):(c.v lv nv av).cells.toArray.setIfInBounds 40 (.int .u64 n)=(({c with k:= {c.k with nextOwn:=n}} : Ch).v lv nv av).cells.toArray:=qa5 (c.v lv nv av) h 3 _
theorem qkx(n:Int):(c.v lv nv av).cells.toArray.setIfInBounds 41 (.int .u64 n)=(({c with k:= {c.k with nextTheirs:=n}} : Ch).v lv nv av).cells.toArray:=qa5 (c.v lv nv av) h 4 _
theorem qvw(b:Bool):(c.v lv nv av).cells.toArray.setIfInBounds 42 (.bool b)=(({c with k:= {c.k with shutSaid:=b}} : Ch).v lv nv av).cells.toArray:=qa5 (c.v lv nv av) h 5 _
theorem qse(b:Bool):(c.v lv nv av).cells.toArray.setIfInBounds 43 (.bool b)=(({c with k:= {c.k with shutHeard:=b}} : Ch).v lv nv av).cells.toArray:=qa5 (c.v lv nv av) h 6 _
theorem qyv(b:Bool):(c.v lv nv av).cells.toArray.setIfInBounds 44 (.bool b)=(({c with k:= {c.k with revoked:=b}} : Ch).v lv nv av).cells.toArray:=qa5 (c.v lv nv av) h 7 _
theorem q3a(n:Int):(c.v lv nv av).cells.toArray.setIfInBounds 45 (.int .u64 n)=(({c with loc:=n} : Ch).v lv nv av).cells.toArray:=qa5 (c.v lv nv av) h 8 _
theorem q3b(n:Int):(c.v lv nv av).cells.toArray.setIfInBounds 46 (.int .u64 n)=(({c with rem:=n} : Ch).v lv nv av).cells.toArray:=qa5 (c.v lv nv av) h 9 _
theorem qyu(xs:List Live)(v:Value):(c.v lv nv av).cells.toArray.setIfInBounds 47 v=(({c with xs:=xs} : Ch).v v nv av).cells.toArray:=qa5 (c.v lv nv av) h 10 _
theorem qrj(l:c.shelf.length=17∧∀p∈c.shelf,p.told.length=32)(o:List MsgV)(v:Value):(c.v lv nv av).cells.toArray.setIfInBounds 626 v=(({c with news:=o} : Ch).v lv v av).cells.toArray:=by
 have e:=qa5 (c.v lv nv av) h 589 v
 rw[show 37+589=626 from rfl] at e
 rw[e]
 have m:(c.v lv nv av).told.length=578:=by show (c.shelf.flatMap KeptV.cells).length=578;rw[qiv _ l.2,l.1]
 have f:((c.v lv nv av).k.cells++(c.v lv nv av).rest).set 589 v=c.k.cells++(({c with news:=o} : Ch).v lv v av).rest:=by
  unfold ChanV.rest
  have i:(c.v lv nv av).k.cells.length=8:=rfl
  rw[List.set_append_right _ _ (by rw[i];omega),i]
  show c.k.cells++(Value.int .u64 c.loc::Value.int .u64 c.rem::lv::((c.v lv nv av).told++[nv,av])).set 581 v=_
  rw[List.set_cons_succ,List.set_cons_succ,List.set_cons_succ,List.set_append_right _ _ (by rw[m];omega),m]
  rfl
 rw[f]
 rfl
theorem q9q(l:c.shelf.length=17∧∀p∈c.shelf,p.told.length=32)(o:List MsgV)(v:Value):(c.v lv nv av).cells.toArray.setIfInBounds 627 v=(({c with last:=o} : Ch).v lv nv v).cells.toArray:=by
 have e:=qa5 (c.v lv nv av) h 590 v
 rw[show 37+590=627 from rfl] at e
 rw[e]
 have m:(c.v lv nv av).told.length=578:=by show (c.shelf.flatMap KeptV.cells).length=578;rw[qiv _ l.2,l.1]
 have f:((c.v lv nv av).k.cells++(c.v lv nv av).rest).set 590 v=c.k.cells++(({c with last:=o} : Ch).v lv nv v).rest:=by
  unfold ChanV.rest
  have i:(c.v lv nv av).k.cells.length=8:=rfl
  rw[List.set_append_right _ _ (by rw[i];omega),i]
  show c.k.cells++(Value.int .u64 c.loc::Value.int .u64 c.rem::lv::((c.v lv nv av).told++[nv,av])).set 582 v=_
  rw[List.set_cons_succ,List.set_cons_succ,List.set_cons_succ,List.set_append_right _ _ (by rw[m];omega),m]
  rfl
 rw[f]
 rfl
theorem qqc(i:c.shelf.length=17∧∀p∈c.shelf,p.told.length=32):(c.v lv nv av).cells.toArray[626]? = some nv:=by
 rw[List.getElem?_toArray,show 626=37+589 from rfl,qnh _ h]
 have l:(c.v lv nv av).told.length=578:=by show (c.shelf.flatMap KeptV.cells).length=578;rw[qiv _ i.2,i.1]
 unfold ChanV.rest
 have f:(c.v lv nv av).k.cells.length=8:=rfl
 rw[List.getElem?_append_right (by rw[f];omega),f]
 show (Value.int .u64 c.loc::Value.int .u64 c.rem::lv::((c.v lv nv av).told++[nv,av]))[581]? = _
 rw[List.getElem?_cons_succ,List.getElem?_cons_succ,List.getElem?_cons_succ,List.getElem?_append_right (by rw[l];omega),l]
 rfl
theorem qqb(i:c.shelf.length=17∧∀p∈c.shelf,p.told.length=32):(c.v lv nv av).cells.toArray[627]? = some av:=by
 rw[List.getElem?_toArray,show 627=37+590 from rfl,qnh _ h]
 have l:(c.v lv nv av).told.length=578:=by show (c.shelf.flatMap KeptV.cells).length=578;rw[qiv _ i.2,i.1]
 unfold ChanV.rest
 have f:(c.v lv nv av).k.cells.length=8:=rfl
 rw[List.getElem?_append_right (by rw[f];omega),f]
 show (Value.int .u64 c.loc::Value.int .u64 c.rem::lv::((c.v lv nv av).told++[nv,av]))[582]? = _
 rw[List.getElem?_cons_succ,List.getElem?_cons_succ,List.getElem?_cons_succ,List.getElem?_append_right (by rw[l];omega),l]
 rfl
end
theorem qcr{f:Nat→Option (Nat × Nat)}{i off:Nat}{v z:Value}{P R:List Value}{cs:Array Value}(m:f i=some (off,1))(l:P.length=off)(o:v.cells=#[v])(g:cs=(P++(z::R)).toArray)(rest:List (Nat × Value)) :
  Instr.fill f cs ((i,v)::rest)=Instr.fill f (P++(v::R)).toArray rest:=by
 subst g l
 rw[Instr.fill,m]
 simp[o]
theorem q1h{P:Program}{v T:TypeId}{n:Nat}{Z:List Value}(D:P.underlying v=some (.slice T))(E:((P.info? T).map fun i=>i.zero.map fun z=>z.cells.toList)=some (some Z))(t:(P.info? T).map (·.size)=some n)(H:Z.length=n)(F:n≠0)(x:n≤1000)
  (A:List Value) (h:A.length=n) (w:World):(Instr.buildSlice v 1 #[(0,.agg A.toArray)]).run P w = .ok (.slice (some ⟨w.heap.size,0,none⟩) 1 1) (w.alloc (.cells A.toArray T)):=by
 obtain⟨i,z,q,m,C⟩:=qdy E
 have f:i.size=n:=by rw[q] at t;simpa using t
 refine run_buildSlice w _ _ 1 _ _ i z D q m (by rw[f];first | omega | (simp;omega)) (by rw[f];first | omega | (simp;omega)) ?_
 rw[f,C]
 generalize y:Array.map _ _=W
 have g:W.toList.length=A.length:=by rw[←y,h];simp
 have o:=qw8 A [] W.toList [] g
 have l:W.size=n:=by rw[←h,←g];simp
 simp[Instr.fill,Value.cells,h,l] at o ⊢
 exact o
theorem Tryz.zeroMsg:((Tryz.prog.info? 30).map fun i=>i.zero.map fun z=>z.cells.toList)=some (some MsgV.zero.cells):=by kernel_rfl
theorem Tryz.zeroLive':((Tryz.prog.info? 81).map fun i=>i.zero.map fun z=>z.cells.toList)=some (some (qm Live.zero)):=by kernel_rfl
def Htlc.zero:Htlc:=⟨0,0,Vector.replicate 32 0,0⟩
theorem Tryz.zeroHtlc':((Tryz.prog.info? 79).map fun i=>i.zero.map fun z=>z.cells.toList)=some (some (q9 Htlc.zero)):=by kernel_rfl
def q64(n:Nat)(p:Array (Nat × Value)):Sem Value:=Instr.buildSlice 35 n p
theorem qe0(n:Nat)(p:Array (Nat × Value)):Instr.buildSlice 35 n p=q64 n p:=rfl
theorem qng(A:List Value)(w:World):(q64 1 #[(0,.agg A.toArray)]).run Tryz.prog w=if A.length=38 then .ok (.slice (some ⟨w.heap.size,0,none⟩) 1 1) (w.alloc (.cells A.toArray 30)) else (Instr.buildSlice 35 1 #[(0,.agg A.toArray)]).run Tryz.prog w:=by
 by_cases h:A.length=38
 ·rw[if_pos h];exact q1h Tryz.underlying35 Tryz.zeroMsg Tryz.infoMsg rfl (by decide) (by decide) A h w
 ·rw[if_neg h];rfl
def zcy(n:Nat)(p:Array (Nat × Value)):Sem Value:=Instr.buildSlice 43 n p
theorem qhg(n:Nat)(p:Array (Nat × Value)):Instr.buildSlice 43 n p=zcy n p:=rfl
theorem quk(A:List Value)(w:World):(zcy 1 #[(0,.agg A.toArray)]).run Tryz.prog w=if A.length=38 then .ok (.slice (some ⟨w.heap.size,0,none⟩) 1 1) (w.alloc (.cells A.toArray 81)) else (Instr.buildSlice 43 1 #[(0,.agg A.toArray)]).run Tryz.prog w:=by
 by_cases h:A.length=38
 ·rw[if_pos h];exact q1h Tryz.underlying43 Tryz.zeroLive' Tryz.infoLive rfl (by decide) (by decide) A h w
 ·rw[if_neg h];rfl
theorem Tryz.placesMsg:∃g,Tryz.prog.underlying 30=some (.struct g)∧g.toList.mapM (fun f=>(Tryz.prog.info? f.type).map fun i=>(f.offset,i.size))=some [(0,1),(1,1),(2,1),(3,1),(4,32),(36,1),(37,1)]:=⟨_,Tryz.underlying30,by kernel_rfl⟩
theorem q3m(k id n ex:Int)(H:List Value)(h:H.length=32):Tryz.prog.built 30 [(0,.int .i64 k),(2,.int .u64 id),(3,.int .u64 n),(4,.agg H.toArray),(5,.int .i64 ex)]=some (.int .i64 k :: .int .u32 0 :: .int .u64 id :: .int .u64 n::(H++[.int .i64 ex,.int .i64 0])).toArray:=by
 obtain⟨i,z,g,o,f⟩:=qdy Tryz.zeroMsg
 obtain⟨q,m,l⟩:=Tryz.placesMsg
 rw[qb3 g m o l]
 rw[qcr (P:=[]) (z:= .int .i64 0) (R:= .int .u32 0 :: .int .u64 0 :: .int .u64 0::(qad.map (Value.int .u8)++[.int .i64 0,.int .i64 0])) rfl rfl rfl f]
 rw[qcr (P:=[.int .i64 k,.int .u32 0]) (z:= .int .u64 0) (R:= .int .u64 0::(qad.map (Value.int .u8)++[.int .i64 0,.int .i64 0])) rfl rfl rfl (by rfl)]
 rw[qcr (P:=[.int .i64 k,.int .u32 0,.int .u64 id]) (z:= .int .u64 0) (R:=(qad.map (Value.int .u8)++[.int .i64 0,.int .i64 0])) rfl rfl rfl (by rfl)]
 rw[qer (P:=[.int .i64 k,.int .u32 0,.int .u64 id,.int .u64 n]) (A:=H) (Z:=qad.map (Value.int .u8)) (R:=[.int .i64 0,.int .i64 0]) (off:=4) (by rw[h];rfl) rfl (by rw[h];rfl) (by rfl)]
 rw[qcr (P:=[.int .i64 k,.int .u32 0,.int .u64 id,.int .u64 n]++H) (z:= .int .i64 0) (R:=[.int .i64 0]) (off:=36) rfl (by simp[h]) rfl (by simp)]
 rw[Instr.fill]
 simp
theorem qpw(k id n ex:Int)(H:List Value)(w:World):(qkd #[(0,.int .i64 k),(2,.int .u64 id),(3,.int .u64 n),(4,.agg H.toArray),(5,.int .i64 ex)]).run Tryz.prog w=if H.length=32 then .ok (.agg (.int .i64 k :: .int .u32 0 :: .int .u64 id :: .int .u64 n::(H++[.int .i64 ex,.int .i64 0])).toArray) w else (Instr.build 30 #[(0,.int .i64 k),(2,.int .u64 id),(3,.int .u64 n),(4,.agg H.toArray),(5,.int .i64 ex)]).run Tryz.prog w:=by
 by_cases h:H.length=32
 ·rw[if_pos h];exact run_build w _ _ _ (q3m k id n ex H h)
 ·rw[if_neg h];rfl
theorem qbn(w:World):(qkd #[]).run Tryz.prog w = .ok (.agg MsgV.zero.cells.toArray) w:=run_build w _ _ _ (by kernel_rfl)
theorem qn8(k c:Int)(w:World):(qkd #[(0,.int .i64 k),(1,.int .u32 c)]).run Tryz.prog w = .ok (.agg (MsgV.cells ⟨k,c,0,0,qad,0,0⟩).toArray) w:=run_build w _ _ _ (by kernel_rfl)
def q6y(p:Array (Nat × Value)):Sem Value:=Instr.build 79 p
theorem qn4(p:Array (Nat × Value)):Instr.build 79 p=q6y p:=rfl
theorem Tryz.placesHtl:∃g,Tryz.prog.underlying 79=some (.struct g)∧g.toList.mapM (fun f=>(Tryz.prog.info? f.type).map fun i=>(f.offset,i.size))=some [(0,1),(1,1),(2,32),(34,1)]:=⟨_,Tryz.underlying79,by kernel_rfl⟩
theorem q3o(id n ex:Int)(H:List Value)(h:H.length=32):Tryz.prog.built 79 [(0,.int .u64 id),(1,.int .u64 n),(2,.agg H.toArray),(3,.int .i64 ex)]=some (.int .u64 id :: .int .u64 n::(H++[.int .i64 ex])).toArray:=by
 obtain⟨i,z,g,o,f⟩:=qdy Tryz.zeroHtlc'
 obtain⟨q,m,l⟩:=Tryz.placesHtl
 rw[qb3 g m o l]
 rw[qcr (P:=[]) (z:= .int .u64 0) (R:= .int .u64 0::(qad.map (Value.int .u8)++[.int .i64 0])) rfl rfl rfl (f.trans (by kernel_rfl))]
 rw[qcr (P:=[.int .u64 id]) (z:= .int .u64 0) (R:=qad.map (Value.int .u8)++[.int .i64 0]) rfl rfl rfl (by rfl)]
 rw[qer (P:=[.int .u64 id,.int .u64 n]) (A:=H) (Z:=qad.map (Value.int .u8)) (R:=[.int .i64 0]) (off:=2) (by rw[h];rfl) rfl (by rw[h];rfl) (by rfl)]
 rw[qcr (P:=[.int .u64 id,.int .u64 n]++H) (z:= .int .i64 0) (R:=[]) (off:=34) rfl (by simp[h]) rfl (by simp)]
 rw[Instr.fill]
 simp
theorem qzl(id n ex:Int)(H:List Value)(w:World):(q6y #[(0,.int .u64 id),(1,.int .u64 n),(2,.agg H.toArray),(3,.int .i64 ex)]).run Tryz.prog w=if H.length=32 then .ok (.agg (.int .u64 id :: .int .u64 n::(H++[.int .i64 ex])).toArray) w else (Instr.build 79 #[(0,.int .u64 id),(1,.int .u64 n),(2,.agg H.toArray),(3,.int .i64 ex)]).run Tryz.prog w:=by
 by_cases h:H.length=32
 ·rw[if_pos h];exact run_build w _ _ _ (q3o id n ex H h)
 ·rw[if_neg h];rfl
def qwe(p:Array (Nat × Value)):Sem Value:=Instr.build 81 p
theorem qn7(p:Array (Nat × Value)):Instr.build 81 p=qwe p:=rfl
theorem Tryz.placesLiv:∃g,Tryz.prog.underlying 81=some (.struct g)∧g.toList.mapM (fun f=>(Tryz.prog.info? f.type).map fun i=>(f.offset,i.size))=some [(0,35),(35,1),(36,1),(37,1)]:=⟨_,Tryz.underlying81,by kernel_rfl⟩
theorem qo0:(qm Live.zero).toArray=(([]:List Value)++(q9 Htlc.zero++([.bool false,.int .i64 0,.bool false]:List Value))).toArray:=rfl
theorem qzs(b:Bool)(s:Int)(H:List Value)(h:H.length=35):Tryz.prog.built 81 [(0,.agg H.toArray),(1,.bool b),(2,.int .i64 s)]=some (H++([.bool b,.int .i64 s,.bool false]:List Value)).toArray:=by
 obtain⟨i,z,g,o,f⟩:=qdy Tryz.zeroLive'
 obtain⟨q,m,l⟩:=Tryz.placesLiv
 rw[qb3 g m o l]
 rw[qer (P:=[]) (A:=H) (Z:=q9 Htlc.zero) (R:=[.bool false,.int .i64 0,.bool false]) (off:=0) (by rw[h];rfl) rfl (by rw[h];rfl) (f.trans qo0)]
 rw[qcr (P:=H) (z:= .bool false) (R:=[.int .i64 0,.bool false]) (off:=35) rfl h rfl (by simp)]
 rw[qcr (P:=H++[.bool b]) (z:= .int .i64 0) (R:=[.bool false]) (off:=36) rfl (by simp[h]) rfl (by simp)]
 rw[Instr.fill]
 simp
theorem q2e(b:Bool)(s:Int)(H:List Value)(w:World):(qwe #[(0,.agg H.toArray),(1,.bool b),(2,.int .i64 s)]).run Tryz.prog w=if H.length=35 then .ok (.agg (H++([.bool b,.int .i64 s,.bool false]:List Value)).toArray) w else (Instr.build 81 #[(0,.agg H.toArray),(1,.bool b),(2,.int .i64 s)]).run Tryz.prog w:=by
 by_cases h:H.length=35
 ·rw[if_pos h];exact run_build w _ _ _ (qzs b s H h)
 ·rw[if_neg h];rfl
end Go.Proofs.YtjpmomdechibmaaGreatDoor
