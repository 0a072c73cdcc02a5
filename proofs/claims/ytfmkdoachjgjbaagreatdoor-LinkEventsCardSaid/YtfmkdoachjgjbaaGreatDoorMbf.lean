/-
  The shelf: Insert.
-/
import Derived.Test.YtfmkdoachjgjbaaGreatDoorMbe
import Derived.Test.YtfmkdoachjgjbaaGreatDoorMba
import Derived.Test.YtfmkdoachjgjbaaGreatDoorMag
import Derived.Test.YtfmkdoachjgjbaaGreatDoorMbc
set_option linter.unusedVariables false
set_option linter.unusedSimpArgs false
namespace Go.Proofs.YtfmkdoachjgjbaaGreatDoor
open Go.RowKit
theorem qqk(P Z R Q:List Value)(o:Nat)(m:P.length=o)(h:Z.length=Q.length):qiu (P++(Z++R)).toArray o Q=(P++(Q++R)).toArray:=by
 apply Array.ext';apply List.ext_getElem?;intro j;have f:(P++(Z++R)).toArray.size=P.length+(Z.length+R.length):=by simp
 rw[Array.getElem?_toList,qgy _ _ _ _ (by rw[f];omega),List.getElem?_toArray];by_cases i:o≤j∧j<o+Q.length
 ·rw[if_pos i,List.getElem?_append_right (by omega),List.getElem?_append_left (by omega),m]
 ·rw[if_neg i];by_cases q:j<o
  ·rw[List.getElem?_append_left (by omega),List.getElem?_append_left (by omega)]
  ·rw[List.getElem?_append_right (by omega),List.getElem?_append_right (by omega),List.getElem?_append_right (by omega),List.getElem?_append_right (by omega),h]
theorem qyt(X:List KeptV){i:Nat}{x:KeptV}(h:X[i]? = some x):X.flatMap KeptV.cells=(X.take i).flatMap KeptV.cells++(x.cells++(X.drop (i+1)).flatMap KeptV.cells):=by
 have f:=(List.getElem?_eq_some_iff.1 h).1;have m:=(List.getElem?_eq_some_iff.1 h).2
 conv=>lhs;rw[←List.take_append_drop i X]
 rw[List.flatMap_append,List.drop_eq_getElem_cons f,m,List.flatMap_cons]
theorem ChP.putKept{w:World}{g:Nat}{S:Nat→Prop}{c:Ch}{f z m:Value}(h:ChP w g S c f z m){i:Nat}{p k:KeptV}(L:c.shelf[i]? = some p)(E:k.told.length=32) :
  stOk w g (48+i*34) 34 k.cells.toArray=true∧ChP (w.setCells g (48+i*34) k.cells) g S {c with shelf:=c.shelf.set i k} f z m:=by
 have hl:=h.ok.s.seed
 have M:=(List.getElem?_eq_some_iff.1 L).1
 have W:=h.ok.shelf.2 p (List.mem_of_getElem? L)
 have K:c.s.cells.length=37:=c.s.len hl
 have J:=h.ok.shelf.1
 have F:(c.s.cells++(c.k.cells++[.int .u64 c.loc,.int .u64 c.rem,f])).length=48:=by
  rw[List.length_append,List.length_append,K];rfl
 have P:((c.shelf.take i).flatMap KeptV.cells).length=i*34:=by
  rw[qg9 _ (fun q N=>h.ok.shelf.2 q (List.mem_of_mem_take N)),List.length_take,Nat.min_eq_left (by omega)]
 have I:∀(s:List KeptV),(({c with shelf:=s} : Ch).v f z m).cells=(c.s.cells++(c.k.cells++[.int .u64 c.loc,.int .u64 c.rem,f]))++(s.flatMap KeptV.cells++[z,m]):=by
  intro s;show c.s.cells++(c.k.cells++(Value.int .u64 c.loc :: .int .u64 c.rem::f::(s.flatMap KeptV.cells++[z,m])))=_;simp
 have U:(c.v f z m).cells=((c.s.cells++(c.k.cells++[.int .u64 c.loc,.int .u64 c.rem,f]))++(c.shelf.take i).flatMap KeptV.cells)++(p.cells++((c.shelf.drop (i+1)).flatMap KeptV.cells++[z,m])):=by
  refine(I c.shelf).trans ?_;rw[qyt c.shelf L];simp only[List.append_assoc]
 have H:(c.shelf.set i k)[i]? = some k:=by rw[List.getElem?_set_self M]
 have Y:(({c with shelf:=c.shelf.set i k} : Ch).v f z m).cells=((c.s.cells++(c.k.cells++[.int .u64 c.loc,.int .u64 c.rem,f]))++(c.shelf.take i).flatMap KeptV.cells)++(k.cells++((c.shelf.drop (i+1)).flatMap KeptV.cells++[z,m])):=by
  refine(I _).trans ?_;rw[qyt (c.shelf.set i k) H,List.take_set_of_le (Nat.le_refl _),List.drop_set_of_lt (by omega)];simp only[List.append_assoc]
 have V:((c.s.cells++(c.k.cells++[.int .u64 c.loc,.int .u64 c.rem,f]))++(c.shelf.take i).flatMap KeptV.cells).length=48+i*34:=by
  rw[List.length_append,F,P]
 have O:48+i*34+34≤(c.v f z m).cells.toArray.size:=by
  rw[List.size_toArray,U,List.length_append,V,List.length_append,p.len W];omega
 have C:=qa8 h.at_ (48+i*34) k.cells
 rw[U,qqk _ _ _ _ _ V (by rw[p.len W,k.len E]),←Y] at C
 refine⟨qdu h.at_ O (by rw[List.size_toArray,k.len E]) (by rw[Array.all_eq_true_iff_forall_mem];intro v hv;exact k.one v (by simpa using hv)),?_⟩
 have u:Upd (· = g) w (w.setCells g (48+i*34) k.cells):=(Upd.refl _ _).setCells _ _
 have R:∀ {T:TypeId} {v:Value} {n:Nat} {xs:List Value},T≠126→w.ownsRow 0 T 38 v n xs→∀k,v.ownBlock=some k→¬k=g:=by
  intro T v n xs Z hr k E e;obtain⟨X,I⟩:=qal hr k E;exact qay I h.at_ Z e
 refine⟨C,⟨h.ok.s,h.ok.signed,h.ok.heard,h.ok.nextOwn,h.ok.nextTheirs,h.ok.loc,h.ok.rem,h.ok.xs,h.ok.few,?_,h.ok.news,h.ok.last,h.ok.many⟩,?_,?_,?_,h.inG,h.inL,h.inN,h.inA,h.sep,fun k E=>Nat.lt_of_lt_of_le (h.lt k E) u.size⟩
 ·refine⟨by show (c.shelf.set i k).length=17;rw[List.length_set];exact J,fun q N=> ?_⟩;rcases List.mem_or_eq_of_mem_set N with e | e
  ·exact h.ok.shelf.2 q e
  ·rw[e];exact E
 ·exact zk h.live u (R (by decide) h.live)
 ·exact zk h.news u (R (by decide) h.news)
 ·exact zk h.last u (R (by decide) h.last)
attribute [local go_sem ↓ high] zq qad qag qan qmr qmy ql9 qma qiy
attribute [local go_sem] qbi qch qck qdg qw q52 q7f q3i qmb
def qd6(told:List Int)(i:Int)(ps:List KeptV):Int:=if qkm i i=false then 1 else if (qk1 told i (ps.take (qbn i))).isSome=true then 50 else 0
def qit(told:List Int)(i:Int)(ps:List KeptV):List KeptV:=if qd6 told i ps=0 then ps.set (qbn i) ⟨true,i,told⟩ else ps
set_option maxRecDepth 100000 in
set_option maxHeartbeats 1000000 in
theorem qwz(g:Nat)(S:Nat→Prop)(c:Ch)(lv nv av:Value)(told:List Int)(ht:told.length=32)(hb:qbp told)(i:Int)(w:World)(h:ChP w g S c lv nv av)(b7:∀p∈c.shelf,qbp p.told)(hT:Tabs w)(hD:Deb w) :
  Calls Tryz.prog 206 #[.pointer (some ⟨g,48,none⟩),.int .i64 i,.agg (qv told).toArray] w fun e w' =>
   e = .returned (.int .i64 (qd6 told i c.shelf))∧ChP w' g S {c with shelf:=qit told i c.shelf} lv nv av∧Upd (· = g) w w':=by
 go_enter Tryz.func206,Tryz.ntmps206
 go_upto_region 1 with fail
 have C:((w.alloc (.cells #[.int .i64 i] 3)).alloc (.cells (qv told).toArray 35)).cell? ⟨w.heap.size,0,none⟩=some (.int .i64 i):=by
  rw[qg (qs (qj _ _) _)];rfl
 have Y:=qca (w.alloc (.cells #[.int .i64 i] 3)) told ht
 rw[World.size_alloc] at Y
 have N:qq w ((w.alloc (.cells #[.int .i64 i] 3)).alloc (.cells (qv told).toArray 35)):=((Upd.refl _ _).alloc _).alloc _
 generalize (w.alloc (.cells #[.int .i64 i] 3)).alloc (.cells (qv told).toArray 35)=w1 at C Y N ⊢
 have a8:=h.lt g h.inG
 obtain⟨I,a6⟩:∃I,I=w.heap.size:=⟨_,rfl⟩
 obtain⟨A,Z⟩:∃A,A=w.heap.size+1:=⟨_,rfl⟩
 rw[←Z] at Y ⊢
 rw[←a6] at C ⊢
 have c2:g≠A:=by omega
 have c3:g≠I:=by omega
 clear a6 Z a8
 have H:=qyp i i w1 (hD.new N)
 have V:=qb (h.new N)
 have HA:=qb Y
 have HT:=qb (hT.new N)
 have HD:=qb (hD.new N)
 have HN:=qb N
 have b9:=h.ok.shelf.1
 have b3:qd6 told i c.shelf=if qkm i i=false then 1 else if (qk1 told i (c.shelf.take (qbn i))).isSome=true then 50 else 0:=rfl
 have b4:qit told i c.shelf=if qd6 told i c.shelf=0 then c.shelf.set (qbn i) ⟨true,i,told⟩ else c.shelf:=rfl
 have f:=qb b3
 have m:=qb b4
 have c4:=qjj i
 clear h Y hT hD N b3 b4
 go_wp2_with fail
 refine H.mono ?_
 rintro e w2 ⟨rfl,q2⟩
 have q:=q2.cell C
 have R:qq w1 w2:=q2.upd _
 clear H C
 cases hc:qkm i i with
 | false =>
  rw[hc,if_pos rfl] at f;rw[qa f,if_neg (by decide)] at m;have X:=qb (((qa HN).trans R).mono (T:=(· = g)) (fun _ _ h=>h.elim));have H2:=qb ((qa V).new R);clear q2 R q;go_wp2_with fail;go_ret;rw[qa m,qa f];exact⟨rfl,qa H2,qa X⟩
 | true =>
  rw[hc,if_neg (by decide)] at f;have hp:=qhy i w2 ((qa HD).new R);go_upto_region 3 with fail;have N2:=qb R;clear q2 R;go_wp2_with fail;refine hp.mono ?_;rintro e w3 ⟨rfl,q3⟩;have U:qq w1 w3:=(qa N2).trans (q3.upd _);have v:=q3.cell q;have b5:=qxe g S c lv nv av (qbn i) told ht hb i A I w3 ((qa V).new U) b7 (by omega) ((qa HA).new U) v ((qa HT).new U) ((qa HD).new U);have N3:=qb U;clear hp U q3 q hc;have b8:(q1g told i (c.shelf.take (qbn i))).told.length=32:=by
   unfold q1g;cases e:qk1 told i (c.shelf.take (qbn i)) with
   | none=>exact KeptV.zero_len
   | some p =>
    unfold qk1 at e;exact(qa V).ok.shelf.2 p (List.mem_of_mem_take (List.mem_of_find?_eq_some e))
  generalize q1g told i (c.shelf.take (qbn i))=K at *
  generalize qk1 told i (c.shelf.take (qbn i))=L at *
  generalize qbn i=P at *
  go_upto_region 4 with fail;go_wp2_with fail;refine b5.mono ?_;rintro e M ⟨rfl,n4⟩;have E:=n4.cell v (fun h=>h);have ha:=qkw M KeptV.zero KeptV.zero_len;have b6:=ha.stOk b8;have z:qq M ((M.alloc (.cells KeptV.zero.cells.toArray 120)).setCells M.heap.size 0 K.cells):=(((Upd.refl (fun _=>False) M).alloc _)).then (zj _) (fun i hi e=>by omega);have n5:=((qa N3).trans n4).trans z;have F:=z.cell E (fun h=>h);have O:=qb n5;clear b5 n4 ha z n5 v E;go_upto_region 5 with fail;generalize (M.alloc (.cells KeptV.zero.cells.toArray 120)).setCells M.heap.size 0 K.cells=w5 at F O ⊢;clear b6;generalize M.heap.size=k5;cases hL:L.isSome with
  | true =>
   rw[hL,if_pos rfl] at f;rw[qa f,if_neg (by decide)] at m;have X:=qb (((qa HN).trans (qa O)).mono (T:=(· = g)) (fun _ _ h=>h.elim));have H5:=qb ((qa V).new (qa O));clear F;go_wp2_with fail;go_ret;rw[qa m,qa f];exact⟨rfl,qa H5,qa X⟩
  | false =>
   rw[hL,if_neg (by decide)] at f;rw[qa f,if_pos rfl] at m;go_upto_region 7 with fail;have nd:qq w5 w5.drew:=(Upd.refl _ _).drew;have a7:=((qa V).new (qa O)).new nd;obtain⟨p,hp⟩:∃p,c.shelf[P]? = some p:=⟨_,List.getElem?_eq_getElem (by omega)⟩;obtain⟨b6,J⟩:=a7.putKept hp (k:=⟨true,i,told⟩) ht;have c1:=fun W=>za4 true i told ht W
   have rA:=((qa HA).new (qa O)).row;have HP:=qb J;have u6:Upd (· = g) w5.drew (w5.drew.setCells g (48+P*34) (KeptV.cells ⟨true,i,told⟩)):=(Upd.refl _ _).setCells _ _;have X:=qb (((((qa HN).trans (qa O)).trans nd).mono (T:=(· = g)) (fun _ _ h=>h.elim)).trans u6);have c0:(P:Int)≤16:=by omega
   clear J a7 hp nd u6;go_wp2_with (with_reducible first|(first|refine' tw1 (qh ?_) ?_|refine' tw2 (qh ?_) ?_);rotate_left|refine' tw3 (qh ?_)|rfl|apply tn|refine' tw4 ?_);go_ret;rw[qa m,qa f];exact⟨rfl,qa HP,qa X⟩
end Go.Proofs.YtfmkdoachjgjbaaGreatDoor
namespace Go.Proofs.YtfmkdoachjgjbaaGreatDoor
open Go.RowKit
structure Tb(w:World):Prop where
 glob:Glob w
 spans:Spans w
 tabs:Tabs w
 deb:Deb w
structure Apart(S:Nat→Prop):Prop where
 a:¬S 0
 b:¬S 2
 c:¬S 4
 d:¬S 1
 e:¬S 6
theorem Tb.upd{S:Nat→Prop}{w w':World}(h:Tb w)(u:Upd S w w')(a:Apart S):Tb w':=⟨h.glob.upd u a.a,h.spans.upd u a.b,h.tabs.upd u a.c a.d,h.deb.upd u a.e⟩
theorem Tb.new{w w':World}(h:Tb w)(u:qq w w'):Tb w':=⟨h.glob.new u,h.spans.new u,h.tabs.new u,h.deb.new u⟩
theorem Tb.lt{w:World}(h:Tb w):0<w.heap.size∧2<w.heap.size∧4<w.heap.size∧1<w.heap.size∧6<w.heap.size :=
 ⟨World.block_lt_of_cell? w _ (h.glob.events 0 (by decide)),World.block_lt_of_cell? w _ (h.spans.spans 0 (by decide)),h.tabs.lt.1,h.tabs.lt.2,World.block_lt_of_cell? w _ (h.deb.tab 0 (by decide))⟩
theorem Apart.fr{S:Nat→Prop}{w:World}(h:Apart S)(t:Tb w)(w':World):Apart (Fr S w w'):=by
 obtain⟨a,b,c,d,e⟩:=t.lt;refine⟨?_,?_,?_,?_,?_⟩
 ·rintro (k | k)
  ·exact h.a k
  ·omega
 ·rintro (k | k)
  ·exact h.b k
  ·omega
 ·rintro (k | k)
  ·exact h.c k
  ·omega
 ·rintro (k | k)
  ·exact h.d k
  ·omega
 ·rintro (k | k)
  ·exact h.e k
  ·omega
theorem Apart.mono{S T:Nat→Prop}(h:Apart S)(st:∀k,T k→S k):Apart T:=⟨fun k=>h.a (st _ k),fun k=>h.b (st _ k),fun k=>h.c (st _ k),fun k=>h.d (st _ k),fun k=>h.e (st _ k)⟩
structure Tc(w:World):Prop where
 glob:Glob w
 spans:Spans w
 tabs:Tabs w
structure ApC(S:Nat→Prop):Prop where
 a:¬S 0
 b:¬S 2
 c:¬S 4
 d:¬S 1
theorem Tb.c{w:World}(h:Tb w):Tc w:=⟨h.glob,h.spans,h.tabs⟩
theorem Apart.cc{S:Nat→Prop}(h:Apart S):ApC S:=⟨h.a,h.b,h.c,h.d⟩
theorem Tc.upd{S:Nat→Prop}{w w':World}(h:Tc w)(u:Upd S w w')(a:ApC S):Tc w':=⟨h.glob.upd u a.a,h.spans.upd u a.b,h.tabs.upd u a.c a.d⟩
theorem Tc.new{w w':World}(h:Tc w)(u:qq w w'):Tc w':=⟨h.glob.new u,h.spans.new u,h.tabs.new u⟩
theorem Tc.lt{w:World}(h:Tc w):0<w.heap.size∧2<w.heap.size∧4<w.heap.size∧1<w.heap.size :=
 ⟨World.block_lt_of_cell? w _ (h.glob.events 0 (by decide)),World.block_lt_of_cell? w _ (h.spans.spans 0 (by decide)),h.tabs.lt.1,h.tabs.lt.2⟩
theorem ApC.mono{S T:Nat→Prop}(h:ApC S)(st:∀k,T k→S k):ApC T:=⟨fun k=>h.a (st _ k),fun k=>h.b (st _ k),fun k=>h.c (st _ k),fun k=>h.d (st _ k)⟩
structure ApD(S:Nat→Prop):Prop where
 c:¬S 4
 d:¬S 1
theorem Fr.comp{S:Nat→Prop}{w1 f i:World}(h:w1.heap.size≤f.heap.size)(m:f.heap.size≤i.heap.size):∀k,Fr (Fr S w1 f) f i k→Fr S w1 i k:=by
 rintro k ((h | h) | h)
 ·exact .inl h
 ·exact .inr ⟨h.1,by omega⟩
 ·exact .inr ⟨by omega,h.2⟩
theorem Upd.fr{S:Nat→Prop}{w1 f m:World}(u:Upd S w1 f)(v:Upd (Fr S w1 f) f m):Upd S w1 m:=u.then v fun i q h=>by
 rcases h with h | h
 ·exact h
 ·omega
theorem ChS.comp{S:Nat→Prop}{w1 m i:World}{g:Nat}{c:Ch}(h:ChS i g (Fr (Fr S w1 m) m i) c)(q:w1.heap.size≤m.heap.size)(v:m.heap.size≤i.heap.size):ChS i g (Fr S w1 i) c:=by
 obtain⟨a,b,d,h⟩:=h;refine⟨a,b,d,h.wider (Fr.comp q v) (fun k f=> ?_)⟩;have:=h.lt g h.inG;rcases f with f | f
 ·exact h.lt k (.inl (.inl f))
 ·exact f.2
theorem ChS.frW{S:Nat→Prop}{w1 f:World}{g:Nat}{c:Ch}(h:ChS f g S c):ChS f g (Fr S w1 f) c:=by
 obtain⟨a,b,d,h⟩:=h;exact h.fr w1
theorem ChS.later{S:Nat→Prop}{w1 m i:World}{g:Nat}{c:Ch}(h:ChS i g (Fr S m i) c)(q:w1.heap.size≤m.heap.size):ChS i g (Fr S w1 i) c:=by
 obtain⟨a,b,d,h⟩:=h;refine⟨a,b,d,h.wider (fun k f=> ?_) (fun k f=> ?_)⟩
 ·rcases f with f | f
  ·exact .inl f
  ·exact .inr ⟨by omega,f.2⟩
 ·rcases f with f | f
  ·exact h.lt k (.inl f)
  ·exact f.2
theorem ChS.grow{S:Nat→Prop}{w0 w1 i:World}{g:Nat}{c:Ch}(h:ChS i g (Fr S w0 w1) c)(m:w1.heap.size≤i.heap.size):ChS i g (Fr S w0 i) c:=by
 obtain⟨a,b,d,h⟩:=h;refine⟨a,b,d,h.wider (fun k f=> ?_) (fun k f=> ?_)⟩
 ·rcases f with f | f
  ·exact .inl f
  ·exact .inr ⟨f.1,by omega⟩
 ·rcases f with f | f
  ·exact h.lt k (.inl f)
  ·exact f.2
def qfy(n:Nat)(s:ByteArray):ByteArray:=qx n 8++qx s.size 2++s
def qpr(n:Nat)(s:ByteArray):ByteArray:=qfy n s++qx8 (qfy n s)
theorem qmo(n:Nat)(s:ByteArray):(qfy n s).size=10+s.size:=by
 unfold qfy;rw[ByteArray.size_append,ByteArray.size_append,qaq,qaq]
theorem qjk(n:Nat)(s:ByteArray):(qpr n s).size=14+s.size:=by
 unfold qpr;rw[ByteArray.size_append,qmo,qq1];omega
set_option maxRecDepth 100000 in
set_option maxHeartbeats 1000000 in
theorem q5u(n:Nat)(s:ByteArray)(w:World)(hn:n<2 ^ 64)(hs:s.size≤1024)(T:Tabs w) :
  Calls Tryz.prog 148 #[.int .u64 n,.string s] w (qa5 (.tuple #[.string (qpr n s),.int .i64 0]) w):=by
 have F:IntKind.u64.wrap (s.size:Int)=s.size:=qgi (by omega) (by omega)
 have m:=qmo n s
 have i:=qq1 (qfy n s)
 have N:(⟨#[]⟩:ByteArray)++qx n 8=qx n 8:=ByteArray.empty_append
 have I:=qb (qaq n 8)
 have O:(qx n 8++qx s.size 2).size=10:=by rw[ByteArray.size_append,qaq,qaq]
 have Y:=qb O
 have J:=qb (show qx n 8++qx s.size 2++s=qfy n s from rfl)
 have K:=qb (show qfy n s++qx8 (qfy n s)=qpr n s from rfl)
 have q:=qb (And.intro m i)
 clear O m i
 go_enter Tryz.func148,Tryz.ntmps148
 go_upto_region 2 with fail
 have b1:Wr (w.alloc (.cells #[.string ⟨#[]⟩] 174)) w.heap.size ⟨#[]⟩:=qj _ _
 have H:qq w (w.alloc (.cells #[.string ⟨#[]⟩] 174)):=(Upd.refl _ _).alloc _
 generalize w.alloc (.cells #[.string ⟨#[]⟩] 174)=w1 at b1 H ⊢
 have L:=qb H
 generalize S:w.heap.size=B at b1 ⊢
 have v:=qb S
 clear H S
 have f:=qdn B n 8 ⟨#[]⟩ w1 b1 (by decide) (by decide) hn (by show (0:Nat)≤_;omega)
 rw[N] at f
 clear N b1
 go_wp2_with fail
 refine f.mono ?_
 rintro e w2 ⟨rfl,W,P⟩
 have M:=qb ((qa L).then W (fun k hk e=>by have:=qa v;omega))
 have f:=qdn B s.size 2 (qx n 8) w2 P (by decide) (by decide) (by show s.size<65536;omega) (by have:=qa I;omega)
 clear W P L
 go_wp2_with fail
 refine f.mono ?_
 rintro e w3 ⟨rfl,X,R⟩
 have z:=qb ((qa M).then X (fun k hk e=>by have:=qa v;omega))
 clear f X M F
 go_wp2_with fail
 refine(qft _ _ _ R).mono ?_
 rintro e w4 ⟨rfl,rfl⟩
 have U:=q5v (qfy n s) w3 (by have:=(qa q).1;omega) (T.new (qa z))
 have C:(qfy n s).size≤1034:=by have:=(qa q).1;omega
 have E:=(qa q).2
 have a6:=qa Y
 clear R T
 generalize qx n 8++qx s.size 2=a at *
 go_wp2_with fail
 rw[qa J]
 refine U.mono ?_
 rintro e w5 ⟨rfl,V⟩
 have Z:=qb ((qa z).trans V)
 clear U V z v I
 go_wp2_with fail
 rw[qa K]
 clear K q C E J
 generalize qfy n s=hv
 generalize qpr n s=pv
 generalize qx8 hv=sv
 go_ret2
 exact⟨rfl,qa Z⟩
def Jo.app(j:Jo)(s:ByteArray):Jo:= {j with bs:=j.bs++qpr j.many.toNat s,many:=j.many+1}
theorem q66{w:World}{g:Nat}{S:Nat→Prop}{j:Jo}(h:JoS w g S j)(n:Int):JoS (w.setCell ⟨g,2,none⟩ (.int .i64 n)) g S {j with many:=n} := by
 obtain⟨p,buf,h⟩:=h;have u:Upd (· = g) w (w.setCell ⟨g,2,none⟩ (.int .i64 n)):=(Upd.refl _ _).set1 _ _;refine⟨p,buf,zv h.at_ 2 _,h.addr,zk h.row u ?_,h.inG,h.inB,fun k f=>Nat.lt_of_lt_of_le (h.lt k f) u.size⟩;intro k f e;obtain⟨i,m⟩:=qal h.row k f;exact qay m h.at_ (by decide) e
theorem JoS.comp{S:Nat→Prop}{w1 i f:World}{g:Nat}{c:Jo}(h:JoS f g (Fr (Fr S w1 i) i f) c)(q:w1.heap.size≤i.heap.size)(v:i.heap.size≤f.heap.size):JoS f g (Fr S w1 f) c:=by
 obtain⟨p,b,h⟩:=h;refine⟨p,b,h.wider (Fr.comp q v) ?_⟩;have z:=h.lt;rintro k (m | m)
 ·exact z k (.inl (.inl m))
 ·exact m.2
theorem JoS.wider{w:World}{g:Nat}{S T:Nat→Prop}{j:Jo}(h:JoS w g S j)(i:∀k,S k→T k)(f:∀k,T k→k<w.heap.size):JoS w g T j:=by
 obtain⟨p,b,h⟩:=h;exact⟨p,b,h.wider i f⟩
def zcf(g:Nat)(S:Nat→Prop)(j:Jo)(s:ByteArray)(w0:World)(i:Nat)(w:World):Prop:=(i=0→w=w0)∧(i=1→JoS w g (Fr S w0 w) (j.app s)∧Upd S w0 w)
set_option maxRecDepth 100000 in
set_option maxHeartbeats 2000000 in
theorem qmn(g b:Nat)(S:Nat→Prop)(j:Jo)(s:ByteArray)(w:World)(h:JoS w g S j)(hf:j.fused=false)(ho:j.off=false)(hs:s.size≤1024)(O:0≤j.many∧j.many<1099511627776)(T:j.bs.size≤1099511627776)(hT:Tabs w)(hb:w.cell? ⟨b,0,none⟩=some (.string s))(a6:¬S b) :
  Calls Tryz.prog 113 #[.pointer (some ⟨g,0,none⟩),.slice (some ⟨b,0,none⟩) 1 1] w fun e w'=>e = .returned (.int .i64 0)∧JoS w' g (Fr S w w') (j.app s)∧Upd S w w':=by
 obtain⟨p,buf,J⟩:=h
 have Z:w.cell? ⟨g,5,none⟩=some (.bool false):=ho▸qg J.at_ 5
 have f:w.cell? ⟨g,2,none⟩=some (.int .i64 j.many):=qg J.at_ 2
 have hG:=J.inG
 have H:=qb (show JoS w g S j from⟨p,buf,J⟩)
 obtain⟨m,v⟩:=Int.eq_ofNat_of_zero_le O.1
 have b3:IntKind.u64.wrap (m:Int)=(m:Int):=qgi (by omega) (by omega)
 rw[v] at f
 have q:=fun w' (n':qq w w')=>q5u m s w' (by omega) hs (hT.new n')
 have a8:=qjk m s
 have a7:m<1099511627776:=by omega
 have I:=qb v
 have HM:=qb O
 clear J v O
 go_enter Tryz.func113,Tryz.ntmps113
 go_wp2_with fail
 go_loopw [13] (fun C wr=>∃i:Nat,C = .int .i64 (i:Int)∧i≤1∧wr=w) (fun C _=>1-(intOf C).toNat)
 case atStart=>exact⟨0,rfl,by omega,rfl⟩
 case round =>
  obtain⟨i,rfl,hi,rfl⟩:=hrel;rcases (by omega:i=0∨i=1) with rfl | rfl
  ·go_wp2_with fail;go_roundw
   case rel=>exact⟨1,rfl,by omega,by trivial⟩
   case measure=>simp[intOf]
  ·rw[show ((1:Nat):Int)=1 from rfl];go_wp2_with fail
   go_loopw [27] (fun C P=>∃i:Nat,C = .int .i64 (i:Int)∧i≤1∧Hid (zcf g S j s wr i P)) (fun C _=>1-(intOf C).toNat)
   case atStart=>exact⟨0,rfl,by omega,qb ⟨fun _=>rfl,fun e=>by cases e⟩⟩
   case round =>
    obtain⟨i,rfl,hi,hrel⟩:=hrel;rcases (by omega:i=0∨i=1) with rfl | rfl
    ·obtain rfl:=(qa hrel).1 rfl;clear hrel;rw[show ((0:Nat):Int)=0 from rfl];go_wp2_with fail;refine(q _ (Upd.refl _ _)).mono ?_;rintro e w1 ⟨rfl,F⟩;have V:=qw6 g S j (qpr m s) w1 ((qa H).new F) hf (by omega);have X:=qb F;clear F q hb Z f;go_wp2_with fail;refine V.mono ?_;rintro e L ⟨rfl,R,K⟩;have U:JoS (L.setCell ⟨g,2,none⟩ (.int .i64 ((m:Int)+1))) g (Fr S w1 L) (j.app s):=by
      have:=q66 R ((m:Int)+1);unfold Jo.app;rw[qa I,Int.toNat_natCast];exact this
     have z:Upd (· = g) L (L.setCell ⟨g,2,none⟩ (.int .i64 ((m:Int)+1))):=(Upd.refl _ _).set1 _ _;have M:=qb z;have N:=qb z.size;obtain⟨p2,b2,f⟩:=R;have d2:L.cell? ⟨g,2,none⟩=some (.int .i64 (m:Int)):=by have:=qa I;rw[←this];exact qg f.at_ 2
     have f2:=qu f.at_ 2;have W:=qb U;have Y:=qb K;clear V U f K z;go_wp2_with fail;go_roundw
     case rel =>
      have F:=qa X;have K:=qa Y;have z3:=qa N;have z1:=F.size;have z2:=K.size;have hz:=(qa H).lt;refine⟨1,rfl,by omega,qb ⟨(fun e=>by cases e),fun _=>⟨(qa W).wider ?_ ?_,?_⟩⟩⟩
      ·rintro k (E | E)
       ·exact .inl E
       ·exact .inr ⟨by omega,by omega⟩
      ·rintro k (E | E)
       ·have:=hz k E;omega
       ·exact E.2
      ·exact((F.mono (fun _ _ h=>h.elim)).trans K).trans ((qa M).mono (fun k _ e=>by rw[e];exact hG))
     case measure=>simp[intOf]
    ·go_wp2_with fail;go_ret;exact⟨rfl,(qa hrel).2 rfl⟩
structure LinkV where
 sp:Nat
 en:Nat
 lo:Nat
 out:ByteArray
 events:Value
 ticks:Int
 dead:Bool
 broken:Bool
 waits:Bool
def q1z(g:Nat):Value:= .pointer (some ⟨g,0,none⟩)
def LinkV.cells(l:LinkV):List Value:=[q1z l.sp,q1z l.en,q1z l.lo,.string l.out,l.events,.int .i64 l.ticks,.bool l.dead,.bool l.broken,.bool l.waits]
def LkR(w:World)(g:Nat)(l:LinkV):Prop:=w.heap[g]? = some (.cells l.cells.toArray 107 (0,0))
def SpR(w:World)(g:Nat)(s:ByteArray):Prop:=w.heap[g]? = some (.cells #[.string s] 169 (0,0))
def LinkV.new(sp en lo:Nat):LinkV:=⟨sp,en,lo,⟨#[]⟩,qco,0,false,false,false⟩
structure NewL(w:World)(B g:Nat)(s:SetupV)(l:LinkV):Prop where
 isNew:l = .new l.sp l.en l.lo
 lk:LkR w g l
 sp:SpR w l.sp ⟨#[]⟩
 ch:ChR w l.en (.new s)
 jo:JoR w l.lo .new
 ge:B≤g∧B≤l.sp∧B≤l.en∧B≤l.lo
 ne:l.en<l.lo∧l.lo<l.sp∧l.sp<g
attribute [local go_sem ↓ high] qb4
attribute [local go_sem] qd8
set_option maxRecDepth 100000 in
set_option maxHeartbeats 1000000 in
theorem qos(s:SetupV)(S:s.Ok)(w:World):Calls Tryz.prog 43 #[.agg s.cells.toArray] w fun e w' =>
  (s.may∧∃g l,e = .returned (.pointer (some ⟨g,0,none⟩))∧NewL w' w.heap.size g s l∧qq w w')∨(¬s.may∧e = .returned (.pointer none)∧qq w w'):=by
 go_enter Tryz.func43,Tryz.ntmps43
 go_upto_region 1 with fail
 have K:qif (w.alloc (.cells s.cells.toArray 78)) w.heap.size s:=qj _ _
 have H:qq w (w.alloc (.cells s.cells.toArray 78)):=(Upd.refl _ _).alloc _
 generalize w.alloc (.cells s.cells.toArray 78)=w1 at K H ⊢
 have q:=K.row S.seed
 go_wp2_with fail
 refine(q6e s S _).mono ?_
 rintro e w2 (⟨C,g,rfl,R,z,v⟩ | ⟨C,rfl,v⟩)
 ·replace v:=H.trans v;have O:w.heap.size≤g:=Nat.le_trans H.size R;clear H K q R;have M:=qb C;clear C;go_wp2_with fail;refine(qu2 _).mono ?_;rintro e f ⟨j,rfl,Z,i,E⟩;have V:=z.lt;replace z:=z.new E;replace E:=v.trans E;have P:=zr i;have W:=v.size;clear v;go_wp2_with fail;go_ret;have C:=qa M;have U:=E.alloc (.cells #[.string ⟨#[]⟩] 169);have J:SpR _ f.heap.size ⟨#[]⟩:=qj f (.cells #[.string ⟨#[]⟩] 169);have F:qq f (f.alloc (.cells #[.string ⟨#[]⟩] 169)):=(Upd.refl _ _).alloc _;have T:(f.alloc (.cells #[.string ⟨#[]⟩] 169)).heap.size=f.heap.size+1:=World.size_alloc _ _;replace z:=z.new F;replace i:JoR _ j .new:=F.old i (fun h=>h);have X:w.heap.size≤j:=by omega
  generalize f.alloc (.cells #[.string ⟨#[]⟩] 169)=L at U J F T z i ⊢;have I:LkR _ L.heap.size (.new f.heap.size g j):=qj L (.cells (LinkV.new f.heap.size g j).cells.toArray 107);have m:qq L (L.alloc (.cells (LinkV.new f.heap.size g j).cells.toArray 107)):=(Upd.refl _ _).alloc _;have Y:=U.trans m;rw[T] at I;have N:=E.size;exact .inl ⟨C,f.heap.size+1,.new f.heap.size g j,rfl,⟨rfl,I,m.old J (fun h=>h),z.new m,m.old i (fun h=>h),⟨by omega,N,O,X⟩,⟨by show g<j;omega,P,by show f.heap.size<_;omega⟩⟩,Y⟩
 ·have E:=H.trans v;clear H K q v;have M:=qb C;clear C;go_wp2_with fail;go_ret;exact .inr ⟨qa M,rfl,E⟩
end Go.Proofs.YtfmkdoachjgjbaaGreatDoor
namespace Go.Proofs.YtfmkdoachjgjbaaGreatDoor
open Go.RowKit
inductive Fld where
 | ch
 | id
 | amount
 | hash
 | expiry
 | number
def Fld.zero(x:Fld)(m:MsgV):MsgV :=
 match x with
 | .ch=> {m with ch:=0}
 | .id=> {m with id:=0}
 | .amount=> {m with amount:=0}
 | .hash=> {m with hash:=ze}
 | .expiry=> {m with expiry:=0}
 | .number=> {m with number:=0}
def qhe(base:Nat)(w:World)(v:Value)(f F:FuncId)(n:Int):Prop :=
 ∃p q,v = .func (.func f) #[] #[.pointer (some ⟨p,0,none⟩),.pointer (some ⟨q,0,none⟩)]∧base≤p∧base≤q∧w.cell? ⟨p,0,none⟩=some (.func (.func F) #[] #[])∧w.cell? ⟨q,0,none⟩=some (.int .i64 n)
def qgk(base:Nat)(w:World)(v:Value)(x:Fld):Prop :=
 match x with
 | .ch=>qhe base w v 214 203 4
 | .id=>qhe base w v 200 169 8
 | .amount=>qhe base w v 200 170 8
 | .hash=>v = .func (.func 175) #[] #[]
 | .expiry=>qhe base w v 201 172 4
 | .number=>qhe base w v 201 173 2
theorem qhe.upd{base:Nat}{w w':World}{v:Value}{f F:FuncId}{n:Int}{S:Nat→Prop}(h:qhe base w v f F n)(u:Upd S w w')(i:∀k,base≤k→¬S k):qhe base w' v f F n:=by
 obtain⟨p,q,e,m,z,C,E⟩:=h;exact⟨p,q,e,m,z,u.cell C (i p m),u.cell E (i q z)⟩
theorem qgk.upd{base:Nat}{w w':World}{v:Value}{x:Fld}{S:Nat→Prop}(h:qgk base w v x)(u:Upd S w w')(f:∀k,base≤k→¬S k):qgk base w' v x:=by
 cases x<;>first | exact qhe.upd h u f | exact h
theorem qgk.new{base:Nat}{w w':World}{v:Value}{x:Fld}(h:qgk base w v x)(u:qq w w'):qgk base w' v x:=h.upd u (fun _ _ h=>h)
theorem qhe.one{base:Nat}{w:World}{v:Value}{f F:FuncId}{n:Int}(h:qhe base w v f F n):v.oneCell'=true:=by
 obtain⟨p,q,rfl,_⟩:=h;rfl
theorem qgk.one{base:Nat}{w:World}{v:Value}{x:Fld}(h:qgk base w v x):v.oneCell'=true:=by
 cases x<;>first | exact qhe.one h | (have h:v=_:=h;rw[h];rfl)
theorem q62(m:MsgV)(n:Int):m.cells.toArray.setIfInBounds 1 (.int .u32 n)=({m with ch:=n} : MsgV).cells.toArray:=rfl
theorem q63(m:MsgV)(n:Int):m.cells.toArray.setIfInBounds 2 (.int .u64 n)=({m with id:=n} : MsgV).cells.toArray:=rfl
theorem qo3(m:MsgV)(n:Int):m.cells.toArray.setIfInBounds 3 (.int .u64 n)=({m with amount:=n} : MsgV).cells.toArray:=rfl
theorem quj(m:MsgV)(h:m.hash.length=32):m.cells=(.int .i64 m.kind :: .int .u32 m.ch :: .int .u64 m.id :: .int .u64 m.amount::qv m.hash)++[.int .i64 m.expiry,.int .i64 m.number]:=rfl
theorem qo4(m:MsgV)(h:m.hash.length=32)(n:Int):m.cells.toArray.setIfInBounds 36 (.int .i64 n)=({m with expiry:=n} : MsgV).cells.toArray:=by
 rw[List.setIfInBounds_toArray,quj m h,List.set_append_right _ _ (by simp[qv,h])];congr 1;show _=(.int .i64 m.kind :: .int .u32 m.ch :: .int .u64 m.id :: .int .u64 m.amount::qv m.hash)++[.int .i64 n,.int .i64 m.number];simp[qv,h]
theorem qo6(m:MsgV)(h:m.hash.length=32)(n:Int):m.cells.toArray.setIfInBounds 37 (.int .i64 n)=({m with number:=n} : MsgV).cells.toArray:=by
 rw[List.setIfInBounds_toArray,quj m h,List.set_append_right _ _ (by simp[qv,h])];congr 1;show _=(.int .i64 m.kind :: .int .u32 m.ch :: .int .u64 m.id :: .int .u64 m.amount::qv m.hash)++[.int .i64 m.expiry,.int .i64 n];simp[qv,h]
theorem qu7(m:MsgV)(h:m.hash.length=32)(k:List Int)(f:k.length=32):qiu m.cells.toArray 4 (qv k)=({m with hash:=k} : MsgV).cells.toArray :=
 qqk [.int .i64 m.kind,.int .u32 m.ch,.int .u64 m.id,.int .u64 m.amount] (qv m.hash) [.int .i64 m.expiry,.int .i64 m.number] (qv k) 4 rfl (by rw[qaj,qaj,h,f])
attribute [local go_sem ↓ high] zq qad qag qan
attribute [local go_sem] qbi qch qck qdg qw
theorem qnh(A:Nat)(w:World):Calls Tryz.prog 169 #[.pointer (some ⟨A,0,none⟩)] w (qa0 (.pointer (some ⟨A,2,none⟩)) w):=by
 go_enter Tryz.func169,Tryz.ntmps169;go_wp2_with fail;go_ret;exact⟨rfl,Q.refl _⟩
theorem qni(A:Nat)(w:World):Calls Tryz.prog 170 #[.pointer (some ⟨A,0,none⟩)] w (qa0 (.pointer (some ⟨A,3,none⟩)) w):=by
 go_enter Tryz.func170,Tryz.ntmps170;go_wp2_with fail;go_ret;exact⟨rfl,Q.refl _⟩
theorem qnj(A:Nat)(w:World):Calls Tryz.prog 172 #[.pointer (some ⟨A,0,none⟩)] w (qa0 (.pointer (some ⟨A,36,none⟩)) w):=by
 go_enter Tryz.func172,Tryz.ntmps172;go_wp2_with fail;go_ret;exact⟨rfl,Q.refl _⟩
theorem qnk(A:Nat)(w:World):Calls Tryz.prog 173 #[.pointer (some ⟨A,0,none⟩)] w (qa0 (.pointer (some ⟨A,37,none⟩)) w):=by
 go_enter Tryz.func173,Tryz.ntmps173;go_wp2_with fail;go_ret;exact⟨rfl,Q.refl _⟩
theorem qnl(A:Nat)(w:World):Calls Tryz.prog 203 #[.pointer (some ⟨A,0,none⟩)] w (qa0 (.pointer (some ⟨A,1,none⟩)) w):=by
 go_enter Tryz.func203,Tryz.ntmps203;go_wp2_with fail;go_ret;exact⟨rfl,Q.refl _⟩
def qg6:Value:= .agg #[.pointer none,.pointer none]
set_option maxRecDepth 100000 in
set_option maxHeartbeats 1000000 in
theorem qm4(F:FuncId)(o A p q:Nat)(x:Int)(m:MsgV)(w:World)(U:∀args w,(callFunc F args).run Tryz.prog w = .ok (.enter F args) w)(N:∀w,Calls Tryz.prog F #[.pointer (some ⟨A,0,none⟩)] w (qa0 (.pointer (some ⟨A,o,none⟩)) w))(J:w.cell? ⟨p,0,none⟩=some (.func (.func F) #[] #[]))(I:MsB w A m)(O:m.cells[o]? = some (.int .u64 x)) :
  Calls Tryz.prog 200 #[qg6,.pointer (some ⟨A,0,none⟩),.pointer (some ⟨p,0,none⟩),.pointer (some ⟨q,0,none⟩)] w fun e w'=>e = .returned (.tuple #[])∧∃w1,qq w w1∧w'=w1.setCell ⟨A,o,none⟩ (.int .u64 0):=by
 unfold qg6
 go_enter Tryz.func200,Tryz.ntmps200
 go_upto_region 1 with fail
 have i:qq w (w.alloc (.cells #[.pointer none,.pointer none] 234)):=(Upd.refl _ _).alloc _
 have C:=qj w (.cells #[.pointer none,.pointer none] 234)
 generalize w.alloc (.cells #[.pointer none,.pointer none] 234)=w1 at i C ⊢
 generalize w.heap.size=B at C ⊢
 have H:=i.cell J (fun h=>h)
 have L:=qb (I.new i)
 have E:=qb C
 clear C J I
 go_wp2_with fail
 refine(N w1).mono ?_
 rintro e z ⟨rfl,v⟩
 have K:qq w z:=i.trans (v.upd _)
 have f:=(qa L).new (v.upd _)
 have R:z.cell? ⟨B,0,none⟩=some (.pointer none):=v.cell (qg (qa E) 0)
 have S:z.cell? ⟨B,1,none⟩=some (.pointer none):=v.cell (qg (qa E) 1)
 have P:z.cell? ⟨A,o,none⟩=some (.int .u64 x):=by rw[qg f.at_,List.getElem?_toArray];exact O
 have T:z.frozen? ⟨A,o,none⟩=false:=qu f.at_ o
 have M:=qb K
 clear f v K i H E
 go_wp2_with (with_reducible first|(first|refine' tw1 (qh ?_) ?_|refine' tw2 (qh ?_) ?_);rotate_left|refine' tw3 (qh ?_)|rfl|apply tn|refine' tw4 ?_)
 go_end0
 exact⟨rfl,_,qa M,rfl⟩
set_option maxRecDepth 100000 in
set_option maxHeartbeats 1000000 in
theorem qm3(F:FuncId)(o A p q:Nat)(x:Int)(m:MsgV)(w:World)(U:∀args w,(callFunc F args).run Tryz.prog w = .ok (.enter F args) w)(N:∀w,Calls Tryz.prog F #[.pointer (some ⟨A,0,none⟩)] w (qa0 (.pointer (some ⟨A,o,none⟩)) w))(J:w.cell? ⟨p,0,none⟩=some (.func (.func F) #[] #[]))(I:MsB w A m)(O:m.cells[o]? = some (.int .i64 x)) :
  Calls Tryz.prog 201 #[qg6,.pointer (some ⟨A,0,none⟩),.pointer (some ⟨p,0,none⟩),.pointer (some ⟨q,0,none⟩)] w fun e w'=>e = .returned (.tuple #[])∧∃w1,qq w w1∧w'=w1.setCell ⟨A,o,none⟩ (.int .i64 0):=by
 unfold qg6
 go_enter Tryz.func201,Tryz.ntmps201
 go_upto_region 1 with fail
 have i:qq w (w.alloc (.cells #[.pointer none,.pointer none] 234)):=(Upd.refl _ _).alloc _
 have C:=qj w (.cells #[.pointer none,.pointer none] 234)
 generalize w.alloc (.cells #[.pointer none,.pointer none] 234)=w1 at i C ⊢
 generalize w.heap.size=B at C ⊢
 have H:=i.cell J (fun h=>h)
 have L:=qb (I.new i)
 have E:=qb C
 clear C J I
 go_wp2_with fail
 refine(N w1).mono ?_
 rintro e z ⟨rfl,v⟩
 have K:qq w z:=i.trans (v.upd _)
 have f:=(qa L).new (v.upd _)
 have R:z.cell? ⟨B,0,none⟩=some (.pointer none):=v.cell (qg (qa E) 0)
 have S:z.cell? ⟨B,1,none⟩=some (.pointer none):=v.cell (qg (qa E) 1)
 have P:z.cell? ⟨A,o,none⟩=some (.int .i64 x):=by rw[qg f.at_,List.getElem?_toArray];exact O
 have T:z.frozen? ⟨A,o,none⟩=false:=qu f.at_ o
 have M:=qb K
 clear f v K i H E
 go_wp2_with (with_reducible first|(first|refine' tw1 (qh ?_) ?_|refine' tw2 (qh ?_) ?_);rotate_left|refine' tw3 (qh ?_)|rfl|apply tn|refine' tw4 ?_)
 go_end0
 exact⟨rfl,_,qa M,rfl⟩
set_option maxRecDepth 100000 in
set_option maxHeartbeats 1000000 in
theorem qvq(F:FuncId)(o A p q:Nat)(x:Int)(m:MsgV)(w:World)(U:∀args w,(callFunc F args).run Tryz.prog w = .ok (.enter F args) w)(N:∀w,Calls Tryz.prog F #[.pointer (some ⟨A,0,none⟩)] w (qa0 (.pointer (some ⟨A,o,none⟩)) w))(J:w.cell? ⟨p,0,none⟩=some (.func (.func F) #[] #[]))(I:MsB w A m)(O:m.cells[o]? = some (.int .u32 x)) :
  Calls Tryz.prog 214 #[qg6,.pointer (some ⟨A,0,none⟩),.pointer (some ⟨p,0,none⟩),.pointer (some ⟨q,0,none⟩)] w fun e w'=>e = .returned (.tuple #[])∧∃w1,qq w w1∧w'=w1.setCell ⟨A,o,none⟩ (.int .u32 0):=by
 unfold qg6
 go_enter Tryz.func214,Tryz.ntmps214
 go_upto_region 1 with fail
 have i:qq w (w.alloc (.cells #[.pointer none,.pointer none] 234)):=(Upd.refl _ _).alloc _
 have C:=qj w (.cells #[.pointer none,.pointer none] 234)
 generalize w.alloc (.cells #[.pointer none,.pointer none] 234)=w1 at i C ⊢
 generalize w.heap.size=B at C ⊢
 have H:=i.cell J (fun h=>h)
 have L:=qb (I.new i)
 have E:=qb C
 clear C J I
 go_wp2_with fail
 refine(N w1).mono ?_
 rintro e z ⟨rfl,v⟩
 have K:qq w z:=i.trans (v.upd _)
 have f:=(qa L).new (v.upd _)
 have R:z.cell? ⟨B,0,none⟩=some (.pointer none):=v.cell (qg (qa E) 0)
 have S:z.cell? ⟨B,1,none⟩=some (.pointer none):=v.cell (qg (qa E) 1)
 have P:z.cell? ⟨A,o,none⟩=some (.int .u32 x):=by rw[qg f.at_,List.getElem?_toArray];exact O
 have T:z.frozen? ⟨A,o,none⟩=false:=qu f.at_ o
 have M:=qb K
 clear f v K i H E
 go_wp2_with (with_reducible first|(first|refine' tw1 (qh ?_) ?_|refine' tw2 (qh ?_) ?_);rotate_left|refine' tw3 (qh ?_)|rfl|apply tn|refine' tw4 ?_)
 go_end0
 exact⟨rfl,_,qa M,rfl⟩
set_option maxRecDepth 100000 in
set_option maxHeartbeats 1000000 in
theorem qs2(A:Nat)(m:MsgV)(w:World)(z:MsB w A m) :
  Calls Tryz.prog 175 #[qg6,.pointer (some ⟨A,0,none⟩)] w fun e w'=>e = .returned (.tuple #[])∧∃w1,qq w w1∧w'=w1.setCells A 4 (qv ze):=by
 unfold qg6
 go_enter Tryz.func175,Tryz.ntmps175
 go_upto_region 2 with fail
 have q:qq w (w.alloc (.cells #[.pointer none,.pointer none] 234)):=(Upd.refl _ _).alloc _
 have i:=qj w (.cells #[.pointer none,.pointer none] 234)
 generalize w.alloc (.cells #[.pointer none,.pointer none] 234)=w1 at q i ⊢
 generalize w.heap.size=B at i ⊢
 have f:=z.new q
 have H:w1.cell? ⟨B,0,none⟩=some (.pointer none):=qg i 0
 have I:w1.cell? ⟨B,1,none⟩=some (.pointer none):=qg i 1
 have E:stOk w1 A 4 32 (qv ze).toArray=true:=qdu f.at_ (by rw[List.size_toArray,m.len f.len];omega) (by rw[List.size_toArray,qaj];exact qo) (by rw[Array.all_eq_true_iff_forall_mem];intro v F;exact qoj _ v (by simpa using F))
 have C:=qb q
 clear z f q i
 go_wp2_with (with_reducible first|(first|refine' tw1 (qh ?_) ?_|refine' tw2 (qh ?_) ?_);rotate_left|refine' tw3 (qh ?_)|rfl|apply tn|refine' tw4 ?_)
 go_end0
 exact⟨rfl,_,qa C,rfl⟩
theorem q0e(x:Fld)(base A:Nat)(m:MsgV)(v:Value)(w:World)(J:qgk base w v x)(i:MsB w A m)(S:A<base) :
  ∃F I,v = .func (.func F) #[] I∧(∀args w,(callFunc F args).run Tryz.prog w = .ok (.enter F args) w)∧Calls Tryz.prog F (#[qg6,.pointer (some ⟨A,0,none⟩)]++I) w fun e w'=>e = .returned (.tuple #[])∧MsB w' A (x.zero m)∧Upd (· = A) w w':=by
 have C:∀(w1:World) (o:Nat) (u:Value) (N:MsgV),qq w w1→m.cells.toArray.setIfInBounds o u=N.cells.toArray→N.hash.length=32→MsB (w1.setCell ⟨A,o,none⟩ u) A N∧Upd (· = A) w (w1.setCell ⟨A,o,none⟩ u):=by
  intro w1 o u N f z E;have O:=i.new f;have:=zv O.at_ o u;rw[z] at this;exact⟨⟨this,E⟩,(f.mono (fun _ _ h=>h.elim)).set1 o u⟩
 have E:=i.len
 cases x with
 | ch =>
  obtain⟨p,q,rfl,L,M,H,K⟩:=J;refine⟨_,_,rfl,enters_of Tryz.func214 (by kernel_rfl) rfl,?_⟩;refine(qvq 203 1 A p q m.ch m w (enters_of Tryz.func203 (by kernel_rfl) rfl) (qnl A) H i rfl).mono ?_;rintro e w' ⟨z,w1,f,rfl⟩;exact⟨z,C w1 1 _ _ f (q62 m 0) E⟩
 | id =>
  obtain⟨p,q,rfl,L,M,H,K⟩:=J;refine⟨_,_,rfl,enters_of Tryz.func200 (by kernel_rfl) rfl,?_⟩;refine(qm4 169 2 A p q m.id m w (enters_of Tryz.func169 (by kernel_rfl) rfl) (qnh A) H i rfl).mono ?_;rintro e w' ⟨z,w1,f,rfl⟩;exact⟨z,C w1 2 _ _ f (q63 m 0) E⟩
 | amount =>
  obtain⟨p,q,rfl,L,M,H,K⟩:=J;refine⟨_,_,rfl,enters_of Tryz.func200 (by kernel_rfl) rfl,?_⟩;refine(qm4 170 3 A p q m.amount m w (enters_of Tryz.func170 (by kernel_rfl) rfl) (qni A) H i rfl).mono ?_;rintro e w' ⟨z,w1,f,rfl⟩;exact⟨z,C w1 3 _ _ f (qo3 m 0) E⟩
 | expiry =>
  obtain⟨p,q,rfl,L,M,H,K⟩:=J;refine⟨_,_,rfl,enters_of Tryz.func201 (by kernel_rfl) rfl,?_⟩;have P:m.cells[36]? = some (.int .i64 m.expiry):=by
   have:=i.cells.2.2.2.2.1;rwa [qg i.at_,List.getElem?_toArray] at this
  refine(qm3 172 36 A p q m.expiry m w (enters_of Tryz.func172 (by kernel_rfl) rfl) (qnj A) H i P).mono ?_;rintro e w' ⟨z,w1,f,rfl⟩;exact⟨z,C w1 36 _ _ f (qo4 m E 0) E⟩
 | number =>
  obtain⟨p,q,rfl,L,M,H,K⟩:=J;refine⟨_,_,rfl,enters_of Tryz.func201 (by kernel_rfl) rfl,?_⟩;have P:m.cells[37]? = some (.int .i64 m.number):=by
   have:=i.cells.2.2.2.2.2.1;rwa [qg i.at_,List.getElem?_toArray] at this
  refine(qm3 173 37 A p q m.number m w (enters_of Tryz.func173 (by kernel_rfl) rfl) (qnk A) H i P).mono ?_;rintro e w' ⟨z,w1,f,rfl⟩;exact⟨z,C w1 37 _ _ f (qo6 m E 0) E⟩
 | hash =>
  have J:v=_:=J;subst J;refine⟨_,_,rfl,enters_of Tryz.func175 (by kernel_rfl) rfl,?_⟩;refine(qs2 A m w i).mono ?_;rintro e w' ⟨z,w1,f,rfl⟩;have O:=i.new f;have R:=qa8 O.at_ 4 (qv ze);rw[qu7 m E ze qo] at R;exact⟨z,⟨R,qo⟩,(f.mono (fun _ _ h=>h.elim)).setCells 4 _⟩
end Go.Proofs.YtfmkdoachjgjbaaGreatDoor
namespace Go.Proofs.YtfmkdoachjgjbaaGreatDoor
open Go.RowKit
theorem qak(n:Int)(F:FuncId)(w:World):Calls Tryz.prog 168 #[.int .i64 n,.func (.func F) #[] #[]] w fun e w'=>∃v,e = .returned v∧qq w w'∧qhe w.heap.size w' v 200 F n:=by
 go_enter Tryz.func168,Tryz.ntmps168;go_wp2_with fail;go_ret;have f:=qj (w.alloc (.cells #[.int .i64 n] 3)) (.cells #[.func (.func F) #[] #[]] 274);rw[World.size_alloc] at f;exact⟨_,rfl,((Upd.refl _ _).alloc _).alloc _,_,_,rfl,by omega,by omega,by rw[qg f];rfl,by rw[qg (qs (qj _ _) _)];rfl⟩
theorem qar(n:Int)(F:FuncId)(w:World):Calls Tryz.prog 171 #[.int .i64 n,.func (.func F) #[] #[]] w fun e w'=>∃v,e = .returned v∧qq w w'∧qhe w.heap.size w' v 201 F n:=by
 go_enter Tryz.func171,Tryz.ntmps171;go_wp2_with fail;go_ret;have f:=qj (w.alloc (.cells #[.int .i64 n] 3)) (.cells #[.func (.func F) #[] #[]] 277);rw[World.size_alloc] at f;exact⟨_,rfl,((Upd.refl _ _).alloc _).alloc _,_,_,rfl,by omega,by omega,by rw[qg f];rfl,by rw[qg (qs (qj _ _) _)];rfl⟩
theorem qk4(n:Int)(F:FuncId)(w:World):Calls Tryz.prog 202 #[.int .i64 n,.func (.func F) #[] #[]] w fun e w'=>∃v,e = .returned v∧qq w w'∧qhe w.heap.size w' v 214 F n:=by
 go_enter Tryz.func202,Tryz.ntmps202;go_wp2_with fail;go_ret;have f:=qj (w.alloc (.cells #[.int .i64 n] 3)) (.cells #[.func (.func F) #[] #[]] 299);rw[World.size_alloc] at f;exact⟨_,rfl,((Upd.refl _ _).alloc _).alloc _,_,_,rfl,by omega,by omega,by rw[qg f];rfl,by rw[qg (qs (qj _ _) _)];rfl⟩
theorem qhe.later{a b:Nat}{w:World}{v:Value}{f F:FuncId}{n:Int}(h:qhe b w v f F n)(i:a≤b):qhe a w v f F n:=by
 obtain⟨p,q,e,m,z,r⟩:=h;exact⟨p,q,e,by omega,by omega,r⟩
theorem qgk.later{a b:Nat}{w:World}{v:Value}{x:Fld}(h:qgk b w v x)(f:a≤b):qgk a w v x:=by
 cases x<;>first | exact qhe.later h f | exact h
structure FldsO(base:Nat)(w:World)(v:Value)(xs:List Fld):Prop where
 row:∃vs:List Value,w.ownsRow base 271 1 v xs.length vs∧vs.length=xs.length∧∀(i:Nat) (x:Fld) (u:Value),xs[i]? = some x→vs[i]? = some u→qgk base w u x
theorem Tryz.zeroFld:((Tryz.prog.info? 271).map fun i=>(i.zero.map (·.cells.size),i.size,decide (i.bytes≤1000)))=some (some 1,1,true):=by kernel_rfl
theorem q46:∃i z b,Tryz.prog.info? 271=some i∧i.zero=some z∧i.size=1∧i.bytes=b∧z.cells.size=1∧b≤1000:=by
 have h:=Tryz.zeroFld;cases q:Tryz.prog.info? 271 with
 | none=>rw[q] at h;cases h
 | some i =>
  rw[q] at h;simp only[Option.map_some,Option.some.injEq,Prod.mk.injEq] at h;obtain⟨f,v,C⟩:=h;cases m:i.zero with
  | none=>rw[m] at f;cases f
  | some z =>
   rw[m] at f;exact⟨i,z,i.bytes,rfl,m,v,rfl,by simpa using f,of_decide_eq_true C⟩
set_option maxRecDepth 100000 in
set_option maxHeartbeats 1000000 in
theorem qf0(g:Nat)(m:List Value)(w:World)(hg:w.heap[g]? = some (.cells m.toArray 271 (0,0)))(h1:∀v∈m,v.oneCell'=true)(hl:m.length≤100) :
  Calls Tryz.prog 174 #[.slice (some ⟨g,0,none⟩) m.length m.length] w fun e w'=>∃v c,e = .returned (.tuple #[v,.bool true])∧qq w w'∧w'.ownsRow w.heap.size 271 1 v (1+m.length) (c::m)∧qgk w.heap.size w' c .ch:=by
 obtain⟨i9,z9,b9,M,T,P,R,S,L⟩:=q46
 have Z:=qk4 4 203 w
 go_enter Tryz.func174,Tryz.ntmps174
 go_wp2_with fail
 refine Z.mono ?_
 rintro e w1 ⟨c,rfl,K,p,q,rfl,hp,hq,W,X⟩
 clear Z
 have lp:=World.block_lt_of_cell? w1 _ W
 have lq:=World.block_lt_of_cell? w1 _ X
 change p<_ at lp
 change q<_ at lq
 obtain⟨c,E⟩:∃c:Value,c = .func (.func 214) #[] #[.pointer (some ⟨p,0,none⟩),.pointer (some ⟨q,0,none⟩)]:=⟨_,rfl⟩
 have I:=qb E
 have z:(w1.alloc (.cells #[c] 271)).ownsRow w.heap.size 271 1 (.slice (some ⟨w1.heap.size,0,none⟩) 1 1) 1 [c] :=
  ⟨rfl,.inr ⟨w1.heap.size,1,#[c],rfl,K.size,qj _ _,Nat.le_refl _,by decide,rfl,rfl⟩⟩
 have F:(w1.alloc (.cells #[c] 271)).heap[g]? = some (.cells m.toArray 271 (0,0)):=(K.alloc (.cells #[c] 271)).old hg (fun h=>h)
 rw[E] at z F
 clear E
 go_wp2_with (at_builtin;refine wpList_append_own _ rfl (.tmp 7) (.tmp 8) 226 rfl w.heap.size 271 i9 _ 1 b9 Tryz.underlying226 M T P R S (by decide) _ _ _ rfl z ⟨g,0,none⟩ m.length m.length m rfl (by rw[Nat.mul_one]) ?c1 h1 ?c3 ?c4 ?c5 ?_)
 case c1=>exact World.news_of_block (cs:=m.toArray) (fr:=(0,0)) F
 case c3=>unfold maxLen;omega
 case c4=>have:=Nat.mul_le_mul (show 1+m.length≤101 by omega) L;omega
 case c5=>have:=K.size;rw[World.size_alloc];omega
 intro v' V i f _
 obtain⟨wa,H⟩:∃wa:World,wa=w1.alloc (.cells #[.func (.func 214) #[] #[.pointer (some ⟨p,0,none⟩),.pointer (some ⟨q,0,none⟩)]] 271):=⟨_,rfl⟩
 have C:qq w1 wa:=by rw[H];exact(Upd.refl _ _).alloc _
 rw[←H] at f
 have Y:qq w V:=(K.trans C).grown f (fun k N O=>by
  simp only[Value.ownBlock,Option.some.injEq] at N;have:=K.size;omega)
 have U:Upd (fun k=>k=w1.heap.size) wa V:=(Upd.refl _ _).grown f (fun k N O=>by
  simp only[Value.ownBlock,Option.some.injEq] at N;omega)
 have J:qgk w.heap.size V c .ch:=by
  exact⟨p,q,qa I,hp,hq,U.cell (C.cell W (fun h=>h)) (by show ¬p=_;omega),U.cell (C.cell X (fun h=>h)) (by show ¬q=_;omega)⟩
 rw[←qa I] at i
 have HO:=qb i
 have HC:=qb J
 have HN:=qb Y
 clear i f J Y U z F C H
 go_wp2_with fail
 go_ret2
 exact⟨_,c,rfl,qa HN,qa HO,qa HC⟩
set_option maxRecDepth 100000 in
set_option maxHeartbeats 1000000 in
theorem qql(w:World) :
  Calls Tryz.prog 174 #[.slice none 0 0] w fun e w'=>∃v c,e = .returned (.tuple #[v,.bool true])∧qq w w'∧w'.ownsRow w.heap.size 271 1 v 1 [c]∧qgk w.heap.size w' c .ch:=by
 have i:=qk4 4 203 w
 go_enter Tryz.func174,Tryz.ntmps174
 go_wp2_with fail
 refine i.mono ?_
 rintro e w1 ⟨c,rfl,m,p,q,rfl,E,F,z,C⟩
 clear i
 go_wp2_with fail
 go_ret2
 have f:qq w1 (w1.alloc (.cells #[.func (.func 214) #[] #[.pointer (some ⟨p,0,none⟩),.pointer (some ⟨q,0,none⟩)]] 271)):=(Upd.refl _ _).alloc _
 exact⟨_,_,rfl,m.trans f,⟨rfl,.inr ⟨w1.heap.size,1,_,rfl,m.size,qj _ _,Nat.le_refl _,by decide,rfl,rfl⟩⟩,⟨p,q,rfl,E,F,f.cell z (fun h=>h),f.cell C (fun h=>h)⟩⟩
end Go.Proofs.YtfmkdoachjgjbaaGreatDoor
