/-
  The shelf: Insert.
-/
import Derived.Test.YtfmkdoachjgjbaaGreatDoorMbf
import Derived.Test.YtfmkdoachjgjbaaGreatDoorMbb
import Derived.Test.YtfmkdoachjgjbaaGreatDoorMah
import Derived.Test.YtfmkdoachjgjbaaGreatDoorMbd
set_option maxRecDepth 100000
set_option maxHeartbeats 2000000
set_option linter.unusedVariables false
set_option linter.unusedSimpArgs false
namespace Go.Proofs.YtfmkdoachjgjbaaGreatDoor
section
open Go.RowKit
theorem qqr(P Z R Q:List Value)(o:Nat)(m:P.length=o)(h:Z.length=Q.length):qi4 (P++(Z++R)).toArray o Q=(P++(Q++R)).toArray:=by
 apply Array.ext';apply List.ext_getElem?;intro j;have f:(P++(Z++R)).toArray.size=P.length+(Z.length+R.length):=by simp
 rw[Array.getElem?_toList,qg9 _ _ _ _ (by rw[f];omega),List.getElem?_toArray];by_cases i:o≤j∧j<o+Q.length
 ·rw[if_pos i,List.getElem?_append_right (by omega),List.getElem?_append_left (by omega),m]
 ·rw[if_neg i];by_cases q:j<o
  ·rw[List.getElem?_append_left (by omega),List.getElem?_append_left (by omega)]
  ·rw[List.getElem?_append_right (by omega),List.getElem?_append_right (by omega),List.getElem?_append_right (by omega),List.getElem?_append_right (by omega),h]
theorem qy7(X:List KeptV){i:Nat}{x:KeptV}(h:X[i]? = some x):X.flatMap KeptV.cells=(X.take i).flatMap KeptV.cells++(x.cells++(X.drop (i+1)).flatMap KeptV.cells):=by
 have f:=(List.getElem?_eq_some_iff.1 h).1;have m:=(List.getElem?_eq_some_iff.1 h).2
 conv=>lhs;rw[←List.take_append_drop i X]
 rw[List.flatMap_append,List.drop_eq_getElem_cons f,m,List.flatMap_cons]
theorem ChP.putKept{w:World}{g:Nat}{S:Nat→Prop}{c:Ch}{f r m:Value}(h:ChP w g S c f r m){i:Nat}{p k:KeptV}(K:c.shelf[i]? = some p)(C:k.told.length=32) :
  stOk w g (48+i*34) 34 k.cells.toArray=true∧ChP (w.setCells g (48+i*34) k.cells) g S {c with shelf:=c.shelf.set i k} f r m:=by
 have Z:=h.ok.s.seed
 have L:=(List.getElem?_eq_some_iff.1 K).1
 have V:=h.ok.shelf.2 p (List.mem_of_getElem? K)
 have J:c.s.cells.length=37:=c.s.len Z
 have I:=h.ok.shelf.1
 have E:(c.s.cells++(c.k.cells++[.int .u64 c.loc,.int .u64 c.rem,f])).length=48:=by
  rw[List.length_append,List.length_append,J];rfl
 have O:((c.shelf.take i).flatMap KeptV.cells).length=i*34:=by
  rw[qhl _ (fun q M=>h.ok.shelf.2 q (List.mem_of_mem_take M)),List.length_take,Nat.min_eq_left (by omega)]
 have H:∀(s:List KeptV),(({c with shelf:=s} : Ch).v f r m).cells=(c.s.cells++(c.k.cells++[.int .u64 c.loc,.int .u64 c.rem,f]))++(s.flatMap KeptV.cells++[r,m]):=by
  intro s;show c.s.cells++(c.k.cells++(Value.int .u64 c.loc :: .int .u64 c.rem::f::(s.flatMap KeptV.cells++[r,m])))=_;simp
 have R:(c.v f r m).cells=((c.s.cells++(c.k.cells++[.int .u64 c.loc,.int .u64 c.rem,f]))++(c.shelf.take i).flatMap KeptV.cells)++(p.cells++((c.shelf.drop (i+1)).flatMap KeptV.cells++[r,m])):=by
  refine(H c.shelf).trans ?_;rw[qy7 c.shelf K];simp only[List.append_assoc]
 have F:(c.shelf.set i k)[i]? = some k:=by rw[List.getElem?_set_self L]
 have X:(({c with shelf:=c.shelf.set i k} : Ch).v f r m).cells=((c.s.cells++(c.k.cells++[.int .u64 c.loc,.int .u64 c.rem,f]))++(c.shelf.take i).flatMap KeptV.cells)++(k.cells++((c.shelf.drop (i+1)).flatMap KeptV.cells++[r,m])):=by
  refine(H _).trans ?_;rw[qy7 (c.shelf.set i k) F,List.take_set_of_le (Nat.le_refl _),List.drop_set_of_lt (by omega)];simp only[List.append_assoc]
 have U:((c.s.cells++(c.k.cells++[.int .u64 c.loc,.int .u64 c.rem,f]))++(c.shelf.take i).flatMap KeptV.cells).length=48+i*34:=by
  rw[List.length_append,E,O]
 have N:48+i*34+34≤(c.v f r m).cells.toArray.size:=by
  rw[List.size_toArray,R,List.length_append,U,List.length_append,p.len V];omega
 have z:=qba h.at_ (48+i*34) k.cells
 rw[R,qqr _ _ _ _ _ U (by rw[p.len V,k.len C]),←X] at z
 refine⟨qd0 h.at_ N (by rw[List.size_toArray,k.len C]) (by rw[Array.all_eq_true_iff_forall_mem];intro v hv;exact k.one v (by simpa using hv)),?_⟩
 have u:Upd (· = g) w (w.setCells g (48+i*34) k.cells):=(Upd.refl _ _).setCells _ _
 have P:∀ {T:TypeId} {v:Value} {n:Nat} {xs:List Value},T≠126→w.ownsRow 0 T 38 v n xs→∀k,v.ownBlock=some k→¬k=g:=by
  intro T v n xs Y hr k C e;obtain⟨W,H⟩:=qa3 hr k C;exact qbe H h.at_ Y e
 refine⟨z,⟨h.ok.s,h.ok.signed,h.ok.heard,h.ok.nextOwn,h.ok.nextTheirs,h.ok.loc,h.ok.rem,h.ok.xs,h.ok.few,?_,h.ok.news,h.ok.last,h.ok.many⟩,?_,?_,?_,h.inG,h.inL,h.inN,h.inA,h.sep,fun k C=>Nat.lt_of_lt_of_le (h.lt k C) u.size⟩
 ·refine⟨by show (c.shelf.set i k).length=17;rw[List.length_set];exact I,fun q M=> ?_⟩;rcases List.mem_or_eq_of_mem_set M with e | e
  ·exact h.ok.shelf.2 q e
  ·rw[e];exact C
 ·exact qac h.live u (P (by decide) h.live)
 ·exact qac h.news u (P (by decide) h.news)
 ·exact qac h.last u (P (by decide) h.last)
attribute [local go_sem ↓ high] zl qag qaj qar qmt qm1 qmb qmc qi8
attribute [local go_sem] qbl qcl qcn qdm qx q6b q7r q3u qmd
def qee(told:List Int)(i:Int)(ps:List KeptV):Int:=if qkp i i=false then 1 else if (qk4 told i (ps.take (qbr i))).isSome=true then 50 else 0
def qi3(told:List Int)(i:Int)(ps:List KeptV):List KeptV:=if qee told i ps=0 then ps.set (qbr i) ⟨true,i,told⟩ else ps
theorem qxh(g:Nat)(S:Nat→Prop)(c:Ch)(lv nv av:Value)(told:List Int)(ht:told.length=32)(hb:qbm told)(i:Int)(w:World)(h:ChP w g S c lv nv av)(b6:∀p∈c.shelf,qbm p.told)(hT:Tabs w)(hD:Deb w) :
  Calls Tryz.prog 206 #[.pointer (some ⟨g,48,none⟩),.int .i64 i,.agg (qu told).toArray] w fun e w' =>
   e = .returned (.int .i64 (qee told i c.shelf))∧ChP w' g S {c with shelf:=qi3 told i c.shelf} lv nv av∧Upd (· = g) w w':=by
 go_enter Tryz.func206,Tryz.ntmps206
 go_upto_region 1 with fail
 have z:((w.alloc (.cells #[.int .i64 i] 3)).alloc (.cells (qu told).toArray 35)).cell? ⟨w.heap.size,0,none⟩=some (.int .i64 i):=by
  rw[qg (qs (qj _ _) _)];rfl
 have X:=qb7 (w.alloc (.cells #[.int .i64 i] 3)) told ht
 rw[World.size_alloc] at X
 have M:qq w ((w.alloc (.cells #[.int .i64 i] 3)).alloc (.cells (qu told).toArray 35)):=((Upd.refl _ _).alloc _).alloc _
 generalize (w.alloc (.cells #[.int .i64 i] 3)).alloc (.cells (qu told).toArray 35)=w1 at z X M ⊢
 have a7:=h.lt g h.inG
 obtain⟨I,Z⟩:∃I,I=w.heap.size:=⟨_,rfl⟩
 obtain⟨A,Y⟩:∃A,A=w.heap.size+1:=⟨_,rfl⟩
 rw[←Y] at X ⊢
 rw[←Z] at z ⊢
 have c1:g≠A:=by omega
 have c2:g≠I:=by omega
 clear Z Y a7
 have F:=qy3 i i w1 (hD.new M)
 have U:=qb (h.new M)
 have HA:=qb X
 have HT:=qb (hT.new M)
 have HD:=qb (hD.new M)
 have HN:=qb M
 have b8:=h.ok.shelf.1
 have a8:qee told i c.shelf=if qkp i i=false then 1 else if (qk4 told i (c.shelf.take (qbr i))).isSome=true then 50 else 0:=rfl
 have b3:qi3 told i c.shelf=if qee told i c.shelf=0 then c.shelf.set (qbr i) ⟨true,i,told⟩ else c.shelf:=rfl
 have f:=qb a8
 have m:=qb b3
 have c3:=qjs i
 clear h X hT hD M a8 b3
 go_wp2_with fail
 refine F.mono ?_
 rintro e w2 ⟨rfl,q2⟩
 have q:=q2.cell z
 have O:qq w1 w2:=q2.upd _
 clear F z
 cases hc:qkp i i with
 | false =>
  rw[hc,if_pos rfl] at f;rw[qa f,if_neg (by decide)] at m;have V:=qb (((qa HN).trans O).mono (T:=(· = g)) (fun _ _ h=>h.elim));have H2:=qb ((qa U).new O);clear q2 O q;go_wp2_with fail;go_ret;rw[qa m,qa f];exact⟨rfl,qa H2,qa V⟩
 | true =>
  rw[hc,if_neg (by decide)] at f;have hp:=qic i w2 ((qa HD).new O);go_upto_region 3 with fail;have N2:=qb O;clear q2 O;go_wp2_with fail;refine hp.mono ?_;rintro e w3 ⟨rfl,q3⟩;have R:qq w1 w3:=(qa N2).trans (q3.upd _);have r:=q3.cell q;have b4:=qxr g S c lv nv av (qbr i) told ht hb i A I w3 ((qa U).new R) b6 (by omega) ((qa HA).new R) r ((qa HT).new R) ((qa HD).new R);have N3:=qb R;clear hp R q3 q hc;have b7:(q1s told i (c.shelf.take (qbr i))).told.length=32:=by
   unfold q1s;cases e:qk4 told i (c.shelf.take (qbr i)) with
   | none=>exact KeptV.zero_len
   | some p =>
    unfold qk4 at e;exact(qa U).ok.shelf.2 p (List.mem_of_mem_take (List.mem_of_find?_eq_some e))
  generalize q1s told i (c.shelf.take (qbr i))=K at *
  generalize qk4 told i (c.shelf.take (qbr i))=L at *
  generalize qbr i=P at *
  go_upto_region 4 with fail;go_wp2_with fail;refine b4.mono ?_;rintro e J ⟨rfl,n4⟩;have C:=n4.cell r (fun h=>h);have ha:=qkz J KeptV.zero KeptV.zero_len;have b5:=ha.stOk b7;have v:qq J ((J.alloc (.cells KeptV.zero.cells.toArray 120)).setCells J.heap.size 0 K.cells):=(((Upd.refl (fun _=>False) J).alloc _)).then (zc _) (fun i hi e=>by omega);have n5:=((qa N3).trans n4).trans v;have E:=v.cell C (fun h=>h);have N:=qb n5;clear b4 n4 ha v n5 r C;go_upto_region 5 with fail;generalize (J.alloc (.cells KeptV.zero.cells.toArray 120)).setCells J.heap.size 0 K.cells=w5 at E N ⊢;clear b5;generalize J.heap.size=k5;cases hL:L.isSome with
  | true =>
   rw[hL,if_pos rfl] at f;rw[qa f,if_neg (by decide)] at m;have V:=qb (((qa HN).trans (qa N)).mono (T:=(· = g)) (fun _ _ h=>h.elim));have H5:=qb ((qa U).new (qa N));clear E;go_wp2_with fail;go_ret;rw[qa m,qa f];exact⟨rfl,qa H5,qa V⟩
  | false =>
   rw[hL,if_neg (by decide)] at f;rw[qa f,if_pos rfl] at m;go_upto_region 7 with fail;have nd:qq w5 w5.drew:=(Upd.refl _ _).drew;have a6:=((qa U).new (qa N)).new nd;obtain⟨p,hp⟩:∃p,c.shelf[P]? = some p:=⟨_,List.getElem?_eq_getElem (by omega)⟩;obtain⟨b5,H⟩:=a6.putKept hp (k:=⟨true,i,told⟩) ht;have c0:=fun W=>zbd true i told ht W
   have rA:=((qa HA).new (qa N)).row;have HP:=qb H;have u6:Upd (· = g) w5.drew (w5.drew.setCells g (48+P*34) (KeptV.cells ⟨true,i,told⟩)):=(Upd.refl _ _).setCells _ _;have V:=qb (((((qa HN).trans (qa N)).trans nd).mono (T:=(· = g)) (fun _ _ h=>h.elim)).trans u6);have b9:(P:Int)≤16:=by omega
   clear H a6 hp nd u6;go_wp2_with (with_reducible first|(first|refine' tw1 (qh ?_) ?_|refine' tw2 (qh ?_) ?_);rotate_left|refine' tw3 (qh ?_)|rfl|apply tn|refine' tw4 ?_);go_ret;rw[qa m,qa f];exact⟨rfl,qa HP,qa V⟩
end
section
open Go.RowKit
structure Tb(w:World):Prop where
 glob:Glob w
 spans:Spans w
 tabs:Tabs w
 deb:Deb w
structure Apart(S:Nat→Prop):Prop where
 a:¬S 0
 b:¬S 2
 c:¬S 4
 d:¬S 1
 e:¬S 6
theorem Tb.upd{S:Nat→Prop}{w w':World}(h:Tb w)(u:Upd S w w')(a:Apart S):Tb w':=⟨h.glob.upd u a.a,h.spans.upd u a.b,h.tabs.upd u a.c a.d,h.deb.upd u a.e⟩
theorem Tb.new{w w':World}(h:Tb w)(u:qq w w'):Tb w':=⟨h.glob.new u,h.spans.new u,h.tabs.new u,h.deb.new u⟩
theorem Tb.lt{w:World}(h:Tb w):0<w.heap.size∧2<w.heap.size∧4<w.heap.size∧1<w.heap.size∧6<w.heap.size :=
 ⟨World.block_lt_of_cell? w _ (h.glob.events 0 (by decide)),World.block_lt_of_cell? w _ (h.spans.spans 0 (by decide)),h.tabs.lt.1,h.tabs.lt.2,World.block_lt_of_cell? w _ (h.deb.tab 0 (by decide))⟩
theorem Apart.fr{S:Nat→Prop}{w:World}(h:Apart S)(t:Tb w)(w':World):Apart (Fr S w w'):=by
 obtain⟨a,b,c,d,e⟩:=t.lt;refine⟨?_,?_,?_,?_,?_⟩
 ·rintro (k | k)
  ·exact h.a k
  ·omega
 ·rintro (k | k)
  ·exact h.b k
  ·omega
 ·rintro (k | k)
  ·exact h.c k
  ·omega
 ·rintro (k | k)
  ·exact h.d k
  ·omega
 ·rintro (k | k)
  ·exact h.e k
  ·omega
theorem Apart.mono{S T:Nat→Prop}(h:Apart S)(st:∀k,T k→S k):Apart T:=⟨fun k=>h.a (st _ k),fun k=>h.b (st _ k),fun k=>h.c (st _ k),fun k=>h.d (st _ k),fun k=>h.e (st _ k)⟩
structure Tc(w:World):Prop where
 glob:Glob w
 spans:Spans w
 tabs:Tabs w
structure ApC(S:Nat→Prop):Prop where
 a:¬S 0
 b:¬S 2
 c:¬S 4
 d:¬S 1
theorem Tb.c{w:World}(h:Tb w):Tc w:=⟨h.glob,h.spans,h.tabs⟩
theorem Apart.cc{S:Nat→Prop}(h:Apart S):ApC S:=⟨h.a,h.b,h.c,h.d⟩
theorem Tc.upd{S:Nat→Prop}{w w':World}(h:Tc w)(u:Upd S w w')(a:ApC S):Tc w':=⟨h.glob.upd u a.a,h.spans.upd u a.b,h.tabs.upd u a.c a.d⟩
theorem Tc.new{w w':World}(h:Tc w)(u:qq w w'):Tc w':=⟨h.glob.new u,h.spans.new u,h.tabs.new u⟩
theorem ApC.mono{S T:Nat→Prop}(h:ApC S)(st:∀k,T k→S k):ApC T:=⟨fun k=>h.a (st _ k),fun k=>h.b (st _ k),fun k=>h.c (st _ k),fun k=>h.d (st _ k)⟩
structure ApD(S:Nat→Prop):Prop where
 c:¬S 4
 d:¬S 1
theorem Fr.comp{S:Nat→Prop}{w1 f i:World}(h:w1.heap.size≤f.heap.size)(m:f.heap.size≤i.heap.size):∀k,Fr (Fr S w1 f) f i k→Fr S w1 i k:=by
 rintro k ((h | h) | h)
 ·exact .inl h
 ·exact .inr ⟨h.1,by omega⟩
 ·exact .inr ⟨by omega,h.2⟩
theorem Upd.fr{S:Nat→Prop}{w1 f m:World}(u:Upd S w1 f)(v:Upd (Fr S w1 f) f m):Upd S w1 m:=u.then v fun i q h=>by
 rcases h with h | h
 ·exact h
 ·omega
theorem ChS.comp{S:Nat→Prop}{w1 m i:World}{g:Nat}{c:Ch}(h:ChS i g (Fr (Fr S w1 m) m i) c)(q:w1.heap.size≤m.heap.size)(r:m.heap.size≤i.heap.size):ChS i g (Fr S w1 i) c:=by
 obtain⟨a,b,d,h⟩:=h;refine⟨a,b,d,h.wider (Fr.comp q r) (fun k f=> ?_)⟩;have:=h.lt g h.inG;rcases f with f | f
 ·exact h.lt k (.inl (.inl f))
 ·exact f.2
theorem ChS.frW{S:Nat→Prop}{w1 f:World}{g:Nat}{c:Ch}(h:ChS f g S c):ChS f g (Fr S w1 f) c:=by
 obtain⟨a,b,d,h⟩:=h;exact h.fr w1
theorem ChS.later{S:Nat→Prop}{w1 m i:World}{g:Nat}{c:Ch}(h:ChS i g (Fr S m i) c)(q:w1.heap.size≤m.heap.size):ChS i g (Fr S w1 i) c:=by
 obtain⟨a,b,d,h⟩:=h;refine⟨a,b,d,h.wider (fun k f=> ?_) (fun k f=> ?_)⟩
 ·rcases f with f | f
  ·exact .inl f
  ·exact .inr ⟨by omega,f.2⟩
 ·rcases f with f | f
  ·exact h.lt k (.inl f)
  ·exact f.2
theorem ChS.grow{S:Nat→Prop}{w0 w1 i:World}{g:Nat}{c:Ch}(h:ChS i g (Fr S w0 w1) c)(m:w1.heap.size≤i.heap.size):ChS i g (Fr S w0 i) c:=by
 obtain⟨a,b,d,h⟩:=h;refine⟨a,b,d,h.wider (fun k f=> ?_) (fun k f=> ?_)⟩
 ·rcases f with f | f
  ·exact .inl f
  ·exact .inr ⟨f.1,by omega⟩
 ·rcases f with f | f
  ·exact h.lt k (.inl f)
  ·exact f.2
def qf8(n:Nat)(s:ByteArray):ByteArray:=qw n 8++qw s.size 2++s
def qsu(n:Nat)(s:ByteArray):ByteArray:=qf8 n s++qym (qf8 n s)
theorem qmq(n:Nat)(s:ByteArray):(qf8 n s).size=10+s.size:=by
 unfold qf8;rw[ByteArray.size_append,ByteArray.size_append,qat,qat]
theorem ql2(n:Nat)(s:ByteArray):(qsu n s).size=14+s.size:=by
 unfold qsu;rw[ByteArray.size_append,qmq,qq8];omega
theorem q53(n:Nat)(s:ByteArray)(w:World)(hn:n<2 ^ 64)(hs:s.size≤1024)(S:Tabs w) :
  Calls Tryz.prog 148 #[.int .u64 n,.string s] w (qa7 (.tuple #[.string (qsu n s),.int .i64 0]) w):=by
 have E:IntKind.u64.wrap (s.size:Int)=s.size:=qgs (by omega) (by omega)
 have m:=qmq n s
 have i:=qq8 (qf8 n s)
 have M:(⟨#[]⟩:ByteArray)++qw n 8=qw n 8:=ByteArray.empty_append
 have H:=qb (qat n 8)
 have N:(qw n 8++qw s.size 2).size=10:=by rw[ByteArray.size_append,qat,qat]
 have X:=qb N
 have I:=qb (show qw n 8++qw s.size 2++s=qf8 n s from rfl)
 have J:=qb (show qf8 n s++qym (qf8 n s)=qsu n s from rfl)
 have q:=qb (And.intro m i)
 clear N m i
 go_enter Tryz.func148,Tryz.ntmps148
 go_upto_region 2 with fail
 have b1:Wr (w.alloc (.cells #[.string ⟨#[]⟩] 174)) w.heap.size ⟨#[]⟩:=qj _ _
 have F:qq w (w.alloc (.cells #[.string ⟨#[]⟩] 174)):=(Upd.refl _ _).alloc _
 generalize w.alloc (.cells #[.string ⟨#[]⟩] 174)=w1 at b1 F ⊢
 have K:=qb F
 generalize R:w.heap.size=B at b1 ⊢
 have r:=qb R
 clear F R
 have f:=qds B n 8 ⟨#[]⟩ w1 b1 (by decide) (by decide) hn (by show (0:Nat)≤_;omega)
 rw[M] at f
 clear M b1
 go_wp2_with fail
 refine f.mono ?_
 rintro e w2 ⟨rfl,V,O⟩
 have L:=qb ((qa K).then V (fun k Z e=>by have:=qa r;omega))
 have f:=qds B s.size 2 (qw n 8) w2 O (by decide) (by decide) (by show s.size<65536;omega) (by have:=qa H;omega)
 clear V O K
 go_wp2_with fail
 refine f.mono ?_
 rintro e w3 ⟨rfl,W,P⟩
 have v:=qb ((qa L).then W (fun k Z e=>by have:=qa r;omega))
 clear f W L E
 go_wp2_with fail
 refine(qf3 _ _ _ P).mono ?_
 rintro e w4 ⟨rfl,rfl⟩
 have T:=q54 (qf8 n s) w3 (by have:=(qa q).1;omega) (S.new (qa v))
 have z:(qf8 n s).size≤1034:=by have:=(qa q).1;omega
 have C:=(qa q).2
 have a6:=qa X
 clear P S
 generalize qw n 8++qw s.size 2=a at *
 go_wp2_with fail
 rw[qa I]
 refine T.mono ?_
 rintro e w5 ⟨rfl,U⟩
 have Y:=qb ((qa v).trans U)
 clear T U v r H
 go_wp2_with fail
 rw[qa J]
 clear J q z C I
 generalize qf8 n s=hv
 generalize qsu n s=pv
 generalize qym hv=sv
 go_ret2
 exact⟨rfl,qa Y⟩
def Jo.app(j:Jo)(s:ByteArray):Jo:= {j with bs:=j.bs++qsu j.many.toNat s,many:=j.many+1}
theorem q7i{w:World}{g:Nat}{S:Nat→Prop}{j:Jo}(h:JoS w g S j)(n:Int):JoS (w.setCell ⟨g,2,none⟩ (.int .i64 n)) g S {j with many:=n} := by
 obtain⟨p,buf,h⟩:=h;have u:Upd (· = g) w (w.setCell ⟨g,2,none⟩ (.int .i64 n)):=(Upd.refl _ _).set1 _ _;refine⟨p,buf,qad h.at_ 2 _,h.addr,qac h.row u ?_,h.inG,h.inB,fun k f=>Nat.lt_of_lt_of_le (h.lt k f) u.size⟩;intro k f e;obtain⟨i,m⟩:=qa3 h.row k f;exact qbe m h.at_ (by decide) e
theorem JoS.wider{w:World}{g:Nat}{S T:Nat→Prop}{j:Jo}(h:JoS w g S j)(i:∀k,S k→T k)(f:∀k,T k→k<w.heap.size):JoS w g T j:=by
 obtain⟨p,b,h⟩:=h;exact⟨p,b,h.wider i f⟩
def zcp(g:Nat)(S:Nat→Prop)(j:Jo)(s:ByteArray)(w0:World)(i:Nat)(w:World):Prop:=(i=0→w=w0)∧(i=1→JoS w g (Fr S w0 w) (j.app s)∧Upd S w0 w)
theorem qmp(g b:Nat)(S:Nat→Prop)(j:Jo)(s:ByteArray)(w:World)(h:JoS w g S j)(hf:j.fused=false)(ho:j.off=false)(hs:s.size≤1024)(N:0≤j.many∧j.many<1099511627776)(R:j.bs.size≤1099511627776)(hT:Tabs w)(hb:w.cell? ⟨b,0,none⟩=some (.string s))(a6:¬S b) :
  Calls Tryz.prog 113 #[.pointer (some ⟨g,0,none⟩),.slice (some ⟨b,0,none⟩) 1 1] w fun e w'=>e = .returned (.int .i64 0)∧JoS w' g (Fr S w w') (j.app s)∧Upd S w w':=by
 obtain⟨p,buf,I⟩:=h
 have Y:w.cell? ⟨g,5,none⟩=some (.bool false):=ho▸qg I.at_ 5
 have f:w.cell? ⟨g,2,none⟩=some (.int .i64 j.many):=qg I.at_ 2
 have Z:=I.inG
 have H:=qb (show JoS w g S j from⟨p,buf,I⟩)
 obtain⟨m,r⟩:=Int.eq_ofNat_of_zero_le N.1
 have b3:IntKind.u64.wrap (m:Int)=(m:Int):=qgs (by omega) (by omega)
 rw[r] at f
 have q:=fun w' (n':qq w w')=>q53 m s w' (by omega) hs (hT.new n')
 have a8:=ql2 m s
 have a7:m<1099511627776:=by omega
 have F:=qb r
 have HM:=qb N
 clear I r N
 go_enter Tryz.func113,Tryz.ntmps113
 go_wp2_with fail
 go_loopw [13] (fun z wr=>∃i:Nat,z = .int .i64 (i:Int)∧i≤1∧wr=w) (fun z _=>1-(intOf z).toNat)
 case atStart=>exact⟨0,rfl,by omega,rfl⟩
 case round =>
  obtain⟨i,rfl,hi,rfl⟩:=hrel;rcases (by omega:i=0∨i=1) with rfl | rfl
  ·go_wp2_with fail;go_roundw
   case rel=>exact⟨1,rfl,by omega,by trivial⟩
   case measure=>simp[intOf]
  ·rw[show ((1:Nat):Int)=1 from rfl];go_wp2_with fail
   go_loopw [27] (fun z O=>∃i:Nat,z = .int .i64 (i:Int)∧i≤1∧Hid (zcp g S j s wr i O)) (fun z _=>1-(intOf z).toNat)
   case atStart=>exact⟨0,rfl,by omega,qb ⟨fun _=>rfl,fun e=>by cases e⟩⟩
   case round =>
    obtain⟨i,rfl,hi,hrel⟩:=hrel;rcases (by omega:i=0∨i=1) with rfl | rfl
    ·obtain rfl:=(qa hrel).1 rfl;clear hrel;rw[show ((0:Nat):Int)=0 from rfl];go_wp2_with fail;refine(q _ (Upd.refl _ _)).mono ?_;rintro e w1 ⟨rfl,E⟩;have U:=qxj g S j (qsu m s) w1 ((qa H).new E) hf (by omega);have W:=qb E;clear E q hb Y f;go_wp2_with fail;refine U.mono ?_;rintro e K ⟨rfl,P,J⟩;have T:JoS (K.setCell ⟨g,2,none⟩ (.int .i64 ((m:Int)+1))) g (Fr S w1 K) (j.app s):=by
      have:=q7i P ((m:Int)+1);unfold Jo.app;rw[qa F,Int.toNat_natCast];exact this
     have v:Upd (· = g) K (K.setCell ⟨g,2,none⟩ (.int .i64 ((m:Int)+1))):=(Upd.refl _ _).set1 _ _;have L:=qb v;have M:=qb v.size;obtain⟨p2,b2,f⟩:=P;have d2:K.cell? ⟨g,2,none⟩=some (.int .i64 (m:Int)):=by have:=qa F;rw[←this];exact qg f.at_ 2
     have f2:=qv f.at_ 2;have V:=qb T;have X:=qb J;clear U T f J v;go_wp2_with fail;go_roundw
     case rel =>
      have E:=qa W;have J:=qa X;have z3:=qa M;have z1:=E.size;have z2:=J.size;have hz:=(qa H).lt;refine⟨1,rfl,by omega,qb ⟨(fun e=>by cases e),fun _=>⟨(qa V).wider ?_ ?_,?_⟩⟩⟩
      ·rintro k (C | C)
       ·exact .inl C
       ·exact .inr ⟨by omega,by omega⟩
      ·rintro k (C | C)
       ·have:=hz k C;omega
       ·exact C.2
      ·exact((E.mono (fun _ _ h=>h.elim)).trans J).trans ((qa L).mono (fun k _ e=>by rw[e];exact Z))
     case measure=>simp[intOf]
    ·go_wp2_with fail;go_ret;exact⟨rfl,(qa hrel).2 rfl⟩
structure LinkV where
 sp:Nat
 en:Nat
 lo:Nat
 out:ByteArray
 events:Value
 ticks:Int
 dead:Bool
 broken:Bool
 waits:Bool
def zb8(g:Nat):Value:= .pointer (some ⟨g,0,none⟩)
def LinkV.cells(l:LinkV):List Value:=[zb8 l.sp,zb8 l.en,zb8 l.lo,.string l.out,l.events,.int .i64 l.ticks,.bool l.dead,.bool l.broken,.bool l.waits]
def LkR(w:World)(g:Nat)(l:LinkV):Prop:=w.heap[g]? = some (.cells l.cells.toArray 107 (0,0))
def SpR(w:World)(g:Nat)(s:ByteArray):Prop:=w.heap[g]? = some (.cells #[.string s] 169 (0,0))
def LinkV.new(sp en lo:Nat):LinkV:=⟨sp,en,lo,⟨#[]⟩,qcu,0,false,false,false⟩
structure NewL(w:World)(B g:Nat)(s:SetupV)(l:LinkV):Prop where
 isNew:l = .new l.sp l.en l.lo
 lk:LkR w g l
 sp:SpR w l.sp ⟨#[]⟩
 ch:ChR w l.en (.new s)
 jo:JoR w l.lo .new
 ge:B≤g∧B≤l.sp∧B≤l.en∧B≤l.lo
 ne:l.en<l.lo∧l.lo<l.sp∧l.sp<g
attribute [local go_sem ↓ high] qb5
attribute [local go_sem] qeg
theorem qo0(s:SetupV)(R:s.Ok)(w:World):Calls Tryz.prog 43 #[.agg s.cells.toArray] w fun e w' =>
  (s.may∧∃g l,e = .returned (.pointer (some ⟨g,0,none⟩))∧NewL w' w.heap.size g s l∧qq w w')∨(¬s.may∧e = .returned (.pointer none)∧qq w w'):=by
 go_enter Tryz.func43,Tryz.ntmps43
 go_upto_region 1 with fail
 have J:qtd (w.alloc (.cells s.cells.toArray 78)) w.heap.size s:=qj _ _
 have F:qq w (w.alloc (.cells s.cells.toArray 78)):=(Upd.refl _ _).alloc _
 generalize w.alloc (.cells s.cells.toArray 78)=w1 at J F ⊢
 have q:=J.row R.seed
 go_wp2_with fail
 refine(q6p s R _).mono ?_
 rintro e Z (⟨z,g,rfl,P,v,r⟩ | ⟨z,rfl,r⟩)
 ·replace r:=F.trans r;have N:w.heap.size≤g:=Nat.le_trans F.size P;clear F J q P;have L:=qb z;clear z;go_wp2_with fail;refine(qvc _).mono ?_;rintro e f ⟨j,rfl,Y,i,C⟩;have U:=v.lt;replace v:=v.new C;replace C:=r.trans C;have O:=zr i;have V:=r.size;clear r;go_wp2_with fail;go_ret;have z:=qa L;have T:=C.alloc (.cells #[.string ⟨#[]⟩] 169);have I:SpR _ f.heap.size ⟨#[]⟩:=qj f (.cells #[.string ⟨#[]⟩] 169);have E:qq f (f.alloc (.cells #[.string ⟨#[]⟩] 169)):=(Upd.refl _ _).alloc _;have S:(f.alloc (.cells #[.string ⟨#[]⟩] 169)).heap.size=f.heap.size+1:=World.size_alloc _ _;replace v:=v.new E;replace i:JoR _ j .new:=E.old i (fun h=>h);have W:w.heap.size≤j:=by omega
  generalize f.alloc (.cells #[.string ⟨#[]⟩] 169)=K at T I E S v i ⊢;have H:LkR _ K.heap.size (.new f.heap.size g j):=qj K (.cells (LinkV.new f.heap.size g j).cells.toArray 107);have m:qq K (K.alloc (.cells (LinkV.new f.heap.size g j).cells.toArray 107)):=(Upd.refl _ _).alloc _;have X:=T.trans m;rw[S] at H;have M:=C.size;exact .inl ⟨z,f.heap.size+1,.new f.heap.size g j,rfl,⟨rfl,H,m.old I (fun h=>h),v.new m,m.old i (fun h=>h),⟨by omega,M,N,W⟩,⟨by show g<j;omega,O,by show f.heap.size<_;omega⟩⟩,X⟩
 ·have C:=F.trans r;clear F J q r;have L:=qb z;clear z;go_wp2_with fail;go_ret;exact .inr ⟨qa L,rfl,C⟩
end
section
open Go.RowKit
inductive Fld where
 | ch
 | id
 | amount
 | hash
 | expiry
 | number
def Fld.zero(x:Fld)(m:MsgV):MsgV :=
 match x with
 | .ch=> {m with ch:=0}
 | .id=> {m with id:=0}
 | .amount=> {m with amount:=0}
 | .hash=> {m with hash:=zg}
 | .expiry=> {m with expiry:=0}
 | .number=> {m with number:=0}
def qjy(base:Nat)(w:World)(v:Value)(f F:FuncId)(n:Int):Prop :=
 ∃p q,v = .func (.func f) #[] #[.pointer (some ⟨p,0,none⟩),.pointer (some ⟨q,0,none⟩)]∧base≤p∧base≤q∧w.cell? ⟨p,0,none⟩=some (.func (.func F) #[] #[])∧w.cell? ⟨q,0,none⟩=some (.int .i64 n)
def qhq(base:Nat)(w:World)(v:Value)(x:Fld):Prop :=
 match x with
 | .ch=>qjy base w v 214 203 4
 | .id=>qjy base w v 200 169 8
 | .amount=>qjy base w v 200 170 8
 | .hash=>v = .func (.func 175) #[] #[]
 | .expiry=>qjy base w v 201 172 4
 | .number=>qjy base w v 201 173 2
theorem qjy.upd{base:Nat}{w w':World}{v:Value}{f F:FuncId}{n:Int}{S:Nat→Prop}(h:qjy base w v f F n)(u:Upd S w w')(i:∀k,base≤k→¬S k):qjy base w' v f F n:=by
 obtain⟨p,q,e,m,r,z,C⟩:=h;exact⟨p,q,e,m,r,u.cell z (i p m),u.cell C (i q r)⟩
theorem qhq.upd{base:Nat}{w w':World}{v:Value}{x:Fld}{S:Nat→Prop}(h:qhq base w v x)(u:Upd S w w')(f:∀k,base≤k→¬S k):qhq base w' v x:=by
 cases x<;>first | exact qjy.upd h u f | exact h
theorem qhq.new{base:Nat}{w w':World}{v:Value}{x:Fld}(h:qhq base w v x)(u:qq w w'):qhq base w' v x:=h.upd u (fun _ _ h=>h)
theorem q7e(m:MsgV)(n:Int):m.cells.toArray.setIfInBounds 1 (.int .u32 n)=({m with ch:=n} : MsgV).cells.toArray:=rfl
theorem q7f(m:MsgV)(n:Int):m.cells.toArray.setIfInBounds 2 (.int .u64 n)=({m with id:=n} : MsgV).cells.toArray:=rfl
theorem qpb(m:MsgV)(n:Int):m.cells.toArray.setIfInBounds 3 (.int .u64 n)=({m with amount:=n} : MsgV).cells.toArray:=rfl
theorem quu(m:MsgV)(h:m.hash.length=32):m.cells=(.int .i64 m.kind :: .int .u32 m.ch :: .int .u64 m.id :: .int .u64 m.amount::qu m.hash)++[.int .i64 m.expiry,.int .i64 m.number]:=rfl
theorem qpc(m:MsgV)(h:m.hash.length=32)(n:Int):m.cells.toArray.setIfInBounds 36 (.int .i64 n)=({m with expiry:=n} : MsgV).cells.toArray:=by
 rw[List.setIfInBounds_toArray,quu m h,List.set_append_right _ _ (by simp[qu,h])];congr 1;show _=(.int .i64 m.kind :: .int .u32 m.ch :: .int .u64 m.id :: .int .u64 m.amount::qu m.hash)++[.int .i64 n,.int .i64 m.number];simp[qu,h]
theorem qpe(m:MsgV)(h:m.hash.length=32)(n:Int):m.cells.toArray.setIfInBounds 37 (.int .i64 n)=({m with number:=n} : MsgV).cells.toArray:=by
 rw[List.setIfInBounds_toArray,quu m h,List.set_append_right _ _ (by simp[qu,h])];congr 1;show _=(.int .i64 m.kind :: .int .u32 m.ch :: .int .u64 m.id :: .int .u64 m.amount::qu m.hash)++[.int .i64 m.expiry,.int .i64 n];simp[qu,h]
theorem qvh(m:MsgV)(h:m.hash.length=32)(k:List Int)(f:k.length=32):qi4 m.cells.toArray 4 (qu k)=({m with hash:=k} : MsgV).cells.toArray :=
 qqr [.int .i64 m.kind,.int .u32 m.ch,.int .u64 m.id,.int .u64 m.amount] (qu m.hash) [.int .i64 m.expiry,.int .i64 m.number] (qu k) 4 rfl (by rw[qal,qal,h,f])
attribute [local go_sem ↓ high] zl qag qaj qar
attribute [local go_sem] qbl qcl qcn qdm qx
theorem qnk(A:Nat)(w:World):Calls Tryz.prog 169 #[.pointer (some ⟨A,0,none⟩)] w (qa2 (.pointer (some ⟨A,2,none⟩)) w):=by
 go_enter Tryz.func169,Tryz.ntmps169;go_wp2_with fail;go_ret;exact⟨rfl,Q.refl _⟩
theorem qnl(A:Nat)(w:World):Calls Tryz.prog 170 #[.pointer (some ⟨A,0,none⟩)] w (qa2 (.pointer (some ⟨A,3,none⟩)) w):=by
 go_enter Tryz.func170,Tryz.ntmps170;go_wp2_with fail;go_ret;exact⟨rfl,Q.refl _⟩
theorem qnm(A:Nat)(w:World):Calls Tryz.prog 172 #[.pointer (some ⟨A,0,none⟩)] w (qa2 (.pointer (some ⟨A,36,none⟩)) w):=by
 go_enter Tryz.func172,Tryz.ntmps172;go_wp2_with fail;go_ret;exact⟨rfl,Q.refl _⟩
theorem qnn(A:Nat)(w:World):Calls Tryz.prog 173 #[.pointer (some ⟨A,0,none⟩)] w (qa2 (.pointer (some ⟨A,37,none⟩)) w):=by
 go_enter Tryz.func173,Tryz.ntmps173;go_wp2_with fail;go_ret;exact⟨rfl,Q.refl _⟩
theorem qno(A:Nat)(w:World):Calls Tryz.prog 203 #[.pointer (some ⟨A,0,none⟩)] w (qa2 (.pointer (some ⟨A,1,none⟩)) w):=by
 go_enter Tryz.func203,Tryz.ntmps203;go_wp2_with fail;go_ret;exact⟨rfl,Q.refl _⟩
def qhh:Value:= .agg #[.pointer none,.pointer none]
theorem qm7(F:FuncId)(o A p q:Nat)(x:Int)(m:MsgV)(w:World)(T:∀args w,(callFunc F args).run Tryz.prog w = .ok (.enter F args) w)(M:∀w,Calls Tryz.prog F #[.pointer (some ⟨A,0,none⟩)] w (qa2 (.pointer (some ⟨A,o,none⟩)) w))(I:w.cell? ⟨p,0,none⟩=some (.func (.func F) #[] #[]))(H:MsB w A m)(N:m.cells[o]? = some (.int .u64 x)) :
  Calls Tryz.prog 200 #[qhh,.pointer (some ⟨A,0,none⟩),.pointer (some ⟨p,0,none⟩),.pointer (some ⟨q,0,none⟩)] w fun e w'=>e = .returned (.tuple #[])∧∃w1,qq w w1∧w'=w1.setCell ⟨A,o,none⟩ (.int .u64 0):=by
 unfold qhh
 go_enter Tryz.func200,Tryz.ntmps200
 go_upto_region 1 with fail
 have i:qq w (w.alloc (.cells #[.pointer none,.pointer none] 234)):=(Upd.refl _ _).alloc _
 have z:=qj w (.cells #[.pointer none,.pointer none] 234)
 generalize w.alloc (.cells #[.pointer none,.pointer none] 234)=w1 at i z ⊢
 generalize w.heap.size=B at z ⊢
 have E:=i.cell I (fun h=>h)
 have K:=qb (H.new i)
 have C:=qb z
 clear z I H
 go_wp2_with fail
 refine(M w1).mono ?_
 rintro e v ⟨rfl,r⟩
 have J:qq w v:=i.trans (r.upd _)
 have f:=(qa K).new (r.upd _)
 have P:v.cell? ⟨B,0,none⟩=some (.pointer none):=r.cell (qg (qa C) 0)
 have R:v.cell? ⟨B,1,none⟩=some (.pointer none):=r.cell (qg (qa C) 1)
 have O:v.cell? ⟨A,o,none⟩=some (.int .u64 x):=by rw[qg f.at_,List.getElem?_toArray];exact N
 have S:v.frozen? ⟨A,o,none⟩=false:=qv f.at_ o
 have L:=qb J
 clear f r J i E C
 go_wp2_with (with_reducible first|(first|refine' tw1 (qh ?_) ?_|refine' tw2 (qh ?_) ?_);rotate_left|refine' tw3 (qh ?_)|rfl|apply tn|refine' tw4 ?_)
 go_end0
 exact⟨rfl,_,qa L,rfl⟩
theorem qm6(F:FuncId)(o A p q:Nat)(x:Int)(m:MsgV)(w:World)(T:∀args w,(callFunc F args).run Tryz.prog w = .ok (.enter F args) w)(M:∀w,Calls Tryz.prog F #[.pointer (some ⟨A,0,none⟩)] w (qa2 (.pointer (some ⟨A,o,none⟩)) w))(I:w.cell? ⟨p,0,none⟩=some (.func (.func F) #[] #[]))(H:MsB w A m)(N:m.cells[o]? = some (.int .i64 x)) :
  Calls Tryz.prog 201 #[qhh,.pointer (some ⟨A,0,none⟩),.pointer (some ⟨p,0,none⟩),.pointer (some ⟨q,0,none⟩)] w fun e w'=>e = .returned (.tuple #[])∧∃w1,qq w w1∧w'=w1.setCell ⟨A,o,none⟩ (.int .i64 0):=by
 unfold qhh
 go_enter Tryz.func201,Tryz.ntmps201
 go_upto_region 1 with fail
 have i:qq w (w.alloc (.cells #[.pointer none,.pointer none] 234)):=(Upd.refl _ _).alloc _
 have z:=qj w (.cells #[.pointer none,.pointer none] 234)
 generalize w.alloc (.cells #[.pointer none,.pointer none] 234)=w1 at i z ⊢
 generalize w.heap.size=B at z ⊢
 have E:=i.cell I (fun h=>h)
 have K:=qb (H.new i)
 have C:=qb z
 clear z I H
 go_wp2_with fail
 refine(M w1).mono ?_
 rintro e v ⟨rfl,r⟩
 have J:qq w v:=i.trans (r.upd _)
 have f:=(qa K).new (r.upd _)
 have P:v.cell? ⟨B,0,none⟩=some (.pointer none):=r.cell (qg (qa C) 0)
 have R:v.cell? ⟨B,1,none⟩=some (.pointer none):=r.cell (qg (qa C) 1)
 have O:v.cell? ⟨A,o,none⟩=some (.int .i64 x):=by rw[qg f.at_,List.getElem?_toArray];exact N
 have S:v.frozen? ⟨A,o,none⟩=false:=qv f.at_ o
 have L:=qb J
 clear f r J i E C
 go_wp2_with (with_reducible first|(first|refine' tw1 (qh ?_) ?_|refine' tw2 (qh ?_) ?_);rotate_left|refine' tw3 (qh ?_)|rfl|apply tn|refine' tw4 ?_)
 go_end0
 exact⟨rfl,_,qa L,rfl⟩
theorem qv0(F:FuncId)(o A p q:Nat)(x:Int)(m:MsgV)(w:World)(T:∀args w,(callFunc F args).run Tryz.prog w = .ok (.enter F args) w)(M:∀w,Calls Tryz.prog F #[.pointer (some ⟨A,0,none⟩)] w (qa2 (.pointer (some ⟨A,o,none⟩)) w))(I:w.cell? ⟨p,0,none⟩=some (.func (.func F) #[] #[]))(H:MsB w A m)(N:m.cells[o]? = some (.int .u32 x)) :
  Calls Tryz.prog 214 #[qhh,.pointer (some ⟨A,0,none⟩),.pointer (some ⟨p,0,none⟩),.pointer (some ⟨q,0,none⟩)] w fun e w'=>e = .returned (.tuple #[])∧∃w1,qq w w1∧w'=w1.setCell ⟨A,o,none⟩ (.int .u32 0):=by
 unfold qhh
 go_enter Tryz.func214,Tryz.ntmps214
 go_upto_region 1 with fail
 have i:qq w (w.alloc (.cells #[.pointer none,.pointer none] 234)):=(Upd.refl _ _).alloc _
 have z:=qj w (.cells #[.pointer none,.pointer none] 234)
 generalize w.alloc (.cells #[.pointer none,.pointer none] 234)=w1 at i z ⊢
 generalize w.heap.size=B at z ⊢
 have E:=i.cell I (fun h=>h)
 have K:=qb (H.new i)
 have C:=qb z
 clear z I H
 go_wp2_with fail
 refine(M w1).mono ?_
 rintro e v ⟨rfl,r⟩
 have J:qq w v:=i.trans (r.upd _)
 have f:=(qa K).new (r.upd _)
 have P:v.cell? ⟨B,0,none⟩=some (.pointer none):=r.cell (qg (qa C) 0)
 have R:v.cell? ⟨B,1,none⟩=some (.pointer none):=r.cell (qg (qa C) 1)
 have O:v.cell? ⟨A,o,none⟩=some (.int .u32 x):=by rw[qg f.at_,List.getElem?_toArray];exact N
 have S:v.frozen? ⟨A,o,none⟩=false:=qv f.at_ o
 have L:=qb J
 clear f r J i E C
 go_wp2_with (with_reducible first|(first|refine' tw1 (qh ?_) ?_|refine' tw2 (qh ?_) ?_);rotate_left|refine' tw3 (qh ?_)|rfl|apply tn|refine' tw4 ?_)
 go_end0
 exact⟨rfl,_,qa L,rfl⟩
theorem qta(A:Nat)(m:MsgV)(w:World)(r:MsB w A m) :
  Calls Tryz.prog 175 #[qhh,.pointer (some ⟨A,0,none⟩)] w fun e w'=>e = .returned (.tuple #[])∧∃w1,qq w w1∧w'=w1.setCells A 4 (qu zg):=by
 unfold qhh
 go_enter Tryz.func175,Tryz.ntmps175
 go_upto_region 2 with fail
 have q:qq w (w.alloc (.cells #[.pointer none,.pointer none] 234)):=(Upd.refl _ _).alloc _
 have i:=qj w (.cells #[.pointer none,.pointer none] 234)
 generalize w.alloc (.cells #[.pointer none,.pointer none] 234)=w1 at q i ⊢
 generalize w.heap.size=B at i ⊢
 have f:=r.new q
 have F:w1.cell? ⟨B,0,none⟩=some (.pointer none):=qg i 0
 have H:w1.cell? ⟨B,1,none⟩=some (.pointer none):=qg i 1
 have C:stOk w1 A 4 32 (qu zg).toArray=true:=qd0 f.at_ (by rw[List.size_toArray,m.len f.len];omega) (by rw[List.size_toArray,qal];exact qm) (by rw[Array.all_eq_true_iff_forall_mem];intro v E;exact qor _ v (by simpa using E))
 have z:=qb q
 clear r f q i
 go_wp2_with (with_reducible first|(first|refine' tw1 (qh ?_) ?_|refine' tw2 (qh ?_) ?_);rotate_left|refine' tw3 (qh ?_)|rfl|apply tn|refine' tw4 ?_)
 go_end0
 exact⟨rfl,_,qa z,rfl⟩
theorem q0q(x:Fld)(base A:Nat)(m:MsgV)(v:Value)(w:World)(I:qhq base w v x)(i:MsB w A m)(R:A<base) :
  ∃F H,v = .func (.func F) #[] H∧(∀args w,(callFunc F args).run Tryz.prog w = .ok (.enter F args) w)∧Calls Tryz.prog F (#[qhh,.pointer (some ⟨A,0,none⟩)]++H) w fun e w'=>e = .returned (.tuple #[])∧MsB w' A (x.zero m)∧Upd (· = A) w w':=by
 have z:∀(w1:World) (o:Nat) (u:Value) (M:MsgV),qq w w1→m.cells.toArray.setIfInBounds o u=M.cells.toArray→M.hash.length=32→MsB (w1.setCell ⟨A,o,none⟩ u) A M∧Upd (· = A) w (w1.setCell ⟨A,o,none⟩ u):=by
  intro w1 o u M f r C;have N:=i.new f;have:=qad N.at_ o u;rw[r] at this;exact⟨⟨this,C⟩,(f.mono (fun _ _ h=>h.elim)).set1 o u⟩
 have C:=i.len
 cases x with
 | ch =>
  obtain⟨p,q,rfl,K,L,E,J⟩:=I;refine⟨_,_,rfl,enters_of Tryz.func214 (by kernel_rfl) rfl,?_⟩;refine(qv0 203 1 A p q m.ch m w (enters_of Tryz.func203 (by kernel_rfl) rfl) (qno A) E i rfl).mono ?_;rintro e w' ⟨r,w1,f,rfl⟩;exact⟨r,z w1 1 _ _ f (q7e m 0) C⟩
 | id =>
  obtain⟨p,q,rfl,K,L,E,J⟩:=I;refine⟨_,_,rfl,enters_of Tryz.func200 (by kernel_rfl) rfl,?_⟩;refine(qm7 169 2 A p q m.id m w (enters_of Tryz.func169 (by kernel_rfl) rfl) (qnk A) E i rfl).mono ?_;rintro e w' ⟨r,w1,f,rfl⟩;exact⟨r,z w1 2 _ _ f (q7f m 0) C⟩
 | amount =>
  obtain⟨p,q,rfl,K,L,E,J⟩:=I;refine⟨_,_,rfl,enters_of Tryz.func200 (by kernel_rfl) rfl,?_⟩;refine(qm7 170 3 A p q m.amount m w (enters_of Tryz.func170 (by kernel_rfl) rfl) (qnl A) E i rfl).mono ?_;rintro e w' ⟨r,w1,f,rfl⟩;exact⟨r,z w1 3 _ _ f (qpb m 0) C⟩
 | expiry =>
  obtain⟨p,q,rfl,K,L,E,J⟩:=I;refine⟨_,_,rfl,enters_of Tryz.func201 (by kernel_rfl) rfl,?_⟩;have O:m.cells[36]? = some (.int .i64 m.expiry):=by
   have:=i.cells.2.2.2.2.1;rwa [qg i.at_,List.getElem?_toArray] at this
  refine(qm6 172 36 A p q m.expiry m w (enters_of Tryz.func172 (by kernel_rfl) rfl) (qnm A) E i O).mono ?_;rintro e w' ⟨r,w1,f,rfl⟩;exact⟨r,z w1 36 _ _ f (qpc m C 0) C⟩
 | number =>
  obtain⟨p,q,rfl,K,L,E,J⟩:=I;refine⟨_,_,rfl,enters_of Tryz.func201 (by kernel_rfl) rfl,?_⟩;have O:m.cells[37]? = some (.int .i64 m.number):=by
   have:=i.cells.2.2.2.2.2.1;rwa [qg i.at_,List.getElem?_toArray] at this
  refine(qm6 173 37 A p q m.number m w (enters_of Tryz.func173 (by kernel_rfl) rfl) (qnn A) E i O).mono ?_;rintro e w' ⟨r,w1,f,rfl⟩;exact⟨r,z w1 37 _ _ f (qpe m C 0) C⟩
 | hash =>
  have I:v=_:=I;subst I;refine⟨_,_,rfl,enters_of Tryz.func175 (by kernel_rfl) rfl,?_⟩;refine(qta A m w i).mono ?_;rintro e w' ⟨r,w1,f,rfl⟩;have N:=i.new f;have P:=qba N.at_ 4 (qu zg);rw[qvh m C zg qm] at P;exact⟨r,⟨P,qm⟩,(f.mono (fun _ _ h=>h.elim)).setCells 4 _⟩
end
section
open Go.RowKit
theorem qao(n:Int)(F:FuncId)(w:World):Calls Tryz.prog 168 #[.int .i64 n,.func (.func F) #[] #[]] w fun e w'=>∃v,e = .returned v∧qq w w'∧qjy w.heap.size w' v 200 F n:=by
 go_enter Tryz.func168,Tryz.ntmps168;go_wp2_with fail;go_ret;have f:=qj (w.alloc (.cells #[.int .i64 n] 3)) (.cells #[.func (.func F) #[] #[]] 274);rw[World.size_alloc] at f;exact⟨_,rfl,((Upd.refl _ _).alloc _).alloc _,_,_,rfl,by omega,by omega,by rw[qg f];rfl,by rw[qg (qs (qj _ _) _)];rfl⟩
theorem qau(n:Int)(F:FuncId)(w:World):Calls Tryz.prog 171 #[.int .i64 n,.func (.func F) #[] #[]] w fun e w'=>∃v,e = .returned v∧qq w w'∧qjy w.heap.size w' v 201 F n:=by
 go_enter Tryz.func171,Tryz.ntmps171;go_wp2_with fail;go_ret;have f:=qj (w.alloc (.cells #[.int .i64 n] 3)) (.cells #[.func (.func F) #[] #[]] 277);rw[World.size_alloc] at f;exact⟨_,rfl,((Upd.refl _ _).alloc _).alloc _,_,_,rfl,by omega,by omega,by rw[qg f];rfl,by rw[qg (qs (qj _ _) _)];rfl⟩
theorem qk7(n:Int)(F:FuncId)(w:World):Calls Tryz.prog 202 #[.int .i64 n,.func (.func F) #[] #[]] w fun e w'=>∃v,e = .returned v∧qq w w'∧qjy w.heap.size w' v 214 F n:=by
 go_enter Tryz.func202,Tryz.ntmps202;go_wp2_with fail;go_ret;have f:=qj (w.alloc (.cells #[.int .i64 n] 3)) (.cells #[.func (.func F) #[] #[]] 299);rw[World.size_alloc] at f;exact⟨_,rfl,((Upd.refl _ _).alloc _).alloc _,_,_,rfl,by omega,by omega,by rw[qg f];rfl,by rw[qg (qs (qj _ _) _)];rfl⟩
theorem qjy.later{a b:Nat}{w:World}{v:Value}{f F:FuncId}{n:Int}(h:qjy b w v f F n)(i:a≤b):qjy a w v f F n:=by
 obtain⟨p,q,e,m,z,r⟩:=h;exact⟨p,q,e,by omega,by omega,r⟩
theorem qhq.later{a b:Nat}{w:World}{v:Value}{x:Fld}(h:qhq b w v x)(f:a≤b):qhq a w v x:=by
 cases x<;>first | exact qjy.later h f | exact h
structure FldsO(base:Nat)(w:World)(v:Value)(xs:List Fld):Prop where
 row:∃vs:List Value,w.ownsRow base 271 1 v xs.length vs∧vs.length=xs.length∧∀(i:Nat) (x:Fld) (u:Value),xs[i]? = some x→vs[i]? = some u→qhq base w u x
theorem Tryz.zeroFld:((Tryz.prog.info? 271).map fun i=>(i.zero.map (·.cells.size),i.size,decide (i.bytes≤1000)))=some (some 1,1,true):=by kernel_rfl
theorem q5g:∃i z b,Tryz.prog.info? 271=some i∧i.zero=some z∧i.size=1∧i.bytes=b∧z.cells.size=1∧b≤1000:=by
 have h:=Tryz.zeroFld;cases q:Tryz.prog.info? 271 with
 | none=>rw[q] at h;cases h
 | some i =>
  rw[q] at h;simp only[Option.map_some,Option.some.injEq,Prod.mk.injEq] at h;obtain⟨f,r,v⟩:=h;cases m:i.zero with
  | none=>rw[m] at f;cases f
  | some z =>
   rw[m] at f;exact⟨i,z,i.bytes,rfl,m,r,rfl,by simpa using f,of_decide_eq_true v⟩
theorem qga(g:Nat)(m:List Value)(w:World)(hg:w.heap[g]? = some (.cells m.toArray 271 (0,0)))(h1:∀v∈m,v.oneCell'=true)(hl:m.length≤100) :
  Calls Tryz.prog 174 #[.slice (some ⟨g,0,none⟩) m.length m.length] w fun e w'=>∃v c,e = .returned (.tuple #[v,.bool true])∧qq w w'∧w'.ownsRow w.heap.size 271 1 v (1+m.length) (c::m)∧qhq w.heap.size w' c .ch:=by
 obtain⟨i9,z9,b9,L,S,O,P,R,K⟩:=q5g
 have Y:=qk7 4 203 w
 go_enter Tryz.func174,Tryz.ntmps174
 go_wp2_with fail
 refine Y.mono ?_
 rintro e w1 ⟨c,rfl,J,p,q,rfl,hp,hq,V,W⟩
 clear Y
 have lp:=World.block_lt_of_cell? w1 _ V
 have lq:=World.block_lt_of_cell? w1 _ W
 change p<_ at lp
 change q<_ at lq
 obtain⟨c,C⟩:∃c:Value,c = .func (.func 214) #[] #[.pointer (some ⟨p,0,none⟩),.pointer (some ⟨q,0,none⟩)]:=⟨_,rfl⟩
 have H:=qb C
 have r:(w1.alloc (.cells #[c] 271)).ownsRow w.heap.size 271 1 (.slice (some ⟨w1.heap.size,0,none⟩) 1 1) 1 [c] :=
  ⟨rfl,.inr ⟨w1.heap.size,1,#[c],rfl,J.size,qj _ _,Nat.le_refl _,by decide,rfl,rfl⟩⟩
 have E:(w1.alloc (.cells #[c] 271)).heap[g]? = some (.cells m.toArray 271 (0,0)):=(J.alloc (.cells #[c] 271)).old hg (fun h=>h)
 rw[C] at r E
 clear C
 go_wp2_with (at_builtin;refine wpList_append_own _ rfl (.tmp 7) (.tmp 8) 226 rfl w.heap.size 271 i9 _ 1 b9 Tryz.underlying226 L S O P R (by decide) _ _ _ rfl r ⟨g,0,none⟩ m.length m.length m rfl (by rw[Nat.mul_one]) ?c1 h1 ?c3 ?c4 ?c5 ?_)
 case c1=>exact World.news_of_block (cs:=m.toArray) (fr:=(0,0)) E
 case c3=>unfold maxLen;omega
 case c4=>have:=Nat.mul_le_mul (show 1+m.length≤101 by omega) K;omega
 case c5=>have:=J.size;rw[World.size_alloc];omega
 intro v' U i f _
 obtain⟨wa,F⟩:∃wa:World,wa=w1.alloc (.cells #[.func (.func 214) #[] #[.pointer (some ⟨p,0,none⟩),.pointer (some ⟨q,0,none⟩)]] 271):=⟨_,rfl⟩
 have z:qq w1 wa:=by rw[F];exact(Upd.refl _ _).alloc _
 rw[←F] at f
 have X:qq w U:=(J.trans z).grown f (fun k M N=>by
  simp only[Value.ownBlock,Option.some.injEq] at M;have:=J.size;omega)
 have T:Upd (fun k=>k=w1.heap.size) wa U:=(Upd.refl _ _).grown f (fun k M N=>by
  simp only[Value.ownBlock,Option.some.injEq] at M;omega)
 have I:qhq w.heap.size U c .ch:=by
  exact⟨p,q,qa H,hp,hq,T.cell (z.cell V (fun h=>h)) (by show ¬p=_;omega),T.cell (z.cell W (fun h=>h)) (by show ¬q=_;omega)⟩
 rw[←qa H] at i
 have HO:=qb i
 have Z:=qb I
 have HN:=qb X
 clear i f I X T r E z F
 go_wp2_with fail
 go_ret2
 exact⟨_,c,rfl,qa HN,qa HO,qa Z⟩
theorem qqs(w:World) :
  Calls Tryz.prog 174 #[.slice none 0 0] w fun e w'=>∃v c,e = .returned (.tuple #[v,.bool true])∧qq w w'∧w'.ownsRow w.heap.size 271 1 v 1 [c]∧qhq w.heap.size w' c .ch:=by
 have i:=qk7 4 203 w
 go_enter Tryz.func174,Tryz.ntmps174
 go_wp2_with fail
 refine i.mono ?_
 rintro e w1 ⟨c,rfl,m,p,q,rfl,C,E,r,z⟩
 clear i
 go_wp2_with fail
 go_ret2
 have f:qq w1 (w1.alloc (.cells #[.func (.func 214) #[] #[.pointer (some ⟨p,0,none⟩),.pointer (some ⟨q,0,none⟩)]] 271)):=(Upd.refl _ _).alloc _
 exact⟨_,_,rfl,m.trans f,⟨rfl,.inr ⟨w1.heap.size,1,_,rfl,m.size,qj _ _,Nat.le_refl _,by decide,rfl,rfl⟩⟩,⟨p,q,rfl,C,E,f.cell r (fun h=>h),f.cell z (fun h=>h)⟩⟩
end
end Go.Proofs.YtfmkdoachjgjbaaGreatDoor
