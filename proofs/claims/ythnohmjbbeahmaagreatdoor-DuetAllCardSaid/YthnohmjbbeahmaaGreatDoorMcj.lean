/-
  Law 13: the pair beside a message in a block of its own.
-/
import Derived.Test.YthnohmjbbeahmaaGreatDoorPr3
import Derived.Test.YthnohmjbbeahmaaGreatDoorMcf
import Derived.Test.YthnohmjbbeahmaaGreatDoorMbj
import Derived.Test.YthnohmjbbeahmaaGreatDoorMch
import Derived.Test.YthnohmjbbeahmaaGreatDoorMbh
set_option linter.unusedVariables false
set_option linter.unusedSimpArgs false
namespace Go.Proofs.YthnohmjbbeahmaaGreatDoor
open Go.RowKit
section
variable {w0 w w':World}{p K:Nat}{S T:Nat→Prop}{a b a' b':Ch}{wa wb wa' wb':List MsgV}{bad bad':Bool}{m m':MsgV}
end
attribute [local go_sem ↓ high] zr zu zw zx
attribute [local go_sem] qb3 qb9 qcf qbg qx3 zb
def qe2(id r:Int):MsgV:=⟨5,0,id,0,zv,0,r⟩
def Ch.fail(c:Ch)(id r:Int):Ch × MsgV × Int:=match qbf false id c.xs with
 | none=>(c,MsgV.zero,3)
 | some p=>if r<0∨65535<r then (c,MsgV.zero,1) else ((c.removed p.1 p.2 false).say (qe2 id r),(qe2 id r).on c.s.ch,0)
theorem qt2{c:Ch}{id r:Int}(h:qbf false id c.xs=none):c.fail id r=(c,MsgV.zero,3):=by unfold Ch.fail;rw[h]
theorem qyn{c:Ch}{id r:Int}{p:Nat × Live}(h:qbf false id c.xs=some p)(g:r<0∨65535<r):c.fail id r=(c,MsgV.zero,1):=by unfold Ch.fail;rw[h];simp only;rw[if_pos g]
theorem qok{c:Ch}{id r:Int}{i:Nat}{x:Live}(h:qbf false id c.xs=some (i,x))(g:¬(r<0∨65535<r)):c.fail id r=((c.removed i x false).say (qe2 id r),(qe2 id r).on c.s.ch,0):=by unfold Ch.fail;rw[h];simp only;rw[if_neg g]
set_option maxRecDepth 100000 in
set_option maxHeartbeats 1000000 in
theorem q9k(g:Nat)(S:Nat→Prop)(c:Ch)(id r:Int)(w:World)(h:ChS w g S c)(X:c.news.length<1000000) :
  Calls Tryz.prog 33 #[.pointer (some ⟨g,0,none⟩),.int .u64 id,.int .i64 r] w fun e w' =>
   e = .returned (.tuple #[.agg (c.fail id r).2.1.cells.toArray,.int .i64 (c.fail id r).2.2])∧ChS w' g (Fr S w w') (c.fail id r).1∧Upd S w w':=by
 obtain⟨lv,nv,av,h⟩:=h
 go_enter Tryz.func33,Tryz.ntmps33
 go_upto_region 1 with fail
 have P:=qbx w MsgV.zero qs
 have Z:qu w (w.alloc (.cells MsgV.zero.cells.toArray 71)):=(Upd.refl _ _).alloc _
 generalize w.alloc (.cells MsgV.zero.cells.toArray 71)=w1 at P Z ⊢
 obtain⟨B,R⟩:∃B,B=w.heap.size:=⟨_,rfl⟩
 rw[←R] at P ⊢
 have a7:w.heap.size≤B:=by omega
 have a8:g≠B:=by have:=h.lt g h.inG;omega
 have o:¬S B:=fun e=>by have:=h.lt B e;omega
 clear R
 have h1:=h.new Z
 have V:=qm5 g S c false id w1 ⟨lv,nv,av,h1⟩
 have bad:∀(W:World),qu w1 W →
   stOk W B 0 38 MsgV.zero.cells.toArray=true∧MsB (W.setCells B 0 MsgV.zero.cells) B MsgV.zero∧ChS (W.setCells B 0 MsgV.zero.cells) g (Fr S w (W.setCells B 0 MsgV.zero.cells)) c∧Upd S w (W.setCells B 0 MsgV.zero.cells):=by
  intro W nW
  have V:=P.new nW
  have u:=zz (w:=W) (b:=B) MsgV.zero.cells
  exact⟨V.stOk qs,V.put qs,ChS.frW (w1:=w) ⟨lv,nv,av,((h1.new nW).upd u (fun k F e=>by rw[e] at F;exact o F))⟩,((Z.trans nW).mono (T:=S) (fun _ _ h=>h.elim)).then u (fun i v e=>by omega)⟩
 have q:=qb bad
 have HB:=qb P
 have HI:=qb h.inL
 have H1:=qb h1
 have a6:=qb h.lt
 have N1:=qb Z
 clear h h1 P Z bad
 go_wp2_with fail
 refine V.mono ?_
 rintro e w2 ⟨rfl,I⟩
 clear V
 cases C:qbf false id c.xs with
 | none =>
  have v:=qjn C;obtain⟨H,l,t,U⟩:=qa q w2 I;have K:=qb (qt2 (r:=r) C);have L:=qb l;have J:=qb t;have M:=qb U;rw[v];clear l t U I C v;go_wp2_with (with_reducible first|(first|refine' tw1 (qg ?_) ?_|refine' tw2 (qg ?_) ?_);rotate_left|refine' tw3 (qg ?_)|rfl|apply tn|refine' tw4 ?_);have l:=qa L;refine bodyPost_ret (qq rfl _ _ B _ _ _ _ rfl l.at_ Tryz.underlying71 rfl (by rw[l.agg];exact Tryz.infoMsg)) rfl ?_;rw[qa K];exact⟨rfl,qa J,qa M⟩
 | some pr =>
  obtain⟨i,x⟩:=pr;obtain⟨v,E,-⟩:=qhg C;have h2:=(qa H1).new I;rw[v];by_cases N:r<0∨65535<r
  ·obtain⟨H,l,t,U⟩:=qa q w2 I;have K:=qb (qyn C N);have L:=qb l;have J:=qb t;have M:=qb U;clear l t U I C v E h2;rcases N with N | N
   ·go_wp2_with (with_reducible first|(first|refine' tw1 (qg ?_) ?_|refine' tw2 (qg ?_) ?_);rotate_left|refine' tw3 (qg ?_)|rfl|apply tn|refine' tw4 ?_);have l:=qa L;refine bodyPost_ret (qq rfl _ _ B _ _ _ _ rfl l.at_ Tryz.underlying71 rfl (by rw[l.agg];exact Tryz.infoMsg)) rfl ?_;rw[qa K];exact⟨rfl,qa J,qa M⟩
   ·have a4:¬r<0:=by omega
    go_wp2_with (with_reducible first|(first|refine' tw1 (qg ?_) ?_|refine' tw2 (qg ?_) ?_);rotate_left|refine' tw3 (qg ?_)|rfl|apply tn|refine' tw4 ?_);have l:=qa L;refine bodyPost_ret (qq rfl _ _ B _ _ _ _ rfl l.at_ Tryz.underlying71 rfl (by rw[l.agg];exact Tryz.infoMsg)) rfl ?_;rw[qa K];exact⟨rfl,qa J,qa M⟩
  ·have Y:=qj4 g S c lv nv av i x false w2 h2 E;have K:=qb (qok C N);have a4:¬r<0:=by omega
   have a9:¬65535<r:=by omega
   have N2:=qb I;clear I C v E h2 N;go_wp2_with fail;refine Y.mono ?_;rintro e w3 ⟨rfl,h3,u3⟩;have z:=fun W (hW:ChS W g S (c.removed i x false))=>qqm g S (c.removed i x false) (qe2 id r) qs W hW X
   have m:=z w3 ⟨lv,nv,av,h3⟩;have U3:=qb ((((qa N1).trans (qa N2)).mono (T:=S) (fun _ _ h=>h.elim)).trans (u3.mono (T:=S) (fun k _ e=>qa HI k e)));have O:=qb (((qa HB).new (qa N2)).upd u3 (fun e=>o (qa HI B e)));clear Y h3 u3 z;unfold qe2 at m;go_wp2_with (with_reducible first|(first|refine' tw1 (qg ?_) ?_|refine' tw2 (qg ?_) ?_);rotate_left|refine' tw3 (qg ?_)|rfl|apply tn|refine' tw4 ?_);refine m.mono ?_;rintro e w4 ⟨rfl,h4,u4⟩;have hl:((qe2 id r).on (c.removed i x false).s.ch).hash.length=32:=qs;have D:=(qa O).upd u4 o;have H:=D.stOk hl;have l:=D.put hl;have u5:=zz (w:=w4) (b:=B) ((qe2 id r).on (c.removed i x false).s.ch).cells;have L:=qb l;have a5:=(qa U3).size;have t:=h4.upd u5 (fun k F e=>by
    rcases F with F | F
    ·exact o (e▸F)
    ·have:=(qa O).lt;omega)
   have J:=qb ((t.grow u5.size).later a5);have M:=qb (((qa U3).trans u4).then u5 (fun i v e=>by omega));change stOk w4 B 0 38 ((⟨5,0,id,0,zv,0,r⟩:MsgV).on (c.removed i x false).s.ch).cells.toArray=true at H;clear m h4 u4 D l u5 t hl;go_wp2_with (with_reducible first|(first|refine' tw1 (qg ?_) ?_|refine' tw2 (qg ?_) ?_);rotate_left|refine' tw3 (qg ?_)|rfl|apply tn|refine' tw4 ?_);have l:=qa L;refine bodyPost_ret (qq rfl _ _ B _ _ _ _ rfl l.at_ Tryz.underlying71 rfl (by rw[l.agg];exact Tryz.infoMsg)) rfl ?_;rw[qa K];exact⟨rfl,qa J,qa M⟩
end Go.Proofs.YthnohmjbbeahmaaGreatDoor
namespace Go.Proofs.YthnohmjbbeahmaaGreatDoor
open Go.RowKit
theorem qo0{w:World}{b o n:Nat}{A:Array Value}(h:zm w b o n=some A)(i k:Nat)(l:i+k≤n):zm w b (o+i) k=some (A.extract i (i+k)):=by
 unfold zm at h ⊢;cases g:w.heap[b]? with
 | none=>rw[g] at h;cases h
 | some m =>
  rw[g] at h;cases m with
  | cells C T q =>
   simp only at h ⊢;split at h
   ·injection h with h;subst h;rw[if_pos (by omega),Array.extract_extract];congr 2;omega
   ·cases h
  | _=>simp at h
theorem q61(x:Live):(ql x).toArray.extract 2 (2+32)=(qx x.h.hash.toList).toArray:=by
 apply Array.ext';rw[Array.toList_extract];unfold ql ze qx;simp
theorem ChP.hash{w:World}{g:Nat}{S:Nat→Prop}{c:Ch}{t nv v:Value}(h:ChP w g S c t nv v){i:Nat}{x:Live}(q:c.xs[i]? = some x):∃o cap,t = .slice (some ⟨o,0,none⟩) c.xs.length cap∧zm w o (i*38+2) 32=some (qx x.h.hash.toList).toArray:=by
 have m:=(List.getElem?_eq_some_iff.1 q).1;rcases (qdo h.live).2 with ⟨e,e0⟩ | ⟨g',l,e,-,z⟩
 ·rw[e0] at m;simp at m
 ·refine⟨g',l,e,?_⟩;have:=qo0 (z.row q) 2 32 (by omega);rw[q61,Nat.zero_add] at this;exact this
def Ch.hearFulfill(c:Ch)(m:MsgV):Ch × Int:=match qbf true m.id c.xs with
 | none=>(c,3)
 | some p=>if qby m.hash p.2.h.hash.toList=true then (c.removed p.1 p.2 true,0) else (c,132)
theorem qnf{c:Ch}{m:MsgV}(h:qbf true m.id c.xs=none):c.hearFulfill m=(c,3):=by unfold Ch.hearFulfill;rw[h]
theorem qfr{c:Ch}{m:MsgV}{i:Nat}{x:Live}(h:qbf true m.id c.xs=some (i,x)):c.hearFulfill m=if qby m.hash x.h.hash.toList=true then (c.removed i x true,0) else (c,132):=by unfold Ch.hearFulfill;rw[h]
attribute [local go_sem ↓ high] zr zu zw zx zy qak qaq
attribute [local go_sem] qb3 qb9 qcf qbg qcl qdb qdn zb
set_option maxRecDepth 100000 in
set_option maxHeartbeats 1000000 in
theorem qp6(g:Nat)(S:Nat→Prop)(c:Ch)(m:MsgV)(hm:MsgOk m)(w:World)(h:ChS w g S c)(hT:Tb w) :
  Calls Tryz.prog 82 #[.pointer (some ⟨g,0,none⟩),.agg m.cells.toArray] w fun e w' =>
   e = .returned (.tuple #[qcd,.int .i64 (c.hearFulfill m).2])∧ChS w' g (Fr S w w') (c.hearFulfill m).1∧Upd S w w':=by
 obtain⟨U,nv,av,h⟩:=h
 go_enter Tryz.func82,Tryz.ntmps82
 go_upto_region 1 with fail
 have K:=qbx w m hm.len
 have N:qu w (w.alloc (.cells m.cells.toArray 71)):=(Upd.refl _ _).alloc _
 generalize w.alloc (.cells m.cells.toArray 71)=w1 at N K ⊢
 generalize w.heap.size=A at K ⊢
 have h1:=h.new N
 obtain⟨-,-,m2,-,-,-,-⟩:=K.cells
 have hb:=qm5 g S c true m.id w1 ⟨U,nv,av,h1⟩
 have HA:=qb K
 have L:=hT.new N
 clear K hT
 go_wp2_with fail
 refine hb.mono ?_
 rintro e Y ⟨rfl,P⟩
 have D:=h1.new P
 have z:=(qa HA).new P
 have v:=N.trans P
 have C:=L.new P
 clear hb m2 h1 P N L HA
 cases F:qbf true m.id c.xs with
 | none =>
  have M:=qjn F;have H:=qb (qnf F);have Z:=qb (D.fr w);have HU:=qb (v.mono (T:=S) (fun _ _ h=>h.elim));rw[M];clear h D v F M z C;go_wp2_with fail;go_ret2;rw[qa H];exact⟨rfl,qa Z,qa HU⟩
 | some p =>
  obtain⟨i,x⟩:=p;obtain⟨M,o,-⟩:=qhg F;have E:=qfr F;have b5:=(List.getElem?_eq_some_iff.1 o).1;have a9:=h.ok.few;obtain⟨gl,cap,a7,X⟩:=D.hash o;have J:Y.cell? ⟨g,47,none⟩=some U:=D.toR.live;rw[a7] at J;obtain⟨-,-,-,-,-,-,V⟩:=z.cells;have a8:=(h.ok.xs x (List.mem_of_getElem? o)).h.hash;have l:=fun W (nW:qu Y W)=>qur m.hash x.h.hash.toList hm.len (by simp) a8 W (C.new nW).tabs
  have q:=fun W (hW:ChP W g S c U nv av)=>qj4 g S c U nv av i x true W hW o
  have HI:=qb h.inL;have HU:=qb (v.mono (T:=S) (fun _ _ h=>h.elim));have Z:=qb D;have b4:(i:Int)<(c.xs.length:Int):=by omega
  have H:=qb E;have b3:(c.xs.length:Int)≤1000000:=by omega
  rw[M];clear h D v F M z C o E;generalize hO:qby m.hash x.h.hash.toList=O at l H;have RA:=qb V;have RH:=qb X;have a4:=qb l;have a5:=qb q;clear V X l q hO;go_upto_region 4 with (with_reducible first|(first|refine' tw1 (qg ?_) ?_|refine' tw2 (qg ?_) ?_);rotate_left|refine' tw3 (qg ?_)|rfl|apply tn|refine' tw4 ?_);have V:=qa RA;have X:=qa RH;clear RA RH;go_wp2_with (with_reducible first|(first|refine' tw1 (qg ?_) ?_|refine' tw2 (qg ?_) ?_);rotate_left|refine' tw3 (qg ?_)|rfl|apply tn|refine' tw4 ?_);have l:=qa a4;have q:=qa a5;refine(l _ ((Upd.refl _ _).drew)).mono ?_;rintro e w3 ⟨rfl,n3⟩;have h3:=((qa Z).new ((Upd.refl (fun _=>False) Y).drew)).new n3;have R:qu Y w3:=n3.ofDrew;have t:=q w3 h3;have H3:=qb (h3.fr w);have I:=qb ((qa HU).trans (R.mono (T:=S) (fun _ _ h=>h.elim)));clear l q J V X h3 n3 R;cases O with
  | false =>
   clear t;go_wp2_with (with_reducible first|(first|refine' tw1 (qg ?_) ?_|refine' tw2 (qg ?_) ?_);rotate_left|refine' tw3 (qg ?_)|rfl|apply tn|refine' tw4 ?_);go_ret2;have E:c.hearFulfill m=(c,132):=by rw[qa H];simp
   rw[E];exact⟨rfl,qa H3,qa I⟩
  | true =>
   go_wp2_with (with_reducible first|(first|refine' tw1 (qg ?_) ?_|refine' tw2 (qg ?_) ?_);rotate_left|refine' tw3 (qg ?_)|rfl|apply tn|refine' tw4 ?_);refine t.mono ?_;rintro e w4 ⟨rfl,h4,u4⟩;have H4:=qb (h4.fr w);have a6:=qb ((qa I).trans (u4.mono (T:=S) (fun k _ e=>qa HI k e)));clear t h4 u4;go_wp2_with (with_reducible first|(first|refine' tw1 (qg ?_) ?_|refine' tw2 (qg ?_) ?_);rotate_left|refine' tw3 (qg ?_)|rfl|apply tn|refine' tw4 ?_);go_ret2;have E:c.hearFulfill m=(c.removed i x true,0):=by rw[qa H];simp
   rw[E];exact⟨rfl,qa H4,qa a6⟩
theorem qwc(g:Nat)(S:Nat→Prop)(c:Ch)(m:MsgV)(l:MsgOk m)(w:World)(h:ChS w g S c)(hok:qac m=true)(i:m.ch=c.s.ch)(C:m.kind=4)(t:Tb w) :
  Calls Tryz.prog 41 #[.pointer (some ⟨g,0,none⟩),.agg m.cells.toArray] w (qhd g S w (c.hearFulfill m).1 [] (c.hearFulfill m).2) :=
 qjx _ g S c _ _ _ m l w h hok i (enters_of Tryz.func82 (by kernel_rfl) rfl) (fun q=>by rw[C];exact zg6 q) (fun W o=>(qp6 g S c m l W (h.new o) (t.new o)).mono (by
  rintro e w' ⟨z,v,D⟩;exact⟨_,z,qc0.nil _ _,v,D⟩))
end Go.Proofs.YthnohmjbbeahmaaGreatDoor
namespace Go.Proofs.YthnohmjbbeahmaaGreatDoor
open Go.RowKit
structure Ch.Inv(c:Ch):Prop where
 shelf:q0z c
 peer:c.s.peer.size≤100000000
 ch:0≤c.s.ch∧c.s.ch<4294967296
 heard:c.k.heard<4294967295
 few:c.xs.length≤16
noncomputable def Ch.hear(c:Ch)(m:MsgV):Ch × List MsgV × Int :=
 if qac m=false∨m.ch≠c.s.ch then (c,[],1)
 else if m.kind=3 then ((c.hearAdd m).1,[],(c.hearAdd m).2)
 else if m.kind=4 then ((c.hearFulfill m).1,[],(c.hearFulfill m).2)
 else if m.kind=5 then ((c.hearFail m).1,[],(c.hearFail m).2)
 else if m.kind=6 then c.hearSign m
 else if m.kind=7 then ((c.hearRevoke m).1,[],(c.hearRevoke m).2)
 else (c.hearShut.1,[],c.hearShut.2)
theorem q96(g:Nat)(S:Nat→Prop)(c:Ch)(m:MsgV)(o:MsgOk m)(w:World)(h:ChS w g S c)(q:c.Inv)(v:Tb w)(z:Apart S)(i:m.kind=3∨m.kind=4∨m.kind=5∨m.kind=6∨m.kind=7∨m.kind=8) :
  Calls Tryz.prog 41 #[.pointer (some ⟨g,0,none⟩),.agg m.cells.toArray] w (qhd g S w (c.hear m).1 (c.hear m).2.1 (c.hear m).2.2):=by
 by_cases t:qac m=false∨m.ch≠c.s.ch
 ·have e:c.hear m=(c,[],1):=by unfold Ch.hear;rw[if_pos t]
  rw[e];refine(qyy g S c m o w h t).mono ?_;rintro e w' ⟨D,C⟩;exact⟨_,D,qc0.nil _ _,(h.new C).frW,C.mono (fun _ _ h=>h.elim)⟩
 ·have hok:qac m=true:=by
   cases E:qac m with
   | true=>rfl
   | false=>exact absurd (.inl E) t
  have l:m.ch=c.s.ch:=Decidable.of_not_not (fun e=>t (.inr e));have e:c.hear m=if m.kind=3 then ((c.hearAdd m).1,[],(c.hearAdd m).2) else if m.kind=4 then ((c.hearFulfill m).1,[],(c.hearFulfill m).2) else if m.kind=5 then ((c.hearFail m).1,[],(c.hearFail m).2) else if m.kind=6 then c.hearSign m else if m.kind=7 then ((c.hearRevoke m).1,[],(c.hearRevoke m).2) else (c.hearShut.1,[],c.hearShut.2):=by unfold Ch.hear;rw[if_neg t]
  rcases i with i | i | i | i | i | i
  ·rw[e,if_pos i];exact q95 g S c m o w h hok l i (by have:=q.few;omega)
  ·rw[e,if_neg (by omega),if_pos i];exact qwc g S c m o w h hok l i v
  ·rw[e,if_neg (by omega),if_neg (by omega),if_pos i];exact q6g g S c m o w h hok l i
  ·rw[e,if_neg (by omega),if_neg (by omega),if_neg (by omega),if_pos i];exact q6k g S c m o w h hok l i v z q.peer q.ch q.heard q.few
  ·rw[e,if_neg (by omega),if_neg (by omega),if_neg (by omega),if_neg (by omega),if_pos i];exact qyz g S c m o w h hok l i q.shelf v z
  ·rw[e,if_neg (by omega),if_neg (by omega),if_neg (by omega),if_neg (by omega),if_neg (by omega)];exact q6j g S c m o w h hok l i
structure Pr where
 a:Ch
 b:Ch
 wa:List MsgV
 wb:List MsgV
 bad:Bool
noncomputable def Pr.hears0(P:Pr):Pr × Bool:=match P.wa with
 | []=>(P,false)
 | m::ms=>(⟨(P.a.hear m).1,P.b,ms,P.wb++(P.a.hear m).2.1,P.bad || decide ((P.a.hear m).2.2≠0)⟩,true)
noncomputable def Pr.hears1(P:Pr):Pr × Bool:=match P.wb with
 | []=>(P,false)
 | m::ms=>(⟨P.a,(P.b.hear m).1,P.wa++(P.b.hear m).2.1,ms,P.bad || decide ((P.b.hear m).2.2≠0)⟩,true)
structure HearOk(c:Ch)(m:MsgV)(other:List MsgV):Prop where
 inv:c.Inv
 kind:m.kind=3∨m.kind=4∨m.kind=5∨m.kind=6∨m.kind=7∨m.kind=8
 says:∀l∈(c.hear m).2.1,MsgOk l
 few:other.length+(c.hear m).2.1.length≤1000000
def Pr.Ok0(P:Pr):Prop:=match P.wa with | []=>True | m::ms=>MsgOk m∧HearOk P.a m P.wb∧ms.length<1000000
def Pr.Ok1(P:Pr):Prop:=match P.wb with | []=>True | m::ms=>MsgOk m∧HearOk P.b m P.wa∧ms.length<1000000
structure SignOk(c:Ch):Prop where
 key:c.s.key.size≤100000000
 ch:0≤c.s.ch∧c.s.ch<4294967296
 few:c.news.length<1000000
 xs:c.xs.length≤16
noncomputable def Pr.sign0(P:Pr):Pr:= {P with a:=P.a.sign.1,wb:=if P.a.sign.2.2=0 then P.wb++[P.a.sign.2.1] else P.wb}
noncomputable def Pr.sign1(P:Pr):Pr:= {P with b:=P.b.sign.1,wa:=if P.b.sign.2.2=0 then P.wa++[P.b.sign.2.1] else P.wa}
noncomputable def Pr.round(P:Pr):Pr:=P.hears0.1.hears1.1.sign0.sign1
noncomputable def Pr.went(P:Pr):Bool:=P.hears0.1.hears1.2 || P.hears0.2 || (P.hears0.1.hears1.1.a.sign.2.2==0) || (P.hears0.1.hears1.1.sign0.b.sign.2.2==0)
structure Pr.RoundOk(P:Pr):Prop where
 ok0:P.Ok0
 ok1:P.hears0.1.Ok1
 sg0:SignOk P.hears0.1.hears1.1.a
 sg1:SignOk P.hears0.1.hears1.1.sign0.b
 ms0:MsgOk P.hears0.1.hears1.1.a.sign.2.1
 ms1:MsgOk P.hears0.1.hears1.1.sign0.b.sign.2.1
 few0:P.hears0.1.hears1.1.wb.length<1000000
 few1:P.hears0.1.hears1.1.sign0.wa.length<1000000
inductive Rests:Nat→Pr→Pr→Prop
 | out (P:Pr):Rests 0 P P
 | stop (n:Nat) (P:Pr):P.RoundOk→P.went=false→Rests (n+1) P P.round
 | step (n:Nat) (P Q:Pr):P.RoundOk→P.went=true→Rests n P.round Q→Rests (n+1) P Q
theorem quc(i:Nat){k p d:Nat}(g:k≤p)(l:p≤d):hiB i d k=hiB i d p++hiB i p k:=by
 unfold hiB;rw[←List.filter_append,←List.reverse_append];congr 2;have e:=List.range'_append_1 (s:=k) (m:=p-k) (n:=d-p);rw[show k+(p-k)=p by omega,show p-k+(d-p)=d-k by omega] at e;exact e.symm
theorem zab{i p:Nat}(h:∀b,b<p→i.testBit b=false):hiB i p 0=[]:=by
 unfold hiB;rw[List.filter_eq_nil_iff];intro b g;rw[List.mem_reverse,List.mem_range'_1] at g;rw[h b (by omega)];decide
theorem zaa{f t d p:Nat}(h:f / 2 ^ p=t / 2 ^ p):hiB f d p=hiB t d p:=by
 unfold hiB;refine List.filter_congr fun b l=> ?_
 rw[List.mem_reverse,List.mem_range'_1] at l;have g:=Nat.testBit_div_two_pow (n:=p) f (b-p);have i:=Nat.testBit_div_two_pow (n:=p) t (b-p);rw[show b-p+p=b by omega] at g i;rw[←g,←i,h]
theorem q7j{f:Int}(l:qda f=true):∀b,b<qbq f→f.toNat.testBit b=false:=by
 intro b g;unfold qbq at g;rw[if_pos l] at g;by_cases i:f.toNat=0
 ·rw[i];exact Nat.zero_testBit b
 ·have q:=qox l;obtain⟨m,o,-⟩:=Lib.ctzFrom_spec 64 f.toNat (by omega) (by omega);have e:Lib.ctz 64 f.toNat=Lib.ctzFrom 64 f.toNat:=by unfold Lib.ctz;rw[if_neg i]
  rw[e] at g;generalize Lib.ctzFrom 64 f.toNat=z at g o;rw[o,Nat.testBit_two_pow_mul];simp only[Bool.and_eq_false_imp,decide_eq_true_eq];intro h;omega
theorem qyi(h:List Int){f t:Int}(i:qm6 f t=true):qcv (qcp h f).1 f t=((qcp h t).1,0):=by
 have g:=i;unfold qm6 at g;simp only[Bool.and_eq_true,beq_iff_eq] at g;obtain⟨l,o,hd⟩:=g;have m:=ql0 f;unfold qcv qcp;rw[if_pos i,if_pos l,if_pos o];have e:qdv (qdv h f.toNat 16) t.toNat (qbq f)=qdv h t.toNat 16:=by
  unfold qdv;rw[←List.foldl_append,quc t.toNat (Nat.zero_le _) m,quc f.toNat (Nat.zero_le _) m,zab (q7j l),zaa hd,List.append_nil]
 rw[e]
def ziy(h:List Int)(k:KeptV):Prop:=qal k.told∧(k.full=true→k.told=(qcp h k.number).1)
def qaj(h:List Int)(ps:List KeptV):Prop:=∀k∈ps,ziy h k
theorem ql7(h:List Int):qaj h (List.replicate 17 .zero):=by
 intro k g;rw[List.eq_of_mem_replicate g];exact⟨qc6,fun h=>by cases h⟩
theorem qh7(h:List Int)(g:qal h)(i:Int):qal (qcp h i).1:=by
 unfold qcp;split
 ·exact qm7 h g _ _
 ·exact qc6
theorem q2s{h:List Int}{i:Int}{k:KeptV}(l:k.told=(qcp h k.number).1):qim (qcp h i).1 i k=false:=by
 unfold qim;cases g:qm6 i k.number with
 | false =>
  have e:qcv (qcp h i).1 i k.number=(zv,1):=by unfold qcv;rw[if_neg (by rw[g];decide)]
  rw[e];rfl
 | true =>
  rw[qyi h g,l];simp
theorem q5k{i:Int}(h:qda i=true):qm6 i i=true:=by
 unfold qm6;rw[h];simp
theorem qos{h:List Int}{i:Int}{ps:List KeptV}(l:qda i=true)(o:qaj h ps):qft (qcp h i).1 i ps=0:=by
 have e:qnn (qcp h i).1 i (ps.take (qbq i))=none:=by
  unfold qnn;rw[List.find?_eq_none];intro k m;cases g:k.full with
  | false=>simp
  | true =>
   rw[q2s ((o k (List.mem_of_mem_take m)).2 g)];decide
 unfold qft;rw[q5k l,e];rfl
theorem qrv{h:List Int}(l:qal h){i:Int}{ps:List KeptV}(g:qaj h ps):qaj h (qkl (qcp h i).1 i ps):=by
 unfold qkl;split
 ·intro k m;rcases List.mem_or_eq_of_mem_set m with e | e
  ·exact g k e
  ·rw[e];exact⟨qh7 h l i,fun _=>rfl⟩
 ·exact g
section
variable {c:Ch}{m:MsgV}
theorem qqf(l:qac m=true)(g:m.ch=c.s.ch)(i:m.kind=3):c.hear m=((c.hearAdd m).1,[],(c.hearAdd m).2):=by
 unfold Ch.hear;rw[if_neg (by rw[l,g];simp),if_pos i]
theorem qqg(l:qac m=true)(g:m.ch=c.s.ch)(i:m.kind=4):c.hear m=((c.hearFulfill m).1,[],(c.hearFulfill m).2):=by
 unfold Ch.hear;rw[if_neg (by rw[l,g];simp),if_neg (by omega),if_pos i]
theorem qwd(l:qac m=true)(g:m.ch=c.s.ch)(i:m.kind=5):c.hear m=((c.hearFail m).1,[],(c.hearFail m).2):=by
 unfold Ch.hear;rw[if_neg (by rw[l,g];simp),if_neg (by omega),if_neg (by omega),if_pos i]
theorem qlr(l:qac m=true)(g:m.ch=c.s.ch)(i:m.kind=6):c.hear m=c.hearSign m:=by
 unfold Ch.hear;rw[if_neg (by rw[l,g];simp),if_neg (by omega),if_neg (by omega),if_neg (by omega),if_pos i]
theorem qls(l:qac m=true)(g:m.ch=c.s.ch)(i:m.kind=7):c.hear m=((c.hearRevoke m).1,[],(c.hearRevoke m).2):=by
 unfold Ch.hear;rw[if_neg (by rw[l,g];simp),if_neg (by omega),if_neg (by omega),if_neg (by omega),if_neg (by omega),if_pos i]
theorem zdy(i:qac m=true)(g:m.ch=c.s.ch)(l:m.kind=8):c.hear m=(c.hearShut.1,[],c.hearShut.2):=by
 unfold Ch.hear;rw[if_neg (by rw[i,g];simp),if_neg (by omega),if_neg (by omega),if_neg (by omega),if_neg (by omega),if_neg (by omega)]
end
theorem q56(l:List Live):∀c:Ch,(∀z∈l,z.state≠9)→l.foldl qbl c=c:=by
 induction l with
 | nil=>intro c _;rfl
 | cons z l i =>
  intro c h;rw[List.foldl_cons,show qbl c z=c by unfold qbl;rw[if_neg (h z (List.mem_cons_self ..))],i c fun y g=>h y (List.mem_cons_of_mem _ g)]
theorem qiv{c:Ch}{ev:Int}{L:List Live}(h:qo ev c.xs=L)(g:∀z∈L,z.state≠9):c.goOn ev = {c with xs:=L} := by
 unfold Ch.goOn;rw[h,q56 L c g];have:qa7 L=L:=by
  unfold qa7;rw[List.filter_eq_self];intro z i;have:=g z i;simpa using this
 rw[this]
theorem qua{c:Ch}{ev:Int}{z:Live}(h:qo ev c.xs=[z])(g:z.state=9):c.goOn ev = {c.give (z.own != z.paid) z.h.amount with xs:=[]} := by
 unfold Ch.goOn;rw[h,List.foldl_cons,List.foldl_nil,show qbl c z=c.give (z.own != z.paid) z.h.amount by unfold qbl;rw[if_pos g]];have:qa7 [z]=[]:=by
  unfold qa7;rw[List.filter_eq_nil_iff];intro y i;rw[List.mem_singleton.1 i,g];decide
 rw[this]
section
variable {s:SetupV}{sg hd no nt x y k:Int}{f1 f2 rv aw:Bool}{L L1 L2:List Live}{z:Live}{sh:List KeptV}{nw la:List MsgV}{T:List Int}
theorem zb6(t:sg≠65535)(o:zl 1 L=true)(l:qo 1 L=L1)(i:∀z∈L1,z.state≠9) :
  (Ch.mk s ⟨sg,hd,false,no,nt,f1,f2,rv⟩ x y L sh nw la).sign=(Ch.mk s ⟨sg+1,hd,true,no,nt,f1,f2,false⟩ x y L1 sh [] (nw++[⟨6,s.ch,0,0,zt false s.key s.ch (sg+1) x y L1,0,sg+1⟩]),⟨6,s.ch,0,0,zt false s.key s.ch (sg+1) x y L1,0,sg+1⟩,0):=by
 have e:qa3 (Ch.mk s ⟨sg,hd,false,no,nt,f1,f2,rv⟩ x y L sh nw la)=0:=by
  unfold qa3;rw[if_neg (by simp),if_neg (by rw[o];simp),if_neg t]
 have g:(Ch.mk s ⟨sg,hd,false,no,nt,f1,f2,rv⟩ x y L sh nw la).signing=Ch.mk s ⟨sg+1,hd,true,no,nt,f1,f2,false⟩ x y L1 sh nw la:=by
  unfold Ch.signing;rw[qiv (L:=L1) l i]
 have q:qbb (Ch.mk s ⟨sg,hd,false,no,nt,f1,f2,rv⟩ x y L sh nw la)=⟨6,0,0,0,zt false s.key s.ch (sg+1) x y L1,0,sg+1⟩:=by
  unfold qbb;rw[g]
 rw[qu0 e,g,q]
 generalize zt false s.key s.ch (sg+1) x y L1=T
 rfl
theorem zb7(c:Ch)(h:c.k.awaits=true∨zl 1 c.xs=false):c.sign=(c,MsgV.zero,5):=by
 refine qlj ?_ (by decide);unfold qa3;by_cases g:c.k.awaits=true
 ·rw[if_pos g]
 ·rw[if_neg g,if_pos (h.resolve_left g)]
theorem q24(g:0≤hd):(Ch.mk s ⟨sg,hd+1,aw,no,nt,f1,f2,true⟩ x y L sh nw la).revocation=⟨7,s.ch,0,0,(qcp s.seed (65535-hd)).1,0,hd⟩:=by
 unfold Ch.revocation;have e:(Ch.mk s ⟨sg,hd+1,aw,no,nt,f1,f2,true⟩ x y L sh nw la).secret hd=qcp s.seed (65535-hd):=by
  unfold Ch.secret;rw[if_neg (by show ¬(hd<0∨hd+1≤hd);omega)]
 show (⟨7,s.ch,0,0,((Ch.mk s ⟨sg,hd+1,aw,no,nt,f1,f2,true⟩ x y L sh nw la).secret (hd+1-1)).1,0,hd+1-1⟩:MsgV)=_;rw[show hd+1-1=hd by omega,e]
theorem zaj(D:0≤hd)(C:zl 3 L=true)(o:qo 3 L=L1)(i:∀z∈L1,z.state≠9)(v:qo 4 L1=L2)(l:∀z∈L2,z.state≠9)(w:T=zt true s.peer s.ch (hd+1) x y L1) :
  (Ch.mk s ⟨sg,hd,aw,no,nt,f1,f2,rv⟩ x y L sh nw la).hearSign ⟨6,s.ch,0,0,T,0,hd+1⟩=(Ch.mk s ⟨sg,hd+1,aw,no,nt,f1,f2,true⟩ x y L2 sh nw la,[⟨7,s.ch,0,0,(qcp s.seed (65535-hd)).1,0,hd⟩],0):=by
 have e:qgx (Ch.mk s ⟨sg,hd,aw,no,nt,f1,f2,rv⟩ x y L sh nw la) ⟨6,s.ch,0,0,T,0,hd+1⟩=false:=by
  unfold qgx;show (T != zt true s.peer s.ch (hd+1) x y (qo 3 L))=false;rw[o,w];exact bne_self_eq_false _
 have g:(Ch.mk s ⟨sg,hd,aw,no,nt,f1,f2,rv⟩ x y L sh nw la).signedBy=Ch.mk s ⟨sg,hd+1,aw,no,nt,f1,f2,true⟩ x y L2 sh nw la:=by
  have q:(Ch.mk s ⟨sg,hd,aw,no,nt,f1,f2,rv⟩ x y L sh nw la).goOn 3=Ch.mk s ⟨sg,hd,aw,no,nt,f1,f2,rv⟩ x y L1 sh nw la:=qiv (L:=L1) o i;have t:(Ch.mk s ⟨sg,hd+1,aw,no,nt,f1,f2,rv⟩ x y L1 sh nw la).goOn 4=Ch.mk s ⟨sg,hd+1,aw,no,nt,f1,f2,rv⟩ x y L2 sh nw la:=qiv (L:=L2) v l;unfold Ch.signedBy;rw[q];show ((Ch.mk s ⟨sg,hd+1,aw,no,nt,f1,f2,rv⟩ x y L1 sh nw la).goOn 4).revokes=_;rw[t];rfl
 rw[qik C rfl e,g,q24 D]
theorem qru(D:0≤hd)(C:zl 3 L=true)(o:qo 3 L=L1)(i:∀z∈L1,z.state≠9)(v:qo 4 L1=[z])(l:z.state=9)(w:T=zt true s.peer s.ch (hd+1) x y L1) :
  (Ch.mk s ⟨sg,hd,aw,no,nt,f1,f2,rv⟩ x y L sh nw la).hearSign ⟨6,s.ch,0,0,T,0,hd+1⟩=(Ch.mk s ⟨sg,hd+1,aw,no,nt,f1,f2,true⟩ (if (z.own != z.paid)=true then IntKind.u64.wrap (x+z.h.amount) else x) (if (z.own != z.paid)=true then y else IntKind.u64.wrap (y+z.h.amount)) [] sh nw la,[⟨7,s.ch,0,0,(qcp s.seed (65535-hd)).1,0,hd⟩],0):=by
 have e:qgx (Ch.mk s ⟨sg,hd,aw,no,nt,f1,f2,rv⟩ x y L sh nw la) ⟨6,s.ch,0,0,T,0,hd+1⟩=false:=by
  unfold qgx;show (T != zt true s.peer s.ch (hd+1) x y (qo 3 L))=false;rw[o,w];exact bne_self_eq_false _
 have g:(Ch.mk s ⟨sg,hd,aw,no,nt,f1,f2,rv⟩ x y L sh nw la).signedBy=Ch.mk s ⟨sg,hd+1,aw,no,nt,f1,f2,true⟩ (if (z.own != z.paid)=true then IntKind.u64.wrap (x+z.h.amount) else x) (if (z.own != z.paid)=true then y else IntKind.u64.wrap (y+z.h.amount)) [] sh nw la:=by
  have q:(Ch.mk s ⟨sg,hd,aw,no,nt,f1,f2,rv⟩ x y L sh nw la).goOn 3=Ch.mk s ⟨sg,hd,aw,no,nt,f1,f2,rv⟩ x y L1 sh nw la:=qiv (L:=L1) o i;have t:(Ch.mk s ⟨sg,hd+1,aw,no,nt,f1,f2,rv⟩ x y L1 sh nw la).goOn 4=_:=qua (z:=z) v l;unfold Ch.signedBy;rw[q];show ((Ch.mk s ⟨sg,hd+1,aw,no,nt,f1,f2,rv⟩ x y L1 sh nw la).goOn 4).revokes=_;rw[t];unfold Ch.give;cases (z.own != z.paid)<;>rfl
 rw[qik C rfl e,g,q24 D]
theorem q4b{c:Ch}{R:List Int}{ch:Int}(g:c.k.awaits=true)(i:c.k.signed=k+1)(l:qft R (65535-k) c.shelf=0):c.hearRevoke ⟨7,ch,0,0,R,0,k⟩=(((c.shelved ⟨7,ch,0,0,R,0,k⟩).goOn 2).unawait,0):=by
 have e:qj5 c ⟨7,ch,0,0,R,0,k⟩=0:=by
  unfold qj5;rw[if_neg (by rw[g];decide),if_neg (by rw[i];show ¬(k≠k+1-1);omega),if_neg (by show ¬(qft R (65535-k) c.shelf≠0);rw[l];decide)]
 unfold Ch.hearRevoke;rw[if_pos e]
theorem zaf{R:List Int}{ch:Int}(l:qft R (65535-k) sh=0)(g:qo 2 L=L1)(i:∀z∈L1,z.state≠9) :
  (Ch.mk s ⟨k+1,hd,true,no,nt,f1,f2,rv⟩ x y L sh nw la).hearRevoke ⟨7,ch,0,0,R,0,k⟩=(Ch.mk s ⟨k+1,hd,false,no,nt,f1,f2,rv⟩ x y L1 (qkl R (65535-k) sh) nw la,0):=by
 rw[q4b rfl rfl l]
 rw[qiv (L:=L1) (by exact g) i]
 rfl
theorem qrr{R:List Int}{ch:Int}(l:qft R (65535-k) sh=0)(g:qo 2 L=[z])(i:z.state=9) :
  (Ch.mk s ⟨k+1,hd,true,no,nt,f1,f2,rv⟩ x y L sh nw la).hearRevoke ⟨7,ch,0,0,R,0,k⟩=(Ch.mk s ⟨k+1,hd,false,no,nt,f1,f2,rv⟩ (if (z.own != z.paid)=true then IntKind.u64.wrap (x+z.h.amount) else x) (if (z.own != z.paid)=true then y else IntKind.u64.wrap (y+z.h.amount)) [] (qkl R (65535-k) sh) nw la,0):=by
 rw[q4b rfl rfl l]
 rw[qua (z:=z) (by exact g) i]
 unfold Ch.give
 cases (z.own != z.paid)<;>rfl
end
structure HearSt(c:Ch)(m:MsgV)(c':Ch)(l:List MsgV):Prop where
 ok:MsgOk m
 eq:c.hear m=(c',l,0)
 inv:c.Inv
 kind:m.kind=3∨m.kind=4∨m.kind=5∨m.kind=6∨m.kind=7∨m.kind=8
 says:∀l'∈l,MsgOk l'
 few:l.length≤1000
structure SignSt(c c':Ch)(M:MsgV)(E:Int):Prop where
 eq:c.sign=(c',M,E)
 sok:SignOk c
 ok:MsgOk M
def qff(c:Ch)(ws:List MsgV)(c':Ch)(l i:List MsgV)(g:Bool):Prop:=(ws=[]∧c'=c∧l=[]∧i=[]∧g=false)∨(∃m,ws=m::i∧HearSt c m c' l∧g=true)
theorem qff.no(c:Ch):qff c [] c [] [] false:= .inl ⟨rfl,rfl,rfl,rfl,rfl⟩
theorem qff.yes{c c':Ch}{m:MsgV}{l ws:List MsgV}(h:HearSt c m c' l):qff c (m::ws) c' l ws true:= .inr ⟨m,rfl,h,rfl⟩
section
variable {a b a1 b1 a2 b2:Ch}{wa wb wa1 wb2 l0 l1:List MsgV}{bad g0 g1:Bool}{Ma Mb:MsgV}{Ea Eb:Int}{Q:Pr}{n:Nat}
theorem zh8(h:qff a wa a1 l0 wa1 g0)(f:wa.length≤1000∧wb.length≤1000):Pr.hears0 ⟨a,b,wa,wb,bad⟩=(⟨a1,b,wa1,wb++l0,bad⟩,g0)∧Pr.Ok0 ⟨a,b,wa,wb,bad⟩:=by
 rcases h with ⟨rfl,rfl,rfl,rfl,rfl⟩ | ⟨m,rfl,h,rfl⟩
 ·exact⟨show _=((⟨a1,b,[],wb++[],bad⟩:Pr),false) by rw[List.append_nil];rfl,trivial⟩
 ·refine⟨?_,h.ok,⟨h.inv,h.kind,?_,?_⟩,?_⟩
  ·show ((⟨(a.hear m).1,b,wa1,wb++(a.hear m).2.1,bad || decide ((a.hear m).2.2≠0)⟩:Pr),true)=_;rw[h.eq];simp
  ·rw[h.eq];exact h.says
  ·have:=h.few;rw[h.eq];show wb.length+l0.length≤_;omega
  ·have:=f.1;rw[List.length_cons] at this;omega
theorem zh9(h:qff b wb b1 l1 wb2 g1)(f:wa.length≤1000∧wb.length≤1000):Pr.hears1 ⟨a,b,wa,wb,bad⟩=(⟨a,b1,wa++l1,wb2,bad⟩,g1)∧Pr.Ok1 ⟨a,b,wa,wb,bad⟩:=by
 rcases h with ⟨rfl,rfl,rfl,rfl,rfl⟩ | ⟨m,rfl,h,rfl⟩
 ·exact⟨show _=((⟨a,b1,wa++[],[],bad⟩:Pr),false) by rw[List.append_nil];rfl,trivial⟩
 ·refine⟨?_,h.ok,⟨h.inv,h.kind,?_,?_⟩,?_⟩
  ·show ((⟨a,(b.hear m).1,wa++(b.hear m).2.1,wb2,bad || decide ((b.hear m).2.2≠0)⟩:Pr),true)=_;rw[h.eq];simp
  ·rw[h.eq];exact h.says
  ·have:=h.few;rw[h.eq];show wa.length+l1.length≤_;omega
  ·have:=f.2;rw[List.length_cons] at this;omega
theorem qz5(w:qff a wa a1 l0 wa1 g0)(C:qff b (wb++l0) b1 l1 wb2 g1)(l:SignSt a1 a2 Ma Ea)(o:SignSt b1 b2 Mb Eb)(f:wa.length≤1000∧wb.length≤1000)(f1:wa1.length≤1000∧(wb++l0).length≤1000)(f2:(wa1++l1).length≤1000∧wb2.length≤1000) :
  (Pr.mk a b wa wb bad).RoundOk∧(Pr.mk a b wa wb bad).round=⟨a2,b2,if Eb=0 then wa1++l1++[Mb] else wa1++l1,if Ea=0 then wb2++[Ma] else wb2,bad⟩∧(Pr.mk a b wa wb bad).went=(g1 || g0 || (Ea==0) || (Eb==0)):=by
 obtain⟨e0,D⟩:=zh8 (b:=b) (bad:=bad) w f
 obtain⟨t,E⟩:=zh9 (a:=a1) (bad:=bad) C f1
 have q:(Pr.mk a b wa wb bad).hears0.1=⟨a1,b,wa1,wb++l0,bad⟩:=by rw[e0]
 have g:(Pr.mk a b wa wb bad).hears0.1.hears1.1=⟨a1,b1,wa1++l1,wb2,bad⟩:=by rw[q,t]
 have i:(Pr.mk a1 b1 (wa1++l1) wb2 bad).sign0=⟨a2,b1,wa1++l1,if Ea=0 then wb2++[Ma] else wb2,bad⟩:=by
  unfold Pr.sign0;simp only[l.eq]
 have v:(Pr.mk a2 b1 (wa1++l1) (if Ea=0 then wb2++[Ma] else wb2) bad).sign1=⟨a2,b2,if Eb=0 then wa1++l1++[Mb] else wa1++l1,if Ea=0 then wb2++[Ma] else wb2,bad⟩:=by
  unfold Pr.sign1;simp only[o.eq]
 refine⟨⟨D,?_,?_,?_,?_,?_,?_,?_⟩,?_,?_⟩
 ·rw[q];exact E
 ·rw[g];exact l.sok
 ·rw[g,i];exact o.sok
 ·rw[g];show MsgOk a1.sign.2.1;rw[l.eq];exact l.ok
 ·rw[g,i];show MsgOk b1.sign.2.1;rw[o.eq];exact o.ok
 ·rw[g];show wb2.length<_;omega
 ·rw[g,i];show (wa1++l1).length<_;omega
 ·unfold Pr.round;rw[g,i,v]
 ·unfold Pr.went;rw[g,i,q,t,e0];simp only[l.eq,o.eq]
theorem go_round(g:qff a wa a1 l0 wa1 g0)(i:qff b (wb++l0) b1 l1 wb2 g1)(v:SignSt a1 a2 Ma Ea)(w:SignSt b1 b2 Mb Eb)(f:wa.length≤1000∧wb.length≤1000)(f1:wa1.length≤1000∧(wb++l0).length≤1000)(f2:(wa1++l1).length≤1000∧wb2.length≤1000)
  (l:(g1 || g0 || (Ea==0) || (Eb==0))=true) (next:Rests n ⟨a2,b2,if Eb=0 then wa1++l1++[Mb] else wa1++l1,if Ea=0 then wb2++[Ma] else wb2,bad⟩ Q):Rests (n+1) ⟨a,b,wa,wb,bad⟩ Q:=by
 obtain⟨o,q,t⟩:=qz5 (bad:=bad) g i v w f f1 f2
 exact .step n _ Q o (by rw[t];exact l) (by rw[q];exact next)
theorem go_stop(o:SignSt a a Ma 5)(q:SignSt b b Mb 5):Rests (n+1) ⟨a,b,[],[],bad⟩ ⟨a,b,[],[],bad⟩:=by
 obtain⟨g,i,l⟩:=qz5 (a:=a) (b:=b) (wa:=[]) (wb:=[]) (l0:=[]) (l1:=[]) (wa1:=[]) (wb2:=[]) (bad:=bad) (qff.no a) (qff.no b) o q ⟨by decide,by decide⟩ ⟨by decide,by decide⟩ ⟨by decide,by decide⟩;have h:=Rests.stop n _ g (by rw[l];rfl);rw[i] at h;exact h
end
end Go.Proofs.YthnohmjbbeahmaaGreatDoor
