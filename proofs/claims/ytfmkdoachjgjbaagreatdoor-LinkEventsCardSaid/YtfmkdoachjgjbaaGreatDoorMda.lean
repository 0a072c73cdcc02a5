/-
  Fail.
-/
import Derived.Test.YtfmkdoachjgjbaaGreatDoorMcd
import Derived.Test.YtfmkdoachjgjbaaGreatDoorMbf
import Derived.Test.YtfmkdoachjgjbaaGreatDoorMbe
import Derived.Test.YtfmkdoachjgjbaaGreatDoorMcj
set_option linter.unusedVariables false
set_option linter.unusedSimpArgs false
namespace Go.Proofs.YtfmkdoachjgjbaaGreatDoor
open Go.RowKit
attribute [local go_sem ↓ high] qz zb zc zf
attribute [local go_sem] qaw qax qa1 zt qtb qw
def qgb(id r:Int):MsgV:=⟨5,0,id,0,ze,0,r⟩
def Ch.fail(c:Ch)(id r:Int):Ch × MsgV × Int:=match qdl false id c.xs with
 | none=>(c,MsgV.zero,3)
 | some p=>if r<0∨65535<r then (c,MsgV.zero,1) else ((c.removed p.1 p.2 false).say (qgb id r),(qgb id r).on c.s.ch,0)
theorem q0d{c:Ch}{id r:Int}(h:qdl false id c.xs=none):c.fail id r=(c,MsgV.zero,3):=by unfold Ch.fail;rw[h]
theorem q4t{c:Ch}{id r:Int}{p:Nat × Live}(h:qdl false id c.xs=some p)(f:r<0∨65535<r):c.fail id r=(c,MsgV.zero,1):=by unfold Ch.fail;rw[h];simp only;rw[if_pos f]
theorem qp4{c:Ch}{id r:Int}{i:Nat}{x:Live}(h:qdl false id c.xs=some (i,x))(f:¬(r<0∨65535<r)):c.fail id r=((c.removed i x false).say (qgb id r),(qgb id r).on c.s.ch,0):=by unfold Ch.fail;rw[h];simp only;rw[if_neg f]
set_option maxRecDepth 100000 in
set_option maxHeartbeats 1000000 in
theorem q4s(g:Nat)(S:Nat→Prop)(c:Ch)(id r:Int)(w:World)(h:ChS w g S c)(a6:c.news.length<1000000) :
  Calls Tryz.prog 53 #[.pointer (some ⟨g,0,none⟩),.int .u64 id,.int .i64 r] w fun e w' =>
   e = .returned (.tuple #[.agg (c.fail id r).2.1.cells.toArray,.int .i64 (c.fail id r).2.2])∧ChS w' g (Fr S w w') (c.fail id r).1∧Upd S w w':=by
 obtain⟨lv,nv,av,h⟩:=h
 go_enter Tryz.func53,Tryz.ntmps53
 go_upto_region 1 with fail
 have V:=qai w MsgV.zero qo
 have n1:qq w (w.alloc (.cells MsgV.zero.cells.toArray 101)):=(Upd.refl _ _).alloc _
 generalize w.alloc (.cells MsgV.zero.cells.toArray 101)=w1 at V n1 ⊢
 obtain⟨B,X⟩:∃B,B=w.heap.size:=⟨_,rfl⟩
 rw[←X] at V ⊢
 have b5:w.heap.size≤B:=by omega
 have b6:g≠B:=by have:=h.lt g h.inG;omega
 have q:¬S B:=fun e=>by have:=h.lt B e;omega
 clear X
 have h1:=h.new n1
 have Z:=qn3 g S c false id w1 ⟨lv,nv,av,h1⟩
 have bad:∀(W:World),qq w1 W →
   stOk W B 0 38 MsgV.zero.cells.toArray=true∧MsB (W.setCells B 0 MsgV.zero.cells) B MsgV.zero∧ChS (W.setCells B 0 MsgV.zero.cells) g (Fr S w (W.setCells B 0 MsgV.zero.cells)) c∧Upd S w (W.setCells B 0 MsgV.zero.cells):=by
  intro W nW
  have Z:=V.new nW
  have u:=zj (w:=W) (b:=B) MsgV.zero.cells
  exact⟨Z.stOk qo,Z.put qo,ChS.frW (w1:=w) ⟨lv,nv,av,((h1.new nW).upd u (fun k J e=>by rw[e] at J;exact q J))⟩,((n1.trans nW).mono (T:=S) (fun _ _ h=>h.elim)).then u (fun i C e=>by omega)⟩
 have v:=qb bad
 have HB:=qb V
 have HI:=qb h.inL
 have H1:=qb h1
 have b4:=qb h.lt
 have N1:=qb n1
 clear h h1 V n1 bad
 go_wp2_with fail
 refine Z.mono ?_
 rintro e w2 ⟨rfl,L⟩
 clear Z
 cases F:qdl false id c.xs with
 | none =>
  have C:=qjz F;obtain⟨K,f,z,Y⟩:=qa v w2 L;have N:=qb (q0d (r:=r) F);have O:=qb f;have M:=qb z;have P:=qb Y;rw[C];clear f z Y L F C;go_wp2_with (with_reducible first|(first|refine' tw1 (qh ?_) ?_|refine' tw2 (qh ?_) ?_);rotate_left|refine' tw3 (qh ?_)|rfl|apply tn|refine' tw4 ?_);have f:=qa O;refine bodyPost_ret (qy rfl _ _ B _ _ _ _ rfl f.at_ Tryz.underlying101 rfl (by rw[f.agg];exact Tryz.infoMsg)) rfl ?_;rw[qa N];exact⟨rfl,qa M,qa P⟩
 | some pr =>
  obtain⟨i,x⟩:=pr;obtain⟨C,I,-⟩:=qj0 F;have h2:=(qa H1).new L;rw[C];by_cases R:r<0∨65535<r
  ·obtain⟨K,f,z,Y⟩:=qa v w2 L;have N:=qb (q4t F R);have O:=qb f;have M:=qb z;have P:=qb Y;clear f z Y L F C I h2;rcases R with R | R
   ·go_wp2_with (with_reducible first|(first|refine' tw1 (qh ?_) ?_|refine' tw2 (qh ?_) ?_);rotate_left|refine' tw3 (qh ?_)|rfl|apply tn|refine' tw4 ?_);have f:=qa O;refine bodyPost_ret (qy rfl _ _ B _ _ _ _ rfl f.at_ Tryz.underlying101 rfl (by rw[f.agg];exact Tryz.infoMsg)) rfl ?_;rw[qa N];exact⟨rfl,qa M,qa P⟩
   ·have a8:¬r<0:=by omega
    go_wp2_with (with_reducible first|(first|refine' tw1 (qh ?_) ?_|refine' tw2 (qh ?_) ?_);rotate_left|refine' tw3 (qh ?_)|rfl|apply tn|refine' tw4 ?_);have f:=qa O;refine bodyPost_ret (qy rfl _ _ B _ _ _ _ rfl f.at_ Tryz.underlying101 rfl (by rw[f.agg];exact Tryz.infoMsg)) rfl ?_;rw[qa N];exact⟨rfl,qa M,qa P⟩
  ·have a7:=qkf g S c lv nv av i x false w2 h2 I;have N:=qb (qp4 F R);have a8:¬r<0:=by omega
   have b7:¬65535<r:=by omega
   have N2:=qb L;clear L F C I h2 R;go_wp2_with fail;refine a7.mono ?_;rintro e w3 ⟨rfl,h3,u3⟩;have E:=fun W (hW:ChS W g S (c.removed i x false))=>qsu g S (c.removed i x false) (qgb id r) qo W hW a6
   have m:=E w3 ⟨lv,nv,av,h3⟩;have U3:=qb ((((qa N1).trans (qa N2)).mono (T:=S) (fun _ _ h=>h.elim)).trans (u3.mono (T:=S) (fun k _ e=>qa HI k e)));have U:=qb (((qa HB).new (qa N2)).upd u3 (fun e=>q (qa HI B e)));clear a7 h3 u3 E;unfold qgb at m;go_wp2_with (with_reducible first|(first|refine' tw1 (qh ?_) ?_|refine' tw2 (qh ?_) ?_);rotate_left|refine' tw3 (qh ?_)|rfl|apply tn|refine' tw4 ?_);refine m.mono ?_;rintro e w4 ⟨rfl,h4,u4⟩;have hl:((qgb id r).on (c.removed i x false).s.ch).hash.length=32:=qo;have H:=(qa U).upd u4 q;have K:=H.stOk hl;have f:=H.put hl;have u5:=zj (w:=w4) (b:=B) ((qgb id r).on (c.removed i x false).s.ch).cells;have O:=qb f;have b3:=(qa U3).size;have z:=h4.upd u5 (fun k J e=>by
    rcases J with J | J
    ·exact q (e▸J)
    ·have:=(qa U).lt;omega)
   have M:=qb ((z.grow u5.size).later b3);have P:=qb (((qa U3).trans u4).then u5 (fun i C e=>by omega));change stOk w4 B 0 38 ((⟨5,0,id,0,ze,0,r⟩:MsgV).on (c.removed i x false).s.ch).cells.toArray=true at K;clear m h4 u4 H f u5 z hl;go_wp2_with (with_reducible first|(first|refine' tw1 (qh ?_) ?_|refine' tw2 (qh ?_) ?_);rotate_left|refine' tw3 (qh ?_)|rfl|apply tn|refine' tw4 ?_);have f:=qa O;refine bodyPost_ret (qy rfl _ _ B _ _ _ _ rfl f.at_ Tryz.underlying101 rfl (by rw[f.agg];exact Tryz.infoMsg)) rfl ?_;rw[qa N];exact⟨rfl,qa M,qa P⟩
end Go.Proofs.YtfmkdoachjgjbaaGreatDoor
namespace Go.Proofs.YtfmkdoachjgjbaaGreatDoor
open Go.RowKit
attribute [local go_sem ↓ high] zq qad qag qan qmj
attribute [local go_sem] qbi qch qck qdg qw
def ofI(p:List Int):List Int:=qef (strOfNums p)
def qf1(p h:List Int):Bool:=ofI p==h
set_option maxRecDepth 100000 in
set_option maxHeartbeats 1000000 in
theorem qxx(p:List Int)(I:p.length=32)(w:World)(R:Tabs w) :
  Calls Tryz.prog 130 #[.agg (qv p).toArray] w (qa5 (.agg (qv (ofI p)).toArray) w):=by
 have H:(ofI p).length=32:=qb5 _
 go_enter Tryz.func130,Tryz.ntmps130
 go_upto_region 1 with fail
 have E:=(qca w p I).new ((Upd.refl _ _).alloc (.cells (qv ze).toArray 35))
 have z:=qca (w.alloc (.cells (qv p).toArray 35)) ze qo
 rw[World.size_alloc] at z
 have F:qq w ((w.alloc (.cells (qv p).toArray 35)).alloc (.cells (qv ze).toArray 35)):=((Upd.refl _ _).alloc _).alloc _
 generalize (w.alloc (.cells (qv p).toArray 35)).alloc (.cells (qv ze).toArray 35)=w1 at E z F ⊢
 obtain⟨A,v⟩:∃A,A=w.heap.size:=⟨_,rfl⟩
 obtain⟨B,C⟩:∃B,B=w.heap.size+1:=⟨_,rfl⟩
 rw[←C] at z ⊢
 rw[←v] at E ⊢
 have O:w.heap.size≤B:=by omega
 clear v C
 have q:(convert 95 9 (.slice (some ⟨A,0,none⟩) 32 32)).run Tryz.prog w1 = .ok (.string (strOfNums p)) w1 :=
  qc6 w1 _ _ _ Tryz.underlying95 Tryz.underlying5 Tryz.underlying9 A 32 _ _ _ 32 I E.at_
 have f:Calls Tryz.prog 164 #[.string (strOfNums p)] w1 (fun e w'=>e = .returned (.agg (qv (ofI p)).toArray)∧qq w1 w'):=qgg (strOfNums p) w1 (by rw[strOfNums_size,I];omega) (R.new F)
 have L:=qb z
 clear E z
 generalize ofI p=K at *
 go_wp2_with fail
 refine f.mono ?_
 rintro e T ⟨rfl,J⟩
 have m:=(qa L).new J
 have S:=m.stOk K H
 have M:=qb (m.put K H)
 have N:=qb ((F.trans J).then (zj (w:=T) (b:=B) (qv K)) (fun i U e=>by omega))
 clear m F J f q
 go_wp2_with fail
 have P:=qa M
 exact bodyPost_ret (results_cell_row rfl _ _ B _ _ _ _ rfl P.at_ Tryz.underlying35 rfl (by rw[List.size_toArray,qaj,H];exact Tryz.infoHsh)) rfl ⟨rfl,qa N⟩
set_option maxRecDepth 100000 in
set_option maxHeartbeats 1000000 in
theorem q1s(p h:List Int)(J:p.length=32)(H:h.length=32)(T:qbp h)(w:World)(R:Tabs w) :
  Calls Tryz.prog 99 #[.agg (qv p).toArray,.agg (qv h).toArray] w (qa5 (.bool (qf1 p h)) w):=by
 have V:(ofI p).length=32:=qb5 _
 have E:qbp (ofI p):=qf3 _
 go_enter Tryz.func99,Tryz.ntmps99
 go_upto_region 1 with fail
 have z:=(qca w p J).new ((Upd.refl _ _).alloc (.cells (qv h).toArray 35))
 have i:=qca (w.alloc (.cells (qv p).toArray 35)) h H
 rw[World.size_alloc] at i
 have C:qq w ((w.alloc (.cells (qv p).toArray 35)).alloc (.cells (qv h).toArray 35)):=((Upd.refl _ _).alloc _).alloc _
 generalize (w.alloc (.cells (qv p).toArray 35)).alloc (.cells (qv h).toArray 35)=w1 at z i C ⊢
 obtain⟨A,m⟩:∃A,A=w.heap.size:=⟨_,rfl⟩
 obtain⟨B,q⟩:∃B,B=w.heap.size+1:=⟨_,rfl⟩
 rw[←q] at i ⊢
 rw[←m] at z ⊢
 clear m q
 have U:=fun W=>qwd V H E T W
 have v:=fun W (S:Tabs W)=>qxx p J W S
 have I:qf1 p h=(ofI p==h):=rfl
 have P:=qb I
 clear I
 generalize ofI p=K at *
 have X:zg w1.drew A 0 32=some (qv p).toArray:=z.row
 have M:zg w1.drew B 0 32=some (qv h).toArray:=i.row
 have N:=qb i
 refine qa2 (fun w'=>zg w' B 0 32=some (qv h).toArray) [2] (.of [0,1,2,3,4]) (by kernel_rfl) (by kernel_rfl) M ?_
 simp only[Plan.of]
 clear z i
 go_wp2_with (with_reducible first|(first|refine' zy (qh ?_) ?_|refine' zz (qh ?_) ?_|refine' qw3 (qh ?_) ?_);rotate_left|refine' qw4 (qh ?_)|refine' qw5 (qh ?_)|rfl|apply qn)
 refine(v w1.drew (R.new (C.drew))).mono ?_
 rintro e Y ⟨rfl,L⟩
 have f:qq w1 Y:=L.ofDrew
 have F:=((qa N).new f).row
 have O:=qb (C.trans f)
 clear v X M L f C
 go_wp2_with (with_reducible first|(first|refine' zy (qh ?_) ?_|refine' zz (qh ?_) ?_|refine' qw3 (qh ?_) ?_);rotate_left|refine' qw4 (qh ?_)|refine' qw5 (qh ?_)|rfl|apply qn)
 refine⟨F,?_⟩
 go_wp2_with (with_reducible first|(first|refine' zy (qh ?_) ?_|refine' zz (qh ?_) ?_|refine' qw3 (qh ?_) ?_);rotate_left|refine' qw4 (qh ?_)|refine' qw5 (qh ?_)|rfl|apply qn)
 go_ret
 exact⟨by rw[qa P];rfl,qa O⟩
end Go.Proofs.YtfmkdoachjgjbaaGreatDoor
namespace Go.Proofs.YtfmkdoachjgjbaaGreatDoor
open Go.RowKit
theorem qfo{w:World}{b o n:Nat}{A:Array Value}(h:zg w b o n=some A)(i k:Nat)(m:i+k≤n):zg w b (o+i) k=some (A.extract i (i+k)):=by
 unfold zg at h ⊢;cases f:w.heap[b]? with
 | none=>rw[f] at h;cases h
 | some ob =>
  rw[f] at h;cases ob with
  | cells C T q =>
   simp only at h ⊢;split at h
   ·injection h with h;subst h;rw[if_pos (by omega),Array.extract_extract];congr 2;omega
   ·cases h
  | _=>simp at h
theorem q1d(x:Live):(qm x).toArray.extract 2 (2+32)=(qv x.h.hash.toList).toArray:=by
 apply Array.ext';rw[Array.toList_extract];unfold qm qk qv;simp
theorem ChP.hash{w:World}{g:Nat}{S:Nat→Prop}{c:Ch}{z I C:Value}(h:ChP w g S c z I C){i:Nat}{x:Live}(v:c.xs[i]? = some x):∃q cap,z = .slice (some ⟨q,0,none⟩) c.xs.length cap∧zg w q (i*38+2) 32=some (qv x.h.hash.toList).toArray:=by
 have m:=(List.getElem?_eq_some_iff.1 v).1;rcases (qdf h.live).2 with ⟨e,E⟩ | ⟨F,f,e,-,H⟩
 ·rw[E] at m;simp at m
 ·refine⟨F,f,e,?_⟩;have:=qfo (H.row v) 2 32 (by omega);rw[q1d,Nat.zero_add] at this;exact this
def Ch.hearFulfill(c:Ch)(m:MsgV):Ch × Int:=match qdl true m.id c.xs with
 | none=>(c,3)
 | some p=>if qf1 m.hash p.2.h.hash.toList=true then (c.removed p.1 p.2 true,0) else (c,132)
theorem qr7{c:Ch}{m:MsgV}(h:qdl true m.id c.xs=none):c.hearFulfill m=(c,3):=by unfold Ch.hearFulfill;rw[h]
theorem qr8{c:Ch}{m:MsgV}{i:Nat}{x:Live}(h:qdl true m.id c.xs=some (i,x)):c.hearFulfill m=if qf1 m.hash x.h.hash.toList=true then (c.removed i x true,0) else (c,132):=by unfold Ch.hearFulfill;rw[h]
attribute [local go_sem ↓ high] qz zb zc zf zq qad qag
attribute [local go_sem] qaw qax qa1 zt qbi qch qck qw
set_option maxRecDepth 100000 in
set_option maxHeartbeats 1000000 in
theorem qm8(g:Nat)(S:Nat→Prop)(c:Ch)(m:MsgV)(hm:MsgOk m)(w:World)(h:ChS w g S c)(hT:Tb w) :
  Calls Tryz.prog 177 #[.pointer (some ⟨g,0,none⟩),.agg m.cells.toArray] w fun e w' =>
   e = .returned (.tuple #[qco,.int .i64 (c.hearFulfill m).2])∧ChS w' g (Fr S w w') (c.hearFulfill m).1∧Upd S w w':=by
 obtain⟨Y,nv,av,h⟩:=h
 go_enter Tryz.func177,Tryz.ntmps177
 go_upto_region 1 with fail
 have N:=qai w m hm.len
 have U:qq w (w.alloc (.cells m.cells.toArray 101)):=(Upd.refl _ _).alloc _
 generalize w.alloc (.cells m.cells.toArray 101)=w1 at U N ⊢
 generalize w.heap.size=A at N ⊢
 have h1:=h.new U
 obtain⟨-,-,m2,-,-,-,-⟩:=N.cells
 have hb:=qn3 g S c true m.id w1 ⟨Y,nv,av,h1⟩
 have HA:=qb N
 have P:=hT.new U
 clear N hT
 go_wp2_with fail
 refine hb.mono ?_
 rintro e w2 ⟨rfl,V⟩
 have H:=h1.new V
 have E:=(qa HA).new V
 have C:=U.trans V
 have F:=P.new V
 clear hb m2 h1 V U P HA
 cases J:qdl true m.id c.xs with
 | none =>
  have R:=qjz J;have K:=qb (qr7 J);have H2:=qb (H.fr w);have HU:=qb (C.mono (T:=S) (fun _ _ h=>h.elim));rw[R];clear h H C J R E F;go_wp2_with fail;go_ret2;rw[qa K];exact⟨rfl,qa H2,qa HU⟩
 | some p =>
  obtain⟨i,x⟩:=p;obtain⟨R,q,-⟩:=qj0 J;have I:=qr8 J;have b8:=(List.getElem?_eq_some_iff.1 q).1;have b5:=h.ok.few;obtain⟨gl,cap,b3,rh⟩:=H.hash q;have M:w2.cell? ⟨g,47,none⟩=some Y:=H.toR.live;rw[b3] at M;obtain⟨-,-,-,-,-,-,Z⟩:=E.cells;have b4:=(h.ok.xs x (List.mem_of_getElem? q)).h.hash;have f:=fun W (nW:qq w2 W)=>q1s m.hash x.h.hash.toList hm.len (by simp) b4 W (F.new nW).tabs
  have v:=fun W (hW:ChP W g S c Y nv av)=>qkf g S c Y nv av i x true W hW q
  have HI:=qb h.inL;have HU:=qb (C.mono (T:=S) (fun _ _ h=>h.elim));have H2:=qb H;have b7:(i:Int)<(c.xs.length:Int):=by omega
  have K:=qb I;have b6:(c.xs.length:Int)≤1000000:=by omega
  rw[R];clear h H C J R E F q I;generalize hO:qf1 m.hash x.h.hash.toList=O at f K;have RA:=qb Z;have RH:=qb rh;have a6:=qb f;have a7:=qb v;clear Z rh f v hO;go_upto_region 4 with (with_reducible first|(first|refine' tw1 (qh ?_) ?_|refine' tw2 (qh ?_) ?_);rotate_left|refine' tw3 (qh ?_)|rfl|apply tn|refine' tw4 ?_);have Z:=qa RA;have rh:=qa RH;clear RA RH;go_wp2_with (with_reducible first|(first|refine' tw1 (qh ?_) ?_|refine' tw2 (qh ?_) ?_);rotate_left|refine' tw3 (qh ?_)|rfl|apply tn|refine' tw4 ?_);have f:=qa a6;have v:=qa a7;refine(f _ ((Upd.refl _ _).drew)).mono ?_;rintro e w3 ⟨rfl,n3⟩;have h3:=((qa H2).new ((Upd.refl (fun _=>False) w2).drew)).new n3;have X:qq w2 w3:=n3.ofDrew;have z:=v w3 h3;have H3:=qb (h3.fr w);have L:=qb ((qa HU).trans (X.mono (T:=S) (fun _ _ h=>h.elim)));clear f v M Z rh h3 n3 X;cases O with
  | false =>
   clear z;go_wp2_with (with_reducible first|(first|refine' tw1 (qh ?_) ?_|refine' tw2 (qh ?_) ?_);rotate_left|refine' tw3 (qh ?_)|rfl|apply tn|refine' tw4 ?_);go_ret2;have I:c.hearFulfill m=(c,132):=by rw[qa K];simp
   rw[I];exact⟨rfl,qa H3,qa L⟩
  | true =>
   go_wp2_with (with_reducible first|(first|refine' tw1 (qh ?_) ?_|refine' tw2 (qh ?_) ?_);rotate_left|refine' tw3 (qh ?_)|rfl|apply tn|refine' tw4 ?_);refine z.mono ?_;rintro e w4 ⟨rfl,h4,u4⟩;have H4:=qb (h4.fr w);have a8:=qb ((qa L).trans (u4.mono (T:=S) (fun k _ e=>qa HI k e)));clear z h4 u4;go_wp2_with (with_reducible first|(first|refine' tw1 (qh ?_) ?_|refine' tw2 (qh ?_) ?_);rotate_left|refine' tw3 (qh ?_)|rfl|apply tn|refine' tw4 ?_);go_ret2;have I:c.hearFulfill m=(c.removed i x true,0):=by rw[qa K];simp
   rw[I];exact⟨rfl,qa H4,qa a8⟩
theorem qsc(g:Nat)(S:Nat→Prop)(c:Ch)(m:MsgV)(q:MsgOk m)(w:World)(h:ChS w g S c)(i:qap m=true)(f:m.ch=c.s.ch)(H:m.kind=4)(C:Tb w) :
  Calls Tryz.prog 107 #[.pointer (some ⟨g,0,none⟩),.agg m.cells.toArray] w (qey g S w (c.hearFulfill m).1 [] (c.hearFulfill m).2) :=
 qhr _ g S c _ _ _ m q w h i f (enters_of Tryz.func177 (by kernel_rfl) rfl) (fun z=>by rw[H];exact zbq z) (fun W v=>(qm8 g S c m q W (h.new v) (C.new v)).mono (by
  rintro e w' ⟨F,E,I⟩;exact⟨_,F,qbx.nil _ _,E,I⟩))
end Go.Proofs.YtfmkdoachjgjbaaGreatDoor
namespace Go.Proofs.YtfmkdoachjgjbaaGreatDoor
open Go.RowKit
structure Ch.Inv(c:Ch):Prop where
 shelf:qvs c
 peer:c.s.peer.size≤100000000
 ch:0≤c.s.ch∧c.s.ch<4294967296
 heard:c.k.heard<4294967295
 few:c.xs.length≤16
noncomputable def Ch.hear(c:Ch)(m:MsgV):Ch × List MsgV × Int :=
 if qap m=false∨m.ch≠c.s.ch then (c,[],1)
 else if m.kind=3 then ((c.hearAdd m).1,[],(c.hearAdd m).2)
 else if m.kind=4 then ((c.hearFulfill m).1,[],(c.hearFulfill m).2)
 else if m.kind=5 then ((c.hearFail m).1,[],(c.hearFail m).2)
 else if m.kind=6 then c.hearSign m
 else if m.kind=7 then ((c.hearRevoke m).1,[],(c.hearRevoke m).2)
 else (c.hearShut.1,[],c.hearShut.2)
theorem q5j(g:Nat)(S:Nat→Prop)(c:Ch)(m:MsgV)(v:MsgOk m)(w:World)(h:ChS w g S c)(z:c.Inv)(E:Tb w)(F:Apart S)(f:m.kind=3∨m.kind=4∨m.kind=5∨m.kind=6∨m.kind=7∨m.kind=8) :
  Calls Tryz.prog 107 #[.pointer (some ⟨g,0,none⟩),.agg m.cells.toArray] w (qey g S w (c.hear m).1 (c.hear m).2.1 (c.hear m).2.2):=by
 by_cases C:qap m=false∨m.ch≠c.s.ch
 ·have e:c.hear m=(c,[],1):=by unfold Ch.hear;rw[if_pos C]
  rw[e];refine(qt1 g S c m v w h C).mono ?_;rintro e w' ⟨I,H⟩;exact⟨_,I,qbx.nil _ _,(h.new H).frW,H.mono (fun _ _ h=>h.elim)⟩
 ·have q:qap m=true:=by
   cases J:qap m with
   | true=>rfl
   | false=>exact absurd (.inl J) C
  have i:m.ch=c.s.ch:=Decidable.of_not_not (fun e=>C (.inr e));have e:c.hear m=if m.kind=3 then ((c.hearAdd m).1,[],(c.hearAdd m).2) else if m.kind=4 then ((c.hearFulfill m).1,[],(c.hearFulfill m).2) else if m.kind=5 then ((c.hearFail m).1,[],(c.hearFail m).2) else if m.kind=6 then c.hearSign m else if m.kind=7 then ((c.hearRevoke m).1,[],(c.hearRevoke m).2) else (c.hearShut.1,[],c.hearShut.2):=by unfold Ch.hear;rw[if_neg C]
  rcases f with f | f | f | f | f | f
  ·rw[e,if_pos f];exact q5i g S c m v w h q i f (by have:=z.few;omega)
  ·rw[e,if_neg (by omega),if_pos f];exact qsc g S c m v w h q i f E
  ·rw[e,if_neg (by omega),if_neg (by omega),if_pos f];exact q00 g S c m v w h q i f
  ·rw[e,if_neg (by omega),if_neg (by omega),if_neg (by omega),if_pos f];exact q02 g S c m v w h q i f E F z.peer z.ch z.heard z.few
  ·rw[e,if_neg (by omega),if_neg (by omega),if_neg (by omega),if_neg (by omega),if_pos f];exact qt2 g S c m v w h q i f z.shelf E F
  ·rw[e,if_neg (by omega),if_neg (by omega),if_neg (by omega),if_neg (by omega),if_neg (by omega)];exact q01 g S c m v w h q i f
def q8m(c:Ch)(x:Live):Ch :=
 if x.state=0 then (if x.own=true then {c.give true x.h.amount with k:= {c.k with nextOwn:=IntKind.u64.wrap (c.k.nextOwn-1)}} else {c.give false x.h.amount with k:= {c.k with nextTheirs:=IntKind.u64.wrap (c.k.nextTheirs-1)}}) else c
def q8l(x:Live):Live:=if x.state=5 then {x with state:=4,paid:=false} else x
def zda(xs:List Live):List Live:=(xs.filter fun x=> !(x.state==0)).map q8l
def Ch.unsaid(c:Ch)(xs:List Live):Ch:= {c with xs:=xs,news:=[],k:= {c.k with shutHeard:=false}}
def Ch.cut(c:Ch):Ch:=(c.xs.foldl q8m c).unsaid (zda c.xs)
section
variable {w:World}{g:Nat}{S:Nat→Prop}{c:Ch}{lv nv av:Value}
end
def q97(n:Nat)(p:Array (Nat × Value)):Sem Value:=Instr.buildSlice 139 n p
theorem qte(n:Nat)(p:Array (Nat × Value)):Instr.buildSlice 139 n p=q97 n p:=rfl
theorem za6(A:List Value)(w:World):(q97 1 #[(0,.agg A.toArray)]).run Tryz.prog w=if A.length=35 then .ok (.slice (some ⟨w.heap.size,0,none⟩) 1 1) (w.alloc (.cells A.toArray 41)) else (Instr.buildSlice 139 1 #[(0,.agg A.toArray)]).run Tryz.prog w:=by
 by_cases h:A.length=35
 ·rw[if_pos h];exact qss Tryz.underlying139 Tryz.zeroHtlc' Tryz.infoHtl rfl (by decide) (by decide) A h w
 ·rw[if_neg h];rfl
theorem qor(x:Live):(qm x).toArray.extract 0 (0+35)=(qk x.h).toArray:=by
 apply Array.ext';rw[Array.toList_extract];unfold qm;rw[List.extract_eq_take_drop];simp[qbf]
structure CutS(w0 w:World)(g K R:Nat)(S:Nat→Prop)(ci:Ch)(lv nv av kv ov rv:Value)(ks:List Live)(os:List Htlc)(rs:List Int):Prop where
 ch:ChP w g S ci lv nv av
 k:w.heap[K]? = some (.cells #[ov,rv] 141 (0,0))
 r:w.heap[R]? = some (.cells #[.slice none 0 0,.slice none 0 0] 141 (0,0))
 ko:w.ownsRow w0.heap.size 69 38 kv ks.length (ks.flatMap qm)
 oo:w.ownsRow w0.heap.size 41 35 ov os.length (os.flatMap qk)
 ro:w.ownsRow w0.heap.size 22 1 rv rs.length (rs.map (Value.int .u64))
 u:Upd (· = g) w0 w
 lt:∀k,S k→k<w0.heap.size
 kge:w0.heap.size≤K
 rge:w0.heap.size≤R
 ne:R≠K
section
variable {w0 w w':World}{g K R:Nat}{S:Nat→Prop}{ci cj:Ch}{lv nv av kv ov rv v:Value}{ks ks':List Live}{os os':List Htlc}{rs rs':List Int}
theorem CutS.glt(h:CutS w0 w g K R S ci lv nv av kv ov rv ks os rs):g<w0.heap.size:=h.lt g h.ch.inG
theorem CutS.new(h:CutS w0 w g K R S ci lv nv av kv ov rv ks os rs)(n:qq w w'):CutS w0 w' g K R S ci lv nv av kv ov rv ks os rs :=
 ⟨h.ch.new n,n.old h.k (fun h=>h),n.old h.r (fun h=>h),zk h.ko n (fun _ _ h=>h),zk h.oo n (fun _ _ h=>h),zk h.ro n (fun _ _ h=>h),h.u.trans (n.mono (fun _ _ h=>h.elim)),h.lt,h.kge,h.rge,h.ne⟩
theorem CutS.op(h:CutS w0 w g K R S ci lv nv av kv ov rv ks os rs)(i:ChP w' g S cj lv nv av)(u:Upd (· = g) w w'):CutS w0 w' g K R S cj lv nv av kv ov rv ks os rs:=by
 have C:=h.glt;have f:∀ {T:TypeId} {z n:Nat} {v:Value} {l:List Value},w.ownsRow w0.heap.size T z v n l→∀k,v.ownBlock=some k→¬k=g:=fun q k m e=>by have:=ql0 q k m;omega
 have:=h.kge;have:=h.rge;exact⟨i,u.old h.k (fun e=>by omega),u.old h.r (fun e=>by omega),zk h.ko u (f h.ko),zk h.oo u (f h.oo),zk h.ro u (f h.ro),h.u.trans u,h.lt,h.kge,h.rge,h.ne⟩
theorem CutS.grow(h:CutS w0 w g K R S ci lv nv av kv ov rv ks os rs){T:TypeId}{O n:Nat}{l:List Value}(q:w.ownsRow w0.heap.size T O v n l)(u:Upd (fun k=>v.ownBlock=some k) w w')(L:T≠141) :
  ChP w' g S ci lv nv av∧w'.heap[K]? = some (.cells #[ov,rv] 141 (0,0))∧w'.heap[R]? = some (.cells #[.slice none 0 0,.slice none 0 0] 141 (0,0)) ∧
  (T≠69→w'.ownsRow w0.heap.size 69 38 kv ks.length (ks.flatMap qm))∧(T≠41→w'.ownsRow w0.heap.size 41 35 ov os.length (os.flatMap qk))∧(T≠22→w'.ownsRow w0.heap.size 22 1 rv rs.length (rs.map (Value.int .u64)))∧Upd (· = g) w0 w':=by
 have H:∀ {U:TypeId} {z M:Nat} {I:Value} {l2:List Value},T≠U→w.ownsRow w0.heap.size U z I M l2→∀k,I.ownBlock=some k→¬v.ownBlock=some k:=by
  intro U z M I l2 F N k E e;obtain⟨J,f⟩:=qal q k e;obtain⟨P,C⟩:=qal N k E;exact qay f C F rfl
 refine⟨h.ch.upd u (fun k E e=>by have:=h.lt k E;have:=ql0 q k e;omega),u.old h.k ?_,u.old h.r ?_,fun m=>zk h.ko u (H m h.ko),fun m=>zk h.oo u (H m h.oo),fun m=>zk h.ro u (H m h.ro),h.u.then u (fun i V e=>by have:=ql0 q i e;omega)⟩
 ·intro e;obtain⟨J,f⟩:=qal q K e;exact qay f h.k L rfl
 ·intro e;obtain⟨J,f⟩:=qal q R e;exact qay f h.r L rfl
theorem CutS.putL(h:CutS w0 w g K R S ci lv nv av kv ov rv ks os rs)(u:Upd (fun k=>kv.ownBlock=some k) w w')(m:w'.ownsRow w0.heap.size 69 38 v ks'.length (ks'.flatMap qm)):CutS w0 w' g K R S ci lv nv av v ov rv ks' os rs:=by
 obtain⟨a1,a2,a3,-,a5,f,i⟩:=h.grow h.ko u (by decide);exact⟨a1,a2,a3,m,a5 (by decide),f (by decide),i,h.lt,h.kge,h.rge,h.ne⟩
theorem CutS.other(h:CutS w0 w g K R S ci lv nv av kv ov rv ks os rs){X:Nat}(u:Upd (· = X) w w')(q:w.heap.size≤X∨(w0.heap.size≤X∧X≠K∧X≠R∧(∀k,kv.ownBlock=some k→k≠X)∧(∀k,ov.ownBlock=some k→k≠X)∧(∀k,rv.ownBlock=some k→k≠X))):CutS w0 w' g K R S ci lv nv av kv ov rv ks os rs:=by
 have O:=h.glt;have T:=h.u.size;have E:∀ {U:TypeId} {z H:Nat} {F:Value} {l2:List Value},w.ownsRow w0.heap.size U z F H l2→∀k,F.ownBlock=some k→k<w.heap.size:=by
  intro U z H F l2 I k m;obtain⟨N,C⟩:=qal I k m;exact zr C
 have J:=zr h.k;have L:=zr h.r;have M:w0.heap.size≤X:=by rcases q with e | e<;>omega
 refine⟨h.ch.upd u (fun k m e=>by have:=h.lt k m;omega),u.old h.k (fun e=>by rcases q with f | f<;>omega),u.old h.r (fun e=>by rcases q with f | f<;>omega),zk h.ko u (fun k m e=> ?_),zk h.oo u (fun k m e=> ?_),zk h.ro u (fun k m e=> ?_),h.u.then u (fun i P e=>by omega),h.lt,h.kge,h.rge,h.ne⟩
 ·have:=E h.ko k m;rcases q with f | f
  ·omega
  ·exact f.2.2.2.1 k m e
 ·have:=E h.oo k m;rcases q with f | f
  ·omega
  ·exact f.2.2.2.2.1 k m e
 ·have:=E h.ro k m;rcases q with f | f
  ·omega
  ·exact f.2.2.2.2.2 k m e
end
structure EvV where
 kind:Int
 h:Htlc
 pre:List Int
def evW(k:Int)(H P:List Value):List Value:= .int .i64 k::(H++P)
def EvV.cells(e:EvV):List Value:=evW e.kind (qk e.h) (qv e.pre)
theorem EvV.len(e:EvV)(h:e.pre.length=32):e.cells.length=68:=by simp[EvV.cells,evW,qaj,h,qbf]
theorem EvV.one(e:EvV):∀v∈e.cells,v.oneCell'=true:=by
 intro v f;rcases List.mem_cons.1 f with rfl | f
 ·rfl
 ·rcases List.mem_append.1 f with f | f
  ·exact qis _ v f
  ·obtain⟨n,-,rfl⟩:=List.mem_map.1 f;rfl
def EvV.zero:EvV:=⟨0,Htlc.zero,ze⟩
def evC(x:Live):EvV:=⟨1,x.h,ze⟩
def evP(x:Live)(p:List Int):EvV:=⟨2,x.h,p⟩
def evF(x:Live):EvV:=⟨3,x.h,ze⟩
theorem Tryz.infoEv:(Tryz.prog.info? 43).map (·.size)=some 68:=by kernel_rfl
theorem Tryz.zeroEv:((Tryz.prog.info? 43).map fun i=>i.zero.map fun z=>z.cells.toList)=some (some EvV.zero.cells):=by kernel_rfl
theorem Tryz.placesEv:∃m,Tryz.prog.underlying 43=some (.struct m)∧m.toList.mapM (fun f=>(Tryz.prog.info? f.type).map fun i=>(f.offset,i.size))=some [(0,1),(1,35),(36,32)]:=⟨_,Tryz.underlying43,by kernel_rfl⟩
theorem qnf:∃i z b,Tryz.prog.info? 43=some i∧i.zero=some z∧i.size=68∧i.bytes=b∧z.cells.size=68∧b≤1000:=by
 obtain⟨i,z,m,C,v⟩:=qc2 Tryz.zeroEv;have f:(Tryz.prog.info? 43).map (fun i=>decide (i.bytes≤1000))=some true:=by kernel_rfl
 have q:=Tryz.infoEv;rw[m,Option.map_some,Option.some.injEq] at f q;exact⟨i,z,i.bytes,m,C,q,rfl,by rw[v];rfl,of_decide_eq_true f⟩
def za3(p:Array (Nat × Value)):Sem Value:=Instr.build 43 p
theorem qjy(p:Array (Nat × Value)):Instr.build 43 p=za3 p:=rfl
theorem qrd:EvV.zero.cells.toArray=(([]:List Value)++(Value.int .i64 0::(qk Htlc.zero++ze.map (Value.int .u8)))).toArray:=rfl
theorem q33(k:Int)(H:List Value)(h:H.length=35):Tryz.prog.built 43 [(0,.int .i64 k),(1,.agg H.toArray)]=some (evW k H (qv ze)).toArray:=by
 obtain⟨i,z,m,C,f⟩:=qc2 Tryz.zeroEv;obtain⟨E,v,q⟩:=Tryz.placesEv;rw[qbm m v C q];rw[qb3 (P:=[]) (z:= .int .i64 0) (R:=qk Htlc.zero++ze.map (Value.int .u8)) (off:=0) rfl rfl rfl (f.trans qrd)];rw[qc5 (P:=[.int .i64 k]) (A:=H) (Z:=qk Htlc.zero) (R:=ze.map (Value.int .u8)) (off:=1) (by rw[h];rfl) rfl (by rw[h];rfl) (by rfl)];rw[Instr.fill];simp[evW,qv]
theorem q3q(k:Int)(H:List Value)(w:World):(za3 #[(0,.int .i64 k),(1,.agg H.toArray)]).run Tryz.prog w=if H.length=35 then .ok (.agg (evW k H (qv ze)).toArray) w else (Instr.build 43 #[(0,.int .i64 k),(1,.agg H.toArray)]).run Tryz.prog w:=by
 by_cases h:H.length=35
 ·rw[if_pos h];exact run_build w _ _ _ (q33 k H h)
 ·rw[if_neg h];rfl
theorem qzr(k:Int)(H P:List Value)(h:H.length=35)(f:P.length=32):Tryz.prog.built 43 [(0,.int .i64 k),(1,.agg H.toArray),(2,.agg P.toArray)]=some (evW k H P).toArray:=by
 obtain⟨i,z,q,E,m⟩:=qc2 Tryz.zeroEv;obtain⟨F,C,v⟩:=Tryz.placesEv;rw[qbm q C E v];rw[qb3 (P:=[]) (z:= .int .i64 0) (R:=qk Htlc.zero++ze.map (Value.int .u8)) (off:=0) rfl rfl rfl (m.trans qrd)];rw[qc5 (P:=[.int .i64 k]) (A:=H) (Z:=qk Htlc.zero) (R:=ze.map (Value.int .u8)) (off:=1) (by rw[h];rfl) rfl (by rw[h];rfl) (by rfl)];rw[qc5 (P:= .int .i64 k::H) (A:=P) (Z:=ze.map (Value.int .u8)) (R:=[]) (off:=36) (by rw[f];rfl) (by simp[h]) (by rw[f];rfl) (by simp)];rw[Instr.fill];simp[evW,qv]
theorem qv0(k:Int)(H P:List Value)(w:World):(za3 #[(0,.int .i64 k),(1,.agg H.toArray),(2,.agg P.toArray)]).run Tryz.prog w=if H.length=35∧P.length=32 then .ok (.agg (evW k H P).toArray) w else (Instr.build 43 #[(0,.int .i64 k),(1,.agg H.toArray),(2,.agg P.toArray)]).run Tryz.prog w:=by
 by_cases h:H.length=35∧P.length=32
 ·rw[if_pos h];exact run_build w _ _ _ (qzr k H P h.1 h.2)
 ·rw[if_neg h];rfl
def zci(n:Nat)(p:Array (Nat × Value)):Sem Value:=Instr.buildSlice 38 n p
theorem qj1(n:Nat)(p:Array (Nat × Value)):Instr.buildSlice 38 n p=zci n p:=rfl
theorem q3x(A:List Value)(w:World):(zci 1 #[(0,.agg A.toArray)]).run Tryz.prog w=if A.length=68 then .ok (.slice (some ⟨w.heap.size,0,none⟩) 1 1) (w.alloc (.cells A.toArray 43)) else (Instr.buildSlice 38 1 #[(0,.agg A.toArray)]).run Tryz.prog w:=by
 by_cases h:A.length=68
 ·rw[if_pos h];exact qss Tryz.underlying38 Tryz.zeroEv Tryz.infoEv rfl (by decide) (by decide) A h w
 ·rw[if_neg h];rfl
def qid(w:World)(v:Value)(es:List EvV):Prop:=w.ownsRow 0 43 68 v es.length (es.flatMap EvV.cells)
theorem qid.nil(w:World):qid w qco []:=World.ownsRow_nil _ _ _ _
theorem qid.upd{S:Nat→Prop}{w w':World}{v:Value}{es:List EvV}(h:qid w v es)(u:Upd S w w')(f:∀k,v.ownBlock=some k→¬S k):qid w' v es:=zk h u f
theorem qid.lt{w:World}{v:Value}{es:List EvV}(h:qid w v es):∀k,v.ownBlock=some k→k<w.heap.size:=fun k e=>by
 obtain⟨f,i⟩:=qal h k e;exact zr i
def qfu(f i:List Live):List EvV:=(i.filter (qgq f)).map evC
def qim(f i:List Live):List EvV:=(f.filter (qin i)).map evF
theorem qzy(f:List Live){m:List Live}{i:Nat}{x:Live}(h:m[i]? = some x):qfu f (m.take (i+1))=qfu f (m.take i)++(if qgq f x=true then [evC x] else []):=by
 unfold qfu;rw[List.take_add_one,h,List.filter_append,List.map_append];cases q:qgq f x<;>simp[q]
theorem q0b(f:List Live){m:List Live}{i:Nat}{x:Live}(h:m[i]? = some x):qim (m.take (i+1)) f=qim (m.take i) f++(if qin f x=true then [evF x] else []):=by
 unfold qim;rw[List.take_add_one,h,List.filter_append,List.map_append];cases q:qin f x<;>simp[q]
theorem qtg(i f:List Live):(qfu i f).length≤f.length:=by
 unfold qfu;rw[List.length_map];exact List.length_filter_le _ _
theorem q4q(f i:List Live):(qim f i).length≤f.length:=by
 unfold qim;rw[List.length_map];exact List.length_filter_le _ _
attribute [local go_sem ↓ high] qbc qbo qce qdm zq qjy qj1
attribute [local go_sem] qdi qdx qfb qj8 qbi q3q qv0 q3x qw
structure EvSt(T:Nat→Prop)(w w':World)(g:Nat)(S:Nat→Prop)(l:Lk)(sp en lo:Nat)(SC SJ:Nat→Prop)(es:List EvV)(ev:Value):Prop where
 lk:LkP w' g S {l with ev:=ev} sp en lo SC SJ
 row:qid w' ev es
 u:Upd T w w'
 out:∀k,ev.ownBlock=some k→¬S k
 from_:∀k,ev.ownBlock=some k→T k∨w.heap.size≤k
section
variable {T:Nat→Prop}{w w' w'':World}{g:Nat}{S:Nat→Prop}{l:Lk}{sp en lo:Nat}{SC SJ:Nat→Prop}{es:List EvV}{ev:Value}
theorem EvSt.new(h:EvSt T w w' g S l sp en lo SC SJ es ev)(n:qq w' w''):EvSt T w w'' g S l sp en lo SC SJ es ev :=
 ⟨h.lk.new n,h.row.upd n (fun _ _ h=>h),h.u.trans (n.mono (fun _ _ h=>h.elim)),h.out,h.from_⟩
theorem EvSt.shape(h:EvSt T w w' g S l sp en lo SC SJ es ev):∃a cap,ev = .slice a es.length cap:=qaa h.row
theorem EvSt.push(h:EvSt T w w' g S l sp en lo SC SJ es ev)(v:T g){m:Value}{e:EvV}(L:w''.ownsRow 0 43 68 m (es.length+1) (es.flatMap EvV.cells++e.cells))(J:World.grownBy w' w'' ev.ownBlock)(z:m.ownBlock=ev.ownBlock∨m.ownBlock=some w'.heap.size) :
  EvSt T w (w''.setCell ⟨g,4,none⟩ m) g S l sp en lo SC SJ (es++[e]) m:=by
 have E:Upd (fun k=>ev.ownBlock=some k) w' w'':=(Upd.refl _ _).grown J (fun k f _=>f)
 have K:¬(ev.ownBlock=some g):=fun e=>h.out g e h.lk.inG
 have H:=h.lk.upd E (fun k f e=>h.out k e f)
 have I:=H.put (i:=4) (x:=m) (l':= {l with ev:=m}) rfl rfl rfl rfl
 have F:Upd (· = g) w'' (w''.setCell ⟨g,4,none⟩ m):=(Upd.refl _ _).set1 _ _
 have M:=h.u.size
 have q:∀k,m.ownBlock=some k→¬S k:=by
  intro k f C;rcases z with e | e
  ·rw[e] at f;exact h.out k f C
  ·rw[e] at f;injection f with f;have:=h.lk.lt k C;omega
 refine⟨I,?_,?_,q,?_⟩
 ·show (w''.setCell ⟨g,4,none⟩ m).ownsRow 0 _ 68 m (es++[e]).length ((es++[e]).flatMap EvV.cells);rw[List.length_append,List.flatMap_append];have:[e].flatMap EvV.cells=e.cells:=by simp
  rw[this];exact zk L F (fun k f e=>q k f (e▸h.lk.inG))
 ·refine(h.u.then E (fun k f e=>(h.from_ k e).elim id (fun e=>by omega))).trans (F.mono (fun k _ e=>by have e:k=g:=e;rw[e];exact v))
 ·intro k f;rcases z with e | e
  ·rw[e] at f;exact h.from_ k f
  ·rw[e] at f;injection f with f;exact .inr (by omega)
end
set_option maxRecDepth 100000 in
set_option maxHeartbeats 2000000 in
theorem qth(T:Nat→Prop)(g:Nat)(S:Nat→Prop)(l:Lk)(sp en lo:Nat)(SC SJ:Nat→Prop)(es:List EvV)(b8:Value)(va vb:Value)(f m:List Live)(w0 w:World)(h:EvSt T w0 w g S l sp en lo SC SJ es b8)(d8:T g)
  (hv:∀W,Upd T w0 W→LvO W vb f) (d1:∀W,Upd T w0 W→LvO W va m) (hl:f.length≤100000) (f8:m.length≤100000) (a8:es.length≤100000) :
  Calls Tryz.prog 146 #[.pointer (some ⟨g,0,none⟩),vb,va] w fun e w'=>e = .returned (.tuple #[])∧∃ev,EvSt T w0 w' g S l sp en lo SC SJ (es++qfu f m) ev:=by
 obtain⟨a,cap,rfl,N⟩:=(d1 w h.u).shape
 have hf:=fun own id W (n:Upd T w0 W)=>qoa own id _ f W (hv W n) (by omega)
 obtain⟨ab,f2,rfl,c9⟩:=(hv w h.u).shape
 have Y:∀W,Upd T w0 W→∀(i:Nat) (x:Live),m[i]? = some x→∃g',a=some ⟨g',0,none⟩∧qd3 W g' 0 m:=by
  intro W u i x hi;have K:=(List.getElem?_eq_some_iff.1 hi).1;rcases d1 W u with ⟨a',k,e,e0⟩ | ⟨g',k,e,hh⟩
  ·rw[e0] at K;simp at K
  ·injection e with e1;exact⟨g',e1,hh.toL⟩
 have M:∀W,Upd T w0 W→∀(i:Nat) (x:Live),f[i]? = some x→∃g',ab=some ⟨g',0,none⟩∧qd3 W g' 0 f:=by
  intro W u i x hi;have K:=(List.getElem?_eq_some_iff.1 hi).1;rcases hv W u with ⟨a',k,e,e0⟩ | ⟨g',k,e,hh⟩
  ·rw[e0] at K;simp at K
  ·injection e with e1;exact⟨g',e1,hh.toL⟩
 have HC:=qb Y
 have b5:=qb M
 have HF:=qb hf
 have H0:=qb h
 clear Y M hf N c9 hv d1 h
 have g0:(m.length:Int)≤1000000:=by omega
 have f9:(f.length:Int)≤1000000:=by omega
 go_enter Tryz.func146,Tryz.ntmps146
 go_wp2_with fail
 go_loopw [11] (fun iv wr=>∃i:Nat,iv = .int .i64 (i:Int)∧i≤m.length∧Hid (∃ev,EvSt T w0 wr g S l sp en lo SC SJ (es++qfu f (m.take i)) ev)) (fun iv _=>m.length-(intOf iv).toNat)
 case atStart=>exact⟨0,rfl,Nat.zero_le _,qb ⟨b8,by rw[List.take_zero];show EvSt T w0 w g S l sp en lo SC SJ (es++[]) b8;rw[List.append_nil];exact qa H0⟩⟩
 case round =>
  obtain⟨i,rfl,hi,hrel⟩:=hrel;obtain⟨wq,rfl⟩:∃wq:World,wq=wr:=⟨_,rfl⟩;clear H0;by_cases K:i<m.length
  ·obtain⟨x,b3⟩:∃x,m[i]? = some x:=⟨_,List.getElem?_eq_getElem K⟩;obtain⟨ev,hE⟩:=qa hrel;have e6:=qzy f b3;have d9:=qtg f (m.take i);rw[List.length_take] at d9;have e9:(es++qfu f (m.take i)).length≤200000:=by rw[List.length_append];omega
   have Z:es++qfu f (m.take (i+1))=(es++qfu f (m.take i))++(if qgq f x=true then [evC x] else []):=by rw[e6,List.append_assoc]
   have P:=qb Z;clear e6 d9 Z hrel;generalize es++qfu f (m.take i)=es' at hE e9 P;obtain⟨g',rfl,hh⟩:=qa HC wq hE.u i x b3;have N:=hh.row b3;rw[Nat.zero_add] at N;have R:=qb hE;have f5:(i:Int)<(m.length:Int):=by omega
   have f1:=qjo wq x;have c8:=qjg wq x;clear hE;go_upto_region 3 with fail;obtain⟨hb,nb⟩:=c8;generalize (wq.alloc (.cells (qm Live.zero).toArray 69)).setCells wq.heap.size 0 (qm x)=wb at hb nb ⊢;generalize wq.heap.size=X at hb ⊢;have b7:wb.cell? ⟨X,35,none⟩=some (.bool x.own):=by rw[qg hb,List.getElem?_toArray];exact qfe x
   have d7:wb.cell? ⟨X,36,none⟩=some (.int .i64 x.state):=by rw[qg hb,List.getElem?_toArray];exact qff x
   have d0:wb.cell? ⟨X,0,none⟩=some (.int .u64 x.h.id):=by rw[qg hb,List.getElem?_toArray];exact qsf x
   have e7:zg wb X 0 35=some (qk x.h).toArray:=by
    have:=qfo (qat hb 38 (by rw[List.size_toArray,qbj])) 0 35 (by omega);rw[qor] at this;exact this
   have a7:=qb e7;have H:=qb ((qa R).new nb);have F:=qa HF false x.h.id wb (qa H).u;have e3:qgr false x.h.id f = -1∧f.findIdx? (qcy false x.h.id)=none∨∃(j:Nat) (y:Live),qgr false x.h.id f=(j:Int)∧f[j]? = some y∧f.findIdx? (qcy false x.h.id)=some j:=by
    unfold qgr;cases hc:f.findIdx? (qcy false x.h.id) with
    | none=>exact .inl ⟨rfl,rfl⟩
    | some j =>
     obtain⟨hj,-⟩:=List.findIdx?_eq_some_iff_getElem.1 hc;exact .inr ⟨j,f[j],rfl,List.getElem?_eq_getElem hj,rfl⟩
   have V:=qb e3;have e2:qgq f x=(!x.own&&(x.state==4&&(match f.findIdx? (qcy false x.h.id) with | some i=>(f.getD i x).state != 4 | none=>true))):=rfl;have O:=qb e2;clear hb nb N f1 HF HC hh b3 e3 e2 R e7;obtain⟨b4,c0⟩:∃b4,(x.state==4)=b4:=⟨_,rfl⟩;have f3:(x.state != 4) = !b4:=by rw[←c0];rfl
   obtain⟨o,ho⟩:∃o,x.own=o:=⟨_,rfl⟩;rw[ho] at b7;have HB:=qb (And.intro c0 ho);clear c0 ho;cases o with
   | true =>
    clear F V;go_wp2_with (with_reducible first|(first|refine' tw1 (qh ?_) ?_|refine' tw2 (qh ?_) ?_);rotate_left|refine' tw3 (qh ?_)|rfl|apply tn|refine' tw4 ?_);go_roundw
    case rel =>
     have e:qgq f x=false:=by rw[qa O,(qa HB).2];rfl
     refine⟨i+1,by go_num,by omega,qb ⟨ev,?_⟩⟩;rw[qa P,e];simp only[Bool.false_eq_true,if_false,List.append_nil];exact qa H
    case measure=>simp[intOf];omega
   | false =>
    cases b4 with
    | false =>
     clear F V;go_wp2_with (with_reducible first|(first|refine' tw1 (qh ?_) ?_|refine' tw2 (qh ?_) ?_);rotate_left|refine' tw3 (qh ?_)|rfl|apply tn|refine' tw4 ?_);go_roundw
     case rel =>
      have e:qgq f x=false:=by rw[qa O,(qa HB).1,Bool.false_and,Bool.and_false]
      refine⟨i+1,by go_num,by omega,qb ⟨ev,?_⟩⟩;rw[qa P,e];simp only[Bool.false_eq_true,if_false,List.append_nil];exact qa H
     case measure=>simp[intOf];omega
    | true =>
     rcases qa V with ⟨hj,hn⟩ | ⟨j,y,hj,hy,hn⟩
     ·have L:Hid (qgq f x=true):=qb (by rw[qa O,(qa HB).1,(qa HB).2,hn];rfl);rw[hj] at F;clear V hj hn O HB;go_wp2_with (with_reducible first|(first|refine' tw1 (qh ?_) ?_|refine' tw2 (qh ?_) ?_);rotate_left|refine' tw3 (qh ?_)|rfl|apply tn|refine' tw4 ?_);refine F.mono ?_;rintro e wc ⟨rfl,nc⟩;have R:=qb ((qa H).new nc);have rX:zg wc X 0 35=some (qk x.h).toArray:=qav (qa a7) nc (fun h=>h);clear F nc H d0 b7 d7 a7 b5;go_upto_region 6 with fail;have hC:wc.drew.cell? ⟨g,4,none⟩=some ev∧zg wc.drew X 0 35=some (qk x.h).toArray:=⟨qg (qa R).lk.at_ 4,rX⟩;obtain⟨i9,z9,b9,c7,d5,d2,d3,d4,c6⟩:=qnf;have a8:(evW 1 (qk x.h) (qv ze)).length=68:=EvV.len (evC x) qo;have f0:=qbf x.h;refine qa2 (fun w'=>w'.cell? ⟨g,4,none⟩=some ev∧zg w' X 0 35=some (qk x.h).toArray) [4,6] (.of [0,1,2,3,4,5,6,7,8,9,10,11,12]) (by kernel_rfl) (by kernel_rfl) hC ?_;simp only[Plan.of];go_wp2_with (with_reducible first|(first|refine' zy (qh ?_) ?_|refine' zz (qh ?_) ?_|refine' qw3 (qh ?_) ?_);rotate_left|refine' qw4 (qh ?_)|refine' qw5 (qh ?_)|rfl|apply qn);have nC:qq wc (wc.alloc (.cells (evW 1 (qk x.h) (qv ze)).toArray 43)).drew:=((Upd.refl _ _).alloc _).drew;have C:(wc.alloc (.cells (evW 1 (qk x.h) (qv ze)).toArray 43)).drew.heap[wc.heap.size]? = some (.cells (evW 1 (qk x.h) (qv ze)).toArray 43 (0,0)):=qj wc _;have q:=qb ((qa R).new nC);have z:=And.intro (nC.cell hC.1 (fun h=>h)) (qav rX nC (fun h=>h));refine⟨z,?_⟩;generalize (wc.alloc (.cells (evW 1 (qk x.h) (qv ze)).toArray 43)).drew=wC at q C z nC ⊢
      generalize wc.heap.size=D at C ⊢;clear R hC;go_wp2_with (first | (at_builtin;refine wpList_append_own_at _ rfl (.tmp 41) (.tmp 45) 38 rfl 0 43 i9 _ 68 b9 Tryz.underlying38 c7 d5 d2 d3 d4 (by decide) _ _ _ rfl (qa q).row ⟨D,0,none⟩ 1 1 (evW 1 (qk x.h) (qv ze)) rfl (by rw[a8]) ?c1 ?c2 ?c3 ?c4 ?c5 ?_) | (with_reducible first|(first|refine' zy (qh ?_) ?_|refine' zz (qh ?_) ?_|refine' qw3 (qh ?_) ?_);rotate_left|refine' qw4 (qh ?_)|refine' qw5 (qh ?_)|rfl|apply qn))
      case c1=>exact World.news_of_block (cs:=(evW 1 (qk x.h) (qv ze)).toArray) (fr:=(0,0)) C
      case c2=>exact EvV.one (evC x)
      case c3=>unfold maxLen;omega
      case c4=>have:=Nat.mul_le_mul (show es'.length+1≤1000000 by omega) c6;omega
      case c5=>omega
      intro v' wD v J _ E;obtain⟨a',d6,a6⟩:=qaa v;have uD:Upd (fun k=>ev.ownBlock=some k) wC wD:=(Upd.refl _ _).grown J (fun k hk _=>hk);have I:¬(ev.ownBlock=some g):=fun e=>(qa q).out g e (qa q).lk.inG
      have f4:wD.frozen? ⟨g,4,none⟩=false:=qu (uD.old (qa q).lk.at_ I) 4;have c4:wD.cell? ⟨g,4,none⟩=some ev:=uD.cell z.1 I;have U:=qb ((qa q).push (e:=(evC x)) d8 v J E);rw[a6] at U ⊢;clear v E J uD C q z I nC a6;go_wp2_with (first | (with_reducible first|(first|refine' zy (qh ?_) ?_|refine' zz (qh ?_) ?_|refine' qw3 (qh ?_) ?_);rotate_left|refine' qw4 (qh ?_)|refine' qw5 (qh ?_)|rfl|apply qn) | refine⟨trivial,?_⟩);go_roundw
      case rel =>
       refine⟨i+1,by go_num,by omega,?_⟩;rw[qa P,if_pos (qa L)];exact qb ⟨_,qa U⟩
      case measure=>simp[intOf];omega
     ·rw[hj] at F;go_wp2_with (with_reducible first|(first|refine' tw1 (qh ?_) ?_|refine' tw2 (qh ?_) ?_);rotate_left|refine' tw3 (qh ?_)|rfl|apply tn|refine' tw4 ?_);refine F.mono ?_;rintro e wc ⟨rfl,nc⟩;have R:=qb ((qa H).new nc);obtain⟨gb,rfl,e5⟩:=qa b5 wc (qa R).u j y hy;have f7:=(List.getElem?_eq_some_iff.1 hy).1;have f6:(j:Int)<(f.length:Int):=by omega
      have cy:wc.cell? ⟨gb,j*38+36,none⟩=some (.int .i64 y.state):=by
       have hr:=e5.row hy;rw[Nat.zero_add] at hr;rw[(qfn hr).2 36 (by decide),List.getElem?_toArray,qff]
      have rX:zg wc X 0 35=some (qk x.h).toArray:=qav (qa a7) nc (fun h=>h);have e4:(f.getD j x).state=y.state:=by rw[List.getD_eq_getElem?_getD,hy];rfl
      obtain⟨b6,e8⟩:∃b6,(y.state != 4)=b6:=⟨_,rfl⟩;have L:Hid (qgq f x=b6):=qb (by rw[qa O,(qa HB).1,(qa HB).2,hn];simp only[e4,e8];cases b6<;>rfl);clear F nc H d0 b7 d7 a7 b5 V hj hn e5 hy e4 O HB;cases b6 with
      | false =>
       clear rX;go_wp2_with fail;go_roundw
       case rel =>
        refine⟨i+1,by go_num,by omega,qb ⟨ev,?_⟩⟩;rw[qa P,qa L];simp only[Bool.false_eq_true,if_false,List.append_nil];exact qa R
       case measure=>simp[intOf];omega
      | true =>
       go_upto_region 6 with fail;have hC:wc.drew.cell? ⟨g,4,none⟩=some ev∧zg wc.drew X 0 35=some (qk x.h).toArray:=⟨qg (qa R).lk.at_ 4,rX⟩;obtain⟨i9,z9,b9,c7,d5,d2,d3,d4,c6⟩:=qnf;have a8:(evW 1 (qk x.h) (qv ze)).length=68:=EvV.len (evC x) qo;have f0:=qbf x.h;refine qa2 (fun w'=>w'.cell? ⟨g,4,none⟩=some ev∧zg w' X 0 35=some (qk x.h).toArray) [4,6] (.of [0,1,2,3,4,5,6,7,8,9,10,11,12]) (by kernel_rfl) (by kernel_rfl) hC ?_;simp only[Plan.of];go_wp2_with (with_reducible first|(first|refine' zy (qh ?_) ?_|refine' zz (qh ?_) ?_|refine' qw3 (qh ?_) ?_);rotate_left|refine' qw4 (qh ?_)|refine' qw5 (qh ?_)|rfl|apply qn);have nC:qq wc (wc.alloc (.cells (evW 1 (qk x.h) (qv ze)).toArray 43)).drew:=((Upd.refl _ _).alloc _).drew;have C:(wc.alloc (.cells (evW 1 (qk x.h) (qv ze)).toArray 43)).drew.heap[wc.heap.size]? = some (.cells (evW 1 (qk x.h) (qv ze)).toArray 43 (0,0)):=qj wc _;have q:=qb ((qa R).new nC);have z:=And.intro (nC.cell hC.1 (fun h=>h)) (qav rX nC (fun h=>h));refine⟨z,?_⟩;generalize (wc.alloc (.cells (evW 1 (qk x.h) (qv ze)).toArray 43)).drew=wC at q C z nC ⊢;generalize wc.heap.size=D at C ⊢;clear R hC;go_wp2_with (first | (at_builtin;refine wpList_append_own_at _ rfl (.tmp 41) (.tmp 45) 38 rfl 0 43 i9 _ 68 b9 Tryz.underlying38 c7 d5 d2 d3 d4 (by decide) _ _ _ rfl (qa q).row ⟨D,0,none⟩ 1 1 (evW 1 (qk x.h) (qv ze)) rfl (by rw[a8]) ?c1 ?c2 ?c3 ?c4 ?c5 ?_) | (with_reducible first|(first|refine' zy (qh ?_) ?_|refine' zz (qh ?_) ?_|refine' qw3 (qh ?_) ?_);rotate_left|refine' qw4 (qh ?_)|refine' qw5 (qh ?_)|rfl|apply qn))
       case c1=>exact World.news_of_block (cs:=(evW 1 (qk x.h) (qv ze)).toArray) (fr:=(0,0)) C
       case c2=>exact EvV.one (evC x)
       case c3=>unfold maxLen;omega
       case c4=>have:=Nat.mul_le_mul (show es'.length+1≤1000000 by omega) c6;omega
       case c5=>omega
       intro v' wD v J _ E;obtain⟨a',d6,a6⟩:=qaa v;have uD:Upd (fun k=>ev.ownBlock=some k) wC wD:=(Upd.refl _ _).grown J (fun k hk _=>hk);have I:¬(ev.ownBlock=some g):=fun e=>(qa q).out g e (qa q).lk.inG
       have f4:wD.frozen? ⟨g,4,none⟩=false:=qu (uD.old (qa q).lk.at_ I) 4;have c4:wD.cell? ⟨g,4,none⟩=some ev:=uD.cell z.1 I;have U:=qb ((qa q).push (e:=(evC x)) d8 v J E);rw[a6] at U ⊢;clear v E J uD C q z I nC a6;go_wp2_with (first | (with_reducible first|(first|refine' zy (qh ?_) ?_|refine' zz (qh ?_) ?_|refine' qw3 (qh ?_) ?_);rotate_left|refine' qw4 (qh ?_)|refine' qw5 (qh ?_)|rfl|apply qn) | refine⟨trivial,?_⟩);go_roundw
       case rel =>
        refine⟨i+1,by go_num,by omega,?_⟩;rw[qa P,if_pos (qa L)];exact qb ⟨_,qa U⟩
       case measure=>simp[intOf];omega
  ·obtain rfl:i=m.length:=by omega
   obtain⟨ev,hE⟩:=qa hrel;rw[List.take_length] at hE;have HR:=qb hE;clear hE hrel;go_wp2_with fail;go_end0;exact⟨rfl,ev,qa HR⟩
end Go.Proofs.YtfmkdoachjgjbaaGreatDoor
