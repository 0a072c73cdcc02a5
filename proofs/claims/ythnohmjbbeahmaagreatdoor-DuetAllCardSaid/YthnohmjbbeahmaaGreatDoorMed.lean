/-
  A duet: Fail, Fulfill.
-/
import Derived.Test.YthnohmjbbeahmaaGreatDoorMeb
import Derived.Test.YthnohmjbbeahmaaGreatDoorMea
set_option linter.unusedVariables false
set_option linter.unusedSimpArgs false
namespace Go.Proofs.YthnohmjbbeahmaaGreatDoor
open Go.RowKit
attribute [local go_sem ↓ high] zy qak qaq qat zr zu zw zx
attribute [local go_sem] qcl qdb qdn zb qb3 qb9 qcf qbg
set_option maxRecDepth 100000 in
set_option maxHeartbeats 2000000 in
theorem q1i{w0 w:World}{p:Nat}{S:Nat→Prop}{P:Pr}(I:DuD w0 w p S P)(kk T:Nat)(id:Int)(x:Int)(K L M:Nat)(r:Ch × MsgV × Int)
  (N:w.cell? ⟨K,0,none⟩=some (.func (.func 33) #[.pointer (some ⟨T,0,none⟩)] #[])) (O:w.cell? ⟨L,0,none⟩=some (.int .u64 id)) (R:w.cell? ⟨M,0,none⟩=some (.int .i64 x))
  (C:MsgOk r.2.1)
  (t:∀W,qu w W→Calls Tryz.prog 33 #[.pointer (some ⟨T,0,none⟩),.int .u64 id,.int .i64 x] W fun e w' =>
   e = .returned (.tuple #[.agg r.2.1.cells.toArray,.int .i64 r.2.2])∧DSt w0 W p S w' (P.set kk r.1)) :
  Calls Tryz.prog 53 #[.pointer (some ⟨K,0,none⟩),.pointer (some ⟨L,0,none⟩),.pointer (some ⟨M,0,none⟩)] w fun e w' =>
   e = .returned (.tuple #[.agg r.2.1.cells.toArray,.int .i64 r.2.2])∧DSt w0 w p S w' (P.set kk r.1):=by
 have i:=C.len
 have H:=qb I
 have b0:=qbx w MsgV.zero qs
 have l:qu w (w.alloc (.cells MsgV.zero.cells.toArray 71)):=(Upd.refl _ _).alloc _
 have hE:∀args w,(callFunc 33 args).run Tryz.prog w = .ok (.enter 33 args) w:=enters_of Tryz.func33 (by kernel_rfl) rfl
 clear I
 go_enter Tryz.func53,Tryz.ntmps53
 go_upto_region 1 with (with_reducible first|(first|refine' tw1 (qg ?_) ?_|refine' tw2 (qg ?_) ?_);rotate_left|refine' tw3 (qg ?_)|rfl|apply tn|refine' tw4 ?_)
 generalize w.alloc (.cells MsgV.zero.cells.toArray 71)=w1 at b0 l ⊢
 obtain⟨B,U⟩:∃B,B=w.heap.size:=⟨_,rfl⟩
 rw[←U] at b0 ⊢
 have q:¬S B:=fun e=>by have:=((qa H).lt B e).2;omega
 have a4:=b0.lt
 have a5:w.heap.size≤B:=by omega
 have X:=l.cell N (fun h=>h)
 have Y:=l.cell O (fun h=>h)
 have Z:=l.cell R (fun h=>h)
 have t:=t w1 l
 have J:=qb l
 have V:=qb b0
 clear U N O R l b0
 go_wp2_with (with_reducible first|(first|refine' tw1 (qg ?_) ?_|refine' tw2 (qg ?_) ?_);rotate_left|refine' tw3 (qg ?_)|rfl|apply tn|refine' tw4 ?_)
 refine t.mono ?_
 rintro e E ⟨rfl,o⟩
 have v:=(qa V).upd o.2 q
 have stB:=v.stOk i
 have F:=v.put i
 have D:Upd (· = B) E (E.setCells B 0 r.2.1.cells):=zz _
 have a8:=o.2.size
 have g:DSt w0 w p S (E.setCells B 0 r.2.1.cells) (P.set kk r.1):=by
  have a6:=(qa H).n.size;have a7:=(qa J).size;refine DSt.fin (qa H) (o.1.upd D (fun b e=> ?_)) ?_ ?_
  ·subst e;refine⟨?_,by omega⟩;rintro (e | e)
   ·exact q e
   ·omega
  ·rintro b (e | e)
   ·exact .inl e
   ·exact .inr (by omega)
  ·refine((qa J).mono (fun _ _ h=>h.elim)).trans ((o.2.mono (fun _ _ h=> .inl h)).trans (D.mono ?_));rintro b hb rfl;exact .inr (by omega)
 have m:=qb g
 have z:=qb F
 clear t o v F D g X Y Z
 go_wp2_with (with_reducible first|(first|refine' tw1 (qg ?_) ?_|refine' tw2 (qg ?_) ?_);rotate_left|refine' tw3 (qg ?_)|rfl|apply tn|refine' tw4 ?_)
 refine bodyPost_ret (qq rfl _ _ B _ _ _ _ rfl (qa z).at_ Tryz.underlying71 rfl (by rw[List.size_toArray,r.2.1.len i];exact Tryz.infoMsg)) rfl ?_
 exact⟨rfl,qa m⟩
set_option maxRecDepth 100000 in
set_option maxHeartbeats 2000000 in
theorem q1j{w0 w:World}{p:Nat}{S:Nat→Prop}{P:Pr}(h:DuD w0 w p S P)(k:Int)(kk t:Nat)(L:sd k=kk)(id:Int)(x:Int)(r:Ch × MsgV × Int)(i:MsgOk r.2.1)(F:(P.way (1-kk)).length<1000000)
  (hO:∀W,qu w W→Calls Tryz.prog 33 #[.pointer (some ⟨t,0,none⟩),.int .u64 id,.int .i64 x] W fun e w' =>
   e = .returned (.tuple #[.agg r.2.1.cells.toArray,.int .i64 r.2.2])∧DSt w0 W p S w' (P.set kk r.1)) :
  Calls Tryz.prog 32 #[.pointer (some ⟨p,0,none⟩),.int .i64 k,.func (.func 33) #[.pointer (some ⟨t,0,none⟩)] #[],.int .u64 id,.int .i64 x] w fun e w' =>
   e = .returned (.int .i64 r.2.2)∧DSt w0 w p S w' (P.act kk r):=by
 have H:=qb h
 have g:∀(W:World) (n:qu w W) (m o q:Nat) (C:W.cell? ⟨m,0,none⟩=some (.func (.func 33) #[.pointer (some ⟨t,0,none⟩)] #[])) (D:W.cell? ⟨o,0,none⟩=some (.int .u64 id)) (E:W.cell? ⟨q,0,none⟩=some (.int .i64 x)),_:=fun W n m o q C D E=>qna ((qa H).new n) k kk L 53 #[] #[.pointer (some ⟨m,0,none⟩),.pointer (some ⟨o,0,none⟩),.pointer (some ⟨q,0,none⟩)] (enters_of Tryz.func53 (by kernel_rfl) rfl) r i F (fun W' I=>q1i ((qa H).new (n.trans I)) kk t id x m o q r (I.cell C (fun h=>h)) (I.cell D (fun h=>h)) (I.cell E (fun h=>h)) i (fun W2 v=>hO W2 ((n.trans I).trans v)))
 have hM:=qn6 i
 generalize P.act kk r=P' at g ⊢
 generalize qo2 r=M at g hM ⊢
 have l:=qb g
 have a4:=qe4
 clear g i F hO h
 go_enter Tryz.func32,Tryz.ntmps32
 go_upto_region 1 with (with_reducible first|(first|refine' tw1 (qg ?_) ?_|refine' tw2 (qg ?_) ?_);rotate_left|refine' tw3 (qg ?_)|rfl|apply tn|refine' tw4 ?_)
 have O:qu w (w.alloc (.cells #[.func (.func 33) #[.pointer (some ⟨t,0,none⟩)] #[]] 82)):=(Upd.refl _ _).alloc _
 obtain⟨m,U⟩:=qc3 (W:=w) rfl (.cells #[.func (.func 33) #[.pointer (some ⟨t,0,none⟩)] #[]] 82)
 generalize w.alloc (.cells #[.func (.func 33) #[.pointer (some ⟨t,0,none⟩)] #[]] 82)=w1 at O m U ⊢
 have v:qu w1 (w1.alloc (.cells #[.int .u64 id] 27)):=(Upd.refl _ _).alloc _
 obtain⟨o,V⟩:=qc3 U (.cells #[.int .u64 id] 27)
 generalize w1.alloc (.cells #[.int .u64 id] 27)=R at v o V ⊢
 have J:qu R (R.alloc (.cells #[.int .i64 x] 3)):=(Upd.refl _ _).alloc _
 obtain⟨q,z3⟩:=qc3 V (.cells #[.int .i64 x] 3)
 generalize R.alloc (.cells #[.int .i64 x] 3)=K at J q z3 ⊢
 have C:K.cell? ⟨w.heap.size,0,none⟩=some (.func (.func 33) #[.pointer (some ⟨t,0,none⟩)] #[]):=(v.trans J).cell (qh m 0) (fun h=>h)
 have D:K.cell? ⟨w.heap.size+1,0,none⟩=some (.int .u64 id):=J.cell (qh o 0) (fun h=>h)
 have E:K.cell? ⟨(w.heap.size+1+1),0,none⟩=some (.int .i64 x):=qh q 0
 have nw:=(O.trans v).trans J
 have hs:=qa l K nw _ _ _ C D E
 have Y:=qb nw
 clear O v J m o q U V z3 nw l
 generalize w.heap.size=z at *
 go_wp2_with (with_reducible first|(first|refine' tw1 (qg ?_) ?_|refine' tw2 (qg ?_) ?_);rotate_left|refine' tw3 (qg ?_)|rfl|apply tn|refine' tw4 ?_)
 refine hs.mono ?_
 rintro e T ⟨rfl,Z⟩
 obtain⟨N,hA,nA⟩:=qhq T M hM
 have X:=qb ((DSt.after (qa H) (qa Y) Z).then (qa H).n.size (qa H).lt nA)
 clear hs Z hA nA Y C D E
 go_upto_region 2 with (with_reducible first|(first|refine' tw1 (qg ?_) ?_|refine' tw2 (qg ?_) ?_);rotate_left|refine' tw3 (qg ?_)|rfl|apply tn|refine' tw4 ?_)
 change Code.wp _ _ _ _ (qh8 T M)
 generalize qh8 T M=wB at X ⊢
 clear N
 go_wp2_with (with_reducible first|(first|refine' tw1 (qg ?_) ?_|refine' tw2 (qg ?_) ?_);rotate_left|refine' tw3 (qg ?_)|rfl|apply tn|refine' tw4 ?_)
 go_ret
 exact⟨rfl,qa X⟩
set_option maxRecDepth 100000 in
set_option maxHeartbeats 2000000 in
theorem q5w{w0 w:World}{p:Nat}{S:Nat→Prop}{P:Pr}(R:Tb w0)(h:DuD w0 w p S P)(k:Int)(kk:Nat)(m:sd k=kk)(id:Int)(x:Int)(l:(P.en kk).news.length<1000000)(t:MsgOk ((P.en kk).fail id x).2.1)(o:(P.way (1-kk)).length<1000000) :
  Calls Tryz.prog 14 #[.pointer (some ⟨p,0,none⟩),.int .i64 k,.int .u64 id,.int .i64 x] w fun e w'=>e = .returned (.int .i64 ((P.en kk).fail id x).2.2)∧DSt w0 w p S w' (P.act kk ((P.en kk).fail id x)):=by
 have U:kk<2:=m▸qkf k
 have H:=qb h
 obtain⟨g,T,u,z⟩:=h
 have D:=fun W (n:qu w W)=>qnb (z.new n) k kk m
 have i:=fun W (n:qu w W)=>q1j ((qa H).new n) k kk (g kk) m id x ((P.en kk).fail id x) t o (fun M X=>by
  obtain⟨N,Z,e3,O⟩:=(z.new (n.trans X)).opE R U;exact(q9k _ _ _ id x M N l).mono fun e w' C=>⟨C.1,O _ _ C.2.1 C.2.2⟩)
 generalize P.act kk ((P.en kk).fail id x)=Y at i ⊢
 generalize ((P.en kk).fail id x)=r at i ⊢
 generalize g kk=ge at i D
 have V:=qe4
 clear z t o l
 have v:=D w (Upd.refl _ _)
 clear D
 go_enter Tryz.func14,Tryz.ntmps14
 go_wp2_with (with_reducible first|(first|refine' tw1 (qg ?_) ?_|refine' tw2 (qg ?_) ?_);rotate_left|refine' tw3 (qg ?_)|rfl|apply tn|refine' tw4 ?_)
 refine v.mono ?_
 rintro e J ⟨rfl,q⟩
 have E:qu w J:=q.upd _
 have I:=i J E
 have L:=qb E
 clear v q E i
 go_wp2_with (with_reducible first|(first|refine' tw1 (qg ?_) ?_|refine' tw2 (qg ?_) ?_);rotate_left|refine' tw3 (qg ?_)|rfl|apply tn|refine' tw4 ?_)
 refine I.mono ?_
 rintro e w3 ⟨rfl,F⟩
 have K:=qb (DSt.after (qa H) (qa L) F)
 clear I F
 go_wp2_with (with_reducible first|(first|refine' tw1 (qg ?_) ?_|refine' tw2 (qg ?_) ?_);rotate_left|refine' tw3 (qg ?_)|rfl|apply tn|refine' tw4 ?_)
 go_ret
 exact⟨rfl,qa K⟩
set_option maxRecDepth 100000 in
set_option maxHeartbeats 2000000 in
theorem qtb{w0 w:World}{p:Nat}{S:Nat→Prop}{P:Pr}(J:DuD w0 w p S P)(kk U:Nat)(id:Int)(C:List Int)(L M N:Nat)(r:Ch × MsgV × Int)
  (O:w.cell? ⟨L,0,none⟩=some (.func (.func 35) #[.pointer (some ⟨U,0,none⟩)] #[])) (R:w.cell? ⟨M,0,none⟩=some (.int .u64 id)) (T:zm w N 0 32=some (qx C).toArray) (hl:C.length=32)
  (D:MsgOk r.2.1)
  (t:∀W,qu w W→Calls Tryz.prog 35 #[.pointer (some ⟨U,0,none⟩),.int .u64 id,.agg (qx C).toArray] W fun e w' =>
   e = .returned (.tuple #[.agg r.2.1.cells.toArray,.int .i64 r.2.2])∧DSt w0 W p S w' (P.set kk r.1)) :
  Calls Tryz.prog 56 #[.pointer (some ⟨L,0,none⟩),.pointer (some ⟨M,0,none⟩),.pointer (some ⟨N,0,none⟩)] w fun e w' =>
   e = .returned (.tuple #[.agg r.2.1.cells.toArray,.int .i64 r.2.2])∧DSt w0 w p S w' (P.set kk r.1):=by
 have i:=D.len
 have H:=qb J
 have b0:=qbx w MsgV.zero qs
 have l:qu w (w.alloc (.cells MsgV.zero.cells.toArray 71)):=(Upd.refl _ _).alloc _
 have hE:∀args w,(callFunc 35 args).run Tryz.prog w = .ok (.enter 35 args) w:=enters_of Tryz.func35 (by kernel_rfl) rfl
 clear J
 go_enter Tryz.func56,Tryz.ntmps56
 go_upto_region 1 with (with_reducible first|(first|refine' tw1 (qg ?_) ?_|refine' tw2 (qg ?_) ?_);rotate_left|refine' tw3 (qg ?_)|rfl|apply tn|refine' tw4 ?_)
 generalize w.alloc (.cells MsgV.zero.cells.toArray 71)=w1 at b0 l ⊢
 obtain⟨B,V⟩:∃B,B=w.heap.size:=⟨_,rfl⟩
 rw[←V] at b0 ⊢
 have q:¬S B:=fun e=>by have:=((qa H).lt B e).2;omega
 have a4:=b0.lt
 have a5:w.heap.size≤B:=by omega
 have Y:=l.cell O (fun h=>h)
 have Z:=l.cell R (fun h=>h)
 have d9:=qa9 T l (fun h=>h)
 have t:=t w1 l
 have K:=qb l
 have X:=qb b0
 clear V O R T l b0
 go_wp2_with (with_reducible first|(first|refine' tw1 (qg ?_) ?_|refine' tw2 (qg ?_) ?_);rotate_left|refine' tw3 (qg ?_)|rfl|apply tn|refine' tw4 ?_)
 refine t.mono ?_
 rintro e F ⟨rfl,o⟩
 have v:=(qa X).upd o.2 q
 have stB:=v.stOk i
 have I:=v.put i
 have E:Upd (· = B) F (F.setCells B 0 r.2.1.cells):=zz _
 have a8:=o.2.size
 have g:DSt w0 w p S (F.setCells B 0 r.2.1.cells) (P.set kk r.1):=by
  have a6:=(qa H).n.size;have a7:=(qa K).size;refine DSt.fin (qa H) (o.1.upd E (fun b e=> ?_)) ?_ ?_
  ·subst e;refine⟨?_,by omega⟩;rintro (e | e)
   ·exact q e
   ·omega
  ·rintro b (e | e)
   ·exact .inl e
   ·exact .inr (by omega)
  ·refine((qa K).mono (fun _ _ h=>h.elim)).trans ((o.2.mono (fun _ _ h=> .inl h)).trans (E.mono ?_));rintro b hb rfl;exact .inr (by omega)
 have m:=qb g
 have z:=qb I
 clear t o v I E g Y Z d9
 go_wp2_with (with_reducible first|(first|refine' tw1 (qg ?_) ?_|refine' tw2 (qg ?_) ?_);rotate_left|refine' tw3 (qg ?_)|rfl|apply tn|refine' tw4 ?_)
 refine bodyPost_ret (qq rfl _ _ B _ _ _ _ rfl (qa z).at_ Tryz.underlying71 rfl (by rw[List.size_toArray,r.2.1.len i];exact Tryz.infoMsg)) rfl ?_
 exact⟨rfl,qa m⟩
set_option maxRecDepth 100000 in
set_option maxHeartbeats 2000000 in
theorem qtc{w0 w:World}{p:Nat}{S:Nat→Prop}{P:Pr}(h:DuD w0 w p S P)(k:Int)(kk v:Nat)(N:sd k=kk)(id:Int)(i:List Int)(r:Ch × MsgV × Int)(hl:i.length=32)(l:MsgOk r.2.1)(I:(P.way (1-kk)).length<1000000)
  (hO:∀W,qu w W→Calls Tryz.prog 35 #[.pointer (some ⟨v,0,none⟩),.int .u64 id,.agg (qx i).toArray] W fun e w' =>
   e = .returned (.tuple #[.agg r.2.1.cells.toArray,.int .i64 r.2.2])∧DSt w0 W p S w' (P.set kk r.1)) :
  Calls Tryz.prog 34 #[.pointer (some ⟨p,0,none⟩),.int .i64 k,.func (.func 35) #[.pointer (some ⟨v,0,none⟩)] #[],.int .u64 id,.agg (qx i).toArray] w fun e w' =>
   e = .returned (.int .i64 r.2.2)∧DSt w0 w p S w' (P.act kk r):=by
 have H:=qb h
 have O:(qx i).length=32:=by rw[qa0,hl]
 have g:∀(W:World) (n:qu w W) (o q t:Nat) (D:W.cell? ⟨o,0,none⟩=some (.func (.func 35) #[.pointer (some ⟨v,0,none⟩)] #[])) (E:W.cell? ⟨q,0,none⟩=some (.int .u64 id)) (F:zm W t 0 32=some (qx i).toArray),_:=fun W n o q t D E F=>qna ((qa H).new n) k kk N 56 #[] #[.pointer (some ⟨o,0,none⟩),.pointer (some ⟨q,0,none⟩),.pointer (some ⟨t,0,none⟩)] (enters_of Tryz.func56 (by kernel_rfl) rfl) r l I (fun W' J=>qtb ((qa H).new (n.trans J)) kk v id i o q t r (J.cell D (fun h=>h)) (J.cell E (fun h=>h)) (qa9 F J (fun h=>h)) hl l (fun W2 C=>hO W2 ((n.trans J).trans C)))
 have hM:=qn6 l
 generalize P.act kk r=P' at g ⊢
 generalize qo2 r=M at g hM ⊢
 have m:=qb g
 have a4:=qe4
 clear g l I hO h
 go_enter Tryz.func34,Tryz.ntmps34
 go_upto_region 1 with (with_reducible first|(first|refine' tw1 (qg ?_) ?_|refine' tw2 (qg ?_) ?_);rotate_left|refine' tw3 (qg ?_)|rfl|apply tn|refine' tw4 ?_)
 have T:qu w (w.alloc (.cells #[.func (.func 35) #[.pointer (some ⟨v,0,none⟩)] #[]] 84)):=(Upd.refl _ _).alloc _
 obtain⟨o,X⟩:=qc3 (W:=w) rfl (.cells #[.func (.func 35) #[.pointer (some ⟨v,0,none⟩)] #[]] 84)
 generalize w.alloc (.cells #[.func (.func 35) #[.pointer (some ⟨v,0,none⟩)] #[]] 84)=w1 at T o X ⊢
 have C:qu w1 (w1.alloc (.cells #[.int .u64 id] 27)):=(Upd.refl _ _).alloc _
 obtain⟨q,Y⟩:=qc3 X (.cells #[.int .u64 id] 27)
 generalize w1.alloc (.cells #[.int .u64 id] 27)=U at C q Y ⊢
 have K:qu U (U.alloc (.cells (qx i).toArray 33)):=(Upd.refl _ _).alloc _
 obtain⟨t,z3⟩:=qc3 Y (.cells (qx i).toArray 33)
 generalize U.alloc (.cells (qx i).toArray 33)=L at K t z3 ⊢
 have D:L.cell? ⟨w.heap.size,0,none⟩=some (.func (.func 35) #[.pointer (some ⟨v,0,none⟩)] #[]):=(C.trans K).cell (qh o 0) (fun h=>h)
 have E:L.cell? ⟨w.heap.size+1,0,none⟩=some (.int .u64 id):=K.cell (qh q 0) (fun h=>h)
 have F:zm L (w.heap.size+1+1) 0 32=some (qx i).toArray:=qad t 32 (by rw[List.size_toArray,O])
 have nw:=(T.trans C).trans K
 have hs:=qa m L nw _ _ _ D E F
 have NW:=qb nw
 clear T C K o q t X Y z3 nw m
 generalize w.heap.size=z at *
 go_wp2_with (with_reducible first|(first|refine' tw1 (qg ?_) ?_|refine' tw2 (qg ?_) ?_);rotate_left|refine' tw3 (qg ?_)|rfl|apply tn|refine' tw4 ?_)
 refine hs.mono ?_
 rintro e V ⟨rfl,h2⟩
 obtain⟨R,hA,nA⟩:=qhq V M hM
 have Z:=qb ((DSt.after (qa H) (qa NW) h2).then (qa H).n.size (qa H).lt nA)
 clear hs h2 hA nA NW D E F
 go_upto_region 2 with (with_reducible first|(first|refine' tw1 (qg ?_) ?_|refine' tw2 (qg ?_) ?_);rotate_left|refine' tw3 (qg ?_)|rfl|apply tn|refine' tw4 ?_)
 change Code.wp _ _ _ _ (qh8 V M)
 generalize qh8 V M=wB at Z ⊢
 clear R
 go_wp2_with (with_reducible first|(first|refine' tw1 (qg ?_) ?_|refine' tw2 (qg ?_) ?_);rotate_left|refine' tw3 (qg ?_)|rfl|apply tn|refine' tw4 ?_)
 go_ret
 exact⟨rfl,qa Z⟩
set_option maxRecDepth 100000 in
set_option maxHeartbeats 2000000 in
theorem qm8{w0 w:World}{p:Nat}{S:Nat→Prop}{P:Pr}(hT:Tb w0)(h:DuD w0 w p S P)(k:Int)(kk:Nat)(o:sd k=kk)(id:Int)(i:List Int)(L:i.length=32)(m:(P.en kk).news.length<1000000)(v:MsgOk ((P.en kk).fulfill id i).2.1)(t:(P.way (1-kk)).length<1000000) :
  Calls Tryz.prog 15 #[.pointer (some ⟨p,0,none⟩),.int .i64 k,.int .u64 id,.agg (qx i).toArray] w fun e w'=>e = .returned (.int .i64 ((P.en kk).fulfill id i).2.2)∧DSt w0 w p S w' (P.act kk ((P.en kk).fulfill id i)):=by
 have hk:kk<2:=o▸qkf k
 have H:=qb h
 have M:(qx i).length=32:=by rw[qa0,L]
 obtain⟨g,T,u,J⟩:=h
 have N:=fun W (n:qu w W)=>qnb (J.new n) k kk o
 have l:=fun W (n:qu w W)=>qtc ((qa H).new n) k kk (g kk) o id i ((P.en kk).fulfill id i) L v t (fun W' n'=>by
  obtain⟨e1,e2,e3,e4⟩:=(J.new (n.trans n')).opE hT hk;exact(qyt _ _ _ id i L W' e1 e3 m).mono fun e w' K=>⟨K.1,e4 _ _ K.2.1 K.2.2⟩)
 generalize P.act kk ((P.en kk).fulfill id i)=P' at l ⊢
 generalize ((P.en kk).fulfill id i)=r at l ⊢
 generalize g kk=ge at l N
 have a4:=qe4
 clear J v t m
 go_enter Tryz.func15,Tryz.ntmps15
 go_upto_region 1 with (with_reducible first|(first|refine' tw1 (qg ?_) ?_|refine' tw2 (qg ?_) ?_);rotate_left|refine' tw3 (qg ?_)|rfl|apply tn|refine' tw4 ?_)
 have D:qu w (w.alloc (.cells (qx i).toArray 33)):=(Upd.refl _ _).alloc _
 have E:(w.alloc (.cells (qx i).toArray 33)).heap[w.heap.size]? = some (.cells (qx i).toArray 33 (0,0)):=qi _ _
 have F:=qad E 32 (by rw[List.size_toArray,M])
 generalize w.alloc (.cells (qx i).toArray 33)=w1 at D E F ⊢
 generalize w.heap.size=z at *
 have I:zm w1.drew z 0 32=some (qx i).toArray:=qa9 F ((Upd.refl (fun _=>False) w1).drew) (fun h=>h)
 have C:=N w1.drew D.drew
 have Z:=qb D
 clear N E F D
 refine qc7 (fun w'=>zm w' z 0 32=some (qx i).toArray) [7] (.of [0,1,2,3,4,5,6,7,8,9]) (by kernel_rfl) (by kernel_rfl) I ?_
 simp only[Plan.of]
 go_wp2_with (with_reducible first|(first|refine' qw1 (qg ?_) ?_|refine' qw2 (qg ?_) ?_|refine' qw3 (qg ?_) ?_);rotate_left|refine' qw4 (qg ?_)|refine' qw5 (qg ?_)|rfl|apply qn)
 refine C.mono ?_
 rintro e R ⟨rfl,q⟩
 have U:zm R z 0 32=some (qx i).toArray:=qa9 I (q.upd (fun _=>False)) (fun h=>h)
 have O:qu w R:=((qa Z).drew).trans (q.upd _)
 have X:=l R O
 have N2:=qb O
 clear C q I O l
 go_wp2_with (first | (with_reducible first|(first|refine' qw1 (qg ?_) ?_|refine' qw2 (qg ?_) ?_|refine' qw3 (qg ?_) ?_);rotate_left|refine' qw4 (qg ?_)|refine' qw5 (qg ?_)|rfl|apply qn) | refine⟨U,?_⟩)
 refine X.mono ?_
 rintro e w3 ⟨rfl,V⟩
 have Y:=qb (DSt.after (qa H) (qa N2) V)
 clear X V U
 go_wp2_with (with_reducible first|(first|refine' qw1 (qg ?_) ?_|refine' qw2 (qg ?_) ?_|refine' qw3 (qg ?_) ?_);rotate_left|refine' qw4 (qg ?_)|refine' qw5 (qg ?_)|rfl|apply qn)
 go_ret
 exact⟨rfl,qa Y⟩
end Go.Proofs.YthnohmjbbeahmaaGreatDoor
namespace Go.Proofs.YthnohmjbbeahmaaGreatDoor
open Go.RowKit
structure CutG(w0 w1 w:World)(p:Nat)(S:Nat→Prop)(F:Nat)(Q:Pr)(g:Nat→Nat):Prop where
 d:DuG w0 w p (Fr S w1 w) Q g
 u:Upd (fun b=>S b∨b=F) w1 w
 f:w.heap[F]? = some (.cells #[.int .i64 0] 29 (0,0))
def qvi(w0 w1:World)(S:Nat→Prop)(F:Nat):Prop:=¬S F∧F<w1.heap.size∧w0.heap.size≤F
section
variable {w0 w1 w w':World}{p F:Nat}{S:Nat→Prop}{P Q Q':Pr}{g g':Nat→Nat}
theorem CutG.out(l:qvi w0 w1 S F):¬Fr S w1 w F:=by
 obtain⟨i,m,o⟩:=l;rintro (e | e)
 ·exact i e
 ·omega
theorem CutG.start(h:DuG w0 w p S Q g)(f:w.heap[F]? = some (.cells #[.int .i64 0] 29 (0,0))):CutG w0 w w p S F Q g :=
 ⟨h.wider (fun _ h=> .inl h) (fun b i=>i.elim (h.lt b) (fun e=>by omega)),Upd.refl _ _,f⟩
theorem CutG.step(l:qvi w0 w1 S F)(c:CutG w0 w1 w p S F Q g)(b:DSG w0 w p (Fr S w1 w) w' Q' g'):CutG w0 w1 w' p S F Q' g':=by
 have t:=c.u.size;have v:=b.2.size;have q:=l.2.2;refine⟨b.1.wider ?_ ?_,?_,b.2.old c.f (CutG.out l)⟩
 ·rintro i ((e | e) | e)
  ·exact .inl e
  ·exact .inr ⟨e.1,by omega⟩
  ·exact .inr ⟨by omega,e.2⟩
 ·rintro i (e | e)
  ·have:=c.d.lt i (.inl e);exact⟨this.1,by omega⟩
  ·have:=b.1.lt;have o:=c.d.n.size;by_cases m:i<w.heap.size
   ·have:=c.d.lt i (.inr ⟨e.1,m⟩);exact⟨this.1,by omega⟩
   ·exact⟨by omega,e.2⟩
 ·refine c.u.fr (b.2.mono ?_);rintro i m (e | e)
  ·exact .inl (.inl e)
  ·exact .inr e
theorem CutG.new(c:CutG w0 w1 w p S F Q g)(n:qu w w'):CutG w0 w1 w' p S F Q g:=by
 have o:=c.u.size;have q:=n.size;have m:=c.d.n.size;refine⟨(c.d.new n).wider (fun b i=>i.imp id (fun e=>⟨e.1,by omega⟩)) ?_,c.u.trans (n.mono (fun _ _ h=>h.elim)),n.old c.f (fun h=>h)⟩;rintro b (e | e)
 ·have:=c.d.lt b (.inl e);exact⟨this.1,by omega⟩
 ·by_cases l:b<w.heap.size
  ·have:=c.d.lt b (.inr ⟨e.1,l⟩);exact⟨this.1,by omega⟩
  ·exact⟨by omega,e.2⟩
theorem CutG.note(l:qvi w0 w1 S F)(c:CutG w0 w1 w p S F Q g):CutG w0 w1 (w.setCell ⟨F,0,none⟩ (.int .i64 0)) p S F Q g:=by
 have i:Upd (· = F) w (w.setCell ⟨F,0,none⟩ (.int .i64 0)):=(Upd.refl _ _).set1 0 _;have q:=c.u.size;have t:=i.size;have d:=c.d.upd i (fun b e=>by subst e;exact⟨CutG.out l,l.2.2⟩);refine⟨d.wider (fun b m=>m.imp id (fun e=>⟨e.1,by omega⟩)) ?_,c.u.trans (i.mono (fun _ _ h=> .inr h)),?_⟩
 ·rintro b (e | e)
  ·exact d.lt b (.inl e)
  ·by_cases o:b<w.heap.size
   ·exact d.lt b (.inr ⟨e.1,o⟩)
   ·have:=d.n.size;have:=c.d.n.size;exact⟨by omega,e.2⟩
 ·have:=z7 c.f 0 (.int .i64 0);rw[this];rfl
def Pr.noWays(P:Pr):Pr:= {P with wa:=[],wb:=[]}
theorem DuG.clear(h:DuG w0 w p S P g)(U:Upd (· = p) w w')(q:w'.heap[p]? = some (.cells (duC g (fun _=>qcd)).toArray 80 (0,0))):DSG w0 w p S w' P.noWays g:=by
 obtain⟨T,u,h⟩:=h;have z:=U.size;refine⟨⟨T,fun _=>qcd,q,fun k l=> ?_,fun k l=> ?_,fun k l=> ?_,h.sep,h.pT,fun j k t l b i=>by simp[qcd,Value.ownBlock] at i,fun b i=>by simp[qcd,Value.ownBlock] at i,.inl h.pS,fun k l b i=> .inl (h.tS k l b i),fun k l b i=>by simp[qcd,Value.ownBlock] at i,?_,?_⟩,U.mono (fun b _ e=>by rw[e];exact h.pS)⟩
 ·have e:P.noWays.en k=P.en k:=rfl;rw[e];exact(h.en k l).upd U (fun b i e=>h.pT k l (e▸i))
 ·have e:P.noWays.way k=[]:=by rcases qb1 l with rfl | rfl<;>rfl
  rw[e];exact qfh.nil _ _
 ·have e:P.noWays.way k=[]:=by rcases qb1 l with rfl | rfl<;>rfl
  rw[e];intro m o;cases o
 ·rintro b (e | e)
  ·exact⟨(h.lt b e).1,by have:=(h.lt b e).2;omega⟩
  ·exact⟨by have:=h.n.size;omega,e.2⟩
 ·exact h.n.then U (fun b i e=>by have:=(h.lt p h.pS).1;omega)
theorem DuG.opE(h:DuG w0 w p S P g)(t:Tb w0){k:Nat}(l:k<2):∃i,ChS w (g k) i (P.en k)∧Apart i∧Tb w∧∀w' c',ChS w' (g k) (Fr i w w') c'→Upd i w w'→DSG w0 w p S w' (P.set k c') g:=by
 obtain⟨T,u,h⟩:=h;exact⟨T k,h.en k l,h.apart t l,t.new h.n,fun w' c' q m=>⟨⟨_,_,h.op l q m⟩,m.mono (fun b _ o=>h.tS k l b o)⟩⟩
theorem zh7(q:Tb w0)(H:DuG w0 w p S P g){k:Nat}(t:k<2) :
  Calls Tryz.prog 39 #[.pointer (some ⟨g k,0,none⟩)] w fun e w'=>(∃v rv,e = .returned (.agg #[v,rv]))∧DSG w0 w p S w' (P.set k (P.en k).cut) g:=by
 obtain⟨l,m,z,C,o⟩:=H.opE q t
 exact(zdk _ l _ w m).mono fun e w' i=>⟨i.1,o _ _ i.2.1 i.2.2⟩
theorem q36(i:Tb w0)(H:DuG w0 w p S P g){k:Nat}(l:k<2) :
  Calls Tryz.prog 40 #[.pointer (some ⟨g k,0,none⟩)] w (qbr (.agg (P.en k).again.cells.toArray) w):=by
 obtain⟨m,⟨q,nv,o,h⟩,-⟩:=H.opE i l
 exact q44 _ _ w h.toR ⟨h.ok.signed.1,by have:=h.ok.signed.2;show (P.en k).k.signed<_;omega⟩ h.ok.heard
theorem zb1(P:Pr)(k:Nat):P.set k (P.en k)=P:=by
 unfold Pr.set Pr.en;by_cases h:k=0<;>simp[h]
theorem q9g(E:Tb w0)(H:DuG w0 w p S P g){k:Nat}(J:k<2){m:MsgV}(i:HearOne (P.en k) m)(D:m.kind=9) :
  Calls Tryz.prog 41 #[.pointer (some ⟨g k,0,none⟩),.agg m.cells.toArray] w fun e w'=>∃v,e = .returned (.tuple #[v,.int .i64 0])∧qmh w' v ((P.en k).hears m).2.1∧DSG w0 w p S w' P g:=by
 obtain⟨o,q,t,z,C⟩:=H.opE E J
 refine(qor _ o _ m i.ok w q i.inv z t i.kind i.last).mono ?_
 rintro e w' ⟨v,rfl,L,I,M⟩
 rw[i.err]
 refine⟨v,rfl,q4x (fun l K=>(i.says l K).len) L,?_⟩
 have:=C w' _ I M
 rw[qmp _ D,zb1] at this
 exact this
theorem q88(t:Tb w0)(q:qvi w0 w1 S F)(c:CutG w0 w1 w p S F P g){k:Nat}(D:k<2){m:MsgV}{ms:List MsgV}(I:P.way k=m::ms)(i:HearOne (P.en k) m) :
  Calls Tryz.prog 38 #[.pointer (some ⟨p,0,none⟩),.int .i64 (k:Int)] w fun e w'=>∃v,e = .returned (.tuple #[v,.int .i64 0])∧(∃a c,v = .slice a ((P.en k).hears m).2.1.length c)∧∃g',CutG w0 w1 w' p S F (P.took k ((P.en k).hears m).1 ms) g':=by
 refine(qtx t c.d.toD (k:Int) k (qxg D) m ms I ((P.en k).hears m).1 ((P.en k).hears m).2.1 ((P.en k).hears m).2.2 i.says (fun W g o C z H=>qor g o (P.en k) m i.ok W C i.inv H z i.kind i.last)).mono ?_
 rintro e w' ⟨v,rfl,E,hd⟩
 rw[i.err]
 obtain⟨g',l⟩:=hd.toG
 exact⟨v,rfl,E.shape,g',c.step q l⟩
set_option maxHeartbeats 600000 in
theorem qsg(t:qvi w0 w1 S F)(c:CutG w0 w1 w p S F P g):Calls Tryz.prog 37 #[.int .i64 0,.pointer (some ⟨F,0,none⟩)] w fun e w'=>e = .returned (.tuple #[])∧CutG w0 w1 w' p S F P g∧Upd (· = F) w w'∧∀a u,w.cell? a=some u→w'.cell? a=some u:=by
 have i:w.cell? ⟨F,0,none⟩=some (.int .i64 0):=qh c.f 0;have v:=qv c.f 0;have m:∀a u,w.cell? a=some u→(w.setCell ⟨F,0,none⟩ (.int .i64 0)).cell? a=some u:=by
  intro a u l;by_cases e:(⟨F,0,none⟩:Addr)=a
  ·subst e;rw[World.cell?_setCell_same (h:=i),←l,i]
  ·rw[World.cell?_setCell_other (h:=e)];exact l
 have o:Upd (· = F) w (w.setCell ⟨F,0,none⟩ (.int .i64 0)):=(Upd.refl _ _).set1 0 _;have q:=qb (And.intro (c.note t) (And.intro o m));clear c m o;go_enter Tryz.func37,Tryz.ntmps37;go_wp2_with fail;go_end0;exact⟨rfl,qa q⟩
theorem qmh.keep{v:Value}{ls:List MsgV}(h:qmh w v ls)(k:∀a u,w.cell? a=some u→w'.cell? a=some u):qmh w' v ls:=by
 rcases h with h | ⟨i,c,e,h⟩
 ·exact .inl h
 ·exact .inr ⟨i,c,e,fun j u l=>k _ _ (h j u l)⟩
theorem CutG.again{i:World}(l:qvi w0 w1 S F)(c:CutG w0 w1 w p S F Q g)(n:qu w i):qvi w0 i (Fr S w1 w) F∧CutG w0 i i p (Fr S w1 w) F Q g:=by
 have m:=c.u.size;have o:=n.size;exact⟨⟨CutG.out l,by have:=l.2.1;omega,l.2.2⟩,CutG.start (c.d.new n) (n.old c.f (fun h=>h))⟩
theorem CutG.fin2{i o q:World}(t:DuD w0 i p S P)(n:qu i w1)(C:i.heap.size≤F)(c:CutG w0 w1 w p S F Q g)(m:qu w o)(l:CutG w0 o q p (Fr S w1 w) F Q' g'):DSt w0 i p S q Q':=by
 have z:=n.size;have D:=c.u.size;have E:=m.size;refine DSt.fin t l.d.toD ?_ (((n.mono (fun _ _ h=>h.elim)).trans (c.u.mono ?_)).trans ((m.mono (fun _ _ h=>h.elim)).trans (l.u.mono ?_)))
 ·rintro b ((e | e) | e)
  ·exact .inl e
  ·exact .inr (by omega)
  ·exact .inr (by omega)
 ·rintro b v (e | e)
  ·exact .inl e
  ·exact .inr (by omega)
 ·rintro b v ((e | e) | e)
  ·exact .inl e
  ·exact .inr (by omega)
  ·exact .inr (by omega)
theorem CutG.fin{i:World}(m:qvi w0 w1 S F)(l:DuD w0 i p S P)(n:qu i w1)(o:i.heap.size≤F)(c:CutG w0 w1 w p S F Q g):DSt w0 i p S w Q:=by
 have z:=n.size;refine DSt.fin l c.d.toD ?_ ((n.mono (fun _ _ h=>h.elim)).trans (c.u.mono ?_))
 ·rintro b (e | e)
  ·exact .inl e
  ·exact .inr (by omega)
 ·rintro b q (e | e)
  ·exact .inl e
  ·exact .inr (by omega)
end
theorem Tryz.infoMg2:(Tryz.prog.info? 94).map (·.size)=some 76:=by kernel_rfl
def zft(x v:Value):Sem Unit:=Instr.storeAt 94 x v
theorem q0i(x v:Value):Instr.storeAt 94 x v=zft x v:=rfl
theorem zhn(b o:Nat)(A:Array Value)(w:World):(zft (.pointer (some ⟨b,o,none⟩)) (.agg A)).run Tryz.prog w=if stOk w b o 76 A=true then .ok () (w.setCells b o A.toList) else qf2 Tryz.prog 94 w b o A :=
 qax 94 76 Tryz.infoMg2 b o A w
def mg2(m k:MsgV):List Value:=m.cells++k.cells
def q8x(p:Array (Nat × Value)):Sem Value:=Instr.build 94 p
theorem qx2(p:Array (Nat × Value)):Instr.build 94 p=q8x p:=rfl
def agM(c i r:Int):MsgV:=⟨9,c,i,0,zv,0,r⟩
theorem zge(g i1 l i i2 o:Int)(w:World):(q8x #[(0,.agg (agM g i1 l).cells.toArray),(1,.agg (agM i i2 o).cells.toArray)]).run Tryz.prog w = .ok (.agg (mg2 (agM g i1 l) (agM i i2 o)).toArray) w:=run_build w _ _ _ (by kernel_rfl)
def qfe:List Value:=MsgV.zero.cells++MsgV.zero.cells
def ze8:Sem Value:=Instr.alloc 94 true (.tuple #[])
theorem qxv:Instr.alloc 94 true (.tuple #[])=ze8:=rfl
theorem zf9(w:World):ze8.run Tryz.prog w = .ok (.pointer (some ⟨w.heap.size,0,none⟩)) (w.alloc (.cells qfe.toArray 94)):=by kernel_rfl
structure Mg2(w:World)(b:Nat)(m k:MsgV):Prop where
 at_:w.heap[b]? = some (.cells (mg2 m k).toArray 94 (0,0))
 l1:m.hash.length=32
 l2:k.hash.length=32
section
variable {w w':World}{b:Nat}{m k:MsgV}
theorem qwn(g:m.hash.length=32)(i:k.hash.length=32):(mg2 m k).length=76:=by unfold mg2;rw[List.length_append,m.len g,k.len i]
theorem Mg2.upd{S:Nat→Prop}(a:Mg2 w b m k)(u:Upd S w w')(n:¬S b):Mg2 w' b m k:=⟨u.old a.at_ n,a.l1,a.l2⟩
theorem Mg2.row0(a:Mg2 w b m k):zm w b 0 38=some m.cells.toArray:=by
 rw[qbz a.at_ 0 38 (by rw[List.size_toArray,qwn a.l1 a.l2];omega)];congr 1;apply Array.ext';rw[Array.toList_extract];show List.extract (m.cells++k.cells) 0 38=m.cells;rw[List.extract_eq_take_drop,List.drop_zero,List.take_append_of_le_length (by rw[m.len a.l1];exact Nat.le_refl _),List.take_of_length_le (by rw[m.len a.l1];exact Nat.le_refl _)]
theorem Mg2.row1(a:Mg2 w b m k):zm w b 38 38=some k.cells.toArray:=by
 rw[qbz a.at_ 38 38 (by rw[List.size_toArray,qwn a.l1 a.l2];omega)];congr 1;apply Array.ext';rw[Array.toList_extract];show List.extract (m.cells++k.cells) 38 76=k.cells;rw[List.extract_eq_take_drop,List.drop_append_of_le_length (by rw[m.len a.l1];exact Nat.le_refl _),List.drop_of_length_le (by rw[m.len a.l1];exact Nat.le_refl _),List.nil_append,List.take_of_length_le (by rw[k.len a.l2];exact Nat.le_refl _)]
theorem qlx(h:w.heap[b]? = some (.cells qfe.toArray 94 (0,0)))(g:m.hash.length=32)(i:k.hash.length=32) :
  stOk w b 0 76 (mg2 m k).toArray=true∧Mg2 (w.setCells b 0 (mg2 m k)) b m k:=by
 have l:=qwn g i
 refine⟨qfb (C:=qfe.toArray) h (by rw[l];rfl) (fun v hv=>(List.mem_append.1 hv).elim (m.one v) (k.one v)),⟨?_,g,i⟩⟩
 rw[qa2 h 0 _]
 exact congrArg (fun z=>some (Obj.cells z 94 (0,0))) (qcz qfe.toArray (mg2 m k) (by rw[l];rfl))
end
theorem q4f(a b:Nat):(∀w,(Instr.index 77 (.agg #[.pointer (some ⟨a,0,none⟩),.pointer (some ⟨b,0,none⟩)]) (.int .i64 0)).run Tryz.prog w = .ok (.pointer (some ⟨a,0,none⟩)) w)∧∀w,(Instr.index 77 (.agg #[.pointer (some ⟨a,0,none⟩),.pointer (some ⟨b,0,none⟩)]) (.int .i64 1)).run Tryz.prog w = .ok (.pointer (some ⟨b,0,none⟩)) w:=⟨fun _=>by kernel_rfl,fun _=>by kernel_rfl⟩
def Pr.cutK(P:Pr):Nat→Pr
 | 0=>P
 | k+1=>(P.cutK k).set k ((P.cutK k).en k).cut
noncomputable def Pr.tellK(P:Pr):Nat→Pr
 | 0=>P
 | k+1=>(P.tellK k).sends k (((P.tellK k).en k).hears ((P.tellK k).en (1-k)).again).2.1
theorem q77(P:Pr):((P.noWays.cutK 2).tellK 2) = {P.told with bad:=P.bad} := by
 obtain⟨a,b,wa,wb,bad⟩:=P;rfl
end Go.Proofs.YthnohmjbbeahmaaGreatDoor
