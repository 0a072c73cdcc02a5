/-
  hearSign.
-/
import Derived.Test.YthnohmjbbeahmaaGreatDoorSgn
import Derived.Test.YthnohmjbbeahmaaGreatDoorRvk
set_option linter.unusedVariables false
set_option linter.unusedSimpArgs false
namespace Go.Proofs.YthnohmjbbeahmaaGreatDoor
open Go.RowKit
def zie(x:Value):Sem Value:=Instr.loadAt 126 x
theorem q2c(x:Value):Instr.loadAt 126 x=zie x:=rfl
theorem zig(b o:Nat)(w:World):(zie (.pointer (some ⟨b,o,none⟩))).run Tryz.prog w=match zm w b o 3 with | some A=> .ok (.agg A) w | none=>qek Tryz.prog 126 w b o :=
 qae 126 3 _ Tryz.underlying126 rfl Tryz.infoView b o w
def zit(x v:Value):Sem Unit:=Instr.storeAt 126 x v
theorem q3h(x v:Value):Instr.storeAt 126 x v=zit x v:=rfl
theorem ziw(b o:Nat)(A:Array Value)(w:World):(zit (.pointer (some ⟨b,o,none⟩)) (.agg A)).run Tryz.prog w=if stOk w b o 3 A=true then .ok () (w.setCells b o A.toList) else qf2 Tryz.prog 126 w b o A :=
 qax 126 3 Tryz.infoView b o A w
def zh1:Sem Value:=Instr.alloc 126 true (.tuple #[])
theorem q03:Instr.alloc 126 true (.tuple #[])=zh1:=rfl
def zVw:List Value:=[.int .u64 0,.int .u64 0,.slice none 0 0]
theorem zh2(w:World):zh1.run Tryz.prog w = .ok (.pointer (some ⟨w.heap.size,0,none⟩)) (w.alloc (.cells zVw.toArray 126)):=by kernel_rfl
def vwC(A B:Int)(a:Option Addr)(n c:Nat):List Value:=[.int .u64 A,.int .u64 B,.slice a n c]
theorem zex(A B:Int)(a:Option Addr)(n c:Nat):∀v∈vwC A B a n c,v.oneCell'=true:=by
 intro v hv;simp only[vwC,List.mem_cons,List.not_mem_nil,or_false] at hv;rcases hv with rfl | rfl | rfl<;>rfl
theorem zc1{w:World}{b:Nat}(h:w.heap[b]? = some (.cells zVw.toArray 126 (0,0)))(A B:Int)(a:Option Addr)(n c:Nat) :
  stOk w b 0 3 #[.int .u64 A,.int .u64 B,.slice a n c]=true∧(w.setCells b 0 [.int .u64 A,.int .u64 B,.slice a n c]).heap[b]? = some (.cells #[.int .u64 A,.int .u64 B,.slice a n c] 126 (0,0))∧Upd (· = b) w (w.setCells b 0 [.int .u64 A,.int .u64 B,.slice a n c]):=by
 refine⟨qfb (C:=zVw.toArray) h rfl (zex A B a n c),?_⟩
 refine⟨?_,(Upd.refl _ _).setCells 0 _⟩
 rw[qa2 h 0 _]
 exact congrArg (fun z=>some (Obj.cells z 126 (0,0))) (qcz zVw.toArray (vwC A B a n c) rfl)
theorem qfp.putV{w w':World}{v:Value}{X:List Item}{K:Nat}{C o:Array Value}{T t:TypeId}{F l:Nat × Nat}(h:qfp w v X)(I:w.heap[K]? = some (.cells C T F))(N:C.size=3)(u:Upd (· = K) w w')(q:w'.heap[K]? = some (.cells o t l))(H:o.size=3):qfp w' v X:=by
 rcases h with h | ⟨g,off,cap,e,h⟩
 ·exact .inl h
 ·refine .inr ⟨g,off,cap,e,?_⟩;by_cases z:g=K
  ·subst z;obtain⟨D,U,M,m,E,O⟩:=h;rw[I] at m;injection m with m;injection m with hb1 hb2 hb3;subst hb1;have J:X=[]:=by
    cases X with
    | nil=>rfl
    | cons x X=>simp at E;omega
   subst J;exact⟨o,t,l,q,by simp at E ⊢;omega,fun i x L=>by simp at L⟩
  ·exact h.upd u z
attribute [local go_sem ↓ high] zy qak qaq qat zr zu zw zx qpm q2c q3h q03 qlb qd4
attribute [local go_sem] qcl qdb qdn qgw zb qb3 qb9 qcf qbg zar zig ziw zh2 qkw
noncomputable def qgx(c:Ch)(m:MsgV):Bool:=m.hash != zt true c.s.peer c.s.ch m.number c.loc c.rem (qo 3 c.xs)
noncomputable def qcg(c:Ch)(m:MsgV):Int :=
 if zl 3 c.xs=false then 5 else if m.number≠c.k.heard+1 then 1 else if qgx c m=true then 133 else 0
def Ch.heardOne(c:Ch):Ch:= {c with k:= {c.k with heard:=c.k.heard+1}}
def Ch.revokes(c:Ch):Ch:= {c with k:= {c.k with revoked:=true}}
def Ch.signedBy(c:Ch):Ch:=((c.goOn 3).heardOne.goOn 4).revokes
noncomputable def Ch.hearSign(c:Ch)(m:MsgV):Ch × List MsgV × Int:=if qcg c m=0 then (c.signedBy,[c.signedBy.revocation],0) else (c,[],qcg c m)
theorem qwb{c:Ch}{m:MsgV}{e:Int}(h:qcg c m=e)(n:e≠0):c.hearSign m=(c,[],e):=by unfold Ch.hearSign;rw[h,if_neg n]
theorem qn5{w:World}{m:MsgV}(g:m.hash.length=32)(b0:Nat)(i:b0≤w.heap.size):qc0 b0 (w.alloc (.cells m.cells.toArray 71)) (.slice (some ⟨w.heap.size,0,none⟩) 1 1) [m]:=by
 refine⟨by simp[m.len g],.inr ⟨w.heap.size,1,m.cells.toArray,rfl,i,qi _ _,Nat.le_refl _,by decide,by rw[List.size_toArray,m.len g],?_⟩⟩;show List.take (1*38) m.cells=[m].flatMap MsgV.cells;rw[List.take_of_length_le (by rw[m.len g];exact Nat.le_refl _)];simp
set_option maxRecDepth 100000 in
set_option maxHeartbeats 1000000 in
theorem qwa(g:Nat)(S:Nat→Prop)(c:Ch)(m:MsgV)(hm:MsgOk m)(w:World)(h:ChS w g S c)(hT:Tb w)(hS:Apart S)(hk:c.s.peer.size≤100000000)(h0:0≤c.s.ch∧c.s.ch<4294967296)(i9:c.k.heard<4294967295)(j1:c.xs.length≤16) :
  Calls Tryz.prog 84 #[.pointer (some ⟨g,0,none⟩),.agg m.cells.toArray] w fun e w'=>∃v,
   e = .returned (.tuple #[v,.int .i64 (c.hearSign m).2.2])∧qc0 w.heap.size w' v (c.hearSign m).2.1∧ChS w' g (Fr S w w') (c.hearSign m).1∧Upd S w w':=by
 obtain⟨lv,nv,av,h⟩:=h
 go_enter Tryz.func84,Tryz.ntmps84
 go_upto_region 1 with fail
 have hA:=qbx w m hm.len
 have n1:qu w (w.alloc (.cells m.cells.toArray 71)):=(Upd.refl _ _).alloc _
 generalize w.alloc (.cells m.cells.toArray 71)=w1 at n1 hA ⊢
 obtain⟨A,d6⟩:∃A,A=w.heap.size:=⟨_,rfl⟩
 rw[←d6] at hA ⊢
 have i7:g≠A:=by have:=h.lt g h.inG;omega
 have i4:¬S A:=fun e=>by have:=h.lt A e;omega
 have i5:w.heap.size≤A:=by omega
 clear d6
 have h1:=h.new n1
 have d4:w1.cell? ⟨g,47,none⟩=some lv:=h1.toR.live
 have h3:=h.ok.few
 have N:=qpg lv c.xs 3 (by omega) w1 (hT.new n1).glob h1.toI.lives
 obtain⟨la,b5,e6⟩:=qap h.live
 have e9:qcg c m=if zl 3 c.xs=false then 5 else if m.number≠c.k.heard+1 then 1 else if qgx c m=true then 133 else 0:=rfl
 have t:=qb e9
 have H0:=qb h
 have H1:=qb h1
 have HA:=qb hA
 have N1:=qb n1
 have L:=qb (hT.new n1)
 have g0:=qb hT
 have i8:=h.ok.heard
 have bad:∀(W:World) (e:Int),qu w1 W→qcg c m=e→e≠0→c.hearSign m=(c,[],e)∧ChS W g (Fr S w W) c∧Upd S w W:=by
  intro W e nW hs he;exact⟨qwb hs he,(h1.new nW).fr w,(n1.trans nW).mono (T:=S) (fun _ _ h=>h.elim)⟩
 have I:=qb bad
 clear e9 h h1 hA n1 hT bad
 rw[e6] at d4 N
 go_wp2_with (with_reducible first|(first|refine' tw1 (qg ?_) ?_|refine' tw2 (qg ?_) ?_);rotate_left|refine' tw3 (qg ?_)|rfl|apply tn|refine' tw4 ?_)
 refine N.mono ?_
 rintro e w2 ⟨rfl,n2⟩
 clear N d4
 cases hc:zl 3 c.xs with
 | false =>
  rw[hc,if_pos rfl] at t;have HX:=qb (qa I w2 5 n2 (qa t) (by decide));clear n2;go_wp2_with (with_reducible first|(first|refine' tw1 (qg ?_) ?_|refine' tw2 (qg ?_) ?_);rotate_left|refine' tw3 (qg ?_)|rfl|apply tn|refine' tw4 ?_);go_ret2;obtain⟨hE,hC,hU⟩:=qa HX;rw[hE];exact⟨_,rfl,qc0.nil _ _,hC,hU⟩
 | true =>
  rw[hc,if_neg (by decide)] at t;have H:=(qa H1).new n2;have b7:w2.cell? ⟨g,38,none⟩=some (.int .i64 c.k.heard):=H.toR.heard;obtain⟨-,-,-,-,-,P,-⟩:=((qa HA).new n2).cells;have j0:IntKind.i64.wrap (c.k.heard+1)=c.k.heard+1:=qkj (by omega) (by omega);by_cases z:m.number=c.k.heard+1
  ·rw[if_neg (fun h=>h z)] at t;rw[z] at P;have N2:=qb n2;have H2:=qb H;clear H n2;go_upto_region 5 with (with_reducible first|(first|refine' tw1 (qg ?_) ?_|refine' tw2 (qg ?_) ?_);rotate_left|refine' tw3 (qg ?_)|rfl|apply tn|refine' tw4 ?_);have n3:qu w1 w2.drew:=(qa N2).drew;have N3:=qb n3;clear n3 b7 P N2 H2;generalize w2.drew=q at N3 ⊢;have hP:=(qa H1).new (qa N3);have H3:=qb hP;have dB:zm q.drew g 45 2=some #[.int .u64 c.loc,.int .u64 c.rem]:=hP.base;have b8:q.drew.cell? ⟨g,47,none⟩=some lv:=hP.toR.live;have c2:=fun W (n:qu q W)=>qqy lv c.xs 3 (by omega) W (((qa L).new (qa N3)).new n).glob (hP.toI.lives.new n)
   rw[e6] at b8 c2;have f2:(qo 3 c.xs).length≤1000000:=by unfold qo;rw[List.length_map];exact h3
   have b4:(qo 3 c.xs).length≤19:=by unfold qo;rw[List.length_map];omega
   have f3:∀x∈qo 3 c.xs,LiveOk x:=by
    intro y hy;obtain⟨x,hx,rfl⟩:=List.mem_map.1 hy;exact q8l (hP.ok.xs x hx) 3
   have e7:=fun W (n:qu q W) u (hu:qio W u (qo 3 c.xs))=>qzn true c.loc c.rem u (qo 3 c.xs) b4 W (((qa L).new (qa N3)).new n).spans hu
   have f1:=fun W (n:qu q W) V (M:ViewO true c.loc c.rem (qo 3 c.xs) W V)=>qu5 true c.loc c.rem V (qo 3 c.xs) c.s.peer c.s.ch (c.k.heard+1) f2 W (((qa L).new (qa N3)).new n).tabs M f3 hk h0 (by omega) hP.ok.loc hP.ok.rem
   have g9:=qgu true c.s.peer c.s.ch (c.k.heard+1) c.loc c.rem (qo 3 c.xs);have g8:qal (zt true c.s.peer c.s.ch (c.k.heard+1) c.loc c.rem (qo 3 c.xs)):=by unfold zt qtr;exact qhu _
   have e3:qgx c m=(m.hash != zt true c.s.peer c.s.ch (c.k.heard+1) c.loc c.rem (qo 3 c.xs)):=by unfold qgx;rw[z]
   have O:∀W,qu q.drew W→zm W g 45 2=some #[.int .u64 c.loc,.int .u64 c.rem]∧W.cell? ⟨g,47,none⟩=some (.slice la c.xs.length b5):=by
    intro W n;have H:=hP.new (((Upd.refl (fun _=>False) q).drew).trans n);exact⟨H.base,n.cell b8 (fun h=>h)⟩
   have c8:=qb c2;have b6:=qb e7;have g1:=qb f1;have d2:=qb e3;have D:=qb O;have d7:=O q.drew (Upd.refl _ _);clear hP c2 e7 f1 e3 O dB b8 f2 b4 f3;generalize zt true c.s.peer c.s.ch (c.k.heard+1) c.loc c.rem (qo 3 c.xs)=T at *
   generalize hY:qo 3 c.xs=Y at *
   have HY:=qb hY;clear hY
   go_cut [6] from 24 to 33 (fun ov wx=>∃K u,ov = .pointer (some ⟨K,0,none⟩)∧q.heap.size≤K∧wx.heap[K]? = some (.cells #[.int .u64 (qie true c.loc c.rem Y),.int .u64 (qif true c.loc c.rem Y),u] 126 (0,0))∧ViewO true c.loc c.rem Y wx (.agg #[.int .u64 (qie true c.loc c.rem Y),.int .u64 (qif true c.loc c.rem Y),u])∧qu q wx)
   case first =>
    have nd:qu q q.drew:=(Upd.refl _ _).drew;refine qc7 (fun w'=>zm w' g 45 2=some #[.int .u64 c.loc,.int .u64 c.rem]∧w'.cell? ⟨g,47,none⟩=some (.slice la c.xs.length b5)) [3,7] (Plan.pre [0,1,2,3,4,5,6,7] (.fork (.step 8 (.fork (.of [9,10,11]) (.of [10,9,11]))) (.of [10,8,9,11]))) (by kernel_rfl) (by kernel_rfl) d7 ?_;simp only[Plan.of,Plan.pre];go_wp2_with (with_reducible first|(first|refine' qw1 (qg ?_) ?_|refine' qw2 (qg ?_) ?_|refine' qw3 (qg ?_) ?_);rotate_left|refine' qw4 (qg ?_)|refine' qw5 (qg ?_)|rfl|apply qn);refine qf ?_ ?_
    ·go_wp2_with (with_reducible first|(first|refine' qw1 (qg ?_) ?_|refine' qw2 (qg ?_) ?_|refine' qw3 (qg ?_) ?_);rotate_left|refine' qw4 (qg ?_)|refine' qw5 (qg ?_)|rfl|apply qn);refine(qa c8 q.drew nd).mono ?_;rintro e wa ⟨u,rfl,F,hu⟩;go_wp2_with (with_reducible first|(first|refine' qw1 (qg ?_) ?_|refine' qw2 (qg ?_) ?_|refine' qw3 (qg ?_) ?_);rotate_left|refine' qw4 (qg ?_)|refine' qw5 (qg ?_)|rfl|apply qn);refine⟨qa D _ F,?_⟩;refine qf ?_ ?_
     ·go_wp2_with (with_reducible first|(first|refine' qw1 (qg ?_) ?_|refine' qw2 (qg ?_) ?_|refine' qw3 (qg ?_) ?_);rotate_left|refine' qw4 (qg ?_)|refine' qw5 (qg ?_)|rfl|apply qn);refine(qa b6 wa (nd.trans F) u hu.to).mono ?_;rintro e wb ⟨V,rfl,X,M⟩;obtain⟨⟨u2,rfl,E⟩,hI⟩:=M;obtain⟨a2,k2,rfl⟩:=E.slice;have o:qu wb (wb.alloc (.cells zVw.toArray 126)):=(Upd.refl _ _).alloc _;have a8:q.heap.size≤wb.heap.size:=((nd.trans F).trans X).size;obtain⟨f0,U,um⟩:=zc1 (qi wb (.cells zVw.toArray 126)) (qie true c.loc c.rem Y) (qif true c.loc c.rem Y) a2 (qfn (qz true Y)).length k2;have nF:=o.then um (fun i E e=>by omega);have HF:=qb U;have HV:=qb (ViewO.mk (ours:=true) (l:=c.loc) (r:=c.rem) (xs:=Y) ⟨_,rfl,E.new nF⟩ hI);have HN:=qb (((nd.trans F).trans X).trans nF);clear U um nF E;go_wp2_with (with_reducible first|(first|refine' qw1 (qg ?_) ?_|refine' qw2 (qg ?_) ?_|refine' qw3 (qg ?_) ?_);rotate_left|refine' qw4 (qg ?_)|refine' qw5 (qg ?_)|rfl|apply qn);refine⟨qa D _ ((F.trans X).trans o),?_⟩;clear o;go_wp2_with (with_reducible first|(first|refine' qw1 (qg ?_) ?_|refine' qw2 (qg ?_) ?_|refine' qw3 (qg ?_) ?_);rotate_left|refine' qw4 (qg ?_)|refine' qw5 (qg ?_)|rfl|apply qn);go_meet
      case rel=>exact⟨_,_,rfl,a8,qa HF,qa HV,qa HN⟩
     ·have o:qu wa (wa.alloc (.cells zVw.toArray 126)):=(Upd.refl _ _).alloc _;have C:=qi wa (.cells zVw.toArray 126);have a8:q.heap.size≤wa.heap.size:=(nd.trans F).size;go_wp2_with (with_reducible first|(first|refine' qw1 (qg ?_) ?_|refine' qw2 (qg ?_) ?_|refine' qw3 (qg ?_) ?_);rotate_left|refine' qw4 (qg ?_)|refine' qw5 (qg ?_)|rfl|apply qn);refine⟨qa D _ (F.trans o),?_⟩;generalize wa.alloc (.cells zVw.toArray 126)=wd at o C ⊢;generalize wa.heap.size=K at C a8 ⊢;have Z:=qb C;clear C;go_wp2_with (with_reducible first|(first|refine' qw1 (qg ?_) ?_|refine' qw2 (qg ?_) ?_|refine' qw3 (qg ?_) ?_);rotate_left|refine' qw4 (qg ?_)|refine' qw5 (qg ?_)|rfl|apply qn);refine(qa b6 wd ((nd.trans F).trans o) u (hu.to.new o)).mono ?_;rintro e wb ⟨V,rfl,X,M⟩;obtain⟨⟨u2,rfl,E⟩,hI⟩:=M;obtain⟨a2,k2,rfl⟩:=E.slice;obtain⟨f0,U,um⟩:=zc1 (X.old (qa Z) (fun h=>h)) (qie true c.loc c.rem Y) (qif true c.loc c.rem Y) a2 (qfn (qz true Y)).length k2;have HF:=qb U;have HV:=qb (ViewO.mk (ours:=true) (l:=c.loc) (r:=c.rem) (xs:=Y) ⟨_,rfl,E.putV (X.old (qa Z) (fun h=>h)) rfl um U rfl⟩ hI);have HN:=qb ((((nd.trans F).trans o).trans X).then um (fun i E e=>by omega));clear U um E;go_wp2_with (with_reducible first|(first|refine' qw1 (qg ?_) ?_|refine' qw2 (qg ?_) ?_|refine' qw3 (qg ?_) ?_);rotate_left|refine' qw4 (qg ?_)|refine' qw5 (qg ?_)|rfl|apply qn);go_meet
      case rel=>exact⟨_,_,rfl,a8,qa HF,qa HV,qa HN⟩
    ·have o:qu q (q.alloc (.cells zVw.toArray 126)).drew:=((Upd.refl _ _).alloc _).drew;have C:(q.alloc (.cells zVw.toArray 126)).drew.heap[q.heap.size]? = some (.cells zVw.toArray 126 (0,0)):=qi q _;have c4:qu q.drew (q.alloc (.cells zVw.toArray 126)).drew:=(Upd.refl (fun _=>False) q.drew).alloc (.cells zVw.toArray 126);go_wp2_with (with_reducible first|(first|refine' qw1 (qg ?_) ?_|refine' qw2 (qg ?_) ?_|refine' qw3 (qg ?_) ?_);rotate_left|refine' qw4 (qg ?_)|refine' qw5 (qg ?_)|rfl|apply qn);refine⟨qa D _ c4,?_⟩;generalize (q.alloc (.cells zVw.toArray 126)).drew=wd at o C c4 ⊢;generalize g7:q.heap.size=K at C ⊢;have Z:=qb C;clear C;go_wp2_with (with_reducible first|(first|refine' qw1 (qg ?_) ?_|refine' qw2 (qg ?_) ?_|refine' qw3 (qg ?_) ?_);rotate_left|refine' qw4 (qg ?_)|refine' qw5 (qg ?_)|rfl|apply qn);refine(qa c8 wd o).mono ?_;rintro e wa ⟨u,rfl,F,hu⟩;go_wp2_with (with_reducible first|(first|refine' qw1 (qg ?_) ?_|refine' qw2 (qg ?_) ?_|refine' qw3 (qg ?_) ?_);rotate_left|refine' qw4 (qg ?_)|refine' qw5 (qg ?_)|rfl|apply qn);refine⟨qa D _ (c4.trans F),?_⟩;go_wp2_with (with_reducible first|(first|refine' qw1 (qg ?_) ?_|refine' qw2 (qg ?_) ?_|refine' qw3 (qg ?_) ?_);rotate_left|refine' qw4 (qg ?_)|refine' qw5 (qg ?_)|rfl|apply qn);refine(qa b6 wa (o.trans F) u hu.to).mono ?_;rintro e wb ⟨V,rfl,X,M⟩;obtain⟨⟨u2,rfl,E⟩,hI⟩:=M;obtain⟨a2,k2,rfl⟩:=E.slice;have c0:=(F.trans X).old (qa Z) (fun h=>h);obtain⟨f0,U,um⟩:=zc1 c0 (qie true c.loc c.rem Y) (qif true c.loc c.rem Y) a2 (qfn (qz true Y)).length k2
     have HF:=qb U;have HV:=qb (ViewO.mk (ours:=true) (l:=c.loc) (r:=c.rem) (xs:=Y) ⟨_,rfl,E.putV c0 rfl um U rfl⟩ hI);have HN:=qb (((o.trans F).trans X).then um (fun i E e=>by omega));clear U um E c0;go_wp2_with (with_reducible first|(first|refine' qw1 (qg ?_) ?_|refine' qw2 (qg ?_) ?_|refine' qw3 (qg ?_) ?_);rotate_left|refine' qw4 (qg ?_)|refine' qw5 (qg ?_)|rfl|apply qn);go_meet
     case rel=>exact⟨_,_,rfl,Nat.le_of_eq g7,qa HF,qa HV,qa HN⟩
   case rest =>
    obtain⟨K,u,rfl,hK,d9,M,n4⟩:=hcut;obtain⟨w4,rfl⟩:∃w4:World,w4=wc:=⟨_,rfl⟩;clear d7;go_upto_region 6 with fail;have N4:=qb ((qa N3).trans n4);have a5:=(qa H1).new (qa N4);have d5:=(qa HA).new (qa N4);obtain⟨-,-,-,-,-,P,m4⟩:=d5.cells;rw[z] at P;have g4:w4.cell? ⟨g,36,none⟩=some (.string c.s.peer):=a5.peer;have d0:w4.cell? ⟨g,0,none⟩=some (.int .u32 c.s.ch):=a5.toR.ch;have rK:=qad d9 3 rfl;have a7:=fun W=>zba hm.len g9 hm.hash g8 W
    have d8:zm w4.drew A 4 32=some (qx m.hash).toArray:=m4;have H4:=qb a5;have h2:=M.u;clear a5 d5 m4;refine qc7 (fun w'=>zm w' A 4 32=some (qx m.hash).toArray) [1] (.of [0,1,2,3,4,5,6,7,8,9,10,11,12,13,14,15,16]) (by kernel_rfl) (by kernel_rfl) d8 ?_;simp only[Plan.of];clear h2 d9;go_wp2_with (with_reducible first|(first|refine' qw1 (qg ?_) ?_|refine' qw2 (qg ?_) ?_|refine' qw3 (qg ?_) ?_);rotate_left|refine' qw4 (qg ?_)|refine' qw5 (qg ?_)|rfl|apply qn);have f4:qu q w4.drew:=n4.drew;refine(qa g1 w4.drew f4 _ (M.new ((Upd.refl _ _).drew))).mono ?_;rintro e w5 ⟨rfl,n5⟩;have N5:=qb ((qa N4).trans n5.ofDrew);have b3:=((qa HA).new (qa N5)).cells.2.2.2.2.2.2;clear P g4 d0 rK M d8 n4 f4 n5;go_wp2_with (with_reducible first|(first|refine' qw1 (qg ?_) ?_|refine' qw2 (qg ?_) ?_|refine' qw3 (qg ?_) ?_);rotate_left|refine' qw4 (qg ?_)|refine' qw5 (qg ?_)|rfl|apply qn);refine⟨b3,?_⟩;clear b3;cases hh:(m.hash != T) with
    | true =>
     have J:Hid (qcg c m=133):=by rw[qa d2,hh,if_pos rfl] at t;exact t
     have HX:=qb (qa I w5 133 (qa N5) (qa J) (by decide));rw[hh] at a7;go_wp2_with (with_reducible first|(first|refine' qw1 (qg ?_) ?_|refine' qw2 (qg ?_) ?_|refine' qw3 (qg ?_) ?_);rotate_left|refine' qw4 (qg ?_)|refine' qw5 (qg ?_)|rfl|apply qn);go_ret2;obtain⟨hE,hC,hU⟩:=qa HX;rw[hE];exact⟨_,rfl,qc0.nil _ _,hC,hU⟩
    | false =>
     have J:Hid (qcg c m=0):=by rw[qa d2,hh,if_neg (by decide)] at t;exact t
     rw[hh] at a7;have e4:c.hearSign m=(c.signedBy,[c.signedBy.revocation],0):=by unfold Ch.hearSign;rw[if_pos (qa J)]
     have f7:=qb e4;have e1:=qnd g S c 3 w5 ⟨lv,nv,av,(qa H1).new (qa N5)⟩ ((qa L).new (qa N5)).glob;clear e4;go_wp2_with (with_reducible first|(first|refine' qw1 (qg ?_) ?_|refine' qw2 (qg ?_) ?_|refine' qw3 (qg ?_) ?_);rotate_left|refine' qw4 (qg ?_)|refine' qw5 (qg ?_)|rfl|apply qn);refine e1.mono ?_;rintro e w6 ⟨rfl,⟨j3,j5,i0,h6⟩,u6⟩;clear e1 a7;obtain⟨c1,a6⟩:∃c1,c1=c.goOn 3:=⟨_,rfl⟩;have e5:c1.k.heard=c.k.heard:=by rw[a6,qrh]
     rw[←a6] at h6;have b7:w6.cell? ⟨g,38,none⟩=some (.int .i64 c.k.heard):=by rw[←e5];exact h6.toR.heard
     have g5:w6.frozen? ⟨g,38,none⟩=false:=qv h6.at_ 38;have h7:=h6.putHeard (c.k.heard+1) (by omega);have u7:=qje w6 g 38 (.int .i64 (c.k.heard+1));have c3:S g:=(qa H0).inG;have U6:=qb (((((qa N1).trans (qa N5)).mono (T:=S) (fun _ _ h=>h.elim)).trans u6));have U7:=qb ((qa U6).trans (u7.mono (fun k _ e=>by rw[e];exact c3)));have h4:w.heap.size≤w5.heap.size:=((qa N1).trans (qa N5)).size;have b9:ChS (w6.setCell ⟨g,38,none⟩ (.int .i64 (c.k.heard+1))) g (Fr S w (w6.setCell ⟨g,38,none⟩ (.int .i64 (c.k.heard+1)))) ({c1 with k:= {c1.k with heard:=c.k.heard+1}} : Ch) :=
      (ChS.grow (S:=S) (w0:=w5) (w1:=w6) ⟨_,_,_,h7⟩ u7.size).later h4
     have e0:({c1 with k:= {c1.k with heard:=c.k.heard+1}} : Ch)=(c.goOn 3).heardOne:=by rw[a6,←e5,a6];rfl
     rw[e0] at b9;have c9:=qb b9;have d3:=qb (((qa L).new (qa N5)).upd (u6.trans (u7.mono (T:=S) (fun k _ e=>by rw[e];exact c3))) hS);clear h6 h7 b9 u6 u7 e0;go_upto_region 10 with fail;clear b7 g5;generalize w6.setCell ⟨g,38,none⟩ (.int .i64 (c.k.heard+1))=w7 at U7 c9 d3 ⊢;have e2:=qnd g (Fr S w w7) (c.goOn 3).heardOne 4 w7 (qa c9) (qa d3).glob;go_wp2_with (with_reducible first|(first|refine' tw1 (qg ?_) ?_|refine' tw2 (qg ?_) ?_);rotate_left|refine' tw3 (qg ?_)|rfl|apply tn|refine' tw4 ?_);refine e2.mono ?_;rintro e w8 ⟨rfl,h8,u8⟩;clear e2;have h5:=(qa U7).size;obtain⟨j4,j6,i3,h8⟩:=h8.comp h5 u8.size;have U8:=qb ((qa U7).fr u8);have g6:w8.frozen? ⟨g,44,none⟩=false:=qv h8.at_ 44;have g3:w8.cell? ⟨g,44,none⟩=some (.bool ((c.goOn 3).heardOne.goOn 4).k.revoked):=h8.toR.revoked;have h9:=h8.putRevoked true;have u9:=qje w8 g 44 (.bool true);have a4:ChS (w8.setCell ⟨g,44,none⟩ (.bool true)) g (Fr S w (w8.setCell ⟨g,44,none⟩ (.bool true))) c.signedBy:=ChS.grow (S:=S) (w0:=w) (w1:=w8) ⟨_,_,_,h9⟩ u9.size;have U9:=qb ((qa U8).trans (u9.mono (fun k _ e=>by rw[e];exact c3)));have c6:=qle g _ c.signedBy (w8.setCell ⟨g,44,none⟩ (.bool true)) a4 ((qa g0).upd (qa U9) hS).tabs;have c5:c.signedBy.revocation.hash.length=32:=by
      obtain⟨_,_,_,hq⟩:=a4;exact Ch.secret_len hq.ok _
     have d1:=qb a4;clear h8 u8 h9 u9 a4;go_upto_region 12 with (with_reducible first|(first|refine' tw1 (qg ?_) ?_|refine' tw2 (qg ?_) ?_);rotate_left|refine' tw3 (qg ?_)|rfl|apply tn|refine' tw4 ?_);clear g3 g6;generalize w8.setCell ⟨g,44,none⟩ (.bool true)=w9 at c6 d1 U9 ⊢;have f8:=qb c5;have i6:=MsgV.len _ c5;clear c5;generalize hR:c.signedBy.revocation=R at *
     go_wp2_with (with_reducible first|(first|refine' tw1 (qg ?_) ?_|refine' tw2 (qg ?_) ?_);rotate_left|refine' tw3 (qg ?_)|rfl|apply tn|refine' tw4 ?_);refine c6.mono ?_;rintro e f5 ⟨rfl,c7⟩;have j2:=(qa U9).size;have e8:=qn5 (w:=f5) (qa f8) w.heap.size (by have:=c7.size;omega);have a9:qu w9 (f5.alloc (.cells R.cells.toArray 71)):=c7.alloc _;have f9:=qb e8;have f6:=qb (((qa d1).new a9).grow a9.size);have g2:=qb ((qa U9).trans (a9.mono (T:=S) (fun _ _ h=>h.elim)));clear c6 c7 e8 a9;go_wp2_with (with_reducible first|(first|refine' tw1 (qg ?_) ?_|refine' tw2 (qg ?_) ?_);rotate_left|refine' tw3 (qg ?_)|rfl|apply tn|refine' tw4 ?_);go_ret2;rw[qa f7];exact⟨_,rfl,qa f9,qa f6,qa g2⟩
  ·rw[if_pos z] at t;have nd:qu w1 w2.drew:=n2.drew;have HX:=qb (qa I w2.drew 1 nd (qa t) (by decide));have a7:¬m.number=c.k.heard+1:=z;clear n2 nd H hm;go_wp2_with (with_reducible first|(first|refine' tw1 (qg ?_) ?_|refine' tw2 (qg ?_) ?_);rotate_left|refine' tw3 (qg ?_)|rfl|apply tn|refine' tw4 ?_);go_ret2;obtain⟨hE,hC,hU⟩:=qa HX;rw[hE];exact⟨_,rfl,qc0.nil _ _,hC,hU⟩
end Go.Proofs.YthnohmjbbeahmaaGreatDoor
