/-
  hearSign.
-/
import Derived.Test.YtfmkdoachjgjbaaGreatDoorSgn
import Derived.Test.YtfmkdoachjgjbaaGreatDoorRvk
set_option maxRecDepth 100000
set_option maxHeartbeats 1000000
set_option linter.unusedVariables false
set_option linter.unusedSimpArgs false
namespace Go.Proofs.YtfmkdoachjgjbaaGreatDoor
open Go.RowKit
def zdr(x:Value):Sem Value:=Instr.loadAt 201 x
theorem qxj(x:Value):Instr.loadAt 201 x=zdr x:=rfl
theorem zdv(b o:Nat)(w:World):(zdr (.pointer (some ⟨b,o,none⟩))).run Tryz.prog w=match zj w b o 3 with | some A=> .ok (.agg A) w | none=>qc6 Tryz.prog 201 w b o :=
 zy 201 3 _ Tryz.underlying201 rfl Tryz.infoView b o w
def zd2(x v:Value):Sem Unit:=Instr.storeAt 201 x v
theorem qyf(x v:Value):Instr.storeAt 201 x v=zd2 x v:=rfl
theorem zd5(b o:Nat)(A:Array Value)(w:World):(zd2 (.pointer (some ⟨b,o,none⟩)) (.agg A)).run Tryz.prog w=if stOk w b o 3 A=true then .ok () (w.setCells b o A.toList) else qd3 Tryz.prog 201 w b o A :=
 qap 201 3 Tryz.infoView b o A w
def zc9:Sem Value:=Instr.alloc 201 true (.tuple #[])
theorem qv6:Instr.alloc 201 true (.tuple #[])=zc9:=rfl
def zVw:List Value:=[.int .u64 0,.int .u64 0,.slice none 0 0]
theorem zdb(w:World):zc9.run Tryz.prog w = .ok (.pointer (some ⟨w.heap.size,0,none⟩)) (w.alloc (.cells zVw.toArray 201)):=by kernel_rfl
def vwC(A B:Int)(a:Option Addr)(n c:Nat):List Value:=[.int .u64 A,.int .u64 B,.slice a n c]
theorem zak(A B:Int)(a:Option Addr)(n c:Nat):∀v∈vwC A B a n c,v.oneCell'=true:=by
 intro v f;simp only[vwC,List.mem_cons,List.not_mem_nil,or_false] at f;rcases f with rfl | rfl | rfl<;>rfl
theorem q8k{w:World}{b:Nat}(h:w.heap[b]? = some (.cells zVw.toArray 201 (0,0)))(A B:Int)(a:Option Addr)(n c:Nat) :
  stOk w b 0 3 #[.int .u64 A,.int .u64 B,.slice a n c]=true∧(w.setCells b 0 [.int .u64 A,.int .u64 B,.slice a n c]).heap[b]? = some (.cells #[.int .u64 A,.int .u64 B,.slice a n c] 201 (0,0))∧Upd (· = b) w (w.setCells b 0 [.int .u64 A,.int .u64 B,.slice a n c]):=by
 refine⟨qej (C:=zVw.toArray) h rfl (zak A B a n c),?_⟩
 refine⟨?_,(Upd.refl _ _).setCells 0 _⟩
 rw[qa3 h 0 _]
 exact congrArg (fun z=>some (Obj.cells z 201 (0,0))) (qcv zVw.toArray (vwC A B a n c) rfl)
theorem qeb.putV{w w':World}{v:Value}{X:List Item}{K:Nat}{C p:Array Value}{T z:TypeId}{H f:Nat × Nat}(h:qeb w v X)(J:w.heap[K]? = some (.cells C T H))(O:C.size=3)(u:Upd (· = K) w w')(q:w'.heap[K]? = some (.cells p z f))(I:p.size=3):qeb w' v X:=by
 rcases h with h | ⟨g,off,cap,e,h⟩
 ·exact .inl h
 ·refine .inr ⟨g,off,cap,e,?_⟩;by_cases E:g=K
  ·subst E;obtain⟨D,U,N,m,F,P⟩:=h;rw[J] at m;injection m with m;injection m with hb1 hb2 hb3;subst hb1;have L:X=[]:=by
    cases X with
    | nil=>rfl
    | cons x X=>simp at F;omega
   subst L;exact⟨p,z,f,q,by simp at F ⊢;omega,fun i x M=>by simp at M⟩
  ·exact h.upd u E
attribute [local go_sem ↓ high] zl qaa qad qam qy qz zb zf qmm qxj qyf qv6 qi4 qae
attribute [local go_sem] qbf qci qcj qdh qv qas qat qax zx q6m zdv zd5 zdb qck
noncomputable def qj8(c:Ch)(m:MsgV):Bool:=m.hash != qbo true c.s.peer c.s.ch m.number c.loc c.rem (qal 3 c.xs)
noncomputable def qcu(c:Ch)(m:MsgV):Int :=
 if qa8 3 c.xs=false then 5 else if m.number≠c.k.heard+1 then 1 else if qj8 c m=true then 133 else 0
def Ch.heardOne(c:Ch):Ch:= {c with k:= {c.k with heard:=c.k.heard+1}}
def Ch.revokes(c:Ch):Ch:= {c with k:= {c.k with revoked:=true}}
def Ch.signedBy(c:Ch):Ch:=((c.goOn 3).heardOne.goOn 4).revokes
noncomputable def Ch.hearSign(c:Ch)(m:MsgV):Ch × List MsgV × Int:=if qcu c m=0 then (c.signedBy,[c.signedBy.revocation],0) else (c,[],qcu c m)
theorem qsi{c:Ch}{m:MsgV}{e:Int}(h:qcu c m=e)(n:e≠0):c.hearSign m=(c,[],e):=by unfold Ch.hearSign;rw[h,if_neg n]
theorem qlc{w:World}{m:MsgV}(f:m.hash.length=32)(b0:Nat)(i:b0≤w.heap.size):qb3 b0 (w.alloc (.cells m.cells.toArray 101)) (.slice (some ⟨w.heap.size,0,none⟩) 1 1) [m]:=by
 refine⟨by simp[m.len f],.inr ⟨w.heap.size,1,m.cells.toArray,rfl,i,qh _ _,Nat.le_refl _,by decide,by rw[List.size_toArray,m.len f],?_⟩⟩;show List.take (1*38) m.cells=[m].flatMap MsgV.cells;rw[List.take_of_length_le (by rw[m.len f];exact Nat.le_refl _)];simp
theorem qsh(g:Nat)(S:Nat→Prop)(c:Ch)(m:MsgV)(hm:MsgOk m)(w:World)(h:ChS w g S c)(hT:Tb w)(hS:Apart S)(hk:c.s.peer.size≤100000000)(h5:0≤c.s.ch∧c.s.ch<4294967296)(j1:c.k.heard<4294967295)(j3:c.xs.length≤16) :
  Calls Tryz.prog 179 #[.pointer (some ⟨g,0,none⟩),.agg m.cells.toArray] w fun e w'=>∃v,
   e = .returned (.tuple #[v,.int .i64 (c.hearSign m).2.2])∧qb3 w.heap.size w' v (c.hearSign m).2.1∧ChS w' g (Fr S w w') (c.hearSign m).1∧Upd S w w':=by
 obtain⟨lv,nv,av,h⟩:=h
 go_enter Tryz.func179,Tryz.ntmps179
 go_upto_region 1 with fail
 have hA:=qan w m hm.len
 have n1:qu w (w.alloc (.cells m.cells.toArray 101)):=(Upd.refl _ _).alloc _
 generalize w.alloc (.cells m.cells.toArray 101)=w1 at n1 hA ⊢
 obtain⟨A,e0⟩:∃A,A=w.heap.size:=⟨_,rfl⟩
 rw[←e0] at hA ⊢
 have i9:g≠A:=by have:=h.lt g h.inG;omega
 have i6:¬S A:=fun e=>by have:=h.lt A e;omega
 have i7:w.heap.size≤A:=by omega
 clear e0
 have h1:=h.new n1
 have d8:w1.cell? ⟨g,47,none⟩=some lv:=h1.toR.live
 have i1:=h.ok.few
 have O:=qme lv c.xs 3 (by omega) w1 (hT.new n1).glob h1.toI.lives
 obtain⟨la,b9,f0⟩:=zv h.live
 have f3:qcu c m=if qa8 3 c.xs=false then 5 else if m.number≠c.k.heard+1 then 1 else if qj8 c m=true then 133 else 0:=rfl
 have q:=qb f3
 have H0:=qb h
 have H1:=qb h1
 have HA:=qb hA
 have N1:=qb n1
 have M:=qb (hT.new n1)
 have g4:=qb hT
 have j0:=h.ok.heard
 have bad:∀(W:World) (e:Int),qu w1 W→qcu c m=e→e≠0→c.hearSign m=(c,[],e)∧ChS W g (Fr S w W) c∧Upd S w W:=by
  intro W e nW hs he;exact⟨qsi hs he,(h1.new nW).fr w,(n1.trans nW).mono (T:=S) (fun _ _ h=>h.elim)⟩
 have J:=qb bad
 clear f3 h h1 hA n1 hT bad
 rw[f0] at d8 O
 go_wp2_with ((with_reducible first|rfl|refine' ut ?_ ?_;rotate_left|refine' uu ?_)<;>intros)
 refine O.mono ?_
 rintro e w2 ⟨rfl,n2⟩
 clear O d8
 cases hc:qa8 3 c.xs with
 | false =>
  rw[hc,if_pos rfl] at q;have HX:=qb (qa J w2 5 n2 (qa q) (by decide));clear n2;go_wp2_with ((with_reducible first|rfl|refine' ut ?_ ?_;rotate_left|refine' uu ?_)<;>intros);go_ret2;obtain⟨hE,hC,hU⟩:=qa HX;rw[hE];exact⟨_,rfl,qb3.nil _ _,hC,hU⟩
 | true =>
  rw[hc,if_neg (by decide)] at q;have I:=(qa H1).new n2;have c2:w2.cell? ⟨g,38,none⟩=some (.int .i64 c.k.heard):=I.toR.heard;obtain⟨-,-,-,-,-,P,-⟩:=((qa HA).new n2).cells;have j2:IntKind.i64.wrap (c.k.heard+1)=c.k.heard+1:=qhl (by omega) (by omega);by_cases z:m.number=c.k.heard+1
  ·rw[if_neg (fun h=>h z)] at q;rw[z] at P;have N2:=qb n2;have H2:=qb I;clear I n2;go_upto_region 5 with ((with_reducible first|rfl|refine' ut ?_ ?_;rotate_left|refine' uu ?_)<;>intros);have n3:qu w1 w2.drew:=(qa N2).drew;have N3:=qb n3;clear n3 c2 P N2 H2;generalize w2.drew=p at N3 ⊢;have hP:=(qa H1).new (qa N3);have H3:=qb hP;have dB:zj p.drew g 45 2=some #[.int .u64 c.loc,.int .u64 c.rem]:=hP.base;have c3:p.drew.cell? ⟨g,47,none⟩=some lv:=hP.toR.live;have c6:=fun W (n:qu p W)=>qny lv c.xs 3 (by omega) W (((qa M).new (qa N3)).new n).glob (hP.toI.lives.new n)
   rw[f0] at c3 c6;have f6:(qal 3 c.xs).length≤1000000:=by unfold qal;rw[List.length_map];exact i1
   have b8:(qal 3 c.xs).length≤19:=by unfold qal;rw[List.length_map];omega
   have f7:∀x∈qal 3 c.xs,LiveOk x:=by
    intro y hy;obtain⟨x,hx,rfl⟩:=List.mem_map.1 hy;exact q3w (hP.ok.xs x hx) 3
   have f1:=fun W (n:qu p W) u (hu:qgu W u (qal 3 c.xs))=>qu0 true c.loc c.rem u (qal 3 c.xs) b8 W (((qa M).new (qa N3)).new n).spans hu
   have f5:=fun W (n:qu p W) V (N:ViewO true c.loc c.rem (qal 3 c.xs) W V)=>qq7 true c.loc c.rem V (qal 3 c.xs) c.s.peer c.s.ch (c.k.heard+1) f6 W (((qa M).new (qa N3)).new n).tabs N f7 hk h5 (by omega) hP.ok.loc hP.ok.rem
   have h4:=qgp true c.s.peer c.s.ch (c.k.heard+1) c.loc c.rem (qal 3 c.xs);have h3:qbg (qbo true c.s.peer c.s.ch (c.k.heard+1) c.loc c.rem (qal 3 c.xs)):=by unfold qbo qp1;exact qf9 _
   have e7:qj8 c m=(m.hash != qbo true c.s.peer c.s.ch (c.k.heard+1) c.loc c.rem (qal 3 c.xs)):=by unfold qj8;rw[z]
   have keep:∀W,qu p.drew W→zj W g 45 2=some #[.int .u64 c.loc,.int .u64 c.rem]∧W.cell? ⟨g,47,none⟩=some (.slice la c.xs.length b9):=by
    intro W n;have I:=hP.new (((Upd.refl (fun _=>False) p).drew).trans n);exact⟨I.base,n.cell c3 (fun h=>h)⟩
   have d3:=qb c6;have c0:=qb f1;have g5:=qb f5;have d6:=qb e7;have E:=qb keep;have e1:=keep p.drew (Upd.refl _ _);clear hP c6 f1 f5 e7 keep dB c3 f6 b8 f7;generalize qbo true c.s.peer c.s.ch (c.k.heard+1) c.loc c.rem (qal 3 c.xs)=T at *
   generalize hY:qal 3 c.xs=Y at *
   have HY:=qb hY;clear hY
   go_cut [6] from 24 to 33 (fun ov wx=>∃K u,ov = .pointer (some ⟨K,0,none⟩)∧p.heap.size≤K∧wx.heap[K]? = some (.cells #[.int .u64 (qjd true c.loc c.rem Y),.int .u64 (qje true c.loc c.rem Y),u] 201 (0,0))∧ViewO true c.loc c.rem Y wx (.agg #[.int .u64 (qjd true c.loc c.rem Y),.int .u64 (qje true c.loc c.rem Y),u])∧qu p wx)
   case first =>
    have Z:qu p p.drew:=(Upd.refl _ _).drew;refine qaw (fun w'=>zj w' g 45 2=some #[.int .u64 c.loc,.int .u64 c.rem]∧w'.cell? ⟨g,47,none⟩=some (.slice la c.xs.length b9)) [3,7] (Plan.pre [0,1,2,3,4,5,6,7] (.fork (.step 8 (.fork (.of [9,10,11]) (.of [10,9,11]))) (.of [10,8,9,11]))) (by kernel_rfl) (by kernel_rfl) e1 ?_;simp only[Plan.of,Plan.pre];go_wp2_with ((with_reducible first|rfl|refine' ut ?_ ?_;rotate_left|refine' uu ?_)<;>intros);refine qf ?_ ?_
    ·go_wp2_with ((with_reducible first|rfl|refine' ut ?_ ?_;rotate_left|refine' uu ?_)<;>intros);refine(qa d3 p.drew Z).mono ?_;rintro e wa ⟨u,rfl,H,hu⟩;go_wp2_with ((with_reducible first|rfl|refine' ut ?_ ?_;rotate_left|refine' uu ?_)<;>intros);refine⟨qa E _ H,?_⟩;refine qf ?_ ?_
     ·go_wp2_with ((with_reducible first|rfl|refine' ut ?_ ?_;rotate_left|refine' uu ?_)<;>intros);refine(qa c0 wa (Z.trans H) u hu.to).mono ?_;rintro e wb ⟨V,rfl,X,N⟩;obtain⟨⟨u2,rfl,F⟩,hI⟩:=N;obtain⟨a2,k2,rfl⟩:=F.slice;have f:qu wb (wb.alloc (.cells zVw.toArray 201)):=(Upd.refl _ _).alloc _;have b5:p.heap.size≤wb.heap.size:=((Z.trans H).trans X).size;obtain⟨f4,U,um⟩:=q8k (qh wb (.cells zVw.toArray 201)) (qjd true c.loc c.rem Y) (qje true c.loc c.rem Y) a2 (qgb (qar true Y)).length k2;have nF:=f.then um (fun i F e=>by omega);have HF:=qb U;have HV:=qb (ViewO.mk (ours:=true) (l:=c.loc) (r:=c.rem) (xs:=Y) ⟨_,rfl,F.new nF⟩ hI);have HN:=qb (((Z.trans H).trans X).trans nF);clear U um nF F;go_wp2_with ((with_reducible first|rfl|refine' ut ?_ ?_;rotate_left|refine' uu ?_)<;>intros);refine⟨qa E _ ((H.trans X).trans f),?_⟩;clear f;go_wp2_with ((with_reducible first|rfl|refine' ut ?_ ?_;rotate_left|refine' uu ?_)<;>intros);go_meet
      case rel=>exact⟨_,_,rfl,b5,qa HF,qa HV,qa HN⟩
     ·have f:qu wa (wa.alloc (.cells zVw.toArray 201)):=(Upd.refl _ _).alloc _;have C:=qh wa (.cells zVw.toArray 201);have b5:p.heap.size≤wa.heap.size:=(Z.trans H).size;go_wp2_with ((with_reducible first|rfl|refine' ut ?_ ?_;rotate_left|refine' uu ?_)<;>intros);refine⟨qa E _ (H.trans f),?_⟩;generalize wa.alloc (.cells zVw.toArray 201)=wd at f C ⊢;generalize wa.heap.size=K at C b5 ⊢;have a6:=qb C;clear C;go_wp2_with ((with_reducible first|rfl|refine' ut ?_ ?_;rotate_left|refine' uu ?_)<;>intros);refine(qa c0 wd ((Z.trans H).trans f) u (hu.to.new f)).mono ?_;rintro e wb ⟨V,rfl,X,N⟩;obtain⟨⟨u2,rfl,F⟩,hI⟩:=N;obtain⟨a2,k2,rfl⟩:=F.slice;obtain⟨f4,U,um⟩:=q8k (X.old (qa a6) (fun h=>h)) (qjd true c.loc c.rem Y) (qje true c.loc c.rem Y) a2 (qgb (qar true Y)).length k2;have HF:=qb U;have HV:=qb (ViewO.mk (ours:=true) (l:=c.loc) (r:=c.rem) (xs:=Y) ⟨_,rfl,F.putV (X.old (qa a6) (fun h=>h)) rfl um U rfl⟩ hI);have HN:=qb ((((Z.trans H).trans f).trans X).then um (fun i F e=>by omega));clear U um F;go_wp2_with ((with_reducible first|rfl|refine' ut ?_ ?_;rotate_left|refine' uu ?_)<;>intros);go_meet
      case rel=>exact⟨_,_,rfl,b5,qa HF,qa HV,qa HN⟩
    ·have f:qu p (p.alloc (.cells zVw.toArray 201)).drew:=((Upd.refl _ _).alloc _).drew;have C:(p.alloc (.cells zVw.toArray 201)).drew.heap[p.heap.size]? = some (.cells zVw.toArray 201 (0,0)):=qh p _;have c8:qu p.drew (p.alloc (.cells zVw.toArray 201)).drew:=(Upd.refl (fun _=>False) p.drew).alloc (.cells zVw.toArray 201);go_wp2_with ((with_reducible first|rfl|refine' ut ?_ ?_;rotate_left|refine' uu ?_)<;>intros);refine⟨qa E _ c8,?_⟩;generalize (p.alloc (.cells zVw.toArray 201)).drew=wd at f C c8 ⊢;generalize h2:p.heap.size=K at C ⊢;have a6:=qb C;clear C;go_wp2_with ((with_reducible first|rfl|refine' ut ?_ ?_;rotate_left|refine' uu ?_)<;>intros);refine(qa d3 wd f).mono ?_;rintro e wa ⟨u,rfl,H,hu⟩;go_wp2_with ((with_reducible first|rfl|refine' ut ?_ ?_;rotate_left|refine' uu ?_)<;>intros);refine⟨qa E _ (c8.trans H),?_⟩;go_wp2_with ((with_reducible first|rfl|refine' ut ?_ ?_;rotate_left|refine' uu ?_)<;>intros);refine(qa c0 wa (f.trans H) u hu.to).mono ?_;rintro e wb ⟨V,rfl,X,N⟩;obtain⟨⟨u2,rfl,F⟩,hI⟩:=N;obtain⟨a2,k2,rfl⟩:=F.slice;have c5:=(H.trans X).old (qa a6) (fun h=>h);obtain⟨f4,U,um⟩:=q8k c5 (qjd true c.loc c.rem Y) (qje true c.loc c.rem Y) a2 (qgb (qar true Y)).length k2;have HF:=qb U;have HV:=qb (ViewO.mk (ours:=true) (l:=c.loc) (r:=c.rem) (xs:=Y) ⟨_,rfl,F.putV c5 rfl um U rfl⟩ hI);have HN:=qb (((f.trans H).trans X).then um (fun i F e=>by omega));clear U um F c5;go_wp2_with ((with_reducible first|rfl|refine' ut ?_ ?_;rotate_left|refine' uu ?_)<;>intros)
     go_meet
     case rel=>exact⟨_,_,rfl,Nat.le_of_eq h2,qa HF,qa HV,qa HN⟩
   case rest =>
    obtain⟨K,u,rfl,hK,e3,N,n4⟩:=hcut;obtain⟨w4,rfl⟩:∃w4:World,w4=wc:=⟨_,rfl⟩;clear e1;go_upto_region 6 with fail;have N4:=qb ((qa N3).trans n4);have a8:=(qa H1).new (qa N4);have d9:=(qa HA).new (qa N4);obtain⟨-,-,-,-,-,P,m4⟩:=d9.cells;rw[z] at P;have g8:w4.cell? ⟨g,36,none⟩=some (.string c.s.peer):=a8.peer;have d0:w4.cell? ⟨g,0,none⟩=some (.int .u32 c.s.ch):=a8.toR.ch;have rK:=qai e3 3 rfl;have b4:=fun W=>q61 hm.len h4 hm.hash h3 W
    have e2:zj w4.drew A 4 32=some (qs m.hash).toArray:=m4;have H4:=qb a8;have i0:=N.u;clear a8 d9 m4;refine qaw (fun w'=>zj w' A 4 32=some (qs m.hash).toArray) [1] (.of [0,1,2,3,4,5,6,7,8,9,10,11,12,13,14,15,16]) (by kernel_rfl) (by kernel_rfl) e2 ?_;simp only[Plan.of];clear i0 e3;go_wp2_with ((with_reducible first|rfl|refine' ut ?_ ?_;rotate_left|refine' uu ?_)<;>intros);have f8:qu p w4.drew:=n4.drew;refine(qa g5 w4.drew f8 _ (N.new ((Upd.refl _ _).drew))).mono ?_;rintro e w5 ⟨rfl,n5⟩;have N5:=qb ((qa N4).trans n5.ofDrew);have b7:=((qa HA).new (qa N5)).cells.2.2.2.2.2.2;clear P g8 d0 rK N e2 n4 f8 n5;go_wp2_with ((with_reducible first|rfl|refine' ut ?_ ?_;rotate_left|refine' uu ?_)<;>intros);refine⟨b7,?_⟩;clear b7;cases hh:(m.hash != T) with
    | true =>
     have L:Hid (qcu c m=133):=by rw[qa d6,hh,if_pos rfl] at q;exact q
     have HX:=qb (qa J w5 133 (qa N5) (qa L) (by decide));rw[hh] at b4;go_wp2_with ((with_reducible first|rfl|refine' ut ?_ ?_;rotate_left|refine' uu ?_)<;>intros);go_ret2;obtain⟨hE,hC,hU⟩:=qa HX;rw[hE];exact⟨_,rfl,qb3.nil _ _,hC,hU⟩
    | false =>
     have L:Hid (qcu c m=0):=by rw[qa d6,hh,if_neg (by decide)] at q;exact q
     rw[hh] at b4;have e8:c.hearSign m=(c.signedBy,[c.signedBy.revocation],0):=by unfold Ch.hearSign;rw[if_pos (qa L)]
     have g1:=qb e8;have e5:=qkt g S c 3 w5 ⟨lv,nv,av,(qa H1).new (qa N5)⟩ ((qa M).new (qa N5)).glob;clear e8;go_wp2_with ((with_reducible first|rfl|refine' ut ?_ ?_;rotate_left|refine' uu ?_)<;>intros);refine e5.mono ?_;rintro e w6 ⟨rfl,⟨j5,j7,i4,h6⟩,u6⟩;clear e5 b4;obtain⟨c1,b3⟩:∃c1,c1=c.goOn 3:=⟨_,rfl⟩;have e9:c1.k.heard=c.k.heard:=by rw[b3,q52]
     rw[←b3] at h6;have c2:w6.cell? ⟨g,38,none⟩=some (.int .i64 c.k.heard):=by rw[←e9];exact h6.toR.heard
     have g9:w6.frozen? ⟨g,38,none⟩=false:=qo h6.at_ 38;have h7:=h6.putHeard (c.k.heard+1) (by omega);have u7:=qj1 w6 g 38 (.int .i64 (c.k.heard+1));have c7:S g:=(qa H0).inG;have U6:=qb (((((qa N1).trans (qa N5)).mono (T:=S) (fun _ _ h=>h.elim)).trans u6));have U7:=qb ((qa U6).trans (u7.mono (fun k _ e=>by rw[e];exact c7)));have i2:w.heap.size≤w5.heap.size:=((qa N1).trans (qa N5)).size;have c4:ChS (w6.setCell ⟨g,38,none⟩ (.int .i64 (c.k.heard+1))) g (Fr S w (w6.setCell ⟨g,38,none⟩ (.int .i64 (c.k.heard+1)))) ({c1 with k:= {c1.k with heard:=c.k.heard+1}} : Ch) :=
      (ChS.grow (S:=S) (w0:=w5) (w1:=w6) ⟨_,_,_,h7⟩ u7.size).later i2
     have e4:({c1 with k:= {c1.k with heard:=c.k.heard+1}} : Ch)=(c.goOn 3).heardOne:=by rw[b3,←e9,b3];rfl
     rw[e4] at c4;have d4:=qb c4;have d7:=qb (((qa M).new (qa N5)).upd (u6.trans (u7.mono (T:=S) (fun k _ e=>by rw[e];exact c7))) hS);clear h6 h7 c4 u6 u7 e4;go_upto_region 10 with fail;clear c2 g9;generalize w6.setCell ⟨g,38,none⟩ (.int .i64 (c.k.heard+1))=w7 at U7 d4 d7 ⊢;have e6:=qkt g (Fr S w w7) (c.goOn 3).heardOne 4 w7 (qa d4) (qa d7).glob;go_wp2_with ((with_reducible first|rfl|refine' ut ?_ ?_;rotate_left|refine' uu ?_)<;>intros);refine e6.mono ?_;rintro e w8 ⟨rfl,h8,u8⟩;clear e6;have i3:=(qa U7).size;obtain⟨j6,j8,i5,h8⟩:=h8.comp i3 u8.size;have U8:=qb ((qa U7).fr u8);have h0:w8.frozen? ⟨g,44,none⟩=false:=qo h8.at_ 44;have g7:w8.cell? ⟨g,44,none⟩=some (.bool ((c.goOn 3).heardOne.goOn 4).k.revoked):=h8.toR.revoked;have h9:=h8.putRevoked true;have u9:=qj1 w8 g 44 (.bool true);have a7:ChS (w8.setCell ⟨g,44,none⟩ (.bool true)) g (Fr S w (w8.setCell ⟨g,44,none⟩ (.bool true))) c.signedBy:=ChS.grow (S:=S) (w0:=w) (w1:=w8) ⟨_,_,_,h9⟩ u9.size;have U9:=qb ((qa U8).trans (u9.mono (fun k _ e=>by rw[e];exact c7)));have d1:=qi6 g _ c.signedBy (w8.setCell ⟨g,44,none⟩ (.bool true)) a7 ((qa g4).upd (qa U9) hS).tabs;have c9:c.signedBy.revocation.hash.length=32:=by
      obtain⟨_,_,_,hq⟩:=a7;exact Ch.secret_len hq.ok _
     have d5:=qb a7;clear h8 u8 h9 u9 a7;go_upto_region 12 with ((with_reducible first|rfl|refine' ut ?_ ?_;rotate_left|refine' uu ?_)<;>intros);clear g7 h0;generalize w8.setCell ⟨g,44,none⟩ (.bool true)=w9 at d1 d5 U9 ⊢;have g2:=qb c9;have i8:=MsgV.len _ c9;clear c9;generalize hR:c.signedBy.revocation=R at *
     go_wp2_with ((with_reducible first|rfl|refine' ut ?_ ?_;rotate_left|refine' uu ?_)<;>intros);refine d1.mono ?_;rintro e f9 ⟨rfl,d2⟩;have j4:=(qa U9).size;have f2:=qlc (w:=f9) (qa g2) w.heap.size (by have:=d2.size;omega);have b6:qu w9 (f9.alloc (.cells R.cells.toArray 101)):=d2.alloc _;have g3:=qb f2;have g0:=qb (((qa d5).new b6).grow b6.size);have g6:=qb ((qa U9).trans (b6.mono (T:=S) (fun _ _ h=>h.elim)));clear d1 d2 f2 b6;go_wp2_with ((with_reducible first|rfl|refine' ut ?_ ?_;rotate_left|refine' uu ?_)<;>intros);go_ret2;rw[qa g1];exact⟨_,rfl,qa g3,qa g0,qa g6⟩
  ·rw[if_pos z] at q;have Z:qu w1 w2.drew:=n2.drew;have HX:=qb (qa J w2.drew 1 Z (qa q) (by decide));have b4:¬m.number=c.k.heard+1:=z;clear n2 Z I hm;go_wp2_with ((with_reducible first|rfl|refine' ut ?_ ?_;rotate_left|refine' uu ?_)<;>intros);go_ret2;obtain⟨hE,hC,hU⟩:=qa HX;rw[hE];exact⟨_,rfl,qb3.nil _ _,hC,hU⟩
end Go.Proofs.YtfmkdoachjgjbaaGreatDoor
