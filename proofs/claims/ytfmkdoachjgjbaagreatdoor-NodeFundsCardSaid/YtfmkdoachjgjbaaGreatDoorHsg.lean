/-
  hearSign.
-/
import Derived.Test.YtfmkdoachjgjbaaGreatDoorSgn
import Derived.Test.YtfmkdoachjgjbaaGreatDoorRvk
set_option maxRecDepth 100000
set_option maxHeartbeats 1000000
set_option linter.unusedVariables false
set_option linter.unusedSimpArgs false
namespace Go.Proofs.YtfmkdoachjgjbaaGreatDoor
open Go.RowKit
def za2(x:Value):Sem Value:=Instr.loadAt 201 x
theorem qwm(x:Value):Instr.loadAt 201 x=za2 x:=rfl
theorem za4(b o:Nat)(w:World):(za2 (.pointer (some ⟨b,o,none⟩))).run Tryz.prog w=match zt w b o 3 with | some A=> .ok (.agg A) w | none=>qc3 Tryz.prog 201 w b o :=
 qag 201 3 _ Tryz.underlying201 rfl Tryz.infoView b o w
def zbe(x v:Value):Sem Unit:=Instr.storeAt 201 x v
theorem qxi(x v:Value):Instr.storeAt 201 x v=zbe x v:=rfl
theorem zbg(b o:Nat)(A:Array Value)(w:World):(zbe (.pointer (some ⟨b,o,none⟩)) (.agg A)).run Tryz.prog w=if stOk w b o 3 A=true then .ok () (w.setCells b o A.toList) else qes Tryz.prog 201 w b o A :=
 qaz 201 3 Tryz.infoView b o A w
def zau:Sem Value:=Instr.alloc 201 true (.tuple #[])
theorem qvb:Instr.alloc 201 true (.tuple #[])=zau:=rfl
def zVw:List Value:=[.int .u64 0,.int .u64 0,.slice none 0 0]
theorem zav(w:World):zau.run Tryz.prog w = .ok (.pointer (some ⟨w.heap.size,0,none⟩)) (w.alloc (.cells zVw.toArray 201)):=by kernel_rfl
def vwC(A B:Int)(a:Option Addr)(n c:Nat):List Value:=[.int .u64 A,.int .u64 B,.slice a n c]
theorem q8a(A B:Int)(a:Option Addr)(n c:Nat):∀v∈vwC A B a n c,v.oneCell'=true:=by
 intro v i;simp only[vwC,List.mem_cons,List.not_mem_nil,or_false] at i;rcases i with rfl | rfl | rfl<;>rfl
theorem q6d{w:World}{b:Nat}(h:w.heap[b]? = some (.cells zVw.toArray 201 (0,0)))(A B:Int)(a:Option Addr)(n c:Nat) :
  stOk w b 0 3 #[.int .u64 A,.int .u64 B,.slice a n c]=true∧(w.setCells b 0 [.int .u64 A,.int .u64 B,.slice a n c]).heap[b]? = some (.cells #[.int .u64 A,.int .u64 B,.slice a n c] 201 (0,0))∧Upd (· = b) w (w.setCells b 0 [.int .u64 A,.int .u64 B,.slice a n c]):=by
 refine⟨qdk (C:=zVw.toArray) h rfl (q8a A B a n c),?_⟩
 refine⟨?_,(Upd.refl _ _).setCells 0 _⟩
 rw[qax h 0 _]
 exact congrArg (fun z=>some (Obj.cells z 201 (0,0))) (qb5 zVw.toArray (vwC A B a n c) rfl)
theorem qdz.putV{w w':World}{v:Value}{X:List Item}{K:Nat}{C q:Array Value}{T y:TypeId}{H m:Nat × Nat}(h:qdz w v X)(J:w.heap[K]? = some (.cells C T H))(P:C.size=3)(u:Upd (· = K) w w')(t:w'.heap[K]? = some (.cells q y m))(I:q.size=3):qdz w' v X:=by
 rcases h with h | ⟨g,off,cap,e,h⟩
 ·exact .inl h
 ·refine .inr ⟨g,off,cap,e,?_⟩;by_cases z:g=K
  ·subst z;obtain⟨D,U,O,o,E,R⟩:=h;rw[J] at o;injection o with o;injection o with hb1 hb2 hb3;subst hb1;have M:X=[]:=by
    cases X with
    | nil=>rfl
    | cons x X=>simp at E;omega
   subst M;exact⟨q,y,m,t,by simp at E ⊢;omega,fun i x N=>by simp at N⟩
  ·exact h.upd u z
attribute [local go_sem ↓ high] zl qaf qah qa1 ze zf zg zj qll qwm qxi qvb qh2 qak
attribute [local go_sem] qa9 qb3 qb7 qdp qy qau qav qaw zz q4j za4 zbg zav qck
noncomputable def qry(c:Ch)(m:MsgV):Bool:=m.hash != qc6 true c.s.peer c.s.ch m.number c.loc c.rem (qao 3 c.xs)
noncomputable def qc9(c:Ch)(m:MsgV):Int :=
 if qbv 3 c.xs=false then 5 else if m.number≠c.k.heard+1 then 1 else if qry c m=true then 133 else 0
def Ch.heardOne(c:Ch):Ch:= {c with k:= {c.k with heard:=c.k.heard+1}}
def Ch.revokes(c:Ch):Ch:= {c with k:= {c.k with revoked:=true}}
def Ch.signedBy(c:Ch):Ch:=((c.goOn 3).heardOne.goOn 4).revokes
noncomputable def Ch.hearSign(c:Ch)(m:MsgV):Ch × List MsgV × Int:=if qc9 c m=0 then (c.signedBy,[c.signedBy.revocation],0) else (c,[],qc9 c m)
theorem qrv{c:Ch}{m:MsgV}{e:Int}(h:qc9 c m=e)(n:e≠0):c.hearSign m=(c,[],e):=by unfold Ch.hearSign;rw[h,if_neg n]
theorem qj1{w:World}{m:MsgV}(i:m.hash.length=32)(o:Nat)(q:o≤w.heap.size):qbp o (w.alloc (.cells m.cells.toArray 101)) (.slice (some ⟨w.heap.size,0,none⟩) 1 1) [m]:=by
 refine⟨by simp[m.len i],.inr ⟨w.heap.size,1,m.cells.toArray,rfl,q,ql _ _,Nat.le_refl _,by decide,by rw[List.size_toArray,m.len i],?_⟩⟩;show List.take (1*38) m.cells=[m].flatMap MsgV.cells;rw[List.take_of_length_le (by rw[m.len i];exact Nat.le_refl _)];simp
theorem qru(g:Nat)(S:Nat→Prop)(c:Ch)(m:MsgV)(hm:MsgOk m)(w:World)(h:ChS w g S c)(hT:Tb w)(hS:Apart S)(hk:c.s.peer.size≤100000000)(h3:0≤c.s.ch∧c.s.ch<4294967296)(i9:c.k.heard<4294967295)(j1:c.xs.length≤16) :
  Calls Tryz.prog 179 #[.pointer (some ⟨g,0,none⟩),.agg m.cells.toArray] w fun e w'=>∃v,
   e = .returned (.tuple #[v,.int .i64 (c.hearSign m).2.2])∧qbp w.heap.size w' v (c.hearSign m).2.1∧ChS w' g (Fr S w w') (c.hearSign m).1∧Upd S w w':=by
 obtain⟨lv,nv,av,h⟩:=h
 go_enter Tryz.func179,Tryz.ntmps179
 go_upto_region 1 with fail
 have hA:=qa6 w m hm.len
 have n1:qq w (w.alloc (.cells m.cells.toArray 101)):=(Upd.refl _ _).alloc _
 generalize w.alloc (.cells m.cells.toArray 101)=w1 at n1 hA ⊢
 obtain⟨A,d7⟩:∃A,A=w.heap.size:=⟨_,rfl⟩
 rw[←d7] at hA ⊢
 have i7:g≠A:=by have:=h.lt g h.inG;omega
 have i4:¬S A:=fun e=>by have:=h.lt A e;omega
 have i5:w.heap.size≤A:=by omega
 clear d7
 have h1:=h.new n1
 have d5:w1.cell? ⟨g,47,none⟩=some lv:=h1.toR.live
 have h5:=h.ok.few
 have P:=qlb lv c.xs 3 (by omega) w1 (hT.new n1).glob h1.toI.lives
 obtain⟨la,b5,e8⟩:=qaa h.live
 have f1:qc9 c m=if qbv 3 c.xs=false then 5 else if m.number≠c.k.heard+1 then 1 else if qry c m=true then 133 else 0:=rfl
 have t:=qj f1
 have H0:=qj h
 have H1:=qj h1
 have HA:=qj hA
 have N1:=qj n1
 have N:=qj (hT.new n1)
 have g2:=qj hT
 have i8:=h.ok.heard
 have d4:∀(W:World) (e:Int),qq w1 W→qc9 c m=e→e≠0→c.hearSign m=(c,[],e)∧ChS W g (Fr S w W) c∧Upd S w W:=by
  intro W e nW hs he;exact⟨qrv hs he,(h1.new nW).fr w,(n1.trans nW).mono (T:=S) (fun _ _ h=>h.elim)⟩
 have J:=qj d4
 clear f1 h h1 hA n1 hT d4
 rw[e8] at d5 P
 go_wp2_with ((with_reducible first|rfl|refine' ut ?_ ?_;rotate_left|refine' uu ?_)<;>intros)
 refine P.mono ?_
 rintro e w2 ⟨rfl,n2⟩
 clear P d5
 cases hc:qbv 3 c.xs with
 | false =>
  rw[hc,if_pos rfl] at t;have HX:=qj (qg J w2 5 n2 (qg t) (by decide));clear n2;go_wp2_with ((with_reducible first|rfl|refine' ut ?_ ?_;rotate_left|refine' uu ?_)<;>intros);go_ret2;obtain⟨hE,hC,hU⟩:=qg HX;rw[hE];exact⟨_,rfl,qbp.nil _ _,hC,hU⟩
 | true =>
  rw[hc,if_neg (by decide)] at t;have I:=(qg H1).new n2;have b7:w2.cell? ⟨g,38,none⟩=some (.int .i64 c.k.heard):=I.toR.heard;obtain⟨-,-,-,-,-,X,-⟩:=((qg HA).new n2).cells;have j0:IntKind.i64.wrap (c.k.heard+1)=c.k.heard+1:=qgq (by omega) (by omega);by_cases z:m.number=c.k.heard+1
  ·rw[if_neg (fun h=>h z)] at t;rw[z] at X;have N2:=qj n2;have H2:=qj I;clear I n2;go_upto_region 5 with ((with_reducible first|rfl|refine' ut ?_ ?_;rotate_left|refine' uu ?_)<;>intros);have n3:qq w1 w2.drew:=(qg N2).drew;have N3:=qj n3;clear n3 b7 X N2 H2;generalize w2.drew=q at N3 ⊢;have hP:=(qg H1).new (qg N3);have H3:=qj hP;have dB:zt q.drew g 45 2=some #[.int .u64 c.loc,.int .u64 c.rem]:=hP.base;have b8:q.drew.cell? ⟨g,47,none⟩=some lv:=hP.toR.live;have c2:=fun W (n:qq q W)=>qmw lv c.xs 3 (by omega) W (((qg N).new (qg N3)).new n).glob (hP.toI.lives.new n)
   rw[e8] at b8 c2;have f4:(qao 3 c.xs).length≤1000000:=by unfold qao;rw[List.length_map];exact h5
   have b4:(qao 3 c.xs).length≤19:=by unfold qao;rw[List.length_map];omega
   have f5:∀x∈qao 3 c.xs,LiveOk x:=by
    intro y hy;obtain⟨x,hx,rfl⟩:=List.mem_map.1 hy;exact q1z (hP.ok.xs x hx) 3
   have e9:=fun W (n:qq q W) u (hu:qf0 W u (qao 3 c.xs))=>quh true c.loc c.rem u (qao 3 c.xs) b4 W (((qg N).new (qg N3)).new n).spans hu
   have f3:=fun W (n:qq q W) V (O:ViewO true c.loc c.rem (qao 3 c.xs) W V)=>qqq true c.loc c.rem V (qao 3 c.xs) c.s.peer c.s.ch (c.k.heard+1) f4 W (((qg N).new (qg N3)).new n).tabs O f5 hk h3 (by omega) hP.ok.loc hP.ok.rem
   have h2:=qia true c.s.peer c.s.ch (c.k.heard+1) c.loc c.rem (qao 3 c.xs);have h0:qbt (qc6 true c.s.peer c.s.ch (c.k.heard+1) c.loc c.rem (qao 3 c.xs)):=by unfold qc6 qpa;exact qhd _
   have e5:qry c m=(m.hash != qc6 true c.s.peer c.s.ch (c.k.heard+1) c.loc c.rem (qao 3 c.xs)):=by unfold qry;rw[z]
   have U:∀W,qq q.drew W→zt W g 45 2=some #[.int .u64 c.loc,.int .u64 c.rem]∧W.cell? ⟨g,47,none⟩=some (.slice la c.xs.length b5):=by
    intro W n;have I:=hP.new (((Upd.refl (fun _=>False) q).drew).trans n);exact⟨I.base,n.cell b8 (fun h=>h)⟩
   have c8:=qj c2;have b6:=qj e9;have g3:=qj f3;have d2:=qj e5;have D:=qj U;have d8:=U q.drew (Upd.refl _ _);clear hP c2 e9 f3 e5 U dB b8 f4 b4 f5;generalize qc6 true c.s.peer c.s.ch (c.k.heard+1) c.loc c.rem (qao 3 c.xs)=T at *
   generalize hY:qao 3 c.xs=Y at *
   have HY:=qj hY;clear hY
   go_cut [6] from 24 to 33 (fun ov wx=>∃K u,ov = .pointer (some ⟨K,0,none⟩)∧q.heap.size≤K∧wx.heap[K]? = some (.cells #[.int .u64 (qip true c.loc c.rem Y),.int .u64 (qiq true c.loc c.rem Y),u] 201 (0,0))∧ViewO true c.loc c.rem Y wx (.agg #[.int .u64 (qip true c.loc c.rem Y),.int .u64 (qiq true c.loc c.rem Y),u])∧qq q wx)
   case first =>
    have nd:qq q q.drew:=(Upd.refl _ _).drew;refine qay (fun w'=>zt w' g 45 2=some #[.int .u64 c.loc,.int .u64 c.rem]∧w'.cell? ⟨g,47,none⟩=some (.slice la c.xs.length b5)) [3,7] (Plan.pre [0,1,2,3,4,5,6,7] (.fork (.step 8 (.fork (.of [9,10,11]) (.of [10,9,11]))) (.of [10,8,9,11]))) (by kernel_rfl) (by kernel_rfl) d8 ?_;simp only[Plan.of,Plan.pre];go_wp2_with ((with_reducible first|rfl|refine' ut ?_ ?_;rotate_left|refine' uu ?_)<;>intros);refine qf ?_ ?_
    ·go_wp2_with ((with_reducible first|rfl|refine' ut ?_ ?_;rotate_left|refine' uu ?_)<;>intros);refine(qg c8 q.drew nd).mono ?_;rintro e wa ⟨u,rfl,H,hu⟩;go_wp2_with ((with_reducible first|rfl|refine' ut ?_ ?_;rotate_left|refine' uu ?_)<;>intros);refine⟨qg D _ H,?_⟩;refine qf ?_ ?_
     ·go_wp2_with ((with_reducible first|rfl|refine' ut ?_ ?_;rotate_left|refine' uu ?_)<;>intros);refine(qg b6 wa (nd.trans H) u hu.to).mono ?_;rintro e wb ⟨V,rfl,nb,O⟩;obtain⟨⟨u2,rfl,E⟩,hI⟩:=O;obtain⟨a2,k2,rfl⟩:=E.slice;have o:qq wb (wb.alloc (.cells zVw.toArray 201)):=(Upd.refl _ _).alloc _;have b1:q.heap.size≤wb.heap.size:=((nd.trans H).trans nb).size;obtain⟨f2,Z,um⟩:=q6d (ql wb (.cells zVw.toArray 201)) (qip true c.loc c.rem Y) (qiq true c.loc c.rem Y) a2 (qff (qas true Y)).length k2;have nF:=o.then um (fun i E e=>by omega);have HF:=qj Z;have HV:=qj (ViewO.mk (ours:=true) (l:=c.loc) (r:=c.rem) (xs:=Y) ⟨_,rfl,E.new nF⟩ hI);have HN:=qj (((nd.trans H).trans nb).trans nF);clear Z um nF E;go_wp2_with ((with_reducible first|rfl|refine' ut ?_ ?_;rotate_left|refine' uu ?_)<;>intros);refine⟨qg D _ ((H.trans nb).trans o),?_⟩;clear o;go_wp2_with ((with_reducible first|rfl|refine' ut ?_ ?_;rotate_left|refine' uu ?_)<;>intros);go_meet
      case rel=>exact⟨_,_,rfl,b1,qg HF,qg HV,qg HN⟩
     ·have o:qq wa (wa.alloc (.cells zVw.toArray 201)):=(Upd.refl _ _).alloc _;have C:=ql wa (.cells zVw.toArray 201);have b1:q.heap.size≤wa.heap.size:=(nd.trans H).size;go_wp2_with ((with_reducible first|rfl|refine' ut ?_ ?_;rotate_left|refine' uu ?_)<;>intros);refine⟨qg D _ (H.trans o),?_⟩;generalize wa.alloc (.cells zVw.toArray 201)=wd at o C ⊢;generalize wa.heap.size=K at C b1 ⊢;have a1:=qj C;clear C;go_wp2_with ((with_reducible first|rfl|refine' ut ?_ ?_;rotate_left|refine' uu ?_)<;>intros);refine(qg b6 wd ((nd.trans H).trans o) u (hu.to.new o)).mono ?_;rintro e wb ⟨V,rfl,nb,O⟩;obtain⟨⟨u2,rfl,E⟩,hI⟩:=O;obtain⟨a2,k2,rfl⟩:=E.slice;obtain⟨f2,Z,um⟩:=q6d (nb.old (qg a1) (fun h=>h)) (qip true c.loc c.rem Y) (qiq true c.loc c.rem Y) a2 (qff (qas true Y)).length k2;have HF:=qj Z;have HV:=qj (ViewO.mk (ours:=true) (l:=c.loc) (r:=c.rem) (xs:=Y) ⟨_,rfl,E.putV (nb.old (qg a1) (fun h=>h)) rfl um Z rfl⟩ hI);have HN:=qj ((((nd.trans H).trans o).trans nb).then um (fun i E e=>by omega));clear Z um E;go_wp2_with ((with_reducible first|rfl|refine' ut ?_ ?_;rotate_left|refine' uu ?_)<;>intros);go_meet
      case rel=>exact⟨_,_,rfl,b1,qg HF,qg HV,qg HN⟩
    ·have o:qq q (q.alloc (.cells zVw.toArray 201)).drew:=((Upd.refl _ _).alloc _).drew;have C:(q.alloc (.cells zVw.toArray 201)).drew.heap[q.heap.size]? = some (.cells zVw.toArray 201 (0,0)):=ql q _;have c4:qq q.drew (q.alloc (.cells zVw.toArray 201)).drew:=(Upd.refl (fun _=>False) q.drew).alloc (.cells zVw.toArray 201);go_wp2_with ((with_reducible first|rfl|refine' ut ?_ ?_;rotate_left|refine' uu ?_)<;>intros);refine⟨qg D _ c4,?_⟩;generalize (q.alloc (.cells zVw.toArray 201)).drew=wd at o C c4 ⊢;generalize g9:q.heap.size=K at C ⊢;have a1:=qj C;clear C;go_wp2_with ((with_reducible first|rfl|refine' ut ?_ ?_;rotate_left|refine' uu ?_)<;>intros);refine(qg c8 wd o).mono ?_;rintro e wa ⟨u,rfl,H,hu⟩;go_wp2_with ((with_reducible first|rfl|refine' ut ?_ ?_;rotate_left|refine' uu ?_)<;>intros);refine⟨qg D _ (c4.trans H),?_⟩;go_wp2_with ((with_reducible first|rfl|refine' ut ?_ ?_;rotate_left|refine' uu ?_)<;>intros);refine(qg b6 wa (o.trans H) u hu.to).mono ?_;rintro e wb ⟨V,rfl,nb,O⟩;obtain⟨⟨u2,rfl,E⟩,hI⟩:=O;obtain⟨a2,k2,rfl⟩:=E.slice;have c0:=(H.trans nb).old (qg a1) (fun h=>h);obtain⟨f2,Z,um⟩:=q6d c0 (qip true c.loc c.rem Y) (qiq true c.loc c.rem Y) a2 (qff (qas true Y)).length k2;have HF:=qj Z;have HV:=qj (ViewO.mk (ours:=true) (l:=c.loc) (r:=c.rem) (xs:=Y) ⟨_,rfl,E.putV c0 rfl um Z rfl⟩ hI);have HN:=qj (((o.trans H).trans nb).then um (fun i E e=>by omega));clear Z um E c0;go_wp2_with ((with_reducible first|rfl|refine' ut ?_ ?_;rotate_left|refine' uu ?_)<;>intros)
     go_meet
     case rel=>exact⟨_,_,rfl,Nat.le_of_eq g9,qg HF,qg HV,qg HN⟩
   case rest =>
    obtain⟨K,u,rfl,hK,e1,O,n4⟩:=hcut;obtain⟨w4,rfl⟩:∃w4:World,w4=wc:=⟨_,rfl⟩;clear d8;go_upto_region 6 with fail;have N4:=qj ((qg N3).trans n4);have a7:=(qg H1).new (qg N4);have d6:=(qg HA).new (qg N4);obtain⟨-,-,-,-,-,X,m4⟩:=d6.cells;rw[z] at X;have g6:w4.cell? ⟨g,36,none⟩=some (.string c.s.peer):=a7.peer;have d0:w4.cell? ⟨g,0,none⟩=some (.int .u32 c.s.ch):=a7.toR.ch;have rK:=qaj e1 3 rfl;have b0:=fun W=>q4t hm.len h2 hm.hash h0 W
    have d9:zt w4.drew A 4 32=some (qw m.hash).toArray:=m4;have H4:=qj a7;have h4:=O.u;clear a7 d6 m4;refine qay (fun w'=>zt w' A 4 32=some (qw m.hash).toArray) [1] (.of [0,1,2,3,4,5,6,7,8,9,10,11,12,13,14,15,16]) (by kernel_rfl) (by kernel_rfl) d9 ?_;simp only[Plan.of];clear h4 e1;go_wp2_with ((with_reducible first|rfl|refine' ut ?_ ?_;rotate_left|refine' uu ?_)<;>intros);have f6:qq q w4.drew:=n4.drew;refine(qg g3 w4.drew f6 _ (O.new ((Upd.refl _ _).drew))).mono ?_;rintro e w5 ⟨rfl,n5⟩;have N5:=qj ((qg N4).trans n5.ofDrew);have b3:=((qg HA).new (qg N5)).cells.2.2.2.2.2.2;clear X g6 d0 rK O d9 n4 f6 n5;go_wp2_with ((with_reducible first|rfl|refine' ut ?_ ?_;rotate_left|refine' uu ?_)<;>intros);refine⟨b3,?_⟩;clear b3;cases hh:(m.hash != T) with
    | true =>
     have M:Hid (qc9 c m=133):=by rw[qg d2,hh,if_pos rfl] at t;exact t
     have HX:=qj (qg J w5 133 (qg N5) (qg M) (by decide));rw[hh] at b0;go_wp2_with ((with_reducible first|rfl|refine' ut ?_ ?_;rotate_left|refine' uu ?_)<;>intros);go_ret2;obtain⟨hE,hC,hU⟩:=qg HX;rw[hE];exact⟨_,rfl,qbp.nil _ _,hC,hU⟩
    | false =>
     have M:Hid (qc9 c m=0):=by rw[qg d2,hh,if_neg (by decide)] at t;exact t
     rw[hh] at b0;have e6:c.hearSign m=(c.signedBy,[c.signedBy.revocation],0):=by unfold Ch.hearSign;rw[if_pos (qg M)]
     have f9:=qj e6;have e3:=qje g S c 3 w5 ⟨lv,nv,av,(qg H1).new (qg N5)⟩ ((qg N).new (qg N5)).glob;clear e6;go_wp2_with ((with_reducible first|rfl|refine' ut ?_ ?_;rotate_left|refine' uu ?_)<;>intros);refine e3.mono ?_;rintro e w6 ⟨rfl,⟨j3,j5,i2,h6⟩,u6⟩;clear e3 b0;obtain⟨c1,a8⟩:∃c1,c1=c.goOn 3:=⟨_,rfl⟩;have e7:c1.k.heard=c.k.heard:=by rw[a8,q3y]
     rw[←a8] at h6;have b7:w6.cell? ⟨g,38,none⟩=some (.int .i64 c.k.heard):=by rw[←e7];exact h6.toR.heard
     have g7:w6.frozen? ⟨g,38,none⟩=false:=qo h6.at_ 38;have h7:=h6.putHeard (c.k.heard+1) (by omega);have u7:=qos w6 g 38 (.int .i64 (c.k.heard+1));have c3:S g:=(qg H0).inG;have U6:=qj (((((qg N1).trans (qg N5)).mono (T:=S) (fun _ _ h=>h.elim)).trans u6));have U7:=qj ((qg U6).trans (u7.mono (fun k _ e=>by rw[e];exact c3)));have i0:w.heap.size≤w5.heap.size:=((qg N1).trans (qg N5)).size;have b9:ChS (w6.setCell ⟨g,38,none⟩ (.int .i64 (c.k.heard+1))) g (Fr S w (w6.setCell ⟨g,38,none⟩ (.int .i64 (c.k.heard+1)))) ({c1 with k:= {c1.k with heard:=c.k.heard+1}} : Ch) :=
      (ChS.grow (S:=S) (w0:=w5) (w1:=w6) ⟨_,_,_,h7⟩ u7.size).later i0
     have e2:({c1 with k:= {c1.k with heard:=c.k.heard+1}} : Ch)=(c.goOn 3).heardOne:=by rw[a8,←e7,a8];rfl
     rw[e2] at b9;have c9:=qj b9;have d3:=qj (((qg N).new (qg N5)).upd (u6.trans (u7.mono (T:=S) (fun k _ e=>by rw[e];exact c3))) hS);clear h6 h7 b9 u6 u7 e2;go_upto_region 10 with fail;clear b7 g7;generalize w6.setCell ⟨g,38,none⟩ (.int .i64 (c.k.heard+1))=w7 at U7 c9 d3 ⊢;have e4:=qje g (Fr S w w7) (c.goOn 3).heardOne 4 w7 (qg c9) (qg d3).glob;go_wp2_with ((with_reducible first|rfl|refine' ut ?_ ?_;rotate_left|refine' uu ?_)<;>intros);refine e4.mono ?_;rintro e w8 ⟨rfl,h8,u8⟩;clear e4;have i1:=(qg U7).size;obtain⟨j4,j6,i3,h8⟩:=h8.comp i1 u8.size;have U8:=qj ((qg U7).fr u8);have g8:w8.frozen? ⟨g,44,none⟩=false:=qo h8.at_ 44;have g5:w8.cell? ⟨g,44,none⟩=some (.bool ((c.goOn 3).heardOne.goOn 4).k.revoked):=h8.toR.revoked;have h9:=h8.putRevoked true;have u9:=qos w8 g 44 (.bool true);have a6:ChS (w8.setCell ⟨g,44,none⟩ (.bool true)) g (Fr S w (w8.setCell ⟨g,44,none⟩ (.bool true))) c.signedBy:=ChS.grow (S:=S) (w0:=w) (w1:=w8) ⟨_,_,_,h9⟩ u9.size;have U9:=qj ((qg U8).trans (u9.mono (fun k _ e=>by rw[e];exact c3)));have c6:=qh5 g _ c.signedBy (w8.setCell ⟨g,44,none⟩ (.bool true)) a6 ((qg g2).upd (qg U9) hS).tabs;have c5:c.signedBy.revocation.hash.length=32:=by
      obtain⟨_,_,_,hq⟩:=a6;exact Ch.secret_len hq.ok _
     have d1:=qj a6;clear h8 u8 h9 u9 a6;go_upto_region 12 with ((with_reducible first|rfl|refine' ut ?_ ?_;rotate_left|refine' uu ?_)<;>intros);clear g5 g8;generalize w8.setCell ⟨g,44,none⟩ (.bool true)=w9 at c6 d1 U9 ⊢;have g0:=qj c5;have i6:=MsgV.len _ c5;clear c5;generalize hR:c.signedBy.revocation=R at *
     go_wp2_with ((with_reducible first|rfl|refine' ut ?_ ?_;rotate_left|refine' uu ?_)<;>intros);refine c6.mono ?_;rintro e f7 ⟨rfl,c7⟩;have j2:=(qg U9).size;have f0:=qj1 (w:=f7) (qg g0) w.heap.size (by have:=c7.size;omega);have b2:qq w9 (f7.alloc (.cells R.cells.toArray 101)):=c7.alloc _;have g1:=qj f0;have f8:=qj (((qg d1).new b2).grow b2.size);have g4:=qj ((qg U9).trans (b2.mono (T:=S) (fun _ _ h=>h.elim)));clear c6 c7 f0 b2;go_wp2_with ((with_reducible first|rfl|refine' ut ?_ ?_;rotate_left|refine' uu ?_)<;>intros);go_ret2;rw[qg f9];exact⟨_,rfl,qg g1,qg f8,qg g4⟩
  ·rw[if_pos z] at t;have nd:qq w1 w2.drew:=n2.drew;have HX:=qj (qg J w2.drew 1 nd (qg t) (by decide));have b0:¬m.number=c.k.heard+1:=z;clear n2 nd I hm;go_wp2_with ((with_reducible first|rfl|refine' ut ?_ ?_;rotate_left|refine' uu ?_)<;>intros);go_ret2;obtain⟨hE,hC,hU⟩:=qg HX;rw[hE];exact⟨_,rfl,qbp.nil _ _,hC,hU⟩
end Go.Proofs.YtfmkdoachjgjbaaGreatDoor
