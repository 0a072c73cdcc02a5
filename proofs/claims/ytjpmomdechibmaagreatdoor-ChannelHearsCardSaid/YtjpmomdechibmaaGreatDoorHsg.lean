/-
  hearSign.
-/
import Derived.Test.YtjpmomdechibmaaGreatDoorSgn
import Derived.Test.YtjpmomdechibmaaGreatDoorRvk
set_option linter.unusedVariables false
set_option linter.unusedSimpArgs false
namespace Go.Proofs.YtjpmomdechibmaaGreatDoor
open Go.RowKit
def zdp(x:Value):Sem Value:=Instr.loadAt 100 x
theorem qzh(x:Value):Instr.loadAt 100 x=zdp x:=rfl
theorem zdr(b o:Nat)(w:World):(zdp (.pointer (some ⟨b,o,none⟩))).run Tryz.prog w=match zr w b o 3 with | some A=> .ok (.agg A) w | none=>qdk Tryz.prog 100 w b o :=
 zt 100 3 _ Tryz.underlying100 rfl Tryz.infoView b o w
def zdx(x v:Value):Sem Unit:=Instr.storeAt 100 x v
theorem q0g(x v:Value):Instr.storeAt 100 x v=zdx x v:=rfl
theorem zd0(b o:Nat)(A:Array Value)(w:World):(zdx (.pointer (some ⟨b,o,none⟩)) (.agg A)).run Tryz.prog w=if stOk w b o 3 A=true then .ok () (w.setCells b o A.toList) else qfe Tryz.prog 100 w b o A :=
 qap 100 3 Tryz.infoView b o A w
def zdg:Sem Value:=Instr.alloc 100 true (.tuple #[])
theorem qyd:Instr.alloc 100 true (.tuple #[])=zdg:=rfl
def zVw:List Value:=[.int .u64 0,.int .u64 0,.slice none 0 0]
theorem zdh(w:World):zdg.run Tryz.prog w = .ok (.pointer (some ⟨w.heap.size,0,none⟩)) (w.alloc (.cells zVw.toArray 100)):=by kernel_rfl
def vwC(A B:Int)(a:Option Addr)(n c:Nat):List Value:=[.int .u64 A,.int .u64 B,.slice a n c]
theorem zar(A B:Int)(a:Option Addr)(n c:Nat):∀v∈vwC A B a n c,v.oneCell'=true:=by
 intro v f
 simp only[vwC,List.mem_cons,List.not_mem_nil,or_false] at f
 rcases f with rfl | rfl | rfl<;>rfl
theorem q8t{w:World}{b:Nat}(h:w.heap[b]? = some (.cells zVw.toArray 100 (0,0)))(A B:Int)(a:Option Addr)(n c:Nat) :
  stOk w b 0 3 #[.int .u64 A,.int .u64 B,.slice a n c]=true∧(w.setCells b 0 [.int .u64 A,.int .u64 B,.slice a n c]).heap[b]? = some (.cells #[.int .u64 A,.int .u64 B,.slice a n c] 100 (0,0))∧Upd (· = b) w (w.setCells b 0 [.int .u64 A,.int .u64 B,.slice a n c]):=by
 refine⟨qez (C:=zVw.toArray) h rfl (zar A B a n c),?_⟩
 refine⟨?_,(Upd.refl _ _).setCells 0 _⟩
 rw[qa1 h 0 _]
 exact congrArg (fun z=>some (Obj.cells z 100 (0,0))) (qcu zVw.toArray (vwC A B a n c) rfl)
theorem qer.putV{w w':World}{v:Value}{X:List Item}{K:Nat}{C l:Array Value}{T o:TypeId}{y f:Nat × Nat}(h:qer w v X)(E:w.heap[K]? = some (.cells C T y))(J:C.size=3)(u:Upd (· = K) w w')(m:w'.heap[K]? = some (.cells l o f))(z:l.size=3):qer w' v X:=by
 rcases h with h | ⟨g,off,cap,e,h⟩
 ·exact .inl h
 ·refine .inr ⟨g,off,cap,e,?_⟩
  by_cases q:g=K
  ·subst q
   obtain⟨D,U,I,j,t,L⟩:=h
   rw[E] at j
   injection j with j
   injection j with hb1 hb2 hb3
   subst hb1
   have F:X=[]:=by
    cases X with
    | nil=>rfl
    | cons x X=>simp at t;omega
   subst F
   exact⟨l,o,f,m,by simp at t ⊢;omega,fun i x H=>by simp at H⟩
  ·exact h.upd u q
attribute [local go_sem ↓ high] z7 qal qan qa0 qab qac qag qaa qnt qzh q0g qyd qj7 qem
attribute [local go_sem] qcp qdl qdr qfx zn qc2 qc3 qc6 qbm q6t zdr zd0 zdh qms
noncomputable def qhi(c:Ch)(m:MsgV):Bool:=m.hash != zx true c.s.peer c.s.ch m.number c.loc c.rem (zk 3 c.xs)
noncomputable def qct(c:Ch)(m:MsgV):Int :=
 if qbe 3 c.xs=false then 5 else if m.number≠c.k.heard+1 then 1 else if qhi c m=true then 133 else 0
def Ch.heardOne(c:Ch):Ch:= {c with k:= {c.k with heard:=c.k.heard+1}}
def Ch.revokes(c:Ch):Ch:= {c with k:= {c.k with revoked:=true}}
def Ch.signedBy(c:Ch):Ch:=((c.goOn 3).heardOne.goOn 4).revokes
noncomputable def Ch.hearSign(c:Ch)(m:MsgV):Ch × List MsgV × Int:=if qct c m=0 then (c.signedBy,[c.signedBy.revocation],0) else (c,[],qct c m)
theorem qtx{c:Ch}{m:MsgV}{e:Int}(h:qct c m=e)(n:e≠0):c.hearSign m=(c,[],e):=by unfold Ch.hearSign;rw[h,if_neg n]
theorem qme{w:World}{m:MsgV}(f:m.hash.length=32)(b0:Nat)(g:b0≤w.heap.size):qcj b0 (w.alloc (.cells m.cells.toArray 30)) (.slice (some ⟨w.heap.size,0,none⟩) 1 1) [m]:=by
 refine⟨by simp[m.len f],.inr ⟨w.heap.size,1,m.cells.toArray,rfl,g,qi _ _,Nat.le_refl _,by decide,by rw[List.size_toArray,m.len f],?_⟩⟩
 show List.take (1*38) m.cells=[m].flatMap MsgV.cells
 rw[List.take_of_length_le (by rw[m.len f];exact Nat.le_refl _)]
 simp
set_option maxRecDepth 100000 in
set_option maxHeartbeats 1000000 in
theorem qtw(g:Nat)(S:Nat→Prop)(c:Ch)(m:MsgV)(hm:MsgOk m)(w:World)(h:ChS w g S c)(hT:Tb w)(hS:Apart S)(hk:c.s.peer.size≤100000000)(g9:0≤c.s.ch∧c.s.ch<4294967296)(i6:c.k.heard<4294967295)(i8:c.xs.length≤16) :
  Calls Tryz.prog 69 #[.pointer (some ⟨g,0,none⟩),.agg m.cells.toArray] w fun e w'=>∃v,
   e = .returned (.tuple #[v,.int .i64 (c.hearSign m).2.2])∧qcj w.heap.size w' v (c.hearSign m).2.1∧ChS w' g (Fr S w w') (c.hearSign m).1∧Upd S w w':=by
 obtain⟨lv,nv,av,h⟩:=h
 go_enter Tryz.func69,Tryz.ntmps69
 go_upto_region 1 with fail
 have hA:=qb6 w m hm.len
 have n1:qx w (w.alloc (.cells m.cells.toArray 30)):=(Upd.refl _ _).alloc _
 generalize w.alloc (.cells m.cells.toArray 30)=w1 at n1 hA ⊢
 obtain⟨A,d5⟩:∃A,A=w.heap.size:=⟨_,rfl⟩
 rw[←d5] at hA ⊢
 have i4:g≠A:=by have:=h.lt g h.inG;omega
 have i1:¬S A:=fun e=>by have:=h.lt A e;omega
 have i2:w.heap.size≤A:=by omega
 clear d5
 have h1:=h.new n1
 have d3:w1.cell? ⟨g,47,none⟩=some lv:=h1.toR.live
 have h2:=h.ok.few
 have L:=qnl lv c.xs 3 (by omega) w1 (hT.new n1).glob h1.toI.lives
 obtain⟨la,b4,e5⟩:=qv h.live
 have e8:qct c m=if qbe 3 c.xs=false then 5 else if m.number≠c.k.heard+1 then 1 else if qhi c m=true then 133 else 0:=rfl
 have o:=qb e8
 have H0:=qb h
 have H1:=qb h1
 have HA:=qb hA
 have N1:=qb n1
 have I:=qb (hT.new n1)
 have f9:=qb hT
 have i5:=h.ok.heard
 have bad:∀(W:World) (e:Int),qx w1 W→qct c m=e→e≠0→c.hearSign m=(c,[],e)∧ChS W g (Fr S w W) c∧Upd S w W:=by
  intro W e nW hs he
  exact⟨qtx hs he,(h1.new nW).fr w,(n1.trans nW).mono (T:=S) (fun _ _ h=>h.elim)⟩
 have F:=qb bad
 clear e8 h h1 hA n1 hT bad
 rw[e5] at d3 L
 go_wp2_with (with_reducible first|(first|refine' tw1 (qh ?_) ?_|refine' tw2 (qh ?_) ?_);rotate_left|refine' tw3 (qh ?_)|rfl|apply tn|refine' tw4 ?_)
 refine L.mono ?_
 rintro e w2 ⟨rfl,n2⟩
 clear L d3
 cases hc:qbe 3 c.xs with
 | false =>
  rw[hc,if_pos rfl] at o
  have HX:=qb (qa F w2 5 n2 (qa o) (by decide))
  clear n2
  go_wp2_with (with_reducible first|(first|refine' tw1 (qh ?_) ?_|refine' tw2 (qh ?_) ?_);rotate_left|refine' tw3 (qh ?_)|rfl|apply tn|refine' tw4 ?_)
  go_ret2
  obtain⟨hE,hC,hU⟩:=qa HX
  rw[hE]
  exact⟨_,rfl,qcj.nil _ _,hC,hU⟩
 | true =>
  rw[hc,if_neg (by decide)] at o
  have E:=(qa H1).new n2
  have b6:w2.cell? ⟨g,38,none⟩=some (.int .i64 c.k.heard):=E.toR.heard
  obtain⟨-,-,-,-,-,N,-⟩:=((qa HA).new n2).cells
  have i7:IntKind.i64.wrap (c.k.heard+1)=c.k.heard+1:=qik (by omega) (by omega)
  by_cases q:m.number=c.k.heard+1
  ·rw[if_neg (fun h=>h q)] at o
   rw[q] at N
   have N2:=qb n2
   have H2:=qb E
   clear E n2
   go_upto_region 5 with (with_reducible first|(first|refine' tw1 (qh ?_) ?_|refine' tw2 (qh ?_) ?_);rotate_left|refine' tw3 (qh ?_)|rfl|apply tn|refine' tw4 ?_)
   have n3:qx w1 w2.drew:=(qa N2).drew
   have N3:=qb n3
   clear n3 b6 N N2 H2
   generalize w2.drew=j at N3 ⊢
   have Z:=(qa H1).new (qa N3)
   have H3:=qb Z
   have dB:zr j.drew g 45 2=some #[.int .u64 c.loc,.int .u64 c.rem]:=Z.base
   have b7:j.drew.cell? ⟨g,47,none⟩=some lv:=Z.toR.live
   have c0:=fun W (n:qx j W)=>qoy lv c.xs 3 (by omega) W (((qa I).new (qa N3)).new n).glob (Z.toI.lives.new n)
   rw[e5] at b7 c0
   have f1:(zk 3 c.xs).length≤1000000:=by unfold zk;rw[List.length_map];exact h2
   have b3:(zk 3 c.xs).length≤19:=by unfold zk;rw[List.length_map];omega
   have f2:∀x∈zk 3 c.xs,LiveOk x:=by
    intro y hy
    obtain⟨x,hx,rfl⟩:=List.mem_map.1 hy
    exact q4x (Z.ok.xs x hx) 3
   have e6:=fun W (n:qx j W) u (hu:qhq W u (zk 3 c.xs))=>qwt true c.loc c.rem u (zk 3 c.xs) b3 W (((qa I).new (qa N3)).new n).spans hu
   have f0:=fun W (n:qx j W) V (J:ViewO true c.loc c.rem (zk 3 c.xs) W V)=>qsq true c.loc c.rem V (zk 3 c.xs) c.s.peer c.s.ch (c.k.heard+1) f1 W (((qa I).new (qa N3)).new n).tabs J f2 hk g9 (by omega) Z.ok.loc Z.ok.rem
   have g8:=qhd true c.s.peer c.s.ch (c.k.heard+1) c.loc c.rem (zk 3 c.xs)
   have g7:qaz (zx true c.s.peer c.s.ch (c.k.heard+1) c.loc c.rem (zk 3 c.xs)):=by unfold zx qqm;exact qel _
   have e2:qhi c m=(m.hash != zx true c.s.peer c.s.ch (c.k.heard+1) c.loc c.rem (zk 3 c.xs)):=by unfold qhi;rw[q]
   have M:∀W,qx j.drew W→zr W g 45 2=some #[.int .u64 c.loc,.int .u64 c.rem]∧W.cell? ⟨g,47,none⟩=some (.slice la c.xs.length b4):=by
    intro W n
    have E:=Z.new (((Upd.refl (fun _=>False) j).drew).trans n)
    exact⟨E.base,n.cell b7 (fun h=>h)⟩
   have c7:=qb c0
   have b5:=qb e6
   have g0:=qb f0
   have d1:=qb e2
   have z:=qb M
   have d6:=M j.drew (Upd.refl _ _)
   clear Z c0 e6 f0 e2 M dB b7 f1 b3 f2
   generalize zx true c.s.peer c.s.ch (c.k.heard+1) c.loc c.rem (zk 3 c.xs)=T at *
   generalize hY:zk 3 c.xs=Y at *
   have HY:=qb hY
   clear hY
   go_cut [6] from 24 to 33 (fun ov wx=>∃K u,ov = .pointer (some ⟨K,0,none⟩)∧j.heap.size≤K∧wx.heap[K]? = some (.cells #[.int .u64 (qhb true c.loc c.rem Y),.int .u64 (qhc true c.loc c.rem Y),u] 100 (0,0))∧ViewO true c.loc c.rem Y wx (.agg #[.int .u64 (qhb true c.loc c.rem Y),.int .u64 (qhc true c.loc c.rem Y),u])∧qx j wx)
   case first =>
    have nd:qx j j.drew:=(Upd.refl _ _).drew
    refine qb2 (fun w'=>zr w' g 45 2=some #[.int .u64 c.loc,.int .u64 c.rem]∧w'.cell? ⟨g,47,none⟩=some (.slice la c.xs.length b4)) [3,7] (Plan.pre [0,1,2,3,4,5,6,7] (.fork (.step 8 (.fork (.of [9,10,11]) (.of [10,9,11]))) (.of [10,8,9,11]))) (by kernel_rfl) (by kernel_rfl) d6 ?_
    simp only[Plan.of,Plan.pre]
    go_wp2_with (with_reducible first|(first|refine' qw1 (qh ?_) ?_|refine' qw2 (qh ?_) ?_|refine' qw3 (qh ?_) ?_);rotate_left|refine' qw4 (qh ?_)|refine' qw5 (qh ?_)|rfl|apply qn)
    refine qf ?_ ?_
    ·go_wp2_with (with_reducible first|(first|refine' qw1 (qh ?_) ?_|refine' qw2 (qh ?_) ?_|refine' qw3 (qh ?_) ?_);rotate_left|refine' qw4 (qh ?_)|refine' qw5 (qh ?_)|rfl|apply qn)
     refine(qa c7 j.drew nd).mono ?_
     rintro e wa ⟨u,rfl,D,hu⟩
     go_wp2_with (with_reducible first|(first|refine' qw1 (qh ?_) ?_|refine' qw2 (qh ?_) ?_|refine' qw3 (qh ?_) ?_);rotate_left|refine' qw4 (qh ?_)|refine' qw5 (qh ?_)|rfl|apply qn)
     refine⟨qa z _ D,?_⟩
     refine qf ?_ ?_
     ·go_wp2_with (with_reducible first|(first|refine' qw1 (qh ?_) ?_|refine' qw2 (qh ?_) ?_|refine' qw3 (qh ?_) ?_);rotate_left|refine' qw4 (qh ?_)|refine' qw5 (qh ?_)|rfl|apply qn)
      refine(qa b5 wa (nd.trans D) u hu.to).mono ?_
      rintro e wb ⟨V,rfl,P,J⟩
      obtain⟨⟨u2,rfl,C⟩,hI⟩:=J
      obtain⟨a2,k2,rfl⟩:=C.slice
      have f:qx wb (wb.alloc (.cells zVw.toArray 100)):=(Upd.refl _ _).alloc _
      have a7:j.heap.size≤wb.heap.size:=((nd.trans D).trans P).size
      obtain⟨e9,O,um⟩:=q8t (qi wb (.cells zVw.toArray 100)) (qhb true c.loc c.rem Y) (qhc true c.loc c.rem Y) a2 (qep (qz true Y)).length k2
      have nF:=f.then um (fun i C e=>by omega)
      have HF:=qb O
      have HV:=qb (ViewO.mk (ours:=true) (l:=c.loc) (r:=c.rem) (xs:=Y) ⟨_,rfl,C.new nF⟩ hI)
      have HN:=qb (((nd.trans D).trans P).trans nF)
      clear O um nF C
      go_wp2_with (with_reducible first|(first|refine' qw1 (qh ?_) ?_|refine' qw2 (qh ?_) ?_|refine' qw3 (qh ?_) ?_);rotate_left|refine' qw4 (qh ?_)|refine' qw5 (qh ?_)|rfl|apply qn)
      refine⟨qa z _ ((D.trans P).trans f),?_⟩
      clear f
      go_wp2_with (with_reducible first|(first|refine' qw1 (qh ?_) ?_|refine' qw2 (qh ?_) ?_|refine' qw3 (qh ?_) ?_);rotate_left|refine' qw4 (qh ?_)|refine' qw5 (qh ?_)|rfl|apply qn)
      go_meet
      case rel=>exact⟨_,_,rfl,a7,qa HF,qa HV,qa HN⟩
     ·have f:qx wa (wa.alloc (.cells zVw.toArray 100)):=(Upd.refl _ _).alloc _
      have t:=qi wa (.cells zVw.toArray 100)
      have a7:j.heap.size≤wa.heap.size:=(nd.trans D).size
      go_wp2_with (with_reducible first|(first|refine' qw1 (qh ?_) ?_|refine' qw2 (qh ?_) ?_|refine' qw3 (qh ?_) ?_);rotate_left|refine' qw4 (qh ?_)|refine' qw5 (qh ?_)|rfl|apply qn)
      refine⟨qa z _ (D.trans f),?_⟩
      generalize wa.alloc (.cells zVw.toArray 100)=wd at f t ⊢
      generalize wa.heap.size=K at t a7 ⊢
      have U:=qb t
      clear t
      go_wp2_with (with_reducible first|(first|refine' qw1 (qh ?_) ?_|refine' qw2 (qh ?_) ?_|refine' qw3 (qh ?_) ?_);rotate_left|refine' qw4 (qh ?_)|refine' qw5 (qh ?_)|rfl|apply qn)
      refine(qa b5 wd ((nd.trans D).trans f) u (hu.to.new f)).mono ?_
      rintro e wb ⟨V,rfl,P,J⟩
      obtain⟨⟨u2,rfl,C⟩,hI⟩:=J
      obtain⟨a2,k2,rfl⟩:=C.slice
      obtain⟨e9,O,um⟩:=q8t (P.old (qa U) (fun h=>h)) (qhb true c.loc c.rem Y) (qhc true c.loc c.rem Y) a2 (qep (qz true Y)).length k2
      have HF:=qb O
      have HV:=qb (ViewO.mk (ours:=true) (l:=c.loc) (r:=c.rem) (xs:=Y) ⟨_,rfl,C.putV (P.old (qa U) (fun h=>h)) rfl um O rfl⟩ hI)
      have HN:=qb ((((nd.trans D).trans f).trans P).then um (fun i C e=>by omega))
      clear O um C
      go_wp2_with (with_reducible first|(first|refine' qw1 (qh ?_) ?_|refine' qw2 (qh ?_) ?_|refine' qw3 (qh ?_) ?_);rotate_left|refine' qw4 (qh ?_)|refine' qw5 (qh ?_)|rfl|apply qn)
      go_meet
      case rel=>exact⟨_,_,rfl,a7,qa HF,qa HV,qa HN⟩
    ·have f:qx j (j.alloc (.cells zVw.toArray 100)).drew:=((Upd.refl _ _).alloc _).drew
     have t:(j.alloc (.cells zVw.toArray 100)).drew.heap[j.heap.size]? = some (.cells zVw.toArray 100 (0,0)):=qi j _
     have c3:qx j.drew (j.alloc (.cells zVw.toArray 100)).drew:=(Upd.refl (fun _=>False) j.drew).alloc (.cells zVw.toArray 100)
     go_wp2_with (with_reducible first|(first|refine' qw1 (qh ?_) ?_|refine' qw2 (qh ?_) ?_|refine' qw3 (qh ?_) ?_);rotate_left|refine' qw4 (qh ?_)|refine' qw5 (qh ?_)|rfl|apply qn)
     refine⟨qa z _ c3,?_⟩
     generalize (j.alloc (.cells zVw.toArray 100)).drew=wd at f t c3 ⊢
     generalize g6:j.heap.size=K at t ⊢
     have U:=qb t
     clear t
     go_wp2_with (with_reducible first|(first|refine' qw1 (qh ?_) ?_|refine' qw2 (qh ?_) ?_|refine' qw3 (qh ?_) ?_);rotate_left|refine' qw4 (qh ?_)|refine' qw5 (qh ?_)|rfl|apply qn)
     refine(qa c7 wd f).mono ?_
     rintro e wa ⟨u,rfl,D,hu⟩
     go_wp2_with (with_reducible first|(first|refine' qw1 (qh ?_) ?_|refine' qw2 (qh ?_) ?_|refine' qw3 (qh ?_) ?_);rotate_left|refine' qw4 (qh ?_)|refine' qw5 (qh ?_)|rfl|apply qn)
     refine⟨qa z _ (c3.trans D),?_⟩
     go_wp2_with (with_reducible first|(first|refine' qw1 (qh ?_) ?_|refine' qw2 (qh ?_) ?_|refine' qw3 (qh ?_) ?_);rotate_left|refine' qw4 (qh ?_)|refine' qw5 (qh ?_)|rfl|apply qn)
     refine(qa b5 wa (f.trans D) u hu.to).mono ?_
     rintro e wb ⟨V,rfl,P,J⟩
     obtain⟨⟨u2,rfl,C⟩,hI⟩:=J
     obtain⟨a2,k2,rfl⟩:=C.slice
     have b9:=(D.trans P).old (qa U) (fun h=>h)
     obtain⟨e9,O,um⟩:=q8t b9 (qhb true c.loc c.rem Y) (qhc true c.loc c.rem Y) a2 (qep (qz true Y)).length k2
     have HF:=qb O
     have HV:=qb (ViewO.mk (ours:=true) (l:=c.loc) (r:=c.rem) (xs:=Y) ⟨_,rfl,C.putV b9 rfl um O rfl⟩ hI)
     have HN:=qb (((f.trans D).trans P).then um (fun i C e=>by omega))
     clear O um C b9
     go_wp2_with (with_reducible first|(first|refine' qw1 (qh ?_) ?_|refine' qw2 (qh ?_) ?_|refine' qw3 (qh ?_) ?_);rotate_left|refine' qw4 (qh ?_)|refine' qw5 (qh ?_)|rfl|apply qn)
     go_meet
     case rel=>exact⟨_,_,rfl,Nat.le_of_eq g6,qa HF,qa HV,qa HN⟩
   case rest =>
    obtain⟨K,u,rfl,hK,d8,J,n4⟩:=hcut
    obtain⟨w4,rfl⟩:∃w4:World,w4=wc:=⟨_,rfl⟩
    clear d6
    go_upto_region 6 with fail
    have N4:=qb ((qa N3).trans n4)
    have a4:=(qa H1).new (qa N4)
    have d4:=(qa HA).new (qa N4)
    obtain⟨-,-,-,-,-,N,m4⟩:=d4.cells
    rw[q] at N
    have g3:w4.cell? ⟨g,36,none⟩=some (.string c.s.peer):=a4.peer
    have d0:w4.cell? ⟨g,0,none⟩=some (.int .u32 c.s.ch):=a4.toR.ch
    have rK:=qaj d8 3 rfl
    have a6:=fun W=>q7c hm.len g8 hm.hash g7 W
    have d7:zr w4.drew A 4 32=some (zb m.hash).toArray:=m4
    have H4:=qb a4
    have h0:=J.u
    clear a4 d4 m4
    refine qb2 (fun w'=>zr w' A 4 32=some (zb m.hash).toArray) [1] (.of [0,1,2,3,4,5,6,7,8,9,10,11,12,13,14,15,16]) (by kernel_rfl) (by kernel_rfl) d7 ?_
    simp only[Plan.of]
    clear h0 d8
    go_wp2_with (with_reducible first|(first|refine' qw1 (qh ?_) ?_|refine' qw2 (qh ?_) ?_|refine' qw3 (qh ?_) ?_);rotate_left|refine' qw4 (qh ?_)|refine' qw5 (qh ?_)|rfl|apply qn)
    have f3:qx j w4.drew:=n4.drew
    refine(qa g0 w4.drew f3 _ (J.new ((Upd.refl _ _).drew))).mono ?_
    rintro e w5 ⟨rfl,n5⟩
    have N5:=qb ((qa N4).trans n5.ofDrew)
    have a9:=((qa HA).new (qa N5)).cells.2.2.2.2.2.2
    clear N g3 d0 rK J d7 n4 f3 n5
    go_wp2_with (with_reducible first|(first|refine' qw1 (qh ?_) ?_|refine' qw2 (qh ?_) ?_|refine' qw3 (qh ?_) ?_);rotate_left|refine' qw4 (qh ?_)|refine' qw5 (qh ?_)|rfl|apply qn)
    refine⟨a9,?_⟩
    clear a9
    cases hh:(m.hash != T) with
    | true =>
     have H:Hid (qct c m=133):=by rw[qa d1,hh,if_pos rfl] at o;exact o
     have HX:=qb (qa F w5 133 (qa N5) (qa H) (by decide))
     rw[hh] at a6
     go_wp2_with (with_reducible first|(first|refine' qw1 (qh ?_) ?_|refine' qw2 (qh ?_) ?_|refine' qw3 (qh ?_) ?_);rotate_left|refine' qw4 (qh ?_)|refine' qw5 (qh ?_)|rfl|apply qn)
     go_ret2
     obtain⟨hE,hC,hU⟩:=qa HX
     rw[hE]
     exact⟨_,rfl,qcj.nil _ _,hC,hU⟩
    | false =>
     have H:Hid (qct c m=0):=by rw[qa d1,hh,if_neg (by decide)] at o;exact o
     rw[hh] at a6
     have e3:c.hearSign m=(c.signedBy,[c.signedBy.revocation],0):=by unfold Ch.hearSign;rw[if_pos (qa H)]
     have f6:=qb e3
     have e0:=qlp g S c 3 w5 ⟨lv,nv,av,(qa H1).new (qa N5)⟩ ((qa I).new (qa N5)).glob
     clear e3
     go_wp2_with (with_reducible first|(first|refine' qw1 (qh ?_) ?_|refine' qw2 (qh ?_) ?_|refine' qw3 (qh ?_) ?_);rotate_left|refine' qw4 (qh ?_)|refine' qw5 (qh ?_)|rfl|apply qn)
     refine e0.mono ?_
     rintro e w6 ⟨rfl,⟨j0,j2,h5,h6⟩,u6⟩
     clear e0 a6
     obtain⟨c1,a5⟩:∃c1,c1=c.goOn 3:=⟨_,rfl⟩
     have e4:c1.k.heard=c.k.heard:=by rw[a5,qpf]
     rw[←a5] at h6
     have b6:w6.cell? ⟨g,38,none⟩=some (.int .i64 c.k.heard):=by rw[←e4];exact h6.toR.heard
     have g4:w6.frozen? ⟨g,38,none⟩=false:=qm h6.at_ 38
     have h7:=h6.putHeard (c.k.heard+1) (by omega)
     have u7:=qf2 w6 g 38 (.int .i64 (c.k.heard+1))
     have c2:S g:=(qa H0).inG
     have U6:=qb (((((qa N1).trans (qa N5)).mono (T:=S) (fun _ _ h=>h.elim)).trans u6))
     have U7:=qb ((qa U6).trans (u7.mono (fun k _ e=>by rw[e];exact c2)))
     have h3:w.heap.size≤w5.heap.size:=((qa N1).trans (qa N5)).size
     have b8:ChS (w6.setCell ⟨g,38,none⟩ (.int .i64 (c.k.heard+1))) g (Fr S w (w6.setCell ⟨g,38,none⟩ (.int .i64 (c.k.heard+1)))) ({c1 with k:= {c1.k with heard:=c.k.heard+1}} : Ch) :=
      (ChS.grow (S:=S) (w0:=w5) (w1:=w6) ⟨_,_,_,h7⟩ u7.size).later h3
     have d9:({c1 with k:= {c1.k with heard:=c.k.heard+1}} : Ch)=(c.goOn 3).heardOne:=by rw[a5,←e4,a5];rfl
     rw[d9] at b8
     have c8:=qb b8
     have d2:=qb (((qa I).new (qa N5)).upd (u6.trans (u7.mono (T:=S) (fun k _ e=>by rw[e];exact c2))) hS)
     clear h6 h7 b8 u6 u7 d9
     go_upto_region 10 with fail
     clear b6 g4
     generalize w6.setCell ⟨g,38,none⟩ (.int .i64 (c.k.heard+1))=w7 at U7 c8 d2 ⊢
     have e1:=qlp g (Fr S w w7) (c.goOn 3).heardOne 4 w7 (qa c8) (qa d2).glob
     go_wp2_with (with_reducible first|(first|refine' tw1 (qh ?_) ?_|refine' tw2 (qh ?_) ?_);rotate_left|refine' tw3 (qh ?_)|rfl|apply tn|refine' tw4 ?_)
     refine e1.mono ?_
     rintro e w8 ⟨rfl,h8,u8⟩
     clear e1
     have h4:=(qa U7).size
     obtain⟨j1,j3,i0,h8⟩:=h8.comp h4 u8.size
     have U8:=qb ((qa U7).fr u8)
     have g5:w8.frozen? ⟨g,44,none⟩=false:=qm h8.at_ 44
     have g2:w8.cell? ⟨g,44,none⟩=some (.bool ((c.goOn 3).heardOne.goOn 4).k.revoked):=h8.toR.revoked
     have h9:=h8.putRevoked true
     have u9:=qf2 w8 g 44 (.bool true)
     have X:ChS (w8.setCell ⟨g,44,none⟩ (.bool true)) g (Fr S w (w8.setCell ⟨g,44,none⟩ (.bool true))) c.signedBy:=ChS.grow (S:=S) (w0:=w) (w1:=w8) ⟨_,_,_,h9⟩ u9.size
     have U9:=qb ((qa U8).trans (u9.mono (fun k _ e=>by rw[e];exact c2)))
     have c5:=qka g _ c.signedBy (w8.setCell ⟨g,44,none⟩ (.bool true)) X ((qa f9).upd (qa U9) hS).tabs
     have c4:c.signedBy.revocation.hash.length=32:=by
      obtain⟨_,_,_,hq⟩:=X
      exact Ch.secret_len hq.ok _
     have c9:=qb X
     clear h8 u8 h9 u9 X
     go_upto_region 12 with (with_reducible first|(first|refine' tw1 (qh ?_) ?_|refine' tw2 (qh ?_) ?_);rotate_left|refine' tw3 (qh ?_)|rfl|apply tn|refine' tw4 ?_)
     clear g2 g5
     generalize w8.setCell ⟨g,44,none⟩ (.bool true)=w9 at c5 c9 U9 ⊢
     have f7:=qb c4
     have i3:=MsgV.len _ c4
     clear c4
     generalize hR:c.signedBy.revocation=R at *
     go_wp2_with (with_reducible first|(first|refine' tw1 (qh ?_) ?_|refine' tw2 (qh ?_) ?_);rotate_left|refine' tw3 (qh ?_)|rfl|apply tn|refine' tw4 ?_)
     refine c5.mono ?_
     rintro e f4 ⟨rfl,c6⟩
     have i9:=(qa U9).size
     have e7:=qme (w:=f4) (qa f7) w.heap.size (by have:=c6.size;omega)
     have a8:qx w9 (f4.alloc (.cells R.cells.toArray 30)):=c6.alloc _
     have f8:=qb e7
     have f5:=qb (((qa c9).new a8).grow a8.size)
     have g1:=qb ((qa U9).trans (a8.mono (T:=S) (fun _ _ h=>h.elim)))
     clear c5 c6 e7 a8
     go_wp2_with (with_reducible first|(first|refine' tw1 (qh ?_) ?_|refine' tw2 (qh ?_) ?_);rotate_left|refine' tw3 (qh ?_)|rfl|apply tn|refine' tw4 ?_)
     go_ret2
     rw[qa f6]
     exact⟨_,rfl,qa f8,qa f5,qa g1⟩
  ·rw[if_pos q] at o
   have nd:qx w1 w2.drew:=n2.drew
   have HX:=qb (qa F w2.drew 1 nd (qa o) (by decide))
   have a6:¬m.number=c.k.heard+1:=q
   clear n2 nd E hm
   go_wp2_with (with_reducible first|(first|refine' tw1 (qh ?_) ?_|refine' tw2 (qh ?_) ?_);rotate_left|refine' tw3 (qh ?_)|rfl|apply tn|refine' tw4 ?_)
   go_ret2
   obtain⟨hE,hC,hU⟩:=qa HX
   rw[hE]
   exact⟨_,rfl,qcj.nil _ _,hC,hU⟩
end Go.Proofs.YtjpmomdechibmaaGreatDoor
