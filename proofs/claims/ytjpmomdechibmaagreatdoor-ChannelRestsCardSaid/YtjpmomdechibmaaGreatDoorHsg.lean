/-
  hearSign.
-/
import Derived.Test.YtjpmomdechibmaaGreatDoorSgn
import Derived.Test.YtjpmomdechibmaaGreatDoorRvk
set_option linter.unusedVariables false
set_option linter.unusedSimpArgs false
namespace Go.Proofs.YtjpmomdechibmaaGreatDoor
open Go.RowKit
def zfn(x:Value):Sem Value:=Instr.loadAt 100 x
theorem q0r(x:Value):Instr.loadAt 100 x=zfn x:=rfl
theorem zfp(b o:Nat)(w:World):(zfn (.pointer (some ⟨b,o,none⟩))).run Tryz.prog w=match zx w b o 3 with | some A=> .ok (.agg A) w | none=>qdw Tryz.prog 100 w b o :=
 zy 100 3 _ Tryz.underlying100 rfl Tryz.infoView b o w
def zfs(x v:Value):Sem Unit:=Instr.storeAt 100 x v
theorem q1x(x v:Value):Instr.storeAt 100 x v=zfs x v:=rfl
theorem zfv(b o:Nat)(A:Array Value)(w:World):(zfs (.pointer (some ⟨b,o,none⟩)) (.agg A)).run Tryz.prog w=if stOk w b o 3 A=true then .ok () (w.setCells b o A.toList) else qfx Tryz.prog 100 w b o A :=
 qay 100 3 Tryz.infoView b o A w
def zfe:Sem Value:=Instr.alloc 100 true (.tuple #[])
theorem qzk:Instr.alloc 100 true (.tuple #[])=zfe:=rfl
def zVw:List Value:=[.int .u64 0,.int .u64 0,.slice none 0 0]
theorem zff(w:World):zfe.run Tryz.prog w = .ok (.pointer (some ⟨w.heap.size,0,none⟩)) (w.alloc (.cells zVw.toArray 100)):=by kernel_rfl
def vwC(A B:Int)(a:Option Addr)(n c:Nat):List Value:=[.int .u64 A,.int .u64 B,.slice a n c]
theorem zci(A B:Int)(a:Option Addr)(n c:Nat):∀v∈vwC A B a n c,v.oneCell'=true:=by
 intro v f
 simp only[vwC,List.mem_cons,List.not_mem_nil,or_false] at f
 rcases f with rfl | rfl | rfl<;>rfl
theorem zak{w:World}{b:Nat}(h:w.heap[b]? = some (.cells zVw.toArray 100 (0,0)))(A B:Int)(a:Option Addr)(n c:Nat) :
  stOk w b 0 3 #[.int .u64 A,.int .u64 B,.slice a n c]=true∧(w.setCells b 0 [.int .u64 A,.int .u64 B,.slice a n c]).heap[b]? = some (.cells #[.int .u64 A,.int .u64 B,.slice a n c] 100 (0,0))∧Upd (· = b) w (w.setCells b 0 [.int .u64 A,.int .u64 B,.slice a n c]):=by
 refine⟨qfe (C:=zVw.toArray) h rfl (zci A B a n c),?_⟩
 refine⟨?_,(Upd.refl _ _).setCells 0 _⟩
 rw[qa9 h 0 _]
 exact congrArg (fun z=>some (Obj.cells z 100 (0,0))) (qc5 zVw.toArray (vwC A B a n c) rfl)
theorem qe5.putV{w w':World}{v:Value}{X:List Item}{K:Nat}{C m:Array Value}{T q:TypeId}{z f:Nat × Nat}(h:qe5 w v X)(F:w.heap[K]? = some (.cells C T z))(L:C.size=3)(u:Upd (· = K) w w')(o:w'.heap[K]? = some (.cells m q f))(E:m.size=3):qe5 w' v X:=by
 rcases h with h | ⟨g,off,cap,e,h⟩
 ·exact .inl h
 ·refine .inr ⟨g,off,cap,e,?_⟩
  by_cases t:g=K
  ·subst t
   obtain⟨D,U,J,l,y,M⟩:=h
   rw[F] at l
   injection l with l
   injection l with hb1 hb2 hb3
   subst hb1
   have H:X=[]:=by
    cases X with
    | nil=>rfl
    | cons x X=>simp at y;omega
   subst H
   exact⟨m,q,f,o,by simp at y ⊢;omega,fun i x I=>by simp at I⟩
  ·exact h.upd u t
attribute [local go_sem ↓ high] qaa qap qar qa1 qab qac qag qah qol q0r q1x qzk qkr qe0
attribute [local go_sem] qcx qdn qdt qfm zq qcy qc0 qc2 qbn q8h zfp zfv zff qng
noncomputable def qh1(c:Ch)(m:MsgV):Bool:=m.hash != z8 true c.s.peer c.s.ch m.number c.loc c.rem (qz 3 c.xs)
noncomputable def qb8(c:Ch)(m:MsgV):Int :=
 if qaj 3 c.xs=false then 5 else if m.number≠c.k.heard+1 then 1 else if qh1 c m=true then 133 else 0
def Ch.heardOne(c:Ch):Ch:= {c with k:= {c.k with heard:=c.k.heard+1}}
def Ch.revokes(c:Ch):Ch:= {c with k:= {c.k with revoked:=true}}
def Ch.signedBy(c:Ch):Ch:=((c.goOn 3).heardOne.goOn 4).revokes
noncomputable def Ch.hearSign(c:Ch)(m:MsgV):Ch × List MsgV × Int:=if qb8 c m=0 then (c.signedBy,[c.signedBy.revocation],0) else (c,[],qb8 c m)
theorem qu3{c:Ch}{m:MsgV}{e:Int}(h:qb8 c m=e)(n:e≠0):c.hearSign m=(c,[],e):=by unfold Ch.hearSign;rw[h,if_neg n]
theorem qm2{w:World}{m:MsgV}(f:m.hash.length=32)(b0:Nat)(g:b0≤w.heap.size):qcu b0 (w.alloc (.cells m.cells.toArray 30)) (.slice (some ⟨w.heap.size,0,none⟩) 1 1) [m]:=by
 refine⟨by simp[m.len f],.inr ⟨w.heap.size,1,m.cells.toArray,rfl,g,qi _ _,Nat.le_refl _,by decide,by rw[List.size_toArray,m.len f],?_⟩⟩
 show List.take (1*38) m.cells=[m].flatMap MsgV.cells
 rw[List.take_of_length_le (by rw[m.len f];exact Nat.le_refl _)]
 simp
set_option maxRecDepth 100000 in
set_option maxHeartbeats 1000000 in
theorem qu2(g:Nat)(S:Nat→Prop)(c:Ch)(m:MsgV)(hm:MsgOk m)(w:World)(h:ChS w g S c)(hT:Tb w)(hS:Apart S)(hk:c.s.peer.size≤100000000)(g9:0≤c.s.ch∧c.s.ch<4294967296)(i6:c.k.heard<4294967295)(i8:c.xs.length≤16) :
  Calls Tryz.prog 69 #[.pointer (some ⟨g,0,none⟩),.agg m.cells.toArray] w fun e w'=>∃v,
   e = .returned (.tuple #[v,.int .i64 (c.hearSign m).2.2])∧qcu w.heap.size w' v (c.hearSign m).2.1∧ChS w' g (Fr S w w') (c.hearSign m).1∧Upd S w w':=by
 obtain⟨lv,nv,av,h⟩:=h
 go_enter Tryz.func69,Tryz.ntmps69
 go_upto_region 1 with fail
 have hA:=qch w m hm.len
 have n1:qy w (w.alloc (.cells m.cells.toArray 30)):=(Upd.refl _ _).alloc _
 generalize w.alloc (.cells m.cells.toArray 30)=w1 at n1 hA ⊢
 obtain⟨A,d5⟩:∃A,A=w.heap.size:=⟨_,rfl⟩
 rw[←d5] at hA ⊢
 have i4:g≠A:=by have:=h.lt g h.inG;omega
 have i1:¬S A:=fun e=>by have:=h.lt A e;omega
 have i2:w.heap.size≤A:=by omega
 clear d5
 have h1:=h.new n1
 have d3:w1.cell? ⟨g,47,none⟩=some lv:=h1.toR.live
 have h2:=h.ok.few
 have M:=qod lv c.xs 3 (by omega) w1 (hT.new n1).glob h1.toI.lives
 obtain⟨la,b4,e5⟩:=qx h.live
 have e8:qb8 c m=if qaj 3 c.xs=false then 5 else if m.number≠c.k.heard+1 then 1 else if qh1 c m=true then 133 else 0:=rfl
 have q:=qb e8
 have H0:=qb h
 have H1:=qb h1
 have HA:=qb hA
 have N1:=qb n1
 have J:=qb (hT.new n1)
 have f9:=qb hT
 have i5:=h.ok.heard
 have bad:∀(W:World) (e:Int),qy w1 W→qb8 c m=e→e≠0→c.hearSign m=(c,[],e)∧ChS W g (Fr S w W) c∧Upd S w W:=by
  intro W e nW hs he
  exact⟨qu3 hs he,(h1.new nW).fr w,(n1.trans nW).mono (T:=S) (fun _ _ h=>h.elim)⟩
 have H:=qb bad
 clear e8 h h1 hA n1 hT bad
 rw[e5] at d3 M
 go_wp2_with (with_reducible first|(first|refine' zr (qg ?_) ?_|refine' zt (qg ?_) ?_);rotate_left|refine' zu (qg ?_)|rfl|apply tn|refine' zv ?_)
 refine M.mono ?_
 rintro e w2 ⟨rfl,n2⟩
 clear M d3
 cases hc:qaj 3 c.xs with
 | false =>
  rw[hc,if_pos rfl] at q
  have HX:=qb (qa H w2 5 n2 (qa q) (by decide))
  clear n2
  go_wp2_with (with_reducible first|(first|refine' zr (qg ?_) ?_|refine' zt (qg ?_) ?_);rotate_left|refine' zu (qg ?_)|rfl|apply tn|refine' zv ?_)
  go_ret2
  obtain⟨hE,hC,hU⟩:=qa HX
  rw[hE]
  exact⟨_,rfl,qcu.nil _ _,hC,hU⟩
 | true =>
  rw[hc,if_neg (by decide)] at q
  have F:=(qa H1).new n2
  have b6:w2.cell? ⟨g,38,none⟩=some (.int .i64 c.k.heard):=F.toR.heard
  obtain⟨-,-,-,-,-,O,-⟩:=((qa HA).new n2).cells
  have i7:IntKind.i64.wrap (c.k.heard+1)=c.k.heard+1:=qiz (by omega) (by omega)
  by_cases t:m.number=c.k.heard+1
  ·rw[if_neg (fun h=>h t)] at q
   rw[t] at O
   have N2:=qb n2
   have H2:=qb F
   clear F n2
   go_upto_region 5 with (with_reducible first|(first|refine' zr (qg ?_) ?_|refine' zt (qg ?_) ?_);rotate_left|refine' zu (qg ?_)|rfl|apply tn|refine' zv ?_)
   have n3:qy w1 w2.drew:=(qa N2).drew
   have N3:=qb n3
   clear n3 b6 O N2 H2
   generalize w2.drew=o at N3 ⊢
   have hP:=(qa H1).new (qa N3)
   have H3:=qb hP
   have dB:zx o.drew g 45 2=some #[.int .u64 c.loc,.int .u64 c.rem]:=hP.base
   have b7:o.drew.cell? ⟨g,47,none⟩=some lv:=hP.toR.live
   have c0:=fun W (n:qy o W)=>qpu lv c.xs 3 (by omega) W (((qa J).new (qa N3)).new n).glob (hP.toI.lives.new n)
   rw[e5] at b7 c0
   have f1:(qz 3 c.xs).length≤1000000:=by unfold qz;rw[List.length_map];exact h2
   have b3:(qz 3 c.xs).length≤19:=by unfold qz;rw[List.length_map];omega
   have f2:∀x∈qz 3 c.xs,LiveOk x:=by
    intro y hy
    obtain⟨x,hx,rfl⟩:=List.mem_map.1 hy
    exact q6o (hP.ok.xs x hx) 3
   have e6:=fun W (n:qy o W) u (hu:qh6 W u (qz 3 c.xs))=>qx7 true c.loc c.rem u (qz 3 c.xs) b3 W (((qa J).new (qa N3)).new n).spans hu
   have f0:=fun W (n:qy o W) V (L:ViewO true c.loc c.rem (qz 3 c.xs) W V)=>qty true c.loc c.rem V (qz 3 c.xs) c.s.peer c.s.ch (c.k.heard+1) f1 W (((qa J).new (qa N3)).new n).tabs L f2 hk g9 (by omega) hP.ok.loc hP.ok.rem
   have g8:=qht true c.s.peer c.s.ch (c.k.heard+1) c.loc c.rem (qz 3 c.xs)
   have g7:qa6 (z8 true c.s.peer c.s.ch (c.k.heard+1) c.loc c.rem (qz 3 c.xs)):=by unfold z8 qrq;exact qez _
   have e2:qh1 c m=(m.hash != z8 true c.s.peer c.s.ch (c.k.heard+1) c.loc c.rem (qz 3 c.xs)):=by unfold qh1;rw[t]
   have N:∀W,qy o.drew W→zx W g 45 2=some #[.int .u64 c.loc,.int .u64 c.rem]∧W.cell? ⟨g,47,none⟩=some (.slice la c.xs.length b4):=by
    intro W n
    have F:=hP.new (((Upd.refl (fun _=>False) o).drew).trans n)
    exact⟨F.base,n.cell b7 (fun h=>h)⟩
   have c7:=qb c0
   have b5:=qb e6
   have g0:=qb f0
   have d1:=qb e2
   have C:=qb N
   have d6:=N o.drew (Upd.refl _ _)
   clear hP c0 e6 f0 e2 N dB b7 f1 b3 f2
   generalize z8 true c.s.peer c.s.ch (c.k.heard+1) c.loc c.rem (qz 3 c.xs)=T at *
   generalize hY:qz 3 c.xs=Y at *
   have HY:=qb hY
   clear hY
   go_cut [6] from 24 to 33 (fun ov wx=>∃K u,ov = .pointer (some ⟨K,0,none⟩)∧o.heap.size≤K∧wx.heap[K]? = some (.cells #[.int .u64 (qhr true c.loc c.rem Y),.int .u64 (qhs true c.loc c.rem Y),u] 100 (0,0))∧ViewO true c.loc c.rem Y wx (.agg #[.int .u64 (qhr true c.loc c.rem Y),.int .u64 (qhs true c.loc c.rem Y),u])∧qy o wx)
   case first =>
    have nd:qy o o.drew:=(Upd.refl _ _).drew
    refine qb5 (fun w'=>zx w' g 45 2=some #[.int .u64 c.loc,.int .u64 c.rem]∧w'.cell? ⟨g,47,none⟩=some (.slice la c.xs.length b4)) [3,7] (Plan.pre [0,1,2,3,4,5,6,7] (.fork (.step 8 (.fork (.of [9,10,11]) (.of [10,9,11]))) (.of [10,8,9,11]))) (by kernel_rfl) (by kernel_rfl) d6 ?_
    simp only[Plan.of,Plan.pre]
    go_wp2_with (with_reducible first|(first|refine' qw1 (qg ?_) ?_|refine' qw2 (qg ?_) ?_|refine' qw3 (qg ?_) ?_);rotate_left|refine' qw4 (qg ?_)|refine' qw5 (qg ?_)|rfl|apply qn)
    refine qf ?_ ?_
    ·go_wp2_with (with_reducible first|(first|refine' qw1 (qg ?_) ?_|refine' qw2 (qg ?_) ?_|refine' qw3 (qg ?_) ?_);rotate_left|refine' qw4 (qg ?_)|refine' qw5 (qg ?_)|rfl|apply qn)
     refine(qa c7 o.drew nd).mono ?_
     rintro e wa ⟨u,rfl,E,hu⟩
     go_wp2_with (with_reducible first|(first|refine' qw1 (qg ?_) ?_|refine' qw2 (qg ?_) ?_|refine' qw3 (qg ?_) ?_);rotate_left|refine' qw4 (qg ?_)|refine' qw5 (qg ?_)|rfl|apply qn)
     refine⟨qa C _ E,?_⟩
     refine qf ?_ ?_
     ·go_wp2_with (with_reducible first|(first|refine' qw1 (qg ?_) ?_|refine' qw2 (qg ?_) ?_|refine' qw3 (qg ?_) ?_);rotate_left|refine' qw4 (qg ?_)|refine' qw5 (qg ?_)|rfl|apply qn)
      refine(qa b5 wa (nd.trans E) u hu.to).mono ?_
      rintro e wb ⟨V,rfl,U,L⟩
      obtain⟨⟨u2,rfl,D⟩,hI⟩:=L
      obtain⟨a2,k2,rfl⟩:=D.slice
      have f:qy wb (wb.alloc (.cells zVw.toArray 100)):=(Upd.refl _ _).alloc _
      have a7:o.heap.size≤wb.heap.size:=((nd.trans E).trans U).size
      obtain⟨e9,P,um⟩:=zak (qi wb (.cells zVw.toArray 100)) (qhr true c.loc c.rem Y) (qhs true c.loc c.rem Y) a2 (qe3 (zb true Y)).length k2
      have nF:=f.then um (fun i D e=>by omega)
      have HF:=qb P
      have HV:=qb (ViewO.mk (ours:=true) (l:=c.loc) (r:=c.rem) (xs:=Y) ⟨_,rfl,D.new nF⟩ hI)
      have HN:=qb (((nd.trans E).trans U).trans nF)
      clear P um nF D
      go_wp2_with (with_reducible first|(first|refine' qw1 (qg ?_) ?_|refine' qw2 (qg ?_) ?_|refine' qw3 (qg ?_) ?_);rotate_left|refine' qw4 (qg ?_)|refine' qw5 (qg ?_)|rfl|apply qn)
      refine⟨qa C _ ((E.trans U).trans f),?_⟩
      clear f
      go_wp2_with (with_reducible first|(first|refine' qw1 (qg ?_) ?_|refine' qw2 (qg ?_) ?_|refine' qw3 (qg ?_) ?_);rotate_left|refine' qw4 (qg ?_)|refine' qw5 (qg ?_)|rfl|apply qn)
      go_meet
      case rel=>exact⟨_,_,rfl,a7,qa HF,qa HV,qa HN⟩
     ·have f:qy wa (wa.alloc (.cells zVw.toArray 100)):=(Upd.refl _ _).alloc _
      have z:=qi wa (.cells zVw.toArray 100)
      have a7:o.heap.size≤wa.heap.size:=(nd.trans E).size
      go_wp2_with (with_reducible first|(first|refine' qw1 (qg ?_) ?_|refine' qw2 (qg ?_) ?_|refine' qw3 (qg ?_) ?_);rotate_left|refine' qw4 (qg ?_)|refine' qw5 (qg ?_)|rfl|apply qn)
      refine⟨qa C _ (E.trans f),?_⟩
      generalize wa.alloc (.cells zVw.toArray 100)=wd at f z ⊢
      generalize wa.heap.size=K at z a7 ⊢
      have X:=qb z
      clear z
      go_wp2_with (with_reducible first|(first|refine' qw1 (qg ?_) ?_|refine' qw2 (qg ?_) ?_|refine' qw3 (qg ?_) ?_);rotate_left|refine' qw4 (qg ?_)|refine' qw5 (qg ?_)|rfl|apply qn)
      refine(qa b5 wd ((nd.trans E).trans f) u (hu.to.new f)).mono ?_
      rintro e wb ⟨V,rfl,U,L⟩
      obtain⟨⟨u2,rfl,D⟩,hI⟩:=L
      obtain⟨a2,k2,rfl⟩:=D.slice
      obtain⟨e9,P,um⟩:=zak (U.old (qa X) (fun h=>h)) (qhr true c.loc c.rem Y) (qhs true c.loc c.rem Y) a2 (qe3 (zb true Y)).length k2
      have HF:=qb P
      have HV:=qb (ViewO.mk (ours:=true) (l:=c.loc) (r:=c.rem) (xs:=Y) ⟨_,rfl,D.putV (U.old (qa X) (fun h=>h)) rfl um P rfl⟩ hI)
      have HN:=qb ((((nd.trans E).trans f).trans U).then um (fun i D e=>by omega))
      clear P um D
      go_wp2_with (with_reducible first|(first|refine' qw1 (qg ?_) ?_|refine' qw2 (qg ?_) ?_|refine' qw3 (qg ?_) ?_);rotate_left|refine' qw4 (qg ?_)|refine' qw5 (qg ?_)|rfl|apply qn)
      go_meet
      case rel=>exact⟨_,_,rfl,a7,qa HF,qa HV,qa HN⟩
    ·have f:qy o (o.alloc (.cells zVw.toArray 100)).drew:=((Upd.refl _ _).alloc _).drew
     have z:(o.alloc (.cells zVw.toArray 100)).drew.heap[o.heap.size]? = some (.cells zVw.toArray 100 (0,0)):=qi o _
     have c3:qy o.drew (o.alloc (.cells zVw.toArray 100)).drew:=(Upd.refl (fun _=>False) o.drew).alloc (.cells zVw.toArray 100)
     go_wp2_with (with_reducible first|(first|refine' qw1 (qg ?_) ?_|refine' qw2 (qg ?_) ?_|refine' qw3 (qg ?_) ?_);rotate_left|refine' qw4 (qg ?_)|refine' qw5 (qg ?_)|rfl|apply qn)
     refine⟨qa C _ c3,?_⟩
     generalize (o.alloc (.cells zVw.toArray 100)).drew=wd at f z c3 ⊢
     generalize g6:o.heap.size=K at z ⊢
     have X:=qb z
     clear z
     go_wp2_with (with_reducible first|(first|refine' qw1 (qg ?_) ?_|refine' qw2 (qg ?_) ?_|refine' qw3 (qg ?_) ?_);rotate_left|refine' qw4 (qg ?_)|refine' qw5 (qg ?_)|rfl|apply qn)
     refine(qa c7 wd f).mono ?_
     rintro e wa ⟨u,rfl,E,hu⟩
     go_wp2_with (with_reducible first|(first|refine' qw1 (qg ?_) ?_|refine' qw2 (qg ?_) ?_|refine' qw3 (qg ?_) ?_);rotate_left|refine' qw4 (qg ?_)|refine' qw5 (qg ?_)|rfl|apply qn)
     refine⟨qa C _ (c3.trans E),?_⟩
     go_wp2_with (with_reducible first|(first|refine' qw1 (qg ?_) ?_|refine' qw2 (qg ?_) ?_|refine' qw3 (qg ?_) ?_);rotate_left|refine' qw4 (qg ?_)|refine' qw5 (qg ?_)|rfl|apply qn)
     refine(qa b5 wa (f.trans E) u hu.to).mono ?_
     rintro e wb ⟨V,rfl,U,L⟩
     obtain⟨⟨u2,rfl,D⟩,hI⟩:=L
     obtain⟨a2,k2,rfl⟩:=D.slice
     have b9:=(E.trans U).old (qa X) (fun h=>h)
     obtain⟨e9,P,um⟩:=zak b9 (qhr true c.loc c.rem Y) (qhs true c.loc c.rem Y) a2 (qe3 (zb true Y)).length k2
     have HF:=qb P
     have HV:=qb (ViewO.mk (ours:=true) (l:=c.loc) (r:=c.rem) (xs:=Y) ⟨_,rfl,D.putV b9 rfl um P rfl⟩ hI)
     have HN:=qb (((f.trans E).trans U).then um (fun i D e=>by omega))
     clear P um D b9
     go_wp2_with (with_reducible first|(first|refine' qw1 (qg ?_) ?_|refine' qw2 (qg ?_) ?_|refine' qw3 (qg ?_) ?_);rotate_left|refine' qw4 (qg ?_)|refine' qw5 (qg ?_)|rfl|apply qn)
     go_meet
     case rel=>exact⟨_,_,rfl,Nat.le_of_eq g6,qa HF,qa HV,qa HN⟩
   case rest =>
    obtain⟨K,u,rfl,hK,d8,L,n4⟩:=hcut
    obtain⟨w4,rfl⟩:∃w4:World,w4=wc:=⟨_,rfl⟩
    clear d6
    go_upto_region 6 with fail
    have N4:=qb ((qa N3).trans n4)
    have a4:=(qa H1).new (qa N4)
    have d4:=(qa HA).new (qa N4)
    obtain⟨-,-,-,-,-,O,m4⟩:=d4.cells
    rw[t] at O
    have g3:w4.cell? ⟨g,36,none⟩=some (.string c.s.peer):=a4.peer
    have d0:w4.cell? ⟨g,0,none⟩=some (.int .u32 c.s.ch):=a4.toR.ch
    have rK:=qaq d8 3 rfl
    have a6:=fun W=>q8z hm.len g8 hm.hash g7 W
    have d7:zx w4.drew A 4 32=some (zf m.hash).toArray:=m4
    have H4:=qb a4
    have h0:=L.u
    clear a4 d4 m4
    refine qb5 (fun w'=>zx w' A 4 32=some (zf m.hash).toArray) [1] (.of [0,1,2,3,4,5,6,7,8,9,10,11,12,13,14,15,16]) (by kernel_rfl) (by kernel_rfl) d7 ?_
    simp only[Plan.of]
    clear h0 d8
    go_wp2_with (with_reducible first|(first|refine' qw1 (qg ?_) ?_|refine' qw2 (qg ?_) ?_|refine' qw3 (qg ?_) ?_);rotate_left|refine' qw4 (qg ?_)|refine' qw5 (qg ?_)|rfl|apply qn)
    have f3:qy o w4.drew:=n4.drew
    refine(qa g0 w4.drew f3 _ (L.new ((Upd.refl _ _).drew))).mono ?_
    rintro e w5 ⟨rfl,n5⟩
    have N5:=qb ((qa N4).trans n5.ofDrew)
    have a9:=((qa HA).new (qa N5)).cells.2.2.2.2.2.2
    clear O g3 d0 rK L d7 n4 f3 n5
    go_wp2_with (with_reducible first|(first|refine' qw1 (qg ?_) ?_|refine' qw2 (qg ?_) ?_|refine' qw3 (qg ?_) ?_);rotate_left|refine' qw4 (qg ?_)|refine' qw5 (qg ?_)|rfl|apply qn)
    refine⟨a9,?_⟩
    clear a9
    cases hh:(m.hash != T) with
    | true =>
     have I:Hid (qb8 c m=133):=by rw[qa d1,hh,if_pos rfl] at q;exact q
     have HX:=qb (qa H w5 133 (qa N5) (qa I) (by decide))
     rw[hh] at a6
     go_wp2_with (with_reducible first|(first|refine' qw1 (qg ?_) ?_|refine' qw2 (qg ?_) ?_|refine' qw3 (qg ?_) ?_);rotate_left|refine' qw4 (qg ?_)|refine' qw5 (qg ?_)|rfl|apply qn)
     go_ret2
     obtain⟨hE,hC,hU⟩:=qa HX
     rw[hE]
     exact⟨_,rfl,qcu.nil _ _,hC,hU⟩
    | false =>
     have I:Hid (qb8 c m=0):=by rw[qa d1,hh,if_neg (by decide)] at q;exact q
     rw[hh] at a6
     have e3:c.hearSign m=(c.signedBy,[c.signedBy.revocation],0):=by unfold Ch.hearSign;rw[if_pos (qa I)]
     have f6:=qb e3
     have e0:=qme g S c 3 w5 ⟨lv,nv,av,(qa H1).new (qa N5)⟩ ((qa J).new (qa N5)).glob
     clear e3
     go_wp2_with (with_reducible first|(first|refine' qw1 (qg ?_) ?_|refine' qw2 (qg ?_) ?_|refine' qw3 (qg ?_) ?_);rotate_left|refine' qw4 (qg ?_)|refine' qw5 (qg ?_)|rfl|apply qn)
     refine e0.mono ?_
     rintro e w6 ⟨rfl,⟨j0,j2,h5,h6⟩,u6⟩
     clear e0 a6
     obtain⟨c1,a5⟩:∃c1,c1=c.goOn 3:=⟨_,rfl⟩
     have e4:c1.k.heard=c.k.heard:=by rw[a5,qfq]
     rw[←a5] at h6
     have b6:w6.cell? ⟨g,38,none⟩=some (.int .i64 c.k.heard):=by rw[←e4];exact h6.toR.heard
     have g4:w6.frozen? ⟨g,38,none⟩=false:=qq h6.at_ 38
     have h7:=h6.putHeard (c.k.heard+1) (by omega)
     have u7:=qgf w6 g 38 (.int .i64 (c.k.heard+1))
     have c2:S g:=(qa H0).inG
     have U6:=qb (((((qa N1).trans (qa N5)).mono (T:=S) (fun _ _ h=>h.elim)).trans u6))
     have U7:=qb ((qa U6).trans (u7.mono (fun k _ e=>by rw[e];exact c2)))
     have h3:w.heap.size≤w5.heap.size:=((qa N1).trans (qa N5)).size
     have b8:ChS (w6.setCell ⟨g,38,none⟩ (.int .i64 (c.k.heard+1))) g (Fr S w (w6.setCell ⟨g,38,none⟩ (.int .i64 (c.k.heard+1)))) ({c1 with k:= {c1.k with heard:=c.k.heard+1}} : Ch) :=
      (ChS.grow (S:=S) (w0:=w5) (w1:=w6) ⟨_,_,_,h7⟩ u7.size).later h3
     have d9:({c1 with k:= {c1.k with heard:=c.k.heard+1}} : Ch)=(c.goOn 3).heardOne:=by rw[a5,←e4,a5];rfl
     rw[d9] at b8
     have c8:=qb b8
     have d2:=qb (((qa J).new (qa N5)).upd (u6.trans (u7.mono (T:=S) (fun k _ e=>by rw[e];exact c2))) hS)
     clear h6 h7 b8 u6 u7 d9
     go_upto_region 10 with fail
     clear b6 g4
     generalize w6.setCell ⟨g,38,none⟩ (.int .i64 (c.k.heard+1))=w7 at U7 c8 d2 ⊢
     have e1:=qme g (Fr S w w7) (c.goOn 3).heardOne 4 w7 (qa c8) (qa d2).glob
     go_wp2_with (with_reducible first|(first|refine' zr (qg ?_) ?_|refine' zt (qg ?_) ?_);rotate_left|refine' zu (qg ?_)|rfl|apply tn|refine' zv ?_)
     refine e1.mono ?_
     rintro e w8 ⟨rfl,h8,u8⟩
     clear e1
     have h4:=(qa U7).size
     obtain⟨j1,j3,i0,h8⟩:=h8.comp h4 u8.size
     have U8:=qb ((qa U7).fr u8)
     have g5:w8.frozen? ⟨g,44,none⟩=false:=qq h8.at_ 44
     have g2:w8.cell? ⟨g,44,none⟩=some (.bool ((c.goOn 3).heardOne.goOn 4).k.revoked):=h8.toR.revoked
     have h9:=h8.putRevoked true
     have u9:=qgf w8 g 44 (.bool true)
     have Z:ChS (w8.setCell ⟨g,44,none⟩ (.bool true)) g (Fr S w (w8.setCell ⟨g,44,none⟩ (.bool true))) c.signedBy:=ChS.grow (S:=S) (w0:=w) (w1:=w8) ⟨_,_,_,h9⟩ u9.size
     have U9:=qb ((qa U8).trans (u9.mono (fun k _ e=>by rw[e];exact c2)))
     have c5:=qku g _ c.signedBy (w8.setCell ⟨g,44,none⟩ (.bool true)) Z ((qa f9).upd (qa U9) hS).tabs
     have c4:c.signedBy.revocation.hash.length=32:=by
      obtain⟨_,_,_,hq⟩:=Z
      exact Ch.secret_len hq.ok _
     have c9:=qb Z
     clear h8 u8 h9 u9 Z
     go_upto_region 12 with (with_reducible first|(first|refine' zr (qg ?_) ?_|refine' zt (qg ?_) ?_);rotate_left|refine' zu (qg ?_)|rfl|apply tn|refine' zv ?_)
     clear g2 g5
     generalize w8.setCell ⟨g,44,none⟩ (.bool true)=w9 at c5 c9 U9 ⊢
     have f7:=qb c4
     have i3:=MsgV.len _ c4
     clear c4
     generalize hR:c.signedBy.revocation=R at *
     go_wp2_with (with_reducible first|(first|refine' zr (qg ?_) ?_|refine' zt (qg ?_) ?_);rotate_left|refine' zu (qg ?_)|rfl|apply tn|refine' zv ?_)
     refine c5.mono ?_
     rintro e f4 ⟨rfl,c6⟩
     have i9:=(qa U9).size
     have e7:=qm2 (w:=f4) (qa f7) w.heap.size (by have:=c6.size;omega)
     have a8:qy w9 (f4.alloc (.cells R.cells.toArray 30)):=c6.alloc _
     have f8:=qb e7
     have f5:=qb (((qa c9).new a8).grow a8.size)
     have g1:=qb ((qa U9).trans (a8.mono (T:=S) (fun _ _ h=>h.elim)))
     clear c5 c6 e7 a8
     go_wp2_with (with_reducible first|(first|refine' zr (qg ?_) ?_|refine' zt (qg ?_) ?_);rotate_left|refine' zu (qg ?_)|rfl|apply tn|refine' zv ?_)
     go_ret2
     rw[qa f6]
     exact⟨_,rfl,qa f8,qa f5,qa g1⟩
  ·rw[if_pos t] at q
   have nd:qy w1 w2.drew:=n2.drew
   have HX:=qb (qa H w2.drew 1 nd (qa q) (by decide))
   have a6:¬m.number=c.k.heard+1:=t
   clear n2 nd F hm
   go_wp2_with (with_reducible first|(first|refine' zr (qg ?_) ?_|refine' zt (qg ?_) ?_);rotate_left|refine' zu (qg ?_)|rfl|apply tn|refine' zv ?_)
   go_ret2
   obtain⟨hE,hC,hU⟩:=qa HX
   rw[hE]
   exact⟨_,rfl,qcu.nil _ _,hC,hU⟩
end Go.Proofs.YtjpmomdechibmaaGreatDoor
