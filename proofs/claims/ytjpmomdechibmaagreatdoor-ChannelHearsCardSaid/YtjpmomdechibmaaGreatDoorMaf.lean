/-
  many, say, shut, Shut.
-/
import Derived.Test.YtjpmomdechibmaaGreatDoorMae
import Derived.Deep.Onto
import Derived.Maps.AppendAt
import Derived.Deep.AppendLies
set_option linter.unusedVariables false
set_option linter.unusedSimpArgs false
namespace Go.Proofs.YtjpmomdechibmaaGreatDoor
open Go.RowKit
attribute [local go_sem ↓ high] qcv qdm qf3 qab qac qag qaa qem
attribute [local go_sem] qg6 qjd qoe qc2 qc3 qc6 qbm qnh qms zn
def qcx(own:Bool)(xs:List Live):Nat:=(xs.filter fun x=>x.own==own).length
set_option maxRecDepth 100000 in
set_option maxHeartbeats 2000000 in
theorem qr9(g:Nat)(S:Nat→Prop)(c:Ch)(own:Bool)(w:World)(h:ChS w g S c) :
  Calls Tryz.prog 37 #[.pointer (some ⟨g,0,none⟩),.bool own] w (qa5 (.int .i64 (qcx own c.xs)) w):=by
 obtain⟨O,nv,Z,h⟩:=h
 have t:=h.toR.live
 have L:=h.ok.few
 have E:=h.toI.lives
 obtain⟨a,cap,H⟩:=qv h.live
 change w.cell? ⟨g,47,none⟩=some O at t
 change qhq w O c.xs at E
 rw[H] at t E
 have f:∀(i:Nat) (x:Live),c.xs[i]? = some x→∃g' off,a=some ⟨g',off,none⟩∧qfo w g' off c.xs:=by
  intro i x N
  have j:=(List.getElem?_eq_some_iff.1 N).1
  rcases E with ⟨Y,k,e,R⟩ | ⟨g',off,k,e,D⟩
  ·rw[R] at j;simp at j
  ·injection e with e1
   exact⟨g',off,e1,D⟩
 clear h E
 generalize c.xs=xs at *
 have W:(xs.length:Int)≤1000000:=by omega
 go_enter Tryz.func37,Tryz.ntmps37
 go_wp2_with fail
 go_loopw [5,7,13] (fun X _ J wr=>∃i:Nat,J = .int .i64 (i:Int)∧i≤xs.length∧X = .int .i64 (qcx own (xs.take i))∧qx w wr) (fun _ _ J _=>xs.length-(intOf J).toNat)
 case atStart=>exact⟨0,rfl,Nat.zero_le _,rfl,Upd.refl _ _⟩
 case round =>
  obtain⟨i,rfl,N,rfl,F⟩:=hrel
  obtain⟨q,rfl⟩:∃q:World,q=wr:=⟨_,rfl⟩
  by_cases j:i<xs.length
  ·obtain⟨x,l⟩:∃x,xs[i]? = some x:=⟨_,List.getElem?_eq_getElem j⟩
   obtain⟨g',off,rfl,D⟩:=f i x l
   have y:=(D.upd F (fun h=>h)).row l
   have U:(i:Int)<(xs.length:Int):=by omega
   have I:=qm6 q x
   have o:=qmz q x
   have v:qcx own (xs.take (i+1))=qcx own (xs.take i)+(if x.own==own then 1 else 0):=by
    unfold qcx
    rw[List.take_add_one,l,List.filter_append,List.length_append]
    cases m:x.own==own<;>simp[m]
   have V:qcx own (xs.take i)≤i:=by
    unfold qcx
    refine Nat.le_trans (List.length_filter_le _ _) ?_
    rw[List.length_take]
    omega
   have C:=qb v
   clear v l D f
   generalize qcx own (xs.take i)=M at *
   go_upto_region 5 with fail
   obtain⟨m,K⟩:=o
   generalize (q.alloc (.cells (ql Live.zero).toArray 81)).setCells q.heap.size 0 (ql x)=wb at m K ⊢
   have P:wb.cell? ⟨q.heap.size,35,none⟩=some (.bool x.own):=by rw[qg m,List.getElem?_toArray];exact qi3 x
   have z:=F.trans K
   have T:(M:Int)≤1000000:=by omega
   clear I y m K F
   cases m:x.own==own with
   | true =>
    rw[m] at C
    go_wp2_with fail
    go_roundw
    case rel=>exact⟨i+1,by go_num,by omega,by rw[qa C];simp,z⟩
    case measure=>simp[intOf];omega
   | false =>
    rw[m] at C
    go_wp2_with fail
    go_roundw
    case rel=>exact⟨i+1,by go_num,by omega,by rw[qa C];simp,z⟩
    case measure=>simp[intOf];omega
  ·obtain rfl:i=xs.length:=by omega
   rw[List.take_length]
   clear f
   go_wp2_with fail
   go_ret
   exact⟨rfl,F⟩
theorem qj5:∃i z b,Tryz.prog.info? 30=some i∧i.zero=some z∧i.size=38∧i.bytes=b∧z.cells.size=38∧b≤1000:=by
 obtain⟨i,z,g,m,l⟩:=qdo Tryz.zeroMsg
 have f:(Tryz.prog.info? 30).map (fun i=>decide (i.bytes≤1000))=some true:=by kernel_rfl
 have j:=Tryz.infoMsg
 rw[g,Option.map_some,Option.some.injEq] at f j
 exact⟨i,z,i.bytes,g,m,j,rfl,by rw[l];rfl,of_decide_eq_true f⟩
def MsgV.on(m:MsgV)(ch:Int):MsgV:= {m with ch:=ch}
def Ch.say(c:Ch)(m:MsgV):Ch:= {c with news:=c.news++[m.on c.s.ch]}
set_option maxRecDepth 100000 in
set_option maxHeartbeats 2000000 in
theorem qoo(g:Nat)(S:Nat→Prop)(c:Ch)(m:MsgV)(hm:m.hash.length=32)(w:World)(h:ChS w g S c)(f2:c.news.length<1000000) :
  Calls Tryz.prog 38 #[.pointer (some ⟨g,0,none⟩),.agg m.cells.toArray] w fun e w'=>e = .returned (.agg (m.on c.s.ch).cells.toArray)∧ChS w' g (Fr S w w') (c.say m)∧Upd S w w':=by
 obtain⟨lv,nv,av,h⟩:=h
 go_enter Tryz.func38,Tryz.ntmps38
 go_upto_region 1 with fail
 have I:((w.alloc (.cells m.cells.toArray 30)).alloc (.cells MsgV.zero.cells.toArray 30)).heap[w.heap.size]? = some (.cells m.cells.toArray 30 (0,0)):=zj (qi _ _) _
 have a4:((w.alloc (.cells m.cells.toArray 30)).alloc (.cells MsgV.zero.cells.toArray 30)).heap[w.heap.size+1]? = some (.cells MsgV.zero.cells.toArray 30 (0,0)):=by
  have:=qi (w.alloc (.cells m.cells.toArray 30)) (.cells MsgV.zero.cells.toArray 30)
  rwa [World.size_alloc] at this
 have nA:qx w ((w.alloc (.cells m.cells.toArray 30)).alloc (.cells MsgV.zero.cells.toArray 30)):=((Upd.refl _ _).alloc _).alloc _
 generalize (w.alloc (.cells m.cells.toArray 30)).alloc (.cells MsgV.zero.cells.toArray 30)=wA at I a4 nA ⊢
 obtain⟨A,b7⟩:∃A,A=w.heap.size:=⟨_,rfl⟩
 obtain⟨B,b8⟩:∃B,B=w.heap.size+1:=⟨_,rfl⟩
 rw[←b8] at a4 ⊢
 rw[←b7] at I ⊢
 have hA:=h.new nA
 have d7:g≠A:=by have:=h.lt g h.inG;omega
 have c7:g≠B:=by have:=h.lt g h.inG;omega
 have f4:w.heap.size≤A:=by omega
 have f5:w.heap.size≤B:=by omega
 have d3:B≠A:=by omega
 clear b7 b8
 have c0:wA.cell? ⟨g,0,none⟩=some (.int .u32 c.s.ch):=hA.toR.ch
 have e1:wA.cell? ⟨A,1,none⟩=some (.int .u32 m.ch):=qg I 1
 have f1:=qm I 1
 have uB:Upd (· = A) wA (wA.setCell ⟨A,1,none⟩ (.int .u32 c.s.ch)):=(Upd.refl _ _).set1 1 _
 have E:(wA.setCell ⟨A,1,none⟩ (.int .u32 c.s.ch)).heap[A]? = some (.cells (m.on c.s.ch).cells.toArray 30 (0,0)):=zu I 1 _
 have N:=uB.old a4 d3
 have hB:=hA.upd uB (fun k f e=>by have:=h.lt k f;omega)
 have nB:qx w (wA.setCell ⟨A,1,none⟩ (.int .u32 c.s.ch)):=nA.then uB (fun i hi e=>by omega)
 have H0:=qb h
 clear h hA I a4 nA uB
 go_upto_region 2 with fail
 clear c0 e1 f1
 generalize wA.setCell ⟨A,1,none⟩ (.int .u32 c.s.ch)=H at hB E N nB ⊢
 have C:H.drew.cell? ⟨g,626,none⟩=some nv:=by
  have e:H.drew.cell? ⟨g,626,none⟩=_:=qg hB.at_ 626
  rw[e]
  exact qpe c lv nv av hB.ok.s.seed hB.ok.shelf
 have b6:H.frozen? ⟨g,626,none⟩=false:=qm hB.at_ 626
 have U:(m.on c.s.ch).hash.length=32:=hm
 have hr:zr H A 0 38=some (m.on c.s.ch).cells.toArray:=qaj E 38 (by rw[List.size_toArray,MsgV.len _ U])
 have R:=MsgV.len _ U
 obtain⟨i9,z9,b9,d8,e6,e3,e4,e5,d5⟩:=qj5
 have HB:=qb hB
 have c6:Hid (∃cs,H.heap[g]? = some (.cells cs 92 (0,0))):=qb ⟨_,hB.at_⟩
 obtain⟨na,f3,c8⟩:=qv hB.news
 clear hB
 refine qb2 (fun w'=>w'.cell? ⟨g,626,none⟩=some nv) [4] (.of [0,1,2,3,4,5,6,7,8,9,10]) (by kernel_rfl) (by kernel_rfl) C ?_
 simp only[Plan.of]
 go_wp2_with (with_reducible first|(first|refine' qw1 (qh ?_) ?_|refine' qw2 (qh ?_) ?_|refine' qw3 (qh ?_) ?_);rotate_left|refine' qw4 (qh ?_)|refine' qw5 (qh ?_)|rfl|apply qn)
 refine⟨((Upd.refl (fun _=>False) H).alloc _).drew.cell C (fun h=>h),?_⟩
 have nC:qx H (H.alloc (.cells (m.on c.s.ch).cells.toArray 30)).drew:=((Upd.refl _ _).alloc _).drew
 have a5:(H.alloc (.cells (m.on c.s.ch).cells.toArray 30)).drew.heap[H.heap.size]? = _:=qi H (.cells (m.on c.s.ch).cells.toArray 30)
 have Y:=qb ((qa HB).new nC)
 have L:=nC.old E (fun h=>h)
 have F:=nC.old N (fun h=>h)
 have z:=nC.cell C (fun h=>h)
 have b5:=nB.trans nC
 have d4:w.heap.size≤H.heap.size:=nB.size
 clear C b6 hr HB E N nB nC c6
 generalize (H.alloc (.cells (m.on c.s.ch).cells.toArray 30)).drew=wC at a5 Y L F z b5 ⊢
 generalize H.heap.size=D at a5 d4 ⊢
 have t:=(qa Y).news
 unfold q0r at t
 rw[c8] at t
 have HN:=qb t
 clear t
 go_wp2_with (first | (at_builtin;refine wpList_append_own_at _ rfl (.tmp 15) (.tmp 17) 35 rfl 0 30 i9 _ 38 b9 Tryz.underlying35 d8 e6 e3 e4 e5 (by decide) _ _ _ rfl (qa HN) ⟨D,0,none⟩ 1 1 (m.on c.s.ch).cells rfl (by rw[R]) ?c1 ?c2 ?c3 ?c4 ?c5 ?_) | (with_reducible first|(first|refine' qw1 (qh ?_) ?_|refine' qw2 (qh ?_) ?_|refine' qw3 (qh ?_) ?_);rotate_left|refine' qw4 (qh ?_)|refine' qw5 (qh ?_)|rfl|apply qn))
 case c1=>exact World.news_of_block (cs:=(m.on c.s.ch).cells.toArray) (fr:=(0,0)) a5
 case c2=>exact MsgV.one _
 case c3=>unfold maxLen;omega
 case c4=>have:=Nat.mul_le_mul (show c.news.length+1≤1000000 by omega) d5;omega
 case c5=>omega
 intro J V j b3 _ l
 obtain⟨a',e8,b4⟩:=qv j
 have y:=fun k (e:nv.ownBlock=some k)=>(qa Y).inN k e
 rw[←c8] at b3 l
 have W:Upd (fun k=>nv.ownBlock=some k) wC V:=(Upd.refl _ _).grown b3 (fun k f _=>f)
 have a9:¬(nv.ownBlock=some g):=fun e=>by
  obtain⟨Z,P⟩:=qw (qa Y).news g e
  exact za (qa Y).at_ P (by decide) rfl
 have q:=(qa H0).lt
 have f0:=zq F
 have a6:=W.old L (fun e=>by have:=q _ (y _ e);omega)
 have a7:=W.old F (fun e=>by have:=q _ (y _ e);omega)
 have K:=W.old (qa Y).at_ a9
 have d1:=W.cell z a9
 have d2:V.frozen? ⟨g,626,none⟩=false:=qm K 626
 have HV:=qb (And.intro j (And.intro l W))
 clear j l b3 W z L F a5
 have X:Upd (· = g) V (V.setCell ⟨g,626,none⟩ J):=(Upd.refl _ _).set1 626 _
 have M:=X.old a6 (fun e=>d7 e.symm)
 have O:=X.old a7 (fun e=>c7 e.symm)
 have o:=zu K 626 J
 rw[qqg c lv nv av (qa Y).ok.s.seed (qa Y).ok.shelf (c.news++[m.on c.s.ch])] at o
 have HE:=qb (And.intro o X)
 have d0:=qb b4
 clear o X K a6 a7
 rw[b4] at M O ⊢
 have f6:=qaj M 38 (by rw[List.size_toArray,R])
 have f7:=qgw O U
 have hF:=qgr O U
 have HF:=qb hF
 clear hF b4 M
 go_wp2_with (with_reducible first|(first|refine' qw1 (qh ?_) ?_|refine' qw2 (qh ?_) ?_|refine' qw3 (qh ?_) ?_);rotate_left|refine' qw4 (qh ?_)|refine' qw5 (qh ?_)|rfl|apply qn)
 refine bodyPost_ret (results_cell_row rfl _ _ B _ _ _ _ rfl (qa HF) Tryz.underlying30 rfl (by rw[List.size_toArray,R];exact Tryz.infoMsg)) rfl ?_
 have e0:=qa d0
 obtain⟨j,l,W⟩:=qa HV
 obtain⟨o,X⟩:=qa HE
 rw[←e0]
 have h:=qa H0
 have hC:=qa Y
 have uF:Upd (· = B) (V.setCell ⟨g,626,none⟩ J) ((V.setCell ⟨g,626,none⟩ J).setCells B 0 (m.on c.s.ch).cells):=(Upd.refl _ _).setCells 0 _
 have f8:=b5.size
 refine⟨rfl,?_,(((b5.mono (fun _ _ h=>h.elim)).trans (W.mono (fun k _ e=>y k e))).trans (X.mono (fun k _ e=>by rw[e];exact h.inG))).then uF (fun i hi e=>by omega)⟩
 have e7:V.heap.size≤((V.setCell ⟨g,626,none⟩ J).setCells B 0 (m.on c.s.ch).cells).heap.size:=Nat.le_trans X.size uF.size
 generalize (V.setCell ⟨g,626,none⟩ J).setCells B 0 (m.on c.s.ch).cells=wF at uF e7 ⊢
 generalize V.setCell ⟨g,626,none⟩ J=wE at X uF o
 have c9:∀k,J.ownBlock=some k→k<V.heap.size:=fun k f=>by
  obtain⟨Z,P⟩:=qw j k f
  exact zq P
 have d9:∀k,J.ownBlock=some k→k≠B:=by
  intro k f
  rcases l with e | e
  ·rw[e] at f
   have:=q k (y k f)
   omega
  ·rw[e] at f
   injection f with f
   omega
 have e2:∀k,J.ownBlock=some k→k≠g:=by
  intro k f
  rcases l with e | e
  ·rw[e] at f
   rintro rfl
   exact a9 f
  ·rw[e] at f
   injection f with f
   have:=zq hC.at_
   omega
 have a8:∀ {T:TypeId} {v:Value} {n:Nat} {xs:List Value},wC.ownsRow 0 T 38 v n xs→(∀k,v.ownBlock=some k→S k)→(∀k,v.ownBlock=some k→k≠g)→(∀k,v.ownBlock=some k→nv.ownBlock≠some k)→wF.ownsRow 0 T 38 v n xs:=by
  intro T v n xs hr hs h1 h2
  exact qq (qq (qq hr W (fun k f e=>h2 k f e)) X (fun k f e=>h1 k f e)) uF (fun k f e=>by have:=q k (hs k f);omega)
 refine⟨lv,J,av,⟨uF.old o c7,⟨h.ok.s,h.ok.signed,h.ok.heard,h.ok.nextOwn,h.ok.nextTheirs,h.ok.loc,h.ok.rem,h.ok.xs,h.ok.few,h.ok.shelf,?_,h.ok.last,?_,h.ok.many.2⟩,?_,?_,?_,.inl h.inG,fun k e=> .inl (h.inL k e),?_,fun k e=> .inl (h.inA k e),?_,?_⟩⟩
 ·intro x hx
  rcases List.mem_append.1 hx with hx | hx
  ·exact h.ok.news x hx
  ·rw[List.mem_singleton.1 hx]
   exact U
 ·show (c.news++[m.on c.s.ch]).length≤1000000
  rw[List.length_append]
  simp
  omega
 ·refine a8 hC.live h.inL ?_ ?_
  ·intro k f e
   obtain⟨Z,P⟩:=qw hC.live k f
   rw[e] at P
   exact za hC.at_ P (by decide) rfl
  ·intro k f e
   obtain⟨Z,P⟩:=qw hC.live k f
   obtain⟨e9,d6⟩:=qw hC.news k e
   exact za P d6 (by decide) rfl
 ·show wF.ownsRow 0 _ 38 J (c.news++[m.on c.s.ch]).length ((c.news++[m.on c.s.ch]).flatMap MsgV.cells)
  rw[List.length_append,List.flatMap_append]
  have:[m.on c.s.ch].flatMap MsgV.cells=(m.on c.s.ch).cells:=by simp
  rw[this]
  exact qq (qq j X (fun k f e=>e2 k f e)) uF (fun k f e=>d9 k f e)
 ·refine a8 hC.last h.inA ?_ ?_
  ·intro k f e
   obtain⟨Z,P⟩:=qw hC.last k f
   rw[e] at P
   exact za hC.at_ P (by decide) rfl
  ·intro k f e
   exact h.sep k e f
 ·intro k f
  rcases l with e | e
  ·rw[e] at f
   exact .inl (h.inN k f)
  ·have:=c9 k f
   rw[e] at f
   injection f with f
   exact .inr ⟨by omega,by omega⟩
 ·intro k f e'
  rcases l with e | e
  ·rw[e] at f
   exact h.sep k f e'
  ·rw[e] at f
   injection f with f
   have:=q k (h.inA k e')
   omega
 ·rintro k (f | f)
  ·have:=q k f
   have:=W.size
   omega
  ·exact f.2
end Go.Proofs.YtjpmomdechibmaaGreatDoor
namespace Go.Proofs.YtjpmomdechibmaaGreatDoor
open Go.RowKit
theorem Tryz.infoHsh:(Tryz.prog.info? 28).map (·.size)=some 32:=by kernel_rfl
def zba(x:Value):Sem Value:=Instr.loadAt 28 x
theorem z7(x:Value):Instr.loadAt 28 x=zba x:=rfl
theorem qcp(b o:Nat)(w:World):(zba (.pointer (some ⟨b,o,none⟩))).run Tryz.prog w=match zr w b o 32 with | some A=> .ok (.agg A) w | none=>qdk Tryz.prog 28 w b o :=
 zt 28 32 _ Tryz.underlying28 rfl Tryz.infoHsh b o w
def zbm(x v:Value):Sem Unit:=Instr.storeAt 28 x v
theorem qal(x v:Value):Instr.storeAt 28 x v=zbm x v:=rfl
theorem qdl(b o:Nat)(A:Array Value)(w:World):(zbm (.pointer (some ⟨b,o,none⟩)) (.agg A)).run Tryz.prog w=if stOk w b o 32 A=true then .ok () (w.setCells b o A.toList) else qfe Tryz.prog 28 w b o A :=
 qap 28 32 Tryz.infoHsh b o A w
theorem Tryz.infoHtl:(Tryz.prog.info? 79).map (·.size)=some 35:=by kernel_rfl
def zbb(x:Value):Sem Value:=Instr.loadAt 79 x
theorem qj3(x:Value):Instr.loadAt 79 x=zbb x:=rfl
theorem qzg(b o:Nat)(w:World):(zbb (.pointer (some ⟨b,o,none⟩))).run Tryz.prog w=match zr w b o 35 with | some A=> .ok (.agg A) w | none=>qdk Tryz.prog 79 w b o :=
 zt 79 35 _ Tryz.underlying79 rfl Tryz.infoHtl b o w
def zbn(x v:Value):Sem Unit:=Instr.storeAt 79 x v
theorem qn1(x v:Value):Instr.storeAt 79 x v=zbn x v:=rfl
theorem q78(b o:Nat)(A:Array Value)(w:World):(zbn (.pointer (some ⟨b,o,none⟩)) (.agg A)).run Tryz.prog w=if stOk w b o 35 A=true then .ok () (w.setCells b o A.toList) else qfe Tryz.prog 79 w b o A :=
 qap 79 35 Tryz.infoHtl b o A w
def za0:Sem Value:=Instr.alloc 79 true (.tuple #[])
theorem qnb:Instr.alloc 79 true (.tuple #[])=za0:=rfl
theorem q4z(w:World):za0.run Tryz.prog w = .ok (.pointer (some ⟨w.heap.size,0,none⟩)) (w.alloc (.cells (zi Htlc.zero).toArray 79)):=by kernel_rfl
attribute [local go_sem ↓ high] qab qac qag qaa z7
attribute [local go_sem] qc2 qc3 qc6 qbm qnh zn qcp
set_option maxRecDepth 100000 in
set_option maxHeartbeats 1000000 in
theorem qsl(g:Nat)(c:ChanV)(w:World)(h:ChR w g c) :
  Calls Tryz.prog 54 #[.pointer (some ⟨g,0,none⟩)] w (qa5 (.agg (MsgV.cells ⟨8,c.setup.ch,0,0,zz,0,0⟩).toArray) w):=by
 go_enter Tryz.func54,Tryz.ntmps54
 go_upto_region 1 with fail
 have l:(w.alloc (.cells MsgV.zero.cells.toArray 30)).heap[w.heap.size]? = some (.cells MsgV.zero.cells.toArray 30 (0,0)):=qi _ _
 have o:qx w (w.alloc (.cells MsgV.zero.cells.toArray 30)):=(Upd.refl _ _).alloc _
 generalize w.alloc (.cells MsgV.zero.cells.toArray 30)=w1 at l o ⊢
 have x:=(h.new o).ch
 obtain⟨B,j⟩:∃B,B=w.heap.size:=⟨_,rfl⟩
 have y:w.heap.size≤B:=by omega
 rw[←j] at l ⊢
 clear j
 have v:=qgw (m:=⟨8,c.setup.ch,0,0,zz,0,0⟩) l qo
 have f:=qgr (m:=⟨8,c.setup.ch,0,0,zz,0,0⟩) l qo
 have q:=qb f
 have u:Upd (· = B) w1 (w1.setCells B 0 (MsgV.cells ⟨8,c.setup.ch,0,0,zz,0,0⟩)):=(Upd.refl _ _).setCells 0 _
 have t:=qb (o.then u (fun i z e=>by omega))
 clear h l f o u
 go_wp2_with (with_reducible first|(first|refine' tw1 (qh ?_) ?_|refine' tw2 (qh ?_) ?_);rotate_left|refine' tw3 (qh ?_)|rfl|apply tn|refine' tw4 ?_)
 refine bodyPost_ret (results_cell_row rfl _ _ B _ _ _ _ rfl (qa q) Tryz.underlying30 rfl (by rw[List.size_toArray,MsgV.len _ qo];exact Tryz.infoMsg)) rfl ?_
 exact⟨rfl,qa t⟩
def Ch.shutSaid(c:Ch):Ch:= {c with k:= {c.k with shutSaid:=true}}
theorem Ch.Ok.shutSaid{c:Ch}(h:c.Ok):c.shutSaid.Ok:=⟨h.s,h.signed,h.heard,h.nextOwn,h.nextTheirs,h.loc,h.rem,h.xs,h.few,h.shelf,h.news,h.last,h.many⟩
def qbp(ch:Int):MsgV:=⟨8,ch,0,0,zz,0,0⟩
def Ch.shut(c:Ch):Ch × MsgV × Int:=if c.k.shutSaid then (c,MsgV.zero,4) else (c.shutSaid,qbp c.s.ch,0)
set_option maxRecDepth 100000 in
set_option maxHeartbeats 1000000 in
theorem q72(g:Nat)(S:Nat→Prop)(c:Ch)(w:World)(h:ChS w g S c) :
  Calls Tryz.prog 34 #[.pointer (some ⟨g,0,none⟩)] w fun e w'=>e = .returned (.tuple #[.agg c.shut.2.1.cells.toArray,.int .i64 c.shut.2.2])∧ChS w' g (Fr S w w') c.shut.1∧Upd S w w':=by
 obtain⟨X,nv,W,h⟩:=h
 go_enter Tryz.func34,Tryz.ntmps34
 go_upto_region 1 with fail
 have q:(w.alloc (.cells MsgV.zero.cells.toArray 30)).heap[w.heap.size]? = some (.cells MsgV.zero.cells.toArray 30 (0,0)):=qi _ _
 have z:qx w (w.alloc (.cells MsgV.zero.cells.toArray 30)):=(Upd.refl _ _).alloc _
 generalize w.alloc (.cells MsgV.zero.cells.toArray 30)=w1 at q z ⊢
 have l:=h.new z
 obtain⟨B,C⟩:∃B,B=w.heap.size:=⟨_,rfl⟩
 have hB:w.heap.size≤B:=by omega
 rw[←C] at q ⊢
 clear C
 have M:g≠B:=by have:=h.lt g h.inG;omega
 have o:w1.cell? ⟨g,42,none⟩=some (.bool c.k.shutSaid):=l.toR.shutSaid
 have K:w1.frozen? ⟨g,42,none⟩=false:=qm l.at_ 42
 cases D:c.k.shutSaid with
 | true =>
  rw[D] at o
  have e:c.shut=(c,MsgV.zero,4):=by unfold Ch.shut;rw[if_pos D]
  have O:=qgw (m:=MsgV.zero) q qo
  have f:=qgr (m:=MsgV.zero) q qo
  have I:=qb f
  have u:Upd (· = B) w1 (w1.setCells B 0 MsgV.zero.cells):=(Upd.refl _ _).setCells 0 _
  have HU:=qb u
  have J:=qb (z.then u (fun i hi e=>by omega))
  have Y:=qb l
  have F:=qb e
  have HL:=qb h.lt
  clear h l q f z u e
  go_wp2_with (with_reducible first|(first|refine' tw1 (qh ?_) ?_|refine' tw2 (qh ?_) ?_);rotate_left|refine' tw3 (qh ?_)|rfl|apply tn|refine' tw4 ?_)
  refine bodyPost_ret (qu rfl _ _ B _ _ _ _ rfl (qa I) Tryz.underlying30 rfl (by rw[List.size_toArray,MsgV.len _ qo];exact Tryz.infoMsg)) rfl ?_
  rw[qa F]
  exact⟨rfl,((qa Y).upd (qa HU) (fun k N e=>by have:=qa HL k N;omega)).fr w,(qa J).mono (fun _ _ h=>h.elim)⟩
 | false =>
  rw[D] at o
  have e:c.shut=(c.shutSaid,qbp c.s.ch,0):=by unfold Ch.shut;rw[if_neg (by rw[D];decide)]
  have L:=l.put (i:=42) (x:= .bool true) (c':=c.shutSaid) (quq c X nv W l.ok.s.seed true) l.ok.shutSaid rfl rfl rfl
  have R:Upd (· = g) w1 (w1.setCell ⟨g,42,none⟩ (.bool true)):=(Upd.refl _ _).set1 42 _
  have t:=R.old q (fun e=>M e.symm)
  have F:=qb e
  have H:=qb h
  have y:Calls Tryz.prog 54 #[.pointer (some ⟨g,0,none⟩)] (w1.setCell ⟨g,42,none⟩ (.bool true)) (qa5 (.agg (qbp c.s.ch).cells.toArray) (w1.setCell ⟨g,42,none⟩ (.bool true))):=qsl g (c.shutSaid.v X nv W) _ L.toR
  have V:=qb L
  have P:Upd S w (w1.setCell ⟨g,42,none⟩ (.bool true)):=(z.mono (fun _ _ h=>h.elim)).trans (R.mono (fun k _ e=>by rw[e];exact h.inG))
  clear h l q z R e L
  go_upto_region 4 with (with_reducible first|(first|refine' tw1 (qh ?_) ?_|refine' tw2 (qh ?_) ?_);rotate_left|refine' tw3 (qh ?_)|rfl|apply tn|refine' tw4 ?_)
  clear o K
  generalize w1.setCell ⟨g,42,none⟩ (.bool true)=w2 at t y V P ⊢
  go_wp2_with (with_reducible first|(first|refine' tw1 (qh ?_) ?_|refine' tw2 (qh ?_) ?_);rotate_left|refine' tw3 (qh ?_)|rfl|apply tn|refine' tw4 ?_)
  refine y.mono ?_
  rintro e U ⟨rfl,E⟩
  have j:=E.old t (fun h=>h)
  change U.heap[B]? = _ at j
  have O:=qgw (m:=qbp c.s.ch) j qo
  have f:=qgr (m:=qbp c.s.ch) j qo
  have T:Upd (· = B) U (U.setCells B 0 (qbp c.s.ch).cells):=(Upd.refl _ _).setCells 0 _
  have I:=qb f
  have Z:=qb (((qa V).new E).upd T (fun k N e=>by have:=(qa H).lt k N;omega))
  have J:=qb ((P.trans (E.mono (fun _ _ h=>h.elim))).then T (fun i hi e=>by omega))
  clear j t f T y E P
  go_wp2_with (with_reducible first|(first|refine' tw1 (qh ?_) ?_|refine' tw2 (qh ?_) ?_);rotate_left|refine' tw3 (qh ?_)|rfl|apply tn|refine' tw4 ?_)
  refine bodyPost_ret (qu rfl _ _ B _ _ _ _ rfl (qa I) Tryz.underlying30 rfl (by rw[List.size_toArray,MsgV.len _ qo];exact Tryz.infoMsg)) rfl ?_
  rw[qa F]
  exact⟨rfl,(qa Z).fr w,qa J⟩
end Go.Proofs.YtjpmomdechibmaaGreatDoor
