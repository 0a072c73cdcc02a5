/-
  many, say, shut, Shut.
-/
import Derived.Test.YtjpmomdechibmaaGreatDoorMad
import Derived.Deep.Onto
import Derived.Maps.AppendAt
import Derived.Deep.AppendLies
set_option linter.unusedVariables false
set_option linter.unusedSimpArgs false
namespace Go.Proofs.YtjpmomdechibmaaGreatDoor
open Go.RowKit
attribute [local go_sem ↓ high] qc6 qdx qgg qab qac qag qah qe0
attribute [local go_sem] qhk qjw qo7 qcy qc0 qc2 qbn qn8 qng zq
def qc8(own:Bool)(xs:List Live):Nat:=(xs.filter fun x=>x.own==own).length
set_option maxRecDepth 100000 in
set_option maxHeartbeats 2000000 in
theorem qte(g:Nat)(S:Nat→Prop)(c:Ch)(own:Bool)(w:World)(h:ChS w g S c) :
  Calls Tryz.prog 37 #[.pointer (some ⟨g,0,none⟩),.bool own] w (qa7 (.int .i64 (qc8 own c.xs)) w):=by
 obtain⟨P,nv,av,h⟩:=h
 have v:=h.toR.live
 have N:=h.ok.few
 have F:=h.toI.lives
 obtain⟨a,cap,I⟩:=qx h.live
 change w.cell? ⟨g,47,none⟩=some P at v
 change qh6 w P c.xs at F
 rw[I] at v F
 have f:∀(i:Nat) (x:Live),c.xs[i]? = some x→∃g' off,a=some ⟨g',off,none⟩∧qgd w g' off c.xs:=by
  intro i x O
  have l:=(List.getElem?_eq_some_iff.1 O).1
  rcases F with ⟨Z,k,e,T⟩ | ⟨g',off,k,e,E⟩
  ·rw[T] at l;simp at l
  ·injection e with e1
   exact⟨g',off,e1,E⟩
 clear h F
 generalize c.xs=xs at *
 have X:(xs.length:Int)≤1000000:=by omega
 go_enter Tryz.func37,Tryz.ntmps37
 go_wp2_with fail
 go_loopw [5,7,13] (fun Y _ K wr=>∃i:Nat,K = .int .i64 (i:Int)∧i≤xs.length∧Y = .int .i64 (qc8 own (xs.take i))∧qy w wr) (fun _ _ K _=>xs.length-(intOf K).toNat)
 case atStart=>exact⟨0,rfl,Nat.zero_le _,rfl,Upd.refl _ _⟩
 case round =>
  obtain⟨i,rfl,O,rfl,H⟩:=hrel
  obtain⟨t,rfl⟩:∃t:World,t=wr:=⟨_,rfl⟩
  by_cases l:i<xs.length
  ·obtain⟨x,m⟩:∃x,xs[i]? = some x:=⟨_,List.getElem?_eq_getElem l⟩
   obtain⟨g',off,rfl,E⟩:=f i x m
   have z:=(E.upd H (fun h=>h)).row m
   have V:(i:Int)<(xs.length:Int):=by omega
   have J:=qnw t x
   have q:=qnn t x
   have y:qc8 own (xs.take (i+1))=qc8 own (xs.take i)+(if x.own==own then 1 else 0):=by
    unfold qc8
    rw[List.take_add_one,m,List.filter_append,List.length_append]
    cases o:x.own==own<;>simp[o]
   have W:qc8 own (xs.take i)≤i:=by
    unfold qc8
    refine Nat.le_trans (List.length_filter_le _ _) ?_
    rw[List.length_take]
    omega
   have D:=qb y
   clear y m E f
   generalize qc8 own (xs.take i)=M at *
   go_upto_region 5 with fail
   obtain⟨o,L⟩:=q
   generalize (t.alloc (.cells (qm Live.zero).toArray 81)).setCells t.heap.size 0 (qm x)=wb at o L ⊢
   have R:wb.cell? ⟨t.heap.size,35,none⟩=some (.bool x.own):=by rw[qh o,List.getElem?_toArray];exact qhl x
   have C:=H.trans L
   have U:(M:Int)≤1000000:=by omega
   clear J z o L H
   cases o:x.own==own with
   | true =>
    rw[o] at D
    go_wp2_with fail
    go_roundw
    case rel=>exact⟨i+1,by go_num,by omega,by rw[qa D];simp,C⟩
    case measure=>simp[intOf];omega
   | false =>
    rw[o] at D
    go_wp2_with fail
    go_roundw
    case rel=>exact⟨i+1,by go_num,by omega,by rw[qa D];simp,C⟩
    case measure=>simp[intOf];omega
  ·obtain rfl:i=xs.length:=by omega
   rw[List.take_length]
   clear f
   go_wp2_with fail
   go_ret
   exact⟨rfl,H⟩
theorem qkp:∃i z b,Tryz.prog.info? 30=some i∧i.zero=some z∧i.size=38∧i.bytes=b∧z.cells.size=38∧b≤1000:=by
 obtain⟨i,z,g,o,m⟩:=qdy Tryz.zeroMsg
 have f:(Tryz.prog.info? 30).map (fun i=>decide (i.bytes≤1000))=some true:=by kernel_rfl
 have l:=Tryz.infoMsg
 rw[g,Option.map_some,Option.some.injEq] at f l
 exact⟨i,z,i.bytes,g,o,l,rfl,by rw[m];rfl,of_decide_eq_true f⟩
def MsgV.on(m:MsgV)(ch:Int):MsgV:= {m with ch:=ch}
def Ch.say(c:Ch)(m:MsgV):Ch:= {c with news:=c.news++[m.on c.s.ch]}
set_option maxRecDepth 100000 in
set_option maxHeartbeats 2000000 in
theorem qpj(g:Nat)(S:Nat→Prop)(c:Ch)(m:MsgV)(hm:m.hash.length=32)(w:World)(h:ChS w g S c)(f3:c.news.length<1000000) :
  Calls Tryz.prog 38 #[.pointer (some ⟨g,0,none⟩),.agg m.cells.toArray] w fun e w'=>e = .returned (.agg (m.on c.s.ch).cells.toArray)∧ChS w' g (Fr S w w') (c.say m)∧Upd S w w':=by
 obtain⟨lv,nv,av,h⟩:=h
 go_enter Tryz.func38,Tryz.ntmps38
 go_upto_region 1 with fail
 have J:((w.alloc (.cells m.cells.toArray 30)).alloc (.cells MsgV.zero.cells.toArray 30)).heap[w.heap.size]? = some (.cells m.cells.toArray 30 (0,0)):=zl (qi _ _) _
 have a5:((w.alloc (.cells m.cells.toArray 30)).alloc (.cells MsgV.zero.cells.toArray 30)).heap[w.heap.size+1]? = some (.cells MsgV.zero.cells.toArray 30 (0,0)):=by
  have:=qi (w.alloc (.cells m.cells.toArray 30)) (.cells MsgV.zero.cells.toArray 30)
  rwa [World.size_alloc] at this
 have nA:qy w ((w.alloc (.cells m.cells.toArray 30)).alloc (.cells MsgV.zero.cells.toArray 30)):=((Upd.refl _ _).alloc _).alloc _
 generalize (w.alloc (.cells m.cells.toArray 30)).alloc (.cells MsgV.zero.cells.toArray 30)=wA at J a5 nA ⊢
 obtain⟨A,b8⟩:∃A,A=w.heap.size:=⟨_,rfl⟩
 obtain⟨B,c6⟩:∃B,B=w.heap.size+1:=⟨_,rfl⟩
 rw[←c6] at a5 ⊢
 rw[←b8] at J ⊢
 have hA:=h.new nA
 have d8:g≠A:=by have:=h.lt g h.inG;omega
 have c8:g≠B:=by have:=h.lt g h.inG;omega
 have f5:w.heap.size≤A:=by omega
 have f6:w.heap.size≤B:=by omega
 have d4:B≠A:=by omega
 clear b8 c6
 have c0:wA.cell? ⟨g,0,none⟩=some (.int .u32 c.s.ch):=hA.toR.ch
 have e1:wA.cell? ⟨A,1,none⟩=some (.int .u32 m.ch):=qh J 1
 have f1:=qq J 1
 have uB:Upd (· = A) wA (wA.setCell ⟨A,1,none⟩ (.int .u32 c.s.ch)):=(Upd.refl _ _).set1 1 _
 have F:(wA.setCell ⟨A,1,none⟩ (.int .u32 c.s.ch)).heap[A]? = some (.cells (m.on c.s.ch).cells.toArray 30 (0,0)):=zz J 1 _
 have O:=uB.old a5 d4
 have hB:=hA.upd uB (fun k f e=>by have:=h.lt k f;omega)
 have nB:qy w (wA.setCell ⟨A,1,none⟩ (.int .u32 c.s.ch)):=nA.then uB (fun i hi e=>by omega)
 have H0:=qb h
 clear h hA J a5 nA uB
 go_upto_region 2 with fail
 clear c0 e1 f1
 generalize wA.setCell ⟨A,1,none⟩ (.int .u32 c.s.ch)=I at hB F O nB ⊢
 have E:I.drew.cell? ⟨g,626,none⟩=some nv:=by
  have e:I.drew.cell? ⟨g,626,none⟩=_:=qh hB.at_ 626
  rw[e]
  exact qqc c lv nv av hB.ok.s.seed hB.ok.shelf
 have b7:I.frozen? ⟨g,626,none⟩=false:=qq hB.at_ 626
 have V:(m.on c.s.ch).hash.length=32:=hm
 have hr:zx I A 0 38=some (m.on c.s.ch).cells.toArray:=qaq F 38 (by rw[List.size_toArray,MsgV.len _ V])
 have U:=MsgV.len _ V
 obtain⟨i9,z9,b9,d9,e7,e4,e5,e6,d6⟩:=qkp
 have HB:=qb hB
 have c7:Hid (∃cs,I.heap[g]? = some (.cells cs 92 (0,0))):=qb ⟨_,hB.at_⟩
 obtain⟨na,f4,c9⟩:=qx hB.news
 clear hB
 refine qb5 (fun w'=>w'.cell? ⟨g,626,none⟩=some nv) [4] (.of [0,1,2,3,4,5,6,7,8,9,10]) (by kernel_rfl) (by kernel_rfl) E ?_
 simp only[Plan.of]
 go_wp2_with (with_reducible first|(first|refine' qw1 (qg ?_) ?_|refine' qw2 (qg ?_) ?_|refine' qw3 (qg ?_) ?_);rotate_left|refine' qw4 (qg ?_)|refine' qw5 (qg ?_)|rfl|apply qn)
 refine⟨((Upd.refl (fun _=>False) I).alloc _).drew.cell E (fun h=>h),?_⟩
 have nC:qy I (I.alloc (.cells (m.on c.s.ch).cells.toArray 30)).drew:=((Upd.refl _ _).alloc _).drew
 have a6:(I.alloc (.cells (m.on c.s.ch).cells.toArray 30)).drew.heap[I.heap.size]? = _:=qi I (.cells (m.on c.s.ch).cells.toArray 30)
 have Z:=qb ((qa HB).new nC)
 have M:=nC.old F (fun h=>h)
 have H:=nC.old O (fun h=>h)
 have C:=nC.cell E (fun h=>h)
 have b6:=nB.trans nC
 have d5:w.heap.size≤I.heap.size:=nB.size
 clear E b7 hr HB F O nB nC c7
 generalize (I.alloc (.cells (m.on c.s.ch).cells.toArray 30)).drew=wC at a6 Z M H C b6 ⊢
 generalize I.heap.size=D at a6 d5 ⊢
 have y:=(qa Z).news
 unfold q19 at y
 rw[c9] at y
 have HN:=qb y
 clear y
 go_wp2_with (first | (at_builtin;refine wpList_append_own_at _ rfl (.tmp 15) (.tmp 17) 35 rfl 0 30 i9 _ 38 b9 Tryz.underlying35 d9 e7 e4 e5 e6 (by decide) _ _ _ rfl (qa HN) ⟨D,0,none⟩ 1 1 (m.on c.s.ch).cells rfl (by rw[U]) ?c1 ?c2 ?c3 ?c4 ?c5 ?_) | (with_reducible first|(first|refine' qw1 (qg ?_) ?_|refine' qw2 (qg ?_) ?_|refine' qw3 (qg ?_) ?_);rotate_left|refine' qw4 (qg ?_)|refine' qw5 (qg ?_)|rfl|apply qn))
 case c1=>exact World.news_of_block (cs:=(m.on c.s.ch).cells.toArray) (fr:=(0,0)) a6
 case c2=>exact MsgV.one _
 case c3=>unfold maxLen;omega
 case c4=>have:=Nat.mul_le_mul (show c.news.length+1≤1000000 by omega) d6;omega
 case c5=>omega
 intro K W l b4 _ o
 obtain⟨a',e9,b5⟩:=qx l
 have z:=fun k (e:nv.ownBlock=some k)=>(qa Z).inN k e
 rw[←c9] at b4 o
 have X:Upd (fun k=>nv.ownBlock=some k) wC W:=(Upd.refl _ _).grown b4 (fun k f _=>f)
 have b3:¬(nv.ownBlock=some g):=fun e=>by
  obtain⟨a4,R⟩:=q8 (qa Z).news g e
  exact ze (qa Z).at_ R (by decide) rfl
 have t:=(qa H0).lt
 have f2:=zw H
 have a7:=X.old M (fun e=>by have:=t _ (z _ e);omega)
 have a8:=X.old H (fun e=>by have:=t _ (z _ e);omega)
 have L:=X.old (qa Z).at_ b3
 have d2:=X.cell C b3
 have d3:W.frozen? ⟨g,626,none⟩=false:=qq L 626
 have HV:=qb (And.intro l (And.intro o X))
 clear l o b4 X C M H a6
 have Y:Upd (· = g) W (W.setCell ⟨g,626,none⟩ K):=(Upd.refl _ _).set1 626 _
 have N:=Y.old a7 (fun e=>d8 e.symm)
 have P:=Y.old a8 (fun e=>c8 e.symm)
 have q:=zz L 626 K
 rw[qrj c lv nv av (qa Z).ok.s.seed (qa Z).ok.shelf (c.news++[m.on c.s.ch])] at q
 have HE:=qb (And.intro q Y)
 have d1:=qb b5
 clear q Y L a7 a8
 rw[b5] at N P ⊢
 have f7:=qaq N 38 (by rw[List.size_toArray,U])
 have f8:=qg8 P V
 have hF:=qg3 P V
 have HF:=qb hF
 clear hF b5 N
 go_wp2_with (with_reducible first|(first|refine' qw1 (qg ?_) ?_|refine' qw2 (qg ?_) ?_|refine' qw3 (qg ?_) ?_);rotate_left|refine' qw4 (qg ?_)|refine' qw5 (qg ?_)|rfl|apply qn)
 refine bodyPost_ret (results_cell_row rfl _ _ B _ _ _ _ rfl (qa HF) Tryz.underlying30 rfl (by rw[List.size_toArray,U];exact Tryz.infoMsg)) rfl ?_
 have e2:=qa d1
 obtain⟨l,o,X⟩:=qa HV
 obtain⟨q,Y⟩:=qa HE
 rw[←e2]
 have h:=qa H0
 have hC:=qa Z
 have uF:Upd (· = B) (W.setCell ⟨g,626,none⟩ K) ((W.setCell ⟨g,626,none⟩ K).setCells B 0 (m.on c.s.ch).cells):=(Upd.refl _ _).setCells 0 _
 have f9:=b6.size
 refine⟨rfl,?_,(((b6.mono (fun _ _ h=>h.elim)).trans (X.mono (fun k _ e=>z k e))).trans (Y.mono (fun k _ e=>by rw[e];exact h.inG))).then uF (fun i hi e=>by omega)⟩
 have e8:W.heap.size≤((W.setCell ⟨g,626,none⟩ K).setCells B 0 (m.on c.s.ch).cells).heap.size:=Nat.le_trans Y.size uF.size
 generalize (W.setCell ⟨g,626,none⟩ K).setCells B 0 (m.on c.s.ch).cells=wF at uF e8 ⊢
 generalize W.setCell ⟨g,626,none⟩ K=wE at Y uF q
 have d0:∀k,K.ownBlock=some k→k<W.heap.size:=fun k f=>by
  obtain⟨a4,R⟩:=q8 l k f
  exact zw R
 have e0:∀k,K.ownBlock=some k→k≠B:=by
  intro k f
  rcases o with e | e
  ·rw[e] at f
   have:=t k (z k f)
   omega
  ·rw[e] at f
   injection f with f
   omega
 have e3:∀k,K.ownBlock=some k→k≠g:=by
  intro k f
  rcases o with e | e
  ·rw[e] at f
   rintro rfl
   exact b3 f
  ·rw[e] at f
   injection f with f
   have:=zw hC.at_
   omega
 have a9:∀ {T:TypeId} {v:Value} {n:Nat} {xs:List Value},wC.ownsRow 0 T 38 v n xs→(∀k,v.ownBlock=some k→S k)→(∀k,v.ownBlock=some k→k≠g)→(∀k,v.ownBlock=some k→nv.ownBlock≠some k)→wF.ownsRow 0 T 38 v n xs:=by
  intro T v n xs hr hs h1 h2
  exact qu (qu (qu hr X (fun k f e=>h2 k f e)) Y (fun k f e=>h1 k f e)) uF (fun k f e=>by have:=t k (hs k f);omega)
 refine⟨lv,K,av,⟨uF.old q c8,⟨h.ok.s,h.ok.signed,h.ok.heard,h.ok.nextOwn,h.ok.nextTheirs,h.ok.loc,h.ok.rem,h.ok.xs,h.ok.few,h.ok.shelf,?_,h.ok.last,?_,h.ok.many.2⟩,?_,?_,?_,.inl h.inG,fun k e=> .inl (h.inL k e),?_,fun k e=> .inl (h.inA k e),?_,?_⟩⟩
 ·intro x hx
  rcases List.mem_append.1 hx with hx | hx
  ·exact h.ok.news x hx
  ·rw[List.mem_singleton.1 hx]
   exact V
 ·show (c.news++[m.on c.s.ch]).length≤1000000
  rw[List.length_append]
  simp
  omega
 ·refine a9 hC.live h.inL ?_ ?_
  ·intro k f e
   obtain⟨a4,R⟩:=q8 hC.live k f
   rw[e] at R
   exact ze hC.at_ R (by decide) rfl
  ·intro k f e
   obtain⟨a4,R⟩:=q8 hC.live k f
   obtain⟨f0,d7⟩:=q8 hC.news k e
   exact ze R d7 (by decide) rfl
 ·show wF.ownsRow 0 _ 38 K (c.news++[m.on c.s.ch]).length ((c.news++[m.on c.s.ch]).flatMap MsgV.cells)
  rw[List.length_append,List.flatMap_append]
  have:[m.on c.s.ch].flatMap MsgV.cells=(m.on c.s.ch).cells:=by simp
  rw[this]
  exact qu (qu l Y (fun k f e=>e3 k f e)) uF (fun k f e=>e0 k f e)
 ·refine a9 hC.last h.inA ?_ ?_
  ·intro k f e
   obtain⟨a4,R⟩:=q8 hC.last k f
   rw[e] at R
   exact ze hC.at_ R (by decide) rfl
  ·intro k f e
   exact h.sep k e f
 ·intro k f
  rcases o with e | e
  ·rw[e] at f
   exact .inl (h.inN k f)
  ·have:=d0 k f
   rw[e] at f
   injection f with f
   exact .inr ⟨by omega,by omega⟩
 ·intro k f e'
  rcases o with e | e
  ·rw[e] at f
   exact h.sep k f e'
  ·rw[e] at f
   injection f with f
   have:=t k (h.inA k e')
   omega
 ·rintro k (f | f)
  ·have:=t k f
   have:=X.size
   omega
  ·exact f.2
end Go.Proofs.YtjpmomdechibmaaGreatDoor
namespace Go.Proofs.YtjpmomdechibmaaGreatDoor
open Go.RowKit
theorem Tryz.infoHsh:(Tryz.prog.info? 28).map (·.size)=some 32:=by kernel_rfl
def zc1(x:Value):Sem Value:=Instr.loadAt 28 x
theorem qaa(x:Value):Instr.loadAt 28 x=zc1 x:=rfl
theorem qcx(b o:Nat)(w:World):(zc1 (.pointer (some ⟨b,o,none⟩))).run Tryz.prog w=match zx w b o 32 with | some A=> .ok (.agg A) w | none=>qdw Tryz.prog 28 w b o :=
 zy 28 32 _ Tryz.underlying28 rfl Tryz.infoHsh b o w
def zdg(x v:Value):Sem Unit:=Instr.storeAt 28 x v
theorem qap(x v:Value):Instr.storeAt 28 x v=zdg x v:=rfl
theorem qdn(b o:Nat)(A:Array Value)(w:World):(zdg (.pointer (some ⟨b,o,none⟩)) (.agg A)).run Tryz.prog w=if stOk w b o 32 A=true then .ok () (w.setCells b o A.toList) else qfx Tryz.prog 28 w b o A :=
 qay 28 32 Tryz.infoHsh b o A w
theorem Tryz.infoHtl:(Tryz.prog.info? 79).map (·.size)=some 35:=by kernel_rfl
def zc2(x:Value):Sem Value:=Instr.loadAt 79 x
theorem qhj(x:Value):Instr.loadAt 79 x=zc2 x:=rfl
theorem qu9(b o:Nat)(w:World):(zc2 (.pointer (some ⟨b,o,none⟩))).run Tryz.prog w=match zx w b o 35 with | some A=> .ok (.agg A) w | none=>qdw Tryz.prog 79 w b o :=
 zy 79 35 _ Tryz.underlying79 rfl Tryz.infoHtl b o w
def zdh(x v:Value):Sem Unit:=Instr.storeAt 79 x v
theorem qot(x v:Value):Instr.storeAt 79 x v=zdh x v:=rfl
theorem q90(b o:Nat)(A:Array Value)(w:World):(zdh (.pointer (some ⟨b,o,none⟩)) (.agg A)).run Tryz.prog w=if stOk w b o 35 A=true then .ok () (w.setCells b o A.toList) else qfx Tryz.prog 79 w b o A :=
 qay 79 35 Tryz.infoHtl b o A w
def zcr:Sem Value:=Instr.alloc 79 true (.tuple #[])
theorem qn2:Instr.alloc 79 true (.tuple #[])=zcr:=rfl
theorem q6q(w:World):zcr.run Tryz.prog w = .ok (.pointer (some ⟨w.heap.size,0,none⟩)) (w.alloc (.cells (q9 Htlc.zero).toArray 79)):=by kernel_rfl
attribute [local go_sem ↓ high] qab qac qag qah qaa
attribute [local go_sem] qcy qc0 qc2 qbn qn8 zq qcx
set_option maxRecDepth 100000 in
set_option maxHeartbeats 1000000 in
theorem qtt(g:Nat)(c:ChanV)(w:World)(h:ChR w g c) :
  Calls Tryz.prog 54 #[.pointer (some ⟨g,0,none⟩)] w (qa7 (.agg (MsgV.cells ⟨8,c.setup.ch,0,0,qad,0,0⟩).toArray) w):=by
 go_enter Tryz.func54,Tryz.ntmps54
 go_upto_region 1 with fail
 have o:(w.alloc (.cells MsgV.zero.cells.toArray 30)).heap[w.heap.size]? = some (.cells MsgV.zero.cells.toArray 30 (0,0)):=qi _ _
 have q:qy w (w.alloc (.cells MsgV.zero.cells.toArray 30)):=(Upd.refl _ _).alloc _
 generalize w.alloc (.cells MsgV.zero.cells.toArray 30)=w1 at o q ⊢
 have y:=(h.new q).ch
 obtain⟨B,l⟩:∃B,B=w.heap.size:=⟨_,rfl⟩
 have z:w.heap.size≤B:=by omega
 rw[←l] at o ⊢
 clear l
 have x:=qg8 (m:=⟨8,c.setup.ch,0,0,qad,0,0⟩) o qo
 have f:=qg3 (m:=⟨8,c.setup.ch,0,0,qad,0,0⟩) o qo
 have t:=qb f
 have u:Upd (· = B) w1 (w1.setCells B 0 (MsgV.cells ⟨8,c.setup.ch,0,0,qad,0,0⟩)):=(Upd.refl _ _).setCells 0 _
 have v:=qb (q.then u (fun i C e=>by omega))
 clear h o f q u
 go_wp2_with (with_reducible first|(first|refine' zr (qg ?_) ?_|refine' zt (qg ?_) ?_);rotate_left|refine' zu (qg ?_)|rfl|apply tn|refine' zv ?_)
 refine bodyPost_ret (results_cell_row rfl _ _ B _ _ _ _ rfl (qa t) Tryz.underlying30 rfl (by rw[List.size_toArray,MsgV.len _ qo];exact Tryz.infoMsg)) rfl ?_
 exact⟨rfl,qa v⟩
def Ch.shutSaid(c:Ch):Ch:= {c with k:= {c.k with shutSaid:=true}}
theorem Ch.Ok.shutSaid{c:Ch}(h:c.Ok):c.shutSaid.Ok:=⟨h.s,h.signed,h.heard,h.nextOwn,h.nextTheirs,h.loc,h.rem,h.xs,h.few,h.shelf,h.news,h.last,h.many⟩
def qbx(ch:Int):MsgV:=⟨8,ch,0,0,qad,0,0⟩
def Ch.shut(c:Ch):Ch × MsgV × Int:=if c.k.shutSaid then (c,MsgV.zero,4) else (c.shutSaid,qbx c.s.ch,0)
set_option maxRecDepth 100000 in
set_option maxHeartbeats 1000000 in
theorem q9u(g:Nat)(S:Nat→Prop)(c:Ch)(w:World)(h:ChS w g S c) :
  Calls Tryz.prog 34 #[.pointer (some ⟨g,0,none⟩)] w fun e w'=>e = .returned (.tuple #[.agg c.shut.2.1.cells.toArray,.int .i64 c.shut.2.2])∧ChS w' g (Fr S w w') c.shut.1∧Upd S w w':=by
 obtain⟨Y,nv,X,h⟩:=h
 go_enter Tryz.func34,Tryz.ntmps34
 go_upto_region 1 with fail
 have t:(w.alloc (.cells MsgV.zero.cells.toArray 30)).heap[w.heap.size]? = some (.cells MsgV.zero.cells.toArray 30 (0,0)):=qi _ _
 have C:qy w (w.alloc (.cells MsgV.zero.cells.toArray 30)):=(Upd.refl _ _).alloc _
 generalize w.alloc (.cells MsgV.zero.cells.toArray 30)=w1 at t C ⊢
 have o:=h.new C
 obtain⟨B,D⟩:∃B,B=w.heap.size:=⟨_,rfl⟩
 have hB:w.heap.size≤B:=by omega
 rw[←D] at t ⊢
 clear D
 have N:g≠B:=by have:=h.lt g h.inG;omega
 have q:w1.cell? ⟨g,42,none⟩=some (.bool c.k.shutSaid):=o.toR.shutSaid
 have L:w1.frozen? ⟨g,42,none⟩=false:=qq o.at_ 42
 cases E:c.k.shutSaid with
 | true =>
  rw[E] at q
  have e:c.shut=(c,MsgV.zero,4):=by unfold Ch.shut;rw[if_pos E]
  have P:=qg8 (m:=MsgV.zero) t qo
  have f:=qg3 (m:=MsgV.zero) t qo
  have J:=qb f
  have u:Upd (· = B) w1 (w1.setCells B 0 MsgV.zero.cells):=(Upd.refl _ _).setCells 0 _
  have HU:=qb u
  have K:=qb (C.then u (fun i hi e=>by omega))
  have Z:=qb o
  have I:=qb e
  have HL:=qb h.lt
  clear h o t f C u e
  go_wp2_with (with_reducible first|(first|refine' zr (qg ?_) ?_|refine' zt (qg ?_) ?_);rotate_left|refine' zu (qg ?_)|rfl|apply tn|refine' zv ?_)
  refine bodyPost_ret (qw rfl _ _ B _ _ _ _ rfl (qa J) Tryz.underlying30 rfl (by rw[List.size_toArray,MsgV.len _ qo];exact Tryz.infoMsg)) rfl ?_
  rw[qa I]
  exact⟨rfl,((qa Z).upd (qa HU) (fun k O e=>by have:=qa HL k O;omega)).fr w,(qa K).mono (fun _ _ h=>h.elim)⟩
 | false =>
  rw[E] at q
  have e:c.shut=(c.shutSaid,qbx c.s.ch,0):=by unfold Ch.shut;rw[if_neg (by rw[E];decide)]
  have M:=o.put (i:=42) (x:= .bool true) (c':=c.shutSaid) (qvw c Y nv X o.ok.s.seed true) o.ok.shutSaid rfl rfl rfl
  have T:Upd (· = g) w1 (w1.setCell ⟨g,42,none⟩ (.bool true)):=(Upd.refl _ _).set1 42 _
  have y:=T.old t (fun e=>N e.symm)
  have I:=qb e
  have H:=qb h
  have z:Calls Tryz.prog 54 #[.pointer (some ⟨g,0,none⟩)] (w1.setCell ⟨g,42,none⟩ (.bool true)) (qa7 (.agg (qbx c.s.ch).cells.toArray) (w1.setCell ⟨g,42,none⟩ (.bool true))):=qtt g (c.shutSaid.v Y nv X) _ M.toR
  have W:=qb M
  have R:Upd S w (w1.setCell ⟨g,42,none⟩ (.bool true)):=(C.mono (fun _ _ h=>h.elim)).trans (T.mono (fun k _ e=>by rw[e];exact h.inG))
  clear h o t C T e M
  go_upto_region 4 with (with_reducible first|(first|refine' zr (qg ?_) ?_|refine' zt (qg ?_) ?_);rotate_left|refine' zu (qg ?_)|rfl|apply tn|refine' zv ?_)
  clear q L
  generalize w1.setCell ⟨g,42,none⟩ (.bool true)=w2 at y z W R ⊢
  go_wp2_with (with_reducible first|(first|refine' zr (qg ?_) ?_|refine' zt (qg ?_) ?_);rotate_left|refine' zu (qg ?_)|rfl|apply tn|refine' zv ?_)
  refine z.mono ?_
  rintro e V ⟨rfl,F⟩
  have l:=F.old y (fun h=>h)
  change V.heap[B]? = _ at l
  have P:=qg8 (m:=qbx c.s.ch) l qo
  have f:=qg3 (m:=qbx c.s.ch) l qo
  have U:Upd (· = B) V (V.setCells B 0 (qbx c.s.ch).cells):=(Upd.refl _ _).setCells 0 _
  have J:=qb f
  have H4:=qb (((qa W).new F).upd U (fun k O e=>by have:=(qa H).lt k O;omega))
  have K:=qb ((R.trans (F.mono (fun _ _ h=>h.elim))).then U (fun i hi e=>by omega))
  clear l y f U z F R
  go_wp2_with (with_reducible first|(first|refine' zr (qg ?_) ?_|refine' zt (qg ?_) ?_);rotate_left|refine' zu (qg ?_)|rfl|apply tn|refine' zv ?_)
  refine bodyPost_ret (qw rfl _ _ B _ _ _ _ rfl (qa J) Tryz.underlying30 rfl (by rw[List.size_toArray,MsgV.len _ qo];exact Tryz.infoMsg)) rfl ?_
  rw[qa I]
  exact⟨rfl,(qa H4).fr w,qa K⟩
end Go.Proofs.YtjpmomdechibmaaGreatDoor
