/-
  Offer.
-/
import Derived.Test.YtfmkdoachjgjbaaGreatDoorMah
set_option maxRecDepth 100000
set_option maxHeartbeats 800000
set_option linter.unusedVariables false
set_option linter.unusedSimpArgs false
namespace Go.Proofs.YtfmkdoachjgjbaaGreatDoor
open Go.RowKit
attribute [local go_sem ↓ high] qz zb ze zi zl qdr qm0 qma qiw qme qgk
attribute [local go_sem] qax qay qa4 qab qx qbl qkb q7q q3t qrv qy1 qr1 qn7
def qbu(c:Ch)(n ex:Int):Int :=
 if c.k.shutSaid=true then 135 else if n=0 then 1 else if ex<1∨1073741824<ex then 131 else if 8≤qeu true c.xs then 130 else if c.loc<n then 61 else 0
def qfw(c:Ch)(n:Int)(h:Vector Int 32)(ex:Int):Live:=⟨⟨c.k.nextOwn,n,h,ex⟩,true,0,false⟩
def Ch.offered(c:Ch)(n:Int)(h:Vector Int 32)(ex:Int):Ch :=
 {c with loc:=c.loc-n,k:= {c.k with nextOwn:=IntKind.u64.wrap (c.k.nextOwn+1)},xs:=c.xs++[qfw c n h ex]}
def qi9(c:Ch)(n:Int)(h:Vector Int 32)(ex:Int):MsgV:=⟨3,0,c.k.nextOwn,n,h.toList,ex,0⟩
def Ch.offer(c:Ch)(n:Int)(h:Vector Int 32)(ex:Int):Ch × MsgV × Int :=
 if qbu c n ex=0 then ((c.offered n h ex).say (qi9 c n h ex),(qi9 c n h ex).on c.s.ch,0) else (c,MsgV.zero,qbu c n ex)
theorem qkc:∃i z b,Tryz.prog.info? 69=some i∧i.zero=some z∧i.size=38∧i.bytes=b∧z.cells.size=38∧b≤1000:=by
 obtain⟨i,z,m,v,r⟩:=qc6 Tryz.zeroLive';have f:(Tryz.prog.info? 69).map (fun i=>decide (i.bytes≤1000))=some true:=by kernel_rfl
 have q:=Tryz.infoLive;rw[m,Option.map_some,Option.some.injEq] at f q;exact⟨i,z,i.bytes,m,v,q,rfl,by rw[r];rfl,of_decide_eq_true f⟩
theorem ChP.appLive{E r:World}{g:Nat}{S:Nat→Prop}{c:Ch}{N Y R:Value}(h:ChP E g S c N Y R)(x:Live)(hx:LiveOk x)(a6:c.xs.length<1000000)(i:Value)(q:r.ownsRow 0 69 38 i (c.xs.length+1) (c.xs.flatMap qo++qo x))(V:E.grownBy r N.ownBlock)(z:i.ownBlock=N.ownBlock∨i.ownBlock=some E.heap.size) :
  ChP (r.setCell ⟨g,47,none⟩ i) g (Fr S E (r.setCell ⟨g,47,none⟩ i)) {c with xs:=c.xs++[x]} i Y R∧Upd S E (r.setCell ⟨g,47,none⟩ i):=by
 have P:Upd (fun k=>N.ownBlock=some k) E r:=(Upd.refl _ _).grown V (fun k f _=>f)
 have F:∀ {T:TypeId} {v:Value} {n:Nat} {xs:List Value},T≠126→E.ownsRow 0 T 38 v n xs→∀k,v.ownBlock=some k→k≠g:=by
  intro T v n xs hT K k f e;obtain⟨H,J⟩:=qa3 K k f;exact qbe J h.at_ hT e
 have I:=P.old h.at_ (fun e=>F (by decide) h.live g e rfl)
 have O:Upd (· = g) r (r.setCell ⟨g,47,none⟩ i):=(Upd.refl _ _).set1 47 _
 have m:=qad I 47 i
 rw[qvi c N Y R h.ok.s.seed (c.xs++[x])] at m
 have W:∀k,i.ownBlock=some k→k≠g:=by
  intro k f;rcases z with e | e
  ·rw[e] at f;exact F (by decide) h.live k f
  ·rw[e] at f;injection f with f;have:=zr h.at_;omega
 have L:∀k,i.ownBlock=some k→k<r.heap.size:=fun k f=>by
  obtain⟨H,J⟩:=qa3 q k f;exact zr J
 have hz:=P.size
 have X:=O.size
 generalize r.setCell ⟨g,47,none⟩ i=wE at O m X ⊢
 have C:∀ {v:Value} {n:Nat} {xs:List Value},E.ownsRow 0 101 38 v n xs→wE.ownsRow 0 101 38 v n xs:=by
  intro v n xs K;refine qac (qac K P (fun k f e=> ?_)) O (fun k f e=>F (by decide) K k f e);obtain⟨H,J⟩:=qa3 K k f;obtain⟨Z,U⟩:=qa3 h.live k e;exact qbe J U (by decide) rfl
 refine⟨⟨m,⟨h.ok.s,h.ok.signed,h.ok.heard,h.ok.nextOwn,h.ok.nextTheirs,h.ok.loc,h.ok.rem,?_,?_,h.ok.shelf,h.ok.news,h.ok.last,h.ok.many⟩,?_,C h.news,C h.last,.inl h.inG,?_,fun k e=> .inl (h.inN k e),fun k e=> .inl (h.inA k e),h.sep,?_⟩,(P.mono (fun k _ e=>h.inL k e)).trans (O.mono (fun k _ e=>by rw[e];exact h.inG))⟩
 ·intro y M;rcases List.mem_append.1 M with M | M
  ·exact h.ok.xs y M
  ·rw[List.mem_singleton.1 M];exact hx
 ·show (c.xs++[x]).length≤1000000;rw[List.length_append];simp;omega
 ·show wE.ownsRow 0 _ 38 i (c.xs++[x]).length ((c.xs++[x]).flatMap qo);rw[List.length_append,List.flatMap_append];have:[x].flatMap qo=qo x:=by simp
  rw[this];exact qac q O (fun k f e=>W k f e)
 ·intro k f;rcases z with e | e
  ·rw[e] at f;exact .inl (h.inL k f)
  ·have:=L k f;rw[e] at f;injection f with f;exact .inr ⟨by omega,by omega⟩
 ·rintro k (f | f)
  ·have:=h.lt k f;omega
  ·exact f.2
theorem q2c(g:Nat)(S:Nat→Prop)(c:Ch)(n:Int)(O:Vector Int 32)(ex:Int)(w:World)(h:ChS w g S c)(hn:0≤n∧n<18446744073709551616)(hx : -9223372036854775808≤ex∧ex≤9223372036854775807)(hb:∀b∈O.toList,0≤b∧b≤255)(e7:c.news.length<1000000∧c.xs.length<1000000) :
  Calls Tryz.prog 47 #[.pointer (some ⟨g,0,none⟩),.int .u64 n,.agg (O.toList.map (Value.int .u8)).toArray,.int .i64 ex] w fun e w' =>
   e = .returned (.tuple #[.agg (c.offer n O ex).2.1.cells.toArray,.int .i64 (c.offer n O ex).2.2])∧ChS w' g (Fr S w w') (c.offer n O ex).1∧Upd S w w':=by
 obtain⟨lv,nv,av,h⟩:=h
 have b5:(O.toList.map (Value.int .u8)).length=32:=by simp
 obtain⟨H,f7⟩:∃H,H=O.toList.map (Value.int .u8):=⟨_,rfl⟩
 rw[←f7] at b5 ⊢
 have g8:=qb f7
 clear f7
 go_enter Tryz.func47,Tryz.ntmps47
 go_upto_region 1 with fail
 have d2:((w.alloc (.cells H.toArray 35)).alloc (.cells MsgV.zero.cells.toArray 101)).heap[w.heap.size]? = some (.cells H.toArray 35 (0,0)):=qs (qj _ _) _
 have d3:((w.alloc (.cells H.toArray 35)).alloc (.cells MsgV.zero.cells.toArray 101)).heap[w.heap.size+1]? = some (.cells MsgV.zero.cells.toArray 101 (0,0)):=by
  have:=qj (w.alloc (.cells H.toArray 35)) (.cells MsgV.zero.cells.toArray 101);rwa [World.size_alloc] at this
 have nA:qq w ((w.alloc (.cells H.toArray 35)).alloc (.cells MsgV.zero.cells.toArray 101)):=((Upd.refl _ _).alloc _).alloc _
 generalize (w.alloc (.cells H.toArray 35)).alloc (.cells MsgV.zero.cells.toArray 101)=wA at d2 d3 nA ⊢
 obtain⟨A,h6⟩:∃A,A=w.heap.size:=⟨_,rfl⟩
 obtain⟨B,i0⟩:∃B,B=w.heap.size+1:=⟨_,rfl⟩
 rw[←i0] at d3 ⊢
 rw[←h6] at d2 ⊢
 have hA:=h.new nA
 have g2:g≠A:=by have:=h.lt g h.inG;omega
 have g3:g≠B:=by have:=h.lt g h.inG;omega
 have k6:w.heap.size≤A:=by omega
 have k7:w.heap.size≤B:=by omega
 have n5:B≠A:=by omega
 clear h6 i0
 have f1:wA.cell? ⟨g,42,none⟩=some (.bool c.k.shutSaid):=hA.toR.shutSaid
 have c7:wA.cell? ⟨g,45,none⟩=some (.int .u64 c.loc):=hA.toR.loc
 have bad:∀(W:World),qq w W→W.heap[B]? = some (.cells MsgV.zero.cells.toArray 101 (0,0)) →
   stOk W B 0 38 MsgV.zero.cells.toArray=true∧(W.setCells B 0 MsgV.zero.cells).heap[B]? = some (.cells MsgV.zero.cells.toArray 101 (0,0))∧ChS (W.setCells B 0 MsgV.zero.cells) g (Fr S w (W.setCells B 0 MsgV.zero.cells)) c∧Upd S w (W.setCells B 0 MsgV.zero.cells):=by
  intro W nW hW
  have u:Upd (· = B) W (W.setCells B 0 MsgV.zero.cells):=(Upd.refl _ _).setCells 0 _
  exact⟨qlj (m:=MsgV.zero) hW qm,qk1 (m:=MsgV.zero) hW qm,((h.new nW).upd u (fun k M e=>by have:=h.lt k M;omega)).fr w,((nW.mono (fun _ _ h=>h.elim)).then u (fun i hi e=>by omega))⟩
 have P:=qb bad
 have H0:=qb h
 have HA:=qb hA
 have NA:=qb nA
 have BA:=qb d2
 have BB:=qb d3
 clear bad h hA nA d2 d3
 by_cases e1:c.k.shutSaid=true
 ·have N:qbu c n ex=135:=by unfold qbu;rw[if_pos e1]
  rw[e1] at f1;have J:c.offer n O ex=(c,MsgV.zero,135):=by unfold Ch.offer;rw[if_neg (by rw[N];decide),N]
  have HO:=qb J;clear J N;go_upto_region 2 with fail;obtain⟨V,f,F,X⟩:=qa P wA (qa NA) (qa BB);have HF:=qb f;have HC:=qb F;have HU:=qb X;clear f F X;go_wp2_with fail;refine bodyPost_ret (qy rfl _ _ B _ _ _ _ rfl (qa HF) Tryz.underlying101 rfl (by rw[List.size_toArray,MsgV.len _ qm];exact Tryz.infoMsg)) rfl ?_;rw[qa HO];exact⟨rfl,qa HC,qa HU⟩
 have j9:c.k.shutSaid=false:=by simpa using e1
 rw[j9] at f1
 by_cases e2:n=0
 ·have N:qbu c n ex=1:=by unfold qbu;rw[if_neg e1,if_pos e2]
  have J:c.offer n O ex=(c,MsgV.zero,1):=by unfold Ch.offer;rw[if_neg (by rw[N];decide),N]
  have HO:=qb J;clear J N;go_upto_region 4 with fail;obtain⟨V,f,F,X⟩:=qa P wA (qa NA) (qa BB);have HF:=qb f;have HC:=qb F;have HU:=qb X;clear f F X;go_wp2_with fail;refine bodyPost_ret (qy rfl _ _ B _ _ _ _ rfl (qa HF) Tryz.underlying101 rfl (by rw[List.size_toArray,MsgV.len _ qm];exact Tryz.infoMsg)) rfl ?_;rw[qa HO];exact⟨rfl,qa HC,qa HU⟩
 by_cases e3:ex<1
 ·have N:qbu c n ex=131:=by unfold qbu;rw[if_neg e1,if_neg e2,if_pos (.inl e3)]
  have J:c.offer n O ex=(c,MsgV.zero,131):=by unfold Ch.offer;rw[if_neg (by rw[N];decide),N]
  have HO:=qb J;clear J N;go_upto_region 6 with fail;obtain⟨V,f,F,X⟩:=qa P wA (qa NA) (qa BB);have HF:=qb f;have HC:=qb F;have HU:=qb X;clear f F X;go_wp2_with fail;refine bodyPost_ret (qy rfl _ _ B _ _ _ _ rfl (qa HF) Tryz.underlying101 rfl (by rw[List.size_toArray,MsgV.len _ qm];exact Tryz.infoMsg)) rfl ?_;rw[qa HO];exact⟨rfl,qa HC,qa HU⟩
 by_cases e4:1073741824<ex
 ·have N:qbu c n ex=131:=by unfold qbu;rw[if_neg e1,if_neg e2,if_pos (.inr e4)]
  have J:c.offer n O ex=(c,MsgV.zero,131):=by unfold Ch.offer;rw[if_neg (by rw[N];decide),N]
  have HO:=qb J;clear J N;go_upto_region 6 with fail;obtain⟨V,f,F,X⟩:=qa P wA (qa NA) (qa BB);have HF:=qb f;have HC:=qb F;have HU:=qb X;clear f F X;go_wp2_with fail;refine bodyPost_ret (qy rfl _ _ B _ _ _ _ rfl (qa HF) Tryz.underlying101 rfl (by rw[List.size_toArray,MsgV.len _ qm];exact Tryz.infoMsg)) rfl ?_;rw[qa HO];exact⟨rfl,qa HC,qa HU⟩
 have j1:=qqu g S c true wA ⟨lv,nv,av,qa HA⟩
 go_wp2_with fail
 refine j1.mono ?_
 rintro e w1 ⟨rfl,n1⟩
 have h1:=n1.cell c7 (fun h=>h)
 have d9:=(qa NA).trans n1
 have h7:=n1.old (qa BB) (fun h=>h)
 have N1:=qb d9
 have B1:=qb h7
 have M1:=qb n1
 clear c7 f1 j1 n1 d9 h7
 by_cases e5:8≤qeu true c.xs
 ·have N:qbu c n ex=130:=by unfold qbu;rw[if_neg e1,if_neg e2,if_neg (by omega),if_pos e5]
  have k0:8≤(qeu true c.xs:Int):=by omega
  have J:c.offer n O ex=(c,MsgV.zero,130):=by unfold Ch.offer;rw[if_neg (by rw[N];decide),N]
  have HO:=qb J;clear J N;go_upto_region 8 with fail;obtain⟨V,f,F,X⟩:=qa P w1 (qa N1) (qa B1);have HF:=qb f;have HC:=qb F;have HU:=qb X;clear f F X;go_wp2_with fail;refine bodyPost_ret (qy rfl _ _ B _ _ _ _ rfl (qa HF) Tryz.underlying101 rfl (by rw[List.size_toArray,MsgV.len _ qm];exact Tryz.infoMsg)) rfl ?_;rw[qa HO];exact⟨rfl,qa HC,qa HU⟩
 have k0:¬8≤(qeu true c.xs:Int):=by omega
 by_cases e6:c.loc<n
 ·have N:qbu c n ex=61:=by unfold qbu;rw[if_neg e1,if_neg e2,if_neg (by omega),if_neg e5,if_pos e6]
  have J:c.offer n O ex=(c,MsgV.zero,61):=by unfold Ch.offer;rw[if_neg (by rw[N];decide),N]
  have HO:=qb J;clear J N;go_upto_region 10 with fail;obtain⟨V,f,F,X⟩:=qa P w1 (qa N1) (qa B1);have HF:=qb f;have HC:=qb F;have HU:=qb X;clear f F X;go_wp2_with fail;refine bodyPost_ret (qy rfl _ _ B _ _ _ _ rfl (qa HF) Tryz.underlying101 rfl (by rw[List.size_toArray,MsgV.len _ qm];exact Tryz.infoMsg)) rfl ?_;rw[qa HO];exact⟨rfl,qa HC,qa HU⟩
 have N:qbu c n ex=0:=by unfold qbu;rw[if_neg e1,if_neg e2,if_neg (by omega),if_neg e5,if_neg e6]
 have J:c.offer n O ex=((c.offered n O ex).say (qi9 c n O ex),(qi9 c n O ex).on c.s.ch,0):=by unfold Ch.offer;rw[if_pos N]
 have HO:=qb J
 clear J N
 go_upto_region 11 with fail
 have c9:=(qa HA).new (qa M1)
 have f3:=(qa M1).old (qa BA) (fun h=>h)
 have a8:w1.cell? ⟨g,40,none⟩=some (.int .u64 c.k.nextOwn):=c9.toR.nextOwn
 have rA:zf w1 A 0 32=some H.toArray:=qas f3 32 (by rw[List.size_toArray,b5])
 have i1:w1.drew.cell? ⟨g,40,none⟩=some (.int .u64 c.k.nextOwn)∧zf w1.drew A 0 32=some H.toArray:=⟨a8,rA⟩
 obtain⟨K,hK⟩:∃K:List Value,K = .int .u64 c.k.nextOwn :: .int .u64 n::(H++[.int .i64 ex]):=⟨_,rfl⟩
 have b6:K.length=35:=by rw[hK];simp[b5]
 have i3:K=qk (qfw c n O ex).h:=by rw[hK,qa g8];rfl
 have nD:qq w1 (w1.alloc (.cells (qk Htlc.zero).toArray 41)).drew:=((Upd.refl _ _).alloc _).drew
 have b7:(w1.alloc (.cells (qk Htlc.zero).toArray 41)).drew.heap[w1.heap.size]? = some (.cells (qk Htlc.zero).toArray 41 (0,0)):=qj w1 _
 have i2:w.heap.size≤w1.heap.size:=(qa N1).size
 have d5:g≠w1.heap.size:=by have:=zr c9.at_;omega
 have h5:A≠w1.heap.size:=by have:=zr f3;omega
 have h9:B≠w1.heap.size:=by have:=zr (qa B1);omega
 have j6:=qb c9
 have g9:=qb i3
 have HK:=qb hK
 have a7:Hid ((w1.alloc (.cells (qk Htlc.zero).toArray 41)).drew.cell? ⟨g,40,none⟩=some (.int .u64 c.k.nextOwn)∧zf (w1.alloc (.cells (qk Htlc.zero).toArray 41)).drew A 0 32=some H.toArray):=qb ⟨nD.cell a8 (fun h=>h),qap rA nD (fun h=>h)⟩
 clear c9 f3 a8 rA i3 hK
 refine qa1 (fun w'=>w'.cell? ⟨g,40,none⟩=some (.int .u64 c.k.nextOwn)∧zf w' A 0 32=some H.toArray) [4,6] (.of [0,1,2,3,4,5,6,7,8,9,10]) (by kernel_rfl) (by kernel_rfl) i1 ?_
 simp only[Plan.of]
 go_wp2_with (with_reducible first|(first|refine' zv (qh ?_) ?_|refine' zx (qh ?_) ?_|refine' zy (qh ?_) ?_);rotate_left|refine' zz (qh ?_)|refine' qw5 (qh ?_)|rfl|apply qn)
 refine⟨qa a7,?_⟩
 obtain⟨E,hE⟩:∃E,E=w1.heap.size:=⟨_,rfl⟩
 rw[←hE] at b7 i2 d5 h5 h9 ⊢
 clear hE i1
 have f4:=nD.old ((qa M1).old (qa BA) (fun h=>h)) (fun h=>h)
 have f5:=nD.old (qa B1) (fun h=>h)
 have f9:=(qa j6).new nD
 have g5:=(qa N1).trans nD
 rw[←qa HK]
 generalize (w1.alloc (.cells (qk Htlc.zero).toArray 41)).drew=wD at b7 f4 f5 f9 g5 ⊢
 have f8:∀v∈K,v.oneCell'=true:=by rw[qa g9];exact qi2 _
 have V:stOk wD E 0 35 K.toArray=true:=qem (C:=(qk Htlc.zero).toArray) b7 (by rw[b6];rfl) f8
 have i6:(wD.setCells E 0 K).heap[E]? = some (.cells K.toArray 41 (0,0)):=by
  rw[qba b7 0 K,qcz _ _ (by rw[b6];rfl)]
 have uE:Upd (· = E) wD (wD.setCells E 0 K):=(Upd.refl _ _).setCells 0 K
 have h4:=uE.old f4 h5
 have h8:=uE.old f5 h9
 have z:=f9.upd uE (fun k M e=>by have:=(qa H0).lt k M;omega)
 have g6:qq w (wD.setCells E 0 K):=g5.then uE (fun i hi e=>by omega)
 have P3:=qb z
 have A3:=qb h4
 have B3:=qb h8
 have E3:=qb i6
 clear f4 f5 f9 g5 b7 i6 uE h4 h8 z nD h1 a7
 go_upto_region 12 with (with_reducible first|(first|refine' zv (qh ?_) ?_|refine' zx (qh ?_) ?_|refine' zy (qh ?_) ?_);rotate_left|refine' zz (qh ?_)|refine' qw5 (qh ?_)|rfl|apply qn)
 clear V
 generalize wD.setCells E 0 K=w3 at P3 A3 B3 E3 g6 ⊢
 have z:=qa P3
 have c7:w3.cell? ⟨g,45,none⟩=some (.int .u64 c.loc):=z.toR.loc
 have k4:w3.frozen? ⟨g,45,none⟩=false:=qv z.at_ 45
 have n6:=z.ok.loc
 have n7:=z.ok.nextOwn
 have m0:IntKind.u64.wrap (c.loc-n)=c.loc-n:=qgs (by omega) (by omega)
 obtain⟨c1,U⟩:∃c1:Ch,c1 = {c with loc:=c.loc-n} := ⟨_,rfl⟩
 have e8:c1.Ok:=by
  rw[U];exact⟨z.ok.s,z.ok.signed,z.ok.heard,z.ok.nextOwn,z.ok.nextTheirs,show 0≤c.loc-n∧c.loc-n<_ by omega,z.ok.rem,z.ok.xs,z.ok.few,z.ok.shelf,z.ok.news,z.ok.last,z.ok.many⟩
 have I:=z.put (i:=45) (x:= .int .u64 (c.loc-n)) (c':=c1) (by rw[U];exact qzo c lv nv av z.ok.s.seed (c.loc-n)) e8 (by rw[U]) (by rw[U]) (by rw[U])
 have u4:Upd (· = g) w3 (w3.setCell ⟨g,45,none⟩ (.int .u64 (c.loc-n))):=(Upd.refl _ _).set1 45 _
 have P4:=qb I
 have A4:=qb (u4.old (qa A3) (fun e=>g2 e.symm))
 have B4:=qb (u4.old (qa B3) (fun e=>g3 e.symm))
 have E4:=qb (u4.old (qa E3) (fun e=>d5 e.symm))
 have U4:=qb ((g6.mono (fun _ _ h=>h.elim)).trans (u4.mono (fun k _ e=>by rw[e];exact(qa H0).inG)):Upd S w _)
 clear z e8 I u4 P3 A3 B3 E3 g6
 go_upto_region 13 with (with_reducible first|(first|refine' tw1 (qh ?_) ?_|refine' tw2 (qh ?_) ?_);rotate_left|refine' tw3 (qh ?_)|rfl|apply tn|refine' tw4 ?_)
 clear c7 k4 m0
 generalize w3.setCell ⟨g,45,none⟩ (.int .u64 (c.loc-n))=w4 at P4 A4 B4 E4 U4 ⊢
 have I:=qa P4
 have l7:c1.k=c.k:=by rw[U]
 have a8:w4.cell? ⟨g,40,none⟩=some (.int .u64 c.k.nextOwn):=by rw[←l7];exact I.toR.nextOwn
 have k3:w4.frozen? ⟨g,40,none⟩=false:=qv I.at_ 40
 obtain⟨T,c8⟩:∃x,x=IntKind.u64.wrap (c.k.nextOwn+1):=⟨_,rfl⟩
 have i5:0≤T∧T<18446744073709551616:=by rw[c8,IntKind.wrap_u64];omega
 have m3:IntKind.u64.wrap (c.k.nextOwn+1)=T:=c8.symm
 obtain⟨c2,Z⟩:∃c2:Ch,c2 = {c1 with k:= {c1.k with nextOwn:=T}} := ⟨_,rfl⟩
 have e9:c2.Ok:=by
  rw[Z];exact⟨I.ok.s,I.ok.signed,I.ok.heard,i5,I.ok.nextTheirs,I.ok.loc,I.ok.rem,I.ok.xs,I.ok.few,I.ok.shelf,I.ok.news,I.ok.last,I.ok.many⟩
 have Y:=I.put (i:=40) (x:= .int .u64 T) (c':=c2) (by rw[Z];exact qvk c1 lv nv av I.ok.s.seed T) e9 (by rw[Z]) (by rw[Z]) (by rw[Z])
 have u5:Upd (· = g) w4 (w4.setCell ⟨g,40,none⟩ (.int .u64 T)):=(Upd.refl _ _).set1 40 _
 have P5:=qb Y
 have A5:=qb (u5.old (qa A4) (fun e=>g2 e.symm))
 have B5:=qb (u5.old (qa B4) (fun e=>g3 e.symm))
 have E5:=qb (u5.old (qa E4) (fun e=>d5 e.symm))
 have U5:=qb ((qa U4).trans (u5.mono (fun k _ e=>by rw[e];exact(qa H0).inG)))
 have a7:=qb U
 have g7:=qb Z
 have j5:=qb c8
 clear I e9 Y u5 P4 A4 B4 E4 U4 U Z c8
 go_upto_region 14 with (with_reducible first|(first|refine' tw1 (qh ?_) ?_|refine' tw2 (qh ?_) ?_);rotate_left|refine' tw3 (qh ?_)|rfl|apply tn|refine' tw4 ?_)
 clear a8 k3 m3
 generalize w4.setCell ⟨g,40,none⟩ (.int .u64 T)=w5 at P5 A5 B5 E5 U5 ⊢
 have Y:=qa P5
 have f2:w5.drew.cell? ⟨g,47,none⟩=some lv:=Y.toR.live
 have rE:zf w5 E 0 35=some K.toArray:=qas (qa E5) 35 (by rw[List.size_toArray,b6])
 obtain⟨L,hL⟩:∃L:List Value,L=K++([.bool true,.int .i64 0,.bool false]:List Value):=⟨_,rfl⟩
 have k9:L.length=38:=by rw[hL];simp[b6]
 have i4:L=qo (qfw c n O ex):=by rw[hL,qa g9];rfl
 have l3:∀W:World,(qti #[(0,.agg K.toArray),(1,.bool true),(2,.int .i64 0)]).run Tryz.prog W = .ok (.agg L.toArray) W:=fun W=>by rw[qy1,if_pos b6,hL]
 obtain⟨i9,z9,b9,l6,j3,m5,m6,m7,l0⟩:=qkc
 obtain⟨la,n0,i8⟩:=qaf Y.live
 have j2:c2.xs=c.xs:=by rw[qa g7,qa a7]
 have nF:qq w5 (w5.alloc (.cells L.toArray 69)).drew:=((Upd.refl _ _).alloc _).drew
 have d4:(w5.alloc (.cells L.toArray 69)).drew.heap[w5.heap.size]? = some (.cells L.toArray 69 (0,0)):=qj w5 _
 have P6:=qb (Y.new nF)
 have A6:=qb (nF.old (qa A5) (fun h=>h))
 have B6:=qb (nF.old (qa B5) (fun h=>h))
 have E6:=qb (nF.old (qa E5) (fun h=>h))
 have U6:=qb ((qa U5).trans (nF.mono (fun _ _ h=>h.elim)))
 have b3:=nF.cell f2 (fun h=>h)
 have HL:=qb hL
 have h0:=qb i4
 have j7:=qb j2
 clear Y P5 A5 B5 E5 U5 hL i4 j2
 refine qa1 (fun w'=>w'.cell? ⟨g,47,none⟩=some lv) [4] (.of [0,1,2,3,4,5,6,7,8,9,10,11]) (by kernel_rfl) (by kernel_rfl) f2 ?_
 simp only[Plan.of]
 go_wp2_with (with_reducible first|(first|refine' zv (qh ?_) ?_|refine' zx (qh ?_) ?_|refine' zy (qh ?_) ?_);rotate_left|refine' zz (qh ?_)|refine' qw5 (qh ?_)|rfl|apply qn)
 refine⟨trivial,?_⟩
 clear f2 nF rE l3
 have k8:w.heap.size≤w5.heap.size:=by
  have:=(qa U6).size;have e:(w5.alloc (.cells L.toArray 69)).drew.heap.size=w5.heap.size+1:=World.size_alloc _ _;have:=zr (qa E6);omega
 generalize (w5.alloc (.cells L.toArray 69)).drew=w6 at d4 P6 A6 B6 E6 U6 b3 ⊢
 generalize w5.heap.size=D at d4 k8 ⊢
 have R:=(qa P6).live
 unfold qrm at R
 rw[i8] at R
 have HN:=qb R
 clear R
 have l5:c2.xs.length<1000000:=by rw[qa j7];exact e7.2
 go_wp2_with (first | (at_builtin;refine wpList_append_own_at _ rfl (.tmp 76) (.tmp 79) 46 rfl 0 69 i9 _ 38 b9 Tryz.underlying46 l6 j3 m5 m6 m7 (by decide) _ _ _ rfl (qa HN) ⟨D,0,none⟩ 1 1 L rfl (by rw[k9]) ?c1 ?c2 ?c3 ?c4 ?c5 ?_) | (with_reducible first|(first|refine' zv (qh ?_) ?_|refine' zx (qh ?_) ?_|refine' zy (qh ?_) ?_);rotate_left|refine' zz (qh ?_)|refine' qw5 (qh ?_)|rfl|apply qn))
 case c1=>exact World.news_of_block (cs:=L.toArray) (fr:=(0,0)) d4
 case c2=>rw[qa h0];exact qfc _
 case c3=>unfold maxLen;omega
 case c4=>have:=Nat.mul_le_mul (show c2.xs.length+1≤1000000 by omega) l0;omega
 case c5=>omega
 intro v' wE a6 d6 _ b8
 obtain⟨a',h3,d7⟩:=qaf a6
 rw[←i8] at d6 b8
 have m4:LiveOk (qfw c n O ex):=⟨⟨⟨(qa H0).ok.nextOwn.1,by have:=(qa H0).ok.nextOwn.2;show c.k.nextOwn≤_;omega⟩,⟨hn.1,by show n≤_;omega⟩,hb,hx⟩,⟨by show (-9223372036854775808:Int)≤0;decide,by show (0:Int)≤9223372036854775807;decide⟩⟩
 have d1:=(qa P6).appLive (qfw c n O ex) m4 l5 v' (by rw[←qa h0];exact a6) d6 b8
 have uE:Upd (fun k=>lv.ownBlock=some k) w6 wE:=(Upd.refl _ _).grown d6 (fun k M _=>M)
 have d0:=(qa H0).lt
 have l8:∀k,lv.ownBlock=some k→k<w.heap.size:=fun k M=>d0 k ((qa H0).inL k M)
 have uG:Upd (· = g) wE (wE.setCell ⟨g,47,none⟩ v'):=(Upd.refl _ _).set1 47 _
 have d8:∀ {k:Nat} {o:Obj},w.heap.size≤k→k≠g→w6.heap[k]? = some o→(wE.setCell ⟨g,47,none⟩ v').heap[k]? = some o:=fun M hg ho=>uG.old (uE.old ho (fun e=>by have:=l8 _ e;omega)) hg
 have A7:=qb (d8 k6 (fun e=>g2 e.symm) (qa A6))
 have B7:=qb (d8 k7 (fun e=>g3 e.symm) (qa B6))
 have E7:=qb (d8 i2 (fun e=>d5 e.symm) (qa E6))
 have e0:=uE.old (qa P6).at_ (fun e=>by
  obtain⟨j8,hc⟩:=qa3 (qa P6).live g e;exact qbe (qa P6).at_ hc (by decide) rfl)
 have k5:wE.frozen? ⟨g,47,none⟩=false:=qv e0 47
 have h2:wE.cell? ⟨g,47,none⟩=some lv:=uE.cell b3 (fun e=>by
  obtain⟨j8,hc⟩:=qa3 (qa P6).live g e;exact qbe (qa P6).at_ hc (by decide) rfl)
 have U7:=qb ((qa U6).trans d1.2)
 have P7:=qb d1.1
 have f0:=qb d1.2.size
 have m8:=qb (qa U6).size
 have b4:=qb (zr (qa B6))
 have n3:=qb d7
 rw[d7] at A7 B7 E7 U7 P7 f0
 clear a6 d6 b8 d1 uE uG d8 e0 b3 d4 A6 B6 E6 HN
 rw[d7]
 clear d7
 go_upto_region 15 with (with_reducible first|(first|refine' zv (qh ?_) ?_|refine' zx (qh ?_) ?_|refine' zy (qh ?_) ?_);rotate_left|refine' zz (qh ?_)|refine' qw5 (qh ?_)|rfl|apply qn)
 clear h2 k5
 generalize m2:wE.setCell ⟨g,47,none⟩ (.slice a' (c2.xs.length+1) h3)=w7 at A7 B7 E7 U7 P7 f0 ⊢
 clear m2
 have dE:w7.cell? ⟨E,0,none⟩=some (.int .u64 c.k.nextOwn):=by rw[qg (qa E7),qa HK];rfl
 have rA:zf w7 A 0 32=some H.toArray:=qas (qa A7) 32 (by rw[List.size_toArray,b5])
 obtain⟨m,hm⟩:∃m,m=qi9 c n O ex:=⟨_,rfl⟩
 have j0:m.hash.length=32:=by rw[hm];show O.toList.length=32;simp
 have l4:∀W:World,(qiv #[(0,.int .i64 3),(2,.int .u64 c.k.nextOwn),(3,.int .u64 n),(4,.agg H.toArray),(5,.int .i64 ex)]).run Tryz.prog W = .ok (.agg m.cells.toArray) W:=fun W=>by
  rw[qn7,if_pos b5,hm,qa g8];rfl
 obtain⟨c3,c0⟩:∃c3:Ch,c3=c.offered n O ex:=⟨_,rfl⟩
 have i7:({c2 with xs:=c2.xs++[qfw c n O ex]} : Ch)=c3:=by
  rw[c0,qa g7,qa a7,qa j5];rfl
 have g0:=qa P7
 rw[i7] at g0
 have c6:=qnx g (Fr S w6 w7) c3 m j0 w7 ⟨_,_,_,g0⟩ (by rw[c0];exact e7.1)
 have g1:c3.s.ch=c.s.ch:=by rw[c0];rfl
 rw[g1] at c6
 have n2:=qb g1
 have HM:=qb hm
 have j4:=qb c0
 clear g0 P7 hm c0 i7 g1
 go_wp2_with (with_reducible first|(first|refine' tw1 (qh ?_) ?_|refine' tw2 (qh ?_) ?_);rotate_left|refine' tw3 (qh ?_)|rfl|apply tn|refine' tw4 ?_)
 refine c6.mono ?_
 rintro e w8 ⟨rfl,F,u8⟩
 have f6:=u8.old (qa B7) (fun M=>by
  rcases M with M | M
  ·have:=d0 _ M;omega
  ·have:=qa b4;omega)
 have g4:(m.on c.s.ch).hash.length=32:=j0
 have V:=qlj f6 g4
 have f:=qk1 f6 g4
 have HF:=qb f
 have u9:Upd (· = B) w8 (w8.setCells B 0 (m.on c.s.ch).cells):=(Upd.refl _ _).setCells 0 _
 have HS:=qb (And.intro F (And.intro u8 u9))
 clear f6 f F u8 u9 dE rA l4 c6
 go_wp2_with (with_reducible first|(first|refine' tw1 (qh ?_) ?_|refine' tw2 (qh ?_) ?_);rotate_left|refine' tw3 (qh ?_)|rfl|apply tn|refine' tw4 ?_)
 refine bodyPost_ret (qy rfl _ _ B _ _ _ _ rfl (qa HF) Tryz.underlying101 rfl (by rw[List.size_toArray,MsgV.len _ g4];exact Tryz.infoMsg)) rfl ?_
 obtain⟨F,u8,u9⟩:=qa HS
 have m9:=qa m8
 have n8:=(qa U7).size
 have n9:=u8.size
 have j3:=u9.size
 have n4:=qa f0
 rw[qa HO,←qa HM]
 refine⟨rfl,?_,((qa U7).then u8 (fun i hi e=> ?_)).then u9 (fun i hi e=>by omega)⟩
 ·obtain⟨p,q,r,hp⟩:=F;have l9:=hp.upd u9 (fun k M e=>by
   rcases M with (M | M) | M
   ·have:=d0 k M;omega
   ·have:=qa b4;omega
   ·have:=qa b4;omega)
  refine⟨p,q,r,?_⟩;rw[←qa j4];refine l9.wider (fun k M=> ?_) (fun k M=> ?_)
  ·rcases M with (M | M) | M
   ·exact .inl M
   ·exact .inr ⟨by omega,by omega⟩
   ·exact .inr ⟨by omega,by omega⟩
  ·rcases M with M | M
   ·have:=d0 k M;omega
   ·exact M.2
 ·rcases e with e | e
  ·exact e
  ·omega
end Go.Proofs.YtfmkdoachjgjbaaGreatDoor
