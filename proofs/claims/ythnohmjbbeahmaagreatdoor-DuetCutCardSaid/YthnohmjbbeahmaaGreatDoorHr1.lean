/-
  What a message is to a hearer; hearAdd.
-/
import Derived.Test.YthnohmjbbeahmaaGreatDoorMai
set_option linter.unusedVariables false
set_option linter.unusedSimpArgs false
namespace Go.Proofs.YthnohmjbbeahmaaGreatDoor
open Go.RowKit
theorem q2q(s:Int)(H:List Value)(h:H.length=35):Tryz.prog.built 56 [(0,.agg H.toArray),(2,.int .i64 s)]=some (H++([.bool false,.int .i64 s,.bool false]:List Value)).toArray:=by
 obtain⟨i,z,l,q,g⟩:=qed Tryz.zeroLive';obtain⟨t,o,m⟩:=Tryz.placesLiv;rw[qcd l o q m];rw[qfa (P:=[]) (A:=H) (Z:=qz Htlc.zero) (R:=[.bool false,.int .i64 0,.bool false]) (off:=0) (by rw[h];rfl) rfl (by rw[h];rfl) (g.trans qqw)];rw[qc1 (P:=H++[.bool false]) (z:= .int .i64 0) (R:=[.bool false]) (off:=36) rfl (by simp[h]) rfl (by simp)];rw[Instr.fill];simp
theorem ze0(s:Int)(H:List Value)(w:World):(qy7 #[(0,.agg H.toArray),(2,.int .i64 s)]).run Tryz.prog w=if H.length=35 then .ok (.agg (H++([.bool false,.int .i64 s,.bool false]:List Value)).toArray) w else (Instr.build 56 #[(0,.agg H.toArray),(2,.int .i64 s)]).run Tryz.prog w:=by
 by_cases h:H.length=35
 ·rw[if_pos h];exact run_build w _ _ _ (q2q s H h)
 ·rw[if_neg h];rfl
attribute [local go_sem ↓ high] qcf qeb qg9 qii qab qil qqn qps qpu qpx
attribute [local go_sem] qgl qkr qq2 qww zb qcr qxu zd6 zad q2k
structure MsgOk(m:MsgV):Prop where
 kind : -9223372036854775808≤m.kind∧m.kind≤9223372036854775807
 ch:0≤m.ch∧m.ch<4294967296
 id:0≤m.id∧m.id<18446744073709551616
 amount:0≤m.amount∧m.amount<18446744073709551616
 len:m.hash.length=32
 hash:∀b∈m.hash,0≤b∧b≤255
 expiry : -9223372036854775808≤m.expiry∧m.expiry≤9223372036854775807
 number : -9223372036854775808≤m.number∧m.number≤9223372036854775807
def qcl(l:List Int):Vector Int 32:=if h:l.length=32 then ⟨l.toArray,by simpa using h⟩ else Vector.replicate 32 0
theorem qeh{l:List Int}(h:l.length=32):(qcl l).toList=l:=by
 unfold qcl;rw[dif_pos h];rfl
theorem qx0(m:MsgV){w:World}{b:Nat}{T:TypeId}{l:Nat × Nat}(h:w.heap[b]? = some (.cells m.cells.toArray T l))(i:m.hash.length=32) :
  w.cell? ⟨b,0,none⟩=some (.int .i64 m.kind)∧w.cell? ⟨b,1,none⟩=some (.int .u32 m.ch)∧w.cell? ⟨b,2,none⟩=some (.int .u64 m.id)∧w.cell? ⟨b,3,none⟩=some (.int .u64 m.amount)∧w.cell? ⟨b,36,none⟩=some (.int .i64 m.expiry)∧w.cell? ⟨b,37,none⟩=some (.int .i64 m.number)∧zu w b 4 32=some (m.hash.map (Value.int .u8)).toArray:=by
 have g:∀j,m.cells[36+j]? = ([.int .i64 m.expiry,.int .i64 m.number]:List Value)[j]? := by
  intro j;unfold MsgV.cells;rw[show 36+j=(32+j)+4 by omega];simp only[List.getElem?_cons_succ];rw[List.getElem?_append_right (by simp[i]),List.length_map,i,Nat.add_sub_cancel_left]
 refine⟨qh h 0,qh h 1,qh h 2,qh h 3,?_,?_,?_⟩
 ·rw[qh h 36,List.getElem?_toArray];exact g 0
 ·rw[qh h 37,List.getElem?_toArray];exact g 1
 ·rw[qbv h 4 32 (by rw[List.size_toArray,m.len i];omega)];congr 1;apply Array.ext';rw[Array.toList_extract];unfold MsgV.cells;simp[i]
def qav(c:Ch)(m:MsgV):Int :=
 if c.k.shutHeard=true then 135 else if m.amount=0 then 1 else if m.id≠c.k.nextTheirs then 1 else if m.expiry=0 then 131 else if 8≤qdh false c.xs then 130 else if c.rem<m.amount then 61 else 0
def qel(m:MsgV):Live:=⟨⟨m.id,m.amount,qcl m.hash,m.expiry⟩,false,0,false⟩
def Ch.added(c:Ch)(m:MsgV):Ch:= {c with rem:=c.rem-m.amount,k:= {c.k with nextTheirs:=IntKind.u64.wrap (c.k.nextTheirs+1)},xs:=c.xs++[qel m]}
def Ch.hearAdd(c:Ch)(m:MsgV):Ch × Int:=if qav c m=0 then (c.added m,0) else (c,qav c m)
set_option maxRecDepth 100000 in
set_option maxHeartbeats 800000 in
theorem qz9(g:Nat)(S:Nat→Prop)(c:Ch)(m:MsgV)(Y:MsgOk m)(w:World)(h:ChS w g S c)(f8:c.xs.length<1000000) :
  Calls Tryz.prog 81 #[.pointer (some ⟨g,0,none⟩),.agg m.cells.toArray] w fun e w' =>
   e = .returned (.tuple #[qcg,.int .i64 (c.hearAdd m).2])∧ChS w' g (Fr S w w') (c.hearAdd m).1∧Upd S w w':=by
 obtain⟨lv,nv,av,h⟩:=h
 go_enter Tryz.func81,Tryz.ntmps81
 go_upto_region 1 with fail
 have a7:(w.alloc (.cells m.cells.toArray 71)).heap[w.heap.size]? = some (.cells m.cells.toArray 71 (0,0)):=qi _ _
 have nA:qq w (w.alloc (.cells m.cells.toArray 71)):=(Upd.refl _ _).alloc _
 generalize w.alloc (.cells m.cells.toArray 71)=wA at a7 nA ⊢
 obtain⟨A,f4⟩:∃A,A=w.heap.size:=⟨_,rfl⟩
 rw[←f4] at a7 ⊢
 have hA:=h.new nA
 have i3:g≠A:=by have:=h.lt g h.inG;omega
 have k3:w.heap.size≤A:=by omega
 clear f4
 have d2:wA.cell? ⟨g,43,none⟩=some (.bool c.k.shutHeard):=hA.toR.shutHeard
 have d1:wA.cell? ⟨g,41,none⟩=some (.int .u64 c.k.nextTheirs):=hA.toR.nextTheirs
 have b4:wA.cell? ⟨g,46,none⟩=some (.int .u64 c.rem):=hA.toR.rem
 obtain⟨m0,m1,m2,m3,b8,e0,m4⟩:=qx0 m a7 Y.len
 have bad:∀W,qq w W→qav c m≠0→ChS W g (Fr S w W) (c.hearAdd m).1∧(c.hearAdd m).2=qav c m∧Upd S w W:=by
  intro W nW z;unfold Ch.hearAdd;rw[if_neg z];exact⟨(h.new nW).fr w,rfl,nW.mono (fun _ _ h=>h.elim)⟩
 have t:=qb bad
 have H0:=qb h
 have HA:=qb hA
 have NA:=qb nA
 have BA:=qb a7
 clear bad h hA nA a7 m0 m1 e0 m4
 by_cases M:c.k.shutHeard=true
 ·have z:qav c m=135:=by unfold qav;rw[if_pos M]
  rw[M] at d2;have H:=qb z;clear z M;go_wp2_with (with_reducible first|(first|refine' zi (qg ?_) ?_|refine' zj (qg ?_) ?_);rotate_left|refine' zk (qg ?_)|rfl|apply tn|refine' zl ?_);go_ret2;obtain⟨b1,b2,Z⟩:=qa t wA (qa NA) (by rw[qa H];decide);exact⟨by rw[b2,qa H];rfl,b1,Z⟩
 have N:c.k.shutHeard=false:=by simpa using M
 rw[N] at d2
 by_cases T:m.amount=0
 ·have z:qav c m=1:=by unfold qav;rw[if_neg M,if_pos T]
  rw[T] at m3;have H:=qb z;clear z M N;go_wp2_with (with_reducible first|(first|refine' zi (qg ?_) ?_|refine' zj (qg ?_) ?_);rotate_left|refine' zk (qg ?_)|rfl|apply tn|refine' zl ?_);go_ret2;obtain⟨b1,b2,Z⟩:=qa t _ ((qa NA).drewN 1) (by rw[qa H];decide);exact⟨by rw[b2,qa H];rfl,b1,Z⟩
 have k0:(m.amount==0)=false:=by simpa using T
 by_cases U:m.id≠c.k.nextTheirs
 ·have z:qav c m=1:=by unfold qav;rw[if_neg M,if_neg T,if_pos U]
  have g9:(m.id != c.k.nextTheirs)=true:=by simpa using U
  have H:=qb z;clear z M N T U;go_wp2_with (with_reducible first|(first|refine' zi (qg ?_) ?_|refine' zj (qg ?_) ?_);rotate_left|refine' zk (qg ?_)|rfl|apply tn|refine' zl ?_);go_ret2;obtain⟨b1,b2,Z⟩:=qa t _ ((qa NA).drewN 1) (by rw[qa H];decide);exact⟨by rw[b2,qa H];rfl,b1,Z⟩
 have g9:(m.id != c.k.nextTheirs)=false:=by simpa using U
 by_cases e4:m.expiry=0
 ·have z:qav c m=131:=by unfold qav;rw[if_neg M,if_neg T,if_neg U,if_pos e4]
  rw[e4] at b8;have H:=qb z;clear z M N T U;go_wp2_with (with_reducible first|(first|refine' zi (qg ?_) ?_|refine' zj (qg ?_) ?_);rotate_left|refine' zk (qg ?_)|rfl|apply tn|refine' zl ?_);go_ret2;obtain⟨b1,b2,Z⟩:=qa t _ ((qa NA).drewN 1) (by rw[qa H];decide);exact⟨by rw[b2,qa H];rfl,b1,Z⟩
 have k1:(m.expiry==0)=false:=by simpa using e4
 have g1:=fun(W:World) (q:Q wA W)=>qvm g S c false W ⟨lv,nv,av,(qa HA).upd (q.upd (fun _=>False)) (fun _ _ h=>h)⟩
 have f1:=qb g1
 clear g1
 go_wp2_with (with_reducible first|(first|refine' zi (qg ?_) ?_|refine' zj (qg ?_) ?_);rotate_left|refine' zk (qg ?_)|rfl|apply tn|refine' zl ?_)
 refine(qa f1 _ ((Q.refl _).drewN' 1)).mono ?_
 rintro e w1 ⟨rfl,g4⟩
 have n1:qq wA w1:=g4.ofDrew
 have f2:=n1.cell b4 (fun h=>h)
 have j6:=n1.cell m3 (fun h=>h)
 have c7:=(qa NA).trans n1
 have f3:=n1.old (qa BA) (fun h=>h)
 have V:=(qa HA).new n1
 have N1:=qb c7
 have A1:=qb f3
 have P1:=qb V
 clear b4 d1 d2 m3 m2 b8 f1 n1 g4 c7 f3 V
 by_cases e5:8≤qdh false c.xs
 ·have z:qav c m=130:=by unfold qav;rw[if_neg M,if_neg T,if_neg U,if_neg e4,if_pos e5]
  have h0:8≤(qdh false c.xs:Int):=by omega
  have H:=qb z;clear z M N T U;go_wp2_with (with_reducible first|(first|refine' zi (qg ?_) ?_|refine' zj (qg ?_) ?_);rotate_left|refine' zk (qg ?_)|rfl|apply tn|refine' zl ?_);go_ret2;obtain⟨b1,b2,Z⟩:=qa t _ (qa N1) (by rw[qa H];decide);exact⟨by rw[b2,qa H];rfl,b1,Z⟩
 have h0:¬8≤(qdh false c.xs:Int):=by omega
 by_cases e6:c.rem<m.amount
 ·have z:qav c m=61:=by unfold qav;rw[if_neg M,if_neg T,if_neg U,if_neg e4,if_neg e5,if_pos e6]
  have H:=qb z;clear z M N T U;go_wp2_with (with_reducible first|(first|refine' zi (qg ?_) ?_|refine' zj (qg ?_) ?_);rotate_left|refine' zk (qg ?_)|rfl|apply tn|refine' zl ?_);go_ret2;obtain⟨b1,b2,Z⟩:=qa t _ ((qa N1).drewN 1) (by rw[qa H];decide);exact⟨by rw[b2,qa H];rfl,b1,Z⟩
 have z:qav c m=0:=by unfold qav;rw[if_neg M,if_neg T,if_neg U,if_neg e4,if_neg e5,if_neg e6]
 have g2:c.hearAdd m=(c.added m,0):=by unfold Ch.hearAdd;rw[if_pos z]
 have HO:=qb g2
 have f9:m.id=c.k.nextTheirs:=by simpa using U
 clear g2 z M N T U t
 go_upto_region 11 with (with_reducible first|(first|refine' zi (qg ?_) ?_|refine' zj (qg ?_) ?_);rotate_left|refine' zk (qg ?_)|rfl|apply tn|refine' zl ?_)
 have nd:qq w1 w1.drew:=(Upd.refl _ _).drew
 have N2:=qb ((qa N1).trans nd)
 have A2:=qb (nd.old (qa A1) (fun h=>h))
 have P2:=qb ((qa P1).new nd)
 clear f2 j6 N1 A1 P1 nd
 generalize w1.drew=y at N2 A2 P2 ⊢
 obtain⟨m0,m1,m2,m3,b8,e0,m4⟩:=qx0 m (w:=y) (qa A2) Y.len
 rw[f9] at m2
 clear m0 m1 e0
 have a9:=qa A2
 have V:=qa P2
 obtain⟨K,hK⟩:∃K:List Value,K = .int .u64 c.k.nextTheirs :: .int .u64 m.amount::(m.hash.map (Value.int .u8)++[.int .i64 m.expiry]):=⟨_,rfl⟩
 have a5:K.length=35:=by rw[hK];simp[Y.len]
 have d4:K=qz (qel m).h:=by
  rw[hK,←f9];show _=Value.int .u64 m.id :: .int .u64 m.amount::((qcl m.hash).toList.map (Value.int .u8)++[.int .i64 m.expiry]);rw[qeh Y.len]
 have h6:(m.hash.map (Value.int .u8)).length=32:=by simp[Y.len]
 have i0:∀W:World,(zak #[(0,.int .u64 c.k.nextTheirs),(1,.int .u64 m.amount),(2,.agg (m.hash.map (Value.int .u8)).toArray),(3,.int .i64 m.expiry)]).run Tryz.prog W = .ok (.agg K.toArray) W:=fun W=>by
  rw[q2k,if_pos h6,hK]
 have nD:qq y (y.alloc (.cells (qz Htlc.zero).toArray 54)):=(Upd.refl _ _).alloc _
 have d7:(y.alloc (.cells (qz Htlc.zero).toArray 54)).heap[y.heap.size]? = some (.cells (qz Htlc.zero).toArray 54 (0,0)):=qi y _
 have h5:w.heap.size≤y.heap.size:=(qa N2).size
 have d8:g≠y.heap.size:=by have:=qad V.at_;omega
 have h3:A≠y.heap.size:=by have:=qad a9;omega
 have a6:∀v∈K,v.oneCell'=true:=by rw[d4];exact qlp _
 have i6:stOk (y.alloc (.cells (qz Htlc.zero).toArray 54)) y.heap.size 0 35 K.toArray=true:=qfd (C:=(qz Htlc.zero).toArray) d7 (by rw[a5];rfl) a6
 have f7:((y.alloc (.cells (qz Htlc.zero).toArray 54)).setCells y.heap.size 0 K).heap[y.heap.size]? = some (.cells K.toArray 54 (0,0)):=by
  rw[qa4 d7 0 K,qc4 _ _ (by rw[a5];rfl)]
 have uE:Upd (· = y.heap.size) (y.alloc (.cells (qz Htlc.zero).toArray 54)) ((y.alloc (.cells (qz Htlc.zero).toArray 54)).setCells y.heap.size 0 K):=(Upd.refl _ _).setCells 0 K
 have c6:qq y ((y.alloc (.cells (qz Htlc.zero).toArray 54)).setCells y.heap.size 0 K):=nD.then uE (fun i hi e=>by omega)
 have P3:=qb (V.new c6)
 have A3:=qb (c6.old a9 (fun h=>h))
 have E3:=qb f7
 have NW:=qb ((qa N2).trans c6)
 have HK:=qb hK
 have g5:=qb d4
 clear a9 V nD d7 a6 f7 uE c6 hK d4
 go_upto_region 12 with (with_reducible first|(first|refine' zi (qg ?_) ?_|refine' zj (qg ?_) ?_);rotate_left|refine' zk (qg ?_)|rfl|apply tn|refine' zl ?_)
 clear i6 i0 m4 m2 b8 m3
 obtain⟨E,hE⟩:∃E,E=y.heap.size:=⟨_,rfl⟩
 rw[←hE] at h5 d8 h3 E3 A3 P3 NW ⊢
 generalize (y.alloc (.cells (qz Htlc.zero).toArray 54)).setCells E 0 K=w3 at P3 A3 E3 NW ⊢
 clear hE
 have o:=qa P3
 have b4:w3.cell? ⟨g,46,none⟩=some (.int .u64 c.rem):=o.toR.rem
 have h2:w3.frozen? ⟨g,46,none⟩=false:=qw o.at_ 46
 obtain⟨-,-,-,m3,-,-,-⟩:=qx0 m (qa A3) Y.len
 have k4:=o.ok.rem
 have k6:=o.ok.nextTheirs
 have k5:=Y.amount
 have i7:IntKind.u64.wrap (c.rem-m.amount)=c.rem-m.amount:=qdq (by omega) (by omega)
 obtain⟨c1,J⟩:∃c1:Ch,c1 = {c with rem:=c.rem-m.amount} := ⟨_,rfl⟩
 have c9:c1.Ok:=by
  rw[J];exact⟨o.ok.s,o.ok.signed,o.ok.heard,o.ok.nextOwn,o.ok.nextTheirs,o.ok.loc,show 0≤c.rem-m.amount∧c.rem-m.amount<_ by omega,o.ok.xs,o.ok.few,o.ok.shelf,o.ok.news,o.ok.last,o.ok.many⟩
 have l:=o.put (i:=46) (x:= .int .u64 (c.rem-m.amount)) (c':=c1) (by rw[J];exact q6d c lv nv av o.ok.s.seed (c.rem-m.amount)) c9 (by rw[J]) (by rw[J]) (by rw[J])
 have u4:Upd (· = g) w3 (w3.setCell ⟨g,46,none⟩ (.int .u64 (c.rem-m.amount))):=(Upd.refl _ _).set1 46 _
 have P4:=qb l
 have A4:=qb (u4.old (qa A3) (fun e=>i3 e.symm))
 have E4:=qb (u4.old (qa E3) (fun e=>d8 e.symm))
 have U4:=qb (((qa NW).mono (fun _ _ h=>h.elim)).trans (u4.mono (fun k _ e=>by rw[e];exact(qa H0).inG)):Upd S w _)
 clear o c9 l u4 P3 A3 E3 NW
 go_upto_region 13 with (with_reducible first|(first|refine' zi (qg ?_) ?_|refine' zj (qg ?_) ?_);rotate_left|refine' zk (qg ?_)|rfl|apply tn|refine' zl ?_)
 clear b4 h2 i7 m3
 generalize w3.setCell ⟨g,46,none⟩ (.int .u64 (c.rem-m.amount))=w4 at P4 A4 E4 U4 ⊢
 have l:=qa P4
 have i5:c1.k=c.k:=by rw[J]
 have d1:w4.cell? ⟨g,41,none⟩=some (.int .u64 c.k.nextTheirs):=by rw[←i5];exact l.toR.nextTheirs
 have h1:w4.frozen? ⟨g,41,none⟩=false:=qw l.at_ 41
 obtain⟨I,b5⟩:∃x,x=IntKind.u64.wrap (c.k.nextTheirs+1):=⟨_,rfl⟩
 have f6:0≤I∧I<18446744073709551616:=by rw[b5,IntKind.wrap_u64];omega
 have i8:IntKind.u64.wrap (c.k.nextTheirs+1)=I:=b5.symm
 obtain⟨c2,P⟩:∃c2:Ch,c2 = {c1 with k:= {c1.k with nextTheirs:=I}} := ⟨_,rfl⟩
 have d0:c2.Ok:=by
  rw[P];exact⟨l.ok.s,l.ok.signed,l.ok.heard,l.ok.nextOwn,f6,l.ok.loc,l.ok.rem,l.ok.xs,l.ok.few,l.ok.shelf,l.ok.news,l.ok.last,l.ok.many⟩
 have O:=l.put (i:=41) (x:= .int .u64 I) (c':=c2) (by rw[P];exact ql5 c1 lv nv av l.ok.s.seed I) d0 (by rw[P]) (by rw[P]) (by rw[P])
 have u5:Upd (· = g) w4 (w4.setCell ⟨g,41,none⟩ (.int .u64 I)):=(Upd.refl _ _).set1 41 _
 have P5:=qb O
 have E5:=qb (u5.old (qa E4) (fun e=>d8 e.symm))
 have U5:=qb ((qa U4).trans (u5.mono (fun k _ e=>by rw[e];exact(qa H0).inG)))
 have e8:=qb J
 have e9:=qb P
 have g6:=qb b5
 clear l d0 O u5 P4 A4 E4 U4 J P b5
 go_upto_region 14 with (with_reducible first|(first|refine' zi (qg ?_) ?_|refine' zj (qg ?_) ?_);rotate_left|refine' zk (qg ?_)|rfl|apply tn|refine' zl ?_)
 clear d1 h1 i8
 generalize w4.setCell ⟨g,41,none⟩ (.int .u64 I)=e7 at P5 E5 U5 ⊢
 have c0:qq e7 e7.drew:=(Upd.refl _ _).drew
 replace P5:=qb ((qa P5).new c0)
 replace E5:=qb (c0.old (qa E5) (fun h=>h))
 replace U5:=qb ((qa U5).trans (c0.mono (fun _ _ h=>h.elim)))
 clear c0
 generalize e7.drew=w5 at P5 E5 U5 ⊢
 have O:=qa P5
 have d3:w5.drew.cell? ⟨g,47,none⟩=some lv:=O.toR.live
 have rE:zu w5 E 0 35=some K.toArray:=qag (qa E5) 35 (by rw[List.size_toArray,a5])
 obtain⟨L,hL⟩:∃L:List Value,L=K++([.bool false,.int .i64 0,.bool false]:List Value):=⟨_,rfl⟩
 have h7:L.length=38:=by rw[hL];simp[a5]
 have f5:L=qk (qel m):=by rw[hL,qa g5];rfl
 have h9:∀W:World,(qy7 #[(0,.agg K.toArray),(2,.int .i64 0)]).run Tryz.prog W = .ok (.agg L.toArray) W:=fun W=>by rw[ze0,if_pos a5,hL]
 obtain⟨i9,z9,b9,i4,j5,j1,j2,j3,h8⟩:=qkh
 obtain⟨la,j9,g0⟩:=qaq O.live
 have g3:c2.xs=c.xs:=by rw[qa e9,qa e8]
 have nF:qq w5 (w5.alloc (.cells L.toArray 56)).drew:=((Upd.refl _ _).alloc _).drew
 have b6:(w5.alloc (.cells L.toArray 56)).drew.heap[w5.heap.size]? = some (.cells L.toArray 56 (0,0)):=qi w5 _
 have P6:=qb (O.new nF)
 have U6:=qb ((qa U5).trans (nF.mono (fun _ _ h=>h.elim)))
 have a4:=nF.cell d3 (fun h=>h)
 have h4:w.heap.size≤w5.heap.size:=by have:=qad (qa E5);omega
 have HL:=qb hL
 have f0:=qb f5
 have g7:=qb g3
 clear O P5 E5 U5 hL f5 g3
 refine qcq (fun w'=>w'.cell? ⟨g,47,none⟩=some lv) [4] (.of [0,1,2,3,4,5,6,7,8,9,10,11]) (by kernel_rfl) (by kernel_rfl) d3 ?_
 simp only[Plan.of]
 go_wp2_with (with_reducible first|(first|refine' qw1 (qg ?_) ?_|refine' qw2 (qg ?_) ?_|refine' qw3 (qg ?_) ?_);rotate_left|refine' qw4 (qg ?_)|refine' qw5 (qg ?_)|rfl|apply qn)
 refine⟨trivial,?_⟩
 clear d3 nF rE h9
 generalize (w5.alloc (.cells L.toArray 56)).drew=w6 at b6 P6 U6 a4 ⊢
 generalize w5.heap.size=D at b6 h4 ⊢
 have F:=(qa P6).live
 unfold qwo at F
 rw[g0] at F
 have HN:=qb F
 clear F
 have i2:c2.xs.length<1000000:=by rw[qa g7];exact f8
 go_wp2_with (first | (at_builtin;refine wpList_append_own_at _ rfl (.tmp 77) (.tmp 80) 51 rfl 0 56 i9 _ 38 b9 Tryz.underlying51 i4 j5 j1 j2 j3 (by decide) _ _ _ rfl (qa HN) ⟨D,0,none⟩ 1 1 L rfl (by rw[h7]) ?c1 ?c2 ?c3 ?c4 ?c5 ?_) | (with_reducible first|(first|refine' qw1 (qg ?_) ?_|refine' qw2 (qg ?_) ?_|refine' qw3 (qg ?_) ?_);rotate_left|refine' qw4 (qg ?_)|refine' qw5 (qg ?_)|rfl|apply qn))
 case c1=>exact World.news_of_block (cs:=L.toArray) (fr:=(0,0)) b6
 case c2=>rw[qa f0];exact qee _
 case c3=>unfold maxLen;omega
 case c4=>have:=Nat.mul_le_mul (show c2.xs.length+1≤1000000 by omega) h8;omega
 case c5=>omega
 intro v' wE R b7 _ a8
 obtain⟨a',j8,d9⟩:=qaq R
 rw[←g0] at b7 a8
 have j0:LiveOk (qel m):=⟨⟨⟨Y.id.1,by have:=Y.id.2;show m.id≤_;omega⟩,⟨Y.amount.1,by show m.amount≤_;omega⟩,by rw[show (qel m).h.hash=qcl m.hash from rfl,qeh Y.len];exact Y.hash,Y.expiry⟩,⟨by show (-9223372036854775808:Int)≤0;decide,by show (0:Int)≤9223372036854775807;decide⟩⟩
 have d6:=(qa P6).appLive (qel m) j0 i2 v' (by rw[←qa f0];exact R) b7 a8
 have uE:Upd (fun k=>lv.ownBlock=some k) w6 wE:=(Upd.refl _ _).grown b7 (fun k X _=>X)
 have c8:=uE.old (qa P6).at_ (fun e=>by
  obtain⟨g8,hc⟩:=qal (qa P6).live g e;exact qap (qa P6).at_ hc (by decide) rfl)
 have k2:wE.frozen? ⟨g,47,none⟩=false:=qw c8 47
 have j7:wE.cell? ⟨g,47,none⟩=some lv:=uE.cell a4 (fun e=>by
  obtain⟨g8,hc⟩:=qal (qa P6).live g e;exact qap (qa P6).at_ hc (by decide) rfl)
 have U7:=qb ((qa U6).trans d6.2)
 have P7:=qb d6.1
 have j4:=qb (qa U6).size
 rw[d9] at U7 P7
 clear R b7 a8 d6 uE c8 a4 b6 HN
 rw[d9]
 clear d9
 go_wp2_with (with_reducible first|(first|refine' qw1 (qg ?_) ?_|refine' qw2 (qg ?_) ?_|refine' qw3 (qg ?_) ?_);rotate_left|refine' qw4 (qg ?_)|refine' qw5 (qg ?_)|rfl|apply qn)
 go_ret2
 have i1:({c2 with xs:=c2.xs++[qel m]} : Ch)=c.added m:=by
  rw[qa e9,qa e8,qa g6];rfl
 have d5:=qa P7
 rw[i1] at d5
 rw[qa HO]
 refine⟨rfl,⟨_,_,_,d5.wider (fun k X=> ?_) (fun k X=> ?_)⟩,qa U7⟩
 ·have:=qa j4;rcases X with X | X
  ·exact .inl X
  ·exact .inr ⟨by omega,X.2⟩
 ·rcases X with X | X
  ·exact d5.lt k (.inl X)
  ·exact X.2
end Go.Proofs.YthnohmjbbeahmaaGreatDoor
