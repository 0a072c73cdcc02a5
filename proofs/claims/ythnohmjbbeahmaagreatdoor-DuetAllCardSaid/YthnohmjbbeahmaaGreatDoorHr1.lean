/-
  What a message is to a hearer; hearAdd.
-/
import Derived.Test.YthnohmjbbeahmaaGreatDoorMaj
set_option linter.unusedVariables false
set_option linter.unusedSimpArgs false
namespace Go.Proofs.YthnohmjbbeahmaaGreatDoor
open Go.RowKit
theorem q1b(s:Int)(H:List Value)(h:H.length=35):Tryz.prog.built 56 [(0,.agg H.toArray),(2,.int .i64 s)]=some (H++([.bool false,.int .i64 s,.bool false]:List Value)).toArray:=by
 obtain⟨i,z,l,q,g⟩:=qec Tryz.zeroLive';obtain⟨t,o,m⟩:=Tryz.placesLiv;rw[qcb l o q m];rw[qe9 (P:=[]) (A:=H) (Z:=ze Htlc.zero) (R:=[.bool false,.int .i64 0,.bool false]) (off:=0) (by rw[h];rfl) rfl (by rw[h];rfl) (g.trans qp4)];rw[qcw (P:=H++[.bool false]) (z:= .int .i64 0) (R:=[.bool false]) (off:=36) rfl (by simp[h]) rfl (by simp)];rw[Instr.fill];simp
theorem zda(s:Int)(H:List Value)(w:World):(qx0 #[(0,.agg H.toArray),(2,.int .i64 s)]).run Tryz.prog w=if H.length=35 then .ok (.agg (H++([.bool false,.int .i64 s,.bool false]:List Value)).toArray) w else (Instr.build 56 #[(0,.agg H.toArray),(2,.int .i64 s)]).run Tryz.prog w:=by
 by_cases h:H.length=35
 ·rw[if_pos h];exact run_build w _ _ _ (q1b s H h)
 ·rw[if_neg h];rfl
attribute [local go_sem ↓ high] qdf qeb qg0 qh1 zy qk7 qpx qo7 qo9 qpc
attribute [local go_sem] qh5 qj8 qp9 qvs zb qcl q2b zci q8n q05
structure MsgOk(m:MsgV):Prop where
 kind : -9223372036854775808≤m.kind∧m.kind≤9223372036854775807
 ch:0≤m.ch∧m.ch<4294967296
 id:0≤m.id∧m.id<18446744073709551616
 amount:0≤m.amount∧m.amount<18446744073709551616
 len:m.hash.length=32
 hash:∀b∈m.hash,0≤b∧b≤255
 expiry : -9223372036854775808≤m.expiry∧m.expiry≤9223372036854775807
 number : -9223372036854775808≤m.number∧m.number≤9223372036854775807
def qbm(l:List Int):Vector Int 32:=if h:l.length=32 then ⟨l.toArray,by simpa using h⟩ else Vector.replicate 32 0
theorem qdc{l:List Int}(h:l.length=32):(qbm l).toList=l:=by
 unfold qbm;rw[dif_pos h];rfl
theorem qwo(m:MsgV){w:World}{b:Nat}{T:TypeId}{l:Nat × Nat}(h:w.heap[b]? = some (.cells m.cells.toArray T l))(i:m.hash.length=32) :
  w.cell? ⟨b,0,none⟩=some (.int .i64 m.kind)∧w.cell? ⟨b,1,none⟩=some (.int .u32 m.ch)∧w.cell? ⟨b,2,none⟩=some (.int .u64 m.id)∧w.cell? ⟨b,3,none⟩=some (.int .u64 m.amount)∧w.cell? ⟨b,36,none⟩=some (.int .i64 m.expiry)∧w.cell? ⟨b,37,none⟩=some (.int .i64 m.number)∧zm w b 4 32=some (m.hash.map (Value.int .u8)).toArray:=by
 have g:∀j,m.cells[36+j]? = ([.int .i64 m.expiry,.int .i64 m.number]:List Value)[j]? := by
  intro j;unfold MsgV.cells;rw[show 36+j=(32+j)+4 by omega];simp only[List.getElem?_cons_succ];rw[List.getElem?_append_right (by simp[i]),List.length_map,i,Nat.add_sub_cancel_left]
 refine⟨qh h 0,qh h 1,qh h 2,qh h 3,?_,?_,?_⟩
 ·rw[qh h 36,List.getElem?_toArray];exact g 0
 ·rw[qh h 37,List.getElem?_toArray];exact g 1
 ·rw[qbz h 4 32 (by rw[List.size_toArray,m.len i];omega)];congr 1;apply Array.ext';rw[Array.toList_extract];unfold MsgV.cells;simp[i]
def qab(c:Ch)(m:MsgV):Int :=
 if c.k.shutHeard=true then 135 else if m.amount=0 then 1 else if m.id≠c.k.nextTheirs then 1 else if m.expiry=0 then 131 else if 8≤qdg false c.xs then 130 else if c.rem<m.amount then 61 else 0
def qel(m:MsgV):Live:=⟨⟨m.id,m.amount,qbm m.hash,m.expiry⟩,false,0,false⟩
def Ch.added(c:Ch)(m:MsgV):Ch:= {c with rem:=c.rem-m.amount,k:= {c.k with nextTheirs:=IntKind.u64.wrap (c.k.nextTheirs+1)},xs:=c.xs++[qel m]}
def Ch.hearAdd(c:Ch)(m:MsgV):Ch × Int:=if qab c m=0 then (c.added m,0) else (c,qab c m)
set_option maxRecDepth 100000 in
set_option maxHeartbeats 800000 in
theorem qyx(g:Nat)(S:Nat→Prop)(c:Ch)(m:MsgV)(Z:MsgOk m)(w:World)(h:ChS w g S c)(f8:c.xs.length<1000000) :
  Calls Tryz.prog 81 #[.pointer (some ⟨g,0,none⟩),.agg m.cells.toArray] w fun e w' =>
   e = .returned (.tuple #[qcd,.int .i64 (c.hearAdd m).2])∧ChS w' g (Fr S w w') (c.hearAdd m).1∧Upd S w w':=by
 obtain⟨lv,nv,av,h⟩:=h
 go_enter Tryz.func81,Tryz.ntmps81
 go_upto_region 1 with fail
 have a7:(w.alloc (.cells m.cells.toArray 71)).heap[w.heap.size]? = some (.cells m.cells.toArray 71 (0,0)):=qi _ _
 have nA:qu w (w.alloc (.cells m.cells.toArray 71)):=(Upd.refl _ _).alloc _
 generalize w.alloc (.cells m.cells.toArray 71)=wA at a7 nA ⊢
 obtain⟨A,f4⟩:∃A,A=w.heap.size:=⟨_,rfl⟩
 rw[←f4] at a7 ⊢
 have hA:=h.new nA
 have i5:g≠A:=by have:=h.lt g h.inG;omega
 have k5:w.heap.size≤A:=by omega
 clear f4
 have d2:wA.cell? ⟨g,43,none⟩=some (.bool c.k.shutHeard):=hA.toR.shutHeard
 have d1:wA.cell? ⟨g,41,none⟩=some (.int .u64 c.k.nextTheirs):=hA.toR.nextTheirs
 have b4:wA.cell? ⟨g,46,none⟩=some (.int .u64 c.rem):=hA.toR.rem
 obtain⟨m0,m1,m2,m3,b8,e0,m4⟩:=qwo m a7 Z.len
 have bad:∀W,qu w W→qab c m≠0→ChS W g (Fr S w W) (c.hearAdd m).1∧(c.hearAdd m).2=qab c m∧Upd S w W:=by
  intro W nW F;unfold Ch.hearAdd;rw[if_neg F];exact⟨(h.new nW).fr w,rfl,nW.mono (fun _ _ h=>h.elim)⟩
 have t:=qb bad
 have H0:=qb h
 have HA:=qb hA
 have NA:=qb nA
 have BA:=qb a7
 clear bad h hA nA a7 m0 m1 e0 m4
 by_cases N:c.k.shutHeard=true
 ·have F:qab c m=135:=by unfold qab;rw[if_pos N]
  rw[N] at d2;have I:=qb F;clear F N;go_wp2_with (with_reducible first|(first|refine' tw1 (qg ?_) ?_|refine' tw2 (qg ?_) ?_);rotate_left|refine' tw3 (qg ?_)|rfl|apply tn|refine' tw4 ?_);go_ret2;obtain⟨b1,b2,b3⟩:=qa t wA (qa NA) (by rw[qa I];decide);exact⟨by rw[b2,qa I];rfl,b1,b3⟩
 have O:c.k.shutHeard=false:=by simpa using N
 rw[O] at d2
 by_cases U:m.amount=0
 ·have F:qab c m=1:=by unfold qab;rw[if_neg N,if_pos U]
  rw[U] at m3;have I:=qb F;clear F N O;go_wp2_with (with_reducible first|(first|refine' tw1 (qg ?_) ?_|refine' tw2 (qg ?_) ?_);rotate_left|refine' tw3 (qg ?_)|rfl|apply tn|refine' tw4 ?_);go_ret2;obtain⟨b1,b2,b3⟩:=qa t _ ((qa NA).drewN 1) (by rw[qa I];decide);exact⟨by rw[b2,qa I];rfl,b1,b3⟩
 have k2:(m.amount==0)=false:=by simpa using U
 by_cases V:m.id≠c.k.nextTheirs
 ·have F:qab c m=1:=by unfold qab;rw[if_neg N,if_neg U,if_pos V]
  have g9:(m.id != c.k.nextTheirs)=true:=by simpa using V
  have I:=qb F;clear F N O U V;go_wp2_with (with_reducible first|(first|refine' tw1 (qg ?_) ?_|refine' tw2 (qg ?_) ?_);rotate_left|refine' tw3 (qg ?_)|rfl|apply tn|refine' tw4 ?_);go_ret2;obtain⟨b1,b2,b3⟩:=qa t _ ((qa NA).drewN 1) (by rw[qa I];decide);exact⟨by rw[b2,qa I];rfl,b1,b3⟩
 have g9:(m.id != c.k.nextTheirs)=false:=by simpa using V
 by_cases e4:m.expiry=0
 ·have F:qab c m=131:=by unfold qab;rw[if_neg N,if_neg U,if_neg V,if_pos e4]
  rw[e4] at b8;have I:=qb F;clear F N O U V;go_wp2_with (with_reducible first|(first|refine' tw1 (qg ?_) ?_|refine' tw2 (qg ?_) ?_);rotate_left|refine' tw3 (qg ?_)|rfl|apply tn|refine' tw4 ?_);go_ret2;obtain⟨b1,b2,b3⟩:=qa t _ ((qa NA).drewN 1) (by rw[qa I];decide);exact⟨by rw[b2,qa I];rfl,b1,b3⟩
 have k3:(m.expiry==0)=false:=by simpa using e4
 have g1:=fun(W:World) (q:Q wA W)=>qul g S c false W ⟨lv,nv,av,(qa HA).upd (q.upd (fun _=>False)) (fun _ _ h=>h)⟩
 have f1:=qb g1
 clear g1
 go_wp2_with (with_reducible first|(first|refine' tw1 (qg ?_) ?_|refine' tw2 (qg ?_) ?_);rotate_left|refine' tw3 (qg ?_)|rfl|apply tn|refine' tw4 ?_)
 refine(qa f1 _ ((Q.refl _).drewN' 1)).mono ?_
 rintro e w1 ⟨rfl,g4⟩
 have n1:qu wA w1:=g4.ofDrew
 have f2:=n1.cell b4 (fun h=>h)
 have j8:=n1.cell m3 (fun h=>h)
 have c7:=(qa NA).trans n1
 have f3:=n1.old (qa BA) (fun h=>h)
 have X:=(qa HA).new n1
 have N1:=qb c7
 have A1:=qb f3
 have P1:=qb X
 clear b4 d1 d2 m3 m2 b8 f1 n1 g4 c7 f3 X
 by_cases e5:8≤qdg false c.xs
 ·have F:qab c m=130:=by unfold qab;rw[if_neg N,if_neg U,if_neg V,if_neg e4,if_pos e5]
  have h0:8≤(qdg false c.xs:Int):=by omega
  have I:=qb F;clear F N O U V;go_wp2_with (with_reducible first|(first|refine' tw1 (qg ?_) ?_|refine' tw2 (qg ?_) ?_);rotate_left|refine' tw3 (qg ?_)|rfl|apply tn|refine' tw4 ?_);go_ret2;obtain⟨b1,b2,b3⟩:=qa t _ (qa N1) (by rw[qa I];decide);exact⟨by rw[b2,qa I];rfl,b1,b3⟩
 have h0:¬8≤(qdg false c.xs:Int):=by omega
 by_cases e6:c.rem<m.amount
 ·have F:qab c m=61:=by unfold qab;rw[if_neg N,if_neg U,if_neg V,if_neg e4,if_neg e5,if_pos e6]
  have I:=qb F;clear F N O U V;go_wp2_with (with_reducible first|(first|refine' tw1 (qg ?_) ?_|refine' tw2 (qg ?_) ?_);rotate_left|refine' tw3 (qg ?_)|rfl|apply tn|refine' tw4 ?_);go_ret2;obtain⟨b1,b2,b3⟩:=qa t _ ((qa N1).drewN 1) (by rw[qa I];decide);exact⟨by rw[b2,qa I];rfl,b1,b3⟩
 have F:qab c m=0:=by unfold qab;rw[if_neg N,if_neg U,if_neg V,if_neg e4,if_neg e5,if_neg e6]
 have g2:c.hearAdd m=(c.added m,0):=by unfold Ch.hearAdd;rw[if_pos F]
 have HO:=qb g2
 have f9:m.id=c.k.nextTheirs:=by simpa using V
 clear g2 F N O U V t
 go_upto_region 11 with (with_reducible first|(first|refine' tw1 (qg ?_) ?_|refine' tw2 (qg ?_) ?_);rotate_left|refine' tw3 (qg ?_)|rfl|apply tn|refine' tw4 ?_)
 have nd:qu w1 w1.drew:=(Upd.refl _ _).drew
 have N2:=qb ((qa N1).trans nd)
 have A2:=qb (nd.old (qa A1) (fun h=>h))
 have P2:=qb ((qa P1).new nd)
 clear f2 j8 N1 A1 P1 nd
 generalize w1.drew=z at N2 A2 P2 ⊢
 obtain⟨m0,m1,m2,m3,b8,e0,m4⟩:=qwo m (w:=z) (qa A2) Z.len
 rw[f9] at m2
 clear m0 m1 e0
 have a9:=qa A2
 have X:=qa P2
 obtain⟨K,hK⟩:∃K:List Value,K = .int .u64 c.k.nextTheirs :: .int .u64 m.amount::(m.hash.map (Value.int .u8)++[.int .i64 m.expiry]):=⟨_,rfl⟩
 have a5:K.length=35:=by rw[hK];simp[Z.len]
 have d4:K=ze (qel m).h:=by
  rw[hK,←f9];show _=Value.int .u64 m.id :: .int .u64 m.amount::((qbm m.hash).toList.map (Value.int .u8)++[.int .i64 m.expiry]);rw[qdc Z.len]
 have h6:(m.hash.map (Value.int .u8)).length=32:=by simp[Z.len]
 have i0:∀W:World,(q8u #[(0,.int .u64 c.k.nextTheirs),(1,.int .u64 m.amount),(2,.agg (m.hash.map (Value.int .u8)).toArray),(3,.int .i64 m.expiry)]).run Tryz.prog W = .ok (.agg K.toArray) W:=fun W=>by
  rw[q05,if_pos h6,hK]
 have nD:qu z (z.alloc (.cells (ze Htlc.zero).toArray 54)):=(Upd.refl _ _).alloc _
 have d7:(z.alloc (.cells (ze Htlc.zero).toArray 54)).heap[z.heap.size]? = some (.cells (ze Htlc.zero).toArray 54 (0,0)):=qi z _
 have h5:w.heap.size≤z.heap.size:=(qa N2).size
 have d8:g≠z.heap.size:=by have:=z6 X.at_;omega
 have h3:A≠z.heap.size:=by have:=z6 a9;omega
 have a6:∀v∈K,v.oneCell'=true:=by rw[d4];exact qk3 _
 have i8:stOk (z.alloc (.cells (ze Htlc.zero).toArray 54)) z.heap.size 0 35 K.toArray=true:=qfb (C:=(ze Htlc.zero).toArray) d7 (by rw[a5];rfl) a6
 have f7:((z.alloc (.cells (ze Htlc.zero).toArray 54)).setCells z.heap.size 0 K).heap[z.heap.size]? = some (.cells K.toArray 54 (0,0)):=by
  rw[qa2 d7 0 K,qcz _ _ (by rw[a5];rfl)]
 have uE:Upd (· = z.heap.size) (z.alloc (.cells (ze Htlc.zero).toArray 54)) ((z.alloc (.cells (ze Htlc.zero).toArray 54)).setCells z.heap.size 0 K):=(Upd.refl _ _).setCells 0 K
 have c6:qu z ((z.alloc (.cells (ze Htlc.zero).toArray 54)).setCells z.heap.size 0 K):=nD.then uE (fun i hi e=>by omega)
 have P3:=qb (X.new c6)
 have A3:=qb (c6.old a9 (fun h=>h))
 have E3:=qb f7
 have NW:=qb ((qa N2).trans c6)
 have HK:=qb hK
 have g5:=qb d4
 clear a9 X nD d7 a6 f7 uE c6 hK d4
 go_upto_region 12 with (with_reducible first|(first|refine' tw1 (qg ?_) ?_|refine' tw2 (qg ?_) ?_);rotate_left|refine' tw3 (qg ?_)|rfl|apply tn|refine' tw4 ?_)
 clear i8 i0 m4 m2 b8 m3
 obtain⟨E,hE⟩:∃E,E=z.heap.size:=⟨_,rfl⟩
 rw[←hE] at h5 d8 h3 E3 A3 P3 NW ⊢
 generalize (z.alloc (.cells (ze Htlc.zero).toArray 54)).setCells E 0 K=w3 at P3 A3 E3 NW ⊢
 clear hE
 have o:=qa P3
 have b4:w3.cell? ⟨g,46,none⟩=some (.int .u64 c.rem):=o.toR.rem
 have h2:w3.frozen? ⟨g,46,none⟩=false:=qv o.at_ 46
 obtain⟨-,-,-,m3,-,-,-⟩:=qwo m (qa A3) Z.len
 have k6:=o.ok.rem
 have k8:=o.ok.nextTheirs
 have k7:=Z.amount
 have j0:IntKind.u64.wrap (c.rem-m.amount)=c.rem-m.amount:=qaw (by omega) (by omega)
 obtain⟨c1,M⟩:∃c1:Ch,c1 = {c with rem:=c.rem-m.amount} := ⟨_,rfl⟩
 have c9:c1.Ok:=by
  rw[M];exact⟨o.ok.s,o.ok.signed,o.ok.heard,o.ok.nextOwn,o.ok.nextTheirs,o.ok.loc,show 0≤c.rem-m.amount∧c.rem-m.amount<_ by omega,o.ok.xs,o.ok.few,o.ok.shelf,o.ok.news,o.ok.last,o.ok.many⟩
 have l:=o.put (i:=46) (x:= .int .u64 (c.rem-m.amount)) (c':=c1) (by rw[M];exact q4w c lv nv av o.ok.s.seed (c.rem-m.amount)) c9 (by rw[M]) (by rw[M]) (by rw[M])
 have u4:Upd (· = g) w3 (w3.setCell ⟨g,46,none⟩ (.int .u64 (c.rem-m.amount))):=(Upd.refl _ _).set1 46 _
 have P4:=qb l
 have A4:=qb (u4.old (qa A3) (fun e=>i5 e.symm))
 have E4:=qb (u4.old (qa E3) (fun e=>d8 e.symm))
 have U4:=qb (((qa NW).mono (fun _ _ h=>h.elim)).trans (u4.mono (fun k _ e=>by rw[e];exact(qa H0).inG)):Upd S w _)
 clear o c9 l u4 P3 A3 E3 NW
 go_upto_region 13 with (with_reducible first|(first|refine' tw1 (qg ?_) ?_|refine' tw2 (qg ?_) ?_);rotate_left|refine' tw3 (qg ?_)|rfl|apply tn|refine' tw4 ?_)
 clear b4 h2 j0 m3
 generalize w3.setCell ⟨g,46,none⟩ (.int .u64 (c.rem-m.amount))=w4 at P4 A4 E4 U4 ⊢
 have l:=qa P4
 have i7:c1.k=c.k:=by rw[M]
 have d1:w4.cell? ⟨g,41,none⟩=some (.int .u64 c.k.nextTheirs):=by rw[←i7];exact l.toR.nextTheirs
 have h1:w4.frozen? ⟨g,41,none⟩=false:=qv l.at_ 41
 obtain⟨J,b5⟩:∃x,x=IntKind.u64.wrap (c.k.nextTheirs+1):=⟨_,rfl⟩
 have f6:0≤J∧J<18446744073709551616:=by rw[b5,IntKind.wrap_u64];omega
 have j1:IntKind.u64.wrap (c.k.nextTheirs+1)=J:=b5.symm
 obtain⟨c2,R⟩:∃c2:Ch,c2 = {c1 with k:= {c1.k with nextTheirs:=J}} := ⟨_,rfl⟩
 have d0:c2.Ok:=by
  rw[R];exact⟨l.ok.s,l.ok.signed,l.ok.heard,l.ok.nextOwn,f6,l.ok.loc,l.ok.rem,l.ok.xs,l.ok.few,l.ok.shelf,l.ok.news,l.ok.last,l.ok.many⟩
 have P:=l.put (i:=41) (x:= .int .u64 J) (c':=c2) (by rw[R];exact qli c1 lv nv av l.ok.s.seed J) d0 (by rw[R]) (by rw[R]) (by rw[R])
 have u5:Upd (· = g) w4 (w4.setCell ⟨g,41,none⟩ (.int .u64 J)):=(Upd.refl _ _).set1 41 _
 have P5:=qb P
 have E5:=qb (u5.old (qa E4) (fun e=>d8 e.symm))
 have U5:=qb ((qa U4).trans (u5.mono (fun k _ e=>by rw[e];exact(qa H0).inG)))
 have e8:=qb M
 have e9:=qb R
 have g6:=qb b5
 clear l d0 P u5 P4 A4 E4 U4 M R b5
 go_upto_region 14 with (with_reducible first|(first|refine' tw1 (qg ?_) ?_|refine' tw2 (qg ?_) ?_);rotate_left|refine' tw3 (qg ?_)|rfl|apply tn|refine' tw4 ?_)
 clear d1 h1 j1
 generalize w4.setCell ⟨g,41,none⟩ (.int .u64 J)=e7 at P5 E5 U5 ⊢
 have c0:qu e7 e7.drew:=(Upd.refl _ _).drew
 replace P5:=qb ((qa P5).new c0)
 replace E5:=qb (c0.old (qa E5) (fun h=>h))
 replace U5:=qb ((qa U5).trans (c0.mono (fun _ _ h=>h.elim)))
 clear c0
 generalize e7.drew=w5 at P5 E5 U5 ⊢
 have P:=qa P5
 have d3:w5.drew.cell? ⟨g,47,none⟩=some lv:=P.toR.live
 have rE:zm w5 E 0 35=some K.toArray:=qad (qa E5) 35 (by rw[List.size_toArray,a5])
 obtain⟨L,hL⟩:∃L:List Value,L=K++([.bool false,.int .i64 0,.bool false]:List Value):=⟨_,rfl⟩
 have h7:L.length=38:=by rw[hL];simp[a5]
 have f5:L=ql (qel m):=by rw[hL,qa g5];rfl
 have h9:∀W:World,(qx0 #[(0,.agg K.toArray),(2,.int .i64 0)]).run Tryz.prog W = .ok (.agg L.toArray) W:=fun W=>by rw[zda,if_pos a5,hL]
 obtain⟨i9,z9,b9,i6,j7,j3,j4,j5,h8⟩:=qjz
 obtain⟨la,k1,g0⟩:=qap P.live
 have g3:c2.xs=c.xs:=by rw[qa e9,qa e8]
 have nF:qu w5 (w5.alloc (.cells L.toArray 56)).drew:=((Upd.refl _ _).alloc _).drew
 have b6:(w5.alloc (.cells L.toArray 56)).drew.heap[w5.heap.size]? = some (.cells L.toArray 56 (0,0)):=qi w5 _
 have P6:=qb (P.new nF)
 have U6:=qb ((qa U5).trans (nF.mono (fun _ _ h=>h.elim)))
 have a4:=nF.cell d3 (fun h=>h)
 have h4:w.heap.size≤w5.heap.size:=by have:=z6 (qa E5);omega
 have HL:=qb hL
 have f0:=qb f5
 have g7:=qb g3
 clear P P5 E5 U5 hL f5 g3
 refine qc7 (fun w'=>w'.cell? ⟨g,47,none⟩=some lv) [4] (.of [0,1,2,3,4,5,6,7,8,9,10,11]) (by kernel_rfl) (by kernel_rfl) d3 ?_
 simp only[Plan.of]
 go_wp2_with (with_reducible first|(first|refine' qw1 (qg ?_) ?_|refine' qw2 (qg ?_) ?_|refine' qw3 (qg ?_) ?_);rotate_left|refine' qw4 (qg ?_)|refine' qw5 (qg ?_)|rfl|apply qn)
 refine⟨trivial,?_⟩
 clear d3 nF rE h9
 generalize (w5.alloc (.cells L.toArray 56)).drew=w6 at b6 P6 U6 a4 ⊢
 generalize w5.heap.size=D at b6 h4 ⊢
 have H:=(qa P6).live
 unfold qvl at H
 rw[g0] at H
 have HN:=qb H
 clear H
 have i4:c2.xs.length<1000000:=by rw[qa g7];exact f8
 go_wp2_with (first | (at_builtin;refine wpList_append_own_at _ rfl (.tmp 77) (.tmp 80) 51 rfl 0 56 i9 _ 38 b9 Tryz.underlying51 i6 j7 j3 j4 j5 (by decide) _ _ _ rfl (qa HN) ⟨D,0,none⟩ 1 1 L rfl (by rw[h7]) ?c1 ?c2 ?c3 ?c4 ?c5 ?_) | (with_reducible first|(first|refine' qw1 (qg ?_) ?_|refine' qw2 (qg ?_) ?_|refine' qw3 (qg ?_) ?_);rotate_left|refine' qw4 (qg ?_)|refine' qw5 (qg ?_)|rfl|apply qn))
 case c1=>exact World.news_of_block (cs:=L.toArray) (fr:=(0,0)) b6
 case c2=>rw[qa f0];exact qet _
 case c3=>unfold maxLen;omega
 case c4=>have:=Nat.mul_le_mul (show c2.xs.length+1≤1000000 by omega) h8;omega
 case c5=>omega
 intro v' wE T b7 _ a8
 obtain⟨a',k0,d9⟩:=qap T
 rw[←g0] at b7 a8
 have j2:LiveOk (qel m):=⟨⟨⟨Z.id.1,by have:=Z.id.2;show m.id≤_;omega⟩,⟨Z.amount.1,by show m.amount≤_;omega⟩,by rw[show (qel m).h.hash=qbm m.hash from rfl,qdc Z.len];exact Z.hash,Z.expiry⟩,⟨by show (-9223372036854775808:Int)≤0;decide,by show (0:Int)≤9223372036854775807;decide⟩⟩
 have d6:=(qa P6).appLive (qel m) j2 i4 v' (by rw[←qa f0];exact T) b7 a8
 have uE:Upd (fun k=>lv.ownBlock=some k) w6 wE:=(Upd.refl _ _).grown b7 (fun k Y _=>Y)
 have c8:=uE.old (qa P6).at_ (fun e=>by
  obtain⟨g8,hc⟩:=qai (qa P6).live g e;exact qao (qa P6).at_ hc (by decide) rfl)
 have k4:wE.frozen? ⟨g,47,none⟩=false:=qv c8 47
 have j9:wE.cell? ⟨g,47,none⟩=some lv:=uE.cell a4 (fun e=>by
  obtain⟨g8,hc⟩:=qai (qa P6).live g e;exact qao (qa P6).at_ hc (by decide) rfl)
 have U7:=qb ((qa U6).trans d6.2)
 have P7:=qb d6.1
 have j6:=qb (qa U6).size
 rw[d9] at U7 P7
 clear T b7 a8 d6 uE c8 a4 b6 HN
 rw[d9]
 clear d9
 go_wp2_with (with_reducible first|(first|refine' qw1 (qg ?_) ?_|refine' qw2 (qg ?_) ?_|refine' qw3 (qg ?_) ?_);rotate_left|refine' qw4 (qg ?_)|refine' qw5 (qg ?_)|rfl|apply qn)
 go_ret2
 have i3:({c2 with xs:=c2.xs++[qel m]} : Ch)=c.added m:=by
  rw[qa e9,qa e8,qa g6];rfl
 have d5:=qa P7
 rw[i3] at d5
 rw[qa HO]
 refine⟨rfl,⟨_,_,_,d5.wider (fun k Y=> ?_) (fun k Y=> ?_)⟩,qa U7⟩
 ·have:=qa j6;rcases Y with Y | Y
  ·exact .inl Y
  ·exact .inr ⟨by omega,Y.2⟩
 ·rcases Y with Y | Y
  ·exact d5.lt k (.inl Y)
  ·exact Y.2
end Go.Proofs.YthnohmjbbeahmaaGreatDoor
