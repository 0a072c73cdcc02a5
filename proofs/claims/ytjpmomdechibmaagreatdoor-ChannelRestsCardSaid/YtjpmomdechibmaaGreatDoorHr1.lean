/-
  What a message is to a hearer; hearAdd.
-/
import Derived.Test.YtjpmomdechibmaaGreatDoorMba
set_option linter.unusedVariables false
set_option linter.unusedSimpArgs false
namespace Go.Proofs.YtjpmomdechibmaaGreatDoor
open Go.RowKit
theorem qzr(s:Int)(H:List Value)(h:H.length=35):Tryz.prog.built 81 [(0,.agg H.toArray),(2,.int .i64 s)]=some (H++([.bool false,.int .i64 s,.bool false]:List Value)).toArray:=by
 obtain⟨i,z,g,o,f⟩:=qdy Tryz.zeroLive'
 obtain⟨q,m,l⟩:=Tryz.placesLiv
 rw[qb3 g m o l]
 rw[qer (P:=[]) (A:=H) (Z:=q9 Htlc.zero) (R:=[.bool false,.int .i64 0,.bool false]) (off:=0) (by rw[h];rfl) rfl (by rw[h];rfl) (f.trans qo0)]
 rw[qcr (P:=H++[.bool false]) (z:= .int .i64 0) (R:=[.bool false]) (off:=36) rfl (by simp[h]) rfl (by simp)]
 rw[Instr.fill]
 simp
theorem zau(s:Int)(H:List Value)(w:World):(qwe #[(0,.agg H.toArray),(2,.int .i64 s)]).run Tryz.prog w=if H.length=35 then .ok (.agg (H++([.bool false,.int .i64 s,.bool false]:List Value)).toArray) w else (Instr.build 81 #[(0,.agg H.toArray),(2,.int .i64 s)]).run Tryz.prog w:=by
 by_cases h:H.length=35
 ·rw[if_pos h];exact run_build w _ _ _ (qzr s H h)
 ·rw[if_neg h];rfl
attribute [local go_sem ↓ high] qc6 qdx qgg qhg qaa qhj qot qn2 qn4 qn7
attribute [local go_sem] qhk qjw qo7 quk zq qcx qu9 q90 q6q qzl
structure MsgOk(m:MsgV):Prop where
 kind : -9223372036854775808≤m.kind∧m.kind≤9223372036854775807
 ch:0≤m.ch∧m.ch<4294967296
 id:0≤m.id∧m.id<18446744073709551616
 amount:0≤m.amount∧m.amount<18446744073709551616
 len:m.hash.length=32
 hash:∀b∈m.hash,0≤b∧b≤255
 expiry : -9223372036854775808≤m.expiry∧m.expiry≤9223372036854775807
 number : -9223372036854775808≤m.number∧m.number≤9223372036854775807
def qic(l:List Int):Vector Int 32:=if h:l.length=32 then ⟨l.toArray,by simpa using h⟩ else Vector.replicate 32 0
theorem qfs{l:List Int}(h:l.length=32):(qic l).toList=l:=by
 unfold qic
 rw[dif_pos h]
 rfl
theorem qvb(m:MsgV){w:World}{b:Nat}{T:TypeId}{i:Nat × Nat}(h:w.heap[b]? = some (.cells m.cells.toArray T i))(g:m.hash.length=32) :
  w.cell? ⟨b,0,none⟩=some (.int .i64 m.kind)∧w.cell? ⟨b,1,none⟩=some (.int .u32 m.ch)∧w.cell? ⟨b,2,none⟩=some (.int .u64 m.id)∧w.cell? ⟨b,3,none⟩=some (.int .u64 m.amount)∧w.cell? ⟨b,36,none⟩=some (.int .i64 m.expiry)∧w.cell? ⟨b,37,none⟩=some (.int .i64 m.number)∧zx w b 4 32=some (m.hash.map (Value.int .u8)).toArray:=by
 have f:∀j,m.cells[36+j]? = ([.int .i64 m.expiry,.int .i64 m.number]:List Value)[j]? := by
  intro j
  unfold MsgV.cells
  rw[show 36+j=(32+j)+4 by omega]
  simp only[List.getElem?_cons_succ]
  rw[List.getElem?_append_right (by simp[g]),List.length_map,g,Nat.add_sub_cancel_left]
 refine⟨qh h 0,qh h 1,qh h 2,qh h 3,?_,?_,?_⟩
 ·rw[qh h 36,List.getElem?_toArray];exact f 0
 ·rw[qh h 37,List.getElem?_toArray];exact f 1
 ·rw[qca h 4 32 (by rw[List.size_toArray,m.len g];omega)]
  congr 1
  apply Array.ext'
  rw[Array.toList_extract]
  unfold MsgV.cells
  simp[g]
def qat(c:Ch)(m:MsgV):Int :=
 if c.k.shutHeard=true then 135 else if m.amount=0 then 1 else if m.id≠c.k.nextTheirs then 1 else if m.expiry=0 then 131 else if 8≤qc8 false c.xs then 130 else if c.rem<m.amount then 61 else 0
def qd3(m:MsgV):Live:=⟨⟨m.id,m.amount,qic m.hash,m.expiry⟩,false,0,false⟩
def Ch.added(c:Ch)(m:MsgV):Ch:= {c with rem:=c.rem-m.amount,k:= {c.k with nextTheirs:=IntKind.u64.wrap (c.k.nextTheirs+1)},xs:=c.xs++[qd3 m]}
def Ch.hearAdd(c:Ch)(m:MsgV):Ch × Int:=if qat c m=0 then (c.added m,0) else (c,qat c m)
set_option maxRecDepth 100000 in
set_option maxHeartbeats 800000 in
theorem qxg(g:Nat)(S:Nat→Prop)(c:Ch)(m:MsgV)(X:MsgOk m)(w:World)(h:ChS w g S c)(f7:c.xs.length<1000000) :
  Calls Tryz.prog 66 #[.pointer (some ⟨g,0,none⟩),.agg m.cells.toArray] w fun e w' =>
   e = .returned (.tuple #[qbt,.int .i64 (c.hearAdd m).2])∧ChS w' g (Fr S w w') (c.hearAdd m).1∧Upd S w w':=by
 obtain⟨lv,nv,av,h⟩:=h
 go_enter Tryz.func66,Tryz.ntmps66
 go_upto_region 1 with fail
 have a6:(w.alloc (.cells m.cells.toArray 30)).heap[w.heap.size]? = some (.cells m.cells.toArray 30 (0,0)):=qi _ _
 have nA:qy w (w.alloc (.cells m.cells.toArray 30)):=(Upd.refl _ _).alloc _
 generalize w.alloc (.cells m.cells.toArray 30)=wA at a6 nA ⊢
 obtain⟨A,f3⟩:∃A,A=w.heap.size:=⟨_,rfl⟩
 rw[←f3] at a6 ⊢
 have hA:=h.new nA
 have i2:g≠A:=by have:=h.lt g h.inG;omega
 have k2:w.heap.size≤A:=by omega
 clear f3
 have d1:wA.cell? ⟨g,43,none⟩=some (.bool c.k.shutHeard):=hA.toR.shutHeard
 have d0:wA.cell? ⟨g,41,none⟩=some (.int .u64 c.k.nextTheirs):=hA.toR.nextTheirs
 have a9:wA.cell? ⟨g,46,none⟩=some (.int .u64 c.rem):=hA.toR.rem
 obtain⟨m0,m1,m2,m3,b7,d9,m4⟩:=qvb m a6 X.len
 have bad:∀W,qy w W→qat c m≠0→ChS W g (Fr S w W) (c.hearAdd m).1∧(c.hearAdd m).2=qat c m∧Upd S w W:=by
  intro W nW y
  unfold Ch.hearAdd
  rw[if_neg y]
  exact⟨(h.new nW).fr w,rfl,nW.mono (fun _ _ h=>h.elim)⟩
 have o:=qb bad
 have H0:=qb h
 have HA:=qb hA
 have NA:=qb nA
 have BA:=qb a6
 clear bad h hA nA a6 m0 m1 d9 m4
 by_cases J:c.k.shutHeard=true
 ·have y:qat c m=135:=by unfold qat;rw[if_pos J]
  rw[J] at d1
  have F:=qb y
  clear y J
  go_wp2_with (with_reducible first|(first|refine' zr (qg ?_) ?_|refine' zt (qg ?_) ?_);rotate_left|refine' zu (qg ?_)|rfl|apply tn|refine' zv ?_)
  go_ret2
  obtain⟨b1,b2,Y⟩:=qa o wA (qa NA) (by rw[qa F];decide)
  exact⟨by rw[b2,qa F];rfl,b1,Y⟩
 have M:c.k.shutHeard=false:=by simpa using J
 rw[M] at d1
 by_cases R:m.amount=0
 ·have y:qat c m=1:=by unfold qat;rw[if_neg J,if_pos R]
  rw[R] at m3
  have F:=qb y
  clear y J M
  go_wp2_with (with_reducible first|(first|refine' zr (qg ?_) ?_|refine' zt (qg ?_) ?_);rotate_left|refine' zu (qg ?_)|rfl|apply tn|refine' zv ?_)
  go_ret2
  obtain⟨b1,b2,Y⟩:=qa o _ ((qa NA).drewN 1) (by rw[qa F];decide)
  exact⟨by rw[b2,qa F];rfl,b1,Y⟩
 have j9:(m.amount==0)=false:=by simpa using R
 by_cases T:m.id≠c.k.nextTheirs
 ·have y:qat c m=1:=by unfold qat;rw[if_neg J,if_neg R,if_pos T]
  have g8:(m.id != c.k.nextTheirs)=true:=by simpa using T
  have F:=qb y
  clear y J M R T
  go_wp2_with (with_reducible first|(first|refine' zr (qg ?_) ?_|refine' zt (qg ?_) ?_);rotate_left|refine' zu (qg ?_)|rfl|apply tn|refine' zv ?_)
  go_ret2
  obtain⟨b1,b2,Y⟩:=qa o _ ((qa NA).drewN 1) (by rw[qa F];decide)
  exact⟨by rw[b2,qa F];rfl,b1,Y⟩
 have g8:(m.id != c.k.nextTheirs)=false:=by simpa using T
 by_cases e4:m.expiry=0
 ·have y:qat c m=131:=by unfold qat;rw[if_neg J,if_neg R,if_neg T,if_pos e4]
  rw[e4] at b7
  have F:=qb y
  clear y J M R T
  go_wp2_with (with_reducible first|(first|refine' zr (qg ?_) ?_|refine' zt (qg ?_) ?_);rotate_left|refine' zu (qg ?_)|rfl|apply tn|refine' zv ?_)
  go_ret2
  obtain⟨b1,b2,Y⟩:=qa o _ ((qa NA).drewN 1) (by rw[qa F];decide)
  exact⟨by rw[b2,qa F];rfl,b1,Y⟩
 have k0:(m.expiry==0)=false:=by simpa using e4
 have g0:=fun(W:World) (q:Q wA W)=>qte g S c false W ⟨lv,nv,av,(qa HA).upd (q.upd (fun _=>False)) (fun _ _ h=>h)⟩
 have f0:=qb g0
 clear g0
 go_wp2_with (with_reducible first|(first|refine' zr (qg ?_) ?_|refine' zt (qg ?_) ?_);rotate_left|refine' zu (qg ?_)|rfl|apply tn|refine' zv ?_)
 refine(qa f0 _ ((Q.refl _).drewN' 1)).mono ?_
 rintro e w1 ⟨rfl,g3⟩
 have n1:qy wA w1:=g3.ofDrew
 have f1:=n1.cell a9 (fun h=>h)
 have j5:=n1.cell m3 (fun h=>h)
 have c6:=(qa NA).trans n1
 have f2:=n1.old (qa BA) (fun h=>h)
 have U:=(qa HA).new n1
 have N1:=qb c6
 have A1:=qb f2
 have P1:=qb U
 clear a9 d0 d1 m3 m2 b7 f0 n1 g3 c6 f2 U
 by_cases e5:8≤qc8 false c.xs
 ·have y:qat c m=130:=by unfold qat;rw[if_neg J,if_neg R,if_neg T,if_neg e4,if_pos e5]
  have g9:8≤(qc8 false c.xs:Int):=by omega
  have F:=qb y
  clear y J M R T
  go_wp2_with (with_reducible first|(first|refine' zr (qg ?_) ?_|refine' zt (qg ?_) ?_);rotate_left|refine' zu (qg ?_)|rfl|apply tn|refine' zv ?_)
  go_ret2
  obtain⟨b1,b2,Y⟩:=qa o _ (qa N1) (by rw[qa F];decide)
  exact⟨by rw[b2,qa F];rfl,b1,Y⟩
 have g9:¬8≤(qc8 false c.xs:Int):=by omega
 by_cases e6:c.rem<m.amount
 ·have y:qat c m=61:=by unfold qat;rw[if_neg J,if_neg R,if_neg T,if_neg e4,if_neg e5,if_pos e6]
  have F:=qb y
  clear y J M R T
  go_wp2_with (with_reducible first|(first|refine' zr (qg ?_) ?_|refine' zt (qg ?_) ?_);rotate_left|refine' zu (qg ?_)|rfl|apply tn|refine' zv ?_)
  go_ret2
  obtain⟨b1,b2,Y⟩:=qa o _ ((qa N1).drewN 1) (by rw[qa F];decide)
  exact⟨by rw[b2,qa F];rfl,b1,Y⟩
 have y:qat c m=0:=by unfold qat;rw[if_neg J,if_neg R,if_neg T,if_neg e4,if_neg e5,if_neg e6]
 have g1:c.hearAdd m=(c.added m,0):=by unfold Ch.hearAdd;rw[if_pos y]
 have HO:=qb g1
 have f8:m.id=c.k.nextTheirs:=by simpa using T
 clear g1 y J M R T o
 go_upto_region 11 with (with_reducible first|(first|refine' zr (qg ?_) ?_|refine' zt (qg ?_) ?_);rotate_left|refine' zu (qg ?_)|rfl|apply tn|refine' zv ?_)
 have nd:qy w1 w1.drew:=(Upd.refl _ _).drew
 have N2:=qb ((qa N1).trans nd)
 have A2:=qb (nd.old (qa A1) (fun h=>h))
 have P2:=qb ((qa P1).new nd)
 clear f1 j5 N1 A1 P1 nd
 generalize w1.drew=t at N2 A2 P2 ⊢
 obtain⟨m0,m1,m2,m3,b7,d9,m4⟩:=qvb m (w:=t) (qa A2) X.len
 rw[f8] at m2
 clear m0 m1 d9
 have a8:=qa A2
 have U:=qa P2
 obtain⟨K,hK⟩:∃K:List Value,K = .int .u64 c.k.nextTheirs :: .int .u64 m.amount::(m.hash.map (Value.int .u8)++[.int .i64 m.expiry]):=⟨_,rfl⟩
 have a4:K.length=35:=by rw[hK];simp[X.len]
 have d3:K=q9 (qd3 m).h:=by
  rw[hK,←f8]
  show _=Value.int .u64 m.id :: .int .u64 m.amount::((qic m.hash).toList.map (Value.int .u8)++[.int .i64 m.expiry])
  rw[qfs X.len]
 have h5:(m.hash.map (Value.int .u8)).length=32:=by simp[X.len]
 have h9:∀W:World,(q6y #[(0,.int .u64 c.k.nextTheirs),(1,.int .u64 m.amount),(2,.agg (m.hash.map (Value.int .u8)).toArray),(3,.int .i64 m.expiry)]).run Tryz.prog W = .ok (.agg K.toArray) W:=fun W=>by
  rw[qzl,if_pos h5,hK]
 have nD:qy t (t.alloc (.cells (q9 Htlc.zero).toArray 79)):=(Upd.refl _ _).alloc _
 have d6:(t.alloc (.cells (q9 Htlc.zero).toArray 79)).heap[t.heap.size]? = some (.cells (q9 Htlc.zero).toArray 79 (0,0)):=qi t _
 have h4:w.heap.size≤t.heap.size:=(qa N2).size
 have d7:g≠t.heap.size:=by have:=zw U.at_;omega
 have h2:A≠t.heap.size:=by have:=zw a8;omega
 have a5:∀v∈K,v.oneCell'=true:=by rw[d3];exact qkk _
 have i5:stOk (t.alloc (.cells (q9 Htlc.zero).toArray 79)) t.heap.size 0 35 K.toArray=true:=qfe (C:=(q9 Htlc.zero).toArray) d6 (by rw[a4];rfl) a5
 have f6:((t.alloc (.cells (q9 Htlc.zero).toArray 79)).setCells t.heap.size 0 K).heap[t.heap.size]? = some (.cells K.toArray 79 (0,0)):=by
  rw[qa9 d6 0 K,qc5 _ _ (by rw[a4];rfl)]
 have uE:Upd (· = t.heap.size) (t.alloc (.cells (q9 Htlc.zero).toArray 79)) ((t.alloc (.cells (q9 Htlc.zero).toArray 79)).setCells t.heap.size 0 K):=(Upd.refl _ _).setCells 0 K
 have c0:qy t ((t.alloc (.cells (q9 Htlc.zero).toArray 79)).setCells t.heap.size 0 K):=nD.then uE (fun i hi e=>by omega)
 have P3:=qb (U.new c0)
 have A3:=qb (c0.old a8 (fun h=>h))
 have E3:=qb f6
 have NW:=qb ((qa N2).trans c0)
 have HK:=qb hK
 have g4:=qb d3
 clear a8 U nD d6 a5 f6 uE c0 hK d3
 go_upto_region 12 with (with_reducible first|(first|refine' zr (qg ?_) ?_|refine' zt (qg ?_) ?_);rotate_left|refine' zu (qg ?_)|rfl|apply tn|refine' zv ?_)
 clear i5 h9 m4 m2 b7 m3
 obtain⟨E,hE⟩:∃E,E=t.heap.size:=⟨_,rfl⟩
 rw[←hE] at h4 d7 h2 E3 A3 P3 NW ⊢
 generalize (t.alloc (.cells (q9 Htlc.zero).toArray 79)).setCells E 0 K=w3 at P3 A3 E3 NW ⊢
 clear hE
 have l:=qa P3
 have a9:w3.cell? ⟨g,46,none⟩=some (.int .u64 c.rem):=l.toR.rem
 have h1:w3.frozen? ⟨g,46,none⟩=false:=qq l.at_ 46
 obtain⟨-,-,-,m3,-,-,-⟩:=qvb m (qa A3) X.len
 have k3:=l.ok.rem
 have k5:=l.ok.nextTheirs
 have k4:=X.amount
 have i6:IntKind.u64.wrap (c.rem-m.amount)=c.rem-m.amount:=qeg (by omega) (by omega)
 obtain⟨c1,I⟩:∃c1:Ch,c1 = {c with rem:=c.rem-m.amount} := ⟨_,rfl⟩
 have c8:c1.Ok:=by
  rw[I]
  exact⟨l.ok.s,l.ok.signed,l.ok.heard,l.ok.nextOwn,l.ok.nextTheirs,l.ok.loc,show 0≤c.rem-m.amount∧c.rem-m.amount<_ by omega,l.ok.xs,l.ok.few,l.ok.shelf,l.ok.news,l.ok.last,l.ok.many⟩
 have f:=l.put (i:=46) (x:= .int .u64 (c.rem-m.amount)) (c':=c1) (by rw[I];exact q3b c lv nv av l.ok.s.seed (c.rem-m.amount)) c8 (by rw[I]) (by rw[I]) (by rw[I])
 have u4:Upd (· = g) w3 (w3.setCell ⟨g,46,none⟩ (.int .u64 (c.rem-m.amount))):=(Upd.refl _ _).set1 46 _
 have P4:=qb f
 have A4:=qb (u4.old (qa A3) (fun e=>i2 e.symm))
 have E4:=qb (u4.old (qa E3) (fun e=>d7 e.symm))
 have U4:=qb (((qa NW).mono (fun _ _ h=>h.elim)).trans (u4.mono (fun k _ e=>by rw[e];exact(qa H0).inG)):Upd S w _)
 clear l c8 f u4 P3 A3 E3 NW
 go_upto_region 13 with (with_reducible first|(first|refine' zr (qg ?_) ?_|refine' zt (qg ?_) ?_);rotate_left|refine' zu (qg ?_)|rfl|apply tn|refine' zv ?_)
 clear a9 h1 i6 m3
 generalize w3.setCell ⟨g,46,none⟩ (.int .u64 (c.rem-m.amount))=w4 at P4 A4 E4 U4 ⊢
 have f:=qa P4
 have i4:c1.k=c.k:=by rw[I]
 have d0:w4.cell? ⟨g,41,none⟩=some (.int .u64 c.k.nextTheirs):=by rw[←i4];exact f.toR.nextTheirs
 have h0:w4.frozen? ⟨g,41,none⟩=false:=qq f.at_ 41
 obtain⟨H,b4⟩:∃x,x=IntKind.u64.wrap (c.k.nextTheirs+1):=⟨_,rfl⟩
 have f5:0≤H∧H<18446744073709551616:=by rw[b4,IntKind.wrap_u64];omega
 have i7:IntKind.u64.wrap (c.k.nextTheirs+1)=H:=b4.symm
 obtain⟨c2,O⟩:∃c2:Ch,c2 = {c1 with k:= {c1.k with nextTheirs:=H}} := ⟨_,rfl⟩
 have c9:c2.Ok:=by
  rw[O]
  exact⟨f.ok.s,f.ok.signed,f.ok.heard,f.ok.nextOwn,f5,f.ok.loc,f.ok.rem,f.ok.xs,f.ok.few,f.ok.shelf,f.ok.news,f.ok.last,f.ok.many⟩
 have N:=f.put (i:=41) (x:= .int .u64 H) (c':=c2) (by rw[O];exact qkx c1 lv nv av f.ok.s.seed H) c9 (by rw[O]) (by rw[O]) (by rw[O])
 have u5:Upd (· = g) w4 (w4.setCell ⟨g,41,none⟩ (.int .u64 H)):=(Upd.refl _ _).set1 41 _
 have P5:=qb N
 have E5:=qb (u5.old (qa E4) (fun e=>d7 e.symm))
 have U5:=qb ((qa U4).trans (u5.mono (fun k _ e=>by rw[e];exact(qa H0).inG)))
 have e7:=qb I
 have e8:=qb O
 have g5:=qb b4
 clear f c9 N u5 P4 A4 E4 U4 I O b4
 go_upto_region 14 with (with_reducible first|(first|refine' zr (qg ?_) ?_|refine' zt (qg ?_) ?_);rotate_left|refine' zu (qg ?_)|rfl|apply tn|refine' zv ?_)
 clear d0 h0 i7
 generalize w4.setCell ⟨g,41,none⟩ (.int .u64 H)=e0 at P5 E5 U5 ⊢
 have b8:qy e0 e0.drew:=(Upd.refl _ _).drew
 replace P5:=qb ((qa P5).new b8)
 replace E5:=qb (b8.old (qa E5) (fun h=>h))
 replace U5:=qb ((qa U5).trans (b8.mono (fun _ _ h=>h.elim)))
 clear b8
 generalize e0.drew=w5 at P5 E5 U5 ⊢
 have N:=qa P5
 have d2:w5.drew.cell? ⟨g,47,none⟩=some lv:=N.toR.live
 have rE:zx w5 E 0 35=some K.toArray:=qaq (qa E5) 35 (by rw[List.size_toArray,a4])
 obtain⟨L,hL⟩:∃L:List Value,L=K++([.bool false,.int .i64 0,.bool false]:List Value):=⟨_,rfl⟩
 have h6:L.length=38:=by rw[hL];simp[a4]
 have f4:L=qm (qd3 m):=by rw[hL,qa g4];rfl
 have h8:∀W:World,(qwe #[(0,.agg K.toArray),(2,.int .i64 0)]).run Tryz.prog W = .ok (.agg L.toArray) W:=fun W=>by rw[zau,if_pos a4,hL]
 obtain⟨i9,z9,b9,i3,j4,j0,j1,j2,h7⟩:=qjl
 obtain⟨la,j8,f9⟩:=qx N.live
 have g2:c2.xs=c.xs:=by rw[qa e8,qa e7]
 have nF:qy w5 (w5.alloc (.cells L.toArray 81)).drew:=((Upd.refl _ _).alloc _).drew
 have b5:(w5.alloc (.cells L.toArray 81)).drew.heap[w5.heap.size]? = some (.cells L.toArray 81 (0,0)):=qi w5 _
 have P6:=qb (N.new nF)
 have U6:=qb ((qa U5).trans (nF.mono (fun _ _ h=>h.elim)))
 have Z:=nF.cell d2 (fun h=>h)
 have h3:w.heap.size≤w5.heap.size:=by have:=zw (qa E5);omega
 have HL:=qb hL
 have e9:=qb f4
 have g6:=qb g2
 clear N P5 E5 U5 hL f4 g2
 refine qb5 (fun w'=>w'.cell? ⟨g,47,none⟩=some lv) [4] (.of [0,1,2,3,4,5,6,7,8,9,10,11]) (by kernel_rfl) (by kernel_rfl) d2 ?_
 simp only[Plan.of]
 go_wp2_with (with_reducible first|(first|refine' qw1 (qg ?_) ?_|refine' qw2 (qg ?_) ?_|refine' qw3 (qg ?_) ?_);rotate_left|refine' qw4 (qg ?_)|refine' qw5 (qg ?_)|rfl|apply qn)
 refine⟨trivial,?_⟩
 clear d2 nF rE h8
 generalize (w5.alloc (.cells L.toArray 81)).drew=w6 at b5 P6 U6 Z ⊢
 generalize w5.heap.size=D at b5 h3 ⊢
 have z:=(qa P6).live
 unfold qud at z
 rw[f9] at z
 have HN:=qb z
 clear z
 have i1:c2.xs.length<1000000:=by rw[qa g6];exact f7
 go_wp2_with (first | (at_builtin;refine wpList_append_own_at _ rfl (.tmp 77) (.tmp 80) 43 rfl 0 81 i9 _ 38 b9 Tryz.underlying43 i3 j4 j0 j1 j2 (by decide) _ _ _ rfl (qa HN) ⟨D,0,none⟩ 1 1 L rfl (by rw[h6]) ?c1 ?c2 ?c3 ?c4 ?c5 ?_) | (with_reducible first|(first|refine' qw1 (qg ?_) ?_|refine' qw2 (qg ?_) ?_|refine' qw3 (qg ?_) ?_);rotate_left|refine' qw4 (qg ?_)|refine' qw5 (qg ?_)|rfl|apply qn))
 case c1=>exact World.news_of_block (cs:=L.toArray) (fr:=(0,0)) b5
 case c2=>rw[qa e9];exact qd9 _
 case c3=>unfold maxLen;omega
 case c4=>have:=Nat.mul_le_mul (show c2.xs.length+1≤1000000 by omega) h7;omega
 case c5=>omega
 intro v' wE P b6 _ a7
 obtain⟨a',j7,d8⟩:=qx P
 rw[←f9] at b6 a7
 have i8:LiveOk (qd3 m):=⟨⟨⟨X.id.1,by have:=X.id.2;show m.id≤_;omega⟩,⟨X.amount.1,by show m.amount≤_;omega⟩,by rw[show (qd3 m).h.hash=qic m.hash from rfl,qfs X.len];exact X.hash,X.expiry⟩,⟨by show (-9223372036854775808:Int)≤0;decide,by show (0:Int)≤9223372036854775807;decide⟩⟩
 have d5:=(qa P6).appLive (qd3 m) i8 i1 v' (by rw[←qa e9];exact P) b6 a7
 have uE:Upd (fun k=>lv.ownBlock=some k) w6 wE:=(Upd.refl _ _).grown b6 (fun k V _=>V)
 have c7:=uE.old (qa P6).at_ (fun e=>by
  obtain⟨g7,hc⟩:=q8 (qa P6).live g e
  exact ze (qa P6).at_ hc (by decide) rfl)
 have k1:wE.frozen? ⟨g,47,none⟩=false:=qq c7 47
 have j6:wE.cell? ⟨g,47,none⟩=some lv:=uE.cell Z (fun e=>by
  obtain⟨g7,hc⟩:=q8 (qa P6).live g e
  exact ze (qa P6).at_ hc (by decide) rfl)
 have U7:=qb ((qa U6).trans d5.2)
 have P7:=qb d5.1
 have j3:=qb (qa U6).size
 rw[d8] at U7 P7
 clear P b6 a7 d5 uE c7 Z b5 HN
 rw[d8]
 clear d8
 go_wp2_with (with_reducible first|(first|refine' qw1 (qg ?_) ?_|refine' qw2 (qg ?_) ?_|refine' qw3 (qg ?_) ?_);rotate_left|refine' qw4 (qg ?_)|refine' qw5 (qg ?_)|rfl|apply qn)
 go_ret2
 have i0:({c2 with xs:=c2.xs++[qd3 m]} : Ch)=c.added m:=by
  rw[qa e8,qa e7,qa g5]
  rfl
 have d4:=qa P7
 rw[i0] at d4
 rw[qa HO]
 refine⟨rfl,⟨_,_,_,d4.wider (fun k V=> ?_) (fun k V=> ?_)⟩,qa U7⟩
 ·have:=qa j3
  rcases V with V | V
  ·exact .inl V
  ·exact .inr ⟨by omega,V.2⟩
 ·rcases V with V | V
  ·exact d4.lt k (.inl V)
  ·exact V.2
end Go.Proofs.YtjpmomdechibmaaGreatDoor
