/-
  What a message is to a hearer; hearAdd.
-/
import Derived.Test.YtjpmomdechibmaaGreatDoorMbb
set_option linter.unusedVariables false
set_option linter.unusedSimpArgs false
namespace Go.Proofs.YtjpmomdechibmaaGreatDoor
open Go.RowKit
theorem qyk(s:Int)(H:List Value)(h:H.length=35):Tryz.prog.built 81 [(0,.agg H.toArray),(2,.int .i64 s)]=some (H++([.bool false,.int .i64 s,.bool false]:List Value)).toArray:=by
 obtain⟨i,z,g,m,f⟩:=qdo Tryz.zeroLive'
 obtain⟨o,l,j⟩:=Tryz.placesLiv
 rw[qbv g l m j]
 rw[qee (P:=[]) (A:=H) (Z:=zi Htlc.zero) (R:=[.bool false,.int .i64 0,.bool false]) (off:=0) (by rw[h];rfl) rfl (by rw[h];rfl) (f.trans qn8)]
 rw[qcf (P:=H++[.bool false]) (z:= .int .i64 0) (R:=[.bool false]) (off:=36) rfl (by simp[h]) rfl (by simp)]
 rw[Instr.fill]
 simp
theorem q83(s:Int)(H:List Value)(w:World):(qva #[(0,.agg H.toArray),(2,.int .i64 s)]).run Tryz.prog w=if H.length=35 then .ok (.agg (H++([.bool false,.int .i64 s,.bool false]:List Value)).toArray) w else (Instr.build 81 #[(0,.agg H.toArray),(2,.int .i64 s)]).run Tryz.prog w:=by
 by_cases h:H.length=35
 ·rw[if_pos h];exact run_build w _ _ _ (qyk s H h)
 ·rw[if_neg h];rfl
attribute [local go_sem ↓ high] qcv qdm qf3 qg3 z7 qj3 qn1 qnb qnd qng
attribute [local go_sem] qg6 qjd qoe qtc zn qcp qzg q78 q4z qye
structure MsgOk(m:MsgV):Prop where
 kind : -9223372036854775808≤m.kind∧m.kind≤9223372036854775807
 ch:0≤m.ch∧m.ch<4294967296
 id:0≤m.id∧m.id<18446744073709551616
 amount:0≤m.amount∧m.amount<18446744073709551616
 len:m.hash.length=32
 hash:∀b∈m.hash,0≤b∧b≤255
 expiry : -9223372036854775808≤m.expiry∧m.expiry≤9223372036854775807
 number : -9223372036854775808≤m.number∧m.number≤9223372036854775807
def qhx(l:List Int):Vector Int 32:=if h:l.length=32 then ⟨l.toArray,by simpa using h⟩ else Vector.replicate 32 0
theorem qfb{l:List Int}(h:l.length=32):(qhx l).toList=l:=by
 unfold qhx
 rw[dif_pos h]
 rfl
theorem qt6(m:MsgV){w:World}{b:Nat}{T:TypeId}{i:Nat × Nat}(h:w.heap[b]? = some (.cells m.cells.toArray T i))(g:m.hash.length=32) :
  w.cell? ⟨b,0,none⟩=some (.int .i64 m.kind)∧w.cell? ⟨b,1,none⟩=some (.int .u32 m.ch)∧w.cell? ⟨b,2,none⟩=some (.int .u64 m.id)∧w.cell? ⟨b,3,none⟩=some (.int .u64 m.amount)∧w.cell? ⟨b,36,none⟩=some (.int .i64 m.expiry)∧w.cell? ⟨b,37,none⟩=some (.int .i64 m.number)∧zr w b 4 32=some (m.hash.map (Value.int .u8)).toArray:=by
 have f:∀j,m.cells[36+j]? = ([.int .i64 m.expiry,.int .i64 m.number]:List Value)[j]? := by
  intro j
  unfold MsgV.cells
  rw[show 36+j=(32+j)+4 by omega]
  simp only[List.getElem?_cons_succ]
  rw[List.getElem?_append_right (by simp[g]),List.length_map,g,Nat.add_sub_cancel_left]
 refine⟨qg h 0,qg h 1,qg h 2,qg h 3,?_,?_,?_⟩
 ·rw[qg h 36,List.getElem?_toArray];exact f 0
 ·rw[qg h 37,List.getElem?_toArray];exact f 1
 ·rw[qbz h 4 32 (by rw[List.size_toArray,m.len g];omega)]
  congr 1
  apply Array.ext'
  rw[Array.toList_extract]
  unfold MsgV.cells
  simp[g]
def qar(c:Ch)(m:MsgV):Int :=
 if c.k.shutHeard=true then 135 else if m.amount=0 then 1 else if m.id≠c.k.nextTheirs then 1 else if m.expiry=0 then 131 else if 8≤qcx false c.xs then 130 else if c.rem<m.amount then 61 else 0
def qei(m:MsgV):Live:=⟨⟨m.id,m.amount,qhx m.hash,m.expiry⟩,false,0,false⟩
def Ch.added(c:Ch)(m:MsgV):Ch:= {c with rem:=c.rem-m.amount,k:= {c.k with nextTheirs:=IntKind.u64.wrap (c.k.nextTheirs+1)},xs:=c.xs++[qei m]}
def Ch.hearAdd(c:Ch)(m:MsgV):Ch × Int:=if qar c m=0 then (c.added m,0) else (c,qar c m)
set_option maxRecDepth 100000 in
set_option maxHeartbeats 800000 in
theorem qv4(g:Nat)(S:Nat→Prop)(c:Ch)(m:MsgV)(V:MsgOk m)(w:World)(h:ChS w g S c)(f6:c.xs.length<1000000) :
  Calls Tryz.prog 66 #[.pointer (some ⟨g,0,none⟩),.agg m.cells.toArray] w fun e w' =>
   e = .returned (.tuple #[qbl,.int .i64 (c.hearAdd m).2])∧ChS w' g (Fr S w w') (c.hearAdd m).1∧Upd S w w':=by
 obtain⟨lv,nv,av,h⟩:=h
 go_enter Tryz.func66,Tryz.ntmps66
 go_upto_region 1 with fail
 have a5:(w.alloc (.cells m.cells.toArray 30)).heap[w.heap.size]? = some (.cells m.cells.toArray 30 (0,0)):=qi _ _
 have nA:qx w (w.alloc (.cells m.cells.toArray 30)):=(Upd.refl _ _).alloc _
 generalize w.alloc (.cells m.cells.toArray 30)=wA at a5 nA ⊢
 obtain⟨A,f2⟩:∃A,A=w.heap.size:=⟨_,rfl⟩
 rw[←f2] at a5 ⊢
 have hA:=h.new nA
 have i1:g≠A:=by have:=h.lt g h.inG;omega
 have k1:w.heap.size≤A:=by omega
 clear f2
 have d0:wA.cell? ⟨g,43,none⟩=some (.bool c.k.shutHeard):=hA.toR.shutHeard
 have c9:wA.cell? ⟨g,41,none⟩=some (.int .u64 c.k.nextTheirs):=hA.toR.nextTheirs
 have a8:wA.cell? ⟨g,46,none⟩=some (.int .u64 c.rem):=hA.toR.rem
 obtain⟨m0,m1,m2,m3,b6,d8,m4⟩:=qt6 m a5 V.len
 have bad:∀W,qx w W→qar c m≠0→ChS W g (Fr S w W) (c.hearAdd m).1∧(c.hearAdd m).2=qar c m∧Upd S w W:=by
  intro W nW t
  unfold Ch.hearAdd
  rw[if_neg t]
  exact⟨(h.new nW).fr w,rfl,nW.mono (fun _ _ h=>h.elim)⟩
 have l:=qb bad
 have H0:=qb h
 have HA:=qb hA
 have NA:=qb nA
 have BA:=qb a5
 clear bad h hA nA a5 m0 m1 d8 m4
 by_cases I:c.k.shutHeard=true
 ·have t:qar c m=135:=by unfold qar;rw[if_pos I]
  rw[I] at d0
  have z:=qb t
  clear t I
  go_wp2_with (with_reducible first|(first|refine' tw1 (qh ?_) ?_|refine' tw2 (qh ?_) ?_);rotate_left|refine' tw3 (qh ?_)|rfl|apply tn|refine' tw4 ?_)
  go_ret2
  obtain⟨b1,b2,X⟩:=qa l wA (qa NA) (by rw[qa z];decide)
  exact⟨by rw[b2,qa z];rfl,b1,X⟩
 have J:c.k.shutHeard=false:=by simpa using I
 rw[J] at d0
 by_cases P:m.amount=0
 ·have t:qar c m=1:=by unfold qar;rw[if_neg I,if_pos P]
  rw[P] at m3
  have z:=qb t
  clear t I J
  go_wp2_with (with_reducible first|(first|refine' tw1 (qh ?_) ?_|refine' tw2 (qh ?_) ?_);rotate_left|refine' tw3 (qh ?_)|rfl|apply tn|refine' tw4 ?_)
  go_ret2
  obtain⟨b1,b2,X⟩:=qa l _ ((qa NA).drewN 1) (by rw[qa z];decide)
  exact⟨by rw[b2,qa z];rfl,b1,X⟩
 have j8:(m.amount==0)=false:=by simpa using P
 by_cases R:m.id≠c.k.nextTheirs
 ·have t:qar c m=1:=by unfold qar;rw[if_neg I,if_neg P,if_pos R]
  have g7:(m.id != c.k.nextTheirs)=true:=by simpa using R
  have z:=qb t
  clear t I J P R
  go_wp2_with (with_reducible first|(first|refine' tw1 (qh ?_) ?_|refine' tw2 (qh ?_) ?_);rotate_left|refine' tw3 (qh ?_)|rfl|apply tn|refine' tw4 ?_)
  go_ret2
  obtain⟨b1,b2,X⟩:=qa l _ ((qa NA).drewN 1) (by rw[qa z];decide)
  exact⟨by rw[b2,qa z];rfl,b1,X⟩
 have g7:(m.id != c.k.nextTheirs)=false:=by simpa using R
 by_cases e4:m.expiry=0
 ·have t:qar c m=131:=by unfold qar;rw[if_neg I,if_neg P,if_neg R,if_pos e4]
  rw[e4] at b6
  have z:=qb t
  clear t I J P R
  go_wp2_with (with_reducible first|(first|refine' tw1 (qh ?_) ?_|refine' tw2 (qh ?_) ?_);rotate_left|refine' tw3 (qh ?_)|rfl|apply tn|refine' tw4 ?_)
  go_ret2
  obtain⟨b1,b2,X⟩:=qa l _ ((qa NA).drewN 1) (by rw[qa z];decide)
  exact⟨by rw[b2,qa z];rfl,b1,X⟩
 have j9:(m.expiry==0)=false:=by simpa using e4
 have f9:=fun(W:World) (q:Q wA W)=>qr9 g S c false W ⟨lv,nv,av,(qa HA).upd (q.upd (fun _=>False)) (fun _ _ h=>h)⟩
 have e9:=qb f9
 clear f9
 go_wp2_with (with_reducible first|(first|refine' tw1 (qh ?_) ?_|refine' tw2 (qh ?_) ?_);rotate_left|refine' tw3 (qh ?_)|rfl|apply tn|refine' tw4 ?_)
 refine(qa e9 _ ((Q.refl _).drewN' 1)).mono ?_
 rintro e w1 ⟨rfl,g2⟩
 have n1:qx wA w1:=g2.ofDrew
 have f0:=n1.cell a8 (fun h=>h)
 have j4:=n1.cell m3 (fun h=>h)
 have c0:=(qa NA).trans n1
 have f1:=n1.old (qa BA) (fun h=>h)
 have T:=(qa HA).new n1
 have N1:=qb c0
 have A1:=qb f1
 have P1:=qb T
 clear a8 c9 d0 m3 m2 b6 e9 n1 g2 c0 f1 T
 by_cases e5:8≤qcx false c.xs
 ·have t:qar c m=130:=by unfold qar;rw[if_neg I,if_neg P,if_neg R,if_neg e4,if_pos e5]
  have g8:8≤(qcx false c.xs:Int):=by omega
  have z:=qb t
  clear t I J P R
  go_wp2_with (with_reducible first|(first|refine' tw1 (qh ?_) ?_|refine' tw2 (qh ?_) ?_);rotate_left|refine' tw3 (qh ?_)|rfl|apply tn|refine' tw4 ?_)
  go_ret2
  obtain⟨b1,b2,X⟩:=qa l _ (qa N1) (by rw[qa z];decide)
  exact⟨by rw[b2,qa z];rfl,b1,X⟩
 have g8:¬8≤(qcx false c.xs:Int):=by omega
 by_cases e6:c.rem<m.amount
 ·have t:qar c m=61:=by unfold qar;rw[if_neg I,if_neg P,if_neg R,if_neg e4,if_neg e5,if_pos e6]
  have z:=qb t
  clear t I J P R
  go_wp2_with (with_reducible first|(first|refine' tw1 (qh ?_) ?_|refine' tw2 (qh ?_) ?_);rotate_left|refine' tw3 (qh ?_)|rfl|apply tn|refine' tw4 ?_)
  go_ret2
  obtain⟨b1,b2,X⟩:=qa l _ ((qa N1).drewN 1) (by rw[qa z];decide)
  exact⟨by rw[b2,qa z];rfl,b1,X⟩
 have t:qar c m=0:=by unfold qar;rw[if_neg I,if_neg P,if_neg R,if_neg e4,if_neg e5,if_neg e6]
 have g0:c.hearAdd m=(c.added m,0):=by unfold Ch.hearAdd;rw[if_pos t]
 have HO:=qb g0
 have f7:m.id=c.k.nextTheirs:=by simpa using R
 clear g0 t I J P R l
 go_upto_region 11 with (with_reducible first|(first|refine' tw1 (qh ?_) ?_|refine' tw2 (qh ?_) ?_);rotate_left|refine' tw3 (qh ?_)|rfl|apply tn|refine' tw4 ?_)
 have nd:qx w1 w1.drew:=(Upd.refl _ _).drew
 have N2:=qb ((qa N1).trans nd)
 have A2:=qb (nd.old (qa A1) (fun h=>h))
 have P2:=qb ((qa P1).new nd)
 clear f0 j4 N1 A1 P1 nd
 generalize w1.drew=o at N2 A2 P2 ⊢
 obtain⟨m0,m1,m2,m3,b6,d8,m4⟩:=qt6 m (w:=o) (qa A2) V.len
 rw[f7] at m2
 clear m0 m1 d8
 have a7:=qa A2
 have T:=qa P2
 obtain⟨K,hK⟩:∃K:List Value,K = .int .u64 c.k.nextTheirs :: .int .u64 m.amount::(m.hash.map (Value.int .u8)++[.int .i64 m.expiry]):=⟨_,rfl⟩
 have Z:K.length=35:=by rw[hK];simp[V.len]
 have d2:K=zi (qei m).h:=by
  rw[hK,←f7]
  show _=Value.int .u64 m.id :: .int .u64 m.amount::((qhx m.hash).toList.map (Value.int .u8)++[.int .i64 m.expiry])
  rw[qfb V.len]
 have h4:(m.hash.map (Value.int .u8)).length=32:=by simp[V.len]
 have h8:∀W:World,(q47 #[(0,.int .u64 c.k.nextTheirs),(1,.int .u64 m.amount),(2,.agg (m.hash.map (Value.int .u8)).toArray),(3,.int .i64 m.expiry)]).run Tryz.prog W = .ok (.agg K.toArray) W:=fun W=>by
  rw[qye,if_pos h4,hK]
 have nD:qx o (o.alloc (.cells (zi Htlc.zero).toArray 79)):=(Upd.refl _ _).alloc _
 have d5:(o.alloc (.cells (zi Htlc.zero).toArray 79)).heap[o.heap.size]? = some (.cells (zi Htlc.zero).toArray 79 (0,0)):=qi o _
 have h3:w.heap.size≤o.heap.size:=(qa N2).size
 have d6:g≠o.heap.size:=by have:=zq T.at_;omega
 have h1:A≠o.heap.size:=by have:=zq a7;omega
 have a4:∀v∈K,v.oneCell'=true:=by rw[d2];exact qj0 _
 have i4:stOk (o.alloc (.cells (zi Htlc.zero).toArray 79)) o.heap.size 0 35 K.toArray=true:=qez (C:=(zi Htlc.zero).toArray) d5 (by rw[Z];rfl) a4
 have f5:((o.alloc (.cells (zi Htlc.zero).toArray 79)).setCells o.heap.size 0 K).heap[o.heap.size]? = some (.cells K.toArray 79 (0,0)):=by
  rw[qa1 d5 0 K,qcu _ _ (by rw[Z];rfl)]
 have uE:Upd (· = o.heap.size) (o.alloc (.cells (zi Htlc.zero).toArray 79)) ((o.alloc (.cells (zi Htlc.zero).toArray 79)).setCells o.heap.size 0 K):=(Upd.refl _ _).setCells 0 K
 have b8:qx o ((o.alloc (.cells (zi Htlc.zero).toArray 79)).setCells o.heap.size 0 K):=nD.then uE (fun i hi e=>by omega)
 have P3:=qb (T.new b8)
 have A3:=qb (b8.old a7 (fun h=>h))
 have E3:=qb f5
 have NW:=qb ((qa N2).trans b8)
 have HK:=qb hK
 have g3:=qb d2
 clear a7 T nD d5 a4 f5 uE b8 hK d2
 go_upto_region 12 with (with_reducible first|(first|refine' tw1 (qh ?_) ?_|refine' tw2 (qh ?_) ?_);rotate_left|refine' tw3 (qh ?_)|rfl|apply tn|refine' tw4 ?_)
 clear i4 h8 m4 m2 b6 m3
 obtain⟨E,hE⟩:∃E,E=o.heap.size:=⟨_,rfl⟩
 rw[←hE] at h3 d6 h1 E3 A3 P3 NW ⊢
 generalize (o.alloc (.cells (zi Htlc.zero).toArray 79)).setCells E 0 K=w3 at P3 A3 E3 NW ⊢
 clear hE
 have j:=qa P3
 have a8:w3.cell? ⟨g,46,none⟩=some (.int .u64 c.rem):=j.toR.rem
 have h0:w3.frozen? ⟨g,46,none⟩=false:=qm j.at_ 46
 obtain⟨-,-,-,m3,-,-,-⟩:=qt6 m (qa A3) V.len
 have k2:=j.ok.rem
 have k4:=j.ok.nextTheirs
 have k3:=V.amount
 have i5:IntKind.u64.wrap (c.rem-m.amount)=c.rem-m.amount:=qd3 (by omega) (by omega)
 obtain⟨c1,H⟩:∃c1:Ch,c1 = {c with rem:=c.rem-m.amount} := ⟨_,rfl⟩
 have c7:c1.Ok:=by
  rw[H]
  exact⟨j.ok.s,j.ok.signed,j.ok.heard,j.ok.nextOwn,j.ok.nextTheirs,j.ok.loc,show 0≤c.rem-m.amount∧c.rem-m.amount<_ by omega,j.ok.xs,j.ok.few,j.ok.shelf,j.ok.news,j.ok.last,j.ok.many⟩
 have f:=j.put (i:=46) (x:= .int .u64 (c.rem-m.amount)) (c':=c1) (by rw[H];exact q1m c lv nv av j.ok.s.seed (c.rem-m.amount)) c7 (by rw[H]) (by rw[H]) (by rw[H])
 have u4:Upd (· = g) w3 (w3.setCell ⟨g,46,none⟩ (.int .u64 (c.rem-m.amount))):=(Upd.refl _ _).set1 46 _
 have P4:=qb f
 have A4:=qb (u4.old (qa A3) (fun e=>i1 e.symm))
 have E4:=qb (u4.old (qa E3) (fun e=>d6 e.symm))
 have U4:=qb (((qa NW).mono (fun _ _ h=>h.elim)).trans (u4.mono (fun k _ e=>by rw[e];exact(qa H0).inG)):Upd S w _)
 clear j c7 f u4 P3 A3 E3 NW
 go_upto_region 13 with (with_reducible first|(first|refine' tw1 (qh ?_) ?_|refine' tw2 (qh ?_) ?_);rotate_left|refine' tw3 (qh ?_)|rfl|apply tn|refine' tw4 ?_)
 clear a8 h0 i5 m3
 generalize w3.setCell ⟨g,46,none⟩ (.int .u64 (c.rem-m.amount))=w4 at P4 A4 E4 U4 ⊢
 have f:=qa P4
 have i3:c1.k=c.k:=by rw[H]
 have c9:w4.cell? ⟨g,41,none⟩=some (.int .u64 c.k.nextTheirs):=by rw[←i3];exact f.toR.nextTheirs
 have g9:w4.frozen? ⟨g,41,none⟩=false:=qm f.at_ 41
 obtain⟨F,a9⟩:∃x,x=IntKind.u64.wrap (c.k.nextTheirs+1):=⟨_,rfl⟩
 have f4:0≤F∧F<18446744073709551616:=by rw[a9,IntKind.wrap_u64];omega
 have i6:IntKind.u64.wrap (c.k.nextTheirs+1)=F:=a9.symm
 obtain⟨c2,N⟩:∃c2:Ch,c2 = {c1 with k:= {c1.k with nextTheirs:=F}} := ⟨_,rfl⟩
 have c8:c2.Ok:=by
  rw[N]
  exact⟨f.ok.s,f.ok.signed,f.ok.heard,f.ok.nextOwn,f4,f.ok.loc,f.ok.rem,f.ok.xs,f.ok.few,f.ok.shelf,f.ok.news,f.ok.last,f.ok.many⟩
 have M:=f.put (i:=41) (x:= .int .u64 F) (c':=c2) (by rw[N];exact qke c1 lv nv av f.ok.s.seed F) c8 (by rw[N]) (by rw[N]) (by rw[N])
 have u5:Upd (· = g) w4 (w4.setCell ⟨g,41,none⟩ (.int .u64 F)):=(Upd.refl _ _).set1 41 _
 have P5:=qb M
 have E5:=qb (u5.old (qa E4) (fun e=>d6 e.symm))
 have U5:=qb ((qa U4).trans (u5.mono (fun k _ e=>by rw[e];exact(qa H0).inG)))
 have e0:=qb H
 have e7:=qb N
 have g4:=qb a9
 clear f c8 M u5 P4 A4 E4 U4 H N a9
 go_upto_region 14 with (with_reducible first|(first|refine' tw1 (qh ?_) ?_|refine' tw2 (qh ?_) ?_);rotate_left|refine' tw3 (qh ?_)|rfl|apply tn|refine' tw4 ?_)
 clear c9 g9 i6
 generalize w4.setCell ⟨g,41,none⟩ (.int .u64 F)=d9 at P5 E5 U5 ⊢
 have b7:qx d9 d9.drew:=(Upd.refl _ _).drew
 replace P5:=qb ((qa P5).new b7)
 replace E5:=qb (b7.old (qa E5) (fun h=>h))
 replace U5:=qb ((qa U5).trans (b7.mono (fun _ _ h=>h.elim)))
 clear b7
 generalize d9.drew=w5 at P5 E5 U5 ⊢
 have M:=qa P5
 have d1:w5.drew.cell? ⟨g,47,none⟩=some lv:=M.toR.live
 have rE:zr w5 E 0 35=some K.toArray:=qaj (qa E5) 35 (by rw[List.size_toArray,Z])
 obtain⟨L,hL⟩:∃L:List Value,L=K++([.bool false,.int .i64 0,.bool false]:List Value):=⟨_,rfl⟩
 have h5:L.length=38:=by rw[hL];simp[Z]
 have f3:L=ql (qei m):=by rw[hL,qa g3];rfl
 have h7:∀W:World,(qva #[(0,.agg K.toArray),(2,.int .i64 0)]).run Tryz.prog W = .ok (.agg L.toArray) W:=fun W=>by rw[q83,if_pos Z,hL]
 obtain⟨i9,z9,b9,i2,j3,i8,j0,j1,h6⟩:=qi4
 obtain⟨la,j7,f8⟩:=qv M.live
 have g1:c2.xs=c.xs:=by rw[qa e7,qa e0]
 have nF:qx w5 (w5.alloc (.cells L.toArray 81)).drew:=((Upd.refl _ _).alloc _).drew
 have b4:(w5.alloc (.cells L.toArray 81)).drew.heap[w5.heap.size]? = some (.cells L.toArray 81 (0,0)):=qi w5 _
 have P6:=qb (M.new nF)
 have U6:=qb ((qa U5).trans (nF.mono (fun _ _ h=>h.elim)))
 have Y:=nF.cell d1 (fun h=>h)
 have h2:w.heap.size≤w5.heap.size:=by have:=zq (qa E5);omega
 have HL:=qb hL
 have e8:=qb f3
 have g5:=qb g1
 clear M P5 E5 U5 hL f3 g1
 refine qb2 (fun w'=>w'.cell? ⟨g,47,none⟩=some lv) [4] (.of [0,1,2,3,4,5,6,7,8,9,10,11]) (by kernel_rfl) (by kernel_rfl) d1 ?_
 simp only[Plan.of]
 go_wp2_with (with_reducible first|(first|refine' qw1 (qh ?_) ?_|refine' qw2 (qh ?_) ?_|refine' qw3 (qh ?_) ?_);rotate_left|refine' qw4 (qh ?_)|refine' qw5 (qh ?_)|rfl|apply qn)
 refine⟨trivial,?_⟩
 clear d1 nF rE h7
 generalize (w5.alloc (.cells L.toArray 81)).drew=w6 at b4 P6 U6 Y ⊢
 generalize w5.heap.size=D at b4 h2 ⊢
 have y:=(qa P6).live
 unfold qs5 at y
 rw[f8] at y
 have HN:=qb y
 clear y
 have i0:c2.xs.length<1000000:=by rw[qa g5];exact f6
 go_wp2_with (first | (at_builtin;refine wpList_append_own_at _ rfl (.tmp 77) (.tmp 80) 43 rfl 0 81 i9 _ 38 b9 Tryz.underlying43 i2 j3 i8 j0 j1 (by decide) _ _ _ rfl (qa HN) ⟨D,0,none⟩ 1 1 L rfl (by rw[h5]) ?c1 ?c2 ?c3 ?c4 ?c5 ?_) | (with_reducible first|(first|refine' qw1 (qh ?_) ?_|refine' qw2 (qh ?_) ?_|refine' qw3 (qh ?_) ?_);rotate_left|refine' qw4 (qh ?_)|refine' qw5 (qh ?_)|rfl|apply qn))
 case c1=>exact World.news_of_block (cs:=L.toArray) (fr:=(0,0)) b4
 case c2=>rw[qa e8];exact qdy _
 case c3=>unfold maxLen;omega
 case c4=>have:=Nat.mul_le_mul (show c2.xs.length+1≤1000000 by omega) h6;omega
 case c5=>omega
 intro v' wE O b5 _ a6
 obtain⟨a',j6,d7⟩:=qv O
 rw[←f8] at b5 a6
 have i7:LiveOk (qei m):=⟨⟨⟨V.id.1,by have:=V.id.2;show m.id≤_;omega⟩,⟨V.amount.1,by show m.amount≤_;omega⟩,by rw[show (qei m).h.hash=qhx m.hash from rfl,qfb V.len];exact V.hash,V.expiry⟩,⟨by show (-9223372036854775808:Int)≤0;decide,by show (0:Int)≤9223372036854775807;decide⟩⟩
 have d4:=(qa P6).appLive (qei m) i7 i0 v' (by rw[←qa e8];exact O) b5 a6
 have uE:Upd (fun k=>lv.ownBlock=some k) w6 wE:=(Upd.refl _ _).grown b5 (fun k U _=>U)
 have c6:=uE.old (qa P6).at_ (fun e=>by
  obtain⟨g6,hc⟩:=qw (qa P6).live g e
  exact za (qa P6).at_ hc (by decide) rfl)
 have k0:wE.frozen? ⟨g,47,none⟩=false:=qm c6 47
 have j5:wE.cell? ⟨g,47,none⟩=some lv:=uE.cell Y (fun e=>by
  obtain⟨g6,hc⟩:=qw (qa P6).live g e
  exact za (qa P6).at_ hc (by decide) rfl)
 have U7:=qb ((qa U6).trans d4.2)
 have P7:=qb d4.1
 have j2:=qb (qa U6).size
 rw[d7] at U7 P7
 clear O b5 a6 d4 uE c6 Y b4 HN
 rw[d7]
 clear d7
 go_wp2_with (with_reducible first|(first|refine' qw1 (qh ?_) ?_|refine' qw2 (qh ?_) ?_|refine' qw3 (qh ?_) ?_);rotate_left|refine' qw4 (qh ?_)|refine' qw5 (qh ?_)|rfl|apply qn)
 go_ret2
 have h9:({c2 with xs:=c2.xs++[qei m]} : Ch)=c.added m:=by
  rw[qa e7,qa e0,qa g4]
  rfl
 have d3:=qa P7
 rw[h9] at d3
 rw[qa HO]
 refine⟨rfl,⟨_,_,_,d3.wider (fun k U=> ?_) (fun k U=> ?_)⟩,qa U7⟩
 ·have:=qa j2
  rcases U with U | U
  ·exact .inl U
  ·exact .inr ⟨by omega,U.2⟩
 ·rcases U with U | U
  ·exact d3.lt k (.inl U)
  ·exact U.2
end Go.Proofs.YtjpmomdechibmaaGreatDoor
