/-
  What a message is to a hearer; hearAdd.
-/
import Derived.Test.YtfmkdoachjgjbaaGreatDoorMbb
set_option maxRecDepth 100000
set_option maxHeartbeats 800000
set_option linter.unusedVariables false
set_option linter.unusedSimpArgs false
namespace Go.Proofs.YtfmkdoachjgjbaaGreatDoor
open Go.RowKit
theorem qwg(s:Int)(H:List Value)(h:H.length=35):Tryz.prog.built 69 [(0,.agg H.toArray),(2,.int .i64 s)]=some (H++([.bool false,.int .i64 s,.bool false]:List Value)).toArray:=by
 obtain⟨i,z,m,v,f⟩:=qc6 Tryz.zeroLive';obtain⟨C,r,q⟩:=Tryz.placesLiv;rw[qbq m r v q];rw[qc9 (P:=[]) (A:=H) (Z:=qk Htlc.zero) (R:=[.bool false,.int .i64 0,.bool false]) (off:=0) (by rw[h];rfl) rfl (by rw[h];rfl) (f.trans qm8)];rw[qb4 (P:=H++[.bool false]) (z:= .int .i64 0) (R:=[.bool false]) (off:=36) rfl (by simp[h]) rfl (by simp)];rw[Instr.fill];simp
theorem q8j(s:Int)(H:List Value)(w:World):(qti #[(0,.agg H.toArray),(2,.int .i64 s)]).run Tryz.prog w=if H.length=35 then .ok (.agg (H++([.bool false,.int .i64 s,.bool false]:List Value)).toArray) w else (Instr.build 69 #[(0,.agg H.toArray),(2,.int .i64 s)]).run Tryz.prog w:=by
 by_cases h:H.length=35
 ·rw[if_pos h];exact run_build w _ _ _ (qwg s H h)
 ·rw[if_neg h];rfl
attribute [local go_sem ↓ high] qbf qbs qci qgk zl qdr qm0 qma qiw qme
attribute [local go_sem] qdo qd2 qfl qr1 qx qbl qkb q7q q3t qrv
structure MsgOk(m:MsgV):Prop where
 kind : -9223372036854775808≤m.kind∧m.kind≤9223372036854775807
 ch:0≤m.ch∧m.ch<4294967296
 id:0≤m.id∧m.id<18446744073709551616
 amount:0≤m.amount∧m.amount<18446744073709551616
 len:m.hash.length=32
 hash:∀b∈m.hash,0≤b∧b≤255
 expiry : -9223372036854775808≤m.expiry∧m.expiry≤9223372036854775807
 number : -9223372036854775808≤m.number∧m.number≤9223372036854775807
def qa8(l:List Int):Vector Int 32:=if h:l.length=32 then ⟨l.toArray,by simpa using h⟩ else Vector.replicate 32 0
theorem qd4{l:List Int}(h:l.length=32):(qa8 l).toList=l:=by
 unfold qa8;rw[dif_pos h];rfl
theorem qso(m:MsgV){w:World}{b:Nat}{T:TypeId}{q:Nat × Nat}(h:w.heap[b]? = some (.cells m.cells.toArray T q))(i:m.hash.length=32) :
  w.cell? ⟨b,0,none⟩=some (.int .i64 m.kind)∧w.cell? ⟨b,1,none⟩=some (.int .u32 m.ch)∧w.cell? ⟨b,2,none⟩=some (.int .u64 m.id)∧w.cell? ⟨b,3,none⟩=some (.int .u64 m.amount)∧w.cell? ⟨b,36,none⟩=some (.int .i64 m.expiry)∧w.cell? ⟨b,37,none⟩=some (.int .i64 m.number)∧zf w b 4 32=some (m.hash.map (Value.int .u8)).toArray:=by
 have f:∀j,m.cells[36+j]? = ([.int .i64 m.expiry,.int .i64 m.number]:List Value)[j]? := by
  intro j;unfold MsgV.cells;rw[show 36+j=(32+j)+4 by omega];simp only[List.getElem?_cons_succ];rw[List.getElem?_append_right (by simp[i]),List.length_map,i,Nat.add_sub_cancel_left]
 refine⟨qg h 0,qg h 1,qg h 2,qg h 3,?_,?_,?_⟩
 ·rw[qg h 36,List.getElem?_toArray];exact f 0
 ·rw[qg h 37,List.getElem?_toArray];exact f 1
 ·rw[qb8 h 4 32 (by rw[List.size_toArray,m.len i];omega)];congr 1;apply Array.ext';rw[Array.toList_extract];unfold MsgV.cells;simp[i]
def qa6(c:Ch)(m:MsgV):Int :=
 if c.k.shutHeard=true then 135 else if m.amount=0 then 1 else if m.id≠c.k.nextTheirs then 1 else if m.expiry=0 then 131 else if 8≤qeu false c.xs then 130 else if c.rem<m.amount then 61 else 0
def qht(m:MsgV):Live:=⟨⟨m.id,m.amount,qa8 m.hash,m.expiry⟩,false,0,false⟩
def Ch.added(c:Ch)(m:MsgV):Ch:= {c with rem:=c.rem-m.amount,k:= {c.k with nextTheirs:=IntKind.u64.wrap (c.k.nextTheirs+1)},xs:=c.xs++[qht m]}
def Ch.hearAdd(c:Ch)(m:MsgV):Ch × Int:=if qa6 c m=0 then (c.added m,0) else (c,qa6 c m)
theorem qub(g:Nat)(S:Nat→Prop)(c:Ch)(m:MsgV)(hm:MsgOk m)(w:World)(h:ChS w g S c)(g1:c.xs.length<1000000) :
  Calls Tryz.prog 176 #[.pointer (some ⟨g,0,none⟩),.agg m.cells.toArray] w fun e w' =>
   e = .returned (.tuple #[qcu,.int .i64 (c.hearAdd m).2])∧ChS w' g (Fr S w w') (c.hearAdd m).1∧Upd S w w':=by
 obtain⟨lv,nv,av,h⟩:=h
 go_enter Tryz.func176,Tryz.ntmps176
 go_upto_region 1 with fail
 have b4:(w.alloc (.cells m.cells.toArray 101)).heap[w.heap.size]? = some (.cells m.cells.toArray 101 (0,0)):=qj _ _
 have nA:qq w (w.alloc (.cells m.cells.toArray 101)):=(Upd.refl _ _).alloc _
 generalize w.alloc (.cells m.cells.toArray 101)=wA at b4 nA ⊢
 obtain⟨A,f7⟩:∃A,A=w.heap.size:=⟨_,rfl⟩
 rw[←f7] at b4 ⊢
 have hA:=h.new nA
 have i6:g≠A:=by have:=h.lt g h.inG;omega
 have k8:w.heap.size≤A:=by omega
 clear f7
 have d5:wA.cell? ⟨g,43,none⟩=some (.bool c.k.shutHeard):=hA.toR.shutHeard
 have d4:wA.cell? ⟨g,41,none⟩=some (.int .u64 c.k.nextTheirs):=hA.toR.nextTheirs
 have b7:wA.cell? ⟨g,46,none⟩=some (.int .u64 c.rem):=hA.toR.rem
 obtain⟨m0,m1,m2,m3,c7,e9,m4⟩:=qso m b4 hm.len
 have bad:∀W,qq w W→qa6 c m≠0→ChS W g (Fr S w W) (c.hearAdd m).1∧(c.hearAdd m).2=qa6 c m∧Upd S w W:=by
  intro W nW H;unfold Ch.hearAdd;rw[if_neg H];exact⟨(h.new nW).fr w,rfl,nW.mono (fun _ _ h=>h.elim)⟩
 have z:=qb bad
 have H0:=qb h
 have HA:=qb hA
 have NA:=qb nA
 have BA:=qb b4
 clear bad h hA nA b4 m0 m1 e9 m4
 by_cases O:c.k.shutHeard=true
 ·have H:qa6 c m=135:=by unfold qa6;rw[if_pos O]
  rw[O] at d5;have J:=qb H;clear H O;go_wp2_with (with_reducible first|(first|refine' tw1 (qh ?_) ?_|refine' tw2 (qh ?_) ?_);rotate_left|refine' tw3 (qh ?_)|rfl|apply tn|refine' tw4 ?_);go_ret2;obtain⟨b1,b2,b3⟩:=qa z wA (qa NA) (by rw[qa J];decide);exact⟨by rw[b2,qa J];rfl,b1,b3⟩
 have P:c.k.shutHeard=false:=by simpa using O
 rw[P] at d5
 by_cases V:m.amount=0
 ·have H:qa6 c m=1:=by unfold qa6;rw[if_neg O,if_pos V]
  rw[V] at m3;have J:=qb H;clear H O P;go_wp2_with (with_reducible first|(first|refine' tw1 (qh ?_) ?_|refine' tw2 (qh ?_) ?_);rotate_left|refine' tw3 (qh ?_)|rfl|apply tn|refine' tw4 ?_);go_ret2;obtain⟨b1,b2,b3⟩:=qa z _ ((qa NA).drewN 1) (by rw[qa J];decide);exact⟨by rw[b2,qa J];rfl,b1,b3⟩
 have k5:(m.amount==0)=false:=by simpa using V
 by_cases X:m.id≠c.k.nextTheirs
 ·have H:qa6 c m=1:=by unfold qa6;rw[if_neg O,if_neg V,if_pos X]
  have h2:(m.id != c.k.nextTheirs)=true:=by simpa using X
  have J:=qb H;clear H O P V X;go_wp2_with (with_reducible first|(first|refine' tw1 (qh ?_) ?_|refine' tw2 (qh ?_) ?_);rotate_left|refine' tw3 (qh ?_)|rfl|apply tn|refine' tw4 ?_);go_ret2;obtain⟨b1,b2,b3⟩:=qa z _ ((qa NA).drewN 1) (by rw[qa J];decide);exact⟨by rw[b2,qa J];rfl,b1,b3⟩
 have h2:(m.id != c.k.nextTheirs)=false:=by simpa using X
 by_cases e4:m.expiry=0
 ·have H:qa6 c m=131:=by unfold qa6;rw[if_neg O,if_neg V,if_neg X,if_pos e4]
  rw[e4] at c7;have J:=qb H;clear H O P V X;go_wp2_with (with_reducible first|(first|refine' tw1 (qh ?_) ?_|refine' tw2 (qh ?_) ?_);rotate_left|refine' tw3 (qh ?_)|rfl|apply tn|refine' tw4 ?_);go_ret2;obtain⟨b1,b2,b3⟩:=qa z _ ((qa NA).drewN 1) (by rw[qa J];decide);exact⟨by rw[b2,qa J];rfl,b1,b3⟩
 have k6:(m.expiry==0)=false:=by simpa using e4
 have g4:=fun(W:World) (q:Q wA W)=>qqu g S c false W ⟨lv,nv,av,(qa HA).upd (q.upd (fun _=>False)) (fun _ _ h=>h)⟩
 have f4:=qb g4
 clear g4
 go_wp2_with (with_reducible first|(first|refine' tw1 (qh ?_) ?_|refine' tw2 (qh ?_) ?_);rotate_left|refine' tw3 (qh ?_)|rfl|apply tn|refine' tw4 ?_)
 refine(qa f4 _ ((Q.refl _).drewN' 1)).mono ?_
 rintro e w1 ⟨rfl,g7⟩
 have n1:qq wA w1:=g7.ofDrew
 have f5:=n1.cell b7 (fun h=>h)
 have j9:=n1.cell m3 (fun h=>h)
 have d0:=(qa NA).trans n1
 have f6:=n1.old (qa BA) (fun h=>h)
 have Y:=(qa HA).new n1
 have N1:=qb d0
 have A1:=qb f6
 have P1:=qb Y
 clear b7 d4 d5 m3 m2 c7 f4 n1 g7 d0 f6 Y
 by_cases e5:8≤qeu false c.xs
 ·have H:qa6 c m=130:=by unfold qa6;rw[if_neg O,if_neg V,if_neg X,if_neg e4,if_pos e5]
  have h3:8≤(qeu false c.xs:Int):=by omega
  have J:=qb H;clear H O P V X;go_wp2_with (with_reducible first|(first|refine' tw1 (qh ?_) ?_|refine' tw2 (qh ?_) ?_);rotate_left|refine' tw3 (qh ?_)|rfl|apply tn|refine' tw4 ?_);go_ret2;obtain⟨b1,b2,b3⟩:=qa z _ (qa N1) (by rw[qa J];decide);exact⟨by rw[b2,qa J];rfl,b1,b3⟩
 have h3:¬8≤(qeu false c.xs:Int):=by omega
 by_cases e6:c.rem<m.amount
 ·have H:qa6 c m=61:=by unfold qa6;rw[if_neg O,if_neg V,if_neg X,if_neg e4,if_neg e5,if_pos e6]
  have J:=qb H;clear H O P V X;go_wp2_with (with_reducible first|(first|refine' tw1 (qh ?_) ?_|refine' tw2 (qh ?_) ?_);rotate_left|refine' tw3 (qh ?_)|rfl|apply tn|refine' tw4 ?_);go_ret2;obtain⟨b1,b2,b3⟩:=qa z _ ((qa N1).drewN 1) (by rw[qa J];decide);exact⟨by rw[b2,qa J];rfl,b1,b3⟩
 have H:qa6 c m=0:=by unfold qa6;rw[if_neg O,if_neg V,if_neg X,if_neg e4,if_neg e5,if_neg e6]
 have g5:c.hearAdd m=(c.added m,0):=by unfold Ch.hearAdd;rw[if_pos H]
 have HO:=qb g5
 have g2:m.id=c.k.nextTheirs:=by simpa using X
 clear g5 H O P V X z
 go_upto_region 11 with (with_reducible first|(first|refine' tw1 (qh ?_) ?_|refine' tw2 (qh ?_) ?_);rotate_left|refine' tw3 (qh ?_)|rfl|apply tn|refine' tw4 ?_)
 have nd:qq w1 w1.drew:=(Upd.refl _ _).drew
 have N2:=qb ((qa N1).trans nd)
 have A2:=qb (nd.old (qa A1) (fun h=>h))
 have P2:=qb ((qa P1).new nd)
 clear f5 j9 N1 A1 P1 nd
 generalize w1.drew=F at N2 A2 P2 ⊢
 obtain⟨m0,m1,m2,m3,c7,e9,m4⟩:=qso m (w:=F) (qa A2) hm.len
 rw[g2] at m2
 clear m0 m1 e9
 have b6:=qa A2
 have Y:=qa P2
 obtain⟨K,hK⟩:∃K:List Value,K = .int .u64 c.k.nextTheirs :: .int .u64 m.amount::(m.hash.map (Value.int .u8)++[.int .i64 m.expiry]):=⟨_,rfl⟩
 have a7:K.length=35:=by rw[hK];simp[hm.len]
 have d7:K=qk (qht m).h:=by
  rw[hK,←g2];show _=Value.int .u64 m.id :: .int .u64 m.amount::((qa8 m.hash).toList.map (Value.int .u8)++[.int .i64 m.expiry]);rw[qd4 hm.len]
 have h9:(m.hash.map (Value.int .u8)).length=32:=by simp[hm.len]
 have i3:∀W:World,(q3x #[(0,.int .u64 c.k.nextTheirs),(1,.int .u64 m.amount),(2,.agg (m.hash.map (Value.int .u8)).toArray),(3,.int .i64 m.expiry)]).run Tryz.prog W = .ok (.agg K.toArray) W:=fun W=>by
  rw[qrv,if_pos h9,hK]
 have nD:qq F (F.alloc (.cells (qk Htlc.zero).toArray 41)):=(Upd.refl _ _).alloc _
 have e0:(F.alloc (.cells (qk Htlc.zero).toArray 41)).heap[F.heap.size]? = some (.cells (qk Htlc.zero).toArray 41 (0,0)):=qj F _
 have h8:w.heap.size≤F.heap.size:=(qa N2).size
 have e7:g≠F.heap.size:=by have:=zr Y.at_;omega
 have h6:A≠F.heap.size:=by have:=zr b6;omega
 have a8:∀v∈K,v.oneCell'=true:=by rw[d7];exact qi2 _
 have j0:stOk (F.alloc (.cells (qk Htlc.zero).toArray 41)) F.heap.size 0 35 K.toArray=true:=qem (C:=(qk Htlc.zero).toArray) e0 (by rw[a7];rfl) a8
 have g0:((F.alloc (.cells (qk Htlc.zero).toArray 41)).setCells F.heap.size 0 K).heap[F.heap.size]? = some (.cells K.toArray 41 (0,0)):=by
  rw[qba e0 0 K,qcz _ _ (by rw[a7];rfl)]
 have uE:Upd (· = F.heap.size) (F.alloc (.cells (qk Htlc.zero).toArray 41)) ((F.alloc (.cells (qk Htlc.zero).toArray 41)).setCells F.heap.size 0 K):=(Upd.refl _ _).setCells 0 K
 have c9:qq F ((F.alloc (.cells (qk Htlc.zero).toArray 41)).setCells F.heap.size 0 K):=nD.then uE (fun i hi e=>by omega)
 have P3:=qb (Y.new c9)
 have A3:=qb (c9.old b6 (fun h=>h))
 have E3:=qb g0
 have NW:=qb ((qa N2).trans c9)
 have HK:=qb hK
 have g8:=qb d7
 clear b6 Y nD e0 a8 g0 uE c9 hK d7
 go_upto_region 12 with (with_reducible first|(first|refine' tw1 (qh ?_) ?_|refine' tw2 (qh ?_) ?_);rotate_left|refine' tw3 (qh ?_)|rfl|apply tn|refine' tw4 ?_)
 clear j0 i3 m4 m2 c7 m3
 obtain⟨E,hE⟩:∃E,E=F.heap.size:=⟨_,rfl⟩
 rw[←hE] at h8 e7 h6 E3 A3 P3 NW ⊢
 generalize (F.alloc (.cells (qk Htlc.zero).toArray 41)).setCells E 0 K=w3 at P3 A3 E3 NW ⊢
 clear hE
 have r:=qa P3
 have b7:w3.cell? ⟨g,46,none⟩=some (.int .u64 c.rem):=r.toR.rem
 have h5:w3.frozen? ⟨g,46,none⟩=false:=qv r.at_ 46
 obtain⟨-,-,-,m3,-,-,-⟩:=qso m (qa A3) hm.len
 have k9:=r.ok.rem
 have l3:=r.ok.nextTheirs
 have l0:=hm.amount
 have j1:IntKind.u64.wrap (c.rem-m.amount)=c.rem-m.amount:=qgs (by omega) (by omega)
 obtain⟨c1,N⟩:∃c1:Ch,c1 = {c with rem:=c.rem-m.amount} := ⟨_,rfl⟩
 have d2:c1.Ok:=by
  rw[N];exact⟨r.ok.s,r.ok.signed,r.ok.heard,r.ok.nextOwn,r.ok.nextTheirs,r.ok.loc,show 0≤c.rem-m.amount∧c.rem-m.amount<_ by omega,r.ok.xs,r.ok.few,r.ok.shelf,r.ok.news,r.ok.last,r.ok.many⟩
 have f:=r.put (i:=46) (x:= .int .u64 (c.rem-m.amount)) (c':=c1) (by rw[N];exact qzp c lv nv av r.ok.s.seed (c.rem-m.amount)) d2 (by rw[N]) (by rw[N]) (by rw[N])
 have u4:Upd (· = g) w3 (w3.setCell ⟨g,46,none⟩ (.int .u64 (c.rem-m.amount))):=(Upd.refl _ _).set1 46 _
 have P4:=qb f
 have A4:=qb (u4.old (qa A3) (fun e=>i6 e.symm))
 have E4:=qb (u4.old (qa E3) (fun e=>e7 e.symm))
 have U4:=qb (((qa NW).mono (fun _ _ h=>h.elim)).trans (u4.mono (fun k _ e=>by rw[e];exact(qa H0).inG)):Upd S w _)
 clear r d2 f u4 P3 A3 E3 NW
 go_upto_region 13 with (with_reducible first|(first|refine' tw1 (qh ?_) ?_|refine' tw2 (qh ?_) ?_);rotate_left|refine' tw3 (qh ?_)|rfl|apply tn|refine' tw4 ?_)
 clear b7 h5 j1 m3
 generalize w3.setCell ⟨g,46,none⟩ (.int .u64 (c.rem-m.amount))=w4 at P4 A4 E4 U4 ⊢
 have f:=qa P4
 have i8:c1.k=c.k:=by rw[N]
 have d4:w4.cell? ⟨g,41,none⟩=some (.int .u64 c.k.nextTheirs):=by rw[←i8];exact f.toR.nextTheirs
 have h4:w4.frozen? ⟨g,41,none⟩=false:=qv f.at_ 41
 obtain⟨M,b8⟩:∃x,x=IntKind.u64.wrap (c.k.nextTheirs+1):=⟨_,rfl⟩
 have f9:0≤M∧M<18446744073709551616:=by rw[b8,IntKind.wrap_u64];omega
 have j2:IntKind.u64.wrap (c.k.nextTheirs+1)=M:=b8.symm
 obtain⟨c2,T⟩:∃c2:Ch,c2 = {c1 with k:= {c1.k with nextTheirs:=M}} := ⟨_,rfl⟩
 have d3:c2.Ok:=by
  rw[T];exact⟨f.ok.s,f.ok.signed,f.ok.heard,f.ok.nextOwn,f9,f.ok.loc,f.ok.rem,f.ok.xs,f.ok.few,f.ok.shelf,f.ok.news,f.ok.last,f.ok.many⟩
 have R:=f.put (i:=41) (x:= .int .u64 M) (c':=c2) (by rw[T];exact qpd c1 lv nv av f.ok.s.seed M) d3 (by rw[T]) (by rw[T]) (by rw[T])
 have u5:Upd (· = g) w4 (w4.setCell ⟨g,41,none⟩ (.int .u64 M)):=(Upd.refl _ _).set1 41 _
 have P5:=qb R
 have E5:=qb (u5.old (qa E4) (fun e=>e7 e.symm))
 have U5:=qb ((qa U4).trans (u5.mono (fun k _ e=>by rw[e];exact(qa H0).inG)))
 have f1:=qb N
 have f2:=qb T
 have g9:=qb b8
 clear f d3 R u5 P4 A4 E4 U4 N T b8
 go_upto_region 14 with (with_reducible first|(first|refine' tw1 (qh ?_) ?_|refine' tw2 (qh ?_) ?_);rotate_left|refine' tw3 (qh ?_)|rfl|apply tn|refine' tw4 ?_)
 clear d4 h4 j2
 generalize w4.setCell ⟨g,41,none⟩ (.int .u64 M)=f0 at P5 E5 U5 ⊢
 have c8:qq f0 f0.drew:=(Upd.refl _ _).drew
 replace P5:=qb ((qa P5).new c8)
 replace E5:=qb (c8.old (qa E5) (fun h=>h))
 replace U5:=qb ((qa U5).trans (c8.mono (fun _ _ h=>h.elim)))
 clear c8
 generalize f0.drew=w5 at P5 E5 U5 ⊢
 have R:=qa P5
 have d6:w5.drew.cell? ⟨g,47,none⟩=some lv:=R.toR.live
 have rE:zf w5 E 0 35=some K.toArray:=qas (qa E5) 35 (by rw[List.size_toArray,a7])
 obtain⟨L,hL⟩:∃L:List Value,L=K++([.bool false,.int .i64 0,.bool false]:List Value):=⟨_,rfl⟩
 have i0:L.length=38:=by rw[hL];simp[a7]
 have f8:L=qo (qht m):=by rw[hL,qa g8];rfl
 have i2:∀W:World,(qti #[(0,.agg K.toArray),(2,.int .i64 0)]).run Tryz.prog W = .ok (.agg L.toArray) W:=fun W=>by rw[q8j,if_pos a7,hL]
 obtain⟨i9,z9,b9,i7,j8,j4,j5,j6,i1⟩:=qkc
 obtain⟨la,k4,g3⟩:=qaf R.live
 have g6:c2.xs=c.xs:=by rw[qa f2,qa f1]
 have nF:qq w5 (w5.alloc (.cells L.toArray 69)).drew:=((Upd.refl _ _).alloc _).drew
 have c0:(w5.alloc (.cells L.toArray 69)).drew.heap[w5.heap.size]? = some (.cells L.toArray 69 (0,0)):=qj w5 _
 have P6:=qb (R.new nF)
 have U6:=qb ((qa U5).trans (nF.mono (fun _ _ h=>h.elim)))
 have a6:=nF.cell d6 (fun h=>h)
 have h7:w.heap.size≤w5.heap.size:=by have:=zr (qa E5);omega
 have HL:=qb hL
 have f3:=qb f8
 have h0:=qb g6
 clear R P5 E5 U5 hL f8 g6
 refine qa1 (fun w'=>w'.cell? ⟨g,47,none⟩=some lv) [4] (.of [0,1,2,3,4,5,6,7,8,9,10,11]) (by kernel_rfl) (by kernel_rfl) d6 ?_
 simp only[Plan.of]
 go_wp2_with (with_reducible first|(first|refine' zv (qh ?_) ?_|refine' zx (qh ?_) ?_|refine' zy (qh ?_) ?_);rotate_left|refine' zz (qh ?_)|refine' qw5 (qh ?_)|rfl|apply qn)
 refine⟨trivial,?_⟩
 clear d6 nF rE i2
 generalize (w5.alloc (.cells L.toArray 69)).drew=w6 at c0 P6 U6 a6 ⊢
 generalize w5.heap.size=D at c0 h7 ⊢
 have I:=(qa P6).live
 unfold qrm at I
 rw[g3] at I
 have HN:=qb I
 clear I
 have i5:c2.xs.length<1000000:=by rw[qa h0];exact g1
 go_wp2_with (first | (at_builtin;refine wpList_append_own_at _ rfl (.tmp 77) (.tmp 80) 46 rfl 0 69 i9 _ 38 b9 Tryz.underlying46 i7 j8 j4 j5 j6 (by decide) _ _ _ rfl (qa HN) ⟨D,0,none⟩ 1 1 L rfl (by rw[i0]) ?c1 ?c2 ?c3 ?c4 ?c5 ?_) | (with_reducible first|(first|refine' zv (qh ?_) ?_|refine' zx (qh ?_) ?_|refine' zy (qh ?_) ?_);rotate_left|refine' zz (qh ?_)|refine' qw5 (qh ?_)|rfl|apply qn))
 case c1=>exact World.news_of_block (cs:=L.toArray) (fr:=(0,0)) c0
 case c2=>rw[qa f3];exact qfc _
 case c3=>unfold maxLen;omega
 case c4=>have:=Nat.mul_le_mul (show c2.xs.length+1≤1000000 by omega) i1;omega
 case c5=>omega
 intro v' wE U c6 _ b5
 obtain⟨a',k3,e8⟩:=qaf U
 rw[←g3] at c6 b5
 have j3:LiveOk (qht m):=⟨⟨⟨hm.id.1,by have:=hm.id.2;show m.id≤_;omega⟩,⟨hm.amount.1,by show m.amount≤_;omega⟩,by rw[show (qht m).h.hash=qa8 m.hash from rfl,qd4 hm.len];exact hm.hash,hm.expiry⟩,⟨by show (-9223372036854775808:Int)≤0;decide,by show (0:Int)≤9223372036854775807;decide⟩⟩
 have d9:=(qa P6).appLive (qht m) j3 i5 v' (by rw[←qa f3];exact U) c6 b5
 have uE:Upd (fun k=>lv.ownBlock=some k) w6 wE:=(Upd.refl _ _).grown c6 (fun k Z _=>Z)
 have d1:=uE.old (qa P6).at_ (fun e=>by
  obtain⟨h1,hc⟩:=qa3 (qa P6).live g e;exact qbe (qa P6).at_ hc (by decide) rfl)
 have k7:wE.frozen? ⟨g,47,none⟩=false:=qv d1 47
 have k0:wE.cell? ⟨g,47,none⟩=some lv:=uE.cell a6 (fun e=>by
  obtain⟨h1,hc⟩:=qa3 (qa P6).live g e;exact qbe (qa P6).at_ hc (by decide) rfl)
 have U7:=qb ((qa U6).trans d9.2)
 have P7:=qb d9.1
 have j7:=qb (qa U6).size
 rw[e8] at U7 P7
 clear U c6 b5 d9 uE d1 a6 c0 HN
 rw[e8]
 clear e8
 go_wp2_with (with_reducible first|(first|refine' zv (qh ?_) ?_|refine' zx (qh ?_) ?_|refine' zy (qh ?_) ?_);rotate_left|refine' zz (qh ?_)|refine' qw5 (qh ?_)|rfl|apply qn)
 go_ret2
 have i4:({c2 with xs:=c2.xs++[qht m]} : Ch)=c.added m:=by
  rw[qa f2,qa f1,qa g9];rfl
 have d8:=qa P7
 rw[i4] at d8
 rw[qa HO]
 refine⟨rfl,⟨_,_,_,d8.wider (fun k Z=> ?_) (fun k Z=> ?_)⟩,qa U7⟩
 ·have:=qa j7;rcases Z with Z | Z
  ·exact .inl Z
  ·exact .inr ⟨by omega,Z.2⟩
 ·rcases Z with Z | Z
  ·exact d8.lt k (.inl Z)
  ·exact Z.2
end Go.Proofs.YtfmkdoachjgjbaaGreatDoor
