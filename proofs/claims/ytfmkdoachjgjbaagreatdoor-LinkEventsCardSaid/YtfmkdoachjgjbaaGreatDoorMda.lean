/-
  hearFulfill.
-/
import Derived.Test.YtfmkdoachjgjbaaGreatDoorMcj
import Derived.Test.YtfmkdoachjgjbaaGreatDoorMce
set_option maxRecDepth 100000
set_option maxHeartbeats 2000000
set_option linter.unusedVariables false
set_option linter.unusedSimpArgs false
namespace Go.Proofs.YtfmkdoachjgjbaaGreatDoor
section
open Go.RowKit
theorem qfy{w:World}{b o n:Nat}{A:Array Value}(h:zf w b o n=some A)(i k:Nat)(m:i+k≤n):zf w b (o+i) k=some (A.extract i (i+k)):=by
 unfold zf at h ⊢;cases f:w.heap[b]? with
 | none=>rw[f] at h;cases h
 | some ob =>
  rw[f] at h;cases ob with
  | cells C T q =>
   simp only at h ⊢;split at h
   ·injection h with h;subst h;rw[if_pos (by omega),Array.extract_extract];congr 2;omega
   ·cases h
  | _=>simp at h
theorem q1p(x:Live):(qo x).toArray.extract 2 (2+32)=(qu x.h.hash.toList).toArray:=by
 apply Array.ext';rw[Array.toList_extract];unfold qo qk qu;simp
theorem ChP.hash{w:World}{g:Nat}{S:Nat→Prop}{c:Ch}{v H z:Value}(h:ChP w g S c v H z){i:Nat}{x:Live}(r:c.xs[i]? = some x):∃q cap,v = .slice (some ⟨q,0,none⟩) c.xs.length cap∧zf w q (i*38+2) 32=some (qu x.h.hash.toList).toArray:=by
 have m:=(List.getElem?_eq_some_iff.1 r).1;rcases (qdl h.live).2 with ⟨e,C⟩ | ⟨E,f,e,-,F⟩
 ·rw[C] at m;simp at m
 ·refine⟨E,f,e,?_⟩;have:=qfy (F.row r) 2 32 (by omega);rw[q1p,Nat.zero_add] at this;exact this
def Ch.hearFulfill(c:Ch)(m:MsgV):Ch × Int:=match qde true m.id c.xs with
 | none=>(c,3)
 | some p=>if qeh m.hash p.2.h.hash.toList=true then (c.removed p.1 p.2 true,0) else (c,132)
theorem qsf{c:Ch}{m:MsgV}(h:qde true m.id c.xs=none):c.hearFulfill m=(c,3):=by unfold Ch.hearFulfill;rw[h]
theorem qky{c:Ch}{m:MsgV}{i:Nat}{x:Live}(h:qde true m.id c.xs=some (i,x)):c.hearFulfill m=if qeh m.hash x.h.hash.toList=true then (c.removed i x true,0) else (c,132):=by unfold Ch.hearFulfill;rw[h]
attribute [local go_sem ↓ high] qz zb ze zi zl qag qaj
attribute [local go_sem] qax qay qa4 qab qbl qcl qcn qx
theorem qnb(g:Nat)(S:Nat→Prop)(c:Ch)(m:MsgV)(hm:MsgOk m)(w:World)(h:ChS w g S c)(hT:Tb w) :
  Calls Tryz.prog 177 #[.pointer (some ⟨g,0,none⟩),.agg m.cells.toArray] w fun e w' =>
   e = .returned (.tuple #[qcu,.int .i64 (c.hearFulfill m).2])∧ChS w' g (Fr S w w') (c.hearFulfill m).1∧Upd S w w':=by
 obtain⟨X,nv,av,h⟩:=h
 go_enter Tryz.func177,Tryz.ntmps177
 go_upto_region 1 with fail
 have M:=zt w m hm.len
 have R:qq w (w.alloc (.cells m.cells.toArray 101)):=(Upd.refl _ _).alloc _
 generalize w.alloc (.cells m.cells.toArray 101)=w1 at R M ⊢
 generalize w.heap.size=A at M ⊢
 have h1:=h.new R
 obtain⟨-,-,m2,-,-,-,-⟩:=M.cells
 have hb:=qkm g S c true m.id w1 ⟨X,nv,av,h1⟩
 have HA:=qb M
 have N:=hT.new R
 clear M hT
 go_wp2_with fail
 refine hb.mono ?_
 rintro e w2 ⟨rfl,U⟩
 have F:=h1.new U
 have C:=(qa HA).new U
 have z:=R.trans U
 have E:=N.new U
 clear hb m2 h1 U R N HA
 cases I:qde true m.id c.xs with
 | none =>
  have P:=qhv I;have J:=qb (qsf I);have H2:=qb (F.fr w);have HU:=qb (z.mono (T:=S) (fun _ _ h=>h.elim));rw[P];clear h F z I P C E;go_wp2_with fail;go_ret2;rw[qa J];exact⟨rfl,qa H2,qa HU⟩
 | some p =>
  obtain⟨i,x⟩:=p;obtain⟨P,q,-⟩:=qhw I;have H:=qky I;have b8:=(List.getElem?_eq_some_iff.1 q).1;have b5:=h.ok.few;obtain⟨gl,cap,b3,Z⟩:=F.hash q;have L:w2.cell? ⟨g,47,none⟩=some X:=F.toR.live;rw[b3] at L;obtain⟨-,-,-,-,-,-,Y⟩:=C.cells;have b4:=(h.ok.xs x (List.mem_of_getElem? q)).h.hash;have f:=fun W (nW:qq w2 W)=>qqy m.hash x.h.hash.toList hm.len (by simp) b4 W (E.new nW).tabs
  have r:=fun W (hW:ChP W g S c X nv av)=>qh9 g S c X nv av i x true W hW q
  have HI:=qb h.inL;have HU:=qb (z.mono (T:=S) (fun _ _ h=>h.elim));have H2:=qb F;have b7:(i:Int)<(c.xs.length:Int):=by omega
  have J:=qb H;have b6:(c.xs.length:Int)≤1000000:=by omega
  rw[P];clear h F z I P C E q H;generalize hO:qeh m.hash x.h.hash.toList=O at f J;have RA:=qb Y;have RH:=qb Z;have a6:=qb f;have a7:=qb r;clear Y Z f r hO;go_upto_region 4 with (with_reducible first|(first|refine' tw1 (qh ?_) ?_|refine' tw2 (qh ?_) ?_);rotate_left|refine' tw3 (qh ?_)|rfl|apply tn|refine' tw4 ?_);have Y:=qa RA;have Z:=qa RH;clear RA RH;go_wp2_with (with_reducible first|(first|refine' tw1 (qh ?_) ?_|refine' tw2 (qh ?_) ?_);rotate_left|refine' tw3 (qh ?_)|rfl|apply tn|refine' tw4 ?_);have f:=qa a6;have r:=qa a7;refine(f _ ((Upd.refl _ _).drew)).mono ?_;rintro e w3 ⟨rfl,n3⟩;have h3:=((qa H2).new ((Upd.refl (fun _=>False) w2).drew)).new n3;have V:qq w2 w3:=n3.ofDrew;have v:=r w3 h3;have H3:=qb (h3.fr w);have K:=qb ((qa HU).trans (V.mono (T:=S) (fun _ _ h=>h.elim)));clear f r L Y Z h3 n3 V;cases O with
  | false =>
   clear v;go_wp2_with (with_reducible first|(first|refine' tw1 (qh ?_) ?_|refine' tw2 (qh ?_) ?_);rotate_left|refine' tw3 (qh ?_)|rfl|apply tn|refine' tw4 ?_);go_ret2;have H:c.hearFulfill m=(c,132):=by rw[qa J];simp
   rw[H];exact⟨rfl,qa H3,qa K⟩
  | true =>
   go_wp2_with (with_reducible first|(first|refine' tw1 (qh ?_) ?_|refine' tw2 (qh ?_) ?_);rotate_left|refine' tw3 (qh ?_)|rfl|apply tn|refine' tw4 ?_);refine v.mono ?_;rintro e w4 ⟨rfl,h4,u4⟩;have H4:=qb (h4.fr w);have a8:=qb ((qa K).trans (u4.mono (T:=S) (fun k _ e=>qa HI k e)));clear v h4 u4;go_wp2_with (with_reducible first|(first|refine' tw1 (qh ?_) ?_|refine' tw2 (qh ?_) ?_);rotate_left|refine' tw3 (qh ?_)|rfl|apply tn|refine' tw4 ?_);go_ret2;have H:c.hearFulfill m=(c.removed i x true,0):=by rw[qa J];simp
   rw[H];exact⟨rfl,qa H4,qa a8⟩
theorem qsj(g:Nat)(S:Nat→Prop)(c:Ch)(m:MsgV)(q:MsgOk m)(w:World)(h:ChS w g S c)(i:qam m=true)(f:m.ch=c.s.ch)(F:m.kind=4)(z:Tb w) :
  Calls Tryz.prog 107 #[.pointer (some ⟨g,0,none⟩),.agg m.cells.toArray] w (qe7 g S w (c.hearFulfill m).1 [] (c.hearFulfill m).2) :=
 qh4 _ g S c _ _ _ m q w h i f (enters_of Tryz.func177 (by kernel_rfl) rfl) (fun v=>by rw[F];exact zbz v) (fun W r=>(qnb g S c m q W (h.new r) (z.new r)).mono (by
  rintro e w' ⟨E,C,H⟩;exact⟨_,E,qb6.nil _ _,C,H⟩))
end
section
open Go.RowKit
structure Ch.Inv(c:Ch):Prop where
 shelf:qv2 c
 peer:c.s.peer.size≤100000000
 ch:0≤c.s.ch∧c.s.ch<4294967296
 heard:c.k.heard<4294967295
 few:c.xs.length≤16
noncomputable def Ch.hear(c:Ch)(m:MsgV):Ch × List MsgV × Int :=
 if qam m=false∨m.ch≠c.s.ch then (c,[],1)
 else if m.kind=3 then ((c.hearAdd m).1,[],(c.hearAdd m).2)
 else if m.kind=4 then ((c.hearFulfill m).1,[],(c.hearFulfill m).2)
 else if m.kind=5 then ((c.hearFail m).1,[],(c.hearFail m).2)
 else if m.kind=6 then c.hearSign m
 else if m.kind=7 then ((c.hearRevoke m).1,[],(c.hearRevoke m).2)
 else (c.hearShut.1,[],c.hearShut.2)
theorem q5s(g:Nat)(S:Nat→Prop)(c:Ch)(m:MsgV)(r:MsgOk m)(w:World)(h:ChS w g S c)(v:c.Inv)(C:Tb w)(E:Apart S)(f:m.kind=3∨m.kind=4∨m.kind=5∨m.kind=6∨m.kind=7∨m.kind=8) :
  Calls Tryz.prog 107 #[.pointer (some ⟨g,0,none⟩),.agg m.cells.toArray] w (qe7 g S w (c.hear m).1 (c.hear m).2.1 (c.hear m).2.2):=by
 by_cases z:qam m=false∨m.ch≠c.s.ch
 ·have e:c.hear m=(c,[],1):=by unfold Ch.hear;rw[if_pos z]
  rw[e];refine(quc g S c m r w h z).mono ?_;rintro e w' ⟨H,F⟩;exact⟨_,H,qb6.nil _ _,(h.new F).frW,F.mono (fun _ _ h=>h.elim)⟩
 ·have q:qam m=true:=by
   cases I:qam m with
   | true=>rfl
   | false=>exact absurd (.inl I) z
  have i:m.ch=c.s.ch:=Decidable.of_not_not (fun e=>z (.inr e));have e:c.hear m=if m.kind=3 then ((c.hearAdd m).1,[],(c.hearAdd m).2) else if m.kind=4 then ((c.hearFulfill m).1,[],(c.hearFulfill m).2) else if m.kind=5 then ((c.hearFail m).1,[],(c.hearFail m).2) else if m.kind=6 then c.hearSign m else if m.kind=7 then ((c.hearRevoke m).1,[],(c.hearRevoke m).2) else (c.hearShut.1,[],c.hearShut.2):=by unfold Ch.hear;rw[if_neg z]
  rcases f with f | f | f | f | f | f
  ·rw[e,if_pos f];exact q5r g S c m r w h q i f (by have:=v.few;omega)
  ·rw[e,if_neg (by omega),if_pos f];exact qsj g S c m r w h q i f C
  ·rw[e,if_neg (by omega),if_neg (by omega),if_pos f];exact q1c g S c m r w h q i f
  ·rw[e,if_neg (by omega),if_neg (by omega),if_neg (by omega),if_pos f];exact q1e g S c m r w h q i f C E v.peer v.ch v.heard v.few
  ·rw[e,if_neg (by omega),if_neg (by omega),if_neg (by omega),if_neg (by omega),if_pos f];exact qud g S c m r w h q i f v.shelf C E
  ·rw[e,if_neg (by omega),if_neg (by omega),if_neg (by omega),if_neg (by omega),if_neg (by omega)];exact q1d g S c m r w h q i f
section
variable {w:World}{g:Nat}{S:Nat→Prop}{c:Ch}{lv nv av:Value}
end
def zah(n:Nat)(p:Array (Nat × Value)):Sem Value:=Instr.buildSlice 139 n p
theorem qtm(n:Nat)(p:Array (Nat × Value)):Instr.buildSlice 139 n p=zah n p:=rfl
theorem zbf(A:List Value)(w:World):(zah 1 #[(0,.agg A.toArray)]).run Tryz.prog w=if A.length=35 then .ok (.slice (some ⟨w.heap.size,0,none⟩) 1 1) (w.alloc (.cells A.toArray 41)) else (Instr.buildSlice 139 1 #[(0,.agg A.toArray)]).run Tryz.prog w:=by
 by_cases h:A.length=35
 ·rw[if_pos h];exact qs1 Tryz.underlying139 Tryz.zeroHtlc' Tryz.infoHtl rfl (by decide) (by decide) A h w
 ·rw[if_neg h];rfl
theorem qoz(x:Live):(qo x).toArray.extract 0 (0+35)=(qk x.h).toArray:=by
 apply Array.ext';rw[Array.toList_extract];unfold qo;rw[List.extract_eq_take_drop];simp[qbj]
section
variable {w0 w w':World}{g K R:Nat}{S:Nat→Prop}{ci cj:Ch}{lv nv av kv ov rv v:Value}{ks ks':List Live}{os os':List Htlc}{rs rs':List Int}
end
structure EvV where
 kind:Int
 h:Htlc
 pre:List Int
def evW(k:Int)(H P:List Value):List Value:= .int .i64 k::(H++P)
def EvV.cells(e:EvV):List Value:=evW e.kind (qk e.h) (qu e.pre)
theorem EvV.len(e:EvV)(h:e.pre.length=32):e.cells.length=68:=by simp[EvV.cells,evW,qal,h,qbj]
theorem EvV.one(e:EvV):∀v∈e.cells,v.oneCell'=true:=by
 intro v f;rcases List.mem_cons.1 f with rfl | f
 ·rfl
 ·rcases List.mem_append.1 f with f | f
  ·exact qi2 _ v f
  ·obtain⟨n,-,rfl⟩:=List.mem_map.1 f;rfl
def EvV.zero:EvV:=⟨0,Htlc.zero,zg⟩
def evC(x:Live):EvV:=⟨1,x.h,zg⟩
def evP(x:Live)(p:List Int):EvV:=⟨2,x.h,p⟩
def evF(x:Live):EvV:=⟨3,x.h,zg⟩
theorem Tryz.infoEv:(Tryz.prog.info? 43).map (·.size)=some 68:=by kernel_rfl
theorem Tryz.zeroEv:((Tryz.prog.info? 43).map fun i=>i.zero.map fun z=>z.cells.toList)=some (some EvV.zero.cells):=by kernel_rfl
theorem Tryz.placesEv:∃m,Tryz.prog.underlying 43=some (.struct m)∧m.toList.mapM (fun f=>(Tryz.prog.info? f.type).map fun i=>(f.offset,i.size))=some [(0,1),(1,35),(36,32)]:=⟨_,Tryz.underlying43,by kernel_rfl⟩
theorem qni:∃i z b,Tryz.prog.info? 43=some i∧i.zero=some z∧i.size=68∧i.bytes=b∧z.cells.size=68∧b≤1000:=by
 obtain⟨i,z,m,v,r⟩:=qc6 Tryz.zeroEv;have f:(Tryz.prog.info? 43).map (fun i=>decide (i.bytes≤1000))=some true:=by kernel_rfl
 have q:=Tryz.infoEv;rw[m,Option.map_some,Option.some.injEq] at f q;exact⟨i,z,i.bytes,m,v,q,rfl,by rw[r];rfl,of_decide_eq_true f⟩
def zbc(p:Array (Nat × Value)):Sem Value:=Instr.build 43 p
theorem qj6(p:Array (Nat × Value)):Instr.build 43 p=zbc p:=rfl
theorem qrk:EvV.zero.cells.toArray=(([]:List Value)++(Value.int .i64 0::(qk Htlc.zero++zg.map (Value.int .u8)))).toArray:=rfl
theorem q4h(k:Int)(H:List Value)(h:H.length=35):Tryz.prog.built 43 [(0,.int .i64 k),(1,.agg H.toArray)]=some (evW k H (qu zg)).toArray:=by
 obtain⟨i,z,m,v,f⟩:=qc6 Tryz.zeroEv;obtain⟨C,r,q⟩:=Tryz.placesEv;rw[qbq m r v q];rw[qb4 (P:=[]) (z:= .int .i64 0) (R:=qk Htlc.zero++zg.map (Value.int .u8)) (off:=0) rfl rfl rfl (f.trans qrk)];rw[qc9 (P:=[.int .i64 k]) (A:=H) (Z:=qk Htlc.zero) (R:=zg.map (Value.int .u8)) (off:=1) (by rw[h];rfl) rfl (by rw[h];rfl) (by rfl)];rw[Instr.fill];simp[evW,qu]
theorem q37(k:Int)(H:List Value)(w:World):(zbc #[(0,.int .i64 k),(1,.agg H.toArray)]).run Tryz.prog w=if H.length=35 then .ok (.agg (evW k H (qu zg)).toArray) w else (Instr.build 43 #[(0,.int .i64 k),(1,.agg H.toArray)]).run Tryz.prog w:=by
 by_cases h:H.length=35
 ·rw[if_pos h];exact run_build w _ _ _ (q4h k H h)
 ·rw[if_neg h];rfl
theorem qz3(k:Int)(H P:List Value)(h:H.length=35)(f:P.length=32):Tryz.prog.built 43 [(0,.int .i64 k),(1,.agg H.toArray),(2,.agg P.toArray)]=some (evW k H P).toArray:=by
 obtain⟨i,z,q,C,m⟩:=qc6 Tryz.zeroEv;obtain⟨E,v,r⟩:=Tryz.placesEv;rw[qbq q v C r];rw[qb4 (P:=[]) (z:= .int .i64 0) (R:=qk Htlc.zero++zg.map (Value.int .u8)) (off:=0) rfl rfl rfl (m.trans qrk)];rw[qc9 (P:=[.int .i64 k]) (A:=H) (Z:=qk Htlc.zero) (R:=zg.map (Value.int .u8)) (off:=1) (by rw[h];rfl) rfl (by rw[h];rfl) (by rfl)];rw[qc9 (P:= .int .i64 k::H) (A:=P) (Z:=zg.map (Value.int .u8)) (R:=[]) (off:=36) (by rw[f];rfl) (by simp[h]) (by rw[f];rfl) (by simp)];rw[Instr.fill];simp[evW,qu]
theorem qwa(k:Int)(H P:List Value)(w:World):(zbc #[(0,.int .i64 k),(1,.agg H.toArray),(2,.agg P.toArray)]).run Tryz.prog w=if H.length=35∧P.length=32 then .ok (.agg (evW k H P).toArray) w else (Instr.build 43 #[(0,.int .i64 k),(1,.agg H.toArray),(2,.agg P.toArray)]).run Tryz.prog w:=by
 by_cases h:H.length=35∧P.length=32
 ·rw[if_pos h];exact run_build w _ _ _ (qz3 k H P h.1 h.2)
 ·rw[if_neg h];rfl
def zcs(n:Nat)(p:Array (Nat × Value)):Sem Value:=Instr.buildSlice 38 n p
theorem qj7(n:Nat)(p:Array (Nat × Value)):Instr.buildSlice 38 n p=zcs n p:=rfl
theorem q4e(A:List Value)(w:World):(zcs 1 #[(0,.agg A.toArray)]).run Tryz.prog w=if A.length=68 then .ok (.slice (some ⟨w.heap.size,0,none⟩) 1 1) (w.alloc (.cells A.toArray 43)) else (Instr.buildSlice 38 1 #[(0,.agg A.toArray)]).run Tryz.prog w:=by
 by_cases h:A.length=68
 ·rw[if_pos h];exact qs1 Tryz.underlying38 Tryz.zeroEv Tryz.infoEv rfl (by decide) (by decide) A h w
 ·rw[if_neg h];rfl
def qir(w:World)(v:Value)(es:List EvV):Prop:=w.ownsRow 0 43 68 v es.length (es.flatMap EvV.cells)
theorem qir.nil(w:World):qir w qcu []:=World.ownsRow_nil _ _ _ _
theorem qir.upd{S:Nat→Prop}{w w':World}{v:Value}{es:List EvV}(h:qir w v es)(u:Upd S w w')(f:∀k,v.ownBlock=some k→¬S k):qir w' v es:=qac h u f
theorem qir.lt{w:World}{v:Value}{es:List EvV}(h:qir w v es):∀k,v.ownBlock=some k→k<w.heap.size:=fun k e=>by
 obtain⟨f,i⟩:=qa3 h k e;exact zr i
def qfg(f i:List Live):List EvV:=(i.filter (qgz f)).map evC
def qg0(f i:List Live):List EvV:=(f.filter (qiy i)).map evF
theorem q0a(f:List Live){m:List Live}{i:Nat}{x:Live}(h:m[i]? = some x):qfg f (m.take (i+1))=qfg f (m.take i)++(if qgz f x=true then [evC x] else []):=by
 unfold qfg;rw[List.take_add_one,h,List.filter_append,List.map_append];cases q:qgz f x<;>simp[q]
theorem q0n(f:List Live){m:List Live}{i:Nat}{x:Live}(h:m[i]? = some x):qg0 (m.take (i+1)) f=qg0 (m.take i) f++(if qiy f x=true then [evF x] else []):=by
 unfold qg0;rw[List.take_add_one,h,List.filter_append,List.map_append];cases q:qiy f x<;>simp[q]
theorem qto(i f:List Live):(qfg i f).length≤f.length:=by
 unfold qfg;rw[List.length_map];exact List.length_filter_le _ _
theorem q41(f i:List Live):(qg0 f i).length≤f.length:=by
 unfold qg0;rw[List.length_map];exact List.length_filter_le _ _
attribute [local go_sem ↓ high] qbf qbs qci qdr zl qj6 qj7
attribute [local go_sem] qdo qd2 qfl qkb qbl q37 qwa q4e qx
structure EvSt(T:Nat→Prop)(w w':World)(g:Nat)(S:Nat→Prop)(l:Lk)(sp en lo:Nat)(SC SJ:Nat→Prop)(es:List EvV)(ev:Value):Prop where
 lk:LkP w' g S {l with ev:=ev} sp en lo SC SJ
 row:qir w' ev es
 u:Upd T w w'
 out:∀k,ev.ownBlock=some k→¬S k
 from_:∀k,ev.ownBlock=some k→T k∨w.heap.size≤k
section
variable {T:Nat→Prop}{w w' w'':World}{g:Nat}{S:Nat→Prop}{l:Lk}{sp en lo:Nat}{SC SJ:Nat→Prop}{es:List EvV}{ev:Value}
theorem EvSt.new(h:EvSt T w w' g S l sp en lo SC SJ es ev)(n:qq w' w''):EvSt T w w'' g S l sp en lo SC SJ es ev :=
 ⟨h.lk.new n,h.row.upd n (fun _ _ h=>h),h.u.trans (n.mono (fun _ _ h=>h.elim)),h.out,h.from_⟩
theorem EvSt.push(h:EvSt T w w' g S l sp en lo SC SJ es ev)(r:T g){m:Value}{e:EvV}(K:w''.ownsRow 0 43 68 m (es.length+1) (es.flatMap EvV.cells++e.cells))(I:World.grownBy w' w'' ev.ownBlock)(v:m.ownBlock=ev.ownBlock∨m.ownBlock=some w'.heap.size) :
  EvSt T w (w''.setCell ⟨g,4,none⟩ m) g S l sp en lo SC SJ (es++[e]) m:=by
 have C:Upd (fun k=>ev.ownBlock=some k) w' w'':=(Upd.refl _ _).grown I (fun k f _=>f)
 have J:¬(ev.ownBlock=some g):=fun e=>h.out g e h.lk.inG
 have F:=h.lk.upd C (fun k f e=>h.out k e f)
 have H:=F.put (i:=4) (x:=m) (l':= {l with ev:=m}) rfl rfl rfl rfl
 have E:Upd (· = g) w'' (w''.setCell ⟨g,4,none⟩ m):=(Upd.refl _ _).set1 _ _
 have L:=h.u.size
 have q:∀k,m.ownBlock=some k→¬S k:=by
  intro k f z;rcases v with e | e
  ·rw[e] at f;exact h.out k f z
  ·rw[e] at f;injection f with f;have:=h.lk.lt k z;omega
 refine⟨H,?_,?_,q,?_⟩
 ·show (w''.setCell ⟨g,4,none⟩ m).ownsRow 0 _ 68 m (es++[e]).length ((es++[e]).flatMap EvV.cells);rw[List.length_append,List.flatMap_append];have:[e].flatMap EvV.cells=e.cells:=by simp
  rw[this];exact qac K E (fun k f e=>q k f (e▸h.lk.inG))
 ·refine(h.u.then C (fun k f e=>(h.from_ k e).elim id (fun e=>by omega))).trans (E.mono (fun k _ e=>by have e:k=g:=e;rw[e];exact r))
 ·intro k f;rcases v with e | e
  ·rw[e] at f;exact h.from_ k f
  ·rw[e] at f;injection f with f;exact .inr (by omega)
end
theorem qtp(T:Nat→Prop)(g:Nat)(S:Nat→Prop)(l:Lk)(sp en lo:Nat)(SC SJ:Nat→Prop)(es:List EvV)(b7:Value)(va vb:Value)(f m:List Live)(w0 w:World)(h:EvSt T w0 w g S l sp en lo SC SJ es b7)(d7:T g)
  (hv:∀W,Upd T w0 W→LvO W vb f) (c9:∀W,Upd T w0 W→LvO W va m) (hl:f.length≤100000) (f7:m.length≤100000) (a7:es.length≤100000) :
  Calls Tryz.prog 146 #[.pointer (some ⟨g,0,none⟩),vb,va] w fun e w'=>e = .returned (.tuple #[])∧∃ev,EvSt T w0 w' g S l sp en lo SC SJ (es++qfg f m) ev:=by
 obtain⟨a,cap,rfl,M⟩:=(c9 w h.u).shape
 have hf:=fun own id W (n:Upd T w0 W)=>qoi own id _ f W (hv W n) (by omega)
 obtain⟨ab,f1,rfl,c8⟩:=(hv w h.u).shape
 have V:∀W,Upd T w0 W→∀(i:Nat) (x:Live),m[i]? = some x→∃g',a=some ⟨g',0,none⟩∧qd9 W g' 0 m:=by
  intro W u i x hi;have J:=(List.getElem?_eq_some_iff.1 hi).1;rcases c9 W u with ⟨a',k,e,e0⟩ | ⟨g',k,e,hh⟩
  ·rw[e0] at J;simp at J
  ·injection e with e1;exact⟨g',e1,hh.toL⟩
 have L:∀W,Upd T w0 W→∀(i:Nat) (x:Live),f[i]? = some x→∃g',ab=some ⟨g',0,none⟩∧qd9 W g' 0 f:=by
  intro W u i x hi;have J:=(List.getElem?_eq_some_iff.1 hi).1;rcases hv W u with ⟨a',k,e,e0⟩ | ⟨g',k,e,hh⟩
  ·rw[e0] at J;simp at J
  ·injection e with e1;exact⟨g',e1,hh.toL⟩
 have HC:=qb V
 have b3:=qb L
 have HF:=qb hf
 have H0:=qb h
 clear V L hf M c8 hv c9 h
 have f9:(m.length:Int)≤1000000:=by omega
 have f8:(f.length:Int)≤1000000:=by omega
 go_enter Tryz.func146,Tryz.ntmps146
 go_wp2_with fail
 go_loopw [11] (fun iv wr=>∃i:Nat,iv = .int .i64 (i:Int)∧i≤m.length∧Hid (∃ev,EvSt T w0 wr g S l sp en lo SC SJ (es++qfg f (m.take i)) ev)) (fun iv _=>m.length-(intOf iv).toNat)
 case atStart=>exact⟨0,rfl,Nat.zero_le _,qb ⟨b7,by rw[List.take_zero];show EvSt T w0 w g S l sp en lo SC SJ (es++[]) b7;rw[List.append_nil];exact qa H0⟩⟩
 case round =>
  obtain⟨i,rfl,hi,hrel⟩:=hrel;obtain⟨wq,rfl⟩:∃wq:World,wq=wr:=⟨_,rfl⟩;clear H0;by_cases J:i<m.length
  ·obtain⟨x,a8⟩:∃x,m[i]? = some x:=⟨_,List.getElem?_eq_getElem J⟩;obtain⟨ev,hE⟩:=qa hrel;have e5:=q0a f a8;have d8:=qto f (m.take i);rw[List.length_take] at d8;have e8:(es++qfg f (m.take i)).length≤200000:=by rw[List.length_append];omega
   have Y:es++qfg f (m.take (i+1))=(es++qfg f (m.take i))++(if qgz f x=true then [evC x] else []):=by rw[e5,List.append_assoc]
   have O:=qb Y;clear e5 d8 Y hrel;generalize es++qfg f (m.take i)=es' at hE e8 O;obtain⟨g',rfl,hh⟩:=qa HC wq hE.u i x a8;have M:=hh.row a8;rw[Nat.zero_add] at M;have P:=qb hE;have f3:(i:Int)<(m.length:Int):=by omega
   have f0:=qjw wq x;have c7:=qjq wq x;clear hE;go_upto_region 3 with fail;obtain⟨hb,nb⟩:=c7;generalize (wq.alloc (.cells (qo Live.zero).toArray 69)).setCells wq.heap.size 0 (qo x)=wb at hb nb ⊢;generalize wq.heap.size=X at hb ⊢;have b5:wb.cell? ⟨X,35,none⟩=some (.bool x.own):=by rw[qg hb,List.getElem?_toArray];exact qfo x
   have d6:wb.cell? ⟨X,36,none⟩=some (.int .i64 x.state):=by rw[qg hb,List.getElem?_toArray];exact qfp x
   have d0:wb.cell? ⟨X,0,none⟩=some (.int .u64 x.h.id):=by rw[qg hb,List.getElem?_toArray];exact qsn x
   have e6:zf wb X 0 35=some (qk x.h).toArray:=by
    have:=qfy (qas hb 38 (by rw[List.size_toArray,qbo])) 0 35 (by omega);rw[qoz] at this;exact this
   have a6:=qb e6;have F:=qb ((qa P).new nb);have E:=qa HF false x.h.id wb (qa F).u;have e2:qg1 false x.h.id f = -1∧f.findIdx? (qcp false x.h.id)=none∨∃(j:Nat) (y:Live),qg1 false x.h.id f=(j:Int)∧f[j]? = some y∧f.findIdx? (qcp false x.h.id)=some j:=by
    unfold qg1;cases hc:f.findIdx? (qcp false x.h.id) with
    | none=>exact .inl ⟨rfl,rfl⟩
    | some j =>
     obtain⟨hj,-⟩:=List.findIdx?_eq_some_iff_getElem.1 hc;exact .inr ⟨j,f[j],rfl,List.getElem?_eq_getElem hj,rfl⟩
   have U:=qb e2;have d9:qgz f x=(!x.own&&(x.state==4&&(match f.findIdx? (qcp false x.h.id) with | some i=>(f.getD i x).state != 4 | none=>true))):=rfl;have N:=qb d9;clear hb nb M f0 HF HC hh a8 e2 d9 P e6;obtain⟨b4,b8⟩:∃b4,(x.state==4)=b4:=⟨_,rfl⟩;have f2:(x.state != 4) = !b4:=by rw[←b8];rfl
   obtain⟨o,ho⟩:∃o,x.own=o:=⟨_,rfl⟩;rw[ho] at b5;have HB:=qb (And.intro b8 ho);clear b8 ho;cases o with
   | true =>
    clear E U;go_wp2_with (with_reducible first|(first|refine' tw1 (qh ?_) ?_|refine' tw2 (qh ?_) ?_);rotate_left|refine' tw3 (qh ?_)|rfl|apply tn|refine' tw4 ?_);go_roundw
    case rel =>
     have e:qgz f x=false:=by rw[qa N,(qa HB).2];rfl
     refine⟨i+1,by go_num,by omega,qb ⟨ev,?_⟩⟩;rw[qa O,e];simp only[Bool.false_eq_true,if_false,List.append_nil];exact qa F
    case measure=>simp[intOf];omega
   | false =>
    cases b4 with
    | false =>
     clear E U;go_wp2_with (with_reducible first|(first|refine' tw1 (qh ?_) ?_|refine' tw2 (qh ?_) ?_);rotate_left|refine' tw3 (qh ?_)|rfl|apply tn|refine' tw4 ?_);go_roundw
     case rel =>
      have e:qgz f x=false:=by rw[qa N,(qa HB).1,Bool.false_and,Bool.and_false]
      refine⟨i+1,by go_num,by omega,qb ⟨ev,?_⟩⟩;rw[qa O,e];simp only[Bool.false_eq_true,if_false,List.append_nil];exact qa F
     case measure=>simp[intOf];omega
    | true =>
     rcases qa U with ⟨hj,hn⟩ | ⟨j,y,hj,hy,hn⟩
     ·have K:Hid (qgz f x=true):=qb (by rw[qa N,(qa HB).1,(qa HB).2,hn];rfl);rw[hj] at E;clear U hj hn N HB;go_wp2_with (with_reducible first|(first|refine' tw1 (qh ?_) ?_|refine' tw2 (qh ?_) ?_);rotate_left|refine' tw3 (qh ?_)|rfl|apply tn|refine' tw4 ?_);refine E.mono ?_;rintro e wc ⟨rfl,nc⟩;have P:=qb ((qa F).new nc);have rX:zf wc X 0 35=some (qk x.h).toArray:=qap (qa a6) nc (fun h=>h);clear E nc F d0 b5 d6 a6 b3;go_upto_region 6 with fail;have hC:wc.drew.cell? ⟨g,4,none⟩=some ev∧zf wc.drew X 0 35=some (qk x.h).toArray:=⟨qg (qa P).lk.at_ 4,rX⟩;obtain⟨i9,z9,b9,c6,d4,d1,d2,d3,c0⟩:=qni;have a7:(evW 1 (qk x.h) (qu zg)).length=68:=EvV.len (evC x) qm;have e9:=qbj x.h;refine qa1 (fun w'=>w'.cell? ⟨g,4,none⟩=some ev∧zf w' X 0 35=some (qk x.h).toArray) [4,6] (.of [0,1,2,3,4,5,6,7,8,9,10,11,12]) (by kernel_rfl) (by kernel_rfl) hC ?_;simp only[Plan.of];go_wp2_with (with_reducible first|(first|refine' zv (qh ?_) ?_|refine' zx (qh ?_) ?_|refine' zy (qh ?_) ?_);rotate_left|refine' zz (qh ?_)|refine' qw5 (qh ?_)|rfl|apply qn);have nC:qq wc (wc.alloc (.cells (evW 1 (qk x.h) (qu zg)).toArray 43)).drew:=((Upd.refl _ _).alloc _).drew;have z:(wc.alloc (.cells (evW 1 (qk x.h) (qu zg)).toArray 43)).drew.heap[wc.heap.size]? = some (.cells (evW 1 (qk x.h) (qu zg)).toArray 43 (0,0)):=qj wc _;have q:=qb ((qa P).new nC);have v:=And.intro (nC.cell hC.1 (fun h=>h)) (qap rX nC (fun h=>h));refine⟨v,?_⟩;generalize (wc.alloc (.cells (evW 1 (qk x.h) (qu zg)).toArray 43)).drew=wC at q z v nC ⊢
      generalize wc.heap.size=D at z ⊢;clear P hC;go_wp2_with (first | (at_builtin;refine wpList_append_own_at _ rfl (.tmp 41) (.tmp 45) 38 rfl 0 43 i9 _ 68 b9 Tryz.underlying38 c6 d4 d1 d2 d3 (by decide) _ _ _ rfl (qa q).row ⟨D,0,none⟩ 1 1 (evW 1 (qk x.h) (qu zg)) rfl (by rw[a7]) ?c1 ?c2 ?c3 ?c4 ?c5 ?_) | (with_reducible first|(first|refine' zv (qh ?_) ?_|refine' zx (qh ?_) ?_|refine' zy (qh ?_) ?_);rotate_left|refine' zz (qh ?_)|refine' qw5 (qh ?_)|rfl|apply qn))
      case c1=>exact World.news_of_block (cs:=(evW 1 (qk x.h) (qu zg)).toArray) (fr:=(0,0)) z
      case c2=>exact EvV.one (evC x)
      case c3=>unfold maxLen;omega
      case c4=>have:=Nat.mul_le_mul (show es'.length+1≤1000000 by omega) c0;omega
      case c5=>omega
      intro v' wD r I _ C;obtain⟨a',d5,Z⟩:=qaf r;have uD:Upd (fun k=>ev.ownBlock=some k) wC wD:=(Upd.refl _ _).grown I (fun k hk _=>hk);have H:¬(ev.ownBlock=some g):=fun e=>(qa q).out g e (qa q).lk.inG
      have f4:wD.frozen? ⟨g,4,none⟩=false:=qv (uD.old (qa q).lk.at_ H) 4;have c4:wD.cell? ⟨g,4,none⟩=some ev:=uD.cell v.1 H;have R:=qb ((qa q).push (e:=(evC x)) d7 r I C);rw[Z] at R ⊢;clear r C I uD z q v H nC Z;go_wp2_with (first | (with_reducible first|(first|refine' zv (qh ?_) ?_|refine' zx (qh ?_) ?_|refine' zy (qh ?_) ?_);rotate_left|refine' zz (qh ?_)|refine' qw5 (qh ?_)|rfl|apply qn) | refine⟨trivial,?_⟩);go_roundw
      case rel =>
       refine⟨i+1,by go_num,by omega,?_⟩;rw[qa O,if_pos (qa K)];exact qb ⟨_,qa R⟩
      case measure=>simp[intOf];omega
     ·rw[hj] at E;go_wp2_with (with_reducible first|(first|refine' tw1 (qh ?_) ?_|refine' tw2 (qh ?_) ?_);rotate_left|refine' tw3 (qh ?_)|rfl|apply tn|refine' tw4 ?_);refine E.mono ?_;rintro e wc ⟨rfl,nc⟩;have P:=qb ((qa F).new nc);obtain⟨gb,rfl,e4⟩:=qa b3 wc (qa P).u j y hy;have f6:=(List.getElem?_eq_some_iff.1 hy).1;have f5:(j:Int)<(f.length:Int):=by omega
      have cy:wc.cell? ⟨gb,j*38+36,none⟩=some (.int .i64 y.state):=by
       have hr:=e4.row hy;rw[Nat.zero_add] at hr;rw[(qfx hr).2 36 (by decide),List.getElem?_toArray,qfp]
      have rX:zf wc X 0 35=some (qk x.h).toArray:=qap (qa a6) nc (fun h=>h);have e3:(f.getD j x).state=y.state:=by rw[List.getD_eq_getElem?_getD,hy];rfl
      obtain⟨b6,e7⟩:∃b6,(y.state != 4)=b6:=⟨_,rfl⟩;have K:Hid (qgz f x=b6):=qb (by rw[qa N,(qa HB).1,(qa HB).2,hn];simp only[e3,e7];cases b6<;>rfl);clear E nc F d0 b5 d6 a6 b3 U hj hn e4 hy e3 N HB;cases b6 with
      | false =>
       clear rX;go_wp2_with fail;go_roundw
       case rel =>
        refine⟨i+1,by go_num,by omega,qb ⟨ev,?_⟩⟩;rw[qa O,qa K];simp only[Bool.false_eq_true,if_false,List.append_nil];exact qa P
       case measure=>simp[intOf];omega
      | true =>
       go_upto_region 6 with fail;have hC:wc.drew.cell? ⟨g,4,none⟩=some ev∧zf wc.drew X 0 35=some (qk x.h).toArray:=⟨qg (qa P).lk.at_ 4,rX⟩;obtain⟨i9,z9,b9,c6,d4,d1,d2,d3,c0⟩:=qni;have a7:(evW 1 (qk x.h) (qu zg)).length=68:=EvV.len (evC x) qm;have e9:=qbj x.h;refine qa1 (fun w'=>w'.cell? ⟨g,4,none⟩=some ev∧zf w' X 0 35=some (qk x.h).toArray) [4,6] (.of [0,1,2,3,4,5,6,7,8,9,10,11,12]) (by kernel_rfl) (by kernel_rfl) hC ?_;simp only[Plan.of];go_wp2_with (with_reducible first|(first|refine' zv (qh ?_) ?_|refine' zx (qh ?_) ?_|refine' zy (qh ?_) ?_);rotate_left|refine' zz (qh ?_)|refine' qw5 (qh ?_)|rfl|apply qn);have nC:qq wc (wc.alloc (.cells (evW 1 (qk x.h) (qu zg)).toArray 43)).drew:=((Upd.refl _ _).alloc _).drew;have z:(wc.alloc (.cells (evW 1 (qk x.h) (qu zg)).toArray 43)).drew.heap[wc.heap.size]? = some (.cells (evW 1 (qk x.h) (qu zg)).toArray 43 (0,0)):=qj wc _;have q:=qb ((qa P).new nC);have v:=And.intro (nC.cell hC.1 (fun h=>h)) (qap rX nC (fun h=>h));refine⟨v,?_⟩;generalize (wc.alloc (.cells (evW 1 (qk x.h) (qu zg)).toArray 43)).drew=wC at q z v nC ⊢;generalize wc.heap.size=D at z ⊢;clear P hC;go_wp2_with (first | (at_builtin;refine wpList_append_own_at _ rfl (.tmp 41) (.tmp 45) 38 rfl 0 43 i9 _ 68 b9 Tryz.underlying38 c6 d4 d1 d2 d3 (by decide) _ _ _ rfl (qa q).row ⟨D,0,none⟩ 1 1 (evW 1 (qk x.h) (qu zg)) rfl (by rw[a7]) ?c1 ?c2 ?c3 ?c4 ?c5 ?_) | (with_reducible first|(first|refine' zv (qh ?_) ?_|refine' zx (qh ?_) ?_|refine' zy (qh ?_) ?_);rotate_left|refine' zz (qh ?_)|refine' qw5 (qh ?_)|rfl|apply qn))
       case c1=>exact World.news_of_block (cs:=(evW 1 (qk x.h) (qu zg)).toArray) (fr:=(0,0)) z
       case c2=>exact EvV.one (evC x)
       case c3=>unfold maxLen;omega
       case c4=>have:=Nat.mul_le_mul (show es'.length+1≤1000000 by omega) c0;omega
       case c5=>omega
       intro v' wD r I _ C;obtain⟨a',d5,Z⟩:=qaf r;have uD:Upd (fun k=>ev.ownBlock=some k) wC wD:=(Upd.refl _ _).grown I (fun k hk _=>hk);have H:¬(ev.ownBlock=some g):=fun e=>(qa q).out g e (qa q).lk.inG
       have f4:wD.frozen? ⟨g,4,none⟩=false:=qv (uD.old (qa q).lk.at_ H) 4;have c4:wD.cell? ⟨g,4,none⟩=some ev:=uD.cell v.1 H;have R:=qb ((qa q).push (e:=(evC x)) d7 r I C);rw[Z] at R ⊢;clear r C I uD z q v H nC Z;go_wp2_with (first | (with_reducible first|(first|refine' zv (qh ?_) ?_|refine' zx (qh ?_) ?_|refine' zy (qh ?_) ?_);rotate_left|refine' zz (qh ?_)|refine' qw5 (qh ?_)|rfl|apply qn) | refine⟨trivial,?_⟩);go_roundw
       case rel =>
        refine⟨i+1,by go_num,by omega,?_⟩;rw[qa O,if_pos (qa K)];exact qb ⟨_,qa R⟩
       case measure=>simp[intOf];omega
  ·obtain rfl:i=m.length:=by omega
   obtain⟨ev,hE⟩:=qa hrel;rw[List.take_length] at hE;have HR:=qb hE;clear hE hrel;go_wp2_with fail;go_end0;exact⟨rfl,ev,qa HR⟩
end
end Go.Proofs.YtfmkdoachjgjbaaGreatDoor
