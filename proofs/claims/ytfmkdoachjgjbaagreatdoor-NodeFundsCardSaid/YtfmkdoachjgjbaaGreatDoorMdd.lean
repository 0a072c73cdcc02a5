/-
  Cut, in plain values; parts of its walk.
-/
import Derived.Test.YtfmkdoachjgjbaaGreatDoorMdc
set_option maxRecDepth 100000
set_option maxHeartbeats 2000000
set_option linter.unusedVariables false
set_option linter.unusedSimpArgs false
namespace Go.Proofs.YtfmkdoachjgjbaaGreatDoor
open Go.RowKit
def q66(c:Ch)(x:Live):Ch :=
 if x.state=0 then (if x.own=true then {c.give true x.h.amount with k:= {c.k with nextOwn:=IntKind.u64.wrap (c.k.nextOwn-1)}} else {c.give false x.h.amount with k:= {c.k with nextTheirs:=IntKind.u64.wrap (c.k.nextTheirs-1)}}) else c
def q65(x:Live):Live:=if x.state=5 then {x with state:=4,paid:=false} else x
def zbn(xs:List Live):List Live:=(xs.filter fun x=> !(x.state==0)).map q65
def Ch.unsaid(c:Ch)(xs:List Live):Ch:= {c with xs:=xs,news:=[],k:= {c.k with shutHeard:=false}}
def Ch.cut(c:Ch):Ch:=(c.xs.foldl q66 c).unsaid (zbn c.xs)
section
variable {w:World}{g:Nat}{S:Nat→Prop}{c:Ch}{lv nv av:Value}
end
def q8o(n:Nat)(p:Array (Nat × Value)):Sem Value:=Instr.buildSlice 139 n p
theorem qs5(n:Nat)(p:Array (Nat × Value)):Instr.buildSlice 139 n p=q8o n p:=rfl
theorem q9m(A:List Value)(w:World):(q8o 1 #[(0,.agg A.toArray)]).run Tryz.prog w=if A.length=35 then .ok (.slice (some ⟨w.heap.size,0,none⟩) 1 1) (w.alloc (.cells A.toArray 41)) else (Instr.buildSlice 139 1 #[(0,.agg A.toArray)]).run Tryz.prog w:=by
 by_cases h:A.length=35
 ·rw[if_pos h];exact qsh Tryz.underlying139 Tryz.zeroHtlc' Tryz.infoHtl rfl (by decide) (by decide) A h w
 ·rw[if_neg h];rfl
theorem qnt(x:Live):(qm x).toArray.extract 0 (0+35)=(qv x.h).toArray:=by
 apply Array.ext';rw[Array.toList_extract];unfold qm;rw[List.extract_eq_take_drop];simp[qba]
structure CutS(w0 w:World)(g K R:Nat)(S:Nat→Prop)(ci:Ch)(lv nv av kv ov rv:Value)(ks:List Live)(os:List Htlc)(rs:List Int):Prop where
 ch:ChP w g S ci lv nv av
 k:w.heap[K]? = some (.cells #[ov,rv] 141 (0,0))
 r:w.heap[R]? = some (.cells #[.slice none 0 0,.slice none 0 0] 141 (0,0))
 ko:w.ownsRow w0.heap.size 69 38 kv ks.length (ks.flatMap qm)
 oo:w.ownsRow w0.heap.size 41 35 ov os.length (os.flatMap qv)
 ro:w.ownsRow w0.heap.size 22 1 rv rs.length (rs.map (Value.int .u64))
 u:Upd (· = g) w0 w
 lt:∀k,S k→k<w0.heap.size
 kge:w0.heap.size≤K
 rge:w0.heap.size≤R
 ne:R≠K
section
variable {w0 w w':World}{g K R:Nat}{S:Nat→Prop}{ci cj:Ch}{lv nv av kv ov rv v:Value}{ks ks':List Live}{os os':List Htlc}{rs rs':List Int}
theorem CutS.glt(h:CutS w0 w g K R S ci lv nv av kv ov rv ks os rs):g<w0.heap.size:=h.lt g h.ch.inG
theorem CutS.new(h:CutS w0 w g K R S ci lv nv av kv ov rv ks os rs)(n:qq w w'):CutS w0 w' g K R S ci lv nv av kv ov rv ks os rs :=
 ⟨h.ch.new n,n.old h.k (fun h=>h),n.old h.r (fun h=>h),zc h.ko n (fun _ _ h=>h),zc h.oo n (fun _ _ h=>h),zc h.ro n (fun _ _ h=>h),h.u.trans (n.mono (fun _ _ h=>h.elim)),h.lt,h.kge,h.rge,h.ne⟩
theorem CutS.op(h:CutS w0 w g K R S ci lv nv av kv ov rv ks os rs)(m:ChP w' g S cj lv nv av)(u:Upd (· = g) w w'):CutS w0 w' g K R S cj lv nv av kv ov rv ks os rs:=by
 have x:=h.glt;have i:∀ {T:TypeId} {t n:Nat} {v:Value} {l:List Value},w.ownsRow w0.heap.size T t v n l→∀k,v.ownBlock=some k→¬k=g:=fun q k o e=>by have:=qkp q k o;omega
 have:=h.kge;have:=h.rge;exact⟨m,u.old h.k (fun e=>by omega),u.old h.r (fun e=>by omega),zc h.ko u (i h.ko),zc h.oo u (i h.oo),zc h.ro u (i h.ro),h.u.trans u,h.lt,h.kge,h.rge,h.ne⟩
theorem CutS.grow(h:CutS w0 w g K R S ci lv nv av kv ov rv ks os rs){T:TypeId}{N n:Nat}{l:List Value}(q:w.ownsRow w0.heap.size T N v n l)(u:Upd (fun k=>v.ownBlock=some k) w w')(H:T≠141) :
  ChP w' g S ci lv nv av∧w'.heap[K]? = some (.cells #[ov,rv] 141 (0,0))∧w'.heap[R]? = some (.cells #[.slice none 0 0,.slice none 0 0] 141 (0,0)) ∧
  (T≠69→w'.ownsRow w0.heap.size 69 38 kv ks.length (ks.flatMap qm))∧(T≠41→w'.ownsRow w0.heap.size 41 35 ov os.length (os.flatMap qv))∧(T≠22→w'.ownsRow w0.heap.size 22 1 rv rs.length (rs.map (Value.int .u64)))∧Upd (· = g) w0 w':=by
 have C:∀ {U:TypeId} {t J:Nat} {D:Value} {I:List Value},T≠U→w.ownsRow w0.heap.size U t D J I→∀k,D.ownBlock=some k→¬v.ownBlock=some k:=by
  intro U t J D I z M k y e;obtain⟨E,m⟩:=zv q k e;obtain⟨O,x⟩:=zv M k y;exact zx m x z rfl
 refine⟨h.ch.upd u (fun k y e=>by have:=h.lt k y;have:=qkp q k e;omega),u.old h.k ?_,u.old h.r ?_,fun o=>zc h.ko u (C o h.ko),fun o=>zc h.oo u (C o h.oo),fun o=>zc h.ro u (C o h.ro),h.u.then u (fun i P e=>by have:=qkp q i e;omega)⟩
 ·intro e;obtain⟨E,m⟩:=zv q K e;exact zx m h.k H rfl
 ·intro e;obtain⟨E,m⟩:=zv q R e;exact zx m h.r H rfl
theorem CutS.putL(h:CutS w0 w g K R S ci lv nv av kv ov rv ks os rs)(u:Upd (fun k=>kv.ownBlock=some k) w w')(t:w'.ownsRow w0.heap.size 69 38 v ks'.length (ks'.flatMap qm)):CutS w0 w' g K R S ci lv nv av v ov rv ks' os rs:=by
 obtain⟨i,m,a3,-,a5,o,q⟩:=h.grow h.ko u (by decide);exact⟨i,m,a3,t,a5 (by decide),o (by decide),q,h.lt,h.kge,h.rge,h.ne⟩
theorem CutS.other(h:CutS w0 w g K R S ci lv nv av kv ov rv ks os rs){X:Nat}(u:Upd (· = X) w w')(q:w.heap.size≤X∨(w0.heap.size≤X∧X≠K∧X≠R∧(∀k,kv.ownBlock=some k→k≠X)∧(∀k,ov.ownBlock=some k→k≠X)∧(∀k,rv.ownBlock=some k→k≠X))):CutS w0 w' g K R S ci lv nv av kv ov rv ks os rs:=by
 have N:=h.glt;have P:=h.u.size;have y:∀ {U:TypeId} {t D:Nat} {z:Value} {C:List Value},w.ownsRow w0.heap.size U t z D C→∀k,z.ownBlock=some k→k<w.heap.size:=by
  intro U t D z C E k o;obtain⟨M,x⟩:=zv E k o;exact zi x
 have H:=zi h.k;have I:=zi h.r;have J:w0.heap.size≤X:=by rcases q with e | e<;>omega
 refine⟨h.ch.upd u (fun k o e=>by have:=h.lt k o;omega),u.old h.k (fun e=>by rcases q with m | m<;>omega),u.old h.r (fun e=>by rcases q with m | m<;>omega),zc h.ko u (fun k o e=> ?_),zc h.oo u (fun k o e=> ?_),zc h.ro u (fun k o e=> ?_),h.u.then u (fun i O e=>by omega),h.lt,h.kge,h.rge,h.ne⟩
 ·have:=y h.ko k o;rcases q with m | m
  ·omega
  ·exact m.2.2.2.1 k o e
 ·have:=y h.oo k o;rcases q with m | m
  ·omega
  ·exact m.2.2.2.2.1 k o e
 ·have:=y h.ro k o;rcases q with m | m
  ·omega
  ·exact m.2.2.2.2.2 k o e
end
structure EvV where
 kind:Int
 h:Htlc
 pre:List Int
def evW(k:Int)(H P:List Value):List Value:= .int .i64 k::(H++P)
def EvV.cells(e:EvV):List Value:=evW e.kind (qv e.h) (qw e.pre)
theorem EvV.len(e:EvV)(h:e.pre.length=32):e.cells.length=68:=by simp[EvV.cells,evW,qal,h,qba]
theorem EvV.one(e:EvV):∀v∈e.cells,v.oneCell'=true:=by
 intro v i;rcases List.mem_cons.1 i with rfl | i
 ·rfl
 ·rcases List.mem_append.1 i with i | i
  ·exact qhx _ v i
  ·obtain⟨n,-,rfl⟩:=List.mem_map.1 i;rfl
def EvV.zero:EvV:=⟨0,Htlc.zero,zm⟩
def evC(x:Live):EvV:=⟨1,x.h,zm⟩
def evP(x:Live)(p:List Int):EvV:=⟨2,x.h,p⟩
def evF(x:Live):EvV:=⟨3,x.h,zm⟩
theorem Tryz.infoEv:(Tryz.prog.info? 43).map (·.size)=some 68:=by kernel_rfl
theorem Tryz.zeroEv:((Tryz.prog.info? 43).map fun i=>i.zero.map fun z=>z.cells.toList)=some (some EvV.zero.cells):=by kernel_rfl
theorem Tryz.placesEv:∃m,Tryz.prog.underlying 43=some (.struct m)∧m.toList.mapM (fun f=>(Tryz.prog.info? f.type).map fun i=>(f.offset,i.size))=some [(0,1),(1,35),(36,32)]:=⟨_,Tryz.underlying43,by kernel_rfl⟩
theorem qme:∃i z b,Tryz.prog.info? 43=some i∧i.zero=some z∧i.size=68∧i.bytes=b∧z.cells.size=68∧b≤1000:=by
 obtain⟨i,z,o,v,t⟩:=qcv Tryz.zeroEv;have m:(Tryz.prog.info? 43).map (fun i=>decide (i.bytes≤1000))=some true:=by kernel_rfl
 have q:=Tryz.infoEv;rw[o,Option.map_some,Option.some.injEq] at m q;exact⟨i,z,i.bytes,o,v,q,rfl,by rw[t];rfl,of_decide_eq_true m⟩
def q9j(p:Array (Nat × Value)):Sem Value:=Instr.build 43 p
theorem qiv(p:Array (Nat × Value)):Instr.build 43 p=q9j p:=rfl
theorem qqz:EvV.zero.cells.toArray=(([]:List Value)++(Value.int .i64 0::(qv Htlc.zero++zm.map (Value.int .u8)))).toArray:=rfl
theorem q2s(k:Int)(H:List Value)(h:H.length=35):Tryz.prog.built 43 [(0,.int .i64 k),(1,.agg H.toArray)]=some (evW k H (qw zm)).toArray:=by
 obtain⟨i,z,o,v,m⟩:=qcv Tryz.zeroEv;obtain⟨w,t,q⟩:=Tryz.placesEv;rw[qbc o t v q];rw[qbm (P:=[]) (z:= .int .i64 0) (R:=qv Htlc.zero++zm.map (Value.int .u8)) (off:=0) rfl rfl rfl (m.trans qqz)];rw[qcq (P:=[.int .i64 k]) (A:=H) (Z:=qv Htlc.zero) (R:=zm.map (Value.int .u8)) (off:=1) (by rw[h];rfl) rfl (by rw[h];rfl) (by rfl)];rw[Instr.fill];simp[evW,qw]
theorem q2n(k:Int)(H:List Value)(w:World):(q9j #[(0,.int .i64 k),(1,.agg H.toArray)]).run Tryz.prog w=if H.length=35 then .ok (.agg (evW k H (qw zm)).toArray) w else (Instr.build 43 #[(0,.int .i64 k),(1,.agg H.toArray)]).run Tryz.prog w:=by
 by_cases h:H.length=35
 ·rw[if_pos h];exact run_build w _ _ _ (q2s k H h)
 ·rw[if_neg h];rfl
theorem qy3(k:Int)(H P:List Value)(h:H.length=35)(m:P.length=32):Tryz.prog.built 43 [(0,.int .i64 k),(1,.agg H.toArray),(2,.agg P.toArray)]=some (evW k H P).toArray:=by
 obtain⟨i,z,q,w,o⟩:=qcv Tryz.zeroEv;obtain⟨x,v,t⟩:=Tryz.placesEv;rw[qbc q v w t];rw[qbm (P:=[]) (z:= .int .i64 0) (R:=qv Htlc.zero++zm.map (Value.int .u8)) (off:=0) rfl rfl rfl (o.trans qqz)];rw[qcq (P:=[.int .i64 k]) (A:=H) (Z:=qv Htlc.zero) (R:=zm.map (Value.int .u8)) (off:=1) (by rw[h];rfl) rfl (by rw[h];rfl) (by rfl)];rw[qcq (P:= .int .i64 k::H) (A:=P) (Z:=zm.map (Value.int .u8)) (R:=[]) (off:=36) (by rw[m];rfl) (by simp[h]) (by rw[m];rfl) (by simp)];rw[Instr.fill];simp[evW,qw]
theorem qvg(k:Int)(H P:List Value)(w:World):(q9j #[(0,.int .i64 k),(1,.agg H.toArray),(2,.agg P.toArray)]).run Tryz.prog w=if H.length=35∧P.length=32 then .ok (.agg (evW k H P).toArray) w else (Instr.build 43 #[(0,.int .i64 k),(1,.agg H.toArray),(2,.agg P.toArray)]).run Tryz.prog w:=by
 by_cases h:H.length=35∧P.length=32
 ·rw[if_pos h];exact run_build w _ _ _ (qy3 k H P h.1 h.2)
 ·rw[if_neg h];rfl
def zaw(n:Nat)(p:Array (Nat × Value)):Sem Value:=Instr.buildSlice 38 n p
theorem qiw(n:Nat)(p:Array (Nat × Value)):Instr.buildSlice 38 n p=zaw n p:=rfl
theorem q2q(A:List Value)(w:World):(zaw 1 #[(0,.agg A.toArray)]).run Tryz.prog w=if A.length=68 then .ok (.slice (some ⟨w.heap.size,0,none⟩) 1 1) (w.alloc (.cells A.toArray 43)) else (Instr.buildSlice 38 1 #[(0,.agg A.toArray)]).run Tryz.prog w:=by
 by_cases h:A.length=68
 ·rw[if_pos h];exact qsh Tryz.underlying38 Tryz.zeroEv Tryz.infoEv rfl (by decide) (by decide) A h w
 ·rw[if_neg h];rfl
def qka(w:World)(v:Value)(es:List EvV):Prop:=w.ownsRow 0 43 68 v es.length (es.flatMap EvV.cells)
theorem qka.nil(w:World):qka w qcb []:=World.ownsRow_nil _ _ _ _
theorem qka.upd{S:Nat→Prop}{w w':World}{v:Value}{es:List EvV}(h:qka w v es)(u:Upd S w w')(i:∀k,v.ownBlock=some k→¬S k):qka w' v es:=zc h u i
theorem qka.lt{w:World}{v:Value}{es:List EvV}(h:qka w v es):∀k,v.ownBlock=some k→k<w.heap.size:=fun k e=>by
 obtain⟨i,m⟩:=zv h k e;exact zi m
def qgw(i m:List Live):List EvV:=(m.filter (qim i)).map evC
def qi0(i m:List Live):List EvV:=(i.filter (qio m)).map evF
theorem qza(m:List Live){o:List Live}{i:Nat}{x:Live}(h:o[i]? = some x):qgw m (o.take (i+1))=qgw m (o.take i)++(if qim m x=true then [evC x] else []):=by
 unfold qgw;rw[List.take_add_one,h,List.filter_append,List.map_append];cases q:qim m x<;>simp[q]
theorem qzo(m:List Live){o:List Live}{i:Nat}{x:Live}(h:o[i]? = some x):qi0 (o.take (i+1)) m=qi0 (o.take i) m++(if qio m x=true then [evF x] else []):=by
 unfold qi0;rw[List.take_add_one,h,List.filter_append,List.map_append];cases q:qio m x<;>simp[q]
theorem qs8(m i:List Live):(qgw m i).length≤i.length:=by
 unfold qgw;rw[List.length_map];exact List.length_filter_le _ _
theorem q3g(i m:List Live):(qi0 i m).length≤i.length:=by
 unfold qi0;rw[List.length_map];exact List.length_filter_le _ _
attribute [local go_sem ↓ high] qa5 qbd qb1 qds zl qiv qiw
attribute [local go_sem] qc5 qdo qeu qkk qa9 q2n qvg q2q qy
structure EvSt(T:Nat→Prop)(w w':World)(g:Nat)(S:Nat→Prop)(l:Lk)(sp en lo:Nat)(SC SJ:Nat→Prop)(es:List EvV)(ev:Value):Prop where
 lk:LkP w' g S {l with ev:=ev} sp en lo SC SJ
 row:qka w' ev es
 u:Upd T w w'
 out:∀k,ev.ownBlock=some k→¬S k
 from_:∀k,ev.ownBlock=some k→T k∨w.heap.size≤k
section
variable {T:Nat→Prop}{w w' w'':World}{g:Nat}{S:Nat→Prop}{l:Lk}{sp en lo:Nat}{SC SJ:Nat→Prop}{es:List EvV}{ev:Value}
theorem EvSt.new(h:EvSt T w w' g S l sp en lo SC SJ es ev)(n:qq w' w''):EvSt T w w'' g S l sp en lo SC SJ es ev :=
 ⟨h.lk.new n,h.row.upd n (fun _ _ h=>h),h.u.trans (n.mono (fun _ _ h=>h.elim)),h.out,h.from_⟩
theorem EvSt.shape(h:EvSt T w w' g S l sp en lo SC SJ es ev):∃a cap,ev = .slice a es.length cap:=qaa h.row
theorem EvSt.push(h:EvSt T w w' g S l sp en lo SC SJ es ev)(t:T g){o:Value}{e:EvV}(J:w''.ownsRow 0 43 68 o (es.length+1) (es.flatMap EvV.cells++e.cells))(H:World.grownBy w' w'' ev.ownBlock)(v:o.ownBlock=ev.ownBlock∨o.ownBlock=some w'.heap.size) :
  EvSt T w (w''.setCell ⟨g,4,none⟩ o) g S l sp en lo SC SJ (es++[e]) o:=by
 have z:Upd (fun k=>ev.ownBlock=some k) w' w'':=(Upd.refl _ _).grown H (fun k m _=>m)
 have I:¬(ev.ownBlock=some g):=fun e=>h.out g e h.lk.inG
 have D:=h.lk.upd z (fun k m e=>h.out k e m)
 have E:=D.put (i:=4) (x:=o) (l':= {l with ev:=o}) rfl rfl rfl rfl
 have C:Upd (· = g) w'' (w''.setCell ⟨g,4,none⟩ o):=(Upd.refl _ _).set1 _ _
 have K:=h.u.size
 have q:∀k,o.ownBlock=some k→¬S k:=by
  intro k m y;rcases v with e | e
  ·rw[e] at m;exact h.out k m y
  ·rw[e] at m;injection m with m;have:=h.lk.lt k y;omega
 refine⟨E,?_,?_,q,?_⟩
 ·show (w''.setCell ⟨g,4,none⟩ o).ownsRow 0 _ 68 o (es++[e]).length ((es++[e]).flatMap EvV.cells);rw[List.length_append,List.flatMap_append];have:[e].flatMap EvV.cells=e.cells:=by simp
  rw[this];exact zc J C (fun k m e=>q k m (e▸h.lk.inG))
 ·refine(h.u.then z (fun k m e=>(h.from_ k e).elim id (fun e=>by omega))).trans (C.mono (fun k _ e=>by have e:k=g:=e;rw[e];exact t))
 ·intro k m;rcases v with e | e
  ·rw[e] at m;exact h.from_ k m
  ·rw[e] at m;injection m with m;exact .inr (by omega)
end
theorem qs9(T:Nat→Prop)(g:Nat)(S:Nat→Prop)(l:Lk)(sp en lo:Nat)(SC SJ:Nat→Prop)(es:List EvV)(b3:Value)(va vb:Value)(m q:List Live)(w0 w:World)(h:EvSt T w0 w g S l sp en lo SC SJ es b3)(d6:T g)
  (hv:∀W,Upd T w0 W→LvO W vb m) (c7:∀W,Upd T w0 W→LvO W va q) (hl:m.length≤100000) (f5:q.length≤100000) (a8:es.length≤100000) :
  Calls Tryz.prog 146 #[.pointer (some ⟨g,0,none⟩),vb,va] w fun e w'=>e = .returned (.tuple #[])∧∃ev,EvSt T w0 w' g S l sp en lo SC SJ (es++qgw m q) ev:=by
 obtain⟨a,cap,rfl,P⟩:=(c7 w h.u).shape
 have hf:=fun own id W (n:Upd T w0 W)=>qnc own id _ m W (hv W n) (by omega)
 obtain⟨ab,capb,rfl,c6⟩:=(hv w h.u).shape
 have a1:∀W,Upd T w0 W→∀(i:Nat) (x:Live),q[i]? = some x→∃g',a=some ⟨g',0,none⟩∧qdy W g' 0 q:=by
  intro W u i x hi;have M:=(List.getElem?_eq_some_iff.1 hi).1;rcases c7 W u with ⟨a',k,e,e0⟩ | ⟨g',k,e,hh⟩
  ·rw[e0] at M;simp at M
  ·injection e with e1;exact⟨g',e1,hh.toL⟩
 have O:∀W,Upd T w0 W→∀(i:Nat) (x:Live),m[i]? = some x→∃g',ab=some ⟨g',0,none⟩∧qdy W g' 0 m:=by
  intro W u i x hi;have M:=(List.getElem?_eq_some_iff.1 hi).1;rcases hv W u with ⟨a',k,e,e0⟩ | ⟨g',k,e,hh⟩
  ·rw[e0] at M;simp at M
  ·injection e with e1;exact⟨g',e1,hh.toL⟩
 have HC:=qj a1
 have b1:=qj O
 have HF:=qj hf
 have H0:=qj h
 clear a1 O hf P c6 hv c7 h
 have f7:(q.length:Int)≤1000000:=by omega
 have f6:(m.length:Int)≤1000000:=by omega
 go_enter Tryz.func146,Tryz.ntmps146
 go_wp2_with fail
 go_loopw [11] (fun iv wr=>∃i:Nat,iv = .int .i64 (i:Int)∧i≤q.length∧Hid (∃ev,EvSt T w0 wr g S l sp en lo SC SJ (es++qgw m (q.take i)) ev)) (fun iv _=>q.length-(intOf iv).toNat)
 case atStart=>exact⟨0,rfl,Nat.zero_le _,qj ⟨b3,by rw[List.take_zero];show EvSt T w0 w g S l sp en lo SC SJ (es++[]) b3;rw[List.append_nil];exact qg H0⟩⟩
 case round =>
  obtain⟨i,rfl,hi,hrel⟩:=hrel;obtain⟨wq,rfl⟩:∃wq:World,wq=wr:=⟨_,rfl⟩;clear H0;by_cases M:i<q.length
  ·obtain⟨x,b0⟩:∃x,q[i]? = some x:=⟨_,List.getElem?_eq_getElem M⟩;obtain⟨ev,hE⟩:=qg hrel;have e4:=qza m b0;have d7:=qs8 m (q.take i);rw[List.length_take] at d7;have e7:(es++qgw m (q.take i)).length≤200000:=by rw[List.length_append];omega
   have a2:es++qgw m (q.take (i+1))=(es++qgw m (q.take i))++(if qim m x=true then [evC x] else []):=by rw[e4,List.append_assoc]
   have U:=qj a2;clear e4 d7 a2 hrel;generalize es++qgw m (q.take i)=d5 at hE e7 U;obtain⟨g',rfl,hh⟩:=qg HC wq hE.u i x b0;have P:=hh.row b0;rw[Nat.zero_add] at P;have V:=qj hE;have f1:(i:Int)<(q.length:Int):=by omega
   have e9:=qgn wq x;have c0:=qgb wq x;clear hE;go_upto_region 3 with fail;obtain⟨hb,nb⟩:=c0;generalize (wq.alloc (.cells (qm Live.zero).toArray 69)).setCells wq.heap.size 0 (qm x)=wb at hb nb ⊢;generalize wq.heap.size=X at hb ⊢;have b2:wb.cell? ⟨X,35,none⟩=some (.bool x.own):=by rw[qk hb,List.getElem?_toArray];exact qee x
   have d4:wb.cell? ⟨X,36,none⟩=some (.int .i64 x.state):=by rw[qk hb,List.getElem?_toArray];exact qew x
   have d0:wb.cell? ⟨X,0,none⟩=some (.int .u64 x.h.id):=by rw[qk hb,List.getElem?_toArray];exact qr1 x
   have e5:zt wb X 0 35=some (qv x.h).toArray:=by
    have:=qij (qaj hb 38 (by rw[List.size_toArray,qbb])) 0 35 (by omega);rw[qnt] at this;exact this
   have a7:=qj e5;have I:=qj ((qg V).new nb);have H:=qg HF false x.h.id wb (qg I).u;have d9:qf4 false x.h.id m = -1∧m.findIdx? (qcx false x.h.id)=none∨∃(j:Nat) (y:Live),qf4 false x.h.id m=(j:Int)∧m[j]? = some y∧m.findIdx? (qcx false x.h.id)=some j:=by
    unfold qf4;cases hc:m.findIdx? (qcx false x.h.id) with
    | none=>exact .inl ⟨rfl,rfl⟩
    | some j =>
     obtain⟨hj,-⟩:=List.findIdx?_eq_some_iff_getElem.1 hc;exact .inr ⟨j,m[j],rfl,List.getElem?_eq_getElem hj,rfl⟩
   have Z:=qj d9;have d8:qim m x=(!x.own&&(x.state==4&&(match m.findIdx? (qcx false x.h.id) with | some i=>(m.getD i x).state != 4 | none=>true))):=rfl;have R:=qj d8;clear hb nb P e9 HF HC hh b0 d9 d8 V e5;obtain⟨b4,b5⟩:∃b4,(x.state==4)=b4:=⟨_,rfl⟩;have f0:(x.state != 4) = !b4:=by rw[←b5];rfl
   obtain⟨o,ho⟩:∃o,x.own=o:=⟨_,rfl⟩;rw[ho] at b2;have HB:=qj (And.intro b5 ho);clear b5 ho;cases o with
   | true =>
    clear H Z;go_wp2_with ((with_reducible first|rfl|refine' ut ?_ ?_;rotate_left|refine' uu ?_)<;>intros);go_roundw
    case rel =>
     have e:qim m x=false:=by rw[qg R,(qg HB).2];rfl
     refine⟨i+1,by go_num,by omega,qj ⟨ev,?_⟩⟩;rw[qg U,e];simp only[Bool.false_eq_true,if_false,List.append_nil];exact qg I
    case measure=>simp[intOf];omega
   | false =>
    cases b4 with
    | false =>
     clear H Z;go_wp2_with ((with_reducible first|rfl|refine' ut ?_ ?_;rotate_left|refine' uu ?_)<;>intros);go_roundw
     case rel =>
      have e:qim m x=false:=by rw[qg R,(qg HB).1,Bool.false_and,Bool.and_false]
      refine⟨i+1,by go_num,by omega,qj ⟨ev,?_⟩⟩;rw[qg U,e];simp only[Bool.false_eq_true,if_false,List.append_nil];exact qg I
     case measure=>simp[intOf];omega
    | true =>
     rcases qg Z with ⟨hj,hn⟩ | ⟨j,y,hj,hy,hn⟩
     ·have N:Hid (qim m x=true):=qj (by rw[qg R,(qg HB).1,(qg HB).2,hn];rfl);rw[hj] at H;clear Z hj hn R HB;go_wp2_with ((with_reducible first|rfl|refine' ut ?_ ?_;rotate_left|refine' uu ?_)<;>intros);refine H.mono ?_;rintro e wc ⟨rfl,nc⟩;have V:=qj ((qg I).new nc);have rX:zt wc X 0 35=some (qv x.h).toArray:=qbg (qg a7) nc (fun h=>h);clear H nc I d0 b2 d4 a7 b1;go_upto_region 6 with fail;have hC:wc.drew.cell? ⟨g,4,none⟩=some ev∧zt wc.drew X 0 35=some (qv x.h).toArray:=⟨qk (qg V).lk.at_ 4,rX⟩;obtain⟨i9,z9,b9,b8,d2,c8,c9,d1,b7⟩:=qme;have a8:(evW 1 (qv x.h) (qw zm)).length=68:=EvV.len (evC x) qu;have e8:=qba x.h;refine qay (fun w'=>w'.cell? ⟨g,4,none⟩=some ev∧zt w' X 0 35=some (qv x.h).toArray) [4,6] (.of [0,1,2,3,4,5,6,7,8,9,10,11,12]) (by kernel_rfl) (by kernel_rfl) hC ?_;simp only[Plan.of];go_wp2_with ((with_reducible first|rfl|refine' ut ?_ ?_;rotate_left|refine' uu ?_)<;>intros);have nC:qq wc (wc.alloc (.cells (evW 1 (qv x.h) (qw zm)).toArray 43)).drew:=((Upd.refl _ _).alloc _).drew;have C:(wc.alloc (.cells (evW 1 (qv x.h) (qw zm)).toArray 43)).drew.heap[wc.heap.size]? = some (.cells (evW 1 (qv x.h) (qw zm)).toArray 43 (0,0)):=ql wc _;have t:=qj ((qg V).new nC);have z:=And.intro (nC.cell hC.1 (fun h=>h)) (qbg rX nC (fun h=>h));refine⟨z,?_⟩;generalize (wc.alloc (.cells (evW 1 (qv x.h) (qw zm)).toArray 43)).drew=wC at t C z nC ⊢;generalize wc.heap.size=D at C ⊢;clear V hC;go_wp2_with (first | (at_builtin;refine wpList_append_own_at _ rfl (.tmp 41) (.tmp 45) 38 rfl 0 43 i9 _ 68 b9 Tryz.underlying38 b8 d2 c8 c9 d1 (by decide) _ _ _ rfl (qg t).row ⟨D,0,none⟩ 1 1 (evW 1 (qv x.h) (qw zm)) rfl (by rw[a8]) ?c1 ?c2 ?c3 ?c4 ?c5 ?_) | ((with_reducible first|rfl|refine' ut ?_ ?_;rotate_left|refine' uu ?_)<;>intros))
      case c1=>exact World.news_of_block (cs:=(evW 1 (qv x.h) (qw zm)).toArray) (fr:=(0,0)) C
      case c2=>exact EvV.one (evC x)
      case c3=>unfold maxLen;omega
      case c4=>have:=Nat.mul_le_mul (show d5.length+1≤1000000 by omega) b7;omega
      case c5=>omega
      intro v' wD v K _ E;obtain⟨a',d3,a6⟩:=qaa v;have uD:Upd (fun k=>ev.ownBlock=some k) wC wD:=(Upd.refl _ _).grown K (fun k hk _=>hk);have J:¬(ev.ownBlock=some g):=fun e=>(qg t).out g e (qg t).lk.inG
      have f4:wD.frozen? ⟨g,4,none⟩=false:=qo (uD.old (qg t).lk.at_ J) 4;have c4:wD.cell? ⟨g,4,none⟩=some ev:=uD.cell z.1 J;have Y:=qj ((qg t).push (e:=(evC x)) d6 v K E);rw[a6] at Y ⊢;clear v E K uD C t z J nC a6;go_wp2_with (first | ((with_reducible first|rfl|refine' ut ?_ ?_;rotate_left|refine' uu ?_)<;>intros) | refine⟨trivial,?_⟩);go_roundw
      case rel =>
       refine⟨i+1,by go_num,by omega,?_⟩;rw[qg U,if_pos (qg N)];exact qj ⟨_,qg Y⟩
      case measure=>simp[intOf];omega
     ·rw[hj] at H;go_wp2_with ((with_reducible first|rfl|refine' ut ?_ ?_;rotate_left|refine' uu ?_)<;>intros);refine H.mono ?_;rintro e wc ⟨rfl,nc⟩;have V:=qj ((qg I).new nc);obtain⟨gb,rfl,e3⟩:=qg b1 wc (qg V).u j y hy;have f3:=(List.getElem?_eq_some_iff.1 hy).1;have f2:(j:Int)<(m.length:Int):=by omega
      have cy:wc.cell? ⟨gb,j*38+36,none⟩=some (.int .i64 y.state):=by
       have hr:=e3.row hy;rw[Nat.zero_add] at hr;rw[(qgm hr).2 36 (by decide),List.getElem?_toArray,qew]
      have rX:zt wc X 0 35=some (qv x.h).toArray:=qbg (qg a7) nc (fun h=>h);have e2:(m.getD j x).state=y.state:=by rw[List.getD_eq_getElem?_getD,hy];rfl
      obtain⟨b6,e6⟩:∃b6,(y.state != 4)=b6:=⟨_,rfl⟩;have N:Hid (qim m x=b6):=qj (by rw[qg R,(qg HB).1,(qg HB).2,hn];simp only[e2,e6];cases b6<;>rfl);clear H nc I d0 b2 d4 a7 b1 Z hj hn e3 hy e2 R HB;cases b6 with
      | false =>
       clear rX;go_wp2_with fail;go_roundw
       case rel =>
        refine⟨i+1,by go_num,by omega,qj ⟨ev,?_⟩⟩;rw[qg U,qg N];simp only[Bool.false_eq_true,if_false,List.append_nil];exact qg V
       case measure=>simp[intOf];omega
      | true =>
       go_upto_region 6 with fail;have hC:wc.drew.cell? ⟨g,4,none⟩=some ev∧zt wc.drew X 0 35=some (qv x.h).toArray:=⟨qk (qg V).lk.at_ 4,rX⟩;obtain⟨i9,z9,b9,b8,d2,c8,c9,d1,b7⟩:=qme;have a8:(evW 1 (qv x.h) (qw zm)).length=68:=EvV.len (evC x) qu;have e8:=qba x.h;refine qay (fun w'=>w'.cell? ⟨g,4,none⟩=some ev∧zt w' X 0 35=some (qv x.h).toArray) [4,6] (.of [0,1,2,3,4,5,6,7,8,9,10,11,12]) (by kernel_rfl) (by kernel_rfl) hC ?_;simp only[Plan.of];go_wp2_with ((with_reducible first|rfl|refine' ut ?_ ?_;rotate_left|refine' uu ?_)<;>intros);have nC:qq wc (wc.alloc (.cells (evW 1 (qv x.h) (qw zm)).toArray 43)).drew:=((Upd.refl _ _).alloc _).drew;have C:(wc.alloc (.cells (evW 1 (qv x.h) (qw zm)).toArray 43)).drew.heap[wc.heap.size]? = some (.cells (evW 1 (qv x.h) (qw zm)).toArray 43 (0,0)):=ql wc _;have t:=qj ((qg V).new nC);have z:=And.intro (nC.cell hC.1 (fun h=>h)) (qbg rX nC (fun h=>h));refine⟨z,?_⟩;generalize (wc.alloc (.cells (evW 1 (qv x.h) (qw zm)).toArray 43)).drew=wC at t C z nC ⊢;generalize wc.heap.size=D at C ⊢;clear V hC;go_wp2_with (first | (at_builtin;refine wpList_append_own_at _ rfl (.tmp 41) (.tmp 45) 38 rfl 0 43 i9 _ 68 b9 Tryz.underlying38 b8 d2 c8 c9 d1 (by decide) _ _ _ rfl (qg t).row ⟨D,0,none⟩ 1 1 (evW 1 (qv x.h) (qw zm)) rfl (by rw[a8]) ?c1 ?c2 ?c3 ?c4 ?c5 ?_) | ((with_reducible first|rfl|refine' ut ?_ ?_;rotate_left|refine' uu ?_)<;>intros))
       case c1=>exact World.news_of_block (cs:=(evW 1 (qv x.h) (qw zm)).toArray) (fr:=(0,0)) C
       case c2=>exact EvV.one (evC x)
       case c3=>unfold maxLen;omega
       case c4=>have:=Nat.mul_le_mul (show d5.length+1≤1000000 by omega) b7;omega
       case c5=>omega
       intro v' wD v K _ E;obtain⟨a',d3,a6⟩:=qaa v;have uD:Upd (fun k=>ev.ownBlock=some k) wC wD:=(Upd.refl _ _).grown K (fun k hk _=>hk);have J:¬(ev.ownBlock=some g):=fun e=>(qg t).out g e (qg t).lk.inG
       have f4:wD.frozen? ⟨g,4,none⟩=false:=qo (uD.old (qg t).lk.at_ J) 4;have c4:wD.cell? ⟨g,4,none⟩=some ev:=uD.cell z.1 J;have Y:=qj ((qg t).push (e:=(evC x)) d6 v K E);rw[a6] at Y ⊢;clear v E K uD C t z J nC a6;go_wp2_with (first | ((with_reducible first|rfl|refine' ut ?_ ?_;rotate_left|refine' uu ?_)<;>intros) | refine⟨trivial,?_⟩);go_roundw
       case rel =>
        refine⟨i+1,by go_num,by omega,?_⟩;rw[qg U,if_pos (qg N)];exact qj ⟨_,qg Y⟩
       case measure=>simp[intOf];omega
  ·obtain rfl:i=q.length:=by omega
   obtain⟨ev,hE⟩:=qg hrel;rw[List.take_length] at hE;have HR:=qj hE;clear hE hrel;go_wp2_with fail;go_end0;exact⟨rfl,ev,qg HR⟩
end Go.Proofs.YtfmkdoachjgjbaaGreatDoor
