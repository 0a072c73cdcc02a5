/-
  Cut, in plain values; parts of its walk.
-/
import Derived.Test.YtjpmomdechibmaaGreatDoorMdh
set_option linter.unusedVariables false
set_option linter.unusedSimpArgs false
namespace Go.Proofs.YtjpmomdechibmaaGreatDoor
open Go.RowKit
def zc(c:Ch)(x:Live):Ch :=
 if x.state=0 then (if x.own=true then {c.give true x.h.amount with k:= {c.k with nextOwn:=IntKind.u64.wrap (c.k.nextOwn-1)}} else {c.give false x.h.amount with k:= {c.k with nextTheirs:=IntKind.u64.wrap (c.k.nextTheirs-1)}}) else c
def zy(x:Live):Live:=if x.state=5 then {x with state:=4,paid:=false} else x
def qd7(xs:List Live):List Live:=(xs.filter fun x=> !(x.state==0)).map zy
def qdt(xs:List Live):List Htlc:=(xs.filter fun x=>x.state==0&&x.own).map (·.h)
def qdh(xs:List Live):List Int:=(xs.filter fun x=>x.state==5 && !x.own).map (·.h.id)
def Ch.unsaid(c:Ch)(xs:List Live):Ch:= {c with xs:=xs,news:=[],k:= {c.k with shutHeard:=false}}
def Ch.cut(c:Ch):Ch:=(c.xs.foldl zc c).unsaid (qd7 c.xs)
theorem q2d{xs:List Live}{i:Nat}{x:Live}(f:xs[i]? = some x):qd7 (xs.take (i+1))=qd7 (xs.take i)++(if x.state=0 then [] else [zy x]):=by
 unfold qd7
 rw[List.take_add_one,f,List.filter_append,List.map_append]
 by_cases h:x.state=0<;>simp[h]
theorem q2c{xs:List Live}{i:Nat}{x:Live}(c:Ch)(f:xs[i]? = some x):(xs.take (i+1)).foldl zc c=zc ((xs.take i).foldl zc c) x:=by
 rw[List.take_add_one,f,List.foldl_append]
 rfl
theorem q2f{xs:List Live}{i:Nat}{x:Live}(f:xs[i]? = some x):qdt (xs.take (i+1))=qdt (xs.take i)++(if x.state=0∧x.own=true then [x.h] else []):=by
 unfold qdt
 rw[List.take_add_one,f,List.filter_append,List.map_append]
 by_cases h:x.state=0<;>cases j:x.own<;>simp[h,j]
theorem q2g{xs:List Live}{i:Nat}{x:Live}(f:xs[i]? = some x):qdh (xs.take (i+1))=qdh (xs.take i)++(if x.state=5∧x.own=false then [x.h.id] else []):=by
 unfold qdh
 rw[List.take_add_one,f,List.filter_append,List.map_append]
 by_cases h:x.state=5<;>cases j:x.own<;>simp[h,j]
theorem qvn(xs:List Live):(qd7 xs).length≤xs.length:=by
 unfold qd7
 rw[List.length_map]
 exact List.length_filter_le _ _
theorem q5h(xs:List Live):(qdt xs).length≤xs.length:=by
 unfold qdt
 rw[List.length_map]
 exact List.length_filter_le _ _
theorem q5i(xs:List Live):(qdh xs).length≤xs.length:=by
 unfold qdh
 rw[List.length_map]
 exact List.length_filter_le _ _
theorem qyo{x:Live}(h:LiveOk x):LiveOk (zy x):=by
 unfold zy
 split
 ·exact⟨h.h,by show _≤(4:Int)∧(4:Int)≤_;decide⟩
 ·exact h
section
variable {w:World}{g:Nat}{S:Nat→Prop}{c:Ch}{lv nv av:Value}
theorem ChP.putNextOwn(h:ChP w g S c lv nv av)(n:Int)(f:0≤n∧n<18446744073709551616):ChP (w.setCell ⟨g,40,none⟩ (.int .u64 n)) g S {c with k:= {c.k with nextOwn:=n}} lv nv av :=
 h.put (qny c lv nv av h.ok.s.seed n) ⟨h.ok.s,h.ok.signed,h.ok.heard,f,h.ok.nextTheirs,h.ok.loc,h.ok.rem,h.ok.xs,h.ok.few,h.ok.shelf,h.ok.news,h.ok.last,h.ok.many⟩ rfl rfl rfl
theorem ChP.putNextTheirs(h:ChP w g S c lv nv av)(n:Int)(f:0≤n∧n<18446744073709551616):ChP (w.setCell ⟨g,41,none⟩ (.int .u64 n)) g S {c with k:= {c.k with nextTheirs:=n}} lv nv av :=
 h.put (qke c lv nv av h.ok.s.seed n) ⟨h.ok.s,h.ok.signed,h.ok.heard,h.ok.nextOwn,f,h.ok.loc,h.ok.rem,h.ok.xs,h.ok.few,h.ok.shelf,h.ok.news,h.ok.last,h.ok.many⟩ rfl rfl rfl
end
theorem q6k:∃i z b,Tryz.prog.info? 79=some i∧i.zero=some z∧i.size=35∧i.bytes=b∧z.cells.size=35∧b≤1000:=by
 obtain⟨i,z,j,o,m⟩:=qdo Tryz.zeroHtlc'
 have f:(Tryz.prog.info? 79).map (fun i=>decide (i.bytes≤1000))=some true:=by kernel_rfl
 have l:=Tryz.infoHtl
 rw[j,Option.map_some,Option.some.injEq] at f l
 exact⟨i,z,i.bytes,j,o,l,rfl,by rw[m];rfl,of_decide_eq_true f⟩
theorem Tryz.zeroU64:((Tryz.prog.info? 22).map fun i=>i.zero.map fun z=>z.cells.toList)=some (some [.int .u64 0]):=by kernel_rfl
theorem Tryz.infoU64:(Tryz.prog.info? 22).map (·.size)=some 1:=by kernel_rfl
theorem q8p:∃i z b,Tryz.prog.info? 22=some i∧i.zero=some z∧i.size=1∧i.bytes=b∧z.cells.size=1∧b≤1000:=by
 obtain⟨i,z,j,o,m⟩:=qdo Tryz.zeroU64
 have f:(Tryz.prog.info? 22).map (fun i=>decide (i.bytes≤1000))=some true:=by kernel_rfl
 have l:=Tryz.infoU64
 rw[j,Option.map_some,Option.some.injEq] at f l
 exact⟨i,z,i.bytes,j,o,l,rfl,by rw[m];rfl,of_decide_eq_true f⟩
def za5(n:Nat)(p:Array (Nat × Value)):Sem Value:=Instr.buildSlice 116 n p
theorem qve(n:Nat)(p:Array (Nat × Value)):Instr.buildSlice 116 n p=za5 n p:=rfl
theorem zb3(A:List Value)(w:World):(za5 1 #[(0,.agg A.toArray)]).run Tryz.prog w=if A.length=35 then .ok (.slice (some ⟨w.heap.size,0,none⟩) 1 1) (w.alloc (.cells A.toArray 79)) else (Instr.buildSlice 116 1 #[(0,.agg A.toArray)]).run Tryz.prog w:=by
 by_cases h:A.length=35
 ·rw[if_pos h];exact qz2 Tryz.underlying116 Tryz.zeroHtlc' Tryz.infoHtl rfl (by decide) (by decide) A h w
 ·rw[if_neg h];rfl
theorem q6z(x:Live):(ql x).toArray.extract 0 (0+35)=(zi x.h).toArray:=by
 apply Array.ext'
 rw[Array.toList_extract]
 unfold ql
 rw[List.extract_eq_take_drop]
 simp[qba]
structure CutS(w0 w:World)(g K R:Nat)(S:Nat→Prop)(ci:Ch)(lv nv av kv ov rv:Value)(ks:List Live)(os:List Htlc)(rs:List Int):Prop where
 ch:ChP w g S ci lv nv av
 k:w.heap[K]? = some (.cells #[ov,rv] 119 (0,0))
 r:w.heap[R]? = some (.cells #[.slice none 0 0,.slice none 0 0] 119 (0,0))
 ko:w.ownsRow w0.heap.size 81 38 kv ks.length (ks.flatMap ql)
 oo:w.ownsRow w0.heap.size 79 35 ov os.length (os.flatMap zi)
 ro:w.ownsRow w0.heap.size 22 1 rv rs.length (rs.map (Value.int .u64))
 u:Upd (· = g) w0 w
 lt:∀k,S k→k<w0.heap.size
 kge:w0.heap.size≤K
 rge:w0.heap.size≤R
 ne:R≠K
section
variable {w0 w w':World}{g K R:Nat}{S:Nat→Prop}{ci cj:Ch}{lv nv av kv ov rv v:Value}{ks ks':List Live}{os os':List Htlc}{rs rs':List Int}
theorem CutS.glt(h:CutS w0 w g K R S ci lv nv av kv ov rv ks os rs):g<w0.heap.size:=h.lt g h.ch.inG
theorem CutS.new(h:CutS w0 w g K R S ci lv nv av kv ov rv ks os rs)(n:qx w w'):CutS w0 w' g K R S ci lv nv av kv ov rv ks os rs :=
 ⟨h.ch.new n,n.old h.k (fun h=>h),n.old h.r (fun h=>h),qq h.ko n (fun _ _ h=>h),qq h.oo n (fun _ _ h=>h),qq h.ro n (fun _ _ h=>h),h.u.trans (n.mono (fun _ _ h=>h.elim)),h.lt,h.kge,h.rge,h.ne⟩
theorem CutS.op(h:CutS w0 w g K R S ci lv nv av kv ov rv ks os rs)(i:ChP w' g S cj lv nv av)(u:Upd (· = g) w w'):CutS w0 w' g K R S cj lv nv av kv ov rv ks os rs:=by
 have q:=h.glt
 have f:∀ {T:TypeId} {o n:Nat} {v:Value} {l:List Value},w.ownsRow w0.heap.size T o v n l→∀k,v.ownBlock=some k→¬k=g:=fun m k j e=>by have:=qi6 m k j;omega
 have:=h.kge
 have:=h.rge
 exact⟨i,u.old h.k (fun e=>by omega),u.old h.r (fun e=>by omega),qq h.ko u (f h.ko),qq h.oo u (f h.oo),qq h.ro u (f h.ro),h.u.trans u,h.lt,h.kge,h.rge,h.ne⟩
theorem CutS.grow(h:CutS w0 w g K R S ci lv nv av kv ov rv ks os rs){T:TypeId}{H n:Nat}{l:List Value}(m:w.ownsRow w0.heap.size T H v n l)(u:Upd (fun k=>v.ownBlock=some k) w w')(D:T≠119) :
  ChP w' g S ci lv nv av∧w'.heap[K]? = some (.cells #[ov,rv] 119 (0,0))∧w'.heap[R]? = some (.cells #[.slice none 0 0,.slice none 0 0] 119 (0,0)) ∧
  (T≠81→w'.ownsRow w0.heap.size 81 38 kv ks.length (ks.flatMap ql))∧(T≠79→w'.ownsRow w0.heap.size 79 35 ov os.length (os.flatMap zi))∧(T≠22→w'.ownsRow w0.heap.size 22 1 rv rs.length (rs.map (Value.int .u64)))∧Upd (· = g) w0 w':=by
 have y:∀ {U:TypeId} {o E:Nat} {z:Value} {l2:List Value},T≠U→w.ownsRow w0.heap.size U o z E l2→∀k,z.ownBlock=some k→¬v.ownBlock=some k:=by
  intro U o E z l2 x F k t e
  obtain⟨C,f⟩:=qw m k e
  obtain⟨I,q⟩:=qw F k t
  exact za f q x rfl
 refine⟨h.ch.upd u (fun k t e=>by have:=h.lt k t;have:=qi6 m k e;omega),u.old h.k ?_,u.old h.r ?_,fun j=>qq h.ko u (y j h.ko),fun j=>qq h.oo u (y j h.oo),fun j=>qq h.ro u (y j h.ro),h.u.then u (fun i J e=>by have:=qi6 m i e;omega)⟩
 ·intro e
  obtain⟨C,f⟩:=qw m K e
  exact za f h.k D rfl
 ·intro e
  obtain⟨C,f⟩:=qw m R e
  exact za f h.r D rfl
theorem CutS.putO(h:CutS w0 w g K R S ci lv nv av kv ov rv ks os rs)(u:Upd (fun k=>ov.ownBlock=some k) w w')(C:w'.ownsRow w0.heap.size 79 35 v os'.length (os'.flatMap zi)):CutS w0 (w'.setCell ⟨K,0,none⟩ v) g K R S ci lv nv av kv v rv ks os' rs:=by
 obtain⟨a1,a2,a3,y,-,z,E⟩:=h.grow h.oo u (by decide)
 have I:CutS w0 w' g K R S ci lv nv av kv ov rv ks [] rs→True:=fun _=>trivial
 have f:Upd (· = K) w' (w'.setCell ⟨K,0,none⟩ v):=(Upd.refl _ _).set1 0 v
 have J:=h.glt
 have H:=h.kge
 have l:=h.ne
 have t:∀ {U:TypeId} {j D:Nat} {x:Value} {l2:List Value},U≠119→w'.ownsRow w0.heap.size U j x D l2→∀k,x.ownBlock=some k→¬k=K:=by
  intro U j D x l2 q l k o e
  obtain⟨F,m⟩:=qw l k o
  exact za m a2 q e
 exact⟨a1.upd f (fun k o e=>by have:=h.lt k o;omega),by rw[zu a2];rfl,f.old a3 l,qq (y (by decide)) f (t (by decide) (y (by decide))),qq C f (t (by decide) C),qq (z (by decide)) f (t (by decide) (z (by decide))),E.then f (fun i L e=>by omega),h.lt,h.kge,h.rge,h.ne⟩
theorem CutS.putR(h:CutS w0 w g K R S ci lv nv av kv ov rv ks os rs)(u:Upd (fun k=>rv.ownBlock=some k) w w')(C:w'.ownsRow w0.heap.size 22 1 v rs'.length (rs'.map (Value.int .u64))):CutS w0 (w'.setCell ⟨K,1,none⟩ v) g K R S ci lv nv av kv ov v ks os rs':=by
 obtain⟨a1,a2,a3,y,z,-,E⟩:=h.grow h.ro u (by decide)
 have f:Upd (· = K) w' (w'.setCell ⟨K,1,none⟩ v):=(Upd.refl _ _).set1 1 v
 have I:=h.glt
 have H:=h.kge
 have l:=h.ne
 have t:∀ {U:TypeId} {j D:Nat} {x:Value} {l2:List Value},U≠119→w'.ownsRow w0.heap.size U j x D l2→∀k,x.ownBlock=some k→¬k=K:=by
  intro U j D x l2 q l k o e
  obtain⟨F,m⟩:=qw l k o
  exact za m a2 q e
 exact⟨a1.upd f (fun k o e=>by have:=h.lt k o;omega),by rw[zu a2];rfl,f.old a3 l,qq (y (by decide)) f (t (by decide) (y (by decide))),qq (z (by decide)) f (t (by decide) (z (by decide))),qq C f (t (by decide) C),E.then f (fun i J e=>by omega),h.lt,h.kge,h.rge,h.ne⟩
theorem CutS.putL(h:CutS w0 w g K R S ci lv nv av kv ov rv ks os rs)(u:Upd (fun k=>kv.ownBlock=some k) w w')(l:w'.ownsRow w0.heap.size 81 38 v ks'.length (ks'.flatMap ql)):CutS w0 w' g K R S ci lv nv av v ov rv ks' os rs:=by
 obtain⟨a1,a2,a3,-,f,i,j⟩:=h.grow h.ko u (by decide)
 exact⟨a1,a2,a3,l,f (by decide),i (by decide),j,h.lt,h.kge,h.rge,h.ne⟩
theorem CutS.other(h:CutS w0 w g K R S ci lv nv av kv ov rv ks os rs){X:Nat}(u:Upd (· = X) w w')(l:w.heap.size≤X∨(w0.heap.size≤X∧X≠K∧X≠R∧(∀k,kv.ownBlock=some k→k≠X)∧(∀k,ov.ownBlock=some k→k≠X)∧(∀k,rv.ownBlock=some k→k≠X))):CutS w0 w' g K R S ci lv nv av kv ov rv ks os rs:=by
 have F:=h.glt
 have I:=h.u.size
 have q:∀ {U:TypeId} {m x:Nat} {t:Value} {l2:List Value},w.ownsRow w0.heap.size U m t x l2→∀k,t.ownBlock=some k→k<w.heap.size:=by
  intro U m x t l2 y k j
  obtain⟨E,o⟩:=qw y k j
  exact zq o
 have z:=zq h.k
 have C:=zq h.r
 have D:w0.heap.size≤X:=by rcases l with e | e<;>omega
 refine⟨h.ch.upd u (fun k j e=>by have:=h.lt k j;omega),u.old h.k (fun e=>by rcases l with f | f<;>omega),u.old h.r (fun e=>by rcases l with f | f<;>omega),qq h.ko u (fun k j e=> ?_),qq h.oo u (fun k j e=> ?_),qq h.ro u (fun k j e=> ?_),h.u.then u (fun i H e=>by omega),h.lt,h.kge,h.rge,h.ne⟩
 ·have:=q h.ko k j
  rcases l with f | f
  ·omega
  ·exact f.2.2.2.1 k j e
 ·have:=q h.oo k j
  rcases l with f | f
  ·omega
  ·exact f.2.2.2.2.1 k j e
 ·have:=q h.ro k j
  rcases l with f | f
  ·omega
  ·exact f.2.2.2.2.2 k j e
end
theorem ChP.noNews{w:World}{g:Nat}{S:Nat→Prop}{c:Ch}{lv nv av:Value}(h:ChP w g S c lv nv av):ChP (w.setCell ⟨g,626,none⟩ qbl) g S {c with news:=[]} lv qbl av:=by
 have u:Upd (· = g) w (w.setCell ⟨g,626,none⟩ qbl):=(Upd.refl _ _).set1 626 _
 have f:=zu h.at_ 626 qbl
 rw[qqg c lv nv av h.ok.s.seed h.ok.shelf [] qbl] at f
 have o:∀ {T:TypeId} {j n:Nat} {v:Value} {l:List Value},T≠92→w.ownsRow 0 T j v n l→∀k,v.ownBlock=some k→¬k=g:=by
  intro T j n v l t z k i e
  obtain⟨q,x⟩:=qw z k i
  exact za x h.at_ t e
 exact⟨f,⟨h.ok.s,h.ok.signed,h.ok.heard,h.ok.nextOwn,h.ok.nextTheirs,h.ok.loc,h.ok.rem,h.ok.xs,h.ok.few,h.ok.shelf,(fun m y=>by cases y),h.ok.last,⟨Nat.zero_le _,h.ok.many.2⟩⟩,qq h.live u (o (by decide) h.live),World.ownsRow_nil _ _ _ _,qq h.last u (o (by decide) h.last),h.inG,h.inL,(fun k e=>by cases e),h.inA,(fun k e=>by cases e),fun k i=>Nat.lt_of_lt_of_le (h.lt k i) u.size⟩
theorem qwo(x:Live):(((ql x).toArray.setIfInBounds 36 (.int .i64 4)).setIfInBounds 37 (.bool false))=(ql {x with state:=4,paid:=false}).toArray:=by
 unfold ql
 rw[List.setIfInBounds_toArray,List.setIfInBounds_toArray,List.set_append_right _ _ (by rw[qba];omega),List.set_append_right _ _ (by rw[qba];omega),qba]
 rfl
end Go.Proofs.YtjpmomdechibmaaGreatDoor
