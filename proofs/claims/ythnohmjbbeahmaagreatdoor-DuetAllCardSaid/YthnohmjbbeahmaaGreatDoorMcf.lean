/-
  A cell set within a row of lives; remove.
-/
import Derived.Test.YthnohmjbbeahmaaGreatDoorMaf
import Derived.Test.YthnohmjbbeahmaaGreatDoorMbb
import Derived.Test.YthnohmjbbeahmaaGreatDoorMbj
import Derived.Test.YthnohmjbbeahmaaGreatDoorHsg
import Derived.Test.YthnohmjbbeahmaaGreatDoorMad
import Derived.Test.YthnohmjbbeahmaaGreatDoorMbe
import Derived.Laws.BitsAllLaws
import Derived.Outline
import Derived.Test.YthnohmjbbeahmaaGreatDoorMaa
set_option linter.unusedVariables false
set_option linter.unusedSimpArgs false
namespace Go.Proofs.YthnohmjbbeahmaaGreatDoor
open Go.RowKit
theorem qrc{α:Type}(f:α→List Value)(k:Nat)(g:∀x,(f x).length=k):∀(X:List α) (i j:Nat) (x y:α) (u:Value),X[i]? = some x→j<k→f y=(f x).set j u→(X.set i y).flatMap f=(X.flatMap f).set (i*k+j) u
 | [],i,j,x,y,u,h,_,_=>by simp at h
 | z::X,0,j,x,y,u,h,l,m=>by
  have:z=x:=by simpa using h
  subst this;rw[List.set_cons_zero,List.flatMap_cons,List.flatMap_cons,m,Nat.zero_mul,Nat.zero_add,List.set_append_left _ _ (by rw[g];exact l)]
 | z::X,i+1,j,x,y,u,h,l,m=>by
  rw[List.set_cons_succ,List.flatMap_cons,List.flatMap_cons,qrc f k g X i j x y u (by simpa using h) l m,List.set_append_right _ _ (by rw[g,Nat.succ_mul];omega),g];congr 2;rw[Nat.succ_mul];omega
theorem qzv{α:Type}(f:α→List Value)(k:Nat)(t:∀x,(f x).length=k){w:World}{base:Nat}{T:TypeId}{v:Value}{X:List α}(h:w.ownsRow base T k v X.length (X.flatMap f)){i j:Nat}{x y:α}{u:Value}(q:X[i]? = some x)(C:j<k)(D:f y=(f x).set j u){g:Nat}(z:v.ownBlock=some g) :
  (w.setCell ⟨g,i*k+j,none⟩ u).ownsRow base T k v (X.set i y).length ((X.set i y).flatMap f):=by
 have H:=(List.getElem?_eq_some_iff.1 q).1
 rcases h.2 with ⟨e,e0⟩ | ⟨g',cap,l,e,E,m,F,K,I,J⟩
 ·omega
 ·rw[e] at z;have o:g'=g:=by simpa [Value.ownBlock] using z
  subst o;rw[List.length_set];refine⟨?_,.inr ⟨g',cap,l.setIfInBounds (i*k+j) u,e,E,z7 m _ _,F,K,by rw[Array.size_setIfInBounds];exact I,?_⟩⟩
  ·rw[qrc f k t X i j x y u q C D,List.length_set];exact h.1
  ·rw[qrc f k t X i j x y u q C D,←J,Array.toList_setIfInBounds,List.take_set]
theorem q2e(x:Live)(s:Int):ql {x with state:=s} = (ql x).set 36 (.int .i64 s):=by
 unfold ql;rw[List.set_append_right _ _ (by rw[qbh];omega),qbh];rfl
theorem q2f(x:Live)(p:Bool):ql {x with paid:=p} = (ql x).set 37 (.bool p):=by
 unfold ql;rw[List.set_append_right _ _ (by rw[qbh];omega),qbh];rfl
def Ch.removed(c:Ch)(i:Nat)(x:Live)(paid:Bool):Ch:= {c with xs:=c.xs.set i {x with state:=5,paid:=paid}}
set_option maxRecDepth 100000 in
set_option maxHeartbeats 1000000 in
theorem qj4(g:Nat)(S:Nat→Prop)(c:Ch)(q nv R:Value)(i:Nat)(x:Live)(paid:Bool)(w:World)(h:ChP w g S c q nv R)(M:c.xs[i]? = some x) :
  Calls Tryz.prog 55 #[.pointer (some ⟨g,0,none⟩),.int .i64 i,.bool paid] w fun e w'=>e = .returned (.tuple #[])∧ChP w' g S (c.removed i x paid) q nv R∧Upd (fun k=>q.ownBlock=some k) w w':=by
 have H:=(List.getElem?_eq_some_iff.1 M).1
 have U:w.drew.cell? ⟨g,47,none⟩=some q:=h.toR.live
 obtain⟨l,cap,I,o⟩:∃l cap,q = .slice (some ⟨l,0,none⟩) c.xs.length cap∧q.ownBlock=some l:=by
  rcases h.live.2 with ⟨e,e0⟩ | ⟨g',cap,D,e,_⟩
  ·omega
  ·exact⟨g',cap,e,by rw[e];rfl⟩
 obtain⟨D,m⟩:=qai h.live l o
 have z:=(qdo h.live).2
 have J:zm w l (i*38) 38=some (ql x).toArray:=by
  rcases z with ⟨e,e0⟩ | ⟨g',Y,e,-,hh⟩
  ·rw[e0] at H;simp at H
  ·rw[I] at e;injection e with e1 e2 e3;injection e1 with e1;injection e1 with e1;have:=hh.row M;rw[Nat.zero_add,←e1] at this;exact this
 have a6:w.drew.cell? ⟨l,i*38+36,none⟩=some (.int .i64 x.state):=by
  have:=(qfm J).2 36 (by omega);rw[List.getElem?_toArray,qgm] at this;exact this
 have L:w.drew.cell? ⟨l,i*38+37,none⟩=some (.bool x.paid):=by
  have:=(qfm J).2 37 (by omega);rw[List.getElem?_toArray,qnm] at this;exact this
 have u1:Upd (· = l) w (w.setCell ⟨l,i*38+36,none⟩ (.int .i64 5)).drew:=((Upd.refl _ _).set1 _ _).drew
 have V:g≠l:=qao h.at_ m (by decide)
 have O:(w.setCell ⟨l,i*38+36,none⟩ (.int .i64 5)).drew.ownsRow 0 56 38 q (c.xs.set i {x with state:=5}).length ((c.xs.set i {x with state:=5}).flatMap ql):=qzv ql 38 qa5 h.live M (by omega) (q2e x 5) o
 have N:(c.xs.set i {x with state:=5})[i]? = some {x with state:=5} := by rw[List.getElem?_set_self H]
 have a7:w.drew.frozen? ⟨l,i*38+36,none⟩=false:=qv m _
 have E:(w.setCell ⟨l,i*38+36,none⟩ (.int .i64 5)).drew.heap[l]? = some (.cells (D.setIfInBounds (i*38+36) (.int .i64 5)) 56 (0,0)):=z7 m _ _
 have a4:(w.setCell ⟨l,i*38+36,none⟩ (.int .i64 5)).drew.cell? ⟨l,i*38+37,none⟩=some (.bool x.paid):=by
  have e:w.cell? ⟨l,i*38+37,none⟩=D[i*38+37]? := qh m _;have e2:w.cell? ⟨l,i*38+37,none⟩=some (.bool x.paid):=L;rw[qh E,Array.getElem?_setIfInBounds_ne (by omega),←e,e2]
 have a5:(w.setCell ⟨l,i*38+36,none⟩ (.int .i64 5)).drew.frozen? ⟨l,i*38+37,none⟩=false:=qv E _
 have F:=qzv ql 38 qa5 O N (show 37<38 by omega) (q2f {x with state:=5} paid) o
 rw[List.set_set] at F
 have K:Upd (· = l) w ((w.setCell ⟨l,i*38+36,none⟩ (.int .i64 5)).drew.setCell ⟨l,i*38+37,none⟩ (.bool paid)):=u1.set1 _ _
 have t:ChP ((w.setCell ⟨l,i*38+36,none⟩ (.int .i64 5)).drew.setCell ⟨l,i*38+37,none⟩ (.bool paid)) g S (c.removed i x paid) q nv R:=by
  have C:∀ {v:Value} {n:Nat} {xs:List Value},w.ownsRow 0 71 38 v n xs→∀k,v.ownBlock=some k→¬k=l:=by
   intro v n xs hr k W e;obtain⟨Z,hc⟩:=qai hr k W;exact qao hc m (by decide) e
  have X:=h.ok.xs x (List.mem_of_getElem? M);refine⟨K.old h.at_ V,⟨h.ok.s,h.ok.signed,h.ok.heard,h.ok.nextOwn,h.ok.nextTheirs,h.ok.loc,h.ok.rem,?_,?_,h.ok.shelf,h.ok.news,h.ok.last,h.ok.many⟩,F,zc h.news K (C h.news),zc h.last K (C h.last),h.inG,h.inL,h.inN,h.inA,h.sep,fun k W=>Nat.lt_of_lt_of_le (h.lt k W) K.size⟩
  ·intro y P;rcases List.mem_or_eq_of_mem_set P with P | P
   ·exact h.ok.xs y P
   ·rw[P];exact⟨X.h,show (-9223372036854775808:Int)≤5 by decide,show (5:Int)≤9223372036854775807 by decide⟩
  ·show (c.xs.set i _).length≤1000000;rw[List.length_set];exact h.ok.few
 have HF:=qb t
 have HU:=qb (K.mono (T:=fun k=>q.ownBlock=some k) (fun k _ e=>by rw[e];exact o))
 have a8:(i:Int)<(c.xs.length:Int):=by omega
 rw[I] at U
 clear h z J L O N F E m u1 K t I o M
 go_enter Tryz.func55,Tryz.ntmps55
 go_wp2_with (with_reducible first|(first|refine' tw1 (qg ?_) ?_|refine' tw2 (qg ?_) ?_);rotate_left|refine' tw3 (qg ?_)|rfl|apply tn|refine' tw4 ?_)
 go_end0
 exact⟨rfl,qa HF,qa HU⟩
attribute [local go_sem ↓ high] qdf
attribute [local go_sem] qh5 zb
def qc8(own:Bool)(id:Int)(x:Live):Bool:=x.own==own&&(x.h.id==id&&x.state==4)
set_option maxHeartbeats 1000000 in
theorem q5b(own:Bool)(id:Int)(x:Live)(t v:Nat)(w:World)(o:w.cell? ⟨t,0,none⟩=some (.bool own))(q:w.cell? ⟨v,0,none⟩=some (.int .u64 id)) :
  Calls Tryz.prog 69 #[.agg (ql x).toArray,.pointer (some ⟨t,0,none⟩),.pointer (some ⟨v,0,none⟩)] w (qbr (.bool (qc8 own id x)) w):=by
 go_enter Tryz.func69,Tryz.ntmps69
 go_upto_region 1 with fail
 have i:(w.alloc (.cells (ql x).toArray 56)).heap[w.heap.size]? = some (.cells (ql x).toArray 56 (0,0)):=qi _ _
 have g:qu w (w.alloc (.cells (ql x).toArray 56)):=(Upd.refl _ _).alloc _
 generalize w.alloc (.cells (ql x).toArray 56)=w1 at i g ⊢
 replace o:=g.cell o (fun h=>h)
 replace q:=g.cell q (fun h=>h)
 have z:w1.cell? ⟨w.heap.size,35,none⟩=some (.bool x.own):=by rw[qh i,List.getElem?_toArray];exact qh6 x
 have C:w1.cell? ⟨w.heap.size,36,none⟩=some (.int .i64 x.state):=by rw[qh i,List.getElem?_toArray];exact qgm x
 have D:w1.cell? ⟨w.heap.size,0,none⟩=some (.int .u64 x.h.id):=by rw[qh i,List.getElem?_toArray];exact zaw x
 clear i
 cases l:x.own==own with
 | false =>
  go_wp2_with (with_reducible first|(first|refine' tw1 (qg ?_) ?_|refine' tw2 (qg ?_) ?_);rotate_left|refine' tw3 (qg ?_)|rfl|apply tn|refine' tw4 ?_);go_ret;exact⟨by unfold qc8;rw[l];rfl,g⟩
 | true =>
  cases m:x.h.id==id with
  | false =>
   go_wp2_with (with_reducible first|(first|refine' tw1 (qg ?_) ?_|refine' tw2 (qg ?_) ?_);rotate_left|refine' tw3 (qg ?_)|rfl|apply tn|refine' tw4 ?_);go_ret;exact⟨by unfold qc8;rw[l,m];rfl,g⟩
  | true =>
   go_wp2_with (with_reducible first|(first|refine' tw1 (qg ?_) ?_|refine' tw2 (qg ?_) ?_);rotate_left|refine' tw3 (qg ?_)|rfl|apply tn|refine' tw4 ?_);go_ret;exact⟨by unfold qc8;rw[l,m];rfl,g⟩
def qpf(own:Bool)(id:Int)(xs:List Live):Int:=match xs.findIdx? (qc8 own id) with | some i=>i | none=> -1
set_option maxRecDepth 100000 in
set_option maxHeartbeats 1000000 in
theorem q15(own:Bool)(id:Int)(I J:Nat)(v:Value)(xs:List Live)(w:World)(hv:qvl w v xs)(Y:xs.length≤1000000)(T:w.cell? ⟨I,0,none⟩=some (.bool own))(U:w.cell? ⟨J,0,none⟩=some (.int .u64 id)) :
  Calls Tryz.prog 68 #[v,.func (.func 69) #[] #[.pointer (some ⟨I,0,none⟩),.pointer (some ⟨J,0,none⟩)]] w (qbr (.int .i64 (qpf own id xs)) w):=by
 have g:=(qdo hv).2
 obtain⟨a,cap,rfl⟩:=qap hv
 have l:∀(i:Nat) (x:Live),xs[i]? = some x→∃g',a=some ⟨g',0,none⟩∧qgz w g' 0 xs:=by
  intro i x O;have m:=(List.getElem?_eq_some_iff.1 O).1;rcases g with ⟨e,e0⟩ | ⟨g',k,e,-,C⟩
  ·rw[e0] at m;simp at m
  ·injection e with e1;exact⟨g',e1,C.toL⟩
 clear g hv
 have W:(xs.length:Int)≤1000000:=by omega
 go_enter Tryz.func68,Tryz.ntmps68
 go_wp2_with fail
 go_loopw [5,8] (fun _ H wr=>∃i:Nat,H = .int .i64 (i:Int)∧i≤xs.length∧(∀j x,j<i→xs[j]? = some x→qc8 own id x=false)∧qu w wr) (fun _ H _=>xs.length-(intOf H).toNat)
 case atStart=>exact⟨0,rfl,Nat.zero_le _,fun j x h=>by omega,Upd.refl _ _⟩
 case round =>
  obtain⟨i,rfl,O,M,q⟩:=hrel;obtain⟨K,rfl⟩:∃K:World,K=wr:=⟨_,rfl⟩;have D:=qb M;clear M;by_cases m:i<xs.length
  ·obtain⟨x,o⟩:∃x,xs[i]? = some x:=⟨_,List.getElem?_eq_getElem m⟩;obtain⟨g',rfl,C⟩:=l i x o;have g:=(C.upd q (fun h=>h)).row o;rw[Nat.zero_add] at g;have V:(i:Int)<(xs.length:Int):=by omega
   have N:=q5b own id x I J K (q.cell T (fun h=>h)) (q.cell U (fun h=>h));have L:=qb o;clear C l o;go_wp2_with fail;refine N.mono ?_;rintro e Z ⟨rfl,P⟩;have R:=q.trans P;clear N g q P;cases t:qc8 own id x with
   | true =>
    go_wp2_with fail;go_ret;have E:xs.findIdx? (qc8 own id)=some i:=by
     rw[List.findIdx?_eq_some_iff_getElem];refine⟨m,?_,fun j z=> ?_⟩
     ·have:=qa L;rw[List.getElem?_eq_getElem m] at this;rw[Option.some.inj this,t]
     ·have:=qa D j _ z (List.getElem?_eq_getElem (by omega));rw[this];decide
    exact⟨by unfold qpf;rw[E];rfl,R⟩
   | false =>
    go_wp2_with fail;go_roundw
    case rel =>
     refine⟨i+1,by go_num,by omega,fun j y z F=> ?_,R⟩;by_cases e:j<i
     ·exact qa D j y e F
     ·obtain rfl:j=i:=by omega
      rw[qa L] at F;rw[←Option.some.inj F];exact t
    case measure=>simp[intOf];omega
  ·obtain rfl:i=xs.length:=by omega
   clear l;go_wp2_with fail;go_ret;have E:xs.findIdx? (qc8 own id)=none:=by
    rw[List.findIdx?_eq_none_iff];intro x X;obtain⟨j,z,rfl⟩:=List.mem_iff_getElem.1 X;exact qa D j _ z (List.getElem?_eq_getElem z)
   exact⟨by unfold qpf;rw[E];rfl,q⟩
set_option maxHeartbeats 1000000 in
theorem qm5(g:Nat)(S:Nat→Prop)(c:Ch)(own:Bool)(id:Int)(w:World)(h:ChS w g S c) :
  Calls Tryz.prog 54 #[.pointer (some ⟨g,0,none⟩),.bool own,.int .u64 id] w (qbr (.int .i64 (qpf own id c.xs)) w):=by
 obtain⟨t,nv,E,h⟩:=h
 go_enter Tryz.func54,Tryz.ntmps54
 go_upto_region 1 with fail
 have o:qu w ((w.alloc (.cells #[.bool own] 4)).alloc (.cells #[.int .u64 id] 27)):=((Upd.refl _ _).alloc _).alloc _
 have i:((w.alloc (.cells #[.bool own] 4)).alloc (.cells #[.int .u64 id] 27)).heap[w.heap.size]? = some (.cells #[.bool own] 4 (0,0)):=zj (qi _ _) _
 have l:((w.alloc (.cells #[.bool own] 4)).alloc (.cells #[.int .u64 id] 27)).heap[w.heap.size+1]? = some (.cells #[.int .u64 id] 27 (0,0)):=by
  have:=qi (w.alloc (.cells #[.bool own] 4)) (.cells #[.int .u64 id] 27);rwa [World.size_alloc] at this
 generalize (w.alloc (.cells #[.bool own] 4)).alloc (.cells #[.int .u64 id] 27)=v at o i l ⊢
 have m:=h.new o
 have C:v.cell? ⟨g,47,none⟩=some t:=m.toR.live
 have q:=fun(W:World) (n:qu v W)=>q15 own id w.heap.size (w.heap.size+1) t c.xs W (zc m.live n (fun _ _ h=>h)) h.ok.few (n.cell (qh i 0) (fun h=>h)) (n.cell (qh l 0) (fun h=>h))
 have z:=qb q
 clear q i l m
 go_wp2_with (with_reducible first|(first|refine' tw1 (qg ?_) ?_|refine' tw2 (qg ?_) ?_);rotate_left|refine' tw3 (qg ?_)|rfl|apply tn|refine' tw4 ?_)
 refine(qa z _ (Upd.refl _ _)).mono ?_
 rintro e F ⟨rfl,D⟩
 go_wp2_with (with_reducible first|(first|refine' tw1 (qg ?_) ?_|refine' tw2 (qg ?_) ?_);rotate_left|refine' tw3 (qg ?_)|rfl|apply tn|refine' tw4 ?_)
 go_ret
 exact⟨rfl,o.trans D⟩
end Go.Proofs.YthnohmjbbeahmaaGreatDoor
namespace Go.Proofs.YthnohmjbbeahmaaGreatDoor
open Go.RowKit
attribute [local go_sem ↓ high] zy qak qaq qat zr zu zw zx
attribute [local go_sem] qcl qdb qdn qgw zb qb3 qb9 qcf
def qbf(own:Bool)(id:Int)(xs:List Live):Option (Nat × Live):=match xs.findIdx? (qc8 own id) with | some i=>(xs[i]?).map fun x=>(i,x) | none=>none
theorem qjn{own:Bool}{id:Int}{xs:List Live}(h:qbf own id xs=none):qpf own id xs = -1:=by
 unfold qbf at h;unfold qpf;cases e:xs.findIdx? (qc8 own id) with
 | none=>rfl
 | some i =>
  rw[e] at h;have h:Option.map (fun x=>(i,x)) xs[i]? = none:=h;obtain⟨g,-⟩:=List.findIdx?_eq_some_iff_getElem.1 e;rw[List.getElem?_eq_getElem g] at h;cases h
theorem qhg{own:Bool}{id:Int}{xs:List Live}{i:Nat}{x:Live}(h:qbf own id xs=some (i,x)):qpf own id xs=(i:Int)∧xs[i]? = some x∧qc8 own id x=true:=by
 unfold qbf at h;unfold qpf;cases e:xs.findIdx? (qc8 own id) with
 | none=>rw[e] at h;cases h
 | some j =>
  rw[e] at h;obtain⟨g,l,-⟩:=List.findIdx?_eq_some_iff_getElem.1 e;have h:Option.map (fun x=>(j,x)) xs[j]? = some (i,x):=h;rw[List.getElem?_eq_getElem g] at h;simp only[Option.map_some,Option.some.injEq,Prod.mk.injEq] at h;obtain⟨rfl,rfl⟩:=h;exact⟨rfl,List.getElem?_eq_getElem g,l⟩
def Ch.hearShut(c:Ch):Ch × Int:=if c.k.shutHeard=true then (c,4) else ({c with k:= {c.k with shutHeard:=true}},0)
set_option maxRecDepth 100000 in
set_option maxHeartbeats 1000000 in
theorem qv9(g:Nat)(S:Nat→Prop)(c:Ch)(m:MsgV)(J:m.hash.length=32)(w:World)(h:ChS w g S c) :
  Calls Tryz.prog 86 #[.pointer (some ⟨g,0,none⟩),.agg m.cells.toArray] w fun e w' =>
   e = .returned (.tuple #[qcd,.int .i64 c.hearShut.2])∧ChS w' g (Fr S w w') c.hearShut.1∧Upd S w w':=by
 obtain⟨K,nv,I,h⟩:=h
 go_enter Tryz.func86,Tryz.ntmps86
 go_upto_region 1 with fail
 have l:qu w (w.alloc (.cells m.cells.toArray 71)):=(Upd.refl _ _).alloc _
 generalize w.alloc (.cells m.cells.toArray 71)=w1 at l ⊢
 have i:=h.new l
 have o:w1.cell? ⟨g,43,none⟩=some (.bool c.k.shutHeard):=i.toR.shutHeard
 have C:w1.frozen? ⟨g,43,none⟩=false:=qv i.at_ 43
 cases t:c.k.shutHeard with
 | true =>
  have q:c.hearShut=(c,4):=by unfold Ch.hearShut;rw[if_pos t]
  rw[t] at o;have v:=qb q;have F:=qb (i.fr w);have z:=qb (l.mono (T:=S) (fun _ _ h=>h.elim));clear h i l q C;go_wp2_with (with_reducible first|(first|refine' tw1 (qg ?_) ?_|refine' tw2 (qg ?_) ?_);rotate_left|refine' tw3 (qg ?_)|rfl|apply tn|refine' tw4 ?_);go_ret2;rw[qa v];exact⟨rfl,qa F,qa z⟩
 | false =>
  have q:c.hearShut=({c with k:= {c.k with shutHeard:=true}},0):=by unfold Ch.hearShut;rw[if_neg (by rw[t];decide)]
  rw[t] at o;have D:=i.putShutHeard true;have E:=qje w1 g 43 (.bool true);have v:=qb q;have H:=qb (D.fr w);have z:=qb ((l.mono (T:=S) (fun _ _ h=>h.elim)).trans (E.mono (fun k _ e=>by rw[e];exact h.inG)));clear h i l q D E;go_wp2_with (with_reducible first|(first|refine' tw1 (qg ?_) ?_|refine' tw2 (qg ?_) ?_);rotate_left|refine' tw3 (qg ?_)|rfl|apply tn|refine' tw4 ?_);go_ret2;rw[qa v];exact⟨rfl,qa H,qa z⟩
def Ch.hearFail(c:Ch)(m:MsgV):Ch × Int:=match qbf true m.id c.xs with | none=>(c,3) | some p=>(c.removed p.1 p.2 false,0)
theorem qmc{c:Ch}{m:MsgV}(h:qbf true m.id c.xs=none):c.hearFail m=(c,3):=by unfold Ch.hearFail;rw[h]
theorem qmd{c:Ch}{m:MsgV}{i:Nat}{x:Live}(h:qbf true m.id c.xs=some (i,x)):c.hearFail m=(c.removed i x false,0):=by unfold Ch.hearFail;rw[h]
set_option maxRecDepth 100000 in
set_option maxHeartbeats 1000000 in
theorem qv8(g:Nat)(S:Nat→Prop)(c:Ch)(m:MsgV)(V:m.hash.length=32)(w:World)(h:ChS w g S c) :
  Calls Tryz.prog 83 #[.pointer (some ⟨g,0,none⟩),.agg m.cells.toArray] w fun e w' =>
   e = .returned (.tuple #[qcd,.int .i64 (c.hearFail m).2])∧ChS w' g (Fr S w w') (c.hearFail m).1∧Upd S w w':=by
 obtain⟨N,nv,K,h⟩:=h
 go_enter Tryz.func83,Tryz.ntmps83
 go_upto_region 1 with fail
 have I:=qbx w m V
 have C:qu w (w.alloc (.cells m.cells.toArray 71)):=(Upd.refl _ _).alloc _
 generalize w.alloc (.cells m.cells.toArray 71)=w1 at C I ⊢
 have H:=h.new C
 obtain⟨-,-,W,-,-,-,-⟩:=I.cells
 have M:=qm5 g S c true m.id w1 ⟨N,nv,K,H⟩
 clear I
 go_wp2_with fail
 refine M.mono ?_
 rintro e X ⟨rfl,J⟩
 have z:=H.new J
 have l:=C.trans J
 clear M W H J C
 cases o:qbf true m.id c.xs with
 | none =>
  have q:=qjn o;have D:=qb (qmc o);have P:=qb (z.fr w);have E:=qb (l.mono (T:=S) (fun _ _ h=>h.elim));rw[q];clear h z l o q;go_wp2_with fail;go_ret2;rw[qa D];exact⟨rfl,qa P,qa E⟩
 | some p =>
  obtain⟨i,x⟩:=p;obtain⟨q,t,-⟩:=qhg o;have v:=qj4 g S c N nv K i x false X z t;have D:=qb (qmd o);have U:=qb h.inL;have E:=qb (l.mono (T:=S) (fun _ _ h=>h.elim));rw[q];clear h z l o q t;go_wp2_with fail;refine v.mono ?_;rintro e Y ⟨rfl,L,O⟩;have R:=qb (L.fr w);have F:=qb ((qa E).trans (O.mono (T:=S) (fun k _ e=>qa U k e)));clear v L O;go_wp2_with fail;go_ret2;rw[qa D];exact⟨rfl,qa R,qa F⟩
end Go.Proofs.YthnohmjbbeahmaaGreatDoor
namespace Go.Proofs.YthnohmjbbeahmaaGreatDoor
open Go.RowKit
attribute [local go_sem ↓ high] zr zu zw zx
attribute [local go_sem] qb3 qb9 qcf zb
set_option maxRecDepth 100000 in
set_option maxHeartbeats 1000000 in
theorem qyy(g:Nat)(S:Nat→Prop)(c:Ch)(m:MsgV)(z:MsgOk m)(w:World)(h:ChS w g S c)(o:qac m=false∨m.ch≠c.s.ch) :
  Calls Tryz.prog 41 #[.pointer (some ⟨g,0,none⟩),.agg m.cells.toArray] w (qbr (.tuple #[qcd,.int .i64 1]) w):=by
 obtain⟨M,nv,J,h⟩:=h
 go_enter Tryz.func41,Tryz.ntmps41
 go_upto_region 1 with fail
 have q:=qbx w m z.len
 have t:qu w (w.alloc (.cells m.cells.toArray 71)):=(Upd.refl _ _).alloc _
 generalize w.alloc (.cells m.cells.toArray 71)=w1 at t q ⊢
 generalize w.heap.size=A at q ⊢
 have E:=q.row
 have i:=fun W=>qsa m z W
 have H:=qb q
 have F:=qb (h.new t)
 have D:=qb t
 clear h q t z
 cases C:qac m with
 | false =>
  rw[C] at i;go_wp2_with (with_reducible first|(first|refine' tw1 (qg ?_) ?_|refine' tw2 (qg ?_) ?_);rotate_left|refine' tw3 (qg ?_)|rfl|apply tn|refine' tw4 ?_);refine(i _).mono ?_;rintro e v ⟨rfl,l⟩;have l:qu w1 v:=l.ofDrew;clear E;go_wp2_with (with_reducible first|(first|refine' tw1 (qg ?_) ?_|refine' tw2 (qg ?_) ?_);rotate_left|refine' tw3 (qg ?_)|rfl|apply tn|refine' tw4 ?_);go_ret2;exact⟨rfl,(qa D).trans l⟩
 | true =>
  rw[C] at i;have I:¬m.ch=c.s.ch:=by
   rcases o with e | e
   ·rw[C] at e;cases e
   ·exact e
  clear o;go_wp2_with (with_reducible first|(first|refine' tw1 (qg ?_) ?_|refine' tw2 (qg ?_) ?_);rotate_left|refine' tw3 (qg ?_)|rfl|apply tn|refine' tw4 ?_);refine(i _).mono ?_;rintro e v ⟨rfl,l⟩;have l:qu w1 v:=l.ofDrew;have L:=((qa H).new l).cells.2.1;have K:v.cell? ⟨g,0,none⟩=some (.int .u32 c.s.ch):=((qa F).new l).toR.ch;clear E i;go_wp2_with (with_reducible first|(first|refine' tw1 (qg ?_) ?_|refine' tw2 (qg ?_) ?_);rotate_left|refine' tw3 (qg ?_)|rfl|apply tn|refine' tw4 ?_);go_ret2;exact⟨rfl,(qa D).trans l⟩
set_option maxRecDepth 100000 in
set_option maxHeartbeats 1000000 in
theorem q97(F:FuncId)(g:Nat)(S:Nat→Prop)(c:Ch)(m:MsgV)(K:MsgOk m)(w:World)(h:ChS w g S c)(hok:qac m=true)(J:m.ch=c.s.ch)(R:Value→Int→World→World→Prop)
  (hE:∀args w,(callFunc F args).run Tryz.prog w = .ok (.enter F args) w)
  (z:∀ {w:World} {b:Nat},qkb w b→(Instr.lookup 133 (.map (some b)) (.int .i64 m.kind) true).run Tryz.prog w = .ok (.tuple #[.func (.func F) #[] #[],.bool true]) w)
  (hF:∀W,qu w W→Calls Tryz.prog F #[.pointer (some ⟨g,0,none⟩),.agg m.cells.toArray] W fun e w'=>∃v n,e = .returned (.tuple #[v,.int .i64 n])∧R v n W w') :
  Calls Tryz.prog 41 #[.pointer (some ⟨g,0,none⟩),.agg m.cells.toArray] w fun e w'=>∃v n W,e = .returned (.tuple #[v,.int .i64 n])∧qu w W∧R v n W w':=by
 obtain⟨lv,nv,av,h⟩:=h
 go_enter Tryz.func41,Tryz.ntmps41
 go_upto_region 1 with fail
 have t:=qbx w m K.len
 have D:qu w (w.alloc (.cells m.cells.toArray 71)):=(Upd.refl _ _).alloc _
 generalize w.alloc (.cells m.cells.toArray 71)=w1 at D t ⊢
 generalize w.heap.size=A at t ⊢
 have rA:=t.row
 have i:=fun W=>qsa m K W
 rw[hok] at i
 have H:=qb t
 have X:=qb (h.new D)
 have Z:=qb D
 clear h t D K
 go_wp2_with (with_reducible first|(first|refine' tw1 (qg ?_) ?_|refine' tw2 (qg ?_) ?_);rotate_left|refine' tw3 (qg ?_)|rfl|apply tn|refine' tw4 ?_)
 refine(i _).mono ?_
 rintro e E ⟨rfl,o⟩
 have o:qu w1 E:=o.ofDrew
 have P:=((qa H).new o).cells.2.1
 rw[J] at P
 have d0:E.cell? ⟨g,0,none⟩=some (.int .u32 c.s.ch):=((qa X).new o).toR.ch
 have I:=qb o
 clear rA i o
 go_upto_region 3 with (with_reducible first|(first|refine' tw1 (qg ?_) ?_|refine' tw2 (qg ?_) ?_);rotate_left|refine' tw3 (qg ?_)|rfl|apply tn|refine' tw4 ?_)
 have T:E.drew.cell? ⟨A,0,none⟩=some (.int .i64 m.kind):=((qa H).new (qa I)).cells.1
 have N:=@z
 clear P d0 z
 refine qc7 (fun w'=>w'.cell? ⟨A,0,none⟩=some (.int .i64 m.kind)) [2] (.of [0,1,2,3,4,5,6,7,8]) (by kernel_rfl) (by kernel_rfl) T ?_
 simp only[Plan.of]
 go_wp2_with (with_reducible first|(first|refine' qw1 (qg ?_) ?_|refine' qw2 (qg ?_) ?_|refine' qw3 (qg ?_) ?_);rotate_left|refine' qw4 (qg ?_)|refine' qw5 (qg ?_)|rfl|apply qn)
 refine(qy0 _).mono ?_
 rintro e M ⟨b,rfl,C,U⟩
 have C:qu E M:=C.ofDrew
 have hl:=N U
 have l:=((qa H).new (qa I)).new C
 have q:=l.cells.1
 have L:=l.row
 have O:=qb (((qa Z).trans (qa I)).trans C)
 clear T C U l N
 go_wp2_with (with_reducible first|(first|refine' qw1 (qg ?_) ?_|refine' qw2 (qg ?_) ?_|refine' qw3 (qg ?_) ?_);rotate_left|refine' qw4 (qg ?_)|refine' qw5 (qg ?_)|rfl|apply qn)
 refine⟨q,?_⟩
 go_wp2_with (with_reducible first|(first|refine' qw1 (qg ?_) ?_|refine' qw2 (qg ?_) ?_|refine' qw3 (qg ?_) ?_);rotate_left|refine' qw4 (qg ?_)|refine' qw5 (qg ?_)|rfl|apply qn)
 refine(hF M (qa O)).mono ?_
 rintro e w4 ⟨v,n,rfl,V⟩
 have Y:=qb V
 clear L q hl V
 go_wp2_with (with_reducible first|(first|refine' qw1 (qg ?_) ?_|refine' qw2 (qg ?_) ?_|refine' qw3 (qg ?_) ?_);rotate_left|refine' qw4 (qg ?_)|refine' qw5 (qg ?_)|rfl|apply qn)
 go_ret2
 exact⟨v,n,M,rfl,qa O,qa Y⟩
def qhd(g:Nat)(S:Nat→Prop)(w:World)(c':Ch)(ms:List MsgV)(n:Int)(e:Ending)(w':World):Prop :=
 ∃v,e = .returned (.tuple #[v,.int .i64 n])∧qc0 w.heap.size w' v ms∧ChS w' g (Fr S w w') c'∧Upd S w w'
theorem qjx(F:FuncId)(g:Nat)(S:Nat→Prop)(c c':Ch)(ms:List MsgV)(n:Int)(m:MsgV)(D:MsgOk m)(w:World)(h:ChS w g S c)(hok:qac m=true)(l:m.ch=c.s.ch)
  (t:∀args w,(callFunc F args).run Tryz.prog w = .ok (.enter F args) w)
  (q:∀ {w:World} {b:Nat},qkb w b→(Instr.lookup 133 (.map (some b)) (.int .i64 m.kind) true).run Tryz.prog w = .ok (.tuple #[.func (.func F) #[] #[],.bool true]) w)
  (z:∀W,qu w W→Calls Tryz.prog F #[.pointer (some ⟨g,0,none⟩),.agg m.cells.toArray] W (qhd g S W c' ms n)) :
  Calls Tryz.prog 41 #[.pointer (some ⟨g,0,none⟩),.agg m.cells.toArray] w (qhd g S w c' ms n):=by
 refine(q97 F g S c m D w h hok l (fun v k W w'=>k=n∧qc0 W.heap.size w' v ms∧ChS w' g (Fr S W w') c'∧Upd S W w') t q (fun W i=>(z W i).mono ?_)).mono ?_
 ·rintro e w' ⟨v,o,E⟩;exact⟨v,n,o,rfl,E⟩
 ·rintro e w' ⟨v,k,W,o,i,rfl,H,C,I⟩;exact⟨v,o,qgn H i.size,C.later i.size,(i.mono (T:=S) (fun _ _ h=>h.elim)).trans I⟩
theorem q95(g:Nat)(S:Nat→Prop)(c:Ch)(m:MsgV)(o:MsgOk m)(w:World)(h:ChS w g S c)(hok:qac m=true)(l:m.ch=c.s.ch)(z:m.kind=3)(i:c.xs.length<1000000) :
  Calls Tryz.prog 41 #[.pointer (some ⟨g,0,none⟩),.agg m.cells.toArray] w (qhd g S w (c.hearAdd m).1 [] (c.hearAdd m).2) :=
 qjx _ g S c _ _ _ m o w h hok l (enters_of Tryz.func81 (by kernel_rfl) rfl) (fun q=>by rw[z];exact zg5 q) (fun W D=>(qyx g S c m o W (h.new D) i).mono (by
  rintro e w' ⟨v,t,C⟩;exact⟨_,v,qc0.nil _ _,t,C⟩))
theorem q6g(g:Nat)(S:Nat→Prop)(c:Ch)(m:MsgV)(l:MsgOk m)(w:World)(h:ChS w g S c)(hok:qac m=true)(i:m.ch=c.s.ch)(v:m.kind=5) :
  Calls Tryz.prog 41 #[.pointer (some ⟨g,0,none⟩),.agg m.cells.toArray] w (qhd g S w (c.hearFail m).1 [] (c.hearFail m).2) :=
 qjx _ g S c _ _ _ m l w h hok i (enters_of Tryz.func83 (by kernel_rfl) rfl) (fun o=>by rw[v];exact zg7 o) (fun W C=>(qv8 g S c m l.len W (h.new C)).mono (by
  rintro e w' ⟨t,q,z⟩;exact⟨_,t,qc0.nil _ _,q,z⟩))
theorem q6j(g:Nat)(S:Nat→Prop)(c:Ch)(m:MsgV)(l:MsgOk m)(w:World)(h:ChS w g S c)(hok:qac m=true)(i:m.ch=c.s.ch)(v:m.kind=8) :
  Calls Tryz.prog 41 #[.pointer (some ⟨g,0,none⟩),.agg m.cells.toArray] w (qhd g S w c.hearShut.1 [] c.hearShut.2) :=
 qjx _ g S c _ _ _ m l w h hok i (enters_of Tryz.func86 (by kernel_rfl) rfl) (fun o=>by rw[v];exact zha o) (fun W C=>(qv9 g S c m l.len W (h.new C)).mono (by
  rintro e w' ⟨t,q,z⟩;exact⟨_,t,qc0.nil _ _,q,z⟩))
theorem qyz(g:Nat)(S:Nat→Prop)(c:Ch)(m:MsgV)(o:MsgOk m)(w:World)(h:ChS w g S c)(hok:qac m=true)(l:m.ch=c.s.ch)(E:m.kind=7)(i:q0z c)(z:Tb w)(v:Apart S) :
  Calls Tryz.prog 41 #[.pointer (some ⟨g,0,none⟩),.agg m.cells.toArray] w (qhd g S w (c.hearRevoke m).1 [] (c.hearRevoke m).2) :=
 qjx _ g S c _ _ _ m o w h hok l (enters_of Tryz.func85 (by kernel_rfl) rfl) (fun t=>by rw[E];exact zg9 t) (fun W q=>(qrk g S c m o W (h.new q) i (z.new q) v).mono (by
  rintro e w' ⟨D,C,F⟩;exact⟨_,D,qc0.nil _ _,C,F⟩))
theorem q6k(g:Nat)(S:Nat→Prop)(c:Ch)(m:MsgV)(z:MsgOk m)(w:World)(h:ChS w g S c)(hok:qac m=true)(l:m.ch=c.s.ch)(J:m.kind=6)(F:Tb w)(E:Apart S)(q:c.s.peer.size≤100000000)(i:0≤c.s.ch∧c.s.ch<4294967296)(o:c.k.heard<4294967295)(t:c.xs.length≤16) :
  Calls Tryz.prog 41 #[.pointer (some ⟨g,0,none⟩),.agg m.cells.toArray] w (qhd g S w (c.hearSign m).1 (c.hearSign m).2.1 (c.hearSign m).2.2) :=
 qjx _ g S c _ _ _ m z w h hok l (enters_of Tryz.func84 (by kernel_rfl) rfl) (fun D=>by rw[J];exact zg8 D) (fun W C=>(qwa g S c m z W (h.new C) (F.new C) E q i o t).mono (by
  rintro e w' ⟨v,I,K,H,L⟩;exact⟨v,I,K,H,L⟩))
end Go.Proofs.YthnohmjbbeahmaaGreatDoor
namespace Go.Proofs.YthnohmjbbeahmaaGreatDoor
open Go.RowKit
def Ch.new(s:SetupV):Ch:=⟨s,.zero,s.ours,s.cap-s.ours,[],List.replicate 17 .zero,[],[]⟩
theorem Ch.new_ok{s:SetupV}(h:s.Ok)(m:s.may):(Ch.new s).Ok:=by
 obtain⟨m1,q,t,_,_⟩:=m;have i:=h.ours;have o:=h.cap;refine⟨h,⟨Int.le_refl _,show (0:Int)≤65535 by decide⟩,⟨Int.le_refl _,show (0:Int)<4294967296 by decide⟩,⟨Int.le_refl _,show (0:Int)<18446744073709551616 by decide⟩,⟨Int.le_refl _,show (0:Int)<18446744073709551616 by decide⟩,i,?_,?_,Nat.zero_le _,⟨rfl,?_⟩,?_,?_,⟨Nat.zero_le _,Nat.zero_le _⟩⟩
 ·show 0≤s.cap-s.ours∧s.cap-s.ours<_;omega
 ·intro x g;cases g
 ·intro p l;rw[List.eq_of_mem_replicate l];rfl
 ·intro x g;cases g
 ·intro x g;cases g
theorem q3y{w:World}{g:Nat}{s:SetupV}(h:ChR w g (.new s))(l:s.Ok)(m:s.may):ChS w g (· = g) (Ch.new s):=by
 refine⟨qcd,qcd,qcd,h.at_,Ch.new_ok l m,World.ownsRow_nil _ _ _ _,World.ownsRow_nil _ _ _ _,World.ownsRow_nil _ _ _ _,rfl,?_,?_,?_,?_,?_⟩
 ·intro k i;simp[qcd,Value.ownBlock] at i
 ·intro k i;simp[qcd,Value.ownBlock] at i
 ·intro k i;simp[qcd,Value.ownBlock] at i
 ·intro k i;simp[qcd,Value.ownBlock] at i
 ·intro k i;rw[i];exact z6 h.at_
theorem qf4(x y:Int)(g:0≤x)(l:x<4294967296)(i:0≤y)(m:y<4294967296):bits .xor .u64 x y=bits .xor .u32 x y:=by
 rw[u64_xor x y g (by omega) i (by omega),u32_xor x y g l i m]
theorem qkr(x y:Int)(g:0≤x)(l:x<4294967296)(i:0≤y)(m:y<4294967296):bits .and .u64 x y=bits .and .u32 x y:=by
 rw[u64_and x y g (by omega) i (by omega),u32_and x y g l i m]
theorem qm1(x:Int)(g:0≤x)(i:x<4294967296):bits .xor .u32 0 x=x:=by
 rw[u32_xor 0 x (by decide) (by decide) g i];simp;omega
theorem zhe(e:Int)(g:0≤e)(i:e<4294967296):bits .xor .u32 4294967295 e=4294967295-e:=by
 rw[u32_xor 4294967295 e (by decide) (by decide) g i];obtain⟨n,rfl⟩:=Int.eq_ofNat_of_zero_le g;have h:(4294967295 ^^^ n:Nat)=4294967295-n:=by
  have l:n<2 ^ 32:=by omega
  have:=congrArg BitVec.toNat (BitVec.allOnes_xor (x:=BitVec.ofNat 32 n));rw[BitVec.toNat_xor,BitVec.toNat_not,BitVec.toNat_allOnes,BitVec.toNat_ofNat,Nat.mod_eq_of_lt l] at this;simpa using this
 rw[Int.toNat_natCast,show (4294967295:Int).toNat=4294967295 from rfl,h];omega
theorem zek(x n:Nat)(o:x<4294967296)(t:n≤32):qcy x n=((x / 2 ^ n+x%2 ^ n*2 ^ (32-n):Nat):Int):=by
 unfold qcy;have m:(32-(n:Int)).toNat=32-n:=by omega
 rw[Int.toNat_natCast,m];have i:2 ^ n*2 ^ (32-n)=4294967296:=by rw[←Nat.pow_add,show n+(32-n)=32 by omega]
 have g:0<2 ^ n:=Nat.pow_pos (by decide);have l:0<2 ^ (32-n):=Nat.pow_pos (by decide);have a1:(x:Int) / 2 ^ n=((x / 2 ^ n:Nat):Int):=by rw[Int.natCast_ediv,Int.natCast_pow];rfl
 have a2:(x:Int)*2 ^ (32-n)%4294967296=((x%2 ^ n*2 ^ (32-n):Nat):Int):=by
  have:x*2 ^ (32-n)%4294967296=x%2 ^ n*2 ^ (32-n):=by
   rw[←i,Nat.mul_mod_mul_right]
  rw[←this,Int.natCast_emod,Int.natCast_mul,Int.natCast_pow];rfl
 rw[a1,a2];have b1:x / 2 ^ n<2 ^ (32-n):=by rw[Nat.div_lt_iff_lt_mul g,Nat.mul_comm,i];exact o
 have b2:x%2 ^ n*2 ^ (32-n)<4294967296:=by
  rw[←i];exact Nat.mul_lt_mul_of_pos_right (Nat.mod_lt _ g) l
 have q:2 ^ (32-n)≤4294967296:=by rw[←i];exact Nat.le_mul_of_pos_left _ g
 rw[u32_or_nat _ _ (by omega) b2,Nat.or_comm,nat_join (32-n) _ _ (by rw[Nat.mul_mod_left]) b1,Nat.add_comm]
def qjc(x:Int):Nat→Int
 | 0=>x
 | k+1=>qjc x k / 2+qjc x k%2*2147483648
theorem qu7(x k:Nat)(F:x<4294967296)(H:k≤31):qjc x k=((x / 2 ^ k+x%2 ^ k*2 ^ (32-k):Nat):Int)∧x / 2 ^ k+x%2 ^ k*2 ^ (32-k)<4294967296:=by
 induction k with
 | zero=>simp[qjc,Nat.mod_one];exact F
 | succ k m =>
  obtain⟨m,v⟩:=m (by omega);have D:2 ^ (32-k)=2*2 ^ (31-k):=by rw[←Nat.pow_succ',show (31-k).succ=32-k by omega]
  have o:2 ^ (k+1)=2*2 ^ k:=Nat.pow_succ';have g:2 ^ k*2 ^ (31-k)=2147483648:=by rw[←Nat.pow_add,show k+(31-k)=31 by omega]
  have E:0<2 ^ k:=Nat.pow_pos (by decide);have C:=Nat.div_add_mod x (2 ^ k);have z:=Nat.div_add_mod (x / 2 ^ k) 2;have i:x / 2 ^ k / 2=x / 2 ^ (k+1):=by rw[Nat.div_div_eq_div_mul,Nat.mul_comm (2 ^ k) 2,←o]
  have l:x%2 ^ (k+1)=x%2 ^ k+2 ^ k*(x / 2 ^ k%2):=by rw[o,Nat.mul_comm 2,Nat.mod_mul]
  have e:(x / 2 ^ k+x%2 ^ k*2 ^ (32-k)) / 2+(x / 2 ^ k+x%2 ^ k*2 ^ (32-k))%2*2147483648=x / 2 ^ (k+1)+x%2 ^ (k+1)*2 ^ (32-(k+1)):=by
   rw[show 32-(k+1)=31-k by omega,l,Nat.add_mul,←i,D];have q:x%2 ^ k*(2*2 ^ (31-k))=2*(x%2 ^ k*2 ^ (31-k)):=by rw[Nat.mul_left_comm]
   have t:2 ^ k*(x / 2 ^ k%2)*2 ^ (31-k)=x / 2 ^ k%2*2147483648:=by rw[←g,Nat.mul_comm (2 ^ k),Nat.mul_assoc]
   rw[q,t];generalize x%2 ^ k*2 ^ (31-k)=c;generalize x / 2 ^ k=y;omega
  refine⟨?_,?_⟩
  ·rw[qjc,m,←e];have w:∀y:Nat,(y:Int) / 2+(y:Int)%2*2147483648=((y / 2+y%2*2147483648:Nat):Int):=fun y=>by omega
   exact w _
  ·rw[←e];generalize x / 2 ^ k+x%2 ^ k*2 ^ (32-k)=y at v ⊢;omega
theorem qu8(x:Int)(k:Nat)(g:0≤x)(l:x<4294967296)(i:k≤31):qjc x k=qcy x k:=by
 obtain⟨n,rfl⟩:=Int.eq_ofNat_of_zero_le g;rw[(qu7 n k (by omega) i).1,zek n k (by omega) (by omega)]
theorem q0o(x:Int)(k:Nat)(g:0≤x)(m:x<4294967296)(l:k≤31):0≤qjc x k∧qjc x k<4294967296:=by
 obtain⟨n,rfl⟩:=Int.eq_ofNat_of_zero_le g;obtain⟨e,i⟩:=qu7 n k (by omega) l;rw[e];generalize n / 2 ^ k+n%2 ^ k*2 ^ (32-k)=y at i ⊢;omega
theorem qj6(x:Int)(k:Nat)(g:0≤x)(i:x<4294967296)(l:k≤31):0≤qcy x k∧qcy x k<4294967296:=by
 rw[←qu8 x k g i l];exact q0o x k g i l
set_option maxHeartbeats 1000000 in
theorem qfc(x:Int)(n:Int)(w:World)(l:0≤x)(o:x<4294967296)(v:0≤n)(E:n≤31) :
  Calls Tryz.prog 66 #[.int .u64 x,.int .i64 n] w fun e w'=>e = .returned (.int .u64 (qcy x n))∧w=w':=by
 obtain⟨m,rfl⟩:=Int.eq_ofNat_of_zero_le v
 have C:m≤31:=by omega
 rw[←qu8 x m l o C]
 go_enter Tryz.func66,Tryz.ntmps66
 go_wp2_with fail
 go_loop [0,5] (fun D i=>∃k:Nat,i = .int .i64 (k:Int)∧k≤m∧D = .int .u64 (qjc x k)) (fun _ i=>m-(intOf i).toNat)
 case atStart=>exact⟨0,rfl,Nat.zero_le _,rfl⟩
 case round =>
  obtain⟨k,rfl,F,rfl⟩:=hrel;obtain⟨b1,b2⟩:=q0o x k l o (by omega);have t:qjc x (k+1)=qjc x k / 2+qjc x k%2*2147483648:=rfl;have g:=qb t;clear t;by_cases z:k<m
  ·have q:(k:Int)<(m:Int):=by omega
   generalize qjc x k=y at b1 b2 g ⊢;go_wp2;go_round
   case rel=>exact⟨k+1,by go_num,by omega,by rw[qa g]⟩
   case measure=>simp[intOf];omega
  ·obtain rfl:k=m:=by omega
   clear g;go_wp2;go_ret;exact⟨rfl,rfl⟩
def shR(x:Int):Nat→Int
 | 0=>x
 | k+1=>shR x k / 2
theorem zhm(x:Int)(k:Nat):shR x k=x / 2 ^ k:=by
 induction k with
 | zero=>simp[shR]
 | succ k g=>rw[shR,g,Int.pow_succ,Int.ediv_ediv_of_nonneg (Int.pow_nonneg (by decide))]
theorem zhl(x:Int)(k:Nat)(g:0≤x)(i:x<18446744073709551616):0≤shR x k∧shR x k<18446744073709551616:=by
 induction k with
 | zero=>exact⟨g,i⟩
 | succ k l=>rw[shR];omega
set_option maxHeartbeats 1000000 in
theorem ql4(x:Int)(n:Int)(w:World)(q:0≤x)(t:x<18446744073709551616)(v:0≤n)(D:n≤64) :
  Calls Tryz.prog 52 #[.int .u64 x,.int .i64 n] w fun e w'=>e = .returned (.int .u64 (x / 2 ^ n.toNat))∧w=w':=by
 obtain⟨m,rfl⟩:=Int.eq_ofNat_of_zero_le v
 have F:m≤64:=by omega
 rw[Int.toNat_natCast,←zhm]
 go_enter Tryz.func52,Tryz.ntmps52
 go_wp2_with fail
 go_loop [0,5] (fun C i=>∃k:Nat,i = .int .i64 (k:Int)∧k≤m∧C = .int .u64 (shR x k)) (fun _ i=>m-(intOf i).toNat)
 case atStart=>exact⟨0,rfl,Nat.zero_le _,rfl⟩
 case round =>
  obtain⟨k,rfl,E,rfl⟩:=hrel;obtain⟨b1,b2⟩:=zhl x k q t;have o:shR x (k+1)=shR x k / 2:=rfl;have g:=qb o;clear o;by_cases z:k<m
  ·have l:(k:Int)<(m:Int):=by omega
   generalize shR x k=y at b1 b2 g ⊢;go_wp2;go_round
   case rel=>exact⟨k+1,by go_num,by omega,by rw[qa g]⟩
   case measure=>simp[intOf];omega
  ·obtain rfl:k=m:=by omega
   clear g b2;go_wp2;go_ret;exact⟨rfl,rfl⟩
theorem zbl(x y:Int)(i:0≤x)(l:x<16777216)(g:0≤y)(m:y≤255):bits .or .u32 (x*256%4294967296) y=x*256+y:=by
 rw[show x*256%4294967296=x*256 by omega,u32_or _ _ (by omega) (by omega) g (by omega),nat_join 8 _ _ (by omega) (by omega)];omega
theorem q0u(ws:List Int)(i:Nat)(x:Int)(h:i<ws.length):wd (ws.set i x) i=x:=by
 unfold wd;rw[List.getD_eq_getElem?_getD,List.getElem?_set_self h];rfl
theorem qxn(ws:List Int)(i j:Nat)(x:Int)(h:i≠j):wd (ws.set i x) j=wd ws j:=by
 unfold wd;rw[List.getD_eq_getElem?_getD,List.getElem?_set_ne h,←List.getD_eq_getElem?_getD]
theorem qy9(s:ByteArray)(i:Nat)(q:i<64)(j:Nat):j≤4*i+4→0≤wd (qba s j) i∧wd (qba s j) i<256 ^ (j-4*i):=by
 induction j with
 | zero =>
  intro _;have m:wd (qba s 0) i=0:=by
   show (List.replicate 64 (0:Int)).getD i 0=0;rw[List.getD_eq_getElem?_getD,List.getElem?_replicate];split<;>rfl
  rw[m,show 0-4*i=0 by omega];decide
 | succ j v =>
  intro w;obtain⟨l,g⟩:=v (by omega);rw[qfw,qr4];by_cases h:j / 4=i
  ·subst h;rw[q0u _ _ _ (by rw[qh4];exact q)];obtain⟨b0,b1⟩:=qx7 s j;have hd:j-4*(j / 4)≤3:=by omega
   have t:wd (qba s j) (j / 4)<16777216:=by
    refine Int.lt_of_lt_of_le g ?_;generalize j-4*(j / 4)=d at hd
    match d,hd with
    | 0,_=>decide
    | 1,_=>decide
    | 2,_=>decide
    | 3,_=>decide
   rw[zbl _ _ l t b0 b1,show j+1-4*(j / 4)=j-4*(j / 4)+1 by omega,Int.pow_succ];generalize (256:Int) ^ (j-4*(j / 4))=p at g;omega
  ·rw[qxn _ _ _ _ h];rcases Nat.lt_or_ge j (4*i) with o | o
   ·rw[show j+1-4*i=0 by omega];rw[show j-4*i=0 by omega] at g;exact⟨l,g⟩
   ·exfalso;omega
theorem qza(s:ByteArray)(i k:Nat)(q:i<16)(o:k<4) :
  (0≤wd (qba s (4*i+k)) i∧wd (qba s (4*i+k)) i<16777216)∧qba s (4*i+(k+1))=(qba s (4*i+k)).set i (wd (qba s (4*i+k)) i*256+bt s (4*i+k)):=by
 obtain⟨g,m⟩:=qy9 s i (by omega) (4*i+k) (by omega)
 have l:wd (qba s (4*i+k)) i<16777216:=by
  refine Int.lt_of_lt_of_le m ?_;rw[show 4*i+k-4*i=k by omega]
  match k,o with
  | 0,_=>decide
  | 1,_=>decide
  | 2,_=>decide
  | 3,_=>decide
 refine⟨⟨g,l⟩,?_⟩
 obtain⟨b0,b1⟩:=qx7 s (4*i+k)
 rw[show 4*i+(k+1)=4*i+k+1 by omega,qfw,qr4,show (4*i+k) / 4=i by omega,zbl _ _ g l b0 b1]
theorem Tryz.infoR64:(Tryz.prog.info? 135).map (·.size)=some 64:=by kernel_rfl
theorem Tryz.infoR8:(Tryz.prog.info? 113).map (·.size)=some 8:=by kernel_rfl
def zfj(x:Value):Sem Value:=Instr.loadAt 135 x
theorem qzb(x:Value):Instr.loadAt 135 x=zfj x:=rfl
theorem zg1(b o:Nat)(w:World):(zfj (.pointer (some ⟨b,o,none⟩))).run Tryz.prog w=match zm w b o 64 with | some A=> .ok (.agg A) w | none=>qek Tryz.prog 135 w b o :=
 qae 135 64 _ Tryz.underlying135 rfl Tryz.infoR64 b o w
def zid(x:Value):Sem Value:=Instr.loadAt 113 x
theorem qr5(x:Value):Instr.loadAt 113 x=zid x:=rfl
theorem zfl(b o:Nat)(w:World):(zid (.pointer (some ⟨b,o,none⟩))).run Tryz.prog w=match zm w b o 8 with | some A=> .ok (.agg A) w | none=>qek Tryz.prog 113 w b o :=
 qae 113 8 _ Tryz.underlying113 rfl Tryz.infoR8 b o w
def zfv(x v:Value):Sem Unit:=Instr.storeAt 135 x v
theorem q0j(x v:Value):Instr.storeAt 135 x v=zfv x v:=rfl
theorem zho(b o:Nat)(A:Array Value)(w:World):(zfv (.pointer (some ⟨b,o,none⟩)) (.agg A)).run Tryz.prog w=if stOk w b o 64 A=true then .ok () (w.setCells b o A.toList) else qf2 Tryz.prog 135 w b o A :=
 qax 135 64 Tryz.infoR64 b o A w
def zis(x v:Value):Sem Unit:=Instr.storeAt 113 x v
theorem qsy(x v:Value):Instr.storeAt 113 x v=zis x v:=rfl
theorem zfx(b o:Nat)(A:Array Value)(w:World):(zis (.pointer (some ⟨b,o,none⟩)) (.agg A)).run Tryz.prog w=if stOk w b o 8 A=true then .ok () (w.setCells b o A.toList) else qf2 Tryz.prog 113 w b o A :=
 qax 113 8 Tryz.infoR8 b o A w
theorem zcc(x:Int)(g:0≤x)(i:x<4294967296):bits .xor .u64 (bits .xor .u64 (qcy x 7) (qcy x 18)) (x / 8)=q0g x:=by
 have a:0≤qcy x 7∧qcy x 7<4294967296:=qj6 x 7 g i (by decide);have b:0≤qcy x 18∧qcy x 18<4294967296:=qj6 x 18 g i (by decide);have c:=qb6 .xor (qcy x 7) (qcy x 18);have e:qca x [7,18]=bits .xor .u32 (bits .xor .u32 0 (qcy x 7)) (qcy x 18):=rfl;unfold q0g;rw[e,qm1 _ a.1 a.2];rw[qf4 _ _ a.1 a.2 b.1 b.2,qf4 _ _ c.1 c.2 (by omega) (by omega)]
theorem zcd(x:Int)(g:0≤x)(i:x<4294967296):bits .xor .u64 (bits .xor .u64 (qcy x 17) (qcy x 19)) (x / 1024)=sig1 x:=by
 have a:0≤qcy x 17∧qcy x 17<4294967296:=qj6 x 17 g i (by decide);have b:0≤qcy x 19∧qcy x 19<4294967296:=qj6 x 19 g i (by decide);have c:=qb6 .xor (qcy x 17) (qcy x 19);have e:qca x [17,19]=bits .xor .u32 (bits .xor .u32 0 (qcy x 17)) (qcy x 19):=rfl;unfold sig1;rw[e,qm1 _ a.1 a.2];rw[qf4 _ _ a.1 a.2 b.1 b.2,qf4 _ _ c.1 c.2 (by omega) (by omega)]
theorem qu6(x:Int)(g i l:Nat)(m1 q t:Int)(v:m1=g)(w:q=i)(z:t=l)(m:0≤x)(o:x<4294967296)(C:g≤31)(D:i≤31)(E:l≤31):bits .xor .u64 (bits .xor .u64 (qcy x m1) (qcy x q)) (qcy x t)=qca x [m1,q,t]:=by
 subst v w z;have a:=qj6 x g m o C;have b:=qj6 x i m o D;have d:=qj6 x l m o E;have c:=qb6 .xor (qcy x g) (qcy x i);have e:qca x [(g:Int),i,l]=bits .xor .u32 (bits .xor .u32 (bits .xor .u32 0 (qcy x g)) (qcy x i)) (qcy x l):=rfl;rw[e,qm1 _ a.1 a.2];rw[qf4 _ _ a.1 a.2 b.1 b.2,qf4 _ _ c.1 c.2 d.1 d.2]
theorem zgi(e f g:Int)(i:0≤e)(l:e<4294967296)(m:0≤f)(o:f<4294967296)(q:0≤g)(t:g<4294967296):bits .xor .u64 (bits .and .u64 e f) (bits .and .u64 (4294967295-e) g)=chI e f g:=by
 have a:=qb6 .and e f;have b:=qb6 .and (4294967295-e) g;unfold chI;rw[zhe e i l,qkr _ _ i l m o,qkr _ _ (by omega) (by omega) q t,qf4 _ _ a.1 a.2 b.1 b.2]
theorem zd7(a b c:Int)(g:0≤a)(i:a<4294967296)(l:0≤b)(m:b<4294967296)(o:0≤c)(q:c<4294967296):bits .xor .u64 (bits .xor .u64 (bits .and .u64 a b) (bits .and .u64 a c)) (bits .and .u64 b c)=q2i a b c:=by
 have x:=qb6 .and a b;have y:=qb6 .and a c;have z:=qb6 .and b c;have v:=qb6 .xor (bits .and .u32 a b) (bits .and .u32 a c);unfold q2i;rw[qkr _ _ g i l m,qkr _ _ g i o q,qkr _ _ l m o q,qf4 _ _ x.1 x.2 y.1 y.2,qf4 _ _ v.1 v.2 z.1 z.2]
theorem zem(x:Int)(w:World)(g:0≤x)(i:x<4294967296):Calls Tryz.prog 52 #[.int .u64 x,.int .i64 3] w fun e w'=>e = .returned (.int .u64 (x / 8))∧w=w':=ql4 x 3 w g (by omega) (by decide) (by decide)
theorem zb8(x:Int)(w:World)(g:0≤x)(i:x<4294967296):Calls Tryz.prog 52 #[.int .u64 x,.int .i64 10] w fun e w'=>e = .returned (.int .u64 (x / 1024))∧w=w':=ql4 x 10 w g (by omega) (by decide) (by decide)
def qp7:Array Value:=(qkm.map (Value.int .u64)).toArray
def z64:Array Value:=((List.replicate 64 (0:Int)).map (Value.int .u64)).toArray
set_option maxRecDepth 100000 in
set_option maxHeartbeats 1000000 in
theorem zic(w:World):Calls Tryz.prog 67 #[] w fun e w'=>e = .returned (.agg qp7)∧qu w w':=by
 go_enter Tryz.func67,Tryz.ntmps67;go_upto_region 0 with fail;refine wp_region_lit ?_;refine q8 rfl (v:= .pointer (some ⟨w.heap.size,0,none⟩)) (w':=w.alloc (.cells z64 135)) (by kernel_rfl) ?_;have g:(w.alloc (.cells z64 135)).heap[w.heap.size]? = some (.cells z64 135 (0,0)):=qi _ _;have l:qu w (w.alloc (.cells z64 135)):=(Upd.refl _ _).alloc _;generalize w.alloc (.cells z64 135)=w1 at g l ⊢;go_upto_region 1 with fail;refine wp_region_lit ?_;refine q8 rfl (v:= .agg qp7) (w':=w1) (by kernel_rfl) ?_;refine wpList_store_row rfl _ _ _ rfl w.heap.size qp7 rfl rfl 135 _ g (by kernel_rfl) (by kernel_rfl) (by kernel_rfl) ?_;have i:=setRow_heap w1 w.heap.size _ qp7 135 (0,0) g;have m:qu w (w1.setRow w.heap.size qp7):=l.setRow (fun h=>by omega) _;generalize w1.setRow w.heap.size qp7=o at i m ⊢;go_wp2_with fail;refine bodyPost_ret (results_cell_row rfl _ _ w.heap.size 135 _ (0,0) _ rfl i Tryz.underlying135 rfl (by exact Tryz.infoR64)) rfl ?_;exact⟨rfl,m⟩
end Go.Proofs.YthnohmjbbeahmaaGreatDoor
