/-
  A cell set within a row of lives; remove.
-/
import Derived.Test.YthnohmjbbeahmaaGreatDoorMae
import Derived.Test.YthnohmjbbeahmaaGreatDoorMba
import Derived.Test.YthnohmjbbeahmaaGreatDoorMbi
import Derived.Test.YthnohmjbbeahmaaGreatDoorHsg
import Derived.Test.YthnohmjbbeahmaaGreatDoorMac
import Derived.Test.YthnohmjbbeahmaaGreatDoorMbd
import Derived.Laws.BitsAllLaws
import Derived.Outline
import Derived.Test.YthnohmjbbeahmaaGreatDoorMaa
set_option linter.unusedVariables false
set_option linter.unusedSimpArgs false
namespace Go.Proofs.YthnohmjbbeahmaaGreatDoor
open Go.RowKit
theorem qr4{α:Type}(f:α→List Value)(k:Nat)(g:∀x,(f x).length=k):∀(X:List α) (i j:Nat) (x y:α) (u:Value),X[i]? = some x→j<k→f y=(f x).set j u→(X.set i y).flatMap f=(X.flatMap f).set (i*k+j) u
 | [],i,j,x,y,u,h,_,_=>by simp at h
 | z::X,0,j,x,y,u,h,l,m=>by
  have:z=x:=by simpa using h
  subst this;rw[List.set_cons_zero,List.flatMap_cons,List.flatMap_cons,m,Nat.zero_mul,Nat.zero_add,List.set_append_left _ _ (by rw[g];exact l)]
 | z::X,i+1,j,x,y,u,h,l,m=>by
  rw[List.set_cons_succ,List.flatMap_cons,List.flatMap_cons,qr4 f k g X i j x y u (by simpa using h) l m,List.set_append_right _ _ (by rw[g,Nat.succ_mul];omega),g];congr 2;rw[Nat.succ_mul];omega
theorem q06{α:Type}(f:α→List Value)(k:Nat)(t:∀x,(f x).length=k){w:World}{base:Nat}{T:TypeId}{v:Value}{X:List α}(h:w.ownsRow base T k v X.length (X.flatMap f)){i j:Nat}{x y:α}{u:Value}(q:X[i]? = some x)(C:j<k)(D:f y=(f x).set j u){g:Nat}(z:v.ownBlock=some g) :
  (w.setCell ⟨g,i*k+j,none⟩ u).ownsRow base T k v (X.set i y).length ((X.set i y).flatMap f):=by
 have H:=(List.getElem?_eq_some_iff.1 q).1
 rcases h.2 with ⟨e,L⟩ | ⟨g',cap,l,e,E,m,F,K,I,J⟩
 ·omega
 ·rw[e] at z;have o:g'=g:=by simpa [Value.ownBlock] using z
  subst o;rw[List.length_set];refine⟨?_,.inr ⟨g',cap,l.setIfInBounds (i*k+j) u,e,E,qah m _ _,F,K,by rw[Array.size_setIfInBounds];exact I,?_⟩⟩
  ·rw[qr4 f k t X i j x y u q C D,List.length_set];exact h.1
  ·rw[qr4 f k t X i j x y u q C D,←J,Array.toList_setIfInBounds,List.take_set]
theorem q3s(x:Live)(s:Int):qk {x with state:=s} = (qk x).set 36 (.int .i64 s):=by
 unfold qk;rw[List.set_append_right _ _ (by rw[qbj];omega),qbj];rfl
theorem q3t(x:Live)(p:Bool):qk {x with paid:=p} = (qk x).set 37 (.bool p):=by
 unfold qk;rw[List.set_append_right _ _ (by rw[qbj];omega),qbj];rfl
def Ch.removed(c:Ch)(i:Nat)(x:Live)(paid:Bool):Ch:= {c with xs:=c.xs.set i {x with state:=5,paid:=paid}}
set_option maxRecDepth 100000 in
set_option maxHeartbeats 1000000 in
theorem qkl(g:Nat)(S:Nat→Prop)(c:Ch)(q nv R:Value)(i:Nat)(x:Live)(paid:Bool)(w:World)(h:ChP w g S c q nv R)(M:c.xs[i]? = some x) :
  Calls Tryz.prog 55 #[.pointer (some ⟨g,0,none⟩),.int .i64 i,.bool paid] w fun e w'=>e = .returned (.tuple #[])∧ChP w' g S (c.removed i x paid) q nv R∧Upd (fun k=>q.ownBlock=some k) w w':=by
 have H:=(List.getElem?_eq_some_iff.1 M).1
 have U:w.drew.cell? ⟨g,47,none⟩=some q:=h.toR.live
 obtain⟨l,cap,I,o⟩:∃l cap,q = .slice (some ⟨l,0,none⟩) c.xs.length cap∧q.ownBlock=some l:=by
  rcases h.live.2 with ⟨e,e0⟩ | ⟨g',cap,D,e,_⟩
  ·omega
  ·exact⟨g',cap,e,by rw[e];rfl⟩
 obtain⟨D,m⟩:=qal h.live l o
 have z:=(qdo h.live).2
 have J:zu w l (i*38) 38=some (qk x).toArray:=by
  rcases z with ⟨e,e0⟩ | ⟨g',Y,e,-,hh⟩
  ·rw[e0] at H;simp at H
  ·rw[I] at e;injection e with e1 e2 e3;injection e1 with e1;injection e1 with e1;have:=hh.row M;rw[Nat.zero_add,←e1] at this;exact this
 have a6:w.drew.cell? ⟨l,i*38+36,none⟩=some (.int .i64 x.state):=by
  have:=(qfq J).2 36 (by omega);rw[List.getElem?_toArray,qgm] at this;exact this
 have L:w.drew.cell? ⟨l,i*38+37,none⟩=some (.bool x.paid):=by
  have:=(qfq J).2 37 (by omega);rw[List.getElem?_toArray,qof] at this;exact this
 have u1:Upd (· = l) w (w.setCell ⟨l,i*38+36,none⟩ (.int .i64 5)).drew:=((Upd.refl _ _).set1 _ _).drew
 have V:g≠l:=qap h.at_ m (by decide)
 have O:(w.setCell ⟨l,i*38+36,none⟩ (.int .i64 5)).drew.ownsRow 0 56 38 q (c.xs.set i {x with state:=5}).length ((c.xs.set i {x with state:=5}).flatMap qk):=q06 qk 38 qa2 h.live M (by omega) (q3s x 5) o
 have N:(c.xs.set i {x with state:=5})[i]? = some {x with state:=5} := by rw[List.getElem?_set_self H]
 have a7:w.drew.frozen? ⟨l,i*38+36,none⟩=false:=qw m _
 have E:(w.setCell ⟨l,i*38+36,none⟩ (.int .i64 5)).drew.heap[l]? = some (.cells (D.setIfInBounds (i*38+36) (.int .i64 5)) 56 (0,0)):=qah m _ _
 have a4:(w.setCell ⟨l,i*38+36,none⟩ (.int .i64 5)).drew.cell? ⟨l,i*38+37,none⟩=some (.bool x.paid):=by
  have e:w.cell? ⟨l,i*38+37,none⟩=D[i*38+37]? := qh m _;have e2:w.cell? ⟨l,i*38+37,none⟩=some (.bool x.paid):=L;rw[qh E,Array.getElem?_setIfInBounds_ne (by omega),←e,e2]
 have a5:(w.setCell ⟨l,i*38+36,none⟩ (.int .i64 5)).drew.frozen? ⟨l,i*38+37,none⟩=false:=qw E _
 have F:=q06 qk 38 qa2 O N (show 37<38 by omega) (q3t {x with state:=5} paid) o
 rw[List.set_set] at F
 have K:Upd (· = l) w ((w.setCell ⟨l,i*38+36,none⟩ (.int .i64 5)).drew.setCell ⟨l,i*38+37,none⟩ (.bool paid)):=u1.set1 _ _
 have t:ChP ((w.setCell ⟨l,i*38+36,none⟩ (.int .i64 5)).drew.setCell ⟨l,i*38+37,none⟩ (.bool paid)) g S (c.removed i x paid) q nv R:=by
  have C:∀ {v:Value} {n:Nat} {xs:List Value},w.ownsRow 0 71 38 v n xs→∀k,v.ownBlock=some k→¬k=l:=by
   intro v n xs hr k W e;obtain⟨Z,hc⟩:=qal hr k W;exact qap hc m (by decide) e
  have X:=h.ok.xs x (List.mem_of_getElem? M);refine⟨K.old h.at_ V,⟨h.ok.s,h.ok.signed,h.ok.heard,h.ok.nextOwn,h.ok.nextTheirs,h.ok.loc,h.ok.rem,?_,?_,h.ok.shelf,h.ok.news,h.ok.last,h.ok.many⟩,F,zg h.news K (C h.news),zg h.last K (C h.last),h.inG,h.inL,h.inN,h.inA,h.sep,fun k W=>Nat.lt_of_lt_of_le (h.lt k W) K.size⟩
  ·intro y P;rcases List.mem_or_eq_of_mem_set P with P | P
   ·exact h.ok.xs y P
   ·rw[P];exact⟨X.h,show (-9223372036854775808:Int)≤5 by decide,show (5:Int)≤9223372036854775807 by decide⟩
  ·show (c.xs.set i _).length≤1000000;rw[List.length_set];exact h.ok.few
 have HF:=qb t
 have HU:=qb (K.mono (T:=fun k=>q.ownBlock=some k) (fun k _ e=>by rw[e];exact o))
 have a8:(i:Int)<(c.xs.length:Int):=by omega
 rw[I] at U
 clear h z J L O N F E m u1 K t I o M
 go_enter Tryz.func55,Tryz.ntmps55
 go_wp2_with (with_reducible first|(first|refine' zi (qg ?_) ?_|refine' zj (qg ?_) ?_);rotate_left|refine' zk (qg ?_)|rfl|apply tn|refine' zl ?_)
 go_end0
 exact⟨rfl,qa HF,qa HU⟩
attribute [local go_sem ↓ high] qcf
attribute [local go_sem] qgl zb
def qfo(own:Bool)(id:Int)(x:Live):Bool:=x.own==own&&(x.h.id==id&&x.state==4)
set_option maxHeartbeats 1000000 in
theorem q6u(own:Bool)(id:Int)(x:Live)(t v:Nat)(w:World)(o:w.cell? ⟨t,0,none⟩=some (.bool own))(q:w.cell? ⟨v,0,none⟩=some (.int .u64 id)) :
  Calls Tryz.prog 69 #[.agg (qk x).toArray,.pointer (some ⟨t,0,none⟩),.pointer (some ⟨v,0,none⟩)] w (qbf (.bool (qfo own id x)) w):=by
 go_enter Tryz.func69,Tryz.ntmps69
 go_upto_region 1 with fail
 have i:(w.alloc (.cells (qk x).toArray 56)).heap[w.heap.size]? = some (.cells (qk x).toArray 56 (0,0)):=qi _ _
 have g:qq w (w.alloc (.cells (qk x).toArray 56)):=(Upd.refl _ _).alloc _
 generalize w.alloc (.cells (qk x).toArray 56)=w1 at i g ⊢
 replace o:=g.cell o (fun h=>h)
 replace q:=g.cell q (fun h=>h)
 have y:w1.cell? ⟨w.heap.size,35,none⟩=some (.bool x.own):=by rw[qh i,List.getElem?_toArray];exact qim x
 have z:w1.cell? ⟨w.heap.size,36,none⟩=some (.int .i64 x.state):=by rw[qh i,List.getElem?_toArray];exact qgm x
 have C:w1.cell? ⟨w.heap.size,0,none⟩=some (.int .u64 x.h.id):=by rw[qh i,List.getElem?_toArray];exact zci x
 clear i
 cases l:x.own==own with
 | false =>
  go_wp2_with (with_reducible first|(first|refine' zi (qg ?_) ?_|refine' zj (qg ?_) ?_);rotate_left|refine' zk (qg ?_)|rfl|apply tn|refine' zl ?_);go_ret;exact⟨by unfold qfo;rw[l];rfl,g⟩
 | true =>
  cases m:x.h.id==id with
  | false =>
   go_wp2_with (with_reducible first|(first|refine' zi (qg ?_) ?_|refine' zj (qg ?_) ?_);rotate_left|refine' zk (qg ?_)|rfl|apply tn|refine' zl ?_);go_ret;exact⟨by unfold qfo;rw[l,m];rfl,g⟩
  | true =>
   go_wp2_with (with_reducible first|(first|refine' zi (qg ?_) ?_|refine' zj (qg ?_) ?_);rotate_left|refine' zk (qg ?_)|rfl|apply tn|refine' zl ?_);go_ret;exact⟨by unfold qfo;rw[l,m];rfl,g⟩
def qpz(own:Bool)(id:Int)(xs:List Live):Int:=match xs.findIdx? (qfo own id) with | some i=>i | none=> -1
set_option maxRecDepth 100000 in
set_option maxHeartbeats 1000000 in
theorem q3j(own:Bool)(id:Int)(I J:Nat)(v:Value)(xs:List Live)(w:World)(hv:qwo w v xs)(Z:xs.length≤1000000)(U:w.cell? ⟨I,0,none⟩=some (.bool own))(V:w.cell? ⟨J,0,none⟩=some (.int .u64 id)) :
  Calls Tryz.prog 68 #[v,.func (.func 69) #[] #[.pointer (some ⟨I,0,none⟩),.pointer (some ⟨J,0,none⟩)]] w (qbf (.int .i64 (qpz own id xs)) w):=by
 have g:=(qdo hv).2
 obtain⟨a,cap,rfl⟩:=qaq hv
 have l:∀(i:Nat) (x:Live),xs[i]? = some x→∃g',a=some ⟨g',0,none⟩∧qg7 w g' 0 xs:=by
  intro i x O;have m:=(List.getElem?_eq_some_iff.1 O).1;rcases g with ⟨e,T⟩ | ⟨g',k,e,-,C⟩
  ·rw[T] at m;simp at m
  ·injection e with e1;exact⟨g',e1,C.toL⟩
 clear g hv
 have X:(xs.length:Int)≤1000000:=by omega
 go_enter Tryz.func68,Tryz.ntmps68
 go_wp2_with fail
 go_loopw [5,8] (fun _ H wr=>∃i:Nat,H = .int .i64 (i:Int)∧i≤xs.length∧(∀j x,j<i→xs[j]? = some x→qfo own id x=false)∧qq w wr) (fun _ H _=>xs.length-(intOf H).toNat)
 case atStart=>exact⟨0,rfl,Nat.zero_le _,fun j x h=>by omega,Upd.refl _ _⟩
 case round =>
  obtain⟨i,rfl,O,M,q⟩:=hrel;obtain⟨K,rfl⟩:∃K:World,K=wr:=⟨_,rfl⟩;have D:=qb M;clear M;by_cases m:i<xs.length
  ·obtain⟨x,o⟩:∃x,xs[i]? = some x:=⟨_,List.getElem?_eq_getElem m⟩;obtain⟨g',rfl,C⟩:=l i x o;have g:=(C.upd q (fun h=>h)).row o;rw[Nat.zero_add] at g;have W:(i:Int)<(xs.length:Int):=by omega
   have N:=q6u own id x I J K (q.cell U (fun h=>h)) (q.cell V (fun h=>h));have L:=qb o;clear C l o;go_wp2_with fail;refine N.mono ?_;rintro e w2 ⟨rfl,P⟩;have R:=q.trans P;clear N g q P;cases t:qfo own id x with
   | true =>
    go_wp2_with fail;go_ret;have E:xs.findIdx? (qfo own id)=some i:=by
     rw[List.findIdx?_eq_some_iff_getElem];refine⟨m,?_,fun j z=> ?_⟩
     ·have:=qa L;rw[List.getElem?_eq_getElem m] at this;rw[Option.some.inj this,t]
     ·have:=qa D j _ z (List.getElem?_eq_getElem (by omega));rw[this];decide
    exact⟨by unfold qpz;rw[E];rfl,R⟩
   | false =>
    go_wp2_with fail;go_roundw
    case rel =>
     refine⟨i+1,by go_num,by omega,fun j y z F=> ?_,R⟩;by_cases e:j<i
     ·exact qa D j y e F
     ·obtain rfl:j=i:=by omega
      rw[qa L] at F;rw[←Option.some.inj F];exact t
    case measure=>simp[intOf];omega
  ·obtain rfl:i=xs.length:=by omega
   clear l;go_wp2_with fail;go_ret;have E:xs.findIdx? (qfo own id)=none:=by
    rw[List.findIdx?_eq_none_iff];intro x Y;obtain⟨j,z,rfl⟩:=List.mem_iff_getElem.1 Y;exact qa D j _ z (List.getElem?_eq_getElem z)
   exact⟨by unfold qpz;rw[E];rfl,q⟩
set_option maxHeartbeats 1000000 in
theorem qn1(g:Nat)(S:Nat→Prop)(c:Ch)(own:Bool)(id:Int)(w:World)(h:ChS w g S c) :
  Calls Tryz.prog 54 #[.pointer (some ⟨g,0,none⟩),.bool own,.int .u64 id] w (qbf (.int .i64 (qpz own id c.xs)) w):=by
 obtain⟨t,nv,C,h⟩:=h
 go_enter Tryz.func54,Tryz.ntmps54
 go_upto_region 1 with fail
 have o:qq w ((w.alloc (.cells #[.bool own] 4)).alloc (.cells #[.int .u64 id] 27)):=((Upd.refl _ _).alloc _).alloc _
 have i:((w.alloc (.cells #[.bool own] 4)).alloc (.cells #[.int .u64 id] 27)).heap[w.heap.size]? = some (.cells #[.bool own] 4 (0,0)):=zr (qi _ _) _
 have l:((w.alloc (.cells #[.bool own] 4)).alloc (.cells #[.int .u64 id] 27)).heap[w.heap.size+1]? = some (.cells #[.int .u64 id] 27 (0,0)):=by
  have:=qi (w.alloc (.cells #[.bool own] 4)) (.cells #[.int .u64 id] 27);rwa [World.size_alloc] at this
 generalize (w.alloc (.cells #[.bool own] 4)).alloc (.cells #[.int .u64 id] 27)=v at o i l ⊢
 have m:=h.new o
 have y:v.cell? ⟨g,47,none⟩=some t:=m.toR.live
 have q:=fun(W:World) (n:qq v W)=>q3j own id w.heap.size (w.heap.size+1) t c.xs W (zg m.live n (fun _ _ h=>h)) h.ok.few (n.cell (qh i 0) (fun h=>h)) (n.cell (qh l 0) (fun h=>h))
 have x:=qb q
 clear q i l m
 go_wp2_with (with_reducible first|(first|refine' zi (qg ?_) ?_|refine' zj (qg ?_) ?_);rotate_left|refine' zk (qg ?_)|rfl|apply tn|refine' zl ?_)
 refine(qa x _ (Upd.refl _ _)).mono ?_
 rintro e D ⟨rfl,z⟩
 go_wp2_with (with_reducible first|(first|refine' zi (qg ?_) ?_|refine' zj (qg ?_) ?_);rotate_left|refine' zk (qg ?_)|rfl|apply tn|refine' zl ?_)
 go_ret
 exact⟨rfl,o.trans z⟩
end Go.Proofs.YthnohmjbbeahmaaGreatDoor
namespace Go.Proofs.YthnohmjbbeahmaaGreatDoor
open Go.RowKit
attribute [local go_sem ↓ high] qab qan qar qaw zy zz z7 qaa
attribute [local go_sem] qcr qde qdn qg2 zb qb2 qcb qci
def qb0(own:Bool)(id:Int)(xs:List Live):Option (Nat × Live):=match xs.findIdx? (qfo own id) with | some i=>(xs[i]?).map fun x=>(i,x) | none=>none
theorem qj3{own:Bool}{id:Int}{xs:List Live}(h:qb0 own id xs=none):qpz own id xs = -1:=by
 unfold qb0 at h;unfold qpz;cases e:xs.findIdx? (qfo own id) with
 | none=>rfl
 | some i =>
  rw[e] at h;have h:Option.map (fun x=>(i,x)) xs[i]? = none:=h;obtain⟨g,-⟩:=List.findIdx?_eq_some_iff_getElem.1 e;rw[List.getElem?_eq_getElem g] at h;cases h
theorem qhu{own:Bool}{id:Int}{xs:List Live}{i:Nat}{x:Live}(h:qb0 own id xs=some (i,x)):qpz own id xs=(i:Int)∧xs[i]? = some x∧qfo own id x=true:=by
 unfold qb0 at h;unfold qpz;cases e:xs.findIdx? (qfo own id) with
 | none=>rw[e] at h;cases h
 | some j =>
  rw[e] at h;obtain⟨g,l,-⟩:=List.findIdx?_eq_some_iff_getElem.1 e;have h:Option.map (fun x=>(j,x)) xs[j]? = some (i,x):=h;rw[List.getElem?_eq_getElem g] at h;simp only[Option.map_some,Option.some.injEq,Prod.mk.injEq] at h;obtain⟨rfl,rfl⟩:=h;exact⟨rfl,List.getElem?_eq_getElem g,l⟩
def Ch.hearShut(c:Ch):Ch × Int:=if c.k.shutHeard=true then (c,4) else ({c with k:= {c.k with shutHeard:=true}},0)
set_option maxRecDepth 100000 in
set_option maxHeartbeats 1000000 in
theorem qxk(g:Nat)(S:Nat→Prop)(c:Ch)(m:MsgV)(H:m.hash.length=32)(w:World)(h:ChS w g S c) :
  Calls Tryz.prog 86 #[.pointer (some ⟨g,0,none⟩),.agg m.cells.toArray] w fun e w' =>
   e = .returned (.tuple #[qcg,.int .i64 c.hearShut.2])∧ChS w' g (Fr S w w') c.hearShut.1∧Upd S w w':=by
 obtain⟨I,nv,F,h⟩:=h
 go_enter Tryz.func86,Tryz.ntmps86
 go_upto_region 1 with fail
 have l:qq w (w.alloc (.cells m.cells.toArray 71)):=(Upd.refl _ _).alloc _
 generalize w.alloc (.cells m.cells.toArray 71)=w1 at l ⊢
 have i:=h.new l
 have o:w1.cell? ⟨g,43,none⟩=some (.bool c.k.shutHeard):=i.toR.shutHeard
 have y:w1.frozen? ⟨g,43,none⟩=false:=qw i.at_ 43
 cases t:c.k.shutHeard with
 | true =>
  have q:c.hearShut=(c,4):=by unfold Ch.hearShut;rw[if_pos t]
  rw[t] at o;have v:=qb q;have D:=qb (i.fr w);have x:=qb (l.mono (T:=S) (fun _ _ h=>h.elim));clear h i l q y;go_wp2_with (with_reducible first|(first|refine' zi (qg ?_) ?_|refine' zj (qg ?_) ?_);rotate_left|refine' zk (qg ?_)|rfl|apply tn|refine' zl ?_);go_ret2;rw[qa v];exact⟨rfl,qa D,qa x⟩
 | false =>
  have q:c.hearShut=({c with k:= {c.k with shutHeard:=true}},0):=by unfold Ch.hearShut;rw[if_neg (by rw[t];decide)]
  rw[t] at o;have z:=i.putShutHeard true;have C:=qjv w1 g 43 (.bool true);have v:=qb q;have E:=qb (z.fr w);have x:=qb ((l.mono (T:=S) (fun _ _ h=>h.elim)).trans (C.mono (fun k _ e=>by rw[e];exact h.inG)));clear h i l q z C;go_wp2_with (with_reducible first|(first|refine' zi (qg ?_) ?_|refine' zj (qg ?_) ?_);rotate_left|refine' zk (qg ?_)|rfl|apply tn|refine' zl ?_);go_ret2;rw[qa v];exact⟨rfl,qa E,qa x⟩
def Ch.hearFail(c:Ch)(m:MsgV):Ch × Int:=match qb0 true m.id c.xs with | none=>(c,3) | some p=>(c.removed p.1 p.2 false,0)
theorem qi2{c:Ch}{m:MsgV}(h:qb0 true m.id c.xs=none):c.hearFail m=(c,3):=by unfold Ch.hearFail;rw[h]
theorem qi3{c:Ch}{m:MsgV}{i:Nat}{x:Live}(h:qb0 true m.id c.xs=some (i,x)):c.hearFail m=(c.removed i x false,0):=by unfold Ch.hearFail;rw[h]
set_option maxRecDepth 100000 in
set_option maxHeartbeats 1000000 in
theorem qxj(g:Nat)(S:Nat→Prop)(c:Ch)(m:MsgV)(U:m.hash.length=32)(w:World)(h:ChS w g S c) :
  Calls Tryz.prog 83 #[.pointer (some ⟨g,0,none⟩),.agg m.cells.toArray] w fun e w' =>
   e = .returned (.tuple #[qcg,.int .i64 (c.hearFail m).2])∧ChS w' g (Fr S w w') (c.hearFail m).1∧Upd S w w':=by
 obtain⟨M,nv,J,h⟩:=h
 go_enter Tryz.func83,Tryz.ntmps83
 go_upto_region 1 with fail
 have H:=qbz w m U
 have z:qq w (w.alloc (.cells m.cells.toArray 71)):=(Upd.refl _ _).alloc _
 generalize w.alloc (.cells m.cells.toArray 71)=w1 at z H ⊢
 have F:=h.new z
 obtain⟨-,-,V,-,-,-,-⟩:=H.cells
 have L:=qn1 g S c true m.id w1 ⟨M,nv,J,F⟩
 clear H
 go_wp2_with fail
 refine L.mono ?_
 rintro e W ⟨rfl,I⟩
 have y:=F.new I
 have l:=z.trans I
 clear L V F I z
 cases o:qb0 true m.id c.xs with
 | none =>
  have q:=qj3 o;have C:=qb (qi2 o);have O:=qb (y.fr w);have D:=qb (l.mono (T:=S) (fun _ _ h=>h.elim));rw[q];clear h y l o q;go_wp2_with fail;go_ret2;rw[qa C];exact⟨rfl,qa O,qa D⟩
 | some p =>
  obtain⟨i,x⟩:=p;obtain⟨q,t,-⟩:=qhu o;have v:=qkl g S c M nv J i x false W y t;have C:=qb (qi3 o);have R:=qb h.inL;have D:=qb (l.mono (T:=S) (fun _ _ h=>h.elim));rw[q];clear h y l o q t;go_wp2_with fail;refine v.mono ?_;rintro e X ⟨rfl,K,N⟩;have P:=qb (K.fr w);have E:=qb ((qa D).trans (N.mono (T:=S) (fun k _ e=>qa R k e)));clear v K N;go_wp2_with fail;go_ret2;rw[qa C];exact⟨rfl,qa P,qa E⟩
end Go.Proofs.YthnohmjbbeahmaaGreatDoor
namespace Go.Proofs.YthnohmjbbeahmaaGreatDoor
open Go.RowKit
attribute [local go_sem ↓ high] zy zz z7 qaa
attribute [local go_sem] qb2 qcb qci zb
set_option maxRecDepth 100000 in
set_option maxHeartbeats 1000000 in
theorem q0a(g:Nat)(S:Nat→Prop)(c:Ch)(m:MsgV)(x:MsgOk m)(w:World)(h:ChS w g S c)(o:qam m=false∨m.ch≠c.s.ch) :
  Calls Tryz.prog 41 #[.pointer (some ⟨g,0,none⟩),.agg m.cells.toArray] w (qbf (.tuple #[qcg,.int .i64 1]) w):=by
 obtain⟨K,nv,H,h⟩:=h
 go_enter Tryz.func41,Tryz.ntmps41
 go_upto_region 1 with fail
 have q:=qbz w m x.len
 have t:qq w (w.alloc (.cells m.cells.toArray 71)):=(Upd.refl _ _).alloc _
 generalize w.alloc (.cells m.cells.toArray 71)=w1 at t q ⊢
 generalize w.heap.size=A at q ⊢
 have C:=q.row
 have i:=fun W=>qs4 m x W
 have E:=qb q
 have D:=qb (h.new t)
 have z:=qb t
 clear h q t x
 cases y:qam m with
 | false =>
  rw[y] at i;go_wp2_with (with_reducible first|(first|refine' zi (qg ?_) ?_|refine' zj (qg ?_) ?_);rotate_left|refine' zk (qg ?_)|rfl|apply tn|refine' zl ?_);refine(i _).mono ?_;rintro e v ⟨rfl,l⟩;have l:qq w1 v:=l.ofDrew;clear C;go_wp2_with (with_reducible first|(first|refine' zi (qg ?_) ?_|refine' zj (qg ?_) ?_);rotate_left|refine' zk (qg ?_)|rfl|apply tn|refine' zl ?_);go_ret2;exact⟨rfl,(qa z).trans l⟩
 | true =>
  rw[y] at i;have F:¬m.ch=c.s.ch:=by
   rcases o with e | e
   ·rw[y] at e;cases e
   ·exact e
  clear o;go_wp2_with (with_reducible first|(first|refine' zi (qg ?_) ?_|refine' zj (qg ?_) ?_);rotate_left|refine' zk (qg ?_)|rfl|apply tn|refine' zl ?_);refine(i _).mono ?_;rintro e v ⟨rfl,l⟩;have l:qq w1 v:=l.ofDrew;have J:=((qa E).new l).cells.2.1;have I:v.cell? ⟨g,0,none⟩=some (.int .u32 c.s.ch):=((qa D).new l).toR.ch;clear C i;go_wp2_with (with_reducible first|(first|refine' zi (qg ?_) ?_|refine' zj (qg ?_) ?_);rotate_left|refine' zk (qg ?_)|rfl|apply tn|refine' zl ?_);go_ret2;exact⟨rfl,(qa z).trans l⟩
set_option maxRecDepth 100000 in
set_option maxHeartbeats 1000000 in
theorem zbw(F:FuncId)(g:Nat)(S:Nat→Prop)(c:Ch)(m:MsgV)(I:MsgOk m)(w:World)(h:ChS w g S c)(hok:qam m=true)(H:m.ch=c.s.ch)(R:Value→Int→World→World→Prop)
  (hE:∀args w,(callFunc F args).run Tryz.prog w = .ok (.enter F args) w)
  (x:∀ {w:World} {b:Nat},qku w b→(Instr.lookup 133 (.map (some b)) (.int .i64 m.kind) true).run Tryz.prog w = .ok (.tuple #[.func (.func F) #[] #[],.bool true]) w)
  (Z:∀W,qq w W→Calls Tryz.prog F #[.pointer (some ⟨g,0,none⟩),.agg m.cells.toArray] W fun e w'=>∃v n,e = .returned (.tuple #[v,.int .i64 n])∧R v n W w') :
  Calls Tryz.prog 41 #[.pointer (some ⟨g,0,none⟩),.agg m.cells.toArray] w fun e w'=>∃v n W,e = .returned (.tuple #[v,.int .i64 n])∧qq w W∧R v n W w':=by
 obtain⟨lv,nv,av,h⟩:=h
 go_enter Tryz.func41,Tryz.ntmps41
 go_upto_region 1 with fail
 have t:=qbz w m I.len
 have z:qq w (w.alloc (.cells m.cells.toArray 71)):=(Upd.refl _ _).alloc _
 generalize w.alloc (.cells m.cells.toArray 71)=w1 at z t ⊢
 generalize w.heap.size=A at t ⊢
 have rA:=t.row
 have i:=fun W=>qs4 m I W
 rw[hok] at i
 have D:=qb t
 have U:=qb (h.new z)
 have X:=qb z
 clear h t z I
 go_wp2_with (with_reducible first|(first|refine' zi (qg ?_) ?_|refine' zj (qg ?_) ?_);rotate_left|refine' zk (qg ?_)|rfl|apply tn|refine' zl ?_)
 refine(i _).mono ?_
 rintro e C ⟨rfl,o⟩
 have o:qq w1 C:=o.ofDrew
 have N:=((qa D).new o).cells.2.1
 rw[H] at N
 have Y:C.cell? ⟨g,0,none⟩=some (.int .u32 c.s.ch):=((qa U).new o).toR.ch
 have E:=qb o
 clear rA i o
 go_upto_region 3 with (with_reducible first|(first|refine' zi (qg ?_) ?_|refine' zj (qg ?_) ?_);rotate_left|refine' zk (qg ?_)|rfl|apply tn|refine' zl ?_)
 have O:C.drew.cell? ⟨A,0,none⟩=some (.int .i64 m.kind):=((qa D).new (qa E)).cells.1
 have L:=@x
 clear N Y x
 refine qcq (fun w'=>w'.cell? ⟨A,0,none⟩=some (.int .i64 m.kind)) [2] (.of [0,1,2,3,4,5,6,7,8]) (by kernel_rfl) (by kernel_rfl) O ?_
 simp only[Plan.of]
 go_wp2_with (with_reducible first|(first|refine' qw1 (qg ?_) ?_|refine' qw2 (qg ?_) ?_|refine' qw3 (qg ?_) ?_);rotate_left|refine' qw4 (qg ?_)|refine' qw5 (qg ?_)|rfl|apply qn)
 refine(q0c _).mono ?_
 rintro e K ⟨b,rfl,y,P⟩
 have y:qq C K:=y.ofDrew
 have hl:=L P
 have l:=((qa D).new (qa E)).new y
 have q:=l.cells.1
 have J:=l.row
 have M:=qb (((qa X).trans (qa E)).trans y)
 clear O y P l L
 go_wp2_with (with_reducible first|(first|refine' qw1 (qg ?_) ?_|refine' qw2 (qg ?_) ?_|refine' qw3 (qg ?_) ?_);rotate_left|refine' qw4 (qg ?_)|refine' qw5 (qg ?_)|rfl|apply qn)
 refine⟨q,?_⟩
 go_wp2_with (with_reducible first|(first|refine' qw1 (qg ?_) ?_|refine' qw2 (qg ?_) ?_|refine' qw3 (qg ?_) ?_);rotate_left|refine' qw4 (qg ?_)|refine' qw5 (qg ?_)|rfl|apply qn)
 refine(Z K (qa M)).mono ?_
 rintro e w4 ⟨v,n,rfl,T⟩
 have V:=qb T
 clear J q hl T
 go_wp2_with (with_reducible first|(first|refine' qw1 (qg ?_) ?_|refine' qw2 (qg ?_) ?_|refine' qw3 (qg ?_) ?_);rotate_left|refine' qw4 (qg ?_)|refine' qw5 (qg ?_)|rfl|apply qn)
 go_ret2
 exact⟨v,n,K,rfl,qa M,qa V⟩
def qhp(g:Nat)(S:Nat→Prop)(w:World)(c':Ch)(ms:List MsgV)(n:Int)(e:Ending)(w':World):Prop :=
 ∃v,e = .returned (.tuple #[v,.int .i64 n])∧qc5 w.heap.size w' v ms∧ChS w' g (Fr S w w') c'∧Upd S w w'
theorem qke(F:FuncId)(g:Nat)(S:Nat→Prop)(c c':Ch)(ms:List MsgV)(n:Int)(m:MsgV)(z:MsgOk m)(w:World)(h:ChS w g S c)(hok:qam m=true)(l:m.ch=c.s.ch)
  (t:∀args w,(callFunc F args).run Tryz.prog w = .ok (.enter F args) w)
  (q:∀ {w:World} {b:Nat},qku w b→(Instr.lookup 133 (.map (some b)) (.int .i64 m.kind) true).run Tryz.prog w = .ok (.tuple #[.func (.func F) #[] #[],.bool true]) w)
  (x:∀W,qq w W→Calls Tryz.prog F #[.pointer (some ⟨g,0,none⟩),.agg m.cells.toArray] W (qhp g S W c' ms n)) :
  Calls Tryz.prog 41 #[.pointer (some ⟨g,0,none⟩),.agg m.cells.toArray] w (qhp g S w c' ms n):=by
 refine(zbw F g S c m z w h hok l (fun v k W w'=>k=n∧qc5 W.heap.size w' v ms∧ChS w' g (Fr S W w') c'∧Upd S W w') t q (fun W i=>(x W i).mono ?_)).mono ?_
 ·rintro e w' ⟨v,o,C⟩;exact⟨v,n,o,rfl,C⟩
 ·rintro e w' ⟨v,k,W,o,i,rfl,D,y,E⟩;exact⟨v,o,qgn D i.size,y.later i.size,(i.mono (T:=S) (fun _ _ h=>h.elim)).trans E⟩
theorem zbu(g:Nat)(S:Nat→Prop)(c:Ch)(m:MsgV)(o:MsgOk m)(w:World)(h:ChS w g S c)(hok:qam m=true)(l:m.ch=c.s.ch)(x:m.kind=3)(i:c.xs.length<1000000) :
  Calls Tryz.prog 41 #[.pointer (some ⟨g,0,none⟩),.agg m.cells.toArray] w (qhp g S w (c.hearAdd m).1 [] (c.hearAdd m).2) :=
 qke _ g S c _ _ _ m o w h hok l (enters_of Tryz.func81 (by kernel_rfl) rfl) (fun q=>by rw[x];exact zis q) (fun W z=>(qz9 g S c m o W (h.new z) i).mono (by
  rintro e w' ⟨v,t,y⟩;exact⟨_,v,qc5.nil _ _,t,y⟩))
theorem q74(g:Nat)(S:Nat→Prop)(c:Ch)(m:MsgV)(l:MsgOk m)(w:World)(h:ChS w g S c)(hok:qam m=true)(i:m.ch=c.s.ch)(v:m.kind=5) :
  Calls Tryz.prog 41 #[.pointer (some ⟨g,0,none⟩),.agg m.cells.toArray] w (qhp g S w (c.hearFail m).1 [] (c.hearFail m).2) :=
 qke _ g S c _ _ _ m l w h hok i (enters_of Tryz.func83 (by kernel_rfl) rfl) (fun o=>by rw[v];exact ziu o) (fun W y=>(qxj g S c m l.len W (h.new y)).mono (by
  rintro e w' ⟨t,q,x⟩;exact⟨_,t,qc5.nil _ _,q,x⟩))
theorem q77(g:Nat)(S:Nat→Prop)(c:Ch)(m:MsgV)(l:MsgOk m)(w:World)(h:ChS w g S c)(hok:qam m=true)(i:m.ch=c.s.ch)(v:m.kind=8) :
  Calls Tryz.prog 41 #[.pointer (some ⟨g,0,none⟩),.agg m.cells.toArray] w (qhp g S w c.hearShut.1 [] c.hearShut.2) :=
 qke _ g S c _ _ _ m l w h hok i (enters_of Tryz.func86 (by kernel_rfl) rfl) (fun o=>by rw[v];exact zix o) (fun W y=>(qxk g S c m l.len W (h.new y)).mono (by
  rintro e w' ⟨t,q,x⟩;exact⟨_,t,qc5.nil _ _,q,x⟩))
theorem q0b(g:Nat)(S:Nat→Prop)(c:Ch)(m:MsgV)(o:MsgOk m)(w:World)(h:ChS w g S c)(hok:qam m=true)(l:m.ch=c.s.ch)(C:m.kind=7)(i:q2f c)(x:Tb w)(v:Apart S) :
  Calls Tryz.prog 41 #[.pointer (some ⟨g,0,none⟩),.agg m.cells.toArray] w (qhp g S w (c.hearRevoke m).1 [] (c.hearRevoke m).2) :=
 qke _ g S c _ _ _ m o w h hok l (enters_of Tryz.func85 (by kernel_rfl) rfl) (fun t=>by rw[C];exact ziw t) (fun W q=>(qse g S c m o W (h.new q) i (x.new q) v).mono (by
  rintro e w' ⟨z,y,D⟩;exact⟨_,z,qc5.nil _ _,y,D⟩))
theorem q78(g:Nat)(S:Nat→Prop)(c:Ch)(m:MsgV)(x:MsgOk m)(w:World)(h:ChS w g S c)(hok:qam m=true)(l:m.ch=c.s.ch)(H:m.kind=6)(D:Tb w)(C:Apart S)(q:c.s.peer.size≤100000000)(i:0≤c.s.ch∧c.s.ch<4294967296)(o:c.k.heard<4294967295)(t:c.xs.length≤16) :
  Calls Tryz.prog 41 #[.pointer (some ⟨g,0,none⟩),.agg m.cells.toArray] w (qhp g S w (c.hearSign m).1 (c.hearSign m).2.1 (c.hearSign m).2.2) :=
 qke _ g S c _ _ _ m x w h hok l (enters_of Tryz.func84 (by kernel_rfl) rfl) (fun z=>by rw[H];exact ziv z) (fun W y=>(qxl g S c m x W (h.new y) (D.new y) C q i o t).mono (by
  rintro e w' ⟨v,F,I,E,J⟩;exact⟨v,F,I,E,J⟩))
end Go.Proofs.YthnohmjbbeahmaaGreatDoor
namespace Go.Proofs.YthnohmjbbeahmaaGreatDoor
open Go.RowKit
def Ch.new(s:SetupV):Ch:=⟨s,.zero,s.ours,s.cap-s.ours,[],List.replicate 17 .zero,[],[]⟩
theorem Ch.new_ok{s:SetupV}(h:s.Ok)(m:s.may):(Ch.new s).Ok:=by
 obtain⟨m1,q,t,_,_⟩:=m;have i:=h.ours;have o:=h.cap;refine⟨h,⟨Int.le_refl _,show (0:Int)≤65535 by decide⟩,⟨Int.le_refl _,show (0:Int)<4294967296 by decide⟩,⟨Int.le_refl _,show (0:Int)<18446744073709551616 by decide⟩,⟨Int.le_refl _,show (0:Int)<18446744073709551616 by decide⟩,i,?_,?_,Nat.zero_le _,⟨rfl,?_⟩,?_,?_,⟨Nat.zero_le _,Nat.zero_le _⟩⟩
 ·show 0≤s.cap-s.ours∧s.cap-s.ours<_;omega
 ·intro x g;cases g
 ·intro p l;rw[List.eq_of_mem_replicate l];rfl
 ·intro x g;cases g
 ·intro x g;cases g
theorem q5a{w:World}{g:Nat}{s:SetupV}(h:ChR w g (.new s))(l:s.Ok)(m:s.may):ChS w g (· = g) (Ch.new s):=by
 refine⟨qcg,qcg,qcg,h.at_,Ch.new_ok l m,World.ownsRow_nil _ _ _ _,World.ownsRow_nil _ _ _ _,World.ownsRow_nil _ _ _ _,rfl,?_,?_,?_,?_,?_⟩
 ·intro k i;simp[qcg,Value.ownBlock] at i
 ·intro k i;simp[qcg,Value.ownBlock] at i
 ·intro k i;simp[qcg,Value.ownBlock] at i
 ·intro k i;simp[qcg,Value.ownBlock] at i
 ·intro k i;rw[i];exact qad h.at_
theorem qf4(x y:Int)(g:0≤x)(l:x<4294967296)(i:0≤y)(m:y<4294967296):bits .xor .u64 x y=bits .xor .u32 x y:=by
 rw[u64_xor x y g (by omega) i (by omega),u32_xor x y g l i m]
theorem qlb(x y:Int)(g:0≤x)(l:x<4294967296)(i:0≤y)(m:y<4294967296):bits .and .u64 x y=bits .and .u32 x y:=by
 rw[u64_and x y g (by omega) i (by omega),u32_and x y g l i m]
theorem qnx(x:Int)(g:0≤x)(i:x<4294967296):bits .xor .u32 0 x=x:=by
 rw[u32_xor 0 x (by decide) (by decide) g i];simp;omega
theorem zi1(e:Int)(g:0≤e)(i:e<4294967296):bits .xor .u32 4294967295 e=4294967295-e:=by
 rw[u32_xor 4294967295 e (by decide) (by decide) g i];obtain⟨n,rfl⟩:=Int.eq_ofNat_of_zero_le g;have h:(4294967295 ^^^ n:Nat)=4294967295-n:=by
  have l:n<2 ^ 32:=by omega
  have:=congrArg BitVec.toNat (BitVec.allOnes_xor (x:=BitVec.ofNat 32 n));rw[BitVec.toNat_xor,BitVec.toNat_not,BitVec.toNat_allOnes,BitVec.toNat_ofNat,Nat.mod_eq_of_lt l] at this;simpa using this
 rw[Int.toNat_natCast,show (4294967295:Int).toNat=4294967295 from rfl,h];omega
theorem zgf(x n:Nat)(o:x<4294967296)(t:n≤32):qc3 x n=((x / 2 ^ n+x%2 ^ n*2 ^ (32-n):Nat):Int):=by
 unfold qc3;have m:(32-(n:Int)).toNat=32-n:=by omega
 rw[Int.toNat_natCast,m];have i:2 ^ n*2 ^ (32-n)=4294967296:=by rw[←Nat.pow_add,show n+(32-n)=32 by omega]
 have g:0<2 ^ n:=Nat.pow_pos (by decide);have l:0<2 ^ (32-n):=Nat.pow_pos (by decide);have a1:(x:Int) / 2 ^ n=((x / 2 ^ n:Nat):Int):=by rw[Int.natCast_ediv,Int.natCast_pow];rfl
 have a2:(x:Int)*2 ^ (32-n)%4294967296=((x%2 ^ n*2 ^ (32-n):Nat):Int):=by
  have:x*2 ^ (32-n)%4294967296=x%2 ^ n*2 ^ (32-n):=by
   rw[←i,Nat.mul_mod_mul_right]
  rw[←this,Int.natCast_emod,Int.natCast_mul,Int.natCast_pow];rfl
 rw[a1,a2];have b1:x / 2 ^ n<2 ^ (32-n):=by rw[Nat.div_lt_iff_lt_mul g,Nat.mul_comm,i];exact o
 have b2:x%2 ^ n*2 ^ (32-n)<4294967296:=by
  rw[←i];exact Nat.mul_lt_mul_of_pos_right (Nat.mod_lt _ g) l
 have q:2 ^ (32-n)≤4294967296:=by rw[←i];exact Nat.le_mul_of_pos_left _ g
 rw[u32_or_nat _ _ (by omega) b2,Nat.or_comm,nat_join (32-n) _ _ (by rw[Nat.mul_mod_left]) b1,Nat.add_comm]
def qjt(x:Int):Nat→Int
 | 0=>x
 | k+1=>qjt x k / 2+qjt x k%2*2147483648
theorem qwa(x k:Nat)(F:x<4294967296)(H:k≤31):qjt x k=((x / 2 ^ k+x%2 ^ k*2 ^ (32-k):Nat):Int)∧x / 2 ^ k+x%2 ^ k*2 ^ (32-k)<4294967296:=by
 induction k with
 | zero=>simp[qjt,Nat.mod_one];exact F
 | succ k m =>
  obtain⟨m,v⟩:=m (by omega);have D:2 ^ (32-k)=2*2 ^ (31-k):=by rw[←Nat.pow_succ',show (31-k).succ=32-k by omega]
  have o:2 ^ (k+1)=2*2 ^ k:=Nat.pow_succ';have g:2 ^ k*2 ^ (31-k)=2147483648:=by rw[←Nat.pow_add,show k+(31-k)=31 by omega]
  have E:0<2 ^ k:=Nat.pow_pos (by decide);have C:=Nat.div_add_mod x (2 ^ k);have z:=Nat.div_add_mod (x / 2 ^ k) 2;have i:x / 2 ^ k / 2=x / 2 ^ (k+1):=by rw[Nat.div_div_eq_div_mul,Nat.mul_comm (2 ^ k) 2,←o]
  have l:x%2 ^ (k+1)=x%2 ^ k+2 ^ k*(x / 2 ^ k%2):=by rw[o,Nat.mul_comm 2,Nat.mod_mul]
  have e:(x / 2 ^ k+x%2 ^ k*2 ^ (32-k)) / 2+(x / 2 ^ k+x%2 ^ k*2 ^ (32-k))%2*2147483648=x / 2 ^ (k+1)+x%2 ^ (k+1)*2 ^ (32-(k+1)):=by
   rw[show 32-(k+1)=31-k by omega,l,Nat.add_mul,←i,D];have q:x%2 ^ k*(2*2 ^ (31-k))=2*(x%2 ^ k*2 ^ (31-k)):=by rw[Nat.mul_left_comm]
   have t:2 ^ k*(x / 2 ^ k%2)*2 ^ (31-k)=x / 2 ^ k%2*2147483648:=by rw[←g,Nat.mul_comm (2 ^ k),Nat.mul_assoc]
   rw[q,t];generalize x%2 ^ k*2 ^ (31-k)=c;generalize x / 2 ^ k=y;omega
  refine⟨?_,?_⟩
  ·rw[qjt,m,←e];have w:∀y:Nat,(y:Int) / 2+(y:Int)%2*2147483648=((y / 2+y%2*2147483648:Nat):Int):=fun y=>by omega
   exact w _
  ·rw[←e];generalize x / 2 ^ k+x%2 ^ k*2 ^ (32-k)=y at v ⊢;omega
theorem qwb(x:Int)(k:Nat)(g:0≤x)(l:x<4294967296)(i:k≤31):qjt x k=qc3 x k:=by
 obtain⟨n,rfl⟩:=Int.eq_ofNat_of_zero_le g;rw[(qwa n k (by omega) i).1,zgf n k (by omega) (by omega)]
theorem q11(x:Int)(k:Nat)(g:0≤x)(m:x<4294967296)(l:k≤31):0≤qjt x k∧qjt x k<4294967296:=by
 obtain⟨n,rfl⟩:=Int.eq_ofNat_of_zero_le g;obtain⟨e,i⟩:=qwa n k (by omega) l;rw[e];generalize n / 2 ^ k+n%2 ^ k*2 ^ (32-k)=y at i ⊢;omega
theorem qkn(x:Int)(k:Nat)(g:0≤x)(i:x<4294967296)(l:k≤31):0≤qc3 x k∧qc3 x k<4294967296:=by
 rw[←qwb x k g i l];exact q11 x k g i l
set_option maxHeartbeats 1000000 in
theorem qfe(x:Int)(n:Int)(w:World)(l:0≤x)(o:x<4294967296)(v:0≤n)(E:n≤31) :
  Calls Tryz.prog 66 #[.int .u64 x,.int .i64 n] w fun e w'=>e = .returned (.int .u64 (qc3 x n))∧w=w':=by
 obtain⟨m,rfl⟩:=Int.eq_ofNat_of_zero_le v
 have C:m≤31:=by omega
 rw[←qwb x m l o C]
 go_enter Tryz.func66,Tryz.ntmps66
 go_wp2_with fail
 go_loop [0,5] (fun D i=>∃k:Nat,i = .int .i64 (k:Int)∧k≤m∧D = .int .u64 (qjt x k)) (fun _ i=>m-(intOf i).toNat)
 case atStart=>exact⟨0,rfl,Nat.zero_le _,rfl⟩
 case round =>
  obtain⟨k,rfl,F,rfl⟩:=hrel;obtain⟨b1,b2⟩:=q11 x k l o (by omega);have t:qjt x (k+1)=qjt x k / 2+qjt x k%2*2147483648:=rfl;have g:=qb t;clear t;by_cases z:k<m
  ·have q:(k:Int)<(m:Int):=by omega
   generalize qjt x k=y at b1 b2 g ⊢;go_wp2;go_round
   case rel=>exact⟨k+1,by go_num,by omega,by rw[qa g]⟩
   case measure=>simp[intOf];omega
  ·obtain rfl:k=m:=by omega
   clear g;go_wp2;go_ret;exact⟨rfl,rfl⟩
def shR(x:Int):Nat→Int
 | 0=>x
 | k+1=>shR x k / 2
theorem zi9(x:Int)(k:Nat):shR x k=x / 2 ^ k:=by
 induction k with
 | zero=>simp[shR]
 | succ k g=>rw[shR,g,Int.pow_succ,Int.ediv_ediv_of_nonneg (Int.pow_nonneg (by decide))]
theorem zi8(x:Int)(k:Nat)(g:0≤x)(i:x<18446744073709551616):0≤shR x k∧shR x k<18446744073709551616:=by
 induction k with
 | zero=>exact⟨g,i⟩
 | succ k l=>rw[shR];omega
set_option maxHeartbeats 1000000 in
theorem qmu(x:Int)(n:Int)(w:World)(q:0≤x)(t:x<18446744073709551616)(v:0≤n)(D:n≤64) :
  Calls Tryz.prog 52 #[.int .u64 x,.int .i64 n] w fun e w'=>e = .returned (.int .u64 (x / 2 ^ n.toNat))∧w=w':=by
 obtain⟨m,rfl⟩:=Int.eq_ofNat_of_zero_le v
 have F:m≤64:=by omega
 rw[Int.toNat_natCast,←zi9]
 go_enter Tryz.func52,Tryz.ntmps52
 go_wp2_with fail
 go_loop [0,5] (fun C i=>∃k:Nat,i = .int .i64 (k:Int)∧k≤m∧C = .int .u64 (shR x k)) (fun _ i=>m-(intOf i).toNat)
 case atStart=>exact⟨0,rfl,Nat.zero_le _,rfl⟩
 case round =>
  obtain⟨k,rfl,E,rfl⟩:=hrel;obtain⟨b1,b2⟩:=zi8 x k q t;have o:shR x (k+1)=shR x k / 2:=rfl;have g:=qb o;clear o;by_cases z:k<m
  ·have l:(k:Int)<(m:Int):=by omega
   generalize shR x k=y at b1 b2 g ⊢;go_wp2;go_round
   case rel=>exact⟨k+1,by go_num,by omega,by rw[qa g]⟩
   case measure=>simp[intOf];omega
  ·obtain rfl:k=m:=by omega
   clear g b2;go_wp2;go_ret;exact⟨rfl,rfl⟩
theorem zc8(x y:Int)(i:0≤x)(l:x<16777216)(g:0≤y)(m:y≤255):bits .or .u32 (x*256%4294967296) y=x*256+y:=by
 rw[show x*256%4294967296=x*256 by omega,u32_or _ _ (by omega) (by omega) g (by omega),nat_join 8 _ _ (by omega) (by omega)];omega
theorem q18(ws:List Int)(i:Nat)(x:Int)(h:i<ws.length):wd (ws.set i x) i=x:=by
 unfold wd;rw[List.getD_eq_getElem?_getD,List.getElem?_set_self h];rfl
theorem qyv(ws:List Int)(i j:Nat)(x:Int)(h:i≠j):wd (ws.set i x) j=wd ws j:=by
 unfold wd;rw[List.getD_eq_getElem?_getD,List.getElem?_set_ne h,←List.getD_eq_getElem?_getD]
theorem q0m(s:ByteArray)(i:Nat)(q:i<64)(j:Nat):j≤4*i+4→0≤wd (qba s j) i∧wd (qba s j) i<256 ^ (j-4*i):=by
 induction j with
 | zero =>
  intro _;have m:wd (qba s 0) i=0:=by
   show (List.replicate 64 (0:Int)).getD i 0=0;rw[List.getD_eq_getElem?_getD,List.getElem?_replicate];split<;>rfl
  rw[m,show 0-4*i=0 by omega];decide
 | succ j v =>
  intro w;obtain⟨l,g⟩:=v (by omega);rw[qfz,qsv];by_cases h:j / 4=i
  ·subst h;rw[q18 _ _ _ (by rw[qik];exact q)];obtain⟨b0,b1⟩:=qzf s j;have hd:j-4*(j / 4)≤3:=by omega
   have t:wd (qba s j) (j / 4)<16777216:=by
    refine Int.lt_of_lt_of_le g ?_;generalize j-4*(j / 4)=d at hd
    match d,hd with
    | 0,_=>decide
    | 1,_=>decide
    | 2,_=>decide
    | 3,_=>decide
   rw[zc8 _ _ l t b0 b1,show j+1-4*(j / 4)=j-4*(j / 4)+1 by omega,Int.pow_succ];generalize (256:Int) ^ (j-4*(j / 4))=p at g;omega
  ·rw[qyv _ _ _ _ h];rcases Nat.lt_or_ge j (4*i) with o | o
   ·rw[show j+1-4*i=0 by omega];rw[show j-4*i=0 by omega] at g;exact⟨l,g⟩
   ·exfalso;omega
theorem q0n(s:ByteArray)(i k:Nat)(q:i<16)(o:k<4) :
  (0≤wd (qba s (4*i+k)) i∧wd (qba s (4*i+k)) i<16777216)∧qba s (4*i+(k+1))=(qba s (4*i+k)).set i (wd (qba s (4*i+k)) i*256+bt s (4*i+k)):=by
 obtain⟨g,m⟩:=q0m s i (by omega) (4*i+k) (by omega)
 have l:wd (qba s (4*i+k)) i<16777216:=by
  refine Int.lt_of_lt_of_le m ?_;rw[show 4*i+k-4*i=k by omega]
  match k,o with
  | 0,_=>decide
  | 1,_=>decide
  | 2,_=>decide
  | 3,_=>decide
 refine⟨⟨g,l⟩,?_⟩
 obtain⟨b0,b1⟩:=qzf s (4*i+k)
 rw[show 4*i+(k+1)=4*i+k+1 by omega,qfz,qsv,show (4*i+k) / 4=i by omega,zc8 _ _ g l b0 b1]
theorem Tryz.infoR64:(Tryz.prog.info? 135).map (·.size)=some 64:=by kernel_rfl
theorem Tryz.infoR8:(Tryz.prog.info? 113).map (·.size)=some 8:=by kernel_rfl
def zhd(x:Value):Sem Value:=Instr.loadAt 135 x
theorem q0o(x:Value):Instr.loadAt 135 x=zhd x:=rfl
theorem zip(b o:Nat)(w:World):(zhd (.pointer (some ⟨b,o,none⟩))).run Tryz.prog w=match zu w b o 64 with | some A=> .ok (.agg A) w | none=>qdz Tryz.prog 135 w b o :=
 z6 135 64 _ Tryz.underlying135 rfl Tryz.infoR64 b o w
def zj2(x:Value):Sem Value:=Instr.loadAt 113 x
theorem qsw(x:Value):Instr.loadAt 113 x=zj2 x:=rfl
theorem zhf(b o:Nat)(w:World):(zj2 (.pointer (some ⟨b,o,none⟩))).run Tryz.prog w=match zu w b o 8 with | some A=> .ok (.agg A) w | none=>qdz Tryz.prog 113 w b o :=
 z6 113 8 _ Tryz.underlying113 rfl Tryz.infoR8 b o w
def zhp(x v:Value):Sem Unit:=Instr.storeAt 135 x v
theorem q1u(x v:Value):Instr.storeAt 135 x v=zhp x v:=rfl
theorem zjb(b o:Nat)(A:Array Value)(w:World):(zhp (.pointer (some ⟨b,o,none⟩)) (.agg A)).run Tryz.prog w=if stOk w b o 64 A=true then .ok () (w.setCells b o A.toList) else qfn Tryz.prog 135 w b o A :=
 qat 135 64 Tryz.infoR64 b o A w
def zkb(x v:Value):Sem Unit:=Instr.storeAt 113 x v
theorem qtq(x v:Value):Instr.storeAt 113 x v=zkb x v:=rfl
theorem zhr(b o:Nat)(A:Array Value)(w:World):(zkb (.pointer (some ⟨b,o,none⟩)) (.agg A)).run Tryz.prog w=if stOk w b o 8 A=true then .ok () (w.setCells b o A.toList) else qfn Tryz.prog 113 w b o A :=
 qat 113 8 Tryz.infoR8 b o A w
theorem zd0(x:Int)(g:0≤x)(i:x<4294967296):bits .xor .u64 (bits .xor .u64 (qc3 x 7) (qc3 x 18)) (x / 8)=q1r x:=by
 have a:0≤qc3 x 7∧qc3 x 7<4294967296:=qkn x 7 g i (by decide);have b:0≤qc3 x 18∧qc3 x 18<4294967296:=qkn x 18 g i (by decide);have c:=qb7 .xor (qc3 x 7) (qc3 x 18);have e:qcc x [7,18]=bits .xor .u32 (bits .xor .u32 0 (qc3 x 7)) (qc3 x 18):=rfl;unfold q1r;rw[e,qnx _ a.1 a.2];rw[qf4 _ _ a.1 a.2 b.1 b.2,qf4 _ _ c.1 c.2 (by omega) (by omega)]
theorem zd1(x:Int)(g:0≤x)(i:x<4294967296):bits .xor .u64 (bits .xor .u64 (qc3 x 17) (qc3 x 19)) (x / 1024)=sig1 x:=by
 have a:0≤qc3 x 17∧qc3 x 17<4294967296:=qkn x 17 g i (by decide);have b:0≤qc3 x 19∧qc3 x 19<4294967296:=qkn x 19 g i (by decide);have c:=qb7 .xor (qc3 x 17) (qc3 x 19);have e:qcc x [17,19]=bits .xor .u32 (bits .xor .u32 0 (qc3 x 17)) (qc3 x 19):=rfl;unfold sig1;rw[e,qnx _ a.1 a.2];rw[qf4 _ _ a.1 a.2 b.1 b.2,qf4 _ _ c.1 c.2 (by omega) (by omega)]
theorem qv8(x:Int)(g i l:Nat)(m1 q t:Int)(v:m1=g)(w:q=i)(y:t=l)(m:0≤x)(o:x<4294967296)(z:g≤31)(C:i≤31)(D:l≤31):bits .xor .u64 (bits .xor .u64 (qc3 x m1) (qc3 x q)) (qc3 x t)=qcc x [m1,q,t]:=by
 subst v w y;have a:=qkn x g m o z;have b:=qkn x i m o C;have d:=qkn x l m o D;have c:=qb7 .xor (qc3 x g) (qc3 x i);have e:qcc x [(g:Int),i,l]=bits .xor .u32 (bits .xor .u32 (bits .xor .u32 0 (qc3 x g)) (qc3 x i)) (qc3 x l):=rfl;rw[e,qnx _ a.1 a.2];rw[qf4 _ _ a.1 a.2 b.1 b.2,qf4 _ _ c.1 c.2 d.1 d.2]
theorem zic(e f g:Int)(i:0≤e)(l:e<4294967296)(m:0≤f)(o:f<4294967296)(q:0≤g)(t:g<4294967296):bits .xor .u64 (bits .and .u64 e f) (bits .and .u64 (4294967295-e) g)=chI e f g:=by
 have a:=qb7 .and e f;have b:=qb7 .and (4294967295-e) g;unfold chI;rw[zi1 e i l,qlb _ _ i l m o,qlb _ _ (by omega) (by omega) q t,qf4 _ _ a.1 a.2 b.1 b.2]
theorem zf1(a b c:Int)(g:0≤a)(i:a<4294967296)(l:0≤b)(m:b<4294967296)(o:0≤c)(q:c<4294967296):bits .xor .u64 (bits .xor .u64 (bits .and .u64 a b) (bits .and .u64 a c)) (bits .and .u64 b c)=q3w a b c:=by
 have x:=qb7 .and a b;have y:=qb7 .and a c;have z:=qb7 .and b c;have v:=qb7 .xor (bits .and .u32 a b) (bits .and .u32 a c);unfold q3w;rw[qlb _ _ g i l m,qlb _ _ g i o q,qlb _ _ l m o q,qf4 _ _ x.1 x.2 y.1 y.2,qf4 _ _ v.1 v.2 z.1 z.2]
theorem zgh(x:Int)(w:World)(g:0≤x)(i:x<4294967296):Calls Tryz.prog 52 #[.int .u64 x,.int .i64 3] w fun e w'=>e = .returned (.int .u64 (x / 8))∧w=w':=qmu x 3 w g (by omega) (by decide) (by decide)
theorem zdv(x:Int)(w:World)(g:0≤x)(i:x<4294967296):Calls Tryz.prog 52 #[.int .u64 x,.int .i64 10] w fun e w'=>e = .returned (.int .u64 (x / 1024))∧w=w':=qmu x 10 w g (by omega) (by decide) (by decide)
def qqz:Array Value:=(qk5.map (Value.int .u64)).toArray
def z64:Array Value:=((List.replicate 64 (0:Int)).map (Value.int .u64)).toArray
set_option maxRecDepth 100000 in
set_option maxHeartbeats 1000000 in
theorem zj1(w:World):Calls Tryz.prog 67 #[] w fun e w'=>e = .returned (.agg qqz)∧qq w w':=by
 go_enter Tryz.func67,Tryz.ntmps67;go_upto_region 0 with fail;refine wp_region_lit ?_;refine zf rfl (v:= .pointer (some ⟨w.heap.size,0,none⟩)) (w':=w.alloc (.cells z64 135)) (by kernel_rfl) ?_;have g:(w.alloc (.cells z64 135)).heap[w.heap.size]? = some (.cells z64 135 (0,0)):=qi _ _;have l:qq w (w.alloc (.cells z64 135)):=(Upd.refl _ _).alloc _;generalize w.alloc (.cells z64 135)=w1 at g l ⊢;go_upto_region 1 with fail;refine wp_region_lit ?_;refine zf rfl (v:= .agg qqz) (w':=w1) (by kernel_rfl) ?_;refine wpList_store_row rfl _ _ _ rfl w.heap.size qqz rfl rfl 135 _ g (by kernel_rfl) (by kernel_rfl) (by kernel_rfl) ?_;have i:=setRow_heap w1 w.heap.size _ qqz 135 (0,0) g;have m:qq w (w1.setRow w.heap.size qqz):=l.setRow (fun h=>by omega) _;generalize w1.setRow w.heap.size qqz=o at i m ⊢;go_wp2_with fail;refine bodyPost_ret (results_cell_row rfl _ _ w.heap.size 135 _ (0,0) _ rfl i Tryz.underlying135 rfl (by exact Tryz.infoR64)) rfl ?_;exact⟨rfl,m⟩
end Go.Proofs.YthnohmjbbeahmaaGreatDoor
