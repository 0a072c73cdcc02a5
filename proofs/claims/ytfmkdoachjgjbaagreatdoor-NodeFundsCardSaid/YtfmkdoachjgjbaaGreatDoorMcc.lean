/-
  A cell set within a row of lives; remove.
-/
import Derived.Test.YtfmkdoachjgjbaaGreatDoorMaj
import Derived.Test.YtfmkdoachjgjbaaGreatDoorMbb
set_option maxRecDepth 100000
set_option maxHeartbeats 1000000
set_option linter.unusedVariables false
set_option linter.unusedSimpArgs false
namespace Go.Proofs.YtfmkdoachjgjbaaGreatDoor
section
open Go.RowKit
theorem qnd{α:Type}(f:α→List Value)(k:Nat)(m:∀x,(f x).length=k):∀(X:List α) (i j:Nat) (x y:α) (u:Value),X[i]? = some x→j<k→f y=(f x).set j u→(X.set i y).flatMap f=(X.flatMap f).set (i*k+j) u
 | [],i,j,x,y,u,h,_,_=>by simp at h
 | z::X,0,j,x,y,u,h,o,q=>by
  have:z=x:=by simpa using h
  subst this;rw[List.set_cons_zero,List.flatMap_cons,List.flatMap_cons,q,Nat.zero_mul,Nat.zero_add,List.set_append_left _ _ (by rw[m];exact o)]
 | z::X,i+1,j,x,y,u,h,o,q=>by
  rw[List.set_cons_succ,List.flatMap_cons,List.flatMap_cons,qnd f k m X i j x y u (by simpa using h) o q,List.set_append_right _ _ (by rw[m,Nat.succ_mul];omega),m];congr 2;rw[Nat.succ_mul];omega
theorem quj{α:Type}(f:α→List Value)(k:Nat)(C:∀x,(f x).length=k){w:World}{base:Nat}{T:TypeId}{v:Value}{X:List α}(h:w.ownsRow base T k v X.length (X.flatMap f)){i j:Nat}{x y:α}{u:Value}(t:X[i]? = some x)(E:j<k)(H:f y=(f x).set j u){g:Nat}(D:v.ownBlock=some g) :
  (w.setCell ⟨g,i*k+j,none⟩ u).ownsRow base T k v (X.set i y).length ((X.set i y).flatMap f):=by
 have K:=(List.getElem?_eq_some_iff.1 t).1
 rcases h.2 with ⟨e,e0⟩ | ⟨z,cap,m,e,I,o,J,O,M,N⟩
 ·omega
 ·rw[e] at D;have q:z=g:=by simpa [Value.ownBlock] using D
  subst q;rw[List.length_set];refine⟨?_,.inr ⟨z,cap,m.setIfInBounds (i*k+j) u,e,I,zq o _ _,J,O,by rw[Array.size_setIfInBounds];exact M,?_⟩⟩
  ·rw[qnd f k C X i j x y u t E H,List.length_set];exact h.1
  ·rw[qnd f k C X i j x y u t E H,←N,Array.toList_setIfInBounds,List.take_set]
theorem qwo(x:Live)(s:Int):qm {x with state:=s} = (qm x).set 36 (.int .i64 s):=by
 unfold qm;rw[List.set_append_right _ _ (by rw[qba];omega),qba];rfl
theorem qwp(x:Live)(p:Bool):qm {x with paid:=p} = (qm x).set 37 (.bool p):=by
 unfold qm;rw[List.set_append_right _ _ (by rw[qba];omega),qba];rfl
def Ch.removed(c:Ch)(i:Nat)(x:Live)(paid:Bool):Ch:= {c with xs:=c.xs.set i {x with state:=5,paid:=paid}}
theorem qn9(g:Nat)(S:Nat→Prop)(c:Ch)(t nv W:Value)(i:Nat)(x:Live)(paid:Bool)(w:World)(h:ChP w g S c t nv W)(P:c.xs[i]? = some x) :
  Calls Tryz.prog 98 #[.pointer (some ⟨g,0,none⟩),.int .i64 i,.bool paid] w fun e w'=>e = .returned (.tuple #[])∧ChP w' g S (c.removed i x paid) t nv W∧Upd (fun k=>t.ownBlock=some k) w w':=by
 have J:=(List.getElem?_eq_some_iff.1 P).1
 have X:w.drew.cell? ⟨g,47,none⟩=some t:=h.toR.live
 obtain⟨m,cap,K,q⟩:∃m cap,t = .slice (some ⟨m,0,none⟩) c.xs.length cap∧t.ownBlock=some m:=by
  rcases h.live.2 with ⟨e,e0⟩ | ⟨g',cap,E,e,_⟩
  ·omega
  ·exact⟨g',cap,e,by rw[e];rfl⟩
 obtain⟨E,o⟩:=zv h.live m q
 have C:=(qc0 h.live).2
 have M:zt w m (i*38) 38=some (qm x).toArray:=by
  rcases C with ⟨e,e0⟩ | ⟨g',a2,e,-,hh⟩
  ·rw[e0] at J;simp at J
  ·rw[K] at e;injection e with e1 e2 e3;injection e1 with e1;injection e1 with e1;have:=hh.row P;rw[Nat.zero_add,←e1] at this;exact this
 have b0:w.drew.cell? ⟨m,i*38+36,none⟩=some (.int .i64 x.state):=by
  have:=(qgm M).2 36 (by omega);rw[List.getElem?_toArray,qew] at this;exact this
 have O:w.drew.cell? ⟨m,i*38+37,none⟩=some (.bool x.paid):=by
  have:=(qgm M).2 37 (by omega);rw[List.getElem?_toArray,qjk] at this;exact this
 have u1:Upd (· = m) w (w.setCell ⟨m,i*38+36,none⟩ (.int .i64 5)).drew:=((Upd.refl _ _).set1 _ _).drew
 have Y:g≠m:=zx h.at_ o (by decide)
 have U:(w.setCell ⟨m,i*38+36,none⟩ (.int .i64 5)).drew.ownsRow 0 69 38 t (c.xs.set i {x with state:=5}).length ((c.xs.set i {x with state:=5}).flatMap qm):=quj qm 38 qbb h.live P (by omega) (qwo x 5) q
 have R:(c.xs.set i {x with state:=5})[i]? = some {x with state:=5} := by rw[List.getElem?_set_self J]
 have b1:w.drew.frozen? ⟨m,i*38+36,none⟩=false:=qo o _
 have H:(w.setCell ⟨m,i*38+36,none⟩ (.int .i64 5)).drew.heap[m]? = some (.cells (E.setIfInBounds (i*38+36) (.int .i64 5)) 69 (0,0)):=zq o _ _
 have a7:(w.setCell ⟨m,i*38+36,none⟩ (.int .i64 5)).drew.cell? ⟨m,i*38+37,none⟩=some (.bool x.paid):=by
  have e:w.cell? ⟨m,i*38+37,none⟩=E[i*38+37]? := qk o _;have e2:w.cell? ⟨m,i*38+37,none⟩=some (.bool x.paid):=O;rw[qk H,Array.getElem?_setIfInBounds_ne (by omega),←e,e2]
 have a8:(w.setCell ⟨m,i*38+36,none⟩ (.int .i64 5)).drew.frozen? ⟨m,i*38+37,none⟩=false:=qo H _
 have I:=quj qm 38 qbb U R (show 37<38 by omega) (qwp {x with state:=5} paid) q
 rw[List.set_set] at I
 have N:Upd (· = m) w ((w.setCell ⟨m,i*38+36,none⟩ (.int .i64 5)).drew.setCell ⟨m,i*38+37,none⟩ (.bool paid)):=u1.set1 _ _
 have z:ChP ((w.setCell ⟨m,i*38+36,none⟩ (.int .i64 5)).drew.setCell ⟨m,i*38+37,none⟩ (.bool paid)) g S (c.removed i x paid) t nv W:=by
  have D:∀ {v:Value} {n:Nat} {xs:List Value},w.ownsRow 0 101 38 v n xs→∀k,v.ownBlock=some k→¬k=m:=by
   intro v n xs hr k Z e;obtain⟨a6,hc⟩:=zv hr k Z;exact zx hc o (by decide) e
  have a1:=h.ok.xs x (List.mem_of_getElem? P);refine⟨N.old h.at_ Y,⟨h.ok.s,h.ok.signed,h.ok.heard,h.ok.nextOwn,h.ok.nextTheirs,h.ok.loc,h.ok.rem,?_,?_,h.ok.shelf,h.ok.news,h.ok.last,h.ok.many⟩,I,zc h.news N (D h.news),zc h.last N (D h.last),h.inG,h.inL,h.inN,h.inA,h.sep,fun k Z=>Nat.lt_of_lt_of_le (h.lt k Z) N.size⟩
  ·intro y V;rcases List.mem_or_eq_of_mem_set V with V | V
   ·exact h.ok.xs y V
   ·rw[V];exact⟨a1.h,show (-9223372036854775808:Int)≤5 by decide,show (5:Int)≤9223372036854775807 by decide⟩
  ·show (c.xs.set i _).length≤1000000;rw[List.length_set];exact h.ok.few
 have HF:=qj z
 have HU:=qj (N.mono (T:=fun k=>t.ownBlock=some k) (fun k _ e=>by rw[e];exact q))
 have b2:(i:Int)<(c.xs.length:Int):=by omega
 rw[K] at X
 clear h C M O U R I H o u1 N z K q P
 go_enter Tryz.func98,Tryz.ntmps98
 go_wp2_with ((with_reducible first|rfl|refine' ut ?_ ?_;rotate_left|refine' uu ?_)<;>intros)
 go_end0
 exact⟨rfl,qg HF,qg HU⟩
attribute [local go_sem ↓ high] qa5
attribute [local go_sem] qc5 qy
def qf1(own:Bool)(id:Int)(x:Live):Bool:=x.own==own&&(x.h.id==id&&x.state==4)
theorem qy1(own:Bool)(id:Int)(x:Live)(v y:Nat)(w:World)(q:w.cell? ⟨v,0,none⟩=some (.bool own))(t:w.cell? ⟨y,0,none⟩=some (.int .u64 id)) :
  Calls Tryz.prog 129 #[.agg (qm x).toArray,.pointer (some ⟨v,0,none⟩),.pointer (some ⟨y,0,none⟩)] w (qar (.bool (qf1 own id x)) w):=by
 go_enter Tryz.func129,Tryz.ntmps129
 go_upto_region 1 with fail
 have i:(w.alloc (.cells (qm x).toArray 69)).heap[w.heap.size]? = some (.cells (qm x).toArray 69 (0,0)):=ql _ _
 have n0:qq w (w.alloc (.cells (qm x).toArray 69)):=(Upd.refl _ _).alloc _
 generalize w.alloc (.cells (qm x).toArray 69)=w1 at i n0 ⊢
 replace q:=n0.cell q (fun h=>h)
 replace t:=n0.cell t (fun h=>h)
 have z:w1.cell? ⟨w.heap.size,35,none⟩=some (.bool x.own):=by rw[qk i,List.getElem?_toArray];exact qee x
 have C:w1.cell? ⟨w.heap.size,36,none⟩=some (.int .i64 x.state):=by rw[qk i,List.getElem?_toArray];exact qew x
 have D:w1.cell? ⟨w.heap.size,0,none⟩=some (.int .u64 x.h.id):=by rw[qk i,List.getElem?_toArray];exact qr1 x
 clear i
 cases m:x.own==own with
 | false =>
  go_wp2_with ((with_reducible first|rfl|refine' ut ?_ ?_;rotate_left|refine' uu ?_)<;>intros);go_ret;exact⟨by unfold qf1;rw[m];rfl,n0⟩
 | true =>
  cases o:x.h.id==id with
  | false =>
   go_wp2_with ((with_reducible first|rfl|refine' ut ?_ ?_;rotate_left|refine' uu ?_)<;>intros);go_ret;exact⟨by unfold qf1;rw[m,o];rfl,n0⟩
  | true =>
   go_wp2_with ((with_reducible first|rfl|refine' ut ?_ ?_;rotate_left|refine' uu ?_)<;>intros);go_ret;exact⟨by unfold qf1;rw[m,o];rfl,n0⟩
def qla(own:Bool)(id:Int)(xs:List Live):Int:=match xs.findIdx? (qf1 own id) with | some i=>i | none=> -1
theorem qwc(own:Bool)(id:Int)(O P:Nat)(v:Value)(xs:List Live)(w:World)(K:qq1 w v xs)(hl:xs.length≤1000000)(Z:w.cell? ⟨O,0,none⟩=some (.bool own))(h2:w.cell? ⟨P,0,none⟩=some (.int .u64 id)) :
  Calls Tryz.prog 128 #[v,.func (.func 129) #[] #[.pointer (some ⟨O,0,none⟩),.pointer (some ⟨P,0,none⟩)]] w (qar (.int .i64 (qla own id xs)) w):=by
 have m:=(qc0 K).2
 obtain⟨a,cap,rfl⟩:=qaa K
 have o:∀(i:Nat) (x:Live),xs[i]? = some x→∃C,a=some ⟨C,0,none⟩∧qdy w C 0 xs:=by
  intro i x W;have q:=(List.getElem?_eq_some_iff.1 W).1;rcases m with ⟨e,e0⟩ | ⟨C,k,e,-,H⟩
  ·rw[e0] at q;simp at q
  ·injection e with e1;exact⟨C,e1,H.toL⟩
 clear m K
 have a2:(xs.length:Int)≤1000000:=by omega
 go_enter Tryz.func128,Tryz.ntmps128
 go_wp2_with fail
 go_loopw [5,8] (fun _ N wr=>∃i:Nat,N = .int .i64 (i:Int)∧i≤xs.length∧(∀j x,j<i→xs[j]? = some x→qf1 own id x=false)∧qq w wr) (fun _ N _=>xs.length-(intOf N).toNat)
 case atStart=>exact⟨0,rfl,Nat.zero_le _,fun j x h=>by omega,Upd.refl _ _⟩
 case round =>
  obtain⟨i,rfl,W,U,z⟩:=hrel;obtain⟨R,rfl⟩:∃R:World,R=wr:=⟨_,rfl⟩;have I:=qj U;clear U;by_cases q:i<xs.length
  ·obtain⟨x,t⟩:∃x,xs[i]? = some x:=⟨_,List.getElem?_eq_getElem q⟩;obtain⟨C,rfl,H⟩:=o i x t;have m:=(H.upd z (fun h=>h)).row t;rw[Nat.zero_add] at m;have a1:(i:Int)<(xs.length:Int):=by omega
   have V:=qy1 own id x O P R (z.cell Z (fun h=>h)) (z.cell h2 (fun h=>h));have T:=qj t;clear H o t;go_wp2_with fail;refine V.mono ?_;rintro e w2 ⟨rfl,X⟩;have Y:=z.trans X;clear V m z X;cases D:qf1 own id x with
   | true =>
    go_wp2_with fail;go_ret;have J:xs.findIdx? (qf1 own id)=some i:=by
     rw[List.findIdx?_eq_some_iff_getElem];refine⟨q,?_,fun j E=> ?_⟩
     ·have:=qg T;rw[List.getElem?_eq_getElem q] at this;rw[Option.some.inj this,D]
     ·have:=qg I j _ E (List.getElem?_eq_getElem (by omega));rw[this];decide
    exact⟨by unfold qla;rw[J];rfl,Y⟩
   | false =>
    go_wp2_with fail;go_roundw
    case rel =>
     refine⟨i+1,by go_num,by omega,fun j y E M=> ?_,Y⟩;by_cases e:j<i
     ·exact qg I j y e M
     ·obtain rfl:j=i:=by omega
      rw[qg T] at M;rw[←Option.some.inj M];exact D
    case measure=>simp[intOf];omega
  ·obtain rfl:i=xs.length:=by omega
   clear o;go_wp2_with fail;go_ret;have J:xs.findIdx? (qf1 own id)=none:=by
    rw[List.findIdx?_eq_none_iff];intro x hx;obtain⟨j,E,rfl⟩:=List.mem_iff_getElem.1 hx;exact qg I j _ E (List.getElem?_eq_getElem E)
   exact⟨by unfold qla;rw[J];rfl,z⟩
theorem qs4(g:Nat)(S:Nat→Prop)(c:Ch)(own:Bool)(id:Int)(w:World)(h:ChS w g S c) :
  Calls Tryz.prog 97 #[.pointer (some ⟨g,0,none⟩),.bool own,.int .u64 id] w (qar (.int .i64 (qla own id c.xs)) w):=by
 obtain⟨v,E,D,h⟩:=h
 go_enter Tryz.func97,Tryz.ntmps97
 go_upto_region 1 with fail
 have q:qq w ((w.alloc (.cells #[.bool own] 4)).alloc (.cells #[.int .u64 id] 22)):=((Upd.refl _ _).alloc _).alloc _
 have i:((w.alloc (.cells #[.bool own] 4)).alloc (.cells #[.int .u64 id] 22)).heap[w.heap.size]? = some (.cells #[.bool own] 4 (0,0)):=qx (ql _ _) _
 have m:((w.alloc (.cells #[.bool own] 4)).alloc (.cells #[.int .u64 id] 22)).heap[w.heap.size+1]? = some (.cells #[.int .u64 id] 22 (0,0)):=by
  have:=ql (w.alloc (.cells #[.bool own] 4)) (.cells #[.int .u64 id] 22);rwa [World.size_alloc] at this
 generalize (w.alloc (.cells #[.bool own] 4)).alloc (.cells #[.int .u64 id] 22)=x at q i m ⊢
 have o:=h.new q
 have z:x.cell? ⟨g,47,none⟩=some v:=o.toR.live
 have t:=fun(W:World) (n:qq x W)=>qwc own id w.heap.size (w.heap.size+1) v c.xs W (zc o.live n (fun _ _ h=>h)) h.ok.few (n.cell (qk i 0) (fun h=>h)) (n.cell (qk m 0) (fun h=>h))
 have y:=qj t
 clear t i m o
 go_wp2_with ((with_reducible first|rfl|refine' ut ?_ ?_;rotate_left|refine' uu ?_)<;>intros)
 refine(qg y _ (Upd.refl _ _)).mono ?_
 rintro e H ⟨rfl,C⟩
 go_wp2_with ((with_reducible first|rfl|refine' ut ?_ ?_;rotate_left|refine' uu ?_)<;>intros)
 go_ret
 exact⟨rfl,q.trans C⟩
end
section
open Go.RowKit
attribute [local go_sem ↓ high] zl qaf qah qa1 ze zf zg zj
attribute [local go_sem] qa9 qb3 qb7 qdp qy qau qav qaw
def qf2(own:Bool)(id:Int)(xs:List Live):Option (Nat × Live):=match xs.findIdx? (qf1 own id) with | some i=>(xs[i]?).map fun x=>(i,x) | none=>none
theorem qm2{own:Bool}{id:Int}{xs:List Live}(h:qf2 own id xs=none):qla own id xs = -1:=by
 unfold qf2 at h;unfold qla;cases e:xs.findIdx? (qf1 own id) with
 | none=>rfl
 | some i =>
  rw[e] at h;have h:Option.map (fun x=>(i,x)) xs[i]? = none:=h;obtain⟨m,-⟩:=List.findIdx?_eq_some_iff_getElem.1 e;rw[List.getElem?_eq_getElem m] at h;cases h
theorem qm3{own:Bool}{id:Int}{xs:List Live}{i:Nat}{x:Live}(h:qf2 own id xs=some (i,x)):qla own id xs=(i:Int)∧xs[i]? = some x∧qf1 own id x=true:=by
 unfold qf2 at h;unfold qla;cases e:xs.findIdx? (qf1 own id) with
 | none=>rw[e] at h;cases h
 | some j =>
  rw[e] at h;obtain⟨m,o,-⟩:=List.findIdx?_eq_some_iff_getElem.1 e;have h:Option.map (fun x=>(j,x)) xs[j]? = some (i,x):=h;rw[List.getElem?_eq_getElem m] at h;simp only[Option.map_some,Option.some.injEq,Prod.mk.injEq] at h;obtain⟨rfl,rfl⟩:=h;exact⟨rfl,List.getElem?_eq_getElem m,o⟩
def Ch.hearShut(c:Ch):Ch × Int:=if c.k.shutHeard=true then (c,4) else ({c with k:= {c.k with shutHeard:=true}},0)
theorem qrt(g:Nat)(S:Nat→Prop)(c:Ch)(m:MsgV)(J:m.hash.length=32)(w:World)(h:ChS w g S c) :
  Calls Tryz.prog 181 #[.pointer (some ⟨g,0,none⟩),.agg m.cells.toArray] w fun e w' =>
   e = .returned (.tuple #[qcb,.int .i64 c.hearShut.2])∧ChS w' g (Fr S w w') c.hearShut.1∧Upd S w w':=by
 obtain⟨K,M,I,h⟩:=h
 go_enter Tryz.func181,Tryz.ntmps181
 go_upto_region 1 with fail
 have o:qq w (w.alloc (.cells m.cells.toArray 101)):=(Upd.refl _ _).alloc _
 generalize w.alloc (.cells m.cells.toArray 101)=w1 at o ⊢
 have i:=h.new o
 have q:w1.cell? ⟨g,43,none⟩=some (.bool c.k.shutHeard):=i.toR.shutHeard
 have z:w1.frozen? ⟨g,43,none⟩=false:=qo i.at_ 43
 cases v:c.k.shutHeard with
 | true =>
  have t:c.hearShut=(c,4):=by unfold Ch.hearShut;rw[if_pos v]
  rw[v] at q;have x:=qj t;have E:=qj (i.fr w);have y:=qj (o.mono (T:=S) (fun _ _ h=>h.elim));clear h i o t z;go_wp2_with ((with_reducible first|rfl|refine' ut ?_ ?_;rotate_left|refine' uu ?_)<;>intros);go_ret2;rw[qg x];exact⟨rfl,qg E,qg y⟩
 | false =>
  have t:c.hearShut=({c with k:= {c.k with shutHeard:=true}},0):=by unfold Ch.hearShut;rw[if_neg (by rw[v];decide)]
  rw[v] at q;have C:=i.putShutHeard true;have D:=qos w1 g 43 (.bool true);have x:=qj t;have H:=qj (C.fr w);have y:=qj ((o.mono (T:=S) (fun _ _ h=>h.elim)).trans (D.mono (fun k _ e=>by rw[e];exact h.inG)));clear h i o t C D;go_wp2_with ((with_reducible first|rfl|refine' ut ?_ ?_;rotate_left|refine' uu ?_)<;>intros);go_ret2;rw[qg x];exact⟨rfl,qg H,qg y⟩
def Ch.hearFail(c:Ch)(m:MsgV):Ch × Int:=match qf2 true m.id c.xs with | none=>(c,3) | some p=>(c.removed p.1 p.2 false,0)
theorem qo0{c:Ch}{m:MsgV}(h:qf2 true m.id c.xs=none):c.hearFail m=(c,3):=by unfold Ch.hearFail;rw[h]
theorem qo1{c:Ch}{m:MsgV}{i:Nat}{x:Live}(h:qf2 true m.id c.xs=some (i,x)):c.hearFail m=(c.removed i x false,0):=by unfold Ch.hearFail;rw[h]
theorem qrq(g:Nat)(S:Nat→Prop)(c:Ch)(m:MsgV)(Y:m.hash.length=32)(w:World)(h:ChS w g S c) :
  Calls Tryz.prog 178 #[.pointer (some ⟨g,0,none⟩),.agg m.cells.toArray] w fun e w' =>
   e = .returned (.tuple #[qcb,.int .i64 (c.hearFail m).2])∧ChS w' g (Fr S w w') (c.hearFail m).1∧Upd S w w':=by
 obtain⟨P,R,M,h⟩:=h
 go_enter Tryz.func178,Tryz.ntmps178
 go_upto_region 1 with fail
 have J:=qa6 w m Y
 have C:qq w (w.alloc (.cells m.cells.toArray 101)):=(Upd.refl _ _).alloc _
 generalize w.alloc (.cells m.cells.toArray 101)=w1 at C J ⊢
 have I:=h.new C
 obtain⟨-,-,Z,-,-,-,-⟩:=J.cells
 have O:=qs4 g S c true m.id w1 ⟨P,R,M,I⟩
 clear J
 go_wp2_with fail
 refine O.mono ?_
 rintro e w2 ⟨rfl,K⟩
 have z:=I.new K
 have o:=C.trans K
 clear O Z I K C
 cases q:qf2 true m.id c.xs with
 | none =>
  have t:=qm2 q;have D:=qj (qo0 q);have V:=qj (z.fr w);have E:=qj (o.mono (T:=S) (fun _ _ h=>h.elim));rw[t];clear h z o q t;go_wp2_with fail;go_ret2;rw[qg D];exact⟨rfl,qg V,qg E⟩
 | some p =>
  obtain⟨i,x⟩:=p;obtain⟨t,v,-⟩:=qm3 q;have y:=qn9 g S c P R M i x false w2 z v;have D:=qj (qo1 q);have X:=qj h.inL;have E:=qj (o.mono (T:=S) (fun _ _ h=>h.elim));rw[t];clear h z o q t v;go_wp2_with fail;refine y.mono ?_;rintro e w3 ⟨rfl,N,U⟩;have W:=qj (N.fr w);have H:=qj ((qg E).trans (U.mono (T:=S) (fun k _ e=>qg X k e)));clear y N U;go_wp2_with fail;go_ret2;rw[qg D];exact⟨rfl,qg W,qg H⟩
end
end Go.Proofs.YtfmkdoachjgjbaaGreatDoor
