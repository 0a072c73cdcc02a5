/-
  A cell set within a row of lives; remove.
-/
import Derived.Test.YtfmkdoachjgjbaaGreatDoorMai
import Derived.Test.YtfmkdoachjgjbaaGreatDoorMbc
import Derived.Test.YtfmkdoachjgjbaaGreatDoorMbh
import Derived.Test.YtfmkdoachjgjbaaGreatDoorHsg
import Derived.Test.YtfmkdoachjgjbaaGreatDoorMbf
import Derived.Test.YtfmkdoachjgjbaaGreatDoorRows
import Derived.Test.YtfmkdoachjgjbaaGreatDoorMaa
import Derived.Shelf.Strings.OnBuilder
set_option linter.unusedVariables false
set_option linter.unusedSimpArgs false
namespace Go.Proofs.YtfmkdoachjgjbaaGreatDoor
open Go.RowKit
theorem qob{α:Type}(f:α→List Value)(k:Nat)(m:∀x,(f x).length=k):∀(X:List α) (i j:Nat) (x y:α) (u:Value),X[i]? = some x→j<k→f y=(f x).set j u→(X.set i y).flatMap f=(X.flatMap f).set (i*k+j) u
 | [],i,j,x,y,u,h,_,_=>by simp at h
 | z::X,0,j,x,y,u,h,q,v=>by
  have:z=x:=by simpa using h
  subst this;rw[List.set_cons_zero,List.flatMap_cons,List.flatMap_cons,v,Nat.zero_mul,Nat.zero_add,List.set_append_left _ _ (by rw[m];exact q)]
 | z::X,i+1,j,x,y,u,h,q,v=>by
  rw[List.set_cons_succ,List.flatMap_cons,List.flatMap_cons,qob f k m X i j x y u (by simpa using h) q v,List.set_append_right _ _ (by rw[m,Nat.succ_mul];omega),m];congr 2;rw[Nat.succ_mul];omega
theorem qut{α:Type}(f:α→List Value)(k:Nat)(F:∀x,(f x).length=k){w:World}{base:Nat}{T:TypeId}{v:Value}{X:List α}(h:w.ownsRow base T k v X.length (X.flatMap f)){i j:Nat}{x y:α}{u:Value}(C:X[i]? = some x)(I:j<k)(J:f y=(f x).set j u){g:Nat}(H:v.ownBlock=some g) :
  (w.setCell ⟨g,i*k+j,none⟩ u).ownsRow base T k v (X.set i y).length ((X.set i y).flatMap f):=by
 have M:=(List.getElem?_eq_some_iff.1 C).1
 rcases h.2 with ⟨e,R⟩ | ⟨E,cap,m,e,K,q,L,P,N,O⟩
 ·omega
 ·rw[e] at H;have z:E=g:=by simpa [Value.ownBlock] using H
  subst z;rw[List.length_set];refine⟨?_,.inr ⟨E,cap,m.setIfInBounds (i*k+j) u,e,K,zv q _ _,L,P,by rw[Array.size_setIfInBounds];exact N,?_⟩⟩
  ·rw[qob f k F X i j x y u C I J,List.length_set];exact h.1
  ·rw[qob f k F X i j x y u C I J,←O,Array.toList_setIfInBounds,List.take_set]
theorem qxb(x:Live)(s:Int):qm {x with state:=s} = (qm x).set 36 (.int .i64 s):=by
 unfold qm;rw[List.set_append_right _ _ (by rw[qbf];omega),qbf];rfl
theorem qxc(x:Live)(p:Bool):qm {x with paid:=p} = (qm x).set 37 (.bool p):=by
 unfold qm;rw[List.set_append_right _ _ (by rw[qbf];omega),qbf];rfl
def Ch.removed(c:Ch)(i:Nat)(x:Live)(paid:Bool):Ch:= {c with xs:=c.xs.set i {x with state:=5,paid:=paid}}
set_option maxRecDepth 100000 in
set_option maxHeartbeats 1000000 in
theorem qkf(g:Nat)(S:Nat→Prop)(c:Ch)(z nv W:Value)(i:Nat)(x:Live)(paid:Bool)(w:World)(h:ChP w g S c z nv W)(P:c.xs[i]? = some x) :
  Calls Tryz.prog 98 #[.pointer (some ⟨g,0,none⟩),.int .i64 i,.bool paid] w fun e w'=>e = .returned (.tuple #[])∧ChP w' g S (c.removed i x paid) z nv W∧Upd (fun k=>z.ownBlock=some k) w w':=by
 have K:=(List.getElem?_eq_some_iff.1 P).1
 have X:w.drew.cell? ⟨g,47,none⟩=some z:=h.toR.live
 obtain⟨f,cap,L,q⟩:∃f cap,z = .slice (some ⟨f,0,none⟩) c.xs.length cap∧z.ownBlock=some f:=by
  rcases h.live.2 with ⟨e,e0⟩ | ⟨g',cap,H,e,_⟩
  ·omega
  ·exact⟨g',cap,e,by rw[e];rfl⟩
 obtain⟨H,m⟩:=qal h.live f q
 have E:=(qdf h.live).2
 have M:zg w f (i*38) 38=some (qm x).toArray:=by
  rcases E with ⟨e,e0⟩ | ⟨g',a7,e,-,hh⟩
  ·rw[e0] at K;simp at K
  ·rw[L] at e;injection e with e1 e2 e3;injection e1 with e1;injection e1 with e1;have:=hh.row P;rw[Nat.zero_add,←e1] at this;exact this
 have b5:w.drew.cell? ⟨f,i*38+36,none⟩=some (.int .i64 x.state):=by
  have:=(qfn M).2 36 (by omega);rw[List.getElem?_toArray,qff] at this;exact this
 have O:w.drew.cell? ⟨f,i*38+37,none⟩=some (.bool x.paid):=by
  have:=(qfn M).2 37 (by omega);rw[List.getElem?_toArray,qnp] at this;exact this
 have u1:Upd (· = f) w (w.setCell ⟨f,i*38+36,none⟩ (.int .i64 5)).drew:=((Upd.refl _ _).set1 _ _).drew
 have Y:g≠f:=qay h.at_ m (by decide)
 have U:(w.setCell ⟨f,i*38+36,none⟩ (.int .i64 5)).drew.ownsRow 0 69 38 z (c.xs.set i {x with state:=5}).length ((c.xs.set i {x with state:=5}).flatMap qm):=qut qm 38 qbj h.live P (by omega) (qxb x 5) q
 have R:(c.xs.set i {x with state:=5})[i]? = some {x with state:=5} := by rw[List.getElem?_set_self K]
 have b6:w.drew.frozen? ⟨f,i*38+36,none⟩=false:=qu m _
 have I:(w.setCell ⟨f,i*38+36,none⟩ (.int .i64 5)).drew.heap[f]? = some (.cells (H.setIfInBounds (i*38+36) (.int .i64 5)) 69 (0,0)):=zv m _ _
 have b3:(w.setCell ⟨f,i*38+36,none⟩ (.int .i64 5)).drew.cell? ⟨f,i*38+37,none⟩=some (.bool x.paid):=by
  have e:w.cell? ⟨f,i*38+37,none⟩=H[i*38+37]? := qg m _;have e2:w.cell? ⟨f,i*38+37,none⟩=some (.bool x.paid):=O;rw[qg I,Array.getElem?_setIfInBounds_ne (by omega),←e,e2]
 have b4:(w.setCell ⟨f,i*38+36,none⟩ (.int .i64 5)).drew.frozen? ⟨f,i*38+37,none⟩=false:=qu I _
 have J:=qut qm 38 qbj U R (show 37<38 by omega) (qxc {x with state:=5} paid) q
 rw[List.set_set] at J
 have N:Upd (· = f) w ((w.setCell ⟨f,i*38+36,none⟩ (.int .i64 5)).drew.setCell ⟨f,i*38+37,none⟩ (.bool paid)):=u1.set1 _ _
 have C:ChP ((w.setCell ⟨f,i*38+36,none⟩ (.int .i64 5)).drew.setCell ⟨f,i*38+37,none⟩ (.bool paid)) g S (c.removed i x paid) z nv W:=by
  have F:∀ {v:Value} {n:Nat} {xs:List Value},w.ownsRow 0 101 38 v n xs→∀k,v.ownBlock=some k→¬k=f:=by
   intro v n xs hr k Z e;obtain⟨a8,hc⟩:=qal hr k Z;exact qay hc m (by decide) e
  have a6:=h.ok.xs x (List.mem_of_getElem? P);refine⟨N.old h.at_ Y,⟨h.ok.s,h.ok.signed,h.ok.heard,h.ok.nextOwn,h.ok.nextTheirs,h.ok.loc,h.ok.rem,?_,?_,h.ok.shelf,h.ok.news,h.ok.last,h.ok.many⟩,J,zk h.news N (F h.news),zk h.last N (F h.last),h.inG,h.inL,h.inN,h.inA,h.sep,fun k Z=>Nat.lt_of_lt_of_le (h.lt k Z) N.size⟩
  ·intro y V;rcases List.mem_or_eq_of_mem_set V with V | V
   ·exact h.ok.xs y V
   ·rw[V];exact⟨a6.h,show (-9223372036854775808:Int)≤5 by decide,show (5:Int)≤9223372036854775807 by decide⟩
  ·show (c.xs.set i _).length≤1000000;rw[List.length_set];exact h.ok.few
 have HF:=qb C
 have HU:=qb (N.mono (T:=fun k=>z.ownBlock=some k) (fun k _ e=>by rw[e];exact q))
 have b7:(i:Int)<(c.xs.length:Int):=by omega
 rw[L] at X
 clear h E M O U R J I m u1 N C L q P
 go_enter Tryz.func98,Tryz.ntmps98
 go_wp2_with (with_reducible first|(first|refine' tw1 (qh ?_) ?_|refine' tw2 (qh ?_) ?_);rotate_left|refine' tw3 (qh ?_)|rfl|apply tn|refine' tw4 ?_)
 go_end0
 exact⟨rfl,qa HF,qa HU⟩
attribute [local go_sem ↓ high] qbc
attribute [local go_sem] qdi qw
def qfr(own:Bool)(id:Int)(x:Live):Bool:=x.own==own&&(x.h.id==id&&x.state==4)
set_option maxHeartbeats 1000000 in
theorem qzp(own:Bool)(id:Int)(x:Live)(C E:Nat)(w:World)(v:w.cell? ⟨C,0,none⟩=some (.bool own))(z:w.cell? ⟨E,0,none⟩=some (.int .u64 id)) :
  Calls Tryz.prog 129 #[.agg (qm x).toArray,.pointer (some ⟨C,0,none⟩),.pointer (some ⟨E,0,none⟩)] w (qa5 (.bool (qfr own id x)) w):=by
 go_enter Tryz.func129,Tryz.ntmps129
 go_upto_region 1 with fail
 have i:(w.alloc (.cells (qm x).toArray 69)).heap[w.heap.size]? = some (.cells (qm x).toArray 69 (0,0)):=qj _ _
 have f:qq w (w.alloc (.cells (qm x).toArray 69)):=(Upd.refl _ _).alloc _
 generalize w.alloc (.cells (qm x).toArray 69)=w1 at i f ⊢
 replace v:=f.cell v (fun h=>h)
 replace z:=f.cell z (fun h=>h)
 have F:w1.cell? ⟨w.heap.size,35,none⟩=some (.bool x.own):=by rw[qg i,List.getElem?_toArray];exact qfe x
 have H:w1.cell? ⟨w.heap.size,36,none⟩=some (.int .i64 x.state):=by rw[qg i,List.getElem?_toArray];exact qff x
 have I:w1.cell? ⟨w.heap.size,0,none⟩=some (.int .u64 x.h.id):=by rw[qg i,List.getElem?_toArray];exact qsf x
 clear i
 cases m:x.own==own with
 | false =>
  go_wp2_with (with_reducible first|(first|refine' tw1 (qh ?_) ?_|refine' tw2 (qh ?_) ?_);rotate_left|refine' tw3 (qh ?_)|rfl|apply tn|refine' tw4 ?_);go_ret;exact⟨by unfold qfr;rw[m];rfl,f⟩
 | true =>
  cases q:x.h.id==id with
  | false =>
   go_wp2_with (with_reducible first|(first|refine' tw1 (qh ?_) ?_|refine' tw2 (qh ?_) ?_);rotate_left|refine' tw3 (qh ?_)|rfl|apply tn|refine' tw4 ?_);go_ret;exact⟨by unfold qfr;rw[m,q];rfl,f⟩
  | true =>
   go_wp2_with (with_reducible first|(first|refine' tw1 (qh ?_) ?_|refine' tw2 (qh ?_) ?_);rotate_left|refine' tw3 (qh ?_)|rfl|apply tn|refine' tw4 ?_);go_ret;exact⟨by unfold qfr;rw[m,q];rfl,f⟩
def qmg(own:Bool)(id:Int)(xs:List Live):Int:=match xs.findIdx? (qfr own id) with | some i=>i | none=> -1
set_option maxRecDepth 100000 in
set_option maxHeartbeats 1000000 in
theorem qwx(own:Bool)(id:Int)(O P:Nat)(v:Value)(xs:List Live)(w:World)(L:qrg w v xs)(hl:xs.length≤1000000)(Z:w.cell? ⟨O,0,none⟩=some (.bool own))(h2:w.cell? ⟨P,0,none⟩=some (.int .u64 id)) :
  Calls Tryz.prog 128 #[v,.func (.func 129) #[] #[.pointer (some ⟨O,0,none⟩),.pointer (some ⟨P,0,none⟩)]] w (qa5 (.int .i64 (qmg own id xs)) w):=by
 have f:=(qdf L).2
 obtain⟨a,cap,rfl⟩:=qaa L
 have m:∀(i:Nat) (x:Live),xs[i]? = some x→∃E,a=some ⟨E,0,none⟩∧qd3 w E 0 xs:=by
  intro i x V;have q:=(List.getElem?_eq_some_iff.1 V).1;rcases f with ⟨e,Y⟩ | ⟨E,k,e,-,I⟩
  ·rw[Y] at q;simp at q
  ·injection e with e1;exact⟨E,e1,I.toL⟩
 clear f L
 have a7:(xs.length:Int)≤1000000:=by omega
 go_enter Tryz.func128,Tryz.ntmps128
 go_wp2_with fail
 go_loopw [5,8] (fun _ N wr=>∃i:Nat,N = .int .i64 (i:Int)∧i≤xs.length∧(∀j x,j<i→xs[j]? = some x→qfr own id x=false)∧qq w wr) (fun _ N _=>xs.length-(intOf N).toNat)
 case atStart=>exact⟨0,rfl,Nat.zero_le _,fun j x h=>by omega,Upd.refl _ _⟩
 case round =>
  obtain⟨i,rfl,V,T,C⟩:=hrel;obtain⟨R,rfl⟩:∃R:World,R=wr:=⟨_,rfl⟩;have J:=qb T;clear T;by_cases q:i<xs.length
  ·obtain⟨x,z⟩:∃x,xs[i]? = some x:=⟨_,List.getElem?_eq_getElem q⟩;obtain⟨E,rfl,I⟩:=m i x z;have f:=(I.upd C (fun h=>h)).row z;rw[Nat.zero_add] at f;have a6:(i:Int)<(xs.length:Int):=by omega
   have U:=qzp own id x O P R (C.cell Z (fun h=>h)) (C.cell h2 (fun h=>h));have S:=qb z;clear I m z;go_wp2_with fail;refine U.mono ?_;rintro e w2 ⟨rfl,W⟩;have X:=C.trans W;clear U f C W;cases F:qfr own id x with
   | true =>
    go_wp2_with fail;go_ret;have K:xs.findIdx? (qfr own id)=some i:=by
     rw[List.findIdx?_eq_some_iff_getElem];refine⟨q,?_,fun j H=> ?_⟩
     ·have:=qa S;rw[List.getElem?_eq_getElem q] at this;rw[Option.some.inj this,F]
     ·have:=qa J j _ H (List.getElem?_eq_getElem (by omega));rw[this];decide
    exact⟨by unfold qmg;rw[K];rfl,X⟩
   | false =>
    go_wp2_with fail;go_roundw
    case rel =>
     refine⟨i+1,by go_num,by omega,fun j y H M=> ?_,X⟩;by_cases e:j<i
     ·exact qa J j y e M
     ·obtain rfl:j=i:=by omega
      rw[qa S] at M;rw[←Option.some.inj M];exact F
    case measure=>simp[intOf];omega
  ·obtain rfl:i=xs.length:=by omega
   clear m;go_wp2_with fail;go_ret;have K:xs.findIdx? (qfr own id)=none:=by
    rw[List.findIdx?_eq_none_iff];intro x hx;obtain⟨j,H,rfl⟩:=List.mem_iff_getElem.1 hx;exact qa J j _ H (List.getElem?_eq_getElem H)
   exact⟨by unfold qmg;rw[K];rfl,C⟩
set_option maxHeartbeats 1000000 in
theorem qn3(g:Nat)(S:Nat→Prop)(c:Ch)(own:Bool)(id:Int)(w:World)(h:ChS w g S c) :
  Calls Tryz.prog 97 #[.pointer (some ⟨g,0,none⟩),.bool own,.int .u64 id] w (qa5 (.int .i64 (qmg own id c.xs)) w):=by
 obtain⟨z,J,I,h⟩:=h
 go_enter Tryz.func97,Tryz.ntmps97
 go_upto_region 1 with fail
 have q:qq w ((w.alloc (.cells #[.bool own] 4)).alloc (.cells #[.int .u64 id] 22)):=((Upd.refl _ _).alloc _).alloc _
 have f:((w.alloc (.cells #[.bool own] 4)).alloc (.cells #[.int .u64 id] 22)).heap[w.heap.size]? = some (.cells #[.bool own] 4 (0,0)):=qs (qj _ _) _
 have i:((w.alloc (.cells #[.bool own] 4)).alloc (.cells #[.int .u64 id] 22)).heap[w.heap.size+1]? = some (.cells #[.int .u64 id] 22 (0,0)):=by
  have:=qj (w.alloc (.cells #[.bool own] 4)) (.cells #[.int .u64 id] 22);rwa [World.size_alloc] at this
 generalize (w.alloc (.cells #[.bool own] 4)).alloc (.cells #[.int .u64 id] 22)=C at q f i ⊢
 have m:=h.new q
 have F:C.cell? ⟨g,47,none⟩=some z:=m.toR.live
 have v:=fun(W:World) (n:qq C W)=>qwx own id w.heap.size (w.heap.size+1) z c.xs W (zk m.live n (fun _ _ h=>h)) h.ok.few (n.cell (qg f 0) (fun h=>h)) (n.cell (qg i 0) (fun h=>h))
 have E:=qb v
 clear v f i m
 go_wp2_with (with_reducible first|(first|refine' tw1 (qh ?_) ?_|refine' tw2 (qh ?_) ?_);rotate_left|refine' tw3 (qh ?_)|rfl|apply tn|refine' tw4 ?_)
 refine(qa E _ (Upd.refl _ _)).mono ?_
 rintro e K ⟨rfl,H⟩
 go_wp2_with (with_reducible first|(first|refine' tw1 (qh ?_) ?_|refine' tw2 (qh ?_) ?_);rotate_left|refine' tw3 (qh ?_)|rfl|apply tn|refine' tw4 ?_)
 go_ret
 exact⟨rfl,q.trans H⟩
end Go.Proofs.YtfmkdoachjgjbaaGreatDoor
namespace Go.Proofs.YtfmkdoachjgjbaaGreatDoor
open Go.RowKit
attribute [local go_sem ↓ high] zq qad qag qan qz zb zc zf
attribute [local go_sem] qbi qch qck qdg qw qaw qax qa1
def qdl(own:Bool)(id:Int)(xs:List Live):Option (Nat × Live):=match xs.findIdx? (qfr own id) with | some i=>(xs[i]?).map fun x=>(i,x) | none=>none
theorem qjz{own:Bool}{id:Int}{xs:List Live}(h:qdl own id xs=none):qmg own id xs = -1:=by
 unfold qdl at h;unfold qmg;cases e:xs.findIdx? (qfr own id) with
 | none=>rfl
 | some i =>
  rw[e] at h;have h:Option.map (fun x=>(i,x)) xs[i]? = none:=h;obtain⟨f,-⟩:=List.findIdx?_eq_some_iff_getElem.1 e;rw[List.getElem?_eq_getElem f] at h;cases h
theorem qj0{own:Bool}{id:Int}{xs:List Live}{i:Nat}{x:Live}(h:qdl own id xs=some (i,x)):qmg own id xs=(i:Int)∧xs[i]? = some x∧qfr own id x=true:=by
 unfold qdl at h;unfold qmg;cases e:xs.findIdx? (qfr own id) with
 | none=>rw[e] at h;cases h
 | some j =>
  rw[e] at h;obtain⟨f,m,-⟩:=List.findIdx?_eq_some_iff_getElem.1 e;have h:Option.map (fun x=>(j,x)) xs[j]? = some (i,x):=h;rw[List.getElem?_eq_getElem f] at h;simp only[Option.map_some,Option.some.injEq,Prod.mk.injEq] at h;obtain⟨rfl,rfl⟩:=h;exact⟨rfl,List.getElem?_eq_getElem f,m⟩
def Ch.hearShut(c:Ch):Ch × Int:=if c.k.shutHeard=true then (c,4) else ({c with k:= {c.k with shutHeard:=true}},0)
set_option maxRecDepth 100000 in
set_option maxHeartbeats 1000000 in
theorem qr9(g:Nat)(S:Nat→Prop)(c:Ch)(m:MsgV)(M:m.hash.length=32)(w:World)(h:ChS w g S c) :
  Calls Tryz.prog 181 #[.pointer (some ⟨g,0,none⟩),.agg m.cells.toArray] w fun e w' =>
   e = .returned (.tuple #[qco,.int .i64 c.hearShut.2])∧ChS w' g (Fr S w w') c.hearShut.1∧Upd S w w':=by
 obtain⟨N,O,L,h⟩:=h
 go_enter Tryz.func181,Tryz.ntmps181
 go_upto_region 1 with fail
 have i:qq w (w.alloc (.cells m.cells.toArray 101)):=(Upd.refl _ _).alloc _
 generalize w.alloc (.cells m.cells.toArray 101)=w1 at i ⊢
 have f:=h.new i
 have q:w1.cell? ⟨g,43,none⟩=some (.bool c.k.shutHeard):=f.toR.shutHeard
 have F:w1.frozen? ⟨g,43,none⟩=false:=qu f.at_ 43
 cases z:c.k.shutHeard with
 | true =>
  have v:c.hearShut=(c,4):=by unfold Ch.hearShut;rw[if_pos z]
  rw[z] at q;have C:=qb v;have J:=qb (f.fr w);have E:=qb (i.mono (T:=S) (fun _ _ h=>h.elim));clear h f i v F;go_wp2_with (with_reducible first|(first|refine' tw1 (qh ?_) ?_|refine' tw2 (qh ?_) ?_);rotate_left|refine' tw3 (qh ?_)|rfl|apply tn|refine' tw4 ?_);go_ret2;rw[qa C];exact⟨rfl,qa J,qa E⟩
 | false =>
  have v:c.hearShut=({c with k:= {c.k with shutHeard:=true}},0):=by unfold Ch.hearShut;rw[if_neg (by rw[z];decide)]
  rw[z] at q;have H:=f.putShutHeard true;have I:=qpd w1 g 43 (.bool true);have C:=qb v;have K:=qb (H.fr w);have E:=qb ((i.mono (T:=S) (fun _ _ h=>h.elim)).trans (I.mono (fun k _ e=>by rw[e];exact h.inG)));clear h f i v H I;go_wp2_with (with_reducible first|(first|refine' tw1 (qh ?_) ?_|refine' tw2 (qh ?_) ?_);rotate_left|refine' tw3 (qh ?_)|rfl|apply tn|refine' tw4 ?_);go_ret2;rw[qa C];exact⟨rfl,qa K,qa E⟩
def Ch.hearFail(c:Ch)(m:MsgV):Ch × Int:=match qdl true m.id c.xs with | none=>(c,3) | some p=>(c.removed p.1 p.2 false,0)
theorem qpm{c:Ch}{m:MsgV}(h:qdl true m.id c.xs=none):c.hearFail m=(c,3):=by unfold Ch.hearFail;rw[h]
theorem qpn{c:Ch}{m:MsgV}{i:Nat}{x:Live}(h:qdl true m.id c.xs=some (i,x)):c.hearFail m=(c.removed i x false,0):=by unfold Ch.hearFail;rw[h]
set_option maxRecDepth 100000 in
set_option maxHeartbeats 1000000 in
theorem qr6(g:Nat)(S:Nat→Prop)(c:Ch)(m:MsgV)(Z:m.hash.length=32)(w:World)(h:ChS w g S c) :
  Calls Tryz.prog 178 #[.pointer (some ⟨g,0,none⟩),.agg m.cells.toArray] w fun e w' =>
   e = .returned (.tuple #[qco,.int .i64 (c.hearFail m).2])∧ChS w' g (Fr S w w') (c.hearFail m).1∧Upd S w w':=by
 obtain⟨R,U,N,h⟩:=h
 go_enter Tryz.func178,Tryz.ntmps178
 go_upto_region 1 with fail
 have L:=qai w m Z
 have F:qq w (w.alloc (.cells m.cells.toArray 101)):=(Upd.refl _ _).alloc _
 generalize w.alloc (.cells m.cells.toArray 101)=w1 at F L ⊢
 have K:=h.new F
 obtain⟨-,-,m2,-,-,-,-⟩:=L.cells
 have P:=qn3 g S c true m.id w1 ⟨R,U,N,K⟩
 clear L
 go_wp2_with fail
 refine P.mono ?_
 rintro e w2 ⟨rfl,M⟩
 have E:=K.new M
 have f:=F.trans M
 clear P m2 K M F
 cases q:qdl true m.id c.xs with
 | none =>
  have v:=qjz q;have H:=qb (qpm q);have W:=qb (E.fr w);have I:=qb (f.mono (T:=S) (fun _ _ h=>h.elim));rw[v];clear h E f q v;go_wp2_with fail;go_ret2;rw[qa H];exact⟨rfl,qa W,qa I⟩
 | some p =>
  obtain⟨i,x⟩:=p;obtain⟨v,z,-⟩:=qj0 q;have C:=qkf g S c R U N i x false w2 E z;have H:=qb (qpn q);have Y:=qb h.inL;have I:=qb (f.mono (T:=S) (fun _ _ h=>h.elim));rw[v];clear h E f q v z;go_wp2_with fail;refine C.mono ?_;rintro e w3 ⟨rfl,O,V⟩;have X:=qb (O.fr w);have J:=qb ((qa I).trans (V.mono (T:=S) (fun k _ e=>qa Y k e)));clear C O V;go_wp2_with fail;go_ret2;rw[qa H];exact⟨rfl,qa X,qa J⟩
end Go.Proofs.YtfmkdoachjgjbaaGreatDoor
namespace Go.Proofs.YtfmkdoachjgjbaaGreatDoor
open Go.RowKit
attribute [local go_sem ↓ high] qz zb zc zf
attribute [local go_sem] qaw qax qa1 qw
set_option maxRecDepth 100000 in
set_option maxHeartbeats 1000000 in
theorem qt1(g:Nat)(S:Nat→Prop)(c:Ch)(m:MsgV)(E:MsgOk m)(w:World)(h:ChS w g S c)(q:qap m=false∨m.ch≠c.s.ch) :
  Calls Tryz.prog 107 #[.pointer (some ⟨g,0,none⟩),.agg m.cells.toArray] w (qa5 (.tuple #[qco,.int .i64 1]) w):=by
 obtain⟨P,R,M,h⟩:=h
 go_enter Tryz.func107,Tryz.ntmps107
 go_upto_region 1 with fail
 have v:=qai w m E.len
 have z:qq w (w.alloc (.cells m.cells.toArray 101)):=(Upd.refl _ _).alloc _
 generalize w.alloc (.cells m.cells.toArray 101)=w1 at z v ⊢
 generalize w.heap.size=A at v ⊢
 have I:=v.row
 have f:=fun W=>qht m E W
 have K:=qb v
 have J:=qb (h.new z)
 have H:=qb z
 clear h v z E
 cases F:qap m with
 | false =>
  rw[F] at f;go_wp2_with (with_reducible first|(first|refine' tw1 (qh ?_) ?_|refine' tw2 (qh ?_) ?_);rotate_left|refine' tw3 (qh ?_)|rfl|apply tn|refine' tw4 ?_);refine(f _).mono ?_;rintro e C ⟨rfl,i⟩;have i:qq w1 C:=i.ofDrew;clear I;go_wp2_with (with_reducible first|(first|refine' tw1 (qh ?_) ?_|refine' tw2 (qh ?_) ?_);rotate_left|refine' tw3 (qh ?_)|rfl|apply tn|refine' tw4 ?_);go_ret2;exact⟨rfl,(qa H).trans i⟩
 | true =>
  rw[F] at f;have L:¬m.ch=c.s.ch:=by
   rcases q with e | e
   ·rw[F] at e;cases e
   ·exact e
  clear q;go_wp2_with (with_reducible first|(first|refine' tw1 (qh ?_) ?_|refine' tw2 (qh ?_) ?_);rotate_left|refine' tw3 (qh ?_)|rfl|apply tn|refine' tw4 ?_);refine(f _).mono ?_;rintro e C ⟨rfl,i⟩;have i:qq w1 C:=i.ofDrew;have O:=((qa K).new i).cells.2.1;have N:C.cell? ⟨g,0,none⟩=some (.int .u32 c.s.ch):=((qa J).new i).toR.ch;clear I f;go_wp2_with (with_reducible first|(first|refine' tw1 (qh ?_) ?_|refine' tw2 (qh ?_) ?_);rotate_left|refine' tw3 (qh ?_)|rfl|apply tn|refine' tw4 ?_);go_ret2;exact⟨rfl,(qa H).trans i⟩
set_option maxRecDepth 100000 in
set_option maxHeartbeats 1000000 in
theorem q5k(F:FuncId)(g:Nat)(S:Nat→Prop)(c:Ch)(m:MsgV)(N:MsgOk m)(w:World)(h:ChS w g S c)(O:qap m=true)(M:m.ch=c.s.ch)(R:Value→Int→World→World→Prop)
  (hE:∀args w,(callFunc F args).run Tryz.prog w = .ok (.enter F args) w)
  (E:∀ {w:World} {b:Nat},qh1 w b→(Instr.lookup 241 (.map (some b)) (.int .i64 m.kind) true).run Tryz.prog w = .ok (.tuple #[.func (.func F) #[] #[],.bool true]) w)
  (hF:∀W,qq w W→Calls Tryz.prog F #[.pointer (some ⟨g,0,none⟩),.agg m.cells.toArray] W fun e w'=>∃v n,e = .returned (.tuple #[v,.int .i64 n])∧R v n W w') :
  Calls Tryz.prog 107 #[.pointer (some ⟨g,0,none⟩),.agg m.cells.toArray] w fun e w'=>∃v n W,e = .returned (.tuple #[v,.int .i64 n])∧qq w W∧R v n W w':=by
 obtain⟨lv,nv,av,h⟩:=h
 go_enter Tryz.func107,Tryz.ntmps107
 go_upto_region 1 with fail
 have C:=qai w m N.len
 have I:qq w (w.alloc (.cells m.cells.toArray 101)):=(Upd.refl _ _).alloc _
 generalize w.alloc (.cells m.cells.toArray 101)=w1 at I C ⊢
 generalize w.heap.size=A at C ⊢
 have rA:=C.row
 have f:=fun W=>qht m N W
 rw[O] at f
 have K:=qb C
 have H1:=qb (h.new I)
 have N1:=qb I
 clear h C I N
 go_wp2_with (with_reducible first|(first|refine' tw1 (qh ?_) ?_|refine' tw2 (qh ?_) ?_);rotate_left|refine' tw3 (qh ?_)|rfl|apply tn|refine' tw4 ?_)
 refine(f _).mono ?_
 rintro e J ⟨rfl,q⟩
 have q:qq w1 J:=q.ofDrew
 have X:=((qa K).new q).cells.2.1
 rw[M] at X
 have d0:J.cell? ⟨g,0,none⟩=some (.int .u32 c.s.ch):=((qa H1).new q).toR.ch
 have L:=qb q
 clear rA f q
 go_upto_region 3 with (with_reducible first|(first|refine' tw1 (qh ?_) ?_|refine' tw2 (qh ?_) ?_);rotate_left|refine' tw3 (qh ?_)|rfl|apply tn|refine' tw4 ?_)
 have Y:J.drew.cell? ⟨A,0,none⟩=some (.int .i64 m.kind):=((qa K).new (qa L)).cells.1
 have U:=@E
 clear X d0 E
 refine qa2 (fun w'=>w'.cell? ⟨A,0,none⟩=some (.int .i64 m.kind)) [2] (.of [0,1,2,3,4,5,6,7,8]) (by kernel_rfl) (by kernel_rfl) Y ?_
 simp only[Plan.of]
 go_wp2_with (with_reducible first|(first|refine' zy (qh ?_) ?_|refine' zz (qh ?_) ?_|refine' qw3 (qh ?_) ?_);rotate_left|refine' qw4 (qh ?_)|refine' qw5 (qh ?_)|rfl|apply qn)
 refine(qt4 _).mono ?_
 rintro e T ⟨b,rfl,H,Z⟩
 have H:qq J T:=H.ofDrew
 have hl:=U Z
 have i:=((qa K).new (qa L)).new H
 have z:=i.cells.1
 have P:=i.row
 have V:=qb (((qa N1).trans (qa L)).trans H)
 clear Y H Z i U
 go_wp2_with (with_reducible first|(first|refine' zy (qh ?_) ?_|refine' zz (qh ?_) ?_|refine' qw3 (qh ?_) ?_);rotate_left|refine' qw4 (qh ?_)|refine' qw5 (qh ?_)|rfl|apply qn)
 refine⟨z,?_⟩
 go_wp2_with (with_reducible first|(first|refine' zy (qh ?_) ?_|refine' zz (qh ?_) ?_|refine' qw3 (qh ?_) ?_);rotate_left|refine' qw4 (qh ?_)|refine' qw5 (qh ?_)|rfl|apply qn)
 refine(hF T (qa V)).mono ?_
 rintro e w4 ⟨v,n,rfl,hR⟩
 have HR:=qb hR
 clear P z hl hR
 go_wp2_with (with_reducible first|(first|refine' zy (qh ?_) ?_|refine' zz (qh ?_) ?_|refine' qw3 (qh ?_) ?_);rotate_left|refine' qw4 (qh ?_)|refine' qw5 (qh ?_)|rfl|apply qn)
 go_ret2
 exact⟨v,n,T,rfl,qa V,qa HR⟩
def qey(g:Nat)(S:Nat→Prop)(w:World)(c':Ch)(f:List MsgV)(n:Int)(e:Ending)(w':World):Prop :=
 ∃v,e = .returned (.tuple #[v,.int .i64 n])∧qbx w.heap.size w' v f∧ChS w' g (Fr S w w') c'∧Upd S w w'
theorem qhr(F:FuncId)(g:Nat)(S:Nat→Prop)(c c':Ch)(E:List MsgV)(n:Int)(m:MsgV)(K:MsgOk m)(w:World)(h:ChS w g S c)(C:qap m=true)(i:m.ch=c.s.ch)
  (H:∀args w,(callFunc F args).run Tryz.prog w = .ok (.enter F args) w)
  (z:∀ {w:World} {b:Nat},qh1 w b→(Instr.lookup 241 (.map (some b)) (.int .i64 m.kind) true).run Tryz.prog w = .ok (.tuple #[.func (.func F) #[] #[],.bool true]) w)
  (I:∀W,qq w W→Calls Tryz.prog F #[.pointer (some ⟨g,0,none⟩),.agg m.cells.toArray] W (qey g S W c' E n)) :
  Calls Tryz.prog 107 #[.pointer (some ⟨g,0,none⟩),.agg m.cells.toArray] w (qey g S w c' E n):=by
 refine(q5k F g S c m K w h C i (fun v k W w'=>k=n∧qbx W.heap.size w' v E∧ChS w' g (Fr S W w') c'∧Upd S W w') H z (fun W f=>(I W f).mono ?_)).mono ?_
 ·rintro e w' ⟨v,q,L⟩;exact⟨v,n,q,rfl,L⟩
 ·rintro e w' ⟨v,k,W,q,f,rfl,M,J,N⟩;exact⟨v,q,qew M f.size,J.later f.size,(f.mono (T:=S) (fun _ _ h=>h.elim)).trans N⟩
theorem q5i(g:Nat)(S:Nat→Prop)(c:Ch)(m:MsgV)(v:MsgOk m)(w:World)(h:ChS w g S c)(q:qap m=true)(i:m.ch=c.s.ch)(F:m.kind=3)(f:c.xs.length<1000000) :
  Calls Tryz.prog 107 #[.pointer (some ⟨g,0,none⟩),.agg m.cells.toArray] w (qey g S w (c.hearAdd m).1 [] (c.hearAdd m).2) :=
 qhr _ g S c _ _ _ m v w h q i (enters_of Tryz.func176 (by kernel_rfl) rfl) (fun z=>by rw[F];exact zbp z) (fun W I=>(qt0 g S c m v W (h.new I) f).mono (by
  rintro e w' ⟨E,C,H⟩;exact⟨_,E,qbx.nil _ _,C,H⟩))
theorem q00(g:Nat)(S:Nat→Prop)(c:Ch)(m:MsgV)(q:MsgOk m)(w:World)(h:ChS w g S c)(i:qap m=true)(f:m.ch=c.s.ch)(E:m.kind=5) :
  Calls Tryz.prog 107 #[.pointer (some ⟨g,0,none⟩),.agg m.cells.toArray] w (qey g S w (c.hearFail m).1 [] (c.hearFail m).2) :=
 qhr _ g S c _ _ _ m q w h i f (enters_of Tryz.func178 (by kernel_rfl) rfl) (fun v=>by rw[E];exact zbr v) (fun W H=>(qr6 g S c m q.len W (h.new H)).mono (by
  rintro e w' ⟨C,z,F⟩;exact⟨_,C,qbx.nil _ _,z,F⟩))
theorem q01(g:Nat)(S:Nat→Prop)(c:Ch)(m:MsgV)(q:MsgOk m)(w:World)(h:ChS w g S c)(i:qap m=true)(f:m.ch=c.s.ch)(E:m.kind=8) :
  Calls Tryz.prog 107 #[.pointer (some ⟨g,0,none⟩),.agg m.cells.toArray] w (qey g S w c.hearShut.1 [] c.hearShut.2) :=
 qhr _ g S c _ _ _ m q w h i f (enters_of Tryz.func181 (by kernel_rfl) rfl) (fun v=>by rw[E];exact zbu v) (fun W H=>(qr9 g S c m q.len W (h.new H)).mono (by
  rintro e w' ⟨C,z,F⟩;exact⟨_,C,qbx.nil _ _,z,F⟩))
theorem qt2(g:Nat)(S:Nat→Prop)(c:Ch)(m:MsgV)(v:MsgOk m)(w:World)(h:ChS w g S c)(q:qap m=true)(i:m.ch=c.s.ch)(J:m.kind=7)(f:qvs c)(F:Tb w)(E:Apart S) :
  Calls Tryz.prog 107 #[.pointer (some ⟨g,0,none⟩),.agg m.cells.toArray] w (qey g S w (c.hearRevoke m).1 [] (c.hearRevoke m).2) :=
 qhr _ g S c _ _ _ m v w h q i (enters_of Tryz.func180 (by kernel_rfl) rfl) (fun C=>by rw[J];exact zbt C) (fun W z=>(qoh g S c m v W (h.new z) f (F.new z) E).mono (by
  rintro e w' ⟨I,H,K⟩;exact⟨_,I,qbx.nil _ _,H,K⟩))
theorem q02(g:Nat)(S:Nat→Prop)(c:Ch)(m:MsgV)(F:MsgOk m)(w:World)(h:ChS w g S c)(C:qap m=true)(i:m.ch=c.s.ch)(N:m.kind=6)(K:Tb w)(J:Apart S)(z:c.s.peer.size≤100000000)(f:0≤c.s.ch∧c.s.ch<4294967296)(q:c.k.heard<4294967295)(E:c.xs.length≤16) :
  Calls Tryz.prog 107 #[.pointer (some ⟨g,0,none⟩),.agg m.cells.toArray] w (qey g S w (c.hearSign m).1 (c.hearSign m).2.1 (c.hearSign m).2.2) :=
 qhr _ g S c _ _ _ m F w h C i (enters_of Tryz.func179 (by kernel_rfl) rfl) (fun I=>by rw[N];exact zbs I) (fun W H=>(qsa g S c m F W (h.new H) (K.new H) J z f q E).mono (by
  rintro e w' ⟨v,M,O,L,P⟩;exact⟨v,M,O,L,P⟩))
end Go.Proofs.YtfmkdoachjgjbaaGreatDoor
namespace Go.Proofs.YtfmkdoachjgjbaaGreatDoor
open Go.RowKit
structure Two(w0 w:World)(gA gB:Nat)(SA SB:Nat→Prop)(a b:Ch):Prop where
 A:ChS w gA SA a
 B:ChS w gB SB b
 geA:∀k,SA k→w0.heap.size≤k
 geB:∀k,SB k→w0.heap.size≤k
 sep:∀k,SA k→¬SB k
 n:qq w0 w
section
variable {w0 w w':World}{gA gB:Nat}{SA SB:Nat→Prop}{a b a' b':Ch}
theorem Two.new(h:Two w0 w gA gB SA SB a b)(u:qq w w'):Two w0 w' gA gB SA SB a b:=⟨h.A.new u,h.B.new u,h.geA,h.geB,h.sep,h.n.trans u⟩
theorem Two.swap(h:Two w0 w gA gB SA SB a b):Two w0 w gB gA SB SA b a:=⟨h.B,h.A,h.geB,h.geA,fun k i f=>h.sep k f i,h.n⟩
structure Off(w:World)(SA SB:Nat→Prop)(K:Nat):Prop where
 lt:K<w.heap.size
 a:¬SA K
 b:¬SB K
theorem Off.new{K:Nat}(h:Off w SA SB K)(u:w.heap.size≤w'.heap.size):Off w' SA SB K:=⟨by have:=h.lt;omega,h.a,h.b⟩
theorem Off.fresh{K:Nat}(h:Two w0 w gA gB SA SB a b)(i:w.heap.size≤K)(f:K<w'.heap.size):Off w' SA SB K :=
 ⟨f,fun k=>by have:=h.A.lt K k;omega,fun k=>by have:=h.B.lt K k;omega⟩
theorem Two.put{K:Nat}(h:Two w0 w gA gB SA SB a b)(o:Off w SA SB K)(m:w0.heap.size≤K)(u:Upd (· = K) w w'):Two w0 w' gA gB SA SB a b :=
 ⟨h.A.upd u (fun k f e=>o.a (e▸f)),h.B.upd u (fun k f e=>o.b (e▸f)),h.geA,h.geB,h.sep,h.n.then u (fun i q e=>by omega)⟩
end
theorem qxn(g:Nat)(S:Nat→Prop)(c:Ch)(n:Int)(h:List Int)(ex:Int)(w:World)(q:ChS w g S c)(i:h.length=32)(m:qbp h)(v:0≤n∧n<18446744073709551616)(z : -9223372036854775808≤ex∧ex≤9223372036854775807)(f:c.news.length<1000000∧c.xs.length<1000000) :
  Calls Tryz.prog 47 #[.pointer (some ⟨g,0,none⟩),.int .u64 n,.agg (qv h).toArray,.int .i64 ex] w fun e w' =>
   e = .returned (.tuple #[.agg (c.offer n (qa6 h) ex).2.1.cells.toArray,.int .i64 (c.offer n (qa6 h) ex).2.2])∧ChS w' g (Fr S w w') (c.offer n (qa6 h) ex).1∧Upd S w w':=by
 have:=q1q g S c n (qa6 h) ex w q v z (by rw[qdz i];exact m) f
 rw[qdz i] at this
 exact this
theorem qqm(g:Nat)(S:Nat→Prop)(c:Ch)(w:World)(h:ChS w g S c):Calls Tryz.prog 20 #[.pointer (some ⟨g,0,none⟩)] w fun e w'=>∃u,e = .returned u∧qq w w'∧((∃a k,u = .slice a 0 k∧c.xs=[])∨∃f cap,u = .slice (some ⟨f,0,none⟩) c.xs.length cap∧w.heap.size≤f∧qds w' f 0 c.xs):=by
 obtain⟨m,q,i,h⟩:=h;exact q54 g _ c.xs (by have:=h.ok.few;omega) w h.toI
theorem qbx.row0{base:Nat}{w:World}{v:Value}{m:MsgV}{i:List MsgV}(h:qbx base w v (m::i))(C:m.hash.length=32):∃g cap,v = .slice (some ⟨g,0,none⟩) (m::i).length cap∧base≤g∧zg w g 0 38=some m.cells.toArray∧g<w.heap.size:=by
 rcases h.2 with ⟨e,E⟩ | ⟨g,cap,f,e,F,z,H,_,I,K⟩
 ·simp at E
 ·refine⟨g,cap,e,F,?_,zr z⟩;have J:38≤f.size:=by rw[I];simp at H;omega
  rw[qbt z 0 38 (by omega)];congr 1;apply Array.ext';rw[Array.toList_extract,List.extract_eq_take_drop,List.drop_zero];have q:(f.toList.take ((m::i).length*38)).take 38=((m::i).flatMap MsgV.cells).take 38:=by rw[K]
  rw[List.take_take,Nat.min_eq_left (by rw[List.length_cons];omega)] at q;show f.toList.take 38=m.cells;rw[q,List.flatMap_cons,List.take_append_of_le_length (by rw[m.len C];exact Nat.le_refl _),List.take_of_length_le (by rw[m.len C];exact Nat.le_refl _)]
theorem q0i(a b:Int)(w:World):(Instr.field 59 (.agg #[.int .u64 a,.int .u64 b]) 0).run Tryz.prog w = .ok (.int .u64 a) w:=by kernel_rfl
theorem q0j(a b:Int)(w:World):(Instr.field 59 (.agg #[.int .u64 a,.int .u64 b]) 1).run Tryz.prog w = .ok (.int .u64 b) w:=by kernel_rfl
theorem qi8(key:ByteArray)(ch n l r:Int)(xs:List Live):qbe true key ch n r l (xs.map qek)=qbe false key ch n l r xs:=by
 have f:=qw0 false xs;have i:=q2u false l r xs;unfold qbe qi6 qi7;simp only[Bool.not_false] at f i;rw[f,i];rfl
structure Lk where
 c:Ch
 j:Jo
 rest:ByteArray
 out:ByteArray
 ev:Value
 ticks:Int
 dead:Bool
 broken:Bool
 waits:Bool
def Lk.v(l:Lk)(sp en lo:Nat):LinkV:=⟨sp,en,lo,l.out,l.ev,l.ticks,l.dead,l.broken,l.waits⟩
structure LkP(w:World)(g:Nat)(S:Nat→Prop)(l:Lk)(sp en lo:Nat)(SC SJ:Nat→Prop):Prop where
 at_:LkR w g (l.v sp en lo)
 spl:SpR w sp l.rest
 chn:ChS w en SC l.c
 jou:JoS w lo SJ l.j
 inG:S g
 inS:S sp
 inC:∀k,SC k→S k
 inJ:∀k,SJ k→S k
 gC:¬SC g
 gJ:¬SJ g
 sC:¬SC sp
 sJ:¬SJ sp
 cJ:∀k,SC k→¬SJ k
 lt:∀k,S k→k<w.heap.size
def LkS(w:World)(g:Nat)(S:Nat→Prop)(l:Lk):Prop:=∃sp en lo SC SJ,LkP w g S l sp en lo SC SJ
section
variable {w w':World}{g:Nat}{S T:Nat→Prop}{l:Lk}{sp en lo:Nat}{SC SJ:Nat→Prop}
theorem LkP.upd(h:LkP w g S l sp en lo SC SJ)(u:Upd T w w')(hd:∀k,S k→¬T k):LkP w' g S l sp en lo SC SJ :=
 ⟨u.old h.at_ (hd g h.inG),u.old h.spl (hd sp h.inS),h.chn.upd u (fun k f=>hd k (h.inC k f)),h.jou.upd u (fun k f=>hd k (h.inJ k f)),h.inG,h.inS,h.inC,h.inJ,h.gC,h.gJ,h.sC,h.sJ,h.cJ,fun k f=>Nat.lt_of_lt_of_le (h.lt k f) u.size⟩
theorem LkS.upd(h:LkS w g S l)(u:Upd T w w')(hd:∀k,S k→¬T k):LkS w' g S l:=by
 obtain⟨sp,en,lo,SC,SJ,h⟩:=h;exact⟨sp,en,lo,SC,SJ,h.upd u hd⟩
theorem LkS.new(h:LkS w g S l)(u:qq w w'):LkS w' g S l:=h.upd u (fun _ _ h=>h)
theorem LkP.new(h:LkP w g S l sp en lo SC SJ)(u:qq w w'):LkP w' g S l sp en lo SC SJ:=h.upd u (fun _ _ h=>h)
theorem LkS.lt(h:LkS w g S l):∀k,S k→k<w.heap.size:=by
 obtain⟨sp,en,lo,SC,SJ,h⟩:=h;exact h.lt
theorem LkP.ne(h:LkP w g S l sp en lo SC SJ):g≠sp:=qay h.at_ h.spl (by decide)
theorem LkP.wider(h:LkP w g S l sp en lo SC SJ)(f:∀k,S k→T k)(i:∀k,T k→k<w.heap.size):LkP w g T l sp en lo SC SJ :=
 ⟨h.at_,h.spl,h.chn,h.jou,f g h.inG,f sp h.inS,fun k e=>f k (h.inC k e),fun k e=>f k (h.inJ k e),h.gC,h.gJ,h.sC,h.sJ,h.cJ,i⟩
theorem LkP.chan(h:LkP w g S l sp en lo SC SJ)(u:Upd SC w w'){c':Ch}(q:ChS w' en (Fr SC w w') c'):LkP w' g (Fr S w w') {l with c:=c'} sp en lo (Fr SC w w') SJ:=by
 have i:∀k,Fr SC w w' k→k<w.heap.size→SC k:=fun k f v=>f.elim id (fun e=>by omega)
 refine⟨u.old h.at_ h.gC,u.old h.spl h.sC,q,h.jou.upd u (fun k f e=>h.cJ k e f),.inl h.inG,.inl h.inS,?_,fun k f=> .inl (h.inJ k f),?_,h.gJ,?_,h.sJ,?_,?_⟩
 ·rintro k (f | f)
  ·exact .inl (h.inC k f)
  ·exact .inr f
 ·exact fun e=>h.gC (i g e (h.lt g h.inG))
 ·exact fun e=>h.sC (i sp e (h.lt sp h.inS))
 ·exact fun k f m=>h.cJ k (i k f (h.jou.lt k m)) m
 ·rintro k (f | f)
  ·exact Nat.lt_of_lt_of_le (h.lt k f) u.size
  ·exact f.2
theorem LkP.jour(h:LkP w g S l sp en lo SC SJ)(u:Upd SJ w w'){m:Jo}(q:JoS w' lo (Fr SJ w w') m):LkP w' g (Fr S w w') {l with j:=m} sp en lo SC (Fr SJ w w'):=by
 have i:∀k,Fr SJ w w' k→k<w.heap.size→SJ k:=fun k f z=>f.elim id (fun e=>by omega)
 refine⟨u.old h.at_ h.gJ,u.old h.spl h.sJ,h.chn.upd u (fun k f e=>h.cJ k f e),q,.inl h.inG,.inl h.inS,fun k f=> .inl (h.inC k f),?_,h.gC,?_,h.sC,?_,?_,?_⟩
 ·rintro k (f | f)
  ·exact .inl (h.inJ k f)
  ·exact .inr f
 ·exact fun e=>h.gJ (i g e (h.lt g h.inG))
 ·exact fun e=>h.sJ (i sp e (h.lt sp h.inS))
 ·exact fun k f v=>h.cJ k f (i k v (h.chn.lt k f))
 ·rintro k (f | f)
  ·exact Nat.lt_of_lt_of_le (h.lt k f) u.size
  ·exact f.2
theorem LkP.put(h:LkP w g S l sp en lo SC SJ){i:Nat}{x:Value}{l':Lk}(q:(l.v sp en lo).cells.toArray.setIfInBounds i x=(l'.v sp en lo).cells.toArray)(C:l'.rest=l.rest)(m:l'.c=l.c)(z:l'.j=l.j) :
  LkP (w.setCell ⟨g,i,none⟩ x) g S l' sp en lo SC SJ:=by
 have u:Upd (· = g) w (w.setCell ⟨g,i,none⟩ x):=(Upd.refl _ _).set1 i x
 refine⟨?_,?_,?_,?_,h.inG,h.inS,h.inC,h.inJ,h.gC,h.gJ,h.sC,h.sJ,h.cJ,fun k f=>Nat.lt_of_lt_of_le (h.lt k f) u.size⟩
 ·have:=zv h.at_ i x;rw[q] at this;exact this
 ·rw[C];exact u.old h.spl (fun e=>h.ne e.symm)
 ·rw[m];exact h.chn.upd u (fun k f e=>h.gC (e▸f))
 ·rw[z];exact h.jou.upd u (fun k f e=>h.gJ (e▸f))
end
theorem LkP.put_out{w:World}{g:Nat}{S:Nat→Prop}{l:Lk}{sp en lo:Nat}{SC SJ:Nat→Prop}(h:LkP w g S l sp en lo SC SJ)(s:ByteArray):LkP (w.setCell ⟨g,3,none⟩ (.string s)) g S {l with out:=s} sp en lo SC SJ:=h.put rfl rfl rfl rfl
theorem LkP.put_ticks{w:World}{g:Nat}{S:Nat→Prop}{l:Lk}{sp en lo:Nat}{SC SJ:Nat→Prop}(h:LkP w g S l sp en lo SC SJ)(n:Int):LkP (w.setCell ⟨g,5,none⟩ (.int .i64 n)) g S {l with ticks:=n} sp en lo SC SJ:=h.put rfl rfl rfl rfl
theorem LkP.put_dead{w:World}{g:Nat}{S:Nat→Prop}{l:Lk}{sp en lo:Nat}{SC SJ:Nat→Prop}(h:LkP w g S l sp en lo SC SJ)(b:Bool):LkP (w.setCell ⟨g,6,none⟩ (.bool b)) g S {l with dead:=b} sp en lo SC SJ:=h.put rfl rfl rfl rfl
def Lk.new(c:Ch):Lk:=⟨c,.new,⟨#[]⟩,⟨#[]⟩,qco,0,false,false,false⟩
set_option maxRecDepth 100000 in
set_option maxHeartbeats 1000000 in
theorem qcv(n f:Nat)(w:World)(m:1≤f)(q:f≤8)(F:n<2 ^ (8*f)) :
  Calls Tryz.prog 48 #[.int .u64 n,.int .i64 f] w (qa5 (.string (qx n f)) w):=by
 go_enter Tryz.func48,Tryz.ntmps48
 go_upto_region 2 with fail
 have b1:Wr (w.alloc (.cells #[.string ⟨#[]⟩] 174)) w.heap.size ⟨#[]⟩:=qj _ _
 have z:qq w (w.alloc (.cells #[.string ⟨#[]⟩] 174)):=(Upd.refl _ _).alloc _
 have I:¬w.heap.size<w.heap.size:=Nat.lt_irrefl _
 generalize w.alloc (.cells #[.string ⟨#[]⟩] 174)=w1 at b1 z ⊢
 have N:=qb z
 have M:=qb I
 generalize E:w.heap.size=B at b1 M ⊢
 have K:=qb E
 clear z E I
 have C:(⟨#[]⟩:ByteArray)++qx n f=qx n f:=ByteArray.empty_append
 have i:=qdn B n f ⟨#[]⟩ w1 b1 m q F (by show (0:Nat)≤_;omega)
 rw[C] at i
 generalize H:qx n f=v at i
 have L:=qb H
 clear C b1 F m q H
 go_wp2_with fail
 refine i.mono ?_
 rintro e U ⟨rfl,J,P⟩
 have O:=qb ((qa N).then J (fun k R e=>by have:=qa K;omega))
 clear i J
 go_wp2_with fail
 refine(qft _ _ _ P).mono ?_
 rintro e V ⟨rfl,rfl⟩
 go_wp2_with fail
 go_ret
 exact⟨by rw[qa L];rfl,qa O⟩
attribute [local go_sem ↓ high] zq qad qag
attribute [local go_sem] qbi qch qck qw
set_option maxRecDepth 100000 in
set_option maxHeartbeats 1000000 in
theorem qjh(h:List Int)(w:World)(H:h.length=32) :
  Calls Tryz.prog 49 #[.agg (qv h).toArray] w (qa5 (.string (strOfNums h)) w):=by
 go_enter Tryz.func49,Tryz.ntmps49
 go_upto_region 1 with fail
 have z:=qj w (.cells (qv h).toArray 35)
 have E:qq w (w.alloc (.cells (qv h).toArray 35)):=(Upd.refl _ _).alloc _
 generalize w.alloc (.cells (qv h).toArray 35)=w1 at z E ⊢
 generalize w.heap.size=B at z ⊢
 have C:(convert 95 9 (.slice (some ⟨B,0,none⟩) 32 32)).run Tryz.prog w1 = .ok (.string (strOfNums h)) w1:=by
  refine run_convert_bytes_arg w1 95 5 Tryz.underlying95 Tryz.underlying5 B 0 32 32 h H (fun i I=> ?_) 9 Tryz.underlying9;have f:i<h.length:=by omega
  rw[Nat.zero_add,qg z i,List.getElem?_toArray];unfold qv;rw[List.getElem?_map,List.getElem?_eq_getElem f];simp[List.getD,List.getElem?_eq_getElem f]
 generalize m:strOfNums h=q at C
 have v:=qb m
 clear m
 have F:=qb E
 clear E
 go_wp2_with fail
 go_ret
 exact⟨by rw[qa v];rfl,qa F⟩
end Go.Proofs.YtfmkdoachjgjbaaGreatDoor
namespace Go.Proofs.YtfmkdoachjgjbaaGreatDoor
open Go.RowKit
def zdc(n:Nat):Nat:=if n=156 then 114 else if n=165 then 150 else if n=166 then 125 else if n=169 then 151 else if n=240 then 163 else if n=241 then 184 else if n=276 then 195 else if n=277 then 207 else n
def zde(n:Nat):Nat:=if n=0 then 0 else if n=3 then 3 else if n=4 then 4 else if n=5 then 5 else if n=9 then 9 else if n=20 then 20 else if n=31 then 163 else if n=37 then 95 else if n=70 then 209 else if n=72 then 211 else if n=75 then 217 else if n=76 then 218 else if n=80 then 100 else if n=127 then 279 else if n=164 then 292 else n
def zcr:Go.Shelf.Ren:=⟨zdc,zde,fun n=>n⟩
theorem zdd:Lays.n156 Tryz.prog zcr where
 mixed:=by kernel_rfl
 f156:=by kernel_rfl
 f165:=by kernel_rfl
 f166:=by kernel_rfl
 f169:=by kernel_rfl
 f240:=by kernel_rfl
 f241:=by kernel_rfl
 f276:=by kernel_rfl
 f277:=by kernel_rfl
 t0:=Tryz.underlying0
 a0:=Tryz.isAgg0
 z0:=Tryz.sizeOf0
 v0:=Tryz.zeroValue0
 t3:=Tryz.underlying3
 a3:=Tryz.isAgg3
 z3:=Tryz.sizeOf3
 v3:=Tryz.zeroValue3
 t4:=Tryz.underlying4
 a4:=Tryz.isAgg4
 z4:=Tryz.sizeOf4
 v4:=Tryz.zeroValue4
 t9:=Tryz.underlying9
 a9:=Tryz.isAgg9
 z9:=Tryz.sizeOf9
 v9:=Tryz.zeroValue9
 t20:=Tryz.underlying20
 a20:=Tryz.isAgg20
 z20:=Tryz.sizeOf20
 v20:=Tryz.zeroValue20
 t31:=Tryz.underlying163
 a31:=Tryz.isAgg163
 z31:=Tryz.sizeOf163
 v31:=Tryz.zeroValue163
 t37:=Tryz.underlying95
 a37:=Tryz.isAgg95
 z37:=Tryz.sizeOf95
 v37:=Tryz.zeroValue95
 t70:=Tryz.underlying209
 a70:=Tryz.isAgg209
 z70:=Tryz.sizeOf209
 v70:=Tryz.zeroValue209
 t72:=Tryz.underlying211
 a72:=Tryz.isAgg211
 z72:=Tryz.sizeOf211
 v72:=Tryz.zeroValue211
 t75:=Tryz.underlying217
 a75:=Tryz.isAgg217
 z75:=Tryz.sizeOf217
 v75:=Tryz.zeroValue217
 t76:=Tryz.underlying218
 a76:=Tryz.isAgg218
 z76:=Tryz.sizeOf218
 v76:=Tryz.zeroValue218
 t127:=Tryz.underlying279
 a127:=Tryz.isAgg279
 z127:=Tryz.sizeOf279
 v127:=Tryz.zeroValue279
 t164:=Tryz.underlying292
 a164:=Tryz.isAgg292
 z164:=Tryz.sizeOf292
 v164:=Tryz.zeroValue292
theorem zdf:Builder.Extra Tryz.prog zcr where
 sizeBuilder:=by kernel_rfl
 liesBuilder:=by kernel_rfl
 t5:=Tryz.underlying5
 a5:=Tryz.isAgg5
 z5:=Tryz.sizeOf5
 v5:=Tryz.zeroValue5
 infoByte:=by kernel_rfl
 cellsByte:=by kernel_rfl
 sizeByte:=by kernel_rfl
 neB5:=by decide
def zx:List ByteArray→ByteArray
 | []=>⟨#[]⟩
 | x::r=>x++zx r
theorem qqg{α:Type} : ∀f:List (List α),([]:List α).intercalate f=f.flatten
 | []=>rfl
 | [x]=>by rw[List.intercalate_singleton];simp
 | x::y::r=>by rw[List.intercalate_cons_cons,qqg (y::r)];simp
theorem q5t(xs:List ByteArray):(⟨(Lib.join (xs.map (·.data.toList)) []).toArray⟩:ByteArray)=zx xs:=by
 unfold Lib.join;rw[qqg]
 induction xs with
 | nil=>rfl
 | cons x r f =>
  rw[List.map_cons,List.flatten_cons,zx,←f];apply ByteArray.ext;simp[ByteArray.data_append]
theorem qt8(b:Nat)(xs:List ByteArray)(w:World)(i:∀j x,xs[j]? = some x→w.cell? ⟨b,j,none⟩=some (.string x))(f:b<w.heap.size)(v:xs.length≤1000)(q:(zx xs).size≤1000000000) :
  Calls Tryz.prog 114 #[.slice (some ⟨b,0,none⟩) xs.length xs.length,.string ⟨#[]⟩] w (qa5 (.string (zx xs)) w):=by
 have e:=q5t xs
 refine(Any.strings_Join zdd zdf b 0 xs.length xs ⟨#[]⟩ w (fun j x h=>by rw[Nat.zero_add];exact i j x h) f (by omega) (Nat.le_refl _) ?_).mono ?_
 ·have:(Lib.join (xs.map (·.data.toList)) []).length=(zx xs).size:=by rw[←e];simp[ByteArray.size]
  show (Lib.join (xs.map (·.data.toList)) []).length≤_;omega
 ·rintro r w' ⟨rfl,m⟩;exact⟨congrArg (fun s=>Ending.returned (Value.string s)) e,Upd.of_below m (Nat.le_refl _)⟩
end Go.Proofs.YtfmkdoachjgjbaaGreatDoor
