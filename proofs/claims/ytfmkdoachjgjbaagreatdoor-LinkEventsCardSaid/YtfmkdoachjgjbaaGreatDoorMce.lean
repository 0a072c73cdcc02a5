/-
  A cell set within a row of lives; remove.
-/
import Derived.Test.YtfmkdoachjgjbaaGreatDoorMaj
import Derived.Test.YtfmkdoachjgjbaaGreatDoorMbd
import Derived.Test.YtfmkdoachjgjbaaGreatDoorMbi
import Derived.Test.YtfmkdoachjgjbaaGreatDoorHsg
import Derived.Test.YtfmkdoachjgjbaaGreatDoorMbg
import Derived.Test.YtfmkdoachjgjbaaGreatDoorRows
import Derived.Test.YtfmkdoachjgjbaaGreatDoorMaa
import Derived.Shelf.Strings.OnBuilder
set_option maxRecDepth 100000
set_option maxHeartbeats 1000000
set_option linter.unusedVariables false
set_option linter.unusedSimpArgs false
namespace Go.Proofs.YtfmkdoachjgjbaaGreatDoor
section
open Go.RowKit
theorem qoj{α:Type}(f:α→List Value)(k:Nat)(m:∀x,(f x).length=k):∀(X:List α) (i j:Nat) (x y:α) (u:Value),X[i]? = some x→j<k→f y=(f x).set j u→(X.set i y).flatMap f=(X.flatMap f).set (i*k+j) u
 | [],i,j,x,y,u,h,_,_=>by simp at h
 | z::X,0,j,x,y,u,h,q,r=>by
  have:z=x:=by simpa using h
  subst this;rw[List.set_cons_zero,List.flatMap_cons,List.flatMap_cons,r,Nat.zero_mul,Nat.zero_add,List.set_append_left _ _ (by rw[m];exact q)]
 | z::X,i+1,j,x,y,u,h,q,r=>by
  rw[List.set_cons_succ,List.flatMap_cons,List.flatMap_cons,qoj f k m X i j x y u (by simpa using h) q r,List.set_append_right _ _ (by rw[m,Nat.succ_mul];omega),m];congr 2;rw[Nat.succ_mul];omega
theorem qu3{α:Type}(f:α→List Value)(k:Nat)(E:∀x,(f x).length=k){w:World}{base:Nat}{T:TypeId}{v:Value}{X:List α}(h:w.ownsRow base T k v X.length (X.flatMap f)){i j:Nat}{x y:α}{u:Value}(z:X[i]? = some x)(H:j<k)(I:f y=(f x).set j u){g:Nat}(F:v.ownBlock=some g) :
  (w.setCell ⟨g,i*k+j,none⟩ u).ownsRow base T k v (X.set i y).length ((X.set i y).flatMap f):=by
 have L:=(List.getElem?_eq_some_iff.1 z).1
 rcases h.2 with ⟨e,P⟩ | ⟨C,cap,m,e,J,q,K,O,M,N⟩
 ·omega
 ·rw[e] at F;have r:C=g:=by simpa [Value.ownBlock] using F
  subst r;rw[List.length_set];refine⟨?_,.inr ⟨C,cap,m.setIfInBounds (i*k+j) u,e,J,qad q _ _,K,O,by rw[Array.size_setIfInBounds];exact M,?_⟩⟩
  ·rw[qoj f k E X i j x y u z H I,List.length_set];exact h.1
  ·rw[qoj f k E X i j x y u z H I,←N,Array.toList_setIfInBounds,List.take_set]
theorem qxo(x:Live)(s:Int):qo {x with state:=s} = (qo x).set 36 (.int .i64 s):=by
 unfold qo;rw[List.set_append_right _ _ (by rw[qbj];omega),qbj];rfl
theorem qxp(x:Live)(p:Bool):qo {x with paid:=p} = (qo x).set 37 (.bool p):=by
 unfold qo;rw[List.set_append_right _ _ (by rw[qbj];omega),qbj];rfl
def Ch.removed(c:Ch)(i:Nat)(x:Live)(paid:Bool):Ch:= {c with xs:=c.xs.set i {x with state:=5,paid:=paid}}
theorem qh9(g:Nat)(S:Nat→Prop)(c:Ch)(r nv V:Value)(i:Nat)(x:Live)(paid:Bool)(w:World)(h:ChP w g S c r nv V)(O:c.xs[i]? = some x) :
  Calls Tryz.prog 98 #[.pointer (some ⟨g,0,none⟩),.int .i64 i,.bool paid] w fun e w'=>e = .returned (.tuple #[])∧ChP w' g S (c.removed i x paid) r nv V∧Upd (fun k=>r.ownBlock=some k) w w':=by
 have J:=(List.getElem?_eq_some_iff.1 O).1
 have W:w.drew.cell? ⟨g,47,none⟩=some r:=h.toR.live
 obtain⟨f,cap,K,q⟩:∃f cap,r = .slice (some ⟨f,0,none⟩) c.xs.length cap∧r.ownBlock=some f:=by
  rcases h.live.2 with ⟨e,e0⟩ | ⟨g',cap,F,e,_⟩
  ·omega
  ·exact⟨g',cap,e,by rw[e];rfl⟩
 obtain⟨F,m⟩:=qa3 h.live f q
 have C:=(qdl h.live).2
 have L:zf w f (i*38) 38=some (qo x).toArray:=by
  rcases C with ⟨e,e0⟩ | ⟨g',a6,e,-,hh⟩
  ·rw[e0] at J;simp at J
  ·rw[K] at e;injection e with e1 e2 e3;injection e1 with e1;injection e1 with e1;have:=hh.row O;rw[Nat.zero_add,←e1] at this;exact this
 have b4:w.drew.cell? ⟨f,i*38+36,none⟩=some (.int .i64 x.state):=by
  have:=(qfx L).2 36 (by omega);rw[List.getElem?_toArray,qfp] at this;exact this
 have N:w.drew.cell? ⟨f,i*38+37,none⟩=some (.bool x.paid):=by
  have:=(qfx L).2 37 (by omega);rw[List.getElem?_toArray,qns] at this;exact this
 have u1:Upd (· = f) w (w.setCell ⟨f,i*38+36,none⟩ (.int .i64 5)).drew:=((Upd.refl _ _).set1 _ _).drew
 have X:g≠f:=qbe h.at_ m (by decide)
 have R:(w.setCell ⟨f,i*38+36,none⟩ (.int .i64 5)).drew.ownsRow 0 69 38 r (c.xs.set i {x with state:=5}).length ((c.xs.set i {x with state:=5}).flatMap qo):=qu3 qo 38 qbo h.live O (by omega) (qxo x 5) q
 have P:(c.xs.set i {x with state:=5})[i]? = some {x with state:=5} := by rw[List.getElem?_set_self J]
 have b5:w.drew.frozen? ⟨f,i*38+36,none⟩=false:=qv m _
 have H:(w.setCell ⟨f,i*38+36,none⟩ (.int .i64 5)).drew.heap[f]? = some (.cells (F.setIfInBounds (i*38+36) (.int .i64 5)) 69 (0,0)):=qad m _ _
 have a8:(w.setCell ⟨f,i*38+36,none⟩ (.int .i64 5)).drew.cell? ⟨f,i*38+37,none⟩=some (.bool x.paid):=by
  have e:w.cell? ⟨f,i*38+37,none⟩=F[i*38+37]? := qg m _;have e2:w.cell? ⟨f,i*38+37,none⟩=some (.bool x.paid):=N;rw[qg H,Array.getElem?_setIfInBounds_ne (by omega),←e,e2]
 have b3:(w.setCell ⟨f,i*38+36,none⟩ (.int .i64 5)).drew.frozen? ⟨f,i*38+37,none⟩=false:=qv H _
 have I:=qu3 qo 38 qbo R P (show 37<38 by omega) (qxp {x with state:=5} paid) q
 rw[List.set_set] at I
 have M:Upd (· = f) w ((w.setCell ⟨f,i*38+36,none⟩ (.int .i64 5)).drew.setCell ⟨f,i*38+37,none⟩ (.bool paid)):=u1.set1 _ _
 have z:ChP ((w.setCell ⟨f,i*38+36,none⟩ (.int .i64 5)).drew.setCell ⟨f,i*38+37,none⟩ (.bool paid)) g S (c.removed i x paid) r nv V:=by
  have E:∀ {v:Value} {n:Nat} {xs:List Value},w.ownsRow 0 101 38 v n xs→∀k,v.ownBlock=some k→¬k=f:=by
   intro v n xs hr k Y e;obtain⟨a7,hc⟩:=qa3 hr k Y;exact qbe hc m (by decide) e
  have Z:=h.ok.xs x (List.mem_of_getElem? O);refine⟨M.old h.at_ X,⟨h.ok.s,h.ok.signed,h.ok.heard,h.ok.nextOwn,h.ok.nextTheirs,h.ok.loc,h.ok.rem,?_,?_,h.ok.shelf,h.ok.news,h.ok.last,h.ok.many⟩,I,qac h.news M (E h.news),qac h.last M (E h.last),h.inG,h.inL,h.inN,h.inA,h.sep,fun k Y=>Nat.lt_of_lt_of_le (h.lt k Y) M.size⟩
  ·intro y U;rcases List.mem_or_eq_of_mem_set U with U | U
   ·exact h.ok.xs y U
   ·rw[U];exact⟨Z.h,show (-9223372036854775808:Int)≤5 by decide,show (5:Int)≤9223372036854775807 by decide⟩
  ·show (c.xs.set i _).length≤1000000;rw[List.length_set];exact h.ok.few
 have HF:=qb z
 have HU:=qb (M.mono (T:=fun k=>r.ownBlock=some k) (fun k _ e=>by rw[e];exact q))
 have b6:(i:Int)<(c.xs.length:Int):=by omega
 rw[K] at W
 clear h C L N R P I H m u1 M z K q O
 go_enter Tryz.func98,Tryz.ntmps98
 go_wp2_with (with_reducible first|(first|refine' tw1 (qh ?_) ?_|refine' tw2 (qh ?_) ?_);rotate_left|refine' tw3 (qh ?_)|rfl|apply tn|refine' tw4 ?_)
 go_end0
 exact⟨rfl,qa HF,qa HU⟩
attribute [local go_sem ↓ high] qbf
attribute [local go_sem] qdo qx
def qf1(own:Bool)(id:Int)(x:Live):Bool:=x.own==own&&(x.h.id==id&&x.state==4)
theorem qz1(own:Bool)(id:Int)(x:Live)(z C:Nat)(w:World)(r:w.cell? ⟨z,0,none⟩=some (.bool own))(v:w.cell? ⟨C,0,none⟩=some (.int .u64 id)) :
  Calls Tryz.prog 129 #[.agg (qo x).toArray,.pointer (some ⟨z,0,none⟩),.pointer (some ⟨C,0,none⟩)] w (qa7 (.bool (qf1 own id x)) w):=by
 go_enter Tryz.func129,Tryz.ntmps129
 go_upto_region 1 with fail
 have i:(w.alloc (.cells (qo x).toArray 69)).heap[w.heap.size]? = some (.cells (qo x).toArray 69 (0,0)):=qj _ _
 have f:qq w (w.alloc (.cells (qo x).toArray 69)):=(Upd.refl _ _).alloc _
 generalize w.alloc (.cells (qo x).toArray 69)=w1 at i f ⊢
 replace r:=f.cell r (fun h=>h)
 replace v:=f.cell v (fun h=>h)
 have E:w1.cell? ⟨w.heap.size,35,none⟩=some (.bool x.own):=by rw[qg i,List.getElem?_toArray];exact qfo x
 have F:w1.cell? ⟨w.heap.size,36,none⟩=some (.int .i64 x.state):=by rw[qg i,List.getElem?_toArray];exact qfp x
 have H:w1.cell? ⟨w.heap.size,0,none⟩=some (.int .u64 x.h.id):=by rw[qg i,List.getElem?_toArray];exact qsn x
 clear i
 cases m:x.own==own with
 | false =>
  go_wp2_with (with_reducible first|(first|refine' tw1 (qh ?_) ?_|refine' tw2 (qh ?_) ?_);rotate_left|refine' tw3 (qh ?_)|rfl|apply tn|refine' tw4 ?_);go_ret;exact⟨by unfold qf1;rw[m];rfl,f⟩
 | true =>
  cases q:x.h.id==id with
  | false =>
   go_wp2_with (with_reducible first|(first|refine' tw1 (qh ?_) ?_|refine' tw2 (qh ?_) ?_);rotate_left|refine' tw3 (qh ?_)|rfl|apply tn|refine' tw4 ?_);go_ret;exact⟨by unfold qf1;rw[m,q];rfl,f⟩
  | true =>
   go_wp2_with (with_reducible first|(first|refine' tw1 (qh ?_) ?_|refine' tw2 (qh ?_) ?_);rotate_left|refine' tw3 (qh ?_)|rfl|apply tn|refine' tw4 ?_);go_ret;exact⟨by unfold qf1;rw[m,q];rfl,f⟩
def qmi(own:Bool)(id:Int)(xs:List Live):Int:=match xs.findIdx? (qf1 own id) with | some i=>i | none=> -1
theorem qxf(own:Bool)(id:Int)(N O:Nat)(v:Value)(xs:List Live)(w:World)(K:qrm w v xs)(hl:xs.length≤1000000)(Y:w.cell? ⟨N,0,none⟩=some (.bool own))(Z:w.cell? ⟨O,0,none⟩=some (.int .u64 id)) :
  Calls Tryz.prog 128 #[v,.func (.func 129) #[] #[.pointer (some ⟨N,0,none⟩),.pointer (some ⟨O,0,none⟩)]] w (qa7 (.int .i64 (qmi own id xs)) w):=by
 have f:=(qdl K).2
 obtain⟨a,cap,rfl⟩:=qaf K
 have m:∀(i:Nat) (x:Live),xs[i]? = some x→∃C,a=some ⟨C,0,none⟩∧qd9 w C 0 xs:=by
  intro i x U;have q:=(List.getElem?_eq_some_iff.1 U).1;rcases f with ⟨e,X⟩ | ⟨C,k,e,-,H⟩
  ·rw[X] at q;simp at q
  ·injection e with e1;exact⟨C,e1,H.toL⟩
 clear f K
 have a7:(xs.length:Int)≤1000000:=by omega
 go_enter Tryz.func128,Tryz.ntmps128
 go_wp2_with fail
 go_loopw [5,8] (fun _ M wr=>∃i:Nat,M = .int .i64 (i:Int)∧i≤xs.length∧(∀j x,j<i→xs[j]? = some x→qf1 own id x=false)∧qq w wr) (fun _ M _=>xs.length-(intOf M).toNat)
 case atStart=>exact⟨0,rfl,Nat.zero_le _,fun j x h=>by omega,Upd.refl _ _⟩
 case round =>
  obtain⟨i,rfl,U,S,z⟩:=hrel;obtain⟨P,rfl⟩:∃P:World,P=wr:=⟨_,rfl⟩;have I:=qb S;clear S;by_cases q:i<xs.length
  ·obtain⟨x,r⟩:∃x,xs[i]? = some x:=⟨_,List.getElem?_eq_getElem q⟩;obtain⟨C,rfl,H⟩:=m i x r;have f:=(H.upd z (fun h=>h)).row r;rw[Nat.zero_add] at f;have a6:(i:Int)<(xs.length:Int):=by omega
   have T:=qz1 own id x N O P (z.cell Y (fun h=>h)) (z.cell Z (fun h=>h));have R:=qb r;clear H m r;go_wp2_with fail;refine T.mono ?_;rintro e w2 ⟨rfl,V⟩;have W:=z.trans V;clear T f z V;cases E:qf1 own id x with
   | true =>
    go_wp2_with fail;go_ret;have J:xs.findIdx? (qf1 own id)=some i:=by
     rw[List.findIdx?_eq_some_iff_getElem];refine⟨q,?_,fun j F=> ?_⟩
     ·have:=qa R;rw[List.getElem?_eq_getElem q] at this;rw[Option.some.inj this,E]
     ·have:=qa I j _ F (List.getElem?_eq_getElem (by omega));rw[this];decide
    exact⟨by unfold qmi;rw[J];rfl,W⟩
   | false =>
    go_wp2_with fail;go_roundw
    case rel =>
     refine⟨i+1,by go_num,by omega,fun j y F L=> ?_,W⟩;by_cases e:j<i
     ·exact qa I j y e L
     ·obtain rfl:j=i:=by omega
      rw[qa R] at L;rw[←Option.some.inj L];exact E
    case measure=>simp[intOf];omega
  ·obtain rfl:i=xs.length:=by omega
   clear m;go_wp2_with fail;go_ret;have J:xs.findIdx? (qf1 own id)=none:=by
    rw[List.findIdx?_eq_none_iff];intro x hx;obtain⟨j,F,rfl⟩:=List.mem_iff_getElem.1 hx;exact qa I j _ F (List.getElem?_eq_getElem F)
   exact⟨by unfold qmi;rw[J];rfl,z⟩
theorem qkm(g:Nat)(S:Nat→Prop)(c:Ch)(own:Bool)(id:Int)(w:World)(h:ChS w g S c) :
  Calls Tryz.prog 97 #[.pointer (some ⟨g,0,none⟩),.bool own,.int .u64 id] w (qa7 (.int .i64 (qmi own id c.xs)) w):=by
 obtain⟨v,I,H,h⟩:=h
 go_enter Tryz.func97,Tryz.ntmps97
 go_upto_region 1 with fail
 have q:qq w ((w.alloc (.cells #[.bool own] 4)).alloc (.cells #[.int .u64 id] 22)):=((Upd.refl _ _).alloc _).alloc _
 have f:((w.alloc (.cells #[.bool own] 4)).alloc (.cells #[.int .u64 id] 22)).heap[w.heap.size]? = some (.cells #[.bool own] 4 (0,0)):=qs (qj _ _) _
 have i:((w.alloc (.cells #[.bool own] 4)).alloc (.cells #[.int .u64 id] 22)).heap[w.heap.size+1]? = some (.cells #[.int .u64 id] 22 (0,0)):=by
  have:=qj (w.alloc (.cells #[.bool own] 4)) (.cells #[.int .u64 id] 22);rwa [World.size_alloc] at this
 generalize (w.alloc (.cells #[.bool own] 4)).alloc (.cells #[.int .u64 id] 22)=z at q f i ⊢
 have m:=h.new q
 have E:z.cell? ⟨g,47,none⟩=some v:=m.toR.live
 have r:=fun(W:World) (n:qq z W)=>qxf own id w.heap.size (w.heap.size+1) v c.xs W (qac m.live n (fun _ _ h=>h)) h.ok.few (n.cell (qg f 0) (fun h=>h)) (n.cell (qg i 0) (fun h=>h))
 have C:=qb r
 clear r f i m
 go_wp2_with (with_reducible first|(first|refine' tw1 (qh ?_) ?_|refine' tw2 (qh ?_) ?_);rotate_left|refine' tw3 (qh ?_)|rfl|apply tn|refine' tw4 ?_)
 refine(qa C _ (Upd.refl _ _)).mono ?_
 rintro e J ⟨rfl,F⟩
 go_wp2_with (with_reducible first|(first|refine' tw1 (qh ?_) ?_|refine' tw2 (qh ?_) ?_);rotate_left|refine' tw3 (qh ?_)|rfl|apply tn|refine' tw4 ?_)
 go_ret
 exact⟨rfl,q.trans F⟩
end
section
open Go.RowKit
attribute [local go_sem ↓ high] zl qag qaj qar qz zb ze zi
attribute [local go_sem] qbl qcl qcn qdm qx qax qay qa4
def qde(own:Bool)(id:Int)(xs:List Live):Option (Nat × Live):=match xs.findIdx? (qf1 own id) with | some i=>(xs[i]?).map fun x=>(i,x) | none=>none
theorem qhv{own:Bool}{id:Int}{xs:List Live}(h:qde own id xs=none):qmi own id xs = -1:=by
 unfold qde at h;unfold qmi;cases e:xs.findIdx? (qf1 own id) with
 | none=>rfl
 | some i =>
  rw[e] at h;have h:Option.map (fun x=>(i,x)) xs[i]? = none:=h;obtain⟨f,-⟩:=List.findIdx?_eq_some_iff_getElem.1 e;rw[List.getElem?_eq_getElem f] at h;cases h
theorem qhw{own:Bool}{id:Int}{xs:List Live}{i:Nat}{x:Live}(h:qde own id xs=some (i,x)):qmi own id xs=(i:Int)∧xs[i]? = some x∧qf1 own id x=true:=by
 unfold qde at h;unfold qmi;cases e:xs.findIdx? (qf1 own id) with
 | none=>rw[e] at h;cases h
 | some j =>
  rw[e] at h;obtain⟨f,m,-⟩:=List.findIdx?_eq_some_iff_getElem.1 e;have h:Option.map (fun x=>(j,x)) xs[j]? = some (i,x):=h;rw[List.getElem?_eq_getElem f] at h;simp only[Option.map_some,Option.some.injEq,Prod.mk.injEq] at h;obtain⟨rfl,rfl⟩:=h;exact⟨rfl,List.getElem?_eq_getElem f,m⟩
def Ch.hearShut(c:Ch):Ch × Int:=if c.k.shutHeard=true then (c,4) else ({c with k:= {c.k with shutHeard:=true}},0)
theorem qsg(g:Nat)(S:Nat→Prop)(c:Ch)(m:MsgV)(L:m.hash.length=32)(w:World)(h:ChS w g S c) :
  Calls Tryz.prog 181 #[.pointer (some ⟨g,0,none⟩),.agg m.cells.toArray] w fun e w' =>
   e = .returned (.tuple #[qcu,.int .i64 c.hearShut.2])∧ChS w' g (Fr S w w') c.hearShut.1∧Upd S w w':=by
 obtain⟨M,N,K,h⟩:=h
 go_enter Tryz.func181,Tryz.ntmps181
 go_upto_region 1 with fail
 have i:qq w (w.alloc (.cells m.cells.toArray 101)):=(Upd.refl _ _).alloc _
 generalize w.alloc (.cells m.cells.toArray 101)=w1 at i ⊢
 have f:=h.new i
 have q:w1.cell? ⟨g,43,none⟩=some (.bool c.k.shutHeard):=f.toR.shutHeard
 have E:w1.frozen? ⟨g,43,none⟩=false:=qv f.at_ 43
 cases v:c.k.shutHeard with
 | true =>
  have r:c.hearShut=(c,4):=by unfold Ch.hearShut;rw[if_pos v]
  rw[v] at q;have z:=qb r;have I:=qb (f.fr w);have C:=qb (i.mono (T:=S) (fun _ _ h=>h.elim));clear h f i r E;go_wp2_with (with_reducible first|(first|refine' tw1 (qh ?_) ?_|refine' tw2 (qh ?_) ?_);rotate_left|refine' tw3 (qh ?_)|rfl|apply tn|refine' tw4 ?_);go_ret2;rw[qa z];exact⟨rfl,qa I,qa C⟩
 | false =>
  have r:c.hearShut=({c with k:= {c.k with shutHeard:=true}},0):=by unfold Ch.hearShut;rw[if_neg (by rw[v];decide)]
  rw[v] at q;have F:=f.putShutHeard true;have H:=qpl w1 g 43 (.bool true);have z:=qb r;have J:=qb (F.fr w);have C:=qb ((i.mono (T:=S) (fun _ _ h=>h.elim)).trans (H.mono (fun k _ e=>by rw[e];exact h.inG)));clear h f i r F H;go_wp2_with (with_reducible first|(first|refine' tw1 (qh ?_) ?_|refine' tw2 (qh ?_) ?_);rotate_left|refine' tw3 (qh ?_)|rfl|apply tn|refine' tw4 ?_);go_ret2;rw[qa z];exact⟨rfl,qa J,qa C⟩
def Ch.hearFail(c:Ch)(m:MsgV):Ch × Int:=match qde true m.id c.xs with | none=>(c,3) | some p=>(c.removed p.1 p.2 false,0)
theorem qpu{c:Ch}{m:MsgV}(h:qde true m.id c.xs=none):c.hearFail m=(c,3):=by unfold Ch.hearFail;rw[h]
theorem qpv{c:Ch}{m:MsgV}{i:Nat}{x:Live}(h:qde true m.id c.xs=some (i,x)):c.hearFail m=(c.removed i x false,0):=by unfold Ch.hearFail;rw[h]
theorem qse(g:Nat)(S:Nat→Prop)(c:Ch)(m:MsgV)(Y:m.hash.length=32)(w:World)(h:ChS w g S c) :
  Calls Tryz.prog 178 #[.pointer (some ⟨g,0,none⟩),.agg m.cells.toArray] w fun e w' =>
   e = .returned (.tuple #[qcu,.int .i64 (c.hearFail m).2])∧ChS w' g (Fr S w w') (c.hearFail m).1∧Upd S w w':=by
 obtain⟨P,R,M,h⟩:=h
 go_enter Tryz.func178,Tryz.ntmps178
 go_upto_region 1 with fail
 have K:=zt w m Y
 have E:qq w (w.alloc (.cells m.cells.toArray 101)):=(Upd.refl _ _).alloc _
 generalize w.alloc (.cells m.cells.toArray 101)=w1 at E K ⊢
 have J:=h.new E
 obtain⟨-,-,Z,-,-,-,-⟩:=K.cells
 have O:=qkm g S c true m.id w1 ⟨P,R,M,J⟩
 clear K
 go_wp2_with fail
 refine O.mono ?_
 rintro e w2 ⟨rfl,L⟩
 have C:=J.new L
 have f:=E.trans L
 clear O Z J L E
 cases q:qde true m.id c.xs with
 | none =>
  have r:=qhv q;have F:=qb (qpu q);have V:=qb (C.fr w);have H:=qb (f.mono (T:=S) (fun _ _ h=>h.elim));rw[r];clear h C f q r;go_wp2_with fail;go_ret2;rw[qa F];exact⟨rfl,qa V,qa H⟩
 | some p =>
  obtain⟨i,x⟩:=p;obtain⟨r,v,-⟩:=qhw q;have z:=qh9 g S c P R M i x false w2 C v;have F:=qb (qpv q);have X:=qb h.inL;have H:=qb (f.mono (T:=S) (fun _ _ h=>h.elim));rw[r];clear h C f q r v;go_wp2_with fail;refine z.mono ?_;rintro e w3 ⟨rfl,N,U⟩;have W:=qb (N.fr w);have I:=qb ((qa H).trans (U.mono (T:=S) (fun k _ e=>qa X k e)));clear z N U;go_wp2_with fail;go_ret2;rw[qa F];exact⟨rfl,qa W,qa I⟩
end
section
open Go.RowKit
attribute [local go_sem ↓ high] qz zb ze zi
attribute [local go_sem] qax qay qa4 qx
theorem quc(g:Nat)(S:Nat→Prop)(c:Ch)(m:MsgV)(C:MsgOk m)(w:World)(h:ChS w g S c)(q:qam m=false∨m.ch≠c.s.ch) :
  Calls Tryz.prog 107 #[.pointer (some ⟨g,0,none⟩),.agg m.cells.toArray] w (qa7 (.tuple #[qcu,.int .i64 1]) w):=by
 obtain⟨O,P,L,h⟩:=h
 go_enter Tryz.func107,Tryz.ntmps107
 go_upto_region 1 with fail
 have r:=zt w m C.len
 have v:qq w (w.alloc (.cells m.cells.toArray 101)):=(Upd.refl _ _).alloc _
 generalize w.alloc (.cells m.cells.toArray 101)=w1 at v r ⊢
 generalize w.heap.size=A at r ⊢
 have H:=r.row
 have f:=fun W=>qh6 m C W
 have J:=qb r
 have I:=qb (h.new v)
 have F:=qb v
 clear h r v C
 cases E:qam m with
 | false =>
  rw[E] at f;go_wp2_with (with_reducible first|(first|refine' tw1 (qh ?_) ?_|refine' tw2 (qh ?_) ?_);rotate_left|refine' tw3 (qh ?_)|rfl|apply tn|refine' tw4 ?_);refine(f _).mono ?_;rintro e z ⟨rfl,i⟩;have i:qq w1 z:=i.ofDrew;clear H;go_wp2_with (with_reducible first|(first|refine' tw1 (qh ?_) ?_|refine' tw2 (qh ?_) ?_);rotate_left|refine' tw3 (qh ?_)|rfl|apply tn|refine' tw4 ?_);go_ret2;exact⟨rfl,(qa F).trans i⟩
 | true =>
  rw[E] at f;have K:¬m.ch=c.s.ch:=by
   rcases q with e | e
   ·rw[E] at e;cases e
   ·exact e
  clear q;go_wp2_with (with_reducible first|(first|refine' tw1 (qh ?_) ?_|refine' tw2 (qh ?_) ?_);rotate_left|refine' tw3 (qh ?_)|rfl|apply tn|refine' tw4 ?_);refine(f _).mono ?_;rintro e z ⟨rfl,i⟩;have i:qq w1 z:=i.ofDrew;have N:=((qa J).new i).cells.2.1;have M:z.cell? ⟨g,0,none⟩=some (.int .u32 c.s.ch):=((qa I).new i).toR.ch;clear H f;go_wp2_with (with_reducible first|(first|refine' tw1 (qh ?_) ?_|refine' tw2 (qh ?_) ?_);rotate_left|refine' tw3 (qh ?_)|rfl|apply tn|refine' tw4 ?_);go_ret2;exact⟨rfl,(qa F).trans i⟩
theorem q5t(F:FuncId)(g:Nat)(S:Nat→Prop)(c:Ch)(m:MsgV)(M:MsgOk m)(w:World)(h:ChS w g S c)(N:qam m=true)(L:m.ch=c.s.ch)(R:Value→Int→World→World→Prop)
  (hE:∀args w,(callFunc F args).run Tryz.prog w = .ok (.enter F args) w)
  (C:∀ {w:World} {b:Nat},qif w b→(Instr.lookup 241 (.map (some b)) (.int .i64 m.kind) true).run Tryz.prog w = .ok (.tuple #[.func (.func F) #[] #[],.bool true]) w)
  (hF:∀W,qq w W→Calls Tryz.prog F #[.pointer (some ⟨g,0,none⟩),.agg m.cells.toArray] W fun e w'=>∃v n,e = .returned (.tuple #[v,.int .i64 n])∧R v n W w') :
  Calls Tryz.prog 107 #[.pointer (some ⟨g,0,none⟩),.agg m.cells.toArray] w fun e w'=>∃v n W,e = .returned (.tuple #[v,.int .i64 n])∧qq w W∧R v n W w':=by
 obtain⟨lv,nv,av,h⟩:=h
 go_enter Tryz.func107,Tryz.ntmps107
 go_upto_region 1 with fail
 have z:=zt w m M.len
 have H:qq w (w.alloc (.cells m.cells.toArray 101)):=(Upd.refl _ _).alloc _
 generalize w.alloc (.cells m.cells.toArray 101)=w1 at H z ⊢
 generalize w.heap.size=A at z ⊢
 have rA:=z.row
 have f:=fun W=>qh6 m M W
 rw[N] at f
 have J:=qb z
 have H1:=qb (h.new H)
 have N1:=qb H
 clear h z H M
 go_wp2_with (with_reducible first|(first|refine' tw1 (qh ?_) ?_|refine' tw2 (qh ?_) ?_);rotate_left|refine' tw3 (qh ?_)|rfl|apply tn|refine' tw4 ?_)
 refine(f _).mono ?_
 rintro e I ⟨rfl,q⟩
 have q:qq w1 I:=q.ofDrew
 have V:=((qa J).new q).cells.2.1
 rw[L] at V
 have d0:I.cell? ⟨g,0,none⟩=some (.int .u32 c.s.ch):=((qa H1).new q).toR.ch
 have K:=qb q
 clear rA f q
 go_upto_region 3 with (with_reducible first|(first|refine' tw1 (qh ?_) ?_|refine' tw2 (qh ?_) ?_);rotate_left|refine' tw3 (qh ?_)|rfl|apply tn|refine' tw4 ?_)
 have X:I.drew.cell? ⟨A,0,none⟩=some (.int .i64 m.kind):=((qa J).new (qa K)).cells.1
 have T:=@C
 clear V d0 C
 refine qa1 (fun w'=>w'.cell? ⟨A,0,none⟩=some (.int .i64 m.kind)) [2] (.of [0,1,2,3,4,5,6,7,8]) (by kernel_rfl) (by kernel_rfl) X ?_
 simp only[Plan.of]
 go_wp2_with (with_reducible first|(first|refine' zv (qh ?_) ?_|refine' zx (qh ?_) ?_|refine' zy (qh ?_) ?_);rotate_left|refine' zz (qh ?_)|refine' qw5 (qh ?_)|rfl|apply qn)
 refine(quf _).mono ?_
 rintro e P ⟨b,rfl,E,Y⟩
 have E:qq I P:=E.ofDrew
 have hl:=T Y
 have i:=((qa J).new (qa K)).new E
 have r:=i.cells.1
 have O:=i.row
 have U:=qb (((qa N1).trans (qa K)).trans E)
 clear X E Y i T
 go_wp2_with (with_reducible first|(first|refine' zv (qh ?_) ?_|refine' zx (qh ?_) ?_|refine' zy (qh ?_) ?_);rotate_left|refine' zz (qh ?_)|refine' qw5 (qh ?_)|rfl|apply qn)
 refine⟨r,?_⟩
 go_wp2_with (with_reducible first|(first|refine' zv (qh ?_) ?_|refine' zx (qh ?_) ?_|refine' zy (qh ?_) ?_);rotate_left|refine' zz (qh ?_)|refine' qw5 (qh ?_)|rfl|apply qn)
 refine(hF P (qa U)).mono ?_
 rintro e w4 ⟨v,n,rfl,Z⟩
 have HR:=qb Z
 clear O r hl Z
 go_wp2_with (with_reducible first|(first|refine' zv (qh ?_) ?_|refine' zx (qh ?_) ?_|refine' zy (qh ?_) ?_);rotate_left|refine' zz (qh ?_)|refine' qw5 (qh ?_)|rfl|apply qn)
 go_ret2
 exact⟨v,n,P,rfl,qa U,qa HR⟩
def qe7(g:Nat)(S:Nat→Prop)(w:World)(c':Ch)(f:List MsgV)(n:Int)(e:Ending)(w':World):Prop :=
 ∃v,e = .returned (.tuple #[v,.int .i64 n])∧qb6 w.heap.size w' v f∧ChS w' g (Fr S w w') c'∧Upd S w w'
theorem qh4(F:FuncId)(g:Nat)(S:Nat→Prop)(c c':Ch)(C:List MsgV)(n:Int)(m:MsgV)(J:MsgOk m)(w:World)(h:ChS w g S c)(z:qam m=true)(i:m.ch=c.s.ch)
  (E:∀args w,(callFunc F args).run Tryz.prog w = .ok (.enter F args) w)
  (r:∀ {w:World} {b:Nat},qif w b→(Instr.lookup 241 (.map (some b)) (.int .i64 m.kind) true).run Tryz.prog w = .ok (.tuple #[.func (.func F) #[] #[],.bool true]) w)
  (H:∀W,qq w W→Calls Tryz.prog F #[.pointer (some ⟨g,0,none⟩),.agg m.cells.toArray] W (qe7 g S W c' C n)) :
  Calls Tryz.prog 107 #[.pointer (some ⟨g,0,none⟩),.agg m.cells.toArray] w (qe7 g S w c' C n):=by
 refine(q5t F g S c m J w h z i (fun v k W w'=>k=n∧qb6 W.heap.size w' v C∧ChS w' g (Fr S W w') c'∧Upd S W w') E r (fun W f=>(H W f).mono ?_)).mono ?_
 ·rintro e w' ⟨v,q,K⟩;exact⟨v,n,q,rfl,K⟩
 ·rintro e w' ⟨v,k,W,q,f,rfl,L,I,M⟩;exact⟨v,q,qe4 L f.size,I.later f.size,(f.mono (T:=S) (fun _ _ h=>h.elim)).trans M⟩
theorem q5r(g:Nat)(S:Nat→Prop)(c:Ch)(m:MsgV)(r:MsgOk m)(w:World)(h:ChS w g S c)(q:qam m=true)(i:m.ch=c.s.ch)(E:m.kind=3)(f:c.xs.length<1000000) :
  Calls Tryz.prog 107 #[.pointer (some ⟨g,0,none⟩),.agg m.cells.toArray] w (qe7 g S w (c.hearAdd m).1 [] (c.hearAdd m).2) :=
 qh4 _ g S c _ _ _ m r w h q i (enters_of Tryz.func176 (by kernel_rfl) rfl) (fun v=>by rw[E];exact zby v) (fun W H=>(qub g S c m r W (h.new H) f).mono (by
  rintro e w' ⟨C,z,F⟩;exact⟨_,C,qb6.nil _ _,z,F⟩))
theorem q1c(g:Nat)(S:Nat→Prop)(c:Ch)(m:MsgV)(q:MsgOk m)(w:World)(h:ChS w g S c)(i:qam m=true)(f:m.ch=c.s.ch)(C:m.kind=5) :
  Calls Tryz.prog 107 #[.pointer (some ⟨g,0,none⟩),.agg m.cells.toArray] w (qe7 g S w (c.hearFail m).1 [] (c.hearFail m).2) :=
 qh4 _ g S c _ _ _ m q w h i f (enters_of Tryz.func178 (by kernel_rfl) rfl) (fun r=>by rw[C];exact zb0 r) (fun W F=>(qse g S c m q.len W (h.new F)).mono (by
  rintro e w' ⟨z,v,E⟩;exact⟨_,z,qb6.nil _ _,v,E⟩))
theorem q1d(g:Nat)(S:Nat→Prop)(c:Ch)(m:MsgV)(q:MsgOk m)(w:World)(h:ChS w g S c)(i:qam m=true)(f:m.ch=c.s.ch)(C:m.kind=8) :
  Calls Tryz.prog 107 #[.pointer (some ⟨g,0,none⟩),.agg m.cells.toArray] w (qe7 g S w c.hearShut.1 [] c.hearShut.2) :=
 qh4 _ g S c _ _ _ m q w h i f (enters_of Tryz.func181 (by kernel_rfl) rfl) (fun r=>by rw[C];exact zb3 r) (fun W F=>(qsg g S c m q.len W (h.new F)).mono (by
  rintro e w' ⟨z,v,E⟩;exact⟨_,z,qb6.nil _ _,v,E⟩))
theorem qud(g:Nat)(S:Nat→Prop)(c:Ch)(m:MsgV)(r:MsgOk m)(w:World)(h:ChS w g S c)(q:qam m=true)(i:m.ch=c.s.ch)(I:m.kind=7)(f:qv2 c)(E:Tb w)(C:Apart S) :
  Calls Tryz.prog 107 #[.pointer (some ⟨g,0,none⟩),.agg m.cells.toArray] w (qe7 g S w (c.hearRevoke m).1 [] (c.hearRevoke m).2) :=
 qh4 _ g S c _ _ _ m r w h q i (enters_of Tryz.func180 (by kernel_rfl) rfl) (fun z=>by rw[I];exact zb2 z) (fun W v=>(qop g S c m r W (h.new v) f (E.new v) C).mono (by
  rintro e w' ⟨H,F,J⟩;exact⟨_,H,qb6.nil _ _,F,J⟩))
theorem q1e(g:Nat)(S:Nat→Prop)(c:Ch)(m:MsgV)(E:MsgOk m)(w:World)(h:ChS w g S c)(z:qam m=true)(i:m.ch=c.s.ch)(M:m.kind=6)(J:Tb w)(I:Apart S)(r:c.s.peer.size≤100000000)(f:0≤c.s.ch∧c.s.ch<4294967296)(q:c.k.heard<4294967295)(C:c.xs.length≤16) :
  Calls Tryz.prog 107 #[.pointer (some ⟨g,0,none⟩),.agg m.cells.toArray] w (qe7 g S w (c.hearSign m).1 (c.hearSign m).2.1 (c.hearSign m).2.2) :=
 qh4 _ g S c _ _ _ m E w h z i (enters_of Tryz.func179 (by kernel_rfl) rfl) (fun H=>by rw[M];exact zb1 H) (fun W F=>(qsh g S c m E W (h.new F) (J.new F) I r f q C).mono (by
  rintro e w' ⟨v,L,N,K,O⟩;exact⟨v,L,N,K,O⟩))
end
section
open Go.RowKit
structure Two(w0 w:World)(gA gB:Nat)(SA SB:Nat→Prop)(a b:Ch):Prop where
 A:ChS w gA SA a
 B:ChS w gB SB b
 geA:∀k,SA k→w0.heap.size≤k
 geB:∀k,SB k→w0.heap.size≤k
 sep:∀k,SA k→¬SB k
 n:qq w0 w
section
variable {w0 w w':World}{gA gB:Nat}{SA SB:Nat→Prop}{a b a' b':Ch}
end
theorem qx0(g:Nat)(S:Nat→Prop)(c:Ch)(n:Int)(h:List Int)(ex:Int)(w:World)(q:ChS w g S c)(i:h.length=32)(m:qbm h)(r:0≤n∧n<18446744073709551616)(v : -9223372036854775808≤ex∧ex≤9223372036854775807)(f:c.news.length<1000000∧c.xs.length<1000000) :
  Calls Tryz.prog 47 #[.pointer (some ⟨g,0,none⟩),.int .u64 n,.agg (qu h).toArray,.int .i64 ex] w fun e w' =>
   e = .returned (.tuple #[.agg (c.offer n (qa8 h) ex).2.1.cells.toArray,.int .i64 (c.offer n (qa8 h) ex).2.2])∧ChS w' g (Fr S w w') (c.offer n (qa8 h) ex).1∧Upd S w w':=by
 have:=q2c g S c n (qa8 h) ex w q r v (by rw[qd4 i];exact m) f
 rw[qd4 i] at this
 exact this
theorem qqt(g:Nat)(S:Nat→Prop)(c:Ch)(w:World)(h:ChS w g S c):Calls Tryz.prog 20 #[.pointer (some ⟨g,0,none⟩)] w fun e w'=>∃u,e = .returned u∧qq w w'∧((∃a k,u = .slice a 0 k∧c.xs=[])∨∃f cap,u = .slice (some ⟨f,0,none⟩) c.xs.length cap∧w.heap.size≤f∧qdy w' f 0 c.xs):=by
 obtain⟨m,q,i,h⟩:=h;exact q6d g _ c.xs (by have:=h.ok.few;omega) w h.toI
theorem q0u(a b:Int)(w:World):(Instr.field 59 (.agg #[.int .u64 a,.int .u64 b]) 0).run Tryz.prog w = .ok (.int .u64 a) w:=by kernel_rfl
theorem q0v(a b:Int)(w:World):(Instr.field 59 (.agg #[.int .u64 a,.int .u64 b]) 1).run Tryz.prog w = .ok (.int .u64 b) w:=by kernel_rfl
theorem qji(key:ByteArray)(ch n l r:Int)(xs:List Live):qbi true key ch n r l (xs.map qes)=qbi false key ch n l r xs:=by
 have f:=qxi false xs;have i:=q3c false l r xs;unfold qbi qjg qjh;simp only[Bool.not_false] at f i;rw[f,i];rfl
structure Lk where
 c:Ch
 j:Jo
 rest:ByteArray
 out:ByteArray
 ev:Value
 ticks:Int
 dead:Bool
 broken:Bool
 waits:Bool
def Lk.v(l:Lk)(sp en lo:Nat):LinkV:=⟨sp,en,lo,l.out,l.ev,l.ticks,l.dead,l.broken,l.waits⟩
structure LkP(w:World)(g:Nat)(S:Nat→Prop)(l:Lk)(sp en lo:Nat)(SC SJ:Nat→Prop):Prop where
 at_:LkR w g (l.v sp en lo)
 spl:SpR w sp l.rest
 chn:ChS w en SC l.c
 jou:JoS w lo SJ l.j
 inG:S g
 inS:S sp
 inC:∀k,SC k→S k
 inJ:∀k,SJ k→S k
 gC:¬SC g
 gJ:¬SJ g
 sC:¬SC sp
 sJ:¬SJ sp
 cJ:∀k,SC k→¬SJ k
 lt:∀k,S k→k<w.heap.size
def LkS(w:World)(g:Nat)(S:Nat→Prop)(l:Lk):Prop:=∃sp en lo SC SJ,LkP w g S l sp en lo SC SJ
section
variable {w w':World}{g:Nat}{S T:Nat→Prop}{l:Lk}{sp en lo:Nat}{SC SJ:Nat→Prop}
theorem LkP.upd(h:LkP w g S l sp en lo SC SJ)(u:Upd T w w')(hd:∀k,S k→¬T k):LkP w' g S l sp en lo SC SJ :=
 ⟨u.old h.at_ (hd g h.inG),u.old h.spl (hd sp h.inS),h.chn.upd u (fun k f=>hd k (h.inC k f)),h.jou.upd u (fun k f=>hd k (h.inJ k f)),h.inG,h.inS,h.inC,h.inJ,h.gC,h.gJ,h.sC,h.sJ,h.cJ,fun k f=>Nat.lt_of_lt_of_le (h.lt k f) u.size⟩
theorem LkS.upd(h:LkS w g S l)(u:Upd T w w')(hd:∀k,S k→¬T k):LkS w' g S l:=by
 obtain⟨sp,en,lo,SC,SJ,h⟩:=h;exact⟨sp,en,lo,SC,SJ,h.upd u hd⟩
theorem LkS.new(h:LkS w g S l)(u:qq w w'):LkS w' g S l:=h.upd u (fun _ _ h=>h)
theorem LkP.new(h:LkP w g S l sp en lo SC SJ)(u:qq w w'):LkP w' g S l sp en lo SC SJ:=h.upd u (fun _ _ h=>h)
theorem LkS.lt(h:LkS w g S l):∀k,S k→k<w.heap.size:=by
 obtain⟨sp,en,lo,SC,SJ,h⟩:=h;exact h.lt
theorem LkP.ne(h:LkP w g S l sp en lo SC SJ):g≠sp:=qbe h.at_ h.spl (by decide)
theorem LkP.wider(h:LkP w g S l sp en lo SC SJ)(f:∀k,S k→T k)(i:∀k,T k→k<w.heap.size):LkP w g T l sp en lo SC SJ :=
 ⟨h.at_,h.spl,h.chn,h.jou,f g h.inG,f sp h.inS,fun k e=>f k (h.inC k e),fun k e=>f k (h.inJ k e),h.gC,h.gJ,h.sC,h.sJ,h.cJ,i⟩
theorem LkP.chan(h:LkP w g S l sp en lo SC SJ)(u:Upd SC w w'){c':Ch}(q:ChS w' en (Fr SC w w') c'):LkP w' g (Fr S w w') {l with c:=c'} sp en lo (Fr SC w w') SJ:=by
 have i:∀k,Fr SC w w' k→k<w.heap.size→SC k:=fun k f r=>f.elim id (fun e=>by omega)
 refine⟨u.old h.at_ h.gC,u.old h.spl h.sC,q,h.jou.upd u (fun k f e=>h.cJ k e f),.inl h.inG,.inl h.inS,?_,fun k f=> .inl (h.inJ k f),?_,h.gJ,?_,h.sJ,?_,?_⟩
 ·rintro k (f | f)
  ·exact .inl (h.inC k f)
  ·exact .inr f
 ·exact fun e=>h.gC (i g e (h.lt g h.inG))
 ·exact fun e=>h.sC (i sp e (h.lt sp h.inS))
 ·exact fun k f m=>h.cJ k (i k f (h.jou.lt k m)) m
 ·rintro k (f | f)
  ·exact Nat.lt_of_lt_of_le (h.lt k f) u.size
  ·exact f.2
theorem LkP.jour(h:LkP w g S l sp en lo SC SJ)(u:Upd SJ w w'){m:Jo}(q:JoS w' lo (Fr SJ w w') m):LkP w' g (Fr S w w') {l with j:=m} sp en lo SC (Fr SJ w w'):=by
 have i:∀k,Fr SJ w w' k→k<w.heap.size→SJ k:=fun k f v=>f.elim id (fun e=>by omega)
 refine⟨u.old h.at_ h.gJ,u.old h.spl h.sJ,h.chn.upd u (fun k f e=>h.cJ k f e),q,.inl h.inG,.inl h.inS,fun k f=> .inl (h.inC k f),?_,h.gC,?_,h.sC,?_,?_,?_⟩
 ·rintro k (f | f)
  ·exact .inl (h.inJ k f)
  ·exact .inr f
 ·exact fun e=>h.gJ (i g e (h.lt g h.inG))
 ·exact fun e=>h.sJ (i sp e (h.lt sp h.inS))
 ·exact fun k f r=>h.cJ k f (i k r (h.chn.lt k f))
 ·rintro k (f | f)
  ·exact Nat.lt_of_lt_of_le (h.lt k f) u.size
  ·exact f.2
theorem LkP.put(h:LkP w g S l sp en lo SC SJ){i:Nat}{x:Value}{l':Lk}(q:(l.v sp en lo).cells.toArray.setIfInBounds i x=(l'.v sp en lo).cells.toArray)(z:l'.rest=l.rest)(m:l'.c=l.c)(r:l'.j=l.j) :
  LkP (w.setCell ⟨g,i,none⟩ x) g S l' sp en lo SC SJ:=by
 have u:Upd (· = g) w (w.setCell ⟨g,i,none⟩ x):=(Upd.refl _ _).set1 i x
 refine⟨?_,?_,?_,?_,h.inG,h.inS,h.inC,h.inJ,h.gC,h.gJ,h.sC,h.sJ,h.cJ,fun k f=>Nat.lt_of_lt_of_le (h.lt k f) u.size⟩
 ·have:=qad h.at_ i x;rw[q] at this;exact this
 ·rw[z];exact u.old h.spl (fun e=>h.ne e.symm)
 ·rw[m];exact h.chn.upd u (fun k f e=>h.gC (e▸f))
 ·rw[r];exact h.jou.upd u (fun k f e=>h.gJ (e▸f))
end
theorem LkP.put_out{w:World}{g:Nat}{S:Nat→Prop}{l:Lk}{sp en lo:Nat}{SC SJ:Nat→Prop}(h:LkP w g S l sp en lo SC SJ)(s:ByteArray):LkP (w.setCell ⟨g,3,none⟩ (.string s)) g S {l with out:=s} sp en lo SC SJ:=h.put rfl rfl rfl rfl
theorem LkP.put_ticks{w:World}{g:Nat}{S:Nat→Prop}{l:Lk}{sp en lo:Nat}{SC SJ:Nat→Prop}(h:LkP w g S l sp en lo SC SJ)(n:Int):LkP (w.setCell ⟨g,5,none⟩ (.int .i64 n)) g S {l with ticks:=n} sp en lo SC SJ:=h.put rfl rfl rfl rfl
theorem LkP.put_dead{w:World}{g:Nat}{S:Nat→Prop}{l:Lk}{sp en lo:Nat}{SC SJ:Nat→Prop}(h:LkP w g S l sp en lo SC SJ)(b:Bool):LkP (w.setCell ⟨g,6,none⟩ (.bool b)) g S {l with dead:=b} sp en lo SC SJ:=h.put rfl rfl rfl rfl
def Lk.new(c:Ch):Lk:=⟨c,.new,⟨#[]⟩,⟨#[]⟩,qcu,0,false,false,false⟩
theorem qbv(n f:Nat)(w:World)(m:1≤f)(q:f≤8)(E:n<2 ^ (8*f)) :
  Calls Tryz.prog 48 #[.int .u64 n,.int .i64 f] w (qa7 (.string (qw n f)) w):=by
 go_enter Tryz.func48,Tryz.ntmps48
 go_upto_region 2 with fail
 have b1:Wr (w.alloc (.cells #[.string ⟨#[]⟩] 174)) w.heap.size ⟨#[]⟩:=qj _ _
 have r:qq w (w.alloc (.cells #[.string ⟨#[]⟩] 174)):=(Upd.refl _ _).alloc _
 have H:¬w.heap.size<w.heap.size:=Nat.lt_irrefl _
 generalize w.alloc (.cells #[.string ⟨#[]⟩] 174)=w1 at b1 r ⊢
 have M:=qb r
 have L:=qb H
 generalize C:w.heap.size=B at b1 L ⊢
 have J:=qb C
 clear r C H
 have z:(⟨#[]⟩:ByteArray)++qw n f=qw n f:=ByteArray.empty_append
 have i:=qds B n f ⟨#[]⟩ w1 b1 m q E (by show (0:Nat)≤_;omega)
 rw[z] at i
 generalize F:qw n f=v at i
 have K:=qb F
 clear z b1 E m q F
 go_wp2_with fail
 refine i.mono ?_
 rintro e R ⟨rfl,I,O⟩
 have N:=qb ((qa M).then I (fun k P e=>by have:=qa J;omega))
 clear i I
 go_wp2_with fail
 refine(qf3 _ _ _ O).mono ?_
 rintro e U ⟨rfl,rfl⟩
 go_wp2_with fail
 go_ret
 exact⟨by rw[qa K];rfl,qa N⟩
attribute [local go_sem ↓ high] zl qag qaj
attribute [local go_sem] qbl qcl qcn qx
theorem qd6(h:List Int)(w:World)(F:h.length=32) :
  Calls Tryz.prog 49 #[.agg (qu h).toArray] w (qa7 (.string (strOfNums h)) w):=by
 go_enter Tryz.func49,Tryz.ntmps49
 go_upto_region 1 with fail
 have v:=qj w (.cells (qu h).toArray 35)
 have C:qq w (w.alloc (.cells (qu h).toArray 35)):=(Upd.refl _ _).alloc _
 generalize w.alloc (.cells (qu h).toArray 35)=w1 at v C ⊢
 generalize w.heap.size=B at v ⊢
 have z:(convert 95 9 (.slice (some ⟨B,0,none⟩) 32 32)).run Tryz.prog w1 = .ok (.string (strOfNums h)) w1:=by
  refine run_convert_bytes_arg w1 95 5 Tryz.underlying95 Tryz.underlying5 B 0 32 32 h F (fun i H=> ?_) 9 Tryz.underlying9;have f:i<h.length:=by omega
  rw[Nat.zero_add,qg v i,List.getElem?_toArray];unfold qu;rw[List.getElem?_map,List.getElem?_eq_getElem f];simp[List.getD,List.getElem?_eq_getElem f]
 generalize m:strOfNums h=q at z
 have r:=qb m
 clear m
 have E:=qb C
 clear C
 go_wp2_with fail
 go_ret
 exact⟨by rw[qa r];rfl,qa E⟩
end
section
open Go.RowKit
def zdq(n:Nat):Nat:=if n=156 then 114 else if n=165 then 150 else if n=166 then 125 else if n=169 then 151 else if n=240 then 163 else if n=241 then 184 else if n=276 then 195 else if n=277 then 207 else n
def zds(n:Nat):Nat:=if n=0 then 0 else if n=3 then 3 else if n=4 then 4 else if n=5 then 5 else if n=9 then 9 else if n=20 then 20 else if n=31 then 163 else if n=37 then 95 else if n=70 then 209 else if n=72 then 211 else if n=75 then 217 else if n=76 then 218 else if n=80 then 100 else if n=127 then 279 else if n=164 then 292 else n
def zc3:Go.Shelf.Ren:=⟨zdq,zds,fun n=>n⟩
theorem zdr:Lays.n156 Tryz.prog zc3 where
 mixed:=by kernel_rfl
 f156:=by kernel_rfl
 f165:=by kernel_rfl
 f166:=by kernel_rfl
 f169:=by kernel_rfl
 f240:=by kernel_rfl
 f241:=by kernel_rfl
 f276:=by kernel_rfl
 f277:=by kernel_rfl
 t0:=Tryz.underlying0
 a0:=Tryz.isAgg0
 z0:=Tryz.sizeOf0
 v0:=Tryz.zeroValue0
 t3:=Tryz.underlying3
 a3:=Tryz.isAgg3
 z3:=Tryz.sizeOf3
 v3:=Tryz.zeroValue3
 t4:=Tryz.underlying4
 a4:=Tryz.isAgg4
 z4:=Tryz.sizeOf4
 v4:=Tryz.zeroValue4
 t9:=Tryz.underlying9
 a9:=Tryz.isAgg9
 z9:=Tryz.sizeOf9
 v9:=Tryz.zeroValue9
 t20:=Tryz.underlying20
 a20:=Tryz.isAgg20
 z20:=Tryz.sizeOf20
 v20:=Tryz.zeroValue20
 t31:=Tryz.underlying163
 a31:=Tryz.isAgg163
 z31:=Tryz.sizeOf163
 v31:=Tryz.zeroValue163
 t37:=Tryz.underlying95
 a37:=Tryz.isAgg95
 z37:=Tryz.sizeOf95
 v37:=Tryz.zeroValue95
 t70:=Tryz.underlying209
 a70:=Tryz.isAgg209
 z70:=Tryz.sizeOf209
 v70:=Tryz.zeroValue209
 t72:=Tryz.underlying211
 a72:=Tryz.isAgg211
 z72:=Tryz.sizeOf211
 v72:=Tryz.zeroValue211
 t75:=Tryz.underlying217
 a75:=Tryz.isAgg217
 z75:=Tryz.sizeOf217
 v75:=Tryz.zeroValue217
 t76:=Tryz.underlying218
 a76:=Tryz.isAgg218
 z76:=Tryz.sizeOf218
 v76:=Tryz.zeroValue218
 t127:=Tryz.underlying279
 a127:=Tryz.isAgg279
 z127:=Tryz.sizeOf279
 v127:=Tryz.zeroValue279
 t164:=Tryz.underlying292
 a164:=Tryz.isAgg292
 z164:=Tryz.sizeOf292
 v164:=Tryz.zeroValue292
theorem zdt:Builder.Extra Tryz.prog zc3 where
 sizeBuilder:=by kernel_rfl
 liesBuilder:=by kernel_rfl
 t5:=Tryz.underlying5
 a5:=Tryz.isAgg5
 z5:=Tryz.sizeOf5
 v5:=Tryz.zeroValue5
 infoByte:=by kernel_rfl
 cellsByte:=by kernel_rfl
 sizeByte:=by kernel_rfl
 neB5:=by decide
def zq:List ByteArray→ByteArray
 | []=>⟨#[]⟩
 | x::r=>x++zq r
theorem qqn{α:Type} : ∀f:List (List α),([]:List α).intercalate f=f.flatten
 | []=>rfl
 | [x]=>by rw[List.intercalate_singleton];simp
 | x::y::r=>by rw[List.intercalate_cons_cons,qqn (y::r)];simp
theorem q52(xs:List ByteArray):(⟨(Lib.join (xs.map (·.data.toList)) []).toArray⟩:ByteArray)=zq xs:=by
 unfold Lib.join;rw[qqn]
 induction xs with
 | nil=>rfl
 | cons x r f =>
  rw[List.map_cons,List.flatten_cons,zq,←f];apply ByteArray.ext;simp[ByteArray.data_append]
theorem quj(b:Nat)(xs:List ByteArray)(w:World)(i:∀j x,xs[j]? = some x→w.cell? ⟨b,j,none⟩=some (.string x))(f:b<w.heap.size)(v:xs.length≤1000)(q:(zq xs).size≤1000000000) :
  Calls Tryz.prog 114 #[.slice (some ⟨b,0,none⟩) xs.length xs.length,.string ⟨#[]⟩] w (qa7 (.string (zq xs)) w):=by
 have e:=q52 xs
 refine(Any.strings_Join zdr zdt b 0 xs.length xs ⟨#[]⟩ w (fun j x h=>by rw[Nat.zero_add];exact i j x h) f (by omega) (Nat.le_refl _) ?_).mono ?_
 ·have:(Lib.join (xs.map (·.data.toList)) []).length=(zq xs).size:=by rw[←e];simp[ByteArray.size]
  show (Lib.join (xs.map (·.data.toList)) []).length≤_;omega
 ·rintro r w' ⟨rfl,m⟩;exact⟨congrArg (fun s=>Ending.returned (Value.string s)) e,Upd.of_below m (Nat.le_refl _)⟩
end
end Go.Proofs.YtfmkdoachjgjbaaGreatDoor
