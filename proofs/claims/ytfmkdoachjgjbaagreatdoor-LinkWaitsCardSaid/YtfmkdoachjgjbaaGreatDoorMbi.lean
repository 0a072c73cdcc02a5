/-
  A cell set within a row of lives; remove.
-/
import Derived.Test.YtfmkdoachjgjbaaGreatDoorMag
import Derived.Test.YtfmkdoachjgjbaaGreatDoorMaj
import Derived.Test.YtfmkdoachjgjbaaGreatDoorMbc
import Derived.Test.YtfmkdoachjgjbaaGreatDoorHsg
import Derived.Test.YtfmkdoachjgjbaaGreatDoorMba
import Derived.Test.YtfmkdoachjgjbaaGreatDoorRows
import Derived.Test.YtfmkdoachjgjbaaGreatDoorMaa
import Derived.Shelf.Strings.OnBuilder
import Derived.Test.YtfmkdoachjgjbaaGreatDoorMac
set_option maxRecDepth 100000
set_option maxHeartbeats 1000000
set_option linter.unusedVariables false
set_option linter.unusedSimpArgs false
namespace Go.Proofs.YtfmkdoachjgjbaaGreatDoor
section
open Go.RowKit
theorem qoc{α:Type}(f:α→List Value)(k:Nat)(m:∀x,(f x).length=k):∀(X:List α) (i j:Nat) (x y:α) (u:Value),X[i]? = some x→j<k→f y=(f x).set j u→(X.set i y).flatMap f=(X.flatMap f).set (i*k+j) u
 | [],i,j,x,y,u,h,_,_=>by simp at h
 | z::X,0,j,x,y,u,h,p,q=>by
  have:z=x:=by simpa using h
  subst this;rw[List.set_cons_zero,List.flatMap_cons,List.flatMap_cons,q,Nat.zero_mul,Nat.zero_add,List.set_append_left _ _ (by rw[m];exact p)]
 | z::X,i+1,j,x,y,u,h,p,q=>by
  rw[List.set_cons_succ,List.flatMap_cons,List.flatMap_cons,qoc f k m X i j x y u (by simpa using h) p q,List.set_append_right _ _ (by rw[m,Nat.succ_mul];omega),m];congr 2;rw[Nat.succ_mul];omega
theorem qu3{α:Type}(f:α→List Value)(k:Nat)(E:∀x,(f x).length=k){w:World}{base:Nat}{T:TypeId}{v:Value}{X:List α}(h:w.ownsRow base T k v X.length (X.flatMap f)){i j:Nat}{x y:α}{u:Value}(z:X[i]? = some x)(H:j<k)(I:f y=(f x).set j u){g:Nat}(F:v.ownBlock=some g) :
  (w.setCell ⟨g,i*k+j,none⟩ u).ownsRow base T k v (X.set i y).length ((X.set i y).flatMap f):=by
 have L:=(List.getElem?_eq_some_iff.1 z).1
 rcases h.2 with ⟨e,P⟩ | ⟨C,cap,m,e,J,p,K,O,M,N⟩
 ·omega
 ·rw[e] at F;have q:C=g:=by simpa [Value.ownBlock] using F
  subst q;rw[List.length_set];refine⟨?_,.inr ⟨C,cap,m.setIfInBounds (i*k+j) u,e,J,zt p _ _,K,O,by rw[Array.size_setIfInBounds];exact M,?_⟩⟩
  ·rw[qoc f k E X i j x y u z H I,List.length_set];exact h.1
  ·rw[qoc f k E X i j x y u z H I,←N,Array.toList_setIfInBounds,List.take_set]
theorem qxk(x:Live)(s:Int):qk {x with state:=s} = (qk x).set 36 (.int .i64 s):=by
 unfold qk;rw[List.set_append_right _ _ (by rw[qbh];omega),qbh];rfl
theorem qxl(x:Live)(p:Bool):qk {x with paid:=p} = (qk x).set 37 (.bool p):=by
 unfold qk;rw[List.set_append_right _ _ (by rw[qbh];omega),qbh];rfl
def Ch.removed(c:Ch)(i:Nat)(x:Live)(paid:Bool):Ch:= {c with xs:=c.xs.set i {x with state:=5,paid:=paid}}
theorem qh5(g:Nat)(S:Nat→Prop)(c:Ch)(q nv V:Value)(i:Nat)(x:Live)(paid:Bool)(w:World)(h:ChP w g S c q nv V)(O:c.xs[i]? = some x) :
  Calls Tryz.prog 98 #[.pointer (some ⟨g,0,none⟩),.int .i64 i,.bool paid] w fun e w'=>e = .returned (.tuple #[])∧ChP w' g S (c.removed i x paid) q nv V∧Upd (fun k=>q.ownBlock=some k) w w':=by
 have J:=(List.getElem?_eq_some_iff.1 O).1
 have W:w.drew.cell? ⟨g,47,none⟩=some q:=h.toR.live
 obtain⟨f,cap,K,p⟩:∃f cap,q = .slice (some ⟨f,0,none⟩) c.xs.length cap∧q.ownBlock=some f:=by
  rcases h.live.2 with ⟨e,e0⟩ | ⟨g',cap,F,e,_⟩
  ·omega
  ·exact⟨g',cap,e,by rw[e];rfl⟩
 obtain⟨F,m⟩:=qab h.live f p
 have C:=(qcx h.live).2
 have L:zj w f (i*38) 38=some (qk x).toArray:=by
  rcases C with ⟨e,e0⟩ | ⟨g',a6,e,-,hh⟩
  ·rw[e0] at J;simp at J
  ·rw[K] at e;injection e with e1 e2 e3;injection e1 with e1;injection e1 with e1;have:=hh.row O;rw[Nat.zero_add,←e1] at this;exact this
 have b4:w.drew.cell? ⟨f,i*38+36,none⟩=some (.int .i64 x.state):=by
  have:=(qhf L).2 36 (by omega);rw[List.getElem?_toArray,qe0] at this;exact this
 have N:w.drew.cell? ⟨f,i*38+37,none⟩=some (.bool x.paid):=by
  have:=(qhf L).2 37 (by omega);rw[List.getElem?_toArray,qnk] at this;exact this
 have u1:Upd (· = f) w (w.setCell ⟨f,i*38+36,none⟩ (.int .i64 5)).drew:=((Upd.refl _ _).set1 _ _).drew
 have X:g≠f:=qao h.at_ m (by decide)
 have R:(w.setCell ⟨f,i*38+36,none⟩ (.int .i64 5)).drew.ownsRow 0 69 38 q (c.xs.set i {x with state:=5}).length ((c.xs.set i {x with state:=5}).flatMap qk):=qu3 qk 38 qbb h.live O (by omega) (qxk x 5) p
 have P:(c.xs.set i {x with state:=5})[i]? = some {x with state:=5} := by rw[List.getElem?_set_self J]
 have b5:w.drew.frozen? ⟨f,i*38+36,none⟩=false:=qo m _
 have H:(w.setCell ⟨f,i*38+36,none⟩ (.int .i64 5)).drew.heap[f]? = some (.cells (F.setIfInBounds (i*38+36) (.int .i64 5)) 69 (0,0)):=zt m _ _
 have a8:(w.setCell ⟨f,i*38+36,none⟩ (.int .i64 5)).drew.cell? ⟨f,i*38+37,none⟩=some (.bool x.paid):=by
  have e:w.cell? ⟨f,i*38+37,none⟩=F[i*38+37]? := qg m _;have e2:w.cell? ⟨f,i*38+37,none⟩=some (.bool x.paid):=N;rw[qg H,Array.getElem?_setIfInBounds_ne (by omega),←e,e2]
 have b3:(w.setCell ⟨f,i*38+36,none⟩ (.int .i64 5)).drew.frozen? ⟨f,i*38+37,none⟩=false:=qo H _
 have I:=qu3 qk 38 qbb R P (show 37<38 by omega) (qxl {x with state:=5} paid) p
 rw[List.set_set] at I
 have M:Upd (· = f) w ((w.setCell ⟨f,i*38+36,none⟩ (.int .i64 5)).drew.setCell ⟨f,i*38+37,none⟩ (.bool paid)):=u1.set1 _ _
 have z:ChP ((w.setCell ⟨f,i*38+36,none⟩ (.int .i64 5)).drew.setCell ⟨f,i*38+37,none⟩ (.bool paid)) g S (c.removed i x paid) q nv V:=by
  have E:∀ {v:Value} {n:Nat} {xs:List Value},w.ownsRow 0 101 38 v n xs→∀k,v.ownBlock=some k→¬k=f:=by
   intro v n xs hr k Y e;obtain⟨a7,hc⟩:=qab hr k Y;exact qao hc m (by decide) e
  have Z:=h.ok.xs x (List.mem_of_getElem? O);refine⟨M.old h.at_ X,⟨h.ok.s,h.ok.signed,h.ok.heard,h.ok.nextOwn,h.ok.nextTheirs,h.ok.loc,h.ok.rem,?_,?_,h.ok.shelf,h.ok.news,h.ok.last,h.ok.many⟩,I,zq h.news M (E h.news),zq h.last M (E h.last),h.inG,h.inL,h.inN,h.inA,h.sep,fun k Y=>Nat.lt_of_lt_of_le (h.lt k Y) M.size⟩
  ·intro y U;rcases List.mem_or_eq_of_mem_set U with U | U
   ·exact h.ok.xs y U
   ·rw[U];exact⟨Z.h,show (-9223372036854775808:Int)≤5 by decide,show (5:Int)≤9223372036854775807 by decide⟩
  ·show (c.xs.set i _).length≤1000000;rw[List.length_set];exact h.ok.few
 have HF:=qb z
 have HU:=qb (M.mono (T:=fun k=>q.ownBlock=some k) (fun k _ e=>by rw[e];exact p))
 have b6:(i:Int)<(c.xs.length:Int):=by omega
 rw[K] at W
 clear h C L N R P I H m u1 M z K p O
 go_enter Tryz.func98,Tryz.ntmps98
 go_wp2_with ((with_reducible first|rfl|refine' ut ?_ ?_;rotate_left|refine' uu ?_)<;>intros)
 go_end0
 exact⟨rfl,qa HF,qa HU⟩
attribute [local go_sem ↓ high] qba
attribute [local go_sem] qdk qv
def qfv(own:Bool)(id:Int)(x:Live):Bool:=x.own==own&&(x.h.id==id&&x.state==4)
theorem qz0(own:Bool)(id:Int)(x:Live)(z C:Nat)(w:World)(q:w.cell? ⟨z,0,none⟩=some (.bool own))(v:w.cell? ⟨C,0,none⟩=some (.int .u64 id)) :
  Calls Tryz.prog 129 #[.agg (qk x).toArray,.pointer (some ⟨z,0,none⟩),.pointer (some ⟨C,0,none⟩)] w (qa1 (.bool (qfv own id x)) w):=by
 go_enter Tryz.func129,Tryz.ntmps129
 go_upto_region 1 with fail
 have i:(w.alloc (.cells (qk x).toArray 69)).heap[w.heap.size]? = some (.cells (qk x).toArray 69 (0,0)):=qh _ _
 have f:qu w (w.alloc (.cells (qk x).toArray 69)):=(Upd.refl _ _).alloc _
 generalize w.alloc (.cells (qk x).toArray 69)=w1 at i f ⊢
 replace q:=f.cell q (fun h=>h)
 replace v:=f.cell v (fun h=>h)
 have E:w1.cell? ⟨w.heap.size,35,none⟩=some (.bool x.own):=by rw[qg i,List.getElem?_toArray];exact qez x
 have F:w1.cell? ⟨w.heap.size,36,none⟩=some (.int .i64 x.state):=by rw[qg i,List.getElem?_toArray];exact qe0 x
 have H:w1.cell? ⟨w.heap.size,0,none⟩=some (.int .u64 x.h.id):=by rw[qg i,List.getElem?_toArray];exact qsn x
 clear i
 cases m:x.own==own with
 | false =>
  go_wp2_with ((with_reducible first|rfl|refine' ut ?_ ?_;rotate_left|refine' uu ?_)<;>intros);go_ret;exact⟨by unfold qfv;rw[m];rfl,f⟩
 | true =>
  cases p:x.h.id==id with
  | false =>
   go_wp2_with ((with_reducible first|rfl|refine' ut ?_ ?_;rotate_left|refine' uu ?_)<;>intros);go_ret;exact⟨by unfold qfv;rw[m,p];rfl,f⟩
  | true =>
   go_wp2_with ((with_reducible first|rfl|refine' ut ?_ ?_;rotate_left|refine' uu ?_)<;>intros);go_ret;exact⟨by unfold qfv;rw[m,p];rfl,f⟩
def qmd(own:Bool)(id:Int)(xs:List Live):Int:=match xs.findIdx? (qfv own id) with | some i=>i | none=> -1
theorem qw8(own:Bool)(id:Int)(N O:Nat)(v:Value)(xs:List Live)(w:World)(K:qrk w v xs)(hl:xs.length≤1000000)(Y:w.cell? ⟨N,0,none⟩=some (.bool own))(Z:w.cell? ⟨O,0,none⟩=some (.int .u64 id)) :
  Calls Tryz.prog 128 #[v,.func (.func 129) #[] #[.pointer (some ⟨N,0,none⟩),.pointer (some ⟨O,0,none⟩)]] w (qa1 (.int .i64 (qmd own id xs)) w):=by
 have f:=(qcx K).2
 obtain⟨a,cap,rfl⟩:=zv K
 have m:∀(i:Nat) (x:Live),xs[i]? = some x→∃C,a=some ⟨C,0,none⟩∧qd4 w C 0 xs:=by
  intro i x U;have p:=(List.getElem?_eq_some_iff.1 U).1;rcases f with ⟨e,X⟩ | ⟨C,k,e,-,H⟩
  ·rw[X] at p;simp at p
  ·injection e with e1;exact⟨C,e1,H.toL⟩
 clear f K
 have a7:(xs.length:Int)≤1000000:=by omega
 go_enter Tryz.func128,Tryz.ntmps128
 go_wp2_with fail
 go_loopw [5,8] (fun _ M wr=>∃i:Nat,M = .int .i64 (i:Int)∧i≤xs.length∧(∀j x,j<i→xs[j]? = some x→qfv own id x=false)∧qu w wr) (fun _ M _=>xs.length-(intOf M).toNat)
 case atStart=>exact⟨0,rfl,Nat.zero_le _,fun j x h=>by omega,Upd.refl _ _⟩
 case round =>
  obtain⟨i,rfl,U,S,z⟩:=hrel;obtain⟨P,rfl⟩:∃P:World,P=wr:=⟨_,rfl⟩;have I:=qb S;clear S;by_cases p:i<xs.length
  ·obtain⟨x,q⟩:∃x,xs[i]? = some x:=⟨_,List.getElem?_eq_getElem p⟩;obtain⟨C,rfl,H⟩:=m i x q;have f:=(H.upd z (fun h=>h)).row q;rw[Nat.zero_add] at f;have a6:(i:Int)<(xs.length:Int):=by omega
   have T:=qz0 own id x N O P (z.cell Y (fun h=>h)) (z.cell Z (fun h=>h));have R:=qb q;clear H m q;go_wp2_with fail;refine T.mono ?_;rintro e w2 ⟨rfl,V⟩;have W:=z.trans V;clear T f z V;cases E:qfv own id x with
   | true =>
    go_wp2_with fail;go_ret;have J:xs.findIdx? (qfv own id)=some i:=by
     rw[List.findIdx?_eq_some_iff_getElem];refine⟨p,?_,fun j F=> ?_⟩
     ·have:=qa R;rw[List.getElem?_eq_getElem p] at this;rw[Option.some.inj this,E]
     ·have:=qa I j _ F (List.getElem?_eq_getElem (by omega));rw[this];decide
    exact⟨by unfold qmd;rw[J];rfl,W⟩
   | false =>
    go_wp2_with fail;go_roundw
    case rel =>
     refine⟨i+1,by go_num,by omega,fun j y F L=> ?_,W⟩;by_cases e:j<i
     ·exact qa I j y e L
     ·obtain rfl:j=i:=by omega
      rw[qa R] at L;rw[←Option.some.inj L];exact E
    case measure=>simp[intOf];omega
  ·obtain rfl:i=xs.length:=by omega
   clear m;go_wp2_with fail;go_ret;have J:xs.findIdx? (qfv own id)=none:=by
    rw[List.findIdx?_eq_none_iff];intro x hx;obtain⟨j,F,rfl⟩:=List.mem_iff_getElem.1 hx;exact qa I j _ F (List.getElem?_eq_getElem F)
   exact⟨by unfold qmd;rw[J];rfl,z⟩
theorem qkk(g:Nat)(S:Nat→Prop)(c:Ch)(own:Bool)(id:Int)(w:World)(h:ChS w g S c) :
  Calls Tryz.prog 97 #[.pointer (some ⟨g,0,none⟩),.bool own,.int .u64 id] w (qa1 (.int .i64 (qmd own id c.xs)) w):=by
 obtain⟨v,I,H,h⟩:=h
 go_enter Tryz.func97,Tryz.ntmps97
 go_upto_region 1 with fail
 have p:qu w ((w.alloc (.cells #[.bool own] 4)).alloc (.cells #[.int .u64 id] 22)):=((Upd.refl _ _).alloc _).alloc _
 have f:((w.alloc (.cells #[.bool own] 4)).alloc (.cells #[.int .u64 id] 22)).heap[w.heap.size]? = some (.cells #[.bool own] 4 (0,0)):=qq (qh _ _) _
 have i:((w.alloc (.cells #[.bool own] 4)).alloc (.cells #[.int .u64 id] 22)).heap[w.heap.size+1]? = some (.cells #[.int .u64 id] 22 (0,0)):=by
  have:=qh (w.alloc (.cells #[.bool own] 4)) (.cells #[.int .u64 id] 22);rwa [World.size_alloc] at this
 generalize (w.alloc (.cells #[.bool own] 4)).alloc (.cells #[.int .u64 id] 22)=z at p f i ⊢
 have m:=h.new p
 have E:z.cell? ⟨g,47,none⟩=some v:=m.toR.live
 have q:=fun(W:World) (n:qu z W)=>qw8 own id w.heap.size (w.heap.size+1) v c.xs W (zq m.live n (fun _ _ h=>h)) h.ok.few (n.cell (qg f 0) (fun h=>h)) (n.cell (qg i 0) (fun h=>h))
 have C:=qb q
 clear q f i m
 go_wp2_with ((with_reducible first|rfl|refine' ut ?_ ?_;rotate_left|refine' uu ?_)<;>intros)
 refine(qa C _ (Upd.refl _ _)).mono ?_
 rintro e J ⟨rfl,F⟩
 go_wp2_with ((with_reducible first|rfl|refine' ut ?_ ?_;rotate_left|refine' uu ?_)<;>intros)
 go_ret
 exact⟨rfl,p.trans F⟩
end
section
open Go.RowKit
attribute [local go_sem ↓ high] zl qaa qad qam qy qz zb zf
attribute [local go_sem] qbf qci qcj qdh qv qas qat qax
def qdc(own:Bool)(id:Int)(xs:List Live):Option (Nat × Live):=match xs.findIdx? (qfv own id) with | some i=>(xs[i]?).map fun x=>(i,x) | none=>none
theorem qhr{own:Bool}{id:Int}{xs:List Live}(h:qdc own id xs=none):qmd own id xs = -1:=by
 unfold qdc at h;unfold qmd;cases e:xs.findIdx? (qfv own id) with
 | none=>rfl
 | some i =>
  rw[e] at h;have h:Option.map (fun x=>(i,x)) xs[i]? = none:=h;obtain⟨f,-⟩:=List.findIdx?_eq_some_iff_getElem.1 e;rw[List.getElem?_eq_getElem f] at h;cases h
theorem qhs{own:Bool}{id:Int}{xs:List Live}{i:Nat}{x:Live}(h:qdc own id xs=some (i,x)):qmd own id xs=(i:Int)∧xs[i]? = some x∧qfv own id x=true:=by
 unfold qdc at h;unfold qmd;cases e:xs.findIdx? (qfv own id) with
 | none=>rw[e] at h;cases h
 | some j =>
  rw[e] at h;obtain⟨f,m,-⟩:=List.findIdx?_eq_some_iff_getElem.1 e;have h:Option.map (fun x=>(j,x)) xs[j]? = some (i,x):=h;rw[List.getElem?_eq_getElem f] at h;simp only[Option.map_some,Option.some.injEq,Prod.mk.injEq] at h;obtain⟨rfl,rfl⟩:=h;exact⟨rfl,List.getElem?_eq_getElem f,m⟩
def Ch.hearShut(c:Ch):Ch × Int:=if c.k.shutHeard=true then (c,4) else ({c with k:= {c.k with shutHeard:=true}},0)
theorem qsg(g:Nat)(S:Nat→Prop)(c:Ch)(m:MsgV)(L:m.hash.length=32)(w:World)(h:ChS w g S c) :
  Calls Tryz.prog 181 #[.pointer (some ⟨g,0,none⟩),.agg m.cells.toArray] w fun e w' =>
   e = .returned (.tuple #[qbw,.int .i64 c.hearShut.2])∧ChS w' g (Fr S w w') c.hearShut.1∧Upd S w w':=by
 obtain⟨M,N,K,h⟩:=h
 go_enter Tryz.func181,Tryz.ntmps181
 go_upto_region 1 with fail
 have i:qu w (w.alloc (.cells m.cells.toArray 101)):=(Upd.refl _ _).alloc _
 generalize w.alloc (.cells m.cells.toArray 101)=w1 at i ⊢
 have f:=h.new i
 have p:w1.cell? ⟨g,43,none⟩=some (.bool c.k.shutHeard):=f.toR.shutHeard
 have E:w1.frozen? ⟨g,43,none⟩=false:=qo f.at_ 43
 cases v:c.k.shutHeard with
 | true =>
  have q:c.hearShut=(c,4):=by unfold Ch.hearShut;rw[if_pos v]
  rw[v] at p;have z:=qb q;have I:=qb (f.fr w);have C:=qb (i.mono (T:=S) (fun _ _ h=>h.elim));clear h f i q E;go_wp2_with ((with_reducible first|rfl|refine' ut ?_ ?_;rotate_left|refine' uu ?_)<;>intros);go_ret2;rw[qa z];exact⟨rfl,qa I,qa C⟩
 | false =>
  have q:c.hearShut=({c with k:= {c.k with shutHeard:=true}},0):=by unfold Ch.hearShut;rw[if_neg (by rw[v];decide)]
  rw[v] at p;have F:=f.putShutHeard true;have H:=qj1 w1 g 43 (.bool true);have z:=qb q;have J:=qb (F.fr w);have C:=qb ((i.mono (T:=S) (fun _ _ h=>h.elim)).trans (H.mono (fun k _ e=>by rw[e];exact h.inG)));clear h f i q F H;go_wp2_with ((with_reducible first|rfl|refine' ut ?_ ?_;rotate_left|refine' uu ?_)<;>intros);go_ret2;rw[qa z];exact⟨rfl,qa J,qa C⟩
def Ch.hearFail(c:Ch)(m:MsgV):Ch × Int:=match qdc true m.id c.xs with | none=>(c,3) | some p=>(c.removed p.1 p.2 false,0)
theorem qpq{c:Ch}{m:MsgV}(h:qdc true m.id c.xs=none):c.hearFail m=(c,3):=by unfold Ch.hearFail;rw[h]
theorem qpr{c:Ch}{m:MsgV}{i:Nat}{x:Live}(h:qdc true m.id c.xs=some (i,x)):c.hearFail m=(c.removed i x false,0):=by unfold Ch.hearFail;rw[h]
theorem qsd(g:Nat)(S:Nat→Prop)(c:Ch)(m:MsgV)(Z:m.hash.length=32)(w:World)(h:ChS w g S c) :
  Calls Tryz.prog 178 #[.pointer (some ⟨g,0,none⟩),.agg m.cells.toArray] w fun e w' =>
   e = .returned (.tuple #[qbw,.int .i64 (c.hearFail m).2])∧ChS w' g (Fr S w w') (c.hearFail m).1∧Upd S w w':=by
 obtain⟨R,U,N,h⟩:=h
 go_enter Tryz.func178,Tryz.ntmps178
 go_upto_region 1 with fail
 have L:=qan w m Z
 have F:qu w (w.alloc (.cells m.cells.toArray 101)):=(Upd.refl _ _).alloc _
 generalize w.alloc (.cells m.cells.toArray 101)=w1 at F L ⊢
 have K:=h.new F
 obtain⟨-,-,m2,-,-,-,-⟩:=L.cells
 have P:=qkk g S c true m.id w1 ⟨R,U,N,K⟩
 clear L
 go_wp2_with fail
 refine P.mono ?_
 rintro e w2 ⟨rfl,M⟩
 have E:=K.new M
 have f:=F.trans M
 clear P m2 K M F
 cases q:qdc true m.id c.xs with
 | none =>
  have v:=qhr q;have H:=qb (qpq q);have W:=qb (E.fr w);have I:=qb (f.mono (T:=S) (fun _ _ h=>h.elim));rw[v];clear h E f q v;go_wp2_with fail;go_ret2;rw[qa H];exact⟨rfl,qa W,qa I⟩
 | some p =>
  obtain⟨i,x⟩:=p;obtain⟨v,z,-⟩:=qhs q;have C:=qh5 g S c R U N i x false w2 E z;have H:=qb (qpr q);have Y:=qb h.inL;have I:=qb (f.mono (T:=S) (fun _ _ h=>h.elim));rw[v];clear h E f q v z;go_wp2_with fail;refine C.mono ?_;rintro e w3 ⟨rfl,O,V⟩;have X:=qb (O.fr w);have J:=qb ((qa I).trans (V.mono (T:=S) (fun k _ e=>qa Y k e)));clear C O V;go_wp2_with fail;go_ret2;rw[qa H];exact⟨rfl,qa X,qa J⟩
end
section
open Go.RowKit
attribute [local go_sem ↓ high] qy qz zb zf
attribute [local go_sem] qas qat qax qv
theorem qud(g:Nat)(S:Nat→Prop)(c:Ch)(m:MsgV)(C:MsgOk m)(w:World)(h:ChS w g S c)(p:qaf m=false∨m.ch≠c.s.ch) :
  Calls Tryz.prog 107 #[.pointer (some ⟨g,0,none⟩),.agg m.cells.toArray] w (qa1 (.tuple #[qbw,.int .i64 1]) w):=by
 obtain⟨O,P,L,h⟩:=h
 go_enter Tryz.func107,Tryz.ntmps107
 go_upto_region 1 with fail
 have q:=qan w m C.len
 have v:qu w (w.alloc (.cells m.cells.toArray 101)):=(Upd.refl _ _).alloc _
 generalize w.alloc (.cells m.cells.toArray 101)=w1 at v q ⊢
 generalize w.heap.size=A at q ⊢
 have H:=q.row
 have f:=fun W=>qh2 m C W
 have J:=qb q
 have I:=qb (h.new v)
 have F:=qb v
 clear h q v C
 cases E:qaf m with
 | false =>
  rw[E] at f;go_wp2_with ((with_reducible first|rfl|refine' ut ?_ ?_;rotate_left|refine' uu ?_)<;>intros);refine(f _).mono ?_;rintro e z ⟨rfl,i⟩;have i:qu w1 z:=i.ofDrew;clear H;go_wp2_with ((with_reducible first|rfl|refine' ut ?_ ?_;rotate_left|refine' uu ?_)<;>intros);go_ret2;exact⟨rfl,(qa F).trans i⟩
 | true =>
  rw[E] at f;have K:¬m.ch=c.s.ch:=by
   rcases p with e | e
   ·rw[E] at e;cases e
   ·exact e
  clear p;go_wp2_with ((with_reducible first|rfl|refine' ut ?_ ?_;rotate_left|refine' uu ?_)<;>intros);refine(f _).mono ?_;rintro e z ⟨rfl,i⟩;have i:qu w1 z:=i.ofDrew;have N:=((qa J).new i).cells.2.1;have M:z.cell? ⟨g,0,none⟩=some (.int .u32 c.s.ch):=((qa I).new i).toR.ch;clear H f;go_wp2_with ((with_reducible first|rfl|refine' ut ?_ ?_;rotate_left|refine' uu ?_)<;>intros);go_ret2;exact⟨rfl,(qa F).trans i⟩
theorem q57(F:FuncId)(g:Nat)(S:Nat→Prop)(c:Ch)(m:MsgV)(M:MsgOk m)(w:World)(h:ChS w g S c)(N:qaf m=true)(L:m.ch=c.s.ch)(R:Value→Int→World→World→Prop)
  (hE:∀args w,(callFunc F args).run Tryz.prog w = .ok (.enter F args) w)
  (C:∀ {w:World} {b:Nat},qic w b→(Instr.lookup 241 (.map (some b)) (.int .i64 m.kind) true).run Tryz.prog w = .ok (.tuple #[.func (.func F) #[] #[],.bool true]) w)
  (hF:∀W,qu w W→Calls Tryz.prog F #[.pointer (some ⟨g,0,none⟩),.agg m.cells.toArray] W fun e w'=>∃v n,e = .returned (.tuple #[v,.int .i64 n])∧R v n W w') :
  Calls Tryz.prog 107 #[.pointer (some ⟨g,0,none⟩),.agg m.cells.toArray] w fun e w'=>∃v n W,e = .returned (.tuple #[v,.int .i64 n])∧qu w W∧R v n W w':=by
 obtain⟨lv,nv,av,h⟩:=h
 go_enter Tryz.func107,Tryz.ntmps107
 go_upto_region 1 with fail
 have z:=qan w m M.len
 have H:qu w (w.alloc (.cells m.cells.toArray 101)):=(Upd.refl _ _).alloc _
 generalize w.alloc (.cells m.cells.toArray 101)=w1 at H z ⊢
 generalize w.heap.size=A at z ⊢
 have rA:=z.row
 have f:=fun W=>qh2 m M W
 rw[N] at f
 have J:=qb z
 have H1:=qb (h.new H)
 have N1:=qb H
 clear h z H M
 go_wp2_with ((with_reducible first|rfl|refine' ut ?_ ?_;rotate_left|refine' uu ?_)<;>intros)
 refine(f _).mono ?_
 rintro e I ⟨rfl,p⟩
 have p:qu w1 I:=p.ofDrew
 have V:=((qa J).new p).cells.2.1
 rw[L] at V
 have d0:I.cell? ⟨g,0,none⟩=some (.int .u32 c.s.ch):=((qa H1).new p).toR.ch
 have K:=qb p
 clear rA f p
 go_upto_region 3 with ((with_reducible first|rfl|refine' ut ?_ ?_;rotate_left|refine' uu ?_)<;>intros)
 have X:I.drew.cell? ⟨A,0,none⟩=some (.int .i64 m.kind):=((qa J).new (qa K)).cells.1
 have T:=@C
 clear V d0 C
 refine qaw (fun w'=>w'.cell? ⟨A,0,none⟩=some (.int .i64 m.kind)) [2] (.of [0,1,2,3,4,5,6,7,8]) (by kernel_rfl) (by kernel_rfl) X ?_
 simp only[Plan.of]
 go_wp2_with ((with_reducible first|rfl|refine' ut ?_ ?_;rotate_left|refine' uu ?_)<;>intros)
 refine(qug _).mono ?_
 rintro e P ⟨b,rfl,E,Y⟩
 have E:qu I P:=E.ofDrew
 have hl:=T Y
 have i:=((qa J).new (qa K)).new E
 have q:=i.cells.1
 have O:=i.row
 have U:=qb (((qa N1).trans (qa K)).trans E)
 clear X E Y i T
 go_wp2_with ((with_reducible first|rfl|refine' ut ?_ ?_;rotate_left|refine' uu ?_)<;>intros)
 refine⟨q,?_⟩
 go_wp2_with ((with_reducible first|rfl|refine' ut ?_ ?_;rotate_left|refine' uu ?_)<;>intros)
 refine(hF P (qa U)).mono ?_
 rintro e w4 ⟨v,n,rfl,Z⟩
 have HR:=qb Z
 clear O q hl Z
 go_wp2_with ((with_reducible first|rfl|refine' ut ?_ ?_;rotate_left|refine' uu ?_)<;>intros)
 go_ret2
 exact⟨v,n,P,rfl,qa U,qa HR⟩
def qe4(g:Nat)(S:Nat→Prop)(w:World)(c':Ch)(f:List MsgV)(n:Int)(e:Ending)(w':World):Prop :=
 ∃v,e = .returned (.tuple #[v,.int .i64 n])∧qb3 w.heap.size w' v f∧ChS w' g (Fr S w w') c'∧Upd S w w'
theorem qh0(F:FuncId)(g:Nat)(S:Nat→Prop)(c c':Ch)(C:List MsgV)(n:Int)(m:MsgV)(J:MsgOk m)(w:World)(h:ChS w g S c)(z:qaf m=true)(i:m.ch=c.s.ch)
  (E:∀args w,(callFunc F args).run Tryz.prog w = .ok (.enter F args) w)
  (q:∀ {w:World} {b:Nat},qic w b→(Instr.lookup 241 (.map (some b)) (.int .i64 m.kind) true).run Tryz.prog w = .ok (.tuple #[.func (.func F) #[] #[],.bool true]) w)
  (H:∀W,qu w W→Calls Tryz.prog F #[.pointer (some ⟨g,0,none⟩),.agg m.cells.toArray] W (qe4 g S W c' C n)) :
  Calls Tryz.prog 107 #[.pointer (some ⟨g,0,none⟩),.agg m.cells.toArray] w (qe4 g S w c' C n):=by
 refine(q57 F g S c m J w h z i (fun v k W w'=>k=n∧qb3 W.heap.size w' v C∧ChS w' g (Fr S W w') c'∧Upd S W w') E q (fun W f=>(H W f).mono ?_)).mono ?_
 ·rintro e w' ⟨v,p,K⟩;exact⟨v,n,p,rfl,K⟩
 ·rintro e w' ⟨v,k,W,p,f,rfl,L,I,M⟩;exact⟨v,p,qe2 L f.size,I.later f.size,(f.mono (T:=S) (fun _ _ h=>h.elim)).trans M⟩
theorem q55(g:Nat)(S:Nat→Prop)(c:Ch)(m:MsgV)(q:MsgOk m)(w:World)(h:ChS w g S c)(p:qaf m=true)(i:m.ch=c.s.ch)(E:m.kind=3)(f:c.xs.length<1000000) :
  Calls Tryz.prog 107 #[.pointer (some ⟨g,0,none⟩),.agg m.cells.toArray] w (qe4 g S w (c.hearAdd m).1 [] (c.hearAdd m).2) :=
 qh0 _ g S c _ _ _ m q w h p i (enters_of Tryz.func176 (by kernel_rfl) rfl) (fun v=>by rw[E];exact zce v) (fun W H=>(quc g S c m q W (h.new H) f).mono (by
  rintro e w' ⟨C,z,F⟩;exact⟨_,C,qb3.nil _ _,z,F⟩))
theorem q1f(g:Nat)(S:Nat→Prop)(c:Ch)(m:MsgV)(p:MsgOk m)(w:World)(h:ChS w g S c)(i:qaf m=true)(f:m.ch=c.s.ch)(C:m.kind=5) :
  Calls Tryz.prog 107 #[.pointer (some ⟨g,0,none⟩),.agg m.cells.toArray] w (qe4 g S w (c.hearFail m).1 [] (c.hearFail m).2) :=
 qh0 _ g S c _ _ _ m p w h i f (enters_of Tryz.func178 (by kernel_rfl) rfl) (fun q=>by rw[C];exact zcg q) (fun W F=>(qsd g S c m p.len W (h.new F)).mono (by
  rintro e w' ⟨z,v,E⟩;exact⟨_,z,qb3.nil _ _,v,E⟩))
theorem q1g(g:Nat)(S:Nat→Prop)(c:Ch)(m:MsgV)(p:MsgOk m)(w:World)(h:ChS w g S c)(i:qaf m=true)(f:m.ch=c.s.ch)(C:m.kind=8) :
  Calls Tryz.prog 107 #[.pointer (some ⟨g,0,none⟩),.agg m.cells.toArray] w (qe4 g S w c.hearShut.1 [] c.hearShut.2) :=
 qh0 _ g S c _ _ _ m p w h i f (enters_of Tryz.func181 (by kernel_rfl) rfl) (fun q=>by rw[C];exact zcj q) (fun W F=>(qsg g S c m p.len W (h.new F)).mono (by
  rintro e w' ⟨z,v,E⟩;exact⟨_,z,qb3.nil _ _,v,E⟩))
theorem que(g:Nat)(S:Nat→Prop)(c:Ch)(m:MsgV)(q:MsgOk m)(w:World)(h:ChS w g S c)(p:qaf m=true)(i:m.ch=c.s.ch)(I:m.kind=7)(f:qv1 c)(E:Tb w)(C:Apart S) :
  Calls Tryz.prog 107 #[.pointer (some ⟨g,0,none⟩),.agg m.cells.toArray] w (qe4 g S w (c.hearRevoke m).1 [] (c.hearRevoke m).2) :=
 qh0 _ g S c _ _ _ m q w h p i (enters_of Tryz.func180 (by kernel_rfl) rfl) (fun z=>by rw[I];exact zci z) (fun W v=>(qok g S c m q W (h.new v) f (E.new v) C).mono (by
  rintro e w' ⟨H,F,J⟩;exact⟨_,H,qb3.nil _ _,F,J⟩))
theorem q1h(g:Nat)(S:Nat→Prop)(c:Ch)(m:MsgV)(E:MsgOk m)(w:World)(h:ChS w g S c)(z:qaf m=true)(i:m.ch=c.s.ch)(M:m.kind=6)(J:Tb w)(I:Apart S)(q:c.s.peer.size≤100000000)(f:0≤c.s.ch∧c.s.ch<4294967296)(p:c.k.heard<4294967295)(C:c.xs.length≤16) :
  Calls Tryz.prog 107 #[.pointer (some ⟨g,0,none⟩),.agg m.cells.toArray] w (qe4 g S w (c.hearSign m).1 (c.hearSign m).2.1 (c.hearSign m).2.2) :=
 qh0 _ g S c _ _ _ m E w h z i (enters_of Tryz.func179 (by kernel_rfl) rfl) (fun H=>by rw[M];exact zch H) (fun W F=>(qsh g S c m E W (h.new F) (J.new F) I q f p C).mono (by
  rintro e w' ⟨v,L,N,K,O⟩;exact⟨v,L,N,K,O⟩))
end
section
open Go.RowKit
structure Two(w0 w:World)(gA gB:Nat)(SA SB:Nat→Prop)(a b:Ch):Prop where
 A:ChS w gA SA a
 B:ChS w gB SB b
 geA:∀k,SA k→w0.heap.size≤k
 geB:∀k,SB k→w0.heap.size≤k
 sep:∀k,SA k→¬SB k
 n:qu w0 w
section
variable {w0 w w':World}{gA gB:Nat}{SA SB:Nat→Prop}{a b a' b':Ch}
end
theorem qxw(g:Nat)(S:Nat→Prop)(c:Ch)(n:Int)(h:List Int)(ex:Int)(w:World)(p:ChS w g S c)(i:h.length=32)(m:qbg h)(q:0≤n∧n<18446744073709551616)(v : -9223372036854775808≤ex∧ex≤9223372036854775807)(f:c.news.length<1000000∧c.xs.length<1000000) :
  Calls Tryz.prog 47 #[.pointer (some ⟨g,0,none⟩),.int .u64 n,.agg (qs h).toArray,.int .i64 ex] w fun e w' =>
   e = .returned (.tuple #[.agg (c.offer n (qa5 h) ex).2.1.cells.toArray,.int .i64 (c.offer n (qa5 h) ex).2.2])∧ChS w' g (Fr S w w') (c.offer n (qa5 h) ex).1∧Upd S w w':=by
 have:=q2g g S c n (qa5 h) ex w p q v (by rw[qd6 i];exact m) f
 rw[qd6 i] at this
 exact this
theorem q1u(g:Nat)(S:Nat→Prop)(c:Ch)(w:World)(h:ChS w g S c):Calls Tryz.prog 20 #[.pointer (some ⟨g,0,none⟩)] w fun e w'=>∃u,e = .returned u∧qu w w'∧((∃a k,u = .slice a 0 k∧c.xs=[])∨∃f cap,u = .slice (some ⟨f,0,none⟩) c.xs.length cap∧w.heap.size≤f∧qdy w' f 0 c.xs):=by
 obtain⟨m,p,i,h⟩:=h;exact q6q g _ c.xs (by have:=h.ok.few;omega) w h.toI
theorem q0z(a b:Int)(w:World):(Instr.field 59 (.agg #[.int .u64 a,.int .u64 b]) 0).run Tryz.prog w = .ok (.int .u64 a) w:=by kernel_rfl
theorem q00(a b:Int)(w:World):(Instr.field 59 (.agg #[.int .u64 a,.int .u64 b]) 1).run Tryz.prog w = .ok (.int .u64 b) w:=by kernel_rfl
theorem qpi(key:ByteArray)(ch n l r:Int)(xs:List Live):qbo true key ch n r l (xs.map qfz)=qbo false key ch n l r xs:=by
 have f:=qxb false xs;have i:=q3i false l r xs;unfold qbo qjd qje;simp only[Bool.not_false] at f i;rw[f,i];rfl
structure Lk where
 c:Ch
 j:Jo
 rest:ByteArray
 out:ByteArray
 ev:Value
 ticks:Int
 dead:Bool
 broken:Bool
 waits:Bool
def Lk.v(l:Lk)(sp en lo:Nat):LinkV:=⟨sp,en,lo,l.out,l.ev,l.ticks,l.dead,l.broken,l.waits⟩
structure LkP(w:World)(g:Nat)(S:Nat→Prop)(l:Lk)(sp en lo:Nat)(SC SJ:Nat→Prop):Prop where
 at_:LkR w g (l.v sp en lo)
 spl:SpR w sp l.rest
 chn:ChS w en SC l.c
 jou:JoS w lo SJ l.j
 inG:S g
 inS:S sp
 inC:∀k,SC k→S k
 inJ:∀k,SJ k→S k
 gC:¬SC g
 gJ:¬SJ g
 sC:¬SC sp
 sJ:¬SJ sp
 cJ:∀k,SC k→¬SJ k
 lt:∀k,S k→k<w.heap.size
def LkS(w:World)(g:Nat)(S:Nat→Prop)(l:Lk):Prop:=∃sp en lo SC SJ,LkP w g S l sp en lo SC SJ
section
variable {w w':World}{g:Nat}{S T:Nat→Prop}{l:Lk}{sp en lo:Nat}{SC SJ:Nat→Prop}
theorem LkP.upd(h:LkP w g S l sp en lo SC SJ)(u:Upd T w w')(hd:∀k,S k→¬T k):LkP w' g S l sp en lo SC SJ :=
 ⟨u.old h.at_ (hd g h.inG),u.old h.spl (hd sp h.inS),h.chn.upd u (fun k f=>hd k (h.inC k f)),h.jou.upd u (fun k f=>hd k (h.inJ k f)),h.inG,h.inS,h.inC,h.inJ,h.gC,h.gJ,h.sC,h.sJ,h.cJ,fun k f=>Nat.lt_of_lt_of_le (h.lt k f) u.size⟩
theorem LkS.upd(h:LkS w g S l)(u:Upd T w w')(hd:∀k,S k→¬T k):LkS w' g S l:=by
 obtain⟨sp,en,lo,SC,SJ,h⟩:=h;exact⟨sp,en,lo,SC,SJ,h.upd u hd⟩
theorem LkS.new(h:LkS w g S l)(u:qu w w'):LkS w' g S l:=h.upd u (fun _ _ h=>h)
theorem LkP.new(h:LkP w g S l sp en lo SC SJ)(u:qu w w'):LkP w' g S l sp en lo SC SJ:=h.upd u (fun _ _ h=>h)
theorem LkS.lt(h:LkS w g S l):∀k,S k→k<w.heap.size:=by
 obtain⟨sp,en,lo,SC,SJ,h⟩:=h;exact h.lt
theorem LkP.ne(h:LkP w g S l sp en lo SC SJ):g≠sp:=qao h.at_ h.spl (by decide)
theorem LkP.wider(h:LkP w g S l sp en lo SC SJ)(f:∀k,S k→T k)(i:∀k,T k→k<w.heap.size):LkP w g T l sp en lo SC SJ :=
 ⟨h.at_,h.spl,h.chn,h.jou,f g h.inG,f sp h.inS,fun k e=>f k (h.inC k e),fun k e=>f k (h.inJ k e),h.gC,h.gJ,h.sC,h.sJ,h.cJ,i⟩
theorem LkP.chan(h:LkP w g S l sp en lo SC SJ)(u:Upd SC w w'){c':Ch}(p:ChS w' en (Fr SC w w') c'):LkP w' g (Fr S w w') {l with c:=c'} sp en lo (Fr SC w w') SJ:=by
 have i:∀k,Fr SC w w' k→k<w.heap.size→SC k:=fun k f q=>f.elim id (fun e=>by omega)
 refine⟨u.old h.at_ h.gC,u.old h.spl h.sC,p,h.jou.upd u (fun k f e=>h.cJ k e f),.inl h.inG,.inl h.inS,?_,fun k f=> .inl (h.inJ k f),?_,h.gJ,?_,h.sJ,?_,?_⟩
 ·rintro k (f | f)
  ·exact .inl (h.inC k f)
  ·exact .inr f
 ·exact fun e=>h.gC (i g e (h.lt g h.inG))
 ·exact fun e=>h.sC (i sp e (h.lt sp h.inS))
 ·exact fun k f m=>h.cJ k (i k f (h.jou.lt k m)) m
 ·rintro k (f | f)
  ·exact Nat.lt_of_lt_of_le (h.lt k f) u.size
  ·exact f.2
theorem LkP.jour(h:LkP w g S l sp en lo SC SJ)(u:Upd SJ w w'){m:Jo}(p:JoS w' lo (Fr SJ w w') m):LkP w' g (Fr S w w') {l with j:=m} sp en lo SC (Fr SJ w w'):=by
 have i:∀k,Fr SJ w w' k→k<w.heap.size→SJ k:=fun k f v=>f.elim id (fun e=>by omega)
 refine⟨u.old h.at_ h.gJ,u.old h.spl h.sJ,h.chn.upd u (fun k f e=>h.cJ k f e),p,.inl h.inG,.inl h.inS,fun k f=> .inl (h.inC k f),?_,h.gC,?_,h.sC,?_,?_,?_⟩
 ·rintro k (f | f)
  ·exact .inl (h.inJ k f)
  ·exact .inr f
 ·exact fun e=>h.gJ (i g e (h.lt g h.inG))
 ·exact fun e=>h.sJ (i sp e (h.lt sp h.inS))
 ·exact fun k f q=>h.cJ k f (i k q (h.chn.lt k f))
 ·rintro k (f | f)
  ·exact Nat.lt_of_lt_of_le (h.lt k f) u.size
  ·exact f.2
theorem LkP.put(h:LkP w g S l sp en lo SC SJ){i:Nat}{x:Value}{l':Lk}(p:(l.v sp en lo).cells.toArray.setIfInBounds i x=(l'.v sp en lo).cells.toArray)(z:l'.rest=l.rest)(m:l'.c=l.c)(q:l'.j=l.j) :
  LkP (w.setCell ⟨g,i,none⟩ x) g S l' sp en lo SC SJ:=by
 have u:Upd (· = g) w (w.setCell ⟨g,i,none⟩ x):=(Upd.refl _ _).set1 i x
 refine⟨?_,?_,?_,?_,h.inG,h.inS,h.inC,h.inJ,h.gC,h.gJ,h.sC,h.sJ,h.cJ,fun k f=>Nat.lt_of_lt_of_le (h.lt k f) u.size⟩
 ·have:=zt h.at_ i x;rw[p] at this;exact this
 ·rw[z];exact u.old h.spl (fun e=>h.ne e.symm)
 ·rw[m];exact h.chn.upd u (fun k f e=>h.gC (e▸f))
 ·rw[q];exact h.jou.upd u (fun k f e=>h.gJ (e▸f))
end
theorem LkP.put_out{w:World}{g:Nat}{S:Nat→Prop}{l:Lk}{sp en lo:Nat}{SC SJ:Nat→Prop}(h:LkP w g S l sp en lo SC SJ)(s:ByteArray):LkP (w.setCell ⟨g,3,none⟩ (.string s)) g S {l with out:=s} sp en lo SC SJ:=h.put rfl rfl rfl rfl
theorem LkP.put_ticks{w:World}{g:Nat}{S:Nat→Prop}{l:Lk}{sp en lo:Nat}{SC SJ:Nat→Prop}(h:LkP w g S l sp en lo SC SJ)(n:Int):LkP (w.setCell ⟨g,5,none⟩ (.int .i64 n)) g S {l with ticks:=n} sp en lo SC SJ:=h.put rfl rfl rfl rfl
theorem LkP.put_dead{w:World}{g:Nat}{S:Nat→Prop}{l:Lk}{sp en lo:Nat}{SC SJ:Nat→Prop}(h:LkP w g S l sp en lo SC SJ)(b:Bool):LkP (w.setCell ⟨g,6,none⟩ (.bool b)) g S {l with dead:=b} sp en lo SC SJ:=h.put rfl rfl rfl rfl
def Lk.new(c:Ch):Lk:=⟨c,.new,⟨#[]⟩,⟨#[]⟩,qbw,0,false,false,false⟩
theorem qbi(n f:Nat)(w:World)(m:1≤f)(p:f≤8)(E:n<2 ^ (8*f)) :
  Calls Tryz.prog 48 #[.int .u64 n,.int .i64 f] w (qa1 (.string (zc n f)) w):=by
 go_enter Tryz.func48,Tryz.ntmps48
 go_upto_region 2 with fail
 have b1:Wr (w.alloc (.cells #[.string ⟨#[]⟩] 174)) w.heap.size ⟨#[]⟩:=qh _ _
 have q:qu w (w.alloc (.cells #[.string ⟨#[]⟩] 174)):=(Upd.refl _ _).alloc _
 have H:¬w.heap.size<w.heap.size:=Nat.lt_irrefl _
 generalize w.alloc (.cells #[.string ⟨#[]⟩] 174)=w1 at b1 q ⊢
 have M:=qb q
 have L:=qb H
 generalize C:w.heap.size=B at b1 L ⊢
 have J:=qb C
 clear q C H
 have z:(⟨#[]⟩:ByteArray)++zc n f=zc n f:=ByteArray.empty_append
 have i:=qdo B n f ⟨#[]⟩ w1 b1 m p E (by show (0:Nat)≤_;omega)
 rw[z] at i
 generalize F:zc n f=v at i
 have K:=qb F
 clear z b1 E m p F
 go_wp2_with fail
 refine i.mono ?_
 rintro e R ⟨rfl,I,O⟩
 have N:=qb ((qa M).then I (fun k P e=>by have:=qa J;omega))
 clear i I
 go_wp2_with fail
 refine(qfx _ _ _ O).mono ?_
 rintro e U ⟨rfl,rfl⟩
 go_wp2_with fail
 go_ret
 exact⟨by rw[qa K];rfl,qa N⟩
attribute [local go_sem ↓ high] zl qaa qad
attribute [local go_sem] qbf qci qcj qv
theorem qd9(h:List Int)(w:World)(F:h.length=32) :
  Calls Tryz.prog 49 #[.agg (qs h).toArray] w (qa1 (.string (strOfNums h)) w):=by
 go_enter Tryz.func49,Tryz.ntmps49
 go_upto_region 1 with fail
 have v:=qh w (.cells (qs h).toArray 35)
 have C:qu w (w.alloc (.cells (qs h).toArray 35)):=(Upd.refl _ _).alloc _
 generalize w.alloc (.cells (qs h).toArray 35)=w1 at v C ⊢
 generalize w.heap.size=B at v ⊢
 have z:(convert 95 9 (.slice (some ⟨B,0,none⟩) 32 32)).run Tryz.prog w1 = .ok (.string (strOfNums h)) w1:=by
  refine run_convert_bytes_arg w1 95 5 Tryz.underlying95 Tryz.underlying5 B 0 32 32 h F (fun i H=> ?_) 9 Tryz.underlying9;have f:i<h.length:=by omega
  rw[Nat.zero_add,qg v i,List.getElem?_toArray];unfold qs;rw[List.getElem?_map,List.getElem?_eq_getElem f];simp[List.getD,List.getElem?_eq_getElem f]
 generalize m:strOfNums h=q at z
 have p:=qb m
 clear m
 have E:=qb C
 clear C
 go_wp2_with fail
 go_ret
 exact⟨by rw[qa p];rfl,qa E⟩
end
section
open Go.RowKit
def zeh(n:Nat):Nat:=if n=156 then 114 else if n=165 then 150 else if n=166 then 125 else if n=169 then 151 else if n=240 then 163 else if n=241 then 184 else if n=276 then 195 else if n=277 then 207 else n
def zej(n:Nat):Nat:=if n=0 then 0 else if n=3 then 3 else if n=4 then 4 else if n=5 then 5 else if n=9 then 9 else if n=20 then 20 else if n=31 then 163 else if n=37 then 95 else if n=70 then 209 else if n=72 then 211 else if n=75 then 217 else if n=76 then 218 else if n=80 then 100 else if n=127 then 279 else if n=164 then 292 else n
def zdm:Go.Shelf.Ren:=⟨zeh,zej,fun n=>n⟩
theorem zei:Lays.n156 Tryz.prog zdm where
 mixed:=by kernel_rfl
 f156:=by kernel_rfl
 f165:=by kernel_rfl
 f166:=by kernel_rfl
 f169:=by kernel_rfl
 f240:=by kernel_rfl
 f241:=by kernel_rfl
 f276:=by kernel_rfl
 f277:=by kernel_rfl
 t0:=Tryz.underlying0
 a0:=Tryz.isAgg0
 z0:=Tryz.sizeOf0
 v0:=Tryz.zeroValue0
 t3:=Tryz.underlying3
 a3:=Tryz.isAgg3
 z3:=Tryz.sizeOf3
 v3:=Tryz.zeroValue3
 t4:=Tryz.underlying4
 a4:=Tryz.isAgg4
 z4:=Tryz.sizeOf4
 v4:=Tryz.zeroValue4
 t9:=Tryz.underlying9
 a9:=Tryz.isAgg9
 z9:=Tryz.sizeOf9
 v9:=Tryz.zeroValue9
 t20:=Tryz.underlying20
 a20:=Tryz.isAgg20
 z20:=Tryz.sizeOf20
 v20:=Tryz.zeroValue20
 t31:=Tryz.underlying163
 a31:=Tryz.isAgg163
 z31:=Tryz.sizeOf163
 v31:=Tryz.zeroValue163
 t37:=Tryz.underlying95
 a37:=Tryz.isAgg95
 z37:=Tryz.sizeOf95
 v37:=Tryz.zeroValue95
 t70:=Tryz.underlying209
 a70:=Tryz.isAgg209
 z70:=Tryz.sizeOf209
 v70:=Tryz.zeroValue209
 t72:=Tryz.underlying211
 a72:=Tryz.isAgg211
 z72:=Tryz.sizeOf211
 v72:=Tryz.zeroValue211
 t75:=Tryz.underlying217
 a75:=Tryz.isAgg217
 z75:=Tryz.sizeOf217
 v75:=Tryz.zeroValue217
 t76:=Tryz.underlying218
 a76:=Tryz.isAgg218
 z76:=Tryz.sizeOf218
 v76:=Tryz.zeroValue218
 t127:=Tryz.underlying279
 a127:=Tryz.isAgg279
 z127:=Tryz.sizeOf279
 v127:=Tryz.zeroValue279
 t164:=Tryz.underlying292
 a164:=Tryz.isAgg292
 z164:=Tryz.sizeOf292
 v164:=Tryz.zeroValue292
theorem zek:Builder.Extra Tryz.prog zdm where
 sizeBuilder:=by kernel_rfl
 liesBuilder:=by kernel_rfl
 t5:=Tryz.underlying5
 a5:=Tryz.isAgg5
 z5:=Tryz.sizeOf5
 v5:=Tryz.zeroValue5
 infoByte:=by kernel_rfl
 cellsByte:=by kernel_rfl
 sizeByte:=by kernel_rfl
 neB5:=by decide
def zk:List ByteArray→ByteArray
 | []=>⟨#[]⟩
 | x::r=>x++zk r
theorem qqm{α:Type} : ∀f:List (List α),([]:List α).intercalate f=f.flatten
 | []=>rfl
 | [x]=>by rw[List.intercalate_singleton];simp
 | x::y::r=>by rw[List.intercalate_cons_cons,qqm (y::r)];simp
theorem q6e(xs:List ByteArray):(⟨(Lib.join (xs.map (·.data.toList)) []).toArray⟩:ByteArray)=zk xs:=by
 unfold Lib.join;rw[qqm]
 induction xs with
 | nil=>rfl
 | cons x r f =>
  rw[List.map_cons,List.flatten_cons,zk,←f];apply ByteArray.ext;simp[ByteArray.data_append]
theorem quk(b:Nat)(xs:List ByteArray)(w:World)(i:∀j x,xs[j]? = some x→w.cell? ⟨b,j,none⟩=some (.string x))(f:b<w.heap.size)(q:xs.length≤1000)(p:(zk xs).size≤1000000000) :
  Calls Tryz.prog 114 #[.slice (some ⟨b,0,none⟩) xs.length xs.length,.string ⟨#[]⟩] w (qa1 (.string (zk xs)) w):=by
 have e:=q6e xs
 refine(Any.strings_Join zei zek b 0 xs.length xs ⟨#[]⟩ w (fun j x h=>by rw[Nat.zero_add];exact i j x h) f (by omega) (Nat.le_refl _) ?_).mono ?_
 ·have:(Lib.join (xs.map (·.data.toList)) []).length=(zk xs).size:=by rw[←e];simp[ByteArray.size]
  show (Lib.join (xs.map (·.data.toList)) []).length≤_;omega
 ·rintro r w' ⟨rfl,m⟩;exact⟨congrArg (fun s=>Ending.returned (Value.string s)) e,Upd.of_below m (Nat.le_refl _)⟩
def Fld.put(x:Fld)(m:MsgV):ByteArray :=
 match x with
 | .ch=>zc m.ch.toNat 4
 | .id=>zc m.id.toNat 8
 | .amount=>zc m.amount.toNat 8
 | .hash=>strOfNums m.hash
 | .expiry=>zc m.expiry.toNat 4
 | .number=>zc m.number.toNat 2
theorem Fld.put_size(x:Fld)(m:MsgV)(h:m.hash.length=32):(x.put m).size≤32:=by
 cases x
 case hash=>show (strOfNums m.hash).size≤32;rw[strOfNums_size,h];exact Nat.le_refl _
 all_goals (unfold Fld.put;simp only[qak];decide)
def qeq(xs:List Fld)(m:MsgV)(s:ByteArray):ByteArray:=xs.foldl (fun s x=>s++x.put m) s
theorem q2o{xs:List Fld}{i:Nat}{x:Fld}(h:xs[i]? = some x)(m:MsgV)(s:ByteArray):qeq (xs.take (i+1)) m s=qeq (xs.take i) m s++x.put m:=by
 unfold qeq;rw[List.take_add_one,h,List.foldl_append];rfl
theorem qjp(m:MsgV)(h:m.hash.length=32):∀(xs:List Fld) (s:ByteArray),(qeq xs m s).size≤s.size+32*xs.length
 | [],s=>Nat.le_refl _
 | x::xs,s=>by
  have f:=qjp m h xs (s++x.put m);have i:=x.put_size m h;have e:qeq (x::xs) m s=qeq xs m (s++x.put m):=rfl;rw[ByteArray.size_append] at f;rw[e,List.length_cons];omega
def qhe(W:Nat):Value:= .agg #[.pointer (some ⟨W,0,none⟩),.pointer none]
theorem qe1(w:World):Calls Tryz.prog 135 #[.int .i64 0] w (qay (.tuple #[]) w):=by
 go_enter Tryz.func135,Tryz.ntmps135;go_wp2_with fail;go_end0;exact⟨rfl,Q.refl _⟩
attribute [local go_sem ↓ high] zl qaa qad qam
attribute [local go_sem] qbf qci qcj qdh qv
theorem qox(F:FuncId)(o A p q W n:Nat)(x:Nat)(m:MsgV)(s:ByteArray)(w:World)(hE:∀args w,(callFunc F args).run Tryz.prog w = .ok (.enter F args) w)(hF:∀w,Calls Tryz.prog F #[.pointer (some ⟨A,0,none⟩)] w (qay (.pointer (some ⟨A,o,none⟩)) w))(X:w.cell? ⟨p,0,none⟩=some (.func (.func F) #[] #[]))(Y:w.cell? ⟨q,0,none⟩=some (.int .i64 (n:Int)))(T:MsB w A m)(ho:m.cells[o]? = some (.int .u64 (x:Int)))(U:Wr w W s)(V:1≤n∧n≤8)(hx:x<2 ^ (8*n))(a8:x<18446744073709551616)(hs:s.size≤1073741824) :
  Calls Tryz.prog 200 #[qhe W,.pointer (some ⟨A,0,none⟩),.pointer (some ⟨p,0,none⟩),.pointer (some ⟨q,0,none⟩)] w fun e w'=>e = .returned (.tuple #[])∧Upd (fun k=>k=W) w w'∧Wr w' W (s++zc x n):=by
 unfold qhe
 have b3:(x:Int)<18446744073709551616:=by omega
 have a7:IntKind.u64.wrap (x:Int)=x:=qel (by omega) (by omega)
 go_enter Tryz.func200,Tryz.ntmps200
 go_upto_region 1 with fail
 have i:qu w (w.alloc (.cells #[.pointer (some ⟨W,0,none⟩),.pointer none] 234)):=(Upd.refl _ _).alloc _
 have J:=qh w (.cells #[.pointer (some ⟨W,0,none⟩),.pointer none] 234)
 generalize w.alloc (.cells #[.pointer (some ⟨W,0,none⟩),.pointer none] 234)=w1 at i J ⊢
 generalize w.heap.size=B at J ⊢
 have M:=i.cell X (fun h=>h)
 have I:=i.cell Y (fun h=>h)
 have O:=qb (T.new i)
 have L:=qb J
 have z:=qb (U.new i)
 have P:=qb i
 clear J X T U Y i
 go_wp2_with fail
 refine(hF w1).mono ?_
 rintro e K ⟨rfl,v⟩
 have C:=(qa O).new (v.upd _)
 have d0:K.cell? ⟨B,0,none⟩=some (.pointer (some ⟨W,0,none⟩)):=v.cell (qg (qa L) 0)
 have d1:K.cell? ⟨B,1,none⟩=some (.pointer none):=v.cell (qg (qa L) 1)
 have co:K.cell? ⟨A,o,none⟩=some (.int .u64 (x:Int)):=by rw[qg C.at_,List.getElem?_toArray];exact ho
 have a6:=v.cell I
 have E:=(qa z).new (v.upd _)
 have R:=qb ((qa P).trans (v.upd _))
 have f:=fun w' (n':qu K w')=>qdo W x n s w' (E.new n') V.1 V.2 hx hs
 clear C v M L O z P E I
 go_wp2_with ((with_reducible first|rfl|refine' ut ?_ ?_;rotate_left|refine' uu ?_)<;>intros)
 refine(f _ ((Upd.refl _ _).drew)).mono ?_
 rintro e w3 ⟨rfl,Z,H⟩
 have S:=qb (((qa R).drew.mono (fun _ _ h=>h.elim)).trans Z)
 have z:=qb H
 clear f R Z H
 go_wp2_with ((with_reducible first|rfl|refine' ut ?_ ?_;rotate_left|refine' uu ?_)<;>intros)
 refine(qe1 _).mono ?_
 rintro e w4 ⟨rfl,N⟩
 have U4:=qb ((qa S).trans (N.upd _))
 have z:=qb ((qa z).new (N.upd _))
 clear S N
 go_wp2_with ((with_reducible first|rfl|refine' ut ?_ ?_;rotate_left|refine' uu ?_)<;>intros)
 go_end0
 exact⟨rfl,qa U4,qa z⟩
theorem qow(F:FuncId)(o A p q W n:Nat)(x:Nat)(m:MsgV)(s:ByteArray)(w:World)(hE:∀args w,(callFunc F args).run Tryz.prog w = .ok (.enter F args) w)(hF:∀w,Calls Tryz.prog F #[.pointer (some ⟨A,0,none⟩)] w (qay (.pointer (some ⟨A,o,none⟩)) w))(X:w.cell? ⟨p,0,none⟩=some (.func (.func F) #[] #[]))(Y:w.cell? ⟨q,0,none⟩=some (.int .i64 (n:Int)))(T:MsB w A m)(ho:m.cells[o]? = some (.int .i64 (x:Int)))(U:Wr w W s)(V:1≤n∧n≤8)(hx:x<2 ^ (8*n))(a8:x<18446744073709551616)(hs:s.size≤1073741824) :
  Calls Tryz.prog 201 #[qhe W,.pointer (some ⟨A,0,none⟩),.pointer (some ⟨p,0,none⟩),.pointer (some ⟨q,0,none⟩)] w fun e w'=>e = .returned (.tuple #[])∧Upd (fun k=>k=W) w w'∧Wr w' W (s++zc x n):=by
 unfold qhe
 have b3:(x:Int)<18446744073709551616:=by omega
 have a7:IntKind.u64.wrap (x:Int)=x:=qel (by omega) (by omega)
 go_enter Tryz.func201,Tryz.ntmps201
 go_upto_region 1 with fail
 have i:qu w (w.alloc (.cells #[.pointer (some ⟨W,0,none⟩),.pointer none] 234)):=(Upd.refl _ _).alloc _
 have J:=qh w (.cells #[.pointer (some ⟨W,0,none⟩),.pointer none] 234)
 generalize w.alloc (.cells #[.pointer (some ⟨W,0,none⟩),.pointer none] 234)=w1 at i J ⊢
 generalize w.heap.size=B at J ⊢
 have M:=i.cell X (fun h=>h)
 have I:=i.cell Y (fun h=>h)
 have O:=qb (T.new i)
 have L:=qb J
 have z:=qb (U.new i)
 have P:=qb i
 clear J X T U Y i
 go_wp2_with fail
 refine(hF w1).mono ?_
 rintro e K ⟨rfl,v⟩
 have C:=(qa O).new (v.upd _)
 have d0:K.cell? ⟨B,0,none⟩=some (.pointer (some ⟨W,0,none⟩)):=v.cell (qg (qa L) 0)
 have d1:K.cell? ⟨B,1,none⟩=some (.pointer none):=v.cell (qg (qa L) 1)
 have co:K.cell? ⟨A,o,none⟩=some (.int .i64 (x:Int)):=by rw[qg C.at_,List.getElem?_toArray];exact ho
 have a6:=v.cell I
 have E:=(qa z).new (v.upd _)
 have R:=qb ((qa P).trans (v.upd _))
 have f:=fun w' (n':qu K w')=>qdo W x n s w' (E.new n') V.1 V.2 hx hs
 clear C v M L O z P E I
 go_wp2_with ((with_reducible first|rfl|refine' ut ?_ ?_;rotate_left|refine' uu ?_)<;>intros)
 refine(f _ ((Upd.refl _ _).drew)).mono ?_
 rintro e w3 ⟨rfl,Z,H⟩
 have S:=qb (((qa R).drew.mono (fun _ _ h=>h.elim)).trans Z)
 have z:=qb H
 clear f R Z H
 go_wp2_with ((with_reducible first|rfl|refine' ut ?_ ?_;rotate_left|refine' uu ?_)<;>intros)
 refine(qe1 _).mono ?_
 rintro e w4 ⟨rfl,N⟩
 have U4:=qb ((qa S).trans (N.upd _))
 have z:=qb ((qa z).new (N.upd _))
 clear S N
 go_wp2_with ((with_reducible first|rfl|refine' ut ?_ ?_;rotate_left|refine' uu ?_)<;>intros)
 go_end0
 exact⟨rfl,qa U4,qa z⟩
theorem qx1(F:FuncId)(o A p q W n:Nat)(x:Nat)(m:MsgV)(s:ByteArray)(w:World)(hE:∀args w,(callFunc F args).run Tryz.prog w = .ok (.enter F args) w)(hF:∀w,Calls Tryz.prog F #[.pointer (some ⟨A,0,none⟩)] w (qay (.pointer (some ⟨A,o,none⟩)) w))(X:w.cell? ⟨p,0,none⟩=some (.func (.func F) #[] #[]))(Y:w.cell? ⟨q,0,none⟩=some (.int .i64 (n:Int)))(T:MsB w A m)(ho:m.cells[o]? = some (.int .u32 (x:Int)))(U:Wr w W s)(V:1≤n∧n≤8)(hx:x<2 ^ (8*n))(a8:x<18446744073709551616)(hs:s.size≤1073741824) :
  Calls Tryz.prog 214 #[qhe W,.pointer (some ⟨A,0,none⟩),.pointer (some ⟨p,0,none⟩),.pointer (some ⟨q,0,none⟩)] w fun e w'=>e = .returned (.tuple #[])∧Upd (fun k=>k=W) w w'∧Wr w' W (s++zc x n):=by
 unfold qhe
 have b3:(x:Int)<18446744073709551616:=by omega
 have a7:IntKind.u64.wrap (x:Int)=x:=qel (by omega) (by omega)
 go_enter Tryz.func214,Tryz.ntmps214
 go_upto_region 1 with fail
 have i:qu w (w.alloc (.cells #[.pointer (some ⟨W,0,none⟩),.pointer none] 234)):=(Upd.refl _ _).alloc _
 have J:=qh w (.cells #[.pointer (some ⟨W,0,none⟩),.pointer none] 234)
 generalize w.alloc (.cells #[.pointer (some ⟨W,0,none⟩),.pointer none] 234)=w1 at i J ⊢
 generalize w.heap.size=B at J ⊢
 have M:=i.cell X (fun h=>h)
 have I:=i.cell Y (fun h=>h)
 have O:=qb (T.new i)
 have L:=qb J
 have z:=qb (U.new i)
 have P:=qb i
 clear J X T U Y i
 go_wp2_with fail
 refine(hF w1).mono ?_
 rintro e K ⟨rfl,v⟩
 have C:=(qa O).new (v.upd _)
 have d0:K.cell? ⟨B,0,none⟩=some (.pointer (some ⟨W,0,none⟩)):=v.cell (qg (qa L) 0)
 have d1:K.cell? ⟨B,1,none⟩=some (.pointer none):=v.cell (qg (qa L) 1)
 have co:K.cell? ⟨A,o,none⟩=some (.int .u32 (x:Int)):=by rw[qg C.at_,List.getElem?_toArray];exact ho
 have a6:=v.cell I
 have E:=(qa z).new (v.upd _)
 have R:=qb ((qa P).trans (v.upd _))
 have f:=fun w' (n':qu K w')=>qdo W x n s w' (E.new n') V.1 V.2 hx hs
 clear C v M L O z P E I
 go_wp2_with ((with_reducible first|rfl|refine' ut ?_ ?_;rotate_left|refine' uu ?_)<;>intros)
 refine(f _ ((Upd.refl _ _).drew)).mono ?_
 rintro e w3 ⟨rfl,Z,H⟩
 have S:=qb (((qa R).drew.mono (fun _ _ h=>h.elim)).trans Z)
 have z:=qb H
 clear f R Z H
 go_wp2_with ((with_reducible first|rfl|refine' ut ?_ ?_;rotate_left|refine' uu ?_)<;>intros)
 refine(qe1 _).mono ?_
 rintro e w4 ⟨rfl,N⟩
 have U4:=qb ((qa S).trans (N.upd _))
 have z:=qb ((qa z).new (N.upd _))
 clear S N
 go_wp2_with ((with_reducible first|rfl|refine' ut ?_ ?_;rotate_left|refine' uu ?_)<;>intros)
 go_end0
 exact⟨rfl,qa U4,qa z⟩
theorem qu6(A W:Nat)(m:MsgV)(s:ByteArray)(w:World)(E:MsB w A m)(F:Wr w W s)(L:s.size≤1073741824) :
  Calls Tryz.prog 175 #[qhe W,.pointer (some ⟨A,0,none⟩)] w fun e w'=>e = .returned (.tuple #[])∧Upd (fun k=>k=W) w w'∧Wr w' W (s++strOfNums m.hash):=by
 unfold qhe
 go_enter Tryz.func175,Tryz.ntmps175
 go_upto_region 2 with fail
 have z:qu w (w.alloc (.cells #[.pointer (some ⟨W,0,none⟩),.pointer none] 234)):=(Upd.refl _ _).alloc _
 have v:=qh w (.cells #[.pointer (some ⟨W,0,none⟩),.pointer none] 234)
 generalize w.alloc (.cells #[.pointer (some ⟨W,0,none⟩),.pointer none] 234)=w1 at z v ⊢
 generalize w.heap.size=B at v ⊢
 have N:w1.cell? ⟨B,0,none⟩=some (.pointer (some ⟨W,0,none⟩)):=qg v 0
 have O:w1.cell? ⟨B,1,none⟩=some (.pointer none):=qg v 1
 have i:=E.new z
 have p:=F.new z
 obtain⟨-,-,-,-,-,-,R⟩:=i.cells
 have K:=i.len
 have C:=qb z
 have f:=fun w' (M:qu w1 w')=>qua W m.hash s w' (p.new M) K L
 have e:(m.hash.map (Value.int .u8)).toArray=(qs m.hash).toArray:=rfl
 rw[e] at f
 clear v E F i p z e
 generalize qs m.hash=P at *
 go_wp2_with ((with_reducible first|rfl|refine' ut ?_ ?_;rotate_left|refine' uu ?_)<;>intros)
 refine(f _ ((Upd.refl _ _).drew)).mono ?_
 rintro e S ⟨rfl,H,q⟩
 have J:=qb (((qa C).drew.mono (fun _ _ h=>h.elim)).trans H)
 have I:=qb q
 clear f C H q
 go_wp2_with ((with_reducible first|rfl|refine' ut ?_ ?_;rotate_left|refine' uu ?_)<;>intros)
 go_end0
 exact⟨rfl,qa J,qa I⟩
structure PutOk(m:MsgV):Prop where
 ok:MsgOk m
 expiry:0≤m.expiry∧m.expiry<4294967296
 number:0≤m.number∧m.number<65536
theorem qss(x:Fld)(base A W:Nat)(m:MsgV)(v:Value)(s:ByteArray)(w:World)(E:qhm base w v x)(f:MsB w A m)(P:PutOk m)(H:Wr w W s)(I:s.size≤1073741824) :
  ∃F C,v = .func (.func F) #[] C∧(∀args w,(callFunc F args).run Tryz.prog w = .ok (.enter F args) w)∧Calls Tryz.prog F (#[qhe W,.pointer (some ⟨A,0,none⟩)]++C) w fun e w'=>e = .returned (.tuple #[])∧Upd (fun k=>k=W) w w'∧Wr w' W (s++x.put m):=by
 obtain⟨U,M,O,L,V,T,-,-⟩:=P.ok
 have N:=P.expiry
 have R:=P.number
 cases x with
 | ch =>
  obtain⟨p,q,rfl,J,K,i,z⟩:=E;refine⟨_,_,rfl,enters_of Tryz.func214 (by kernel_rfl) rfl,?_⟩;exact qx1 203 1 A p q W 4 m.ch.toNat m s w (enters_of Tryz.func203 (by kernel_rfl) rfl) (qng A) i z f (by rw[Int.toNat_of_nonneg M.1];rfl) H (by decide) (by show m.ch.toNat<4294967296;omega) (by omega) I
 | id =>
  obtain⟨p,q,rfl,J,K,i,z⟩:=E;refine⟨_,_,rfl,enters_of Tryz.func200 (by kernel_rfl) rfl,?_⟩;exact qox 169 2 A p q W 8 m.id.toNat m s w (enters_of Tryz.func169 (by kernel_rfl) rfl) (qnc A) i z f (by rw[Int.toNat_of_nonneg O.1];rfl) H (by decide) (by show m.id.toNat<18446744073709551616;omega) (by omega) I
 | amount =>
  obtain⟨p,q,rfl,J,K,i,z⟩:=E;refine⟨_,_,rfl,enters_of Tryz.func200 (by kernel_rfl) rfl,?_⟩;exact qox 170 3 A p q W 8 m.amount.toNat m s w (enters_of Tryz.func170 (by kernel_rfl) rfl) (qnd A) i z f (by rw[Int.toNat_of_nonneg L.1];rfl) H (by decide) (by show m.amount.toNat<18446744073709551616;omega) (by omega) I
 | expiry =>
  obtain⟨p,q,rfl,J,K,i,z⟩:=E;refine⟨_,_,rfl,enters_of Tryz.func201 (by kernel_rfl) rfl,?_⟩;have S:m.cells[36]? = some (.int .i64 m.expiry):=by
   have:=f.cells.2.2.2.2.1;rwa [qg f.at_,List.getElem?_toArray] at this
  exact qow 172 36 A p q W 4 m.expiry.toNat m s w (enters_of Tryz.func172 (by kernel_rfl) rfl) (qne A) i z f (by rw[Int.toNat_of_nonneg N.1];exact S) H (by decide) (by show m.expiry.toNat<4294967296;omega) (by omega) I
 | number =>
  obtain⟨p,q,rfl,J,K,i,z⟩:=E;refine⟨_,_,rfl,enters_of Tryz.func201 (by kernel_rfl) rfl,?_⟩;have S:m.cells[37]? = some (.int .i64 m.number):=by
   have:=f.cells.2.2.2.2.2.1;rwa [qg f.at_,List.getElem?_toArray] at this
  exact qow 173 37 A p q W 2 m.number.toNat m s w (enters_of Tryz.func173 (by kernel_rfl) rfl) (qnf A) i z f (by rw[Int.toNat_of_nonneg R.1];exact S) H (by decide) (by show m.number.toNat<65536;omega) (by omega) I
 | hash =>
  have E:v=_:=E;subst E;exact⟨_,_,rfl,enters_of Tryz.func175 (by kernel_rfl) rfl,qu6 A W m s w f H I⟩
theorem qs4(base A W:Nat)(v:Value)(xs:List Fld)(m:MsgV)(s:ByteArray)(w0 w:World)(hv:FldsO base w0 v xs)(h0:qu w0 w)(hA:MsB w A m)(hm:PutOk m)(hW:Wr w W s)(Z:A≠W)(b5:w0.heap.size≤W)(c0:xs.length≤100)(hs:s.size≤1000000) :
  Calls Tryz.prog 139 #[qhe W,v,.pointer (some ⟨A,0,none⟩)] w fun e w'=>e = .returned (.tuple #[])∧Upd (fun k=>k=W) w w'∧Wr w' W (qeq xs m s):=by
 obtain⟨vs,q,b8,N⟩:=hv
 obtain⟨va,b4,S⟩:=zv q
 have p:∀(i:Nat) (u:Value),vs[i]? = some u→∃g,va=some ⟨g,0,none⟩∧base≤g∧w0.cell? ⟨g,i,none⟩=some u:=by
  intro i u I;have P:=(List.getElem?_eq_some_iff.1 I).1;rcases q.2 with ⟨e,e0⟩ | ⟨g,cap,Y,e,H,hg,_,_,hs,ht⟩
  ·omega
  ·rw[S] at e;injection e with e1;refine⟨g,e1,H,?_⟩;rw[qg hg];have:Y.toList[i]? = some u:=by
    rw[←I,←ht,List.getElem?_take_of_lt (by omega)]
   rwa [Array.getElem?_toList] at this
 subst S
 clear q
 have E:=qb p
 have U:=qb N
 clear p N
 unfold qhe
 go_enter Tryz.func139,Tryz.ntmps139
 go_upto_region 1 with fail
 have J:qu w (w.alloc (.cells #[.pointer (some ⟨W,0,none⟩),.pointer none] 234)):=(Upd.refl _ _).alloc _
 have H:=qh w (.cells #[.pointer (some ⟨W,0,none⟩),.pointer none] 234)
 have a6:=hW.lt
 generalize w.alloc (.cells #[.pointer (some ⟨W,0,none⟩),.pointer none] 234)=w1 at J H ⊢
 have L:W≠w.heap.size:=by omega
 generalize w.heap.size=B at H L ⊢
 have HB:=qb H
 have T:=qb (hA.new J)
 have X:=qb (hW.new J)
 have N1:=qb J
 have N0:=qb (h0.trans J)
 have b9:(xs.length:Int)≤100:=by omega
 clear H hA hW J a6 h0
 go_wp2_with fail
 go_loopw [7,10] (fun _ iv wr=>∃i:Nat,iv = .int .i64 (i:Int)∧i≤xs.length∧Hid (Wr wr W (qeq (xs.take i) m s))∧Upd (fun k=>k=W) w1 wr) (fun _ iv _=>xs.length-(intOf iv).toNat)
 case atStart=>exact⟨0,rfl,Nat.zero_le _,X,Upd.refl _ _⟩
 case round =>
  obtain⟨i,rfl,hi,hM,K⟩:=hrel;obtain⟨C,rfl⟩:∃C:World,C=wr:=⟨_,rfl⟩;by_cases P:i<xs.length
  ·obtain⟨x,hx⟩:∃x,xs[i]? = some x:=⟨_,List.getElem?_eq_getElem P⟩;obtain⟨u,I⟩:∃u,vs[i]? = some u:=⟨_,List.getElem?_eq_getElem (by omega)⟩;obtain⟨g,rfl,b6,hc⟩:=qa E i u I;have hf:=qa U i x u hx I;have nq:qu w0 C:=(qa N0).then K (fun k hk e=>by omega);have O:qhm base C u x:=hf.new nq;have a7:C.cell? ⟨g,i,none⟩=some u:=nq.cell hc (fun h=>h);have z:=K.old (qa HB) (fun e=>L e.symm);have rP:=qai z 2 rfl;have d0:C.cell? ⟨B,0,none⟩=some (.pointer (some ⟨W,0,none⟩)):=qg z 0;have d1:C.cell? ⟨B,1,none⟩=some (.pointer none):=qg z 1;have R:=qjp m hm.ok.len (xs.take i) s;rw[List.length_take] at R;obtain⟨F,b3,rfl,hE,f⟩:=qss x base A W m u _ C O ((qa T).upd K Z) hm (qa hM) (by omega);rw[←q2o hx] at f;have b7:(i:Int)<(xs.length:Int):=by omega
   unfold qhe at f;clear hf O hc z hx I R nq;go_wp2_with fail;refine f.mono ?_;rintro e w3 ⟨rfl,u3,M⟩;have a8:=K.trans u3;have V:=qb M;clear f rP d0 d1 a7 hE M u3 K;go_wp2_with fail;go_roundw
   case rel=>exact⟨i+1,by go_num,by omega,V,a8⟩
   case measure=>simp[intOf];omega
  ·obtain rfl:i=xs.length:=by omega
   rw[List.take_length] at hM;go_wp2_with fail;go_end0;exact⟨rfl,((qa N1).mono (fun _ _ h=>h.elim)).trans K,qa hM⟩
end
end Go.Proofs.YtfmkdoachjgjbaaGreatDoor
