/-
  A cell set within a row of lives; remove.
-/
import Derived.Test.YtjpmomdechibmaaGreatDoorMag
import Derived.Test.YtjpmomdechibmaaGreatDoorMbc
import Derived.Test.YtjpmomdechibmaaGreatDoorMca
import Derived.Test.YtjpmomdechibmaaGreatDoorHsg
import Derived.Test.YtjpmomdechibmaaGreatDoorMbf
import Derived.Laws.BitsAllLaws
import Derived.Outline
import Derived.Test.YtjpmomdechibmaaGreatDoorMaa
set_option linter.unusedVariables false
set_option linter.unusedSimpArgs false
namespace Go.Proofs.YtjpmomdechibmaaGreatDoor
open Go.RowKit
theorem qp7{α:Type}(f:α→List Value)(k:Nat)(g:∀x,(f x).length=k):∀(X:List α) (i j:Nat) (x y:α) (u:Value),X[i]? = some x→j<k→f y=(f x).set j u→(X.set i y).flatMap f=(X.flatMap f).set (i*k+j) u
 | [],i,j,x,y,u,h,_,_=>by simp at h
 | z::X,0,j,x,y,u,h,l,m=>by
  have:z=x:=by simpa using h
  subst this
  rw[List.set_cons_zero,List.flatMap_cons,List.flatMap_cons,m,Nat.zero_mul,Nat.zero_add,List.set_append_left _ _ (by rw[g];exact l)]
 | z::X,i+1,j,x,y,u,h,l,m=>by
  rw[List.set_cons_succ,List.flatMap_cons,List.flatMap_cons,qp7 f k g X i j x y u (by simpa using h) l m,List.set_append_right _ _ (by rw[g,Nat.succ_mul];omega),g]
  congr 2
  rw[Nat.succ_mul]
  omega
theorem qyd{α:Type}(f:α→List Value)(k:Nat)(t:∀x,(f x).length=k){w:World}{base:Nat}{T:TypeId}{v:Value}{X:List α}(h:w.ownsRow base T k v X.length (X.flatMap f)){i j:Nat}{x y:α}{u:Value}(q:X[i]? = some x)(C:j<k)(D:f y=(f x).set j u){g:Nat}(z:v.ownBlock=some g) :
  (w.setCell ⟨g,i*k+j,none⟩ u).ownsRow base T k v (X.set i y).length ((X.set i y).flatMap f):=by
 have H:=(List.getElem?_eq_some_iff.1 q).1
 rcases h.2 with ⟨e,L⟩ | ⟨g',cap,l,e,E,m,F,K,I,J⟩
 ·omega
 ·rw[e] at z
  have o:g'=g:=by simpa [Value.ownBlock] using z
  subst o
  rw[List.length_set]
  refine⟨?_,.inr ⟨g',cap,l.setIfInBounds (i*k+j) u,e,E,zz m _ _,F,K,by rw[Array.size_setIfInBounds];exact I,?_⟩⟩
  ·rw[qp7 f k t X i j x y u q C D,List.length_set]
   exact h.1
  ·rw[qp7 f k t X i j x y u q C D,←J,Array.toList_setIfInBounds,List.take_set]
theorem q0u(x:Live)(s:Int):qm {x with state:=s} = (qm x).set 36 (.int .i64 s):=by
 unfold qm
 rw[List.set_append_right _ _ (by rw[qbd];omega),qbd]
 rfl
theorem q0v(x:Live)(p:Bool):qm {x with paid:=p} = (qm x).set 37 (.bool p):=by
 unfold qm
 rw[List.set_append_right _ _ (by rw[qbd];omega),qbd]
 rfl
def Ch.removed(c:Ch)(i:Nat)(x:Live)(paid:Bool):Ch:= {c with xs:=c.xs.set i {x with state:=5,paid:=paid}}
set_option maxRecDepth 100000 in
set_option maxHeartbeats 1000000 in
theorem qjq(g:Nat)(S:Nat→Prop)(c:Ch)(o nv P:Value)(i:Nat)(x:Live)(paid:Bool)(w:World)(h:ChP w g S c o nv P)(L:c.xs[i]? = some x) :
  Calls Tryz.prog 49 #[.pointer (some ⟨g,0,none⟩),.int .i64 i,.bool paid] w fun e w'=>e = .returned (.tuple #[])∧ChP w' g S (c.removed i x paid) o nv P∧Upd (fun k=>o.ownBlock=some k) w w':=by
 have F:=(List.getElem?_eq_some_iff.1 L).1
 have R:w.drew.cell? ⟨g,47,none⟩=some o:=h.toR.live
 obtain⟨f,cap,H,m⟩:∃f cap,o = .slice (some ⟨f,0,none⟩) c.xs.length cap∧o.ownBlock=some f:=by
  rcases h.live.2 with ⟨e,e0⟩ | ⟨g',cap,C,e,_⟩
  ·omega
  ·exact⟨g',cap,e,by rw[e];rfl⟩
 obtain⟨C,l⟩:=q8 h.live f m
 have t:=(qdc h.live).2
 have I:zx w f (i*38) 38=some (qm x).toArray:=by
  rcases t with ⟨e,e0⟩ | ⟨g',X,e,-,hh⟩
  ·rw[e0] at F;simp at F
  ·rw[H] at e
   injection e with e1 e2 e3
   injection e1 with e1
   injection e1 with e1
   have:=hh.row L
   rw[Nat.zero_add,←e1] at this
   exact this
 have a5:w.drew.cell? ⟨f,i*38+36,none⟩=some (.int .i64 x.state):=by
  have:=(qe2 I).2 36 (by omega)
  rw[List.getElem?_toArray,qfa] at this
  exact this
 have K:w.drew.cell? ⟨f,i*38+37,none⟩=some (.bool x.paid):=by
  have:=(qe2 I).2 37 (by omega)
  rw[List.getElem?_toArray,qml] at this
  exact this
 have u1:Upd (· = f) w (w.setCell ⟨f,i*38+36,none⟩ (.int .i64 5)).drew:=((Upd.refl _ _).set1 _ _).drew
 have U:g≠f:=ze h.at_ l (by decide)
 have N:(w.setCell ⟨f,i*38+36,none⟩ (.int .i64 5)).drew.ownsRow 0 81 38 o (c.xs.set i {x with state:=5}).length ((c.xs.set i {x with state:=5}).flatMap qm):=qyd qm 38 qa0 h.live L (by omega) (q0u x 5) m
 have M:(c.xs.set i {x with state:=5})[i]? = some {x with state:=5} := by rw[List.getElem?_set_self F]
 have a6:w.drew.frozen? ⟨f,i*38+36,none⟩=false:=qq l _
 have D:(w.setCell ⟨f,i*38+36,none⟩ (.int .i64 5)).drew.heap[f]? = some (.cells (C.setIfInBounds (i*38+36) (.int .i64 5)) 81 (0,0)):=zz l _ _
 have Z:(w.setCell ⟨f,i*38+36,none⟩ (.int .i64 5)).drew.cell? ⟨f,i*38+37,none⟩=some (.bool x.paid):=by
  have e:w.cell? ⟨f,i*38+37,none⟩=C[i*38+37]? := qh l _
  have e2:w.cell? ⟨f,i*38+37,none⟩=some (.bool x.paid):=K
  rw[qh D,Array.getElem?_setIfInBounds_ne (by omega),←e,e2]
 have a4:(w.setCell ⟨f,i*38+36,none⟩ (.int .i64 5)).drew.frozen? ⟨f,i*38+37,none⟩=false:=qq D _
 have E:=qyd qm 38 qa0 N M (show 37<38 by omega) (q0v {x with state:=5} paid) m
 rw[List.set_set] at E
 have J:Upd (· = f) w ((w.setCell ⟨f,i*38+36,none⟩ (.int .i64 5)).drew.setCell ⟨f,i*38+37,none⟩ (.bool paid)):=u1.set1 _ _
 have q:ChP ((w.setCell ⟨f,i*38+36,none⟩ (.int .i64 5)).drew.setCell ⟨f,i*38+37,none⟩ (.bool paid)) g S (c.removed i x paid) o nv P:=by
  have z:∀ {v:Value} {n:Nat} {xs:List Value},w.ownsRow 0 30 38 v n xs→∀k,v.ownBlock=some k→¬k=f:=by
   intro v n xs hr k V e
   obtain⟨Y,hc⟩:=q8 hr k V
   exact ze hc l (by decide) e
  have W:=h.ok.xs x (List.mem_of_getElem? L)
  refine⟨J.old h.at_ U,⟨h.ok.s,h.ok.signed,h.ok.heard,h.ok.nextOwn,h.ok.nextTheirs,h.ok.loc,h.ok.rem,?_,?_,h.ok.shelf,h.ok.news,h.ok.last,h.ok.many⟩,E,qu h.news J (z h.news),qu h.last J (z h.last),h.inG,h.inL,h.inN,h.inA,h.sep,fun k V=>Nat.lt_of_lt_of_le (h.lt k V) J.size⟩
  ·intro y O
   rcases List.mem_or_eq_of_mem_set O with O | O
   ·exact h.ok.xs y O
   ·rw[O]
    exact⟨W.h,show (-9223372036854775808:Int)≤5 by decide,show (5:Int)≤9223372036854775807 by decide⟩
  ·show (c.xs.set i _).length≤1000000
   rw[List.length_set]
   exact h.ok.few
 have HF:=qb q
 have HU:=qb (J.mono (T:=fun k=>o.ownBlock=some k) (fun k _ e=>by rw[e];exact m))
 have a7:(i:Int)<(c.xs.length:Int):=by omega
 rw[H] at R
 clear h t I K N M E D l u1 J q H m L
 go_enter Tryz.func49,Tryz.ntmps49
 go_wp2_with (with_reducible first|(first|refine' zr (qg ?_) ?_|refine' zt (qg ?_) ?_);rotate_left|refine' zu (qg ?_)|rfl|apply tn|refine' zv ?_)
 go_end0
 exact⟨rfl,qa HF,qa HU⟩
attribute [local go_sem ↓ high] qc6
attribute [local go_sem] qhk zq
def qge(own:Bool)(id:Int)(x:Live):Bool:=x.own==own&&(x.h.id==id&&x.state==4)
set_option maxHeartbeats 1000000 in
theorem q3l(own:Bool)(id:Int)(x:Live)(q t:Nat)(w:World)(m:w.cell? ⟨q,0,none⟩=some (.bool own))(o:w.cell? ⟨t,0,none⟩=some (.int .u64 id)) :
  Calls Tryz.prog 77 #[.agg (qm x).toArray,.pointer (some ⟨q,0,none⟩),.pointer (some ⟨t,0,none⟩)] w (qa7 (.bool (qge own id x)) w):=by
 go_enter Tryz.func77,Tryz.ntmps77
 go_upto_region 1 with fail
 have g:(w.alloc (.cells (qm x).toArray 81)).heap[w.heap.size]? = some (.cells (qm x).toArray 81 (0,0)):=qi _ _
 have f:qy w (w.alloc (.cells (qm x).toArray 81)):=(Upd.refl _ _).alloc _
 generalize w.alloc (.cells (qm x).toArray 81)=w1 at g f ⊢
 replace m:=f.cell m (fun h=>h)
 replace o:=f.cell o (fun h=>h)
 have v:w1.cell? ⟨w.heap.size,35,none⟩=some (.bool x.own):=by rw[qh g,List.getElem?_toArray];exact qhl x
 have y:w1.cell? ⟨w.heap.size,36,none⟩=some (.int .i64 x.state):=by rw[qh g,List.getElem?_toArray];exact qfa x
 have z:w1.cell? ⟨w.heap.size,0,none⟩=some (.int .u64 x.h.id):=by rw[qh g,List.getElem?_toArray];exact q8k x
 clear g
 cases i:x.own==own with
 | false =>
  go_wp2_with (with_reducible first|(first|refine' zr (qg ?_) ?_|refine' zt (qg ?_) ?_);rotate_left|refine' zu (qg ?_)|rfl|apply tn|refine' zv ?_)
  go_ret
  exact⟨by unfold qge;rw[i];rfl,f⟩
 | true =>
  cases l:x.h.id==id with
  | false =>
   go_wp2_with (with_reducible first|(first|refine' zr (qg ?_) ?_|refine' zt (qg ?_) ?_);rotate_left|refine' zu (qg ?_)|rfl|apply tn|refine' zv ?_)
   go_ret
   exact⟨by unfold qge;rw[i,l];rfl,f⟩
  | true =>
   go_wp2_with (with_reducible first|(first|refine' zr (qg ?_) ?_|refine' zt (qg ?_) ?_);rotate_left|refine' zu (qg ?_)|rfl|apply tn|refine' zv ?_)
   go_ret
   exact⟨by unfold qge;rw[i,l];rfl,f⟩
def qob(own:Bool)(id:Int)(xs:List Live):Int:=match xs.findIdx? (qge own id) with | some i=>i | none=> -1
set_option maxRecDepth 100000 in
set_option maxHeartbeats 1000000 in
theorem q0j(own:Bool)(id:Int)(I J:Nat)(v:Value)(xs:List Live)(w:World)(E:qud w v xs)(Z:xs.length≤1000000)(U:w.cell? ⟨I,0,none⟩=some (.bool own))(V:w.cell? ⟨J,0,none⟩=some (.int .u64 id)) :
  Calls Tryz.prog 76 #[v,.func (.func 77) #[] #[.pointer (some ⟨I,0,none⟩),.pointer (some ⟨J,0,none⟩)]] w (qa7 (.int .i64 (qob own id xs)) w):=by
 have f:=(qdc E).2
 obtain⟨a,cap,rfl⟩:=qx E
 have g:∀(i:Nat) (x:Live),xs[i]? = some x→∃g',a=some ⟨g',0,none⟩∧qgd w g' 0 xs:=by
  intro i x O
  have l:=(List.getElem?_eq_some_iff.1 O).1
  rcases f with ⟨e,T⟩ | ⟨g',k,e,-,z⟩
  ·rw[T] at l;simp at l
  ·injection e with e1
   exact⟨g',e1,z.toL⟩
 clear f E
 have X:(xs.length:Int)≤1000000:=by omega
 go_enter Tryz.func76,Tryz.ntmps76
 go_wp2_with fail
 go_loopw [5,8] (fun _ H wr=>∃i:Nat,H = .int .i64 (i:Int)∧i≤xs.length∧(∀j x,j<i→xs[j]? = some x→qge own id x=false)∧qy w wr) (fun _ H _=>xs.length-(intOf H).toNat)
 case atStart=>exact⟨0,rfl,Nat.zero_le _,fun j x h=>by omega,Upd.refl _ _⟩
 case round =>
  obtain⟨i,rfl,O,M,o⟩:=hrel
  obtain⟨K,rfl⟩:∃K:World,K=wr:=⟨_,rfl⟩
  have C:=qb M
  clear M
  by_cases l:i<xs.length
  ·obtain⟨x,m⟩:∃x,xs[i]? = some x:=⟨_,List.getElem?_eq_getElem l⟩
   obtain⟨g',rfl,z⟩:=g i x m
   have f:=(z.upd o (fun h=>h)).row m
   rw[Nat.zero_add] at f
   have W:(i:Int)<(xs.length:Int):=by omega
   have N:=q3l own id x I J K (o.cell U (fun h=>h)) (o.cell V (fun h=>h))
   have L:=qb m
   clear z g m
   go_wp2_with fail
   refine N.mono ?_
   rintro e w2 ⟨rfl,P⟩
   have R:=o.trans P
   clear N f o P
   cases q:qge own id x with
   | true =>
    go_wp2_with fail
    go_ret
    have D:xs.findIdx? (qge own id)=some i:=by
     rw[List.findIdx?_eq_some_iff_getElem]
     refine⟨l,?_,fun j t=> ?_⟩
     ·have:=qa L
      rw[List.getElem?_eq_getElem l] at this
      rw[Option.some.inj this,q]
     ·have:=qa C j _ t (List.getElem?_eq_getElem (by omega))
      rw[this]
      decide
    exact⟨by unfold qob;rw[D];rfl,R⟩
   | false =>
    go_wp2_with fail
    go_roundw
    case rel =>
     refine⟨i+1,by go_num,by omega,fun j y t F=> ?_,R⟩
     by_cases e:j<i
     ·exact qa C j y e F
     ·obtain rfl:j=i:=by omega
      rw[qa L] at F
      rw[←Option.some.inj F]
      exact q
    case measure=>simp[intOf];omega
  ·obtain rfl:i=xs.length:=by omega
   clear g
   go_wp2_with fail
   go_ret
   have D:xs.findIdx? (qge own id)=none:=by
    rw[List.findIdx?_eq_none_iff]
    intro x Y
    obtain⟨j,t,rfl⟩:=List.mem_iff_getElem.1 Y
    exact qa C j _ t (List.getElem?_eq_getElem t)
   exact⟨by unfold qob;rw[D];rfl,o⟩
set_option maxHeartbeats 1000000 in
theorem ql9(g:Nat)(S:Nat→Prop)(c:Ch)(own:Bool)(id:Int)(w:World)(h:ChS w g S c) :
  Calls Tryz.prog 47 #[.pointer (some ⟨g,0,none⟩),.bool own,.int .u64 id] w (qa7 (.int .i64 (qob own id c.xs)) w):=by
 obtain⟨q,nv,z,h⟩:=h
 go_enter Tryz.func47,Tryz.ntmps47
 go_upto_region 1 with fail
 have m:qy w ((w.alloc (.cells #[.bool own] 4)).alloc (.cells #[.int .u64 id] 22)):=((Upd.refl _ _).alloc _).alloc _
 have f:((w.alloc (.cells #[.bool own] 4)).alloc (.cells #[.int .u64 id] 22)).heap[w.heap.size]? = some (.cells #[.bool own] 4 (0,0)):=zl (qi _ _) _
 have i:((w.alloc (.cells #[.bool own] 4)).alloc (.cells #[.int .u64 id] 22)).heap[w.heap.size+1]? = some (.cells #[.int .u64 id] 22 (0,0)):=by
  have:=qi (w.alloc (.cells #[.bool own] 4)) (.cells #[.int .u64 id] 22)
  rwa [World.size_alloc] at this
 generalize (w.alloc (.cells #[.bool own] 4)).alloc (.cells #[.int .u64 id] 22)=t at m f i ⊢
 have l:=h.new m
 have x:t.cell? ⟨g,47,none⟩=some q:=l.toR.live
 have o:=fun(W:World) (n:qy t W)=>q0j own id w.heap.size (w.heap.size+1) q c.xs W (qu l.live n (fun _ _ h=>h)) h.ok.few (n.cell (qh f 0) (fun h=>h)) (n.cell (qh i 0) (fun h=>h))
 have v:=qb o
 clear o f i l
 go_wp2_with (with_reducible first|(first|refine' zr (qg ?_) ?_|refine' zt (qg ?_) ?_);rotate_left|refine' zu (qg ?_)|rfl|apply tn|refine' zv ?_)
 refine(qa v _ (Upd.refl _ _)).mono ?_
 rintro e C ⟨rfl,y⟩
 go_wp2_with (with_reducible first|(first|refine' zr (qg ?_) ?_|refine' zt (qg ?_) ?_);rotate_left|refine' zu (qg ?_)|rfl|apply tn|refine' zv ?_)
 go_ret
 exact⟨rfl,m.trans y⟩
end Go.Proofs.YtjpmomdechibmaaGreatDoor
namespace Go.Proofs.YtjpmomdechibmaaGreatDoor
open Go.RowKit
attribute [local go_sem ↓ high] qaa qap qar qa1 qab qac qag qah
attribute [local go_sem] qcx qdn qdt qfm zq qcy qc0 qc2
def qb7(own:Bool)(id:Int)(xs:List Live):Option (Nat × Live):=match xs.findIdx? (qge own id) with | some i=>(xs[i]?).map fun x=>(i,x) | none=>none
theorem qi6{own:Bool}{id:Int}{xs:List Live}(h:qb7 own id xs=none):qob own id xs = -1:=by
 unfold qb7 at h
 unfold qob
 cases e:xs.findIdx? (qge own id) with
 | none=>rfl
 | some i =>
  rw[e] at h
  have h:Option.map (fun x=>(i,x)) xs[i]? = none:=h
  obtain⟨f,-⟩:=List.findIdx?_eq_some_iff_getElem.1 e
  rw[List.getElem?_eq_getElem f] at h
  cases h
theorem qgu{own:Bool}{id:Int}{xs:List Live}{i:Nat}{x:Live}(h:qb7 own id xs=some (i,x)):qob own id xs=(i:Int)∧xs[i]? = some x∧qge own id x=true:=by
 unfold qb7 at h
 unfold qob
 cases e:xs.findIdx? (qge own id) with
 | none=>rw[e] at h;cases h
 | some j =>
  rw[e] at h
  obtain⟨f,g,-⟩:=List.findIdx?_eq_some_iff_getElem.1 e
  have h:Option.map (fun x=>(j,x)) xs[j]? = some (i,x):=h
  rw[List.getElem?_eq_getElem f] at h
  simp only[Option.map_some,Option.some.injEq,Prod.mk.injEq] at h
  obtain⟨rfl,rfl⟩:=h
  exact⟨rfl,List.getElem?_eq_getElem f,g⟩
def Ch.hearShut(c:Ch):Ch × Int:=if c.k.shutHeard=true then (c,4) else ({c with k:= {c.k with shutHeard:=true}},0)
set_option maxRecDepth 100000 in
set_option maxHeartbeats 1000000 in
theorem qu1(g:Nat)(S:Nat→Prop)(c:Ch)(m:MsgV)(F:m.hash.length=32)(w:World)(h:ChS w g S c) :
  Calls Tryz.prog 71 #[.pointer (some ⟨g,0,none⟩),.agg m.cells.toArray] w fun e w' =>
   e = .returned (.tuple #[qbt,.int .i64 c.hearShut.2])∧ChS w' g (Fr S w w') c.hearShut.1∧Upd S w w':=by
 obtain⟨H,nv,E,h⟩:=h
 go_enter Tryz.func71,Tryz.ntmps71
 go_upto_region 1 with fail
 have i:qy w (w.alloc (.cells m.cells.toArray 30)):=(Upd.refl _ _).alloc _
 generalize w.alloc (.cells m.cells.toArray 30)=w1 at i ⊢
 have f:=h.new i
 have l:w1.cell? ⟨g,43,none⟩=some (.bool c.k.shutHeard):=f.toR.shutHeard
 have x:w1.frozen? ⟨g,43,none⟩=false:=qq f.at_ 43
 cases q:c.k.shutHeard with
 | true =>
  have o:c.hearShut=(c,4):=by unfold Ch.hearShut;rw[if_pos q]
  rw[q] at l
  have t:=qb o
  have C:=qb (f.fr w)
  have v:=qb (i.mono (T:=S) (fun _ _ h=>h.elim))
  clear h f i o x
  go_wp2_with (with_reducible first|(first|refine' zr (qg ?_) ?_|refine' zt (qg ?_) ?_);rotate_left|refine' zu (qg ?_)|rfl|apply tn|refine' zv ?_)
  go_ret2
  rw[qa t]
  exact⟨rfl,qa C,qa v⟩
 | false =>
  have o:c.hearShut=({c with k:= {c.k with shutHeard:=true}},0):=by unfold Ch.hearShut;rw[if_neg (by rw[q];decide)]
  rw[q] at l
  have y:=f.putShutHeard true
  have z:=qgf w1 g 43 (.bool true)
  have t:=qb o
  have D:=qb (y.fr w)
  have v:=qb ((i.mono (T:=S) (fun _ _ h=>h.elim)).trans (z.mono (fun k _ e=>by rw[e];exact h.inG)))
  clear h f i o y z
  go_wp2_with (with_reducible first|(first|refine' zr (qg ?_) ?_|refine' zt (qg ?_) ?_);rotate_left|refine' zu (qg ?_)|rfl|apply tn|refine' zv ?_)
  go_ret2
  rw[qa t]
  exact⟨rfl,qa D,qa v⟩
def Ch.hearFail(c:Ch)(m:MsgV):Ch × Int:=match qb7 true m.id c.xs with | none=>(c,3) | some p=>(c.removed p.1 p.2 false,0)
theorem qhz{c:Ch}{m:MsgV}(h:qb7 true m.id c.xs=none):c.hearFail m=(c,3):=by unfold Ch.hearFail;rw[h]
theorem qh0{c:Ch}{m:MsgV}{i:Nat}{x:Live}(h:qb7 true m.id c.xs=some (i,x)):c.hearFail m=(c.removed i x false,0):=by unfold Ch.hearFail;rw[h]
set_option maxRecDepth 100000 in
set_option maxHeartbeats 1000000 in
theorem qu0(g:Nat)(S:Nat→Prop)(c:Ch)(m:MsgV)(R:m.hash.length=32)(w:World)(h:ChS w g S c) :
  Calls Tryz.prog 68 #[.pointer (some ⟨g,0,none⟩),.agg m.cells.toArray] w fun e w' =>
   e = .returned (.tuple #[qbt,.int .i64 (c.hearFail m).2])∧ChS w' g (Fr S w w') (c.hearFail m).1∧Upd S w w':=by
 obtain⟨L,nv,I,h⟩:=h
 go_enter Tryz.func68,Tryz.ntmps68
 go_upto_region 1 with fail
 have F:=qch w m R
 have y:qy w (w.alloc (.cells m.cells.toArray 30)):=(Upd.refl _ _).alloc _
 generalize w.alloc (.cells m.cells.toArray 30)=w1 at y F ⊢
 have E:=h.new y
 obtain⟨-,-,U,-,-,-,-⟩:=F.cells
 have K:=ql9 g S c true m.id w1 ⟨L,nv,I,E⟩
 clear F
 go_wp2_with fail
 refine K.mono ?_
 rintro e V ⟨rfl,H⟩
 have v:=E.new H
 have f:=y.trans H
 clear K U E H y
 cases l:qb7 true m.id c.xs with
 | none =>
  have o:=qi6 l
  have z:=qb (qhz l)
  have N:=qb (v.fr w)
  have C:=qb (f.mono (T:=S) (fun _ _ h=>h.elim))
  rw[o]
  clear h v f l o
  go_wp2_with fail
  go_ret2
  rw[qa z]
  exact⟨rfl,qa N,qa C⟩
 | some p =>
  obtain⟨i,x⟩:=p
  obtain⟨o,q,-⟩:=qgu l
  have t:=qjq g S c L nv I i x false V v q
  have z:=qb (qh0 l)
  have P:=qb h.inL
  have C:=qb (f.mono (T:=S) (fun _ _ h=>h.elim))
  rw[o]
  clear h v f l o q
  go_wp2_with fail
  refine t.mono ?_
  rintro e W ⟨rfl,J,M⟩
  have O:=qb (J.fr w)
  have D:=qb ((qa C).trans (M.mono (T:=S) (fun k _ e=>qa P k e)))
  clear t J M
  go_wp2_with fail
  go_ret2
  rw[qa z]
  exact⟨rfl,qa O,qa D⟩
end Go.Proofs.YtjpmomdechibmaaGreatDoor
namespace Go.Proofs.YtjpmomdechibmaaGreatDoor
open Go.RowKit
attribute [local go_sem ↓ high] qab qac qag qah
attribute [local go_sem] qcy qc0 qc2 zq
set_option maxRecDepth 100000 in
set_option maxHeartbeats 1000000 in
theorem qxj(g:Nat)(S:Nat→Prop)(c:Ch)(m:MsgV)(v:MsgOk m)(w:World)(h:ChS w g S c)(l:qam m=false∨m.ch≠c.s.ch) :
  Calls Tryz.prog 18 #[.pointer (some ⟨g,0,none⟩),.agg m.cells.toArray] w (qa7 (.tuple #[qbt,.int .i64 1]) w):=by
 obtain⟨J,nv,F,h⟩:=h
 go_enter Tryz.func18,Tryz.ntmps18
 go_upto_region 1 with fail
 have o:=qch w m v.len
 have q:qy w (w.alloc (.cells m.cells.toArray 30)):=(Upd.refl _ _).alloc _
 generalize w.alloc (.cells m.cells.toArray 30)=w1 at q o ⊢
 generalize w.heap.size=A at o ⊢
 have z:=o.row
 have f:=fun W=>qq2 m v W
 have D:=qb o
 have C:=qb (h.new q)
 have y:=qb q
 clear h o q v
 cases x:qam m with
 | false =>
  rw[x] at f
  go_wp2_with (with_reducible first|(first|refine' zr (qg ?_) ?_|refine' zt (qg ?_) ?_);rotate_left|refine' zu (qg ?_)|rfl|apply tn|refine' zv ?_)
  refine(f _).mono ?_
  rintro e t ⟨rfl,i⟩
  have i:qy w1 t:=i.ofDrew
  clear z
  go_wp2_with (with_reducible first|(first|refine' zr (qg ?_) ?_|refine' zt (qg ?_) ?_);rotate_left|refine' zu (qg ?_)|rfl|apply tn|refine' zv ?_)
  go_ret2
  exact⟨rfl,(qa y).trans i⟩
 | true =>
  rw[x] at f
  have E:¬m.ch=c.s.ch:=by
   rcases l with e | e
   ·rw[x] at e;cases e
   ·exact e
  clear l
  go_wp2_with (with_reducible first|(first|refine' zr (qg ?_) ?_|refine' zt (qg ?_) ?_);rotate_left|refine' zu (qg ?_)|rfl|apply tn|refine' zv ?_)
  refine(f _).mono ?_
  rintro e t ⟨rfl,i⟩
  have i:qy w1 t:=i.ofDrew
  have I:=((qa D).new i).cells.2.1
  have H:t.cell? ⟨g,0,none⟩=some (.int .u32 c.s.ch):=((qa C).new i).toR.ch
  clear z f
  go_wp2_with (with_reducible first|(first|refine' zr (qg ?_) ?_|refine' zt (qg ?_) ?_);rotate_left|refine' zu (qg ?_)|rfl|apply tn|refine' zv ?_)
  go_ret2
  exact⟨rfl,(qa y).trans i⟩
set_option maxRecDepth 100000 in
set_option maxHeartbeats 1000000 in
theorem q75(F:FuncId)(g:Nat)(S:Nat→Prop)(c:Ch)(m:MsgV)(H:MsgOk m)(w:World)(h:ChS w g S c)(I:qam m=true)(E:m.ch=c.s.ch)(R:Value→Int→World→World→Prop)
  (hE:∀args w,(callFunc F args).run Tryz.prog w = .ok (.enter F args) w)
  (t:∀ {w:World} {b:Nat},qjz w b→(Instr.lookup 107 (.map (some b)) (.int .i64 m.kind) true).run Tryz.prog w = .ok (.tuple #[.func (.func F) #[] #[],.bool true]) w)
  (Z:∀W,qy w W→Calls Tryz.prog F #[.pointer (some ⟨g,0,none⟩),.agg m.cells.toArray] W fun e w'=>∃v n,e = .returned (.tuple #[v,.int .i64 n])∧R v n W w') :
  Calls Tryz.prog 18 #[.pointer (some ⟨g,0,none⟩),.agg m.cells.toArray] w fun e w'=>∃v n W,e = .returned (.tuple #[v,.int .i64 n])∧qy w W∧R v n W w':=by
 obtain⟨lv,nv,av,h⟩:=h
 go_enter Tryz.func18,Tryz.ntmps18
 go_upto_region 1 with fail
 have q:=qch w m H.len
 have y:qy w (w.alloc (.cells m.cells.toArray 30)):=(Upd.refl _ _).alloc _
 generalize w.alloc (.cells m.cells.toArray 30)=w1 at y q ⊢
 generalize w.heap.size=A at q ⊢
 have rA:=q.row
 have f:=fun W=>qq2 m H W
 rw[I] at f
 have C:=qb q
 have U:=qb (h.new y)
 have X:=qb y
 clear h q y H
 go_wp2_with (with_reducible first|(first|refine' zr (qg ?_) ?_|refine' zt (qg ?_) ?_);rotate_left|refine' zu (qg ?_)|rfl|apply tn|refine' zv ?_)
 refine(f _).mono ?_
 rintro e z ⟨rfl,l⟩
 have l:qy w1 z:=l.ofDrew
 have N:=((qa C).new l).cells.2.1
 rw[E] at N
 have Y:z.cell? ⟨g,0,none⟩=some (.int .u32 c.s.ch):=((qa U).new l).toR.ch
 have D:=qb l
 clear rA f l
 go_upto_region 3 with (with_reducible first|(first|refine' zr (qg ?_) ?_|refine' zt (qg ?_) ?_);rotate_left|refine' zu (qg ?_)|rfl|apply tn|refine' zv ?_)
 have O:z.drew.cell? ⟨A,0,none⟩=some (.int .i64 m.kind):=((qa C).new (qa D)).cells.1
 have L:=@t
 clear N Y t
 refine qb5 (fun w'=>w'.cell? ⟨A,0,none⟩=some (.int .i64 m.kind)) [2] (.of [0,1,2,3,4,5,6,7,8]) (by kernel_rfl) (by kernel_rfl) O ?_
 simp only[Plan.of]
 go_wp2_with (with_reducible first|(first|refine' qw1 (qg ?_) ?_|refine' qw2 (qg ?_) ?_|refine' qw3 (qg ?_) ?_);rotate_left|refine' qw4 (qg ?_)|refine' qw5 (qg ?_)|rfl|apply qn)
 refine(qxk _).mono ?_
 rintro e K ⟨b,rfl,x,P⟩
 have x:qy z K:=x.ofDrew
 have hl:=L P
 have i:=((qa C).new (qa D)).new x
 have o:=i.cells.1
 have J:=i.row
 have M:=qb (((qa X).trans (qa D)).trans x)
 clear O x P i L
 go_wp2_with (with_reducible first|(first|refine' qw1 (qg ?_) ?_|refine' qw2 (qg ?_) ?_|refine' qw3 (qg ?_) ?_);rotate_left|refine' qw4 (qg ?_)|refine' qw5 (qg ?_)|rfl|apply qn)
 refine⟨o,?_⟩
 go_wp2_with (with_reducible first|(first|refine' qw1 (qg ?_) ?_|refine' qw2 (qg ?_) ?_|refine' qw3 (qg ?_) ?_);rotate_left|refine' qw4 (qg ?_)|refine' qw5 (qg ?_)|rfl|apply qn)
 refine(Z K (qa M)).mono ?_
 rintro e w4 ⟨v,n,rfl,T⟩
 have V:=qb T
 clear J o hl T
 go_wp2_with (with_reducible first|(first|refine' qw1 (qg ?_) ?_|refine' qw2 (qg ?_) ?_|refine' qw3 (qg ?_) ?_);rotate_left|refine' qw4 (qg ?_)|refine' qw5 (qg ?_)|rfl|apply qn)
 go_ret2
 exact⟨v,n,K,rfl,qa M,qa V⟩
def qgc(g:Nat)(S:Nat→Prop)(w:World)(c':Ch)(f:List MsgV)(n:Int)(e:Ending)(w':World):Prop :=
 ∃v,e = .returned (.tuple #[v,.int .i64 n])∧qcu w.heap.size w' v f∧ChS w' g (Fr S w w') c'∧Upd S w w'
theorem qji(F:FuncId)(g:Nat)(S:Nat→Prop)(c c':Ch)(t:List MsgV)(n:Int)(m:MsgV)(C:MsgOk m)(w:World)(h:ChS w g S c)(q:qam m=true)(i:m.ch=c.s.ch)
  (x:∀args w,(callFunc F args).run Tryz.prog w = .ok (.enter F args) w)
  (o:∀ {w:World} {b:Nat},qjz w b→(Instr.lookup 107 (.map (some b)) (.int .i64 m.kind) true).run Tryz.prog w = .ok (.tuple #[.func (.func F) #[] #[],.bool true]) w)
  (y:∀W,qy w W→Calls Tryz.prog F #[.pointer (some ⟨g,0,none⟩),.agg m.cells.toArray] W (qgc g S W c' t n)) :
  Calls Tryz.prog 18 #[.pointer (some ⟨g,0,none⟩),.agg m.cells.toArray] w (qgc g S w c' t n):=by
 refine(q75 F g S c m C w h q i (fun v k W w'=>k=n∧qcu W.heap.size w' v t∧ChS w' g (Fr S W w') c'∧Upd S W w') x o (fun W f=>(y W f).mono ?_)).mono ?_
 ·rintro e w' ⟨v,l,D⟩
  exact⟨v,n,l,rfl,D⟩
 ·rintro e w' ⟨v,k,W,l,f,rfl,E,z,H⟩
  exact⟨v,l,qf3 E f.size,z.later f.size,(f.mono (T:=S) (fun _ _ h=>h.elim)).trans H⟩
theorem qxi(g:Nat)(S:Nat→Prop)(c:Ch)(m:MsgV)(o:MsgOk m)(w:World)(h:ChS w g S c)(l:qam m=true)(i:m.ch=c.s.ch)(x:m.kind=3)(f:c.xs.length<1000000) :
  Calls Tryz.prog 18 #[.pointer (some ⟨g,0,none⟩),.agg m.cells.toArray] w (qgc g S w (c.hearAdd m).1 [] (c.hearAdd m).2) :=
 qji _ g S c _ _ _ m o w h l i (enters_of Tryz.func66 (by kernel_rfl) rfl) (fun q=>by rw[x];exact zee q) (fun W z=>(qxg g S c m o W (h.new z) f).mono (by
  rintro e w' ⟨v,t,y⟩
  exact⟨_,v,qcu.nil _ _,t,y⟩))
theorem q4p(g:Nat)(S:Nat→Prop)(c:Ch)(m:MsgV)(l:MsgOk m)(w:World)(h:ChS w g S c)(i:qam m=true)(f:m.ch=c.s.ch)(v:m.kind=5) :
  Calls Tryz.prog 18 #[.pointer (some ⟨g,0,none⟩),.agg m.cells.toArray] w (qgc g S w (c.hearFail m).1 [] (c.hearFail m).2) :=
 qji _ g S c _ _ _ m l w h i f (enters_of Tryz.func68 (by kernel_rfl) rfl) (fun o=>by rw[v];exact zeg o) (fun W y=>(qu0 g S c m l.len W (h.new y)).mono (by
  rintro e w' ⟨t,q,x⟩
  exact⟨_,t,qcu.nil _ _,q,x⟩))
theorem q4s(g:Nat)(S:Nat→Prop)(c:Ch)(m:MsgV)(l:MsgOk m)(w:World)(h:ChS w g S c)(i:qam m=true)(f:m.ch=c.s.ch)(v:m.kind=8) :
  Calls Tryz.prog 18 #[.pointer (some ⟨g,0,none⟩),.agg m.cells.toArray] w (qgc g S w c.hearShut.1 [] c.hearShut.2) :=
 qji _ g S c _ _ _ m l w h i f (enters_of Tryz.func71 (by kernel_rfl) rfl) (fun o=>by rw[v];exact zej o) (fun W y=>(qu1 g S c m l.len W (h.new y)).mono (by
  rintro e w' ⟨t,q,x⟩
  exact⟨_,t,qcu.nil _ _,q,x⟩))
theorem qoh(g:Nat)(S:Nat→Prop)(c:Ch)(m:MsgV)(o:MsgOk m)(w:World)(h:ChS w g S c)(l:qam m=true)(i:m.ch=c.s.ch)(C:m.kind=7)(f:qpq c)(x:Tb w)(v:Apart S) :
  Calls Tryz.prog 18 #[.pointer (some ⟨g,0,none⟩),.agg m.cells.toArray] w (qgc g S w (c.hearRevoke m).1 [] (c.hearRevoke m).2) :=
 qji _ g S c _ _ _ m o w h l i (enters_of Tryz.func70 (by kernel_rfl) rfl) (fun t=>by rw[C];exact zei t) (fun W q=>(qqf g S c m o W (h.new q) f (x.new q) v).mono (by
  rintro e w' ⟨z,y,D⟩
  exact⟨_,z,qcu.nil _ _,y,D⟩))
theorem qs2(g:Nat)(S:Nat→Prop)(c:Ch)(m:MsgV)(x:MsgOk m)(w:World)(h:ChS w g S c)(q:qam m=true)(i:m.ch=c.s.ch)(H:m.kind=6)(D:Tb w)(C:Apart S)(o:c.s.peer.size≤100000000)(f:0≤c.s.ch∧c.s.ch<4294967296)(l:c.k.heard<4294967295)(t:c.xs.length≤16) :
  Calls Tryz.prog 18 #[.pointer (some ⟨g,0,none⟩),.agg m.cells.toArray] w (qgc g S w (c.hearSign m).1 (c.hearSign m).2.1 (c.hearSign m).2.2) :=
 qji _ g S c _ _ _ m x w h q i (enters_of Tryz.func69 (by kernel_rfl) rfl) (fun z=>by rw[H];exact zeh z) (fun W y=>(qu2 g S c m x W (h.new y) (D.new y) C o f l t).mono (by
  rintro e w' ⟨v,F,I,E,J⟩
  exact⟨v,F,I,E,J⟩))
end Go.Proofs.YtjpmomdechibmaaGreatDoor
namespace Go.Proofs.YtjpmomdechibmaaGreatDoor
open Go.RowKit
theorem qfg(x y:Int)(f:0≤x)(i:x<4294967296)(g:0≤y)(l:y<4294967296):bits .xor .u64 x y=bits .xor .u32 x y:=by
 rw[u64_xor x y f (by omega) g (by omega),u32_xor x y f i g l]
theorem qkb(x y:Int)(f:0≤x)(i:x<4294967296)(g:0≤y)(l:y<4294967296):bits .and .u64 x y=bits .and .u32 x y:=by
 rw[u64_and x y f (by omega) g (by omega),u32_and x y f i g l]
theorem ql4(x:Int)(f:0≤x)(g:x<4294967296):bits .xor .u32 0 x=x:=by
 rw[u32_xor 0 x (by decide) (by decide) f g]
 simp
 omega
theorem zen(e:Int)(f:0≤e)(g:e<4294967296):bits .xor .u32 4294967295 e=4294967295-e:=by
 rw[u32_xor 4294967295 e (by decide) (by decide) f g]
 obtain⟨n,rfl⟩:=Int.eq_ofNat_of_zero_le f
 have h:(4294967295 ^^^ n:Nat)=4294967295-n:=by
  have i:n<2 ^ 32:=by omega
  have:=congrArg BitVec.toNat (BitVec.allOnes_xor (x:=BitVec.ofNat 32 n))
  rw[BitVec.toNat_xor,BitVec.toNat_not,BitVec.toNat_allOnes,BitVec.toNat_ofNat,Nat.mod_eq_of_lt i] at this
  simpa using this
 rw[Int.toNat_natCast,show (4294967295:Int).toNat=4294967295 from rfl,h]
 omega
theorem zb5(x n:Nat)(m:x<4294967296)(q:n≤32):qct x n=((x / 2 ^ n+x%2 ^ n*2 ^ (32-n):Nat):Int):=by
 unfold qct
 have l:(32-(n:Int)).toNat=32-n:=by omega
 rw[Int.toNat_natCast,l]
 have g:2 ^ n*2 ^ (32-n)=4294967296:=by rw[←Nat.pow_add,show n+(32-n)=32 by omega]
 have f:0<2 ^ n:=Nat.pow_pos (by decide)
 have i:0<2 ^ (32-n):=Nat.pow_pos (by decide)
 have a1:(x:Int) / 2 ^ n=((x / 2 ^ n:Nat):Int):=by rw[Int.natCast_ediv,Int.natCast_pow];rfl
 have a2:(x:Int)*2 ^ (32-n)%4294967296=((x%2 ^ n*2 ^ (32-n):Nat):Int):=by
  have:x*2 ^ (32-n)%4294967296=x%2 ^ n*2 ^ (32-n):=by
   rw[←g,Nat.mul_mod_mul_right]
  rw[←this,Int.natCast_emod,Int.natCast_mul,Int.natCast_pow];rfl
 rw[a1,a2]
 have b1:x / 2 ^ n<2 ^ (32-n):=by rw[Nat.div_lt_iff_lt_mul f,Nat.mul_comm,g];exact m
 have b2:x%2 ^ n*2 ^ (32-n)<4294967296:=by
  rw[←g]
  exact Nat.mul_lt_mul_of_pos_right (Nat.mod_lt _ f) i
 have o:2 ^ (32-n)≤4294967296:=by rw[←g];exact Nat.le_mul_of_pos_left _ f
 rw[u32_or_nat _ _ (by omega) b2,Nat.or_comm,nat_join (32-n) _ _ (by rw[Nat.mul_mod_left]) b1,Nat.add_comm]
def qiw(x:Int):Nat→Int
 | 0=>x
 | k+1=>qiw x k / 2+qiw x k%2*2147483648
theorem qt0(x k:Nat)(E:x<4294967296)(F:k≤31):qiw x k=((x / 2 ^ k+x%2 ^ k*2 ^ (32-k):Nat):Int)∧x / 2 ^ k+x%2 ^ k*2 ^ (32-k)<4294967296:=by
 induction k with
 | zero=>simp[qiw,Nat.mod_one];exact E
 | succ k l =>
  obtain⟨l,t⟩:=l (by omega)
  have C:2 ^ (32-k)=2*2 ^ (31-k):=by rw[←Nat.pow_succ',show (31-k).succ=32-k by omega]
  have m:2 ^ (k+1)=2*2 ^ k:=Nat.pow_succ'
  have f:2 ^ k*2 ^ (31-k)=2147483648:=by rw[←Nat.pow_add,show k+(31-k)=31 by omega]
  have D:0<2 ^ k:=Nat.pow_pos (by decide)
  have z:=Nat.div_add_mod x (2 ^ k)
  have w:=Nat.div_add_mod (x / 2 ^ k) 2
  have g:x / 2 ^ k / 2=x / 2 ^ (k+1):=by rw[Nat.div_div_eq_div_mul,Nat.mul_comm (2 ^ k) 2,←m]
  have i:x%2 ^ (k+1)=x%2 ^ k+2 ^ k*(x / 2 ^ k%2):=by rw[m,Nat.mul_comm 2,Nat.mod_mul]
  have e:(x / 2 ^ k+x%2 ^ k*2 ^ (32-k)) / 2+(x / 2 ^ k+x%2 ^ k*2 ^ (32-k))%2*2147483648=x / 2 ^ (k+1)+x%2 ^ (k+1)*2 ^ (32-(k+1)):=by
   rw[show 32-(k+1)=31-k by omega,i,Nat.add_mul,←g,C]
   have o:x%2 ^ k*(2*2 ^ (31-k))=2*(x%2 ^ k*2 ^ (31-k)):=by rw[Nat.mul_left_comm]
   have q:2 ^ k*(x / 2 ^ k%2)*2 ^ (31-k)=x / 2 ^ k%2*2147483648:=by rw[←f,Nat.mul_comm (2 ^ k),Nat.mul_assoc]
   rw[o,q]
   generalize x%2 ^ k*2 ^ (31-k)=c
   generalize x / 2 ^ k=y
   omega
  refine⟨?_,?_⟩
  ·rw[qiw,l,←e]
   have v:∀y:Nat,(y:Int) / 2+(y:Int)%2*2147483648=((y / 2+y%2*2147483648:Nat):Int):=fun y=>by omega
   exact v _
  ·rw[←e]
   generalize x / 2 ^ k+x%2 ^ k*2 ^ (32-k)=y at t ⊢
   omega
theorem qt1(x:Int)(k:Nat)(f:0≤x)(i:x<4294967296)(g:k≤31):qiw x k=qct x k:=by
 obtain⟨n,rfl⟩:=Int.eq_ofNat_of_zero_le f
 rw[(qt0 n k (by omega) g).1,zb5 n k (by omega) (by omega)]
theorem qy7(x:Int)(k:Nat)(f:0≤x)(l:x<4294967296)(i:k≤31):0≤qiw x k∧qiw x k<4294967296:=by
 obtain⟨n,rfl⟩:=Int.eq_ofNat_of_zero_le f
 obtain⟨e,g⟩:=qt0 n k (by omega) i
 rw[e]
 generalize n / 2 ^ k+n%2 ^ k*2 ^ (32-k)=y at g ⊢
 omega
theorem qjs(x:Int)(k:Nat)(f:0≤x)(g:x<4294967296)(i:k≤31):0≤qct x k∧qct x k<4294967296:=by
 rw[←qt1 x k f g i]
 exact qy7 x k f g i
set_option maxHeartbeats 1000000 in
theorem qeu(x:Int)(n:Int)(w:World)(i:0≤x)(l:x<4294967296)(t:0≤n)(D:n≤31) :
  Calls Tryz.prog 105 #[.int .u64 x,.int .i64 n] w fun e w'=>e = .returned (.int .u64 (qct x n))∧w=w':=by
 obtain⟨m,rfl⟩:=Int.eq_ofNat_of_zero_le t
 have z:m≤31:=by omega
 rw[←qt1 x m i l z]
 go_enter Tryz.func105,Tryz.ntmps105
 go_wp2_with fail
 go_loop [0,5] (fun C g=>∃k:Nat,g = .int .i64 (k:Int)∧k≤m∧C = .int .u64 (qiw x k)) (fun _ g=>m-(intOf g).toNat)
 case atStart=>exact⟨0,rfl,Nat.zero_le _,rfl⟩
 case round =>
  obtain⟨k,rfl,E,rfl⟩:=hrel
  obtain⟨b1,b2⟩:=qy7 x k i l (by omega)
  have q:qiw x (k+1)=qiw x k / 2+qiw x k%2*2147483648:=rfl
  have f:=qb q
  clear q
  by_cases v:k<m
  ·have o:(k:Int)<(m:Int):=by omega
   generalize qiw x k=y at b1 b2 f ⊢
   go_wp2
   go_round
   case rel=>exact⟨k+1,by go_num,by omega,by rw[qa f]⟩
   case measure=>simp[intOf];omega
  ·obtain rfl:k=m:=by omega
   clear f
   go_wp2
   go_ret
   exact⟨rfl,rfl⟩
def shR(x:Int):Nat→Int
 | 0=>x
 | k+1=>shR x k / 2
theorem zey(x:Int)(k:Nat):shR x k=x / 2 ^ k:=by
 induction k with
 | zero=>simp[shR]
 | succ k f=>rw[shR,f,Int.pow_succ,Int.ediv_ediv_of_nonneg (Int.pow_nonneg (by decide))]
theorem zex(x:Int)(k:Nat)(f:0≤x)(g:x<18446744073709551616):0≤shR x k∧shR x k<18446744073709551616:=by
 induction k with
 | zero=>exact⟨f,g⟩
 | succ k i=>rw[shR];omega
set_option maxHeartbeats 1000000 in
theorem qle(x:Int)(n:Int)(w:World)(o:0≤x)(q:x<18446744073709551616)(t:0≤n)(C:n≤64) :
  Calls Tryz.prog 75 #[.int .u64 x,.int .i64 n] w fun e w'=>e = .returned (.int .u64 (x / 2 ^ n.toNat))∧w=w':=by
 obtain⟨m,rfl⟩:=Int.eq_ofNat_of_zero_le t
 have E:m≤64:=by omega
 rw[Int.toNat_natCast,←zey]
 go_enter Tryz.func75,Tryz.ntmps75
 go_wp2_with fail
 go_loop [0,5] (fun z g=>∃k:Nat,g = .int .i64 (k:Int)∧k≤m∧z = .int .u64 (shR x k)) (fun _ g=>m-(intOf g).toNat)
 case atStart=>exact⟨0,rfl,Nat.zero_le _,rfl⟩
 case round =>
  obtain⟨k,rfl,D,rfl⟩:=hrel
  obtain⟨b1,b2⟩:=zex x k o q
  have l:shR x (k+1)=shR x k / 2:=rfl
  have f:=qb l
  clear l
  by_cases v:k<m
  ·have i:(k:Int)<(m:Int):=by omega
   generalize shR x k=y at b1 b2 f ⊢
   go_wp2
   go_round
   case rel=>exact⟨k+1,by go_num,by omega,by rw[qa f]⟩
   case measure=>simp[intOf];omega
  ·obtain rfl:k=m:=by omega
   clear f b2
   go_wp2
   go_ret
   exact⟨rfl,rfl⟩
theorem q89(x y:Int)(g:0≤x)(i:x<16777216)(f:0≤y)(l:y≤255):bits .or .u32 (x*256%4294967296) y=x*256+y:=by
 rw[show x*256%4294967296=x*256 by omega,u32_or _ _ (by omega) (by omega) f (by omega),nat_join 8 _ _ (by omega) (by omega)]
 omega
theorem qzd(ws:List Int)(i:Nat)(x:Int)(h:i<ws.length):wd (ws.set i x) i=x:=by
 unfold wd
 rw[List.getD_eq_getElem?_getD,List.getElem?_set_self h]
 rfl
theorem qv1(ws:List Int)(i j:Nat)(x:Int)(h:i≠j):wd (ws.set i x) j=wd ws j:=by
 unfold wd
 rw[List.getD_eq_getElem?_getD,List.getElem?_set_ne h,←List.getD_eq_getElem?_getD]
theorem qxx(s:ByteArray)(i:Nat)(q:i<64)(j:Nat):j≤4*i+4→0≤wd (qa2 s j) i∧wd (qa2 s j) i<256 ^ (j-4*i):=by
 induction j with
 | zero =>
  intro _
  have m:wd (qa2 s 0) i=0:=by
   show (List.replicate 64 (0:Int)).getD i 0=0
   rw[List.getD_eq_getElem?_getD,List.getElem?_replicate]
   split<;>rfl
  rw[m,show 0-4*i=0 by omega]
  decide
 | succ j v =>
  intro w
  obtain⟨g,f⟩:=v (by omega)
  rw[qe9,qqv]
  by_cases h:j / 4=i
  ·subst h
   rw[qzd _ _ _ (by rw[qhi];exact q)]
   obtain⟨b0,b1⟩:=qwi s j
   have l:j-4*(j / 4)≤3:=by omega
   have t:wd (qa2 s j) (j / 4)<16777216:=by
    refine Int.lt_of_lt_of_le f ?_
    generalize j-4*(j / 4)=d at l
    match d,l with
    | 0,_=>decide
    | 1,_=>decide
    | 2,_=>decide
    | 3,_=>decide
   rw[q89 _ _ g t b0 b1,show j+1-4*(j / 4)=j-4*(j / 4)+1 by omega,Int.pow_succ]
   generalize (256:Int) ^ (j-4*(j / 4))=p at f
   omega
  ·rw[qv1 _ _ _ _ h]
   rcases Nat.lt_or_ge j (4*i) with o | o
   ·rw[show j+1-4*i=0 by omega]
    rw[show j-4*i=0 by omega] at f
    exact⟨g,f⟩
   ·exfalso;omega
theorem qxy(s:ByteArray)(i k:Nat)(o:i<16)(m:k<4) :
  (0≤wd (qa2 s (4*i+k)) i∧wd (qa2 s (4*i+k)) i<16777216)∧qa2 s (4*i+(k+1))=(qa2 s (4*i+k)).set i (wd (qa2 s (4*i+k)) i*256+bt s (4*i+k)):=by
 obtain⟨f,l⟩:=qxx s i (by omega) (4*i+k) (by omega)
 have g:wd (qa2 s (4*i+k)) i<16777216:=by
  refine Int.lt_of_lt_of_le l ?_
  rw[show 4*i+k-4*i=k by omega]
  match k,m with
  | 0,_=>decide
  | 1,_=>decide
  | 2,_=>decide
  | 3,_=>decide
 refine⟨⟨f,g⟩,?_⟩
 obtain⟨b0,b1⟩:=qwi s (4*i+k)
 rw[show 4*i+(k+1)=4*i+k+1 by omega,qe9,qqv,show (4*i+k) / 4=i by omega,q89 _ _ f g b0 b1]
theorem Tryz.infoR64:(Tryz.prog.info? 174).map (·.size)=some 64:=by kernel_rfl
theorem Tryz.infoR8:(Tryz.prog.info? 141).map (·.size)=some 8:=by kernel_rfl
def zc5(x:Value):Sem Value:=Instr.loadAt 174 x
theorem qxz(x:Value):Instr.loadAt 174 x=zc5 x:=rfl
theorem zeb(b o:Nat)(w:World):(zc5 (.pointer (some ⟨b,o,none⟩))).run Tryz.prog w=match zx w b o 64 with | some A=> .ok (.agg A) w | none=>qdw Tryz.prog 174 w b o :=
 zy 174 64 _ Tryz.underlying174 rfl Tryz.infoR64 b o w
def zfm(x:Value):Sem Value:=Instr.loadAt 141 x
theorem qqw(x:Value):Instr.loadAt 141 x=zfm x:=rfl
theorem zc7(b o:Nat)(w:World):(zfm (.pointer (some ⟨b,o,none⟩))).run Tryz.prog w=match zx w b o 8 with | some A=> .ok (.agg A) w | none=>qdw Tryz.prog 141 w b o :=
 zy 141 8 _ Tryz.underlying141 rfl Tryz.infoR8 b o w
def zdk(x v:Value):Sem Unit:=Instr.storeAt 174 x v
theorem qy2(x v:Value):Instr.storeAt 174 x v=zdk x v:=rfl
theorem zez(b o:Nat)(A:Array Value)(w:World):(zdk (.pointer (some ⟨b,o,none⟩)) (.agg A)).run Tryz.prog w=if stOk w b o 64 A=true then .ok () (w.setCells b o A.toList) else qfx Tryz.prog 174 w b o A :=
 qay 174 64 Tryz.infoR64 b o A w
def zfr(x v:Value):Sem Unit:=Instr.storeAt 141 x v
theorem qro(x v:Value):Instr.storeAt 141 x v=zfr x v:=rfl
theorem zdm(b o:Nat)(A:Array Value)(w:World):(zfr (.pointer (some ⟨b,o,none⟩)) (.agg A)).run Tryz.prog w=if stOk w b o 8 A=true then .ok () (w.setCells b o A.toList) else qfx Tryz.prog 141 w b o A :=
 qay 141 8 Tryz.infoR8 b o A w
theorem q9w(x:Int)(f:0≤x)(g:x<4294967296):bits .xor .u64 (bits .xor .u64 (qct x 7) (qct x 18)) (x / 8)=qyy x:=by
 have a:0≤qct x 7∧qct x 7<4294967296:=qjs x 7 f g (by decide)
 have b:0≤qct x 18∧qct x 18<4294967296:=qjs x 18 f g (by decide)
 have c:=qby .xor (qct x 7) (qct x 18)
 have e:qb1 x [7,18]=bits .xor .u32 (bits .xor .u32 0 (qct x 7)) (qct x 18):=rfl
 unfold qyy
 rw[e,ql4 _ a.1 a.2]
 rw[qfg _ _ a.1 a.2 b.1 b.2,qfg _ _ c.1 c.2 (by omega) (by omega)]
theorem q9x(x:Int)(f:0≤x)(g:x<4294967296):bits .xor .u64 (bits .xor .u64 (qct x 17) (qct x 19)) (x / 1024)=sig1 x:=by
 have a:0≤qct x 17∧qct x 17<4294967296:=qjs x 17 f g (by decide)
 have b:0≤qct x 19∧qct x 19<4294967296:=qjs x 19 f g (by decide)
 have c:=qby .xor (qct x 17) (qct x 19)
 have e:qb1 x [17,19]=bits .xor .u32 (bits .xor .u32 0 (qct x 17)) (qct x 19):=rfl
 unfold sig1
 rw[e,ql4 _ a.1 a.2]
 rw[qfg _ _ a.1 a.2 b.1 b.2,qfg _ _ c.1 c.2 (by omega) (by omega)]
theorem qtz(x:Int)(f g i:Nat)(m1 o q:Int)(t:m1=f)(v:o=g)(w:q=i)(l:0≤x)(m:x<4294967296)(y:f≤31)(z:g≤31)(C:i≤31):bits .xor .u64 (bits .xor .u64 (qct x m1) (qct x o)) (qct x q)=qb1 x [m1,o,q]:=by
 subst t v w
 have a:=qjs x f l m y
 have b:=qjs x g l m z
 have d:=qjs x i l m C
 have c:=qby .xor (qct x f) (qct x g)
 have e:qb1 x [(f:Int),g,i]=bits .xor .u32 (bits .xor .u32 (bits .xor .u32 0 (qct x f)) (qct x g)) (qct x i):=rfl
 rw[e,ql4 _ a.1 a.2]
 rw[qfg _ _ a.1 a.2 b.1 b.2,qfg _ _ c.1 c.2 d.1 d.2]
theorem zdz(e f g:Int)(i:0≤e)(l:e<4294967296)(m:0≤f)(o:f<4294967296)(q:0≤g)(t:g<4294967296):bits .xor .u64 (bits .and .u64 e f) (bits .and .u64 (4294967295-e) g)=chI e f g:=by
 have a:=qby .and e f
 have b:=qby .and (4294967295-e) g
 unfold chI
 rw[zen e i l,qkb _ _ i l m o,qkb _ _ (by omega) (by omega) q t,qfg _ _ a.1 a.2 b.1 b.2]
theorem zbs(a b c:Int)(f:0≤a)(g:a<4294967296)(i:0≤b)(l:b<4294967296)(m:0≤c)(o:c<4294967296):bits .xor .u64 (bits .xor .u64 (bits .and .u64 a b) (bits .and .u64 a c)) (bits .and .u64 b c)=q0y a b c:=by
 have x:=qby .and a b
 have y:=qby .and a c
 have z:=qby .and b c
 have v:=qby .xor (bits .and .u32 a b) (bits .and .u32 a c)
 unfold q0y
 rw[qkb _ _ f g i l,qkb _ _ f g m o,qkb _ _ i l m o,qfg _ _ x.1 x.2 y.1 y.2,qfg _ _ v.1 v.2 z.1 z.2]
theorem zb7(x:Int)(w:World)(f:0≤x)(g:x<4294967296):Calls Tryz.prog 75 #[.int .u64 x,.int .i64 3] w fun e w'=>e = .returned (.int .u64 (x / 8))∧w=w':=qle x 3 w f (by omega) (by decide) (by decide)
theorem q9s(x:Int)(w:World)(f:0≤x)(g:x<4294967296):Calls Tryz.prog 75 #[.int .u64 x,.int .i64 10] w fun e w'=>e = .returned (.int .u64 (x / 1024))∧w=w':=qle x 10 w f (by omega) (by decide) (by decide)
def qo4:Array Value:=(qj5.map (Value.int .u64)).toArray
def z64:Array Value:=((List.replicate 64 (0:Int)).map (Value.int .u64)).toArray
set_option maxRecDepth 100000 in
set_option maxHeartbeats 1000000 in
theorem zfl(w:World):Calls Tryz.prog 106 #[] w fun e w'=>e = .returned (.agg qo4)∧qy w w':=by
 go_enter Tryz.func106,Tryz.ntmps106
 go_upto_region 0 with fail
 refine wp_region_lit ?_
 refine zc rfl (v:= .pointer (some ⟨w.heap.size,0,none⟩)) (w':=w.alloc (.cells z64 174)) (by kernel_rfl) ?_
 have f:(w.alloc (.cells z64 174)).heap[w.heap.size]? = some (.cells z64 174 (0,0)):=qi _ _
 have i:qy w (w.alloc (.cells z64 174)):=(Upd.refl _ _).alloc _
 generalize w.alloc (.cells z64 174)=w1 at f i ⊢
 go_upto_region 1 with fail
 refine wp_region_lit ?_
 refine zc rfl (v:= .agg qo4) (w':=w1) (by kernel_rfl) ?_
 refine wpList_store_row rfl _ _ _ rfl w.heap.size qo4 rfl rfl 174 _ f (by kernel_rfl) (by kernel_rfl) (by kernel_rfl) ?_
 have g:=setRow_heap w1 w.heap.size _ qo4 174 (0,0) f
 have l:qy w (w1.setRow w.heap.size qo4):=i.setRow (fun h=>by omega) _
 generalize w1.setRow w.heap.size qo4=m at g l ⊢
 go_wp2_with fail
 refine bodyPost_ret (results_cell_row rfl _ _ w.heap.size 174 _ (0,0) _ rfl g Tryz.underlying174 rfl (by exact Tryz.infoR64)) rfl ?_
 exact⟨rfl,l⟩
end Go.Proofs.YtjpmomdechibmaaGreatDoor
