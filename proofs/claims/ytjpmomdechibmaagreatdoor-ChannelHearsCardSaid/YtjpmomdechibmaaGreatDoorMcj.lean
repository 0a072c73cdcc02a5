/-
  A cell set within a row of lives; remove.
-/
import Derived.Test.YtjpmomdechibmaaGreatDoorMah
import Derived.Test.YtjpmomdechibmaaGreatDoorMbd
set_option linter.unusedVariables false
set_option linter.unusedSimpArgs false
namespace Go.Proofs.YtjpmomdechibmaaGreatDoor
open Go.RowKit
theorem qpa{α:Type}(f:α→List Value)(k:Nat)(g:∀x,(f x).length=k):∀(X:List α) (i j:Nat) (x y:α) (u:Value),X[i]? = some x→j<k→f y=(f x).set j u→(X.set i y).flatMap f=(X.flatMap f).set (i*k+j) u
 | [],i,j,x,y,u,h,_,_=>by simp at h
 | z::X,0,j,x,y,u,h,l,m=>by
  have:z=x:=by simpa using h
  subst this
  rw[List.set_cons_zero,List.flatMap_cons,List.flatMap_cons,m,Nat.zero_mul,Nat.zero_add,List.set_append_left _ _ (by rw[g];exact l)]
 | z::X,i+1,j,x,y,u,h,l,m=>by
  rw[List.set_cons_succ,List.flatMap_cons,List.flatMap_cons,qpa f k g X i j x y u (by simpa using h) l m,List.set_append_right _ _ (by rw[g,Nat.succ_mul];omega),g]
  congr 2
  rw[Nat.succ_mul]
  omega
theorem qwz{α:Type}(f:α→List Value)(k:Nat)(t:∀x,(f x).length=k){w:World}{base:Nat}{T:TypeId}{v:Value}{X:List α}(h:w.ownsRow base T k v X.length (X.flatMap f)){i j:Nat}{x y:α}{u:Value}(q:X[i]? = some x)(C:j<k)(D:f y=(f x).set j u){g:Nat}(z:v.ownBlock=some g) :
  (w.setCell ⟨g,i*k+j,none⟩ u).ownsRow base T k v (X.set i y).length ((X.set i y).flatMap f):=by
 have H:=(List.getElem?_eq_some_iff.1 q).1
 rcases h.2 with ⟨e,L⟩ | ⟨g',cap,l,e,E,m,F,K,I,J⟩
 ·omega
 ·rw[e] at z
  have o:g'=g:=by simpa [Value.ownBlock] using z
  subst o
  rw[List.length_set]
  refine⟨?_,.inr ⟨g',cap,l.setIfInBounds (i*k+j) u,e,E,zu m _ _,F,K,by rw[Array.size_setIfInBounds];exact I,?_⟩⟩
  ·rw[qpa f k t X i j x y u q C D,List.length_set]
   exact h.1
  ·rw[qpa f k t X i j x y u q C D,←J,Array.toList_setIfInBounds,List.take_set]
theorem qzi(x:Live)(s:Int):ql {x with state:=s} = (ql x).set 36 (.int .i64 s):=by
 unfold ql
 rw[List.set_append_right _ _ (by rw[qba];omega),qba]
 rfl
theorem qzj(x:Live)(p:Bool):ql {x with paid:=p} = (ql x).set 37 (.bool p):=by
 unfold ql
 rw[List.set_append_right _ _ (by rw[qba];omega),qba]
 rfl
def Ch.removed(c:Ch)(i:Nat)(x:Live)(paid:Bool):Ch:= {c with xs:=c.xs.set i {x with state:=5,paid:=paid}}
set_option maxRecDepth 100000 in
set_option maxHeartbeats 1000000 in
theorem qi9(g:Nat)(S:Nat→Prop)(c:Ch)(m nv O:Value)(i:Nat)(x:Live)(paid:Bool)(w:World)(h:ChP w g S c m nv O)(K:c.xs[i]? = some x) :
  Calls Tryz.prog 49 #[.pointer (some ⟨g,0,none⟩),.int .i64 i,.bool paid] w fun e w'=>e = .returned (.tuple #[])∧ChP w' g S (c.removed i x paid) m nv O∧Upd (fun k=>m.ownBlock=some k) w w':=by
 have E:=(List.getElem?_eq_some_iff.1 K).1
 have P:w.drew.cell? ⟨g,47,none⟩=some m:=h.toR.live
 obtain⟨f,cap,F,l⟩:∃f cap,m = .slice (some ⟨f,0,none⟩) c.xs.length cap∧m.ownBlock=some f:=by
  rcases h.live.2 with ⟨e,Z⟩ | ⟨g',cap,z,e,_⟩
  ·omega
  ·exact⟨g',cap,e,by rw[e];rfl⟩
 obtain⟨z,j⟩:=qw h.live f l
 have q:=(qc1 h.live).2
 have H:zr w f (i*38) 38=some (ql x).toArray:=by
  rcases q with ⟨e,Z⟩ | ⟨g',W,e,-,hh⟩
  ·rw[Z] at E;simp at E
  ·rw[F] at e
   injection e with e1 e2 e3
   injection e1 with e1
   injection e1 with e1
   have:=hh.row K
   rw[Nat.zero_add,←e1] at this
   exact this
 have a5:w.drew.cell? ⟨f,i*38+36,none⟩=some (.int .i64 x.state):=by
  have:=(qid H).2 36 (by omega)
  rw[List.getElem?_toArray,qfk] at this
  exact this
 have J:w.drew.cell? ⟨f,i*38+37,none⟩=some (.bool x.paid):=by
  have:=(qid H).2 37 (by omega)
  rw[List.getElem?_toArray,qlw] at this
  exact this
 have u1:Upd (· = f) w (w.setCell ⟨f,i*38+36,none⟩ (.int .i64 5)).drew:=((Upd.refl _ _).set1 _ _).drew
 have R:g≠f:=za h.at_ j (by decide)
 have M:(w.setCell ⟨f,i*38+36,none⟩ (.int .i64 5)).drew.ownsRow 0 81 38 m (c.xs.set i {x with state:=5}).length ((c.xs.set i {x with state:=5}).flatMap ql):=qwz ql 38 qas h.live K (by omega) (qzi x 5) l
 have L:(c.xs.set i {x with state:=5})[i]? = some {x with state:=5} := by rw[List.getElem?_set_self E]
 have a6:w.drew.frozen? ⟨f,i*38+36,none⟩=false:=qm j _
 have C:(w.setCell ⟨f,i*38+36,none⟩ (.int .i64 5)).drew.heap[f]? = some (.cells (z.setIfInBounds (i*38+36) (.int .i64 5)) 81 (0,0)):=zu j _ _
 have Y:(w.setCell ⟨f,i*38+36,none⟩ (.int .i64 5)).drew.cell? ⟨f,i*38+37,none⟩=some (.bool x.paid):=by
  have e:w.cell? ⟨f,i*38+37,none⟩=z[i*38+37]? := qg j _
  have e2:w.cell? ⟨f,i*38+37,none⟩=some (.bool x.paid):=J
  rw[qg C,Array.getElem?_setIfInBounds_ne (by omega),←e,e2]
 have a4:(w.setCell ⟨f,i*38+36,none⟩ (.int .i64 5)).drew.frozen? ⟨f,i*38+37,none⟩=false:=qm C _
 have D:=qwz ql 38 qas M L (show 37<38 by omega) (qzj {x with state:=5} paid) l
 rw[List.set_set] at D
 have I:Upd (· = f) w ((w.setCell ⟨f,i*38+36,none⟩ (.int .i64 5)).drew.setCell ⟨f,i*38+37,none⟩ (.bool paid)):=u1.set1 _ _
 have o:ChP ((w.setCell ⟨f,i*38+36,none⟩ (.int .i64 5)).drew.setCell ⟨f,i*38+37,none⟩ (.bool paid)) g S (c.removed i x paid) m nv O:=by
  have t:∀ {v:Value} {n:Nat} {xs:List Value},w.ownsRow 0 30 38 v n xs→∀k,v.ownBlock=some k→¬k=f:=by
   intro v n xs hr k U e
   obtain⟨X,hc⟩:=qw hr k U
   exact za hc j (by decide) e
  have V:=h.ok.xs x (List.mem_of_getElem? K)
  refine⟨I.old h.at_ R,⟨h.ok.s,h.ok.signed,h.ok.heard,h.ok.nextOwn,h.ok.nextTheirs,h.ok.loc,h.ok.rem,?_,?_,h.ok.shelf,h.ok.news,h.ok.last,h.ok.many⟩,D,qq h.news I (t h.news),qq h.last I (t h.last),h.inG,h.inL,h.inN,h.inA,h.sep,fun k U=>Nat.lt_of_lt_of_le (h.lt k U) I.size⟩
  ·intro y N
   rcases List.mem_or_eq_of_mem_set N with N | N
   ·exact h.ok.xs y N
   ·rw[N]
    exact⟨V.h,show (-9223372036854775808:Int)≤5 by decide,show (5:Int)≤9223372036854775807 by decide⟩
  ·show (c.xs.set i _).length≤1000000
   rw[List.length_set]
   exact h.ok.few
 have HF:=qb o
 have HU:=qb (I.mono (T:=fun k=>m.ownBlock=some k) (fun k _ e=>by rw[e];exact l))
 have a7:(i:Int)<(c.xs.length:Int):=by omega
 rw[F] at P
 clear h q H J M L D C j u1 I o F l K
 go_enter Tryz.func49,Tryz.ntmps49
 go_wp2_with (with_reducible first|(first|refine' tw1 (qh ?_) ?_|refine' tw2 (qh ?_) ?_);rotate_left|refine' tw3 (qh ?_)|rfl|apply tn|refine' tw4 ?_)
 go_end0
 exact⟨rfl,qa HF,qa HU⟩
attribute [local go_sem ↓ high] qcv
attribute [local go_sem] qg6 zn
def qf1(own:Bool)(id:Int)(x:Live):Bool:=x.own==own&&(x.h.id==id&&x.state==4)
set_option maxHeartbeats 1000000 in
theorem q1w(own:Bool)(id:Int)(x:Live)(o q:Nat)(w:World)(l:w.cell? ⟨o,0,none⟩=some (.bool own))(m:w.cell? ⟨q,0,none⟩=some (.int .u64 id)) :
  Calls Tryz.prog 77 #[.agg (ql x).toArray,.pointer (some ⟨o,0,none⟩),.pointer (some ⟨q,0,none⟩)] w (qa5 (.bool (qf1 own id x)) w):=by
 go_enter Tryz.func77,Tryz.ntmps77
 go_upto_region 1 with fail
 have g:(w.alloc (.cells (ql x).toArray 81)).heap[w.heap.size]? = some (.cells (ql x).toArray 81 (0,0)):=qi _ _
 have f:qx w (w.alloc (.cells (ql x).toArray 81)):=(Upd.refl _ _).alloc _
 generalize w.alloc (.cells (ql x).toArray 81)=w1 at g f ⊢
 replace l:=f.cell l (fun h=>h)
 replace m:=f.cell m (fun h=>h)
 have t:w1.cell? ⟨w.heap.size,35,none⟩=some (.bool x.own):=by rw[qg g,List.getElem?_toArray];exact qi3 x
 have v:w1.cell? ⟨w.heap.size,36,none⟩=some (.int .i64 x.state):=by rw[qg g,List.getElem?_toArray];exact qfk x
 have y:w1.cell? ⟨w.heap.size,0,none⟩=some (.int .u64 x.h.id):=by rw[qg g,List.getElem?_toArray];exact q6w x
 clear g
 cases i:x.own==own with
 | false =>
  go_wp2_with (with_reducible first|(first|refine' tw1 (qh ?_) ?_|refine' tw2 (qh ?_) ?_);rotate_left|refine' tw3 (qh ?_)|rfl|apply tn|refine' tw4 ?_)
  go_ret
  exact⟨by unfold qf1;rw[i];rfl,f⟩
 | true =>
  cases j:x.h.id==id with
  | false =>
   go_wp2_with (with_reducible first|(first|refine' tw1 (qh ?_) ?_|refine' tw2 (qh ?_) ?_);rotate_left|refine' tw3 (qh ?_)|rfl|apply tn|refine' tw4 ?_)
   go_ret
   exact⟨by unfold qf1;rw[i,j];rfl,f⟩
  | true =>
   go_wp2_with (with_reducible first|(first|refine' tw1 (qh ?_) ?_|refine' tw2 (qh ?_) ?_);rotate_left|refine' tw3 (qh ?_)|rfl|apply tn|refine' tw4 ?_)
   go_ret
   exact⟨by unfold qf1;rw[i,j];rfl,f⟩
def qnk(own:Bool)(id:Int)(xs:List Live):Int:=match xs.findIdx? (qf1 own id) with | some i=>i | none=> -1
set_option maxRecDepth 100000 in
set_option maxHeartbeats 1000000 in
theorem qza(own:Bool)(id:Int)(I J:Nat)(v:Value)(xs:List Live)(w:World)(E:qs5 w v xs)(Z:xs.length≤1000000)(U:w.cell? ⟨I,0,none⟩=some (.bool own))(V:w.cell? ⟨J,0,none⟩=some (.int .u64 id)) :
  Calls Tryz.prog 76 #[v,.func (.func 77) #[] #[.pointer (some ⟨I,0,none⟩),.pointer (some ⟨J,0,none⟩)]] w (qa5 (.int .i64 (qnk own id xs)) w):=by
 have f:=(qc1 E).2
 obtain⟨a,cap,rfl⟩:=qv E
 have g:∀(i:Nat) (x:Live),xs[i]? = some x→∃g',a=some ⟨g',0,none⟩∧qfo w g' 0 xs:=by
  intro i x O
  have l:=(List.getElem?_eq_some_iff.1 O).1
  rcases f with ⟨e,T⟩ | ⟨g',k,e,-,z⟩
  ·rw[T] at l;simp at l
  ·injection e with e1
   exact⟨g',e1,z.toL⟩
 clear f E
 have X:(xs.length:Int)≤1000000:=by omega
 go_enter Tryz.func76,Tryz.ntmps76
 go_wp2_with fail
 go_loopw [5,8] (fun _ H wr=>∃i:Nat,H = .int .i64 (i:Int)∧i≤xs.length∧(∀j x,j<i→xs[j]? = some x→qf1 own id x=false)∧qx w wr) (fun _ H _=>xs.length-(intOf H).toNat)
 case atStart=>exact⟨0,rfl,Nat.zero_le _,fun j x h=>by omega,Upd.refl _ _⟩
 case round =>
  obtain⟨i,rfl,O,M,o⟩:=hrel
  obtain⟨K,rfl⟩:∃K:World,K=wr:=⟨_,rfl⟩
  have C:=qb M
  clear M
  by_cases l:i<xs.length
  ·obtain⟨x,m⟩:∃x,xs[i]? = some x:=⟨_,List.getElem?_eq_getElem l⟩
   obtain⟨g',rfl,z⟩:=g i x m
   have f:=(z.upd o (fun h=>h)).row m
   rw[Nat.zero_add] at f
   have W:(i:Int)<(xs.length:Int):=by omega
   have N:=q1w own id x I J K (o.cell U (fun h=>h)) (o.cell V (fun h=>h))
   have L:=qb m
   clear z g m
   go_wp2_with fail
   refine N.mono ?_
   rintro e w2 ⟨rfl,P⟩
   have R:=o.trans P
   clear N f o P
   cases q:qf1 own id x with
   | true =>
    go_wp2_with fail
    go_ret
    have D:xs.findIdx? (qf1 own id)=some i:=by
     rw[List.findIdx?_eq_some_iff_getElem]
     refine⟨l,?_,fun j t=> ?_⟩
     ·have:=qa L
      rw[List.getElem?_eq_getElem l] at this
      rw[Option.some.inj this,q]
     ·have:=qa C j _ t (List.getElem?_eq_getElem (by omega))
      rw[this]
      decide
    exact⟨by unfold qnk;rw[D];rfl,R⟩
   | false =>
    go_wp2_with fail
    go_roundw
    case rel =>
     refine⟨i+1,by go_num,by omega,fun j y t F=> ?_,R⟩
     by_cases e:j<i
     ·exact qa C j y e F
     ·obtain rfl:j=i:=by omega
      rw[qa L] at F
      rw[←Option.some.inj F]
      exact q
    case measure=>simp[intOf];omega
  ·obtain rfl:i=xs.length:=by omega
   clear g
   go_wp2_with fail
   go_ret
   have D:xs.findIdx? (qf1 own id)=none:=by
    rw[List.findIdx?_eq_none_iff]
    intro x Y
    obtain⟨j,t,rfl⟩:=List.mem_iff_getElem.1 Y
    exact qa C j _ t (List.getElem?_eq_getElem t)
   exact⟨by unfold qnk;rw[D];rfl,o⟩
set_option maxHeartbeats 1000000 in
theorem qll(g:Nat)(S:Nat→Prop)(c:Ch)(own:Bool)(id:Int)(w:World)(h:ChS w g S c) :
  Calls Tryz.prog 47 #[.pointer (some ⟨g,0,none⟩),.bool own,.int .u64 id] w (qa5 (.int .i64 (qnk own id c.xs)) w):=by
 obtain⟨o,nv,y,h⟩:=h
 go_enter Tryz.func47,Tryz.ntmps47
 go_upto_region 1 with fail
 have l:qx w ((w.alloc (.cells #[.bool own] 4)).alloc (.cells #[.int .u64 id] 22)):=((Upd.refl _ _).alloc _).alloc _
 have f:((w.alloc (.cells #[.bool own] 4)).alloc (.cells #[.int .u64 id] 22)).heap[w.heap.size]? = some (.cells #[.bool own] 4 (0,0)):=zj (qi _ _) _
 have i:((w.alloc (.cells #[.bool own] 4)).alloc (.cells #[.int .u64 id] 22)).heap[w.heap.size+1]? = some (.cells #[.int .u64 id] 22 (0,0)):=by
  have:=qi (w.alloc (.cells #[.bool own] 4)) (.cells #[.int .u64 id] 22)
  rwa [World.size_alloc] at this
 generalize (w.alloc (.cells #[.bool own] 4)).alloc (.cells #[.int .u64 id] 22)=q at l f i ⊢
 have j:=h.new l
 have v:q.cell? ⟨g,47,none⟩=some o:=j.toR.live
 have m:=fun(W:World) (n:qx q W)=>qza own id w.heap.size (w.heap.size+1) o c.xs W (qq j.live n (fun _ _ h=>h)) h.ok.few (n.cell (qg f 0) (fun h=>h)) (n.cell (qg i 0) (fun h=>h))
 have t:=qb m
 clear m f i j
 go_wp2_with (with_reducible first|(first|refine' tw1 (qh ?_) ?_|refine' tw2 (qh ?_) ?_);rotate_left|refine' tw3 (qh ?_)|rfl|apply tn|refine' tw4 ?_)
 refine(qa t _ (Upd.refl _ _)).mono ?_
 rintro e z ⟨rfl,x⟩
 go_wp2_with (with_reducible first|(first|refine' tw1 (qh ?_) ?_|refine' tw2 (qh ?_) ?_);rotate_left|refine' tw3 (qh ?_)|rfl|apply tn|refine' tw4 ?_)
 go_ret
 exact⟨rfl,l.trans x⟩
end Go.Proofs.YtjpmomdechibmaaGreatDoor
namespace Go.Proofs.YtjpmomdechibmaaGreatDoor
open Go.RowKit
attribute [local go_sem ↓ high] z7 qal qan qa0 qab qac qag qaa
attribute [local go_sem] qcp qdl qdr qfx zn qc2 qc3 qc6
def qcr(own:Bool)(id:Int)(xs:List Live):Option (Nat × Live):=match xs.findIdx? (qf1 own id) with | some i=>(xs[i]?).map fun x=>(i,x) | none=>none
theorem qir{own:Bool}{id:Int}{xs:List Live}(h:qcr own id xs=none):qnk own id xs = -1:=by
 unfold qcr at h
 unfold qnk
 cases e:xs.findIdx? (qf1 own id) with
 | none=>rfl
 | some i =>
  rw[e] at h
  have h:Option.map (fun x=>(i,x)) xs[i]? = none:=h
  obtain⟨f,-⟩:=List.findIdx?_eq_some_iff_getElem.1 e
  rw[List.getElem?_eq_getElem f] at h
  cases h
theorem qgh{own:Bool}{id:Int}{xs:List Live}{i:Nat}{x:Live}(h:qcr own id xs=some (i,x)):qnk own id xs=(i:Int)∧xs[i]? = some x∧qf1 own id x=true:=by
 unfold qcr at h
 unfold qnk
 cases e:xs.findIdx? (qf1 own id) with
 | none=>rw[e] at h;cases h
 | some j =>
  rw[e] at h
  obtain⟨f,g,-⟩:=List.findIdx?_eq_some_iff_getElem.1 e
  have h:Option.map (fun x=>(j,x)) xs[j]? = some (i,x):=h
  rw[List.getElem?_eq_getElem f] at h
  simp only[Option.map_some,Option.some.injEq,Prod.mk.injEq] at h
  obtain⟨rfl,rfl⟩:=h
  exact⟨rfl,List.getElem?_eq_getElem f,g⟩
def Ch.hearShut(c:Ch):Ch × Int:=if c.k.shutHeard=true then (c,4) else ({c with k:= {c.k with shutHeard:=true}},0)
set_option maxRecDepth 100000 in
set_option maxHeartbeats 1000000 in
theorem qtv(g:Nat)(S:Nat→Prop)(c:Ch)(m:MsgV)(E:m.hash.length=32)(w:World)(h:ChS w g S c) :
  Calls Tryz.prog 71 #[.pointer (some ⟨g,0,none⟩),.agg m.cells.toArray] w fun e w' =>
   e = .returned (.tuple #[qbl,.int .i64 c.hearShut.2])∧ChS w' g (Fr S w w') c.hearShut.1∧Upd S w w':=by
 obtain⟨F,nv,D,h⟩:=h
 go_enter Tryz.func71,Tryz.ntmps71
 go_upto_region 1 with fail
 have i:qx w (w.alloc (.cells m.cells.toArray 30)):=(Upd.refl _ _).alloc _
 generalize w.alloc (.cells m.cells.toArray 30)=w1 at i ⊢
 have f:=h.new i
 have j:w1.cell? ⟨g,43,none⟩=some (.bool c.k.shutHeard):=f.toR.shutHeard
 have v:w1.frozen? ⟨g,43,none⟩=false:=qm f.at_ 43
 cases o:c.k.shutHeard with
 | true =>
  have l:c.hearShut=(c,4):=by unfold Ch.hearShut;rw[if_pos o]
  rw[o] at j
  have q:=qb l
  have z:=qb (f.fr w)
  have t:=qb (i.mono (T:=S) (fun _ _ h=>h.elim))
  clear h f i l v
  go_wp2_with (with_reducible first|(first|refine' tw1 (qh ?_) ?_|refine' tw2 (qh ?_) ?_);rotate_left|refine' tw3 (qh ?_)|rfl|apply tn|refine' tw4 ?_)
  go_ret2
  rw[qa q]
  exact⟨rfl,qa z,qa t⟩
 | false =>
  have l:c.hearShut=({c with k:= {c.k with shutHeard:=true}},0):=by unfold Ch.hearShut;rw[if_neg (by rw[o];decide)]
  rw[o] at j
  have x:=f.putShutHeard true
  have y:=qf2 w1 g 43 (.bool true)
  have q:=qb l
  have C:=qb (x.fr w)
  have t:=qb ((i.mono (T:=S) (fun _ _ h=>h.elim)).trans (y.mono (fun k _ e=>by rw[e];exact h.inG)))
  clear h f i l x y
  go_wp2_with (with_reducible first|(first|refine' tw1 (qh ?_) ?_|refine' tw2 (qh ?_) ?_);rotate_left|refine' tw3 (qh ?_)|rfl|apply tn|refine' tw4 ?_)
  go_ret2
  rw[qa q]
  exact⟨rfl,qa C,qa t⟩
def Ch.hearFail(c:Ch)(m:MsgV):Ch × Int:=match qcr true m.id c.xs with | none=>(c,3) | some p=>(c.removed p.1 p.2 false,0)
theorem qq1{c:Ch}{m:MsgV}(h:qcr true m.id c.xs=none):c.hearFail m=(c,3):=by unfold Ch.hearFail;rw[h]
theorem qq2{c:Ch}{m:MsgV}{i:Nat}{x:Live}(h:qcr true m.id c.xs=some (i,x)):c.hearFail m=(c.removed i x false,0):=by unfold Ch.hearFail;rw[h]
set_option maxRecDepth 100000 in
set_option maxHeartbeats 1000000 in
theorem qts(g:Nat)(S:Nat→Prop)(c:Ch)(m:MsgV)(P:m.hash.length=32)(w:World)(h:ChS w g S c) :
  Calls Tryz.prog 68 #[.pointer (some ⟨g,0,none⟩),.agg m.cells.toArray] w fun e w' =>
   e = .returned (.tuple #[qbl,.int .i64 (c.hearFail m).2])∧ChS w' g (Fr S w w') (c.hearFail m).1∧Upd S w w':=by
 obtain⟨K,nv,H,h⟩:=h
 go_enter Tryz.func68,Tryz.ntmps68
 go_upto_region 1 with fail
 have E:=qb6 w m P
 have v:qx w (w.alloc (.cells m.cells.toArray 30)):=(Upd.refl _ _).alloc _
 generalize w.alloc (.cells m.cells.toArray 30)=w1 at v E ⊢
 have D:=h.new v
 obtain⟨-,-,R,-,-,-,-⟩:=E.cells
 have J:=qll g S c true m.id w1 ⟨K,nv,H,D⟩
 clear E
 go_wp2_with fail
 refine J.mono ?_
 rintro e U ⟨rfl,F⟩
 have t:=D.new F
 have f:=v.trans F
 clear J R D F v
 cases j:qcr true m.id c.xs with
 | none =>
  have l:=qir j
  have y:=qb (qq1 j)
  have M:=qb (t.fr w)
  have z:=qb (f.mono (T:=S) (fun _ _ h=>h.elim))
  rw[l]
  clear h t f j l
  go_wp2_with fail
  go_ret2
  rw[qa y]
  exact⟨rfl,qa M,qa z⟩
 | some p =>
  obtain⟨i,x⟩:=p
  obtain⟨l,o,-⟩:=qgh j
  have q:=qi9 g S c K nv H i x false U t o
  have y:=qb (qq2 j)
  have O:=qb h.inL
  have z:=qb (f.mono (T:=S) (fun _ _ h=>h.elim))
  rw[l]
  clear h t f j l o
  go_wp2_with fail
  refine q.mono ?_
  rintro e V ⟨rfl,I,L⟩
  have N:=qb (I.fr w)
  have C:=qb ((qa z).trans (L.mono (T:=S) (fun k _ e=>qa O k e)))
  clear q I L
  go_wp2_with fail
  go_ret2
  rw[qa y]
  exact⟨rfl,qa N,qa C⟩
end Go.Proofs.YtjpmomdechibmaaGreatDoor
