/-
  give, Counts, Closed.
-/
import Derived.Test.YtjpmomdechibmaaGreatDoorMae
import Derived.Test.YtjpmomdechibmaaGreatDoorRows
import Derived.Test.YtjpmomdechibmaaGreatDoorMaa
import Derived.Deep.RegionHeld3
import Derived.Sort.Grow
import Derived.BigRegion
set_option linter.unusedVariables false
set_option linter.unusedSimpArgs false
namespace Go.Proofs.YtjpmomdechibmaaGreatDoor
open Go.RowKit
def Ch.give(c:Ch)(f:Bool)(n:Int):Ch:=if f then {c with loc:=IntKind.u64.wrap (c.loc+n)} else {c with rem:=IntKind.u64.wrap (c.rem+n)}
theorem qhu(x:Int):0≤IntKind.u64.wrap x∧IntKind.u64.wrap x<18446744073709551616:=by rw[IntKind.wrap_u64];omega
theorem Ch.Ok.give{c:Ch}(h:c.Ok)(f:Bool)(n:Int):(c.give f n).Ok:=by
 unfold Ch.give
 split
 ·exact⟨h.s,h.signed,h.heard,h.nextOwn,h.nextTheirs,qhu _,h.rem,h.xs,h.few,h.shelf,h.news,h.last,h.many⟩
 ·exact⟨h.s,h.signed,h.heard,h.nextOwn,h.nextTheirs,h.loc,qhu _,h.xs,h.few,h.shelf,h.news,h.last,h.many⟩
set_option maxHeartbeats 1000000 in
theorem qsy(g:Nat)(S:Nat→Prop)(c:Ch)(o nv m:Value)(v:Bool)(n:Int)(w:World)(h:ChP w g S c o nv m) :
  Calls Tryz.prog 57 #[.pointer (some ⟨g,0,none⟩),.bool v,.int .u64 n] w fun e w'=>e = .returned (.tuple #[])∧ChP w' g S (c.give v n) o nv m∧Upd (· = g) w w':=by
 cases v with
 | true =>
  have y:w.cell? ⟨g,45,none⟩=some (.int .u64 c.loc):=h.toR.loc
  have C:w.frozen? ⟨g,45,none⟩=false:=qq h.at_ 45
  obtain⟨x,f⟩:∃x,x=IntKind.u64.wrap (c.loc+n):=⟨_,rfl⟩
  have l:=h.put (i:=45) (x:= .int .u64 x) (c':=c.give true n) (by rw[f];exact q3a c o nv m h.ok.s.seed _) (h.ok.give true n) rfl rfl rfl
  have u:Upd (· = g) w (w.setCell ⟨g,45,none⟩ (.int .u64 x)):=(Upd.refl _ _).set1 45 _
  have q:=qb l
  have t:=qb u
  have E:IntKind.u64.wrap (c.loc+n)=x:=f.symm
  clear h l u f
  go_enter Tryz.func57,Tryz.ntmps57
  go_wp2_with (with_reducible first|(first|refine' zr (qg ?_) ?_|refine' zt (qg ?_) ?_);rotate_left|refine' zu (qg ?_)|rfl|apply tn|refine' zv ?_)
  go_end0
  exact⟨rfl,qa q,qa t⟩
 | false =>
  have z:w.cell? ⟨g,46,none⟩=some (.int .u64 c.rem):=h.toR.rem
  have D:w.frozen? ⟨g,46,none⟩=false:=qq h.at_ 46
  obtain⟨x,f⟩:∃x,x=IntKind.u64.wrap (c.rem+n):=⟨_,rfl⟩
  have l:=h.put (i:=46) (x:= .int .u64 x) (c':=c.give false n) (by rw[f];exact q3b c o nv m h.ok.s.seed _) (h.ok.give false n) rfl rfl rfl
  have u:Upd (· = g) w (w.setCell ⟨g,46,none⟩ (.int .u64 x)):=(Upd.refl _ _).set1 46 _
  have q:=qb l
  have t:=qb u
  have E:IntKind.u64.wrap (c.rem+n)=x:=f.symm
  clear h l u f
  go_enter Tryz.func57,Tryz.ntmps57
  go_wp2_with (with_reducible first|(first|refine' zr (qg ?_) ?_|refine' zt (qg ?_) ?_);rotate_left|refine' zu (qg ?_)|rfl|apply tn|refine' zv ?_)
  go_end0
  exact⟨rfl,qa q,qa t⟩
theorem qsc{f:Func}{t u v:Tmp}(h:f.results=#[.tmp t,.tmp u,.tmp v])(tmps:Array Value)(P:Program)(w:World) :
  (results f tmps).run P w = .ok (.tuple #[tmps.getD t undef,tmps.getD u undef,tmps.getD v undef]) w:=by
 simp[results,h]
set_option maxHeartbeats 1000000 in
theorem qzw(g:Nat)(S:Nat→Prop)(c:Ch)(w:World)(h:ChS w g S c) :
  Calls Tryz.prog 28 #[.pointer (some ⟨g,0,none⟩)] w (qcc (.tuple #[.int .i64 c.k.signed,.int .i64 c.k.heard,.bool c.k.awaits]) w):=by
 obtain⟨o,nv,m,h⟩:=h
 have f:w.cell? ⟨g,37,none⟩=some (.int .i64 c.k.signed):=h.toR.signed
 have i:w.cell? ⟨g,38,none⟩=some (.int .i64 c.k.heard):=h.toR.heard
 have l:w.cell? ⟨g,39,none⟩=some (.bool c.k.awaits):=h.toR.awaits
 clear h
 go_enter Tryz.func28,Tryz.ntmps28
 go_wp2_with (with_reducible first|(first|refine' zr (qg ?_) ?_|refine' zt (qg ?_) ?_);rotate_left|refine' zu (qg ?_)|rfl|apply tn|refine' zv ?_)
 refine bodyPost_ret (qsc rfl _ _ _) rfl ?_
 exact⟨rfl,(Q.refl w).drewN' 1⟩
set_option maxHeartbeats 1000000 in
theorem qzu(g:Nat)(S:Nat→Prop)(c:Ch)(w:World)(h:ChS w g S c) :
  Calls Tryz.prog 35 #[.pointer (some ⟨g,0,none⟩)] w (qcc (.bool (c.k.shutSaid&&c.k.shutHeard&&c.xs.isEmpty)) w):=by
 obtain⟨v,nv,y,h⟩:=h
 have f:w.cell? ⟨g,42,none⟩=some (.bool c.k.shutSaid):=h.toR.shutSaid
 have i:w.cell? ⟨g,43,none⟩=some (.bool c.k.shutHeard):=h.toR.shutHeard
 have m:w.cell? ⟨g,47,none⟩=some v:=h.toR.live
 obtain⟨a,cap,o⟩:=qx h.live
 have z:((c.xs.length:Int)==0)=c.xs.isEmpty:=by
  cases c.xs with
  | nil=>rfl
  | cons x l=>simp;omega
 rw[o] at m
 clear h
 go_enter Tryz.func35,Tryz.ntmps35
 cases q:c.k.shutSaid<;>cases t:c.k.shutHeard<;>rw[q] at f<;>rw[t] at i
 all_goals
  go_wp2_with (with_reducible first|(first|refine' zr (qg ?_) ?_|refine' zt (qg ?_) ?_);rotate_left|refine' zu (qg ?_)|rfl|apply tn|refine' zv ?_)
  go_ret
  first
  | exact⟨rfl,Q.refl _⟩
  | exact⟨by simp,Q.refl _⟩
def qrm:List Int:=[1,7,3,5]
def qpd:List Int:=[3,4,1,2,0,1,2,3,4,0,1,2,3,4,0,3,4,1,2,0]
structure Spans(w:World):Prop where
 spans:∀i,i<4→w.cell? ⟨2,i,none⟩=some (.int .i64 (qrm.getD i 0))
theorem Spans.q{w w':World}(h:Spans w)(q:Q w w'):Spans w':=⟨fun i f=>q.cell (h.spans i f)⟩
theorem Spans.upd{S:Nat→Prop}{w w':World}(h:Spans w)(u:Upd S w w')(f:¬S 2):Spans w':=⟨fun i g=>u.cell (h.spans i g) f⟩
theorem Spans.new{w w':World}(h:Spans w)(u:qy w w'):Spans w':=h.upd u (fun h=>h)
structure Glob(w:World):Prop where
 events:∀i,i<20→w.cell? ⟨0,i,none⟩=some (.int .i64 (qpd.getD i 0))
theorem Glob.q{w w':World}(h:Glob w)(q:Q w w'):Glob w':=⟨fun i f=>q.cell (h.events i f)⟩
theorem Glob.upd{S:Nat→Prop}{w w':World}(h:Glob w)(u:Upd S w w')(f:¬S 0):Glob w':=⟨fun i g=>u.cell (h.events i g) f⟩
theorem Glob.new{w w':World}(h:Glob w)(u:qy w w'):Glob w':=h.upd u (fun h=>h)
def qnq(st:Int):Bool:=decide (0≤st)&&decide (st≤9)
theorem zbu{st:Int}(f:0≤st)(g:st≤9):qnq st=true:=by unfold qnq;simp;omega
theorem q8s{st:Int}(h:st<0∨9<st):qnq st=false:=by unfold qnq;simp;omega
def q1g(own:Bool):Int:=if own then 1 else 0
def qz2(own:Bool)(n:Nat):Int:=qpd.getD ((if own then 10 else 0)+n) 0
def qv(st:Int)(own:Bool)(ev:Int):Int:=if qnq st=true∧ev≠0∧qz2 own st.toNat=ev then st+1 else st
def loI(own:Bool):Int:=if own then 3 else 1
def hiI(own:Bool):Int:=if own then 5 else 7
def qtm(st:Int)(own:Bool):Bool:=decide (loI own≤st)&&decide (st≤hiI own)
def qve(st:Int)(own:Bool):Bool:=qnq st&&decide (hiI own<st)
set_option maxRecDepth 100000 in
set_option maxHeartbeats 400000 in
theorem q2x(st:Int)(w:World):Calls Tryz.prog 82 #[.int .i64 st] w (qcc (.bool (qnq st)) w):=by
 by_cases g:0≤st
 ·by_cases f:st≤9
  ·rw[zbu g f]
   go_enter Tryz.func82,Tryz.ntmps82
   go_wp2
   go_ret
   exact⟨rfl,Q.refl _⟩
  ·rw[q8s (by omega)]
   have i:decide (st≤9)=false:=by simpa using f
   go_enter Tryz.func82,Tryz.ntmps82
   go_wp2
   go_ret
   exact⟨rfl,Q.refl _⟩
 ·rw[q8s (by omega)]
  go_enter Tryz.func82,Tryz.ntmps82
  go_wp2
  go_ret
  exact⟨rfl,Q.refl _⟩
set_option maxRecDepth 100000 in
set_option maxHeartbeats 400000 in
theorem qhn(own:Bool)(w:World):Calls Tryz.prog 83 #[.bool own] w (qcc (.int .i64 (q1g own)) w):=by
 cases own
 ·go_enter Tryz.func83,Tryz.ntmps83
  go_wp2
  go_ret
  exact⟨rfl,Q.refl _⟩
 ·go_enter Tryz.func83,Tryz.ntmps83
  go_wp2
  go_ret
  exact⟨rfl,Q.refl _⟩
theorem q5r(w:World):Calls Tryz.prog 83 #[.bool false] w (qcc (.int .i64 0) w):=qhn false w
theorem q9m(w:World):Calls Tryz.prog 83 #[.bool true] w (qcc (.int .i64 1) w):=qhn true w
theorem qmn{st:Int}(w:World)(h:qnq st=true):Calls Tryz.prog 82 #[.int .i64 st] w (qcc (.bool true) w):=h▸q2x st w
theorem qtf{st:Int}(w:World)(h:qnq st=false):Calls Tryz.prog 82 #[.int .i64 st] w (qcc (.bool false) w):=h▸q2x st w
set_option maxRecDepth 100000 in
set_option maxHeartbeats 400000 in
theorem qx4(st ev:Int)(own:Bool)(w:World)(C:Glob w):Calls Tryz.prog 55 #[.int .i64 st,.bool own,.int .i64 ev] w (qcc (.int .i64 (qv st own ev)) w):=by
 cases l:qnq st with
 | false =>
  have e:qv st own ev=st:=by unfold qv;rw[if_neg (by rw[l];simp)]
  rw[e]
  have Hm:=qb l
  clear e l
  go_enter Tryz.func55,Tryz.ntmps55
  go_wp2_with fail
  refine(qtf _ (qa Hm)).mono ?_
  rintro e w1 ⟨rfl,g⟩
  go_wp2
  go_ret
  exact⟨rfl,g⟩
 | true =>
  obtain⟨n,rfl,F⟩:∃n:Nat,st=n∧n≤9:=by
   unfold qnq at l
   simp at l
   exact⟨st.toNat,by omega,by omega⟩
  have Hm:=qb l
  clear l
  by_cases o:ev=0
  ·subst o
   have e:qv n own 0=n:=by unfold qv;rw[if_neg (by simp)]
   rw[e]
   clear e
   go_enter Tryz.func55,Tryz.ntmps55
   go_wp2_with fail
   refine(qmn _ (qa Hm)).mono ?_
   rintro e w1 ⟨rfl,g⟩
   go_wp2
   go_ret
   exact⟨rfl,g⟩
  ·have z:(ev==0)=false:=by simpa using o
   have D:(0:Int)≤(n:Int):=by omega
   have y:(n:Int)<10:=by omega
   have f:w.cell? ⟨0,(if own then 10 else 0)+n,none⟩=some (.int .i64 (qz2 own n)):=C.events _ (by split<;>omega)
   by_cases m:qz2 own n=ev
   ·have e:qv n own ev=n+1:=by unfold qv;rw[if_pos ⟨qa Hm,o,by simpa using m⟩]
    rw[e]
    clear e o
    have v:(qz2 own n != ev)=false:=by simpa using m
    clear m
    cases own<;>simp only[if_true,if_false,Bool.false_eq_true,Nat.zero_add] at f
    all_goals
     generalize qz2 _ n=x at *
     go_enter Tryz.func55,Tryz.ntmps55
     go_wp2_with fail
     refine(qmn _ (qa Hm)).mono ?_
     rintro e w1 ⟨rfl,g⟩
     have i:=g.cell f
     go_wp2_with fail
     refine(qhn _ _).mono ?_
     rintro e E ⟨rfl,q⟩
     have t:=q.cell i
     unfold q1g
     go_wp2
     go_ret
     exact⟨rfl,g.trans q⟩
   ·have e:qv n own ev=n:=by unfold qv;rw[if_neg (by simp;intro _ _;simpa using m)]
    rw[e]
    clear e o
    have v:(qz2 own n != ev)=true:=by simpa using m
    clear m
    cases own<;>simp only[if_true,if_false,Bool.false_eq_true,Nat.zero_add] at f
    all_goals
     generalize qz2 _ n=x at *
     go_enter Tryz.func55,Tryz.ntmps55
     go_wp2_with fail
     refine(qmn _ (qa Hm)).mono ?_
     rintro e w1 ⟨rfl,g⟩
     have i:=g.cell f
     go_wp2_with fail
     refine(qhn _ _).mono ?_
     rintro e E ⟨rfl,q⟩
     have t:=q.cell i
     unfold q1g
     go_wp2
     go_ret
     exact⟨rfl,g.trans q⟩
set_option maxRecDepth 100000 in
set_option maxHeartbeats 400000 in
theorem qya(st:Int)(own:Bool)(w:World)(l:Spans w):Calls Tryz.prog 91 #[.int .i64 st,.bool own] w (qa7 (.bool (qtm st own)) w):=by
 have m:=l.spans 0 (by omega)
 have o:=l.spans 1 (by omega)
 have q:=l.spans 2 (by omega)
 have t:=l.spans 3 (by omega)
 simp only[qrm,List.getD_cons_zero,List.getD_cons_succ] at m o q t
 cases own
 ·have e:qtm st false=(decide (1≤st)&&decide (st≤7)):=rfl
  rw[e]
  by_cases i:1≤st
  ·have f:decide (1≤st)=true:=by simpa using i
   rw[f,Bool.true_and]
   clear e f
   go_enter Tryz.func91,Tryz.ntmps91
   go_wp2_with fail
   refine(qhn _ _).mono ?_
   rintro e w1 ⟨rfl,g⟩
   have v:=g.cell m
   have x:=g.cell o
   unfold q1g
   go_wp2
   go_ret
   exact⟨rfl,(g.upd _).alloc _⟩
  ·have f:decide (1≤st)=false:=by simpa using i
   rw[f,Bool.false_and]
   clear e i
   go_enter Tryz.func91,Tryz.ntmps91
   go_wp2_with fail
   refine(qhn _ _).mono ?_
   rintro e w1 ⟨rfl,g⟩
   have v:=g.cell m
   have x:=g.cell o
   unfold q1g
   go_wp2
   go_ret
   exact⟨rfl,(g.upd _).alloc _⟩
 ·have e:qtm st true=(decide (3≤st)&&decide (st≤5)):=rfl
  rw[e]
  by_cases i:3≤st
  ·have f:decide (3≤st)=true:=by simpa using i
   rw[f,Bool.true_and]
   clear e f
   go_enter Tryz.func91,Tryz.ntmps91
   go_wp2_with fail
   refine(qhn _ _).mono ?_
   rintro e w1 ⟨rfl,g⟩
   have v:=g.cell q
   have x:=g.cell t
   unfold q1g
   go_wp2
   go_ret
   exact⟨rfl,(g.upd _).alloc _⟩
  ·have f:decide (3≤st)=false:=by simpa using i
   rw[f,Bool.false_and]
   clear e i
   go_enter Tryz.func91,Tryz.ntmps91
   go_wp2_with fail
   refine(qhn _ _).mono ?_
   rintro e w1 ⟨rfl,g⟩
   have v:=g.cell q
   have x:=g.cell t
   unfold q1g
   go_wp2
   go_ret
   exact⟨rfl,(g.upd _).alloc _⟩
set_option maxRecDepth 100000 in
set_option maxHeartbeats 400000 in
theorem q13(st:Int)(own:Bool)(w:World)(f:Spans w):Calls Tryz.prog 92 #[.int .i64 st,.bool own] w (qa7 (.bool (qtm st !own)) w):=by
 go_enter Tryz.func92,Tryz.ntmps92
 go_wp2_with fail
 refine(qya _ _ _ f).mono ?_
 rintro e w1 ⟨rfl,g⟩
 go_wp2
 go_ret
 exact⟨rfl,g⟩
set_option maxRecDepth 100000 in
set_option maxHeartbeats 400000 in
theorem qsj(st:Int)(own:Bool)(b:Nat)(w:World)(g:Spans w)(m:w.cell? ⟨b,0,none⟩=some (.int .i64 st)) :
  Calls Tryz.prog 111 #[.bool own,.pointer (some ⟨b,0,none⟩)] w (qcc (.bool (qve st own)) w):=by
 have i:=g.spans 1 (by omega)
 have l:=g.spans 3 (by omega)
 simp only[qrm,List.getD_cons_zero,List.getD_cons_succ] at i l
 cases f:qnq st with
 | false =>
  have e:qve st own=false:=by unfold qve;rw[f];rfl
  rw[e]
  have Hm:=qb f
  clear e f
  go_enter Tryz.func111,Tryz.ntmps111
  go_wp2_with fail
  go_quiet ((go_at_call 82;exact Calls.quiet_of (qtf _ (qa Hm))))
  go_wp2
  go_ret
  exact⟨rfl,Q.drewN _ _⟩
 | true =>
  have e:qve st own=decide (hiI own<st):=by unfold qve;rw[f];rfl
  rw[e]
  have Hm:=qb f
  clear e f
  cases own
  all_goals
   go_enter Tryz.func111,Tryz.ntmps111
   go_wp2_with fail
   go_quiet ((first | (go_at_call 82;exact Calls.quiet_of (qmn _ (qa Hm))) | (go_at_call 83;exact Calls.quiet_of (q5r _)) | (go_at_call 83;exact Calls.quiet_of (q9m _))))
   go_wp2
   go_ret
   exact⟨rfl,Q.drewN _ _⟩
set_option maxRecDepth 100000 in
set_option maxHeartbeats 400000 in
theorem qor(st:Int)(own:Bool)(w:World)(g:Spans w) :
  Calls Tryz.prog 90 #[.int .i64 st,.bool own] w (qa7 (.tuple #[.bool (qve st own),.bool (qve st !own)]) w):=by
 go_enter Tryz.func90,Tryz.ntmps90
 go_wp2_with fail
 refine(qsj st own w.heap.size _ (g.new ((Upd.refl _ _).alloc _)) (qh (qi _ _) 0)).mono ?_
 rintro e w1 ⟨rfl,f⟩
 go_wp2_with fail
 refine(qsj st (!own) w.heap.size _ ((g.new ((Upd.refl _ _).alloc _)).q f) (f.cell (qh (qi _ _) 0))).mono ?_
 rintro e l ⟨rfl,i⟩
 go_wp2
 go_ret2
 exact⟨rfl,((Upd.refl _ _).alloc _).trans ((f.trans i).upd _)⟩
def qcs(ours own:Bool)(st:Int):Bool:=if ours then qtm st own else qtm st !own
def qd5(ours own:Bool)(st:Int):Bool:=if ours then qve st own else qve st !own
set_option maxHeartbeats 400000 in
theorem q5h(ours own:Bool)(st:Int)(C:Array Value)(w:World)(y:Spans w)(i:C[35]? = some (.bool own))(l:C[36]? = some (.int .i64 st)) :
  Calls Tryz.prog 61 #[.bool ours,.agg C] w (qa7 (.tuple #[.bool (qcs ours own st),.bool (qd5 ours own st)]) w):=by
 have f:Spans (w.alloc (.cells C 81)):=y.new ((Upd.refl _ _).alloc _)
 have o:(w.alloc (.cells C 81)).cell? ⟨w.heap.size,35,none⟩=some (.bool own):=(qh (qi _ _) 35).trans i
 have q:(w.alloc (.cells C 81)).cell? ⟨w.heap.size,36,none⟩=some (.int .i64 st):=(qh (qi _ _) 36).trans l
 have t:qy w (w.alloc (.cells C 81)):=(Upd.refl _ _).alloc _
 cases ours
 ·go_enter Tryz.func61,Tryz.ntmps61
  go_wp2_with fail
  refine(qor st own _ f).mono ?_
  rintro e w1 ⟨rfl,g⟩
  have v:=g.cell o (fun h=>h)
  have x:=g.cell q (fun h=>h)
  go_wp2_with fail
  refine(q13 st own _ (f.new g)).mono ?_
  rintro e z ⟨rfl,m⟩
  go_wp2
  go_ret2
  exact⟨rfl,t.trans (g.trans m)⟩
 ·go_enter Tryz.func61,Tryz.ntmps61
  go_wp2_with fail
  refine(qor st own _ f).mono ?_
  rintro e w1 ⟨rfl,g⟩
  have v:=g.cell o (fun h=>h)
  have x:=g.cell q (fun h=>h)
  go_wp2_with fail
  refine(qya st own _ (f.new g)).mono ?_
  rintro e z ⟨rfl,m⟩
  go_wp2
  go_ret2
  exact⟨rfl,t.trans (g.trans m)⟩
end Go.Proofs.YtjpmomdechibmaaGreatDoor
namespace Go.Proofs.YtjpmomdechibmaaGreatDoor
open Go.RowKit Go.Sort
def G(w w':World):Prop:=∃q os,w'=grow (w.drewN q) os
theorem G.refl(w:World):G w w:=⟨0,#[],by rw[grow_empty];rfl⟩
theorem q0b(w:World)(os:Array Obj)(n:Nat):(grow w os).drewN n=grow (w.drewN n) os:=rfl
theorem G.trans{a b c:World}(h:G a b)(k:G b c):G a c:=by
 obtain⟨q,os,rfl⟩:=h
 obtain⟨r,f,rfl⟩:=k
 exact⟨q+r,os++f,by rw[q0b,World.drewN_drewN,grow_grow]⟩
theorem G.drewN{a b:World}(h:G a b)(n:Nat):G a (b.drewN n):=h.trans ⟨n,#[],by rw[grow_empty]⟩
theorem G.drew{a b:World}(h:G a b):G a b.drew:=h.drewN 1
theorem G.alloc{a b:World}(h:G a b)(o:Obj):G a (b.alloc o):=h.trans ⟨0,#[o],alloc_eq_grow b o⟩
theorem Q.g{a b:World}(h:Q a b):G a b:=by
 obtain⟨n,rfl⟩:=h
 exact(G.refl a).drewN n
theorem G.new{a b:World}(h:G a b):qy a b:=by
 obtain⟨q,os,rfl⟩:=h
 refine⟨rfl,rfl,rfl,by simp,fun k f _=> ?_⟩
 show (a.heap++os)[k]? = _
 rw[Array.getElem?_append_left f]
def q18(v:Value)(w:World)(e:Ending)(w':World):Prop:=e = .returned v∧G w w'
def qja(x y:Int):Int:=if x<y then -1 else if y<x then 1 else 0
theorem za2{x y:Int}(h:x<y):qja x y = -1:=by unfold qja;rw[if_pos h]
theorem za1{x y:Int}(h:y<x):qja x y=1:=by unfold qja;rw[if_neg (by omega),if_pos h]
theorem za0(x:Int):qja x x=0:=by unfold qja;rw[if_neg (by omega),if_neg (by omega)]
set_option maxHeartbeats 400000 in
theorem qgq(x:Int)(w:World):Calls Tryz.prog 131 #[.int .u64 x] w (qcc (.bool false) w):=by
 go_enter Tryz.func131,Tryz.ntmps131
 go_wp2
 go_ret
 exact⟨rfl,Q.refl _⟩
set_option maxHeartbeats 400000 in
theorem qpa(x y:Int)(w:World):Calls Tryz.prog 114 #[.int .u64 x,.int .u64 y] w (qcc (.int .i64 (qja x y)) w):=by
 rcases (by omega:x<y∨y<x∨x=y) with h | h | h
 ·rw[za2 h]
  go_enter Tryz.func114,Tryz.ntmps114
  go_wp2_with fail
  refine(qgq _ _).mono ?_
  rintro e w1 ⟨rfl,f⟩
  go_wp2_with fail
  refine(qgq _ _).mono ?_
  rintro e i ⟨rfl,g⟩
  go_wp2
  go_ret
  exact⟨rfl,f.trans g⟩
 ·rw[za1 h]
  go_enter Tryz.func114,Tryz.ntmps114
  go_wp2_with fail
  refine(qgq _ _).mono ?_
  rintro e w1 ⟨rfl,f⟩
  go_wp2_with fail
  refine(qgq _ _).mono ?_
  rintro e i ⟨rfl,g⟩
  go_wp2
  go_ret
  exact⟨rfl,f.trans g⟩
 ·subst h
  rw[za0]
  go_enter Tryz.func114,Tryz.ntmps114
  go_wp2_with fail
  refine(qgq _ _).mono ?_
  rintro e w1 ⟨rfl,f⟩
  go_wp2_with fail
  refine(qgq _ _).mono ?_
  rintro e i ⟨rfl,g⟩
  go_wp2
  go_ret
  exact⟨rfl,f.trans g⟩
def quo(a b c d:Int):Int:=if qja a b≠0 then qja a b else qja c d
set_option maxHeartbeats 800000 in
theorem qwk(a b c d:Int)(g:Nat)(w:World)(C:w.cell? ⟨g,0,none⟩=some (.int .u64 a))(D:w.cell? ⟨g,1,none⟩=some (.int .u64 b))(F:w.cell? ⟨g,2,none⟩=some (.int .u64 c))(I:w.cell? ⟨g,3,none⟩=some (.int .u64 d)) :
  Calls Tryz.prog 94 #[.slice (some ⟨g,0,none⟩) 2 2] w (q18 (.int .i64 (quo a b c d)) w):=by
 go_enter Tryz.func94,Tryz.ntmps94
 go_wp2_with fail
 go_loopw [8] (fun i wr=>∃k:Nat,i = .int .i64 k∧k≤2∧(1≤k→Hid (qja a b=0))∧(2≤k→Hid (qja c d=0))∧G w wr) (fun i _=>2-(intOf i).toNat)
 case atStart=>exact⟨0,rfl,by omega,by omega,by omega,G.refl _⟩
 case round =>
  obtain⟨k,rfl,N,t,v,o⟩:=hrel
  have J:=o.new.cell C (fun h=>h)
  have K:=o.new.cell D (fun h=>h)
  have L:=o.new.cell F (fun h=>h)
  have M:=o.new.cell I (fun h=>h)
  rcases (by omega:k=0∨k=1∨k=2) with rfl | rfl | rfl
  ·clear t v
   by_cases f:qja a b=0
   ·have H:=qb (qpa a b)
    have x:=qb f
    rw[f] at H
    clear f
    go_wp2_with fail
    refine(qa H _).mono ?_
    rintro e w1 ⟨rfl,q⟩
    go_wp2
    go_roundw
    case rel=>exact⟨1,by go_num,by omega,fun _=>x,by omega,(o.alloc _).trans q.g⟩
    case measure=>simp[intOf]
   ·have z:(qja a b != 0)=true:=by simpa using f
    have m:quo a b c d=qja a b:=by unfold quo;rw[if_pos f]
    have E:=qb m
    clear f m
    go_wp2_with fail
    refine(qpa a b _).mono ?_
    rintro e w1 ⟨rfl,q⟩
    go_wp2
    go_ret
    exact⟨by rw[qa E];rfl,(o.alloc _).trans q.g⟩
  ·have l:=t (by omega)
   clear t v
   have m:quo a b c d=qja c d:=by unfold quo;rw[if_neg (by simpa using qa l)]
   by_cases f:qja c d=0
   ·have H:=qb (qpa c d)
    have x:=qb f
    rw[f] at H
    clear f m
    go_wp2_with fail
    refine(qa H _).mono ?_
    rintro e w1 ⟨rfl,q⟩
    go_wp2
    go_roundw
    case rel=>exact⟨2,by go_num,by omega,fun _=>l,fun _=>x,(o.alloc _).trans q.g⟩
    case measure=>simp[intOf]
   ·have z:(qja c d != 0)=true:=by simpa using f
    have E:=qb m
    clear f m
    go_wp2_with fail
    refine(qpa c d _).mono ?_
    rintro e w1 ⟨rfl,q⟩
    go_wp2
    go_ret
    exact⟨by rw[qa E];rfl,(o.alloc _).trans q.g⟩
  ·have l:=t (by omega)
   have y:=v (by omega)
   clear t v
   have m:quo a b c d=0:=by unfold quo;rw[if_neg (by simpa using qa l)];exact qa y
   have E:=qb m
   clear m
   go_wp2
   go_ret
   exact⟨by rw[qa E];rfl,o⟩
def qfk(offered:Bool):Int:=if offered then 0 else 1
set_option maxHeartbeats 400000 in
theorem qra(o:Bool)(C:Array Value)(w:World)(f:C[0]? = some (.bool o)):Calls Tryz.prog 87 #[.agg C] w (q18 (.int .u64 (qfk o)) w):=by
 have g:(w.alloc (.cells C 129)).cell? ⟨w.heap.size,0,none⟩=some (.bool o):=(qh (qi _ _) 0).trans f
 cases o
 all_goals
  go_enter Tryz.func87,Tryz.ntmps87
  go_wp2
  go_ret
  exact⟨rfl,(G.refl _).alloc _⟩
theorem Tryz.infoItem:(Tryz.prog.info? 129).map (·.size)=some 36:=by kernel_rfl
def q8f(x:Value):Sem Value:=Instr.loadAt 129 x
theorem qgj(x:Value):Instr.loadAt 129 x=q8f x:=rfl
theorem qpe(b o:Nat)(w:World):(q8f (.pointer (some ⟨b,o,none⟩))).run Tryz.prog w=match zx w b o 36 with | some A=> .ok (.agg A) w | none=>qdw Tryz.prog 129 w b o :=
 zy 129 36 _ Tryz.underlying129 rfl Tryz.infoItem b o w
attribute [local go_sem ↓ high] qgj
attribute [local go_sem] qpe
theorem qvr{w w':World}{b o n:Nat}{A:Array Value}(h:zx w b o n=some A)(g:G w w'):zx w' b o n=some A:=qis h g.new (fun h=>h)
theorem qsn{w W f:World}{a b:Nat}{A B:Array Value}{x y:Value}(h:zx W a 0 36=some A∧zx W b 0 36=some B∧W.cell? ⟨a,1,none⟩=some x∧W.cell? ⟨b,1,none⟩=some y∧G w W)(g:G W f) :
  zx f a 0 36=some A∧zx f b 0 36=some B∧f.cell? ⟨a,1,none⟩=some x∧f.cell? ⟨b,1,none⟩=some y∧G w f :=
 ⟨qvr h.1 g,qvr h.2.1 g,g.new.cell h.2.2.1 (fun h=>h),g.new.cell h.2.2.2.1 (fun h=>h),h.2.2.2.2.trans g⟩
def zer(i l:Bool)(f g:Int):Int:=quo (qfk i) (qfk l) f g
set_option maxHeartbeats 1600000 in
theorem q5d(i l:Bool)(f g:Int)(A B:Array Value)(w:World)(v:A.size=36)(x:B.size=36)
  (a0:A[0]? = some (.bool i)) (a1:A[1]? = some (.int .u64 f)) (b0:B[0]? = some (.bool l)) (b1:B[1]? = some (.int .u64 g)) :
  Calls Tryz.prog 63 #[.agg A,.agg B] w (q18 (.int .i64 (zer i l f g)) w):=by
 have m:((w.alloc (.cells A 129)).alloc (.cells B 129)).heap[w.heap.size]? = some (.cells A 129 (0,0)):=zl (qi _ _) _
 have o:((w.alloc (.cells A 129)).alloc (.cells B 129)).heap[w.heap.size+1]? = some (.cells B 129 (0,0)):=by
  have:=qi (w.alloc (.cells A 129)) (.cells B 129)
  rwa [World.size_alloc] at this
 have z:G w ((w.alloc (.cells A 129)).alloc (.cells B 129)):=((G.refl w).alloc _).alloc _
 have C:=qaq m 36 v
 have D:=qaq o 36 x
 have q:=(qh m 1).trans a1
 have t:=(qh o 1).trans b1
 clear m o
 go_enter Tryz.func63,Tryz.ntmps63
 go_wp2_with fail
 generalize ((w.alloc (.cells A 129)).alloc (.cells B 129))=wa at *
 go_region_held3 (fun w'=>zx w' w.heap.size 0 36=some A∧zx w' (w.heap.size+1) 0 36=some B∧w'.cell? ⟨w.heap.size,1,none⟩=some (.int .u64 f)∧w'.cell? ⟨w.heap.size+1,1,none⟩=some (.int .u64 g)∧G w w')
  (first | exact⟨C,D,q,t,z.drew⟩ | (refine qsn ?_ (by assumption);first | assumption | exact⟨by assumption,by assumption,by assumption,by assumption,by assumption⟩) | (refine qsn ?_ ((G.refl _).alloc _);first | assumption | exact⟨by assumption,by assumption,by assumption,by assumption,by assumption⟩))
  (first
   | (go_at_call_of 87 (Value.agg A);refine(qra i A _ a0).mono ?_;rintro e I ⟨rfl,E⟩)
   | (go_at_call_of 87 (Value.agg B);refine(qra l B _ b0).mono ?_;rintro e J ⟨rfl,F⟩)
   | (go_at_call 94;refine(qwk (qfk i) (qfk l) f g _ _ (qh (qi _ _) 0) (qh (qi _ _) 1) (qh (qi _ _) 2) (qh (qi _ _) 3)).mono ?_;rintro e K ⟨rfl,H⟩))
 go_wp2
 go_ret
 have y:= ‹zx _ _ _ _=some A∧zx _ _ _ _=some B∧_›
 exact⟨rfl,y.2.2.2.2⟩
end Go.Proofs.YtjpmomdechibmaaGreatDoor
namespace Go.Proofs.YtjpmomdechibmaaGreatDoor
open Go.RowKit Go.Sort
instance:Inhabited Htlc:=⟨⟨0,0,Vector.replicate 32 0,0⟩⟩
instance:Inhabited Item:=⟨⟨false,default⟩⟩
def qdf(w:World)(g off:Nat)(xs:List Item):Prop :=
 ∃C T,w.heap[g]? = some (.cells C T (0,0))∧off+xs.length*36≤C.size∧∀i,i<xs.length→∀j,j<36→C[off+i*36+j]? = (zi xs[i]!)[j]?
theorem qdf.row{w:World}{g off:Nat}{xs:List Item}(h:qdf w g off xs){i:Nat}(l:i<xs.length):zx w g (off+i*36) 36=some (zi xs[i]!).toArray:=by
 obtain⟨C,T,m,t,o⟩:=h
 have f:off+i*36+36≤C.size:=by have:=Nat.mul_le_mul_right 36 (show i+1≤xs.length from l);omega
 rw[qca m _ _ f]
 congr 1
 apply Array.ext'
 apply List.ext_getElem?
 intro j
 rw[Array.getElem?_toList,Array.getElem?_extract]
 by_cases q:j<36
 ·rw[if_pos (by omega),o i l j q]
 ·rw[if_neg (by omega),List.getElem?_eq_none (by rw[qcg];omega)]
theorem qdf.ok{w:World}{g off:Nat}{xs:List Item}(h:qdf w g off xs){i:Nat}(m:i<xs.length)(y:Item):stOk w g (off+i*36) 36 (zi y).toArray=true:=by
 obtain⟨C,T,l,q,o⟩:=h
 have f:off+i*36+36≤C.size:=by have:=Nat.mul_le_mul_right 36 (show i+1≤xs.length from m);omega
 exact qff l f (by rw[List.size_toArray,qcg]) (by rw[List.all_toArray,List.all_eq_true];exact qqp y)
theorem qdf.set{w:World}{g off:Nat}{xs:List Item}(h:qdf w g off xs){i:Nat}(q:i<xs.length)(y:Item):qdf (w.setCells g (off+i*36) (zi y)) g off (xs.set i y):=by
 obtain⟨C,T,m,v,o⟩:=h
 have l:off+i*36+36≤C.size:=by have:=Nat.mul_le_mul_right 36 (show i+1≤xs.length from q);omega
 refine⟨_,T,qa9 m _ _,by rw[qqu,List.length_set];exact v,fun k f j t=> ?_⟩
 rw[List.length_set] at f
 rw[qif _ _ _ _ (by rw[qcg];exact l),qcg]
 by_cases e:i=k
 ·subst e
  rw[if_pos (by omega),show off+i*36+j-(off+i*36)=j by omega]
  simp[f]
 ·rw[if_neg ?_,o k f j t]
  ·rw[List.getElem!_eq_getElem?_getD,List.getElem!_eq_getElem?_getD,List.getElem?_set_ne e]
  ·rcases Nat.lt_or_gt_of_ne e with h | h
   ·have:=Nat.mul_le_mul_right 36 (show i+1≤k from h);omega
   ·have:=Nat.mul_le_mul_right 36 (show k+1≤i from h);omega
theorem qdf.upd{S:Nat→Prop}{w w':World}{g off:Nat}{xs:List Item}(h:qdf w g off xs)(u:Upd S w w')(i:¬S g):qdf w' g off xs:=by
 obtain⟨C,T,f,r⟩:=h
 exact⟨C,T,u.old f i,r⟩
theorem qdf.drewN{w:World}{g off:Nat}{xs:List Item}(h:qdf w g off xs)(n:Nat):qdf (w.drewN n) g off xs:=h
theorem qdf.drew{w:World}{g off:Nat}{xs:List Item}(h:qdf w g off xs):qdf w.drew g off xs:=h
theorem qdf.lt{w:World}{g off:Nat}{xs:List Item}(h:qdf w g off xs):g<w.heap.size:=by
 obtain⟨C,T,f,r⟩:=h
 exact zw f
def q98(xs:List Item)(i j:Nat):List Item:=(xs.set i xs[j]!).set j xs[i]!
theorem qdf.swap{w:World}{g off:Nat}{xs:List Item}(h:qdf w g off xs){i j:Nat}(f:i<xs.length)(l:j<xs.length) :
  qdf ((w.setCells g (off+i*36) (zi xs[j]!)).setCells g (off+j*36) (zi xs[i]!)) g off (q98 xs i j) :=
 (h.set f _).set (by rw[List.length_set];exact l) _
def q9y(x v:Value):Sem Unit:=Instr.storeAt 129 x v
theorem qm5(x v:Value):Instr.storeAt 129 x v=q9y x v:=rfl
theorem q3c(b o:Nat)(A:Array Value)(w:World):(q9y (.pointer (some ⟨b,o,none⟩)) (.agg A)).run Tryz.prog w=if stOk w b o 36 A=true then .ok () (w.setCells b o A.toList) else qfx Tryz.prog 129 w b o A :=
 qay 129 36 Tryz.infoItem b o A w
attribute [local go_sem ↓ high] qgj qm5
attribute [local go_sem] qpe q3c
end Go.Proofs.YtjpmomdechibmaaGreatDoor
namespace Go.Proofs.YtjpmomdechibmaaGreatDoor
open Go.RowKit Go.Sort
def cf(x y:Item):Int:=zer x.offered y.offered x.h.id y.h.id
def kl(x y:Item):Prop:=qfk x.offered<qfk y.offered∨(qfk x.offered=qfk y.offered∧x.h.id<y.h.id)
theorem zfh(x y:Item):cf x y<0↔kl x y:=by
 unfold cf zer quo qja kl
 generalize qfk x.offered=a
 generalize qfk y.offered=b
 generalize x.h.id=c
 generalize y.h.id=d
 split<;>split<;>(try split)<;>(try split)<;>omega
def lt'(p q:Item × Nat):Prop:=kl p.1 q.1∨(¬kl q.1 p.1∧p.2<q.2)
theorem qig{p q r:Item × Nat}(h:lt' p q)(k:lt' q r):lt' p r:=by unfold lt' kl at *;omega
theorem q0x(p:Item × Nat):¬lt' p p:=by unfold lt' kl;omega
abbrev Srt(l:List (Item × Nat)):Prop:=l.Pairwise lt'
def zco(A B:List (Item × Nat)):Prop:=∀p∈A,∀q∈B,lt' p q
theorem qrn{A B:List (Item × Nat)} : Srt (A++B)↔Srt A∧Srt B∧zco A B:=List.pairwise_append
theorem qlk{A B:List (Item × Nat)}(v:Srt A)(w:Srt B)(h:∀p q,A.getLast? = some p→B.head? = some q→lt' p q):zco A B:=by
 intro p g q m
 cases B with
 | nil=>cases m
 | cons b B =>
  obtain⟨a,o⟩:∃a,A.getLast? = some a:=by
   cases t:A.getLast? with
   | none=>rw[List.getLast?_eq_none_iff] at t;subst t;cases g
   | some a=>exact⟨a,rfl⟩
  have f:=h a b o rfl
  have i:p=a∨lt' p a:=by
   obtain⟨x,rfl⟩:=List.getLast?_eq_some_iff.1 o
   rcases List.mem_append.1 g with g | g
   ·exact .inr ((List.pairwise_append.1 v).2.2 p g a (List.mem_singleton.2 rfl))
   ·exact .inl (List.mem_singleton.1 g)
  have l:q=b∨lt' b q:=by
   rcases List.mem_cons.1 m with rfl | m
   ·exact .inl rfl
   ·exact .inr ((List.pairwise_cons.1 w).1 q m)
  rcases i with rfl | i<;>rcases l with rfl | l
  ·exact f
  ·exact qig f l
  ·exact qig i f
  ·exact qig i (qig f l)
def Low(A B:List (Item × Nat)):Prop:=∀p∈A,∀q∈B,p.2<q.2
theorem q4t{y:Item × Nat}{i l:List (Item × Nat)}(w:Srt (i++l))(x:Low (i++l) [y])(t:∀p,i.getLast? = some p→¬kl y.1 p.1)(v:∀q,l.head? = some q→kl y.1 q.1):Srt (i++(y::l)):=by
 obtain⟨m,o,D⟩:=qrn.1 w
 have z:∀p∈i,lt' p y:=fun p f=>by
  have:=qlk (A:=i) (B:=[y]) m (List.pairwise_singleton _ _) (fun p q f g=>by
   simp only[List.head?_cons,Option.some.injEq] at g
   subst g
   refine .inr ⟨t p f,x p ?_ y (List.mem_singleton.2 rfl)⟩
   exact List.mem_append_left _ (List.mem_of_getLast? f))
  exact this p f y (List.mem_singleton.2 rfl)
 have C:∀q∈l,lt' y q:=fun q g=>by
  have:=qlk (A:=[y]) (B:=l) (List.pairwise_singleton _ _) o (fun p q f g=>by
   simp only[List.getLast?_singleton,Option.some.injEq] at f
   subst f
   exact .inl (v q g))
  exact this y (List.mem_singleton.2 rfl) q g
 refine qrn.2 ⟨m,List.pairwise_cons.2 ⟨C,o⟩,fun p f q g=> ?_⟩
 rcases List.mem_cons.1 g with rfl | g
 ·exact z p f
 ·exact D p f q g
end Go.Proofs.YtjpmomdechibmaaGreatDoor
