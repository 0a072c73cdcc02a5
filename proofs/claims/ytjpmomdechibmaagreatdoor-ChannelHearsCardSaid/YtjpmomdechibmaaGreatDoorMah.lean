/-
  give, Counts, Closed.
-/
import Derived.Test.YtjpmomdechibmaaGreatDoorMaf
import Derived.Test.YtjpmomdechibmaaGreatDoorRows
import Derived.Test.YtjpmomdechibmaaGreatDoorMaa
import Derived.Deep.RegionHeld3
import Derived.Test.YtjpmomdechibmaaGreatDoorMab
import Derived.Sort.Grow
import Derived.BigRegion
set_option linter.unusedVariables false
set_option linter.unusedSimpArgs false
namespace Go.Proofs.YtjpmomdechibmaaGreatDoor
open Go.RowKit
def Ch.give(c:Ch)(f:Bool)(n:Int):Ch:=if f then {c with loc:=IntKind.u64.wrap (c.loc+n)} else {c with rem:=IntKind.u64.wrap (c.rem+n)}
theorem qhe(x:Int):0≤IntKind.u64.wrap x∧IntKind.u64.wrap x<18446744073709551616:=by rw[IntKind.wrap_u64];omega
theorem Ch.Ok.give{c:Ch}(h:c.Ok)(f:Bool)(n:Int):(c.give f n).Ok:=by
 unfold Ch.give
 split
 ·exact⟨h.s,h.signed,h.heard,h.nextOwn,h.nextTheirs,qhe _,h.rem,h.xs,h.few,h.shelf,h.news,h.last,h.many⟩
 ·exact⟨h.s,h.signed,h.heard,h.nextOwn,h.nextTheirs,h.loc,qhe _,h.xs,h.few,h.shelf,h.news,h.last,h.many⟩
set_option maxHeartbeats 1000000 in
theorem qru(g:Nat)(S:Nat→Prop)(c:Ch)(m nv l:Value)(t:Bool)(n:Int)(w:World)(h:ChP w g S c m nv l) :
  Calls Tryz.prog 57 #[.pointer (some ⟨g,0,none⟩),.bool t,.int .u64 n] w fun e w'=>e = .returned (.tuple #[])∧ChP w' g S (c.give t n) m nv l∧Upd (· = g) w w':=by
 cases t with
 | true =>
  have v:w.cell? ⟨g,45,none⟩=some (.int .u64 c.loc):=h.toR.loc
  have z:w.frozen? ⟨g,45,none⟩=false:=qm h.at_ 45
  obtain⟨x,f⟩:∃x,x=IntKind.u64.wrap (c.loc+n):=⟨_,rfl⟩
  have j:=h.put (i:=45) (x:= .int .u64 x) (c':=c.give true n) (by rw[f];exact q1l c m nv l h.ok.s.seed _) (h.ok.give true n) rfl rfl rfl
  have u:Upd (· = g) w (w.setCell ⟨g,45,none⟩ (.int .u64 x)):=(Upd.refl _ _).set1 45 _
  have o:=qb j
  have q:=qb u
  have D:IntKind.u64.wrap (c.loc+n)=x:=f.symm
  clear h j u f
  go_enter Tryz.func57,Tryz.ntmps57
  go_wp2_with (with_reducible first|(first|refine' tw1 (qh ?_) ?_|refine' tw2 (qh ?_) ?_);rotate_left|refine' tw3 (qh ?_)|rfl|apply tn|refine' tw4 ?_)
  go_end0
  exact⟨rfl,qa o,qa q⟩
 | false =>
  have y:w.cell? ⟨g,46,none⟩=some (.int .u64 c.rem):=h.toR.rem
  have C:w.frozen? ⟨g,46,none⟩=false:=qm h.at_ 46
  obtain⟨x,f⟩:∃x,x=IntKind.u64.wrap (c.rem+n):=⟨_,rfl⟩
  have j:=h.put (i:=46) (x:= .int .u64 x) (c':=c.give false n) (by rw[f];exact q1m c m nv l h.ok.s.seed _) (h.ok.give false n) rfl rfl rfl
  have u:Upd (· = g) w (w.setCell ⟨g,46,none⟩ (.int .u64 x)):=(Upd.refl _ _).set1 46 _
  have o:=qb j
  have q:=qb u
  have D:IntKind.u64.wrap (c.rem+n)=x:=f.symm
  clear h j u f
  go_enter Tryz.func57,Tryz.ntmps57
  go_wp2_with (with_reducible first|(first|refine' tw1 (qh ?_) ?_|refine' tw2 (qh ?_) ?_);rotate_left|refine' tw3 (qh ?_)|rfl|apply tn|refine' tw4 ?_)
  go_end0
  exact⟨rfl,qa o,qa q⟩
def qqi:List Int:=[1,7,3,5]
def qoj:List Int:=[3,4,1,2,0,1,2,3,4,0,1,2,3,4,0,3,4,1,2,0]
structure Spans(w:World):Prop where
 spans:∀i,i<4→w.cell? ⟨2,i,none⟩=some (.int .i64 (qqi.getD i 0))
theorem Spans.q{w w':World}(h:Spans w)(q:Q w w'):Spans w':=⟨fun i f=>q.cell (h.spans i f)⟩
theorem Spans.upd{S:Nat→Prop}{w w':World}(h:Spans w)(u:Upd S w w')(f:¬S 2):Spans w':=⟨fun i g=>u.cell (h.spans i g) f⟩
theorem Spans.new{w w':World}(h:Spans w)(u:qx w w'):Spans w':=h.upd u (fun h=>h)
structure Glob(w:World):Prop where
 events:∀i,i<20→w.cell? ⟨0,i,none⟩=some (.int .i64 (qoj.getD i 0))
theorem Glob.q{w w':World}(h:Glob w)(q:Q w w'):Glob w':=⟨fun i f=>q.cell (h.events i f)⟩
theorem Glob.upd{S:Nat→Prop}{w w':World}(h:Glob w)(u:Upd S w w')(f:¬S 0):Glob w':=⟨fun i g=>u.cell (h.events i g) f⟩
theorem Glob.new{w w':World}(h:Glob w)(u:qx w w'):Glob w':=h.upd u (fun h=>h)
def qm1(st:Int):Bool:=decide (0≤st)&&decide (st≤9)
theorem q93{st:Int}(f:0≤st)(g:st≤9):qm1 st=true:=by unfold qm1;simp;omega
theorem q65{st:Int}(h:st<0∨9<st):qm1 st=false:=by unfold qm1;simp;omega
def qz1(own:Bool):Int:=if own then 1 else 0
def qyt(own:Bool)(n:Nat):Int:=qoj.getD ((if own then 10 else 0)+n) 0
def q8(st:Int)(own:Bool)(ev:Int):Int:=if qm1 st=true∧ev≠0∧qyt own st.toNat=ev then st+1 else st
def loI(own:Bool):Int:=if own then 3 else 1
def hiI(own:Bool):Int:=if own then 5 else 7
def qsg(st:Int)(own:Bool):Bool:=decide (loI own≤st)&&decide (st≤hiI own)
def qt9(st:Int)(own:Bool):Bool:=qm1 st&&decide (hiI own<st)
set_option maxRecDepth 100000 in
set_option maxHeartbeats 400000 in
theorem q1d(st:Int)(w:World):Calls Tryz.prog 82 #[.int .i64 st] w (qci (.bool (qm1 st)) w):=by
 by_cases g:0≤st
 ·by_cases f:st≤9
  ·rw[q93 g f]
   go_enter Tryz.func82,Tryz.ntmps82
   go_wp2
   go_ret
   exact⟨rfl,Q.refl _⟩
  ·rw[q65 (by omega)]
   have i:decide (st≤9)=false:=by simpa using f
   go_enter Tryz.func82,Tryz.ntmps82
   go_wp2
   go_ret
   exact⟨rfl,Q.refl _⟩
 ·rw[q65 (by omega)]
  go_enter Tryz.func82,Tryz.ntmps82
  go_wp2
  go_ret
  exact⟨rfl,Q.refl _⟩
set_option maxRecDepth 100000 in
set_option maxHeartbeats 400000 in
theorem qg8(own:Bool)(w:World):Calls Tryz.prog 83 #[.bool own] w (qci (.int .i64 (qz1 own)) w):=by
 cases own
 ·go_enter Tryz.func83,Tryz.ntmps83
  go_wp2
  go_ret
  exact⟨rfl,Q.refl _⟩
 ·go_enter Tryz.func83,Tryz.ntmps83
  go_wp2
  go_ret
  exact⟨rfl,Q.refl _⟩
theorem q34(w:World):Calls Tryz.prog 83 #[.bool false] w (qci (.int .i64 0) w):=qg8 false w
theorem q7u(w:World):Calls Tryz.prog 83 #[.bool true] w (qci (.int .i64 1) w):=qg8 true w
theorem qly{st:Int}(w:World)(h:qm1 st=true):Calls Tryz.prog 82 #[.int .i64 st] w (qci (.bool true) w):=h▸q1d st w
theorem qsa{st:Int}(w:World)(h:qm1 st=false):Calls Tryz.prog 82 #[.int .i64 st] w (qci (.bool false) w):=h▸q1d st w
set_option maxRecDepth 100000 in
set_option maxHeartbeats 400000 in
theorem qwr(st ev:Int)(own:Bool)(w:World)(z:Glob w):Calls Tryz.prog 55 #[.int .i64 st,.bool own,.int .i64 ev] w (qci (.int .i64 (q8 st own ev)) w):=by
 cases j:qm1 st with
 | false =>
  have e:q8 st own ev=st:=by unfold q8;rw[if_neg (by rw[j];simp)]
  rw[e]
  have Hm:=qb j
  clear e j
  go_enter Tryz.func55,Tryz.ntmps55
  go_wp2_with fail
  refine(qsa _ (qa Hm)).mono ?_
  rintro e w1 ⟨rfl,g⟩
  go_wp2
  go_ret
  exact⟨rfl,g⟩
 | true =>
  obtain⟨n,rfl,E⟩:∃n:Nat,st=n∧n≤9:=by
   unfold qm1 at j
   simp at j
   exact⟨st.toNat,by omega,by omega⟩
  have Hm:=qb j
  clear j
  by_cases m:ev=0
  ·subst m
   have e:q8 n own 0=n:=by unfold q8;rw[if_neg (by simp)]
   rw[e]
   clear e
   go_enter Tryz.func55,Tryz.ntmps55
   go_wp2_with fail
   refine(qly _ (qa Hm)).mono ?_
   rintro e w1 ⟨rfl,g⟩
   go_wp2
   go_ret
   exact⟨rfl,g⟩
  ·have y:(ev==0)=false:=by simpa using m
   have C:(0:Int)≤(n:Int):=by omega
   have v:(n:Int)<10:=by omega
   have f:w.cell? ⟨0,(if own then 10 else 0)+n,none⟩=some (.int .i64 (qyt own n)):=z.events _ (by split<;>omega)
   by_cases l:qyt own n=ev
   ·have e:q8 n own ev=n+1:=by unfold q8;rw[if_pos ⟨qa Hm,m,by simpa using l⟩]
    rw[e]
    clear e m
    have t:(qyt own n != ev)=false:=by simpa using l
    clear l
    cases own<;>simp only[if_true,if_false,Bool.false_eq_true,Nat.zero_add] at f
    all_goals
     generalize qyt _ n=x at *
     go_enter Tryz.func55,Tryz.ntmps55
     go_wp2_with fail
     refine(qly _ (qa Hm)).mono ?_
     rintro e w1 ⟨rfl,g⟩
     have i:=g.cell f
     go_wp2_with fail
     refine(qg8 _ _).mono ?_
     rintro e D ⟨rfl,o⟩
     have q:=o.cell i
     unfold qz1
     go_wp2
     go_ret
     exact⟨rfl,g.trans o⟩
   ·have e:q8 n own ev=n:=by unfold q8;rw[if_neg (by simp;intro _ _;simpa using l)]
    rw[e]
    clear e m
    have t:(qyt own n != ev)=true:=by simpa using l
    clear l
    cases own<;>simp only[if_true,if_false,Bool.false_eq_true,Nat.zero_add] at f
    all_goals
     generalize qyt _ n=x at *
     go_enter Tryz.func55,Tryz.ntmps55
     go_wp2_with fail
     refine(qly _ (qa Hm)).mono ?_
     rintro e w1 ⟨rfl,g⟩
     have i:=g.cell f
     go_wp2_with fail
     refine(qg8 _ _).mono ?_
     rintro e D ⟨rfl,o⟩
     have q:=o.cell i
     unfold qz1
     go_wp2
     go_ret
     exact⟨rfl,g.trans o⟩
set_option maxRecDepth 100000 in
set_option maxHeartbeats 400000 in
theorem qww(st:Int)(own:Bool)(w:World)(j:Spans w):Calls Tryz.prog 91 #[.int .i64 st,.bool own] w (qa5 (.bool (qsg st own)) w):=by
 have l:=j.spans 0 (by omega)
 have m:=j.spans 1 (by omega)
 have o:=j.spans 2 (by omega)
 have q:=j.spans 3 (by omega)
 simp only[qqi,List.getD_cons_zero,List.getD_cons_succ] at l m o q
 cases own
 ·have e:qsg st false=(decide (1≤st)&&decide (st≤7)):=rfl
  rw[e]
  by_cases i:1≤st
  ·have f:decide (1≤st)=true:=by simpa using i
   rw[f,Bool.true_and]
   clear e f
   go_enter Tryz.func91,Tryz.ntmps91
   go_wp2_with fail
   refine(qg8 _ _).mono ?_
   rintro e w1 ⟨rfl,g⟩
   have t:=g.cell l
   have v:=g.cell m
   unfold qz1
   go_wp2
   go_ret
   exact⟨rfl,(g.upd _).alloc _⟩
  ·have f:decide (1≤st)=false:=by simpa using i
   rw[f,Bool.false_and]
   clear e i
   go_enter Tryz.func91,Tryz.ntmps91
   go_wp2_with fail
   refine(qg8 _ _).mono ?_
   rintro e w1 ⟨rfl,g⟩
   have t:=g.cell l
   have v:=g.cell m
   unfold qz1
   go_wp2
   go_ret
   exact⟨rfl,(g.upd _).alloc _⟩
 ·have e:qsg st true=(decide (3≤st)&&decide (st≤5)):=rfl
  rw[e]
  by_cases i:3≤st
  ·have f:decide (3≤st)=true:=by simpa using i
   rw[f,Bool.true_and]
   clear e f
   go_enter Tryz.func91,Tryz.ntmps91
   go_wp2_with fail
   refine(qg8 _ _).mono ?_
   rintro e w1 ⟨rfl,g⟩
   have t:=g.cell o
   have v:=g.cell q
   unfold qz1
   go_wp2
   go_ret
   exact⟨rfl,(g.upd _).alloc _⟩
  ·have f:decide (3≤st)=false:=by simpa using i
   rw[f,Bool.false_and]
   clear e i
   go_enter Tryz.func91,Tryz.ntmps91
   go_wp2_with fail
   refine(qg8 _ _).mono ?_
   rintro e w1 ⟨rfl,g⟩
   have t:=g.cell o
   have v:=g.cell q
   unfold qz1
   go_wp2
   go_ret
   exact⟨rfl,(g.upd _).alloc _⟩
set_option maxRecDepth 100000 in
set_option maxHeartbeats 400000 in
theorem q0l(st:Int)(own:Bool)(w:World)(f:Spans w):Calls Tryz.prog 92 #[.int .i64 st,.bool own] w (qa5 (.bool (qsg st !own)) w):=by
 go_enter Tryz.func92,Tryz.ntmps92
 go_wp2_with fail
 refine(qww _ _ _ f).mono ?_
 rintro e w1 ⟨rfl,g⟩
 go_wp2
 go_ret
 exact⟨rfl,g⟩
set_option maxRecDepth 100000 in
set_option maxHeartbeats 400000 in
theorem qrh(st:Int)(own:Bool)(b:Nat)(w:World)(g:Spans w)(l:w.cell? ⟨b,0,none⟩=some (.int .i64 st)) :
  Calls Tryz.prog 111 #[.bool own,.pointer (some ⟨b,0,none⟩)] w (qci (.bool (qt9 st own)) w):=by
 have i:=g.spans 1 (by omega)
 have j:=g.spans 3 (by omega)
 simp only[qqi,List.getD_cons_zero,List.getD_cons_succ] at i j
 cases f:qm1 st with
 | false =>
  have e:qt9 st own=false:=by unfold qt9;rw[f];rfl
  rw[e]
  have Hm:=qb f
  clear e f
  go_enter Tryz.func111,Tryz.ntmps111
  go_wp2_with fail
  go_quiet ((go_at_call 82;exact Calls.quiet_of (qsa _ (qa Hm))))
  go_wp2
  go_ret
  exact⟨rfl,Q.drewN _ _⟩
 | true =>
  have e:qt9 st own=decide (hiI own<st):=by unfold qt9;rw[f];rfl
  rw[e]
  have Hm:=qb f
  clear e f
  cases own
  all_goals
   go_enter Tryz.func111,Tryz.ntmps111
   go_wp2_with fail
   go_quiet ((first | (go_at_call 82;exact Calls.quiet_of (qly _ (qa Hm))) | (go_at_call 83;exact Calls.quiet_of (q34 _)) | (go_at_call 83;exact Calls.quiet_of (q7u _))))
   go_wp2
   go_ret
   exact⟨rfl,Q.drewN _ _⟩
set_option maxRecDepth 100000 in
set_option maxHeartbeats 400000 in
theorem qnz(st:Int)(own:Bool)(w:World)(g:Spans w) :
  Calls Tryz.prog 90 #[.int .i64 st,.bool own] w (qa5 (.tuple #[.bool (qt9 st own),.bool (qt9 st !own)]) w):=by
 go_enter Tryz.func90,Tryz.ntmps90
 go_wp2_with fail
 refine(qrh st own w.heap.size _ (g.new ((Upd.refl _ _).alloc _)) (qg (qi _ _) 0)).mono ?_
 rintro e w1 ⟨rfl,f⟩
 go_wp2_with fail
 refine(qrh st (!own) w.heap.size _ ((g.new ((Upd.refl _ _).alloc _)).q f) (f.cell (qg (qi _ _) 0))).mono ?_
 rintro e j ⟨rfl,i⟩
 go_wp2
 go_ret2
 exact⟨rfl,((Upd.refl _ _).alloc _).trans ((f.trans i).upd _)⟩
def qcg(ours own:Bool)(st:Int):Bool:=if ours then qsg st own else qsg st !own
def qdu(ours own:Bool)(st:Int):Bool:=if ours then qt9 st own else qt9 st !own
set_option maxHeartbeats 400000 in
theorem q3v(ours own:Bool)(st:Int)(C:Array Value)(w:World)(x:Spans w)(i:C[35]? = some (.bool own))(j:C[36]? = some (.int .i64 st)) :
  Calls Tryz.prog 61 #[.bool ours,.agg C] w (qa5 (.tuple #[.bool (qcg ours own st),.bool (qdu ours own st)]) w):=by
 have f:Spans (w.alloc (.cells C 81)):=x.new ((Upd.refl _ _).alloc _)
 have m:(w.alloc (.cells C 81)).cell? ⟨w.heap.size,35,none⟩=some (.bool own):=(qg (qi _ _) 35).trans i
 have o:(w.alloc (.cells C 81)).cell? ⟨w.heap.size,36,none⟩=some (.int .i64 st):=(qg (qi _ _) 36).trans j
 have q:qx w (w.alloc (.cells C 81)):=(Upd.refl _ _).alloc _
 cases ours
 ·go_enter Tryz.func61,Tryz.ntmps61
  go_wp2_with fail
  refine(qnz st own _ f).mono ?_
  rintro e w1 ⟨rfl,g⟩
  have t:=g.cell m (fun h=>h)
  have v:=g.cell o (fun h=>h)
  go_wp2_with fail
  refine(q0l st own _ (f.new g)).mono ?_
  rintro e y ⟨rfl,l⟩
  go_wp2
  go_ret2
  exact⟨rfl,q.trans (g.trans l)⟩
 ·go_enter Tryz.func61,Tryz.ntmps61
  go_wp2_with fail
  refine(qnz st own _ f).mono ?_
  rintro e w1 ⟨rfl,g⟩
  have t:=g.cell m (fun h=>h)
  have v:=g.cell o (fun h=>h)
  go_wp2_with fail
  refine(qww st own _ (f.new g)).mono ?_
  rintro e y ⟨rfl,l⟩
  go_wp2
  go_ret2
  exact⟨rfl,q.trans (g.trans l)⟩
end Go.Proofs.YtjpmomdechibmaaGreatDoor
namespace Go.Proofs.YtjpmomdechibmaaGreatDoor
open Go.RowKit Go.Sort
def G(w w':World):Prop:=∃q os,w'=grow (w.drewN q) os
theorem G.refl(w:World):G w w:=⟨0,#[],by rw[grow_empty];rfl⟩
theorem qy1(w:World)(os:Array Obj)(n:Nat):(grow w os).drewN n=grow (w.drewN n) os:=rfl
theorem G.trans{a b c:World}(h:G a b)(k:G b c):G a c:=by
 obtain⟨q,os,rfl⟩:=h
 obtain⟨r,f,rfl⟩:=k
 exact⟨q+r,os++f,by rw[qy1,World.drewN_drewN,grow_grow]⟩
theorem G.drewN{a b:World}(h:G a b)(n:Nat):G a (b.drewN n):=h.trans ⟨n,#[],by rw[grow_empty]⟩
theorem G.drew{a b:World}(h:G a b):G a b.drew:=h.drewN 1
theorem G.alloc{a b:World}(h:G a b)(o:Obj):G a (b.alloc o):=h.trans ⟨0,#[o],alloc_eq_grow b o⟩
theorem Q.g{a b:World}(h:Q a b):G a b:=by
 obtain⟨n,rfl⟩:=h
 exact(G.refl a).drewN n
theorem G.new{a b:World}(h:G a b):qx a b:=by
 obtain⟨q,os,rfl⟩:=h
 refine⟨rfl,rfl,rfl,by simp,fun k f _=> ?_⟩
 show (a.heap++os)[k]? = _
 rw[Array.getElem?_append_left f]
def q0q(v:Value)(w:World)(e:Ending)(w':World):Prop:=e = .returned v∧G w w'
def qiv(x y:Int):Int:=if x<y then -1 else if y<x then 1 else 0
theorem q9b{x y:Int}(h:x<y):qiv x y = -1:=by unfold qiv;rw[if_pos h]
theorem q9a{x y:Int}(h:y<x):qiv x y=1:=by unfold qiv;rw[if_neg (by omega),if_pos h]
theorem q89(x:Int):qiv x x=0:=by unfold qiv;rw[if_neg (by omega),if_neg (by omega)]
set_option maxHeartbeats 400000 in
theorem qgd(x:Int)(w:World):Calls Tryz.prog 131 #[.int .u64 x] w (qci (.bool false) w):=by
 go_enter Tryz.func131,Tryz.ntmps131
 go_wp2
 go_ret
 exact⟨rfl,Q.refl _⟩
set_option maxHeartbeats 400000 in
theorem qog(x y:Int)(w:World):Calls Tryz.prog 114 #[.int .u64 x,.int .u64 y] w (qci (.int .i64 (qiv x y)) w):=by
 rcases (by omega:x<y∨y<x∨x=y) with h | h | h
 ·rw[q9b h]
  go_enter Tryz.func114,Tryz.ntmps114
  go_wp2_with fail
  refine(qgd _ _).mono ?_
  rintro e w1 ⟨rfl,f⟩
  go_wp2_with fail
  refine(qgd _ _).mono ?_
  rintro e i ⟨rfl,g⟩
  go_wp2
  go_ret
  exact⟨rfl,f.trans g⟩
 ·rw[q9a h]
  go_enter Tryz.func114,Tryz.ntmps114
  go_wp2_with fail
  refine(qgd _ _).mono ?_
  rintro e w1 ⟨rfl,f⟩
  go_wp2_with fail
  refine(qgd _ _).mono ?_
  rintro e i ⟨rfl,g⟩
  go_wp2
  go_ret
  exact⟨rfl,f.trans g⟩
 ·subst h
  rw[q89]
  go_enter Tryz.func114,Tryz.ntmps114
  go_wp2_with fail
  refine(qgd _ _).mono ?_
  rintro e w1 ⟨rfl,f⟩
  go_wp2_with fail
  refine(qgd _ _).mono ?_
  rintro e i ⟨rfl,g⟩
  go_wp2
  go_ret
  exact⟨rfl,f.trans g⟩
def qtg(a b c d:Int):Int:=if qiv a b≠0 then qiv a b else qiv c d
set_option maxHeartbeats 800000 in
theorem qvh(a b c d:Int)(g:Nat)(w:World)(z:w.cell? ⟨g,0,none⟩=some (.int .u64 a))(C:w.cell? ⟨g,1,none⟩=some (.int .u64 b))(D:w.cell? ⟨g,2,none⟩=some (.int .u64 c))(F:w.cell? ⟨g,3,none⟩=some (.int .u64 d)) :
  Calls Tryz.prog 94 #[.slice (some ⟨g,0,none⟩) 2 2] w (q0q (.int .i64 (qtg a b c d)) w):=by
 go_enter Tryz.func94,Tryz.ntmps94
 go_wp2_with fail
 go_loopw [8] (fun i wr=>∃k:Nat,i = .int .i64 k∧k≤2∧(1≤k→Hid (qiv a b=0))∧(2≤k→Hid (qiv c d=0))∧G w wr) (fun i _=>2-(intOf i).toNat)
 case atStart=>exact⟨0,rfl,by omega,by omega,by omega,G.refl _⟩
 case round =>
  obtain⟨k,rfl,M,q,t,m⟩:=hrel
  have I:=m.new.cell z (fun h=>h)
  have J:=m.new.cell C (fun h=>h)
  have K:=m.new.cell D (fun h=>h)
  have L:=m.new.cell F (fun h=>h)
  rcases (by omega:k=0∨k=1∨k=2) with rfl | rfl | rfl
  ·clear q t
   by_cases f:qiv a b=0
   ·have H:=qb (qog a b)
    have v:=qb f
    rw[f] at H
    clear f
    go_wp2_with fail
    refine(qa H _).mono ?_
    rintro e w1 ⟨rfl,o⟩
    go_wp2
    go_roundw
    case rel=>exact⟨1,by go_num,by omega,fun _=>v,by omega,(m.alloc _).trans o.g⟩
    case measure=>simp[intOf]
   ·have y:(qiv a b != 0)=true:=by simpa using f
    have l:qtg a b c d=qiv a b:=by unfold qtg;rw[if_pos f]
    have E:=qb l
    clear f l
    go_wp2_with fail
    refine(qog a b _).mono ?_
    rintro e w1 ⟨rfl,o⟩
    go_wp2
    go_ret
    exact⟨by rw[qa E];rfl,(m.alloc _).trans o.g⟩
  ·have j:=q (by omega)
   clear q t
   have l:qtg a b c d=qiv c d:=by unfold qtg;rw[if_neg (by simpa using qa j)]
   by_cases f:qiv c d=0
   ·have H:=qb (qog c d)
    have v:=qb f
    rw[f] at H
    clear f l
    go_wp2_with fail
    refine(qa H _).mono ?_
    rintro e w1 ⟨rfl,o⟩
    go_wp2
    go_roundw
    case rel=>exact⟨2,by go_num,by omega,fun _=>j,fun _=>v,(m.alloc _).trans o.g⟩
    case measure=>simp[intOf]
   ·have y:(qiv c d != 0)=true:=by simpa using f
    have E:=qb l
    clear f l
    go_wp2_with fail
    refine(qog c d _).mono ?_
    rintro e w1 ⟨rfl,o⟩
    go_wp2
    go_ret
    exact⟨by rw[qa E];rfl,(m.alloc _).trans o.g⟩
  ·have j:=q (by omega)
   have x:=t (by omega)
   clear q t
   have l:qtg a b c d=0:=by unfold qtg;rw[if_neg (by simpa using qa j)];exact qa x
   have E:=qb l
   clear l
   go_wp2
   go_ret
   exact⟨by rw[qa E];rfl,m⟩
def qe5(offered:Bool):Int:=if offered then 0 else 1
set_option maxHeartbeats 400000 in
theorem qp8(o:Bool)(C:Array Value)(w:World)(f:C[0]? = some (.bool o)):Calls Tryz.prog 87 #[.agg C] w (q0q (.int .u64 (qe5 o)) w):=by
 have g:(w.alloc (.cells C 129)).cell? ⟨w.heap.size,0,none⟩=some (.bool o):=(qg (qi _ _) 0).trans f
 cases o
 all_goals
  go_enter Tryz.func87,Tryz.ntmps87
  go_wp2
  go_ret
  exact⟨rfl,(G.refl _).alloc _⟩
theorem Tryz.infoItem:(Tryz.prog.info? 129).map (·.size)=some 36:=by kernel_rfl
def q6r(x:Value):Sem Value:=Instr.loadAt 129 x
theorem qf6(x:Value):Instr.loadAt 129 x=q6r x:=rfl
theorem qok(b o:Nat)(w:World):(q6r (.pointer (some ⟨b,o,none⟩))).run Tryz.prog w=match zr w b o 36 with | some A=> .ok (.agg A) w | none=>qdk Tryz.prog 129 w b o :=
 zt 129 36 _ Tryz.underlying129 rfl Tryz.infoItem b o w
attribute [local go_sem ↓ high] qf6
attribute [local go_sem] qok
theorem qul{w w':World}{b o n:Nat}{A:Array Value}(h:zr w b o n=some A)(g:G w w'):zr w' b o n=some A:=qkb h g.new (fun h=>h)
theorem qrj{w W f:World}{a b:Nat}{A B:Array Value}{x y:Value}(h:zr W a 0 36=some A∧zr W b 0 36=some B∧W.cell? ⟨a,1,none⟩=some x∧W.cell? ⟨b,1,none⟩=some y∧G w W)(g:G W f) :
  zr f a 0 36=some A∧zr f b 0 36=some B∧f.cell? ⟨a,1,none⟩=some x∧f.cell? ⟨b,1,none⟩=some y∧G w f :=
 ⟨qul h.1 g,qul h.2.1 g,g.new.cell h.2.2.1 (fun h=>h),g.new.cell h.2.2.2.1 (fun h=>h),h.2.2.2.2.trans g⟩
def zcv(i j:Bool)(f g:Int):Int:=qtg (qe5 i) (qe5 j) f g
set_option maxHeartbeats 1600000 in
theorem q3r(i j:Bool)(f g:Int)(A B:Array Value)(w:World)(t:A.size=36)(v:B.size=36)
  (a0:A[0]? = some (.bool i)) (a1:A[1]? = some (.int .u64 f)) (b0:B[0]? = some (.bool j)) (b1:B[1]? = some (.int .u64 g)) :
  Calls Tryz.prog 63 #[.agg A,.agg B] w (q0q (.int .i64 (zcv i j f g)) w):=by
 have l:((w.alloc (.cells A 129)).alloc (.cells B 129)).heap[w.heap.size]? = some (.cells A 129 (0,0)):=zj (qi _ _) _
 have m:((w.alloc (.cells A 129)).alloc (.cells B 129)).heap[w.heap.size+1]? = some (.cells B 129 (0,0)):=by
  have:=qi (w.alloc (.cells A 129)) (.cells B 129)
  rwa [World.size_alloc] at this
 have y:G w ((w.alloc (.cells A 129)).alloc (.cells B 129)):=((G.refl w).alloc _).alloc _
 have z:=qaj l 36 t
 have C:=qaj m 36 v
 have o:=(qg l 1).trans a1
 have q:=(qg m 1).trans b1
 clear l m
 go_enter Tryz.func63,Tryz.ntmps63
 go_wp2_with fail
 generalize ((w.alloc (.cells A 129)).alloc (.cells B 129))=wa at *
 go_region_held3 (fun w'=>zr w' w.heap.size 0 36=some A∧zr w' (w.heap.size+1) 0 36=some B∧w'.cell? ⟨w.heap.size,1,none⟩=some (.int .u64 f)∧w'.cell? ⟨w.heap.size+1,1,none⟩=some (.int .u64 g)∧G w w')
  (first | exact⟨z,C,o,q,y.drew⟩ | (refine qrj ?_ (by assumption);first | assumption | exact⟨by assumption,by assumption,by assumption,by assumption,by assumption⟩) | (refine qrj ?_ ((G.refl _).alloc _);first | assumption | exact⟨by assumption,by assumption,by assumption,by assumption,by assumption⟩))
  (first
   | (go_at_call_of 87 (Value.agg A);refine(qp8 i A _ a0).mono ?_;rintro e H ⟨rfl,D⟩)
   | (go_at_call_of 87 (Value.agg B);refine(qp8 j B _ b0).mono ?_;rintro e I ⟨rfl,E⟩)
   | (go_at_call 94;refine(qvh (qe5 i) (qe5 j) f g _ _ (qg (qi _ _) 0) (qg (qi _ _) 1) (qg (qi _ _) 2) (qg (qi _ _) 3)).mono ?_;rintro e J ⟨rfl,F⟩))
 go_wp2
 go_ret
 have x:= ‹zr _ _ _ _=some A∧zr _ _ _ _=some B∧_›
 exact⟨rfl,x.2.2.2.2⟩
end Go.Proofs.YtjpmomdechibmaaGreatDoor
namespace Go.Proofs.YtjpmomdechibmaaGreatDoor
open Go.RowKit Go.Sort
instance:Inhabited Htlc:=⟨⟨0,0,Vector.replicate 32 0,0⟩⟩
instance:Inhabited Item:=⟨⟨false,default⟩⟩
def qc4(w:World)(g off:Nat)(xs:List Item):Prop :=
 ∃C T,w.heap[g]? = some (.cells C T (0,0))∧off+xs.length*36≤C.size∧∀i,i<xs.length→∀j,j<36→C[off+i*36+j]? = (ze xs[i]!)[j]?
theorem qc4.row{w:World}{g off:Nat}{xs:List Item}(h:qc4 w g off xs){i:Nat}(l:i<xs.length):zr w g (off+i*36) 36=some (ze xs[i]!).toArray:=by
 obtain⟨C,T,m,t,o⟩:=h
 have f:off+i*36+36≤C.size:=by have:=Nat.mul_le_mul_right 36 (show i+1≤xs.length from l);omega
 rw[qbz m _ _ f]
 congr 1
 apply Array.ext'
 apply List.ext_getElem?
 intro j
 rw[Array.getElem?_toList,Array.getElem?_extract]
 by_cases q:j<36
 ·rw[if_pos (by omega),o i l j q]
 ·rw[if_neg (by omega),List.getElem?_eq_none (by rw[qb5];omega)]
theorem qc4.ok{w:World}{g off:Nat}{xs:List Item}(h:qc4 w g off xs){i:Nat}(l:i<xs.length)(y:Item):stOk w g (off+i*36) 36 (ze y).toArray=true:=by
 obtain⟨C,T,j,o,m⟩:=h
 have f:off+i*36+36≤C.size:=by have:=Nat.mul_le_mul_right 36 (show i+1≤xs.length from l);omega
 exact qe0 j f (by rw[List.size_toArray,qb5]) (by rw[List.all_toArray,List.all_eq_true];exact qpq y)
theorem qc4.set{w:World}{g off:Nat}{xs:List Item}(h:qc4 w g off xs){i:Nat}(q:i<xs.length)(y:Item):qc4 (w.setCells g (off+i*36) (ze y)) g off (xs.set i y):=by
 obtain⟨C,T,m,v,o⟩:=h
 have l:off+i*36+36≤C.size:=by have:=Nat.mul_le_mul_right 36 (show i+1≤xs.length from q);omega
 refine⟨_,T,qa1 m _ _,by rw[qpu,List.length_set];exact v,fun k f j t=> ?_⟩
 rw[List.length_set] at f
 rw[qh0 _ _ _ _ (by rw[qb5];exact l),qb5]
 by_cases e:i=k
 ·subst e
  rw[if_pos (by omega),show off+i*36+j-(off+i*36)=j by omega]
  simp[f]
 ·rw[if_neg ?_,o k f j t]
  ·rw[List.getElem!_eq_getElem?_getD,List.getElem!_eq_getElem?_getD,List.getElem?_set_ne e]
  ·rcases Nat.lt_or_gt_of_ne e with h | h
   ·have:=Nat.mul_le_mul_right 36 (show i+1≤k from h);omega
   ·have:=Nat.mul_le_mul_right 36 (show k+1≤i from h);omega
theorem qc4.upd{S:Nat→Prop}{w w':World}{g off:Nat}{xs:List Item}(h:qc4 w g off xs)(u:Upd S w w')(i:¬S g):qc4 w' g off xs:=by
 obtain⟨C,T,f,r⟩:=h
 exact⟨C,T,u.old f i,r⟩
theorem qc4.drewN{w:World}{g off:Nat}{xs:List Item}(h:qc4 w g off xs)(n:Nat):qc4 (w.drewN n) g off xs:=h
theorem qc4.drew{w:World}{g off:Nat}{xs:List Item}(h:qc4 w g off xs):qc4 w.drew g off xs:=h
theorem qc4.lt{w:World}{g off:Nat}{xs:List Item}(h:qc4 w g off xs):g<w.heap.size:=by
 obtain⟨C,T,f,r⟩:=h
 exact zq f
def q8g(xs:List Item)(i j:Nat):List Item:=(xs.set i xs[j]!).set j xs[i]!
theorem qc4.swap{w:World}{g off:Nat}{xs:List Item}(h:qc4 w g off xs){i j:Nat}(f:i<xs.length)(l:j<xs.length) :
  qc4 ((w.setCells g (off+i*36) (ze xs[j]!)).setCells g (off+j*36) (ze xs[i]!)) g off (q8g xs i j) :=
 (h.set f _).set (by rw[List.length_set];exact l) _
def q76(x v:Value):Sem Unit:=Instr.storeAt 129 x v
theorem qmh(x v:Value):Instr.storeAt 129 x v=q76 x v:=rfl
theorem q1n(b o:Nat)(A:Array Value)(w:World):(q76 (.pointer (some ⟨b,o,none⟩)) (.agg A)).run Tryz.prog w=if stOk w b o 36 A=true then .ok () (w.setCells b o A.toList) else qfe Tryz.prog 129 w b o A :=
 qap 129 36 Tryz.infoItem b o A w
attribute [local go_sem ↓ high] qf6 qmh
attribute [local go_sem] qok q1n
end Go.Proofs.YtjpmomdechibmaaGreatDoor
namespace Go.Proofs.YtjpmomdechibmaaGreatDoor
open Go.RowKit Go.Sort
def cf(x y:Item):Int:=zcv x.offered y.offered x.h.id y.h.id
def kl(x y:Item):Prop:=qe5 x.offered<qe5 y.offered∨(qe5 x.offered=qe5 y.offered∧x.h.id<y.h.id)
theorem zdj(x y:Item):cf x y<0↔kl x y:=by
 unfold cf zcv qtg qiv kl
 generalize qe5 x.offered=a
 generalize qe5 y.offered=b
 generalize x.h.id=c
 generalize y.h.id=d
 split<;>split<;>(try split)<;>(try split)<;>omega
def lt'(p q:Item × Nat):Prop:=kl p.1 q.1∨(¬kl q.1 p.1∧p.2<q.2)
theorem qh1{p q r:Item × Nat}(h:lt' p q)(k:lt' q r):lt' p r:=by unfold lt' kl at *;omega
theorem qzl(p:Item × Nat):¬lt' p p:=by unfold lt' kl;omega
abbrev Srt(l:List (Item × Nat)):Prop:=l.Pairwise lt'
def zay(A B:List (Item × Nat)):Prop:=∀p∈A,∀q∈B,lt' p q
theorem qqj{A B:List (Item × Nat)} : Srt (A++B)↔Srt A∧Srt B∧zay A B:=List.pairwise_append
theorem qk0{A B:List (Item × Nat)}(t:Srt A)(v:Srt B)(h:∀p q,A.getLast? = some p→B.head? = some q→lt' p q):zay A B:=by
 intro p g q l
 cases B with
 | nil=>cases l
 | cons b B =>
  obtain⟨a,m⟩:∃a,A.getLast? = some a:=by
   cases o:A.getLast? with
   | none=>rw[List.getLast?_eq_none_iff] at o;subst o;cases g
   | some a=>exact⟨a,rfl⟩
  have f:=h a b m rfl
  have i:p=a∨lt' p a:=by
   obtain⟨w,rfl⟩:=List.getLast?_eq_some_iff.1 m
   rcases List.mem_append.1 g with g | g
   ·exact .inr ((List.pairwise_append.1 t).2.2 p g a (List.mem_singleton.2 rfl))
   ·exact .inl (List.mem_singleton.1 g)
  have j:q=b∨lt' b q:=by
   rcases List.mem_cons.1 l with rfl | l
   ·exact .inl rfl
   ·exact .inr ((List.pairwise_cons.1 v).1 q l)
  rcases i with rfl | i<;>rcases j with rfl | j
  ·exact f
  ·exact qh1 f j
  ·exact qh1 i f
  ·exact qh1 i (qh1 f j)
def Low(A B:List (Item × Nat)):Prop:=∀p∈A,∀q∈B,p.2<q.2
theorem q26{y:Item × Nat}{i j:List (Item × Nat)}(v:Srt (i++j))(w:Low (i++j) [y])(o:∀p,i.getLast? = some p→¬kl y.1 p.1)(t:∀q,j.head? = some q→kl y.1 q.1):Srt (i++(y::j)):=by
 obtain⟨l,m,C⟩:=qqj.1 v
 have x:∀p∈i,lt' p y:=fun p f=>by
  have:=qk0 (A:=i) (B:=[y]) l (List.pairwise_singleton _ _) (fun p q f g=>by
   simp only[List.head?_cons,Option.some.injEq] at g
   subst g
   refine .inr ⟨o p f,w p ?_ y (List.mem_singleton.2 rfl)⟩
   exact List.mem_append_left _ (List.mem_of_getLast? f))
  exact this p f y (List.mem_singleton.2 rfl)
 have z:∀q∈j,lt' y q:=fun q g=>by
  have:=qk0 (A:=[y]) (B:=j) (List.pairwise_singleton _ _) m (fun p q f g=>by
   simp only[List.getLast?_singleton,Option.some.injEq] at f
   subst f
   exact .inl (t q g))
  exact this y (List.mem_singleton.2 rfl) q g
 refine qqj.2 ⟨l,List.pairwise_cons.2 ⟨z,m⟩,fun p f q g=> ?_⟩
 rcases List.mem_cons.1 g with rfl | g
 ·exact x p f
 ·exact C p f q g
end Go.Proofs.YtjpmomdechibmaaGreatDoor
