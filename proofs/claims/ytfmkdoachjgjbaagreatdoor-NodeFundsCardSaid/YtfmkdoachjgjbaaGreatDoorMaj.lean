/-
  give, Counts, Closed.
-/
import Derived.Test.YtfmkdoachjgjbaaGreatDoorMah
import Derived.Test.YtfmkdoachjgjbaaGreatDoorRows
import Derived.Test.YtfmkdoachjgjbaaGreatDoorMaa
import Derived.Deep.RegionHeld3
import Derived.Sort.Grow
import Derived.BigRegion
import Derived.Great.BuildSlice
set_option maxRecDepth 100000
set_option maxHeartbeats 4000000
set_option linter.unusedVariables false
set_option linter.unusedSimpArgs false
namespace Go.Proofs.YtfmkdoachjgjbaaGreatDoor
section
open Go.RowKit
def Ch.give(c:Ch)(i:Bool)(n:Int):Ch:=if i then {c with loc:=IntKind.u64.wrap (c.loc+n)} else {c with rem:=IntKind.u64.wrap (c.rem+n)}
theorem qlz(x:Int):0≤IntKind.u64.wrap x∧IntKind.u64.wrap x<18446744073709551616:=by rw[IntKind.wrap_u64];omega
theorem Ch.Ok.give{c:Ch}(h:c.Ok)(i:Bool)(n:Int):(c.give i n).Ok:=by
 unfold Ch.give;split
 ·exact⟨h.s,h.signed,h.heard,h.nextOwn,h.nextTheirs,qlz _,h.rem,h.xs,h.few,h.shelf,h.news,h.last,h.many⟩
 ·exact⟨h.s,h.signed,h.heard,h.nextOwn,h.nextTheirs,h.loc,qlz _,h.xs,h.few,h.shelf,h.news,h.last,h.many⟩
theorem qz0(g:Nat)(S:Nat→Prop)(c:Ch)(t v q:Value)(C:Bool)(n:Int)(w:World)(h:ChP w g S c t v q) :
  Calls Tryz.prog 111 #[.pointer (some ⟨g,0,none⟩),.bool C,.int .u64 n] w fun e w'=>e = .returned (.tuple #[])∧ChP w' g S (c.give C n) t v q∧Upd (· = g) w w':=by
 cases C with
 | true =>
  have D:w.cell? ⟨g,45,none⟩=some (.int .u64 c.loc):=h.toR.loc;have H:w.frozen? ⟨g,45,none⟩=false:=qo h.at_ 45;obtain⟨x,m⟩:∃x,x=IntKind.u64.wrap (c.loc+n):=⟨_,rfl⟩;have o:=h.put (i:=45) (x:= .int .u64 x) (c':=c.give true n) (by rw[m];exact qyk c t v q h.ok.s.seed _) (h.ok.give true n) rfl rfl rfl;have u:Upd (· = g) w (w.setCell ⟨g,45,none⟩ (.int .u64 x)):=(Upd.refl _ _).set1 45 _;have y:=qj o;have z:=qj u;have J:IntKind.u64.wrap (c.loc+n)=x:=m.symm;clear h o u m;go_enter Tryz.func111,Tryz.ntmps111;go_wp2_with ((with_reducible first|rfl|refine' ut ?_ ?_;rotate_left|refine' uu ?_)<;>intros);go_end0;exact⟨rfl,qg y,qg z⟩
 | false =>
  have E:w.cell? ⟨g,46,none⟩=some (.int .u64 c.rem):=h.toR.rem;have I:w.frozen? ⟨g,46,none⟩=false:=qo h.at_ 46;obtain⟨x,m⟩:∃x,x=IntKind.u64.wrap (c.rem+n):=⟨_,rfl⟩;have o:=h.put (i:=46) (x:= .int .u64 x) (c':=c.give false n) (by rw[m];exact qyl c t v q h.ok.s.seed _) (h.ok.give false n) rfl rfl rfl;have u:Upd (· = g) w (w.setCell ⟨g,46,none⟩ (.int .u64 x)):=(Upd.refl _ _).set1 46 _;have y:=qj o;have z:=qj u;have J:IntKind.u64.wrap (c.rem+n)=x:=m.symm;clear h o u m;go_enter Tryz.func111,Tryz.ntmps111;go_wp2_with ((with_reducible first|rfl|refine' ut ?_ ?_;rotate_left|refine' uu ?_)<;>intros);go_end0;exact⟨rfl,qg y,qg z⟩
theorem qvt(g:Nat)(S:Nat→Prop)(c:Ch)(w:World)(h:ChS w g S c) :
  Calls Tryz.prog 80 #[.pointer (some ⟨g,0,none⟩)] w (qae (.bool (c.k.shutSaid&&c.k.shutHeard&&c.xs.isEmpty)) w):=by
 obtain⟨y,D,z,h⟩:=h
 have i:w.cell? ⟨g,42,none⟩=some (.bool c.k.shutSaid):=h.toR.shutSaid
 have m:w.cell? ⟨g,43,none⟩=some (.bool c.k.shutHeard):=h.toR.shutHeard
 have o:w.cell? ⟨g,47,none⟩=some y:=h.toR.live
 obtain⟨a,cap,q⟩:=qaa h.live
 have C:((c.xs.length:Int)==0)=c.xs.isEmpty:=by
  cases c.xs with
  | nil=>rfl
  | cons x l=>simp;omega
 rw[q] at o
 clear h
 go_enter Tryz.func80,Tryz.ntmps80
 cases t:c.k.shutSaid<;>cases v:c.k.shutHeard<;>rw[t] at i<;>rw[v] at m
 all_goals
  go_wp2_with ((with_reducible first|rfl|refine' ut ?_ ?_;rotate_left|refine' uu ?_)<;>intros);go_ret
  first
  | exact⟨rfl,Q.refl _⟩
  | exact⟨by simp,Q.refl _⟩
def qoj:List Int:=[1,7,3,5]
def qmf:List Int:=[3,4,1,2,0,1,2,3,4,0,1,2,3,4,0,3,4,1,2,0]
structure Spans(w:World):Prop where
 spans:∀i,i<4→w.cell? ⟨2,i,none⟩=some (.int .i64 (qoj.getD i 0))
theorem Spans.q{w w':World}(h:Spans w)(q:Q w w'):Spans w':=⟨fun i m=>q.cell (h.spans i m)⟩
theorem Spans.upd{S:Nat→Prop}{w w':World}(h:Spans w)(u:Upd S w w')(m:¬S 2):Spans w':=⟨fun i o=>u.cell (h.spans i o) m⟩
theorem Spans.new{w w':World}(h:Spans w)(u:qq w w'):Spans w':=h.upd u (fun h=>h)
structure Glob(w:World):Prop where
 events:∀i,i<20→w.cell? ⟨0,i,none⟩=some (.int .i64 (qmf.getD i 0))
theorem Glob.q{w w':World}(h:Glob w)(q:Q w w'):Glob w':=⟨fun i m=>q.cell (h.events i m)⟩
theorem Glob.upd{S:Nat→Prop}{w w':World}(h:Glob w)(u:Upd S w w')(m:¬S 0):Glob w':=⟨fun i o=>u.cell (h.events i o) m⟩
theorem Glob.new{w w':World}(h:Glob w)(u:qq w w'):Glob w':=h.upd u (fun h=>h)
def qkl(st:Int):Bool:=decide (0≤st)&&decide (st≤9)
theorem q7m{st:Int}(i:0≤st)(m:st≤9):qkl st=true:=by unfold qkl;simp;omega
theorem q4q{st:Int}(h:st<0∨9<st):qkl st=false:=by unfold qkl;simp;omega
def qw8(own:Bool):Int:=if own then 1 else 0
def qvw(own:Bool)(n:Nat):Int:=qmf.getD ((if own then 10 else 0)+n) 0
def qb8(st:Int)(own:Bool)(ev:Int):Int:=if qkl st=true∧ev≠0∧qvw own st.toNat=ev then st+1 else st
def loI(own:Bool):Int:=if own then 3 else 1
def hiI(own:Bool):Int:=if own then 5 else 7
def qqf(st:Int)(own:Bool):Bool:=decide (loI own≤st)&&decide (st≤hiI own)
def qr5(st:Int)(own:Bool):Bool:=qkl st&&decide (hiI own<st)
theorem qyf(st:Int)(w:World):Calls Tryz.prog 185 #[.int .i64 st] w (qae (.bool (qkl st)) w):=by
 by_cases m:0≤st
 ·by_cases i:st≤9
  ·rw[q7m m i];go_enter Tryz.func185,Tryz.ntmps185;go_wp2;go_ret;exact⟨rfl,Q.refl _⟩
  ·rw[q4q (by omega)];have o:decide (st≤9)=false:=by simpa using i
   go_enter Tryz.func185,Tryz.ntmps185;go_wp2;go_ret;exact⟨rfl,Q.refl _⟩
 ·rw[q4q (by omega)];go_enter Tryz.func185,Tryz.ntmps185;go_wp2;go_ret;exact⟨rfl,Q.refl _⟩
theorem qfr(own:Bool)(w:World):Calls Tryz.prog 186 #[.bool own] w (qae (.int .i64 (qw8 own)) w):=by
 cases own
 ·go_enter Tryz.func186,Tryz.ntmps186;go_wp2;go_ret;exact⟨rfl,Q.refl _⟩
 ·go_enter Tryz.func186,Tryz.ntmps186;go_wp2;go_ret;exact⟨rfl,Q.refl _⟩
theorem q1b(w:World):Calls Tryz.prog 186 #[.bool false] w (qae (.int .i64 0) w):=qfr false w
theorem q5d(w:World):Calls Tryz.prog 186 #[.bool true] w (qae (.int .i64 1) w):=qfr true w
theorem qjl{st:Int}(w:World)(h:qkl st=true):Calls Tryz.prog 185 #[.int .i64 st] w (qae (.bool true) w):=h▸qyf st w
theorem qp9{st:Int}(w:World)(h:qkl st=false):Calls Tryz.prog 185 #[.int .i64 st] w (qae (.bool false) w):=h▸qyf st w
theorem qud(st ev:Int)(own:Bool)(w:World)(H:Glob w):Calls Tryz.prog 154 #[.int .i64 st,.bool own,.int .i64 ev] w (qae (.int .i64 (qb8 st own ev)) w):=by
 cases q:qkl st with
 | false =>
  have e:qb8 st own ev=st:=by unfold qb8;rw[if_neg (by rw[q];simp)]
  rw[e];have Hm:=qj q;clear e q;go_enter Tryz.func154,Tryz.ntmps154;go_wp2_with fail;refine(qp9 _ (qg Hm)).mono ?_;rintro e w1 ⟨rfl,m⟩;go_wp2;go_ret;exact⟨rfl,m⟩
 | true =>
  obtain⟨n,rfl,K⟩:∃n:Nat,st=n∧n≤9:=by
   unfold qkl at q;simp at q;exact⟨st.toNat,by omega,by omega⟩
  have Hm:=qj q;clear q;by_cases v:ev=0
  ·subst v;have e:qb8 n own 0=n:=by unfold qb8;rw[if_neg (by simp)]
   rw[e];clear e;go_enter Tryz.func154,Tryz.ntmps154;go_wp2_with fail;refine(qjl _ (qg Hm)).mono ?_;rintro e w1 ⟨rfl,m⟩;go_wp2;go_ret;exact⟨rfl,m⟩
  ·have E:(ev==0)=false:=by simpa using v
   have I:(0:Int)≤(n:Int):=by omega
   have D:(n:Int)<10:=by omega
   have i:w.cell? ⟨0,(if own then 10 else 0)+n,none⟩=some (.int .i64 (qvw own n)):=H.events _ (by split<;>omega);by_cases t:qvw own n=ev
   ·have e:qb8 n own ev=n+1:=by unfold qb8;rw[if_pos ⟨qg Hm,v,by simpa using t⟩]
    rw[e];clear e v;have C:(qvw own n != ev)=false:=by simpa using t
    clear t;cases own<;>simp only[if_true,if_false,Bool.false_eq_true,Nat.zero_add] at i
    all_goals
     generalize qvw _ n=x at *
     go_enter Tryz.func154,Tryz.ntmps154;go_wp2_with fail;refine(qjl _ (qg Hm)).mono ?_;rintro e w1 ⟨rfl,m⟩;have o:=m.cell i;go_wp2_with fail;refine(qfr _ _).mono ?_;rintro e J ⟨rfl,y⟩;have z:=y.cell o;unfold qw8;go_wp2;go_ret;exact⟨rfl,m.trans y⟩
   ·have e:qb8 n own ev=n:=by unfold qb8;rw[if_neg (by simp;intro _ _;simpa using t)]
    rw[e];clear e v;have C:(qvw own n != ev)=true:=by simpa using t
    clear t;cases own<;>simp only[if_true,if_false,Bool.false_eq_true,Nat.zero_add] at i
    all_goals
     generalize qvw _ n=x at *
     go_enter Tryz.func154,Tryz.ntmps154;go_wp2_with fail;refine(qjl _ (qg Hm)).mono ?_;rintro e w1 ⟨rfl,m⟩;have o:=m.cell i;go_wp2_with fail;refine(qfr _ _).mono ?_;rintro e J ⟨rfl,y⟩;have z:=y.cell o;unfold qw8;go_wp2;go_ret;exact⟨rfl,m.trans y⟩
theorem qui(st:Int)(own:Bool)(w:World)(q:Spans w):Calls Tryz.prog 191 #[.int .i64 st,.bool own] w (qar (.bool (qqf st own)) w):=by
 have t:=q.spans 0 (by omega);have v:=q.spans 1 (by omega);have x:=q.spans 2 (by omega);have y:=q.spans 3 (by omega);simp only[qoj,List.getD_cons_zero,List.getD_cons_succ] at t v x y;cases own
 ·have e:qqf st false=(decide (1≤st)&&decide (st≤7)):=rfl;rw[e];by_cases o:1≤st
  ·have i:decide (1≤st)=true:=by simpa using o
   rw[i,Bool.true_and];clear e i;go_enter Tryz.func191,Tryz.ntmps191;go_wp2_with fail;refine(qfr _ _).mono ?_;rintro e w1 ⟨rfl,m⟩;have z:=m.cell t;have C:=m.cell v;unfold qw8;go_wp2;go_ret;exact⟨rfl,(m.upd _).alloc _⟩
  ·have i:decide (1≤st)=false:=by simpa using o
   rw[i,Bool.false_and];clear e o;go_enter Tryz.func191,Tryz.ntmps191;go_wp2_with fail;refine(qfr _ _).mono ?_;rintro e w1 ⟨rfl,m⟩;have z:=m.cell t;have C:=m.cell v;unfold qw8;go_wp2;go_ret;exact⟨rfl,(m.upd _).alloc _⟩
 ·have e:qqf st true=(decide (3≤st)&&decide (st≤5)):=rfl;rw[e];by_cases o:3≤st
  ·have i:decide (3≤st)=true:=by simpa using o
   rw[i,Bool.true_and];clear e i;go_enter Tryz.func191,Tryz.ntmps191;go_wp2_with fail;refine(qfr _ _).mono ?_;rintro e w1 ⟨rfl,m⟩;have z:=m.cell x;have C:=m.cell y;unfold qw8;go_wp2;go_ret;exact⟨rfl,(m.upd _).alloc _⟩
  ·have i:decide (3≤st)=false:=by simpa using o
   rw[i,Bool.false_and];clear e o;go_enter Tryz.func191,Tryz.ntmps191;go_wp2_with fail;refine(qfr _ _).mono ?_;rintro e w1 ⟨rfl,m⟩;have z:=m.cell x;have C:=m.cell y;unfold qw8;go_wp2;go_ret;exact⟨rfl,(m.upd _).alloc _⟩
theorem qxn(st:Int)(own:Bool)(w:World)(i:Spans w):Calls Tryz.prog 192 #[.int .i64 st,.bool own] w (qar (.bool (qqf st !own)) w):=by
 go_enter Tryz.func192,Tryz.ntmps192;go_wp2_with fail;refine(qui _ _ _ i).mono ?_;rintro e w1 ⟨rfl,m⟩;go_wp2;go_ret;exact⟨rfl,m⟩
theorem qpe(st:Int)(own:Bool)(b:Nat)(w:World)(m:Spans w)(t:w.cell? ⟨b,0,none⟩=some (.int .i64 st)) :
  Calls Tryz.prog 208 #[.bool own,.pointer (some ⟨b,0,none⟩)] w (qae (.bool (qr5 st own)) w):=by
 have o:=m.spans 1 (by omega)
 have q:=m.spans 3 (by omega)
 simp only[qoj,List.getD_cons_zero,List.getD_cons_succ] at o q
 cases i:qkl st with
 | false =>
  have e:qr5 st own=false:=by unfold qr5;rw[i];rfl
  rw[e];have Hm:=qj i;clear e i;go_enter Tryz.func208,Tryz.ntmps208;go_wp2_with fail;go_quiet ((go_at_call 185;exact Calls.quiet_of (qp9 _ (qg Hm))));go_wp2;go_ret;exact⟨rfl,Q.drewN _ _⟩
 | true =>
  have e:qr5 st own=decide (hiI own<st):=by unfold qr5;rw[i];rfl
  rw[e];have Hm:=qj i;clear e i;cases own
  all_goals
   go_enter Tryz.func208,Tryz.ntmps208;go_wp2_with fail;go_quiet ((first | (go_at_call 185;exact Calls.quiet_of (qjl _ (qg Hm))) | (go_at_call 186;exact Calls.quiet_of (q1b _)) | (go_at_call 186;exact Calls.quiet_of (q5d _))));go_wp2;go_ret;exact⟨rfl,Q.drewN _ _⟩
theorem qlq(st:Int)(own:Bool)(w:World)(m:Spans w) :
  Calls Tryz.prog 190 #[.int .i64 st,.bool own] w (qar (.tuple #[.bool (qr5 st own),.bool (qr5 st !own)]) w):=by
 go_enter Tryz.func190,Tryz.ntmps190
 go_wp2_with fail
 refine(qpe st own w.heap.size _ (m.new ((Upd.refl _ _).alloc _)) (qk (ql _ _) 0)).mono ?_
 rintro e w1 ⟨rfl,i⟩
 go_wp2_with fail
 refine(qpe st (!own) w.heap.size _ ((m.new ((Upd.refl _ _).alloc _)).q i) (i.cell (qk (ql _ _) 0))).mono ?_
 rintro e t ⟨rfl,o⟩
 go_wp2
 go_ret2
 exact⟨rfl,((Upd.refl _ _).alloc _).trans ((i.trans o).upd _)⟩
def q7f(ours own:Bool)(st:Int):Bool:=if ours then qqf st own else qqf st !own
def q3z(ours own:Bool)(st:Int):Bool:=if ours then qr5 st own else qr5 st !own
theorem q03(ours own:Bool)(st:Int)(C:Array Value)(w:World)(D:Spans w)(o:C[35]? = some (.bool own))(q:C[36]? = some (.int .i64 st)) :
  Calls Tryz.prog 159 #[.bool ours,.agg C] w (qar (.tuple #[.bool (q7f ours own st),.bool (q3z ours own st)]) w):=by
 have i:Spans (w.alloc (.cells C 69)):=D.new ((Upd.refl _ _).alloc _)
 have v:(w.alloc (.cells C 69)).cell? ⟨w.heap.size,35,none⟩=some (.bool own):=(qk (ql _ _) 35).trans o
 have x:(w.alloc (.cells C 69)).cell? ⟨w.heap.size,36,none⟩=some (.int .i64 st):=(qk (ql _ _) 36).trans q
 have n0:qq w (w.alloc (.cells C 69)):=(Upd.refl _ _).alloc _
 cases ours
 ·go_enter Tryz.func159,Tryz.ntmps159;go_wp2_with fail;refine(qlq st own _ i).mono ?_;rintro e w1 ⟨rfl,m⟩;have y:=m.cell v (fun h=>h);have z:=m.cell x (fun h=>h);go_wp2_with fail;refine(qxn st own _ (i.new m)).mono ?_;rintro e E ⟨rfl,t⟩;go_wp2;go_ret2;exact⟨rfl,n0.trans (m.trans t)⟩
 ·go_enter Tryz.func159,Tryz.ntmps159;go_wp2_with fail;refine(qlq st own _ i).mono ?_;rintro e w1 ⟨rfl,m⟩;have y:=m.cell v (fun h=>h);have z:=m.cell x (fun h=>h);go_wp2_with fail;refine(qui st own _ (i.new m)).mono ?_;rintro e E ⟨rfl,t⟩;go_wp2;go_ret2;exact⟨rfl,n0.trans (m.trans t)⟩
end
section
open Go.RowKit Go.Sort
def G(w w':World):Prop:=∃q os,w'=grow (w.drewN q) os
theorem G.refl(w:World):G w w:=⟨0,#[],by rw[grow_empty];rfl⟩
theorem qv6(w:World)(os:Array Obj)(n:Nat):(grow w os).drewN n=grow (w.drewN n) os:=rfl
theorem G.trans{a b c:World}(h:G a b)(k:G b c):G a c:=by
 obtain⟨q,os,rfl⟩:=h;obtain⟨r,i,rfl⟩:=k;exact⟨q+r,os++i,by rw[qv6,World.drewN_drewN,grow_grow]⟩
theorem G.drewN{a b:World}(h:G a b)(n:Nat):G a (b.drewN n):=h.trans ⟨n,#[],by rw[grow_empty]⟩
theorem G.drew{a b:World}(h:G a b):G a b.drew:=h.drewN 1
theorem G.alloc{a b:World}(h:G a b)(o:Obj):G a (b.alloc o):=h.trans ⟨0,#[o],alloc_eq_grow b o⟩
theorem Q.g{a b:World}(h:Q a b):G a b:=by
 obtain⟨n,rfl⟩:=h;exact(G.refl a).drewN n
theorem G.new{a b:World}(h:G a b):qq a b:=by
 obtain⟨q,os,rfl⟩:=h;refine⟨rfl,rfl,rfl,by simp,fun k i _=> ?_⟩;show (a.heap++os)[k]? = _;rw[Array.getElem?_append_left i]
def qxx(v:Value)(w:World)(e:Ending)(w':World):Prop:=e = .returned v∧G w w'
def qgy(x y:Int):Int:=if x<y then -1 else if y<x then 1 else 0
theorem q64{x y:Int}(h:x<y):qgy x y = -1:=by unfold qgy;rw[if_pos h]
theorem q63{x y:Int}(h:y<x):qgy x y=1:=by unfold qgy;rw[if_neg (by omega),if_pos h]
theorem q62(x:Int):qgy x x=0:=by unfold qgy;rw[if_neg (by omega),if_neg (by omega)]
theorem qe0(x:Int)(w:World):Calls Tryz.prog 222 #[.int .u64 x] w (qae (.bool false) w):=by
 go_enter Tryz.func222,Tryz.ntmps222;go_wp2;go_ret;exact⟨rfl,Q.refl _⟩
theorem qmc(x y:Int)(w:World):Calls Tryz.prog 211 #[.int .u64 x,.int .u64 y] w (qae (.int .i64 (qgy x y)) w):=by
 rcases (by omega:x<y∨y<x∨x=y) with h | h | h
 ·rw[q64 h];go_enter Tryz.func211,Tryz.ntmps211;go_wp2_with fail;refine(qe0 _ _).mono ?_;rintro e w1 ⟨rfl,i⟩;go_wp2_with fail;refine(qe0 _ _).mono ?_;rintro e o ⟨rfl,m⟩;go_wp2;go_ret;exact⟨rfl,i.trans m⟩
 ·rw[q63 h];go_enter Tryz.func211,Tryz.ntmps211;go_wp2_with fail;refine(qe0 _ _).mono ?_;rintro e w1 ⟨rfl,i⟩;go_wp2_with fail;refine(qe0 _ _).mono ?_;rintro e o ⟨rfl,m⟩;go_wp2;go_ret;exact⟨rfl,i.trans m⟩
 ·subst h;rw[q62];go_enter Tryz.func211,Tryz.ntmps211;go_wp2_with fail;refine(qe0 _ _).mono ?_;rintro e w1 ⟨rfl,i⟩;go_wp2_with fail;refine(qe0 _ _).mono ?_;rintro e o ⟨rfl,m⟩;go_wp2;go_ret;exact⟨rfl,i.trans m⟩
def qrk(a b c d:Int):Int:=if qgy a b≠0 then qgy a b else qgy c d
theorem qtb(a b c d:Int)(g:Nat)(w:World)(I:w.cell? ⟨g,0,none⟩=some (.int .u64 a))(J:w.cell? ⟨g,1,none⟩=some (.int .u64 b))(K:w.cell? ⟨g,2,none⟩=some (.int .u64 c))(M:w.cell? ⟨g,3,none⟩=some (.int .u64 d)) :
  Calls Tryz.prog 194 #[.slice (some ⟨g,0,none⟩) 2 2] w (qxx (.int .i64 (qrk a b c d)) w):=by
 go_enter Tryz.func194,Tryz.ntmps194
 go_wp2_with fail
 go_loopw [8] (fun i wr=>∃k:Nat,i = .int .i64 k∧k≤2∧(1≤k→Hid (qgy a b=0))∧(2≤k→Hid (qgy c d=0))∧G w wr) (fun i _=>2-(intOf i).toNat)
 case atStart=>exact⟨0,rfl,by omega,by omega,by omega,G.refl _⟩
 case round =>
  obtain⟨k,rfl,T,x,y,t⟩:=hrel;have N:=t.new.cell I (fun h=>h);have O:=t.new.cell J (fun h=>h);have P:=t.new.cell K (fun h=>h);have R:=t.new.cell M (fun h=>h);rcases (by omega:k=0∨k=1∨k=2) with rfl | rfl | rfl
  ·clear x y;by_cases m:qgy a b=0
   ·have H:=qj (qmc a b);have z:=qj m;rw[m] at H;clear m;go_wp2_with fail;refine(qg H _).mono ?_;rintro e w1 ⟨rfl,v⟩;go_wp2;go_roundw
    case rel=>exact⟨1,by go_num,by omega,fun _=>z,by omega,(t.alloc _).trans v.g⟩
    case measure=>simp[intOf]
   ·have D:(qgy a b != 0)=true:=by simpa using m
    have q:qrk a b c d=qgy a b:=by unfold qrk;rw[if_pos m]
    have E:=qj q;clear m q;go_wp2_with fail;refine(qmc a b _).mono ?_;rintro e w1 ⟨rfl,v⟩;go_wp2;go_ret;exact⟨by rw[qg E];rfl,(t.alloc _).trans v.g⟩
  ·have o:=x (by omega);clear x y;have q:qrk a b c d=qgy c d:=by unfold qrk;rw[if_neg (by simpa using qg o)]
   by_cases m:qgy c d=0
   ·have H:=qj (qmc c d);have z:=qj m;rw[m] at H;clear m q;go_wp2_with fail;refine(qg H _).mono ?_;rintro e w1 ⟨rfl,v⟩;go_wp2;go_roundw
    case rel=>exact⟨2,by go_num,by omega,fun _=>o,fun _=>z,(t.alloc _).trans v.g⟩
    case measure=>simp[intOf]
   ·have D:(qgy c d != 0)=true:=by simpa using m
    have E:=qj q;clear m q;go_wp2_with fail;refine(qmc c d _).mono ?_;rintro e w1 ⟨rfl,v⟩;go_wp2;go_ret;exact⟨by rw[qg E];rfl,(t.alloc _).trans v.g⟩
  ·have o:=x (by omega);have C:=y (by omega);clear x y;have q:qrk a b c d=0:=by unfold qrk;rw[if_neg (by simpa using qg o)];exact qg C
   have E:=qj q;clear q;go_wp2;go_ret;exact⟨by rw[qg E];rfl,t⟩
def qep(offered:Bool):Int:=if offered then 0 else 1
theorem qn4(o:Bool)(C:Array Value)(w:World)(i:C[0]? = some (.bool o)):Calls Tryz.prog 188 #[.agg C] w (qxx (.int .u64 (qep o)) w):=by
 have m:(w.alloc (.cells C 254)).cell? ⟨w.heap.size,0,none⟩=some (.bool o):=(qk (ql _ _) 0).trans i;cases o
 all_goals
  go_enter Tryz.func188,Tryz.ntmps188;go_wp2;go_ret;exact⟨rfl,(G.refl _).alloc _⟩
theorem Tryz.infoItem:(Tryz.prog.info? 254).map (·.size)=some 36:=by kernel_rfl
def q4h(x:Value):Sem Value:=Instr.loadAt 254 x
theorem qev(x:Value):Instr.loadAt 254 x=q4h x:=rfl
theorem qmn(b o:Nat)(w:World):(q4h (.pointer (some ⟨b,o,none⟩))).run Tryz.prog w=match zt w b o 36 with | some A=> .ok (.agg A) w | none=>qc3 Tryz.prog 254 w b o :=
 qag 254 36 _ Tryz.underlying254 rfl Tryz.infoItem b o w
attribute [local go_sem ↓ high] qev
attribute [local go_sem] qmn
theorem qsf{w w':World}{b o n:Nat}{A:Array Value}(h:zt w b o n=some A)(g:G w w'):zt w' b o n=some A:=qbg h g.new (fun h=>h)
theorem qpj{w W i:World}{a b:Nat}{A B:Array Value}{x y:Value}(h:zt W a 0 36=some A∧zt W b 0 36=some B∧W.cell? ⟨a,1,none⟩=some x∧W.cell? ⟨b,1,none⟩=some y∧G w W)(g:G W i) :
  zt i a 0 36=some A∧zt i b 0 36=some B∧i.cell? ⟨a,1,none⟩=some x∧i.cell? ⟨b,1,none⟩=some y∧G w i :=
 ⟨qsf h.1 g,qsf h.2.1 g,g.new.cell h.2.2.1 (fun h=>h),g.new.cell h.2.2.2.1 (fun h=>h),h.2.2.2.2.trans g⟩
def q99(o q:Bool)(i m:Int):Int:=qrk (qep o) (qep q) i m
theorem q0z(o q:Bool)(i m:Int)(A B:Array Value)(w:World)(E:A.size=36)(H:B.size=36)
  (a0:A[0]? = some (.bool o)) (x:A[1]? = some (.int .u64 i)) (y:B[0]? = some (.bool q)) (z:B[1]? = some (.int .u64 m)) :
  Calls Tryz.prog 161 #[.agg A,.agg B] w (qxx (.int .i64 (q99 o q i m)) w):=by
 have t:((w.alloc (.cells A 254)).alloc (.cells B 254)).heap[w.heap.size]? = some (.cells A 254 (0,0)):=qx (ql _ _) _
 have v:((w.alloc (.cells A 254)).alloc (.cells B 254)).heap[w.heap.size+1]? = some (.cells B 254 (0,0)):=by
  have:=ql (w.alloc (.cells A 254)) (.cells B 254);rwa [World.size_alloc] at this
 have n0:G w ((w.alloc (.cells A 254)).alloc (.cells B 254)):=((G.refl w).alloc _).alloc _
 have J:=qaj t 36 E
 have K:=qaj v 36 H
 have C:=(qk t 1).trans x
 have D:=(qk v 1).trans z
 clear t v
 go_enter Tryz.func161,Tryz.ntmps161
 go_wp2_with fail
 generalize ((w.alloc (.cells A 254)).alloc (.cells B 254))=U at *
 go_region_held3 (fun w'=>zt w' w.heap.size 0 36=some A∧zt w' (w.heap.size+1) 0 36=some B∧w'.cell? ⟨w.heap.size,1,none⟩=some (.int .u64 i)∧w'.cell? ⟨w.heap.size+1,1,none⟩=some (.int .u64 m)∧G w w')
  (first | exact⟨J,K,C,D,n0.drew⟩ | (refine qpj ?_ (by assumption);first | assumption | exact⟨by assumption,by assumption,by assumption,by assumption,by assumption⟩) | (refine qpj ?_ ((G.refl _).alloc _);first | assumption | exact⟨by assumption,by assumption,by assumption,by assumption,by assumption⟩))
  (first
   | (go_at_call_of 188 (Value.agg A);refine(qn4 o A _ a0).mono ?_;rintro e P ⟨rfl,M⟩)
   | (go_at_call_of 188 (Value.agg B);refine(qn4 q B _ y).mono ?_;rintro e R ⟨rfl,N⟩)
   | (go_at_call 194;refine(qtb (qep o) (qep q) i m _ _ (qk (ql _ _) 0) (qk (ql _ _) 1) (qk (ql _ _) 2) (qk (ql _ _) 3)).mono ?_;rintro e T ⟨rfl,O⟩))
 go_wp2
 go_ret
 have I:= ‹zt _ _ _ _=some A∧zt _ _ _ _=some B∧_›
 exact⟨rfl,I.2.2.2.2⟩
end
section
open Go.RowKit Go.Sort
instance:Inhabited Htlc:=⟨⟨0,0,Vector.replicate 32 0,0⟩⟩
instance:Inhabited Item:=⟨⟨false,default⟩⟩
def qco(w:World)(g off:Nat)(xs:List Item):Prop :=
 ∃C T,w.heap[g]? = some (.cells C T (0,0))∧off+xs.length*36≤C.size∧∀i,i<xs.length→∀j,j<36→C[off+i*36+j]? = (zk xs[i]!)[j]?
theorem qco.row{w:World}{g off:Nat}{xs:List Item}(h:qco w g off xs){i:Nat}(o:i<xs.length):zt w g (off+i*36) 36=some (zk xs[i]!).toArray:=by
 obtain⟨C,T,q,x,t⟩:=h;have m:off+i*36+36≤C.size:=by have:=Nat.mul_le_mul_right 36 (show i+1≤xs.length from o);omega
 rw[qby q _ _ m];congr 1;apply Array.ext';apply List.ext_getElem?;intro j;rw[Array.getElem?_toList,Array.getElem?_extract];by_cases v:j<36
 ·rw[if_pos (by omega),t i o j v]
 ·rw[if_neg (by omega),List.getElem?_eq_none (by rw[qbx];omega)]
theorem qco.ok{w:World}{g off:Nat}{xs:List Item}(h:qco w g off xs){i:Nat}(q:i<xs.length)(y:Item):stOk w g (off+i*36) 36 (zk y).toArray=true:=by
 obtain⟨C,T,o,v,t⟩:=h;have m:off+i*36+36≤C.size:=by have:=Nat.mul_le_mul_right 36 (show i+1≤xs.length from q);omega
 exact qd4 o m (by rw[List.size_toArray,qbx]) (by rw[List.all_toArray,List.all_eq_true];exact qno y)
theorem qco.set{w:World}{g off:Nat}{xs:List Item}(h:qco w g off xs){i:Nat}(v:i<xs.length)(y:Item):qco (w.setCells g (off+i*36) (zk y)) g off (xs.set i y):=by
 obtain⟨C,T,q,z,t⟩:=h;have o:off+i*36+36≤C.size:=by have:=Nat.mul_le_mul_right 36 (show i+1≤xs.length from v);omega
 refine⟨_,T,qax q _ _,by rw[qwh,List.length_set];exact z,fun k m j x=> ?_⟩;rw[List.length_set] at m;rw[qig _ _ _ _ (by rw[qbx];exact o),qbx];by_cases e:i=k
 ·subst e;rw[if_pos (by omega),show off+i*36+j-(off+i*36)=j by omega];simp[m]
 ·rw[if_neg ?_,t k m j x]
  ·rw[List.getElem!_eq_getElem?_getD,List.getElem!_eq_getElem?_getD,List.getElem?_set_ne e]
  ·rcases Nat.lt_or_gt_of_ne e with h | h
   ·have:=Nat.mul_le_mul_right 36 (show i+1≤k from h);omega
   ·have:=Nat.mul_le_mul_right 36 (show k+1≤i from h);omega
theorem qco.upd{S:Nat→Prop}{w w':World}{g off:Nat}{xs:List Item}(h:qco w g off xs)(u:Upd S w w')(m:¬S g):qco w' g off xs:=by
 obtain⟨C,T,i,r⟩:=h;exact⟨C,T,u.old i m,r⟩
theorem qco.drewN{w:World}{g off:Nat}{xs:List Item}(h:qco w g off xs)(n:Nat):qco (w.drewN n) g off xs:=h
theorem qco.drew{w:World}{g off:Nat}{xs:List Item}(h:qco w g off xs):qco w.drew g off xs:=h
theorem qco.lt{w:World}{g off:Nat}{xs:List Item}(h:qco w g off xs):g<w.heap.size:=by
 obtain⟨C,T,i,r⟩:=h;exact zi i
def q5z(xs:List Item)(i j:Nat):List Item:=(xs.set i xs[j]!).set j xs[i]!
theorem qco.swap{w:World}{g off:Nat}{xs:List Item}(h:qco w g off xs){i j:Nat}(m:i<xs.length)(o:j<xs.length) :
  qco ((w.setCells g (off+i*36) (zk xs[j]!)).setCells g (off+j*36) (zk xs[i]!)) g off (q5z xs i j) :=
 (h.set m _).set (by rw[List.length_set];exact o) _
def q5r(x v:Value):Sem Unit:=Instr.storeAt 254 x v
theorem qj5(x v:Value):Instr.storeAt 254 x v=q5r x v:=rfl
theorem qyn(b o:Nat)(A:Array Value)(w:World):(q5r (.pointer (some ⟨b,o,none⟩)) (.agg A)).run Tryz.prog w=if stOk w b o 36 A=true then .ok () (w.setCells b o A.toList) else qes Tryz.prog 254 w b o A :=
 qaz 254 36 Tryz.infoItem b o A w
attribute [local go_sem ↓ high] qev qj5
attribute [local go_sem] qmn qyn
end
section
open Go.RowKit Go.Sort
def cf(x y:Item):Int:=q99 x.offered y.offered x.h.id y.h.id
def kl(x y:Item):Prop:=qep x.offered<qep y.offered∨(qep x.offered=qep y.offered∧x.h.id<y.h.id)
theorem zax(x y:Item):cf x y<0↔kl x y:=by
 unfold cf q99 qrk qgy kl;generalize qep x.offered=a;generalize qep y.offered=b;generalize x.h.id=c;generalize y.h.id=d;split<;>split<;>(try split)<;>(try split)<;>omega
def lt'(p q:Item × Nat):Prop:=kl p.1 q.1∨(¬kl q.1 p.1∧p.2<q.2)
theorem qgd{p q r:Item × Nat}(h:lt' p q)(k:lt' q r):lt' p r:=by unfold lt' kl at *;omega
theorem qws(p:Item × Nat):¬lt' p p:=by unfold lt' kl;omega
abbrev Srt(l:List (Item × Nat)):Prop:=l.Pairwise lt'
def q8f(A B:List (Item × Nat)):Prop:=∀p∈A,∀q∈B,lt' p q
theorem qok{A B:List (Item × Nat)} : Srt (A++B)↔Srt A∧Srt B∧q8f A B:=List.pairwise_append
theorem qil{A B:List (Item × Nat)}(y:Srt A)(z:Srt B)(h:∀p q,A.getLast? = some p→B.head? = some q→lt' p q):q8f A B:=by
 intro p m q v;cases B with
 | nil=>cases v
 | cons b B =>
  obtain⟨a,w⟩:∃a,A.getLast? = some a:=by
   cases x:A.getLast? with
   | none=>rw[List.getLast?_eq_none_iff] at x;subst x;cases m
   | some a=>exact⟨a,rfl⟩
  have i:=h a b w rfl;have o:p=a∨lt' p a:=by
   obtain⟨C,rfl⟩:=List.getLast?_eq_some_iff.1 w;rcases List.mem_append.1 m with m | m
   ·exact .inr ((List.pairwise_append.1 y).2.2 p m a (List.mem_singleton.2 rfl))
   ·exact .inl (List.mem_singleton.1 m)
  have t:q=b∨lt' b q:=by
   rcases List.mem_cons.1 v with rfl | v
   ·exact .inl rfl
   ·exact .inr ((List.pairwise_cons.1 z).1 q v)
  rcases o with rfl | o<;>rcases t with rfl | t
  ·exact i
  ·exact qgd i t
  ·exact qgd o i
  ·exact qgd o (qgd i t)
def Low(A B:List (Item × Nat)):Prop:=∀p∈A,∀q∈B,p.2<q.2
theorem qz9{y:Item × Nat}{o t:List (Item × Nat)}(C:Srt (o++t))(D:Low (o++t) [y])(x:∀p,o.getLast? = some p→¬kl y.1 p.1)(z:∀q,t.head? = some q→kl y.1 q.1):Srt (o++(y::t)):=by
 obtain⟨v,w,I⟩:=qok.1 C;have E:∀p∈o,lt' p y:=fun p i=>by
  have:=qil (A:=o) (B:=[y]) v (List.pairwise_singleton _ _) (fun p q i m=>by
   simp only[List.head?_cons,Option.some.injEq] at m;subst m;refine .inr ⟨x p i,D p ?_ y (List.mem_singleton.2 rfl)⟩;exact List.mem_append_left _ (List.mem_of_getLast? i))
  exact this p i y (List.mem_singleton.2 rfl)
 have H:∀q∈t,lt' y q:=fun q m=>by
  have:=qil (A:=[y]) (B:=t) (List.pairwise_singleton _ _) w (fun p q i m=>by
   simp only[List.getLast?_singleton,Option.some.injEq] at i;subst i;exact .inl (z q m))
  exact this y (List.mem_singleton.2 rfl) q m
 refine qok.2 ⟨v,List.pairwise_cons.2 ⟨H,w⟩,fun p i q m=> ?_⟩;rcases List.mem_cons.1 m with rfl | m
 ·exact E p i
 ·exact I p i q m
attribute [local go_sem ↓ high] qev qj5
attribute [local go_sem] qmn qyn
theorem qzh(x y:Item)(w:World):Calls Tryz.prog 161 #[.agg (zk x).toArray,.agg (zk y).toArray] w (qxx (.int .i64 (cf x y)) w) :=
 q0z x.offered y.offered x.h.id y.h.id _ _ w (by rw[List.size_toArray,qbx]) (by rw[List.size_toArray,qbx]) (by rw[List.getElem?_toArray];rfl) (by rw[List.getElem?_toArray];rfl) (by rw[List.getElem?_toArray];rfl) (by rw[List.getElem?_toArray];rfl)
abbrev qzn:Value:= .func (.func 161) #[] #[]
theorem qq7(P:List Item)(x:Item)(R:List Item)(n:Nat)(h:n=P.length):(P++(x::R))[n]! = x:=by
 subst h;rw[List.getElem!_eq_getElem?_getD,List.getElem?_append_right (Nat.le_refl _),Nat.sub_self];rfl
theorem q1l(L:List Item)(x y:Item)(R:List Item):q5z (L++(x::(y::R))) (L.length+1) L.length=L++(y::(x::R)):=by
 have i:(L++(x::(y::R)))[L.length]! = x:=qq7 L x _ _ rfl;have m:(L++(x::(y::R)))[L.length+1]! = y:=by
  have:=qq7 (L++[x]) y R (L.length+1) (by simp);rwa [List.append_assoc] at this
 unfold q5z;rw[i,m];rw[List.set_append_right _ _ (by omega),List.set_append_right _ _ (by omega)];simp
theorem q2t{w W i:World}{g m o:Nat}{A B:Array Value}(h:zt W g m 36=some A∧zt W g o 36=some B∧G w W)(k:G W i):zt i g m 36=some A∧zt i g o 36=some B∧G w i :=
 ⟨qsf h.1 k,qsf h.2.1 k,h.2.2.trans k⟩
theorem qco.g{w w':World}{b off:Nat}{xs:List Item}(h:qco w b off xs)(k:G w w'):qco w' b off xs:=h.upd k.new (fun h=>h)
theorem q57{L:List Item}{x y:Item}{R:List Item}{q:Nat}(i:L.length=q):(L++(y::(x::R)))[q]! = y∧(L++(y::(x::R)))[q+1]! = x∧q+1<(L++(y::(x::R))).length:=by
 refine⟨qq7 _ _ _ _ i.symm,?_,by simp;omega⟩;have:=qq7 (L++[y]) x R (q+1) (by simp;omega);rwa [List.append_assoc] at this
theorem qu7{w:World}{g off:Nat}{L:List Item}{x y:Item}{R:List Item}{q:Nat}(v:L.length=q)(h:qco w g off (L++(y::(x::R)))) :
  zt w g (off+(q+1)*36) 36=some (zk x).toArray∧zt w g (off+q*36) 36=some (zk y).toArray:=by
 obtain⟨m,o,t⟩:=q57 (x:=x) (y:=y) (R:=R) v
 constructor
 ·have:=h.row t;rwa [o] at this
 ·have:=h.row (i:=q) (by omega);rwa [m] at this
theorem zbo{w:World}{g off:Nat}{L:List Item}{x y:Item}{R:List Item}{q:Nat}(m:L.length=q)(h:qco w g off (L++(y::(x::R)))) :
  stOk w g (off+(q+1)*36) 36 (zk y).toArray=true∧stOk (w.setCells g (off+(q+1)*36) (zk y)) g (off+q*36) 36 (zk x).toArray=true ∧
  qco ((w.setCells g (off+(q+1)*36) (zk y)).setCells g (off+q*36) (zk x)) g off (L++(x::(y::R))):=by
 obtain⟨t,v,i⟩:=q57 (x:=x) (y:=y) (R:=R) m
 refine⟨h.ok i y,(h.set i y).ok (by rw[List.length_set];omega) x,?_⟩
 have:=h.swap i (show q<_ by omega)
 rw[t,v] at this
 have o:=q1l L y x R
 rw[m] at o
 rwa [o] at this
abbrev its(L:List (Item × Nat)):List Item:=L.map Prod.fst
abbrev qva(L:List (Item × Nat)):Prop:=L.Pairwise (fun p q=>p.2<q.2)
theorem qo2(g off cap:Nat)(P S:List Item)(L:List (Item × Nat))(hL:qva L)(N:Nat)(hN:P.length+(L.length+S.length)=N)(hm:N≤4611686018427387904)(a b:Int)(ha:a=P.length)(hb:b=P.length+L.length)
  (w:World) (h:qco w g off (P++(its L++S))) :
  Calls Tryz.prog 209 #[.slice (some ⟨g,off,none⟩) N cap,.int .i64 a,.int .i64 b,qzn] w fun e w'=>e = .returned (.tuple #[])∧Upd (· = g) w w'∧∃M,M.Perm L∧Srt M∧qco w' g off (P++(its M++S)):=by
 have a0:0≤a:=by omega
 have a1:a≤4611686018427387904:=by omega
 have b0:0≤b:=by omega
 have b1:b≤4611686018427387904:=by omega
 have HA:=qj ha
 have HB:=qj hb
 have HN:=qj hN
 have HL:=qj hL
 clear ha hb hN hL
 go_enter Tryz.func209,Tryz.ntmps209
 go_wp2_with fail
 go_loopw [8] (fun iv wr=>∃(M L1 L2:List (Item × Nat)) (n:Int),iv = .int .i64 n∧Hid (n=a+M.length∨(n=a+1∧L=[]∧M=[]))∧Hid (L=L1++L2)∧Hid (M.Perm L1)∧Srt M∧0≤n∧n≤b+1∧Upd (· = g) w wr∧qco wr g off (P++(its M++(its L2++S)))) (fun iv _=>(b+1-intOf iv).toNat)
 case atStart =>
  cases L with
  | nil=>exact⟨[],[],[],a+1,rfl,qj (.inr ⟨rfl,rfl,rfl⟩),qj rfl,qj (List.Perm.refl _),List.Pairwise.nil,by omega,by have m:=qg HB;have C:=qg HA;rw[List.length_nil] at m;omega,Upd.refl _ _,h⟩
  | cons x L=>exact⟨[x],[x],L,a+1,rfl,qj (.inl rfl),qj rfl,qj (List.Perm.refl _),List.pairwise_singleton _ _,by omega,by have m:=qg HB;have C:=qg HA;rw[List.length_cons] at m;omega,Upd.refl _ _,h⟩
 case round =>
  obtain⟨M,L1,L2,n,rfl,c8,c7,HP,hs,n0,n1,hu,hh⟩:=hrel;have eN:=qg c8;have t:=qg c7;have eP:=(qg HP).length_eq;have eA:=qg HA;have eB:=qg HB;by_cases d7:n<b
  ·obtain⟨x,H,D⟩:∃x H,L2=x::H:=by
    cases L2 with
    | nil =>
     exfalso;rw[List.append_nil] at t;rw[t] at eB;rcases eN with e | ⟨e,e2,_⟩
     ·omega
     ·rw[e2] at t;rw[←t] at eB;simp at eB;omega
    | cons x H=>exact⟨x,H,rfl⟩
   have en:n=a+M.length:=by
    rcases eN with e | ⟨_,e,_⟩
    ·exact e
    ·rw[e,D] at t;simp at t
   have d2:=qj (show Low M [x] from by
    intro p Z q hq;rw[List.mem_singleton.1 hq];have hr:=qg HL;rw[t,D] at hr;exact(List.pairwise_append.1 hr).2.2 p ((qg HP).mem_iff.1 Z) x List.mem_cons_self)
   have b8:=qj D;have c2:qco wr g off (P++(its M++(x.1::(its H++S)))):=by rw[D] at hh;simpa using hh
   have a2:=qj en;have b5:=qj t;have d5:=qj eP;have c4:n=P.length+M.length:=by omega
   have b9:=qj c4;have c1:P.length+(M.length+(1+(H.length+S.length)))=N:=by
    have:=qg HN;rw[t,D,List.length_append,List.length_cons] at this;omega
   have c0:=qj c1;have b2:n≤4611686018427387904:=by omega
   clear hh eN t eP eA eB D en c4 c1;obtain⟨wo,rfl⟩:∃wo:World,wo=wr:=⟨_,rfl⟩;go_wp2_with fail
   go_loopw [9] (fun jv wr=>∃(I J:List (Item × Nat)) (j:Int),jv = .int .i64 j∧Hid (j=P.length+I.length)∧Hid (M=I++J)∧(∀q,J.head? = some q→kl x.1 q.1)∧a≤j∧j≤n∧Upd (· = g) w wr∧qco wr g off (P++(its I++(x.1::(its J++(its H++S)))))) (fun jv _=>(intOf jv).toNat)
   case atStart=>exact⟨M,[],n,rfl,b9,qj (by simp),(fun q hq=>by simp at hq),by have:=qg a2;omega,Int.le_refl _,hu,by simpa using c2⟩
   case round =>
    obtain⟨I,J,j,rfl,HJ,i,hq,ja,jn,a8,v⟩:=hrel;clear c2;have X:(∀p,I.getLast? = some p→¬kl x.1 p.1)→Srt (I++(x::J)):=fun m =>
     qz9 (by rw[←qg i];exact hs) (by rw[←qg i];exact qg d2) m hq
    have T:=qj X;have HQ:=qj hq;clear X hq;rcases List.eq_nil_or_concat I with E | ⟨U,y,E⟩
    ·have e1:j=a:=by have m:=qg HJ;have C:=qg HA;rw[E] at m;simp at m;omega
     have e2:decide (a<j)=false:=decide_eq_false (by omega);have K:=qj E;clear E e1;go_wp2_with fail;go_quiet (fail);go_wp2;go_roundw
     case rel =>
      refine⟨I++(x::J),L1++[x],H,n+1,by go_num,qj (.inl ?_),qj ?_,qj ?_,qg T (fun p Z=>by rw[qg K] at Z;cases Z),by omega,by omega,a8.drewN _,?_⟩
      ·have m:=qg a2;have C:=congrArg List.length (qg i);rw[List.length_append] at C;rw[List.length_append,List.length_cons];omega
      ·rw[qg b5,qg b8];simp
      ·have m:=qg HP;rw[qg i] at m;exact(List.perm_middle.trans (List.Perm.cons x m)).trans (List.perm_append_comm (l₁:=[x]))
      ·have:=v.drewN nq;simpa [List.append_assoc] using this
     case measure=>simp[intOf];omega
    ·have o:I=U++[y]:=by rw[E,List.concat_eq_append]
     have c3:j=P.length+U.length+1:=by have m:=qg HJ;rw[o,List.length_append] at m;simp at m;omega
     have e3:a<j:=by have C:=qg HA;omega
     obtain⟨q,rfl⟩:∃q:Nat,j=(q:Int)+1:=⟨P.length+U.length,by omega⟩;have c5:q=P.length+U.length:=by omega
     have d8:(q:Int)+1<(N:Int):=by have m:=qg c0;have C:=congrArg List.length (qg i);rw[List.length_append,o,List.length_append] at C;simp at C;omega
     have O:qco wr g off ((P++its U)++(y.1::(x.1::(its J++(its H++S))))):=by rw[o] at v;simpa [List.append_assoc] using v
     have d4:((P++its U)++(y.1::(x.1::(its J++(its H++S))))).length=N:=by
      have m:=qg c0;have C:=congrArg List.length (qg i);rw[List.length_append,o,List.length_append] at C;simp at C ⊢;omega
     have R:(P++its U).length=q:=by simp;omega
     obtain⟨r1,r0⟩:=qu7 R O.drew;have V:=fun(W:World) (k:G wr W)=>And.intro (qu7 R (O.g k).drew) (zbo R (O.g k).drew)
     have K:=qj o;have b3:=qj V;have a6:=qzh x.1 y.1;have a7:=zax x.1 y.1;generalize hc:cf x.1 y.1=c at a6 a7;have b4:=qj a6;have b7:=qj a7;have d6:=qj c3;have c9:=qj c5;have c6:=qj v;clear E o V d4 a6 a7 hc c3 c5 R v O;have d9:IntKind.i64.wrap (q:Int)=(q:Int):=IntWalk.i64_in _ (by omega);have e4:(q:Int)<(N:Int):=by omega
     have p0:(0:Int)≤(q:Int)+1:=by omega
     have e0:((q:Int)+1).toNat=q+1:=by omega
     generalize zk x.1=cx at *
     generalize zk y.1=cy at *
     by_cases d3:c<0
     ·go_wp2_with fail;go_region_held3 (fun w'=>zt w' g (off+(q+1)*36) 36=some cx.toArray∧zt w' g (off+q*36) 36=some cy.toArray∧G wr w')
       (first | exact⟨r1,r0,(G.refl _).drew⟩ | (refine q2t ?_ (by assumption);first | assumption | exact⟨by assumption,by assumption,by assumption⟩))
       ((go_at_call 161;refine(qg b4 _).mono ?_;rintro e w3 ⟨rfl,g3⟩))
      have hS:= ‹zt _ _ _ _=some _∧zt _ _ _ _=some _∧_›;have gw:=hS.2.2;clear hS;go_wp2_with fail;obtain⟨⟨d1,d0⟩,s1,s2,Y⟩:=qg b3 w3 gw;have b6:=qj Y;clear Y r1 r0 g3;go_region;go_wp2;go_roundw
      case rel =>
       refine⟨U,y::J,q,by go_num,qj (qg c9▸by simp),qj (by rw[qg i,qg K];simp),(fun z hz=> ?_),by omega,by omega,((a8.then (gw.new) (fun _ _ h=>h.elim)).drew.setCells _ _).setCells _ _,?_⟩
       ·simp only[List.head?_cons,Option.some.injEq] at hz;subst hz;exact(qg b7).1 d3
       ·have:=qg b6;simpa [List.append_assoc] using this
      case measure=>simp[intOf]
     ·go_wp2_with fail;go_region_held3 (fun w'=>zt w' g (off+(q+1)*36) 36=some cx.toArray∧zt w' g (off+q*36) 36=some cy.toArray∧G wr w')
       (first | exact⟨r1,r0,(G.refl _).drew⟩ | (refine q2t ?_ (by assumption);first | assumption | exact⟨by assumption,by assumption,by assumption⟩))
       ((go_at_call 161;refine(qg b4 _).mono ?_;rintro e w3 ⟨rfl,g3⟩))
      have hS:= ‹zt _ _ _ _=some _∧zt _ _ _ _=some _∧_›;have gw:=hS.2.2;clear hS;go_wp2;go_roundw
      case rel =>
       refine⟨I++(x::J),L1++[x],H,n+1,by go_num,qj (.inl ?_),qj ?_,qj ?_,qg T (fun p Z=> ?_),by omega,by omega,a8.then gw.new (fun _ _ h=>h.elim),?_⟩
       ·have m:=qg a2;have C:=congrArg List.length (qg i);rw[List.length_append] at C;rw[List.length_append,List.length_cons];omega
       ·rw[qg b5,qg b8];simp
       ·have m:=qg HP;rw[qg i] at m;exact(List.perm_middle.trans (List.Perm.cons x m)).trans (List.perm_append_comm (l₁:=[x]))
       ·rw[qg K,List.getLast?_append] at Z;simp at Z;subst Z;exact fun hk=>by have:=(qg b7).2 hk;omega
       ·have:=(qg c6).g gw;simpa [List.append_assoc] using this
      case measure=>simp[intOf];omega
  ·have hM:M.Perm L:=by
    have:L2=[]:=by
     rcases eN with e | ⟨_,e,_⟩
     ·rw[t,List.length_append] at eB;exact List.length_eq_zero_iff.1 (by omega)
     ·rw[e] at t;exact(List.append_eq_nil_iff.1 t.symm).2
    rw[t,this,List.append_nil];exact qg HP
   have v:qco wr g off (P++(its M++S)):=by
    have:L2=[]:=by
     have:=hM.length_eq;rw[t,List.length_append] at this;exact List.length_eq_zero_iff.1 (by omega)
    rw[this] at hh;exact hh
   have HM:=qj hM;clear hM eN t eP eA eB hh;go_wp2;go_end0;exact⟨rfl,hu,M,qg HM,hs,v⟩
end
section
open Go.RowKit Go.Sort
abbrev LI:=List (Item × Nat)
theorem qxj(g off cap N:Nat)(L:LI)(t:qva L)(z:L.length=N)(I:N≤19)(w:World)(h:qco w g off (its L)) :
  Calls Tryz.prog 193 #[.slice (some ⟨g,off,none⟩) N cap,.int .i64 (N:Int),qzn] w fun e w'=>e = .returned (.tuple #[])∧Upd (· = g) w w'∧∃M,M.Perm L∧Srt M∧qco w' g off (its M):=by
 have H:=qj (qo2 g off cap [] [] L t N (by simp;omega) (by omega) 0 (N:Int) (by simp) (by simp;omega) w (by simpa using h))
 have i:¬(20:Int)≤(N:Int):=by omega
 have E:¬(20:Int)<(N:Int):=by omega
 clear z t h
 go_enter Tryz.func193,Tryz.ntmps193
 go_wp2_with fail
 go_loopw [7,8] (fun x y wr=>x = .int .i64 0∧y = .int .i64 20∧wr=w) (fun _ _ _=>0)
 case atStart=>exact⟨rfl,rfl,rfl⟩
 case round =>
  obtain⟨rfl,rfl,rfl⟩:=hrel;go_wp2_with fail;refine(qg H).mono ?_;rintro e w1 ⟨rfl,D,M,m,o,i⟩;have v:=qj (And.intro m (And.intro o i));obtain⟨q,rfl⟩:∃q:World,q=w1:=⟨_,rfl⟩;clear m o i H;go_wp2_with fail
  go_loopw [6] (fun C wr=>C = .int .i64 20∧wr=q) (fun _ _=>0)
  case atStart=>exact⟨rfl,rfl⟩
  case round =>
   obtain⟨rfl,rfl⟩:=hrel;go_wp2_with fail;go_end0;obtain⟨m,o,i⟩:=qg v;exact⟨rfl,D,M,m,o,by simpa using i⟩
theorem q7j(X:List Item):its X.zipIdx=X:=by simp[its]
theorem qw7:∀(X:List Item) (k:Nat),qva (X.zipIdx k):=by
 intro X
 induction X with
 | nil=>intro k;exact List.Pairwise.nil
 | cons x X m =>
  intro k;rw[List.zipIdx_cons];refine List.pairwise_cons.2 ⟨fun p i=> ?_,m _⟩;have:=List.le_snd_of_mem_zipIdx i;omega
theorem qh6(g off cap N:Nat)(X:List Item)(t:X.length=N)(v:N≤19)(w:World)(h:qco w g off X) :
  Calls Tryz.prog 160 #[.slice (some ⟨g,off,none⟩) N cap,qzn] w fun e w'=>e = .returned (.tuple #[])∧Upd (· = g) w w'∧∃M,M.Perm X.zipIdx∧Srt M∧qco w' g off (its M):=by
 have H:=qj (qxj g off cap N X.zipIdx (qw7 X 0) (by simpa using t) v w (by rw[q7j];exact h))
 go_enter Tryz.func160,Tryz.ntmps160
 go_wp2_with fail
 refine(qg H).mono ?_
 rintro e w1 ⟨rfl,x,M,m,o,q⟩
 have i:=qj (And.intro m o)
 clear m o
 go_wp2
 go_end0
 exact⟨rfl,x,M,(qg i).1,(qg i).2,q⟩
theorem q3r(X:List Item):(X.flatMap zk).length=X.length*36:=by
 induction X with
 | nil=>rfl
 | cons x X i=>rw[List.flatMap_cons,List.length_append,i,qbx,List.length_cons];omega
theorem q3q:∀(X:List Item) (i j:Nat),i<X.length→j<36→(X.flatMap zk)[i*36+j]? = (zk X[i]!)[j]? := by
 intro X
 induction X with
 | nil=>intro i j h;simp at h
 | cons x X q =>
  intro i j m o;rw[List.flatMap_cons];cases i with
  | zero=>rw[List.getElem?_append_left (by rw[qbx];omega),Nat.zero_mul,Nat.zero_add];rfl
  | succ i =>
   rw[List.getElem?_append_right (by rw[qbx];omega),qbx,show (i+1)*36+j-36=i*36+j by omega,q i j (by simpa using m) o];rfl
theorem qrx{w:World}{base:Nat}{v:Value}{n:Nat}{X:List Item}(h:w.ownsRow base 254 36 v n (X.flatMap zk)) :
  n=X.length∧((v = .slice none 0 0∧X=[])∨∃g cap,v = .slice (some ⟨g,0,none⟩) X.length cap∧base≤g∧qco w g 0 X):=by
 have q:n=X.length:=by have:=h.1;rw[q3r] at this;omega
 refine⟨q,?_⟩
 subst q
 rcases h.2 with ⟨e,e0⟩ | ⟨g,cap,m,e,t,y,x,_,D,C⟩
 ·exact .inl ⟨e,List.length_eq_zero_iff.1 e0⟩
 ·refine .inr ⟨g,cap,e,t,m,_,y,by have:=Nat.mul_le_mul_right 36 x;omega,fun i o j z=> ?_⟩;rw[Nat.zero_add,←q3q X i j o z,←C,List.getElem?_take,if_pos (by have:=Nat.mul_le_mul_right 36 (show i+1≤X.length from o);omega),Array.getElem?_toList]
theorem qnm(w:World):Calls Tryz.prog 209 #[.slice none 0 0,.int .i64 0,.int .i64 0,qzn] w (qae (.tuple #[]) w):=by
 go_enter Tryz.func209,Tryz.ntmps209;go_wp2_with fail
 go_loopw [8] (fun i wr=>i = .int .i64 1∧wr=w) (fun _ _=>0)
 case atStart=>exact⟨rfl,rfl⟩
 case round =>
  obtain⟨rfl,rfl⟩:=hrel;go_wp2;go_end0;exact⟨rfl,0,rfl⟩
theorem qu0(w:World):Calls Tryz.prog 193 #[.slice none 0 0,.int .i64 0,qzn] w (qae (.tuple #[]) w):=by
 go_enter Tryz.func193,Tryz.ntmps193;go_wp2_with fail
 go_loopw [7,8] (fun m o wr=>m = .int .i64 0∧o = .int .i64 20∧wr=w) (fun _ _ _=>0)
 case atStart=>exact⟨rfl,rfl,rfl⟩
 case round =>
  obtain⟨rfl,rfl,rfl⟩:=hrel;go_wp2_with fail;refine(qnm _).mono ?_;rintro e w1 ⟨rfl,q⟩;obtain⟨i,rfl⟩:∃i:World,i=w1:=⟨_,rfl⟩;go_wp2_with fail
  go_loopw [6] (fun t wr=>t = .int .i64 20∧wr=i) (fun _ _=>0)
  case atStart=>exact⟨rfl,rfl⟩
  case round =>
   obtain⟨rfl,rfl⟩:=hrel;go_wp2;go_end0;exact⟨rfl,q⟩
theorem qhj(w:World):Calls Tryz.prog 160 #[.slice none 0 0,qzn] w (qae (.tuple #[]) w):=by
 go_enter Tryz.func160,Tryz.ntmps160;go_wp2_with fail;refine(qu0 _).mono ?_;rintro e w1 ⟨rfl,i⟩;go_wp2;go_end0;exact⟨rfl,i⟩
theorem qtm(Z:List Value):∀(A:List Value) (L:List Value),Z.length=A.length→(A.zipIdx).foldl (fun(cs:Array Value) (c,j)=>cs.setIfInBounds (L.length+j) c) (L++Z).toArray=(L++A).toArray:=by
 intro A L h;have key:∀(A:List Value) (k:Nat) (P Z:List Value),Z.length=A.length→P.length=L.length+k→(A.zipIdx k).foldl (fun(cs:Array Value) (c,j)=>cs.setIfInBounds (L.length+j) c) (P++Z).toArray=(P++A).toArray:=by
  intro A
  induction A with
  | nil=>intro k P Z i _;rw[List.length_eq_zero_iff.1 i];rfl
  | cons a A o =>
   intro k P Z i m;cases Z with
   | nil=>simp at i
   | cons z Z =>
    rw[List.zipIdx_cons,List.foldl_cons];have e:(P++z::Z).toArray.setIfInBounds (L.length+k) a=((P++[a])++Z).toArray:=by
     rw[←m];simp
    show List.foldl _ ((P++z::Z).toArray.setIfInBounds (L.length+k) a) _=_;rw[e,o (k+1) (P++[a]) Z (by simpa using i) (by simp[m];omega)];simp
 have:=key A 0 L Z h rfl;exact this
theorem Tryz.zeroItem:((Tryz.prog.info? 254).map fun i=>i.zero.map fun z=>z.cells.toList)=some (some (.bool false :: .int .u64 0 :: .int .u64 0::(List.replicate 32 (.int .u8 0)++[.int .i64 0]))):=by kernel_rfl
theorem qpy:∃i z,Tryz.prog.info? 254=some i∧i.zero=some z∧z.cells=(.bool false :: .int .u64 0 :: .int .u64 0::(List.replicate 32 (.int .u8 0)++[.int .i64 0])).toArray:=by
 have h:=Tryz.zeroItem;cases o:Tryz.prog.info? 254 with
 | none=>rw[o] at h;simp at h
 | some i =>
  rw[o,Option.map_some,Option.some.injEq] at h;cases m:i.zero with
  | none=>rw[m] at h;simp at h
  | some z =>
   rw[m,Option.map_some,Option.some.injEq] at h;exact⟨i,z,rfl,m,by rw[←h]⟩
theorem qrf{P:Program}{t:TypeId}{q:TypeInfo}{z:Value}{m:Array Field}{places:List (Nat × Nat)}(v:P.info? t=some q)(x:P.underlying t=some (.struct m))(y:q.zero=some z)
  (w:m.toList.mapM (fun f=>(P.info? f.type).map fun i=>(f.offset,i.size))=some places) (o:List (Nat × Value)):P.built t o=Instr.fill (places.toArray[·]?) z.cells o:=by
 unfold Program.built
 rw[v,x]
 simp only[y,w]
theorem qvn(b:Bool)(A:List Value)(h:A.length=35):Tryz.prog.built 254 [(0,.bool b),(1,.agg A.toArray)]=some (.bool b::A).toArray:=by
 obtain⟨i,z,t,v,q⟩:=qpy;rw[qrf (places:=[(0,1),(1,35)]) t Tryz.underlying254 v (by kernel_rfl),q];have o:=qtm (.int .u64 0 :: .int .u64 0::(List.replicate 32 (.int .u8 0)++[.int .i64 0])) A [.bool b] (by rw[h];rfl);have m:(.int .u64 0 :: .int .u64 0::(List.replicate 32 (.int .u8 0)++[.int .i64 0]):List Value).length=35:=rfl;generalize (.int .u64 0 :: .int .u64 0::(List.replicate 32 (.int .u8 0)++[.int .i64 0]):List Value)=Z at o m ⊢;simp[Instr.fill,Value.cells,h,m];exact o
theorem q5c(A:List Value)(h:A.length=36)(w:World):(Instr.buildSlice 199 1 #[(0,.agg A.toArray)]).run Tryz.prog w = .ok (.slice (some ⟨w.heap.size,0,none⟩) 1 1) (w.alloc (.cells A.toArray 254)):=by
 obtain⟨i,z,v,C,y⟩:=qpy;have m:i.size=36:=by have:=Tryz.infoItem;rw[v] at this;simpa using this
 refine run_buildSlice w _ _ 1 _ _ i z Tryz.underlying199 v C (by rw[m];decide) (by rw[m];decide) ?_;rw[m,y];generalize x:Array.map _ _=W;have o:W.toList.length=A.length:=by rw[←x,h];simp
 have t:=qtm W.toList A [] o;have q:W.size=36:=by rw[←h,←o];simp
 simp[Instr.fill,Value.cells,h,q] at t ⊢;exact t
def q2j(p:Array (Nat × Value)):Sem Value:=Instr.build 254 p
theorem qra(p:Array (Nat × Value)):Instr.build 254 p=q2j p:=rfl
theorem q6u(b:Bool)(A:List Value)(w:World):(q2j #[(0,.bool b),(1,.agg A.toArray)]).run Tryz.prog w=if A.length=35 then .ok (.agg (.bool b::A).toArray) w else (Instr.build 254 #[(0,.bool b),(1,.agg A.toArray)]).run Tryz.prog w:=by
 by_cases h:A.length=35
 ·rw[if_pos h];exact run_build w _ _ _ (qvn b A h)
 ·rw[if_neg h];rfl
def q2p(n:Nat)(p:Array (Nat × Value)):Sem Value:=Instr.buildSlice 199 n p
theorem qrd(n:Nat)(p:Array (Nat × Value)):Instr.buildSlice 199 n p=q2p n p:=rfl
theorem q6y(A:List Value)(w:World):(q2p 1 #[(0,.agg A.toArray)]).run Tryz.prog w=if A.length=36 then .ok (.slice (some ⟨w.heap.size,0,none⟩) 1 1) (w.alloc (.cells A.toArray 254)) else (Instr.buildSlice 199 1 #[(0,.agg A.toArray)]).run Tryz.prog w:=by
 by_cases h:A.length=36
 ·rw[if_pos h];exact q5c A h w
 ·rw[if_neg h];rfl
end
end Go.Proofs.YtfmkdoachjgjbaaGreatDoor
