/-
  give, Counts, Closed.
-/
import Derived.Test.YthnohmjbbeahmaaGreatDoorMad
import Derived.Test.YthnohmjbbeahmaaGreatDoorRows
import Derived.Test.YthnohmjbbeahmaaGreatDoorMaa
import Derived.Deep.RegionHeld3
import Derived.Sort.Grow
import Derived.BigRegion
set_option linter.unusedVariables false
set_option linter.unusedSimpArgs false
namespace Go.Proofs.YthnohmjbbeahmaaGreatDoor
open Go.RowKit
def Ch.give(c:Ch)(g:Bool)(n:Int):Ch:=if g then {c with loc:=IntKind.u64.wrap (c.loc+n)} else {c with rem:=IntKind.u64.wrap (c.rem+n)}
theorem qig(x:Int):0≤IntKind.u64.wrap x∧IntKind.u64.wrap x<18446744073709551616:=by rw[IntKind.wrap_u64];omega
theorem Ch.Ok.give{c:Ch}(h:c.Ok)(g:Bool)(n:Int):(c.give g n).Ok:=by
 unfold Ch.give;split
 ·exact⟨h.s,h.signed,h.heard,h.nextOwn,h.nextTheirs,qig _,h.rem,h.xs,h.few,h.shelf,h.news,h.last,h.many⟩
 ·exact⟨h.s,h.signed,h.heard,h.nextOwn,h.nextTheirs,h.loc,qig _,h.xs,h.few,h.shelf,h.news,h.last,h.many⟩
set_option maxHeartbeats 1000000 in
theorem qt7(g:Nat)(S:Nat→Prop)(c:Ch)(q nv o:Value)(z:Bool)(n:Int)(w:World)(h:ChP w g S c q nv o) :
  Calls Tryz.prog 62 #[.pointer (some ⟨g,0,none⟩),.bool z,.int .u64 n] w fun e w'=>e = .returned (.tuple #[])∧ChP w' g S (c.give z n) q nv o∧Upd (· = g) w w':=by
 cases z with
 | true =>
  have C:w.cell? ⟨g,45,none⟩=some (.int .u64 c.loc):=h.toR.loc;have E:w.frozen? ⟨g,45,none⟩=false:=qv h.at_ 45;obtain⟨x,l⟩:∃x,x=IntKind.u64.wrap (c.loc+n):=⟨_,rfl⟩;have m:=h.put (i:=45) (x:= .int .u64 x) (c':=c.give true n) (by rw[l];exact q4v c q nv o h.ok.s.seed _) (h.ok.give true n) rfl rfl rfl;have u:Upd (· = g) w (w.setCell ⟨g,45,none⟩ (.int .u64 x)):=(Upd.refl _ _).set1 45 _;have t:=qb m;have v:=qb u;have H:IntKind.u64.wrap (c.loc+n)=x:=l.symm;clear h m u l;go_enter Tryz.func62,Tryz.ntmps62;go_wp2_with (with_reducible first|(first|refine' tw1 (qg ?_) ?_|refine' tw2 (qg ?_) ?_);rotate_left|refine' tw3 (qg ?_)|rfl|apply tn|refine' tw4 ?_);go_end0;exact⟨rfl,qa t,qa v⟩
 | false =>
  have D:w.cell? ⟨g,46,none⟩=some (.int .u64 c.rem):=h.toR.rem;have F:w.frozen? ⟨g,46,none⟩=false:=qv h.at_ 46;obtain⟨x,l⟩:∃x,x=IntKind.u64.wrap (c.rem+n):=⟨_,rfl⟩;have m:=h.put (i:=46) (x:= .int .u64 x) (c':=c.give false n) (by rw[l];exact q4w c q nv o h.ok.s.seed _) (h.ok.give false n) rfl rfl rfl;have u:Upd (· = g) w (w.setCell ⟨g,46,none⟩ (.int .u64 x)):=(Upd.refl _ _).set1 46 _;have t:=qb m;have v:=qb u;have H:IntKind.u64.wrap (c.rem+n)=x:=l.symm;clear h m u l;go_enter Tryz.func62,Tryz.ntmps62;go_wp2_with (with_reducible first|(first|refine' tw1 (qg ?_) ?_|refine' tw2 (qg ?_) ?_);rotate_left|refine' tw3 (qg ?_)|rfl|apply tn|refine' tw4 ?_);go_end0;exact⟨rfl,qa t,qa v⟩
def qsw:List Int:=[1,7,3,5]
def qqe:List Int:=[3,4,1,2,0,1,2,3,4,0,1,2,3,4,0,3,4,1,2,0]
structure Spans(w:World):Prop where
 spans:∀i,i<4→w.cell? ⟨2,i,none⟩=some (.int .i64 (qsw.getD i 0))
theorem Spans.q{w w':World}(h:Spans w)(q:Q w w'):Spans w':=⟨fun i g=>q.cell (h.spans i g)⟩
theorem Spans.upd{S:Nat→Prop}{w w':World}(h:Spans w)(u:Upd S w w')(g:¬S 2):Spans w':=⟨fun i l=>u.cell (h.spans i l) g⟩
theorem Spans.new{w w':World}(h:Spans w)(u:qu w w'):Spans w':=h.upd u (fun h=>h)
structure Glob(w:World):Prop where
 events:∀i,i<20→w.cell? ⟨0,i,none⟩=some (.int .i64 (qqe.getD i 0))
theorem Glob.q{w w':World}(h:Glob w)(q:Q w w'):Glob w':=⟨fun i g=>q.cell (h.events i g)⟩
theorem Glob.upd{S:Nat→Prop}{w w':World}(h:Glob w)(u:Upd S w w')(g:¬S 0):Glob w':=⟨fun i l=>u.cell (h.events i l) g⟩
theorem Glob.new{w w':World}(h:Glob w)(u:qu w w'):Glob w':=h.upd u (fun h=>h)
def qow(st:Int):Bool:=decide (0≤st)&&decide (st≤9)
theorem zd9{st:Int}(g:0≤st)(i:st≤9):qow st=true:=by unfold qow;simp;omega
theorem za4{st:Int}(h:st<0∨9<st):qow st=false:=by unfold qow;simp;omega
def q22(own:Bool):Int:=if own then 1 else 0
def q1m(own:Bool)(n:Nat):Int:=qqe.getD ((if own then 10 else 0)+n) 0
def qw(st:Int)(own:Bool)(ev:Int):Int:=if qow st=true∧ev≠0∧q1m own st.toNat=ev then st+1 else st
def loI(own:Bool):Int:=if own then 3 else 1
def hiI(own:Bool):Int:=if own then 5 else 7
def qus(st:Int)(own:Bool):Bool:=decide (loI own≤st)&&decide (st≤hiI own)
def qwr(st:Int)(own:Bool):Bool:=qow st&&decide (hiI own<st)
set_option maxRecDepth 100000 in
set_option maxHeartbeats 400000 in
theorem q4k(st:Int)(w:World):Calls Tryz.prog 90 #[.int .i64 st] w (qce (.bool (qow st)) w):=by
 by_cases i:0≤st
 ·by_cases g:st≤9
  ·rw[zd9 i g];go_enter Tryz.func90,Tryz.ntmps90;go_wp2;go_ret;exact⟨rfl,Q.refl _⟩
  ·rw[za4 (by omega)];have l:decide (st≤9)=false:=by simpa using g
   go_enter Tryz.func90,Tryz.ntmps90;go_wp2;go_ret;exact⟨rfl,Q.refl _⟩
 ·rw[za4 (by omega)];go_enter Tryz.func90,Tryz.ntmps90;go_wp2;go_ret;exact⟨rfl,Q.refl _⟩
set_option maxRecDepth 100000 in
set_option maxHeartbeats 400000 in
theorem qia(own:Bool)(w:World):Calls Tryz.prog 91 #[.bool own] w (qce (.int .i64 (q22 own)) w):=by
 cases own
 ·go_enter Tryz.func91,Tryz.ntmps91;go_wp2;go_ret;exact⟨rfl,Q.refl _⟩
 ·go_enter Tryz.func91,Tryz.ntmps91;go_wp2;go_ret;exact⟨rfl,Q.refl _⟩
theorem q7s(w:World):Calls Tryz.prog 91 #[.bool false] w (qce (.int .i64 0) w):=qia false w
theorem zbw(w:World):Calls Tryz.prog 91 #[.bool true] w (qce (.int .i64 1) w):=qia true w
theorem qnq{st:Int}(w:World)(h:qow st=true):Calls Tryz.prog 90 #[.int .i64 st] w (qce (.bool true) w):=h▸q4k st w
theorem qum{st:Int}(w:World)(h:qow st=false):Calls Tryz.prog 90 #[.int .i64 st] w (qce (.bool false) w):=h▸q4k st w
set_option maxRecDepth 100000 in
set_option maxHeartbeats 400000 in
theorem qzk(st ev:Int)(own:Bool)(w:World)(E:Glob w):Calls Tryz.prog 71 #[.int .i64 st,.bool own,.int .i64 ev] w (qce (.int .i64 (qw st own ev)) w):=by
 cases m:qow st with
 | false =>
  have e:qw st own ev=st:=by unfold qw;rw[if_neg (by rw[m];simp)]
  rw[e];have Hm:=qb m;clear e m;go_enter Tryz.func71,Tryz.ntmps71;go_wp2_with fail;refine(qum _ (qa Hm)).mono ?_;rintro e w1 ⟨rfl,i⟩;go_wp2;go_ret;exact⟨rfl,i⟩
 | true =>
  obtain⟨n,rfl,I⟩:∃n:Nat,st=n∧n≤9:=by
   unfold qow at m;simp at m;exact⟨st.toNat,by omega,by omega⟩
  have Hm:=qb m;clear m;by_cases q:ev=0
  ·subst q;have e:qw n own 0=n:=by unfold qw;rw[if_neg (by simp)]
   rw[e];clear e;go_enter Tryz.func71,Tryz.ntmps71;go_wp2_with fail;refine(qnq _ (qa Hm)).mono ?_;rintro e w1 ⟨rfl,i⟩;go_wp2;go_ret;exact⟨rfl,i⟩
  ·have D:(ev==0)=false:=by simpa using q
   have F:(0:Int)≤(n:Int):=by omega
   have C:(n:Int)<10:=by omega
   have g:w.cell? ⟨0,(if own then 10 else 0)+n,none⟩=some (.int .i64 (q1m own n)):=E.events _ (by split<;>omega);by_cases o:q1m own n=ev
   ·have e:qw n own ev=n+1:=by unfold qw;rw[if_pos ⟨qa Hm,q,by simpa using o⟩]
    rw[e];clear e q;have z:(q1m own n != ev)=false:=by simpa using o
    clear o;cases own<;>simp only[if_true,if_false,Bool.false_eq_true,Nat.zero_add] at g
    all_goals
     generalize q1m _ n=x at *
     go_enter Tryz.func71,Tryz.ntmps71;go_wp2_with fail;refine(qnq _ (qa Hm)).mono ?_;rintro e w1 ⟨rfl,i⟩;have l:=i.cell g;go_wp2_with fail;refine(qia _ _).mono ?_;rintro e H ⟨rfl,t⟩;have v:=t.cell l;unfold q22;go_wp2;go_ret;exact⟨rfl,i.trans t⟩
   ·have e:qw n own ev=n:=by unfold qw;rw[if_neg (by simp;intro _ _;simpa using o)]
    rw[e];clear e q;have z:(q1m own n != ev)=true:=by simpa using o
    clear o;cases own<;>simp only[if_true,if_false,Bool.false_eq_true,Nat.zero_add] at g
    all_goals
     generalize q1m _ n=x at *
     go_enter Tryz.func71,Tryz.ntmps71;go_wp2_with fail;refine(qnq _ (qa Hm)).mono ?_;rintro e w1 ⟨rfl,i⟩;have l:=i.cell g;go_wp2_with fail;refine(qia _ _).mono ?_;rintro e H ⟨rfl,t⟩;have v:=t.cell l;unfold q22;go_wp2;go_ret;exact⟨rfl,i.trans t⟩
set_option maxRecDepth 100000 in
set_option maxHeartbeats 400000 in
theorem qzs(st:Int)(own:Bool)(w:World)(m:Spans w):Calls Tryz.prog 98 #[.int .i64 st,.bool own] w (qbr (.bool (qus st own)) w):=by
 have o:=m.spans 0 (by omega);have q:=m.spans 1 (by omega);have t:=m.spans 2 (by omega);have v:=m.spans 3 (by omega);simp only[qsw,List.getD_cons_zero,List.getD_cons_succ] at o q t v;cases own
 ·have e:qus st false=(decide (1≤st)&&decide (st≤7)):=rfl;rw[e];by_cases l:1≤st
  ·have g:decide (1≤st)=true:=by simpa using l
   rw[g,Bool.true_and];clear e g;go_enter Tryz.func98,Tryz.ntmps98;go_wp2_with fail;refine(qia _ _).mono ?_;rintro e w1 ⟨rfl,i⟩;have z:=i.cell o;have C:=i.cell q;unfold q22;go_wp2;go_ret;exact⟨rfl,(i.upd _).alloc _⟩
  ·have g:decide (1≤st)=false:=by simpa using l
   rw[g,Bool.false_and];clear e l;go_enter Tryz.func98,Tryz.ntmps98;go_wp2_with fail;refine(qia _ _).mono ?_;rintro e w1 ⟨rfl,i⟩;have z:=i.cell o;have C:=i.cell q;unfold q22;go_wp2;go_ret;exact⟨rfl,(i.upd _).alloc _⟩
 ·have e:qus st true=(decide (3≤st)&&decide (st≤5)):=rfl;rw[e];by_cases l:3≤st
  ·have g:decide (3≤st)=true:=by simpa using l
   rw[g,Bool.true_and];clear e g;go_enter Tryz.func98,Tryz.ntmps98;go_wp2_with fail;refine(qia _ _).mono ?_;rintro e w1 ⟨rfl,i⟩;have z:=i.cell t;have C:=i.cell v;unfold q22;go_wp2;go_ret;exact⟨rfl,(i.upd _).alloc _⟩
  ·have g:decide (3≤st)=false:=by simpa using l
   rw[g,Bool.false_and];clear e l;go_enter Tryz.func98,Tryz.ntmps98;go_wp2_with fail;refine(qia _ _).mono ?_;rintro e w1 ⟨rfl,i⟩;have z:=i.cell t;have C:=i.cell v;unfold q22;go_wp2;go_ret;exact⟨rfl,(i.upd _).alloc _⟩
set_option maxRecDepth 100000 in
set_option maxHeartbeats 400000 in
theorem q3l(st:Int)(own:Bool)(w:World)(g:Spans w):Calls Tryz.prog 99 #[.int .i64 st,.bool own] w (qbr (.bool (qus st !own)) w):=by
 go_enter Tryz.func99,Tryz.ntmps99;go_wp2_with fail;refine(qzs _ _ _ g).mono ?_;rintro e w1 ⟨rfl,i⟩;go_wp2;go_ret;exact⟨rfl,i⟩
set_option maxRecDepth 100000 in
set_option maxHeartbeats 400000 in
theorem qtu(st:Int)(own:Bool)(b:Nat)(w:World)(i:Spans w)(o:w.cell? ⟨b,0,none⟩=some (.int .i64 st)) :
  Calls Tryz.prog 115 #[.bool own,.pointer (some ⟨b,0,none⟩)] w (qce (.bool (qwr st own)) w):=by
 have l:=i.spans 1 (by omega)
 have m:=i.spans 3 (by omega)
 simp only[qsw,List.getD_cons_zero,List.getD_cons_succ] at l m
 cases g:qow st with
 | false =>
  have e:qwr st own=false:=by unfold qwr;rw[g];rfl
  rw[e];have Hm:=qb g;clear e g;go_enter Tryz.func115,Tryz.ntmps115;go_wp2_with fail;go_quiet ((go_at_call 90;exact Calls.quiet_of (qum _ (qa Hm))));go_wp2;go_ret;exact⟨rfl,Q.drewN _ _⟩
 | true =>
  have e:qwr st own=decide (hiI own<st):=by unfold qwr;rw[g];rfl
  rw[e];have Hm:=qb g;clear e g;cases own
  all_goals
   go_enter Tryz.func115,Tryz.ntmps115;go_wp2_with fail;go_quiet ((first | (go_at_call 90;exact Calls.quiet_of (qnq _ (qa Hm))) | (go_at_call 91;exact Calls.quiet_of (q7s _)) | (go_at_call 91;exact Calls.quiet_of (zbw _))));go_wp2;go_ret;exact⟨rfl,Q.drewN _ _⟩
set_option maxRecDepth 100000 in
set_option maxHeartbeats 400000 in
theorem qpv(st:Int)(own:Bool)(w:World)(i:Spans w) :
  Calls Tryz.prog 97 #[.int .i64 st,.bool own] w (qbr (.tuple #[.bool (qwr st own),.bool (qwr st !own)]) w):=by
 go_enter Tryz.func97,Tryz.ntmps97
 go_wp2_with fail
 refine(qtu st own w.heap.size _ (i.new ((Upd.refl _ _).alloc _)) (qh (qi _ _) 0)).mono ?_
 rintro e w1 ⟨rfl,g⟩
 go_wp2_with fail
 refine(qtu st (!own) w.heap.size _ ((i.new ((Upd.refl _ _).alloc _)).q g) (g.cell (qh (qi _ _) 0))).mono ?_
 rintro e m ⟨rfl,l⟩
 go_wp2
 go_ret2
 exact⟨rfl,((Upd.refl _ _).alloc _).trans ((g.trans l).upd _)⟩
def qcx(ours own:Bool)(st:Int):Bool:=if ours then qus st own else qus st !own
def qen(ours own:Bool)(st:Int):Bool:=if ours then qwr st own else qwr st !own
set_option maxHeartbeats 400000 in
theorem q7i(ours own:Bool)(st:Int)(C:Array Value)(w:World)(E:Spans w)(l:C[35]? = some (.bool own))(m:C[36]? = some (.int .i64 st)) :
  Calls Tryz.prog 76 #[.bool ours,.agg C] w (qbr (.tuple #[.bool (qcx ours own st),.bool (qen ours own st)]) w):=by
 have g:Spans (w.alloc (.cells C 56)):=E.new ((Upd.refl _ _).alloc _)
 have q:(w.alloc (.cells C 56)).cell? ⟨w.heap.size,35,none⟩=some (.bool own):=(qh (qi _ _) 35).trans l
 have t:(w.alloc (.cells C 56)).cell? ⟨w.heap.size,36,none⟩=some (.int .i64 st):=(qh (qi _ _) 36).trans m
 have v:qu w (w.alloc (.cells C 56)):=(Upd.refl _ _).alloc _
 cases ours
 ·go_enter Tryz.func76,Tryz.ntmps76;go_wp2_with fail;refine(qpv st own _ g).mono ?_;rintro e w1 ⟨rfl,i⟩;have z:=i.cell q (fun h=>h);have D:=i.cell t (fun h=>h);go_wp2_with fail;refine(q3l st own _ (g.new i)).mono ?_;rintro e F ⟨rfl,o⟩;go_wp2;go_ret2;exact⟨rfl,v.trans (i.trans o)⟩
 ·go_enter Tryz.func76,Tryz.ntmps76;go_wp2_with fail;refine(qpv st own _ g).mono ?_;rintro e w1 ⟨rfl,i⟩;have z:=i.cell q (fun h=>h);have D:=i.cell t (fun h=>h);go_wp2_with fail;refine(qzs st own _ (g.new i)).mono ?_;rintro e F ⟨rfl,o⟩;go_wp2;go_ret2;exact⟨rfl,v.trans (i.trans o)⟩
end Go.Proofs.YthnohmjbbeahmaaGreatDoor
namespace Go.Proofs.YthnohmjbbeahmaaGreatDoor
open Go.RowKit Go.Sort
def G(w w':World):Prop:=∃q os,w'=grow (w.drewN q) os
theorem G.refl(w:World):G w w:=⟨0,#[],by rw[grow_empty];rfl⟩
theorem q1y(w:World)(os:Array Obj)(n:Nat):(grow w os).drewN n=grow (w.drewN n) os:=rfl
theorem G.trans{a b c:World}(h:G a b)(k:G b c):G a c:=by
 obtain⟨q,os,rfl⟩:=h;obtain⟨r,g,rfl⟩:=k;exact⟨q+r,os++g,by rw[q1y,World.drewN_drewN,grow_grow]⟩
theorem G.drewN{a b:World}(h:G a b)(n:Nat):G a (b.drewN n):=h.trans ⟨n,#[],by rw[grow_empty]⟩
theorem G.drew{a b:World}(h:G a b):G a b.drew:=h.drewN 1
theorem G.alloc{a b:World}(h:G a b)(o:Obj):G a (b.alloc o):=h.trans ⟨0,#[o],alloc_eq_grow b o⟩
theorem Q.g{a b:World}(h:Q a b):G a b:=by
 obtain⟨n,rfl⟩:=h;exact(G.refl a).drewN n
theorem G.new{a b:World}(h:G a b):qu a b:=by
 obtain⟨q,os,rfl⟩:=h;refine⟨rfl,rfl,rfl,by simp,fun k g _=> ?_⟩;show (a.heap++os)[k]? = _;rw[Array.getElem?_append_left g]
def q3q(v:Value)(w:World)(e:Ending)(w':World):Prop:=e = .returned v∧G w w'
def qjr(x y:Int):Int:=if x<y then -1 else if y<x then 1 else 0
theorem zdi{x y:Int}(h:x<y):qjr x y = -1:=by unfold qjr;rw[if_pos h]
theorem zdh{x y:Int}(h:y<x):qjr x y=1:=by unfold qjr;rw[if_neg (by omega),if_pos h]
theorem zdg(x:Int):qjr x x=0:=by unfold qjr;rw[if_neg (by omega),if_neg (by omega)]
set_option maxHeartbeats 400000 in
theorem qg9(x:Int)(w:World):Calls Tryz.prog 135 #[.int .u64 x] w (qce (.bool false) w):=by
 go_enter Tryz.func135,Tryz.ntmps135;go_wp2;go_ret;exact⟨rfl,Q.refl _⟩
set_option maxHeartbeats 400000 in
theorem qqb(x y:Int)(w:World):Calls Tryz.prog 118 #[.int .u64 x,.int .u64 y] w (qce (.int .i64 (qjr x y)) w):=by
 rcases (by omega:x<y∨y<x∨x=y) with h | h | h
 ·rw[zdi h];go_enter Tryz.func118,Tryz.ntmps118;go_wp2_with fail;refine(qg9 _ _).mono ?_;rintro e w1 ⟨rfl,g⟩;go_wp2_with fail;refine(qg9 _ _).mono ?_;rintro e l ⟨rfl,i⟩;go_wp2;go_ret;exact⟨rfl,g.trans i⟩
 ·rw[zdh h];go_enter Tryz.func118,Tryz.ntmps118;go_wp2_with fail;refine(qg9 _ _).mono ?_;rintro e w1 ⟨rfl,g⟩;go_wp2_with fail;refine(qg9 _ _).mono ?_;rintro e l ⟨rfl,i⟩;go_wp2;go_ret;exact⟨rfl,g.trans i⟩
 ·subst h;rw[zdg];go_enter Tryz.func118,Tryz.ntmps118;go_wp2_with fail;refine(qg9 _ _).mono ?_;rintro e w1 ⟨rfl,g⟩;go_wp2_with fail;refine(qg9 _ _).mono ?_;rintro e l ⟨rfl,i⟩;go_wp2;go_ret;exact⟨rfl,g.trans i⟩
def qvw(a b c d:Int):Int:=if qjr a b≠0 then qjr a b else qjr c d
set_option maxHeartbeats 800000 in
theorem qx9(a b c d:Int)(g:Nat)(w:World)(I:w.cell? ⟨g,0,none⟩=some (.int .u64 a))(J:w.cell? ⟨g,1,none⟩=some (.int .u64 b))(K:w.cell? ⟨g,2,none⟩=some (.int .u64 c))(L:w.cell? ⟨g,3,none⟩=some (.int .u64 d)) :
  Calls Tryz.prog 101 #[.slice (some ⟨g,0,none⟩) 2 2] w (q3q (.int .i64 (qvw a b c d)) w):=by
 go_enter Tryz.func101,Tryz.ntmps101
 go_wp2_with fail
 go_loopw [8] (fun i wr=>∃k:Nat,i = .int .i64 k∧k≤2∧(1≤k→Hid (qjr a b=0))∧(2≤k→Hid (qjr c d=0))∧G w wr) (fun i _=>2-(intOf i).toNat)
 case atStart=>exact⟨0,rfl,by omega,by omega,by omega,G.refl _⟩
 case round =>
  obtain⟨k,rfl,R,v,z,q⟩:=hrel;have M:=q.new.cell I (fun h=>h);have N:=q.new.cell J (fun h=>h);have O:=q.new.cell K (fun h=>h);have P:=q.new.cell L (fun h=>h);rcases (by omega:k=0∨k=1∨k=2) with rfl | rfl | rfl
  ·clear v z;by_cases l:qjr a b=0
   ·have H:=qb (qqb a b);have C:=qb l;rw[l] at H;clear l;go_wp2_with fail;refine(qa H _).mono ?_;rintro e w1 ⟨rfl,t⟩;go_wp2;go_roundw
    case rel=>exact⟨1,by go_num,by omega,fun _=>C,by omega,(q.alloc _).trans t.g⟩
    case measure=>simp[intOf]
   ·have F:(qjr a b != 0)=true:=by simpa using l
    have o:qvw a b c d=qjr a b:=by unfold qvw;rw[if_pos l]
    have E:=qb o;clear l o;go_wp2_with fail;refine(qqb a b _).mono ?_;rintro e w1 ⟨rfl,t⟩;go_wp2;go_ret;exact⟨by rw[qa E];rfl,(q.alloc _).trans t.g⟩
  ·have m:=v (by omega);clear v z;have o:qvw a b c d=qjr c d:=by unfold qvw;rw[if_neg (by simpa using qa m)]
   by_cases l:qjr c d=0
   ·have H:=qb (qqb c d);have C:=qb l;rw[l] at H;clear l o;go_wp2_with fail;refine(qa H _).mono ?_;rintro e w1 ⟨rfl,t⟩;go_wp2;go_roundw
    case rel=>exact⟨2,by go_num,by omega,fun _=>m,fun _=>C,(q.alloc _).trans t.g⟩
    case measure=>simp[intOf]
   ·have F:(qjr c d != 0)=true:=by simpa using l
    have E:=qb o;clear l o;go_wp2_with fail;refine(qqb c d _).mono ?_;rintro e w1 ⟨rfl,t⟩;go_wp2;go_ret;exact⟨by rw[qa E];rfl,(q.alloc _).trans t.g⟩
  ·have m:=v (by omega);have D:=z (by omega);clear v z;have o:qvw a b c d=0:=by unfold qvw;rw[if_neg (by simpa using qa m)];exact qa D
   have E:=qb o;clear o;go_wp2;go_ret;exact⟨by rw[qa E];rfl,q⟩
def qf8(offered:Bool):Int:=if offered then 0 else 1
set_option maxHeartbeats 400000 in
theorem qsj(o:Bool)(C:Array Value)(w:World)(g:C[0]? = some (.bool o)):Calls Tryz.prog 94 #[.agg C] w (q3q (.int .u64 (qf8 o)) w):=by
 have i:(w.alloc (.cells C 146)).cell? ⟨w.heap.size,0,none⟩=some (.bool o):=(qh (qi _ _) 0).trans g;cases o
 all_goals
  go_enter Tryz.func94,Tryz.ntmps94;go_wp2;go_ret;exact⟨rfl,(G.refl _).alloc _⟩
theorem Tryz.infoItem:(Tryz.prog.info? 146).map (·.size)=some 36:=by kernel_rfl
def zap(x:Value):Sem Value:=Instr.loadAt 146 x
theorem qg2(x:Value):Instr.loadAt 146 x=zap x:=rfl
theorem qqh(b o:Nat)(w:World):(zap (.pointer (some ⟨b,o,none⟩))).run Tryz.prog w=match zm w b o 36 with | some A=> .ok (.agg A) w | none=>qek Tryz.prog 146 w b o :=
 qae 146 36 _ Tryz.underlying146 rfl Tryz.infoItem b o w
attribute [local go_sem ↓ high] qg2
attribute [local go_sem] qqh
theorem qxa{w w':World}{b o n:Nat}{A:Array Value}(h:zm w b o n=some A)(g:G w w'):zm w' b o n=some A:=qa9 h g.new (fun h=>h)
theorem qtv{w W i:World}{a b:Nat}{A B:Array Value}{x y:Value}(h:zm W a 0 36=some A∧zm W b 0 36=some B∧W.cell? ⟨a,1,none⟩=some x∧W.cell? ⟨b,1,none⟩=some y∧G w W)(g:G W i) :
  zm i a 0 36=some A∧zm i b 0 36=some B∧i.cell? ⟨a,1,none⟩=some x∧i.cell? ⟨b,1,none⟩=some y∧G w i :=
 ⟨qxa h.1 g,qxa h.2.1 g,g.new.cell h.2.2.1 (fun h=>h),g.new.cell h.2.2.2.1 (fun h=>h),h.2.2.2.2.trans g⟩
def zhh(l m:Bool)(g i:Int):Int:=qvw (qf8 l) (qf8 m) g i
set_option maxHeartbeats 1600000 in
theorem q7e(l m:Bool)(g i:Int)(A B:Array Value)(w:World)(z:A.size=36)(C:B.size=36)
  (a0:A[0]? = some (.bool l)) (a1:A[1]? = some (.int .u64 g)) (b0:B[0]? = some (.bool m)) (b1:B[1]? = some (.int .u64 i)) :
  Calls Tryz.prog 78 #[.agg A,.agg B] w (q3q (.int .i64 (zhh l m g i)) w):=by
 have o:((w.alloc (.cells A 146)).alloc (.cells B 146)).heap[w.heap.size]? = some (.cells A 146 (0,0)):=zj (qi _ _) _
 have q:((w.alloc (.cells A 146)).alloc (.cells B 146)).heap[w.heap.size+1]? = some (.cells B 146 (0,0)):=by
  have:=qi (w.alloc (.cells A 146)) (.cells B 146);rwa [World.size_alloc] at this
 have E:G w ((w.alloc (.cells A 146)).alloc (.cells B 146)):=((G.refl w).alloc _).alloc _
 have ra:=qad o 36 z
 have rb:=qad q 36 C
 have t:=(qh o 1).trans a1
 have v:=(qh q 1).trans b1
 clear o q
 go_enter Tryz.func78,Tryz.ntmps78
 go_wp2_with fail
 generalize ((w.alloc (.cells A 146)).alloc (.cells B 146))=wa at *
 go_region_held3 (fun w'=>zm w' w.heap.size 0 36=some A∧zm w' (w.heap.size+1) 0 36=some B∧w'.cell? ⟨w.heap.size,1,none⟩=some (.int .u64 g)∧w'.cell? ⟨w.heap.size+1,1,none⟩=some (.int .u64 i)∧G w w')
  (first | exact⟨ra,rb,t,v,E.drew⟩ | (refine qtv ?_ (by assumption);first | assumption | exact⟨by assumption,by assumption,by assumption,by assumption,by assumption⟩) | (refine qtv ?_ ((G.refl _).alloc _);first | assumption | exact⟨by assumption,by assumption,by assumption,by assumption,by assumption⟩))
  (first
   | (go_at_call_of 94 (Value.agg A);refine(qsj l A _ a0).mono ?_;rintro e J ⟨rfl,F⟩)
   | (go_at_call_of 94 (Value.agg B);refine(qsj m B _ b0).mono ?_;rintro e K ⟨rfl,H⟩)
   | (go_at_call 101;refine(qx9 (qf8 l) (qf8 m) g i _ _ (qh (qi _ _) 0) (qh (qi _ _) 1) (qh (qi _ _) 2) (qh (qi _ _) 3)).mono ?_;rintro e L ⟨rfl,I⟩))
 go_wp2
 go_ret
 have D:= ‹zm _ _ _ _=some A∧zm _ _ _ _=some B∧_›
 exact⟨rfl,D.2.2.2.2⟩
end Go.Proofs.YthnohmjbbeahmaaGreatDoor
namespace Go.Proofs.YthnohmjbbeahmaaGreatDoor
open Go.RowKit Go.Sort
instance:Inhabited Htlc:=⟨⟨0,0,Vector.replicate 32 0,0⟩⟩
instance:Inhabited Item:=⟨⟨false,default⟩⟩
def qdr(w:World)(g off:Nat)(xs:List Item):Prop :=
 ∃C T,w.heap[g]? = some (.cells C T (0,0))∧off+xs.length*36≤C.size∧∀i,i<xs.length→∀j,j<36→C[off+i*36+j]? = (zf xs[i]!)[j]?
theorem qdr.row{w:World}{g off:Nat}{xs:List Item}(h:qdr w g off xs){i:Nat}(m:i<xs.length):zm w g (off+i*36) 36=some (zf xs[i]!).toArray:=by
 obtain⟨C,T,o,v,q⟩:=h;have l:off+i*36+36≤C.size:=by have:=Nat.mul_le_mul_right 36 (show i+1≤xs.length from m);omega
 rw[qbz o _ _ l];congr 1;apply Array.ext';apply List.ext_getElem?;intro j;rw[Array.getElem?_toList,Array.getElem?_extract];by_cases t:j<36
 ·rw[if_pos (by omega),q i m j t]
 ·rw[if_neg (by omega),List.getElem?_eq_none (by rw[qco];omega)]
theorem qdr.ok{w:World}{g off:Nat}{xs:List Item}(h:qdr w g off xs){i:Nat}(o:i<xs.length)(y:Item):stOk w g (off+i*36) 36 (zf y).toArray=true:=by
 obtain⟨C,T,m,t,q⟩:=h;have l:off+i*36+36≤C.size:=by have:=Nat.mul_le_mul_right 36 (show i+1≤xs.length from o);omega
 exact qf3 m l (by rw[List.size_toArray,qco]) (by rw[List.all_toArray,List.all_eq_true];exact qrz y)
theorem qdr.set{w:World}{g off:Nat}{xs:List Item}(h:qdr w g off xs){i:Nat}(t:i<xs.length)(y:Item):qdr (w.setCells g (off+i*36) (zf y)) g off (xs.set i y):=by
 obtain⟨C,T,o,z,q⟩:=h;have m:off+i*36+36≤C.size:=by have:=Nat.mul_le_mul_right 36 (show i+1≤xs.length from t);omega
 refine⟨_,T,qa2 o _ _,by rw[qmr,List.length_set];exact z,fun k l j v=> ?_⟩;rw[List.length_set] at l;rw[qha _ _ _ _ (by rw[qco];exact m),qco];by_cases e:i=k
 ·subst e;rw[if_pos (by omega),show off+i*36+j-(off+i*36)=j by omega];simp[l]
 ·rw[if_neg ?_,q k l j v]
  ·rw[List.getElem!_eq_getElem?_getD,List.getElem!_eq_getElem?_getD,List.getElem?_set_ne e]
  ·rcases Nat.lt_or_gt_of_ne e with h | h
   ·have:=Nat.mul_le_mul_right 36 (show i+1≤k from h);omega
   ·have:=Nat.mul_le_mul_right 36 (show k+1≤i from h);omega
theorem qdr.upd{S:Nat→Prop}{w w':World}{g off:Nat}{xs:List Item}(h:qdr w g off xs)(u:Upd S w w')(l:¬S g):qdr w' g off xs:=by
 obtain⟨C,T,i,r⟩:=h;exact⟨C,T,u.old i l,r⟩
theorem qdr.drewN{w:World}{g off:Nat}{xs:List Item}(h:qdr w g off xs)(n:Nat):qdr (w.drewN n) g off xs:=h
theorem qdr.drew{w:World}{g off:Nat}{xs:List Item}(h:qdr w g off xs):qdr w.drew g off xs:=h
theorem qdr.lt{w:World}{g off:Nat}{xs:List Item}(h:qdr w g off xs):g<w.heap.size:=by
 obtain⟨C,T,i,r⟩:=h;exact z6 i
def zcq(xs:List Item)(i j:Nat):List Item:=(xs.set i xs[j]!).set j xs[i]!
theorem qdr.swap{w:World}{g off:Nat}{xs:List Item}(h:qdr w g off xs){i j:Nat}(l:i<xs.length)(m:j<xs.length) :
  qdr ((w.setCells g (off+i*36) (zf xs[j]!)).setCells g (off+j*36) (zf xs[i]!)) g off (zcq xs i j) :=
 (h.set l _).set (by rw[List.length_set];exact m) _
def zcg(x v:Value):Sem Unit:=Instr.storeAt 146 x v
theorem qn9(x v:Value):Instr.storeAt 146 x v=zcg x v:=rfl
theorem q4y(b o:Nat)(A:Array Value)(w:World):(zcg (.pointer (some ⟨b,o,none⟩)) (.agg A)).run Tryz.prog w=if stOk w b o 36 A=true then .ok () (w.setCells b o A.toList) else qf2 Tryz.prog 146 w b o A :=
 qax 146 36 Tryz.infoItem b o A w
attribute [local go_sem ↓ high] qg2 qn9
attribute [local go_sem] qqh q4y
end Go.Proofs.YthnohmjbbeahmaaGreatDoor
namespace Go.Proofs.YthnohmjbbeahmaaGreatDoor
open Go.RowKit Go.Sort
def cf(x y:Item):Int:=zhh x.offered y.offered x.h.id y.h.id
def kl(x y:Item):Prop:=qf8 x.offered<qf8 y.offered∨(qf8 x.offered=qf8 y.offered∧x.h.id<y.h.id)
theorem zh5(x y:Item):cf x y<0↔kl x y:=by
 unfold cf zhh qvw qjr kl;generalize qf8 x.offered=a;generalize qf8 y.offered=b;generalize x.h.id=c;generalize y.h.id=d;split<;>split<;>(try split)<;>(try split)<;>omega
def lt'(p q:Item × Nat):Prop:=kl p.1 q.1∨(¬kl q.1 p.1∧p.2<q.2)
theorem qiy{p q r:Item × Nat}(h:lt' p q)(k:lt' q r):lt' p r:=by unfold lt' kl at *;omega
theorem q2h(p:Item × Nat):¬lt' p p:=by unfold lt' kl;omega
abbrev Srt(l:List (Item × Nat)):Prop:=l.Pairwise lt'
def ze4(A B:List (Item × Nat)):Prop:=∀p∈A,∀q∈B,lt' p q
theorem qsx{A B:List (Item × Nat)} : Srt (A++B)↔Srt A∧Srt B∧ze4 A B:=List.pairwise_append
theorem qma{A B:List (Item × Nat)}(w:Srt A)(z:Srt B)(h:∀p q,A.getLast? = some p→B.head? = some q→lt' p q):ze4 A B:=by
 intro p i q o;cases B with
 | nil=>cases o
 | cons b B =>
  obtain⟨a,t⟩:∃a,A.getLast? = some a:=by
   cases v:A.getLast? with
   | none=>rw[List.getLast?_eq_none_iff] at v;subst v;cases i
   | some a=>exact⟨a,rfl⟩
  have g:=h a b t rfl;have l:p=a∨lt' p a:=by
   obtain⟨C,rfl⟩:=List.getLast?_eq_some_iff.1 t;rcases List.mem_append.1 i with i | i
   ·exact .inr ((List.pairwise_append.1 w).2.2 p i a (List.mem_singleton.2 rfl))
   ·exact .inl (List.mem_singleton.1 i)
  have m:q=b∨lt' b q:=by
   rcases List.mem_cons.1 o with rfl | o
   ·exact .inl rfl
   ·exact .inr ((List.pairwise_cons.1 z).1 q o)
  rcases l with rfl | l<;>rcases m with rfl | m
  ·exact g
  ·exact qiy g m
  ·exact qiy l g
  ·exact qiy l (qiy g m)
def Low(A B:List (Item × Nat)):Prop:=∀p∈A,∀q∈B,p.2<q.2
theorem q6p{y:Item × Nat}{l m:List (Item × Nat)}(z:Srt (l++m))(C:Low (l++m) [y])(v:∀p,l.getLast? = some p→¬kl y.1 p.1)(w:∀q,m.head? = some q→kl y.1 q.1):Srt (l++(y::m)):=by
 obtain⟨o,t,F⟩:=qsx.1 z;have D:∀p∈l,lt' p y:=fun p g=>by
  have:=qma (A:=l) (B:=[y]) o (List.pairwise_singleton _ _) (fun p q g i=>by
   simp only[List.head?_cons,Option.some.injEq] at i;subst i;refine .inr ⟨v p g,C p ?_ y (List.mem_singleton.2 rfl)⟩;exact List.mem_append_left _ (List.mem_of_getLast? g))
  exact this p g y (List.mem_singleton.2 rfl)
 have E:∀q∈m,lt' y q:=fun q i=>by
  have:=qma (A:=[y]) (B:=m) (List.pairwise_singleton _ _) t (fun p q g i=>by
   simp only[List.getLast?_singleton,Option.some.injEq] at g;subst g;exact .inl (w q i))
  exact this y (List.mem_singleton.2 rfl) q i
 refine qsx.2 ⟨o,List.pairwise_cons.2 ⟨E,t⟩,fun p g q i=> ?_⟩;rcases List.mem_cons.1 i with rfl | i
 ·exact D p g
 ·exact F p g q i
end Go.Proofs.YthnohmjbbeahmaaGreatDoor
