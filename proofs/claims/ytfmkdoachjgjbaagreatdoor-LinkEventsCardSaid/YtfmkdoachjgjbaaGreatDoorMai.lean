/-
  give, Counts, Closed.
-/
import Derived.Test.YtfmkdoachjgjbaaGreatDoorMag
import Derived.Test.YtfmkdoachjgjbaaGreatDoorRows
import Derived.Test.YtfmkdoachjgjbaaGreatDoorMaa
import Derived.Deep.RegionHeld3
import Derived.Test.YtfmkdoachjgjbaaGreatDoorMaf
import Derived.Sort.Grow
import Derived.BigRegion
import Derived.Great.BuildSlice
set_option linter.unusedVariables false
set_option linter.unusedSimpArgs false
namespace Go.Proofs.YtfmkdoachjgjbaaGreatDoor
open Go.RowKit
def Ch.give(c:Ch)(f:Bool)(n:Int):Ch:=if f then {c with loc:=IntKind.u64.wrap (c.loc+n)} else {c with rem:=IntKind.u64.wrap (c.rem+n)}
theorem qm2(x:Int):0≤IntKind.u64.wrap x∧IntKind.u64.wrap x<18446744073709551616:=by rw[IntKind.wrap_u64];omega
theorem Ch.Ok.give{c:Ch}(h:c.Ok)(f:Bool)(n:Int):(c.give f n).Ok:=by
 unfold Ch.give;split
 ·exact⟨h.s,h.signed,h.heard,h.nextOwn,h.nextTheirs,qm2 _,h.rem,h.xs,h.few,h.shelf,h.news,h.last,h.many⟩
 ·exact⟨h.s,h.signed,h.heard,h.nextOwn,h.nextTheirs,h.loc,qm2 _,h.xs,h.few,h.shelf,h.news,h.last,h.many⟩
set_option maxHeartbeats 1000000 in
theorem q0s(g:Nat)(S:Nat→Prop)(c:Ch)(v z q:Value)(F:Bool)(n:Int)(w:World)(h:ChP w g S c v z q) :
  Calls Tryz.prog 111 #[.pointer (some ⟨g,0,none⟩),.bool F,.int .u64 n] w fun e w'=>e = .returned (.tuple #[])∧ChP w' g S (c.give F n) v z q∧Upd (· = g) w w':=by
 cases F with
 | true =>
  have H:w.cell? ⟨g,45,none⟩=some (.int .u64 c.loc):=h.toR.loc;have J:w.frozen? ⟨g,45,none⟩=false:=qu h.at_ 45;obtain⟨x,f⟩:∃x,x=IntKind.u64.wrap (c.loc+n):=⟨_,rfl⟩;have m:=h.put (i:=45) (x:= .int .u64 x) (c':=c.give true n) (by rw[f];exact qza c v z q h.ok.s.seed _) (h.ok.give true n) rfl rfl rfl;have u:Upd (· = g) w (w.setCell ⟨g,45,none⟩ (.int .u64 x)):=(Upd.refl _ _).set1 45 _;have C:=qb m;have E:=qb u;have L:IntKind.u64.wrap (c.loc+n)=x:=f.symm;clear h m u f;go_enter Tryz.func111,Tryz.ntmps111;go_wp2_with (with_reducible first|(first|refine' tw1 (qh ?_) ?_|refine' tw2 (qh ?_) ?_);rotate_left|refine' tw3 (qh ?_)|rfl|apply tn|refine' tw4 ?_);go_end0;exact⟨rfl,qa C,qa E⟩
 | false =>
  have I:w.cell? ⟨g,46,none⟩=some (.int .u64 c.rem):=h.toR.rem;have K:w.frozen? ⟨g,46,none⟩=false:=qu h.at_ 46;obtain⟨x,f⟩:∃x,x=IntKind.u64.wrap (c.rem+n):=⟨_,rfl⟩;have m:=h.put (i:=46) (x:= .int .u64 x) (c':=c.give false n) (by rw[f];exact qzb c v z q h.ok.s.seed _) (h.ok.give false n) rfl rfl rfl;have u:Upd (· = g) w (w.setCell ⟨g,46,none⟩ (.int .u64 x)):=(Upd.refl _ _).set1 46 _;have C:=qb m;have E:=qb u;have L:IntKind.u64.wrap (c.rem+n)=x:=f.symm;clear h m u f;go_enter Tryz.func111,Tryz.ntmps111;go_wp2_with (with_reducible first|(first|refine' tw1 (qh ?_) ?_|refine' tw2 (qh ?_) ?_);rotate_left|refine' tw3 (qh ?_)|rfl|apply tn|refine' tw4 ?_);go_end0;exact⟨rfl,qa C,qa E⟩
def qo7:List Int:=[1,7,3,5]
def qng:List Int:=[3,4,1,2,0,1,2,3,4,0,1,2,3,4,0,3,4,1,2,0]
structure Spans(w:World):Prop where
 spans:∀i,i<4→w.cell? ⟨2,i,none⟩=some (.int .i64 (qo7.getD i 0))
theorem Spans.q{w w':World}(h:Spans w)(q:Q w w'):Spans w':=⟨fun i f=>q.cell (h.spans i f)⟩
theorem Spans.upd{S:Nat→Prop}{w w':World}(h:Spans w)(u:Upd S w w')(f:¬S 2):Spans w':=⟨fun i m=>u.cell (h.spans i m) f⟩
theorem Spans.new{w w':World}(h:Spans w)(u:qq w w'):Spans w':=h.upd u (fun h=>h)
structure Glob(w:World):Prop where
 events:∀i,i<20→w.cell? ⟨0,i,none⟩=some (.int .i64 (qng.getD i 0))
theorem Glob.q{w w':World}(h:Glob w)(q:Q w w'):Glob w':=⟨fun i f=>q.cell (h.events i f)⟩
theorem Glob.upd{S:Nat→Prop}{w w':World}(h:Glob w)(u:Upd S w w')(f:¬S 0):Glob w':=⟨fun i m=>u.cell (h.events i m) f⟩
theorem Glob.new{w w':World}(h:Glob w)(u:qq w w'):Glob w':=h.upd u (fun h=>h)
def qly(st:Int):Bool:=decide (0≤st)&&decide (st≤9)
theorem q87{st:Int}(f:0≤st)(i:st≤9):qly st=true:=by unfold qly;simp;omega
theorem q58{st:Int}(h:st<0∨9<st):qly st=false:=by unfold qly;simp;omega
def qxw(own:Bool):Int:=if own then 1 else 0
def qwe(own:Bool)(n:Nat):Int:=qng.getD ((if own then 10 else 0)+n) 0
def qcr(st:Int)(own:Bool)(ev:Int):Int:=if qly st=true∧ev≠0∧qwe own st.toNat=ev then st+1 else st
def loI(own:Bool):Int:=if own then 3 else 1
def hiI(own:Bool):Int:=if own then 5 else 7
def qqr(st:Int)(own:Bool):Bool:=decide (loI own≤st)&&decide (st≤hiI own)
def qsi(st:Int)(own:Bool):Bool:=qly st&&decide (hiI own<st)
set_option maxRecDepth 100000 in
set_option maxHeartbeats 400000 in
theorem qy3(st:Int)(w:World):Calls Tryz.prog 185 #[.int .i64 st] w (qa0 (.bool (qly st)) w):=by
 by_cases i:0≤st
 ·by_cases f:st≤9
  ·rw[q87 i f];go_enter Tryz.func185,Tryz.ntmps185;go_wp2;go_ret;exact⟨rfl,Q.refl _⟩
  ·rw[q58 (by omega)];have m:decide (st≤9)=false:=by simpa using f
   go_enter Tryz.func185,Tryz.ntmps185;go_wp2;go_ret;exact⟨rfl,Q.refl _⟩
 ·rw[q58 (by omega)];go_enter Tryz.func185,Tryz.ntmps185;go_wp2;go_ret;exact⟨rfl,Q.refl _⟩
set_option maxRecDepth 100000 in
set_option maxHeartbeats 400000 in
theorem qge(own:Bool)(w:World):Calls Tryz.prog 186 #[.bool own] w (qa0 (.int .i64 (qxw own)) w):=by
 cases own
 ·go_enter Tryz.func186,Tryz.ntmps186;go_wp2;go_ret;exact⟨rfl,Q.refl _⟩
 ·go_enter Tryz.func186,Tryz.ntmps186;go_wp2;go_ret;exact⟨rfl,Q.refl _⟩
theorem q2j(w:World):Calls Tryz.prog 186 #[.bool false] w (qa0 (.int .i64 0) w):=qge false w
theorem q6y(w:World):Calls Tryz.prog 186 #[.bool true] w (qa0 (.int .i64 1) w):=qge true w
theorem qk2{st:Int}(w:World)(h:qly st=true):Calls Tryz.prog 185 #[.int .i64 st] w (qa0 (.bool true) w):=h▸qy3 st w
theorem qqo{st:Int}(w:World)(h:qly st=false):Calls Tryz.prog 185 #[.int .i64 st] w (qa0 (.bool false) w):=h▸qy3 st w
set_option maxRecDepth 100000 in
set_option maxHeartbeats 400000 in
theorem qum(st ev:Int)(own:Bool)(w:World)(J:Glob w):Calls Tryz.prog 154 #[.int .i64 st,.bool own,.int .i64 ev] w (qa0 (.int .i64 (qcr st own ev)) w):=by
 cases q:qly st with
 | false =>
  have e:qcr st own ev=st:=by unfold qcr;rw[if_neg (by rw[q];simp)]
  rw[e];have Hm:=qb q;clear e q;go_enter Tryz.func154,Tryz.ntmps154;go_wp2_with fail;refine(qqo _ (qa Hm)).mono ?_;rintro e w1 ⟨rfl,i⟩;go_wp2;go_ret;exact⟨rfl,i⟩
 | true =>
  obtain⟨n,rfl,M⟩:∃n:Nat,st=n∧n≤9:=by
   unfold qly at q;simp at q;exact⟨st.toNat,by omega,by omega⟩
  have Hm:=qb q;clear q;by_cases z:ev=0
  ·subst z;have e:qcr n own 0=n:=by unfold qcr;rw[if_neg (by simp)]
   rw[e];clear e;go_enter Tryz.func154,Tryz.ntmps154;go_wp2_with fail;refine(qk2 _ (qa Hm)).mono ?_;rintro e w1 ⟨rfl,i⟩;go_wp2;go_ret;exact⟨rfl,i⟩
  ·have I:(ev==0)=false:=by simpa using z
   have K:(0:Int)≤(n:Int):=by omega
   have H:(n:Int)<10:=by omega
   have f:w.cell? ⟨0,(if own then 10 else 0)+n,none⟩=some (.int .i64 (qwe own n)):=J.events _ (by split<;>omega);by_cases v:qwe own n=ev
   ·have e:qcr n own ev=n+1:=by unfold qcr;rw[if_pos ⟨qa Hm,z,by simpa using v⟩]
    rw[e];clear e z;have F:(qwe own n != ev)=false:=by simpa using v
    clear v;cases own<;>simp only[if_true,if_false,Bool.false_eq_true,Nat.zero_add] at f
    all_goals
     generalize qwe _ n=x at *
     go_enter Tryz.func154,Tryz.ntmps154;go_wp2_with fail;refine(qk2 _ (qa Hm)).mono ?_;rintro e w1 ⟨rfl,i⟩;have m:=i.cell f;go_wp2_with fail;refine(qge _ _).mono ?_;rintro e L ⟨rfl,C⟩;have E:=C.cell m;unfold qxw;go_wp2;go_ret;exact⟨rfl,i.trans C⟩
   ·have e:qcr n own ev=n:=by unfold qcr;rw[if_neg (by simp;intro _ _;simpa using v)]
    rw[e];clear e z;have F:(qwe own n != ev)=true:=by simpa using v
    clear v;cases own<;>simp only[if_true,if_false,Bool.false_eq_true,Nat.zero_add] at f
    all_goals
     generalize qwe _ n=x at *
     go_enter Tryz.func154,Tryz.ntmps154;go_wp2_with fail;refine(qk2 _ (qa Hm)).mono ?_;rintro e w1 ⟨rfl,i⟩;have m:=i.cell f;go_wp2_with fail;refine(qge _ _).mono ?_;rintro e L ⟨rfl,C⟩;have E:=C.cell m;unfold qxw;go_wp2;go_ret;exact⟨rfl,i.trans C⟩
set_option maxRecDepth 100000 in
set_option maxHeartbeats 400000 in
theorem qur(st:Int)(own:Bool)(w:World)(q:Spans w):Calls Tryz.prog 191 #[.int .i64 st,.bool own] w (qa5 (.bool (qqr st own)) w):=by
 have v:=q.spans 0 (by omega);have z:=q.spans 1 (by omega);have C:=q.spans 2 (by omega);have E:=q.spans 3 (by omega);simp only[qo7,List.getD_cons_zero,List.getD_cons_succ] at v z C E;cases own
 ·have e:qqr st false=(decide (1≤st)&&decide (st≤7)):=rfl;rw[e];by_cases m:1≤st
  ·have f:decide (1≤st)=true:=by simpa using m
   rw[f,Bool.true_and];clear e f;go_enter Tryz.func191,Tryz.ntmps191;go_wp2_with fail;refine(qge _ _).mono ?_;rintro e w1 ⟨rfl,i⟩;have F:=i.cell v;have H:=i.cell z;unfold qxw;go_wp2;go_ret;exact⟨rfl,(i.upd _).alloc _⟩
  ·have f:decide (1≤st)=false:=by simpa using m
   rw[f,Bool.false_and];clear e m;go_enter Tryz.func191,Tryz.ntmps191;go_wp2_with fail;refine(qge _ _).mono ?_;rintro e w1 ⟨rfl,i⟩;have F:=i.cell v;have H:=i.cell z;unfold qxw;go_wp2;go_ret;exact⟨rfl,(i.upd _).alloc _⟩
 ·have e:qqr st true=(decide (3≤st)&&decide (st≤5)):=rfl;rw[e];by_cases m:3≤st
  ·have f:decide (3≤st)=true:=by simpa using m
   rw[f,Bool.true_and];clear e f;go_enter Tryz.func191,Tryz.ntmps191;go_wp2_with fail;refine(qge _ _).mono ?_;rintro e w1 ⟨rfl,i⟩;have F:=i.cell C;have H:=i.cell E;unfold qxw;go_wp2;go_ret;exact⟨rfl,(i.upd _).alloc _⟩
  ·have f:decide (3≤st)=false:=by simpa using m
   rw[f,Bool.false_and];clear e m;go_enter Tryz.func191,Tryz.ntmps191;go_wp2_with fail;refine(qge _ _).mono ?_;rintro e w1 ⟨rfl,i⟩;have F:=i.cell C;have H:=i.cell E;unfold qxw;go_wp2;go_ret;exact⟨rfl,(i.upd _).alloc _⟩
set_option maxRecDepth 100000 in
set_option maxHeartbeats 400000 in
theorem qya(st:Int)(own:Bool)(w:World)(f:Spans w):Calls Tryz.prog 192 #[.int .i64 st,.bool own] w (qa5 (.bool (qqr st !own)) w):=by
 go_enter Tryz.func192,Tryz.ntmps192;go_wp2_with fail;refine(qur _ _ _ f).mono ?_;rintro e w1 ⟨rfl,i⟩;go_wp2;go_ret;exact⟨rfl,i⟩
set_option maxRecDepth 100000 in
set_option maxHeartbeats 400000 in
theorem qpx(st:Int)(own:Bool)(b:Nat)(w:World)(i:Spans w)(v:w.cell? ⟨b,0,none⟩=some (.int .i64 st)) :
  Calls Tryz.prog 208 #[.bool own,.pointer (some ⟨b,0,none⟩)] w (qa0 (.bool (qsi st own)) w):=by
 have m:=i.spans 1 (by omega)
 have q:=i.spans 3 (by omega)
 simp only[qo7,List.getD_cons_zero,List.getD_cons_succ] at m q
 cases f:qly st with
 | false =>
  have e:qsi st own=false:=by unfold qsi;rw[f];rfl
  rw[e];have Hm:=qb f;clear e f;go_enter Tryz.func208,Tryz.ntmps208;go_wp2_with fail;go_quiet ((go_at_call 185;exact Calls.quiet_of (qqo _ (qa Hm))));go_wp2;go_ret;exact⟨rfl,Q.drewN _ _⟩
 | true =>
  have e:qsi st own=decide (hiI own<st):=by unfold qsi;rw[f];rfl
  rw[e];have Hm:=qb f;clear e f;cases own
  all_goals
   go_enter Tryz.func208,Tryz.ntmps208;go_wp2_with fail;go_quiet ((first | (go_at_call 185;exact Calls.quiet_of (qk2 _ (qa Hm))) | (go_at_call 186;exact Calls.quiet_of (q2j _)) | (go_at_call 186;exact Calls.quiet_of (q6y _))));go_wp2;go_ret;exact⟨rfl,Q.drewN _ _⟩
set_option maxRecDepth 100000 in
set_option maxHeartbeats 400000 in
theorem qmv(st:Int)(own:Bool)(w:World)(i:Spans w) :
  Calls Tryz.prog 190 #[.int .i64 st,.bool own] w (qa5 (.tuple #[.bool (qsi st own),.bool (qsi st !own)]) w):=by
 go_enter Tryz.func190,Tryz.ntmps190
 go_wp2_with fail
 refine(qpx st own w.heap.size _ (i.new ((Upd.refl _ _).alloc _)) (qg (qj _ _) 0)).mono ?_
 rintro e w1 ⟨rfl,f⟩
 go_wp2_with fail
 refine(qpx st (!own) w.heap.size _ ((i.new ((Upd.refl _ _).alloc _)).q f) (f.cell (qg (qj _ _) 0))).mono ?_
 rintro e v ⟨rfl,m⟩
 go_wp2
 go_ret2
 exact⟨rfl,((Upd.refl _ _).alloc _).trans ((f.trans m).upd _)⟩
def qm7(ours own:Bool)(st:Int):Bool:=if ours then qqr st own else qqr st !own
def qku(ours own:Bool)(st:Int):Bool:=if ours then qsi st own else qsi st !own
set_option maxHeartbeats 400000 in
theorem q1x(ours own:Bool)(st:Int)(C:Array Value)(w:World)(J:Spans w)(m:C[35]? = some (.bool own))(q:C[36]? = some (.int .i64 st)) :
  Calls Tryz.prog 159 #[.bool ours,.agg C] w (qa5 (.tuple #[.bool (qm7 ours own st),.bool (qku ours own st)]) w):=by
 have f:Spans (w.alloc (.cells C 69)):=J.new ((Upd.refl _ _).alloc _)
 have z:(w.alloc (.cells C 69)).cell? ⟨w.heap.size,35,none⟩=some (.bool own):=(qg (qj _ _) 35).trans m
 have E:(w.alloc (.cells C 69)).cell? ⟨w.heap.size,36,none⟩=some (.int .i64 st):=(qg (qj _ _) 36).trans q
 have F:qq w (w.alloc (.cells C 69)):=(Upd.refl _ _).alloc _
 cases ours
 ·go_enter Tryz.func159,Tryz.ntmps159;go_wp2_with fail;refine(qmv st own _ f).mono ?_;rintro e w1 ⟨rfl,i⟩;have H:=i.cell z (fun h=>h);have I:=i.cell E (fun h=>h);go_wp2_with fail;refine(qya st own _ (f.new i)).mono ?_;rintro e K ⟨rfl,v⟩;go_wp2;go_ret2;exact⟨rfl,F.trans (i.trans v)⟩
 ·go_enter Tryz.func159,Tryz.ntmps159;go_wp2_with fail;refine(qmv st own _ f).mono ?_;rintro e w1 ⟨rfl,i⟩;have H:=i.cell z (fun h=>h);have I:=i.cell E (fun h=>h);go_wp2_with fail;refine(qur st own _ (f.new i)).mono ?_;rintro e K ⟨rfl,v⟩;go_wp2;go_ret2;exact⟨rfl,F.trans (i.trans v)⟩
end Go.Proofs.YtfmkdoachjgjbaaGreatDoor
namespace Go.Proofs.YtfmkdoachjgjbaaGreatDoor
open Go.RowKit Go.Sort
def G(w w':World):Prop:=∃q os,w'=grow (w.drewN q) os
theorem G.refl(w:World):G w w:=⟨0,#[],by rw[grow_empty];rfl⟩
theorem qwo(w:World)(os:Array Obj)(n:Nat):(grow w os).drewN n=grow (w.drewN n) os:=rfl
theorem G.trans{a b c:World}(h:G a b)(k:G b c):G a c:=by
 obtain⟨q,os,rfl⟩:=h;obtain⟨r,f,rfl⟩:=k;exact⟨q+r,os++f,by rw[qwo,World.drewN_drewN,grow_grow]⟩
theorem G.drewN{a b:World}(h:G a b)(n:Nat):G a (b.drewN n):=h.trans ⟨n,#[],by rw[grow_empty]⟩
theorem G.drew{a b:World}(h:G a b):G a b.drew:=h.drewN 1
theorem G.alloc{a b:World}(h:G a b)(o:Obj):G a (b.alloc o):=h.trans ⟨0,#[o],alloc_eq_grow b o⟩
theorem Q.g{a b:World}(h:Q a b):G a b:=by
 obtain⟨n,rfl⟩:=h;exact(G.refl a).drewN n
theorem G.new{a b:World}(h:G a b):qq a b:=by
 obtain⟨q,os,rfl⟩:=h;refine⟨rfl,rfl,rfl,by simp,fun k f _=> ?_⟩;show (a.heap++os)[k]? = _;rw[Array.getElem?_append_left f]
def qyi(v:Value)(w:World)(e:Ending)(w':World):Prop:=e = .returned v∧G w w'
def qhm(x y:Int):Int:=if x<y then -1 else if y<x then 1 else 0
theorem q8k{x y:Int}(h:x<y):qhm x y = -1:=by unfold qhm;rw[if_pos h]
theorem q8j{x y:Int}(h:y<x):qhm x y=1:=by unfold qhm;rw[if_neg (by omega),if_pos h]
theorem q8i(x:Int):qhm x x=0:=by unfold qhm;rw[if_neg (by omega),if_neg (by omega)]
set_option maxHeartbeats 400000 in
theorem qfk(x:Int)(w:World):Calls Tryz.prog 222 #[.int .u64 x] w (qa0 (.bool false) w):=by
 go_enter Tryz.func222,Tryz.ntmps222;go_wp2;go_ret;exact⟨rfl,Q.refl _⟩
set_option maxHeartbeats 400000 in
theorem qnd(x y:Int)(w:World):Calls Tryz.prog 211 #[.int .u64 x,.int .u64 y] w (qa0 (.int .i64 (qhm x y)) w):=by
 rcases (by omega:x<y∨y<x∨x=y) with h | h | h
 ·rw[q8k h];go_enter Tryz.func211,Tryz.ntmps211;go_wp2_with fail;refine(qfk _ _).mono ?_;rintro e w1 ⟨rfl,f⟩;go_wp2_with fail;refine(qfk _ _).mono ?_;rintro e m ⟨rfl,i⟩;go_wp2;go_ret;exact⟨rfl,f.trans i⟩
 ·rw[q8j h];go_enter Tryz.func211,Tryz.ntmps211;go_wp2_with fail;refine(qfk _ _).mono ?_;rintro e w1 ⟨rfl,f⟩;go_wp2_with fail;refine(qfk _ _).mono ?_;rintro e m ⟨rfl,i⟩;go_wp2;go_ret;exact⟨rfl,f.trans i⟩
 ·subst h;rw[q8i];go_enter Tryz.func211,Tryz.ntmps211;go_wp2_with fail;refine(qfk _ _).mono ?_;rintro e w1 ⟨rfl,f⟩;go_wp2_with fail;refine(qfk _ _).mono ?_;rintro e m ⟨rfl,i⟩;go_wp2;go_ret;exact⟨rfl,f.trans i⟩
def qr0(a b c d:Int):Int:=if qhm a b≠0 then qhm a b else qhm c d
set_option maxHeartbeats 800000 in
theorem qtj(a b c d:Int)(g:Nat)(w:World)(L:w.cell? ⟨g,0,none⟩=some (.int .u64 a))(M:w.cell? ⟨g,1,none⟩=some (.int .u64 b))(N:w.cell? ⟨g,2,none⟩=some (.int .u64 c))(O:w.cell? ⟨g,3,none⟩=some (.int .u64 d)) :
  Calls Tryz.prog 194 #[.slice (some ⟨g,0,none⟩) 2 2] w (qyi (.int .i64 (qr0 a b c d)) w):=by
 go_enter Tryz.func194,Tryz.ntmps194
 go_wp2_with fail
 go_loopw [8] (fun i wr=>∃k:Nat,i = .int .i64 k∧k≤2∧(1≤k→Hid (qhm a b=0))∧(2≤k→Hid (qhm c d=0))∧G w wr) (fun i _=>2-(intOf i).toNat)
 case atStart=>exact⟨0,rfl,by omega,by omega,by omega,G.refl _⟩
 case round =>
  obtain⟨k,rfl,U,C,F,v⟩:=hrel;have P:=v.new.cell L (fun h=>h);have R:=v.new.cell M (fun h=>h);have S:=v.new.cell N (fun h=>h);have T:=v.new.cell O (fun h=>h);rcases (by omega:k=0∨k=1∨k=2) with rfl | rfl | rfl
  ·clear C F;by_cases f:qhm a b=0
   ·have H:=qb (qnd a b);have I:=qb f;rw[f] at H;clear f;go_wp2_with fail;refine(qa H _).mono ?_;rintro e w1 ⟨rfl,z⟩;go_wp2;go_roundw
    case rel=>exact⟨1,by go_num,by omega,fun _=>I,by omega,(v.alloc _).trans z.g⟩
    case measure=>simp[intOf]
   ·have K:(qhm a b != 0)=true:=by simpa using f
    have q:qr0 a b c d=qhm a b:=by unfold qr0;rw[if_pos f]
    have E:=qb q;clear f q;go_wp2_with fail;refine(qnd a b _).mono ?_;rintro e w1 ⟨rfl,z⟩;go_wp2;go_ret;exact⟨by rw[qa E];rfl,(v.alloc _).trans z.g⟩
  ·have m:=C (by omega);clear C F;have q:qr0 a b c d=qhm c d:=by unfold qr0;rw[if_neg (by simpa using qa m)]
   by_cases f:qhm c d=0
   ·have H:=qb (qnd c d);have I:=qb f;rw[f] at H;clear f q;go_wp2_with fail;refine(qa H _).mono ?_;rintro e w1 ⟨rfl,z⟩;go_wp2;go_roundw
    case rel=>exact⟨2,by go_num,by omega,fun _=>m,fun _=>I,(v.alloc _).trans z.g⟩
    case measure=>simp[intOf]
   ·have K:(qhm c d != 0)=true:=by simpa using f
    have E:=qb q;clear f q;go_wp2_with fail;refine(qnd c d _).mono ?_;rintro e w1 ⟨rfl,z⟩;go_wp2;go_ret;exact⟨by rw[qa E];rfl,(v.alloc _).trans z.g⟩
  ·have m:=C (by omega);have J:=F (by omega);clear C F;have q:qr0 a b c d=0:=by unfold qr0;rw[if_neg (by simpa using qa m)];exact qa J
   have E:=qb q;clear q;go_wp2;go_ret;exact⟨by rw[qa E];rfl,v⟩
def qe6(offered:Bool):Int:=if offered then 0 else 1
set_option maxHeartbeats 400000 in
theorem qow(o:Bool)(C:Array Value)(w:World)(f:C[0]? = some (.bool o)):Calls Tryz.prog 188 #[.agg C] w (qyi (.int .u64 (qe6 o)) w):=by
 have i:(w.alloc (.cells C 254)).cell? ⟨w.heap.size,0,none⟩=some (.bool o):=(qg (qj _ _) 0).trans f;cases o
 all_goals
  go_enter Tryz.func188,Tryz.ntmps188;go_wp2;go_ret;exact⟨rfl,(G.refl _).alloc _⟩
theorem Tryz.infoItem:(Tryz.prog.info? 254).map (·.size)=some 36:=by kernel_rfl
def q5y(x:Value):Sem Value:=Instr.loadAt 254 x
theorem qfd(x:Value):Instr.loadAt 254 x=q5y x:=rfl
theorem qno(b o:Nat)(w:World):(q5y (.pointer (some ⟨b,o,none⟩))).run Tryz.prog w=match zg w b o 36 with | some A=> .ok (.agg A) w | none=>qdh Tryz.prog 254 w b o :=
 qae 254 36 _ Tryz.underlying254 rfl Tryz.infoItem b o w
attribute [local go_sem ↓ high] qfd
attribute [local go_sem] qno
theorem qsq{w w':World}{b o n:Nat}{A:Array Value}(h:zg w b o n=some A)(g:G w w'):zg w' b o n=some A:=qav h g.new (fun h=>h)
theorem qp0{w W f:World}{a b:Nat}{A B:Array Value}{x y:Value}(h:zg W a 0 36=some A∧zg W b 0 36=some B∧W.cell? ⟨a,1,none⟩=some x∧W.cell? ⟨b,1,none⟩=some y∧G w W)(g:G W f) :
  zg f a 0 36=some A∧zg f b 0 36=some B∧f.cell? ⟨a,1,none⟩=some x∧f.cell? ⟨b,1,none⟩=some y∧G w f :=
 ⟨qsq h.1 g,qsq h.2.1 g,g.new.cell h.2.2.1 (fun h=>h),g.new.cell h.2.2.2.1 (fun h=>h),h.2.2.2.2.trans g⟩
def zby(oa ob:Bool)(f i:Int):Int:=qr0 (qe6 oa) (qe6 ob) f i
set_option maxHeartbeats 1600000 in
theorem q1t(oa ob:Bool)(f i:Int)(A B:Array Value)(w:World)(C:A.size=36)(E:B.size=36)
  (a0:A[0]? = some (.bool oa)) (a1:A[1]? = some (.int .u64 f)) (b0:B[0]? = some (.bool ob)) (b1:B[1]? = some (.int .u64 i)) :
  Calls Tryz.prog 161 #[.agg A,.agg B] w (qyi (.int .i64 (zby oa ob f i)) w):=by
 have m:((w.alloc (.cells A 254)).alloc (.cells B 254)).heap[w.heap.size]? = some (.cells A 254 (0,0)):=qs (qj _ _) _
 have q:((w.alloc (.cells A 254)).alloc (.cells B 254)).heap[w.heap.size+1]? = some (.cells B 254 (0,0)):=by
  have:=qj (w.alloc (.cells A 254)) (.cells B 254);rwa [World.size_alloc] at this
 have H:G w ((w.alloc (.cells A 254)).alloc (.cells B 254)):=((G.refl w).alloc _).alloc _
 have ra:=qat m 36 C
 have rb:=qat q 36 E
 have v:=(qg m 1).trans a1
 have z:=(qg q 1).trans b1
 clear m q
 go_enter Tryz.func161,Tryz.ntmps161
 go_wp2_with fail
 generalize ((w.alloc (.cells A 254)).alloc (.cells B 254))=wa at *
 go_region_held3 (fun w'=>zg w' w.heap.size 0 36=some A∧zg w' (w.heap.size+1) 0 36=some B∧w'.cell? ⟨w.heap.size,1,none⟩=some (.int .u64 f)∧w'.cell? ⟨w.heap.size+1,1,none⟩=some (.int .u64 i)∧G w w')
  (first | exact⟨ra,rb,v,z,H.drew⟩ | (refine qp0 ?_ (by assumption);first | assumption | exact⟨by assumption,by assumption,by assumption,by assumption,by assumption⟩) | (refine qp0 ?_ ((G.refl _).alloc _);first | assumption | exact⟨by assumption,by assumption,by assumption,by assumption,by assumption⟩))
  (first
   | (go_at_call_of 188 (Value.agg A);refine(qow oa A _ a0).mono ?_;rintro e L ⟨rfl,I⟩)
   | (go_at_call_of 188 (Value.agg B);refine(qow ob B _ b0).mono ?_;rintro e M ⟨rfl,J⟩)
   | (go_at_call 194;refine(qtj (qe6 oa) (qe6 ob) f i _ _ (qg (qj _ _) 0) (qg (qj _ _) 1) (qg (qj _ _) 2) (qg (qj _ _) 3)).mono ?_;rintro e N ⟨rfl,K⟩))
 go_wp2
 go_ret
 have F:= ‹zg _ _ _ _=some A∧zg _ _ _ _=some B∧_›
 exact⟨rfl,F.2.2.2.2⟩
end Go.Proofs.YtfmkdoachjgjbaaGreatDoor
namespace Go.Proofs.YtfmkdoachjgjbaaGreatDoor
open Go.RowKit Go.Sort
instance:Inhabited Htlc:=⟨⟨0,0,Vector.replicate 32 0,0⟩⟩
instance:Inhabited Item:=⟨⟨false,default⟩⟩
def qc0(w:World)(g off:Nat)(xs:List Item):Prop :=
 ∃C T,w.heap[g]? = some (.cells C T (0,0))∧off+xs.length*36≤C.size∧∀i,i<xs.length→∀j,j<36→C[off+i*36+j]? = (zl xs[i]!)[j]?
theorem qc0.row{w:World}{g off:Nat}{xs:List Item}(h:qc0 w g off xs){i:Nat}(m:i<xs.length):zg w g (off+i*36) 36=some (zl xs[i]!).toArray:=by
 obtain⟨C,T,q,E,v⟩:=h;have f:off+i*36+36≤C.size:=by have:=Nat.mul_le_mul_right 36 (show i+1≤xs.length from m);omega
 rw[qbt q _ _ f];congr 1;apply Array.ext';apply List.ext_getElem?;intro j;rw[Array.getElem?_toList,Array.getElem?_extract];by_cases z:j<36
 ·rw[if_pos (by omega),v i m j z]
 ·rw[if_neg (by omega),List.getElem?_eq_none (by rw[qcb];omega)]
theorem qc0.ok{w:World}{g off:Nat}{xs:List Item}(h:qc0 w g off xs){i:Nat}(q:i<xs.length)(y:Item):stOk w g (off+i*36) 36 (zl y).toArray=true:=by
 obtain⟨C,T,m,z,v⟩:=h;have f:off+i*36+36≤C.size:=by have:=Nat.mul_le_mul_right 36 (show i+1≤xs.length from q);omega
 exact qdu m f (by rw[List.size_toArray,qcb]) (by rw[List.all_toArray,List.all_eq_true];exact qol y)
theorem qc0.set{w:World}{g off:Nat}{xs:List Item}(h:qc0 w g off xs){i:Nat}(z:i<xs.length)(y:Item):qc0 (w.setCells g (off+i*36) (zl y)) g off (xs.set i y):=by
 obtain⟨C,T,q,F,v⟩:=h;have m:off+i*36+36≤C.size:=by have:=Nat.mul_le_mul_right 36 (show i+1≤xs.length from z);omega
 refine⟨_,T,qa8 q _ _,by rw[qon,List.length_set];exact F,fun k f j E=> ?_⟩;rw[List.length_set] at f;rw[qgy _ _ _ _ (by rw[qcb];exact m),qcb];by_cases e:i=k
 ·subst e;rw[if_pos (by omega),show off+i*36+j-(off+i*36)=j by omega];simp[f]
 ·rw[if_neg ?_,v k f j E]
  ·rw[List.getElem!_eq_getElem?_getD,List.getElem!_eq_getElem?_getD,List.getElem?_set_ne e]
  ·rcases Nat.lt_or_gt_of_ne e with h | h
   ·have:=Nat.mul_le_mul_right 36 (show i+1≤k from h);omega
   ·have:=Nat.mul_le_mul_right 36 (show k+1≤i from h);omega
theorem qc0.upd{S:Nat→Prop}{w w':World}{g off:Nat}{xs:List Item}(h:qc0 w g off xs)(u:Upd S w w')(i:¬S g):qc0 w' g off xs:=by
 obtain⟨C,T,f,r⟩:=h;exact⟨C,T,u.old f i,r⟩
theorem qc0.drewN{w:World}{g off:Nat}{xs:List Item}(h:qc0 w g off xs)(n:Nat):qc0 (w.drewN n) g off xs:=h
theorem qc0.drew{w:World}{g off:Nat}{xs:List Item}(h:qc0 w g off xs):qc0 w.drew g off xs:=h
theorem qc0.lt{w:World}{g off:Nat}{xs:List Item}(h:qc0 w g off xs):g<w.heap.size:=by
 obtain⟨C,T,f,r⟩:=h;exact zr f
def q7i(xs:List Item)(i j:Nat):List Item:=(xs.set i xs[j]!).set j xs[i]!
theorem qc0.swap{w:World}{g off:Nat}{xs:List Item}(h:qc0 w g off xs){i j:Nat}(f:i<xs.length)(m:j<xs.length) :
  qc0 ((w.setCells g (off+i*36) (zl xs[j]!)).setCells g (off+j*36) (zl xs[i]!)) g off (q7i xs i j) :=
 (h.set f _).set (by rw[List.length_set];exact m) _
def q7b(x v:Value):Sem Unit:=Instr.storeAt 254 x v
theorem qlk(x v:Value):Instr.storeAt 254 x v=q7b x v:=rfl
theorem qzd(b o:Nat)(A:Array Value)(w:World):(q7b (.pointer (some ⟨b,o,none⟩)) (.agg A)).run Tryz.prog w=if stOk w b o 36 A=true then .ok () (w.setCells b o A.toList) else qed Tryz.prog 254 w b o A :=
 qau 254 36 Tryz.infoItem b o A w
attribute [local go_sem ↓ high] qfd qlk
attribute [local go_sem] qno qzd
end Go.Proofs.YtfmkdoachjgjbaaGreatDoor
namespace Go.Proofs.YtfmkdoachjgjbaaGreatDoor
open Go.RowKit Go.Sort
def cf(x y:Item):Int:=zby x.offered y.offered x.h.id y.h.id
def kl(x y:Item):Prop:=qe6 x.offered<qe6 y.offered∨(qe6 x.offered=qe6 y.offered∧x.h.id<y.h.id)
theorem zcj(x y:Item):cf x y<0↔kl x y:=by
 unfold cf zby qr0 qhm kl;generalize qe6 x.offered=a;generalize qe6 y.offered=b;generalize x.h.id=c;generalize y.h.id=d;split<;>split<;>(try split)<;>(try split)<;>omega
def lt'(p q:Item × Nat):Prop:=kl p.1 q.1∨(¬kl q.1 p.1∧p.2<q.2)
theorem qgz{p q r:Item × Nat}(h:lt' p q)(k:lt' q r):lt' p r:=by unfold lt' kl at *;omega
theorem qxf(p:Item × Nat):¬lt' p p:=by unfold lt' kl;omega
abbrev Srt(l:List (Item × Nat)):Prop:=l.Pairwise lt'
def q90(A B:List (Item × Nat)):Prop:=∀p∈A,∀q∈B,lt' p q
theorem qo8{A B:List (Item × Nat)} : Srt (A++B)↔Srt A∧Srt B∧q90 A B:=List.pairwise_append
theorem qjr{A B:List (Item × Nat)}(F:Srt A)(H:Srt B)(h:∀p q,A.getLast? = some p→B.head? = some q→lt' p q):q90 A B:=by
 intro p i q z;cases B with
 | nil=>cases z
 | cons b B =>
  obtain⟨a,C⟩:∃a,A.getLast? = some a:=by
   cases E:A.getLast? with
   | none=>rw[List.getLast?_eq_none_iff] at E;subst E;cases i
   | some a=>exact⟨a,rfl⟩
  have f:=h a b C rfl;have m:p=a∨lt' p a:=by
   obtain⟨I,rfl⟩:=List.getLast?_eq_some_iff.1 C;rcases List.mem_append.1 i with i | i
   ·exact .inr ((List.pairwise_append.1 F).2.2 p i a (List.mem_singleton.2 rfl))
   ·exact .inl (List.mem_singleton.1 i)
  have v:q=b∨lt' b q:=by
   rcases List.mem_cons.1 z with rfl | z
   ·exact .inl rfl
   ·exact .inr ((List.pairwise_cons.1 H).1 q z)
  rcases m with rfl | m<;>rcases v with rfl | v
  ·exact f
  ·exact qgz f v
  ·exact qgz m f
  ·exact qgz m (qgz f v)
def Low(A B:List (Item × Nat)):Prop:=∀p∈A,∀q∈B,p.2<q.2
theorem q05{y:Item × Nat}{m v:List (Item × Nat)}(E:Srt (m++v))(F:Low (m++v) [y])(z:∀p,m.getLast? = some p→¬kl y.1 p.1)(C:∀q,v.head? = some q→kl y.1 q.1):Srt (m++(y::v)):=by
 obtain⟨s1,s2,J⟩:=qo8.1 E;have H:∀p∈m,lt' p y:=fun p f=>by
  have:=qjr (A:=m) (B:=[y]) s1 (List.pairwise_singleton _ _) (fun p q f i=>by
   simp only[List.head?_cons,Option.some.injEq] at i;subst i;refine .inr ⟨z p f,F p ?_ y (List.mem_singleton.2 rfl)⟩;exact List.mem_append_left _ (List.mem_of_getLast? f))
  exact this p f y (List.mem_singleton.2 rfl)
 have I:∀q∈v,lt' y q:=fun q i=>by
  have:=qjr (A:=[y]) (B:=v) (List.pairwise_singleton _ _) s2 (fun p q f i=>by
   simp only[List.getLast?_singleton,Option.some.injEq] at f;subst f;exact .inl (C q i))
  exact this y (List.mem_singleton.2 rfl) q i
 refine qo8.2 ⟨s1,List.pairwise_cons.2 ⟨I,s2⟩,fun p f q i=> ?_⟩;rcases List.mem_cons.1 i with rfl | i
 ·exact H p f
 ·exact J p f q i
attribute [local go_sem ↓ high] qfd qlk
attribute [local go_sem] qno qzd
theorem qz4(x y:Item)(w:World):Calls Tryz.prog 161 #[.agg (zl x).toArray,.agg (zl y).toArray] w (qyi (.int .i64 (cf x y)) w) :=
 q1t x.offered y.offered x.h.id y.h.id _ _ w (by rw[List.size_toArray,qcb]) (by rw[List.size_toArray,qcb]) (by rw[List.getElem?_toArray];rfl) (by rw[List.getElem?_toArray];rfl) (by rw[List.getElem?_toArray];rfl) (by rw[List.getElem?_toArray];rfl)
abbrev q0a:Value:= .func (.func 161) #[] #[]
theorem qrk(P:List Item)(x:Item)(R:List Item)(n:Nat)(h:n=P.length):(P++(x::R))[n]! = x:=by
 subst h;rw[List.getElem!_eq_getElem?_getD,List.getElem?_append_right (Nat.le_refl _),Nat.sub_self];rfl
theorem q2v(L:List Item)(x y:Item)(R:List Item):q7i (L++(x::(y::R))) (L.length+1) L.length=L++(y::(x::R)):=by
 have f:(L++(x::(y::R)))[L.length]! = x:=qrk L x _ _ rfl;have i:(L++(x::(y::R)))[L.length+1]! = y:=by
  have:=qrk (L++[x]) y R (L.length+1) (by simp);rwa [List.append_assoc] at this
 unfold q7i;rw[f,i];rw[List.set_append_right _ _ (by omega),List.set_append_right _ _ (by omega)];simp
theorem q38{w W f:World}{g i m:Nat}{A B:Array Value}(h:zg W g i 36=some A∧zg W g m 36=some B∧G w W)(k:G W f):zg f g i 36=some A∧zg f g m 36=some B∧G w f :=
 ⟨qsq h.1 k,qsq h.2.1 k,h.2.2.trans k⟩
theorem qc0.g{w w':World}{b off:Nat}{xs:List Item}(h:qc0 w b off xs)(k:G w w'):qc0 w' b off xs:=h.upd k.new (fun h=>h)
theorem q7p{L:List Item}{x y:Item}{R:List Item}{q:Nat}(f:L.length=q):(L++(y::(x::R)))[q]! = y∧(L++(y::(x::R)))[q+1]! = x∧q+1<(L++(y::(x::R))).length:=by
 refine⟨qrk _ _ _ _ f.symm,?_,by simp;omega⟩;have:=qrk (L++[y]) x R (q+1) (by simp;omega);rwa [List.append_assoc] at this
theorem qvo{w:World}{g off:Nat}{L:List Item}{x y:Item}{R:List Item}{q:Nat}(z:L.length=q)(h:qc0 w g off (L++(y::(x::R)))) :
  zg w g (off+(q+1)*36) 36=some (zl x).toArray∧zg w g (off+q*36) 36=some (zl y).toArray:=by
 obtain⟨f,m,v⟩:=q7p (x:=x) (y:=y) (R:=R) z
 constructor
 ·have:=h.row v;rwa [m] at this
 ·have:=h.row (i:=q) (by omega);rwa [f] at this
theorem zdb{w:World}{g off:Nat}{L:List Item}{x y:Item}{R:List Item}{q:Nat}(i:L.length=q)(h:qc0 w g off (L++(y::(x::R)))) :
  stOk w g (off+(q+1)*36) 36 (zl y).toArray=true∧stOk (w.setCells g (off+(q+1)*36) (zl y)) g (off+q*36) 36 (zl x).toArray=true ∧
  qc0 ((w.setCells g (off+(q+1)*36) (zl y)).setCells g (off+q*36) (zl x)) g off (L++(x::(y::R))):=by
 obtain⟨v,z,f⟩:=q7p (x:=x) (y:=y) (R:=R) i
 refine⟨h.ok f y,(h.set f y).ok (by rw[List.length_set];omega) x,?_⟩
 have:=h.swap f (show q<_ by omega)
 rw[v,z] at this
 have m:=q2v L y x R
 rw[i] at m
 rwa [m] at this
abbrev its(L:List (Item × Nat)):List Item:=L.map Prod.fst
abbrev qvr(L:List (Item × Nat)):Prop:=L.Pairwise (fun p q=>p.2<q.2)
set_option maxHeartbeats 4000000 in
theorem qpo(g off cap:Nat)(P S:List Item)(L:List (Item × Nat))(hL:qvr L)(N:Nat)(hN:P.length+(L.length+S.length)=N)(hm:N≤4611686018427387904)(a b:Int)(ha:a=P.length)(hb:b=P.length+L.length)
  (w:World) (h:qc0 w g off (P++(its L++S))) :
  Calls Tryz.prog 209 #[.slice (some ⟨g,off,none⟩) N cap,.int .i64 a,.int .i64 b,q0a] w fun e w'=>e = .returned (.tuple #[])∧Upd (· = g) w w'∧∃M,M.Perm L∧Srt M∧qc0 w' g off (P++(its M++S)):=by
 have a0:0≤a:=by omega
 have a1:a≤4611686018427387904:=by omega
 have b0:0≤b:=by omega
 have b1:b≤4611686018427387904:=by omega
 have HA:=qb ha
 have HB:=qb hb
 have HN:=qb hN
 have HL:=qb hL
 clear ha hb hN hL
 go_enter Tryz.func209,Tryz.ntmps209
 go_wp2_with fail
 go_loopw [8] (fun iv wr=>∃(M L1 L2:List (Item × Nat)) (n:Int),iv = .int .i64 n∧Hid (n=a+M.length∨(n=a+1∧L=[]∧M=[]))∧Hid (L=L1++L2)∧Hid (M.Perm L1)∧Srt M∧0≤n∧n≤b+1∧Upd (· = g) w wr∧qc0 wr g off (P++(its M++(its L2++S)))) (fun iv _=>(b+1-intOf iv).toNat)
 case atStart =>
  cases L with
  | nil=>exact⟨[],[],[],a+1,rfl,qb (.inr ⟨rfl,rfl,rfl⟩),qb rfl,qb (List.Perm.refl _),List.Pairwise.nil,by omega,by have i:=qa HB;have E:=qa HA;rw[List.length_nil] at i;omega,Upd.refl _ _,h⟩
  | cons x L=>exact⟨[x],[x],L,a+1,rfl,qb (.inl rfl),qb rfl,qb (List.Perm.refl _),List.pairwise_singleton _ _,by omega,by have i:=qa HB;have E:=qa HA;rw[List.length_cons] at i;omega,Upd.refl _ _,h⟩
 case round =>
  obtain⟨M,L1,L2,n,rfl,c9,c8,HP,hs,n0,n1,hu,hh⟩:=hrel;have eN:=qa c9;have v:=qa c8;have eP:=(qa HP).length_eq;have eA:=qa HA;have eB:=qa HB;by_cases d8:n<b
  ·obtain⟨x,I,F⟩:∃x I,L2=x::I:=by
    cases L2 with
    | nil =>
     exfalso;rw[List.append_nil] at v;rw[v] at eB;rcases eN with e | ⟨e,e2,_⟩
     ·omega
     ·rw[e2] at v;rw[←v] at eB;simp at eB;omega
    | cons x I=>exact⟨x,I,rfl⟩
   have en:n=a+M.length:=by
    rcases eN with e | ⟨_,e,_⟩
    ·exact e
    ·rw[e,F] at v;simp at v
   have d3:=qb (show Low M [x] from by
    intro p hp q hq;rw[List.mem_singleton.1 hq];have hr:=qa HL;rw[v,F] at hr;exact(List.pairwise_append.1 hr).2.2 p ((qa HP).mem_iff.1 hp) x List.mem_cons_self)
   have b9:=qb F;have c3:qc0 wr g off (P++(its M++(x.1::(its I++S)))):=by rw[F] at hh;simpa using hh
   have a6:=qb en;have b6:=qb v;have d6:=qb eP;have c5:n=P.length+M.length:=by omega
   have c0:=qb c5;have c2:P.length+(M.length+(1+(I.length+S.length)))=N:=by
    have:=qa HN;rw[v,F,List.length_append,List.length_cons] at this;omega
   have c1:=qb c2;have b2:n≤4611686018427387904:=by omega
   clear hh eN v eP eA eB F en c5 c2;obtain⟨wo,rfl⟩:∃wo:World,wo=wr:=⟨_,rfl⟩;go_wp2_with fail
   go_loopw [9] (fun jv wr=>∃(J K:List (Item × Nat)) (j:Int),jv = .int .i64 j∧Hid (j=P.length+J.length)∧Hid (M=J++K)∧(∀q,K.head? = some q→kl x.1 q.1)∧a≤j∧j≤n∧Upd (· = g) w wr∧qc0 wr g off (P++(its J++(x.1::(its K++(its I++S)))))) (fun jv _=>(intOf jv).toNat)
   case atStart=>exact⟨M,[],n,rfl,c0,qb (by simp),(fun q hq=>by simp at hq),by have:=qa a6;omega,Int.le_refl _,hu,by simpa using c3⟩
   case round =>
    obtain⟨J,K,j,rfl,HJ,f,hq,ja,jn,b3,C⟩:=hrel;clear c3;have Y:(∀p,J.getLast? = some p→¬kl x.1 p.1)→Srt (J++(x::K)):=fun i =>
     q05 (by rw[←qa f];exact hs) (by rw[←qa f];exact qa d3) i hq
    have U:=qb Y;have HQ:=qb hq;clear Y hq;rcases List.eq_nil_or_concat J with H | ⟨V,y,H⟩
    ·have e1:j=a:=by have i:=qa HJ;have E:=qa HA;rw[H] at i;simp at i;omega
     have e2:decide (a<j)=false:=decide_eq_false (by omega);have O:=qb H;clear H e1;go_wp2_with fail;go_quiet (fail);go_wp2;go_roundw
     case rel =>
      refine⟨J++(x::K),L1++[x],I,n+1,by go_num,qb (.inl ?_),qb ?_,qb ?_,qa U (fun p hp=>by rw[qa O] at hp;cases hp),by omega,by omega,b3.drewN _,?_⟩
      ·have i:=qa a6;have E:=congrArg List.length (qa f);rw[List.length_append] at E;rw[List.length_append,List.length_cons];omega
      ·rw[qa b6,qa b9];simp
      ·have i:=qa HP;rw[qa f] at i;exact(List.perm_middle.trans (List.Perm.cons x i)).trans (List.perm_append_comm (l₁:=[x]))
      ·have:=C.drewN nq;simpa [List.append_assoc] using this
     case measure=>simp[intOf];omega
    ·have m:J=V++[y]:=by rw[H,List.concat_eq_append]
     have c4:j=P.length+V.length+1:=by have i:=qa HJ;rw[m,List.length_append] at i;simp at i;omega
     have e4:a<j:=by have E:=qa HA;omega
     obtain⟨q,rfl⟩:∃q:Nat,j=(q:Int)+1:=⟨P.length+V.length,by omega⟩;have c6:q=P.length+V.length:=by omega
     have d9:(q:Int)+1<(N:Int):=by have i:=qa c1;have E:=congrArg List.length (qa f);rw[List.length_append,m,List.length_append] at E;simp at E;omega
     have R:qc0 wr g off ((P++its V)++(y.1::(x.1::(its K++(its I++S))))):=by rw[m] at C;simpa [List.append_assoc] using C
     have d5:((P++its V)++(y.1::(x.1::(its K++(its I++S))))).length=N:=by
      have i:=qa c1;have E:=congrArg List.length (qa f);rw[List.length_append,m,List.length_append] at E;simp at E ⊢;omega
     have T:(P++its V).length=q:=by simp;omega
     obtain⟨r1,r0⟩:=qvo T R.drew;have X:=fun(W:World) (k:G wr W)=>And.intro (qvo T (R.g k).drew) (zdb T (R.g k).drew)
     have O:=qb m;have b4:=qb X;have a7:=qz4 x.1 y.1;have a8:=zcj x.1 y.1;generalize hc:cf x.1 y.1=c at a7 a8;have b5:=qb a7;have b8:=qb a8;have d7:=qb c4;have d2:=qb c6;have c7:=qb C;clear H m X d5 a7 a8 hc c4 c6 T C R;have e3:IntKind.i64.wrap (q:Int)=(q:Int):=IntWalk.i64_in _ (by omega);have e5:(q:Int)<(N:Int):=by omega
     have p0:(0:Int)≤(q:Int)+1:=by omega
     have e0:((q:Int)+1).toNat=q+1:=by omega
     generalize zl x.1=cx at *
     generalize zl y.1=cy at *
     by_cases d4:c<0
     ·go_wp2_with fail;go_region_held3 (fun w'=>zg w' g (off+(q+1)*36) 36=some cx.toArray∧zg w' g (off+q*36) 36=some cy.toArray∧G wr w')
       (first | exact⟨r1,r0,(G.refl _).drew⟩ | (refine q38 ?_ (by assumption);first | assumption | exact⟨by assumption,by assumption,by assumption⟩))
       ((go_at_call 161;refine(qa b5 _).mono ?_;rintro e w3 ⟨rfl,g3⟩))
      have hS:= ‹zg _ _ _ _=some _∧zg _ _ _ _=some _∧_›;have gw:=hS.2.2;clear hS;go_wp2_with fail;obtain⟨⟨d1,d0⟩,s1,s2,Z⟩:=qa b4 w3 gw;have b7:=qb Z;clear Z r1 r0 g3;go_region;go_wp2;go_roundw
      case rel =>
       refine⟨V,y::K,q,by go_num,qb (qa d2▸by simp),qb (by rw[qa f,qa O];simp),(fun z hz=> ?_),by omega,by omega,((b3.then (gw.new) (fun _ _ h=>h.elim)).drew.setCells _ _).setCells _ _,?_⟩
       ·simp only[List.head?_cons,Option.some.injEq] at hz;subst hz;exact(qa b8).1 d4
       ·have:=qa b7;simpa [List.append_assoc] using this
      case measure=>simp[intOf]
     ·go_wp2_with fail;go_region_held3 (fun w'=>zg w' g (off+(q+1)*36) 36=some cx.toArray∧zg w' g (off+q*36) 36=some cy.toArray∧G wr w')
       (first | exact⟨r1,r0,(G.refl _).drew⟩ | (refine q38 ?_ (by assumption);first | assumption | exact⟨by assumption,by assumption,by assumption⟩))
       ((go_at_call 161;refine(qa b5 _).mono ?_;rintro e w3 ⟨rfl,g3⟩))
      have hS:= ‹zg _ _ _ _=some _∧zg _ _ _ _=some _∧_›;have gw:=hS.2.2;clear hS;go_wp2;go_roundw
      case rel =>
       refine⟨J++(x::K),L1++[x],I,n+1,by go_num,qb (.inl ?_),qb ?_,qb ?_,qa U (fun p hp=> ?_),by omega,by omega,b3.then gw.new (fun _ _ h=>h.elim),?_⟩
       ·have i:=qa a6;have E:=congrArg List.length (qa f);rw[List.length_append] at E;rw[List.length_append,List.length_cons];omega
       ·rw[qa b6,qa b9];simp
       ·have i:=qa HP;rw[qa f] at i;exact(List.perm_middle.trans (List.Perm.cons x i)).trans (List.perm_append_comm (l₁:=[x]))
       ·rw[qa O,List.getLast?_append] at hp;simp at hp;subst hp;exact fun hk=>by have:=(qa b8).2 hk;omega
       ·have:=(qa c7).g gw;simpa [List.append_assoc] using this
      case measure=>simp[intOf];omega
  ·have hM:M.Perm L:=by
    have:L2=[]:=by
     rcases eN with e | ⟨_,e,_⟩
     ·rw[v,List.length_append] at eB;exact List.length_eq_zero_iff.1 (by omega)
     ·rw[e] at v;exact(List.append_eq_nil_iff.1 v.symm).2
    rw[v,this,List.append_nil];exact qa HP
   have C:qc0 wr g off (P++(its M++S)):=by
    have:L2=[]:=by
     have:=hM.length_eq;rw[v,List.length_append] at this;exact List.length_eq_zero_iff.1 (by omega)
    rw[this] at hh;exact hh
   have HM:=qb hM;clear hM eN v eP eA eB hh;go_wp2;go_end0;exact⟨rfl,hu,M,qa HM,hs,C⟩
end Go.Proofs.YtfmkdoachjgjbaaGreatDoor
namespace Go.Proofs.YtfmkdoachjgjbaaGreatDoor
open Go.RowKit Go.Sort
abbrev LI:=List (Item × Nat)
set_option maxRecDepth 100000 in
set_option maxHeartbeats 1600000 in
theorem qx7(g off cap N:Nat)(L:LI)(q:qvr L)(E:L.length=N)(K:N≤19)(w:World)(h:qc0 w g off (its L)) :
  Calls Tryz.prog 193 #[.slice (some ⟨g,off,none⟩) N cap,.int .i64 (N:Int),q0a] w fun e w'=>e = .returned (.tuple #[])∧Upd (· = g) w w'∧∃M,M.Perm L∧Srt M∧qc0 w' g off (its M):=by
 have H:=qb (qpo g off cap [] [] L q N (by simp;omega) (by omega) 0 (N:Int) (by simp) (by simp;omega) w (by simpa using h))
 have f:¬(20:Int)≤(N:Int):=by omega
 have J:¬(20:Int)<(N:Int):=by omega
 clear E q h
 go_enter Tryz.func193,Tryz.ntmps193
 go_wp2_with fail
 go_loopw [7,8] (fun z C wr=>z = .int .i64 0∧C = .int .i64 20∧wr=w) (fun _ _ _=>0)
 case atStart=>exact⟨rfl,rfl,rfl⟩
 case round =>
  obtain⟨rfl,rfl,rfl⟩:=hrel;go_wp2_with fail;refine(qa H).mono ?_;rintro e w1 ⟨rfl,I,M,i,s1,f⟩;have v:=qb (And.intro i (And.intro s1 f));obtain⟨m,rfl⟩:∃m:World,m=w1:=⟨_,rfl⟩;clear i s1 f H;go_wp2_with fail
  go_loopw [6] (fun F wr=>F = .int .i64 20∧wr=m) (fun _ _=>0)
  case atStart=>exact⟨rfl,rfl⟩
  case round =>
   obtain⟨rfl,rfl⟩:=hrel;go_wp2_with fail;go_end0;obtain⟨i,s1,f⟩:=qa v;exact⟨rfl,I,M,i,s1,by simpa using f⟩
theorem q83(X:List Item):its X.zipIdx=X:=by simp[its]
theorem qxv:∀(X:List Item) (k:Nat),qvr (X.zipIdx k):=by
 intro X
 induction X with
 | nil=>intro k;exact List.Pairwise.nil
 | cons x X i =>
  intro k;rw[List.zipIdx_cons];refine List.pairwise_cons.2 ⟨fun p f=> ?_,i _⟩;have:=List.le_snd_of_mem_zipIdx f;omega
theorem qi2(g off cap N:Nat)(X:List Item)(q:X.length=N)(v:N≤19)(w:World)(h:qc0 w g off X) :
  Calls Tryz.prog 160 #[.slice (some ⟨g,off,none⟩) N cap,q0a] w fun e w'=>e = .returned (.tuple #[])∧Upd (· = g) w w'∧∃M,M.Perm X.zipIdx∧Srt M∧qc0 w' g off (its M):=by
 have H:=qb (qx7 g off cap N X.zipIdx (qxv X 0) (by simpa using q) v w (by rw[q83];exact h))
 go_enter Tryz.func160,Tryz.ntmps160
 go_wp2_with fail
 refine(qa H).mono ?_
 rintro e w1 ⟨rfl,z,M,i,s1,m⟩
 have f:=qb (And.intro i s1)
 clear i s1
 go_wp2
 go_end0
 exact⟨rfl,z,M,(qa f).1,(qa f).2,m⟩
theorem q44(X:List Item):(X.flatMap zl).length=X.length*36:=by
 induction X with
 | nil=>rfl
 | cons x X f=>rw[List.flatMap_cons,List.length_append,f,qcb,List.length_cons];omega
theorem q43:∀(X:List Item) (i j:Nat),i<X.length→j<36→(X.flatMap zl)[i*36+j]? = (zl X[i]!)[j]? := by
 intro X
 induction X with
 | nil=>intro i j h;simp at h
 | cons x X q =>
  intro i j f m;rw[List.flatMap_cons];cases i with
  | zero=>rw[List.getElem?_append_left (by rw[qcb];omega),Nat.zero_mul,Nat.zero_add];rfl
  | succ i =>
   rw[List.getElem?_append_right (by rw[qcb];omega),qcb,show (i+1)*36+j-36=i*36+j by omega,q i j (by simpa using f) m];rfl
theorem qsd{w:World}{base:Nat}{v:Value}{n:Nat}{X:List Item}(h:w.ownsRow base 254 36 v n (X.flatMap zl)) :
  n=X.length∧((v = .slice none 0 0∧X=[])∨∃g cap,v = .slice (some ⟨g,0,none⟩) X.length cap∧base≤g∧qc0 w g 0 X):=by
 have q:n=X.length:=by have:=h.1;rw[q44] at this;omega
 refine⟨q,?_⟩
 subst q
 rcases h.2 with ⟨e,z⟩ | ⟨g,cap,f,e,C,F,E,_,J,I⟩
 ·exact .inl ⟨e,List.length_eq_zero_iff.1 z⟩
 ·refine .inr ⟨g,cap,e,C,f,_,F,by have:=Nat.mul_le_mul_right 36 E;omega,fun i m j H=> ?_⟩;rw[Nat.zero_add,←q43 X i j m H,←I,List.getElem?_take,if_pos (by have:=Nat.mul_le_mul_right 36 (show i+1≤X.length from m);omega),Array.getElem?_toList]
set_option maxRecDepth 100000 in
theorem qok(w:World):Calls Tryz.prog 209 #[.slice none 0 0,.int .i64 0,.int .i64 0,q0a] w (qa0 (.tuple #[]) w):=by
 go_enter Tryz.func209,Tryz.ntmps209;go_wp2_with fail
 go_loopw [8] (fun f wr=>f = .int .i64 1∧wr=w) (fun _ _=>0)
 case atStart=>exact⟨rfl,rfl⟩
 case round =>
  obtain⟨rfl,rfl⟩:=hrel;go_wp2;go_end0;exact⟨rfl,0,rfl⟩
set_option maxRecDepth 100000 in
theorem qvi(w:World):Calls Tryz.prog 193 #[.slice none 0 0,.int .i64 0,q0a] w (qa0 (.tuple #[]) w):=by
 go_enter Tryz.func193,Tryz.ntmps193;go_wp2_with fail
 go_loopw [7,8] (fun i m wr=>i = .int .i64 0∧m = .int .i64 20∧wr=w) (fun _ _ _=>0)
 case atStart=>exact⟨rfl,rfl,rfl⟩
 case round =>
  obtain⟨rfl,rfl,rfl⟩:=hrel;go_wp2_with fail;refine(qok _).mono ?_;rintro e w1 ⟨rfl,q⟩;obtain⟨f,rfl⟩:∃f:World,f=w1:=⟨_,rfl⟩;go_wp2_with fail
  go_loopw [6] (fun v wr=>v = .int .i64 20∧wr=f) (fun _ _=>0)
  case atStart=>exact⟨rfl,rfl⟩
  case round =>
   obtain⟨rfl,rfl⟩:=hrel;go_wp2;go_end0;exact⟨rfl,q⟩
theorem qh7(w:World):Calls Tryz.prog 160 #[.slice none 0 0,q0a] w (qa0 (.tuple #[]) w):=by
 go_enter Tryz.func160,Tryz.ntmps160;go_wp2_with fail;refine(qvi _).mono ?_;rintro e w1 ⟨rfl,f⟩;go_wp2;go_end0;exact⟨rfl,f⟩
theorem qtr(Z:List Value):∀(A:List Value) (L:List Value),Z.length=A.length→(A.zipIdx).foldl (fun(cs:Array Value) (c,j)=>cs.setIfInBounds (L.length+j) c) (L++Z).toArray=(L++A).toArray:=by
 intro A L h;have key:∀(A:List Value) (k:Nat) (P Z:List Value),Z.length=A.length→P.length=L.length+k→(A.zipIdx k).foldl (fun(cs:Array Value) (c,j)=>cs.setIfInBounds (L.length+j) c) (P++Z).toArray=(P++A).toArray:=by
  intro A
  induction A with
  | nil=>intro k P Z f _;rw[List.length_eq_zero_iff.1 f];rfl
  | cons a A m =>
   intro k P Z f i;cases Z with
   | nil=>simp at f
   | cons z Z =>
    rw[List.zipIdx_cons,List.foldl_cons];have e:(P++z::Z).toArray.setIfInBounds (L.length+k) a=((P++[a])++Z).toArray:=by
     rw[←i];simp
    show List.foldl _ ((P++z::Z).toArray.setIfInBounds (L.length+k) a) _=_;rw[e,m (k+1) (P++[a]) Z (by simpa using f) (by simp[i];omega)];simp
 have:=key A 0 L Z h rfl;exact this
theorem Tryz.zeroItem:((Tryz.prog.info? 254).map fun i=>i.zero.map fun z=>z.cells.toList)=some (some (.bool false :: .int .u64 0 :: .int .u64 0::(List.replicate 32 (.int .u8 0)++[.int .i64 0]))):=by kernel_rfl
theorem qqh:∃i z,Tryz.prog.info? 254=some i∧i.zero=some z∧z.cells=(.bool false :: .int .u64 0 :: .int .u64 0::(List.replicate 32 (.int .u8 0)++[.int .i64 0])).toArray:=by
 have h:=Tryz.zeroItem;cases m:Tryz.prog.info? 254 with
 | none=>rw[m] at h;simp at h
 | some i =>
  rw[m,Option.map_some,Option.some.injEq] at h;cases f:i.zero with
  | none=>rw[f] at h;simp at h
  | some z =>
   rw[f,Option.map_some,Option.some.injEq] at h;exact⟨i,z,rfl,f,by rw[←h]⟩
theorem qrv{P:Program}{t:TypeId}{v:TypeInfo}{z:Value}{m:Array Field}{places:List (Nat × Nat)}(C:P.info? t=some v)(F:P.underlying t=some (.struct m))(H:v.zero=some z)
  (E:m.toList.mapM (fun f=>(P.info? f.type).map fun i=>(f.offset,i.size))=some places) (q:List (Nat × Value)):P.built t q=Instr.fill (places.toArray[·]?) z.cells q:=by
 unfold Program.built
 rw[C,F]
 simp only[H,E]
theorem qv6(b:Bool)(A:List Value)(h:A.length=35):Tryz.prog.built 254 [(0,.bool b),(1,.agg A.toArray)]=some (.bool b::A).toArray:=by
 obtain⟨i,z,v,C,q⟩:=qqh;rw[qrv (places:=[(0,1),(1,35)]) v Tryz.underlying254 C (by kernel_rfl),q];have m:=qtr (.int .u64 0 :: .int .u64 0::(List.replicate 32 (.int .u8 0)++[.int .i64 0])) A [.bool b] (by rw[h];rfl);have f:(.int .u64 0 :: .int .u64 0::(List.replicate 32 (.int .u8 0)++[.int .i64 0]):List Value).length=35:=rfl;generalize (.int .u64 0 :: .int .u64 0::(List.replicate 32 (.int .u8 0)++[.int .i64 0]):List Value)=Z at m f ⊢;simp[Instr.fill,Value.cells,h,f];exact m
theorem q6x(A:List Value)(h:A.length=36)(w:World):(Instr.buildSlice 199 1 #[(0,.agg A.toArray)]).run Tryz.prog w = .ok (.slice (some ⟨w.heap.size,0,none⟩) 1 1) (w.alloc (.cells A.toArray 254)):=by
 obtain⟨i,z,C,H,F⟩:=qqh;have f:i.size=36:=by have:=Tryz.infoItem;rw[C] at this;simpa using this
 refine run_buildSlice w _ _ 1 _ _ i z Tryz.underlying199 C H (by rw[f];decide) (by rw[f];decide) ?_;rw[f,F];generalize E:Array.map _ _=W;have m:W.toList.length=A.length:=by rw[←E,h];simp
 have v:=qtr W.toList A [] m;have q:W.size=36:=by rw[←h,←m];simp
 simp[Instr.fill,Value.cells,h,q] at v ⊢;exact v
def q3m(p:Array (Nat × Value)):Sem Value:=Instr.build 254 p
theorem qro(p:Array (Nat × Value)):Instr.build 254 p=q3m p:=rfl
theorem q76(b:Bool)(A:List Value)(w:World):(q3m #[(0,.bool b),(1,.agg A.toArray)]).run Tryz.prog w=if A.length=35 then .ok (.agg (.bool b::A).toArray) w else (Instr.build 254 #[(0,.bool b),(1,.agg A.toArray)]).run Tryz.prog w:=by
 by_cases h:A.length=35
 ·rw[if_pos h];exact run_build w _ _ _ (qv6 b A h)
 ·rw[if_neg h];rfl
def q3v(n:Nat)(p:Array (Nat × Value)):Sem Value:=Instr.buildSlice 199 n p
theorem qrs(n:Nat)(p:Array (Nat × Value)):Instr.buildSlice 199 n p=q3v n p:=rfl
theorem q8c(A:List Value)(w:World):(q3v 1 #[(0,.agg A.toArray)]).run Tryz.prog w=if A.length=36 then .ok (.slice (some ⟨w.heap.size,0,none⟩) 1 1) (w.alloc (.cells A.toArray 254)) else (Instr.buildSlice 199 1 #[(0,.agg A.toArray)]).run Tryz.prog w:=by
 by_cases h:A.length=36
 ·rw[if_pos h];exact q6x A h w
 ·rw[if_neg h];rfl
end Go.Proofs.YtfmkdoachjgjbaaGreatDoor
