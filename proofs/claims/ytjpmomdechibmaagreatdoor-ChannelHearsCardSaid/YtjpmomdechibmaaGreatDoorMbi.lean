/-
  Package secret: isNumber, Place, Can.
-/
import Derived.Test.YtjpmomdechibmaaGreatDoorTxt
import Derived.Test.YtjpmomdechibmaaGreatDoorProg
import Derived.Lib.TrailingZeros
import Derived.Laws.Bits64b
import Derived.Test.YtjpmomdechibmaaGreatDoorSec2
import Derived.Test.YtjpmomdechibmaaGreatDoorMbd
set_option linter.unusedVariables false
set_option linter.unusedSimpArgs false
namespace Go.Proofs.YtjpmomdechibmaaGreatDoor
open Go.RowKit
structure Deb(w:World):Prop where
 tab:∀j,j<64→w.cell? ⟨5,j,none⟩=some (.int .u8 (Lib.deBruijn64tab.getD j 0))
theorem Deb.upd{S:Nat→Prop}{w w':World}(h:Deb w)(u:Upd S w w')(f:¬S 5):Deb w':=⟨fun i g=>u.cell (h.tab i g) f⟩
theorem Deb.new{w w':World}(h:Deb w)(u:qx w w'):Deb w':=h.upd u (fun h=>h)
def qco(i:Int):Bool:=decide (0≤i)&&decide (i<65536)
theorem q1e{i:Int}(f:0≤i)(g:i<65536):qco i=true:=by unfold qco;simp;omega
theorem q7e{i:Int}(h:i<0∨65536≤i):qco i=false:=by unfold qco;simp;omega
theorem qm2{i:Int}(h:qco i=true):0≤i∧i<65536:=by unfold qco at h;simpa using h
theorem qkm(i:Int)(w:World):Calls Tryz.prog 79 #[.int .i64 i] w (qci (.bool (qco i)) w):=by
 by_cases g:0≤i
 ·by_cases f:i<65536
  ·rw[q1e g f]
   go_enter Tryz.func79,Tryz.ntmps79
   go_wp2
   go_ret
   exact⟨rfl,Q.refl _⟩
  ·rw[q7e (by omega)]
   have j:decide (i<65536)=false:=by simpa using f
   go_enter Tryz.func79,Tryz.ntmps79
   go_wp2
   go_ret
   exact⟨rfl,Q.refl _⟩
 ·rw[q7e (by omega)]
  go_enter Tryz.func79,Tryz.ntmps79
  go_wp2
  go_ret
  exact⟨rfl,Q.refl _⟩
theorem q4o(x a:Nat)(i:x<18446744073709551616)(f:x &&& (18446744073709551616-x)=a)(j:x≠0) :
  IntKind.u64.wrap (bits BinOp.and IntKind.u64 (x:Int) (IntKind.u64.wrap (-(x:Int)))*285870213051353865) / 288230376151711744=((a*285870213051353865%18446744073709551616 / 288230376151711744:Nat):Int):=by
 have g:IntKind.u64.wrap (-(x:Int))=((18446744073709551616-x:Nat):Int):=by rw[IntKind.wrap_u64];omega
 rw[g,bits_and_u64_nat x _ i (by omega),f,IntKind.wrap_u64]
 omega
theorem q4n(x k f:Nat)(w:World)(i:((x:Int)==0)=false)
  (key:IntKind.u64.wrap (bits BinOp.and IntKind.u64 (x:Int) (IntKind.u64.wrap (-(x:Int)))*285870213051353865) / 288230376151711744=(f:Int))
  (j:f<64) (l:k<64) (g:w.cell? ⟨5,f,none⟩=some (.int .u8 k)) :
  Calls Tryz.prog 140 #[.int .u64 x] w (qci (.int .i64 k) w):=by
 go_enter Tryz.func140,Tryz.ntmps140
 go_wp2_with (simp only[key])
 go_ret
 exact⟨rfl,Q.refl _⟩
theorem q4p(w:World):Calls Tryz.prog 140 #[.int .u64 0] w (qci (.int .i64 64) w):=by
 go_enter Tryz.func140,Tryz.ntmps140
 go_wp2
 go_ret
 exact⟨rfl,Q.refl _⟩
theorem q8o(x:Nat)(o:x<18446744073709551616)(w:World)(q:Deb w) :
  Calls Tryz.prog 140 #[.int .u64 x] w (qci (.int .i64 (Lib.ctz 64 x)) w):=by
 by_cases g:x=0
 ·subst g
  have e:Lib.ctz 64 0=64:=by decide
  rw[e]
  exact q4p w
 ·obtain⟨i,m⟩:=Lib.lowest_bit 64 x g o
  obtain⟨l,j⟩:=Lib.deBruijn64_at _ m
  have f:=q.tab _ l
  rw[j] at f
  exact q4n x _ _ w (by simp;omega) (q4o x _ o i g) l m f
set_option maxHeartbeats 1000000 in
theorem zc9(x:Nat)(i:x<18446744073709551616)(w:World)(f:Deb w) :
  Calls Tryz.prog 135 #[.int .u64 x] w (qci (.int .i64 (Lib.ctz 64 x)) w):=by
 have j:IntKind.u64.wrap (x:Int)=(x:Int):=by rw[IntKind.wrap_u64];omega
 have g:=q8o x i w f
 go_enter Tryz.func135,Tryz.ntmps135
 go_wp2_with fail
 refine g.mono ?_
 rintro e w1 ⟨rfl,q⟩
 go_wp2_with fail
 go_ret
 exact⟨rfl,q⟩
def qbb(i:Int):Nat:=if qco i then min (Lib.ctz 64 i.toNat) 16 else 0
theorem qkr(i:Int):qbb i≤16:=by unfold qbb;split<;>omega
set_option maxRecDepth 100000 in
set_option maxHeartbeats 1000000 in
theorem qjb(i:Int)(w:World)(y:Deb w):Calls Tryz.prog 123 #[.int .i64 i] w (qci (.int .i64 (qbb i)) w):=by
 have m:=qkm i w
 go_enter Tryz.func123,Tryz.ntmps123
 go_wp2_with fail
 refine m.mono ?_
 rintro e w1 ⟨rfl,q⟩
 cases j:qco i with
 | false =>
  have e:qbb i=0:=by unfold qbb;rw[if_neg (by rw[j];decide)]
  have f:=qb e
  clear e
  go_wp2_with fail
  go_ret
  exact⟨by rw[qa f];rfl,q⟩
 | true =>
  obtain⟨l,C⟩:=qm2 j
  obtain⟨n,rfl⟩:=Int.eq_ofNat_of_zero_le l
  have E:IntKind.u64.wrap (n:Int)=(n:Int):=by rw[IntKind.wrap_u64];omega
  have o:=zc9 n (by omega) w1 (y.new (q.upd _))
  have e:qbb (n:Int)=min (Lib.ctz 64 n) 16:=by unfold qbb;rw[if_pos j];rfl
  have f:=qb e
  clear e m
  have z:=qb j
  clear j l
  go_wp2_with fail
  refine o.mono ?_
  rintro e F ⟨rfl,t⟩
  have v:=q.trans t
  generalize Lib.ctz 64 n=k at *
  clear o q t
  by_cases D:k≤16
  ·have g:min k 16=k:=by omega
   have x:min (k:Int) 16=(k:Int):=by omega
   rw[g] at f
   clear g
   go_wp2_with fail
   go_ret
   exact⟨by rw[qa f];rfl,v⟩
  ·have g:min k 16=16:=by omega
   have x:(16:Int)<(k:Int):=by omega
   rw[g] at f
   clear g
   go_wp2_with fail
   go_ret
   exact⟨by rw[qa f];rfl,v⟩
def qlm(f t:Int):Bool:=qco f&&(qco t&&(f.toNat / 2 ^ qbb f==t.toNat / 2 ^ qbb f))
set_option maxRecDepth 100000 in
set_option maxHeartbeats 1000000 in
theorem q0y(f t:Int)(w:World)(J:Deb w):Calls Tryz.prog 122 #[.int .i64 f,.int .i64 t] w (qci (.bool (qlm f t)) w):=by
 have D:=qjb f w J
 have P:=qkr f
 have g:=fun W=>qkm f W
 have i:=fun W=>qkm t W
 have j:qlm f t=(qco f&&(qco t&&(f.toNat / 2 ^ qbb f==t.toNat / 2 ^ qbb f))):=rfl
 have l:=qb j
 clear j
 generalize qbb f=p at *
 go_enter Tryz.func122,Tryz.ntmps122
 go_wp2_with fail
 refine D.mono ?_
 rintro e w1 ⟨rfl,q⟩
 clear D
 have K:(p:Int)≤16:=by omega
 cases o:qco f with
 | false =>
  rw[o,Bool.false_and] at l
  replace g:=g
  rw[o] at g
  go_wp2_with (with_reducible first|(first|refine' tw1 (qh ?_) ?_|refine' tw2 (qh ?_) ?_);rotate_left|refine' tw3 (qh ?_)|rfl|apply tn|refine' tw4 ?_)
  refine(g _).mono ?_
  rintro e F ⟨rfl,x⟩
  go_wp2_with (with_reducible first|(first|refine' tw1 (qh ?_) ?_|refine' tw2 (qh ?_) ?_);rotate_left|refine' tw3 (qh ?_)|rfl|apply tn|refine' tw4 ?_)
  go_ret
  exact⟨by rw[qa l];rfl,q.trans x.ofDrew⟩
 | true =>
  rw[o,Bool.true_and] at l
  rw[o] at g
  cases v:qco t with
  | false =>
   rw[v,Bool.false_and] at l
   rw[v] at i
   go_wp2_with (with_reducible first|(first|refine' tw1 (qh ?_) ?_|refine' tw2 (qh ?_) ?_);rotate_left|refine' tw3 (qh ?_)|rfl|apply tn|refine' tw4 ?_)
   refine(g _).mono ?_
   rintro e F ⟨rfl,x⟩
   go_wp2_with (with_reducible first|(first|refine' tw1 (qh ?_) ?_|refine' tw2 (qh ?_) ?_);rotate_left|refine' tw3 (qh ?_)|rfl|apply tn|refine' tw4 ?_)
   refine(i _).mono ?_
   rintro e L ⟨rfl,z⟩
   go_wp2_with (with_reducible first|(first|refine' tw1 (qh ?_) ?_|refine' tw2 (qh ?_) ?_);rotate_left|refine' tw3 (qh ?_)|rfl|apply tn|refine' tw4 ?_)
   go_ret
   exact⟨by rw[qa l];rfl,(q.trans x.ofDrew).trans z⟩
  | true =>
   rw[v,Bool.true_and] at l
   rw[v] at i
   obtain⟨C,O⟩:=qm2 o
   obtain⟨E,R⟩:=qm2 v
   obtain⟨n,rfl⟩:=Int.eq_ofNat_of_zero_le C
   obtain⟨m,rfl⟩:=Int.eq_ofNat_of_zero_le E
   have M:=qb o
   have N:=qb v
   clear o v C E
   go_wp2_with (with_reducible first|(first|refine' tw1 (qh ?_) ?_|refine' tw2 (qh ?_) ?_);rotate_left|refine' tw3 (qh ?_)|rfl|apply tn|refine' tw4 ?_)
   refine(g _).mono ?_
   rintro e F ⟨rfl,x⟩
   go_wp2_with (with_reducible first|(first|refine' tw1 (qh ?_) ?_|refine' tw2 (qh ?_) ?_);rotate_left|refine' tw3 (qh ?_)|rfl|apply tn|refine' tw4 ?_)
   refine(i _).mono ?_
   rintro e L ⟨rfl,z⟩
   go_wp2_with (with_reducible first|(first|refine' tw1 (qh ?_) ?_|refine' tw2 (qh ?_) ?_);rotate_left|refine' tw3 (qh ?_)|rfl|apply tn|refine' tw4 ?_)
   go_ret
   refine⟨?_,(q.trans x.ofDrew).trans z⟩
   have y:((n:Int) / 2 ^ p==(m:Int) / 2 ^ p)=((n:Int).toNat / 2 ^ p==(m:Int).toNat / 2 ^ p):=by
    have I:(n:Int) / 2 ^ p=((n / 2 ^ p:Nat):Int):=by rw[Int.natCast_ediv];rfl
    have H:(m:Int) / 2 ^ p=((m / 2 ^ p:Nat):Int):=by rw[Int.natCast_ediv];rfl
    rw[I,H,Int.toNat_natCast,Int.toNat_natCast]
    by_cases e:n / 2 ^ p=m / 2 ^ p
    ·rw[e];simp
    ·rw[beq_false_of_ne e,beq_false_of_ne (by omega)]
   rw[qa l,←y]
   rfl
attribute [local go_sem ↓ high] z7 qal qan qa0
attribute [local go_sem] qcp qdl qdr qfx zn
def qcw(h:List Int)(i:Int):List Int × Int:=if qco i=true then (qb3 h i.toNat 16,0) else (zz,1)
set_option maxRecDepth 100000 in
set_option maxHeartbeats 1000000 in
theorem q61(h:List Int)(L:h.length=32)(i:Int)(w:World)(J:Tabs w) :
  Calls Tryz.prog 50 #[.agg (zb h).toArray,.int .i64 i] w (qa5 (.tuple #[.agg (zb (qcw h i).1).toArray,.int .i64 (qcw h i).2]) w):=by
 have g:=fun W=>qkm i W
 go_enter Tryz.func50,Tryz.ntmps50
 go_upto_region 1 with fail
 have y:=(qby w h L).new ((Upd.refl _ _).alloc (.cells (zb zz).toArray 28))
 have t:=qby (w.alloc (.cells (zb h).toArray 28)) zz qo
 rw[World.size_alloc] at t
 have C:qx w ((w.alloc (.cells (zb h).toArray 28)).alloc (.cells (zb zz).toArray 28)):=((Upd.refl _ _).alloc _).alloc _
 generalize (w.alloc (.cells (zb h).toArray 28)).alloc (.cells (zb zz).toArray 28)=w1 at y t C ⊢
 obtain⟨A,o⟩:∃A,A=w.heap.size:=⟨_,rfl⟩
 obtain⟨B,v⟩:∃B,B=w.heap.size+1:=⟨_,rfl⟩
 rw[←v] at t ⊢
 rw[←o] at y ⊢
 have Z:w.heap.size≤B:=by omega
 have Y:B≠A:=by omega
 clear o v
 have V:=qb y
 have X:=qb t
 clear y t
 go_wp2_with fail
 refine(g _).mono ?_
 rintro e U ⟨rfl,q⟩
 have f:=(qa X).new (q.upd _)
 have j:=(qa V).new (q.upd _)
 have x:=C.trans (q.upd _)
 have m:=J.new x
 cases z:qco i with
 | false =>
  have e:qcw h i=(zz,1):=by unfold qcw;rw[if_neg (by rw[z];decide)]
  have E:=qb e
  have N:=f.stOk zz qo
  have F:=qb (f.put zz qo)
  have H:=qb (x.then (qad (w:=U) (b:=B) (zb zz)) (fun i hi e=>by omega))
  clear f j x C m J e
  go_wp2_with fail
  refine bodyPost_ret (qu rfl _ _ B _ _ _ _ rfl (qa F).at_ Tryz.underlying28 rfl (by rw[List.size_toArray,qaw,qo];exact Tryz.infoHsh)) rfl ?_
  rw[qa E]
  exact⟨rfl,qa H⟩
 | true =>
  obtain⟨P,h1⟩:=qm2 z
  obtain⟨n,rfl⟩:=Int.eq_ofNat_of_zero_le P
  have e:qcw h (n:Int)=(qb3 h n 16,0):=by unfold qcw;rw[if_pos z];rfl
  have E:=qb e
  have M:=qgk h L n 16
  have R:=qrk h L n 16 (by omega) (by omega) U m
  have hr:=j.row
  have D:=qb f
  have I:=qb x
  clear e g P j f x C J z m
  go_wp2_with fail
  refine R.mono ?_
  rintro e w3 ⟨rfl,O⟩
  have l:=(qa D).new O
  have T:=(qa I).trans O
  have N:=l.stOk _ M
  have F:=qb (l.put _ M)
  have H:=qb (T.then (qad (w:=w3) (b:=B) (zb (qb3 h n 16))) (fun i hi e=>by omega))
  clear l T O R hr
  generalize qb3 h n 16=K at *
  go_wp2_with fail
  refine bodyPost_ret (qu rfl _ _ B _ _ _ _ rfl (qa F).at_ Tryz.underlying28 rfl (by rw[List.size_toArray,qaw,M];exact Tryz.infoHsh)) rfl ?_
  rw[qa E]
  exact⟨rfl,qa H⟩
def qce(h:List Int)(f t:Int):List Int × Int:=if qlm f t=true then (qb3 h t.toNat (qbb f),0) else (zz,1)
theorem qvo(h:List Int)(g:h.length=32)(f t:Int):(qce h f t).1.length=32:=by
 unfold qce
 split
 ·exact qgk h g _ _
 ·exact qo
theorem q88{f t:Int}(h:qlm f t=true):qco t=true:=by
 unfold qlm at h
 simp only[Bool.and_eq_true] at h
 exact h.2.1
set_option maxRecDepth 100000 in
set_option maxHeartbeats 1000000 in
theorem qyq(h:List Int)(Z:h.length=32)(f t:Int)(w:World)(X:Tabs w)(J:Deb w) :
  Calls Tryz.prog 126 #[.agg (zb h).toArray,.int .i64 f,.int .i64 t] w (qa5 (.tuple #[.agg (zb (qce h f t).1).toArray,.int .i64 (qce h f t).2]) w):=by
 go_enter Tryz.func126,Tryz.ntmps126
 go_upto_region 1 with fail
 have I:=(qby w h Z).new ((Upd.refl _ _).alloc (.cells (zb zz).toArray 28))
 have z:=qby (w.alloc (.cells (zb h).toArray 28)) zz qo
 rw[World.size_alloc] at z
 have F:qx w ((w.alloc (.cells (zb h).toArray 28)).alloc (.cells (zb zz).toArray 28)):=((Upd.refl _ _).alloc _).alloc _
 generalize (w.alloc (.cells (zb h).toArray 28)).alloc (.cells (zb zz).toArray 28)=w1 at I z F ⊢
 obtain⟨A,y⟩:∃A,A=w.heap.size:=⟨_,rfl⟩
 obtain⟨B,C⟩:∃B,B=w.heap.size+1:=⟨_,rfl⟩
 rw[←C] at z ⊢
 rw[←y] at I ⊢
 have a7:w.heap.size≤B:=by omega
 have a6:B≠A:=by omega
 clear y C
 have HA:=qb I
 have HB:=qb z
 have l:=q0y f t w1 (J.new F)
 clear I z
 go_wp2_with fail
 refine l.mono ?_
 rintro e w2 ⟨rfl,q⟩
 have g:=(qa HB).new (q.upd _)
 have j:=(qa HA).new (q.upd _)
 have x:=F.trans (q.upd _)
 have v:=X.new x
 have o:=J.new x
 clear l
 cases L:qlm f t with
 | false =>
  have e:qce h f t=(zz,1):=by unfold qce;rw[if_neg (by rw[L];decide)]
  have P:=qb e
  have a5:=g.stOk zz qo
  have R:=qb (g.put zz qo)
  have T:=qb (x.then (qad (w:=w2) (b:=B) (zb zz)) (fun i hi e=>by omega))
  clear g j x F v X e J o
  go_wp2_with fail
  refine bodyPost_ret (qu rfl _ _ B _ _ _ _ rfl (qa R).at_ Tryz.underlying28 rfl (by rw[List.size_toArray,qaw,qo];exact Tryz.infoHsh)) rfl ?_
  rw[qa P]
  exact⟨rfl,qa T⟩
 | true =>
  obtain⟨h0,h1⟩:=qm2 (q88 L)
  obtain⟨n,rfl⟩:=Int.eq_ofNat_of_zero_le h0
  have e:qce h f (n:Int)=(qb3 h n (qbb f),0):=by unfold qce;rw[if_pos L];rfl
  have P:=qb e
  have hl:=qgk h Z n (qbb f)
  have a4:=qkr f
  have D:=fun W (Y:Tabs W)=>qrk h Z n (qbb f) (by omega) a4 W Y
  have hp:=fun W (Y:Deb W)=>qjb f W Y
  have hr:zr w2.drew A 0 32=some (zb h).toArray:=j.row
  have N:=qb g
  have M:=qb j
  have U:=qb x
  have V:=qb v
  have O:=qb o
  have HC:=qb D
  have HP:=qb hp
  clear e h0 j g x F X L v J o D hp
  generalize qb3 h n (qbb f)=K at *
  generalize qbb f=p at *
  go_upto_region 3 with fail
  refine qb2 (fun w'=>zr w' A 0 32=some (zb h).toArray) [0] (.of [0,1,2,3,4,5,6]) (by kernel_rfl) (by kernel_rfl) hr ?_
  simp only[Plan.of]
  go_wp2_with (with_reducible first|(first|refine' qw1 (qh ?_) ?_|refine' qw2 (qh ?_) ?_|refine' qw3 (qh ?_) ?_);rotate_left|refine' qw4 (qh ?_)|refine' qw5 (qh ?_)|rfl|apply qn)
  refine(qa HP _ ((qa O).new ((Upd.refl _ _).drew))).mono ?_
  rintro e w3 ⟨rfl,q3⟩
  have H:qx w2 w3:=(q3.ofDrew).upd _
  have E:=((qa M).new H).row
  have D:=qa HC w3 ((qa V).new H)
  clear hr HP
  go_wp2_with (with_reducible first|(first|refine' qw1 (qh ?_) ?_|refine' qw2 (qh ?_) ?_|refine' qw3 (qh ?_) ?_);rotate_left|refine' qw4 (qh ?_)|refine' qw5 (qh ?_)|rfl|apply qn)
  refine⟨E,?_⟩
  go_wp2_with (with_reducible first|(first|refine' qw1 (qh ?_) ?_|refine' qw2 (qh ?_) ?_|refine' qw3 (qh ?_) ?_);rotate_left|refine' qw4 (qh ?_)|refine' qw5 (qh ?_)|rfl|apply qn)
  refine D.mono ?_
  rintro e w4 ⟨rfl,n4⟩
  have m:=((qa N).new H).new n4
  have n5:=((qa U).trans H).trans n4
  have a5:=m.stOk _ hl
  have R:=qb (m.put _ hl)
  have T:=qb (n5.then (qad (w:=w4) (b:=B) (zb K)) (fun i hi e=>by omega))
  clear m n5 H D n4 E
  go_wp2_with (with_reducible first|(first|refine' qw1 (qh ?_) ?_|refine' qw2 (qh ?_) ?_|refine' qw3 (qh ?_) ?_);rotate_left|refine' qw4 (qh ?_)|refine' qw5 (qh ?_)|rfl|apply qn)
  refine bodyPost_ret (qu rfl _ _ B _ _ _ _ rfl (qa R).at_ Tryz.underlying28 rfl (by rw[List.size_toArray,qaw,hl];exact Tryz.infoHsh)) rfl ?_
  rw[qa P]
  exact⟨rfl,qa T⟩
end Go.Proofs.YtjpmomdechibmaaGreatDoor
namespace Go.Proofs.YtjpmomdechibmaaGreatDoor
open Go.RowKit
attribute [local go_sem ↓ high] z7 qal qan qa0 qab qac qag qaa
attribute [local go_sem] qcp qdl qdr qfx zn qc2 qc3 qc6
def Ch.secret(c:Ch)(n:Int):List Int × Int:=if n<0∨c.k.heard≤n then (zz,1) else qcw c.s.seed (65535-n)
theorem qm0(h:List Int)(f:h.length=32)(i:Int):(qcw h i).1.length=32:=by
 unfold qcw
 split
 ·exact qgk h f _ _
 ·exact qo
theorem Ch.secret_len{c:Ch}(h:c.Ok)(n:Int):(c.secret n).1.length=32:=by
 unfold Ch.secret
 split
 ·exact qo
 ·exact qm0 _ h.s.seed _
set_option maxRecDepth 100000 in
set_option maxHeartbeats 1000000 in
theorem qz4(g:Nat)(S:Nat→Prop)(c:Ch)(n:Int)(w:World)(h:ChS w g S c)(N:Tabs w)(U : -9223372036854775808≤n∧n≤9223372036854775807) :
  Calls Tryz.prog 29 #[.pointer (some ⟨g,0,none⟩),.int .i64 n] w (qa5 (.tuple #[.agg (zb (c.secret n).1).toArray,.int .i64 (c.secret n).2]) w):=by
 obtain⟨V,nv,T,h⟩:=h
 go_enter Tryz.func29,Tryz.ntmps29
 go_upto_region 1 with fail
 have f:=qby w zz qo
 have m:qx w (w.alloc (.cells (zb zz).toArray 28)):=(Upd.refl _ _).alloc _
 generalize w.alloc (.cells (zb zz).toArray 28)=w1 at f m ⊢
 obtain⟨B,o⟩:∃B,B=w.heap.size:=⟨_,rfl⟩
 rw[←o] at f ⊢
 have M:w.heap.size≤B:=by omega
 clear o
 have y:=h.new m
 have I:w1.cell? ⟨g,38,none⟩=some (.int .i64 c.k.heard):=y.toR.heard
 have l:=y.seed
 by_cases e:n<0∨c.k.heard≤n
 ·have q:c.secret n=(zz,1):=by unfold Ch.secret;rw[if_pos e]
  have C:=f.stOk zz qo
  have v:=qb (f.put zz qo)
  have x:=qb (m.then (qad (w:=w1) (b:=B) (zb zz)) (fun i O e=>by omega))
  have t:=qb q
  clear h y f m q
  by_cases J:n<0
  ·go_wp2_with fail
   refine bodyPost_ret (qu rfl _ _ B _ _ _ _ rfl (qa v).at_ Tryz.underlying28 rfl (by rw[List.size_toArray,qaw,qo];exact Tryz.infoHsh)) rfl ?_
   rw[qa t]
   exact⟨rfl,qa x⟩
  ·have L:c.k.heard≤n:=by omega
   clear e
   go_wp2_with fail
   refine bodyPost_ret (qu rfl _ _ B _ _ _ _ rfl (qa v).at_ Tryz.underlying28 rfl (by rw[List.size_toArray,qaw,qo];exact Tryz.infoHsh)) rfl ?_
   rw[qa t]
   exact⟨rfl,qa x⟩
 ·have q:c.secret n=qcw c.s.seed (65535-n):=by unfold Ch.secret;rw[if_neg e]
  have J:¬n<0:=by omega
  have L:¬c.k.heard≤n:=by omega
  have P:IntKind.i64.wrap (65535-n)=65535-n:=qik (by omega) (by omega)
  have E:=q61 c.s.seed h.ok.s.seed (65535-n) w1 (N.new m)
  have z:=qm0 c.s.seed h.ok.s.seed (65535-n)
  have t:=qb q
  have F:=qb f
  have H:=qb m
  clear h y f m q e
  generalize qcw c.s.seed (65535-n)=K at *
  go_wp2_with fail
  refine E.mono ?_
  rintro e R ⟨rfl,D⟩
  have j:=(qa F).new D
  have C:=j.stOk _ z
  have v:=qb (j.put _ z)
  have x:=qb (((qa H).trans D).then (qad (w:=R) (b:=B) (zb K.1)) (fun i O e=>by omega))
  clear j D E l
  go_wp2_with fail
  refine bodyPost_ret (qu rfl _ _ B _ _ _ _ rfl (qa v).at_ Tryz.underlying28 rfl (by rw[List.size_toArray,qaw,z];exact Tryz.infoHsh)) rfl ?_
  rw[qa t]
  exact⟨rfl,qa x⟩
def Ch.revocation(c:Ch):MsgV:=⟨7,c.s.ch,0,0,(c.secret (c.k.heard-1)).1,0,c.k.heard-1⟩
set_option maxRecDepth 100000 in
set_option maxHeartbeats 1000000 in
theorem qka(g:Nat)(S:Nat→Prop)(c:Ch)(w:World)(h:ChS w g S c)(hT:Tabs w) :
  Calls Tryz.prog 103 #[.pointer (some ⟨g,0,none⟩)] w (qa5 (.agg c.revocation.cells.toArray) w):=by
 obtain⟨lv,nv,X,h⟩:=h
 have a4:=h.ok.heard
 go_enter Tryz.func103,Tryz.ntmps103
 go_upto_region 1 with fail
 have z:=qb6 w MsgV.zero qo
 have x:qx w (w.alloc (.cells MsgV.zero.cells.toArray 30)):=(Upd.refl _ _).alloc _
 generalize w.alloc (.cells MsgV.zero.cells.toArray 30)=w1 at z x ⊢
 obtain⟨B,o⟩:∃B,B=w.heap.size:=⟨_,rfl⟩
 rw[←o] at z ⊢
 have Z:w.heap.size≤B:=by omega
 clear o
 have y:=h.new x
 have m:w1.cell? ⟨g,38,none⟩=some (.int .i64 c.k.heard):=y.toR.heard
 have a6:IntKind.i64.wrap (c.k.heard-1)=c.k.heard-1:=qik (by omega) (by omega)
 have P:=qz4 g S c (c.k.heard-1) w1 ⟨lv,nv,X,y⟩ (hT.new x) (by omega)
 have C:=Ch.secret_len h.ok (c.k.heard-1)
 have t:c.revocation=⟨7,c.s.ch,0,0,(c.secret (c.k.heard-1)).1,0,c.k.heard-1⟩:=rfl
 have U:=qb t
 have T:=qb z
 have V:=qb x
 have R:=qb y
 clear h y z x t
 generalize c.secret (c.k.heard-1)=K at *
 go_wp2_with fail
 refine P.mono ?_
 rintro e F ⟨rfl,D⟩
 obtain⟨v,q,E⟩:=qpm F K.1 C
 have O:=((qa R).new D).new E
 have H:=qb q
 have f:=qb (((qa T).new D).new E)
 have l:=qb (((qa V).trans D).trans E)
 have L:=qb O
 clear P D q E O m
 go_upto_region 2 with fail
 change Code.wp _ _ _ _ (qr1 F K.1)
 generalize qr1 F K.1=j at H f l L ⊢
 generalize F.heap.size=A at H ⊢
 have I:=qa L
 have a5:=(qa H).row
 have Y:j.cell? ⟨g,0,none⟩=some (.int .u32 c.s.ch):=I.toR.ch
 have m:j.cell? ⟨g,38,none⟩=some (.int .i64 c.k.heard):=I.toR.heard
 have J:=fun W=>qyf 7 c.s.ch (c.k.heard-1) K.1 C W
 have v:stOk j.drew B 0 38 (MsgV.cells ⟨7,c.s.ch,0,0,K.1,0,c.k.heard-1⟩).toArray=true:=(qa f).stOk (k:=⟨7,c.s.ch,0,0,K.1,0,c.k.heard-1⟩) C
 have nd:qx j j.drew:=(Upd.refl _ _).drew
 have M:=qb (((qa f).new nd).put (k:=⟨7,c.s.ch,0,0,K.1,0,c.k.heard-1⟩) C)
 have N:=qb (((qa l).trans nd).then (qad (w:=j.drew) (b:=B) (MsgV.cells ⟨7,c.s.ch,0,0,K.1,0,c.k.heard-1⟩)) (fun i hi e=>by omega))
 clear I nd
 rw[←qa U] at v M N J
 go_wp2_with (with_reducible first|(first|refine' tw1 (qh ?_) ?_|refine' tw2 (qh ?_) ?_);rotate_left|refine' tw3 (qh ?_)|rfl|apply tn|refine' tw4 ?_)
 have q:=qa M
 exact bodyPost_ret (results_cell_row rfl _ _ B _ _ _ _ rfl q.at_ Tryz.underlying30 rfl (by rw[q.agg];exact Tryz.infoMsg)) rfl ⟨rfl,qa N⟩
end Go.Proofs.YtjpmomdechibmaaGreatDoor
