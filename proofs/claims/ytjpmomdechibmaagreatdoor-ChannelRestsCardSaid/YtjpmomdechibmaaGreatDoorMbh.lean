/-
  Package secret: isNumber, Place, Can.
-/
import Derived.Test.YtjpmomdechibmaaGreatDoorTxt
import Derived.Test.YtjpmomdechibmaaGreatDoorProg
import Derived.Lib.TrailingZeros
import Derived.Laws.Bits64b
import Derived.Test.YtjpmomdechibmaaGreatDoorSec2
import Derived.Test.YtjpmomdechibmaaGreatDoorMbc
import Derived.Test.YtjpmomdechibmaaGreatDoorMaa
import Derived.ProofKit
import Derived.OpenShut
import Derived.ShutString
import Derived.ChangeOld
import Derived.Deep.Slices
import Derived.Laws.StructEq
import Derived.Stop.BytesEq
import Derived.Test.YtjpmomdechibmaaGreatDoorMbf
set_option linter.unusedVariables false
set_option linter.unusedSimpArgs false
namespace Go.Proofs.YtjpmomdechibmaaGreatDoor
open Go.RowKit
structure Deb(w:World):Prop where
 tab:∀j,j<64→w.cell? ⟨5,j,none⟩=some (.int .u8 (Lib.deBruijn64tab.getD j 0))
theorem Deb.upd{S:Nat→Prop}{w w':World}(h:Deb w)(u:Upd S w w')(f:¬S 5):Deb w':=⟨fun i g=>u.cell (h.tab i g) f⟩
theorem Deb.new{w w':World}(h:Deb w)(u:qy w w'):Deb w':=h.upd u (fun h=>h)
def qc3(i:Int):Bool:=decide (0≤i)&&decide (i<65536)
theorem q21{i:Int}(f:0≤i)(g:i<65536):qc3 i=true:=by unfold qc3;simp;omega
theorem q82{i:Int}(h:i<0∨65536≤i):qc3 i=false:=by unfold qc3;simp;omega
theorem qnr{i:Int}(h:qc3 i=true):0≤i∧i<65536:=by unfold qc3 at h;simpa using h
theorem qk5(i:Int)(w:World):Calls Tryz.prog 79 #[.int .i64 i] w (qcc (.bool (qc3 i)) w):=by
 by_cases g:0≤i
 ·by_cases f:i<65536
  ·rw[q21 g f]
   go_enter Tryz.func79,Tryz.ntmps79
   go_wp2
   go_ret
   exact⟨rfl,Q.refl _⟩
  ·rw[q82 (by omega)]
   have l:decide (i<65536)=false:=by simpa using f
   go_enter Tryz.func79,Tryz.ntmps79
   go_wp2
   go_ret
   exact⟨rfl,Q.refl _⟩
 ·rw[q82 (by omega)]
  go_enter Tryz.func79,Tryz.ntmps79
  go_wp2
  go_ret
  exact⟨rfl,Q.refl _⟩
theorem q6c(x a:Nat)(i:x<18446744073709551616)(f:x &&& (18446744073709551616-x)=a)(l:x≠0) :
  IntKind.u64.wrap (bits BinOp.and IntKind.u64 (x:Int) (IntKind.u64.wrap (-(x:Int)))*285870213051353865) / 288230376151711744=((a*285870213051353865%18446744073709551616 / 288230376151711744:Nat):Int):=by
 have g:IntKind.u64.wrap (-(x:Int))=((18446744073709551616-x:Nat):Int):=by rw[IntKind.wrap_u64];omega
 rw[g,bits_and_u64_nat x _ i (by omega),f,IntKind.wrap_u64]
 omega
theorem q6b(x k f:Nat)(w:World)(i:((x:Int)==0)=false)
  (key:IntKind.u64.wrap (bits BinOp.and IntKind.u64 (x:Int) (IntKind.u64.wrap (-(x:Int)))*285870213051353865) / 288230376151711744=(f:Int))
  (l:f<64) (m:k<64) (g:w.cell? ⟨5,f,none⟩=some (.int .u8 k)) :
  Calls Tryz.prog 140 #[.int .u64 x] w (qcc (.int .i64 k) w):=by
 go_enter Tryz.func140,Tryz.ntmps140
 go_wp2_with (simp only[key])
 go_ret
 exact⟨rfl,Q.refl _⟩
theorem q6d(w:World):Calls Tryz.prog 140 #[.int .u64 0] w (qcc (.int .i64 64) w):=by
 go_enter Tryz.func140,Tryz.ntmps140
 go_wp2
 go_ret
 exact⟨rfl,Q.refl _⟩
theorem zaf(x:Nat)(q:x<18446744073709551616)(w:World)(t:Deb w) :
  Calls Tryz.prog 140 #[.int .u64 x] w (qcc (.int .i64 (Lib.ctz 64 x)) w):=by
 by_cases g:x=0
 ·subst g
  have e:Lib.ctz 64 0=64:=by decide
  rw[e]
  exact q6d w
 ·obtain⟨i,o⟩:=Lib.lowest_bit 64 x g q
  obtain⟨m,l⟩:=Lib.deBruijn64_at _ o
  have f:=t.tab _ m
  rw[l] at f
  exact q6b x _ _ w (by simp;omega) (q6c x _ q i g) m o f
set_option maxHeartbeats 1000000 in
theorem ze7(x:Nat)(i:x<18446744073709551616)(w:World)(f:Deb w) :
  Calls Tryz.prog 135 #[.int .u64 x] w (qcc (.int .i64 (Lib.ctz 64 x)) w):=by
 have l:IntKind.u64.wrap (x:Int)=(x:Int):=by rw[IntKind.wrap_u64];omega
 have g:=zaf x i w f
 go_enter Tryz.func135,Tryz.ntmps135
 go_wp2_with fail
 refine g.mono ?_
 rintro e w1 ⟨rfl,q⟩
 go_wp2_with fail
 go_ret
 exact⟨rfl,q⟩
def qbk(i:Int):Nat:=if qc3 i then min (Lib.ctz 64 i.toNat) 16 else 0
theorem qlb(i:Int):qbk i≤16:=by unfold qbk;split<;>omega
set_option maxRecDepth 100000 in
set_option maxHeartbeats 1000000 in
theorem qju(i:Int)(w:World)(z:Deb w):Calls Tryz.prog 123 #[.int .i64 i] w (qcc (.int .i64 (qbk i)) w):=by
 have o:=qk5 i w
 go_enter Tryz.func123,Tryz.ntmps123
 go_wp2_with fail
 refine o.mono ?_
 rintro e w1 ⟨rfl,q⟩
 cases l:qc3 i with
 | false =>
  have e:qbk i=0:=by unfold qbk;rw[if_neg (by rw[l];decide)]
  have f:=qb e
  clear e
  go_wp2_with fail
  go_ret
  exact⟨by rw[qa f];rfl,q⟩
 | true =>
  obtain⟨m,D⟩:=qnr l
  obtain⟨n,rfl⟩:=Int.eq_ofNat_of_zero_le m
  have F:IntKind.u64.wrap (n:Int)=(n:Int):=by rw[IntKind.wrap_u64];omega
  have t:=ze7 n (by omega) w1 (z.new (q.upd _))
  have e:qbk (n:Int)=min (Lib.ctz 64 n) 16:=by unfold qbk;rw[if_pos l];rfl
  have f:=qb e
  clear e o
  have C:=qb l
  clear l m
  go_wp2_with fail
  refine t.mono ?_
  rintro e H ⟨rfl,v⟩
  have x:=q.trans v
  generalize Lib.ctz 64 n=k at *
  clear t q v
  by_cases E:k≤16
  ·have g:min k 16=k:=by omega
   have y:min (k:Int) 16=(k:Int):=by omega
   rw[g] at f
   clear g
   go_wp2_with fail
   go_ret
   exact⟨by rw[qa f];rfl,x⟩
  ·have g:min k 16=16:=by omega
   have y:(16:Int)<(k:Int):=by omega
   rw[g] at f
   clear g
   go_wp2_with fail
   go_ret
   exact⟨by rw[qa f];rfl,x⟩
def qma(f t:Int):Bool:=qc3 f&&(qc3 t&&(f.toNat / 2 ^ qbk f==t.toNat / 2 ^ qbk f))
set_option maxRecDepth 100000 in
set_option maxHeartbeats 1000000 in
theorem q2g(f t:Int)(w:World)(K:Deb w):Calls Tryz.prog 122 #[.int .i64 f,.int .i64 t] w (qcc (.bool (qma f t)) w):=by
 have E:=qju f w K
 have R:=qlb f
 have g:=fun W=>qk5 f W
 have i:=fun W=>qk5 t W
 have l:qma f t=(qc3 f&&(qc3 t&&(f.toNat / 2 ^ qbk f==t.toNat / 2 ^ qbk f))):=rfl
 have o:=qb l
 clear l
 generalize qbk f=p at *
 go_enter Tryz.func122,Tryz.ntmps122
 go_wp2_with fail
 refine E.mono ?_
 rintro e w1 ⟨rfl,q⟩
 clear E
 have L:(p:Int)≤16:=by omega
 cases v:qc3 f with
 | false =>
  rw[v,Bool.false_and] at o
  replace g:=g
  rw[v] at g
  go_wp2_with (with_reducible first|(first|refine' zr (qg ?_) ?_|refine' zt (qg ?_) ?_);rotate_left|refine' zu (qg ?_)|rfl|apply tn|refine' zv ?_)
  refine(g _).mono ?_
  rintro e H ⟨rfl,y⟩
  go_wp2_with (with_reducible first|(first|refine' zr (qg ?_) ?_|refine' zt (qg ?_) ?_);rotate_left|refine' zu (qg ?_)|rfl|apply tn|refine' zv ?_)
  go_ret
  exact⟨by rw[qa o];rfl,q.trans y.ofDrew⟩
 | true =>
  rw[v,Bool.true_and] at o
  rw[v] at g
  cases x:qc3 t with
  | false =>
   rw[x,Bool.false_and] at o
   rw[x] at i
   go_wp2_with (with_reducible first|(first|refine' zr (qg ?_) ?_|refine' zt (qg ?_) ?_);rotate_left|refine' zu (qg ?_)|rfl|apply tn|refine' zv ?_)
   refine(g _).mono ?_
   rintro e H ⟨rfl,y⟩
   go_wp2_with (with_reducible first|(first|refine' zr (qg ?_) ?_|refine' zt (qg ?_) ?_);rotate_left|refine' zu (qg ?_)|rfl|apply tn|refine' zv ?_)
   refine(i _).mono ?_
   rintro e M ⟨rfl,C⟩
   go_wp2_with (with_reducible first|(first|refine' zr (qg ?_) ?_|refine' zt (qg ?_) ?_);rotate_left|refine' zu (qg ?_)|rfl|apply tn|refine' zv ?_)
   go_ret
   exact⟨by rw[qa o];rfl,(q.trans y.ofDrew).trans C⟩
  | true =>
   rw[x,Bool.true_and] at o
   rw[x] at i
   obtain⟨D,P⟩:=qnr v
   obtain⟨F,T⟩:=qnr x
   obtain⟨n,rfl⟩:=Int.eq_ofNat_of_zero_le D
   obtain⟨m,rfl⟩:=Int.eq_ofNat_of_zero_le F
   have N:=qb v
   have O:=qb x
   clear v x D F
   go_wp2_with (with_reducible first|(first|refine' zr (qg ?_) ?_|refine' zt (qg ?_) ?_);rotate_left|refine' zu (qg ?_)|rfl|apply tn|refine' zv ?_)
   refine(g _).mono ?_
   rintro e H ⟨rfl,y⟩
   go_wp2_with (with_reducible first|(first|refine' zr (qg ?_) ?_|refine' zt (qg ?_) ?_);rotate_left|refine' zu (qg ?_)|rfl|apply tn|refine' zv ?_)
   refine(i _).mono ?_
   rintro e M ⟨rfl,C⟩
   go_wp2_with (with_reducible first|(first|refine' zr (qg ?_) ?_|refine' zt (qg ?_) ?_);rotate_left|refine' zu (qg ?_)|rfl|apply tn|refine' zv ?_)
   go_ret
   refine⟨?_,(q.trans y.ofDrew).trans C⟩
   have z:((n:Int) / 2 ^ p==(m:Int) / 2 ^ p)=((n:Int).toNat / 2 ^ p==(m:Int).toNat / 2 ^ p):=by
    have J:(n:Int) / 2 ^ p=((n / 2 ^ p:Nat):Int):=by rw[Int.natCast_ediv];rfl
    have I:(m:Int) / 2 ^ p=((m / 2 ^ p:Nat):Int):=by rw[Int.natCast_ediv];rfl
    rw[J,I,Int.toNat_natCast,Int.toNat_natCast]
    by_cases e:n / 2 ^ p=m / 2 ^ p
    ·rw[e];simp
    ·rw[beq_false_of_ne e,beq_false_of_ne (by omega)]
   rw[qa o,←z]
   rfl
attribute [local go_sem ↓ high] qaa qap qar qa1
attribute [local go_sem] qcx qdn qdt qfm zq
def qc7(h:List Int)(i:Int):List Int × Int:=if qc3 i=true then (qce h i.toNat 16,0) else (qad,1)
set_option maxRecDepth 100000 in
set_option maxHeartbeats 1000000 in
theorem q8o(h:List Int)(M:h.length=32)(i:Int)(w:World)(L:Tabs w) :
  Calls Tryz.prog 50 #[.agg (zf h).toArray,.int .i64 i] w (qa7 (.tuple #[.agg (zf (qc7 h i).1).toArray,.int .i64 (qc7 h i).2]) w):=by
 have g:=fun W=>qk5 i W
 go_enter Tryz.func50,Tryz.ntmps50
 go_upto_region 1 with fail
 have z:=(qb9 w h M).new ((Upd.refl _ _).alloc (.cells (zf qad).toArray 28))
 have v:=qb9 (w.alloc (.cells (zf h).toArray 28)) qad qo
 rw[World.size_alloc] at v
 have D:qy w ((w.alloc (.cells (zf h).toArray 28)).alloc (.cells (zf qad).toArray 28)):=((Upd.refl _ _).alloc _).alloc _
 generalize (w.alloc (.cells (zf h).toArray 28)).alloc (.cells (zf qad).toArray 28)=w1 at z v D ⊢
 obtain⟨A,t⟩:∃A,A=w.heap.size:=⟨_,rfl⟩
 obtain⟨B,x⟩:∃B,B=w.heap.size+1:=⟨_,rfl⟩
 rw[←x] at v ⊢
 rw[←t] at z ⊢
 have a4:w.heap.size≤B:=by omega
 have Z:B≠A:=by omega
 clear t x
 have X:=qb z
 have Y:=qb v
 clear z v
 go_wp2_with fail
 refine(g _).mono ?_
 rintro e V ⟨rfl,q⟩
 have f:=(qa Y).new (q.upd _)
 have l:=(qa X).new (q.upd _)
 have y:=D.trans (q.upd _)
 have o:=L.new y
 cases C:qc3 i with
 | false =>
  have e:qc7 h i=(qad,1):=by unfold qc7;rw[if_neg (by rw[C];decide)]
  have F:=qb e
  have O:=f.stOk qad qo
  have H:=qb (f.put qad qo)
  have I:=qb (y.then (qak (w:=V) (b:=B) (zf qad)) (fun i hi e=>by omega))
  clear f l y D o L e
  go_wp2_with fail
  refine bodyPost_ret (qw rfl _ _ B _ _ _ _ rfl (qa H).at_ Tryz.underlying28 rfl (by rw[List.size_toArray,qa4,qo];exact Tryz.infoHsh)) rfl ?_
  rw[qa F]
  exact⟨rfl,qa I⟩
 | true =>
  obtain⟨R,h1⟩:=qnr C
  obtain⟨n,rfl⟩:=Int.eq_ofNat_of_zero_le R
  have e:qc7 h (n:Int)=(qce h n 16,0):=by unfold qc7;rw[if_pos C];rfl
  have F:=qb e
  have N:=qgw h M n 16
  have T:=qso h M n 16 (by omega) (by omega) V o
  have hr:=l.row
  have E:=qb f
  have J:=qb y
  clear e g R l f y D L C o
  go_wp2_with fail
  refine T.mono ?_
  rintro e w3 ⟨rfl,P⟩
  have m:=(qa E).new P
  have U:=(qa J).trans P
  have O:=m.stOk _ N
  have H:=qb (m.put _ N)
  have I:=qb (U.then (qak (w:=w3) (b:=B) (zf (qce h n 16))) (fun i hi e=>by omega))
  clear m U P T hr
  generalize qce h n 16=K at *
  go_wp2_with fail
  refine bodyPost_ret (qw rfl _ _ B _ _ _ _ rfl (qa H).at_ Tryz.underlying28 rfl (by rw[List.size_toArray,qa4,N];exact Tryz.infoHsh)) rfl ?_
  rw[qa F]
  exact⟨rfl,qa I⟩
def qcp(h:List Int)(f t:Int):List Int × Int:=if qma f t=true then (qce h t.toNat (qbk f),0) else (qad,1)
theorem qwr(h:List Int)(g:h.length=32)(f t:Int):(qcp h f t).1.length=32:=by
 unfold qcp
 split
 ·exact qgw h g _ _
 ·exact qo
theorem zaz{f t:Int}(h:qma f t=true):qc3 t=true:=by
 unfold qma at h
 simp only[Bool.and_eq_true] at h
 exact h.2.1
set_option maxRecDepth 100000 in
set_option maxHeartbeats 1000000 in
theorem qzz(h:List Int)(hh:h.length=32)(f t:Int)(w:World)(Y:Tabs w)(L:Deb w) :
  Calls Tryz.prog 126 #[.agg (zf h).toArray,.int .i64 f,.int .i64 t] w (qa7 (.tuple #[.agg (zf (qcp h f t).1).toArray,.int .i64 (qcp h f t).2]) w):=by
 go_enter Tryz.func126,Tryz.ntmps126
 go_upto_region 1 with fail
 have J:=(qb9 w h hh).new ((Upd.refl _ _).alloc (.cells (zf qad).toArray 28))
 have C:=qb9 (w.alloc (.cells (zf h).toArray 28)) qad qo
 rw[World.size_alloc] at C
 have H:qy w ((w.alloc (.cells (zf h).toArray 28)).alloc (.cells (zf qad).toArray 28)):=((Upd.refl _ _).alloc _).alloc _
 generalize (w.alloc (.cells (zf h).toArray 28)).alloc (.cells (zf qad).toArray 28)=w1 at J C H ⊢
 obtain⟨A,z⟩:∃A,A=w.heap.size:=⟨_,rfl⟩
 obtain⟨B,D⟩:∃B,B=w.heap.size+1:=⟨_,rfl⟩
 rw[←D] at C ⊢
 rw[←z] at J ⊢
 have a7:w.heap.size≤B:=by omega
 have a6:B≠A:=by omega
 clear z D
 have HA:=qb J
 have HB:=qb C
 have m:=q2g f t w1 (L.new H)
 clear J C
 go_wp2_with fail
 refine m.mono ?_
 rintro e w2 ⟨rfl,q⟩
 have g:=(qa HB).new (q.upd _)
 have l:=(qa HA).new (q.upd _)
 have y:=H.trans (q.upd _)
 have x:=Y.new y
 have v:=L.new y
 clear m
 cases M:qma f t with
 | false =>
  have e:qcp h f t=(qad,1):=by unfold qcp;rw[if_neg (by rw[M];decide)]
  have R:=qb e
  have a5:=g.stOk qad qo
  have T:=qb (g.put qad qo)
  have U:=qb (y.then (qak (w:=w2) (b:=B) (zf qad)) (fun i hi e=>by omega))
  clear g l y H x Y e L v
  go_wp2_with fail
  refine bodyPost_ret (qw rfl _ _ B _ _ _ _ rfl (qa T).at_ Tryz.underlying28 rfl (by rw[List.size_toArray,qa4,qo];exact Tryz.infoHsh)) rfl ?_
  rw[qa R]
  exact⟨rfl,qa U⟩
 | true =>
  obtain⟨h0,h1⟩:=qnr (zaz M)
  obtain⟨n,rfl⟩:=Int.eq_ofNat_of_zero_le h0
  have e:qcp h f (n:Int)=(qce h n (qbk f),0):=by unfold qcp;rw[if_pos M];rfl
  have R:=qb e
  have hl:=qgw h hh n (qbk f)
  have a4:=qlb f
  have E:=fun W (Z:Tabs W)=>qso h hh n (qbk f) (by omega) a4 W Z
  have hp:=fun W (Z:Deb W)=>qju f W Z
  have hr:zx w2.drew A 0 32=some (zf h).toArray:=l.row
  have O:=qb g
  have N:=qb l
  have V:=qb y
  have X:=qb x
  have P:=qb v
  have HC:=qb E
  have HP:=qb hp
  clear e h0 l g y H Y M x L v E hp
  generalize qce h n (qbk f)=K at *
  generalize qbk f=p at *
  go_upto_region 3 with fail
  refine qb5 (fun w'=>zx w' A 0 32=some (zf h).toArray) [0] (.of [0,1,2,3,4,5,6]) (by kernel_rfl) (by kernel_rfl) hr ?_
  simp only[Plan.of]
  go_wp2_with (with_reducible first|(first|refine' qw1 (qg ?_) ?_|refine' qw2 (qg ?_) ?_|refine' qw3 (qg ?_) ?_);rotate_left|refine' qw4 (qg ?_)|refine' qw5 (qg ?_)|rfl|apply qn)
  refine(qa HP _ ((qa P).new ((Upd.refl _ _).drew))).mono ?_
  rintro e w3 ⟨rfl,q3⟩
  have I:qy w2 w3:=(q3.ofDrew).upd _
  have F:=((qa N).new I).row
  have E:=qa HC w3 ((qa X).new I)
  clear hr HP
  go_wp2_with (with_reducible first|(first|refine' qw1 (qg ?_) ?_|refine' qw2 (qg ?_) ?_|refine' qw3 (qg ?_) ?_);rotate_left|refine' qw4 (qg ?_)|refine' qw5 (qg ?_)|rfl|apply qn)
  refine⟨F,?_⟩
  go_wp2_with (with_reducible first|(first|refine' qw1 (qg ?_) ?_|refine' qw2 (qg ?_) ?_|refine' qw3 (qg ?_) ?_);rotate_left|refine' qw4 (qg ?_)|refine' qw5 (qg ?_)|rfl|apply qn)
  refine E.mono ?_
  rintro e w4 ⟨rfl,n4⟩
  have o:=((qa O).new I).new n4
  have n5:=((qa V).trans I).trans n4
  have a5:=o.stOk _ hl
  have T:=qb (o.put _ hl)
  have U:=qb (n5.then (qak (w:=w4) (b:=B) (zf K)) (fun i hi e=>by omega))
  clear o n5 I E n4 F
  go_wp2_with (with_reducible first|(first|refine' qw1 (qg ?_) ?_|refine' qw2 (qg ?_) ?_|refine' qw3 (qg ?_) ?_);rotate_left|refine' qw4 (qg ?_)|refine' qw5 (qg ?_)|rfl|apply qn)
  refine bodyPost_ret (qw rfl _ _ B _ _ _ _ rfl (qa T).at_ Tryz.underlying28 rfl (by rw[List.size_toArray,qa4,hl];exact Tryz.infoHsh)) rfl ?_
  rw[qa R]
  exact⟨rfl,qa U⟩
end Go.Proofs.YtjpmomdechibmaaGreatDoor
namespace Go.Proofs.YtjpmomdechibmaaGreatDoor
open Go.RowKit
attribute [local go_sem ↓ high] qaa qap qar qa1 qab qac qag qah
attribute [local go_sem] qcx qdn qdt qfm zq qcy qc0 qc2
def Ch.secret(c:Ch)(n:Int):List Int × Int:=if n<0∨c.k.heard≤n then (qad,1) else qc7 c.s.seed (65535-n)
theorem qnp(h:List Int)(f:h.length=32)(i:Int):(qc7 h i).1.length=32:=by
 unfold qc7
 split
 ·exact qgw h f _ _
 ·exact qo
theorem Ch.secret_len{c:Ch}(h:c.Ok)(n:Int):(c.secret n).1.length=32:=by
 unfold Ch.secret
 split
 ·exact qo
 ·exact qnp _ h.s.seed _
set_option maxRecDepth 100000 in
set_option maxHeartbeats 1000000 in
theorem q1j(g:Nat)(S:Nat→Prop)(c:Ch)(n:Int)(w:World)(h:ChS w g S c)(O:Tabs w)(V : -9223372036854775808≤n∧n≤9223372036854775807) :
  Calls Tryz.prog 29 #[.pointer (some ⟨g,0,none⟩),.int .i64 n] w (qa7 (.tuple #[.agg (zf (c.secret n).1).toArray,.int .i64 (c.secret n).2]) w):=by
 obtain⟨W,nv,U,h⟩:=h
 go_enter Tryz.func29,Tryz.ntmps29
 go_upto_region 1 with fail
 have f:=qb9 w qad qo
 have o:qy w (w.alloc (.cells (zf qad).toArray 28)):=(Upd.refl _ _).alloc _
 generalize w.alloc (.cells (zf qad).toArray 28)=w1 at f o ⊢
 obtain⟨B,q⟩:∃B,B=w.heap.size:=⟨_,rfl⟩
 rw[←q] at f ⊢
 have N:w.heap.size≤B:=by omega
 clear q
 have z:=h.new o
 have J:w1.cell? ⟨g,38,none⟩=some (.int .i64 c.k.heard):=z.toR.heard
 have m:=z.seed
 by_cases e:n<0∨c.k.heard≤n
 ·have t:c.secret n=(qad,1):=by unfold Ch.secret;rw[if_pos e]
  have D:=f.stOk qad qo
  have x:=qb (f.put qad qo)
  have y:=qb (o.then (qak (w:=w1) (b:=B) (zf qad)) (fun i P e=>by omega))
  have v:=qb t
  clear h z f o t
  by_cases L:n<0
  ·go_wp2_with fail
   refine bodyPost_ret (qw rfl _ _ B _ _ _ _ rfl (qa x).at_ Tryz.underlying28 rfl (by rw[List.size_toArray,qa4,qo];exact Tryz.infoHsh)) rfl ?_
   rw[qa v]
   exact⟨rfl,qa y⟩
  ·have M:c.k.heard≤n:=by omega
   clear e
   go_wp2_with fail
   refine bodyPost_ret (qw rfl _ _ B _ _ _ _ rfl (qa x).at_ Tryz.underlying28 rfl (by rw[List.size_toArray,qa4,qo];exact Tryz.infoHsh)) rfl ?_
   rw[qa v]
   exact⟨rfl,qa y⟩
 ·have t:c.secret n=qc7 c.s.seed (65535-n):=by unfold Ch.secret;rw[if_neg e]
  have L:¬n<0:=by omega
  have M:¬c.k.heard≤n:=by omega
  have R:IntKind.i64.wrap (65535-n)=65535-n:=qiz (by omega) (by omega)
  have F:=q8o c.s.seed h.ok.s.seed (65535-n) w1 (O.new o)
  have C:=qnp c.s.seed h.ok.s.seed (65535-n)
  have v:=qb t
  have H:=qb f
  have I:=qb o
  clear h z f o t e
  generalize qc7 c.s.seed (65535-n)=K at *
  go_wp2_with fail
  refine F.mono ?_
  rintro e T ⟨rfl,E⟩
  have l:=(qa H).new E
  have D:=l.stOk _ C
  have x:=qb (l.put _ C)
  have y:=qb (((qa I).trans E).then (qak (w:=T) (b:=B) (zf K.1)) (fun i P e=>by omega))
  clear l E F m
  go_wp2_with fail
  refine bodyPost_ret (qw rfl _ _ B _ _ _ _ rfl (qa x).at_ Tryz.underlying28 rfl (by rw[List.size_toArray,qa4,C];exact Tryz.infoHsh)) rfl ?_
  rw[qa v]
  exact⟨rfl,qa y⟩
def Ch.revocation(c:Ch):MsgV:=⟨7,c.s.ch,0,0,(c.secret (c.k.heard-1)).1,0,c.k.heard-1⟩
set_option maxRecDepth 100000 in
set_option maxHeartbeats 1000000 in
theorem qku(g:Nat)(S:Nat→Prop)(c:Ch)(w:World)(h:ChS w g S c)(hT:Tabs w) :
  Calls Tryz.prog 103 #[.pointer (some ⟨g,0,none⟩)] w (qa7 (.agg c.revocation.cells.toArray) w):=by
 obtain⟨lv,nv,Y,h⟩:=h
 have a5:=h.ok.heard
 go_enter Tryz.func103,Tryz.ntmps103
 go_upto_region 1 with fail
 have C:=qch w MsgV.zero qo
 have y:qy w (w.alloc (.cells MsgV.zero.cells.toArray 30)):=(Upd.refl _ _).alloc _
 generalize w.alloc (.cells MsgV.zero.cells.toArray 30)=w1 at C y ⊢
 obtain⟨B,q⟩:∃B,B=w.heap.size:=⟨_,rfl⟩
 rw[←q] at C ⊢
 have a4:w.heap.size≤B:=by omega
 clear q
 have z:=h.new y
 have o:w1.cell? ⟨g,38,none⟩=some (.int .i64 c.k.heard):=z.toR.heard
 have a7:IntKind.i64.wrap (c.k.heard-1)=c.k.heard-1:=qiz (by omega) (by omega)
 have R:=q1j g S c (c.k.heard-1) w1 ⟨lv,nv,Y,z⟩ (hT.new y) (by omega)
 have D:=Ch.secret_len h.ok (c.k.heard-1)
 have v:c.revocation=⟨7,c.s.ch,0,0,(c.secret (c.k.heard-1)).1,0,c.k.heard-1⟩:=rfl
 have V:=qb v
 have U:=qb C
 have X:=qb y
 have T:=qb z
 clear h z C y v
 generalize c.secret (c.k.heard-1)=K at *
 go_wp2_with fail
 refine R.mono ?_
 rintro e H ⟨rfl,E⟩
 obtain⟨x,t,F⟩:=qqm H K.1 D
 have P:=((qa T).new E).new F
 have I:=qb t
 have f:=qb (((qa U).new E).new F)
 have m:=qb (((qa X).trans E).trans F)
 have M:=qb P
 clear R E t F P o
 go_upto_region 2 with fail
 change Code.wp _ _ _ _ (qs5 H K.1)
 generalize qs5 H K.1=l at I f m M ⊢
 generalize H.heap.size=A at I ⊢
 have J:=qa M
 have a6:=(qa I).row
 have Z:l.cell? ⟨g,0,none⟩=some (.int .u32 c.s.ch):=J.toR.ch
 have o:l.cell? ⟨g,38,none⟩=some (.int .i64 c.k.heard):=J.toR.heard
 have L:=fun W=>qzm 7 c.s.ch (c.k.heard-1) K.1 D W
 have x:stOk l.drew B 0 38 (MsgV.cells ⟨7,c.s.ch,0,0,K.1,0,c.k.heard-1⟩).toArray=true:=(qa f).stOk (k:=⟨7,c.s.ch,0,0,K.1,0,c.k.heard-1⟩) D
 have nd:qy l l.drew:=(Upd.refl _ _).drew
 have N:=qb (((qa f).new nd).put (k:=⟨7,c.s.ch,0,0,K.1,0,c.k.heard-1⟩) D)
 have O:=qb (((qa m).trans nd).then (qak (w:=l.drew) (b:=B) (MsgV.cells ⟨7,c.s.ch,0,0,K.1,0,c.k.heard-1⟩)) (fun i hi e=>by omega))
 clear J nd
 rw[←qa V] at x N O L
 go_wp2_with (with_reducible first|(first|refine' zr (qg ?_) ?_|refine' zt (qg ?_) ?_);rotate_left|refine' zu (qg ?_)|rfl|apply tn|refine' zv ?_)
 have t:=qa N
 exact bodyPost_ret (results_cell_row rfl _ _ B _ _ _ _ rfl t.at_ Tryz.underlying30 rfl (by rw[t.agg];exact Tryz.infoMsg)) rfl ⟨rfl,qa O⟩
end Go.Proofs.YtjpmomdechibmaaGreatDoor
namespace Go.Proofs.YtjpmomdechibmaaGreatDoor
open Go.RowKit Go.ChangeShapes Go.WideShapes Go.ChangeAt Go.Deep
inductive Leaf where
 | bool
 | int (k:IntKind)
 | str
 deriving DecidableEq
def Leaf.fits:Leaf→Value→Prop
 | .bool,v=>∃b,v = .bool b
 | .int k,v=>∃n,v = .int k n∧(Lit.int k n).wf=true
 | .str,v=>∃s:ByteArray,v = .string s∧s.size≤maxLen
def qdh:List Leaf→List Value→Prop
 | [],cs=>cs=[]
 | l::ls,cs=>∃v r,cs=v::r∧l.fits v∧qdh ls r
theorem qdh.len:∀ {ls:List Leaf} {cs:List Value},qdh ls cs→cs.length=ls.length
 | [],_,h=>by rw[show _=[] from h];rfl
 | l::ls,_,h=>by obtain⟨v,r,rfl,_,f⟩:=h;simp[f.len]
theorem qdh.app:∀ {ls g:List Leaf} {cs f:List Value},qdh ls cs→qdh g f→qdh (ls++g) (cs++f)
 | [],_,_,_,h,k=>by rw[show _=[] from h];exact k
 | l::ls,_,_,_,h,k=>by obtain⟨v,r,rfl,m,i⟩:=h;exact⟨v,_,rfl,m,i.app k⟩
theorem qdh.split:∀ {ls f:List Leaf} {cs:List Value},qdh (ls++f) cs→∃a b,cs=a++b∧qdh ls a∧qdh f b
 | [],_,cs,h=>⟨[],cs,rfl,rfl,h⟩
 | l::ls,_,_,h=>by
  obtain⟨v,r,rfl,o,m⟩:=h
  obtain⟨a,b,rfl,g,i⟩:=qdh.split m
  exact⟨v::a,b,rfl,⟨v,a,rfl,o,g⟩,i⟩
theorem qdh.cat:∀ {L:List (List Leaf)} {C:List (List Value)},L.length=C.length→(∀(i:Nat) l c,L[i]? = some l→C[i]? = some c→qdh l c)→qdh L.flatten C.flatten
 | [],[],_,_=>rfl
 | [],_::_,h,_=>by simp at h
 | _::_,[],h,_=>by simp at h
 | l::L,c::C,h,k=>by
  rw[List.flatten_cons,List.flatten_cons]
  exact(k 0 l c rfl rfl).app (qdh.cat (by simpa using h) fun i x y f g=>k (i+1) x y f g)
def qbr(P:Program)(rec:TypeId→Option (List Leaf)):Nat→List Field→Option (List Leaf)
 | _,[]=>some []
 | o,f::r=>match rec f.type with
  | none=>none
  | some l=>if f.offset=o∧P.cellsOf f.type=l.length then (qbr P rec (o+l.length) r).map (l ++ ·) else none
def qcv(P:Program):Nat→TypeId→Option (List Leaf)
 | 0,_=>none
 | n+1,t=>match P.underlying t with
  | some .bool=>some [.bool]
  | some (.int k)=>some [.int k]
  | some .string=>some [.str]
  | some (.struct f)=>match qbr P (qcv P n) 0 f.toList with
   | some l=>if P.cellsOf t=l.length then some l else none
   | none=>none
  | some (.array m e)=>match qcv P n e with
   | some l=>if P.cellsOf e=l.length∧P.cellsOf t=m*l.length then some (List.replicate m l).flatten else none
   | none=>none
  | _=>none
section
variable {H:Type}{enc:TypeId × Value→H}{P:Program}{w:World}{base:Nat}{spare:Nat→Bool}{held:Bool}
theorem qp6{rec:TypeId→Option (List Leaf)}{cs:List Value}(m:∀t l c x i,rec t=some l→DataW.trod enc P w base spare held i t c=some x→qdh l c) :
  ∀(y:List Field) (o:Nat) (L:List Leaf),qbr P rec o y=some L→cs.length=o+L.length →
   (∀f∈y,∃i x,DataW.trod enc P w base spare held i f.type ((cs.drop f.offset).take (P.cellsOf f.type))=some x)→qdh L (cs.drop o)
 | [],o,L,h,q,_=>by
  simp only[qbr,Option.some.injEq] at h
  subst h
  show cs.drop o=[]
  exact List.drop_eq_nil_of_le (by simp at q;omega)
 | f::r,o,L,h,q,C=>by
  unfold qbr at h
  cases v:rec f.type with
  | none=>rw[v] at h;cases h
  | some l =>
   rw[v] at h
   simp only at h
   split at h
   ·rename_i F
    obtain⟨K,J⟩:=F
    rw[Option.map_eq_some_iff] at h
    obtain⟨M,E,rfl⟩:=h
    obtain⟨i,x,N⟩:=C f (List.mem_cons_self ..)
    have z:=m _ _ _ _ _ v N
    rw[K,J] at z
    rw[List.length_append] at q
    have D:=qp6 m r (o+l.length) M E (by omega) (fun g I=>C g (List.mem_cons_of_mem _ I))
    have e:cs.drop o=(cs.drop o).take l.length++cs.drop (o+l.length):=by
     rw[←List.drop_drop,List.take_append_drop]
    rw[e]
    exact z.app D
   ·cases h
theorem qp1(k:Nat):∀(m:Nat) (cs:List Value),cs.length=m*k→cs=((List.range m).map fun i=>(cs.drop (i*k)).take k).flatten
 | 0,cs,h=>by
  have:cs=[]:=List.length_eq_zero_iff.1 (by omega)
  subst this;rfl
 | m+1,cs,h=>by
  have f:=qp1 k m (cs.drop k) (by rw[List.length_drop,h,Nat.succ_mul];omega)
  rw[List.range_succ_eq_map,List.map_cons,List.flatten_cons,Nat.zero_mul,List.drop_zero,List.map_map]
  have e:((List.range m).map ((fun i=>(cs.drop (i*k)).take k) ∘ Nat.succ))=((List.range m).map fun i=>((cs.drop k).drop (i*k)).take k):=by
   apply List.map_congr_left
   intro i _
   show (cs.drop ((i+1)*k)).take k=_
   rw[List.drop_drop,Nat.succ_mul,Nat.add_comm]
  rw[e,←f,List.take_append_drop]
theorem qnk:∀(n:Nat) (t:TypeId) (l:List Leaf) (cs:List Value) (x:DataW H × List MemPlace) (g:Nat),qcv P n t=some l→DataW.trod enc P w base spare held g t cs=some x→qdh l cs
 | 0,_,_,_,_,_,h,_=>by simp[qcv] at h
 | n+1,t,l,cs,x,g,h,C=>by
  unfold qcv at h
  split at h
  ·rename_i o
   obtain⟨b,rfl,_⟩:=DataW.trod_bool o C
   simp only[Option.some.injEq] at h
   subst h
   exact⟨_,_,rfl,⟨b,rfl⟩,rfl⟩
  ·rename_i k o
   obtain⟨z,rfl,_,M⟩:=DataW.trod_int o C
   simp only[Option.some.injEq] at h
   subst h
   exact⟨_,_,rfl,⟨z,rfl,M⟩,rfl⟩
  ·rename_i o
   obtain⟨s,rfl,_,M⟩:=DataW.trod_string o C
   simp only[Option.some.injEq] at h
   subst h
   exact⟨_,_,rfl,⟨s,rfl,M⟩,rfl⟩
  ·rename_i O o
   split at h
   ·rename_i L F
    split at h
    ·rename_i N
     simp only[Option.some.injEq] at h
     subst h
     obtain⟨xs,m,_,_,y,D,I⟩:=DataW.trod_struct o C
     refine qp6 (rec:=qcv P n) (cs:=cs) (fun t l c x g R T=>qnk n t l c x g R T) O.toList 0 L F (by omega) fun f J=> ?_
     obtain⟨i,q⟩:=List.getElem?_of_mem J
     rw[Array.getElem?_toList] at q
     have:=I i f q
     have K:i<xs.length:=by rw[D];exact(Array.getElem?_eq_some_iff.1 q).1
     rw[List.getElem?_eq_getElem K] at this
     exact⟨m,_,this⟩
    ·cases h
   ·cases h
  ·rename_i m e o
   split at h
   ·rename_i L F
    split at h
    ·rename_i N
     simp only[Option.some.injEq] at h
     subst h
     obtain⟨xs,k,_,_,y,D,I⟩:=DataW.trod_array o C
     rw[qp1 L.length m cs (by omega)]
     refine qdh.cat (by simp) fun i a c E v=> ?_
     obtain⟨q,rfl⟩:i<m∧a=L:=by
      rw[List.getElem?_replicate] at E
      split at E
      ·exact⟨‹_›,(Option.some.inj E).symm⟩
      ·cases E
     rw[List.getElem?_map,List.getElem?_range q,Option.map_some,Option.some.injEq] at v
     subst v
     have:=I i q
     rw[N.1,List.getElem?_eq_getElem (by omega)] at this
     exact qnk n e _ _ _ k F this
    ·cases h
   ·cases h
  ·cases h
theorem q2w{α:Type}{R:Nat→α→Prop} : ∀ {n:Nat},(∀i,i<n→∃a,R i a)→∃L:List α,L.length=n∧∀(i:Nat) a,L[i]? = some a→R i a
 | 0,_=>⟨[],rfl,by simp⟩
 | n+1,h=>by
  obtain⟨L,g,l⟩:=q2w (n:=n) fun i o=>h i (by omega)
  obtain⟨a,m⟩:=h n (by omega)
  refine⟨L++[a],by simp[g],fun i b f=> ?_⟩
  rw[List.getElem?_append] at f
  split at f
  ·exact l i b f
  ·rename_i o
   obtain⟨rfl,rfl⟩:i=n∧b=a:=by
    rw[List.getElem?_singleton] at f
    split at f
    ·exact⟨by omega,(Option.some.inj f).symm⟩
    ·cases f
   exact m
theorem qo5{t e:TypeId}{v:Value}{d:DataW H}{p:List MemPlace}{l:List Leaf}{W:World}{b0:Nat}(n:Nat)(V:P.underlying t=some (.slice e))(hl:qcv P n e=some l)(U:P.cellsOf e=l.length)(hz:0<l.length)
  (hv:Value.okWide P W .any b0 t v) (h:DataW.Trod enc P W 0 (fun _=>true) true t v d p) :
  ∃L:List (List Value),(∀c∈L,qdh l c)∧((∃a cap,v = .slice a 0 cap∧L=[]) ∨
   ∃g off cap,v = .slice (some ⟨g,off,none⟩) L.length cap∧0<L.length∧L.length≤cap∧cap≤maxLen∧(∀j,j<L.length*l.length→MemPlace.cell g (off+j)∈p)∧∀i c,L[i]? = some c→∀j,j<l.length→W.cell? ⟨g,off+(i*l.length+j),none⟩=c[j]?):=by
 obtain⟨a0,len,cap,rfl⟩:=okWide_slice V hv
 obtain⟨T,hf⟩:=h
 rcases open_slice V hf with ⟨f,_⟩ | ⟨a,Y,O,m,k,D,Pl,f,_,a4,hm,C,X,hi⟩
 ·simp[Value.cells] at f
  obtain⟨rfl,rfl,rfl⟩:=f
  exact⟨[],by simp,.inl ⟨_,_,rfl,rfl⟩⟩
 ·simp[Value.cells] at f
  obtain⟨rfl,rfl,rfl⟩:=f
  by_cases h0:len=0
  ·subst h0
   exact⟨[],by simp,.inl ⟨_,_,rfl,rfl⟩⟩
  ·replace C:m=cap:=by simpa using C
   obtain⟨L,hL,J⟩:=q2w (n:=len) (R:=fun i o=>W.cells? 0 (a.add (i*P.cellsOf e)) (P.cellsOf e)=some o∧DataW.trod enc P W 0 (fun _=>true) true k e o=some (D i,Pl i)) fun i a5=>by
    obtain⟨o,z,I⟩:=hi i (by omega)
    exact⟨o,z,I⟩
   obtain⟨b,off,E⟩:=a
   have y:E=none:=by
    obtain⟨F,M⟩:∃c,L[0]? = some c:=⟨_,List.getElem?_eq_getElem (by omega)⟩
    obtain⟨z,I⟩:=J 0 F M
    obtain⟨_,N,q⟩:=World.cells?_some z
    have:=q 0 (by omega)
    rw[Nat.zero_mul] at this
    have h3:F[0]? = some (F[0]'(by omega)):=List.getElem?_eq_getElem (by omega)
    rw[h3] at this
    simpa [Addr.add] using World.cell?_spot this
   subst y
   refine⟨L,?_,.inr ⟨b,off,cap,by rw[hL],by omega,by omega,hm,?_,?_⟩⟩
   ·intro c K
    obtain⟨i,x⟩:=List.getElem?_of_mem K
    exact qnk n e l c _ k hl (J i c x).2
   ·intro j hj
    simp only[Prod.mk.injEq] at X
    rw[X.2]
    refine List.mem_append_left _ ?_
    unfold MemPlace.row
    rw[List.mem_map]
    have:L.length*l.length≤m*l.length:=Nat.mul_le_mul_right _ (by omega)
    exact⟨j,by rw[List.mem_range,U];omega,rfl⟩
   ·intro i c x j hj
    obtain⟨z,I⟩:=J i c x
    obtain⟨_,N,q⟩:=World.cells?_some z
    have:=q j (by omega)
    rw[add_add,U] at this
    have Z:(⟨b,off,none⟩:Addr).add (i*l.length+j)=⟨b,off+(i*l.length+j),none⟩:=by unfold Addr.add;split<;>simp_all
    rwa [Z] at this
end
def qhx(P:Program)(t:TypeId):Bool:=match P.underlying t with | some (.struct _)=>true | some (.array _ _)=>true | _=>false
def mkV(P:Program)(t:TypeId)(cs:List Value):Value:=if qhx P t then .agg cs.toArray else cs.headD undef
def eqB(P:Program):Nat→TypeId→Bool
 | 0,_=>false
 | n+1,t=>(P.info? t).isSome&&match P.underlying t with
  | some .bool=>true
  | some (.int _)=>true
  | some .string=>true
  | some (.struct g)=> !P.stoodInHeld t&&g.toList.all fun f=>f.name != "_"&&eqB P n f.type
  | some (.array _ e)=>eqB P n e
  | _=>false
section
variable {P:Program}
theorem qwu{n:Nat}{t:TypeId}(h:eqB P n t=true):∃i,P.info? t=some i:=by
 cases n with
 | zero=>cases h
 | succ n =>
  unfold eqB at h
  simp only[Bool.and_eq_true] at h
  exact Option.isSome_iff_exists.1 h.1
theorem qrg{t:TypeId}{i:TypeInfo}(h:P.info? t=some i)(w:World):(sizeOf t).run P w = .ok (P.cellsOf t) w:=by
 simp[sizeOf,typeInfo,h,Program.cellsOf]
theorem q4e{n:Nat}{t:TypeId}{l:List Leaf}(h:qcv P n t=some l)(f:qhx P t=false):∃k,l=[k]:=by
 cases n with
 | zero=>simp[qcv] at h
 | succ n =>
  unfold qcv at h
  unfold qhx at f
  split at h
  ·exact⟨_,(Option.some.inj h).symm⟩
  ·exact⟨_,(Option.some.inj h).symm⟩
  ·exact⟨_,(Option.some.inj h).symm⟩
  ·rename_i g;rw[g] at f;cases f
  ·rename_i g;rw[g] at f;cases f
  ·cases h
theorem q7u{n:Nat}{t:TypeId}{l:List Leaf}(h:qcv P n t=some l):∃d,P.underlying t=some d:=by
 cases n with
 | zero=>simp[qcv] at h
 | succ n =>
  unfold qcv at h
  cases f:P.underlying t with
  | none=>rw[f] at h;cases h
  | some d=>exact⟨d,rfl⟩
theorem qm1{n:Nat}{t:TypeId}{l:List Leaf}(h:qcv P n t=some l)(v:P.cellsOf t=l.length){i:TypeInfo}(x:P.info? t=some i)(xs:List Value)(o:Nat)(y:o+l.length≤xs.length)(w:World) :
  (part t xs.toArray o).run P w = .ok (mkV P t ((xs.drop o).take l.length)) w:=by
 obtain⟨d,q⟩:=q7u h
 unfold part mkV
 cases f:qhx P t with
 | true =>
  have g:(isAgg t).run P w = .ok true w:=by
   unfold qhx at f
   unfold isAgg
   simp only[Sem.run_bind,run_underlying q,Result.andThen_ok]
   rw[q] at f
   cases d<;>simp at f ⊢
  simp only[Sem.run_bind,g,Result.andThen_ok,if_true,qrg x,Sem.run_pure]
  congr 2
  apply Array.ext'
  rw[v]
  simp[List.extract_eq_take_drop,List.take_drop]
 | false =>
  have g:(isAgg t).run P w = .ok false w:=by
   unfold qhx at f
   unfold isAgg
   simp only[Sem.run_bind,run_underlying q,Result.andThen_ok]
   rw[q] at f
   cases d<;>simp at f ⊢
  obtain⟨k,rfl⟩:=q4e h f
  have m:o<xs.length:=by simp at y;omega
  have z:xs.toArray[o]? = some xs[o]:=by simp[m]
  simp only[Sem.run_bind,g,Result.andThen_ok,Bool.false_eq_true,if_false,z,Sem.run_pure]
  congr 1
  rw[List.drop_eq_getElem_cons m]
  rfl
theorem zd1{a b c d:List Value}(h:a.length=b.length):a++c=b++d↔a=b∧c=d :=
 ⟨fun e=>List.append_inj e h,fun⟨e,f⟩=>by rw[e,f]⟩
theorem qll{rec:TypeId→Option (List Leaf)}{d:Nat}{xs q:List Value}
  (m:∀t l,rec t=some l→P.cellsOf t=l.length→∀o,o+l.length≤xs.length→(part t xs.toArray o).run P=(fun w=> .ok (mkV P t ((xs.drop o).take l.length)) w)∧(part t q.toArray o).run P=(fun w=> .ok (mkV P t ((q.drop o).take l.length)) w))
  (v:∀t l,rec t=some l→∀a b,qdh l a→qdh l b→∀r:Bool,(r=true↔a=b)→∀w,(Op.equalIn d t (mkV P t a) (mkV P t b)).run P w = .ok r w) :
  ∀(x:List Field) (o:Nat) (L:List Leaf),qbr P rec o x=some L→(∀f∈x,f.name≠"_")→xs.length=o+L.length→q.length=o+L.length→qdh L (xs.drop o)→qdh L (q.drop o) →
   ∀r:Bool,(r=true↔xs.drop o=q.drop o)→∀w,(Op.eqFields d xs.toArray q.toArray x).run P w = .ok r w
 | [],o,L,h,_,H,I,_,_,r,z,w=>by
  simp only[qbr,Option.some.injEq] at h
  subst h
  have:r=true:=z.2 (by rw[List.drop_eq_nil_of_le (by simp at H;omega),List.drop_eq_nil_of_le (by simp at I;omega)])
  subst this
  rfl
 | f::x,o,L,h,N,H,I,T,U,r,z,w=>by
  unfold qbr at h
  cases y:rec f.type with
  | none=>rw[y] at h;cases h
  | some l =>
   rw[y] at h
   simp only at h
   split at h
   ·rename_i W
    obtain⟨Z,Y⟩:=W
    rw[Option.map_eq_some_iff] at h
    obtain⟨M,V,rfl⟩:=h
    rw[List.length_append] at H I
    obtain⟨a,O,ea,C,D⟩:=T.split
    obtain⟨b,R,eb,E,F⟩:=U.split
    have la:=C.len
    have lb:=E.len
    have ta:(xs.drop o).take l.length=a:=by rw[ea,←la];simp
    have tb:(q.drop o).take l.length=b:=by rw[eb,←lb];simp
    have J:xs.drop (o+l.length)=O:=by rw[←List.drop_drop,ea,←la];simp
    have K:q.drop (o+l.length)=R:=by rw[←List.drop_drop,eb,←lb];simp
    obtain⟨p1,p2⟩:=m f.type l y Y o (by omega)
    unfold Op.eqFields
    rw[if_pos (N f (List.mem_cons_self ..)),Z]
    simp only[Sem.run_bind,p1,p2,Result.andThen_ok,ta,tb]
    rw[ea,eb,zd1 (by rw[la,lb])] at z
    by_cases i:a=b
    ·rw[v f.type l y a b C E true (by simp[i]) w]
     simp only[Result.andThen_ok,Bool.not_true,Bool.false_eq_true,if_false]
     refine qll m v x (o+l.length) M V (fun g X=>N g (List.mem_cons_of_mem _ X)) (by omega) (by omega) (by rw[J];exact D) (by rw[K];exact F) r ?_ w
     rw[J,K,z]
     simp[i]
    ·rw[v f.type l y a b C E false (by simp[i]) w]
     have:r=false:=by
      cases r with
      | false=>rfl
      | true=>exact absurd (z.1 rfl).1 i
     subst this
     simp
   ·cases h
theorem qgy:∀(n d:Nat) (t:TypeId) (l:List Leaf) (xs y:List Value),n≤d→eqB P n t=true→qcv P n t=some l→qdh l xs→qdh l y→∀r:Bool,(r=true↔xs=y)→∀w,(Op.equalIn d t (mkV P t xs) (mkV P t y)).run P w = .ok r w
 | 0,_,_,_,_,_,_,h,_,_,_,_,_,_=>by cases h
 | n+1,d,t,l,xs,y,hd,K,h,I,J,r,M,w=>by
  obtain⟨d,rfl⟩:∃d',d=d'+1:=⟨d-1,by omega⟩
  have a4:=h
  unfold qcv at h
  split at h
  ·rename_i q
   simp only[Option.some.injEq] at h
   subst h
   obtain⟨_,_,rfl,⟨a,rfl⟩,rfl⟩:=I
   obtain⟨_,_,rfl,⟨b,rfl⟩,rfl⟩:=J
   have v:qhx P t=false:=by unfold qhx;rw[q]
   unfold mkV
   rw[v]
   simp only[Bool.false_eq_true,if_false,List.headD_cons]
   rw[run_equalIn_bool' w d t a b q]
   congr 1
   rw[Bool.eq_iff_iff,M]
   simp
  ·rename_i k q
   simp only[Option.some.injEq] at h
   subst h
   obtain⟨_,_,rfl,⟨a,rfl,_⟩,rfl⟩:=I
   obtain⟨_,_,rfl,⟨b,rfl,_⟩,rfl⟩:=J
   have v:qhx P t=false:=by unfold qhx;rw[q]
   unfold mkV
   rw[v]
   simp only[Bool.false_eq_true,if_false,List.headD_cons]
   rw[run_equalIn_int w d t k k a b q]
   congr 1
   rw[Bool.eq_iff_iff,M]
   simp
  ·rename_i q
   simp only[Option.some.injEq] at h
   subst h
   obtain⟨_,_,rfl,⟨a,rfl,_⟩,rfl⟩:=I
   obtain⟨_,_,rfl,⟨b,rfl,_⟩,rfl⟩:=J
   have v:qhx P t=false:=by unfold qhx;rw[q]
   unfold mkV
   rw[v]
   simp only[Bool.false_eq_true,if_false,List.headD_cons]
   rw[run_equalIn_string w d t a b q]
   congr 1
   rw[Bool.eq_iff_iff,M,beq_iff_eq,ByteArray.toList_eq,ByteArray.toList_eq]
   constructor
   ·intro h
    have:a=b:=by
     obtain⟨a⟩:=a
     obtain⟨b⟩:=b
     exact congrArg ByteArray.mk (Array.ext' h)
    rw[this]
   ·intro h
    cases h
    rfl
  ·rename_i fs q
   split at h
   ·rename_i L U
    split at h
    ·rename_i W
     simp only[Option.some.injEq] at h
     subst h
     unfold eqB at K
     rw[q] at K
     simp only[Bool.and_eq_true,Bool.not_eq_true'] at K
     obtain⟨_,hp,a5⟩:=K
     have v:qhx P t=true:=by unfold qhx;rw[q]
     unfold mkV
     rw[v]
     simp only[if_true]
     have X:P.fieldsOf t=fs:=by unfold Program.fieldsOf;rw[q]
     rw[run_equalIn_struct w d t _ _ (by rw[X];exact q) hp,X]
     have hx:=I.len
     have hy:=J.len
     have Y:∀f∈fs.toList,f.name≠"_"∧eqB P n f.type=true:=fun f O=>by
      have:=List.all_eq_true.1 a5 f O
      simpa using this
     refine qll (rec:=fun t=>if eqB P n t then qcv P n t else none) (fun t' l' z h2 o ho=> ?_) (fun t' l' z a b fa fb r M w=> ?_) fs.toList 0 L ?_ (fun f O=>(Y f O).1) (by omega) (by omega) I J r M w
     ·by_cases D:eqB P n t'=true
      ·rw[if_pos D] at z
       obtain⟨i,x⟩:=qwu D
       exact⟨funext fun w=>qm1 z h2 x xs o ho w,funext fun w=>qm1 z h2 x y o (by omega) w⟩
      ·rw[if_neg D] at z;cases z
     ·by_cases D:eqB P n t'=true
      ·rw[if_pos D] at z
       exact qgy n d t' l' a b (by omega) D z fa fb r M w
      ·rw[if_neg D] at z;cases z
     ·have key:∀(T:List Field) (o:Nat),(∀f∈T,eqB P n f.type=true)→qbr P (fun t=>if eqB P n t then qcv P n t else none) o T=qbr P (qcv P n) o T:=by
       intro T
       induction T with
       | nil=>intro o _;rfl
       | cons g T V =>
        intro o hg
        unfold qbr
        rw[if_pos (hg g (List.mem_cons_self ..))]
        cases qcv P n g.type with
        | none=>rfl
        | some l=>simp only[V _ fun f O=>hg f (List.mem_cons_of_mem _ O)]
      rw[key fs.toList 0 fun f O=>(Y f O).2]
      exact U
    ·cases h
   ·cases h
  ·rename_i m e q
   split at h
   ·rename_i L U
    split at h
    ·rename_i W
     simp only[Option.some.injEq] at h
     subst h
     unfold eqB at K
     rw[q] at K
     simp only[Bool.and_eq_true] at K
     obtain⟨_,N⟩:=K
     obtain⟨ie,R⟩:=qwu N
     have v:qhx P t=true:=by unfold qhx;rw[q]
     unfold mkV
     rw[v]
     simp only[if_true]
     have Z:((List.replicate m L).flatten).length=m*L.length:=by simp
     have hx:=I.len
     have hy:=J.len
     rw[Z] at hx hy
     have E:∀(m:Nat) (zs:List Value),qdh (List.replicate m L).flatten zs→∀i,i<m→qdh L ((zs.drop (i*L.length)).take L.length):=by
      intro m
      induction m with
      | zero=>intro zs _ i x;omega
      | succ m V =>
       intro zs hz i x
       rw[List.replicate_succ,List.flatten_cons] at hz
       obtain⟨a,b,rfl,v,D⟩:=hz.split
       cases i with
       | zero=>rw[Nat.zero_mul,List.drop_zero,←v.len,List.take_left];exact v
       | succ i =>
        have:=V b D i (by omega)
        rw[Nat.succ_mul,Nat.add_comm,←List.drop_drop,←v.len,List.drop_left]
        rw[v.len]
        exact this
     have F:(r=true↔∀i∈List.range' 0 m 1,(xs.drop (i*L.length)).take L.length=(y.drop (i*L.length)).take L.length):=by
      rw[M]
      constructor
      ·rintro rfl i _;rfl
      ·intro H
       rw[qp1 L.length m xs hx,qp1 L.length m y hy]
       congr 1
       apply List.map_congr_left
       intro i x
       exact H i (by simpa using List.mem_range.1 x)
     unfold Op.equalIn
     simp only[Sem.run_bind,run_underlying q,Result.andThen_ok,qrg R,Std.Legacy.Range.forIn_eq_forIn_range',Std.Legacy.Range.size,Nat.sub_zero,Nat.add_sub_cancel,Nat.div_one]
     have hl:∀i∈List.range' 0 m 1,i<m:=fun i x=>by simpa using (List.mem_range'_1.1 x).2
     clear M
     generalize List.range' 0 m 1=is at hl F ⊢
     induction is with
     | nil =>
      have:r=true:=F.2 (by simp)
      subst this
      simp
     | cons i is V =>
      have x:i<m:=hl i (by simp)
      have a6:i*L.length+L.length≤m*L.length:=by have:=Nat.mul_le_mul_right L.length (show i+1≤m from x);rw[Nat.succ_mul] at this;exact this
      rw[W.1]
      rw[W.1] at V
      have px:=qm1 U W.1 R xs (i*L.length) (by omega) w
      have py:=qm1 U W.1 R y (i*L.length) (by omega) w
      simp only[List.forIn_cons,Sem.run_bind,px,py,Result.andThen_ok]
      by_cases C:(xs.drop (i*L.length)).take L.length=(y.drop (i*L.length)).take L.length
      ·rw[qgy n d e L _ _ (by omega) N U (E m xs I i x) (E m y J i x) true (by simp[C]) w]
       simp only[Result.andThen_ok,Bool.not_true,Bool.false_eq_true,if_false,Sem.run_pure]
       refine V (fun j hj=>hl j (by simp[hj])) ?_
       rw[F]
       simp[C]
      ·rw[qgy n d e L _ _ (by omega) N U (E m xs I i x) (E m y J i x) false (by simp[C]) w]
       have:r=false:=by
        cases r with
        | false=>rfl
        | true=>exact absurd (F.1 rfl i (by simp)) C
       subst this
       simp
    ·cases h
   ·cases h
  ·cases h
theorem qjt(n:Nat){t:TypeId}{l:List Leaf}(v:n≤10000)(o:eqB P n t=true)(q:qcv P n t=some l)(m:qhx P t=true){xs f:List Value}(g:qdh l xs)(i:qdh l f)(r:Bool)(x:r=true↔xs=f)(w:World) :
  (binOp .eql t (.agg xs.toArray) (.agg f.toArray)).run P w = .ok (.bool r) w:=by
 have:=qgy n 10000 t l xs f v o q g i r x w
 unfold mkV at this
 rw[m] at this
 simp only[if_true] at this
 rw[run_eql_struct,this]
 rfl
theorem qvu(n:Nat){t:TypeId}{l:List Leaf}(v:n≤10000)(o:eqB P n t=true)(q:qcv P n t=some l)(m:qhx P t=true){xs f:List Value}(g:qdh l xs)(i:qdh l f)(r:Bool)(x:r=true↔xs=f)(w:World) :
  (binOp .neq t (.agg xs.toArray) (.agg f.toArray)).run P w = .ok (.bool (!r)) w:=by
 have:=qgy n 10000 t l xs f v o q g i r x w
 unfold mkV at this
 rw[m] at this
 simp only[if_true] at this
 rw[run_neq_struct,this]
 rfl
end
end Go.Proofs.YtjpmomdechibmaaGreatDoor
namespace Go.Proofs.YtjpmomdechibmaaGreatDoor
open Go.RowKit
def qa6(h:List Int):Prop:=∀b∈h,0≤b∧b≤255
theorem Tryz.flatHsh:qcv Tryz.prog 5 28=some (List.replicate 32 (.int .u8)):=by kernel_rfl
theorem Tryz.eqHsh:eqB Tryz.prog 5 28=true:=by kernel_rfl
theorem Tryz.aggHsh:qhx Tryz.prog 28=true:=by kernel_rfl
theorem q3f{x:Int}(h:0≤x∧x≤255):(Lit.int .u8 x).wf=true:=by
 simp[Lit.wf,IntKind.min,IntKind.max,IntKind.signed,IntKind.bits];omega
theorem qlv(k:IntKind):∀(l:List Int),(∀x∈l,(Lit.int k x).wf=true)→qdh (List.replicate l.length (.int k)) (l.map (Value.int k))
 | [],_=>rfl
 | x::l,h=>⟨_,_,rfl,⟨_,rfl,h x (List.mem_cons_self ..)⟩,qlv k l fun y f=>h y (List.mem_cons_of_mem _ f)⟩
theorem qkj{h:List Int}(g:h.length=32)(f:qa6 h):qdh (List.replicate 32 (.int .u8)) (zf h):=by
 have:=qlv .u8 h fun n i=>q3f (f n i)
 rwa [g] at this
theorem qki{a b:List Int}(h:zf a=zf b):a=b:=by
 unfold zf at h
 exact(List.map_inj_right (fun x y e=>by injection e)).1 h
def zdb(x y:Value):Sem Value:=binOp .neq 28 x y
theorem qkr(x y:Value):binOp .neq 28 x y=zdb x y:=rfl
theorem q8z{a b:List Int}(g:a.length=32)(i:b.length=32)(ba:qa6 a)(f:qa6 b)(w:World):(zdb (.agg (zf a).toArray) (.agg (zf b).toArray)).run Tryz.prog w = .ok (.bool (a != b)) w:=by
 have:=qvu 5 (by decide) Tryz.eqHsh Tryz.flatHsh Tryz.aggHsh (qkj g ba) (qkj i f) (a==b) (by constructor<;>intro e<;>simp_all [qki];exact qki e) w
 exact this
def eqHsh(x y:Value):Sem Value:=binOp .eql 28 x y
theorem qwv(x y:Value):binOp .eql 28 x y=eqHsh x y:=rfl
theorem zd2{a b:List Int}(g:a.length=32)(i:b.length=32)(ba:qa6 a)(f:qa6 b)(w:World):(eqHsh (.agg (zf a).toArray) (.agg (zf b).toArray)).run Tryz.prog w = .ok (.bool (a==b)) w:=by
 have:=qjt 5 (by decide) Tryz.eqHsh Tryz.flatHsh Tryz.aggHsh (qkj g ba) (qkj i f) (a==b) (by constructor<;>intro e<;>simp_all [qki];exact qki e) w
 exact this
theorem qwj(h:List Int)(n:Nat):qa6 (qgv h n):=by
 induction n with
 | zero=>intro x f;rw[qi8] at f;have:=List.eq_of_mem_replicate f;omega
 | succ n g =>
  intro x f
  rw[qi7] at f
  rcases List.mem_or_eq_of_mem_set f with h | rfl
  ·exact g x h
  ·unfold byI;omega
theorem qez(s:ByteArray):qa6 (qf7 s):=qwj _ _
theorem qde:qa6 qad:=by
 intro b f
 have:=List.eq_of_mem_replicate f
 omega
end Go.Proofs.YtjpmomdechibmaaGreatDoor
