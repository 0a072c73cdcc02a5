/-
  Package secret: isNumber, Place, Can.
-/
import Derived.Test.YthnohmjbbeahmaaGreatDoorTxt
import Derived.Test.YthnohmjbbeahmaaGreatDoorProg
import Derived.Lib.TrailingZeros
import Derived.Laws.Bits64b
import Derived.Test.YthnohmjbbeahmaaGreatDoorSec2
import Derived.Test.YthnohmjbbeahmaaGreatDoorMba
import Derived.Test.YthnohmjbbeahmaaGreatDoorMaa
import Derived.ProofKit
import Derived.OpenShut
import Derived.ShutString
import Derived.ChangeOld
import Derived.Deep.Slices
import Derived.Laws.StructEq
import Derived.Stop.BytesEq
import Derived.Test.YthnohmjbbeahmaaGreatDoorMbd
set_option linter.unusedVariables false
set_option linter.unusedSimpArgs false
namespace Go.Proofs.YthnohmjbbeahmaaGreatDoor
open Go.RowKit
structure Deb(w:World):Prop where
 tab:∀j,j<64→w.cell? ⟨5,j,none⟩=some (.int .u8 (Lib.deBruijn64tab.getD j 0))
theorem Deb.upd{S:Nat→Prop}{w w':World}(h:Deb w)(u:Upd S w w')(g:¬S 5):Deb w':=⟨fun i l=>u.cell (h.tab i l) g⟩
theorem Deb.new{w w':World}(h:Deb w)(u:qq w w'):Deb w':=h.upd u (fun h=>h)
def qdd(i:Int):Bool:=decide (0≤i)&&decide (i<65536)
theorem qol{i:Int}(g:0≤i)(l:i<65536):qdd i=true:=by unfold qdd;simp;omega
theorem zc0{i:Int}(h:i<0∨65536≤i):qdd i=false:=by unfold qdd;simp;omega
theorem qpk{i:Int}(h:qdd i=true):0≤i∧i<65536:=by unfold qdd at h;simpa using h
theorem qmj(i:Int)(w:World):Calls Tryz.prog 140 #[.int .i64 i] w (qch (.bool (qdd i)) w):=by
 by_cases l:0≤i
 ·by_cases g:i<65536
  ·rw[qol l g];go_enter Tryz.func140,Tryz.ntmps140;go_wp2;go_ret;exact⟨rfl,Q.refl _⟩
  ·rw[zc0 (by omega)];have m:decide (i<65536)=false:=by simpa using g
   go_enter Tryz.func140,Tryz.ntmps140;go_wp2;go_ret;exact⟨rfl,Q.refl _⟩
 ·rw[zc0 (by omega)];go_enter Tryz.func140,Tryz.ntmps140;go_wp2;go_ret;exact⟨rfl,Q.refl _⟩
theorem q91(x a:Nat)(l:x<18446744073709551616)(g:x &&& (18446744073709551616-x)=a)(m:x≠0) :
  IntKind.u64.wrap (bits BinOp.and IntKind.u64 (x:Int) (IntKind.u64.wrap (-(x:Int)))*285870213051353865) / 288230376151711744=((a*285870213051353865%18446744073709551616 / 288230376151711744:Nat):Int):=by
 have i:IntKind.u64.wrap (-(x:Int))=((18446744073709551616-x:Nat):Int):=by rw[IntKind.wrap_u64];omega
 rw[i,bits_and_u64_nat x _ l (by omega),g,IntKind.wrap_u64]
 omega
theorem q90(x k g:Nat)(w:World)(l:((x:Int)==0)=false)
  (key:IntKind.u64.wrap (bits BinOp.and IntKind.u64 (x:Int) (IntKind.u64.wrap (-(x:Int)))*285870213051353865) / 288230376151711744=(g:Int))
  (m:g<64) (o:k<64) (i:w.cell? ⟨5,g,none⟩=some (.int .u8 k)) :
  Calls Tryz.prog 147 #[.int .u64 x] w (qch (.int .i64 k) w):=by
 go_enter Tryz.func147,Tryz.ntmps147
 go_wp2_with (simp only[key])
 go_ret
 exact⟨rfl,Q.refl _⟩
theorem q92(w:World):Calls Tryz.prog 147 #[.int .u64 0] w (qch (.int .i64 64) w):=by
 go_enter Tryz.func147,Tryz.ntmps147;go_wp2;go_ret;exact⟨rfl,Q.refl _⟩
theorem zel(x:Nat)(t:x<18446744073709551616)(w:World)(v:Deb w) :
  Calls Tryz.prog 147 #[.int .u64 x] w (qch (.int .i64 (Lib.ctz 64 x)) w):=by
 by_cases i:x=0
 ·subst i;have e:Lib.ctz 64 0=64:=by decide
  rw[e];exact q92 w
 ·obtain⟨l,q⟩:=Lib.lowest_bit 64 x i t;obtain⟨o,m⟩:=Lib.deBruijn64_at _ q;have g:=v.tab _ o;rw[m] at g;exact q90 x _ _ w (by simp;omega) (q91 x _ t l i) o q g
set_option maxHeartbeats 1000000 in
theorem zjj(x:Nat)(l:x<18446744073709551616)(w:World)(g:Deb w) :
  Calls Tryz.prog 141 #[.int .u64 x] w (qch (.int .i64 (Lib.ctz 64 x)) w):=by
 have m:IntKind.u64.wrap (x:Int)=(x:Int):=by rw[IntKind.wrap_u64];omega
 have i:=zel x l w g
 go_enter Tryz.func141,Tryz.ntmps141
 go_wp2_with fail
 refine i.mono ?_
 rintro e w1 ⟨rfl,q⟩
 go_wp2_with fail
 go_ret
 exact⟨rfl,q⟩
def qbs(i:Int):Nat:=if qdd i then min (Lib.ctz 64 i.toNat) 16 else 0
theorem qmq(i:Int):qbs i≤16:=by unfold qbs;split<;>omega
set_option maxRecDepth 100000 in
set_option maxHeartbeats 1000000 in
theorem qkq(i:Int)(w:World)(C:Deb w):Calls Tryz.prog 128 #[.int .i64 i] w (qch (.int .i64 (qbs i)) w):=by
 have t:=qmj i w;go_enter Tryz.func128,Tryz.ntmps128;go_wp2_with fail;refine t.mono ?_;rintro e w1 ⟨rfl,q⟩;cases m:qdd i with
 | false =>
  have e:qbs i=0:=by unfold qbs;rw[if_neg (by rw[m];decide)]
  have g:=qb e;clear e;go_wp2_with fail;go_ret;exact⟨by rw[qa g];rfl,q⟩
 | true =>
  obtain⟨o,E⟩:=qpk m;obtain⟨n,rfl⟩:=Int.eq_ofNat_of_zero_le o;have H:IntKind.u64.wrap (n:Int)=(n:Int):=by rw[IntKind.wrap_u64];omega
  have v:=zjj n (by omega) w1 (C.new (q.upd _));have e:qbs (n:Int)=min (Lib.ctz 64 n) 16:=by unfold qbs;rw[if_pos m];rfl
  have g:=qb e;clear e t;have D:=qb m;clear m o;go_wp2_with fail;refine v.mono ?_;rintro e I ⟨rfl,x⟩;have y:=q.trans x;generalize Lib.ctz 64 n=k at *
  clear v q x;by_cases F:k≤16
  ·have l:min k 16=k:=by omega
   have z:min (k:Int) 16=(k:Int):=by omega
   rw[l] at g;clear l;go_wp2_with fail;go_ret;exact⟨by rw[qa g];rfl,y⟩
  ·have l:min k 16=16:=by omega
   have z:(16:Int)<(k:Int):=by omega
   rw[l] at g;clear l;go_wp2_with fail;go_ret;exact⟨by rw[qa g];rfl,y⟩
def qn2(f t:Int):Bool:=qdd f&&(qdd t&&(f.toNat / 2 ^ qbs f==t.toNat / 2 ^ qbs f))
set_option maxRecDepth 100000 in
set_option maxHeartbeats 1000000 in
theorem q49(f t:Int)(w:World)(J:Deb w):Calls Tryz.prog 127 #[.int .i64 f,.int .i64 t] w (qch (.bool (qn2 f t)) w):=by
 have E:=qkq f w J;have O:=qmq f;have g:=fun W=>qmj f W
 have i:=fun W=>qmj t W
 have l:qn2 f t=(qdd f&&(qdd t&&(f.toNat / 2 ^ qbs f==t.toNat / 2 ^ qbs f))):=rfl;have o:=qb l;clear l;generalize qbs f=p at *
 go_enter Tryz.func127,Tryz.ntmps127;go_wp2_with fail;refine E.mono ?_;rintro e w1 ⟨rfl,q⟩;clear E;have K:(p:Int)≤16:=by omega
 cases v:qdd f with
 | false =>
  rw[v,Bool.false_and] at o;replace g:=g;rw[v] at g;go_wp2_with (with_reducible first|(first|refine' zi (qg ?_) ?_|refine' zj (qg ?_) ?_);rotate_left|refine' zk (qg ?_)|rfl|apply tn|refine' zl ?_);refine(g _).mono ?_;rintro e H ⟨rfl,y⟩;go_wp2_with (with_reducible first|(first|refine' zi (qg ?_) ?_|refine' zj (qg ?_) ?_);rotate_left|refine' zk (qg ?_)|rfl|apply tn|refine' zl ?_);go_ret;exact⟨by rw[qa o];rfl,q.trans y.ofDrew⟩
 | true =>
  rw[v,Bool.true_and] at o;rw[v] at g;cases x:qdd t with
  | false =>
   rw[x,Bool.false_and] at o;rw[x] at i;go_wp2_with (with_reducible first|(first|refine' zi (qg ?_) ?_|refine' zj (qg ?_) ?_);rotate_left|refine' zk (qg ?_)|rfl|apply tn|refine' zl ?_);refine(g _).mono ?_;rintro e H ⟨rfl,y⟩;go_wp2_with (with_reducible first|(first|refine' zi (qg ?_) ?_|refine' zj (qg ?_) ?_);rotate_left|refine' zk (qg ?_)|rfl|apply tn|refine' zl ?_);refine(i _).mono ?_;rintro e L ⟨rfl,C⟩;go_wp2_with (with_reducible first|(first|refine' zi (qg ?_) ?_|refine' zj (qg ?_) ?_);rotate_left|refine' zk (qg ?_)|rfl|apply tn|refine' zl ?_);go_ret;exact⟨by rw[qa o];rfl,(q.trans y.ofDrew).trans C⟩
  | true =>
   rw[x,Bool.true_and] at o;rw[x] at i;obtain⟨D,f1⟩:=qpk v;obtain⟨F,P⟩:=qpk x;obtain⟨n,rfl⟩:=Int.eq_ofNat_of_zero_le D;obtain⟨m,rfl⟩:=Int.eq_ofNat_of_zero_le F;have M:=qb v;have N:=qb x;clear v x D F;go_wp2_with (with_reducible first|(first|refine' zi (qg ?_) ?_|refine' zj (qg ?_) ?_);rotate_left|refine' zk (qg ?_)|rfl|apply tn|refine' zl ?_);refine(g _).mono ?_;rintro e H ⟨rfl,y⟩;go_wp2_with (with_reducible first|(first|refine' zi (qg ?_) ?_|refine' zj (qg ?_) ?_);rotate_left|refine' zk (qg ?_)|rfl|apply tn|refine' zl ?_);refine(i _).mono ?_;rintro e L ⟨rfl,C⟩;go_wp2_with (with_reducible first|(first|refine' zi (qg ?_) ?_|refine' zj (qg ?_) ?_);rotate_left|refine' zk (qg ?_)|rfl|apply tn|refine' zl ?_);go_ret;refine⟨?_,(q.trans y.ofDrew).trans C⟩;have z:((n:Int) / 2 ^ p==(m:Int) / 2 ^ p)=((n:Int).toNat / 2 ^ p==(m:Int).toNat / 2 ^ p):=by
    have en:(n:Int) / 2 ^ p=((n / 2 ^ p:Nat):Int):=by rw[Int.natCast_ediv];rfl
    have I:(m:Int) / 2 ^ p=((m / 2 ^ p:Nat):Int):=by rw[Int.natCast_ediv];rfl
    rw[en,I,Int.toNat_natCast,Int.toNat_natCast];by_cases e:n / 2 ^ p=m / 2 ^ p
    ·rw[e];simp
    ·rw[beq_false_of_ne e,beq_false_of_ne (by omega)]
   rw[qa o,←z];rfl
attribute [local go_sem ↓ high] qab qan qar qaw
attribute [local go_sem] qcr qde qdn qg2 zb
def qcu(h:List Int)(i:Int):List Int × Int:=if qdd i=true then (qdu h i.toNat 16,0) else (qaj,1)
set_option maxRecDepth 100000 in
set_option maxHeartbeats 1000000 in
theorem zcm(h:List Int)(N:h.length=32)(i:Int)(w:World)(M:Tabs w) :
  Calls Tryz.prog 139 #[.agg (qy h).toArray,.int .i64 i] w (qbf (.tuple #[.agg (qy (qcu h i).1).toArray,.int .i64 (qcu h i).2]) w):=by
 have l:=fun W=>qmj i W
 go_enter Tryz.func139,Tryz.ntmps139
 go_upto_region 1 with fail
 have C:=(qck w h N).new ((Upd.refl _ _).alloc (.cells (qy qaj).toArray 33))
 have x:=qck (w.alloc (.cells (qy h).toArray 33)) qaj qu
 rw[World.size_alloc] at x
 have E:qq w ((w.alloc (.cells (qy h).toArray 33)).alloc (.cells (qy qaj).toArray 33)):=((Upd.refl _ _).alloc _).alloc _
 generalize (w.alloc (.cells (qy h).toArray 33)).alloc (.cells (qy qaj).toArray 33)=w1 at C x E ⊢
 obtain⟨A,v⟩:∃A,A=w.heap.size:=⟨_,rfl⟩
 obtain⟨B,y⟩:∃B,B=w.heap.size+1:=⟨_,rfl⟩
 rw[←y] at x ⊢
 rw[←v] at C ⊢
 have a5:w.heap.size≤B:=by omega
 have a4:B≠A:=by omega
 clear v y
 have Y:=qb C
 have Z:=qb x
 clear C x
 go_wp2_with fail
 refine(l _).mono ?_
 rintro e X ⟨rfl,q⟩
 have g:=(qa Z).new (q.upd _)
 have m:=(qa Y).new (q.upd _)
 have z:=E.trans (q.upd _)
 have t:=M.new z
 cases D:qdd i with
 | false =>
  have e:qcu h i=(qaj,1):=by unfold qcu;rw[if_neg (by rw[D];decide)]
  have H:=qb e;have P:=g.stOk qaj qu;have I:=qb (g.put qaj qu);have J:=qb (z.then (qac (w:=X) (b:=B) (qy qaj)) (fun i hi e=>by omega));clear g m z E t M e;go_wp2_with fail;refine bodyPost_ret (qs rfl _ _ B _ _ _ _ rfl (qa I).at_ Tryz.underlying33 rfl (by rw[List.size_toArray,qa1,qu];exact Tryz.infoHsh)) rfl ?_;rw[qa H];exact⟨rfl,qa J⟩
 | true =>
  obtain⟨T,h1⟩:=qpk D;obtain⟨n,rfl⟩:=Int.eq_ofNat_of_zero_le T;have e:qcu h (n:Int)=(qdu h n 16,0):=by unfold qcu;rw[if_pos D];rfl
  have H:=qb e;have O:=qj6 h N n 16;have U:=quv h N n 16 (by omega) (by omega) X t;have hr:=m.row;have F:=qb g;have L:=qb z;clear e l T m g z E M D t;go_wp2_with fail;refine U.mono ?_;rintro e w3 ⟨rfl,R⟩;have o:=(qa F).new R;have V:=(qa L).trans R;have P:=o.stOk _ O;have I:=qb (o.put _ O);have J:=qb (V.then (qac (w:=w3) (b:=B) (qy (qdu h n 16))) (fun i hi e=>by omega));clear o V R U hr;generalize qdu h n 16=K at *
  go_wp2_with fail;refine bodyPost_ret (qs rfl _ _ B _ _ _ _ rfl (qa I).at_ Tryz.underlying33 rfl (by rw[List.size_toArray,qa1,O];exact Tryz.infoHsh)) rfl ?_;rw[qa H];exact⟨rfl,qa J⟩
def qc0(h:List Int)(f t:Int):List Int × Int:=if qn2 f t=true then (qdu h t.toNat (qbs f),0) else (qaj,1)
theorem qzp(h:List Int)(g:h.length=32)(f t:Int):(qc0 h f t).1.length=32:=by
 unfold qc0;split
 ·exact qj6 h g _ _
 ·exact qu
theorem ze5{f t:Int}(h:qn2 f t=true):qdd t=true:=by
 unfold qn2 at h;simp only[Bool.and_eq_true] at h;exact h.2.1
set_option maxRecDepth 100000 in
set_option maxHeartbeats 1000000 in
theorem q2x(h:List Int)(hh:h.length=32)(f t:Int)(w:World)(Y:Tabs w)(L:Deb w) :
  Calls Tryz.prog 131 #[.agg (qy h).toArray,.int .i64 f,.int .i64 t] w (qbf (.tuple #[.agg (qy (qc0 h f t).1).toArray,.int .i64 (qc0 h f t).2]) w):=by
 go_enter Tryz.func131,Tryz.ntmps131
 go_upto_region 1 with fail
 have J:=(qck w h hh).new ((Upd.refl _ _).alloc (.cells (qy qaj).toArray 33))
 have C:=qck (w.alloc (.cells (qy h).toArray 33)) qaj qu
 rw[World.size_alloc] at C
 have H:qq w ((w.alloc (.cells (qy h).toArray 33)).alloc (.cells (qy qaj).toArray 33)):=((Upd.refl _ _).alloc _).alloc _
 generalize (w.alloc (.cells (qy h).toArray 33)).alloc (.cells (qy qaj).toArray 33)=w1 at J C H ⊢
 obtain⟨A,z⟩:∃A,A=w.heap.size:=⟨_,rfl⟩
 obtain⟨B,D⟩:∃B,B=w.heap.size+1:=⟨_,rfl⟩
 rw[←D] at C ⊢
 rw[←z] at J ⊢
 have a7:w.heap.size≤B:=by omega
 have a6:B≠A:=by omega
 clear z D
 have HA:=qb J
 have HB:=qb C
 have m:=q49 f t w1 (L.new H)
 clear J C
 go_wp2_with fail
 refine m.mono ?_
 rintro e w2 ⟨rfl,q⟩
 have g:=(qa HB).new (q.upd _)
 have l:=(qa HA).new (q.upd _)
 have y:=H.trans (q.upd _)
 have x:=Y.new y
 have v:=L.new y
 clear m
 cases M:qn2 f t with
 | false =>
  have e:qc0 h f t=(qaj,1):=by unfold qc0;rw[if_neg (by rw[M];decide)]
  have R:=qb e;have a5:=g.stOk qaj qu;have T:=qb (g.put qaj qu);have U:=qb (y.then (qac (w:=w2) (b:=B) (qy qaj)) (fun i hi e=>by omega));clear g l y H x Y e L v;go_wp2_with fail;refine bodyPost_ret (qs rfl _ _ B _ _ _ _ rfl (qa T).at_ Tryz.underlying33 rfl (by rw[List.size_toArray,qa1,qu];exact Tryz.infoHsh)) rfl ?_;rw[qa R];exact⟨rfl,qa U⟩
 | true =>
  obtain⟨h0,h1⟩:=qpk (ze5 M);obtain⟨n,rfl⟩:=Int.eq_ofNat_of_zero_le h0;have e:qc0 h f (n:Int)=(qdu h n (qbs f),0):=by unfold qc0;rw[if_pos M];rfl
  have R:=qb e;have hl:=qj6 h hh n (qbs f);have a4:=qmq f;have E:=fun W (Z:Tabs W)=>quv h hh n (qbs f) (by omega) a4 W Z
  have hp:=fun W (Z:Deb W)=>qkq f W Z
  have hr:zu w2.drew A 0 32=some (qy h).toArray:=l.row;have O:=qb g;have N:=qb l;have V:=qb y;have X:=qb x;have P:=qb v;have HC:=qb E;have HP:=qb hp;clear e h0 l g y H Y M x L v E hp;generalize qdu h n (qbs f)=K at *
  generalize qbs f=p at *
  go_upto_region 3 with fail;refine qcq (fun w'=>zu w' A 0 32=some (qy h).toArray) [0] (.of [0,1,2,3,4,5,6]) (by kernel_rfl) (by kernel_rfl) hr ?_;simp only[Plan.of];go_wp2_with (with_reducible first|(first|refine' qw1 (qg ?_) ?_|refine' qw2 (qg ?_) ?_|refine' qw3 (qg ?_) ?_);rotate_left|refine' qw4 (qg ?_)|refine' qw5 (qg ?_)|rfl|apply qn);refine(qa HP _ ((qa P).new ((Upd.refl _ _).drew))).mono ?_;rintro e w3 ⟨rfl,q3⟩;have I:qq w2 w3:=(q3.ofDrew).upd _;have F:=((qa N).new I).row;have E:=qa HC w3 ((qa X).new I);clear hr HP;go_wp2_with (with_reducible first|(first|refine' qw1 (qg ?_) ?_|refine' qw2 (qg ?_) ?_|refine' qw3 (qg ?_) ?_);rotate_left|refine' qw4 (qg ?_)|refine' qw5 (qg ?_)|rfl|apply qn);refine⟨F,?_⟩;go_wp2_with (with_reducible first|(first|refine' qw1 (qg ?_) ?_|refine' qw2 (qg ?_) ?_|refine' qw3 (qg ?_) ?_);rotate_left|refine' qw4 (qg ?_)|refine' qw5 (qg ?_)|rfl|apply qn);refine E.mono ?_;rintro e w4 ⟨rfl,n4⟩;have o:=((qa O).new I).new n4;have n5:=((qa V).trans I).trans n4;have a5:=o.stOk _ hl;have T:=qb (o.put _ hl);have U:=qb (n5.then (qac (w:=w4) (b:=B) (qy K)) (fun i hi e=>by omega));clear o n5 I E n4 F;go_wp2_with (with_reducible first|(first|refine' qw1 (qg ?_) ?_|refine' qw2 (qg ?_) ?_|refine' qw3 (qg ?_) ?_);rotate_left|refine' qw4 (qg ?_)|refine' qw5 (qg ?_)|rfl|apply qn);refine bodyPost_ret (qs rfl _ _ B _ _ _ _ rfl (qa T).at_ Tryz.underlying33 rfl (by rw[List.size_toArray,qa1,hl];exact Tryz.infoHsh)) rfl ?_;rw[qa R];exact⟨rfl,qa U⟩
end Go.Proofs.YthnohmjbbeahmaaGreatDoor
namespace Go.Proofs.YthnohmjbbeahmaaGreatDoor
open Go.RowKit
attribute [local go_sem ↓ high] qab qan qar qaw zy zz z7 qaa
attribute [local go_sem] qcr qde qdn qg2 zb qb2 qcb qci
def Ch.secret(c:Ch)(n:Int):List Int × Int:=if n<0∨c.k.heard≤n then (qaj,1) else qcu c.s.seed (65535-n)
theorem qjg(h:List Int)(g:h.length=32)(i:Int):(qcu h i).1.length=32:=by
 unfold qcu;split
 ·exact qj6 h g _ _
 ·exact qu
theorem Ch.secret_len{c:Ch}(h:c.Ok)(n:Int):(c.secret n).1.length=32:=by
 unfold Ch.secret;split
 ·exact qu
 ·exact qjg _ h.s.seed _
set_option maxRecDepth 100000 in
set_option maxHeartbeats 1000000 in
theorem q4i(g:Nat)(S:Nat→Prop)(c:Ch)(n:Int)(w:World)(h:ChS w g S c)(P:Tabs w)(W : -9223372036854775808≤n∧n≤9223372036854775807) :
  Calls Tryz.prog 126 #[.pointer (some ⟨g,0,none⟩),.int .i64 n] w (qbf (.tuple #[.agg (qy (c.secret n).1).toArray,.int .i64 (c.secret n).2]) w):=by
 obtain⟨X,nv,V,h⟩:=h
 go_enter Tryz.func126,Tryz.ntmps126
 go_upto_region 1 with fail
 have l:=qck w qaj qu
 have q:qq w (w.alloc (.cells (qy qaj).toArray 33)):=(Upd.refl _ _).alloc _
 generalize w.alloc (.cells (qy qaj).toArray 33)=w1 at l q ⊢
 obtain⟨B,t⟩:∃B,B=w.heap.size:=⟨_,rfl⟩
 rw[←t] at l ⊢
 have O:w.heap.size≤B:=by omega
 clear t
 have C:=h.new q
 have L:w1.cell? ⟨g,38,none⟩=some (.int .i64 c.k.heard):=C.toR.heard
 have o:=C.seed
 by_cases e:n<0∨c.k.heard≤n
 ·have v:c.secret n=(qaj,1):=by unfold Ch.secret;rw[if_pos e]
  have E:=l.stOk qaj qu;have y:=qb (l.put qaj qu);have z:=qb (q.then (qac (w:=w1) (b:=B) (qy qaj)) (fun i R e=>by omega));have x:=qb v;clear h C l q v;by_cases M:n<0
  ·go_wp2_with fail;refine bodyPost_ret (qs rfl _ _ B _ _ _ _ rfl (qa y).at_ Tryz.underlying33 rfl (by rw[List.size_toArray,qa1,qu];exact Tryz.infoHsh)) rfl ?_;rw[qa x];exact⟨rfl,qa z⟩
  ·have N:c.k.heard≤n:=by omega
   clear e;go_wp2_with fail;refine bodyPost_ret (qs rfl _ _ B _ _ _ _ rfl (qa y).at_ Tryz.underlying33 rfl (by rw[List.size_toArray,qa1,qu];exact Tryz.infoHsh)) rfl ?_;rw[qa x];exact⟨rfl,qa z⟩
 ·have v:c.secret n=qcu c.s.seed (65535-n):=by unfold Ch.secret;rw[if_neg e]
  have M:¬n<0:=by omega
  have N:¬c.k.heard≤n:=by omega
  have T:IntKind.i64.wrap (65535-n)=65535-n:=qk2 (by omega) (by omega);have H:=zcm c.s.seed h.ok.s.seed (65535-n) w1 (P.new q);have D:=qjg c.s.seed h.ok.s.seed (65535-n);have x:=qb v;have I:=qb l;have J:=qb q;clear h C l q v e;generalize qcu c.s.seed (65535-n)=K at *
  go_wp2_with fail;refine H.mono ?_;rintro e U ⟨rfl,F⟩;have m:=(qa I).new F;have E:=m.stOk _ D;have y:=qb (m.put _ D);have z:=qb (((qa J).trans F).then (qac (w:=U) (b:=B) (qy K.1)) (fun i R e=>by omega));clear m F H o;go_wp2_with fail;refine bodyPost_ret (qs rfl _ _ B _ _ _ _ rfl (qa y).at_ Tryz.underlying33 rfl (by rw[List.size_toArray,qa1,D];exact Tryz.infoHsh)) rfl ?_;rw[qa x];exact⟨rfl,qa z⟩
def Ch.revocation(c:Ch):MsgV:=⟨7,c.s.ch,0,0,(c.secret (c.k.heard-1)).1,0,c.k.heard-1⟩
set_option maxRecDepth 100000 in
set_option maxHeartbeats 1000000 in
theorem qlz(g:Nat)(S:Nat→Prop)(c:Ch)(w:World)(h:ChS w g S c)(hT:Tabs w) :
  Calls Tryz.prog 110 #[.pointer (some ⟨g,0,none⟩)] w (qbf (.agg c.revocation.cells.toArray) w):=by
 obtain⟨lv,nv,Z,h⟩:=h
 have a6:=h.ok.heard
 go_enter Tryz.func110,Tryz.ntmps110
 go_upto_region 1 with fail
 have D:=qbz w MsgV.zero qu
 have z:qq w (w.alloc (.cells MsgV.zero.cells.toArray 71)):=(Upd.refl _ _).alloc _
 generalize w.alloc (.cells MsgV.zero.cells.toArray 71)=w1 at D z ⊢
 obtain⟨B,t⟩:∃B,B=w.heap.size:=⟨_,rfl⟩
 rw[←t] at D ⊢
 have a5:w.heap.size≤B:=by omega
 clear t
 have C:=h.new z
 have q:w1.cell? ⟨g,38,none⟩=some (.int .i64 c.k.heard):=C.toR.heard
 have a8:IntKind.i64.wrap (c.k.heard-1)=c.k.heard-1:=qk2 (by omega) (by omega)
 have T:=q4i g S c (c.k.heard-1) w1 ⟨lv,nv,Z,C⟩ (hT.new z) (by omega)
 have E:=Ch.secret_len h.ok (c.k.heard-1)
 have x:c.revocation=⟨7,c.s.ch,0,0,(c.secret (c.k.heard-1)).1,0,c.k.heard-1⟩:=rfl
 have X:=qb x
 have V:=qb D
 have Y:=qb z
 have U:=qb C
 clear h C D z x
 generalize c.secret (c.k.heard-1)=K at *
 go_wp2_with fail
 refine T.mono ?_
 rintro e I ⟨rfl,F⟩
 obtain⟨y,v,H⟩:=qsl I K.1 E
 have R:=((qa U).new F).new H
 have J:=qb v
 have l:=qb (((qa V).new F).new H)
 have o:=qb (((qa Y).trans F).trans H)
 have N:=qb R
 clear T F v H R q
 go_upto_region 2 with fail
 change Code.wp _ _ _ _ (qvd I K.1)
 generalize qvd I K.1=m at J l o N ⊢
 generalize I.heap.size=A at J ⊢
 have L:=qa N
 have a7:=(qa J).row
 have a4:m.cell? ⟨g,0,none⟩=some (.int .u32 c.s.ch):=L.toR.ch
 have q:m.cell? ⟨g,38,none⟩=some (.int .i64 c.k.heard):=L.toR.heard
 have M:=fun W=>q2l 7 c.s.ch (c.k.heard-1) K.1 E W
 have y:stOk m.drew B 0 38 (MsgV.cells ⟨7,c.s.ch,0,0,K.1,0,c.k.heard-1⟩).toArray=true:=(qa l).stOk (k:=⟨7,c.s.ch,0,0,K.1,0,c.k.heard-1⟩) E
 have nd:qq m m.drew:=(Upd.refl _ _).drew
 have O:=qb (((qa l).new nd).put (k:=⟨7,c.s.ch,0,0,K.1,0,c.k.heard-1⟩) E)
 have P:=qb (((qa o).trans nd).then (qac (w:=m.drew) (b:=B) (MsgV.cells ⟨7,c.s.ch,0,0,K.1,0,c.k.heard-1⟩)) (fun i hi e=>by omega))
 clear L nd
 rw[←qa X] at y O P M
 go_wp2_with (with_reducible first|(first|refine' zi (qg ?_) ?_|refine' zj (qg ?_) ?_);rotate_left|refine' zk (qg ?_)|rfl|apply tn|refine' zl ?_)
 have v:=qa O
 exact bodyPost_ret (results_cell_row rfl _ _ B _ _ _ _ rfl v.at_ Tryz.underlying71 rfl (by rw[v.agg];exact Tryz.infoMsg)) rfl ⟨rfl,qa P⟩
end Go.Proofs.YthnohmjbbeahmaaGreatDoor
namespace Go.Proofs.YthnohmjbbeahmaaGreatDoor
open Go.RowKit Go.ChangeShapes Go.WideShapes Go.ChangeAt Go.Deep
inductive Leaf where
 | bool
 | int (k:IntKind)
 | str
 deriving DecidableEq
def Leaf.fits:Leaf→Value→Prop
 | .bool,v=>∃b,v = .bool b
 | .int k,v=>∃n,v = .int k n∧(Lit.int k n).wf=true
 | .str,v=>∃s:ByteArray,v = .string s∧s.size≤maxLen
def qda:List Leaf→List Value→Prop
 | [],cs=>cs=[]
 | l::ls,cs=>∃v r,cs=v::r∧l.fits v∧qda ls r
theorem qda.len:∀ {ls:List Leaf} {cs:List Value},qda ls cs→cs.length=ls.length
 | [],_,h=>by rw[show _=[] from h];rfl
 | l::ls,_,h=>by obtain⟨v,r,rfl,_,g⟩:=h;simp[g.len]
theorem qda.app:∀ {ls ms:List Leaf} {cs g:List Value},qda ls cs→qda ms g→qda (ls++ms) (cs++g)
 | [],_,_,_,h,k=>by rw[show _=[] from h];exact k
 | l::ls,_,_,_,h,k=>by obtain⟨v,r,rfl,hv,i⟩:=h;exact⟨v,_,rfl,hv,i.app k⟩
theorem qda.split:∀ {ls ms:List Leaf} {cs:List Value},qda (ls++ms) cs→∃a b,cs=a++b∧qda ls a∧qda ms b
 | [],_,cs,h=>⟨[],cs,rfl,rfl,h⟩
 | l::ls,_,_,h=>by
  obtain⟨v,r,rfl,hv,m⟩:=h;obtain⟨a,b,rfl,g,i⟩:=qda.split m;exact⟨v::a,b,rfl,⟨v,a,rfl,hv,g⟩,i⟩
theorem qda.cat:∀ {L:List (List Leaf)} {C:List (List Value)},L.length=C.length→(∀(i:Nat) l c,L[i]? = some l→C[i]? = some c→qda l c)→qda L.flatten C.flatten
 | [],[],_,_=>rfl
 | [],_::_,h,_=>by simp at h
 | _::_,[],h,_=>by simp at h
 | l::L,c::C,h,k=>by
  rw[List.flatten_cons,List.flatten_cons];exact(k 0 l c rfl rfl).app (qda.cat (by simpa using h) fun i x y g m=>k (i+1) x y g m)
def qbx(P:Program)(rec:TypeId→Option (List Leaf)):Nat→List Field→Option (List Leaf)
 | _,[]=>some []
 | o,f::r=>match rec f.type with
  | none=>none
  | some l=>if f.offset=o∧P.cellsOf f.type=l.length then (qbx P rec (o+l.length) r).map (l ++ ·) else none
def qcp(P:Program):Nat→TypeId→Option (List Leaf)
 | 0,_=>none
 | n+1,t=>match P.underlying t with
  | some .bool=>some [.bool]
  | some (.int k)=>some [.int k]
  | some .string=>some [.str]
  | some (.struct g)=>match qbx P (qcp P n) 0 g.toList with
   | some l=>if P.cellsOf t=l.length then some l else none
   | none=>none
  | some (.array m e)=>match qcp P n e with
   | some l=>if P.cellsOf e=l.length∧P.cellsOf t=m*l.length then some (List.replicate m l).flatten else none
   | none=>none
  | _=>none
section
variable {H:Type}{enc:TypeId × Value→H}{P:Program}{w:World}{base:Nat}{spare:Nat→Bool}{held:Bool}
theorem qr2{rec:TypeId→Option (List Leaf)}{cs:List Value}(m:∀t l c x i,rec t=some l→DataW.trod enc P w base spare held i t c=some x→qda l c) :
  ∀(y:List Field) (o:Nat) (L:List Leaf),qbx P rec o y=some L→cs.length=o+L.length →
   (∀f∈y,∃i x,DataW.trod enc P w base spare held i f.type ((cs.drop f.offset).take (P.cellsOf f.type))=some x)→qda L (cs.drop o)
 | [],o,L,h,q,_=>by
  simp only[qbx,Option.some.injEq] at h;subst h;show cs.drop o=[];exact List.drop_eq_nil_of_le (by simp at q;omega)
 | f::r,o,L,h,q,C=>by
  unfold qbx at h;cases v:rec f.type with
  | none=>rw[v] at h;cases h
  | some l =>
   rw[v] at h;simp only at h;split at h
   ·rename_i F;obtain⟨K,J⟩:=F;rw[Option.map_eq_some_iff] at h;obtain⟨M,E,rfl⟩:=h;obtain⟨i,x,N⟩:=C f (List.mem_cons_self ..);have z:=m _ _ _ _ _ v N;rw[K,J] at z;rw[List.length_append] at q;have D:=qr2 m r (o+l.length) M E (by omega) (fun g I=>C g (List.mem_cons_of_mem _ I));have e:cs.drop o=(cs.drop o).take l.length++cs.drop (o+l.length):=by
     rw[←List.drop_drop,List.take_append_drop]
    rw[e];exact z.app D
   ·cases h
theorem qrw(k:Nat):∀(m:Nat) (cs:List Value),cs.length=m*k→cs=((List.range m).map fun i=>(cs.drop (i*k)).take k).flatten
 | 0,cs,h=>by
  have:cs=[]:=List.length_eq_zero_iff.1 (by omega);subst this;rfl
 | m+1,cs,h=>by
  have g:=qrw k m (cs.drop k) (by rw[List.length_drop,h,Nat.succ_mul];omega);rw[List.range_succ_eq_map,List.map_cons,List.flatten_cons,Nat.zero_mul,List.drop_zero,List.map_map];have e:((List.range m).map ((fun i=>(cs.drop (i*k)).take k) ∘ Nat.succ))=((List.range m).map fun i=>((cs.drop k).drop (i*k)).take k):=by
   apply List.map_congr_left;intro i _;show (cs.drop ((i+1)*k)).take k=_;rw[List.drop_drop,Nat.succ_mul,Nat.add_comm]
  rw[e,←g,List.take_append_drop]
theorem qme:∀(n:Nat) (t:TypeId) (l:List Leaf) (cs:List Value) (x:DataW H × List MemPlace) (g:Nat),qcp P n t=some l→DataW.trod enc P w base spare held g t cs=some x→qda l cs
 | 0,_,_,_,_,_,h,_=>by simp[qcp] at h
 | n+1,t,l,cs,x,g,h,C=>by
  unfold qcp at h;split at h
  ·rename_i o;obtain⟨b,rfl,_⟩:=DataW.trod_bool o C;simp only[Option.some.injEq] at h;subst h;exact⟨_,_,rfl,⟨b,rfl⟩,rfl⟩
  ·rename_i k o;obtain⟨z,rfl,_,M⟩:=DataW.trod_int o C;simp only[Option.some.injEq] at h;subst h;exact⟨_,_,rfl,⟨z,rfl,M⟩,rfl⟩
  ·rename_i o;obtain⟨s,rfl,_,M⟩:=DataW.trod_string o C;simp only[Option.some.injEq] at h;subst h;exact⟨_,_,rfl,⟨s,rfl,M⟩,rfl⟩
  ·rename_i O o;split at h
   ·rename_i L F;split at h
    ·rename_i N;simp only[Option.some.injEq] at h;subst h;obtain⟨xs,m,_,_,y,D,I⟩:=DataW.trod_struct o C;refine qr2 (rec:=qcp P n) (cs:=cs) (fun t l c x g R T=>qme n t l c x g R T) O.toList 0 L F (by omega) fun f J=> ?_
     obtain⟨i,q⟩:=List.getElem?_of_mem J;rw[Array.getElem?_toList] at q;have:=I i f q;have K:i<xs.length:=by rw[D];exact(Array.getElem?_eq_some_iff.1 q).1
     rw[List.getElem?_eq_getElem K] at this;exact⟨m,_,this⟩
    ·cases h
   ·cases h
  ·rename_i m e o;split at h
   ·rename_i L F;split at h
    ·rename_i N;simp only[Option.some.injEq] at h;subst h;obtain⟨xs,k,_,_,y,D,I⟩:=DataW.trod_array o C;rw[qrw L.length m cs (by omega)];refine qda.cat (by simp) fun i a c E v=> ?_
     obtain⟨q,rfl⟩:i<m∧a=L:=by
      rw[List.getElem?_replicate] at E;split at E
      ·exact⟨‹_›,(Option.some.inj E).symm⟩
      ·cases E
     rw[List.getElem?_map,List.getElem?_range q,Option.map_some,Option.some.injEq] at v;subst v;have:=I i q;rw[N.1,List.getElem?_eq_getElem (by omega)] at this;exact qme n e _ _ _ k F this
    ·cases h
   ·cases h
  ·cases h
theorem q50{α:Type}{R:Nat→α→Prop} : ∀ {n:Nat},(∀i,i<n→∃a,R i a)→∃L:List α,L.length=n∧∀(i:Nat) a,L[i]? = some a→R i a
 | 0,_=>⟨[],rfl,by simp⟩
 | n+1,h=>by
  obtain⟨L,l,m⟩:=q50 (n:=n) fun i q=>h i (by omega)
  obtain⟨a,o⟩:=h n (by omega);refine⟨L++[a],by simp[l],fun i b g=> ?_⟩;rw[List.getElem?_append] at g;split at g
  ·exact m i b g
  ·rename_i q;obtain⟨rfl,rfl⟩:i=n∧b=a:=by
    rw[List.getElem?_singleton] at g;split at g
    ·exact⟨by omega,(Option.some.inj g).symm⟩
    ·cases g
   exact o
theorem qq0{t e:TypeId}{v:Value}{d:DataW H}{p:List MemPlace}{l:List Leaf}{W:World}{b0:Nat}(n:Nat)(X:P.underlying t=some (.slice e))(hl:qcp P n e=some l)(V:P.cellsOf e=l.length)(hz:0<l.length)
  (hv:Value.okWide P W .any b0 t v) (h:DataW.Trod enc P W 0 (fun _=>true) true t v d p) :
  ∃L:List (List Value),(∀c∈L,qda l c)∧((∃a cap,v = .slice a 0 cap∧L=[]) ∨
   ∃g off cap,v = .slice (some ⟨g,off,none⟩) L.length cap∧0<L.length∧L.length≤cap∧cap≤maxLen∧(∀j,j<L.length*l.length→MemPlace.cell g (off+j)∈p)∧∀i c,L[i]? = some c→∀j,j<l.length→W.cell? ⟨g,off+(i*l.length+j),none⟩=c[j]?):=by
 obtain⟨a0,len,cap,rfl⟩:=okWide_slice X hv
 obtain⟨U,hf⟩:=h
 rcases open_slice X hf with ⟨o,_⟩ | ⟨a,Z,T,m,k,D,Pl,o,_,a4,hm,E,Y,hi⟩
 ·simp[Value.cells] at o;obtain⟨rfl,rfl,rfl⟩:=o;exact⟨[],by simp,.inl ⟨_,_,rfl,rfl⟩⟩
 ·simp[Value.cells] at o;obtain⟨rfl,rfl,rfl⟩:=o;by_cases h0:len=0
  ·subst h0;exact⟨[],by simp,.inl ⟨_,_,rfl,rfl⟩⟩
  ·replace E:m=cap:=by simpa using E
   obtain⟨L,hL,K⟩:=q50 (n:=len) (R:=fun i q=>W.cells? 0 (a.add (i*P.cellsOf e)) (P.cellsOf e)=some q∧DataW.trod enc P W 0 (fun _=>true) true k e q=some (D i,Pl i)) fun i a5=>by
    obtain⟨q,C,J⟩:=hi i (by omega);exact⟨q,C,J⟩
   obtain⟨b,off,F⟩:=a;have z:F=none:=by
    obtain⟨I,N⟩:∃c,L[0]? = some c:=⟨_,List.getElem?_eq_getElem (by omega)⟩;obtain⟨C,J⟩:=K 0 I N;obtain⟨_,O,x⟩:=World.cells?_some C;have:=x 0 (by omega);rw[Nat.zero_mul] at this;have h3:I[0]? = some (I[0]'(by omega)):=List.getElem?_eq_getElem (by omega);rw[h3] at this;simpa [Addr.add] using World.cell?_spot this
   subst z;refine⟨L,?_,.inr ⟨b,off,cap,by rw[hL],by omega,by omega,hm,?_,?_⟩⟩
   ·intro c M;obtain⟨i,y⟩:=List.getElem?_of_mem M;exact qme n e l c _ k hl (K i c y).2
   ·intro j hj;simp only[Prod.mk.injEq] at Y;rw[Y.2];refine List.mem_append_left _ ?_;unfold MemPlace.row;rw[List.mem_map];have:L.length*l.length≤m*l.length:=Nat.mul_le_mul_right _ (by omega);exact⟨j,by rw[List.mem_range,V];omega,rfl⟩
   ·intro i c y j hj;obtain⟨C,J⟩:=K i c y;obtain⟨_,O,x⟩:=World.cells?_some C;have:=x j (by omega);rw[add_add,V] at this;have e1:(⟨b,off,none⟩:Addr).add (i*l.length+j)=⟨b,off+(i*l.length+j),none⟩:=by unfold Addr.add;split<;>simp_all
    rwa [e1] at this
end
def qht(P:Program)(t:TypeId):Bool:=match P.underlying t with | some (.struct _)=>true | some (.array _ _)=>true | _=>false
def mkV(P:Program)(t:TypeId)(cs:List Value):Value:=if qht P t then .agg cs.toArray else cs.headD undef
def eqB(P:Program):Nat→TypeId→Bool
 | 0,_=>false
 | n+1,t=>(P.info? t).isSome&&match P.underlying t with
  | some .bool=>true
  | some (.int _)=>true
  | some .string=>true
  | some (.struct g)=> !P.stoodInHeld t&&g.toList.all fun f=>f.name != "_"&&eqB P n f.type
  | some (.array _ e)=>eqB P n e
  | _=>false
section
variable {P:Program}
theorem qzu{n:Nat}{t:TypeId}(h:eqB P n t=true):∃i,P.info? t=some i:=by
 cases n with
 | zero=>cases h
 | succ n =>
  unfold eqB at h;simp only[Bool.and_eq_true] at h;exact Option.isSome_iff_exists.1 h.1
theorem qtk{t:TypeId}{i:TypeInfo}(h:P.info? t=some i)(w:World):(sizeOf t).run P w = .ok (P.cellsOf t) w:=by
 simp[sizeOf,typeInfo,h,Program.cellsOf]
theorem q7q{n:Nat}{t:TypeId}{l:List Leaf}(h:qcp P n t=some l)(g:qht P t=false):∃k,l=[k]:=by
 cases n with
 | zero=>simp[qcp] at h
 | succ n =>
  unfold qcp at h;unfold qht at g;split at h
  ·exact⟨_,(Option.some.inj h).symm⟩
  ·exact⟨_,(Option.some.inj h).symm⟩
  ·exact⟨_,(Option.some.inj h).symm⟩
  ·rename_i i;rw[i] at g;cases g
  ·rename_i i;rw[i] at g;cases g
  ·cases h
theorem zbk{n:Nat}{t:TypeId}{l:List Leaf}(h:qcp P n t=some l):∃d,P.underlying t=some d:=by
 cases n with
 | zero=>simp[qcp] at h
 | succ n =>
  unfold qcp at h;cases g:P.underlying t with
  | none=>rw[g] at h;cases h
  | some d=>exact⟨d,rfl⟩
theorem qov{n:Nat}{t:TypeId}{l:List Leaf}(h:qcp P n t=some l)(v:P.cellsOf t=l.length){i:TypeInfo}(x:P.info? t=some i)(xs:List Value)(o:Nat)(y:o+l.length≤xs.length)(w:World) :
  (part t xs.toArray o).run P w = .ok (mkV P t ((xs.drop o).take l.length)) w:=by
 obtain⟨d,hd⟩:=zbk h
 unfold part mkV
 cases g:qht P t with
 | true =>
  have m:(isAgg t).run P w = .ok true w:=by
   unfold qht at g;unfold isAgg;simp only[Sem.run_bind,run_underlying hd,Result.andThen_ok];rw[hd] at g;cases d<;>simp at g ⊢
  simp only[Sem.run_bind,m,Result.andThen_ok,if_true,qtk x,Sem.run_pure];congr 2;apply Array.ext';rw[v];simp[List.extract_eq_take_drop,List.take_drop]
 | false =>
  have m:(isAgg t).run P w = .ok false w:=by
   unfold qht at g;unfold isAgg;simp only[Sem.run_bind,run_underlying hd,Result.andThen_ok];rw[hd] at g;cases d<;>simp at g ⊢
  obtain⟨k,rfl⟩:=q7q h g;have q:o<xs.length:=by simp at y;omega
  have z:xs.toArray[o]? = some xs[o]:=by simp[q]
  simp only[Sem.run_bind,m,Result.andThen_ok,Bool.false_eq_true,if_false,z,Sem.run_pure];congr 1;rw[List.drop_eq_getElem_cons q];rfl
theorem zig{a b c d:List Value}(h:a.length=b.length):a++c=b++d↔a=b∧c=d :=
 ⟨fun e=>List.append_inj e h,fun⟨e,f⟩=>by rw[e,f]⟩
theorem qm2{rec:TypeId→Option (List Leaf)}{d:Nat}{xs q:List Value}
  (m:∀t l,rec t=some l→P.cellsOf t=l.length→∀o,o+l.length≤xs.length→(part t xs.toArray o).run P=(fun w=> .ok (mkV P t ((xs.drop o).take l.length)) w)∧(part t q.toArray o).run P=(fun w=> .ok (mkV P t ((q.drop o).take l.length)) w))
  (v:∀t l,rec t=some l→∀a b,qda l a→qda l b→∀r:Bool,(r=true↔a=b)→∀w,(Op.equalIn d t (mkV P t a) (mkV P t b)).run P w = .ok r w) :
  ∀(x:List Field) (o:Nat) (L:List Leaf),qbx P rec o x=some L→(∀f∈x,f.name≠"_")→xs.length=o+L.length→q.length=o+L.length→qda L (xs.drop o)→qda L (q.drop o) →
   ∀r:Bool,(r=true↔xs.drop o=q.drop o)→∀w,(Op.eqFields d xs.toArray q.toArray x).run P w = .ok r w
 | [],o,L,h,_,H,I,_,_,r,z,w=>by
  simp only[qbx,Option.some.injEq] at h;subst h;have:r=true:=z.2 (by rw[List.drop_eq_nil_of_le (by simp at H;omega),List.drop_eq_nil_of_le (by simp at I;omega)]);subst this;rfl
 | f::x,o,L,h,N,H,I,T,U,r,z,w=>by
  unfold qbx at h;cases y:rec f.type with
  | none=>rw[y] at h;cases h
  | some l =>
   rw[y] at h;simp only at h;split at h
   ·rename_i W;obtain⟨Z,Y⟩:=W;rw[Option.map_eq_some_iff] at h;obtain⟨M,V,rfl⟩:=h;rw[List.length_append] at H I;obtain⟨a,O,ea,C,D⟩:=T.split;obtain⟨b,R,eb,E,F⟩:=U.split;have la:=C.len;have lb:=E.len;have ta:(xs.drop o).take l.length=a:=by rw[ea,←la];simp
    have tb:(q.drop o).take l.length=b:=by rw[eb,←lb];simp
    have J:xs.drop (o+l.length)=O:=by rw[←List.drop_drop,ea,←la];simp
    have K:q.drop (o+l.length)=R:=by rw[←List.drop_drop,eb,←lb];simp
    obtain⟨p1,p2⟩:=m f.type l y Y o (by omega);unfold Op.eqFields;rw[if_pos (N f (List.mem_cons_self ..)),Z];simp only[Sem.run_bind,p1,p2,Result.andThen_ok,ta,tb];rw[ea,eb,zig (by rw[la,lb])] at z;by_cases i:a=b
    ·rw[v f.type l y a b C E true (by simp[i]) w];simp only[Result.andThen_ok,Bool.not_true,Bool.false_eq_true,if_false];refine qm2 m v x (o+l.length) M V (fun g X=>N g (List.mem_cons_of_mem _ X)) (by omega) (by omega) (by rw[J];exact D) (by rw[K];exact F) r ?_ w;rw[J,K,z];simp[i]
    ·rw[v f.type l y a b C E false (by simp[i]) w];have:r=false:=by
      cases r with
      | false=>rfl
      | true=>exact absurd (z.1 rfl).1 i
     subst this;simp
   ·cases h
theorem qhy:∀(n d:Nat) (t:TypeId) (l:List Leaf) (xs y:List Value),n≤d→eqB P n t=true→qcp P n t=some l→qda l xs→qda l y→∀r:Bool,(r=true↔xs=y)→∀w,(Op.equalIn d t (mkV P t xs) (mkV P t y)).run P w = .ok r w
 | 0,_,_,_,_,_,_,h,_,_,_,_,_,_=>by cases h
 | n+1,d,t,l,xs,y,hd,K,h,I,J,r,M,w=>by
  obtain⟨d,rfl⟩:∃d',d=d'+1:=⟨d-1,by omega⟩;have a4:=h;unfold qcp at h;split at h
  ·rename_i q;simp only[Option.some.injEq] at h;subst h;obtain⟨_,_,rfl,⟨a,rfl⟩,rfl⟩:=I;obtain⟨_,_,rfl,⟨b,rfl⟩,rfl⟩:=J;have v:qht P t=false:=by unfold qht;rw[q]
   unfold mkV;rw[v];simp only[Bool.false_eq_true,if_false,List.headD_cons];rw[run_equalIn_bool' w d t a b q];congr 1;rw[Bool.eq_iff_iff,M];simp
  ·rename_i k q;simp only[Option.some.injEq] at h;subst h;obtain⟨_,_,rfl,⟨a,rfl,_⟩,rfl⟩:=I;obtain⟨_,_,rfl,⟨b,rfl,_⟩,rfl⟩:=J;have v:qht P t=false:=by unfold qht;rw[q]
   unfold mkV;rw[v];simp only[Bool.false_eq_true,if_false,List.headD_cons];rw[run_equalIn_int w d t k k a b q];congr 1;rw[Bool.eq_iff_iff,M];simp
  ·rename_i q;simp only[Option.some.injEq] at h;subst h;obtain⟨_,_,rfl,⟨a,rfl,_⟩,rfl⟩:=I;obtain⟨_,_,rfl,⟨b,rfl,_⟩,rfl⟩:=J;have v:qht P t=false:=by unfold qht;rw[q]
   unfold mkV;rw[v];simp only[Bool.false_eq_true,if_false,List.headD_cons];rw[run_equalIn_string w d t a b q];congr 1;rw[Bool.eq_iff_iff,M,beq_iff_eq,ByteArray.toList_eq,ByteArray.toList_eq];constructor
   ·intro h;have:a=b:=by
     obtain⟨a⟩:=a;obtain⟨b⟩:=b;exact congrArg ByteArray.mk (Array.ext' h)
    rw[this]
   ·intro h;cases h;rfl
  ·rename_i fs q;split at h
   ·rename_i L U;split at h
    ·rename_i W;simp only[Option.some.injEq] at h;subst h;unfold eqB at K;rw[q] at K;simp only[Bool.and_eq_true,Bool.not_eq_true'] at K;obtain⟨_,hp,a5⟩:=K;have v:qht P t=true:=by unfold qht;rw[q]
     unfold mkV;rw[v];simp only[if_true];have X:P.fieldsOf t=fs:=by unfold Program.fieldsOf;rw[q]
     rw[run_equalIn_struct w d t _ _ (by rw[X];exact q) hp,X];have hx:=I.len;have hy:=J.len;have Y:∀f∈fs.toList,f.name≠"_"∧eqB P n f.type=true:=fun f O=>by
      have:=List.all_eq_true.1 a5 f O;simpa using this
     refine qm2 (rec:=fun t=>if eqB P n t then qcp P n t else none) (fun t' l' z h2 o ho=> ?_) (fun t' l' z a b fa fb r M w=> ?_) fs.toList 0 L ?_ (fun f O=>(Y f O).1) (by omega) (by omega) I J r M w
     ·by_cases D:eqB P n t'=true
      ·rw[if_pos D] at z;obtain⟨i,x⟩:=qzu D;exact⟨funext fun w=>qov z h2 x xs o ho w,funext fun w=>qov z h2 x y o (by omega) w⟩
      ·rw[if_neg D] at z;cases z
     ·by_cases D:eqB P n t'=true
      ·rw[if_pos D] at z;exact qhy n d t' l' a b (by omega) D z fa fb r M w
      ·rw[if_neg D] at z;cases z
     ·have key:∀(T:List Field) (o:Nat),(∀f∈T,eqB P n f.type=true)→qbx P (fun t=>if eqB P n t then qcp P n t else none) o T=qbx P (qcp P n) o T:=by
       intro T
       induction T with
       | nil=>intro o _;rfl
       | cons g T V =>
        intro o hg;unfold qbx;rw[if_pos (hg g (List.mem_cons_self ..))];cases qcp P n g.type with
        | none=>rfl
        | some l=>simp only[V _ fun f O=>hg f (List.mem_cons_of_mem _ O)]
      rw[key fs.toList 0 fun f O=>(Y f O).2];exact U
    ·cases h
   ·cases h
  ·rename_i m e q;split at h
   ·rename_i L U;split at h
    ·rename_i W;simp only[Option.some.injEq] at h;subst h;unfold eqB at K;rw[q] at K;simp only[Bool.and_eq_true] at K;obtain⟨_,N⟩:=K;obtain⟨ie,R⟩:=qzu N;have v:qht P t=true:=by unfold qht;rw[q]
     unfold mkV;rw[v];simp only[if_true];have Z:((List.replicate m L).flatten).length=m*L.length:=by simp
     have hx:=I.len;have hy:=J.len;rw[Z] at hx hy;have E:∀(m:Nat) (zs:List Value),qda (List.replicate m L).flatten zs→∀i,i<m→qda L ((zs.drop (i*L.length)).take L.length):=by
      intro m
      induction m with
      | zero=>intro zs _ i x;omega
      | succ m V =>
       intro zs hz i x;rw[List.replicate_succ,List.flatten_cons] at hz;obtain⟨a,b,rfl,v,D⟩:=hz.split;cases i with
       | zero=>rw[Nat.zero_mul,List.drop_zero,←v.len,List.take_left];exact v
       | succ i =>
        have:=V b D i (by omega);rw[Nat.succ_mul,Nat.add_comm,←List.drop_drop,←v.len,List.drop_left];rw[v.len];exact this
     have F:(r=true↔∀i∈List.range' 0 m 1,(xs.drop (i*L.length)).take L.length=(y.drop (i*L.length)).take L.length):=by
      rw[M];constructor
      ·rintro rfl i _;rfl
      ·intro H;rw[qrw L.length m xs hx,qrw L.length m y hy];congr 1;apply List.map_congr_left;intro i x;exact H i (by simpa using List.mem_range.1 x)
     unfold Op.equalIn;simp only[Sem.run_bind,run_underlying q,Result.andThen_ok,qtk R,Std.Legacy.Range.forIn_eq_forIn_range',Std.Legacy.Range.size,Nat.sub_zero,Nat.add_sub_cancel,Nat.div_one];have hl:∀i∈List.range' 0 m 1,i<m:=fun i x=>by simpa using (List.mem_range'_1.1 x).2
     clear M;generalize List.range' 0 m 1=is at hl F ⊢
     induction is with
     | nil =>
      have:r=true:=F.2 (by simp);subst this;simp
     | cons i is V =>
      have x:i<m:=hl i (by simp);have a6:i*L.length+L.length≤m*L.length:=by have:=Nat.mul_le_mul_right L.length (show i+1≤m from x);rw[Nat.succ_mul] at this;exact this
      rw[W.1];rw[W.1] at V;have px:=qov U W.1 R xs (i*L.length) (by omega) w;have py:=qov U W.1 R y (i*L.length) (by omega) w;simp only[List.forIn_cons,Sem.run_bind,px,py,Result.andThen_ok];by_cases C:(xs.drop (i*L.length)).take L.length=(y.drop (i*L.length)).take L.length
      ·rw[qhy n d e L _ _ (by omega) N U (E m xs I i x) (E m y J i x) true (by simp[C]) w];simp only[Result.andThen_ok,Bool.not_true,Bool.false_eq_true,if_false,Sem.run_pure];refine V (fun j hj=>hl j (by simp[hj])) ?_;rw[F];simp[C]
      ·rw[qhy n d e L _ _ (by omega) N U (E m xs I i x) (E m y J i x) false (by simp[C]) w];have:r=false:=by
        cases r with
        | false=>rfl
        | true=>exact absurd (F.1 rfl i (by simp)) C
       subst this;simp
    ·cases h
   ·cases h
  ·cases h
theorem qko(n:Nat){t:TypeId}{l:List Leaf}(x:n≤10000)(q:eqB P n t=true)(v:qcp P n t=some l)(o:qht P t=true){xs g:List Value}(i:qda l xs)(m:qda l g)(r:Bool)(y:r=true↔xs=g)(w:World) :
  (binOp .eql t (.agg xs.toArray) (.agg g.toArray)).run P w = .ok (.bool r) w:=by
 have:=qhy n 10000 t l xs g x q v i m r y w
 unfold mkV at this
 rw[o] at this
 simp only[if_true] at this
 rw[run_eql_struct,this]
 rfl
theorem qkp(n:Nat){t:TypeId}{l:List Leaf}(x:n≤10000)(q:eqB P n t=true)(v:qcp P n t=some l)(o:qht P t=true){xs g:List Value}(i:qda l xs)(m:qda l g)(r:Bool)(y:r=true↔xs=g)(w:World) :
  (binOp .neq t (.agg xs.toArray) (.agg g.toArray)).run P w = .ok (.bool (!r)) w:=by
 have:=qhy n 10000 t l xs g x q v i m r y w
 unfold mkV at this
 rw[o] at this
 simp only[if_true] at this
 rw[run_neq_struct,this]
 rfl
end
end Go.Proofs.YthnohmjbbeahmaaGreatDoor
namespace Go.Proofs.YthnohmjbbeahmaaGreatDoor
open Go.RowKit
def qa7(h:List Int):Prop:=∀b∈h,0≤b∧b≤255
theorem Tryz.flatHsh:qcp Tryz.prog 5 33=some (List.replicate 32 (.int .u8)):=by kernel_rfl
theorem Tryz.eqHsh:eqB Tryz.prog 5 33=true:=by kernel_rfl
theorem Tryz.aggHsh:qht Tryz.prog 33=true:=by kernel_rfl
theorem q6k{x:Int}(h:0≤x∧x≤255):(Lit.int .u8 x).wf=true:=by
 simp[Lit.wf,IntKind.min,IntKind.max,IntKind.signed,IntKind.bits];omega
theorem qni(k:IntKind):∀(l:List Int),(∀x∈l,(Lit.int k x).wf=true)→qda (List.replicate l.length (.int k)) (l.map (Value.int k))
 | [],_=>rfl
 | x::l,h=>⟨_,_,rfl,⟨_,rfl,h x (List.mem_cons_self ..)⟩,qni k l fun y g=>h y (List.mem_cons_of_mem _ g)⟩
theorem qlo{h:List Int}(i:h.length=32)(g:qa7 h):qda (List.replicate 32 (.int .u8)) (qy h):=by
 have:=qni .u8 h fun n l=>q6k (g n l)
 rwa [i] at this
theorem qln{a b:List Int}(h:qy a=qy b):a=b:=by
 unfold qy at h;exact(List.map_inj_right (fun x y e=>by injection e)).1 h
def zhh(x y:Value):Sem Value:=binOp .neq 33 x y
theorem qlw(x y:Value):binOp .neq 33 x y=zhh x y:=rfl
theorem zcx{a b:List Int}(i:a.length=32)(l:b.length=32)(ba:qa7 a)(g:qa7 b)(w:World):(zhh (.agg (qy a).toArray) (.agg (qy b).toArray)).run Tryz.prog w = .ok (.bool (a != b)) w:=by
 have:=qkp 5 (by decide) Tryz.eqHsh Tryz.flatHsh Tryz.aggHsh (qlo i ba) (qlo l g) (a==b) (by constructor<;>intro e<;>simp_all [qln];exact qln e) w;exact this
def eqHsh(x y:Value):Sem Value:=binOp .eql 33 x y
theorem qzv(x y:Value):binOp .eql 33 x y=eqHsh x y:=rfl
theorem zih{a b:List Int}(i:a.length=32)(l:b.length=32)(ba:qa7 a)(g:qa7 b)(w:World):(eqHsh (.agg (qy a).toArray) (.agg (qy b).toArray)).run Tryz.prog w = .ok (.bool (a==b)) w:=by
 have:=qko 5 (by decide) Tryz.eqHsh Tryz.flatHsh Tryz.aggHsh (qlo i ba) (qlo l g) (a==b) (by constructor<;>intro e<;>simp_all [qln];exact qln e) w;exact this
theorem qzg(h:List Int)(n:Nat):qa7 (qhv h n):=by
 induction n with
 | zero=>intro x g;rw[qj5] at g;have:=List.eq_of_mem_replicate g;omega
 | succ n i =>
  intro x g;rw[qj4] at g;rcases List.mem_or_eq_of_mem_set g with h | rfl
  ·exact i x h
  ·unfold byI;omega
theorem qgg(s:ByteArray):qa7 (qgw s):=qzg _ _
theorem qec:qa7 qaj:=by
 intro b g;have:=List.eq_of_mem_replicate g;omega
end Go.Proofs.YthnohmjbbeahmaaGreatDoor
