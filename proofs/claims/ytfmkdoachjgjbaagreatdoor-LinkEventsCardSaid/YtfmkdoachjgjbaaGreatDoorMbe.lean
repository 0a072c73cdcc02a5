/-
  Package secret: isNumber, Place, Can.
-/
import Derived.Test.YtfmkdoachjgjbaaGreatDoorTxt
import Derived.Test.YtfmkdoachjgjbaaGreatDoorProg
import Derived.Lib.TrailingZeros
import Derived.Laws.Bits64b
import Derived.Test.YtfmkdoachjgjbaaGreatDoorSec2
import Derived.Test.YtfmkdoachjgjbaaGreatDoorMag
import Derived.Test.YtfmkdoachjgjbaaGreatDoorMbc
import Derived.Test.YtfmkdoachjgjbaaGreatDoorMaa
import Derived.ProofKit
import Derived.OpenShut
import Derived.ShutString
import Derived.ChangeOld
import Derived.Deep.Slices
import Derived.Laws.StructEq
import Derived.Stop.BytesEq
import Derived.Test.YtfmkdoachjgjbaaGreatDoorMad
set_option linter.unusedVariables false
set_option linter.unusedSimpArgs false
namespace Go.Proofs.YtfmkdoachjgjbaaGreatDoor
open Go.RowKit
structure Deb(w:World):Prop where
 tab:∀j,j<64→w.cell? ⟨6,j,none⟩=some (.int .u8 (Lib.deBruijn64tab.getD j 0))
theorem Deb.upd{S:Nat→Prop}{w w':World}(h:Deb w)(u:Upd S w w')(f:¬S 6):Deb w':=⟨fun i m=>u.cell (h.tab i m) f⟩
theorem Deb.new{w w':World}(h:Deb w)(u:qq w w'):Deb w':=h.upd u (fun h=>h)
def qcx(i:Int):Bool:=decide (0≤i)&&decide (i<65536)
theorem qsh{i:Int}(f:0≤i)(m:i<65536):qcx i=true:=by unfold qcx;simp;omega
theorem q6h{i:Int}(h:i<0∨65536≤i):qcx i=false:=by unfold qcx;simp;omega
theorem qlz{i:Int}(h:qcx i=true):0≤i∧i<65536:=by unfold qcx at h;simpa using h
theorem qjd(i:Int)(w:World):Calls Tryz.prog 225 #[.int .i64 i] w (qa0 (.bool (qcx i)) w):=by
 by_cases m:0≤i
 ·by_cases f:i<65536
  ·rw[qsh m f];go_enter Tryz.func225,Tryz.ntmps225;go_wp2;go_ret;exact⟨rfl,Q.refl _⟩
  ·rw[q6h (by omega)];have q:decide (i<65536)=false:=by simpa using f
   go_enter Tryz.func225,Tryz.ntmps225;go_wp2;go_ret;exact⟨rfl,Q.refl _⟩
 ·rw[q6h (by omega)];go_enter Tryz.func225,Tryz.ntmps225;go_wp2;go_ret;exact⟨rfl,Q.refl _⟩
theorem q2z(x a:Nat)(m:x<18446744073709551616)(f:x &&& (18446744073709551616-x)=a)(q:x≠0) :
  IntKind.u64.wrap (bits BinOp.and IntKind.u64 (x:Int) (IntKind.u64.wrap (-(x:Int)))*285870213051353865) / 288230376151711744=((a*285870213051353865%18446744073709551616 / 288230376151711744:Nat):Int):=by
 have i:IntKind.u64.wrap (-(x:Int))=((18446744073709551616-x:Nat):Int):=by rw[IntKind.wrap_u64];omega
 rw[i,bits_and_u64_nat x _ m (by omega),f,IntKind.wrap_u64]
 omega
theorem q2y(x k f:Nat)(w:World)(m:((x:Int)==0)=false)
  (key:IntKind.u64.wrap (bits BinOp.and IntKind.u64 (x:Int) (IntKind.u64.wrap (-(x:Int)))*285870213051353865) / 288230376151711744=(f:Int))
  (q:f<64) (v:k<64) (i:w.cell? ⟨6,f,none⟩=some (.int .u8 k)) :
  Calls Tryz.prog 230 #[.int .u64 x] w (qa0 (.int .i64 k) w):=by
 go_enter Tryz.func230,Tryz.ntmps230
 go_wp2_with (simp only[key])
 go_ret
 exact⟨rfl,Q.refl _⟩
theorem q28(w:World):Calls Tryz.prog 230 #[.int .u64 0] w (qa0 (.int .i64 64) w):=by
 go_enter Tryz.func230,Tryz.ntmps230;go_wp2;go_ret;exact⟨rfl,Q.refl _⟩
theorem q7q(x:Nat)(C:x<18446744073709551616)(w:World)(E:Deb w) :
  Calls Tryz.prog 230 #[.int .u64 x] w (qa0 (.int .i64 (Lib.ctz 64 x)) w):=by
 by_cases i:x=0
 ·subst i;have e:Lib.ctz 64 0=64:=by decide
  rw[e];exact q28 w
 ·obtain⟨m,z⟩:=Lib.lowest_bit 64 x i C;obtain⟨v,q⟩:=Lib.deBruijn64_at _ z;have f:=E.tab _ v;rw[q] at f;exact q2y x _ _ w (by simp;omega) (q2z x _ C m i) v z f
set_option maxHeartbeats 1000000 in
theorem zb8(x:Nat)(m:x<18446744073709551616)(w:World)(f:Deb w) :
  Calls Tryz.prog 226 #[.int .u64 x] w (qa0 (.int .i64 (Lib.ctz 64 x)) w):=by
 have v:IntKind.u64.wrap (x:Int)=(x:Int):=by rw[IntKind.wrap_u64];omega
 have i:=q7q x m w f
 go_enter Tryz.func226,Tryz.ntmps226
 go_wp2_with fail
 refine i.mono ?_
 rintro e w1 ⟨rfl,q⟩
 go_wp2_with fail
 go_ret
 exact⟨rfl,q⟩
def qbn(i:Int):Nat:=if qcx i then min (Lib.ctz 64 i.toNat) 16 else 0
theorem qjj(i:Int):qbn i≤16:=by unfold qbn;split<;>omega
set_option maxRecDepth 100000 in
set_option maxHeartbeats 1000000 in
theorem qhy(i:Int)(w:World)(J:Deb w):Calls Tryz.prog 217 #[.int .i64 i] w (qa0 (.int .i64 (qbn i)) w):=by
 have C:=qjd i w;go_enter Tryz.func217,Tryz.ntmps217;go_wp2_with fail;refine C.mono ?_;rintro e w1 ⟨rfl,q⟩;cases v:qcx i with
 | false =>
  have e:qbn i=0:=by unfold qbn;rw[if_neg (by rw[v];decide)]
  have f:=qb e;clear e;go_wp2_with fail;go_ret;exact⟨by rw[qa f];rfl,q⟩
 | true =>
  obtain⟨z,L⟩:=qlz v;obtain⟨n,rfl⟩:=Int.eq_ofNat_of_zero_le z;have N:IntKind.u64.wrap (n:Int)=(n:Int):=by rw[IntKind.wrap_u64];omega
  have E:=zb8 n (by omega) w1 (J.new (q.upd _));have e:qbn (n:Int)=min (Lib.ctz 64 n) 16:=by unfold qbn;rw[if_pos v];rfl
  have f:=qb e;clear e C;have K:=qb v;clear v z;go_wp2_with fail;refine E.mono ?_;rintro e O ⟨rfl,F⟩;have H:=q.trans F;generalize Lib.ctz 64 n=k at *
  clear E q F;by_cases M:k≤16
  ·have m:min k 16=k:=by omega
   have I:min (k:Int) 16=(k:Int):=by omega
   rw[m] at f;clear m;go_wp2_with fail;go_ret;exact⟨by rw[qa f];rfl,H⟩
  ·have m:min k 16=16:=by omega
   have I:(16:Int)<(k:Int):=by omega
   rw[m] at f;clear m;go_wp2_with fail;go_ret;exact⟨by rw[qa f];rfl,H⟩
def qkm(f t:Int):Bool:=qcx f&&(qcx t&&(f.toNat / 2 ^ qbn f==t.toNat / 2 ^ qbn f))
set_option maxRecDepth 100000 in
set_option maxHeartbeats 1000000 in
theorem qyp(f t:Int)(w:World)(O:Deb w):Calls Tryz.prog 216 #[.int .i64 f,.int .i64 t] w (qa0 (.bool (qkm f t)) w):=by
 have L:=qhy f w O;have U:=qjj f;have i:=fun W=>qjd f W
 have v:=fun W=>qjd t W
 have z:qkm f t=(qcx f&&(qcx t&&(f.toNat / 2 ^ qbn f==t.toNat / 2 ^ qbn f))):=rfl;have C:=qb z;clear z;generalize qbn f=p at *
 go_enter Tryz.func216,Tryz.ntmps216;go_wp2_with fail;refine L.mono ?_;rintro e w1 ⟨rfl,q⟩;clear L;have P:(p:Int)≤16:=by omega
 cases E:qcx f with
 | false =>
  rw[E,Bool.false_and] at C;replace i:=i;rw[E] at i;go_wp2_with (with_reducible first|(first|refine' tw1 (qh ?_) ?_|refine' tw2 (qh ?_) ?_);rotate_left|refine' tw3 (qh ?_)|rfl|apply tn|refine' tw4 ?_);refine(i _).mono ?_;rintro e M ⟨rfl,H⟩;go_wp2_with (with_reducible first|(first|refine' tw1 (qh ?_) ?_|refine' tw2 (qh ?_) ?_);rotate_left|refine' tw3 (qh ?_)|rfl|apply tn|refine' tw4 ?_);go_ret;exact⟨by rw[qa C];rfl,q.trans H.ofDrew⟩
 | true =>
  rw[E,Bool.true_and] at C;rw[E] at i;cases F:qcx t with
  | false =>
   rw[F,Bool.false_and] at C;rw[F] at v;go_wp2_with (with_reducible first|(first|refine' tw1 (qh ?_) ?_|refine' tw2 (qh ?_) ?_);rotate_left|refine' tw3 (qh ?_)|rfl|apply tn|refine' tw4 ?_);refine(i _).mono ?_;rintro e M ⟨rfl,H⟩;go_wp2_with (with_reducible first|(first|refine' tw1 (qh ?_) ?_|refine' tw2 (qh ?_) ?_);rotate_left|refine' tw3 (qh ?_)|rfl|apply tn|refine' tw4 ?_);refine(v _).mono ?_;rintro e R ⟨rfl,J⟩;go_wp2_with (with_reducible first|(first|refine' tw1 (qh ?_) ?_|refine' tw2 (qh ?_) ?_);rotate_left|refine' tw3 (qh ?_)|rfl|apply tn|refine' tw4 ?_);go_ret;exact⟨by rw[qa C];rfl,(q.trans H.ofDrew).trans J⟩
  | true =>
   rw[F,Bool.true_and] at C;rw[F] at v;obtain⟨K,f1⟩:=qlz E;obtain⟨t0,V⟩:=qlz F;obtain⟨n,rfl⟩:=Int.eq_ofNat_of_zero_le K;obtain⟨m,rfl⟩:=Int.eq_ofNat_of_zero_le t0;have S:=qb E;have T:=qb F;clear E F K t0;go_wp2_with (with_reducible first|(first|refine' tw1 (qh ?_) ?_|refine' tw2 (qh ?_) ?_);rotate_left|refine' tw3 (qh ?_)|rfl|apply tn|refine' tw4 ?_);refine(i _).mono ?_;rintro e M ⟨rfl,H⟩;go_wp2_with (with_reducible first|(first|refine' tw1 (qh ?_) ?_|refine' tw2 (qh ?_) ?_);rotate_left|refine' tw3 (qh ?_)|rfl|apply tn|refine' tw4 ?_);refine(v _).mono ?_;rintro e R ⟨rfl,J⟩;go_wp2_with (with_reducible first|(first|refine' tw1 (qh ?_) ?_|refine' tw2 (qh ?_) ?_);rotate_left|refine' tw3 (qh ?_)|rfl|apply tn|refine' tw4 ?_);go_ret;refine⟨?_,(q.trans H.ofDrew).trans J⟩;have I:((n:Int) / 2 ^ p==(m:Int) / 2 ^ p)=((n:Int).toNat / 2 ^ p==(m:Int).toNat / 2 ^ p):=by
    have en:(n:Int) / 2 ^ p=((n / 2 ^ p:Nat):Int):=by rw[Int.natCast_ediv];rfl
    have N:(m:Int) / 2 ^ p=((m / 2 ^ p:Nat):Int):=by rw[Int.natCast_ediv];rfl
    rw[en,N,Int.toNat_natCast,Int.toNat_natCast];by_cases e:n / 2 ^ p=m / 2 ^ p
    ·rw[e];simp
    ·rw[beq_false_of_ne e,beq_false_of_ne (by omega)]
   rw[qa C,←I];rfl
attribute [local go_sem ↓ high] zq qad qag qan
attribute [local go_sem] qbi qch qck qdg qw
def qcz(h:List Int)(i:Int):List Int × Int:=if qcx i=true then (qc4 h i.toNat 16,0) else (ze,1)
set_option maxRecDepth 100000 in
set_option maxHeartbeats 1000000 in
theorem q56(h:List Int)(U:h.length=32)(i:Int)(w:World)(T:Tabs w) :
  Calls Tryz.prog 224 #[.agg (qv h).toArray,.int .i64 i] w (qa5 (.tuple #[.agg (qv (qcz h i).1).toArray,.int .i64 (qcz h i).2]) w):=by
 have m:=fun W=>qjd i W
 go_enter Tryz.func224,Tryz.ntmps224
 go_upto_region 1 with fail
 have J:=(qca w h U).new ((Upd.refl _ _).alloc (.cells (qv ze).toArray 35))
 have F:=qca (w.alloc (.cells (qv h).toArray 35)) ze qo
 rw[World.size_alloc] at F
 have M:qq w ((w.alloc (.cells (qv h).toArray 35)).alloc (.cells (qv ze).toArray 35)):=((Upd.refl _ _).alloc _).alloc _
 generalize (w.alloc (.cells (qv h).toArray 35)).alloc (.cells (qv ze).toArray 35)=w1 at J F M ⊢
 obtain⟨A,E⟩:∃A,A=w.heap.size:=⟨_,rfl⟩
 obtain⟨B,H⟩:∃B,B=w.heap.size+1:=⟨_,rfl⟩
 rw[←H] at F ⊢
 rw[←E] at J ⊢
 have a7:w.heap.size≤B:=by omega
 have a6:B≠A:=by omega
 clear E H
 have HA:=qb J
 have HB:=qb F
 clear J F
 go_wp2_with fail
 refine(m _).mono ?_
 rintro e w2 ⟨rfl,q⟩
 have f:=(qa HB).new (q.upd _)
 have v:=(qa HA).new (q.upd _)
 have I:=M.trans (q.upd _)
 have C:=T.new I
 cases L:qcx i with
 | false =>
  have e:qcz h i=(ze,1):=by unfold qcz;rw[if_neg (by rw[L];decide)]
  have O:=qb e;have X:=f.stOk ze qo;have P:=qb (f.put ze qo);have R:=qb (I.then (zj (w:=w2) (b:=B) (qv ze)) (fun i hi e=>by omega));clear f v I M C T e;go_wp2_with fail;refine bodyPost_ret (qy rfl _ _ B _ _ _ _ rfl (qa P).at_ Tryz.underlying35 rfl (by rw[List.size_toArray,qaj,qo];exact Tryz.infoHsh)) rfl ?_;rw[qa O];exact⟨rfl,qa R⟩
 | true =>
  obtain⟨Z,h1⟩:=qlz L;obtain⟨n,rfl⟩:=Int.eq_ofNat_of_zero_le Z;have e:qcz h (n:Int)=(qc4 h n 16,0):=by unfold qcz;rw[if_pos L];rfl
  have O:=qb e;have V:=qhl h U n 16;have hc:=qp1 h U n 16 (by omega) (by omega) w2 C;have hr:=v.row;have N:=qb f;have S:=qb I;clear e m Z v f I M T L C;go_wp2_with fail;refine hc.mono ?_;rintro e w3 ⟨rfl,Y⟩;have z:=(qa N).new Y;have n4:=(qa S).trans Y;have X:=z.stOk _ V;have P:=qb (z.put _ V);have R:=qb (n4.then (zj (w:=w3) (b:=B) (qv (qc4 h n 16))) (fun i hi e=>by omega));clear z n4 Y hc hr;generalize qc4 h n 16=K at *
  go_wp2_with fail;refine bodyPost_ret (qy rfl _ _ B _ _ _ _ rfl (qa P).at_ Tryz.underlying35 rfl (by rw[List.size_toArray,qaj,V];exact Tryz.infoHsh)) rfl ?_;rw[qa O];exact⟨rfl,qa R⟩
def qcf(h:List Int)(f t:Int):List Int × Int:=if qkm f t=true then (qc4 h t.toNat (qbn f),0) else (ze,1)
theorem qtl(h:List Int)(i:h.length=32)(f t:Int):(qcf h f t).1.length=32:=by
 unfold qcf;split
 ·exact qhl h i _ _
 ·exact qo
theorem q8g{f t:Int}(h:qkm f t=true):qcx t=true:=by
 unfold qkm at h;simp only[Bool.and_eq_true] at h;exact h.2.1
set_option maxRecDepth 100000 in
set_option maxHeartbeats 1000000 in
theorem qwa(h:List Int)(hh:h.length=32)(f t:Int)(w:World)(hT:Tabs w)(S:Deb w) :
  Calls Tryz.prog 220 #[.agg (qv h).toArray,.int .i64 f,.int .i64 t] w (qa5 (.tuple #[.agg (qv (qcf h f t).1).toArray,.int .i64 (qcf h f t).2]) w):=by
 go_enter Tryz.func220,Tryz.ntmps220
 go_upto_region 1 with fail
 have R:=(qca w h hh).new ((Upd.refl _ _).alloc (.cells (qv ze).toArray 35))
 have J:=qca (w.alloc (.cells (qv h).toArray 35)) ze qo
 rw[World.size_alloc] at J
 have O:qq w ((w.alloc (.cells (qv h).toArray 35)).alloc (.cells (qv ze).toArray 35)):=((Upd.refl _ _).alloc _).alloc _
 generalize (w.alloc (.cells (qv h).toArray 35)).alloc (.cells (qv ze).toArray 35)=w1 at R J O ⊢
 obtain⟨A,I⟩:∃A,A=w.heap.size:=⟨_,rfl⟩
 obtain⟨B,L⟩:∃B,B=w.heap.size+1:=⟨_,rfl⟩
 rw[←L] at J ⊢
 rw[←I] at R ⊢
 have b5:w.heap.size≤B:=by omega
 have b4:B≠A:=by omega
 clear I L
 have HA:=qb R
 have HB:=qb J
 have z:=qyp f t w1 (S.new O)
 clear R J
 go_wp2_with fail
 refine z.mono ?_
 rintro e w2 ⟨rfl,q⟩
 have m:=(qa HB).new (q.upd _)
 have v:=(qa HA).new (q.upd _)
 have H:=O.trans (q.upd _)
 have F:=hT.new H
 have E:=S.new H
 clear z
 cases T:qkm f t with
 | false =>
  have e:qcf h f t=(ze,1):=by unfold qcf;rw[if_neg (by rw[T];decide)]
  have Y:=qb e;have b3:=m.stOk ze qo;have Z:=qb (m.put ze qo);have HN:=qb (H.then (zj (w:=w2) (b:=B) (qv ze)) (fun i hi e=>by omega));clear m v H O F hT e S E;go_wp2_with fail;refine bodyPost_ret (qy rfl _ _ B _ _ _ _ rfl (qa Z).at_ Tryz.underlying35 rfl (by rw[List.size_toArray,qaj,qo];exact Tryz.infoHsh)) rfl ?_;rw[qa Y];exact⟨rfl,qa HN⟩
 | true =>
  obtain⟨h0,h1⟩:=qlz (q8g T);obtain⟨n,rfl⟩:=Int.eq_ofNat_of_zero_le h0;have e:qcf h f (n:Int)=(qc4 h n (qbn f),0):=by unfold qcf;rw[if_pos T];rfl
  have Y:=qb e;have hl:=qhl h hh n (qbn f);have a8:=qjj f;have M:=fun W (hW:Tabs W)=>qp1 h hh n (qbn f) (by omega) a8 W hW
  have hp:=fun W (hW:Deb W)=>qhy f W hW
  have hr:zg w2.drew A 0 32=some (qv h).toArray:=v.row;have V:=qb m;have U:=qb v;have a6:=qb H;have a7:=qb F;have X:=qb E;have HC:=qb M;have HP:=qb hp;clear e h0 v m H O hT T F S E M hp;generalize qc4 h n (qbn f)=K at *
  generalize qbn f=p at *
  go_upto_region 3 with fail;refine qa2 (fun w'=>zg w' A 0 32=some (qv h).toArray) [0] (.of [0,1,2,3,4,5,6]) (by kernel_rfl) (by kernel_rfl) hr ?_;simp only[Plan.of];go_wp2_with (with_reducible first|(first|refine' zy (qh ?_) ?_|refine' zz (qh ?_) ?_|refine' qw3 (qh ?_) ?_);rotate_left|refine' qw4 (qh ?_)|refine' qw5 (qh ?_)|rfl|apply qn);refine(qa HP _ ((qa X).new ((Upd.refl _ _).drew))).mono ?_;rintro e w3 ⟨rfl,q3⟩;have P:qq w2 w3:=(q3.ofDrew).upd _;have N:=((qa U).new P).row;have M:=qa HC w3 ((qa a7).new P);clear hr HP;go_wp2_with (with_reducible first|(first|refine' zy (qh ?_) ?_|refine' zz (qh ?_) ?_|refine' qw3 (qh ?_) ?_);rotate_left|refine' qw4 (qh ?_)|refine' qw5 (qh ?_)|rfl|apply qn);refine⟨N,?_⟩;go_wp2_with (with_reducible first|(first|refine' zy (qh ?_) ?_|refine' zz (qh ?_) ?_|refine' qw3 (qh ?_) ?_);rotate_left|refine' qw4 (qh ?_)|refine' qw5 (qh ?_)|rfl|apply qn);refine M.mono ?_;rintro e w4 ⟨rfl,n4⟩;have C:=((qa V).new P).new n4;have n5:=((qa a6).trans P).trans n4;have b3:=C.stOk _ hl;have Z:=qb (C.put _ hl);have HN:=qb (n5.then (zj (w:=w4) (b:=B) (qv K)) (fun i hi e=>by omega));clear C n5 P M n4 N;go_wp2_with (with_reducible first|(first|refine' zy (qh ?_) ?_|refine' zz (qh ?_) ?_|refine' qw3 (qh ?_) ?_);rotate_left|refine' qw4 (qh ?_)|refine' qw5 (qh ?_)|rfl|apply qn);refine bodyPost_ret (qy rfl _ _ B _ _ _ _ rfl (qa Z).at_ Tryz.underlying35 rfl (by rw[List.size_toArray,qaj,hl];exact Tryz.infoHsh)) rfl ?_;rw[qa Y];exact⟨rfl,qa HN⟩
end Go.Proofs.YtfmkdoachjgjbaaGreatDoor
namespace Go.Proofs.YtfmkdoachjgjbaaGreatDoor
open Go.RowKit
attribute [local go_sem ↓ high] zq qad qag qan qz zb zc zf
attribute [local go_sem] qbi qch qck qdg qw qaw qax qa1
def Ch.secret(c:Ch)(n:Int):List Int × Int:=if n<0∨c.k.heard≤n then (ze,1) else qcz c.s.seed (65535-n)
theorem qlx(h:List Int)(f:h.length=32)(i:Int):(qcz h i).1.length=32:=by
 unfold qcz;split
 ·exact qhl h f _ _
 ·exact qo
theorem Ch.secret_len{c:Ch}(h:c.Ok)(n:Int):(c.secret n).1.length=32:=by
 unfold Ch.secret;split
 ·exact qo
 ·exact qlx _ h.s.seed _
set_option maxRecDepth 100000 in
set_option maxHeartbeats 1000000 in
theorem qxy(g:Nat)(S:Nat→Prop)(c:Ch)(n:Int)(w:World)(h:ChS w g S c)(W:Tabs w)(hn : -9223372036854775808≤n∧n≤9223372036854775807) :
  Calls Tryz.prog 215 #[.pointer (some ⟨g,0,none⟩),.int .i64 n] w (qa5 (.tuple #[.agg (qv (c.secret n).1).toArray,.int .i64 (c.secret n).2]) w):=by
 obtain⟨lv,nv,av,h⟩:=h
 go_enter Tryz.func215,Tryz.ntmps215
 go_upto_region 1 with fail
 have f:=qca w ze qo
 have v:qq w (w.alloc (.cells (qv ze).toArray 35)):=(Upd.refl _ _).alloc _
 generalize w.alloc (.cells (qv ze).toArray 35)=w1 at f v ⊢
 obtain⟨B,z⟩:∃B,B=w.heap.size:=⟨_,rfl⟩
 rw[←z] at f ⊢
 have V:w.heap.size≤B:=by omega
 clear z
 have I:=h.new v
 have R:w1.cell? ⟨g,38,none⟩=some (.int .i64 c.k.heard):=I.toR.heard
 have q:=I.seed
 by_cases e:n<0∨c.k.heard≤n
 ·have C:c.secret n=(ze,1):=by unfold Ch.secret;rw[if_pos e]
  have L:=f.stOk ze qo;have F:=qb (f.put ze qo);have H:=qb (v.then (zj (w:=w1) (b:=B) (qv ze)) (fun i X e=>by omega));have E:=qb C;clear h I f v C;by_cases T:n<0
  ·go_wp2_with fail;refine bodyPost_ret (qy rfl _ _ B _ _ _ _ rfl (qa F).at_ Tryz.underlying35 rfl (by rw[List.size_toArray,qaj,qo];exact Tryz.infoHsh)) rfl ?_;rw[qa E];exact⟨rfl,qa H⟩
  ·have U:c.k.heard≤n:=by omega
   clear e;go_wp2_with fail;refine bodyPost_ret (qy rfl _ _ B _ _ _ _ rfl (qa F).at_ Tryz.underlying35 rfl (by rw[List.size_toArray,qaj,qo];exact Tryz.infoHsh)) rfl ?_;rw[qa E];exact⟨rfl,qa H⟩
 ·have C:c.secret n=qcz c.s.seed (65535-n):=by unfold Ch.secret;rw[if_neg e]
  have T:¬n<0:=by omega
  have U:¬c.k.heard≤n:=by omega
  have Y:IntKind.i64.wrap (65535-n)=65535-n:=qi9 (by omega) (by omega);have N:=q56 c.s.seed h.ok.s.seed (65535-n) w1 (W.new v);have J:=qlx c.s.seed h.ok.s.seed (65535-n);have E:=qb C;have O:=qb f;have P:=qb v;clear h I f v C e;generalize qcz c.s.seed (65535-n)=K at *
  go_wp2_with fail;refine N.mono ?_;rintro e Z ⟨rfl,M⟩;have m:=(qa O).new M;have L:=m.stOk _ J;have F:=qb (m.put _ J);have H:=qb (((qa P).trans M).then (zj (w:=Z) (b:=B) (qv K.1)) (fun i X e=>by omega));clear m M N q;go_wp2_with fail;refine bodyPost_ret (qy rfl _ _ B _ _ _ _ rfl (qa F).at_ Tryz.underlying35 rfl (by rw[List.size_toArray,qaj,J];exact Tryz.infoHsh)) rfl ?_;rw[qa E];exact⟨rfl,qa H⟩
def Ch.revocation(c:Ch):MsgV:=⟨7,c.s.ch,0,0,(c.secret (c.k.heard-1)).1,0,c.k.heard-1⟩
set_option maxRecDepth 100000 in
set_option maxHeartbeats 1000000 in
theorem qi0(g:Nat)(S:Nat→Prop)(c:Ch)(w:World)(h:ChS w g S c)(hT:Tabs w) :
  Calls Tryz.prog 205 #[.pointer (some ⟨g,0,none⟩)] w (qa5 (.agg c.revocation.cells.toArray) w):=by
 obtain⟨lv,nv,av,h⟩:=h
 have a8:=h.ok.heard
 go_enter Tryz.func205,Tryz.ntmps205
 go_upto_region 1 with fail
 have J:=qai w MsgV.zero qo
 have H:qq w (w.alloc (.cells MsgV.zero.cells.toArray 101)):=(Upd.refl _ _).alloc _
 generalize w.alloc (.cells MsgV.zero.cells.toArray 101)=w1 at J H ⊢
 obtain⟨B,z⟩:∃B,B=w.heap.size:=⟨_,rfl⟩
 rw[←z] at J ⊢
 have a7:w.heap.size≤B:=by omega
 clear z
 have I:=h.new H
 have v:w1.cell? ⟨g,38,none⟩=some (.int .i64 c.k.heard):=I.toR.heard
 have b4:IntKind.i64.wrap (c.k.heard-1)=c.k.heard-1:=qi9 (by omega) (by omega)
 have hs:=qxy g S c (c.k.heard-1) w1 ⟨lv,nv,av,I⟩ (hT.new H) (by omega)
 have L:=Ch.secret_len h.ok (c.k.heard-1)
 have E:c.revocation=⟨7,c.s.ch,0,0,(c.secret (c.k.heard-1)).1,0,c.k.heard-1⟩:=rfl
 have HR:=qb E
 have HB:=qb J
 have N1:=qb H
 have H1:=qb I
 clear h I J H E
 generalize c.secret (c.k.heard-1)=K at *
 go_wp2_with fail
 refine hs.mono ?_
 rintro e O ⟨rfl,M⟩
 obtain⟨F,C,N⟩:=qgv O K.1 L
 have Z:=((qa H1).new M).new N
 have P:=qb C
 have f:=qb (((qa HB).new M).new N)
 have q:=qb (((qa N1).trans M).trans N)
 have V:=qb Z
 clear hs M C N Z v
 go_upto_region 2 with fail
 change Code.wp _ _ _ _ (qh5 O K.1)
 generalize qh5 O K.1=m at P f q V ⊢
 generalize O.heap.size=A at P ⊢
 have R:=qa V
 have b3:=(qa P).row
 have a6:m.cell? ⟨g,0,none⟩=some (.int .u32 c.s.ch):=R.toR.ch
 have v:m.cell? ⟨g,38,none⟩=some (.int .i64 c.k.heard):=R.toR.heard
 have T:=fun W=>qv2 7 c.s.ch (c.k.heard-1) K.1 L W
 have F:stOk m.drew B 0 38 (MsgV.cells ⟨7,c.s.ch,0,0,K.1,0,c.k.heard-1⟩).toArray=true:=(qa f).stOk (k:=⟨7,c.s.ch,0,0,K.1,0,c.k.heard-1⟩) L
 have U:qq m m.drew:=(Upd.refl _ _).drew
 have X:=qb (((qa f).new U).put (k:=⟨7,c.s.ch,0,0,K.1,0,c.k.heard-1⟩) L)
 have Y:=qb (((qa q).trans U).then (zj (w:=m.drew) (b:=B) (MsgV.cells ⟨7,c.s.ch,0,0,K.1,0,c.k.heard-1⟩)) (fun i hi e=>by omega))
 clear R U
 rw[←qa HR] at F X Y T
 go_wp2_with (with_reducible first|(first|refine' tw1 (qh ?_) ?_|refine' tw2 (qh ?_) ?_);rotate_left|refine' tw3 (qh ?_)|rfl|apply tn|refine' tw4 ?_)
 have C:=qa X
 exact bodyPost_ret (results_cell_row rfl _ _ B _ _ _ _ rfl C.at_ Tryz.underlying101 rfl (by rw[C.agg];exact Tryz.infoMsg)) rfl ⟨rfl,qa Y⟩
end Go.Proofs.YtfmkdoachjgjbaaGreatDoor
namespace Go.Proofs.YtfmkdoachjgjbaaGreatDoor
open Go.RowKit Go.ChangeShapes Go.WideShapes Go.ChangeAt Go.Deep
inductive Leaf where
 | bool
 | int (k:IntKind)
 | str
 deriving DecidableEq
def Leaf.fits:Leaf→Value→Prop
 | .bool,v=>∃b,v = .bool b
 | .int k,v=>∃n,v = .int k n∧(Lit.int k n).wf=true
 | .str,v=>∃s:ByteArray,v = .string s∧s.size≤maxLen
def qd2:List Leaf→List Value→Prop
 | [],cs=>cs=[]
 | l::ls,cs=>∃v r,cs=v::r∧l.fits v∧qd2 ls r
theorem qd2.len:∀ {ls:List Leaf} {cs:List Value},qd2 ls cs→cs.length=ls.length
 | [],_,h=>by rw[show _=[] from h];rfl
 | l::ls,_,h=>by obtain⟨v,r,rfl,_,f⟩:=h;simp[f.len]
theorem qd2.app:∀ {ls i:List Leaf} {cs f:List Value},qd2 ls cs→qd2 i f→qd2 (ls++i) (cs++f)
 | [],_,_,_,h,k=>by rw[show _=[] from h];exact k
 | l::ls,_,_,_,h,k=>by obtain⟨v,r,rfl,q,m⟩:=h;exact⟨v,_,rfl,q,m.app k⟩
theorem qd2.split:∀ {ls f:List Leaf} {cs:List Value},qd2 (ls++f) cs→∃a b,cs=a++b∧qd2 ls a∧qd2 f b
 | [],_,cs,h=>⟨[],cs,rfl,rfl,h⟩
 | l::ls,_,_,h=>by
  obtain⟨v,r,rfl,z,q⟩:=h;obtain⟨a,b,rfl,i,m⟩:=qd2.split q;exact⟨v::a,b,rfl,⟨v,a,rfl,z,i⟩,m⟩
def qcm(P:Program)(rec:TypeId→Option (List Leaf)):Nat→List Field→Option (List Leaf)
 | _,[]=>some []
 | o,f::r=>match rec f.type with
  | none=>none
  | some l=>if f.offset=o∧P.cellsOf f.type=l.length then (qcm P rec (o+l.length) r).map (l ++ ·) else none
def qc9(P:Program):Nat→TypeId→Option (List Leaf)
 | 0,_=>none
 | n+1,t=>match P.underlying t with
  | some .bool=>some [.bool]
  | some (.int k)=>some [.int k]
  | some .string=>some [.str]
  | some (.struct f)=>match qcm P (qc9 P n) 0 f.toList with
   | some l=>if P.cellsOf t=l.length then some l else none
   | none=>none
  | some (.array m e)=>match qc9 P n e with
   | some l=>if P.cellsOf e=l.length∧P.cellsOf t=m*l.length then some (List.replicate m l).flatten else none
   | none=>none
  | _=>none
section
variable {H:Type}{enc:TypeId × Value→H}{P:Program}{w:World}{base:Nat}{spare:Nat→Bool}{held:Bool}
theorem qry(k:Nat):∀(m:Nat) (cs:List Value),cs.length=m*k→cs=((List.range m).map fun i=>(cs.drop (i*k)).take k).flatten
 | 0,cs,h=>by
  have:cs=[]:=List.length_eq_zero_iff.1 (by omega);subst this;rfl
 | m+1,cs,h=>by
  have f:=qry k m (cs.drop k) (by rw[List.length_drop,h,Nat.succ_mul];omega);rw[List.range_succ_eq_map,List.map_cons,List.flatten_cons,Nat.zero_mul,List.drop_zero,List.map_map];have e:((List.range m).map ((fun i=>(cs.drop (i*k)).take k) ∘ Nat.succ))=((List.range m).map fun i=>((cs.drop k).drop (i*k)).take k):=by
   apply List.map_congr_left;intro i _;show (cs.drop ((i+1)*k)).take k=_;rw[List.drop_drop,Nat.succ_mul,Nat.add_comm]
  rw[e,←f,List.take_append_drop]
end
def qgm(P:Program)(t:TypeId):Bool:=match P.underlying t with | some (.struct _)=>true | some (.array _ _)=>true | _=>false
def mkV(P:Program)(t:TypeId)(cs:List Value):Value:=if qgm P t then .agg cs.toArray else cs.headD undef
def eqB(P:Program):Nat→TypeId→Bool
 | 0,_=>false
 | n+1,t=>(P.info? t).isSome&&match P.underlying t with
  | some .bool=>true
  | some (.int _)=>true
  | some .string=>true
  | some (.struct i)=> !P.stoodInHeld t&&i.toList.all fun f=>f.name != "_"&&eqB P n f.type
  | some (.array _ e)=>eqB P n e
  | _=>false
section
variable {P:Program}
theorem qtn{n:Nat}{t:TypeId}(h:eqB P n t=true):∃i,P.info? t=some i:=by
 cases n with
 | zero=>cases h
 | succ n =>
  unfold eqB at h;simp only[Bool.and_eq_true] at h;exact Option.isSome_iff_exists.1 h.1
theorem qo0{t:TypeId}{i:TypeInfo}(h:P.info? t=some i)(w:World):(sizeOf t).run P w = .ok (P.cellsOf t) w:=by
 simp[sizeOf,typeInfo,h,Program.cellsOf]
theorem q0h{n:Nat}{t:TypeId}{l:List Leaf}(h:qc9 P n t=some l)(f:qgm P t=false):∃k,l=[k]:=by
 cases n with
 | zero=>simp[qc9] at h
 | succ n =>
  unfold qc9 at h;unfold qgm at f;split at h
  ·exact⟨_,(Option.some.inj h).symm⟩
  ·exact⟨_,(Option.some.inj h).symm⟩
  ·exact⟨_,(Option.some.inj h).symm⟩
  ·rename_i i;rw[i] at f;cases f
  ·rename_i i;rw[i] at f;cases f
  ·cases h
theorem q45{n:Nat}{t:TypeId}{l:List Leaf}(h:qc9 P n t=some l):∃d,P.underlying t=some d:=by
 cases n with
 | zero=>simp[qc9] at h
 | succ n =>
  unfold qc9 at h;cases f:P.underlying t with
  | none=>rw[f] at h;cases h
  | some d=>exact⟨d,rfl⟩
theorem qle{n:Nat}{t:TypeId}{l:List Leaf}(h:qc9 P n t=some l)(v:P.cellsOf t=l.length){i:TypeInfo}(z:P.info? t=some i)(xs:List Value)(o:Nat)(C:o+l.length≤xs.length)(w:World) :
  (part t xs.toArray o).run P w = .ok (mkV P t ((xs.drop o).take l.length)) w:=by
 obtain⟨d,hd⟩:=q45 h
 unfold part mkV
 cases f:qgm P t with
 | true =>
  have m:(isAgg t).run P w = .ok true w:=by
   unfold qgm at f;unfold isAgg;simp only[Sem.run_bind,run_underlying hd,Result.andThen_ok];rw[hd] at f;cases d<;>simp at f ⊢
  simp only[Sem.run_bind,m,Result.andThen_ok,if_true,qo0 z,Sem.run_pure];congr 2;apply Array.ext';rw[v];simp[List.extract_eq_take_drop,List.take_drop]
 | false =>
  have m:(isAgg t).run P w = .ok false w:=by
   unfold qgm at f;unfold isAgg;simp only[Sem.run_bind,run_underlying hd,Result.andThen_ok];rw[hd] at f;cases d<;>simp at f ⊢
  obtain⟨k,rfl⟩:=q0h h f;have q:o<xs.length:=by simp at C;omega
  have E:xs.toArray[o]? = some xs[o]:=by simp[q]
  simp only[Sem.run_bind,m,Result.andThen_ok,Bool.false_eq_true,if_false,E,Sem.run_pure];congr 1;rw[List.drop_eq_getElem_cons q];rfl
theorem zba{a b c d:List Value}(h:a.length=b.length):a++c=b++d↔a=b∧c=d :=
 ⟨fun e=>List.append_inj e h,fun⟨e,f⟩=>by rw[e,f]⟩
theorem qjs{rec:TypeId→Option (List Leaf)}{d:Nat}{xs q:List Value}
  (m:∀t l,rec t=some l→P.cellsOf t=l.length→∀o,o+l.length≤xs.length→(part t xs.toArray o).run P=(fun w=> .ok (mkV P t ((xs.drop o).take l.length)) w)∧(part t q.toArray o).run P=(fun w=> .ok (mkV P t ((q.drop o).take l.length)) w))
  (v:∀t l,rec t=some l→∀a b,qd2 l a→qd2 l b→∀r:Bool,(r=true↔a=b)→∀w,(Op.equalIn d t (mkV P t a) (mkV P t b)).run P w = .ok r w) :
  ∀(z:List Field) (o:Nat) (L:List Leaf),qcm P rec o z=some L→(∀f∈z,f.name≠"_")→xs.length=o+L.length→q.length=o+L.length→qd2 L (xs.drop o)→qd2 L (q.drop o) →
   ∀r:Bool,(r=true↔xs.drop o=q.drop o)→∀w,(Op.eqFields d xs.toArray q.toArray z).run P w = .ok r w
 | [],o,L,h,_,O,R,_,_,r,E,w=>by
  simp only[qcm,Option.some.injEq] at h;subst h;have:r=true:=E.2 (by rw[List.drop_eq_nil_of_le (by simp at O;omega),List.drop_eq_nil_of_le (by simp at R;omega)]);subst this;rfl
 | f::z,o,L,h,U,O,R,X,Y,r,E,w=>by
  unfold qcm at h;cases C:rec f.type with
  | none=>rw[C] at h;cases h
  | some l =>
   rw[C] at h;simp only at h;split at h
   ·rename_i hc;obtain⟨ho,hk⟩:=hc;rw[Option.map_eq_some_iff] at h;obtain⟨M,Z,rfl⟩:=h;rw[List.length_append] at O R;obtain⟨a,V,F,I,J⟩:=X.split;obtain⟨b,W,H,K,N⟩:=Y.split;have la:=I.len;have lb:=K.len;have ta:(xs.drop o).take l.length=a:=by rw[F,←la];simp
    have tb:(q.drop o).take l.length=b:=by rw[H,←lb];simp
    have S:xs.drop (o+l.length)=V:=by rw[←List.drop_drop,F,←la];simp
    have T:q.drop (o+l.length)=W:=by rw[←List.drop_drop,H,←lb];simp
    obtain⟨p1,p2⟩:=m f.type l C hk o (by omega);unfold Op.eqFields;rw[if_pos (U f (List.mem_cons_self ..)),ho];simp only[Sem.run_bind,p1,p2,Result.andThen_ok,ta,tb];rw[F,H,zba (by rw[la,lb])] at E;by_cases i:a=b
    ·rw[v f.type l C a b I K true (by simp[i]) w];simp only[Result.andThen_ok,Bool.not_true,Bool.false_eq_true,if_false];refine qjs m v z (o+l.length) M Z (fun g hg=>U g (List.mem_cons_of_mem _ hg)) (by omega) (by omega) (by rw[S];exact J) (by rw[T];exact N) r ?_ w;rw[S,T,E];simp[i]
    ·rw[v f.type l C a b I K false (by simp[i]) w];have:r=false:=by
      cases r with
      | false=>rfl
      | true=>exact absurd (E.1 rfl).1 i
     subst this;simp
   ·cases h
theorem qfv:∀(n d:Nat) (t:TypeId) (l:List Leaf) (xs C:List Value),n≤d→eqB P n t=true→qc9 P n t=some l→qd2 l xs→qd2 l C→∀r:Bool,(r=true↔xs=C)→∀w,(Op.equalIn d t (mkV P t xs) (mkV P t C)).run P w = .ok r w
 | 0,_,_,_,_,_,_,h,_,_,_,_,_,_=>by cases h
 | n+1,d,t,l,xs,C,hd,O,h,M,N,r,R,w=>by
  obtain⟨d,rfl⟩:∃d',d=d'+1:=⟨d-1,by omega⟩;have a8:=h;unfold qc9 at h;split at h
  ·rename_i q;simp only[Option.some.injEq] at h;subst h;obtain⟨_,_,rfl,⟨a,rfl⟩,rfl⟩:=M;obtain⟨_,_,rfl,⟨b,rfl⟩,rfl⟩:=N;have v:qgm P t=false:=by unfold qgm;rw[q]
   unfold mkV;rw[v];simp only[Bool.false_eq_true,if_false,List.headD_cons];rw[run_equalIn_bool' w d t a b q];congr 1;rw[Bool.eq_iff_iff,R];simp
  ·rename_i k q;simp only[Option.some.injEq] at h;subst h;obtain⟨_,_,rfl,⟨a,rfl,_⟩,rfl⟩:=M;obtain⟨_,_,rfl,⟨b,rfl,_⟩,rfl⟩:=N;have v:qgm P t=false:=by unfold qgm;rw[q]
   unfold mkV;rw[v];simp only[Bool.false_eq_true,if_false,List.headD_cons];rw[run_equalIn_int w d t k k a b q];congr 1;rw[Bool.eq_iff_iff,R];simp
  ·rename_i q;simp only[Option.some.injEq] at h;subst h;obtain⟨_,_,rfl,⟨a,rfl,_⟩,rfl⟩:=M;obtain⟨_,_,rfl,⟨b,rfl,_⟩,rfl⟩:=N;have v:qgm P t=false:=by unfold qgm;rw[q]
   unfold mkV;rw[v];simp only[Bool.false_eq_true,if_false,List.headD_cons];rw[run_equalIn_string w d t a b q];congr 1;rw[Bool.eq_iff_iff,R,beq_iff_eq,ByteArray.toList_eq,ByteArray.toList_eq];constructor
   ·intro h;have:a=b:=by
     obtain⟨a⟩:=a;obtain⟨b⟩:=b;exact congrArg ByteArray.mk (Array.ext' h)
    rw[this]
   ·intro h;cases h;rfl
  ·rename_i fs q;split at h
   ·rename_i L W;split at h
    ·rename_i Y;simp only[Option.some.injEq] at h;subst h;unfold eqB at O;rw[q] at O;simp only[Bool.and_eq_true,Bool.not_eq_true'] at O;obtain⟨_,hp,b3⟩:=O;have v:qgm P t=true:=by unfold qgm;rw[q]
     unfold mkV;rw[v];simp only[if_true];have Z:P.fieldsOf t=fs:=by unfold Program.fieldsOf;rw[q]
     rw[run_equalIn_struct w d t _ _ (by rw[Z];exact q) hp,Z];have hx:=M.len;have hy:=N.len;have a6:∀f∈fs.toList,f.name≠"_"∧eqB P n f.type=true:=fun f T=>by
      have:=List.all_eq_true.1 b3 f T;simpa using this
     refine qjs (rec:=fun t=>if eqB P n t then qc9 P n t else none) (fun t' l' E h2 o ho=> ?_) (fun t' l' E a b fa fb r R w=> ?_) fs.toList 0 L ?_ (fun f T=>(a6 f T).1) (by omega) (by omega) M N r R w
     ·by_cases I:eqB P n t'=true
      ·rw[if_pos I] at E;obtain⟨i,z⟩:=qtn I;exact⟨funext fun w=>qle E h2 z xs o ho w,funext fun w=>qle E h2 z C o (by omega) w⟩
      ·rw[if_neg I] at E;cases E
     ·by_cases I:eqB P n t'=true
      ·rw[if_pos I] at E;exact qfv n d t' l' a b (by omega) I E fa fb r R w
      ·rw[if_neg I] at E;cases E
     ·have key:∀(V:List Field) (o:Nat),(∀f∈V,eqB P n f.type=true)→qcm P (fun t=>if eqB P n t then qc9 P n t else none) o V=qcm P (qc9 P n) o V:=by
       intro V
       induction V with
       | nil=>intro o _;rfl
       | cons g V X =>
        intro o hg;unfold qcm;rw[if_pos (hg g (List.mem_cons_self ..))];cases qc9 P n g.type with
        | none=>rfl
        | some l=>simp only[X _ fun f T=>hg f (List.mem_cons_of_mem _ T)]
      rw[key fs.toList 0 fun f T=>(a6 f T).2];exact W
    ·cases h
   ·cases h
  ·rename_i m e q;split at h
   ·rename_i L W;split at h
    ·rename_i Y;simp only[Option.some.injEq] at h;subst h;unfold eqB at O;rw[q] at O;simp only[Bool.and_eq_true] at O;obtain⟨_,S⟩:=O;obtain⟨ie,U⟩:=qtn S;have v:qgm P t=true:=by unfold qgm;rw[q]
     unfold mkV;rw[v];simp only[if_true];have a7:((List.replicate m L).flatten).length=m*L.length:=by simp
     have hx:=M.len;have hy:=N.len;rw[a7] at hx hy;have J:∀(m:Nat) (zs:List Value),qd2 (List.replicate m L).flatten zs→∀i,i<m→qd2 L ((zs.drop (i*L.length)).take L.length):=by
      intro m
      induction m with
      | zero=>intro zs _ i z;omega
      | succ m X =>
       intro zs hz i z;rw[List.replicate_succ,List.flatten_cons] at hz;obtain⟨a,b,rfl,v,I⟩:=hz.split;cases i with
       | zero=>rw[Nat.zero_mul,List.drop_zero,←v.len,List.take_left];exact v
       | succ i =>
        have:=X b I i (by omega);rw[Nat.succ_mul,Nat.add_comm,←List.drop_drop,←v.len,List.drop_left];rw[v.len];exact this
     have K:(r=true↔∀i∈List.range' 0 m 1,(xs.drop (i*L.length)).take L.length=(C.drop (i*L.length)).take L.length):=by
      rw[R];constructor
      ·rintro rfl i _;rfl
      ·intro H;rw[qry L.length m xs hx,qry L.length m C hy];congr 1;apply List.map_congr_left;intro i z;exact H i (by simpa using List.mem_range.1 z)
     unfold Op.equalIn;simp only[Sem.run_bind,run_underlying q,Result.andThen_ok,qo0 U,Std.Legacy.Range.forIn_eq_forIn_range',Std.Legacy.Range.size,Nat.sub_zero,Nat.add_sub_cancel,Nat.div_one];have hl:∀i∈List.range' 0 m 1,i<m:=fun i z=>by simpa using (List.mem_range'_1.1 z).2
     clear R;generalize List.range' 0 m 1=is at hl K ⊢
     induction is with
     | nil =>
      have:r=true:=K.2 (by simp);subst this;simp
     | cons i is X =>
      have z:i<m:=hl i (by simp);have b4:i*L.length+L.length≤m*L.length:=by have:=Nat.mul_le_mul_right L.length (show i+1≤m from z);rw[Nat.succ_mul] at this;exact this
      rw[Y.1];rw[Y.1] at X;have px:=qle W Y.1 U xs (i*L.length) (by omega) w;have py:=qle W Y.1 U C (i*L.length) (by omega) w;simp only[List.forIn_cons,Sem.run_bind,px,py,Result.andThen_ok];by_cases F:(xs.drop (i*L.length)).take L.length=(C.drop (i*L.length)).take L.length
      ·rw[qfv n d e L _ _ (by omega) S W (J m xs M i z) (J m C N i z) true (by simp[F]) w];simp only[Result.andThen_ok,Bool.not_true,Bool.false_eq_true,if_false,Sem.run_pure];refine X (fun j hj=>hl j (by simp[hj])) ?_;rw[K];simp[F]
      ·rw[qfv n d e L _ _ (by omega) S W (J m xs M i z) (J m C N i z) false (by simp[F]) w];have:r=false:=by
        cases r with
        | false=>rfl
        | true=>exact absurd (K.1 rfl i (by simp)) F
       subst this;simp
    ·cases h
   ·cases h
  ·cases h
theorem qlc(n:Nat){t:TypeId}{l:List Leaf}(C:n≤10000)(v:eqB P n t=true)(z:qc9 P n t=some l)(q:qgm P t=true){xs f:List Value}(i:qd2 l xs)(m:qd2 l f)(r:Bool)(E:r=true↔xs=f)(w:World) :
  (binOp .eql t (.agg xs.toArray) (.agg f.toArray)).run P w = .ok (.bool r) w:=by
 have:=qfv n 10000 t l xs f C v z i m r E w
 unfold mkV at this
 rw[q] at this
 simp only[if_true] at this
 rw[run_eql_struct,this]
 rfl
theorem qld(n:Nat){t:TypeId}{l:List Leaf}(C:n≤10000)(v:eqB P n t=true)(z:qc9 P n t=some l)(q:qgm P t=true){xs f:List Value}(i:qd2 l xs)(m:qd2 l f)(r:Bool)(E:r=true↔xs=f)(w:World) :
  (binOp .neq t (.agg xs.toArray) (.agg f.toArray)).run P w = .ok (.bool (!r)) w:=by
 have:=qfv n 10000 t l xs f C v z i m r E w
 unfold mkV at this
 rw[q] at this
 simp only[if_true] at this
 rw[run_neq_struct,this]
 rfl
end
end Go.Proofs.YtfmkdoachjgjbaaGreatDoor
namespace Go.Proofs.YtfmkdoachjgjbaaGreatDoor
open Go.RowKit
def qbp(h:List Int):Prop:=∀b∈h,0≤b∧b≤255
theorem Tryz.flatHsh:qc9 Tryz.prog 5 35=some (List.replicate 32 (.int .u8)):=by kernel_rfl
theorem Tryz.eqHsh:eqB Tryz.prog 5 35=true:=by kernel_rfl
theorem Tryz.aggHsh:qgm Tryz.prog 35=true:=by kernel_rfl
theorem qzi{x:Int}(h:0≤x∧x≤255):(Lit.int .u8 x).wf=true:=by
 simp[Lit.wf,IntKind.min,IntKind.max,IntKind.signed,IntKind.bits];omega
theorem qj7(k:IntKind):∀(l:List Int),(∀x∈l,(Lit.int k x).wf=true)→qd2 (List.replicate l.length (.int k)) (l.map (Value.int k))
 | [],_=>rfl
 | x::l,h=>⟨_,_,rfl,⟨_,rfl,h x (List.mem_cons_self ..)⟩,qj7 k l fun y f=>h y (List.mem_cons_of_mem _ f)⟩
theorem qir{h:List Int}(i:h.length=32)(f:qbp h):qd2 (List.replicate 32 (.int .u8)) (qv h):=by
 have:=qj7 .u8 h fun n m=>qzi (f n m)
 rwa [i] at this
theorem qiq{a b:List Int}(h:qv a=qv b):a=b:=by
 unfold qv at h;exact(List.map_inj_right (fun x y e=>by injection e)).1 h
def zal(x y:Value):Sem Value:=binOp .neq 35 x y
theorem qiy(x y:Value):binOp .neq 35 x y=zal x y:=rfl
theorem q6d{a b:List Int}(m:a.length=32)(q:b.length=32)(f:qbp a)(i:qbp b)(w:World):(zal (.agg (qv a).toArray) (.agg (qv b).toArray)).run Tryz.prog w = .ok (.bool (a != b)) w:=by
 have:=qld 5 (by decide) Tryz.eqHsh Tryz.flatHsh Tryz.aggHsh (qir m f) (qir q i) (a==b) (by constructor<;>intro e<;>simp_all [qiq];exact qiq e) w;exact this
def eqHsh(x y:Value):Sem Value:=binOp .eql 35 x y
theorem qmj(x y:Value):binOp .eql 35 x y=eqHsh x y:=rfl
theorem qwd{a b:List Int}(m:a.length=32)(q:b.length=32)(f:qbp a)(i:qbp b)(w:World):(eqHsh (.agg (qv a).toArray) (.agg (qv b).toArray)).run Tryz.prog w = .ok (.bool (a==b)) w:=by
 have:=qlc 5 (by decide) Tryz.eqHsh Tryz.flatHsh Tryz.aggHsh (qir m f) (qir q i) (a==b) (by constructor<;>intro e<;>simp_all [qiq];exact qiq e) w;exact this
theorem qtf(h:List Int)(n:Nat):qbp (qfs h n):=by
 induction n with
 | zero=>intro x f;rw[qhk] at f;have:=List.eq_of_mem_replicate f;omega
 | succ n i =>
  intro x f;rw[qhj] at f;rcases List.mem_or_eq_of_mem_set f with h | rfl
  ·exact i x h
  ·unfold byI;omega
theorem qf3(s:ByteArray):qbp (qef s):=qtf _ _
theorem qdd:qbp ze:=by
 intro b f;have:=List.eq_of_mem_replicate f;omega
theorem KeptV.len(k:KeptV)(h:k.told.length=32):k.cells.length=34:=by simp[KeptV.cells,h]
theorem KeptV.one(k:KeptV):∀v∈k.cells,v.oneCell'=true:=by
 intro v f;simp only[KeptV.cells,List.mem_cons,List.mem_map] at f;rcases f with rfl | rfl | ⟨n,_,rfl⟩<;>rfl
theorem Tryz.infoKpt:(Tryz.prog.info? 120).map (·.size)=some 34:=by kernel_rfl
def zaf(x:Value):Sem Value:=Instr.loadAt 120 x
theorem qmr(x:Value):Instr.loadAt 120 x=zaf x:=rfl
theorem q52(b o:Nat)(w:World):(zaf (.pointer (some ⟨b,o,none⟩))).run Tryz.prog w=match zg w b o 34 with | some A=> .ok (.agg A) w | none=>qdh Tryz.prog 120 w b o :=
 qae 120 34 _ Tryz.underlying120 rfl Tryz.infoKpt b o w
def zaq(x v:Value):Sem Unit:=Instr.storeAt 120 x v
theorem qmy(x v:Value):Instr.storeAt 120 x v=zaq x v:=rfl
theorem q7f(b o:Nat)(A:Array Value)(w:World):(zaq (.pointer (some ⟨b,o,none⟩)) (.agg A)).run Tryz.prog w=if stOk w b o 34 A=true then .ok () (w.setCells b o A.toList) else qed Tryz.prog 120 w b o A :=
 qau 120 34 Tryz.infoKpt b o A w
theorem KeptV.zero_len:KeptV.zero.told.length=32:=List.length_replicate
def q93:Sem Value:=Instr.alloc 120 true (.tuple #[])
theorem ql9:Instr.alloc 120 true (.tuple #[])=q93:=rfl
theorem q3i(w:World):q93.run Tryz.prog w = .ok (.pointer (some ⟨w.heap.size,0,none⟩)) (w.alloc (.cells KeptV.zero.cells.toArray 120)):=by kernel_rfl
def q3n(p:Array (Nat × Value)):Sem Value:=Instr.build 120 p
theorem qma(p:Array (Nat × Value)):Instr.build 120 p=q3n p:=rfl
theorem qmb(w:World):(q3n #[]).run Tryz.prog w = .ok (.agg KeptV.zero.cells.toArray) w:=run_build w _ _ _ (by kernel_rfl)
theorem Tryz.zeroKpt:((Tryz.prog.info? 120).map fun i=>i.zero.map fun z=>z.cells.toList)=some (some KeptV.zero.cells):=by kernel_rfl
theorem Tryz.placesKpt:∃m,Tryz.prog.underlying 120=some (.struct m)∧m.toList.mapM (fun f=>(Tryz.prog.info? f.type).map fun i=>(f.offset,i.size))=some [(0,1),(1,1),(2,32)]:=⟨_,Tryz.underlying120,by kernel_rfl⟩
theorem qzu(b:Bool)(n:Int)(H:List Value)(h:H.length=32):Tryz.prog.built 120 [(0,.bool b),(1,.int .i64 n),(2,.agg H.toArray)]=some (.bool b :: .int .i64 n::H).toArray:=by
 obtain⟨i,z,m,C,f⟩:=qc2 Tryz.zeroKpt;obtain⟨E,v,q⟩:=Tryz.placesKpt;rw[qbm m v C q];rw[qb3 (P:=[]) (z:= .bool false) (R:= .int .i64 0::(ze.map (Value.int .u8))) rfl rfl rfl f];rw[qb3 (P:=[.bool b]) (z:= .int .i64 0) (R:=ze.map (Value.int .u8)) rfl rfl rfl (by rfl)];rw[qc5 (P:=[.bool b,.int .i64 n]) (A:=H) (Z:=ze.map (Value.int .u8)) (R:=[]) (off:=2) (by rw[h];rfl) rfl (by rw[h];rfl) (by rfl)];rw[Instr.fill];simp
theorem za4(b:Bool)(n:Int)(h:List Int)(f:h.length=32)(w:World):(q3n #[(0,.bool b),(1,.int .i64 n),(2,.agg (qv h).toArray)]).run Tryz.prog w = .ok (.agg (KeptV.cells ⟨b,n,h⟩).toArray) w :=
 run_build w _ _ _ (qzu b n (qv h) (by rw[qaj,f]))
structure KpS(w:World)(b:Nat)(k:KeptV):Prop where
 at_:w.heap[b]? = some (.cells k.cells.toArray 120 (0,0))
 len:k.told.length=32
section
variable {S:Nat→Prop}{w w':World}{b:Nat}{k:KeptV}
theorem KpS.upd(a:KpS w b k)(u:Upd S w w')(n:¬S b):KpS w' b k:=⟨u.old a.at_ n,a.len⟩
theorem KpS.new(a:KpS w b k)(u:qq w w'):KpS w' b k:=a.upd u (fun h=>h)
theorem KpS.lt(a:KpS w b k):b<w.heap.size:=zr a.at_
theorem KpS.row(a:KpS w b k):zg w b 0 34=some k.cells.toArray:=qat a.at_ 34 (by rw[List.size_toArray,k.len a.len])
theorem KpS.stOk(a:KpS w b k){j:KeptV}(f:j.told.length=32):stOk w b 0 34 j.cells.toArray=true:=by
 have:=qee a.at_ (A:=j.cells) (by rw[List.size_toArray,k.len a.len,j.len f]) j.one;rwa [List.size_toArray,k.len a.len] at this
theorem KpS.put(a:KpS w b k){j:KeptV}(f:j.told.length=32):KpS (w.setCells b 0 j.cells) b j:=by
 refine⟨?_,f⟩;rw[qa8 a.at_ 0 _,qcu _ _ (by rw[List.size_toArray,k.len a.len,j.len f])]
theorem KpS.c0(a:KpS w b k):w.cell? ⟨b,0,none⟩=some (.bool k.full):=qg a.at_ 0
theorem KpS.c1(a:KpS w b k):w.cell? ⟨b,1,none⟩=some (.int .i64 k.number):=qg a.at_ 1
theorem KpS.hsh(a:KpS w b k):zg w b 2 32=some (qv k.told).toArray:=by
 rw[qbt a.at_ 2 32 (by rw[List.size_toArray,k.len a.len];omega)];congr 1;apply Array.ext';rw[Array.toList_extract];unfold KeptV.cells;show List.take 32 (qv k.told)=qv k.told;exact List.take_of_length_le (by rw[qaj,a.len];exact Nat.le_refl _)
end
theorem qkw(w:World)(k:KeptV)(f:k.told.length=32):KpS (w.alloc (.cells k.cells.toArray 120)) w.heap.size k:=⟨qj _ _,f⟩
attribute [local go_sem ↓ high] zq qad qag qan qmr qmy ql9 qma qiy
attribute [local go_sem] qbi qch qck qdg qw q52 q7f q3i qmb
def qgn(told:List Int)(i:Int)(k:KeptV):Bool:=(qcf told i k.number).2==0&&(qcf told i k.number).1 != k.told
theorem qrx(h:List Int)(b:Nat):qbp (qep h b):=qf3 _
theorem qwl(l:List Nat):∀h:List Int,qbp h→qbp (l.foldl qep h):=by
 induction l with
 | nil=>intro h f;exact f
 | cons b l i=>intro h _;rw[List.foldl_cons];exact i _ (qrx h b)
theorem qko(h:List Int)(f:qbp h)(i d:Nat):qbp (qc4 h i d):=qwl _ h f
theorem qpk(h:List Int)(i:qbp h)(f t:Int):qbp (qcf h f t).1:=by
 unfold qcf;split
 ·exact qko h i _ _
 ·exact qdd
set_option maxRecDepth 100000 in
set_option maxHeartbeats 1000000 in
theorem qt6(told:List Int)(Y:told.length=32)(hb:qbp told)(i:Int)(k:KeptV)(U:k.told.length=32)(kb:qbp k.told)(A I:Nat)(w:World)(hA:HsB w A told)(hI:w.cell? ⟨I,0,none⟩=some (.int .i64 i))(hT:Tabs w)(hD:Deb w) :
  Calls Tryz.prog 219 #[.agg k.cells.toArray,.pointer (some ⟨A,0,none⟩),.pointer (some ⟨I,0,none⟩)] w (qa5 (.bool (qgn told i k)) w):=by
 go_enter Tryz.func219,Tryz.ntmps219
 go_upto_region 1 with fail
 have E:=qkw w k U
 have q:qq w (w.alloc (.cells k.cells.toArray 120)):=(Upd.refl _ _).alloc _
 generalize w.alloc (.cells k.cells.toArray 120)=w1 at E q ⊢
 obtain⟨B,F⟩:∃B,B=w.heap.size:=⟨_,rfl⟩
 rw[←F] at E ⊢
 have a6:w.heap.size≤B:=by omega
 clear F
 have c1:=E.c1
 have rA:=(hA.new q).row
 have cI:=q.cell hI (fun h=>h)
 have hd:=qwa told Y i k.number w1 (hT.new q) (hD.new q)
 have V:=qtl told Y i k.number
 have N:=qpk told hb i k.number
 have X:qgn told i k=((qcf told i k.number).2==0&&(qcf told i k.number).1 != k.told):=rfl
 have v:=qb X
 have Z:=qb E
 clear X E
 generalize qcf told i k.number=K at *
 go_wp2_with fail
 refine hd.mono ?_
 rintro e J ⟨rfl,P⟩
 obtain⟨O,T,R⟩:=qgv J K.1 V
 have L:=qb T
 have z:=qb (((qa Z).new P).new R)
 have f:=qb ((q.trans P).trans R)
 clear hd c1 rA cI q P T R
 go_upto_region 2 with fail
 change Code.wp _ _ _ _ (qh5 J K.1)
 generalize qh5 J K.1=w3 at L z f ⊢
 generalize J.heap.size=H at L ⊢
 clear O
 have a7:=fun W=>q6d V U N kb W
 have rH:=(qa L).row
 have rK:=(qa z).hsh
 cases C:K.2==0 with
 | false =>
  have m:Hid (qgn told i k=false):=by rw[C,Bool.false_and] at v;exact v
  clear v rH rK;have M:¬K.2=0:=by simpa using C
  go_wp2_with fail;go_ret;exact⟨by rw[qa m];rfl,qa f⟩
 | true =>
  have m:Hid (qgn told i k=(K.1 != k.told)):=by rw[C,Bool.true_and] at v;exact v
  have M:K.2=0:=by simpa using C
  clear v C;go_wp2_with fail;go_ret;exact⟨by rw[qa m];rfl,qa f⟩
theorem qkq{α:Type}{A B:List α}{n:Nat}(h:A.length=n):(A++B).drop n=B:=by subst h;simp
theorem qwi(X:List KeptV)(f:∀p∈X,p.told.length=32):∀(i:Nat) (x:KeptV),X[i]? = some x→∃R,(X.flatMap KeptV.cells).drop (i*34)=x.cells++R:=by
 induction X with
 | nil=>intro i x h;simp at h
 | cons y X z =>
  intro i x h;have v:y.cells.length=34:=y.len (f y (List.mem_cons_self ..));cases i with
  | zero =>
   simp only[List.getElem?_cons_zero,Option.some.injEq] at h;subst h;exact⟨X.flatMap KeptV.cells,by simp⟩
  | succ i =>
   rw[List.getElem?_cons_succ] at h;obtain⟨R,m⟩:=z (fun p q=>f p (List.mem_cons_of_mem _ q)) i x h;refine⟨R,?_⟩;rw[List.flatMap_cons,Nat.add_mul,Nat.one_mul,Nat.add_comm (i*34) 34,←List.drop_drop,qkq v,m]
theorem ChP.kept{w:World}{g:Nat}{S:Nat→Prop}{c:Ch}{f z m:Value}(h:ChP w g S c f z m){i:Nat}{p:KeptV}(E:c.shelf[i]? = some p):zg w g (48+i*34) 34=some p.cells.toArray:=by
 have K:=h.ok.s.seed;have L:=(List.getElem?_eq_some_iff.1 E).1;have H:=h.ok.shelf.2 p (List.mem_of_getElem? E);have C:c.s.cells.length=37:=c.s.len K;have N:(c.shelf.flatMap KeptV.cells).length=578:=by rw[qg9 _ h.ok.shelf.2,h.ok.shelf.1]
 have F:(c.v f z m).cells=(c.s.cells++(c.k.cells++[.int .u64 c.loc,.int .u64 c.rem,f]))++(c.shelf.flatMap KeptV.cells++[z,m]):=by
  show c.s.cells++(c.k.cells++(Value.int .u64 c.loc :: .int .u64 c.rem::f::(c.shelf.flatMap KeptV.cells++[z,m])))=_;simp
 have q:(c.s.cells++(c.k.cells++[.int .u64 c.loc,.int .u64 c.rem,f])).length=48:=by
  rw[List.length_append,List.length_append,C];rfl
 have I:=h.ok.shelf.1;have M:48+i*34+34≤(c.v f z m).cells.toArray.size:=by
  rw[List.size_toArray,F,List.length_append,q,List.length_append,N];show 48+i*34+34≤48+(578+2);omega
 rw[qbt h.at_ _ 34 M];congr 1;apply Array.ext';rw[Array.toList_extract,F];show List.extract (_++_) (48+i*34) (48+i*34+34)=_;rw[List.extract_eq_take_drop,Nat.add_sub_cancel_left,←List.drop_drop,qkq q];obtain⟨R,J⟩:=qwi c.shelf h.ok.shelf.2 i p E;rw[List.drop_append_of_le_length (by omega),J,List.append_assoc,List.take_append_of_le_length (by rw[p.len H];exact Nat.le_refl _),List.take_of_length_le (by rw[p.len H];exact Nat.le_refl _)]
def qk1(told:List Int)(i:Int)(ps:List KeptV):Option KeptV:=ps.find? fun k=>k.full&&qgn told i k
def q1g(told:List Int)(i:Int)(ps:List KeptV):KeptV:=(qk1 told i ps).getD KeptV.zero
set_option maxRecDepth 100000 in
set_option maxHeartbeats 1000000 in
theorem qxe(g:Nat)(S:Nat→Prop)(c:Ch)(lv nv av:Value)(n:Nat)(told:List Int)(ht:told.length=32)(hb:qbp told)(i:Int)(A I:Nat)(w:World)(h:ChP w g S c lv nv av)(a8:∀p∈c.shelf,qbp p.told)(hn:n≤17)
  (hA:HsB w A told) (hI:w.cell? ⟨I,0,none⟩=some (.int .i64 i)) (hT:Tabs w) (hD:Deb w) :
  Calls Tryz.prog 218 #[.pointer (some ⟨g,48,none⟩),.int .i64 n,.func (.func 219) #[] #[.pointer (some ⟨A,0,none⟩),.pointer (some ⟨I,0,none⟩)]] w (qa5 (.tuple #[.agg (q1g told i (c.shelf.take n)).cells.toArray,.bool (qk1 told i (c.shelf.take n)).isSome]) w):=by
 have b8:(n:Int)≤17:=by omega
 go_enter Tryz.func218,Tryz.ntmps218
 go_upto_region 1 with fail
 have Z:=qkw w KeptV.zero KeptV.zero_len
 have H:qq w (w.alloc (.cells KeptV.zero.cells.toArray 120)):=(Upd.refl _ _).alloc _
 generalize w.alloc (.cells KeptV.zero.cells.toArray 120)=w1 at Z H ⊢
 obtain⟨R,P⟩:∃R,R=w.heap.size:=⟨_,rfl⟩
 rw[←P] at Z ⊢
 have b5:w.heap.size≤R:=by omega
 clear P
 have H1:=qb (h.new H)
 have HA:=qb (hA.new H)
 have HI:=qb (H.cell hI (fun h=>h))
 have HT:=qb (hT.new H)
 have HD:=qb (hD.new H)
 have HR:=qb Z
 have HN:=qb H
 clear h hA hI hT hD Z H
 go_wp2_with fail
 go_loopw [9,16] (fun _ iv wr=>∃j:Nat,iv = .int .i64 (j:Int)∧j≤n∧Hid (qk1 told i (c.shelf.take j)=none)∧qq w1 wr) (fun _ iv _=>n-(intOf iv).toNat)
 case atStart=>exact⟨0,rfl,Nat.zero_le _,qb rfl,Upd.refl _ _⟩
 case round =>
  obtain⟨j,rfl,hj,v,O⟩:=hrel;obtain⟨z,rfl⟩:∃z:World,z=wr:=⟨_,rfl⟩;by_cases b7:j<n
  ·have Y:=(qa H1).new O;have a7:=Y.ok.shelf.1;obtain⟨p,W⟩:∃p,c.shelf[j]? = some p:=⟨_,List.getElem?_eq_getElem (by omega)⟩;have L:=List.mem_of_getElem? W;have q:=Y.ok.shelf.2 p L;have b3:=a8 p L;have X:=Y.kept W;have ha:=qkw z KeptV.zero KeptV.zero_len;have M:=ha.stOk q;have F:=ha.put q;have J:qq z ((z.alloc (.cells KeptV.zero.cells.toArray 120)).setCells z.heap.size 0 p.cells):=(((Upd.refl (fun _=>False) z).alloc _)).then (zj _) (fun i hi e=>by omega);have b6:(j:Int)<(n:Int):=by omega
   have V:qk1 told i (c.shelf.take (j+1))=if (p.full&&qgn told i p)=true then some p else none:=by
    unfold qk1 at v ⊢;rw[List.take_add_one,W,List.find?_append,qa v];simp only[Option.none_or,Option.toList_some,List.find?_cons,List.find?_nil];cases (p.full&&qgn told i p)<;>rfl
   have E:=qb V;have b4:=qb W;clear Y L ha V W a7;go_upto_region 4 with fail;have N:=qb F;have f:=O.trans J;generalize (z.alloc (.cells KeptV.zero.cells.toArray 120)).setCells z.heap.size 0 p.cells=w5 at N f ⊢;generalize z.heap.size=K at N ⊢;clear M F J X O;have c0:=(qa N).c0;cases hf:p.full with
   | false =>
    rw[hf] at c0;rw[hf,Bool.false_and] at E;go_wp2_with fail;go_roundw
    case rel=>exact⟨j+1,by go_num,by omega,by rw[if_neg (by decide)] at E;exact E,f⟩
    case measure=>simp[intOf];omega
   | true =>
    rw[hf] at c0;rw[hf,Bool.true_and] at E;have rK:=(qa N).row;have T:=qt6 told ht hb i p q b3 A I w5 ((qa HA).new f) (f.cell (qa HI) (fun h=>h)) ((qa HT).new f) ((qa HD).new f);go_wp2_with fail;refine T.mono ?_;rintro e w6 ⟨rfl,n6⟩;have C:=f.trans n6;have a6:=qb ((qa N).new n6);clear T rK c0 N;cases ho:qgn told i p with
    | false =>
     rw[ho,if_neg (by decide)] at E;go_wp2_with fail;go_roundw
     case rel=>exact⟨j+1,by go_num,by omega,E,C⟩
     case measure=>simp[intOf];omega
    | true =>
     rw[ho,if_pos rfl] at E;have b9:=(qa a6).row;have m:=(qa HR).new C;have M:=m.stOk q;have HF:=qb (m.put q);have HU:=qb (((qa HN).trans C).then (zj (w:=w6) (b:=R) p.cells) (fun i hi e=>by omega));clear m f n6 C;go_wp2_with fail;have hF:=qa HF;refine bodyPost_ret (qy rfl _ _ R _ _ _ _ rfl hF.at_ Tryz.underlying120 rfl (by rw[List.size_toArray,p.len q];exact Tryz.infoKpt)) rfl ?_;have U:qk1 told i (c.shelf.take n)=some p:=by
      have e:c.shelf.take n=c.shelf.take (j+1)++(c.shelf.drop (j+1)).take (n-(j+1)):=by
       rw[←List.take_add,Nat.add_sub_cancel' (by omega)]
      have h0:=qa E;unfold qk1 at h0 ⊢;rw[e,List.find?_append,h0];rfl
     refine⟨?_,qa HU⟩;unfold q1g;rw[U];rfl
  ·obtain rfl:j=n:=by omega
   have m:=(qa HR).new O;have M:=m.stOk KeptV.zero_len;have HF:=qb (m.put KeptV.zero_len);have HU:=qb (((qa HN).trans O).then (zj (w:=z) (b:=R) KeptV.zero.cells) (fun i hi e=>by omega));clear m O;go_wp2_with fail;have hF:=qa HF;refine bodyPost_ret (qy rfl _ _ R _ _ _ _ rfl hF.at_ Tryz.underlying120 rfl (by rw[List.size_toArray,KeptV.zero.len KeptV.zero_len];exact Tryz.infoKpt)) rfl ?_;refine⟨?_,qa HU⟩;unfold q1g;rw[qa v];rfl
end Go.Proofs.YtfmkdoachjgjbaaGreatDoor
