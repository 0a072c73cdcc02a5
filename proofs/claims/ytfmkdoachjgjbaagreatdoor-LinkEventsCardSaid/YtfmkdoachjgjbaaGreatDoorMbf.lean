/-
  Package secret: isNumber, Place, Can.
-/
import Derived.Test.YtfmkdoachjgjbaaGreatDoorTxt
import Derived.Test.YtfmkdoachjgjbaaGreatDoorProg
import Derived.Lib.TrailingZeros
import Derived.Laws.Bits64b
import Derived.Test.YtfmkdoachjgjbaaGreatDoorSec2
import Derived.Test.YtfmkdoachjgjbaaGreatDoorMah
import Derived.Test.YtfmkdoachjgjbaaGreatDoorMbd
import Derived.Test.YtfmkdoachjgjbaaGreatDoorMaa
import Derived.ProofKit
import Derived.OpenShut
import Derived.ShutString
import Derived.ChangeOld
import Derived.Deep.Slices
import Derived.Laws.StructEq
import Derived.Stop.BytesEq
import Derived.Test.YtfmkdoachjgjbaaGreatDoorMad
set_option maxRecDepth 100000
set_option maxHeartbeats 1000000
set_option linter.unusedVariables false
set_option linter.unusedSimpArgs false
namespace Go.Proofs.YtfmkdoachjgjbaaGreatDoor
section
open Go.RowKit
structure Deb(w:World):Prop where
 tab:∀j,j<64→w.cell? ⟨6,j,none⟩=some (.int .u8 (Lib.deBruijn64tab.getD j 0))
theorem Deb.upd{S:Nat→Prop}{w w':World}(h:Deb w)(u:Upd S w w')(f:¬S 6):Deb w':=⟨fun i m=>u.cell (h.tab i m) f⟩
theorem Deb.new{w w':World}(h:Deb w)(u:qq w w'):Deb w':=h.upd u (fun h=>h)
def qc1(i:Int):Bool:=decide (0≤i)&&decide (i<65536)
theorem qsp{i:Int}(f:0≤i)(m:i<65536):qc1 i=true:=by unfold qc1;simp;omega
theorem q6s{i:Int}(h:i<0∨65536≤i):qc1 i=false:=by unfold qc1;simp;omega
theorem ql0{i:Int}(h:qc1 i=true):0≤i∧i<65536:=by unfold qc1 at h;simpa using h
theorem qjn(i:Int)(w:World):Calls Tryz.prog 225 #[.int .i64 i] w (qa2 (.bool (qc1 i)) w):=by
 by_cases m:0≤i
 ·by_cases f:i<65536
  ·rw[qsp m f];go_enter Tryz.func225,Tryz.ntmps225;go_wp2;go_ret;exact⟨rfl,Q.refl _⟩
  ·rw[q6s (by omega)];have q:decide (i<65536)=false:=by simpa using f
   go_enter Tryz.func225,Tryz.ntmps225;go_wp2;go_ret;exact⟨rfl,Q.refl _⟩
 ·rw[q6s (by omega)];go_enter Tryz.func225,Tryz.ntmps225;go_wp2;go_ret;exact⟨rfl,Q.refl _⟩
theorem q3i(x a:Nat)(m:x<18446744073709551616)(f:x &&& (18446744073709551616-x)=a)(q:x≠0) :
  IntKind.u64.wrap (bits BinOp.and IntKind.u64 (x:Int) (IntKind.u64.wrap (-(x:Int)))*285870213051353865) / 288230376151711744=((a*285870213051353865%18446744073709551616 / 288230376151711744:Nat):Int):=by
 have i:IntKind.u64.wrap (-(x:Int))=((18446744073709551616-x:Nat):Int):=by rw[IntKind.wrap_u64];omega
 rw[i,bits_and_u64_nat x _ m (by omega),f,IntKind.wrap_u64]
 omega
theorem q3h(x k f:Nat)(w:World)(m:((x:Int)==0)=false)
  (key:IntKind.u64.wrap (bits BinOp.and IntKind.u64 (x:Int) (IntKind.u64.wrap (-(x:Int)))*285870213051353865) / 288230376151711744=(f:Int))
  (q:f<64) (r:k<64) (i:w.cell? ⟨6,f,none⟩=some (.int .u8 k)) :
  Calls Tryz.prog 230 #[.int .u64 x] w (qa2 (.int .i64 k) w):=by
 go_enter Tryz.func230,Tryz.ntmps230
 go_wp2_with (simp only[key])
 go_ret
 exact⟨rfl,Q.refl _⟩
theorem q3j(w:World):Calls Tryz.prog 230 #[.int .u64 0] w (qa2 (.int .i64 64) w):=by
 go_enter Tryz.func230,Tryz.ntmps230;go_wp2;go_ret;exact⟨rfl,Q.refl _⟩
theorem q72(x:Nat)(z:x<18446744073709551616)(w:World)(C:Deb w) :
  Calls Tryz.prog 230 #[.int .u64 x] w (qa2 (.int .i64 (Lib.ctz 64 x)) w):=by
 by_cases i:x=0
 ·subst i;have e:Lib.ctz 64 0=64:=by decide
  rw[e];exact q3j w
 ·obtain⟨m,v⟩:=Lib.lowest_bit 64 x i z;obtain⟨r,q⟩:=Lib.deBruijn64_at _ v;have f:=C.tab _ r;rw[q] at f;exact q3h x _ _ w (by simp;omega) (q3i x _ z m i) r v f
theorem zci(x:Nat)(m:x<18446744073709551616)(w:World)(f:Deb w) :
  Calls Tryz.prog 226 #[.int .u64 x] w (qa2 (.int .i64 (Lib.ctz 64 x)) w):=by
 have r:IntKind.u64.wrap (x:Int)=(x:Int):=by rw[IntKind.wrap_u64];omega
 have i:=q72 x m w f
 go_enter Tryz.func226,Tryz.ntmps226
 go_wp2_with fail
 refine i.mono ?_
 rintro e w1 ⟨rfl,q⟩
 go_wp2_with fail
 go_ret
 exact⟨rfl,q⟩
def qbr(i:Int):Nat:=if qc1 i then min (Lib.ctz 64 i.toNat) 16 else 0
theorem qjs(i:Int):qbr i≤16:=by unfold qbr;split<;>omega
theorem qic(i:Int)(w:World)(I:Deb w):Calls Tryz.prog 217 #[.int .i64 i] w (qa2 (.int .i64 (qbr i)) w):=by
 have z:=qjn i w;go_enter Tryz.func217,Tryz.ntmps217;go_wp2_with fail;refine z.mono ?_;rintro e w1 ⟨rfl,q⟩;cases r:qc1 i with
 | false =>
  have e:qbr i=0:=by unfold qbr;rw[if_neg (by rw[r];decide)]
  have f:=qb e;clear e;go_wp2_with fail;go_ret;exact⟨by rw[qa f];rfl,q⟩
 | true =>
  obtain⟨v,K⟩:=ql0 r;obtain⟨n,rfl⟩:=Int.eq_ofNat_of_zero_le v;have M:IntKind.u64.wrap (n:Int)=(n:Int):=by rw[IntKind.wrap_u64];omega
  have C:=zci n (by omega) w1 (I.new (q.upd _));have e:qbr (n:Int)=min (Lib.ctz 64 n) 16:=by unfold qbr;rw[if_pos r];rfl
  have f:=qb e;clear e z;have J:=qb r;clear r v;go_wp2_with fail;refine C.mono ?_;rintro e N ⟨rfl,E⟩;have F:=q.trans E;generalize Lib.ctz 64 n=k at *
  clear C q E;by_cases L:k≤16
  ·have m:min k 16=k:=by omega
   have H:min (k:Int) 16=(k:Int):=by omega
   rw[m] at f;clear m;go_wp2_with fail;go_ret;exact⟨by rw[qa f];rfl,F⟩
  ·have m:min k 16=16:=by omega
   have H:(16:Int)<(k:Int):=by omega
   rw[m] at f;clear m;go_wp2_with fail;go_ret;exact⟨by rw[qa f];rfl,F⟩
def qkp(f t:Int):Bool:=qc1 f&&(qc1 t&&(f.toNat / 2 ^ qbr f==t.toNat / 2 ^ qbr f))
theorem qy3(f t:Int)(w:World)(N:Deb w):Calls Tryz.prog 216 #[.int .i64 f,.int .i64 t] w (qa2 (.bool (qkp f t)) w):=by
 have K:=qic f w N;have T:=qjs f;have i:=fun W=>qjn f W
 have r:=fun W=>qjn t W
 have v:qkp f t=(qc1 f&&(qc1 t&&(f.toNat / 2 ^ qbr f==t.toNat / 2 ^ qbr f))):=rfl;have z:=qb v;clear v;generalize qbr f=p at *
 go_enter Tryz.func216,Tryz.ntmps216;go_wp2_with fail;refine K.mono ?_;rintro e w1 ⟨rfl,q⟩;clear K;have O:(p:Int)≤16:=by omega
 cases C:qc1 f with
 | false =>
  rw[C,Bool.false_and] at z;replace i:=i;rw[C] at i;go_wp2_with (with_reducible first|(first|refine' tw1 (qh ?_) ?_|refine' tw2 (qh ?_) ?_);rotate_left|refine' tw3 (qh ?_)|rfl|apply tn|refine' tw4 ?_);refine(i _).mono ?_;rintro e L ⟨rfl,F⟩;go_wp2_with (with_reducible first|(first|refine' tw1 (qh ?_) ?_|refine' tw2 (qh ?_) ?_);rotate_left|refine' tw3 (qh ?_)|rfl|apply tn|refine' tw4 ?_);go_ret;exact⟨by rw[qa z];rfl,q.trans F.ofDrew⟩
 | true =>
  rw[C,Bool.true_and] at z;rw[C] at i;cases E:qc1 t with
  | false =>
   rw[E,Bool.false_and] at z;rw[E] at r;go_wp2_with (with_reducible first|(first|refine' tw1 (qh ?_) ?_|refine' tw2 (qh ?_) ?_);rotate_left|refine' tw3 (qh ?_)|rfl|apply tn|refine' tw4 ?_);refine(i _).mono ?_;rintro e L ⟨rfl,F⟩;go_wp2_with (with_reducible first|(first|refine' tw1 (qh ?_) ?_|refine' tw2 (qh ?_) ?_);rotate_left|refine' tw3 (qh ?_)|rfl|apply tn|refine' tw4 ?_);refine(r _).mono ?_;rintro e P ⟨rfl,I⟩;go_wp2_with (with_reducible first|(first|refine' tw1 (qh ?_) ?_|refine' tw2 (qh ?_) ?_);rotate_left|refine' tw3 (qh ?_)|rfl|apply tn|refine' tw4 ?_);go_ret;exact⟨by rw[qa z];rfl,(q.trans F.ofDrew).trans I⟩
  | true =>
   rw[E,Bool.true_and] at z;rw[E] at r;obtain⟨J,f1⟩:=ql0 C;obtain⟨t0,U⟩:=ql0 E;obtain⟨n,rfl⟩:=Int.eq_ofNat_of_zero_le J;obtain⟨m,rfl⟩:=Int.eq_ofNat_of_zero_le t0;have R:=qb C;have S:=qb E;clear C E J t0;go_wp2_with (with_reducible first|(first|refine' tw1 (qh ?_) ?_|refine' tw2 (qh ?_) ?_);rotate_left|refine' tw3 (qh ?_)|rfl|apply tn|refine' tw4 ?_);refine(i _).mono ?_;rintro e L ⟨rfl,F⟩;go_wp2_with (with_reducible first|(first|refine' tw1 (qh ?_) ?_|refine' tw2 (qh ?_) ?_);rotate_left|refine' tw3 (qh ?_)|rfl|apply tn|refine' tw4 ?_);refine(r _).mono ?_;rintro e P ⟨rfl,I⟩;go_wp2_with (with_reducible first|(first|refine' tw1 (qh ?_) ?_|refine' tw2 (qh ?_) ?_);rotate_left|refine' tw3 (qh ?_)|rfl|apply tn|refine' tw4 ?_);go_ret;refine⟨?_,(q.trans F.ofDrew).trans I⟩;have H:((n:Int) / 2 ^ p==(m:Int) / 2 ^ p)=((n:Int).toNat / 2 ^ p==(m:Int).toNat / 2 ^ p):=by
    have en:(n:Int) / 2 ^ p=((n / 2 ^ p:Nat):Int):=by rw[Int.natCast_ediv];rfl
    have M:(m:Int) / 2 ^ p=((m / 2 ^ p:Nat):Int):=by rw[Int.natCast_ediv];rfl
    rw[en,M,Int.toNat_natCast,Int.toNat_natCast];by_cases e:n / 2 ^ p=m / 2 ^ p
    ·rw[e];simp
    ·rw[beq_false_of_ne e,beq_false_of_ne (by omega)]
   rw[qa z,←H];rfl
attribute [local go_sem ↓ high] zl qag qaj qar
attribute [local go_sem] qbl qcl qcn qdm qx
def qc4(h:List Int)(i:Int):List Int × Int:=if qc1 i=true then (qc8 h i.toNat 16,0) else (zg,1)
theorem q6f(h:List Int)(T:h.length=32)(i:Int)(w:World)(S:Tabs w) :
  Calls Tryz.prog 224 #[.agg (qu h).toArray,.int .i64 i] w (qa7 (.tuple #[.agg (qu (qc4 h i).1).toArray,.int .i64 (qc4 h i).2]) w):=by
 have m:=fun W=>qjn i W
 go_enter Tryz.func224,Tryz.ntmps224
 go_upto_region 1 with fail
 have I:=(qb7 w h T).new ((Upd.refl _ _).alloc (.cells (qu zg).toArray 35))
 have E:=qb7 (w.alloc (.cells (qu h).toArray 35)) zg qm
 rw[World.size_alloc] at E
 have L:qq w ((w.alloc (.cells (qu h).toArray 35)).alloc (.cells (qu zg).toArray 35)):=((Upd.refl _ _).alloc _).alloc _
 generalize (w.alloc (.cells (qu h).toArray 35)).alloc (.cells (qu zg).toArray 35)=w1 at I E L ⊢
 obtain⟨A,C⟩:∃A,A=w.heap.size:=⟨_,rfl⟩
 obtain⟨B,F⟩:∃B,B=w.heap.size+1:=⟨_,rfl⟩
 rw[←F] at E ⊢
 rw[←C] at I ⊢
 have a7:w.heap.size≤B:=by omega
 have a6:B≠A:=by omega
 clear C F
 have HA:=qb I
 have HB:=qb E
 clear I E
 go_wp2_with fail
 refine(m _).mono ?_
 rintro e w2 ⟨rfl,q⟩
 have f:=(qa HB).new (q.upd _)
 have r:=(qa HA).new (q.upd _)
 have H:=L.trans (q.upd _)
 have z:=S.new H
 cases J:qc1 i with
 | false =>
  have e:qc4 h i=(zg,1):=by unfold qc4;rw[if_neg (by rw[J];decide)]
  have N:=qb e;have V:=f.stOk zg qm;have O:=qb (f.put zg qm);have P:=qb (H.then (zc (w:=w2) (b:=B) (qu zg)) (fun i hi e=>by omega));clear f r H L z S e;go_wp2_with fail;refine bodyPost_ret (qy rfl _ _ B _ _ _ _ rfl (qa O).at_ Tryz.underlying35 rfl (by rw[List.size_toArray,qal,qm];exact Tryz.infoHsh)) rfl ?_;rw[qa N];exact⟨rfl,qa P⟩
 | true =>
  obtain⟨Y,h1⟩:=ql0 J;obtain⟨n,rfl⟩:=Int.eq_ofNat_of_zero_le Y;have e:qc4 h (n:Int)=(qc8 h n 16,0):=by unfold qc4;rw[if_pos J];rfl
  have N:=qb e;have U:=qhz h T n 16;have Z:=qp8 h T n 16 (by omega) (by omega) w2 z;have hr:=r.row;have M:=qb f;have R:=qb H;clear e m Y r f H L S J z;go_wp2_with fail;refine Z.mono ?_;rintro e w3 ⟨rfl,X⟩;have v:=(qa M).new X;have n4:=(qa R).trans X;have V:=v.stOk _ U;have O:=qb (v.put _ U);have P:=qb (n4.then (zc (w:=w3) (b:=B) (qu (qc8 h n 16))) (fun i hi e=>by omega));clear v n4 X Z hr;generalize qc8 h n 16=K at *
  go_wp2_with fail;refine bodyPost_ret (qy rfl _ _ B _ _ _ _ rfl (qa O).at_ Tryz.underlying35 rfl (by rw[List.size_toArray,qal,U];exact Tryz.infoHsh)) rfl ?_;rw[qa N];exact⟨rfl,qa P⟩
def qcj(h:List Int)(f t:Int):List Int × Int:=if qkp f t=true then (qc8 h t.toNat (qbr f),0) else (zg,1)
theorem qtt(h:List Int)(i:h.length=32)(f t:Int):(qcj h f t).1.length=32:=by
 unfold qcj;split
 ·exact qhz h i _ _
 ·exact qm
theorem q8s{f t:Int}(h:qkp f t=true):qc1 t=true:=by
 unfold qkp at h;simp only[Bool.and_eq_true] at h;exact h.2.1
theorem qwk(h:List Int)(hh:h.length=32)(f t:Int)(w:World)(hT:Tabs w)(R:Deb w) :
  Calls Tryz.prog 220 #[.agg (qu h).toArray,.int .i64 f,.int .i64 t] w (qa7 (.tuple #[.agg (qu (qcj h f t).1).toArray,.int .i64 (qcj h f t).2]) w):=by
 go_enter Tryz.func220,Tryz.ntmps220
 go_upto_region 1 with fail
 have P:=(qb7 w h hh).new ((Upd.refl _ _).alloc (.cells (qu zg).toArray 35))
 have I:=qb7 (w.alloc (.cells (qu h).toArray 35)) zg qm
 rw[World.size_alloc] at I
 have N:qq w ((w.alloc (.cells (qu h).toArray 35)).alloc (.cells (qu zg).toArray 35)):=((Upd.refl _ _).alloc _).alloc _
 generalize (w.alloc (.cells (qu h).toArray 35)).alloc (.cells (qu zg).toArray 35)=w1 at P I N ⊢
 obtain⟨A,H⟩:∃A,A=w.heap.size:=⟨_,rfl⟩
 obtain⟨B,J⟩:∃B,B=w.heap.size+1:=⟨_,rfl⟩
 rw[←J] at I ⊢
 rw[←H] at P ⊢
 have b5:w.heap.size≤B:=by omega
 have b4:B≠A:=by omega
 clear H J
 have HA:=qb P
 have HB:=qb I
 have v:=qy3 f t w1 (R.new N)
 clear P I
 go_wp2_with fail
 refine v.mono ?_
 rintro e w2 ⟨rfl,q⟩
 have m:=(qa HB).new (q.upd _)
 have r:=(qa HA).new (q.upd _)
 have F:=N.trans (q.upd _)
 have E:=hT.new F
 have C:=R.new F
 clear v
 cases S:qkp f t with
 | false =>
  have e:qcj h f t=(zg,1):=by unfold qcj;rw[if_neg (by rw[S];decide)]
  have X:=qb e;have b3:=m.stOk zg qm;have Y:=qb (m.put zg qm);have Z:=qb (F.then (zc (w:=w2) (b:=B) (qu zg)) (fun i hi e=>by omega));clear m r F N E hT e R C;go_wp2_with fail;refine bodyPost_ret (qy rfl _ _ B _ _ _ _ rfl (qa Y).at_ Tryz.underlying35 rfl (by rw[List.size_toArray,qal,qm];exact Tryz.infoHsh)) rfl ?_;rw[qa X];exact⟨rfl,qa Z⟩
 | true =>
  obtain⟨h0,h1⟩:=ql0 (q8s S);obtain⟨n,rfl⟩:=Int.eq_ofNat_of_zero_le h0;have e:qcj h f (n:Int)=(qc8 h n (qbr f),0):=by unfold qcj;rw[if_pos S];rfl
  have X:=qb e;have hl:=qhz h hh n (qbr f);have a8:=qjs f;have L:=fun W (hW:Tabs W)=>qp8 h hh n (qbr f) (by omega) a8 W hW
  have hp:=fun W (hW:Deb W)=>qic f W hW
  have hr:zf w2.drew A 0 32=some (qu h).toArray:=r.row;have U:=qb m;have T:=qb r;have a6:=qb F;have a7:=qb E;have V:=qb C;have HC:=qb L;have HP:=qb hp;clear e h0 r m F N hT S E R C L hp;generalize qc8 h n (qbr f)=K at *
  generalize qbr f=p at *
  go_upto_region 3 with fail;refine qa1 (fun w'=>zf w' A 0 32=some (qu h).toArray) [0] (.of [0,1,2,3,4,5,6]) (by kernel_rfl) (by kernel_rfl) hr ?_;simp only[Plan.of];go_wp2_with (with_reducible first|(first|refine' zv (qh ?_) ?_|refine' zx (qh ?_) ?_|refine' zy (qh ?_) ?_);rotate_left|refine' zz (qh ?_)|refine' qw5 (qh ?_)|rfl|apply qn);refine(qa HP _ ((qa V).new ((Upd.refl _ _).drew))).mono ?_;rintro e w3 ⟨rfl,q3⟩;have O:qq w2 w3:=(q3.ofDrew).upd _;have M:=((qa T).new O).row;have L:=qa HC w3 ((qa a7).new O);clear hr HP;go_wp2_with (with_reducible first|(first|refine' zv (qh ?_) ?_|refine' zx (qh ?_) ?_|refine' zy (qh ?_) ?_);rotate_left|refine' zz (qh ?_)|refine' qw5 (qh ?_)|rfl|apply qn);refine⟨M,?_⟩;go_wp2_with (with_reducible first|(first|refine' zv (qh ?_) ?_|refine' zx (qh ?_) ?_|refine' zy (qh ?_) ?_);rotate_left|refine' zz (qh ?_)|refine' qw5 (qh ?_)|rfl|apply qn);refine L.mono ?_;rintro e w4 ⟨rfl,n4⟩;have z:=((qa U).new O).new n4;have n5:=((qa a6).trans O).trans n4;have b3:=z.stOk _ hl;have Y:=qb (z.put _ hl);have Z:=qb (n5.then (zc (w:=w4) (b:=B) (qu K)) (fun i hi e=>by omega));clear z n5 O L n4 M;go_wp2_with (with_reducible first|(first|refine' zv (qh ?_) ?_|refine' zx (qh ?_) ?_|refine' zy (qh ?_) ?_);rotate_left|refine' zz (qh ?_)|refine' qw5 (qh ?_)|rfl|apply qn);refine bodyPost_ret (qy rfl _ _ B _ _ _ _ rfl (qa Y).at_ Tryz.underlying35 rfl (by rw[List.size_toArray,qal,hl];exact Tryz.infoHsh)) rfl ?_;rw[qa X];exact⟨rfl,qa Z⟩
end
section
open Go.RowKit
attribute [local go_sem ↓ high] zl qag qaj qar qz zb ze zi
attribute [local go_sem] qbl qcl qcn qdm qx qax qay qa4
def Ch.secret(c:Ch)(n:Int):List Int × Int:=if n<0∨c.k.heard≤n then (zg,1) else qc4 c.s.seed (65535-n)
theorem qly(h:List Int)(f:h.length=32)(i:Int):(qc4 h i).1.length=32:=by
 unfold qc4;split
 ·exact qhz h f _ _
 ·exact qm
theorem Ch.secret_len{c:Ch}(h:c.Ok)(n:Int):(c.secret n).1.length=32:=by
 unfold Ch.secret;split
 ·exact qm
 ·exact qly _ h.s.seed _
theorem qyc(g:Nat)(S:Nat→Prop)(c:Ch)(n:Int)(w:World)(h:ChS w g S c)(V:Tabs w)(hn : -9223372036854775808≤n∧n≤9223372036854775807) :
  Calls Tryz.prog 215 #[.pointer (some ⟨g,0,none⟩),.int .i64 n] w (qa7 (.tuple #[.agg (qu (c.secret n).1).toArray,.int .i64 (c.secret n).2]) w):=by
 obtain⟨lv,nv,Z,h⟩:=h
 go_enter Tryz.func215,Tryz.ntmps215
 go_upto_region 1 with fail
 have f:=qb7 w zg qm
 have r:qq w (w.alloc (.cells (qu zg).toArray 35)):=(Upd.refl _ _).alloc _
 generalize w.alloc (.cells (qu zg).toArray 35)=w1 at f r ⊢
 obtain⟨B,v⟩:∃B,B=w.heap.size:=⟨_,rfl⟩
 rw[←v] at f ⊢
 have U:w.heap.size≤B:=by omega
 clear v
 have H:=h.new r
 have P:w1.cell? ⟨g,38,none⟩=some (.int .i64 c.k.heard):=H.toR.heard
 have q:=H.seed
 by_cases e:n<0∨c.k.heard≤n
 ·have z:c.secret n=(zg,1):=by unfold Ch.secret;rw[if_pos e]
  have J:=f.stOk zg qm;have E:=qb (f.put zg qm);have F:=qb (r.then (zc (w:=w1) (b:=B) (qu zg)) (fun i W e=>by omega));have C:=qb z;clear h H f r z;by_cases R:n<0
  ·go_wp2_with fail;refine bodyPost_ret (qy rfl _ _ B _ _ _ _ rfl (qa E).at_ Tryz.underlying35 rfl (by rw[List.size_toArray,qal,qm];exact Tryz.infoHsh)) rfl ?_;rw[qa C];exact⟨rfl,qa F⟩
  ·have T:c.k.heard≤n:=by omega
   clear e;go_wp2_with fail;refine bodyPost_ret (qy rfl _ _ B _ _ _ _ rfl (qa E).at_ Tryz.underlying35 rfl (by rw[List.size_toArray,qal,qm];exact Tryz.infoHsh)) rfl ?_;rw[qa C];exact⟨rfl,qa F⟩
 ·have z:c.secret n=qc4 c.s.seed (65535-n):=by unfold Ch.secret;rw[if_neg e]
  have R:¬n<0:=by omega
  have T:¬c.k.heard≤n:=by omega
  have X:IntKind.i64.wrap (65535-n)=65535-n:=qjj (by omega) (by omega);have M:=q6f c.s.seed h.ok.s.seed (65535-n) w1 (V.new r);have I:=qly c.s.seed h.ok.s.seed (65535-n);have C:=qb z;have N:=qb f;have O:=qb r;clear h H f r z e;generalize qc4 c.s.seed (65535-n)=K at *
  go_wp2_with fail;refine M.mono ?_;rintro e Y ⟨rfl,L⟩;have m:=(qa N).new L;have J:=m.stOk _ I;have E:=qb (m.put _ I);have F:=qb (((qa O).trans L).then (zc (w:=Y) (b:=B) (qu K.1)) (fun i W e=>by omega));clear m L M q;go_wp2_with fail;refine bodyPost_ret (qy rfl _ _ B _ _ _ _ rfl (qa E).at_ Tryz.underlying35 rfl (by rw[List.size_toArray,qal,I];exact Tryz.infoHsh)) rfl ?_;rw[qa C];exact⟨rfl,qa F⟩
def Ch.revocation(c:Ch):MsgV:=⟨7,c.s.ch,0,0,(c.secret (c.k.heard-1)).1,0,c.k.heard-1⟩
theorem qja(g:Nat)(S:Nat→Prop)(c:Ch)(w:World)(h:ChS w g S c)(hT:Tabs w) :
  Calls Tryz.prog 205 #[.pointer (some ⟨g,0,none⟩)] w (qa7 (.agg c.revocation.cells.toArray) w):=by
 obtain⟨lv,nv,av,h⟩:=h
 have a8:=h.ok.heard
 go_enter Tryz.func205,Tryz.ntmps205
 go_upto_region 1 with fail
 have I:=zt w MsgV.zero qm
 have F:qq w (w.alloc (.cells MsgV.zero.cells.toArray 101)):=(Upd.refl _ _).alloc _
 generalize w.alloc (.cells MsgV.zero.cells.toArray 101)=w1 at I F ⊢
 obtain⟨B,v⟩:∃B,B=w.heap.size:=⟨_,rfl⟩
 rw[←v] at I ⊢
 have a7:w.heap.size≤B:=by omega
 clear v
 have H:=h.new F
 have r:w1.cell? ⟨g,38,none⟩=some (.int .i64 c.k.heard):=H.toR.heard
 have b4:IntKind.i64.wrap (c.k.heard-1)=c.k.heard-1:=qjj (by omega) (by omega)
 have Z:=qyc g S c (c.k.heard-1) w1 ⟨lv,nv,av,H⟩ (hT.new F) (by omega)
 have J:=Ch.secret_len h.ok (c.k.heard-1)
 have C:c.revocation=⟨7,c.s.ch,0,0,(c.secret (c.k.heard-1)).1,0,c.k.heard-1⟩:=rfl
 have HR:=qb C
 have HB:=qb I
 have N1:=qb F
 have H1:=qb H
 clear h H I F C
 generalize c.secret (c.k.heard-1)=K at *
 go_wp2_with fail
 refine Z.mono ?_
 rintro e N ⟨rfl,L⟩
 obtain⟨E,z,M⟩:=qg6 N K.1 J
 have Y:=((qa H1).new L).new M
 have O:=qb z
 have f:=qb (((qa HB).new L).new M)
 have q:=qb (((qa N1).trans L).trans M)
 have U:=qb Y
 clear Z L z M Y r
 go_upto_region 2 with fail
 change Code.wp _ _ _ _ (qij N K.1)
 generalize qij N K.1=m at O f q U ⊢
 generalize N.heap.size=A at O ⊢
 have P:=qa U
 have b3:=(qa O).row
 have a6:m.cell? ⟨g,0,none⟩=some (.int .u32 c.s.ch):=P.toR.ch
 have r:m.cell? ⟨g,38,none⟩=some (.int .i64 c.k.heard):=P.toR.heard
 have R:=fun W=>qwb 7 c.s.ch (c.k.heard-1) K.1 J W
 have E:stOk m.drew B 0 38 (MsgV.cells ⟨7,c.s.ch,0,0,K.1,0,c.k.heard-1⟩).toArray=true:=(qa f).stOk (k:=⟨7,c.s.ch,0,0,K.1,0,c.k.heard-1⟩) J
 have T:qq m m.drew:=(Upd.refl _ _).drew
 have V:=qb (((qa f).new T).put (k:=⟨7,c.s.ch,0,0,K.1,0,c.k.heard-1⟩) J)
 have X:=qb (((qa q).trans T).then (zc (w:=m.drew) (b:=B) (MsgV.cells ⟨7,c.s.ch,0,0,K.1,0,c.k.heard-1⟩)) (fun i hi e=>by omega))
 clear P T
 rw[←qa HR] at E V X R
 go_wp2_with (with_reducible first|(first|refine' tw1 (qh ?_) ?_|refine' tw2 (qh ?_) ?_);rotate_left|refine' tw3 (qh ?_)|rfl|apply tn|refine' tw4 ?_)
 have z:=qa V
 exact bodyPost_ret (results_cell_row rfl _ _ B _ _ _ _ rfl z.at_ Tryz.underlying101 rfl (by rw[z.agg];exact Tryz.infoMsg)) rfl ⟨rfl,qa X⟩
end
section
open Go.RowKit Go.ChangeShapes Go.WideShapes Go.ChangeAt Go.Deep
inductive Leaf where
 | bool
 | int (k:IntKind)
 | str
 deriving DecidableEq
def Leaf.fits:Leaf→Value→Prop
 | .bool,v=>∃b,v = .bool b
 | .int k,v=>∃n,v = .int k n∧(Lit.int k n).wf=true
 | .str,v=>∃s:ByteArray,v = .string s∧s.size≤maxLen
def qd8:List Leaf→List Value→Prop
 | [],cs=>cs=[]
 | l::ls,cs=>∃v r,cs=v::r∧l.fits v∧qd8 ls r
theorem qd8.len:∀ {ls:List Leaf} {cs:List Value},qd8 ls cs→cs.length=ls.length
 | [],_,h=>by rw[show _=[] from h];rfl
 | l::ls,_,h=>by obtain⟨v,r,rfl,_,f⟩:=h;simp[f.len]
theorem qd8.app:∀ {ls i:List Leaf} {cs f:List Value},qd8 ls cs→qd8 i f→qd8 (ls++i) (cs++f)
 | [],_,_,_,h,k=>by rw[show _=[] from h];exact k
 | l::ls,_,_,_,h,k=>by obtain⟨v,r,rfl,q,m⟩:=h;exact⟨v,_,rfl,q,m.app k⟩
theorem qd8.split:∀ {ls f:List Leaf} {cs:List Value},qd8 (ls++f) cs→∃a b,cs=a++b∧qd8 ls a∧qd8 f b
 | [],_,cs,h=>⟨[],cs,rfl,rfl,h⟩
 | l::ls,_,_,h=>by
  obtain⟨v,r,rfl,z,q⟩:=h;obtain⟨a,b,rfl,i,m⟩:=qd8.split q;exact⟨v::a,b,rfl,⟨v,a,rfl,z,i⟩,m⟩
def qcq(P:Program)(rec:TypeId→Option (List Leaf)):Nat→List Field→Option (List Leaf)
 | _,[]=>some []
 | o,f::r=>match rec f.type with
  | none=>none
  | some l=>if f.offset=o∧P.cellsOf f.type=l.length then (qcq P rec (o+l.length) r).map (l ++ ·) else none
def qdf(P:Program):Nat→TypeId→Option (List Leaf)
 | 0,_=>none
 | n+1,t=>match P.underlying t with
  | some .bool=>some [.bool]
  | some (.int k)=>some [.int k]
  | some .string=>some [.str]
  | some (.struct f)=>match qcq P (qdf P n) 0 f.toList with
   | some l=>if P.cellsOf t=l.length then some l else none
   | none=>none
  | some (.array m e)=>match qdf P n e with
   | some l=>if P.cellsOf e=l.length∧P.cellsOf t=m*l.length then some (List.replicate m l).flatten else none
   | none=>none
  | _=>none
section
variable {H:Type}{enc:TypeId × Value→H}{P:Program}{w:World}{base:Nat}{spare:Nat→Bool}{held:Bool}
theorem qr6(k:Nat):∀(m:Nat) (cs:List Value),cs.length=m*k→cs=((List.range m).map fun i=>(cs.drop (i*k)).take k).flatten
 | 0,cs,h=>by
  have:cs=[]:=List.length_eq_zero_iff.1 (by omega);subst this;rfl
 | m+1,cs,h=>by
  have f:=qr6 k m (cs.drop k) (by rw[List.length_drop,h,Nat.succ_mul];omega);rw[List.range_succ_eq_map,List.map_cons,List.flatten_cons,Nat.zero_mul,List.drop_zero,List.map_map];have e:((List.range m).map ((fun i=>(cs.drop (i*k)).take k) ∘ Nat.succ))=((List.range m).map fun i=>((cs.drop k).drop (i*k)).take k):=by
   apply List.map_congr_left;intro i _;show (cs.drop ((i+1)*k)).take k=_;rw[List.drop_drop,Nat.succ_mul,Nat.add_comm]
  rw[e,←f,List.take_append_drop]
end
def qgu(P:Program)(t:TypeId):Bool:=match P.underlying t with | some (.struct _)=>true | some (.array _ _)=>true | _=>false
def mkV(P:Program)(t:TypeId)(cs:List Value):Value:=if qgu P t then .agg cs.toArray else cs.headD undef
def eqB(P:Program):Nat→TypeId→Bool
 | 0,_=>false
 | n+1,t=>(P.info? t).isSome&&match P.underlying t with
  | some .bool=>true
  | some (.int _)=>true
  | some .string=>true
  | some (.struct i)=> !P.stoodInHeld t&&i.toList.all fun f=>f.name != "_"&&eqB P n f.type
  | some (.array _ e)=>eqB P n e
  | _=>false
section
variable {P:Program}
theorem qtv{n:Nat}{t:TypeId}(h:eqB P n t=true):∃i,P.info? t=some i:=by
 cases n with
 | zero=>cases h
 | succ n =>
  unfold eqB at h;simp only[Bool.and_eq_true] at h;exact Option.isSome_iff_exists.1 h.1
theorem qo8{t:TypeId}{i:TypeInfo}(h:P.info? t=some i)(w:World):(sizeOf t).run P w = .ok (P.cellsOf t) w:=by
 simp[sizeOf,typeInfo,h,Program.cellsOf]
theorem q0t{n:Nat}{t:TypeId}{l:List Leaf}(h:qdf P n t=some l)(f:qgu P t=false):∃k,l=[k]:=by
 cases n with
 | zero=>simp[qdf] at h
 | succ n =>
  unfold qdf at h;unfold qgu at f;split at h
  ·exact⟨_,(Option.some.inj h).symm⟩
  ·exact⟨_,(Option.some.inj h).symm⟩
  ·exact⟨_,(Option.some.inj h).symm⟩
  ·rename_i i;rw[i] at f;cases f
  ·rename_i i;rw[i] at f;cases f
  ·cases h
theorem q5f{n:Nat}{t:TypeId}{l:List Leaf}(h:qdf P n t=some l):∃d,P.underlying t=some d:=by
 cases n with
 | zero=>simp[qdf] at h
 | succ n =>
  unfold qdf at h;cases f:P.underlying t with
  | none=>rw[f] at h;cases h
  | some d=>exact⟨d,rfl⟩
theorem qlg{n:Nat}{t:TypeId}{l:List Leaf}(h:qdf P n t=some l)(r:P.cellsOf t=l.length){i:TypeInfo}(v:P.info? t=some i)(xs:List Value)(o:Nat)(z:o+l.length≤xs.length)(w:World) :
  (part t xs.toArray o).run P w = .ok (mkV P t ((xs.drop o).take l.length)) w:=by
 obtain⟨d,hd⟩:=q5f h
 unfold part mkV
 cases f:qgu P t with
 | true =>
  have m:(isAgg t).run P w = .ok true w:=by
   unfold qgu at f;unfold isAgg;simp only[Sem.run_bind,run_underlying hd,Result.andThen_ok];rw[hd] at f;cases d<;>simp at f ⊢
  simp only[Sem.run_bind,m,Result.andThen_ok,if_true,qo8 v,Sem.run_pure];congr 2;apply Array.ext';rw[r];simp[List.extract_eq_take_drop,List.take_drop]
 | false =>
  have m:(isAgg t).run P w = .ok false w:=by
   unfold qgu at f;unfold isAgg;simp only[Sem.run_bind,run_underlying hd,Result.andThen_ok];rw[hd] at f;cases d<;>simp at f ⊢
  obtain⟨k,rfl⟩:=q0t h f;have q:o<xs.length:=by simp at z;omega
  have C:xs.toArray[o]? = some xs[o]:=by simp[q]
  simp only[Sem.run_bind,m,Result.andThen_ok,Bool.false_eq_true,if_false,C,Sem.run_pure];congr 1;rw[List.drop_eq_getElem_cons q];rfl
theorem zbj{a b c d:List Value}(h:a.length=b.length):a++c=b++d↔a=b∧c=d :=
 ⟨fun e=>List.append_inj e h,fun⟨e,f⟩=>by rw[e,f]⟩
theorem qj0{rec:TypeId→Option (List Leaf)}{d:Nat}{xs q:List Value}
  (m:∀t l,rec t=some l→P.cellsOf t=l.length→∀o,o+l.length≤xs.length→(part t xs.toArray o).run P=(fun w=> .ok (mkV P t ((xs.drop o).take l.length)) w)∧(part t q.toArray o).run P=(fun w=> .ok (mkV P t ((q.drop o).take l.length)) w))
  (v:∀t l,rec t=some l→∀a b,qd8 l a→qd8 l b→∀r:Bool,(r=true↔a=b)→∀w,(Op.equalIn d t (mkV P t a) (mkV P t b)).run P w = .ok r w) :
  ∀(z:List Field) (o:Nat) (L:List Leaf),qcq P rec o z=some L→(∀f∈z,f.name≠"_")→xs.length=o+L.length→q.length=o+L.length→qd8 L (xs.drop o)→qd8 L (q.drop o) →
   ∀r:Bool,(r=true↔xs.drop o=q.drop o)→∀w,(Op.eqFields d xs.toArray q.toArray z).run P w = .ok r w
 | [],o,L,h,_,O,R,_,_,r,E,w=>by
  simp only[qcq,Option.some.injEq] at h;subst h;have:r=true:=E.2 (by rw[List.drop_eq_nil_of_le (by simp at O;omega),List.drop_eq_nil_of_le (by simp at R;omega)]);subst this;rfl
 | f::z,o,L,h,U,O,R,X,Y,r,E,w=>by
  unfold qcq at h;cases C:rec f.type with
  | none=>rw[C] at h;cases h
  | some l =>
   rw[C] at h;simp only at h;split at h
   ·rename_i hc;obtain⟨ho,hk⟩:=hc;rw[Option.map_eq_some_iff] at h;obtain⟨M,Z,rfl⟩:=h;rw[List.length_append] at O R;obtain⟨a,V,F,I,J⟩:=X.split;obtain⟨b,W,H,K,N⟩:=Y.split;have la:=I.len;have lb:=K.len;have ta:(xs.drop o).take l.length=a:=by rw[F,←la];simp
    have tb:(q.drop o).take l.length=b:=by rw[H,←lb];simp
    have S:xs.drop (o+l.length)=V:=by rw[←List.drop_drop,F,←la];simp
    have T:q.drop (o+l.length)=W:=by rw[←List.drop_drop,H,←lb];simp
    obtain⟨p1,p2⟩:=m f.type l C hk o (by omega);unfold Op.eqFields;rw[if_pos (U f (List.mem_cons_self ..)),ho];simp only[Sem.run_bind,p1,p2,Result.andThen_ok,ta,tb];rw[F,H,zbj (by rw[la,lb])] at E;by_cases i:a=b
    ·rw[v f.type l C a b I K true (by simp[i]) w];simp only[Result.andThen_ok,Bool.not_true,Bool.false_eq_true,if_false];refine qj0 m v z (o+l.length) M Z (fun g hg=>U g (List.mem_cons_of_mem _ hg)) (by omega) (by omega) (by rw[S];exact J) (by rw[T];exact N) r ?_ w;rw[S,T,E];simp[i]
    ·rw[v f.type l C a b I K false (by simp[i]) w];have:r=false:=by
      cases r with
      | false=>rfl
      | true=>exact absurd (E.1 rfl).1 i
     subst this;simp
   ·cases h
theorem qf4:∀(n d:Nat) (t:TypeId) (l:List Leaf) (xs C:List Value),n≤d→eqB P n t=true→qdf P n t=some l→qd8 l xs→qd8 l C→∀r:Bool,(r=true↔xs=C)→∀w,(Op.equalIn d t (mkV P t xs) (mkV P t C)).run P w = .ok r w
 | 0,_,_,_,_,_,_,h,_,_,_,_,_,_=>by cases h
 | n+1,d,t,l,xs,C,hd,O,h,M,N,r,R,w=>by
  obtain⟨d,rfl⟩:∃d',d=d'+1:=⟨d-1,by omega⟩;have a8:=h;unfold qdf at h;split at h
  ·rename_i q;simp only[Option.some.injEq] at h;subst h;obtain⟨_,_,rfl,⟨a,rfl⟩,rfl⟩:=M;obtain⟨_,_,rfl,⟨b,rfl⟩,rfl⟩:=N;have v:qgu P t=false:=by unfold qgu;rw[q]
   unfold mkV;rw[v];simp only[Bool.false_eq_true,if_false,List.headD_cons];rw[run_equalIn_bool' w d t a b q];congr 1;rw[Bool.eq_iff_iff,R];simp
  ·rename_i k q;simp only[Option.some.injEq] at h;subst h;obtain⟨_,_,rfl,⟨a,rfl,_⟩,rfl⟩:=M;obtain⟨_,_,rfl,⟨b,rfl,_⟩,rfl⟩:=N;have v:qgu P t=false:=by unfold qgu;rw[q]
   unfold mkV;rw[v];simp only[Bool.false_eq_true,if_false,List.headD_cons];rw[run_equalIn_int w d t k k a b q];congr 1;rw[Bool.eq_iff_iff,R];simp
  ·rename_i q;simp only[Option.some.injEq] at h;subst h;obtain⟨_,_,rfl,⟨a,rfl,_⟩,rfl⟩:=M;obtain⟨_,_,rfl,⟨b,rfl,_⟩,rfl⟩:=N;have v:qgu P t=false:=by unfold qgu;rw[q]
   unfold mkV;rw[v];simp only[Bool.false_eq_true,if_false,List.headD_cons];rw[run_equalIn_string w d t a b q];congr 1;rw[Bool.eq_iff_iff,R,beq_iff_eq,ByteArray.toList_eq,ByteArray.toList_eq];constructor
   ·intro h;have:a=b:=by
     obtain⟨a⟩:=a;obtain⟨b⟩:=b;exact congrArg ByteArray.mk (Array.ext' h)
    rw[this]
   ·intro h;cases h;rfl
  ·rename_i fs q;split at h
   ·rename_i L W;split at h
    ·rename_i Y;simp only[Option.some.injEq] at h;subst h;unfold eqB at O;rw[q] at O;simp only[Bool.and_eq_true,Bool.not_eq_true'] at O;obtain⟨_,hp,b3⟩:=O;have v:qgu P t=true:=by unfold qgu;rw[q]
     unfold mkV;rw[v];simp only[if_true];have Z:P.fieldsOf t=fs:=by unfold Program.fieldsOf;rw[q]
     rw[run_equalIn_struct w d t _ _ (by rw[Z];exact q) hp,Z];have hx:=M.len;have hy:=N.len;have a6:∀f∈fs.toList,f.name≠"_"∧eqB P n f.type=true:=fun f T=>by
      have:=List.all_eq_true.1 b3 f T;simpa using this
     refine qj0 (rec:=fun t=>if eqB P n t then qdf P n t else none) (fun t' l' E h2 o ho=> ?_) (fun t' l' E a b fa fb r R w=> ?_) fs.toList 0 L ?_ (fun f T=>(a6 f T).1) (by omega) (by omega) M N r R w
     ·by_cases I:eqB P n t'=true
      ·rw[if_pos I] at E;obtain⟨i,z⟩:=qtv I;exact⟨funext fun w=>qlg E h2 z xs o ho w,funext fun w=>qlg E h2 z C o (by omega) w⟩
      ·rw[if_neg I] at E;cases E
     ·by_cases I:eqB P n t'=true
      ·rw[if_pos I] at E;exact qf4 n d t' l' a b (by omega) I E fa fb r R w
      ·rw[if_neg I] at E;cases E
     ·have key:∀(V:List Field) (o:Nat),(∀f∈V,eqB P n f.type=true)→qcq P (fun t=>if eqB P n t then qdf P n t else none) o V=qcq P (qdf P n) o V:=by
       intro V
       induction V with
       | nil=>intro o _;rfl
       | cons g V X =>
        intro o hg;unfold qcq;rw[if_pos (hg g (List.mem_cons_self ..))];cases qdf P n g.type with
        | none=>rfl
        | some l=>simp only[X _ fun f T=>hg f (List.mem_cons_of_mem _ T)]
      rw[key fs.toList 0 fun f T=>(a6 f T).2];exact W
    ·cases h
   ·cases h
  ·rename_i m e q;split at h
   ·rename_i L W;split at h
    ·rename_i Y;simp only[Option.some.injEq] at h;subst h;unfold eqB at O;rw[q] at O;simp only[Bool.and_eq_true] at O;obtain⟨_,S⟩:=O;obtain⟨ie,U⟩:=qtv S;have v:qgu P t=true:=by unfold qgu;rw[q]
     unfold mkV;rw[v];simp only[if_true];have a7:((List.replicate m L).flatten).length=m*L.length:=by simp
     have hx:=M.len;have hy:=N.len;rw[a7] at hx hy;have J:∀(m:Nat) (zs:List Value),qd8 (List.replicate m L).flatten zs→∀i,i<m→qd8 L ((zs.drop (i*L.length)).take L.length):=by
      intro m
      induction m with
      | zero=>intro zs _ i z;omega
      | succ m X =>
       intro zs hz i z;rw[List.replicate_succ,List.flatten_cons] at hz;obtain⟨a,b,rfl,v,I⟩:=hz.split;cases i with
       | zero=>rw[Nat.zero_mul,List.drop_zero,←v.len,List.take_left];exact v
       | succ i =>
        have:=X b I i (by omega);rw[Nat.succ_mul,Nat.add_comm,←List.drop_drop,←v.len,List.drop_left];rw[v.len];exact this
     have K:(r=true↔∀i∈List.range' 0 m 1,(xs.drop (i*L.length)).take L.length=(C.drop (i*L.length)).take L.length):=by
      rw[R];constructor
      ·rintro rfl i _;rfl
      ·intro H;rw[qr6 L.length m xs hx,qr6 L.length m C hy];congr 1;apply List.map_congr_left;intro i z;exact H i (by simpa using List.mem_range.1 z)
     unfold Op.equalIn;simp only[Sem.run_bind,run_underlying q,Result.andThen_ok,qo8 U,Std.Legacy.Range.forIn_eq_forIn_range',Std.Legacy.Range.size,Nat.sub_zero,Nat.add_sub_cancel,Nat.div_one];have hl:∀i∈List.range' 0 m 1,i<m:=fun i z=>by simpa using (List.mem_range'_1.1 z).2
     clear R;generalize List.range' 0 m 1=is at hl K ⊢
     induction is with
     | nil =>
      have:r=true:=K.2 (by simp);subst this;simp
     | cons i is X =>
      have z:i<m:=hl i (by simp);have b4:i*L.length+L.length≤m*L.length:=by have:=Nat.mul_le_mul_right L.length (show i+1≤m from z);rw[Nat.succ_mul] at this;exact this
      rw[Y.1];rw[Y.1] at X;have px:=qlg W Y.1 U xs (i*L.length) (by omega) w;have py:=qlg W Y.1 U C (i*L.length) (by omega) w;simp only[List.forIn_cons,Sem.run_bind,px,py,Result.andThen_ok];by_cases F:(xs.drop (i*L.length)).take L.length=(C.drop (i*L.length)).take L.length
      ·rw[qf4 n d e L _ _ (by omega) S W (J m xs M i z) (J m C N i z) true (by simp[F]) w];simp only[Result.andThen_ok,Bool.not_true,Bool.false_eq_true,if_false,Sem.run_pure];refine X (fun j hj=>hl j (by simp[hj])) ?_;rw[K];simp[F]
      ·rw[qf4 n d e L _ _ (by omega) S W (J m xs M i z) (J m C N i z) false (by simp[F]) w];have:r=false:=by
        cases r with
        | false=>rfl
        | true=>exact absurd (K.1 rfl i (by simp)) F
       subst this;simp
    ·cases h
   ·cases h
  ·cases h
theorem qle(n:Nat){t:TypeId}{l:List Leaf}(C:n≤10000)(v:eqB P n t=true)(z:qdf P n t=some l)(q:qgu P t=true){xs f:List Value}(i:qd8 l xs)(m:qd8 l f)(r:Bool)(E:r=true↔xs=f)(w:World) :
  (binOp .eql t (.agg xs.toArray) (.agg f.toArray)).run P w = .ok (.bool r) w:=by
 have:=qf4 n 10000 t l xs f C v z i m r E w
 unfold mkV at this
 rw[q] at this
 simp only[if_true] at this
 rw[run_eql_struct,this]
 rfl
theorem qlf(n:Nat){t:TypeId}{l:List Leaf}(C:n≤10000)(v:eqB P n t=true)(z:qdf P n t=some l)(q:qgu P t=true){xs f:List Value}(i:qd8 l xs)(m:qd8 l f)(r:Bool)(E:r=true↔xs=f)(w:World) :
  (binOp .neq t (.agg xs.toArray) (.agg f.toArray)).run P w = .ok (.bool (!r)) w:=by
 have:=qf4 n 10000 t l xs f C v z i m r E w
 unfold mkV at this
 rw[q] at this
 simp only[if_true] at this
 rw[run_neq_struct,this]
 rfl
end
end
section
open Go.RowKit
def qbm(h:List Int):Prop:=∀b∈h,0≤b∧b≤255
theorem Tryz.flatHsh:qdf Tryz.prog 5 35=some (List.replicate 32 (.int .u8)):=by kernel_rfl
theorem Tryz.eqHsh:eqB Tryz.prog 5 35=true:=by kernel_rfl
theorem Tryz.aggHsh:qgu Tryz.prog 35=true:=by kernel_rfl
theorem qzv{x:Int}(h:0≤x∧x≤255):(Lit.int .u8 x).wf=true:=by
 simp[Lit.wf,IntKind.min,IntKind.max,IntKind.signed,IntKind.bits];omega
theorem qka(k:IntKind):∀(l:List Int),(∀x∈l,(Lit.int k x).wf=true)→qd8 (List.replicate l.length (.int k)) (l.map (Value.int k))
 | [],_=>rfl
 | x::l,h=>⟨_,_,rfl,⟨_,rfl,h x (List.mem_cons_self ..)⟩,qka k l fun y f=>h y (List.mem_cons_of_mem _ f)⟩
theorem qi1{h:List Int}(i:h.length=32)(f:qbm h):qd8 (List.replicate 32 (.int .u8)) (qu h):=by
 have:=qka .u8 h fun n m=>qzv (f n m)
 rwa [i] at this
theorem qi0{a b:List Int}(h:qu a=qu b):a=b:=by
 unfold qu at h;exact(List.map_inj_right (fun x y e=>by injection e)).1 h
def zav(x y:Value):Sem Value:=binOp .neq 35 x y
theorem qi8(x y:Value):binOp .neq 35 x y=zav x y:=rfl
theorem q6o{a b:List Int}(m:a.length=32)(q:b.length=32)(f:qbm a)(i:qbm b)(w:World):(zav (.agg (qu a).toArray) (.agg (qu b).toArray)).run Tryz.prog w = .ok (.bool (a != b)) w:=by
 have:=qlf 5 (by decide) Tryz.eqHsh Tryz.flatHsh Tryz.aggHsh (qi1 m f) (qi1 q i) (a==b) (by constructor<;>intro e<;>simp_all [qi0];exact qi0 e) w;exact this
def eqHsh(x y:Value):Sem Value:=binOp .eql 35 x y
theorem qml(x y:Value):binOp .eql 35 x y=eqHsh x y:=rfl
theorem qwn{a b:List Int}(m:a.length=32)(q:b.length=32)(f:qbm a)(i:qbm b)(w:World):(eqHsh (.agg (qu a).toArray) (.agg (qu b).toArray)).run Tryz.prog w = .ok (.bool (a==b)) w:=by
 have:=qle 5 (by decide) Tryz.eqHsh Tryz.flatHsh Tryz.aggHsh (qi1 m f) (qi1 q i) (a==b) (by constructor<;>intro e<;>simp_all [qi0];exact qi0 e) w;exact this
theorem qtn(h:List Int)(n:Nat):qbm (qf2 h n):=by
 induction n with
 | zero=>intro x f;rw[qhy] at f;have:=List.eq_of_mem_replicate f;omega
 | succ n i =>
  intro x f;rw[qhx] at f;rcases List.mem_or_eq_of_mem_set f with h | rfl
  ·exact i x h
  ·unfold byI;omega
theorem qgc(s:ByteArray):qbm (qen s):=qtn _ _
theorem qc3:qbm zg:=by
 intro b f;have:=List.eq_of_mem_replicate f;omega
theorem KeptV.len(k:KeptV)(h:k.told.length=32):k.cells.length=34:=by simp[KeptV.cells,h]
theorem KeptV.one(k:KeptV):∀v∈k.cells,v.oneCell'=true:=by
 intro v f;simp only[KeptV.cells,List.mem_cons,List.mem_map] at f;rcases f with rfl | rfl | ⟨n,_,rfl⟩<;>rfl
theorem Tryz.infoKpt:(Tryz.prog.info? 120).map (·.size)=some 34:=by kernel_rfl
def zap(x:Value):Sem Value:=Instr.loadAt 120 x
theorem qmt(x:Value):Instr.loadAt 120 x=zap x:=rfl
theorem q6b(b o:Nat)(w:World):(zap (.pointer (some ⟨b,o,none⟩))).run Tryz.prog w=match zf w b o 34 with | some A=> .ok (.agg A) w | none=>qdn Tryz.prog 120 w b o :=
 qah 120 34 _ Tryz.underlying120 rfl Tryz.infoKpt b o w
def za0(x v:Value):Sem Unit:=Instr.storeAt 120 x v
theorem qm1(x v:Value):Instr.storeAt 120 x v=za0 x v:=rfl
theorem q7r(b o:Nat)(A:Array Value)(w:World):(za0 (.pointer (some ⟨b,o,none⟩)) (.agg A)).run Tryz.prog w=if stOk w b o 34 A=true then .ok () (w.setCells b o A.toList) else qel Tryz.prog 120 w b o A :=
 qaw 120 34 Tryz.infoKpt b o A w
theorem KeptV.zero_len:KeptV.zero.told.length=32:=List.length_replicate
def zad:Sem Value:=Instr.alloc 120 true (.tuple #[])
theorem qmb:Instr.alloc 120 true (.tuple #[])=zad:=rfl
theorem q3u(w:World):zad.run Tryz.prog w = .ok (.pointer (some ⟨w.heap.size,0,none⟩)) (w.alloc (.cells KeptV.zero.cells.toArray 120)):=by kernel_rfl
def q3z(p:Array (Nat × Value)):Sem Value:=Instr.build 120 p
theorem qmc(p:Array (Nat × Value)):Instr.build 120 p=q3z p:=rfl
theorem qmd(w:World):(q3z #[]).run Tryz.prog w = .ok (.agg KeptV.zero.cells.toArray) w:=run_build w _ _ _ (by kernel_rfl)
theorem Tryz.zeroKpt:((Tryz.prog.info? 120).map fun i=>i.zero.map fun z=>z.cells.toList)=some (some KeptV.zero.cells):=by kernel_rfl
theorem Tryz.placesKpt:∃m,Tryz.prog.underlying 120=some (.struct m)∧m.toList.mapM (fun f=>(Tryz.prog.info? f.type).map fun i=>(f.offset,i.size))=some [(0,1),(1,1),(2,32)]:=⟨_,Tryz.underlying120,by kernel_rfl⟩
theorem qz6(b:Bool)(n:Int)(H:List Value)(h:H.length=32):Tryz.prog.built 120 [(0,.bool b),(1,.int .i64 n),(2,.agg H.toArray)]=some (.bool b :: .int .i64 n::H).toArray:=by
 obtain⟨i,z,m,v,f⟩:=qc6 Tryz.zeroKpt;obtain⟨C,r,q⟩:=Tryz.placesKpt;rw[qbq m r v q];rw[qb4 (P:=[]) (z:= .bool false) (R:= .int .i64 0::(zg.map (Value.int .u8))) rfl rfl rfl f];rw[qb4 (P:=[.bool b]) (z:= .int .i64 0) (R:=zg.map (Value.int .u8)) rfl rfl rfl (by rfl)];rw[qc9 (P:=[.bool b,.int .i64 n]) (A:=H) (Z:=zg.map (Value.int .u8)) (R:=[]) (off:=2) (by rw[h];rfl) rfl (by rw[h];rfl) (by rfl)];rw[Instr.fill];simp
theorem zbd(b:Bool)(n:Int)(h:List Int)(f:h.length=32)(w:World):(q3z #[(0,.bool b),(1,.int .i64 n),(2,.agg (qu h).toArray)]).run Tryz.prog w = .ok (.agg (KeptV.cells ⟨b,n,h⟩).toArray) w :=
 run_build w _ _ _ (qz6 b n (qu h) (by rw[qal,f]))
structure KpS(w:World)(b:Nat)(k:KeptV):Prop where
 at_:w.heap[b]? = some (.cells k.cells.toArray 120 (0,0))
 len:k.told.length=32
section
variable {S:Nat→Prop}{w w':World}{b:Nat}{k:KeptV}
theorem KpS.upd(a:KpS w b k)(u:Upd S w w')(n:¬S b):KpS w' b k:=⟨u.old a.at_ n,a.len⟩
theorem KpS.new(a:KpS w b k)(u:qq w w'):KpS w' b k:=a.upd u (fun h=>h)
theorem KpS.row(a:KpS w b k):zf w b 0 34=some k.cells.toArray:=qas a.at_ 34 (by rw[List.size_toArray,k.len a.len])
theorem KpS.stOk(a:KpS w b k){j:KeptV}(f:j.told.length=32):stOk w b 0 34 j.cells.toArray=true:=by
 have:=qem a.at_ (A:=j.cells) (by rw[List.size_toArray,k.len a.len,j.len f]) j.one;rwa [List.size_toArray,k.len a.len] at this
theorem KpS.put(a:KpS w b k){j:KeptV}(f:j.told.length=32):KpS (w.setCells b 0 j.cells) b j:=by
 refine⟨?_,f⟩;rw[qba a.at_ 0 _,qcz _ _ (by rw[List.size_toArray,k.len a.len,j.len f])]
theorem KpS.c0(a:KpS w b k):w.cell? ⟨b,0,none⟩=some (.bool k.full):=qg a.at_ 0
theorem KpS.c1(a:KpS w b k):w.cell? ⟨b,1,none⟩=some (.int .i64 k.number):=qg a.at_ 1
theorem KpS.hsh(a:KpS w b k):zf w b 2 32=some (qu k.told).toArray:=by
 rw[qb8 a.at_ 2 32 (by rw[List.size_toArray,k.len a.len];omega)];congr 1;apply Array.ext';rw[Array.toList_extract];unfold KeptV.cells;show List.take 32 (qu k.told)=qu k.told;exact List.take_of_length_le (by rw[qal,a.len];exact Nat.le_refl _)
end
theorem qkz(w:World)(k:KeptV)(f:k.told.length=32):KpS (w.alloc (.cells k.cells.toArray 120)) w.heap.size k:=⟨qj _ _,f⟩
attribute [local go_sem ↓ high] zl qag qaj qar qmt qm1 qmb qmc qi8
attribute [local go_sem] qbl qcl qcn qdm qx q6b q7r q3u qmd
def qgw(told:List Int)(i:Int)(k:KeptV):Bool:=(qcj told i k.number).2==0&&(qcj told i k.number).1 != k.told
theorem qr5(h:List Int)(b:Nat):qbm (qex h b):=qgc _
theorem qwx(l:List Nat):∀h:List Int,qbm h→qbm (l.foldl qex h):=by
 induction l with
 | nil=>intro h f;exact f
 | cons b l i=>intro h _;rw[List.foldl_cons];exact i _ (qr5 h b)
theorem qkr(h:List Int)(f:qbm h)(i d:Nat):qbm (qc8 h i d):=qwx _ h f
theorem qps(h:List Int)(i:qbm h)(f t:Int):qbm (qcj h f t).1:=by
 unfold qcj;split
 ·exact qkr h i _ _
 ·exact qc3
theorem quh(told:List Int)(X:told.length=32)(hb:qbm told)(i:Int)(k:KeptV)(T:k.told.length=32)(kb:qbm k.told)(A I:Nat)(w:World)(hA:HsB w A told)(hI:w.cell? ⟨I,0,none⟩=some (.int .i64 i))(hT:Tabs w)(hD:Deb w) :
  Calls Tryz.prog 219 #[.agg k.cells.toArray,.pointer (some ⟨A,0,none⟩),.pointer (some ⟨I,0,none⟩)] w (qa7 (.bool (qgw told i k)) w):=by
 go_enter Tryz.func219,Tryz.ntmps219
 go_upto_region 1 with fail
 have C:=qkz w k T
 have q:qq w (w.alloc (.cells k.cells.toArray 120)):=(Upd.refl _ _).alloc _
 generalize w.alloc (.cells k.cells.toArray 120)=w1 at C q ⊢
 obtain⟨B,E⟩:∃B,B=w.heap.size:=⟨_,rfl⟩
 rw[←E] at C ⊢
 have a6:w.heap.size≤B:=by omega
 clear E
 have Z:=C.c1
 have rA:=(hA.new q).row
 have cI:=q.cell hI (fun h=>h)
 have hd:=qwk told X i k.number w1 (hT.new q) (hD.new q)
 have U:=qtt told X i k.number
 have M:=qps told hb i k.number
 have V:qgw told i k=((qcj told i k.number).2==0&&(qcj told i k.number).1 != k.told):=rfl
 have r:=qb V
 have Y:=qb C
 clear V C
 generalize qcj told i k.number=K at *
 go_wp2_with fail
 refine hd.mono ?_
 rintro e F ⟨rfl,O⟩
 obtain⟨N,R,P⟩:=qg6 F K.1 U
 have J:=qb R
 have v:=qb (((qa Y).new O).new P)
 have f:=qb ((q.trans O).trans P)
 clear hd Z rA cI q O R P
 go_upto_region 2 with fail
 change Code.wp _ _ _ _ (qij F K.1)
 generalize qij F K.1=w3 at J v f ⊢
 generalize F.heap.size=H at J ⊢
 clear N
 have a7:=fun W=>q6o U T M kb W
 have rH:=(qa J).row
 have rK:=(qa v).hsh
 cases z:K.2==0 with
 | false =>
  have m:Hid (qgw told i k=false):=by rw[z,Bool.false_and] at r;exact r
  clear r rH rK;have L:¬K.2=0:=by simpa using z
  go_wp2_with fail;go_ret;exact⟨by rw[qa m];rfl,qa f⟩
 | true =>
  have m:Hid (qgw told i k=(K.1 != k.told)):=by rw[z,Bool.true_and] at r;exact r
  have L:K.2=0:=by simpa using z
  clear r z;go_wp2_with fail;go_ret;exact⟨by rw[qa m];rfl,qa f⟩
theorem qoh{α:Type}{A B:List α}{n:Nat}(h:A.length=n):(A++B).drop n=B:=by subst h;simp
theorem qwu(X:List KeptV)(f:∀p∈X,p.told.length=32):∀(i:Nat) (x:KeptV),X[i]? = some x→∃R,(X.flatMap KeptV.cells).drop (i*34)=x.cells++R:=by
 induction X with
 | nil=>intro i x h;simp at h
 | cons y X v =>
  intro i x h;have r:y.cells.length=34:=y.len (f y (List.mem_cons_self ..));cases i with
  | zero =>
   simp only[List.getElem?_cons_zero,Option.some.injEq] at h;subst h;exact⟨X.flatMap KeptV.cells,by simp⟩
  | succ i =>
   rw[List.getElem?_cons_succ] at h;obtain⟨R,m⟩:=v (fun p q=>f p (List.mem_cons_of_mem _ q)) i x h;refine⟨R,?_⟩;rw[List.flatMap_cons,Nat.add_mul,Nat.one_mul,Nat.add_comm (i*34) 34,←List.drop_drop,qoh r,m]
theorem ChP.kept{w:World}{g:Nat}{S:Nat→Prop}{c:Ch}{f r m:Value}(h:ChP w g S c f r m){i:Nat}{p:KeptV}(C:c.shelf[i]? = some p):zf w g (48+i*34) 34=some p.cells.toArray:=by
 have J:=h.ok.s.seed;have K:=(List.getElem?_eq_some_iff.1 C).1;have F:=h.ok.shelf.2 p (List.mem_of_getElem? C);have z:c.s.cells.length=37:=c.s.len J;have M:(c.shelf.flatMap KeptV.cells).length=578:=by rw[qhl _ h.ok.shelf.2,h.ok.shelf.1]
 have E:(c.v f r m).cells=(c.s.cells++(c.k.cells++[.int .u64 c.loc,.int .u64 c.rem,f]))++(c.shelf.flatMap KeptV.cells++[r,m]):=by
  show c.s.cells++(c.k.cells++(Value.int .u64 c.loc :: .int .u64 c.rem::f::(c.shelf.flatMap KeptV.cells++[r,m])))=_;simp
 have q:(c.s.cells++(c.k.cells++[.int .u64 c.loc,.int .u64 c.rem,f])).length=48:=by
  rw[List.length_append,List.length_append,z];rfl
 have H:=h.ok.shelf.1;have L:48+i*34+34≤(c.v f r m).cells.toArray.size:=by
  rw[List.size_toArray,E,List.length_append,q,List.length_append,M];show 48+i*34+34≤48+(578+2);omega
 rw[qb8 h.at_ _ 34 L];congr 1;apply Array.ext';rw[Array.toList_extract,E];show List.extract (_++_) (48+i*34) (48+i*34+34)=_;rw[List.extract_eq_take_drop,Nat.add_sub_cancel_left,←List.drop_drop,qoh q];obtain⟨R,I⟩:=qwu c.shelf h.ok.shelf.2 i p C;rw[List.drop_append_of_le_length (by omega),I,List.append_assoc,List.take_append_of_le_length (by rw[p.len F];exact Nat.le_refl _),List.take_of_length_le (by rw[p.len F];exact Nat.le_refl _)]
def qk4(told:List Int)(i:Int)(ps:List KeptV):Option KeptV:=ps.find? fun k=>k.full&&qgw told i k
def q1s(told:List Int)(i:Int)(ps:List KeptV):KeptV:=(qk4 told i ps).getD KeptV.zero
theorem qxr(g:Nat)(S:Nat→Prop)(c:Ch)(lv nv av:Value)(n:Nat)(told:List Int)(ht:told.length=32)(hb:qbm told)(i:Int)(A I:Nat)(w:World)(h:ChP w g S c lv nv av)(a8:∀p∈c.shelf,qbm p.told)(hn:n≤17)
  (hA:HsB w A told) (hI:w.cell? ⟨I,0,none⟩=some (.int .i64 i)) (hT:Tabs w) (hD:Deb w) :
  Calls Tryz.prog 218 #[.pointer (some ⟨g,48,none⟩),.int .i64 n,.func (.func 219) #[] #[.pointer (some ⟨A,0,none⟩),.pointer (some ⟨I,0,none⟩)]] w (qa7 (.tuple #[.agg (q1s told i (c.shelf.take n)).cells.toArray,.bool (qk4 told i (c.shelf.take n)).isSome]) w):=by
 have b8:(n:Int)≤17:=by omega
 go_enter Tryz.func218,Tryz.ntmps218
 go_upto_region 1 with fail
 have Y:=qkz w KeptV.zero KeptV.zero_len
 have F:qq w (w.alloc (.cells KeptV.zero.cells.toArray 120)):=(Upd.refl _ _).alloc _
 generalize w.alloc (.cells KeptV.zero.cells.toArray 120)=w1 at Y F ⊢
 obtain⟨R,O⟩:∃R,R=w.heap.size:=⟨_,rfl⟩
 rw[←O] at Y ⊢
 have b5:w.heap.size≤R:=by omega
 clear O
 have H1:=qb (h.new F)
 have HA:=qb (hA.new F)
 have HI:=qb (F.cell hI (fun h=>h))
 have HT:=qb (hT.new F)
 have HD:=qb (hD.new F)
 have HR:=qb Y
 have HN:=qb F
 clear h hA hI hT hD Y F
 go_wp2_with fail
 go_loopw [9,16] (fun _ iv wr=>∃j:Nat,iv = .int .i64 (j:Int)∧j≤n∧Hid (qk4 told i (c.shelf.take j)=none)∧qq w1 wr) (fun _ iv _=>n-(intOf iv).toNat)
 case atStart=>exact⟨0,rfl,Nat.zero_le _,qb rfl,Upd.refl _ _⟩
 case round =>
  obtain⟨j,rfl,hj,r,N⟩:=hrel;obtain⟨v,rfl⟩:∃v:World,v=wr:=⟨_,rfl⟩;by_cases b7:j<n
  ·have X:=(qa H1).new N;have a7:=X.ok.shelf.1;obtain⟨p,V⟩:∃p,c.shelf[j]? = some p:=⟨_,List.getElem?_eq_getElem (by omega)⟩;have J:=List.mem_of_getElem? V;have q:=X.ok.shelf.2 p J;have b3:=a8 p J;have W:=X.kept V;have ha:=qkz v KeptV.zero KeptV.zero_len;have L:=ha.stOk q;have E:=ha.put q;have H:qq v ((v.alloc (.cells KeptV.zero.cells.toArray 120)).setCells v.heap.size 0 p.cells):=(((Upd.refl (fun _=>False) v).alloc _)).then (zc _) (fun i hi e=>by omega);have b6:(j:Int)<(n:Int):=by omega
   have U:qk4 told i (c.shelf.take (j+1))=if (p.full&&qgw told i p)=true then some p else none:=by
    unfold qk4 at r ⊢;rw[List.take_add_one,V,List.find?_append,qa r];simp only[Option.none_or,Option.toList_some,List.find?_cons,List.find?_nil];cases (p.full&&qgw told i p)<;>rfl
   have C:=qb U;have b4:=qb V;clear X J ha U V a7;go_upto_region 4 with fail;have M:=qb E;have f:=N.trans H;generalize (v.alloc (.cells KeptV.zero.cells.toArray 120)).setCells v.heap.size 0 p.cells=w5 at M f ⊢;generalize v.heap.size=K at M ⊢;clear L E H W N;have c0:=(qa M).c0;cases Z:p.full with
   | false =>
    rw[Z] at c0;rw[Z,Bool.false_and] at C;go_wp2_with fail;go_roundw
    case rel=>exact⟨j+1,by go_num,by omega,by rw[if_neg (by decide)] at C;exact C,f⟩
    case measure=>simp[intOf];omega
   | true =>
    rw[Z] at c0;rw[Z,Bool.true_and] at C;have rK:=(qa M).row;have P:=quh told ht hb i p q b3 A I w5 ((qa HA).new f) (f.cell (qa HI) (fun h=>h)) ((qa HT).new f) ((qa HD).new f);go_wp2_with fail;refine P.mono ?_;rintro e w6 ⟨rfl,n6⟩;have z:=f.trans n6;have a6:=qb ((qa M).new n6);clear P rK c0 M;cases ho:qgw told i p with
    | false =>
     rw[ho,if_neg (by decide)] at C;go_wp2_with fail;go_roundw
     case rel=>exact⟨j+1,by go_num,by omega,C,z⟩
     case measure=>simp[intOf];omega
    | true =>
     rw[ho,if_pos rfl] at C;have b9:=(qa a6).row;have m:=(qa HR).new z;have L:=m.stOk q;have HF:=qb (m.put q);have HU:=qb (((qa HN).trans z).then (zc (w:=w6) (b:=R) p.cells) (fun i hi e=>by omega));clear m f n6 z;go_wp2_with fail;have hF:=qa HF;refine bodyPost_ret (qy rfl _ _ R _ _ _ _ rfl hF.at_ Tryz.underlying120 rfl (by rw[List.size_toArray,p.len q];exact Tryz.infoKpt)) rfl ?_;have T:qk4 told i (c.shelf.take n)=some p:=by
      have e:c.shelf.take n=c.shelf.take (j+1)++(c.shelf.drop (j+1)).take (n-(j+1)):=by
       rw[←List.take_add,Nat.add_sub_cancel' (by omega)]
      have h0:=qa C;unfold qk4 at h0 ⊢;rw[e,List.find?_append,h0];rfl
     refine⟨?_,qa HU⟩;unfold q1s;rw[T];rfl
  ·obtain rfl:j=n:=by omega
   have m:=(qa HR).new N;have L:=m.stOk KeptV.zero_len;have HF:=qb (m.put KeptV.zero_len);have HU:=qb (((qa HN).trans N).then (zc (w:=v) (b:=R) KeptV.zero.cells) (fun i hi e=>by omega));clear m N;go_wp2_with fail;have hF:=qa HF;refine bodyPost_ret (qy rfl _ _ R _ _ _ _ rfl hF.at_ Tryz.underlying120 rfl (by rw[List.size_toArray,KeptV.zero.len KeptV.zero_len];exact Tryz.infoKpt)) rfl ?_;refine⟨?_,qa HU⟩;unfold q1s;rw[qa r];rfl
end
end Go.Proofs.YtfmkdoachjgjbaaGreatDoor
