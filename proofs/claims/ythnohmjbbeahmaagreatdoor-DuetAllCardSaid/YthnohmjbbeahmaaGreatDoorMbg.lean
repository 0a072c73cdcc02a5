/-
  Package secret: isNumber, Place, Can.
-/
import Derived.Test.YthnohmjbbeahmaaGreatDoorTxt
import Derived.Test.YthnohmjbbeahmaaGreatDoorProg
import Derived.Lib.TrailingZeros
import Derived.Laws.Bits64b
import Derived.Test.YthnohmjbbeahmaaGreatDoorSec2
import Derived.Test.YthnohmjbbeahmaaGreatDoorMbb
import Derived.Test.YthnohmjbbeahmaaGreatDoorMaa
import Derived.ProofKit
import Derived.OpenShut
import Derived.ShutString
import Derived.ChangeOld
import Derived.Deep.Slices
import Derived.Laws.StructEq
import Derived.Stop.BytesEq
import Derived.Test.YthnohmjbbeahmaaGreatDoorMbe
set_option linter.unusedVariables false
set_option linter.unusedSimpArgs false
namespace Go.Proofs.YthnohmjbbeahmaaGreatDoor
open Go.RowKit
structure Deb(w:World):Prop where
 tab:∀j,j<64→w.cell? ⟨5,j,none⟩=some (.int .u8 (Lib.deBruijn64tab.getD j 0))
theorem Deb.upd{S:Nat→Prop}{w w':World}(h:Deb w)(u:Upd S w w')(g:¬S 5):Deb w':=⟨fun i l=>u.cell (h.tab i l) g⟩
theorem Deb.new{w w':World}(h:Deb w)(u:qu w w'):Deb w':=h.upd u (fun h=>h)
def qda(i:Int):Bool:=decide (0≤i)&&decide (i<65536)
theorem qj0{i:Int}(g:0≤i)(l:i<65536):qda i=true:=by unfold qda;simp;omega
theorem zbc{i:Int}(h:i<0∨65536≤i):qda i=false:=by unfold qda;simp;omega
theorem qox{i:Int}(h:qda i=true):0≤i∧i<65536:=by unfold qda at h;simpa using h
theorem qlt(i:Int)(w:World):Calls Tryz.prog 140 #[.int .i64 i] w (qce (.bool (qda i)) w):=by
 by_cases l:0≤i
 ·by_cases g:i<65536
  ·rw[qj0 l g];go_enter Tryz.func140,Tryz.ntmps140;go_wp2;go_ret;exact⟨rfl,Q.refl _⟩
  ·rw[zbc (by omega)];have m:decide (i<65536)=false:=by simpa using g
   go_enter Tryz.func140,Tryz.ntmps140;go_wp2;go_ret;exact⟨rfl,Q.refl _⟩
 ·rw[zbc (by omega)];go_enter Tryz.func140,Tryz.ntmps140;go_wp2;go_ret;exact⟨rfl,Q.refl _⟩
theorem q8b(x a:Nat)(l:x<18446744073709551616)(g:x &&& (18446744073709551616-x)=a)(m:x≠0) :
  IntKind.u64.wrap (bits BinOp.and IntKind.u64 (x:Int) (IntKind.u64.wrap (-(x:Int)))*285870213051353865) / 288230376151711744=((a*285870213051353865%18446744073709551616 / 288230376151711744:Nat):Int):=by
 have i:IntKind.u64.wrap (-(x:Int))=((18446744073709551616-x:Nat):Int):=by rw[IntKind.wrap_u64];omega
 rw[i,bits_and_u64_nat x _ l (by omega),g,IntKind.wrap_u64]
 omega
theorem q8a(x k g:Nat)(w:World)(l:((x:Int)==0)=false)
  (key:IntKind.u64.wrap (bits BinOp.and IntKind.u64 (x:Int) (IntKind.u64.wrap (-(x:Int)))*285870213051353865) / 288230376151711744=(g:Int))
  (m:g<64) (o:k<64) (i:w.cell? ⟨5,g,none⟩=some (.int .u8 k)) :
  Calls Tryz.prog 147 #[.int .u64 x] w (qce (.int .i64 k) w):=by
 go_enter Tryz.func147,Tryz.ntmps147
 go_wp2_with (simp only[key])
 go_ret
 exact⟨rfl,Q.refl _⟩
theorem q8c(w:World):Calls Tryz.prog 147 #[.int .u64 0] w (qce (.int .i64 64) w):=by
 go_enter Tryz.func147,Tryz.ntmps147;go_wp2;go_ret;exact⟨rfl,Q.refl _⟩
theorem zcw(x:Nat)(t:x<18446744073709551616)(w:World)(v:Deb w) :
  Calls Tryz.prog 147 #[.int .u64 x] w (qce (.int .i64 (Lib.ctz 64 x)) w):=by
 by_cases i:x=0
 ·subst i;have e:Lib.ctz 64 0=64:=by decide
  rw[e];exact q8c w
 ·obtain⟨l,q⟩:=Lib.lowest_bit 64 x i t;obtain⟨o,m⟩:=Lib.deBruijn64_at _ q;have g:=v.tab _ o;rw[m] at g;exact q8a x _ _ w (by simp;omega) (q8b x _ t l i) o q g
set_option maxHeartbeats 1000000 in
theorem zhw(x:Nat)(l:x<18446744073709551616)(w:World)(g:Deb w) :
  Calls Tryz.prog 141 #[.int .u64 x] w (qce (.int .i64 (Lib.ctz 64 x)) w):=by
 have m:IntKind.u64.wrap (x:Int)=(x:Int):=by rw[IntKind.wrap_u64];omega
 have i:=zcw x l w g
 go_enter Tryz.func141,Tryz.ntmps141
 go_wp2_with fail
 refine i.mono ?_
 rintro e w1 ⟨rfl,q⟩
 go_wp2_with fail
 go_ret
 exact⟨rfl,q⟩
def qbq(i:Int):Nat:=if qda i then min (Lib.ctz 64 i.toNat) 16 else 0
theorem ql0(i:Int):qbq i≤16:=by unfold qbq;split<;>omega
set_option maxRecDepth 100000 in
set_option maxHeartbeats 1000000 in
theorem qj7(i:Int)(w:World)(E:Deb w):Calls Tryz.prog 128 #[.int .i64 i] w (qce (.int .i64 (qbq i)) w):=by
 have t:=qlt i w;go_enter Tryz.func128,Tryz.ntmps128;go_wp2_with fail;refine t.mono ?_;rintro e w1 ⟨rfl,q⟩;cases m:qda i with
 | false =>
  have e:qbq i=0:=by unfold qbq;rw[if_neg (by rw[m];decide)]
  have g:=qb e;clear e;go_wp2_with fail;go_ret;exact⟨by rw[qa g];rfl,q⟩
 | true =>
  obtain⟨o,H⟩:=qox m;obtain⟨n,rfl⟩:=Int.eq_ofNat_of_zero_le o;have J:IntKind.u64.wrap (n:Int)=(n:Int):=by rw[IntKind.wrap_u64];omega
  have v:=zhw n (by omega) w1 (E.new (q.upd _));have e:qbq (n:Int)=min (Lib.ctz 64 n) 16:=by unfold qbq;rw[if_pos m];rfl
  have g:=qb e;clear e t;have F:=qb m;clear m o;go_wp2_with fail;refine v.mono ?_;rintro e K ⟨rfl,z⟩;have C:=q.trans z;generalize Lib.ctz 64 n=k at *
  clear v q z;by_cases I:k≤16
  ·have l:min k 16=k:=by omega
   have D:min (k:Int) 16=(k:Int):=by omega
   rw[l] at g;clear l;go_wp2_with fail;go_ret;exact⟨by rw[qa g];rfl,C⟩
  ·have l:min k 16=16:=by omega
   have D:(16:Int)<(k:Int):=by omega
   rw[l] at g;clear l;go_wp2_with fail;go_ret;exact⟨by rw[qa g];rfl,C⟩
def qm6(f t:Int):Bool:=qda f&&(qda t&&(f.toNat / 2 ^ qbq f==t.toNat / 2 ^ qbq f))
set_option maxRecDepth 100000 in
set_option maxHeartbeats 1000000 in
theorem q3x(f t:Int)(w:World)(L:Deb w):Calls Tryz.prog 127 #[.int .i64 f,.int .i64 t] w (qce (.bool (qm6 f t)) w):=by
 have H:=qj7 f w L;have R:=ql0 f;have g:=fun W=>qlt f W
 have i:=fun W=>qlt t W
 have l:qm6 f t=(qda f&&(qda t&&(f.toNat / 2 ^ qbq f==t.toNat / 2 ^ qbq f))):=rfl;have o:=qb l;clear l;generalize qbq f=p at *
 go_enter Tryz.func127,Tryz.ntmps127;go_wp2_with fail;refine H.mono ?_;rintro e w1 ⟨rfl,q⟩;clear H;have M:(p:Int)≤16:=by omega
 cases v:qda f with
 | false =>
  rw[v,Bool.false_and] at o;replace g:=g;rw[v] at g;go_wp2_with (with_reducible first|(first|refine' tw1 (qg ?_) ?_|refine' tw2 (qg ?_) ?_);rotate_left|refine' tw3 (qg ?_)|rfl|apply tn|refine' tw4 ?_);refine(g _).mono ?_;rintro e J ⟨rfl,C⟩;go_wp2_with (with_reducible first|(first|refine' tw1 (qg ?_) ?_|refine' tw2 (qg ?_) ?_);rotate_left|refine' tw3 (qg ?_)|rfl|apply tn|refine' tw4 ?_);go_ret;exact⟨by rw[qa o];rfl,q.trans C.ofDrew⟩
 | true =>
  rw[v,Bool.true_and] at o;rw[v] at g;cases z:qda t with
  | false =>
   rw[z,Bool.false_and] at o;rw[z] at i;go_wp2_with (with_reducible first|(first|refine' tw1 (qg ?_) ?_|refine' tw2 (qg ?_) ?_);rotate_left|refine' tw3 (qg ?_)|rfl|apply tn|refine' tw4 ?_);refine(g _).mono ?_;rintro e J ⟨rfl,C⟩;go_wp2_with (with_reducible first|(first|refine' tw1 (qg ?_) ?_|refine' tw2 (qg ?_) ?_);rotate_left|refine' tw3 (qg ?_)|rfl|apply tn|refine' tw4 ?_);refine(i _).mono ?_;rintro e N ⟨rfl,E⟩;go_wp2_with (with_reducible first|(first|refine' tw1 (qg ?_) ?_|refine' tw2 (qg ?_) ?_);rotate_left|refine' tw3 (qg ?_)|rfl|apply tn|refine' tw4 ?_);go_ret;exact⟨by rw[qa o];rfl,(q.trans C.ofDrew).trans E⟩
  | true =>
   rw[z,Bool.true_and] at o;rw[z] at i;obtain⟨F,f1⟩:=qox v;obtain⟨I,T⟩:=qox z;obtain⟨n,rfl⟩:=Int.eq_ofNat_of_zero_le F;obtain⟨m,rfl⟩:=Int.eq_ofNat_of_zero_le I;have O:=qb v;have P:=qb z;clear v z F I;go_wp2_with (with_reducible first|(first|refine' tw1 (qg ?_) ?_|refine' tw2 (qg ?_) ?_);rotate_left|refine' tw3 (qg ?_)|rfl|apply tn|refine' tw4 ?_);refine(g _).mono ?_;rintro e J ⟨rfl,C⟩;go_wp2_with (with_reducible first|(first|refine' tw1 (qg ?_) ?_|refine' tw2 (qg ?_) ?_);rotate_left|refine' tw3 (qg ?_)|rfl|apply tn|refine' tw4 ?_);refine(i _).mono ?_;rintro e N ⟨rfl,E⟩;go_wp2_with (with_reducible first|(first|refine' tw1 (qg ?_) ?_|refine' tw2 (qg ?_) ?_);rotate_left|refine' tw3 (qg ?_)|rfl|apply tn|refine' tw4 ?_);go_ret;refine⟨?_,(q.trans C.ofDrew).trans E⟩;have D:((n:Int) / 2 ^ p==(m:Int) / 2 ^ p)=((n:Int).toNat / 2 ^ p==(m:Int).toNat / 2 ^ p):=by
    have en:(n:Int) / 2 ^ p=((n / 2 ^ p:Nat):Int):=by rw[Int.natCast_ediv];rfl
    have K:(m:Int) / 2 ^ p=((m / 2 ^ p:Nat):Int):=by rw[Int.natCast_ediv];rfl
    rw[en,K,Int.toNat_natCast,Int.toNat_natCast];by_cases e:n / 2 ^ p=m / 2 ^ p
    ·rw[e];simp
    ·rw[beq_false_of_ne e,beq_false_of_ne (by omega)]
   rw[qa o,←D];rfl
attribute [local go_sem ↓ high] zy qak qaq qat
attribute [local go_sem] qcl qdb qdn qgw zb
def qcp(h:List Int)(i:Int):List Int × Int:=if qda i=true then (qdv h i.toNat 16,0) else (zv,1)
set_option maxRecDepth 100000 in
set_option maxHeartbeats 1000000 in
theorem zaz(h:List Int)(P:h.length=32)(i:Int)(w:World)(O:Tabs w) :
  Calls Tryz.prog 139 #[.agg (qx h).toArray,.int .i64 i] w (qbr (.tuple #[.agg (qx (qcp h i).1).toArray,.int .i64 (qcp h i).2]) w):=by
 have l:=fun W=>qlt i W
 go_enter Tryz.func139,Tryz.ntmps139
 go_upto_region 1 with fail
 have E:=(qch w h P).new ((Upd.refl _ _).alloc (.cells (qx zv).toArray 33))
 have z:=qch (w.alloc (.cells (qx h).toArray 33)) zv qs
 rw[World.size_alloc] at z
 have H:qu w ((w.alloc (.cells (qx h).toArray 33)).alloc (.cells (qx zv).toArray 33)):=((Upd.refl _ _).alloc _).alloc _
 generalize (w.alloc (.cells (qx h).toArray 33)).alloc (.cells (qx zv).toArray 33)=w1 at E z H ⊢
 obtain⟨A,v⟩:∃A,A=w.heap.size:=⟨_,rfl⟩
 obtain⟨B,C⟩:∃B,B=w.heap.size+1:=⟨_,rfl⟩
 rw[←C] at z ⊢
 rw[←v] at E ⊢
 have a5:w.heap.size≤B:=by omega
 have a4:B≠A:=by omega
 clear v C
 have HA:=qb E
 have HB:=qb z
 clear E z
 go_wp2_with fail
 refine(l _).mono ?_
 rintro e Z ⟨rfl,q⟩
 have g:=(qa HB).new (q.upd _)
 have m:=(qa HA).new (q.upd _)
 have D:=H.trans (q.upd _)
 have t:=O.new D
 cases F:qda i with
 | false =>
  have e:qcp h i=(zv,1):=by unfold qcp;rw[if_neg (by rw[F];decide)]
  have J:=qb e;have T:=g.stOk zv qs;have L:=qb (g.put zv qs);have M:=qb (D.then (zz (w:=Z) (b:=B) (qx zv)) (fun i hi e=>by omega));clear g m D H t O e;go_wp2_with fail;refine bodyPost_ret (qq rfl _ _ B _ _ _ _ rfl (qa L).at_ Tryz.underlying33 rfl (by rw[List.size_toArray,qa0,qs];exact Tryz.infoHsh)) rfl ?_;rw[qa J];exact⟨rfl,qa M⟩
 | true =>
  obtain⟨V,h1⟩:=qox F;obtain⟨n,rfl⟩:=Int.eq_ofNat_of_zero_le V;have e:qcp h (n:Int)=(qdv h n 16,0):=by unfold qcp;rw[if_pos F];rfl
  have J:=qb e;have R:=qjq h P n 16;have X:=qtw h P n 16 (by omega) (by omega) Z t;have hr:=m.row;have I:=qb g;have N:=qb D;clear e l V m g D H O F t;go_wp2_with fail;refine X.mono ?_;rintro e w3 ⟨rfl,U⟩;have o:=(qa I).new U;have Y:=(qa N).trans U;have T:=o.stOk _ R;have L:=qb (o.put _ R);have M:=qb (Y.then (zz (w:=w3) (b:=B) (qx (qdv h n 16))) (fun i hi e=>by omega));clear o Y U X hr;generalize qdv h n 16=K at *
  go_wp2_with fail;refine bodyPost_ret (qq rfl _ _ B _ _ _ _ rfl (qa L).at_ Tryz.underlying33 rfl (by rw[List.size_toArray,qa0,R];exact Tryz.infoHsh)) rfl ?_;rw[qa J];exact⟨rfl,qa M⟩
def qcv(h:List Int)(f t:Int):List Int × Int:=if qm6 f t=true then (qdv h t.toNat (qbq f),0) else (zv,1)
theorem qyh(h:List Int)(g:h.length=32)(f t:Int):(qcv h f t).1.length=32:=by
 unfold qcv;split
 ·exact qjq h g _ _
 ·exact qs
theorem zdf{f t:Int}(h:qm6 f t=true):qda t=true:=by
 unfold qm6 at h;simp only[Bool.and_eq_true] at h;exact h.2.1
set_option maxRecDepth 100000 in
set_option maxHeartbeats 1000000 in
theorem q1h(h:List Int)(hh:h.length=32)(f t:Int)(w:World)(hT:Tabs w)(N:Deb w) :
  Calls Tryz.prog 131 #[.agg (qx h).toArray,.int .i64 f,.int .i64 t] w (qbr (.tuple #[.agg (qx (qcv h f t).1).toArray,.int .i64 (qcv h f t).2]) w):=by
 go_enter Tryz.func131,Tryz.ntmps131
 go_upto_region 1 with fail
 have M:=(qch w h hh).new ((Upd.refl _ _).alloc (.cells (qx zv).toArray 33))
 have E:=qch (w.alloc (.cells (qx h).toArray 33)) zv qs
 rw[World.size_alloc] at E
 have J:qu w ((w.alloc (.cells (qx h).toArray 33)).alloc (.cells (qx zv).toArray 33)):=((Upd.refl _ _).alloc _).alloc _
 generalize (w.alloc (.cells (qx h).toArray 33)).alloc (.cells (qx zv).toArray 33)=w1 at M E J ⊢
 obtain⟨A,D⟩:∃A,A=w.heap.size:=⟨_,rfl⟩
 obtain⟨B,F⟩:∃B,B=w.heap.size+1:=⟨_,rfl⟩
 rw[←F] at E ⊢
 rw[←D] at M ⊢
 have a7:w.heap.size≤B:=by omega
 have a6:B≠A:=by omega
 clear D F
 have HA:=qb M
 have HB:=qb E
 have m:=q3x f t w1 (N.new J)
 clear M E
 go_wp2_with fail
 refine m.mono ?_
 rintro e w2 ⟨rfl,q⟩
 have g:=(qa HB).new (q.upd _)
 have l:=(qa HA).new (q.upd _)
 have C:=J.trans (q.upd _)
 have z:=hT.new C
 have v:=N.new C
 clear m
 cases O:qm6 f t with
 | false =>
  have e:qcv h f t=(zv,1):=by unfold qcv;rw[if_neg (by rw[O];decide)]
  have U:=qb e;have a5:=g.stOk zv qs;have V:=qb (g.put zv qs);have X:=qb (C.then (zz (w:=w2) (b:=B) (qx zv)) (fun i hi e=>by omega));clear g l C J z hT e N v;go_wp2_with fail;refine bodyPost_ret (qq rfl _ _ B _ _ _ _ rfl (qa V).at_ Tryz.underlying33 rfl (by rw[List.size_toArray,qa0,qs];exact Tryz.infoHsh)) rfl ?_;rw[qa U];exact⟨rfl,qa X⟩
 | true =>
  obtain⟨h0,h1⟩:=qox (zdf O);obtain⟨n,rfl⟩:=Int.eq_ofNat_of_zero_le h0;have e:qcv h f (n:Int)=(qdv h n (qbq f),0):=by unfold qcv;rw[if_pos O];rfl
  have U:=qb e;have hl:=qjq h hh n (qbq f);have a4:=ql0 f;have H:=fun W (hW:Tabs W)=>qtw h hh n (qbq f) (by omega) a4 W hW
  have hp:=fun W (hW:Deb W)=>qj7 f W hW
  have hr:zm w2.drew A 0 32=some (qx h).toArray:=l.row;have R:=qb g;have P:=qb l;have Y:=qb C;have Z:=qb z;have T:=qb v;have HC:=qb H;have HP:=qb hp;clear e h0 l g C J hT O z N v H hp;generalize qdv h n (qbq f)=K at *
  generalize qbq f=p at *
  go_upto_region 3 with fail;refine qc7 (fun w'=>zm w' A 0 32=some (qx h).toArray) [0] (.of [0,1,2,3,4,5,6]) (by kernel_rfl) (by kernel_rfl) hr ?_;simp only[Plan.of];go_wp2_with (with_reducible first|(first|refine' qw1 (qg ?_) ?_|refine' qw2 (qg ?_) ?_|refine' qw3 (qg ?_) ?_);rotate_left|refine' qw4 (qg ?_)|refine' qw5 (qg ?_)|rfl|apply qn);refine(qa HP _ ((qa T).new ((Upd.refl _ _).drew))).mono ?_;rintro e w3 ⟨rfl,q3⟩;have L:qu w2 w3:=(q3.ofDrew).upd _;have I:=((qa P).new L).row;have H:=qa HC w3 ((qa Z).new L);clear hr HP;go_wp2_with (with_reducible first|(first|refine' qw1 (qg ?_) ?_|refine' qw2 (qg ?_) ?_|refine' qw3 (qg ?_) ?_);rotate_left|refine' qw4 (qg ?_)|refine' qw5 (qg ?_)|rfl|apply qn);refine⟨I,?_⟩;go_wp2_with (with_reducible first|(first|refine' qw1 (qg ?_) ?_|refine' qw2 (qg ?_) ?_|refine' qw3 (qg ?_) ?_);rotate_left|refine' qw4 (qg ?_)|refine' qw5 (qg ?_)|rfl|apply qn);refine H.mono ?_;rintro e w4 ⟨rfl,n4⟩;have o:=((qa R).new L).new n4;have n5:=((qa Y).trans L).trans n4;have a5:=o.stOk _ hl;have V:=qb (o.put _ hl);have X:=qb (n5.then (zz (w:=w4) (b:=B) (qx K)) (fun i hi e=>by omega));clear o n5 L H n4 I;go_wp2_with (with_reducible first|(first|refine' qw1 (qg ?_) ?_|refine' qw2 (qg ?_) ?_|refine' qw3 (qg ?_) ?_);rotate_left|refine' qw4 (qg ?_)|refine' qw5 (qg ?_)|rfl|apply qn);refine bodyPost_ret (qq rfl _ _ B _ _ _ _ rfl (qa V).at_ Tryz.underlying33 rfl (by rw[List.size_toArray,qa0,hl];exact Tryz.infoHsh)) rfl ?_;rw[qa U];exact⟨rfl,qa X⟩
end Go.Proofs.YthnohmjbbeahmaaGreatDoor
namespace Go.Proofs.YthnohmjbbeahmaaGreatDoor
open Go.RowKit
attribute [local go_sem ↓ high] zy qak qaq qat zr zu zw zx
attribute [local go_sem] qcl qdb qdn qgw zb qb3 qb9 qcf
def Ch.secret(c:Ch)(n:Int):List Int × Int:=if n<0∨c.k.heard≤n then (zv,1) else qcp c.s.seed (65535-n)
theorem qiz(h:List Int)(g:h.length=32)(i:Int):(qcp h i).1.length=32:=by
 unfold qcp;split
 ·exact qjq h g _ _
 ·exact qs
theorem Ch.secret_len{c:Ch}(h:c.Ok)(n:Int):(c.secret n).1.length=32:=by
 unfold Ch.secret;split
 ·exact qs
 ·exact qiz _ h.s.seed _
set_option maxRecDepth 100000 in
set_option maxHeartbeats 1000000 in
theorem q26(g:Nat)(S:Nat→Prop)(c:Ch)(n:Int)(w:World)(h:ChS w g S c)(R:Tabs w)(X : -9223372036854775808≤n∧n≤9223372036854775807) :
  Calls Tryz.prog 126 #[.pointer (some ⟨g,0,none⟩),.int .i64 n] w (qbr (.tuple #[.agg (qx (c.secret n).1).toArray,.int .i64 (c.secret n).2]) w):=by
 obtain⟨Y,nv,W,h⟩:=h
 go_enter Tryz.func126,Tryz.ntmps126
 go_upto_region 1 with fail
 have l:=qch w zv qs
 have q:qu w (w.alloc (.cells (qx zv).toArray 33)):=(Upd.refl _ _).alloc _
 generalize w.alloc (.cells (qx zv).toArray 33)=w1 at l q ⊢
 obtain⟨B,t⟩:∃B,B=w.heap.size:=⟨_,rfl⟩
 rw[←t] at l ⊢
 have P:w.heap.size≤B:=by omega
 clear t
 have E:=h.new q
 have N:w1.cell? ⟨g,38,none⟩=some (.int .i64 c.k.heard):=E.toR.heard
 have o:=E.seed
 by_cases e:n<0∨c.k.heard≤n
 ·have v:c.secret n=(zv,1):=by unfold Ch.secret;rw[if_pos e]
  have H:=l.stOk zv qs;have C:=qb (l.put zv qs);have D:=qb (q.then (zz (w:=w1) (b:=B) (qx zv)) (fun i T e=>by omega));have z:=qb v;clear h E l q v;by_cases e0:n<0
  ·go_wp2_with fail;refine bodyPost_ret (qq rfl _ _ B _ _ _ _ rfl (qa C).at_ Tryz.underlying33 rfl (by rw[List.size_toArray,qa0,qs];exact Tryz.infoHsh)) rfl ?_;rw[qa z];exact⟨rfl,qa D⟩
  ·have O:c.k.heard≤n:=by omega
   clear e;go_wp2_with fail;refine bodyPost_ret (qq rfl _ _ B _ _ _ _ rfl (qa C).at_ Tryz.underlying33 rfl (by rw[List.size_toArray,qa0,qs];exact Tryz.infoHsh)) rfl ?_;rw[qa z];exact⟨rfl,qa D⟩
 ·have v:c.secret n=qcp c.s.seed (65535-n):=by unfold Ch.secret;rw[if_neg e]
  have e0:¬n<0:=by omega
  have O:¬c.k.heard≤n:=by omega
  have U:IntKind.i64.wrap (65535-n)=65535-n:=qkj (by omega) (by omega);have J:=zaz c.s.seed h.ok.s.seed (65535-n) w1 (R.new q);have F:=qiz c.s.seed h.ok.s.seed (65535-n);have z:=qb v;have L:=qb l;have M:=qb q;clear h E l q v e;generalize qcp c.s.seed (65535-n)=K at *
  go_wp2_with fail;refine J.mono ?_;rintro e V ⟨rfl,I⟩;have m:=(qa L).new I;have H:=m.stOk _ F;have C:=qb (m.put _ F);have D:=qb (((qa M).trans I).then (zz (w:=V) (b:=B) (qx K.1)) (fun i T e=>by omega));clear m I J o;go_wp2_with fail;refine bodyPost_ret (qq rfl _ _ B _ _ _ _ rfl (qa C).at_ Tryz.underlying33 rfl (by rw[List.size_toArray,qa0,F];exact Tryz.infoHsh)) rfl ?_;rw[qa z];exact⟨rfl,qa D⟩
def Ch.revocation(c:Ch):MsgV:=⟨7,c.s.ch,0,0,(c.secret (c.k.heard-1)).1,0,c.k.heard-1⟩
set_option maxRecDepth 100000 in
set_option maxHeartbeats 1000000 in
theorem qle(g:Nat)(S:Nat→Prop)(c:Ch)(w:World)(h:ChS w g S c)(hT:Tabs w) :
  Calls Tryz.prog 110 #[.pointer (some ⟨g,0,none⟩)] w (qbr (.agg c.revocation.cells.toArray) w):=by
 obtain⟨lv,nv,av,h⟩:=h
 have a6:=h.ok.heard
 go_enter Tryz.func110,Tryz.ntmps110
 go_upto_region 1 with fail
 have F:=qbx w MsgV.zero qs
 have D:qu w (w.alloc (.cells MsgV.zero.cells.toArray 71)):=(Upd.refl _ _).alloc _
 generalize w.alloc (.cells MsgV.zero.cells.toArray 71)=w1 at F D ⊢
 obtain⟨B,t⟩:∃B,B=w.heap.size:=⟨_,rfl⟩
 rw[←t] at F ⊢
 have a5:w.heap.size≤B:=by omega
 clear t
 have E:=h.new D
 have q:w1.cell? ⟨g,38,none⟩=some (.int .i64 c.k.heard):=E.toR.heard
 have a8:IntKind.i64.wrap (c.k.heard-1)=c.k.heard-1:=qkj (by omega) (by omega)
 have V:=q26 g S c (c.k.heard-1) w1 ⟨lv,nv,av,E⟩ (hT.new D) (by omega)
 have H:=Ch.secret_len h.ok (c.k.heard-1)
 have z:c.revocation=⟨7,c.s.ch,0,0,(c.secret (c.k.heard-1)).1,0,c.k.heard-1⟩:=rfl
 have Z:=qb z
 have Y:=qb F
 have N1:=qb D
 have X:=qb E
 clear h E F D z
 generalize c.secret (c.k.heard-1)=K at *
 go_wp2_with fail
 refine V.mono ?_
 rintro e L ⟨rfl,I⟩
 obtain⟨C,v,J⟩:=qrs L K.1 H
 have U:=((qa X).new I).new J
 have M:=qb v
 have l:=qb (((qa Y).new I).new J)
 have o:=qb (((qa N1).trans I).trans J)
 have P:=qb U
 clear V I v J U q
 go_upto_region 2 with fail
 change Code.wp _ _ _ _ (qud L K.1)
 generalize qud L K.1=m at M l o P ⊢
 generalize L.heap.size=A at M ⊢
 have N:=qa P
 have a7:=(qa M).row
 have a4:m.cell? ⟨g,0,none⟩=some (.int .u32 c.s.ch):=N.toR.ch
 have q:m.cell? ⟨g,38,none⟩=some (.int .i64 c.k.heard):=N.toR.heard
 have O:=fun W=>q06 7 c.s.ch (c.k.heard-1) K.1 H W
 have C:stOk m.drew B 0 38 (MsgV.cells ⟨7,c.s.ch,0,0,K.1,0,c.k.heard-1⟩).toArray=true:=(qa l).stOk (k:=⟨7,c.s.ch,0,0,K.1,0,c.k.heard-1⟩) H
 have nd:qu m m.drew:=(Upd.refl _ _).drew
 have R:=qb (((qa l).new nd).put (k:=⟨7,c.s.ch,0,0,K.1,0,c.k.heard-1⟩) H)
 have T:=qb (((qa o).trans nd).then (zz (w:=m.drew) (b:=B) (MsgV.cells ⟨7,c.s.ch,0,0,K.1,0,c.k.heard-1⟩)) (fun i hi e=>by omega))
 clear N nd
 rw[←qa Z] at C R T O
 go_wp2_with (with_reducible first|(first|refine' tw1 (qg ?_) ?_|refine' tw2 (qg ?_) ?_);rotate_left|refine' tw3 (qg ?_)|rfl|apply tn|refine' tw4 ?_)
 have v:=qa R
 exact bodyPost_ret (results_cell_row rfl _ _ B _ _ _ _ rfl v.at_ Tryz.underlying71 rfl (by rw[v.agg];exact Tryz.infoMsg)) rfl ⟨rfl,qa T⟩
end Go.Proofs.YthnohmjbbeahmaaGreatDoor
namespace Go.Proofs.YthnohmjbbeahmaaGreatDoor
open Go.RowKit Go.ChangeShapes Go.WideShapes Go.ChangeAt Go.Deep
inductive Leaf where
 | bool
 | int (k:IntKind)
 | str
 deriving DecidableEq
def Leaf.fits:Leaf→Value→Prop
 | .bool,v=>∃b,v = .bool b
 | .int k,v=>∃n,v = .int k n∧(Lit.int k n).wf=true
 | .str,v=>∃s:ByteArray,v = .string s∧s.size≤maxLen
def qeq:List Leaf→List Value→Prop
 | [],cs=>cs=[]
 | l::ls,cs=>∃v r,cs=v::r∧l.fits v∧qeq ls r
theorem qeq.len:∀ {ls:List Leaf} {cs:List Value},qeq ls cs→cs.length=ls.length
 | [],_,h=>by rw[show _=[] from h];rfl
 | l::ls,_,h=>by obtain⟨v,r,rfl,_,g⟩:=h;simp[g.len]
theorem qeq.app:∀ {ls ms:List Leaf} {cs g:List Value},qeq ls cs→qeq ms g→qeq (ls++ms) (cs++g)
 | [],_,_,_,h,k=>by rw[show _=[] from h];exact k
 | l::ls,_,_,_,h,k=>by obtain⟨v,r,rfl,hv,i⟩:=h;exact⟨v,_,rfl,hv,i.app k⟩
theorem qeq.split:∀ {ls ms:List Leaf} {cs:List Value},qeq (ls++ms) cs→∃a b,cs=a++b∧qeq ls a∧qeq ms b
 | [],_,cs,h=>⟨[],cs,rfl,rfl,h⟩
 | l::ls,_,_,h=>by
  obtain⟨v,r,rfl,hv,m⟩:=h;obtain⟨a,b,rfl,g,i⟩:=qeq.split m;exact⟨v::a,b,rfl,⟨v,a,rfl,hv,g⟩,i⟩
theorem qeq.cat:∀ {L:List (List Leaf)} {C:List (List Value)},L.length=C.length→(∀(i:Nat) l c,L[i]? = some l→C[i]? = some c→qeq l c)→qeq L.flatten C.flatten
 | [],[],_,_=>rfl
 | [],_::_,h,_=>by simp at h
 | _::_,[],h,_=>by simp at h
 | l::L,c::C,h,k=>by
  rw[List.flatten_cons,List.flatten_cons];exact(k 0 l c rfl rfl).app (qeq.cat (by simpa using h) fun i x y g m=>k (i+1) x y g m)
def qbv(P:Program)(rec:TypeId→Option (List Leaf)):Nat→List Field→Option (List Leaf)
 | _,[]=>some []
 | o,f::r=>match rec f.type with
  | none=>none
  | some l=>if f.offset=o∧P.cellsOf f.type=l.length then (qbv P rec (o+l.length) r).map (l ++ ·) else none
def qde(P:Program):Nat→TypeId→Option (List Leaf)
 | 0,_=>none
 | n+1,t=>match P.underlying t with
  | some .bool=>some [.bool]
  | some (.int k)=>some [.int k]
  | some .string=>some [.str]
  | some (.struct g)=>match qbv P (qde P n) 0 g.toList with
   | some l=>if P.cellsOf t=l.length then some l else none
   | none=>none
  | some (.array m e)=>match qde P n e with
   | some l=>if P.cellsOf e=l.length∧P.cellsOf t=m*l.length then some (List.replicate m l).flatten else none
   | none=>none
  | _=>none
section
variable {H:Type}{enc:TypeId × Value→H}{P:Program}{w:World}{base:Nat}{spare:Nat→Bool}{held:Bool}
theorem qrb{rec:TypeId→Option (List Leaf)}{cs:List Value}(m:∀t l c x i,rec t=some l→DataW.trod enc P w base spare held i t c=some x→qeq l c) :
  ∀(z:List Field) (o:Nat) (L:List Leaf),qbv P rec o z=some L→cs.length=o+L.length →
   (∀f∈z,∃i x,DataW.trod enc P w base spare held i f.type ((cs.drop f.offset).take (P.cellsOf f.type))=some x)→qeq L (cs.drop o)
 | [],o,L,h,q,_=>by
  simp only[qbv,Option.some.injEq] at h;subst h;show cs.drop o=[];exact List.drop_eq_nil_of_le (by simp at q;omega)
 | f::r,o,L,h,q,D=>by
  unfold qbv at h;cases v:rec f.type with
  | none=>rw[v] at h;cases h
  | some l =>
   rw[v] at h;simp only at h;split at h
   ·rename_i I;obtain⟨N,K⟩:=I;rw[Option.map_eq_some_iff] at h;obtain⟨M,F,rfl⟩:=h;obtain⟨i,x,O⟩:=D f (List.mem_cons_self ..);have C:=m _ _ _ _ _ v O;rw[N,K] at C;rw[List.length_append] at q;have E:=qrb m r (o+l.length) M F (by omega) (fun g J=>D g (List.mem_cons_of_mem _ J));have e:cs.drop o=(cs.drop o).take l.length++cs.drop (o+l.length):=by
     rw[←List.drop_drop,List.take_append_drop]
    rw[e];exact C.app E
   ·cases h
theorem qq6(k:Nat):∀(m:Nat) (cs:List Value),cs.length=m*k→cs=((List.range m).map fun i=>(cs.drop (i*k)).take k).flatten
 | 0,cs,h=>by
  have:cs=[]:=List.length_eq_zero_iff.1 (by omega);subst this;rfl
 | m+1,cs,h=>by
  have g:=qq6 k m (cs.drop k) (by rw[List.length_drop,h,Nat.succ_mul];omega);rw[List.range_succ_eq_map,List.map_cons,List.flatten_cons,Nat.zero_mul,List.drop_zero,List.map_map];have e:((List.range m).map ((fun i=>(cs.drop (i*k)).take k) ∘ Nat.succ))=((List.range m).map fun i=>((cs.drop k).drop (i*k)).take k):=by
   apply List.map_congr_left;intro i _;show (cs.drop ((i+1)*k)).take k=_;rw[List.drop_drop,Nat.succ_mul,Nat.add_comm]
  rw[e,←g,List.take_append_drop]
theorem qom:∀(n:Nat) (t:TypeId) (l:List Leaf) (cs:List Value) (x:DataW H × List MemPlace) (g:Nat),qde P n t=some l→DataW.trod enc P w base spare held g t cs=some x→qeq l cs
 | 0,_,_,_,_,_,h,_=>by simp[qde] at h
 | n+1,t,l,cs,x,g,h,D=>by
  unfold qde at h;split at h
  ·rename_i o;obtain⟨b,rfl,_⟩:=DataW.trod_bool o D;simp only[Option.some.injEq] at h;subst h;exact⟨_,_,rfl,⟨b,rfl⟩,rfl⟩
  ·rename_i k o;obtain⟨z,rfl,_,N⟩:=DataW.trod_int o D;simp only[Option.some.injEq] at h;subst h;exact⟨_,_,rfl,⟨z,rfl,N⟩,rfl⟩
  ·rename_i o;obtain⟨s,rfl,_,N⟩:=DataW.trod_string o D;simp only[Option.some.injEq] at h;subst h;exact⟨_,_,rfl,⟨s,rfl,N⟩,rfl⟩
  ·rename_i R o;split at h
   ·rename_i L I;split at h
    ·rename_i O;simp only[Option.some.injEq] at h;subst h;obtain⟨xs,m,_,_,C,E,J⟩:=DataW.trod_struct o D;refine qrb (rec:=qde P n) (cs:=cs) (fun t l c x g T U=>qom n t l c x g T U) R.toList 0 L I (by omega) fun f K=> ?_
     obtain⟨i,q⟩:=List.getElem?_of_mem K;rw[Array.getElem?_toList] at q;have:=J i f q;have M:i<xs.length:=by rw[E];exact(Array.getElem?_eq_some_iff.1 q).1
     rw[List.getElem?_eq_getElem M] at this;exact⟨m,_,this⟩
    ·cases h
   ·cases h
  ·rename_i m e o;split at h
   ·rename_i L I;split at h
    ·rename_i O;simp only[Option.some.injEq] at h;subst h;obtain⟨xs,k,_,_,C,E,J⟩:=DataW.trod_array o D;rw[qq6 L.length m cs (by omega)];refine qeq.cat (by simp) fun i a c F v=> ?_
     obtain⟨q,rfl⟩:i<m∧a=L:=by
      rw[List.getElem?_replicate] at F;split at F
      ·exact⟨‹_›,(Option.some.inj F).symm⟩
      ·cases F
     rw[List.getElem?_map,List.getElem?_range q,Option.map_some,Option.some.injEq] at v;subst v;have:=J i q;rw[O.1,List.getElem?_eq_getElem (by omega)] at this;exact qom n e _ _ _ k I this
    ·cases h
   ·cases h
  ·cases h
end
def qiq(P:Program)(t:TypeId):Bool:=match P.underlying t with | some (.struct _)=>true | some (.array _ _)=>true | _=>false
def mkV(P:Program)(t:TypeId)(cs:List Value):Value:=if qiq P t then .agg cs.toArray else cs.headD undef
def eqB(P:Program):Nat→TypeId→Bool
 | 0,_=>false
 | n+1,t=>(P.info? t).isSome&&match P.underlying t with
  | some .bool=>true
  | some (.int _)=>true
  | some .string=>true
  | some (.struct g)=> !P.stoodInHeld t&&g.toList.all fun f=>f.name != "_"&&eqB P n f.type
  | some (.array _ e)=>eqB P n e
  | _=>false
section
variable {P:Program}
theorem qyk{n:Nat}{t:TypeId}(h:eqB P n t=true):∃i,P.info? t=some i:=by
 cases n with
 | zero=>cases h
 | succ n =>
  unfold eqB at h;simp only[Bool.and_eq_true] at h;exact Option.isSome_iff_exists.1 h.1
theorem qss{t:TypeId}{i:TypeInfo}(h:P.info? t=some i)(w:World):(sizeOf t).run P w = .ok (P.cellsOf t) w:=by
 simp[sizeOf,typeInfo,h,Program.cellsOf]
theorem q52{n:Nat}{t:TypeId}{l:List Leaf}(h:qde P n t=some l)(g:qiq P t=false):∃k,l=[k]:=by
 cases n with
 | zero=>simp[qde] at h
 | succ n =>
  unfold qde at h;unfold qiq at g;split at h
  ·exact⟨_,(Option.some.inj h).symm⟩
  ·exact⟨_,(Option.some.inj h).symm⟩
  ·exact⟨_,(Option.some.inj h).symm⟩
  ·rename_i i;rw[i] at g;cases g
  ·rename_i i;rw[i] at g;cases g
  ·cases h
theorem q9w{n:Nat}{t:TypeId}{l:List Leaf}(h:qde P n t=some l):∃d,P.underlying t=some d:=by
 cases n with
 | zero=>simp[qde] at h
 | succ n =>
  unfold qde at h;cases g:P.underlying t with
  | none=>rw[g] at h;cases h
  | some d=>exact⟨d,rfl⟩
theorem qn4{n:Nat}{t:TypeId}{l:List Leaf}(h:qde P n t=some l)(v:P.cellsOf t=l.length){i:TypeInfo}(z:P.info? t=some i)(xs:List Value)(o:Nat)(C:o+l.length≤xs.length)(w:World) :
  (part t xs.toArray o).run P w = .ok (mkV P t ((xs.drop o).take l.length)) w:=by
 obtain⟨d,hd⟩:=q9w h
 unfold part mkV
 cases g:qiq P t with
 | true =>
  have m:(isAgg t).run P w = .ok true w:=by
   unfold qiq at g;unfold isAgg;simp only[Sem.run_bind,run_underlying hd,Result.andThen_ok];rw[hd] at g;cases d<;>simp at g ⊢
  simp only[Sem.run_bind,m,Result.andThen_ok,if_true,qss z,Sem.run_pure];congr 2;apply Array.ext';rw[v];simp[List.extract_eq_take_drop,List.take_drop]
 | false =>
  have m:(isAgg t).run P w = .ok false w:=by
   unfold qiq at g;unfold isAgg;simp only[Sem.run_bind,run_underlying hd,Result.andThen_ok];rw[hd] at g;cases d<;>simp at g ⊢
  obtain⟨k,rfl⟩:=q52 h g;have q:o<xs.length:=by simp at C;omega
  have D:xs.toArray[o]? = some xs[o]:=by simp[q]
  simp only[Sem.run_bind,m,Result.andThen_ok,Bool.false_eq_true,if_false,D,Sem.run_pure];congr 1;rw[List.drop_eq_getElem_cons q];rfl
theorem zgm{a b c d:List Value}(h:a.length=b.length):a++c=b++d↔a=b∧c=d :=
 ⟨fun e=>List.append_inj e h,fun⟨e,f⟩=>by rw[e,f]⟩
theorem qmb{rec:TypeId→Option (List Leaf)}{d:Nat}{xs q:List Value}
  (m:∀t l,rec t=some l→P.cellsOf t=l.length→∀o,o+l.length≤xs.length→(part t xs.toArray o).run P=(fun w=> .ok (mkV P t ((xs.drop o).take l.length)) w)∧(part t q.toArray o).run P=(fun w=> .ok (mkV P t ((q.drop o).take l.length)) w))
  (v:∀t l,rec t=some l→∀a b,qeq l a→qeq l b→∀r:Bool,(r=true↔a=b)→∀w,(Op.equalIn d t (mkV P t a) (mkV P t b)).run P w = .ok r w) :
  ∀(z:List Field) (o:Nat) (L:List Leaf),qbv P rec o z=some L→(∀f∈z,f.name≠"_")→xs.length=o+L.length→q.length=o+L.length→qeq L (xs.drop o)→qeq L (q.drop o) →
   ∀r:Bool,(r=true↔xs.drop o=q.drop o)→∀w,(Op.eqFields d xs.toArray q.toArray z).run P w = .ok r w
 | [],o,L,h,_,J,K,_,_,r,D,w=>by
  simp only[qbv,Option.some.injEq] at h;subst h;have:r=true:=D.2 (by rw[List.drop_eq_nil_of_le (by simp at J;omega),List.drop_eq_nil_of_le (by simp at K;omega)]);subst this;rfl
 | f::z,o,L,h,R,J,K,V,W,r,D,w=>by
  unfold qbv at h;cases C:rec f.type with
  | none=>rw[C] at h;cases h
  | some l =>
   rw[C] at h;simp only at h;split at h
   ·rename_i Y;obtain⟨ho,hk⟩:=Y;rw[Option.map_eq_some_iff] at h;obtain⟨M,X,rfl⟩:=h;rw[List.length_append] at J K;obtain⟨a,T,ea,E,F⟩:=V.split;obtain⟨b,U,eb,H,I⟩:=W.split;have la:=E.len;have lb:=H.len;have ta:(xs.drop o).take l.length=a:=by rw[ea,←la];simp
    have tb:(q.drop o).take l.length=b:=by rw[eb,←lb];simp
    have N:xs.drop (o+l.length)=T:=by rw[←List.drop_drop,ea,←la];simp
    have O:q.drop (o+l.length)=U:=by rw[←List.drop_drop,eb,←lb];simp
    obtain⟨p1,p2⟩:=m f.type l C hk o (by omega);unfold Op.eqFields;rw[if_pos (R f (List.mem_cons_self ..)),ho];simp only[Sem.run_bind,p1,p2,Result.andThen_ok,ta,tb];rw[ea,eb,zgm (by rw[la,lb])] at D;by_cases i:a=b
    ·rw[v f.type l C a b E H true (by simp[i]) w];simp only[Result.andThen_ok,Bool.not_true,Bool.false_eq_true,if_false];refine qmb m v z (o+l.length) M X (fun g Z=>R g (List.mem_cons_of_mem _ Z)) (by omega) (by omega) (by rw[N];exact F) (by rw[O];exact I) r ?_ w;rw[N,O,D];simp[i]
    ·rw[v f.type l C a b E H false (by simp[i]) w];have:r=false:=by
      cases r with
      | false=>rfl
      | true=>exact absurd (D.1 rfl).1 i
     subst this;simp
   ·cases h
theorem qhj:∀(n d:Nat) (t:TypeId) (l:List Leaf) (xs C:List Value),n≤d→eqB P n t=true→qde P n t=some l→qeq l xs→qeq l C→∀r:Bool,(r=true↔xs=C)→∀w,(Op.equalIn d t (mkV P t xs) (mkV P t C)).run P w = .ok r w
 | 0,_,_,_,_,_,_,h,_,_,_,_,_,_=>by cases h
 | n+1,d,t,l,xs,C,hd,N,h,K,M,r,O,w=>by
  obtain⟨d,rfl⟩:∃d',d=d'+1:=⟨d-1,by omega⟩;have a6:=h;unfold qde at h;split at h
  ·rename_i q;simp only[Option.some.injEq] at h;subst h;obtain⟨_,_,rfl,⟨a,rfl⟩,rfl⟩:=K;obtain⟨_,_,rfl,⟨b,rfl⟩,rfl⟩:=M;have v:qiq P t=false:=by unfold qiq;rw[q]
   unfold mkV;rw[v];simp only[Bool.false_eq_true,if_false,List.headD_cons];rw[run_equalIn_bool' w d t a b q];congr 1;rw[Bool.eq_iff_iff,O];simp
  ·rename_i k q;simp only[Option.some.injEq] at h;subst h;obtain⟨_,_,rfl,⟨a,rfl,_⟩,rfl⟩:=K;obtain⟨_,_,rfl,⟨b,rfl,_⟩,rfl⟩:=M;have v:qiq P t=false:=by unfold qiq;rw[q]
   unfold mkV;rw[v];simp only[Bool.false_eq_true,if_false,List.headD_cons];rw[run_equalIn_int w d t k k a b q];congr 1;rw[Bool.eq_iff_iff,O];simp
  ·rename_i q;simp only[Option.some.injEq] at h;subst h;obtain⟨_,_,rfl,⟨a,rfl,_⟩,rfl⟩:=K;obtain⟨_,_,rfl,⟨b,rfl,_⟩,rfl⟩:=M;have v:qiq P t=false:=by unfold qiq;rw[q]
   unfold mkV;rw[v];simp only[Bool.false_eq_true,if_false,List.headD_cons];rw[run_equalIn_string w d t a b q];congr 1;rw[Bool.eq_iff_iff,O,beq_iff_eq,ByteArray.toList_eq,ByteArray.toList_eq];constructor
   ·intro h;have:a=b:=by
     obtain⟨a⟩:=a;obtain⟨b⟩:=b;exact congrArg ByteArray.mk (Array.ext' h)
    rw[this]
   ·intro h;cases h;rfl
  ·rename_i fs q;split at h
   ·rename_i L W;split at h
    ·rename_i Y;simp only[Option.some.injEq] at h;subst h;unfold eqB at N;rw[q] at N;simp only[Bool.and_eq_true,Bool.not_eq_true'] at N;obtain⟨_,hp,a7⟩:=N;have v:qiq P t=true:=by unfold qiq;rw[q]
     unfold mkV;rw[v];simp only[if_true];have Z:P.fieldsOf t=fs:=by unfold Program.fieldsOf;rw[q]
     rw[run_equalIn_struct w d t _ _ (by rw[Z];exact q) hp,Z];have hx:=K.len;have hy:=M.len;have a4:∀f∈fs.toList,f.name≠"_"∧eqB P n f.type=true:=fun f T=>by
      have:=List.all_eq_true.1 a7 f T;simpa using this
     refine qmb (rec:=fun t=>if eqB P n t then qde P n t else none) (fun t' l' D h2 o ho=> ?_) (fun t' l' D a b fa fb r O w=> ?_) fs.toList 0 L ?_ (fun f T=>(a4 f T).1) (by omega) (by omega) K M r O w
     ·by_cases F:eqB P n t'=true
      ·rw[if_pos F] at D;obtain⟨i,z⟩:=qyk F;exact⟨funext fun w=>qn4 D h2 z xs o ho w,funext fun w=>qn4 D h2 z C o (by omega) w⟩
      ·rw[if_neg F] at D;cases D
     ·by_cases F:eqB P n t'=true
      ·rw[if_pos F] at D;exact qhj n d t' l' a b (by omega) F D fa fb r O w
      ·rw[if_neg F] at D;cases D
     ·have key:∀(V:List Field) (o:Nat),(∀f∈V,eqB P n f.type=true)→qbv P (fun t=>if eqB P n t then qde P n t else none) o V=qbv P (qde P n) o V:=by
       intro V
       induction V with
       | nil=>intro o _;rfl
       | cons g V X =>
        intro o hg;unfold qbv;rw[if_pos (hg g (List.mem_cons_self ..))];cases qde P n g.type with
        | none=>rfl
        | some l=>simp only[X _ fun f T=>hg f (List.mem_cons_of_mem _ T)]
      rw[key fs.toList 0 fun f T=>(a4 f T).2];exact W
    ·cases h
   ·cases h
  ·rename_i m e q;split at h
   ·rename_i L W;split at h
    ·rename_i Y;simp only[Option.some.injEq] at h;subst h;unfold eqB at N;rw[q] at N;simp only[Bool.and_eq_true] at N;obtain⟨_,R⟩:=N;obtain⟨ie,U⟩:=qyk R;have v:qiq P t=true:=by unfold qiq;rw[q]
     unfold mkV;rw[v];simp only[if_true];have a5:((List.replicate m L).flatten).length=m*L.length:=by simp
     have hx:=K.len;have hy:=M.len;rw[a5] at hx hy;have I:∀(m:Nat) (zs:List Value),qeq (List.replicate m L).flatten zs→∀i,i<m→qeq L ((zs.drop (i*L.length)).take L.length):=by
      intro m
      induction m with
      | zero=>intro zs _ i z;omega
      | succ m X =>
       intro zs hz i z;rw[List.replicate_succ,List.flatten_cons] at hz;obtain⟨a,b,rfl,v,F⟩:=hz.split;cases i with
       | zero=>rw[Nat.zero_mul,List.drop_zero,←v.len,List.take_left];exact v
       | succ i =>
        have:=X b F i (by omega);rw[Nat.succ_mul,Nat.add_comm,←List.drop_drop,←v.len,List.drop_left];rw[v.len];exact this
     have J:(r=true↔∀i∈List.range' 0 m 1,(xs.drop (i*L.length)).take L.length=(C.drop (i*L.length)).take L.length):=by
      rw[O];constructor
      ·rintro rfl i _;rfl
      ·intro H;rw[qq6 L.length m xs hx,qq6 L.length m C hy];congr 1;apply List.map_congr_left;intro i z;exact H i (by simpa using List.mem_range.1 z)
     unfold Op.equalIn;simp only[Sem.run_bind,run_underlying q,Result.andThen_ok,qss U,Std.Legacy.Range.forIn_eq_forIn_range',Std.Legacy.Range.size,Nat.sub_zero,Nat.add_sub_cancel,Nat.div_one];have hl:∀i∈List.range' 0 m 1,i<m:=fun i z=>by simpa using (List.mem_range'_1.1 z).2
     clear O;generalize List.range' 0 m 1=is at hl J ⊢
     induction is with
     | nil =>
      have:r=true:=J.2 (by simp);subst this;simp
     | cons i is X =>
      have z:i<m:=hl i (by simp);have a8:i*L.length+L.length≤m*L.length:=by have:=Nat.mul_le_mul_right L.length (show i+1≤m from z);rw[Nat.succ_mul] at this;exact this
      rw[Y.1];rw[Y.1] at X;have px:=qn4 W Y.1 U xs (i*L.length) (by omega) w;have py:=qn4 W Y.1 U C (i*L.length) (by omega) w;simp only[List.forIn_cons,Sem.run_bind,px,py,Result.andThen_ok];by_cases E:(xs.drop (i*L.length)).take L.length=(C.drop (i*L.length)).take L.length
      ·rw[qhj n d e L _ _ (by omega) R W (I m xs K i z) (I m C M i z) true (by simp[E]) w];simp only[Result.andThen_ok,Bool.not_true,Bool.false_eq_true,if_false,Sem.run_pure];refine X (fun j hj=>hl j (by simp[hj])) ?_;rw[J];simp[E]
      ·rw[qhj n d e L _ _ (by omega) R W (I m xs K i z) (I m C M i z) false (by simp[E]) w];have:r=false:=by
        cases r with
        | false=>rfl
        | true=>exact absurd (J.1 rfl i (by simp)) E
       subst this;simp
    ·cases h
   ·cases h
  ·cases h
theorem qn2(n:Nat){t:TypeId}{l:List Leaf}(z:n≤10000)(q:eqB P n t=true)(v:qde P n t=some l)(o:qiq P t=true){xs g:List Value}(i:qeq l xs)(m:qeq l g)(r:Bool)(C:r=true↔xs=g)(w:World) :
  (binOp .eql t (.agg xs.toArray) (.agg g.toArray)).run P w = .ok (.bool r) w:=by
 have:=qhj n 10000 t l xs g z q v i m r C w
 unfold mkV at this
 rw[o] at this
 simp only[if_true] at this
 rw[run_eql_struct,this]
 rfl
theorem qxd(n:Nat){t:TypeId}{l:List Leaf}(z:n≤10000)(q:eqB P n t=true)(v:qde P n t=some l)(o:qiq P t=true){xs g:List Value}(i:qeq l xs)(m:qeq l g)(r:Bool)(C:r=true↔xs=g)(w:World) :
  (binOp .neq t (.agg xs.toArray) (.agg g.toArray)).run P w = .ok (.bool (!r)) w:=by
 have:=qhj n 10000 t l xs g z q v i m r C w
 unfold mkV at this
 rw[o] at this
 simp only[if_true] at this
 rw[run_neq_struct,this]
 rfl
end
end Go.Proofs.YthnohmjbbeahmaaGreatDoor
namespace Go.Proofs.YthnohmjbbeahmaaGreatDoor
open Go.RowKit
def qal(h:List Int):Prop:=∀b∈h,0≤b∧b≤255
theorem Tryz.flatHsh:qde Tryz.prog 5 33=some (List.replicate 32 (.int .u8)):=by kernel_rfl
theorem Tryz.eqHsh:eqB Tryz.prog 5 33=true:=by kernel_rfl
theorem Tryz.aggHsh:qiq Tryz.prog 33=true:=by kernel_rfl
theorem zey{x:Int}(h:0≤x∧x≤255):(Lit.int .u8 x).wf=true:=by
 simp[Lit.wf,IntKind.min,IntKind.max,IntKind.signed,IntKind.bits];omega
theorem qrx(k:IntKind):∀(l:List Int),(∀x∈l,(Lit.int k x).wf=true)→qeq (List.replicate l.length (.int k)) (l.map (Value.int k))
 | [],_=>rfl
 | x::l,h=>⟨_,_,rfl,⟨_,rfl,h x (List.mem_cons_self ..)⟩,qrx k l fun y g=>h y (List.mem_cons_of_mem _ g)⟩
theorem qk2{h:List Int}(i:h.length=32)(g:qal h):qeq (List.replicate 32 (.int .u8)) (qx h):=by
 have:=qrx .u8 h fun n l=>zey (g n l)
 rwa [i] at this
theorem qk1{a b:List Int}(h:qx a=qx b):a=b:=by
 unfold qx at h;exact(List.map_inj_right (fun x y e=>by injection e)).1 h
def zfn(x y:Value):Sem Value:=binOp .neq 33 x y
theorem qlb(x y:Value):binOp .neq 33 x y=zfn x y:=rfl
theorem zba{a b:List Int}(i:a.length=32)(l:b.length=32)(ba:qal a)(g:qal b)(w:World):(zfn (.agg (qx a).toArray) (.agg (qx b).toArray)).run Tryz.prog w = .ok (.bool (a != b)) w:=by
 have:=qxd 5 (by decide) Tryz.eqHsh Tryz.flatHsh Tryz.aggHsh (qk2 i ba) (qk2 l g) (a==b) (by constructor<;>intro e<;>simp_all [qk1];exact qk1 e) w;exact this
def eqHsh(x y:Value):Sem Value:=binOp .eql 33 x y
theorem qyl(x y:Value):binOp .eql 33 x y=eqHsh x y:=rfl
theorem zgn{a b:List Int}(i:a.length=32)(l:b.length=32)(ba:qal a)(g:qal b)(w:World):(eqHsh (.agg (qx a).toArray) (.agg (qx b).toArray)).run Tryz.prog w = .ok (.bool (a==b)) w:=by
 have:=qn2 5 (by decide) Tryz.eqHsh Tryz.flatHsh Tryz.aggHsh (qk2 i ba) (qk2 l g) (a==b) (by constructor<;>intro e<;>simp_all [qk1];exact qk1 e) w;exact this
theorem qx8(h:List Int)(n:Nat):qal (qhh h n):=by
 induction n with
 | zero=>intro x g;rw[qjp] at g;have:=List.eq_of_mem_replicate g;omega
 | succ n i =>
  intro x g;rw[qjo] at g;rcases List.mem_or_eq_of_mem_set g with h | rfl
  ·exact i x h
  ·unfold byI;omega
theorem qhu(s:ByteArray):qal (qgs s):=qx8 _ _
theorem qc6:qal zv:=by
 intro b g;have:=List.eq_of_mem_replicate g;omega
end Go.Proofs.YthnohmjbbeahmaaGreatDoor
