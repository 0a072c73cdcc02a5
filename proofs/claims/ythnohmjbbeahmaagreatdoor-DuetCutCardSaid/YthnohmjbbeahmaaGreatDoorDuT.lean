/-
  Law 14: does, walked, kind by kind (printed by tools/mk_dut.py).
-/
import Derived.Test.YthnohmjbbeahmaaGreatDoorDuS
import Derived.Test.YthnohmjbbeahmaaGreatDoorMec
import Derived.Test.YthnohmjbbeahmaaGreatDoorDuE
import Derived.Deep.Upon
set_option linter.unusedVariables false
set_option linter.unusedSimpArgs false
namespace Go.Proofs.YthnohmjbbeahmaaGreatDoor
open Go.RowKit
structure ActD where
 kind:Int
 side:Int
 expiry:Int
 n:Int
 id:Int
 p:Int
 l0:Int
 l1:Int
def ActD.cells(x:ActD):List Value:=[.int .i64 x.kind,.int .i64 x.side,.int .i64 x.expiry,.int .u64 x.n,.int .u64 x.id,.int .u8 x.p,.int .i64 x.l0,.int .i64 x.l1]
structure ActD.Ok(x:ActD):Prop where
 kind : -9223372036854775808≤x.kind∧x.kind≤9223372036854775807
 side : -9223372036854775808≤x.side∧x.side≤9223372036854775807
 expiry : -9223372036854775808≤x.expiry∧x.expiry≤9223372036854775807
 n:0≤x.n∧x.n<18446744073709551616
 id:0≤x.id∧x.id<18446744073709551616
 p:0≤x.p∧x.p≤255
 l0 : -9223372036854775808≤x.l0∧x.l0≤9223372036854775807
 l1 : -9223372036854775808≤x.l1∧x.l1≤9223372036854775807
def ActD.k(x:ActD):Nat:=sd x.side
noncomputable def Pr.doesD(P:Pr)(x:ActD):Pr :=
 if x.kind=0∨x.kind=1 then P.act x.k ((P.en x.k).offer x.n (qcl (ofI (qb4 x.p))) x.expiry)
 else if x.kind=2 then P.act x.k ((P.en x.k).fulfill x.id (qb4 x.p))
 else if x.kind=3 then P.act x.k ((P.en x.k).fail x.id x.expiry)
 else if x.kind=4∨x.kind=5 then P.act x.k (P.en x.k).sign
 else if x.kind=6∨x.kind=7∨x.kind=8 then (P.heard x.k).1
 else if x.kind=9 then P.act x.k (P.en x.k).shut
 else if x.kind=10 then P.cutD x.l0 x.l1
 else if x.kind=11 then P.restD
 else P
abbrev qk3(B:Nat)(x:ActD)(w:World):Prop:=w.cell? ⟨B,1,none⟩=some (.int .i64 x.side)∧w.cell? ⟨B,2,none⟩=some (.int .i64 x.expiry)∧w.cell? ⟨B,3,none⟩=some (.int .u64 x.n)∧w.cell? ⟨B,4,none⟩=some (.int .u64 x.id)∧w.cell? ⟨B,5,none⟩=some (.int .u8 x.p)
theorem qk3.new{w w':World}{B:Nat}{x:ActD}(h:qk3 B x w)(n:qq w w'):qk3 B x w':=⟨n.cell h.1 (fun h=>h),n.cell h.2.1 (fun h=>h),n.cell h.2.2.1 (fun h=>h),n.cell h.2.2.2.1 (fun h=>h),n.cell h.2.2.2.2 (fun h=>h)⟩
theorem qiz{w:World}{B:Nat}{x:ActD}(h:w.heap[B]? = some (.cells x.cells.toArray 50 (0,0))):w.cell? ⟨B,0,none⟩=some (.int .i64 x.kind)∧qk3 B x w∧w.cell? ⟨B,6,none⟩=some (.int .i64 x.l0)∧w.cell? ⟨B,7,none⟩=some (.int .i64 x.l1) :=
 ⟨qh h 0,⟨qh h 1,qh h 2,qh h 3,qh h 4,qh h 5⟩,qh h 6,qh h 7⟩
section
attribute [local go_sem] zb
set_option maxRecDepth 100000 in
set_option maxHeartbeats 2000000 in
theorem qpc{w0 w:World}{p:Nat}{S:Nat→Prop}{P:Pr}(h:DuD w0 w p S P)(k:Int)(m:Nat)(t:sd k=m)(N:P.way m=[]) :
  Calls Tryz.prog 22 #[.pointer (some ⟨p,0,none⟩),.int .i64 k] w fun e w'=>(∃a c,e = .returned (.slice a 0 c))∧qq w w':=by
 have M:m<2:=t▸qeo k
 obtain⟨g,T,u,D⟩:=h
 have z:=fun W=>qgu k W
 rw[t] at z
 have y:=D.row m M
 rw[N] at y
 obtain⟨v,l,F,H⟩:∃v l,u m = .slice v 0 l∧(v=none→l=0):=by
  rcases y with ⟨e,-⟩ | ⟨gb,o,cap,V,e,-⟩
  ·exact⟨_,_,e,fun _=>rfl⟩
  ·exact⟨_,_,e,fun h=>by cases h⟩
 have c:=D.cellW M
 rw[F] at c
 have Y:(m:Int)<2:=by omega
 have i:∀W,Calls Tryz.prog 46 #[.slice v 0 l] W fun e w'=>(∃a c,e = .returned (.slice a 0 c))∧qq W w':=by
  intro W;clear c z y F;cases v with
  | none =>
   obtain rfl:=H rfl;go_enter Tryz.func46,Tryz.ntmps46;have L:=fun(w:World)=>run_eql_slice_nil (P:=Tryz.prog) w 58 _ none 0 0 Tryz.underlying58
   go_wp2;go_ret;exact⟨⟨_,_,rfl⟩,Upd.refl _ _⟩
  | some C =>
   go_enter Tryz.func46,Tryz.ntmps46;have J:∀(w:World) (b:Option Addr) (x:Nat),(Builtin.append_ #[58,58] 58 #[.slice b 0 x,.slice (some C) 0 l]).run Tryz.prog w = .ok (.slice b 0 x) w:=by
    intro w b x;obtain⟨i9,z9,b9,E,a6,Z,a4,a5,X⟩:=qok;exact run_append_nothing w 58 58 58 71 i9 Tryz.underlying58 E b 0 x (Nat.zero_le _) _ (Src.ofSlice w Tryz.underlying58 C 0 l [] (by simp) (fun j u h=>by simp at h) (fun u h=>by cases h))
   have L:=fun(w:World)=>run_eql_slice_nil (P:=Tryz.prog) w 58 _ (some C) 0 l Tryz.underlying58
   simp only[Option.isNone_some] at L;go_wp2;go_ret;exact⟨⟨_,_,rfl⟩,(Upd.refl _ _).alloc _⟩
 clear D y F N
 go_enter Tryz.func22,Tryz.ntmps22
 go_wp2_with (with_reducible first|(first|refine' zi (qg ?_) ?_|refine' zj (qg ?_) ?_);rotate_left|refine' zk (qg ?_)|rfl|apply tn|refine' zl ?_)
 refine(z _).mono ?_
 rintro e w1 ⟨rfl,q⟩
 have I:qq w w1:=q.ofDrew.upd _
 have c1:=I.cell c (fun h=>h)
 have R:=qb I
 clear z q I c
 go_wp2_with (with_reducible first|(first|refine' zi (qg ?_) ?_|refine' zj (qg ?_) ?_);rotate_left|refine' zk (qg ?_)|rfl|apply tn|refine' zl ?_)
 refine(i _).mono ?_
 rintro e w2 ⟨⟨a,c,rfl⟩,O⟩
 have U:=qb O
 clear O
 go_wp2_with (with_reducible first|(first|refine' zi (qg ?_) ?_|refine' zj (qg ?_) ?_);rotate_left|refine' zk (qg ?_)|rfl|apply tn|refine' zl ?_)
 go_ret
 exact⟨⟨a,c,rfl⟩,(qa R).trans (qa U)⟩
end
section
variable {w0 w:World}{p:Nat}{S:Nat→Prop}{K:Kon}{n:Nat}{P:Pr}
attribute [local go_sem ↓ high] qab
attribute [local go_sem] qcr zb
set_option maxRecDepth 100000 in
set_option maxHeartbeats 4000000 in
theorem q24(W:Tb w0)(t:K.Ok)(Y:n<59000)(m:PInv K n P)(h:DuD w0 w p S P)(x:ActD)(Z:x.Ok)(g:x.kind=4∨x.kind=5) :
  Calls Tryz.prog 20 #[.pointer (some ⟨p,0,none⟩),.agg x.cells.toArray] w fun e w'=>e = .returned (.int .i64 0)∧DSt w0 w p S w' (P.doesD x):=by
 have y:x.k<2:=qeo _
 have v:P.doesD x=P.act x.k (P.en x.k).sign:=by unfold Pr.doesD;rw[if_neg (by omega),if_neg (by omega),if_neg (by omega),if_pos g]
 have i:=m.few
 have z:(P.way (1-x.k)).length<1000000:=by rcases qbk y with e | e<;>rw[e];exact Nat.lt_of_le_of_lt i.2 (by decide);exact Nat.lt_of_le_of_lt i.1 (by decide)
 have hok:=(m.end t (by omega) y).sign t (by omega)
 have C:=(m.sign t y).2
 have H:=qb h
 go_enter Tryz.func20,Tryz.ntmps20
 go_upto_region 1 with fail
 have o:qq w (w.alloc (.cells x.cells.toArray 50)):=(Upd.refl _ _).alloc _
 have l:=qi w (.cells x.cells.toArray 50)
 generalize w.alloc (.cells x.cells.toArray 50)=w1 at o l ⊢
 have q:¬S w.heap.size:=fun e=>by have:=(h.lt _ e).2;omega
 generalize w.heap.size=B at l q ⊢
 obtain⟨J,⟨L,M,O,R,T⟩,U,V⟩:=qiz l
 have I:=qb o
 have E:=qpb W (h.new o) x.side x.k rfl hok C z
 clear h m o l
 obtain⟨kd,X,ex,N,id,pb,l0,l1⟩:=x
 simp only at g J L M O R T U V
 rcases g with rfl | rfl
 all_goals
  go_wp2_with (with_reducible first|(first|refine' zi (qg ?_) ?_|refine' zj (qg ?_) ?_);rotate_left|refine' zk (qg ?_)|rfl|apply tn|refine' zl ?_);refine E.mono ?_;rintro e w2 ⟨rfl,D⟩;have F:=qb (DSt.after (qa H) (qa I) D);clear E D;go_wp2_with (with_reducible first|(first|refine' zi (qg ?_) ?_|refine' zj (qg ?_) ?_);rotate_left|refine' zk (qg ?_)|rfl|apply tn|refine' zl ?_);go_ret;rw[v];exact⟨rfl,qa F⟩
set_option maxRecDepth 100000 in
set_option maxHeartbeats 4000000 in
theorem q23(W:Tb w0)(V:K.Ok)(Y:n<59000)(q:PInv K n P)(h:DuD w0 w p S P)(x:ActD)(Z:x.Ok)(g:x.kind=9) :
  Calls Tryz.prog 20 #[.pointer (some ⟨p,0,none⟩),.agg x.cells.toArray] w fun e w'=>e = .returned (.int .i64 0)∧DSt w0 w p S w' (P.doesD x):=by
 have C:x.k<2:=qeo _
 have t:P.doesD x=P.act x.k (P.en x.k).shut:=by unfold Pr.doesD;rw[if_neg (by omega),if_neg (by omega),if_neg (by omega),if_neg (by omega),if_neg (by omega),if_pos g]
 have i:=q.few
 have v:(P.way (1-x.k)).length<1000000:=by rcases qbk C with e | e<;>rw[e];exact Nat.lt_of_le_of_lt i.2 (by decide);exact Nat.lt_of_le_of_lt i.1 (by decide)
 have y:=(q.shut V C).2
 have H:=qb h
 go_enter Tryz.func20,Tryz.ntmps20
 go_upto_region 1 with fail
 have m:qq w (w.alloc (.cells x.cells.toArray 50)):=(Upd.refl _ _).alloc _
 have l:=qi w (.cells x.cells.toArray 50)
 generalize w.alloc (.cells x.cells.toArray 50)=w1 at m l ⊢
 have o:¬S w.heap.size:=fun e=>by have:=(h.lt _ e).2;omega
 generalize w.heap.size=B at l o ⊢
 obtain⟨I,⟨J,L,M,O,R⟩,T,U⟩:=qiz l
 have F:=qb m
 have D:=q7i W (h.new m) x.side x.k rfl y v
 clear h q m l
 obtain⟨kd,X,ex,N,id,pb,l0,l1⟩:=x
 simp only at g I J L M O R T U
 subst g
 all_goals
  go_wp2_with (with_reducible first|(first|refine' zi (qg ?_) ?_|refine' zj (qg ?_) ?_);rotate_left|refine' zk (qg ?_)|rfl|apply tn|refine' zl ?_);refine D.mono ?_;rintro e w2 ⟨rfl,z⟩;have E:=qb (DSt.after (qa H) (qa F) z);clear D z;go_wp2_with (with_reducible first|(first|refine' zi (qg ?_) ?_|refine' zj (qg ?_) ?_);rotate_left|refine' zk (qg ?_)|rfl|apply tn|refine' zl ?_);go_ret;rw[t];exact⟨rfl,qa E⟩
set_option maxRecDepth 100000 in
set_option maxHeartbeats 4000000 in
theorem q20(X:Tb w0)(E:K.Ok)(Z:n<59000)(m:PInv K n P)(h:DuD w0 w p S P)(x:ActD)(hx:x.Ok)(g:x.kind=3) :
  Calls Tryz.prog 20 #[.pointer (some ⟨p,0,none⟩),.agg x.cells.toArray] w fun e w'=>e = .returned (.int .i64 0)∧DSt w0 w p S w' (P.doesD x):=by
 have v:x.k<2:=qeo _
 have t:P.doesD x=P.act x.k ((P.en x.k).fail x.id x.expiry):=by unfold Pr.doesD;rw[if_neg (by omega),if_neg (by omega),if_pos g]
 have i:=m.few
 have y:(P.way (1-x.k)).length<1000000:=by rcases qbk v with e | e<;>rw[e];exact Nat.lt_of_le_of_lt i.2 (by decide);exact Nat.lt_of_le_of_lt i.1 (by decide)
 have z:=(m.fail E v x.id x.expiry).2
 have C:(P.en x.k).news.length<1000000:=by have:=(m.end E (by omega) v).news;omega
 have H:=qb h
 go_enter Tryz.func20,Tryz.ntmps20
 go_upto_region 1 with fail
 have o:qq w (w.alloc (.cells x.cells.toArray 50)):=(Upd.refl _ _).alloc _
 have l:=qi w (.cells x.cells.toArray 50)
 generalize w.alloc (.cells x.cells.toArray 50)=w1 at o l ⊢
 have q:¬S w.heap.size:=fun e=>by have:=(h.lt _ e).2;omega
 generalize w.heap.size=B at l q ⊢
 obtain⟨L,⟨M,O,R,T,U⟩,V,W⟩:=qiz l
 have J:=qb o
 have F:=q7g X (h.new o) x.side x.k rfl x.id x.expiry C z y
 clear h m o l
 obtain⟨kd,Y,ex,N,id,pb,l0,l1⟩:=x
 simp only at g L M O R T U V W
 subst g
 all_goals
  go_wp2_with (with_reducible first|(first|refine' zi (qg ?_) ?_|refine' zj (qg ?_) ?_);rotate_left|refine' zk (qg ?_)|rfl|apply tn|refine' zl ?_);refine F.mono ?_;rintro e w2 ⟨rfl,D⟩;have I:=qb (DSt.after (qa H) (qa J) D);clear F D;go_wp2_with (with_reducible first|(first|refine' zi (qg ?_) ?_|refine' zj (qg ?_) ?_);rotate_left|refine' zk (qg ?_)|rfl|apply tn|refine' zl ?_);go_ret;rw[t];exact⟨rfl,qa I⟩
set_option maxRecDepth 100000 in
set_option maxHeartbeats 4000000 in
theorem q22(R:Tb w0)(O:K.Ok)(W:n<59000)(o:PInv K n P)(h:DuD w0 w p S P)(x:ActD)(X:x.Ok)(g:x.kind=11) :
  Calls Tryz.prog 20 #[.pointer (some ⟨p,0,none⟩),.agg x.cells.toArray] w fun e w'=>e = .returned (.int .i64 0)∧DSt w0 w p S w' (P.doesD x):=by
 have V:x.k<2:=qeo _
 have q:P.doesD x=P.restD:=by unfold Pr.doesD;rw[if_neg (by omega),if_neg (by omega),if_neg (by omega),if_neg (by omega),if_neg (by omega),if_neg (by omega),if_neg (by omega),if_pos g]
 have T:=o.mu
 have H:=qb h
 go_enter Tryz.func20,Tryz.ntmps20
 go_upto_region 1 with fail
 have l:qq w (w.alloc (.cells x.cells.toArray 50)):=(Upd.refl _ _).alloc _
 have i:=qi w (.cells x.cells.toArray 50)
 generalize w.alloc (.cells x.cells.toArray 50)=w1 at l i ⊢
 have m:¬S w.heap.size:=fun e=>by have:=(h.lt _ e).2;omega
 generalize w.heap.size=B at i m ⊢
 obtain⟨C,⟨D,E,F,I,J⟩,L,M⟩:=qiz i
 have z:=qb l
 have v:=qhk R O (N:=n+P.mu) (by omega) (h.new l) (Bnd.of o)
 clear h o l i
 obtain⟨Y,U,ex,N,id,Z,l0,l1⟩:=x
 simp only at g C D E F I J L M
 subst g
 all_goals
  go_wp2_with (with_reducible first|(first|refine' zi (qg ?_) ?_|refine' zj (qg ?_) ?_);rotate_left|refine' zk (qg ?_)|rfl|apply tn|refine' zl ?_);refine v.mono ?_;rintro e w2 ⟨rfl,t⟩;have y:=qb (DSt.after (qa H) (qa z) t);clear v t;go_wp2_with (with_reducible first|(first|refine' zi (qg ?_) ?_|refine' zj (qg ?_) ?_);rotate_left|refine' zk (qg ?_)|rfl|apply tn|refine' zl ?_);go_ret;rw[q];exact⟨rfl,qa y⟩
set_option maxRecDepth 100000 in
set_option maxHeartbeats 4000000 in
theorem q7h(V:Tb w0)(U:K.Ok)(Y:n<59000)(y:PInv K n P)(h:DuD w0 w p S P)(x:ActD)(C:x.Ok)(g:x.kind=10) :
  Calls Tryz.prog 20 #[.pointer (some ⟨p,0,none⟩),.agg x.cells.toArray] w fun e w'=>e = .returned (.int .i64 0)∧DSt w0 w p S w' (P.doesD x):=by
 have X:x.k<2:=qeo _
 have o:P.doesD x=P.cutD x.l0 x.l1:=by unfold Pr.doesD;rw[if_neg (by omega),if_neg (by omega),if_neg (by omega),if_neg (by omega),if_neg (by omega),if_neg (by omega),if_pos g]
 have q:=C.l0
 have t:=C.l1
 have H:=qb h
 go_enter Tryz.func20,Tryz.ntmps20
 go_upto_region 1 with fail
 have l:qq w (w.alloc (.cells x.cells.toArray 50)):=(Upd.refl _ _).alloc _
 have i:=qi w (.cells x.cells.toArray 50)
 generalize w.alloc (.cells x.cells.toArray 50)=w1 at l i ⊢
 have m:¬S w.heap.size:=fun e=>by have:=(h.lt _ e).2;omega
 generalize w.heap.size=B at i m ⊢
 obtain⟨F,⟨I,J,L,M,O⟩,R,T⟩:=qiz i
 have E:=qb l
 have z:=qry V U (by omega) y (h.new l) x.l0 x.l1 q t
 clear h y l i
 obtain⟨Z,W,ex,N,id,pb,l0,l1⟩:=x
 simp only at g F I J L M O R T
 subst g
 all_goals
  go_wp2_with (with_reducible first|(first|refine' zi (qg ?_) ?_|refine' zj (qg ?_) ?_);rotate_left|refine' zk (qg ?_)|rfl|apply tn|refine' zl ?_);refine z.mono ?_;rintro e w2 ⟨rfl,v⟩;have D:=qb (DSt.after (qa H) (qa E) v);clear z v;go_wp2_with (with_reducible first|(first|refine' zi (qg ?_) ?_|refine' zj (qg ?_) ?_);rotate_left|refine' zk (qg ?_)|rfl|apply tn|refine' zl ?_);go_ret;rw[o];exact⟨rfl,qa D⟩
set_option maxRecDepth 100000 in
set_option maxHeartbeats 4000000 in
theorem qzs(hT:Tb w0)(hK:K.Ok)(hn:n<59000)(I:PInv K n P)(h:DuD w0 w p S P)(x:ActD)(hx:x.Ok)(g:x.kind=6∨x.kind=7∨x.kind=8) :
  Calls Tryz.prog 20 #[.pointer (some ⟨p,0,none⟩),.agg x.cells.toArray] w fun e w'=>e = .returned (.int .i64 0)∧DSt w0 w p S w' (P.doesD x):=by
 have Z:x.k<2:=qeo _
 have t:P.doesD x=(P.heard x.k).1:=by unfold Pr.doesD;rw[if_neg (by omega),if_neg (by omega),if_neg (by omega),if_neg (by omega),if_pos g]
 have H:=qb h
 go_enter Tryz.func20,Tryz.ntmps20
 go_upto_region 1 with fail
 have l:qq w (w.alloc (.cells x.cells.toArray 50)):=(Upd.refl _ _).alloc _
 have o:=qi w (.cells x.cells.toArray 50)
 generalize w.alloc (.cells x.cells.toArray 50)=w1 at l o ⊢
 have q:¬S w.heap.size:=fun e=>by have:=(h.lt _ e).2;omega
 generalize w.heap.size=B at o q ⊢
 obtain⟨O,⟨D,R,T,U,V⟩,X,Y⟩:=qiz o
 have M:=qb l
 cases E:P.way x.k with
 | nil =>
  have v:=qp1 (h.new l) x.side x.k rfl E;have J:P.doesD x=P:=by rw[t,qmi Z E]
  have z:=fun(W:World) (hW:DSt w0 w1 p S W P)=>qpc hW.1 x.side x.k rfl E
  clear h I o;obtain⟨kd,C,ex,N,id,pb,l0,l1⟩:=x;simp only at g O D R T U V X Y;rcases g with rfl | rfl | rfl
  all_goals
   go_wp2_with (with_reducible first|(first|refine' zi (qg ?_) ?_|refine' zj (qg ?_) ?_);rotate_left|refine' zk (qg ?_)|rfl|apply tn|refine' zl ?_);refine v.mono ?_;rintro e w2 ⟨rfl,i⟩;have y:=z _ i;have L:=qb i;clear v i z l;have a4:w2.cell? ⟨B,1,none⟩=some (.int .i64 C):=(qa L).2.cell D q;clear D;go_wp2_with (with_reducible first|(first|refine' zi (qg ?_) ?_|refine' zj (qg ?_) ?_);rotate_left|refine' zk (qg ?_)|rfl|apply tn|refine' zl ?_);refine y.mono ?_;rintro e w3 ⟨⟨a,c,rfl⟩,n3⟩;have F:=qb ((DSt.after (qa H) (qa M) (qa L)).then (qa H).n.size (qa H).lt n3);clear y n3;go_wp2_with (with_reducible first|(first|refine' zi (qg ?_) ?_|refine' zj (qg ?_) ?_);rotate_left|refine' zk (qg ?_)|rfl|apply tn|refine' zl ?_);go_ret;rw[J];exact⟨rfl,qa F⟩
 | cons m ms =>
  have v:=qrz hT (h.new l) x.side x.k rfl m ms (q0e hK (by omega) I Z E);clear h I l o;obtain⟨kd,C,ex,N,id,pb,l0,l1⟩:=x;simp only at g O D R T U V X Y;rcases g with rfl | rfl | rfl
  all_goals
   go_wp2_with (with_reducible first|(first|refine' zi (qg ?_) ?_|refine' zj (qg ?_) ?_);rotate_left|refine' zk (qg ?_)|rfl|apply tn|refine' zl ?_);refine v.mono ?_;rintro e w2 ⟨rfl,i⟩;have F:=qb (DSt.after (qa H) (qa M) i);clear v i;go_wp2_with (with_reducible first|(first|refine' zi (qg ?_) ?_|refine' zj (qg ?_) ?_);rotate_left|refine' zk (qg ?_)|rfl|apply tn|refine' zl ?_);go_ret;rw[t];exact⟨rfl,qa F⟩
set_option maxRecDepth 100000 in
set_option maxHeartbeats 4000000 in
theorem qt7(hT:Tb w0)(Z:K.Ok)(hn:n<59000)(D:PInv K n P)(h:DuD w0 w p S P)(x:ActD)(hx:x.Ok)(i:x.kind=2) :
  Calls Tryz.prog 20 #[.pointer (some ⟨p,0,none⟩),.agg x.cells.toArray] w fun e w'=>e = .returned (.int .i64 0)∧DSt w0 w p S w' (P.doesD x):=by
 have L:x.k<2:=qeo _
 have q:P.doesD x=P.act x.k ((P.en x.k).fulfill x.id (qb4 x.p)):=by unfold Pr.doesD;rw[if_neg (by omega),if_pos i]
 have t:=D.few
 have M:(P.way (1-x.k)).length<1000000:=by rcases qbk L with e | e<;>rw[e];exact Nat.lt_of_le_of_lt t.2 (by decide);exact Nat.lt_of_le_of_lt t.1 (by decide)
 have v:=(D.fulfill Z L x.id (qb4 x.p) (qex _) (qh8 _)).2
 have O:(P.en x.k).news.length<1000000:=by have:=(D.end Z (by omega) L).news;omega
 have z:=hx.p
 have H:=qb h
 go_enter Tryz.func20,Tryz.ntmps20
 go_upto_region 1 with fail
 have E:qq w (w.alloc (.cells x.cells.toArray 50)):=(Upd.refl _ _).alloc _
 have C:=qi w (.cells x.cells.toArray 50)
 generalize w.alloc (.cells x.cells.toArray 50)=w1 at E C ⊢
 have J:¬S w.heap.size:=fun e=>by have:=(h.lt _ e).2;omega
 generalize w.heap.size=B at C J ⊢
 obtain⟨c0,⟨T,o,U,V,X⟩,c6,c7⟩:=qiz C
 have N1:=qb E
 have l:=fun(W:World) (n:qq w1 W)=>qn4 hT ((h.new E).new n) x.side x.k rfl x.id (qb4 x.p) (qex _) O v M
 have g:=fun W=>qf0 x.p z W
 have nd:qq w1 w1.drew:=(Upd.refl _ _).drew
 have I:qk3 B x w1.drew:=qk3.new ⟨T,o,U,V,X⟩ nd
 have m:=qb nd
 generalize P.act x.k ((P.en x.k).fulfill x.id (qb4 x.p))=P' at l q
 generalize ((P.en x.k).fulfill x.id (qb4 x.p)).2.2=er at l
 generalize qb4 x.p=K8 at l g
 clear h D E C v nd T o U V X
 obtain⟨kd,R,ex,N,id,pb,l0,l1⟩:=x
 simp only at i c0 z l g
 subst i
 go_upto_region 6 with (with_reducible first|(first|refine' zi (qg ?_) ?_|refine' zj (qg ?_) ?_);rotate_left|refine' zk (qg ?_)|rfl|apply tn|refine' zl ?_)
 refine qcq (qk3 B ⟨2,R,ex,N,id,pb,l0,l1⟩) [2,4] (.of [0,1,2,3,4,5,6,7,8]) (by kernel_rfl) (by kernel_rfl) I ?_
 simp only[Plan.of]
 go_wp2_with (with_reducible first|(first|refine' qw1 (qg ?_) ?_|refine' qw2 (qg ?_) ?_|refine' qw3 (qg ?_) ?_);rotate_left|refine' qw4 (qg ?_)|refine' qw5 (qg ?_)|rfl|apply qn)
 refine(g _).mono ?_
 rintro e w2 ⟨rfl,F⟩
 have o:=qk3.new I F
 have y:=l w2 ((qa m).trans F)
 have N2:=qb (((qa N1).trans (qa m)).trans F)
 clear l g F I
 go_wp2_with (first | (with_reducible first|(first|refine' qw1 (qg ?_) ?_|refine' qw2 (qg ?_) ?_|refine' qw3 (qg ?_) ?_);rotate_left|refine' qw4 (qg ?_)|refine' qw5 (qg ?_)|rfl|apply qn) | refine⟨o,?_⟩)
 refine y.mono ?_
 rintro e w3 ⟨rfl,Y⟩
 have HF:=qb (DSt.after (qa H) (qa N2) Y)
 clear y Y o
 go_wp2_with (with_reducible first|(first|refine' qw1 (qg ?_) ?_|refine' qw2 (qg ?_) ?_|refine' qw3 (qg ?_) ?_);rotate_left|refine' qw4 (qg ?_)|refine' qw5 (qg ?_)|rfl|apply qn)
 go_ret
 rw[q]
 exact⟨rfl,qa HF⟩
set_option maxRecDepth 100000 in
set_option maxHeartbeats 4000000 in
theorem qxe(hT:Tb w0)(T:K.Ok)(hn:n<59000)(q:PInv K n P)(h:DuD w0 w p S P)(x:ActD)(X:x.Ok)(y:x.kind=0) :
  Calls Tryz.prog 20 #[.pointer (some ⟨p,0,none⟩),.agg x.cells.toArray] w fun e w'=>e = .returned (.int .i64 0)∧DSt w0 w p S w' (P.doesD x):=by
 have I:x.k<2:=qeo _
 have t:P.doesD x=P.act x.k ((P.en x.k).offer x.n (qcl (ofI (qb4 x.p))) x.expiry):=by unfold Pr.doesD;rw[if_pos (by omega)]
 have v:=q.few
 have U:(P.way (1-x.k)).length<1000000:=by rcases qbk I with e | e<;>rw[e];exact Nat.lt_of_le_of_lt v.2 (by decide);exact Nat.lt_of_le_of_lt v.1 (by decide)
 have D:=X.n
 have Y:=X.expiry
 have z:=(q.offer T (by omega) I (N:=x.n) (ex:=x.expiry) (hv:=qcl (ofI (qb4 x.p))) D.1 (by rw[qeh (qlx _)];exact qgt _)).2
 have V:(P.en x.k).news.length<1000000∧(P.en x.k).xs.length<1000000:=by have:=(q.end T (by omega) I).news;have:=(q.end T (by omega) I).xs;omega
 have E:=X.p
 have H:=qb h
 go_enter Tryz.func20,Tryz.ntmps20
 go_upto_region 1 with fail
 have J:qq w (w.alloc (.cells x.cells.toArray 50)):=(Upd.refl _ _).alloc _
 have F:=qi w (.cells x.cells.toArray 50)
 generalize w.alloc (.cells x.cells.toArray 50)=w1 at J F ⊢
 have R:¬S w.heap.size:=fun e=>by have:=(h.lt _ e).2;omega
 generalize w.heap.size=B at F R ⊢
 obtain⟨c0,⟨c1,m,o,c4,c5⟩,c6,c7⟩:=qiz F
 have N1:=qb J
 have l:=fun(W:World) (n:qq w1 W)=>qna hT ((h.new J).new n) x.side x.k rfl x.n x.expiry (ofI (qb4 x.p)) (qlx _) (qgt _) D Y V z U
 have i:=fun W=>qf0 x.p E W
 have g:=fun W=>qpl (qb4 x.p) (qex _) W
 have nd:qq w1 w1.drew:=(Upd.refl _ _).drew
 have O:qk3 B x w1.drew:=qk3.new ⟨c1,m,o,c4,c5⟩ nd
 have M:=qb nd
 generalize P.act x.k ((P.en x.k).offer x.n (qcl (ofI (qb4 x.p))) x.expiry)=P' at l t
 generalize ((P.en x.k).offer x.n (qcl (ofI (qb4 x.p))) x.expiry).2.2=er at l
 generalize (qox ((P.en x.k).offer x.n (qcl (ofI (qb4 x.p))) x.expiry)).id=im at l
 generalize ofI (qb4 x.p)=KO at l g
 generalize qb4 x.p=K8 at i g
 clear h q J F z nd c1 m o c4 c5
 obtain⟨kd,a4,ex,N,id,pb,l0,l1⟩:=x
 simp only at y c0 E l i
 subst y
 go_upto_region 4 with (with_reducible first|(first|refine' zi (qg ?_) ?_|refine' zj (qg ?_) ?_);rotate_left|refine' zk (qg ?_)|rfl|apply tn|refine' zl ?_)
 refine qcq (qk3 B ⟨0,a4,ex,N,id,pb,l0,l1⟩) [2,4,10] (.of [0,1,2,3,4,5,6,7,8,9,10,11]) (by kernel_rfl) (by kernel_rfl) O ?_
 simp only[Plan.of]
 go_wp2_with (with_reducible first|(first|refine' qw1 (qg ?_) ?_|refine' qw2 (qg ?_) ?_|refine' qw3 (qg ?_) ?_);rotate_left|refine' qw4 (qg ?_)|refine' qw5 (qg ?_)|rfl|apply qn)
 refine(i _).mono ?_
 rintro e w2 ⟨rfl,Z⟩
 have m:=qk3.new O Z
 have N2:=qb ((qa M).trans Z)
 clear i Z O
 go_wp2_with (first | (with_reducible first|(first|refine' qw1 (qg ?_) ?_|refine' qw2 (qg ?_) ?_|refine' qw3 (qg ?_) ?_);rotate_left|refine' qw4 (qg ?_)|refine' qw5 (qg ?_)|rfl|apply qn) | refine⟨m,?_⟩)
 refine(g _).mono ?_
 rintro e w3 ⟨rfl,L⟩
 have o:=qk3.new m L
 have C:=l w3 ((qa N2).trans L)
 have N3:=qb (((qa N1).trans (qa N2)).trans L)
 clear l g L m
 go_wp2_with (first | (with_reducible first|(first|refine' qw1 (qg ?_) ?_|refine' qw2 (qg ?_) ?_|refine' qw3 (qg ?_) ?_);rotate_left|refine' qw4 (qg ?_)|refine' qw5 (qg ?_)|rfl|apply qn) | refine⟨o,?_⟩)
 refine C.mono ?_
 rintro e w4 ⟨rfl,h4⟩
 have HF:=qb (DSt.after (qa H) (qa N3) h4)
 clear C h4 o
 go_wp2_with (with_reducible first|(first|refine' qw1 (qg ?_) ?_|refine' qw2 (qg ?_) ?_|refine' qw3 (qg ?_) ?_);rotate_left|refine' qw4 (qg ?_)|refine' qw5 (qg ?_)|rfl|apply qn)
 go_ret
 rw[t]
 exact⟨rfl,qa HF⟩
set_option maxRecDepth 100000 in
set_option maxHeartbeats 4000000 in
theorem qxf(hT:Tb w0)(T:K.Ok)(hn:n<59000)(q:PInv K n P)(h:DuD w0 w p S P)(x:ActD)(X:x.Ok)(y:x.kind=1) :
  Calls Tryz.prog 20 #[.pointer (some ⟨p,0,none⟩),.agg x.cells.toArray] w fun e w'=>e = .returned (.int .i64 0)∧DSt w0 w p S w' (P.doesD x):=by
 have I:x.k<2:=qeo _
 have t:P.doesD x=P.act x.k ((P.en x.k).offer x.n (qcl (ofI (qb4 x.p))) x.expiry):=by unfold Pr.doesD;rw[if_pos (by omega)]
 have v:=q.few
 have U:(P.way (1-x.k)).length<1000000:=by rcases qbk I with e | e<;>rw[e];exact Nat.lt_of_le_of_lt v.2 (by decide);exact Nat.lt_of_le_of_lt v.1 (by decide)
 have D:=X.n
 have Y:=X.expiry
 have z:=(q.offer T (by omega) I (N:=x.n) (ex:=x.expiry) (hv:=qcl (ofI (qb4 x.p))) D.1 (by rw[qeh (qlx _)];exact qgt _)).2
 have V:(P.en x.k).news.length<1000000∧(P.en x.k).xs.length<1000000:=by have:=(q.end T (by omega) I).news;have:=(q.end T (by omega) I).xs;omega
 have E:=X.p
 have H:=qb h
 go_enter Tryz.func20,Tryz.ntmps20
 go_upto_region 1 with fail
 have J:qq w (w.alloc (.cells x.cells.toArray 50)):=(Upd.refl _ _).alloc _
 have F:=qi w (.cells x.cells.toArray 50)
 generalize w.alloc (.cells x.cells.toArray 50)=w1 at J F ⊢
 have R:¬S w.heap.size:=fun e=>by have:=(h.lt _ e).2;omega
 generalize w.heap.size=B at F R ⊢
 obtain⟨c0,⟨c1,m,o,c4,c5⟩,c6,c7⟩:=qiz F
 have N1:=qb J
 have l:=fun(W:World) (n:qq w1 W)=>qna hT ((h.new J).new n) x.side x.k rfl x.n x.expiry (ofI (qb4 x.p)) (qlx _) (qgt _) D Y V z U
 have i:=fun W=>qf0 x.p E W
 have g:=fun W=>qpl (qb4 x.p) (qex _) W
 have nd:qq w1 w1.drew:=(Upd.refl _ _).drew
 have O:qk3 B x w1.drew:=qk3.new ⟨c1,m,o,c4,c5⟩ nd
 have M:=qb nd
 generalize P.act x.k ((P.en x.k).offer x.n (qcl (ofI (qb4 x.p))) x.expiry)=P' at l t
 generalize ((P.en x.k).offer x.n (qcl (ofI (qb4 x.p))) x.expiry).2.2=er at l
 generalize (qox ((P.en x.k).offer x.n (qcl (ofI (qb4 x.p))) x.expiry)).id=im at l
 generalize ofI (qb4 x.p)=KO at l g
 generalize qb4 x.p=K8 at i g
 clear h q J F z nd c1 m o c4 c5
 obtain⟨kd,a4,ex,N,id,pb,l0,l1⟩:=x
 simp only at y c0 E l i
 subst y
 go_upto_region 4 with (with_reducible first|(first|refine' zi (qg ?_) ?_|refine' zj (qg ?_) ?_);rotate_left|refine' zk (qg ?_)|rfl|apply tn|refine' zl ?_)
 refine qcq (qk3 B ⟨1,a4,ex,N,id,pb,l0,l1⟩) [2,4,10] (.of [0,1,2,3,4,5,6,7,8,9,10,11]) (by kernel_rfl) (by kernel_rfl) O ?_
 simp only[Plan.of]
 go_wp2_with (with_reducible first|(first|refine' qw1 (qg ?_) ?_|refine' qw2 (qg ?_) ?_|refine' qw3 (qg ?_) ?_);rotate_left|refine' qw4 (qg ?_)|refine' qw5 (qg ?_)|rfl|apply qn)
 refine(i _).mono ?_
 rintro e w2 ⟨rfl,Z⟩
 have m:=qk3.new O Z
 have N2:=qb ((qa M).trans Z)
 clear i Z O
 go_wp2_with (first | (with_reducible first|(first|refine' qw1 (qg ?_) ?_|refine' qw2 (qg ?_) ?_|refine' qw3 (qg ?_) ?_);rotate_left|refine' qw4 (qg ?_)|refine' qw5 (qg ?_)|rfl|apply qn) | refine⟨m,?_⟩)
 refine(g _).mono ?_
 rintro e w3 ⟨rfl,L⟩
 have o:=qk3.new m L
 have C:=l w3 ((qa N2).trans L)
 have N3:=qb (((qa N1).trans (qa N2)).trans L)
 clear l g L m
 go_wp2_with (first | (with_reducible first|(first|refine' qw1 (qg ?_) ?_|refine' qw2 (qg ?_) ?_|refine' qw3 (qg ?_) ?_);rotate_left|refine' qw4 (qg ?_)|refine' qw5 (qg ?_)|rfl|apply qn) | refine⟨o,?_⟩)
 refine C.mono ?_
 rintro e w4 ⟨rfl,h4⟩
 have HF:=qb (DSt.after (qa H) (qa N3) h4)
 clear C h4 o
 go_wp2_with (with_reducible first|(first|refine' qw1 (qg ?_) ?_|refine' qw2 (qg ?_) ?_|refine' qw3 (qg ?_) ?_);rotate_left|refine' qw4 (qg ?_)|refine' qw5 (qg ?_)|rfl|apply qn)
 go_ret
 rw[t]
 exact⟨rfl,qa HF⟩
set_option maxRecDepth 100000 in
set_option maxHeartbeats 4000000 in
theorem q21(hT:Tb w0)(hK:K.Ok)(hn:n<59000)(O:PInv K n P)(h:DuD w0 w p S P)(x:ActD)(hx:x.Ok)(o:¬(0≤x.kind∧x.kind≤11)) :
  Calls Tryz.prog 20 #[.pointer (some ⟨p,0,none⟩),.agg x.cells.toArray] w fun e w'=>e = .returned (.int .i64 0)∧DSt w0 w p S w' (P.doesD x):=by
 have hk:x.k<2:=qeo _
 have R:P.doesD x=P:=by unfold Pr.doesD;rw[if_neg (by omega),if_neg (by omega),if_neg (by omega),if_neg (by omega),if_neg (by omega),if_neg (by omega),if_neg (by omega),if_neg (by omega)]
 have H:=qb h
 go_enter Tryz.func20,Tryz.ntmps20
 go_upto_region 1 with fail
 have q:qq w (w.alloc (.cells x.cells.toArray 50)):=(Upd.refl _ _).alloc _
 have g:=qi w (.cells x.cells.toArray 50)
 generalize w.alloc (.cells x.cells.toArray 50)=w1 at q g ⊢
 have m:¬S w.heap.size:=fun e=>by have:=(h.lt _ e).2;omega
 generalize w.heap.size=B at g m ⊢
 obtain⟨v,⟨U,V,W,X,Y⟩,Z,c7⟩:=qiz g
 have t:=qb q
 have d:(x.kind==0)=false∧(x.kind==1)=false∧(x.kind==2)=false∧(x.kind==3)=false∧(x.kind==4)=false∧(x.kind==5)=false∧(x.kind==6)=false∧(x.kind==7)=false∧(x.kind==8)=false∧(x.kind==9)=false∧(x.kind==10)=false∧(x.kind==11)=false:=by
  refine⟨?_,?_,?_,?_,?_,?_,?_,?_,?_,?_,?_,?_⟩<;>(rw[beq_eq_false_iff_ne];omega)
 obtain⟨y,z,C,D,E,F,I,J,L,M,i,l⟩:=d
 clear h O q g o
 obtain⟨kd,T,ex,N,id,pb,l0,l1⟩:=x
 simp only at v y z C D E F I J L M i l
 go_wp2_with (with_reducible first|(first|refine' zi (qg ?_) ?_|refine' zj (qg ?_) ?_);rotate_left|refine' zk (qg ?_)|rfl|apply tn|refine' zl ?_)
 go_ret
 exact⟨rfl,DSt.ofNew (qa H) (qa t)⟩
theorem quy(l:Tb w0)(i:K.Ok)(m:n<59000)(g:PInv K n P)(h:DuD w0 w p S P)(x:ActD)(o:x.Ok) :
  Calls Tryz.prog 20 #[.pointer (some ⟨p,0,none⟩),.agg x.cells.toArray] w fun e w'=>e = .returned (.int .i64 0)∧DSt w0 w p S w' (P.doesD x):=by
 by_cases v:x.kind=0
 ·exact qxe l i m g h x o v
 by_cases y:x.kind=1
 ·exact qxf l i m g h x o y
 by_cases z:x.kind=2
 ·exact qt7 l i m g h x o z
 by_cases C:x.kind=3
 ·exact q20 l i m g h x o C
 by_cases D:x.kind=4∨x.kind=5
 ·exact q24 l i m g h x o D
 by_cases E:x.kind=6∨x.kind=7∨x.kind=8
 ·exact qzs l i m g h x o E
 by_cases F:x.kind=9
 ·exact q23 l i m g h x o F
 by_cases q:x.kind=10
 ·exact q7h l i m g h x o q
 by_cases t:x.kind=11
 ·exact q22 l i m g h x o t
 exact q21 l i m g h x o (by omega)
end
end Go.Proofs.YthnohmjbbeahmaaGreatDoor
