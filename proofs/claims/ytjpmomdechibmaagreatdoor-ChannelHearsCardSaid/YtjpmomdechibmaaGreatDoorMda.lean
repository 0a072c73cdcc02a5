/-
  Hear, by the kind's own hearer.
-/
import Derived.Test.YtjpmomdechibmaaGreatDoorMcd
import Derived.Test.YtjpmomdechibmaaGreatDoorHsg
import Derived.Test.YtjpmomdechibmaaGreatDoorMcj
import Derived.Test.YtjpmomdechibmaaGreatDoorMbg
import Derived.Laws.BitsAllLaws
import Derived.Outline
import Derived.Test.YtjpmomdechibmaaGreatDoorMaa
set_option linter.unusedVariables false
set_option linter.unusedSimpArgs false
namespace Go.Proofs.YtjpmomdechibmaaGreatDoor
open Go.RowKit
attribute [local go_sem ↓ high] qab qac qag qaa
attribute [local go_sem] qc2 qc3 qc6 zn
set_option maxRecDepth 100000 in
set_option maxHeartbeats 1000000 in
theorem qv7(g:Nat)(S:Nat→Prop)(c:Ch)(m:MsgV)(t:MsgOk m)(w:World)(h:ChS w g S c)(j:qai m=false∨m.ch≠c.s.ch) :
  Calls Tryz.prog 18 #[.pointer (some ⟨g,0,none⟩),.agg m.cells.toArray] w (qa5 (.tuple #[qbl,.int .i64 1]) w):=by
 obtain⟨I,nv,E,h⟩:=h
 go_enter Tryz.func18,Tryz.ntmps18
 go_upto_region 1 with fail
 have l:=qb6 w m t.len
 have o:qx w (w.alloc (.cells m.cells.toArray 30)):=(Upd.refl _ _).alloc _
 generalize w.alloc (.cells m.cells.toArray 30)=w1 at o l ⊢
 generalize w.heap.size=A at l ⊢
 have y:=l.row
 have f:=fun W=>qp1 m t W
 have C:=qb l
 have z:=qb (h.new o)
 have x:=qb o
 clear h l o t
 cases v:qai m with
 | false =>
  rw[v] at f
  go_wp2_with (with_reducible first|(first|refine' tw1 (qh ?_) ?_|refine' tw2 (qh ?_) ?_);rotate_left|refine' tw3 (qh ?_)|rfl|apply tn|refine' tw4 ?_)
  refine(f _).mono ?_
  rintro e q ⟨rfl,i⟩
  have i:qx w1 q:=i.ofDrew
  clear y
  go_wp2_with (with_reducible first|(first|refine' tw1 (qh ?_) ?_|refine' tw2 (qh ?_) ?_);rotate_left|refine' tw3 (qh ?_)|rfl|apply tn|refine' tw4 ?_)
  go_ret2
  exact⟨rfl,(qa x).trans i⟩
 | true =>
  rw[v] at f
  have D:¬m.ch=c.s.ch:=by
   rcases j with e | e
   ·rw[v] at e;cases e
   ·exact e
  clear j
  go_wp2_with (with_reducible first|(first|refine' tw1 (qh ?_) ?_|refine' tw2 (qh ?_) ?_);rotate_left|refine' tw3 (qh ?_)|rfl|apply tn|refine' tw4 ?_)
  refine(f _).mono ?_
  rintro e q ⟨rfl,i⟩
  have i:qx w1 q:=i.ofDrew
  have H:=((qa C).new i).cells.2.1
  have F:q.cell? ⟨g,0,none⟩=some (.int .u32 c.s.ch):=((qa z).new i).toR.ch
  clear y f
  go_wp2_with (with_reducible first|(first|refine' tw1 (qh ?_) ?_|refine' tw2 (qh ?_) ?_);rotate_left|refine' tw3 (qh ?_)|rfl|apply tn|refine' tw4 ?_)
  go_ret2
  exact⟨rfl,(qa x).trans i⟩
set_option maxRecDepth 100000 in
set_option maxHeartbeats 1000000 in
theorem q6f(F:FuncId)(g:Nat)(S:Nat→Prop)(c:Ch)(m:MsgV)(E:MsgOk m)(w:World)(h:ChS w g S c)(H:qai m=true)(D:m.ch=c.s.ch)(R:Value→Int→World→World→Prop)
  (hE:∀args w,(callFunc F args).run Tryz.prog w = .ok (.enter F args) w)
  (q:∀ {w:World} {b:Nat},qjg w b→(Instr.lookup 107 (.map (some b)) (.int .i64 m.kind) true).run Tryz.prog w = .ok (.tuple #[.func (.func F) #[] #[],.bool true]) w)
  (Y:∀W,qx w W→Calls Tryz.prog F #[.pointer (some ⟨g,0,none⟩),.agg m.cells.toArray] W fun e w'=>∃v n,e = .returned (.tuple #[v,.int .i64 n])∧R v n W w') :
  Calls Tryz.prog 18 #[.pointer (some ⟨g,0,none⟩),.agg m.cells.toArray] w fun e w'=>∃v n W,e = .returned (.tuple #[v,.int .i64 n])∧qx w W∧R v n W w':=by
 obtain⟨lv,nv,av,h⟩:=h
 go_enter Tryz.func18,Tryz.ntmps18
 go_upto_region 1 with fail
 have o:=qb6 w m E.len
 have x:qx w (w.alloc (.cells m.cells.toArray 30)):=(Upd.refl _ _).alloc _
 generalize w.alloc (.cells m.cells.toArray 30)=w1 at x o ⊢
 generalize w.heap.size=A at o ⊢
 have rA:=o.row
 have f:=fun W=>qp1 m E W
 rw[H] at f
 have z:=qb o
 have T:=qb (h.new x)
 have V:=qb x
 clear h o x E
 go_wp2_with (with_reducible first|(first|refine' tw1 (qh ?_) ?_|refine' tw2 (qh ?_) ?_);rotate_left|refine' tw3 (qh ?_)|rfl|apply tn|refine' tw4 ?_)
 refine(f _).mono ?_
 rintro e y ⟨rfl,j⟩
 have j:qx w1 y:=j.ofDrew
 have M:=((qa z).new j).cells.2.1
 rw[D] at M
 have X:y.cell? ⟨g,0,none⟩=some (.int .u32 c.s.ch):=((qa T).new j).toR.ch
 have C:=qb j
 clear rA f j
 go_upto_region 3 with (with_reducible first|(first|refine' tw1 (qh ?_) ?_|refine' tw2 (qh ?_) ?_);rotate_left|refine' tw3 (qh ?_)|rfl|apply tn|refine' tw4 ?_)
 have N:y.drew.cell? ⟨A,0,none⟩=some (.int .i64 m.kind):=((qa z).new (qa C)).cells.1
 have K:=@q
 clear M X q
 refine qb2 (fun w'=>w'.cell? ⟨A,0,none⟩=some (.int .i64 m.kind)) [2] (.of [0,1,2,3,4,5,6,7,8]) (by kernel_rfl) (by kernel_rfl) N ?_
 simp only[Plan.of]
 go_wp2_with (with_reducible first|(first|refine' qw1 (qh ?_) ?_|refine' qw2 (qh ?_) ?_|refine' qw3 (qh ?_) ?_);rotate_left|refine' qw4 (qh ?_)|refine' qw5 (qh ?_)|rfl|apply qn)
 refine(qv8 _).mono ?_
 rintro e J ⟨b,rfl,t,O⟩
 have t:qx y J:=t.ofDrew
 have Z:=K O
 have i:=((qa z).new (qa C)).new t
 have l:=i.cells.1
 have I:=i.row
 have L:=qb (((qa V).trans (qa C)).trans t)
 clear N t O i K
 go_wp2_with (with_reducible first|(first|refine' qw1 (qh ?_) ?_|refine' qw2 (qh ?_) ?_|refine' qw3 (qh ?_) ?_);rotate_left|refine' qw4 (qh ?_)|refine' qw5 (qh ?_)|rfl|apply qn)
 refine⟨l,?_⟩
 go_wp2_with (with_reducible first|(first|refine' qw1 (qh ?_) ?_|refine' qw2 (qh ?_) ?_|refine' qw3 (qh ?_) ?_);rotate_left|refine' qw4 (qh ?_)|refine' qw5 (qh ?_)|rfl|apply qn)
 refine(Y J (qa L)).mono ?_
 rintro e w4 ⟨v,n,rfl,P⟩
 have U:=qb P
 clear I l Z P
 go_wp2_with (with_reducible first|(first|refine' qw1 (qh ?_) ?_|refine' qw2 (qh ?_) ?_|refine' qw3 (qh ?_) ?_);rotate_left|refine' qw4 (qh ?_)|refine' qw5 (qh ?_)|rfl|apply qn)
 go_ret2
 exact⟨v,n,J,rfl,qa L,qa U⟩
def qf0(g:Nat)(S:Nat→Prop)(w:World)(c':Ch)(f:List MsgV)(n:Int)(e:Ending)(w':World):Prop :=
 ∃v,e = .returned (.tuple #[v,.int .i64 n])∧qcj w.heap.size w' v f∧ChS w' g (Fr S w w') c'∧Upd S w w'
theorem qi1(F:FuncId)(g:Nat)(S:Nat→Prop)(c c':Ch)(q:List MsgV)(n:Int)(m:MsgV)(z:MsgOk m)(w:World)(h:ChS w g S c)(o:qai m=true)(i:m.ch=c.s.ch)
  (t:∀args w,(callFunc F args).run Tryz.prog w = .ok (.enter F args) w)
  (l:∀ {w:World} {b:Nat},qjg w b→(Instr.lookup 107 (.map (some b)) (.int .i64 m.kind) true).run Tryz.prog w = .ok (.tuple #[.func (.func F) #[] #[],.bool true]) w)
  (x:∀W,qx w W→Calls Tryz.prog F #[.pointer (some ⟨g,0,none⟩),.agg m.cells.toArray] W (qf0 g S W c' q n)) :
  Calls Tryz.prog 18 #[.pointer (some ⟨g,0,none⟩),.agg m.cells.toArray] w (qf0 g S w c' q n):=by
 refine(q6f F g S c m z w h o i (fun v k W w'=>k=n∧qcj W.heap.size w' v q∧ChS w' g (Fr S W w') c'∧Upd S W w') t l (fun W f=>(x W f).mono ?_)).mono ?_
 ·rintro e w' ⟨v,j,C⟩
  exact⟨v,n,j,rfl,C⟩
 ·rintro e w' ⟨v,k,W,j,f,rfl,D,y,E⟩
  exact⟨v,j,qfl D f.size,y.later f.size,(f.mono (T:=S) (fun _ _ h=>h.elim)).trans E⟩
theorem qv6(g:Nat)(S:Nat→Prop)(c:Ch)(m:MsgV)(l:MsgOk m)(w:World)(h:ChS w g S c)(j:qai m=true)(i:m.ch=c.s.ch)(v:m.kind=3)(f:c.xs.length<1000000) :
  Calls Tryz.prog 18 #[.pointer (some ⟨g,0,none⟩),.agg m.cells.toArray] w (qf0 g S w (c.hearAdd m).1 [] (c.hearAdd m).2) :=
 qi1 _ g S c _ _ _ m l w h j i (enters_of Tryz.func66 (by kernel_rfl) rfl) (fun o=>by rw[v];exact zci o) (fun W y=>(qv4 g S c m l W (h.new y) f).mono (by
  rintro e w' ⟨t,q,x⟩
  exact⟨_,t,qcj.nil _ _,q,x⟩))
theorem q22(g:Nat)(S:Nat→Prop)(c:Ch)(m:MsgV)(j:MsgOk m)(w:World)(h:ChS w g S c)(i:qai m=true)(f:m.ch=c.s.ch)(t:m.kind=5) :
  Calls Tryz.prog 18 #[.pointer (some ⟨g,0,none⟩),.agg m.cells.toArray] w (qf0 g S w (c.hearFail m).1 [] (c.hearFail m).2) :=
 qi1 _ g S c _ _ _ m j w h i f (enters_of Tryz.func68 (by kernel_rfl) rfl) (fun l=>by rw[t];exact zck l) (fun W x=>(qts g S c m j.len W (h.new x)).mono (by
  rintro e w' ⟨q,o,v⟩
  exact⟨_,q,qcj.nil _ _,o,v⟩))
theorem q24(g:Nat)(S:Nat→Prop)(c:Ch)(m:MsgV)(j:MsgOk m)(w:World)(h:ChS w g S c)(i:qai m=true)(f:m.ch=c.s.ch)(t:m.kind=8) :
  Calls Tryz.prog 18 #[.pointer (some ⟨g,0,none⟩),.agg m.cells.toArray] w (qf0 g S w c.hearShut.1 [] c.hearShut.2) :=
 qi1 _ g S c _ _ _ m j w h i f (enters_of Tryz.func71 (by kernel_rfl) rfl) (fun l=>by rw[t];exact zcn l) (fun W x=>(qtv g S c m j.len W (h.new x)).mono (by
  rintro e w' ⟨q,o,v⟩
  exact⟨_,q,qcj.nil _ _,o,v⟩))
theorem qnp(g:Nat)(S:Nat→Prop)(c:Ch)(m:MsgV)(l:MsgOk m)(w:World)(h:ChS w g S c)(j:qai m=true)(i:m.ch=c.s.ch)(z:m.kind=7)(f:qov c)(v:Tb w)(t:Apart S) :
  Calls Tryz.prog 18 #[.pointer (some ⟨g,0,none⟩),.agg m.cells.toArray] w (qf0 g S w (c.hearRevoke m).1 [] (c.hearRevoke m).2) :=
 qi1 _ g S c _ _ _ m l w h j i (enters_of Tryz.func70 (by kernel_rfl) rfl) (fun q=>by rw[z];exact zcm q) (fun W o=>(qpi g S c m l W (h.new o) f (v.new o) t).mono (by
  rintro e w' ⟨y,x,C⟩
  exact⟨_,y,qcj.nil _ _,x,C⟩))
theorem qry(g:Nat)(S:Nat→Prop)(c:Ch)(m:MsgV)(t:MsgOk m)(w:World)(h:ChS w g S c)(o:qai m=true)(i:m.ch=c.s.ch)(F:m.kind=6)(C:Tb w)(z:Apart S)(l:c.s.peer.size≤100000000)(f:0≤c.s.ch∧c.s.ch<4294967296)(j:c.k.heard<4294967295)(q:c.xs.length≤16) :
  Calls Tryz.prog 18 #[.pointer (some ⟨g,0,none⟩),.agg m.cells.toArray] w (qf0 g S w (c.hearSign m).1 (c.hearSign m).2.1 (c.hearSign m).2.2) :=
 qi1 _ g S c _ _ _ m t w h o i (enters_of Tryz.func69 (by kernel_rfl) rfl) (fun y=>by rw[F];exact zcl y) (fun W x=>(qtw g S c m t W (h.new x) (C.new x) z l f j q).mono (by
  rintro e w' ⟨v,E,H,D,I⟩
  exact⟨v,E,H,D,I⟩))
end Go.Proofs.YtjpmomdechibmaaGreatDoor
namespace Go.Proofs.YtjpmomdechibmaaGreatDoor
open Go.RowKit
theorem qe2(x y:Int)(f:0≤x)(i:x<4294967296)(g:0≤y)(j:y<4294967296):bits .xor .u64 x y=bits .xor .u32 x y:=by
 rw[u64_xor x y f (by omega) g (by omega),u32_xor x y f i g j]
theorem qjs(x y:Int)(f:0≤x)(i:x<4294967296)(g:0≤y)(j:y<4294967296):bits .and .u64 x y=bits .and .u32 x y:=by
 rw[u64_and x y f (by omega) g (by omega),u32_and x y f i g j]
theorem qlf(x:Int)(f:0≤x)(g:x<4294967296):bits .xor .u32 0 x=x:=by
 rw[u32_xor 0 x (by decide) (by decide) f g]
 simp
 omega
theorem zcr(e:Int)(f:0≤e)(g:e<4294967296):bits .xor .u32 4294967295 e=4294967295-e:=by
 rw[u32_xor 4294967295 e (by decide) (by decide) f g]
 obtain⟨n,rfl⟩:=Int.eq_ofNat_of_zero_le f
 have h:(4294967295 ^^^ n:Nat)=4294967295-n:=by
  have i:n<2 ^ 32:=by omega
  have:=congrArg BitVec.toNat (BitVec.allOnes_xor (x:=BitVec.ofNat 32 n))
  rw[BitVec.toNat_xor,BitVec.toNat_not,BitVec.toNat_allOnes,BitVec.toNat_ofNat,Nat.mod_eq_of_lt i] at this
  simpa using this
 rw[Int.toNat_natCast,show (4294967295:Int).toNat=4294967295 from rfl,h]
 omega
theorem zaf(x n:Nat)(l:x<4294967296)(o:n≤32):qch x n=((x / 2 ^ n+x%2 ^ n*2 ^ (32-n):Nat):Int):=by
 unfold qch
 have j:(32-(n:Int)).toNat=32-n:=by omega
 rw[Int.toNat_natCast,j]
 have g:2 ^ n*2 ^ (32-n)=4294967296:=by rw[←Nat.pow_add,show n+(32-n)=32 by omega]
 have f:0<2 ^ n:=Nat.pow_pos (by decide)
 have i:0<2 ^ (32-n):=Nat.pow_pos (by decide)
 have a1:(x:Int) / 2 ^ n=((x / 2 ^ n:Nat):Int):=by rw[Int.natCast_ediv,Int.natCast_pow];rfl
 have a2:(x:Int)*2 ^ (32-n)%4294967296=((x%2 ^ n*2 ^ (32-n):Nat):Int):=by
  have:x*2 ^ (32-n)%4294967296=x%2 ^ n*2 ^ (32-n):=by
   rw[←g,Nat.mul_mod_mul_right]
  rw[←this,Int.natCast_emod,Int.natCast_mul,Int.natCast_pow];rfl
 rw[a1,a2]
 have b1:x / 2 ^ n<2 ^ (32-n):=by rw[Nat.div_lt_iff_lt_mul f,Nat.mul_comm,g];exact l
 have b2:x%2 ^ n*2 ^ (32-n)<4294967296:=by
  rw[←g]
  exact Nat.mul_lt_mul_of_pos_right (Nat.mod_lt _ f) i
 have m:2 ^ (32-n)≤4294967296:=by rw[←g];exact Nat.le_mul_of_pos_left _ f
 rw[u32_or_nat _ _ (by omega) b2,Nat.or_comm,nat_join (32-n) _ _ (by rw[Nat.mul_mod_left]) b1,Nat.add_comm]
def qih(x:Int):Nat→Int
 | 0=>x
 | k+1=>qih x k / 2+qih x k%2*2147483648
theorem qss(x k:Nat)(D:x<4294967296)(E:k≤31):qih x k=((x / 2 ^ k+x%2 ^ k*2 ^ (32-k):Nat):Int)∧x / 2 ^ k+x%2 ^ k*2 ^ (32-k)<4294967296:=by
 induction k with
 | zero=>simp[qih,Nat.mod_one];exact D
 | succ k j =>
  obtain⟨j,q⟩:=j (by omega)
  have z:2 ^ (32-k)=2*2 ^ (31-k):=by rw[←Nat.pow_succ',show (31-k).succ=32-k by omega]
  have l:2 ^ (k+1)=2*2 ^ k:=Nat.pow_succ'
  have f:2 ^ k*2 ^ (31-k)=2147483648:=by rw[←Nat.pow_add,show k+(31-k)=31 by omega]
  have C:0<2 ^ k:=Nat.pow_pos (by decide)
  have w:=Nat.div_add_mod x (2 ^ k)
  have v:=Nat.div_add_mod (x / 2 ^ k) 2
  have g:x / 2 ^ k / 2=x / 2 ^ (k+1):=by rw[Nat.div_div_eq_div_mul,Nat.mul_comm (2 ^ k) 2,←l]
  have i:x%2 ^ (k+1)=x%2 ^ k+2 ^ k*(x / 2 ^ k%2):=by rw[l,Nat.mul_comm 2,Nat.mod_mul]
  have e:(x / 2 ^ k+x%2 ^ k*2 ^ (32-k)) / 2+(x / 2 ^ k+x%2 ^ k*2 ^ (32-k))%2*2147483648=x / 2 ^ (k+1)+x%2 ^ (k+1)*2 ^ (32-(k+1)):=by
   rw[show 32-(k+1)=31-k by omega,i,Nat.add_mul,←g,z]
   have m:x%2 ^ k*(2*2 ^ (31-k))=2*(x%2 ^ k*2 ^ (31-k)):=by rw[Nat.mul_left_comm]
   have o:2 ^ k*(x / 2 ^ k%2)*2 ^ (31-k)=x / 2 ^ k%2*2147483648:=by rw[←f,Nat.mul_comm (2 ^ k),Nat.mul_assoc]
   rw[m,o]
   generalize x%2 ^ k*2 ^ (31-k)=c
   generalize x / 2 ^ k=y
   omega
  refine⟨?_,?_⟩
  ·rw[qih,j,←e]
   have t:∀y:Nat,(y:Int) / 2+(y:Int)%2*2147483648=((y / 2+y%2*2147483648:Nat):Int):=fun y=>by omega
   exact t _
  ·rw[←e]
   generalize x / 2 ^ k+x%2 ^ k*2 ^ (32-k)=y at q ⊢
   omega
theorem qst(x:Int)(k:Nat)(f:0≤x)(i:x<4294967296)(g:k≤31):qih x k=qch x k:=by
 obtain⟨n,rfl⟩:=Int.eq_ofNat_of_zero_le f
 rw[(qss n k (by omega) g).1,zaf n k (by omega) (by omega)]
theorem qx0(x:Int)(k:Nat)(f:0≤x)(j:x<4294967296)(i:k≤31):0≤qih x k∧qih x k<4294967296:=by
 obtain⟨n,rfl⟩:=Int.eq_ofNat_of_zero_le f
 obtain⟨e,g⟩:=qss n k (by omega) i
 rw[e]
 generalize n / 2 ^ k+n%2 ^ k*2 ^ (32-k)=y at g ⊢
 omega
theorem qja(x:Int)(k:Nat)(f:0≤x)(g:x<4294967296)(i:k≤31):0≤qch x k∧qch x k<4294967296:=by
 rw[←qst x k f g i]
 exact qx0 x k f g i
set_option maxHeartbeats 1000000 in
theorem qeh(x:Int)(n:Int)(w:World)(i:0≤x)(j:x<4294967296)(q:0≤n)(C:n≤31) :
  Calls Tryz.prog 105 #[.int .u64 x,.int .i64 n] w fun e w'=>e = .returned (.int .u64 (qch x n))∧w=w':=by
 obtain⟨m,rfl⟩:=Int.eq_ofNat_of_zero_le q
 have v:m≤31:=by omega
 rw[←qst x m i j v]
 go_enter Tryz.func105,Tryz.ntmps105
 go_wp2_with fail
 go_loop [0,5] (fun z g=>∃k:Nat,g = .int .i64 (k:Int)∧k≤m∧z = .int .u64 (qih x k)) (fun _ g=>m-(intOf g).toNat)
 case atStart=>exact⟨0,rfl,Nat.zero_le _,rfl⟩
 case round =>
  obtain⟨k,rfl,D,rfl⟩:=hrel
  obtain⟨b1,b2⟩:=qx0 x k i j (by omega)
  have o:qih x (k+1)=qih x k / 2+qih x k%2*2147483648:=rfl
  have f:=qb o
  clear o
  by_cases t:k<m
  ·have l:(k:Int)<(m:Int):=by omega
   generalize qih x k=y at b1 b2 f ⊢
   go_wp2
   go_round
   case rel=>exact⟨k+1,by go_num,by omega,by rw[qa f]⟩
   case measure=>simp[intOf];omega
  ·obtain rfl:k=m:=by omega
   clear f
   go_wp2
   go_ret
   exact⟨rfl,rfl⟩
def shR(x:Int):Nat→Int
 | 0=>x
 | k+1=>shR x k / 2
theorem zc1(x:Int)(k:Nat):shR x k=x / 2 ^ k:=by
 induction k with
 | zero=>simp[shR]
 | succ k f=>rw[shR,f,Int.pow_succ,Int.ediv_ediv_of_nonneg (Int.pow_nonneg (by decide))]
theorem zc0(x:Int)(k:Nat)(f:0≤x)(g:x<18446744073709551616):0≤shR x k∧shR x k<18446744073709551616:=by
 induction k with
 | zero=>exact⟨f,g⟩
 | succ k i=>rw[shR];omega
set_option maxHeartbeats 1000000 in
theorem qku(x:Int)(n:Int)(w:World)(l:0≤x)(o:x<18446744073709551616)(q:0≤n)(z:n≤64) :
  Calls Tryz.prog 75 #[.int .u64 x,.int .i64 n] w fun e w'=>e = .returned (.int .u64 (x / 2 ^ n.toNat))∧w=w':=by
 obtain⟨m,rfl⟩:=Int.eq_ofNat_of_zero_le q
 have D:m≤64:=by omega
 rw[Int.toNat_natCast,←zc1]
 go_enter Tryz.func75,Tryz.ntmps75
 go_wp2_with fail
 go_loop [0,5] (fun v g=>∃k:Nat,g = .int .i64 (k:Int)∧k≤m∧v = .int .u64 (shR x k)) (fun _ g=>m-(intOf g).toNat)
 case atStart=>exact⟨0,rfl,Nat.zero_le _,rfl⟩
 case round =>
  obtain⟨k,rfl,C,rfl⟩:=hrel
  obtain⟨b1,b2⟩:=zc0 x k l o
  have j:shR x (k+1)=shR x k / 2:=rfl
  have f:=qb j
  clear j
  by_cases t:k<m
  ·have i:(k:Int)<(m:Int):=by omega
   generalize shR x k=y at b1 b2 f ⊢
   go_wp2
   go_round
   case rel=>exact⟨k+1,by go_num,by omega,by rw[qa f]⟩
   case measure=>simp[intOf];omega
  ·obtain rfl:k=m:=by omega
   clear f b2
   go_wp2
   go_ret
   exact⟨rfl,rfl⟩
theorem q7l(x y:Int)(g:0≤x)(i:x<16777216)(f:0≤y)(j:y≤255):bits .or .u32 (x*256%4294967296) y=x*256+y:=by
 rw[show x*256%4294967296=x*256 by omega,u32_or _ _ (by omega) (by omega) f (by omega),nat_join 8 _ _ (by omega) (by omega)]
 omega
theorem qx6(ws:List Int)(i:Nat)(x:Int)(h:i<ws.length):wd (ws.set i x) i=x:=by
 unfold wd
 rw[List.getD_eq_getElem?_getD,List.getElem?_set_self h]
 rfl
theorem quw(ws:List Int)(i j:Nat)(x:Int)(h:i≠j):wd (ws.set i x) j=wd ws j:=by
 unfold wd
 rw[List.getD_eq_getElem?_getD,List.getElem?_set_ne h,←List.getD_eq_getElem?_getD]
theorem qwj(s:ByteArray)(i:Nat)(q:i<64)(j:Nat):j≤4*i+4→0≤wd (qau s j) i∧wd (qau s j) i<256 ^ (j-4*i):=by
 induction j with
 | zero =>
  intro _
  have m:wd (qau s 0) i=0:=by
   show (List.replicate 64 (0:Int)).getD i 0=0
   rw[List.getD_eq_getElem?_getD,List.getElem?_replicate]
   split<;>rfl
  rw[m,show 0-4*i=0 by omega]
  decide
 | succ j v =>
  intro w
  obtain⟨g,f⟩:=v (by omega)
  rw[qev,qpv]
  by_cases h:j / 4=i
  ·subst h
   rw[qx6 _ _ _ (by rw[qg5];exact q)]
   obtain⟨b0,b1⟩:=qvf s j
   have l:j-4*(j / 4)≤3:=by omega
   have t:wd (qau s j) (j / 4)<16777216:=by
    refine Int.lt_of_lt_of_le f ?_
    generalize j-4*(j / 4)=d at l
    match d,l with
    | 0,_=>decide
    | 1,_=>decide
    | 2,_=>decide
    | 3,_=>decide
   rw[q7l _ _ g t b0 b1,show j+1-4*(j / 4)=j-4*(j / 4)+1 by omega,Int.pow_succ]
   generalize (256:Int) ^ (j-4*(j / 4))=p at f
   omega
  ·rw[quw _ _ _ _ h]
   rcases Nat.lt_or_ge j (4*i) with o | o
   ·rw[show j+1-4*i=0 by omega]
    rw[show j-4*i=0 by omega] at f
    exact⟨g,f⟩
   ·exfalso;omega
theorem qwk(s:ByteArray)(i k:Nat)(m:i<16)(l:k<4) :
  (0≤wd (qau s (4*i+k)) i∧wd (qau s (4*i+k)) i<16777216)∧qau s (4*i+(k+1))=(qau s (4*i+k)).set i (wd (qau s (4*i+k)) i*256+bt s (4*i+k)):=by
 obtain⟨f,j⟩:=qwj s i (by omega) (4*i+k) (by omega)
 have g:wd (qau s (4*i+k)) i<16777216:=by
  refine Int.lt_of_lt_of_le j ?_
  rw[show 4*i+k-4*i=k by omega]
  match k,l with
  | 0,_=>decide
  | 1,_=>decide
  | 2,_=>decide
  | 3,_=>decide
 refine⟨⟨f,g⟩,?_⟩
 obtain⟨b0,b1⟩:=qvf s (4*i+k)
 rw[show 4*i+(k+1)=4*i+k+1 by omega,qev,qpv,show (4*i+k) / 4=i by omega,q7l _ _ f g b0 b1]
theorem Tryz.infoR64:(Tryz.prog.info? 174).map (·.size)=some 64:=by kernel_rfl
theorem Tryz.infoR8:(Tryz.prog.info? 141).map (·.size)=some 8:=by kernel_rfl
def zbe(x:Value):Sem Value:=Instr.loadAt 174 x
theorem qwm(x:Value):Instr.loadAt 174 x=zbe x:=rfl
theorem zcf(b o:Nat)(w:World):(zbe (.pointer (some ⟨b,o,none⟩))).run Tryz.prog w=match zr w b o 64 with | some A=> .ok (.agg A) w | none=>qdk Tryz.prog 174 w b o :=
 zt 174 64 _ Tryz.underlying174 rfl Tryz.infoR64 b o w
def zdo(x:Value):Sem Value:=Instr.loadAt 141 x
theorem qpw(x:Value):Instr.loadAt 141 x=zdo x:=rfl
theorem zbg(b o:Nat)(w:World):(zdo (.pointer (some ⟨b,o,none⟩))).run Tryz.prog w=match zr w b o 8 with | some A=> .ok (.agg A) w | none=>qdk Tryz.prog 141 w b o :=
 zt 141 8 _ Tryz.underlying141 rfl Tryz.infoR8 b o w
def zbq(x v:Value):Sem Unit:=Instr.storeAt 174 x v
theorem qxu(x v:Value):Instr.storeAt 174 x v=zbq x v:=rfl
theorem zc2(b o:Nat)(A:Array Value)(w:World):(zbq (.pointer (some ⟨b,o,none⟩)) (.agg A)).run Tryz.prog w=if stOk w b o 64 A=true then .ok () (w.setCells b o A.toList) else qfe Tryz.prog 174 w b o A :=
 qap 174 64 Tryz.infoR64 b o A w
def zdw(x v:Value):Sem Unit:=Instr.storeAt 141 x v
theorem qqk(x v:Value):Instr.storeAt 141 x v=zdw x v:=rfl
theorem zbs(b o:Nat)(A:Array Value)(w:World):(zdw (.pointer (some ⟨b,o,none⟩)) (.agg A)).run Tryz.prog w=if stOk w b o 8 A=true then .ok () (w.setCells b o A.toList) else qfe Tryz.prog 141 w b o A :=
 qap 141 8 Tryz.infoR8 b o A w
theorem q74(x:Int)(f:0≤x)(g:x<4294967296):bits .xor .u64 (bits .xor .u64 (qch x 7) (qch x 18)) (x / 8)=qxp x:=by
 have a:0≤qch x 7∧qch x 7<4294967296:=qja x 7 f g (by decide)
 have b:0≤qch x 18∧qch x 18<4294967296:=qja x 18 f g (by decide)
 have c:=qbq .xor (qch x 7) (qch x 18)
 have e:qbu x [7,18]=bits .xor .u32 (bits .xor .u32 0 (qch x 7)) (qch x 18):=rfl
 unfold qxp
 rw[e,qlf _ a.1 a.2]
 rw[qe2 _ _ a.1 a.2 b.1 b.2,qe2 _ _ c.1 c.2 (by omega) (by omega)]
theorem q75(x:Int)(f:0≤x)(g:x<4294967296):bits .xor .u64 (bits .xor .u64 (qch x 17) (qch x 19)) (x / 1024)=qxq x:=by
 have a:0≤qch x 17∧qch x 17<4294967296:=qja x 17 f g (by decide)
 have b:0≤qch x 19∧qch x 19<4294967296:=qja x 19 f g (by decide)
 have c:=qbq .xor (qch x 17) (qch x 19)
 have e:qbu x [17,19]=bits .xor .u32 (bits .xor .u32 0 (qch x 17)) (qch x 19):=rfl
 unfold qxq
 rw[e,qlf _ a.1 a.2]
 rw[qe2 _ _ a.1 a.2 b.1 b.2,qe2 _ _ c.1 c.2 (by omega) (by omega)]
theorem qsr(x:Int)(f g i:Nat)(m1 m o:Int)(q:m1=f)(t:m=g)(v:o=i)(j:0≤x)(l:x<4294967296)(w:f≤31)(y:g≤31)(z:i≤31):bits .xor .u64 (bits .xor .u64 (qch x m1) (qch x m)) (qch x o)=qbu x [m1,m,o]:=by
 subst q t v
 have a:=qja x f j l w
 have b:=qja x g j l y
 have d:=qja x i j l z
 have c:=qbq .xor (qch x f) (qch x g)
 have e:qbu x [(f:Int),g,i]=bits .xor .u32 (bits .xor .u32 (bits .xor .u32 0 (qch x f)) (qch x g)) (qch x i):=rfl
 rw[e,qlf _ a.1 a.2]
 rw[qe2 _ _ a.1 a.2 b.1 b.2,qe2 _ _ c.1 c.2 d.1 d.2]
theorem zb4(e f g:Int)(i:0≤e)(j:e<4294967296)(l:0≤f)(m:f<4294967296)(o:0≤g)(q:g<4294967296):bits .xor .u64 (bits .and .u64 e f) (bits .and .u64 (4294967295-e) g)=chI e f g:=by
 have a:=qbq .and e f
 have b:=qbq .and (4294967295-e) g
 unfold chI
 rw[zcr e i j,qjs _ _ i j l m,qjs _ _ (by omega) (by omega) o q,qe2 _ _ a.1 a.2 b.1 b.2]
theorem q91(a b c:Int)(f:0≤a)(g:a<4294967296)(i:0≤b)(j:b<4294967296)(l:0≤c)(m:c<4294967296):bits .xor .u64 (bits .xor .u64 (bits .and .u64 a b) (bits .and .u64 a c)) (bits .and .u64 b c)=qzm a b c:=by
 have x:=qbq .and a b
 have y:=qbq .and a c
 have z:=qbq .and b c
 have v:=qbq .xor (bits .and .u32 a b) (bits .and .u32 a c)
 unfold qzm
 rw[qjs _ _ f g i j,qjs _ _ f g l m,qjs _ _ i j l m,qe2 _ _ x.1 x.2 y.1 y.2,qe2 _ _ v.1 v.2 z.1 z.2]
theorem zah(x:Int)(w:World)(f:0≤x)(g:x<4294967296):Calls Tryz.prog 75 #[.int .u64 x,.int .i64 3] w fun e w'=>e = .returned (.int .u64 (x / 8))∧w=w':=qku x 3 w f (by omega) (by decide) (by decide)
theorem q70(x:Int)(w:World)(f:0≤x)(g:x<4294967296):Calls Tryz.prog 75 #[.int .u64 x,.int .i64 10] w fun e w'=>e = .returned (.int .u64 (x / 1024))∧w=w':=qku x 10 w f (by omega) (by decide) (by decide)
def qob:Array Value:=(qjm.map (Value.int .u64)).toArray
def z64:Array Value:=((List.replicate 64 (0:Int)).map (Value.int .u64)).toArray
set_option maxRecDepth 100000 in
set_option maxHeartbeats 1000000 in
theorem zdn(w:World):Calls Tryz.prog 106 #[] w fun e w'=>e = .returned (.agg qob)∧qx w w':=by
 go_enter Tryz.func106,Tryz.ntmps106
 go_upto_region 0 with fail
 refine wp_region_lit ?_
 refine q9 rfl (v:= .pointer (some ⟨w.heap.size,0,none⟩)) (w':=w.alloc (.cells z64 174)) (by kernel_rfl) ?_
 have f:(w.alloc (.cells z64 174)).heap[w.heap.size]? = some (.cells z64 174 (0,0)):=qi _ _
 have i:qx w (w.alloc (.cells z64 174)):=(Upd.refl _ _).alloc _
 generalize w.alloc (.cells z64 174)=w1 at f i ⊢
 go_upto_region 1 with fail
 refine wp_region_lit ?_
 refine q9 rfl (v:= .agg qob) (w':=w1) (by kernel_rfl) ?_
 refine wpList_store_row rfl _ _ _ rfl w.heap.size qob rfl rfl 174 _ f (by kernel_rfl) (by kernel_rfl) (by kernel_rfl) ?_
 have g:=setRow_heap w1 w.heap.size _ qob 174 (0,0) f
 have j:qx w (w1.setRow w.heap.size qob):=i.setRow (fun h=>by omega) _
 generalize w1.setRow w.heap.size qob=l at g j ⊢
 go_wp2_with fail
 refine bodyPost_ret (results_cell_row rfl _ _ w.heap.size 174 _ (0,0) _ rfl g Tryz.underlying174 rfl (by exact Tryz.infoR64)) rfl ?_
 exact⟨rfl,j⟩
end Go.Proofs.YtjpmomdechibmaaGreatDoor
