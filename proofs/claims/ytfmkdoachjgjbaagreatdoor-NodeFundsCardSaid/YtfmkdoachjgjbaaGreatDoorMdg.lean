/-
  Package octet: the reader.
-/
import Derived.Test.YtfmkdoachjgjbaaGreatDoorMdf
import Derived.Test.YtfmkdoachjgjbaaGreatDoorMae
import Derived.Defers
import Derived.Test.YtfmkdoachjgjbaaGreatDoorMcd
set_option maxRecDepth 100000
set_option maxHeartbeats 1000000
set_option linter.unusedVariables false
set_option linter.unusedSimpArgs false
namespace Go.Proofs.YtfmkdoachjgjbaaGreatDoor
open Go.RowKit
def Rd(w:World)(g:Nat)(s:ByteArray):Prop:=w.heap[g]? = some (.cells #[.string s] 262 (0,0))
theorem Rd.new{w w':World}{g:Nat}{s:ByteArray}(h:Rd w g s)(n:qq w w'):Rd w' g s:=n.old h (fun h=>h)
theorem Rd.lt{w:World}{g:Nat}{s:ByteArray}(h:Rd w g s):g<w.heap.size:=zi h
theorem Rd.cell{w:World}{g:Nat}{s:ByteArray}(h:Rd w g s):w.cell? ⟨g,0,none⟩=some (.string s):=qk h 0
theorem Rd.free{w:World}{g:Nat}{s:ByteArray}(h:Rd w g s):w.frozen? ⟨g,0,none⟩=false:=qo h 0
theorem Rd.set{w:World}{g:Nat}{s:ByteArray}(h:Rd w g s)(r:ByteArray):Rd (w.setCell ⟨g,0,none⟩ (.string r)) g r:=zq h 0 _
theorem Rd.upd{w w':World}{g:Nat}{s:ByteArray}{T:Nat→Prop}(h:Rd w g s)(u:Upd T w w')(i:¬T g):Rd w' g s:=u.old h i
theorem q0p(s:ByteArray)(w:World):Calls Tryz.prog 131 #[.string s] w fun e w'=>e = .returned (.pointer (some ⟨w.heap.size,0,none⟩))∧Rd w' w.heap.size s∧qq w w'∧w'.heap.size=w.heap.size+1:=by
 go_enter Tryz.func131,Tryz.ntmps131;go_wp2_with fail;go_ret;exact⟨rfl,ql _ _,(Upd.refl _ _).alloc _,World.size_alloc _ _⟩
theorem qop(g n:Nat)(s:ByteArray)(w:World)(h:Rd w g s)(o:s.size<n) :
  Calls Tryz.prog 167 #[.pointer (some ⟨g,0,none⟩),.int .i64 n] w (qae (.tuple #[.string ⟨#[]⟩,.int .i64 10]) w):=by
 have m:=h.cell
 have i:(s.size:Int)<(n:Int):=by omega
 clear h
 go_enter Tryz.func167,Tryz.ntmps167
 go_wp2_with fail
 go_ret2
 exact⟨rfl,Q.refl _⟩
theorem qyr(g n:Nat)(s:ByteArray)(w:World)(h:Rd w g s)(t:n≤s.size) :
  Calls Tryz.prog 167 #[.pointer (some ⟨g,0,none⟩),.int .i64 n] w fun e w'=>e = .returned (.tuple #[.string (s.extract 0 n),.int .i64 0])∧w.setCell ⟨g,0,none⟩ (.string (s.extract n s.size))=w':=by
 have o:=h.cell
 have q:=h.free
 have i:¬(s.size:Int)<(n:Int):=by omega
 have m:(n:Int)≤(s.size:Int):=by omega
 clear h
 go_enter Tryz.func167,Tryz.ntmps167
 go_wp2
 go_ret2
 exact⟨rfl,rfl⟩
theorem q9s(g:Nat)(s:ByteArray)(w:World)(h:Rd w g s)(i:s.size=0) :
  Calls Tryz.prog 141 #[.pointer (some ⟨g,0,none⟩)] w (qae (.int .i64 0) w):=by
 have m:=h.cell
 obtain rfl:s=⟨#[]⟩:=by
  cases s with | mk d=>simpa [ByteArray.size] using i
 clear h
 go_enter Tryz.func141,Tryz.ntmps141
 go_wp2
 go_ret
 exact⟨rfl,Q.refl _⟩
theorem q3f(g:Nat)(s:ByteArray)(w:World)(h:Rd w g s)(m:0<s.size) :
  Calls Tryz.prog 141 #[.pointer (some ⟨g,0,none⟩)] w (qae (.int .i64 11) w):=by
 have o:=h.cell
 have i:=q5x m
 clear h
 go_enter Tryz.func141,Tryz.ntmps141
 go_wp2
 go_ret
 exact⟨rfl,Q.refl _⟩
structure BackV(w:World)(g E:Nat)(s:ByteArray)(p q r:Nat):Prop where
 e:w.cell? ⟨p,0,none⟩=some (.pointer (some ⟨E,0,none⟩))
 s:w.cell? ⟨q,0,none⟩=some (.string s)
 g:w.cell? ⟨r,0,none⟩=some (.pointer (some ⟨g,0,none⟩))
theorem BackV.upd{w w':World}{g E:Nat}{s:ByteArray}{p q r:Nat}{T:Nat→Prop}(h:BackV w g E s p q r)(u:Upd T w w')(i:¬T p)(m:¬T q)(o:¬T r):BackV w' g E s p q r:=⟨u.cell h.e i,u.cell h.s m,u.cell h.g o⟩
theorem qjc(g E:Nat)(s:ByteArray)(w:World)(h:Rd w g s):Calls Tryz.prog 166 #[.pointer (some ⟨g,0,none⟩),.pointer (some ⟨E,0,none⟩)] w fun e w'=>∃p q r,e = .returned (.func (.func 199) #[] #[.pointer (some ⟨p,0,none⟩),.pointer (some ⟨q,0,none⟩),.pointer (some ⟨r,0,none⟩)])∧qq w w'∧BackV w' g E s p q r∧w.heap.size≤p∧w.heap.size≤q∧w.heap.size≤r:=by
 have N:∀(fn:Fn) (first cap:Array Value) (w:World),(Instr.makeFunc fn first cap).run Tryz.prog w = .ok (.func fn first cap) w:=fun _ _ _ _=>rfl
 have H:=h.cell;go_enter Tryz.func166,Tryz.ntmps166;go_upto_region 1 with fail;have o:=ql w (.cells #[.pointer (some ⟨g,0,none⟩)] 227);have x:qq w (w.alloc (.cells #[.pointer (some ⟨g,0,none⟩)] 227)):=(Upd.refl _ _).alloc _;have z:(w.alloc (.cells #[.pointer (some ⟨g,0,none⟩)] 227)).heap.size=w.heap.size+1:=World.size_alloc _ _;generalize w.alloc (.cells #[.pointer (some ⟨g,0,none⟩)] 227)=w1 at o x z ⊢;have t:=ql w1 (.cells #[.pointer (some ⟨E,0,none⟩)] 268);have i:qq w1 (w1.alloc (.cells #[.pointer (some ⟨E,0,none⟩)] 268)):=(Upd.refl _ _).alloc _;have C:(w1.alloc (.cells #[.pointer (some ⟨E,0,none⟩)] 268)).heap.size=w1.heap.size+1:=World.size_alloc _ _;generalize w1.alloc (.cells #[.pointer (some ⟨E,0,none⟩)] 268)=y at t i C ⊢;rw[z] at t C;have K:y.cell? ⟨w.heap.size,0,none⟩=some (.pointer (some ⟨g,0,none⟩)):=i.cell (qk o 0) (fun h=>h);have M:=i.cell (x.cell H (fun h=>h)) (fun h=>h);have I:=qj (And.intro o (And.intro t (And.intro z (And.intro C (And.intro x i)))));clear o t z C x i H h;go_upto_region 2 with fail;have m:qq y (y.alloc (.cells #[.string s] 9)):=(Upd.refl _ _).alloc _;have v:=ql y (.cells #[.string s] 9);generalize y.alloc (.cells #[.string s] 9)=O at m v ⊢;generalize D:y.heap.size=q at v ⊢;have J:=qj (And.intro m (And.intro v D));clear m v D K M;go_wp2_with fail;go_ret;obtain⟨o,t,z,C,x,i⟩:=qg I;obtain⟨m,v,D⟩:=qg J;exact⟨_,_,_,rfl,(x.trans i).trans m,⟨m.cell (qk t 0) (fun h=>h),qk v 0,m.cell (i.cell (qk o 0) (fun h=>h)) (fun h=>h)⟩,by omega,by omega,by omega⟩
theorem qpi(g E p q r:Nat)(s:ByteArray)(u:FrameMode)(w:World)(h:BackV w g E s p q r)(v:w.cell? ⟨E,0,none⟩=some (.int .i64 0)) :
  CallsD Tryz.prog 199 #[.pointer (some ⟨p,0,none⟩),.pointer (some ⟨q,0,none⟩),.pointer (some ⟨r,0,none⟩)] u w fun e i w'=>i=u∧(e = .returned (.tuple #[])∧w=w'):=by
 obtain⟨m,o,t⟩:=h
 go_enter_d Tryz.func199,Tryz.ntmps199
 go_wp2
 go_end0
 exact⟨rfl,rfl⟩
theorem qsz(g E p q r:Nat)(s t:ByteArray)(i:Int)(u:FrameMode)(w:World)(h:BackV w g E s p q r)(C:w.cell? ⟨E,0,none⟩=some (.int .i64 i))(o:(i != 0)=true)(m:Rd w g t) :
  CallsD Tryz.prog 199 #[.pointer (some ⟨p,0,none⟩),.pointer (some ⟨q,0,none⟩),.pointer (some ⟨r,0,none⟩)] u w fun e v w'=>v=u∧(e = .returned (.tuple #[])∧w'=w.setCell ⟨g,0,none⟩ (.string s)):=by
 obtain⟨x,y,z⟩:=h
 have D:=m.cell
 have H:=m.free
 go_enter_d Tryz.func199,Tryz.ntmps199
 go_wp2
 go_end0
 exact⟨rfl,rfl⟩
theorem zbt(x y:Int)(m:0≤x)(q:x<72057594037927936)(o:0≤y)(t:y≤255):bits .or .u64 (x*256) y=x*256+y:=by
 obtain⟨a,rfl⟩:=Int.eq_ofNat_of_zero_le m;obtain⟨b,rfl⟩:=Int.eq_ofNat_of_zero_le o;have e:(a:Int)*256=((a*256:Nat):Int):=by omega
 rw[e];show IntKind.u64.wrap ((BitVec.ofInt 64 ((a*256:Nat):Int) ||| BitVec.ofInt 64 (b:Int)).toNat:Int)=_;rw[BitVec.toNat_or,qeo _ (by omega),qeo _ (by omega)];have h:=Nat.shiftLeft_add_eq_or_of_lt (b:=b) (i:=8) (by omega) a;rw[Nat.shiftLeft_eq] at h;rw[show a*256=a*2 ^ 8 from rfl,←h,IntKind.wrap_u64];omega
theorem q47(s:ByteArray)(i:Nat)(m:i<8):IntKind.u64.wrap (rdN s i*256)=rdN s i*256∧0≤rdN s i∧rdN s i<72057594037927936:=by
 have h:0≤rdN s i∧rdN s i<72057594037927936:=by
  rcases (by omega:i=0∨i=1∨i=2∨i=3∨i=4∨i=5∨i=6∨i=7) with rfl | rfl | rfl | rfl | rfl | rfl | rfl | rfl
  ·have h:0≤rdN s 0∧rdN s 0<1:=qd2 s 0;omega
  ·have h:0≤rdN s 1∧rdN s 1<256:=qd2 s 1;omega
  ·have h:0≤rdN s 2∧rdN s 2<65536:=qd2 s 2;omega
  ·have h:0≤rdN s 3∧rdN s 3<16777216:=qd2 s 3;omega
  ·have h:0≤rdN s 4∧rdN s 4<4294967296:=qd2 s 4;omega
  ·have h:0≤rdN s 5∧rdN s 5<1099511627776:=qd2 s 5;omega
  ·have h:0≤rdN s 6∧rdN s 6<281474976710656:=qd2 s 6;omega
  ·exact qd2 s 7
 exact⟨qdl (by omega) (by omega),h.1,h.2⟩
theorem qmq(g n:Nat)(s:ByteArray)(w:World)(h:Rd w g s)(h1:1≤n)(h8:n≤8)(hs:n≤s.size) :
  Calls Tryz.prog 134 #[.pointer (some ⟨g,0,none⟩),.int .i64 n] w fun e w'=>e = .returned (.tuple #[.int .u64 (rdN s n),.int .i64 0])∧Upd (fun k=>k=g) w w'∧Rd w' g (s.extract n s.size):=by
 have b8:∀(fn:Fn) (first cap:Array Value) (w:World),(Instr.makeFunc fn first cap).run Tryz.prog w = .ok (.func fn first cap) w:=fun _ _ _ _=>rfl
 have b5:=h.lt
 have b0:(1:Int)≤n:=by omega
 have b3:(n:Int)≤8:=by omega
 have M:decide ((n:Int)<1)=false:=by simp;omega
 have a6:decide ((8:Int)<(n:Int))=false:=by simp;omega
 go_enter_defers Tryz.func134,Tryz.ntmps134
 go_upto_region 1 with fail
 have n1:qq w (w.alloc (.cells #[.int .i64 0] 26)):=(Upd.refl _ _).alloc _
 have hE:=ql w (.cells #[.int .i64 0] 26)
 have hH:=h.new n1
 generalize w.alloc (.cells #[.int .i64 0] 26)=w1 at n1 hE hH ⊢
 have z:g≠w.heap.size:=by omega
 generalize W:w.heap.size=E at hE z ⊢
 have a1:=qj W
 have P:=qj hE
 have N1:=qj n1
 clear W hE n1 h
 go_wp2_with fail
 refine(qjc g E s w1 hH).mono ?_
 rintro e w2 ⟨p,q,r,rfl,n2,hB,D,H,I⟩
 have HB:=qj (And.intro hB (And.intro D (And.intro H I)))
 have T:=n2.old (qg P) (fun h=>h)
 have J:=hH.new n2
 have N2:=qj ((qg N1).trans n2)
 have b4:=zi (qg P)
 clear hB hH D H I n2
 go_wp2_with fail
 refine(qyr g n s w2 J hs).mono ?_
 rintro e w3 ⟨rfl,rfl⟩
 have K:=J.set (s.extract n s.size)
 have O:Upd (fun k=>k=g) w2 (w2.setCell ⟨g,0,none⟩ (.string (s.extract n s.size))):=(Upd.refl _ _).set1 _ _
 have m:=O.old T (fun e=>z e.symm)
 generalize w2.setCell ⟨g,0,none⟩ (.string (s.extract n s.size))=w3 at K O m ⊢
 have c3:=qk m 0
 have f3:=qo m 0
 have U:=zq m 0 (.int .i64 0)
 have Z:Upd (fun k=>k=E) w3 (w3.setCell ⟨E,0,none⟩ (.int .i64 0)):=(Upd.refl _ _).set1 _ _
 have a8:(s.extract 0 n).size=n:=by rw[ByteArray.size_extract];omega
 have N:∀i,i<n→bt (s.extract 0 n) i=bt s i:=fun i hi=>qm4 s n i hi hs
 generalize s.extract 0 n=x at a8 N ⊢
 have HR:=qj K
 have HU:=qj (And.intro O (And.intro Z U))
 have HQ:=qj N
 clear T J K O m Z U N M a6
 go_upto_region 5 with fail
 generalize w3.setCell ⟨E,0,none⟩ (.int .i64 0)=w4 at HU ⊢
 have c4:w4.cell? ⟨E,0,none⟩=some (.int .i64 0):=qk (qg HU).2.2 0
 go_wp2_with fail
 go_loopw [4,27] (fun nv iv wr=>∃i:Nat,nv = .int .u64 (rdN s i)∧iv = .int .i64 (i:Int)∧i≤n∧Q w4 wr) (fun _ iv _=>n-(intOf iv).toNat)
 case atStart=>exact⟨0,rfl,rfl,Nat.zero_le _,Q.refl _⟩
 case round =>
  obtain⟨i,rfl,rfl,hi,qi⟩:=hrel;obtain⟨C,rfl⟩:∃C:World,C=wr:=⟨_,rfl⟩;clear c3 f3 c4;by_cases M:i<n
  ·have b6:(i:Int)<(n:Int):=by omega
   obtain⟨c1,d1,d2⟩:=q47 s i (by omega);obtain⟨b1,b2⟩:=qf3 s i;have b7:∀w,(Instr.index 9 (.string x) (.int .i64 (i:Int))).run Tryz.prog w = .ok (.int .u8 (bt s i)) w:=fun w=>by
    rw[←qg HQ i M];exact qey 9 x .i64 i i Tryz.underlying9 rfl (by omega) w
   have a7:=zbt (rdN s i) (bt s i) d1 d2 b1 b2;have o:rdN s (i+1)=rdN s i*256+bt s i:=rfl;generalize hy:rdN s i=y at *
   generalize hb:bt s i=b at *
   have HS:=qj o;clear o hy hb;go_wp2_with fail;go_roundw
   case rel=>exact⟨i+1,by rw[qg HS,←a7],by go_num,by omega,qi⟩
   case measure=>simp[intOf];omega
  ·obtain rfl:i=n:=by omega
   have t:=qi.old (qg HU).2.2;have f5:=qo t 0;have d5:=qk t 0;have v:=zq t 0 (.int .i64 0);have u6:Upd (fun k=>k=E) C (C.setCell ⟨E,0,none⟩ (.int .i64 0)):=(Upd.refl _ _).set1 _ _;have a2:=qj (And.intro v (And.intro u6 qi));clear t v u6 qi;generalize hV:rdN s i=V;have HV:=qj hV;clear hV;go_wp2_with fail;obtain⟨v,u6,q6⟩:=qg a2;obtain⟨O,Z,-⟩:=qg HU;obtain⟨hB,D,H,I⟩:=qg HB;have b9:=(qg N1).size;have hz:=qg a1;have Y:Upd (fun k=>k=g∨k=E) w2 (C.setCell ⟨E,0,none⟩ (.int .i64 0)):=(((O.mono (fun k _ e=>Or.inl (a:=k=g) (b:=k=E) e)).trans (Z.mono (fun k _ e=>Or.inr (a:=k=g) (b:=k=E) e))).trans (q6.upd _)).trans (u6.mono (fun k _ e=> .inr e));have R:=hB.upd Y (by omega) (by omega) (by omega);have c6:(C.setCell ⟨E,0,none⟩ (.int .i64 0)).cell? ⟨E,0,none⟩=some (.int .i64 0):=qk v 0;have X:Rd (C.setCell ⟨E,0,none⟩ (.int .i64 0)) g (s.extract i s.size):=(((qg HR).upd Z z).upd (q6.upd (fun _=>False)) (fun h=>h)).upd u6 z;have hU:Upd (fun k=>k=g) w (C.setCell ⟨E,0,none⟩ (.int .i64 0)):=((qg N2).mono (fun _ _ h=>h.elim)).then Y (fun k hk e=>e.elim id (fun e=>by omega));generalize C.setCell ⟨E,0,none⟩ (.int .i64 0)=w6 at R c6 X hU ⊢;refine leaves_cons (f:=199) (args:=#[.pointer (some ⟨p,0,none⟩),.pointer (some ⟨q,0,none⟩),.pointer (some ⟨r,0,none⟩)]) (by simp) (by simp[go_sem]) ?_;refine(qpi g E p q r s _ w6 R c6).mono ?_;rintro e u' c0 ⟨rfl,rfl,rfl⟩;simp[Go.Leaves,settle,results,Tryz.results134,go_sem,c6];exact⟨(qg HV).symm,hU,X⟩
theorem qg9(g n:Nat)(s:ByteArray)(w:World)(h:Rd w g s)(h1:1≤n)(h8:n≤8)(hs:s.size<n) :
  Calls Tryz.prog 134 #[.pointer (some ⟨g,0,none⟩),.int .i64 n] w fun e w'=>e = .returned (.tuple #[.int .u64 0,.int .i64 10])∧Upd (fun k=>k=g) w w'∧Rd w' g s:=by
 have b5:∀(fn:Fn) (first cap:Array Value) (w:World),(Instr.makeFunc fn first cap).run Tryz.prog w = .ok (.func fn first cap) w:=fun _ _ _ _=>rfl
 have b4:=h.lt
 have b1:(1:Int)≤n:=by omega
 have b2:(n:Int)≤8:=by omega
 have a6:decide ((n:Int)<1)=false:=by simp;omega
 have a2:decide ((8:Int)<(n:Int))=false:=by simp;omega
 go_enter_defers Tryz.func134,Tryz.ntmps134
 go_upto_region 1 with fail
 have V:qq w (w.alloc (.cells #[.int .i64 0] 26)):=(Upd.refl _ _).alloc _
 have T:=ql w (.cells #[.int .i64 0] 26)
 have U:=h.new V
 generalize w.alloc (.cells #[.int .i64 0] 26)=w1 at V T U ⊢
 have o:g≠w.heap.size:=by omega
 generalize J:w.heap.size=E at T o ⊢
 have Y:=qj J
 have D:=qj T
 have N1:=qj V
 clear J T V h
 go_wp2_with fail
 refine(qjc g E s w1 U).mono ?_
 rintro e w2 ⟨p,q,r,rfl,W,R,v,x,y⟩
 have HB:=qj (And.intro R (And.intro v (And.intro x y)))
 have H:=W.old (qg D) (fun h=>h)
 have z:=U.new W
 have N2:=qj ((qg N1).trans W)
 have b3:=zi (qg D)
 clear R U v x y W
 go_wp2_with fail
 refine(qop g n s w2 z hs).mono ?_
 rintro e w3 ⟨rfl,X⟩
 have K:=z.new (X.upd _)
 have i:=X.old H
 have c3:=qk i 0
 have f3:=qo i 0
 have m:=zq i 0 (.int .i64 10)
 have u4:Upd (fun k=>k=E) w3 (w3.setCell ⟨E,0,none⟩ (.int .i64 10)):=(Upd.refl _ _).set1 _ _
 have P:=qj (And.intro (K.upd u4 o) (And.intro ((X.upd (fun k=>k=E)).trans u4) m))
 clear H z K X i u4 m a6 a2
 go_upto_region 5 with fail
 generalize w3.setCell ⟨E,0,none⟩ (.int .i64 10)=t at P ⊢
 have c4:t.cell? ⟨E,0,none⟩=some (.int .i64 10):=qk (qg P).2.2 0
 have f4:t.frozen? ⟨E,0,none⟩=false:=qo (qg P).2.2 0
 have a8:t.drew.cell? ⟨E,0,none⟩=some (.int .i64 10):=c4
 have b0:t.drew.frozen? ⟨E,0,none⟩=false:=f4
 clear c3 f3
 go_wp2_with ((with_reducible first|rfl|refine' ut ?_ ?_;rotate_left|refine' uu ?_)<;>intros)
 obtain⟨a1,a7,m⟩:=qg P
 obtain⟨R,v,x,y⟩:=qg HB
 have b6:=(qg N1).size
 have hz:=qg Y
 have I:(t.setCell ⟨E,0,none⟩ (.int .i64 10)).drew.heap[E]? = _:=zq m 0 (.int .i64 10)
 have u5:Upd (fun k=>k=E) t (t.setCell ⟨E,0,none⟩ (.int .i64 10)).drew:=((Upd.refl _ _).set1 _ _).drew
 generalize (t.setCell ⟨E,0,none⟩ (.int .i64 10)).drew=C at u5 I ⊢
 have M:=a1.upd u5 o
 have O:=a7.trans u5
 have Z:=R.upd O (by omega) (by omega) (by omega)
 have c5:C.cell? ⟨E,0,none⟩=some (.int .i64 10):=qk I 0
 have u6:Upd (fun k=>k=g) C (C.setCell ⟨g,0,none⟩ (.string s)):=(Upd.refl _ _).set1 _ _
 have c6:=u6.cell c5 (fun e=>o e.symm)
 have hU:Upd (fun k=>k=g) w (C.setCell ⟨g,0,none⟩ (.string s)):=(((qg N2).mono (fun _ _ h=>h.elim)).then O (fun k hk e=>by omega)).trans u6
 refine leaves_cons (f:=199) (args:=#[.pointer (some ⟨p,0,none⟩),.pointer (some ⟨q,0,none⟩),.pointer (some ⟨r,0,none⟩)]) (by simp) (by simp[go_sem]) ?_
 refine(qsz g E p q r s s 10 _ C Z c5 (by decide) M).mono ?_
 rintro e u' b7 ⟨rfl,rfl,rfl⟩
 have N:=M.set s
 generalize C.setCell ⟨g,0,none⟩ (.string s)=w6 at c6 hU N ⊢
 simp[Go.Leaves,settle,results,Tryz.results134,go_sem,c6]
 exact⟨hU,N⟩
theorem qv7(s:ByteArray)(t:32≤s.size):((s.extract 0 32).data.toList.map fun x=>Value.int .u8 (x.toNat:Int))=qw (rdH s):=by
 have v:(s.extract 0 32).size=32:=by rw[ByteArray.size_extract];omega
 have m:(s.extract 0 32).data.toList.length=32:=by rw[←Lib.size_eq];exact v
 unfold qw rdH;rw[List.map_map];refine List.ext_getElem (by simp;omega) ?_;intro i o w;have q:i<32:=by rw[List.length_map,m] at o;exact o
 rw[List.getElem_map,List.getElem_map,List.getElem_range];show Value.int .u8 _=Value.int .u8 (bt s i);rw[←qm4 s 32 i q t];unfold bt;rw[List.getD_eq_getElem?_getD,List.getElem?_eq_getElem (by omega)];rfl
def qdj(G:Nat):Value:= .agg #[.pointer none,.pointer (some ⟨G,0,none⟩)]
def qrp(i:Int):Value:= .iface 265 (.agg #[.int .i64 i])
def qd0(i:Int)(e:Ending):Prop:=e = .panicked [{v:=qrp i,recovered:=false}]
theorem qen(i:Int)(h:(i != 0)=true)(w:World):Calls Tryz.prog 135 #[.int .i64 i] w fun e w'=>qd0 i e∧w=w':=by
 go_enter Tryz.func135,Tryz.ntmps135;go_wp2_with fail;exact⟨rfl,rfl,rfl⟩
attribute [local go_sem ↓ high] zl qaf qah qa1
attribute [local go_sem] qa9 qb3 qb7 qdp qy
theorem quo(F:FuncId)(o A p q G n:Nat)(c:Value)(m O:MsgV)(s:ByteArray)(w:World)(hE:∀args w,(callFunc F args).run Tryz.prog w = .ok (.enter F args) w)(hF:∀w,Calls Tryz.prog F #[.pointer (some ⟨A,0,none⟩)] w (qae (.pointer (some ⟨A,o,none⟩)) w))(hp:w.cell? ⟨p,0,none⟩=some (.func (.func F) #[] #[]))(hq:w.cell? ⟨q,0,none⟩=some (.int .i64 (n:Int)))(hA:MsB w A m)(ho:m.cells[o]? = some c)(hG:Rd w G s)(H:A≠G)(hn:1≤n∧n≤8)(hs:n≤s.size)(V:m.cells.toArray.setIfInBounds o (.int .u64 (rdN s n))=O.cells.toArray)(U:O.hash.length=32) :
  Calls Tryz.prog 200 #[qdj G,.pointer (some ⟨A,0,none⟩),.pointer (some ⟨p,0,none⟩),.pointer (some ⟨q,0,none⟩)] w fun e w'=>e = .returned (.tuple #[])∧Upd (fun k=>k=A∨k=G) w w'∧MsB w' A O∧Rd w' G (s.extract n s.size):=by
 skip
 unfold qdj
 go_enter Tryz.func200,Tryz.ntmps200
 go_upto_region 1 with fail
 have x:qq w (w.alloc (.cells #[.pointer none,.pointer (some ⟨G,0,none⟩)] 234)):=(Upd.refl _ _).alloc _
 have N:=ql w (.cells #[.pointer none,.pointer (some ⟨G,0,none⟩)] 234)
 generalize w.alloc (.cells #[.pointer none,.pointer (some ⟨G,0,none⟩)] 234)=w1 at x N ⊢
 generalize w.heap.size=B at N ⊢
 have W:=x.cell hp (fun h=>h)
 have K:=x.cell hq (fun h=>h)
 have Z:=qj (hA.new x)
 have T:=qj N
 have z:=qj (hG.new x)
 have N1:=qj x
 clear N hp hA hG hq x
 go_wp2_with fail
 refine(hF w1).mono ?_
 rintro e Y ⟨rfl,y⟩
 have E:=(qg Z).new (y.upd _)
 have d0:Y.cell? ⟨B,0,none⟩=some (.pointer none):=y.cell (qk (qg T) 0)
 have d1:Y.cell? ⟨B,1,none⟩=some (.pointer (some ⟨G,0,none⟩)):=y.cell (qk (qg T) 1)
 have a1:=y.cell K
 have I:=(qg z).new (y.upd _)
 have N2:=qj ((qg N1).trans (y.upd _))
 have C:=qj E
 have i:=qmq G n s Y I hn.1 hn.2 hs
 clear E y W T Z z N1 I K
 go_wp2_with fail
 refine i.mono ?_
 rintro e w3 ⟨rfl,X,J⟩
 have U3:=qj (((qg N2).mono (fun _ _ h=>h.elim)).trans (X.mono (fun k _ e=>(Or.inr e:k=A∨k=G))))
 have D:=qj ((qg C).upd X H)
 have z:=qj J
 clear i N2 X J C
 go_wp2_with fail
 refine(qef _).mono ?_
 rintro e R ⟨rfl,P⟩
 have U4:=qj ((qg U3).trans (P.upd _))
 have z:=qj ((qg z).new (P.upd _))
 have t:=(qg D).new (P.upd _)
 have co:R.cell? ⟨A,o,none⟩=some c:=by rw[qk t.at_,List.getElem?_toArray];exact ho
 have fo:R.frozen? ⟨A,o,none⟩=false:=qo t.at_ o
 have v:=zq t.at_ o (.int .u64 (rdN s n))
 rw[V] at v
 have M:Upd (fun k=>k=A) R (R.setCell ⟨A,o,none⟩ (.int .u64 (rdN s n))):=(Upd.refl _ _).set1 _ _
 have HX:=qj (And.intro (show MsB _ A O from⟨v,U⟩) M)
 clear U3 P t D v M
 go_wp2_with fail
 go_end0
 obtain⟨h1,M⟩:=qg HX
 exact⟨rfl,(qg U4).trans (M.mono (fun k _ e=> .inl e)),h1,(qg z).upd M (fun e=>H e.symm)⟩
theorem qqi(F:FuncId)(o A p q G n:Nat)(c:Value)(m:MsgV)(s:ByteArray)(w:World)(hE:∀args w,(callFunc F args).run Tryz.prog w = .ok (.enter F args) w)(Z:∀w,Calls Tryz.prog F #[.pointer (some ⟨A,0,none⟩)] w (qae (.pointer (some ⟨A,o,none⟩)) w))(U:w.cell? ⟨p,0,none⟩=some (.func (.func F) #[] #[]))(V:w.cell? ⟨q,0,none⟩=some (.int .i64 (n:Int)))(P:MsB w A m)(ho:m.cells[o]? = some c)(R:Rd w G s)(Y:A≠G)(T:1≤n∧n≤8)(hs:s.size<n) :
  Calls Tryz.prog 200 #[qdj G,.pointer (some ⟨A,0,none⟩),.pointer (some ⟨p,0,none⟩),.pointer (some ⟨q,0,none⟩)] w fun e w'=>qd0 10 e∧Upd (fun k=>k=A∨k=G) w w':=by
 unfold qdj
 go_enter Tryz.func200,Tryz.ntmps200
 go_upto_region 1 with fail
 have t:qq w (w.alloc (.cells #[.pointer none,.pointer (some ⟨G,0,none⟩)] 234)):=(Upd.refl _ _).alloc _
 have C:=ql w (.cells #[.pointer none,.pointer (some ⟨G,0,none⟩)] 234)
 generalize w.alloc (.cells #[.pointer none,.pointer (some ⟨G,0,none⟩)] 234)=w1 at t C ⊢
 generalize w.heap.size=B at C ⊢
 have I:=t.cell U (fun h=>h)
 have z:=t.cell V (fun h=>h)
 have K:=qj (P.new t)
 have E:=qj C
 have M:=qj (R.new t)
 have N:=qj t
 clear C U P R V t
 go_wp2_with fail
 refine(Z w1).mono ?_
 rintro e J ⟨rfl,v⟩
 have x:=(qg K).new (v.upd _)
 have d0:J.cell? ⟨B,0,none⟩=some (.pointer none):=v.cell (qk (qg E) 0)
 have d1:J.cell? ⟨B,1,none⟩=some (.pointer (some ⟨G,0,none⟩)):=v.cell (qk (qg E) 1)
 have a1:=v.cell z
 have y:=(qg M).new (v.upd _)
 have O:=qj ((qg N).trans (v.upd _))
 have D:=qj x
 have i:=qg9 G n s J y T.1 T.2 hs
 clear x v I E K M N y z
 go_wp2_with fail
 refine i.mono ?_
 rintro e w3 ⟨rfl,W,H⟩
 have X:=qj (((qg O).mono (fun _ _ h=>h.elim)).trans (W.mono (fun k _ e=>(Or.inr e:k=A∨k=G))))
 clear i O W H D
 go_wp2_with fail
 refine(qen 10 (by decide) _).mono ?_
 rintro e w4 ⟨rfl,rfl⟩
 exact⟨rfl,rfl,qg X⟩
theorem qun(F:FuncId)(o A p q G n:Nat)(c:Value)(m O:MsgV)(s:ByteArray)(w:World)(hE:∀args w,(callFunc F args).run Tryz.prog w = .ok (.enter F args) w)(hF:∀w,Calls Tryz.prog F #[.pointer (some ⟨A,0,none⟩)] w (qae (.pointer (some ⟨A,o,none⟩)) w))(hp:w.cell? ⟨p,0,none⟩=some (.func (.func F) #[] #[]))(hq:w.cell? ⟨q,0,none⟩=some (.int .i64 (n:Int)))(hA:MsB w A m)(ho:m.cells[o]? = some c)(hG:Rd w G s)(H:A≠G)(hn:1≤n∧n≤8)(hs:n≤s.size)(K:0≤rdN s n∧rdN s n<4294967296)(V:m.cells.toArray.setIfInBounds o (.int .i64 (rdN s n))=O.cells.toArray)(U:O.hash.length=32) :
  Calls Tryz.prog 201 #[qdj G,.pointer (some ⟨A,0,none⟩),.pointer (some ⟨p,0,none⟩),.pointer (some ⟨q,0,none⟩)] w fun e w'=>e = .returned (.tuple #[])∧Upd (fun k=>k=A∨k=G) w w'∧MsB w' A O∧Rd w' G (s.extract n s.size):=by
 have a1:IntKind.i64.wrap (rdN s n)=rdN s n:=qgq (by omega) (by omega)
 unfold qdj
 go_enter Tryz.func201,Tryz.ntmps201
 go_upto_region 1 with fail
 have x:qq w (w.alloc (.cells #[.pointer none,.pointer (some ⟨G,0,none⟩)] 234)):=(Upd.refl _ _).alloc _
 have K:=ql w (.cells #[.pointer none,.pointer (some ⟨G,0,none⟩)] 234)
 generalize w.alloc (.cells #[.pointer none,.pointer (some ⟨G,0,none⟩)] 234)=w1 at x K ⊢
 generalize w.heap.size=B at K ⊢
 have W:=x.cell hp (fun h=>h)
 have M:=x.cell hq (fun h=>h)
 have Z:=qj (hA.new x)
 have T:=qj K
 have z:=qj (hG.new x)
 have N1:=qj x
 clear K hp hA hG hq x
 go_wp2_with fail
 refine(hF w1).mono ?_
 rintro e Y ⟨rfl,y⟩
 have E:=(qg Z).new (y.upd _)
 have d0:Y.cell? ⟨B,0,none⟩=some (.pointer none):=y.cell (qk (qg T) 0)
 have d1:Y.cell? ⟨B,1,none⟩=some (.pointer (some ⟨G,0,none⟩)):=y.cell (qk (qg T) 1)
 have a2:=y.cell M
 have I:=(qg z).new (y.upd _)
 have N2:=qj ((qg N1).trans (y.upd _))
 have C:=qj E
 have i:=qmq G n s Y I hn.1 hn.2 hs
 clear E y W T Z z N1 I M
 go_wp2_with fail
 refine i.mono ?_
 rintro e w3 ⟨rfl,X,J⟩
 have U3:=qj (((qg N2).mono (fun _ _ h=>h.elim)).trans (X.mono (fun k _ e=>(Or.inr e:k=A∨k=G))))
 have D:=qj ((qg C).upd X H)
 have z:=qj J
 clear i N2 X J C
 go_wp2_with fail
 refine(qef _).mono ?_
 rintro e R ⟨rfl,P⟩
 have U4:=qj ((qg U3).trans (P.upd _))
 have z:=qj ((qg z).new (P.upd _))
 have t:=(qg D).new (P.upd _)
 have co:R.cell? ⟨A,o,none⟩=some c:=by rw[qk t.at_,List.getElem?_toArray];exact ho
 have fo:R.frozen? ⟨A,o,none⟩=false:=qo t.at_ o
 have v:=zq t.at_ o (.int .i64 (rdN s n))
 rw[V] at v
 have N:Upd (fun k=>k=A) R (R.setCell ⟨A,o,none⟩ (.int .i64 (rdN s n))):=(Upd.refl _ _).set1 _ _
 have HX:=qj (And.intro (show MsB _ A O from⟨v,U⟩) N)
 clear U3 P t D v N
 go_wp2_with fail
 go_end0
 obtain⟨h1,N⟩:=qg HX
 exact⟨rfl,(qg U4).trans (N.mono (fun k _ e=> .inl e)),h1,(qg z).upd N (fun e=>H e.symm)⟩
theorem qqh(F:FuncId)(o A p q G n:Nat)(c:Value)(m:MsgV)(s:ByteArray)(w:World)(hE:∀args w,(callFunc F args).run Tryz.prog w = .ok (.enter F args) w)(Z:∀w,Calls Tryz.prog F #[.pointer (some ⟨A,0,none⟩)] w (qae (.pointer (some ⟨A,o,none⟩)) w))(U:w.cell? ⟨p,0,none⟩=some (.func (.func F) #[] #[]))(V:w.cell? ⟨q,0,none⟩=some (.int .i64 (n:Int)))(P:MsB w A m)(ho:m.cells[o]? = some c)(R:Rd w G s)(Y:A≠G)(T:1≤n∧n≤8)(hs:s.size<n) :
  Calls Tryz.prog 201 #[qdj G,.pointer (some ⟨A,0,none⟩),.pointer (some ⟨p,0,none⟩),.pointer (some ⟨q,0,none⟩)] w fun e w'=>qd0 10 e∧Upd (fun k=>k=A∨k=G) w w':=by
 unfold qdj
 go_enter Tryz.func201,Tryz.ntmps201
 go_upto_region 1 with fail
 have t:qq w (w.alloc (.cells #[.pointer none,.pointer (some ⟨G,0,none⟩)] 234)):=(Upd.refl _ _).alloc _
 have C:=ql w (.cells #[.pointer none,.pointer (some ⟨G,0,none⟩)] 234)
 generalize w.alloc (.cells #[.pointer none,.pointer (some ⟨G,0,none⟩)] 234)=w1 at t C ⊢
 generalize w.heap.size=B at C ⊢
 have I:=t.cell U (fun h=>h)
 have z:=t.cell V (fun h=>h)
 have K:=qj (P.new t)
 have E:=qj C
 have M:=qj (R.new t)
 have N:=qj t
 clear C U P R V t
 go_wp2_with fail
 refine(Z w1).mono ?_
 rintro e J ⟨rfl,v⟩
 have x:=(qg K).new (v.upd _)
 have d0:J.cell? ⟨B,0,none⟩=some (.pointer none):=v.cell (qk (qg E) 0)
 have d1:J.cell? ⟨B,1,none⟩=some (.pointer (some ⟨G,0,none⟩)):=v.cell (qk (qg E) 1)
 have a1:=v.cell z
 have y:=(qg M).new (v.upd _)
 have O:=qj ((qg N).trans (v.upd _))
 have D:=qj x
 have i:=qg9 G n s J y T.1 T.2 hs
 clear x v I E K M N y z
 go_wp2_with fail
 refine i.mono ?_
 rintro e w3 ⟨rfl,W,H⟩
 have X:=qj (((qg O).mono (fun _ _ h=>h.elim)).trans (W.mono (fun k _ e=>(Or.inr e:k=A∨k=G))))
 clear i O W H D
 go_wp2_with fail
 refine(qen 10 (by decide) _).mono ?_
 rintro e w4 ⟨rfl,rfl⟩
 exact⟨rfl,rfl,qg X⟩
theorem q48(F:FuncId)(o A p q G n:Nat)(c:Value)(m O:MsgV)(s:ByteArray)(w:World)(hE:∀args w,(callFunc F args).run Tryz.prog w = .ok (.enter F args) w)(hF:∀w,Calls Tryz.prog F #[.pointer (some ⟨A,0,none⟩)] w (qae (.pointer (some ⟨A,o,none⟩)) w))(hp:w.cell? ⟨p,0,none⟩=some (.func (.func F) #[] #[]))(hq:w.cell? ⟨q,0,none⟩=some (.int .i64 (n:Int)))(hA:MsB w A m)(ho:m.cells[o]? = some c)(hG:Rd w G s)(H:A≠G)(hn:1≤n∧n≤8)(hs:n≤s.size)(K:0≤rdN s n∧rdN s n<4294967296)(V:m.cells.toArray.setIfInBounds o (.int .u32 (rdN s n))=O.cells.toArray)(U:O.hash.length=32) :
  Calls Tryz.prog 214 #[qdj G,.pointer (some ⟨A,0,none⟩),.pointer (some ⟨p,0,none⟩),.pointer (some ⟨q,0,none⟩)] w fun e w'=>e = .returned (.tuple #[])∧Upd (fun k=>k=A∨k=G) w w'∧MsB w' A O∧Rd w' G (s.extract n s.size):=by
 have a1:IntKind.u32.wrap (rdN s n)=rdN s n:=by rw[IntKind.wrap_u32];omega
 unfold qdj
 go_enter Tryz.func214,Tryz.ntmps214
 go_upto_region 1 with fail
 have x:qq w (w.alloc (.cells #[.pointer none,.pointer (some ⟨G,0,none⟩)] 234)):=(Upd.refl _ _).alloc _
 have K:=ql w (.cells #[.pointer none,.pointer (some ⟨G,0,none⟩)] 234)
 generalize w.alloc (.cells #[.pointer none,.pointer (some ⟨G,0,none⟩)] 234)=w1 at x K ⊢
 generalize w.heap.size=B at K ⊢
 have W:=x.cell hp (fun h=>h)
 have M:=x.cell hq (fun h=>h)
 have Z:=qj (hA.new x)
 have T:=qj K
 have z:=qj (hG.new x)
 have N1:=qj x
 clear K hp hA hG hq x
 go_wp2_with fail
 refine(hF w1).mono ?_
 rintro e Y ⟨rfl,y⟩
 have E:=(qg Z).new (y.upd _)
 have d0:Y.cell? ⟨B,0,none⟩=some (.pointer none):=y.cell (qk (qg T) 0)
 have d1:Y.cell? ⟨B,1,none⟩=some (.pointer (some ⟨G,0,none⟩)):=y.cell (qk (qg T) 1)
 have a2:=y.cell M
 have I:=(qg z).new (y.upd _)
 have N2:=qj ((qg N1).trans (y.upd _))
 have C:=qj E
 have i:=qmq G n s Y I hn.1 hn.2 hs
 clear E y W T Z z N1 I M
 go_wp2_with fail
 refine i.mono ?_
 rintro e w3 ⟨rfl,X,J⟩
 have U3:=qj (((qg N2).mono (fun _ _ h=>h.elim)).trans (X.mono (fun k _ e=>(Or.inr e:k=A∨k=G))))
 have D:=qj ((qg C).upd X H)
 have z:=qj J
 clear i N2 X J C
 go_wp2_with fail
 refine(qef _).mono ?_
 rintro e R ⟨rfl,P⟩
 have U4:=qj ((qg U3).trans (P.upd _))
 have z:=qj ((qg z).new (P.upd _))
 have t:=(qg D).new (P.upd _)
 have co:R.cell? ⟨A,o,none⟩=some c:=by rw[qk t.at_,List.getElem?_toArray];exact ho
 have fo:R.frozen? ⟨A,o,none⟩=false:=qo t.at_ o
 have v:=zq t.at_ o (.int .u32 (rdN s n))
 rw[V] at v
 have N:Upd (fun k=>k=A) R (R.setCell ⟨A,o,none⟩ (.int .u32 (rdN s n))):=(Upd.refl _ _).set1 _ _
 have HX:=qj (And.intro (show MsB _ A O from⟨v,U⟩) N)
 clear U3 P t D v N
 go_wp2_with fail
 go_end0
 obtain⟨h1,N⟩:=qg HX
 exact⟨rfl,(qg U4).trans (N.mono (fun k _ e=> .inl e)),h1,(qg z).upd N (fun e=>H e.symm)⟩
theorem q08(F:FuncId)(o A p q G n:Nat)(c:Value)(m:MsgV)(s:ByteArray)(w:World)(hE:∀args w,(callFunc F args).run Tryz.prog w = .ok (.enter F args) w)(Z:∀w,Calls Tryz.prog F #[.pointer (some ⟨A,0,none⟩)] w (qae (.pointer (some ⟨A,o,none⟩)) w))(U:w.cell? ⟨p,0,none⟩=some (.func (.func F) #[] #[]))(V:w.cell? ⟨q,0,none⟩=some (.int .i64 (n:Int)))(P:MsB w A m)(ho:m.cells[o]? = some c)(R:Rd w G s)(Y:A≠G)(T:1≤n∧n≤8)(hs:s.size<n) :
  Calls Tryz.prog 214 #[qdj G,.pointer (some ⟨A,0,none⟩),.pointer (some ⟨p,0,none⟩),.pointer (some ⟨q,0,none⟩)] w fun e w'=>qd0 10 e∧Upd (fun k=>k=A∨k=G) w w':=by
 unfold qdj
 go_enter Tryz.func214,Tryz.ntmps214
 go_upto_region 1 with fail
 have t:qq w (w.alloc (.cells #[.pointer none,.pointer (some ⟨G,0,none⟩)] 234)):=(Upd.refl _ _).alloc _
 have C:=ql w (.cells #[.pointer none,.pointer (some ⟨G,0,none⟩)] 234)
 generalize w.alloc (.cells #[.pointer none,.pointer (some ⟨G,0,none⟩)] 234)=w1 at t C ⊢
 generalize w.heap.size=B at C ⊢
 have I:=t.cell U (fun h=>h)
 have z:=t.cell V (fun h=>h)
 have K:=qj (P.new t)
 have E:=qj C
 have M:=qj (R.new t)
 have N:=qj t
 clear C U P R V t
 go_wp2_with fail
 refine(Z w1).mono ?_
 rintro e J ⟨rfl,v⟩
 have x:=(qg K).new (v.upd _)
 have d0:J.cell? ⟨B,0,none⟩=some (.pointer none):=v.cell (qk (qg E) 0)
 have d1:J.cell? ⟨B,1,none⟩=some (.pointer (some ⟨G,0,none⟩)):=v.cell (qk (qg E) 1)
 have a1:=v.cell z
 have y:=(qg M).new (v.upd _)
 have O:=qj ((qg N).trans (v.upd _))
 have D:=qj x
 have i:=qg9 G n s J y T.1 T.2 hs
 clear x v I E K M N y z
 go_wp2_with fail
 refine i.mono ?_
 rintro e w3 ⟨rfl,W,H⟩
 have X:=qj (((qg O).mono (fun _ _ h=>h.elim)).trans (W.mono (fun k _ e=>(Or.inr e:k=A∨k=G))))
 clear i O W H D
 go_wp2_with fail
 refine(qen 10 (by decide) _).mono ?_
 rintro e w4 ⟨rfl,rfl⟩
 exact⟨rfl,rfl,qg X⟩
end Go.Proofs.YtfmkdoachjgjbaaGreatDoor
