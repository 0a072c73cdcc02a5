/-
  A link hears the bytes of one frame.
-/
import Derived.Test.YtfmkdoachjgjbaaGreatDoorMcj
import Derived.Test.YtfmkdoachjgjbaaGreatDoorMcg
import Derived.Test.YtfmkdoachjgjbaaGreatDoorMbi
import Derived.Test.YtfmkdoachjgjbaaGreatDoorMad
import Derived.Defers
import Derived.Test.YtfmkdoachjgjbaaGreatDoorMcf
set_option maxRecDepth 100000
set_option maxHeartbeats 1000000
set_option linter.unusedVariables false
set_option linter.unusedSimpArgs false
namespace Go.Proofs.YtfmkdoachjgjbaaGreatDoor
open Go.RowKit
section
variable {w w':World}{g:Nat}{S T:Nat→Prop}{l:Lk}{sp en lo:Nat}{SC SJ:Nat→Prop}
theorem LkP.split(h:LkP w g S l sp en lo SC SJ)(u:Upd (fun k=>k=sp) w w'){r:ByteArray}(i:Spl w' sp r):LkP w' g S {l with rest:=r} sp en lo SC SJ :=
 ⟨u.old h.at_ h.ne,i,h.chn.upd u (fun k f e=>h.sC (e▸f)),h.jou.upd u (fun k f e=>h.sJ (e▸f)),h.inG,h.inS,h.inC,h.inJ,h.gC,h.gJ,h.sC,h.sJ,h.cJ,fun k f=>Nat.lt_of_lt_of_le (h.lt k f) u.size⟩
end
def rdN(s:ByteArray):Nat→Int
 | 0=>0
 | n+1=>rdN s n*256+bt s n
theorem qei(s:ByteArray):∀n,0≤rdN s n∧rdN s n<256 ^ n
 | 0=>⟨Int.le_refl _,by show (0:Int)<1;decide⟩
 | n+1=>by
  have h:=qei s n;have b:=qfj s n;rw[Int.pow_succ];unfold rdN;omega
theorem qob(s:ByteArray)(n i:Nat)(m:i<n)(q:n≤s.size):bt (s.extract 0 n) i=bt s i:=by
 have f:i<(s.extract 0 n).size:=by rw[ByteArray.size_extract];omega
 rw[←q4f _ i f,←q4f s i (by omega),ByteArray.getElem_extract];simp
def rdH(s:ByteArray):List Int:=(List.range 32).map (bt s)
theorem qfq(s:ByteArray):(rdH s).length=32:=by unfold rdH;simp
theorem q2l(s:ByteArray):∀b∈rdH s,0≤b∧b≤255:=by
 intro b f;obtain⟨i,-,rfl⟩:=List.mem_map.1 f;exact qfj s i
def Fld.wid:Fld→Nat
 | .ch=>4
 | .id=>8
 | .amount=>8
 | .hash=>32
 | .expiry=>4
 | .number=>2
def Fld.get(x:Fld)(s:ByteArray)(m:MsgV):MsgV :=
 match x with
 | .ch=> {m with ch:=rdN s 4}
 | .id=> {m with id:=rdN s 8}
 | .amount=> {m with amount:=rdN s 8}
 | .hash=> {m with hash:=rdH s}
 | .expiry=> {m with expiry:=rdN s 4}
 | .number=> {m with number:=rdN s 2}
theorem zbq{m:MsgV}(h:MsgOk m)(x:Fld)(s:ByteArray):MsgOk (x.get s m):=by
 have q:0≤rdN s 2∧rdN s 2<65536:=qei s 2;have i:0≤rdN s 4∧rdN s 4<4294967296:=qei s 4;have f:0≤rdN s 8∧rdN s 8<18446744073709551616:=qei s 8;cases x
 ·exact⟨h.kind,i,h.id,h.amount,h.len,h.hash,h.expiry,h.number⟩
 ·exact⟨h.kind,h.ch,f,h.amount,h.len,h.hash,h.expiry,h.number⟩
 ·exact⟨h.kind,h.ch,h.id,f,h.len,h.hash,h.expiry,h.number⟩
 ·exact⟨h.kind,h.ch,h.id,h.amount,qfq s,q2l s,h.expiry,h.number⟩
 ·exact⟨h.kind,h.ch,h.id,h.amount,h.len,h.hash,⟨show -9223372036854775808≤rdN s 4 by omega,show rdN s 4≤9223372036854775807 by omega⟩,h.number⟩
 ·exact⟨h.kind,h.ch,h.id,h.amount,h.len,h.hash,h.expiry,⟨show -9223372036854775808≤rdN s 2 by omega,show rdN s 2≤9223372036854775807 by omega⟩⟩
theorem q5m(x:Fld)(s:ByteArray)(m:MsgV):(x.get s m).kind=m.kind:=by cases x<;>rfl
def qdv:List Fld→ByteArray→MsgV→Option (MsgV × ByteArray)
 | [],s,m=>some (m,s)
 | x::xs,s,m=>if s.size<x.wid then none else qdv xs (s.extract x.wid s.size) (x.get s m)
theorem qqh(x:Fld):∀(xs:List Fld) (s:ByteArray) (m:MsgV),qdv (xs++[x]) s m=(qdv xs s m).bind fun p=>if p.2.size<x.wid then none else some (x.get p.2 p.1,p.2.extract x.wid p.2.size)
 | [],s,m=>rfl
 | y::ys,s,m=>by
  show (if s.size<y.wid then none else qdv (ys++[x]) _ _)=_;rw[qdv];split
  ·rfl
  ·exact qqh x ys _ _
theorem q03{xs:List Fld}{i:Nat}{x:Fld}(h:xs[i]? = some x){s r:ByteArray}{m n:MsgV}(f:qdv (xs.take i) s m=some (n,r)):qdv (xs.take (i+1)) s m=if r.size<x.wid then none else some (x.get r n,r.extract x.wid r.size):=by
 rw[List.take_add_one,h];show qdv (xs.take i++[x]) s m=_;rw[qqh,f];rfl
theorem q02{s:ByteArray}{m:MsgV} : ∀(xs f:List Fld),qdv xs s m=none→qdv (xs++f) s m=none:=by
 intro xs
 induction xs generalizing s m with
 | nil=>intro f h;cases h
 | cons x xs q =>
  intro f h;show (if s.size<x.wid then none else qdv (xs++f) _ _)=none;rw[qdv] at h;split
  ·rfl
  ·rename_i i;rw[if_neg i] at h;exact q f h
theorem qnp{r:ByteArray}{n:MsgV} : ∀(xs:List Fld) (s:ByteArray) (m:MsgV),MsgOk m→qdv xs s m=some (n,r)→MsgOk n∧n.kind=m.kind∧r.size≤s.size
 | [],s,m,h,e=>by
  cases e;exact⟨h,rfl,Nat.le_refl _⟩
 | x::xs,s,m,h,e=>by
  rw[qdv] at e;split at e
  ·cases e
  ·obtain⟨f,i,q⟩:=qnp xs _ _ (zbq h x s) e;rw[ByteArray.size_extract] at q;exact⟨f,i.trans (q5m x s m),by omega⟩
def qct(s:ByteArray):MsgV × Int :=
 if s.size=0 then (MsgV.zero,10) else
 match fieldsOf (bt s 0) with
 | none=>(MsgV.zero,70)
 | some xs=>match qdv xs (s.extract 1 s.size) (qbh (bt s 0)) with
  | none=>(MsgV.zero,10)
  | some (m,r)=>if r.size≠0 then (MsgV.zero,11) else if qam m=true then (m,0) else (MsgV.zero,1)
theorem q0h{s:ByteArray}(h:s.size=0):qct s=(MsgV.zero,10):=by unfold qct;rw[if_pos h]
theorem q4v{s:ByteArray}(h:s.size≠0)(f:fieldsOf (bt s 0)=none):qct s=(MsgV.zero,70):=by unfold qct;rw[if_neg h,f]
theorem q0i{s:ByteArray}{xs:List Fld}(h:s.size≠0)(f:fieldsOf (bt s 0)=some xs)(i:qdv xs (s.extract 1 s.size) (qbh (bt s 0))=none):qct s=(MsgV.zero,10):=by unfold qct;rw[if_neg h,f];simp only[];rw[i]
theorem q4w{s r:ByteArray}{m:MsgV}{xs:List Fld}(h:s.size≠0)(f:fieldsOf (bt s 0)=some xs)(i:qdv xs (s.extract 1 s.size) (qbh (bt s 0))=some (m,r))(q:r.size≠0):qct s=(MsgV.zero,11):=by unfold qct;rw[if_neg h,f];simp only[];rw[i];simp only[];rw[if_pos q]
theorem qy5{s r:ByteArray}{m:MsgV}{xs:List Fld}(h:s.size≠0)(f:fieldsOf (bt s 0)=some xs)(i:qdv xs (s.extract 1 s.size) (qbh (bt s 0))=some (m,r))(v:r.size=0)(q:qam m=true):qct s=(m,0):=by unfold qct;rw[if_neg h,f];simp only[];rw[i];simp only[];rw[if_neg (by omega),if_pos q]
theorem q82{s r:ByteArray}{m:MsgV}{xs:List Fld}(h:s.size≠0)(f:fieldsOf (bt s 0)=some xs)(i:qdv xs (s.extract 1 s.size) (qbh (bt s 0))=some (m,r))(v:r.size=0)(q:qam m=false):qct s=(MsgV.zero,1):=by unfold qct;rw[if_neg h,f];simp only[];rw[i];simp only[];rw[if_neg (by omega),if_neg (by rw[q];decide)]
def Rd(w:World)(g:Nat)(s:ByteArray):Prop:=w.heap[g]? = some (.cells #[.string s] 262 (0,0))
theorem Rd.new{w w':World}{g:Nat}{s:ByteArray}(h:Rd w g s)(n:qq w w'):Rd w' g s:=n.old h (fun h=>h)
theorem Rd.lt{w:World}{g:Nat}{s:ByteArray}(h:Rd w g s):g<w.heap.size:=zr h
theorem Rd.cell{w:World}{g:Nat}{s:ByteArray}(h:Rd w g s):w.cell? ⟨g,0,none⟩=some (.string s):=qg h 0
theorem Rd.free{w:World}{g:Nat}{s:ByteArray}(h:Rd w g s):w.frozen? ⟨g,0,none⟩=false:=qv h 0
theorem Rd.set{w:World}{g:Nat}{s:ByteArray}(h:Rd w g s)(r:ByteArray):Rd (w.setCell ⟨g,0,none⟩ (.string r)) g r:=qad h 0 _
theorem Rd.upd{w w':World}{g:Nat}{s:ByteArray}{T:Nat→Prop}(h:Rd w g s)(u:Upd T w w')(f:¬T g):Rd w' g s:=u.old h f
theorem q1w(s:ByteArray)(w:World):Calls Tryz.prog 131 #[.string s] w fun e w'=>e = .returned (.pointer (some ⟨w.heap.size,0,none⟩))∧Rd w' w.heap.size s∧qq w w'∧w'.heap.size=w.heap.size+1:=by
 go_enter Tryz.func131,Tryz.ntmps131;go_wp2_with fail;go_ret;exact⟨rfl,qj _ _,(Upd.refl _ _).alloc _,World.size_alloc _ _⟩
theorem qpj(g n:Nat)(s:ByteArray)(w:World)(h:Rd w g s)(m:s.size<n) :
  Calls Tryz.prog 167 #[.pointer (some ⟨g,0,none⟩),.int .i64 n] w (qa2 (.tuple #[.string ⟨#[]⟩,.int .i64 10]) w):=by
 have i:=h.cell
 have f:(s.size:Int)<(n:Int):=by omega
 clear h
 go_enter Tryz.func167,Tryz.ntmps167
 go_wp2_with fail
 go_ret2
 exact⟨rfl,Q.refl _⟩
theorem qzt(g n:Nat)(s:ByteArray)(w:World)(h:Rd w g s)(r:n≤s.size) :
  Calls Tryz.prog 167 #[.pointer (some ⟨g,0,none⟩),.int .i64 n] w fun e w'=>e = .returned (.tuple #[.string (s.extract 0 n),.int .i64 0])∧w.setCell ⟨g,0,none⟩ (.string (s.extract n s.size))=w':=by
 have m:=h.cell
 have q:=h.free
 have f:¬(s.size:Int)<(n:Int):=by omega
 have i:(n:Int)≤(s.size:Int):=by omega
 clear h
 go_enter Tryz.func167,Tryz.ntmps167
 go_wp2
 go_ret2
 exact⟨rfl,rfl⟩
theorem zbi(g:Nat)(s:ByteArray)(w:World)(h:Rd w g s)(f:s.size=0) :
  Calls Tryz.prog 141 #[.pointer (some ⟨g,0,none⟩)] w (qa2 (.int .i64 0) w):=by
 have i:=h.cell
 obtain rfl:s=⟨#[]⟩:=by
  cases s with | mk d=>simpa [ByteArray.size] using f
 clear h
 go_enter Tryz.func141,Tryz.ntmps141
 go_wp2
 go_ret
 exact⟨rfl,Q.refl _⟩
theorem q4z(g:Nat)(s:ByteArray)(w:World)(h:Rd w g s)(i:0<s.size) :
  Calls Tryz.prog 141 #[.pointer (some ⟨g,0,none⟩)] w (qa2 (.int .i64 11) w):=by
 have m:=h.cell
 have f:=q7s i
 clear h
 go_enter Tryz.func141,Tryz.ntmps141
 go_wp2
 go_ret
 exact⟨rfl,Q.refl _⟩
structure BackV(w:World)(g E:Nat)(s:ByteArray)(p q r:Nat):Prop where
 e:w.cell? ⟨p,0,none⟩=some (.pointer (some ⟨E,0,none⟩))
 s:w.cell? ⟨q,0,none⟩=some (.string s)
 g:w.cell? ⟨r,0,none⟩=some (.pointer (some ⟨g,0,none⟩))
theorem BackV.upd{w w':World}{g E:Nat}{s:ByteArray}{p q r:Nat}{T:Nat→Prop}(h:BackV w g E s p q r)(u:Upd T w w')(f:¬T p)(i:¬T q)(m:¬T r):BackV w' g E s p q r:=⟨u.cell h.e f,u.cell h.s i,u.cell h.g m⟩
theorem qkl(g E:Nat)(s:ByteArray)(w:World)(h:Rd w g s):Calls Tryz.prog 166 #[.pointer (some ⟨g,0,none⟩),.pointer (some ⟨E,0,none⟩)] w fun e w'=>∃p q r,e = .returned (.func (.func 199) #[] #[.pointer (some ⟨p,0,none⟩),.pointer (some ⟨q,0,none⟩),.pointer (some ⟨r,0,none⟩)])∧qq w w'∧BackV w' g E s p q r∧w.heap.size≤p∧w.heap.size≤q∧w.heap.size≤r:=by
 have O:∀(I:Fn) (first cap:Array Value) (w:World),(Instr.makeFunc I first cap).run Tryz.prog w = .ok (.func I first cap) w:=fun _ _ _ _=>rfl
 have J:=h.cell;go_enter Tryz.func166,Tryz.ntmps166;go_upto_region 1 with fail;have b1:=qj w (.cells #[.pointer (some ⟨g,0,none⟩)] 227);have v:qq w (w.alloc (.cells #[.pointer (some ⟨g,0,none⟩)] 227)):=(Upd.refl _ _).alloc _;have C:(w.alloc (.cells #[.pointer (some ⟨g,0,none⟩)] 227)).heap.size=w.heap.size+1:=World.size_alloc _ _;generalize w.alloc (.cells #[.pointer (some ⟨g,0,none⟩)] 227)=w1 at b1 v C ⊢;have b2:=qj w1 (.cells #[.pointer (some ⟨E,0,none⟩)] 268);have f:qq w1 (w1.alloc (.cells #[.pointer (some ⟨E,0,none⟩)] 268)):=(Upd.refl _ _).alloc _;have F:(w1.alloc (.cells #[.pointer (some ⟨E,0,none⟩)] 268)).heap.size=w1.heap.size+1:=World.size_alloc _ _;generalize w1.alloc (.cells #[.pointer (some ⟨E,0,none⟩)] 268)=z at b2 f F ⊢;rw[C] at b2 F;have M:z.cell? ⟨w.heap.size,0,none⟩=some (.pointer (some ⟨g,0,none⟩)):=f.cell (qg b1 0) (fun h=>h);have N:=f.cell (v.cell J (fun h=>h)) (fun h=>h);have K:=qb (And.intro b1 (And.intro b2 (And.intro C (And.intro F (And.intro v f)))));clear b1 b2 C F v f J h;go_upto_region 2 with fail;have i:qq z (z.alloc (.cells #[.string s] 9)):=(Upd.refl _ _).alloc _;have m:=qj z (.cells #[.string s] 9);generalize z.alloc (.cells #[.string s] 9)=P at i m ⊢;generalize H:z.heap.size=q at m ⊢;have L:=qb (And.intro i (And.intro m H));clear i m H M N;go_wp2_with fail;go_ret;obtain⟨b1,b2,C,F,v,f⟩:=qa K;obtain⟨i,m,H⟩:=qa L;exact⟨_,_,_,rfl,(v.trans f).trans i,⟨i.cell (qg b2 0) (fun h=>h),qg m 0,i.cell (f.cell (qg b1 0) (fun h=>h)) (fun h=>h)⟩,by omega,by omega,by omega⟩
theorem qp5(g E p q r:Nat)(s:ByteArray)(u:FrameMode)(w:World)(h:BackV w g E s p q r)(z:w.cell? ⟨E,0,none⟩=some (.int .i64 0)) :
  CallsD Tryz.prog 199 #[.pointer (some ⟨p,0,none⟩),.pointer (some ⟨q,0,none⟩),.pointer (some ⟨r,0,none⟩)] u w fun e f w'=>f=u∧(e = .returned (.tuple #[])∧w=w'):=by
 obtain⟨i,m,v⟩:=h
 go_enter_d Tryz.func199,Tryz.ntmps199
 go_wp2
 go_end0
 exact⟨rfl,rfl⟩
theorem qth(g E p q r:Nat)(s t:ByteArray)(er:Int)(u:FrameMode)(w:World)(h:BackV w g E s p q r)(F:w.cell? ⟨E,0,none⟩=some (.int .i64 er))(i:(er != 0)=true)(f:Rd w g t) :
  CallsD Tryz.prog 199 #[.pointer (some ⟨p,0,none⟩),.pointer (some ⟨q,0,none⟩),.pointer (some ⟨r,0,none⟩)] u w fun e m w'=>m=u∧(e = .returned (.tuple #[])∧w'=w.setCell ⟨g,0,none⟩ (.string s)):=by
 obtain⟨v,z,C⟩:=h
 have H:=f.cell
 have I:=f.free
 go_enter_d Tryz.func199,Tryz.ntmps199
 go_wp2
 go_end0
 exact⟨rfl,rfl⟩
theorem zdu(x y:Int)(f:0≤x)(q:x<72057594037927936)(m:0≤y)(r:y≤255):bits .or .u64 (x*256) y=x*256+y:=by
 obtain⟨a,rfl⟩:=Int.eq_ofNat_of_zero_le f;obtain⟨b,rfl⟩:=Int.eq_ofNat_of_zero_le m;have e:(a:Int)*256=((a*256:Nat):Int):=by omega
 rw[e];show IntKind.u64.wrap ((BitVec.ofInt 64 ((a*256:Nat):Int) ||| BitVec.ofInt 64 (b:Int)).toNat:Int)=_;rw[BitVec.toNat_or,qfe _ (by omega),qfe _ (by omega)];have h:=Nat.shiftLeft_add_eq_or_of_lt (b:=b) (i:=8) (by omega) a;rw[Nat.shiftLeft_eq] at h;rw[show a*256=a*2 ^ 8 from rfl,←h,IntKind.wrap_u64];omega
theorem q65(s:ByteArray)(i:Nat)(f:i<8):IntKind.u64.wrap (rdN s i*256)=rdN s i*256∧0≤rdN s i∧rdN s i<72057594037927936:=by
 have h:0≤rdN s i∧rdN s i<72057594037927936:=by
  rcases (by omega:i=0∨i=1∨i=2∨i=3∨i=4∨i=5∨i=6∨i=7) with rfl | rfl | rfl | rfl | rfl | rfl | rfl | rfl
  ·have h:0≤rdN s 0∧rdN s 0<1:=qei s 0;omega
  ·have h:0≤rdN s 1∧rdN s 1<256:=qei s 1;omega
  ·have h:0≤rdN s 2∧rdN s 2<65536:=qei s 2;omega
  ·have h:0≤rdN s 3∧rdN s 3<16777216:=qei s 3;omega
  ·have h:0≤rdN s 4∧rdN s 4<4294967296:=qei s 4;omega
  ·have h:0≤rdN s 5∧rdN s 5<1099511627776:=qei s 5;omega
  ·have h:0≤rdN s 6∧rdN s 6<281474976710656:=qei s 6;omega
  ·exact qei s 7
 exact⟨qgs (by omega) (by omega),h.1,h.2⟩
theorem qnw(g n:Nat)(s:ByteArray)(w:World)(h:Rd w g s)(h1:1≤n)(h8:n≤8)(hs:n≤s.size) :
  Calls Tryz.prog 134 #[.pointer (some ⟨g,0,none⟩),.int .i64 n] w fun e w'=>e = .returned (.tuple #[.int .u64 (rdN s n),.int .i64 0])∧Upd (fun k=>k=g) w w'∧Rd w' g (s.extract n s.size):=by
 have c2:∀(fn:Fn) (first cap:Array Value) (w:World),(Instr.makeFunc fn first cap).run Tryz.prog w = .ok (.func fn first cap) w:=fun _ _ _ _=>rfl
 have b8:=h.lt
 have b5:(1:Int)≤n:=by omega
 have b6:(n:Int)≤8:=by omega
 have N:decide ((n:Int)<1)=false:=by simp;omega
 have a8:decide ((8:Int)<(n:Int))=false:=by simp;omega
 go_enter_defers Tryz.func134,Tryz.ntmps134
 go_upto_region 1 with fail
 have n1:qq w (w.alloc (.cells #[.int .i64 0] 26)):=(Upd.refl _ _).alloc _
 have hE:=qj w (.cells #[.int .i64 0] 26)
 have hH:=h.new n1
 generalize w.alloc (.cells #[.int .i64 0] 26)=w1 at n1 hE hH ⊢
 have F:g≠w.heap.size:=by omega
 generalize W:w.heap.size=E at hE F ⊢
 have a6:=qb W
 have R:=qb hE
 have N1:=qb n1
 clear W hE n1 h
 go_wp2_with fail
 refine(qkl g E s w1 hH).mono ?_
 rintro e w2 ⟨p,q,r,rfl,n2,hB,I,J,K⟩
 have HB:=qb (And.intro hB (And.intro I (And.intro J K)))
 have T:=n2.old (qa R) (fun h=>h)
 have L:=hH.new n2
 have N2:=qb ((qa N1).trans n2)
 have b7:=zr (qa R)
 clear hB hH I J K n2
 go_wp2_with fail
 refine(qzt g n s w2 L hs).mono ?_
 rintro e w3 ⟨rfl,rfl⟩
 have M:=L.set (s.extract n s.size)
 have P:Upd (fun k=>k=g) w2 (w2.setCell ⟨g,0,none⟩ (.string (s.extract n s.size))):=(Upd.refl _ _).set1 _ _
 have m:=P.old T (fun e=>F e.symm)
 generalize w2.setCell ⟨g,0,none⟩ (.string (s.extract n s.size))=w3 at M P m ⊢
 have c3:=qg m 0
 have f3:=qv m 0
 have U:=qad m 0 (.int .i64 0)
 have Z:Upd (fun k=>k=E) w3 (w3.setCell ⟨E,0,none⟩ (.int .i64 0)):=(Upd.refl _ _).set1 _ _
 have b4:(s.extract 0 n).size=n:=by rw[ByteArray.size_extract];omega
 have O:∀i,i<n→bt (s.extract 0 n) i=bt s i:=fun i hi=>qob s n i hi hs
 generalize s.extract 0 n=x at b4 O ⊢
 have HR:=qb M
 have HU:=qb (And.intro P (And.intro Z U))
 have HQ:=qb O
 clear T L M P m Z U O N a8
 go_upto_region 5 with fail
 generalize w3.setCell ⟨E,0,none⟩ (.int .i64 0)=w4 at HU ⊢
 have c4:w4.cell? ⟨E,0,none⟩=some (.int .i64 0):=qg (qa HU).2.2 0
 go_wp2_with fail
 go_loopw [4,27] (fun nv iv wr=>∃i:Nat,nv = .int .u64 (rdN s i)∧iv = .int .i64 (i:Int)∧i≤n∧Q w4 wr) (fun _ iv _=>n-(intOf iv).toNat)
 case atStart=>exact⟨0,rfl,rfl,Nat.zero_le _,Q.refl _⟩
 case round =>
  obtain⟨i,rfl,rfl,hi,qi⟩:=hrel;obtain⟨H,rfl⟩:∃H:World,H=wr:=⟨_,rfl⟩;clear c3 f3 c4;by_cases N:i<n
  ·have b9:(i:Int)<(n:Int):=by omega
   obtain⟨c1,d1,d2⟩:=q65 s i (by omega);obtain⟨b1,b2⟩:=qfj s i;have c0:∀w,(Instr.index 9 (.string x) (.int .i64 (i:Int))).run Tryz.prog w = .ok (.int .u8 (bt s i)) w:=fun w=>by
    rw[←qa HQ i N];exact qej 9 x .i64 i i Tryz.underlying9 rfl (by omega) w
   have b3:=zdu (rdN s i) (bt s i) d1 d2 b1 b2;have v:rdN s (i+1)=rdN s i*256+bt s i:=rfl;generalize hy:rdN s i=y at *
   generalize hb:bt s i=b at *
   have HS:=qb v;clear v hy hb;go_wp2_with fail;go_roundw
   case rel=>exact⟨i+1,by rw[qa HS,←b3],by go_num,by omega,qi⟩
   case measure=>simp[intOf];omega
  ·obtain rfl:i=n:=by omega
   have z:=qi.old (qa HU).2.2;have f5:=qv z 0;have d5:=qg z 0;have C:=qad z 0 (.int .i64 0);have u6:Upd (fun k=>k=E) H (H.setCell ⟨E,0,none⟩ (.int .i64 0)):=(Upd.refl _ _).set1 _ _;have a7:=qb (And.intro C (And.intro u6 qi));clear z C u6 qi;generalize hV:rdN s i=V;have HV:=qb hV;clear hV;go_wp2_with fail;obtain⟨C,u6,q6⟩:=qa a7;obtain⟨P,Z,-⟩:=qa HU;obtain⟨hB,I,J,K⟩:=qa HB;have c5:=(qa N1).size;have hz:=qa a6;have Y:Upd (fun k=>k=g∨k=E) w2 (H.setCell ⟨E,0,none⟩ (.int .i64 0)):=(((P.mono (fun k _ e=>Or.inl (a:=k=g) (b:=k=E) e)).trans (Z.mono (fun k _ e=>Or.inr (a:=k=g) (b:=k=E) e))).trans (q6.upd _)).trans (u6.mono (fun k _ e=> .inr e));have S:=hB.upd Y (by omega) (by omega) (by omega);have c6:(H.setCell ⟨E,0,none⟩ (.int .i64 0)).cell? ⟨E,0,none⟩=some (.int .i64 0):=qg C 0;have X:Rd (H.setCell ⟨E,0,none⟩ (.int .i64 0)) g (s.extract i s.size):=(((qa HR).upd Z F).upd (q6.upd (fun _=>False)) (fun h=>h)).upd u6 F;have hU:Upd (fun k=>k=g) w (H.setCell ⟨E,0,none⟩ (.int .i64 0)):=((qa N2).mono (fun _ _ h=>h.elim)).then Y (fun k hk e=>e.elim id (fun e=>by omega));generalize H.setCell ⟨E,0,none⟩ (.int .i64 0)=w6 at S c6 X hU ⊢;refine leaves_cons (f:=199) (args:=#[.pointer (some ⟨p,0,none⟩),.pointer (some ⟨q,0,none⟩),.pointer (some ⟨r,0,none⟩)]) (by simp) (by simp[go_sem]) ?_;refine(qp5 g E p q r s _ w6 S c6).mono ?_;rintro e u' c7 ⟨rfl,rfl,rfl⟩;simp[Go.Leaves,settle,results,Tryz.results134,go_sem,c6];exact⟨(qa HV).symm,hU,X⟩
theorem qia(g n:Nat)(s:ByteArray)(w:World)(h:Rd w g s)(h1:1≤n)(h8:n≤8)(hs:s.size<n) :
  Calls Tryz.prog 134 #[.pointer (some ⟨g,0,none⟩),.int .i64 n] w fun e w'=>e = .returned (.tuple #[.int .u64 0,.int .i64 10])∧Upd (fun k=>k=g) w w'∧Rd w' g s:=by
 have c2:∀(fn:Fn) (first cap:Array Value) (w:World),(Instr.makeFunc fn first cap).run Tryz.prog w = .ok (.func fn first cap) w:=fun _ _ _ _=>rfl
 have c1:=h.lt
 have b8:(1:Int)≤n:=by omega
 have b9:(n:Int)≤8:=by omega
 have b4:decide ((n:Int)<1)=false:=by simp;omega
 have b3:decide ((8:Int)<(n:Int))=false:=by simp;omega
 go_enter_defers Tryz.func134,Tryz.ntmps134
 go_upto_region 1 with fail
 have X:qq w (w.alloc (.cells #[.int .i64 0] 26)):=(Upd.refl _ _).alloc _
 have V:=qj w (.cells #[.int .i64 0] 26)
 have W:=h.new X
 generalize w.alloc (.cells #[.int .i64 0] 26)=w1 at X V W ⊢
 have v:g≠w.heap.size:=by omega
 generalize N:w.heap.size=E at V v ⊢
 have a6:=qb N
 have K:=qb V
 have N1:=qb X
 clear N V X h
 go_wp2_with fail
 refine(qkl g E s w1 W).mono ?_
 rintro e w2 ⟨p,q,r,rfl,Y,U,C,F,H⟩
 have HB:=qb (And.intro U (And.intro C (And.intro F H)))
 have L:=Y.old (qa K) (fun h=>h)
 have I:=W.new Y
 have N2:=qb ((qa N1).trans Y)
 have c0:=zr (qa K)
 clear U W C F H Y
 go_wp2_with fail
 refine(qpj g n s w2 I hs).mono ?_
 rintro e w3 ⟨rfl,Z⟩
 have O:=I.new (Z.upd _)
 have i:=Z.old L
 have c3:=qg i 0
 have f3:=qv i 0
 have m:=qad i 0 (.int .i64 10)
 have u4:Upd (fun k=>k=E) w3 (w3.setCell ⟨E,0,none⟩ (.int .i64 10)):=(Upd.refl _ _).set1 _ _
 have T:=qb (And.intro (O.upd u4 v) (And.intro ((Z.upd (fun k=>k=E)).trans u4) m))
 clear L I O Z i u4 m b4 b3
 go_upto_region 5 with fail
 generalize w3.setCell ⟨E,0,none⟩ (.int .i64 10)=z at T ⊢
 have c4:z.cell? ⟨E,0,none⟩=some (.int .i64 10):=qg (qa T).2.2 0
 have f4:z.frozen? ⟨E,0,none⟩=false:=qv (qa T).2.2 0
 have b6:z.drew.cell? ⟨E,0,none⟩=some (.int .i64 10):=c4
 have b7:z.drew.frozen? ⟨E,0,none⟩=false:=f4
 clear c3 f3
 go_wp2_with (with_reducible first|(first|refine' tw1 (qh ?_) ?_|refine' tw2 (qh ?_) ?_);rotate_left|refine' tw3 (qh ?_)|rfl|apply tn|refine' tw4 ?_)
 obtain⟨a8,b5,m⟩:=qa T
 obtain⟨U,C,F,H⟩:=qa HB
 have c7:=(qa N1).size
 have hz:=qa a6
 have M:(z.setCell ⟨E,0,none⟩ (.int .i64 10)).drew.heap[E]? = _:=qad m 0 (.int .i64 10)
 have u5:Upd (fun k=>k=E) z (z.setCell ⟨E,0,none⟩ (.int .i64 10)).drew:=((Upd.refl _ _).set1 _ _).drew
 generalize (z.setCell ⟨E,0,none⟩ (.int .i64 10)).drew=J at u5 M ⊢
 have P:=a8.upd u5 v
 have S:=b5.trans u5
 have a7:=U.upd S (by omega) (by omega) (by omega)
 have c5:J.cell? ⟨E,0,none⟩=some (.int .i64 10):=qg M 0
 have u6:Upd (fun k=>k=g) J (J.setCell ⟨g,0,none⟩ (.string s)):=(Upd.refl _ _).set1 _ _
 have c6:=u6.cell c5 (fun e=>v e.symm)
 have hU:Upd (fun k=>k=g) w (J.setCell ⟨g,0,none⟩ (.string s)):=(((qa N2).mono (fun _ _ h=>h.elim)).then S (fun k hk e=>by omega)).trans u6
 refine leaves_cons (f:=199) (args:=#[.pointer (some ⟨p,0,none⟩),.pointer (some ⟨q,0,none⟩),.pointer (some ⟨r,0,none⟩)]) (by simp) (by simp[go_sem]) ?_
 refine(qth g E p q r s s 10 _ J a7 c5 (by decide) P).mono ?_
 rintro e u' c8 ⟨rfl,rfl,rfl⟩
 have R:=P.set s
 generalize J.setCell ⟨g,0,none⟩ (.string s)=w6 at c6 hU R ⊢
 simp[Go.Leaves,settle,results,Tryz.results134,go_sem,c6]
 exact⟨hU,R⟩
theorem qw8(s:ByteArray)(r:32≤s.size):((s.extract 0 32).data.toList.map fun x=>Value.int .u8 (x.toNat:Int))=qu (rdH s):=by
 have v:(s.extract 0 32).size=32:=by rw[ByteArray.size_extract];omega
 have f:(s.extract 0 32).data.toList.length=32:=by rw[←Lib.size_eq];exact v
 unfold qu rdH;rw[List.map_map];refine List.ext_getElem (by simp;omega) ?_;intro i m z;have q:i<32:=by rw[List.length_map,f] at m;exact m
 rw[List.getElem_map,List.getElem_map,List.getElem_range];show Value.int .u8 _=Value.int .u8 (bt s i);rw[←qob s 32 i q r];unfold bt;rw[List.getD_eq_getElem?_getD,List.getElem?_eq_getElem (by omega)];rfl
def qdz(G:Nat):Value:= .agg #[.pointer none,.pointer (some ⟨G,0,none⟩)]
def qsc(er:Int):Value:= .iface 265 (.agg #[.int .i64 er])
def qeb(er:Int)(e:Ending):Prop:=e = .panicked [{v:=qsc er,recovered:=false}]
theorem qfd(er:Int)(h:(er != 0)=true)(w:World):Calls Tryz.prog 135 #[.int .i64 er] w fun e w'=>qeb er e∧w=w':=by
 go_enter Tryz.func135,Tryz.ntmps135;go_wp2_with fail;exact⟨rfl,rfl,rfl⟩
attribute [local go_sem ↓ high] zl qag qaj qar
attribute [local go_sem] qbl qcl qcn qdm qx
theorem qu9(F:FuncId)(o A p q G n:Nat)(c:Value)(m P:MsgV)(s:ByteArray)(w:World)(hE:∀args w,(callFunc F args).run Tryz.prog w = .ok (.enter F args) w)(hF:∀w,Calls Tryz.prog F #[.pointer (some ⟨A,0,none⟩)] w (qa2 (.pointer (some ⟨A,o,none⟩)) w))(hp:w.cell? ⟨p,0,none⟩=some (.func (.func F) #[] #[]))(hq:w.cell? ⟨q,0,none⟩=some (.int .i64 (n:Int)))(hA:MsB w A m)(ho:m.cells[o]? = some c)(hG:Rd w G s)(J:A≠G)(hn:1≤n∧n≤8)(hs:n≤s.size)(V:m.cells.toArray.setIfInBounds o (.int .u64 (rdN s n))=P.cells.toArray)(U:P.hash.length=32) :
  Calls Tryz.prog 200 #[qdz G,.pointer (some ⟨A,0,none⟩),.pointer (some ⟨p,0,none⟩),.pointer (some ⟨q,0,none⟩)] w fun e w'=>e = .returned (.tuple #[])∧Upd (fun k=>k=A∨k=G) w w'∧MsB w' A P∧Rd w' G (s.extract n s.size):=by
 skip
 unfold qdz
 go_enter Tryz.func200,Tryz.ntmps200
 go_upto_region 1 with fail
 have v:qq w (w.alloc (.cells #[.pointer none,.pointer (some ⟨G,0,none⟩)] 234)):=(Upd.refl _ _).alloc _
 have O:=qj w (.cells #[.pointer none,.pointer (some ⟨G,0,none⟩)] 234)
 generalize w.alloc (.cells #[.pointer none,.pointer (some ⟨G,0,none⟩)] 234)=w1 at v O ⊢
 generalize w.heap.size=B at O ⊢
 have W:=v.cell hp (fun h=>h)
 have M:=v.cell hq (fun h=>h)
 have Z:=qb (hA.new v)
 have T:=qb O
 have C:=qb (hG.new v)
 have N1:=qb v
 clear O hp hA hG hq v
 go_wp2_with fail
 refine(hF w1).mono ?_
 rintro e Y ⟨rfl,z⟩
 have I:=(qa Z).new (z.upd _)
 have d0:Y.cell? ⟨B,0,none⟩=some (.pointer none):=z.cell (qg (qa T) 0)
 have d1:Y.cell? ⟨B,1,none⟩=some (.pointer (some ⟨G,0,none⟩)):=z.cell (qg (qa T) 1)
 have a6:=z.cell M
 have K:=(qa C).new (z.upd _)
 have N2:=qb ((qa N1).trans (z.upd _))
 have E:=qb I
 have f:=qnw G n s Y K hn.1 hn.2 hs
 clear I z W T Z C N1 K M
 go_wp2_with fail
 refine f.mono ?_
 rintro e w3 ⟨rfl,X,L⟩
 have U3:=qb (((qa N2).mono (fun _ _ h=>h.elim)).trans (X.mono (fun k _ e=>(Or.inr e:k=A∨k=G))))
 have H:=qb ((qa E).upd X J)
 have C:=qb L
 clear f N2 X L E
 go_wp2_with fail
 refine(qe3 _).mono ?_
 rintro e S ⟨rfl,R⟩
 have U4:=qb ((qa U3).trans (R.upd _))
 have C:=qb ((qa C).new (R.upd _))
 have i:=(qa H).new (R.upd _)
 have co:S.cell? ⟨A,o,none⟩=some c:=by rw[qg i.at_,List.getElem?_toArray];exact ho
 have fo:S.frozen? ⟨A,o,none⟩=false:=qv i.at_ o
 have r:=qad i.at_ o (.int .u64 (rdN s n))
 rw[V] at r
 have N:Upd (fun k=>k=A) S (S.setCell ⟨A,o,none⟩ (.int .u64 (rdN s n))):=(Upd.refl _ _).set1 _ _
 have HX:=qb (And.intro (show MsB _ A P from⟨r,U⟩) N)
 clear U3 R i H r N
 go_wp2_with fail
 go_end0
 obtain⟨h1,N⟩:=qa HX
 exact⟨rfl,(qa U4).trans (N.mono (fun k _ e=> .inl e)),h1,(qa C).upd N (fun e=>J e.symm)⟩
theorem qq2(F:FuncId)(o A p q G n:Nat)(c:Value)(m:MsgV)(s:ByteArray)(w:World)(hE:∀args w,(callFunc F args).run Tryz.prog w = .ok (.enter F args) w)(Z:∀w,Calls Tryz.prog F #[.pointer (some ⟨A,0,none⟩)] w (qa2 (.pointer (some ⟨A,o,none⟩)) w))(U:w.cell? ⟨p,0,none⟩=some (.func (.func F) #[] #[]))(V:w.cell? ⟨q,0,none⟩=some (.int .i64 (n:Int)))(R:MsB w A m)(ho:m.cells[o]? = some c)(S:Rd w G s)(Y:A≠G)(T:1≤n∧n≤8)(hs:s.size<n) :
  Calls Tryz.prog 200 #[qdz G,.pointer (some ⟨A,0,none⟩),.pointer (some ⟨p,0,none⟩),.pointer (some ⟨q,0,none⟩)] w fun e w'=>qeb 10 e∧Upd (fun k=>k=A∨k=G) w w':=by
 unfold qdz
 go_enter Tryz.func200,Tryz.ntmps200
 go_upto_region 1 with fail
 have i:qq w (w.alloc (.cells #[.pointer none,.pointer (some ⟨G,0,none⟩)] 234)):=(Upd.refl _ _).alloc _
 have E:=qj w (.cells #[.pointer none,.pointer (some ⟨G,0,none⟩)] 234)
 generalize w.alloc (.cells #[.pointer none,.pointer (some ⟨G,0,none⟩)] 234)=w1 at i E ⊢
 generalize w.heap.size=B at E ⊢
 have K:=i.cell U (fun h=>h)
 have C:=i.cell V (fun h=>h)
 have M:=qb (R.new i)
 have I:=qb E
 have N:=qb (S.new i)
 have O:=qb i
 clear E U R S V i
 go_wp2_with fail
 refine(Z w1).mono ?_
 rintro e L ⟨rfl,r⟩
 have v:=(qa M).new (r.upd _)
 have d0:L.cell? ⟨B,0,none⟩=some (.pointer none):=r.cell (qg (qa I) 0)
 have d1:L.cell? ⟨B,1,none⟩=some (.pointer (some ⟨G,0,none⟩)):=r.cell (qg (qa I) 1)
 have a6:=r.cell C
 have z:=(qa N).new (r.upd _)
 have P:=qb ((qa O).trans (r.upd _))
 have H:=qb v
 have f:=qia G n s L z T.1 T.2 hs
 clear v r K I M N O z C
 go_wp2_with fail
 refine f.mono ?_
 rintro e w3 ⟨rfl,W,J⟩
 have X:=qb (((qa P).mono (fun _ _ h=>h.elim)).trans (W.mono (fun k _ e=>(Or.inr e:k=A∨k=G))))
 clear f P W J H
 go_wp2_with fail
 refine(qfd 10 (by decide) _).mono ?_
 rintro e w4 ⟨rfl,rfl⟩
 exact⟨rfl,rfl,qa X⟩
theorem qu8(F:FuncId)(o A p q G n:Nat)(c:Value)(m P:MsgV)(s:ByteArray)(w:World)(hE:∀args w,(callFunc F args).run Tryz.prog w = .ok (.enter F args) w)(hF:∀w,Calls Tryz.prog F #[.pointer (some ⟨A,0,none⟩)] w (qa2 (.pointer (some ⟨A,o,none⟩)) w))(hp:w.cell? ⟨p,0,none⟩=some (.func (.func F) #[] #[]))(hq:w.cell? ⟨q,0,none⟩=some (.int .i64 (n:Int)))(hA:MsB w A m)(ho:m.cells[o]? = some c)(hG:Rd w G s)(J:A≠G)(hn:1≤n∧n≤8)(hs:n≤s.size)(M:0≤rdN s n∧rdN s n<4294967296)(V:m.cells.toArray.setIfInBounds o (.int .i64 (rdN s n))=P.cells.toArray)(U:P.hash.length=32) :
  Calls Tryz.prog 201 #[qdz G,.pointer (some ⟨A,0,none⟩),.pointer (some ⟨p,0,none⟩),.pointer (some ⟨q,0,none⟩)] w fun e w'=>e = .returned (.tuple #[])∧Upd (fun k=>k=A∨k=G) w w'∧MsB w' A P∧Rd w' G (s.extract n s.size):=by
 have a6:IntKind.i64.wrap (rdN s n)=rdN s n:=qjj (by omega) (by omega)
 unfold qdz
 go_enter Tryz.func201,Tryz.ntmps201
 go_upto_region 1 with fail
 have v:qq w (w.alloc (.cells #[.pointer none,.pointer (some ⟨G,0,none⟩)] 234)):=(Upd.refl _ _).alloc _
 have M:=qj w (.cells #[.pointer none,.pointer (some ⟨G,0,none⟩)] 234)
 generalize w.alloc (.cells #[.pointer none,.pointer (some ⟨G,0,none⟩)] 234)=w1 at v M ⊢
 generalize w.heap.size=B at M ⊢
 have W:=v.cell hp (fun h=>h)
 have N:=v.cell hq (fun h=>h)
 have Z:=qb (hA.new v)
 have T:=qb M
 have C:=qb (hG.new v)
 have N1:=qb v
 clear M hp hA hG hq v
 go_wp2_with fail
 refine(hF w1).mono ?_
 rintro e Y ⟨rfl,z⟩
 have I:=(qa Z).new (z.upd _)
 have d0:Y.cell? ⟨B,0,none⟩=some (.pointer none):=z.cell (qg (qa T) 0)
 have d1:Y.cell? ⟨B,1,none⟩=some (.pointer (some ⟨G,0,none⟩)):=z.cell (qg (qa T) 1)
 have a7:=z.cell N
 have K:=(qa C).new (z.upd _)
 have N2:=qb ((qa N1).trans (z.upd _))
 have E:=qb I
 have f:=qnw G n s Y K hn.1 hn.2 hs
 clear I z W T Z C N1 K N
 go_wp2_with fail
 refine f.mono ?_
 rintro e w3 ⟨rfl,X,L⟩
 have U3:=qb (((qa N2).mono (fun _ _ h=>h.elim)).trans (X.mono (fun k _ e=>(Or.inr e:k=A∨k=G))))
 have H:=qb ((qa E).upd X J)
 have C:=qb L
 clear f N2 X L E
 go_wp2_with fail
 refine(qe3 _).mono ?_
 rintro e S ⟨rfl,R⟩
 have U4:=qb ((qa U3).trans (R.upd _))
 have C:=qb ((qa C).new (R.upd _))
 have i:=(qa H).new (R.upd _)
 have co:S.cell? ⟨A,o,none⟩=some c:=by rw[qg i.at_,List.getElem?_toArray];exact ho
 have fo:S.frozen? ⟨A,o,none⟩=false:=qv i.at_ o
 have r:=qad i.at_ o (.int .i64 (rdN s n))
 rw[V] at r
 have O:Upd (fun k=>k=A) S (S.setCell ⟨A,o,none⟩ (.int .i64 (rdN s n))):=(Upd.refl _ _).set1 _ _
 have HX:=qb (And.intro (show MsB _ A P from⟨r,U⟩) O)
 clear U3 R i H r O
 go_wp2_with fail
 go_end0
 obtain⟨h1,O⟩:=qa HX
 exact⟨rfl,(qa U4).trans (O.mono (fun k _ e=> .inl e)),h1,(qa C).upd O (fun e=>J e.symm)⟩
theorem qq1(F:FuncId)(o A p q G n:Nat)(c:Value)(m:MsgV)(s:ByteArray)(w:World)(hE:∀args w,(callFunc F args).run Tryz.prog w = .ok (.enter F args) w)(Z:∀w,Calls Tryz.prog F #[.pointer (some ⟨A,0,none⟩)] w (qa2 (.pointer (some ⟨A,o,none⟩)) w))(U:w.cell? ⟨p,0,none⟩=some (.func (.func F) #[] #[]))(V:w.cell? ⟨q,0,none⟩=some (.int .i64 (n:Int)))(R:MsB w A m)(ho:m.cells[o]? = some c)(S:Rd w G s)(Y:A≠G)(T:1≤n∧n≤8)(hs:s.size<n) :
  Calls Tryz.prog 201 #[qdz G,.pointer (some ⟨A,0,none⟩),.pointer (some ⟨p,0,none⟩),.pointer (some ⟨q,0,none⟩)] w fun e w'=>qeb 10 e∧Upd (fun k=>k=A∨k=G) w w':=by
 unfold qdz
 go_enter Tryz.func201,Tryz.ntmps201
 go_upto_region 1 with fail
 have i:qq w (w.alloc (.cells #[.pointer none,.pointer (some ⟨G,0,none⟩)] 234)):=(Upd.refl _ _).alloc _
 have E:=qj w (.cells #[.pointer none,.pointer (some ⟨G,0,none⟩)] 234)
 generalize w.alloc (.cells #[.pointer none,.pointer (some ⟨G,0,none⟩)] 234)=w1 at i E ⊢
 generalize w.heap.size=B at E ⊢
 have K:=i.cell U (fun h=>h)
 have C:=i.cell V (fun h=>h)
 have M:=qb (R.new i)
 have I:=qb E
 have N:=qb (S.new i)
 have O:=qb i
 clear E U R S V i
 go_wp2_with fail
 refine(Z w1).mono ?_
 rintro e L ⟨rfl,r⟩
 have v:=(qa M).new (r.upd _)
 have d0:L.cell? ⟨B,0,none⟩=some (.pointer none):=r.cell (qg (qa I) 0)
 have d1:L.cell? ⟨B,1,none⟩=some (.pointer (some ⟨G,0,none⟩)):=r.cell (qg (qa I) 1)
 have a6:=r.cell C
 have z:=(qa N).new (r.upd _)
 have P:=qb ((qa O).trans (r.upd _))
 have H:=qb v
 have f:=qia G n s L z T.1 T.2 hs
 clear v r K I M N O z C
 go_wp2_with fail
 refine f.mono ?_
 rintro e w3 ⟨rfl,W,J⟩
 have X:=qb (((qa P).mono (fun _ _ h=>h.elim)).trans (W.mono (fun k _ e=>(Or.inr e:k=A∨k=G))))
 clear f P W J H
 go_wp2_with fail
 refine(qfd 10 (by decide) _).mono ?_
 rintro e w4 ⟨rfl,rfl⟩
 exact⟨rfl,rfl,qa X⟩
theorem q66(F:FuncId)(o A p q G n:Nat)(c:Value)(m P:MsgV)(s:ByteArray)(w:World)(hE:∀args w,(callFunc F args).run Tryz.prog w = .ok (.enter F args) w)(hF:∀w,Calls Tryz.prog F #[.pointer (some ⟨A,0,none⟩)] w (qa2 (.pointer (some ⟨A,o,none⟩)) w))(hp:w.cell? ⟨p,0,none⟩=some (.func (.func F) #[] #[]))(hq:w.cell? ⟨q,0,none⟩=some (.int .i64 (n:Int)))(hA:MsB w A m)(ho:m.cells[o]? = some c)(hG:Rd w G s)(J:A≠G)(hn:1≤n∧n≤8)(hs:n≤s.size)(M:0≤rdN s n∧rdN s n<4294967296)(V:m.cells.toArray.setIfInBounds o (.int .u32 (rdN s n))=P.cells.toArray)(U:P.hash.length=32) :
  Calls Tryz.prog 214 #[qdz G,.pointer (some ⟨A,0,none⟩),.pointer (some ⟨p,0,none⟩),.pointer (some ⟨q,0,none⟩)] w fun e w'=>e = .returned (.tuple #[])∧Upd (fun k=>k=A∨k=G) w w'∧MsB w' A P∧Rd w' G (s.extract n s.size):=by
 have a6:IntKind.u32.wrap (rdN s n)=rdN s n:=by rw[IntKind.wrap_u32];omega
 unfold qdz
 go_enter Tryz.func214,Tryz.ntmps214
 go_upto_region 1 with fail
 have v:qq w (w.alloc (.cells #[.pointer none,.pointer (some ⟨G,0,none⟩)] 234)):=(Upd.refl _ _).alloc _
 have M:=qj w (.cells #[.pointer none,.pointer (some ⟨G,0,none⟩)] 234)
 generalize w.alloc (.cells #[.pointer none,.pointer (some ⟨G,0,none⟩)] 234)=w1 at v M ⊢
 generalize w.heap.size=B at M ⊢
 have W:=v.cell hp (fun h=>h)
 have N:=v.cell hq (fun h=>h)
 have Z:=qb (hA.new v)
 have T:=qb M
 have C:=qb (hG.new v)
 have N1:=qb v
 clear M hp hA hG hq v
 go_wp2_with fail
 refine(hF w1).mono ?_
 rintro e Y ⟨rfl,z⟩
 have I:=(qa Z).new (z.upd _)
 have d0:Y.cell? ⟨B,0,none⟩=some (.pointer none):=z.cell (qg (qa T) 0)
 have d1:Y.cell? ⟨B,1,none⟩=some (.pointer (some ⟨G,0,none⟩)):=z.cell (qg (qa T) 1)
 have a7:=z.cell N
 have K:=(qa C).new (z.upd _)
 have N2:=qb ((qa N1).trans (z.upd _))
 have E:=qb I
 have f:=qnw G n s Y K hn.1 hn.2 hs
 clear I z W T Z C N1 K N
 go_wp2_with fail
 refine f.mono ?_
 rintro e w3 ⟨rfl,X,L⟩
 have U3:=qb (((qa N2).mono (fun _ _ h=>h.elim)).trans (X.mono (fun k _ e=>(Or.inr e:k=A∨k=G))))
 have H:=qb ((qa E).upd X J)
 have C:=qb L
 clear f N2 X L E
 go_wp2_with fail
 refine(qe3 _).mono ?_
 rintro e S ⟨rfl,R⟩
 have U4:=qb ((qa U3).trans (R.upd _))
 have C:=qb ((qa C).new (R.upd _))
 have i:=(qa H).new (R.upd _)
 have co:S.cell? ⟨A,o,none⟩=some c:=by rw[qg i.at_,List.getElem?_toArray];exact ho
 have fo:S.frozen? ⟨A,o,none⟩=false:=qv i.at_ o
 have r:=qad i.at_ o (.int .u32 (rdN s n))
 rw[V] at r
 have O:Upd (fun k=>k=A) S (S.setCell ⟨A,o,none⟩ (.int .u32 (rdN s n))):=(Upd.refl _ _).set1 _ _
 have HX:=qb (And.intro (show MsB _ A P from⟨r,U⟩) O)
 clear U3 R i H r O
 go_wp2_with fail
 go_end0
 obtain⟨h1,O⟩:=qa HX
 exact⟨rfl,(qa U4).trans (O.mono (fun k _ e=> .inl e)),h1,(qa C).upd O (fun e=>J e.symm)⟩
theorem q2o(F:FuncId)(o A p q G n:Nat)(c:Value)(m:MsgV)(s:ByteArray)(w:World)(hE:∀args w,(callFunc F args).run Tryz.prog w = .ok (.enter F args) w)(Z:∀w,Calls Tryz.prog F #[.pointer (some ⟨A,0,none⟩)] w (qa2 (.pointer (some ⟨A,o,none⟩)) w))(U:w.cell? ⟨p,0,none⟩=some (.func (.func F) #[] #[]))(V:w.cell? ⟨q,0,none⟩=some (.int .i64 (n:Int)))(R:MsB w A m)(ho:m.cells[o]? = some c)(S:Rd w G s)(Y:A≠G)(T:1≤n∧n≤8)(hs:s.size<n) :
  Calls Tryz.prog 214 #[qdz G,.pointer (some ⟨A,0,none⟩),.pointer (some ⟨p,0,none⟩),.pointer (some ⟨q,0,none⟩)] w fun e w'=>qeb 10 e∧Upd (fun k=>k=A∨k=G) w w':=by
 unfold qdz
 go_enter Tryz.func214,Tryz.ntmps214
 go_upto_region 1 with fail
 have i:qq w (w.alloc (.cells #[.pointer none,.pointer (some ⟨G,0,none⟩)] 234)):=(Upd.refl _ _).alloc _
 have E:=qj w (.cells #[.pointer none,.pointer (some ⟨G,0,none⟩)] 234)
 generalize w.alloc (.cells #[.pointer none,.pointer (some ⟨G,0,none⟩)] 234)=w1 at i E ⊢
 generalize w.heap.size=B at E ⊢
 have K:=i.cell U (fun h=>h)
 have C:=i.cell V (fun h=>h)
 have M:=qb (R.new i)
 have I:=qb E
 have N:=qb (S.new i)
 have O:=qb i
 clear E U R S V i
 go_wp2_with fail
 refine(Z w1).mono ?_
 rintro e L ⟨rfl,r⟩
 have v:=(qa M).new (r.upd _)
 have d0:L.cell? ⟨B,0,none⟩=some (.pointer none):=r.cell (qg (qa I) 0)
 have d1:L.cell? ⟨B,1,none⟩=some (.pointer (some ⟨G,0,none⟩)):=r.cell (qg (qa I) 1)
 have a6:=r.cell C
 have z:=(qa N).new (r.upd _)
 have P:=qb ((qa O).trans (r.upd _))
 have H:=qb v
 have f:=qia G n s L z T.1 T.2 hs
 clear v r K I M N O z C
 go_wp2_with fail
 refine f.mono ?_
 rintro e w3 ⟨rfl,W,J⟩
 have X:=qb (((qa P).mono (fun _ _ h=>h.elim)).trans (W.mono (fun k _ e=>(Or.inr e:k=A∨k=G))))
 clear f P W J H
 go_wp2_with fail
 refine(qfd 10 (by decide) _).mono ?_
 rintro e w4 ⟨rfl,rfl⟩
 exact⟨rfl,rfl,qa X⟩
end Go.Proofs.YtfmkdoachjgjbaaGreatDoor
