/-
  Law 18: begin, both links.
-/
import Derived.Test.YtfmkdoachjgjbaaGreatDoorLp3
import Derived.Test.YtfmkdoachjgjbaaGreatDoorMac
import Derived.Laws.BitsAllLaws
import Derived.Outline
set_option maxRecDepth 100000
set_option maxHeartbeats 2000000
set_option linter.unusedVariables false
set_option linter.unusedSimpArgs false
namespace Go.Proofs.YtfmkdoachjgjbaaGreatDoor
section
open Go.RowKit
def Pw.new(ours cap:Int):Pw:=⟨qbk (fun _=> .new (Ch.new (qde ours cap))) 1 (.new (Ch.new (qb9 ours cap))),fun _=>[],fun _=>⟨#[]⟩,false⟩
def qrj(f:World)(p:Nat)(v z:SetupV)(i:Nat)(w:World):Prop :=
 Upd (· = p) f w∧∃x y,w.heap[p]? = some (.cells (qzj x y).toArray 32 (0,0))∧(1≤i→∃g S,x = .pointer (some ⟨g,0,none⟩)∧LkS w g S (.new (Ch.new v))∧(∀k,S k→f.heap.size≤k)) ∧
  (2≤i→∃g S q m,x = .pointer (some ⟨g,0,none⟩)∧y = .pointer (some ⟨q,0,none⟩)∧LkS w g S (.new (Ch.new v))∧LkS w q m (.new (Ch.new z))∧(∀k,S k→f.heap.size≤k)∧(∀k,m k→f.heap.size≤k)∧∀k,S k→¬m k)
attribute [local go_sem ↓ high] qfo qfj qb2
attribute [local go_sem] qv qnr qm6 qee
theorem q4g(ours cap:Int)(ho:0≤ours∧ours<18446744073709551616)(hc:0≤cap∧cap<18446744073709551616)(hm:1≤cap∧cap≤1125899906842624∧ours≤cap)(w:World) :
  Calls Tryz.prog 9 #[.int .u64 ours,.int .u64 cap] w fun e w'=>∃p,e = .returned (.pointer (some ⟨p,0,none⟩))∧PwD (fun _ _=>False) w w' p (Pw.new ours cap):=by
 have L:=q7o ho hc
 have M:=q7p (ours:=ours) hc
 have a7:=q3a hm
 have a8:=q3b ho.1 hm
 go_enter Tryz.func9,Tryz.ntmps9
 go_wp2_with fail
 obtain⟨wp,S⟩:∃wp:World,wp=w.alloc (.cells #[.pointer none,.pointer none,.string ⟨#[]⟩,.string ⟨#[]⟩,.bool false] 32):=⟨_,rfl⟩
 have P:wp.heap[w.heap.size]? = some (.cells (qzj (.pointer none) (.pointer none)).toArray 32 (0,0)):=by rw[S];exact qh _ _
 have np:qu w wp:=by rw[S];exact(Upd.refl _ _).alloc _
 rw[←S]
 clear S
 obtain⟨p,b9⟩:∃p,p=w.heap.size:=⟨_,rfl⟩
 rw[←b9] at P ⊢
 have c3:w.heap.size≤p:=by omega
 clear b9
 refine(qvl ours cap wp).mono ?_
 rintro e w1 ⟨rfl,n1⟩
 obtain⟨b6,hF⟩:=qpc (qh w1 (.cells qj2.toArray 97)) (s:=qde ours cap) (t:=qb9 ours cap) rfl rfl
 have n2:qu wp ((w1.alloc (.cells qj2.toArray 97)).setCells w1.heap.size 0 (qf8 (qde ours cap) (qb9 ours cap))):=(n1.alloc _).then (qx _) (fun i hi e=>by have:=n1.size;omega)
 have c2:p<w1.heap.size:=Nat.lt_of_lt_of_le (zr P) n1.size
 obtain⟨X,b4⟩:∃X,X=qde ours cap:=⟨_,rfl⟩
 obtain⟨Y,b5⟩:∃Y,Y=qb9 ours cap:=⟨_,rfl⟩
 rw[←b4] at b6 hF n2 L a7 ⊢
 rw[←b5] at b6 hF n2 M a8 ⊢
 have b7:=qb (And.intro b4 b5)
 clear n1 b4 b5
 go_upto_region 3 with fail
 generalize (w1.alloc (.cells qj2.toArray 97)).setCells w1.heap.size 0 (qf8 X Y)=w2 at hF n2 ⊢
 generalize w1.heap.size=T at hF c2 ⊢
 clear b6 w1
 have b3:=n2.old P (fun h=>h)
 have N2:=qb (np.trans n2)
 have HF:=qb hF
 have c5:=(np.trans n2).size
 have H0:Hid (qrj w2 p X Y 0 w2):=qb ⟨Upd.refl _ _,_,_,b3,(fun h=>by omega),fun h=>by omega⟩
 have V:=qb (And.intro L (And.intro M (And.intro a7 a8)))
 have c4:p<w2.heap.size:=zr b3
 clear n2 np P hF b3 L M a7 a8
 go_wp2_with fail
 go_loopw [7] (fun iv wr=>∃i:Nat,iv = .int .i64 (i:Int)∧i≤2∧Hid (qrj w2 p X Y i wr)) (fun iv _=>2-(intOf iv).toNat)
 case atStart=>exact⟨0,rfl,by omega,H0⟩
 case round =>
  obtain⟨i,rfl,hi,hrel⟩:=hrel;obtain⟨E,rfl⟩:∃E:World,E=wr:=⟨_,rfl⟩;obtain⟨ur,x,y,F,N,O⟩:=qa hrel;have K:=(qa HF).upd ur (fun e=>by omega);have c6:=ur.size;rcases (by omega:i=0∨i=1∨i=2) with rfl | rfl | rfl
  ·rw[show ((0:Nat):Int)=0 from rfl];have r0:=K.row0;have v:=quw X (qa V).1 E.drew;have Z:=qb (And.intro ur F);clear ur F N O K hrel;go_wp2_with ((with_reducible first|rfl|refine' ut ?_ ?_;rotate_left|refine' uu ?_)<;>intros);refine v.mono ?_;rintro e C (⟨-,g,l,rfl,hN,I⟩ | ⟨a6,-⟩)
   case inr=>exact absurd (qa V).2.2.1 a6
   obtain⟨ur,F⟩:=qa Z;have I:qu E C:=I.ofDrew;have q:=I.old F (fun h=>h);have f0:=qo q 0;have c0:C.cell? ⟨p,0,none⟩=some x:=qg q 0;have m:(C.setCell ⟨p,0,none⟩ (.pointer (some ⟨g,0,none⟩))).heap[p]? = some (.cells (qzj (.pointer (some ⟨g,0,none⟩)) y).toArray 32 (0,0)):=zt q 0 (.pointer (some ⟨g,0,none⟩));have U:Upd (· = p) C (C.setCell ⟨p,0,none⟩ (.pointer (some ⟨g,0,none⟩))):=(Upd.refl _ _).set1 _ _;have hw:=hN.whole (qa V).1 (qa V).2.2.1;have H:=hN.ge;have H:E.heap.size≤g∧E.heap.size≤l.sp∧E.heap.size≤l.en∧E.heap.size≤l.lo:=H;have z:∀k,(k=g∨k=l.sp∨k=l.en∨k=l.lo)→w2.heap.size≤k:=by
    rintro k (e | e | e | e)<;>omega
   have R:=hw.upd U (fun k J e=>by have:=z k J;omega);have H4:Hid (qrj w2 p X Y 1 (C.setCell ⟨p,0,none⟩ (.pointer (some ⟨g,0,none⟩)))):=qb ⟨(ur.trans (I.mono (fun _ _ h=>h.elim))).trans U,_,_,m,(fun _=>⟨g,_,rfl,R,z⟩),fun h=>by omega⟩;have d0:(C.setCell ⟨p,0,none⟩ (.pointer (some ⟨g,0,none⟩))).cell? ⟨p,0,none⟩=some (.pointer (some ⟨g,0,none⟩)):=qg m 0;clear Z ur F I q m U hw H z R hN r0 v;go_wp2_with ((with_reducible first|rfl|refine' ut ?_ ?_;rotate_left|refine' uu ?_)<;>intros);go_roundw
   case rel=>exact⟨1,rfl,by omega,H4⟩
   case measure=>simp[intOf]
  ·rw[show ((1:Nat):Int)=1 from rfl];have r1:=K.row1;have v:=quw Y (qa V).2.1 E.drew;have Z:=qb (And.intro ur (And.intro F N));clear ur F N O K hrel;go_wp2_with ((with_reducible first|rfl|refine' ut ?_ ?_;rotate_left|refine' uu ?_)<;>intros);refine v.mono ?_;rintro e C (⟨-,g,l,rfl,hN,I⟩ | ⟨a6,-⟩)
   case inr=>exact absurd (qa V).2.2.2 a6
   obtain⟨ur,F,N⟩:=qa Z;have I:qu E C:=I.ofDrew;have q:=I.old F (fun h=>h);have f0:=qo q 1;have c0:C.cell? ⟨p,1,none⟩=some y:=qg q 1;have m:(C.setCell ⟨p,1,none⟩ (.pointer (some ⟨g,0,none⟩))).heap[p]? = some (.cells (qzj x (.pointer (some ⟨g,0,none⟩))).toArray 32 (0,0)):=zt q 1 (.pointer (some ⟨g,0,none⟩));have U:Upd (· = p) C (C.setCell ⟨p,1,none⟩ (.pointer (some ⟨g,0,none⟩))):=(Upd.refl _ _).set1 _ _;have hw:=hN.whole (qa V).2.1 (qa V).2.2.2;have H:=hN.ge;have H:E.heap.size≤g∧E.heap.size≤l.sp∧E.heap.size≤l.en∧E.heap.size≤l.lo:=H;have z:∀k,(k=g∨k=l.sp∨k=l.en∨k=l.lo)→E.heap.size≤k:=by
    rintro k (e | e | e | e)<;>omega
   have R:=hw.upd U (fun k J e=>by have:=z k J;omega);have d0:(C.setCell ⟨p,1,none⟩ (.pointer (some ⟨g,0,none⟩))).cell? ⟨p,1,none⟩=some (.pointer (some ⟨g,0,none⟩)):=qg m 1;have H4:Hid (qrj w2 p X Y 2 (C.setCell ⟨p,1,none⟩ (.pointer (some ⟨g,0,none⟩)))):=qb (by
    obtain⟨g0,S0,e0,h0,f⟩:=N (by omega);have b8:=h0.lt;exact⟨(ur.trans (I.mono (fun _ _ h=>h.elim))).trans U,_,_,m,(fun _=>⟨g0,S0,e0,(h0.new I).upd U (fun k J e=>by have:=f k J;omega),f⟩),fun _=>⟨g0,S0,g,_,e0,rfl,(h0.new I).upd U (fun k J e=>by have:=f k J;omega),R,f,fun k J=>by have:=z k J;omega,fun k h1 h2=>by have:=z k h2;have:=b8 k h1;omega⟩⟩)
   clear Z ur F I q m U hN r1 v N;go_wp2_with ((with_reducible first|rfl|refine' ut ?_ ?_;rotate_left|refine' uu ?_)<;>intros);go_roundw
   case rel=>exact⟨2,rfl,by omega,H4⟩
   case measure=>simp[intOf]
  ·rw[show ((2:Nat):Int)=2 from rfl];have Z:=qb (And.intro ur (And.intro F O));clear ur F N O K hrel;go_wp2_with ((with_reducible first|rfl|refine' ut ?_ ?_;rotate_left|refine' uu ?_)<;>intros);go_ret;obtain⟨ur,F,N⟩:=qa Z;obtain⟨g0,S0,g1,S1,rfl,rfl,h0,h1,f,W,c1⟩:=N (by omega);refine⟨p,rfl,qbk (fun _=>g0) 1 g1,qbk (fun _=>S0) 1 S1,⟨F,fun k J=> ?_,c1,fun k J i hi=> ?_,c3,fun k J e=> ?_,(qa N2).then ur (fun i hi e=>by omega),fun B o e=>e.elim⟩⟩
   ·rcases (by omega:k=0∨k=1) with rfl | rfl
    ·have:=h0.toV rfl;rw[(qa b7).1] at this;exact this
    ·have:=h1.toV rfl;rw[(qa b7).2] at this;exact this
   ·rcases (by omega:k=0∨k=1) with rfl | rfl
    ·have:=f i hi;omega
    ·have:=W i hi;omega
   ·rcases (by omega:k=0∨k=1) with rfl | rfl
    ·have:=f _ e;omega
    ·have:=W _ e;omega
end
section
open Go.RowKit
attribute [local go_sem ↓ high] qfo qfj qb2
attribute [local go_sem] qv qnr qm6 qee
end
section
open Go.RowKit
theorem qq5(a b:ByteArray):∀f:List MsgV,zz f (a++b)=a++zz f b:=by
 intro f
 induction f generalizing b with
 | nil=>rfl
 | cons m f i =>
  show zz f ((a++b)++qdw m)=a++zz f (b++qdw m);rw[qkl,i]
theorem qx7(m:MsgV)(f:List MsgV):zz (m::f) ⟨#[]⟩=qdw m++zz f ⟨#[]⟩:=by
 have p:(⟨#[]⟩:ByteArray)++qdw m=qdw m:=ByteArray.empty_append;have i:qdw m++(⟨#[]⟩:ByteArray)=qdw m:=ByteArray.append_empty;show zz f ((⟨#[]⟩:ByteArray)++qdw m)=_;rw[p,←i,qq5,i]
theorem qfs(xs f:List MsgV)(o:ByteArray):zz (xs++f) o=zz f (zz xs o):=by
 unfold zz;rw[List.foldl_append]
theorem q29(f:List MsgV)(o:ByteArray):zz f o=o++zz f ⟨#[]⟩:=by
 have e:o++(⟨#[]⟩:ByteArray)=o:=ByteArray.append_empty;have:=qq5 o ⟨#[]⟩ f;rw[e] at this;exact this
inductive HearL:Ch→Bool→List EvV→List MsgV→Ch→Bool→List EvV→List MsgV→Prop
 | nil (c:Ch) (wt:Bool) (es:List EvV):HearL c wt es [] c wt es []
 | cons {c c1 c2:Ch} {wt wt2:Bool} {es es2:List EvV} {m:MsgV} {ms M ms2:List MsgV} (h:HearC c m c1 ms) (next:HearL c1 (qre m wt) (es++qdg m wt c.xs c1.xs) M c2 wt2 es2 ms2) (he:es.length≤10000):HearL c wt es (m::M) c2 wt2 es2 (ms++ms2)
theorem HearL.one{c f:Ch}{wt:Bool}{es:List EvV}{m:MsgV}{i:List MsgV}(h:HearC c m f i)(p:es.length≤10000):HearL c wt es [m] f (qre m wt) (es++qdg m wt c.xs f.xs) i:=by
 have:=HearL.cons (wt:=wt) (es:=es) h (.nil _ _ _) p;rwa [List.append_nil] at this
theorem HearL.say{c z:Ch}{wt p:Bool}{es i:List EvV}{M v:List MsgV}(h:HearL c wt es M z p i v):(∀m∈M,SayOk m)∧∀m∈v,SayOk m:=by
 induction h with
 | nil=>exact⟨fun m h=>(by cases h),fun m h=>(by cases h)⟩
 | cons h next C q =>
  refine⟨fun m f=> ?_,fun m f=> ?_⟩
  ·rcases List.mem_cons.1 f with rfl | f
   ·exact h.say
   ·exact q.1 m f
  ·exact(List.mem_append.1 f).elim (h.says m) (q.2 m)
theorem q82{c z:Ch}{wt i:Bool}{es f:List EvV}{M p:List MsgV}(h:HearL c wt es M z i f p):∀ {l:Lk} {t:Int} {o:ByteArray} {n:Nat},LkC l c t wt o (zz M ⟨#[]⟩) n→n+M.length+p.length≤1000000→∃L,Bts l es L f 0∧LkC L z t i (zz p o) ⟨#[]⟩ (n+M.length+p.length):=by
 induction h with
 | nil c wt es=>exact fun q H=>⟨_,q83 q,q.mono (by simp)⟩
 | @cons c P z wt i es f m p M v h next K N =>
  intro l t o n q H;rw[qx7] at q;rw[List.length_cons,List.length_append] at H;have F:∃L,Bts l es L f 0∧LkC L z t i (zz v (zz p o)) ⟨#[]⟩ (n+1+p.length+M.length+v.length):=by
   obtain⟨O,I,J⟩:=q4m q h (by omega) K;obtain⟨L,E,C⟩:=N I (by omega);exact⟨L,J _ _ _ E,C⟩
  obtain⟨L,E,C⟩:=F;refine⟨L,E,?_⟩;rw[qfs];exact C.mono (by rw[List.length_cons,List.length_append];omega)
structure SignC(c c':Ch)(M:List MsgV):Prop where
 eq:(∃m,c.sign=(c',m,0)∧M=[m]∧SayOk m)∨(c.sign=(c,MsgV.zero,5)∧c'=c∧M=[])
 key:c.s.key.size≤100000000
 ch:0≤c.s.ch∧c.s.ch<4294967296
 news:c.news.length<1000000
 xs:c.xs.length≤16
theorem qem(x y:Int)(f:0≤x)(m:x<4294967296)(i:0≤y)(p:y<4294967296):bits .xor .u64 x y=bits .xor .u32 x y:=by
 rw[u64_xor x y f (by omega) i (by omega),u32_xor x y f m i p]
theorem qiq(x y:Int)(f:0≤x)(m:x<4294967296)(i:0≤y)(p:y<4294967296):bits .and .u64 x y=bits .and .u32 x y:=by
 rw[u64_and x y f (by omega) i (by omega),u32_and x y f m i p]
theorem qkg(x:Int)(f:0≤x)(i:x<4294967296):bits .xor .u32 0 x=x:=by
 rw[u32_xor 0 x (by decide) (by decide) f i];simp;omega
theorem zcl(e:Int)(f:0≤e)(i:e<4294967296):bits .xor .u32 4294967295 e=4294967295-e:=by
 rw[u32_xor 4294967295 e (by decide) (by decide) f i];obtain⟨n,rfl⟩:=Int.eq_ofNat_of_zero_le f;have h:(4294967295 ^^^ n:Nat)=4294967295-n:=by
  have m:n<2 ^ 32:=by omega
  have:=congrArg BitVec.toNat (BitVec.allOnes_xor (x:=BitVec.ofNat 32 n));rw[BitVec.toNat_xor,BitVec.toNat_not,BitVec.toNat_allOnes,BitVec.toNat_ofNat,Nat.mod_eq_of_lt m] at this;simpa using this
 rw[Int.toNat_natCast,show (4294967295:Int).toNat=4294967295 from rfl,h];omega
theorem q99(x n:Nat)(q:x<4294967296)(z:n≤32):qch x n=((x / 2 ^ n+x%2 ^ n*2 ^ (32-n):Nat):Int):=by
 unfold qch;have p:(32-(n:Int)).toNat=32-n:=by omega
 rw[Int.toNat_natCast,p];have i:2 ^ n*2 ^ (32-n)=4294967296:=by rw[←Nat.pow_add,show n+(32-n)=32 by omega]
 have f:0<2 ^ n:=Nat.pow_pos (by decide);have m:0<2 ^ (32-n):=Nat.pow_pos (by decide);have a1:(x:Int) / 2 ^ n=((x / 2 ^ n:Nat):Int):=by rw[Int.natCast_ediv,Int.natCast_pow];rfl
 have a2:(x:Int)*2 ^ (32-n)%4294967296=((x%2 ^ n*2 ^ (32-n):Nat):Int):=by
  have:x*2 ^ (32-n)%4294967296=x%2 ^ n*2 ^ (32-n):=by
   rw[←i,Nat.mul_mod_mul_right]
  rw[←this,Int.natCast_emod,Int.natCast_mul,Int.natCast_pow];rfl
 rw[a1,a2];have b1:x / 2 ^ n<2 ^ (32-n):=by rw[Nat.div_lt_iff_lt_mul f,Nat.mul_comm,i];exact q
 have b2:x%2 ^ n*2 ^ (32-n)<4294967296:=by
  rw[←i];exact Nat.mul_lt_mul_of_pos_right (Nat.mod_lt _ f) m
 have v:2 ^ (32-n)≤4294967296:=by rw[←i];exact Nat.le_mul_of_pos_left _ f
 rw[u32_or_nat _ _ (by omega) b2,Nat.or_comm,nat_join (32-n) _ _ (by rw[Nat.mul_mod_left]) b1,Nat.add_comm]
def qhj(x:Int):Nat→Int
 | 0=>x
 | k+1=>qhj x k / 2+qhj x k%2*2147483648
theorem qra(x k:Nat)(K:x<4294967296)(L:k≤31):qhj x k=((x / 2 ^ k+x%2 ^ k*2 ^ (32-k):Nat):Int)∧x / 2 ^ k+x%2 ^ k*2 ^ (32-k)<4294967296:=by
 induction k with
 | zero=>simp[qhj,Nat.mod_one];exact K
 | succ k p =>
  obtain⟨p,C⟩:=p (by omega);have I:2 ^ (32-k)=2*2 ^ (31-k):=by rw[←Nat.pow_succ',show (31-k).succ=32-k by omega]
  have q:2 ^ (k+1)=2*2 ^ k:=Nat.pow_succ';have f:2 ^ k*2 ^ (31-k)=2147483648:=by rw[←Nat.pow_add,show k+(31-k)=31 by omega]
  have J:0<2 ^ k:=Nat.pow_pos (by decide);have H:=Nat.div_add_mod x (2 ^ k);have F:=Nat.div_add_mod (x / 2 ^ k) 2;have i:x / 2 ^ k / 2=x / 2 ^ (k+1):=by rw[Nat.div_div_eq_div_mul,Nat.mul_comm (2 ^ k) 2,←q]
  have m:x%2 ^ (k+1)=x%2 ^ k+2 ^ k*(x / 2 ^ k%2):=by rw[q,Nat.mul_comm 2,Nat.mod_mul]
  have e:(x / 2 ^ k+x%2 ^ k*2 ^ (32-k)) / 2+(x / 2 ^ k+x%2 ^ k*2 ^ (32-k))%2*2147483648=x / 2 ^ (k+1)+x%2 ^ (k+1)*2 ^ (32-(k+1)):=by
   rw[show 32-(k+1)=31-k by omega,m,Nat.add_mul,←i,I];have v:x%2 ^ k*(2*2 ^ (31-k))=2*(x%2 ^ k*2 ^ (31-k)):=by rw[Nat.mul_left_comm]
   have z:2 ^ k*(x / 2 ^ k%2)*2 ^ (31-k)=x / 2 ^ k%2*2147483648:=by rw[←f,Nat.mul_comm (2 ^ k),Nat.mul_assoc]
   rw[v,z];generalize x%2 ^ k*2 ^ (31-k)=c;generalize x / 2 ^ k=y;omega
  refine⟨?_,?_⟩
  ·rw[qhj,p,←e];have E:∀y:Nat,(y:Int) / 2+(y:Int)%2*2147483648=((y / 2+y%2*2147483648:Nat):Int):=fun y=>by omega
   exact E _
  ·rw[←e];generalize x / 2 ^ k+x%2 ^ k*2 ^ (32-k)=y at C ⊢;omega
theorem qrb(x:Int)(k:Nat)(f:0≤x)(m:x<4294967296)(i:k≤31):qhj x k=qch x k:=by
 obtain⟨n,rfl⟩:=Int.eq_ofNat_of_zero_le f;rw[(qra n k (by omega) i).1,q99 n k (by omega) (by omega)]
theorem qvv(x:Int)(k:Nat)(f:0≤x)(p:x<4294967296)(m:k≤31):0≤qhj x k∧qhj x k<4294967296:=by
 obtain⟨n,rfl⟩:=Int.eq_ofNat_of_zero_le f;obtain⟨e,i⟩:=qra n k (by omega) m;rw[e];generalize n / 2 ^ k+n%2 ^ k*2 ^ (32-k)=y at i ⊢;omega
theorem qh7(x:Int)(k:Nat)(f:0≤x)(i:x<4294967296)(m:k≤31):0≤qch x k∧qch x k<4294967296:=by
 rw[←qrb x k f i m];exact qvv x k f i m
theorem qd1(x:Int)(n:Int)(w:World)(p:0≤x)(q:x<4294967296)(C:0≤n)(I:n≤31) :
  Calls Tryz.prog 126 #[.int .u64 x,.int .i64 n] w fun e w'=>e = .returned (.int .u64 (qch x n))∧w=w':=by
 obtain⟨m,rfl⟩:=Int.eq_ofNat_of_zero_le C
 have F:m≤31:=by omega
 rw[←qrb x m p q F]
 go_enter Tryz.func126,Tryz.ntmps126
 go_wp2_with fail
 go_loop [0,5] (fun H i=>∃k:Nat,i = .int .i64 (k:Int)∧k≤m∧H = .int .u64 (qhj x k)) (fun _ i=>m-(intOf i).toNat)
 case atStart=>exact⟨0,rfl,Nat.zero_le _,rfl⟩
 case round =>
  obtain⟨k,rfl,J,rfl⟩:=hrel;obtain⟨b1,b2⟩:=qvv x k p q (by omega);have z:qhj x (k+1)=qhj x k / 2+qhj x k%2*2147483648:=rfl;have f:=qb z;clear z;by_cases E:k<m
  ·have v:(k:Int)<(m:Int):=by omega
   generalize qhj x k=y at b1 b2 f ⊢;go_wp2;go_round
   case rel=>exact⟨k+1,by go_num,by omega,by rw[qa f]⟩
   case measure=>simp[intOf];omega
  ·obtain rfl:k=m:=by omega
   clear f;go_wp2;go_ret;exact⟨rfl,rfl⟩
def shR(x:Int):Nat→Int
 | 0=>x
 | k+1=>shR x k / 2
theorem zcu(x:Int)(k:Nat):shR x k=x / 2 ^ k:=by
 induction k with
 | zero=>simp[shR]
 | succ k f=>rw[shR,f,Int.pow_succ,Int.ediv_ediv_of_nonneg (Int.pow_nonneg (by decide))]
theorem zct(x:Int)(k:Nat)(f:0≤x)(i:x<18446744073709551616):0≤shR x k∧shR x k<18446744073709551616:=by
 induction k with
 | zero=>exact⟨f,i⟩
 | succ k m=>rw[shR];omega
theorem qjr(x:Int)(n:Int)(w:World)(v:0≤x)(z:x<18446744073709551616)(C:0≤n)(H:n≤64) :
  Calls Tryz.prog 96 #[.int .u64 x,.int .i64 n] w fun e w'=>e = .returned (.int .u64 (x / 2 ^ n.toNat))∧w=w':=by
 obtain⟨m,rfl⟩:=Int.eq_ofNat_of_zero_le C
 have J:m≤64:=by omega
 rw[Int.toNat_natCast,←zcu]
 go_enter Tryz.func96,Tryz.ntmps96
 go_wp2_with fail
 go_loop [0,5] (fun F i=>∃k:Nat,i = .int .i64 (k:Int)∧k≤m∧F = .int .u64 (shR x k)) (fun _ i=>m-(intOf i).toNat)
 case atStart=>exact⟨0,rfl,Nat.zero_le _,rfl⟩
 case round =>
  obtain⟨k,rfl,I,rfl⟩:=hrel;obtain⟨b1,b2⟩:=zct x k v z;have q:shR x (k+1)=shR x k / 2:=rfl;have f:=qb q;clear q;by_cases E:k<m
  ·have p:(k:Int)<(m:Int):=by omega
   generalize shR x k=y at b1 b2 f ⊢;go_wp2;go_round
   case rel=>exact⟨k+1,by go_num,by omega,by rw[qa f]⟩
   case measure=>simp[intOf];omega
  ·obtain rfl:k=m:=by omega
   clear f b2;go_wp2;go_ret;exact⟨rfl,rfl⟩
theorem q7d(x y:Int)(i:0≤x)(m:x<16777216)(f:0≤y)(p:y≤255):bits .or .u32 (x*256%4294967296) y=x*256+y:=by
 rw[show x*256%4294967296=x*256 by omega,u32_or _ _ (by omega) (by omega) f (by omega),nat_join 8 _ _ (by omega) (by omega)];omega
theorem qvy(ws:List Int)(i:Nat)(x:Int)(h:i<ws.length):wd (ws.set i x) i=x:=by
 unfold wd;rw[List.getD_eq_getElem?_getD,List.getElem?_set_self h];rfl
theorem qs7(ws:List Int)(i j:Nat)(x:Int)(h:i≠j):wd (ws.set i x) j=wd ws j:=by
 unfold wd;rw[List.getD_eq_getElem?_getD,List.getElem?_set_ne h,←List.getD_eq_getElem?_getD]
theorem qum(s:ByteArray)(i:Nat)(z:i<64)(j:Nat):j≤4*i+4→0≤wd (qa4 s j) i∧wd (qa4 s j) i<256 ^ (j-4*i):=by
 induction j with
 | zero =>
  intro _;have q:wd (qa4 s 0) i=0:=by
   show (List.replicate 64 (0:Int)).getD i 0=0;rw[List.getD_eq_getElem?_getD,List.getElem?_replicate];split<;>rfl
  rw[q,show 0-4*i=0 by omega];decide
 | succ j E =>
  intro F;obtain⟨m,f⟩:=E (by omega);rw[qed,qos];by_cases h:j / 4=i
  ·subst h;rw[qvy _ _ _ (by rw[qgj];exact z)];obtain⟨b0,b1⟩:=qfe s j;have hd:j-4*(j / 4)≤3:=by omega
   have C:wd (qa4 s j) (j / 4)<16777216:=by
    refine Int.lt_of_lt_of_le f ?_;generalize j-4*(j / 4)=d at hd
    match d,hd with
    | 0,_=>decide
    | 1,_=>decide
    | 2,_=>decide
    | 3,_=>decide
   rw[q7d _ _ m C b0 b1,show j+1-4*(j / 4)=j-4*(j / 4)+1 by omega,Int.pow_succ];generalize (256:Int) ^ (j-4*(j / 4))=p at f;omega
  ·rw[qs7 _ _ _ _ h];rcases Nat.lt_or_ge j (4*i) with v | v
   ·rw[show j+1-4*i=0 by omega];rw[show j-4*i=0 by omega] at f;exact⟨m,f⟩
   ·exfalso;omega
theorem qun(s:ByteArray)(i k:Nat)(v:i<16)(q:k<4) :
  (0≤wd (qa4 s (4*i+k)) i∧wd (qa4 s (4*i+k)) i<16777216)∧qa4 s (4*i+(k+1))=(qa4 s (4*i+k)).set i (wd (qa4 s (4*i+k)) i*256+bt s (4*i+k)):=by
 obtain⟨f,p⟩:=qum s i (by omega) (4*i+k) (by omega)
 have m:wd (qa4 s (4*i+k)) i<16777216:=by
  refine Int.lt_of_lt_of_le p ?_;rw[show 4*i+k-4*i=k by omega]
  match k,q with
  | 0,_=>decide
  | 1,_=>decide
  | 2,_=>decide
  | 3,_=>decide
 refine⟨⟨f,m⟩,?_⟩
 obtain⟨b0,b1⟩:=qfe s (4*i+k)
 rw[show 4*i+(k+1)=4*i+k+1 by omega,qed,qos,show (4*i+k) / 4=i by omega,q7d _ _ f m b0 b1]
theorem Tryz.infoR64:(Tryz.prog.info? 220).map (·.size)=some 64:=by kernel_rfl
theorem Tryz.infoR8:(Tryz.prog.info? 175).map (·.size)=some 8:=by kernel_rfl
def za8(x:Value):Sem Value:=Instr.loadAt 220 x
theorem quo(x:Value):Instr.loadAt 220 x=za8 x:=rfl
theorem zcb(b o:Nat)(w:World):(za8 (.pointer (some ⟨b,o,none⟩))).run Tryz.prog w=match zj w b o 64 with | some A=> .ok (.agg A) w | none=>qc6 Tryz.prog 220 w b o :=
 zy 220 64 _ Tryz.underlying220 rfl Tryz.infoR64 b o w
def zdp(x:Value):Sem Value:=Instr.loadAt 175 x
theorem qot(x:Value):Instr.loadAt 175 x=zdp x:=rfl
theorem zba(b o:Nat)(w:World):(zdp (.pointer (some ⟨b,o,none⟩))).run Tryz.prog w=match zj w b o 8 with | some A=> .ok (.agg A) w | none=>qc6 Tryz.prog 175 w b o :=
 zy 175 8 _ Tryz.underlying175 rfl Tryz.infoR8 b o w
def zbj(x v:Value):Sem Unit:=Instr.storeAt 220 x v
theorem qvq(x v:Value):Instr.storeAt 220 x v=zbj x v:=rfl
theorem zcv(b o:Nat)(A:Array Value)(w:World):(zbj (.pointer (some ⟨b,o,none⟩)) (.agg A)).run Tryz.prog w=if stOk w b o 64 A=true then .ok () (w.setCells b o A.toList) else qd3 Tryz.prog 220 w b o A :=
 qap 220 64 Tryz.infoR64 b o A w
def zd0(x v:Value):Sem Unit:=Instr.storeAt 175 x v
theorem qpd(x v:Value):Instr.storeAt 175 x v=zd0 x v:=rfl
theorem zbl(b o:Nat)(A:Array Value)(w:World):(zd0 (.pointer (some ⟨b,o,none⟩)) (.agg A)).run Tryz.prog w=if stOk w b o 8 A=true then .ok () (w.setCells b o A.toList) else qd3 Tryz.prog 175 w b o A :=
 qap 175 8 Tryz.infoR8 b o A w
theorem q7y(x:Int)(f:0≤x)(i:x<4294967296):bits .xor .u64 (bits .xor .u64 (qch x 7) (qch x 18)) (x / 8)=qvm x:=by
 have a:0≤qch x 7∧qch x 7<4294967296:=qh7 x 7 f i (by decide);have b:0≤qch x 18∧qch x 18<4294967296:=qh7 x 18 f i (by decide);have c:=qbv .xor (qch x 7) (qch x 18);have e:qbz x [7,18]=bits .xor .u32 (bits .xor .u32 0 (qch x 7)) (qch x 18):=rfl;unfold qvm;rw[e,qkg _ a.1 a.2];rw[qem _ _ a.1 a.2 b.1 b.2,qem _ _ c.1 c.2 (by omega) (by omega)]
theorem q7z(x:Int)(f:0≤x)(i:x<4294967296):bits .xor .u64 (bits .xor .u64 (qch x 17) (qch x 19)) (x / 1024)=qvn x:=by
 have a:0≤qch x 17∧qch x 17<4294967296:=qh7 x 17 f i (by decide);have b:0≤qch x 19∧qch x 19<4294967296:=qh7 x 19 f i (by decide);have c:=qbv .xor (qch x 17) (qch x 19);have e:qbz x [17,19]=bits .xor .u32 (bits .xor .u32 0 (qch x 17)) (qch x 19):=rfl;unfold qvn;rw[e,qkg _ a.1 a.2];rw[qem _ _ a.1 a.2 b.1 b.2,qem _ _ c.1 c.2 (by omega) (by omega)]
theorem qq8(x:Int)(f i m:Nat)(m1 v z:Int)(C:m1=f)(E:v=i)(F:z=m)(p:0≤x)(q:x<4294967296)(k1:f≤31)(k2:i≤31)(H:m≤31):bits .xor .u64 (bits .xor .u64 (qch x m1) (qch x v)) (qch x z)=qbz x [m1,v,z]:=by
 subst C E F;have a:=qh7 x f p q k1;have b:=qh7 x i p q k2;have d:=qh7 x m p q H;have c:=qbv .xor (qch x f) (qch x i);have e:qbz x [(f:Int),i,m]=bits .xor .u32 (bits .xor .u32 (bits .xor .u32 0 (qch x f)) (qch x i)) (qch x m):=rfl;rw[e,qkg _ a.1 a.2];rw[qem _ _ a.1 a.2 b.1 b.2,qem _ _ c.1 c.2 d.1 d.2]
theorem zbw(e f g:Int)(i:0≤e)(m:e<4294967296)(p:0≤f)(q:f<4294967296)(v:0≤g)(z:g<4294967296):bits .xor .u64 (bits .and .u64 e f) (bits .and .u64 (4294967295-e) g)=chI e f g:=by
 have a:=qbv .and e f;have b:=qbv .and (4294967295-e) g;unfold chI;rw[zcl e i m,qiq _ _ i m p q,qiq _ _ (by omega) (by omega) v z,qem _ _ a.1 a.2 b.1 b.2]
theorem q9w(a b c:Int)(f:0≤a)(i:a<4294967296)(m:0≤b)(p:b<4294967296)(q:0≤c)(C:c<4294967296):bits .xor .u64 (bits .xor .u64 (bits .and .u64 a b) (bits .and .u64 a c)) (bits .and .u64 b c)=qxp a b c:=by
 have x:=qbv .and a b;have y:=qbv .and a c;have z:=qbv .and b c;have v:=qbv .xor (bits .and .u32 a b) (bits .and .u32 a c);unfold qxp;rw[qiq _ _ f i m p,qiq _ _ f i q C,qiq _ _ m p q C,qem _ _ x.1 x.2 y.1 y.2,qem _ _ v.1 v.2 z.1 z.2]
theorem zac(x:Int)(w:World)(f:0≤x)(i:x<4294967296):Calls Tryz.prog 96 #[.int .u64 x,.int .i64 3] w fun e w'=>e = .returned (.int .u64 (x / 8))∧w=w':=qjr x 3 w f (by omega) (by decide) (by decide)
theorem q7w(x:Int)(w:World)(f:0≤x)(i:x<4294967296):Calls Tryz.prog 96 #[.int .u64 x,.int .i64 10] w fun e w'=>e = .returned (.int .u64 (x / 1024))∧w=w':=qjr x 10 w f (by omega) (by decide) (by decide)
def qm3:Array Value:=(qil.map (Value.int .u64)).toArray
def z64:Array Value:=((List.replicate 64 (0:Int)).map (Value.int .u64)).toArray
theorem zdn(w:World):Calls Tryz.prog 127 #[] w fun e w'=>e = .returned (.agg qm3)∧qu w w':=by
 go_enter Tryz.func127,Tryz.ntmps127;go_upto_region 0 with fail;refine wp_region_lit ?_;refine zg rfl (v:= .pointer (some ⟨w.heap.size,0,none⟩)) (w':=w.alloc (.cells z64 220)) (by kernel_rfl) ?_;have f:(w.alloc (.cells z64 220)).heap[w.heap.size]? = some (.cells z64 220 (0,0)):=qh _ _;have m:qu w (w.alloc (.cells z64 220)):=(Upd.refl _ _).alloc _;generalize w.alloc (.cells z64 220)=w1 at f m ⊢;go_upto_region 1 with fail;refine wp_region_lit ?_;refine zg rfl (v:= .agg qm3) (w':=w1) (by kernel_rfl) ?_;refine wpList_store_row rfl _ _ _ rfl w.heap.size qm3 rfl rfl 220 _ f (by kernel_rfl) (by kernel_rfl) (by kernel_rfl) ?_;have i:=setRow_heap w1 w.heap.size _ qm3 220 (0,0) f;have p:qu w (w1.setRow w.heap.size qm3):=m.setRow (fun h=>by omega) _;generalize w1.setRow w.heap.size qm3=q at i p ⊢;go_wp2_with fail;refine bodyPost_ret (results_cell_row rfl _ _ w.heap.size 220 _ (0,0) _ rfl i Tryz.underlying220 rfl (by exact Tryz.infoR64)) rfl ?_;exact⟨rfl,p⟩
end
end Go.Proofs.YtfmkdoachjgjbaaGreatDoor
