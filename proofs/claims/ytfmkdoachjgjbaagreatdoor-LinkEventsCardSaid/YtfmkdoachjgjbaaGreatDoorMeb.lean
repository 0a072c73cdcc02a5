/-
  Law 18: begin, where there is no such pair.
-/
import Derived.Test.YtfmkdoachjgjbaaGreatDoorLp4
import Derived.Test.YtfmkdoachjgjbaaGreatDoorMad
import Derived.Laws.BitsAllLaws
import Derived.Outline
set_option linter.unusedVariables false
set_option linter.unusedSimpArgs false
namespace Go.Proofs.YtfmkdoachjgjbaaGreatDoor
open Go.RowKit
attribute [local go_sem ↓ high] qfj qfc qb4
attribute [local go_sem] qw qnt qnb qd8
set_option maxRecDepth 100000 in
set_option maxHeartbeats 2000000 in
theorem qzn(ours cap:Int)(ho:0≤ours∧ours<18446744073709551616)(hc:0≤cap∧cap<18446744073709551616)(hm:¬(1≤cap∧cap≤1125899906842624∧ours≤cap))(w:World) :
  Calls Tryz.prog 9 #[.int .u64 ours,.int .u64 cap] w (qa5 (.pointer none) w):=by
 have f:=qu5 ho hc
 have m:=qu6 (ours:=ours) hc
 have F:¬(qci ours cap).may:=fun h=>hm ⟨h.1,h.2.1,h.2.2.1⟩
 go_enter Tryz.func9,Tryz.ntmps9
 go_wp2_with fail
 obtain⟨N,z⟩:∃N:World,N=w.alloc (.cells #[.pointer none,.pointer none,.string ⟨#[]⟩,.string ⟨#[]⟩,.bool false] 32):=⟨_,rfl⟩
 have q:N.heap[w.heap.size]? = some (.cells (qqt (.pointer none) (.pointer none)).toArray 32 (0,0)):=by rw[z];exact qj _ _
 have Y:qq w N:=by rw[z];exact(Upd.refl _ _).alloc _
 rw[←z]
 clear z
 obtain⟨p,P⟩:∃p,p=w.heap.size:=⟨_,rfl⟩
 rw[←P] at q ⊢
 have a7:w.heap.size≤p:=by omega
 clear P
 refine(qmw ours cap N).mono ?_
 rintro e w1 ⟨rfl,U⟩
 obtain⟨J,L⟩:=qkg (qj w1 (.cells qhd.toArray 97)) (s:=qci ours cap) (t:=qb8 ours cap) rfl rfl
 have K:qq N ((w1.alloc (.cells qhd.toArray 97)).setCells w1.heap.size 0 (qer (qci ours cap) (qb8 ours cap))):=(U.alloc _).then (zj _) (fun i hi e=>by have:=U.size;omega)
 have X:p<w1.heap.size:=Nat.lt_of_lt_of_le (zr q) U.size
 obtain⟨V,I⟩:∃V,V=qci ours cap:=⟨_,rfl⟩
 obtain⟨Z,R⟩:∃Z,Z=qb8 ours cap:=⟨_,rfl⟩
 rw[←I] at J L K f F ⊢
 rw[←R] at J L K m ⊢
 have a6:=qb I
 clear U I R
 go_upto_region 3 with fail
 generalize (w1.alloc (.cells qhd.toArray 97)).setCells w1.heap.size 0 (qer V Z)=w2 at L K ⊢
 generalize w1.heap.size=T at L X ⊢
 clear J w1
 have H:=K.old q (fun h=>h)
 have N2:=qb (Y.trans K)
 have HF:=qb L
 have b3:=(Y.trans K).size
 have H0:=qb H
 have HO:=qb (And.intro f (And.intro m F))
 have a8:p<w2.heap.size:=zr H
 clear K Y q L H f m F
 go_wp2_with fail
 go_loopw [7] (fun iv wr=>iv = .int .i64 0∧wr=w2) (fun iv _=>0)
 case atStart=>exact⟨rfl,rfl⟩
 case round =>
  obtain⟨rfl,rfl⟩:=hrel;have O:=qa H0;have r0:=(qa HF).row0;have C:=qos V (qa HO).1 wr.drew;have HQ:=qb O;clear O H0;go_wp2_with (with_reducible first|(first|refine' tw1 (qh ?_) ?_|refine' tw2 (qh ?_) ?_);rotate_left|refine' tw3 (qh ?_)|rfl|apply tn|refine' tw4 ?_);refine C.mono ?_;rintro e M (⟨W,-⟩ | ⟨-,rfl,S⟩)
  case inl=>exact absurd W (qa HO).2.2
  have O:=qa HQ;have S:qq wr M:=S.ofDrew;have v:=S.old O (fun h=>h);have f0:=qu v 0;have c0:M.cell? ⟨p,0,none⟩=some (.pointer none):=qg v 0;have E:(M.setCell ⟨p,0,none⟩ (.pointer none)).heap[p]? = some (.cells (qqt (.pointer none) (.pointer none)).toArray 32 (0,0)):=zv v 0 (.pointer none);have u4:Upd (· = p) M (M.setCell ⟨p,0,none⟩ (.pointer none)):=(Upd.refl _ _).set1 _ _;have d0:(M.setCell ⟨p,0,none⟩ (.pointer none)).cell? ⟨p,0,none⟩=some (.pointer none):=qg E 0;have HN:=qb (((qa N2).trans S).then u4 (fun k hk e=>by have e:k=p:=e;omega));clear HQ O S v E u4 r0 C;go_wp2_with (with_reducible first|(first|refine' tw1 (qh ?_) ?_|refine' tw2 (qh ?_) ?_);rotate_left|refine' tw3 (qh ?_)|rfl|apply tn|refine' tw4 ?_);go_ret;exact⟨rfl,qa HN⟩
end Go.Proofs.YtfmkdoachjgjbaaGreatDoor
namespace Go.Proofs.YtfmkdoachjgjbaaGreatDoor
open Go.RowKit
theorem qqz(a b:ByteArray):∀f:List MsgV,qam f (a++b)=a++qam f b:=by
 intro f
 induction f generalizing b with
 | nil=>rfl
 | cons m f i =>
  show qam f ((a++b)++qeb m)=a++qam f (b++qeb m);rw[qkl,i]
theorem qxz(m:MsgV)(f:List MsgV):qam (m::f) ⟨#[]⟩=qeb m++qam f ⟨#[]⟩:=by
 have q:(⟨#[]⟩:ByteArray)++qeb m=qeb m:=ByteArray.empty_append;have i:qeb m++(⟨#[]⟩:ByteArray)=qeb m:=ByteArray.append_empty;show qam f ((⟨#[]⟩:ByteArray)++qeb m)=_;rw[q,←i,qqz,i]
theorem qfp(xs f:List MsgV)(o:ByteArray):qam (xs++f) o=qam f (qam xs o):=by
 unfold qam;rw[List.foldl_append]
theorem q2l(f:List MsgV)(o:ByteArray):qam f o=o++qam f ⟨#[]⟩:=by
 have e:o++(⟨#[]⟩:ByteArray)=o:=ByteArray.append_empty;have:=qqz o ⟨#[]⟩ f;rw[e] at this;exact this
inductive HearL:Ch→Bool→List EvV→List MsgV→Ch→Bool→List EvV→List MsgV→Prop
 | nil (c:Ch) (wt:Bool) (es:List EvV):HearL c wt es [] c wt es []
 | cons {c c1 c2:Ch} {wt wt2:Bool} {es es2:List EvV} {m:MsgV} {ms M ms2:List MsgV} (h:HearC c m c1 ms) (next:HearL c1 (qq9 m wt) (es++qdv m wt c.xs c1.xs) M c2 wt2 es2 ms2) (he:es.length≤10000):HearL c wt es (m::M) c2 wt2 es2 (ms++ms2)
theorem HearL.one{c f:Ch}{wt:Bool}{es:List EvV}{m:MsgV}{i:List MsgV}(h:HearC c m f i)(q:es.length≤10000):HearL c wt es [m] f (qq9 m wt) (es++qdv m wt c.xs f.xs) i:=by
 have:=HearL.cons (wt:=wt) (es:=es) h (.nil _ _ _) q;rwa [List.append_nil] at this
theorem HearL.say{c C:Ch}{wt q:Bool}{es i:List EvV}{M z:List MsgV}(h:HearL c wt es M C q i z):(∀m∈M,SayOk m)∧∀m∈z,SayOk m:=by
 induction h with
 | nil=>exact⟨fun m h=>(by cases h),fun m h=>(by cases h)⟩
 | cons h next E v =>
  refine⟨fun m f=> ?_,fun m f=> ?_⟩
  ·rcases List.mem_cons.1 f with rfl | f
   ·exact h.say
   ·exact v.1 m f
  ·exact(List.mem_append.1 f).elim (h.says m) (v.2 m)
theorem q8e{c C:Ch}{wt i:Bool}{es f:List EvV}{M q:List MsgV}(h:HearL c wt es M C i f q):∀ {l:Lk} {t:Int} {o:ByteArray} {n:Nat},LkC l c t wt o (qam M ⟨#[]⟩) n→n+M.length+q.length≤1000000→∃L,Bts l es L f 0∧LkC L C t i (qam q o) ⟨#[]⟩ (n+M.length+q.length):=by
 induction h with
 | nil c wt es=>exact fun v I=>⟨_,q8f v,v.mono (by simp)⟩
 | @cons c R C wt i es f m q M z h next N O =>
  intro l t o n v I;rw[qxz] at v;rw[List.length_cons,List.length_append] at I;have H:∃L,Bts l es L f 0∧LkC L C t i (qam z (qam q o)) ⟨#[]⟩ (n+1+q.length+M.length+z.length):=by
   obtain⟨P,J,K⟩:=q3z v h (by omega) N;obtain⟨L,F,E⟩:=O J (by omega);exact⟨L,K _ _ _ F,E⟩
  obtain⟨L,F,E⟩:=H;refine⟨L,F,?_⟩;rw[qfp];exact E.mono (by rw[List.length_cons,List.length_append];omega)
structure SignC(c c':Ch)(M:List MsgV):Prop where
 eq:(∃m,c.sign=(c',m,0)∧M=[m]∧SayOk m)∨(c.sign=(c,MsgV.zero,5)∧c'=c∧M=[])
 key:c.s.key.size≤100000000
 ch:0≤c.s.ch∧c.s.ch<4294967296
 news:c.news.length<1000000
 xs:c.xs.length≤16
theorem qeg(x y:Int)(f:0≤x)(m:x<4294967296)(i:0≤y)(q:y<4294967296):bits .xor .u64 x y=bits .xor .u32 x y:=by
 rw[u64_xor x y f (by omega) i (by omega),u32_xor x y f m i q]
theorem qih(x y:Int)(f:0≤x)(m:x<4294967296)(i:0≤y)(q:y<4294967296):bits .and .u64 x y=bits .and .u32 x y:=by
 rw[u64_and x y f (by omega) i (by omega),u32_and x y f m i q]
theorem qkh(x:Int)(f:0≤x)(i:x<4294967296):bits .xor .u32 0 x=x:=by
 rw[u32_xor 0 x (by decide) (by decide) f i];simp;omega
theorem zbw(e:Int)(f:0≤e)(i:e<4294967296):bits .xor .u32 4294967295 e=4294967295-e:=by
 rw[u32_xor 4294967295 e (by decide) (by decide) f i];obtain⟨n,rfl⟩:=Int.eq_ofNat_of_zero_le f;have h:(4294967295 ^^^ n:Nat)=4294967295-n:=by
  have m:n<2 ^ 32:=by omega
  have:=congrArg BitVec.toNat (BitVec.allOnes_xor (x:=BitVec.ofNat 32 n));rw[BitVec.toNat_xor,BitVec.toNat_not,BitVec.toNat_allOnes,BitVec.toNat_ofNat,Nat.mod_eq_of_lt m] at this;simpa using this
 rw[Int.toNat_natCast,show (4294967295:Int).toNat=4294967295 from rfl,h];omega
theorem q9j(x n:Nat)(v:x<4294967296)(C:n≤32):qcg x n=((x / 2 ^ n+x%2 ^ n*2 ^ (32-n):Nat):Int):=by
 unfold qcg;have q:(32-(n:Int)).toNat=32-n:=by omega
 rw[Int.toNat_natCast,q];have i:2 ^ n*2 ^ (32-n)=4294967296:=by rw[←Nat.pow_add,show n+(32-n)=32 by omega]
 have f:0<2 ^ n:=Nat.pow_pos (by decide);have m:0<2 ^ (32-n):=Nat.pow_pos (by decide);have a1:(x:Int) / 2 ^ n=((x / 2 ^ n:Nat):Int):=by rw[Int.natCast_ediv,Int.natCast_pow];rfl
 have a2:(x:Int)*2 ^ (32-n)%4294967296=((x%2 ^ n*2 ^ (32-n):Nat):Int):=by
  have:x*2 ^ (32-n)%4294967296=x%2 ^ n*2 ^ (32-n):=by
   rw[←i,Nat.mul_mod_mul_right]
  rw[←this,Int.natCast_emod,Int.natCast_mul,Int.natCast_pow];rfl
 rw[a1,a2];have b1:x / 2 ^ n<2 ^ (32-n):=by rw[Nat.div_lt_iff_lt_mul f,Nat.mul_comm,i];exact v
 have b2:x%2 ^ n*2 ^ (32-n)<4294967296:=by
  rw[←i];exact Nat.mul_lt_mul_of_pos_right (Nat.mod_lt _ f) m
 have z:2 ^ (32-n)≤4294967296:=by rw[←i];exact Nat.le_mul_of_pos_left _ f
 rw[u32_or_nat _ _ (by omega) b2,Nat.or_comm,nat_join (32-n) _ _ (by rw[Nat.mul_mod_left]) b1,Nat.add_comm]
def qha(x:Int):Nat→Int
 | 0=>x
 | k+1=>qha x k / 2+qha x k%2*2147483648
theorem qq5(x k:Nat)(L:x<4294967296)(M:k≤31):qha x k=((x / 2 ^ k+x%2 ^ k*2 ^ (32-k):Nat):Int)∧x / 2 ^ k+x%2 ^ k*2 ^ (32-k)<4294967296:=by
 induction k with
 | zero=>simp[qha,Nat.mod_one];exact L
 | succ k q =>
  obtain⟨q,E⟩:=q (by omega);have J:2 ^ (32-k)=2*2 ^ (31-k):=by rw[←Nat.pow_succ',show (31-k).succ=32-k by omega]
  have v:2 ^ (k+1)=2*2 ^ k:=Nat.pow_succ';have f:2 ^ k*2 ^ (31-k)=2147483648:=by rw[←Nat.pow_add,show k+(31-k)=31 by omega]
  have K:0<2 ^ k:=Nat.pow_pos (by decide);have I:=Nat.div_add_mod x (2 ^ k);have H:=Nat.div_add_mod (x / 2 ^ k) 2;have i:x / 2 ^ k / 2=x / 2 ^ (k+1):=by rw[Nat.div_div_eq_div_mul,Nat.mul_comm (2 ^ k) 2,←v]
  have m:x%2 ^ (k+1)=x%2 ^ k+2 ^ k*(x / 2 ^ k%2):=by rw[v,Nat.mul_comm 2,Nat.mod_mul]
  have e:(x / 2 ^ k+x%2 ^ k*2 ^ (32-k)) / 2+(x / 2 ^ k+x%2 ^ k*2 ^ (32-k))%2*2147483648=x / 2 ^ (k+1)+x%2 ^ (k+1)*2 ^ (32-(k+1)):=by
   rw[show 32-(k+1)=31-k by omega,m,Nat.add_mul,←i,J];have z:x%2 ^ k*(2*2 ^ (31-k))=2*(x%2 ^ k*2 ^ (31-k)):=by rw[Nat.mul_left_comm]
   have C:2 ^ k*(x / 2 ^ k%2)*2 ^ (31-k)=x / 2 ^ k%2*2147483648:=by rw[←f,Nat.mul_comm (2 ^ k),Nat.mul_assoc]
   rw[z,C];generalize x%2 ^ k*2 ^ (31-k)=c;generalize x / 2 ^ k=y;omega
  refine⟨?_,?_⟩
  ·rw[qha,q,←e];have F:∀y:Nat,(y:Int) / 2+(y:Int)%2*2147483648=((y / 2+y%2*2147483648:Nat):Int):=fun y=>by omega
   exact F _
  ·rw[←e];generalize x / 2 ^ k+x%2 ^ k*2 ^ (32-k)=y at E ⊢;omega
theorem qq6(x:Int)(k:Nat)(f:0≤x)(m:x<4294967296)(i:k≤31):qha x k=qcg x k:=by
 obtain⟨n,rfl⟩:=Int.eq_ofNat_of_zero_le f;rw[(qq5 n k (by omega) i).1,q9j n k (by omega) (by omega)]
theorem qvm(x:Int)(k:Nat)(f:0≤x)(q:x<4294967296)(m:k≤31):0≤qha x k∧qha x k<4294967296:=by
 obtain⟨n,rfl⟩:=Int.eq_ofNat_of_zero_le f;obtain⟨e,i⟩:=qq5 n k (by omega) m;rw[e];generalize n / 2 ^ k+n%2 ^ k*2 ^ (32-k)=y at i ⊢;omega
theorem qhx(x:Int)(k:Nat)(f:0≤x)(i:x<4294967296)(m:k≤31):0≤qcg x k∧qcg x k<4294967296:=by
 rw[←qq6 x k f i m];exact qvm x k f i m
set_option maxHeartbeats 1000000 in
theorem qdw(x:Int)(n:Int)(w:World)(q:0≤x)(v:x<4294967296)(E:0≤n)(J:n≤31) :
  Calls Tryz.prog 126 #[.int .u64 x,.int .i64 n] w fun e w'=>e = .returned (.int .u64 (qcg x n))∧w=w':=by
 obtain⟨m,rfl⟩:=Int.eq_ofNat_of_zero_le E
 have H:m≤31:=by omega
 rw[←qq6 x m q v H]
 go_enter Tryz.func126,Tryz.ntmps126
 go_wp2_with fail
 go_loop [0,5] (fun I i=>∃k:Nat,i = .int .i64 (k:Int)∧k≤m∧I = .int .u64 (qha x k)) (fun _ i=>m-(intOf i).toNat)
 case atStart=>exact⟨0,rfl,Nat.zero_le _,rfl⟩
 case round =>
  obtain⟨k,rfl,K,rfl⟩:=hrel;obtain⟨b1,b2⟩:=qvm x k q v (by omega);have C:qha x (k+1)=qha x k / 2+qha x k%2*2147483648:=rfl;have f:=qb C;clear C;by_cases F:k<m
  ·have z:(k:Int)<(m:Int):=by omega
   generalize qha x k=y at b1 b2 f ⊢;go_wp2;go_round
   case rel=>exact⟨k+1,by go_num,by omega,by rw[qa f]⟩
   case measure=>simp[intOf];omega
  ·obtain rfl:k=m:=by omega
   clear f;go_wp2;go_ret;exact⟨rfl,rfl⟩
def shR(x:Int):Nat→Int
 | 0=>x
 | k+1=>shR x k / 2
theorem zb3(x:Int)(k:Nat):shR x k=x / 2 ^ k:=by
 induction k with
 | zero=>simp[shR]
 | succ k f=>rw[shR,f,Int.pow_succ,Int.ediv_ediv_of_nonneg (Int.pow_nonneg (by decide))]
theorem zb2(x:Int)(k:Nat)(f:0≤x)(i:x<18446744073709551616):0≤shR x k∧shR x k<18446744073709551616:=by
 induction k with
 | zero=>exact⟨f,i⟩
 | succ k m=>rw[shR];omega
set_option maxHeartbeats 1000000 in
theorem qjm(x:Int)(n:Int)(w:World)(z:0≤x)(C:x<18446744073709551616)(E:0≤n)(I:n≤64) :
  Calls Tryz.prog 96 #[.int .u64 x,.int .i64 n] w fun e w'=>e = .returned (.int .u64 (x / 2 ^ n.toNat))∧w=w':=by
 obtain⟨m,rfl⟩:=Int.eq_ofNat_of_zero_le E
 have K:m≤64:=by omega
 rw[Int.toNat_natCast,←zb3]
 go_enter Tryz.func96,Tryz.ntmps96
 go_wp2_with fail
 go_loop [0,5] (fun H i=>∃k:Nat,i = .int .i64 (k:Int)∧k≤m∧H = .int .u64 (shR x k)) (fun _ i=>m-(intOf i).toNat)
 case atStart=>exact⟨0,rfl,Nat.zero_le _,rfl⟩
 case round =>
  obtain⟨k,rfl,J,rfl⟩:=hrel;obtain⟨b1,b2⟩:=zb2 x k z C;have v:shR x (k+1)=shR x k / 2:=rfl;have f:=qb v;clear v;by_cases F:k<m
  ·have q:(k:Int)<(m:Int):=by omega
   generalize shR x k=y at b1 b2 f ⊢;go_wp2;go_round
   case rel=>exact⟨k+1,by go_num,by omega,by rw[qa f]⟩
   case measure=>simp[intOf];omega
  ·obtain rfl:k=m:=by omega
   clear f b2;go_wp2;go_ret;exact⟨rfl,rfl⟩
theorem q6o(x y:Int)(i:0≤x)(m:x<16777216)(f:0≤y)(q:y≤255):bits .or .u32 (x*256%4294967296) y=x*256+y:=by
 rw[show x*256%4294967296=x*256 by omega,u32_or _ _ (by omega) (by omega) f (by omega),nat_join 8 _ _ (by omega) (by omega)];omega
theorem qvp(ws:List Int)(i:Nat)(x:Int)(h:i<ws.length):wd (ws.set i x) i=x:=by
 unfold wd;rw[List.getD_eq_getElem?_getD,List.getElem?_set_self h];rfl
theorem qs0(ws:List Int)(i j:Nat)(x:Int)(h:i≠j):wd (ws.set i x) j=wd ws j:=by
 unfold wd;rw[List.getD_eq_getElem?_getD,List.getElem?_set_ne h,←List.getD_eq_getElem?_getD]
theorem qua(s:ByteArray)(i:Nat)(z:i<64)(j:Nat):j≤4*i+4→0≤wd (qa9 s j) i∧wd (qa9 s j) i<256 ^ (j-4*i):=by
 induction j with
 | zero =>
  intro _;have q:wd (qa9 s 0) i=0:=by
   show (List.replicate 64 (0:Int)).getD i 0=0;rw[List.getD_eq_getElem?_getD,List.getElem?_replicate];split<;>rfl
  rw[q,show 0-4*i=0 by omega];decide
 | succ j E =>
  intro F;obtain⟨m,f⟩:=E (by omega);rw[qd7,qoo];by_cases h:j / 4=i
  ·subst h;rw[qvp _ _ _ (by rw[qgc];exact z)];obtain⟨b0,b1⟩:=qe9 s j;have hd:j-4*(j / 4)≤3:=by omega
   have C:wd (qa9 s j) (j / 4)<16777216:=by
    refine Int.lt_of_lt_of_le f ?_;generalize j-4*(j / 4)=d at hd
    match d,hd with
    | 0,_=>decide
    | 1,_=>decide
    | 2,_=>decide
    | 3,_=>decide
   rw[q6o _ _ m C b0 b1,show j+1-4*(j / 4)=j-4*(j / 4)+1 by omega,Int.pow_succ];generalize (256:Int) ^ (j-4*(j / 4))=p at f;omega
  ·rw[qs0 _ _ _ _ h];rcases Nat.lt_or_ge j (4*i) with v | v
   ·rw[show j+1-4*i=0 by omega];rw[show j-4*i=0 by omega] at f;exact⟨m,f⟩
   ·exfalso;omega
theorem qub(s:ByteArray)(i k:Nat)(z:i<16)(v:k<4) :
  (0≤wd (qa9 s (4*i+k)) i∧wd (qa9 s (4*i+k)) i<16777216)∧qa9 s (4*i+(k+1))=(qa9 s (4*i+k)).set i (wd (qa9 s (4*i+k)) i*256+bt s (4*i+k)):=by
 obtain⟨f,q⟩:=qua s i (by omega) (4*i+k) (by omega)
 have m:wd (qa9 s (4*i+k)) i<16777216:=by
  refine Int.lt_of_lt_of_le q ?_;rw[show 4*i+k-4*i=k by omega]
  match k,v with
  | 0,_=>decide
  | 1,_=>decide
  | 2,_=>decide
  | 3,_=>decide
 refine⟨⟨f,m⟩,?_⟩
 obtain⟨b0,b1⟩:=qe9 s (4*i+k)
 rw[show 4*i+(k+1)=4*i+k+1 by omega,qd7,qoo,show (4*i+k) / 4=i by omega,q6o _ _ f m b0 b1]
theorem Tryz.infoR64:(Tryz.prog.info? 220).map (·.size)=some 64:=by kernel_rfl
theorem Tryz.infoR8:(Tryz.prog.info? 175).map (·.size)=some 8:=by kernel_rfl
def zah(x:Value):Sem Value:=Instr.loadAt 220 x
theorem quc(x:Value):Instr.loadAt 220 x=zah x:=rfl
theorem zbm(b o:Nat)(w:World):(zah (.pointer (some ⟨b,o,none⟩))).run Tryz.prog w=match zg w b o 64 with | some A=> .ok (.agg A) w | none=>qdh Tryz.prog 220 w b o :=
 qae 220 64 _ Tryz.underlying220 rfl Tryz.infoR64 b o w
def zct(x:Value):Sem Value:=Instr.loadAt 175 x
theorem qop(x:Value):Instr.loadAt 175 x=zct x:=rfl
theorem zaj(b o:Nat)(w:World):(zct (.pointer (some ⟨b,o,none⟩))).run Tryz.prog w=match zg w b o 8 with | some A=> .ok (.agg A) w | none=>qdh Tryz.prog 175 w b o :=
 qae 175 8 _ Tryz.underlying175 rfl Tryz.infoR8 b o w
def zas(x v:Value):Sem Unit:=Instr.storeAt 220 x v
theorem qvh(x v:Value):Instr.storeAt 220 x v=zas x v:=rfl
theorem zb4(b o:Nat)(A:Array Value)(w:World):(zas (.pointer (some ⟨b,o,none⟩)) (.agg A)).run Tryz.prog w=if stOk w b o 64 A=true then .ok () (w.setCells b o A.toList) else qed Tryz.prog 220 w b o A :=
 qau 220 64 Tryz.infoR64 b o A w
def zcz(x v:Value):Sem Unit:=Instr.storeAt 175 x v
theorem qo9(x v:Value):Instr.storeAt 175 x v=zcz x v:=rfl
theorem zau(b o:Nat)(A:Array Value)(w:World):(zcz (.pointer (some ⟨b,o,none⟩)) (.agg A)).run Tryz.prog w=if stOk w b o 8 A=true then .ok () (w.setCells b o A.toList) else qed Tryz.prog 175 w b o A :=
 qau 175 8 Tryz.infoR8 b o A w
theorem q69(x:Int)(f:0≤x)(i:x<4294967296):bits .xor .u64 (bits .xor .u64 (qcg x 7) (qcg x 18)) (x / 8)=qvd x:=by
 have a:0≤qcg x 7∧qcg x 7<4294967296:=qhx x 7 f i (by decide);have b:0≤qcg x 18∧qcg x 18<4294967296:=qhx x 18 f i (by decide);have c:=qby .xor (qcg x 7) (qcg x 18)
 have e:qb1 x [7,18]=bits .xor .u32 (bits .xor .u32 0 (qcg x 7)) (qcg x 18):=rfl;unfold qvd;rw[e,qkh _ a.1 a.2];rw[qeg _ _ a.1 a.2 b.1 b.2,qeg _ _ c.1 c.2 (by omega) (by omega)]
theorem q7a(x:Int)(f:0≤x)(i:x<4294967296):bits .xor .u64 (bits .xor .u64 (qcg x 17) (qcg x 19)) (x / 1024)=qve x:=by
 have a:0≤qcg x 17∧qcg x 17<4294967296:=qhx x 17 f i (by decide);have b:0≤qcg x 19∧qcg x 19<4294967296:=qhx x 19 f i (by decide);have c:=qby .xor (qcg x 17) (qcg x 19)
 have e:qb1 x [17,19]=bits .xor .u32 (bits .xor .u32 0 (qcg x 17)) (qcg x 19):=rfl;unfold qve;rw[e,qkh _ a.1 a.2];rw[qeg _ _ a.1 a.2 b.1 b.2,qeg _ _ c.1 c.2 (by omega) (by omega)]
theorem qq3(x:Int)(f i m:Nat)(m1 z C:Int)(E:m1=f)(F:z=i)(H:C=m)(q:0≤x)(v:x<4294967296)(k1:f≤31)(k2:i≤31)(I:m≤31):bits .xor .u64 (bits .xor .u64 (qcg x m1) (qcg x z)) (qcg x C)=qb1 x [m1,z,C]:=by
 subst E F H;have a:=qhx x f q v k1;have b:=qhx x i q v k2;have d:=qhx x m q v I;have c:=qby .xor (qcg x f) (qcg x i)
 have e:qb1 x [(f:Int),i,m]=bits .xor .u32 (bits .xor .u32 (bits .xor .u32 0 (qcg x f)) (qcg x i)) (qcg x m):=rfl;rw[e,qkh _ a.1 a.2];rw[qeg _ _ a.1 a.2 b.1 b.2,qeg _ _ c.1 c.2 d.1 d.2]
theorem za7(e f g:Int)(i:0≤e)(m:e<4294967296)(q:0≤f)(v:f<4294967296)(z:0≤g)(C:g<4294967296):bits .xor .u64 (bits .and .u64 e f) (bits .and .u64 (4294967295-e) g)=chI e f g:=by
 have a:=qby .and e f
 have b:=qby .and (4294967295-e) g
 unfold chI;rw[zbw e i m,qih _ _ i m q v,qih _ _ (by omega) (by omega) z C,qeg _ _ a.1 a.2 b.1 b.2]
theorem q85(a b c:Int)(f:0≤a)(i:a<4294967296)(m:0≤b)(q:b<4294967296)(C:0≤c)(E:c<4294967296):bits .xor .u64 (bits .xor .u64 (bits .and .u64 a b) (bits .and .u64 a c)) (bits .and .u64 b c)=qxg a b c:=by
 have x:=qby .and a b
 have y:=qby .and a c
 have z:=qby .and b c
 have v:=qby .xor (bits .and .u32 a b) (bits .and .u32 a c)
 unfold qxg;rw[qih _ _ f i m q,qih _ _ f i C E,qih _ _ m q C E,qeg _ _ x.1 x.2 y.1 y.2,qeg _ _ v.1 v.2 z.1 z.2]
theorem q9n(x:Int)(w:World)(f:0≤x)(i:x<4294967296):Calls Tryz.prog 96 #[.int .u64 x,.int .i64 3] w fun e w'=>e = .returned (.int .u64 (x / 8))∧w=w':=qjm x 3 w f (by omega) (by decide) (by decide)
theorem q68(x:Int)(w:World)(f:0≤x)(i:x<4294967296):Calls Tryz.prog 96 #[.int .u64 x,.int .i64 10] w fun e w'=>e = .returned (.int .u64 (x / 1024))∧w=w':=qjm x 10 w f (by omega) (by decide) (by decide)
def qm9:Array Value:=(qib.map (Value.int .u64)).toArray
def z64:Array Value:=((List.replicate 64 (0:Int)).map (Value.int .u64)).toArray
set_option maxRecDepth 100000 in
set_option maxHeartbeats 1000000 in
theorem zcs(w:World):Calls Tryz.prog 127 #[] w fun e w'=>e = .returned (.agg qm9)∧qq w w':=by
 go_enter Tryz.func127,Tryz.ntmps127;go_upto_region 0 with fail;refine wp_region_lit ?_;refine zi rfl (v:= .pointer (some ⟨w.heap.size,0,none⟩)) (w':=w.alloc (.cells z64 220)) (by kernel_rfl) ?_;have f:(w.alloc (.cells z64 220)).heap[w.heap.size]? = some (.cells z64 220 (0,0)):=qj _ _;have m:qq w (w.alloc (.cells z64 220)):=(Upd.refl _ _).alloc _;generalize w.alloc (.cells z64 220)=w1 at f m ⊢;go_upto_region 1 with fail;refine wp_region_lit ?_;refine zi rfl (v:= .agg qm9) (w':=w1) (by kernel_rfl) ?_;refine wpList_store_row rfl _ _ _ rfl w.heap.size qm9 rfl rfl 220 _ f (by kernel_rfl) (by kernel_rfl) (by kernel_rfl) ?_;have i:=setRow_heap w1 w.heap.size _ qm9 220 (0,0) f;have q:qq w (w1.setRow w.heap.size qm9):=m.setRow (fun h=>by omega) _;generalize w1.setRow w.heap.size qm9=z at i q ⊢;go_wp2_with fail;refine bodyPost_ret (results_cell_row rfl _ _ w.heap.size 220 _ (0,0) _ rfl i Tryz.underlying220 rfl (by exact Tryz.infoR64)) rfl ?_;exact⟨rfl,q⟩
end Go.Proofs.YtfmkdoachjgjbaaGreatDoor
