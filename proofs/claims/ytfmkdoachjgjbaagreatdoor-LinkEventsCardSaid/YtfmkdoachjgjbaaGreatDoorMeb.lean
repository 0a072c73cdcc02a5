/-
  Law 18: begin, where there is no such pair.
-/
import Derived.Test.YtfmkdoachjgjbaaGreatDoorLp4
import Derived.Test.YtfmkdoachjgjbaaGreatDoorMad
import Derived.Laws.BitsAllLaws
import Derived.Outline
set_option maxRecDepth 100000
set_option maxHeartbeats 2000000
set_option linter.unusedVariables false
set_option linter.unusedSimpArgs false
namespace Go.Proofs.YtfmkdoachjgjbaaGreatDoor
section
open Go.RowKit
attribute [local go_sem ↓ high] qft qfm qb5
attribute [local go_sem] qx qnz qne qeg
theorem qzz(ours cap:Int)(ho:0≤ours∧ours<18446744073709551616)(hc:0≤cap∧cap<18446744073709551616)(hm:¬(1≤cap∧cap≤1125899906842624∧ours≤cap))(w:World) :
  Calls Tryz.prog 9 #[.int .u64 ours,.int .u64 cap] w (qa7 (.pointer none) w):=by
 have f:=qvf ho hc
 have m:=qvg (ours:=ours) hc
 have E:¬(qcm ours cap).may:=fun h=>hm ⟨h.1,h.2.1,h.2.2.1⟩
 go_enter Tryz.func9,Tryz.ntmps9
 go_wp2_with fail
 obtain⟨M,v⟩:∃M:World,M=w.alloc (.cells #[.pointer none,.pointer none,.string ⟨#[]⟩,.string ⟨#[]⟩,.bool false] 32):=⟨_,rfl⟩
 have q:M.heap[w.heap.size]? = some (.cells (qq0 (.pointer none) (.pointer none)).toArray 32 (0,0)):=by rw[v];exact qj _ _
 have X:qq w M:=by rw[v];exact(Upd.refl _ _).alloc _
 rw[←v]
 clear v
 obtain⟨p,O⟩:∃p,p=w.heap.size:=⟨_,rfl⟩
 rw[←O] at q ⊢
 have a7:w.heap.size≤p:=by omega
 clear O
 refine(qmz ours cap M).mono ?_
 rintro e w1 ⟨rfl,S⟩
 obtain⟨I,K⟩:=qki (qj w1 (.cells qhp.toArray 97)) (s:=qcm ours cap) (t:=qcd ours cap) rfl rfl
 have J:qq M ((w1.alloc (.cells qhp.toArray 97)).setCells w1.heap.size 0 (qe0 (qcm ours cap) (qcd ours cap))):=(S.alloc _).then (zc _) (fun i hi e=>by have:=S.size;omega)
 have W:p<w1.heap.size:=Nat.lt_of_lt_of_le (zr q) S.size
 obtain⟨U,H⟩:∃U,U=qcm ours cap:=⟨_,rfl⟩
 obtain⟨Y,P⟩:∃Y,Y=qcd ours cap:=⟨_,rfl⟩
 rw[←H] at I K J f E ⊢
 rw[←P] at I K J m ⊢
 have a6:=qb H
 clear S H P
 go_upto_region 3 with fail
 generalize (w1.alloc (.cells qhp.toArray 97)).setCells w1.heap.size 0 (qe0 U Y)=w2 at K J ⊢
 generalize w1.heap.size=T at K W ⊢
 clear I w1
 have F:=J.old q (fun h=>h)
 have N2:=qb (X.trans J)
 have HF:=qb K
 have b3:=(X.trans J).size
 have Z:=qb F
 have HO:=qb (And.intro f (And.intro m E))
 have a8:p<w2.heap.size:=zr F
 clear J X q K F f m E
 go_wp2_with fail
 go_loopw [7] (fun iv wr=>iv = .int .i64 0∧wr=w2) (fun iv _=>0)
 case atStart=>exact⟨rfl,rfl⟩
 case round =>
  obtain⟨rfl,rfl⟩:=hrel;have N:=qa Z;have r0:=(qa HF).row0;have z:=qo0 U (qa HO).1 wr.drew;have HQ:=qb N;clear N Z;go_wp2_with (with_reducible first|(first|refine' tw1 (qh ?_) ?_|refine' tw2 (qh ?_) ?_);rotate_left|refine' tw3 (qh ?_)|rfl|apply tn|refine' tw4 ?_);refine z.mono ?_;rintro e L (⟨V,-⟩ | ⟨-,rfl,R⟩)
  case inl=>exact absurd V (qa HO).2.2
  have N:=qa HQ;have R:qq wr L:=R.ofDrew;have r:=R.old N (fun h=>h);have f0:=qv r 0;have c0:L.cell? ⟨p,0,none⟩=some (.pointer none):=qg r 0;have C:(L.setCell ⟨p,0,none⟩ (.pointer none)).heap[p]? = some (.cells (qq0 (.pointer none) (.pointer none)).toArray 32 (0,0)):=qad r 0 (.pointer none);have u4:Upd (· = p) L (L.setCell ⟨p,0,none⟩ (.pointer none)):=(Upd.refl _ _).set1 _ _;have d0:(L.setCell ⟨p,0,none⟩ (.pointer none)).cell? ⟨p,0,none⟩=some (.pointer none):=qg C 0;have HN:=qb (((qa N2).trans R).then u4 (fun k hk e=>by have e:k=p:=e;omega));clear HQ N R r C u4 r0 z;go_wp2_with (with_reducible first|(first|refine' tw1 (qh ?_) ?_|refine' tw2 (qh ?_) ?_);rotate_left|refine' tw3 (qh ?_)|rfl|apply tn|refine' tw4 ?_);go_ret;exact⟨rfl,qa HN⟩
end
section
open Go.RowKit
theorem qq7(a b:ByteArray):∀f:List MsgV,qaq f (a++b)=a++qaq f b:=by
 intro f
 induction f generalizing b with
 | nil=>rfl
 | cons m f i =>
  show qaq f ((a++b)++qez m)=a++qaq f (b++qez m);rw[qko,i]
theorem qyd(m:MsgV)(f:List MsgV):qaq (m::f) ⟨#[]⟩=qez m++qaq f ⟨#[]⟩:=by
 have q:(⟨#[]⟩:ByteArray)++qez m=qez m:=ByteArray.empty_append;have i:qez m++(⟨#[]⟩:ByteArray)=qez m:=ByteArray.append_empty;show qaq f ((⟨#[]⟩:ByteArray)++qez m)=_;rw[q,←i,qq7,i]
theorem qfz(xs f:List MsgV)(o:ByteArray):qaq (xs++f) o=qaq f (qaq xs o):=by
 unfold qaq;rw[List.foldl_append]
theorem q2v(f:List MsgV)(o:ByteArray):qaq f o=o++qaq f ⟨#[]⟩:=by
 have e:o++(⟨#[]⟩:ByteArray)=o:=ByteArray.append_empty;have:=qq7 o ⟨#[]⟩ f;rw[e] at this;exact this
inductive HearL:Ch→Bool→List EvV→List MsgV→Ch→Bool→List EvV→List MsgV→Prop
 | nil (c:Ch) (wt:Bool) (es:List EvV):HearL c wt es [] c wt es []
 | cons {c c1 c2:Ch} {wt wt2:Bool} {es es2:List EvV} {m:MsgV} {ms M ms2:List MsgV} (h:HearC c m c1 ms) (next:HearL c1 (qrg m wt) (es++qdk m wt c.xs c1.xs) M c2 wt2 es2 ms2) (he:es.length≤10000):HearL c wt es (m::M) c2 wt2 es2 (ms++ms2)
theorem HearL.one{c f:Ch}{wt:Bool}{es:List EvV}{m:MsgV}{i:List MsgV}(h:HearC c m f i)(q:es.length≤10000):HearL c wt es [m] f (qrg m wt) (es++qdk m wt c.xs f.xs) i:=by
 have:=HearL.cons (wt:=wt) (es:=es) h (.nil _ _ _) q;rwa [List.append_nil] at this
theorem HearL.say{c z:Ch}{wt q:Bool}{es i:List EvV}{M v:List MsgV}(h:HearL c wt es M z q i v):(∀m∈M,SayOk m)∧∀m∈v,SayOk m:=by
 induction h with
 | nil=>exact⟨fun m h=>(by cases h),fun m h=>(by cases h)⟩
 | cons h next C r =>
  refine⟨fun m f=> ?_,fun m f=> ?_⟩
  ·rcases List.mem_cons.1 f with rfl | f
   ·exact h.say
   ·exact r.1 m f
  ·exact(List.mem_append.1 f).elim (h.says m) (r.2 m)
theorem q8q{c z:Ch}{wt i:Bool}{es f:List EvV}{M q:List MsgV}(h:HearL c wt es M z i f q):∀ {l:Lk} {t:Int} {o:ByteArray} {n:Nat},LkC l c t wt o (qaq M ⟨#[]⟩) n→n+M.length+q.length≤1000000→∃L,Bts l es L f 0∧LkC L z t i (qaq q o) ⟨#[]⟩ (n+M.length+q.length):=by
 induction h with
 | nil c wt es=>exact fun r H=>⟨_,q8r r,r.mono (by simp)⟩
 | @cons c P z wt i es f m q M v h next K N =>
  intro l t o n r H;rw[qyd] at r;rw[List.length_cons,List.length_append] at H;have F:∃L,Bts l es L f 0∧LkC L z t i (qaq v (qaq q o)) ⟨#[]⟩ (n+1+q.length+M.length+v.length):=by
   obtain⟨O,I,J⟩:=q4g r h (by omega) K;obtain⟨L,E,C⟩:=N I (by omega);exact⟨L,J _ _ _ E,C⟩
  obtain⟨L,E,C⟩:=F;refine⟨L,E,?_⟩;rw[qfz];exact C.mono (by rw[List.length_cons,List.length_append];omega)
structure SignC(c c':Ch)(M:List MsgV):Prop where
 eq:(∃m,c.sign=(c',m,0)∧M=[m]∧SayOk m)∨(c.sign=(c,MsgV.zero,5)∧c'=c∧M=[])
 key:c.s.key.size≤100000000
 ch:0≤c.s.ch∧c.s.ch<4294967296
 news:c.news.length<1000000
 xs:c.xs.length≤16
theorem qeo(x y:Int)(f:0≤x)(m:x<4294967296)(i:0≤y)(q:y<4294967296):bits .xor .u64 x y=bits .xor .u32 x y:=by
 rw[u64_xor x y f (by omega) i (by omega),u32_xor x y f m i q]
theorem qit(x y:Int)(f:0≤x)(m:x<4294967296)(i:0≤y)(q:y<4294967296):bits .and .u64 x y=bits .and .u32 x y:=by
 rw[u64_and x y f (by omega) i (by omega),u32_and x y f m i q]
theorem qkj(x:Int)(f:0≤x)(i:x<4294967296):bits .xor .u32 0 x=x:=by
 rw[u32_xor 0 x (by decide) (by decide) f i];simp;omega
theorem zb5(e:Int)(f:0≤e)(i:e<4294967296):bits .xor .u32 4294967295 e=4294967295-e:=by
 rw[u32_xor 4294967295 e (by decide) (by decide) f i];obtain⟨n,rfl⟩:=Int.eq_ofNat_of_zero_le f;have h:(4294967295 ^^^ n:Nat)=4294967295-n:=by
  have m:n<2 ^ 32:=by omega
  have:=congrArg BitVec.toNat (BitVec.allOnes_xor (x:=BitVec.ofNat 32 n));rw[BitVec.toNat_xor,BitVec.toNat_not,BitVec.toNat_allOnes,BitVec.toNat_ofNat,Nat.mod_eq_of_lt m] at this;simpa using this
 rw[Int.toNat_natCast,show (4294967295:Int).toNat=4294967295 from rfl,h];omega
theorem q9u(x n:Nat)(r:x<4294967296)(z:n≤32):qck x n=((x / 2 ^ n+x%2 ^ n*2 ^ (32-n):Nat):Int):=by
 unfold qck;have q:(32-(n:Int)).toNat=32-n:=by omega
 rw[Int.toNat_natCast,q];have i:2 ^ n*2 ^ (32-n)=4294967296:=by rw[←Nat.pow_add,show n+(32-n)=32 by omega]
 have f:0<2 ^ n:=Nat.pow_pos (by decide);have m:0<2 ^ (32-n):=Nat.pow_pos (by decide);have a1:(x:Int) / 2 ^ n=((x / 2 ^ n:Nat):Int):=by rw[Int.natCast_ediv,Int.natCast_pow];rfl
 have a2:(x:Int)*2 ^ (32-n)%4294967296=((x%2 ^ n*2 ^ (32-n):Nat):Int):=by
  have:x*2 ^ (32-n)%4294967296=x%2 ^ n*2 ^ (32-n):=by
   rw[←i,Nat.mul_mod_mul_right]
  rw[←this,Int.natCast_emod,Int.natCast_mul,Int.natCast_pow];rfl
 rw[a1,a2];have b1:x / 2 ^ n<2 ^ (32-n):=by rw[Nat.div_lt_iff_lt_mul f,Nat.mul_comm,i];exact r
 have b2:x%2 ^ n*2 ^ (32-n)<4294967296:=by
  rw[←i];exact Nat.mul_lt_mul_of_pos_right (Nat.mod_lt _ f) m
 have v:2 ^ (32-n)≤4294967296:=by rw[←i];exact Nat.le_mul_of_pos_left _ f
 rw[u32_or_nat _ _ (by omega) b2,Nat.or_comm,nat_join (32-n) _ _ (by rw[Nat.mul_mod_left]) b1,Nat.add_comm]
def qhm(x:Int):Nat→Int
 | 0=>x
 | k+1=>qhm x k / 2+qhm x k%2*2147483648
theorem qrc(x k:Nat)(K:x<4294967296)(L:k≤31):qhm x k=((x / 2 ^ k+x%2 ^ k*2 ^ (32-k):Nat):Int)∧x / 2 ^ k+x%2 ^ k*2 ^ (32-k)<4294967296:=by
 induction k with
 | zero=>simp[qhm,Nat.mod_one];exact K
 | succ k q =>
  obtain⟨q,C⟩:=q (by omega);have I:2 ^ (32-k)=2*2 ^ (31-k):=by rw[←Nat.pow_succ',show (31-k).succ=32-k by omega]
  have r:2 ^ (k+1)=2*2 ^ k:=Nat.pow_succ';have f:2 ^ k*2 ^ (31-k)=2147483648:=by rw[←Nat.pow_add,show k+(31-k)=31 by omega]
  have J:0<2 ^ k:=Nat.pow_pos (by decide);have H:=Nat.div_add_mod x (2 ^ k);have F:=Nat.div_add_mod (x / 2 ^ k) 2;have i:x / 2 ^ k / 2=x / 2 ^ (k+1):=by rw[Nat.div_div_eq_div_mul,Nat.mul_comm (2 ^ k) 2,←r]
  have m:x%2 ^ (k+1)=x%2 ^ k+2 ^ k*(x / 2 ^ k%2):=by rw[r,Nat.mul_comm 2,Nat.mod_mul]
  have e:(x / 2 ^ k+x%2 ^ k*2 ^ (32-k)) / 2+(x / 2 ^ k+x%2 ^ k*2 ^ (32-k))%2*2147483648=x / 2 ^ (k+1)+x%2 ^ (k+1)*2 ^ (32-(k+1)):=by
   rw[show 32-(k+1)=31-k by omega,m,Nat.add_mul,←i,I];have v:x%2 ^ k*(2*2 ^ (31-k))=2*(x%2 ^ k*2 ^ (31-k)):=by rw[Nat.mul_left_comm]
   have z:2 ^ k*(x / 2 ^ k%2)*2 ^ (31-k)=x / 2 ^ k%2*2147483648:=by rw[←f,Nat.mul_comm (2 ^ k),Nat.mul_assoc]
   rw[v,z];generalize x%2 ^ k*2 ^ (31-k)=c;generalize x / 2 ^ k=y;omega
  refine⟨?_,?_⟩
  ·rw[qhm,q,←e];have E:∀y:Nat,(y:Int) / 2+(y:Int)%2*2147483648=((y / 2+y%2*2147483648:Nat):Int):=fun y=>by omega
   exact E _
  ·rw[←e];generalize x / 2 ^ k+x%2 ^ k*2 ^ (32-k)=y at C ⊢;omega
theorem qrd(x:Int)(k:Nat)(f:0≤x)(m:x<4294967296)(i:k≤31):qhm x k=qck x k:=by
 obtain⟨n,rfl⟩:=Int.eq_ofNat_of_zero_le f;rw[(qrc n k (by omega) i).1,q9u n k (by omega) (by omega)]
theorem qvw(x:Int)(k:Nat)(f:0≤x)(q:x<4294967296)(m:k≤31):0≤qhm x k∧qhm x k<4294967296:=by
 obtain⟨n,rfl⟩:=Int.eq_ofNat_of_zero_le f;obtain⟨e,i⟩:=qrc n k (by omega) m;rw[e];generalize n / 2 ^ k+n%2 ^ k*2 ^ (32-k)=y at i ⊢;omega
theorem qib(x:Int)(k:Nat)(f:0≤x)(i:x<4294967296)(m:k≤31):0≤qck x k∧qck x k<4294967296:=by
 rw[←qrd x k f i m];exact qvw x k f i m
theorem qd1(x:Int)(n:Int)(w:World)(q:0≤x)(r:x<4294967296)(C:0≤n)(I:n≤31) :
  Calls Tryz.prog 126 #[.int .u64 x,.int .i64 n] w fun e w'=>e = .returned (.int .u64 (qck x n))∧w=w':=by
 obtain⟨m,rfl⟩:=Int.eq_ofNat_of_zero_le C
 have F:m≤31:=by omega
 rw[←qrd x m q r F]
 go_enter Tryz.func126,Tryz.ntmps126
 go_wp2_with fail
 go_loop [0,5] (fun H i=>∃k:Nat,i = .int .i64 (k:Int)∧k≤m∧H = .int .u64 (qhm x k)) (fun _ i=>m-(intOf i).toNat)
 case atStart=>exact⟨0,rfl,Nat.zero_le _,rfl⟩
 case round =>
  obtain⟨k,rfl,J,rfl⟩:=hrel;obtain⟨b1,b2⟩:=qvw x k q r (by omega);have z:qhm x (k+1)=qhm x k / 2+qhm x k%2*2147483648:=rfl;have f:=qb z;clear z;by_cases E:k<m
  ·have v:(k:Int)<(m:Int):=by omega
   generalize qhm x k=y at b1 b2 f ⊢;go_wp2;go_round
   case rel=>exact⟨k+1,by go_num,by omega,by rw[qa f]⟩
   case measure=>simp[intOf];omega
  ·obtain rfl:k=m:=by omega
   clear f;go_wp2;go_ret;exact⟨rfl,rfl⟩
def shR(x:Int):Nat→Int
 | 0=>x
 | k+1=>shR x k / 2
theorem zcd(x:Int)(k:Nat):shR x k=x / 2 ^ k:=by
 induction k with
 | zero=>simp[shR]
 | succ k f=>rw[shR,f,Int.pow_succ,Int.ediv_ediv_of_nonneg (Int.pow_nonneg (by decide))]
theorem zcc(x:Int)(k:Nat)(f:0≤x)(i:x<18446744073709551616):0≤shR x k∧shR x k<18446744073709551616:=by
 induction k with
 | zero=>exact⟨f,i⟩
 | succ k m=>rw[shR];omega
theorem qju(x:Int)(n:Int)(w:World)(v:0≤x)(z:x<18446744073709551616)(C:0≤n)(H:n≤64) :
  Calls Tryz.prog 96 #[.int .u64 x,.int .i64 n] w fun e w'=>e = .returned (.int .u64 (x / 2 ^ n.toNat))∧w=w':=by
 obtain⟨m,rfl⟩:=Int.eq_ofNat_of_zero_le C
 have J:m≤64:=by omega
 rw[Int.toNat_natCast,←zcd]
 go_enter Tryz.func96,Tryz.ntmps96
 go_wp2_with fail
 go_loop [0,5] (fun F i=>∃k:Nat,i = .int .i64 (k:Int)∧k≤m∧F = .int .u64 (shR x k)) (fun _ i=>m-(intOf i).toNat)
 case atStart=>exact⟨0,rfl,Nat.zero_le _,rfl⟩
 case round =>
  obtain⟨k,rfl,I,rfl⟩:=hrel;obtain⟨b1,b2⟩:=zcc x k v z;have r:shR x (k+1)=shR x k / 2:=rfl;have f:=qb r;clear r;by_cases E:k<m
  ·have q:(k:Int)<(m:Int):=by omega
   generalize shR x k=y at b1 b2 f ⊢;go_wp2;go_round
   case rel=>exact⟨k+1,by go_num,by omega,by rw[qa f]⟩
   case measure=>simp[intOf];omega
  ·obtain rfl:k=m:=by omega
   clear f b2;go_wp2;go_ret;exact⟨rfl,rfl⟩
theorem q6z(x y:Int)(i:0≤x)(m:x<16777216)(f:0≤y)(q:y≤255):bits .or .u32 (x*256%4294967296) y=x*256+y:=by
 rw[show x*256%4294967296=x*256 by omega,u32_or _ _ (by omega) (by omega) f (by omega),nat_join 8 _ _ (by omega) (by omega)];omega
theorem qvz(ws:List Int)(i:Nat)(x:Int)(h:i<ws.length):wd (ws.set i x) i=x:=by
 unfold wd;rw[List.getD_eq_getElem?_getD,List.getElem?_set_self h];rfl
theorem qs8(ws:List Int)(i j:Nat)(x:Int)(h:i≠j):wd (ws.set i x) j=wd ws j:=by
 unfold wd;rw[List.getD_eq_getElem?_getD,List.getElem?_set_ne h,←List.getD_eq_getElem?_getD]
theorem qul(s:ByteArray)(i:Nat)(v:i<64)(j:Nat):j≤4*i+4→0≤wd (qbb s j) i∧wd (qbb s j) i<256 ^ (j-4*i):=by
 induction j with
 | zero =>
  intro _;have q:wd (qbb s 0) i=0:=by
   show (List.replicate 64 (0:Int)).getD i 0=0;rw[List.getD_eq_getElem?_getD,List.getElem?_replicate];split<;>rfl
  rw[q,show 0-4*i=0 by omega];decide
 | succ j C =>
  intro E;obtain⟨m,f⟩:=C (by omega);rw[qef,qow];by_cases h:j / 4=i
  ·subst h;rw[qvz _ _ _ (by rw[qgm];exact v)];obtain⟨b0,b1⟩:=qfj s j;have hd:j-4*(j / 4)≤3:=by omega
   have z:wd (qbb s j) (j / 4)<16777216:=by
    refine Int.lt_of_lt_of_le f ?_;generalize j-4*(j / 4)=d at hd
    match d,hd with
    | 0,_=>decide
    | 1,_=>decide
    | 2,_=>decide
    | 3,_=>decide
   rw[q6z _ _ m z b0 b1,show j+1-4*(j / 4)=j-4*(j / 4)+1 by omega,Int.pow_succ];generalize (256:Int) ^ (j-4*(j / 4))=p at f;omega
  ·rw[qs8 _ _ _ _ h];rcases Nat.lt_or_ge j (4*i) with r | r
   ·rw[show j+1-4*i=0 by omega];rw[show j-4*i=0 by omega] at f;exact⟨m,f⟩
   ·exfalso;omega
theorem qum(s:ByteArray)(i k:Nat)(v:i<16)(r:k<4) :
  (0≤wd (qbb s (4*i+k)) i∧wd (qbb s (4*i+k)) i<16777216)∧qbb s (4*i+(k+1))=(qbb s (4*i+k)).set i (wd (qbb s (4*i+k)) i*256+bt s (4*i+k)):=by
 obtain⟨f,q⟩:=qul s i (by omega) (4*i+k) (by omega)
 have m:wd (qbb s (4*i+k)) i<16777216:=by
  refine Int.lt_of_lt_of_le q ?_;rw[show 4*i+k-4*i=k by omega]
  match k,r with
  | 0,_=>decide
  | 1,_=>decide
  | 2,_=>decide
  | 3,_=>decide
 refine⟨⟨f,m⟩,?_⟩
 obtain⟨b0,b1⟩:=qfj s (4*i+k)
 rw[show 4*i+(k+1)=4*i+k+1 by omega,qef,qow,show (4*i+k) / 4=i by omega,q6z _ _ f m b0 b1]
theorem Tryz.infoR64:(Tryz.prog.info? 220).map (·.size)=some 64:=by kernel_rfl
theorem Tryz.infoR8:(Tryz.prog.info? 175).map (·.size)=some 8:=by kernel_rfl
def zar(x:Value):Sem Value:=Instr.loadAt 220 x
theorem qun(x:Value):Instr.loadAt 220 x=zar x:=rfl
theorem zbv(b o:Nat)(w:World):(zar (.pointer (some ⟨b,o,none⟩))).run Tryz.prog w=match zf w b o 64 with | some A=> .ok (.agg A) w | none=>qdn Tryz.prog 220 w b o :=
 qah 220 64 _ Tryz.underlying220 rfl Tryz.infoR64 b o w
def zc5(x:Value):Sem Value:=Instr.loadAt 175 x
theorem qox(x:Value):Instr.loadAt 175 x=zc5 x:=rfl
theorem zat(b o:Nat)(w:World):(zc5 (.pointer (some ⟨b,o,none⟩))).run Tryz.prog w=match zf w b o 8 with | some A=> .ok (.agg A) w | none=>qdn Tryz.prog 175 w b o :=
 qah 175 8 _ Tryz.underlying175 rfl Tryz.infoR8 b o w
def za2(x v:Value):Sem Unit:=Instr.storeAt 220 x v
theorem qvr(x v:Value):Instr.storeAt 220 x v=za2 x v:=rfl
theorem zce(b o:Nat)(A:Array Value)(w:World):(za2 (.pointer (some ⟨b,o,none⟩)) (.agg A)).run Tryz.prog w=if stOk w b o 64 A=true then .ok () (w.setCells b o A.toList) else qel Tryz.prog 220 w b o A :=
 qaw 220 64 Tryz.infoR64 b o A w
def zdd(x v:Value):Sem Unit:=Instr.storeAt 175 x v
theorem qph(x v:Value):Instr.storeAt 175 x v=zdd x v:=rfl
theorem za4(b o:Nat)(A:Array Value)(w:World):(zdd (.pointer (some ⟨b,o,none⟩)) (.agg A)).run Tryz.prog w=if stOk w b o 8 A=true then .ok () (w.setCells b o A.toList) else qel Tryz.prog 175 w b o A :=
 qaw 175 8 Tryz.infoR8 b o A w
theorem q7l(x:Int)(f:0≤x)(i:x<4294967296):bits .xor .u64 (bits .xor .u64 (qck x 7) (qck x 18)) (x / 8)=qvn x:=by
 have a:0≤qck x 7∧qck x 7<4294967296:=qib x 7 f i (by decide);have b:0≤qck x 18∧qck x 18<4294967296:=qib x 18 f i (by decide);have c:=qbz .xor (qck x 7) (qck x 18);have e:qb2 x [7,18]=bits .xor .u32 (bits .xor .u32 0 (qck x 7)) (qck x 18):=rfl;unfold qvn;rw[e,qkj _ a.1 a.2];rw[qeo _ _ a.1 a.2 b.1 b.2,qeo _ _ c.1 c.2 (by omega) (by omega)]
theorem q7m(x:Int)(f:0≤x)(i:x<4294967296):bits .xor .u64 (bits .xor .u64 (qck x 17) (qck x 19)) (x / 1024)=qvo x:=by
 have a:0≤qck x 17∧qck x 17<4294967296:=qib x 17 f i (by decide);have b:0≤qck x 19∧qck x 19<4294967296:=qib x 19 f i (by decide);have c:=qbz .xor (qck x 17) (qck x 19);have e:qb2 x [17,19]=bits .xor .u32 (bits .xor .u32 0 (qck x 17)) (qck x 19):=rfl;unfold qvo;rw[e,qkj _ a.1 a.2];rw[qeo _ _ a.1 a.2 b.1 b.2,qeo _ _ c.1 c.2 (by omega) (by omega)]
theorem qra(x:Int)(f i m:Nat)(m1 v z:Int)(C:m1=f)(E:v=i)(F:z=m)(q:0≤x)(r:x<4294967296)(k1:f≤31)(k2:i≤31)(H:m≤31):bits .xor .u64 (bits .xor .u64 (qck x m1) (qck x v)) (qck x z)=qb2 x [m1,v,z]:=by
 subst C E F;have a:=qib x f q r k1;have b:=qib x i q r k2;have d:=qib x m q r H;have c:=qbz .xor (qck x f) (qck x i);have e:qb2 x [(f:Int),i,m]=bits .xor .u32 (bits .xor .u32 (bits .xor .u32 0 (qck x f)) (qck x i)) (qck x m):=rfl;rw[e,qkj _ a.1 a.2];rw[qeo _ _ a.1 a.2 b.1 b.2,qeo _ _ c.1 c.2 d.1 d.2]
theorem zbg(e f g:Int)(i:0≤e)(m:e<4294967296)(q:0≤f)(r:f<4294967296)(v:0≤g)(z:g<4294967296):bits .xor .u64 (bits .and .u64 e f) (bits .and .u64 (4294967295-e) g)=chI e f g:=by
 have a:=qbz .and e f;have b:=qbz .and (4294967295-e) g;unfold chI;rw[zb5 e i m,qit _ _ i m q r,qit _ _ (by omega) (by omega) v z,qeo _ _ a.1 a.2 b.1 b.2]
theorem q9h(a b c:Int)(f:0≤a)(i:a<4294967296)(m:0≤b)(q:b<4294967296)(r:0≤c)(C:c<4294967296):bits .xor .u64 (bits .xor .u64 (bits .and .u64 a b) (bits .and .u64 a c)) (bits .and .u64 b c)=qxt a b c:=by
 have x:=qbz .and a b;have y:=qbz .and a c;have z:=qbz .and b c;have v:=qbz .xor (bits .and .u32 a b) (bits .and .u32 a c);unfold qxt;rw[qit _ _ f i m q,qit _ _ f i r C,qit _ _ m q r C,qeo _ _ x.1 x.2 y.1 y.2,qeo _ _ v.1 v.2 z.1 z.2]
theorem q9x(x:Int)(w:World)(f:0≤x)(i:x<4294967296):Calls Tryz.prog 96 #[.int .u64 x,.int .i64 3] w fun e w'=>e = .returned (.int .u64 (x / 8))∧w=w':=qju x 3 w f (by omega) (by decide) (by decide)
theorem q7k(x:Int)(w:World)(f:0≤x)(i:x<4294967296):Calls Tryz.prog 96 #[.int .u64 x,.int .i64 10] w fun e w'=>e = .returned (.int .u64 (x / 1024))∧w=w':=qju x 10 w f (by omega) (by decide) (by decide)
def qnc:Array Value:=(qip.map (Value.int .u64)).toArray
def z64:Array Value:=((List.replicate 64 (0:Int)).map (Value.int .u64)).toArray
theorem zc4(w:World):Calls Tryz.prog 127 #[] w fun e w'=>e = .returned (.agg qnc)∧qq w w':=by
 go_enter Tryz.func127,Tryz.ntmps127;go_upto_region 0 with fail;refine wp_region_lit ?_;refine zj rfl (v:= .pointer (some ⟨w.heap.size,0,none⟩)) (w':=w.alloc (.cells z64 220)) (by kernel_rfl) ?_;have f:(w.alloc (.cells z64 220)).heap[w.heap.size]? = some (.cells z64 220 (0,0)):=qj _ _;have m:qq w (w.alloc (.cells z64 220)):=(Upd.refl _ _).alloc _;generalize w.alloc (.cells z64 220)=w1 at f m ⊢;go_upto_region 1 with fail;refine wp_region_lit ?_;refine zj rfl (v:= .agg qnc) (w':=w1) (by kernel_rfl) ?_;refine wpList_store_row rfl _ _ _ rfl w.heap.size qnc rfl rfl 220 _ f (by kernel_rfl) (by kernel_rfl) (by kernel_rfl) ?_;have i:=setRow_heap w1 w.heap.size _ qnc 220 (0,0) f;have q:qq w (w1.setRow w.heap.size qnc):=m.setRow (fun h=>by omega) _;generalize w1.setRow w.heap.size qnc=r at i q ⊢;go_wp2_with fail;refine bodyPost_ret (results_cell_row rfl _ _ w.heap.size 220 _ (0,0) _ rfl i Tryz.underlying220 rfl (by exact Tryz.infoR64)) rfl ?_;exact⟨rfl,q⟩
end
end Go.Proofs.YtfmkdoachjgjbaaGreatDoor
