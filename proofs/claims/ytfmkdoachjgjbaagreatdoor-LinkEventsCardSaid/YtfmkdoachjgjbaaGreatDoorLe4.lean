/-
  Law 18: LinkEvents.
-/
import Derived.Test.YtfmkdoachjgjbaaGreatDoorMeg
set_option linter.unusedVariables false
set_option linter.unusedSimpArgs false
namespace Go.Proofs.YtfmkdoachjgjbaaGreatDoor
open Go.RowKit
attribute [local go_sem ↓ high] zq qan qmj qdm qik quk
attribute [local go_sem] qbi qdg qw qj8 qrn
theorem qxq{q:Pay}(k:PayOk q):SayOk q.add:=qoc k.D.chb ⟨k.j.1,by have:=k.j.2;omega⟩ ⟨by have:=k.n.1;omega,k.n.2⟩ k.h ⟨by have:=k.e.1;omega,k.e.2⟩
set_option maxRecDepth 100000 in
set_option maxHeartbeats 4000000 in
theorem qwf(ours cap n p:Int)(i:Bool)(w:World)(J:0≤ours∧ours<18446744073709551616)(H:0≤cap∧cap<18446744073709551616)(I:¬(1≤cap∧cap≤1125899906842624∧ours≤cap))(F:Tb w) :
  Calls Tryz.prog 3 #[.int .u64 ours,.int .u64 cap,.int .u64 n,.int .u8 p,.bool i] w (qa5 (.bool true) w):=by
 have z:=qzn ours cap J H I w
 go_enter Tryz.func3,Tryz.ntmps3
 go_upto_region 1 with fail
 go_wp2_with fail
 refine z.mono ?_
 rintro e w1 ⟨rfl,q⟩
 have m:=qvc w1 (F.new q)
 have v:=qb q
 clear z q
 go_wp2_with fail
 refine m.mono ?_
 rintro e M ⟨rfl,C⟩
 have f:=qb ((qa v).trans C)
 clear m C v
 by_cases E:cap=0
 ·subst E;go_wp2_with fail;go_ret;exact⟨rfl,qa f⟩
 ·by_cases K:1125899906842624<cap
  ·go_wp2_with fail;go_ret;exact⟨rfl,qa f⟩
  ·have L:cap<ours:=by omega
   go_wp2_with fail;go_ret;exact⟨rfl,qa f⟩
set_option maxRecDepth 100000 in
set_option maxHeartbeats 4000000 in
theorem qtq(ours cap n p:Int)(e6:Bool)(w:World)(ho:0≤ours∧ours<18446744073709551616)(hc:0≤cap∧cap<18446744073709551616)(hn:0≤n∧n<18446744073709551616)(hp:0≤p∧p≤255)(hm:1≤cap∧cap≤1125899906842624∧ours≤cap)(hT:Tb w) :
  Calls Tryz.prog 3 #[.int .u64 ours,.int .u64 cap,.int .u64 n,.int .u8 p,.bool e6] w (qa5 (.bool true) w):=by
 have hb:=q3t ours cap ho hc hm w
 have c7:=fun W=>qxs p hp W
 have f7:=fun W=>q2g (qic p) (qk8 p) W
 go_enter Tryz.func3,Tryz.ntmps3
 go_upto_region 1 with fail
 go_wp2_with fail
 refine hb.mono ?_
 rintro e w1 ⟨b,rfl,hP⟩
 have j2:=qvc w1 (hT.new (by obtain⟨g,S,h⟩:=hP;exact h.new))
 have H1:=qb hP
 clear hb hP
 go_wp2_with fail
 refine j2.mono ?_
 rintro e w2 ⟨rfl,n2⟩
 obtain⟨g,S,hP⟩:=qa H1
 have h2:DP (fun _ _=>False) w w2 b g ⟨Ch.new (qci ours cap),0,false,[],[],[]⟩ ⟨Ch.new (qb8 ours cap),0,false,[],[],[]⟩ 0:=DP.nw ⟨S,_,hP,zam ours cap⟩ n2
 clear hP H1 j2 n2
 obtain⟨cl,-⟩:=h2.cl
 have c6:w2.drew.cell? ⟨b,0,none⟩=some (.pointer (some ⟨g 0,0,none⟩)):=cl
 have H2:=qb h2
 clear h2
 go_upto_region 4 with fail
 refine qa2 (fun w'=>w'.cell? ⟨b,0,none⟩=some (.pointer (some ⟨g 0,0,none⟩))) [4] (.of [0,1,2,3,4,5,6,7,8,9,10,11,12,13,14]) (by kernel_rfl) (by kernel_rfl) c6 ?_
 simp only[Plan.of]
 clear cl
 go_wp2_with (first | (with_reducible first|(first|refine' zy (qh ?_) ?_|refine' zz (qh ?_) ?_|refine' qw3 (qh ?_) ?_);rotate_left|refine' qw4 (qh ?_)|refine' qw5 (qh ?_)|rfl|apply qn) | with_reducible refine⟨trivial,?_⟩)
 refine(c7 _).mono ?_
 rintro e w3 ⟨rfl,n3⟩
 have c3:w3.cell? ⟨b,0,none⟩=some (.pointer (some ⟨g 0,0,none⟩)):=n3.cell c6 (fun h=>h)
 have h3:=((qa H2).nw (Upd.drew (Upd.refl _ _))).nw n3
 have H3:=qb h3
 clear h3 H2 n3 c6
 go_wp2_with (first | (with_reducible first|(first|refine' zy (qh ?_) ?_|refine' zz (qh ?_) ?_|refine' qw3 (qh ?_) ?_);rotate_left|refine' qw4 (qh ?_)|refine' qw5 (qh ?_)|rfl|apply qn) | refine⟨c3,?_⟩ | with_reducible refine⟨trivial,?_⟩)
 refine(f7 _).mono ?_
 rintro e w4 ⟨rfl,n4⟩
 have c4:w4.cell? ⟨b,0,none⟩=some (.pointer (some ⟨g 0,0,none⟩)):=n4.cell c3 (fun h=>h)
 have h4:=(qa H3).nw n4
 clear H3 n4 c3
 have e8:=qxl p
 have g3:=quo p
 have f5:=qb (q0w p)
 have f6:=qb (q0v p)
 generalize ofI (qic p)=O at e8 g3 f5 f6 f7 ⊢
 have d2:=qk8 p
 have e9:=qxr p
 generalize qic p=R at d2 e9 f5 f7 c7 ⊢
 obtain⟨N,rfl⟩:=Int.eq_ofNat_of_zero_le hn.1
 by_cases hg:1≤(N:Int)∧(N:Int)≤ours
 rotate_left
 ·have j1:=h4.offerBad hT rfl N 12 12 O e8 g3 (by omega) (by decide) (by decide) (by decide) (qmt (by omega) (by decide)).1 (qmt (by omega) (by decide)).2 ⟨by show (0:Nat)<_;decide,by show (0:Nat)<_;decide⟩;clear h4;go_wp2_with (first | (with_reducible first|(first|refine' zy (qh ?_) ?_|refine' zz (qh ?_) ?_|refine' qw3 (qh ?_) ?_);rotate_left|refine' qw4 (qh ?_)|refine' qw5 (qh ?_)|rfl|apply qn) | refine⟨c4,?_⟩ | with_reducible refine⟨trivial,?_⟩);refine j1.mono ?_;rintro e w5 ⟨id,er,rfl,k5,n5⟩;have N5:=qb n5;have l3:(er != 0)=true:=by simpa using k5
  clear j1 n5;by_cases h0:N=0
  ·subst h0;go_wp2_with (first | (with_reducible first|(first|refine' zy (qh ?_) ?_|refine' zz (qh ?_) ?_|refine' qw3 (qh ?_) ?_);rotate_left|refine' qw4 (qh ?_)|refine' qw5 (qh ?_)|rfl|apply qn) | with_reducible refine⟨trivial,?_⟩);go_ret;exact⟨rfl,qa N5⟩
  ·have h1:ours<(N:Int):=by omega
   have h2:¬((N:Int)=0):=by omega
   go_wp2_with (first | (with_reducible first|(first|refine' zy (qh ?_) ?_|refine' zz (qh ?_) ?_|refine' qw3 (qh ?_) ?_);rotate_left|refine' qw4 (qh ?_)|refine' qw5 (qh ?_)|rfl|apply qn) | with_reducible refine⟨trivial,?_⟩);go_ret;exact⟨rfl,qa N5⟩
 have d7:=h4.offer hT rfl N 12 12 O e8 g3 (by omega) (by decide) (by decide) (by decide) (by rw[qk5 hg (by decide)]) (by rw[qk5 hg (by decide)];exact qxq (qsj ⟨ho.1,hm.2.2,hm.2.1⟩ hg (by decide) (qa f6))) ⟨by show (0:Nat)<_;decide,by show (0:Nat)<_;decide⟩ (by show (0:Nat)≤_;decide) (by decide)
 have i9:((Ch.new (qci ours cap)).offer N (qa6 O) 12).2.1.id=0:=by rw[qk5 hg (by decide)];rfl
 have hK:=qsj (cap:=cap) (e:=12) ⟨ho.1,hm.2.2,hm.2.1⟩ hg (by decide) (qa f6)
 rw[i9,qk5 hg (by decide)] at d7
 have i8:=za2 (ours:=ours) (cap:=cap) (n:=N) (e:=12) (h:=qa6 O) ⟨ho.1,hm.2.2,hm.2.1⟩
 rw[←i8] at d7
 have k0:(qc8 ours cap N (qa6 O) 12).h.toList=O:=qdz e8
 have j5:=qb (show ∀b∈(qc8 ours cap N (qa6 O) 12).h.toList,0≤b∧b≤255 from qa f6)
 have HO:Hid (qf1 R (qc8 ours cap N (qa6 O) 12).h.toList=true):=f5
 have i5:(qc8 ours cap N (qa6 O) 12).b4.fulfill 0 R=((qc8 ours cap N (qa6 O) 12).b5 true (qj5 (qc8 ours cap N (qa6 O) 12).t (qc8 ours cap N (qa6 O) 12).j R),qj5 (qc8 ours cap N (qa6 O) 12).t (qc8 ours cap N (qa6 O) 12).j R,0):=zcl (qa f5)
 have i6:(qc8 ours cap N (qa6 O) 12).b4.fail 0 2=((qc8 ours cap N (qa6 O) 12).b5 false (qj4 (qc8 ours cap N (qa6 O) 12).t (qc8 ours cap N (qa6 O) 12).j 2),qj4 (qc8 ours cap N (qa6 O) 12).t (qc8 ours cap N (qa6 O) 12).j 2,0):=zbc
 have HK:=qb hK
 have HF:=qb (And.intro i5 i6)
 have HV:Hid ((qc8 ours cap N (qa6 O) 12).j=0∧(qc8 ours cap N (qa6 O) 12).n=(N:Int)∧(qc8 ours cap N (qa6 O) 12).e=12):=qb ⟨rfl,rfl,rfl⟩
 clear h4 hK i5 i6 i9 i8
 generalize qc8 ours cap N (qa6 O) 12=q at *
 go_wp2_with (first | (with_reducible first|(first|refine' zy (qh ?_) ?_|refine' zz (qh ?_) ?_|refine' qw3 (qh ?_) ?_);rotate_left|refine' qw4 (qh ?_)|refine' qw5 (qh ?_)|rfl|apply qn) | refine⟨c4,?_⟩ | with_reducible refine⟨trivial,?_⟩)
 have j7:((N:Int)==0)=false:=by simp;omega
 have j8:decide (ours<(N:Int))=false:=by simp;omega
 refine d7.mono ?_
 rintro e w5 ⟨rfl,h5⟩
 have b7:=h5.flow ⟨by show (0:Nat)+0≤_;decide,by show (0:Nat)+1≤_;decide⟩
 clear d7 h5 c4
 go_upto_region 5 with (first | (with_reducible first|(first|refine' zy (qh ?_) ?_|refine' zz (qh ?_) ?_|refine' qw3 (qh ?_) ?_);rotate_left|refine' qw4 (qh ?_)|refine' qw5 (qh ?_)|rfl|apply qn) | with_reducible refine⟨trivial,?_⟩)
 have i2:=qb b7
 clear b7
 go_upto_region 7 with fail
 have b7:=qa i2
 clear i2 j7 j8
 go_wp2_with fail
 refine b7.mono ?_
 rintro e w6 ⟨rfl,g6,h6⟩
 have h6:DP (fun _ _=>False) w w6 b g6 (q.A1 [] 0) (q.B1 [] 0) 1:=h6
 have hr:=h6.rests (FA:=q.A1 []) (FB:=q.B1 []) hT (fun i hi=>Pay.round1 (qa HK) (by show (0:Nat)≤_;decide) (by show (0:Nat)≤_;decide) i hi) (by decide)
 clear b7 h6
 go_wp2_with fail
 refine hr.mono ?_
 rintro e w7 ⟨rfl,g7,h7⟩
 have h7:DP (fun _ _=>False) w w7 b g7 ⟨q.a3,200,false,[],[],[]⟩ ⟨q.b4,200,false,[],[],[evC (q.I false 4 false)]⟩ 202001:=h7
 have cl:=h7.cl.2
 have he:=h7.ev1x rfl qo
 clear hr h7
 go_wp2_with fail
 refine he.mono ?_
 rintro e w8 ⟨J,k1,o1,rfl,i4,h8⟩
 replace cl:=h8.cl.1
 have he:=h8.ev0 rfl
 have e4:=qb i4
 clear h8 i4
 go_wp2_with fail
 refine he.mono ?_
 rintro e w9 ⟨a2,k2,rfl,h9⟩
 have h9:DP (fun M T=>False∨(M=J∧T=o1)) w w9 b g7 ⟨q.a3,200,false,[],[],[]⟩ ⟨q.b4,200,false,[],[],[]⟩ 202001:=h9
 have g2:=h9.nw (Upd.drew (Upd.refl _ _))
 have g4:=qa e4 _ (g2.keep (.inr ⟨rfl,rfl⟩))
 obtain⟨X,hX⟩:∃X,X=(evC (q.I false 4 false)).h:=⟨_,rfl⟩
 have hC:w9.drew.cell? ⟨J,0,none⟩=some (.int .i64 1)∧zg w9.drew J 1 35=some (qk X).toArray:=⟨g4.k,by rw[hX];exact g4.h⟩
 have i7:(Value.int .u64 0::Value.int .u64 (N:Int)::(qv O++[Value.int .i64 12])).toArray=(qk X).toArray:=by
  obtain⟨e1,e2,e3⟩:=qa HV;rw[hX];show _=(Value.int .u64 q.j::Value.int .u64 q.n::(q.h.toList.map (Value.int .u8)++[Value.int .i64 q.e])).toArray;rw[e1,e2,e3,k0];rfl
 have j9:HtlcOk X:=by
  obtain⟨e1,e2,e3⟩:=qa HV;rw[hX];refine⟨?_,?_,qa j5,?_⟩
  ·show 0≤q.j∧q.j≤_;rw[e1];decide
  ·show 0≤q.n∧q.n≤_;rw[e2];omega
  ·show _≤q.e∧q.e≤_;rw[e3];decide
 have j0:=fun W=>qul j9 W
 have l4:∀W:World,(q6c (.agg (qk X).toArray) (.agg (Value.int .u64 0::Value.int .u64 (N:Int)::(qv O++[Value.int .i64 12])).toArray)).run Tryz.prog W = .ok (.bool false) W:=fun W=>by
  rw[i7];exact j0 W
 have l0:(qv O).length=32:=by rw[qaj];exact e8
 have i0:=qb g2
 have HX:=qb hX
 clear h9 g2 g4 he cl i7 hX
 go_upto_region 11 with fail
 refine qa2 (fun w'=>w'.cell? ⟨J,0,none⟩=some (.int .i64 1)∧zg w' J 1 35=some (qk X).toArray) [16,23] (.of [0,1,2,3,4,5,6,7,8,9,10,11,12,13,14,15,16,17,18,19,20,21,22,23,24,25,26,27,28,29,30,31]) (by kernel_rfl) (by kernel_rfl) hC ?_
 simp only[Plan.of]
 obtain⟨z,C⟩:=hC
 have hC:=And.intro z C
 go_wp2_with (first | (with_reducible first|(first|refine' zy (qh ?_) ?_|refine' zz (qh ?_) ?_|refine' qw3 (qh ?_) ?_);rotate_left|refine' qw4 (qh ?_)|refine' qw5 (qh ?_)|rfl|apply qn) | refine⟨hC,?_⟩ | with_reducible refine⟨trivial,?_⟩)
 refine(c7 _).mono ?_
 rintro e j3 ⟨rfl,f8⟩
 have d5:j3.cell? ⟨J,0,none⟩=some (.int .i64 1)∧zg j3 J 1 35=some (qk X).toArray:=⟨f8.cell z (fun h=>h),qav C f8 (fun h=>h)⟩
 have i3:=(qa i0).nw f8
 have i1:=qb i3
 clear hC z C i3 i0 f8
 go_wp2_with (first | (with_reducible first|(first|refine' zy (qh ?_) ?_|refine' zz (qh ?_) ?_|refine' qw3 (qh ?_) ?_);rotate_left|refine' qw4 (qh ?_)|refine' qw5 (qh ?_)|rfl|apply qn) | refine⟨d5,?_⟩ | with_reducible refine⟨trivial,?_⟩)
 refine(f7 _).mono ?_
 rintro e d4 ⟨rfl,f9⟩
 have d6:d4.cell? ⟨J,0,none⟩=some (.int .i64 1)∧zg d4 J 1 35=some (qk X).toArray:=⟨f9.cell d5.1 (fun h=>h),qav d5.2 f9 (fun h=>h)⟩
 have c2:=(qa i1).nw f9
 obtain⟨z,C⟩:=d6
 have d6:=And.intro z C
 have f3:=qb c2
 clear d5 c2 i1 f9
 go_upto_region 14 with (first | (with_reducible first|(first|refine' zy (qh ?_) ?_|refine' zz (qh ?_) ?_|refine' qw3 (qh ?_) ?_);rotate_left|refine' qw4 (qh ?_)|refine' qw5 (qh ?_)|rfl|apply qn) | refine⟨d6,?_⟩ | with_reducible refine⟨trivial,?_⟩)
 clear d6 z C
 cases e6 with
 | true =>
  have hs:DP (fun M T=>False∨(M=J∧T=o1)) w d4 b g7 ⟨q.a3,200,false,[],[],[]⟩ ⟨q.b4,200,false,[],[],[]⟩ 202001:=qa f3;have cl:=hs.cl.2;have h0:HearL q.a3 false [] [(qj4 q.t q.j 2)] (q.a5 false) false [] []:=qhq (Pay.h5f (qa HK) (by decide)) (by decide) (qe7 (by show (5:Int)≠4;decide) (by show (5:Int)≠9;decide) (q37 (.inl rfl)) q4r);have d3:Calls Tryz.prog 17 #[.pointer (some ⟨g7 1,0,none⟩),.int .u64 0,.int .i64 2] d4 fun e w'=>e = .returned (.int .i64 0)∧DP (fun M T=>False∨(M=J∧T=o1)) w w' b g7 ⟨q.a3,200,false,[],[],[]⟩ ((⟨q.b4,200,false,[],[],[]⟩:En).says (q.b5 false (qj4 q.t q.j 2)) (qj4 q.t q.j 2)) 202002:=by
   have hF:q.b4.fail ((0:Nat):Int) 2=_:=(qa HF).2;have f1:SayOk (qj4 q.t q.j 2):=gFai_say (qa HK).D.symm.chb ⟨(qa HK).j.1,by have:=(qa HK).j.2;omega⟩ (by decide);have:=hs.fails hT rfl 0 2 2 (by decide) (by decide) (by decide) (by show (q.b4.fail ((0:Nat):Int) 2).2.2=0;rw[hF]) (by show SayOk (q.b4.fail ((0:Nat):Int) 2).2.1;rw[hF];exact f1) ⟨by show (0:Nat)<_;decide,by show (1:Nat)<_;decide⟩ (by show (0:Nat)≤_;decide) (by decide);rw[show (⟨q.b4,200,false,[],[],[]⟩:En).c.fail ((0:Nat):Int) 2=_ from hF] at this;exact this
  clear hs f3;go_wp2_with fail;refine d3.mono ?_;rintro e k9 ⟨rfl,c2⟩;have b7:=c2.flow ⟨by show (0:Nat)+1≤_;decide,by show (0:Nat)+0≤_;decide⟩;clear d3 c2;go_wp2_with (first | (with_reducible first|(first|refine' zy (qh ?_) ?_|refine' zz (qh ?_) ?_|refine' qw3 (qh ?_) ?_);rotate_left|refine' qw4 (qh ?_)|refine' qw5 (qh ?_)|rfl|apply qn) | refine⟨trivial,?_⟩ | with_reducible refine⟨trivial,?_⟩);refine b7.mono ?_;rintro e g8 ⟨rfl,g1,b9⟩;have b9:DP (fun M T=>False∨(M=J∧T=o1)) w g8 b g1 (q.A2 false (qj4 q.t q.j 2) [] [] 0) (q.B2 false (qj4 q.t q.j 2) [] 0) 202002:=b9;have hr:=b9.rests (FA:=q.A2 false (qj4 q.t q.j 2) [] []) (FB:=q.B2 false (qj4 q.t q.j 2) []) hT (fun i hi=>Pay.round2 (qa HK) (by show (0:Nat)≤_;decide) (by show (0:Nat)≤_;decide) h0 i hi) (by decide);clear b7 b9 h0;go_wp2_with fail;refine hr.mono ?_;rintro e g9 ⟨rfl,f,b3⟩;have b3:DP (fun M T=>False∨(M=J∧T=o1)) w g9 b f ⟨q.a8 false,400,false,[],[],[evF (q.I true 8 false)]⟩ ⟨q.b8 false (qj4 q.t q.j 2),400,false,[],[],[]⟩ 404002:=b3;have cl:=b3.cl.1;have he:=b3.ev0x rfl qo;clear hr b3;go_wp2_with fail;refine he.mono ?_;rintro e Z ⟨B2,k6,o2,rfl,c9,c0⟩;have c0:DP (fun M T=>(False∨(M=J∧T=o1))∨(M=B2∧T=o2)) w Z b f ⟨q.a8 false,400,false,[],[],[]⟩ ⟨q.b8 false (qj4 q.t q.j 2),400,false,[],[],[]⟩ 404002:=c0;have K:=c0.nw (Upd.drew (Upd.refl _ _));have b6:=(qa e4) _ (K.keep (.inl (.inr ⟨rfl,rfl⟩)));have E:=c9 _ (K.keep (.inr ⟨rfl,rfl⟩));have hC:Z.drew.cell? ⟨b,4,none⟩=some (.bool false)∧zg Z.drew B2 1 35=some (qk X).toArray∧zg Z.drew J 1 35=some (qk X).toArray∧Z.drew.cell? ⟨b,1,none⟩=some (.pointer (some ⟨f 1,0,none⟩))∧Z.drew.cell? ⟨b,0,none⟩=some (.pointer (some ⟨f 0,0,none⟩)) :=
   ⟨K.bad,by rw[qa HX];exact E.h,by rw[qa HX];exact b6.h,K.cl.2,K.cl.1⟩
  have d8:=qb K;have e5:=qb c9;clear c0 K b6 E he cl c9;go_upto_region 20 with fail;refine qa2 (fun w'=>w'.cell? ⟨b,4,none⟩=some (.bool false)∧zg w' B2 1 35=some (qk X).toArray∧zg w' J 1 35=some (qk X).toArray∧w'.cell? ⟨b,1,none⟩=some (.pointer (some ⟨f 1,0,none⟩))∧w'.cell? ⟨b,0,none⟩=some (.pointer (some ⟨f 0,0,none⟩))) [6,17,21,29,39] (.of [0,1,2,3,4,5,6,7,8,9,10,11,12,13,14,15,16,17,18,19,20,21,22,23,24,25,26,27,28,29,30,31,32,33,34,35,36,37,38,39,40,41,42,43,44]) (by kernel_rfl) (by kernel_rfl) hC ?_;simp only[Plan.of];obtain⟨z,C,U,V,Y⟩:=hC;have hC:=And.intro z (And.intro C (And.intro U (And.intro V Y)));have he:=(qa d8).ev1 rfl;clear d8;go_wp2_with (first | (with_reducible first|(first|refine' zy (qh ?_) ?_|refine' zz (qh ?_) ?_|refine' qw3 (qh ?_) ?_);rotate_left|refine' qw4 (qh ?_)|refine' qw5 (qh ?_)|rfl|apply qn) | refine⟨hC,?_⟩ | with_reducible refine⟨trivial,?_⟩);refine he.mono ?_;rintro e a6 ⟨a3,k3,rfl,v⟩;have v:DP (fun M T=>(False∨(M=J∧T=o1))∨(M=B2∧T=o2)) w a6 b f ⟨q.a8 false,400,false,[],[],[]⟩ ⟨q.b8 false (qj4 q.t q.j 2),400,false,[],[],[]⟩ 404002:=v;have b6:=(qa e4) _ (v.keep (.inl (.inr ⟨rfl,rfl⟩)));have E:=(qa e5) _ (v.keep (.inr ⟨rfl,rfl⟩));have P:a6.cell? ⟨b,4,none⟩=some (.bool false)∧zg a6 B2 1 35=some (qk X).toArray∧zg a6 J 1 35=some (qk X).toArray∧a6.cell? ⟨b,1,none⟩=some (.pointer (some ⟨f 1,0,none⟩))∧a6.cell? ⟨b,0,none⟩=some (.pointer (some ⟨f 0,0,none⟩)) :=
   ⟨v.bad,by rw[qa HX];exact E.h,by rw[qa HX];exact b6.h,v.cl.2,v.cl.1⟩
  obtain⟨en,f0,c1⟩:=v.chan rfl;have d9:=qb v;clear he hC z C U V Y b6 E v;obtain⟨z,C,U,V,Y⟩:=P;have P:=And.intro z (And.intro C (And.intro U (And.intro V Y)));go_wp2_with (first | (with_reducible first|(first|refine' zy (qh ?_) ?_|refine' zz (qh ?_) ?_|refine' qw3 (qh ?_) ?_);rotate_left|refine' qw4 (qh ?_)|refine' qw5 (qh ?_)|rfl|apply qn) | refine⟨P,?_⟩ | with_reducible refine⟨trivial,?_⟩);refine f0.mono ?_;rintro e a7 ⟨rfl,f2⟩;have F:=f2.upd (fun _=>False);have c1:=c1 a7 F;have e0:=qb ((qa d9).nw F);have m:a7.cell? ⟨b,4,none⟩=some (.bool false)∧zg a7 B2 1 35=some (qk X).toArray∧zg a7 J 1 35=some (qk X).toArray∧a7.cell? ⟨b,1,none⟩=some (.pointer (some ⟨f 1,0,none⟩))∧a7.cell? ⟨b,0,none⟩=some (.pointer (some ⟨f 0,0,none⟩)) :=
   ⟨F.cell z (fun h=>h),qav C F (fun h=>h),qav U F (fun h=>h),F.cell V (fun h=>h),F.cell Y (fun h=>h)⟩
  clear f0 f2 d9 P z C U V Y F;go_wp2_with (first | (with_reducible first|(first|refine' zy (qh ?_) ?_|refine' zz (qh ?_) ?_|refine' qw3 (qh ?_) ?_);rotate_left|refine' qw4 (qh ?_)|refine' qw5 (qh ?_)|rfl|apply qn) | refine⟨m,?_⟩ | with_reducible refine⟨trivial,?_⟩);refine c1.mono ?_;rintro e H ⟨a4,k4,rfl,L⟩;have c8:=(qa e0).nw L;have c5:H.cell? ⟨b,4,none⟩=some (.bool false)∧zg H B2 1 35=some (qk X).toArray∧zg H J 1 35=some (qk X).toArray∧H.cell? ⟨b,1,none⟩=some (.pointer (some ⟨f 1,0,none⟩))∧H.cell? ⟨b,0,none⟩=some (.pointer (some ⟨f 0,0,none⟩)) :=
   ⟨L.cell m.1 (fun h=>h),qav m.2.1 L (fun h=>h),qav m.2.2.1 L (fun h=>h),L.cell m.2.2.2.1 (fun h=>h),L.cell m.2.2.2.2 (fun h=>h)⟩
  have E:=(qa e5) _ (c8.keep (.inr ⟨rfl,rfl⟩));have d0:H.cell? ⟨B2,0,none⟩=some (.int .i64 3):=E.k;have d1:zg H B2 36 32=some (qv ze).toArray:=E.p;have f4:=qb c8.new;clear c1 m e0 L c8 E;go_upto_region 23 with (first | (with_reducible first|(first|refine' zy (qh ?_) ?_|refine' zz (qh ?_) ?_|refine' qw3 (qh ?_) ?_);rotate_left|refine' qw4 (qh ?_)|refine' qw5 (qh ?_)|rfl|apply qn) | refine⟨c5,?_⟩ | with_reducible refine⟨trivial,?_⟩);clear c5;have g5:=fun W=>qwd qo qo qdd qdd W
  rw[show (ze==ze)=true from by simp] at g5;go_wp2_with fail;go_ret;exact⟨rfl,qa f4⟩
 | false =>
  have hs:DP (fun M T=>False∨(M=J∧T=o1)) w d4 b g7 ⟨q.a3,200,false,[],[],[]⟩ ⟨q.b4,200,false,[],[],[]⟩ 202001:=qa f3;have cl:=hs.cl.2;have h0:HearL q.a3 false [] [(qj5 q.t q.j R)] (q.a5 true) false [evP (q.I true 4 false) R] []:=qhq (Pay.h5p (qa HK) d2 e9 (qa HO)) (by decide) tell_paid;have d3:∀w',qq d4 w'→Calls Tryz.prog 18 #[.pointer (some ⟨g7 1,0,none⟩),.int .u64 0,.agg (qv R).toArray] w' fun e k8=>e = .returned (.int .i64 0)∧DP (fun M T=>False∨(M=J∧T=o1)) w k8 b g7 ⟨q.a3,200,false,[],[],[]⟩ ((⟨q.b4,200,false,[],[],[]⟩:En).says (q.b5 true (qj5 q.t q.j R)) (qj5 q.t q.j R)) 202002:=by
   intro w' k7;have hF:q.b4.fulfill ((0:Nat):Int) R=_:=(qa HF).1;have f1:SayOk (qj5 q.t q.j R):=gFul_say (qa HK).D.symm.chb ⟨(qa HK).j.1,by have:=(qa HK).j.2;omega⟩ d2 e9;have:=(hs.nw k7).pays hT rfl 0 R d2 (by decide) (by show (q.b4.fulfill ((0:Nat):Int) R).2.2=0;rw[hF]) (by show SayOk (q.b4.fulfill ((0:Nat):Int) R).2.1;rw[hF];exact f1) ⟨by show (0:Nat)<_;decide,by show (1:Nat)<_;decide⟩ (by show (0:Nat)≤_;decide) (by decide);rw[show (⟨q.b4,200,false,[],[],[]⟩:En).c.fulfill ((0:Nat):Int) R=_ from hF] at this;exact this
  have c6:d4.drew.cell? ⟨b,1,none⟩=some (.pointer (some ⟨g7 1,0,none⟩)):=cl;clear hs f3;clear cl;go_upto_region 16 with fail;refine qa2 (fun w'=>w'.cell? ⟨b,1,none⟩=some (.pointer (some ⟨g7 1,0,none⟩))) [4] (.of [0,1,2,3,4,5,6,7,8,9]) (by kernel_rfl) (by kernel_rfl) c6 ?_;simp only[Plan.of];go_wp2_with (first | (with_reducible first|(first|refine' zy (qh ?_) ?_|refine' zz (qh ?_) ?_|refine' qw3 (qh ?_) ?_);rotate_left|refine' qw4 (qh ?_)|refine' qw5 (qh ?_)|rfl|apply qn) | refine⟨c6,?_⟩ | with_reducible refine⟨trivial,?_⟩);refine(c7 _).mono ?_;rintro e wq ⟨rfl,nq⟩;have cq:wq.cell? ⟨b,1,none⟩=some (.pointer (some ⟨g7 1,0,none⟩)):=nq.cell c6 (fun h=>h);replace d3:=d3 wq nq.ofDrew;clear c6 nq;go_wp2_with (first | (with_reducible first|(first|refine' zy (qh ?_) ?_|refine' zz (qh ?_) ?_|refine' qw3 (qh ?_) ?_);rotate_left|refine' qw4 (qh ?_)|refine' qw5 (qh ?_)|rfl|apply qn) | refine⟨cq,?_⟩ | with_reducible refine⟨trivial,?_⟩);refine d3.mono ?_;rintro e k9 ⟨rfl,c2⟩;have b7:=c2.flow ⟨by show (0:Nat)+1≤_;decide,by show (0:Nat)+0≤_;decide⟩;clear d3 c2;go_wp2_with (first | (with_reducible first|(first|refine' zy (qh ?_) ?_|refine' zz (qh ?_) ?_|refine' qw3 (qh ?_) ?_);rotate_left|refine' qw4 (qh ?_)|refine' qw5 (qh ?_)|rfl|apply qn) | with_reducible refine⟨trivial,?_⟩);refine b7.mono ?_;rintro e g8 ⟨rfl,g1,b9⟩;have b9:DP (fun M T=>False∨(M=J∧T=o1)) w g8 b g1 (q.A2 true (qj5 q.t q.j R) [] [evP (q.I true 4 false) R] 0) (q.B2 true (qj5 q.t q.j R) [] 0) 202002:=b9;have hr:=b9.rests (FA:=q.A2 true (qj5 q.t q.j R) [] [evP (q.I true 4 false) R]) (FB:=q.B2 true (qj5 q.t q.j R) []) hT (fun i hi=>Pay.round2 (qa HK) (by show (1:Nat)≤_;decide) (by show (0:Nat)≤_;decide) h0 i hi) (by decide)
  clear b7 b9 h0;go_wp2_with fail;refine hr.mono ?_;rintro e g9 ⟨rfl,f,b3⟩;have b3:DP (fun M T=>False∨(M=J∧T=o1)) w g9 b f ⟨q.a8 true,400,false,[],[],[evP (q.I true 4 false) R]⟩ ⟨q.b8 true (qj5 q.t q.j R),400,false,[],[],[]⟩ 404002:=b3;have cl:=b3.cl.1;have he:=b3.ev0x rfl d2;clear hr b3;go_wp2_with fail;refine he.mono ?_;rintro e Z ⟨B2,k6,o2,rfl,c9,c0⟩;have c0:DP (fun M T=>(False∨(M=J∧T=o1))∨(M=B2∧T=o2)) w Z b f ⟨q.a8 true,400,false,[],[],[]⟩ ⟨q.b8 true (qj5 q.t q.j R),400,false,[],[],[]⟩ 404002:=c0;have K:=c0.nw (Upd.drew (Upd.refl _ _));have b6:=(qa e4) _ (K.keep (.inl (.inr ⟨rfl,rfl⟩)));have E:=c9 _ (K.keep (.inr ⟨rfl,rfl⟩));have hC:Z.drew.cell? ⟨b,4,none⟩=some (.bool false)∧zg Z.drew B2 1 35=some (qk X).toArray∧zg Z.drew J 1 35=some (qk X).toArray∧Z.drew.cell? ⟨b,1,none⟩=some (.pointer (some ⟨f 1,0,none⟩))∧Z.drew.cell? ⟨b,0,none⟩=some (.pointer (some ⟨f 0,0,none⟩)) :=
   ⟨K.bad,by rw[qa HX];exact E.h,by rw[qa HX];exact b6.h,K.cl.2,K.cl.1⟩
  have d8:=qb K;have e5:=qb c9;clear c0 K b6 E he cl c9;go_upto_region 20 with fail;refine qa2 (fun w'=>w'.cell? ⟨b,4,none⟩=some (.bool false)∧zg w' B2 1 35=some (qk X).toArray∧zg w' J 1 35=some (qk X).toArray∧w'.cell? ⟨b,1,none⟩=some (.pointer (some ⟨f 1,0,none⟩))∧w'.cell? ⟨b,0,none⟩=some (.pointer (some ⟨f 0,0,none⟩))) [6,17,21,29,39] (.of [0,1,2,3,4,5,6,7,8,9,10,11,12,13,14,15,16,17,18,19,20,21,22,23,24,25,26,27,28,29,30,31,32,33,34,35,36,37,38,39,40,41,42,43,44]) (by kernel_rfl) (by kernel_rfl) hC ?_;simp only[Plan.of];obtain⟨z,C,U,V,Y⟩:=hC;have hC:=And.intro z (And.intro C (And.intro U (And.intro V Y)));have he:=(qa d8).ev1 rfl;clear d8;go_wp2_with (first | (with_reducible first|(first|refine' zy (qh ?_) ?_|refine' zz (qh ?_) ?_|refine' qw3 (qh ?_) ?_);rotate_left|refine' qw4 (qh ?_)|refine' qw5 (qh ?_)|rfl|apply qn) | refine⟨hC,?_⟩ | with_reducible refine⟨trivial,?_⟩);refine he.mono ?_;rintro e a6 ⟨a3,k3,rfl,v⟩;have v:DP (fun M T=>(False∨(M=J∧T=o1))∨(M=B2∧T=o2)) w a6 b f ⟨q.a8 true,400,false,[],[],[]⟩ ⟨q.b8 true (qj5 q.t q.j R),400,false,[],[],[]⟩ 404002:=v;have b6:=(qa e4) _ (v.keep (.inl (.inr ⟨rfl,rfl⟩)));have E:=(qa e5) _ (v.keep (.inr ⟨rfl,rfl⟩));have P:a6.cell? ⟨b,4,none⟩=some (.bool false)∧zg a6 B2 1 35=some (qk X).toArray∧zg a6 J 1 35=some (qk X).toArray∧a6.cell? ⟨b,1,none⟩=some (.pointer (some ⟨f 1,0,none⟩))∧a6.cell? ⟨b,0,none⟩=some (.pointer (some ⟨f 0,0,none⟩)) :=
   ⟨v.bad,by rw[qa HX];exact E.h,by rw[qa HX];exact b6.h,v.cl.2,v.cl.1⟩
  obtain⟨en,f0,c1⟩:=v.chan rfl;have d9:=qb v;clear he hC z C U V Y b6 E v;obtain⟨z,C,U,V,Y⟩:=P;have P:=And.intro z (And.intro C (And.intro U (And.intro V Y)));go_wp2_with (first | (with_reducible first|(first|refine' zy (qh ?_) ?_|refine' zz (qh ?_) ?_|refine' qw3 (qh ?_) ?_);rotate_left|refine' qw4 (qh ?_)|refine' qw5 (qh ?_)|rfl|apply qn) | refine⟨P,?_⟩ | with_reducible refine⟨trivial,?_⟩);refine f0.mono ?_;rintro e a7 ⟨rfl,f2⟩;have F:=f2.upd (fun _=>False);have c1:=c1 a7 F;have e0:=qb ((qa d9).nw F);have m:a7.cell? ⟨b,4,none⟩=some (.bool false)∧zg a7 B2 1 35=some (qk X).toArray∧zg a7 J 1 35=some (qk X).toArray∧a7.cell? ⟨b,1,none⟩=some (.pointer (some ⟨f 1,0,none⟩))∧a7.cell? ⟨b,0,none⟩=some (.pointer (some ⟨f 0,0,none⟩)) :=
   ⟨F.cell z (fun h=>h),qav C F (fun h=>h),qav U F (fun h=>h),F.cell V (fun h=>h),F.cell Y (fun h=>h)⟩
  clear f0 f2 d9 P z C U V Y F;go_wp2_with (first | (with_reducible first|(first|refine' zy (qh ?_) ?_|refine' zz (qh ?_) ?_|refine' qw3 (qh ?_) ?_);rotate_left|refine' qw4 (qh ?_)|refine' qw5 (qh ?_)|rfl|apply qn) | refine⟨m,?_⟩ | with_reducible refine⟨trivial,?_⟩);refine c1.mono ?_;rintro e H ⟨a4,k4,rfl,L⟩;have c8:=(qa e0).nw L;have c5:H.cell? ⟨b,4,none⟩=some (.bool false)∧zg H B2 1 35=some (qk X).toArray∧zg H J 1 35=some (qk X).toArray∧H.cell? ⟨b,1,none⟩=some (.pointer (some ⟨f 1,0,none⟩))∧H.cell? ⟨b,0,none⟩=some (.pointer (some ⟨f 0,0,none⟩)) :=
   ⟨L.cell m.1 (fun h=>h),qav m.2.1 L (fun h=>h),qav m.2.2.1 L (fun h=>h),L.cell m.2.2.2.1 (fun h=>h),L.cell m.2.2.2.2 (fun h=>h)⟩
  have E:=(qa e5) _ (c8.keep (.inr ⟨rfl,rfl⟩));have d0:H.cell? ⟨B2,0,none⟩=some (.int .i64 2):=E.k;have d1:zg H B2 36 32=some (qv R).toArray:=E.p;have f4:=qb c8.new;clear c1 m e0 L c8 E;go_upto_region 24 with (first | (with_reducible first|(first|refine' zy (qh ?_) ?_|refine' zz (qh ?_) ?_|refine' qw3 (qh ?_) ?_);rotate_left|refine' qw4 (qh ?_)|refine' qw5 (qh ?_)|rfl|apply qn) | refine⟨c5,?_⟩ | with_reducible refine⟨trivial,?_⟩);clear c5;have g5:=fun W=>qwd d2 d2 e9 e9 W
  rw[show (R==R)=true from by simp] at g5;have hD:H.drew.cell? ⟨B2,0,none⟩=some (.int .i64 2)∧zg H.drew B2 36 32=some (qv R).toArray:=⟨d0,d1⟩;refine qa2 (fun w'=>w'.cell? ⟨B2,0,none⟩=some (.int .i64 2)∧zg w' B2 36 32=some (qv R).toArray) [3,9] (.of [0,1,2,3,4,5,6,7,8,9,10,11,12,13,14]) (by kernel_rfl) (by kernel_rfl) hD ?_;simp only[Plan.of];clear d0 d1;obtain⟨d0,d1⟩:=hD;have hD:=And.intro d0 d1;go_wp2_with (first | (with_reducible first|(first|refine' zy (qh ?_) ?_|refine' zz (qh ?_) ?_|refine' qw3 (qh ?_) ?_);rotate_left|refine' qw4 (qh ?_)|refine' qw5 (qh ?_)|rfl|apply qn) | refine⟨hD,?_⟩ | with_reducible refine⟨trivial,?_⟩);refine(c7 _).mono ?_;rintro e j4 ⟨rfl,g0⟩;have e7:j4.cell? ⟨B2,0,none⟩=some (.int .i64 2)∧zg j4 B2 36 32=some (qv R).toArray:=⟨g0.cell d0 (fun h=>h),qav d1 g0 (fun h=>h)⟩;have j6:=qb ((qa f4).trans g0.ofDrew);clear hD d0 d1 g0 f4;obtain⟨d0,d1⟩:=e7;have e7:=And.intro d0 d1;go_wp2_with (first | (with_reducible first|(first|refine' zy (qh ?_) ?_|refine' zz (qh ?_) ?_|refine' qw3 (qh ?_) ?_);rotate_left|refine' qw4 (qh ?_)|refine' qw5 (qh ?_)|rfl|apply qn) | refine⟨e7,?_⟩ | with_reducible refine⟨trivial,?_⟩);go_ret;exact⟨rfl,qa j6⟩
theorem qtp(ours cap n p:Int)(f:Bool)(W:World)(z:(Lit.int .u64 ours).wf=true)(C:(Lit.int .u64 cap).wf=true)(E:(Lit.int .u64 n).wf=true)(F:(Lit.int .u8 p).wf=true)(i:Tb W):Calls Tryz.prog 3 #[.int .u64 ours,.int .u64 cap,.int .u64 n,.int .u8 p,.bool f] W (qa5 (.bool true) W):=by
 have v:0≤ours∧ours<18446744073709551616:=by
  simp[Lit.wf,IntKind.min,IntKind.max,IntKind.signed,IntKind.bits] at z;omega
 have m:0≤cap∧cap<18446744073709551616:=by
  simp[Lit.wf,IntKind.min,IntKind.max,IntKind.signed,IntKind.bits] at C;omega
 have H:0≤n∧n<18446744073709551616:=by
  simp[Lit.wf,IntKind.min,IntKind.max,IntKind.signed,IntKind.bits] at E;omega
 have I:0≤p∧p≤255:=by
  simp[Lit.wf,IntKind.min,IntKind.max,IntKind.signed,IntKind.bits] at F;omega
 by_cases q:1≤cap∧cap≤1125899906842624∧ours≤cap
 ·exact qtq ours cap n p f W v m H I q i
 ·exact qwf ours cap n p f W v m q i
end Go.Proofs.YtfmkdoachjgjbaaGreatDoor
