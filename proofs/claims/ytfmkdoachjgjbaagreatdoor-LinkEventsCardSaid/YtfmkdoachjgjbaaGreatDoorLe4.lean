/-
  Law 18: LinkEvents.
-/
import Derived.Test.YtfmkdoachjgjbaaGreatDoorMeg
set_option maxRecDepth 100000
set_option maxHeartbeats 4000000
set_option linter.unusedVariables false
set_option linter.unusedSimpArgs false
namespace Go.Proofs.YtfmkdoachjgjbaaGreatDoor
open Go.RowKit
attribute [local go_sem ↓ high] zl qar qml qdr qiw quv
attribute [local go_sem] qbl qdm qx qkb qrv
theorem qx4{q:Pay}(k:PayOk q):SayOk q.add:=qok k.D.chb ⟨k.j.1,by have:=k.j.2;omega⟩ ⟨by have:=k.n.1;omega,k.n.2⟩ k.h ⟨by have:=k.e.1;omega,k.e.2⟩
theorem q3f{q:Pay}{s:SetupV}{p:List Int}{B:List Live}{wt:Bool} : ([]:List EvV)++qdk (qfa s q.j p) wt [q.I true 4 false] B=[evP (q.I true 4 false) p]:=by
 unfold qdk;rw[if_pos (show (qfa s q.j p).kind=4 from rfl),List.nil_append];exact q64
theorem qwp(ours cap n p:Int)(i:Bool)(w:World)(I:0≤ours∧ours<18446744073709551616)(F:0≤cap∧cap<18446744073709551616)(H:¬(1≤cap∧cap≤1125899906842624∧ours≤cap))(E:Tb w) :
  Calls Tryz.prog 3 #[.int .u64 ours,.int .u64 cap,.int .u64 n,.int .u8 p,.bool i] w (qa7 (.bool true) w):=by
 have v:=qzz ours cap I F H w
 go_enter Tryz.func3,Tryz.ntmps3
 go_upto_region 1 with fail
 go_wp2_with fail
 refine v.mono ?_
 rintro e w1 ⟨rfl,q⟩
 have m:=qvm w1 (E.new q)
 have r:=qb q
 clear v q
 go_wp2_with fail
 refine m.mono ?_
 rintro e L ⟨rfl,z⟩
 have f:=qb ((qa r).trans z)
 clear m z r
 by_cases C:cap=0
 ·subst C;go_wp2_with fail;go_ret;exact⟨rfl,qa f⟩
 ·by_cases J:1125899906842624<cap
  ·go_wp2_with fail;go_ret;exact⟨rfl,qa f⟩
  ·have K:cap<ours:=by omega
   go_wp2_with fail;go_ret;exact⟨rfl,qa f⟩
theorem qty(ours cap n p:Int)(e5:Bool)(w:World)(ho:0≤ours∧ours<18446744073709551616)(hc:0≤cap∧cap<18446744073709551616)(hn:0≤n∧n<18446744073709551616)(hp:0≤p∧p≤255)(hm:1≤cap∧cap≤1125899906842624∧ours≤cap)(hT:Tb w) :
  Calls Tryz.prog 3 #[.int .u64 ours,.int .u64 cap,.int .u64 n,.int .u8 p,.bool e5] w (qa7 (.bool true) w):=by
 have hb:=q4a ours cap ho hc hm w
 have c6:=fun W=>qx6 p hp W
 have f6:=fun W=>q2q (qiq p) (qlb p) W
 go_enter Tryz.func3,Tryz.ntmps3
 go_upto_region 1 with fail
 go_wp2_with fail
 refine hb.mono ?_
 rintro e w1 ⟨b,rfl,hP⟩
 have j1:=qvm w1 (hT.new (by obtain⟨g,S,h⟩:=hP;exact h.new))
 have H1:=qb hP
 clear hb hP
 go_wp2_with fail
 refine j1.mono ?_
 rintro e w2 ⟨rfl,n2⟩
 obtain⟨g,S,hP⟩:=qa H1
 have h2:DP (fun _ _=>False) w w2 b g ⟨Ch.new (qcm ours cap),0,false,[],[],[]⟩ ⟨Ch.new (qcd ours cap),0,false,[],[],[]⟩ 0:=DP.nw ⟨S,_,hP,zaw ours cap⟩ n2
 clear hP H1 j1 n2
 obtain⟨cl,-⟩:=h2.cl
 have c5:w2.drew.cell? ⟨b,0,none⟩=some (.pointer (some ⟨g 0,0,none⟩)):=cl
 have H2:=qb h2
 clear h2
 go_upto_region 4 with fail
 refine qa1 (fun w'=>w'.cell? ⟨b,0,none⟩=some (.pointer (some ⟨g 0,0,none⟩))) [4] (.of [0,1,2,3,4,5,6,7,8,9,10,11,12,13,14]) (by kernel_rfl) (by kernel_rfl) c5 ?_
 simp only[Plan.of]
 clear cl
 go_wp2_with (first | (with_reducible first|(first|refine' zv (qh ?_) ?_|refine' zx (qh ?_) ?_|refine' zy (qh ?_) ?_);rotate_left|refine' zz (qh ?_)|refine' qw5 (qh ?_)|rfl|apply qn) | with_reducible refine⟨trivial,?_⟩)
 refine(c6 _).mono ?_
 rintro e w3 ⟨rfl,n3⟩
 have c3:w3.cell? ⟨b,0,none⟩=some (.pointer (some ⟨g 0,0,none⟩)):=n3.cell c5 (fun h=>h)
 have h3:=((qa H2).nw (Upd.drew (Upd.refl _ _))).nw n3
 have H3:=qb h3
 clear h3 H2 n3 c5
 go_wp2_with (first | (with_reducible first|(first|refine' zv (qh ?_) ?_|refine' zx (qh ?_) ?_|refine' zy (qh ?_) ?_);rotate_left|refine' zz (qh ?_)|refine' qw5 (qh ?_)|rfl|apply qn) | refine⟨c3,?_⟩ | with_reducible refine⟨trivial,?_⟩)
 refine(f6 _).mono ?_
 rintro e w4 ⟨rfl,n4⟩
 have c4:w4.cell? ⟨b,0,none⟩=some (.pointer (some ⟨g 0,0,none⟩)):=n4.cell c3 (fun h=>h)
 have h4:=(qa H3).nw n4
 clear H3 n4 c3
 have e7:=qxy p
 have g2:=quz p
 have f4:=qb (q08 p)
 have f5:=qb (q07 p)
 generalize ofI (qiq p)=O at e7 g2 f4 f5 f6 ⊢
 have c9:=qlb p
 have e8:=qx5 p
 generalize qiq p=R at c9 e8 f4 f6 c6 ⊢
 obtain⟨N,rfl⟩:=Int.eq_ofNat_of_zero_le hn.1
 by_cases hg:1≤(N:Int)∧(N:Int)≤ours
 rotate_left
 ·have j0:=h4.offerBad hT rfl N 12 12 O e7 g2 (by omega) (by decide) (by decide) (by decide) (qmv (by omega) (by decide)).1 (qmv (by omega) (by decide)).2 ⟨by show (0:Nat)<_;decide,by show (0:Nat)<_;decide⟩;clear h4;go_wp2_with (first | (with_reducible first|(first|refine' zv (qh ?_) ?_|refine' zx (qh ?_) ?_|refine' zy (qh ?_) ?_);rotate_left|refine' zz (qh ?_)|refine' qw5 (qh ?_)|rfl|apply qn) | refine⟨c4,?_⟩ | with_reducible refine⟨trivial,?_⟩);refine j0.mono ?_;rintro e w5 ⟨id,er,rfl,k0,n5⟩;have N5:=qb n5;have l0:(er != 0)=true:=by simpa using k0
  clear j0 n5;by_cases h0:N=0
  ·subst h0;go_wp2_with (first | (with_reducible first|(first|refine' zv (qh ?_) ?_|refine' zx (qh ?_) ?_|refine' zy (qh ?_) ?_);rotate_left|refine' zz (qh ?_)|refine' qw5 (qh ?_)|rfl|apply qn) | with_reducible refine⟨trivial,?_⟩);go_ret;exact⟨rfl,qa N5⟩
  ·have h1:ours<(N:Int):=by omega
   have h2:¬((N:Int)=0):=by omega
   go_wp2_with (first | (with_reducible first|(first|refine' zv (qh ?_) ?_|refine' zx (qh ?_) ?_|refine' zy (qh ?_) ?_);rotate_left|refine' zz (qh ?_)|refine' qw5 (qh ?_)|rfl|apply qn) | with_reducible refine⟨trivial,?_⟩);go_ret;exact⟨rfl,qa N5⟩
 have d6:=h4.offer hT rfl N 12 12 O e7 g2 (by omega) (by decide) (by decide) (by decide) (by rw[qk8 hg (by decide)]) (by rw[qk8 hg (by decide)];exact qx4 (qsr ⟨ho.1,hm.2.2,hm.2.1⟩ hg (by decide) (qa f5))) ⟨by show (0:Nat)<_;decide,by show (0:Nat)<_;decide⟩ (by show (0:Nat)≤_;decide) (by decide)
 have i8:((Ch.new (qcm ours cap)).offer N (qa8 O) 12).2.1.id=0:=by rw[qk8 hg (by decide)];rfl
 have hK:=qsr (cap:=cap) (e:=12) ⟨ho.1,hm.2.2,hm.2.1⟩ hg (by decide) (qa f5)
 rw[i8,qk8 hg (by decide)] at d6
 have i7:=zbb (ours:=ours) (cap:=cap) (n:=N) (e:=12) (h:=qa8 O) ⟨ho.1,hm.2.2,hm.2.1⟩
 rw[←i7] at d6
 have j9:(qdd ours cap N (qa8 O) 12).h.toList=O:=qd4 e7
 have j4:=qb (show ∀b∈(qdd ours cap N (qa8 O) 12).h.toList,0≤b∧b≤255 from qa f5)
 have HO:Hid (qeh R (qdd ours cap N (qa8 O) 12).h.toList=true):=f4
 have i4:(qdd ours cap N (qa8 O) 12).b4.fulfill 0 R=((qdd ours cap N (qa8 O) 12).b5 true (qfa (qdd ours cap N (qa8 O) 12).t (qdd ours cap N (qa8 O) 12).j R),qfa (qdd ours cap N (qa8 O) 12).t (qdd ours cap N (qa8 O) 12).j R,0):=zcv (qa f4)
 have i5:(qdd ours cap N (qa8 O) 12).b4.fail 0 2=((qdd ours cap N (qa8 O) 12).b5 false (qg3 (qdd ours cap N (qa8 O) 12).t (qdd ours cap N (qa8 O) 12).j 2),qg3 (qdd ours cap N (qa8 O) 12).t (qdd ours cap N (qa8 O) 12).j 2,0):=zbl
 have HK:=qb hK
 have HF:=qb (And.intro i4 i5)
 have HV:Hid ((qdd ours cap N (qa8 O) 12).j=0∧(qdd ours cap N (qa8 O) 12).n=(N:Int)∧(qdd ours cap N (qa8 O) 12).e=12):=qb ⟨rfl,rfl,rfl⟩
 clear h4 hK i4 i5 i8 i7
 generalize qdd ours cap N (qa8 O) 12=q at *
 go_wp2_with (first | (with_reducible first|(first|refine' zv (qh ?_) ?_|refine' zx (qh ?_) ?_|refine' zy (qh ?_) ?_);rotate_left|refine' zz (qh ?_)|refine' qw5 (qh ?_)|rfl|apply qn) | refine⟨c4,?_⟩ | with_reducible refine⟨trivial,?_⟩)
 have j6:((N:Int)==0)=false:=by simp;omega
 have j7:decide (ours<(N:Int))=false:=by simp;omega
 refine d6.mono ?_
 rintro e w5 ⟨rfl,h5⟩
 have b6:=h5.flow ⟨by show (0:Nat)+0≤_;decide,by show (0:Nat)+1≤_;decide⟩
 clear d6 h5 c4
 go_upto_region 5 with (first | (with_reducible first|(first|refine' zv (qh ?_) ?_|refine' zx (qh ?_) ?_|refine' zy (qh ?_) ?_);rotate_left|refine' zz (qh ?_)|refine' qw5 (qh ?_)|rfl|apply qn) | with_reducible refine⟨trivial,?_⟩)
 have i1:=qb b6
 clear b6
 go_upto_region 7 with fail
 have b6:=qa i1
 clear i1 j6 j7
 go_wp2_with fail
 refine b6.mono ?_
 rintro e w6 ⟨rfl,g6,h6⟩
 have h6:DP (fun _ _=>False) w w6 b g6 (q.A1 [] 0) (q.B1 [] 0) 1:=h6
 have hr:=h6.rests (FA:=q.A1 []) (FB:=q.B1 []) hT (fun i hi=>Pay.round1 (qa HK) (by show (0:Nat)≤_;decide) (by show (0:Nat)≤_;decide) i hi) (by decide)
 clear b6 h6
 go_wp2_with fail
 refine hr.mono ?_
 rintro e w7 ⟨rfl,g7,h7⟩
 have h7:DP (fun _ _=>False) w w7 b g7 ⟨q.a3,200,false,[],[],[]⟩ ⟨q.b4,200,false,[],[],[evC (q.I false 4 false)]⟩ 202001:=h7
 have cl:=h7.cl.2
 have he:=h7.ev1x rfl qm
 clear hr h7
 go_wp2_with fail
 refine he.mono ?_
 rintro e w8 ⟨H,k1,o1,rfl,i3,h8⟩
 replace cl:=h8.cl.1
 have he:=h8.ev0 rfl
 have e0:=qb i3
 clear h8 i3
 go_wp2_with fail
 refine he.mono ?_
 rintro e w9 ⟨a2,k2,rfl,h9⟩
 have h9:DP (fun L P=>False∨(L=H∧P=o1)) w w9 b g7 ⟨q.a3,200,false,[],[],[]⟩ ⟨q.b4,200,false,[],[],[]⟩ 202001:=h9
 have g1:=h9.nw (Upd.drew (Upd.refl _ _))
 have g3:=qa e0 _ (g1.keep (.inr ⟨rfl,rfl⟩))
 obtain⟨X,hX⟩:∃X,X=(evC (q.I false 4 false)).h:=⟨_,rfl⟩
 have hC:w9.drew.cell? ⟨H,0,none⟩=some (.int .i64 1)∧zf w9.drew H 1 35=some (qk X).toArray:=⟨g3.k,by rw[hX];exact g3.h⟩
 have i6:(Value.int .u64 0::Value.int .u64 (N:Int)::(qu O++[Value.int .i64 12])).toArray=(qk X).toArray:=by
  obtain⟨e1,e2,e3⟩:=qa HV;rw[hX];show _=(Value.int .u64 q.j::Value.int .u64 q.n::(q.h.toList.map (Value.int .u8)++[Value.int .i64 q.e])).toArray;rw[e1,e2,e3,j9];rfl
 have j8:HtlcOk X:=by
  obtain⟨e1,e2,e3⟩:=qa HV;rw[hX];refine⟨?_,?_,qa j4,?_⟩
  ·show 0≤q.j∧q.j≤_;rw[e1];decide
  ·show 0≤q.n∧q.n≤_;rw[e2];omega
  ·show _≤q.e∧q.e≤_;rw[e3];decide
 have i9:=fun W=>quw j8 W
 have l3:∀W:World,(q6n (.agg (qk X).toArray) (.agg (Value.int .u64 0::Value.int .u64 (N:Int)::(qu O++[Value.int .i64 12])).toArray)).run Tryz.prog W = .ok (.bool false) W:=fun W=>by
  rw[i6];exact i9 W
 have k9:(qu O).length=32:=by rw[qal];exact e7
 have g9:=qb g1
 have HX:=qb hX
 clear h9 g1 g3 he cl i6 hX
 go_upto_region 11 with fail
 refine qa1 (fun w'=>w'.cell? ⟨H,0,none⟩=some (.int .i64 1)∧zf w' H 1 35=some (qk X).toArray) [16,23] (.of [0,1,2,3,4,5,6,7,8,9,10,11,12,13,14,15,16,17,18,19,20,21,22,23,24,25,26,27,28,29,30,31]) (by kernel_rfl) (by kernel_rfl) hC ?_
 simp only[Plan.of]
 obtain⟨v,z⟩:=hC
 have hC:=And.intro v z
 go_wp2_with (first | (with_reducible first|(first|refine' zv (qh ?_) ?_|refine' zx (qh ?_) ?_|refine' zy (qh ?_) ?_);rotate_left|refine' zz (qh ?_)|refine' qw5 (qh ?_)|rfl|apply qn) | refine⟨hC,?_⟩ | with_reducible refine⟨trivial,?_⟩)
 refine(c6 _).mono ?_
 rintro e j2 ⟨rfl,f7⟩
 have d4:j2.cell? ⟨H,0,none⟩=some (.int .i64 1)∧zf j2 H 1 35=some (qk X).toArray:=⟨f7.cell v (fun h=>h),qap z f7 (fun h=>h)⟩
 have i2:=(qa g9).nw f7
 have i0:=qb i2
 clear hC v z i2 g9 f7
 go_wp2_with (first | (with_reducible first|(first|refine' zv (qh ?_) ?_|refine' zx (qh ?_) ?_|refine' zy (qh ?_) ?_);rotate_left|refine' zz (qh ?_)|refine' qw5 (qh ?_)|rfl|apply qn) | refine⟨d4,?_⟩ | with_reducible refine⟨trivial,?_⟩)
 refine(f6 _).mono ?_
 rintro e d3 ⟨rfl,f8⟩
 have d5:d3.cell? ⟨H,0,none⟩=some (.int .i64 1)∧zf d3 H 1 35=some (qk X).toArray:=⟨f8.cell d4.1 (fun h=>h),qap d4.2 f8 (fun h=>h)⟩
 have c1:=(qa i0).nw f8
 obtain⟨v,z⟩:=d5
 have d5:=And.intro v z
 have f2:=qb c1
 clear d4 c1 i0 f8
 go_upto_region 14 with (first | (with_reducible first|(first|refine' zv (qh ?_) ?_|refine' zx (qh ?_) ?_|refine' zy (qh ?_) ?_);rotate_left|refine' zz (qh ?_)|refine' qw5 (qh ?_)|rfl|apply qn) | refine⟨d5,?_⟩ | with_reducible refine⟨trivial,?_⟩)
 clear d5 v z
 cases e5 with
 | true =>
  have hs:DP (fun L P=>False∨(L=H∧P=o1)) w d3 b g7 ⟨q.a3,200,false,[],[],[]⟩ ⟨q.b4,200,false,[],[],[]⟩ 202001:=qa f2;have cl:=hs.cl.2;have h0:HearL q.a3 false [] [(qg3 q.t q.j 2)] (q.a5 false) false [] []:=qed (Pay.h5f (qa HK) (by decide)) (by decide) (qdh (by show (5:Int)≠4;decide) (by show (5:Int)≠9;decide) (qwi (.inl rfl)) qwq);have d2:Calls Tryz.prog 17 #[.pointer (some ⟨g7 1,0,none⟩),.int .u64 0,.int .i64 2] d3 fun e w'=>e = .returned (.int .i64 0)∧DP (fun L P=>False∨(L=H∧P=o1)) w w' b g7 ⟨q.a3,200,false,[],[],[]⟩ ((⟨q.b4,200,false,[],[],[]⟩:En).says (q.b5 false (qg3 q.t q.j 2)) (qg3 q.t q.j 2)) 202002:=by
   have hF:q.b4.fail ((0:Nat):Int) 2=_:=(qa HF).2;have f0:SayOk (qg3 q.t q.j 2):=qt4 (qa HK).D.symm.chb ⟨(qa HK).j.1,by have:=(qa HK).j.2;omega⟩ (by decide);have:=hs.fails hT rfl 0 2 2 (by decide) (by decide) (by decide) (by show (q.b4.fail ((0:Nat):Int) 2).2.2=0;rw[hF]) (by show SayOk (q.b4.fail ((0:Nat):Int) 2).2.1;rw[hF];exact f0) ⟨by show (0:Nat)<_;decide,by show (1:Nat)<_;decide⟩ (by show (0:Nat)≤_;decide) (by decide);rw[show (⟨q.b4,200,false,[],[],[]⟩:En).c.fail ((0:Nat):Int) 2=_ from hF] at this;exact this
  clear hs f2;go_wp2_with fail;refine d2.mono ?_;rintro e k8 ⟨rfl,c1⟩;have b6:=c1.flow ⟨by show (0:Nat)+1≤_;decide,by show (0:Nat)+0≤_;decide⟩;clear d2 c1;go_wp2_with (first | (with_reducible first|(first|refine' zv (qh ?_) ?_|refine' zx (qh ?_) ?_|refine' zy (qh ?_) ?_);rotate_left|refine' zz (qh ?_)|refine' qw5 (qh ?_)|rfl|apply qn) | refine⟨trivial,?_⟩ | with_reducible refine⟨trivial,?_⟩);refine b6.mono ?_;rintro e g5 ⟨rfl,g0,b7⟩;have b7:DP (fun L P=>False∨(L=H∧P=o1)) w g5 b g0 (q.A2 false (qg3 q.t q.j 2) [] [] 0) (q.B2 false (qg3 q.t q.j 2) [] 0) 202002:=b7;have hr:=b7.rests (FA:=q.A2 false (qg3 q.t q.j 2) [] []) (FB:=q.B2 false (qg3 q.t q.j 2) []) hT (fun i hi=>Pay.round2 (qa HK) (by show (0:Nat)≤_;decide) (by show (0:Nat)≤_;decide) h0 i hi) (by decide);clear b6 b7 h0;go_wp2_with fail;refine hr.mono ?_;rintro e g8 ⟨rfl,f,a7⟩;have a7:DP (fun L P=>False∨(L=H∧P=o1)) w g8 b f ⟨q.a8 false,400,false,[],[],[evF (q.I true 8 false)]⟩ ⟨q.b8 false (qg3 q.t q.j 2),400,false,[],[],[]⟩ 404002:=a7;have cl:=a7.cl.1;have he:=a7.ev0x rfl qm;clear hr a7;go_wp2_with fail;refine he.mono ?_;rintro e Y ⟨B2,k5,o2,rfl,c8,b9⟩;have b9:DP (fun L P=>(False∨(L=H∧P=o1))∨(L=B2∧P=o2)) w Y b f ⟨q.a8 false,400,false,[],[],[]⟩ ⟨q.b8 false (qg3 q.t q.j 2),400,false,[],[],[]⟩ 404002:=b9;have J:=b9.nw (Upd.drew (Upd.refl _ _));have b3:=(qa e0) _ (J.keep (.inl (.inr ⟨rfl,rfl⟩)));have C:=c8 _ (J.keep (.inr ⟨rfl,rfl⟩));have hC:Y.drew.cell? ⟨b,4,none⟩=some (.bool false)∧zf Y.drew B2 1 35=some (qk X).toArray∧zf Y.drew H 1 35=some (qk X).toArray∧Y.drew.cell? ⟨b,1,none⟩=some (.pointer (some ⟨f 1,0,none⟩))∧Y.drew.cell? ⟨b,0,none⟩=some (.pointer (some ⟨f 0,0,none⟩)) :=
   ⟨J.bad,by rw[qa HX];exact C.h,by rw[qa HX];exact b3.h,J.cl.2,J.cl.1⟩
  have d7:=qb J;have e4:=qb c8;clear b9 J b3 C he cl c8;go_upto_region 20 with fail;refine qa1 (fun w'=>w'.cell? ⟨b,4,none⟩=some (.bool false)∧zf w' B2 1 35=some (qk X).toArray∧zf w' H 1 35=some (qk X).toArray∧w'.cell? ⟨b,1,none⟩=some (.pointer (some ⟨f 1,0,none⟩))∧w'.cell? ⟨b,0,none⟩=some (.pointer (some ⟨f 0,0,none⟩))) [6,17,21,29,39] (.of [0,1,2,3,4,5,6,7,8,9,10,11,12,13,14,15,16,17,18,19,20,21,22,23,24,25,26,27,28,29,30,31,32,33,34,35,36,37,38,39,40,41,42,43,44]) (by kernel_rfl) (by kernel_rfl) hC ?_;simp only[Plan.of];obtain⟨v,z,T,U,V⟩:=hC;have hC:=And.intro v (And.intro z (And.intro T (And.intro U V)));have he:=(qa d7).ev1 rfl;clear d7;go_wp2_with (first | (with_reducible first|(first|refine' zv (qh ?_) ?_|refine' zx (qh ?_) ?_|refine' zy (qh ?_) ?_);rotate_left|refine' zz (qh ?_)|refine' qw5 (qh ?_)|rfl|apply qn) | refine⟨hC,?_⟩ | with_reducible refine⟨trivial,?_⟩);refine he.mono ?_;rintro e Z ⟨a3,k3,rfl,r⟩;have r:DP (fun L P=>(False∨(L=H∧P=o1))∨(L=B2∧P=o2)) w Z b f ⟨q.a8 false,400,false,[],[],[]⟩ ⟨q.b8 false (qg3 q.t q.j 2),400,false,[],[],[]⟩ 404002:=r;have b3:=(qa e0) _ (r.keep (.inl (.inr ⟨rfl,rfl⟩)));have C:=(qa e4) _ (r.keep (.inr ⟨rfl,rfl⟩));have M:Z.cell? ⟨b,4,none⟩=some (.bool false)∧zf Z B2 1 35=some (qk X).toArray∧zf Z H 1 35=some (qk X).toArray∧Z.cell? ⟨b,1,none⟩=some (.pointer (some ⟨f 1,0,none⟩))∧Z.cell? ⟨b,0,none⟩=some (.pointer (some ⟨f 0,0,none⟩)) :=
   ⟨r.bad,by rw[qa HX];exact C.h,by rw[qa HX];exact b3.h,r.cl.2,r.cl.1⟩
  obtain⟨en,e9,c0⟩:=r.chan rfl;have d8:=qb r;clear he hC v z T U V b3 C r;obtain⟨v,z,T,U,V⟩:=M;have M:=And.intro v (And.intro z (And.intro T (And.intro U V)));go_wp2_with (first | (with_reducible first|(first|refine' zv (qh ?_) ?_|refine' zx (qh ?_) ?_|refine' zy (qh ?_) ?_);rotate_left|refine' zz (qh ?_)|refine' qw5 (qh ?_)|rfl|apply qn) | refine⟨M,?_⟩ | with_reducible refine⟨trivial,?_⟩);refine e9.mono ?_;rintro e a6 ⟨rfl,f1⟩;have E:=f1.upd (fun _=>False);have c0:=c0 a6 E;have d9:=qb ((qa d8).nw E);have m:a6.cell? ⟨b,4,none⟩=some (.bool false)∧zf a6 B2 1 35=some (qk X).toArray∧zf a6 H 1 35=some (qk X).toArray∧a6.cell? ⟨b,1,none⟩=some (.pointer (some ⟨f 1,0,none⟩))∧a6.cell? ⟨b,0,none⟩=some (.pointer (some ⟨f 0,0,none⟩)) :=
   ⟨E.cell v (fun h=>h),qap z E (fun h=>h),qap T E (fun h=>h),E.cell U (fun h=>h),E.cell V (fun h=>h)⟩
  clear e9 f1 d8 M v z T U V E;go_wp2_with (first | (with_reducible first|(first|refine' zv (qh ?_) ?_|refine' zx (qh ?_) ?_|refine' zy (qh ?_) ?_);rotate_left|refine' zz (qh ?_)|refine' qw5 (qh ?_)|rfl|apply qn) | refine⟨m,?_⟩ | with_reducible refine⟨trivial,?_⟩);refine c0.mono ?_;rintro e F ⟨a4,k4,rfl,K⟩;have c7:=(qa d9).nw K;have c2:F.cell? ⟨b,4,none⟩=some (.bool false)∧zf F B2 1 35=some (qk X).toArray∧zf F H 1 35=some (qk X).toArray∧F.cell? ⟨b,1,none⟩=some (.pointer (some ⟨f 1,0,none⟩))∧F.cell? ⟨b,0,none⟩=some (.pointer (some ⟨f 0,0,none⟩)) :=
   ⟨K.cell m.1 (fun h=>h),qap m.2.1 K (fun h=>h),qap m.2.2.1 K (fun h=>h),K.cell m.2.2.2.1 (fun h=>h),K.cell m.2.2.2.2 (fun h=>h)⟩
  have C:=(qa e4) _ (c7.keep (.inr ⟨rfl,rfl⟩));have d0:F.cell? ⟨B2,0,none⟩=some (.int .i64 3):=C.k;have d1:zf F B2 36 32=some (qu zg).toArray:=C.p;have f3:=qb c7.new;clear c0 m d9 K c7 C;go_upto_region 23 with (first | (with_reducible first|(first|refine' zv (qh ?_) ?_|refine' zx (qh ?_) ?_|refine' zy (qh ?_) ?_);rotate_left|refine' zz (qh ?_)|refine' qw5 (qh ?_)|rfl|apply qn) | refine⟨c2,?_⟩ | with_reducible refine⟨trivial,?_⟩);clear c2;have g4:=fun W=>qwn qm qm qc3 qc3 W
  rw[show (zg==zg)=true from by simp] at g4;go_wp2_with fail;go_ret;exact⟨rfl,qa f3⟩
 | false =>
  have hs:DP (fun L P=>False∨(L=H∧P=o1)) w d3 b g7 ⟨q.a3,200,false,[],[],[]⟩ ⟨q.b4,200,false,[],[],[]⟩ 202001:=qa f2;have cl:=hs.cl.2;have h0:HearL q.a3 false [] [(qfa q.t q.j R)] (q.a5 true) false [evP (q.I true 4 false) R] []:=qed (Pay.h5p (qa HK) c9 e8 (qa HO)) (by decide) q3f;have d2:∀w',qq d3 w'→Calls Tryz.prog 18 #[.pointer (some ⟨g7 1,0,none⟩),.int .u64 0,.agg (qu R).toArray] w' fun e k7=>e = .returned (.int .i64 0)∧DP (fun L P=>False∨(L=H∧P=o1)) w k7 b g7 ⟨q.a3,200,false,[],[],[]⟩ ((⟨q.b4,200,false,[],[],[]⟩:En).says (q.b5 true (qfa q.t q.j R)) (qfa q.t q.j R)) 202002:=by
   intro w' k6;have hF:q.b4.fulfill ((0:Nat):Int) R=_:=(qa HF).1;have f0:SayOk (qfa q.t q.j R):=qt5 (qa HK).D.symm.chb ⟨(qa HK).j.1,by have:=(qa HK).j.2;omega⟩ c9 e8;have:=(hs.nw k6).pays hT rfl 0 R c9 (by decide) (by show (q.b4.fulfill ((0:Nat):Int) R).2.2=0;rw[hF]) (by show SayOk (q.b4.fulfill ((0:Nat):Int) R).2.1;rw[hF];exact f0) ⟨by show (0:Nat)<_;decide,by show (1:Nat)<_;decide⟩ (by show (0:Nat)≤_;decide) (by decide);rw[show (⟨q.b4,200,false,[],[],[]⟩:En).c.fulfill ((0:Nat):Int) R=_ from hF] at this;exact this
  have c5:d3.drew.cell? ⟨b,1,none⟩=some (.pointer (some ⟨g7 1,0,none⟩)):=cl;clear hs f2;clear cl;go_upto_region 16 with fail;refine qa1 (fun w'=>w'.cell? ⟨b,1,none⟩=some (.pointer (some ⟨g7 1,0,none⟩))) [4] (.of [0,1,2,3,4,5,6,7,8,9]) (by kernel_rfl) (by kernel_rfl) c5 ?_;simp only[Plan.of];go_wp2_with (first | (with_reducible first|(first|refine' zv (qh ?_) ?_|refine' zx (qh ?_) ?_|refine' zy (qh ?_) ?_);rotate_left|refine' zz (qh ?_)|refine' qw5 (qh ?_)|rfl|apply qn) | refine⟨c5,?_⟩ | with_reducible refine⟨trivial,?_⟩);refine(c6 _).mono ?_;rintro e wq ⟨rfl,nq⟩;have cq:wq.cell? ⟨b,1,none⟩=some (.pointer (some ⟨g7 1,0,none⟩)):=nq.cell c5 (fun h=>h);replace d2:=d2 wq nq.ofDrew;clear c5 nq;go_wp2_with (first | (with_reducible first|(first|refine' zv (qh ?_) ?_|refine' zx (qh ?_) ?_|refine' zy (qh ?_) ?_);rotate_left|refine' zz (qh ?_)|refine' qw5 (qh ?_)|rfl|apply qn) | refine⟨cq,?_⟩ | with_reducible refine⟨trivial,?_⟩);refine d2.mono ?_;rintro e k8 ⟨rfl,c1⟩;have b6:=c1.flow ⟨by show (0:Nat)+1≤_;decide,by show (0:Nat)+0≤_;decide⟩;clear d2 c1;go_wp2_with (first | (with_reducible first|(first|refine' zv (qh ?_) ?_|refine' zx (qh ?_) ?_|refine' zy (qh ?_) ?_);rotate_left|refine' zz (qh ?_)|refine' qw5 (qh ?_)|rfl|apply qn) | with_reducible refine⟨trivial,?_⟩);refine b6.mono ?_;rintro e g5 ⟨rfl,g0,b7⟩;have b7:DP (fun L P=>False∨(L=H∧P=o1)) w g5 b g0 (q.A2 true (qfa q.t q.j R) [] [evP (q.I true 4 false) R] 0) (q.B2 true (qfa q.t q.j R) [] 0) 202002:=b7;have hr:=b7.rests (FA:=q.A2 true (qfa q.t q.j R) [] [evP (q.I true 4 false) R]) (FB:=q.B2 true (qfa q.t q.j R) []) hT (fun i hi=>Pay.round2 (qa HK) (by show (1:Nat)≤_;decide) (by show (0:Nat)≤_;decide) h0 i hi) (by decide)
  clear b6 b7 h0;go_wp2_with fail;refine hr.mono ?_;rintro e g8 ⟨rfl,f,a7⟩;have a7:DP (fun L P=>False∨(L=H∧P=o1)) w g8 b f ⟨q.a8 true,400,false,[],[],[evP (q.I true 4 false) R]⟩ ⟨q.b8 true (qfa q.t q.j R),400,false,[],[],[]⟩ 404002:=a7;have cl:=a7.cl.1;have he:=a7.ev0x rfl c9;clear hr a7;go_wp2_with fail;refine he.mono ?_;rintro e Y ⟨B2,k5,o2,rfl,c8,b9⟩;have b9:DP (fun L P=>(False∨(L=H∧P=o1))∨(L=B2∧P=o2)) w Y b f ⟨q.a8 true,400,false,[],[],[]⟩ ⟨q.b8 true (qfa q.t q.j R),400,false,[],[],[]⟩ 404002:=b9;have J:=b9.nw (Upd.drew (Upd.refl _ _));have b3:=(qa e0) _ (J.keep (.inl (.inr ⟨rfl,rfl⟩)));have C:=c8 _ (J.keep (.inr ⟨rfl,rfl⟩));have hC:Y.drew.cell? ⟨b,4,none⟩=some (.bool false)∧zf Y.drew B2 1 35=some (qk X).toArray∧zf Y.drew H 1 35=some (qk X).toArray∧Y.drew.cell? ⟨b,1,none⟩=some (.pointer (some ⟨f 1,0,none⟩))∧Y.drew.cell? ⟨b,0,none⟩=some (.pointer (some ⟨f 0,0,none⟩)) :=
   ⟨J.bad,by rw[qa HX];exact C.h,by rw[qa HX];exact b3.h,J.cl.2,J.cl.1⟩
  have d7:=qb J;have e4:=qb c8;clear b9 J b3 C he cl c8;go_upto_region 20 with fail;refine qa1 (fun w'=>w'.cell? ⟨b,4,none⟩=some (.bool false)∧zf w' B2 1 35=some (qk X).toArray∧zf w' H 1 35=some (qk X).toArray∧w'.cell? ⟨b,1,none⟩=some (.pointer (some ⟨f 1,0,none⟩))∧w'.cell? ⟨b,0,none⟩=some (.pointer (some ⟨f 0,0,none⟩))) [6,17,21,29,39] (.of [0,1,2,3,4,5,6,7,8,9,10,11,12,13,14,15,16,17,18,19,20,21,22,23,24,25,26,27,28,29,30,31,32,33,34,35,36,37,38,39,40,41,42,43,44]) (by kernel_rfl) (by kernel_rfl) hC ?_;simp only[Plan.of];obtain⟨v,z,T,U,V⟩:=hC;have hC:=And.intro v (And.intro z (And.intro T (And.intro U V)));have he:=(qa d7).ev1 rfl;clear d7;go_wp2_with (first | (with_reducible first|(first|refine' zv (qh ?_) ?_|refine' zx (qh ?_) ?_|refine' zy (qh ?_) ?_);rotate_left|refine' zz (qh ?_)|refine' qw5 (qh ?_)|rfl|apply qn) | refine⟨hC,?_⟩ | with_reducible refine⟨trivial,?_⟩);refine he.mono ?_;rintro e Z ⟨a3,k3,rfl,r⟩;have r:DP (fun L P=>(False∨(L=H∧P=o1))∨(L=B2∧P=o2)) w Z b f ⟨q.a8 true,400,false,[],[],[]⟩ ⟨q.b8 true (qfa q.t q.j R),400,false,[],[],[]⟩ 404002:=r;have b3:=(qa e0) _ (r.keep (.inl (.inr ⟨rfl,rfl⟩)));have C:=(qa e4) _ (r.keep (.inr ⟨rfl,rfl⟩));have M:Z.cell? ⟨b,4,none⟩=some (.bool false)∧zf Z B2 1 35=some (qk X).toArray∧zf Z H 1 35=some (qk X).toArray∧Z.cell? ⟨b,1,none⟩=some (.pointer (some ⟨f 1,0,none⟩))∧Z.cell? ⟨b,0,none⟩=some (.pointer (some ⟨f 0,0,none⟩)) :=
   ⟨r.bad,by rw[qa HX];exact C.h,by rw[qa HX];exact b3.h,r.cl.2,r.cl.1⟩
  obtain⟨en,e9,c0⟩:=r.chan rfl;have d8:=qb r;clear he hC v z T U V b3 C r;obtain⟨v,z,T,U,V⟩:=M;have M:=And.intro v (And.intro z (And.intro T (And.intro U V)));go_wp2_with (first | (with_reducible first|(first|refine' zv (qh ?_) ?_|refine' zx (qh ?_) ?_|refine' zy (qh ?_) ?_);rotate_left|refine' zz (qh ?_)|refine' qw5 (qh ?_)|rfl|apply qn) | refine⟨M,?_⟩ | with_reducible refine⟨trivial,?_⟩);refine e9.mono ?_;rintro e a6 ⟨rfl,f1⟩;have E:=f1.upd (fun _=>False);have c0:=c0 a6 E;have d9:=qb ((qa d8).nw E);have m:a6.cell? ⟨b,4,none⟩=some (.bool false)∧zf a6 B2 1 35=some (qk X).toArray∧zf a6 H 1 35=some (qk X).toArray∧a6.cell? ⟨b,1,none⟩=some (.pointer (some ⟨f 1,0,none⟩))∧a6.cell? ⟨b,0,none⟩=some (.pointer (some ⟨f 0,0,none⟩)) :=
   ⟨E.cell v (fun h=>h),qap z E (fun h=>h),qap T E (fun h=>h),E.cell U (fun h=>h),E.cell V (fun h=>h)⟩
  clear e9 f1 d8 M v z T U V E;go_wp2_with (first | (with_reducible first|(first|refine' zv (qh ?_) ?_|refine' zx (qh ?_) ?_|refine' zy (qh ?_) ?_);rotate_left|refine' zz (qh ?_)|refine' qw5 (qh ?_)|rfl|apply qn) | refine⟨m,?_⟩ | with_reducible refine⟨trivial,?_⟩);refine c0.mono ?_;rintro e F ⟨a4,k4,rfl,K⟩;have c7:=(qa d9).nw K;have c2:F.cell? ⟨b,4,none⟩=some (.bool false)∧zf F B2 1 35=some (qk X).toArray∧zf F H 1 35=some (qk X).toArray∧F.cell? ⟨b,1,none⟩=some (.pointer (some ⟨f 1,0,none⟩))∧F.cell? ⟨b,0,none⟩=some (.pointer (some ⟨f 0,0,none⟩)) :=
   ⟨K.cell m.1 (fun h=>h),qap m.2.1 K (fun h=>h),qap m.2.2.1 K (fun h=>h),K.cell m.2.2.2.1 (fun h=>h),K.cell m.2.2.2.2 (fun h=>h)⟩
  have C:=(qa e4) _ (c7.keep (.inr ⟨rfl,rfl⟩));have d0:F.cell? ⟨B2,0,none⟩=some (.int .i64 2):=C.k;have d1:zf F B2 36 32=some (qu R).toArray:=C.p;have f3:=qb c7.new;clear c0 m d9 K c7 C;go_upto_region 24 with (first | (with_reducible first|(first|refine' zv (qh ?_) ?_|refine' zx (qh ?_) ?_|refine' zy (qh ?_) ?_);rotate_left|refine' zz (qh ?_)|refine' qw5 (qh ?_)|rfl|apply qn) | refine⟨c2,?_⟩ | with_reducible refine⟨trivial,?_⟩);clear c2;have g4:=fun W=>qwn c9 c9 e8 e8 W
  rw[show (R==R)=true from by simp] at g4;have hD:F.drew.cell? ⟨B2,0,none⟩=some (.int .i64 2)∧zf F.drew B2 36 32=some (qu R).toArray:=⟨d0,d1⟩;refine qa1 (fun w'=>w'.cell? ⟨B2,0,none⟩=some (.int .i64 2)∧zf w' B2 36 32=some (qu R).toArray) [3,9] (.of [0,1,2,3,4,5,6,7,8,9,10,11,12,13,14]) (by kernel_rfl) (by kernel_rfl) hD ?_;simp only[Plan.of];clear d0 d1;obtain⟨d0,d1⟩:=hD;have hD:=And.intro d0 d1;go_wp2_with (first | (with_reducible first|(first|refine' zv (qh ?_) ?_|refine' zx (qh ?_) ?_|refine' zy (qh ?_) ?_);rotate_left|refine' zz (qh ?_)|refine' qw5 (qh ?_)|rfl|apply qn) | refine⟨hD,?_⟩ | with_reducible refine⟨trivial,?_⟩);refine(c6 _).mono ?_;rintro e j3 ⟨rfl,f9⟩;have e6:j3.cell? ⟨B2,0,none⟩=some (.int .i64 2)∧zf j3 B2 36 32=some (qu R).toArray:=⟨f9.cell d0 (fun h=>h),qap d1 f9 (fun h=>h)⟩;have j5:=qb ((qa f3).trans f9.ofDrew);clear hD d0 d1 f9 f3;obtain⟨d0,d1⟩:=e6;have e6:=And.intro d0 d1;go_wp2_with (first | (with_reducible first|(first|refine' zv (qh ?_) ?_|refine' zx (qh ?_) ?_|refine' zy (qh ?_) ?_);rotate_left|refine' zz (qh ?_)|refine' qw5 (qh ?_)|rfl|apply qn) | refine⟨e6,?_⟩ | with_reducible refine⟨trivial,?_⟩);go_ret;exact⟨rfl,qa j5⟩
theorem qtx(ours cap n p:Int)(f:Bool)(W:World)(v:(Lit.int .u64 ours).wf=true)(z:(Lit.int .u64 cap).wf=true)(C:(Lit.int .u64 n).wf=true)(E:(Lit.int .u8 p).wf=true)(i:Tb W):Calls Tryz.prog 3 #[.int .u64 ours,.int .u64 cap,.int .u64 n,.int .u8 p,.bool f] W (qa7 (.bool true) W):=by
 have r:0≤ours∧ours<18446744073709551616:=by
  simp[Lit.wf,IntKind.min,IntKind.max,IntKind.signed,IntKind.bits] at v;omega
 have m:0≤cap∧cap<18446744073709551616:=by
  simp[Lit.wf,IntKind.min,IntKind.max,IntKind.signed,IntKind.bits] at z;omega
 have F:0≤n∧n<18446744073709551616:=by
  simp[Lit.wf,IntKind.min,IntKind.max,IntKind.signed,IntKind.bits] at C;omega
 have H:0≤p∧p≤255:=by
  simp[Lit.wf,IntKind.min,IntKind.max,IntKind.signed,IntKind.bits] at E;omega
 by_cases q:1≤cap∧cap≤1125899906842624∧ours≤cap
 ·exact qty ours cap n p f W r m F H q i
 ·exact qwp ours cap n p f W r m q i
end Go.Proofs.YtfmkdoachjgjbaaGreatDoor
