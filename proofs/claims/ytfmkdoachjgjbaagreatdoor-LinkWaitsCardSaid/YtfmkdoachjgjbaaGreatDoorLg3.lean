/-
  Law 18: LinkWaits (printed by tools/mk_lg3.py).
-/
import Derived.Test.YtfmkdoachjgjbaaGreatDoorMde
set_option maxRecDepth 100000
set_option maxHeartbeats 4000000
set_option linter.unusedVariables false
set_option linter.unusedSimpArgs false
namespace Go.Proofs.YtfmkdoachjgjbaaGreatDoor
open Go.RowKit
def qt1:List Leaf:= .int .i64::(qql++List.replicate 32 (.int .u8))
theorem Tryz.flatEv:qc9 Tryz.prog 5 43=some qt1:=by kernel_rfl
theorem Tryz.eqEv:eqB Tryz.prog 5 43=true:=by kernel_rfl
theorem Tryz.aggEv:qgr Tryz.prog 43=true:=by kernel_rfl
def zay(x y:Value):Sem Value:=binOp .eql 43 x y
theorem qtx(x y:Value):binOp .eql 43 x y=zay x y:=rfl
theorem qy4{x:EvV}(h:HtlcOk x.h)(i:(Lit.int .i64 x.kind).wf=true)(m:x.pre.length=32)(f:qbg x.pre):qdx qt1 x.cells :=
 ⟨_,_,rfl,⟨_,rfl,i⟩,qdx.app (q5o h) (qg1 m f)⟩
theorem qty{x:EvV}(h:HtlcOk x.h)(i:(Lit.int .i64 x.kind).wf=true)(m:x.pre.length=32)(f:qbg x.pre)(w:World):(zay (.agg x.cells.toArray) (.agg x.cells.toArray)).run Tryz.prog w = .ok (.bool true) w :=
 qh8 5 (by decide) Tryz.eqEv Tryz.flatEv Tryz.aggEv (qy4 h i m f) (qy4 h i m f) true (by simp) w
theorem DP.ev1r{K:Nat→Obj→Prop}{w0 w:World}{p:Nat}{g:Nat→Nat}{A B:En}{n:Nat}(h:DP K w0 w p g A B n){x:EvV}(z:B.es=[x])(E:x.pre.length=32):Calls Tryz.prog 16 #[.pointer (some ⟨g 1,0,none⟩)] w fun e w'=>∃b c o,e = .returned (.slice (some ⟨b,0,none⟩) 1 c)∧(∀w',w'.heap[b]? = some o→zj w' b 0 68=some x.cells.toArray)∧DP (fun i m=>K i m∨(i=b∧m=o)) w0 w' p g A B.noEs n:=by
 obtain⟨S,P,q,f⟩:=h;refine(q.events1 (k:=1) (by decide) f.b.l.dead (by rw[f.b.es,z]) E).mono ?_;rintro e w' ⟨b,c,o,F,rfl,C,v⟩;exact⟨b,c,o,rfl,C,_,_,v,f.ev1⟩
attribute [local go_sem ↓ high] zl qam qxg qtx
attribute [local go_sem] qbf qdh qv zdt
theorem qu4{q:Pay}(k:PayOk q):SayOk q.add:=qkr k.D.chb ⟨k.j.1,by have:=k.j.2;omega⟩ ⟨by have:=k.n.1;omega,k.n.2⟩ k.h ⟨by have:=k.e.1;omega,k.e.2⟩
def WKe(B:Nat)(o:Obj)(f:Nat)(i:Obj):Prop:=False∨(f=B∧i=o)
noncomputable def Pay.wA(q:Pay):En:=⟨q.a3,200,false,[],[],[]⟩
noncomputable def Pay.wB(q:Pay)(i:Nat):En:=⟨q.b4,i,true,[],[qa2 q.b4],[]⟩
theorem qyo(a:Nat)(p:Int)(w:World)(ha:a<65536)(hp:0≤p∧p≤255)(hT:Tb w) :
  Calls Tryz.prog 6 #[.int .u16 (a:Int),.int .u8 p] w (qa1 (.bool true) w):=by
 have hb:=q4g 100000 200000 (by decide) (by decide) (by decide) w
 have F:=fun W=>qx0 p hp W
 have c5:=fun W=>q2v (qim p) (qk8 p) W
 have f6:IntKind.u64.wrap (a:Int)=a:=qel (by omega) (by omega)
 have e6:IntKind.u64.wrap ((a:Int)+1)=(a:Int)+1:=qel (by omega) (by omega)
 go_enter Tryz.func6,Tryz.ntmps6
 go_upto_region 1 with fail
 go_wp2_with fail
 refine hb.mono ?_
 rintro e w1 ⟨b,rfl,hP⟩
 have f0:=q7x w1 (hT.new (by obtain⟨g,S,h⟩:=hP;exact h.new))
 have H1:=qb hP
 clear hb hP
 go_wp2_with fail
 refine f0.mono ?_
 rintro e w2 ⟨rfl,n2⟩
 obtain⟨g,S,hP⟩:=qa H1
 have h2:DP (fun _ _=>False) w w2 b g ⟨Ch.new (qde 100000 200000),0,false,[],[],[]⟩ ⟨Ch.new (qb9 100000 200000),0,false,[],[],[]⟩ 0:=DP.nw ⟨S,_,hP,zbd 100000 200000⟩ n2
 clear hP H1 f0 n2
 obtain⟨cl,-⟩:=h2.cl
 have v:w2.drew.cell? ⟨b,0,none⟩=some (.pointer (some ⟨g 0,0,none⟩)):=cl
 have H2:=qb h2
 clear h2
 go_upto_region 4 with fail
 refine qaw (fun w'=>w'.cell? ⟨b,0,none⟩=some (.pointer (some ⟨g 0,0,none⟩))) [4,6] (.of [0,1,2,3,4,5,6,7,8,9,10,11,12,13,14,15,16]) (by kernel_rfl) (by kernel_rfl) v ?_
 simp only[Plan.of]
 clear cl
 go_wp2_with (first | ((with_reducible first|rfl|refine' ut ?_ ?_;rotate_left|refine' uu ?_)<;>intros) | refine⟨v,?_⟩ | with_reducible refine⟨trivial,?_⟩)
 refine(F _).mono ?_
 rintro e w3 ⟨rfl,n3⟩
 have c3:w3.cell? ⟨b,0,none⟩=some (.pointer (some ⟨g 0,0,none⟩)):=n3.cell v (fun h=>h)
 have h3:=((qa H2).nw (Upd.drew (Upd.refl _ _))).nw n3
 have H3:=qb h3
 clear h3 H2 n3 v
 go_wp2_with (first | ((with_reducible first|rfl|refine' ut ?_ ?_;rotate_left|refine' uu ?_)<;>intros) | refine⟨c3,?_⟩ | with_reducible refine⟨trivial,?_⟩)
 refine(c5 _).mono ?_
 rintro e w4 ⟨rfl,n4⟩
 have c4:w4.cell? ⟨b,0,none⟩=some (.pointer (some ⟨g 0,0,none⟩)):=n4.cell c3 (fun h=>h)
 have h4:=(qa H3).nw n4
 clear H3 n4 c3
 have d8:=qxu p
 have d9:=quz p
 have b3:=qb (q1b p)
 have c2:=qb (q1a p)
 generalize ofI (qim p)=O at d8 d9 b3 c2 c5 ⊢
 have b6:=qk8 p
 have e0:=qxz p
 generalize qim p=R at b6 e0 b3 c5 F ⊢
 have hg:1≤((a+1:Nat):Int)∧((a+1:Nat):Int)≤100000:=by omega
 have z:=h4.offer hT rfl (a+1) 9 9 O d8 d9 (by omega) (by decide) (by decide) (by decide) (by rw[qk5 hg (by decide)]) (by rw[qk5 hg (by decide)];exact qu4 (qsq (cap:=200000) (by decide) hg (by decide) (qa c2))) ⟨by show (0:Nat)<_;decide,by show (0:Nat)<_;decide⟩ (by show (0:Nat)≤_;decide) (by decide)
 have e8:((Ch.new (qde 100000 200000)).offer ((a+1:Nat):Int) (qa5 O) 9).2.1.id=0:=by rw[qk5 hg (by decide)];rfl
 have hK:=qsq (cap:=200000) (e:=9) (by decide) hg (by decide) (qa c2)
 rw[e8,qk5 hg (by decide)] at z
 have e5:=zbr (ours:=100000) (cap:=200000) (n:=((a+1:Nat):Int)) (e:=9) (h:=qa5 O) (by decide)
 rw[←e5] at z
 have HO:Hid (qfc R (qdi 100000 200000 ((a+1:Nat):Int) (qa5 O) 9).h.toList=true):=b3
 have HF:Hid ((qdi 100000 200000 ((a+1:Nat):Int) (qa5 O) 9).b4.fulfill 0 R=((qdi 100000 200000 ((a+1:Nat):Int) (qa5 O) 9).b5 true (qt6 (qdi 100000 200000 ((a+1:Nat):Int) (qa5 O) 9).t (qdi 100000 200000 ((a+1:Nat):Int) (qa5 O) 9).j R),qt6 (qdi 100000 200000 ((a+1:Nat):Int) (qa5 O) 9).t (qdi 100000 200000 ((a+1:Nat):Int) (qa5 O) 9).j R,0)):=qb (zdg (qa b3))
 have HG:Hid (SayOk ((qdi 100000 200000 ((a+1:Nat):Int) (qa5 O) 9).b4.offer 1 (qa5 ze) 9).2.1):=qb (q69 (by decide))
 have HX:Hid ((qdi 100000 200000 ((a+1:Nat):Int) (qa5 O) 9).b4.fail 0 1=((qdi 100000 200000 ((a+1:Nat):Int) (qa5 O) 9).b5 false (q5x (qb9 100000 200000) 0 1),q5x (qb9 100000 200000) 0 1,0)):=qb q0s
 have HV:Hid ((qdi 100000 200000 ((a+1:Nat):Int) (qa5 O) 9).j=0∧(qdi 100000 200000 ((a+1:Nat):Int) (qa5 O) 9).n=(a:Int)+1∧(qdi 100000 200000 ((a+1:Nat):Int) (qa5 O) 9).e=9):=qb ⟨rfl,rfl,rfl⟩
 have H:=qb hK
 clear h4 hK e8 e5
 generalize qdi 100000 200000 ((a+1:Nat):Int) (qa5 O) 9=q at *
 rw[show ((a+1:Nat):Int)=(a:Int)+1 from rfl] at z
 go_wp2_with (first | ((with_reducible first|rfl|refine' ut ?_ ?_;rotate_left|refine' uu ?_)<;>intros) | refine⟨c4,?_⟩ | with_reducible refine⟨trivial,?_⟩)
 clear e6 f6
 refine z.mono ?_
 rintro e w5 ⟨rfl,h5⟩
 have e7:=h5.flow ⟨by show (0:Nat)+0≤_;decide,by show (0:Nat)+1≤_;decide⟩
 clear z h5 c4
 go_upto_region 5 with (first | ((with_reducible first|rfl|refine' ut ?_ ?_;rotate_left|refine' uu ?_)<;>intros) | with_reducible refine⟨trivial,?_⟩)
 go_wp2_with fail
 refine e7.mono ?_
 rintro e w6 ⟨rfl,g6,h6⟩
 have h6:DP (fun _ _=>False) w w6 b g6 (q.A1 [] 0) (q.B1 [] 0) 1:=h6
 have hr:=h6.rests (FA:=q.A1 []) (FB:=q.B1 []) hT (fun i hi=>Pay.round1 (qa H) (by show (0:Nat)≤_;decide) (by show (0:Nat)≤_;decide) i hi) (by decide)
 clear e7 h6
 go_wp2_with fail
 refine hr.mono ?_
 rintro e w7 ⟨rfl,f,h7⟩
 have h7:DP (fun _ _=>False) w w7 b f ⟨q.a3,200,false,[],[],[]⟩ ⟨q.b4,200,false,[],[],[evC (q.I false 4 false)]⟩ 202001:=h7
 have cl:=h7.cl.2
 have he:=h7.ev1r rfl ql
 clear hr h7
 go_wp2_with fail
 refine he.mono ?_
 rintro e w8 ⟨C,k1,N,rfl,d6,h8⟩
 have h8:DP (WKe C N) w w8 b f q.wA ⟨q.b4,200,false,[],[],[]⟩ 202001:=h8
 replace cl:=h8.cl.2
 have d0:=qb d6
 have m:Calls Tryz.prog 25 #[.pointer (some ⟨f 1,0,none⟩)] w8 fun e w'=>e = .returned (.int .i64 0)∧DP (WKe C N) w w' b f q.wA (q.wB 0) 202002:=h8.cut1 Pay.cutB hT (Pay.agB_say (qa H)) (by decide)
 clear he h8 d6
 go_wp2_with fail
 refine m.mono ?_
 rintro e w9 ⟨rfl,h9⟩
 replace cl:=h9.cl.2
 have m:Calls Tryz.prog 11 #[.pointer (some ⟨f 1,0,none⟩),.int .u64 1,.agg (qs ze).toArray,.int .i64 9] w9 fun e w'=>e = .returned (.tuple #[.int .u64 0,.int .i64 5])∧DP (WKe C N) w w' b f q.wA (q.wB 0) 202002 :=
  h9.offerW hT rfl 1 9 9 ze ql qca (by decide) (by decide) (by decide) (by decide) (qa HG) ⟨by show (0:Nat)<_;decide,by show (1:Nat)<_;decide⟩
 clear h9
 go_wp2_with fail
 refine m.mono ?_
 rintro e f9 ⟨rfl,b7⟩
 have v:f9.drew.cell? ⟨b,1,none⟩=some (.pointer (some ⟨f 1,0,none⟩)):=b7.cl.2
 have c7:=qb b7
 clear m b7 cl
 go_upto_region 11 with fail
 refine qaw (fun w'=>w'.cell? ⟨b,1,none⟩=some (.pointer (some ⟨f 1,0,none⟩))) [4] (.of [0,1,2,3,4,5,6,7,8,9]) (by kernel_rfl) (by kernel_rfl) v ?_
 simp only[Plan.of]
 go_wp2_with (first | ((with_reducible first|rfl|refine' ut ?_ ?_;rotate_left|refine' uu ?_)<;>intros) | refine⟨v,?_⟩ | with_reducible refine⟨trivial,?_⟩)
 refine(F _).mono ?_
 rintro e f1 ⟨rfl,c6⟩
 have d1:f1.cell? ⟨b,1,none⟩=some (.pointer (some ⟨f 1,0,none⟩)):=c6.cell v (fun h=>h)
 have d2:=((qa c7).nw (Upd.drew (Upd.refl _ _))).nw c6
 have E:SayOk (qt6 q.t q.j R):=q5z (qa H).D.symm.chb ⟨(qa H).j.1,by have:=(qa H).j.2;omega⟩ b6 e0
 have m:Calls Tryz.prog 18 #[.pointer (some ⟨f 1,0,none⟩),.int .u64 0,.agg (qs R).toArray] f1 fun e w'=>e = .returned (.int .i64 5)∧DP (WKe C N) w w' b f q.wA (q.wB 0) 202002 :=
  d2.paysW hT rfl 0 R b6 (by decide) (by show SayOk (q.b4.fulfill ((0:Nat):Int) R).2.1;rw[show q.b4.fulfill ((0:Nat):Int) R=_ from qa HF];exact E) ⟨by show (0:Nat)<_;decide,by show (1:Nat)<_;decide⟩
 have f4:=qb E
 clear d2 v c6 c7 E
 go_wp2_with (first | ((with_reducible first|rfl|refine' ut ?_ ?_;rotate_left|refine' uu ?_)<;>intros) | refine⟨d1,?_⟩ | with_reducible refine⟨trivial,?_⟩)
 refine m.mono ?_
 rintro e g0 ⟨rfl,b8⟩
 have cl:=b8.cl.2
 have m:Calls Tryz.prog 17 #[.pointer (some ⟨f 1,0,none⟩),.int .u64 0,.int .i64 1] g0 fun e w'=>e = .returned (.int .i64 5)∧DP (WKe C N) w w' b f q.wA (q.wB 0) 202002 :=
  b8.failsW hT rfl 0 1 1 (by decide) (by decide) (by decide) (by show SayOk (q.b4.fail ((0:Nat):Int) 1).2.1;rw[show q.b4.fail ((0:Nat):Int) 1=_ from qa HX];exact q5y (q47 100000 200000).symm.chb (by decide) (by decide)) ⟨by show (0:Nat)<_;decide,by show (1:Nat)<_;decide⟩
 clear b8 d1
 go_upto_region 12 with (first | ((with_reducible first|rfl|refine' ut ?_ ?_;rotate_left|refine' uu ?_)<;>intros) | with_reducible refine⟨trivial,?_⟩)
 go_wp2_with fail
 refine m.mono ?_
 rintro e g1 ⟨rfl,b9⟩
 replace cl:=b9.cl.2
 have m:Calls Tryz.prog 27 #[.pointer (some ⟨f 1,0,none⟩)] g1 fun e w'=>e = .returned (.int .i64 5)∧DP (WKe C N) w w' b f q.wA (q.wB 0) 202002:=b9.shutW rfl
 clear b9
 go_wp2_with fail
 refine m.mono ?_
 rintro e g4 ⟨rfl,d3⟩
 have c8:=qb d3
 clear m d3 cl
 go_wp2_with fail
 go_loopw [14] (fun iv wr=>∃i:Nat,iv = .int .i64 (i:Int)∧i≤7∧Hid (DP (WKe C N) w wr b f q.wA (q.wB i) (202002+i))) (fun iv _=>7-(intOf iv).toNat)
 case atStart=>exact⟨0,rfl,by omega,c8⟩
 case round =>
  obtain⟨i,rfl,hi,hrel⟩:=hrel;obtain⟨wq,rfl⟩:∃wq:World,wq=wr:=⟨_,rfl⟩;clear c8;by_cases g2:i<7
  ·have f8:(i:Int)<7:=by omega
   have h:=qa hrel;have cl:=h.cl.2;have hE:EndB q.b4:=(qa H).eb ⟨by show 0≤q.sb+1;have:=(qa H).sb.1;omega,by show q.sb+1≤_;have:=(qa H).sb.2;omega⟩ (by show (0:Nat)≤_;decide) (by show (1:Nat)≤_;decide);have m:=h.tick1 hT (c':=q.b4) (M:=[]) ⟨hE,by rw[if_pos (.inl rfl)];exact⟨rfl,rfl⟩⟩ (by show (1:Nat)≤_;decide) (by omega) (by show i<_;omega);have e9:Calls Tryz.prog 28 #[.pointer (some ⟨f 1,0,none⟩)] wq fun e w'=>e = .returned (.int .i64 0)∧DP (WKe C N) w w' b f q.wA (q.wB (i+1)) (202002+(i+1)):=m
   clear h hrel hE m;go_wp2_with fail;refine e9.mono ?_;rintro e g5 ⟨rfl,d4⟩;have f3:=qb d4;clear e9 d4 cl;go_wp2_with fail;go_roundw
   case rel=>exact⟨i+1,by go_num,by omega,f3⟩
   case measure=>simp[intOf];omega
  ·obtain rfl:i=7:=by omega
   have h:DP (WKe C N) w wq b f q.wA (q.wB 7) 202009:=qa hrel;have cl:=h.cl.2;have he:=h.ev1 rfl;have f8:decide (((7:Nat):Int)<7)=false:=by decide
   rw[show ((7:Nat):Int)=7 from rfl] at *
   clear h hrel;go_wp2_with fail;refine he.mono ?_;rintro e f2 ⟨a2,k2,rfl,a7⟩;have a7:DP (WKe C N) w f2 b f q.wA (q.wB 7) 202009:=a7;have m:=DP.cutAll (WKe C N) w f2 b f q.wA (q.wB 7) 202009 q.a3 q.b4 [] [evC (q.I false 4 false)] [] a7 Pay.cutA Pay.cutB hT (Pay.agA_say (qa H)) (Pay.agB_say (qa H)) (Pay.hAgA (qa H)) (Pay.hAgB (qa H)) (by decide) (by decide);clear he a7 cl;go_wp2_with fail;refine m.mono ?_;rintro e g8 ⟨rfl,J,c0⟩;have cl:=c0.cl.2;have he:=c0.ev1r rfl ql;clear m c0;go_wp2_with fail;refine he.mono ?_;rintro e Z ⟨B2,g3,o2,rfl,d7,a8⟩;have a8:DP (fun b' o'=>(False∨(b'=C∧o'=N))∨(b'=B2∧o'=o2)) w Z b J ⟨q.a3,0,false,[],[],[]⟩ ⟨q.b4,0,false,[],[],[]⟩ 203011:=a8;have K:=a8.nw (Upd.drew (Upd.refl _ _));have e4:HtlcOk (evC (q.I false 4 false)).h:=by
    obtain⟨e1,e2,e3⟩:=qa HV;refine⟨?_,?_,(qa H).h,?_⟩
    ·show 0≤q.j∧q.j≤_;rw[e1];decide
    ·show 0≤q.n∧q.n≤_;rw[e2];omega
    ·show _≤q.e∧q.e≤_;rw[e3];decide
   have f7:=fun W=>qty (x:=evC (q.I false 4 false)) e4 (by show (Lit.int .i64 1).wf=true;decide) ql qca W
   have r1:=(qa d0) _ (K.keep (.inl (.inr ⟨rfl,rfl⟩)));have r2:=d7 _ (K.keep (.inr ⟨rfl,rfl⟩));have hC:Z.drew.cell? ⟨b,4,none⟩=some (.bool false)∧zj Z.drew B2 0 68=some (evC (q.I false 4 false)).cells.toArray∧zj Z.drew C 0 68=some (evC (q.I false 4 false)).cells.toArray∧Z.drew.cell? ⟨b,1,none⟩=some (.pointer (some ⟨J 1,0,none⟩)):=⟨K.bad,r2,r1,K.cl.2⟩;have c9:=qb K;clear a8 K r1 r2 he cl e4 d7;generalize (evC (q.I false 4 false)).cells.toArray=X at hC f7;go_upto_region 23 with fail;refine qaw (fun w'=>w'.cell? ⟨b,4,none⟩=some (.bool false)∧zj w' B2 0 68=some X∧zj w' C 0 68=some X∧w'.cell? ⟨b,1,none⟩=some (.pointer (some ⟨J 1,0,none⟩))) [3,13,16,24] (.of [0,1,2,3,4,5,6,7,8,9,10,11,12,13,14,15,16,17,18,19,20,21,22,23,24,25,26,27,28,29,30,31]) (by kernel_rfl) (by kernel_rfl) hC ?_;simp only[Plan.of];obtain⟨P,T,V,Y⟩:=hC;have hC:=And.intro P (And.intro T (And.intro V Y));go_wp2_with (first | ((with_reducible first|rfl|refine' ut ?_ ?_;rotate_left|refine' uu ?_)<;>intros) | refine⟨hC,?_⟩ | with_reducible refine⟨trivial,?_⟩);refine(F _).mono ?_;rintro e a6 ⟨rfl,L⟩;have U:a6.cell? ⟨b,4,none⟩=some (.bool false)∧zj a6 B2 0 68=some X∧zj a6 C 0 68=some X∧a6.cell? ⟨b,1,none⟩=some (.pointer (some ⟨J 1,0,none⟩)):=⟨L.cell P (fun h=>h),qbc T L (fun h=>h),qbc V L (fun h=>h),L.cell Y (fun h=>h)⟩;have d5:=(qa c9).nw L;have m:Calls Tryz.prog 18 #[.pointer (some ⟨J 1,0,none⟩),.int .u64 0,.agg (qs R).toArray] a6 fun e w'=>e = .returned (.int .i64 0)∧DP (fun b' o'=>(False∨(b'=C∧o'=N))∨(b'=B2∧o'=o2)) w w' b J ⟨q.a3,0,false,[],[],[]⟩ ((⟨q.b4,0,false,[],[],[]⟩:En).says (q.b5 true (qt6 q.t q.j R)) (qt6 q.t q.j R)) 203012:=by
    have hF:q.b4.fulfill ((0:Nat):Int) R=_:=qa HF;have:=d5.pays hT rfl 0 R b6 (by decide) (by show (q.b4.fulfill ((0:Nat):Int) R).2.2=0;rw[hF]) (by show SayOk (q.b4.fulfill ((0:Nat):Int) R).2.1;rw[hF];exact qa f4) ⟨by show (0:Nat)<_;decide,by show (1:Nat)<_;decide⟩ (by show (0:Nat)≤_;decide) (by decide);rw[show (⟨q.b4,0,false,[],[],[]⟩:En).c.fulfill ((0:Nat):Int) R=_ from hF] at this;exact this
   clear hC P T V Y d5 L c9;obtain⟨P,T,V,Y⟩:=U;have U:=And.intro P (And.intro T (And.intro V Y));go_wp2_with (first | ((with_reducible first|rfl|refine' ut ?_ ?_;rotate_left|refine' uu ?_)<;>intros) | refine⟨U,?_⟩ | with_reducible refine⟨trivial,?_⟩);refine m.mono ?_;rintro e g9 ⟨rfl,c1⟩;have r1:=(qa d0) _ (c1.keep (.inl (.inr ⟨rfl,rfl⟩)));have f5:=qb c1.new;clear m c1 r1;go_wp2_with (first | ((with_reducible first|rfl|refine' ut ?_ ?_;rotate_left|refine' uu ?_)<;>intros) | with_reducible refine⟨trivial,?_⟩);go_ret;exact⟨rfl,qa f5⟩
theorem qyn(n p:Int)(W:World)(f:(Lit.int .u16 n).wf=true)(i:(Lit.int .u8 p).wf=true)(m:Tb W):Calls Tryz.prog 6 #[.int .u16 n,.int .u8 p] W (qa1 (.bool true) W):=by
 have q:0≤n∧n<65536:=by
  simp[Lit.wf,IntKind.min,IntKind.max,IntKind.signed,IntKind.bits] at f;omega
 have v:0≤p∧p≤255:=by
  simp[Lit.wf,IntKind.min,IntKind.max,IntKind.signed,IntKind.bits] at i;omega
 obtain⟨k,rfl⟩:=Int.eq_ofNat_of_zero_le q.1;exact qyo k p W (by omega) v m
end Go.Proofs.YtfmkdoachjgjbaaGreatDoor
