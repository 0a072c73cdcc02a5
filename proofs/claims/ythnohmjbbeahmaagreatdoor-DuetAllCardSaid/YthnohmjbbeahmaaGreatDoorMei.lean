/-
  Law 13: does, walked: both are cut, and say Again.
-/
import Derived.Test.YthnohmjbbeahmaaGreatDoorDoV
import Derived.Test.YthnohmjbbeahmaaGreatDoorMdb
import Derived.Test.YthnohmjbbeahmaaGreatDoorMch
import Derived.Test.YthnohmjbbeahmaaGreatDoorMeg
import Derived.Test.YthnohmjbbeahmaaGreatDoorMdj
import Derived.Test.YthnohmjbbeahmaaGreatDoorDuT
import Derived.Test.YthnohmjbbeahmaaGreatDoorMaa
import Derived.ProofKit
import Derived.OpenShut
import Derived.ShutString
import Derived.ChangeOld
set_option linter.unusedVariables false
set_option linter.unusedSimpArgs false
namespace Go.Proofs.YthnohmjbbeahmaaGreatDoor
open Go.RowKit
attribute [local go_sem ↓ high] zy qak qaq qat zr zu zw zx qd4
attribute [local go_sem] qcl qdb qdn zb qb3 qb9 qcf qbg qkw
section
variable {w0 w:World}{p:Nat}{g:Nat→Nat}{P:Pr}{Ks:List Kp}{k:Nat}
end
section
variable {w0 w:World}{p:Nat}{g:Nat→Nat}{P:Pr}
end
end Go.Proofs.YthnohmjbbeahmaaGreatDoor
namespace Go.Proofs.YthnohmjbbeahmaaGreatDoor
open Go.RowKit
section
variable {w0 w:World}{p:Nat}{g:Nat→Nat}{K:Kon}{n:Nat}{P:Pr}
end
def q0x(w:World)(v:Value)(xs:List ActV):Prop:=(∃a c,v = .slice a 0 c∧xs=[])∨∃g off cap,v = .slice (some ⟨g,off,none⟩) xs.length cap∧∀i x,xs[i]? = some x→zm w g (off+i*44) 44=some x.cells.toArray
theorem q0x.new{w w':World}{v:Value}{xs:List ActV}(h:q0x w v xs)(u:qu w w'):q0x w' v xs:=by
 rcases h with h | ⟨g,off,cap,e,h⟩
 ·exact .inl h
 ·exact .inr ⟨g,off,cap,e,fun i x l=>qa9 (h i x l) u (fun h=>h)⟩
theorem q0x.slice{w:World}{v:Value}{xs:List ActV}(h:q0x w v xs):∃a c,v = .slice a xs.length c:=by
 rcases h with ⟨_,_,rfl,rfl⟩ | ⟨g,off,cap,rfl,_⟩
 ·exact⟨_,_,rfl⟩
 ·exact⟨_,_,rfl⟩
theorem q0x.at{w:World}{a:Option Addr}{n c:Nat}{xs:List ActV}(h:q0x w (.slice a n c) xs){i:Nat}{x:ActV}(l:xs[i]? = some x):∃g off,a=some ⟨g,off,none⟩∧zm w g (off+i*44) 44=some x.cells.toArray:=by
 rcases h with ⟨_,_,e,rfl⟩ | ⟨g,off,cap,e,h⟩
 ·simp at l
 ·cases e;exact⟨g,off,rfl,h i x l⟩
noncomputable def Pr.acts(P:Pr)(xs:List ActV):Pr:=xs.foldl Pr.does P
section
variable {P:Pr}(h:Quiet P.a P.b)
include h
theorem Quiet.sig1:(P.en 1).k.signed=(P.en 0).k.heard:=h.sba
end
section
variable {w0 w:World}{p:Nat}{g:Nat→Nat}{P:Pr}{Ks:List Kp}{k:Nat}
def qqw(w:World)(a:Option Addr)(xs:List Live):Prop:=∀(i:Nat) (x:Live),xs[i]? = some x→∃b,a=some ⟨b,0,none⟩∧zm w b (i*38) 38=some (ql x).toArray
theorem qqw.new{w w':World}{a:Option Addr}{xs:List Live}(h:qqw w a xs)(u:qu w w'):qqw w' a xs:=fun i x l=>by
 obtain⟨b,e,m⟩:=h i x l;exact⟨b,e,qa9 m u (fun h=>h)⟩
theorem qqw.row{w:World}{a:Option Addr}{xs:List Live}{i:Nat}{x:Live}(h:qqw w a xs)(m:xs[i]? = some x):∃b,a=some ⟨b,0,none⟩∧zm w b (i*38) 35=some (ze x.h).toArray∧w.cell? ⟨b,i*38,none⟩=some (.int .u64 x.h.id)∧w.cell? ⟨b,i*38+35,none⟩=some (.bool x.own)∧w.cell? ⟨b,i*38+36,none⟩=some (.int .i64 x.state):=by
 obtain⟨b,e,l⟩:=h i x m;refine⟨b,e,?_,?_,?_,?_⟩
 ·have:=qo0 l 0 35 (by decide);rw[Nat.add_zero] at this;rw[this];congr 1;apply Array.ext';rw[Array.toList_extract];show ((ql x).take (0+35)).drop 0=ze x.h;unfold ql;rw[List.drop_zero,List.take_append_of_le_length (by rw[qbh];decide),List.take_of_length_le (by rw[qbh];decide)]
 ·have:=(qfm l).2 0 (by decide);rw[Nat.add_zero] at this;exact this
 ·rw[(qfm l).2 35 (by decide),List.getElem?_toArray];exact qh6 x
 ·rw[(qfm l).2 36 (by decide),List.getElem?_toArray];exact qgm x
end
section
variable {w0 w:World}{p:Nat}{S:Nat→Prop}{P:Pr}{g:Nat→Nat}{k:Nat}
theorem q1k(m:Tb w0)(H:DuG w0 w p S P g)(o:k<2):Calls Tryz.prog 19 #[.pointer (some ⟨g k,0,none⟩)] w (qbr (.agg #[.int .u64 (P.en k).loc,.int .u64 (P.en k).rem]) w):=by
 obtain⟨i,l,-⟩:=H.opE m o;exact q49 _ i _ w l
theorem q9f(H:DuG w0 w p S P g)(i:k<2):Calls Tryz.prog 18 #[.pointer (some ⟨p,0,none⟩),.int .i64 (k:Int)] w (qce (.pointer (some ⟨g k,0,none⟩)) w):=by
 obtain⟨T,u,h⟩:=H;exact qnb h (k:Int) k (qxg i)
end
theorem zbg{w:World}{K:Kon}{n:Nat}{Q:Pr}(z:Tb w)(o:K.Ok)(F:n<59000)(m:PInv K n Q)(N ex:Int)(i:List Int)(v:i.length=32)(t:qal i)(q:0≤N∧N<18446744073709551616)(E : -9223372036854775808≤ex∧ex≤9223372036854775807)(r:Ch × MsgV × Int)(D:(Q.en 0).offer N (qbm i) ex=r) :
  ∀(W:World) (p:Nat) (S:Nat→Prop) (_:DuD w W p S Q),Calls Tryz.prog 10 #[.pointer (some ⟨p,0,none⟩),.int .i64 0,.int .u64 N,.agg (qx i).toArray,.int .i64 ex] W fun e w'=>e = .returned (.tuple #[.int .u64 (qo2 r).id,.int .i64 r.2.2])∧DSt w W p S w' (Q.act 0 r):=by
 subst D
 intro W p S h
 have C:=m.few
 have l:=m.end o (by omega) (k:=0) (by decide)
 exact qq8 z h 0 0 rfl N ex i v t q E ⟨by have:=l.news;omega,by have:=l.xs;omega⟩ (m.offer o (by omega) (k:=0) (by decide) (N:=N) (ex:=ex) (hv:=qbm i) q.1 (by rw[qdc v];exact t)).2 (by show Q.wb.length<_;omega)
theorem q91{w:World}{K:Kon}{n:Nat}{Q:Pr}(t:Tb w)(m:K.Ok)(D:n<59000)(i:PInv K n Q)(id:Int)(q:List Int)(o:q.length=32)(v:qal q)(r:Ch × MsgV × Int)(C:(Q.en 1).fulfill id q=r) :
  ∀(W:World) (p:Nat) (S:Nat→Prop) (_:DuD w W p S Q),Calls Tryz.prog 15 #[.pointer (some ⟨p,0,none⟩),.int .i64 1,.int .u64 id,.agg (qx q).toArray] W fun e w'=>e = .returned (.int .i64 r.2.2)∧DSt w W p S w' (Q.act 1 r):=by
 subst C
 intro W p S h
 have z:=i.few
 have l:=i.end m (by omega) (k:=1) (by decide)
 exact qm8 t h 1 1 rfl id q o (by have:=l.news;omega) (i.fulfill m (k:=1) (by decide) id q o v).2 (by show Q.wa.length<_;omega)
set_option maxRecDepth 100000 in
set_option maxHeartbeats 4000000 in
theorem q0d(w:World)(C:Tb w):Calls Tryz.prog 8 #[] w (qbr (.bool true) w):=by
 obtain⟨s1,s2,Z,s4,s5,s6,s7,s8,s9⟩:=q0e;have l:=zbg C qnj (n:=0) (by decide) (qny (o:=10) (c:=10) (by decide) ⟨by decide,by decide,by decide⟩) 4 5 (ofI (qdt 1)) (qgh _) (qfy _) ⟨by decide,by decide⟩ ⟨by decide,by decide⟩ ql3 rfl;rw[s1,s2,show (qws 10 10).act 0 ql3=qmz from rfl] at l;have F:=Z.mu;have J:=fun(W:World) (p:Nat) (S:Nat→Prop) (h:DuD w W p S qmz)=>qoj C qnj (N:=1+qmz.mu) (by omega) h (Bnd.of Z)
 obtain⟨n8,i8,j8⟩:=s8;have i:=q91 C qnj (n:=n8) (by omega) i8 0 (qdt 1) (qfz _) (qhs _) quz rfl;rw[s4,show qmz.restD.act 1 quz=qm0 from rfl] at i;have K:=fun(W:World) (p:Nat) (S:Nat→Prop) (h:DuD w W p S qm0)=>qoj C qnj (N:=1200) (by omega) h s9
 have t:=fun(W:World) (p:Nat) (S:Nat→Prop) (g:Nat→Nat) (h:DuG w W p S qm0.restD g)=>q1k C h (k:=0) (by decide)
 rw[s6,s7] at t;have hn:(0:Int)<(qm0.restN:Int):=by omega
 have a5:∀W,(binOp .eql 42 (.agg #[.int .u64 6,.int .u64 4]) (.agg #[.int .u64 6,.int .u64 4])).run Tryz.prog W = .ok (.bool true) W:=fun W=>by kernel_rfl
 have v:=fun W=>qld 1 ⟨by decide,by decide⟩ W
 have I:=fun W=>quv (qdt 1) (qfz _) W
 generalize qm0.restN=rn at *
 generalize (rn:Int)=rz at *
 have a6:decide ((0:Int)<rz)=true:=decide_eq_true hn;clear hn;generalize qm0.restD=Q2 at *
 generalize qm0=P2 at *
 generalize qmz.restN=a7 at *
 generalize qmz.restD=Q1 at *
 generalize qmz=P1 at *
 generalize ofI (qdt 1)=HO at *
 generalize qdt 1=H1 at *
 clear s1 s2 Z s4 s5 s6 s7 s9 F i8 j8;go_enter Tryz.func8,Tryz.ntmps8;go_wp2_with (with_reducible first|(first|refine' tw1 (qg ?_) ?_|refine' tw2 (qg ?_) ?_);rotate_left|refine' tw3 (qg ?_)|rfl|apply tn|refine' tw4 ?_);refine(qpe 10 10 ⟨by decide,by decide⟩ ⟨by decide,by decide⟩ w).mono ?_;rintro e w1 (⟨p,rfl,-,S,hD⟩ | ⟨-,V,-⟩)
 case inr=>exact absurd ⟨by decide,by decide,by decide⟩ V
 have H:=qb hD;clear hD;go_wp2_with (with_reducible first|(first|refine' tw1 (qg ?_) ?_|refine' tw2 (qg ?_) ?_);rotate_left|refine' tw3 (qg ?_)|rfl|apply tn|refine' tw4 ?_);refine(v _).mono ?_;rintro e w2 ⟨rfl,n2⟩;have R:=qb ((qa H).new n2);clear H n2;go_wp2_with (with_reducible first|(first|refine' tw1 (qg ?_) ?_|refine' tw2 (qg ?_) ?_);rotate_left|refine' tw3 (qg ?_)|rfl|apply tn|refine' tw4 ?_);refine(I _).mono ?_;rintro e w3 ⟨rfl,X⟩;have L:=l w3 p S ((qa R).new X);have HB:=qb ((qa R).new X);clear R X I l;go_wp2_with (with_reducible first|(first|refine' tw1 (qg ?_) ?_|refine' tw2 (qg ?_) ?_);rotate_left|refine' tw3 (qg ?_)|rfl|apply tn|refine' tw4 ?_);refine L.mono ?_;rintro e w4 ⟨rfl,h4⟩;have m:=J w4 p _ h4.1;clear L h4 HB J;go_wp2_with (with_reducible first|(first|refine' tw1 (qg ?_) ?_|refine' tw2 (qg ?_) ?_);rotate_left|refine' tw3 (qg ?_)|rfl|apply tn|refine' tw4 ?_);refine m.mono ?_;rintro e w5 ⟨rfl,h5⟩;have HC:=qb h5.1;clear m h5;go_wp2_with (with_reducible first|(first|refine' tw1 (qg ?_) ?_|refine' tw2 (qg ?_) ?_);rotate_left|refine' tw3 (qg ?_)|rfl|apply tn|refine' tw4 ?_);refine(v _).mono ?_;rintro e w6 ⟨rfl,n6⟩;have L:=i w6 p _ ((qa HC).new n6);clear n6 HC i v;go_wp2_with (with_reducible first|(first|refine' tw1 (qg ?_) ?_|refine' tw2 (qg ?_) ?_);rotate_left|refine' tw3 (qg ?_)|rfl|apply tn|refine' tw4 ?_);refine L.mono ?_;rintro e w7 ⟨rfl,h7⟩;have m:=K w7 p _ h7.1;clear L h7 K;go_wp2_with (with_reducible first|(first|refine' tw1 (qg ?_) ?_|refine' tw2 (qg ?_) ?_);rotate_left|refine' tw3 (qg ?_)|rfl|apply tn|refine' tw4 ?_)
 refine m.mono ?_;rintro e w8 ⟨rfl,h8⟩;obtain⟨g,U⟩:=h8.1.toG;have T:=qb U;have q:=fun(W:World) (n:qu w8 W)=>q9f (U.new n) (k:=0) (by decide)
 simp only[Int.natCast_zero] at q;clear m h8 U;have D:=q w8 (Upd.refl _ _);go_wp2_with (with_reducible first|(first|refine' tw1 (qg ?_) ?_|refine' tw2 (qg ?_) ?_);rotate_left|refine' tw3 (qg ?_)|rfl|apply tn|refine' tw4 ?_);refine D.mono ?_;rintro e w9 ⟨rfl,q9⟩;have Y:qu w8 w9:=q9.upd _;have E:=q w9 Y;have HN:=qb Y;clear D q9 Y;go_wp2_with (with_reducible first|(first|refine' tw1 (qg ?_) ?_|refine' tw2 (qg ?_) ?_);rotate_left|refine' tw3 (qg ?_)|rfl|apply tn|refine' tw4 ?_);refine E.mono ?_;rintro e a4 ⟨rfl,O⟩;have z:=(qa HN).trans (O.upd _);have hb:=t a4 p _ g ((qa T).new z);have HM:=qb ((qa T).new z);clear E O z HN q T t;go_wp2_with (with_reducible first|(first|refine' tw1 (qg ?_) ?_|refine' tw2 (qg ?_) ?_);rotate_left|refine' tw3 (qg ?_)|rfl|apply tn|refine' tw4 ?_);refine hb.mono ?_;rintro e a8 ⟨rfl,M⟩;have HF:=qb ((qa HM).n.trans M);clear hb M HM;go_wp2_with (with_reducible first|(first|refine' tw1 (qg ?_) ?_|refine' tw2 (qg ?_) ?_);rotate_left|refine' tw3 (qg ?_)|rfl|apply tn|refine' tw4 ?_);go_ret;exact⟨rfl,qa HF⟩
def qqs(w:World)(v:Value)(xs:List ActD):Prop:=(∃a c,v = .slice a 0 c∧xs=[])∨∃g off cap,v = .slice (some ⟨g,off,none⟩) xs.length cap∧∀i x,xs[i]? = some x→zm w g (off+i*8) 8=some x.cells.toArray
theorem qqs.new{w w':World}{v:Value}{xs:List ActD}(h:qqs w v xs)(u:qu w w'):qqs w' v xs:=by
 rcases h with h | ⟨g,off,cap,e,h⟩
 ·exact .inl h
 ·exact .inr ⟨g,off,cap,e,fun i x l=>qa9 (h i x l) u (fun h=>h)⟩
theorem qqs.slice{w:World}{v:Value}{xs:List ActD}(h:qqs w v xs):∃a c,v = .slice a xs.length c:=by
 rcases h with ⟨_,_,rfl,rfl⟩ | ⟨g,off,cap,rfl,_⟩
 ·exact⟨_,_,rfl⟩
 ·exact⟨_,_,rfl⟩
theorem qqs.at{w:World}{a:Option Addr}{n c:Nat}{xs:List ActD}(h:qqs w (.slice a n c) xs){i:Nat}{x:ActD}(l:xs[i]? = some x):∃g off,a=some ⟨g,off,none⟩∧zm w g (off+i*8) 8=some x.cells.toArray:=by
 rcases h with ⟨_,_,e,rfl⟩ | ⟨g,off,cap,e,h⟩
 ·cases l
 ·cases e;exact⟨g,off,rfl,h i x l⟩
theorem qqw.amount{w:World}{a:Option Addr}{xs:List Live}{i:Nat}{x:Live}(h:qqw w a xs)(l:xs[i]? = some x):∃b,a=some ⟨b,0,none⟩∧w.cell? ⟨b,i*38+1,none⟩=some (.int .u64 x.h.amount):=by
 obtain⟨b,e,m⟩:=h i x l;refine⟨b,e,?_⟩;rw[(qfm m).2 1 (by decide),List.getElem?_toArray];exact qwl x
section
variable {w0 w w':World}{p:Nat}{S:Nat→Prop}{P:Pr}{g:Nat→Nat}{k:Nat}
def DuW(w0 w:World)(p:Nat)(P:Pr):Prop:=∃S,DuD w0 w p S P
theorem DuW.n(h:DuW w0 w p P):qu w0 w:=by
 obtain⟨S,h⟩:=h;exact h.n
theorem DuW.new(h:DuW w0 w p P)(n:qu w w'):DuW w0 w' p P:=by
 obtain⟨S,h⟩:=h;exact⟨S,h.new n⟩
theorem DuW.getG(h:DuW w0 w p P):∃S g,DuG w0 w p S P g:=by
 obtain⟨S,h⟩:=h;obtain⟨g,i⟩:=h.toG;exact⟨S,g,i⟩
theorem DuG.toW(h:DuG w0 w p S P g):DuW w0 w p P:=⟨S,h.toD⟩
section
variable {K:Kon}{n:Nat}
end
end
structure AllI(i:Nat)(X Y:Int)(P:Pr):Prop where
 flat:qqu 5000 10000 X Y ((2*i:Nat):Int) (((i+1) / 2:Nat):Int) ((i / 2:Nat):Int) P
 inv:∃n,n≤1010*i∧PInv (qfv 5000 10000) n P
 x:5000-256*(i:Int)≤X
 y:5000-256*(i:Int)≤Y
 sum:X+Y=10000
theorem qk4:(qfv 5000 10000).Ok:=qr3 (by decide) ⟨by decide,by decide,by decide⟩
theorem q47:AllI 0 5000 5000 (qws 5000 10000):=by
 refine⟨⟨_,_,[],[],false,false,ql7 _,ql7 _,?_⟩,⟨0,Nat.le_refl _,qny (by decide) ⟨by decide,by decide,by decide⟩⟩,by decide,by decide,by decide⟩;have g:Ch.new (duB 5000 10000)=eB 5000 10000 5000 (10000-5000) (List.replicate 17 .zero) [] [] .zero []:=zij ⟨by decide,by decide⟩ (by decide);show (⟨Ch.new (duA 5000 10000),Ch.new (duB 5000 10000),[],[],false⟩:Pr)=_;rw[g];rfl
section
variable {i:Nat}{X Y N:Int}{P:Pr}{pd:Bool}{q:List Int}
theorem qlz(g:(ofI q).length=32):qby q (qbm (ofI q)).toList=true:=by
 rw[qdc g];unfold qby;exact beq_self_eq_true _
theorem qxw(h:AllI i X Y P)(O:i<16)(M:i%2=0)(F:1≤N∧N≤256)(H:q.length=32)(K:qal q) :
  (∃n,n≤1010*i∧PInv (qfv 5000 10000) n P∧Pays (qfv 5000 10000) n 0 P N ((i / 2:Nat):Int) (qbm (ofI q)) pd q)∧AllI (i+1) (qau (!pd) N (X-N)) (qau pd N Y) (P.paidD 0 N ((i / 2:Nat):Int) (qbm (ofI q)) pd q).restD:=by
 obtain⟨t,⟨n,J,o⟩,U,V,T⟩:=h
 rw[show (i+1) / 2=i / 2 by omega] at t
 obtain⟨l,E⟩:=zi2 (N:=N) (h:=qbm (ofI q)) (q:=q) (pd:=pd) qk4 (show n<50000 by omega) o t ⟨by omega,by omega⟩ ⟨F.1,by omega⟩ (by omega) ⟨by omega,by omega⟩ (by rw[qdc (qgh _)];exact qfy _) H K (qlz (qgh _))
 refine⟨⟨n,J,o,l⟩,?_,?_,?_,?_,?_⟩
 ·have z:((2*(i+1):Nat):Int)=((2*i:Nat):Int)+2:=by omega
  have C:(((i+1+1) / 2:Nat):Int)=((i / 2:Nat):Int)+1:=by omega
  have D:(((i+1) / 2:Nat):Int)=((i / 2:Nat):Int):=by omega
  rw[z,C,D];exact E
 ·obtain⟨m,R,-,-,g⟩:=l.i2;have I:=g.mu;obtain⟨v,a,b⟩:=((Bnd.of g).rest qk4 (by omega)).1;refine⟨v,?_,a⟩;have L:v≤m+2+Pr.mu (((P.act 0 ((P.en 0).offer N (qbm (ofI q)) 9)).restD.act (1-0) (setC pd ((P.act 0 ((P.en 0).offer N (qbm (ofI q)) 9)).restD.en (1-0)) ((i / 2:Nat):Int) q)).signs (1-0)):=by omega
  omega
 ·unfold qau;cases pd
  ·show _≤IntKind.u64.wrap (X-N+N);rw[qaw (by omega) (by omega)];omega
  ·show _≤X-N;omega
 ·unfold qau;cases pd
  ·show _≤Y;omega
  ·show _≤IntKind.u64.wrap (Y+N);rw[qaw (by omega) (by omega)];omega
 ·unfold qau;cases pd
  ·show IntKind.u64.wrap (X-N+N)+Y=_;rw[qaw (by omega) (by omega)];omega
  ·show X-N+IntKind.u64.wrap (Y+N)=_;rw[qaw (by omega) (by omega)];omega
theorem qqa(h:AllI i X Y P)(W:i<16)(V:i%2=1)(L:1≤N∧N≤256)(v:q.length=32)(z:qal q)(x y:Int) :
  (∃n,n≤1010*i∧PInv (qfv 5000 10000) n P∧Pays (qfv 5000 10000) n 1 P N ((i / 2:Nat):Int) (qbm (ofI q)) pd q)∧(∃n,n<50000∧PInv (qfv 5000 10000) n (P.paidD 1 N ((i / 2:Nat):Int) (qbm (ofI q)) pd q)) ∧
  AllI (i+1) (qau pd N X) (qau (!pd) N (Y-N)) (P.paidD 1 N ((i / 2:Nat):Int) (qbm (ofI q)) pd q).restD ∧
  (∃n,n<50000∧PInv (qfv 5000 10000) n ((P.paidD 1 N ((i / 2:Nat):Int) (qbm (ofI q)) pd q).cutD x y))∧AllI (i+1) (qau pd N X) (qau (!pd) N (Y-N)) ((P.paidD 1 N ((i / 2:Nat):Int) (qbm (ofI q)) pd q).cutD x y).restD:=by
 obtain⟨M,⟨n,T,F⟩,hx,hy,hs⟩:=h
 obtain⟨C,D⟩:=zi3 (N:=N) (h:=qbm (ofI q)) (q:=q) (pd:=pd) qk4 (show n<50000 by omega) F M ⟨by omega,by omega⟩ ⟨L.1,by omega⟩ (by omega) ⟨by omega,by omega⟩ (by rw[qdc (qgh _)];exact qfy _) v z (qlz (qgh _))
 obtain⟨m,Z,-,-,g⟩:=C.i2
 have g:PInv (qfv 5000 10000) (m+2) (P.paidD 1 N ((i / 2:Nat):Int) (qbm (ofI q)) pd q):=g
 have l:=g.cutD qk4 (show m+2<60000 by omega) x y
 have o:∀R:Pr,PInv (qfv 5000 10000) (m+2) R→qqu 5000 10000 (qau pd N X) (qau (!pd) N (Y-N)) (((2*i:Nat):Int)+2) (((i+1) / 2:Nat):Int) (((i / 2:Nat):Int)+1) R.restD→AllI (i+1) (qau pd N X) (qau (!pd) N (Y-N)) R.restD:=by
  intro R H E;refine⟨?_,?_,?_,?_,?_⟩
  ·have I:((2*(i+1):Nat):Int)=((2*i:Nat):Int)+2:=by omega
   have J:(((i+1+1) / 2:Nat):Int)=(((i+1) / 2:Nat):Int):=by omega
   have K:(((i+1) / 2:Nat):Int)=((i / 2:Nat):Int)+1:=by omega
   rw[I,J];rw[←K] at E;exact E
  ·have O:=H.mu;obtain⟨U,a,b⟩:=((Bnd.of H).rest qk4 (by omega)).1;exact⟨U,by omega,a⟩
  ·unfold qau;cases pd
   ·show _≤X;omega
   ·show _≤IntKind.u64.wrap (X+N);rw[qaw (by omega) (by omega)];omega
  ·unfold qau;cases pd
   ·show _≤IntKind.u64.wrap (Y-N+N);rw[qaw (by omega) (by omega)];omega
   ·show _≤Y-N;omega
  ·unfold qau;cases pd
   ·show X+IntKind.u64.wrap (Y-N+N)=_;rw[qaw (by omega) (by omega)];omega
   ·show IntKind.u64.wrap (X+N)+(Y-N)=_;rw[qaw (by omega) (by omega)];omega
 have t:=o _ g (zim qk4 (show m+2<60000 by omega) g D ⟨by omega,by omega⟩ ⟨by omega,by omega⟩ v z (qlz (qgh _)))
 refine⟨⟨n,T,F,C⟩,⟨m+2,by omega,g⟩,t,⟨m+2,by omega,l⟩,?_⟩
 rcases zi0 D ⟨by omega,by omega⟩ ⟨by omega,by omega⟩ v z (qlz (qgh _)) x y with e | e
 ·rw[e];exact t
 ·exact o _ l (zin qk4 (show m+2<60000 by omega) l e ⟨by omega,by omega⟩)
end
def DuB(w0 w:World)(p B:Nat)(X Y:Int)(P:Pr):Prop:=∃S,DuD w0 w p S P∧¬S B∧w0.heap.size≤B∧w.heap[B]? = some (.cells #[.int .u64 X,.int .u64 Y] 28 (0,0))
section
variable {w0 w w':World}{p B:Nat}{X Y:Int}{P P':Pr}
theorem DuB.toW(h:DuB w0 w p B X Y P):DuW w0 w p P:=by
 obtain⟨S,h,-⟩:=h;exact⟨S,h⟩
theorem DuB.new(h:DuB w0 w p B X Y P)(n:qu w w'):DuB w0 w' p B X Y P:=by
 obtain⟨S,h,g,l,m⟩:=h;exact⟨S,h.new n,g,l,n.old m (fun h=>h)⟩
theorem DuB.cells(h:DuB w0 w p B X Y P):w.cell? ⟨B,0,none⟩=some (.int .u64 X)∧w.cell? ⟨B,1,none⟩=some (.int .u64 Y)∧w.frozen? ⟨B,0,none⟩=false∧w.frozen? ⟨B,1,none⟩=false:=by
 obtain⟨S,h,l,m,g⟩:=h;exact⟨qh g 0,qh g 1,qv g 0,qv g 1⟩
theorem DuB.step{F:FuncId}{args:Array Value}{e0:Ending}(h:DuB w0 w p B X Y P)(st:∀S,DuD w0 w p S P→Calls Tryz.prog F args w fun e w'=>e=e0∧DSt w0 w p S w' P'):Calls Tryz.prog F args w fun e w'=>e=e0∧DuB w0 w' p B X Y P':=by
 obtain⟨S,h,g,m,l⟩:=h;refine(st S h).mono ?_;rintro e w' ⟨o,hd,t⟩;refine⟨o,_,hd,?_,m,t.old l g⟩;rintro (e | e)
 ·exact g e
 ·have:=z6 l;omega
theorem DuB.put0(h:DuB w0 w p B X Y P)(x:Int):DuB w0 (w.setCell ⟨B,0,none⟩ (.int .u64 x)) p B x Y P:=by
 obtain⟨S,h,g,l,m⟩:=h;have u:Upd (· = B) w (w.setCell ⟨B,0,none⟩ (.int .u64 x)):=(Upd.refl _ _).set1 0 _;refine⟨S,h.upd u (fun b e=>by subst e;exact⟨g,l⟩),g,l,?_⟩;rw[z7 m 0 (.int .u64 x)];rfl
theorem DuB.put1(h:DuB w0 w p B X Y P)(y:Int):DuB w0 (w.setCell ⟨B,1,none⟩ (.int .u64 y)) p B X y P:=by
 obtain⟨S,h,g,l,m⟩:=h;have u:Upd (· = B) w (w.setCell ⟨B,1,none⟩ (.int .u64 y)):=(Upd.refl _ _).set1 1 _;refine⟨S,h.upd u (fun b e=>by subst e;exact⟨g,l⟩),g,l,?_⟩;rw[z7 m 1 (.int .u64 y)];rfl
end
section
variable {w0:World}{p B:Nat}{K:Kon}{n:Nat}{P:Pr}{N id:Int}{q:List Int}{pd:Bool}
theorem qqr(i:PInv K n P){k:Nat}(l:k<2):(P.way (1-k)).length<1000000:=by
 have g:=i.few;rcases qb1 l with e | e<;>rw[e]
 ·exact Nat.lt_of_le_of_lt g.2 (by decide)
 ·exact Nat.lt_of_le_of_lt g.1 (by decide)
theorem qsf(i:K.Ok)(m:n<59000)(g:PInv K n P){k:Nat}(l:k<2):(P.en k).news.length<1000000:=by
 have:=(g.end i (by omega) l).news;omega
theorem zh0(i:K.Ok)(m:n<59000)(g:PInv K n P){k:Nat}(l:k<2):(P.en k).xs.length<1000000:=by
 have:=(g.end i (by omega) l).xs;omega
theorem q3w(m:Tb w0)(l:K.Ok)(o:n<59000)(g:PInv K n P):∃r:Int,∀W X Y,DuB w0 W p B X Y P→Calls Tryz.prog 13 #[.pointer (some ⟨p,0,none⟩)] W fun e i=>e = .returned (.int .i64 r)∧DuB w0 i p B X Y P.restD :=
 ⟨_,fun W X Y h=>h.step fun S hd=>qoj m l (N:=n+P.mu) (by have:=g.mu;omega) hd (Bnd.of g)⟩
theorem zh3(m:Tb w0)(l:K.Ok)(v:n<59000)(i:PInv K n P)(x y:Int)(o : -9223372036854775808≤x∧x≤9223372036854775807)(t : -9223372036854775808≤y∧y≤9223372036854775807):∀W X Y,DuB w0 W p B X Y P→Calls Tryz.prog 17 #[.pointer (some ⟨p,0,none⟩),.agg #[.int .i64 x,.int .i64 y]] W fun e g=>e = .returned (.int .i64 0)∧DuB w0 g p B X Y (P.cutD x y) :=
 fun W X Y h=>h.step fun S hd=>q9e m l (by omega) i hd x y o t
def zf5(w0:World)(p B:Nat)(P R:Pr)(k m N id:Int)(pd:Bool)(q:List Int):Prop:=∃o i l:Pr,∃r t:Int,
  (∀W X Y,DuB w0 W p B X Y P→Calls Tryz.prog 10 #[.pointer (some ⟨p,0,none⟩),.int .i64 k,.int .u64 N,.agg (qx (ofI q)).toArray,.int .i64 9] W fun e g=>e = .returned (.tuple #[.int .u64 id,.int .i64 0])∧DuB w0 g p B X Y o) ∧
  (∀W X Y,DuB w0 W p B X Y o→Calls Tryz.prog 13 #[.pointer (some ⟨p,0,none⟩)] W fun e g=>e = .returned (.int .i64 r)∧DuB w0 g p B X Y i) ∧
  (pd=true→∀W X Y,DuB w0 W p B X Y i→Calls Tryz.prog 15 #[.pointer (some ⟨p,0,none⟩),.int .i64 m,.int .u64 id,.agg (qx q).toArray] W fun e g=>e = .returned (.int .i64 0)∧DuB w0 g p B X Y l) ∧
  (pd=false→∀W X Y,DuB w0 W p B X Y i→Calls Tryz.prog 14 #[.pointer (some ⟨p,0,none⟩),.int .i64 m,.int .u64 id,.int .i64 1] W fun e g=>e = .returned (.int .i64 0)∧DuB w0 g p B X Y l) ∧
  (∀W X Y,DuB w0 W p B X Y l→Calls Tryz.prog 16 #[.pointer (some ⟨p,0,none⟩),.int .i64 m] W fun e g=>e = .returned (.int .i64 0)∧DuB w0 g p B X Y R) ∧
  (∀W X Y,DuB w0 W p B X Y R→Calls Tryz.prog 13 #[.pointer (some ⟨p,0,none⟩)] W fun e g=>e = .returned (.int .i64 t)∧DuB w0 g p B X Y R.restD)
theorem qoz{kk:Nat}(k C:Int)(w:sd k=kk)(o:sd C=1-kk)(t:Tb w0)(i:K.Ok)(hn:n<50000)(D:PInv K n P)(R:Pays K n kk P N id (qbm (ofI q)) pd q)(J:0≤N∧N<18446744073709551616)(L:q.length=32)(T:qal q) :
  zf5 w0 p B P (P.paidD kk N id (qbm (ofI q)) pd q) k C N id pd q:=by
 have E:kk<2:=w▸qkf k
 have g:1-kk<2:=by omega
 have M:=fun W X Y (h:DuB w0 W p B X Y P)=>h.step (e0:= .returned (.tuple #[.int .u64 (qo2 ((P.en kk).offer N (qbm (ofI q)) 9)).id,.int .i64 ((P.en kk).offer N (qbm (ofI q)) 9).2.2])) fun S hd=>qq8 t hd k kk w N 9 (ofI q) (qgh _) (qfy _) J (by decide) ⟨qsf i (by omega) D E,zh0 i (by omega) D E⟩ (D.offer i (by omega) E (N:=N) (ex:=9) (hv:=qbm (ofI q)) J.1 (by rw[qdc (qgh _)];exact qfy _)).2 (qqr D E)
 obtain⟨⟨Z,o2⟩,i1,⟨m,hm,i2,I,V⟩,l,z⟩:=R
 rw[Z,o2] at M
 obtain⟨r,U⟩:=q3w (p:=p) (B:=B) t i (show n+1<59000 by omega) i1
 obtain⟨r2,F⟩:=q3w (p:=p) (B:=B) t i (show m+2<59000 by omega) V
 refine⟨_,_,(P.act kk ((P.en kk).offer N (qbm (ofI q)) 9)).restD.act (1-kk) (setC pd ((P.act kk ((P.en kk).offer N (qbm (ofI q)) 9)).restD.en (1-kk)) id q),r,r2,M,U,?_,?_,?_,F⟩
 ·intro e W X Y h;subst e;have v:=h.step (e0:= .returned (.int .i64 ((((P.act kk ((P.en kk).offer N (qbm (ofI q)) 9)).restD).en (1-kk)).fulfill id q).2.2)) fun S hd=>qm8 t hd C (1-kk) o id q L (qsf i (by omega) i2 g) (i2.fulfill i g id q L T).2 (qqr i2 g)
  have H:((((P.act kk ((P.en kk).offer N (qbm (ofI q)) 9)).restD).en (1-kk)).fulfill id q).2.2=0:=l;rw[H] at v;exact v
 ·intro e W X Y h;subst e;have v:=h.step (e0:= .returned (.int .i64 ((((P.act kk ((P.en kk).offer N (qbm (ofI q)) 9)).restD).en (1-kk)).fail id 1).2.2)) fun S hd=>q5w t hd C (1-kk) o id 1 (qsf i (by omega) i2 g) (i2.fail i g id 1).2 (qqr i2 g)
  have H:((((P.act kk ((P.en kk).offer N (qbm (ofI q)) 9)).restD).en (1-kk)).fail id 1).2.2=0:=l;rw[H] at v;exact v
 ·intro W X Y h;have O:=h.step fun S hd=>qt0 t hd C (1-kk) o ((I.end i (by omega) g).sign i (by omega)) (I.sign i g).2 (qqr I g)
  rw[z] at O;exact O
end
end Go.Proofs.YthnohmjbbeahmaaGreatDoor
namespace Go.Proofs.YthnohmjbbeahmaaGreatDoor
open Go.ChangeShapes Go.WideShapes Go.ChangeAt Go.RowKit
def qih(k:IntKind)(w:World)(v:Value)(g:List Int):Prop :=
 (∃a cap,v = .slice a 0 cap∧g=[]) ∨
 ∃b off cap,v = .slice (some ⟨b,off,none⟩) g.length cap∧0<g.length∧g.length≤cap∧cap≤maxLen ∧
  (∀i,i<g.length→w.cell? ⟨b,off+i,none⟩=some (.int k (g.getD i 0)))∧∀n∈g,(Lit.int k n).wf=true
theorem qv6{g:List Int}{k:Nat}(h:k<g.length):g.getD k 0∈g:=by
 rw[List.getD_eq_getElem?_getD,List.getElem?_eq_getElem h];exact List.getElem_mem h
theorem q59{α:Type}(l:List α)(n i:Nat)(d:α)(h:i<n):(l.take n).getD i d=l.getD i d:=by
 rw[List.getD_eq_getElem?_getD,List.getD_eq_getElem?_getD,List.getElem?_take,if_pos h]
section
variable {H:Type}{enc:TypeId × Value→H}{P:Program}{W:World}{base:Nat}{t e:TypeId}{v:Value}{d:DataW H}{p:List MemPlace}
theorem qzr{k:IntKind}(E:P.underlying t=some (.slice e))(L:P.underlying e=some (.int k))(K:P.cellsOf e=1)
  (hv:Value.okWide P W .any base t v) (h:DataW.Trod enc P W 0 (fun _=>true) true t v d p):∃R,qih k W v R:=by
 obtain⟨a0,len,cap,rfl⟩:=okWide_slice E hv
 obtain⟨D,M⟩:=h
 rcases open_ints E L K M with ⟨m,_⟩ | ⟨x,l,c,C,m,_,U,N,F,_,g,z⟩
 ·simp[Value.cells] at m;obtain⟨rfl,rfl,rfl⟩:=m;exact⟨[],.inl ⟨_,_,rfl,rfl⟩⟩
 ·simp[Value.cells] at m;obtain⟨rfl,rfl,rfl⟩:=m;replace F:C.length=cap:=by simpa using F
  by_cases J:len=0
  ·subst J;exact⟨[],.inl ⟨_,_,rfl,rfl⟩⟩
  ·obtain⟨b,off,q⟩:=x;have o:q=none:=by simpa [Addr.add] using World.cell?_spot (g 0 (by omega))
   subst o;have w:(C.take len).length=len:=by rw[List.length_take];omega
   refine⟨C.take len,.inr ⟨b,off,cap,by rw[w],by omega,by omega,N,fun i T=> ?_,fun s O=>z s (List.mem_of_mem_take O)⟩⟩;have:=g i (by omega);rw[q59 _ _ _ _ (by omega)];have I:(⟨b,off,none⟩:Addr).add i=⟨b,off+i,none⟩:=by unfold Addr.add;split<;>simp_all
   rwa [I] at this
end
end Go.Proofs.YthnohmjbbeahmaaGreatDoor
