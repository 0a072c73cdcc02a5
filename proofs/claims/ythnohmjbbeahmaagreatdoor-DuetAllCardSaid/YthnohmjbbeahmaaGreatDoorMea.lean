/-
  A duet: side, End, send.
-/
import Derived.Test.YthnohmjbbeahmaaGreatDoorMdj
import Derived.Test.YthnohmjbbeahmaaGreatDoorMdh
set_option linter.unusedVariables false
set_option linter.unusedSimpArgs false
namespace Go.Proofs.YthnohmjbbeahmaaGreatDoor
open Go.RowKit
def sd(k:Int):Nat:=(k%2).toNat
theorem qkf(k:Int):sd k<2:=by unfold sd;omega
theorem qxg{k:Nat}(h:k<2):sd (k:Int)=k:=by unfold sd;omega
theorem zby(k:Int):sd (wrap64 (k+1))=1-sd k:=by
 unfold sd wrap64;omega
set_option maxHeartbeats 600000 in
theorem qja(k:Int)(w:World):Calls Tryz.prog 42 #[.int .i64 k] w (qce (.int .i64 (sd k:Int)) w):=by
 have i:=zcb k;unfold sd;generalize (k%2).toNat=s at i ⊢;go_enter Tryz.func42,Tryz.ntmps42;go_wp2_with fail;go_ret;exact⟨rfl,Q.refl _⟩
section
variable {w0 w w':World}{p:Nat}{S:Nat→Prop}{P:Pr}{g:Nat→Nat}{T:Nat→Nat→Prop}{u:Nat→Value}
theorem DuP.cellE(h:DuP w0 w p S P g T u){k:Nat}(i:k<2):w.cell? ⟨p,k,none⟩=some (.pointer (some ⟨g k,0,none⟩)):=by
 rw[qh h.at_ k];rcases qb1 i with rfl | rfl<;>rfl
theorem DuP.cellW(h:DuP w0 w p S P g T u){k:Nat}(i:k<2):w.cell? ⟨p,2+k,none⟩=some (u k):=by
 rw[qh h.at_ (2+k)];rcases qb1 i with rfl | rfl<;>rfl
end
set_option maxHeartbeats 600000 in
theorem qnb{w0 w:World}{p:Nat}{S:Nat→Prop}{P:Pr}{g:Nat→Nat}{T:Nat→Nat→Prop}{u:Nat→Value}(h:DuP w0 w p S P g T u)(k:Int)(kk:Nat)(i:sd k=kk) :
  Calls Tryz.prog 18 #[.pointer (some ⟨p,0,none⟩),.int .i64 k] w (qce (.pointer (some ⟨g kk,0,none⟩)) w):=by
 have o:kk<2:=i▸qkf k
 have l:=fun W=>qja k W
 rw[i] at l
 have c:=h.cellE o
 have t:(kk:Int)<2:=by omega
 clear h
 go_enter Tryz.func18,Tryz.ntmps18
 go_wp2_with (with_reducible first|(first|refine' tw1 (qg ?_) ?_|refine' tw2 (qg ?_) ?_);rotate_left|refine' tw3 (qg ?_)|rfl|apply tn|refine' tw4 ?_)
 refine(l _).mono ?_
 rintro e w1 ⟨rfl,q⟩
 have q:=q.ofDrew
 have v:=q.cell c
 have m:=qb q
 clear q l c
 go_wp2_with (with_reducible first|(first|refine' tw1 (qg ?_) ?_|refine' tw2 (qg ?_) ?_);rotate_left|refine' tw3 (qg ?_)|rfl|apply tn|refine' tw4 ?_)
 go_ret
 exact⟨rfl,qa m⟩
def qmh(w:World)(l:Value)(ls:List MsgV):Prop:=(l = .slice none 0 0∧ls=[])∨∃i c,l = .slice (some i) ls.length c∧∀j u,(ls.flatMap MsgV.cells)[j]? = some u→w.cell? (i.add j)=some u
theorem qmh.new{w w':World}{i:Value}{ls:List MsgV}(h:qmh w i ls)(n:qu w w'):qmh w' i ls:=by
 rcases h with h | ⟨l,c,e,h⟩
 ·exact .inl h
 ·exact .inr ⟨l,c,e,fun j u m=>n.cell (h j u m) (fun h=>h)⟩
theorem qmh.shape{w:World}{i:Value}{ls:List MsgV}(h:qmh w i ls):∃a c,i = .slice a ls.length c:=by
 rcases h with ⟨rfl,rfl⟩ | ⟨l,c,e,-⟩
 ·exact⟨_,_,rfl⟩
 ·exact⟨_,_,e⟩
def DuG(w0 w:World)(p:Nat)(S:Nat→Prop)(P:Pr)(g:Nat→Nat):Prop:=∃T u,DuP w0 w p S P g T u
section
variable {w0 w w' W:World}{p:Nat}{S S' X:Nat→Prop}{P Q:Pr}{g:Nat→Nat}
theorem DuG.toD(h:DuG w0 w p S P g):DuD w0 w p S P:=by
 obtain⟨T,u,h⟩:=h;exact⟨g,T,u,h⟩
theorem DuD.toG(h:DuD w0 w p S P):∃g,DuG w0 w p S P g:=by
 obtain⟨g,T,u,h⟩:=h;exact⟨g,T,u,h⟩
theorem DuG.new(h:DuG w0 w p S P g)(n:qu w w'):DuG w0 w' p S P g:=by
 obtain⟨T,u,h⟩:=h;exact⟨T,u,h.new n⟩
theorem DuG.n(h:DuG w0 w p S P g):qu w0 w:=h.toD.n
theorem DuG.lt(h:DuG w0 w p S P g):∀b,S b→w0.heap.size≤b∧b<w.heap.size:=h.toD.lt
theorem DuG.wider(h:DuG w0 w p S P g)(i:∀b,S b→S' b)(o:∀b,S' b→w0.heap.size≤b∧b<w.heap.size):DuG w0 w p S' P g:=by
 obtain⟨T,u,h⟩:=h;exact⟨T,u,h.at_,h.en,h.row,h.ok,h.sep,h.pT,h.uT,h.usep,i _ h.pS,fun k m b l=>i b (h.tS k m b l),fun k m b l=>i b (h.uS k m b l),o,h.n⟩
theorem DuP.upd{T:Nat→Nat→Prop}{u:Nat→Value}(h:DuP w0 w p S P g T u)(U:Upd X w w')(n:∀b,X b→¬S b∧w0.heap.size≤b):DuP w0 w' p S P g T u :=
 ⟨U.old h.at_ (fun e=>(n p e).1 h.pS),fun k l=>(h.en k l).upd U (fun b i e=>(n b e).1 (h.tS k l b i)),fun k l=>(h.row k l).upd U (fun b i e=>(n b e).1 (h.uS k l b i)),h.ok,h.sep,h.pT,h.uT,h.usep,h.pS,h.tS,h.uS,fun b i=>⟨(h.lt b i).1,Nat.lt_of_lt_of_le (h.lt b i).2 U.size⟩,h.n.then U (fun b i e=>by have:=(n b e).2;omega)⟩
theorem DuG.upd(h:DuG w0 w p S P g)(U:Upd X w w')(n:∀b,X b→¬S b∧w0.heap.size≤b):DuG w0 w' p S P g:=by
 obtain⟨T,u,h⟩:=h;exact⟨T,u,h.upd U n⟩
theorem DuD.upd(h:DuD w0 w p S P)(U:Upd X w w')(n:∀b,X b→¬S b∧w0.heap.size≤b):DuD w0 w' p S P:=by
 obtain⟨g,h⟩:=h.toG;exact(h.upd U n).toD
end
def DSG(w0 w:World)(p:Nat)(S:Nat→Prop)(w':World)(P:Pr)(g:Nat→Nat):Prop:=DuG w0 w' p (Fr S w w') P g∧Upd S w w'
theorem DSG.toD{w0 w w':World}{p:Nat}{S:Nat→Prop}{P:Pr}{g:Nat→Nat}(h:DSG w0 w p S w' P g):DSt w0 w p S w' P:=⟨h.1.toD,h.2⟩
theorem DSt.toG{w0 w w':World}{p:Nat}{S:Nat→Prop}{P:Pr}(h:DSt w0 w p S w' P):∃g,DSG w0 w p S w' P g:=by
 obtain⟨g,i⟩:=h.1.toG;exact⟨g,i,h.2⟩
theorem DSG.after{w0 w W w':World}{p:Nat}{S:Nat→Prop}{P Q:Pr}{g:Nat→Nat}(h:DuD w0 w p S P)(n:qu w W)(a:DSG w0 W p S w' Q g):DSG w0 w p S w' Q g:=by
 have l:=h.n.size;have m:=n.size;have o:=a.2.size;refine⟨a.1.wider (fun b i=>i.imp id (fun e=>⟨by omega,e.2⟩)) ?_,(n.mono (fun _ _ h=>h.elim)).trans a.2⟩;rintro b (e | e)
 ·exact⟨(h.lt b e).1,by have:=(h.lt b e).2;omega⟩
 ·exact⟨by omega,e.2⟩
def Pr.sends(P:Pr)(k:Nat)(ls:List MsgV):Pr:=P.setWay2 (1-k) (P.way (1-k)++ls)
set_option maxRecDepth 100000 in
set_option maxHeartbeats 1000000 in
theorem qmk{w0 w:World}{p:Nat}{S:Nat→Prop}{P:Pr}{g:Nat→Nat}(hG:DuG w0 w p S P g)(k:Int)(kk:Nat)(U:sd k=kk)(ls:List MsgV)(V:∀l∈ls,MsgOk l)(xv:Value)(hx:qmh w xv ls)(v:(P.way (1-kk)).length+ls.length≤1000000) :
  Calls Tryz.prog 43 #[.pointer (some ⟨p,0,none⟩),.int .i64 k,xv] w fun e w'=>e = .returned (.tuple #[])∧DSG w0 w p S w' (P.sends kk ls) g:=by
 have h:=hG.toD
 have hk:kk<2:=U▸qkf k
 have o:1-kk<2:=by omega
 have H0:=qb h
 obtain⟨T,u,hD⟩:=hG
 clear h
 have hs:=fun W=>qja (wrap64 (k+1)) W
 rw[zby,U] at hs
 have K:=(hs w)
 obtain⟨j,hj⟩:∃j,j=1-kk:=⟨_,rfl⟩
 have a4:P.sends kk ls=P.setWay2 j (P.way j++ls):=by unfold Pr.sends;rw[←hj]
 rw[←hj] at hs K o v
 rw[a4]
 have b3:(j:Int)<2:=by omega
 have HX:=qb hx
 have HD:=qb hD
 have HF:=qb v
 obtain⟨xa,xc,M⟩:=hx.shape
 have O:=qb M
 rw[M]
 clear hx hD hs a4 hj M v
 go_enter Tryz.func43,Tryz.ntmps43
 go_wp2_with (with_reducible first|(first|refine' tw1 (qg ?_) ?_|refine' tw2 (qg ?_) ?_);rotate_left|refine' tw3 (qg ?_)|rfl|apply tn|refine' tw4 ?_)
 refine K.mono ?_
 rintro e w1 ⟨rfl,q⟩
 have n1:qu w w1:=q.upd _
 have i:=(qa HD).new n1
 have c1:=i.cellW o
 have I:=i.row j o
 have C:=i.ok j o
 have z:=(qa HX).new n1
 rw[qa O] at z
 obtain⟨ua,uc,hu⟩:=I.shape
 have a7:=i.n.size
 rw[hu] at c1
 have J:=I.new (Upd.refl (fun _=>False) w1).drew
 have Z:=z.new (Upd.refl (fun _=>False) w1).drew
 rw[hu] at J
 have fz:w1.frozen? ⟨p,2+j,none⟩=false:=qv i.at_ (2+j)
 have HR:=qb J
 have HO:=qb C
 have HS:=qb Z
 have HN:=qb n1
 have HU:=qb hu
 have a6:=qb i
 clear K q I C z n1 hu HX O J Z i HD
 go_wp2_with (first | (at_builtin;refine q8q rfl (.tmp 17) (.tmp 18) rfl w0.heap.size _ rfl (P.way j) (qa HR) (qa HO) ls V _ rfl (qa HS) ?few ?base ?_) | (with_reducible first|(first|refine' tw1 (qg ?_) ?_|refine' tw2 (qg ?_) ?_);rotate_left|refine' tw3 (qg ?_)|rfl|apply tn|refine' tw4 ?_))
 case few=>exact qa HF
 case base=>exact a7
 intro v' w3 H N t
 have N:=N.ofDrew
 rw[←qa HU] at N t
 have i:=qa a6
 have R:=i.putWay o N H (fun b F=>by
  rcases t with e | e
  ·exact .inl (e▸F)
  ·rw[e] at F;injection F with F;exact .inr (by rw[←F];exact Nat.le_refl _)) (fun m hm=>(List.mem_append.1 hm).elim (qa HO m) (V m))
 have a9:(u j).ownBlock≠some p:=i.uP o
 have E:=N.old i.at_ a9
 have c3:w3.cell? ⟨p,2+j,none⟩=some (u j):=by
  rw[qh E (2+j)];rcases qb1 o with rfl | rfl<;>rfl
 rw[qa HU] at c3
 have f3:w3.frozen? ⟨p,2+j,none⟩=false:=qv E (2+j)
 have uE:Upd (· = p) w3 (w3.setCell ⟨p,2+j,none⟩ v'):=(Upd.refl _ _).set1 (2+j) _
 have a5:DSG w0 w1 p S (w3.setCell ⟨p,2+j,none⟩ v') (P.setWay2 j (P.way j++ls)) g:=⟨⟨_,_,R⟩,(N.mono (fun b _ F=>i.uS j o b F)).trans (uE.mono (fun b _ e=>by rw[e];exact i.pS))⟩
 have a8:=qa HN
 have Y:=i.lt
 obtain⟨va,vc,L⟩:=H.shape
 have HV:=qb L
 have D:=qb a5
 clear H N t R E uE a5 i Y c1 fz
 rw[L] at D ⊢
 clear L
 go_wp2_with (with_reducible first|(first|refine' tw1 (qg ?_) ?_|refine' tw2 (qg ?_) ?_);rotate_left|refine' tw3 (qg ?_)|rfl|apply tn|refine' tw4 ?_)
 go_end0
 rw[List.length_append] at D
 exact⟨rfl,DSG.after (qa H0) a8 (qa D)⟩
theorem qtz{w0 w:World}{p:Nat}{S:Nat→Prop}{P:Pr}(h:DuD w0 w p S P)(k:Int)(kk:Nat)(m:sd k=kk)(ls:List MsgV)(o:∀l∈ls,MsgOk l)(q:Value)(z:qmh w q ls)(i:(P.way (1-kk)).length+ls.length≤1000000) :
  Calls Tryz.prog 43 #[.pointer (some ⟨p,0,none⟩),.int .i64 k,q] w fun e w'=>e = .returned (.tuple #[])∧DSt w0 w p S w' (P.sends kk ls):=by
 obtain⟨g,v⟩:=h.toG
 exact(qmk v k kk m ls o q z i).mono fun e w' t=>⟨t.1,t.2.toD⟩
attribute [local go_sem ↓ high] zr zu zw zx qd4
attribute [local go_sem] qb3 qb9 qcf qkw zb
theorem DuP.apart{w0 w:World}{p:Nat}{S:Nat→Prop}{P:Pr}{g:Nat→Nat}{T:Nat→Nat→Prop}{u:Nat→Value}(h:DuP w0 w p S P g T u)(t:Tb w0){k:Nat}(l:k<2):Apart (T k):=q8p t (fun b i=>(h.lt b (h.tS k l b i)).1)
theorem DuD.opEnd{w0 w:World}{p:Nat}{S:Nat→Prop}{P:Pr}(h:DuD w0 w p S P)(t:Tb w0){k:Nat}(i:k<2):∃g l,w.cell? ⟨p,k,none⟩=some (.pointer (some ⟨g,0,none⟩))∧ChS w g l (P.en k)∧Apart l∧Tb w∧∀w' c',ChS w' g (Fr l w w') c'→Upd l w w'→DSt w0 w p S w' (P.set k c'):=by
 obtain⟨g,T,u,h⟩:=h;exact⟨g k,T k,h.cellE i,h.en k i,h.apart t i,t.new h.n,fun w' c' q m=>⟨⟨_,_,_,h.op i q m⟩,m.mono (fun b _ o=>h.tS k i b o)⟩⟩
theorem DSt.ofDrew{w0 w w':World}{p:Nat}{S:Nat→Prop}{Q:Pr}(a:DSt w0 w.drew p S w' Q):DSt w0 w p S w' Q:=⟨a.1,a.2.ofDrew⟩
def Pr.took(P:Pr)(k:Nat)(c':Ch)(ms:List MsgV):Pr:=(P.set k c').setWay2 k ms
theorem q27(P:Pr)(k:Nat)(c':Ch)(ms:List MsgV):(P.setWay2 k ms).set k c'=P.took k c' ms:=by
 unfold Pr.took Pr.set Pr.setWay2;by_cases h:k=0
 ·simp[h]
 ·simp[h]
set_option maxRecDepth 100000 in
set_option maxHeartbeats 2000000 in
theorem qtx{w0 w:World}{p:Nat}{S:Nat→Prop}{P:Pr}(hT:Tb w0)(h:DuD w0 w p S P)(k:Int)(kk:Nat)(a7:sd k=kk)(m:MsgV)(ms:List MsgV)(hw:P.way kk=m::ms)(c':Ch)(ls:List MsgV)(n:Int)(b9:∀l∈ls,MsgOk l)
  (hH:∀(W:World) (g:Nat) (S':Nat→Prop),ChS W g S' (P.en kk)→Apart S'→Tb W→Calls Tryz.prog 41 #[.pointer (some ⟨g,0,none⟩),.agg m.cells.toArray] W (qhd g S' W c' ls n)) :
  Calls Tryz.prog 38 #[.pointer (some ⟨p,0,none⟩),.int .i64 k] w fun e w'=>∃v,e = .returned (.tuple #[v,.int .i64 n])∧qmh w' v ls∧DSt w0 w p S w' (P.took kk c' ms):=by
 have Y:kk<2:=a7▸qkf k
 have E:=qb h
 obtain⟨g,T,u,H⟩:=h
 have U:=qja k w
 rw[a7] at U
 have hm:MsgOk m:=H.ok kk Y m (by rw[hw];exact List.mem_cons_self)
 have a8:∀l∈ms,MsgOk l:=fun l hl=>H.ok kk Y l (by rw[hw];exact List.mem_cons_of_mem _ hl)
 have hr:=H.row kk Y
 rw[hw] at hr
 obtain⟨gb,o,cap,V,c5,K,C⟩:=hr.cons hm.len
 have c:=H.cellW Y
 rw[V] at c
 have b3:(u kk).ownBlock=some gb:=by rw[V];rfl
 have c6:(kk:Int)<2:=by omega
 have b8:(0:Int)<((ms.length+1:Nat):Int):=by omega
 have H:=qb H
 have HU:=qb (And.intro V b3)
 have HT:=qb C
 have b5:=qb a8
 have c0:=hm.len
 clear hr V b3 C a8 hm hw
 go_enter Tryz.func38,Tryz.ntmps38
 go_wp2_with (with_reducible first|(first|refine' tw1 (qg ?_) ?_|refine' tw2 (qg ?_) ?_);rotate_left|refine' tw3 (qg ?_)|rfl|apply tn|refine' tw4 ?_)
 refine U.mono ?_
 rintro e w1 ⟨rfl,q⟩
 have n1:qu w w1:=q.upd _
 have c1:=n1.cell c (fun h=>h)
 have O:=qa9 K n1 (fun h=>h)
 obtain⟨c3,hA,nA⟩:=qhq w1 m c0
 have N1:=qb n1
 clear U q n1 c K
 go_upto_region 3 with (with_reducible first|(first|refine' tw1 (qg ?_) ?_|refine' tw2 (qg ?_) ?_);rotate_left|refine' tw3 (qg ?_)|rfl|apply tn|refine' tw4 ?_)
 change Code.wp _ _ _ _ (qh8 w1 m)
 have n2:=(qa N1).trans nA
 have c2:=nA.cell c1 (fun h=>h)
 have HA:=qb hA
 have N2:=qb n2
 have a4:=z6 hA.at_
 have c4:=(qa N1).size
 clear c3 c1 O nA hA n2 N1
 generalize qh8 w1 m=D at HA N2 c2 a4 ⊢
 generalize w1.heap.size=A at HA a4 c4 ⊢
 have t:=(qa H).new (qa N2)
 have f2:D.frozen? ⟨p,2+kk,none⟩=false:=qv t.at_ (2+kk)
 have b7:((ms.length+1:Nat):Int)≤(cap:Int):=by omega
 clear t
 go_upto_region 4 with (with_reducible first|(first|refine' tw1 (qg ?_) ?_|refine' tw2 (qg ?_) ?_);rotate_left|refine' tw3 (qg ?_)|rfl|apply tn|refine' tw4 ?_)
 obtain⟨I,X⟩:∃I,I=Value.slice (if cap=1 then some (⟨gb,o,none⟩:Addr) else some ⟨gb,o+38,none⟩) ms.length (cap-1):=⟨_,rfl⟩
 rw[←X] at HT ⊢
 have b4:∀b,I.ownBlock=some b→(u kk).ownBlock=some b:=by
  intro b N;rw[(qa HU).2];rw[X] at N;by_cases h1:cap=1
  ·rw[if_pos h1] at N;exact N
  ·rw[if_neg h1] at N;exact N
 have t:=(qa H).new (qa N2)
 have a5:=t.putWay Y (Upd.refl _ D) ((qa HT).new (qa N2)) (fun b N=> .inl (b4 b N)) (qa b5)
 have uE:Upd (· = p) D (D.setCell ⟨p,2+kk,none⟩ I):=(Upd.refl _ _).set1 (2+kk) _
 have b6:A≠p:=fun e=>by have:=(qa H).up;omega
 have F:=(qa HA).upd uE b6
 have i:DSt w0 D p S (D.setCell ⟨p,2+kk,none⟩ I) (P.setWay2 kk ms):=⟨⟨_,_,_,a5⟩,uE.mono (fun b _ e=>by rw[e];exact t.pS)⟩
 have nE:qu (D.setCell ⟨p,2+kk,none⟩ I) (D.setCell ⟨p,2+kk,none⟩ I).drew:=(Upd.refl _ _).drew
 have i:=(DSt.after (qa E) (qa N2) i).then (qa E).n.size (qa E).lt nE
 replace F:=F.new nE
 have M:=qb F
 have H3:=qb (show DSt w0 w p S (D.setCell ⟨p,2+kk,none⟩ I).drew (P.setWay2 kk ms) from i)
 clear b4 t uE F i X HT HU f2 c2 HA nE a5
 generalize (D.setCell ⟨p,2+kk,none⟩ I).drew=w3 at H3 M ⊢
 have nd:qu w3 w3.drew:=(Upd.refl _ _).drew
 obtain⟨ge,SE,ce,hE,J,a6,a9⟩:=((qa H3).1.new nd).opEnd hT Y
 rw[P.en_setWay] at hE
 have hh:=hH w3.drew ge SE hE J a6
 have ce:w3.cell? ⟨p,kk,none⟩=some (.pointer (some ⟨ge,0,none⟩)):=ce
 have rA:=(qa M).row
 have Z:=qb a9
 clear hH nd hE J a6 a9
 go_wp2_with (with_reducible first|(first|refine' tw1 (qg ?_) ?_|refine' tw2 (qg ?_) ?_);rotate_left|refine' tw3 (qg ?_)|rfl|apply tn|refine' tw4 ?_)
 refine hh.mono ?_
 rintro e w4 ⟨v,rfl,z,hc,V⟩
 have L:qmh w4 v ls:=q4x (fun l hl=>(b9 l hl).len) z
 have R:=(qa Z w4 c' hc V).ofDrew
 rw[q27] at R
 have HS:=qb (And.intro L (DSt.trans (qa E) (qa H3) R))
 clear L R hh z hc V Z H3 M rA ce
 go_wp2_with (with_reducible first|(first|refine' tw1 (qg ?_) ?_|refine' tw2 (qg ?_) ?_);rotate_left|refine' tw3 (qg ?_)|rfl|apply tn|refine' tw4 ?_)
 go_ret2
 exact⟨v,rfl,qa HS⟩
end Go.Proofs.YthnohmjbbeahmaaGreatDoor
namespace Go.Proofs.YthnohmjbbeahmaaGreatDoor
open Go.RowKit
theorem DuD.bad{w0 w:World}{p:Nat}{S:Nat→Prop}{P Q:Pr}(h:DuD w0 w p S P)(o:Q.a=P.a)(q:Q.b=P.b)(i:Q.wa=P.wa)(l:Q.wb=P.wb):DuD w0 w p S Q:=by
 obtain⟨a,b,wa,wb,bad⟩:=P;obtain⟨z,C,t,v,m⟩:=Q;subst o q i l;obtain⟨g,T,u,h⟩:=h;exact⟨g,T,u,h.at_,h.en,h.row,h.ok,h.sep,h.pT,h.uT,h.usep,h.pS,h.tS,h.uS,h.lt,h.n⟩
theorem DSt.bad{w0 w w':World}{p:Nat}{S:Nat→Prop}{P Q:Pr}(h:DSt w0 w p S w' P)(l:Q.a=P.a)(m:Q.b=P.b)(g:Q.wa=P.wa)(i:Q.wb=P.wb):DSt w0 w p S w' Q:=⟨h.1.bad l m g i,h.2⟩
theorem qmn{P:Pr}{k:Nat}(i:k<2){m:MsgV}{ms:List MsgV}(g:P.way k=m::ms):(((P.took k ((P.en k).hears m).1 ms).sends k ((P.en k).hears m).2.1).a=((P.heard k).1).a∧((P.took k ((P.en k).hears m).1 ms).sends k ((P.en k).hears m).2.1).b=((P.heard k).1).b ∧
  ((P.took k ((P.en k).hears m).1 ms).sends k ((P.en k).hears m).2.1).wa=((P.heard k).1).wa∧((P.took k ((P.en k).hears m).1 ms).sends k ((P.en k).hears m).2.1).wb=((P.heard k).1).wb)∧(P.heard k).2=true:=by
 obtain⟨a,b,wa,wb,bad⟩:=P
 rcases qb1 i with rfl | rfl
 ·have g:wa=m::ms:=g;subst g;exact⟨⟨rfl,rfl,rfl,rfl⟩,rfl⟩
 ·have g:wb=m::ms:=g;subst g;exact⟨⟨rfl,rfl,rfl,rfl⟩,rfl⟩
structure HearsOk(P:Pr)(k:Nat)(m:MsgV)(ms:List MsgV):Prop where
 way:P.way k=m::ms
 hok:P.Hok k
 err:((P.en k).hears m).2.2=0
theorem HearsOk.parts{P:Pr}{k:Nat}{m:MsgV}{ms:List MsgV}(h:HearsOk P k m ms)(l:k<2):MsgOk m∧HeardOk (P.en k) m (P.way (1-k))∧ms.length<1000000:=by
 obtain⟨g,i,-⟩:=h;obtain⟨a,b,wa,wb,bad⟩:=P;rcases qb1 l with rfl | rfl
 ·have g:wa=m::ms:=g;subst g;exact i
 ·have g:wb=m::ms:=g;subst g;exact i
set_option maxRecDepth 100000 in
set_option maxHeartbeats 1000000 in
theorem q1l{w0 w:World}{p:Nat}{S:Nat→Prop}{P:Pr}(hT:Tb w0)(h:DuD w0 w p S P)(k:Int)(kk:Nat)(E:sd k=kk)(m:MsgV)(ms:List MsgV)(ho:HearsOk P kk m ms) :
  Calls Tryz.prog 23 #[.pointer (some ⟨p,0,none⟩),.int .i64 k] w fun e w'=>e = .returned (.int .i64 0)∧DSt w0 w p S w' (P.heard kk).1:=by
 have O:kk<2:=E▸qkf k
 obtain⟨hm,l,a6⟩:=ho.parts O
 obtain⟨U,-,I⟩:=ho
 obtain⟨⟨t1,t2,t3,t4⟩,-⟩:=qmn O U
 have i:=fun(W:World) (n:qu w W)=>qtx hT (h.new n) k kk E m ms U ((P.en kk).hears m).1 ((P.en kk).hears m).2.1 ((P.en kk).hears m).2.2 l.says (fun W g S' hc ha ht=>qor g S' (P.en kk) m hm W hc l.inv ht ha l.kind l.last)
 have R:(P.took kk ((P.en kk).hears m).1 ms).way (1-kk)=P.way (1-kk):=by
  unfold Pr.took;rw[Pr.way_setWay _ _ O (by omega)];unfold at2;rw[if_neg (by omega),Pr.way_set]
 have o:=l.few
 rw[←R] at o
 have z:=l.says
 rw[I] at i
 have H:∀(w':World),DSt w0 w p S w' ((P.took kk ((P.en kk).hears m).1 ms).sends kk ((P.en kk).hears m).2.1)→DSt w0 w p S w' (P.heard kk).1:=fun _ h=>h.bad t1.symm t2.symm t3.symm t4.symm
 have L:=qb H
 generalize a4:((P.en kk).hears m).2.1=ls at *
 generalize (P.took kk ((P.en kk).hears m).1 ms)=P2 at *
 generalize (P.heard kk).1=P3 at *
 have X:=qb h
 obtain⟨g,T,u,Y⟩:=h
 have K:=fun W=>qja k W
 rw[E] at K
 have hr:=Y.row kk O
 rw[U] at hr
 obtain⟨ua,uc,hu⟩:=hr.shape
 have c:=Y.cellW O
 rw[hu] at c
 have a5:(kk:Int)<2:=by omega
 have t:¬(((m::ms).length:Nat):Int)=0:=by simp;omega
 have J:((((m::ms).length:Nat):Int)==0)=false:=beq_eq_false_iff_ne.2 t
 generalize (m::ms).length=nl at c t J
 have F:=qb o
 have M:=qb z
 clear Y hr hu U a4 o z t1 t2 t3 t4 H l R I hm t
 go_enter Tryz.func23,Tryz.ntmps23
 go_wp2_with (with_reducible first|(first|refine' tw1 (qg ?_) ?_|refine' tw2 (qg ?_) ?_);rotate_left|refine' tw3 (qg ?_)|rfl|apply tn|refine' tw4 ?_)
 refine(K _).mono ?_
 rintro e w1 ⟨rfl,q⟩
 have V:qu w w1:=q.ofDrew.upd _
 have c1:=V.cell c (fun h=>h)
 have hh:=i w1 V
 have N1:=qb V
 clear K q V c i
 go_wp2_with (with_reducible first|(first|refine' tw1 (qg ?_) ?_|refine' tw2 (qg ?_) ?_);rotate_left|refine' tw3 (qg ?_)|rfl|apply tn|refine' tw4 ?_)
 refine hh.mono ?_
 rintro e w2 ⟨v,rfl,C,D⟩
 have K:=qtz D.1 k kk E ls (qa M) v C (qa F)
 have H2:=qb (DSt.after (qa X) (qa N1) D)
 have Z:=qb (And.intro D (qa N1))
 obtain⟨va,vc,hv⟩:=C.shape
 clear hh D F M c1 C
 subst hv
 go_wp2_with (with_reducible first|(first|refine' tw1 (qg ?_) ?_|refine' tw2 (qg ?_) ?_);rotate_left|refine' tw3 (qg ?_)|rfl|apply tn|refine' tw4 ?_)
 refine K.mono ?_
 rintro e w3 ⟨rfl,N⟩
 have HF:=qb (DSt.after (qa X) (qa Z).2 (DSt.trans ((qa X).new (qa Z).2) (qa Z).1 N))
 clear K H2 Z N
 go_wp2_with (with_reducible first|(first|refine' tw1 (qg ?_) ?_|refine' tw2 (qg ?_) ?_);rotate_left|refine' tw3 (qg ?_)|rfl|apply tn|refine' tw4 ?_)
 go_ret
 exact⟨rfl,qa L _ (qa HF)⟩
structure HearOne(c:Ch)(m:MsgV):Prop where
 ok:MsgOk m
 inv:c.Inv
 kind:3≤m.kind∧m.kind≤9
 last:c.last.length≤900000
 says:∀l∈(c.hears m).2.1,MsgOk l
 few:(c.hears m).2.1.length≤1000000
 err:(c.hears m).2.2=0
section
variable {K:Kon}{n k:Nat}{P Q:Pr}
theorem qrl(w:K.Ok)(z:n<100000)(h:PInv K n Q)(q:k<2){m:MsgV}{ms:List MsgV}(l:Q.way k=m::ms):HearOne (Q.en k) m∧(Q.heard k).1.en k=((Q.en k).hears m).1:=by
 have C:=h.hok w z q;have D:=(h.side q).1;have i:=(h.heard w z q).bad;obtain⟨a,b,wa,wb,bad⟩:=Q;have o:bad=false:=h.bad;subst o;rcases qb1 q with rfl | rfl
 ·have l:wa=m::ms:=l;subst l;obtain⟨t,g,-⟩:=C;have i:(false || decide ((a.hears m).2.2≠0))=false:=i;rw[Bool.false_or] at i;have v:=Decidable.not_not.1 (of_decide_eq_false i);exact⟨⟨t,g.inv,g.kind,g.last,g.says,Nat.le_trans (Nat.le_add_left _ _) g.few,v⟩,rfl⟩
 ·have l:wb=m::ms:=l;subst l;obtain⟨t,g,-⟩:=C;have i:(false || decide ((b.hears m).2.2≠0))=false:=i;rw[Bool.false_or] at i;have v:=Decidable.not_not.1 (of_decide_eq_false i);exact⟨⟨t,g.inv,g.kind,g.last,g.says,Nat.le_trans (Nat.le_add_left _ _) g.few,v⟩,rfl⟩
theorem qty{α:Type}{l:List α}{i:Nat}(h:i<l.length):∃m,l.drop i=m::l.drop (i+1):=⟨_,List.drop_eq_getElem_cons h⟩
theorem zih(l:K.Ok)(E:n<60000)(h:PInv K n P){i:Nat}(z:i<P.wa.length):∃m ms,(P.lets i 0).way 0=m::ms∧HearOne ((P.lets i 0).en 0) m∧(P.lets i 0).took 0 (((P.lets i 0).en 0).hears m).1 ms=P.lets (i+1) 0:=by
 obtain⟨m,o⟩:=qty z;obtain⟨r,t,v,D⟩:=qhm P i;obtain⟨F,q,-,-⟩:=qhm P (i+1);have w:=h.heardN l (by omega) (k:=0) (by decide) i;obtain⟨C,g⟩:=qrl l (by omega) w (k:=0) (by decide) (m:=m) (ms:=P.wa.drop (i+1)) (by rw[←o];exact v);refine⟨m,P.wa.drop (i+1),o,C,?_⟩;show (⟨((P.heardN 0 i).a.hears m).1,(P.heardN 0 i).b,P.wa.drop (i+1),P.wb.drop 0,false⟩:Pr)=⟨(P.heardN 0 (i+1)).a,(P.heardN 0 (i+1)).b,P.wa.drop (i+1),P.wb.drop 0,false⟩;rw[q,t];have g:(P.heardN 0 (i+1)).a=((P.heardN 0 i).a.hears m).1:=g;rw[g]
theorem zii(g:K.Ok)(J:n<60000)(h:PInv K n P)(i:Nat){j:Nat}(w:j<P.wb.length):∃m ms,(P.lets i j).way 1=m::ms∧HearOne ((P.lets i j).en 1) m∧(P.lets i j).took 1 (((P.lets i j).en 1).hears m).1 ms=P.lets i (j+1):=by
 obtain⟨m,q⟩:=qty w;obtain⟨r,H,I,o⟩:=qhm P i;have z:j≤(P.heardN 0 i).wb.length:=by rw[o,List.length_append];omega
 obtain⟨L,E,t,F⟩:=qmm (P.heardN 0 i) j z;have v:=(h.heardN g (by omega) (k:=0) (by decide) i).heardN g (by omega) (k:=1) (by decide) j;have C:((P.heardN 0 i).heardN 1 j).way 1=m::(P.wb.drop (j+1)++r):=by
  show ((P.heardN 0 i).heardN 1 j).wb=_;rw[t,o,List.drop_append_of_le_length (by omega),q];rfl
 obtain⟨D,l⟩:=qrl g (by omega) v (k:=1) (by decide) C;refine⟨m,P.wb.drop (j+1),q,D,?_⟩;show (⟨(P.heardN 0 i).a,(((P.heardN 0 i).heardN 1 j).b.hears m).1,P.wa.drop i,P.wb.drop (j+1),false⟩:Pr)=⟨(P.heardN 0 i).a,((P.heardN 0 i).heardN 1 (j+1)).b,P.wa.drop i,P.wb.drop (j+1),false⟩;have l:((P.heardN 0 i).heardN 1 (j+1)).b=(((P.heardN 0 i).heardN 1 j).b.hears m).1:=l;rw[l]
theorem q60(h:P.bad=false):P.lets 0 0=P:=by
 obtain⟨a,b,wa,wb,bad⟩:=P;have h:bad=false:=h;subst h;rfl
theorem qmp(c:Ch){m:MsgV}(h:m.kind=9):(c.hears m).1=c:=by
 unfold Ch.hears;rw[if_pos h];split<;>rfl
noncomputable def Pr.told(P:Pr):Pr:=⟨P.a.cut,P.b.cut,(P.b.cut.hears P.a.cut.again).2.1,(P.a.cut.hears P.b.cut.again).2.1,false⟩
theorem qyg(L:K.Ok)(M:n<60000)(h:PInv K n P):HearOne P.a.cut P.b.cut.again∧HearOne P.b.cut P.a.cut.again∧PInv K n P.told∧(((P.cuts.heard 0).1).heard 1).1=P.told:=by
 obtain⟨F,H,D,I,J⟩:=h.cut L M;have o:=D.bad;obtain⟨a,b,wa,wb,bad⟩:=P;have i:bad=false:=h.bad;subst i;have ea:(a.cut.hears b.cut.again).1=a.cut:=qmp _ rfl;have eb:(b.cut.hears a.cut.again).1=b.cut:=qmp _ rfl;have E:((((Pr.cuts ⟨a,b,wa,wb,false⟩).heard 0).1).heard 1).1=⟨(a.cut.hears b.cut.again).1,(b.cut.hears a.cut.again).1,[]++(b.cut.hears a.cut.again).2.1,(a.cut.hears b.cut.again).2.1,(false || decide ((a.cut.hears b.cut.again).2.2≠0)) || decide ((b.cut.hears a.cut.again).2.2≠0)⟩:=rfl;rw[E] at o;simp only[Bool.false_or,Bool.or_eq_false_iff] at o;have w:=Decidable.not_not.1 (of_decide_eq_false o.1);have z:=Decidable.not_not.1 (of_decide_eq_false o.2);obtain⟨-,g,-⟩:=F;obtain⟨-,m,-⟩:=H;have f2:=m.few;have q:b.cut.Inv:=m.inv;have t:b.cut.last.length≤900000:=m.last;have v:∀l∈(b.cut.hears a.cut.again).2.1,MsgOk l:=m.says;have f2:_+(b.cut.hears a.cut.again).2.1.length≤1000000:=f2;have C:((((Pr.cuts ⟨a,b,wa,wb,false⟩).heard 0).1).heard 1).1=Pr.told ⟨a,b,wa,wb,false⟩:=by
  rw[E,w,z,ea,eb];rfl
 refine⟨⟨J,g.inv,g.kind,g.last,g.says,?_,w⟩,⟨I,q,⟨by show (3:Int)≤9;decide,by show (9:Int)≤9;decide⟩,t,v,?_,z⟩,?_,C⟩
 ·exact Nat.le_trans (Nat.le_add_left _ _) g.few
 ·exact Nat.le_trans (Nat.le_add_left _ _) f2
 ·rw[←C];exact D
def qed(l:List MsgV)(x:Int):Nat:=l.length-min (x.toNat) l.length
noncomputable def Pr.cutD(P:Pr)(x y:Int):Pr:=((P.heardN 0 (qed P.wa x)).heardN 1 (qed P.wb y)).told
theorem PInv.cutD(g:K.Ok)(i:n<60000)(h:PInv K n P)(x y:Int):PInv K n (P.cutD x y) :=
 (qyg g i ((h.heardN g (by omega) (k:=0) (by decide) _).heardN g (by omega) (k:=1) (by decide) _)).2.2.1
theorem zg3(P:Pr){i j:Nat}(w:j≤P.wb.length):((P.heardN 0 i).heardN 1 j).a=(P.lets i j).a∧((P.heardN 0 i).heardN 1 j).b=(P.lets i j).b:=by
 obtain⟨r,t,v,l⟩:=qhm P i;have m:j≤(P.heardN 0 i).wb.length:=by rw[l,List.length_append];omega
 obtain⟨z,g,o,q⟩:=qmm (P.heardN 0 i) j m;exact⟨g,rfl⟩
theorem PInv.few(h:PInv K n P):P.wa.length≤500∧P.wb.length≤500:=by
 have g:=h.mu;have e:∀l:List MsgV,l.length≤mwL l:=by
  intro l
  induction l with
  | nil=>exact Nat.le_refl _
  | cons m l o =>
   have e0:mwL (m::l)=mwt m+mwL l:=rfl;have i:1≤mwt m:=by unfold mwt;split<;>decide
   rw[e0,List.length_cons];omega
 have:=e P.wa;have:=e P.wb;unfold Pr.mu at g;omega
end
attribute [local go_sem ↓ high] zr zu zw zx qd4
attribute [local go_sem] qb3 qb9 qcf qkw zb qbg
def qo2(r:Ch × MsgV × Int):MsgV:=if r.2.2=0 then r.2.1 else MsgV.zero
theorem q43{P:Pr}{k:Nat}(g:k<2){r:Ch × MsgV × Int}(h:r.2.2=0):(P.set k r.1).sends k [r.2.1]=P.act k r:=by
 obtain⟨c,m,e⟩:=r;obtain rfl:e=0:=h;rcases qb1 g with rfl | rfl<;>rfl
theorem q8k{P:Pr}{k:Nat}{r:Ch × MsgV × Int}(h:r.2.2≠0):P.set k r.1=P.act k r:=by
 obtain⟨c,m,e⟩:=r;unfold Pr.act Pr.say qd5;simp only at h;rw[if_neg h,if_neg h];split<;>rfl
theorem q8f(P:Pr)(k:Nat)(c:Ch):(P.set k c).way (1-k)=P.way (1-k):=P.way_set c _
theorem zep{w:World}{b:Nat}{m:MsgV}(h:MsB w b m):qmh w (.slice (some ⟨b,0,none⟩) 1 1) [m]:=by
 refine .inr ⟨_,1,rfl,fun j u i=> ?_⟩;have g:(⟨b,0,none⟩:Addr).add j=⟨b,j,none⟩:=by cases j<;>simp[Addr.add]
 rw[g,qh h.at_,List.getElem?_toArray];simpa using i
theorem DSt.fin{w0 w w':World}{p:Nat}{S l:Nat→Prop}{P i:Pr}(h:DuD w0 w p S P)(d:DuD w0 w' p l i)(m:∀b,l b→S b∨w.heap.size≤b)(U:Upd (fun b=>S b∨w.heap.size≤b) w w'):DSt w0 w p S w' i:=by
 have o:=h.n.size;have q:=U.size;refine⟨d.wider (fun b g=>(m b g).imp id (fun e=>⟨e,(d.lt b g).2⟩)) ?_,U.mono ?_⟩
 ·rintro b (e | e)
  ·exact⟨(h.lt b e).1,by have:=(h.lt b e).2;omega⟩
  ·exact⟨by omega,e.2⟩
 ·rintro b g (e | e)
  ·exact e
  ·omega
set_option maxRecDepth 100000 in
set_option maxHeartbeats 2000000 in
theorem qna{w0 w:World}{p:Nat}{S:Nat→Prop}{P:Pr}(h:DuD w0 w p S P)(k:Int)(kk:Nat)(a7:sd k=kk)(F:FuncId)(fs D:Array Value)(hE:∀args w,(callFunc F args).run Tryz.prog w = .ok (.enter F args) w)
  (r:Ch × MsgV × Int) (M:MsgOk r.2.1) (c9:(P.way (1-kk)).length<1000000)
  (hF:∀W,qu w W→Calls Tryz.prog F (fs++D) W fun e w'=>e = .returned (.tuple #[.agg r.2.1.cells.toArray,.int .i64 r.2.2])∧DSt w0 W p S w' (P.set kk r.1)) :
  Calls Tryz.prog 28 #[.pointer (some ⟨p,0,none⟩),.int .i64 k,.func (.func F) fs D] w fun e w'=>e = .returned (.tuple #[.agg (qo2 r).cells.toArray,.int .i64 r.2.2])∧DSt w0 w p S w' (P.act kk r):=by
 have hk:kk<2:=a7▸qkf k
 have i:=M.len
 have X:=qbx w MsgV.zero qs
 have n1:qu w (w.alloc (.cells MsgV.zero.cells.toArray 71)):=(Upd.refl _ _).alloc _
 go_enter Tryz.func28,Tryz.ntmps28
 go_upto_region 1 with (with_reducible first|(first|refine' tw1 (qg ?_) ?_|refine' tw2 (qg ?_) ?_);rotate_left|refine' tw3 (qg ?_)|rfl|apply tn|refine' tw4 ?_)
 generalize w.alloc (.cells MsgV.zero.cells.toArray 71)=w1 at X n1 ⊢
 obtain⟨B,hB⟩:∃B,B=w.heap.size:=⟨_,rfl⟩
 rw[←hB] at X ⊢
 have L:¬S B:=fun e=>by have:=(h.lt B e).2;omega
 have c7:=X.lt
 have a6:=hF w1 n1
 have d2:=h.n.size
 have c8:w.heap.size≤B:=by omega
 clear hB hF
 have H:=qb h
 have N1:=qb n1
 have B6:=qb X
 clear h n1 X
 go_wp2_with (with_reducible first|(first|refine' tw1 (qg ?_) ?_|refine' tw2 (qg ?_) ?_);rotate_left|refine' tw3 (qg ?_)|rfl|apply tn|refine' tw4 ?_)
 refine a6.mono ?_
 rintro e O ⟨rfl,C⟩
 have d3:=C.2.size
 have I:=(qa B6).upd C.2 L
 obtain⟨c1,hA,nA⟩:=qhq O r.2.1 i
 have o:=qb C
 have z:=qb (I.new nA)
 have U:=qb hA
 have K:=qb nA
 have a4:=hA.lt
 clear a6 C I hA nA B6
 go_upto_region 2 with (with_reducible first|(first|refine' tw1 (qg ?_) ?_|refine' tw2 (qg ?_) ?_);rotate_left|refine' tw3 (qg ?_)|rfl|apply tn|refine' tw4 ?_)
 change Code.wp _ _ _ _ (qh8 O r.2.1)
 clear c1
 generalize qh8 O r.2.1=R at U K z a4 ⊢
 have d4:=(qa K).size
 obtain⟨A,a5⟩:∃A,A=O.heap.size:=⟨_,rfl⟩
 rw[←a5] at U a4 ⊢
 have c6:A≠B:=by omega
 have c5:O.heap.size≤A:=by omega
 clear a5
 obtain⟨c,m,Y⟩:=r
 simp only at i o U M ⊢
 by_cases Z:Y=0
 ·subst Z;have rA:=(qa U).row;have d0:=m.len i;have b7:=qbx R m i;have n7:qu R (R.alloc (.cells m.cells.toArray 71)):=(Upd.refl _ _).alloc _;have v:=fun(W:World) (n:qu O W) (hs:qmh W (.slice (some ⟨R.heap.size,0,none⟩) 1 1) [m])=>qtz ((qa o).1.new n) k kk a7 [m] (fun l hl=>by rw[List.mem_singleton.1 hl];exact M) _ hs (by rw[q8f];simp;omega)
  have a9:=v _ ((qa K).trans n7) (zep b7);have V:=qb ((qa K).trans n7);have b4:=qb ((qa z).new n7);have b5:=qb ((qa U).new n7);clear b7 n7 v;have c0:=(qa H).lt;have b9:¬S A:=fun e=>by have:=(c0 A e).2;omega
  go_wp2_with (with_reducible first|(first|refine' tw1 (qg ?_) ?_|refine' tw2 (qg ?_) ?_);rotate_left|refine' tw3 (qg ?_)|rfl|apply tn|refine' tw4 ?_);refine a9.mono ?_;rintro e w5 ⟨rfl,t⟩;have c3:=(qa V).size;have b3:=(qa N1).size;have c2:=(qa H).n.size;have E:¬Fr S w1 O B:=by rintro (e | e);exact L e;omega
  have B5:=(qa b4).upd t.2 E;have A5:=(qa b5).upd t.2 (by rintro (e | e);exact b9 e;omega);have d5:=A5.row;have stB:=B5.stOk i;have T:=B5.put i;have N:Upd (· = B) w5 (w5.setCells B 0 m.cells):=zz _;have g:DSt w0 w p S (w5.setCells B 0 m.cells) (P.act kk (c,m,0)):=by
   rw[←q43 hk rfl];refine DSt.fin (qa H) (t.1.upd N (fun b e=> ?_)) ?_ ?_
   ·subst e;refine⟨?_,by omega⟩;rintro (e | e)
    ·exact E e
    ·omega
   ·rintro b ((e | e) | e)
    ·exact .inl e
    ·exact .inr (by omega)
    ·exact .inr (by omega)
   ·refine((((qa N1).mono (fun _ _ h=>h.elim)).trans ((qa o).2.mono (fun _ _ h=> .inl h))).trans ((qa V).mono (fun _ _ h=>h.elim))).trans ((t.2.mono ?_).trans (N.mono ?_))
    ·rintro b hb (e | e)
     ·exact .inl e
     ·exact .inr (by omega)
    ·rintro b hb rfl;exact .inr (by omega)
  have q:=qb g;have J:=qb T;clear a9 t B5 A5 T N g c3 b3 c2;go_wp2_with (with_reducible first|(first|refine' tw1 (qg ?_) ?_|refine' tw2 (qg ?_) ?_);rotate_left|refine' tw3 (qg ?_)|rfl|apply tn|refine' tw4 ?_);refine bodyPost_ret (qq rfl _ _ B _ _ _ _ rfl (qa J).at_ Tryz.underlying71 rfl (by rw[List.size_toArray,m.len i];exact Tryz.infoMsg)) rfl ?_;exact⟨rfl,qa q⟩
 ·have d1:(Y != 0)=true:=by simpa using Z
  have stB:=(qa z).stOk (k:=MsgV.zero) qs;have T:=(qa z).put (k:=MsgV.zero) qs;have N:Upd (· = B) R (R.setCells B 0 MsgV.zero.cells):=zz _;have g:DSt w0 w p S (R.setCells B 0 MsgV.zero.cells) (P.act kk (c,m,Y)):=by
   have c4:=(qa K).size;have b3:=(qa N1).size;rw[←q8k (r:=(c,m,Y)) Z];refine DSt.fin (qa H) (((qa o).1.new (qa K)).upd N (fun b e=> ?_)) ?_ ?_
   ·subst e;refine⟨?_,by omega⟩;rintro (e | e)
    ·exact L e
    ·omega
   ·rintro b (e | e)
    ·exact .inl e
    ·exact .inr (by omega)
   ·refine(((qa N1).mono (fun _ _ h=>h.elim)).trans ((qa o).2.mono (fun _ _ h=> .inl h))).trans (((qa K).mono (fun _ _ h=>h.elim)).trans (N.mono ?_));rintro b hb rfl;exact .inr (by omega)
  have q:=qb g;have J:=qb T;have a8:qo2 (c,m,Y)=MsgV.zero:=if_neg Z;have b8:=qb a8;clear T N g a8 Z;go_wp2_with (with_reducible first|(first|refine' tw1 (qg ?_) ?_|refine' tw2 (qg ?_) ?_);rotate_left|refine' tw3 (qg ?_)|rfl|apply tn|refine' tw4 ?_);refine bodyPost_ret (qq rfl _ _ B _ _ _ _ rfl (qa J).at_ Tryz.underlying71 rfl (by rw[List.size_toArray,MsgV.len _ qs];exact Tryz.infoMsg)) rfl ?_;exact⟨by rw[qa b8];rfl,qa q⟩
end Go.Proofs.YthnohmjbbeahmaaGreatDoor
namespace Go.Proofs.YthnohmjbbeahmaaGreatDoor
open Go.RowKit
attribute [local go_sem ↓ high] zr zu zw
attribute [local go_sem] qb3 qb9 qcf zb
theorem DuP.opE{w0 w:World}{p:Nat}{S:Nat→Prop}{P:Pr}{g:Nat→Nat}{T:Nat→Nat→Prop}{u:Nat→Value}(h:DuP w0 w p S P g T u)(t:Tb w0){k:Nat}(i:k<2):ChS w (g k) (T k) (P.en k)∧Apart (T k)∧Tb w∧∀w' c',ChS w' (g k) (Fr (T k) w w') c'→Upd (T k) w w'→DSt w0 w p S w' (P.set k c') :=
 ⟨h.en k i,h.apart t i,t.new h.n,fun w' c' o l=>⟨⟨_,_,_,h.op i o l⟩,l.mono (fun b _ m=>h.tS k i b m)⟩⟩
theorem qn6{r:Ch × MsgV × Int}(h:MsgOk r.2.1):(qo2 r).hash.length=32:=by
 unfold qo2;split
 ·exact h.len
 ·exact qs
theorem qe4(g:Fn)(first cap:Array Value)(w:World):(Instr.makeFunc g first cap).run Tryz.prog w = .ok (.func g first cap) w:=rfl
set_option maxRecDepth 100000 in
set_option maxHeartbeats 2000000 in
theorem qt0{w0 w:World}{p:Nat}{S:Nat→Prop}{P:Pr}(Z:Tb w0)(h:DuD w0 w p S P)(k:Int)(kk:Nat)(l:sd k=kk)(hok:SignOk (P.en kk))(m:MsgOk (P.en kk).sign.2.1)(o:(P.way (1-kk)).length<1000000) :
  Calls Tryz.prog 16 #[.pointer (some ⟨p,0,none⟩),.int .i64 k] w fun e w'=>e = .returned (.int .i64 (P.en kk).sign.2.2)∧DSt w0 w p S w' (P.act kk (P.en kk).sign):=by
 have hk:kk<2:=l▸qkf k
 have H:=qb h
 obtain⟨g,T,u,v⟩:=h
 have C:=fun W (n:qu w W)=>qnb (v.new n) k kk l
 have i:=fun W (n:qu w W)=>qna ((qa H).new n) k kk l 36 #[.pointer (some ⟨g kk,0,none⟩)] #[] (enters_of Tryz.func36 (by kernel_rfl) rfl) (P.en kk).sign m o (fun O n'=>by
  obtain⟨R,U,V,X⟩:=(v.new (n.trans n')).opE Z hk;exact(zcf _ _ _ O R V U hok.key hok.ch hok.few hok.xs).mono fun e w' z=>⟨z.1,X _ _ z.2.1 z.2.2⟩)
 have L:=qn6 m
 generalize P.act kk (P.en kk).sign=P' at i ⊢
 generalize qo2 (P.en kk).sign=M at i L
 generalize (P.en kk).sign=r at i ⊢
 generalize g kk=ge at i C
 have a4:=qe4
 have t:=C w (Upd.refl _ _)
 clear v C m o hok
 go_enter Tryz.func16,Tryz.ntmps16
 go_wp2_with (with_reducible first|(first|refine' tw1 (qg ?_) ?_|refine' tw2 (qg ?_) ?_);rotate_left|refine' tw3 (qg ?_)|rfl|apply tn|refine' tw4 ?_)
 refine t.mono ?_
 rintro e w1 ⟨rfl,q⟩
 have E:qu w w1:=q.upd _
 have i:=i w1 E
 have J:=qb E
 clear t q E
 go_wp2_with (with_reducible first|(first|refine' tw1 (qg ?_) ?_|refine' tw2 (qg ?_) ?_);rotate_left|refine' tw3 (qg ?_)|rfl|apply tn|refine' tw4 ?_)
 refine i.mono ?_
 rintro e F ⟨rfl,K⟩
 obtain⟨D,Y,N⟩:=qhq F M L
 have I:=qb ((DSt.after (qa H) (qa J) K).then (qa H).n.size (qa H).lt N)
 clear i K Y N J
 go_upto_region 2 with (with_reducible first|(first|refine' tw1 (qg ?_) ?_|refine' tw2 (qg ?_) ?_);rotate_left|refine' tw3 (qg ?_)|rfl|apply tn|refine' tw4 ?_)
 change Code.wp _ _ _ _ (qh8 F M)
 generalize qh8 F M=w3 at I ⊢
 clear D
 go_wp2_with (with_reducible first|(first|refine' tw1 (qg ?_) ?_|refine' tw2 (qg ?_) ?_);rotate_left|refine' tw3 (qg ?_)|rfl|apply tn|refine' tw4 ?_)
 go_ret
 exact⟨rfl,qa I⟩
end Go.Proofs.YthnohmjbbeahmaaGreatDoor
