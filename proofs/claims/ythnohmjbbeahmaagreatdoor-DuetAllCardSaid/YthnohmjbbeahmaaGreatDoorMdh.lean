/-
  Hear, of any message: Again too.
-/
import Derived.Test.YthnohmjbbeahmaaGreatDoorHAg
import Derived.Test.YthnohmjbbeahmaaGreatDoorMcj
import Derived.Test.YthnohmjbbeahmaaGreatDoorMdc
import Derived.Test.YthnohmjbbeahmaaGreatDoorCut
import Derived.Test.YthnohmjbbeahmaaGreatDoorMde
set_option linter.unusedVariables false
set_option linter.unusedSimpArgs false
namespace Go.Proofs.YthnohmjbbeahmaaGreatDoor
open Go.RowKit
def qd5(w:List MsgV)(m:MsgV)(e:Int):List MsgV:=if e=0 then w++[m] else w
def Ch.again(c:Ch):MsgV:=⟨9,c.s.ch,IntKind.u64.wrap c.k.told,0,zv,0,c.k.heard+1⟩
noncomputable def Ch.hears(c:Ch)(m:MsgV):Ch × List MsgV × Int :=
 if m.kind=9 then (if qac m=false∨m.ch≠c.s.ch then (c,[],1) else (c,(c.hearAgain m).1,(c.hearAgain m).2)) else c.hear m
theorem q11(g:Nat)(S:Nat→Prop)(c:Ch)(m:MsgV)(o:MsgOk m)(w:World)(h:ChS w g S c)(hok:qac m=true)(l:m.ch=c.s.ch)(z:m.kind=9)(v:Tb w)(i:c.last.length≤900000) :
  Calls Tryz.prog 41 #[.pointer (some ⟨g,0,none⟩),.agg m.cells.toArray] w (qhd g S w c (c.hearAgain m).1 (c.hearAgain m).2) :=
 qjx _ g S c _ _ _ m o w h hok l (enters_of Tryz.func87 (by kernel_rfl) rfl) (fun t=>by rw[z];exact zhb t) (fun W q=>qte g S c m o W (h.new q) (v.new q) i)
theorem qor(g:Nat)(S:Nat→Prop)(c:Ch)(m:MsgV)(q:MsgOk m)(w:World)(h:ChS w g S c)(D:c.Inv)(t:Tb w)(z:Apart S)(F:3≤m.kind∧m.kind≤9)(l:c.last.length≤900000) :
  Calls Tryz.prog 41 #[.pointer (some ⟨g,0,none⟩),.agg m.cells.toArray] w (qhd g S w (c.hears m).1 (c.hears m).2.1 (c.hears m).2.2):=by
 by_cases o:m.kind=9
 ·by_cases i:qac m=false∨m.ch≠c.s.ch
  ·have e:c.hears m=(c,[],1):=by unfold Ch.hears;rw[if_pos o,if_pos i]
   rw[e];refine(qyy g S c m q w h i).mono ?_;rintro e w' ⟨C,v⟩;exact⟨_,C,qc0.nil _ _,(h.new v).frW,v.mono (fun _ _ h=>h.elim)⟩
  ·have e:c.hears m=(c,(c.hearAgain m).1,(c.hearAgain m).2):=by unfold Ch.hears;rw[if_pos o,if_neg i]
   rw[e];have hok:qac m=true:=by
    cases E:qac m with
    | true=>rfl
    | false=>exact absurd (.inl E) i
   exact q11 g S c m q w h hok (Decidable.of_not_not (fun e=>i (.inr e))) o t l
 ·have e:c.hears m=c.hear m:=by unfold Ch.hears;rw[if_neg o]
  rw[e];exact q96 g S c m q w h D t z (by omega)
def Pr.en(P:Pr)(k:Nat):Ch:=if k=0 then P.a else P.b
def Pr.set(P:Pr)(k:Nat)(c:Ch):Pr:=if k=0 then {P with a:=c} else {P with b:=c}
def Pr.way(P:Pr)(k:Nat):List MsgV:=if k=0 then P.wa else P.wb
def Pr.say(P:Pr)(k:Nat)(m:MsgV)(e:Int):Pr:=if k=0 then {P with wb:=qd5 P.wb m e} else {P with wa:=qd5 P.wa m e}
noncomputable def Pr.heard0(P:Pr):Pr × Bool:=match P.wa with
 | []=>(P,false)
 | m::ms=>(⟨(P.a.hears m).1,P.b,ms,P.wb++(P.a.hears m).2.1,P.bad || decide ((P.a.hears m).2.2≠0)⟩,true)
noncomputable def Pr.heard1(P:Pr):Pr × Bool:=match P.wb with
 | []=>(P,false)
 | m::ms=>(⟨P.a,(P.b.hears m).1,P.wa++(P.b.hears m).2.1,ms,P.bad || decide ((P.b.hears m).2.2≠0)⟩,true)
noncomputable def Pr.heard(P:Pr)(k:Nat):Pr × Bool:=if k=0 then P.heard0 else P.heard1
structure HeardOk(c:Ch)(m:MsgV)(other:List MsgV):Prop where
 inv:c.Inv
 kind:3≤m.kind∧m.kind≤9
 says:∀l∈(c.hears m).2.1,MsgOk l
 few:other.length+(c.hears m).2.1.length≤1000000
 last:c.last.length≤900000
def qvk(c:Ch)(w other:List MsgV):Prop:=match w with | []=>True | m::ms=>MsgOk m∧HeardOk c m other∧ms.length<1000000
def Pr.Hok(P:Pr)(k:Nat):Prop:=if k=0 then qvk P.a P.wa P.wb else qvk P.b P.wb P.wa
abbrev Kp:=Nat × Array Value × TypeId
def q8h(w:World)(q:Kp):Prop:=w.heap[q.1]? = some (.cells q.2.1 q.2.2 (0,0))
section
variable {w0 w w':World}{p:Nat}{g:Nat→Nat}{P P':Pr}{Ks Ks':List Kp}{q r:Kp}{S T:Nat→Prop}
theorem q8h.upd(h:q8h w q)(u:Upd T w w')(n:¬T q.1):q8h w' q:=u.old h n
theorem q8h.lt(h:q8h w q):q.1<w.heap.size:=z6 h
end
section
variable {w0 w:World}{p:Nat}{g:Nat→Nat}{P:Pr}{Ks:List Kp}{k:Nat}
end
section
variable {K:Kon}{n:Nat}{s t:Bool}{c d:Ch}{eo ei es:List En}{G:List Gi}{la nu lb nv:List Nat}{g g':Gi}{j:Nat}
theorem q8r(pw:(G.map Gi.pk).Pairwise Apt){j k:Nat}{g y:Gi}(E:G[j]? = some g)(H:G[k]? = some y)(o:0≤g.so)(q:0≤y.so)(z:g.own=y.own)(w:g.h.id=y.h.id):j=k:=by
 obtain⟨C,i⟩:=List.getElem?_eq_some_iff.1 E;obtain⟨D,l⟩:=List.getElem?_eq_some_iff.1 H;have F:=List.pairwise_iff_getElem.1 pw;have v:∀(a b:Nat) (la:a<G.length) (lb:b<G.length),a<b→¬(0≤G[a].so∧0≤G[b].so∧G[a].own=G[b].own∧G[a].h.id=G[b].h.id):=by
  intro a b la lb m ⟨I,J,L,M⟩;have:=F a b (by rw[List.length_map];exact la) (by rw[List.length_map];exact lb) m;rw[List.getElem_map,List.getElem_map] at this;exact this ⟨decide_eq_true I,decide_eq_true J,L,M⟩
 rcases Nat.lt_trichotomy j k with h | h | h
 ·exact absurd ⟨by rw[i];exact o,by rw[l];exact q,by rw[i,l];exact z,by rw[i,l];exact w⟩ (v j k C D h)
 ·exact h
 ·exact absurd ⟨by rw[l];exact q,by rw[i];exact o,by rw[i,l];exact z.symm,by rw[i,l];exact w.symm⟩ (v k j D C h)
theorem q90(R:c.xs.Perm (G.filterMap (qm s).show))(pw:(G.map Gi.pk).Pairwise Apt)(v:∀g∈G,g.st ≠ -1→g.so ≠ -1)(q:∀g∈G,-1≤g.so)(F:G[j]? = some g){own:Bool}(l:(g.own==s)=own)(w:(if g.own=s then g.so else g.st)=4)(V:g.so ≠ -1) :
  ∃i,qbf own g.h.id c.xs=some (i,⟨g.h,own,4,false⟩):=by
 have P:=List.mem_of_getElem? F
 have W:(⟨g.h,own,4,false⟩:Live)∈c.xs:=by
  refine R.symm.subset (List.mem_filterMap.2 ⟨g,P,?_⟩);show qa6 (g.own==s) g.h (if g.own=s then g.so else g.st) g.paid=_;rw[l,w];unfold qa6;simp
 refine qx5 W rfl rfl rfl fun y X D C=> ?_
 obtain⟨k,z,o,M,N⟩:=qgg R X
 rw[M] at D C
 have m:(z.own==s)=own:=D
 have J:z.h.id=g.h.id:=C
 have I:g.own=z.own:=by
  rw[←l] at m;cases T:g.own<;>cases U:z.own<;>rw[T,U] at m<;>cases s<;>simp at m ⊢
 have E:=List.mem_of_getElem? o
 have L:0≤z.so:=by
  have Y:=q z E;have:z.so ≠ -1:=by
   intro e;by_cases O:z.own=s
   ·rw[if_pos O] at N;omega
   ·rw[if_neg O] at N;exact v z E (by omega) e
  omega
 have H:0≤g.so:=by have:=q g P;omega
 have:=q8r pw F o H L I J.symm
 subst this
 rw[F] at o
 injection o with o
 subst o
 rw[M,w,l]
 simp
def qbw(g:Gi):Gi:= {g with so:=5,up:=0,cov:=false}
theorem qw0(c:Ch)(i:Nat)(x:Live)(paid:Bool)(l:c.xs[i]? = some x)(m:x.state=4):(c.removed i x paid).sgnOf=c.sgnOf :=
 qi9 rfl rfl (qgi _ _ _ (q0l false c.loc c.rem (y:= {x with state:=5,paid:=paid}) l (.inl m) (.inr rfl)) (quf false (y:= {x with state:=5,paid:=paid}) l (.inl m) (.inr rfl) rfl rfl))
theorem qtg{P:Pt}(hK:K.Ok)(h:Inv K n P)(he:P.ei = .upd j::es)(m:P.G[j]? = some g)(v:g.own=P.s):Hears K n P (enM (!P.s) P.d P.G (.upd j)) (msE (!P.s) P.d P.G es):=by
 obtain⟨s,c,d,eo,ei,G,la,nu,lb,nv⟩:=P;obtain⟨ea,eb,ab,ba,it,ok,pw,few⟩:=h;simp only at ea eb ab ba it ok pw few he m v ⊢;subst he;have W:=List.mem_of_getElem? m;have b7:d.s.ch=K.ch:=by rw[eb.set];exact hK.ch _
 have T:c.s.ch=K.ch:=by rw[ea.set];exact hK.ch _
 have E:¬g.own = !s:=qhr v;have O:Gi.pend (!s) g=true:=ba.upd.yes (List.mem_cons_self ..) m;have D:g.up=2:=by unfold Gi.pend at O;rw[v] at O;simpa using O
 obtain⟨U,b6⟩:=ba.along.1 g m;have N:=it g W;rw[qdp v] at N;obtain⟨b3,b4⟩:=qtm _ N D (by
  show g.cov=true∨qay (qj es)=false;rw[U];cases qay (qj es)
  ·exact .inr rfl
  ·exact .inl rfl)
 have w:g.so=4:=b4;have b5:g.st=5∨g.st=6:=(qj3 _ N).2.2 D;have X:=(ok g W).um b5;have hM:enM (!s) d G (.upd j)=g.um:=by
  rw[qju m];unfold qp8;rw[if_neg E]
 rw[hM];have o:=qz7 hK.chb (ok g W) X;have H:=qgf it;obtain⟨b9,R⟩:=ba.shut;have V:Ids G (!s) c.k.nextTheirs (ups es) d.k.nextOwn:=by
  obtain⟨y,J,hb⟩:=ba.ids;rw[m] at J;injection J with J;subst J;rw[if_neg E] at hb;exact hb
 have C:(g.own==s)=true:=by rw[v];simp
 obtain⟨i,L⟩:=q90 ea.perm pw (fun y J h1 h2=>h1 ((H y J).2.2.1 h2).1) (fun y J=>(H y J).1.1) m C (by rw[if_pos v,w]) (by omega);obtain⟨hi,-,-,-⟩:=qga L;have e1:c.hear g.um=(c.removed i ⟨g.h,true,4,false⟩ g.paid,[],0):=by
  rcases X with ⟨p,e,-,-,a9,hp⟩ | ⟨r,e,-,-,hp⟩
  ·rw[qqg o.may (by rw[T];exact o.ch) (by rw[e];rfl)];have M:g.um.id=g.h.id:=by rw[e];rfl
   have a7:g.um.hash=p:=by rw[e];rfl
   unfold Ch.hearFulfill;rw[M,L];simp only;rw[a7,if_pos a9,hp]
  ·rw[qwd o.may (by rw[T];exact o.ch) (by rw[e];rfl)];have M:g.um.id=g.h.id:=by rw[e];rfl
   unfold Ch.hearFail;rw[M,L];simp only;rw[hp]
 refine⟨o,by show (c.hear _).2.2=0;rw[e1],?_,(by show ∀l∈(c.hear _).2.1,_;rw[e1];intro l hl;cases hl),by show (c.hear _).2.1.length≤1;rw[e1];exact Nat.zero_le _⟩;show ∃P',Goes K n _ (c.hear _).1 (_++(c.hear _).2.1) _ P';rw[e1];have I:=qw0 c i ⟨g.h,true,4,false⟩ g.paid hi rfl;have a8:j∉ups es:=(List.nodup_cons.1 ba.upd.nd).1;have b8:(G.set j (qbw g))[j]? = some (qbw g):=by rw[qf1 m,if_pos rfl]
 have q0:∀k,k≤4→oGe s k (qbw g)=oGe s k g:=fun k hk=>by unfold oGe qbw;rw[w,decide_eq_true hk,decide_eq_true (show k≤5 by omega)]
 have q1:∀k,oGe (!s) k (qbw g)=oGe (!s) k g:=fun k=>by unfold oGe qbw;rw[v];simp
 have q2:∀t k,pGe t k (qbw g)=pGe t k g:=fun _ _=>rfl
 have p1:Gi.pend s (qbw g)=Gi.pend s g:=by unfold Gi.pend qbw;rw[v,D];simp
 have p2:Gi.pend (!s) (qbw g)=false:=by unfold Gi.pend qbw;simp
 have p3:Gi.pend s g=false:=by unfold Gi.pend;rw[v,D];simp
 have v1:Gi.covd s (qbw g)=Gi.covd s g:=by unfold Gi.covd qbw;rw[v,w];simp
 have v2:Gi.covd (!s) (qbw g)=Gi.covd (!s) g:=by unfold Gi.covd qbw;rw[v];simp
 have u1:Gi.unsg s (qbw g)=Gi.unsg s g:=by unfold Gi.unsg qbw;rw[v,w];simp
 have w1:Gi.moved s (qbw g)=Gi.moved s g:=by unfold Gi.moved qbw;rw[v,w];simp
 have w2:Gi.moved (!s) (qbw g)=Gi.moved (!s) g:=by unfold Gi.moved qbw;rw[v];simp
 have a1:∀t,qam t g=false:=fun t=>by unfold qam;rw[D];simp
 have a2:∀t,qam t (qbw g)=false:=fun t=>by unfold qam qbw;simp
 have F:∀t,amt (qam t) (G.set j (qbw g))=amt (qam t) G:=fun t=>by rw[qjk _ m,a1,a2];simp
 have q:∀k:Nat,((G.set j (qbw g))[k]?).map Gi.key=(G[k]?).map Gi.key:=fun k=>qni m (.inr rfl)
 refine⟨⟨s,c.removed i ⟨g.h,true,4,false⟩ g.paid,d,eo,es,G.set j (qbw g),la,nu,lb,nv⟩,⟨?_,?_,?_,?_,?_,?_,?_,?_⟩,rfl,rfl,rfl,?_,?_⟩
 ·obtain⟨Y,Z⟩:=qn7 (qm s) m (qbw g);have em:(qm s).mine g=true:=C;have a4:(qm s).mine (qbw g)=true:=C;have a5:(qm s).st g=4:=by show (if g.own=s then g.so else g.st)=4;rw[if_pos v,w]
  have a6:(qm s).st (qbw g)=5:=by show (if g.own=s then (5:Int) else g.st)=5;rw[if_pos v]
  rw[em,a5,a4,a6] at Y Z;replace Y:(qm s).conL (G.set j (qbw g))=(qm s).conL G - -g.h.amount + -g.h.amount:=Y;replace Z:(qm s).conR (G.set j (qbw g))=(qm s).conR G-0+0:=Z;refine⟨ea.set,?_,?_,?_,ea.pos,?_,?_,?_,ea.nuS.setS m u1,?_,?_,?_,ea.shelf,ea.nums⟩
  ·refine q0r _ ea.perm m (x:=⟨g.h,true,4,false⟩) (y:=⟨g.h,true,5,g.paid⟩) ?_ ?_ hi
   ·show qa6 (g.own==s) g.h (if g.own=s then g.so else g.st) g.paid=_;rw[if_pos v,C,w];unfold qa6;simp
   ·show qa6 (g.own==s) g.h (if g.own=s then (5:Int) else g.st) g.paid=_;rw[if_pos v,C];unfold qa6;simp
  ·rw[Y];show c.loc=(K.S s).ours+_;rw[ea.loc];omega
  ·rw[Z];show c.rem=(K.S (!s)).ours+_;rw[ea.rem];omega
  ·rw[qas m (q0 0 (by decide))];exact ea.nOwn
  ·rw[qas m (q2 (!s) 0)];exact ea.nTh
  ·rw[qas m (q0 1 (by decide))];exact qfg m ea.low fun e _=>ea.low g W e (by omega)
  ·rw[qas m (q0 1 (by decide))];exact ea.nuI.congr fun k _=>q k
  ·show c.news=_;rw[ea.news];exact(qb7 rfl fun k _=>q k).symm
  ·show cnt (qbo s) (G.set j (qbw g))≤8;rw[qas m (show qbo s (qbw g)=qbo s g by unfold qbo qbw;rw[w];simp)];exact ea.many
 ·refine eb.setS m rfl rfl ?_ (.inl rfl) (.inl rfl);show (if g.own = !s then (5:Int) else g.st)=if g.own = !s then g.so else g.st;rw[if_neg E,if_neg E]
 ·refine ab.keep ⟨rfl,rfl,rfl,rfl,rfl⟩ rfl rfl (fun _=>I) ⟨rfl,rfl,rfl⟩ rfl ?_ (ab.upd.setS m p1) (qg8 m ab.along fun hj=>absurd rfl (ab.upd.off m p3 j hj)) (fun k _=>q k) (fun _ i=>⟨i.setS m v1,fun k _=>q k⟩) (qas m (q2 s 1)) (qas m (q0 1 (by decide))) (qra m fun e=>w1.trans e);intro e;rw[F];exact ab.m1 e
 ·refine⟨ba.w9,ba.xor,ba.sig,ba.aw,ba.rv3,ba.rv4,ba.upd.setN m p2,qg8 m ba.along.2 fun hj=>absurd hj a8,V.congr fun k _=>q k,fun e=> ?_,ba.last,R.congr fun k _=>q k,fun e=> ?_,fun e=>qra m (fun e=>w2.trans e) (ba.ex e)⟩
  ·obtain⟨i1,i2,i3⟩:=ba.laS e;refine⟨i1.setS m v2,?_,?_⟩
   ·rw[qas m (q1 1),qas m (q2 (!s) 1)];exact i2.congr fun k _=>q k
   ·rw[i3];congr 1;exact(qb7 rfl fun k _=>q k).symm
  ·rw[F];exact ba.m1 e
 ·refine qfg m it ?_;rw[qdp (g:=qbw g) (s:=s) v];exact b3
 ·refine qfg m ok ?_;have z:=ok g W;exact⟨z.id,z.amount,z.hash,z.expiry,z.um⟩
 ·show ((G.set j (qbw g)).map Gi.pk).Pairwise Apt;rw[q2u (g':=qbw g) m (by unfold Gi.pk qbw;rw[w];rfl)];exact pw
 ·show (G.set j _).length≤n;rw[List.length_set];exact few
 ·show msE s (c.removed i ⟨g.h,true,4,false⟩ g.paid) (G.set j (qbw g)) eo=msE s c G eo++[];rw[List.append_nil];exact qdh ab.w9 rfl (fun k _=>q k) (fun _=>I) (fun _=>qi8 rfl rfl)
 ·exact qdh ba.w9 rfl (fun k _=>q k) (fun _=>rfl) (fun _=>rfl)
end
theorem qei:∀ {x:Int},-1≤x∧x≤9→(∀k:Fin 2,decide ((k.val:Int)≤zk (zk x true 3) true 4)=decide ((k.val:Int)≤x))∧(zk (zk x true 3) true 4==0)=(x==0)∧(zk (zk x false 3) false 4==5)=(x==5)∧(zk (zk x true 3) true 4==1)=(x==1)∧(zk (zk x false 3) false 4==6)=(x==6)∧(zk (zk x true 3) true 4==8)=(x==8)∧(zk (zk x false 3) false 4==3)=(x==3)∧decide (zk (zk x true 3) true 4≤8)=decide (x≤8)∧decide (0≤zk (zk x false 3) false 4)=decide (0≤x)∧(zk (zk x true 3) true 4=qw (qw x true 3) true 4∧zk (zk x false 3) false 4=qw (qw x false 3) false 4) :=
 qml (p:=fun x=>(∀k:Fin 2,decide ((k.val:Int)≤zk (zk x true 3) true 4)=decide ((k.val:Int)≤x))∧(zk (zk x true 3) true 4==0)=(x==0)∧(zk (zk x false 3) false 4==5)=(x==5)∧(zk (zk x true 3) true 4==1)=(x==1)∧(zk (zk x false 3) false 4==6)=(x==6)∧(zk (zk x true 3) true 4==8)=(x==8)∧(zk (zk x false 3) false 4==3)=(x==3)∧decide (zk (zk x true 3) true 4≤8)=decide (x≤8)∧decide (0≤zk (zk x false 3) false 4)=decide (0≤x)∧(zk (zk x true 3) true 4=qw (qw x true 3) true 4∧zk (zk x false 3) false 4=qw (qw x false 3) false 4)) (by decide +kernel)
theorem q7m:∀x∈qa1,q0n x.2.2.2.2.1=true→¬(x.2.2.1=1∧x.2.2.2.1=true)→(x.1=1∨x.1=8)→(0≤x.2.1∧x.2.1≤8)∧qw x.2.1 false 3≠x.2.1:=by decide +kernel
theorem q7l:∀x∈qa1,q0n x.2.2.2.2.2=true→¬(x.2.2.1=2∧x.2.2.2.1=true)→(x.2.1=3∨x.2.1=6)→(0≤x.1∧x.1≤8)∧qw x.1 true 3≠x.1:=by decide +kernel
def hsG(s:Bool)(g:Gi):Gi:= {g with so:=if g.own=s then zk (zk g.so true 3) true 4 else g.so,st:=if g.own=s then g.st else zk (zk g.st false 3) false 4,pre:=if Gi.pend s g=true then true else g.pre}
section
variable {K:Kon}{n:Nat}{s t:Bool}{c d:Ch}{eo ei es:List En}{G:List Gi}{la nu lb nv:List Nat}{g g':Gi}{j:Nat}
theorem qe3{g:Gi}(h:g.own=s):(hsG s g).so=zk (zk g.so true 3) true 4∧(hsG s g).st=g.st:=by unfold hsG;simp only[h,if_true];exact⟨trivial,trivial⟩
theorem qfs{g:Gi}(h:g.own = !s):(hsG s g).so=g.so∧(hsG s g).st=zk (zk g.st false 3) false 4:=by unfold hsG;simp only[if_neg (qb4 h)];exact⟨trivial,trivial⟩
def qm3(s:Bool)(g:Gi):Bool:=g.own==s&&g.up==1
theorem qid{α:Type}(f f':α→Int):∀G:List α,(G.map f).sum+(G.map f').sum=(G.map fun g=>f g+f' g).sum
 | []=>rfl
 | g::G=>by
  have:=qid f f' G;simp only[List.map_cons,List.sum_cons];omega
theorem q7p:∀x∈qa1,x.2.2.1=1→x.2.1 = -1∧(x.1=0∨x.1=1):=by decide +kernel
theorem zbs(it:∀g∈G,g.it s (qj eo) (qj ei)∈qa1)(C:qbu (qj eo)=false)(E:∀g∈G,0≤g.h.amount):(qm s).conL G+amt (qm3 s) G≤(qm (!s)).conR G:=by
 unfold Seen.conL Seen.conR amt;rw[qid];refine qhv fun g l=> ?_
 have v:=qgf it g l;have h:=qj3 _ (it g l);have i:=q7p _ (it g l);have D:=E g l;show conL (g.own==s) (if g.own=s then g.so else g.st) g.paid g.h.amount+(if qm3 s g=true then g.h.amount else 0)≤conL (!(g.own == !s)) (if g.own = !s then g.so else g.st) g.paid g.h.amount;rcases qy g.own s with e | e
 ·rw[qdp e] at h i;rw[if_pos e,if_neg (qhr e),show (g.own==s)=true by rw[e];simp,show (g.own == !s)=false by rw[e];simp,show qm3 s g=(g.up==1) by unfold qm3;rw[e];simp];have q:g.so=9→g.st=9:=h.1;have i:g.up=1→g.st = -1∧(g.so=0∨g.so=1):=i;have F:g.so = -1→g.st = -1∧g.up=0:=v.2.2.1;clear h v;simp only[conL,Bool.not_false,if_true];by_cases w:g.up=1
  ·obtain⟨z,H⟩:=i w;rw[w,z,if_neg (by omega),if_neg (by omega)];simp;omega
  ·rw[if_neg (show ¬(g.up==1)=true by simpa using w)];by_cases o:g.so=9
   ·rw[o,q o];omega
   ·rw[if_neg o];by_cases m:g.so = -1
    ·rw[if_pos m,if_pos (F m).1];omega
    ·rw[if_neg m]
     repeat' split
     all_goals omega
 ·rw[qdx e] at h;rw[if_pos e,if_neg (qb4 e),show (g.own==s)=false by rw[e];simp,show (g.own == !s)=true by rw[e];simp,show qm3 s g=false by unfold qm3;rw[e];simp];have q:g.st=9→g.so=9:=h.2.1 C;clear h v i;simp only[conL,Bool.not_true,Bool.false_eq_true,if_false];by_cases i:g.st=9
  ·rw[i,q i];omega
  ·rw[if_neg i]
   repeat' split
   all_goals omega
theorem zf1{w:Nat}(h:w≤4)(i:qbu w=false):w=0∨w=1:=by
 have:w=0∨w=1∨w=2∨w=3∨w=4:=by omega
 rcases this with rfl | rfl | rfl | rfl | rfl
 ·exact .inl rfl
 ·exact .inr rfl
 ·cases i
 ·cases i
 ·cases i
theorem qve{x:En}{e:List En}(l:qj (x::e)≠9)(i:qbu (qj (x::e))=false):qj e≠9∧qbu (qj e)=false:=by
 cases x with
 | upd j=>exact⟨l,i⟩
 | shut=>exact⟨l,i⟩
 | rev=>rcases qg6 l with ⟨-,e⟩ | ⟨-,e⟩<;>rw[e] at i<;>cases i
 | sgn =>
  rcases qg7 l with ⟨m,e⟩ | ⟨-,e⟩
  ·rw[m];exact⟨by decide,rfl⟩
  ·rw[e] at i;cases i
theorem qbe.rev{f:Gi→Gi} : ∀ {e:List En},qj e≠9→qbu (qj e)=false→(∀j∈ups e,∀g,G[j]? = some g→(f g).cov=g.cov∧(f g).pre=true)→qbe G e→qbe (G.map f) (e++[.rev])
 | [],_,_,_,_=>trivial
 | .upd i::es,m,l,q,h=>by
  refine⟨fun y o=> ?_,qbe.rev m l (fun j z=>q j (List.mem_cons_of_mem _ z)) h.2⟩;show y.cov=qay (qj (es++[.rev]))∧y.pre=qbu (qj (es++[.rev]));rw[List.getElem?_map] at o;cases v:G[i]? with
  | none=>rw[v] at o;cases o
  | some g =>
   rw[v] at o;injection o with o;subst o;obtain⟨f1,f2⟩:=q i (List.mem_cons_self ..) g v;have w:qj es=0∨qj es=1:=zf1 (qgy es m) l;rw[f1,f2,(h.1 g v).1,qvc es w];rcases w with e | e<;>rw[e]<;>exact⟨rfl,rfl⟩
 | .rev::es,m,l,_,_=>by
  rcases qg6 m with ⟨-,e⟩ | ⟨-,e⟩<;>rw[e] at l<;>cases l
 | .sgn::es,m,l,q,h=>qbe.rev (e:=es) (qve m l).1 (qve m l).2 q h
 | .shut::es,m,l,q,h=>qbe.rev (e:=es) m l q h
theorem zd5(t ours:Bool)(pw:(G.map Gi.pk).Pairwise Apt)(l:∀g∈G,-1≤g.so∧(g.so = -1→g.st = -1)):qii (qz ours (G.filterMap (qm t).show)):=by
 have e:G.filterMap (qm t).show=(G.filter fun g=>decide (0≤g.so)).filterMap (qm t).show:=by
  rw[List.filterMap_filter];refine qhk fun g H=> ?_
  by_cases C:0≤g.so
  ·rw[if_pos (decide_eq_true C)]
  ·rw[if_neg (by simpa using C)];have D:=l g H;have m:g.so = -1:=by omega
   have o:=D.2 m;show qa6 (g.own==t) g.h (if g.own=t then g.so else g.st) g.paid=none;rw[m,o];simp[qa6]
 rw[e];refine q6v ?_;have E:G.Pairwise fun g g'=>¬(0≤g.so∧0≤g'.so∧g.own=g'.own∧g.h.id=g'.h.id):=by
  rw[List.pairwise_map] at pw;refine pw.imp fun {a b} h=> ?_
  rintro ⟨i,z,I,J⟩;exact h ⟨decide_eq_true i,decide_eq_true z,I,J⟩
 have F:=E.filter fun g=>decide (0≤g.so)
 refine List.Pairwise.imp_of_mem ?_ F;rintro a b q v w ⟨i,z⟩;have q:=(List.mem_filter.1 q).2;have v:=(List.mem_filter.1 v).2;refine w ⟨by simpa using q,by simpa using v,?_,z⟩;have i:(a.own==t)=(b.own==t):=i;cases m:a.own<;>cases o:b.own<;>rw[m,o] at i<;>cases t<;>simp at i ⊢
theorem zhs(v:Seen Gi)(ours:Bool)(l:∀g∈G,0≤(v.h g).amount):v.conL G≤v.tvL ours G∧v.conR G≤v.tvR ours G:=by
 constructor
 ·refine qhv fun g i=> ?_
  have m:=l g i;unfold tvL gvL;simp only
  repeat' split
  all_goals omega
 ·refine qhv fun g i=> ?_
  have m:=l g i;unfold tvR gvR;simp only
  repeat' split
  all_goals omega
theorem zhv(v:Seen Gi)(ours:Bool)(l:∀g∈G,-1≤v.st g∧v.st g≤9)(m:∀g∈G,0≤(v.h g).amount):v.tvL ours G+v.tvR ours G≤0:=by
 unfold Seen.tvL Seen.tvR;rw[qid];have:=qhv (f:=fun g=>tvL ours (v.mine g) (v.st g) (v.paid g) (v.h g).amount+tvR ours (v.mine g) (v.st g) (v.paid g) (v.h g).amount) (f':=fun _:Gi=>(0:Int)) (G:=G) fun g i=>by
  show tvL ours (v.mine g) (v.st g) (v.paid g) (v.h g).amount+tvR ours (v.mine g) (v.st g) (v.paid g) (v.h g).amount≤0;rw[zht _ _ _ _ _ (l g i),zhu _ _ _ _ _ (l g i)];have q:=m g i;unfold tvK;cases v.mine g<;>simp<;>repeat' split
  all_goals omega
 have e:(G.map fun _:Gi=>(0:Int)).sum=0:=by
  clear this l m
  induction G with
  | nil=>rfl
  | cons g G o=>rw[List.map_cons,List.sum_cons,o];rfl
 omega
theorem ziv(l:c.xs.Perm (G.filterMap (qm s).show)):qxs c.xs:=by
 intro x m;obtain⟨j,g,-,e,i⟩:=qgg l m;rw[e];exact⟨i.1,Int.le_trans i.2 (by decide)⟩
theorem q6e{c:Ch}{ev:Int}(h:qxs c.xs)(o:∀x∈c.xs,x.state≤8):qxs (c.goOn ev).xs:=by
 intro x q;obtain⟨y,i,rfl⟩:=List.mem_map.1 (List.mem_filter.1 (show x∈qa7 (qo ev c.xs) from q)).1;have l:=h y i;have m:=o y i;show 0≤qw y.state y.own ev∧qw y.state y.own ev≤9;rcases qeu (mine:=y.own) (ev:=ev) ⟨l.1,m⟩ with e | e<;>omega
theorem qtp(m:c.xs.Perm (G.filterMap (qm s).show))(v:c.signedBy.s=c.s)(w:c.signedBy.k.signed=c.k.signed):c.signedBy.sgnOf=c.sgnOf:=by
 have l:∀x∈c.xs,x.state≤8:=fun x z=>by
  obtain⟨j,g,-,e,l⟩:=qgg m z;rw[e];exact l.2
 have i:=ziv m;refine qi9 v w ?_;have o:=qof (.inl ⟨rfl,.inr (.inl rfl)⟩:qkp false 3) c.s.key c.s.ch c.k.signed c i;have q:=qof (.inl ⟨rfl,.inr (.inr rfl)⟩:qkp false 4) c.s.key c.s.ch c.k.signed (c.goOn 3).heardOne (q6e i l);exact q.trans o
end
section
variable {K:Kon}{n:Nat}{s t:Bool}{c d:Ch}{eo ei es:List En}{G:List Gi}{la nu lb nv:List Nat}{g g':Gi}{j:Nat}
theorem zcr(q:K.Ok)(ea:EndI K s c G nu)(eb:EndI K (!s) d G nv)(it:∀g∈G,g.it s (qj eo) (qj ei)∈qa1)(ok:∀g∈G,GiOk K.ch g)(pw:(G.map Gi.pk).Pairwise Apt)(I:q0n (qj ei)=true)(v:∀g∈G,Gi.pend (!s) g=true→g.cov=false)(i:Int) :
  zt true c.s.peer c.s.ch i c.loc c.rem (qo 3 c.xs)=zt false d.s.key d.s.ch i d.loc d.rem d.xs:=by
 have C:=qkq ok
 have J:=q.cap
 have M:=q.sum s
 have z:=q.sum (!s)
 rw[Bool.not_not] at z
 obtain⟨bl,W⟩:=ea.tag q (qe8 it s) C
 obtain⟨F,H⟩:=eb.tag q (qe8 it (!s)) C
 have e0:zt true c.s.peer c.s.ch i c.loc c.rem (qo 3 c.xs)=zt true c.s.peer c.s.ch i (c.goOn 3).loc (c.goOn 3).rem (c.goOn 3).xs :=
  (qgi _ _ _ (qu2 true (qo 3 c.xs) c) (qr0 true (qo 3 c.xs))).symm
 have O:c.s.peer=d.s.key:=by
  rw[ea.set,eb.set,q.key (!s),Bool.not_not]
 have N:c.s.ch=d.s.ch:=by rw[ea.set,eb.set,q.ch,q.ch]
 rw[e0,O,N]
 have cl:=qis (qm s) 3 G C
 have V:=qjt (qm s) ((qm s).on 3) G (L:=(K.S s).ours) (R:=(K.S (!s)).ours) (fun g l=>qmt (qe8 it s g l)) C cl.1 cl.2 (by rw[←ea.loc];exact ea.pos.1) (by rw[←ea.rem];exact ea.pos.2)
 obtain⟨P,T,U⟩:=qiu (qm s) 3 G ea.perm ea.loc ea.rem (qfi (qm s) C ea.perm) ea.pos.1 ea.pos.2 (by omega) (by omega)
 have D:=eb.loc
 have o:=eb.rem
 rw[Bool.not_not] at o
 have X:=zhs (qm (!s)) false (G:=G) C
 have Y:=zhv (qm (!s)) false (qe8 it (!s)) C
 refine q76 (va:=qm (!s)) (vb:=(qm s).on 3) (L:=(K.S (!s)).ours) (R:=(K.S s).ours) ⟨?_,fun _ _=>rfl,fun _ _=>rfl,qe8 it (!s),fun g l=>qmt (qe8 it s g l),?_⟩ d.s.key d.s.ch i eb.perm P D o T U ⟨F.1,by omega⟩ ⟨H.1,by omega⟩ ⟨by omega,by omega⟩ ⟨by omega,by omega⟩ ⟨by omega,by omega⟩ ⟨by omega,by omega⟩ ?_
 ·intro g _;show (g.own==s) = !(g.own == !s);cases g.own<;>cases s<;>rfl
 ·intro g l;show tvC true (g.own==s) (zk (if g.own=s then g.so else g.st) (g.own==s) 3) g.paid=tvC false (g.own == !s) (if g.own = !s then g.so else g.st) g.paid;have E:=it g l;rcases qy g.own s with e | e
  ·rw[qdp e] at E;rw[if_pos e,if_neg (qhr e),show (g.own==s)=true by rw[e];simp,show (g.own == !s)=false by rw[e];simp];refine q2w _ E g.paid I ?_;rintro ⟨w,m⟩;have w:g.up=2:=w;have m:g.cov=true:=m;rw[v g l (by unfold Gi.pend;rw[e,w];simp)] at m;cases m
  ·rw[qdx e] at E;rw[if_pos e,if_neg (qb4 e),show (g.own==s)=false by rw[e];simp,show (g.own == !s)=true by rw[e];simp];refine q2x _ E g.paid I ?_;rintro ⟨w,m⟩;have w:g.up=1:=w;have m:g.cov=true:=m;rw[v g l (by unfold Gi.pend;rw[e,w];simp)] at m;cases m
 ·exact qii.perm (zd5 (!s) false pw fun g l=>⟨(qgf it g l).1.1,fun e=>((qgf it g l).2.2.1 e).1⟩) (qmq false eb.perm.symm)
theorem zgz(c:Ch)(ch m:Int)(T:List Int):qgx c ⟨6,ch,0,0,T,0,m⟩=(T != zt true c.s.peer c.s.ch m c.loc c.rem (qo 3 c.xs)):=by unfold qgx;rfl
theorem qrn{P:Pt}(hK:K.Ok)(h:Inv K n P)(he:P.ei = .sgn::es):Hears K n P P.d.sgnOf (msE (!P.s) P.d P.G es):=by
 obtain⟨s,c,d,eo,ei,G,la,nu,lb,nv⟩:=P;obtain⟨ea,eb,ab,ba,it,ok,pw,few⟩:=h;simp only at ea eb ab ba it ok pw few he ⊢;have c6:d.s.ch=K.ch:=by rw[eb.set];exact hK.ch _
 have b7:c.s.ch=K.ch:=by rw[ea.set];exact hK.ch _
 have b5:=ba.w9;rw[he] at b5;have C:=qg7 b5;rw[←he] at C;have Y:qay (qj ei)=true:=by rcases C with ⟨-,e⟩ | ⟨-,e⟩<;>rw[e]<;>rfl
 have T:q0n (qj ei)=true:=by rcases C with ⟨-,e⟩ | ⟨-,e⟩<;>rw[e]<;>rfl
 have O:qay (qj es)=false:=by rcases C with ⟨e,-⟩ | ⟨e,-⟩<;>rw[e]<;>rfl
 have W:qj es≠9:=by rcases C with ⟨e,-⟩ | ⟨e,-⟩<;>rw[e]<;>decide
 have a8:qbu (qj es)=qbu (qj ei):=by rcases C with ⟨e,N⟩ | ⟨e,N⟩<;>rw[e,N]<;>rfl
 have d1:q8e (qj ei)=qj es:=by rcases C with ⟨e,N⟩ | ⟨e,N⟩<;>rw[e,N]<;>rfl
 have X:qbu (qj eo)=false:=ba.xor Y;have a9:qj eo=0∨qj eo=1:=zf1 (qgy eo ab.w9) X;have z:qj (eo++[.rev])=qxl (qj eo):=qvc eo a9;have b4:qbe G es:=by have:=ba.along;rw[he] at this;exact this
 have I:ups ei=ups es:=by rw[he];rfl
 have nn:=qkq ok;have m:=qgf it;have d2:=hK.cap;have d3:=hK.sum s;have F:=ba.sig;rw[Y] at F;replace F:d.k.signed=c.k.heard+1:=by simpa using F
 have E:∀g∈G,Gi.pend (!s) g=true→g.cov=false:=by
  intro g o hp;obtain⟨j,hj⟩:=List.getElem?_of_mem o;have c8:j∈ups es:=by rw[←I];exact(ba.upd.iff j).2 ⟨g,hj,hp⟩
  have c5:∀e:List En,qj e≠9→qay (qj e)=false→qbe G e→j∈ups e→g.cov=false:=by
   intro e
   induction e with
   | nil=>intro _ _ _ h;cases h
   | cons x e ih =>
    intro h9 hS ha hm;obtain⟨k9,kS⟩:=qs6 h9 hS;cases x with
    | upd i =>
     rcases List.mem_cons.1 hm with N | hm
     ·subst N;rw[(ha.1 g hj).1];exact kS
     ·exact ih k9 kS ha.2 hm
    | sgn=>exact ih k9 kS ha hm
    | rev=>exact ih k9 kS ha hm
    | shut=>exact ih k9 kS ha hm
  exact c5 es W O b4 c8
 have c2:=zcr hK ea eb it ok pw T E d.k.signed;have b8:zl 3 c.xs=true:=by
  obtain⟨g,o,U⟩:=ba.ex Y;have Z:=it g o;unfold Gi.moved at U;have key:(0≤(if g.own=s then g.so else g.st)∧(if g.own=s then g.so else g.st)≤8)∧qw (if g.own=s then g.so else g.st) (g.own==s) 3≠if g.own=s then g.so else g.st:=by
   rcases qy g.own s with e | e
   ·rw[qdp e] at Z;rw[e] at U;rw[if_pos e,show (g.own==s)=true by rw[e];simp];refine q7l _ Z T ?_ (by simpa using U);rintro ⟨D,v⟩;have D:g.up=2:=D;have v:g.cov=true:=v;rw[E g o (by unfold Gi.pend;rw[e,D];simp)] at v;cases v
   ·rw[qdx e] at Z;rw[e] at U;rw[if_neg (qb4 e),show (g.own==s)=false by rw[e];simp];refine q7m _ Z T ?_ (by simpa using U);rintro ⟨D,v⟩;have D:g.up=1:=D;have v:g.cov=true:=v;rw[E g o (by unfold Gi.pend;rw[e,D];simp)] at v;cases v
  unfold zl;rw[List.any_eq_true];refine⟨⟨g.h,g.own==s,if g.own=s then g.so else g.st,g.paid&&decide (5≤if g.own=s then g.so else g.st)⟩,ea.perm.symm.subset (List.mem_filterMap.2 ⟨g,o,?_⟩),?_⟩
  ·show qa6 (g.own==s) g.h (if g.own=s then g.so else g.st) g.paid=_;unfold qa6;rw[if_pos key.1]
  ·unfold chg;simpa using key.2
 have w:Said K.ch d.sgnOf:=qz8 hK.chb c6 eb.nums.2.1;have e1:c.hear d.sgnOf=(c.signedBy,[c.signedBy.revocation],0):=by
  rw[qlr w.may (by rw[b7];exact w.ch) rfl];refine qik b8 F ?_;have:qgx c d.sgnOf=(zt false d.s.key d.s.ch d.k.signed d.loc d.rem d.xs != zt true c.s.peer c.s.ch d.k.signed c.loc c.rem (qo 3 c.xs)):=by unfold Ch.sgnOf;rw[zgz]
  rw[this,c2];exact bne_self_eq_false _
 have cl:=qis (qm s) 3 G nn;have b6:=qjt (qm s) ((qm s).on 3) G (L:=(K.S s).ours) (R:=(K.S (!s)).ours) (fun g o=>qmt (qe8 it s g o)) nn cl.1 cl.2 (by rw[←ea.loc];exact ea.pos.1) (by rw[←ea.rem];exact ea.pos.2);have b3:=qis ((qm s).on 3) 4 G nn;have a4:=qjt ((qm s).on 3) (((qm s).on 3).on 4) G (L:=(K.S s).ours) (R:=(K.S (!s)).ours) (fun g o=>qmt (qmt (qe8 it s g o))) nn b3.1 b3.2 b6.1.1 b6.2.1;obtain⟨s1,s2,s3,J,s5,s6,s7,s8⟩:=qtq (qm s) G nn ea.perm ea.loc ea.rem ea.pos.1 ea.pos.2 (by omega) (by omega) (by omega) (by omega);have c7:c.rem≤c.signedBy.rem:=by rw[s3,ea.rem];omega
 obtain⟨m1,m2,m3⟩:=qlh (hsG s) (qm s) (((qm s).on 3).on 4) (G:=G) fun g _=>⟨rfl,by
  show (if g.own=s then (hsG s g).so else (hsG s g).st)=zk (zk (if g.own=s then g.so else g.st) (g.own==s) 3) (g.own==s) 4;rcases qy g.own s with e | e
  ·rw[if_pos e,if_pos e,(qe3 e).1,e];simp
  ·rw[if_neg (qb4 e),if_neg (qb4 e),(qfs e).2,e];simp,rfl,rfl⟩
 have a6:=qtp ea.perm s5 (by rw[J]);obtain⟨-,a5⟩:=qst hK.chb (c:=c.signedBy) (by rw[s5];exact b7) (by rw[J];obtain⟨n1,-,-⟩:=ea.nums;obtain⟨-,n2,-⟩:=eb.nums;show 1≤c.k.heard+1∧c.k.heard+1≤65536;omega) (by rw[s5,ea.set];exact hK.seed s);clear c2;generalize c4:d.sgnOf=M at w e1 ⊢;clear c4;have f2:(c.hear M).2.1=[c.signedBy.revocation]:=by rw[e1]
 have f3:(c.hear M).2.2=0:=by rw[e1]
 have f1:(c.hear M).1=c.signedBy:=by rw[e1]
 refine⟨w,f3,?_,fun l hl=> ?_,?_⟩
 ·show ∃P',Goes K n ⟨s,c,d,eo,ei,G,la,nu,lb,nv⟩ (c.hear M).1 (msE s c G eo++(c.hear M).2.1) (msE (!s) d G es) P';rw[f1,f2];clear f1 f2 f3 e1 w;clear a5;generalize c.signedBy=c' at *
  have ho:∀k,k=0∨k=1→∀g∈G,oGe s k (hsG s g)=oGe s k g:=fun k hk g o=>by
   unfold oGe;rw[show (hsG s g).own=g.own from rfl];rcases qy g.own s with e | e
   ·have v:=(qei (m g o).1).1;rw[(qe3 e).1];rcases hk with rfl | rfl
    ·rw[show decide ((0:Int)≤_)=decide ((0:Int)≤g.so) from v 0]
    ·rw[show decide ((1:Int)≤_)=decide ((1:Int)≤g.so) from v 1]
   ·rw[e];simp
  have d4:∀k,∀g∈G,oGe (!s) k (hsG s g)=oGe (!s) k g:=fun k g o=>by
   unfold oGe;rw[show (hsG s g).own=g.own from rfl];rcases qy g.own s with e | e
   ·rw[e];simp
   ·rw[(qfs e).1]
  have d0:∀k,∀g∈G,pGe s k (hsG s g)=pGe s k g:=fun k g o=>by
   unfold pGe;rw[show (hsG s g).own=g.own from rfl];rcases qy g.own s with e | e
   ·rw[(qe3 e).2]
   ·rw[e];simp
  have c9:∀g∈G,pGe (!s) 0 (hsG s g)=pGe (!s) 0 g:=fun g o=>by
   unfold pGe;rw[show (hsG s g).own=g.own from rfl];rcases qy g.own s with e | e
   ·rw[e];simp
   ·rw[(qfs e).2,(qei (m g o).2.1).2.2.2.2.2.2.2.2.1]
  have q:∀k:Nat,((G.map (hsG s))[k]?).map Gi.key=(G[k]?).map Gi.key:=fun k=>qnh (f:=hsG s) (fun g=>rfl) G k
  have b9:∀g∈G,Gi.covd s (hsG s g)=Gi.covd s g:=fun g o=>by
   unfold Gi.covd;rw[show (hsG s g).own=g.own from rfl];rcases qy g.own s with e | e
   ·rw[(qe3 e).1,(qei (m g o).1).2.2.2.1,e];simp
   ·rw[(qfs e).2,(qei (m g o).2.1).2.2.2.2.1,e];simp
  have c1:∀g∈G,Gi.moved s (hsG s g)=Gi.moved s g:=fun g o=>by
   unfold Gi.moved;rw[show (hsG s g).own=g.own from rfl];rcases qy g.own s with e | e
   ·rw[(qe3 e).1,(qei (m g o).1).2.2.2.1,(qei (m g o).1).2.2.2.2.2.1,e];simp
   ·rw[(qfs e).2,(qei (m g o).2.1).2.2.2.2.1,(qei (m g o).2.1).2.2.2.2.2.2.1,e];simp
  have hu:ups (eo++[.rev])=ups eo:=by rw[qg5];exact List.append_nil _
  refine⟨⟨s,c',d,eo++[.rev],es,G.map (hsG s),la,nu,lb,nv⟩,⟨?_,?_,?_,?_,?_,?_,?_,?_⟩,rfl,rfl,rfl,?_,?_⟩
  ·refine⟨s5.trans ea.set,by rw[m1];exact s1,by rw[m2];exact s2,by rw[m3];exact s3,⟨by rw[s2];exact a4.1.1,by rw[s3];exact a4.2.1⟩,?_,?_,?_,ea.nuS.map _ ?_,?_,?_,?_,by rw[s8];exact ea.shelf,?_⟩
   ·rw[J,qbk (ho 0 (.inl rfl))];exact ea.nOwn
   ·rw[J,qbk c9];exact ea.nTh
   ·rw[qbk (ho 1 (.inr rfl))];intro y hy e1 e2;obtain⟨g,o,rfl⟩:=List.mem_map.1 hy;have c0:g.own=s:=e1;refine ea.low g o c0 ?_;rw[(qe3 c0).1] at e2;have v:=(qei (m g o).1).1 1;have v:decide ((1:Int)≤zk (zk g.so true 3) true 4)=decide ((1:Int)≤g.so):=v;rw[decide_eq_true e2] at v;simpa using v.symm
   ·intro g o;unfold Gi.unsg;rw[show (hsG s g).own=g.own from rfl];rcases qy g.own s with e | e
    ·rw[(qe3 e).1,(qei (m g o).1).2.1,e];simp
    ·rw[(qfs e).2,(qei (m g o).2.1).2.2.1,e];simp
   ·rw[qbk (ho 1 (.inr rfl)),J];exact ea.nuI.congr fun k _=>q k
   ·rw[s6,ea.news];exact(qb7 s5 fun k _=>q k).symm
   ·show cnt (qbo s) (G.map (hsG s))≤8;rw[qbk fun g o=> ?_]
    ·exact ea.many
    ·unfold qbo;rw[show (hsG s g).own=g.own from rfl];rcases qy g.own s with e | e
     ·have v:=(qei (m g o).1).1 0;have v:decide ((0:Int)≤zk (zk g.so true 3) true 4)=decide ((0:Int)≤g.so):=v;rw[(qe3 e).1,v,(qei (m g o).1).2.2.2.2.2.2.2.1]
     ·rw[e];simp
   ·rw[J];obtain⟨n1,n2,n3⟩:=ea.nums;exact⟨by show 0≤c.k.heard+1;omega,n2,n3⟩
  ·refine eb.mapS (fun _=>rfl) (fun _=>rfl) (fun _=>rfl) (fun g o=> ?_) fun _=>rfl
   show (if g.own = !s then (hsG s g).so else (hsG s g).st)=if g.own = !s then g.so else g.st;rcases qy g.own s with e | e
   ·rw[if_neg (qhr e),if_neg (qhr e),(qe3 e).2]
   ·rw[if_pos e,if_pos e,(qfs e).1]
  ·have H:qay (qxl (qj eo))=qay (qj eo)∧qbu (qxl (qj eo))=true∧qxl (qj eo)≠9∧qxl (qj eo)≠4:=by
    rcases a9 with e | e<;>rw[e]<;>decide
   refine⟨by rw[z];exact H.2.2.1,?_,?_,?_,?_,?_,?_,?_,?_,?_,by rw[s7];exact ab.last,?_,?_,?_⟩
   ·rw[z,H.1,a8];exact ab.xor
   ·rw[z,H.1,J];exact ab.sig
   ·rw[z,H.1,a8,J];exact ab.aw
   ·intro _;rw[J]
   ·rw[z];exact fun e=>absurd e H.2.2.2
   ·rw[hu];exact ab.upd.map _ fun g _=>rfl
   ·refine ab.along.rev ab.w9 X fun j hj g o=>⟨rfl,?_⟩
    show (if Gi.pend s g=true then true else g.pre)=true;rw[if_pos (ab.upd.yes hj o)]
   ·rw[hu,J];exact ab.ids.congr fun k _=>q k
   ·rw[z,H.1];intro e;obtain⟨i1,i2,i3⟩:=ab.laS e;refine⟨i1.map _ b9,?_,?_⟩
    ·rw[qbk (d0 1),qbk (ho 1 (.inr rfl))];exact i2.congr fun k _=>q k
    ·rw[s7,i3,a6];congr 1;exact(qb7 s5 fun k _=>q k).symm
   ·rw[J];exact qbj.snoc (by intro e;cases e) (fun _ _ e=>by cases e) (ab.shut.congr fun k _=>q k)
   ·intro _;have D:=zbs it X nn;have v:amt (qam s) (G.map (hsG s))=amt (qm3 s) G:=by
     rw[qm4];refine qeg fun g o=> ?_
     have:qam s (hsG s g)=qm3 s g:=by
      unfold qam qm3;show (g.own==s&&(g.up==1&&if Gi.pend s g=true then true else g.pre))=_;rcases qy g.own s with e | e
      ·rw[qi7 e];cases h:(g.up==1)<;>simp
      ·rw[e];simp
     rw[this];rfl
    rw[v];have h3:=ea.loc;have h4:=eb.rem;rw[Bool.not_not] at h4;have h5:=ea.pos.1;show _≤d.rem;omega
   ·rw[z,H.1];exact fun e=>qv4 (fun g o h=>(c1 g o).trans h) (ab.ex e)
  ·refine⟨W,fun e=>(by rw[O] at e;cases e),?_,?_,fun e=> ?_,fun e=> ?_,?_,?_,?_,fun e=>(by rw[O] at e;cases e),ba.last,?_,fun e=> ?_,fun e=>(by rw[O] at e;cases e)⟩
   ·rw[O,J,F];show c.k.heard+1=c.k.heard+1+if false=true then 1 else 0;simp
   ·rw[ba.aw,Y,O,z];rcases a9 with e | e<;>rw[e]<;>rfl
   ·rcases C with ⟨N,-⟩ | ⟨N,-⟩<;>rw[N] at e<;>cases e
   ·rcases C with ⟨N,-⟩ | ⟨N,-⟩<;>rw[N] at e<;>cases e
   ·rw[←I];exact ba.upd.map _ fun g _=>rfl
   ·refine qlp b4 fun j hj g o=>⟨rfl,?_⟩
    have hp:=ba.upd.yes (by rw[I];exact hj) o;show (if Gi.pend s g=true then true else g.pre)=g.pre;rw[if_neg];intro V;unfold Gi.pend at hp V;rcases qy g.own s with e | e
    ·rw[e] at hp V;simp at hp V;omega
    ·rw[e] at hp V;simp at hp V;omega
   ·rw[J];have:=ba.ids;rw[I] at this;exact this.congr fun k _=>q k
   ·rw[J];have:=ba.shut;rw[he] at this;have this:qbj G (!s) d.k.shutSaid c.k.shutHeard es:=this;exact this.congr fun k _=>q k
   ·have D:=ba.m1 (by rw[←a8];exact e);have v:amt (qam (!s)) (G.map (hsG s))=amt (qam (!s)) G:=by
     rw[qm4];refine qeg fun g o=> ?_
     have:qam (!s) (hsG s g)=qam (!s) g:=by
      unfold qam;show (g.own == !s&&(g.up==1&&if Gi.pend s g=true then true else g.pre))=_;rcases qy g.own s with e | e
      ·rw[e];simp
      ·rw[qnx e];by_cases c3:g.up=1
       ·rw[c3];simp
       ·have:(g.up==1)=false:=by simpa using c3
        rw[this];simp
     rw[this];rfl
    rw[v];show _≤c'.rem;omega
  ·intro y hy;show y.it s (qj (eo++[.rev])) (qj es)∈qa1;obtain⟨g,o,rfl⟩:=List.mem_map.1 hy;have Z:=it g o;rw[z,←d1];rcases qy g.own s with e | e
   ·rw[qdp (g:=hsG s g) (s:=s) e,(qe3 e).1,(qe3 e).2,(qei (m g o).1).2.2.2.2.2.2.2.2.2.1];rw[qdp e] at Z;refine qww _ Z T ?_;rintro ⟨D,v⟩;have D:g.up=2:=D;have v:g.cov=true:=v;rw[E g o (by unfold Gi.pend;rw[e,D];simp)] at v;cases v
   ·rw[qdx (g:=hsG s g) (s:=s) e,(qfs e).1,(qfs e).2,(qei (m g o).2.1).2.2.2.2.2.2.2.2.2.2];rw[qdx e] at Z;refine qwx _ Z T ?_;rintro ⟨D,v⟩;have D:g.up=1:=D;have v:g.cov=true:=v;rw[E g o (by unfold Gi.pend;rw[e,D];simp)] at v;cases v
  ·intro y hy;obtain⟨g,o,rfl⟩:=List.mem_map.1 hy;have hok:=ok g o;refine⟨hok.id,hok.amount,hok.hash,hok.expiry,fun e=> ?_⟩;refine hok.um ?_;rcases qy g.own s with a7 | a7
   ·rw[(qe3 a7).2] at e;exact e
   ·rw[(qfs a7).2] at e;have h5:=(qei (m g o).2.1).2.2.1;have h6:=(qei (m g o).2.1).2.2.2.2.1;rcases e with e | e
    ·rw[e] at h5;exact .inl (by simpa using h5.symm)
    ·rw[e] at h6;exact .inr (by simpa using h6.symm)
  ·show ((G.map (hsG s)).map Gi.pk).Pairwise Apt;rw[q2t fun g o=> ?_]
   ·exact pw
   ·unfold Gi.pk;rcases qy g.own s with e | e
    ·have v:=(qei (m g o).1).1 0;have v:decide ((0:Int)≤zk (zk g.so true 3) true 4)=decide ((0:Int)≤g.so):=v;rw[(qe3 e).1,v];rfl
    ·rw[(qfs e).1];rfl
  ·show (G.map (hsG s)).length≤n;rw[List.length_map];omega
  ·show msE s c' (G.map (hsG s)) (eo++[.rev])=msE s c G eo++[c'.revocation];unfold msE;rw[List.map_append];congr 1;exact qdh ab.w9 s5 (fun k _=>q k) (fun _=>a6) (fun e=>by rw[X] at e;cases e)
  ·exact qdh W rfl (fun k _=>q k) (fun _=>rfl) (fun _=>rfl)
 ·have hl:l∈(c.hear M).2.1:=hl;rw[f2] at hl;rw[List.mem_singleton.1 hl];exact a5.ok
 ·show (c.hear M).2.1.length≤1;rw[f2];exact Nat.le_refl _
end
theorem qjv:∀ {x:Int},-1≤x∧x≤9→(∀k:Fin 2,∀m:Bool,decide ((k.val:Int)≤zk x m 2)=decide ((k.val:Int)≤x))∧(zk x true 2==0)=(x==0)∧(zk x false 2==5)=(x==5)∧(zk x true 2≤8→x≤8)∧(zk x false 2=5∨zk x false 2=6→x=5∨x=6) :=
 qml (p:=fun x=>(∀k:Fin 2,∀m:Bool,decide ((k.val:Int)≤zk x m 2)=decide ((k.val:Int)≤x))∧(zk x true 2==0)=(x==0)∧(zk x false 2==5)=(x==5)∧(zk x true 2≤8→x≤8)∧(zk x false 2=5∨zk x false 2=6→x=5∨x=6)) (by decide +kernel)
def rvG(s:Bool)(g:Gi):Gi:= {g with so:=if g.own=s then zk g.so true 2 else g.so,st:=if g.own=s then g.st else zk g.st false 2}
section
variable {K:Kon}{n:Nat}{s t:Bool}{c d:Ch}{eo ei es:List En}{G:List Gi}{la nu lb nv:List Nat}{g g':Gi}{j:Nat}
theorem qe7{g:Gi}(h:g.own=s):(rvG s g).so=zk g.so true 2∧(rvG s g).st=g.st:=by unfold rvG;simp only[h,if_true];exact⟨trivial,trivial⟩
theorem qf0{g:Gi}(h:g.own = !s):(rvG s g).so=g.so∧(rvG s g).st=zk g.st false 2:=by unfold rvG;simp only[if_neg (qb4 h)];exact⟨trivial,trivial⟩
theorem qth{P:Pt}(V:K.Ok)(h:Inv K n P)(Y:P.ei = .rev::es):Hears K n P P.d.revocation (msE (!P.s) P.d P.G es):=by
 obtain⟨s,c,d,eo,ei,G,la,nu,lb,nv⟩:=P;obtain⟨ea,eb,ab,ba,it,ok,pw,few⟩:=h;simp only at ea eb ab ba it ok pw few Y ⊢;have b7:d.s.ch=K.ch:=by rw[eb.set];exact V.ch _
 have b6:c.s.ch=K.ch:=by rw[ea.set];exact V.ch _
 have a7:=ba.w9;rw[Y] at a7;have v:=qg6 a7;rw[←Y] at v;have W:qbu (qj ei)=true:=by rcases v with ⟨-,e⟩ | ⟨-,e⟩<;>rw[e]<;>rfl
 have a4:zhq (qj ei)=true:=by rcases v with ⟨-,e⟩ | ⟨-,e⟩<;>rw[e]<;>rfl
 have Z:qbu (qj es)=false:=by rcases v with ⟨e,-⟩ | ⟨e,-⟩<;>rw[e]<;>rfl
 have O:qj es≠9:=by rcases v with ⟨e,-⟩ | ⟨e,-⟩<;>rw[e]<;>decide
 have F:qay (qj es)=qay (qj ei):=by rcases v with ⟨e,E⟩ | ⟨e,E⟩<;>rw[e,E]<;>rfl
 have b9:q8e (qj ei)=qj es:=by rcases v with ⟨e,E⟩ | ⟨e,E⟩<;>rw[e,E]<;>rfl
 have D:qay (qj eo)=false:=by
  cases e:qay (qj eo) with
  | false=>rfl
  | true=>rw[ab.xor e] at W;cases W
 have b5:qbe G es:=by have:=ba.along;rw[Y] at this;exact this
 have N:ups ei=ups es:=by rw[Y];rfl
 have nn:=qkq ok;have m:=qgf it;have c0:=V.cap;have c1:=V.sum s;have a6:c.k.awaits=true:=by rw[ab.aw,W,Bool.or_true]
 have J:=ab.sig;rw[D] at J;replace J:c.k.signed=d.k.heard:=by simpa using J
 have c2:=ea.nums.2.2 a6;have c3:=ea.nums.2.1;obtain⟨er,q⟩:=qst V.chb b7 (c:=d) (by omega) (by rw[eb.set];exact V.seed _);have X:d.s.seed=(K.S (!s)).seed:=by rw[eb.set]
 have I:d.revocation.number=d.k.heard-1:=by rw[er]
 have H:d.revocation.hash=(qcp (K.S (!s)).seed (65535-(d.k.heard-1))).1:=by rw[er,X]
 have b3:qda (65535-(d.k.heard-1))=true:=qj0 (by omega) (by omega);have T:c.hear d.revocation=(((c.shelved d.revocation).goOn 2).unawait,[],0):=by
  rw[qls q.may (by rw[b6];exact q.ch) (by rw[er])];have:qj5 c d.revocation=0:=by
   unfold qj5;rw[if_neg (by rw[a6];decide),if_neg (by rw[I];omega),if_neg (by rw[I,H,qos b3 ea.shelf];decide)]
  unfold Ch.hearRevoke;rw[if_pos this]
 have cl:=qis (qm s) 2 G nn;have a8:=qjt (qm s) ((qm s).on 2) G (L:=(K.S s).ours) (R:=(K.S (!s)).ours) (fun g o=>qmt (qe8 it s g o)) nn cl.1 cl.2 (by rw[←ea.loc];exact ea.pos.1) (by rw[←ea.rem];exact ea.pos.2);obtain⟨s1,s2,s3,z,s5,s6,s7,s8⟩:=qw7 d.revocation (qm s) G nn ea.perm ea.loc ea.rem ea.pos.1 ea.pos.2 (by omega) (by omega);have C:qaj (K.S (!s)).seed (((c.shelved d.revocation).goOn 2).unawait).shelf:=by
  rw[s8,I,H];exact qrv (V.seed (!s)).2 ea.shelf
 obtain⟨m1,m2,m3⟩:=qlh (rvG s) (qm s) ((qm s).on 2) (G:=G) fun g _=>⟨rfl,by
  show (if g.own=s then (rvG s g).so else (rvG s g).st)=zk (if g.own=s then g.so else g.st) (g.own==s) 2;rcases qy g.own s with e | e
  ·rw[if_pos e,if_pos e,(qe7 e).1,e];simp
  ·rw[if_neg (qb4 e),if_neg (qb4 e),(qf0 e).2,e];simp,rfl,rfl⟩
 generalize d.revocation=M at q T s1 s2 s3 z s5 s6 s7 s8 C ⊢;have f1:(c.hear M).1=((c.shelved M).goOn 2).unawait:=by rw[T]
 have f2:(c.hear M).2.1=[]:=by rw[T]
 have f3:(c.hear M).2.2=0:=by rw[T]
 refine⟨q,f3,?_,fun l hl=> ?_,?_⟩
 ·show ∃P',Goes K n ⟨s,c,d,eo,ei,G,la,nu,lb,nv⟩ (c.hear M).1 (msE s c G eo++(c.hear M).2.1) (msE (!s) d G es) P';rw[f1,f2];clear f1 f2 f3 T q s8;generalize ((c.shelved M).goOn 2).unawait=c' at *
  have ho:∀k,k=0∨k=1→∀g∈G,oGe s k (rvG s g)=oGe s k g:=fun k hk g o=>by
   unfold oGe;rw[show (rvG s g).own=g.own from rfl];rcases qy g.own s with e | e
   ·have w:=(qjv (m g o).1).1;rw[(qe7 e).1];rcases hk with rfl | rfl
    ·rw[show decide ((0:Int)≤_)=decide ((0:Int)≤g.so) from w 0 true]
    ·rw[show decide ((1:Int)≤_)=decide ((1:Int)≤g.so) from w 1 true]
   ·rw[e];simp
  have b8:∀k,∀g∈G,oGe (!s) k (rvG s g)=oGe (!s) k g:=fun k g o=>by
   unfold oGe;rw[show (rvG s g).own=g.own from rfl];rcases qy g.own s with e | e
   ·rw[e];simp
   ·rw[(qf0 e).1]
  have c4:∀k,∀g∈G,pGe s k (rvG s g)=pGe s k g:=fun k g o=>by
   unfold pGe;rw[show (rvG s g).own=g.own from rfl];rcases qy g.own s with e | e
   ·rw[(qe7 e).2]
   ·rw[e];simp
  have b4:∀k,k=0∨k=1→∀g∈G,pGe (!s) k (rvG s g)=pGe (!s) k g:=fun k hk g o=>by
   unfold pGe;rw[show (rvG s g).own=g.own from rfl];rcases qy g.own s with e | e
   ·rw[e];simp
   ·have w:=(qjv (m g o).2.1).1;rw[(qf0 e).2];rcases hk with rfl | rfl
    ·rw[show decide ((0:Int)≤_)=decide ((0:Int)≤g.st) from w 0 false]
    ·rw[show decide ((1:Int)≤_)=decide ((1:Int)≤g.st) from w 1 false]
  have i:∀k:Nat,((G.map (rvG s))[k]?).map Gi.key=(G[k]?).map Gi.key:=fun k=>qnh (f:=rvG s) (fun g=>rfl) G k
  have a5:∀t,amt (qam t) (G.map (rvG s))=amt (qam t) G:=fun t=>qxy (fun _ _=>rfl) fun _ _=>rfl
  refine⟨⟨s,c',d,eo,es,G.map (rvG s),la,nu,lb,nv⟩,⟨?_,?_,?_,?_,?_,?_,?_,?_⟩,rfl,rfl,rfl,?_,?_⟩
  ·refine⟨s5.trans ea.set,by rw[m1];exact s1,by rw[m2];exact s2,by rw[m3];exact s3,⟨by rw[s2];exact a8.1.1,by rw[s3];exact a8.2.1⟩,?_,?_,?_,ea.nuS.map _ ?_,?_,?_,?_,C,?_⟩
   ·rw[z,qbk (ho 0 (.inl rfl))];exact ea.nOwn
   ·rw[z,qbk (b4 0 (.inl rfl))];exact ea.nTh
   ·rw[qbk (ho 1 (.inr rfl))];intro y hy T e2;obtain⟨g,o,rfl⟩:=List.mem_map.1 hy;have a9:g.own=s:=T;refine ea.low g o a9 ?_;rw[(qe7 a9).1] at e2;have w:=(qjv (m g o).1).1 1 true;have w:decide ((1:Int)≤zk g.so true 2)=decide ((1:Int)≤g.so):=w;rw[decide_eq_true e2] at w;simpa using w.symm
   ·intro g o;unfold Gi.unsg;rw[show (rvG s g).own=g.own from rfl];rcases qy g.own s with e | e
    ·rw[(qe7 e).1,(qjv (m g o).1).2.1,e];simp
    ·rw[(qf0 e).2,(qjv (m g o).2.1).2.2.1,e];simp
   ·rw[qbk (ho 1 (.inr rfl)),z];exact ea.nuI.congr fun k _=>i k
   ·rw[s6,ea.news];exact(qb7 s5 fun k _=>i k).symm
   ·show cnt (qbo s) (G.map (rvG s))≤8;rw[qgk];refine Int.le_trans (qmj fun g o h=> ?_) ea.many;unfold qbo at h ⊢;rw[show (rvG s g).own=g.own from rfl] at h;rcases qy g.own s with e | e
    ·have w:=(qjv (m g o).1).1 0 true;have w:decide ((0:Int)≤zk g.so true 2)=decide ((0:Int)≤g.so):=w;rw[(qe7 e).1,w,e] at h;have h3:=(qjv (m g o).1).2.2.2.1;simp at h;rw[e];simp;exact⟨h.1,h3 h.2⟩
    ·rw[e] at h;simp at h
   ·rw[z];obtain⟨n1,n2,-⟩:=ea.nums;exact⟨n1,n2,fun e=>by cases e⟩
  ·refine eb.mapS (fun _=>rfl) (fun _=>rfl) (fun _=>rfl) (fun g o=> ?_) fun _=>rfl
   show (if g.own = !s then (rvG s g).so else (rvG s g).st)=if g.own = !s then g.so else g.st;rcases qy g.own s with e | e
   ·rw[if_neg (qhr e),if_neg (qhr e),(qe7 e).2]
   ·rw[if_pos e,if_pos e,(qf0 e).1]
  ·refine⟨ab.w9,fun e=>(by rw[D] at e;cases e),?_,?_,?_,?_,ab.upd.map _ fun g _=>rfl,qlp ab.along fun _ _ _ _=>⟨rfl,rfl⟩,?_,fun e=>(by rw[D] at e;cases e),by rw[s7];exact ab.last,?_,fun e=> ?_,fun e=>(by rw[D] at e;cases e)⟩
   ·rw[z];exact ab.sig
   ·rw[z,D,Z];rfl
   ·rw[z];exact ab.rv3
   ·rw[z];exact ab.rv4
   ·rw[z];exact ab.ids.congr fun k _=>i k
   ·rw[z];exact ab.shut.congr fun k _=>i k
   ·rw[a5];exact ab.m1 e
  ·refine⟨O,fun e=> ?_,?_,?_,fun e=> ?_,fun e=> ?_,?_,qlp b5 fun _ _ _ _=>⟨rfl,rfl⟩,?_,fun e=> ?_,ba.last,?_,fun e=>(by rw[Z] at e;cases e),fun e=> ?_⟩
   ·rw[F] at e;exact ba.xor e
   ·rw[F,z];exact ba.sig
   ·rw[F];exact ba.aw
   ·rcases v with ⟨E,-⟩ | ⟨E,-⟩<;>rw[E] at e<;>cases e
   ·rcases v with ⟨E,-⟩ | ⟨E,-⟩<;>rw[E] at e<;>cases e
   ·rw[←N];exact ba.upd.map _ fun g _=>rfl
   ·rw[z];have:=ba.ids;rw[N] at this;exact this.congr fun k _=>i k
   ·rw[F] at e;obtain⟨i1,i2,i3⟩:=ba.laS e;refine⟨i1.map _ fun g o=> ?_,?_,?_⟩
    ·unfold Gi.covd;rw[show (rvG s g).own=g.own from rfl];rcases qy g.own s with e | e
     ·rw[(qe7 e).2,e];simp
     ·rw[(qf0 e).1,e];simp
    ·rw[qbk (b4 1 (.inr rfl)),qbk (b8 1)];exact i2.congr fun k _=>i k
    ·rw[i3];congr 1;exact(qb7 rfl fun k _=>i k).symm
   ·rw[z];have:=ba.shut;rw[Y] at this;have this:qbj G (!s) d.k.shutSaid c.k.shutHeard es:=this;exact this.congr fun k _=>i k
   ·rw[F] at e;refine qv4 (fun g o h=> ?_) (ba.ex e);rw[←h];unfold Gi.moved;rw[show (rvG s g).own=g.own from rfl];rcases qy g.own s with e | e
    ·rw[(qe7 e).2,e];simp
    ·rw[(qf0 e).1,e];simp
  ·intro y hy;show y.it s (qj eo) (qj es)∈qa1;obtain⟨g,o,rfl⟩:=List.mem_map.1 hy;have hi:=it g o;rw[←b9];rcases qy g.own s with e | e
   ·rw[qdp (g:=rvG s g) (s:=s) e,(qe7 e).1,(qe7 e).2,(qh2 (m g o).1 true).2.1];rw[qdp e] at hi;exact qwu _ hi a4
   ·rw[qdx (g:=rvG s g) (s:=s) e,(qf0 e).1,(qf0 e).2,(qh2 (m g o).2.1 false).2.1];rw[qdx e] at hi;exact qwv _ hi a4
  ·intro y hy;obtain⟨g,o,rfl⟩:=List.mem_map.1 hy;have hok:=ok g o;refine⟨hok.id,hok.amount,hok.hash,hok.expiry,fun e=>hok.um ?_⟩;rcases qy g.own s with U | U
   ·rw[(qe7 U).2] at e;exact e
   ·rw[(qf0 U).2] at e;exact(qjv (m g o).2.1).2.2.2.2 e
  ·show ((G.map (rvG s)).map Gi.pk).Pairwise Apt;rw[q2t fun g o=> ?_]
   ·exact pw
   ·unfold Gi.pk;rcases qy g.own s with e | e
    ·have w:=(qjv (m g o).1).1 0 true;have w:decide ((0:Int)≤zk g.so true 2)=decide ((0:Int)≤g.so):=w;rw[(qe7 e).1,w];rfl
    ·rw[(qf0 e).1];rfl
  ·show (G.map (rvG s)).length≤n;rw[List.length_map];omega
  ·show msE s c' (G.map (rvG s)) eo=msE s c G eo++[];rw[List.append_nil];exact qdh ab.w9 s5 (fun k _=>i k) (fun e=>by rw[D] at e;cases e) (fun _=>qi8 s5 (by rw[z]))
  ·exact qdh O rfl (fun k _=>i k) (fun _=>rfl) (fun _=>rfl)
 ·have hl:l∈(c.hear M).2.1:=hl;rw[f2] at hl;cases hl
 ·show (c.hear M).2.1.length≤1;rw[f2];exact Nat.zero_le _
theorem q6h{P:Pt}{x:En}(l:K.Ok)(h:Inv K n P)(q:n<1000000000)(i:P.ei=x::es):Hears K n P (enM (!P.s) P.d P.G x) (msE (!P.s) P.d P.G es):=by
 cases x with
 | sgn=>exact qrn l h i
 | rev=>exact qth l h i
 | shut=>exact qrm l h i
 | upd j =>
  have o:j∈ups P.ei:=by rw[i];exact List.mem_cons_self ..
  obtain⟨g,m,-⟩:=(h.ba.upd.iff j).1 o;rcases qy g.own P.s with e | e
  ·exact qtg l h i m e
  ·exact qtf l h q i m e
end
end Go.Proofs.YthnohmjbbeahmaaGreatDoor
