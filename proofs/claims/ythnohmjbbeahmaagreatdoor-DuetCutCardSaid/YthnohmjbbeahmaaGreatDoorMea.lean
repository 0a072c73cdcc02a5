/-
  The protocol, plain: how much there is to do; what both ends are at rest.
-/
import Derived.Test.YthnohmjbbeahmaaGreatDoorMdj
import Derived.Test.YthnohmjbbeahmaaGreatDoorMdc
set_option linter.unusedVariables false
set_option linter.unusedSimpArgs false
namespace Go.Proofs.YthnohmjbbeahmaaGreatDoor
open Go.RowKit
section
variable {p:Gi→Bool}{G:List Gi}
theorem q0h:∀(n:Nat) (l:List Nat),n≤G.length→l.Nodup→(∀j∈l,j<n∧∃g,G[j]? = some g∧p g=true)→(l.length:Int)≤cnt p (G.take n)
 | 0,[],_,_,_=>Int.le_refl _
 | 0,j::l,_,_,h=>absurd (h j (List.mem_cons_self ..)).1 (Nat.not_lt_zero _)
 | n+1,l,x,hd,h=>by
  have o:=q0h n (l.erase n) (by omega) (hd.erase n) fun j t=>by
   obtain⟨a,b⟩:=h j (List.mem_of_mem_erase t);have v:j≠n:=fun e=>by
    subst e;exact(List.Nodup.not_mem_erase hd) t
   exact⟨by omega,b⟩
  obtain⟨g,q⟩:∃g,G[n]? = some g:=⟨_,List.getElem?_eq_getElem (by omega)⟩;rw[List.take_add_one,q];show _≤cnt p (G.take n++[g]);rw[qc6];by_cases m:n∈l
  ·obtain⟨-,g',i,w⟩:=h n m;rw[q] at i;obtain rfl:g=g':=Option.some.inj i;rw[List.length_erase_of_mem m] at o;have:=List.length_pos_of_mem m;rw[if_pos w];omega
  ·rw[List.erase_of_not_mem m] at o;split<;>omega
theorem Idx.cnt{l:List Nat}(h:Idx G p l):(l.length:Int)≤cnt p G:=by
 have:=q0h (p:=p) (G:=G) G.length l (Nat.le_refl _) h.nd fun j g=>⟨h.lt g,(h.iff j).1 g⟩
 rwa [List.take_length] at this
end
theorem zi0(m:MsgV):mwt m≤10:=by unfold mwt;split<;>decide
theorem qx1(s:Bool)(c:Ch)(G:List Gi):∀e:List En,mwL (msE s c G e)≤9*(ups e).length+e.length
 | []=>Nat.le_refl _
 | x::e=>by
  have m:=qx1 s c G e;have l:mwL (msE s c G (x::e))=mwt (enM s c G x)+mwL (msE s c G e):=rfl;rw[l,List.length_cons];cases x with
  | upd j =>
   have g:(ups (.upd j::e)).length=(ups e).length+1:=rfl;have:=zi0 (enM s c G (.upd j));rw[g];omega
  | sgn =>
   have g:(ups (.sgn::e)).length=(ups e).length:=rfl;have i:mwt (enM s c G .sgn)=1:=if_neg (show ¬((6:Int)=3∨(6:Int)=4∨(6:Int)=5) by decide);rw[g,i];omega
  | rev =>
   have g:(ups (.rev::e)).length=(ups e).length:=rfl;have i:mwt (enM s c G .rev)=1:=if_neg (show ¬((7:Int)=3∨(7:Int)=4∨(7:Int)=5) by decide);rw[g,i];omega
  | shut =>
   have g:(ups (.shut::e)).length=(ups e).length:=rfl;have i:mwt (enM s c G .shut)=1:=if_neg (show ¬((8:Int)=3∨(8:Int)=4∨(8:Int)=5) by decide);rw[g,i];omega
theorem q9b:∀x∈qa3,x.2.2.1≠0→0≤x.1∧x.1≤8:=by decide +kernel
section
variable {K:Kon}{n:Nat}
theorem zgq{P:Pt}(h:Inv K n P):(ups P.eo).length+(ups P.ei).length≤16:=by
 have z:=h.ab.upd.cnt;have C:=h.ba.upd.cnt;have D:=h.ea.many;have E:=h.eb.many;have F:cnt (Gi.pend P.s) P.G+cnt (Gi.pend (!P.s)) P.G≤cnt (qbq P.s) P.G+cnt (qbq (!P.s)) P.G:=by
  unfold cnt;rw[qiu,qiu];refine qib fun g x=> ?_
  have y:=h.it g x;have t:=q9b _ y;have v:(g.it P.s (ql P.eo) (ql P.ei)).2.2.1=g.up:=rfl;have w:(g.it P.s (ql P.eo) (ql P.ei)).1=g.so:=rfl;rw[v,w] at t;unfold Gi.pend qbq;rcases za g.own P.s with q | q
  ·rw[q];by_cases m:g.up=0
   ·rw[m];simp;split<;>omega
   ·obtain⟨i,l⟩:=t m;have a1:decide (0≤g.so)=true:=decide_eq_true i;have a2:decide (g.so≤8)=true:=decide_eq_true l;by_cases o:g.up=1
    ·simp[o,a1,a2,i,l]
    ·simp[o,a1,a2,i,l];split<;>omega
  ·rw[q];by_cases m:g.up=0
   ·rw[m];simp;split<;>omega
   ·obtain⟨i,l⟩:=t m;have a1:decide (0≤g.so)=true:=decide_eq_true i;have a2:decide (g.so≤8)=true:=decide_eq_true l;by_cases o:g.up=1
    ·simp[o,a1,a2,i,l]
    ·simp[o,a1,a2,i,l];split<;>omega
 omega
theorem zdg{xs:List Live}(h:St8 xs):rkL xs≤4*xs.length:=by
 induction xs with
 | nil=>exact Nat.le_refl _
 | cons x xs g =>
  have g:=g fun y i=>h y (List.mem_cons_of_mem _ i)
  have l:=h x (List.mem_cons_self ..);have e:rkL (x::xs)=rk x.state+rkL xs:=rfl;have:rk x.state≤4:=by unfold rk;split<;>omega
  rw[e,List.length_cons];omega
theorem PInv.mu{P:Pr}(h:PInv K n P):P.mu<500:=by
 have q:=h.1.st8;have t:=h.1.flip.st8;obtain⟨Q,g,-,i,l,m,o⟩:=h.1;have f1:=qs0 g;have f2:=qs0 g.flip;have f2:Q.d.xs.length≤16:=f2;rw[i] at f1;rw[l] at f2;have w:=zdg q;have x:=zdg t;have u:=zgq g;have l1:=qff g.ab.w9 g.ab.shut;have l2:=qff g.ba.w9 g.ba.shut;have m1:mwL P.wb≤9*(ups Q.eo).length+Q.eo.length:=by rw[←m];exact qx1 _ _ _ _
 have v:mwL P.wa≤9*(ups Q.ei).length+Q.ei.length:=by rw[←o];exact qx1 _ _ _ _
 have l1:Q.eo.length≤(ups Q.eo).length+3:=by
  repeat' split at l1
  all_goals omega
 have l2:Q.ei.length≤(ups Q.ei).length+3:=by
  repeat' split at l2
  all_goals omega
 unfold Pr.mu;omega
def q5o(x:Live):Live:= {x with own:= !x.own}
structure Quiet(a b:Ch):Prop where
 loc:a.loc=b.rem
 rem:a.rem=b.loc
 mir:b.xs.Perm (a.xs.map q5o)
 four:∀x∈a.xs,x.state=4∧x.paid=false
 sab:a.k.signed=b.k.heard
 sba:b.k.signed=a.k.heard
 aw:a.k.awaits=false∧b.k.awaits=false
 shut:a.k.shutSaid=b.k.shutHeard∧b.k.shutSaid=a.k.shutHeard
theorem q0x(own:Bool):qx (-1) own 1 = -1∧qx 9 own 1=9:=by cases own<;>decide +kernel
theorem qvv{s:Bool}{c:Ch}{G:List Gi}(o:c.xs.Perm (G.filterMap (qo s).show))(l:zv 1 c.xs=false)(q:∀g∈G,-1≤(qo s).st g∧(qo s).st g≤9):∀g∈G,qx ((qo s).st g) ((qo s).mine g) 1=(qo s).st g:=by
 intro g i;by_cases h:0≤(qo s).st g∧(qo s).st g≤8
 ·have t:(qo s).show g=some ⟨g.h,(qo s).mine g,(qo s).st g,(qo s).paid g&&decide (5≤(qo s).st g)⟩:=by unfold Seen.show qa9;rw[if_pos h];rfl
  have m:(⟨g.h,(qo s).mine g,(qo s).st g,(qo s).paid g&&decide (5≤(qo s).st g)⟩:Live)∈c.xs:=o.mem_iff.2 (List.mem_filterMap.2 ⟨g,i,t⟩);have:=List.any_eq_false.1 l _ m;unfold chg at this;simpa using this
 ·have:=q g i;rcases (by omega:(qo s).st g = -1∨(qo s).st g=9) with e | e
  ·rw[e];exact(q0x _).1
  ·rw[e];exact(q0x _).2
theorem qr5{α β:Type}{f h:α→Option β} : ∀ {G:List α},(∀g∈G,f g=h g)→G.filterMap f=G.filterMap h
 | [],_=>rfl
 | g::G,e=>by
  rw[List.filterMap_cons,List.filterMap_cons,e g (List.mem_cons_self ..),qr5 fun y i=>e y (List.mem_cons_of_mem _ i)]
theorem q54{s:Bool}{c:Ch}{G:List Gi}{e:List En}(h:msE s c G e=[]):e=[]:=by
 cases e with
 | nil=>rfl
 | cons x e=>cases h
theorem quiet_of{P:Pr}(hn:n<65535)(h:PInv K n P)(hr:P.Rest):Quiet P.a P.b:=by
 obtain⟨h1,-,sa,sb⟩:=h;obtain⟨Q,hQ,-,q,o,V,W⟩:=h1;obtain⟨r1,r2,R,T⟩:=hr;rw[←q] at R sa ⊢;rw[←o] at T sb ⊢;have Y:Q.eo=[]:=q54 (V.trans r2);have Z:Q.ei=[]:=q54 (W.trans r1);clear q o V W r1 r2;obtain⟨s,c,d,eo,ei,G,la,nu,lb,nv⟩:=Q;obtain⟨ea,eb,ab,ba,it,ok,pw,few⟩:=hQ;simp only at ea eb ab ba it Y Z R T sa sb ⊢;subst Y;subst Z;have a1:c.k.awaits=false:=ab.aw;have a2:d.k.awaits=false:=ba.aw;have g1:c.k.signed=d.k.heard:=by have:=ab.sig;rw[if_neg (by decide),Int.add_zero] at this;exact this
 have g2:d.k.signed=c.k.heard:=by have:=ba.sig;rw[if_neg (by decide),Int.add_zero] at this;exact this
 have c1:zv 1 c.xs=false:=by
  cases L:zv 1 c.xs with
  | false=>rfl
  | true=>exact absurd (by unfold qa0;rw[a1,L,if_neg (by decide),if_neg (by decide),if_neg (by omega)]) R
 have c2:zv 1 d.xs=false:=by
  cases L:zv 1 d.xs with
  | false=>rfl
  | true=>exact absurd (by unfold qa0;rw[a2,L,if_neg (by decide),if_neg (by decide),if_neg (by omega)]) T
 have t1:=qvv ea.perm c1 (qe7 it s);have t2:=qvv eb.perm c2 (qe7 it (!s));have O:∀g∈G,g.up=0:=by
  intro g i;obtain⟨j,H⟩:=List.getElem?_of_mem i;by_cases I:g.up=0
  ·exact I
  ·have h2:=(qvw _ (it g i)).2.2.2.2;have e1:(g.it s (ql []) (ql [])).2.2.1=g.up:=rfl;rw[e1] at h2;rcases za g.own s with l | l
   ·rcases (by omega:g.up=1∨g.up=2) with u | u
    ·have:=(ab.upd.iff j).2 ⟨g,H,by unfold Gi.pend;rw[l,u];simp⟩;cases this
    ·have:=(ba.upd.iff j).2 ⟨g,H,by unfold Gi.pend;rw[l,u];simp⟩;cases this
   ·rcases (by omega:g.up=1∨g.up=2) with u | u
    ·have:=(ba.upd.iff j).2 ⟨g,H,by unfold Gi.pend;rw[l,u];simp⟩;cases this
    ·have:=(ab.upd.iff j).2 ⟨g,H,by unfold Gi.pend;rw[l,u];simp⟩;cases this
 have v:∀g∈G,(g.so = -1∧g.st = -1)∨(g.so=4∧g.st=4)∨(g.so=9∧g.st=9):=by
  intro g i;have F:=it g i;have y:=t1 g i;have C:=t2 g i;have I:=O g i;have m1:(qo s).mine g=(g.own==s):=rfl;have m2:(qo (!s)).mine g=(g.own == !s):=rfl;have M:(qo s).st g=if g.own=s then g.so else g.st:=rfl;have N:(qo (!s)).st g=if g.own = !s then g.so else g.st:=rfl;rw[m1,M] at y;rw[m2,N] at C;rcases za g.own s with l | l
  ·have J:(g.own==s)=true:=by rw[l];simp
   have t:(g.own == !s)=false:=by rw[l];simp
   rw[if_pos l,J] at y;rw[if_neg (qh7 l),t] at C;rw[qdp l] at F;exact qtf _ F I rfl rfl y C
  ·have J:(g.own==s)=false:=by rw[l];simp
   have t:(g.own == !s)=true:=by rw[l];simp
   rw[if_neg (qb3 l),J] at y;rw[if_pos l,t] at C;rw[qdv l] at F;exact qtf _ F I rfl rfl C y
 have m:∀g∈G,(qo s).st g=g.so∧(qo (!s)).st g=g.so:=by
  intro g i;have M:(qo s).st g=if g.own=s then g.so else g.st:=rfl;have N:(qo (!s)).st g=if g.own = !s then g.so else g.st:=rfl;have:=v g i;rw[M,N];constructor<;>split<;>omega
 have mine:∀g:Gi,(qo (!s)).mine g = !(qo s).mine g:=by
  intro g;show (g.own == !s) = !(g.own==s);cases g.own<;>cases s<;>rfl
 have U:∀g∈G,(qo (!s)).show g=((qo s).show g).map q5o:=by
  intro g i;obtain⟨D,E⟩:=m g i;unfold Seen.show qa9;rw[D,E,mine];by_cases h:0≤g.so∧g.so≤8
  ·rw[if_pos h,if_pos h];rfl
  ·rw[if_neg h,if_neg h];rfl
 have e5:c.loc=d.rem:=by
  rw[ea.loc,eb.rem,Bool.not_not];congr 1;unfold Seen.conL Seen.conR;refine qei fun g i=> ?_
  obtain⟨D,E⟩:=m g i;rw[D,E,mine,Bool.not_not];rfl
 have e6:c.rem=d.loc:=by
  rw[ea.rem,eb.loc];congr 1;unfold Seen.conL Seen.conR;refine qei fun g i=> ?_
  obtain⟨D,E⟩:=m g i;rw[D,E,mine];rfl
 refine⟨e5,e6,?_,?_,g1,g2,⟨a1,a2⟩,ab.shut,ba.shut⟩
 ·refine eb.perm.trans (List.Perm.trans ?_ (ea.perm.map q5o).symm);rw[List.map_filterMap];have:G.filterMap (qo (!s)).show=G.filterMap fun g=>((qo s).show g).map q5o:=by
   exact qr5 fun g i=>U g i
  rw[this]
 ·intro x hx;obtain⟨g,i,w⟩:=List.mem_filterMap.1 (ea.perm.mem_iff.1 hx);unfold Seen.show qa9 at w;have z:=(m g i).1;rw[z] at w;split at w
  ·rename_i h;obtain rfl:=Option.some.inj w;have X:g.so=4:=by have:=v g i;omega
   refine⟨X,?_⟩;show (_&&decide (5≤g.so))=false;rw[X];simp
  ·cases w
end
noncomputable def Pr.heardN(P:Pr)(k:Nat):Nat→Pr
 | 0=>P
 | i+1=>((P.heardN k i).heard k).1
section
variable {K:Kon}{n k:Nat}{P:Pr}
theorem PInv.heardN(g:K.Ok)(m:n<100000)(h:PInv K n P)(l:k<2):∀i,PInv K n (P.heardN k i)
 | 0=>h
 | i+1=>(PInv.heardN g m h l i).heard g m l
theorem q79(P:Pr):∃r,((P.heard 0).1).b=P.b∧((P.heard 0).1).wa=P.wa.drop 1∧((P.heard 0).1).wb=P.wb++r:=by
 obtain⟨a,b,wa,wb,bad⟩:=P;cases wa with
 | nil=>exact⟨[],rfl,rfl,(List.append_nil _).symm⟩
 | cons m ms=>exact⟨_,rfl,rfl,rfl⟩
theorem q8a(P:Pr):∃r,((P.heard 1).1).a=P.a∧((P.heard 1).1).wb=P.wb.drop 1∧((P.heard 1).1).wa=P.wa++r:=by
 obtain⟨a,b,wa,wb,bad⟩:=P;cases wb with
 | nil=>exact⟨[],rfl,rfl,(List.append_nil _).symm⟩
 | cons m ms=>exact⟨_,rfl,rfl,rfl⟩
theorem qh1(P:Pr):∀i,∃r,(P.heardN 0 i).b=P.b∧(P.heardN 0 i).wa=P.wa.drop i∧(P.heardN 0 i).wb=P.wb++r
 | 0=>⟨[],rfl,rfl,(List.append_nil _).symm⟩
 | i+1=>by
  obtain⟨r,o,t,v⟩:=qh1 P i;obtain⟨q,g,l,m⟩:=q79 (P.heardN 0 i);exact⟨r++q,g.trans o,by rw[show P.heardN 0 (i+1)=((P.heardN 0 i).heard 0).1 from rfl,l,t,List.drop_drop],by rw[show P.heardN 0 (i+1)=((P.heardN 0 i).heard 0).1 from rfl,m,v,List.append_assoc]⟩
theorem qne(P:Pr):∀i,i≤P.wb.length→∃r,(P.heardN 1 i).a=P.a∧(P.heardN 1 i).wb=P.wb.drop i∧(P.heardN 1 i).wa=P.wa++r
 | 0,_=>⟨[],rfl,rfl,(List.append_nil _).symm⟩
 | i+1,w=>by
  obtain⟨r,o,t,v⟩:=qne P i (by omega);obtain⟨q,g,l,m⟩:=q8a (P.heardN 1 i);exact⟨r++q,g.trans o,by rw[show P.heardN 1 (i+1)=((P.heardN 1 i).heard 1).1 from rfl,l,t,List.drop_drop],by rw[show P.heardN 1 (i+1)=((P.heardN 1 i).heard 1).1 from rfl,m,v,List.append_assoc]⟩
noncomputable def Pr.lets(P:Pr)(i j:Nat):Pr:=⟨(P.heardN 0 i).a,((P.heardN 0 i).heardN 1 j).b,P.wa.drop i,P.wb.drop j,false⟩
structure Many(K:Kon)(a r:Nat)(P:Pr):Prop where
 ex:∃n,PInv K n P∧n≤a+500*r∧n+P.mu≤501*a
theorem Many.inv{a r:Nat}(h:Many K a r P):∃n,PInv K n P∧(a+r≤150→n<60000):=by
 obtain⟨n,g,i,l⟩:=h.ex;exact⟨n,g,fun h=>by omega⟩
end
def b2n(b:Bool):Nat:=if b=true then 1 else 0
noncomputable def Pr.hk(R:Pr):Nat→Pr
 | 0=>R
 | k+1=>((R.hk k).heard k).1
noncomputable def Pr.ck(R:Pr):Nat→Nat
 | 0=>0
 | k+1=>R.ck k+b2n ((R.hk k).heard k).2
noncomputable def Pr.signs(P:Pr)(k:Nat):Pr:=P.act k (P.en k).sign
noncomputable def Pr.sk(R:Pr):Nat→Pr
 | 0=>R.hk 2
 | k+1=>(R.sk k).signs k
noncomputable def Pr.gk(R:Pr):Nat→Bool
 | 0=>decide (0<R.ck 2)
 | k+1=>R.gk k || (((R.sk k).en k).sign.2.2==0)
noncomputable def Pr.rounds:Nat→Pr→Pr
 | 0,P=>P
 | i+1,P=>Pr.rounds i (P.sk 2)
noncomputable def Pr.cnts:Nat→Pr→Nat
 | 0,_=>0
 | i+1,P=>P.ck 2+Pr.cnts i (P.sk 2)
noncomputable def Pr.restD(P:Pr):Pr:=Pr.rounds P.mu P
noncomputable def Pr.restN(P:Pr):Nat:=Pr.cnts P.mu P
def Bnd(K:Kon)(N:Nat)(P:Pr):Prop:=∃n,PInv K n P∧n+P.mu≤N
section
variable {K:Kon}{N n k:Nat}{P R:Pr}
theorem Bnd.of(h:PInv K n P):Bnd K (n+P.mu) P:=⟨n,h,Nat.le_refl _⟩
theorem Bnd.hear(i:K.Ok)(o:N<99000)(h:Bnd K N P)(l:k<2):Bnd K N (P.heard k).1:=by
 obtain⟨n,g,m⟩:=h;obtain⟨a,b⟩:=g.hears_mu i (by omega) l;refine⟨n,g.heard i (by omega) l,?_⟩;cases e:(P.heard k).2 with
 | true=>have:=a e;omega
 | false=>rw[(b e).1];exact m
theorem Bnd.signs(m:K.Ok)(h:Bnd K N P)(i:k<2):Bnd K N (P.signs k):=by
 obtain⟨n,g,l⟩:=h;obtain⟨a,b⟩:=g.sign_mu i;by_cases e:(P.en k).sign.2.2=0
 ·have:=a e;exact⟨n+1,(g.sign m i).1,by unfold Pr.signs;omega⟩
 ·unfold Pr.signs;rw[(b e).1];exact⟨n,g,l⟩
theorem Bnd.hk(g:K.Ok)(l:N<99000)(h:Bnd K N P):∀i,i≤2→Bnd K N (P.hk i)
 | 0,_=>h
 | i+1,m=>(Bnd.hk g l h i (by omega)).hear g l (by omega)
theorem Bnd.sk(g:K.Ok)(l:N<99000)(h:Bnd K N P):∀i,i≤2→Bnd K N (P.sk i)
 | 0,_=>h.hk g l 2 (Nat.le_refl _)
 | i+1,m=>(Bnd.sk g l h i (by omega)).signs g (by omega)
theorem q5r(l:K.Ok)(t:N<99000)(h:Bnd K N P):∀i,i≤2→(P.hk i).mu+P.ck i≤P.mu∧(P.ck i=0→P.hk i=P∧∀k,k<i→P.way k=[])
 | 0,_=>⟨Nat.le_refl _,fun _=>⟨rfl,fun k v=>absurd v (Nat.not_lt_zero _)⟩⟩
 | i+1,E=>by
  obtain⟨D,C⟩:=q5r l t h i (by omega);obtain⟨n,a1,a2⟩:=h.hk l t i (by omega);obtain⟨b1,b2⟩:=a1.hears_mu l (by omega) (show i<2 by omega);have y:P.hk (i+1)=((P.hk i).heard i).1:=rfl;have z:P.ck (i+1)=P.ck i+b2n ((P.hk i).heard i).2:=rfl;rw[y,z];cases e:((P.hk i).heard i).2 with
  | true =>
   have:=b1 e;refine⟨by show _+(_+1)≤_;omega,fun g=> ?_⟩;have g:P.ck i+1=0:=g;omega
  | false =>
   obtain⟨w,o⟩:=b2 e;rw[w];refine⟨by show _+(_+0)≤_;omega,fun g=> ?_⟩;have g:P.ck i+0=0:=g;obtain⟨q,x⟩:=C (by omega);refine⟨q,fun k v=> ?_⟩;by_cases m:k=i
   ·subst m;rw[q] at o;exact o
   ·exact x k (by omega)
theorem qm3(o:K.Ok)(q:N<99000)(h:Bnd K N P):∀i,i≤2→(P.gk i=true→(P.sk i).mu<P.mu)∧(P.gk i=false→P.sk i=P∧P.ck 2=0∧(∀k,k<2→P.way k=[])∧∀k,k<i→qa0 (P.en k)≠0)
 | 0,_=>by
  obtain⟨m,g⟩:=q5r o q h 2 (Nat.le_refl _);refine⟨fun e=> ?_,fun e=> ?_⟩
  ·have e:0<P.ck 2:=of_decide_eq_true e;show (P.hk 2).mu<_;omega
  ·have e:¬0<P.ck 2:=of_decide_eq_false e;obtain⟨a,b⟩:=g (by omega);exact⟨a,by omega,b,fun k y=>absurd y (Nat.not_lt_zero _)⟩
 | i+1,I=>by
  obtain⟨m,g⟩:=qm3 o q h i (by omega);obtain⟨n,a1,a2⟩:=h.sk o q i (by omega);obtain⟨b1,b2⟩:=a1.sign_mu (show i<2 by omega);have F:P.sk (i+1)=(P.sk i).act i ((P.sk i).en i).sign:=rfl;have H:P.gk (i+1)=(P.gk i || (((P.sk i).en i).sign.2.2==0)):=rfl;rw[F,H];by_cases e:((P.sk i).en i).sign.2.2=0
  ·have:=b1 e;refine⟨fun _=> ?_,fun l=> ?_⟩
   ·cases x:P.gk i with
    | true=>have:=m x;omega
    | false=>rw[(g x).1] at this ⊢;exact this
   ·rw[e] at l;simp at l
  ·obtain⟨z,v⟩:=b2 e;rw[z,show (((P.sk i).en i).sign.2.2==0)=false from beq_eq_false_iff_ne.2 e,Bool.or_false];refine⟨m,fun l=> ?_⟩;obtain⟨w,C,D,E⟩:=g l;refine⟨w,C,D,fun k y=> ?_⟩;by_cases t:k=i
   ·subst t;rw[w] at v;exact v
   ·exact E k (by omega)
theorem qh9(g:K.Ok)(i:N<99000)(h:Bnd K N R)(l:R.gk 2=false):R.Rest∧R.sk 2=R∧R.ck 2=0:=by
 obtain⟨a,b,c,d⟩:=(qm3 g i h 2 (Nat.le_refl _)).2 l;exact⟨⟨c 0 (by decide),c 1 (by decide),d 0 (by decide),d 1 (by decide)⟩,a,b⟩
theorem qmi{k:Nat}(i:k<2)(g:R.way k=[]):R.heard k=(R,false):=by
 obtain⟨a,b,wa,wb,bad⟩:=R;rcases qbk i with rfl | rfl
 ·have g:wa=[]:=g;subst g;rfl
 ·have g:wb=[]:=g;subst g;rfl
theorem Pr.Rest.way(h:R.Rest){k:Nat}(g:k<2):R.way k=[]:=by
 rcases qbk g with rfl | rfl
 ·exact h.wa
 ·exact h.wb
theorem Pr.Rest.err(h:R.Rest){k:Nat}(g:k<2):qa0 (R.en k)≠0:=by
 rcases qbk g with rfl | rfl
 ·exact h.sa
 ·exact h.sb
theorem qnu(h:R.Rest){k:Nat}(g:k<2):R.signs k=R:=by
 have e:=h.err g;unfold Pr.signs;rw[ql6 rfl e];obtain⟨a,b,wa,wb,bad⟩:=R;rcases qbk g with rfl | rfl
 ·have e:qa0 a≠0:=e;show (⟨a,b,wa,qd4 wb MsgV.zero (qa0 a),bad⟩:Pr)=_;unfold qd4;rw[if_neg e]
 ·have e:qa0 b≠0:=e;show (⟨a,b,qd4 wa MsgV.zero (qa0 b),wb,bad⟩:Pr)=_;unfold qd4;rw[if_neg e]
theorem q4d(h:R.Rest):R.sk 2=R∧R.ck 2=0∧R.gk 2=false:=by
 have i:=qmi (show 0<2 by decide) (h.way (show 0<2 by decide));have l:=qmi (show 1<2 by decide) (h.way (show 1<2 by decide));have m:R.hk 1=R:=by show (R.heard 0).1=R;rw[i]
 have o:R.hk 2=R:=by show ((R.hk 1).heard 1).1=R;rw[m,l]
 have q:R.sk 1=R:=by show (R.hk 2).signs 0=R;rw[o];exact qnu h (by decide)
 have w:R.sk 2=R:=by show (R.sk 1).signs 1=R;rw[q];exact qnu h (by decide)
 have t:R.ck 1=0:=by show 0+b2n (R.heard 0).2=0;rw[i];rfl
 have g:R.ck 2=0:=by show R.ck 1+b2n ((R.hk 1).heard 1).2=0;rw[m,l,t];rfl
 refine⟨w,g,?_⟩;have v:((R.en 0).sign.2.2==0)=false:=by rw[qjr];exact beq_eq_false_iff_ne.2 (h.err (by decide))
 have f1:((R.en 1).sign.2.2==0)=false:=by rw[qjr];exact beq_eq_false_iff_ne.2 (h.err (by decide))
 show ((decide (0<R.ck 2) || (((R.sk 0).en 0).sign.2.2==0)) || (((R.sk 1).en 1).sign.2.2==0))=false;rw[q,show R.sk 0=R from o,v,f1,g];rfl
theorem qdk(h:R.Rest):∀m,Pr.rounds m R=R∧Pr.cnts m R=0
 | 0=>⟨rfl,rfl⟩
 | m+1=>by
  obtain⟨a,b,-⟩:=q4d h;show Pr.rounds m (R.sk 2)=R∧R.ck 2+Pr.cnts m (R.sk 2)=0;rw[a,b];obtain⟨c,d⟩:=qdk h m;exact⟨c,by omega⟩
theorem q5e(i:K.Ok)(l:N<99000):∀m (R:Pr),Bnd K N R→Pr.cnts m R≤R.mu
 | 0,_,_=>Nat.zero_le _
 | m+1,R,h=>by
  have v:=q5e i l m (R.sk 2) (h.sk i l 2 (Nat.le_refl _));show R.ck 2+Pr.cnts m (R.sk 2)≤R.mu;have w:=q5r i l h 2 (Nat.le_refl _);have x:(R.sk 2).mu≤(R.hk 2).mu:=by
   have g:∀(P:Pr) (k:Nat),k<2→Bnd K N P→(P.signs k).mu≤P.mu:=fun P k o ⟨n,a1,a2⟩=>by
    obtain⟨b1,b2⟩:=a1.sign_mu o;by_cases e:(P.en k).sign.2.2=0
    ·have:=b1 e;exact Nat.le_of_lt this
    ·exact Nat.le_of_eq (congrArg Pr.mu (b2 e).1)
   have q:=g (R.sk 0) 0 (by decide) (h.sk i l 0 (by decide));have t:=g (R.sk 1) 1 (by decide) (h.sk i l 1 (by decide));exact Nat.le_trans t q
  omega
structure RsD(K:Kon)(N:Nat)(P:Pr)(h:Nat)(go:Bool)(R:Pr):Prop where
 bnd:Bnd K N R
 ex:∃m,Pr.rounds m R=P.restD∧h+Pr.cnts m R=P.restN∧R.mu≤m
 no:go=false→R.Rest
theorem RsD.start(h:Bnd K N P):RsD K N P 0 true P:=⟨h,⟨P.mu,rfl,Nat.zero_add _,Nat.le_refl _⟩,fun e=>by cases e⟩
theorem RsD.next(g:K.Ok)(i:N<99000){h:Nat}(r:RsD K N P h true R):RsD K N P (h+R.ck 2) (R.gk 2) (R.sk 2):=by
 obtain⟨l,⟨m,t,v,z⟩,-⟩:=r;refine⟨l.sk g i 2 (Nat.le_refl _),?_,fun e=> ?_⟩
 ·cases y:R.gk 2 with
  | true =>
   have:=(qm3 g i l 2 (Nat.le_refl _)).1 y;obtain⟨q,rfl⟩:∃q,m=q+1:=⟨m-1,by omega⟩;exact⟨q,t,by rw[←v,Nat.add_assoc];rfl,by omega⟩
  | false =>
   obtain⟨w,o,x⟩:=qh9 g i l y;rw[o,x];exact⟨m,t,v,z⟩
 ·obtain⟨w,o,x⟩:=qh9 g i l e;rw[o];exact w
theorem RsD.stop{h:Nat}(r:RsD K N P h false R):P.restD=R∧P.restN=h∧P.restD.Rest∧Bnd K N P.restD:=by
 obtain⟨o,⟨m,g,l,t⟩,q⟩:=r;have i:=q rfl;obtain⟨c,d⟩:=qdk i m;rw[c] at g;rw[d] at l;exact⟨g.symm,by omega,by rw[←g];exact i,by rw[←g];exact o⟩
theorem RsD.few(i:K.Ok)(l:N<99000){h:Nat}{g:Bool}(r:RsD K N P h g R)(o:Bnd K N P):h≤P.mu:=by
 obtain⟨x,⟨m,q,t,v⟩,y⟩:=r;have:=q5e i l P.mu P o;have w:P.restN≤P.mu:=this;omega
end
attribute [local go_sem ↓ high] zy zz z7
attribute [local go_sem] qb2 qcb qci zb
theorem DuP.opE{w0 w:World}{p:Nat}{S:Nat→Prop}{P:Pr}{g:Nat→Nat}{T:Nat→Nat→Prop}{u:Nat→Value}(h:DuP w0 w p S P g T u)(t:Tb w0){k:Nat}(i:k<2):ChS w (g k) (T k) (P.en k)∧Apart (T k)∧Tb w∧∀w' c',ChS w' (g k) (Fr (T k) w w') c'→Upd (T k) w w'→DSt w0 w p S w' (P.set k c') :=
 ⟨h.en k i,h.apart t i,t.new h.n,fun w' c' o l=>⟨⟨_,_,_,h.op i o l⟩,l.mono (fun b _ m=>h.tS k i b m)⟩⟩
theorem ql2{r:Ch × MsgV × Int}(h:MsgOk r.2.1):(qox r).hash.length=32:=by
 unfold qox;split
 ·exact h.len
 ·exact qu
theorem qd9(g:Fn)(first cap:Array Value)(w:World):(Instr.makeFunc g first cap).run Tryz.prog w = .ok (.func g first cap) w:=rfl
set_option maxRecDepth 100000 in
set_option maxHeartbeats 2000000 in
theorem qpb{w0 w:World}{p:Nat}{S:Nat→Prop}{P:Pr}(Y:Tb w0)(h:DuD w0 w p S P)(k:Int)(l:Nat)(m:sd k=l)(hok:SignOk (P.en l))(o:MsgOk (P.en l).sign.2.1)(t:(P.way (1-l)).length<1000000) :
  Calls Tryz.prog 16 #[.pointer (some ⟨p,0,none⟩),.int .i64 k] w fun e w'=>e = .returned (.int .i64 (P.en l).sign.2.2)∧DSt w0 w p S w' (P.act l (P.en l).sign):=by
 have Z:l<2:=m▸qeo k
 have H:=qb h
 obtain⟨g,T,u,x⟩:=h
 have z:=fun W (n:qq w W)=>qmc (x.new n) k l m
 have i:=fun W (n:qq w W)=>qlj ((qa H).new n) k l m 36 #[.pointer (some ⟨g l,0,none⟩)] #[] (enters_of Tryz.func36 (by kernel_rfl) rfl) (P.en l).sign o t (fun N n'=>by
  obtain⟨O,R,U,V⟩:=(x.new (n.trans n')).opE Y Z;exact(zd3 _ _ _ N O U R hok.key hok.ch hok.few hok.xs).mono fun e w' y=>⟨y.1,V _ _ y.2.1 y.2.2⟩)
 have K:=ql2 o
 generalize P.act l (P.en l).sign=P' at i ⊢
 generalize qox (P.en l).sign=M at i K
 generalize (P.en l).sign=r at i ⊢
 generalize g l=ge at i z
 have a4:=qd9
 have v:=z w (Upd.refl _ _)
 clear x z o t hok
 go_enter Tryz.func16,Tryz.ntmps16
 go_wp2_with (with_reducible first|(first|refine' zi (qg ?_) ?_|refine' zj (qg ?_) ?_);rotate_left|refine' zk (qg ?_)|rfl|apply tn|refine' zl ?_)
 refine v.mono ?_
 rintro e w1 ⟨rfl,q⟩
 have D:qq w w1:=q.upd _
 have i:=i w1 D
 have I:=qb D
 clear v q D
 go_wp2_with (with_reducible first|(first|refine' zi (qg ?_) ?_|refine' zj (qg ?_) ?_);rotate_left|refine' zk (qg ?_)|rfl|apply tn|refine' zl ?_)
 refine i.mono ?_
 rintro e E ⟨rfl,J⟩
 obtain⟨C,X,L⟩:=qgs E M K
 have F:=qb ((DSt.after (qa H) (qa I) J).then (qa H).n.size (qa H).lt L)
 clear i J X L I
 go_upto_region 2 with (with_reducible first|(first|refine' zi (qg ?_) ?_|refine' zj (qg ?_) ?_);rotate_left|refine' zk (qg ?_)|rfl|apply tn|refine' zl ?_)
 change Code.wp _ _ _ _ (qg8 E M)
 generalize qg8 E M=w3 at F ⊢
 clear C
 go_wp2_with (with_reducible first|(first|refine' zi (qg ?_) ?_|refine' zj (qg ?_) ?_);rotate_left|refine' zk (qg ?_)|rfl|apply tn|refine' zl ?_)
 go_ret
 exact⟨rfl,qa F⟩
set_option maxRecDepth 100000 in
set_option maxHeartbeats 2000000 in
theorem q7i{w0 w:World}{p:Nat}{S:Nat→Prop}{P:Pr}(V:Tb w0)(h:DuD w0 w p S P)(k:Int)(l:Nat)(m:sd k=l)(o:MsgOk (P.en l).shut.2.1)(t:(P.way (1-l)).length<1000000) :
  Calls Tryz.prog 44 #[.pointer (some ⟨p,0,none⟩),.int .i64 k] w fun e w'=>e = .returned (.int .i64 (P.en l).shut.2.2)∧DSt w0 w p S w' (P.act l (P.en l).shut):=by
 have X:l<2:=m▸qeo k
 have H:=qb h
 obtain⟨g,T,u,x⟩:=h
 have z:=fun W (n:qq w W)=>qmc (x.new n) k l m
 have i:=fun W (n:qq w W)=>qlj ((qa H).new n) k l m 65 #[.pointer (some ⟨g l,0,none⟩)] #[] (enters_of Tryz.func65 (by kernel_rfl) rfl) (P.en l).shut o t (fun N Z=>by
  obtain⟨O,e2,e3,R⟩:=(x.new (n.trans Z)).opE V X;exact(zdx _ _ _ N O).mono fun e w' y=>⟨y.1,R _ _ y.2.1 y.2.2⟩)
 have K:=ql2 o
 generalize P.act l (P.en l).shut=P' at i ⊢
 generalize qox (P.en l).shut=M at i K
 generalize (P.en l).shut=r at i ⊢
 generalize g l=ge at i z
 have Y:=qd9
 have v:=z w (Upd.refl _ _)
 clear x z o t
 go_enter Tryz.func44,Tryz.ntmps44
 go_wp2_with (with_reducible first|(first|refine' zi (qg ?_) ?_|refine' zj (qg ?_) ?_);rotate_left|refine' zk (qg ?_)|rfl|apply tn|refine' zl ?_)
 refine v.mono ?_
 rintro e w1 ⟨rfl,q⟩
 have D:qq w w1:=q.upd _
 have i:=i w1 D
 have I:=qb D
 clear v q D
 go_wp2_with (with_reducible first|(first|refine' zi (qg ?_) ?_|refine' zj (qg ?_) ?_);rotate_left|refine' zk (qg ?_)|rfl|apply tn|refine' zl ?_)
 refine i.mono ?_
 rintro e E ⟨rfl,J⟩
 obtain⟨C,U,L⟩:=qgs E M K
 have F:=qb ((DSt.after (qa H) (qa I) J).then (qa H).n.size (qa H).lt L)
 clear i J U L I
 go_upto_region 2 with (with_reducible first|(first|refine' zi (qg ?_) ?_|refine' zj (qg ?_) ?_);rotate_left|refine' zk (qg ?_)|rfl|apply tn|refine' zl ?_)
 change Code.wp _ _ _ _ (qg8 E M)
 generalize qg8 E M=w3 at F ⊢
 clear C
 go_wp2_with (with_reducible first|(first|refine' zi (qg ?_) ?_|refine' zj (qg ?_) ?_);rotate_left|refine' zk (qg ?_)|rfl|apply tn|refine' zl ?_)
 go_ret
 exact⟨rfl,qa F⟩
end Go.Proofs.YthnohmjbbeahmaaGreatDoor
namespace Go.Proofs.YthnohmjbbeahmaaGreatDoor
open Go.RowKit
attribute [local go_sem ↓ high] qab qan qar qaw zy zz z7 qaa
attribute [local go_sem] qcr qde qdn zb qb2 qcb qci qbi
abbrev q6n(g i l:Nat)(N:Int)(m:List Int)(ex:Int)(w:World):Prop:=w.cell? ⟨g,0,none⟩=some (.int .u64 N)∧zu w i 0 32=some (qy m).toArray∧w.cell? ⟨l,0,none⟩=some (.int .i64 ex)
set_option maxRecDepth 100000 in
set_option maxHeartbeats 2000000 in
theorem qzt{w0 w:World}{p:Nat}{S:Nat→Prop}{P:Pr}{g:Nat→Nat}{T:Nat→Nat→Prop}{u:Nat→Value}(hT:Tb w0)(O:DuP w0 w p S P g T u)(k:Int)(i:Nat)(F:sd k=i)(N ex:Int)(l:List Int)(b5 b6 x y z:Nat)
  (c5:w.cell? ⟨b5,0,none⟩=some (.pointer (some ⟨p,0,none⟩))) (c6:w.cell? ⟨b6,0,none⟩=some (.int .i64 k)) (J:q6n x y z N l ex w) (hl:l.length=32)
  (R:MsgOk ((P.en i).offer N (qcl l) ex).2.1)
  (K:∀W,qq w W→Calls Tryz.prog 30 #[.pointer (some ⟨g i,0,none⟩),.int .u64 N,.agg (qy l).toArray,.int .i64 ex] W fun e w' =>
   e = .returned (.tuple #[.agg ((P.en i).offer N (qcl l) ex).2.1.cells.toArray,.int .i64 ((P.en i).offer N (qcl l) ex).2.2])∧DSt w0 W p S w' (P.set i ((P.en i).offer N (qcl l) ex).1)) :
  Calls Tryz.prog 29 #[.pointer (some ⟨b5,0,none⟩),.pointer (some ⟨b6,0,none⟩),.pointer (some ⟨x,0,none⟩),.pointer (some ⟨y,0,none⟩),.pointer (some ⟨z,0,none⟩)] w fun e w' =>
   e = .returned (.tuple #[.agg ((P.en i).offer N (qcl l) ex).2.1.cells.toArray,.int .i64 ((P.en i).offer N (qcl l) ex).2.2])∧DSt w0 w p S w' (P.set i ((P.en i).offer N (qcl l) ex).1):=by
 have hk:i<2:=F▸qeo k
 generalize hr:(P.en i).offer N (qcl l) ex=r at *
 have t:=R.len
 have hs:=fun W (n:qq w W)=>qmc (O.new n) k i F
 have H:=qb (show DuD w0 w p S P from⟨g,T,u,O⟩)
 have b0:=qbz w MsgV.zero qu
 have m:qq w (w.alloc (.cells MsgV.zero.cells.toArray 71)):=(Upd.refl _ _).alloc _
 go_enter Tryz.func29,Tryz.ntmps29
 go_upto_region 1 with (with_reducible first|(first|refine' zi (qg ?_) ?_|refine' zj (qg ?_) ?_);rotate_left|refine' zk (qg ?_)|rfl|apply tn|refine' zl ?_)
 generalize w.alloc (.cells MsgV.zero.cells.toArray 71)=w1 at b0 m ⊢
 obtain⟨B,hB⟩:∃B,B=w.heap.size:=⟨_,rfl⟩
 rw[←hB] at b0 ⊢
 have E:¬S B:=fun e=>by have:=((qa H).lt B e).2;omega
 have a5:=b0.lt
 have a6:w.heap.size≤B:=by omega
 have d5:=m.cell c5 (fun h=>h)
 have d6:=m.cell c6 (fun h=>h)
 have C:q6n x y z N l ex w1.drew:=⟨m.cell J.1 (fun h=>h),qa6 J.2.1 m.drew (fun h=>h),m.cell J.2.2 (fun h=>h)⟩
 have I:=hs w1.drew m.drew
 have N1:=qb m
 have B0:=qb b0
 generalize g i=ge at *
 clear hs hB O c5 c6 J m b0 hr
 refine qcq (q6n x y z N l ex) [3,4,5] (.of [0,1,2,3,4,5,6,7,8,9,10]) (by kernel_rfl) (by kernel_rfl) C ?_
 simp only[Plan.of]
 go_wp2_with (with_reducible first|(first|refine' qw1 (qg ?_) ?_|refine' qw2 (qg ?_) ?_|refine' qw3 (qg ?_) ?_);rotate_left|refine' qw4 (qg ?_)|refine' qw5 (qg ?_)|rfl|apply qn)
 refine I.mono ?_
 rintro e X ⟨rfl,q⟩
 have c2:q6n x y z N l ex X:=⟨q.cell C.1,qa6 C.2.1 (q.upd (fun _=>False)) (fun h=>h),q.cell C.2.2⟩
 have U:qq w X:=((qa N1).drew).trans (q.upd _)
 have K:=K X U
 have Z:=qb (((qa B0).new ((Upd.refl (fun _=>False) w1).drew)).new (q.upd _))
 have N2:=qb U
 have a4:=(qa Z).lt
 clear I q d5 d6 C U
 go_wp2_with (first | (with_reducible first|(first|refine' qw1 (qg ?_) ?_|refine' qw2 (qg ?_) ?_|refine' qw3 (qg ?_) ?_);rotate_left|refine' qw4 (qg ?_)|refine' qw5 (qg ?_)|rfl|apply qn) | refine⟨c2,?_⟩)
 refine K.mono ?_
 rintro e Y ⟨rfl,D⟩
 have L:=(qa Z).upd D.2 E
 have stB:=L.stOk t
 have BF:=L.put t
 have V:Upd (· = B) Y (Y.setCells B 0 r.2.1.cells):=qac _
 have a8:=D.2.size
 have o:DSt w0 w p S (Y.setCells B 0 r.2.1.cells) (P.set i r.1):=by
  have a7:=(qa H).n.size;refine DSt.fin (qa H) (D.1.upd V (fun b e=> ?_)) ?_ ?_
  ·subst e;refine⟨?_,by omega⟩;rintro (e | e)
   ·exact E e
   ·omega
  ·rintro b (e | e)
   ·exact .inl e
   ·have:=(qa N2).size;exact .inr (by omega)
  ·refine((qa N2).mono (fun _ _ h=>h.elim)).trans ((D.2.mono (fun _ _ h=> .inl h)).trans (V.mono ?_));rintro b hb rfl;exact .inr (by omega)
 have v:=qb o
 have M:=qb BF
 clear K D L BF V o c2
 go_wp2_with (with_reducible first|(first|refine' qw1 (qg ?_) ?_|refine' qw2 (qg ?_) ?_|refine' qw3 (qg ?_) ?_);rotate_left|refine' qw4 (qg ?_)|refine' qw5 (qg ?_)|rfl|apply qn)
 refine bodyPost_ret (qs rfl _ _ B _ _ _ _ rfl (qa M).at_ Tryz.underlying71 rfl (by rw[List.size_toArray,r.2.1.len t];exact Tryz.infoMsg)) rfl ?_
 exact⟨rfl,qa v⟩
theorem qc8{W:World}{n:Nat}(g:W.heap.size=n)(o:Obj):(W.alloc o).heap[n]? = some o∧(W.alloc o).heap.size=n+1:=by
 subst g;exact⟨qi W o,World.size_alloc _ _⟩
set_option maxRecDepth 100000 in
set_option maxHeartbeats 2000000 in
theorem qna{w0 w:World}{p:Nat}{S:Nat→Prop}{P:Pr}(hT:Tb w0)(h:DuD w0 w p S P)(k:Int)(m:Nat)(F:sd k=m)(N ex:Int)(i:List Int)(hl:i.length=32)(hb:qa7 i)(hn:0≤N∧N<18446744073709551616)(hx : -9223372036854775808≤ex∧ex≤9223372036854775807)
  (D:(P.en m).news.length<1000000∧(P.en m).xs.length<1000000) (o:MsgOk ((P.en m).offer N (qcl i) ex).2.1) (U:(P.way (1-m)).length<1000000) :
  Calls Tryz.prog 10 #[.pointer (some ⟨p,0,none⟩),.int .i64 k,.int .u64 N,.agg (qy i).toArray,.int .i64 ex] w fun e w' =>
   e = .returned (.tuple #[.int .u64 (qox ((P.en m).offer N (qcl i) ex)).id,.int .i64 ((P.en m).offer N (qcl i) ex).2.2])∧DSt w0 w p S w' (P.act m ((P.en m).offer N (qcl i) ex)):=by
 have hk:m<2:=F▸qeo k
 have H:=qb h
 have a4:(qy i).length=32:=by rw[qa1,hl]
 obtain⟨g,T,u,hD⟩:=h
 have l:∀(W:World) (n:qq w W) (t v x y C:Nat) (O:W.cell? ⟨t,0,none⟩=some (.pointer (some ⟨p,0,none⟩))) (R:W.cell? ⟨v,0,none⟩=some (.int .i64 k)) (E:q6n x y C N i ex W),_:=fun W n t v x y C O R E=>qlj ((qa H).new n) k m F 29 #[] #[.pointer (some ⟨t,0,none⟩),.pointer (some ⟨v,0,none⟩),.pointer (some ⟨x,0,none⟩),.pointer (some ⟨y,0,none⟩),.pointer (some ⟨C,0,none⟩)] (enters_of Tryz.func29 (by kernel_rfl) rfl) ((P.en m).offer N (qcl i) ex) o U (fun W' I=>qzt hT (hD.new (n.trans I)) k m F N ex i t v x y C (I.cell O (fun h=>h)) (I.cell R (fun h=>h)) ⟨I.cell E.1 (fun h=>h),qa6 E.2.1 I (fun h=>h),I.cell E.2.2 (fun h=>h)⟩ hl o (fun W2 K=>by
  obtain⟨e1,e2,e3,e4⟩:=(hD.new ((n.trans I).trans K)).opE hT hk;exact(q31 _ _ _ N i ex W2 e1 hl hb hn hx D).mono fun e w' he=>⟨he.1,e4 _ _ he.2.1 he.2.2⟩))
 have hM:=ql2 o
 generalize P.act m ((P.en m).offer N (qcl i) ex)=P' at l ⊢
 generalize qox ((P.en m).offer N (qcl i) ex)=M at l hM ⊢
 generalize (P.en m).offer N (qcl i) ex=r at l ⊢
 have q:=qb l
 have a6:=qd9
 clear l hD o U D hb hn hx
 go_enter Tryz.func10,Tryz.ntmps10
 go_upto_region 1 with (with_reducible first|(first|refine' zi (qg ?_) ?_|refine' zj (qg ?_) ?_);rotate_left|refine' zk (qg ?_)|rfl|apply tn|refine' zl ?_)
 have n1:qq w (w.alloc (.cells #[.pointer (some ⟨p,0,none⟩)] 25)):=(Upd.refl _ _).alloc _
 obtain⟨t,z1⟩:=qc8 (W:=w) rfl (.cells #[.pointer (some ⟨p,0,none⟩)] 25)
 generalize w.alloc (.cells #[.pointer (some ⟨p,0,none⟩)] 25)=w1 at n1 t z1 ⊢
 have K:qq w1 (w1.alloc (.cells #[.int .i64 k] 3)):=(Upd.refl _ _).alloc _
 obtain⟨v,z2⟩:=qc8 z1 (.cells #[.int .i64 k] 3)
 generalize w1.alloc (.cells #[.int .i64 k] 3)=w2 at K v z2 ⊢
 have V:qq w2 (w2.alloc (.cells #[.int .u64 N] 27)):=(Upd.refl _ _).alloc _
 obtain⟨x,z3⟩:=qc8 z2 (.cells #[.int .u64 N] 27)
 generalize w2.alloc (.cells #[.int .u64 N] 27)=w3 at V x z3 ⊢
 have L:qq w3 (w3.alloc (.cells (qy i).toArray 33)):=(Upd.refl _ _).alloc _
 obtain⟨y,z4⟩:=qc8 z3 (.cells (qy i).toArray 33)
 generalize w3.alloc (.cells (qy i).toArray 33)=w4 at L y z4 ⊢
 have J:qq w4 (w4.alloc (.cells #[.int .i64 ex] 3)):=(Upd.refl _ _).alloc _
 obtain⟨C,z5⟩:=qc8 z4 (.cells #[.int .i64 ex] 3)
 generalize w4.alloc (.cells #[.int .i64 ex] 3)=X at J C z5 ⊢
 have O:X.cell? ⟨w.heap.size,0,none⟩=some (.pointer (some ⟨p,0,none⟩)):=(((K.trans V).trans L).trans J).cell (qh t 0) (fun h=>h)
 have R:X.cell? ⟨w.heap.size+1,0,none⟩=some (.int .i64 k):=((V.trans L).trans J).cell (qh v 0) (fun h=>h)
 have E:q6n (w.heap.size+1+1) (w.heap.size+1+1+1) (w.heap.size+1+1+1+1) N i ex X:=⟨(L.trans J).cell (qh x 0) (fun h=>h),qa6 (qag y 32 (by rw[List.size_toArray,a4])) J (fun h=>h),qh C 0⟩
 have nw:=(((n1.trans K).trans V).trans L).trans J
 have hs:=qa q X nw _ _ _ _ _ O R E
 have NW:=qb nw
 clear n1 K V L J t v x y C z1 z2 z3 z4 z5 nw E q
 generalize w.heap.size=z at *
 go_wp2_with (with_reducible first|(first|refine' zi (qg ?_) ?_|refine' zj (qg ?_) ?_);rotate_left|refine' zk (qg ?_)|rfl|apply tn|refine' zl ?_)
 refine hs.mono ?_
 rintro e Y ⟨rfl,h2⟩
 obtain⟨a5,hA,nA⟩:=qgs Y M hM
 have HF:=qb ((DSt.after (qa H) (qa NW) h2).then (qa H).n.size (qa H).lt nA)
 have Z:=qb hA
 clear hs h2 hA nA NW O R
 go_upto_region 2 with (with_reducible first|(first|refine' zi (qg ?_) ?_|refine' zj (qg ?_) ?_);rotate_left|refine' zk (qg ?_)|rfl|apply tn|refine' zl ?_)
 change Code.wp _ _ _ _ (qg8 Y M)
 generalize qg8 Y M=wB at HF Z ⊢
 generalize Y.heap.size=A at Z ⊢
 have ci:=(qa Z).cells.2.2.1
 clear a5
 go_wp2_with (with_reducible first|(first|refine' zi (qg ?_) ?_|refine' zj (qg ?_) ?_);rotate_left|refine' zk (qg ?_)|rfl|apply tn|refine' zl ?_)
 go_ret2
 exact⟨rfl,qa HF⟩
end Go.Proofs.YthnohmjbbeahmaaGreatDoor
