/-
  The protocol, plain: bounds; an offer keeps the invariant.
-/
import Derived.Test.YthnohmjbbeahmaaGreatDoorMdc
set_option linter.unusedVariables false
set_option linter.unusedSimpArgs false
namespace Go.Proofs.YthnohmjbbeahmaaGreatDoor
open Go.RowKit
section
variable {α:Type}
theorem q35(v:Seen α):∀G:List α,(∀g∈G,-1≤v.st g∧v.st g≤9)→(∀g∈G,0≤(v.h g).amount)→v.conL G+v.conR G≤0
 | [],_,_=>Int.le_refl _
 | g::G,m,l=>by
  have z:=q35 v G (fun y i=>m y (List.mem_cons_of_mem _ i)) fun y i=>l y (List.mem_cons_of_mem _ i)
  have t:=qyd (v.mine g) (v.paid g) (v.st g) (v.h g).amount (m g (List.mem_cons_self ..));have w:=l g (List.mem_cons_self ..);have o:v.conL (g::G)=Go.Proofs.YthnohmjbbeahmaaGreatDoor.conL (v.mine g) (v.st g) (v.paid g) (v.h g).amount+v.conL G:=rfl;have q:v.conR (g::G)=Go.Proofs.YthnohmjbbeahmaaGreatDoor.conL (!v.mine g) (v.st g) (v.paid g) (v.h g).amount+v.conR G:=rfl;rw[o,q];split at t<;>omega
theorem qjt(v i:Seen α)(G:List α){L R:Int}(m:∀g∈G,-1≤i.st g∧i.st g≤9)(l:∀g∈G,0≤(i.h g).amount)(o:v.conL G≤i.conL G)(q:v.conR G≤i.conR G)(t:0≤L+v.conL G)(w:0≤R+v.conR G) :
  (0≤L+i.conL G∧L+i.conL G≤L+R)∧(0≤R+i.conR G∧R+i.conR G≤L+R):=by
 have:=q35 i G m l
 omega
theorem q0c{v:Seen α}{G:List α}(l:∀g∈G,0≤(v.h g).amount)(ev:Int):∀y∈qo ev (G.filterMap v.show),0≤y.h.amount:=by
 intro y o;obtain⟨x,m,rfl⟩:=List.mem_map.1 o;obtain⟨g,i,e⟩:=List.mem_filterMap.1 m;show 0≤x.h.amount;rw[qpw e];exact l g i
theorem qis(v:Seen α)(ev:Int)(G:List α)(i:∀g∈G,0≤(v.h g).amount):v.conL G≤(v.on ev).conL G∧v.conR G≤(v.on ev).conR G:=by
 have l:=q33 v ev G;have m:=q34 v ev G;have o:=qfq true _ (q0c i ev);have q:=qfq false _ (q0c i ev);omega
theorem qmt{v:Seen α}{ev:Int}{g:α}(h : -1≤v.st g∧v.st g≤9) : -1≤(v.on ev).st g∧(v.on ev).st g≤9:=by
 show -1≤zk (v.st g) (v.mine g) ev∧zk (v.st g) (v.mine g) ev≤9;unfold zk;split
 ·rename_i i;rcases qeu (mine:=v.mine g) (ev:=ev) i with e | e<;>omega
 ·exact h
end
section
variable {G:List Gi}{g g':Gi}{j:Nat}
theorem quy(v:Seen Gi)(G:List Gi)(g:Gi):v.conL (G++[g])=v.conL G+conL (v.mine g) (v.st g) (v.paid g) (v.h g).amount∧v.conR (G++[g])=v.conR G+conL (!v.mine g) (v.st g) (v.paid g) (v.h g).amount:=⟨qoc _ G g,qoc _ G g⟩
theorem qn7(v:Seen Gi)(i:G[j]? = some g)(g':Gi):v.conL (G.set j g')=v.conL G-conL (v.mine g) (v.st g) (v.paid g) (v.h g).amount+conL (v.mine g') (v.st g') (v.paid g') (v.h g').amount∧v.conR (G.set j g')=v.conR G-conL (!v.mine g) (v.st g) (v.paid g) (v.h g).amount+conL (!v.mine g') (v.st g') (v.paid g') (v.h g').amount:=⟨qqn _ i,qqn _ i⟩
theorem qlh(f:Gi→Gi)(v i:Seen Gi)(h:∀g∈G,v.mine (f g)=i.mine g∧v.st (f g)=i.st g∧v.h (f g)=i.h g∧v.paid (f g)=i.paid g) :
  (G.map f).filterMap v.show=G.filterMap i.show∧v.conL (G.map f)=i.conL G∧v.conR (G.map f)=i.conR G:=by
 refine⟨?_,?_,?_⟩
 ·rw[List.filterMap_map];refine qhk fun g t=> ?_
  obtain⟨l,m,o,q⟩:=h g t;show qa6 (v.mine (f g)) (v.h (f g)) (v.st (f g)) (v.paid (f g))=_;rw[l,m,o,q];rfl
 ·unfold Seen.conL;rw[List.map_map];refine qeg fun g t=> ?_
  obtain⟨l,m,o,q⟩:=h g t;show conL (v.mine (f g)) (v.st (f g)) (v.paid (f g)) (v.h (f g)).amount=_;rw[l,m,o,q]
 ·unfold Seen.conR;rw[List.map_map];refine qeg fun g t=> ?_
  obtain⟨l,m,o,q⟩:=h g t;show conL (!v.mine (f g)) (v.st (f g)) (v.paid (f g)) (v.h (f g)).amount=_;rw[l,m,o,q]
end
def qhw(s:Bool)(g:Gi):Bool:=g.own == !s&&(decide (0≤g.st)&&decide (g.st≤8))
theorem qr8{s:Bool}{xs:List Live}{G:List Gi}(o:xs.Perm (G.filterMap (qm s).show)):(qdg true xs:Int)=cnt (qbo s) G∧(qdg false xs:Int)=cnt (qhw s) G:=by
 have e:∀b,qdg b xs=qdg b (G.filterMap (qm s).show):=fun b=>by unfold qdg;exact(o.filter _).length_eq
 rw[e,e];clear e o
 induction G with
 | nil=>exact⟨rfl,rfl⟩
 | cons g G q =>
  have t:cnt (qbo s) (g::G)=(if qbo s g=true then 1 else 0)+cnt (qbo s) G:=rfl;have v:cnt (qhw s) (g::G)=(if qhw s g=true then 1 else 0)+cnt (qhw s) G:=rfl;rw[t,v,←q.1,←q.2];rcases qy g.own s with i | i
  ·have m:qhw s g=false:=by unfold qhw;rw[i];simp
   by_cases l:0≤g.so∧g.so≤8
   ·have eo:qbo s g=true:=by unfold qbo;rw[i];simp;exact l
    have es:(qm s).show g=some ⟨g.h,true,g.so,g.paid&&decide (5≤g.so)⟩:=by
     show qa6 (g.own==s) g.h (if g.own=s then g.so else g.st) g.paid=_;rw[if_pos i,i];unfold qa6;rw[if_pos l];simp
    rw[List.filterMap_cons_some es,m,eo];constructor
    ·simp[qdg];omega
    ·simp[qdg]
   ·have eo:qbo s g=false:=by unfold qbo;rw[i];simp;omega
    have es:(qm s).show g=none:=by
     show qa6 (g.own==s) g.h (if g.own=s then g.so else g.st) g.paid=_;rw[if_pos i];unfold qa6;rw[if_neg l]
    rw[List.filterMap_cons_none es,m,eo];simp
  ·have m:qbo s g=false:=by unfold qbo;rw[i];simp
   by_cases l:0≤g.st∧g.st≤8
   ·have eo:qhw s g=true:=by unfold qhw;rw[i];simp;exact l
    have es:(qm s).show g=some ⟨g.h,false,g.st,g.paid&&decide (5≤g.st)⟩:=by
     show qa6 (g.own==s) g.h (if g.own=s then g.so else g.st) g.paid=_;rw[if_neg (qb4 i),i];unfold qa6;rw[if_pos l];simp
    rw[List.filterMap_cons_some es,m,eo];constructor
    ·simp[qdg]
    ·simp[qdg];omega
   ·have eo:qhw s g=false:=by unfold qhw;rw[i];simp;omega
    have es:(qm s).show g=none:=by
     show qa6 (g.own==s) g.h (if g.own=s then g.so else g.st) g.paid=_;rw[if_neg (qb4 i)];unfold qa6;rw[if_neg l]
    rw[List.filterMap_cons_none es,m,eo];simp
section
variable {K:Kon}{n:Nat}{s:Bool}{c d:Ch}{eo ei:List En}{G:List Gi}{la nu lb nv:List Nat}
noncomputable def Pt.out(P:Pt):List MsgV:=msE P.s P.c P.G P.eo
noncomputable def Pt.inn(P:Pt):List MsgV:=msE (!P.s) P.d P.G P.ei
structure Goes(K:Kon)(n:Nat)(P:Pt)(c':Ch)(wo wi:List MsgV)(P':Pt):Prop where
 inv:Inv K n P'
 s:P'.s=P.s
 c:P'.c=c'
 d:P'.d=P.d
 out:P'.out=wo
 inn:P'.inn=wi
theorem qgf(h:∀g∈G,g.it s (qj eo) (qj ei)∈qa1):∀g∈G,(-1≤g.so∧g.so≤9)∧(-1≤g.st∧g.st≤9)∧(g.so = -1→g.st = -1∧g.up=0)∧(g.st = -1→g.so = -1∨g.so=0∨g.so=1)∧g.up≤2 :=
 fun g i=>quu _ (h g i)
theorem qe8(h:∀g∈G,g.it s (qj eo) (qj ei)∈qa1)(t:Bool):∀g∈G,-1≤(qm t).st g∧(qm t).st g≤9:=by
 intro g i;have:=qgf h g i;show -1≤(if g.own=t then g.so else g.st)∧(if g.own=t then g.so else g.st)≤9;split
 ·exact this.1
 ·exact this.2.1
theorem qkq{ch:Int}(h:∀g∈G,GiOk ch g):∀g∈G,0≤g.h.amount:=fun g i=>by have:=(h g i).amount;omega
theorem zeh(p:Gi→Bool)(h:∀g∈G,0≤g.h.amount):0≤amt p G:=by
 unfold amt;have:=qhv (f:=fun _=>(0:Int)) (f':=fun g:Gi=>if p g=true then g.h.amount else 0) (G:=G) (fun g i=>by
  show 0≤if p g=true then g.h.amount else 0;split
  ·exact h g i
  ·exact Int.le_refl _)
 have e:(G.map fun _:Gi=>(0:Int)).sum=0:=by
  clear h this
  induction G with
  | nil=>rfl
  | cons g G l=>rw[List.map_cons,List.sum_cons,l];rfl
 omega
theorem EndI.snocN{t:Bool}(h:EndI K t c G nu){g:Gi}(i:g.own = !t)(o:g.st = -1):EndI K t c (G++[g]) nu:=by
 have e0:(qm t).show g=none:=by
  show qa6 (g.own==t) g.h (if g.own=t then g.so else g.st) g.paid=_;rw[if_neg (qb4 i),o];rfl
 have q:∀k,oGe t k g=false:=fun k=>by unfold oGe;rw[i];simp
 have D:pGe (!t) 0 g=false:=by unfold pGe;rw[i,o];simp
 have E:Gi.unsg t g=false:=by unfold Gi.unsg;rw[i,o];simp
 have F:qbo t g=false:=by unfold qbo;rw[i];simp
 have H:(qm t).mine g=false:=by show (g.own==t)=false;rw[i];simp
 have es:(qm t).st g = -1:=by show (if g.own=t then g.so else g.st) = -1;rw[if_neg (qb4 i),o]
 obtain⟨z,C⟩:=quy (qm t) G g;rw[es] at z C;refine⟨h.set,?_,?_,?_,h.pos,?_,?_,?_,h.nuS.snocN E,?_,?_,?_,h.shelf,h.nums⟩
 ·rw[List.filterMap_append,List.filterMap_cons_none e0];simpa using h.perm
 ·rw[h.loc,z];simp[conL]
 ·rw[h.rem,C];simp[conL]
 ·rw[h.nOwn,qc1,q];simp
 ·rw[h.nTh,qc1,D];simp
 ·intro y m l w;rw[qc1,q];rcases List.mem_append.1 m with m | m
  ·have:=h.low y m l w;simpa using this
  ·rw[List.mem_singleton.1 m,i] at l;cases t<;>cases l
 ·rw[qc1,q];have:=h.nuI.congr (G':=G++[g]) fun j v=>qes (h.nuS.lt v)
  simpa using this
 ·rw[h.news];exact(qb7 rfl fun j v=>qes (h.nuS.lt v)).symm
 ·rw[qc1,F];simpa using h.many
theorem EndI.tag(h:EndI K s c G nu)(i:K.Ok)(l:∀g∈G,-1≤(qm s).st g∧(qm s).st g≤9)(m:∀g∈G,0≤g.h.amount):(0≤c.loc∧c.loc≤K.cap)∧(0≤c.rem∧c.rem≤K.cap):=by
 have:=qjt (qm s) (qm s) G (L:=(K.S s).ours) (R:=(K.S (!s)).ours) l m (Int.le_refl _) (Int.le_refl _) (by rw[←h.loc];exact h.pos.1) (by rw[←h.rem];exact h.pos.2);rw[←h.loc,←h.rem,i.sum s] at this;exact this
def qdy(s:Bool)(c:Ch)(N:Int)(hv:Vector Int 32)(ex:Int):Gi:=⟨s,⟨c.k.nextOwn,N,hv,ex⟩,false,0,-1,1,false,false,MsgV.zero⟩
theorem Dir.keep{c' i:Ch}{G':List Gi}{l:List En}(h:Dir n s c d eo ei G la)(L:c'.k.signed=c.k.signed∧c'.k.awaits=c.k.awaits∧c'.k.nextOwn=c.k.nextOwn∧c'.k.shutSaid=c.k.shutSaid∧c'.k.revoked=c.k.revoked)(O:c'.s=c.s)(D:c'.last=c.last)
  (q:qay (qj eo)=true→c'.sgnOf=c.sgnOf) (hd:i.k.heard=d.k.heard∧i.k.nextTheirs=d.k.nextTheirs∧i.k.shutHeard=d.k.shutHeard) (C:qbu (qj l)=qbu (qj ei)) (z:qbu (qj eo)=true→amt (qam s) G'≤i.rem)
  (t:Idx G' (Gi.pend s) (ups eo)) (v:qbe G' eo) (o:∀j∈ups eo,(G'[j]?).map Gi.key=(G[j]?).map Gi.key) (m:qay (qj eo)=true→Idx G (Gi.covd s) la→Idx G' (Gi.covd s) la∧∀j∈la,(G'[j]?).map Gi.key=(G[j]?).map Gi.key)
  (N:cnt (pGe s 1) G'=cnt (pGe s 1) G) (M:cnt (oGe s 1) G'=cnt (oGe s 1) G) (w:(∃g∈G,Gi.moved s g=true)→∃g∈G',Gi.moved s g=true):Dir n s c' i eo l G' la:=by
 obtain⟨T,U,V,W,F⟩:=L
 obtain⟨H,I,J⟩:=hd
 refine⟨h.w9,fun e=>by rw[C];exact h.xor e,by rw[T,H];exact h.sig,by rw[U,C];exact h.aw,fun e=>by rw[F];exact h.rv3 e,fun e=>by rw[F];exact h.rv4 e,t,v,by rw[I,V];exact h.ids.congr o,fun e=> ?_,by rw[D];exact h.last,by rw[W,J];exact h.shut.congr o,z,fun e=>w (h.ex e)⟩
 obtain⟨i1,i2,P⟩:=h.laS e
 obtain⟨R,E⟩:=m e i1
 refine⟨R,by rw[N,M];exact i2.congr E,?_⟩
 rw[D,q e,P,qb7 O E]
theorem q2r(c:Ch)(N:Int)(hv:Vector Int 32)(ex:Int)(i:0≤c.loc∧c.loc<18446744073709551616):((c.offered N hv ex).say (qev c N hv ex)).sgnOf=c.sgnOf:=by
 refine qi9 rfl rfl (qgi _ _ _ ?_ ?_)
 ·exact zcp false c.xs (x:=qe5 c N hv ex) rfl rfl i
 ·exact qr1 false c.xs (x:=qe5 c N hv ex) rfl
theorem q2q{P:Pt}(hK:K.Ok)(h:Inv K n P)(hn:n<1000000000){N ex:Int}{hv:Vector Int 32}(hN:0≤N)(hb:qal hv.toList)(o:qa8 P.c N ex=0) :
  ∃P',Goes K (n+1) P (P.c.offer N hv ex).1 (P.out++[(P.c.offer N hv ex).2.1]) P.inn P':=by
 obtain⟨s,c,d,eo,ei,G,la,nu,lb,nv⟩:=P
 obtain⟨ea,eb,ab,ba,it,ok,pw,few⟩:=h
 simp only at ea eb ab ba it ok pw few o
 have e1:c.offer N hv ex=((c.offered N hv ex).say (qev c N hv ex),(qev c N hv ex).on c.s.ch,0):=by unfold Ch.offer;rw[if_pos o]
 have nn:=qkq ok
 obtain⟨bl,br⟩:=ea.tag hK (qe8 it s) nn
 have a7:=hK.cap
 unfold qa8 at o
 split at o
 ·cases o
 rename_i U
 split at o
 ·cases o
 rename_i h2
 split at o
 ·cases o
 rename_i h3
 split at o
 ·cases o
 rename_i h4
 split at o
 ·cases o
 rename_i h5
 have a5:c.k.shutSaid=false:=by simpa using U
 have a8:=qqc (oGe s 0) G
 have b3:=qjs (oGe s 0) G
 have a4:=(qr8 ea.perm).1
 have I:IntKind.u64.wrap (c.k.nextOwn+1)=c.k.nextOwn+1:=qaw (by rw[ea.nOwn];omega) (by rw[ea.nOwn];omega)
 have M:∀k,pGe s k (qdy s c N hv ex)=decide (k ≤ -1):=fun k=>by unfold pGe qdy;simp
 have w:∀k,oGe s k (qdy s c N hv ex)=decide (k≤0):=fun k=>by unfold oGe qdy;simp
 have O:Gi.unsg s (qdy s c N hv ex)=true:=by unfold Gi.unsg qdy;simp
 have H:Gi.pend s (qdy s c N hv ex)=true:=by unfold Gi.pend qdy;simp
 have E:Gi.covd s (qdy s c N hv ex)=false:=by unfold Gi.covd qdy;simp
 have V:qam s (qdy s c N hv ex)=false:=by unfold qam qdy;simp
 have q1:∀k,oGe (!s) k (qdy s c N hv ex)=false:=fun k=>by unfold oGe qdy;simp
 have q2:∀k,pGe (!s) k (qdy s c N hv ex)=false:=fun k=>by unfold pGe qdy;simp
 have q3:Gi.pend (!s) (qdy s c N hv ex)=false:=by unfold Gi.pend qdy;simp
 have q4:Gi.covd (!s) (qdy s c N hv ex)=false:=by unfold Gi.covd qdy;simp
 have q5:qam (!s) (qdy s c N hv ex)=false:=by unfold qam qdy;simp
 have D:=q2r c N hv ex ⟨bl.1,by omega⟩
 have v:(G++[qdy s c N hv ex])[G.length]? = some (qdy s c N hv ex):=by simp
 refine⟨⟨s,(c.offered N hv ex).say (qev c N hv ex),d,eo++[.upd G.length],ei,G++[qdy s c N hv ex],la,nu++[G.length],lb,nv⟩,⟨?_,?_,?_,?_,?_,?_,?_,?_⟩,rfl,by rw[e1],rfl,?_,?_⟩
 ·
  have es:(qm s).show (qdy s c N hv ex)=some (qe5 c N hv ex):=by
   show qa6 (s==s) _ (if s=s then (0:Int) else -1) false=_;rw[if_pos rfl];unfold qa6;simp;rfl
  obtain⟨s1,s2⟩:=quy (qm s) G (qdy s c N hv ex);have em:(qm s).mine (qdy s c N hv ex)=true:=by show (s==s)=true;simp
  have R:(qm s).st (qdy s c N hv ex)=0:=by show (if s=s then (0:Int) else -1)=0;rw[if_pos rfl]
  rw[em,R] at s1 s2;refine⟨ea.set,?_,?_,?_,⟨?_,ea.pos.2⟩,?_,?_,?_,ea.nuS.snocY O,?_,?_,?_,ea.shelf,ea.nums⟩
  ·rw[List.filterMap_append,List.filterMap_cons_some es];exact ea.perm.append_right _
  ·rw[s1];show c.loc-N=_;rw[ea.loc];show _=(K.S s).ours+((qm s).conL G + -N);omega
  ·rw[s2];show c.rem=_;rw[ea.rem];show _=(K.S (!s)).ours+((qm s).conR G+0);omega
  ·show 0≤c.loc-N;omega
  ·show IntKind.u64.wrap (c.k.nextOwn+1)=_;rw[I,ea.nOwn,qc1,w];simp
  ·show c.k.nextTheirs=_;rw[ea.nTh,qc1,q2];simp
  ·intro y C a6 J;rw[qc1,w];rcases List.mem_append.1 C with C | C
   ·have:=ea.low y C a6 J;simpa using this
   ·rw[List.mem_singleton.1 C] at J;exact absurd J (by show ¬(1:Int)≤0;decide)
  ·show Ids _ s _ (nu++[G.length]) (IntKind.u64.wrap (c.k.nextOwn+1));rw[I,qc1,w];have:=(ea.nuI.congr (G':=G++[qdy s c N hv ex]) fun j l=>qes (ea.nuS.lt l)).app (Ids.one v rfl rfl);simpa using this
  ·show c.news++[(qev c N hv ex).on c.s.ch]=_;unfold msU;rw[List.map_append,ea.news];congr 1
   ·exact(qb7 rfl fun j l=>qes (ea.nuS.lt l)).symm
   ·show _=[enM s _ _ (.upd G.length)];rw[qju v];show _=[qp8 s c.s.ch (qdy s c N hv ex)];unfold qp8 qdy;rw[if_pos rfl];rfl
  ·show cnt (qbo s) (G++[qdy s c N hv ex])≤8;rw[qc1];split<;>omega
 ·
  exact eb.snocN (by show s = !(!s);rw[Bool.not_not]) rfl
 ·
  have z:qj (eo++[.upd G.length])=qj eo:=qjf eo _;have hu:ups (eo++[.upd G.length])=ups eo++[G.length]:=qg5 eo _;have L:∀j∈ups eo,((G++[qdy s c N hv ex])[j]?).map Gi.key=(G[j]?).map Gi.key:=fun j l=>qes (ab.upd.lt l)
  refine⟨by rw[z];exact ab.w9,by rw[z];exact ab.xor,by rw[z];exact ab.sig,by rw[z];exact ab.aw,by rw[z];exact ab.rv3,by rw[z];exact ab.rv4,?_,?_,?_,?_,Nat.le_succ_of_le ab.last,?_,?_,?_⟩
  ·rw[hu];exact ab.upd.snocY H
  ·refine qbe.snoc (.inl rfl) (fun _ g m=> ?_) eo (ab.along.congr fun j l g' t=>⟨g',?_,rfl,rfl⟩)
   ·rw[v] at m;injection m with m;subst m;exact⟨rfl,rfl⟩
   ·rw[List.getElem?_append_left (ab.upd.lt l)] at t;exact t
  ·rw[hu];show Ids _ s d.k.nextTheirs _ (IntKind.u64.wrap (c.k.nextOwn+1));rw[I];exact(ab.ids.congr L).app (Ids.one v rfl rfl)
  ·intro e;rw[z] at e;obtain⟨i1,i2,i3⟩:=ab.laS e;refine⟨i1.snocN E,?_,?_⟩
   ·rw[qc1,qc1,M,w];have:=i2.congr (G':=G++[qdy s c N hv ex]) fun j l=>qes (i1.lt l)
    simpa using this
   ·show c.last=_;rw[D,i3];congr 1;exact(qb7 rfl fun j l=>qes (i1.lt l)).symm
  ·refine qbj.snoc (by intro e;cases e) (fun _ _ _ _ _=>a5) (ab.shut.congr L)
  ·rw[z];intro e;rw[qxz,V];have:=ab.m1 e;simpa using this
  ·rw[z];intro e;obtain⟨g,m,hm⟩:=ab.ex e;exact⟨g,List.mem_append_left _ m,hm⟩
 ·
  refine(ba.mono (Nat.le_succ n)).keep ⟨rfl,rfl,rfl,rfl,rfl⟩ rfl rfl (fun _=>rfl) ⟨rfl,rfl,rfl⟩ (by rw[qjf]) ?_ (ba.upd.snocN q3) ?_ (fun j l=>qes (ba.upd.lt l)) (fun _ i=>⟨i.snocN q4,fun j l=>qes (i.lt l)⟩) ?_ ?_ ?_
  ·intro e;rw[qxz,q5];show amt (qam (!s)) G+_≤c.rem;have:=ba.m1 e;simpa using this
  ·exact ba.along.congr fun j l g' t=>⟨g',by rw[List.getElem?_append_left (ba.upd.lt l)] at t;exact t,rfl,rfl⟩
  ·rw[qc1,q2];simp
  ·rw[qc1,q1];simp
  ·rintro ⟨g,m,hm⟩;exact⟨g,List.mem_append_left _ m,hm⟩
 ·intro g m;show g.it s (qj (eo++[.upd G.length])) (qj ei)∈qa1;rw[qjf];rcases List.mem_append.1 m with m | m
  ·exact it g m
  ·rw[List.mem_singleton.1 m,qdp (g:=qdy s c N hv ex) (s:=s) rfl];have hf:=q2z ⟨qj eo,Nat.lt_succ_of_le (qgy _ ab.w9)⟩ ⟨qj ei,Nat.lt_succ_of_le (qgy _ ba.w9)⟩ ab.xor ba.xor;exact qzy _ hf rfl rfl
 ·intro g m;rcases List.mem_append.1 m with m | m
  ·exact ok g m
  ·rw[List.mem_singleton.1 m];refine⟨⟨by show 0≤c.k.nextOwn;rw[ea.nOwn];omega,by show c.k.nextOwn<_;rw[ea.nOwn];omega⟩,⟨by show 1≤N;omega,by show N≤_;omega⟩,hb,⟨by show 1≤ex;omega,by show ex≤_;omega⟩,?_⟩;rintro (e | e)<;>exact absurd e (by show ¬(-1:Int)=_;decide)
 ·show ((G++[qdy s c N hv ex]).map Gi.pk).Pairwise Apt;rw[List.map_append,List.pairwise_append];refine⟨pw,by simp,?_⟩;intro a ha b W;obtain⟨g,m,rfl⟩:=List.mem_map.1 ha;have X:b=(qdy s c N hv ex).pk:=by simpa using W
  subst X;rintro ⟨U,-,h3,h4⟩;have F:g.own=s:=h3;have a9:g.h.id=c.k.nextOwn:=h4;have b4:0≤g.so:=by simpa [Gi.pk] using U
  by_cases h0:1≤g.so
  ·have:=ea.low g m F h0;have Z:=qmj (p:=oGe s 1) (q:=oGe s 0) (G:=G) fun y _ C=>by unfold oGe at C ⊢;simp at C ⊢;exact⟨C.1,by omega⟩
   rw[←ea.nOwn] at Z;omega
  ·obtain⟨j,l⟩:=List.getElem?_of_mem m;have Y:j∈nu:=(ea.nuS.iff j).2 ⟨g,l,by
    have T:g.so=0:=by omega
    unfold Gi.unsg;rw[F,T];simp⟩
   have:=ea.nuI.rng.2 j Y g l F;omega
 ·show (G++[qdy s c N hv ex]).length≤n+1;rw[List.length_append,List.length_singleton];omega
 ·rw[e1];show msE s _ _ (eo++[.upd G.length])=msE s c G eo++[(qev c N hv ex).on c.s.ch];unfold msE;rw[List.map_append];congr 1
  ·exact qdh ab.w9 rfl (fun j l=>qes (ab.upd.lt l)) (fun _=>D) (fun _=>qi8 rfl rfl)
  ·show [enM s _ _ (.upd G.length)]=_;rw[qju v];show [qp8 s c.s.ch (qdy s c N hv ex)]=_;unfold qp8 qdy;rw[if_pos rfl];rfl
 ·exact qdh ba.w9 rfl (fun j l=>qes (ba.upd.lt l)) (fun _=>rfl) (fun _=>rfl)
end
section
variable {K:Kon}{n:Nat}{s t:Bool}{c d:Ch}{eo ei:List En}{G:List Gi}{la nu lb nv:List Nat}{g g':Gi}{j:Nat}
theorem qra{p:Gi→Bool}(o:G[j]? = some g)(q:p g=true→p g'=true)(h:∃y∈G,p y=true):∃y∈G.set j g',p y=true:=by
 obtain⟨y,v,m⟩:=h;obtain⟨k,i⟩:=List.getElem?_of_mem v;by_cases l:k=j
 ·subst l;rw[o] at i;injection i with i;subst i;exact⟨g',List.mem_of_getElem? (by rw[qf1 o,if_pos rfl]),q m⟩
 ·exact⟨y,List.mem_of_getElem? (by rw[qf1 o,if_neg l];exact i),m⟩
theorem qfg{p:Gi→Prop}(o:G[j]? = some g)(h:∀y∈G,p y)(m:p g'):∀y∈G.set j g',p y:=by
 intro y q;obtain⟨k,i⟩:=List.getElem?_of_mem q;rw[qf1 o] at i;by_cases l:k=j
 ·rw[if_pos l] at i;injection i with i;rw[←i];exact m
 ·rw[if_neg l] at i;exact h y (List.mem_of_getElem? i)
theorem qg8{e:List En}(m:G[j]? = some g)(h:qbe G e)(o:j∈ups e→g'.cov=g.cov∧g'.pre=g.pre):qbe (G.set j g') e:=by
 refine h.congr fun k q y l=> ?_
 rw[qf1 m] at l;by_cases i:k=j
 ·rw[if_pos i] at l;injection l with l;subst l;subst i;exact⟨g,m,o q⟩
 ·rw[if_neg i] at l;exact⟨y,l,rfl,rfl⟩
theorem Idx.off{p:Gi→Bool}{l:List Nat}(h:Idx G p l)(m:G[j]? = some g)(i:p g=false):∀k∈l,k≠j:=by
 rintro k o rfl;rw[h.yes o m] at i;cases i
theorem qfu{p:Gi→Bool}{l:List Nat}(h:Idx G p l)(i:G[j]? = some g)(o:p g=false):∀k∈l,((G.set j g')[k]?).map Gi.key=(G[k]?).map Gi.key :=
 fun k m=>qni i (.inl (h.off i o k m))
theorem EndI.setS(h:EndI K t c G nu)(i:G[j]? = some g)(m:g'.own=g.own)(z:g'.h=g.h)(C:(qm t).st g'=(qm t).st g)(o:g'.paid=g.paid∨(qm t).st g≤4)(w:g'.um=g.um∨Gi.unsg t g=false):EndI K t c (G.set j g') nu:=by
 have D:g.own=t→g'.so=g.so:=fun e=>by
  have:(if g'.own=t then g'.so else g'.st)=if g.own=t then g.so else g.st:=C;rwa [m,if_pos e,if_pos e] at this
 have R:¬g.own=t→g'.st=g.st:=fun e=>by
  have:(if g'.own=t then g'.so else g'.st)=if g.own=t then g.so else g.st:=C;rwa [m,if_neg e,if_neg e] at this
 have P:(qm t).mine g'=(qm t).mine g:=by show (g'.own==t)=(g.own==t);rw[m]
 have F:(qm t).show g'=(qm t).show g:=by
  unfold Seen.show;rw[P,C,show (qm t).h g'=(qm t).h g from z];rcases o with o | o
  ·rw[show (qm t).paid g'=(qm t).paid g from o]
  ·unfold qa6;rw[decide_eq_false (show ¬5≤(qm t).st g by omega),Bool.and_false,Bool.and_false]
 have v:∀b,conL b ((qm t).st g') ((qm t).paid g') ((qm t).h g').amount=conL b ((qm t).st g) ((qm t).paid g) ((qm t).h g).amount:=by
  intro b;rw[C,show (qm t).h g'=(qm t).h g from z];rcases o with o | o
  ·rw[show (qm t).paid g'=(qm t).paid g from o]
  ·unfold conL;rw[if_neg (show ¬(qm t).st g=9 by omega),if_neg (show ¬(qm t).st g=9 by omega)]
 have q:∀k,oGe t k g'=oGe t k g:=fun k=>by
  unfold oGe;rw[m];rcases qy g.own t with e | e
  ·rw[D e]
  ·rw[e];simp
 have J:pGe (!t) 0 g'=pGe (!t) 0 g:=by
  unfold pGe;rw[m];rcases qy g.own t with e | e
  ·rw[e];simp
  ·rw[R (qb4 e)]
 have L:Gi.unsg t g'=Gi.unsg t g:=by
  unfold Gi.unsg;rw[m];rcases qy g.own t with e | e
  ·rw[D e,e];simp
  ·rw[R (qb4 e),e];simp
 have I:qbo t g'=qbo t g:=by
  unfold qbo;rw[m];rcases qy g.own t with e | e
  ·rw[D e]
  ·rw[e];simp
 obtain⟨M,N⟩:=qn7 (qm t) i g';rw[P,v] at M N;have l:∀k∈nu,((G.set j g')[k]?).map Gi.key=(G[k]?).map Gi.key:=fun k H=>by
  rcases w with w | w
  ·exact qni i (.inr (by unfold Gi.key;rw[m,z,w]))
  ·exact qni i (.inl (h.nuS.off i w k H))
 refine⟨h.set,?_,by rw[h.loc,M];omega,by rw[h.rem,N];omega,h.pos,by rw[qas i (q 0)];exact h.nOwn,by rw[qas i J];exact h.nTh,?_,h.nuS.setS i L,?_,?_,by rw[qas i I];exact h.many,h.shelf,h.nums⟩
 ·exact q7t _ h.perm i F
 ·rw[qas i (q 1)];refine qfg i h.low fun E O=> ?_
  rw[z];rw[m] at E;rw[D E] at O;exact h.low g (List.mem_of_getElem? i) E O
 ·rw[qas i (q 1)];exact h.nuI.congr l
 ·rw[h.news];exact(qb7 rfl l).symm
theorem q2y:∀x∈qa1,x.2.1=4→x.1=4∧x.2.2.1=0:=by decide +kernel
def qee(g:Gi)(paid:Bool)(m:MsgV):Gi:= {g with paid:=paid,st:=5,up:=2,cov:=false,pre:=false,um:=m}
theorem qz3(c:Ch)(i:Nat)(x:Live)(paid:Bool)(m:MsgV)(l:c.xs[i]? = some x)(o:x.state=4):((c.removed i x paid).say m).sgnOf=c.sgnOf :=
 qi9 rfl rfl (qgi _ _ _ (q0l false c.loc c.rem (y:= {x with state:=5,paid:=paid}) l (.inl o) (.inr rfl)) (quf false (y:= {x with state:=5,paid:=paid}) l (.inl o) (.inr rfl) rfl rfl))
theorem qgg{xs:List Live}(o:xs.Perm (G.filterMap (qm s).show)){x:Live}(q:x∈xs):∃(j:Nat) (g:Gi),G[j]? = some g∧x=⟨g.h,g.own==s,if g.own=s then g.so else g.st,g.paid&&decide (5≤if g.own=s then g.so else g.st)⟩∧(0≤(if g.own=s then g.so else g.st)∧(if g.own=s then g.so else g.st)≤8):=by
 obtain⟨g,l,e⟩:=List.mem_filterMap.1 (o.subset q);obtain⟨j,m⟩:=List.getElem?_of_mem l;refine⟨j,g,m,?_⟩;have e:qa6 (g.own==s) g.h (if g.own=s then g.so else g.st) g.paid=some x:=e;generalize (if g.own=s then g.so else g.st)=z at e ⊢;unfold qa6 at e;by_cases i:0≤z∧z≤8
 ·rw[if_pos i] at e;injection e with e;exact⟨e.symm,i⟩
 ·rw[if_neg i] at e;cases e
theorem qpq{P:Pt}(hK:K.Ok)(h:Inv K n P){i:Nat}{x:Live}{id:Int}(hb:qbf false id P.c.xs=some (i,x)){paid:Bool}{m:MsgV}(hm:∀g,g.h=x.h→g.paid=paid→g.um=m.on K.ch→zf8 K.ch g) :
  ∃P',Goes K n P ((P.c.removed i x paid).say m) (P.out++[m.on P.c.s.ch]) P.inn P':=by
 obtain⟨s,c,d,eo,ei,G,la,nu,lb,nv⟩:=P
 obtain⟨ea,eb,ab,ba,it,ok,pw,few⟩:=h
 simp only at ea eb ab ba it ok pw few hb
 obtain⟨hi,T,-,M⟩:=qga hb
 obtain⟨j,g,l,ex,a6⟩:=qgg ea.perm (List.mem_of_getElem? hi)
 have q:g.own = !s:=by
  rcases qy g.own s with e | e
  ·rw[ex] at T;have:(g.own==s)=false:=T;rw[e] at this;simp at this
  ·exact e
 have o:¬g.own=s:=qb4 q
 have C:(g.own==s)=false:=by rw[q];simp
 rw[if_neg o,C] at ex
 have v:g.st=4:=by rw[ex] at M;exact M
 have J:=List.mem_of_getElem? l
 have hr:=q2y _ (it g J) v
 have D:g.so=4:=hr.1
 have L:g.up=0:=hr.2
 have Z:c.s.ch=K.ch:=by rw[ea.set];exact hK.ch s
 have W:∀k,oGe s k (qee g paid (m.on c.s.ch))=oGe s k g:=fun k=>by unfold oGe qee;rfl
 have q1:∀k,oGe (!s) k (qee g paid (m.on c.s.ch))=oGe (!s) k g:=fun k=>by unfold oGe qee;rfl
 have q2:∀k,pGe s k (qee g paid (m.on c.s.ch))=pGe s k g:=fun k=>by unfold pGe qee;rw[q];simp
 have q3:∀k,k≤4→pGe (!s) k (qee g paid (m.on c.s.ch))=pGe (!s) k g:=fun k hk=>by
  unfold pGe qee;rw[q,v];simp;omega
 have u1:Gi.unsg s g=false:=by unfold Gi.unsg;rw[q,v];simp
 have u2:Gi.unsg s (qee g paid (m.on c.s.ch))=true:=by unfold Gi.unsg qee;rw[q];simp
 have u3:Gi.unsg (!s) g=false:=by unfold Gi.unsg;rw[q,D];simp
 have U:Gi.pend s g=false:=by unfold Gi.pend;rw[L];simp
 have p2:Gi.pend s (qee g paid (m.on c.s.ch))=true:=by unfold Gi.pend qee;rw[q];simp
 have V:Gi.pend (!s) g=false:=by unfold Gi.pend;rw[L];simp
 have p4:Gi.pend (!s) (qee g paid (m.on c.s.ch))=false:=by unfold Gi.pend qee;rw[q];simp
 have v1:Gi.covd s g=false:=by unfold Gi.covd;rw[q,v];simp
 have v2:Gi.covd s (qee g paid (m.on c.s.ch))=false:=by unfold Gi.covd qee;rw[q];simp
 have v3:Gi.covd (!s) g=false:=by unfold Gi.covd;rw[q,D];simp
 have v4:Gi.covd (!s) (qee g paid (m.on c.s.ch))=false:=by unfold Gi.covd qee;rw[q,D];simp
 have a1:∀t,qam t g=false:=fun t=>by unfold qam;rw[L];simp
 have a2:∀t,qam t (qee g paid (m.on c.s.ch))=false:=fun t=>by unfold qam qee;simp
 have w1:∀t,Gi.moved t g=false:=fun t=>by unfold Gi.moved;rw[D,v];simp
 have w:(G.set j (qee g paid (m.on c.s.ch)))[j]? = some (qee g paid (m.on c.s.ch)):=by rw[qf1 l,if_pos rfl]
 have R:∀t,(∃y∈G,Gi.moved t y=true)→∃y∈G.set j (qee g paid (m.on c.s.ch)),Gi.moved t y=true:=fun t=>qra l (fun e=>by rw[w1] at e;cases e)
 have I:=qz3 c i x paid m hi M
 have E:qj (eo++[.upd j])=qj eo:=qjf eo _
 have hu:ups (eo++[.upd j])=ups eo++[j]:=qg5 eo _
 have H:∀t,amt (qam t) (G.set j (qee g paid (m.on c.s.ch)))=amt (qam t) G:=fun t=>by rw[qjk _ l,a1,a2];simp
 refine⟨⟨s,(c.removed i x paid).say m,d,eo++[.upd j],ei,G.set j (qee g paid (m.on c.s.ch)),la,nu++[j],lb,nv⟩,⟨?_,?_,?_,?_,?_,?_,?_,?_⟩,rfl,rfl,rfl,?_,?_⟩
 ·obtain⟨c1,c2⟩:=qn7 (qm s) l (qee g paid (m.on c.s.ch));have em:(qm s).mine g=false:=C;have X:(qm s).mine (qee g paid (m.on c.s.ch))=false:=C;have es:(qm s).st g=4:=by show (if g.own=s then g.so else g.st)=4;rw[if_neg o,v]
  have Y:(qm s).st (qee g paid (m.on c.s.ch))=5:=by show (if g.own=s then g.so else 5)=5;rw[if_neg o]
  rw[em,es,X,Y] at c1 c2;have a4:(qm s).show g=some x:=by
   rw[ex];show qa6 (g.own==s) g.h (if g.own=s then g.so else g.st) g.paid=_;rw[if_neg o,C,v];rfl
  have a5:(qm s).show (qee g paid (m.on c.s.ch))=some {x with state:=5,paid:=paid} := by
   rw[ex];show qa6 (g.own==s) g.h (if g.own=s then g.so else 5) paid=_;rw[if_neg o,C];unfold qa6;simp
  refine⟨ea.set,q0r _ ea.perm l a4 a5 hi,?_,?_,ea.pos,?_,?_,?_,ea.nuS.setY l u1 u2,?_,?_,?_,ea.shelf,ea.nums⟩
  ·rw[c1];show c.loc=(K.S s).ours+((qm s).conL G-0+0);rw[ea.loc];omega
  ·rw[c2];show c.rem=(K.S (!s)).ours+((qm s).conR G - -g.h.amount + -g.h.amount);rw[ea.rem];omega
  ·rw[qas l (W 0)];exact ea.nOwn
  ·rw[qas l (q3 0 (by decide))];exact ea.nTh
  ·rw[qas l (W 1)];exact qfg l ea.low fun e=>absurd e o
  ·rw[qas l (W 1)];exact(ea.nuI.congr (qfu ea.nuS l u1)).app (Ids.other w o)
  ·show c.news++[m.on c.s.ch]=_;unfold msU;rw[List.map_append,ea.news];congr 1
   ·exact(qb7 rfl (qfu ea.nuS l u1)).symm
   ·show _=[enM s _ _ (.upd j)];rw[qju w];unfold qp8;rw[if_neg (show ¬(qee g paid (m.on c.s.ch)).own=s from o)];rfl
  ·show cnt (qbo s) (G.set j (qee g paid (m.on c.s.ch)))≤8;rw[qas l (show qbo s (qee g paid (m.on c.s.ch))=qbo s g from rfl)];exact ea.many
 ·refine eb.setS l rfl rfl ?_ (.inr ?_) (.inr u3)
  ·show (if g.own = !s then g.so else 5)=if g.own = !s then g.so else g.st;rw[if_pos q,if_pos q]
  ·show (if g.own = !s then g.so else g.st)≤4;rw[if_pos q,D];decide
 ·have O:=qfu (g':=qee g paid (m.on c.s.ch)) ab.upd l U;refine⟨by rw[E];exact ab.w9,by rw[E];exact ab.xor,by rw[E];exact ab.sig,by rw[E];exact ab.aw,by rw[E];exact ab.rv3,by rw[E];exact ab.rv4,?_,?_,?_,?_,ab.last,?_,?_,?_⟩
  ·rw[hu];exact ab.upd.setY l U p2
  ·refine qbe.snoc (.inl rfl) (fun _ y F=> ?_) eo (qg8 l ab.along fun hj=>absurd rfl (ab.upd.off l U j hj));rw[w] at F;injection F with F;subst F;exact⟨rfl,rfl⟩
  ·rw[hu];exact(ab.ids.congr O).app (Ids.other w o)
  ·intro e;rw[E] at e;obtain⟨i1,i2,i3⟩:=ab.laS e;refine⟨i1.setS l (v2.trans v1.symm),?_,?_⟩
   ·rw[qas l (q2 1),qas l (W 1)];exact i2.congr (qfu i1 l v1)
   ·show c.last=_;rw[I,i3];congr 1;exact(qb7 rfl (qfu i1 l v1)).symm
  ·exact qbj.snoc (by intro e;cases e) (fun k y e F z=>by
    injection e with e;subst e;rw[w] at F;injection F with F;subst F;exact absurd z o) (ab.shut.congr O)
  ·rw[E,H];exact ab.m1
  ·rw[E];exact fun e=>R s (ab.ex e)
 ·refine ba.keep ⟨rfl,rfl,rfl,rfl,rfl⟩ rfl rfl (fun _=>rfl) ⟨rfl,rfl,rfl⟩ (by rw[E]) ?_ (ba.upd.setS l (p4.trans V.symm)) ?_ (qfu ba.upd l V) (fun _ i=>⟨i.setS l (v4.trans v3.symm),qfu i l v3⟩) (qas l (q3 1 (by decide))) (qas l (q1 1)) (R (!s))
  ·intro e;rw[H];exact ba.m1 e
  ·exact qg8 l ba.along fun hj=>absurd rfl (ba.upd.off l V j hj)
 ·show ∀y∈G.set j (qee g paid (m.on c.s.ch)),y.it s (qj (eo++[.upd j])) (qj ei)∈qa1;rw[E];refine qfg l it ?_;rw[qdx (g:=qee g paid (m.on c.s.ch)) (s:=s) q];have N:=it g J;rw[qdx q] at N;exact(qwz _ N v).1
 ·refine qfg l ok ?_;have z:=ok g J;exact⟨z.id,z.amount,z.hash,z.expiry,fun _=>hm _ (by rw[ex];rfl) rfl (by rw[←Z];rfl)⟩
 ·show ((G.set j (qee g paid (m.on c.s.ch))).map Gi.pk).Pairwise Apt;rw[q2u (g':=qee g paid (m.on c.s.ch)) l rfl];exact pw
 ·show (G.set j _).length≤n;rw[List.length_set];exact few
 ·show msE s _ _ (eo++[.upd j])=msE s c G eo++[m.on c.s.ch];unfold msE;rw[List.map_append];congr 1
  ·exact qdh ab.w9 rfl (qfu ab.upd l U) (fun _=>I) (fun _=>qi8 rfl rfl)
  ·show [enM s _ _ (.upd j)]=_;rw[qju w];unfold qp8;rw[if_neg (show ¬(qee g paid (m.on c.s.ch)).own=s from o)];rfl
 ·exact qdh ba.w9 rfl (qfu ba.upd l V) (fun _=>rfl) (fun _=>rfl)
end
theorem zgp:∀i:Fin 11,∀m:Bool,(zk ((i.val:Int)-1) m 1=qw ((i.val:Int)-1) m 1∧zk ((i.val:Int)-1) m 2=qw ((i.val:Int)-1) m 2∧zk ((i.val:Int)-1) m 3=qw ((i.val:Int)-1) m 3∧zk ((i.val:Int)-1) m 4=qw ((i.val:Int)-1) m 4):=by decide +kernel
theorem qml{p:Int→Prop}(h:∀i:Fin 11,p ((i.val:Int)-1)){x:Int}(g : -1≤x∧x≤9):p x:=by
 have:=h ⟨(x+1).toNat,by omega⟩;rwa [show (((x+1).toNat:Nat):Int)-1=x by omega] at this
theorem qh2{x:Int}(g : -1≤x∧x≤9)(m:Bool):zk x m 1=qw x m 1∧zk x m 2=qw x m 2∧zk x m 3=qw x m 3∧zk x m 4=qw x m 4:=qml (p:=fun x=>zk x m 1=qw x m 1∧zk x m 2=qw x m 2∧zk x m 3=qw x m 3∧zk x m 4=qw x m 4) (fun i=>zgp i m) g
theorem qgc:∀ {x:Int},-1≤x∧x≤9→zk x true 1≠0∧zk x false 1≠5∧decide (1≤zk x true 1)=decide (0≤x)∧decide (0≤zk x true 1)=decide (0≤x)∧decide (0≤zk x false 1)=decide (0≤x)∧decide (zk x true 1≤8)=decide (x≤8)∧(zk x true 1≠x→zk x true 1=1∨zk x true 1=8)∧(zk x false 1≠x→zk x false 1=3∨zk x false 1=6)∧(x≠1→(zk x true 1==1)=(x==0))∧(x≠6→(zk x false 1==6)=(x==5)) :=
 qml (p:=fun x=>zk x true 1≠0∧zk x false 1≠5∧decide (1≤zk x true 1)=decide (0≤x)∧decide (0≤zk x true 1)=decide (0≤x)∧decide (0≤zk x false 1)=decide (0≤x)∧decide (zk x true 1≤8)=decide (x≤8)∧(zk x true 1≠x→zk x true 1=1∨zk x true 1=8)∧(zk x false 1≠x→zk x false 1=3∨zk x false 1=6)∧(x≠1→(zk x true 1==1)=(x==0))∧(x≠6→(zk x false 1==6)=(x==5))) (by decide +kernel)
section
variable {K:Kon}{n:Nat}{s t:Bool}{c d:Ch}{eo ei:List En}{G:List Gi}{la nu lb nv:List Nat}{f:Gi→Gi}
theorem qlp{e:List En}(h:qbe G e)(m:∀j∈ups e,∀g,G[j]? = some g→(f g).cov=g.cov∧(f g).pre=g.pre):qbe (G.map f) e:=by
 refine h.congr fun k o y i=> ?_
 rw[List.getElem?_map] at i;cases l:G[k]? with
 | none=>rw[l] at i;cases i
 | some g =>
  rw[l] at i;injection i with i;subst i;exact⟨g,rfl,m k o g l⟩
theorem qv4{p:Gi→Bool}(m:∀g∈G,p g=true→p (f g)=true)(h:∃y∈G,p y=true):∃y∈G.map f,p y=true:=by
 obtain⟨y,l,i⟩:=h;exact⟨f y,List.mem_map_of_mem l,m y l i⟩
theorem qbk{p:Gi→Bool}(i:∀g∈G,p (f g)=p g):cnt p (G.map f)=cnt p G:=by rw[qgk];exact qe0 i
theorem qxy{p:Gi→Bool}(l:∀g∈G,(f g).h=g.h)(m:∀g∈G,p (f g)=p g):amt p (G.map f)=amt p G:=by
 rw[qm4];exact qeg fun g i=>by rw[m g i,l g i]
theorem EndI.mapS(h:EndI K t c G nu)(m:∀g,(f g).own=g.own)(w:∀g,(f g).h=g.h)(F:∀g,(f g).um=g.um)(z:∀g∈G,(qm t).st (f g)=(qm t).st g)(E:∀g,(f g).paid=g.paid):EndI K t c (G.map f) nu:=by
 have q:∀g∈G,g.own=t→(f g).so=g.so:=fun g i e=>by
  have:(if (f g).own=t then (f g).so else (f g).st)=if g.own=t then g.so else g.st:=z g i;rwa [m,if_pos e,if_pos e] at this
 have D:∀g∈G,¬g.own=t→(f g).st=g.st:=fun g i e=>by
  have:(if (f g).own=t then (f g).so else (f g).st)=if g.own=t then g.so else g.st:=z g i;rwa [m,if_neg e,if_neg e] at this
 obtain⟨m1,I,J⟩:=qlh f (qm t) (qm t) (G:=G) fun g i=>⟨by show ((f g).own==t)=(g.own==t);rw[m],z g i,w g,E g⟩
 have o:∀k,∀g∈G,oGe t k (f g)=oGe t k g:=fun k g i=>by
  unfold oGe;rw[m];rcases qy g.own t with e | e
  ·rw[q g i e]
  ·rw[e];simp
 have l:∀k∈nu,((G.map f)[k]?).map Gi.key=(G[k]?).map Gi.key:=fun k _=>qnh (fun g=>by unfold Gi.key;rw[m,w,F]) G k
 refine⟨h.set,by rw[m1];exact h.perm,by rw[I];exact h.loc,by rw[J];exact h.rem,h.pos,by rw[qbk (o 0)];exact h.nOwn,?_,?_,h.nuS.map f ?_,?_,?_,?_,h.shelf,h.nums⟩
 ·rw[qbk fun g i=> ?_]
  ·exact h.nTh
  ·unfold pGe;rw[m];rcases qy g.own t with e | e
   ·rw[e];simp
   ·rw[D g i (qb4 e)]
 ·rw[qbk (o 1)];intro y H v C;obtain⟨g,i,rfl⟩:=List.mem_map.1 H;rw[m] at v;rw[q g i v] at C;rw[w];exact h.low g i v C
 ·intro g i;unfold Gi.unsg;rw[m];rcases qy g.own t with e | e
  ·rw[q g i e,e];simp
  ·rw[D g i (qb4 e),e];simp
 ·rw[qbk (o 1)];exact h.nuI.congr l
 ·rw[h.news];exact(qb7 rfl l).symm
 ·rw[qbk fun g i=> ?_]
  ·exact h.many
  ·unfold qbo;rw[m];rcases qy g.own t with e | e
   ·rw[q g i e]
   ·rw[e];simp
end
def qd0(s:Bool)(g:Gi):Gi:= {g with so:=if g.own=s then zk g.so true 1 else g.so,st:=if g.own=s then g.st else zk g.st false 1,cov:=if Gi.pend s g=true then true else g.cov}
theorem qzz:∀x∈qa1,qay x.2.2.2.2.1=false→qbu x.2.2.2.2.2=false→x.1≠1∧decide (1≤x.2.1)=decide (1≤x.1):=by decide +kernel
theorem qwy:∀x∈qa1,qay x.2.2.2.2.2=false→qbu x.2.2.2.2.1=false→x.2.1≠6:=by decide +kernel
section
variable {K:Kon}{n:Nat}{s t:Bool}{c d:Ch}{eo ei:List En}{G:List Gi}{la nu lb nv:List Nat}
theorem qcq{g:Gi}(h:g.own=s):(qd0 s g).so=zk g.so true 1∧(qd0 s g).st=g.st:=by unfold qd0;simp only[h,if_true];exact⟨trivial,trivial⟩
theorem qdk{g:Gi}(h:g.own = !s):(qd0 s g).so=g.so∧(qd0 s g).st=zk g.st false 1:=by unfold qd0;simp only[if_neg (qb4 h)];exact⟨trivial,trivial⟩
theorem qi7{g:Gi}(h:g.own=s):Gi.pend s g=(g.up==1):=by unfold Gi.pend;rw[h];simp
theorem qnx{g:Gi}(h:g.own = !s):Gi.pend s g=(g.up==2):=by unfold Gi.pend;rw[h];simp
theorem qs6{x:En}{e:List En}(i:qj (x::e)≠9)(g:qay (qj (x::e))=false):qj e≠9∧qay (qj e)=false:=by
 cases x with
 | upd j=>exact⟨i,g⟩
 | shut=>exact⟨i,g⟩
 | sgn=>rcases qg7 i with ⟨-,e⟩ | ⟨-,e⟩<;>rw[e] at g<;>cases g
 | rev =>
  rcases qg6 i with ⟨l,e⟩ | ⟨-,e⟩
  ·rw[l];exact⟨by decide,rfl⟩
  ·rw[e] at g;cases g
theorem zf2{w:Nat}(h:w≤4)(g:qay w=false):w=0∨w=2:=by
 have:w=0∨w=1∨w=2∨w=3∨w=4:=by omega
 rcases this with rfl | rfl | rfl | rfl | rfl
 ·exact .inl rfl
 ·cases g
 ·exact .inr rfl
 ·cases g
 ·cases g
theorem qbe.sgn{f:Gi→Gi} : ∀ {e:List En},qj e≠9→qay (qj e)=false→(∀j∈ups e,∀g,G[j]? = some g→(f g).cov=true∧(f g).pre=g.pre)→qbe G e→qbe (G.map f) (e++[.sgn])
 | [],_,_,_,_=>trivial
 | .upd i::es,m,l,q,h=>by
  refine⟨fun y o=> ?_,qbe.sgn m l (fun j z=>q j (List.mem_cons_of_mem _ z)) h.2⟩;show y.cov=qay (qj (es++[.sgn]))∧y.pre=qbu (qj (es++[.sgn]));rw[List.getElem?_map] at o;cases v:G[i]? with
  | none=>rw[v] at o;cases o
  | some g =>
   rw[v] at o;injection o with o;subst o;obtain⟨f1,f2⟩:=q i (List.mem_cons_self ..) g v;have w:qj es=0∨qj es=2:=zf2 (qgy es m) l;rw[f1,f2,(h.1 g v).2,qvd es w];rcases w with e | e<;>rw[e]<;>exact⟨rfl,rfl⟩
 | .sgn::es,m,l,_,_=>by
  rcases qg7 m with ⟨-,e⟩ | ⟨-,e⟩<;>rw[e] at l<;>cases l
 | .rev::es,m,l,q,h=>qbe.sgn (e:=es) (qs6 m l).1 (qs6 m l).2 q h
 | .shut::es,m,l,q,h=>qbe.sgn (e:=es) m l q h
theorem zb5(g:Ch)(M:MsgV):((g.say M).turned).sgnOf=⟨6,g.s.ch,0,0,zt false g.s.key g.s.ch g.k.signed g.loc g.rem g.xs,0,g.k.signed⟩:=by
 unfold Ch.sgnOf;rfl
theorem q7y{P:Pt}(hK:K.Ok)(h:Inv K n P)(I:qa3 P.c=0) :
  ∃P',Goes K (n+1) P P.c.sign.1 (P.out++[P.c.sign.2.1]) P.inn P':=by
 obtain⟨s,c,d,eo,ei,G,la,nu,lb,nv⟩:=P
 obtain⟨ea,eb,ab,ba,it,ok,pw,few⟩:=h
 simp only at ea eb ab ba it ok pw few I
 have e1:c.sign=((c.signing.say (qbb c)).turned,(qbb c).on c.s.ch,0):=qu0 I
 unfold qa3 at I
 split at I
 ·cases I
 rename_i h1
 split at I
 ·cases I
 rename_i h2
 split at I
 ·cases I
 rename_i h3
 have a9:c.k.awaits=false:=by simpa using h1
 have a5:zl 1 c.xs=true:=by simpa using h2
 have hb:=ab.aw
 rw[a9] at hb
 have H:qay (qj eo)=false:=by cases e:qay (qj eo)<;>rw[e] at hb<;>simp at hb ⊢
 have Z:qbu (qj ei)=false:=by rw[H] at hb;simpa using hb.symm
 have hw:qj eo=0∨qj eo=2:=zf2 (qgy eo ab.w9) H
 have w:qj (eo++[.sgn])=qxm (qj eo):=qvd eo hw
 have nn:=qkq ok
 have l:=qgf it
 have b6:=hK.cap
 have b7:=hK.sum s
 have cl:=qis (qm s) 1 G nn
 have b8:=qjt (qm s) ((qm s).on 1) G (L:=(K.S s).ours) (R:=(K.S (!s)).ours) (fun g m=>qmt (qe8 it s g m)) nn cl.1 cl.2 (by rw[←ea.loc];exact ea.pos.1) (by rw[←ea.rem];exact ea.pos.2)
 obtain⟨s1,s2,s3,v,T,s6,s7,s8⟩:=qxj (qm s) G nn ea.perm ea.loc ea.rem ea.pos.1 ea.pos.2 (by omega) (by omega)
 obtain⟨m1,m2,m3⟩:=qlh (qd0 s) (qm s) ((qm s).on 1) (G:=G) fun g _=>⟨rfl,by
  show (if g.own=s then (qd0 s g).so else (qd0 s g).st)=zk (if g.own=s then g.so else g.st) (g.own==s) 1;rcases qy g.own s with e | e
  ·rw[if_pos e,if_pos e,(qcq e).1,e];simp
  ·rw[if_neg (qb4 e),if_neg (qb4 e),(qdk e).2,e];simp,rfl,rfl⟩
 have b4:∀g∈G,oGe s 1 (qd0 s g)=oGe s 0 g:=fun g m=>by
  unfold oGe;rw[show (qd0 s g).own=g.own from rfl];rcases qy g.own s with e | e
  ·rw[(qcq e).1,(qgc (l g m).1).2.2.1]
  ·rw[e];simp
 have b3:∀g∈G,oGe s 0 (qd0 s g)=oGe s 0 g:=fun g m=>by
  unfold oGe;rw[show (qd0 s g).own=g.own from rfl];rcases qy g.own s with e | e
  ·rw[(qcq e).1,(qgc (l g m).1).2.2.2.1]
  ·rw[e];simp
 have hq:∀g∈G,g.own=s→g.so≠1∧decide (1≤g.st)=decide (1≤g.so):=fun g m e=>by
  have:=qzz _ (it g m);rw[qdp e] at this;exact this H Z
 have b5:∀g∈G,g.own = !s→g.st≠6:=fun g m e=>by
  have:=qwy _ (it g m);rw[qdx e] at this;exact this H Z
 have W:cnt (oGe s 1) (G.map (qd0 s))=c.k.nextOwn:=by rw[qgk,qe0 b4,ea.nOwn]
 have o:∀k:Nat,((G.map (qd0 s))[k]?).map Gi.key=(G[k]?).map Gi.key:=fun k=>qnh (f:=qd0 s) (fun g=>rfl) G k
 have b9:∀t,∀g∈G,Gi.pend t (qd0 s g)=Gi.pend t g:=fun t g _=>rfl
 have a6:∀t,amt (qam t) (G.map (qd0 s))=amt (qam t) G:=fun t=>qxy (fun _ _=>rfl) fun _ _=>rfl
 have F:((c.signing.say (qbb c)).turned).sgnOf=(qbb c).on c.s.ch:=by
  rw[zik c.s.ch (show qbb c=⟨6,0,0,0,zt false c.s.key c.s.ch (c.k.signed+1) c.signing.loc c.signing.rem c.signing.xs,0,c.k.signed+1⟩ by unfold qbb;rfl),zb5,T,v]
 have V:((c.signing.say (qbb c)).turned).news=[]:=rfl
 have z:((c.signing.say (qbb c)).turned).last=c.news++[(qbb c).on c.s.ch]:=by
  show c.signing.news++[(qbb c).on c.signing.s.ch]=_;rw[T,s6]
 replace s1:((c.signing.say (qbb c)).turned).xs.Perm _:=s1
 replace s2:((c.signing.say (qbb c)).turned).loc=_:=s2
 replace s3:((c.signing.say (qbb c)).turned).rem=_:=s3
 replace v:((c.signing.say (qbb c)).turned).k=_:=v
 replace T:((c.signing.say (qbb c)).turned).s=_:=T
 replace s8:((c.signing.say (qbb c)).turned).shelf=_:=s8
 rw[e1]
 generalize (c.signing.say (qbb c)).turned=c' at *
 generalize (qbb c).on c.s.ch=M at *
 clear e1 s6 s7
 show ∃P',Goes K (n+1) ⟨s,c,d,eo,ei,G,la,nu,lb,nv⟩ c' (msE s c G eo++[M]) (msE (!s) d G ei) P'
 refine⟨⟨s,c',d,eo++[.sgn],ei,G.map (qd0 s),nu,[],lb,nv⟩,⟨?_,?_,?_,?_,?_,?_,?_,?_⟩,rfl,rfl,rfl,?_,?_⟩
 ·refine⟨T.trans ea.set,?_,?_,?_,?_,?_,?_,?_,Idx.none ?_,?_,V,?_,?_,?_⟩
  ·rw[m1];exact s1
  ·rw[m2];exact s2
  ·rw[m3];exact s3
  ·exact⟨by show 0≤c'.loc;omega,by show 0≤c'.rem;omega⟩
  ·show c'.k.nextOwn=_;rw[v,qgk,qe0 b3];exact ea.nOwn
  ·show c'.k.nextTheirs=_;rw[v,qbk fun g m=> ?_]
   ·exact ea.nTh
   ·unfold pGe;rw[show (qd0 s g).own=g.own from rfl];rcases qy g.own s with e | e
    ·rw[e];simp
    ·rw[(qdk e).2,(qgc (l g m).2.1).2.2.2.2.1]
  ·intro y Y e1 _;rw[W];obtain⟨g,m,rfl⟩:=List.mem_map.1 Y;have J:g.own=s:=e1;show g.h.id<_;rename_i N;rw[(qcq J).1] at N;have h0:0≤g.so:=by
    have:=(qgc (l g m).1).2.2.1;rw[decide_eq_true N] at this;simpa using this.symm
   by_cases a8:1≤g.so
   ·have:=ea.low g m J a8;have:=ea.nuI.rng.1;omega
   ·obtain⟨j,hj⟩:=List.getElem?_of_mem m;have a7:g.so=0:=by omega
    exact(ea.nuI.rng.2 j ((ea.nuS.iff j).2 ⟨g,hj,by unfold Gi.unsg;rw[J,a7];simp⟩) g hj J).2
  ·intro y Y;obtain⟨g,m,rfl⟩:=List.mem_map.1 Y;unfold Gi.unsg;rw[show (qd0 s g).own=g.own from rfl];rcases qy g.own s with e | e
   ·have:=(qgc (l g m).1).1;rw[(qcq e).1,e];simp[this]
   ·have:=(qgc (l g m).2.1).2.1;rw[(qdk e).2,e];simp[this]
  ·show Ids _ s _ [] c'.k.nextOwn;rw[v,W];rfl
  ·rw[show cnt (qbo s) (G.map (qd0 s))=cnt (qbo s) G from qbk fun g m=> ?_]
   ·exact ea.many
   ·unfold qbo;rw[show (qd0 s g).own=g.own from rfl];rcases qy g.own s with e | e
    ·rw[(qcq e).1,(qgc (l g m).1).2.2.2.1,(qgc (l g m).1).2.2.2.2.2.1]
    ·rw[e];simp
  ·show qaj _ c'.shelf;rw[s8];exact ea.shelf
  ·rw[v];obtain⟨n1,n2,-⟩:=ea.nums;exact⟨n1,⟨by show 0≤c.k.signed+1;omega,by show c.k.signed+1≤65535;omega⟩,fun _=>by show 1≤c.k.signed+1;omega⟩
 ·refine eb.mapS (fun _=>rfl) (fun _=>rfl) (fun _=>rfl) (fun g m=> ?_) fun _=>rfl
  show (if g.own = !s then (qd0 s g).so else (qd0 s g).st)=if g.own = !s then g.so else g.st;rcases qy g.own s with e | e
  ·rw[if_neg (qhr e),if_neg (qhr e),(qcq e).2]
  ·rw[if_pos e,if_pos e,(qdk e).1]
 ·have hu:ups (eo++[.sgn])=ups eo:=by rw[qg5];exact List.append_nil _
  have C:qay (qxm (qj eo))=true∧qbu (qxm (qj eo))=qbu (qj eo)∧qxm (qj eo)≠9∧qxm (qj eo)≠3:=by
   rcases hw with e | e<;>rw[e]<;>decide
  refine⟨by rw[w];exact C.2.2.1,fun _=>Z,?_,?_,?_,?_,?_,?_,?_,?_,?_,?_,?_,?_⟩
  ·show c'.k.signed=_;have O:=ab.sig;rw[H] at O;rw[v,w,C.1];show c.k.signed+1=_;rw[O];simp
  ·show c'.k.awaits=_;rw[v,w,C.1];rfl
  ·rw[w];exact fun e=>absurd e C.2.2.2
  ·intro _;show c'.k.revoked=false;rw[v]
  ·rw[hu];exact ab.upd.map _ fun g _=>rfl
  ·refine ab.along.sgn ab.w9 H fun j hj g m=>⟨?_,rfl⟩
   show (if Gi.pend s g=true then true else g.cov)=true;rw[if_pos (ab.upd.yes hj m)]
  ·rw[hu];show Ids _ s d.k.nextTheirs _ c'.k.nextOwn;rw[v];exact ab.ids.congr fun k _=>o k
  ·intro _;refine⟨ea.nuS.map _ fun g m=> ?_,?_,?_⟩
   ·unfold Gi.covd Gi.unsg;rw[show (qd0 s g).own=g.own from rfl];rcases qy g.own s with e | e
    ·rw[(qcq e).1,(qgc (l g m).1).2.2.2.2.2.2.2.2.1 (hq g m e).1,e];simp
    ·rw[(qdk e).2,(qgc (l g m).2.1).2.2.2.2.2.2.2.2.2 (b5 g m e),e];simp
   ·rw[W];have D:cnt (pGe s 1) (G.map (qd0 s))=cnt (oGe s 1) G:=by
     rw[qgk];refine qe0 fun g m=> ?_
     unfold pGe oGe;rw[show (qd0 s g).own=g.own from rfl];rcases qy g.own s with e | e
     ·rw[(qcq e).2,(hq g m e).2]
     ·rw[e];simp
    rw[D];exact ea.nuI.congr fun k _=>o k
   ·rw[F,z,ea.news];congr 1;exact(qb7 T fun k _=>o k).symm
  ·show c'.last.length≤n+1;have:=ea.nuS.len;rw[z,ea.news,List.length_append,List.length_singleton];unfold msU;rw[List.length_map];omega
  ·show qbj _ s c'.k.shutSaid d.k.shutHeard _;rw[v];exact qbj.snoc (by intro e;cases e) (fun _ _ e=>by cases e) (ab.shut.congr fun k _=>o k)
  ·rw[w,C.2.1,a6];exact ab.m1
  ·intro _;obtain⟨x,hx,a4⟩:=List.any_eq_true.1 a5;obtain⟨j,g,m,ex,hb⟩:=qgg ea.perm hx;have X:=List.mem_of_getElem? m;refine⟨qd0 s g,List.mem_map_of_mem X,?_⟩;have q:qw x.state x.own 1≠x.state:=by unfold chg at a4;simpa using a4
   rw[ex] at q;have q:qw (if g.own=s then g.so else g.st) (g.own==s) 1≠if g.own=s then g.so else g.st:=q;unfold Gi.moved;rw[show (qd0 s g).own=g.own from rfl];rcases qy g.own s with e | e
   ·rw[if_pos e,e] at q;have q:qw g.so true 1≠g.so:=by simpa using q
    have:=(qgc (l g X).1).2.2.2.2.2.2.1;rw[(qh2 (l g X).1 true).1] at this;rw[(qcq e).1,(qh2 (l g X).1 true).1,e];rcases this q with N | N<;>rw[N]<;>simp
   ·rw[if_neg (qb4 e),e] at q;have q:qw g.st false 1≠g.st:=by simpa using q
    have:=(qgc (l g X).2.1).2.2.2.2.2.2.2.1;rw[(qh2 (l g X).2.1 false).1] at this;rw[(qdk e).2,(qh2 (l g X).2.1 false).1,e];rcases this q with N | N<;>rw[N]<;>simp
 ·refine(ba.mono (Nat.le_succ n)).keep ⟨rfl,rfl,rfl,rfl,rfl⟩ rfl rfl (fun _=>rfl) ⟨?_,?_,?_⟩ ?_ ?_ (ba.upd.map _ fun g _=>rfl) ?_ (fun k _=>o k) (fun _ i=>⟨i.map _ fun g m=> ?_,fun k _=>o k⟩) (qbk fun g m=> ?_) (qbk fun g m=> ?_) (qv4 fun g m=> ?_)
  ·show c'.k.heard=_;rw[v]
  ·show c'.k.nextTheirs=_;rw[v]
  ·show c'.k.shutHeard=_;rw[v]
  ·rw[w];rcases hw with e | e<;>rw[e]<;>rfl
  ·intro e;rw[Z] at e;cases e
  ·refine qlp ba.along fun j hj g m=>⟨?_,rfl⟩
   have D:=ba.upd.yes hj m;show (if Gi.pend s g=true then true else g.cov)=g.cov;rw[if_neg];intro E;unfold Gi.pend at D E;rcases qy g.own s with e | e
   ·rw[e] at D E;simp at D E;omega
   ·rw[e] at D E;simp at D E;omega
  ·unfold Gi.covd;rw[show (qd0 s g).own=g.own from rfl];rcases qy g.own s with e | e
   ·rw[(qcq e).2,e];simp
   ·rw[(qdk e).1,e];simp
  ·unfold pGe;rw[show (qd0 s g).own=g.own from rfl];rcases qy g.own s with e | e
   ·rw[e];simp
   ·rw[(qdk e).2];have:∀ {x:Int},-1≤x∧x≤9→decide (1≤zk x false 1)=decide (1≤x):=qml (p:=fun x=>decide (1≤zk x false 1)=decide (1≤x)) (by decide +kernel);rw[this (l g m).2.1]
  ·unfold oGe;rw[show (qd0 s g).own=g.own from rfl];rcases qy g.own s with e | e
   ·rw[e];simp
   ·rw[(qdk e).1]
  ·unfold Gi.moved;rw[show (qd0 s g).own=g.own from rfl];rcases qy g.own s with e | e
   ·rw[(qcq e).2,e];simp
   ·rw[(qdk e).1,e];simp
 ·intro y Y;show y.it s (qj (eo++[.sgn])) (qj ei)∈qa1;obtain⟨g,m,rfl⟩:=List.mem_map.1 Y;have hi:=it g m;rw[w];rcases qy g.own s with e | e
  ·rw[qdp (g:=qd0 s g) (s:=s) e,(qcq e).1,(qcq e).2,(qh2 (l g m).1 true).1];rw[qdp e] at hi;have D:(qd0 s g).cov=if g.up=1 then true else g.cov:=by
    show (if Gi.pend s g=true then true else g.cov)=_;rw[qi7 e];simp
   rw[D];exact qz0 _ hi H Z
  ·rw[qdx (g:=qd0 s g) (s:=s) e,(qdk e).1,(qdk e).2,(qh2 (l g m).2.1 false).1];rw[qdx e] at hi;have D:(qd0 s g).cov=if g.up=2 then true else g.cov:=by
    show (if Gi.pend s g=true then true else g.cov)=_;rw[qnx e];simp
   rw[D];exact qz1 _ hi H Z
 ·intro y Y;obtain⟨g,m,rfl⟩:=List.mem_map.1 Y;have ho:=ok g m;refine⟨ho.id,ho.amount,ho.hash,ho.expiry,fun e=> ?_⟩;refine ho.um ?_;rcases qy g.own s with U | U
  ·rw[(qcq U).2] at e;exact e
  ·rw[(qdk U).2] at e;have:∀ {x:Int},-1≤x∧x≤9→(zk x false 1=5∨zk x false 1=6→x=5∨x=6):=qml (p:=fun x=>zk x false 1=5∨zk x false 1=6→x=5∨x=6) (by decide +kernel);exact this (l g m).2.1 e
 ·show ((G.map (qd0 s)).map Gi.pk).Pairwise Apt;rw[q2t fun g m=> ?_]
  ·exact pw
  ·unfold Gi.pk;rcases qy g.own s with e | e
   ·rw[(qcq e).1,(qgc (l g m).1).2.2.2.1];rfl
   ·rw[(qdk e).1];rfl
 ·show (G.map (qd0 s)).length≤n+1;rw[List.length_map];omega
 ·show msE s c' (G.map (qd0 s)) (eo++[.sgn])=msE s c G eo++[M];unfold msE;rw[List.map_append];congr 1
  ·refine qdh ab.w9 T (fun k _=>o k) (fun e=>by rw[H] at e;cases e) (fun _=>qi8 T ?_);show c'.k.heard=_;rw[v]
  ·show [c'.sgnOf]=_;rw[F]
 ·exact qdh ba.w9 rfl (fun k _=>o k) (fun _=>rfl) (fun _=>rfl)
end
end Go.Proofs.YthnohmjbbeahmaaGreatDoor
