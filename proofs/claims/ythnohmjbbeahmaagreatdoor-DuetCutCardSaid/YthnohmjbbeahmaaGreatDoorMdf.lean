/-
  The protocol, plain: bounds; an offer keeps the invariant.
-/
import Derived.Test.YthnohmjbbeahmaaGreatDoorMde
set_option linter.unusedVariables false
set_option linter.unusedSimpArgs false
namespace Go.Proofs.YthnohmjbbeahmaaGreatDoor
open Go.RowKit
section
variable {α:Type}
theorem q5h(v:Seen α):∀G:List α,(∀g∈G,-1≤v.st g∧v.st g≤9)→(∀g∈G,0≤(v.h g).amount)→v.conL G+v.conR G≤0
 | [],_,_=>Int.le_refl _
 | g::G,m,l=>by
  have x:=q5h v G (fun y i=>m y (List.mem_cons_of_mem _ i)) fun y i=>l y (List.mem_cons_of_mem _ i)
  have t:=qzl (v.mine g) (v.paid g) (v.st g) (v.h g).amount (m g (List.mem_cons_self ..));have w:=l g (List.mem_cons_self ..);have o:v.conL (g::G)=Go.Proofs.YthnohmjbbeahmaaGreatDoor.conL (v.mine g) (v.st g) (v.paid g) (v.h g).amount+v.conL G:=rfl;have q:v.conR (g::G)=Go.Proofs.YthnohmjbbeahmaaGreatDoor.conL (!v.mine g) (v.st g) (v.paid g) (v.h g).amount+v.conR G:=rfl;rw[o,q];split at t<;>omega
theorem qj9(v i:Seen α)(G:List α){L R:Int}(m:∀g∈G,-1≤i.st g∧i.st g≤9)(l:∀g∈G,0≤(i.h g).amount)(o:v.conL G≤i.conL G)(q:v.conR G≤i.conR G)(t:0≤L+v.conL G)(w:0≤R+v.conR G) :
  (0≤L+i.conL G∧L+i.conL G≤L+R)∧(0≤R+i.conR G∧R+i.conR G≤L+R):=by
 have:=q5h i G m l
 omega
theorem q1o{v:Seen α}{G:List α}(l:∀g∈G,0≤(v.h g).amount)(ev:Int):∀y∈qv ev (G.filterMap v.show),0≤y.h.amount:=by
 intro y o;obtain⟨x,m,rfl⟩:=List.mem_map.1 o;obtain⟨g,i,e⟩:=List.mem_filterMap.1 m;show 0≤x.h.amount;rw[qqm e];exact l g i
theorem qi8(v:Seen α)(ev:Int)(G:List α)(i:∀g∈G,0≤(v.h g).amount):v.conL G≤(v.on ev).conL G∧v.conR G≤(v.on ev).conR G:=by
 have l:=q5f v ev G;have m:=q5g v ev G;have o:=qfv true _ (q1o i ev);have q:=qfv false _ (q1o i ev);omega
theorem qnn{v:Seen α}{ev:Int}{g:α}(h : -1≤v.st g∧v.st g≤9) : -1≤(v.on ev).st g∧(v.on ev).st g≤9:=by
 show -1≤zt (v.st g) (v.mine g) ev∧zt (v.st g) (v.mine g) ev≤9;unfold zt;split
 ·rename_i i;rcases qev (mine:=v.mine g) (ev:=ev) i with e | e<;>omega
 ·exact h
end
section
variable {G:List Gi}{g g':Gi}{j:Nat}
theorem qvz(v:Seen Gi)(G:List Gi)(g:Gi):v.conL (G++[g])=v.conL G+conL (v.mine g) (v.st g) (v.paid g) (v.h g).amount∧v.conR (G++[g])=v.conR G+conL (!v.mine g) (v.st g) (v.paid g) (v.h g).amount:=⟨qo3 _ G g,qo3 _ G g⟩
theorem qoy(v:Seen Gi)(i:G[j]? = some g)(g':Gi):v.conL (G.set j g')=v.conL G-conL (v.mine g) (v.st g) (v.paid g) (v.h g).amount+conL (v.mine g') (v.st g') (v.paid g') (v.h g').amount∧v.conR (G.set j g')=v.conR G-conL (!v.mine g) (v.st g) (v.paid g) (v.h g).amount+conL (!v.mine g') (v.st g') (v.paid g') (v.h g').amount:=⟨qrg _ i,qrg _ i⟩
theorem ql4(f:Gi→Gi)(v i:Seen Gi)(h:∀g∈G,v.mine (f g)=i.mine g∧v.st (f g)=i.st g∧v.h (f g)=i.h g∧v.paid (f g)=i.paid g) :
  (G.map f).filterMap v.show=G.filterMap i.show∧v.conL (G.map f)=i.conL G∧v.conR (G.map f)=i.conR G:=by
 refine⟨?_,?_,?_⟩
 ·rw[List.filterMap_map];refine qhz fun g t=> ?_
  obtain⟨l,m,o,q⟩:=h g t;show qa9 (v.mine (f g)) (v.h (f g)) (v.st (f g)) (v.paid (f g))=_;rw[l,m,o,q];rfl
 ·unfold Seen.conL;rw[List.map_map];refine qei fun g t=> ?_
  obtain⟨l,m,o,q⟩:=h g t;show conL (v.mine (f g)) (v.st (f g)) (v.paid (f g)) (v.h (f g)).amount=_;rw[l,m,o,q]
 ·unfold Seen.conR;rw[List.map_map];refine qei fun g t=> ?_
  obtain⟨l,m,o,q⟩:=h g t;show conL (!v.mine (f g)) (v.st (f g)) (v.paid (f g)) (v.h (f g)).amount=_;rw[l,m,o,q]
end
def qic(s:Bool)(g:Gi):Bool:=g.own == !s&&(decide (0≤g.st)&&decide (g.st≤8))
theorem qs2{s:Bool}{xs:List Live}{G:List Gi}(o:xs.Perm (G.filterMap (qo s).show)):(qdh true xs:Int)=cnt (qbq s) G∧(qdh false xs:Int)=cnt (qic s) G:=by
 have e:∀b,qdh b xs=qdh b (G.filterMap (qo s).show):=fun b=>by unfold qdh;exact(o.filter _).length_eq
 rw[e,e];clear e o
 induction G with
 | nil=>exact⟨rfl,rfl⟩
 | cons g G q =>
  have t:cnt (qbq s) (g::G)=(if qbq s g=true then 1 else 0)+cnt (qbq s) G:=rfl;have v:cnt (qic s) (g::G)=(if qic s g=true then 1 else 0)+cnt (qic s) G:=rfl;rw[t,v,←q.1,←q.2];rcases za g.own s with i | i
  ·have m:qic s g=false:=by unfold qic;rw[i];simp
   by_cases l:0≤g.so∧g.so≤8
   ·have eo:qbq s g=true:=by unfold qbq;rw[i];simp;exact l
    have es:(qo s).show g=some ⟨g.h,true,g.so,g.paid&&decide (5≤g.so)⟩:=by
     show qa9 (g.own==s) g.h (if g.own=s then g.so else g.st) g.paid=_;rw[if_pos i,i];unfold qa9;rw[if_pos l];simp
    rw[List.filterMap_cons_some es,m,eo];constructor
    ·simp[qdh];omega
    ·simp[qdh]
   ·have eo:qbq s g=false:=by unfold qbq;rw[i];simp;omega
    have es:(qo s).show g=none:=by
     show qa9 (g.own==s) g.h (if g.own=s then g.so else g.st) g.paid=_;rw[if_pos i];unfold qa9;rw[if_neg l]
    rw[List.filterMap_cons_none es,m,eo];simp
  ·have m:qbq s g=false:=by unfold qbq;rw[i];simp
   by_cases l:0≤g.st∧g.st≤8
   ·have eo:qic s g=true:=by unfold qic;rw[i];simp;exact l
    have es:(qo s).show g=some ⟨g.h,false,g.st,g.paid&&decide (5≤g.st)⟩:=by
     show qa9 (g.own==s) g.h (if g.own=s then g.so else g.st) g.paid=_;rw[if_neg (qb3 i),i];unfold qa9;rw[if_pos l];simp
    rw[List.filterMap_cons_some es,m,eo];constructor
    ·simp[qdh]
    ·simp[qdh];omega
   ·have eo:qic s g=false:=by unfold qic;rw[i];simp;omega
    have es:(qo s).show g=none:=by
     show qa9 (g.own==s) g.h (if g.own=s then g.so else g.st) g.paid=_;rw[if_neg (qb3 i)];unfold qa9;rw[if_neg l]
    rw[List.filterMap_cons_none es,m,eo];simp
section
variable {K:Kon}{n:Nat}{s:Bool}{c d:Ch}{eo ei:List En}{G:List Gi}{la nu lb nv:List Nat}
noncomputable def Pt.out(P:Pt):List MsgV:=msE P.s P.c P.G P.eo
noncomputable def Pt.inn(P:Pt):List MsgV:=msE (!P.s) P.d P.G P.ei
structure Goes(K:Kon)(n:Nat)(P:Pt)(c':Ch)(wo wi:List MsgV)(P':Pt):Prop where
 inv:Inv K n P'
 s:P'.s=P.s
 c:P'.c=c'
 d:P'.d=P.d
 out:P'.out=wo
 inn:P'.inn=wi
theorem qge(h:∀g∈G,g.it s (ql eo) (ql ei)∈qa3):∀g∈G,(-1≤g.so∧g.so≤9)∧(-1≤g.st∧g.st≤9)∧(g.so = -1→g.st = -1∧g.up=0)∧(g.st = -1→g.so = -1∨g.so=0∨g.so=1)∧g.up≤2 :=
 fun g i=>qvw _ (h g i)
theorem qe7(h:∀g∈G,g.it s (ql eo) (ql ei)∈qa3)(t:Bool):∀g∈G,-1≤(qo t).st g∧(qo t).st g≤9:=by
 intro g i;have:=qge h g i;show -1≤(if g.own=t then g.so else g.st)∧(if g.own=t then g.so else g.st)≤9;split
 ·exact this.1
 ·exact this.2.1
theorem qla{ch:Int}(h:∀g∈G,GiOk ch g):∀g∈G,0≤g.h.amount:=fun g i=>by have:=(h g i).amount;omega
theorem zgc(p:Gi→Bool)(h:∀g∈G,0≤g.h.amount):0≤amt p G:=by
 unfold amt;have:=qib (f:=fun _=>(0:Int)) (f':=fun g:Gi=>if p g=true then g.h.amount else 0) (G:=G) (fun g i=>by
  show 0≤if p g=true then g.h.amount else 0;split
  ·exact h g i
  ·exact Int.le_refl _)
 have e:(G.map fun _:Gi=>(0:Int)).sum=0:=by
  clear h this
  induction G with
  | nil=>rfl
  | cons g G l=>rw[List.map_cons,List.sum_cons,l];rfl
 omega
theorem EndI.snocN{t:Bool}(h:EndI K t c G nu){g:Gi}(i:g.own = !t)(o:g.st = -1):EndI K t c (G++[g]) nu:=by
 have C:(qo t).show g=none:=by
  show qa9 (g.own==t) g.h (if g.own=t then g.so else g.st) g.paid=_;rw[if_neg (qb3 i),o];rfl
 have q:∀k,oGe t k g=false:=fun k=>by unfold oGe;rw[i];simp
 have D:pGe (!t) 0 g=false:=by unfold pGe;rw[i,o];simp
 have E:Gi.unsg t g=false:=by unfold Gi.unsg;rw[i,o];simp
 have F:qbq t g=false:=by unfold qbq;rw[i];simp
 have H:(qo t).mine g=false:=by show (g.own==t)=false;rw[i];simp
 have es:(qo t).st g = -1:=by show (if g.own=t then g.so else g.st) = -1;rw[if_neg (qb3 i),o]
 obtain⟨x,z⟩:=qvz (qo t) G g;rw[es] at x z;refine⟨h.set,?_,?_,?_,h.pos,?_,?_,?_,h.nuS.snocN E,?_,?_,?_,h.shelf,h.nums⟩
 ·rw[List.filterMap_append,List.filterMap_cons_none C];simpa using h.perm
 ·rw[h.loc,x];simp[conL]
 ·rw[h.rem,z];simp[conL]
 ·rw[h.nOwn,qc6,q];simp
 ·rw[h.nTh,qc6,D];simp
 ·intro y m l w;rw[qc6,q];rcases List.mem_append.1 m with m | m
  ·have:=h.low y m l w;simpa using this
  ·rw[List.mem_singleton.1 m,i] at l;cases t<;>cases l
 ·rw[qc6,q];have:=h.nuI.congr (G':=G++[g]) fun j v=>qet (h.nuS.lt v)
  simpa using this
 ·rw[h.news];exact(qb8 rfl fun j v=>qet (h.nuS.lt v)).symm
 ·rw[qc6,F];simpa using h.many
theorem EndI.tag(h:EndI K s c G nu)(i:K.Ok)(l:∀g∈G,-1≤(qo s).st g∧(qo s).st g≤9)(m:∀g∈G,0≤g.h.amount):(0≤c.loc∧c.loc≤K.cap)∧(0≤c.rem∧c.rem≤K.cap):=by
 have:=qj9 (qo s) (qo s) G (L:=(K.S s).ours) (R:=(K.S (!s)).ours) l m (Int.le_refl _) (Int.le_refl _) (by rw[←h.loc];exact h.pos.1) (by rw[←h.rem];exact h.pos.2);rw[←h.loc,←h.rem,i.sum s] at this;exact this
def qdw(s:Bool)(c:Ch)(N:Int)(hv:Vector Int 32)(ex:Int):Gi:=⟨s,⟨c.k.nextOwn,N,hv,ex⟩,false,0,-1,1,false,false,MsgV.zero⟩
theorem Dir.keep{c' i:Ch}{G':List Gi}{l:List En}(h:Dir n s c d eo ei G la)(I:c'.k.signed=c.k.signed∧c'.k.awaits=c.k.awaits∧c'.k.nextOwn=c.k.nextOwn∧c'.k.shutSaid=c.k.shutSaid∧c'.k.revoked=c.k.revoked)(M:c'.s=c.s)(z:c'.last=c.last)
  (q:qay (ql eo)=true→c'.sgnOf=c.sgnOf) (hd:i.k.heard=d.k.heard∧i.k.nextTheirs=d.k.nextTheirs∧i.k.shutHeard=d.k.shutHeard) (y:qbw (ql l)=qbw (ql ei)) (x:qbw (ql eo)=true→amt (qao s) G'≤i.rem)
  (t:Idx G' (Gi.pend s) (ups eo)) (v:qbh G' eo) (o:∀j∈ups eo,(G'[j]?).map Gi.key=(G[j]?).map Gi.key) (m:qay (ql eo)=true→Idx G (Gi.covd s) la→Idx G' (Gi.covd s) la∧∀j∈la,(G'[j]?).map Gi.key=(G[j]?).map Gi.key)
  (L:cnt (pGe s 1) G'=cnt (pGe s 1) G) (J:cnt (oGe s 1) G'=cnt (oGe s 1) G) (w:(∃g∈G,Gi.moved s g=true)→∃g∈G',Gi.moved s g=true):Dir n s c' i eo l G' la:=by
 obtain⟨T,U,V,W,D⟩:=I
 obtain⟨E,F,H⟩:=hd
 refine⟨h.w9,fun e=>by rw[y];exact h.xor e,by rw[T,E];exact h.sig,by rw[U,y];exact h.aw,fun e=>by rw[D];exact h.rv3 e,fun e=>by rw[D];exact h.rv4 e,t,v,by rw[F,V];exact h.ids.congr o,fun e=> ?_,by rw[z];exact h.last,by rw[W,H];exact h.shut.congr o,x,fun e=>w (h.ex e)⟩
 obtain⟨N,O,P⟩:=h.laS e
 obtain⟨R,C⟩:=m e N
 refine⟨R,by rw[L,J];exact O.congr C,?_⟩
 rw[z,q e,P,qb8 M C]
theorem q33(c:Ch)(N:Int)(hv:Vector Int 32)(ex:Int)(i:0≤c.loc∧c.loc<18446744073709551616):((c.offered N hv ex).say (qew c N hv ex)).sgnOf=c.sgnOf:=by
 refine qjq rfl rfl (qgh _ _ _ ?_ ?_)
 ·exact zee false c.xs (x:=qe3 c N hv ex) rfl rfl i
 ·exact qst false c.xs (x:=qe3 c N hv ex) rfl
theorem q32{P:Pt}(hK:K.Ok)(h:Inv K n P)(hn:n<1000000000){N ex:Int}{hv:Vector Int 32}(hN:0≤N)(hb:qa7 hv.toList)(o:qbo P.c N ex=0) :
  ∃P',Goes K (n+1) P (P.c.offer N hv ex).1 (P.out++[(P.c.offer N hv ex).2.1]) P.inn P':=by
 obtain⟨s,c,d,eo,ei,G,la,nu,lb,nv⟩:=P
 obtain⟨ea,eb,ab,ba,it,ok,pw,few⟩:=h
 simp only at ea eb ab ba it ok pw few o
 have e1:c.offer N hv ex=((c.offered N hv ex).say (qew c N hv ex),(qew c N hv ex).on c.s.ch,0):=by unfold Ch.offer;rw[if_pos o]
 have nn:=qla ok
 obtain⟨bl,br⟩:=ea.tag hK (qe7 it s) nn
 have a7:=hK.cap
 unfold qbo at o
 split at o
 ·cases o
 rename_i T
 split at o
 ·cases o
 rename_i h2
 split at o
 ·cases o
 rename_i h3
 split at o
 ·cases o
 rename_i h4
 split at o
 ·cases o
 rename_i h5
 have a5:c.k.shutSaid=false:=by simpa using T
 have a8:=qq4 (oGe s 0) G
 have b3:=qj8 (oGe s 0) G
 have a4:=(qs2 ea.perm).1
 have H:IntKind.u64.wrap (c.k.nextOwn+1)=c.k.nextOwn+1:=qdq (by rw[ea.nOwn];omega) (by rw[ea.nOwn];omega)
 have L:∀k,pGe s k (qdw s c N hv ex)=decide (k ≤ -1):=fun k=>by unfold pGe qdw;simp
 have w:∀k,oGe s k (qdw s c N hv ex)=decide (k≤0):=fun k=>by unfold oGe qdw;simp
 have M:Gi.unsg s (qdw s c N hv ex)=true:=by unfold Gi.unsg qdw;simp
 have F:Gi.pend s (qdw s c N hv ex)=true:=by unfold Gi.pend qdw;simp
 have D:Gi.covd s (qdw s c N hv ex)=false:=by unfold Gi.covd qdw;simp
 have U:qao s (qdw s c N hv ex)=false:=by unfold qao qdw;simp
 have q1:∀k,oGe (!s) k (qdw s c N hv ex)=false:=fun k=>by unfold oGe qdw;simp
 have q2:∀k,pGe (!s) k (qdw s c N hv ex)=false:=fun k=>by unfold pGe qdw;simp
 have q3:Gi.pend (!s) (qdw s c N hv ex)=false:=by unfold Gi.pend qdw;simp
 have q4:Gi.covd (!s) (qdw s c N hv ex)=false:=by unfold Gi.covd qdw;simp
 have q5:qao (!s) (qdw s c N hv ex)=false:=by unfold qao qdw;simp
 have C:=q33 c N hv ex ⟨bl.1,by omega⟩
 have v:(G++[qdw s c N hv ex])[G.length]? = some (qdw s c N hv ex):=by simp
 refine⟨⟨s,(c.offered N hv ex).say (qew c N hv ex),d,eo++[.upd G.length],ei,G++[qdw s c N hv ex],la,nu++[G.length],lb,nv⟩,⟨?_,?_,?_,?_,?_,?_,?_,?_⟩,rfl,by rw[e1],rfl,?_,?_⟩
 ·
  have es:(qo s).show (qdw s c N hv ex)=some (qe3 c N hv ex):=by
   show qa9 (s==s) _ (if s=s then (0:Int) else -1) false=_;rw[if_pos rfl];unfold qa9;simp;rfl
  obtain⟨s1,s2⟩:=qvz (qo s) G (qdw s c N hv ex);have em:(qo s).mine (qdw s c N hv ex)=true:=by show (s==s)=true;simp
  have O:(qo s).st (qdw s c N hv ex)=0:=by show (if s=s then (0:Int) else -1)=0;rw[if_pos rfl]
  rw[em,O] at s1 s2;refine⟨ea.set,?_,?_,?_,⟨?_,ea.pos.2⟩,?_,?_,?_,ea.nuS.snocY M,?_,?_,?_,ea.shelf,ea.nums⟩
  ·rw[List.filterMap_append,List.filterMap_cons_some es];exact ea.perm.append_right _
  ·rw[s1];show c.loc-N=_;rw[ea.loc];show _=(K.S s).ours+((qo s).conL G + -N);omega
  ·rw[s2];show c.rem=_;rw[ea.rem];show _=(K.S (!s)).ours+((qo s).conR G+0);omega
  ·show 0≤c.loc-N;omega
  ·show IntKind.u64.wrap (c.k.nextOwn+1)=_;rw[H,ea.nOwn,qc6,w];simp
  ·show c.k.nextTheirs=_;rw[ea.nTh,qc6,q2];simp
  ·intro y z a6 I;rw[qc6,w];rcases List.mem_append.1 z with z | z
   ·have:=ea.low y z a6 I;simpa using this
   ·rw[List.mem_singleton.1 z] at I;exact absurd I (by show ¬(1:Int)≤0;decide)
  ·show Ids _ s _ (nu++[G.length]) (IntKind.u64.wrap (c.k.nextOwn+1));rw[H,qc6,w];have:=(ea.nuI.congr (G':=G++[qdw s c N hv ex]) fun j l=>qet (ea.nuS.lt l)).app (Ids.one v rfl rfl);simpa using this
  ·show c.news++[(qew c N hv ex).on c.s.ch]=_;unfold msU;rw[List.map_append,ea.news];congr 1
   ·exact(qb8 rfl fun j l=>qet (ea.nuS.lt l)).symm
   ·show _=[enM s _ _ (.upd G.length)];rw[qka v];show _=[qq1 s c.s.ch (qdw s c N hv ex)];unfold qq1 qdw;rw[if_pos rfl];rfl
  ·show cnt (qbq s) (G++[qdw s c N hv ex])≤8;rw[qc6];split<;>omega
 ·
  exact eb.snocN (by show s = !(!s);rw[Bool.not_not]) rfl
 ·
  have x:ql (eo++[.upd G.length])=ql eo:=qjw eo _;have hu:ups (eo++[.upd G.length])=ups eo++[G.length]:=qhg eo _;have J:∀j∈ups eo,((G++[qdw s c N hv ex])[j]?).map Gi.key=(G[j]?).map Gi.key:=fun j l=>qet (ab.upd.lt l)
  refine⟨by rw[x];exact ab.w9,by rw[x];exact ab.xor,by rw[x];exact ab.sig,by rw[x];exact ab.aw,by rw[x];exact ab.rv3,by rw[x];exact ab.rv4,?_,?_,?_,?_,Nat.le_succ_of_le ab.last,?_,?_,?_⟩
  ·rw[hu];exact ab.upd.snocY F
  ·refine qbh.snoc (.inl rfl) (fun _ g m=> ?_) eo (ab.along.congr fun j l g' t=>⟨g',?_,rfl,rfl⟩)
   ·rw[v] at m;injection m with m;subst m;exact⟨rfl,rfl⟩
   ·rw[List.getElem?_append_left (ab.upd.lt l)] at t;exact t
  ·rw[hu];show Ids _ s d.k.nextTheirs _ (IntKind.u64.wrap (c.k.nextOwn+1));rw[H];exact(ab.ids.congr J).app (Ids.one v rfl rfl)
  ·intro e;rw[x] at e;obtain⟨i1,i2,i3⟩:=ab.laS e;refine⟨i1.snocN D,?_,?_⟩
   ·rw[qc6,qc6,L,w];have:=i2.congr (G':=G++[qdw s c N hv ex]) fun j l=>qet (i1.lt l)
    simpa using this
   ·show c.last=_;rw[C,i3];congr 1;exact(qb8 rfl fun j l=>qet (i1.lt l)).symm
  ·refine qbl.snoc (by intro e;cases e) (fun _ _ _ _ _=>a5) (ab.shut.congr J)
  ·rw[x];intro e;rw[qy6,U];have:=ab.m1 e;simpa using this
  ·rw[x];intro e;obtain⟨g,m,Z⟩:=ab.ex e;exact⟨g,List.mem_append_left _ m,Z⟩
 ·
  refine(ba.mono (Nat.le_succ n)).keep ⟨rfl,rfl,rfl,rfl,rfl⟩ rfl rfl (fun _=>rfl) ⟨rfl,rfl,rfl⟩ (by rw[qjw]) ?_ (ba.upd.snocN q3) ?_ (fun j l=>qet (ba.upd.lt l)) (fun _ i=>⟨i.snocN q4,fun j l=>qet (i.lt l)⟩) ?_ ?_ ?_
  ·intro e;rw[qy6,q5];show amt (qao (!s)) G+_≤c.rem;have:=ba.m1 e;simpa using this
  ·exact ba.along.congr fun j l g' t=>⟨g',by rw[List.getElem?_append_left (ba.upd.lt l)] at t;exact t,rfl,rfl⟩
  ·rw[qc6,q2];simp
  ·rw[qc6,q1];simp
  ·rintro ⟨g,m,Z⟩;exact⟨g,List.mem_append_left _ m,Z⟩
 ·intro g m;show g.it s (ql (eo++[.upd G.length])) (ql ei)∈qa3;rw[qjw];rcases List.mem_append.1 m with m | m
  ·exact it g m
  ·rw[List.mem_singleton.1 m,qdp (g:=qdw s c N hv ex) (s:=s) rfl];have hf:=q4c ⟨ql eo,Nat.lt_succ_of_le (qg5 _ ab.w9)⟩ ⟨ql ei,Nat.lt_succ_of_le (qg5 _ ba.w9)⟩ ab.xor ba.xor;exact q09 _ hf rfl rfl
 ·intro g m;rcases List.mem_append.1 m with m | m
  ·exact ok g m
  ·rw[List.mem_singleton.1 m];refine⟨⟨by show 0≤c.k.nextOwn;rw[ea.nOwn];omega,by show c.k.nextOwn<_;rw[ea.nOwn];omega⟩,⟨by show 1≤N;omega,by show N≤_;omega⟩,hb,⟨by show 1≤ex;omega,by show ex≤_;omega⟩,?_⟩;rintro (e | e)<;>exact absurd e (by show ¬(-1:Int)=_;decide)
 ·show ((G++[qdw s c N hv ex]).map Gi.pk).Pairwise Apt;rw[List.map_append,List.pairwise_append];refine⟨pw,by simp,?_⟩;intro a ha b V;obtain⟨g,m,rfl⟩:=List.mem_map.1 ha;have W:b=(qdw s c N hv ex).pk:=by simpa using V
  subst W;rintro ⟨T,-,h3,h4⟩;have E:g.own=s:=h3;have a9:g.h.id=c.k.nextOwn:=h4;have b4:0≤g.so:=by simpa [Gi.pk] using T
  by_cases h0:1≤g.so
  ·have:=ea.low g m E h0;have Y:=qm8 (p:=oGe s 1) (q:=oGe s 0) (G:=G) fun y _ z=>by unfold oGe at z ⊢;simp at z ⊢;exact⟨z.1,by omega⟩
   rw[←ea.nOwn] at Y;omega
  ·obtain⟨j,l⟩:=List.getElem?_of_mem m;have X:j∈nu:=(ea.nuS.iff j).2 ⟨g,l,by
    have R:g.so=0:=by omega
    unfold Gi.unsg;rw[E,R];simp⟩
   have:=ea.nuI.rng.2 j X g l E;omega
 ·show (G++[qdw s c N hv ex]).length≤n+1;rw[List.length_append,List.length_singleton];omega
 ·rw[e1];show msE s _ _ (eo++[.upd G.length])=msE s c G eo++[(qew c N hv ex).on c.s.ch];unfold msE;rw[List.map_append];congr 1
  ·exact qdi ab.w9 rfl (fun j l=>qet (ab.upd.lt l)) (fun _=>C) (fun _=>qjp rfl rfl)
  ·show [enM s _ _ (.upd G.length)]=_;rw[qka v];show [qq1 s c.s.ch (qdw s c N hv ex)]=_;unfold qq1 qdw;rw[if_pos rfl];rfl
 ·exact qdi ba.w9 rfl (fun j l=>qet (ba.upd.lt l)) (fun _=>rfl) (fun _=>rfl)
end
section
variable {K:Kon}{n:Nat}{s t:Bool}{c d:Ch}{eo ei:List En}{G:List Gi}{la nu lb nv:List Nat}{g g':Gi}{j:Nat}
theorem qr1{p:Gi→Bool}(o:G[j]? = some g)(q:p g=true→p g'=true)(h:∃y∈G,p y=true):∃y∈G.set j g',p y=true:=by
 obtain⟨y,v,m⟩:=h;obtain⟨k,i⟩:=List.getElem?_of_mem v;by_cases l:k=j
 ·subst l;rw[o] at i;injection i with i;subst i;exact⟨g',List.mem_of_getElem? (by rw[qf2 o,if_pos rfl]),q m⟩
 ·exact⟨y,List.mem_of_getElem? (by rw[qf2 o,if_neg l];exact i),m⟩
theorem qfj{p:Gi→Prop}(o:G[j]? = some g)(h:∀y∈G,p y)(m:p g'):∀y∈G.set j g',p y:=by
 intro y q;obtain⟨k,i⟩:=List.getElem?_of_mem q;rw[qf2 o] at i;by_cases l:k=j
 ·rw[if_pos l] at i;injection i with i;rw[←i];exact m
 ·rw[if_neg l] at i;exact h y (List.mem_of_getElem? i)
theorem qhj{e:List En}(m:G[j]? = some g)(h:qbh G e)(o:j∈ups e→g'.cov=g.cov∧g'.pre=g.pre):qbh (G.set j g') e:=by
 refine h.congr fun k q y l=> ?_
 rw[qf2 m] at l;by_cases i:k=j
 ·rw[if_pos i] at l;injection l with l;subst l;subst i;exact⟨g,m,o q⟩
 ·rw[if_neg i] at l;exact⟨y,l,rfl,rfl⟩
theorem Idx.off{p:Gi→Bool}{l:List Nat}(h:Idx G p l)(m:G[j]? = some g)(i:p g=false):∀k∈l,k≠j:=by
 rintro k o rfl;rw[h.yes o m] at i;cases i
theorem qfy{p:Gi→Bool}{l:List Nat}(h:Idx G p l)(i:G[j]? = some g)(o:p g=false):∀k∈l,((G.set j g')[k]?).map Gi.key=(G[k]?).map Gi.key :=
 fun k m=>qob i (.inl (h.off i o k m))
theorem EndI.setS(h:EndI K t c G nu)(i:G[j]? = some g)(m:g'.own=g.own)(x:g'.h=g.h)(y:(qo t).st g'=(qo t).st g)(o:g'.paid=g.paid∨(qo t).st g≤4)(w:g'.um=g.um∨Gi.unsg t g=false):EndI K t c (G.set j g') nu:=by
 have z:g.own=t→g'.so=g.so:=fun e=>by
  have:(if g'.own=t then g'.so else g'.st)=if g.own=t then g.so else g.st:=y;rwa [m,if_pos e,if_pos e] at this
 have O:¬g.own=t→g'.st=g.st:=fun e=>by
  have:(if g'.own=t then g'.so else g'.st)=if g.own=t then g.so else g.st:=y;rwa [m,if_neg e,if_neg e] at this
 have N:(qo t).mine g'=(qo t).mine g:=by show (g'.own==t)=(g.own==t);rw[m]
 have D:(qo t).show g'=(qo t).show g:=by
  unfold Seen.show;rw[N,y,show (qo t).h g'=(qo t).h g from x];rcases o with o | o
  ·rw[show (qo t).paid g'=(qo t).paid g from o]
  ·unfold qa9;rw[decide_eq_false (show ¬5≤(qo t).st g by omega),Bool.and_false,Bool.and_false]
 have v:∀b,conL b ((qo t).st g') ((qo t).paid g') ((qo t).h g').amount=conL b ((qo t).st g) ((qo t).paid g) ((qo t).h g).amount:=by
  intro b;rw[y,show (qo t).h g'=(qo t).h g from x];rcases o with o | o
  ·rw[show (qo t).paid g'=(qo t).paid g from o]
  ·unfold conL;rw[if_neg (show ¬(qo t).st g=9 by omega),if_neg (show ¬(qo t).st g=9 by omega)]
 have q:∀k,oGe t k g'=oGe t k g:=fun k=>by
  unfold oGe;rw[m];rcases za g.own t with e | e
  ·rw[z e]
  ·rw[e];simp
 have H:pGe (!t) 0 g'=pGe (!t) 0 g:=by
  unfold pGe;rw[m];rcases za g.own t with e | e
  ·rw[e];simp
  ·rw[O (qb3 e)]
 have I:Gi.unsg t g'=Gi.unsg t g:=by
  unfold Gi.unsg;rw[m];rcases za g.own t with e | e
  ·rw[z e,e];simp
  ·rw[O (qb3 e),e];simp
 have F:qbq t g'=qbq t g:=by
  unfold qbq;rw[m];rcases za g.own t with e | e
  ·rw[z e]
  ·rw[e];simp
 obtain⟨J,L⟩:=qoy (qo t) i g';rw[N,v] at J L;have l:∀k∈nu,((G.set j g')[k]?).map Gi.key=(G[k]?).map Gi.key:=fun k E=>by
  rcases w with w | w
  ·exact qob i (.inr (by unfold Gi.key;rw[m,x,w]))
  ·exact qob i (.inl (h.nuS.off i w k E))
 refine⟨h.set,?_,by rw[h.loc,J];omega,by rw[h.rem,L];omega,h.pos,by rw[qau i (q 0)];exact h.nOwn,by rw[qau i H];exact h.nTh,?_,h.nuS.setS i I,?_,?_,by rw[qau i F];exact h.many,h.shelf,h.nums⟩
 ·exact q9i _ h.perm i D
 ·rw[qau i (q 1)];refine qfj i h.low fun C M=> ?_
  rw[x];rw[m] at C;rw[z C] at M;exact h.low g (List.mem_of_getElem? i) C M
 ·rw[qau i (q 1)];exact h.nuI.congr l
 ·rw[h.news];exact(qb8 rfl l).symm
theorem q4b:∀x∈qa3,x.2.1=4→x.1=4∧x.2.2.1=0:=by decide +kernel
def qef(g:Gi)(paid:Bool)(m:MsgV):Gi:= {g with paid:=paid,st:=5,up:=2,cov:=false,pre:=false,um:=m}
theorem q1e(c:Ch)(i:Nat)(x:Live)(paid:Bool)(m:MsgV)(l:c.xs[i]? = some x)(o:x.state=4):((c.removed i x paid).say m).sgnOf=c.sgnOf :=
 qjq rfl rfl (qgh _ _ _ (q1w false c.loc c.rem (y:= {x with state:=5,paid:=paid}) l (.inl o) (.inr rfl)) (qvg false (y:= {x with state:=5,paid:=paid}) l (.inl o) (.inr rfl) rfl rfl))
theorem qgf{xs:List Live}(o:xs.Perm (G.filterMap (qo s).show)){x:Live}(q:x∈xs):∃(j:Nat) (g:Gi),G[j]? = some g∧x=⟨g.h,g.own==s,if g.own=s then g.so else g.st,g.paid&&decide (5≤if g.own=s then g.so else g.st)⟩∧(0≤(if g.own=s then g.so else g.st)∧(if g.own=s then g.so else g.st)≤8):=by
 obtain⟨g,l,e⟩:=List.mem_filterMap.1 (o.subset q);obtain⟨j,m⟩:=List.getElem?_of_mem l;refine⟨j,g,m,?_⟩;have e:qa9 (g.own==s) g.h (if g.own=s then g.so else g.st) g.paid=some x:=e;generalize (if g.own=s then g.so else g.st)=z at e ⊢;unfold qa9 at e;by_cases i:0≤z∧z≤8
 ·rw[if_pos i] at e;injection e with e;exact⟨e.symm,i⟩
 ·rw[if_neg i] at e;cases e
theorem qqf{P:Pt}(hK:K.Ok)(h:Inv K n P){i:Nat}{x:Live}{id:Int}(hb:qb0 false id P.c.xs=some (i,x)){paid:Bool}{m:MsgV}(hm:∀g,g.h=x.h→g.paid=paid→g.um=m.on K.ch→zh2 K.ch g) :
  ∃P',Goes K n P ((P.c.removed i x paid).say m) (P.out++[m.on P.c.s.ch]) P.inn P':=by
 obtain⟨s,c,d,eo,ei,G,la,nu,lb,nv⟩:=P
 obtain⟨ea,eb,ab,ba,it,ok,pw,few⟩:=h
 simp only at ea eb ab ba it ok pw few hb
 obtain⟨hi,T,-,M⟩:=qes hb
 obtain⟨j,g,l,ex,a6⟩:=qgf ea.perm (List.mem_of_getElem? hi)
 have q:g.own = !s:=by
  rcases za g.own s with e | e
  ·rw[ex] at T;have:(g.own==s)=false:=T;rw[e] at this;simp at this
  ·exact e
 have o:¬g.own=s:=qb3 q
 have C:(g.own==s)=false:=by rw[q];simp
 rw[if_neg o,C] at ex
 have v:g.st=4:=by rw[ex] at M;exact M
 have J:=List.mem_of_getElem? l
 have hr:=q4b _ (it g J) v
 have D:g.so=4:=hr.1
 have L:g.up=0:=hr.2
 have Z:c.s.ch=K.ch:=by rw[ea.set];exact hK.ch s
 have W:∀k,oGe s k (qef g paid (m.on c.s.ch))=oGe s k g:=fun k=>by unfold oGe qef;rfl
 have q1:∀k,oGe (!s) k (qef g paid (m.on c.s.ch))=oGe (!s) k g:=fun k=>by unfold oGe qef;rfl
 have q2:∀k,pGe s k (qef g paid (m.on c.s.ch))=pGe s k g:=fun k=>by unfold pGe qef;rw[q];simp
 have q3:∀k,k≤4→pGe (!s) k (qef g paid (m.on c.s.ch))=pGe (!s) k g:=fun k hk=>by
  unfold pGe qef;rw[q,v];simp;omega
 have u1:Gi.unsg s g=false:=by unfold Gi.unsg;rw[q,v];simp
 have u2:Gi.unsg s (qef g paid (m.on c.s.ch))=true:=by unfold Gi.unsg qef;rw[q];simp
 have u3:Gi.unsg (!s) g=false:=by unfold Gi.unsg;rw[q,D];simp
 have U:Gi.pend s g=false:=by unfold Gi.pend;rw[L];simp
 have p2:Gi.pend s (qef g paid (m.on c.s.ch))=true:=by unfold Gi.pend qef;rw[q];simp
 have V:Gi.pend (!s) g=false:=by unfold Gi.pend;rw[L];simp
 have p4:Gi.pend (!s) (qef g paid (m.on c.s.ch))=false:=by unfold Gi.pend qef;rw[q];simp
 have v1:Gi.covd s g=false:=by unfold Gi.covd;rw[q,v];simp
 have v2:Gi.covd s (qef g paid (m.on c.s.ch))=false:=by unfold Gi.covd qef;rw[q];simp
 have v3:Gi.covd (!s) g=false:=by unfold Gi.covd;rw[q,D];simp
 have v4:Gi.covd (!s) (qef g paid (m.on c.s.ch))=false:=by unfold Gi.covd qef;rw[q,D];simp
 have a1:∀t,qao t g=false:=fun t=>by unfold qao;rw[L];simp
 have a2:∀t,qao t (qef g paid (m.on c.s.ch))=false:=fun t=>by unfold qao qef;simp
 have w1:∀t,Gi.moved t g=false:=fun t=>by unfold Gi.moved;rw[D,v];simp
 have w:(G.set j (qef g paid (m.on c.s.ch)))[j]? = some (qef g paid (m.on c.s.ch)):=by rw[qf2 l,if_pos rfl]
 have R:∀t,(∃y∈G,Gi.moved t y=true)→∃y∈G.set j (qef g paid (m.on c.s.ch)),Gi.moved t y=true:=fun t=>qr1 l (fun e=>by rw[w1] at e;cases e)
 have I:=q1e c i x paid m hi M
 have E:ql (eo++[.upd j])=ql eo:=qjw eo _
 have hu:ups (eo++[.upd j])=ups eo++[j]:=qhg eo _
 have H:∀t,amt (qao t) (G.set j (qef g paid (m.on c.s.ch)))=amt (qao t) G:=fun t=>by rw[qj1 _ l,a1,a2];simp
 refine⟨⟨s,(c.removed i x paid).say m,d,eo++[.upd j],ei,G.set j (qef g paid (m.on c.s.ch)),la,nu++[j],lb,nv⟩,⟨?_,?_,?_,?_,?_,?_,?_,?_⟩,rfl,rfl,rfl,?_,?_⟩
 ·obtain⟨c1,c2⟩:=qoy (qo s) l (qef g paid (m.on c.s.ch));have em:(qo s).mine g=false:=C;have X:(qo s).mine (qef g paid (m.on c.s.ch))=false:=C;have es:(qo s).st g=4:=by show (if g.own=s then g.so else g.st)=4;rw[if_neg o,v]
  have Y:(qo s).st (qef g paid (m.on c.s.ch))=5:=by show (if g.own=s then g.so else 5)=5;rw[if_neg o]
  rw[em,es,X,Y] at c1 c2;have a4:(qo s).show g=some x:=by
   rw[ex];show qa9 (g.own==s) g.h (if g.own=s then g.so else g.st) g.paid=_;rw[if_neg o,C,v];rfl
  have a5:(qo s).show (qef g paid (m.on c.s.ch))=some {x with state:=5,paid:=paid} := by
   rw[ex];show qa9 (g.own==s) g.h (if g.own=s then g.so else 5) paid=_;rw[if_neg o,C];unfold qa9;simp
  refine⟨ea.set,q15 _ ea.perm l a4 a5 hi,?_,?_,ea.pos,?_,?_,?_,ea.nuS.setY l u1 u2,?_,?_,?_,ea.shelf,ea.nums⟩
  ·rw[c1];show c.loc=(K.S s).ours+((qo s).conL G-0+0);rw[ea.loc];omega
  ·rw[c2];show c.rem=(K.S (!s)).ours+((qo s).conR G - -g.h.amount + -g.h.amount);rw[ea.rem];omega
  ·rw[qau l (W 0)];exact ea.nOwn
  ·rw[qau l (q3 0 (by decide))];exact ea.nTh
  ·rw[qau l (W 1)];exact qfj l ea.low fun e=>absurd e o
  ·rw[qau l (W 1)];exact(ea.nuI.congr (qfy ea.nuS l u1)).app (Ids.other w o)
  ·show c.news++[m.on c.s.ch]=_;unfold msU;rw[List.map_append,ea.news];congr 1
   ·exact(qb8 rfl (qfy ea.nuS l u1)).symm
   ·show _=[enM s _ _ (.upd j)];rw[qka w];unfold qq1;rw[if_neg (show ¬(qef g paid (m.on c.s.ch)).own=s from o)];rfl
  ·show cnt (qbq s) (G.set j (qef g paid (m.on c.s.ch)))≤8;rw[qau l (show qbq s (qef g paid (m.on c.s.ch))=qbq s g from rfl)];exact ea.many
 ·refine eb.setS l rfl rfl ?_ (.inr ?_) (.inr u3)
  ·show (if g.own = !s then g.so else 5)=if g.own = !s then g.so else g.st;rw[if_pos q,if_pos q]
  ·show (if g.own = !s then g.so else g.st)≤4;rw[if_pos q,D];decide
 ·have O:=qfy (g':=qef g paid (m.on c.s.ch)) ab.upd l U;refine⟨by rw[E];exact ab.w9,by rw[E];exact ab.xor,by rw[E];exact ab.sig,by rw[E];exact ab.aw,by rw[E];exact ab.rv3,by rw[E];exact ab.rv4,?_,?_,?_,?_,ab.last,?_,?_,?_⟩
  ·rw[hu];exact ab.upd.setY l U p2
  ·refine qbh.snoc (.inl rfl) (fun _ y F=> ?_) eo (qhj l ab.along fun hj=>absurd rfl (ab.upd.off l U j hj));rw[w] at F;injection F with F;subst F;exact⟨rfl,rfl⟩
  ·rw[hu];exact(ab.ids.congr O).app (Ids.other w o)
  ·intro e;rw[E] at e;obtain⟨i1,i2,i3⟩:=ab.laS e;refine⟨i1.setS l (v2.trans v1.symm),?_,?_⟩
   ·rw[qau l (q2 1),qau l (W 1)];exact i2.congr (qfy i1 l v1)
   ·show c.last=_;rw[I,i3];congr 1;exact(qb8 rfl (qfy i1 l v1)).symm
  ·exact qbl.snoc (by intro e;cases e) (fun k y e F z=>by
    injection e with e;subst e;rw[w] at F;injection F with F;subst F;exact absurd z o) (ab.shut.congr O)
  ·rw[E,H];exact ab.m1
  ·rw[E];exact fun e=>R s (ab.ex e)
 ·refine ba.keep ⟨rfl,rfl,rfl,rfl,rfl⟩ rfl rfl (fun _=>rfl) ⟨rfl,rfl,rfl⟩ (by rw[E]) ?_ (ba.upd.setS l (p4.trans V.symm)) ?_ (qfy ba.upd l V) (fun _ i=>⟨i.setS l (v4.trans v3.symm),qfy i l v3⟩) (qau l (q3 1 (by decide))) (qau l (q1 1)) (R (!s))
  ·intro e;rw[H];exact ba.m1 e
  ·exact qhj l ba.along fun hj=>absurd rfl (ba.upd.off l V j hj)
 ·show ∀y∈G.set j (qef g paid (m.on c.s.ch)),y.it s (ql (eo++[.upd j])) (ql ei)∈qa3;rw[E];refine qfj l it ?_;rw[qdv (g:=qef g paid (m.on c.s.ch)) (s:=s) q];have N:=it g J;rw[qdv q] at N;exact(qyb _ N v).1
 ·refine qfj l ok ?_;have z:=ok g J;exact⟨z.id,z.amount,z.hash,z.expiry,fun _=>hm _ (by rw[ex];rfl) rfl (by rw[←Z];rfl)⟩
 ·show ((G.set j (qef g paid (m.on c.s.ch))).map Gi.pk).Pairwise Apt;rw[q36 (g':=qef g paid (m.on c.s.ch)) l rfl];exact pw
 ·show (G.set j _).length≤n;rw[List.length_set];exact few
 ·show msE s _ _ (eo++[.upd j])=msE s c G eo++[m.on c.s.ch];unfold msE;rw[List.map_append];congr 1
  ·exact qdi ab.w9 rfl (qfy ab.upd l U) (fun _=>I) (fun _=>qjp rfl rfl)
  ·show [enM s _ _ (.upd j)]=_;rw[qka w];unfold qq1;rw[if_neg (show ¬(qef g paid (m.on c.s.ch)).own=s from o)];rfl
 ·exact qdi ba.w9 rfl (qfy ba.upd l V) (fun _=>rfl) (fun _=>rfl)
end
theorem zik:∀i:Fin 11,∀m:Bool,(zt ((i.val:Int)-1) m 1=qx ((i.val:Int)-1) m 1∧zt ((i.val:Int)-1) m 2=qx ((i.val:Int)-1) m 2∧zt ((i.val:Int)-1) m 3=qx ((i.val:Int)-1) m 3∧zt ((i.val:Int)-1) m 4=qx ((i.val:Int)-1) m 4):=by decide +kernel
theorem qnc{p:Int→Prop}(h:∀i:Fin 11,p ((i.val:Int)-1)){x:Int}(g : -1≤x∧x≤9):p x:=by
 have:=h ⟨(x+1).toNat,by omega⟩;rwa [show (((x+1).toNat:Nat):Int)-1=x by omega] at this
theorem qij{x:Int}(g : -1≤x∧x≤9)(m:Bool):zt x m 1=qx x m 1∧zt x m 2=qx x m 2∧zt x m 3=qx x m 3∧zt x m 4=qx x m 4:=qnc (p:=fun x=>zt x m 1=qx x m 1∧zt x m 2=qx x m 2∧zt x m 3=qx x m 3∧zt x m 4=qx x m 4) (fun i=>zik i m) g
theorem qgb:∀ {x:Int},-1≤x∧x≤9→zt x true 1≠0∧zt x false 1≠5∧decide (1≤zt x true 1)=decide (0≤x)∧decide (0≤zt x true 1)=decide (0≤x)∧decide (0≤zt x false 1)=decide (0≤x)∧decide (zt x true 1≤8)=decide (x≤8)∧(zt x true 1≠x→zt x true 1=1∨zt x true 1=8)∧(zt x false 1≠x→zt x false 1=3∨zt x false 1=6)∧(x≠1→(zt x true 1==1)=(x==0))∧(x≠6→(zt x false 1==6)=(x==5)) :=
 qnc (p:=fun x=>zt x true 1≠0∧zt x false 1≠5∧decide (1≤zt x true 1)=decide (0≤x)∧decide (0≤zt x true 1)=decide (0≤x)∧decide (0≤zt x false 1)=decide (0≤x)∧decide (zt x true 1≤8)=decide (x≤8)∧(zt x true 1≠x→zt x true 1=1∨zt x true 1=8)∧(zt x false 1≠x→zt x false 1=3∨zt x false 1=6)∧(x≠1→(zt x true 1==1)=(x==0))∧(x≠6→(zt x false 1==6)=(x==5))) (by decide +kernel)
section
variable {K:Kon}{n:Nat}{s t:Bool}{c d:Ch}{eo ei:List En}{G:List Gi}{la nu lb nv:List Nat}{f:Gi→Gi}
theorem qmb{e:List En}(h:qbh G e)(m:∀j∈ups e,∀g,G[j]? = some g→(f g).cov=g.cov∧(f g).pre=g.pre):qbh (G.map f) e:=by
 refine h.congr fun k o y i=> ?_
 rw[List.getElem?_map] at i;cases l:G[k]? with
 | none=>rw[l] at i;cases i
 | some g =>
  rw[l] at i;injection i with i;subst i;exact⟨g,rfl,m k o g l⟩
theorem qxg{p:Gi→Bool}(m:∀g∈G,p g=true→p (f g)=true)(h:∃y∈G,p y=true):∃y∈G.map f,p y=true:=by
 obtain⟨y,l,i⟩:=h;exact⟨f y,List.mem_map_of_mem l,m y l i⟩
theorem qbm{p:Gi→Bool}(i:∀g∈G,p (f g)=p g):cnt p (G.map f)=cnt p G:=by rw[qgj];exact qe0 i
theorem qy5{p:Gi→Bool}(l:∀g∈G,(f g).h=g.h)(m:∀g∈G,p (f g)=p g):amt p (G.map f)=amt p G:=by
 rw[qn0];exact qei fun g i=>by rw[m g i,l g i]
theorem EndI.mapS(h:EndI K t c G nu)(m:∀g,(f g).own=g.own)(w:∀g,(f g).h=g.h)(E:∀g,(f g).um=g.um)(x:∀g∈G,(qo t).st (f g)=(qo t).st g)(D:∀g,(f g).paid=g.paid):EndI K t c (G.map f) nu:=by
 have q:∀g∈G,g.own=t→(f g).so=g.so:=fun g i e=>by
  have:(if (f g).own=t then (f g).so else (f g).st)=if g.own=t then g.so else g.st:=x g i;rwa [m,if_pos e,if_pos e] at this
 have C:∀g∈G,¬g.own=t→(f g).st=g.st:=fun g i e=>by
  have:(if (f g).own=t then (f g).so else (f g).st)=if g.own=t then g.so else g.st:=x g i;rwa [m,if_neg e,if_neg e] at this
 obtain⟨m1,H,I⟩:=ql4 f (qo t) (qo t) (G:=G) fun g i=>⟨by show ((f g).own==t)=(g.own==t);rw[m],x g i,w g,D g⟩
 have o:∀k,∀g∈G,oGe t k (f g)=oGe t k g:=fun k g i=>by
  unfold oGe;rw[m];rcases za g.own t with e | e
  ·rw[q g i e]
  ·rw[e];simp
 have l:∀k∈nu,((G.map f)[k]?).map Gi.key=(G[k]?).map Gi.key:=fun k _=>qoa (fun g=>by unfold Gi.key;rw[m,w,E]) G k
 refine⟨h.set,by rw[m1];exact h.perm,by rw[H];exact h.loc,by rw[I];exact h.rem,h.pos,by rw[qbm (o 0)];exact h.nOwn,?_,?_,h.nuS.map f ?_,?_,?_,?_,h.shelf,h.nums⟩
 ·rw[qbm fun g i=> ?_]
  ·exact h.nTh
  ·unfold pGe;rw[m];rcases za g.own t with e | e
   ·rw[e];simp
   ·rw[C g i (qb3 e)]
 ·rw[qbm (o 1)];intro y F v z;obtain⟨g,i,rfl⟩:=List.mem_map.1 F;rw[m] at v;rw[q g i v] at z;rw[w];exact h.low g i v z
 ·intro g i;unfold Gi.unsg;rw[m];rcases za g.own t with e | e
  ·rw[q g i e,e];simp
  ·rw[C g i (qb3 e),e];simp
 ·rw[qbm (o 1)];exact h.nuI.congr l
 ·rw[h.news];exact(qb8 rfl l).symm
 ·rw[qbm fun g i=> ?_]
  ·exact h.many
  ·unfold qbq;rw[m];rcases za g.own t with e | e
   ·rw[q g i e]
   ·rw[e];simp
end
def qdy(s:Bool)(g:Gi):Gi:= {g with so:=if g.own=s then zt g.so true 1 else g.so,st:=if g.own=s then g.st else zt g.st false 1,cov:=if Gi.pend s g=true then true else g.cov}
theorem q1a:∀x∈qa3,qay x.2.2.2.2.1=false→qbw x.2.2.2.2.2=false→x.1≠1∧decide (1≤x.2.1)=decide (1≤x.1):=by decide +kernel
theorem qya:∀x∈qa3,qay x.2.2.2.2.2=false→qbw x.2.2.2.2.1=false→x.2.1≠6:=by decide +kernel
section
variable {K:Kon}{n:Nat}{s t:Bool}{c d:Ch}{eo ei:List En}{G:List Gi}{la nu lb nv:List Nat}
theorem qcv{g:Gi}(h:g.own=s):(qdy s g).so=zt g.so true 1∧(qdy s g).st=g.st:=by unfold qdy;simp only[h,if_true];exact⟨trivial,trivial⟩
theorem qdl{g:Gi}(h:g.own = !s):(qdy s g).so=g.so∧(qdy s g).st=zt g.st false 1:=by unfold qdy;simp only[if_neg (qb3 h)];exact⟨trivial,trivial⟩
theorem qjo{g:Gi}(h:g.own=s):Gi.pend s g=(g.up==1):=by unfold Gi.pend;rw[h];simp
theorem qoq{g:Gi}(h:g.own = !s):Gi.pend s g=(g.up==2):=by unfold Gi.pend;rw[h];simp
theorem qtz{x:En}{e:List En}(i:ql (x::e)≠9)(g:qay (ql (x::e))=false):ql e≠9∧qay (ql e)=false:=by
 cases x with
 | upd j=>exact⟨i,g⟩
 | shut=>exact⟨i,g⟩
 | sgn=>rcases qhi i with ⟨-,e⟩ | ⟨-,e⟩<;>rw[e] at g<;>cases g
 | rev =>
  rcases qhh i with ⟨l,e⟩ | ⟨-,e⟩
  ·rw[l];exact⟨by decide,rfl⟩
  ·rw[e] at g;cases g
theorem zhy{w:Nat}(h:w≤4)(g:qay w=false):w=0∨w=2:=by
 have:w=0∨w=1∨w=2∨w=3∨w=4:=by omega
 rcases this with rfl | rfl | rfl | rfl | rfl
 ·exact .inl rfl
 ·cases g
 ·exact .inr rfl
 ·cases g
 ·cases g
theorem qbh.sgn{f:Gi→Gi} : ∀ {e:List En},ql e≠9→qay (ql e)=false→(∀j∈ups e,∀g,G[j]? = some g→(f g).cov=true∧(f g).pre=g.pre)→qbh G e→qbh (G.map f) (e++[.sgn])
 | [],_,_,_,_=>trivial
 | .upd i::es,m,l,q,h=>by
  refine⟨fun y o=> ?_,qbh.sgn m l (fun j x=>q j (List.mem_cons_of_mem _ x)) h.2⟩;show y.cov=qay (ql (es++[.sgn]))∧y.pre=qbw (ql (es++[.sgn]));rw[List.getElem?_map] at o;cases v:G[i]? with
  | none=>rw[v] at o;cases o
  | some g =>
   rw[v] at o;injection o with o;subst o;obtain⟨f1,f2⟩:=q i (List.mem_cons_self ..) g v;have w:ql es=0∨ql es=2:=zhy (qg5 es m) l;rw[f1,f2,(h.1 g v).2,qwg es w];rcases w with e | e<;>rw[e]<;>exact⟨rfl,rfl⟩
 | .sgn::es,m,l,_,_=>by
  rcases qhi m with ⟨-,e⟩ | ⟨-,e⟩<;>rw[e] at l<;>cases l
 | .rev::es,m,l,q,h=>qbh.sgn (e:=es) (qtz m l).1 (qtz m l).2 q h
 | .shut::es,m,l,q,h=>qbh.sgn (e:=es) m l q h
theorem zds(g:Ch)(M:MsgV):((g.say M).turned).sgnOf=⟨6,g.s.ch,0,0,zx false g.s.key g.s.ch g.k.signed g.loc g.rem g.xs,0,g.k.signed⟩:=by
 unfold Ch.sgnOf;rfl
theorem q9m{P:Pt}(hK:K.Ok)(h:Inv K n P)(I:qa0 P.c=0) :
  ∃P',Goes K (n+1) P P.c.sign.1 (P.out++[P.c.sign.2.1]) P.inn P':=by
 obtain⟨s,c,d,eo,ei,G,la,nu,lb,nv⟩:=P
 obtain⟨ea,eb,ab,ba,it,ok,pw,few⟩:=h
 simp only at ea eb ab ba it ok pw few I
 have e1:c.sign=((c.signing.say (qbb c)).turned,(qbb c).on c.s.ch,0):=qv2 I
 unfold qa0 at I
 split at I
 ·cases I
 rename_i h1
 split at I
 ·cases I
 rename_i h2
 split at I
 ·cases I
 rename_i h3
 have a9:c.k.awaits=false:=by simpa using h1
 have a5:zv 1 c.xs=true:=by simpa using h2
 have hb:=ab.aw
 rw[a9] at hb
 have H:qay (ql eo)=false:=by cases e:qay (ql eo)<;>rw[e] at hb<;>simp at hb ⊢
 have Z:qbw (ql ei)=false:=by rw[H] at hb;simpa using hb.symm
 have hw:ql eo=0∨ql eo=2:=zhy (qg5 eo ab.w9) H
 have w:ql (eo++[.sgn])=qyu (ql eo):=qwg eo hw
 have nn:=qla ok
 have l:=qge it
 have b6:=hK.cap
 have b7:=hK.sum s
 have cl:=qi8 (qo s) 1 G nn
 have b8:=qj9 (qo s) ((qo s).on 1) G (L:=(K.S s).ours) (R:=(K.S (!s)).ours) (fun g m=>qnn (qe7 it s g m)) nn cl.1 cl.2 (by rw[←ea.loc];exact ea.pos.1) (by rw[←ea.rem];exact ea.pos.2)
 obtain⟨s1,s2,s3,v,T,s6,s7,s8⟩:=qyq (qo s) G nn ea.perm ea.loc ea.rem ea.pos.1 ea.pos.2 (by omega) (by omega)
 obtain⟨m1,m2,m3⟩:=ql4 (qdy s) (qo s) ((qo s).on 1) (G:=G) fun g _=>⟨rfl,by
  show (if g.own=s then (qdy s g).so else (qdy s g).st)=zt (if g.own=s then g.so else g.st) (g.own==s) 1;rcases za g.own s with e | e
  ·rw[if_pos e,if_pos e,(qcv e).1,e];simp
  ·rw[if_neg (qb3 e),if_neg (qb3 e),(qdl e).2,e];simp,rfl,rfl⟩
 have b4:∀g∈G,oGe s 1 (qdy s g)=oGe s 0 g:=fun g m=>by
  unfold oGe;rw[show (qdy s g).own=g.own from rfl];rcases za g.own s with e | e
  ·rw[(qcv e).1,(qgb (l g m).1).2.2.1]
  ·rw[e];simp
 have b3:∀g∈G,oGe s 0 (qdy s g)=oGe s 0 g:=fun g m=>by
  unfold oGe;rw[show (qdy s g).own=g.own from rfl];rcases za g.own s with e | e
  ·rw[(qcv e).1,(qgb (l g m).1).2.2.2.1]
  ·rw[e];simp
 have hq:∀g∈G,g.own=s→g.so≠1∧decide (1≤g.st)=decide (1≤g.so):=fun g m e=>by
  have:=q1a _ (it g m);rw[qdp e] at this;exact this H Z
 have b5:∀g∈G,g.own = !s→g.st≠6:=fun g m e=>by
  have:=qya _ (it g m);rw[qdv e] at this;exact this H Z
 have W:cnt (oGe s 1) (G.map (qdy s))=c.k.nextOwn:=by rw[qgj,qe0 b4,ea.nOwn]
 have o:∀k:Nat,((G.map (qdy s))[k]?).map Gi.key=(G[k]?).map Gi.key:=fun k=>qoa (f:=qdy s) (fun g=>rfl) G k
 have b9:∀t,∀g∈G,Gi.pend t (qdy s g)=Gi.pend t g:=fun t g _=>rfl
 have a6:∀t,amt (qao t) (G.map (qdy s))=amt (qao t) G:=fun t=>qy5 (fun _ _=>rfl) fun _ _=>rfl
 have F:((c.signing.say (qbb c)).turned).sgnOf=(qbb c).on c.s.ch:=by
  rw[zj8 c.s.ch (show qbb c=⟨6,0,0,0,zx false c.s.key c.s.ch (c.k.signed+1) c.signing.loc c.signing.rem c.signing.xs,0,c.k.signed+1⟩ by unfold qbb;rfl),zds,T,v]
 have V:((c.signing.say (qbb c)).turned).news=[]:=rfl
 have z:((c.signing.say (qbb c)).turned).last=c.news++[(qbb c).on c.s.ch]:=by
  show c.signing.news++[(qbb c).on c.signing.s.ch]=_;rw[T,s6]
 replace s1:((c.signing.say (qbb c)).turned).xs.Perm _:=s1
 replace s2:((c.signing.say (qbb c)).turned).loc=_:=s2
 replace s3:((c.signing.say (qbb c)).turned).rem=_:=s3
 replace v:((c.signing.say (qbb c)).turned).k=_:=v
 replace T:((c.signing.say (qbb c)).turned).s=_:=T
 replace s8:((c.signing.say (qbb c)).turned).shelf=_:=s8
 rw[e1]
 generalize (c.signing.say (qbb c)).turned=c' at *
 generalize (qbb c).on c.s.ch=M at *
 clear e1 s6 s7
 show ∃P',Goes K (n+1) ⟨s,c,d,eo,ei,G,la,nu,lb,nv⟩ c' (msE s c G eo++[M]) (msE (!s) d G ei) P'
 refine⟨⟨s,c',d,eo++[.sgn],ei,G.map (qdy s),nu,[],lb,nv⟩,⟨?_,?_,?_,?_,?_,?_,?_,?_⟩,rfl,rfl,rfl,?_,?_⟩
 ·refine⟨T.trans ea.set,?_,?_,?_,?_,?_,?_,?_,Idx.none ?_,?_,V,?_,?_,?_⟩
  ·rw[m1];exact s1
  ·rw[m2];exact s2
  ·rw[m3];exact s3
  ·exact⟨by show 0≤c'.loc;omega,by show 0≤c'.rem;omega⟩
  ·show c'.k.nextOwn=_;rw[v,qgj,qe0 b3];exact ea.nOwn
  ·show c'.k.nextTheirs=_;rw[v,qbm fun g m=> ?_]
   ·exact ea.nTh
   ·unfold pGe;rw[show (qdy s g).own=g.own from rfl];rcases za g.own s with e | e
    ·rw[e];simp
    ·rw[(qdl e).2,(qgb (l g m).2.1).2.2.2.2.1]
  ·intro y Y e1 _;rw[W];obtain⟨g,m,rfl⟩:=List.mem_map.1 Y;have J:g.own=s:=e1;show g.h.id<_;rename_i N;rw[(qcv J).1] at N;have h0:0≤g.so:=by
    have:=(qgb (l g m).1).2.2.1;rw[decide_eq_true N] at this;simpa using this.symm
   by_cases a8:1≤g.so
   ·have:=ea.low g m J a8;have:=ea.nuI.rng.1;omega
   ·obtain⟨j,hj⟩:=List.getElem?_of_mem m;have a7:g.so=0:=by omega
    exact(ea.nuI.rng.2 j ((ea.nuS.iff j).2 ⟨g,hj,by unfold Gi.unsg;rw[J,a7];simp⟩) g hj J).2
  ·intro y Y;obtain⟨g,m,rfl⟩:=List.mem_map.1 Y;unfold Gi.unsg;rw[show (qdy s g).own=g.own from rfl];rcases za g.own s with e | e
   ·have:=(qgb (l g m).1).1;rw[(qcv e).1,e];simp[this]
   ·have:=(qgb (l g m).2.1).2.1;rw[(qdl e).2,e];simp[this]
  ·show Ids _ s _ [] c'.k.nextOwn;rw[v,W];rfl
  ·rw[show cnt (qbq s) (G.map (qdy s))=cnt (qbq s) G from qbm fun g m=> ?_]
   ·exact ea.many
   ·unfold qbq;rw[show (qdy s g).own=g.own from rfl];rcases za g.own s with e | e
    ·rw[(qcv e).1,(qgb (l g m).1).2.2.2.1,(qgb (l g m).1).2.2.2.2.2.1]
    ·rw[e];simp
  ·show qdb _ c'.shelf;rw[s8];exact ea.shelf
  ·rw[v];obtain⟨n1,n2,-⟩:=ea.nums;exact⟨n1,⟨by show 0≤c.k.signed+1;omega,by show c.k.signed+1≤65535;omega⟩,fun _=>by show 1≤c.k.signed+1;omega⟩
 ·refine eb.mapS (fun _=>rfl) (fun _=>rfl) (fun _=>rfl) (fun g m=> ?_) fun _=>rfl
  show (if g.own = !s then (qdy s g).so else (qdy s g).st)=if g.own = !s then g.so else g.st;rcases za g.own s with e | e
  ·rw[if_neg (qh7 e),if_neg (qh7 e),(qcv e).2]
  ·rw[if_pos e,if_pos e,(qdl e).1]
 ·have hu:ups (eo++[.sgn])=ups eo:=by rw[qhg];exact List.append_nil _
  have C:qay (qyu (ql eo))=true∧qbw (qyu (ql eo))=qbw (ql eo)∧qyu (ql eo)≠9∧qyu (ql eo)≠3:=by
   rcases hw with e | e<;>rw[e]<;>decide
  refine⟨by rw[w];exact C.2.2.1,fun _=>Z,?_,?_,?_,?_,?_,?_,?_,?_,?_,?_,?_,?_⟩
  ·show c'.k.signed=_;have O:=ab.sig;rw[H] at O;rw[v,w,C.1];show c.k.signed+1=_;rw[O];simp
  ·show c'.k.awaits=_;rw[v,w,C.1];rfl
  ·rw[w];exact fun e=>absurd e C.2.2.2
  ·intro _;show c'.k.revoked=false;rw[v]
  ·rw[hu];exact ab.upd.map _ fun g _=>rfl
  ·refine ab.along.sgn ab.w9 H fun j hj g m=>⟨?_,rfl⟩
   show (if Gi.pend s g=true then true else g.cov)=true;rw[if_pos (ab.upd.yes hj m)]
  ·rw[hu];show Ids _ s d.k.nextTheirs _ c'.k.nextOwn;rw[v];exact ab.ids.congr fun k _=>o k
  ·intro _;refine⟨ea.nuS.map _ fun g m=> ?_,?_,?_⟩
   ·unfold Gi.covd Gi.unsg;rw[show (qdy s g).own=g.own from rfl];rcases za g.own s with e | e
    ·rw[(qcv e).1,(qgb (l g m).1).2.2.2.2.2.2.2.2.1 (hq g m e).1,e];simp
    ·rw[(qdl e).2,(qgb (l g m).2.1).2.2.2.2.2.2.2.2.2 (b5 g m e),e];simp
   ·rw[W];have D:cnt (pGe s 1) (G.map (qdy s))=cnt (oGe s 1) G:=by
     rw[qgj];refine qe0 fun g m=> ?_
     unfold pGe oGe;rw[show (qdy s g).own=g.own from rfl];rcases za g.own s with e | e
     ·rw[(qcv e).2,(hq g m e).2]
     ·rw[e];simp
    rw[D];exact ea.nuI.congr fun k _=>o k
   ·rw[F,z,ea.news];congr 1;exact(qb8 T fun k _=>o k).symm
  ·show c'.last.length≤n+1;have:=ea.nuS.len;rw[z,ea.news,List.length_append,List.length_singleton];unfold msU;rw[List.length_map];omega
  ·show qbl _ s c'.k.shutSaid d.k.shutHeard _;rw[v];exact qbl.snoc (by intro e;cases e) (fun _ _ e=>by cases e) (ab.shut.congr fun k _=>o k)
  ·rw[w,C.2.1,a6];exact ab.m1
  ·intro _;obtain⟨x,hx,a4⟩:=List.any_eq_true.1 a5;obtain⟨j,g,m,ex,hb⟩:=qgf ea.perm hx;have X:=List.mem_of_getElem? m;refine⟨qdy s g,List.mem_map_of_mem X,?_⟩;have q:qx x.state x.own 1≠x.state:=by unfold chg at a4;simpa using a4
   rw[ex] at q;have q:qx (if g.own=s then g.so else g.st) (g.own==s) 1≠if g.own=s then g.so else g.st:=q;unfold Gi.moved;rw[show (qdy s g).own=g.own from rfl];rcases za g.own s with e | e
   ·rw[if_pos e,e] at q;have q:qx g.so true 1≠g.so:=by simpa using q
    have:=(qgb (l g X).1).2.2.2.2.2.2.1;rw[(qij (l g X).1 true).1] at this;rw[(qcv e).1,(qij (l g X).1 true).1,e];rcases this q with N | N<;>rw[N]<;>simp
   ·rw[if_neg (qb3 e),e] at q;have q:qx g.st false 1≠g.st:=by simpa using q
    have:=(qgb (l g X).2.1).2.2.2.2.2.2.2.1;rw[(qij (l g X).2.1 false).1] at this;rw[(qdl e).2,(qij (l g X).2.1 false).1,e];rcases this q with N | N<;>rw[N]<;>simp
 ·refine(ba.mono (Nat.le_succ n)).keep ⟨rfl,rfl,rfl,rfl,rfl⟩ rfl rfl (fun _=>rfl) ⟨?_,?_,?_⟩ ?_ ?_ (ba.upd.map _ fun g _=>rfl) ?_ (fun k _=>o k) (fun _ i=>⟨i.map _ fun g m=> ?_,fun k _=>o k⟩) (qbm fun g m=> ?_) (qbm fun g m=> ?_) (qxg fun g m=> ?_)
  ·show c'.k.heard=_;rw[v]
  ·show c'.k.nextTheirs=_;rw[v]
  ·show c'.k.shutHeard=_;rw[v]
  ·rw[w];rcases hw with e | e<;>rw[e]<;>rfl
  ·intro e;rw[Z] at e;cases e
  ·refine qmb ba.along fun j hj g m=>⟨?_,rfl⟩
   have D:=ba.upd.yes hj m;show (if Gi.pend s g=true then true else g.cov)=g.cov;rw[if_neg];intro E;unfold Gi.pend at D E;rcases za g.own s with e | e
   ·rw[e] at D E;simp at D E;omega
   ·rw[e] at D E;simp at D E;omega
  ·unfold Gi.covd;rw[show (qdy s g).own=g.own from rfl];rcases za g.own s with e | e
   ·rw[(qcv e).2,e];simp
   ·rw[(qdl e).1,e];simp
  ·unfold pGe;rw[show (qdy s g).own=g.own from rfl];rcases za g.own s with e | e
   ·rw[e];simp
   ·rw[(qdl e).2];have:∀ {x:Int},-1≤x∧x≤9→decide (1≤zt x false 1)=decide (1≤x):=qnc (p:=fun x=>decide (1≤zt x false 1)=decide (1≤x)) (by decide +kernel);rw[this (l g m).2.1]
  ·unfold oGe;rw[show (qdy s g).own=g.own from rfl];rcases za g.own s with e | e
   ·rw[e];simp
   ·rw[(qdl e).1]
  ·unfold Gi.moved;rw[show (qdy s g).own=g.own from rfl];rcases za g.own s with e | e
   ·rw[(qcv e).2,e];simp
   ·rw[(qdl e).1,e];simp
 ·intro y Y;show y.it s (ql (eo++[.sgn])) (ql ei)∈qa3;obtain⟨g,m,rfl⟩:=List.mem_map.1 Y;have hi:=it g m;rw[w];rcases za g.own s with e | e
  ·rw[qdp (g:=qdy s g) (s:=s) e,(qcv e).1,(qcv e).2,(qij (l g m).1 true).1];rw[qdp e] at hi;have D:(qdy s g).cov=if g.up=1 then true else g.cov:=by
    show (if Gi.pend s g=true then true else g.cov)=_;rw[qjo e];simp
   rw[D];exact q1b _ hi H Z
  ·rw[qdv (g:=qdy s g) (s:=s) e,(qdl e).1,(qdl e).2,(qij (l g m).2.1 false).1];rw[qdv e] at hi;have D:(qdy s g).cov=if g.up=2 then true else g.cov:=by
    show (if Gi.pend s g=true then true else g.cov)=_;rw[qoq e];simp
   rw[D];exact q1c _ hi H Z
 ·intro y Y;obtain⟨g,m,rfl⟩:=List.mem_map.1 Y;have ho:=ok g m;refine⟨ho.id,ho.amount,ho.hash,ho.expiry,fun e=> ?_⟩;refine ho.um ?_;rcases za g.own s with U | U
  ·rw[(qcv U).2] at e;exact e
  ·rw[(qdl U).2] at e;have:∀ {x:Int},-1≤x∧x≤9→(zt x false 1=5∨zt x false 1=6→x=5∨x=6):=qnc (p:=fun x=>zt x false 1=5∨zt x false 1=6→x=5∨x=6) (by decide +kernel);exact this (l g m).2.1 e
 ·show ((G.map (qdy s)).map Gi.pk).Pairwise Apt;rw[q35 fun g m=> ?_]
  ·exact pw
  ·unfold Gi.pk;rcases za g.own s with e | e
   ·rw[(qcv e).1,(qgb (l g m).1).2.2.2.1];rfl
   ·rw[(qdl e).1];rfl
 ·show (G.map (qdy s)).length≤n+1;rw[List.length_map];omega
 ·show msE s c' (G.map (qdy s)) (eo++[.sgn])=msE s c G eo++[M];unfold msE;rw[List.map_append];congr 1
  ·refine qdi ab.w9 T (fun k _=>o k) (fun e=>by rw[H] at e;cases e) (fun _=>qjp T ?_);show c'.k.heard=_;rw[v]
  ·show [c'.sgnOf]=_;rw[F]
 ·exact qdi ba.w9 rfl (fun k _=>o k) (fun _=>rfl) (fun _=>rfl)
end
end Go.Proofs.YthnohmjbbeahmaaGreatDoor
