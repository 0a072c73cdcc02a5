/-
  The protocol, plain: bounds; an offer keeps the invariant.
-/
import Derived.Test.YtjpmomdechibmaaGreatDoorMdh
set_option linter.unusedVariables false
set_option linter.unusedSimpArgs false
namespace Go.Proofs.YtjpmomdechibmaaGreatDoor
open Go.RowKit
section
variable {α:Type}
theorem q2m(v:Seen α):∀G:List α,(∀g∈G,-1≤v.st g∧v.st g≤9)→(∀g∈G,0≤(v.h g).amount)→v.conL G+v.conR G≤0
 | [],_,_=>Int.le_refl _
 | g::G,l,i=>by
  have w:=q2m v G (fun y f=>l y (List.mem_cons_of_mem _ f)) fun y f=>i y (List.mem_cons_of_mem _ f)
  have q:=qwo (v.mine g) (v.paid g) (v.st g) (v.h g).amount (l g (List.mem_cons_self ..))
  have t:=i g (List.mem_cons_self ..)
  have m:v.conL (g::G)=Go.Proofs.YtjpmomdechibmaaGreatDoor.conL (v.mine g) (v.st g) (v.paid g) (v.h g).amount+v.conL G:=rfl
  have o:v.conR (g::G)=Go.Proofs.YtjpmomdechibmaaGreatDoor.conL (!v.mine g) (v.st g) (v.paid g) (v.h g).amount+v.conR G:=rfl
  rw[m,o]
  split at q<;>omega
theorem qjc(v f:Seen α)(G:List α){L R:Int}(l:∀g∈G,-1≤f.st g∧f.st g≤9)(i:∀g∈G,0≤(f.h g).amount)(m:v.conL G≤f.conL G)(o:v.conR G≤f.conR G)(q:0≤L+v.conL G)(t:0≤R+v.conR G) :
  (0≤L+f.conL G∧L+f.conL G≤L+R)∧(0≤R+f.conR G∧R+f.conR G≤L+R):=by
 have:=q2m f G l i
 omega
theorem qyw{v:Seen α}{G:List α}(i:∀g∈G,0≤(v.h g).amount)(ev:Int):∀y∈qz ev (G.filterMap v.show),0≤y.h.amount:=by
 intro y m
 obtain⟨x,l,rfl⟩:=List.mem_map.1 m
 obtain⟨g,f,e⟩:=List.mem_filterMap.1 l
 show 0≤x.h.amount
 rw[qos e]
 exact i g f
theorem qh8(v:Seen α)(ev:Int)(G:List α)(f:∀g∈G,0≤(v.h g).amount):v.conL G≤(v.on ev).conL G∧v.conR G≤(v.on ev).conR G:=by
 have i:=q2k v ev G
 have l:=q2l v ev G
 have m:=qe6 true _ (qyw f ev)
 have o:=qe6 false _ (qyw f ev)
 omega
theorem qlx{v:Seen α}{ev:Int}{g:α}(h : -1≤v.st g∧v.st g≤9) : -1≤(v.on ev).st g∧(v.on ev).st g≤9:=by
 show -1≤zm (v.st g) (v.mine g) ev∧zm (v.st g) (v.mine g) ev≤9
 unfold zm
 split
 ·rename_i f
  rcases qeb (mine:=v.mine g) (ev:=ev) f with e | e<;>omega
 ·exact h
end
section
variable {G:List Gi}{g g':Gi}{j:Nat}
theorem qtr(v:Seen Gi)(G:List Gi)(g:Gi):v.conL (G++[g])=v.conL G+conL (v.mine g) (v.st g) (v.paid g) (v.h g).amount∧v.conR (G++[g])=v.conR G+conL (!v.mine g) (v.st g) (v.paid g) (v.h g).amount:=⟨qm8 _ G g,qm8 _ G g⟩
theorem qm3(v:Seen Gi)(f:G[j]? = some g)(g':Gi):v.conL (G.set j g')=v.conL G-conL (v.mine g) (v.st g) (v.paid g) (v.h g).amount+conL (v.mine g') (v.st g') (v.paid g') (v.h g').amount∧v.conR (G.set j g')=v.conR G-conL (!v.mine g) (v.st g) (v.paid g) (v.h g).amount+conL (!v.mine g') (v.st g') (v.paid g') (v.h g').amount:=⟨qpk _ f,qpk _ f⟩
theorem qkw(f:Gi→Gi)(v i:Seen Gi)(h:∀g∈G,v.mine (f g)=i.mine g∧v.st (f g)=i.st g∧v.h (f g)=i.h g∧v.paid (f g)=i.paid g) :
  (G.map f).filterMap v.show=G.filterMap i.show∧v.conL (G.map f)=i.conL G∧v.conR (G.map f)=i.conR G:=by
 refine⟨?_,?_,?_⟩
 ·rw[List.filterMap_map]
  refine qgz fun g t=> ?_
  obtain⟨l,m,o,q⟩:=h g t
  show qaw (v.mine (f g)) (v.h (f g)) (v.st (f g)) (v.paid (f g))=_
  rw[l,m,o,q]
  rfl
 ·unfold Seen.conL
  rw[List.map_map]
  refine qd1 fun g t=> ?_
  obtain⟨l,m,o,q⟩:=h g t
  show conL (v.mine (f g)) (v.st (f g)) (v.paid (f g)) (v.h (f g)).amount=_
  rw[l,m,o,q]
 ·unfold Seen.conR
  rw[List.map_map]
  refine qd1 fun g t=> ?_
  obtain⟨l,m,o,q⟩:=h g t
  show conL (!v.mine (f g)) (v.st (f g)) (v.paid (f g)) (v.h (f g)).amount=_
  rw[l,m,o,q]
end
def qha(s:Bool)(g:Gi):Bool:=g.own == !s&&(decide (0≤g.st)&&decide (g.st≤8))
theorem qq0{s:Bool}{xs:List Live}{G:List Gi}(m:xs.Perm (G.filterMap (qs s).show)):(qc8 true xs:Int)=cnt (qbi s) G∧(qc8 false xs:Int)=cnt (qha s) G:=by
 have e:∀b,qc8 b xs=qc8 b (G.filterMap (qs s).show):=fun b=>by unfold qc8;exact(m.filter _).length_eq
 rw[e,e]
 clear e m
 induction G with
 | nil=>exact⟨rfl,rfl⟩
 | cons g G o =>
  have q:cnt (qbi s) (g::G)=(if qbi s g=true then 1 else 0)+cnt (qbi s) G:=rfl
  have t:cnt (qha s) (g::G)=(if qha s g=true then 1 else 0)+cnt (qha s) G:=rfl
  rw[q,t,←o.1,←o.2]
  rcases za g.own s with f | f
  ·have l:qha s g=false:=by unfold qha;rw[f];simp
   by_cases i:0≤g.so∧g.so≤8
   ·have eo:qbi s g=true:=by unfold qbi;rw[f];simp;exact i
    have es:(qs s).show g=some ⟨g.h,true,g.so,g.paid&&decide (5≤g.so)⟩:=by
     show qaw (g.own==s) g.h (if g.own=s then g.so else g.st) g.paid=_
     rw[if_pos f,f];unfold qaw;rw[if_pos i];simp
    rw[List.filterMap_cons_some es,l,eo]
    constructor
    ·simp[qc8];omega
    ·simp[qc8]
   ·have eo:qbi s g=false:=by unfold qbi;rw[f];simp;omega
    have es:(qs s).show g=none:=by
     show qaw (g.own==s) g.h (if g.own=s then g.so else g.st) g.paid=_
     rw[if_pos f];unfold qaw;rw[if_neg i]
    rw[List.filterMap_cons_none es,l,eo]
    simp
  ·have l:qbi s g=false:=by unfold qbi;rw[f];simp
   by_cases i:0≤g.st∧g.st≤8
   ·have eo:qha s g=true:=by unfold qha;rw[f];simp;exact i
    have es:(qs s).show g=some ⟨g.h,false,g.st,g.paid&&decide (5≤g.st)⟩:=by
     show qaw (g.own==s) g.h (if g.own=s then g.so else g.st) g.paid=_
     rw[if_neg (qbv f),f];unfold qaw;rw[if_pos i];simp
    rw[List.filterMap_cons_some es,l,eo]
    constructor
    ·simp[qc8]
    ·simp[qc8];omega
   ·have eo:qha s g=false:=by unfold qha;rw[f];simp;omega
    have es:(qs s).show g=none:=by
     show qaw (g.own==s) g.h (if g.own=s then g.so else g.st) g.paid=_
     rw[if_neg (qbv f)];unfold qaw;rw[if_neg i]
    rw[List.filterMap_cons_none es,l,eo]
    simp
section
variable {K:Kon}{n:Nat}{s:Bool}{c d:Ch}{eo ei:List En}{G:List Gi}{la nu lb nv:List Nat}
noncomputable def Pt.out(P:Pt):List MsgV:=msE P.s P.c P.G P.eo
noncomputable def Pt.inn(P:Pt):List MsgV:=msE (!P.s) P.d P.G P.ei
structure Goes(K:Kon)(n:Nat)(P:Pt)(c':Ch)(wo wi:List MsgV)(P':Pt):Prop where
 inv:Inv K n P'
 s:P'.s=P.s
 c:P'.c=c'
 d:P'.d=P.d
 out:P'.out=wo
 inn:P'.inn=wi
theorem qft(h:∀g∈G,g.it s (qk eo) (qk ei)∈qav):∀g∈G,(-1≤g.so∧g.so≤9)∧(-1≤g.st∧g.st≤9)∧(g.so = -1→g.st = -1∧g.up=0)∧(g.st = -1→g.so = -1∨g.so=0∨g.so=1)∧g.up≤2 :=
 fun g f=>qto _ (h g f)
theorem qep(h:∀g∈G,g.it s (qk eo) (qk ei)∈qav)(t:Bool):∀g∈G,-1≤(qs t).st g∧(qs t).st g≤9:=by
 intro g f
 have:=qft h g f
 show -1≤(if g.own=t then g.so else g.st)∧(if g.own=t then g.so else g.st)≤9
 split
 ·exact this.1
 ·exact this.2.1
theorem qka{ch:Int}(h:∀g∈G,GiOk ch g):∀g∈G,0≤g.h.amount:=fun g f=>by have:=(h g f).amount;omega
theorem zb2(p:Gi→Bool)(h:∀g∈G,0≤g.h.amount):0≤amt p G:=by
 unfold amt
 have:=qg9 (f:=fun _=>(0:Int)) (f':=fun g:Gi=>if p g=true then g.h.amount else 0) (G:=G) (fun g i=>by
  show 0≤if p g=true then g.h.amount else 0
  split
  ·exact h g i
  ·exact Int.le_refl _)
 have e:(G.map fun _:Gi=>(0:Int)).sum=0:=by
  clear h this
  induction G with
  | nil=>rfl
  | cons g G l=>rw[List.map_cons,List.sum_cons,l];rfl
 omega
theorem EndI.snocN{t:Bool}(h:EndI K t c G nu){g:Gi}(f:g.own = !t)(m:g.st = -1):EndI K t c (G++[g]) nu:=by
 have z:(qs t).show g=none:=by
  show qaw (g.own==t) g.h (if g.own=t then g.so else g.st) g.paid=_
  rw[if_neg (qbv f),m];rfl
 have o:∀k,oGe t k g=false:=fun k=>by unfold oGe;rw[f];simp
 have C:pGe (!t) 0 g=false:=by unfold pGe;rw[f,m];simp
 have D:Gi.unsg t g=false:=by unfold Gi.unsg;rw[f,m];simp
 have E:qbi t g=false:=by unfold qbi;rw[f];simp
 have F:(qs t).mine g=false:=by show (g.own==t)=false;rw[f];simp
 have es:(qs t).st g = -1:=by show (if g.own=t then g.so else g.st) = -1;rw[if_neg (qbv f),m]
 obtain⟨w,x⟩:=qtr (qs t) G g
 rw[es] at w x
 refine⟨h.set,?_,?_,?_,h.pos,?_,?_,?_,h.nuS.snocN D,?_,?_,?_,h.shelf,h.nums⟩
 ·rw[List.filterMap_append,List.filterMap_cons_none z];simpa using h.perm
 ·rw[h.loc,w];simp[conL]
 ·rw[h.rem,x];simp[conL]
 ·rw[h.nOwn,qcw,o];simp
 ·rw[h.nTh,qcw,C];simp
 ·intro y l i v
  rw[qcw,o]
  rcases List.mem_append.1 l with l | l
  ·have:=h.low y l i v
   simpa using this
  ·rw[List.mem_singleton.1 l,f] at i
   cases t<;>cases i
 ·rw[qcw,o]
  have:=h.nuI.congr (G':=G++[g]) fun j q=>qd8 (h.nuS.lt q)
  simpa using this
 ·rw[h.news]
  exact(qbz rfl fun j q=>qd8 (h.nuS.lt q)).symm
 ·rw[qcw,E];simpa using h.many
theorem EndI.tag(h:EndI K s c G nu)(f:K.Ok)(i:∀g∈G,-1≤(qs s).st g∧(qs s).st g≤9)(l:∀g∈G,0≤g.h.amount):(0≤c.loc∧c.loc≤K.cap)∧(0≤c.rem∧c.rem≤K.cap):=by
 have:=qjc (qs s) (qs s) G (L:=(K.S s).ours) (R:=(K.S (!s)).ours) i l (Int.le_refl _) (Int.le_refl _) (by rw[←h.loc];exact h.pos.1) (by rw[←h.rem];exact h.pos.2)
 rw[←h.loc,←h.rem,f.sum s] at this
 exact this
def qdk(s:Bool)(c:Ch)(N:Int)(f:Vector Int 32)(ex:Int):Gi:=⟨s,⟨c.k.nextOwn,N,f,ex⟩,false,0,-1,1,false,false,MsgV.zero⟩
theorem Dir.keep{c' f:Ch}{G':List Gi}{i:List En}(h:Dir n s c d eo ei G la)(I:c'.k.signed=c.k.signed∧c'.k.awaits=c.k.awaits∧c'.k.nextOwn=c.k.nextOwn∧c'.k.shutSaid=c.k.shutSaid∧c'.k.revoked=c.k.revoked)(M:c'.s=c.s)(y:c'.last=c.last)
  (o:qas (qk eo)=true→c'.sgnOf=c.sgnOf) (H:f.k.heard=d.k.heard∧f.k.nextTheirs=d.k.nextTheirs∧f.k.shutHeard=d.k.shutHeard) (x:qbq (qk i)=qbq (qk ei)) (w:qbq (qk eo)=true→amt (qai s) G'≤f.rem)
  (q:Idx G' (Gi.pend s) (ups eo)) (t:qbb G' eo) (m:∀j∈ups eo,(G'[j]?).map Gi.key=(G[j]?).map Gi.key) (l:qas (qk eo)=true→Idx G (Gi.covd s) la→Idx G' (Gi.covd s) la∧∀j∈la,(G'[j]?).map Gi.key=(G[j]?).map Gi.key)
  (L:cnt (pGe s 1) G'=cnt (pGe s 1) G) (J:cnt (oGe s 1) G'=cnt (oGe s 1) G) (v:(∃g∈G,Gi.moved s g=true)→∃g∈G',Gi.moved s g=true):Dir n s c' f eo i G' la:=by
 obtain⟨T,U,V,W,C⟩:=I
 obtain⟨D,E,F⟩:=H
 refine⟨h.w9,fun e=>by rw[x];exact h.xor e,by rw[T,D];exact h.sig,by rw[U,x];exact h.aw,fun e=>by rw[C];exact h.rv3 e,fun e=>by rw[C];exact h.rv4 e,q,t,by rw[E,V];exact h.ids.congr m,fun e=> ?_,by rw[y];exact h.last,by rw[W,F];exact h.shut.congr m,w,fun e=>v (h.ex e)⟩
 obtain⟨N,O,P⟩:=h.laS e
 obtain⟨R,z⟩:=l e N
 refine⟨R,by rw[L,J];exact O.congr z,?_⟩
 rw[y,o e,P,qbz M z]
theorem q04(c:Ch)(N:Int)(f:Vector Int 32)(ex:Int)(i:0≤c.loc∧c.loc<18446744073709551616):((c.offered N f ex).say (qec c N f ex)).sgnOf=c.sgnOf:=by
 refine qiu rfl rfl (qfy _ _ _ ?_ ?_)
 ·exact q97 false c.xs (x:=qem c N f ex) rfl rfl i
 ·exact qqr false c.xs (x:=qem c N f ex) rfl
theorem q03{P:Pt}(hK:K.Ok)(h:Inv K n P)(hn:n<1000000000){N ex:Int}{f:Vector Int 32}(hN:0≤N)(hb:qa6 f.toList)(o:qbg P.c N ex=0) :
  ∃P',Goes K (n+1) P (P.c.offer N f ex).1 (P.out++[(P.c.offer N f ex).2.1]) P.inn P':=by
 obtain⟨s,c,d,eo,ei,G,la,nu,lb,nv⟩:=P
 obtain⟨ea,eb,ab,ba,it,ok,pw,few⟩:=h
 simp only at ea eb ab ba it ok pw few o
 have e1:c.offer N f ex=((c.offered N f ex).say (qec c N f ex),(qec c N f ex).on c.s.ch,0):=by unfold Ch.offer;rw[if_pos o]
 have nn:=qka ok
 obtain⟨bl,br⟩:=ea.tag hK (qep it s) nn
 have a7:=hK.cap
 unfold qbg at o
 split at o
 ·cases o
 rename_i T
 split at o
 ·cases o
 rename_i h2
 split at o
 ·cases o
 rename_i h3
 split at o
 ·cases o
 rename_i h4
 split at o
 ·cases o
 rename_i h5
 have a5:c.k.shutSaid=false:=by simpa using T
 have a8:=qpb (oGe s 0) G
 have b3:=qjb (oGe s 0) G
 have a4:=(qq0 ea.perm).1
 have H:IntKind.u64.wrap (c.k.nextOwn+1)=c.k.nextOwn+1:=qeg (by rw[ea.nOwn];omega) (by rw[ea.nOwn];omega)
 have L:∀k,pGe s k (qdk s c N f ex)=decide (k ≤ -1):=fun k=>by unfold pGe qdk;simp
 have w:∀k,oGe s k (qdk s c N f ex)=decide (k≤0):=fun k=>by unfold oGe qdk;simp
 have M:Gi.unsg s (qdk s c N f ex)=true:=by unfold Gi.unsg qdk;simp
 have F:Gi.pend s (qdk s c N f ex)=true:=by unfold Gi.pend qdk;simp
 have D:Gi.covd s (qdk s c N f ex)=false:=by unfold Gi.covd qdk;simp
 have U:qai s (qdk s c N f ex)=false:=by unfold qai qdk;simp
 have q1:∀k,oGe (!s) k (qdk s c N f ex)=false:=fun k=>by unfold oGe qdk;simp
 have q2:∀k,pGe (!s) k (qdk s c N f ex)=false:=fun k=>by unfold pGe qdk;simp
 have q3:Gi.pend (!s) (qdk s c N f ex)=false:=by unfold Gi.pend qdk;simp
 have q4:Gi.covd (!s) (qdk s c N f ex)=false:=by unfold Gi.covd qdk;simp
 have q5:qai (!s) (qdk s c N f ex)=false:=by unfold qai qdk;simp
 have C:=q04 c N f ex ⟨bl.1,by omega⟩
 have v:(G++[qdk s c N f ex])[G.length]? = some (qdk s c N f ex):=by simp
 refine⟨⟨s,(c.offered N f ex).say (qec c N f ex),d,eo++[.upd G.length],ei,G++[qdk s c N f ex],la,nu++[G.length],lb,nv⟩,⟨?_,?_,?_,?_,?_,?_,?_,?_⟩,rfl,by rw[e1],rfl,?_,?_⟩
 ·
  have es:(qs s).show (qdk s c N f ex)=some (qem c N f ex):=by
   show qaw (s==s) _ (if s=s then (0:Int) else -1) false=_
   rw[if_pos rfl];unfold qaw;simp;rfl
  obtain⟨s1,s2⟩:=qtr (qs s) G (qdk s c N f ex)
  have em:(qs s).mine (qdk s c N f ex)=true:=by show (s==s)=true;simp
  have O:(qs s).st (qdk s c N f ex)=0:=by show (if s=s then (0:Int) else -1)=0;rw[if_pos rfl]
  rw[em,O] at s1 s2
  refine⟨ea.set,?_,?_,?_,⟨?_,ea.pos.2⟩,?_,?_,?_,ea.nuS.snocY M,?_,?_,?_,ea.shelf,ea.nums⟩
  ·rw[List.filterMap_append,List.filterMap_cons_some es]
   exact ea.perm.append_right _
  ·rw[s1]
   show c.loc-N=_
   rw[ea.loc]
   show _=(K.S s).ours+((qs s).conL G + -N)
   omega
  ·rw[s2]
   show c.rem=_
   rw[ea.rem]
   show _=(K.S (!s)).ours+((qs s).conR G+0)
   omega
  ·show 0≤c.loc-N;omega
  ·show IntKind.u64.wrap (c.k.nextOwn+1)=_
   rw[H,ea.nOwn,qcw,w]
   simp
  ·show c.k.nextTheirs=_
   rw[ea.nTh,qcw,q2]
   simp
  ·intro y z a6 I
   rw[qcw,w]
   rcases List.mem_append.1 z with z | z
   ·have:=ea.low y z a6 I
    simpa using this
   ·rw[List.mem_singleton.1 z] at I
    exact absurd I (by show ¬(1:Int)≤0;decide)
  ·show Ids _ s _ (nu++[G.length]) (IntKind.u64.wrap (c.k.nextOwn+1))
   rw[H,qcw,w]
   have:=(ea.nuI.congr (G':=G++[qdk s c N f ex]) fun j l=>qd8 (ea.nuS.lt l)).app (Ids.one v rfl rfl)
   simpa using this
  ·show c.news++[(qec c N f ex).on c.s.ch]=_
   unfold msU
   rw[List.map_append,ea.news]
   congr 1
   ·exact(qbz rfl fun j l=>qd8 (ea.nuS.lt l)).symm
   ·show _=[enM s _ _ (.upd G.length)]
    rw[qjd v]
    show _=[qo6 s c.s.ch (qdk s c N f ex)]
    unfold qo6 qdk
    rw[if_pos rfl]
    rfl
  ·show cnt (qbi s) (G++[qdk s c N f ex])≤8
   rw[qcw]
   split<;>omega
 ·
  exact eb.snocN (by show s = !(!s);rw[Bool.not_not]) rfl
 ·
  have x:qk (eo++[.upd G.length])=qk eo:=qiy eo _
  have hu:ups (eo++[.upd G.length])=ups eo++[G.length]:=qgm eo _
  have J:∀j∈ups eo,((G++[qdk s c N f ex])[j]?).map Gi.key=(G[j]?).map Gi.key:=fun j l=>qd8 (ab.upd.lt l)
  refine⟨by rw[x];exact ab.w9,by rw[x];exact ab.xor,by rw[x];exact ab.sig,by rw[x];exact ab.aw,by rw[x];exact ab.rv3,by rw[x];exact ab.rv4,?_,?_,?_,?_,Nat.le_succ_of_le ab.last,?_,?_,?_⟩
  ·rw[hu];exact ab.upd.snocY F
  ·refine qbb.snoc (.inl rfl) (fun _ g m=> ?_) eo (ab.along.congr fun j l g' t=>⟨g',?_,rfl,rfl⟩)
   ·rw[v] at m
    injection m with m
    subst m
    exact⟨rfl,rfl⟩
   ·rw[List.getElem?_append_left (ab.upd.lt l)] at t
    exact t
  ·rw[hu]
   show Ids _ s d.k.nextTheirs _ (IntKind.u64.wrap (c.k.nextOwn+1))
   rw[H]
   exact(ab.ids.congr J).app (Ids.one v rfl rfl)
  ·intro e
   rw[x] at e
   obtain⟨i1,i2,i3⟩:=ab.laS e
   refine⟨i1.snocN D,?_,?_⟩
   ·rw[qcw,qcw,L,w]
    have:=i2.congr (G':=G++[qdk s c N f ex]) fun j l=>qd8 (i1.lt l)
    simpa using this
   ·show c.last=_
    rw[C,i3]
    congr 1
    exact(qbz rfl fun j l=>qd8 (i1.lt l)).symm
  ·refine qbe.snoc (by intro e;cases e) (fun _ _ _ _ _=>a5) (ab.shut.congr J)
  ·rw[x]
   intro e
   rw[qwc,U]
   have:=ab.m1 e
   simpa using this
  ·rw[x]
   intro e
   obtain⟨g,m,Z⟩:=ab.ex e
   exact⟨g,List.mem_append_left _ m,Z⟩
 ·
  refine(ba.mono (Nat.le_succ n)).keep ⟨rfl,rfl,rfl,rfl,rfl⟩ rfl rfl (fun _=>rfl) ⟨rfl,rfl,rfl⟩ (by rw[qiy]) ?_ (ba.upd.snocN q3) ?_ (fun j l=>qd8 (ba.upd.lt l)) (fun _ i=>⟨i.snocN q4,fun j l=>qd8 (i.lt l)⟩) ?_ ?_ ?_
  ·intro e
   rw[qwc,q5]
   show amt (qai (!s)) G+_≤c.rem
   have:=ba.m1 e
   simpa using this
  ·exact ba.along.congr fun j l g' t=>⟨g',by rw[List.getElem?_append_left (ba.upd.lt l)] at t;exact t,rfl,rfl⟩
  ·rw[qcw,q2];simp
  ·rw[qcw,q1];simp
  ·rintro ⟨g,m,Z⟩
   exact⟨g,List.mem_append_left _ m,Z⟩
 ·intro g m
  show g.it s (qk (eo++[.upd G.length])) (qk ei)∈qav
  rw[qiy]
  rcases List.mem_append.1 m with m | m
  ·exact it g m
  ·rw[List.mem_singleton.1 m,qdd (g:=qdk s c N f ex) (s:=s) rfl]
   have hf:=q1d ⟨qk eo,Nat.lt_succ_of_le (qgb _ ab.w9)⟩ ⟨qk ei,Nat.lt_succ_of_le (qgb _ ba.w9)⟩ ab.xor ba.xor
   exact qyh _ hf rfl rfl
 ·intro g m
  rcases List.mem_append.1 m with m | m
  ·exact ok g m
  ·rw[List.mem_singleton.1 m]
   refine⟨⟨by show 0≤c.k.nextOwn;rw[ea.nOwn];omega,by show c.k.nextOwn<_;rw[ea.nOwn];omega⟩,⟨by show 1≤N;omega,by show N≤_;omega⟩,hb,⟨by show 1≤ex;omega,by show ex≤_;omega⟩,?_⟩
   rintro (e | e)<;>exact absurd e (by show ¬(-1:Int)=_;decide)
 ·show ((G++[qdk s c N f ex]).map Gi.pk).Pairwise Apt
  rw[List.map_append,List.pairwise_append]
  refine⟨pw,by simp,?_⟩
  intro a ha b V
  obtain⟨g,m,rfl⟩:=List.mem_map.1 ha
  have W:b=(qdk s c N f ex).pk:=by simpa using V
  subst W
  rintro ⟨T,-,h3,h4⟩
  have E:g.own=s:=h3
  have a9:g.h.id=c.k.nextOwn:=h4
  have b4:0≤g.so:=by simpa [Gi.pk] using T
  by_cases h0:1≤g.so
  ·have:=ea.low g m E h0
   have Y:=qls (p:=oGe s 1) (q:=oGe s 0) (G:=G) fun y _ z=>by unfold oGe at z ⊢;simp at z ⊢;exact⟨z.1,by omega⟩
   rw[←ea.nOwn] at Y
   omega
  ·obtain⟨j,l⟩:=List.getElem?_of_mem m
   have X:j∈nu:=(ea.nuS.iff j).2 ⟨g,l,by
    have R:g.so=0:=by omega
    unfold Gi.unsg;rw[E,R];simp⟩
   have:=ea.nuI.rng.2 j X g l E
   omega
 ·show (G++[qdk s c N f ex]).length≤n+1
  rw[List.length_append,List.length_singleton]
  omega
 ·rw[e1]
  show msE s _ _ (eo++[.upd G.length])=msE s c G eo++[(qec c N f ex).on c.s.ch]
  unfold msE
  rw[List.map_append]
  congr 1
  ·exact qc9 ab.w9 rfl (fun j l=>qd8 (ab.upd.lt l)) (fun _=>C) (fun _=>qiq rfl rfl)
  ·show [enM s _ _ (.upd G.length)]=_
   rw[qjd v]
   show [qo6 s c.s.ch (qdk s c N f ex)]=_
   unfold qo6 qdk
   rw[if_pos rfl]
   rfl
 ·exact qc9 ba.w9 rfl (fun j l=>qd8 (ba.upd.lt l)) (fun _=>rfl) (fun _=>rfl)
end
section
variable {K:Kon}{n:Nat}{s t:Bool}{c d:Ch}{eo ei:List En}{G:List Gi}{la nu lb nv:List Nat}{g g':Gi}{j:Nat}
theorem qp5{p:Gi→Bool}(m:G[j]? = some g)(o:p g=true→p g'=true)(h:∃y∈G,p y=true):∃y∈G.set j g',p y=true:=by
 obtain⟨y,q,l⟩:=h
 obtain⟨k,f⟩:=List.getElem?_of_mem q
 by_cases i:k=j
 ·subst i
  rw[m] at f
  injection f with f
  subst f
  exact⟨g',List.mem_of_getElem? (by rw[qfd m,if_pos rfl]),o l⟩
 ·exact⟨y,List.mem_of_getElem? (by rw[qfd m,if_neg i];exact f),l⟩
theorem qew{p:Gi→Prop}(m:G[j]? = some g)(h:∀y∈G,p y)(l:p g'):∀y∈G.set j g',p y:=by
 intro y o
 obtain⟨k,f⟩:=List.getElem?_of_mem o
 rw[qfd m] at f
 by_cases i:k=j
 ·rw[if_pos i] at f
  injection f with f
  rw[←f]
  exact l
 ·rw[if_neg i] at f
  exact h y (List.mem_of_getElem? f)
theorem qgp{e:List En}(l:G[j]? = some g)(h:qbb G e)(m:j∈ups e→g'.cov=g.cov∧g'.pre=g.pre):qbb (G.set j g') e:=by
 refine h.congr fun k o y i=> ?_
 rw[qfd l] at i
 by_cases f:k=j
 ·rw[if_pos f] at i
  injection i with i
  subst i
  subst f
  exact⟨g,l,m o⟩
 ·rw[if_neg f] at i
  exact⟨y,i,rfl,rfl⟩
theorem Idx.off{p:Gi→Bool}{l:List Nat}(h:Idx G p l)(i:G[j]? = some g)(f:p g=false):∀k∈l,k≠j:=by
 rintro k m rfl
 rw[h.yes m i] at f
 cases f
theorem qe8{p:Gi→Bool}{l:List Nat}(h:Idx G p l)(f:G[j]? = some g)(m:p g=false):∀k∈l,((G.set j g')[k]?).map Gi.key=(G[k]?).map Gi.key :=
 fun k i=>qmi f (.inl (h.off f m k i))
theorem EndI.setS(h:EndI K t c G nu)(f:G[j]? = some g)(l:g'.own=g.own)(w:g'.h=g.h)(x:(qs t).st g'=(qs t).st g)(m:g'.paid=g.paid∨(qs t).st g≤4)(v:g'.um=g.um∨Gi.unsg t g=false):EndI K t c (G.set j g') nu:=by
 have y:g.own=t→g'.so=g.so:=fun e=>by
  have:(if g'.own=t then g'.so else g'.st)=if g.own=t then g.so else g.st:=x
  rwa [l,if_pos e,if_pos e] at this
 have N:¬g.own=t→g'.st=g.st:=fun e=>by
  have:(if g'.own=t then g'.so else g'.st)=if g.own=t then g.so else g.st:=x
  rwa [l,if_neg e,if_neg e] at this
 have M:(qs t).mine g'=(qs t).mine g:=by show (g'.own==t)=(g.own==t);rw[l]
 have C:(qs t).show g'=(qs t).show g:=by
  unfold Seen.show
  rw[M,x,show (qs t).h g'=(qs t).h g from w]
  rcases m with m | m
  ·rw[show (qs t).paid g'=(qs t).paid g from m]
  ·unfold qaw
   rw[decide_eq_false (show ¬5≤(qs t).st g by omega),Bool.and_false,Bool.and_false]
 have q:∀b,conL b ((qs t).st g') ((qs t).paid g') ((qs t).h g').amount=conL b ((qs t).st g) ((qs t).paid g) ((qs t).h g).amount:=by
  intro b
  rw[x,show (qs t).h g'=(qs t).h g from w]
  rcases m with m | m
  ·rw[show (qs t).paid g'=(qs t).paid g from m]
  ·unfold conL
   rw[if_neg (show ¬(qs t).st g=9 by omega),if_neg (show ¬(qs t).st g=9 by omega)]
 have o:∀k,oGe t k g'=oGe t k g:=fun k=>by
  unfold oGe
  rw[l]
  rcases za g.own t with e | e
  ·rw[y e]
  ·rw[e];simp
 have F:pGe (!t) 0 g'=pGe (!t) 0 g:=by
  unfold pGe
  rw[l]
  rcases za g.own t with e | e
  ·rw[e];simp
  ·rw[N (qbv e)]
 have H:Gi.unsg t g'=Gi.unsg t g:=by
  unfold Gi.unsg
  rw[l]
  rcases za g.own t with e | e
  ·rw[y e,e];simp
  ·rw[N (qbv e),e];simp
 have E:qbi t g'=qbi t g:=by
  unfold qbi
  rw[l]
  rcases za g.own t with e | e
  ·rw[y e]
  ·rw[e];simp
 obtain⟨I,J⟩:=qm3 (qs t) f g'
 rw[M,q] at I J
 have i:∀k∈nu,((G.set j g')[k]?).map Gi.key=(G[k]?).map Gi.key:=fun k D=>by
  rcases v with v | v
  ·exact qmi f (.inr (by unfold Gi.key;rw[l,w,v]))
  ·exact qmi f (.inl (h.nuS.off f v k D))
 refine⟨h.set,?_,by rw[h.loc,I];omega,by rw[h.rem,J];omega,h.pos,by rw[qan f (o 0)];exact h.nOwn,by rw[qan f F];exact h.nTh,?_,h.nuS.setS f H,?_,?_,by rw[qan f E];exact h.many,h.shelf,h.nums⟩
 ·exact q5s _ h.perm f C
 ·rw[qan f (o 1)]
  refine qew f h.low fun z L=> ?_
  rw[w]
  rw[l] at z
  rw[y z] at L
  exact h.low g (List.mem_of_getElem? f) z L
 ·rw[qan f (o 1)]
  exact h.nuI.congr i
 ·rw[h.news]
  exact(qbz rfl i).symm
theorem q1c:∀x∈qav,x.2.1=4→x.1=4∧x.2.2.1=0:=by decide +kernel
def qdz(g:Gi)(paid:Bool)(m:MsgV):Gi:= {g with paid:=paid,st:=5,up:=2,cov:=false,pre:=false,um:=m}
theorem qym(c:Ch)(i:Nat)(x:Live)(paid:Bool)(m:MsgV)(f:c.xs[i]? = some x)(l:x.state=4):((c.removed i x paid).say m).sgnOf=c.sgnOf :=
 qiu rfl rfl (qfy _ _ _ (qy4 false c.loc c.rem (y:= {x with state:=5,paid:=paid}) f (.inl l) (.inr rfl)) (qs9 false (y:= {x with state:=5,paid:=paid}) f (.inl l) (.inr rfl) rfl rfl))
theorem qfv{xs:List Live}(m:xs.Perm (G.filterMap (qs s).show)){x:Live}(o:x∈xs):∃(j:Nat) (g:Gi),G[j]? = some g∧x=⟨g.h,g.own==s,if g.own=s then g.so else g.st,g.paid&&decide (5≤if g.own=s then g.so else g.st)⟩∧(0≤(if g.own=s then g.so else g.st)∧(if g.own=s then g.so else g.st)≤8):=by
 obtain⟨g,i,e⟩:=List.mem_filterMap.1 (m.subset o)
 obtain⟨j,l⟩:=List.getElem?_of_mem i
 refine⟨j,g,l,?_⟩
 have e:qaw (g.own==s) g.h (if g.own=s then g.so else g.st) g.paid=some x:=e
 generalize (if g.own=s then g.so else g.st)=z at e ⊢
 unfold qaw at e
 by_cases f:0≤z∧z≤8
 ·rw[if_pos f] at e
  injection e with e
  exact⟨e.symm,f⟩
 ·rw[if_neg f] at e
  cases e
theorem qoo{P:Pt}(hK:K.Ok)(h:Inv K n P){i:Nat}{x:Live}{id:Int}(hb:qb7 false id P.c.xs=some (i,x)){paid:Bool}{m:MsgV}(hm:∀g,g.h=x.h→g.paid=paid→g.um=m.on K.ch→zdu K.ch g) :
  ∃P',Goes K n P ((P.c.removed i x paid).say m) (P.out++[m.on P.c.s.ch]) P.inn P':=by
 obtain⟨s,c,d,eo,ei,G,la,nu,lb,nv⟩:=P
 obtain⟨ea,eb,ab,ba,it,ok,pw,few⟩:=h
 simp only at ea eb ab ba it ok pw few hb
 obtain⟨Z,R,-,L⟩:=qey hb
 obtain⟨j,g,f,ex,a6⟩:=qfv ea.perm (List.mem_of_getElem? Z)
 have o:g.own = !s:=by
  rcases za g.own s with e | e
  ·rw[ex] at R
   have:(g.own==s)=false:=R
   rw[e] at this
   simp at this
  ·exact e
 have l:¬g.own=s:=qbv o
 have z:(g.own==s)=false:=by rw[o];simp
 rw[if_neg l,z] at ex
 have q:g.st=4:=by rw[ex] at L;exact L
 have I:=List.mem_of_getElem? f
 have hr:=q1c _ (it g I) q
 have C:g.so=4:=hr.1
 have J:g.up=0:=hr.2
 have Y:c.s.ch=K.ch:=by rw[ea.set];exact hK.ch s
 have V:∀k,oGe s k (qdz g paid (m.on c.s.ch))=oGe s k g:=fun k=>by unfold oGe qdz;rfl
 have q1:∀k,oGe (!s) k (qdz g paid (m.on c.s.ch))=oGe (!s) k g:=fun k=>by unfold oGe qdz;rfl
 have q2:∀k,pGe s k (qdz g paid (m.on c.s.ch))=pGe s k g:=fun k=>by unfold pGe qdz;rw[o];simp
 have q3:∀k,k≤4→pGe (!s) k (qdz g paid (m.on c.s.ch))=pGe (!s) k g:=fun k hk=>by
  unfold pGe qdz;rw[o,q];simp;omega
 have u1:Gi.unsg s g=false:=by unfold Gi.unsg;rw[o,q];simp
 have u2:Gi.unsg s (qdz g paid (m.on c.s.ch))=true:=by unfold Gi.unsg qdz;rw[o];simp
 have u3:Gi.unsg (!s) g=false:=by unfold Gi.unsg;rw[o,C];simp
 have T:Gi.pend s g=false:=by unfold Gi.pend;rw[J];simp
 have p2:Gi.pend s (qdz g paid (m.on c.s.ch))=true:=by unfold Gi.pend qdz;rw[o];simp
 have U:Gi.pend (!s) g=false:=by unfold Gi.pend;rw[J];simp
 have p4:Gi.pend (!s) (qdz g paid (m.on c.s.ch))=false:=by unfold Gi.pend qdz;rw[o];simp
 have v1:Gi.covd s g=false:=by unfold Gi.covd;rw[o,q];simp
 have v2:Gi.covd s (qdz g paid (m.on c.s.ch))=false:=by unfold Gi.covd qdz;rw[o];simp
 have v3:Gi.covd (!s) g=false:=by unfold Gi.covd;rw[o,C];simp
 have v4:Gi.covd (!s) (qdz g paid (m.on c.s.ch))=false:=by unfold Gi.covd qdz;rw[o,C];simp
 have a1:∀t,qai t g=false:=fun t=>by unfold qai;rw[J];simp
 have a2:∀t,qai t (qdz g paid (m.on c.s.ch))=false:=fun t=>by unfold qai qdz;simp
 have w1:∀t,Gi.moved t g=false:=fun t=>by unfold Gi.moved;rw[C,q];simp
 have v:(G.set j (qdz g paid (m.on c.s.ch)))[j]? = some (qdz g paid (m.on c.s.ch)):=by rw[qfd f,if_pos rfl]
 have O:∀t,(∃y∈G,Gi.moved t y=true)→∃y∈G.set j (qdz g paid (m.on c.s.ch)),Gi.moved t y=true:=fun t=>qp5 f (fun e=>by rw[w1] at e;cases e)
 have H:=qym c i x paid m Z L
 have D:qk (eo++[.upd j])=qk eo:=qiy eo _
 have hu:ups (eo++[.upd j])=ups eo++[j]:=qgm eo _
 have F:∀t,amt (qai t) (G.set j (qdz g paid (m.on c.s.ch)))=amt (qai t) G:=fun t=>by rw[qi4 _ f,a1,a2];simp
 refine⟨⟨s,(c.removed i x paid).say m,d,eo++[.upd j],ei,G.set j (qdz g paid (m.on c.s.ch)),la,nu++[j],lb,nv⟩,⟨?_,?_,?_,?_,?_,?_,?_,?_⟩,rfl,rfl,rfl,?_,?_⟩
 ·obtain⟨c1,c2⟩:=qm3 (qs s) f (qdz g paid (m.on c.s.ch))
  have em:(qs s).mine g=false:=z
  have W:(qs s).mine (qdz g paid (m.on c.s.ch))=false:=z
  have es:(qs s).st g=4:=by show (if g.own=s then g.so else g.st)=4;rw[if_neg l,q]
  have X:(qs s).st (qdz g paid (m.on c.s.ch))=5:=by show (if g.own=s then g.so else 5)=5;rw[if_neg l]
  rw[em,es,W,X] at c1 c2
  have a4:(qs s).show g=some x:=by
   rw[ex]
   show qaw (g.own==s) g.h (if g.own=s then g.so else g.st) g.paid=_
   rw[if_neg l,z,q];rfl
  have a5:(qs s).show (qdz g paid (m.on c.s.ch))=some {x with state:=5,paid:=paid} := by
   rw[ex]
   show qaw (g.own==s) g.h (if g.own=s then g.so else 5) paid=_
   rw[if_neg l,z];unfold qaw;simp
  refine⟨ea.set,qza _ ea.perm f a4 a5 Z,?_,?_,ea.pos,?_,?_,?_,ea.nuS.setY f u1 u2,?_,?_,?_,ea.shelf,ea.nums⟩
  ·rw[c1]
   show c.loc=(K.S s).ours+((qs s).conL G-0+0)
   rw[ea.loc];omega
  ·rw[c2]
   show c.rem=(K.S (!s)).ours+((qs s).conR G - -g.h.amount + -g.h.amount)
   rw[ea.rem];omega
  ·rw[qan f (V 0)];exact ea.nOwn
  ·rw[qan f (q3 0 (by decide))];exact ea.nTh
  ·rw[qan f (V 1)]
   exact qew f ea.low fun e=>absurd e l
  ·rw[qan f (V 1)]
   exact(ea.nuI.congr (qe8 ea.nuS f u1)).app (Ids.other v l)
  ·show c.news++[m.on c.s.ch]=_
   unfold msU
   rw[List.map_append,ea.news]
   congr 1
   ·exact(qbz rfl (qe8 ea.nuS f u1)).symm
   ·show _=[enM s _ _ (.upd j)]
    rw[qjd v]
    unfold qo6
    rw[if_neg (show ¬(qdz g paid (m.on c.s.ch)).own=s from l)]
    rfl
  ·show cnt (qbi s) (G.set j (qdz g paid (m.on c.s.ch)))≤8
   rw[qan f (show qbi s (qdz g paid (m.on c.s.ch))=qbi s g from rfl)];exact ea.many
 ·refine eb.setS f rfl rfl ?_ (.inr ?_) (.inr u3)
  ·show (if g.own = !s then g.so else 5)=if g.own = !s then g.so else g.st
   rw[if_pos o,if_pos o]
  ·show (if g.own = !s then g.so else g.st)≤4
   rw[if_pos o,C];decide
 ·have N:=qe8 (g':=qdz g paid (m.on c.s.ch)) ab.upd f T
  refine⟨by rw[D];exact ab.w9,by rw[D];exact ab.xor,by rw[D];exact ab.sig,by rw[D];exact ab.aw,by rw[D];exact ab.rv3,by rw[D];exact ab.rv4,?_,?_,?_,?_,ab.last,?_,?_,?_⟩
  ·rw[hu];exact ab.upd.setY f T p2
  ·refine qbb.snoc (.inl rfl) (fun _ y E=> ?_) eo (qgp f ab.along fun hj=>absurd rfl (ab.upd.off f T j hj))
   rw[v] at E
   injection E with E
   subst E
   exact⟨rfl,rfl⟩
  ·rw[hu]
   exact(ab.ids.congr N).app (Ids.other v l)
  ·intro e
   rw[D] at e
   obtain⟨i1,i2,i3⟩:=ab.laS e
   refine⟨i1.setS f (v2.trans v1.symm),?_,?_⟩
   ·rw[qan f (q2 1),qan f (V 1)]
    exact i2.congr (qe8 i1 f v1)
   ·show c.last=_
    rw[H,i3]
    congr 1
    exact(qbz rfl (qe8 i1 f v1)).symm
  ·exact qbe.snoc (by intro e;cases e) (fun k y e E w=>by
    injection e with e
    subst e
    rw[v] at E
    injection E with E
    subst E
    exact absurd w l) (ab.shut.congr N)
  ·rw[D,F];exact ab.m1
  ·rw[D];exact fun e=>O s (ab.ex e)
 ·refine ba.keep ⟨rfl,rfl,rfl,rfl,rfl⟩ rfl rfl (fun _=>rfl) ⟨rfl,rfl,rfl⟩ (by rw[D]) ?_ (ba.upd.setS f (p4.trans U.symm)) ?_ (qe8 ba.upd f U) (fun _ i=>⟨i.setS f (v4.trans v3.symm),qe8 i f v3⟩) (qan f (q3 1 (by decide))) (qan f (q1 1)) (O (!s))
  ·intro e
   rw[F]
   exact ba.m1 e
  ·exact qgp f ba.along fun hj=>absurd rfl (ba.upd.off f U j hj)
 ·show ∀y∈G.set j (qdz g paid (m.on c.s.ch)),y.it s (qk (eo++[.upd j])) (qk ei)∈qav
  rw[D]
  refine qew f it ?_
  rw[qdj (g:=qdz g paid (m.on c.s.ch)) (s:=s) o]
  have M:=it g I
  rw[qdj o] at M
  exact(qvm _ M q).1
 ·refine qew f ok ?_
  have w:=ok g I
  exact⟨w.id,w.amount,w.hash,w.expiry,fun _=>hm _ (by rw[ex];rfl) rfl (by rw[←Y];rfl)⟩
 ·show ((G.set j (qdz g paid (m.on c.s.ch))).map Gi.pk).Pairwise Apt
  rw[q08 (g':=qdz g paid (m.on c.s.ch)) f rfl]
  exact pw
 ·show (G.set j _).length≤n
  rw[List.length_set]
  exact few
 ·show msE s _ _ (eo++[.upd j])=msE s c G eo++[m.on c.s.ch]
  unfold msE
  rw[List.map_append]
  congr 1
  ·exact qc9 ab.w9 rfl (qe8 ab.upd f T) (fun _=>H) (fun _=>qiq rfl rfl)
  ·show [enM s _ _ (.upd j)]=_
   rw[qjd v]
   unfold qo6
   rw[if_neg (show ¬(qdz g paid (m.on c.s.ch)).own=s from l)]
   rfl
 ·exact qc9 ba.w9 rfl (qe8 ba.upd f U) (fun _=>rfl) (fun _=>rfl)
end
end Go.Proofs.YtjpmomdechibmaaGreatDoor
