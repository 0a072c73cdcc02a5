/-
  The protocol, plain: counts, index lists and ids over a ghost list.
-/
import Derived.Test.YtjpmomdechibmaaGreatDoorMed
import Derived.Test.YtjpmomdechibmaaGreatDoorMdh
set_option linter.unusedVariables false
set_option linter.unusedSimpArgs false
namespace Go.Proofs.YtjpmomdechibmaaGreatDoor
open Go.RowKit
structure Gi where
 own:Bool
 h:Htlc
 paid:Bool
 so:Int
 st:Int
 up:Nat
 cov:Bool
 pre:Bool
 um:MsgV
def Gi.key(g:Gi):Bool × Htlc × MsgV:=(g.own,g.h,g.um)
def cnt(p:Gi→Bool)(G:List Gi):Int:=(G.map fun g=>if p g=true then (1:Int) else 0).sum
def amt(p:Gi→Bool)(G:List Gi):Int:=(G.map fun g=>if p g=true then g.h.amount else 0).sum
section
variable {p q:Gi→Bool}{G:List Gi}{g g':Gi}{j:Nat}
theorem qcs(p:Gi→Bool)(G:List Gi)(g:Gi):cnt p (G++[g])=cnt p G+if p g=true then 1 else 0:=qmk _ G g
theorem q01(p:Gi→Bool)(f:G[j]? = some g)(g':Gi):cnt p (G.set j g')=cnt p G-(if p g=true then 1 else 0)+if p g'=true then 1 else 0:=qop _ f
theorem qaf(f:G[j]? = some g)(h:p g'=p g):cnt p (G.set j g')=cnt p G:=by rw[q01 p f,h];omega
theorem qip(p:Gi→Bool)(f:G[j]? = some g)(g':Gi):amt p (G.set j g')=amt p G-(if p g=true then g.h.amount else 0)+if p g'=true then g'.h.amount else 0:=qop _ f
theorem qu8(p:Gi→Bool)(G:List Gi)(g:Gi):amt p (G++[g])=amt p G+if p g=true then g.h.amount else 0:=qmk _ G g
theorem qeo{α:Type}{f f':α→Int}{G:List α}(h:∀g∈G,f g=f' g):(G.map f).sum=(G.map f').sum:=by rw[List.map_congr_left h]
theorem qhp{α:Type}{f f':α→Int} : ∀ {G:List α},(∀g∈G,f g≤f' g)→(G.map f).sum≤(G.map f').sum
 | [],_=>Int.le_refl _
 | g::G,h=>by
  have m:=h g (List.mem_cons_self ..)
  have o:=qhp fun y i=>h y (List.mem_cons_of_mem _ i)
  simp only[List.map_cons,List.sum_cons]
  omega
theorem qd6(h:∀g∈G,p g=q g):cnt p G=cnt q G:=qeo fun g f=>by rw[h g f]
theorem qk6(h:∀g∈G,p g=true→q g=true):cnt p G≤cnt q G:=by
 refine qhp fun g i=> ?_
 by_cases f:p g=true
 ·rw[if_pos f,if_pos (h g i f)];exact Int.le_refl _
 ·rw[if_neg f];split<;>decide
theorem qiw(p:Gi→Bool)(G:List Gi):0≤cnt p G:=by
 have:=qk6 (p:=fun _=>false) (q:=p) (G:=G) (fun _ _ h=>by cases h)
 have e:cnt (fun _=>false) G=0:=by
  induction G with
  | nil=>rfl
  | cons g G f=>exact(show cnt (fun _=>false) (g::G)=0+cnt (fun _=>false) G from rfl).trans (by rw[f (qk6 (p:=fun _=>false) (q:=p) (G:=G) (fun _ _ h=>by cases h))];rfl)
 omega
theorem qoh(p:Gi→Bool)(G:List Gi):cnt p G≤G.length:=by
 induction G with
 | nil=>exact Int.le_refl _
 | cons g G f =>
  have e:cnt p (g::G)=(if p g=true then 1 else 0)+cnt p G:=rfl
  rw[e,List.length_cons]
  split<;>omega
theorem qfi(p:Gi→Bool)(f:Gi→Gi)(G:List Gi):cnt p (G.map f)=cnt (fun g=>p (f g)) G:=by
 unfold cnt
 rw[List.map_map]
 rfl
theorem qlk(p:Gi→Bool)(f:Gi→Gi)(G:List Gi):amt p (G.map f)=(G.map fun g=>if p (f g)=true then (f g).h.amount else 0).sum:=by
 unfold amt
 rw[List.map_map]
 rfl
theorem qyn(h:∀g∈G,p g=true→q g=true)(i:g∈G)(v:p g=false)(w:q g=true):cnt p G<cnt q G:=by
 induction G with
 | nil=>cases i
 | cons y G C =>
  have o:cnt p (y::G)=(if p y=true then 1 else 0)+cnt p G:=rfl
  have t:cnt q (y::G)=(if q y=true then 1 else 0)+cnt q G:=rfl
  have D:=qk6 (p:=p) (q:=q) (G:=G) fun z m=>h z (List.mem_cons_of_mem _ m)
  rcases List.mem_cons.1 i with e | i
  ·subst e
   rw[o,t,v,w]
   simp
   omega
  ·have:=C (fun z m=>h z (List.mem_cons_of_mem _ m)) i
   have x:=h y (List.mem_cons_self ..)
   rw[o,t]
   by_cases f:p y=true
   ·rw[if_pos f,if_pos (x f)];omega
   ·rw[if_neg f];split<;>omega
end
structure Idx(G:List Gi)(p:Gi→Bool)(l:List Nat):Prop where
 nd:l.Nodup
 iff:∀j,j∈l↔∃g,G[j]? = some g∧p g=true
section
variable {p q:Gi→Bool}{G:List Gi}{g g':Gi}{j:Nat}{l:List Nat}
theorem Idx.lt(h:Idx G p l)(i:j∈l):j<G.length:=by
 obtain⟨g,f,-⟩:=(h.iff j).1 i
 exact(List.getElem?_eq_some_iff.1 f).1
theorem Idx.yes(h:Idx G p l)(m:j∈l)(i:G[j]? = some g):p g=true:=by
 obtain⟨g',f,o⟩:=(h.iff j).1 m
 rw[i] at f
 injection f with e
 rw[e]
 exact o
theorem Idx.map(f:Gi→Gi)(h:Idx G q l)(o:∀g∈G,p (f g)=q g):Idx (G.map f) p l:=by
 refine⟨h.nd,fun j=>(h.iff j).trans ⟨?_,?_⟩⟩
 ·rintro ⟨g,m,v⟩
  exact⟨f g,by rw[List.getElem?_map,m];rfl,by rw[o g (List.mem_of_getElem? m)];exact v⟩
 ·rintro ⟨y,i,t⟩
  rw[List.getElem?_map] at i
  cases m:G[j]? with
  | none=>rw[m] at i;cases i
  | some g =>
   rw[m] at i
   injection i with i
   subst i
   exact⟨g,rfl,by rw[←o g (List.mem_of_getElem? m)];exact t⟩
theorem Idx.none(h:∀g∈G,p g=false):Idx G p []:=by
 refine⟨List.nodup_nil,fun j=>⟨fun h=>(by cases h),?_⟩⟩
 rintro ⟨g,i,f⟩
 rw[h g (List.mem_of_getElem? i)] at f
 cases f
theorem Idx.congr(h:Idx G q l)(f:∀g∈G,p g=q g):Idx G p l:=by
 have:=h.map (p:=p) id f
 rwa [List.map_id] at this
theorem Idx.snocN(h:Idx G p l)(o:p g=false):Idx (G++[g]) p l:=by
 refine⟨h.nd,fun j=>(h.iff j).trans ⟨?_,?_⟩⟩
 ·rintro ⟨y,f,i⟩
  exact⟨y,by rw[List.getElem?_append_left (List.getElem?_eq_some_iff.1 f).1];exact f,i⟩
 ·rintro ⟨y,f,i⟩
  by_cases m:j<G.length
  ·rw[List.getElem?_append_left m] at f
   exact⟨y,f,i⟩
  ·rw[List.getElem?_append_right (by omega)] at f
   have:=List.mem_of_getElem? f
   rw[List.mem_singleton.1 this,o] at i
   cases i
theorem Idx.snocY(h:Idx G p l)(w:p g=true):Idx (G++[g]) p (l++[G.length]):=by
 refine⟨?_,fun j=>⟨?_,?_⟩⟩
 ·rw[List.nodup_append]
  refine⟨h.nd,by simp,?_⟩
  intro a t b v
  have:=h.lt t
  rw[List.mem_singleton.1 v]
  omega
 ·intro f
  rcases List.mem_append.1 f with f | f
  ·obtain⟨y,i,o⟩:=(h.iff j).1 f
   exact⟨y,by rw[List.getElem?_append_left (List.getElem?_eq_some_iff.1 i).1];exact i,o⟩
  ·rw[List.mem_singleton.1 f]
   exact⟨g,by simp,w⟩
 ·rintro ⟨y,i,o⟩
  by_cases f:j<G.length
  ·rw[List.getElem?_append_left f] at i
   exact List.mem_append_left _ ((h.iff j).2 ⟨y,i,o⟩)
  ·have m:=(List.getElem?_eq_some_iff.1 i).1
   rw[List.length_append,List.length_singleton] at m
   exact List.mem_append_right _ (List.mem_singleton.2 (by omega))
theorem qey{G:List Gi}{j:Nat}{g g':Gi}(m:G[j]? = some g)(k:Nat):(G.set j g')[k]? = if k=j then some g' else G[k]? := by
 have i:=(List.getElem?_eq_some_iff.1 m).1
 rw[List.getElem?_set]
 by_cases f:j=k
 ·rw[if_pos f,if_pos f.symm,if_pos i]
 ·rw[if_neg f,if_neg (fun e=>f e.symm)]
theorem Idx.setS(h:Idx G p l)(m:G[j]? = some g)(t:p g'=p g):Idx (G.set j g') p l:=by
 refine⟨h.nd,fun k=>(h.iff k).trans ?_⟩
 rw[qey m]
 by_cases o:k=j
 ·subst o
  rw[if_pos rfl,m]
  constructor
  ·rintro ⟨y,f,i⟩
   injection f with f
   subst f
   exact⟨g',rfl,t.trans i⟩
  ·rintro ⟨y,f,i⟩
   injection f with f
   subst f
   exact⟨g,rfl,t.symm.trans i⟩
 ·rw[if_neg o]
theorem Idx.setY(h:Idx G p l)(m:G[j]? = some g)(i:p g=false)(x:p g'=true):Idx (G.set j g') p (l++[j]):=by
 have w:j∉l:=fun v=>by rw[h.yes v m] at i;cases i
 refine⟨?_,fun k=> ?_⟩
 ·rw[List.nodup_append]
  refine⟨h.nd,by simp,?_⟩
  intro a o b t
  rw[List.mem_singleton.1 t]
  rintro rfl
  exact w o
 ·rw[qey m,List.mem_append,List.mem_singleton,h.iff k]
  by_cases f:k=j
  ·subst f
   rw[if_pos rfl]
   exact⟨fun _=>⟨g',rfl,x⟩,fun _=> .inr rfl⟩
  ·rw[if_neg f]
   exact⟨fun e=>e.resolve_right f,.inl⟩
theorem Idx.setN(h:Idx G p (j::l))(v:G[j]? = some g)(x:p g'=false):Idx (G.set j g') p l:=by
 obtain⟨w,t⟩:=List.nodup_cons.1 h.nd
 refine⟨t,fun k=> ?_⟩
 have f:=h.iff k
 rw[List.mem_cons] at f
 rw[qey v]
 by_cases i:k=j
 ·subst i
  rw[if_pos rfl]
  refine⟨fun e=>absurd e w,?_⟩
  rintro ⟨y,m,o⟩
  injection m with m
  subst m
  rw[x] at o
  cases o
 ·rw[if_neg i]
  exact⟨fun e=>f.1 (.inr e),fun e=>(f.2 e).resolve_left i⟩
theorem qsd:∀(n:Nat) (l:List Nat),l.Nodup→(∀j∈l,j<n)→l.length≤n
 | 0,[],_,_=>Nat.le_refl _
 | 0,j::_,_,h=>absurd (h j (List.mem_cons_self ..)) (Nat.not_lt_zero _)
 | n+1,l,i,h=>by
  have f:=qsd n (l.erase n) (i.erase n) fun j m=>by
   have:=h j (List.mem_of_mem_erase m)
   have t:j≠n:=fun e=>by
    subst e
    exact(List.Nodup.not_mem_erase i) m
   omega
  by_cases o:n∈l
  ·rw[List.length_erase_of_mem o] at f
   omega
  ·rw[List.erase_of_not_mem o] at f
   omega
theorem Idx.len(h:Idx G p l):l.length≤G.length:=qsd _ l h.nd fun _ f=>h.lt f
end
def Ids(G:List Gi)(s:Bool):Int→List Nat→Int→Prop
 | n,[],m=>n=m
 | n,j::l,m=>∃g,G[j]? = some g∧(if g.own=s then g.h.id=n∧Ids G s (n+1) l m else Ids G s n l m)
section
variable {G G':List Gi}{s:Bool}{g:Gi}{j:Nat}
theorem Ids.app{m k:Int}{l2:List Nat} : ∀ {l:List Nat} {n:Int},Ids G s n l m→Ids G s m l2 k→Ids G s n (l++l2) k
 | [],_,f,i=>by cases f;exact i
 | _::_,_,⟨g,t,f⟩,i=>by
  refine⟨g,t,?_⟩
  by_cases o:g.own=s
  ·rw[if_pos o] at f ⊢
   exact⟨f.1,f.2.app i⟩
  ·rw[if_neg o] at f ⊢
   exact f.app i
theorem Ids.congr{m:Int} : ∀ {l:List Nat} {n:Int},Ids G s n l m→(∀j∈l,(G'[j]?).map Gi.key=(G[j]?).map Gi.key)→Ids G' s n l m
 | [],_,h,_=>h
 | j::_,_,⟨g,z,h⟩,v=>by
  have f:=v j (List.mem_cons_self ..)
  rw[z] at f
  cases o:G'[j]? with
  | none=>rw[o] at f;cases f
  | some g' =>
   rw[o] at f
   injection f with f
   have x:g'.own=g.own:=congrArg (·.1) f
   have y:g'.h=g.h:=congrArg (·.2.1) f
   refine⟨g',o,?_⟩
   rw[x,y]
   by_cases w:g.own=s
   ·rw[if_pos w] at h ⊢
    exact⟨h.1,h.2.congr fun i t=>v i (List.mem_cons_of_mem _ t)⟩
   ·rw[if_neg w] at h ⊢
    exact h.congr fun i t=>v i (List.mem_cons_of_mem _ t)
theorem Ids.one{n:Int}(f:G[j]? = some g)(m:g.own=s)(i:g.h.id=n):Ids G s n [j] (n+1):=⟨g,f,by rw[if_pos m];exact⟨i,rfl⟩⟩
theorem Ids.other{n:Int}(f:G[j]? = some g)(i:g.own≠s):Ids G s n [j] n:=⟨g,f,by rw[if_neg i];rfl⟩
theorem Ids.rng{m:Int} : ∀ {l:List Nat} {n:Int},Ids G s n l m→n≤m∧∀j∈l,∀g,G[j]? = some g→g.own=s→n≤g.h.id∧g.h.id<m
 | [],_,h=>⟨Int.le_of_eq h,fun _ h=>(by cases h)⟩
 | j::l,n,⟨g,z,h⟩=>by
  by_cases w:g.own=s
  ·rw[if_pos w] at h
   obtain⟨x,v⟩:=h.2.rng
   refine⟨by omega,fun i o y f t=> ?_⟩
   rcases List.mem_cons.1 o with e | o
   ·subst e
    rw[z] at f
    injection f with f
    subst f
    omega
   ·have:=v i o y f t
    omega
  ·rw[if_neg w] at h
   obtain⟨x,v⟩:=h.rng
   refine⟨x,fun i o y f t=> ?_⟩
   rcases List.mem_cons.1 o with e | o
   ·subst e
    rw[z] at f
    injection f with f
    subst f
    exact absurd t w
   ·exact v i o y f t
end
def qn9(ch:Int)(h:Htlc):MsgV:=⟨3,ch,h.id,h.amount,h.hash.toList,h.expiry,0⟩
def qod(s:Bool)(ch:Int)(g:Gi):MsgV:=if g.own=s then qn9 ch g.h else g.um
noncomputable def Ch.sgnOf(c:Ch):MsgV:=⟨6,c.s.ch,0,0,zx false c.s.key c.s.ch c.k.signed c.loc c.rem c.xs,0,c.k.signed⟩
noncomputable def enM(s:Bool)(c:Ch)(G:List Gi):En→MsgV
 | .upd j=>match G[j]? with | some g=>qod s c.s.ch g | none=>MsgV.zero
 | .sgn=>c.sgnOf
 | .rev=>c.revocation
 | .shut=>qbp c.s.ch
noncomputable def msE(s:Bool)(c:Ch)(G:List Gi)(e:List En):List MsgV:=e.map (enM s c G)
noncomputable def msU(s:Bool)(c:Ch)(G:List Gi)(l:List Nat):List MsgV:=l.map fun j=>enM s c G (.upd j)
def ups:List En→List Nat
 | []=>[]
 | .upd j::es=>j::ups es
 | .sgn::es=>ups es
 | .rev::es=>ups es
 | .shut::es=>ups es
def qa3(G:List Gi):List En→Prop
 | []=>True
 | .upd j::es=>(∀g,G[j]? = some g→g.cov=qak (qj es)∧g.pre=qbi (qj es))∧qa3 G es
 | .sgn::es=>qa3 G es
 | .rev::es=>qa3 G es
 | .shut::es=>qa3 G es
def qa6(G:List Gi)(s said:Bool):Bool→List En→Prop
 | h,[]=>said=h
 | h,.upd j::es=>(h=true→∀g,G[j]? = some g→g.own≠s)∧qa6 G s said h es
 | h,.sgn::es=>qa6 G s said h es
 | h,.rev::es=>qa6 G s said h es
 | h,.shut::es=>h=false∧qa6 G s said true es
def qs(s:Bool):Seen Gi:=⟨fun g=>g.own==s,fun g=>if g.own=s then g.so else g.st,Gi.h,Gi.paid⟩
def Gi.it(g:Gi)(s:Bool)(i f:Nat):It:=(g.so,g.st,g.up,g.cov,if g.own=s then i else f,if g.own=s then f else i)
def oGe(s:Bool)(k:Int)(g:Gi):Bool:=g.own==s&&decide (k≤g.so)
def pGe(s:Bool)(k:Int)(g:Gi):Bool:=g.own==s&&decide (k≤g.st)
def qbf(s:Bool)(g:Gi):Bool:=g.own==s&&(decide (0≤g.so)&&decide (g.so≤8))
def Gi.pend(s:Bool)(g:Gi):Bool:=(g.own==s&&g.up==1) || (g.own == !s&&g.up==2)
def Gi.unsg(s:Bool)(g:Gi):Bool:=(g.own==s&&g.so==0) || (g.own == !s&&g.st==5)
def Gi.covd(s:Bool)(g:Gi):Bool:=(g.own==s&&g.so==1) || (g.own == !s&&g.st==6)
def Gi.moved(s:Bool)(g:Gi):Bool:=(g.own==s&&(g.so==1 || g.so==8)) || (g.own == !s&&(g.st==3 || g.st==6))
def z8(s:Bool)(g:Gi):Bool:=g.own==s&&(g.up==1&&g.pre)
structure Kon where
 S:Bool→SetupV
 ch:Int
 cap:Int
structure Kon.Ok(K:Kon):Prop where
 ch:∀s,(K.S s).ch=K.ch
 chb:0≤K.ch∧K.ch<4294967296
 key:∀s,(K.S s).key=(K.S (!s)).peer
 keyb:∀s,(K.S s).key.size≤64
 ours:∀s,0≤(K.S s).ours
 sum:∀s,(K.S s).ours+(K.S (!s)).ours=K.cap
 cap:K.cap≤1125899906842624
 capS:∀s,(K.S s).cap=K.cap
 seed:∀s,(K.S s).seed.length=32∧qaz (K.S s).seed
def zbz(ch:Int)(g:Gi):Prop :=
 (∃p,g.um=(qe9 g.h.id p).on ch∧p.length=32∧qaz p∧qhn p g.h.hash.toList=true∧g.paid=true)∨(∃r,g.um=(qd8 g.h.id r).on ch∧0≤r∧r≤65535∧g.paid=false)
structure GiOk(ch:Int)(g:Gi):Prop where
 id:0≤g.h.id∧g.h.id<1152921504606846976
 amount:1≤g.h.amount∧g.h.amount≤1125899906842624
 hash:qaz g.h.hash.toList
 expiry:1≤g.h.expiry∧g.h.expiry≤1073741824
 um:g.st=5∨g.st=6→zbz ch g
structure EndI(K:Kon)(s:Bool)(c:Ch)(G:List Gi)(nu:List Nat):Prop where
 set:c.s=K.S s
 perm:c.xs.Perm (G.filterMap (qs s).show)
 loc:c.loc=(K.S s).ours+(qs s).conL G
 rem:c.rem=(K.S (!s)).ours+(qs s).conR G
 pos:0≤c.loc∧0≤c.rem
 nOwn:c.k.nextOwn=cnt (oGe s 0) G
 nTh:c.k.nextTheirs=cnt (pGe (!s) 0) G
 low:∀g∈G,g.own=s→1≤g.so→g.h.id<cnt (oGe s 1) G
 nuS:Idx G (Gi.unsg s) nu
 nuI:Ids G s (cnt (oGe s 1) G) nu c.k.nextOwn
 news:c.news=msU s c G nu
 many:cnt (qbf s) G≤8
 shelf:qow (K.S (!s)).seed c.shelf
 nums:0≤c.k.heard∧(0≤c.k.signed∧c.k.signed≤65535)∧(c.k.awaits=true→1≤c.k.signed)
structure Dir(n:Nat)(s:Bool)(c d:Ch)(eo ei:List En)(G:List Gi)(la:List Nat):Prop where
 w9:qj eo≠9
 xor:qak (qj eo)=true→qbi (qj ei)=false
 sig:c.k.signed=d.k.heard+if qak (qj eo)=true then 1 else 0
 aw:c.k.awaits=(qak (qj eo) || qbi (qj ei))
 rv3:qj eo=3→c.k.revoked=true
 rv4:qj eo=4→c.k.revoked=false
 upd:Idx G (Gi.pend s) (ups eo)
 along:qa3 G eo
 ids:Ids G s d.k.nextTheirs (ups eo) c.k.nextOwn
 laS:qak (qj eo)=true→Idx G (Gi.covd s) la∧Ids G s (cnt (pGe s 1) G) la (cnt (oGe s 1) G)∧c.last=msU s c G la++[c.sgnOf]
 last:c.last.length≤n
 shut:qa6 G s c.k.shutSaid d.k.shutHeard eo
 m1:qbi (qj eo)=true→amt (z8 s) G≤d.rem
 ex:qak (qj eo)=true→∃g∈G,Gi.moved s g=true
def Gi.pk(g:Gi):Bool × Int × Bool:=(g.own,g.h.id,decide (0≤g.so))
def Apt(a b:Bool × Int × Bool):Prop:=¬(a.2.2=true∧b.2.2=true∧a.1=b.1∧a.2.1=b.2.1)
structure Pt where
 s:Bool
 c:Ch
 d:Ch
 eo:List En
 ei:List En
 G:List Gi
 la:List Nat
 nu:List Nat
 lb:List Nat
 nv:List Nat
structure Inv(K:Kon)(n:Nat)(P:Pt):Prop where
 ea:EndI K P.s P.c P.G P.nu
 eb:EndI K (!P.s) P.d P.G P.nv
 ab:Dir n P.s P.c P.d P.eo P.ei P.G P.la
 ba:Dir n (!P.s) P.d P.c P.ei P.eo P.G P.lb
 it:∀g∈P.G,g.it P.s (qj P.eo) (qj P.ei)∈qat
 ok:∀g∈P.G,GiOk K.ch g
 pw:(P.G.map Gi.pk).Pairwise Apt
 few:P.G.length≤n
def Pt.flip(P:Pt):Pt:=⟨!P.s,P.d,P.c,P.ei,P.eo,P.G,P.lb,P.nv,P.la,P.nu⟩
theorem qy(a s:Bool):a=s∨a = !s:=by cases a<;>cases s<;>simp
theorem qbt{a s:Bool}(h:a = !s):¬a=s:=by subst h;cases s<;>decide
theorem qhl{a s:Bool}(h:a=s):¬a = !s:=by subst h;cases a<;>decide
theorem qc8{g:Gi}{s:Bool}(h:g.own=s)(i f:Nat):g.it s i f=(g.so,g.st,g.up,g.cov,i,f):=by unfold Gi.it;rw[if_pos h,if_pos h]
theorem qdi{g:Gi}{s:Bool}(h:g.own = !s)(i f:Nat):g.it s i f=(g.so,g.st,g.up,g.cov,f,i):=by unfold Gi.it;rw[if_neg (qbt h),if_neg (qbt h)]
theorem q07(g:Gi)(s:Bool)(i f:Nat):g.it (!s) f i=g.it s i f:=by
 rcases qy g.own s with h | h
 ·rw[qc8 h,qdi (by rw[h,Bool.not_not])]
 ·rw[qdi h,qc8 h]
theorem Inv.flip{K:Kon}{n:Nat}{P:Pt}(h:Inv K n P):Inv K n P.flip :=
 ⟨h.eb,by rw[show (!P.flip.s)=P.s from Bool.not_not _];exact h.ea,h.ba,by rw[show (!P.flip.s)=P.s from Bool.not_not _];exact h.ab,fun g f=>by rw[show g.it P.flip.s (qj P.flip.eo) (qj P.flip.ei)=_ from q07 g P.s (qj P.eo) (qj P.ei)];exact h.it g f,h.ok,h.pw,h.few⟩
section
variable {K:Kon}{n m:Nat}{P:Pt}
theorem Dir.mono{s:Bool}{c d:Ch}{eo ei:List En}{G:List Gi}{la:List Nat}(h:Dir n s c d eo ei G la)(f:n≤m):Dir m s c d eo ei G la :=
 ⟨h.w9,h.xor,h.sig,h.aw,h.rv3,h.rv4,h.upd,h.along,h.ids,h.laS,Nat.le_trans h.last f,h.shut,h.m1,h.ex⟩
theorem Inv.mono(h:Inv K n P)(f:n≤m):Inv K m P:=⟨h.ea,h.eb,h.ab.mono f,h.ba.mono f,h.it,h.ok,h.pw,Nat.le_trans h.few f⟩
end
theorem q31:∀x∈qat,(-1≤x.1∧x.1≤9)∧(-1≤x.2.1∧x.2.1≤9)∧(x.1 = -1→x.2.1 = -1∧x.2.2.1=0)∧(x.2.1 = -1→x.1 = -1∨x.1=0∨x.1=1)∧x.2.2.1≤2:=by decide +kernel
theorem qzz:∀g f:Fin 5,(qak g.val=true→qbi f.val=false)→(qak f.val=true→qbi g.val=false)→(-1,-1,0,false,g.val,f.val)∈qat:=by decide +kernel
theorem qgb{es:List En}(h:qj (.sgn::es)≠9):(qj es=0∧qj (.sgn::es)=1)∨(qj es=2∧qj (.sgn::es)=3):=by
 have e:qj (.sgn::es)=if qj es=0 then 1 else if qj es=2 then 3 else 9:=rfl
 by_cases f:qj es=0
 ·exact .inl ⟨f,by rw[e,if_pos f]⟩
 ·by_cases g:qj es=2
  ·exact .inr ⟨g,by rw[e,if_neg f,if_pos g]⟩
  ·exact absurd (by rw[e,if_neg f,if_neg g]) h
theorem qga{es:List En}(h:qj (.rev::es)≠9):(qj es=0∧qj (.rev::es)=2)∨(qj es=1∧qj (.rev::es)=4):=by
 have e:qj (.rev::es)=if qj es=0 then 2 else if qj es=1 then 4 else 9:=rfl
 by_cases f:qj es=0
 ·exact .inl ⟨f,by rw[e,if_pos f]⟩
 ·by_cases g:qj es=1
  ·exact .inr ⟨g,by rw[e,if_neg f,if_pos g]⟩
  ·exact absurd (by rw[e,if_neg f,if_neg g]) h
theorem qfz:∀e:List En,qj e≠9→qj e≤4
 | [],_=>by decide
 | .upd _::es,h=>qfz es h
 | .shut::es,h=>qfz es h
 | .sgn::es,h=>by rcases qgb h with e | e<;>omega
 | .rev::es,h=>by rcases qga h with e | e<;>omega
theorem qf9:∀e f:List En,ups (e++f)=ups e++ups f
 | [],_=>rfl
 | .upd j::es,f=>by show j::ups (es++f)=_;rw[qf9 es f];rfl
 | .sgn::es,f=>qf9 es f
 | .rev::es,f=>qf9 es f
 | .shut::es,f=>qf9 es f
theorem qom:∀e:List En,qj e≠9→En.sgn∈e→qak (qj e)=true
 | [],_,h=>by cases h
 | .upd _::es,f,h=>qom es f ((List.mem_cons.1 h).resolve_left (by intro e;cases e))
 | .shut::es,f,h=>qom es f ((List.mem_cons.1 h).resolve_left (by intro e;cases e))
 | .sgn::es,f,_=>by
  rcases qgb f with ⟨-,e⟩ | ⟨-,e⟩<;>rw[e]<;>rfl
 | .rev::es,f,h=>by
  have i:=(List.mem_cons.1 h).resolve_left (by intro e;cases e)
  rcases qga f with ⟨g,e⟩ | ⟨-,e⟩
  ·have:=qom es (by omega) i
   rw[g] at this
   cases this
  ·rw[e];rfl
theorem qlz:∀e:List En,qj e≠9→En.rev∈e→qbi (qj e)=true
 | [],_,h=>by cases h
 | .upd _::es,f,h=>qlz es f ((List.mem_cons.1 h).resolve_left (by intro e;cases e))
 | .shut::es,f,h=>qlz es f ((List.mem_cons.1 h).resolve_left (by intro e;cases e))
 | .rev::es,f,_=>by
  rcases qga f with ⟨-,e⟩ | ⟨-,e⟩<;>rw[e]<;>rfl
 | .sgn::es,f,h=>by
  have i:=(List.mem_cons.1 h).resolve_left (by intro e;cases e)
  rcases qgb f with ⟨g,e⟩ | ⟨-,e⟩
  ·have:=qlz es (by omega) i
   rw[g] at this
   cases this
  ·rw[e];rfl
theorem qiy{s:Bool}{c:Ch}{G:List Gi}{j:Nat}{g:Gi}(f:G[j]? = some g):enM s c G (.upd j)=qod s c.s.ch g:=by
 unfold enM
 simp only[f]
theorem q5r{s:Bool}{c:Ch}{G:List Gi}{j:Nat}(f:G[j]? = none):enM s c G (.upd j)=MsgV.zero:=by
 unfold enM
 simp only[f]
theorem q05{s:Bool}{c c':Ch}{G G':List Gi}{j:Nat}(q:c'.s=c.s)(h:(G'[j]?).map Gi.key=(G[j]?).map Gi.key):enM s c' G' (.upd j)=enM s c G (.upd j):=by
 cases e:G[j]? with
 | none =>
  rw[e] at h
  cases f:G'[j]? with
  | none=>rw[q5r e,q5r f]
  | some g'=>rw[f] at h;cases h
 | some g =>
  rw[e] at h
  cases f:G'[j]? with
  | none=>rw[f] at h;cases h
  | some g' =>
   rw[f] at h
   injection h with h
   have i:g'.own=g.own:=congrArg (·.1) h
   have l:g'.h=g.h:=congrArg (·.2.1) h
   have o:g'.um=g.um:=congrArg (·.2.2) h
   rw[qiy e,qiy f]
   unfold qod
   rw[i,l,o,q]
theorem qbr{s:Bool}{c c':Ch}{G G':List Gi}{l:List Nat}(g:c'.s=c.s)(h:∀j∈l,(G'[j]?).map Gi.key=(G[j]?).map Gi.key):msU s c' G' l=msU s c G l :=
 List.map_congr_left fun j f=>q05 g (h j f)
theorem qkp{j:Nat} : ∀e:List En,En.upd j∈e→j∈ups e
 | [],h=>by cases h
 | .upd i::es,h=>by
  rcases List.mem_cons.1 h with e | h
  ·injection e with e
   subst e
   exact List.mem_cons_self ..
  ·exact List.mem_cons_of_mem _ (qkp es h)
 | .sgn::es,h=>qkp es ((List.mem_cons.1 h).resolve_left (by intro e;cases e))
 | .rev::es,h=>qkp es ((List.mem_cons.1 h).resolve_left (by intro e;cases e))
 | .shut::es,h=>qkp es ((List.mem_cons.1 h).resolve_left (by intro e;cases e))
theorem qcy{s:Bool}{c c':Ch}{G G':List Gi}{e:List En}(g:qj e≠9)(i:c'.s=c.s)(h:∀j∈ups e,(G'[j]?).map Gi.key=(G[j]?).map Gi.key)
  (l:qak (qj e)=true→c'.sgnOf=c.sgnOf) (o:qbi (qj e)=true→c'.revocation=c.revocation):msE s c' G' e=msE s c G e:=by
 refine List.map_congr_left fun x f=> ?_
 cases x with
 | upd j=>exact q05 i (h j (qkp e f))
 | sgn=>exact l (qom e g f)
 | rev=>exact o (qlz e g f)
 | shut=>show qbp c'.s.ch=qbp c.s.ch;rw[i]
theorem qif{c c':Ch}(g:c'.s=c.s)(f:c'.k.signed=c.k.signed)(h:zx false c.s.key c.s.ch c.k.signed c'.loc c'.rem c'.xs=zx false c.s.key c.s.ch c.k.signed c.loc c.rem c.xs):c'.sgnOf=c.sgnOf:=by
 unfold Ch.sgnOf
 rw[g,f,h]
theorem qic{c c':Ch}(g:c'.s=c.s)(f:c'.k.heard=c.k.heard):c'.revocation=c.revocation:=by
 unfold Ch.revocation Ch.secret
 rw[g,f]
theorem qls{f:Gi→Gi}(h:∀g,(f g).key=g.key)(G:List Gi)(j:Nat):((G.map f)[j]?).map Gi.key=(G[j]?).map Gi.key:=by
 rw[List.getElem?_map,Option.map_map]
 cases G[j]? with
 | none=>rfl
 | some g=>exact congrArg some (h g)
theorem qlt{G:List Gi}{j:Nat}{g g':Gi}(i:G[j]? = some g){k:Nat}(h:k≠j∨g'.key=g.key):((G.set j g')[k]?).map Gi.key=(G[k]?).map Gi.key:=by
 rw[qey i]
 by_cases f:k=j
 ·rw[if_pos f,f,i]
  exact congrArg some (h.resolve_left (fun e=>e f))
 ·rw[if_neg f]
theorem qdx{G:List Gi}{g:Gi}{k:Nat}(h:k<G.length):((G++[g])[k]?).map Gi.key=(G[k]?).map Gi.key:=by
 rw[List.getElem?_append_left h]
theorem qzv{G:List Gi}{j:Nat}{g g':Gi}(i:G[j]? = some g)(h:g'.pk=g.pk):(G.set j g').map Gi.pk=G.map Gi.pk:=by
 rw[List.map_set,h]
 apply List.ext_getElem?
 intro k
 rw[List.getElem?_set]
 by_cases l:j=k
 ·subst l
  have f:=(List.getElem?_eq_some_iff.1 i).1
  rw[if_pos rfl,List.length_map,if_pos f,List.getElem?_map,i]
  rfl
 ·rw[if_neg l]
theorem qzu{G:List Gi}{f:Gi→Gi}(h:∀g∈G,(f g).pk=g.pk):(G.map f).map Gi.pk=G.map Gi.pk:=by
 rw[List.map_map]
 exact List.map_congr_left h
theorem qa3.snoc{G:List Gi}{j:Nat}{x:En}(f:x = .upd j∨x = .shut)(l:x = .upd j→∀g,G[j]? = some g→g.cov=false∧g.pre=false):∀e:List En,qa3 G e→qa3 G (e++[x])
 | [],_=>by
  rcases f with rfl | rfl
  ·exact⟨l rfl,trivial⟩
  ·trivial
 | .upd i::es,h=>by
  refine⟨fun g o=> ?_,qa3.snoc f l es h.2⟩
  have q:qj (es++[x])=qj es:=by
   rcases f with rfl | rfl
   ·exact qij es j
   ·exact qqs es
  show g.cov=qak (qj (es++[x]))∧g.pre=qbi (qj (es++[x]))
  rw[q]
  exact h.1 g o
 | .sgn::es,h=>qa3.snoc f l es h
 | .rev::es,h=>qa3.snoc f l es h
 | .shut::es,h=>qa3.snoc f l es h
theorem qa3.congr{G G':List Gi} : ∀ {e:List En},(∀j∈ups e,∀g',G'[j]? = some g'→∃g,G[j]? = some g∧g'.cov=g.cov∧g'.pre=g.pre)→qa3 G e→qa3 G' e
 | [],_,_=>trivial
 | .upd i::es,f,h=>by
  refine⟨fun g' l=> ?_,qa3.congr (fun j v=>f j (List.mem_cons_of_mem _ v)) h.2⟩
  obtain⟨g,t,o,q⟩:=f i (List.mem_cons_self ..) g' l
  rw[o,q]
  exact h.1 g t
 | .sgn::es,f,h=>qa3.congr (e:=es) f h
 | .rev::es,f,h=>qa3.congr (e:=es) f h
 | .shut::es,f,h=>qa3.congr (e:=es) f h
theorem qa6.congr{G G':List Gi}{s said:Bool} : ∀ {e:List En} {h:Bool},(∀j∈ups e,(G'[j]?).map Gi.key=(G[j]?).map Gi.key)→qa6 G s said h e→qa6 G' s said h e
 | [],_,_,h=>h
 | .upd i::es,_,f,h=>by
  refine⟨fun e g' q=> ?_,qa6.congr (fun j v=>f j (List.mem_cons_of_mem _ v)) h.2⟩
  have l:=f i (List.mem_cons_self ..)
  rw[q] at l
  cases o:G[i]? with
  | none=>rw[o] at l;cases l
  | some g =>
   rw[o] at l
   injection l with l
   have t:g'.own=g.own:=congrArg (·.1) l
   rw[t]
   exact h.1 e g o
 | .sgn::es,_,f,h=>qa6.congr (e:=es) f h
 | .rev::es,_,f,h=>qa6.congr (e:=es) f h
 | .shut::es,_,f,h=>⟨h.1,qa6.congr (e:=es) f h.2⟩
theorem qa6.snoc{G:List Gi}{s said:Bool}{x:En}(o:x ≠ .shut)(l:∀j g,x = .upd j→G[j]? = some g→g.own=s→said=false):∀ {e:List En} {h:Bool},qa6 G s said h e→qa6 G s said h (e++[x])
 | [],h,f=>by
  cases x with
  | upd j=>exact⟨fun e g q t=>by rw[show said=h from f,e] at l;exact absurd (l j g rfl q t) (by decide),f⟩
  | sgn=>exact f
  | rev=>exact f
  | shut=>exact absurd rfl o
 | .upd i::es,_,f=>⟨f.1,qa6.snoc o l f.2⟩
 | .sgn::es,_,f=>qa6.snoc (e:=es) o l f
 | .rev::es,_,f=>qa6.snoc (e:=es) o l f
 | .shut::es,_,f=>⟨f.1,qa6.snoc (e:=es) o l f.2⟩
theorem qa6.shut{G:List Gi}{s:Bool} : ∀ {e:List En} {h:Bool},qa6 G s false h e→qa6 G s true h (e++[.shut])
 | [],_,f=>⟨f.symm,rfl⟩
 | .upd i::es,_,f=>⟨f.1,qa6.shut f.2⟩
 | .sgn::es,_,f=>qa6.shut (e:=es) f
 | .rev::es,_,f=>qa6.shut (e:=es) f
 | .shut::es,_,f=>⟨f.1,qa6.shut (e:=es) f.2⟩
end Go.Proofs.YtjpmomdechibmaaGreatDoor
