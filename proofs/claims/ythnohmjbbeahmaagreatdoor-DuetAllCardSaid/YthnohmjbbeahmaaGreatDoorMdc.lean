/-
  The protocol, plain: counts, index lists and ids over a ghost list.
-/
import Derived.Test.YthnohmjbbeahmaaGreatDoorMdb
import Derived.Test.YthnohmjbbeahmaaGreatDoorMcj
set_option linter.unusedVariables false
set_option linter.unusedSimpArgs false
namespace Go.Proofs.YthnohmjbbeahmaaGreatDoor
open Go.RowKit
structure Gi where
 own:Bool
 h:Htlc
 paid:Bool
 so:Int
 st:Int
 up:Nat
 cov:Bool
 pre:Bool
 um:MsgV
def Gi.key(g:Gi):Bool × Htlc × MsgV:=(g.own,g.h,g.um)
def cnt(p:Gi→Bool)(G:List Gi):Int:=(G.map fun g=>if p g=true then (1:Int) else 0).sum
def amt(p:Gi→Bool)(G:List Gi):Int:=(G.map fun g=>if p g=true then g.h.amount else 0).sum
section
variable {p q:Gi→Bool}{G:List Gi}{g g':Gi}{j:Nat}
theorem qc1(p:Gi→Bool)(G:List Gi)(g:Gi):cnt p (G++[g])=cnt p G+if p g=true then 1 else 0:=qoc _ G g
theorem q31(p:Gi→Bool)(i:G[j]? = some g)(g':Gi):cnt p (G.set j g')=cnt p G-(if p g=true then 1 else 0)+if p g'=true then 1 else 0:=qqn _ i
theorem qas(i:G[j]? = some g)(h:p g'=p g):cnt p (G.set j g')=cnt p G:=by rw[q31 p i,h];omega
theorem qjk(p:Gi→Bool)(i:G[j]? = some g)(g':Gi):amt p (G.set j g')=amt p G-(if p g=true then g.h.amount else 0)+if p g'=true then g'.h.amount else 0:=qqn _ i
theorem qxz(p:Gi→Bool)(G:List Gi)(g:Gi):amt p (G++[g])=amt p G+if p g=true then g.h.amount else 0:=qoc _ G g
theorem qeg{α:Type}{f f':α→Int}{G:List α}(h:∀g∈G,f g=f' g):(G.map f).sum=(G.map f').sum:=by rw[List.map_congr_left h]
theorem qhv{α:Type}{f f':α→Int} : ∀ {G:List α},(∀g∈G,f g≤f' g)→(G.map f).sum≤(G.map f').sum
 | [],_=>Int.le_refl _
 | g::G,h=>by
  have m:=h g (List.mem_cons_self ..);have o:=qhv fun y i=>h y (List.mem_cons_of_mem _ i)
  simp only[List.map_cons,List.sum_cons];omega
theorem qe0(h:∀g∈G,p g=q g):cnt p G=cnt q G:=qeg fun g i=>by rw[h g i]
theorem qmj(h:∀g∈G,p g=true→q g=true):cnt p G≤cnt q G:=by
 refine qhv fun g m=> ?_
 by_cases i:p g=true
 ·rw[if_pos i,if_pos (h g m i)];exact Int.le_refl _
 ·rw[if_neg i];split<;>decide
theorem qjs(p:Gi→Bool)(G:List Gi):0≤cnt p G:=by
 have:=qmj (p:=fun _=>false) (q:=p) (G:=G) (fun _ _ h=>by cases h);have e:cnt (fun _=>false) G=0:=by
  induction G with
  | nil=>rfl
  | cons g G i=>exact(show cnt (fun _=>false) (g::G)=0+cnt (fun _=>false) G from rfl).trans (by rw[i (qmj (p:=fun _=>false) (q:=p) (G:=G) (fun _ _ h=>by cases h))];rfl)
 omega
theorem qqc(p:Gi→Bool)(G:List Gi):cnt p G≤G.length:=by
 induction G with
 | nil=>exact Int.le_refl _
 | cons g G i =>
  have e:cnt p (g::G)=(if p g=true then 1 else 0)+cnt p G:=rfl;rw[e,List.length_cons];split<;>omega
theorem qgk(p:Gi→Bool)(f:Gi→Gi)(G:List Gi):cnt p (G.map f)=cnt (fun g=>p (f g)) G:=by
 unfold cnt;rw[List.map_map];rfl
theorem qm4(p:Gi→Bool)(f:Gi→Gi)(G:List Gi):amt p (G.map f)=(G.map fun g=>if p (f g)=true then (f g).h.amount else 0).sum:=by
 unfold amt;rw[List.map_map];rfl
theorem q1e(h:∀g∈G,p g=true→q g=true)(m:g∈G)(w:p g=false)(C:q g=true):cnt p G<cnt q G:=by
 induction G with
 | nil=>cases m
 | cons y G E =>
  have t:cnt p (y::G)=(if p y=true then 1 else 0)+cnt p G:=rfl;have v:cnt q (y::G)=(if q y=true then 1 else 0)+cnt q G:=rfl;have F:=qmj (p:=p) (q:=q) (G:=G) fun z o=>h z (List.mem_cons_of_mem _ o)
  rcases List.mem_cons.1 m with e | m
  ·subst e;rw[t,v,w,C];simp;omega
  ·have:=E (fun z o=>h z (List.mem_cons_of_mem _ o)) m;have D:=h y (List.mem_cons_self ..);rw[t,v];by_cases i:p y=true
   ·rw[if_pos i,if_pos (D i)];omega
   ·rw[if_neg i];split<;>omega
end
structure Idx(G:List Gi)(p:Gi→Bool)(l:List Nat):Prop where
 nd:l.Nodup
 iff:∀j,j∈l↔∃g,G[j]? = some g∧p g=true
section
variable {p q:Gi→Bool}{G:List Gi}{g g':Gi}{j:Nat}{l:List Nat}
theorem Idx.lt(h:Idx G p l)(m:j∈l):j<G.length:=by
 obtain⟨g,i,-⟩:=(h.iff j).1 m;exact(List.getElem?_eq_some_iff.1 i).1
theorem Idx.yes(h:Idx G p l)(o:j∈l)(m:G[j]? = some g):p g=true:=by
 obtain⟨g',i,t⟩:=(h.iff j).1 o;rw[m] at i;injection i with e;rw[e];exact t
theorem Idx.map(f:Gi→Gi)(h:Idx G q l)(o:∀g∈G,p (f g)=q g):Idx (G.map f) p l:=by
 refine⟨h.nd,fun j=>(h.iff j).trans ⟨?_,?_⟩⟩
 ·rintro ⟨g,m,v⟩;exact⟨f g,by rw[List.getElem?_map,m];rfl,by rw[o g (List.mem_of_getElem? m)];exact v⟩
 ·rintro ⟨y,i,t⟩;rw[List.getElem?_map] at i;cases m:G[j]? with
  | none=>rw[m] at i;cases i
  | some g =>
   rw[m] at i;injection i with i;subst i;exact⟨g,rfl,by rw[←o g (List.mem_of_getElem? m)];exact t⟩
theorem Idx.none(h:∀g∈G,p g=false):Idx G p []:=by
 refine⟨List.nodup_nil,fun j=>⟨fun h=>(by cases h),?_⟩⟩;rintro ⟨g,m,i⟩;rw[h g (List.mem_of_getElem? m)] at i;cases i
theorem Idx.congr(h:Idx G q l)(i:∀g∈G,p g=q g):Idx G p l:=by
 have:=h.map (p:=p) id i;rwa [List.map_id] at this
theorem Idx.snocN(h:Idx G p l)(t:p g=false):Idx (G++[g]) p l:=by
 refine⟨h.nd,fun j=>(h.iff j).trans ⟨?_,?_⟩⟩
 ·rintro ⟨y,i,m⟩;exact⟨y,by rw[List.getElem?_append_left (List.getElem?_eq_some_iff.1 i).1];exact i,m⟩
 ·rintro ⟨y,i,m⟩;by_cases o:j<G.length
  ·rw[List.getElem?_append_left o] at i;exact⟨y,i,m⟩
  ·rw[List.getElem?_append_right (by omega)] at i;have:=List.mem_of_getElem? i;rw[List.mem_singleton.1 this,t] at m;cases m
theorem Idx.snocY(h:Idx G p l)(z:p g=true):Idx (G++[g]) p (l++[G.length]):=by
 refine⟨?_,fun j=>⟨?_,?_⟩⟩
 ·rw[List.nodup_append];refine⟨h.nd,by simp,?_⟩;intro a v b w;have:=h.lt v;rw[List.mem_singleton.1 w];omega
 ·intro i;rcases List.mem_append.1 i with i | i
  ·obtain⟨y,m,t⟩:=(h.iff j).1 i;exact⟨y,by rw[List.getElem?_append_left (List.getElem?_eq_some_iff.1 m).1];exact m,t⟩
  ·rw[List.mem_singleton.1 i];exact⟨g,by simp,z⟩
 ·rintro ⟨y,m,t⟩;by_cases i:j<G.length
  ·rw[List.getElem?_append_left i] at m;exact List.mem_append_left _ ((h.iff j).2 ⟨y,m,t⟩)
  ·have o:=(List.getElem?_eq_some_iff.1 m).1;rw[List.length_append,List.length_singleton] at o;exact List.mem_append_right _ (List.mem_singleton.2 (by omega))
theorem qf1{G:List Gi}{j:Nat}{g g':Gi}(o:G[j]? = some g)(k:Nat):(G.set j g')[k]? = if k=j then some g' else G[k]? := by
 have m:=(List.getElem?_eq_some_iff.1 o).1;rw[List.getElem?_set];by_cases i:j=k
 ·rw[if_pos i,if_pos i.symm,if_pos m]
 ·rw[if_neg i,if_neg (fun e=>i e.symm)]
theorem Idx.setS(h:Idx G p l)(o:G[j]? = some g)(v:p g'=p g):Idx (G.set j g') p l:=by
 refine⟨h.nd,fun k=>(h.iff k).trans ?_⟩;rw[qf1 o];by_cases t:k=j
 ·subst t;rw[if_pos rfl,o];constructor
  ·rintro ⟨y,i,m⟩;injection i with i;subst i;exact⟨g',rfl,v.trans m⟩
  ·rintro ⟨y,i,m⟩;injection i with i;subst i;exact⟨g,rfl,v.symm.trans m⟩
 ·rw[if_neg t]
theorem Idx.setY(h:Idx G p l)(o:G[j]? = some g)(m:p g=false)(C:p g'=true):Idx (G.set j g') p (l++[j]):=by
 have z:j∉l:=fun w=>by rw[h.yes w o] at m;cases m
 refine⟨?_,fun k=> ?_⟩
 ·rw[List.nodup_append];refine⟨h.nd,by simp,?_⟩;intro a t b v;rw[List.mem_singleton.1 v];rintro rfl;exact z t
 ·rw[qf1 o,List.mem_append,List.mem_singleton,h.iff k];by_cases i:k=j
  ·subst i;rw[if_pos rfl];exact⟨fun _=>⟨g',rfl,C⟩,fun _=> .inr rfl⟩
  ·rw[if_neg i];exact⟨fun e=>e.resolve_right i,.inl⟩
theorem Idx.setN(h:Idx G p (j::l))(v:G[j]? = some g)(z:p g'=false):Idx (G.set j g') p l:=by
 obtain⟨w,hd⟩:=List.nodup_cons.1 h.nd;refine⟨hd,fun k=> ?_⟩;have i:=h.iff k;rw[List.mem_cons] at i;rw[qf1 v];by_cases m:k=j
 ·subst m;rw[if_pos rfl];refine⟨fun e=>absurd e w,?_⟩;rintro ⟨y,o,t⟩;injection o with o;subst o;rw[z] at t;cases t
 ·rw[if_neg m];exact⟨fun e=>i.1 (.inr e),fun e=>(i.2 e).resolve_left m⟩
theorem qup:∀(n:Nat) (l:List Nat),l.Nodup→(∀j∈l,j<n)→l.length≤n
 | 0,[],_,_=>Nat.le_refl _
 | 0,j::_,_,h=>absurd (h j (List.mem_cons_self ..)) (Nat.not_lt_zero _)
 | n+1,l,hd,h=>by
  have i:=qup n (l.erase n) (hd.erase n) fun j m=>by
   have:=h j (List.mem_of_mem_erase m);have t:j≠n:=fun e=>by
    subst e;exact(List.Nodup.not_mem_erase hd) m
   omega
  by_cases o:n∈l
  ·rw[List.length_erase_of_mem o] at i;omega
  ·rw[List.erase_of_not_mem o] at i;omega
theorem Idx.len(h:Idx G p l):l.length≤G.length:=qup _ l h.nd fun _ i=>h.lt i
end
def Ids(G:List Gi)(s:Bool):Int→List Nat→Int→Prop
 | n,[],m=>n=m
 | n,j::l,m=>∃g,G[j]? = some g∧(if g.own=s then g.h.id=n∧Ids G s (n+1) l m else Ids G s n l m)
section
variable {G G':List Gi}{s:Bool}{g:Gi}{j:Nat}
theorem Ids.app{m k:Int}{l2:List Nat} : ∀ {l:List Nat} {n:Int},Ids G s n l m→Ids G s m l2 k→Ids G s n (l++l2) k
 | [],_,i,o=>by cases i;exact o
 | _::_,_,⟨g,v,i⟩,o=>by
  refine⟨g,v,?_⟩;by_cases t:g.own=s
  ·rw[if_pos t] at i ⊢;exact⟨i.1,i.2.app o⟩
  ·rw[if_neg t] at i ⊢;exact i.app o
theorem Ids.congr{m:Int} : ∀ {l:List Nat} {n:Int},Ids G s n l m→(∀j∈l,(G'[j]?).map Gi.key=(G[j]?).map Gi.key)→Ids G' s n l m
 | [],_,h,_=>h
 | j::_,_,⟨g,E,h⟩,w=>by
  have o:=w j (List.mem_cons_self ..);rw[E] at o;cases t:G'[j]? with
  | none=>rw[t] at o;cases o
  | some g' =>
   rw[t] at o;injection o with o;have C:g'.own=g.own:=congrArg (·.1) o;have D:g'.h=g.h:=congrArg (·.2.1) o;refine⟨g',t,?_⟩;rw[C,D];by_cases z:g.own=s
   ·rw[if_pos z] at h ⊢;exact⟨h.1,h.2.congr fun i v=>w i (List.mem_cons_of_mem _ v)⟩
   ·rw[if_neg z] at h ⊢;exact h.congr fun i v=>w i (List.mem_cons_of_mem _ v)
theorem Ids.one{n:Int}(i:G[j]? = some g)(o:g.own=s)(m:g.h.id=n):Ids G s n [j] (n+1):=⟨g,i,by rw[if_pos o];exact⟨m,rfl⟩⟩
theorem Ids.other{n:Int}(i:G[j]? = some g)(m:g.own≠s):Ids G s n [j] n:=⟨g,i,by rw[if_neg m];rfl⟩
theorem Ids.rng{m:Int} : ∀ {l:List Nat} {n:Int},Ids G s n l m→n≤m∧∀j∈l,∀g,G[j]? = some g→g.own=s→n≤g.h.id∧g.h.id<m
 | [],_,h=>⟨Int.le_of_eq h,fun _ h=>(by cases h)⟩
 | j::l,n,⟨g,D,h⟩=>by
  by_cases z:g.own=s
  ·rw[if_pos z] at h;obtain⟨C,w⟩:=h.2.rng;refine⟨by omega,fun i t y o v=> ?_⟩;rcases List.mem_cons.1 t with e | t
   ·subst e;rw[D] at o;injection o with o;subst o;omega
   ·have:=w i t y o v;omega
  ·rw[if_neg z] at h;obtain⟨C,w⟩:=h.rng;refine⟨C,fun i t y o v=> ?_⟩;rcases List.mem_cons.1 t with e | t
   ·subst e;rw[D] at o;injection o with o;subst o;exact absurd v z
   ·exact w i t y o v
end
attribute [local go_sem ↓ high] zr zu zw zx zy qak qaq
attribute [local go_sem] qb3 qb9 qcf qbg qq2 qcl qdb qdn zb
def qgd(id:Int)(p:List Int):MsgV:=⟨4,0,id,0,p,0,0⟩
def Ch.fulfill(c:Ch)(id:Int)(p:List Int):Ch × MsgV × Int:=match qbf false id c.xs with
 | none=>(c,MsgV.zero,3)
 | some q=>if qby p q.2.h.hash.toList=true then ((c.removed q.1 q.2 true).say (qgd id p),(qgd id p).on c.s.ch,0) else (c,MsgV.zero,132)
theorem qys{c:Ch}{id:Int}{p:List Int}(h:qbf false id c.xs=none):c.fulfill id p=(c,MsgV.zero,3):=by unfold Ch.fulfill;rw[h]
theorem qkz{c:Ch}{id:Int}{p:List Int}{i:Nat}{x:Live}(h:qbf false id c.xs=some (i,x)):c.fulfill id p=if qby p x.h.hash.toList=true then ((c.removed i x true).say (qgd id p),(qgd id p).on c.s.ch,0) else (c,MsgV.zero,132):=by unfold Ch.fulfill;rw[h]
set_option maxRecDepth 100000 in
set_option maxHeartbeats 1000000 in
theorem qyt(g:Nat)(S:Nat→Prop)(c:Ch)(id:Int)(pre:List Int)(q:pre.length=32)(w:World)(h:ChS w g S c)(hT:Tb w)(a7:c.news.length<1000000) :
  Calls Tryz.prog 35 #[.pointer (some ⟨g,0,none⟩),.int .u64 id,.agg (qx pre).toArray] w fun e w' =>
   e = .returned (.tuple #[.agg (c.fulfill id pre).2.1.cells.toArray,.int .i64 (c.fulfill id pre).2.2])∧ChS w' g (Fr S w w') (c.fulfill id pre).1∧Upd S w w':=by
 obtain⟨O,nv,av,h⟩:=h
 go_enter Tryz.func35,Tryz.ntmps35
 go_upto_region 1 with fail
 have hD:=(qch w pre q).new ((Upd.refl _ _).alloc (.cells MsgV.zero.cells.toArray 71))
 have M:=qbx (w.alloc (.cells (qx pre).toArray 33)) MsgV.zero qs
 rw[World.size_alloc] at M
 have P:qu w ((w.alloc (.cells (qx pre).toArray 33)).alloc (.cells MsgV.zero.cells.toArray 71)):=((Upd.refl _ _).alloc _).alloc _
 generalize (w.alloc (.cells (qx pre).toArray 33)).alloc (.cells MsgV.zero.cells.toArray 71)=w1 at hD M P ⊢
 obtain⟨D,a6⟩:∃D,D=w.heap.size:=⟨_,rfl⟩
 obtain⟨B,a5⟩:∃B,B=w.heap.size+1:=⟨_,rfl⟩
 rw[←a5] at M ⊢
 rw[←a6] at hD ⊢
 have b9:w.heap.size≤B:=by omega
 have c0:w.heap.size≤D:=by omega
 have c2:g≠B:=by have:=h.lt g h.inG;omega
 have v:¬S B:=fun e=>by have:=h.lt B e;omega
 have b5:¬S D:=fun e=>by have:=h.lt D e;omega
 clear a5 a6
 have h1:=h.new P
 have H:=hT.new P
 have hb:=qm5 g S c false id w1 ⟨O,nv,av,h1⟩
 have bad:∀(W:World),qu w1 W →
   stOk W B 0 38 MsgV.zero.cells.toArray=true∧MsB (W.setCells B 0 MsgV.zero.cells) B MsgV.zero∧ChS (W.setCells B 0 MsgV.zero.cells) g (Fr S w (W.setCells B 0 MsgV.zero.cells)) c∧Upd S w (W.setCells B 0 MsgV.zero.cells):=by
  intro W nW
  have hb:=M.new nW
  have u:=zz (w:=W) (b:=B) MsgV.zero.cells
  exact⟨hb.stOk qs,hb.put qs,ChS.frW (w1:=w) ⟨O,nv,av,((h1.new nW).upd u (fun k J e=>by rw[e] at J;exact v J))⟩,((P.trans nW).mono (T:=S) (fun _ _ h=>h.elim)).then u (fun i I e=>by omega)⟩
 have z:=qb bad
 have HB:=qb M
 have HD:=qb hD
 have HI:=qb h.inL
 have H1:=qb h1
 have b8:=qb h.lt
 have N1:=qb P
 have b4:=qb h.ok
 have c1:(c.xs.length:Int)≤1000000:=by have:=h.ok.few;omega
 clear h h1 M P bad hD hT
 go_wp2_with fail
 refine hb.mono ?_
 rintro e w2 ⟨rfl,L⟩
 clear hb
 cases N:qbf false id c.xs with
 | none =>
  have I:=qjn N;obtain⟨K,l,C,hU⟩:=qa z w2 L;have V:=qb (qys (p:=pre) N);have X:=qb l;have U:=qb C;have HU:=qb hU;rw[I];clear l C hU L N I H;go_wp2_with (with_reducible first|(first|refine' tw1 (qg ?_) ?_|refine' tw2 (qg ?_) ?_);rotate_left|refine' tw3 (qg ?_)|rfl|apply tn|refine' tw4 ?_);have l:=qa X;refine bodyPost_ret (qq rfl _ _ B _ _ _ _ rfl l.at_ Tryz.underlying71 rfl (by rw[l.agg];exact Tryz.infoMsg)) rfl ?_;rw[qa V];exact⟨rfl,qa U,qa HU⟩
 | some pr =>
  obtain⟨i,x⟩:=pr;obtain⟨I,o,-⟩:=qhg N;have h2:=(qa H1).new L;rw[I];have c4:=(List.getElem?_eq_some_iff.1 o).1;obtain⟨gl,cap,b6,rh⟩:=h2.hash o;have a4:w2.cell? ⟨g,47,none⟩=some O:=h2.toR.live;rw[b6] at a4;have c3:(i:Int)<(c.xs.length:Int):=by omega
  have a8:=((qa b4).xs x (List.mem_of_getElem? o)).h.hash;have Y:=qb (fun W (nW:qu w2 W)=>qur pre x.h.hash.toList q (by simp) a8 W ((H.new L).new nW).tabs);have Z:=qb (fun W (hW:ChP W g S c O nv av)=>qj4 g S c O nv av i x true W hW o);have V:=qb (qkz (p:=pre) N);have RA:=qb (((qa HD).new L).row);have RH:=qb rh;have N2:=qb L;have H2:=qb h2;clear L N I o h2 rh a8 H;go_upto_region 4 with (with_reducible first|(first|refine' tw1 (qg ?_) ?_|refine' tw2 (qg ?_) ?_);rotate_left|refine' tw3 (qg ?_)|rfl|apply tn|refine' tw4 ?_);have rA:=qa RA;have rh:=qa RH;clear RA RH;go_wp2_with (with_reducible first|(first|refine' tw1 (qg ?_) ?_|refine' tw2 (qg ?_) ?_);rotate_left|refine' tw3 (qg ?_)|rfl|apply tn|refine' tw4 ?_);refine(qa Y _ ((Upd.refl _ _).drew)).mono ?_;rintro e w3 ⟨rfl,n3⟩;have h3:=((qa H2).new ((Upd.refl (fun _=>False) w2).drew)).new n3;have a9:qu w2 w3:=n3.ofDrew;have t:=qa Z w3 h3;have N3:=qb ((qa N2).trans a9);clear a4 rA rh h3 n3 a9 Y Z;cases hO:qby pre x.h.hash.toList with
  | false =>
   obtain⟨K,l,C,hU⟩:=qa z w3 (qa N3);have E:Hid (c.fulfill id pre=(c,MsgV.zero,132)):=qb (by rw[qa V,hO];simp);have X:=qb l;have U:=qb C;have HU:=qb hU;clear t l C hU hO;go_wp2_with (with_reducible first|(first|refine' tw1 (qg ?_) ?_|refine' tw2 (qg ?_) ?_);rotate_left|refine' tw3 (qg ?_)|rfl|apply tn|refine' tw4 ?_);have l:=qa X;refine bodyPost_ret (qq rfl _ _ B _ _ _ _ rfl l.at_ Tryz.underlying71 rfl (by rw[l.agg];exact Tryz.infoMsg)) rfl ?_;rw[qa E];exact⟨rfl,qa U,qa HU⟩
  | true =>
   have E:Hid (c.fulfill id pre=((c.removed i x true).say (qgd id pre),(qgd id pre).on c.s.ch,0)):=qb (by rw[qa V,hO];simp);clear hO V;go_wp2_with (with_reducible first|(first|refine' tw1 (qg ?_) ?_|refine' tw2 (qg ?_) ?_);rotate_left|refine' tw3 (qg ?_)|rfl|apply tn|refine' tw4 ?_);refine t.mono ?_;rintro e w4 ⟨rfl,h4,u4⟩;have m:=qqm g S (c.removed i x true) (qgd id pre) q w4 ⟨O,nv,av,h4⟩ a7;have U4:=qb ((((qa N1).trans (qa N3)).mono (T:=S) (fun _ _ h=>h.elim)).trans (u4.mono (T:=S) (fun k _ e=>qa HI k e)));have R:=qb (((qa HB).new (qa N3)).upd u4 (fun e=>v (qa HI B e)));have b3:=qb (((qa HD).new (qa N3)).upd u4 (fun e=>b5 (qa HI D e)));have bf:=fun W=>qq2 4 id pre q W
   clear t h4 u4;unfold qgd at m;go_upto_region 7 with (with_reducible first|(first|refine' tw1 (qg ?_) ?_|refine' tw2 (qg ?_) ?_);rotate_left|refine' tw3 (qg ?_)|rfl|apply tn|refine' tw4 ?_);have rD:=(qa b3).row;go_wp2_with (with_reducible first|(first|refine' tw1 (qg ?_) ?_|refine' tw2 (qg ?_) ?_);rotate_left|refine' tw3 (qg ?_)|rfl|apply tn|refine' tw4 ?_);refine m.mono ?_;rintro e w5 ⟨rfl,h5,u5⟩;have hl:((qgd id pre).on (c.removed i x true).s.ch).hash.length=32:=q;have F:=(qa R).upd u5 v;have K:=F.stOk hl;have l:=F.put hl;have u6:=zz (w:=w5) (b:=B) ((qgd id pre).on (c.removed i x true).s.ch).cells;have X:=qb l;have b7:=(qa U4).size;have C:=h5.upd u6 (fun k J e=>by
    rcases J with J | J
    ·exact v (e▸J)
    ·have:=(qa R).lt;omega)
   have U:=qb ((C.grow u6.size).later b7);have HU:=qb (((qa U4).trans u5).then u6 (fun i I e=>by omega));change stOk w5 B 0 38 ((⟨4,0,id,0,pre,0,0⟩:MsgV).on (c.removed i x true).s.ch).cells.toArray=true at K;clear m h5 u5 F l u6 C hl rD bf;go_wp2_with (with_reducible first|(first|refine' tw1 (qg ?_) ?_|refine' tw2 (qg ?_) ?_);rotate_left|refine' tw3 (qg ?_)|rfl|apply tn|refine' tw4 ?_);have l:=qa X;refine bodyPost_ret (qq rfl _ _ B _ _ _ _ rfl l.at_ Tryz.underlying71 rfl (by rw[l.agg];exact Tryz.infoMsg)) rfl ?_;rw[qa E];exact⟨rfl,qa U,qa HU⟩
end Go.Proofs.YthnohmjbbeahmaaGreatDoor
namespace Go.Proofs.YthnohmjbbeahmaaGreatDoor
open Go.RowKit
def qp5(ch:Int)(h:Htlc):MsgV:=⟨3,ch,h.id,h.amount,h.hash.toList,h.expiry,0⟩
def qp8(s:Bool)(ch:Int)(g:Gi):MsgV:=if g.own=s then qp5 ch g.h else g.um
noncomputable def Ch.sgnOf(c:Ch):MsgV:=⟨6,c.s.ch,0,0,zt false c.s.key c.s.ch c.k.signed c.loc c.rem c.xs,0,c.k.signed⟩
noncomputable def enM(s:Bool)(c:Ch)(G:List Gi):En→MsgV
 | .upd j=>match G[j]? with | some g=>qp8 s c.s.ch g | none=>MsgV.zero
 | .sgn=>c.sgnOf
 | .rev=>c.revocation
 | .shut=>qdl c.s.ch
noncomputable def msE(s:Bool)(c:Ch)(G:List Gi)(e:List En):List MsgV:=e.map (enM s c G)
noncomputable def msU(s:Bool)(c:Ch)(G:List Gi)(l:List Nat):List MsgV:=l.map fun j=>enM s c G (.upd j)
def ups:List En→List Nat
 | []=>[]
 | .upd j::es=>j::ups es
 | .sgn::es=>ups es
 | .rev::es=>ups es
 | .shut::es=>ups es
def qbe(G:List Gi):List En→Prop
 | []=>True
 | .upd j::es=>(∀g,G[j]? = some g→g.cov=qay (qj es)∧g.pre=qbu (qj es))∧qbe G es
 | .sgn::es=>qbe G es
 | .rev::es=>qbe G es
 | .shut::es=>qbe G es
def qbj(G:List Gi)(s said:Bool):Bool→List En→Prop
 | h,[]=>said=h
 | h,.upd j::es=>(h=true→∀g,G[j]? = some g→g.own≠s)∧qbj G s said h es
 | h,.sgn::es=>qbj G s said h es
 | h,.rev::es=>qbj G s said h es
 | h,.shut::es=>h=false∧qbj G s said true es
def qm(s:Bool):Seen Gi:=⟨fun g=>g.own==s,fun g=>if g.own=s then g.so else g.st,Gi.h,Gi.paid⟩
def Gi.it(g:Gi)(s:Bool)(l i:Nat):It:=(g.so,g.st,g.up,g.cov,if g.own=s then l else i,if g.own=s then i else l)
def oGe(s:Bool)(k:Int)(g:Gi):Bool:=g.own==s&&decide (k≤g.so)
def pGe(s:Bool)(k:Int)(g:Gi):Bool:=g.own==s&&decide (k≤g.st)
def qbo(s:Bool)(g:Gi):Bool:=g.own==s&&(decide (0≤g.so)&&decide (g.so≤8))
def Gi.pend(s:Bool)(g:Gi):Bool:=(g.own==s&&g.up==1) || (g.own == !s&&g.up==2)
def Gi.unsg(s:Bool)(g:Gi):Bool:=(g.own==s&&g.so==0) || (g.own == !s&&g.st==5)
def Gi.covd(s:Bool)(g:Gi):Bool:=(g.own==s&&g.so==1) || (g.own == !s&&g.st==6)
def Gi.moved(s:Bool)(g:Gi):Bool:=(g.own==s&&(g.so==1 || g.so==8)) || (g.own == !s&&(g.st==3 || g.st==6))
def qam(s:Bool)(g:Gi):Bool:=g.own==s&&(g.up==1&&g.pre)
structure Kon where
 S:Bool→SetupV
 ch:Int
 cap:Int
structure Kon.Ok(K:Kon):Prop where
 ch:∀s,(K.S s).ch=K.ch
 chb:0≤K.ch∧K.ch<4294967296
 key:∀s,(K.S s).key=(K.S (!s)).peer
 keyb:∀s,(K.S s).key.size≤64
 ours:∀s,0≤(K.S s).ours
 sum:∀s,(K.S s).ours+(K.S (!s)).ours=K.cap
 cap:K.cap≤1125899906842624
 capS:∀s,(K.S s).cap=K.cap
 seed:∀s,(K.S s).seed.length=32∧qal (K.S s).seed
def zf8(ch:Int)(g:Gi):Prop :=
 (∃p,g.um=(qgd g.h.id p).on ch∧p.length=32∧qal p∧qby p g.h.hash.toList=true∧g.paid=true)∨(∃r,g.um=(qe2 g.h.id r).on ch∧0≤r∧r≤65535∧g.paid=false)
structure GiOk(ch:Int)(g:Gi):Prop where
 id:0≤g.h.id∧g.h.id<1152921504606846976
 amount:1≤g.h.amount∧g.h.amount≤1125899906842624
 hash:qal g.h.hash.toList
 expiry:1≤g.h.expiry∧g.h.expiry≤1073741824
 um:g.st=5∨g.st=6→zf8 ch g
structure EndI(K:Kon)(s:Bool)(c:Ch)(G:List Gi)(nu:List Nat):Prop where
 set:c.s=K.S s
 perm:c.xs.Perm (G.filterMap (qm s).show)
 loc:c.loc=(K.S s).ours+(qm s).conL G
 rem:c.rem=(K.S (!s)).ours+(qm s).conR G
 pos:0≤c.loc∧0≤c.rem
 nOwn:c.k.nextOwn=cnt (oGe s 0) G
 nTh:c.k.nextTheirs=cnt (pGe (!s) 0) G
 low:∀g∈G,g.own=s→1≤g.so→g.h.id<cnt (oGe s 1) G
 nuS:Idx G (Gi.unsg s) nu
 nuI:Ids G s (cnt (oGe s 1) G) nu c.k.nextOwn
 news:c.news=msU s c G nu
 many:cnt (qbo s) G≤8
 shelf:qaj (K.S (!s)).seed c.shelf
 nums:0≤c.k.heard∧(0≤c.k.signed∧c.k.signed≤65535)∧(c.k.awaits=true→1≤c.k.signed)
structure Dir(n:Nat)(s:Bool)(c d:Ch)(eo ei:List En)(G:List Gi)(la:List Nat):Prop where
 w9:qj eo≠9
 xor:qay (qj eo)=true→qbu (qj ei)=false
 sig:c.k.signed=d.k.heard+if qay (qj eo)=true then 1 else 0
 aw:c.k.awaits=(qay (qj eo) || qbu (qj ei))
 rv3:qj eo=3→c.k.revoked=true
 rv4:qj eo=4→c.k.revoked=false
 upd:Idx G (Gi.pend s) (ups eo)
 along:qbe G eo
 ids:Ids G s d.k.nextTheirs (ups eo) c.k.nextOwn
 laS:qay (qj eo)=true→Idx G (Gi.covd s) la∧Ids G s (cnt (pGe s 1) G) la (cnt (oGe s 1) G)∧c.last=msU s c G la++[c.sgnOf]
 last:c.last.length≤n
 shut:qbj G s c.k.shutSaid d.k.shutHeard eo
 m1:qbu (qj eo)=true→amt (qam s) G≤d.rem
 ex:qay (qj eo)=true→∃g∈G,Gi.moved s g=true
def Gi.pk(g:Gi):Bool × Int × Bool:=(g.own,g.h.id,decide (0≤g.so))
def Apt(a b:Bool × Int × Bool):Prop:=¬(a.2.2=true∧b.2.2=true∧a.1=b.1∧a.2.1=b.2.1)
structure Pt where
 s:Bool
 c:Ch
 d:Ch
 eo:List En
 ei:List En
 G:List Gi
 la:List Nat
 nu:List Nat
 lb:List Nat
 nv:List Nat
structure Inv(K:Kon)(n:Nat)(P:Pt):Prop where
 ea:EndI K P.s P.c P.G P.nu
 eb:EndI K (!P.s) P.d P.G P.nv
 ab:Dir n P.s P.c P.d P.eo P.ei P.G P.la
 ba:Dir n (!P.s) P.d P.c P.ei P.eo P.G P.lb
 it:∀g∈P.G,g.it P.s (qj P.eo) (qj P.ei)∈qa1
 ok:∀g∈P.G,GiOk K.ch g
 pw:(P.G.map Gi.pk).Pairwise Apt
 few:P.G.length≤n
def Pt.flip(P:Pt):Pt:=⟨!P.s,P.d,P.c,P.ei,P.eo,P.G,P.lb,P.nv,P.la,P.nu⟩
theorem qy(a s:Bool):a=s∨a = !s:=by cases a<;>cases s<;>simp
theorem qb4{a s:Bool}(h:a = !s):¬a=s:=by subst h;cases s<;>decide
theorem qhr{a s:Bool}(h:a=s):¬a = !s:=by subst h;cases a<;>decide
theorem qdp{g:Gi}{s:Bool}(h:g.own=s)(l i:Nat):g.it s l i=(g.so,g.st,g.up,g.cov,l,i):=by unfold Gi.it;rw[if_pos h,if_pos h]
theorem qdx{g:Gi}{s:Bool}(h:g.own = !s)(l i:Nat):g.it s l i=(g.so,g.st,g.up,g.cov,i,l):=by unfold Gi.it;rw[if_neg (qb4 h),if_neg (qb4 h)]
theorem q4d(g:Gi)(s:Bool)(l i:Nat):g.it (!s) i l=g.it s l i:=by
 rcases qy g.own s with h | h
 ·rw[qdp h,qdx (by rw[h,Bool.not_not])]
 ·rw[qdx h,qdp h]
theorem Inv.flip{K:Kon}{n:Nat}{P:Pt}(h:Inv K n P):Inv K n P.flip :=
 ⟨h.eb,by rw[show (!P.flip.s)=P.s from Bool.not_not _];exact h.ea,h.ba,by rw[show (!P.flip.s)=P.s from Bool.not_not _];exact h.ab,fun g i=>by rw[show g.it P.flip.s (qj P.flip.eo) (qj P.flip.ei)=_ from q4d g P.s (qj P.eo) (qj P.ei)];exact h.it g i,h.ok,h.pw,h.few⟩
section
variable {K:Kon}{n m:Nat}{P:Pt}
theorem Dir.mono{s:Bool}{c d:Ch}{eo ei:List En}{G:List Gi}{la:List Nat}(h:Dir n s c d eo ei G la)(g:n≤m):Dir m s c d eo ei G la :=
 ⟨h.w9,h.xor,h.sig,h.aw,h.rv3,h.rv4,h.upd,h.along,h.ids,h.laS,Nat.le_trans h.last g,h.shut,h.m1,h.ex⟩
theorem Inv.mono(h:Inv K n P)(g:n≤m):Inv K m P:=⟨h.ea,h.eb,h.ab.mono g,h.ba.mono g,h.it,h.ok,h.pw,Nat.le_trans h.few g⟩
end
theorem quu:∀x∈qa1,(-1≤x.1∧x.1≤9)∧(-1≤x.2.1∧x.2.1≤9)∧(x.1 = -1→x.2.1 = -1∧x.2.2.1=0)∧(x.2.1 = -1→x.1 = -1∨x.1=0∨x.1=1)∧x.2.2.1≤2:=by decide +kernel
theorem q2z:∀i g:Fin 5,(qay i.val=true→qbu g.val=false)→(qay g.val=true→qbu i.val=false)→(-1,-1,0,false,i.val,g.val)∈qa1:=by decide +kernel
theorem qg7{es:List En}(h:qj (.sgn::es)≠9):(qj es=0∧qj (.sgn::es)=1)∨(qj es=2∧qj (.sgn::es)=3):=by
 have e:qj (.sgn::es)=if qj es=0 then 1 else if qj es=2 then 3 else 9:=rfl;by_cases g:qj es=0
 ·exact .inl ⟨g,by rw[e,if_pos g]⟩
 ·by_cases i:qj es=2
  ·exact .inr ⟨i,by rw[e,if_neg g,if_pos i]⟩
  ·exact absurd (by rw[e,if_neg g,if_neg i]) h
theorem qg6{es:List En}(h:qj (.rev::es)≠9):(qj es=0∧qj (.rev::es)=2)∨(qj es=1∧qj (.rev::es)=4):=by
 have e:qj (.rev::es)=if qj es=0 then 2 else if qj es=1 then 4 else 9:=rfl;by_cases g:qj es=0
 ·exact .inl ⟨g,by rw[e,if_pos g]⟩
 ·by_cases i:qj es=1
  ·exact .inr ⟨i,by rw[e,if_neg g,if_pos i]⟩
  ·exact absurd (by rw[e,if_neg g,if_neg i]) h
theorem qgy:∀e:List En,qj e≠9→qj e≤4
 | [],_=>by decide
 | .upd _::es,h=>qgy es h
 | .shut::es,h=>qgy es h
 | .sgn::es,h=>by rcases qg7 h with e | e<;>omega
 | .rev::es,h=>by rcases qg6 h with e | e<;>omega
theorem qg5:∀e f:List En,ups (e++f)=ups e++ups f
 | [],_=>rfl
 | .upd j::es,f=>by show j::ups (es++f)=_;rw[qg5 es f];rfl
 | .sgn::es,f=>qg5 es f
 | .rev::es,f=>qg5 es f
 | .shut::es,f=>qg5 es f
theorem qqj:∀e:List En,qj e≠9→En.sgn∈e→qay (qj e)=true
 | [],_,h=>by cases h
 | .upd _::es,g,h=>qqj es g ((List.mem_cons.1 h).resolve_left (by intro e;cases e))
 | .shut::es,g,h=>qqj es g ((List.mem_cons.1 h).resolve_left (by intro e;cases e))
 | .sgn::es,g,_=>by
  rcases qg7 g with ⟨-,e⟩ | ⟨-,e⟩<;>rw[e]<;>rfl
 | .rev::es,g,h=>by
  have l:=(List.mem_cons.1 h).resolve_left (by intro e;cases e);rcases qg6 g with ⟨i,e⟩ | ⟨-,e⟩
  ·have:=qqj es (by omega) l;rw[i] at this;cases this
  ·rw[e];rfl
theorem qnr:∀e:List En,qj e≠9→En.rev∈e→qbu (qj e)=true
 | [],_,h=>by cases h
 | .upd _::es,g,h=>qnr es g ((List.mem_cons.1 h).resolve_left (by intro e;cases e))
 | .shut::es,g,h=>qnr es g ((List.mem_cons.1 h).resolve_left (by intro e;cases e))
 | .rev::es,g,_=>by
  rcases qg6 g with ⟨-,e⟩ | ⟨-,e⟩<;>rw[e]<;>rfl
 | .sgn::es,g,h=>by
  have l:=(List.mem_cons.1 h).resolve_left (by intro e;cases e);rcases qg7 g with ⟨i,e⟩ | ⟨-,e⟩
  ·have:=qnr es (by omega) l;rw[i] at this;cases this
  ·rw[e];rfl
theorem qju{s:Bool}{c:Ch}{G:List Gi}{j:Nat}{g:Gi}(i:G[j]? = some g):enM s c G (.upd j)=qp8 s c.s.ch g:=by
 unfold enM;simp only[i]
theorem q9i{s:Bool}{c:Ch}{G:List Gi}{j:Nat}(g:G[j]? = none):enM s c G (.upd j)=MsgV.zero:=by
 unfold enM;simp only[g]
theorem q37{s:Bool}{c c':Ch}{G G':List Gi}{j:Nat}(t:c'.s=c.s)(h:(G'[j]?).map Gi.key=(G[j]?).map Gi.key):enM s c' G' (.upd j)=enM s c G (.upd j):=by
 cases e:G[j]? with
 | none =>
  rw[e] at h;cases i:G'[j]? with
  | none=>rw[q9i e,q9i i]
  | some g'=>rw[i] at h;cases h
 | some g =>
  rw[e] at h;cases i:G'[j]? with
  | none=>rw[i] at h;cases h
  | some g' =>
   rw[i] at h;injection h with h;have l:g'.own=g.own:=congrArg (·.1) h;have o:g'.h=g.h:=congrArg (·.2.1) h;have q:g'.um=g.um:=congrArg (·.2.2) h;rw[qju e,qju i];unfold qp8;rw[l,o,q,t]
theorem qb7{s:Bool}{c c':Ch}{G G':List Gi}{l:List Nat}(i:c'.s=c.s)(h:∀j∈l,(G'[j]?).map Gi.key=(G[j]?).map Gi.key):msU s c' G' l=msU s c G l :=
 List.map_congr_left fun j g=>q37 i (h j g)
theorem qlw{j:Nat} : ∀e:List En,En.upd j∈e→j∈ups e
 | [],h=>by cases h
 | .upd i::es,h=>by
  rcases List.mem_cons.1 h with e | h
  ·injection e with e;subst e;exact List.mem_cons_self ..
  ·exact List.mem_cons_of_mem _ (qlw es h)
 | .sgn::es,h=>qlw es ((List.mem_cons.1 h).resolve_left (by intro e;cases e))
 | .rev::es,h=>qlw es ((List.mem_cons.1 h).resolve_left (by intro e;cases e))
 | .shut::es,h=>qlw es ((List.mem_cons.1 h).resolve_left (by intro e;cases e))
theorem qdh{s:Bool}{c c':Ch}{G G':List Gi}{e:List En}(i:qj e≠9)(l:c'.s=c.s)(h:∀j∈ups e,(G'[j]?).map Gi.key=(G[j]?).map Gi.key)
  (o:qay (qj e)=true→c'.sgnOf=c.sgnOf) (q:qbu (qj e)=true→c'.revocation=c.revocation):msE s c' G' e=msE s c G e:=by
 refine List.map_congr_left fun x g=> ?_
 cases x with
 | upd j=>exact q37 l (h j (qlw e g))
 | sgn=>exact o (qqj e i g)
 | rev=>exact q (qnr e i g)
 | shut=>show qdl c'.s.ch=qdl c.s.ch;rw[l]
theorem qi9{c c':Ch}(i:c'.s=c.s)(g:c'.k.signed=c.k.signed)(h:zt false c.s.key c.s.ch c.k.signed c'.loc c'.rem c'.xs=zt false c.s.key c.s.ch c.k.signed c.loc c.rem c.xs):c'.sgnOf=c.sgnOf:=by
 unfold Ch.sgnOf;rw[i,g,h]
theorem qi8{c c':Ch}(i:c'.s=c.s)(g:c'.k.heard=c.k.heard):c'.revocation=c.revocation:=by
 unfold Ch.revocation Ch.secret;rw[i,g]
theorem qnh{f:Gi→Gi}(h:∀g,(f g).key=g.key)(G:List Gi)(j:Nat):((G.map f)[j]?).map Gi.key=(G[j]?).map Gi.key:=by
 rw[List.getElem?_map,Option.map_map];cases G[j]? with
 | none=>rfl
 | some g=>exact congrArg some (h g)
theorem qni{G:List Gi}{j:Nat}{g g':Gi}(l:G[j]? = some g){k:Nat}(h:k≠j∨g'.key=g.key):((G.set j g')[k]?).map Gi.key=(G[k]?).map Gi.key:=by
 rw[qf1 l];by_cases i:k=j
 ·rw[if_pos i,i,l];exact congrArg some (h.resolve_left (fun e=>e i))
 ·rw[if_neg i]
theorem qes{G:List Gi}{g:Gi}{k:Nat}(h:k<G.length):((G++[g])[k]?).map Gi.key=(G[k]?).map Gi.key:=by
 rw[List.getElem?_append_left h]
theorem q2u{G:List Gi}{j:Nat}{g g':Gi}(l:G[j]? = some g)(h:g'.pk=g.pk):(G.set j g').map Gi.pk=G.map Gi.pk:=by
 rw[List.map_set,h];apply List.ext_getElem?;intro k;rw[List.getElem?_set];by_cases o:j=k
 ·subst o;have i:=(List.getElem?_eq_some_iff.1 l).1;rw[if_pos rfl,List.length_map,if_pos i,List.getElem?_map,l];rfl
 ·rw[if_neg o]
theorem q2t{G:List Gi}{f:Gi→Gi}(h:∀g∈G,(f g).pk=g.pk):(G.map f).map Gi.pk=G.map Gi.pk:=by
 rw[List.map_map];exact List.map_congr_left h
theorem qbe.snoc{G:List Gi}{j:Nat}{x:En}(l:x = .upd j∨x = .shut)(o:x = .upd j→∀g,G[j]? = some g→g.cov=false∧g.pre=false):∀e:List En,qbe G e→qbe G (e++[x])
 | [],_=>by
  rcases l with rfl | rfl
  ·exact⟨o rfl,trivial⟩
  ·trivial
 | .upd i::es,h=>by
  refine⟨fun g q=> ?_,qbe.snoc l o es h.2⟩;have t:qj (es++[x])=qj es:=by
   rcases l with rfl | rfl
   ·exact qjf es j
   ·exact qs5 es
  show g.cov=qay (qj (es++[x]))∧g.pre=qbu (qj (es++[x]));rw[t];exact h.1 g q
 | .sgn::es,h=>qbe.snoc l o es h
 | .rev::es,h=>qbe.snoc l o es h
 | .shut::es,h=>qbe.snoc l o es h
theorem qbe.congr{G G':List Gi} : ∀ {e:List En},(∀j∈ups e,∀g',G'[j]? = some g'→∃g,G[j]? = some g∧g'.cov=g.cov∧g'.pre=g.pre)→qbe G e→qbe G' e
 | [],_,_=>trivial
 | .upd i::es,l,h=>by
  refine⟨fun g' o=> ?_,qbe.congr (fun j w=>l j (List.mem_cons_of_mem _ w)) h.2⟩;obtain⟨g,v,q,t⟩:=l i (List.mem_cons_self ..) g' o;rw[q,t];exact h.1 g v
 | .sgn::es,l,h=>qbe.congr (e:=es) l h
 | .rev::es,l,h=>qbe.congr (e:=es) l h
 | .shut::es,l,h=>qbe.congr (e:=es) l h
theorem qbj.congr{G G':List Gi}{s said:Bool} : ∀ {e:List En} {h:Bool},(∀j∈ups e,(G'[j]?).map Gi.key=(G[j]?).map Gi.key)→qbj G s said h e→qbj G' s said h e
 | [],_,_,h=>h
 | .upd i::es,_,l,h=>by
  refine⟨fun e g' t=> ?_,qbj.congr (fun j w=>l j (List.mem_cons_of_mem _ w)) h.2⟩;have o:=l i (List.mem_cons_self ..);rw[t] at o;cases q:G[i]? with
  | none=>rw[q] at o;cases o
  | some g =>
   rw[q] at o;injection o with o;have v:g'.own=g.own:=congrArg (·.1) o;rw[v];exact h.1 e g q
 | .sgn::es,_,l,h=>qbj.congr (e:=es) l h
 | .rev::es,_,l,h=>qbj.congr (e:=es) l h
 | .shut::es,_,l,h=>⟨h.1,qbj.congr (e:=es) l h.2⟩
theorem qbj.snoc{G:List Gi}{s said:Bool}{x:En}(q:x ≠ .shut)(o:∀j g,x = .upd j→G[j]? = some g→g.own=s→said=false):∀ {e:List En} {h:Bool},qbj G s said h e→qbj G s said h (e++[x])
 | [],h,l=>by
  cases x with
  | upd j=>exact⟨fun e g t v=>by rw[show said=h from l,e] at o;exact absurd (o j g rfl t v) (by decide),l⟩
  | sgn=>exact l
  | rev=>exact l
  | shut=>exact absurd rfl q
 | .upd i::es,_,l=>⟨l.1,qbj.snoc q o l.2⟩
 | .sgn::es,_,l=>qbj.snoc (e:=es) q o l
 | .rev::es,_,l=>qbj.snoc (e:=es) q o l
 | .shut::es,_,l=>⟨l.1,qbj.snoc (e:=es) q o l.2⟩
theorem qbj.shut{G:List Gi}{s:Bool} : ∀ {e:List En} {h:Bool},qbj G s false h e→qbj G s true h (e++[.shut])
 | [],_,g=>⟨g.symm,rfl⟩
 | .upd i::es,_,g=>⟨g.1,qbj.shut g.2⟩
 | .sgn::es,_,g=>qbj.shut (e:=es) g
 | .rev::es,_,g=>qbj.shut (e:=es) g
 | .shut::es,_,g=>⟨g.1,qbj.shut (e:=es) g.2⟩
end Go.Proofs.YthnohmjbbeahmaaGreatDoor
