/-
  insertionSort: a range of items, sorted.
-/
import Derived.Test.YthnohmjbbeahmaaGreatDoorMaf
set_option linter.unusedVariables false
set_option linter.unusedSimpArgs false
namespace Go.Proofs.YthnohmjbbeahmaaGreatDoor
open Go.RowKit Go.Sort
attribute [local go_sem ↓ high] qg2 qn9
attribute [local go_sem] qqh q4y
theorem q5p(x y:Item)(w:World):Calls Tryz.prog 78 #[.agg (zf x).toArray,.agg (zf y).toArray] w (q3q (.int .i64 (cf x y)) w) :=
 q7e x.offered y.offered x.h.id y.h.id _ _ w (by rw[List.size_toArray,qco]) (by rw[List.size_toArray,qco]) (by rw[List.getElem?_toArray];rfl) (by rw[List.getElem?_toArray];rfl) (by rw[List.getElem?_toArray];rfl) (by rw[List.getElem?_toArray];rfl)
abbrev q5z:Value:= .func (.func 78) #[] #[]
theorem qvn(P:List Item)(x:Item)(R:List Item)(n:Nat)(h:n=P.length):(P++(x::R))[n]! = x:=by
 subst h;rw[List.getElem!_eq_getElem?_getD,List.getElem?_append_right (Nat.le_refl _),Nat.sub_self];rfl
theorem q75(L:List Item)(x y:Item)(R:List Item):zcq (L++(x::(y::R))) (L.length+1) L.length=L++(y::(x::R)):=by
 have g:(L++(x::(y::R)))[L.length]! = x:=qvn L x _ _ rfl;have i:(L++(x::(y::R)))[L.length+1]! = y:=by
  have:=qvn (L++[x]) y R (L.length+1) (by simp);rwa [List.append_assoc] at this
 unfold zcq;rw[g,i];rw[List.set_append_right _ _ (by omega),List.set_append_right _ _ (by omega)];simp
theorem q82{w W i:World}{g l m:Nat}{A B:Array Value}(h:zm W g l 36=some A∧zm W g m 36=some B∧G w W)(k:G W i):zm i g l 36=some A∧zm i g m 36=some B∧G w i :=
 ⟨qxa h.1 k,qxa h.2.1 k,h.2.2.trans k⟩
theorem qdr.g{w w':World}{b off:Nat}{xs:List Item}(h:qdr w b off xs)(k:G w w'):qdr w' b off xs:=h.upd k.new (fun h=>h)
theorem zcv{L:List Item}{x y:Item}{R:List Item}{q:Nat}(g:L.length=q):(L++(y::(x::R)))[q]! = y∧(L++(y::(x::R)))[q+1]! = x∧q+1<(L++(y::(x::R))).length:=by
 refine⟨qvn _ _ _ _ g.symm,?_,by simp;omega⟩;have:=qvn (L++[y]) x R (q+1) (by simp;omega);rwa [List.append_assoc] at this
theorem q0q{w:World}{g off:Nat}{L:List Item}{x y:Item}{R:List Item}{q:Nat}(t:L.length=q)(h:qdr w g off (L++(y::(x::R)))) :
  zm w g (off+(q+1)*36) 36=some (zf x).toArray∧zm w g (off+q*36) 36=some (zf y).toArray:=by
 obtain⟨l,m,o⟩:=zcv (x:=x) (y:=y) (R:=R) t
 constructor
 ·have:=h.row o;rwa [m] at this
 ·have:=h.row (i:=q) (by omega);rwa [l] at this
theorem zi1{w:World}{g off:Nat}{L:List Item}{x y:Item}{R:List Item}{q:Nat}(l:L.length=q)(h:qdr w g off (L++(y::(x::R)))) :
  stOk w g (off+(q+1)*36) 36 (zf y).toArray=true∧stOk (w.setCells g (off+(q+1)*36) (zf y)) g (off+q*36) 36 (zf x).toArray=true ∧
  qdr ((w.setCells g (off+(q+1)*36) (zf y)).setCells g (off+q*36) (zf x)) g off (L++(x::(y::R))):=by
 obtain⟨o,t,i⟩:=zcv (x:=x) (y:=y) (R:=R) l
 refine⟨h.ok i y,(h.set i y).ok (by rw[List.length_set];omega) x,?_⟩
 have:=h.swap i (show q<_ by omega)
 rw[o,t] at this
 have m:=q75 L y x R
 rw[l] at m
 rwa [m] at this
abbrev its(L:List (Item × Nat)):List Item:=L.map Prod.fst
abbrev q0y(L:List (Item × Nat)):Prop:=L.Pairwise (fun p q=>p.2<q.2)
set_option maxHeartbeats 4000000 in
theorem qti(g off cap:Nat)(P S:List Item)(L:List (Item × Nat))(hL:q0y L)(N:Nat)(hN:P.length+(L.length+S.length)=N)(hm:N≤4611686018427387904)(a b:Int)(ha:a=P.length)(hb:b=P.length+L.length)
  (w:World) (h:qdr w g off (P++(its L++S))) :
  Calls Tryz.prog 116 #[.slice (some ⟨g,off,none⟩) N cap,.int .i64 a,.int .i64 b,q5z] w fun e w'=>e = .returned (.tuple #[])∧Upd (· = g) w w'∧∃M,M.Perm L∧Srt M∧qdr w' g off (P++(its M++S)):=by
 have a0:0≤a:=by omega
 have a1:a≤4611686018427387904:=by omega
 have b0:0≤b:=by omega
 have b1:b≤4611686018427387904:=by omega
 have HA:=qb ha
 have HB:=qb hb
 have HN:=qb hN
 have HL:=qb hL
 clear ha hb hN hL
 go_enter Tryz.func116,Tryz.ntmps116
 go_wp2_with fail
 go_loopw [8] (fun iv wr=>∃(M L1 L2:List (Item × Nat)) (n:Int),iv = .int .i64 n∧Hid (n=a+M.length∨(n=a+1∧L=[]∧M=[]))∧Hid (L=L1++L2)∧Hid (M.Perm L1)∧Srt M∧0≤n∧n≤b+1∧Upd (· = g) w wr∧qdr wr g off (P++(its M++(its L2++S)))) (fun iv _=>(b+1-intOf iv).toNat)
 case atStart =>
  cases L with
  | nil=>exact⟨[],[],[],a+1,rfl,qb (.inr ⟨rfl,rfl,rfl⟩),qb rfl,qb (List.Perm.refl _),List.Pairwise.nil,by omega,by have l:=qa HB;have v:=qa HA;rw[List.length_nil] at l;omega,Upd.refl _ _,h⟩
  | cons x L=>exact⟨[x],[x],L,a+1,rfl,qb (.inl rfl),qb rfl,qb (List.Perm.refl _),List.pairwise_singleton _ _,by omega,by have l:=qa HB;have v:=qa HA;rw[List.length_cons] at l;omega,Upd.refl _ _,h⟩
 case round =>
  obtain⟨M,L1,L2,n,rfl,c4,c3,HP,hs,n0,n1,hu,hh⟩:=hrel;have eN:=qa c4;have o:=qa c3;have eP:=(qa HP).length_eq;have eA:=qa HA;have eB:=qa HB;by_cases d3:n<b
  ·obtain⟨x,E,C⟩:∃x E,L2=x::E:=by
    cases L2 with
    | nil =>
     exfalso;rw[List.append_nil] at o;rw[o] at eB;rcases eN with e | ⟨e,e2,_⟩
     ·omega
     ·rw[e2] at o;rw[←o] at eB;simp at eB;omega
    | cons x E=>exact⟨x,E,rfl⟩
   have en:n=a+M.length:=by
    rcases eN with e | ⟨_,e,_⟩
    ·exact e
    ·rw[e,C] at o;simp at o
   have c6:=qb (show Low M [x] from by
    intro p X q hq;rw[List.mem_singleton.1 hq];have hr:=qa HL;rw[o,C] at hr;exact(List.pairwise_append.1 hr).2.2 p ((qa HP).mem_iff.1 X) x List.mem_cons_self)
   have b4:=qb C;have b8:qdr wr g off (P++(its M++(x.1::(its E++S)))):=by rw[C] at hh;simpa using hh
   have Y:=qb en;have a8:=qb o;have c9:=qb eP;have c0:n=P.length+M.length:=by omega
   have b5:=qb c0;have b7:P.length+(M.length+(1+(E.length+S.length)))=N:=by
    have:=qa HN;rw[o,C,List.length_append,List.length_cons] at this;omega
   have b6:=qb b7;have b2:n≤4611686018427387904:=by omega
   clear hh eN o eP eA eB C en c0 b7;obtain⟨wo,rfl⟩:∃wo:World,wo=wr:=⟨_,rfl⟩;go_wp2_with fail
   go_loopw [9] (fun jv wr=>∃(F H:List (Item × Nat)) (j:Int),jv = .int .i64 j∧Hid (j=P.length+F.length)∧Hid (M=F++H)∧(∀q,H.head? = some q→kl x.1 q.1)∧a≤j∧j≤n∧Upd (· = g) w wr∧qdr wr g off (P++(its F++(x.1::(its H++(its E++S)))))) (fun jv _=>(intOf jv).toNat)
   case atStart=>exact⟨M,[],n,rfl,b5,qb (by simp),(fun q hq=>by simp at hq),by have:=qa Y;omega,Int.le_refl _,hu,by simpa using b8⟩
   case round =>
    obtain⟨F,H,j,rfl,HJ,i,hq,ja,jn,a5,t⟩:=hrel;clear b8;have U:(∀p,F.getLast? = some p→¬kl x.1 p.1)→Srt (F++(x::H)):=fun l =>
     q6p (by rw[←qa i];exact hs) (by rw[←qa i];exact qa c6) l hq
    have O:=qb U;have HQ:=qb hq;clear U hq;rcases List.eq_nil_or_concat F with D | ⟨R,y,D⟩
    ·have e1:j=a:=by have l:=qa HJ;have v:=qa HA;rw[D] at l;simp at l;omega
     have e2:decide (a<j)=false:=decide_eq_false (by omega);have I:=qb D;clear D e1;go_wp2_with fail;go_quiet (fail);go_wp2;go_roundw
     case rel =>
      refine⟨F++(x::H),L1++[x],E,n+1,by go_num,qb (.inl ?_),qb ?_,qb ?_,qa O (fun p X=>by rw[qa I] at X;cases X),by omega,by omega,a5.drewN _,?_⟩
      ·have l:=qa Y;have v:=congrArg List.length (qa i);rw[List.length_append] at v;rw[List.length_append,List.length_cons];omega
      ·rw[qa a8,qa b4];simp
      ·have l:=qa HP;rw[qa i] at l;exact(List.perm_middle.trans (List.Perm.cons x l)).trans (List.perm_append_comm (l₁:=[x]))
      ·have:=t.drewN nq;simpa [List.append_assoc] using this
     case measure=>simp[intOf];omega
    ·have m:F=R++[y]:=by rw[D,List.concat_eq_append]
     have b9:j=P.length+R.length+1:=by have l:=qa HJ;rw[m,List.length_append] at l;simp at l;omega
     have d6:a<j:=by have v:=qa HA;omega
     obtain⟨q,rfl⟩:∃q:Nat,j=(q:Int)+1:=⟨P.length+R.length,by omega⟩;have c1:q=P.length+R.length:=by omega
     have d4:(q:Int)+1<(N:Int):=by have l:=qa b6;have v:=congrArg List.length (qa i);rw[List.length_append,m,List.length_append] at v;simp at v;omega
     have J:qdr wr g off ((P++its R)++(y.1::(x.1::(its H++(its E++S))))):=by rw[m] at t;simpa [List.append_assoc] using t
     have c8:((P++its R)++(y.1::(x.1::(its H++(its E++S))))).length=N:=by
      have l:=qa b6;have v:=congrArg List.length (qa i);rw[List.length_append,m,List.length_append] at v;simp at v ⊢;omega
     have K:(P++its R).length=q:=by simp;omega
     obtain⟨r1,r0⟩:=q0q K J.drew;have T:=fun(W:World) (k:G wr W)=>And.intro (q0q K (J.g k).drew) (zi1 K (J.g k).drew)
     have I:=qb m;have a6:=qb T;have Z:=q5p x.1 y.1;have a4:=zh5 x.1 y.1;generalize hc:cf x.1 y.1=c at Z a4;have a7:=qb Z;have b3:=qb a4;have d2:=qb b9;have c5:=qb c1;have c2:=qb t;clear D m T c8 Z a4 hc b9 c1 K t J;have d5:IntKind.i64.wrap (q:Int)=(q:Int):=IntWalk.i64_in _ (by omega);have d7:(q:Int)<(N:Int):=by omega
     have p0:(0:Int)≤(q:Int)+1:=by omega
     have e0:((q:Int)+1).toNat=q+1:=by omega
     generalize zf x.1=cx at *
     generalize zf y.1=cy at *
     by_cases c7:c<0
     ·go_wp2_with fail;go_region_held3 (fun w'=>zm w' g (off+(q+1)*36) 36=some cx.toArray∧zm w' g (off+q*36) 36=some cy.toArray∧G wr w')
       (first | exact⟨r1,r0,(G.refl _).drew⟩ | (refine q82 ?_ (by assumption);first | assumption | exact⟨by assumption,by assumption,by assumption⟩))
       ((go_at_call 78;refine(qa a7 _).mono ?_;rintro e w3 ⟨rfl,g3⟩))
      have hS:= ‹zm _ _ _ _=some _∧zm _ _ _ _=some _∧_›;have gw:=hS.2.2;clear hS;go_wp2_with fail;obtain⟨⟨d1,d0⟩,s1,s2,V⟩:=qa a6 w3 gw;have a9:=qb V;clear V r1 r0 g3;go_region;go_wp2;go_roundw
      case rel =>
       refine⟨R,y::H,q,by go_num,qb (qa c5▸by simp),qb (by rw[qa i,qa I];simp),(fun z hz=> ?_),by omega,by omega,((a5.then (gw.new) (fun _ _ h=>h.elim)).drew.setCells _ _).setCells _ _,?_⟩
       ·simp only[List.head?_cons,Option.some.injEq] at hz;subst hz;exact(qa b3).1 c7
       ·have:=qa a9;simpa [List.append_assoc] using this
      case measure=>simp[intOf]
     ·go_wp2_with fail;go_region_held3 (fun w'=>zm w' g (off+(q+1)*36) 36=some cx.toArray∧zm w' g (off+q*36) 36=some cy.toArray∧G wr w')
       (first | exact⟨r1,r0,(G.refl _).drew⟩ | (refine q82 ?_ (by assumption);first | assumption | exact⟨by assumption,by assumption,by assumption⟩))
       ((go_at_call 78;refine(qa a7 _).mono ?_;rintro e w3 ⟨rfl,g3⟩))
      have hS:= ‹zm _ _ _ _=some _∧zm _ _ _ _=some _∧_›;have gw:=hS.2.2;clear hS;go_wp2;go_roundw
      case rel =>
       refine⟨F++(x::H),L1++[x],E,n+1,by go_num,qb (.inl ?_),qb ?_,qb ?_,qa O (fun p X=> ?_),by omega,by omega,a5.then gw.new (fun _ _ h=>h.elim),?_⟩
       ·have l:=qa Y;have v:=congrArg List.length (qa i);rw[List.length_append] at v;rw[List.length_append,List.length_cons];omega
       ·rw[qa a8,qa b4];simp
       ·have l:=qa HP;rw[qa i] at l;exact(List.perm_middle.trans (List.Perm.cons x l)).trans (List.perm_append_comm (l₁:=[x]))
       ·rw[qa I,List.getLast?_append] at X;simp at X;subst X;exact fun hk=>by have:=(qa b3).2 hk;omega
       ·have:=(qa c2).g gw;simpa [List.append_assoc] using this
      case measure=>simp[intOf];omega
  ·have hM:M.Perm L:=by
    have:L2=[]:=by
     rcases eN with e | ⟨_,e,_⟩
     ·rw[o,List.length_append] at eB;exact List.length_eq_zero_iff.1 (by omega)
     ·rw[e] at o;exact(List.append_eq_nil_iff.1 o.symm).2
    rw[o,this,List.append_nil];exact qa HP
   have t:qdr wr g off (P++(its M++S)):=by
    have:L2=[]:=by
     have:=hM.length_eq;rw[o,List.length_append] at this;exact List.length_eq_zero_iff.1 (by omega)
    rw[this] at hh;exact hh
   have HM:=qb hM;clear hM eN o eP eA eB hh;go_wp2;go_end0;exact⟨rfl,hu,M,qa HM,hs,t⟩
end Go.Proofs.YthnohmjbbeahmaaGreatDoor
