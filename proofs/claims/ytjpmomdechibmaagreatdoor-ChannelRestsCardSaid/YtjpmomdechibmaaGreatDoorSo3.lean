/-
  insertionSort: a range of items, sorted.
-/
import Derived.Test.YtjpmomdechibmaaGreatDoorMag
set_option linter.unusedVariables false
set_option linter.unusedSimpArgs false
namespace Go.Proofs.YtjpmomdechibmaaGreatDoor
open Go.RowKit Go.Sort
attribute [local go_sem ↓ high] qgj qm5
attribute [local go_sem] qpe q3c
theorem q3x(x y:Item)(w:World):Calls Tryz.prog 63 #[.agg (zi x).toArray,.agg (zi y).toArray] w (q18 (.int .i64 (cf x y)) w) :=
 q5d x.offered y.offered x.h.id y.h.id _ _ w (by rw[List.size_toArray,qcg]) (by rw[List.size_toArray,qcg]) (by rw[List.getElem?_toArray];rfl) (by rw[List.getElem?_toArray];rfl) (by rw[List.getElem?_toArray];rfl) (by rw[List.getElem?_toArray];rfl)
abbrev q4b:Value:= .func (.func 63) #[] #[]
theorem quf(P:List Item)(x:Item)(R:List Item)(n:Nat)(h:n=P.length):(P++(x::R))[n]! = x:=by
 subst h
 rw[List.getElem!_eq_getElem?_getD,List.getElem?_append_right (Nat.le_refl _),Nat.sub_self]
 rfl
theorem q56(L:List Item)(x y:Item)(R:List Item):q98 (L++(x::(y::R))) (L.length+1) L.length=L++(y::(x::R)):=by
 have f:(L++(x::(y::R)))[L.length]! = x:=quf L x _ _ rfl
 have g:(L++(x::(y::R)))[L.length+1]! = y:=by
  have:=quf (L++[x]) y R (L.length+1) (by simp)
  rwa [List.append_assoc] at this
 unfold q98
 rw[f,g]
 rw[List.set_append_right _ _ (by omega),List.set_append_right _ _ (by omega)]
 simp
theorem q65{w W f:World}{g i l:Nat}{A B:Array Value}(h:zx W g i 36=some A∧zx W g l 36=some B∧G w W)(k:G W f):zx f g i 36=some A∧zx f g l 36=some B∧G w f :=
 ⟨qvr h.1 k,qvr h.2.1 k,h.2.2.trans k⟩
theorem qdf.g{w w':World}{b off:Nat}{xs:List Item}(h:qdf w b off xs)(k:G w w'):qdf w' b off xs:=h.upd k.new (fun h=>h)
theorem zae{L:List Item}{x y:Item}{R:List Item}{q:Nat}(f:L.length=q):(L++(y::(x::R)))[q]! = y∧(L++(y::(x::R)))[q+1]! = x∧q+1<(L++(y::(x::R))).length:=by
 refine⟨quf _ _ _ _ f.symm,?_,by simp;omega⟩
 have:=quf (L++[y]) x R (q+1) (by simp;omega)
 rwa [List.append_assoc] at this
theorem qy9{w:World}{g off:Nat}{L:List Item}{x y:Item}{R:List Item}{q:Nat}(o:L.length=q)(h:qdf w g off (L++(y::(x::R)))) :
  zx w g (off+(q+1)*36) 36=some (zi x).toArray∧zx w g (off+q*36) 36=some (zi y).toArray:=by
 obtain⟨f,l,m⟩:=zae (x:=x) (y:=y) (R:=R) o
 constructor
 ·have:=h.row m;rwa [l] at this
 ·have:=h.row (i:=q) (by omega);rwa [f] at this
theorem zfz{w:World}{g off:Nat}{L:List Item}{x y:Item}{R:List Item}{q:Nat}(i:L.length=q)(h:qdf w g off (L++(y::(x::R)))) :
  stOk w g (off+(q+1)*36) 36 (zi y).toArray=true∧stOk (w.setCells g (off+(q+1)*36) (zi y)) g (off+q*36) 36 (zi x).toArray=true ∧
  qdf ((w.setCells g (off+(q+1)*36) (zi y)).setCells g (off+q*36) (zi x)) g off (L++(x::(y::R))):=by
 obtain⟨m,o,f⟩:=zae (x:=x) (y:=y) (R:=R) i
 refine⟨h.ok f y,(h.set f y).ok (by rw[List.length_set];omega) x,?_⟩
 have:=h.swap f (show q<_ by omega)
 rw[m,o] at this
 have l:=q56 L y x R
 rw[i] at l
 rwa [l] at this
abbrev its(L:List (Item × Nat)):List Item:=L.map Prod.fst
abbrev qzg(L:List (Item × Nat)):Prop:=L.Pairwise (fun p q=>p.2<q.2)
set_option maxHeartbeats 4000000 in
theorem qr7(g off cap:Nat)(P S:List Item)(L:List (Item × Nat))(hL:qzg L)(N:Nat)(hN:P.length+(L.length+S.length)=N)(hm:N≤4611686018427387904)(a b:Int)(ha:a=P.length)(hb:b=P.length+L.length)
  (w:World) (h:qdf w g off (P++(its L++S))) :
  Calls Tryz.prog 112 #[.slice (some ⟨g,off,none⟩) N cap,.int .i64 a,.int .i64 b,q4b] w fun e w'=>e = .returned (.tuple #[])∧Upd (· = g) w w'∧∃M,M.Perm L∧Srt M∧qdf w' g off (P++(its M++S)):=by
 have a0:0≤a:=by omega
 have a1:a≤4611686018427387904:=by omega
 have b0:0≤b:=by omega
 have b1:b≤4611686018427387904:=by omega
 have HA:=qb ha
 have HB:=qb hb
 have HN:=qb hN
 have HL:=qb hL
 clear ha hb hN hL
 go_enter Tryz.func112,Tryz.ntmps112
 go_wp2_with fail
 go_loopw [8] (fun iv wr=>∃(M L1 Y:List (Item × Nat)) (n:Int),iv = .int .i64 n∧Hid (n=a+M.length∨(n=a+1∧L=[]∧M=[]))∧Hid (L=L1++Y)∧Hid (M.Perm L1)∧Srt M∧0≤n∧n≤b+1∧Upd (· = g) w wr∧qdf wr g off (P++(its M++(its Y++S)))) (fun iv _=>(b+1-intOf iv).toNat)
 case atStart =>
  cases L with
  | nil=>exact⟨[],[],[],a+1,rfl,qb (.inr ⟨rfl,rfl,rfl⟩),qb rfl,qb (List.Perm.refl _),List.Pairwise.nil,by omega,by have i:=qa HB;have t:=qa HA;rw[List.length_nil] at i;omega,Upd.refl _ _,h⟩
  | cons x L=>exact⟨[x],[x],L,a+1,rfl,qb (.inl rfl),qb rfl,qb (List.Perm.refl _),List.pairwise_singleton _ _,by omega,by have i:=qa HB;have t:=qa HA;rw[List.length_cons] at i;omega,Upd.refl _ _,h⟩
 case round =>
  obtain⟨M,L1,Y,n,rfl,c4,c3,HP,hs,n0,n1,hu,hh⟩:=hrel
  have eN:=qa c4
  have m:=qa c3
  have eP:=(qa HP).length_eq
  have eA:=qa HA
  have eB:=qa HB
  by_cases d3:n<b
  ·obtain⟨x,D,v⟩:∃x D,Y=x::D:=by
    cases Y with
    | nil =>
     exfalso
     rw[List.append_nil] at m
     rw[m] at eB
     rcases eN with e | ⟨e,e2,_⟩
     ·omega
     ·rw[e2] at m;rw[←m] at eB;simp at eB;omega
    | cons x D=>exact⟨x,D,rfl⟩
   have en:n=a+M.length:=by
    rcases eN with e | ⟨_,e,_⟩
    ·exact e
    ·rw[e,v] at m;simp at m
   have c6:=qb (show Low M [x] from by
    intro p V q hq
    rw[List.mem_singleton.1 hq]
    have hr:=qa HL
    rw[m,v] at hr
    exact(List.pairwise_append.1 hr).2.2 p ((qa HP).mem_iff.1 V) x List.mem_cons_self)
   have b4:=qb v
   have b8:qdf wr g off (P++(its M++(x.1::(its D++S)))):=by rw[v] at hh;simpa using hh
   have X:=qb en
   have a8:=qb m
   have c9:=qb eP
   have c0:n=P.length+M.length:=by omega
   have b5:=qb c0
   have b7:P.length+(M.length+(1+(D.length+S.length)))=N:=by
    have:=qa HN
    rw[m,v,List.length_append,List.length_cons] at this
    omega
   have b6:=qb b7
   have b2:n≤4611686018427387904:=by omega
   clear hh eN m eP eA eB v en c0 b7
   obtain⟨wo,rfl⟩:∃wo:World,wo=wr:=⟨_,rfl⟩
   go_wp2_with fail
   go_loopw [9] (fun jv wr=>∃(E F:List (Item × Nat)) (j:Int),jv = .int .i64 j∧Hid (j=P.length+E.length)∧Hid (M=E++F)∧(∀q,F.head? = some q→kl x.1 q.1)∧a≤j∧j≤n∧Upd (· = g) w wr∧qdf wr g off (P++(its E++(x.1::(its F++(its D++S)))))) (fun jv _=>(intOf jv).toNat)
   case atStart=>exact⟨M,[],n,rfl,b5,qb (by simp),(fun q hq=>by simp at hq),by have:=qa X;omega,Int.le_refl _,hu,by simpa using b8⟩
   case round =>
    obtain⟨E,F,j,rfl,HJ,f,hq,ja,jn,a5,o⟩:=hrel
    clear b8
    have T:(∀p,E.getLast? = some p→¬kl x.1 p.1)→Srt (E++(x::F)):=fun i =>
     q4t (by rw[←qa f];exact hs) (by rw[←qa f];exact qa c6) i hq
    have K:=qb T
    have HQ:=qb hq
    clear T hq
    rcases List.eq_nil_or_concat E with C | ⟨O,y,C⟩
    ·have e1:j=a:=by have i:=qa HJ;have t:=qa HA;rw[C] at i;simp at i;omega
     have e2:decide (a<j)=false:=decide_eq_false (by omega)
     have H:=qb C
     clear C e1
     go_wp2_with fail
     go_quiet (fail)
     go_wp2
     go_roundw
     case rel =>
      refine⟨E++(x::F),L1++[x],D,n+1,by go_num,qb (.inl ?_),qb ?_,qb ?_,qa K (fun p V=>by rw[qa H] at V;cases V),by omega,by omega,a5.drewN _,?_⟩
      ·have i:=qa X;have t:=congrArg List.length (qa f);rw[List.length_append] at t;rw[List.length_append,List.length_cons];omega
      ·rw[qa a8,qa b4];simp
      ·have i:=qa HP;rw[qa f] at i
       exact(List.perm_middle.trans (List.Perm.cons x i)).trans (List.perm_append_comm (l₁:=[x]))
      ·have:=o.drewN nq;simpa [List.append_assoc] using this
     case measure=>simp[intOf];omega
    ·have l:E=O++[y]:=by rw[C,List.concat_eq_append]
     have b9:j=P.length+O.length+1:=by have i:=qa HJ;rw[l,List.length_append] at i;simp at i;omega
     have d6:a<j:=by have t:=qa HA;omega
     obtain⟨q,rfl⟩:∃q:Nat,j=(q:Int)+1:=⟨P.length+O.length,by omega⟩
     have c1:q=P.length+O.length:=by omega
     have d4:(q:Int)+1<(N:Int):=by have i:=qa b6;have t:=congrArg List.length (qa f);rw[List.length_append,l,List.length_append] at t;simp at t;omega
     have I:qdf wr g off ((P++its O)++(y.1::(x.1::(its F++(its D++S))))):=by rw[l] at o;simpa [List.append_assoc] using o
     have c8:((P++its O)++(y.1::(x.1::(its F++(its D++S))))).length=N:=by
      have i:=qa b6;have t:=congrArg List.length (qa f)
      rw[List.length_append,l,List.length_append] at t
      simp at t ⊢
      omega
     have J:(P++its O).length=q:=by simp;omega
     obtain⟨r1,r0⟩:=qy9 J I.drew
     have R:=fun(W:World) (k:G wr W)=>And.intro (qy9 J (I.g k).drew) (zfz J (I.g k).drew)
     have H:=qb l
     have a6:=qb R
     have Z:=q3x x.1 y.1
     have a4:=zfh x.1 y.1
     generalize hc:cf x.1 y.1=c at Z a4
     have a7:=qb Z
     have b3:=qb a4
     have d2:=qb b9
     have c5:=qb c1
     have c2:=qb o
     clear C l R c8 Z a4 hc b9 c1 J o I
     have d5:IntKind.i64.wrap (q:Int)=(q:Int):=IntWalk.i64_in _ (by omega)
     have d7:(q:Int)<(N:Int):=by omega
     have p0:(0:Int)≤(q:Int)+1:=by omega
     have e0:((q:Int)+1).toNat=q+1:=by omega
     generalize zi x.1=cx at *
     generalize zi y.1=cy at *
     by_cases c7:c<0
     ·go_wp2_with fail
      go_region_held3 (fun w'=>zx w' g (off+(q+1)*36) 36=some cx.toArray∧zx w' g (off+q*36) 36=some cy.toArray∧G wr w')
       (first | exact⟨r1,r0,(G.refl _).drew⟩ | (refine q65 ?_ (by assumption);first | assumption | exact⟨by assumption,by assumption,by assumption⟩))
       ((go_at_call 63;refine(qa a7 _).mono ?_;rintro e w3 ⟨rfl,g3⟩))
      have hS:= ‹zx _ _ _ _=some _∧zx _ _ _ _=some _∧_›
      have gw:=hS.2.2
      clear hS
      go_wp2_with fail
      obtain⟨⟨d1,d0⟩,s1,s2,U⟩:=qa a6 w3 gw
      have a9:=qb U
      clear U r1 r0 g3
      go_region
      go_wp2
      go_roundw
      case rel =>
       refine⟨O,y::F,q,by go_num,qb (qa c5▸by simp),qb (by rw[qa f,qa H];simp),(fun z hz=> ?_),by omega,by omega,((a5.then (gw.new) (fun _ _ h=>h.elim)).drew.setCells _ _).setCells _ _,?_⟩
       ·simp only[List.head?_cons,Option.some.injEq] at hz;subst hz;exact(qa b3).1 c7
       ·have:=qa a9;simpa [List.append_assoc] using this
      case measure=>simp[intOf]
     ·go_wp2_with fail
      go_region_held3 (fun w'=>zx w' g (off+(q+1)*36) 36=some cx.toArray∧zx w' g (off+q*36) 36=some cy.toArray∧G wr w')
       (first | exact⟨r1,r0,(G.refl _).drew⟩ | (refine q65 ?_ (by assumption);first | assumption | exact⟨by assumption,by assumption,by assumption⟩))
       ((go_at_call 63;refine(qa a7 _).mono ?_;rintro e w3 ⟨rfl,g3⟩))
      have hS:= ‹zx _ _ _ _=some _∧zx _ _ _ _=some _∧_›
      have gw:=hS.2.2
      clear hS
      go_wp2
      go_roundw
      case rel =>
       refine⟨E++(x::F),L1++[x],D,n+1,by go_num,qb (.inl ?_),qb ?_,qb ?_,qa K (fun p V=> ?_),by omega,by omega,a5.then gw.new (fun _ _ h=>h.elim),?_⟩
       ·have i:=qa X;have t:=congrArg List.length (qa f);rw[List.length_append] at t;rw[List.length_append,List.length_cons];omega
       ·rw[qa a8,qa b4];simp
       ·have i:=qa HP;rw[qa f] at i
        exact(List.perm_middle.trans (List.Perm.cons x i)).trans (List.perm_append_comm (l₁:=[x]))
       ·rw[qa H,List.getLast?_append] at V
        simp at V
        subst V
        exact fun hk=>by have:=(qa b3).2 hk;omega
       ·have:=(qa c2).g gw;simpa [List.append_assoc] using this
      case measure=>simp[intOf];omega
  ·have hM:M.Perm L:=by
    have:Y=[]:=by
     rcases eN with e | ⟨_,e,_⟩
     ·rw[m,List.length_append] at eB
      exact List.length_eq_zero_iff.1 (by omega)
     ·rw[e] at m
      exact(List.append_eq_nil_iff.1 m.symm).2
    rw[m,this,List.append_nil]
    exact qa HP
   have o:qdf wr g off (P++(its M++S)):=by
    have:Y=[]:=by
     have:=hM.length_eq
     rw[m,List.length_append] at this
     exact List.length_eq_zero_iff.1 (by omega)
    rw[this] at hh
    exact hh
   have HM:=qb hM
   clear hM eN m eP eA eB hh
   go_wp2
   go_end0
   exact⟨rfl,hu,M,qa HM,hs,o⟩
end Go.Proofs.YtjpmomdechibmaaGreatDoor
