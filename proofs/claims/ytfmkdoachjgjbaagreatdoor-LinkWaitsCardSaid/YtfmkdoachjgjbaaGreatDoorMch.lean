/-
  A link that waits ticks.
-/
import Derived.Test.YtfmkdoachjgjbaaGreatDoorMcg
import Derived.Test.YtfmkdoachjgjbaaGreatDoorMcc
import Derived.Test.YtfmkdoachjgjbaaGreatDoorLw2
import Derived.Test.YtfmkdoachjgjbaaGreatDoorMbj
import Derived.Test.YtfmkdoachjgjbaaGreatDoorMcd
import Derived.Test.YtfmkdoachjgjbaaGreatDoorMba
import Derived.Deep.AppendLies
import Derived.Test.YtfmkdoachjgjbaaGreatDoorTxt
import Derived.Test.YtfmkdoachjgjbaaGreatDoorMae
import Derived.Deep.Onto
set_option maxRecDepth 100000
set_option maxHeartbeats 4000000
set_option linter.unusedVariables false
set_option linter.unusedSimpArgs false
namespace Go.Proofs.YtfmkdoachjgjbaaGreatDoor
section
open Go.RowKit
theorem qyl(g:Nat)(S:Nat→Prop)(l:Lk)(n:Nat)(w:World)(h:LkS w g S l)(f:l.dead=false)(i:l.waits=true)(v:l.ticks=n)(q:n<1000000) :
  Calls Tryz.prog 28 #[.pointer (some ⟨g,0,none⟩)] w fun e w'=>e = .returned (.int .i64 0)∧LkS w' g S {l with ticks:=(n:Int)+1} ∧ Upd S w w':=by
 obtain⟨sp,en,lo,z,C,h⟩:=h
 have F:w.cell? ⟨g,6,none⟩=some (.bool false):=f▸qg h.at_ 6
 have E:w.cell? ⟨g,5,none⟩=some (.int .i64 (n:Int)):=by rw[←v];exact qg h.at_ 5
 have J:=qo h.at_ 5
 have u:Upd (· = g) w (w.setCell ⟨g,5,none⟩ (.int .i64 ((n:Int)+1))):=(Upd.refl _ _).set1 _ _
 have m:=h.put_ticks ((n:Int)+1)
 have H:(w.setCell ⟨g,5,none⟩ (.int .i64 ((n:Int)+1))).cell? ⟨g,5,none⟩=some (.int .i64 ((n:Int)+1)):=qg m.at_ 5
 have I:(w.setCell ⟨g,5,none⟩ (.int .i64 ((n:Int)+1))).cell? ⟨g,8,none⟩=some (.bool true):=i▸qg m.at_ 8
 have p:=qb (And.intro m (u.mono (T:=S) (fun k _ e=>by rw[e];exact h.inG)))
 have K:(n:Int)<1000000:=by omega
 clear h m u v q f i
 go_enter Tryz.func28,Tryz.ntmps28
 go_upto_region 4 with fail
 generalize w.setCell ⟨g,5,none⟩ (.int .i64 ((n:Int)+1))=w1 at H I p ⊢
 clear F E J
 go_wp2_with fail
 go_ret
 exact⟨rfl,⟨sp,en,lo,z,C,(qa p).1⟩,(qa p).2⟩
theorem qki(g B:Nat)(S:Nat→Prop)(l:Lk)(sp en lo:Nat)(m p:Nat→Prop)(F:FuncId)(q f:Array Value)(xs:List ByteArray)(w:World)(h:LkP w g S l sp en lo m p)(i:l.dead=false∧l.waits=true) :
  Calls Tryz.prog 45 #[.pointer (some ⟨g,0,none⟩),.func (.func F) q f,.slice (some ⟨B,0,none⟩) xs.length xs.length] w fun e w'=>e = .returned (.tuple #[.agg MsgV.zero.cells.toArray,.int .i64 5])∧LkE w' g (Fr S w w') sp en lo l∧Upd S w w':=by
 refine(qtg g S l sp en lo m p F q f _ _ _ w h i.1 i.2).mono ?_
 rintro e w' ⟨rfl,n⟩
 have z:=n.size
 have v:=h.lt
 exact⟨rfl,⟨m,p,(h.new n).wider (fun k i=> .inl i) (fun k i=>i.elim (fun e=>by have:=v k e;omega) (fun e=>e.2))⟩,n.mono (fun _ _ h=>h.elim)⟩
attribute [local go_sem ↓ high] qy qz zb zf qae
attribute [local go_sem] qas qat qax qv zx qck
theorem qpw(g:Nat)(S:Nat→Prop)(l:Lk)(w:World)(h:LkS w g S l)(hk:l.dead=false∧l.waits=true) :
  Calls Tryz.prog 27 #[.pointer (some ⟨g,0,none⟩)] w fun e w'=>e = .returned (.int .i64 5)∧LkS w' g (Fr S w w') l∧Upd S w w':=by
 have g8:∀(fn:Fn) (first cap:Array Value) (w:World),(Instr.makeFunc fn first cap).run Tryz.prog w = .ok (.func fn first cap) w:=fun _ _ _ _=>rfl
 have v:=h.lt
 obtain⟨sp,en,lo,SC,SJ,h⟩:=h
 have c1:w.drew.cell? ⟨g,1,none⟩=some (.pointer (some ⟨en,0,none⟩)):=qg h.at_ 1
 have m:∀X,qu w X→X.cell? ⟨g,1,none⟩=some (.pointer (some ⟨en,0,none⟩)):=fun X n=>n.cell (qg h.at_ 1) (fun h=>h)
 have g9:qu w w.drew:=(Upd.refl _ _).drew
 have HL:=qb h
 have HK:=qb hk
 obtain⟨er,a7⟩:∃er:Int,er=5:=⟨_,rfl⟩
 have I:=qb a7
 rw[←a7]
 obtain⟨V,a6⟩:∃V,V=MsgV.zero:=⟨_,rfl⟩
 have q:V.hash.length=32:=by rw[a6];exact ql
 have L:=qb a6
 obtain⟨LL,Z⟩:∃LL,LL=l:=⟨_,rfl⟩
 have J:=qb Z
 rw[←Z]
 have f1:∀X S',LkE X g S' sp en lo LL→Upd S w X→X.cell? ⟨g,1,none⟩=some (.pointer (some ⟨en,0,none⟩)):=fun X S' h _=>h.end_
 clear a6 Z a7 hk h
 go_enter Tryz.func27,Tryz.ntmps27
 go_upto_region 1 with fail
 go_cut [3,4] from 5 to 16 (fun kv ev wx=>∃K,kv = .pointer (some ⟨K,0,none⟩)∧ev = .int .i64 er∧MsB wx K V∧LkE wx g (Fr S w wx) sp en lo LL∧Upd S w wx∧w.heap.size≤K)
 case first =>
  refine qaw (fun w'=>w'.cell? ⟨g,1,none⟩=some (.pointer (some ⟨en,0,none⟩))) [4] (.fork (.of [12,0,1,2,3,4,5,6,7,8,9,10,11,13,14]) (Plan.pre [0,1,2,3,4,5,6] (.fork (.of [12,7,8,9,10,11,13,14]) (Plan.pre [7] (.fork (.of [12,8,9,10,11,13,14]) (.of [8,9,10,11,12,13,14])))))) (by kernel_rfl) (by kernel_rfl) c1 ?_;simp only[Plan.of,Plan.pre];refine qf ?_ ?_
  ·skip
   try go_wp2_with ((with_reducible first|rfl|refine' ut ?_ ?_;rotate_left|refine' uu ?_)<;>intros)
   have m1:qu w (w.alloc (.cells MsgV.zero.cells.toArray 101)).drew:=((Upd.refl _ _).alloc _).drew;have b1:MsB (w.alloc (.cells MsgV.zero.cells.toArray 101)).drew w.heap.size MsgV.zero:=(qan w MsgV.zero ql).new (Upd.drew (Upd.refl (fun _=>False) _));obtain⟨K1,e1⟩:∃K,K=w.heap.size:=⟨_,rfl⟩;have n1:qu w (w.alloc (.cells MsgV.zero.cells.toArray 101)).drew:=m1
   first | refine⟨m _ n1,?_⟩ | skip
   have y1:=b1.lt;generalize (w.alloc (.cells MsgV.zero.cells.toArray 101)).drew=f6 at m1 b1 n1 y1 ⊢;have q1:=m _ n1;rw[←e1] at b1 y1 ⊢;have E1:=qb e1;have g1:w.heap.size≤K1:=by rw[e1];exact Nat.le_refl _
   clear e1
   try go_wp2_with ((with_reducible first|rfl|refine' ut ?_ ?_;rotate_left|refine' uu ?_)<;>intros)
   refine(qbi 5 1 f6 (by decide) (by decide) (by decide)).mono ?_;rintro e e4 ⟨rfl,m2⟩;have n2:qu w e4:=n1.trans m2;have b2:=b1.new m2;have q2:=m _ n2;go_wp2_with (first | ((with_reducible first|rfl|refine' ut ?_ ?_;rotate_left|refine' uu ?_)<;>intros) | refine⟨m _ n2,?_⟩);obtain⟨B3,f8,i3,e3,m3,r3,z3⟩:=qcq e4 #[.string (zc 5 1)];have n3:=n2.trans m3;have y3:=n2.size;have b3:=b2.new m3;have a3:=b2.lt;rw[i3,e3]
   first | refine⟨m _ n3,?_⟩ | skip
   clear m3 i3;have q3:=m _ n3
   try go_wp2_with ((with_reducible first|rfl|refine' ut ?_ ?_;rotate_left|refine' uu ?_)<;>intros)
   have f:=qki g B3 S l sp en lo SC SJ 74 #[.pointer (some ⟨en,0,none⟩)] #[] [zc 5 1] f8 ((qa HL).new n3) (qa HK);rw[←qa L,←qa J,←qa I] at f;refine f.mono ?_;rintro e c6 ⟨rfl,l4,v4⟩;have u4:Upd S w c6:=(n3.mono (fun _ _ h=>h.elim)).trans v4;have x4:=n3.size;have y4:=v4.size;have b4:=b3.upd v4 (fun e=>by have:=v _ e;omega);clear f v4;have b5:=b4.stOk q;have c5:=b4.put q;have x5:Upd (· = K1) c6 _:=qx (w:=c6) (b:=K1) V.cells;have H:=qb (And.intro c5 (And.intro x5 (And.intro l4 u4)));have h5:=x5.size;clear c5 x5
   try go_wp2_with ((with_reducible first|rfl|refine' ut ?_ ?_;rotate_left|refine' uu ?_)<;>intros)
   go_meet
   case rel =>
    obtain⟨c,x,l,u⟩:=qa H;have E:=qa E1;exact⟨K1,rfl,rfl,c,qbu l x v (by omega) (by omega) (by omega),u.then x (fun i hi e=>by omega),by omega⟩
  ·skip
   try go_wp2_with ((with_reducible first|rfl|refine' ut ?_ ?_;rotate_left|refine' uu ?_)<;>intros)
   refine(qbi 5 1 w.drew (by decide) (by decide) (by decide)).mono ?_;rintro e c4 ⟨rfl,m6⟩;replace m6:=m6.ofDrew;have n6:qu w c4:=m6;have q6:=m _ n6;go_wp2_with (first | ((with_reducible first|rfl|refine' ut ?_ ?_;rotate_left|refine' uu ?_)<;>intros) | refine⟨m _ n6,?_⟩);refine qf ?_ ?_
   ·skip
    try go_wp2_with ((with_reducible first|rfl|refine' ut ?_ ?_;rotate_left|refine' uu ?_)<;>intros)
    obtain⟨K7,f7,i7,e7,m7,b7⟩:=qdn c4;rw[i7,e7];have n7:=n6.trans m7
    first | refine⟨m _ n7,?_⟩ | skip
    have y7:=b7.lt;have q7:=m _ n7;have E7:=qb e7.symm;have g7:w.heap.size≤K7:=by rw[←e7];exact n6.size
    clear e7 i7
    try go_wp2_with ((with_reducible first|rfl|refine' ut ?_ ?_;rotate_left|refine' uu ?_)<;>intros)
    obtain⟨B8,f9,i8,e8,m8,r8,z8⟩:=qcq f7 #[.string (zc 5 1)];have n8:=n7.trans m8;have y8:=n7.size;have b8:=b7.new m8;have a8:=b7.lt;rw[i8,e8]
    first | refine⟨m _ n8,?_⟩ | skip
    clear m8 i8;have q8:=m _ n8
    try go_wp2_with ((with_reducible first|rfl|refine' ut ?_ ?_;rotate_left|refine' uu ?_)<;>intros)
    have f:=qki g B8 S l sp en lo SC SJ 74 #[.pointer (some ⟨en,0,none⟩)] #[] [zc 5 1] f9 ((qa HL).new n8) (qa HK);rw[←qa L,←qa J,←qa I] at f;refine f.mono ?_;rintro e c7 ⟨rfl,l9,v9⟩;have u9:Upd S w c7:=(n8.mono (fun _ _ h=>h.elim)).trans v9;have x9:=n8.size;have y9:=v9.size;have b9:=b8.upd v9 (fun e=>by have:=v _ e;omega);clear f v9;have b5:=b9.stOk q;have d4:=b9.put q;have c8:Upd (· = K7) c7 _:=qx (w:=c7) (b:=K7) V.cells;have H:=qb (And.intro d4 (And.intro c8 (And.intro l9 u9)));have g2:=c8.size;clear d4 c8
    try go_wp2_with ((with_reducible first|rfl|refine' ut ?_ ?_;rotate_left|refine' uu ?_)<;>intros)
    go_meet
    case rel =>
     obtain⟨c,x,l,u⟩:=qa H;have E:=qa E7;exact⟨K7,rfl,rfl,c,qbu l x v (by omega) (by omega) (by omega),u.then x (fun i hi e=>by omega),by omega⟩
   ·skip
    try go_wp2_with ((with_reducible first|rfl|refine' ut ?_ ?_;rotate_left|refine' uu ?_)<;>intros)
    obtain⟨d1,Y,d7,f0,d9,f4,g0⟩:=qcq c4 #[.string (zc 5 1)];have z:=n6.trans d9;have h6:=n6.size;rw[d7,f0]
    first | refine⟨m _ z,?_⟩ | skip
    clear d9 d7;have h0:=m _ z;refine qf ?_ ?_
    ·skip
     try go_wp2_with ((with_reducible first|rfl|refine' ut ?_ ?_;rotate_left|refine' uu ?_)<;>intros)
     obtain⟨M,e2,d8,P,c0,d2⟩:=qdn Y;rw[d8,P];have C:=z.trans c0
     first | refine⟨m _ C,?_⟩ | skip
     have h7:=d2.lt;have h1:=m _ C;have h2:=c0.old f4 (fun h=>h);have i0:=Nat.lt_of_lt_of_le g0 c0.size;have e6:=qb P.symm;have g5:w.heap.size≤M:=by rw[←P];exact z.size
     clear P d8
     try go_wp2_with ((with_reducible first|rfl|refine' ut ?_ ?_;rotate_left|refine' uu ?_)<;>intros)
     have f:=qki g d1 S l sp en lo SC SJ 74 #[.pointer (some ⟨en,0,none⟩)] #[] [zc 5 1] e2 ((qa HL).new C) (qa HK);rw[←qa L,←qa J,←qa I] at f;refine f.mono ?_;rintro e F ⟨rfl,f2,U⟩;have f5:Upd S w F:=(C.mono (fun _ _ h=>h.elim)).trans U;have h3:=C.size;have h8:=U.size;have d3:=d2.upd U (fun e=>by have:=v _ e;omega);clear f U;have b5:=d3.stOk q;have d5:=d3.put q;have c9:Upd (· = M) F _:=qx (w:=F) (b:=M) V.cells;have H:=qb (And.intro d5 (And.intro c9 (And.intro f2 f5)));have g3:=c9.size;clear d5 c9
     try go_wp2_with ((with_reducible first|rfl|refine' ut ?_ ?_;rotate_left|refine' uu ?_)<;>intros)
     go_meet
     case rel =>
      obtain⟨c,x,l,u⟩:=qa H;have E:=qa e6;exact⟨M,rfl,rfl,c,qbu l x v (by omega) (by omega) (by omega),u.then x (fun i hi e=>by omega),by omega⟩
    ·skip
     try go_wp2_with ((with_reducible first|rfl|refine' ut ?_ ?_;rotate_left|refine' uu ?_)<;>intros)
     have f:=qki g d1 S l sp en lo SC SJ 74 #[.pointer (some ⟨en,0,none⟩)] #[] [zc 5 1] Y ((qa HL).new z) (qa HK);rw[←qa L,←qa J,←qa I] at f;refine f.mono ?_;rintro e p ⟨rfl,f3,c3⟩;have e0:Upd S w p:=(z.mono (fun _ _ h=>h.elim)).trans c3;have h4:=z.size;have h9:=c3.size;clear f c3
     try go_wp2_with ((with_reducible first|rfl|refine' ut ?_ ?_;rotate_left|refine' uu ?_)<;>intros)
     have T:qu p (p.alloc (.cells MsgV.zero.cells.toArray 101)):=((Upd.refl _ _).alloc _);have O:MsB (p.alloc (.cells MsgV.zero.cells.toArray 101)) p.heap.size MsgV.zero:=qan p MsgV.zero ql;obtain⟨N,R⟩:∃K,K=p.heap.size:=⟨_,rfl⟩;have b6:=f3.new T;have c2:=e0.trans (T.mono (fun _ _ h=>h.elim));have e5:=T.size;generalize (p.alloc (.cells MsgV.zero.cells.toArray 101))=W at T O b6 c2 e5 ⊢
     first | refine⟨f1 _ _ b6 c2,?_⟩ | skip
     rw[←R] at O e5 ⊢;have e9:=qb R;have g6:w.heap.size≤N:=by rw[R];exact e0.size
     clear R;have b5:=O.stOk q;have d6:=O.put q;have d0:Upd (· = N) W _:=qx (w:=W) (b:=N) V.cells;have H:=qb (And.intro d6 (And.intro d0 (And.intro b6 c2)));have g4:=d0.size;clear d6 d0
     try go_wp2_with ((with_reducible first|rfl|refine' ut ?_ ?_;rotate_left|refine' uu ?_)<;>intros)
     go_meet
     case rel =>
      obtain⟨c,x,l,u⟩:=qa H;have E:=qa e9;exact⟨N,rfl,rfl,c,qi2 l x v (by omega) (by omega) (by omega),u.then x (fun i hi e=>by omega),by omega⟩
 case rest =>
  obtain⟨K,rfl,rfl,hM,hl,u,hK⟩:=hcut;obtain⟨w3,rfl⟩:∃w3:World,w3=wc:=⟨_,rfl⟩;have H:=qb (And.intro hl u);clear hl u;go_wp2_with ((with_reducible first|rfl|refine' ut ?_ ?_;rotate_left|refine' uu ?_)<;>intros);go_ret;exact⟨rfl,(qa H).1.s,(qa H).2⟩
end
section
open Go.RowKit
attribute [local go_sem ↓ high] qy qz zb zf zl qaa qad
attribute [local go_sem] qas qat qax zx qn1 qbf qci qcj qv
def qgs(id:Int)(p:List Int):MsgV:=⟨4,0,id,0,p,0,0⟩
def Ch.fulfill(c:Ch)(id:Int)(p:List Int):Ch × MsgV × Int:=match qdc false id c.xs with
 | none=>(c,MsgV.zero,3)
 | some q=>if qfc p q.2.h.hash.toList=true then ((c.removed q.1 q.2 true).say (qgs id p),(qgs id p).on c.s.ch,0) else (c,MsgV.zero,132)
theorem q5w{c:Ch}{id:Int}{p:List Int}(h:qdc false id c.xs=none):c.fulfill id p=(c,MsgV.zero,3):=by unfold Ch.fulfill;rw[h]
theorem qt4{c:Ch}{id:Int}{p:List Int}{i:Nat}{x:Live}(h:qdc false id c.xs=some (i,x)):c.fulfill id p=if qfc p x.h.hash.toList=true then ((c.removed i x true).say (qgs id p),(qgs id p).on c.s.ch,0) else (c,MsgV.zero,132):=by unfold Ch.fulfill;rw[h]
theorem qt5(g:Nat)(S:Nat→Prop)(c:Ch)(id:Int)(pre:List Int)(v:pre.length=32)(w:World)(h:ChS w g S c)(hT:Tb w)(b5:c.news.length<1000000) :
  Calls Tryz.prog 55 #[.pointer (some ⟨g,0,none⟩),.int .u64 id,.agg (qs pre).toArray] w fun e w' =>
   e = .returned (.tuple #[.agg (c.fulfill id pre).2.1.cells.toArray,.int .i64 (c.fulfill id pre).2.2])∧ChS w' g (Fr S w w') (c.fulfill id pre).1∧Upd S w w':=by
 obtain⟨R,nv,av,h⟩:=h
 go_enter Tryz.func55,Tryz.ntmps55
 go_upto_region 1 with fail
 have hD:=(qb4 w pre v).new ((Upd.refl _ _).alloc (.cells MsgV.zero.cells.toArray 101))
 have O:=qan (w.alloc (.cells (qs pre).toArray 35)) MsgV.zero ql
 rw[World.size_alloc] at O
 have U:qu w ((w.alloc (.cells (qs pre).toArray 35)).alloc (.cells MsgV.zero.cells.toArray 101)):=((Upd.refl _ _).alloc _).alloc _
 generalize (w.alloc (.cells (qs pre).toArray 35)).alloc (.cells MsgV.zero.cells.toArray 101)=w1 at hD O U ⊢
 obtain⟨D,b4⟩:∃D,D=w.heap.size:=⟨_,rfl⟩
 obtain⟨B,b3⟩:∃B,B=w.heap.size+1:=⟨_,rfl⟩
 rw[←b3] at O ⊢
 rw[←b4] at hD ⊢
 have c4:w.heap.size≤B:=by omega
 have c5:w.heap.size≤D:=by omega
 have c7:g≠B:=by have:=h.lt g h.inG;omega
 have C:¬S B:=fun e=>by have:=h.lt B e;omega
 have c0:¬S D:=fun e=>by have:=h.lt D e;omega
 clear b3 b4
 have h1:=h.new U
 have J:=hT.new U
 have hb:=qkk g S c false id w1 ⟨R,nv,av,h1⟩
 have bad:∀(W:World),qu w1 W →
   stOk W B 0 38 MsgV.zero.cells.toArray=true∧MsB (W.setCells B 0 MsgV.zero.cells) B MsgV.zero∧ChS (W.setCells B 0 MsgV.zero.cells) g (Fr S w (W.setCells B 0 MsgV.zero.cells)) c∧Upd S w (W.setCells B 0 MsgV.zero.cells):=by
  intro W nW
  have hb:=O.new nW
  have u:=qx (w:=W) (b:=B) MsgV.zero.cells
  exact⟨hb.stOk ql,hb.put ql,ChS.frW (w1:=w) ⟨R,nv,av,((h1.new nW).upd u (fun k L e=>by rw[e] at L;exact C L))⟩,((U.trans nW).mono (T:=S) (fun _ _ h=>h.elim)).then u (fun i K e=>by omega)⟩
 have E:=qb bad
 have HB:=qb O
 have HD:=qb hD
 have HI:=qb h.inL
 have H1:=qb h1
 have c3:=qb h.lt
 have N1:=qb U
 have b9:=qb h.ok
 have c6:(c.xs.length:Int)≤1000000:=by have:=h.ok.few;omega
 clear h h1 O U bad hD hT
 go_wp2_with fail
 refine hb.mono ?_
 rintro e w2 ⟨rfl,N⟩
 clear hb
 cases P:qdc false id c.xs with
 | none =>
  have K:=qhr P;obtain⟨M,f,F,hU⟩:=qa E w2 N;have Y:=qb (q5w (p:=pre) P);have Z:=qb f;have X:=qb F;have HU:=qb hU;rw[K];clear f F hU N P K J;go_wp2_with ((with_reducible first|rfl|refine' ut ?_ ?_;rotate_left|refine' uu ?_)<;>intros);have f:=qa Z;refine bodyPost_ret (qw rfl _ _ B _ _ _ _ rfl f.at_ Tryz.underlying101 rfl (by rw[f.agg];exact Tryz.infoMsg)) rfl ?_;rw[qa Y];exact⟨rfl,qa X,qa HU⟩
 | some pr =>
  obtain⟨i,x⟩:=pr;obtain⟨K,q,-⟩:=qhs P;have h2:=(qa H1).new N;rw[K];have c9:=(List.getElem?_eq_some_iff.1 q).1;obtain⟨gl,cap,c1,rh⟩:=h2.hash q;have a8:w2.cell? ⟨g,47,none⟩=some R:=h2.toR.live;rw[c1] at a8;have c8:(i:Int)<(c.xs.length:Int):=by omega
  have b6:=((qa b9).xs x (List.mem_of_getElem? q)).h.hash;have a6:=qb (fun W (nW:qu w2 W)=>qqx pre x.h.hash.toList v (by simp) b6 W ((J.new N).new nW).tabs);have a7:=qb (fun W (hW:ChP W g S c R nv av)=>qh5 g S c R nv av i x true W hW q);have Y:=qb (qt4 (p:=pre) P);have RA:=qb (((qa HD).new N).row);have RH:=qb rh;have N2:=qb N;have H2:=qb h2;clear N P K q h2 rh b6 J;go_upto_region 4 with ((with_reducible first|rfl|refine' ut ?_ ?_;rotate_left|refine' uu ?_)<;>intros);have rA:=qa RA;have rh:=qa RH;clear RA RH;go_wp2_with ((with_reducible first|rfl|refine' ut ?_ ?_;rotate_left|refine' uu ?_)<;>intros);refine(qa a6 _ ((Upd.refl _ _).drew)).mono ?_;rintro e w3 ⟨rfl,n3⟩;have h3:=((qa H2).new ((Upd.refl (fun _=>False) w2).drew)).new n3;have b7:qu w2 w3:=n3.ofDrew;have z:=qa a7 w3 h3;have N3:=qb ((qa N2).trans b7);clear a8 rA rh h3 n3 b7 a6 a7;cases hO:qfc pre x.h.hash.toList with
  | false =>
   obtain⟨M,f,F,hU⟩:=qa E w3 (qa N3);have H:Hid (c.fulfill id pre=(c,MsgV.zero,132)):=qb (by rw[qa Y,hO];simp);have Z:=qb f;have X:=qb F;have HU:=qb hU;clear z f F hU hO;go_wp2_with ((with_reducible first|rfl|refine' ut ?_ ?_;rotate_left|refine' uu ?_)<;>intros);have f:=qa Z;refine bodyPost_ret (qw rfl _ _ B _ _ _ _ rfl f.at_ Tryz.underlying101 rfl (by rw[f.agg];exact Tryz.infoMsg)) rfl ?_;rw[qa H];exact⟨rfl,qa X,qa HU⟩
  | true =>
   have H:Hid (c.fulfill id pre=((c.removed i x true).say (qgs id pre),(qgs id pre).on c.s.ch,0)):=qb (by rw[qa Y,hO];simp);clear hO Y;go_wp2_with ((with_reducible first|rfl|refine' ut ?_ ?_;rotate_left|refine' uu ?_)<;>intros);refine z.mono ?_;rintro e w4 ⟨rfl,h4,u4⟩;have m:=qnp g S (c.removed i x true) (qgs id pre) v w4 ⟨R,nv,av,h4⟩ b5;have U4:=qb ((((qa N1).trans (qa N3)).mono (T:=S) (fun _ _ h=>h.elim)).trans (u4.mono (T:=S) (fun k _ e=>qa HI k e)));have V:=qb (((qa HB).new (qa N3)).upd u4 (fun e=>C (qa HI B e)));have b8:=qb (((qa HD).new (qa N3)).upd u4 (fun e=>c0 (qa HI D e)));have bf:=fun W=>qn1 4 id pre v W
   clear z h4 u4;unfold qgs at m;go_upto_region 7 with ((with_reducible first|rfl|refine' ut ?_ ?_;rotate_left|refine' uu ?_)<;>intros);have rD:=(qa b8).row;go_wp2_with ((with_reducible first|rfl|refine' ut ?_ ?_;rotate_left|refine' uu ?_)<;>intros);refine m.mono ?_;rintro e w5 ⟨rfl,h5,u5⟩;have hl:((qgs id pre).on (c.removed i x true).s.ch).hash.length=32:=v;have I:=(qa V).upd u5 C;have M:=I.stOk hl;have f:=I.put hl;have u6:=qx (w:=w5) (b:=B) ((qgs id pre).on (c.removed i x true).s.ch).cells;have Z:=qb f;have c2:=(qa U4).size;have F:=h5.upd u6 (fun k L e=>by
    rcases L with L | L
    ·exact C (e▸L)
    ·have:=(qa V).lt;omega)
   have X:=qb ((F.grow u6.size).later c2);have HU:=qb (((qa U4).trans u5).then u6 (fun i K e=>by omega));change stOk w5 B 0 38 ((⟨4,0,id,0,pre,0,0⟩:MsgV).on (c.removed i x true).s.ch).cells.toArray=true at M;clear m h5 u5 I f u6 F hl rD bf;go_wp2_with ((with_reducible first|rfl|refine' ut ?_ ?_;rotate_left|refine' uu ?_)<;>intros);have f:=qa Z;refine bodyPost_ret (qw rfl _ _ B _ _ _ _ rfl f.at_ Tryz.underlying101 rfl (by rw[f.agg];exact Tryz.infoMsg)) rfl ?_;rw[qa H];exact⟨rfl,qa X,qa HU⟩
end
section
open Go.RowKit
attribute [local go_sem ↓ high] qy qz zb zf qae zl
attribute [local go_sem] qas qat qax qv zx qck qbf
theorem qsc(L N J g en:Nat)(F:Nat→Prop)(c c':Ch)(M:MsgV)(er:Int)(n:Int)(h:List Int)(w:World)(I:∀k,F k→k<w.heap.size)(p:M.hash.length=32)
  (f:∀w',qu w w'→Calls Tryz.prog 55 #[.pointer (some ⟨en,0,none⟩),.int .u64 n,.agg (qs h).toArray] w' fun e q=>e = .returned (.tuple #[.agg M.cells.toArray,.int .i64 er])∧ChS q en (Fr F w' q) c'∧Upd F w' q)
  (R:w.cell? ⟨L,0,none⟩=some (.pointer (some ⟨g,0,none⟩))) (O:w.cell? ⟨g,1,none⟩=some (.pointer (some ⟨en,0,none⟩))) (S:w.cell? ⟨N,0,none⟩=some (.int .u64 n)) (P:zj w J 0 32=some (qs h).toArray) :
  Calls Tryz.prog 54 (#[]++#[.pointer (some ⟨L,0,none⟩),.pointer (some ⟨N,0,none⟩),.pointer (some ⟨J,0,none⟩)]) w fun e w'=>SaysIt en F M er c' e w w':=by
 have m:qu w (w.alloc (.cells MsgV.zero.cells.toArray 101)):=(Upd.refl _ _).alloc _
 have b1:=qan w MsgV.zero ql
 have V:w.heap.size<(w.alloc (.cells MsgV.zero.cells.toArray 101)).heap.size:=by rw[World.size_alloc];omega
 have Y:=qb I
 clear I
 show Calls Tryz.prog 54 #[.pointer (some ⟨L,0,none⟩),.pointer (some ⟨N,0,none⟩),.pointer (some ⟨J,0,none⟩)] w _
 go_enter Tryz.func54,Tryz.ntmps54
 go_upto_region 1 with fail
 generalize w.alloc (.cells MsgV.zero.cells.toArray 101)=w1 at m b1 V ⊢
 replace R:=m.cell R (fun h=>h)
 replace O:=m.cell O (fun h=>h)
 replace S:=m.cell S (fun h=>h)
 replace P:=qbc P m (fun h=>h)
 replace f:=f w1.drew m.drew
 obtain⟨K,e⟩:∃K,K=w.heap.size:=⟨_,rfl⟩
 rw[←e] at b1 V ⊢
 have E:=qb e
 clear e
 go_wp2_with ((with_reducible first|rfl|refine' ut ?_ ?_;rotate_left|refine' uu ?_)<;>intros)
 refine f.mono ?_
 rintro e T ⟨rfl,i,z⟩
 have W:=z.size
 have z1:=m.size
 have H:¬F K:=fun e=>by have:=qa Y K e;have:=qa E;omega
 have b2:=b1.upd z.ofDrew H
 have a6:=b2.stOk p
 have U:=b2.put p
 have C:Upd (· = K) T (T.setCells K 0 M.cells):=qx _
 have hF:=U.at_
 have X:=qb (And.intro i (And.intro z C))
 have z3:=C.size
 clear f i z b2 U C R O S P b1
 go_wp2_with ((with_reducible first|rfl|refine' ut ?_ ?_;rotate_left|refine' uu ?_)<;>intros)
 refine bodyPost_ret (qw rfl _ _ K _ _ _ _ rfl hF Tryz.underlying101 rfl (by rw[List.size_toArray,M.len p];exact Tryz.infoMsg)) rfl ?_
 obtain⟨i,z,C⟩:=qa X
 have e:=qa E
 have W:w1.heap.size≤T.heap.size:=W
 refine⟨rfl,?_,((m.mono (fun _ _ h=>h.elim)).trans z.ofDrew).then C (fun k v e=>by omega)⟩
 have Z:=i.upd C (fun k v e=>by
  rcases v with v | v
  ·exact H (e▸v)
  ·have:w1.heap.size≤k:=v.1;omega)
 exact ChS.later (ChS.grow (w0:=w1) Z z3) z1
theorem q0t(J L N g en:Nat)(F:Nat→Prop)(c c':Ch)(M:MsgV)(er:Int)(n x:Int)(w:World)(I:∀k,F k→k<w.heap.size)(p:M.hash.length=32)
  (f:∀w',qu w w'→Calls Tryz.prog 53 #[.pointer (some ⟨en,0,none⟩),.int .u64 n,.int .i64 x] w' fun e q=>e = .returned (.tuple #[.agg M.cells.toArray,.int .i64 er])∧ChS q en (Fr F w' q) c'∧Upd F w' q)
  (P:w.cell? ⟨J,0,none⟩=some (.pointer (some ⟨g,0,none⟩))) (O:w.cell? ⟨g,1,none⟩=some (.pointer (some ⟨en,0,none⟩))) (R:w.cell? ⟨L,0,none⟩=some (.int .u64 n)) (S:w.cell? ⟨N,0,none⟩=some (.int .i64 x)) :
  Calls Tryz.prog 52 (#[]++#[.pointer (some ⟨J,0,none⟩),.pointer (some ⟨L,0,none⟩),.pointer (some ⟨N,0,none⟩)]) w fun e w'=>SaysIt en F M er c' e w w':=by
 have m:qu w (w.alloc (.cells MsgV.zero.cells.toArray 101)):=(Upd.refl _ _).alloc _
 have b1:=qan w MsgV.zero ql
 have V:w.heap.size<(w.alloc (.cells MsgV.zero.cells.toArray 101)).heap.size:=by rw[World.size_alloc];omega
 have Y:=qb I
 clear I
 show Calls Tryz.prog 52 #[.pointer (some ⟨J,0,none⟩),.pointer (some ⟨L,0,none⟩),.pointer (some ⟨N,0,none⟩)] w _
 go_enter Tryz.func52,Tryz.ntmps52
 go_upto_region 1 with fail
 generalize w.alloc (.cells MsgV.zero.cells.toArray 101)=w1 at m b1 V ⊢
 replace P:=m.cell P (fun h=>h)
 replace O:=m.cell O (fun h=>h)
 replace R:=m.cell R (fun h=>h)
 replace S:=m.cell S (fun h=>h)
 replace f:=f w1.drew m.drew
 obtain⟨K,e⟩:∃K,K=w.heap.size:=⟨_,rfl⟩
 rw[←e] at b1 V ⊢
 have E:=qb e
 clear e
 go_wp2_with ((with_reducible first|rfl|refine' ut ?_ ?_;rotate_left|refine' uu ?_)<;>intros)
 refine f.mono ?_
 rintro e T ⟨rfl,i,z⟩
 have W:=z.size
 have z1:=m.size
 have H:¬F K:=fun e=>by have:=qa Y K e;have:=qa E;omega
 have b2:=b1.upd z.ofDrew H
 have a6:=b2.stOk p
 have U:=b2.put p
 have C:Upd (· = K) T (T.setCells K 0 M.cells):=qx _
 have hF:=U.at_
 have X:=qb (And.intro i (And.intro z C))
 have z3:=C.size
 clear f i z b2 U C P O R S b1
 go_wp2_with ((with_reducible first|rfl|refine' ut ?_ ?_;rotate_left|refine' uu ?_)<;>intros)
 refine bodyPost_ret (qw rfl _ _ K _ _ _ _ rfl hF Tryz.underlying101 rfl (by rw[List.size_toArray,M.len p];exact Tryz.infoMsg)) rfl ?_
 obtain⟨i,z,C⟩:=qa X
 have e:=qa E
 have W:w1.heap.size≤T.heap.size:=W
 refine⟨rfl,?_,((m.mono (fun _ _ h=>h.elim)).trans z.ofDrew).then C (fun k v e=>by omega)⟩
 have Z:=i.upd C (fun k v e=>by
  rcases v with v | v
  ·exact H (e▸v)
  ·have:w1.heap.size≤k:=v.1;omega)
 exact ChS.later (ChS.grow (w0:=w1) Z z3) z1
theorem qxv(L N J O g en:Nat)(F:Nat→Prop)(c c':Ch)(M:MsgV)(er:Int)(n x:Int)(h:List Int)(w:World)(I:∀k,F k→k<w.heap.size)(p:M.hash.length=32)
  (f:∀w',qu w w'→Calls Tryz.prog 47 #[.pointer (some ⟨en,0,none⟩),.int .u64 n,.agg (qs h).toArray,.int .i64 x] w' fun e q=>e = .returned (.tuple #[.agg M.cells.toArray,.int .i64 er])∧ChS q en (Fr F w' q) c'∧Upd F w' q)
  (S:w.cell? ⟨L,0,none⟩=some (.pointer (some ⟨g,0,none⟩))) (P:w.cell? ⟨g,1,none⟩=some (.pointer (some ⟨en,0,none⟩))) (T:w.cell? ⟨N,0,none⟩=some (.int .u64 n)) (R:zj w J 0 32=some (qs h).toArray) (U:w.cell? ⟨O,0,none⟩=some (.int .i64 x)) :
  Calls Tryz.prog 46 (#[]++#[.pointer (some ⟨L,0,none⟩),.pointer (some ⟨N,0,none⟩),.pointer (some ⟨J,0,none⟩),.pointer (some ⟨O,0,none⟩)]) w fun e w'=>SaysIt en F M er c' e w w':=by
 have m:qu w (w.alloc (.cells MsgV.zero.cells.toArray 101)):=(Upd.refl _ _).alloc _
 have b1:=qan w MsgV.zero ql
 have X:w.heap.size<(w.alloc (.cells MsgV.zero.cells.toArray 101)).heap.size:=by rw[World.size_alloc];omega
 have HS:=qb I
 clear I
 show Calls Tryz.prog 46 #[.pointer (some ⟨L,0,none⟩),.pointer (some ⟨N,0,none⟩),.pointer (some ⟨J,0,none⟩),.pointer (some ⟨O,0,none⟩)] w _
 go_enter Tryz.func46,Tryz.ntmps46
 go_upto_region 1 with fail
 generalize w.alloc (.cells MsgV.zero.cells.toArray 101)=w1 at m b1 X ⊢
 replace S:=m.cell S (fun h=>h)
 replace P:=m.cell P (fun h=>h)
 replace T:=m.cell T (fun h=>h)
 replace R:=qbc R m (fun h=>h)
 replace U:=m.cell U (fun h=>h)
 replace f:=f w1.drew m.drew
 obtain⟨K,e⟩:∃K,K=w.heap.size:=⟨_,rfl⟩
 rw[←e] at b1 X ⊢
 have E:=qb e
 clear e
 go_wp2_with ((with_reducible first|rfl|refine' ut ?_ ?_;rotate_left|refine' uu ?_)<;>intros)
 refine f.mono ?_
 rintro e V ⟨rfl,i,z⟩
 have Y:=z.size
 have z1:=m.size
 have H:¬F K:=fun e=>by have:=qa HS K e;have:=qa E;omega
 have b2:=b1.upd z.ofDrew H
 have a6:=b2.stOk p
 have W:=b2.put p
 have C:Upd (· = K) V (V.setCells K 0 M.cells):=qx _
 have hF:=W.at_
 have Z:=qb (And.intro i (And.intro z C))
 have z3:=C.size
 clear f i z b2 W C S P T R U b1
 go_wp2_with ((with_reducible first|rfl|refine' ut ?_ ?_;rotate_left|refine' uu ?_)<;>intros)
 refine bodyPost_ret (qw rfl _ _ K _ _ _ _ rfl hF Tryz.underlying101 rfl (by rw[List.size_toArray,M.len p];exact Tryz.infoMsg)) rfl ?_
 obtain⟨i,z,C⟩:=qa Z
 have e:=qa E
 have Y:w1.heap.size≤V.heap.size:=Y
 refine⟨rfl,?_,((m.mono (fun _ _ h=>h.elim)).trans z.ofDrew).then C (fun k v e=>by omega)⟩
 have h3:=i.upd C (fun k v e=>by
  rcases v with v | v
  ·exact H (e▸v)
  ·have:w1.heap.size≤k:=v.1;omega)
 exact ChS.later (ChS.grow (w0:=w1) h3 z3) z1
def Lk.actW(l:Lk)(r:Ch × MsgV × Int)(rec:ByteArray):Lk × MsgV × Int:=if l.waits=true then (l,MsgV.zero,5) else (l.acts r.1 rec r.2.1 r.2.2,qrm r.2.1 r.2.2,r.2.2)
theorem qnv{l:Lk}{r:Ch × MsgV × Int}{rec:ByteArray}(h:r.2.1.hash.length=32):(l.actW r rec).2.1.hash.length=32:=by
 unfold Lk.actW;split
 ·exact ql
 ·exact qtf h
theorem qrn(l:Lk)(ev:Value)(r:Ch × MsgV × Int)(rec:ByteArray):Lk.actW {l with ev:=ev} r rec=({(l.actW r rec).1 with ev:=ev},(l.actW r rec).2):=by
 unfold Lk.actW;by_cases h:l.waits=true
 ·rw[if_pos h,if_pos h]
 ·rw[if_neg h,if_neg h];unfold Lk.acts;by_cases f:r.2.2=0
  ·rw[if_pos f,if_pos f];rfl
  ·rw[if_neg f,if_neg f]
theorem qro(g B:Nat)(S:Nat→Prop)(l:Lk)(sp en lo:Nat)(p v:Nat→Prop)(F:FuncId)(q f:Array Value)(r:Ch × MsgV × Int)(xs:List ByteArray)(w:World)
  (h:LkP w g S l sp en lo p v) (i:LkOkW l) (H:r.2.1.hash.length=32) (m:r.2.2=0→SayOk r.2.1) (N:Tabs w) (L:ApD S)
  (E:∀args w,(callFunc F args).run Tryz.prog w = .ok (.enter F args) w) (M:∀a,qu w a→Calls Tryz.prog F (q++f) a fun e K=>SaysIt en p r.2.1 r.2.2 r.1 e a K)
  (P:∀j x,xs[j]? = some x→w.cell? ⟨B,j,none⟩=some (.string x)) (O:xs.length≤1000) (I:(zk xs).size≤1024) (C:B<w.heap.size) (z:¬S B) :
  Calls Tryz.prog 45 #[.pointer (some ⟨g,0,none⟩),.func (.func F) q f,.slice (some ⟨B,0,none⟩) xs.length xs.length] w fun e w'=>e = .returned (.tuple #[.agg (l.actW r (zk xs)).2.1.cells.toArray,.int .i64 (l.actW r (zk xs)).2.2])∧LkE w' g (Fr S w w') sp en lo (l.actW r (zk xs)).1∧Upd S w w':=by
 unfold Lk.actW
 cases J:l.waits with
 | true =>
  rw[if_pos rfl];exact qki g B S l sp en lo p v F q f xs w h ⟨i.dead,J⟩
 | false =>
  rw[if_neg (by decide)];exact qnw g B S l sp en lo p v F q f r.2.1 r.2.2 r.1 xs w h ⟨i.dead,J,i.fused,i.off,i.many,i.len,i.out⟩ H m N L E M P O I C z
theorem zdx{a b c x:ByteArray}{w:World}{B j:Nat}(f:[a,b,c][j]? = some x)(i:w.heap[B]? = some (.cells #[.string a,.string b,.string c] 9 (0,0))):w.cell? ⟨B,j,none⟩=some (.string x):=by
 rw[qg i]
 match j,f with
 | 0,f=>exact congrArg (fun y=>some (Value.string y)) (show a=x from by simpa using f)
 | 1,f=>exact congrArg (fun y=>some (Value.string y)) (show b=x from by simpa using f)
 | 2,f=>exact congrArg (fun y=>some (Value.string y)) (show c=x from by simpa using f)
 | j+3,f=>simp at f
theorem zdy{a b c d x:ByteArray}{w:World}{B j:Nat}(f:[a,b,c,d][j]? = some x)(i:w.heap[B]? = some (.cells #[.string a,.string b,.string c,.string d] 9 (0,0))):w.cell? ⟨B,j,none⟩=some (.string x):=by
 rw[qg i]
 match j,f with
 | 0,f=>exact congrArg (fun y=>some (Value.string y)) (show a=x from by simpa using f)
 | 1,f=>exact congrArg (fun y=>some (Value.string y)) (show b=x from by simpa using f)
 | 2,f=>exact congrArg (fun y=>some (Value.string y)) (show c=x from by simpa using f)
 | 3,f=>exact congrArg (fun y=>some (Value.string y)) (show d=x from by simpa using f)
 | j+4,f=>simp at f
theorem qzf(n f:Nat)(h:f≤8):(qf5 n f).size≤8:=Nat.le_trans (q2f n f) h
def ql0(n:Nat)(h:List Int):List ByteArray:=[zc 2 1,zc n 8,strOfNums h]
def qm4(n r:Nat):List ByteArray:=[zc 3 1,zc n 8,qf5 r 2]
def qf6(n r:Nat)(h:List Int):List ByteArray:=[zc 1 1,zc n 8,strOfNums h,qf5 r 4]
theorem qq2{n:Nat}{h:List Int}(f:h.length=32):(zk (ql0 n h)).size≤1024:=by
 unfold ql0 zk zk zk zk;simp only[ByteArray.size_append,qak,strOfNums_size,f];decide
theorem q2u{n r:Nat} : (zk (qm4 n r)).size≤1024:=by
 have:=qzf r 2 (by decide);have f:(⟨#[]⟩:ByteArray).size=0:=rfl;unfold qm4 zk zk zk zk;simp only[ByteArray.size_append,qak];omega
theorem qo0{n r:Nat}{h:List Int}(f:h.length=32):(zk (qf6 n r h)).size≤1024:=by
 have:=qzf r 4 (by decide);have i:(⟨#[]⟩:ByteArray).size=0:=rfl;unfold qf6 zk zk zk zk zk;simp only[ByteArray.size_append,qak,strOfNums_size,f];omega
theorem LkV.lift{w w':World}{g:Nat}{S f:Nat→Prop}{l L:Lk}{ev:Value}{es:List EvV}{sp en lo:Nat}{F H:Nat→Prop}(h:LvP w g S f l ev es sp en lo F H)(u:Upd f w w')(v:LkS w' g (Fr f w w') {L with ev:=ev}):LkV w' g (Fr S w w') L es∧Upd S w w':=by
 obtain⟨C,p,z,i,m,v⟩:=v;have I:=u.size;have q:=h.row.lt;refine⟨⟨C,p,z,_,i,m,ev,v,h.row.upd u h.out,?_,fun k e=> .inl (h.inE k e),fun k e=>e.imp (h.in0 k) id,?_⟩,u.mono (fun k _ e=>h.in0 k e)⟩
 ·intro k e E;have:=q k e;exact E.elim (h.out k e) (fun E=>by omega)
 ·rintro k (e | e)
  ·have:=h.lt k e;omega
  ·exact e.2
theorem zen(g:Nat)(S:Nat→Prop)(l:Lk)(es:List EvV)(n:Nat)(p:List Int)(w:World)(h:LkV w g S l es)(C:LkOkW l)(F:p.length=32)(O:n<2 ^ (8*8))(I:(l.c.fulfill n p).2.2=0→SayOk (l.c.fulfill n p).2.1)(q:(l.c.fulfill n p).2.1.hash.length=32)(E:l.c.news.length<1000000∧l.c.xs.length<1000000)(X:Tb w)(V:ApD S) :
  Calls Tryz.prog 18 #[.pointer (some ⟨g,0,none⟩),.int .u64 (n:Int),.agg (qs p).toArray] w fun e w'=>e = .returned (.int .i64 (l.actW (l.c.fulfill n p) (zk (ql0 n p))).2.2)∧LkV w' g (Fr S w w') (l.actW (l.c.fulfill n p) (zk (ql0 n p))).1 es∧Upd S w w':=by
 obtain⟨sp,en,lo,J,K,SJ,ev,h⟩:=h
 have f:=h.lk
 have H:=f.lt
 have M:=f.chn.lt
 have cE:w.cell? ⟨g,1,none⟩=some (.pointer (some ⟨en,0,none⟩)):=qg f.at_ 1
 have L:ApD J:=⟨fun e=>V.c (h.in0 _ e),fun e=>V.d (h.in0 _ e)⟩
 have N:=qrn l ev (l.c.fulfill n p) (zk (ql0 n p))
 refine(qsm g J n p (l.actW (l.c.fulfill n p) (zk (ql0 n p))).2.1 (l.actW (l.c.fulfill n p) (zk (ql0 n p))).2.2 {(l.actW (l.c.fulfill n p) (zk (ql0 n p))).1 with ev:=ev} sp en lo w H F O (qnv q) ?_).mono ?_
 ·intro T U R w3 v gL gN gH cL cN cH B W i hB Y;have P:=@zdx (zc 2 1) (zc n 8) (strOfNums p);have m:=qro g B J {l with ev:=ev} sp en lo K SJ 54 #[] #[.pointer (some ⟨T,0,none⟩),.pointer (some ⟨U,0,none⟩),.pointer (some ⟨R,0,none⟩)] (l.c.fulfill n p) (ql0 n p) W ((f.new v).new i) ⟨C.dead,C.fused,C.off,C.many,C.len,C.out⟩ q I ((X.tabs.new v).new i) L (enters_of Tryz.func54 (by kernel_rfl) rfl)
   (fun a z=>qsc T U R g en K l.c (l.c.fulfill n p).1 (l.c.fulfill n p).2.1 (l.c.fulfill n p).2.2 n p a (fun k e=>by have:=M k e;have:=v.size;have:=i.size;have:=z.size;omega) q (fun w' Z=>qt5 en K l.c n p F w' (f.chn.new (((v.trans i).trans z).trans Z)) (X.new (((v.trans i).trans z).trans Z)) E.1) ((i.trans z).cell cL (fun h=>h)) (((v.trans i).trans z).cell cE (fun h=>h)) ((i.trans z).cell cN (fun h=>h)) (qbc cH (i.trans z) (fun h=>h))) (fun j x hx=>P hx Y) (by simp[ql0]) (qq2 F) (zr Y) (fun e=>by have:=H _ e;have:=v.size;omega)
  rw[N] at m;exact m
 ·rintro e w' ⟨rfl,F,u⟩;have:=LkV.lift h u F;exact⟨rfl,this.1,this.2⟩
theorem zd9(g:Nat)(S:Nat→Prop)(l:Lk)(es:List EvV)(n r:Nat)(x:Int)(w:World)(h:LkV w g S l es)(q:LkOkW l)(N:n<2 ^ (8*8))(F:r<18446744073709551616)(P:IntKind.u64.wrap x=(r:Int))(H:(l.c.fail n x).2.2=0→SayOk (l.c.fail n x).2.1)(p:(l.c.fail n x).2.1.hash.length=32)(C:l.c.news.length<1000000∧l.c.xs.length<1000000)(hT:Tabs w)(V:ApD S) :
  Calls Tryz.prog 17 #[.pointer (some ⟨g,0,none⟩),.int .u64 (n:Int),.int .i64 x] w fun e w'=>e = .returned (.int .i64 (l.actW (l.c.fail n x) (zk (qm4 n r))).2.2)∧LkV w' g (Fr S w w') (l.actW (l.c.fail n x) (zk (qm4 n r))).1 es∧Upd S w w':=by
 obtain⟨sp,en,lo,I,J,Y,ev,h⟩:=h
 have f:=h.lk
 have E:=f.lt
 have L:=f.chn.lt
 have Z:w.cell? ⟨g,1,none⟩=some (.pointer (some ⟨en,0,none⟩)):=qg f.at_ 1
 have K:ApD I:=⟨fun e=>V.c (h.in0 _ e),fun e=>V.d (h.in0 _ e)⟩
 have M:=qrn l ev (l.c.fail n x) (zk (qm4 n r))
 refine(q1r g I n r x (l.actW (l.c.fail n x) (zk (qm4 n r))).2.1 (l.actW (l.c.fail n x) (zk (qm4 n r))).2.2 {(l.actW (l.c.fail n x) (zk (qm4 n r))).1 with ev:=ev} sp en lo w E N F P (qnv p) ?_).mono ?_
 ·intro R T U w3 v gL gN gX cL cN cX B W m hB X;have O:=@zdx (zc 3 1) (zc n 8) (qf5 r 2);have i:=qro g B I {l with ev:=ev} sp en lo J Y 52 #[] #[.pointer (some ⟨R,0,none⟩),.pointer (some ⟨T,0,none⟩),.pointer (some ⟨U,0,none⟩)] (l.c.fail n x) (qm4 n r) W ((f.new v).new m) ⟨q.dead,q.fused,q.off,q.many,q.len,q.out⟩ p H ((hT.new v).new m) K (enters_of Tryz.func52 (by kernel_rfl) rfl)
   (fun a z=>q0t R T U g en J l.c (l.c.fail n x).1 (l.c.fail n x).2.1 (l.c.fail n x).2.2 n x a (fun k e=>by have:=L k e;have:=v.size;have:=m.size;have:=z.size;omega) p (fun w' n'=>q5d en J l.c n x w' (f.chn.new (((v.trans m).trans z).trans n')) C.1) ((m.trans z).cell cL (fun h=>h)) (((v.trans m).trans z).cell Z (fun h=>h)) ((m.trans z).cell cN (fun h=>h)) ((m.trans z).cell cX (fun h=>h))) (fun j x hx=>O hx X) (by simp[qm4]) q2u (zr X) (fun e=>by have:=E _ e;have:=v.size;omega)
  rw[M] at i;exact i
 ·rintro e w' ⟨rfl,hl,u⟩;have:=LkV.lift h u hl;exact⟨rfl,this.1,this.2⟩
theorem zc1(g:Nat)(S:Nat→Prop)(l:Lk)(es:List EvV)(n r:Nat)(p:List Int)(x:Int)(w:World)(h:LkV w g S l es)(z:LkOkW l)(F:p.length=32)(hb:qbg p)(P:n<2 ^ (8*8))(I:r<18446744073709551616)(T:IntKind.u64.wrap x=(r:Int))(U : -9223372036854775808≤x∧x≤9223372036854775807)(J:(l.c.offer n (qa5 p) x).2.2=0→SayOk (l.c.offer n (qa5 p) x).2.1)(q:(l.c.offer n (qa5 p) x).2.1.hash.length=32)(E:l.c.news.length<1000000∧l.c.xs.length<1000000)(hT:Tabs w)(hA:ApD S) :
  Calls Tryz.prog 11 #[.pointer (some ⟨g,0,none⟩),.int .u64 (n:Int),.agg (qs p).toArray,.int .i64 x] w fun e w'=>e = .returned (.tuple #[.int .u64 (l.actW (l.c.offer n (qa5 p) x) (zk (qf6 n r p))).2.1.id,.int .i64 (l.actW (l.c.offer n (qa5 p) x) (zk (qf6 n r p))).2.2])∧LkV w' g (Fr S w w') (l.actW (l.c.offer n (qa5 p) x) (zk (qf6 n r p))).1 es∧Upd S w w':=by
 obtain⟨sp,en,lo,K,L,SJ,ev,h⟩:=h
 have f:=h.lk
 have H:=f.lt
 have N:=f.chn.lt
 have cE:w.cell? ⟨g,1,none⟩=some (.pointer (some ⟨en,0,none⟩)):=qg f.at_ 1
 have M:ApD K:=⟨fun e=>hA.c (h.in0 _ e),fun e=>hA.d (h.in0 _ e)⟩
 have O:=qrn l ev (l.c.offer n (qa5 p) x) (zk (qf6 n r p))
 refine(qxm g K n r p x (l.actW (l.c.offer n (qa5 p) x) (zk (qf6 n r p))).2.1 (l.actW (l.c.offer n (qa5 p) x) (zk (qf6 n r p))).2.2 {(l.actW (l.c.offer n (qa5 p) x) (zk (qf6 n r p))).1 with ev:=ev} sp en lo w H F P I T (qnv q) ?_).mono ?_
 ·intro X Y V Z w3 C gL gN gH gX cL cN cH cX B W i hB hr;have R:=@zdy (zc 1 1) (zc n 8) (strOfNums p) (qf5 r 4);have m:=qro g B K {l with ev:=ev} sp en lo L SJ 46 #[] #[.pointer (some ⟨X,0,none⟩),.pointer (some ⟨Y,0,none⟩),.pointer (some ⟨V,0,none⟩),.pointer (some ⟨Z,0,none⟩)] (l.c.offer n (qa5 p) x) (qf6 n r p) W ((f.new C).new i) ⟨z.dead,z.fused,z.off,z.many,z.len,z.out⟩ q J ((hT.new C).new i) M (enters_of Tryz.func46 (by kernel_rfl) rfl)
   (fun a v=>qxv X Y V Z g en L l.c (l.c.offer n (qa5 p) x).1 (l.c.offer n (qa5 p) x).2.1 (l.c.offer n (qa5 p) x).2.2 n x p a (fun k e=>by have:=N k e;have:=C.size;have:=i.size;have:=v.size;omega) q (fun w' n'=>qxw en L l.c n p x w' (f.chn.new (((C.trans i).trans v).trans n')) F hb ⟨by omega,by omega⟩ U E) ((i.trans v).cell cL (fun h=>h)) (((C.trans i).trans v).cell cE (fun h=>h)) ((i.trans v).cell cN (fun h=>h)) (qbc cH (i.trans v) (fun h=>h)) ((i.trans v).cell cX (fun h=>h))) (fun j x U=>R U hr) (by simp[qf6]) (qo0 F) (zr hr) (fun e=>by have:=H _ e;have:=C.size;omega)
  rw[O] at m;exact m
 ·rintro e w' ⟨rfl,F,u⟩;have:=LkV.lift h u F;exact⟨rfl,this.1,this.2⟩
end
section
open Go.RowKit
def qns(c:Ch):Prop:=∀(g:Nat) (S:Nat→Prop) (w:World),ChS w g S c→Calls Tryz.prog 68 #[.pointer (some ⟨g,0,none⟩)] w fun e w'=>(∃f rv,e = .returned (.agg #[f,rv]))∧ChS w' g (Fr S w w') c.cut∧Upd S w w'
attribute [local go_sem ↓ high] qba qbn qcf qgg qd7 qtn
attribute [local go_sem] qdk qd2 qfi qry qlt zbv qv
theorem q0c(g:Nat)(S:Nat→Prop)(c:Ch)(w:World)(h:ChS w g S c)(hq:∀x∈c.xs,x.state≠0∧x.state≠5) :
  Calls Tryz.prog 68 #[.pointer (some ⟨g,0,none⟩)] w fun e w'=>(∃ov rv,e = .returned (.agg #[ov,rv]))∧ChS w' g (Fr S w w') c.cut∧Upd S w w':=by
 have HQ:=qb hq
 clear hq
 obtain⟨lv,nv,av,h⟩:=h
 have k5:=h.ok.few
 have e5:=h.ok.xs
 have k6:=h.lt g h.inG
 obtain⟨la,k7,b7⟩:=zv h.live
 have F:∀(i:Nat) (x:Live),c.xs[i]? = some x→∃g',la=some ⟨g',0,none⟩∧qd4 w g' 0 c.xs∧g'≠g∧g'<w.heap.size:=by
  intro i x hi;have Y:=(List.getElem?_eq_some_iff.1 hi).1;rcases (qcx h.live).2 with ⟨e,e0⟩ | ⟨g',k0,e,-,hh⟩
  ·rw[e0] at Y;simp at Y
  ·rw[b7] at e;injection e with e1;obtain⟨l4,a6⟩:=qab h.live g' (by rw[b7,e1];rfl);exact⟨g',e1,hh.toL,qao a6 h.at_ (by decide),zr a6⟩
 have V:w.cell? ⟨g,47,none⟩=some lv:=h.toR.live
 rw[b7] at V
 obtain⟨i9,z9,b9,i3,j5,j2,j3,j4,h7⟩:=qh1
 obtain⟨j9,y9,d9,m7,o1,n8,n9,o0,m3⟩:=q6b
 obtain⟨k9,x9,e9,e3,n7,n4,n5,n6,m4⟩:=q3p
 have m8:(c.xs.length:Int)≤1000000:=by omega
 have d8:c.cut=(c.xs.foldl qex c).unsaid (qgx c.xs):=rfl
 have e7:=qb d8
 have H0:=qb h
 have g0:=qb e5
 clear h d8 e5
 generalize j1:c.xs=xs at *
 clear j1
 go_enter Tryz.func68,Tryz.ntmps68
 go_upto_region 2 with fail
 have hR:=qq (qh w (.cells #[.slice none 0 0,.slice none 0 0] 141)) (.cells #[.slice none 0 0,.slice none 0 0] 141)
 have hK:=qh (w.alloc (.cells #[.slice none 0 0,.slice none 0 0] 141)) (.cells #[.slice none 0 0,.slice none 0 0] 141)
 rw[World.size_alloc] at hK
 have n1:qu w ((w.alloc (.cells #[.slice none 0 0,.slice none 0 0] 141)).alloc (.cells #[.slice none 0 0,.slice none 0 0] 141)):=((Upd.refl _ _).alloc _).alloc _
 generalize (w.alloc (.cells #[.slice none 0 0,.slice none 0 0] 141)).alloc (.cells #[.slice none 0 0,.slice none 0 0] 141)=w1 at hR hK n1 ⊢
 obtain⟨R,d4⟩:∃R,R=w.heap.size:=⟨_,rfl⟩
 obtain⟨K,d3⟩:∃K,K=w.heap.size+1:=⟨_,rfl⟩
 rw[←d3] at hK ⊢
 rw[←d4] at hR ⊢
 have d5:CutS w w1 g K R S c lv nv av (.slice none 0 0) (.slice none 0 0) (.slice none 0 0) [] [] [] :=
  ⟨(qa H0).new n1,hK,hR,World.ownsRow_nil _ _ _ _,World.ownsRow_nil _ _ _ _,World.ownsRow_nil _ _ _ _,n1.mono (fun _ _ h=>h.elim),(qa H0).lt,by omega,by omega,by omega⟩
 have c9:=qb d5
 have V:=n1.cell V (fun h=>h)
 clear d4 d3 hK hR n1 d5
 go_wp2_with fail
 go_loopw [4,6,12] (fun kv _ iv wr=>∃(i:Nat) (ov rv:Value),iv = .int .i64 (i:Int)∧i≤xs.length∧CutS w wr g K R S ((xs.take i).foldl qex c) lv nv av kv ov rv (qgx (xs.take i)) (qdj (xs.take i)) (qds (xs.take i))) (fun _ _ iv _=>xs.length-(intOf iv).toNat)
 case atStart=>exact⟨0,_,_,rfl,Nat.zero_le _,qa c9⟩
 case round =>
  obtain⟨i,ov,rv,rfl,hi,p⟩:=hrel;obtain⟨E,rfl⟩:∃E:World,E=wr:=⟨_,rfl⟩;obtain⟨ka,f,H⟩:=zv p.ko;subst H;obtain⟨oa,m,i5⟩:=zv p.oo;subst i5;obtain⟨ra,C,i6⟩:=zv p.ro;subst i6;by_cases Y:i<xs.length
  ·obtain⟨x,z⟩:∃x,xs[i]? = some x:=⟨_,List.getElem?_eq_getElem Y⟩;have c7:=qb ((qa HQ) x (List.mem_of_getElem? z));obtain⟨g',rfl,hh,i2,m5⟩:=F i x z;have a7:=(hh.upd p.u i2).row z;rw[Nat.zero_add] at a7;have m6:(i:Int)<(xs.length:Int):=by omega
   have i7:=qhh E x;have b6:=qg4 E x;have f5:=qb (q0i z);have b8:=q0h c z;have f7:=qb (q0j z);have f8:=qb (q0k z);have m9:(qgx (xs.take i)).length≤i:=by
    have:=qtt (xs.take i);rw[List.length_take] at this;omega
   have n0:(qdj (xs.take i)).length≤i:=by
    have:=q4u (xs.take i);rw[List.length_take] at this;omega
   have n3:(qds (xs.take i)).length≤i:=by
    have:=q4v (xs.take i);rw[List.length_take] at this;omega
   generalize (xs.take i).foldl qex c=ci at p b8;have f6:=qb b8;generalize g9:qgx (xs.take i)=ks at *
   generalize h1:qdj (xs.take i)=os at *
   generalize h6:qds (xs.take i)=rs at *
   have HS:=qb p;clear z hh F b8 p g9 h1 h6 c9;go_upto_region 6 with fail;obtain⟨hb,nb⟩:=b6;generalize (E.alloc (.cells (qk Live.zero).toArray 69)).setCells E.heap.size 0 (qk x)=wb at hb nb ⊢;obtain⟨X,hX⟩:∃X,X=E.heap.size:=⟨_,rfl⟩;rw[←hX] at hb ⊢;have W:∀ {U:TypeId} {e6 n2:Nat} {v2:Value} {l2:List Value},E.ownsRow w.heap.size U e6 v2 n2 l2→∀k,v2.ownBlock=some k→k≠X:=by
    intro U e6 n2 v2 l2 h2 k M;obtain⟨c2,h8⟩:=qab h2 k M;have:=zr h8;omega
   have d6:=And.intro (W (qa HS).ko) (And.intro (W (qa HS).oo) (W (qa HS).ro));have m2:w.heap.size≤X:=by rw[hX];exact(qa HS).u.size
   have l8:X≠K:=by have:=zr (qa HS).k;omega
   have l9:X≠R:=by have:=zr (qa HS).r;omega
   have m0:X≠g:=by omega
   have k8:=qb d6;clear W d6;have g5:wb.cell? ⟨X,36,none⟩=some (.int .i64 x.state):=by rw[qg hb,List.getElem?_toArray];exact qe0 x
   have g4:wb.cell? ⟨X,35,none⟩=some (.bool x.own):=by rw[qg hb,List.getElem?_toArray];exact qez x
   have d1:=qb ((qa HS).new nb);have HB:=qb hb;clear i7 a7 hb nb HS hX;have N:=(qa c7).1;have l6:(x.state==0)=false:=by simpa using N
   have f0:Hid (qex ci x=ci):=qb (by unfold qex;rw[if_neg N]);have h5:=(qa c7).2;have l7:(x.state==5)=false:=by simpa using h5
   have e8:Hid (qdr x=x):=qb (by unfold qdr;rw[if_neg h5]);have f3:Hid (qds (xs.take (i+1))=rs):=qb (by rw[qa f8,if_neg (fun h=>h5 h.1),List.append_nil]);go_upto_region 17 with fail;have b4:=qa d1;have b5:=qa HB;rw[←qa e8] at b5;obtain⟨w7,rfl⟩:∃w7:World,w7=wb:=⟨_,rfl⟩;have j6:=qai b5 38 (by rw[List.size_toArray,qbb]);have j0:=qbb (qdr x);have c0:qu w7 (w7.alloc (.cells (qk (qdr x)).toArray 69)):=(Upd.refl _ _).alloc _;have b3:=qb (b4.new c0);have d0:=qb (b4.new c0).u.size;clear b4 b5 c0 g5 g4 d1 HB;go_wp2_with (at_builtin;refine wpList_append_own _ rfl (.tmp 69) (.tmp 71) 46 rfl w.heap.size 69 i9 _ 38 b9 Tryz.underlying46 i3 j5 j2 j3 j4 (by decide) _ _ _ rfl (qa b3).ko ⟨w7.heap.size,0,none⟩ 1 1 (qk (qdr x)) rfl (by rw[j0]) ?c1 (qef (qdr x)) ?c3 ?c4 ?c5 ?_)
   case c1=>exact World.news_of_block (cs:=(qk (qdr x)).toArray) (fr:=(0,0)) (qh _ _)
   case c3=>unfold maxLen;omega
   case c4=>have:=Nat.mul_le_mul (show ks.length+1≤1000000 by omega) h7;omega
   case c5=>exact qa d0
   intro v8 w8 I L _;obtain⟨a8,k3,i8⟩:=zv I;subst i8;have u8:Upd (fun k=>(Value.slice ka ks.length f).ownBlock=some k) (w7.alloc (.cells (qk (qdr x)).toArray 69)) w8:=(Upd.refl _ _).grown L (fun k M _=>M);have h9:=(qa b3).putL (ks':=ks++[qdr x]) u8 (by rw[List.length_append,List.flatMap_append,List.flatMap_cons,List.flatMap_nil,List.append_nil];exact I);have f4:=qb h9;clear I L u8 h9 j6 b3 d0;go_wp2_with fail;go_roundw
   case rel =>
    refine⟨i+1,.slice oa os.length m,.slice ra rs.length C,by go_num,by omega,?_⟩;rw[qa f6,qa f5,qa f7,if_neg N,if_neg (fun h=>N h.1),List.append_nil,qa f0,qa f3];exact qa f4
   case measure=>simp[intOf];omega
  ·obtain rfl:i=xs.length:=by omega
   rw[List.take_length] at *
   have hP:=p.ch;have V:E.cell? ⟨g,47,none⟩=some lv:=hP.toR.live;have l5:E.frozen? ⟨g,47,none⟩=false:=qo hP.at_ 47;have i4:(qgx xs).length≤1000000:=Nat.le_trans (qtt xs) (by omega);have q:=hP.newLive w p.u (Upd.refl _ _) _ (qgx xs) (fun y hy=>by
    obtain⟨x,hx,rfl⟩:=List.mem_map.1 hy;exact qwm (qa g0 x (List.mem_filter.1 hx).1)) i4 p.ko
   have d2:=qo q.at_ 626;have j7:(E.setCell ⟨g,47,none⟩ (.slice ka (qgx xs).length f)).cell? ⟨g,626,none⟩=some nv:=by rw[qg q.at_ 626];exact qoh _ _ _ _ q.ok.s.seed q.ok.shelf
   have v:=q.noNews;have g6:=qo v.at_ 43;have g1:((E.setCell ⟨g,47,none⟩ (.slice ka (qgx xs).length f)).setCell ⟨g,626,none⟩ qbw).cell? ⟨g,43,none⟩=some (.bool (xs.foldl qex c).k.shutHeard):=v.toR.shutHeard;have O:=v.putShutHeard false;have i0:¬K=g:=by have:=p.glt;have:=p.kge;omega
   have i1:¬R=g:=by have:=p.glt;have:=p.rge;omega
   have uF:Upd (· = g) E (((E.setCell ⟨g,47,none⟩ (.slice ka (qgx xs).length f)).setCell ⟨g,626,none⟩ qbw).setCell ⟨g,43,none⟩ (.bool false)):=((qj1 _ _ _ _).trans (qj1 _ _ _ _)).trans (qj1 _ _ _ _);have P:=uF.old p.k i0;have Z:=uF.old p.r i1;have HF:=qb O;have HU:=qb (p.u.trans uF);have c6:=qb (And.intro P Z);have f1:=qb (qlx p.ko);have c8:=qb p.rge;have g2:(((E.setCell ⟨g,47,none⟩ (.slice ka (qgx xs).length f)).setCell ⟨g,626,none⟩ qbw).setCell ⟨g,43,none⟩ (.bool false)).cell? ⟨K,0,none⟩=some (.slice oa (qdj xs).length m):=by rw[qg P];rfl
   have g3:(((E.setCell ⟨g,47,none⟩ (.slice ka (qgx xs).length f)).setCell ⟨g,626,none⟩ qbw).setCell ⟨g,43,none⟩ (.bool false)).cell? ⟨K,1,none⟩=some (.slice ra (qds xs).length C):=by rw[qg P];rfl
   have rK:=qai P 2 rfl;have g7:=qo Z 0;have g8:=qo Z 1;unfold qbw at d2 g6 g1 g2 g3 rK g7 g8 HF HU c6;clear F p hP q v O uF P Z;go_upto_region 20 with fail;generalize ((E.setCell ⟨g,47,none⟩ (.slice ka (qgx xs).length f)).setCell ⟨g,626,none⟩ (.slice none 0 0)).setCell ⟨g,43,none⟩ (.bool false)=w9 at *
   obtain⟨e3,J⟩:=qa c6;have l0:w9.cell? ⟨R,0,none⟩=some (.slice none 0 0):=by rw[qg J];rfl
   have l3:w9.cell? ⟨R,1,none⟩=some (.slice none 0 0):=by rw[qg J];rfl
   have k4:(w9.setCell ⟨R,0,none⟩ (.slice oa (qdj xs).length m)).frozen? ⟨R,1,none⟩=false:=qo (zt J 0 _) 1;have j8:(w9.setCell ⟨R,0,none⟩ (.slice oa (qdj xs).length m)).cell? ⟨R,1,none⟩=some (.slice none 0 0):=by rw[qg (zt J 0 _)];rfl
   have e4:=zt (zt J 0 (.slice oa (qdj xs).length m)) 1 (.slice ra (qds xs).length C);have hF:=qa HF;have N:=qa H0;have H:∀k,(Value.slice ka (qgx xs).length f).ownBlock=some k→k<w9.heap.size∧k≠R∧w.heap.size≤k:=fun k M=>by
    obtain⟨c1,d7⟩:=qab hF.live k M;exact⟨zr d7,qao d7 J (by decide),qa f1 k M⟩
   have h2:ChP w9 g (fun k=>S k∨(Value.slice ka (qgx xs).length f).ownBlock=some k) _ _ _ av:=⟨hF.at_,hF.ok,hF.live,hF.news,hF.last,.inl N.inG,fun k e=> .inr e,(fun k e=>by cases e),fun k e=> .inl (N.inA k e),(fun k e=>by cases e),fun k M=>M.elim (fun e=>Nat.lt_of_lt_of_le (N.lt k e) (qa HU).size) (fun e=>(H k e).1)⟩;have uR:Upd (· = R) w9 ((w9.setCell ⟨R,0,none⟩ (.slice oa (qdj xs).length m)).setCell ⟨R,1,none⟩ (.slice ra (qds xs).length C)):=((Upd.refl _ _).set1 0 _).trans ((Upd.refl _ _).set1 1 _);have h3:=h2.upd uR (fun k M e=>M.elim (fun e2=>by have:=N.lt k e2;have:=qa c8;omega) (fun e2=>(H k e2).2.1 e));have hz:=uR.size;have h4:=h3.wider (T:=Fr S w ((w9.setCell ⟨R,0,none⟩ (.slice oa (qdj xs).length m)).setCell ⟨R,1,none⟩ (.slice ra (qds xs).length C))) (fun k M=>M.elim .inl (fun e=> .inr ⟨(H k e).2.2,by have:=(H k e).1;omega⟩)) (fun k M=>M.elim (fun e=>by have:=N.lt k e;have:=(qa HU).size;omega) (fun e=>e.2));have hu:=(qa HU).then uR (fun i hi e=>by have:=qa c8;omega);have H4:=qb h4;have f9:=qb hu;have f2:=qb e4;clear e3 J e4 hF N H h2 uR h3 hz h4 hu;go_wp2_with fail;refine bodyPost_ret (results_cell_row rfl _ _ R _ _ _ _ rfl (qa f2) Tryz.underlying141 rfl (by kernel_rfl)) rfl ?_;rw[qa e7];exact⟨⟨_,_,rfl⟩,⟨_,_,_,qa H4⟩,(qa f9).mono (fun k _ e=>by rw[e];exact(qa H0).inG)⟩
theorem qp9{c:Ch}(f:∀x∈c.xs,x.state≠0∧x.state≠5):qns c:=fun g S w h=>q0c g S c w h f
end
section
open Go.RowKit
def qa2(c:Ch):MsgV:=⟨9,c.s.ch,IntKind.u64.wrap c.k.told,0,ze,0,c.k.heard+1⟩
theorem qv3{en:Nat}{SC:Nat→Prop}{c:Ch}{w:World}(h:ChS w en SC c):Calls Tryz.prog 73 #[.pointer (some ⟨en,0,none⟩)] w (qa1 (.agg (qa2 c).cells.toArray) w):=by
 obtain⟨i,m,f,h⟩:=h;exact qzx _ _ w h.toR ⟨h.ok.signed.1,by have:=h.ok.signed.2;show c.k.signed<_;omega⟩ h.ok.heard
section
variable {w w1:World}{g:Nat}{S:Nat→Prop}{l:Lk}{sp en lo B:Nat}{SC SJ:Nat→Prop}
theorem LkP.resplit(h:LkP w g S l sp en lo SC SJ)(n:qu w w1)(q:SpR w1 B ⟨#[]⟩)(m:w.heap.size≤B) :
  LkP (w1.setCell ⟨g,0,none⟩ (.pointer (some ⟨B,0,none⟩))) g (Fr S w w1) {l with rest:=⟨#[]⟩} B en lo SC SJ:=by
 have i:=h.new n
 have u:Upd (· = g) w1 (w1.setCell ⟨g,0,none⟩ (.pointer (some ⟨B,0,none⟩))):=(Upd.refl _ _).set1 _ _
 have v:=h.lt g h.inG
 have p:B<w1.heap.size:=zr q
 have z:=n.size
 refine⟨?_,u.old q (by omega),i.chn.upd u (fun k f e=>h.gC (e▸f)),i.jou.upd u (fun k f e=>h.gJ (e▸f)),.inl h.inG,.inr ⟨m,p⟩,fun k f=> .inl (h.inC k f),fun k f=> .inl (h.inJ k f),h.gC,h.gJ,fun e=>by have:=h.lt _ (h.inC _ e);omega,fun e=>by have:=h.lt _ (h.inJ _ e);omega,h.cJ,?_⟩
 ·have:=zt i.at_ 0 (.pointer (some ⟨B,0,none⟩));exact this
 ·rintro k (f | f)
  ·have:=h.lt k f;have:=u.size;omega
  ·exact Nat.lt_of_lt_of_le f.2 u.size
end
def Lk.renewed(l:Lk):Lk:= {l with rest:=⟨#[]⟩,out:=⟨#[]⟩,ticks:=0,broken:=false,waits:=true}
theorem q1p(p g:Nat)(S:Nat→Prop)(l:Lk)(f:qns l.c)(sp en lo:Nat)(SC SJ:Nat→Prop)(w:World)(h:LkP w g S l sp en lo SC SJ)(C:w.cell? ⟨p,0,none⟩=some (.pointer (some ⟨g,0,none⟩))) :
  Calls Tryz.prog 67 #[.pointer (some ⟨p,0,none⟩)] w fun e w'=>e = .returned (.int .i64 0)∧LkP w' g (Fr S w w') {l with c:=l.c.cut} sp en lo (Fr SC w w') SJ∧Upd S w w':=by
 have z:w.cell? ⟨g,1,none⟩=some (.pointer (some ⟨en,0,none⟩)):=qg h.at_ 1
 have v:=f en SC w h.chn
 have H:=qb h
 clear h
 go_enter Tryz.func67,Tryz.ntmps67
 go_wp2_with fail
 refine v.mono ?_
 rintro e w1 ⟨⟨F,rv,rfl⟩,q,i⟩
 have m:=qb (And.intro ((qa H).chan i q) (i.mono (fun k E e=>(qa H).inC k e)))
 clear v q i z
 go_wp2_with fail
 go_ret
 exact⟨rfl,(qa m).1,(qa m).2⟩
theorem q2w(g:Nat)(S:Nat→Prop)(l:Lk)(sp en lo:Nat)(SC SJ:Nat→Prop)(w:World)(h:LkP w g S l sp en lo SC SJ) :
  Calls Tryz.prog 70 #[.pointer (some ⟨g,0,none⟩)] w fun e w'=>e = .returned (.int .i64 0)∧(∃B,LkP w' g (Fr S w w') l.renewed B en lo SC SJ)∧Upd S w w':=by
 obtain⟨i,f⟩:∃i:World,i=w.alloc (.cells #[.string ⟨#[]⟩] 169):=⟨_,rfl⟩
 have K:qu w i:=by rw[f];exact(Upd.refl _ _).alloc _
 have V:SpR i w.heap.size ⟨#[]⟩:=by rw[f];exact qh _ _
 have N:=h.new K
 have T:i.cell? ⟨g,0,none⟩=some (.pointer (some ⟨sp,0,none⟩)):=qg N.at_ 0
 have U:=qo N.at_ 0
 have m:=h.resplit K V (Nat.le_refl _)
 have C:Upd (· = g) i (i.setCell ⟨g,0,none⟩ (.pointer (some ⟨w.heap.size,0,none⟩))):=(Upd.refl _ _).set1 _ _
 have H:=qb (And.intro m (((K.mono (fun _ _ h=>h.elim)).trans (C.mono (fun k _ e=>by have e:k=g:=e;rw[e];exact h.inG)):Upd S w _)))
 have z:=h.inG
 clear h N m C V K
 have R:=qb z
 clear z
 have ZB:=qb (show i.heap.size=w.heap.size+1 by rw[f];exact World.size_alloc _ _)
 rw[f] at T U
 go_enter Tryz.func70,Tryz.ntmps70
 go_upto_region 2 with fail
 rw[←f]
 clear T U f
 generalize i.setCell ⟨g,0,none⟩ (.pointer (some ⟨w.heap.size,0,none⟩))=F at H ⊢
 generalize w.heap.size=B at H ⊢
 obtain⟨m,C⟩:=qa H
 have X:F.cell? ⟨g,3,none⟩=some (.string l.out):=qg m.at_ 3
 have f3:=qo m.at_ 3
 have I:=m.put_out ⟨#[]⟩
 have Y:(F.setCell ⟨g,3,none⟩ (.string ⟨#[]⟩)).cell? ⟨g,5,none⟩=some (.int .i64 l.ticks):=qg I.at_ 5
 have f5:=qo I.at_ 5
 have p:=I.put_ticks 0
 have E:Upd S w ((F.setCell ⟨g,3,none⟩ (.string ⟨#[]⟩)).setCell ⟨g,5,none⟩ (.int .i64 0)):=C.trans (((Upd.refl (· = g) F).set1 3 _ |>.trans ((Upd.refl (· = g) _).set1 5 _)).mono (fun k _ e=>by have e:k=g:=e;rw[e];exact qa R))
 have M:=qb (And.intro p E)
 clear m C I p E H
 go_upto_region 3 with fail
 generalize (F.setCell ⟨g,3,none⟩ (.string ⟨#[]⟩)).setCell ⟨g,5,none⟩ (.int .i64 0)=q at M ⊢
 clear X f3 Y f5
 obtain⟨p,E⟩:=qa M
 have Z:q.cell? ⟨g,7,none⟩=some (.bool l.broken):=qg p.at_ 7
 have f7:=qo p.at_ 7
 have J:LkP (q.setCell ⟨g,7,none⟩ (.bool false)) g (Fr S w i) {l with rest:=⟨#[]⟩,out:=⟨#[]⟩,ticks:=0,broken:=false} B en lo SC SJ:=p.put rfl rfl rfl rfl
 have c8:(q.setCell ⟨g,7,none⟩ (.bool false)).cell? ⟨g,8,none⟩=some (.bool l.waits):=qg J.at_ 8
 have f8:=qo J.at_ 8
 have v:LkP ((q.setCell ⟨g,7,none⟩ (.bool false)).setCell ⟨g,8,none⟩ (.bool true)) g (Fr S w i) l.renewed B en lo SC SJ:=J.put rfl rfl rfl rfl
 have L:Upd S w ((q.setCell ⟨g,7,none⟩ (.bool false)).setCell ⟨g,8,none⟩ (.bool true)):=E.trans (((Upd.refl (· = g) q).set1 7 _ |>.trans ((Upd.refl (· = g) _).set1 8 _)).mono (fun k _ e=>by have e:k=g:=e;rw[e];exact qa R))
 have P:=qb (And.intro v L)
 clear p E J v L M
 go_upto_region 4 with fail
 generalize (q.setCell ⟨g,7,none⟩ (.bool false)).setCell ⟨g,8,none⟩ (.bool true)=w6 at P ⊢
 clear Z f7 c8 f8
 go_wp2_with fail
 go_ret
 obtain⟨v,L⟩:=qa P
 have W:=v.lt
 exact⟨rfl,⟨B,v.wider (fun k O=>O.elim .inl (fun e=> .inr ⟨e.1,W k (.inr e)⟩)) (fun k O=>O.elim (fun e=>W k (.inl e)) (fun e=>e.2))⟩,L⟩
attribute [local go_sem ↓ high] qy qz zb zf qae
attribute [local go_sem] qas qat qax qv qck
theorem q1q(C g:Nat)(S:Nat→Prop)(l:Lk)(sp en lo:Nat)(SC SJ:Nat→Prop)(w:World)(h:LkP w g S l sp en lo SC SJ)(P:SayOk (qa2 l.c))(hz:l.out.size≤1099511627776)(E:w.cell? ⟨C,0,none⟩=some (.pointer (some ⟨g,0,none⟩))) :
  Calls Tryz.prog 71 #[.pointer (some ⟨C,0,none⟩)] w fun e w'=>e = .returned (.int .i64 0)∧LkP w' g S {l with out:=l.out++qdw (qa2 l.c)} sp en lo SC SJ∧Upd (· = g) w w':=by
 have V:w.cell? ⟨g,1,none⟩=some (.pointer (some ⟨en,0,none⟩)):=qg h.at_ 1
 have F:=fun W (n:qu w W)=>qv3 ((h.new n).chn)
 have q:(qa2 l.c).hash.length=32:=P.put.ok.len
 have Z:=fun w' (n':qu w w') B hB hr=>qvf g B S l sp en lo SC SJ [qa2 l.c] w' (h.new n') (fun x M=>by rw[List.mem_singleton.1 M];exact P) (by simp) hz hr hB
 have H:=h.lt g h.inG
 generalize qa2 l.c=m at *
 have R:=m.len q
 have U:=qb Z
 have z:=qb H
 clear h Z hz P H
 go_enter Tryz.func71,Tryz.ntmps71
 go_upto_region 1 with fail
 have N:w.drew.cell? ⟨C,0,none⟩=some (.pointer (some ⟨g,0,none⟩)):=E
 have d1:w.drew.cell? ⟨g,1,none⟩=some (.pointer (some ⟨en,0,none⟩)):=V
 refine qaw (fun w'=>w'.cell? ⟨C,0,none⟩=some (.pointer (some ⟨g,0,none⟩))) [0] (.of [0,1,2,3,4,5,6,7,8]) (by kernel_rfl) (by kernel_rfl) N ?_
 simp only[Plan.of]
 go_wp2_with ((with_reducible first|rfl|refine' ut ?_ ?_;rotate_left|refine' uu ?_)<;>intros)
 refine(F w.drew ((Upd.refl (fun _=>False) w).drew)).mono ?_
 rintro e v ⟨rfl,I⟩
 have I:=I.ofDrew
 have O:v.cell? ⟨C,0,none⟩=some (.pointer (some ⟨g,0,none⟩)):=I.cell N (fun h=>h)
 have K:=qb I
 clear I F d1 V E N
 go_wp2_with (first | ((with_reducible first|rfl|refine' ut ?_ ?_;rotate_left|refine' uu ?_)<;>intros) | refine⟨O,?_⟩)
 have L:=qan v m q
 have J:qu v (v.alloc (.cells m.cells.toArray 101)):=(Upd.refl _ _).alloc _
 generalize v.alloc (.cells m.cells.toArray 101)=w3 at L J ⊢
 have p:v.heap.size≠g:=by have:=qa z;have:=(qa K).size;omega
 generalize v.heap.size=B at L p ⊢
 have X:=J.cell O (fun h=>h)
 have f:=qa U w3 ((qa K).trans J) B p (fun i x M=>by
  cases i with
  | zero =>
   obtain rfl:m=x:=by simpa using M
   exact L.row
  | succ i=>simp at M)
 have N3:=qb ((qa K).trans J)
 clear U L J K z p O R q
 refine⟨X,?_⟩
 go_wp2_with ((with_reducible first|rfl|refine' ut ?_ ?_;rotate_left|refine' uu ?_)<;>intros)
 refine f.mono ?_
 rintro e w4 ⟨rfl,Y,u4⟩
 have T:=qb (And.intro Y (((qa N3).mono (fun _ _ h=>h.elim)).trans u4))
 clear f Y u4 X
 go_wp2_with ((with_reducible first|rfl|refine' ut ?_ ?_;rotate_left|refine' uu ?_)<;>intros)
 go_ret
 exact⟨rfl,(qa T).1,(qa T).2⟩
end
section
open Go.RowKit
structure CSt(W:World)(g:Nat)(S:Nat→Prop)(en lo:Nat)(L:Lk)(a:World):Prop where
 upd:Upd S W a
 lk:∃sp SC SJ,LkP a g (Fr S W a) L sp en lo SC SJ
def zbx(i:Nat):Nat:=if i=0 then 67 else if i=1 then 112 else if i=2 then 70 else 71
def q4t(g:Nat)(i:Nat):Array Value:=if i=2 then #[.pointer (some ⟨g,0,none⟩)] else #[]
def qr7(p f m:Nat)(i:Nat):Array Value :=
 if i=1 then #[.pointer (some ⟨f,0,none⟩),.pointer (some ⟨m,0,none⟩)] else if i=2 then #[] else #[.pointer (some ⟨p,0,none⟩)]
def Lk.cut(l:Lk)(rec:ByteArray):Lk:= {({l with c:=l.c.cut,j:=l.j.app rec} : Lk).renewed with out:=qdw (qa2 l.c.cut)}
def zef(W:World)(g:Nat)(S:Nat→Prop)(en lo:Nat)(l:Lk)(rec:ByteArray)(i:Nat)(a:World):Prop :=
 if i=0 then qu W a else CSt W g S en lo (if i=1 then {l with c:=l.c.cut} else if i=2 then {l with c:=l.c.cut,j:=l.j.app rec} else if i=3 then ({l with c:=l.c.cut,j:=l.j.app rec} : Lk).renewed else l.cut rec) a
theorem qxf(g b F I J B:Nat)(S:Nat→Prop)(l:Lk)(Y:qns l.c)(sp en lo:Nat)(SC SJ:Nat→Prop)(xs:List ByteArray)(W:World)
  (h:LkP W g S l sp en lo SC SJ) (f:LkOkW l) (P:SayOk (qa2 l.c.cut)) (hT:Tabs W) (hA:ApD S)
  (cL:W.cell? ⟨F,0,none⟩=some (.pointer (some ⟨g,0,none⟩)))
  (c0:W.cell? ⟨I,0,none⟩=some (.pointer (some ⟨g,0,none⟩))) (c1:W.cell? ⟨J,0,none⟩=some (.slice (some ⟨B,0,none⟩) xs.length xs.length)) (hx:∀j x,xs[j]? = some x→W.cell? ⟨B,j,none⟩=some (.string x))
  (hn:xs.length≤1000) (Z:(zk xs).size≤1024) (O:qio W b 4 zbx (q4t g) (qr7 F I J))
  (H:¬S F∧¬S I∧¬S J∧¬S b∧¬S B) (a8:B<W.heap.size) (b3:b<W.heap.size) :
  Calls Tryz.prog 66 #[.pointer (some ⟨g,0,none⟩),.slice (some ⟨b,0,none⟩) 4 4] W fun e w'=>Upd (fun k=>S k∨W.heap.size≤k) W w'∧qtc 4 (zef W g S en lo l (zk xs)) (fun _ _=>False) e w':=by
 have C:=h.lt
 have X:∀ {a:World} {k:Nat},k<W.heap.size→¬S k→¬Fr S W a k:=fun f hs e=>e.elim hs (fun e=>by omega)
 have a6:∀ {a:World},Upd S W a→Tabs a:=fun u=>hT.upd u (fun e=>hA.c e) (fun e=>hA.d e)
 have R:∀ {a v:World} {L:Lk} {q:Nat} {m p:Nat→Prop},Upd S W a→a.heap.size≤v.heap.size→LkP v g (Fr (Fr S W a) a v) L q en lo m p→LkP v g (Fr S W v) L q en lo m p:=by
  intro a v L q m p u hz E;have b4:=u.size;exact E.wider (fun k f=>f.elim (fun e=>e.elim .inl (fun e=> .inr ⟨e.1,by omega⟩)) (fun e=> .inr ⟨by omega,e.2⟩)) (fun k f=>f.elim (fun e=>by have:=C k e;omega) (fun e=>e.2))
 refine qsa g b 4 zbx (q4t g) (qr7 F I J) (fun k=>S k∨W.heap.size≤k) _ _ W (by decide) (f.dead▸qg h.at_ 6) O ?_ ?_ ?_
 ·rintro (e | e)
  ·exact H.2.2.2.1 e
  ·omega
 ·intro i hi a T;rcases (by omega:i=0∨i=1∨i=2∨i=3) with rfl | rfl | rfl | rfl
  ·refine⟨enters_of Tryz.func67 (by kernel_rfl) rfl,?_⟩;have U:qu W a:=T;have hz:=U.size;refine(q1p F g S l Y sp en lo SC SJ a (h.new U) (U.cell cL (fun h=>h))).mono ?_;rintro e v ⟨rfl,h1,u1⟩;refine⟨u1.mono (fun k _ e=> .inl e),.inl ⟨rfl,?_⟩⟩;show CSt W g S en lo {l with c:=l.c.cut} v;have b5:=u1.size;exact⟨(U.mono (fun _ _ h=>h.elim)).trans u1,_,_,_,h1.wider (fun k f=>f.elim .inl (fun e=> .inr ⟨by omega,e.2⟩)) (fun k f=>f.elim (fun e=>by have:=C k e;omega) (fun e=>e.2))⟩
  ·refine⟨enters_of Tryz.func112 (by kernel_rfl) rfl,?_⟩;obtain⟨u,q,m,p,E⟩:CSt W g S en lo {l with c:=l.c.cut} a:=T;have z0:=u.size;have M:=World.block_lt_of_cell? W _ c0;refine(qqw I J B g (Fr S W a) {l with c:=l.c.cut} q en lo m p xs a E f.dead f.fused f.off ⟨f.many.1,by have:=f.many.2;show l.j.many<_;omega⟩ (by have:=f.len;show l.j.bs.size≤_;omega) (a6 u) hn Z
    (u.cell c0 H.2.1) (u.cell c1 H.2.2.1) (fun j x e=>u.cell (hx j x e) H.2.2.2.2) (by omega) (X M H.2.1)).mono ?_
   rintro e v ⟨rfl,⟨a7,K⟩,z⟩;have V:=z.size;refine⟨z.mono (fun k f e=>e.elim .inl (fun e=> .inr e.1)),.inl ⟨rfl,?_⟩⟩;show CSt W g S en lo {l with c:=l.c.cut,j:=l.j.app (zk xs)} v;exact⟨u.then z (fun k f e=>e.elim id (fun e=>by omega)),_,_,_,R u V K⟩
  ·refine⟨enters_of Tryz.func70 (by kernel_rfl) rfl,?_⟩;obtain⟨u,q,m,p,E⟩:CSt W g S en lo {l with c:=l.c.cut,j:=l.j.app (zk xs)} a:=T;refine(q2w g (Fr S W a) _ q en lo m p a E).mono ?_;rintro e v ⟨rfl,⟨B',K⟩,z⟩;have z0:=u.size;have V:=z.size;refine⟨z.mono (fun k f e=>e.elim .inl (fun e=> .inr e.1)),.inl ⟨rfl,?_⟩⟩;show CSt W g S en lo ({l with c:=l.c.cut,j:=l.j.app (zk xs)} : Lk).renewed v;exact⟨u.then z (fun k f e=>e.elim id (fun e=>by omega)),_,_,_,R u V K⟩
  ·refine⟨enters_of Tryz.func71 (by kernel_rfl) rfl,?_⟩;obtain⟨u,q,m,p,E⟩:CSt W g S en lo ({l with c:=l.c.cut,j:=l.j.app (zk xs)} : Lk).renewed a:=T;refine(q1q F g (Fr S W a) _ q en lo m p a E P (by show 0≤_;omega) (u.cell cL H.1)).mono ?_;rintro e v ⟨rfl,K,z⟩;have z0:=u.size;have V:=z.size;have N:=h.inG;refine⟨z.mono (fun k f e=> .inl (by have e:k=g:=e;rw[e];exact N)),.inl ⟨rfl,?_⟩⟩;show CSt W g S en lo (l.cut (zk xs)) v;have e0:(⟨#[]⟩:ByteArray)++qdw (qa2 l.c.cut)=qdw (qa2 l.c.cut):=ByteArray.empty_append;have h3:LkP v g (Fr S W a) (l.cut (zk xs)) q en lo m p:=by
    unfold Lk.cut;rw[←e0];exact K
   exact⟨u.then z (fun k f e=>by have e:k=g:=e;rw[e];exact N),_,_,_,h3.wider (fun k f=>f.elim .inl (fun e=> .inr ⟨e.1,by omega⟩)) (fun k f=>f.elim (fun e=>by have:=C k e;omega) (fun e=>e.2))⟩
 ·exact(Upd.refl _ _)
theorem q6i(g:Nat)(S:Nat→Prop)(l:Lk)(c1:qns l.c)(w:World)(h0:LkS w g S l)(q:LkOkW l)(f:SayOk (qa2 l.c.cut))(hT:Tabs w)(hA:ApD S) :
  Calls Tryz.prog 25 #[.pointer (some ⟨g,0,none⟩)] w fun e w'=>e = .returned (.int .i64 0)∧LkS w' g (Fr S w w') (l.cut (zc 7 1))∧Upd S w w':=by
 have c4:∀(fn:Fn) (first cap:Array Value) (w:World),(Instr.makeFunc fn first cap).run Tryz.prog w = .ok (.func fn first cap) w:=fun _ _ _ _=>rfl
 obtain⟨sp,en,lo,SC,SJ,h⟩:=h0
 have HX:=qb (And.intro h (And.intro q (And.intro f (And.intro hT hA))))
 have a8:=qb h.lt
 clear h q f hT hA
 go_enter Tryz.func25,Tryz.ntmps25
 go_upto_region 1 with fail
 have b0:=qh w (.cells #[.pointer (some ⟨g,0,none⟩)] 28)
 have N:qu w (w.alloc (.cells #[.pointer (some ⟨g,0,none⟩)] 28)):=(Upd.refl _ _).alloc _
 have z0:(w.alloc (.cells #[.pointer (some ⟨g,0,none⟩)] 28)).heap.size=w.heap.size+1:=World.size_alloc _ _
 generalize w.alloc (.cells #[.pointer (some ⟨g,0,none⟩)] 28)=w0 at b0 N z0 ⊢
 generalize a6:w.heap.size=p at b0 z0 ⊢
 have X:=qb (And.intro a6 (And.intro N z0))
 have d5:w0.drew.cell? ⟨p,0,none⟩=some (.pointer (some ⟨g,0,none⟩)):=qg b0 0
 clear a6 b0 N z0
 refine qaw (fun w'=>w'.cell? ⟨p,0,none⟩=some (.pointer (some ⟨g,0,none⟩))) [0,2,6] (.of [0,1,2,3,4,5,6,7,8,9,10,11]) (by kernel_rfl) (by kernel_rfl) d5 ?_
 simp only[Plan.of]
 go_wp2_with ((with_reducible first|rfl|refine' ut ?_ ?_;rotate_left|refine' uu ?_)<;>intros)
 refine(qbi 7 1 w0.drew (by decide) (by decide) (by decide)).mono ?_
 rintro e K ⟨rfl,n6⟩
 have n6:=n6.ofDrew
 have d6:K.cell? ⟨p,0,none⟩=some (.pointer (some ⟨g,0,none⟩)):=n6.cell d5 (fun h=>h)
 have H6:=qb n6
 clear n6 d5
 go_wp2_with (first | ((with_reducible first|rfl|refine' ut ?_ ?_;rotate_left|refine' uu ?_)<;>intros) | refine⟨d6,?_⟩)
 have L:=qh K (.cells #[.string (zc 7 1)] 9)
 have O:qu K (K.alloc (.cells #[.string (zc 7 1)] 9)):=(Upd.refl _ _).alloc _
 have V:(K.alloc (.cells #[.string (zc 7 1)] 9)).heap.size=K.heap.size+1:=World.size_alloc _ _
 generalize K.alloc (.cells #[.string (zc 7 1)] 9)=w7 at L O V ⊢
 generalize E:K.heap.size=B at L V ⊢
 have d7:=O.cell d6 (fun h=>h)
 have H7:=qb (And.intro L (And.intro O (And.intro V E)))
 clear L O V E d6
 refine⟨d7,?_⟩
 go_wp2_with ((with_reducible first|rfl|refine' ut ?_ ?_;rotate_left|refine' uu ?_)<;>intros)
 refine(qk3 g _ _ _ w7).mono ?_
 rintro e U ⟨Y,Z,rfl,P,v,C,F,H,p0,p1⟩
 have d8:=P.cell d7 (fun h=>h)
 have H8:=qb (And.intro P (And.intro v (And.intro C (And.intro F (And.intro H (And.intro p0 p1))))))
 clear P v C F H p0 p1 d7
 go_wp2_with (first | ((with_reducible first|rfl|refine' ut ?_ ?_;rotate_left|refine' uu ?_)<;>intros) | refine⟨d8,?_⟩)
 have M:=qh U (.cells #[.func (.func 67) #[] #[.pointer (some ⟨p,0,none⟩)],.func (.func 112) #[] #[.pointer (some ⟨Y,0,none⟩),.pointer (some ⟨Z,0,none⟩)],.func (.func 70) #[.pointer (some ⟨g,0,none⟩)] #[],.func (.func 71) #[] #[.pointer (some ⟨p,0,none⟩)]] 62)
 have T:qu U (U.alloc (.cells #[.func (.func 67) #[] #[.pointer (some ⟨p,0,none⟩)],.func (.func 112) #[] #[.pointer (some ⟨Y,0,none⟩),.pointer (some ⟨Z,0,none⟩)],.func (.func 70) #[.pointer (some ⟨g,0,none⟩)] #[],.func (.func 71) #[] #[.pointer (some ⟨p,0,none⟩)]] 62)):=(Upd.refl _ _).alloc _
 generalize U.alloc (.cells #[.func (.func 67) #[] #[.pointer (some ⟨p,0,none⟩)],.func (.func 112) #[] #[.pointer (some ⟨Y,0,none⟩),.pointer (some ⟨Z,0,none⟩)],.func (.func 70) #[.pointer (some ⟨g,0,none⟩)] #[],.func (.func 71) #[] #[.pointer (some ⟨p,0,none⟩)]] 62)=W at M T ⊢
 have d9:=T.cell d8 (fun h=>h)
 refine⟨d9,?_⟩
 obtain⟨h,q,f,hT,hA⟩:=qa HX
 obtain⟨a7,N,z0⟩:=qa X
 obtain⟨L,O,V,E⟩:=qa H7
 obtain⟨P,v,C,F,H,p0,p1⟩:=qa H8
 have I:=P.trans T
 have b6:=O.trans I
 have nn:qu w W:=N.trans ((qa H6).trans b6)
 have s6:=(qa H6).size
 have s8:=P.size
 have s0:=N.size
 have R:∀k,w.heap.size≤k→¬S k:=fun k q e=>by have:=qa a8 k e;omega
 have J:qio W U.heap.size 4 zbx (q4t g) (qr7 p Y Z):=by
  intro i hi;rcases (by omega:i=0∨i=1∨i=2∨i=3) with rfl | rfl | rfl | rfl
  ·exact qg M 0
  ·exact qg M 1
  ·exact qg M 2
  ·exact qg M 3
 have b5:∀j x,[zc 7 1][j]? = some x→W.cell? ⟨B,j,none⟩=some (.string x):=by
  intro j x e;rw[qg (I.old L (fun h=>h)) j]
  match j,e with
  | 0,e=>cases e;rfl
 have b3:(zk [zc 7 1]).size≤1024:=by rw[qy9,qak];decide
 have m:=qxf g U.heap.size p Y Z B S l c1 sp en lo SC SJ [zc 7 1] W (h.new nn) q f (hT.new nn) hA d9 (T.cell p0 (fun h=>h)) (T.cell p1 (fun h=>h)) b5 (by simp) b3 J
  ⟨R _ (by omega),R _ (by omega),R _ (by omega),R _ (by omega),R _ (by omega)⟩ (by have:=I.size;omega) (by have:=zr M;omega)
 rw[qy9] at m
 have NN:=qb nn
 have HC:=qb m
 clear m J b5 b3 R I b6 nn s6 s8 s0 h q f hT hA a7 N z0 L O V E P v C F H p0 p1 M T d8 d9 H6 H7 H8 HX X
 go_wp2_with ((with_reducible first|rfl|refine' ut ?_ ?_;rotate_left|refine' uu ?_)<;>intros)
 refine(qa HC).mono ?_
 rintro e w9 ⟨u9,(⟨rfl,b4⟩ | ⟨x,c5,rfl,hf⟩)⟩
 ·have HQ:=qb b4;clear u9 b4 HC;go_wp2_with ((with_reducible first|rfl|refine' ut ?_ ?_;rotate_left|refine' uu ?_)<;>intros);go_ret;obtain⟨u,c3,b8,c0,hl⟩:CSt W g S en lo (l.cut (zc 7 1)) w9:=qa HQ;have z:=(qa NN).size;have c2:=qa a8;refine⟨rfl,⟨c3,en,lo,b8,c0,hl.wider (fun k q=>q.elim .inl (fun e=> .inr ⟨by omega,e.2⟩)) (fun k q=>q.elim (fun e=>by have:=c2 k e;have:=u.size;omega) (fun e=>e.2))⟩,((qa NN).mono (fun _ _ h=>h.elim)).trans u⟩
 ·exact hf.elim
attribute [local go_sem ↓ high] qb2
attribute [local go_sem] qee
end
section
open Go.RowKit
attribute [local go_sem ↓ high] qb2
attribute [local go_sem] qee qv
end
section
open Go.RowKit
theorem q4r(g:Nat)(l:LinkV)(w:World)(h:LkR w g l) :
  Calls Tryz.prog 19 #[.pointer (some ⟨g,0,none⟩)] w (qay (.pointer (some ⟨l.en,0,none⟩)) w):=by
 have f:w.cell? ⟨g,1,none⟩=some (.pointer (some ⟨l.en,0,none⟩)):=qg h 1
 clear h
 go_enter Tryz.func19,Tryz.ntmps19
 go_wp2_with fail
 go_ret
 exact⟨rfl,Q.refl _⟩
attribute [local go_sem ↓ high] qba qbn qcf
attribute [local go_sem] qdk qd2 qfi qv
end
end Go.Proofs.YtfmkdoachjgjbaaGreatDoor
