/-
  A link that waits ticks.
-/
import Derived.Test.YtfmkdoachjgjbaaGreatDoorMdf
import Derived.Test.YtfmkdoachjgjbaaGreatDoorMda
import Derived.Test.YtfmkdoachjgjbaaGreatDoorLw2
set_option maxRecDepth 100000
set_option maxHeartbeats 2000000
set_option linter.unusedVariables false
set_option linter.unusedSimpArgs false
namespace Go.Proofs.YtfmkdoachjgjbaaGreatDoor
section
open Go.RowKit
theorem qyq(g:Nat)(S:Nat→Prop)(l:Lk)(n:Nat)(w:World)(h:LkS w g S l)(f:l.dead=false)(i:l.waits=true)(v:l.ticks=n)(r:n<1000000) :
  Calls Tryz.prog 28 #[.pointer (some ⟨g,0,none⟩)] w fun e w'=>e = .returned (.int .i64 0)∧LkS w' g S {l with ticks:=(n:Int)+1} ∧ Upd S w w':=by
 obtain⟨sp,en,lo,z,C,h⟩:=h
 have F:w.cell? ⟨g,6,none⟩=some (.bool false):=f▸qg h.at_ 6
 have E:w.cell? ⟨g,5,none⟩=some (.int .i64 (n:Int)):=by rw[←v];exact qg h.at_ 5
 have J:=qv h.at_ 5
 have u:Upd (· = g) w (w.setCell ⟨g,5,none⟩ (.int .i64 ((n:Int)+1))):=(Upd.refl _ _).set1 _ _
 have m:=h.put_ticks ((n:Int)+1)
 have H:(w.setCell ⟨g,5,none⟩ (.int .i64 ((n:Int)+1))).cell? ⟨g,5,none⟩=some (.int .i64 ((n:Int)+1)):=qg m.at_ 5
 have I:(w.setCell ⟨g,5,none⟩ (.int .i64 ((n:Int)+1))).cell? ⟨g,8,none⟩=some (.bool true):=i▸qg m.at_ 8
 have q:=qb (And.intro m (u.mono (T:=S) (fun k _ e=>by rw[e];exact h.inG)))
 have K:(n:Int)<1000000:=by omega
 clear h m u v r f i
 go_enter Tryz.func28,Tryz.ntmps28
 go_upto_region 4 with fail
 generalize w.setCell ⟨g,5,none⟩ (.int .i64 ((n:Int)+1))=w1 at H I q ⊢
 clear F E J
 go_wp2_with fail
 go_ret
 exact⟨rfl,⟨sp,en,lo,z,C,(qa q).1⟩,(qa q).2⟩
theorem q8e(g B:Nat)(S:Nat→Prop)(l:Lk)(sp en lo:Nat)(m q:Nat→Prop)(F:FuncId)(r f:Array Value)(xs:List ByteArray)(w:World)(h:LkP w g S l sp en lo m q)(i:l.dead=false∧l.waits=true) :
  Calls Tryz.prog 45 #[.pointer (some ⟨g,0,none⟩),.func (.func F) r f,.slice (some ⟨B,0,none⟩) xs.length xs.length] w fun e w'=>e = .returned (.tuple #[.agg MsgV.zero.cells.toArray,.int .i64 5])∧LkE w' g (Fr S w w') sp en lo l∧Upd S w w':=by
 refine(qtg g S l sp en lo m q F r f _ _ _ w h i.1 i.2).mono ?_
 rintro e w' ⟨rfl,n⟩
 have z:=n.size
 have v:=h.lt
 exact⟨rfl,⟨m,q,(h.new n).wider (fun k i=> .inl i) (fun k i=>i.elim (fun e=>by have:=v k e;omega) (fun e=>e.2))⟩,n.mono (fun _ _ h=>h.elim)⟩
attribute [local go_sem ↓ high] qz zb ze zi qak
attribute [local go_sem] qax qay qa4 qx qab qco
end
section
open Go.RowKit
attribute [local go_sem ↓ high] qz zb ze zi zl qag qaj
attribute [local go_sem] qax qay qa4 qab qn8 qbl qcl qcn qx
def qgv(id:Int)(p:List Int):MsgV:=⟨4,0,id,0,p,0,0⟩
def Ch.fulfill(c:Ch)(id:Int)(p:List Int):Ch × MsgV × Int:=match qde false id c.xs with
 | none=>(c,MsgV.zero,3)
 | some q=>if qeh p q.2.h.hash.toList=true then ((c.removed q.1 q.2 true).say (qgv id p),(qgv id p).on c.s.ch,0) else (c,MsgV.zero,132)
theorem q5k{c:Ch}{id:Int}{p:List Int}(h:qde false id c.xs=none):c.fulfill id p=(c,MsgV.zero,3):=by unfold Ch.fulfill;rw[h]
theorem qt2{c:Ch}{id:Int}{p:List Int}{i:Nat}{x:Live}(h:qde false id c.xs=some (i,x)):c.fulfill id p=if qeh p x.h.hash.toList=true then ((c.removed i x true).say (qgv id p),(qgv id p).on c.s.ch,0) else (c,MsgV.zero,132):=by unfold Ch.fulfill;rw[h]
theorem qt3(g:Nat)(S:Nat→Prop)(c:Ch)(id:Int)(pre:List Int)(r:pre.length=32)(w:World)(h:ChS w g S c)(hT:Tb w)(b4:c.news.length<1000000) :
  Calls Tryz.prog 55 #[.pointer (some ⟨g,0,none⟩),.int .u64 id,.agg (qu pre).toArray] w fun e w' =>
   e = .returned (.tuple #[.agg (c.fulfill id pre).2.1.cells.toArray,.int .i64 (c.fulfill id pre).2.2])∧ChS w' g (Fr S w w') (c.fulfill id pre).1∧Upd S w w':=by
 obtain⟨P,nv,av,h⟩:=h
 go_enter Tryz.func55,Tryz.ntmps55
 go_upto_region 1 with fail
 have hD:=(qb7 w pre r).new ((Upd.refl _ _).alloc (.cells MsgV.zero.cells.toArray 101))
 have N:=zt (w.alloc (.cells (qu pre).toArray 35)) MsgV.zero qm
 rw[World.size_alloc] at N
 have R:qq w ((w.alloc (.cells (qu pre).toArray 35)).alloc (.cells MsgV.zero.cells.toArray 101)):=((Upd.refl _ _).alloc _).alloc _
 generalize (w.alloc (.cells (qu pre).toArray 35)).alloc (.cells MsgV.zero.cells.toArray 101)=w1 at hD N R ⊢
 obtain⟨D,b3⟩:∃D,D=w.heap.size:=⟨_,rfl⟩
 obtain⟨B,a8⟩:∃B,B=w.heap.size+1:=⟨_,rfl⟩
 rw[←a8] at N ⊢
 rw[←b3] at hD ⊢
 have c3:w.heap.size≤B:=by omega
 have c4:w.heap.size≤D:=by omega
 have c6:g≠B:=by have:=h.lt g h.inG;omega
 have z:¬S B:=fun e=>by have:=h.lt B e;omega
 have b9:¬S D:=fun e=>by have:=h.lt D e;omega
 clear a8 b3
 have h1:=h.new R
 have I:=hT.new R
 have hb:=qkm g S c false id w1 ⟨P,nv,av,h1⟩
 have bad:∀(W:World),qq w1 W →
   stOk W B 0 38 MsgV.zero.cells.toArray=true∧MsB (W.setCells B 0 MsgV.zero.cells) B MsgV.zero∧ChS (W.setCells B 0 MsgV.zero.cells) g (Fr S w (W.setCells B 0 MsgV.zero.cells)) c∧Upd S w (W.setCells B 0 MsgV.zero.cells):=by
  intro W nW
  have hb:=N.new nW
  have u:=zc (w:=W) (b:=B) MsgV.zero.cells
  exact⟨hb.stOk qm,hb.put qm,ChS.frW (w1:=w) ⟨P,nv,av,((h1.new nW).upd u (fun k K e=>by rw[e] at K;exact z K))⟩,((R.trans nW).mono (T:=S) (fun _ _ h=>h.elim)).then u (fun i J e=>by omega)⟩
 have C:=qb bad
 have HB:=qb N
 have HD:=qb hD
 have HI:=qb h.inL
 have H1:=qb h1
 have c2:=qb h.lt
 have N1:=qb R
 have b8:=qb h.ok
 have c5:(c.xs.length:Int)≤1000000:=by have:=h.ok.few;omega
 clear h h1 N R bad hD hT
 go_wp2_with fail
 refine hb.mono ?_
 rintro e w2 ⟨rfl,M⟩
 clear hb
 cases O:qde false id c.xs with
 | none =>
  have J:=qhv O;obtain⟨L,f,E,hU⟩:=qa C w2 M;have X:=qb (q5k (p:=pre) O);have Y:=qb f;have V:=qb E;have HU:=qb hU;rw[J];clear f E hU M O J I;go_wp2_with (with_reducible first|(first|refine' tw1 (qh ?_) ?_|refine' tw2 (qh ?_) ?_);rotate_left|refine' tw3 (qh ?_)|rfl|apply tn|refine' tw4 ?_);have f:=qa Y;refine bodyPost_ret (qy rfl _ _ B _ _ _ _ rfl f.at_ Tryz.underlying101 rfl (by rw[f.agg];exact Tryz.infoMsg)) rfl ?_;rw[qa X];exact⟨rfl,qa V,qa HU⟩
 | some pr =>
  obtain⟨i,x⟩:=pr;obtain⟨J,q,-⟩:=qhw O;have h2:=(qa H1).new M;rw[J];have c8:=(List.getElem?_eq_some_iff.1 q).1;obtain⟨gl,cap,c0,rh⟩:=h2.hash q;have a7:w2.cell? ⟨g,47,none⟩=some P:=h2.toR.live;rw[c0] at a7;have c7:(i:Int)<(c.xs.length:Int):=by omega
  have b5:=((qa b8).xs x (List.mem_of_getElem? q)).h.hash;have Z:=qb (fun W (nW:qq w2 W)=>qqy pre x.h.hash.toList r (by simp) b5 W ((I.new M).new nW).tabs);have a6:=qb (fun W (hW:ChP W g S c P nv av)=>qh9 g S c P nv av i x true W hW q);have X:=qb (qt2 (p:=pre) O);have RA:=qb (((qa HD).new M).row);have RH:=qb rh;have N2:=qb M;have H2:=qb h2;clear M O J q h2 rh b5 I;go_upto_region 4 with (with_reducible first|(first|refine' tw1 (qh ?_) ?_|refine' tw2 (qh ?_) ?_);rotate_left|refine' tw3 (qh ?_)|rfl|apply tn|refine' tw4 ?_);have rA:=qa RA;have rh:=qa RH;clear RA RH;go_wp2_with (with_reducible first|(first|refine' tw1 (qh ?_) ?_|refine' tw2 (qh ?_) ?_);rotate_left|refine' tw3 (qh ?_)|rfl|apply tn|refine' tw4 ?_);refine(qa Z _ ((Upd.refl _ _).drew)).mono ?_;rintro e w3 ⟨rfl,n3⟩;have h3:=((qa H2).new ((Upd.refl (fun _=>False) w2).drew)).new n3;have b6:qq w2 w3:=n3.ofDrew;have v:=qa a6 w3 h3;have N3:=qb ((qa N2).trans b6);clear a7 rA rh h3 n3 b6 Z a6;cases hO:qeh pre x.h.hash.toList with
  | false =>
   obtain⟨L,f,E,hU⟩:=qa C w3 (qa N3);have F:Hid (c.fulfill id pre=(c,MsgV.zero,132)):=qb (by rw[qa X,hO];simp);have Y:=qb f;have V:=qb E;have HU:=qb hU;clear v f E hU hO;go_wp2_with (with_reducible first|(first|refine' tw1 (qh ?_) ?_|refine' tw2 (qh ?_) ?_);rotate_left|refine' tw3 (qh ?_)|rfl|apply tn|refine' tw4 ?_);have f:=qa Y;refine bodyPost_ret (qy rfl _ _ B _ _ _ _ rfl f.at_ Tryz.underlying101 rfl (by rw[f.agg];exact Tryz.infoMsg)) rfl ?_;rw[qa F];exact⟨rfl,qa V,qa HU⟩
  | true =>
   have F:Hid (c.fulfill id pre=((c.removed i x true).say (qgv id pre),(qgv id pre).on c.s.ch,0)):=qb (by rw[qa X,hO];simp);clear hO X;go_wp2_with (with_reducible first|(first|refine' tw1 (qh ?_) ?_|refine' tw2 (qh ?_) ?_);rotate_left|refine' tw3 (qh ?_)|rfl|apply tn|refine' tw4 ?_);refine v.mono ?_;rintro e w4 ⟨rfl,h4,u4⟩;have m:=qnx g S (c.removed i x true) (qgv id pre) r w4 ⟨P,nv,av,h4⟩ b4;have U4:=qb ((((qa N1).trans (qa N3)).mono (T:=S) (fun _ _ h=>h.elim)).trans (u4.mono (T:=S) (fun k _ e=>qa HI k e)));have U:=qb (((qa HB).new (qa N3)).upd u4 (fun e=>z (qa HI B e)));have b7:=qb (((qa HD).new (qa N3)).upd u4 (fun e=>b9 (qa HI D e)));have bf:=fun W=>qn8 4 id pre r W
   clear v h4 u4;unfold qgv at m;go_upto_region 7 with (with_reducible first|(first|refine' tw1 (qh ?_) ?_|refine' tw2 (qh ?_) ?_);rotate_left|refine' tw3 (qh ?_)|rfl|apply tn|refine' tw4 ?_);have rD:=(qa b7).row;go_wp2_with (with_reducible first|(first|refine' tw1 (qh ?_) ?_|refine' tw2 (qh ?_) ?_);rotate_left|refine' tw3 (qh ?_)|rfl|apply tn|refine' tw4 ?_);refine m.mono ?_;rintro e w5 ⟨rfl,h5,u5⟩;have hl:((qgv id pre).on (c.removed i x true).s.ch).hash.length=32:=r;have H:=(qa U).upd u5 z;have L:=H.stOk hl;have f:=H.put hl;have u6:=zc (w:=w5) (b:=B) ((qgv id pre).on (c.removed i x true).s.ch).cells;have Y:=qb f;have c1:=(qa U4).size;have E:=h5.upd u6 (fun k K e=>by
    rcases K with K | K
    ·exact z (e▸K)
    ·have:=(qa U).lt;omega)
   have V:=qb ((E.grow u6.size).later c1);have HU:=qb (((qa U4).trans u5).then u6 (fun i J e=>by omega));change stOk w5 B 0 38 ((⟨4,0,id,0,pre,0,0⟩:MsgV).on (c.removed i x true).s.ch).cells.toArray=true at L;clear m h5 u5 H f u6 E hl rD bf;go_wp2_with (with_reducible first|(first|refine' tw1 (qh ?_) ?_|refine' tw2 (qh ?_) ?_);rotate_left|refine' tw3 (qh ?_)|rfl|apply tn|refine' tw4 ?_);have f:=qa Y;refine bodyPost_ret (qy rfl _ _ B _ _ _ _ rfl f.at_ Tryz.underlying101 rfl (by rw[f.agg];exact Tryz.infoMsg)) rfl ?_;rw[qa F];exact⟨rfl,qa V,qa HU⟩
end
section
open Go.RowKit
attribute [local go_sem ↓ high] qz zb ze zi qak zl
attribute [local go_sem] qax qay qa4 qx qab qco qbl
theorem qsd(L N J g en:Nat)(F:Nat→Prop)(c c':Ch)(M:MsgV)(er:Int)(n:Int)(h:List Int)(w:World)(I:∀k,F k→k<w.heap.size)(q:M.hash.length=32)
  (f:∀w',qq w w'→Calls Tryz.prog 55 #[.pointer (some ⟨en,0,none⟩),.int .u64 n,.agg (qu h).toArray] w' fun e r=>e = .returned (.tuple #[.agg M.cells.toArray,.int .i64 er])∧ChS r en (Fr F w' r) c'∧Upd F w' r)
  (R:w.cell? ⟨L,0,none⟩=some (.pointer (some ⟨g,0,none⟩))) (O:w.cell? ⟨g,1,none⟩=some (.pointer (some ⟨en,0,none⟩))) (S:w.cell? ⟨N,0,none⟩=some (.int .u64 n)) (P:zf w J 0 32=some (qu h).toArray) :
  Calls Tryz.prog 54 (#[]++#[.pointer (some ⟨L,0,none⟩),.pointer (some ⟨N,0,none⟩),.pointer (some ⟨J,0,none⟩)]) w fun e w'=>SaysIt en F M er c' e w w':=by
 have m:qq w (w.alloc (.cells MsgV.zero.cells.toArray 101)):=(Upd.refl _ _).alloc _
 have b1:=zt w MsgV.zero qm
 have V:w.heap.size<(w.alloc (.cells MsgV.zero.cells.toArray 101)).heap.size:=by rw[World.size_alloc];omega
 have Y:=qb I
 clear I
 show Calls Tryz.prog 54 #[.pointer (some ⟨L,0,none⟩),.pointer (some ⟨N,0,none⟩),.pointer (some ⟨J,0,none⟩)] w _
 go_enter Tryz.func54,Tryz.ntmps54
 go_upto_region 1 with fail
 generalize w.alloc (.cells MsgV.zero.cells.toArray 101)=w1 at m b1 V ⊢
 replace R:=m.cell R (fun h=>h)
 replace O:=m.cell O (fun h=>h)
 replace S:=m.cell S (fun h=>h)
 replace P:=qap P m (fun h=>h)
 replace f:=f w1.drew m.drew
 obtain⟨K,e⟩:∃K,K=w.heap.size:=⟨_,rfl⟩
 rw[←e] at b1 V ⊢
 have E:=qb e
 clear e
 go_wp2_with (with_reducible first|(first|refine' tw1 (qh ?_) ?_|refine' tw2 (qh ?_) ?_);rotate_left|refine' tw3 (qh ?_)|rfl|apply tn|refine' tw4 ?_)
 refine f.mono ?_
 rintro e T ⟨rfl,i,z⟩
 have W:=z.size
 have z1:=m.size
 have H:¬F K:=fun e=>by have:=qa Y K e;have:=qa E;omega
 have b2:=b1.upd z.ofDrew H
 have a6:=b2.stOk q
 have U:=b2.put q
 have C:Upd (· = K) T (T.setCells K 0 M.cells):=zc _
 have hF:=U.at_
 have X:=qb (And.intro i (And.intro z C))
 have z3:=C.size
 clear f i z b2 U C R O S P b1
 go_wp2_with (with_reducible first|(first|refine' tw1 (qh ?_) ?_|refine' tw2 (qh ?_) ?_);rotate_left|refine' tw3 (qh ?_)|rfl|apply tn|refine' tw4 ?_)
 refine bodyPost_ret (qy rfl _ _ K _ _ _ _ rfl hF Tryz.underlying101 rfl (by rw[List.size_toArray,M.len q];exact Tryz.infoMsg)) rfl ?_
 obtain⟨i,z,C⟩:=qa X
 have e:=qa E
 have W:w1.heap.size≤T.heap.size:=W
 refine⟨rfl,?_,((m.mono (fun _ _ h=>h.elim)).trans z.ofDrew).then C (fun k v e=>by omega)⟩
 have Z:=i.upd C (fun k v e=>by
  rcases v with v | v
  ·exact H (e▸v)
  ·have:w1.heap.size≤k:=v.1;omega)
 exact ChS.later (ChS.grow (w0:=w1) Z z3) z1
theorem q0o(J L N g en:Nat)(F:Nat→Prop)(c c':Ch)(M:MsgV)(er:Int)(n x:Int)(w:World)(I:∀k,F k→k<w.heap.size)(q:M.hash.length=32)
  (f:∀w',qq w w'→Calls Tryz.prog 53 #[.pointer (some ⟨en,0,none⟩),.int .u64 n,.int .i64 x] w' fun e r=>e = .returned (.tuple #[.agg M.cells.toArray,.int .i64 er])∧ChS r en (Fr F w' r) c'∧Upd F w' r)
  (P:w.cell? ⟨J,0,none⟩=some (.pointer (some ⟨g,0,none⟩))) (O:w.cell? ⟨g,1,none⟩=some (.pointer (some ⟨en,0,none⟩))) (R:w.cell? ⟨L,0,none⟩=some (.int .u64 n)) (S:w.cell? ⟨N,0,none⟩=some (.int .i64 x)) :
  Calls Tryz.prog 52 (#[]++#[.pointer (some ⟨J,0,none⟩),.pointer (some ⟨L,0,none⟩),.pointer (some ⟨N,0,none⟩)]) w fun e w'=>SaysIt en F M er c' e w w':=by
 have m:qq w (w.alloc (.cells MsgV.zero.cells.toArray 101)):=(Upd.refl _ _).alloc _
 have b1:=zt w MsgV.zero qm
 have V:w.heap.size<(w.alloc (.cells MsgV.zero.cells.toArray 101)).heap.size:=by rw[World.size_alloc];omega
 have Y:=qb I
 clear I
 show Calls Tryz.prog 52 #[.pointer (some ⟨J,0,none⟩),.pointer (some ⟨L,0,none⟩),.pointer (some ⟨N,0,none⟩)] w _
 go_enter Tryz.func52,Tryz.ntmps52
 go_upto_region 1 with fail
 generalize w.alloc (.cells MsgV.zero.cells.toArray 101)=w1 at m b1 V ⊢
 replace P:=m.cell P (fun h=>h)
 replace O:=m.cell O (fun h=>h)
 replace R:=m.cell R (fun h=>h)
 replace S:=m.cell S (fun h=>h)
 replace f:=f w1.drew m.drew
 obtain⟨K,e⟩:∃K,K=w.heap.size:=⟨_,rfl⟩
 rw[←e] at b1 V ⊢
 have E:=qb e
 clear e
 go_wp2_with (with_reducible first|(first|refine' tw1 (qh ?_) ?_|refine' tw2 (qh ?_) ?_);rotate_left|refine' tw3 (qh ?_)|rfl|apply tn|refine' tw4 ?_)
 refine f.mono ?_
 rintro e T ⟨rfl,i,z⟩
 have W:=z.size
 have z1:=m.size
 have H:¬F K:=fun e=>by have:=qa Y K e;have:=qa E;omega
 have b2:=b1.upd z.ofDrew H
 have a6:=b2.stOk q
 have U:=b2.put q
 have C:Upd (· = K) T (T.setCells K 0 M.cells):=zc _
 have hF:=U.at_
 have X:=qb (And.intro i (And.intro z C))
 have z3:=C.size
 clear f i z b2 U C P O R S b1
 go_wp2_with (with_reducible first|(first|refine' tw1 (qh ?_) ?_|refine' tw2 (qh ?_) ?_);rotate_left|refine' tw3 (qh ?_)|rfl|apply tn|refine' tw4 ?_)
 refine bodyPost_ret (qy rfl _ _ K _ _ _ _ rfl hF Tryz.underlying101 rfl (by rw[List.size_toArray,M.len q];exact Tryz.infoMsg)) rfl ?_
 obtain⟨i,z,C⟩:=qa X
 have e:=qa E
 have W:w1.heap.size≤T.heap.size:=W
 refine⟨rfl,?_,((m.mono (fun _ _ h=>h.elim)).trans z.ofDrew).then C (fun k v e=>by omega)⟩
 have Z:=i.upd C (fun k v e=>by
  rcases v with v | v
  ·exact H (e▸v)
  ·have:w1.heap.size≤k:=v.1;omega)
 exact ChS.later (ChS.grow (w0:=w1) Z z3) z1
theorem qxz(L N J O g en:Nat)(F:Nat→Prop)(c c':Ch)(M:MsgV)(er:Int)(n x:Int)(h:List Int)(w:World)(I:∀k,F k→k<w.heap.size)(q:M.hash.length=32)
  (f:∀w',qq w w'→Calls Tryz.prog 47 #[.pointer (some ⟨en,0,none⟩),.int .u64 n,.agg (qu h).toArray,.int .i64 x] w' fun e r=>e = .returned (.tuple #[.agg M.cells.toArray,.int .i64 er])∧ChS r en (Fr F w' r) c'∧Upd F w' r)
  (S:w.cell? ⟨L,0,none⟩=some (.pointer (some ⟨g,0,none⟩))) (P:w.cell? ⟨g,1,none⟩=some (.pointer (some ⟨en,0,none⟩))) (T:w.cell? ⟨N,0,none⟩=some (.int .u64 n)) (R:zf w J 0 32=some (qu h).toArray) (U:w.cell? ⟨O,0,none⟩=some (.int .i64 x)) :
  Calls Tryz.prog 46 (#[]++#[.pointer (some ⟨L,0,none⟩),.pointer (some ⟨N,0,none⟩),.pointer (some ⟨J,0,none⟩),.pointer (some ⟨O,0,none⟩)]) w fun e w'=>SaysIt en F M er c' e w w':=by
 have m:qq w (w.alloc (.cells MsgV.zero.cells.toArray 101)):=(Upd.refl _ _).alloc _
 have b1:=zt w MsgV.zero qm
 have X:w.heap.size<(w.alloc (.cells MsgV.zero.cells.toArray 101)).heap.size:=by rw[World.size_alloc];omega
 have HS:=qb I
 clear I
 show Calls Tryz.prog 46 #[.pointer (some ⟨L,0,none⟩),.pointer (some ⟨N,0,none⟩),.pointer (some ⟨J,0,none⟩),.pointer (some ⟨O,0,none⟩)] w _
 go_enter Tryz.func46,Tryz.ntmps46
 go_upto_region 1 with fail
 generalize w.alloc (.cells MsgV.zero.cells.toArray 101)=w1 at m b1 X ⊢
 replace S:=m.cell S (fun h=>h)
 replace P:=m.cell P (fun h=>h)
 replace T:=m.cell T (fun h=>h)
 replace R:=qap R m (fun h=>h)
 replace U:=m.cell U (fun h=>h)
 replace f:=f w1.drew m.drew
 obtain⟨K,e⟩:∃K,K=w.heap.size:=⟨_,rfl⟩
 rw[←e] at b1 X ⊢
 have E:=qb e
 clear e
 go_wp2_with (with_reducible first|(first|refine' tw1 (qh ?_) ?_|refine' tw2 (qh ?_) ?_);rotate_left|refine' tw3 (qh ?_)|rfl|apply tn|refine' tw4 ?_)
 refine f.mono ?_
 rintro e V ⟨rfl,i,z⟩
 have Y:=z.size
 have z1:=m.size
 have H:¬F K:=fun e=>by have:=qa HS K e;have:=qa E;omega
 have b2:=b1.upd z.ofDrew H
 have a6:=b2.stOk q
 have W:=b2.put q
 have C:Upd (· = K) V (V.setCells K 0 M.cells):=zc _
 have hF:=W.at_
 have Z:=qb (And.intro i (And.intro z C))
 have z3:=C.size
 clear f i z b2 W C S P T R U b1
 go_wp2_with (with_reducible first|(first|refine' tw1 (qh ?_) ?_|refine' tw2 (qh ?_) ?_);rotate_left|refine' tw3 (qh ?_)|rfl|apply tn|refine' tw4 ?_)
 refine bodyPost_ret (qy rfl _ _ K _ _ _ _ rfl hF Tryz.underlying101 rfl (by rw[List.size_toArray,M.len q];exact Tryz.infoMsg)) rfl ?_
 obtain⟨i,z,C⟩:=qa Z
 have e:=qa E
 have Y:w1.heap.size≤V.heap.size:=Y
 refine⟨rfl,?_,((m.mono (fun _ _ h=>h.elim)).trans z.ofDrew).then C (fun k v e=>by omega)⟩
 have h3:=i.upd C (fun k v e=>by
  rcases v with v | v
  ·exact H (e▸v)
  ·have:w1.heap.size≤k:=v.1;omega)
 exact ChS.later (ChS.grow (w0:=w1) h3 z3) z1
def Lk.actW(l:Lk)(r:Ch × MsgV × Int)(rec:ByteArray):Lk × MsgV × Int:=if l.waits=true then (l,MsgV.zero,5) else (l.acts r.1 rec r.2.1 r.2.2,qro r.2.1 r.2.2,r.2.2)
theorem qn2{l:Lk}{r:Ch × MsgV × Int}{rec:ByteArray}(h:r.2.1.hash.length=32):(l.actW r rec).2.1.hash.length=32:=by
 unfold Lk.actW;split
 ·exact qm
 ·exact qtf h
theorem qrp(l:Lk)(ev:Value)(r:Ch × MsgV × Int)(rec:ByteArray):Lk.actW {l with ev:=ev} r rec=({(l.actW r rec).1 with ev:=ev},(l.actW r rec).2):=by
 unfold Lk.actW;by_cases h:l.waits=true
 ·rw[if_pos h,if_pos h]
 ·rw[if_neg h,if_neg h];unfold Lk.acts;by_cases f:r.2.2=0
  ·rw[if_pos f,if_pos f];rfl
  ·rw[if_neg f,if_neg f]
theorem qrq(g B:Nat)(S:Nat→Prop)(l:Lk)(sp en lo:Nat)(q z:Nat→Prop)(F:FuncId)(v f:Array Value)(r:Ch × MsgV × Int)(xs:List ByteArray)(w:World)
  (h:LkP w g S l sp en lo q z) (i:LkOkW l) (I:r.2.1.hash.length=32) (m:r.2.2=0→SayOk r.2.1) (O:Tabs w) (M:ApD S)
  (H:∀args w,(callFunc F args).run Tryz.prog w = .ok (.enter F args) w) (N:∀a,qq w a→Calls Tryz.prog F (v++f) a fun e L=>SaysIt en q r.2.1 r.2.2 r.1 e a L)
  (R:∀j x,xs[j]? = some x→w.cell? ⟨B,j,none⟩=some (.string x)) (P:xs.length≤1000) (J:(zq xs).size≤1024) (E:B<w.heap.size) (C:¬S B) :
  Calls Tryz.prog 45 #[.pointer (some ⟨g,0,none⟩),.func (.func F) v f,.slice (some ⟨B,0,none⟩) xs.length xs.length] w fun e w'=>e = .returned (.tuple #[.agg (l.actW r (zq xs)).2.1.cells.toArray,.int .i64 (l.actW r (zq xs)).2.2])∧LkE w' g (Fr S w w') sp en lo (l.actW r (zq xs)).1∧Upd S w w':=by
 unfold Lk.actW
 cases K:l.waits with
 | true =>
  rw[if_pos rfl];exact q8e g B S l sp en lo q z F v f xs w h ⟨i.dead,K⟩
 | false =>
  rw[if_neg (by decide)];exact qn3 g B S l sp en lo q z F v f r.2.1 r.2.2 r.1 xs w h ⟨i.dead,K,i.fused,i.off,i.many,i.len,i.out⟩ I m O M H N R P J E C
theorem zda{a b c x:ByteArray}{w:World}{B j:Nat}(f:[a,b,c][j]? = some x)(i:w.heap[B]? = some (.cells #[.string a,.string b,.string c] 9 (0,0))):w.cell? ⟨B,j,none⟩=some (.string x):=by
 rw[qg i]
 match j,f with
 | 0,f=>exact congrArg (fun y=>some (Value.string y)) (show a=x from by simpa using f)
 | 1,f=>exact congrArg (fun y=>some (Value.string y)) (show b=x from by simpa using f)
 | 2,f=>exact congrArg (fun y=>some (Value.string y)) (show c=x from by simpa using f)
 | j+3,f=>simp at f
theorem zdb{a b c d x:ByteArray}{w:World}{B j:Nat}(f:[a,b,c,d][j]? = some x)(i:w.heap[B]? = some (.cells #[.string a,.string b,.string c,.string d] 9 (0,0))):w.cell? ⟨B,j,none⟩=some (.string x):=by
 rw[qg i]
 match j,f with
 | 0,f=>exact congrArg (fun y=>some (Value.string y)) (show a=x from by simpa using f)
 | 1,f=>exact congrArg (fun y=>some (Value.string y)) (show b=x from by simpa using f)
 | 2,f=>exact congrArg (fun y=>some (Value.string y)) (show c=x from by simpa using f)
 | 3,f=>exact congrArg (fun y=>some (Value.string y)) (show d=x from by simpa using f)
 | j+4,f=>simp at f
theorem qzi(n f:Nat)(h:f≤8):(qb0 n f).size≤8:=Nat.le_trans (q2b n f) h
def ql4(n:Nat)(h:List Int):List ByteArray:=[qw 2 1,qw n 8,strOfNums h]
def ql5(n r:Nat):List ByteArray:=[qw 3 1,qw n 8,qb0 r 2]
def qgb(n r:Nat)(h:List Int):List ByteArray:=[qw 1 1,qw n 8,strOfNums h,qb0 r 4]
theorem qq3{n:Nat}{h:List Int}(f:h.length=32):(zq (ql4 n h)).size≤1024:=by
 unfold ql4 zq zq zq zq;simp only[ByteArray.size_append,qat,strOfNums_size,f];decide
theorem qq4{n r:Nat} : (zq (ql5 n r)).size≤1024:=by
 have:=qzi r 2 (by decide);have f:(⟨#[]⟩:ByteArray).size=0:=rfl;unfold ql5 zq zq zq zq;simp only[ByteArray.size_append,qat];omega
theorem qo6{n r:Nat}{h:List Int}(f:h.length=32):(zq (qgb n r h)).size≤1024:=by
 have:=qzi r 4 (by decide);have i:(⟨#[]⟩:ByteArray).size=0:=rfl;unfold qgb zq zq zq zq zq;simp only[ByteArray.size_append,qat,strOfNums_size,f];omega
theorem LkV.lift{w w':World}{g:Nat}{S f:Nat→Prop}{l L:Lk}{ev:Value}{es:List EvV}{sp en lo:Nat}{F H:Nat→Prop}(h:LvP w g S f l ev es sp en lo F H)(u:Upd f w w')(v:LkS w' g (Fr f w w') {L with ev:=ev}):LkV w' g (Fr S w w') L es∧Upd S w w':=by
 obtain⟨C,q,z,i,m,v⟩:=v;have I:=u.size;have r:=h.row.lt;refine⟨⟨C,q,z,_,i,m,ev,v,h.row.upd u h.out,?_,fun k e=> .inl (h.inE k e),fun k e=>e.imp (h.in0 k) id,?_⟩,u.mono (fun k _ e=>h.in0 k e)⟩
 ·intro k e E;have:=r k e;exact E.elim (h.out k e) (fun E=>by omega)
 ·rintro k (e | e)
  ·have:=h.lt k e;omega
  ·exact e.2
theorem zdw(g:Nat)(S:Nat→Prop)(l:Lk)(es:List EvV)(n:Nat)(p:List Int)(w:World)(h:LkV w g S l es)(z:LkOkW l)(E:p.length=32)(N:n<2 ^ (8*8))(H:(l.c.fulfill n p).2.2=0→SayOk (l.c.fulfill n p).2.1)(q:(l.c.fulfill n p).2.1.hash.length=32)(C:l.c.news.length<1000000∧l.c.xs.length<1000000)(V:Tb w)(U:ApD S) :
  Calls Tryz.prog 18 #[.pointer (some ⟨g,0,none⟩),.int .u64 (n:Int),.agg (qu p).toArray] w fun e w'=>e = .returned (.int .i64 (l.actW (l.c.fulfill n p) (zq (ql4 n p))).2.2)∧LkV w' g (Fr S w w') (l.actW (l.c.fulfill n p) (zq (ql4 n p))).1 es∧Upd S w w':=by
 obtain⟨sp,en,lo,I,J,Z,ev,h⟩:=h
 have f:=h.lk
 have F:=f.lt
 have L:=f.chn.lt
 have cE:w.cell? ⟨g,1,none⟩=some (.pointer (some ⟨en,0,none⟩)):=qg f.at_ 1
 have K:ApD I:=⟨fun e=>U.c (h.in0 _ e),fun e=>U.d (h.in0 _ e)⟩
 have M:=qrp l ev (l.c.fulfill n p) (zq (ql4 n p))
 refine(qsm g I n p (l.actW (l.c.fulfill n p) (zq (ql4 n p))).2.1 (l.actW (l.c.fulfill n p) (zq (ql4 n p))).2.2 {(l.actW (l.c.fulfill n p) (zq (ql4 n p))).1 with ev:=ev} sp en lo w F E N (qn2 q) ?_).mono ?_
 ·intro R T P w3 r gL gN gH cL cN cH B W i hB X;have O:=@zda (qw 2 1) (qw n 8) (strOfNums p);have m:=qrq g B I {l with ev:=ev} sp en lo J Z 54 #[] #[.pointer (some ⟨R,0,none⟩),.pointer (some ⟨T,0,none⟩),.pointer (some ⟨P,0,none⟩)] (l.c.fulfill n p) (ql4 n p) W ((f.new r).new i) ⟨z.dead,z.fused,z.off,z.many,z.len,z.out⟩ q H ((V.tabs.new r).new i) K (enters_of Tryz.func54 (by kernel_rfl) rfl)
   (fun a v=>qsd R T P g en J l.c (l.c.fulfill n p).1 (l.c.fulfill n p).2.1 (l.c.fulfill n p).2.2 n p a (fun k e=>by have:=L k e;have:=r.size;have:=i.size;have:=v.size;omega) q (fun w' Y=>qt3 en J l.c n p E w' (f.chn.new (((r.trans i).trans v).trans Y)) (V.new (((r.trans i).trans v).trans Y)) C.1) ((i.trans v).cell cL (fun h=>h)) (((r.trans i).trans v).cell cE (fun h=>h)) ((i.trans v).cell cN (fun h=>h)) (qap cH (i.trans v) (fun h=>h))) (fun j x hx=>O hx X) (by simp[ql4]) (qq3 E) (zr X) (fun e=>by have:=F _ e;have:=r.size;omega)
  rw[M] at m;exact m
 ·rintro e w' ⟨rfl,E,u⟩;have:=LkV.lift h u E;exact⟨rfl,this.1,this.2⟩
theorem zdi(g:Nat)(S:Nat→Prop)(l:Lk)(es:List EvV)(n r:Nat)(x:Int)(w:World)(h:LkV w g S l es)(v:LkOkW l)(O:n<2 ^ (8*8))(H:r<18446744073709551616)(R:IntKind.u64.wrap x=(r:Int))(I:(l.c.fail n x).2.2=0→SayOk (l.c.fail n x).2.1)(q:(l.c.fail n x).2.1.hash.length=32)(E:l.c.news.length<1000000∧l.c.xs.length<1000000)(hT:Tabs w)(X:ApD S) :
  Calls Tryz.prog 17 #[.pointer (some ⟨g,0,none⟩),.int .u64 (n:Int),.int .i64 x] w fun e w'=>e = .returned (.int .i64 (l.actW (l.c.fail n x) (zq (ql5 n r))).2.2)∧LkV w' g (Fr S w w') (l.actW (l.c.fail n x) (zq (ql5 n r))).1 es∧Upd S w w':=by
 obtain⟨sp,en,lo,J,K,Z,ev,h⟩:=h
 have f:=h.lk
 have F:=f.lt
 have M:=f.chn.lt
 have cE:w.cell? ⟨g,1,none⟩=some (.pointer (some ⟨en,0,none⟩)):=qg f.at_ 1
 have L:ApD J:=⟨fun e=>X.c (h.in0 _ e),fun e=>X.d (h.in0 _ e)⟩
 have N:=qrp l ev (l.c.fail n x) (zq (ql5 n r))
 refine(q1m g J n r x (l.actW (l.c.fail n x) (zq (ql5 n r))).2.1 (l.actW (l.c.fail n x) (zq (ql5 n r))).2.2 {(l.actW (l.c.fail n x) (zq (ql5 n r))).1 with ev:=ev} sp en lo w F O H R (qn2 q) ?_).mono ?_
 ·intro T U V w3 z gL gN gX cL cN cX B W m hB Y;have P:=@zda (qw 3 1) (qw n 8) (qb0 r 2);have i:=qrq g B J {l with ev:=ev} sp en lo K Z 52 #[] #[.pointer (some ⟨T,0,none⟩),.pointer (some ⟨U,0,none⟩),.pointer (some ⟨V,0,none⟩)] (l.c.fail n x) (ql5 n r) W ((f.new z).new m) ⟨v.dead,v.fused,v.off,v.many,v.len,v.out⟩ q I ((hT.new z).new m) L (enters_of Tryz.func52 (by kernel_rfl) rfl)
   (fun a C=>q0o T U V g en K l.c (l.c.fail n x).1 (l.c.fail n x).2.1 (l.c.fail n x).2.2 n x a (fun k e=>by have:=M k e;have:=z.size;have:=m.size;have:=C.size;omega) q (fun w' n'=>q42 en K l.c n x w' (f.chn.new (((z.trans m).trans C).trans n')) E.1) ((m.trans C).cell cL (fun h=>h)) (((z.trans m).trans C).cell cE (fun h=>h)) ((m.trans C).cell cN (fun h=>h)) ((m.trans C).cell cX (fun h=>h))) (fun j x hx=>P hx Y) (by simp[ql5]) qq4 (zr Y) (fun e=>by have:=F _ e;have:=z.size;omega)
  rw[N] at i;exact i
 ·rintro e w' ⟨rfl,hl,u⟩;have:=LkV.lift h u hl;exact⟨rfl,this.1,this.2⟩
theorem zck(g:Nat)(S:Nat→Prop)(l:Lk)(es:List EvV)(n r:Nat)(p:List Int)(x:Int)(w:World)(h:LkV w g S l es)(z:LkOkW l)(F:p.length=32)(hb:qbm p)(P:n<2 ^ (8*8))(I:r<18446744073709551616)(T:IntKind.u64.wrap x=(r:Int))(U : -9223372036854775808≤x∧x≤9223372036854775807)(J:(l.c.offer n (qa8 p) x).2.2=0→SayOk (l.c.offer n (qa8 p) x).2.1)(q:(l.c.offer n (qa8 p) x).2.1.hash.length=32)(E:l.c.news.length<1000000∧l.c.xs.length<1000000)(hT:Tabs w)(hA:ApD S) :
  Calls Tryz.prog 11 #[.pointer (some ⟨g,0,none⟩),.int .u64 (n:Int),.agg (qu p).toArray,.int .i64 x] w fun e w'=>e = .returned (.tuple #[.int .u64 (l.actW (l.c.offer n (qa8 p) x) (zq (qgb n r p))).2.1.id,.int .i64 (l.actW (l.c.offer n (qa8 p) x) (zq (qgb n r p))).2.2])∧LkV w' g (Fr S w w') (l.actW (l.c.offer n (qa8 p) x) (zq (qgb n r p))).1 es∧Upd S w w':=by
 obtain⟨sp,en,lo,K,L,SJ,ev,h⟩:=h
 have f:=h.lk
 have H:=f.lt
 have N:=f.chn.lt
 have cE:w.cell? ⟨g,1,none⟩=some (.pointer (some ⟨en,0,none⟩)):=qg f.at_ 1
 have M:ApD K:=⟨fun e=>hA.c (h.in0 _ e),fun e=>hA.d (h.in0 _ e)⟩
 have O:=qrp l ev (l.c.offer n (qa8 p) x) (zq (qgb n r p))
 refine(qxq g K n r p x (l.actW (l.c.offer n (qa8 p) x) (zq (qgb n r p))).2.1 (l.actW (l.c.offer n (qa8 p) x) (zq (qgb n r p))).2.2 {(l.actW (l.c.offer n (qa8 p) x) (zq (qgb n r p))).1 with ev:=ev} sp en lo w H F P I T (qn2 q) ?_).mono ?_
 ·intro X Y V Z w3 C gL gN gH gX cL cN cH cX B W i hB hr;have R:=@zdb (qw 1 1) (qw n 8) (strOfNums p) (qb0 r 4);have m:=qrq g B K {l with ev:=ev} sp en lo L SJ 46 #[] #[.pointer (some ⟨X,0,none⟩),.pointer (some ⟨Y,0,none⟩),.pointer (some ⟨V,0,none⟩),.pointer (some ⟨Z,0,none⟩)] (l.c.offer n (qa8 p) x) (qgb n r p) W ((f.new C).new i) ⟨z.dead,z.fused,z.off,z.many,z.len,z.out⟩ q J ((hT.new C).new i) M (enters_of Tryz.func46 (by kernel_rfl) rfl)
   (fun a v=>qxz X Y V Z g en L l.c (l.c.offer n (qa8 p) x).1 (l.c.offer n (qa8 p) x).2.1 (l.c.offer n (qa8 p) x).2.2 n x p a (fun k e=>by have:=N k e;have:=C.size;have:=i.size;have:=v.size;omega) q (fun w' n'=>qx0 en L l.c n p x w' (f.chn.new (((C.trans i).trans v).trans n')) F hb ⟨by omega,by omega⟩ U E) ((i.trans v).cell cL (fun h=>h)) (((C.trans i).trans v).cell cE (fun h=>h)) ((i.trans v).cell cN (fun h=>h)) (qap cH (i.trans v) (fun h=>h)) ((i.trans v).cell cX (fun h=>h))) (fun j x U=>R U hr) (by simp[qgb]) (qo6 F) (zr hr) (fun e=>by have:=H _ e;have:=C.size;omega)
  rw[O] at m;exact m
 ·rintro e w' ⟨rfl,F,u⟩;have:=LkV.lift h u F;exact⟨rfl,this.1,this.2⟩
end
end Go.Proofs.YtfmkdoachjgjbaaGreatDoor
