/-
  Cut.
-/
import Derived.Test.YtjpmomdechibmaaGreatDoorMdc
set_option linter.unusedVariables false
set_option linter.unusedSimpArgs false
namespace Go.Proofs.YtjpmomdechibmaaGreatDoor
open Go.RowKit
attribute [local go_sem ↓ high] qc6 qdx qgg qhg qhj qwh
attribute [local go_sem] qhk qjw qo7 quk qu9 zdy zq
set_option maxRecDepth 100000 in
set_option maxHeartbeats 4000000 in
theorem za4(g:Nat)(S:Nat→Prop)(c:Ch)(w:World)(h:ChS w g S c) :
  Calls Tryz.prog 53 #[.pointer (some ⟨g,0,none⟩)] w fun e w'=>(∃ov rv,e = .returned (.agg #[ov,rv]))∧ChS w' g (Fr S w w') c.cut∧Upd S w w':=by
 obtain⟨lv,nv,av,h⟩:=h
 have q0:=h.ok.few
 have k7:=h.ok.xs
 have q1:=h.lt g h.inG
 obtain⟨la,q2,h8⟩:=qx h.live
 have b4:∀(i:Nat) (x:Live),c.xs[i]? = some x→∃g',la=some ⟨g',0,none⟩∧qgd w g' 0 c.xs∧g'≠g∧g'<w.heap.size:=by
  intro i x hi
  have f4:=(List.getElem?_eq_some_iff.1 hi).1
  rcases (qdc h.live).2 with ⟨e,e0⟩ | ⟨g',p8,e,-,hh⟩
  ·rw[e0] at f4;simp at f4
  ·rw[h8] at e
   injection e with e1
   obtain⟨q6,f7⟩:=q8 h.live g' (by rw[h8,e1];rfl)
   exact⟨g',e1,hh.toL,ze f7 h.at_ (by decide),zw f7⟩
 have f2:w.cell? ⟨g,47,none⟩=some lv:=h.toR.live
 rw[h8] at f2
 obtain⟨i9,z9,b9,g8,i6,i3,i4,i5,g7⟩:=qjl
 obtain⟨j9,y9,d9,o1,p4,p1,p2,p3,n5⟩:=q8a
 obtain⟨k9,x9,e9,h1,o9,o6,o7,o8,n6⟩:=zag
 have r5:(c.xs.length:Int)≤1000000:=by omega
 have k3:c.cut=(c.xs.foldl zg c).unsaid (qek c.xs):=rfl
 have l3:=qb k3
 have H0:=qb h
 have l7:=qb k7
 clear h k3 k7
 generalize p0:c.xs=xs at *
 clear p0
 go_enter Tryz.func53,Tryz.ntmps53
 go_upto_region 2 with fail
 have hR:=zl (qi w (.cells #[.slice none 0 0,.slice none 0 0] 119)) (.cells #[.slice none 0 0,.slice none 0 0] 119)
 have hK:=qi (w.alloc (.cells #[.slice none 0 0,.slice none 0 0] 119)) (.cells #[.slice none 0 0,.slice none 0 0] 119)
 rw[World.size_alloc] at hK
 have n1:qy w ((w.alloc (.cells #[.slice none 0 0,.slice none 0 0] 119)).alloc (.cells #[.slice none 0 0,.slice none 0 0] 119)):=((Upd.refl _ _).alloc _).alloc _
 generalize (w.alloc (.cells #[.slice none 0 0,.slice none 0 0] 119)).alloc (.cells #[.slice none 0 0,.slice none 0 0] 119)=w1 at hR hK n1 ⊢
 obtain⟨R,j7⟩:∃R,R=w.heap.size:=⟨_,rfl⟩
 obtain⟨K,j6⟩:∃K,K=w.heap.size+1:=⟨_,rfl⟩
 rw[←j6] at hK ⊢
 rw[←j7] at hR ⊢
 have j8:CutS w w1 g K R S c lv nv av (.slice none 0 0) (.slice none 0 0) (.slice none 0 0) [] [] [] :=
  ⟨(qa H0).new n1,hK,hR,World.ownsRow_nil _ _ _ _,World.ownsRow_nil _ _ _ _,World.ownsRow_nil _ _ _ _,n1.mono (fun _ _ h=>h.elim),(qa H0).lt,by omega,by omega,by omega⟩
 have j2:=qb j8
 have f2:=n1.cell f2 (fun h=>h)
 clear j7 j6 hK hR n1 j8
 go_wp2_with fail
 go_loopw [4,6,12] (fun kv _ iv wr=>∃(i:Nat) (ov rv:Value),iv = .int .i64 (i:Int)∧i≤xs.length∧CutS w wr g K R S ((xs.take i).foldl zg c) lv nv av kv ov rv (qek (xs.take i)) (qd4 (xs.take i)) (qdu (xs.take i))) (fun _ _ iv _=>xs.length-(intOf iv).toNat)
 case atStart=>exact⟨0,_,_,rfl,Nat.zero_le _,qa j2⟩
 case round =>
  obtain⟨i,ov,rv,rfl,hi,Z⟩:=hrel
  obtain⟨wq,rfl⟩:∃wq:World,wq=wr:=⟨_,rfl⟩
  obtain⟨ka,z,b5⟩:=qx Z.ko
  subst b5
  obtain⟨oa,q,o3⟩:=qx Z.oo
  subst o3
  obtain⟨ra,F,o4⟩:=qx Z.ro
  subst o4
  by_cases f4:i<xs.length
  ·obtain⟨x,b7⟩:∃x,xs[i]? = some x:=⟨_,List.getElem?_eq_getElem f4⟩
   obtain⟨g',rfl,hh,n9,r3⟩:=b4 i x b7
   have f9:=(hh.upd Z.u n9).row b7
   rw[Nat.zero_add] at f9
   have r4:(i:Int)<(xs.length:Int):=by omega
   have o5:=qnw wq x
   have h7:=qnn wq x
   have d5:=qb (q31 b7)
   have i1:=q30 c b7
   have d7:=qb (q33 b7)
   have d8:=qb (q34 b7)
   have r6:(qek (xs.take i)).length≤i:=by
    have:=qwq (xs.take i)
    rw[List.length_take] at this
    omega
   have r7:(qd4 (xs.take i)).length≤i:=by
    have:=q67 (xs.take i)
    rw[List.length_take] at this
    omega
   have r8:(qdu (xs.take i)).length≤i:=by
    have:=q68 (xs.take i)
    rw[List.length_take] at this
    omega
   generalize (xs.take i).foldl zg c=Y at Z i1
   have d6:=qb i1
   generalize m7:qek (xs.take i)=ks at *
   generalize m8:qd4 (xs.take i)=os at *
   generalize m9:qdu (xs.take i)=rs at *
   have HS:=qb Z
   clear b7 hh b4 i1 Z m7 m8 m9 j2
   go_upto_region 6 with fail
   obtain⟨hb,nb⟩:=h7
   generalize (wq.alloc (.cells (qm Live.zero).toArray 81)).setCells wq.heap.size 0 (qm x)=wb at hb nb ⊢
   obtain⟨X,hX⟩:∃X,X=wq.heap.size:=⟨_,rfl⟩
   rw[←hX] at hb ⊢
   have f3:∀ {U:TypeId} {l0 n2:Nat} {v2:Value} {l2:List Value},wq.ownsRow w.heap.size U l0 v2 n2 l2→∀k,v2.ownBlock=some k→k≠X:=by
    intro U l0 n2 v2 l2 h2 k L
    obtain⟨c2,n4⟩:=q8 h2 k L
    have:=zw n4
    omega
   have k1:=And.intro (f3 (qa HS).ko) (And.intro (f3 (qa HS).oo) (f3 (qa HS).ro))
   have n3:w.heap.size≤X:=by rw[hX];exact(qa HS).u.size
   have k0:X≠K:=by have:=zw (qa HS).k;omega
   have n0:X≠R:=by have:=zw (qa HS).r;omega
   have g4:X≠g:=by omega
   have f1:=qb k1
   clear f3 k1
   have a7:wb.cell? ⟨X,36,none⟩=some (.int .i64 x.state):=by rw[qh hb,List.getElem?_toArray];exact qfa x
   have V:wb.cell? ⟨X,35,none⟩=some (.bool x.own):=by rw[qh hb,List.getElem?_toArray];exact qhl x
   have P:=qb ((qa HS).new nb)
   have HB:=qb hb
   clear o5 f9 hb nb HS hX
   by_cases O:x.state=0
   ·rw[O] at a7
    have d1:wb.cell? ⟨X,1,none⟩=some (.int .u64 x.h.amount):=by rw[qh (qa HB),List.getElem?_toArray];exact q0t x
    have k4:=qsy g S _ lv nv av x.own x.h.amount wb (qa P).ch
    go_wp2_with fail
    refine k4.mono ?_
    rintro e w2 ⟨rfl,k5,u2⟩
    have V:=u2.cell V g4
    have M:=qb ((qa P).op k5 u2)
    have i7:=qb (u2.old (qa HB) g4)
    have c6:(Y.give x.own x.h.amount).k=Y.k:=by unfold Ch.give;split<;>rfl
    clear k4 d1 a7 k5 u2 HB P
    cases ho:x.own with
    | true =>
     have e3:zg Y x = {Y.give true x.h.amount with k:= {Y.k with nextOwn:=IntKind.u64.wrap (Y.k.nextOwn-1)}} := by unfold zg;rw[if_pos O,if_pos ho]
     rw[ho] at V c6
     rw[ho] at M
     have l8:w2.cell? ⟨g,40,none⟩=some (.int .u64 Y.k.nextOwn):=by rw[←c6];exact(qa M).ch.toR.nextOwn
     have m3:w2.frozen? ⟨g,40,none⟩=false:=qq (qa M).ch.at_ 40
     have h3:=(qa M).op ((qa M).ch.putNextOwn (IntKind.u64.wrap (Y.k.nextOwn-1)) (qhu _)) (qgf _ _ _ _)
     have g5:=(qgf w2 g 40 (.int .u64 (IntKind.u64.wrap (Y.k.nextOwn-1)))).old (qa i7) g4
     rw[c6,←e3] at h3
     have c9:=qb h3
     clear h3 e3
     go_upto_region 11 with fail
     generalize w2.setCell ⟨g,40,none⟩ (.int .u64 (IntKind.u64.wrap (Y.k.nextOwn-1)))=w3 at g5 c9 ⊢
     clear l8 m3 V M i7
     have cK:w3.cell? ⟨K,0,none⟩=some (.slice oa os.length q):=by rw[qh (qa c9).k];rfl
     have k8:=qnu (qaq g5 38 (by rw[List.size_toArray,qa0])) 0 35 (by omega)
     rw[q8m] at k8
     have o0:=qbd x.h
     have E:qy w3 (w3.alloc (.cells (q9 x.h).toArray 79)):=(Upd.refl _ _).alloc _
     have f:=qb ((qa c9).new E)
     have I:=qb (qa f).u.size
     clear g5 E
     go_wp2_with (at_builtin;refine wpList_append_own _ rfl (.tmp 39) (.tmp 42) 116 rfl w.heap.size 79 j9 _ 35 d9 Tryz.underlying116 o1 p4 p1 p2 p3 (by decide) _ _ _ rfl (qa f).oo ⟨w3.heap.size,0,none⟩ 1 1 (q9 x.h) rfl (by rw[o0]) ?c1 (qkk x.h) ?c3 ?c4 ?c5 ?_)
     case c1=>exact World.news_of_block (cs:=(q9 x.h).toArray) (fr:=(0,0)) (qi _ _)
     case c3=>unfold maxLen;omega
     case c4=>have:=Nat.mul_le_mul (show os.length+1≤1000000 by omega) n5;omega
     case c5=>exact qa I
     intro v5 w5 H J _
     obtain⟨a5,N,i2⟩:=qx H
     subst i2
     have u5:Upd (fun k=>(Value.slice oa os.length q).ownBlock=some k) (w3.alloc (.cells (q9 x.h).toArray 79)) w5:=(Upd.refl _ _).grown J (fun k L _=>L)
     have h6:=(qa f).putO (os':=os++[x.h]) u5 (by rw[List.length_append,List.flatMap_append,List.flatMap_cons,List.flatMap_nil,List.append_nil];exact H)
     have j3:w5.cell? ⟨K,0,none⟩=some (.slice oa os.length q):=by rw[qh ((qa f).grow (qa f).oo u5 (by decide)).2.1];rfl
     have j5:w5.frozen? ⟨K,0,none⟩=false:=qq ((qa f).grow (qa f).oo u5 (by decide)).2.1 0
     have d2:=qb h6
     clear H J u5 h6 k8 cK f I
     go_wp2_with fail
     go_roundw
     case rel =>
      refine⟨i+1,.slice a5 (os.length+1) N,.slice ra rs.length F,by go_num,by omega,?_⟩
      rw[qa d6,qa d5,qa d7,qa d8,if_pos O,if_pos ⟨O,ho⟩,if_neg (fun h=>by rw[O] at h;exact absurd h.1 (by decide)),List.append_nil,List.append_nil]
      exact qa d2
     case measure=>simp[intOf];omega
    | false =>
     have e3:zg Y x = {Y.give false x.h.amount with k:= {Y.k with nextTheirs:=IntKind.u64.wrap (Y.k.nextTheirs-1)}} := by unfold zg;rw[if_pos O,if_neg (by rw[ho];decide)]
     rw[ho] at V c6
     rw[ho] at M
     have q3:w2.cell? ⟨g,41,none⟩=some (.int .u64 Y.k.nextTheirs):=by rw[←c6];exact(qa M).ch.toR.nextTheirs
     have q7:w2.frozen? ⟨g,41,none⟩=false:=qq (qa M).ch.at_ 41
     have h3:=(qa M).op ((qa M).ch.putNextTheirs (IntKind.u64.wrap (Y.k.nextTheirs-1)) (qhu _)) (qgf _ _ _ _)
     rw[c6,←e3] at h3
     have c9:=qb h3
     clear h3 e3
     go_wp2_with fail
     go_roundw
     case rel =>
      refine⟨i+1,.slice oa os.length q,.slice ra rs.length F,by go_num,by omega,?_⟩
      rw[qa d6,qa d5,qa d7,qa d8,if_pos O,if_neg (fun h=>by rw[ho] at h;exact absurd h.2 (by decide)),if_neg (fun h=>by rw[O] at h;exact absurd h.1 (by decide)),List.append_nil,List.append_nil,List.append_nil]
      exact qa c9
     case measure=>simp[intOf];omega
   ·have r1:(x.state==0)=false:=by simpa using O
    have g1:Hid (zg Y x=Y):=qb (by unfold zg;rw[if_neg O])
    by_cases h5:x.state=5
    ·rw[h5] at a7
     have f0:Hid (qae x = {x with state:=4,paid:=false}):=qb (by unfold qae;rw[if_pos h5])
     have f8:∀(W:World) (v:Value) (o:Nat) (r':Value) (l:List Int),CutS w W g K R S Y lv nv av (.slice ka ks.length z) (.slice oa os.length q) r' ks os l→(∀k,r'.ownBlock=some k→k≠X)→CutS w (W.setCell ⟨X,o,none⟩ v) g K R S Y lv nv av (.slice ka ks.length z) (.slice oa os.length q) r' ks os l:=fun W v o r' l h hr =>
      h.other ((Upd.refl (· = X) W).set1 o v) (.inr ⟨n3,k0,n0,(qa f1).1,(qa f1).2.1,hr⟩)
     have b8:=qb f8
     clear f8
     cases ho:x.own with
     | true =>
      rw[ho] at V
      have g2:wb.frozen? ⟨X,36,none⟩=false:=qq (qa HB) 36
      have g3:(wb.setCell ⟨X,36,none⟩ (.int .i64 4)).frozen? ⟨X,37,none⟩=false:=qq (zz (qa HB) 36 (.int .i64 4)) 37
      have b3:∃o,(wb.setCell ⟨X,36,none⟩ (.int .i64 4)).cell? ⟨X,37,none⟩=some o:=⟨_,by rw[qh (zz (qa HB) 36 (.int .i64 4)),Array.getElem?_setIfInBounds_ne (by decide),List.getElem?_toArray];exact qml x⟩
      obtain⟨p5,b3⟩:=b3
      have C:=qa b8 _ (.bool false) 37 _ _ (qa b8 _ (.int .i64 4) 36 _ _ (qa P) (qa f1).2.2) (qa f1).2.2
      have D:=zz (zz (qa HB) 36 (.int .i64 4)) 37 (.bool false)
      rw[qx1,←qa f0] at D
      have c8:Hid (qdu (xs.take (i+1))=rs):=qb (by rw[qa d8,if_neg (fun h=>by rw[ho] at h;exact absurd h.2 (by decide)),List.append_nil])
      have d3:=qb C
      have c7:=qb D
      clear C D
      go_upto_region 17 with fail
      have C:=qa d3
      have D:=qa c7
      generalize (wb.setCell ⟨X,36,none⟩ (.int .i64 4)).setCell ⟨X,37,none⟩ (.bool false)=w7 at C D ⊢
      clear d3 c7 g2 g3 b3
      have e8:=qaq D 38 (by rw[List.size_toArray,qa0])
      have e7:=qa0 (qae x)
      have E:qy w7 (w7.alloc (.cells (qm (qae x)).toArray 81)):=(Upd.refl _ _).alloc _
      have f:=qb (C.new E)
      have I:=qb (C.new E).u.size
      clear C D E a7 V P HB
      go_wp2_with (at_builtin;refine wpList_append_own _ rfl (.tmp 69) (.tmp 71) 43 rfl w.heap.size 81 i9 _ 38 b9 Tryz.underlying43 g8 i6 i3 i4 i5 (by decide) _ _ _ rfl (qa f).ko ⟨w7.heap.size,0,none⟩ 1 1 (qm (qae x)) rfl (by rw[e7]) ?c1 (qd9 (qae x)) ?c3 ?c4 ?c5 ?_)
      case c1=>exact World.news_of_block (cs:=(qm (qae x)).toArray) (fr:=(0,0)) (qi _ _)
      case c3=>unfold maxLen;omega
      case c4=>have:=Nat.mul_le_mul (show ks.length+1≤1000000 by omega) g7;omega
      case c5=>exact qa I
      intro v8 w8 m t _
      obtain⟨a8,f6,e6⟩:=qx m
      subst e6
      have u8:Upd (fun k=>(Value.slice ka ks.length z).ownBlock=some k) (w7.alloc (.cells (qm (qae x)).toArray 81)) w8:=(Upd.refl _ _).grown t (fun k L _=>L)
      have h9:=(qa f).putL (ks':=ks++[qae x]) u8 (by rw[List.length_append,List.flatMap_append,List.flatMap_cons,List.flatMap_nil,List.append_nil];exact m)
      have d4:=qb h9
      clear m t u8 h9 e8 f I
      go_wp2_with fail
      go_roundw
      case rel =>
       refine⟨i+1,.slice oa os.length q,.slice ra rs.length F,by go_num,by omega,?_⟩
       rw[qa d6,qa d5,qa d7,if_neg O,if_neg (fun h=>O h.1),List.append_nil,qa g1,qa c8]
       exact qa d4
      case measure=>simp[intOf];omega
     | false =>
      rw[ho] at V
      have d0:wb.cell? ⟨X,0,none⟩=some (.int .u64 x.h.id):=by rw[qh (qa HB),List.getElem?_toArray];exact q8k x
      have cK:wb.cell? ⟨K,1,none⟩=some (.slice ra rs.length F):=by rw[qh (qa P).k];rfl
      have E:qy wb (wb.alloc (.cells #[.int .u64 x.h.id] 22)):=(Upd.refl _ _).alloc _
      have f:=qb ((qa P).new E)
      have I:=qb (qa f).u.size
      have g0:=qb (E.old (qa HB) (fun h=>h))
      clear E
      go_wp2_with (at_builtin;refine wpList_append_own _ rfl (.tmp 60) (.tmp 64) 117 rfl w.heap.size 22 k9 _ 1 e9 Tryz.underlying117 h1 o9 o6 o7 o8 (by decide) _ _ _ rfl (qa f).ro ⟨wb.heap.size,0,none⟩ 1 1 [.int .u64 x.h.id] rfl rfl ?c1 ?c2 ?c3 ?c4 ?c5 ?_)
      case c1=>exact World.news_of_block (cs:=#[.int .u64 x.h.id]) (fr:=(0,0)) (qi _ _)
      case c2 =>
       intro v hv
       rw[List.mem_singleton.1 hv]
       rfl
      case c3=>unfold maxLen;omega
      case c4=>have:=Nat.mul_le_mul (show rs.length+1≤1000000 by omega) n6;omega
      case c5=>exact qa I
      intro v5 w5 H J _
      obtain⟨a5,N,i2⟩:=qx H
      subst i2
      have u5:Upd (fun k=>(Value.slice ra rs.length F).ownBlock=some k) (wb.alloc (.cells #[.int .u64 x.h.id] 22)) w5:=(Upd.refl _ _).grown J (fun k L _=>L)
      have i0:w5.ownsRow w.heap.size 22 1 (.slice a5 (rs.length+1) N) (rs++[x.h.id]).length ((rs++[x.h.id]).map (Value.int .u64)):=by
       rw[List.length_append,List.map_append]
       exact H
      have h6:=(qa f).putR (rs':=rs++[x.h.id]) u5 i0
      have g9:=((qa f).grow (qa f).ro u5 (by decide)).2.1
      have j3:w5.cell? ⟨K,1,none⟩=some (.slice ra rs.length F):=by rw[qh g9];rfl
      have j5:w5.frozen? ⟨K,1,none⟩=false:=qq g9 1
      have g6:=u5.old (qa g0) (fun e=>by
       obtain⟨c1,c0⟩:=q8 (qa f).ro X e
       exact ze c0 (qa g0) (by decide) rfl)
      have k2:=((Upd.refl (· = K) w5).set1 1 (.slice a5 (rs.length+1) N)).old g6 k0
      have j0:Hid (∀k,(Value.slice a5 (rs.length+1) N).ownBlock=some k→k≠X):=qb (fun k L e=>by
       obtain⟨c1,c0⟩:=q8 i0 k L
       exact ze c0 g6 (by decide) e)
      have d2:=qb h6
      have a9:=qb k2
      clear H J u5 h6 i0 g9 g6 k2 f I g0 cK d0 P HB a7 V
      go_upto_region 16 with fail
      generalize w5.setCell ⟨K,1,none⟩ (.slice a5 (rs.length+1) N)=w6 at d2 a9 ⊢
      clear j3 j5
      have a7:w6.cell? ⟨X,36,none⟩=some (.int .i64 x.state):=by rw[qh (qa a9),List.getElem?_toArray];exact qfa x
      have g2:w6.frozen? ⟨X,36,none⟩=false:=qq (qa a9) 36
      have g3:(w6.setCell ⟨X,36,none⟩ (.int .i64 4)).frozen? ⟨X,37,none⟩=false:=qq (zz (qa a9) 36 (.int .i64 4)) 37
      have b3:∃o,(w6.setCell ⟨X,36,none⟩ (.int .i64 4)).cell? ⟨X,37,none⟩=some o:=⟨_,by rw[qh (zz (qa a9) 36 (.int .i64 4)),Array.getElem?_setIfInBounds_ne (by decide),List.getElem?_toArray];exact qml x⟩
      obtain⟨p5,b3⟩:=b3
      have C:=qa b8 _ (.bool false) 37 _ _ (qa b8 _ (.int .i64 4) 36 _ _ (qa d2) (qa j0)) (qa j0)
      have D:=zz (zz (qa a9) 36 (.int .i64 4)) 37 (.bool false)
      rw[qx1,←qa f0] at D
      have c8:Hid (qdu (xs.take (i+1))=rs++[x.h.id]):=qb (by rw[qa d8,if_pos ⟨h5,ho⟩])
      have d3:=qb C
      have c7:=qb D
      clear C D
      go_upto_region 17 with fail
      have C:=qa d3
      have D:=qa c7
      generalize (w6.setCell ⟨X,36,none⟩ (.int .i64 4)).setCell ⟨X,37,none⟩ (.bool false)=w7 at C D ⊢
      clear d3 c7 g2 g3 b3
      have e8:=qaq D 38 (by rw[List.size_toArray,qa0])
      have e7:=qa0 (qae x)
      have E:qy w7 (w7.alloc (.cells (qm (qae x)).toArray 81)):=(Upd.refl _ _).alloc _
      have f:=qb (C.new E)
      have I:=qb (C.new E).u.size
      clear C D E d2 a9 a7
      go_wp2_with (at_builtin;refine wpList_append_own _ rfl (.tmp 69) (.tmp 71) 43 rfl w.heap.size 81 i9 _ 38 b9 Tryz.underlying43 g8 i6 i3 i4 i5 (by decide) _ _ _ rfl (qa f).ko ⟨w7.heap.size,0,none⟩ 1 1 (qm (qae x)) rfl (by rw[e7]) ?c1 (qd9 (qae x)) ?c3 ?c4 ?c5 ?_)
      case c1=>exact World.news_of_block (cs:=(qm (qae x)).toArray) (fr:=(0,0)) (qi _ _)
      case c3=>unfold maxLen;omega
      case c4=>have:=Nat.mul_le_mul (show ks.length+1≤1000000 by omega) g7;omega
      case c5=>exact qa I
      intro v8 w8 m t _
      obtain⟨a8,f6,e6⟩:=qx m
      subst e6
      have u8:Upd (fun k=>(Value.slice ka ks.length z).ownBlock=some k) (w7.alloc (.cells (qm (qae x)).toArray 81)) w8:=(Upd.refl _ _).grown t (fun k L _=>L)
      have h9:=(qa f).putL (ks':=ks++[qae x]) u8 (by rw[List.length_append,List.flatMap_append,List.flatMap_cons,List.flatMap_nil,List.append_nil];exact m)
      have d4:=qb h9
      clear m t u8 h9 e8 f I
      go_wp2_with fail
      go_roundw
      case rel =>
       refine⟨i+1,.slice oa os.length q,.slice a5 (rs.length+1) N,by go_num,by omega,?_⟩
       rw[qa d6,qa d5,qa d7,if_neg O,if_neg (fun h=>O h.1),List.append_nil,qa g1,qa c8]
       exact qa d4
      case measure=>simp[intOf];omega
    ·have r2:(x.state==5)=false:=by simpa using h5
     have f0:Hid (qae x=x):=qb (by unfold qae;rw[if_neg h5])
     have c8:Hid (qdu (xs.take (i+1))=rs):=qb (by rw[qa d8,if_neg (fun h=>h5 h.1),List.append_nil])
     go_upto_region 17 with fail
     have C:=qa P
     have D:=qa HB
     rw[←qa f0] at D
     obtain⟨w7,rfl⟩:∃w7:World,w7=wb:=⟨_,rfl⟩
     have e8:=qaq D 38 (by rw[List.size_toArray,qa0])
     have e7:=qa0 (qae x)
     have E:qy w7 (w7.alloc (.cells (qm (qae x)).toArray 81)):=(Upd.refl _ _).alloc _
     have f:=qb (C.new E)
     have I:=qb (C.new E).u.size
     clear C D E a7 V P HB
     go_wp2_with (at_builtin;refine wpList_append_own _ rfl (.tmp 69) (.tmp 71) 43 rfl w.heap.size 81 i9 _ 38 b9 Tryz.underlying43 g8 i6 i3 i4 i5 (by decide) _ _ _ rfl (qa f).ko ⟨w7.heap.size,0,none⟩ 1 1 (qm (qae x)) rfl (by rw[e7]) ?c1 (qd9 (qae x)) ?c3 ?c4 ?c5 ?_)
     case c1=>exact World.news_of_block (cs:=(qm (qae x)).toArray) (fr:=(0,0)) (qi _ _)
     case c3=>unfold maxLen;omega
     case c4=>have:=Nat.mul_le_mul (show ks.length+1≤1000000 by omega) g7;omega
     case c5=>exact qa I
     intro v8 w8 m t _
     obtain⟨a8,f6,e6⟩:=qx m
     subst e6
     have u8:Upd (fun k=>(Value.slice ka ks.length z).ownBlock=some k) (w7.alloc (.cells (qm (qae x)).toArray 81)) w8:=(Upd.refl _ _).grown t (fun k L _=>L)
     have h9:=(qa f).putL (ks':=ks++[qae x]) u8 (by rw[List.length_append,List.flatMap_append,List.flatMap_cons,List.flatMap_nil,List.append_nil];exact m)
     have d4:=qb h9
     clear m t u8 h9 e8 f I
     go_wp2_with fail
     go_roundw
     case rel =>
      refine⟨i+1,.slice oa os.length q,.slice ra rs.length F,by go_num,by omega,?_⟩
      rw[qa d6,qa d5,qa d7,if_neg O,if_neg (fun h=>O h.1),List.append_nil,qa g1,qa c8]
      exact qa d4
     case measure=>simp[intOf];omega
  ·obtain rfl:i=xs.length:=by omega
   rw[List.take_length] at *
   have hP:=Z.ch
   have f2:wq.cell? ⟨g,47,none⟩=some lv:=hP.toR.live
   have r0:wq.frozen? ⟨g,47,none⟩=false:=qq hP.at_ 47
   have o2:(qek xs).length≤1000000:=Nat.le_trans (qwq xs) (by omega)
   have a4:=hP.newLive w Z.u (Upd.refl _ _) _ (qek xs) (fun y hy=>by
    obtain⟨x,hx,rfl⟩:=List.mem_map.1 hy
    exact qzx (qa l7 x (List.mem_filter.1 hx).1)) o2 Z.ko
   have j4:=qq a4.at_ 626
   have p6:(wq.setCell ⟨g,47,none⟩ (.slice ka (qek xs).length z)).cell? ⟨g,626,none⟩=some nv:=by rw[qh a4.at_ 626];exact qqc _ _ _ _ a4.ok.s.seed a4.ok.shelf
   have a6:=a4.noNews
   have m4:=qq a6.at_ 43
   have l9:((wq.setCell ⟨g,47,none⟩ (.slice ka (qek xs).length z)).setCell ⟨g,626,none⟩ qbt).cell? ⟨g,43,none⟩=some (.bool (xs.foldl zg c).k.shutHeard):=a6.toR.shutHeard
   have e4:=a6.putShutHeard false
   have n7:¬K=g:=by have:=Z.glt;have:=Z.kge;omega
   have n8:¬R=g:=by have:=Z.glt;have:=Z.rge;omega
   have uF:Upd (· = g) wq (((wq.setCell ⟨g,47,none⟩ (.slice ka (qek xs).length z)).setCell ⟨g,626,none⟩ qbt).setCell ⟨g,43,none⟩ (.bool false)):=((qgf _ _ _ _).trans (qgf _ _ _ _)).trans (qgf _ _ _ _)
   have e5:=uF.old Z.k n7
   have f5:=uF.old Z.r n8
   have HF:=qb e4
   have HU:=qb (Z.u.trans uF)
   have i8:=qb (And.intro e5 f5)
   have l4:=qb (qjn Z.ko)
   have j1:=qb Z.rge
   have m0:(((wq.setCell ⟨g,47,none⟩ (.slice ka (qek xs).length z)).setCell ⟨g,626,none⟩ qbt).setCell ⟨g,43,none⟩ (.bool false)).cell? ⟨K,0,none⟩=some (.slice oa (qd4 xs).length q):=by rw[qh e5];rfl
   have m2:(((wq.setCell ⟨g,47,none⟩ (.slice ka (qek xs).length z)).setCell ⟨g,626,none⟩ qbt).setCell ⟨g,43,none⟩ (.bool false)).cell? ⟨K,1,none⟩=some (.slice ra (qdu xs).length F):=by rw[qh e5];rfl
   have rK:=qaq e5 2 rfl
   have m5:=qq f5 0
   have m6:=qq f5 1
   unfold qbt at j4 m4 l9 m0 m2 rK m5 m6 HF HU i8
   clear b4 Z hP a4 a6 e4 uF e5 f5
   go_upto_region 20 with fail
   generalize ((wq.setCell ⟨g,47,none⟩ (.slice ka (qek xs).length z)).setCell ⟨g,626,none⟩ (.slice none 0 0)).setCell ⟨g,43,none⟩ (.bool false)=w9 at *
   obtain⟨h1,b6⟩:=qa i8
   have q4:w9.cell? ⟨R,0,none⟩=some (.slice none 0 0):=by rw[qh b6];rfl
   have q5:w9.cell? ⟨R,1,none⟩=some (.slice none 0 0):=by rw[qh b6];rfl
   have p9:(w9.setCell ⟨R,0,none⟩ (.slice oa (qd4 xs).length q)).frozen? ⟨R,1,none⟩=false:=qq (zz b6 0 _) 1
   have p7:(w9.setCell ⟨R,0,none⟩ (.slice oa (qd4 xs).length q)).cell? ⟨R,1,none⟩=some (.slice none 0 0):=by rw[qh (zz b6 0 _)];rfl
   have k6:=zz (zz b6 0 (.slice oa (qd4 xs).length q)) 1 (.slice ra (qdu xs).length F)
   have hF:=qa HF
   have O:=qa H0
   have b5:∀k,(Value.slice ka (qek xs).length z).ownBlock=some k→k<w9.heap.size∧k≠R∧w.heap.size≤k:=fun k L=>by
    obtain⟨c1,c0⟩:=q8 hF.live k L
    exact⟨zw c0,ze c0 b6 (by decide),qa l4 k L⟩
   have h2:ChP w9 g (fun k=>S k∨(Value.slice ka (qek xs).length z).ownBlock=some k) _ _ _ av:=⟨hF.at_,hF.ok,hF.live,hF.news,hF.last,.inl O.inG,fun k e=> .inr e,(fun k e=>by cases e),fun k e=> .inl (O.inA k e),(fun k e=>by cases e),fun k L=>L.elim (fun e=>Nat.lt_of_lt_of_le (O.lt k e) (qa HU).size) (fun e=>(b5 k e).1)⟩
   have uR:Upd (· = R) w9 ((w9.setCell ⟨R,0,none⟩ (.slice oa (qd4 xs).length q)).setCell ⟨R,1,none⟩ (.slice ra (qdu xs).length F)):=((Upd.refl _ _).set1 0 _).trans ((Upd.refl _ _).set1 1 _)
   have h3:=h2.upd uR (fun k L e=>L.elim (fun e2=>by have:=O.lt k e2;have:=qa j1;omega) (fun e2=>(b5 k e2).2.1 e))
   have hz:=uR.size
   have h4:=h3.wider (T:=Fr S w ((w9.setCell ⟨R,0,none⟩ (.slice oa (qd4 xs).length q)).setCell ⟨R,1,none⟩ (.slice ra (qdu xs).length F))) (fun k L=>L.elim .inl (fun e=> .inr ⟨(b5 k e).2.2,by have:=(b5 k e).1;omega⟩)) (fun k L=>L.elim (fun e=>by have:=O.lt k e;have:=(qa HU).size;omega) (fun e=>e.2))
   have hu:=(qa HU).then uR (fun i hi e=>by have:=qa j1;omega)
   have H4:=qb h4
   have l6:=qb hu
   have l5:=qb k6
   clear h1 b6 k6 hF O b5 h2 uR h3 hz h4 hu
   go_wp2_with fail
   refine bodyPost_ret (results_cell_row rfl _ _ R _ _ _ _ rfl (qa l5) Tryz.underlying119 rfl (by kernel_rfl)) rfl ?_
   rw[qa l3]
   exact⟨⟨_,_,rfl⟩,⟨_,_,_,qa H4⟩,(qa l6).mono (fun k _ e=>by rw[e];exact(qa H0).inG)⟩
end Go.Proofs.YtjpmomdechibmaaGreatDoor
