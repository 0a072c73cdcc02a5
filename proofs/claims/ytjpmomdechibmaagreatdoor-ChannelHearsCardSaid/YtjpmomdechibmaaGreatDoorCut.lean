/-
  Cut.
-/
import Derived.Test.YtjpmomdechibmaaGreatDoorCtP
set_option linter.unusedVariables false
set_option linter.unusedSimpArgs false
namespace Go.Proofs.YtjpmomdechibmaaGreatDoor
open Go.RowKit
attribute [local go_sem ↓ high] qcv qdm qf3 qg3 qj3 qve
attribute [local go_sem] qg6 qjd qoe qtc qzg zb3 zn
set_option maxRecDepth 100000 in
set_option maxHeartbeats 4000000 in
theorem q9d(g:Nat)(S:Nat→Prop)(c:Ch)(w:World)(h:ChS w g S c) :
  Calls Tryz.prog 53 #[.pointer (some ⟨g,0,none⟩)] w fun e w'=>(∃ov rv,e = .returned (.agg #[ov,rv]))∧ChS w' g (Fr S w w') c.cut∧Upd S w w':=by
 obtain⟨lv,nv,av,h⟩:=h
 have p9:=h.ok.few
 have k6:=h.ok.xs
 have q0:=h.lt g h.inG
 obtain⟨la,q1,h7⟩:=qv h.live
 have b3:∀(i:Nat) (x:Live),c.xs[i]? = some x→∃g',la=some ⟨g',0,none⟩∧qfo w g' 0 c.xs∧g'≠g∧g'<w.heap.size:=by
  intro i x hi
  have f3:=(List.getElem?_eq_some_iff.1 hi).1
  rcases (qc1 h.live).2 with ⟨e,e0⟩ | ⟨g',p7,e,-,hh⟩
  ·rw[e0] at f3;simp at f3
  ·rw[h7] at e
   injection e with e1
   obtain⟨q5,f6⟩:=qw h.live g' (by rw[h7,e1];rfl)
   exact⟨g',e1,hh.toL,za f6 h.at_ (by decide),zq f6⟩
 have f1:w.cell? ⟨g,47,none⟩=some lv:=h.toR.live
 rw[h7] at f1
 obtain⟨i9,z9,b9,g7,i5,i2,i3,i4,g6⟩:=qi4
 obtain⟨j9,y9,d9,o0,p3,p0,p1,p2,n4⟩:=q6k
 obtain⟨k9,x9,e9,g9,o8,o5,o6,o7,n5⟩:=q8p
 have r4:(c.xs.length:Int)≤1000000:=by omega
 have k2:c.cut=(c.xs.foldl zc c).unsaid (qd7 c.xs):=rfl
 have l0:=qb k2
 have H0:=qb h
 have l6:=qb k6
 clear h k2 k6
 generalize o9:c.xs=xs at *
 clear o9
 go_enter Tryz.func53,Tryz.ntmps53
 go_upto_region 2 with fail
 have hR:=zj (qi w (.cells #[.slice none 0 0,.slice none 0 0] 119)) (.cells #[.slice none 0 0,.slice none 0 0] 119)
 have hK:=qi (w.alloc (.cells #[.slice none 0 0,.slice none 0 0] 119)) (.cells #[.slice none 0 0,.slice none 0 0] 119)
 rw[World.size_alloc] at hK
 have n1:qx w ((w.alloc (.cells #[.slice none 0 0,.slice none 0 0] 119)).alloc (.cells #[.slice none 0 0,.slice none 0 0] 119)):=((Upd.refl _ _).alloc _).alloc _
 generalize (w.alloc (.cells #[.slice none 0 0,.slice none 0 0] 119)).alloc (.cells #[.slice none 0 0,.slice none 0 0] 119)=w1 at hR hK n1 ⊢
 obtain⟨R,j6⟩:∃R,R=w.heap.size:=⟨_,rfl⟩
 obtain⟨K,j5⟩:∃K,K=w.heap.size+1:=⟨_,rfl⟩
 rw[←j5] at hK ⊢
 rw[←j6] at hR ⊢
 have j7:CutS w w1 g K R S c lv nv av (.slice none 0 0) (.slice none 0 0) (.slice none 0 0) [] [] [] :=
  ⟨(qa H0).new n1,hK,hR,World.ownsRow_nil _ _ _ _,World.ownsRow_nil _ _ _ _,World.ownsRow_nil _ _ _ _,n1.mono (fun _ _ h=>h.elim),(qa H0).lt,by omega,by omega,by omega⟩
 have j1:=qb j7
 have f1:=n1.cell f1 (fun h=>h)
 clear j6 j5 hK hR n1 j7
 go_wp2_with fail
 go_loopw [4,6,12] (fun kv _ iv wr=>∃(i:Nat) (ov rv:Value),iv = .int .i64 (i:Int)∧i≤xs.length∧CutS w wr g K R S ((xs.take i).foldl zc c) lv nv av kv ov rv (qd7 (xs.take i)) (qdt (xs.take i)) (qdh (xs.take i))) (fun _ _ iv _=>xs.length-(intOf iv).toNat)
 case atStart=>exact⟨0,_,_,rfl,Nat.zero_le _,qa j1⟩
 case round =>
  obtain⟨i,ov,rv,rfl,hi,Y⟩:=hrel
  obtain⟨wq,rfl⟩:∃wq:World,wq=wr:=⟨_,rfl⟩
  obtain⟨ka,t,b4⟩:=qv Y.ko
  subst b4
  obtain⟨oa,m,o2⟩:=qv Y.oo
  subst o2
  obtain⟨ra,E,o3⟩:=qv Y.ro
  subst o3
  by_cases f3:i<xs.length
  ·obtain⟨x,b6⟩:∃x,xs[i]? = some x:=⟨_,List.getElem?_eq_getElem f3⟩
   obtain⟨g',rfl,hh,n8,r2⟩:=b3 i x b6
   have f8:=(hh.upd Y.u n8).row b6
   rw[Nat.zero_add] at f8
   have r3:(i:Int)<(xs.length:Int):=by omega
   have o4:=qm6 wq x
   have h1:=qmz wq x
   have d4:=qb (q2d b6)
   have i0:=q2c c b6
   have d6:=qb (q2f b6)
   have d7:=qb (q2g b6)
   have r5:(qd7 (xs.take i)).length≤i:=by
    have:=qvn (xs.take i)
    rw[List.length_take] at this
    omega
   have r6:(qdt (xs.take i)).length≤i:=by
    have:=q5h (xs.take i)
    rw[List.length_take] at this
    omega
   have r7:(qdh (xs.take i)).length≤i:=by
    have:=q5i (xs.take i)
    rw[List.length_take] at this
    omega
   generalize (xs.take i).foldl zc c=V at Y i0
   have d5:=qb i0
   generalize m6:qd7 (xs.take i)=ks at *
   generalize m7:qdt (xs.take i)=os at *
   generalize m8:qdh (xs.take i)=rs at *
   have HS:=qb Y
   clear b6 hh b3 i0 Y m6 m7 m8 j1
   go_upto_region 6 with fail
   obtain⟨hb,nb⟩:=h1
   generalize (wq.alloc (.cells (ql Live.zero).toArray 81)).setCells wq.heap.size 0 (ql x)=wb at hb nb ⊢
   obtain⟨X,hX⟩:∃X,X=wq.heap.size:=⟨_,rfl⟩
   rw[←hX] at hb ⊢
   have f2:∀ {U:TypeId} {k8 n2:Nat} {v2:Value} {l2:List Value},wq.ownsRow w.heap.size U k8 v2 n2 l2→∀k,v2.ownBlock=some k→k≠X:=by
    intro U k8 n2 v2 l2 h2 k J
    obtain⟨c2,n3⟩:=qw h2 k J
    have:=zq n3
    omega
   have k0:=And.intro (f2 (qa HS).ko) (And.intro (f2 (qa HS).oo) (f2 (qa HS).ro))
   have n0:w.heap.size≤X:=by rw[hX];exact(qa HS).u.size
   have j8:X≠K:=by have:=zq (qa HS).k;omega
   have m9:X≠R:=by have:=zq (qa HS).r;omega
   have g3:X≠g:=by omega
   have f0:=qb k0
   clear f2 k0
   have a6:wb.cell? ⟨X,36,none⟩=some (.int .i64 x.state):=by rw[qg hb,List.getElem?_toArray];exact qfk x
   have P:wb.cell? ⟨X,35,none⟩=some (.bool x.own):=by rw[qg hb,List.getElem?_toArray];exact qi3 x
   have O:=qb ((qa HS).new nb)
   have HB:=qb hb
   clear o4 f8 hb nb HS hX
   by_cases N:x.state=0
   ·rw[N] at a6
    have d1:wb.cell? ⟨X,1,none⟩=some (.int .u64 x.h.amount):=by rw[qg (qa HB),List.getElem?_toArray];exact qt5 x
    have k3:=qru g S _ lv nv av x.own x.h.amount wb (qa O).ch
    go_wp2_with fail
    refine k3.mono ?_
    rintro e w2 ⟨rfl,k4,u2⟩
    have P:=u2.cell P g3
    have L:=qb ((qa O).op k4 u2)
    have i6:=qb (u2.old (qa HB) g3)
    have c0:(V.give x.own x.h.amount).k=V.k:=by unfold Ch.give;split<;>rfl
    clear k3 d1 a6 k4 u2 HB O
    cases ho:x.own with
    | true =>
     have d8:zc V x = {V.give true x.h.amount with k:= {V.k with nextOwn:=IntKind.u64.wrap (V.k.nextOwn-1)}} := by unfold zc;rw[if_pos N,if_pos ho]
     rw[ho] at P c0
     rw[ho] at L
     have l7:w2.cell? ⟨g,40,none⟩=some (.int .u64 V.k.nextOwn):=by rw[←c0];exact(qa L).ch.toR.nextOwn
     have m2:w2.frozen? ⟨g,40,none⟩=false:=qm (qa L).ch.at_ 40
     have h3:=(qa L).op ((qa L).ch.putNextOwn (IntKind.u64.wrap (V.k.nextOwn-1)) (qhe _)) (qf2 _ _ _ _)
     have g4:=(qf2 w2 g 40 (.int .u64 (IntKind.u64.wrap (V.k.nextOwn-1)))).old (qa i6) g3
     rw[c0,←d8] at h3
     have c8:=qb h3
     clear h3 d8
     go_upto_region 11 with fail
     generalize w2.setCell ⟨g,40,none⟩ (.int .u64 (IntKind.u64.wrap (V.k.nextOwn-1)))=w3 at g4 c8 ⊢
     clear l7 m2 P L i6
     have cK:w3.cell? ⟨K,0,none⟩=some (.slice oa os.length m):=by rw[qg (qa c8).k];rfl
     have k7:=qsi (qaj g4 38 (by rw[List.size_toArray,qas])) 0 35 (by omega)
     rw[q6z] at k7
     have n9:=qba x.h
     have D:qx w3 (w3.alloc (.cells (zi x.h).toArray 79)):=(Upd.refl _ _).alloc _
     have f:=qb ((qa c8).new D)
     have H:=qb (qa f).u.size
     clear g4 D
     go_wp2_with (at_builtin;refine wpList_append_own _ rfl (.tmp 39) (.tmp 42) 116 rfl w.heap.size 79 j9 _ 35 d9 Tryz.underlying116 o0 p3 p0 p1 p2 (by decide) _ _ _ rfl (qa f).oo ⟨w3.heap.size,0,none⟩ 1 1 (zi x.h) rfl (by rw[n9]) ?c1 (qj0 x.h) ?c3 ?c4 ?c5 ?_)
     case c1=>exact World.news_of_block (cs:=(zi x.h).toArray) (fr:=(0,0)) (qi _ _)
     case c3=>unfold maxLen;omega
     case c4=>have:=Nat.mul_le_mul (show os.length+1≤1000000 by omega) n4;omega
     case c5=>exact qa H
     intro v5 w5 F I _
     obtain⟨a5,M,i1⟩:=qv F
     subst i1
     have u5:Upd (fun k=>(Value.slice oa os.length m).ownBlock=some k) (w3.alloc (.cells (zi x.h).toArray 79)) w5:=(Upd.refl _ _).grown I (fun k J _=>J)
     have h6:=(qa f).putO (os':=os++[x.h]) u5 (by rw[List.length_append,List.flatMap_append,List.flatMap_cons,List.flatMap_nil,List.append_nil];exact F)
     have j2:w5.cell? ⟨K,0,none⟩=some (.slice oa os.length m):=by rw[qg ((qa f).grow (qa f).oo u5 (by decide)).2.1];rfl
     have j4:w5.frozen? ⟨K,0,none⟩=false:=qm ((qa f).grow (qa f).oo u5 (by decide)).2.1 0
     have c9:=qb h6
     clear F I u5 h6 k7 cK f H
     go_wp2_with fail
     go_roundw
     case rel =>
      refine⟨i+1,.slice a5 (os.length+1) M,.slice ra rs.length E,by go_num,by omega,?_⟩
      rw[qa d5,qa d4,qa d6,qa d7,if_pos N,if_pos ⟨N,ho⟩,if_neg (fun h=>by rw[N] at h;exact absurd h.1 (by decide)),List.append_nil,List.append_nil]
      exact qa c9
     case measure=>simp[intOf];omega
    | false =>
     have d8:zc V x = {V.give false x.h.amount with k:= {V.k with nextTheirs:=IntKind.u64.wrap (V.k.nextTheirs-1)}} := by unfold zc;rw[if_pos N,if_neg (by rw[ho];decide)]
     rw[ho] at P c0
     rw[ho] at L
     have q2:w2.cell? ⟨g,41,none⟩=some (.int .u64 V.k.nextTheirs):=by rw[←c0];exact(qa L).ch.toR.nextTheirs
     have q6:w2.frozen? ⟨g,41,none⟩=false:=qm (qa L).ch.at_ 41
     have h3:=(qa L).op ((qa L).ch.putNextTheirs (IntKind.u64.wrap (V.k.nextTheirs-1)) (qhe _)) (qf2 _ _ _ _)
     rw[c0,←d8] at h3
     have c8:=qb h3
     clear h3 d8
     go_wp2_with fail
     go_roundw
     case rel =>
      refine⟨i+1,.slice oa os.length m,.slice ra rs.length E,by go_num,by omega,?_⟩
      rw[qa d5,qa d4,qa d6,qa d7,if_pos N,if_neg (fun h=>by rw[ho] at h;exact absurd h.2 (by decide)),if_neg (fun h=>by rw[N] at h;exact absurd h.1 (by decide)),List.append_nil,List.append_nil,List.append_nil]
      exact qa c8
     case measure=>simp[intOf];omega
   ·have r0:(x.state==0)=false:=by simpa using N
    have g0:Hid (zc V x=V):=qb (by unfold zc;rw[if_neg N])
    by_cases h5:x.state=5
    ·rw[h5] at a6
     have e8:Hid (zy x = {x with state:=4,paid:=false}):=qb (by unfold zy;rw[if_pos h5])
     have f7:∀(W:World) (v:Value) (o:Nat) (r':Value) (l:List Int),CutS w W g K R S V lv nv av (.slice ka ks.length t) (.slice oa os.length m) r' ks os l→(∀k,r'.ownBlock=some k→k≠X)→CutS w (W.setCell ⟨X,o,none⟩ v) g K R S V lv nv av (.slice ka ks.length t) (.slice oa os.length m) r' ks os l:=fun W v o r' l h hr =>
      h.other ((Upd.refl (· = X) W).set1 o v) (.inr ⟨n0,j8,m9,(qa f0).1,(qa f0).2.1,hr⟩)
     have b7:=qb f7
     clear f7
     cases ho:x.own with
     | true =>
      rw[ho] at P
      have g1:wb.frozen? ⟨X,36,none⟩=false:=qm (qa HB) 36
      have g2:(wb.setCell ⟨X,36,none⟩ (.int .i64 4)).frozen? ⟨X,37,none⟩=false:=qm (zu (qa HB) 36 (.int .i64 4)) 37
      have a9:∃o,(wb.setCell ⟨X,36,none⟩ (.int .i64 4)).cell? ⟨X,37,none⟩=some o:=⟨_,by rw[qg (zu (qa HB) 36 (.int .i64 4)),Array.getElem?_setIfInBounds_ne (by decide),List.getElem?_toArray];exact qlw x⟩
      obtain⟨p4,a9⟩:=a9
      have z:=qa b7 _ (.bool false) 37 _ _ (qa b7 _ (.int .i64 4) 36 _ _ (qa O) (qa f0).2.2) (qa f0).2.2
      have C:=zu (zu (qa HB) 36 (.int .i64 4)) 37 (.bool false)
      rw[qwo,←qa e8] at C
      have c7:Hid (qdh (xs.take (i+1))=rs):=qb (by rw[qa d7,if_neg (fun h=>by rw[ho] at h;exact absurd h.2 (by decide)),List.append_nil])
      have d2:=qb z
      have c6:=qb C
      clear z C
      go_upto_region 17 with fail
      have z:=qa d2
      have C:=qa c6
      generalize (wb.setCell ⟨X,36,none⟩ (.int .i64 4)).setCell ⟨X,37,none⟩ (.bool false)=w7 at z C ⊢
      clear d2 c6 g1 g2 a9
      have e7:=qaj C 38 (by rw[List.size_toArray,qas])
      have e6:=qas (zy x)
      have D:qx w7 (w7.alloc (.cells (ql (zy x)).toArray 81)):=(Upd.refl _ _).alloc _
      have f:=qb (z.new D)
      have H:=qb (z.new D).u.size
      clear z C D a6 P O HB
      go_wp2_with (at_builtin;refine wpList_append_own _ rfl (.tmp 69) (.tmp 71) 43 rfl w.heap.size 81 i9 _ 38 b9 Tryz.underlying43 g7 i5 i2 i3 i4 (by decide) _ _ _ rfl (qa f).ko ⟨w7.heap.size,0,none⟩ 1 1 (ql (zy x)) rfl (by rw[e6]) ?c1 (qdy (zy x)) ?c3 ?c4 ?c5 ?_)
      case c1=>exact World.news_of_block (cs:=(ql (zy x)).toArray) (fr:=(0,0)) (qi _ _)
      case c3=>unfold maxLen;omega
      case c4=>have:=Nat.mul_le_mul (show ks.length+1≤1000000 by omega) g6;omega
      case c5=>exact qa H
      intro v8 w8 j q _
      obtain⟨a8,f5,e5⟩:=qv j
      subst e5
      have u8:Upd (fun k=>(Value.slice ka ks.length t).ownBlock=some k) (w7.alloc (.cells (ql (zy x)).toArray 81)) w8:=(Upd.refl _ _).grown q (fun k J _=>J)
      have h9:=(qa f).putL (ks':=ks++[zy x]) u8 (by rw[List.length_append,List.flatMap_append,List.flatMap_cons,List.flatMap_nil,List.append_nil];exact j)
      have d3:=qb h9
      clear j q u8 h9 e7 f H
      go_wp2_with fail
      go_roundw
      case rel =>
       refine⟨i+1,.slice oa os.length m,.slice ra rs.length E,by go_num,by omega,?_⟩
       rw[qa d5,qa d4,qa d6,if_neg N,if_neg (fun h=>N h.1),List.append_nil,qa g0,qa c7]
       exact qa d3
      case measure=>simp[intOf];omega
     | false =>
      rw[ho] at P
      have d0:wb.cell? ⟨X,0,none⟩=some (.int .u64 x.h.id):=by rw[qg (qa HB),List.getElem?_toArray];exact q6w x
      have cK:wb.cell? ⟨K,1,none⟩=some (.slice ra rs.length E):=by rw[qg (qa O).k];rfl
      have D:qx wb (wb.alloc (.cells #[.int .u64 x.h.id] 22)):=(Upd.refl _ _).alloc _
      have f:=qb ((qa O).new D)
      have H:=qb (qa f).u.size
      have f9:=qb (D.old (qa HB) (fun h=>h))
      clear D
      go_wp2_with (at_builtin;refine wpList_append_own _ rfl (.tmp 60) (.tmp 64) 117 rfl w.heap.size 22 k9 _ 1 e9 Tryz.underlying117 g9 o8 o5 o6 o7 (by decide) _ _ _ rfl (qa f).ro ⟨wb.heap.size,0,none⟩ 1 1 [.int .u64 x.h.id] rfl rfl ?c1 ?c2 ?c3 ?c4 ?c5 ?_)
      case c1=>exact World.news_of_block (cs:=#[.int .u64 x.h.id]) (fr:=(0,0)) (qi _ _)
      case c2 =>
       intro v hv
       rw[List.mem_singleton.1 hv]
       rfl
      case c3=>unfold maxLen;omega
      case c4=>have:=Nat.mul_le_mul (show rs.length+1≤1000000 by omega) n5;omega
      case c5=>exact qa H
      intro v5 w5 F I _
      obtain⟨a5,M,i1⟩:=qv F
      subst i1
      have u5:Upd (fun k=>(Value.slice ra rs.length E).ownBlock=some k) (wb.alloc (.cells #[.int .u64 x.h.id] 22)) w5:=(Upd.refl _ _).grown I (fun k J _=>J)
      have h8:w5.ownsRow w.heap.size 22 1 (.slice a5 (rs.length+1) M) (rs++[x.h.id]).length ((rs++[x.h.id]).map (Value.int .u64)):=by
       rw[List.length_append,List.map_append]
       exact F
      have h6:=(qa f).putR (rs':=rs++[x.h.id]) u5 h8
      have g8:=((qa f).grow (qa f).ro u5 (by decide)).2.1
      have j2:w5.cell? ⟨K,1,none⟩=some (.slice ra rs.length E):=by rw[qg g8];rfl
      have j4:w5.frozen? ⟨K,1,none⟩=false:=qm g8 1
      have g5:=u5.old (qa f9) (fun e=>by
       obtain⟨c1,b8⟩:=qw (qa f).ro X e
       exact za b8 (qa f9) (by decide) rfl)
      have k1:=((Upd.refl (· = K) w5).set1 1 (.slice a5 (rs.length+1) M)).old g5 j8
      have i8:Hid (∀k,(Value.slice a5 (rs.length+1) M).ownBlock=some k→k≠X):=qb (fun k J e=>by
       obtain⟨c1,b8⟩:=qw h8 k J
       exact za b8 g5 (by decide) e)
      have c9:=qb h6
      have a7:=qb k1
      clear F I u5 h6 h8 g8 g5 k1 f H f9 cK d0 O HB a6 P
      go_upto_region 16 with fail
      generalize w5.setCell ⟨K,1,none⟩ (.slice a5 (rs.length+1) M)=w6 at c9 a7 ⊢
      clear j2 j4
      have a6:w6.cell? ⟨X,36,none⟩=some (.int .i64 x.state):=by rw[qg (qa a7),List.getElem?_toArray];exact qfk x
      have g1:w6.frozen? ⟨X,36,none⟩=false:=qm (qa a7) 36
      have g2:(w6.setCell ⟨X,36,none⟩ (.int .i64 4)).frozen? ⟨X,37,none⟩=false:=qm (zu (qa a7) 36 (.int .i64 4)) 37
      have a9:∃o,(w6.setCell ⟨X,36,none⟩ (.int .i64 4)).cell? ⟨X,37,none⟩=some o:=⟨_,by rw[qg (zu (qa a7) 36 (.int .i64 4)),Array.getElem?_setIfInBounds_ne (by decide),List.getElem?_toArray];exact qlw x⟩
      obtain⟨p4,a9⟩:=a9
      have z:=qa b7 _ (.bool false) 37 _ _ (qa b7 _ (.int .i64 4) 36 _ _ (qa c9) (qa i8)) (qa i8)
      have C:=zu (zu (qa a7) 36 (.int .i64 4)) 37 (.bool false)
      rw[qwo,←qa e8] at C
      have c7:Hid (qdh (xs.take (i+1))=rs++[x.h.id]):=qb (by rw[qa d7,if_pos ⟨h5,ho⟩])
      have d2:=qb z
      have c6:=qb C
      clear z C
      go_upto_region 17 with fail
      have z:=qa d2
      have C:=qa c6
      generalize (w6.setCell ⟨X,36,none⟩ (.int .i64 4)).setCell ⟨X,37,none⟩ (.bool false)=w7 at z C ⊢
      clear d2 c6 g1 g2 a9
      have e7:=qaj C 38 (by rw[List.size_toArray,qas])
      have e6:=qas (zy x)
      have D:qx w7 (w7.alloc (.cells (ql (zy x)).toArray 81)):=(Upd.refl _ _).alloc _
      have f:=qb (z.new D)
      have H:=qb (z.new D).u.size
      clear z C D c9 a7 a6
      go_wp2_with (at_builtin;refine wpList_append_own _ rfl (.tmp 69) (.tmp 71) 43 rfl w.heap.size 81 i9 _ 38 b9 Tryz.underlying43 g7 i5 i2 i3 i4 (by decide) _ _ _ rfl (qa f).ko ⟨w7.heap.size,0,none⟩ 1 1 (ql (zy x)) rfl (by rw[e6]) ?c1 (qdy (zy x)) ?c3 ?c4 ?c5 ?_)
      case c1=>exact World.news_of_block (cs:=(ql (zy x)).toArray) (fr:=(0,0)) (qi _ _)
      case c3=>unfold maxLen;omega
      case c4=>have:=Nat.mul_le_mul (show ks.length+1≤1000000 by omega) g6;omega
      case c5=>exact qa H
      intro v8 w8 j q _
      obtain⟨a8,f5,e5⟩:=qv j
      subst e5
      have u8:Upd (fun k=>(Value.slice ka ks.length t).ownBlock=some k) (w7.alloc (.cells (ql (zy x)).toArray 81)) w8:=(Upd.refl _ _).grown q (fun k J _=>J)
      have h9:=(qa f).putL (ks':=ks++[zy x]) u8 (by rw[List.length_append,List.flatMap_append,List.flatMap_cons,List.flatMap_nil,List.append_nil];exact j)
      have d3:=qb h9
      clear j q u8 h9 e7 f H
      go_wp2_with fail
      go_roundw
      case rel =>
       refine⟨i+1,.slice oa os.length m,.slice a5 (rs.length+1) M,by go_num,by omega,?_⟩
       rw[qa d5,qa d4,qa d6,if_neg N,if_neg (fun h=>N h.1),List.append_nil,qa g0,qa c7]
       exact qa d3
      case measure=>simp[intOf];omega
    ·have r1:(x.state==5)=false:=by simpa using h5
     have e8:Hid (zy x=x):=qb (by unfold zy;rw[if_neg h5])
     have c7:Hid (qdh (xs.take (i+1))=rs):=qb (by rw[qa d7,if_neg (fun h=>h5 h.1),List.append_nil])
     go_upto_region 17 with fail
     have z:=qa O
     have C:=qa HB
     rw[←qa e8] at C
     obtain⟨w7,rfl⟩:∃w7:World,w7=wb:=⟨_,rfl⟩
     have e7:=qaj C 38 (by rw[List.size_toArray,qas])
     have e6:=qas (zy x)
     have D:qx w7 (w7.alloc (.cells (ql (zy x)).toArray 81)):=(Upd.refl _ _).alloc _
     have f:=qb (z.new D)
     have H:=qb (z.new D).u.size
     clear z C D a6 P O HB
     go_wp2_with (at_builtin;refine wpList_append_own _ rfl (.tmp 69) (.tmp 71) 43 rfl w.heap.size 81 i9 _ 38 b9 Tryz.underlying43 g7 i5 i2 i3 i4 (by decide) _ _ _ rfl (qa f).ko ⟨w7.heap.size,0,none⟩ 1 1 (ql (zy x)) rfl (by rw[e6]) ?c1 (qdy (zy x)) ?c3 ?c4 ?c5 ?_)
     case c1=>exact World.news_of_block (cs:=(ql (zy x)).toArray) (fr:=(0,0)) (qi _ _)
     case c3=>unfold maxLen;omega
     case c4=>have:=Nat.mul_le_mul (show ks.length+1≤1000000 by omega) g6;omega
     case c5=>exact qa H
     intro v8 w8 j q _
     obtain⟨a8,f5,e5⟩:=qv j
     subst e5
     have u8:Upd (fun k=>(Value.slice ka ks.length t).ownBlock=some k) (w7.alloc (.cells (ql (zy x)).toArray 81)) w8:=(Upd.refl _ _).grown q (fun k J _=>J)
     have h9:=(qa f).putL (ks':=ks++[zy x]) u8 (by rw[List.length_append,List.flatMap_append,List.flatMap_cons,List.flatMap_nil,List.append_nil];exact j)
     have d3:=qb h9
     clear j q u8 h9 e7 f H
     go_wp2_with fail
     go_roundw
     case rel =>
      refine⟨i+1,.slice oa os.length m,.slice ra rs.length E,by go_num,by omega,?_⟩
      rw[qa d5,qa d4,qa d6,if_neg N,if_neg (fun h=>N h.1),List.append_nil,qa g0,qa c7]
      exact qa d3
     case measure=>simp[intOf];omega
  ·obtain rfl:i=xs.length:=by omega
   rw[List.take_length] at *
   have hP:=Y.ch
   have f1:wq.cell? ⟨g,47,none⟩=some lv:=hP.toR.live
   have q7:wq.frozen? ⟨g,47,none⟩=false:=qm hP.at_ 47
   have o1:(qd7 xs).length≤1000000:=Nat.le_trans (qvn xs) (by omega)
   have Z:=hP.newLive w Y.u (Upd.refl _ _) _ (qd7 xs) (fun y hy=>by
    obtain⟨x,hx,rfl⟩:=List.mem_map.1 hy
    exact qyo (qa l6 x (List.mem_filter.1 hx).1)) o1 Y.ko
   have j3:=qm Z.at_ 626
   have p5:(wq.setCell ⟨g,47,none⟩ (.slice ka (qd7 xs).length t)).cell? ⟨g,626,none⟩=some nv:=by rw[qg Z.at_ 626];exact qpe _ _ _ _ Z.ok.s.seed Z.ok.shelf
   have a4:=Z.noNews
   have m3:=qm a4.at_ 43
   have l8:((wq.setCell ⟨g,47,none⟩ (.slice ka (qd7 xs).length t)).setCell ⟨g,626,none⟩ qbl).cell? ⟨g,43,none⟩=some (.bool (xs.foldl zc c).k.shutHeard):=a4.toR.shutHeard
   have e3:=a4.putShutHeard false
   have n6:¬K=g:=by have:=Y.glt;have:=Y.kge;omega
   have n7:¬R=g:=by have:=Y.glt;have:=Y.rge;omega
   have uF:Upd (· = g) wq (((wq.setCell ⟨g,47,none⟩ (.slice ka (qd7 xs).length t)).setCell ⟨g,626,none⟩ qbl).setCell ⟨g,43,none⟩ (.bool false)):=((qf2 _ _ _ _).trans (qf2 _ _ _ _)).trans (qf2 _ _ _ _)
   have e4:=uF.old Y.k n6
   have f4:=uF.old Y.r n7
   have HF:=qb e3
   have HU:=qb (Y.u.trans uF)
   have i7:=qb (And.intro e4 f4)
   have l3:=qb (qi6 Y.ko)
   have j0:=qb Y.rge
   have l9:(((wq.setCell ⟨g,47,none⟩ (.slice ka (qd7 xs).length t)).setCell ⟨g,626,none⟩ qbl).setCell ⟨g,43,none⟩ (.bool false)).cell? ⟨K,0,none⟩=some (.slice oa (qdt xs).length m):=by rw[qg e4];rfl
   have m0:(((wq.setCell ⟨g,47,none⟩ (.slice ka (qd7 xs).length t)).setCell ⟨g,626,none⟩ qbl).setCell ⟨g,43,none⟩ (.bool false)).cell? ⟨K,1,none⟩=some (.slice ra (qdh xs).length E):=by rw[qg e4];rfl
   have rK:=qaj e4 2 rfl
   have m4:=qm f4 0
   have m5:=qm f4 1
   unfold qbl at j3 m3 l8 l9 m0 rK m4 m5 HF HU i7
   clear b3 Y hP Z a4 e3 uF e4 f4
   go_upto_region 20 with fail
   generalize ((wq.setCell ⟨g,47,none⟩ (.slice ka (qd7 xs).length t)).setCell ⟨g,626,none⟩ (.slice none 0 0)).setCell ⟨g,43,none⟩ (.bool false)=w9 at *
   obtain⟨g9,b5⟩:=qa i7
   have q3:w9.cell? ⟨R,0,none⟩=some (.slice none 0 0):=by rw[qg b5];rfl
   have q4:w9.cell? ⟨R,1,none⟩=some (.slice none 0 0):=by rw[qg b5];rfl
   have p8:(w9.setCell ⟨R,0,none⟩ (.slice oa (qdt xs).length m)).frozen? ⟨R,1,none⟩=false:=qm (zu b5 0 _) 1
   have p6:(w9.setCell ⟨R,0,none⟩ (.slice oa (qdt xs).length m)).cell? ⟨R,1,none⟩=some (.slice none 0 0):=by rw[qg (zu b5 0 _)];rfl
   have k5:=zu (zu b5 0 (.slice oa (qdt xs).length m)) 1 (.slice ra (qdh xs).length E)
   have hF:=qa HF
   have N:=qa H0
   have b4:∀k,(Value.slice ka (qd7 xs).length t).ownBlock=some k→k<w9.heap.size∧k≠R∧w.heap.size≤k:=fun k J=>by
    obtain⟨c1,b8⟩:=qw hF.live k J
    exact⟨zq b8,za b8 b5 (by decide),qa l3 k J⟩
   have h2:ChP w9 g (fun k=>S k∨(Value.slice ka (qd7 xs).length t).ownBlock=some k) _ _ _ av:=⟨hF.at_,hF.ok,hF.live,hF.news,hF.last,.inl N.inG,fun k e=> .inr e,(fun k e=>by cases e),fun k e=> .inl (N.inA k e),(fun k e=>by cases e),fun k J=>J.elim (fun e=>Nat.lt_of_lt_of_le (N.lt k e) (qa HU).size) (fun e=>(b4 k e).1)⟩
   have uR:Upd (· = R) w9 ((w9.setCell ⟨R,0,none⟩ (.slice oa (qdt xs).length m)).setCell ⟨R,1,none⟩ (.slice ra (qdh xs).length E)):=((Upd.refl _ _).set1 0 _).trans ((Upd.refl _ _).set1 1 _)
   have h3:=h2.upd uR (fun k J e=>J.elim (fun e2=>by have:=N.lt k e2;have:=qa j0;omega) (fun e2=>(b4 k e2).2.1 e))
   have hz:=uR.size
   have h4:=h3.wider (T:=Fr S w ((w9.setCell ⟨R,0,none⟩ (.slice oa (qdt xs).length m)).setCell ⟨R,1,none⟩ (.slice ra (qdh xs).length E))) (fun k J=>J.elim .inl (fun e=> .inr ⟨(b4 k e).2.2,by have:=(b4 k e).1;omega⟩)) (fun k J=>J.elim (fun e=>by have:=N.lt k e;have:=(qa HU).size;omega) (fun e=>e.2))
   have hu:=(qa HU).then uR (fun i hi e=>by have:=qa j0;omega)
   have H4:=qb h4
   have l5:=qb hu
   have l4:=qb k5
   clear g9 b5 k5 hF N b4 h2 uR h3 hz h4 hu
   go_wp2_with fail
   refine bodyPost_ret (results_cell_row rfl _ _ R _ _ _ _ rfl (qa l4) Tryz.underlying119 rfl (by kernel_rfl)) rfl ?_
   rw[qa l0]
   exact⟨⟨_,_,rfl⟩,⟨_,_,_,qa H4⟩,(qa l5).mono (fun k _ e=>by rw[e];exact(qa H0).inG)⟩
end Go.Proofs.YtjpmomdechibmaaGreatDoor
