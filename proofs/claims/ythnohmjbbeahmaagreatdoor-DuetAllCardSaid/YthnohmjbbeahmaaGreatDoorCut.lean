/-
  Cut.
-/
import Derived.Test.YthnohmjbbeahmaaGreatDoorMda
set_option linter.unusedVariables false
set_option linter.unusedSimpArgs false
namespace Go.Proofs.YthnohmjbbeahmaaGreatDoor
open Go.RowKit
attribute [local go_sem ↓ high] qdf qeb qg0 qh1 qk7 qx6
attribute [local go_sem] qh5 qj8 qp9 qvs q2b zgh zb
set_option maxRecDepth 100000 in
set_option maxHeartbeats 4000000 in
theorem zdk(g:Nat)(S:Nat→Prop)(c:Ch)(w:World)(h:ChS w g S c) :
  Calls Tryz.prog 39 #[.pointer (some ⟨g,0,none⟩)] w fun e w'=>(∃ov rv,e = .returned (.agg #[ov,rv]))∧ChS w' g (Fr S w w') c.cut∧Upd S w w':=by
 obtain⟨lv,nv,av,h⟩:=h
 have q3:=h.ok.few
 have l3:=h.ok.xs
 have q4:=h.lt g h.inG
 obtain⟨la,q5,h8⟩:=qap h.live
 have b4:∀(i:Nat) (x:Live),c.xs[i]? = some x→∃g',la=some ⟨g',0,none⟩∧qgz w g' 0 c.xs∧g'≠g∧g'<w.heap.size:=by
  intro i x hi;have f4:=(List.getElem?_eq_some_iff.1 hi).1;rcases (qdo h.live).2 with ⟨e,e0⟩ | ⟨g',q1,e,-,hh⟩
  ·rw[e0] at f4;simp at f4
  ·rw[h8] at e;injection e with e1;obtain⟨r0,f7⟩:=qai h.live g' (by rw[h8,e1];rfl);exact⟨g',e1,hh.toL,qao f7 h.at_ (by decide),z6 f7⟩
 have f2:w.cell? ⟨g,47,none⟩=some lv:=h.toR.live
 rw[h8] at f2
 obtain⟨i9,z9,b9,g8,i8,i5,i6,i7,g7⟩:=qjz
 obtain⟨j9,y9,d9,o4,p7,p4,p5,p6,n8⟩:=zak
 obtain⟨k9,x9,e9,h1,p2,o9,p0,p1,n9⟩:=zcx
 have r7:(c.xs.length:Int)≤1000000:=by omega
 have k5:c.cut=(c.xs.foldl za c).unsaid (qe1 c.xs):=rfl
 have l6:=qb k5
 have H0:=qb h
 have m0:=qb l3
 clear h k5 l3
 generalize p3:c.xs=xs at *
 clear p3
 go_enter Tryz.func39,Tryz.ntmps39
 go_upto_region 2 with fail
 have hR:=zj (qi w (.cells #[.slice none 0 0,.slice none 0 0] 91)) (.cells #[.slice none 0 0,.slice none 0 0] 91)
 have hK:=qi (w.alloc (.cells #[.slice none 0 0,.slice none 0 0] 91)) (.cells #[.slice none 0 0,.slice none 0 0] 91)
 rw[World.size_alloc] at hK
 have n1:qu w ((w.alloc (.cells #[.slice none 0 0,.slice none 0 0] 91)).alloc (.cells #[.slice none 0 0,.slice none 0 0] 91)):=((Upd.refl _ _).alloc _).alloc _
 generalize (w.alloc (.cells #[.slice none 0 0,.slice none 0 0] 91)).alloc (.cells #[.slice none 0 0,.slice none 0 0] 91)=w1 at hR hK n1 ⊢
 obtain⟨R,k0⟩:∃R,R=w.heap.size:=⟨_,rfl⟩
 obtain⟨K,j8⟩:∃K,K=w.heap.size+1:=⟨_,rfl⟩
 rw[←j8] at hK ⊢
 rw[←k0] at hR ⊢
 have k1:CutS w w1 g K R S c lv nv av (.slice none 0 0) (.slice none 0 0) (.slice none 0 0) [] [] [] :=
  ⟨(qa H0).new n1,hK,hR,World.ownsRow_nil _ _ _ _,World.ownsRow_nil _ _ _ _,World.ownsRow_nil _ _ _ _,n1.mono (fun _ _ h=>h.elim),(qa H0).lt,by omega,by omega,by omega⟩
 have j4:=qb k1
 have f2:=n1.cell f2 (fun h=>h)
 clear k0 j8 hK hR n1 k1
 go_wp2_with fail
 go_loopw [4,6,12] (fun kv _ iv wr=>∃(i:Nat) (ov rv:Value),iv = .int .i64 (i:Int)∧i≤xs.length∧CutS w wr g K R S ((xs.take i).foldl za c) lv nv av kv ov rv (qe1 (xs.take i)) (qem (xs.take i)) (qd9 (xs.take i))) (fun _ _ iv _=>xs.length-(intOf iv).toNat)
 case atStart=>exact⟨0,_,_,rfl,Nat.zero_le _,qa j4⟩
 case round =>
  obtain⟨i,ov,rv,rfl,hi,hS⟩:=hrel;obtain⟨wq,rfl⟩:∃wq:World,wq=wr:=⟨_,rfl⟩;obtain⟨ka,C,b5⟩:=qap hS.ko;subst b5;obtain⟨oa,t,o6⟩:=qap hS.oo;subst o6;obtain⟨ra,H,o7⟩:=qap hS.ro;subst o7;by_cases f4:i<xs.length
  ·obtain⟨x,b7⟩:∃x,xs[i]? = some x:=⟨_,List.getElem?_eq_getElem f4⟩;obtain⟨g',rfl,hh,o2,r5⟩:=b4 i x b7;have f9:=(hh.upd hS.u o2).row b7;rw[Nat.zero_add] at f9;have r6:(i:Int)<(xs.length:Int):=by omega
   have o8:=qo3 wq x;have h7:=qov wq x;have d5:=qb (q5t b7);have i3:=q5s c b7;have d7:=qb (q5u b7);have d8:=qb (q5v b7);have r8:(qe1 (xs.take i)).length≤i:=by
    have:=qyf (xs.take i);rw[List.length_take] at this;omega
   have r9:(qem (xs.take i)).length≤i:=by
    have:=q85 (xs.take i);rw[List.length_take] at this;omega
   have s0:(qd9 (xs.take i)).length≤i:=by
    have:=q86 (xs.take i);rw[List.length_take] at this;omega
   generalize (xs.take i).foldl za c=Z at hS i3;have d6:=qb i3;generalize n0:qe1 (xs.take i)=ks at *
   generalize n3:qem (xs.take i)=os at *
   generalize n4:qd9 (xs.take i)=rs at *
   have HS:=qb hS;clear b7 hh b4 i3 hS n0 n3 n4 j4;go_upto_region 6 with fail;obtain⟨hb,nb⟩:=h7;generalize (wq.alloc (.cells (ql Live.zero).toArray 56)).setCells wq.heap.size 0 (ql x)=wb at hb nb ⊢;obtain⟨X,hX⟩:∃X,X=wq.heap.size:=⟨_,rfl⟩;rw[←hX] at hb ⊢;have f3:∀ {U:TypeId} {l5 n2:Nat} {v2:Value} {l2:List Value},wq.ownsRow w.heap.size U l5 v2 n2 l2→∀k,v2.ownBlock=some k→k≠X:=by
    intro U l5 n2 v2 l2 h2 k M;obtain⟨c2,n7⟩:=qai h2 k M;have:=z6 n7;omega
   have k3:=And.intro (f3 (qa HS).ko) (And.intro (f3 (qa HS).oo) (f3 (qa HS).ro));have n6:w.heap.size≤X:=by rw[hX];exact(qa HS).u.size
   have k2:X≠K:=by have:=z6 (qa HS).k;omega
   have n5:X≠R:=by have:=z6 (qa HS).r;omega
   have g4:X≠g:=by omega
   have f1:=qb k3;clear f3 k3;have a7:wb.cell? ⟨X,36,none⟩=some (.int .i64 x.state):=by rw[qh hb,List.getElem?_toArray];exact qgm x
   have Y:wb.cell? ⟨X,35,none⟩=some (.bool x.own):=by rw[qh hb,List.getElem?_toArray];exact qh6 x
   have V:=qb ((qa HS).new nb);have HB:=qb hb;clear o8 f9 hb nb HS hX;by_cases P:x.state=0
   ·rw[P] at a7;have d1:wb.cell? ⟨X,1,none⟩=some (.int .u64 x.h.amount):=by rw[qh (qa HB),List.getElem?_toArray];exact qwl x
    have k6:=qt7 g S _ lv nv av x.own x.h.amount wb (qa V).ch;go_wp2_with fail;refine k6.mono ?_;rintro e w2 ⟨rfl,k7,u2⟩;have Y:=u2.cell Y g4;have N:=qb ((qa V).op k7 u2);have j0:=qb (u2.old (qa HB) g4);have c6:(Z.give x.own x.h.amount).k=Z.k:=by unfold Ch.give;split<;>rfl
    clear k6 d1 a7 k7 u2 HB V;cases ho:x.own with
    | true =>
     have e3:za Z x = {Z.give true x.h.amount with k:= {Z.k with nextOwn:=IntKind.u64.wrap (Z.k.nextOwn-1)}} := by unfold za;rw[if_pos P,if_pos ho]
     rw[ho] at Y c6;rw[ho] at N;have m2:w2.cell? ⟨g,40,none⟩=some (.int .u64 Z.k.nextOwn):=by rw[←c6];exact(qa N).ch.toR.nextOwn
     have m6:w2.frozen? ⟨g,40,none⟩=false:=qv (qa N).ch.at_ 40;have h3:=(qa N).op ((qa N).ch.putNextOwn (IntKind.u64.wrap (Z.k.nextOwn-1)) (qig _)) (qje _ _ _ _);have g5:=(qje w2 g 40 (.int .u64 (IntKind.u64.wrap (Z.k.nextOwn-1)))).old (qa j0) g4;rw[c6,←e3] at h3;have c9:=qb h3;clear h3 e3;go_upto_region 11 with fail;generalize w2.setCell ⟨g,40,none⟩ (.int .u64 (IntKind.u64.wrap (Z.k.nextOwn-1)))=w3 at g5 c9 ⊢;clear m2 m6 Y N j0;have cK:w3.cell? ⟨K,0,none⟩=some (.slice oa os.length t):=by rw[qh (qa c9).k];rfl
     have l4:=qo0 (qad g5 38 (by rw[List.size_toArray,qa5])) 0 35 (by omega);rw[zax] at l4;have o3:=qbh x.h;have F:qu w3 (w3.alloc (.cells (ze x.h).toArray 54)):=(Upd.refl _ _).alloc _;have m:=qb ((qa c9).new F);have J:=qb (qa m).u.size;clear g5 F;go_wp2_with (at_builtin;refine wpList_append_own _ rfl (.tmp 39) (.tmp 42) 88 rfl w.heap.size 54 j9 _ 35 d9 Tryz.underlying88 o4 p7 p4 p5 p6 (by decide) _ _ _ rfl (qa m).oo ⟨w3.heap.size,0,none⟩ 1 1 (ze x.h) rfl (by rw[o3]) ?c1 (qk3 x.h) ?c3 ?c4 ?c5 ?_)
     case c1=>exact World.news_of_block (cs:=(ze x.h).toArray) (fr:=(0,0)) (qi _ _)
     case c3=>unfold maxLen;omega
     case c4=>have:=Nat.mul_le_mul (show os.length+1≤1000000 by omega) n8;omega
     case c5=>exact qa J
     intro v5 w5 I L _;obtain⟨a5,O,i4⟩:=qap I;subst i4;have u5:Upd (fun k=>(Value.slice oa os.length t).ownBlock=some k) (w3.alloc (.cells (ze x.h).toArray 54)) w5:=(Upd.refl _ _).grown L (fun k M _=>M);have h6:=(qa m).putO (os':=os++[x.h]) u5 (by rw[List.length_append,List.flatMap_append,List.flatMap_cons,List.flatMap_nil,List.append_nil];exact I);have j5:w5.cell? ⟨K,0,none⟩=some (.slice oa os.length t):=by rw[qh ((qa m).grow (qa m).oo u5 (by decide)).2.1];rfl
     have j7:w5.frozen? ⟨K,0,none⟩=false:=qv ((qa m).grow (qa m).oo u5 (by decide)).2.1 0;have d2:=qb h6;clear I L u5 h6 l4 cK m J;go_wp2_with fail;go_roundw
     case rel =>
      refine⟨i+1,.slice a5 (os.length+1) O,.slice ra rs.length H,by go_num,by omega,?_⟩;rw[qa d6,qa d5,qa d7,qa d8,if_pos P,if_pos ⟨P,ho⟩,if_neg (fun h=>by rw[P] at h;exact absurd h.1 (by decide)),List.append_nil,List.append_nil];exact qa d2
     case measure=>simp[intOf];omega
    | false =>
     have e3:za Z x = {Z.give false x.h.amount with k:= {Z.k with nextTheirs:=IntKind.u64.wrap (Z.k.nextTheirs-1)}} := by unfold za;rw[if_pos P,if_neg (by rw[ho];decide)]
     rw[ho] at Y c6;rw[ho] at N;have q6:w2.cell? ⟨g,41,none⟩=some (.int .u64 Z.k.nextTheirs):=by rw[←c6];exact(qa N).ch.toR.nextTheirs
     have r1:w2.frozen? ⟨g,41,none⟩=false:=qv (qa N).ch.at_ 41;have h3:=(qa N).op ((qa N).ch.putNextTheirs (IntKind.u64.wrap (Z.k.nextTheirs-1)) (qig _)) (qje _ _ _ _);rw[c6,←e3] at h3;have c9:=qb h3;clear h3 e3;go_wp2_with fail;go_roundw
     case rel =>
      refine⟨i+1,.slice oa os.length t,.slice ra rs.length H,by go_num,by omega,?_⟩;rw[qa d6,qa d5,qa d7,qa d8,if_pos P,if_neg (fun h=>by rw[ho] at h;exact absurd h.2 (by decide)),if_neg (fun h=>by rw[P] at h;exact absurd h.1 (by decide)),List.append_nil,List.append_nil,List.append_nil];exact qa c9
     case measure=>simp[intOf];omega
   ·have r3:(x.state==0)=false:=by simpa using P
    have g1:Hid (za Z x=Z):=qb (by unfold za;rw[if_neg P]);by_cases h5:x.state=5
    ·rw[h5] at a7;have f0:Hid (qag x = {x with state:=4,paid:=false}):=qb (by unfold qag;rw[if_pos h5]);have f8:∀(W:World) (v:Value) (o:Nat) (r':Value) (l:List Int),CutS w W g K R S Z lv nv av (.slice ka ks.length C) (.slice oa os.length t) r' ks os l→(∀k,r'.ownBlock=some k→k≠X)→CutS w (W.setCell ⟨X,o,none⟩ v) g K R S Z lv nv av (.slice ka ks.length C) (.slice oa os.length t) r' ks os l:=fun W v o r' l h hr =>
      h.other ((Upd.refl (· = X) W).set1 o v) (.inr ⟨n6,k2,n5,(qa f1).1,(qa f1).2.1,hr⟩)
     have b8:=qb f8;clear f8;cases ho:x.own with
     | true =>
      rw[ho] at Y;have g2:wb.frozen? ⟨X,36,none⟩=false:=qv (qa HB) 36;have g3:(wb.setCell ⟨X,36,none⟩ (.int .i64 4)).frozen? ⟨X,37,none⟩=false:=qv (z7 (qa HB) 36 (.int .i64 4)) 37;have b3:∃o,(wb.setCell ⟨X,36,none⟩ (.int .i64 4)).cell? ⟨X,37,none⟩=some o:=⟨_,by rw[qh (z7 (qa HB) 36 (.int .i64 4)),Array.getElem?_setIfInBounds_ne (by decide),List.getElem?_toArray];exact qnm x⟩;obtain⟨p8,b3⟩:=b3;have D:=qa b8 _ (.bool false) 37 _ _ (qa b8 _ (.int .i64 4) 36 _ _ (qa V) (qa f1).2.2) (qa f1).2.2;have E:=z7 (z7 (qa HB) 36 (.int .i64 4)) 37 (.bool false);rw[qze,←qa f0] at E;have c8:Hid (qd9 (xs.take (i+1))=rs):=qb (by rw[qa d8,if_neg (fun h=>by rw[ho] at h;exact absurd h.2 (by decide)),List.append_nil]);have d3:=qb D;have c7:=qb E;clear D E;go_upto_region 17 with fail;have D:=qa d3;have E:=qa c7;generalize (wb.setCell ⟨X,36,none⟩ (.int .i64 4)).setCell ⟨X,37,none⟩ (.bool false)=w7 at D E ⊢;clear d3 c7 g2 g3 b3;have e8:=qad E 38 (by rw[List.size_toArray,qa5]);have e7:=qa5 (qag x);have F:qu w7 (w7.alloc (.cells (ql (qag x)).toArray 56)):=(Upd.refl _ _).alloc _;have m:=qb (D.new F);have J:=qb (D.new F).u.size;clear D E F a7 Y V HB;go_wp2_with (at_builtin;refine wpList_append_own _ rfl (.tmp 69) (.tmp 71) 51 rfl w.heap.size 56 i9 _ 38 b9 Tryz.underlying51 g8 i8 i5 i6 i7 (by decide) _ _ _ rfl (qa m).ko ⟨w7.heap.size,0,none⟩ 1 1 (ql (qag x)) rfl (by rw[e7]) ?c1 (qet (qag x)) ?c3 ?c4 ?c5 ?_)
      case c1=>exact World.news_of_block (cs:=(ql (qag x)).toArray) (fr:=(0,0)) (qi _ _)
      case c3=>unfold maxLen;omega
      case c4=>have:=Nat.mul_le_mul (show ks.length+1≤1000000 by omega) g7;omega
      case c5=>exact qa J
      intro v8 w8 q z _;obtain⟨a8,f6,e6⟩:=qap q;subst e6;have u8:Upd (fun k=>(Value.slice ka ks.length C).ownBlock=some k) (w7.alloc (.cells (ql (qag x)).toArray 56)) w8:=(Upd.refl _ _).grown z (fun k M _=>M);have h9:=(qa m).putL (ks':=ks++[qag x]) u8 (by rw[List.length_append,List.flatMap_append,List.flatMap_cons,List.flatMap_nil,List.append_nil];exact q);have d4:=qb h9;clear q z u8 h9 e8 m J;go_wp2_with fail;go_roundw
      case rel =>
       refine⟨i+1,.slice oa os.length t,.slice ra rs.length H,by go_num,by omega,?_⟩;rw[qa d6,qa d5,qa d7,if_neg P,if_neg (fun h=>P h.1),List.append_nil,qa g1,qa c8];exact qa d4
      case measure=>simp[intOf];omega
     | false =>
      rw[ho] at Y;have d0:wb.cell? ⟨X,0,none⟩=some (.int .u64 x.h.id):=by rw[qh (qa HB),List.getElem?_toArray];exact zaw x
      have cK:wb.cell? ⟨K,1,none⟩=some (.slice ra rs.length H):=by rw[qh (qa V).k];rfl
      have F:qu wb (wb.alloc (.cells #[.int .u64 x.h.id] 27)):=(Upd.refl _ _).alloc _;have m:=qb ((qa V).new F);have J:=qb (qa m).u.size;have g0:=qb (F.old (qa HB) (fun h=>h));clear F;go_wp2_with (at_builtin;refine wpList_append_own _ rfl (.tmp 60) (.tmp 64) 89 rfl w.heap.size 27 k9 _ 1 e9 Tryz.underlying89 h1 p2 o9 p0 p1 (by decide) _ _ _ rfl (qa m).ro ⟨wb.heap.size,0,none⟩ 1 1 [.int .u64 x.h.id] rfl rfl ?c1 ?c2 ?c3 ?c4 ?c5 ?_)
      case c1=>exact World.news_of_block (cs:=#[.int .u64 x.h.id]) (fr:=(0,0)) (qi _ _)
      case c2 =>
       intro v hv;rw[List.mem_singleton.1 hv];rfl
      case c3=>unfold maxLen;omega
      case c4=>have:=Nat.mul_le_mul (show rs.length+1≤1000000 by omega) n9;omega
      case c5=>exact qa J
      intro v5 w5 I L _;obtain⟨a5,O,i4⟩:=qap I;subst i4;have u5:Upd (fun k=>(Value.slice ra rs.length H).ownBlock=some k) (wb.alloc (.cells #[.int .u64 x.h.id] 27)) w5:=(Upd.refl _ _).grown L (fun k M _=>M);have i0:w5.ownsRow w.heap.size 27 1 (.slice a5 (rs.length+1) O) (rs++[x.h.id]).length ((rs++[x.h.id]).map (Value.int .u64)):=by
       rw[List.length_append,List.map_append];exact I
      have h6:=(qa m).putR (rs':=rs++[x.h.id]) u5 i0;have g9:=((qa m).grow (qa m).ro u5 (by decide)).2.1;have j5:w5.cell? ⟨K,1,none⟩=some (.slice ra rs.length H):=by rw[qh g9];rfl
      have j7:w5.frozen? ⟨K,1,none⟩=false:=qv g9 1;have g6:=u5.old (qa g0) (fun e=>by
       obtain⟨c1,c0⟩:=qai (qa m).ro X e;exact qao c0 (qa g0) (by decide) rfl)
      have k4:=((Upd.refl (· = K) w5).set1 1 (.slice a5 (rs.length+1) O)).old g6 k2;have j2:Hid (∀k,(Value.slice a5 (rs.length+1) O).ownBlock=some k→k≠X):=qb (fun k M e=>by
       obtain⟨c1,c0⟩:=qai i0 k M;exact qao c0 g6 (by decide) e)
      have d2:=qb h6;have a9:=qb k4;clear I L u5 h6 i0 g9 g6 k4 m J g0 cK d0 V HB a7 Y;go_upto_region 16 with fail;generalize w5.setCell ⟨K,1,none⟩ (.slice a5 (rs.length+1) O)=w6 at d2 a9 ⊢;clear j5 j7;have a7:w6.cell? ⟨X,36,none⟩=some (.int .i64 x.state):=by rw[qh (qa a9),List.getElem?_toArray];exact qgm x
      have g2:w6.frozen? ⟨X,36,none⟩=false:=qv (qa a9) 36;have g3:(w6.setCell ⟨X,36,none⟩ (.int .i64 4)).frozen? ⟨X,37,none⟩=false:=qv (z7 (qa a9) 36 (.int .i64 4)) 37;have b3:∃o,(w6.setCell ⟨X,36,none⟩ (.int .i64 4)).cell? ⟨X,37,none⟩=some o:=⟨_,by rw[qh (z7 (qa a9) 36 (.int .i64 4)),Array.getElem?_setIfInBounds_ne (by decide),List.getElem?_toArray];exact qnm x⟩;obtain⟨p8,b3⟩:=b3;have D:=qa b8 _ (.bool false) 37 _ _ (qa b8 _ (.int .i64 4) 36 _ _ (qa d2) (qa j2)) (qa j2);have E:=z7 (z7 (qa a9) 36 (.int .i64 4)) 37 (.bool false);rw[qze,←qa f0] at E;have c8:Hid (qd9 (xs.take (i+1))=rs++[x.h.id]):=qb (by rw[qa d8,if_pos ⟨h5,ho⟩]);have d3:=qb D;have c7:=qb E;clear D E;go_upto_region 17 with fail;have D:=qa d3;have E:=qa c7;generalize (w6.setCell ⟨X,36,none⟩ (.int .i64 4)).setCell ⟨X,37,none⟩ (.bool false)=w7 at D E ⊢;clear d3 c7 g2 g3 b3;have e8:=qad E 38 (by rw[List.size_toArray,qa5]);have e7:=qa5 (qag x);have F:qu w7 (w7.alloc (.cells (ql (qag x)).toArray 56)):=(Upd.refl _ _).alloc _;have m:=qb (D.new F);have J:=qb (D.new F).u.size;clear D E F d2 a9 a7;go_wp2_with (at_builtin;refine wpList_append_own _ rfl (.tmp 69) (.tmp 71) 51 rfl w.heap.size 56 i9 _ 38 b9 Tryz.underlying51 g8 i8 i5 i6 i7 (by decide) _ _ _ rfl (qa m).ko ⟨w7.heap.size,0,none⟩ 1 1 (ql (qag x)) rfl (by rw[e7]) ?c1 (qet (qag x)) ?c3 ?c4 ?c5 ?_)
      case c1=>exact World.news_of_block (cs:=(ql (qag x)).toArray) (fr:=(0,0)) (qi _ _)
      case c3=>unfold maxLen;omega
      case c4=>have:=Nat.mul_le_mul (show ks.length+1≤1000000 by omega) g7;omega
      case c5=>exact qa J
      intro v8 w8 q z _;obtain⟨a8,f6,e6⟩:=qap q;subst e6;have u8:Upd (fun k=>(Value.slice ka ks.length C).ownBlock=some k) (w7.alloc (.cells (ql (qag x)).toArray 56)) w8:=(Upd.refl _ _).grown z (fun k M _=>M);have h9:=(qa m).putL (ks':=ks++[qag x]) u8 (by rw[List.length_append,List.flatMap_append,List.flatMap_cons,List.flatMap_nil,List.append_nil];exact q);have d4:=qb h9;clear q z u8 h9 e8 m J;go_wp2_with fail;go_roundw
      case rel =>
       refine⟨i+1,.slice oa os.length t,.slice a5 (rs.length+1) O,by go_num,by omega,?_⟩;rw[qa d6,qa d5,qa d7,if_neg P,if_neg (fun h=>P h.1),List.append_nil,qa g1,qa c8];exact qa d4
      case measure=>simp[intOf];omega
    ·have r4:(x.state==5)=false:=by simpa using h5
     have f0:Hid (qag x=x):=qb (by unfold qag;rw[if_neg h5]);have c8:Hid (qd9 (xs.take (i+1))=rs):=qb (by rw[qa d8,if_neg (fun h=>h5 h.1),List.append_nil]);go_upto_region 17 with fail;have D:=qa V;have E:=qa HB;rw[←qa f0] at E;obtain⟨w7,rfl⟩:∃w7:World,w7=wb:=⟨_,rfl⟩;have e8:=qad E 38 (by rw[List.size_toArray,qa5]);have e7:=qa5 (qag x);have F:qu w7 (w7.alloc (.cells (ql (qag x)).toArray 56)):=(Upd.refl _ _).alloc _;have m:=qb (D.new F);have J:=qb (D.new F).u.size;clear D E F a7 Y V HB;go_wp2_with (at_builtin;refine wpList_append_own _ rfl (.tmp 69) (.tmp 71) 51 rfl w.heap.size 56 i9 _ 38 b9 Tryz.underlying51 g8 i8 i5 i6 i7 (by decide) _ _ _ rfl (qa m).ko ⟨w7.heap.size,0,none⟩ 1 1 (ql (qag x)) rfl (by rw[e7]) ?c1 (qet (qag x)) ?c3 ?c4 ?c5 ?_)
     case c1=>exact World.news_of_block (cs:=(ql (qag x)).toArray) (fr:=(0,0)) (qi _ _)
     case c3=>unfold maxLen;omega
     case c4=>have:=Nat.mul_le_mul (show ks.length+1≤1000000 by omega) g7;omega
     case c5=>exact qa J
     intro v8 w8 q z _;obtain⟨a8,f6,e6⟩:=qap q;subst e6;have u8:Upd (fun k=>(Value.slice ka ks.length C).ownBlock=some k) (w7.alloc (.cells (ql (qag x)).toArray 56)) w8:=(Upd.refl _ _).grown z (fun k M _=>M);have h9:=(qa m).putL (ks':=ks++[qag x]) u8 (by rw[List.length_append,List.flatMap_append,List.flatMap_cons,List.flatMap_nil,List.append_nil];exact q);have d4:=qb h9;clear q z u8 h9 e8 m J;go_wp2_with fail;go_roundw
     case rel =>
      refine⟨i+1,.slice oa os.length t,.slice ra rs.length H,by go_num,by omega,?_⟩;rw[qa d6,qa d5,qa d7,if_neg P,if_neg (fun h=>P h.1),List.append_nil,qa g1,qa c8];exact qa d4
     case measure=>simp[intOf];omega
  ·obtain rfl:i=xs.length:=by omega
   rw[List.take_length] at *
   have hP:=hS.ch;have f2:wq.cell? ⟨g,47,none⟩=some lv:=hP.toR.live;have r2:wq.frozen? ⟨g,47,none⟩=false:=qv hP.at_ 47;have o5:(qe1 xs).length≤1000000:=Nat.le_trans (qyf xs) (by omega);have a4:=hP.newLive w hS.u (Upd.refl _ _) _ (qe1 xs) (fun y hy=>by
    obtain⟨x,hx,rfl⟩:=List.mem_map.1 hy;exact q1f (qa m0 x (List.mem_filter.1 hx).1)) o5 hS.ko
   have j6:=qv a4.at_ 626;have p9:(wq.setCell ⟨g,47,none⟩ (.slice ka (qe1 xs).length C)).cell? ⟨g,626,none⟩=some nv:=by rw[qh a4.at_ 626];exact qrg _ _ _ _ a4.ok.s.seed a4.ok.shelf
   have a6:=a4.noNews;have m7:=qv a6.at_ 43;have m3:((wq.setCell ⟨g,47,none⟩ (.slice ka (qe1 xs).length C)).setCell ⟨g,626,none⟩ qcd).cell? ⟨g,43,none⟩=some (.bool (xs.foldl za c).k.shutHeard):=a6.toR.shutHeard;have e4:=a6.putShutHeard false;have o0:¬K=g:=by have:=hS.glt;have:=hS.kge;omega
   have o1:¬R=g:=by have:=hS.glt;have:=hS.rge;omega
   have uF:Upd (· = g) wq (((wq.setCell ⟨g,47,none⟩ (.slice ka (qe1 xs).length C)).setCell ⟨g,626,none⟩ qcd).setCell ⟨g,43,none⟩ (.bool false)):=((qje _ _ _ _).trans (qje _ _ _ _)).trans (qje _ _ _ _);have e5:=uF.old hS.k o0;have f5:=uF.old hS.r o1;have HF:=qb e4;have HU:=qb (hS.u.trans uF);have j1:=qb (And.intro e5 f5);have l7:=qb (qsh hS.ko);have j3:=qb hS.rge;have m4:(((wq.setCell ⟨g,47,none⟩ (.slice ka (qe1 xs).length C)).setCell ⟨g,626,none⟩ qcd).setCell ⟨g,43,none⟩ (.bool false)).cell? ⟨K,0,none⟩=some (.slice oa (qem xs).length t):=by rw[qh e5];rfl
   have m5:(((wq.setCell ⟨g,47,none⟩ (.slice ka (qe1 xs).length C)).setCell ⟨g,626,none⟩ qcd).setCell ⟨g,43,none⟩ (.bool false)).cell? ⟨K,1,none⟩=some (.slice ra (qd9 xs).length H):=by rw[qh e5];rfl
   have rK:=qad e5 2 rfl;have m8:=qv f5 0;have m9:=qv f5 1;unfold qcd at j6 m7 m3 m4 m5 rK m8 m9 HF HU j1;clear b4 hS hP a4 a6 e4 uF e5 f5;go_upto_region 20 with fail;generalize ((wq.setCell ⟨g,47,none⟩ (.slice ka (qe1 xs).length C)).setCell ⟨g,626,none⟩ (.slice none 0 0)).setCell ⟨g,43,none⟩ (.bool false)=w9 at *
   obtain⟨h1,b6⟩:=qa j1;have q7:w9.cell? ⟨R,0,none⟩=some (.slice none 0 0):=by rw[qh b6];rfl
   have q9:w9.cell? ⟨R,1,none⟩=some (.slice none 0 0):=by rw[qh b6];rfl
   have q2:(w9.setCell ⟨R,0,none⟩ (.slice oa (qem xs).length t)).frozen? ⟨R,1,none⟩=false:=qv (z7 b6 0 _) 1;have q0:(w9.setCell ⟨R,0,none⟩ (.slice oa (qem xs).length t)).cell? ⟨R,1,none⟩=some (.slice none 0 0):=by rw[qh (z7 b6 0 _)];rfl
   have k8:=z7 (z7 b6 0 (.slice oa (qem xs).length t)) 1 (.slice ra (qd9 xs).length H);have hF:=qa HF;have P:=qa H0;have b5:∀k,(Value.slice ka (qe1 xs).length C).ownBlock=some k→k<w9.heap.size∧k≠R∧w.heap.size≤k:=fun k M=>by
    obtain⟨c1,c0⟩:=qai hF.live k M;exact⟨z6 c0,qao c0 b6 (by decide),qa l7 k M⟩
   have h2:ChP w9 g (fun k=>S k∨(Value.slice ka (qe1 xs).length C).ownBlock=some k) _ _ _ av:=⟨hF.at_,hF.ok,hF.live,hF.news,hF.last,.inl P.inG,fun k e=> .inr e,(fun k e=>by cases e),fun k e=> .inl (P.inA k e),(fun k e=>by cases e),fun k M=>M.elim (fun e=>Nat.lt_of_lt_of_le (P.lt k e) (qa HU).size) (fun e=>(b5 k e).1)⟩;have uR:Upd (· = R) w9 ((w9.setCell ⟨R,0,none⟩ (.slice oa (qem xs).length t)).setCell ⟨R,1,none⟩ (.slice ra (qd9 xs).length H)):=((Upd.refl _ _).set1 0 _).trans ((Upd.refl _ _).set1 1 _);have h3:=h2.upd uR (fun k M e=>M.elim (fun e2=>by have:=P.lt k e2;have:=qa j3;omega) (fun e2=>(b5 k e2).2.1 e));have hz:=uR.size;have h4:=h3.wider (T:=Fr S w ((w9.setCell ⟨R,0,none⟩ (.slice oa (qem xs).length t)).setCell ⟨R,1,none⟩ (.slice ra (qd9 xs).length H))) (fun k M=>M.elim .inl (fun e=> .inr ⟨(b5 k e).2.2,by have:=(b5 k e).1;omega⟩)) (fun k M=>M.elim (fun e=>by have:=P.lt k e;have:=(qa HU).size;omega) (fun e=>e.2));have hu:=(qa HU).then uR (fun i hi e=>by have:=qa j3;omega);have H4:=qb h4;have l9:=qb hu;have l8:=qb k8;clear h1 b6 k8 hF P b5 h2 uR h3 hz h4 hu;go_wp2_with fail;refine bodyPost_ret (results_cell_row rfl _ _ R _ _ _ _ rfl (qa l8) Tryz.underlying91 rfl (by kernel_rfl)) rfl ?_;rw[qa l6];exact⟨⟨_,_,rfl⟩,⟨_,_,_,qa H4⟩,(qa l9).mono (fun k _ e=>by rw[e];exact(qa H0).inG)⟩
end Go.Proofs.YthnohmjbbeahmaaGreatDoor
