/-
  Package secret: chain.
-/
import Derived.Test.YtjpmomdechibmaaGreatDoorMbc
import Derived.Test.YtjpmomdechibmaaGreatDoorMbf
set_option linter.unusedVariables false
set_option linter.unusedSimpArgs false
namespace Go.Proofs.YtjpmomdechibmaaGreatDoor
open Go.RowKit Go.Shelf
attribute [local go_sem] Oper.semAt_some
attribute [local go_sem ↓ high] qaa qap
theorem KeepsOthers.of_upd{S:Nat→Prop}{W f:World}(u:Upd S W f)(m:∀k,S k→∃cs T g,W.heap[k]? = some (.cells cs T g)):KeepsOthers W f:=by
 refine⟨u.size,fun k o i l=> ?_⟩
 refine u.old i (fun q=> ?_)
 obtain⟨cs,T,g,e⟩:=m k q
 rw[i] at e
 rw[Option.some.inj e] at l
 cases l
attribute [local go_sem] qcx qdn zq
def qf5(h:List Int)(b:Nat):List Int:=h.set (b / 8) (bits .xor .u8 (h.getD (b / 8) 0) (2 ^ (b%8)))
def qfn(h:List Int)(b:Nat):List Int:=qf7 (strOfNums (qf5 h b))
def qce(h:List Int)(i d:Nat):List Int:=(hiB i d 0).foldl qfn h
theorem q4f(h:List Int)(b:Nat):(qf5 h b).length=h.length:=by simp[qf5]
theorem qp0(h:List Int)(b:Nat):(qfn h b).length=32:=by unfold qfn;exact qck _
theorem q7x(l:List Nat):∀h:List Int,h.length=32→(l.foldl qfn h).length=32:=by
 induction l with
 | nil=>intro h f;exact f
 | cons b l g=>intro h _;rw[List.foldl_cons];exact g (qfn h b) (qp0 h b)
theorem qgw(h:List Int)(f:h.length=32)(i d:Nat):(qce h i d).length=32:=q7x _ h f
set_option maxRecDepth 100000 in
set_option maxHeartbeats 1000000 in
theorem q88(i d:Nat)(w:World) :
  Calls Tryz.prog 107 #[.int .i64 i,.int .i64 d] w fun e w'=>∃Bd Bi,e = .returned (.func (.func 127) #[] #[.pointer (some ⟨Bd,0,none⟩),.pointer (some ⟨Bi,0,none⟩)])∧qy w w'∧w.heap.size≤Bi∧Bd<w'.heap.size∧Bi<w'.heap.size∧w'.cell? ⟨Bd,0,none⟩=some (.int .i64 d)∧w'.cell? ⟨Bi,0,none⟩=some (.int .i64 i):=by
 go_enter Tryz.func107,Tryz.ntmps107
 go_wp2
 go_ret
 have f:=qi (w.alloc (.cells #[.int .i64 i] 3)) (.cells #[.int .i64 d] 3)
 rw[World.size_alloc] at f
 exact⟨_,_,rfl,((Upd.refl _ _).alloc _).alloc _,Nat.le_refl _,by simp,by simp;omega,by rw[qh f];rfl,by rw[qh (zl (qi _ _) _)];rfl⟩
def qj0(h:List Int)(l:List (Fin 16)):List Int:=l.foldl (fun h x=>qfn h x.1) h
theorem qz6(h:List Int)(b:Fin 16)(l:List (Fin 16)):qj0 h (b::l)=qj0 (qfn h b.1) l:=by unfold qj0;rw[List.foldl_cons]
theorem qsw(l:List (Fin 16)):∀h:List Int,h.length=32→(qj0 h l).length=32:=by
 induction l with
 | nil=>intro h f;exact f
 | cons b l g=>intro h _;rw[qz6];exact g (qfn h b.1) (qp0 h b.1)
theorem qz7(h:List Int)(l:List (Fin 16))(x:Fin 16):qj0 h (l++[x])=qfn (qj0 h l) x.1:=by unfold qj0;rw[List.foldl_append,List.foldl_cons,List.foldl_nil]
theorem q4g(h:List Int)(l:List (Fin 16)):qj0 h l=(l.map (·.1)).foldl qfn h:=by unfold qj0;rw[List.foldl_map]
theorem qpz{W f:World}{k:Nat}{cs:Array Value}{T:TypeId}{g:Nat × Nat}{row:Option Nat}(h:W.heap[k]? = some (.cells cs T g))(m:W.grownBy f row)(q:∀r,row=some r→∃o:Obj,W.heap[r]? = some o∧o.isCells=false):f.heap[k]? = some (.cells cs T g):=by
 refine(m.block k (zw h) ?_).trans h
 intro e
 obtain⟨o,l,i⟩:=q k e.symm
 rw[h] at l
 rw[←Option.some.inj l] at i
 cases i
set_option maxRecDepth 100000 in
set_option maxHeartbeats 2000000 in
theorem qso(h:List Int)(hh:h.length=32)(i d:Nat)(hi:i<65536)(hd:d≤16)(w:World)(hT:Tabs w) :
  Calls Tryz.prog 80 #[.agg (zf h).toArray,.int .i64 i,.int .i64 d] w (qa7 (.agg (zf (qce h i d)).toArray) w):=by
 refine(callsIn_wide (n:=6)).1 ?_
 refine callsIn_of_wp_marks Tryz.func80 rfl trivial ?_ rfl
 simp only[Tryz.ntmps80,List.size_toArray,List.length_cons,List.length_nil,Nat.reduceAdd,Nat.reduceSub,Array.replicate_succ,Array.replicate_zero,List.push_toArray,List.append_toArray,List.nil_append,List.cons_append]
 gi_wp2
 generalize hz:(Obj.cells #[_,_,_,_,_,_,_,_,_,_,_,_,_,_,_,_,_,_,_,_,_,_,_,_,_,_,_,_,_,_,_,_] 28)=zo
 have y:=zl (qi w (.cells (zf h).toArray 28)) zo
 have C:=qi (w.alloc (.cells (zf h).toArray 28)) zo
 rw[World.size_alloc] at C
 have n1:qy w ((w.alloc (.cells (zf h).toArray 28)).alloc zo):=((Upd.refl _ _).alloc _).alloc _
 generalize (w.alloc (.cells (zf h).toArray 28)).alloc zo=w1 at y C n1 ⊢
 refine⟨trivial,callsIn_wide.2 ((q88 i d w1).mono ?_)⟩
 rintro e w2 ⟨Bd,Bi,rfl,Y,b8,d1,d2,cd,ci⟩
 have b7:=y
 replace y:=Y.old y (fun h=>h)
 replace C:=Y.old C (fun h=>h)
 have c2:=n1.trans Y
 obtain⟨A,a4⟩:∃A,A=w.heap.size:=⟨_,rfl⟩
 obtain⟨R,b9⟩:∃R,R=w.heap.size+1:=⟨_,rfl⟩
 have c9:w.heap.size≤A:=by omega
 have e7:w.heap.size≤R:=by omega
 have c8:R≠A:=by omega
 have P:Bi≠A:=by have:=n1.size;have:=zw (w:=w1) (b:=A) (o:= .cells (zf h).toArray 28 (0,0)) (by rw[a4];exact b7);omega
 rw[←b9] at C ⊢
 rw[←a4] at y ⊢
 clear a4 b9 b8 b7
 have E:Below w.heap.size w w2:=c2.below' (Nat.le_refl _) (fun _ h=>h.elim)
 have e4:∃Z,zo = .cells Z 28∧Z=(zf qad).toArray:=⟨_,hz.symm,rfl⟩
 obtain⟨Z,rfl,d4⟩:=e4
 subst d4
 clear hz n1 Y c2
 gi_wp2
 refine wpIn_rangeFunc_ownF (α:=Fin 16) rfl (by omega) (gf:=127) (lb:=#[.pointer (some ⟨Bd,0,none⟩),.pointer (some ⟨Bi,0,none⟩)]) rfl trivial (enters_of Tryz.func127 (by kernel_rfl) rfl)
  (encs:=fun x=>#[.int .i64 (x.1:Nat)]) (Kp:=KpB Bi) (S:=fun xs=>xs=hiF i d 0) (Sp:=fun pre=>pre <+: hiF i d 0) (N:=16) (w0:=w2)
  (fun l J Jx W hW hJ e6 hY h0=>q87 Fence.wide 5 trivial rfl (by omega) l Bd Bi i d hi hd J Jx hY W ((hW.cell (p:=⟨Bd,0,none⟩) d1).trans cd) ((hW.cell (p:=⟨Bi,0,none⟩) d2).trans ci) h0)
  (fun h k v e=>k v (h v e)) ?kb (Below.refl _ _) (fun _=>rfl)
  (fun pre W=>(W.heap[A]? = some (.cells (zf (qj0 h pre)).toArray 28 (0,0))∧W.heap[R]? = some (.cells (zf qad).toArray 28 (0,0))∧W.cell? ⟨Bi,0,none⟩=some (.int .i64 i))∧Below w.heap.size w W)
  (fun _ _ _=>False)
  (OwnFrom.and (Own.from (fun s A' B' row hs hg hr=>⟨qpz hs.1 hg hr,qpz hs.2.1 hg hr,cell_kept hs.2.2 hg hr⟩) _) (ownFrom_below (Nat.le_refl _) E.size))
  (fun _ _ _ _ _ hs _ _=>hs)
  ⟨⟨y,C,ci⟩,E⟩
  (fun(x:Fin 16)=> {tmps:=#[.agg (zf h).toArray,.int .i64 i,.int .i64 d,.pointer (some ⟨A,0,none⟩),undef,undef,.pointer (some ⟨R,0,none⟩),.int .i64 (x.1:Nat),.int .i64 i,.int .i64 d,.func (.func 127) #[] #[.pointer (some ⟨Bd,0,none⟩),.pointer (some ⟨Bi,0,none⟩)],.int .i64 (x.1:Nat),undef,undef,undef,undef,undef,undef,undef,undef,undef,undef,undef,undef,undef],defers:=[]}) ?assign ?body ?done ?stop
 case kb =>
  intro W l o o' hl ho hc _ v hv
  exact cell_kept hv (grownBy_putObj' W l o') (fun r e=>by cases e;exact⟨o,ho,hc⟩)
 case assign =>
  intro l x W K hK
  gi_wp2
  exact hK
 case body =>
  rintro l pre x W ⟨⟨g,O,c0⟩,I⟩ _
  have U:=qsw pre h hh
  obtain⟨q,hq⟩:∃q,q=qj0 h pre:=⟨_,rfl⟩
  rw[←hq] at U g
  obtain⟨f,a8,e5⟩:∃f:Nat,f=x.1∧f<16:=⟨_,rfl,x.2⟩
  rw[←a8]
  obtain⟨k,hk⟩:∃k,k=f / 8:=⟨_,rfl⟩
  obtain⟨j,hj⟩:∃j,j=f%8:=⟨_,rfl⟩
  have e8:k<32:=by omega
  have d7:j<8:=by omega
  have b6:W.cell? ⟨A,k,none⟩=some (.int .u8 (q.getD k 0)):=by
   unfold zf at g
   rw[qh g k,List.getElem?_toArray,List.getElem?_map,List.getD_eq_getElem?_getD,List.getElem?_eq_getElem (by omega)]
   rfl
  have c7:=qq g k
  have d5:(f:Int).tdiv 8=(k:Int):=by rw[hk];exact(Int.ofNat_tdiv f 8).symm
  have e0:(f:Int).tmod 8=(j:Int):=by rw[hj];exact(Int.ofNat_tmod f 8).symm
  have e3:IntKind.i64.wrap (k:Int)=(k:Int):=qu7 k (by omega)
  have e2:IntKind.i64.wrap (j:Int)=(j:Int):=qu7 j (by omega)
  have d9:(k:Int)<32:=by omega
  have d8:(j:Int)<8:=by omega
  have e9:Tryz.prog.follows .mixedOrders=true:=by kernel_rfl
  have c6:=qb a8
  have HK:=qb hk
  have HJ:=qb hj
  have HQ:=qb hq
  clear a8 hk hj hq
  have c1:bits .xor .u8 (q.getD k 0) (IntKind.u8.wrap (2 ^ j))=(qf5 q f).getD k 0:=by
   have ew:∀j:Nat,j<8→IntKind.u8.wrap (2 ^ j)=2 ^ j:=by decide
   rw[ew j d7]
   unfold qf5
   rw[←qa HK,←qa HJ,List.getD_eq_getElem?_getD (l:=q.set _ _),List.getElem?_set_self (by omega)]
   rfl
  have F:(W.setCell ⟨A,k,none⟩ (.int .u8 (bits .xor .u8 (q.getD k 0) (IntKind.u8.wrap (2 ^ j))))).drew.heap[A]? = some (.cells (zf (qf5 q f)).toArray 28 (0,0)):=by
   have:=zz g k (.int .u8 (bits .xor .u8 (q.getD k 0) (IntKind.u8.wrap (2 ^ j))))
   refine this.trans ?_
   rw[c1]
   have e:(qf5 q f).getD k 0=bits .xor .u8 (q.getD k 0) (2 ^ j):=by
    unfold qf5
    rw[←qa HK,←qa HJ,List.getD_eq_getElem?_getD (l:=q.set _ _),List.getElem?_set_self (by omega)]
    rfl
   unfold zf
   rw[e,List.setIfInBounds_toArray,←List.map_set]
   unfold qf5
   rw[←qa HK,←qa HJ]
  have m:Below w.heap.size W (W.setCell ⟨A,k,none⟩ (.int .u8 (bits .xor .u8 (q.getD k 0) (IntKind.u8.wrap (2 ^ j))))).drew:=((Below.refl _ _).setCell (p:=⟨A,k,none⟩) c9 _).drew
  have a9:KeepsOthers W (W.setCell ⟨A,k,none⟩ (.int .u8 (bits .xor .u8 (q.getD k 0) (IntKind.u8.wrap (2 ^ j))))).drew:=(KeepsOthers.setCell _ _ _).trans (KeepsOthers.drew _)
  have b3:Upd (· = A) W (W.setCell ⟨A,k,none⟩ (.int .u8 (bits .xor .u8 (q.getD k 0) (IntKind.u8.wrap (2 ^ j))))).drew:=((Upd.refl _ _).set1 _ _).drew
  clear c1
  generalize q.getD k 0=V at b6 F m a9 b3
  gi_wp2
  gi_region_o
  all_goals (
   generalize (W.setCell ⟨A,k,none⟩ (.int .u8 (bits .xor .u8 V (IntKind.u8.wrap (2 ^ j))))).drew=W1 at F m a9 b3 ⊢
   clear b6 c7 d5 e0 e3 e2 d9 d8
   have t:(qf5 q f).length=32:=by rw[q4f,U]
   have a5:(convert 111 9 (.slice (some ⟨A,0,none⟩) 32 32)).run Tryz.prog W1 = .ok (.string (strOfNums (qf5 q f))) W1 :=
    qen W1 _ _ _ Tryz.underlying111 Tryz.underlying5 Tryz.underlying9 A 32 _ _ _ 32 t F
   have H:Calls Tryz.prog 84 #[.string (strOfNums (qf5 q f))] W1 (fun e w'=>e = .returned (.agg (zf (qf7 (strOfNums (qf5 q f)))).toArray)∧qy W1 w'):=qjx (strOfNums (qf5 q f)) W1 (by rw[strOfNums_size,t];omega) (hT.upd (S:=fun k=>w.heap.size≤k) ⟨(I.trans m).os,(I.trans m).tape,(I.trans m).output,(I.trans m).size,fun k hk _=>(I.trans m).block k hk⟩ (by have:=hT.lt;omega) (by have:=hT.lt;omega))
   have a7:=qck (strOfNums (qf5 q f))
   have b5:=qb (HsB.mk F t)
   have T:qfn q f=qf7 (strOfNums (qf5 q f)):=rfl
   have b4:=qb T
   clear F T
   generalize qf7 (strOfNums (qf5 q f))=K at H a7 b4
   gi_wp2
   refine⟨trivial,(CallsIn.inRound l (callsIn_wide.2 H)).mono ?_⟩
   rintro e W2 ⟨rfl,Y⟩
   have M:=(qa b5).new Y
   have e1:=M.stOk K a7
   have c3:=qb (M.put K a7)
   have u3:=qak (w:=W2) (b:=A) (zf K)
   have k3:KeepsOthers W (W2.setCells A 0 (zf K)):=(a9.trans (KeepsOthers.of_upd Y (fun _ h=>h.elim))).trans (KeepsOthers.of_upd u3 (fun k e=>⟨_,_,_,(congrArg (fun z=>W2.heap[z]?) e).trans M.at_⟩))
   have u4:Upd (· = A) W (W2.setCells A 0 (zf K)):=(b3.trans (Y.mono (fun _ _ h=>h.elim))).trans u3
   have K3:=qb k3
   have U4:=qb u4
   clear H M u3 k3 u4 a5 b5
   gi_wp2
   have d0:=qa c3
   have L:=qa U4
   refine⟨qa K3,fun v hv=>L.cell hv P,⟨⟨?_,L.old O c8,L.cell c0 P⟩,I.trans (L.below' I.size (fun k e=>by omega))⟩⟩
   rw[qz7,←qa HQ,←qa c6,qa b4]
   exact d0.at_)
 case done =>
  rintro D ys W hD rfl ⟨⟨g,O,c0⟩,I⟩ hK
  have hl:=qsw (hiF i d 0) h hh
  have d6:qj0 h (hiF i d 0)=qce h i d:=by unfold qce;rw[q4g,zbm hd]
  rw[d6] at hl g
  have hA:HsB W A (qce h i d):=⟨g,hl⟩
  have hr:=hA.row
  have hR:HsB W R qad:=⟨O,qo⟩
  have e1:=hR.stOk _ hl
  have X:=hR.put _ hl
  have u5:=qak (w:=W) (b:=R) (zf (qce h i d))
  have k5:KeepsOthers W (W.setCells R 0 (zf (qce h i d))):=KeepsOthers.of_upd u5 (fun k e=>⟨_,_,_,(congrArg (fun z=>W.heap[z]?) e).trans O⟩)
  have d3:=k5.same D _ hK rfl
  have HP:=qb X
  have c4:=qb (I.trans (u5.below' I.size (fun k e=>by omega)))
  have c5:=qb d3
  clear X u5 k5 hR hA g
  gi_wp2
  have a6:=qa c5
  refine⟨by simp,.inl ⟨_,_,rfl,run_takeDeferred a6,?_⟩⟩
  have hP:=qpz (qa HP).at_ (grownBy_putObj' _ D (.deferred none)) (fun r e=>by cases e;exact⟨_,a6,rfl⟩)
  refine⟨_,results_cell_row rfl _ _ R _ _ _ _ rfl hP Tryz.underlying28 rfl (by rw[List.size_toArray,qa4,hl];exact Tryz.infoHsh),rfl,?_⟩
  have f0:=E.size
  exact Upd.of_below ((qa c4).trans (belowK_b (w:=w) (Nat.le_refl _) _ D _ _ (by omega) a6 rfl rfl)) (Nat.le_refl _)
 case stop =>
  rintro D c pre W _ _ h _
  exact h.elim
end Go.Proofs.YtjpmomdechibmaaGreatDoor
