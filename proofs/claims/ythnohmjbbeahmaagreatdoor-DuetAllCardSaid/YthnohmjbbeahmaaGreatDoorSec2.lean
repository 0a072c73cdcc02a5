/-
  Package secret: chain.
-/
import Derived.Test.YthnohmjbbeahmaaGreatDoorMbb
import Derived.Test.YthnohmjbbeahmaaGreatDoorMbe
set_option linter.unusedVariables false
set_option linter.unusedSimpArgs false
namespace Go.Proofs.YthnohmjbbeahmaaGreatDoor
open Go.RowKit Go.Shelf
attribute [local go_sem] Oper.semAt_some
attribute [local go_sem ↓ high] zy qak
theorem KeepsOthers.of_upd{S:Nat→Prop}{W g:World}(u:Upd S W g)(q:∀k,S k→∃cs T i,W.heap[k]? = some (.cells cs T i)):KeepsOthers W g:=by
 refine⟨u.size,fun k o l m=> ?_⟩;refine u.old l (fun t=> ?_);obtain⟨cs,T,i,e⟩:=q k t;rw[l] at e;rw[Option.some.inj e] at m;cases m
attribute [local go_sem] qcl qdb zb
def qgq(h:List Int)(b:Nat):List Int:=h.set (b / 8) (bits .xor .u8 (h.getD (b / 8) 0) (2 ^ (b%8)))
def qgb(h:List Int)(b:Nat):List Int:=qgs (strOfNums (qgq h b))
def qdv(h:List Int)(i d:Nat):List Int:=(hiB i d 0).foldl qgb h
theorem q53(h:List Int)(b:Nat):(qgq h b).length=h.length:=by simp[qgq]
theorem qq5(h:List Int)(b:Nat):(qgb h b).length=32:=by unfold qgb;exact qc4 _
theorem q9z(l:List Nat):∀h:List Int,h.length=32→(l.foldl qgb h).length=32:=by
 induction l with
 | nil=>intro h g;exact g
 | cons b l i=>intro h _;rw[List.foldl_cons];exact i (qgb h b) (qq5 h b)
theorem qjq(h:List Int)(g:h.length=32)(i d:Nat):(qdv h i d).length=32:=q9z _ h g
set_option maxRecDepth 100000 in
set_option maxHeartbeats 1000000 in
theorem zbj(i d:Nat)(w:World) :
  Calls Tryz.prog 148 #[.int .i64 i,.int .i64 d] w fun e w'=>∃Bd Bi,e = .returned (.func (.func 149) #[] #[.pointer (some ⟨Bd,0,none⟩),.pointer (some ⟨Bi,0,none⟩)])∧qu w w'∧w.heap.size≤Bi∧Bd<w'.heap.size∧Bi<w'.heap.size∧w'.cell? ⟨Bd,0,none⟩=some (.int .i64 d)∧w'.cell? ⟨Bi,0,none⟩=some (.int .i64 i):=by
 go_enter Tryz.func148,Tryz.ntmps148
 go_wp2
 go_ret
 have g:=qi (w.alloc (.cells #[.int .i64 i] 3)) (.cells #[.int .i64 d] 3)
 rw[World.size_alloc] at g
 exact⟨_,_,rfl,((Upd.refl _ _).alloc _).alloc _,Nat.le_refl _,by simp,by simp;omega,by rw[qh g];rfl,by rw[qh (zj (qi _ _) _)];rfl⟩
def qkc(h:List Int)(l:List (Fin 16)):List Int:=l.foldl (fun h x=>qgb h x.1) h
theorem q1s(h:List Int)(b:Fin 16)(l:List (Fin 16)):qkc h (b::l)=qkc (qgb h b.1) l:=by unfold qkc;rw[List.foldl_cons]
theorem qt5(l:List (Fin 16)):∀h:List Int,h.length=32→(qkc h l).length=32:=by
 induction l with
 | nil=>intro h g;exact g
 | cons b l i=>intro h _;rw[q1s];exact i (qgb h b.1) (qq5 h b.1)
theorem q1t(h:List Int)(l:List (Fin 16))(x:Fin 16):qkc h (l++[x])=qgb (qkc h l) x.1:=by unfold qkc;rw[List.foldl_append,List.foldl_cons,List.foldl_nil]
theorem q54(h:List Int)(l:List (Fin 16)):qkc h l=(l.map (·.1)).foldl qgb h:=by unfold qkc;rw[List.foldl_map]
theorem qq4{W g:World}{k:Nat}{cs:Array Value}{T:TypeId}{i:Nat × Nat}{row:Option Nat}(h:W.heap[k]? = some (.cells cs T i))(q:W.grownBy g row)(t:∀r,row=some r→∃o:Obj,W.heap[r]? = some o∧o.isCells=false):g.heap[k]? = some (.cells cs T i):=by
 refine(q.block k (z6 h) ?_).trans h;intro e;obtain⟨o,m,l⟩:=t k e.symm;rw[h] at m;rw[←Option.some.inj m] at l;cases l
set_option maxRecDepth 100000 in
set_option maxHeartbeats 2000000 in
theorem qtw(h:List Int)(hh:h.length=32)(i d:Nat)(hi:i<65536)(hd:d≤16)(w:World)(hT:Tabs w) :
  Calls Tryz.prog 142 #[.agg (qx h).toArray,.int .i64 i,.int .i64 d] w (qbr (.agg (qx (qdv h i d)).toArray) w):=by
 refine(callsIn_wide (n:=6)).1 ?_
 refine callsIn_of_wp_marks Tryz.func142 rfl trivial ?_ rfl
 simp only[Tryz.ntmps142,List.size_toArray,List.length_cons,List.length_nil,Nat.reduceAdd,Nat.reduceSub,Array.replicate_succ,Array.replicate_zero,List.push_toArray,List.append_toArray,List.nil_append,List.cons_append]
 gi_wp2
 generalize hz:(Obj.cells #[_,_,_,_,_,_,_,_,_,_,_,_,_,_,_,_,_,_,_,_,_,_,_,_,_,_,_,_,_,_,_,_] 33)=zo
 have E:=zj (qi w (.cells (qx h).toArray 33)) zo
 have F:=qi (w.alloc (.cells (qx h).toArray 33)) zo
 rw[World.size_alloc] at F
 have n1:qu w ((w.alloc (.cells (qx h).toArray 33)).alloc zo):=((Upd.refl _ _).alloc _).alloc _
 generalize (w.alloc (.cells (qx h).toArray 33)).alloc zo=w1 at E F n1 ⊢
 refine⟨trivial,callsIn_wide.2 ((zbj i d w1).mono ?_)⟩
 rintro e w2 ⟨Bd,Bi,rfl,n2,b9,d2,d3,cd,ci⟩
 have b8:=E
 replace E:=n2.old E (fun h=>h)
 replace F:=n2.old F (fun h=>h)
 have c3:=n1.trans n2
 obtain⟨A,a5⟩:∃A,A=w.heap.size:=⟨_,rfl⟩
 obtain⟨R,c0⟩:∃R,R=w.heap.size+1:=⟨_,rfl⟩
 have d0:w.heap.size≤A:=by omega
 have e8:w.heap.size≤R:=by omega
 have c9:R≠A:=by omega
 have U:Bi≠A:=by have:=n1.size;have:=z6 (w:=w1) (b:=A) (o:= .cells (qx h).toArray 33 (0,0)) (by rw[a5];exact b8);omega
 rw[←c0] at F ⊢
 rw[←a5] at E ⊢
 clear a5 c0 b9 b8
 have H:Below w.heap.size w w2:=c3.below' (Nat.le_refl _) (fun _ h=>h.elim)
 have e5:∃Z,zo = .cells Z 33∧Z=(qx zv).toArray:=⟨_,hz.symm,rfl⟩
 obtain⟨Z,rfl,d5⟩:=e5
 subst d5
 clear hz n1 n2 c3
 gi_wp2
 refine wpIn_rangeFunc_ownF (α:=Fin 16) rfl (by omega) (gf:=149) (lb:=#[.pointer (some ⟨Bd,0,none⟩),.pointer (some ⟨Bi,0,none⟩)]) rfl trivial (enters_of Tryz.func149 (by kernel_rfl) rfl)
  (encs:=fun x=>#[.int .i64 (x.1:Nat)]) (Kp:=KpB Bi) (S:=fun xs=>xs=hiF i d 0) (Sp:=fun pre=>pre <+: hiF i d 0) (N:=16) (w0:=w2)
  (fun l J Jx W hW hJ e7 hY h0=>zbi Fence.wide 5 trivial rfl (by omega) l Bd Bi i d hi hd J Jx hY W ((hW.cell (p:=⟨Bd,0,none⟩) d2).trans cd) ((hW.cell (p:=⟨Bi,0,none⟩) d3).trans ci) h0)
  (fun h k v e=>k v (h v e)) ?kb (Below.refl _ _) (fun _=>rfl)
  (fun pre W=>(W.heap[A]? = some (.cells (qx (qkc h pre)).toArray 33 (0,0))∧W.heap[R]? = some (.cells (qx zv).toArray 33 (0,0))∧W.cell? ⟨Bi,0,none⟩=some (.int .i64 i))∧Below w.heap.size w W)
  (fun _ _ _=>False)
  (OwnFrom.and (Own.from (fun s A' B' row hs hg hr=>⟨qq4 hs.1 hg hr,qq4 hs.2.1 hg hr,cell_kept hs.2.2 hg hr⟩) _) (ownFrom_below (Nat.le_refl _) H.size))
  (fun _ _ _ _ _ hs _ _=>hs)
  ⟨⟨E,F,ci⟩,H⟩
  (fun(x:Fin 16)=> {tmps:=#[.agg (qx h).toArray,.int .i64 i,.int .i64 d,.pointer (some ⟨A,0,none⟩),undef,undef,.pointer (some ⟨R,0,none⟩),.int .i64 (x.1:Nat),.int .i64 i,.int .i64 d,.func (.func 149) #[] #[.pointer (some ⟨Bd,0,none⟩),.pointer (some ⟨Bi,0,none⟩)],.int .i64 (x.1:Nat),undef,undef,undef,undef,undef,undef,undef,undef,undef,undef,undef,undef,undef],defers:=[]}) ?assign ?body ?done ?stop
 case kb =>
  intro W l o o' hl ho hc _ v hv;exact cell_kept hv (grownBy_putObj' W l o') (fun r e=>by cases e;exact⟨o,ho,hc⟩)
 case assign =>
  intro l x W K hK;gi_wp2;exact hK
 case body =>
  rintro l pre x W ⟨⟨m,T,c1⟩,M⟩ _;have Y:=qt5 pre h hh;obtain⟨q,hq⟩:∃q,q=qkc h pre:=⟨_,rfl⟩;rw[←hq] at Y m;obtain⟨g,a9,e6⟩:∃g:Nat,g=x.1∧g<16:=⟨_,rfl,x.2⟩;rw[←a9];obtain⟨k,hk⟩:∃k,k=g / 8:=⟨_,rfl⟩;obtain⟨j,hj⟩:∃j,j=g%8:=⟨_,rfl⟩;have e9:k<32:=by omega
  have d8:j<8:=by omega
  have b7:W.cell? ⟨A,k,none⟩=some (.int .u8 (q.getD k 0)):=by
   unfold qx at m;rw[qh m k,List.getElem?_toArray,List.getElem?_map,List.getD_eq_getElem?_getD,List.getElem?_eq_getElem (by omega)];rfl
  have c8:=qv m k;have d6:(g:Int).tdiv 8=(k:Int):=by rw[hk];exact(Int.ofNat_tdiv g 8).symm
  have e1:(g:Int).tmod 8=(j:Int):=by rw[hj];exact(Int.ofNat_tmod g 8).symm
  have e4:IntKind.i64.wrap (k:Int)=(k:Int):=qwh k (by omega);have e3:IntKind.i64.wrap (j:Int)=(j:Int):=qwh j (by omega);have e0:(k:Int)<32:=by omega
  have d9:(j:Int)<8:=by omega
  have f0:Tryz.prog.follows .mixedOrders=true:=by kernel_rfl
  have c7:=qb a9;have HK:=qb hk;have HJ:=qb hj;have HQ:=qb hq;clear a9 hk hj hq;have c2:bits .xor .u8 (q.getD k 0) (IntKind.u8.wrap (2 ^ j))=(qgq q g).getD k 0:=by
   have ew:∀j:Nat,j<8→IntKind.u8.wrap (2 ^ j)=2 ^ j:=by decide
   rw[ew j d8];unfold qgq;rw[←qa HK,←qa HJ,List.getD_eq_getElem?_getD (l:=q.set _ _),List.getElem?_set_self (by omega)];rfl
  have I:(W.setCell ⟨A,k,none⟩ (.int .u8 (bits .xor .u8 (q.getD k 0) (IntKind.u8.wrap (2 ^ j))))).drew.heap[A]? = some (.cells (qx (qgq q g)).toArray 33 (0,0)):=by
   have:=z7 m k (.int .u8 (bits .xor .u8 (q.getD k 0) (IntKind.u8.wrap (2 ^ j))));refine this.trans ?_;rw[c2];have e:(qgq q g).getD k 0=bits .xor .u8 (q.getD k 0) (2 ^ j):=by
    unfold qgq;rw[←qa HK,←qa HJ,List.getD_eq_getElem?_getD (l:=q.set _ _),List.getElem?_set_self (by omega)];rfl
   unfold qx;rw[e,List.setIfInBounds_toArray,←List.map_set];unfold qgq;rw[←qa HK,←qa HJ]
  have t:Below w.heap.size W (W.setCell ⟨A,k,none⟩ (.int .u8 (bits .xor .u8 (q.getD k 0) (IntKind.u8.wrap (2 ^ j))))).drew:=((Below.refl _ _).setCell (p:=⟨A,k,none⟩) d0 _).drew;have b3:KeepsOthers W (W.setCell ⟨A,k,none⟩ (.int .u8 (bits .xor .u8 (q.getD k 0) (IntKind.u8.wrap (2 ^ j))))).drew:=(KeepsOthers.setCell _ _ _).trans (KeepsOthers.drew _);have b4:Upd (· = A) W (W.setCell ⟨A,k,none⟩ (.int .u8 (bits .xor .u8 (q.getD k 0) (IntKind.u8.wrap (2 ^ j))))).drew:=((Upd.refl _ _).set1 _ _).drew;clear c2;generalize q.getD k 0=V at b7 I t b3 b4;gi_wp2;gi_region_o
  all_goals (
   generalize (W.setCell ⟨A,k,none⟩ (.int .u8 (bits .xor .u8 V (IntKind.u8.wrap (2 ^ j))))).drew=W1 at I t b3 b4 ⊢
   clear b7 c8 d6 e1 e4 e3 e0 d9
   have C:(qgq q g).length=32:=by rw[q53,Y]
   have a6:(convert 22 9 (.slice (some ⟨A,0,none⟩) 32 32)).run Tryz.prog W1 = .ok (.string (strOfNums (qgq q g))) W1 :=
    qe6 W1 _ _ _ Tryz.underlying22 Tryz.underlying5 Tryz.underlying9 A 32 _ _ _ 32 C I
   have L:Calls Tryz.prog 89 #[.string (strOfNums (qgq q g))] W1 (fun e w'=>e = .returned (.agg (qx (qgs (strOfNums (qgq q g)))).toArray)∧qu W1 w'):=qj9 (strOfNums (qgq q g)) W1 (by rw[strOfNums_size,C];omega) (hT.upd (S:=fun k=>w.heap.size≤k) ⟨(M.trans t).os,(M.trans t).tape,(M.trans t).output,(M.trans t).size,fun k hk _=>(M.trans t).block k hk⟩ (by have:=hT.lt;omega) (by have:=hT.lt;omega))
   have a8:=qc4 (strOfNums (qgq q g))
   have b6:=qb (HsB.mk I C)
   have X:qgb q g=qgs (strOfNums (qgq q g)):=rfl
   have b5:=qb X
   clear I X
   generalize qgs (strOfNums (qgq q g))=K at L a8 b5
   gi_wp2
   refine⟨trivial,(CallsIn.inRound l (callsIn_wide.2 L)).mono ?_⟩
   rintro e W2 ⟨rfl,n2⟩
   have P:=(qa b6).new n2
   have e2:=P.stOk K a8
   have c4:=qb (P.put K a8)
   have u3:=zz (w:=W2) (b:=A) (qx K)
   have k3:KeepsOthers W (W2.setCells A 0 (qx K)):=(b3.trans (KeepsOthers.of_upd n2 (fun _ h=>h.elim))).trans (KeepsOthers.of_upd u3 (fun k e=>⟨_,_,_,(congrArg (fun z=>W2.heap[z]?) e).trans P.at_⟩))
   have u4:Upd (· = A) W (W2.setCells A 0 (qx K)):=(b4.trans (n2.mono (fun _ _ h=>h.elim))).trans u3
   have K3:=qb k3
   have U4:=qb u4
   clear L P u3 k3 u4 a6 b6
   gi_wp2
   have d1:=qa c4
   have O:=qa U4
   refine⟨qa K3,fun v hv=>O.cell hv U,⟨⟨?_,O.old T c9,O.cell c1 U⟩,M.trans (O.below' M.size (fun k e=>by omega))⟩⟩
   rw[q1t,←qa HQ,←qa c7,qa b5]
   exact d1.at_)
 case done =>
  rintro D ys W hD rfl ⟨⟨m,T,c1⟩,M⟩ hK;have hl:=qt5 (hiF i d 0) h hh;have d7:qkc h (hiF i d 0)=qdv h i d:=by unfold qdv;rw[q54,zd1 hd]
  rw[d7] at hl m;have hA:HsB W A (qdv h i d):=⟨m,hl⟩;have hr:=hA.row;have hR:HsB W R zv:=⟨T,qs⟩;have e2:=hR.stOk _ hl;have a4:=hR.put _ hl;have u5:=zz (w:=W) (b:=R) (qx (qdv h i d));have k5:KeepsOthers W (W.setCells R 0 (qx (qdv h i d))):=KeepsOthers.of_upd u5 (fun k e=>⟨_,_,_,(congrArg (fun z=>W.heap[z]?) e).trans T⟩);have d4:=k5.same D _ hK rfl;have HP:=qb a4;have c5:=qb (M.trans (u5.below' M.size (fun k e=>by omega)));have c6:=qb d4;clear a4 u5 k5 hR hA m;gi_wp2;have a7:=qa c6;refine⟨by simp,.inl ⟨_,_,rfl,run_takeDeferred a7,?_⟩⟩;have hP:=qq4 (qa HP).at_ (grownBy_putObj' _ D (.deferred none)) (fun r e=>by cases e;exact⟨_,a7,rfl⟩);refine⟨_,results_cell_row rfl _ _ R _ _ _ _ rfl hP Tryz.underlying33 rfl (by rw[List.size_toArray,qa0,hl];exact Tryz.infoHsh),rfl,?_⟩;have f1:=H.size;exact Upd.of_below ((qa c5).trans (belowK_b (w:=w) (Nat.le_refl _) _ D _ _ (by omega) a7 rfl rfl)) (Nat.le_refl _)
 case stop =>
  rintro D c pre W _ _ h _;exact h.elim
end Go.Proofs.YthnohmjbbeahmaaGreatDoor
