/-
  Package secret: chain.
-/
import Derived.Test.YthnohmjbbeahmaaGreatDoorMba
import Derived.Test.YthnohmjbbeahmaaGreatDoorMbd
set_option linter.unusedVariables false
set_option linter.unusedSimpArgs false
namespace Go.Proofs.YthnohmjbbeahmaaGreatDoor
open Go.RowKit Go.Shelf
attribute [local go_sem] Oper.semAt_some
attribute [local go_sem ↓ high] qab qan
theorem KeepsOthers.of_upd{S:Nat→Prop}{W g:World}(u:Upd S W g)(q:∀k,S k→∃cs T i,W.heap[k]? = some (.cells cs T i)):KeepsOthers W g:=by
 refine⟨u.size,fun k o l m=> ?_⟩;refine u.old l (fun t=> ?_);obtain⟨cs,T,i,e⟩:=q k t;rw[l] at e;rw[Option.some.inj e] at m;cases m
attribute [local go_sem] qcr qde zb
def qgr(h:List Int)(b:Nat):List Int:=h.set (b / 8) (bits .xor .u8 (h.getD (b / 8) 0) (2 ^ (b%8)))
def qga(h:List Int)(b:Nat):List Int:=qgw (strOfNums (qgr h b))
def qdu(h:List Int)(i d:Nat):List Int:=(hiB i d 0).foldl qga h
theorem q7r(h:List Int)(b:Nat):(qgr h b).length=h.length:=by simp[qgr]
theorem qrv(h:List Int)(b:Nat):(qga h b).length=32:=by unfold qga;exact qc9 _
theorem zbn(l:List Nat):∀h:List Int,h.length=32→(l.foldl qga h).length=32:=by
 induction l with
 | nil=>intro h g;exact g
 | cons b l i=>intro h _;rw[List.foldl_cons];exact i (qga h b) (qrv h b)
theorem qj6(h:List Int)(g:h.length=32)(i d:Nat):(qdu h i d).length=32:=zbn _ h g
set_option maxRecDepth 100000 in
set_option maxHeartbeats 1000000 in
theorem zc7(i d:Nat)(w:World) :
  Calls Tryz.prog 148 #[.int .i64 i,.int .i64 d] w fun e w'=>∃Bd Bi,e = .returned (.func (.func 149) #[] #[.pointer (some ⟨Bd,0,none⟩),.pointer (some ⟨Bi,0,none⟩)])∧qq w w'∧w.heap.size≤Bi∧Bd<w'.heap.size∧Bi<w'.heap.size∧w'.cell? ⟨Bd,0,none⟩=some (.int .i64 d)∧w'.cell? ⟨Bi,0,none⟩=some (.int .i64 i):=by
 go_enter Tryz.func148,Tryz.ntmps148
 go_wp2
 go_ret
 have g:=qi (w.alloc (.cells #[.int .i64 i] 3)) (.cells #[.int .i64 d] 3)
 rw[World.size_alloc] at g
 exact⟨_,_,rfl,((Upd.refl _ _).alloc _).alloc _,Nat.le_refl _,by simp,by simp;omega,by rw[qh g];rfl,by rw[qh (zr (qi _ _) _)];rfl⟩
def qkw(h:List Int)(l:List (Fin 16)):List Int:=l.foldl (fun h x=>qga h x.1) h
theorem q29(h:List Int)(b:Fin 16)(l:List (Fin 16)):qkw h (b::l)=qkw (qga h b.1) l:=by unfold qkw;rw[List.foldl_cons]
theorem qu5(l:List (Fin 16)):∀h:List Int,h.length=32→(qkw h l).length=32:=by
 induction l with
 | nil=>intro h g;exact g
 | cons b l i=>intro h _;rw[q29];exact i (qga h b.1) (qrv h b.1)
theorem q3a(h:List Int)(l:List (Fin 16))(x:Fin 16):qkw h (l++[x])=qga (qkw h l) x.1:=by unfold qkw;rw[List.foldl_append,List.foldl_cons,List.foldl_nil]
theorem q7s(h:List Int)(l:List (Fin 16)):qkw h l=(l.map (·.1)).foldl qga h:=by unfold qkw;rw[List.foldl_map]
theorem qrt{W g:World}{k:Nat}{cs:Array Value}{T:TypeId}{i:Nat × Nat}{row:Option Nat}(h:W.heap[k]? = some (.cells cs T i))(q:W.grownBy g row)(t:∀r,row=some r→∃o:Obj,W.heap[r]? = some o∧o.isCells=false):g.heap[k]? = some (.cells cs T i):=by
 refine(q.block k (qad h) ?_).trans h;intro e;obtain⟨o,m,l⟩:=t k e.symm;rw[h] at m;rw[←Option.some.inj m] at l;cases l
set_option maxRecDepth 100000 in
set_option maxHeartbeats 2000000 in
theorem quv(h:List Int)(hh:h.length=32)(i d:Nat)(hi:i<65536)(hd:d≤16)(w:World)(hT:Tabs w) :
  Calls Tryz.prog 142 #[.agg (qy h).toArray,.int .i64 i,.int .i64 d] w (qbf (.agg (qy (qdu h i d)).toArray) w):=by
 refine(callsIn_wide (n:=6)).1 ?_
 refine callsIn_of_wp_marks Tryz.func142 rfl trivial ?_ rfl
 simp only[Tryz.ntmps142,List.size_toArray,List.length_cons,List.length_nil,Nat.reduceAdd,Nat.reduceSub,Array.replicate_succ,Array.replicate_zero,List.push_toArray,List.append_toArray,List.nil_append,List.cons_append]
 gi_wp2
 generalize hz:(Obj.cells #[_,_,_,_,_,_,_,_,_,_,_,_,_,_,_,_,_,_,_,_,_,_,_,_,_,_,_,_,_,_,_,_] 33)=zo
 have C:=zr (qi w (.cells (qy h).toArray 33)) zo
 have E:=qi (w.alloc (.cells (qy h).toArray 33)) zo
 rw[World.size_alloc] at E
 have n1:qq w ((w.alloc (.cells (qy h).toArray 33)).alloc zo):=((Upd.refl _ _).alloc _).alloc _
 generalize (w.alloc (.cells (qy h).toArray 33)).alloc zo=w1 at C E n1 ⊢
 refine⟨trivial,callsIn_wide.2 ((zc7 i d w1).mono ?_)⟩
 rintro e w2 ⟨Bd,Bi,rfl,n2,b8,d1,d2,cd,ci⟩
 have b7:=C
 replace C:=n2.old C (fun h=>h)
 replace E:=n2.old E (fun h=>h)
 have c2:=n1.trans n2
 obtain⟨A,a4⟩:∃A,A=w.heap.size:=⟨_,rfl⟩
 obtain⟨R,b9⟩:∃R,R=w.heap.size+1:=⟨_,rfl⟩
 have c9:w.heap.size≤A:=by omega
 have e7:w.heap.size≤R:=by omega
 have c8:R≠A:=by omega
 have T:Bi≠A:=by have:=n1.size;have:=qad (w:=w1) (b:=A) (o:= .cells (qy h).toArray 33 (0,0)) (by rw[a4];exact b7);omega
 rw[←b9] at E ⊢
 rw[←a4] at C ⊢
 clear a4 b9 b8 b7
 have F:Below w.heap.size w w2:=c2.below' (Nat.le_refl _) (fun _ h=>h.elim)
 have e4:∃Z,zo = .cells Z 33∧Z=(qy qaj).toArray:=⟨_,hz.symm,rfl⟩
 obtain⟨Z,rfl,d4⟩:=e4
 subst d4
 clear hz n1 n2 c2
 gi_wp2
 refine wpIn_rangeFunc_ownF (α:=Fin 16) rfl (by omega) (gf:=149) (lb:=#[.pointer (some ⟨Bd,0,none⟩),.pointer (some ⟨Bi,0,none⟩)]) rfl trivial (enters_of Tryz.func149 (by kernel_rfl) rfl)
  (encs:=fun x=>#[.int .i64 (x.1:Nat)]) (Kp:=KpB Bi) (S:=fun xs=>xs=hiF i d 0) (Sp:=fun pre=>pre <+: hiF i d 0) (N:=16) (w0:=w2)
  (fun l J Jx W hW hJ e6 hY h0=>zc6 Fence.wide 5 trivial rfl (by omega) l Bd Bi i d hi hd J Jx hY W ((hW.cell (p:=⟨Bd,0,none⟩) d1).trans cd) ((hW.cell (p:=⟨Bi,0,none⟩) d2).trans ci) h0)
  (fun h k v e=>k v (h v e)) ?kb (Below.refl _ _) (fun _=>rfl)
  (fun pre W=>(W.heap[A]? = some (.cells (qy (qkw h pre)).toArray 33 (0,0))∧W.heap[R]? = some (.cells (qy qaj).toArray 33 (0,0))∧W.cell? ⟨Bi,0,none⟩=some (.int .i64 i))∧Below w.heap.size w W)
  (fun _ _ _=>False)
  (OwnFrom.and (Own.from (fun s A' B' row hs hg hr=>⟨qrt hs.1 hg hr,qrt hs.2.1 hg hr,cell_kept hs.2.2 hg hr⟩) _) (ownFrom_below (Nat.le_refl _) F.size))
  (fun _ _ _ _ _ hs _ _=>hs)
  ⟨⟨C,E,ci⟩,F⟩
  (fun(x:Fin 16)=> {tmps:=#[.agg (qy h).toArray,.int .i64 i,.int .i64 d,.pointer (some ⟨A,0,none⟩),undef,undef,.pointer (some ⟨R,0,none⟩),.int .i64 (x.1:Nat),.int .i64 i,.int .i64 d,.func (.func 149) #[] #[.pointer (some ⟨Bd,0,none⟩),.pointer (some ⟨Bi,0,none⟩)],.int .i64 (x.1:Nat),undef,undef,undef,undef,undef,undef,undef,undef,undef,undef,undef,undef,undef],defers:=[]}) ?assign ?body ?done ?stop
 case kb =>
  intro W l o o' hl ho hc _ v hv;exact cell_kept hv (grownBy_putObj' W l o') (fun r e=>by cases e;exact⟨o,ho,hc⟩)
 case assign =>
  intro l x W K hK;gi_wp2;exact hK
 case body =>
  rintro l pre x W ⟨⟨m,P,c0⟩,L⟩ _;have X:=qu5 pre h hh;obtain⟨q,hq⟩:∃q,q=qkw h pre:=⟨_,rfl⟩;rw[←hq] at X m;obtain⟨g,a8,e5⟩:∃g:Nat,g=x.1∧g<16:=⟨_,rfl,x.2⟩;rw[←a8];obtain⟨k,hk⟩:∃k,k=g / 8:=⟨_,rfl⟩;obtain⟨j,hj⟩:∃j,j=g%8:=⟨_,rfl⟩;have e8:k<32:=by omega
  have d7:j<8:=by omega
  have b6:W.cell? ⟨A,k,none⟩=some (.int .u8 (q.getD k 0)):=by
   unfold qy at m;rw[qh m k,List.getElem?_toArray,List.getElem?_map,List.getD_eq_getElem?_getD,List.getElem?_eq_getElem (by omega)];rfl
  have c7:=qw m k;have d5:(g:Int).tdiv 8=(k:Int):=by rw[hk];exact(Int.ofNat_tdiv g 8).symm
  have e0:(g:Int).tmod 8=(j:Int):=by rw[hj];exact(Int.ofNat_tmod g 8).symm
  have e3:IntKind.i64.wrap (k:Int)=(k:Int):=qxs k (by omega);have e2:IntKind.i64.wrap (j:Int)=(j:Int):=qxs j (by omega);have d9:(k:Int)<32:=by omega
  have d8:(j:Int)<8:=by omega
  have e9:Tryz.prog.follows .mixedOrders=true:=by kernel_rfl
  have c6:=qb a8;have HK:=qb hk;have HJ:=qb hj;have HQ:=qb hq;clear a8 hk hj hq;have c1:bits .xor .u8 (q.getD k 0) (IntKind.u8.wrap (2 ^ j))=(qgr q g).getD k 0:=by
   have ew:∀j:Nat,j<8→IntKind.u8.wrap (2 ^ j)=2 ^ j:=by decide
   rw[ew j d7];unfold qgr;rw[←qa HK,←qa HJ,List.getD_eq_getElem?_getD (l:=q.set _ _),List.getElem?_set_self (by omega)];rfl
  have H:(W.setCell ⟨A,k,none⟩ (.int .u8 (bits .xor .u8 (q.getD k 0) (IntKind.u8.wrap (2 ^ j))))).drew.heap[A]? = some (.cells (qy (qgr q g)).toArray 33 (0,0)):=by
   have:=qah m k (.int .u8 (bits .xor .u8 (q.getD k 0) (IntKind.u8.wrap (2 ^ j))));refine this.trans ?_;rw[c1];have e:(qgr q g).getD k 0=bits .xor .u8 (q.getD k 0) (2 ^ j):=by
    unfold qgr;rw[←qa HK,←qa HJ,List.getD_eq_getElem?_getD (l:=q.set _ _),List.getElem?_set_self (by omega)];rfl
   unfold qy;rw[e,List.setIfInBounds_toArray,←List.map_set];unfold qgr;rw[←qa HK,←qa HJ]
  have t:Below w.heap.size W (W.setCell ⟨A,k,none⟩ (.int .u8 (bits .xor .u8 (q.getD k 0) (IntKind.u8.wrap (2 ^ j))))).drew:=((Below.refl _ _).setCell (p:=⟨A,k,none⟩) c9 _).drew;have a9:KeepsOthers W (W.setCell ⟨A,k,none⟩ (.int .u8 (bits .xor .u8 (q.getD k 0) (IntKind.u8.wrap (2 ^ j))))).drew:=(KeepsOthers.setCell _ _ _).trans (KeepsOthers.drew _);have b3:Upd (· = A) W (W.setCell ⟨A,k,none⟩ (.int .u8 (bits .xor .u8 (q.getD k 0) (IntKind.u8.wrap (2 ^ j))))).drew:=((Upd.refl _ _).set1 _ _).drew;clear c1;generalize q.getD k 0=V at b6 H t a9 b3;gi_wp2;gi_region_o
  all_goals (
   generalize (W.setCell ⟨A,k,none⟩ (.int .u8 (bits .xor .u8 V (IntKind.u8.wrap (2 ^ j))))).drew=W1 at H t a9 b3 ⊢
   clear b6 c7 d5 e0 e3 e2 d9 d8
   have y:(qgr q g).length=32:=by rw[q7r,X]
   have a5:(convert 22 9 (.slice (some ⟨A,0,none⟩) 32 32)).run Tryz.prog W1 = .ok (.string (strOfNums (qgr q g))) W1 :=
    qe4 W1 _ _ _ Tryz.underlying22 Tryz.underlying5 Tryz.underlying9 A 32 _ _ _ 32 y H
   have I:Calls Tryz.prog 89 #[.string (strOfNums (qgr q g))] W1 (fun e w'=>e = .returned (.agg (qy (qgw (strOfNums (qgr q g)))).toArray)∧qq W1 w'):=qks (strOfNums (qgr q g)) W1 (by rw[strOfNums_size,y];omega) (hT.upd (S:=fun k=>w.heap.size≤k) ⟨(L.trans t).os,(L.trans t).tape,(L.trans t).output,(L.trans t).size,fun k hk _=>(L.trans t).block k hk⟩ (by have:=hT.lt;omega) (by have:=hT.lt;omega))
   have a7:=qc9 (strOfNums (qgr q g))
   have b5:=qb (HsB.mk H y)
   have U:qga q g=qgw (strOfNums (qgr q g)):=rfl
   have b4:=qb U
   clear H U
   generalize qgw (strOfNums (qgr q g))=K at I a7 b4
   gi_wp2
   refine⟨trivial,(CallsIn.inRound l (callsIn_wide.2 I)).mono ?_⟩
   rintro e W2 ⟨rfl,n2⟩
   have O:=(qa b5).new n2
   have e1:=O.stOk K a7
   have c3:=qb (O.put K a7)
   have u3:=qac (w:=W2) (b:=A) (qy K)
   have k3:KeepsOthers W (W2.setCells A 0 (qy K)):=(a9.trans (KeepsOthers.of_upd n2 (fun _ h=>h.elim))).trans (KeepsOthers.of_upd u3 (fun k e=>⟨_,_,_,(congrArg (fun z=>W2.heap[z]?) e).trans O.at_⟩))
   have u4:Upd (· = A) W (W2.setCells A 0 (qy K)):=(b3.trans (n2.mono (fun _ _ h=>h.elim))).trans u3
   have K3:=qb k3
   have U4:=qb u4
   clear I O u3 k3 u4 a5 b5
   gi_wp2
   have d0:=qa c3
   have M:=qa U4
   refine⟨qa K3,fun v hv=>M.cell hv T,⟨⟨?_,M.old P c8,M.cell c0 T⟩,L.trans (M.below' L.size (fun k e=>by omega))⟩⟩
   rw[q3a,←qa HQ,←qa c6,qa b4]
   exact d0.at_)
 case done =>
  rintro D ys W hD rfl ⟨⟨m,P,c0⟩,L⟩ hK;have hl:=qu5 (hiF i d 0) h hh;have d6:qkw h (hiF i d 0)=qdu h i d:=by unfold qdu;rw[q7s,zft hd]
  rw[d6] at hl m;have hA:HsB W A (qdu h i d):=⟨m,hl⟩;have hr:=hA.row;have hR:HsB W R qaj:=⟨P,qu⟩;have e1:=hR.stOk _ hl;have Y:=hR.put _ hl;have u5:=qac (w:=W) (b:=R) (qy (qdu h i d));have k5:KeepsOthers W (W.setCells R 0 (qy (qdu h i d))):=KeepsOthers.of_upd u5 (fun k e=>⟨_,_,_,(congrArg (fun z=>W.heap[z]?) e).trans P⟩);have d3:=k5.same D _ hK rfl;have HP:=qb Y;have c4:=qb (L.trans (u5.below' L.size (fun k e=>by omega)));have c5:=qb d3;clear Y u5 k5 hR hA m;gi_wp2;have a6:=qa c5;refine⟨by simp,.inl ⟨_,_,rfl,run_takeDeferred a6,?_⟩⟩;have hP:=qrt (qa HP).at_ (grownBy_putObj' _ D (.deferred none)) (fun r e=>by cases e;exact⟨_,a6,rfl⟩);refine⟨_,results_cell_row rfl _ _ R _ _ _ _ rfl hP Tryz.underlying33 rfl (by rw[List.size_toArray,qa1,hl];exact Tryz.infoHsh),rfl,?_⟩;have f0:=F.size;exact Upd.of_below ((qa c4).trans (belowK_b (w:=w) (Nat.le_refl _) _ D _ _ (by omega) a6 rfl rfl)) (Nat.le_refl _)
 case stop =>
  rintro D c pre W _ _ h _;exact h.elim
end Go.Proofs.YthnohmjbbeahmaaGreatDoor
