/-
  Package secret: chain.
-/
import Derived.Test.YtfmkdoachjgjbaaGreatDoorMbd
import Derived.Test.YtfmkdoachjgjbaaGreatDoorMad
import Derived.Test.YtfmkdoachjgjbaaGreatDoorMah
set_option maxRecDepth 100000
set_option maxHeartbeats 2000000
set_option linter.unusedVariables false
set_option linter.unusedSimpArgs false
namespace Go.Proofs.YtfmkdoachjgjbaaGreatDoor
open Go.RowKit Go.Shelf
attribute [local go_sem] Oper.semAt_some
attribute [local go_sem ↓ high] zl qag
theorem KeepsOthers.of_upd{S:Nat→Prop}{W f:World}(u:Upd S W f)(r:∀k,S k→∃cs T i,W.heap[k]? = some (.cells cs T i)):KeepsOthers W f:=by
 refine⟨u.size,fun k o m q=> ?_⟩;refine u.old m (fun v=> ?_);obtain⟨cs,T,i,e⟩:=r k v;rw[m] at e;rw[Option.some.inj e] at q;cases q
attribute [local go_sem] qbl qcl qx
def qe9(h:List Int)(b:Nat):List Int:=h.set (b / 8) (bits .xor .u8 (h.getD (b / 8) 0) (2 ^ (b%8)))
def qex(h:List Int)(b:Nat):List Int:=qen (strOfNums (qe9 h b))
def qc8(h:List Int)(i d:Nat):List Int:=(hiB i d 0).foldl qex h
theorem q0w(h:List Int)(b:Nat):(qe9 h b).length=h.length:=by simp[qe9]
theorem qoe(h:List Int)(b:Nat):(qex h b).length=32:=by unfold qex;exact qb9 _
theorem q5h(l:List Nat):∀h:List Int,h.length=32→(l.foldl qex h).length=32:=by
 induction l with
 | nil=>intro h f;exact f
 | cons b l i=>intro h _;rw[List.foldl_cons];exact i (qex h b) (qoe h b)
theorem qhz(h:List Int)(f:h.length=32)(i d:Nat):(qc8 h i d).length=32:=q5h _ h f
theorem q6y(i d:Nat)(w:World) :
  Calls Tryz.prog 231 #[.int .i64 i,.int .i64 d] w fun e w'=>∃Bd Bi,e = .returned (.func (.func 232) #[] #[.pointer (some ⟨Bd,0,none⟩),.pointer (some ⟨Bi,0,none⟩)])∧qq w w'∧w.heap.size≤Bi∧Bd<w'.heap.size∧Bi<w'.heap.size∧w'.cell? ⟨Bd,0,none⟩=some (.int .i64 d)∧w'.cell? ⟨Bi,0,none⟩=some (.int .i64 i):=by
 go_enter Tryz.func231,Tryz.ntmps231
 go_wp2
 go_ret
 have f:=qj (w.alloc (.cells #[.int .i64 i] 3)) (.cells #[.int .i64 d] 3)
 rw[World.size_alloc] at f
 exact⟨_,_,rfl,((Upd.refl _ _).alloc _).alloc _,Nat.le_refl _,by simp,by simp;omega,by rw[qg f];rfl,by rw[qg (qs (qj _ _) _)];rfl⟩
def qii(h:List Int)(l:List (Fin 16)):List Int:=l.foldl (fun h x=>qex h x.1) h
theorem qwv(h:List Int)(b:Fin 16)(l:List (Fin 16)):qii h (b::l)=qii (qex h b.1) l:=by unfold qii;rw[List.foldl_cons]
theorem qqf(l:List (Fin 16)):∀h:List Int,h.length=32→(qii h l).length=32:=by
 induction l with
 | nil=>intro h f;exact f
 | cons b l i=>intro h _;rw[qwv];exact i (qex h b.1) (qoe h b.1)
theorem qww(h:List Int)(l:List (Fin 16))(x:Fin 16):qii h (l++[x])=qex (qii h l) x.1:=by unfold qii;rw[List.foldl_append,List.foldl_cons,List.foldl_nil]
theorem q0x(h:List Int)(l:List (Fin 16)):qii h l=(l.map (·.1)).foldl qex h:=by unfold qii;rw[List.foldl_map]
theorem qoa{W f:World}{k:Nat}{cs:Array Value}{T:TypeId}{i:Nat × Nat}{row:Option Nat}(h:W.heap[k]? = some (.cells cs T i))(v:W.grownBy f row)(z:∀r,row=some r→∃o:Obj,W.heap[r]? = some o∧o.isCells=false):f.heap[k]? = some (.cells cs T i):=by
 refine(v.block k (zr h) ?_).trans h;intro e;obtain⟨o,q,m⟩:=z k e.symm;rw[h] at q;rw[←Option.some.inj q] at m;cases m
theorem qp8(h:List Int)(hh:h.length=32)(i d:Nat)(hi:i<65536)(hd:d≤16)(w:World)(hT:Tabs w) :
  Calls Tryz.prog 227 #[.agg (qu h).toArray,.int .i64 i,.int .i64 d] w (qa7 (.agg (qu (qc8 h i d)).toArray) w):=by
 refine(callsIn_wide (n:=6)).1 ?_
 refine callsIn_of_wp_marks Tryz.func227 rfl trivial ?_ rfl
 simp only[Tryz.ntmps227,List.size_toArray,List.length_cons,List.length_nil,Nat.reduceAdd,Nat.reduceSub,Array.replicate_succ,Array.replicate_zero,List.push_toArray,List.append_toArray,List.nil_append,List.cons_append]
 gi_wp2
 generalize hz:(Obj.cells #[_,_,_,_,_,_,_,_,_,_,_,_,_,_,_,_,_,_,_,_,_,_,_,_,_,_,_,_,_,_,_,_] 35)=zo
 have F:=qs (qj w (.cells (qu h).toArray 35)) zo
 have H:=qj (w.alloc (.cells (qu h).toArray 35)) zo
 rw[World.size_alloc] at H
 have n1:qq w ((w.alloc (.cells (qu h).toArray 35)).alloc zo):=((Upd.refl _ _).alloc _).alloc _
 generalize (w.alloc (.cells (qu h).toArray 35)).alloc zo=w1 at F H n1 ⊢
 refine⟨trivial,callsIn_wide.2 ((q6y i d w1).mono ?_)⟩
 rintro e w2 ⟨Bd,Bi,rfl,n2,c3,d6,d7,cd,ci⟩
 have c2:=F
 replace F:=n2.old F (fun h=>h)
 replace H:=n2.old H (fun h=>h)
 have c7:=n1.trans n2
 obtain⟨A,a8⟩:∃A,A=w.heap.size:=⟨_,rfl⟩
 obtain⟨R,c4⟩:∃R,R=w.heap.size+1:=⟨_,rfl⟩
 have d4:w.heap.size≤A:=by omega
 have f2:w.heap.size≤R:=by omega
 have d3:R≠A:=by omega
 have X:Bi≠A:=by have:=n1.size;have:=zr (w:=w1) (b:=A) (o:= .cells (qu h).toArray 35 (0,0)) (by rw[a8];exact c2);omega
 rw[←c4] at H ⊢
 rw[←a8] at F ⊢
 clear a8 c4 c3 c2
 have I:Below w.heap.size w w2:=c7.below' (Nat.le_refl _) (fun _ h=>h.elim)
 have e9:∃Z,zo = .cells Z 35∧Z=(qu zg).toArray:=⟨_,hz.symm,rfl⟩
 obtain⟨Z,rfl,d9⟩:=e9
 subst d9
 clear hz n1 n2 c7
 gi_wp2
 refine wpIn_rangeFunc_ownF (α:=Fin 16) rfl (by omega) (gf:=232) (lb:=#[.pointer (some ⟨Bd,0,none⟩),.pointer (some ⟨Bi,0,none⟩)]) rfl trivial (enters_of Tryz.func232 (by kernel_rfl) rfl)
  (encs:=fun x=>#[.int .i64 (x.1:Nat)]) (Kp:=KpB Bi) (S:=fun xs=>xs=hiF i d 0) (Sp:=fun pre=>pre <+: hiF i d 0) (N:=16) (w0:=w2)
  (fun l J Jx W hW hJ f1 hY h0=>q6x Fence.wide 5 trivial rfl (by omega) l Bd Bi i d hi hd J Jx hY W ((hW.cell (p:=⟨Bd,0,none⟩) d6).trans cd) ((hW.cell (p:=⟨Bi,0,none⟩) d7).trans ci) h0)
  (fun h k v e=>k v (h v e)) ?kb (Below.refl _ _) (fun _=>rfl)
  (fun pre W=>(W.heap[A]? = some (.cells (qu (qii h pre)).toArray 35 (0,0))∧W.heap[R]? = some (.cells (qu zg).toArray 35 (0,0))∧W.cell? ⟨Bi,0,none⟩=some (.int .i64 i))∧Below w.heap.size w W)
  (fun _ _ _=>False)
  (OwnFrom.and (Own.from (fun s A' B' row hs hg hr=>⟨qoa hs.1 hg hr,qoa hs.2.1 hg hr,cell_kept hs.2.2 hg hr⟩) _) (ownFrom_below (Nat.le_refl _) I.size))
  (fun _ _ _ _ _ hs _ _=>hs)
  ⟨⟨F,H,ci⟩,I⟩
  (fun(x:Fin 16)=> {tmps:=#[.agg (qu h).toArray,.int .i64 i,.int .i64 d,.pointer (some ⟨A,0,none⟩),undef,undef,.pointer (some ⟨R,0,none⟩),.int .i64 (x.1:Nat),.int .i64 i,.int .i64 d,.func (.func 232) #[] #[.pointer (some ⟨Bd,0,none⟩),.pointer (some ⟨Bi,0,none⟩)],.int .i64 (x.1:Nat),undef,undef,undef,undef,undef,undef,undef,undef,undef,undef,undef,undef,undef],defers:=[]}) ?assign ?body ?done ?stop
 case kb =>
  intro W l o o' hl ho hc _ v hv;exact cell_kept hv (grownBy_putObj' W l o') (fun r e=>by cases e;exact⟨o,ho,hc⟩)
 case assign =>
  intro l x W K hK;gi_wp2;exact hK
 case body =>
  rintro l pre x W ⟨⟨m,U,c5⟩,O⟩ _;have a6:=qqf pre h hh;obtain⟨q,hq⟩:∃q,q=qii h pre:=⟨_,rfl⟩;rw[←hq] at a6 m;obtain⟨f,b6,f0⟩:∃f:Nat,f=x.1∧f<16:=⟨_,rfl,x.2⟩;rw[←b6];obtain⟨k,hk⟩:∃k,k=f / 8:=⟨_,rfl⟩;obtain⟨j,hj⟩:∃j,j=f%8:=⟨_,rfl⟩;have f3:k<32:=by omega
  have e2:j<8:=by omega
  have c1:W.cell? ⟨A,k,none⟩=some (.int .u8 (q.getD k 0)):=by
   unfold qu at m;rw[qg m k,List.getElem?_toArray,List.getElem?_map,List.getD_eq_getElem?_getD,List.getElem?_eq_getElem (by omega)];rfl
  have d2:=qv m k;have e0:(f:Int).tdiv 8=(k:Int):=by rw[hk];exact(Int.ofNat_tdiv f 8).symm
  have e5:(f:Int).tmod 8=(j:Int):=by rw[hj];exact(Int.ofNat_tmod f 8).symm
  have e8:IntKind.i64.wrap (k:Int)=(k:Int):=qnq k (by omega);have e7:IntKind.i64.wrap (j:Int)=(j:Int):=qnq j (by omega);have e4:(k:Int)<32:=by omega
  have e3:(j:Int)<8:=by omega
  have f4:Tryz.prog.follows .mixedOrders=true:=by kernel_rfl
  have d1:=qb b6;have HK:=qb hk;have HJ:=qb hj;have HQ:=qb hq;clear b6 hk hj hq;have c6:bits .xor .u8 (q.getD k 0) (IntKind.u8.wrap (2 ^ j))=(qe9 q f).getD k 0:=by
   have ew:∀j:Nat,j<8→IntKind.u8.wrap (2 ^ j)=2 ^ j:=by decide
   rw[ew j e2];unfold qe9;rw[←qa HK,←qa HJ,List.getD_eq_getElem?_getD (l:=q.set _ _),List.getElem?_set_self (by omega)];rfl
  have L:(W.setCell ⟨A,k,none⟩ (.int .u8 (bits .xor .u8 (q.getD k 0) (IntKind.u8.wrap (2 ^ j))))).drew.heap[A]? = some (.cells (qu (qe9 q f)).toArray 35 (0,0)):=by
   have:=qad m k (.int .u8 (bits .xor .u8 (q.getD k 0) (IntKind.u8.wrap (2 ^ j))));refine this.trans ?_;rw[c6];have e:(qe9 q f).getD k 0=bits .xor .u8 (q.getD k 0) (2 ^ j):=by
    unfold qe9;rw[←qa HK,←qa HJ,List.getD_eq_getElem?_getD (l:=q.set _ _),List.getElem?_set_self (by omega)];rfl
   unfold qu;rw[e,List.setIfInBounds_toArray,←List.map_set];unfold qe9;rw[←qa HK,←qa HJ]
  have C:Below w.heap.size W (W.setCell ⟨A,k,none⟩ (.int .u8 (bits .xor .u8 (q.getD k 0) (IntKind.u8.wrap (2 ^ j))))).drew:=((Below.refl _ _).setCell (p:=⟨A,k,none⟩) d4 _).drew;have b7:KeepsOthers W (W.setCell ⟨A,k,none⟩ (.int .u8 (bits .xor .u8 (q.getD k 0) (IntKind.u8.wrap (2 ^ j))))).drew:=(KeepsOthers.setCell _ _ _).trans (KeepsOthers.drew _);have b8:Upd (· = A) W (W.setCell ⟨A,k,none⟩ (.int .u8 (bits .xor .u8 (q.getD k 0) (IntKind.u8.wrap (2 ^ j))))).drew:=((Upd.refl _ _).set1 _ _).drew;clear c6;generalize q.getD k 0=V at c1 L C b7 b8;gi_wp2;gi_region_o
  all_goals (
   generalize (W.setCell ⟨A,k,none⟩ (.int .u8 (bits .xor .u8 V (IntKind.u8.wrap (2 ^ j))))).drew=W1 at L C b7 b8 ⊢
   clear c1 d2 e0 e5 e8 e7 e4 e3
   have E:(qe9 q f).length=32:=by rw[q0w,a6]
   have b3:(convert 95 9 (.slice (some ⟨A,0,none⟩) 32 32)).run Tryz.prog W1 = .ok (.string (strOfNums (qe9 q f))) W1 :=
    qda W1 _ _ _ Tryz.underlying95 Tryz.underlying5 Tryz.underlying9 A 32 _ _ _ 32 E L
   have M:Calls Tryz.prog 164 #[.string (strOfNums (qe9 q f))] W1 (fun e w'=>e = .returned (.agg (qu (qen (strOfNums (qe9 q f)))).toArray)∧qq W1 w'):=qgq (strOfNums (qe9 q f)) W1 (by rw[strOfNums_size,E];omega) (hT.upd (S:=fun k=>w.heap.size≤k) ⟨(O.trans C).os,(O.trans C).tape,(O.trans C).output,(O.trans C).size,fun k hk _=>(O.trans C).block k hk⟩ (by have:=hT.lt;omega) (by have:=hT.lt;omega))
   have b5:=qb9 (strOfNums (qe9 q f))
   have c0:=qb (HsB.mk L E)
   have Y:qex q f=qen (strOfNums (qe9 q f)):=rfl
   have b9:=qb Y
   clear L Y
   generalize qen (strOfNums (qe9 q f))=K at M b5 b9
   gi_wp2
   refine⟨trivial,(CallsIn.inRound l (callsIn_wide.2 M)).mono ?_⟩
   rintro e W2 ⟨rfl,n2⟩
   have T:=(qa c0).new n2
   have e6:=T.stOk K b5
   have c8:=qb (T.put K b5)
   have u3:=zc (w:=W2) (b:=A) (qu K)
   have k3:KeepsOthers W (W2.setCells A 0 (qu K)):=(b7.trans (KeepsOthers.of_upd n2 (fun _ h=>h.elim))).trans (KeepsOthers.of_upd u3 (fun k e=>⟨_,_,_,(congrArg (fun z=>W2.heap[z]?) e).trans T.at_⟩))
   have u4:Upd (· = A) W (W2.setCells A 0 (qu K)):=(b8.trans (n2.mono (fun _ _ h=>h.elim))).trans u3
   have K3:=qb k3
   have U4:=qb u4
   clear M T u3 k3 u4 b3 c0
   gi_wp2
   have d5:=qa c8
   have P:=qa U4
   refine⟨qa K3,fun v hv=>P.cell hv X,⟨⟨?_,P.old U d3,P.cell c5 X⟩,O.trans (P.below' O.size (fun k e=>by omega))⟩⟩
   rw[qww,←qa HQ,←qa d1,qa b9]
   exact d5.at_)
 case done =>
  rintro D ys W hD rfl ⟨⟨m,U,c5⟩,O⟩ hK;have hl:=qqf (hiF i d 0) h hh;have e1:qii h (hiF i d 0)=qc8 h i d:=by unfold qc8;rw[q0x,q9d hd]
  rw[e1] at hl m;have hA:HsB W A (qc8 h i d):=⟨m,hl⟩;have hr:=hA.row;have hR:HsB W R zg:=⟨U,qm⟩;have e6:=hR.stOk _ hl;have a7:=hR.put _ hl;have u5:=zc (w:=W) (b:=R) (qu (qc8 h i d));have k5:KeepsOthers W (W.setCells R 0 (qu (qc8 h i d))):=KeepsOthers.of_upd u5 (fun k e=>⟨_,_,_,(congrArg (fun z=>W.heap[z]?) e).trans U⟩);have d8:=k5.same D _ hK rfl;have HP:=qb a7;have c9:=qb (O.trans (u5.below' O.size (fun k e=>by omega)));have d0:=qb d8;clear a7 u5 k5 hR hA m;gi_wp2;have b4:=qa d0;refine⟨by simp,.inl ⟨_,_,rfl,run_takeDeferred b4,?_⟩⟩;have hP:=qoa (qa HP).at_ (grownBy_putObj' _ D (.deferred none)) (fun r e=>by cases e;exact⟨_,b4,rfl⟩);refine⟨_,results_cell_row rfl _ _ R _ _ _ _ rfl hP Tryz.underlying35 rfl (by rw[List.size_toArray,qal,hl];exact Tryz.infoHsh),rfl,?_⟩;have f5:=I.size;exact Upd.of_below ((qa c9).trans (belowK_b (w:=w) (Nat.le_refl _) _ D _ _ (by omega) b4 rfl rfl)) (Nat.le_refl _)
 case stop =>
  rintro D c pre W _ _ h _;exact h.elim
end Go.Proofs.YtfmkdoachjgjbaaGreatDoor
