/-
  Package secret: chain.
-/
import Derived.Test.YtfmkdoachjgjbaaGreatDoorMbb
import Derived.Test.YtfmkdoachjgjbaaGreatDoorMae
import Derived.Test.YtfmkdoachjgjbaaGreatDoorMai
import Derived.Test.YtfmkdoachjgjbaaGreatDoorTxt
import Derived.Test.YtfmkdoachjgjbaaGreatDoorProg
import Derived.Lib.TrailingZeros
import Derived.Laws.Bits64b
import Derived.Test.YtfmkdoachjgjbaaGreatDoorMab
import Derived.Laws.StructEq
import Derived.Stop.BytesEq
set_option maxRecDepth 100000
set_option maxHeartbeats 2000000
set_option linter.unusedVariables false
set_option linter.unusedSimpArgs false
namespace Go.Proofs.YtfmkdoachjgjbaaGreatDoor
section
open Go.RowKit Go.Shelf
attribute [local go_sem] Oper.semAt_some
attribute [local go_sem ↓ high] zl qaf
theorem KeepsOthers.of_upd{S:Nat→Prop}{W i:World}(u:Upd S W i)(v:∀k,S k→∃cs T m,W.heap[k]? = some (.cells cs T m)):KeepsOthers W i:=by
 refine⟨u.size,fun k o q t=> ?_⟩;refine u.old q (fun w=> ?_);obtain⟨cs,T,m,e⟩:=v k w;rw[q] at e;rw[Option.some.inj e] at t;cases t
attribute [local go_sem] qa9 qb3 qy
def qel(h:List Int)(b:Nat):List Int:=h.set (b / 8) (bits .xor .u8 (h.getD (b / 8) 0) (2 ^ (b%8)))
def qd8(h:List Int)(b:Nat):List Int:=qeq (strOfNums (qel h b))
def qdq(h:List Int)(i d:Nat):List Int:=(hiB i d 0).foldl qd8 h
theorem qzu(h:List Int)(b:Nat):(qel h b).length=h.length:=by simp[qel]
theorem qm6(h:List Int)(b:Nat):(qd8 h b).length=32:=by unfold qd8;exact qb9 _
theorem q3u(l:List Nat):∀h:List Int,h.length=32→(l.foldl qd8 h).length=32:=by
 induction l with
 | nil=>intro h i;exact i
 | cons b l m=>intro h _;rw[List.foldl_cons];exact m (qd8 h b) (qm6 h b)
theorem qgx(h:List Int)(m:h.length=32)(i d:Nat):(qdq h i d).length=32:=q3u _ h m
theorem q44(i d:Nat)(w:World) :
  Calls Tryz.prog 231 #[.int .i64 i,.int .i64 d] w fun e w'=>∃Bd Bi,e = .returned (.func (.func 232) #[] #[.pointer (some ⟨Bd,0,none⟩),.pointer (some ⟨Bi,0,none⟩)])∧qq w w'∧w.heap.size≤Bi∧Bd<w'.heap.size∧Bi<w'.heap.size∧w'.cell? ⟨Bd,0,none⟩=some (.int .i64 d)∧w'.cell? ⟨Bi,0,none⟩=some (.int .i64 i):=by
 go_enter Tryz.func231,Tryz.ntmps231
 go_wp2
 go_ret
 have m:=ql (w.alloc (.cells #[.int .i64 i] 3)) (.cells #[.int .i64 d] 3)
 rw[World.size_alloc] at m
 exact⟨_,_,rfl,((Upd.refl _ _).alloc _).alloc _,Nat.le_refl _,by simp,by simp;omega,by rw[qk m];rfl,by rw[qk (qx (ql _ _) _)];rfl⟩
def qhg(h:List Int)(l:List (Fin 16)):List Int:=l.foldl (fun h x=>qd8 h x.1) h
theorem qv0(h:List Int)(b:Fin 16)(l:List (Fin 16)):qhg h (b::l)=qhg (qd8 h b.1) l:=by unfold qhg;rw[List.foldl_cons]
theorem qpq(l:List (Fin 16)):∀h:List Int,h.length=32→(qhg h l).length=32:=by
 induction l with
 | nil=>intro h i;exact i
 | cons b l m=>intro h _;rw[qv0];exact m (qd8 h b.1) (qm6 h b.1)
theorem qv1(h:List Int)(l:List (Fin 16))(x:Fin 16):qhg h (l++[x])=qd8 (qhg h l) x.1:=by unfold qhg;rw[List.foldl_append,List.foldl_cons,List.foldl_nil]
theorem qzv(h:List Int)(l:List (Fin 16)):qhg h l=(l.map (·.1)).foldl qd8 h:=by unfold qhg;rw[List.foldl_map]
theorem qm1{W i:World}{k:Nat}{cs:Array Value}{T:TypeId}{m:Nat × Nat}{row:Option Nat}(h:W.heap[k]? = some (.cells cs T m))(v:W.grownBy i row)(w:∀r,row=some r→∃o:Obj,W.heap[r]? = some o∧o.isCells=false):i.heap[k]? = some (.cells cs T m):=by
 refine(v.block k (zi h) ?_).trans h;intro e;obtain⟨o,t,q⟩:=w k e.symm;rw[h] at t;rw[←Option.some.inj t] at q;cases q
theorem qpk(h:List Int)(hh:h.length=32)(i d:Nat)(hi:i<65536)(hd:d≤16)(w:World)(hT:Tabs w) :
  Calls Tryz.prog 227 #[.agg (qw h).toArray,.int .i64 i,.int .i64 d] w (qar (.agg (qw (qdq h i d)).toArray) w):=by
 refine(callsIn_wide (n:=6)).1 ?_
 refine callsIn_of_wp_marks Tryz.func227 rfl trivial ?_ rfl
 simp only[Tryz.ntmps227,List.size_toArray,List.length_cons,List.length_nil,Nat.reduceAdd,Nat.reduceSub,Array.replicate_succ,Array.replicate_zero,List.push_toArray,List.append_toArray,List.nil_append,List.cons_append]
 gi_wp2
 generalize hz:(Obj.cells #[_,_,_,_,_,_,_,_,_,_,_,_,_,_,_,_,_,_,_,_,_,_,_,_,_,_,_,_,_,_,_,_] 35)=zo
 have E:=qx (ql w (.cells (qw h).toArray 35)) zo
 have H:=ql (w.alloc (.cells (qw h).toArray 35)) zo
 rw[World.size_alloc] at H
 have n1:qq w ((w.alloc (.cells (qw h).toArray 35)).alloc zo):=((Upd.refl _ _).alloc _).alloc _
 generalize (w.alloc (.cells (qw h).toArray 35)).alloc zo=w1 at E H n1 ⊢
 refine⟨trivial,callsIn_wide.2 ((q44 i d w1).mono ?_)⟩
 rintro e w2 ⟨Bd,Bi,rfl,n2,b9,d2,d3,cd,ci⟩
 have b8:=E
 replace E:=n2.old E (fun h=>h)
 replace H:=n2.old H (fun h=>h)
 have c3:=n1.trans n2
 obtain⟨A,a7⟩:∃A,A=w.heap.size:=⟨_,rfl⟩
 obtain⟨R,c0⟩:∃R,R=w.heap.size+1:=⟨_,rfl⟩
 have d0:w.heap.size≤A:=by omega
 have e9:w.heap.size≤R:=by omega
 have c9:R≠A:=by omega
 have Y:Bi≠A:=by have:=n1.size;have:=zi (w:=w1) (b:=A) (o:= .cells (qw h).toArray 35 (0,0)) (by rw[a7];exact b8);omega
 rw[←c0] at H ⊢
 rw[←a7] at E ⊢
 clear a7 c0 b9 b8
 have I:Below w.heap.size w w2:=c3.below' (Nat.le_refl _) (fun _ h=>h.elim)
 have e6:∃Z,zo = .cells Z 35∧Z=(qw zm).toArray:=⟨_,hz.symm,rfl⟩
 obtain⟨Z,rfl,d5⟩:=e6
 subst d5
 clear hz n1 n2 c3
 gi_wp2
 refine wpIn_rangeFunc_ownF (α:=Fin 16) rfl (by omega) (gf:=232) (lb:=#[.pointer (some ⟨Bd,0,none⟩),.pointer (some ⟨Bi,0,none⟩)]) rfl trivial (enters_of Tryz.func232 (by kernel_rfl) rfl)
  (encs:=fun x=>#[.int .i64 (x.1:Nat)]) (Kp:=KpB Bi) (S:=fun xs=>xs=hiF i d 0) (Sp:=fun pre=>pre <+: hiF i d 0) (N:=16) (w0:=w2)
  (fun l J Jx W hW hJ e8 hY h0=>q43 Fence.wide 5 trivial rfl (by omega) l Bd Bi i d hi hd J Jx hY W ((hW.cell (p:=⟨Bd,0,none⟩) d2).trans cd) ((hW.cell (p:=⟨Bi,0,none⟩) d3).trans ci) h0)
  (fun h k v e=>k v (h v e)) ?kb (Below.refl _ _) (fun _=>rfl)
  (fun pre W=>(W.heap[A]? = some (.cells (qw (qhg h pre)).toArray 35 (0,0))∧W.heap[R]? = some (.cells (qw zm).toArray 35 (0,0))∧W.cell? ⟨Bi,0,none⟩=some (.int .i64 i))∧Below w.heap.size w W)
  (fun _ _ _=>False)
  (OwnFrom.and (Own.from (fun s A' B' row hs hg hr=>⟨qm1 hs.1 hg hr,qm1 hs.2.1 hg hr,cell_kept hs.2.2 hg hr⟩) _) (ownFrom_below (Nat.le_refl _) I.size))
  (fun _ _ _ _ _ hs _ _=>hs)
  ⟨⟨E,H,ci⟩,I⟩
  (fun(x:Fin 16)=> {tmps:=#[.agg (qw h).toArray,.int .i64 i,.int .i64 d,.pointer (some ⟨A,0,none⟩),undef,undef,.pointer (some ⟨R,0,none⟩),.int .i64 (x.1:Nat),.int .i64 i,.int .i64 d,.func (.func 232) #[] #[.pointer (some ⟨Bd,0,none⟩),.pointer (some ⟨Bi,0,none⟩)],.int .i64 (x.1:Nat),undef,undef,undef,undef,undef,undef,undef,undef,undef,undef,undef,undef,undef],defers:=[]}) ?assign ?body ?done ?stop
 case kb =>
  intro W l o o' hl ho hc _ v hv;exact cell_kept hv (grownBy_putObj' W l o') (fun r e=>by cases e;exact⟨o,ho,hc⟩)
 case assign =>
  intro l x W K hK;gi_wp2;exact hK
 case body =>
  rintro l pre x W ⟨⟨t,X,c1⟩,P⟩ _;have a2:=qpq pre h hh;obtain⟨q,hq⟩:∃q,q=qhg h pre:=⟨_,rfl⟩;rw[←hq] at a2 t;obtain⟨m,b2,e7⟩:∃m:Nat,m=x.1∧m<16:=⟨_,rfl,x.2⟩;rw[←b2];obtain⟨k,hk⟩:∃k,k=m / 8:=⟨_,rfl⟩;obtain⟨j,hj⟩:∃j,j=m%8:=⟨_,rfl⟩;have f0:k<32:=by omega
  have d8:j<8:=by omega
  have b7:W.cell? ⟨A,k,none⟩=some (.int .u8 (q.getD k 0)):=by
   unfold qw at t;rw[qk t k,List.getElem?_toArray,List.getElem?_map,List.getD_eq_getElem?_getD,List.getElem?_eq_getElem (by omega)];rfl
  have c8:=qo t k;have d6:(m:Int).tdiv 8=(k:Int):=by rw[hk];exact(Int.ofNat_tdiv m 8).symm
  have e2:(m:Int).tmod 8=(j:Int):=by rw[hj];exact(Int.ofNat_tmod m 8).symm
  have e5:IntKind.i64.wrap (k:Int)=(k:Int):=qmm k (by omega);have e4:IntKind.i64.wrap (j:Int)=(j:Int):=qmm j (by omega);have e1:(k:Int)<32:=by omega
  have d9:(j:Int)<8:=by omega
  have f1:Tryz.prog.follows .mixedOrders=true:=by kernel_rfl
  have c7:=qj b2;have HK:=qj hk;have HJ:=qj hj;have HQ:=qj hq;clear b2 hk hj hq;have c2:bits .xor .u8 (q.getD k 0) (IntKind.u8.wrap (2 ^ j))=(qel q m).getD k 0:=by
   have ew:∀j:Nat,j<8→IntKind.u8.wrap (2 ^ j)=2 ^ j:=by decide
   rw[ew j d8];unfold qel;rw[←qg HK,←qg HJ,List.getD_eq_getElem?_getD (l:=q.set _ _),List.getElem?_set_self (by omega)];rfl
  have M:(W.setCell ⟨A,k,none⟩ (.int .u8 (bits .xor .u8 (q.getD k 0) (IntKind.u8.wrap (2 ^ j))))).drew.heap[A]? = some (.cells (qw (qel q m)).toArray 35 (0,0)):=by
   have:=zq t k (.int .u8 (bits .xor .u8 (q.getD k 0) (IntKind.u8.wrap (2 ^ j))));refine this.trans ?_;rw[c2];have e:(qel q m).getD k 0=bits .xor .u8 (q.getD k 0) (2 ^ j):=by
    unfold qel;rw[←qg HK,←qg HJ,List.getD_eq_getElem?_getD (l:=q.set _ _),List.getElem?_set_self (by omega)];rfl
   unfold qw;rw[e,List.setIfInBounds_toArray,←List.map_set];unfold qel;rw[←qg HK,←qg HJ]
  have y:Below w.heap.size W (W.setCell ⟨A,k,none⟩ (.int .u8 (bits .xor .u8 (q.getD k 0) (IntKind.u8.wrap (2 ^ j))))).drew:=((Below.refl _ _).setCell (p:=⟨A,k,none⟩) d0 _).drew;have b3:KeepsOthers W (W.setCell ⟨A,k,none⟩ (.int .u8 (bits .xor .u8 (q.getD k 0) (IntKind.u8.wrap (2 ^ j))))).drew:=(KeepsOthers.setCell _ _ _).trans (KeepsOthers.drew _);have b4:Upd (· = A) W (W.setCell ⟨A,k,none⟩ (.int .u8 (bits .xor .u8 (q.getD k 0) (IntKind.u8.wrap (2 ^ j))))).drew:=((Upd.refl _ _).set1 _ _).drew;clear c2;generalize q.getD k 0=V at b7 M y b3 b4;gi_wp2;gi_region_o
  all_goals (
   generalize (W.setCell ⟨A,k,none⟩ (.int .u8 (bits .xor .u8 V (IntKind.u8.wrap (2 ^ j))))).drew=W1 at M y b3 b4 ⊢
   clear b7 c8 d6 e2 e5 e4 e1 d9
   have C:(qel q m).length=32:=by rw[qzu,a2]
   have a8:(convert 95 9 (.slice (some ⟨A,0,none⟩) 32 32)).run Tryz.prog W1 = .ok (.string (strOfNums (qel q m))) W1 :=
    qdd W1 _ _ _ Tryz.underlying95 Tryz.underlying5 Tryz.underlying9 A 32 _ _ _ 32 C M
   have O:Calls Tryz.prog 164 #[.string (strOfNums (qel q m))] W1 (fun e w'=>e = .returned (.agg (qw (qeq (strOfNums (qel q m)))).toArray)∧qq W1 w'):=qft (strOfNums (qel q m)) W1 (by rw[strOfNums_size,C];omega) (hT.upd (S:=fun k=>w.heap.size≤k) ⟨(P.trans y).os,(P.trans y).tape,(P.trans y).output,(P.trans y).size,fun k hk _=>(P.trans y).block k hk⟩ (by have:=hT.lt;omega) (by have:=hT.lt;omega))
   have b1:=qb9 (strOfNums (qel q m))
   have b6:=qj (HsB.mk M C)
   have a1:qd8 q m=qeq (strOfNums (qel q m)):=rfl
   have b5:=qj a1
   clear M a1
   generalize qeq (strOfNums (qel q m))=K at O b1 b5
   gi_wp2
   refine⟨trivial,(CallsIn.inRound l (callsIn_wide.2 O)).mono ?_⟩
   rintro e W2 ⟨rfl,n2⟩
   have U:=(qg b6).new n2
   have e3:=U.stOk K b1
   have c4:=qj (U.put K b1)
   have u3:=zy (w:=W2) (b:=A) (qw K)
   have k3:KeepsOthers W (W2.setCells A 0 (qw K)):=(b3.trans (KeepsOthers.of_upd n2 (fun _ h=>h.elim))).trans (KeepsOthers.of_upd u3 (fun k e=>⟨_,_,_,(congrArg (fun z=>W2.heap[z]?) e).trans U.at_⟩))
   have u4:Upd (· = A) W (W2.setCells A 0 (qw K)):=(b4.trans (n2.mono (fun _ _ h=>h.elim))).trans u3
   have K3:=qj k3
   have U4:=qj u4
   clear O U u3 k3 u4 a8 b6
   gi_wp2
   have d1:=qg c4
   have T:=qg U4
   refine⟨qg K3,fun v hv=>T.cell hv Y,⟨⟨?_,T.old X c9,T.cell c1 Y⟩,P.trans (T.below' P.size (fun k e=>by omega))⟩⟩
   rw[qv1,←qg HQ,←qg c7,qg b5]
   exact d1.at_)
 case done =>
  rintro D ys W hD rfl ⟨⟨t,X,c1⟩,P⟩ hK;have hl:=qpq (hiF i d 0) h hh;have d7:qhg h (hiF i d 0)=qdq h i d:=by unfold qdq;rw[qzv,q7i hd]
  rw[d7] at hl t;have hA:HsB W A (qdq h i d):=⟨t,hl⟩;have hr:=hA.row;have hR:HsB W R zm:=⟨X,qu⟩;have e3:=hR.stOk _ hl;have a6:=hR.put _ hl;have u5:=zy (w:=W) (b:=R) (qw (qdq h i d));have k5:KeepsOthers W (W.setCells R 0 (qw (qdq h i d))):=KeepsOthers.of_upd u5 (fun k e=>⟨_,_,_,(congrArg (fun z=>W.heap[z]?) e).trans X⟩);have d4:=k5.same D _ hK rfl;have HP:=qj a6;have c5:=qj (P.trans (u5.below' P.size (fun k e=>by omega)));have c6:=qj d4;clear a6 u5 k5 hR hA t;gi_wp2;have b0:=qg c6;refine⟨by simp,.inl ⟨_,_,rfl,run_takeDeferred b0,?_⟩⟩;have hP:=qm1 (qg HP).at_ (grownBy_putObj' _ D (.deferred none)) (fun r e=>by cases e;exact⟨_,b0,rfl⟩);refine⟨_,results_cell_row rfl _ _ R _ _ _ _ rfl hP Tryz.underlying35 rfl (by rw[List.size_toArray,qal,hl];exact Tryz.infoHsh),rfl,?_⟩;have f2:=I.size;exact Upd.of_below ((qg c5).trans (belowK_b (w:=w) (Nat.le_refl _) _ D _ _ (by omega) b0 rfl rfl)) (Nat.le_refl _)
 case stop =>
  rintro D c pre W _ _ h _;exact h.elim
end
section
open Go.RowKit
structure Deb(w:World):Prop where
 tab:∀j,j<64→w.cell? ⟨6,j,none⟩=some (.int .u8 (Lib.deBruijn64tab.getD j 0))
theorem Deb.upd{S:Nat→Prop}{w w':World}(h:Deb w)(u:Upd S w w')(m:¬S 6):Deb w':=⟨fun i o=>u.cell (h.tab i o) m⟩
theorem Deb.new{w w':World}(h:Deb w)(u:qq w w'):Deb w':=h.upd u (fun h=>h)
def qc2(i:Int):Bool:=decide (0≤i)&&decide (i<65536)
theorem q7p{i:Int}(m:0≤i)(o:i<65536):qc2 i=true:=by unfold qc2;simp;omega
theorem q4y{i:Int}(h:i<0∨65536≤i):qc2 i=false:=by unfold qc2;simp;omega
theorem qnz{i:Int}(h:qc2 i=true):0≤i∧i<65536:=by unfold qc2 at h;simpa using h
theorem qid(i:Int)(w:World):Calls Tryz.prog 225 #[.int .i64 i] w (qae (.bool (qc2 i)) w):=by
 by_cases o:0≤i
 ·by_cases m:i<65536
  ·rw[q7p o m];go_enter Tryz.func225,Tryz.ntmps225;go_wp2;go_ret;exact⟨rfl,Q.refl _⟩
  ·rw[q4y (by omega)];have q:decide (i<65536)=false:=by simpa using m
   go_enter Tryz.func225,Tryz.ntmps225;go_wp2;go_ret;exact⟨rfl,Q.refl _⟩
 ·rw[q4y (by omega)];go_enter Tryz.func225,Tryz.ntmps225;go_wp2;go_ret;exact⟨rfl,Q.refl _⟩
theorem q1q(x a:Nat)(o:x<18446744073709551616)(i:x &&& (18446744073709551616-x)=a)(q:x≠0) :
  IntKind.u64.wrap (bits BinOp.and IntKind.u64 (x:Int) (IntKind.u64.wrap (-(x:Int)))*285870213051353865) / 288230376151711744=((a*285870213051353865%18446744073709551616 / 288230376151711744:Nat):Int):=by
 have m:IntKind.u64.wrap (-(x:Int))=((18446744073709551616-x:Nat):Int):=by rw[IntKind.wrap_u64];omega
 rw[m,bits_and_u64_nat x _ o (by omega),i,IntKind.wrap_u64]
 omega
theorem q1p(x k i:Nat)(w:World)(o:((x:Int)==0)=false)
  (key:IntKind.u64.wrap (bits BinOp.and IntKind.u64 (x:Int) (IntKind.u64.wrap (-(x:Int)))*285870213051353865) / 288230376151711744=(i:Int))
  (q:i<64) (t:k<64) (m:w.cell? ⟨6,i,none⟩=some (.int .u8 k)) :
  Calls Tryz.prog 230 #[.int .u64 x] w (qae (.int .i64 k) w):=by
 go_enter Tryz.func230,Tryz.ntmps230
 go_wp2_with (simp only[key])
 go_ret
 exact⟨rfl,Q.refl _⟩
theorem q1r(w:World):Calls Tryz.prog 230 #[.int .u64 0] w (qae (.int .i64 64) w):=by
 go_enter Tryz.func230,Tryz.ntmps230;go_wp2;go_ret;exact⟨rfl,Q.refl _⟩
theorem q58(x:Nat)(y:x<18446744073709551616)(w:World)(z:Deb w) :
  Calls Tryz.prog 230 #[.int .u64 x] w (qae (.int .i64 (Lib.ctz 64 x)) w):=by
 by_cases m:x=0
 ·subst m;have e:Lib.ctz 64 0=64:=by decide
  rw[e];exact q1r w
 ·obtain⟨o,v⟩:=Lib.lowest_bit 64 x m y;obtain⟨t,q⟩:=Lib.deBruijn64_at _ v;have i:=z.tab _ t;rw[q] at i;exact q1p x _ _ w (by simp;omega) (q1q x _ y o m) t v i
theorem zai(x:Nat)(o:x<18446744073709551616)(w:World)(i:Deb w) :
  Calls Tryz.prog 226 #[.int .u64 x] w (qae (.int .i64 (Lib.ctz 64 x)) w):=by
 have t:IntKind.u64.wrap (x:Int)=(x:Int):=by rw[IntKind.wrap_u64];omega
 have m:=q58 x o w i
 go_enter Tryz.func226,Tryz.ntmps226
 go_wp2_with fail
 refine m.mono ?_
 rintro e w1 ⟨rfl,q⟩
 go_wp2_with fail
 go_ret
 exact⟨rfl,q⟩
def qbj(i:Int):Nat:=if qc2 i then min (Lib.ctz 64 i.toNat) 16 else 0
theorem qks(i:Int):qbj i≤16:=by unfold qbj;split<;>omega
theorem qhc(i:Int)(w:World)(E:Deb w):Calls Tryz.prog 217 #[.int .i64 i] w (qae (.int .i64 (qbj i)) w):=by
 have x:=qid i w;go_enter Tryz.func217,Tryz.ntmps217;go_wp2_with fail;refine x.mono ?_;rintro e w1 ⟨rfl,q⟩;cases t:qc2 i with
 | false =>
  have e:qbj i=0:=by unfold qbj;rw[if_neg (by rw[t];decide)]
  have m:=qj e;clear e;go_wp2_with fail;go_ret;exact⟨by rw[qg m];rfl,q⟩
 | true =>
  obtain⟨v,I⟩:=qnz t;obtain⟨n,rfl⟩:=Int.eq_ofNat_of_zero_le v;have K:IntKind.u64.wrap (n:Int)=(n:Int):=by rw[IntKind.wrap_u64];omega
  have y:=zai n (by omega) w1 (E.new (q.upd _));have e:qbj (n:Int)=min (Lib.ctz 64 n) 16:=by unfold qbj;rw[if_pos t];rfl
  have m:=qj e;clear e x;have H:=qj t;clear t v;go_wp2_with fail;refine y.mono ?_;rintro e M ⟨rfl,z⟩;have C:=q.trans z;generalize Lib.ctz 64 n=k at *
  clear y q z;by_cases J:k≤16
  ·have o:min k 16=k:=by omega
   have D:min (k:Int) 16=(k:Int):=by omega
   rw[o] at m;clear o;go_wp2_with fail;go_ret;exact⟨by rw[qg m];rfl,C⟩
  ·have o:min k 16=16:=by omega
   have D:(16:Int)<(k:Int):=by omega
   rw[o] at m;clear o;go_wp2_with fail;go_ret;exact⟨by rw[qg m];rfl,C⟩
def qrg(f t:Int):Bool:=qc2 f&&(qc2 t&&(f.toNat / 2 ^ qbj f==t.toNat / 2 ^ qbj f))
theorem qx2(f t:Int)(w:World)(K:Deb w):Calls Tryz.prog 216 #[.int .i64 f,.int .i64 t] w (qae (.bool (qrg f t)) w):=by
 have I:=qhc f w K;have T:=qks f;have i:=fun W=>qid f W
 have o:=fun W=>qid t W
 have v:qrg f t=(qc2 f&&(qc2 t&&(f.toNat / 2 ^ qbj f==t.toNat / 2 ^ qbj f))):=rfl;have x:=qj v;clear v;generalize qbj f=p at *
 go_enter Tryz.func216,Tryz.ntmps216;go_wp2_with fail;refine I.mono ?_;rintro e w1 ⟨rfl,q⟩;clear I;have M:(p:Int)≤16:=by omega
 cases y:qc2 f with
 | false =>
  rw[y,Bool.false_and] at x;replace i:=i;rw[y] at i;go_wp2_with ((with_reducible first|rfl|refine' ut ?_ ?_;rotate_left|refine' uu ?_)<;>intros);refine(i _).mono ?_;rintro e J ⟨rfl,C⟩;go_wp2_with ((with_reducible first|rfl|refine' ut ?_ ?_;rotate_left|refine' uu ?_)<;>intros);go_ret;exact⟨by rw[qg x];rfl,q.trans C.ofDrew⟩
 | true =>
  rw[y,Bool.true_and] at x;rw[y] at i;cases z:qc2 t with
  | false =>
   rw[z,Bool.false_and] at x;rw[z] at o;go_wp2_with ((with_reducible first|rfl|refine' ut ?_ ?_;rotate_left|refine' uu ?_)<;>intros);refine(i _).mono ?_;rintro e J ⟨rfl,C⟩;go_wp2_with ((with_reducible first|rfl|refine' ut ?_ ?_;rotate_left|refine' uu ?_)<;>intros);refine(o _).mono ?_;rintro e N ⟨rfl,E⟩;go_wp2_with ((with_reducible first|rfl|refine' ut ?_ ?_;rotate_left|refine' uu ?_)<;>intros);go_ret;exact⟨by rw[qg x];rfl,(q.trans C.ofDrew).trans E⟩
  | true =>
   rw[z,Bool.true_and] at x;rw[z] at o;obtain⟨H,R⟩:=qnz y;obtain⟨t0,U⟩:=qnz z;obtain⟨n,rfl⟩:=Int.eq_ofNat_of_zero_le H;obtain⟨m,rfl⟩:=Int.eq_ofNat_of_zero_le t0;have O:=qj y;have P:=qj z;clear y z H t0;go_wp2_with ((with_reducible first|rfl|refine' ut ?_ ?_;rotate_left|refine' uu ?_)<;>intros);refine(i _).mono ?_;rintro e J ⟨rfl,C⟩;go_wp2_with ((with_reducible first|rfl|refine' ut ?_ ?_;rotate_left|refine' uu ?_)<;>intros);refine(o _).mono ?_;rintro e N ⟨rfl,E⟩;go_wp2_with ((with_reducible first|rfl|refine' ut ?_ ?_;rotate_left|refine' uu ?_)<;>intros);go_ret;refine⟨?_,(q.trans C.ofDrew).trans E⟩;have D:((n:Int) / 2 ^ p==(m:Int) / 2 ^ p)=((n:Int).toNat / 2 ^ p==(m:Int).toNat / 2 ^ p):=by
    have en:(n:Int) / 2 ^ p=((n / 2 ^ p:Nat):Int):=by rw[Int.natCast_ediv];rfl
    have em:(m:Int) / 2 ^ p=((m / 2 ^ p:Nat):Int):=by rw[Int.natCast_ediv];rfl
    rw[en,em,Int.toNat_natCast,Int.toNat_natCast];by_cases e:n / 2 ^ p=m / 2 ^ p
    ·rw[e];simp
    ·rw[beq_false_of_ne e,beq_false_of_ne (by omega)]
   rw[qg x,←D];rfl
attribute [local go_sem ↓ high] zl qaf qah qa1
attribute [local go_sem] qa9 qb3 qb7 qdp qy
def qh1(h:List Int)(i:Int):List Int × Int:=if qc2 i=true then (qdq h i.toNat 16,0) else (zm,1)
theorem q4o(h:List Int)(T:h.length=32)(i:Int)(w:World)(R:Tabs w) :
  Calls Tryz.prog 224 #[.agg (qw h).toArray,.int .i64 i] w (qar (.tuple #[.agg (qw (qh1 h i).1).toArray,.int .i64 (qh1 h i).2]) w):=by
 have o:=fun W=>qid i W
 go_enter Tryz.func224,Tryz.ntmps224
 go_upto_region 1 with fail
 have E:=(qcr w h T).new ((Upd.refl _ _).alloc (.cells (qw zm).toArray 35))
 have z:=qcr (w.alloc (.cells (qw h).toArray 35)) zm qu
 rw[World.size_alloc] at z
 have I:qq w ((w.alloc (.cells (qw h).toArray 35)).alloc (.cells (qw zm).toArray 35)):=((Upd.refl _ _).alloc _).alloc _
 generalize (w.alloc (.cells (qw h).toArray 35)).alloc (.cells (qw zm).toArray 35)=w1 at E z I ⊢
 obtain⟨A,y⟩:∃A,A=w.heap.size:=⟨_,rfl⟩
 obtain⟨B,C⟩:∃B,B=w.heap.size+1:=⟨_,rfl⟩
 rw[←C] at z ⊢
 rw[←y] at E ⊢
 have a2:w.heap.size≤B:=by omega
 have a1:B≠A:=by omega
 clear y C
 have HA:=qj E
 have HB:=qj z
 clear E z
 go_wp2_with fail
 refine(o _).mono ?_
 rintro e w2 ⟨rfl,q⟩
 have m:=(qg HB).new (q.upd _)
 have t:=(qg HA).new (q.upd _)
 have D:=I.trans (q.upd _)
 have x:=R.new D
 cases H:qc2 i with
 | false =>
  have e:qh1 h i=(zm,1):=by unfold qh1;rw[if_neg (by rw[H];decide)]
  have M:=qj e;have V:=m.stOk zm qu;have N:=qj (m.put zm qu);have O:=qj (D.then (zy (w:=w2) (b:=B) (qw zm)) (fun i hi e=>by omega));clear m t D I x R e;go_wp2_with fail;refine bodyPost_ret (zb rfl _ _ B _ _ _ _ rfl (qg N).at_ Tryz.underlying35 rfl (by rw[List.size_toArray,qal,qu];exact Tryz.infoHsh)) rfl ?_;rw[qg M];exact⟨rfl,qg O⟩
 | true =>
  obtain⟨Y,h1⟩:=qnz H;obtain⟨n,rfl⟩:=Int.eq_ofNat_of_zero_le Y;have e:qh1 h (n:Int)=(qdq h n 16,0):=by unfold qh1;rw[if_pos H];rfl
  have M:=qj e;have U:=qgx h T n 16;have Z:=qpk h T n 16 (by omega) (by omega) w2 x;have hr:=t.row;have J:=qj m;have P:=qj D;clear e o Y t m D I R H x;go_wp2_with fail;refine Z.mono ?_;rintro e w3 ⟨rfl,X⟩;have v:=(qg J).new X;have n4:=(qg P).trans X;have V:=v.stOk _ U;have N:=qj (v.put _ U);have O:=qj (n4.then (zy (w:=w3) (b:=B) (qw (qdq h n 16))) (fun i hi e=>by omega));clear v n4 X Z hr;generalize qdq h n 16=K at *
  go_wp2_with fail;refine bodyPost_ret (zb rfl _ _ B _ _ _ _ rfl (qg N).at_ Tryz.underlying35 rfl (by rw[List.size_toArray,qal,U];exact Tryz.infoHsh)) rfl ?_;rw[qg M];exact⟨rfl,qg O⟩
def qct(h:List Int)(f t:Int):List Int × Int:=if qrg f t=true then (qdq h t.toNat (qbj f),0) else (zm,1)
theorem qtd(h:List Int)(i:h.length=32)(f t:Int):(qct h f t).1.length=32:=by
 unfold qct;split
 ·exact qgx h i _ _
 ·exact qu
theorem q6z{f t:Int}(h:qrg f t=true):qc2 t=true:=by
 unfold qrg at h;simp only[Bool.and_eq_true] at h;exact h.2.1
theorem qvu(h:List Int)(hh:h.length=32)(f t:Int)(w:World)(hT:Tabs w)(P:Deb w) :
  Calls Tryz.prog 220 #[.agg (qw h).toArray,.int .i64 f,.int .i64 t] w (qar (.tuple #[.agg (qw (qct h f t).1).toArray,.int .i64 (qct h f t).2]) w):=by
 go_enter Tryz.func220,Tryz.ntmps220
 go_upto_region 1 with fail
 have O:=(qcr w h hh).new ((Upd.refl _ _).alloc (.cells (qw zm).toArray 35))
 have E:=qcr (w.alloc (.cells (qw h).toArray 35)) zm qu
 rw[World.size_alloc] at E
 have M:qq w ((w.alloc (.cells (qw h).toArray 35)).alloc (.cells (qw zm).toArray 35)):=((Upd.refl _ _).alloc _).alloc _
 generalize (w.alloc (.cells (qw h).toArray 35)).alloc (.cells (qw zm).toArray 35)=w1 at O E M ⊢
 obtain⟨A,D⟩:∃A,A=w.heap.size:=⟨_,rfl⟩
 obtain⟨B,H⟩:∃B,B=w.heap.size+1:=⟨_,rfl⟩
 rw[←H] at E ⊢
 rw[←D] at O ⊢
 have b0:w.heap.size≤B:=by omega
 have a8:B≠A:=by omega
 clear D H
 have HA:=qj O
 have HB:=qj E
 have v:=qx2 f t w1 (P.new M)
 clear O E
 go_wp2_with fail
 refine v.mono ?_
 rintro e w2 ⟨rfl,q⟩
 have m:=(qg HB).new (q.upd _)
 have o:=(qg HA).new (q.upd _)
 have C:=M.trans (q.upd _)
 have z:=hT.new C
 have y:=P.new C
 clear v
 cases R:qrg f t with
 | false =>
  have e:qct h f t=(zm,1):=by unfold qct;rw[if_neg (by rw[R];decide)]
  have X:=qj e;have a7:=m.stOk zm qu;have Y:=qj (m.put zm qu);have Z:=qj (C.then (zy (w:=w2) (b:=B) (qw zm)) (fun i hi e=>by omega));clear m o C M z hT e P y;go_wp2_with fail;refine bodyPost_ret (zb rfl _ _ B _ _ _ _ rfl (qg Y).at_ Tryz.underlying35 rfl (by rw[List.size_toArray,qal,qu];exact Tryz.infoHsh)) rfl ?_;rw[qg X];exact⟨rfl,qg Z⟩
 | true =>
  obtain⟨h0,h1⟩:=qnz (q6z R);obtain⟨n,rfl⟩:=Int.eq_ofNat_of_zero_le h0;have e:qct h f (n:Int)=(qdq h n (qbj f),0):=by unfold qct;rw[if_pos R];rfl
  have X:=qj e;have hl:=qgx h hh n (qbj f);have a6:=qks f;have I:=fun W (hW:Tabs W)=>qpk h hh n (qbj f) (by omega) a6 W hW
  have hp:=fun W (hW:Deb W)=>qhc f W hW
  have hr:zt w2.drew A 0 32=some (qw h).toArray:=o.row;have U:=qj m;have T:=qj o;have a1:=qj C;have a2:=qj z;have V:=qj y;have HC:=qj I;have HP:=qj hp;clear e h0 o m C M hT R z P y I hp;generalize qdq h n (qbj f)=K at *
  generalize qbj f=p at *
  go_upto_region 3 with fail;refine qay (fun w'=>zt w' A 0 32=some (qw h).toArray) [0] (.of [0,1,2,3,4,5,6]) (by kernel_rfl) (by kernel_rfl) hr ?_;simp only[Plan.of];go_wp2_with ((with_reducible first|rfl|refine' ut ?_ ?_;rotate_left|refine' uu ?_)<;>intros);refine(qg HP _ ((qg V).new ((Upd.refl _ _).drew))).mono ?_;rintro e w3 ⟨rfl,q3⟩;have N:qq w2 w3:=(q3.ofDrew).upd _;have J:=((qg T).new N).row;have I:=qg HC w3 ((qg a2).new N);clear hr HP;go_wp2_with ((with_reducible first|rfl|refine' ut ?_ ?_;rotate_left|refine' uu ?_)<;>intros);refine⟨J,?_⟩;go_wp2_with ((with_reducible first|rfl|refine' ut ?_ ?_;rotate_left|refine' uu ?_)<;>intros);refine I.mono ?_;rintro e w4 ⟨rfl,n4⟩;have x:=((qg U).new N).new n4;have n5:=((qg a1).trans N).trans n4;have a7:=x.stOk _ hl;have Y:=qj (x.put _ hl);have Z:=qj (n5.then (zy (w:=w4) (b:=B) (qw K)) (fun i hi e=>by omega));clear x n5 N I n4 J;go_wp2_with ((with_reducible first|rfl|refine' ut ?_ ?_;rotate_left|refine' uu ?_)<;>intros);refine bodyPost_ret (zb rfl _ _ B _ _ _ _ rfl (qg Y).at_ Tryz.underlying35 rfl (by rw[List.size_toArray,qal,hl];exact Tryz.infoHsh)) rfl ?_;rw[qg X];exact⟨rfl,qg Z⟩
end
section
open Go.RowKit
attribute [local go_sem ↓ high] zl qaf qah qa1 ze zf zg zj
attribute [local go_sem] qa9 qb3 qb7 qdp qy qau qav qaw
def Ch.secret(c:Ch)(n:Int):List Int × Int:=if n<0∨c.k.heard≤n then (zm,1) else qh1 c.s.seed (65535-n)
theorem qp7(h:List Int)(m:h.length=32)(i:Int):(qh1 h i).1.length=32:=by
 unfold qh1;split
 ·exact qgx h m _ _
 ·exact qu
theorem Ch.secret_len{c:Ch}(h:c.Ok)(n:Int):(c.secret n).1.length=32:=by
 unfold Ch.secret;split
 ·exact qu
 ·exact qp7 _ h.s.seed _
theorem qxb(g:Nat)(S:Nat→Prop)(c:Ch)(n:Int)(w:World)(h:ChS w g S c)(T:Tabs w)(Y : -9223372036854775808≤n∧n≤9223372036854775807) :
  Calls Tryz.prog 215 #[.pointer (some ⟨g,0,none⟩),.int .i64 n] w (qar (.tuple #[.agg (qw (c.secret n).1).toArray,.int .i64 (c.secret n).2]) w):=by
 obtain⟨Z,nv,X,h⟩:=h
 go_enter Tryz.func215,Tryz.ntmps215
 go_upto_region 1 with fail
 have m:=qcr w zm qu
 have t:qq w (w.alloc (.cells (qw zm).toArray 35)):=(Upd.refl _ _).alloc _
 generalize w.alloc (.cells (qw zm).toArray 35)=w1 at m t ⊢
 obtain⟨B,v⟩:∃B,B=w.heap.size:=⟨_,rfl⟩
 rw[←v] at m ⊢
 have R:w.heap.size≤B:=by omega
 clear v
 have D:=h.new t
 have O:w1.cell? ⟨g,38,none⟩=some (.int .i64 c.k.heard):=D.toR.heard
 have q:=D.seed
 by_cases e:n<0∨c.k.heard≤n
 ·have x:c.secret n=(zm,1):=by unfold Ch.secret;rw[if_pos e]
  have H:=m.stOk zm qu;have z:=qj (m.put zm qu);have C:=qj (t.then (zy (w:=w1) (b:=B) (qw zm)) (fun i U e=>by omega));have y:=qj x;clear h D m t x;by_cases e0:n<0
  ·go_wp2_with fail;refine bodyPost_ret (zb rfl _ _ B _ _ _ _ rfl (qg z).at_ Tryz.underlying35 rfl (by rw[List.size_toArray,qal,qu];exact Tryz.infoHsh)) rfl ?_;rw[qg y];exact⟨rfl,qg C⟩
  ·have P:c.k.heard≤n:=by omega
   clear e;go_wp2_with fail;refine bodyPost_ret (zb rfl _ _ B _ _ _ _ rfl (qg z).at_ Tryz.underlying35 rfl (by rw[List.size_toArray,qal,qu];exact Tryz.infoHsh)) rfl ?_;rw[qg y];exact⟨rfl,qg C⟩
 ·have x:c.secret n=qh1 c.s.seed (65535-n):=by unfold Ch.secret;rw[if_neg e]
  have e0:¬n<0:=by omega
  have P:¬c.k.heard≤n:=by omega
  have V:IntKind.i64.wrap (65535-n)=65535-n:=qgq (by omega) (by omega);have J:=q4o c.s.seed h.ok.s.seed (65535-n) w1 (T.new t);have E:=qp7 c.s.seed h.ok.s.seed (65535-n);have y:=qj x;have M:=qj m;have N:=qj t;clear h D m t x e;generalize qh1 c.s.seed (65535-n)=K at *
  go_wp2_with fail;refine J.mono ?_;rintro e W ⟨rfl,I⟩;have o:=(qg M).new I;have H:=o.stOk _ E;have z:=qj (o.put _ E);have C:=qj (((qg N).trans I).then (zy (w:=W) (b:=B) (qw K.1)) (fun i U e=>by omega));clear o I J q;go_wp2_with fail;refine bodyPost_ret (zb rfl _ _ B _ _ _ _ rfl (qg z).at_ Tryz.underlying35 rfl (by rw[List.size_toArray,qal,E];exact Tryz.infoHsh)) rfl ?_;rw[qg y];exact⟨rfl,qg C⟩
def Ch.revocation(c:Ch):MsgV:=⟨7,c.s.ch,0,0,(c.secret (c.k.heard-1)).1,0,c.k.heard-1⟩
theorem qh5(g:Nat)(S:Nat→Prop)(c:Ch)(w:World)(h:ChS w g S c)(hT:Tabs w) :
  Calls Tryz.prog 205 #[.pointer (some ⟨g,0,none⟩)] w (qar (.agg c.revocation.cells.toArray) w):=by
 obtain⟨lv,nv,av,h⟩:=h
 have a6:=h.ok.heard
 go_enter Tryz.func205,Tryz.ntmps205
 go_upto_region 1 with fail
 have E:=qa6 w MsgV.zero qu
 have C:qq w (w.alloc (.cells MsgV.zero.cells.toArray 101)):=(Upd.refl _ _).alloc _
 generalize w.alloc (.cells MsgV.zero.cells.toArray 101)=w1 at E C ⊢
 obtain⟨B,v⟩:∃B,B=w.heap.size:=⟨_,rfl⟩
 rw[←v] at E ⊢
 have a2:w.heap.size≤B:=by omega
 clear v
 have D:=h.new C
 have t:w1.cell? ⟨g,38,none⟩=some (.int .i64 c.k.heard):=D.toR.heard
 have a8:IntKind.i64.wrap (c.k.heard-1)=c.k.heard-1:=qgq (by omega) (by omega)
 have Y:=qxb g S c (c.k.heard-1) w1 ⟨lv,nv,av,D⟩ (hT.new C) (by omega)
 have H:=Ch.secret_len h.ok (c.k.heard-1)
 have y:c.revocation=⟨7,c.s.ch,0,0,(c.secret (c.k.heard-1)).1,0,c.k.heard-1⟩:=rfl
 have HR:=qj y
 have HB:=qj E
 have N1:=qj C
 have Z:=qj D
 clear h D E C y
 generalize c.secret (c.k.heard-1)=K at *
 go_wp2_with fail
 refine Y.mono ?_
 rintro e M ⟨rfl,I⟩
 obtain⟨z,x,J⟩:=qf7 M K.1 H
 have X:=((qg Z).new I).new J
 have N:=qj x
 have m:=qj (((qg HB).new I).new J)
 have q:=qj (((qg N1).trans I).trans J)
 have T:=qj X
 clear Y I x J X t
 go_upto_region 2 with fail
 change Code.wp _ _ _ _ (qhh M K.1)
 generalize qhh M K.1=o at N m q T ⊢
 generalize M.heap.size=A at N ⊢
 have O:=qg T
 have a7:=(qg N).row
 have a1:o.cell? ⟨g,0,none⟩=some (.int .u32 c.s.ch):=O.toR.ch
 have t:o.cell? ⟨g,38,none⟩=some (.int .i64 c.k.heard):=O.toR.heard
 have P:=fun W=>qvj 7 c.s.ch (c.k.heard-1) K.1 H W
 have z:stOk o.drew B 0 38 (MsgV.cells ⟨7,c.s.ch,0,0,K.1,0,c.k.heard-1⟩).toArray=true:=(qg m).stOk (k:=⟨7,c.s.ch,0,0,K.1,0,c.k.heard-1⟩) H
 have R:qq o o.drew:=(Upd.refl _ _).drew
 have U:=qj (((qg m).new R).put (k:=⟨7,c.s.ch,0,0,K.1,0,c.k.heard-1⟩) H)
 have V:=qj (((qg q).trans R).then (zy (w:=o.drew) (b:=B) (MsgV.cells ⟨7,c.s.ch,0,0,K.1,0,c.k.heard-1⟩)) (fun i hi e=>by omega))
 clear O R
 rw[←qg HR] at z U V P
 go_wp2_with ((with_reducible first|rfl|refine' ut ?_ ?_;rotate_left|refine' uu ?_)<;>intros)
 have x:=qg U
 exact bodyPost_ret (results_cell_row rfl _ _ B _ _ _ _ rfl x.at_ Tryz.underlying101 rfl (by rw[x.agg];exact Tryz.infoMsg)) rfl ⟨rfl,qg V⟩
end
section
open Go.RowKit Go.ChangeShapes Go.WideShapes Go.ChangeAt Go.Deep
def qfw(P:Program)(t:TypeId):Bool:=match P.underlying t with | some (.struct _)=>true | some (.array _ _)=>true | _=>false
def mkV(P:Program)(t:TypeId)(cs:List Value):Value:=if qfw P t then .agg cs.toArray else cs.headD undef
def eqB(P:Program):Nat→TypeId→Bool
 | 0,_=>false
 | n+1,t=>(P.info? t).isSome&&match P.underlying t with
  | some .bool=>true
  | some (.int _)=>true
  | some .string=>true
  | some (.struct i)=> !P.stoodInHeld t&&i.toList.all fun f=>f.name != "_"&&eqB P n f.type
  | some (.array _ e)=>eqB P n e
  | _=>false
section
variable {P:Program}
theorem qth{n:Nat}{t:TypeId}(h:eqB P n t=true):∃i,P.info? t=some i:=by
 cases n with
 | zero=>cases h
 | succ n =>
  unfold eqB at h;simp only[Bool.and_eq_true] at h;exact Option.isSome_iff_exists.1 h.1
theorem qoc{t:TypeId}{i:TypeInfo}(h:P.info? t=some i)(w:World):(sizeOf t).run P w = .ok (P.cellsOf t) w:=by
 simp[sizeOf,typeInfo,h,Program.cellsOf]
theorem qzt{n:Nat}{t:TypeId}{l:List Leaf}(h:qb4 P n t=some l)(i:qfw P t=false):∃k,l=[k]:=by
 cases n with
 | zero=>simp[qb4] at h
 | succ n =>
  unfold qb4 at h;unfold qfw at i;split at h
  ·exact⟨_,(Option.some.inj h).symm⟩
  ·exact⟨_,(Option.some.inj h).symm⟩
  ·exact⟨_,(Option.some.inj h).symm⟩
  ·rename_i m;rw[m] at i;cases i
  ·rename_i m;rw[m] at i;cases i
  ·cases h
theorem q3s{n:Nat}{t:TypeId}{l:List Leaf}(h:qb4 P n t=some l):∃d,P.underlying t=some d:=by
 cases n with
 | zero=>simp[qb4] at h
 | succ n =>
  unfold qb4 at h;cases i:P.underlying t with
  | none=>rw[i] at h;cases h
  | some d=>exact⟨d,rfl⟩
theorem qj0{n:Nat}{t:TypeId}{l:List Leaf}(h:qb4 P n t=some l)(x:P.cellsOf t=l.length){i:TypeInfo}(y:P.info? t=some i)(xs:List Value)(o:Nat)(z:o+l.length≤xs.length)(w:World) :
  (part t xs.toArray o).run P w = .ok (mkV P t ((xs.drop o).take l.length)) w:=by
 obtain⟨d,hd⟩:=q3s h
 unfold part mkV
 cases m:qfw P t with
 | true =>
  have q:(isAgg t).run P w = .ok true w:=by
   unfold qfw at m;unfold isAgg;simp only[Sem.run_bind,run_underlying hd,Result.andThen_ok];rw[hd] at m;cases d<;>simp at m ⊢
  simp only[Sem.run_bind,q,Result.andThen_ok,if_true,qoc y,Sem.run_pure];congr 2;apply Array.ext';rw[x];simp[List.extract_eq_take_drop,List.take_drop]
 | false =>
  have q:(isAgg t).run P w = .ok false w:=by
   unfold qfw at m;unfold isAgg;simp only[Sem.run_bind,run_underlying hd,Result.andThen_ok];rw[hd] at m;cases d<;>simp at m ⊢
  obtain⟨k,rfl⟩:=qzt h m;have v:o<xs.length:=by simp at z;omega
  have C:xs.toArray[o]? = some xs[o]:=by simp[v]
  simp only[Sem.run_bind,q,Result.andThen_ok,Bool.false_eq_true,if_false,C,Sem.run_pure];congr 1;rw[List.drop_eq_getElem_cons v];rfl
theorem q9t{a b c d:List Value}(h:a.length=b.length):a++c=b++d↔a=b∧c=d :=
 ⟨fun e=>List.append_inj e h,fun⟨e,f⟩=>by rw[e,f]⟩
theorem qin{rec:TypeId→Option (List Leaf)}{d:Nat}{xs q:List Value}
  (m:∀t l,rec t=some l→P.cellsOf t=l.length→∀o,o+l.length≤xs.length→(part t xs.toArray o).run P=(fun w=> .ok (mkV P t ((xs.drop o).take l.length)) w)∧(part t q.toArray o).run P=(fun w=> .ok (mkV P t ((q.drop o).take l.length)) w))
  (v:∀t l,rec t=some l→∀a b,qcs l a→qcs l b→∀r:Bool,(r=true↔a=b)→∀w,(Op.equalIn d t (mkV P t a) (mkV P t b)).run P w = .ok r w) :
  ∀(x:List Field) (o:Nat) (L:List Leaf),qbi P rec o x=some L→(∀f∈x,f.name≠"_")→xs.length=o+L.length→q.length=o+L.length→qcs L (xs.drop o)→qcs L (q.drop o) →
   ∀r:Bool,(r=true↔xs.drop o=q.drop o)→∀w,(Op.eqFields d xs.toArray q.toArray x).run P w = .ok r w
 | [],o,L,h,_,K,N,_,_,r,z,w=>by
  simp only[qbi,Option.some.injEq] at h;subst h;have:r=true:=z.2 (by rw[List.drop_eq_nil_of_le (by simp at K;omega),List.drop_eq_nil_of_le (by simp at N;omega)]);subst this;rfl
 | f::x,o,L,h,U,K,N,X,Y,r,z,w=>by
  unfold qbi at h;cases y:rec f.type with
  | none=>rw[y] at h;cases h
  | some l =>
   rw[y] at h;simp only at h;split at h
   ·rename_i hc;obtain⟨ho,hk⟩:=hc;rw[Option.map_eq_some_iff] at h;obtain⟨M,Z,rfl⟩:=h;rw[List.length_append] at K N;obtain⟨a,V,C,E,H⟩:=X.split;obtain⟨b,W,D,I,J⟩:=Y.split;have O:=E.len;have lb:=I.len;have ta:(xs.drop o).take l.length=a:=by rw[C,←O];simp
    have tb:(q.drop o).take l.length=b:=by rw[D,←lb];simp
    have R:xs.drop (o+l.length)=V:=by rw[←List.drop_drop,C,←O];simp
    have T:q.drop (o+l.length)=W:=by rw[←List.drop_drop,D,←lb];simp
    obtain⟨p1,p2⟩:=m f.type l y hk o (by omega);unfold Op.eqFields;rw[if_pos (U f (List.mem_cons_self ..)),ho];simp only[Sem.run_bind,p1,p2,Result.andThen_ok,ta,tb];rw[C,D,q9t (by rw[O,lb])] at z;by_cases i:a=b
    ·rw[v f.type l y a b E I true (by simp[i]) w];simp only[Result.andThen_ok,Bool.not_true,Bool.false_eq_true,if_false];refine qin m v x (o+l.length) M Z (fun g hg=>U g (List.mem_cons_of_mem _ hg)) (by omega) (by omega) (by rw[R];exact H) (by rw[T];exact J) r ?_ w;rw[R,T,z];simp[i]
    ·rw[v f.type l y a b E I false (by simp[i]) w];have:r=false:=by
      cases r with
      | false=>rfl
      | true=>exact absurd (z.1 rfl).1 i
     subst this;simp
   ·cases h
theorem qd9:∀(n d:Nat) (t:TypeId) (l:List Leaf) (xs y:List Value),n≤d→eqB P n t=true→qb4 P n t=some l→qcs l xs→qcs l y→∀r:Bool,(r=true↔xs=y)→∀w,(Op.equalIn d t (mkV P t xs) (mkV P t y)).run P w = .ok r w
 | 0,_,_,_,_,_,_,h,_,_,_,_,_,_=>by cases h
 | n+1,d,t,l,xs,y,hd,M,h,J,K,r,N,w=>by
  obtain⟨d,rfl⟩:∃d',d=d'+1:=⟨d-1,by omega⟩;have a2:=h;unfold qb4 at h;split at h
  ·rename_i q;simp only[Option.some.injEq] at h;subst h;obtain⟨_,_,rfl,⟨a,rfl⟩,rfl⟩:=J;obtain⟨_,_,rfl,⟨b,rfl⟩,rfl⟩:=K;have v:qfw P t=false:=by unfold qfw;rw[q]
   unfold mkV;rw[v];simp only[Bool.false_eq_true,if_false,List.headD_cons];rw[run_equalIn_bool' w d t a b q];congr 1;rw[Bool.eq_iff_iff,N];simp
  ·rename_i k q;simp only[Option.some.injEq] at h;subst h;obtain⟨_,_,rfl,⟨a,rfl,_⟩,rfl⟩:=J;obtain⟨_,_,rfl,⟨b,rfl,_⟩,rfl⟩:=K;have v:qfw P t=false:=by unfold qfw;rw[q]
   unfold mkV;rw[v];simp only[Bool.false_eq_true,if_false,List.headD_cons];rw[run_equalIn_int w d t k k a b q];congr 1;rw[Bool.eq_iff_iff,N];simp
  ·rename_i q;simp only[Option.some.injEq] at h;subst h;obtain⟨_,_,rfl,⟨a,rfl,_⟩,rfl⟩:=J;obtain⟨_,_,rfl,⟨b,rfl,_⟩,rfl⟩:=K;have v:qfw P t=false:=by unfold qfw;rw[q]
   unfold mkV;rw[v];simp only[Bool.false_eq_true,if_false,List.headD_cons];rw[run_equalIn_string w d t a b q];congr 1;rw[Bool.eq_iff_iff,N,beq_iff_eq,ByteArray.toList_eq,ByteArray.toList_eq];constructor
   ·intro h;have:a=b:=by
     obtain⟨a⟩:=a;obtain⟨b⟩:=b;exact congrArg ByteArray.mk (Array.ext' h)
    rw[this]
   ·intro h;cases h;rfl
  ·rename_i fs q;split at h
   ·rename_i L V;split at h
    ·rename_i X;simp only[Option.some.injEq] at h;subst h;unfold eqB at M;rw[q] at M;simp only[Bool.and_eq_true,Bool.not_eq_true'] at M;obtain⟨_,hp,a6⟩:=M;have v:qfw P t=true:=by unfold qfw;rw[q]
     unfold mkV;rw[v];simp only[if_true];have Y:P.fieldsOf t=fs:=by unfold Program.fieldsOf;rw[q]
     rw[run_equalIn_struct w d t _ _ (by rw[Y];exact q) hp,Y];have hx:=J.len;have hy:=K.len;have Z:∀f∈fs.toList,f.name≠"_"∧eqB P n f.type=true:=fun f R=>by
      have:=List.all_eq_true.1 a6 f R;simpa using this
     refine qin (rec:=fun t=>if eqB P n t then qb4 P n t else none) (fun t' l' z h2 o ho=> ?_) (fun t' l' z a b fa fb r N w=> ?_) fs.toList 0 L ?_ (fun f R=>(Z f R).1) (by omega) (by omega) J K r N w
     ·by_cases D:eqB P n t'=true
      ·rw[if_pos D] at z;obtain⟨i,x⟩:=qth D;exact⟨funext fun w=>qj0 z h2 x xs o ho w,funext fun w=>qj0 z h2 x y o (by omega) w⟩
      ·rw[if_neg D] at z;cases z
     ·by_cases D:eqB P n t'=true
      ·rw[if_pos D] at z;exact qd9 n d t' l' a b (by omega) D z fa fb r N w
      ·rw[if_neg D] at z;cases z
     ·have key:∀(U:List Field) (o:Nat),(∀f∈U,eqB P n f.type=true)→qbi P (fun t=>if eqB P n t then qb4 P n t else none) o U=qbi P (qb4 P n) o U:=by
       intro U
       induction U with
       | nil=>intro o _;rfl
       | cons g U W =>
        intro o hg;unfold qbi;rw[if_pos (hg g (List.mem_cons_self ..))];cases qb4 P n g.type with
        | none=>rfl
        | some l=>simp only[W _ fun f R=>hg f (List.mem_cons_of_mem _ R)]
      rw[key fs.toList 0 fun f R=>(Z f R).2];exact V
    ·cases h
   ·cases h
  ·rename_i m e q;split at h
   ·rename_i L V;split at h
    ·rename_i X;simp only[Option.some.injEq] at h;subst h;unfold eqB at M;rw[q] at M;simp only[Bool.and_eq_true] at M;obtain⟨_,O⟩:=M;obtain⟨ie,T⟩:=qth O;have v:qfw P t=true:=by unfold qfw;rw[q]
     unfold mkV;rw[v];simp only[if_true];have a1:((List.replicate m L).flatten).length=m*L.length:=by simp
     have hx:=J.len;have hy:=K.len;rw[a1] at hx hy;have E:∀(m:Nat) (zs:List Value),qcs (List.replicate m L).flatten zs→∀i,i<m→qcs L ((zs.drop (i*L.length)).take L.length):=by
      intro m
      induction m with
      | zero=>intro zs _ i x;omega
      | succ m W =>
       intro zs hz i x;rw[List.replicate_succ,List.flatten_cons] at hz;obtain⟨a,b,rfl,v,D⟩:=hz.split;cases i with
       | zero=>rw[Nat.zero_mul,List.drop_zero,←v.len,List.take_left];exact v
       | succ i =>
        have:=W b D i (by omega);rw[Nat.succ_mul,Nat.add_comm,←List.drop_drop,←v.len,List.drop_left];rw[v.len];exact this
     have I:(r=true↔∀i∈List.range' 0 m 1,(xs.drop (i*L.length)).take L.length=(y.drop (i*L.length)).take L.length):=by
      rw[N];constructor
      ·rintro rfl i _;rfl
      ·intro H;rw[qm8 L.length m xs hx,qm8 L.length m y hy];congr 1;apply List.map_congr_left;intro i x;exact H i (by simpa using List.mem_range.1 x)
     unfold Op.equalIn;simp only[Sem.run_bind,run_underlying q,Result.andThen_ok,qoc T,Std.Legacy.Range.forIn_eq_forIn_range',Std.Legacy.Range.size,Nat.sub_zero,Nat.add_sub_cancel,Nat.div_one];have hl:∀i∈List.range' 0 m 1,i<m:=fun i x=>by simpa using (List.mem_range'_1.1 x).2
     clear N;generalize List.range' 0 m 1=is at hl I ⊢
     induction is with
     | nil =>
      have:r=true:=I.2 (by simp);subst this;simp
     | cons i is W =>
      have x:i<m:=hl i (by simp);have a7:i*L.length+L.length≤m*L.length:=by have:=Nat.mul_le_mul_right L.length (show i+1≤m from x);rw[Nat.succ_mul] at this;exact this
      rw[X.1];rw[X.1] at W;have px:=qj0 V X.1 T xs (i*L.length) (by omega) w;have py:=qj0 V X.1 T y (i*L.length) (by omega) w;simp only[List.forIn_cons,Sem.run_bind,px,py,Result.andThen_ok];by_cases C:(xs.drop (i*L.length)).take L.length=(y.drop (i*L.length)).take L.length
      ·rw[qd9 n d e L _ _ (by omega) O V (E m xs J i x) (E m y K i x) true (by simp[C]) w];simp only[Result.andThen_ok,Bool.not_true,Bool.false_eq_true,if_false,Sem.run_pure];refine W (fun j hj=>hl j (by simp[hj])) ?_;rw[I];simp[C]
      ·rw[qd9 n d e L _ _ (by omega) O V (E m xs J i x) (E m y K i x) false (by simp[C]) w];have:r=false:=by
        cases r with
        | false=>rfl
        | true=>exact absurd (I.1 rfl i (by simp)) C
       subst this;simp
    ·cases h
   ·cases h
  ·cases h
theorem qjz(n:Nat){t:TypeId}{l:List Leaf}(y:n≤10000)(v:eqB P n t=true)(x:qb4 P n t=some l)(q:qfw P t=true){xs i:List Value}(m:qcs l xs)(o:qcs l i)(r:Bool)(z:r=true↔xs=i)(w:World) :
  (binOp .eql t (.agg xs.toArray) (.agg i.toArray)).run P w = .ok (.bool r) w:=by
 have:=qd9 n 10000 t l xs i y v x m o r z w
 unfold mkV at this
 rw[q] at this
 simp only[if_true] at this
 rw[run_eql_struct,this]
 rfl
theorem qsj(n:Nat){t:TypeId}{l:List Leaf}(y:n≤10000)(v:eqB P n t=true)(x:qb4 P n t=some l)(q:qfw P t=true){xs i:List Value}(m:qcs l xs)(o:qcs l i)(r:Bool)(z:r=true↔xs=i)(w:World) :
  (binOp .neq t (.agg xs.toArray) (.agg i.toArray)).run P w = .ok (.bool (!r)) w:=by
 have:=qd9 n 10000 t l xs i y v x m o r z w
 unfold mkV at this
 rw[q] at this
 simp only[if_true] at this
 rw[run_neq_struct,this]
 rfl
end
end
section
open Go.RowKit
def qbt(h:List Int):Prop:=∀b∈h,0≤b∧b≤255
theorem Tryz.flatHsh:qb4 Tryz.prog 5 35=some (List.replicate 32 (.int .u8)):=by kernel_rfl
theorem Tryz.eqHsh:eqB Tryz.prog 5 35=true:=by kernel_rfl
theorem Tryz.aggHsh:qfw Tryz.prog 35=true:=by kernel_rfl
theorem q8b{x:Int}(h:0≤x∧x≤255):(Lit.int .u8 x).wf=true:=by
 simp[Lit.wf,IntKind.min,IntKind.max,IntKind.signed,IntKind.bits];omega
theorem qnn(k:IntKind):∀(l:List Int),(∀x∈l,(Lit.int k x).wf=true)→qcs (List.replicate l.length (.int k)) (l.map (Value.int k))
 | [],_=>rfl
 | x::l,h=>⟨_,_,rfl,⟨_,rfl,h x (List.mem_cons_self ..)⟩,qnn k l fun y i=>h y (List.mem_cons_of_mem _ i)⟩
theorem qhw{h:List Int}(m:h.length=32)(i:qbt h):qcs (List.replicate 32 (.int .u8)) (qw h):=by
 have:=qnn .u8 h fun n o=>q8b (i n o)
 rwa [m] at this
theorem qhv{a b:List Int}(h:qw a=qw b):a=b:=by
 unfold qw at h;exact(List.map_inj_right (fun x y e=>by injection e)).1 h
def q83(x y:Value):Sem Value:=binOp .neq 35 x y
theorem qh2(x y:Value):binOp .neq 35 x y=q83 x y:=rfl
theorem q4t{a b:List Int}(o:a.length=32)(q:b.length=32)(i:qbt a)(m:qbt b)(w:World):(q83 (.agg (qw a).toArray) (.agg (qw b).toArray)).run Tryz.prog w = .ok (.bool (a != b)) w:=by
 have:=qsj 5 (by decide) Tryz.eqHsh Tryz.flatHsh Tryz.aggHsh (qhw o i) (qhw q m) (a==b) (by constructor<;>intro e<;>simp_all [qhv];exact qhv e) w;exact this
def eqHsh(x y:Value):Sem Value:=binOp .eql 35 x y
theorem qti(x y:Value):binOp .eql 35 x y=eqHsh x y:=rfl
theorem q9u{a b:List Int}(o:a.length=32)(q:b.length=32)(i:qbt a)(m:qbt b)(w:World):(eqHsh (.agg (qw a).toArray) (.agg (qw b).toArray)).run Tryz.prog w = .ok (.bool (a==b)) w:=by
 have:=qjz 5 (by decide) Tryz.eqHsh Tryz.flatHsh Tryz.aggHsh (qhw o i) (qhw q m) (a==b) (by constructor<;>intro e<;>simp_all [qhv];exact qhv e) w;exact this
theorem qs7(h:List Int)(n:Nat):qbt (qhs h n):=by
 induction n with
 | zero=>intro x i;rw[qiy] at i;have:=List.eq_of_mem_replicate i;omega
 | succ n m =>
  intro x i;rw[qix] at i;rcases List.mem_or_eq_of_mem_set i with h | rfl
  ·exact m x h
  ·unfold byI;omega
theorem qhd(s:ByteArray):qbt (qeq s):=qs7 _ _
theorem qfg:qbt zm:=by
 intro b i;have:=List.eq_of_mem_replicate i;omega
end
end Go.Proofs.YtfmkdoachjgjbaaGreatDoor
