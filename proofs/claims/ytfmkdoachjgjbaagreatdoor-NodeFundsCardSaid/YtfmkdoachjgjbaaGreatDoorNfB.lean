/-
  The law NodeFunds, walked.
-/
import Derived.Test.YtfmkdoachjgjbaaGreatDoorMab
import Derived.Test.YtfmkdoachjgjbaaGreatDoorMec
import Derived.Deep.CutBlock
import Derived.BigQuiet
import Derived.Maps.AppendAt
import Derived.Test.YtfmkdoachjgjbaaGreatDoorMai
import Derived.Test.YtfmkdoachjgjbaaGreatDoorMae
set_option maxRecDepth 100000
set_option maxHeartbeats 40000000
set_option linter.unusedVariables false
set_option linter.unusedSimpArgs false
namespace Go.Proofs.YtfmkdoachjgjbaaGreatDoor
open Go.RowKit
def qdw(w0 w:World)(g:Nat)(F:Int)(cv:Value)(caps:List Int)(dr:Bool)(n:Nat):Prop :=
 ∃G,NF G w0 w g F caps dr n∧w.ownsRow w0.heap.size 22 1 cv caps.length (caps.map (Value.int .u64))∧∀b,cv.ownBlock=some b→¬G b
theorem qdw.n0{w0 w:World}{g:Nat}{F:Int}{cv:Value}{caps:List Int}{dr:Bool}{n:Nat}(h:qdw w0 w g F cv caps dr n):qq w0 w:=by
 obtain⟨G,i,-⟩:=h;exact i.n0
theorem qdw.list{w0 w:World}{g:Nat}{F:Int}{cv:Value}{caps:List Int}{dr:Bool}{n:Nat}(h:qdw w0 w g F cv caps dr n):Calls Tryz.prog 39 #[.pointer (some ⟨g,0,none⟩)] w fun e w'=>∃v,e = .returned v∧qi8 w' v caps∧qq w w':=by
 obtain⟨G,i,-⟩:=h;exact i.list
theorem qdw.total{w0 w:World}{g:Nat}{F:Int}{cv:Value}{caps:List Int}{dr:Bool}{n:Nat}(h:qdw w0 w g F cv caps dr n):Calls Tryz.prog 40 #[.pointer (some ⟨g,0,none⟩)] w (qar (.int .u64 F) w):=by
 obtain⟨G,i,-⟩:=h;exact i.total
theorem qv3{w0 w w':World}{g r:Nat}{F:Int}{R:RelV}(z:F≤1125899906842624)(y:0≤F)(I:NoR w g (.new r F))(q:NewR w w0.heap.size r R)(H:w0.heap.size≤g)(n0:qq w0 w){cv:Value}(v:qq w w')(E:w'.ownsRow w0.heap.size 22 1 cv 0 [])(t:∀b,cv.ownBlock=some b→w.heap.size≤b∧b<w'.heap.size):qdw w0 w' g F cv [] false 0:=by
 have hd:=q.drains;have M:=n0.size;obtain⟨m,C⟩:=NodM.start (fun b=>w0.heap.size≤b) I q H (fun b h=>h);have K:(NodeV.new r F).shut.length=8∧(NodeV.new r F).swept.length=8:=⟨rfl,rfl⟩;have J:NFs (fun b=>w0.heap.size≤b) w0 w g F [] false 0 (.new r F) R m [] :=
  ⟨C,fun b h=>h,n0,rfl,rfl,rfl,hd,Nat.zero_le _,rfl,(fun i p c e=>by simp at e),(fun i p e=>by simp at e),(fun i _ e=>by
   have e:(List.replicate 8 false)[i]? = some true:=e;rw[List.getElem?_replicate] at e;split at e<;>simp at e),y,by show F+0=F;omega,z⟩
 refine⟨fun b=>w0.heap.size≤b∧cv.ownBlock≠some b,⟨_,_,_,_,J.skip v (fun b h=>h.elim) (fun b D o=>⟨o,fun e=>by have:=(t b e).1;omega⟩) (fun b h=>⟨by have:=v.size;omega,fun e=>by have:=(t b e).2;omega⟩) (fun b h=>h.1)⟩,E,fun b e h=>h.2 e⟩
theorem qdw.new{w0 w w':World}{g:Nat}{F:Int}{cv:Value}{caps:List Int}{dr:Bool}{n:Nat}(h:qdw w0 w g F cv caps dr n)(u:qq w w'):qdw w0 w' g F cv caps dr n:=by
 obtain⟨G,i,q,o⟩:=h;obtain⟨t,m⟩:=i.toU;exact⟨G,(m.new u).toF,qcg q u,o⟩
theorem qdw.mono{w0 w:World}{g:Nat}{F:Int}{cv:Value}{caps:List Int}{dr:Bool}{n n':Nat}(h:qdw w0 w g F cv caps dr n)(o:n≤n'):qdw w0 w g F cv caps dr n':=by
 obtain⟨G,i,q,m⟩:=h;exact⟨G,i.mono o,q,m⟩
theorem qi8.shape{w:World}{v:Value}{caps:List Int}(h:qi8 w v caps):∃a c,v = .slice a caps.length c:=by
 rcases h with ⟨i,rfl⟩ | ⟨G,cap,rfl,-⟩
 ·exact⟨none,0,by rw[i]⟩
 ·exact⟨_,_,rfl⟩
theorem qi8.at{w:World}{a:Option Addr}{n c:Nat}{caps:List Int}(h:qi8 w (.slice a n c) caps){j:Nat}{d:Int}(hd:caps[j]? = some d):∃G r,a=some ⟨G,0,none⟩∧RowF d r∧zt w G (j*5) 5=some r.cells.toArray:=by
 rcases h with ⟨q,-⟩ | ⟨G,cap,e,i⟩
 ·have:=(List.getElem?_eq_some_iff.1 hd).1;omega
 ·obtain⟨r,m,o⟩:=i j d hd;cases e;exact⟨G,r,rfl,m,o⟩
theorem qi8.new{w w':World}{v:Value}{caps:List Int}(h:qi8 w v caps)(u:qq w w'):qi8 w' v caps:=by
 rcases h with h | ⟨G,cap,e,m⟩
 ·exact .inl h
 ·refine .inr ⟨G,cap,e,fun i c t=> ?_⟩;obtain⟨r,o,q⟩:=m i c t;exact⟨r,o,qbg q u (fun h=>h)⟩
theorem q60{w:World}{B:Nat}{T:TypeId}{a:Option Addr}{n c:Nat}{caps:List Int}(h:w.ownsRow B T 1 (.slice a n c) caps.length (caps.map (Value.int .u64))){j:Nat}{d:Int}(hd:caps[j]? = some d):∃b,a=some ⟨b,0,none⟩∧w.cell? ⟨b,j,none⟩=some (.int .u64 d):=by
 have v:=(List.getElem?_eq_some_iff.1 hd).1;rcases h.2 with ⟨e,e0⟩ | ⟨g,cap,i,e,-,o,t,-,y,q⟩
 ·omega
 ·cases e;refine⟨g,rfl,?_⟩;rw[qk o,←Array.getElem?_toList];have m:(i.toList.take (caps.length*1))[j]? = (caps.map (Value.int .u64))[j]? := by rw[q]
  rw[List.getElem?_take_of_lt (by omega),List.getElem?_map,hd] at m;exact m
structure RdF(G:Nat→Prop)(w0 w:World)(g:Nat)(F:Int)(cv:Value)(caps:List Int)(dr:Bool)(n:Nat)(x:ActN)(AB:Nat):Prop where
 nf:NF G w0 w g F caps dr n
 row:w.ownsRow w0.heap.size 22 1 cv caps.length (caps.map (Value.int .u64))
 out:∀b,cv.ownBlock=some b→¬G b
 act:w.heap[AB]? = some (.cells x.cells.toArray 94 (0,0))
 ab:¬G AB
theorem qdw.beside{w0 w w':World}{g:Nat}{F:Int}{cv:Value}{caps:List Int}{dr:Bool}{n:Nat}(h:qdw w0 w g F cv caps dr n)(u:qq w w'){x:ActN}{AB:Nat}(v:w'.heap[AB]? = some (.cells x.cells.toArray 94 (0,0)))(E:w.heap.size≤AB):∃G,RdF G w0 w' g F cv caps dr n x AB:=by
 obtain⟨G,q,D,i⟩:=h;have H:=zi v;have I:=u.size;have C:∀b,G b→w0.heap.size≤b:=by
  obtain⟨N,R,m,ps,h⟩:=q;exact h.gw
 have z:∀b,w.heap.size≤b→G b:=by
  obtain⟨N,R,m,ps,h⟩:=q;exact h.nod.ge.2.2.2.2
 exact⟨fun b=>G b∧b≠AB,q.skip u (fun b h=>h.elim) (fun b y t=>⟨t,by omega⟩) (fun b i=>⟨z b (by omega),by omega⟩) (fun b i=>C b i.1),qcg D u,fun b e o=>i b e o.1,v,fun o=>o.2 rfl⟩
section
variable {G:Nat→Prop}{w0 w w':World}{g:Nat}{F:Int}{cv:Value}{caps:List Int}{dr dr':Bool}{n n':Nat}{x:ActN}{AB:Nat}
theorem RdF.op(h:RdF G w0 w g F cv caps dr n x AB)(i:NF G w0 w' g F caps dr' n')(u:Upd G w w'):RdF G w0 w' g F cv caps dr' n' x AB:=⟨i,zc h.row u h.out,h.out,u.old h.act h.ab,h.ab⟩
theorem RdF.new(h:RdF G w0 w g F cv caps dr n x AB)(u:qq w w'):RdF G w0 w' g F cv caps dr n x AB:=by
 obtain⟨m,i⟩:=h.nf.toU;exact⟨(i.new u).toF,qcg h.row u,h.out,u.old h.act (fun h=>h),h.ab⟩
theorem RdF.fund(h:RdF G w0 w g F cv caps dr n x AB):qdw w0 w g F cv caps dr n:=⟨G,h.nf,h.row,h.out⟩
end
theorem qxo(c:Int):(⟨#[0,5,8,0,0,0]⟩:ByteArray)++strOfNums [c]=qca c.toNat:=by
 apply ByteArray.ext;rw[ByteArray.data_append];rfl
theorem q2w(W:World)(c:Int):(convert 95 9 (.slice (some ⟨W.heap.size,0,none⟩) 1 1)).run Tryz.prog (W.alloc (.cells #[.int .u8 c] 5)) = .ok (.string (strOfNums [c])) (W.alloc (.cells #[.int .u8 c] 5)) :=
 qd3 (qbk.made W 0 [c] (Nat.zero_le _) (by show 1≤1073741824;decide))
theorem qzi(W:World)(c:Int):(convert 95 9 (.slice (some ⟨W.heap.size,0,none⟩) 1 1)).run Tryz.prog (W.alloc (.cells #[.int .u8 c] 5)).drew = .ok (.string (strOfNums [c])) (W.alloc (.cells #[.int .u8 c] 5)).drew :=
 qd3 ((qbk.made W 0 [c] (Nat.zero_le _) (by show 1≤1073741824;decide)).new (Upd.refl _ _).drew)
theorem q6t(w:World):(q2h #[(0,.int .u8 1)]).run Tryz.prog w = .ok (.agg (qw qjp).toArray) w:=run_build w _ _ _ (by kernel_rfl)
theorem RdF.grows{G:Nat→Prop}{w0 w w':World}{g:Nat}{F:Int}{cv o:Value}{caps i:List Int}{dr:Bool}{n:Nat}{x:ActN}{AB:Nat}{J:Int}(C:NFU G w0 w g F i dr n J)(T:w.ownsRow w0.heap.size 22 1 cv caps.length (caps.map (Value.int .u64)))(O:∀b,cv.ownBlock=some b→¬G b)(M:w.heap[AB]? = some (.cells x.cells.toArray 94 (0,0)))(U:¬G AB)
  (W:w.grownBy w' cv.ownBlock) (z:o.ownBlock=cv.ownBlock∨o.ownBlock=some w.heap.size) (y:w'.ownsRow w0.heap.size 22 1 o i.length (i.map (Value.int .u64))):∃G',RdF G' w0 w' g F o i dr n x AB∧NFU G' w0 w' g F i dr n J:=by
 have u:Upd (fun b=>cv.ownBlock=some b) w w':=(Upd.refl _ _).grown W (fun k P _=>P)
 have E:∀b,cv.ownBlock=some b→w0.heap.size≤b:=fun b e=>by
  rcases T.2 with ⟨t,-⟩ | ⟨k,cap,q,t,P,-⟩
  ·rw[t] at e;cases e
  ·rw[t] at e;have e:k=b:=by simpa [Value.ownBlock] using e
   omega
 have V:∀b,w.heap.size≤b→G b:=by
  obtain⟨N,R,m,ps,h,-⟩:=C;exact h.nod.ge.2.2.2.2
 have X:∀b,G b→w0.heap.size≤b:=by
  obtain⟨N,R,m,ps,h,-⟩:=C;exact h.gw
 have I:∀b,cv.ownBlock=some b→b≠AB:=fun b e t=>by
  obtain⟨q,D⟩:=zv T b e;exact zx D M (by decide) t
 have H:∀b,o.ownBlock=some b→b<w'.heap.size:=fun b e=>by
  obtain⟨q,D⟩:=zv y b e;exact zi D
 have v:=C.skip (G':=fun b=>G b∧o.ownBlock≠some b) u (fun b e=>⟨O b e,E b e⟩) (fun b Y K=>⟨K,fun e=>by
  rcases z with z | z
  ·rw[z] at e;exact O b e K
  ·rw[z] at e;have e:w.heap.size=b:=by simpa using e
   omega⟩) (fun b h=>⟨V b (by have:=u.size;omega),fun e=>by have:=H b e;omega⟩) (fun b h=>X b h.1)
 exact⟨_,⟨v.toF,y,fun b e h=>h.2 e,u.old M (fun e=>I _ e rfl),fun h=>U h.1⟩,v⟩
attribute [local go_sem ↓ high] qrz qsm qq6 qh0 qlu qk2 qk9 qa1
attribute [local go_sem] q2w qzi qx0 q6t q7k q72 q6q qy qwl q5w q2c
theorem qzx(F:Int)(v:Value)(xs:List ActN)(w:World)(hF:0≤F∧F<18446744073709551616)(hv:qik w v xs)(hx:∀x∈xs,x.Ok)(hT:Tb w) :
  Calls Tryz.prog 8 #[.int .u64 F,v] w (qar (.bool true) w):=by
 obtain⟨va,vc,rfl⟩:=hv.slice
 have g8:=fun W=>q1i W
 have HV:=qj hv
 by_cases m1:80<xs.length
 ·have hb:(80:Int)<(xs.length:Int):=by omega
  clear hv;go_enter Tryz.func8,Tryz.ntmps8;go_wp2_with fail;refine(g8 w).mono ?_;rintro e w1 ⟨rfl,n1⟩;go_wp2_with fail;go_ret;exact⟨rfl,n1⟩
 have hb:¬(80:Int)<(xs.length:Int):=by omega
 clear hv
 go_enter Tryz.func8,Tryz.ntmps8
 go_wp2_with fail
 refine(g8 w).mono ?_
 rintro e w1 ⟨rfl,n1⟩
 have c9:=qj n1
 clear g8 n1
 go_wp2_with fail
 refine(quc F 0 0 hF w1).mono ?_
 rintro e w2 (⟨l4,g,r,R,rfl,hr,o4,M,hR,n2⟩ | ⟨l0,rfl,n2⟩)
 case inr =>
  have I:=qj ((qg c9).trans n2);clear n2 c9;go_wp2_with fail;go_ret;exact⟨rfl,qg I⟩
 have l0:¬1125899906842624<F:=by omega
 have i7:=qkg g (.new r F) w2 M
 have m6:=n2.size
 have Y:=qj (And.intro M (And.intro hR n2))
 clear M hR n2
 go_wp2_with fail
 refine i7.mono ?_
 rintro e w3 ⟨rfl,q3⟩
 obtain⟨M,hR,n2⟩:=qg Y
 have j4:=qny g (.new r F) w3 (q3.old M)
 have Y:=qj (And.intro (q3.old M) (And.intro (hR.new (q3.upd _)) (n2.trans (q3.upd _))))
 clear M hR n2 i7 q3
 go_wp2_with fail
 refine j4.mono ?_
 rintro e w4 ⟨rfl,q4⟩
 obtain⟨M,hR,n2⟩:=qg Y
 have M:=q4.old M
 have hR:=hR.new (q4.upd _)
 have d6:qq w1 w4:=n2.trans (q4.upd _)
 have Y:=qj (And.intro M (And.intro hR d6))
 clear j4 q4 M hR n2 d6
 go_upto_region 9 with fail
 have hI:qdw w1 (w4.alloc (.cells #[] 22)) g F (.slice (some ⟨w4.heap.size,0,none⟩) 0 0) [] false 0:=by
  obtain⟨M,hR,d6⟩:=qg Y;have hz:=d6.size;refine qv3 l4 hF.1 M hR (by omega) d6 ((Upd.refl _ _).alloc _) ⟨rfl,.inr ⟨w4.heap.size,0,#[],rfl,hz,ql _ _,Nat.le_refl _,by decide,rfl,rfl⟩⟩ (fun b e=> ?_);have e:w4.heap.size=b:=by simpa [Value.ownBlock] using e
  rw[World.size_alloc];omega
 generalize w4.alloc (.cells #[] 22)=w5 at hI ⊢
 generalize w4.heap.size=D at hI ⊢
 have HI:=qj hI
 clear hI Y
 go_wp2_with fail
 go_loopw [6,7,8] (fun cv dv iv wr=>∃(i:Nat) (caps:List Int) (dr:Bool),iv = .int .i64 (i:Int)∧dv = .bool dr∧i≤xs.length∧(∃a c,cv = .slice a caps.length c)∧Hid (qdw w1 wr g F cv caps dr (4*i))) (fun _ _ iv _=>xs.length-(intOf iv).toNat)
 case atStart=>exact⟨0,[],false,rfl,rfl,Nat.zero_le _,⟨_,_,rfl⟩,HI⟩
 case round =>
  obtain⟨i,caps,dr,rfl,rfl,hi,⟨ca,cc,rfl⟩,H⟩:=hrel;obtain⟨wq,rfl⟩:∃wq:World,wq=wr:=⟨_,rfl⟩;by_cases l5:i<xs.length
  ·obtain⟨x,g9⟩:∃x,xs[i]? = some x:=⟨_,List.getElem?_eq_getElem l5⟩;have m4:(i:Int)<(xs.length:Int):=by omega
   have a6:=hx x (List.mem_of_getElem? g9);obtain⟨gv,off,rfl,j6⟩:=((qg HV).new ((qg c9).trans (qg H).n0)).at g9;clear HI g9;go_upto_region 13 with fail;have e5:=q1k wq x;go_upto_region 14 with fail;clear e5;have U:=q0d wq x;have nA:qq wq ((wq.alloc (.cells ActN.zero.cells.toArray 94)).setCells wq.heap.size 0 x.cells):=((Upd.refl _ _).alloc _).then ((Upd.refl (· = wq.heap.size) _).setCells 0 _) (fun i hi e=>by omega);obtain⟨G,hR⟩:=(qg H).beside nA U (Nat.le_refl _);generalize (wq.alloc (.cells ActN.zero.cells.toArray 94)).setCells wq.heap.size 0 x.cells=w6 at U nA hR ⊢;generalize wq.heap.size=AB at U hR ⊢;have E:=qj hR;clear hR U nA j6 H;have a0:w6.cell? ⟨AB,0,none⟩=some (.int .u8 x.kind):=qk (qg E).act 0;have c8:0≤x.kind:=a6.kind.1;have l3:x.kind<256:=a6.kind.2;go_upto_block 2 with fail;have hq:0≤x.kind%8∧x.kind%8<8:=by omega
   generalize x.kind%8=q at hq ⊢;clear c8 l3 a0
   go_cut [6,7] from 63 to 242 (fun cv dv wx=>∃(t:List Int) (dr':Bool),dv = .bool dr'∧(∃a c,cv = .slice a t.length c)∧Hid (qdw w1 wx g F cv t dr' (4*i+3)))
   case first =>
    have d8:=hT.new (qg c9);have n9:0≤x.chan:=a6.chan.1;have o0:x.chan<256:=a6.chan.2;have o8:i<80:=by omega
    have a1:w6.cell? ⟨AB,1,none⟩=some (.int .u8 x.chan):=qk (qg E).act 1;have a2:w6.cell? ⟨AB,2,none⟩=some (.int .i64 x.p):=qk (qg E).act 2;have a3:w6.cell? ⟨AB,3,none⟩=some (.int .u64 x.cap):=qk (qg E).act 3;have a4:w6.cell? ⟨AB,4,none⟩=some (.int .u64 x.ours):=qk (qg E).act 4;obtain⟨fu,hU⟩:=(qg E).nf.toU;have n5:=hU.few;have g6:=hU.funds;have HU:=qj hU;clear hU;by_cases V:q=0∨q=1
    ·have o7:IntKind.u32.wrap x.chan=x.chan:=by rw[IntKind.wrap_u32];omega
     rcases V with rfl | rfl
     all_goals
      clear hq;go_wp2_with fail;refine g6.mono ?_;rintro e wa ⟨rfl,qa⟩;have na:qq w6 wa:=qa.upd _;have f0:=qj ((qg HU).new na);have y:=qj ((qg E).new na);have b1:=na.cell a1 (fun h=>h);have b3:=na.cell a3 (fun h=>h);have b4:=na.cell a4 (fun h=>h);have j1:=(qg f0).open_ x.chan x.cap x.ours a6.chan a6.cap a6.ours;clear g6 qa na a1 a2 a3 a4 HU E;go_wp2_with fail;refine j1.mono ?_;rintro e wb ⟨o9,er,rfl,hO⟩;clear j1;rcases hO with ⟨rfl,rfl,o3,rfl,h8,c7,u2⟩ | ⟨h0,h1,h2,c7,n2⟩
      ·as_aux_lemma =>
        have j3:=zc (qg y).row u2 (qg y).out;have g0:=u2.old (qg y).act (qg y).ab;have d3:wb.cell? ⟨AB,3,none⟩=some (.int .u64 x.cap):=qk g0 3;obtain⟨i9,z9,l1,m0,l7,l8,l9⟩:=qu8;have k6:w1.heap.size≤wb.heap.size:=c7.toF.n0.size;have h9:=qj c7;have h5:=qj g0;have e9:=qj j3;clear b1 b3 b4 f0 c7 g0 u2 j3;go_upto_region 20 with fail;go_wp2_with (at_builtin;refine wpList_append_own_at _ rfl (.tmp 83) (.tmp 86) 92 rfl w1.heap.size 22 i9 _ 1 8 Tryz.underlying92 l1 m0 l7 l8 l9 (by decide) _ _ _ rfl ((qg e9).alloc _) ⟨wb.heap.size,0,none⟩ 1 1 [.int .u64 x.cap] rfl rfl ?c1 ?c2 ?c3 ?c4 ?c5 ?_)
        case c1=>exact World.news_of_block (cs:=#[.int .u64 x.cap]) (fr:=(0,0)) (heap_alloc_new wb _)
        case c2=>simp[Value.oneCell']
        case c3=>unfold maxLen;omega
        case c4=>omega
        case c5=>simp;omega
        intro v' wg d5 i8 _ e7;have h4:qq wb (wb.alloc (.cells #[.int .u64 x.cap] 22)):=(Upd.refl _ _).alloc _;have b7:wg.ownsRow w1.heap.size 22 1 v' (caps++[x.cap]).length ((caps++[x.cap]).map (Value.int .u64)):=by
         rw[List.length_append,List.map_append];exact d5
        obtain⟨G',g4,i1⟩:=RdF.grows ((qg h9).new h4) ((qg e9).alloc _) (qg y).out (h4.old (qg h5) (fun h=>h)) (qg y).ab i8 (by rw[World.size_alloc];exact e7) b7;have j0:((caps++[x.cap]).length:Int)=(caps.length:Int)+1:=by rw[List.length_append,List.length_singleton];omega
        obtain⟨p0,p1,rfl⟩:=qaa b7;have d4:wg.cell? ⟨AB,4,none⟩=some (.int .u64 x.ours):=qk g4.act 4;have z:=(i1.new ((Upd.refl (fun _=>False) wg).drew)).funds;have e8:=qj g4;generalize k9:caps++[x.cap]=f9 at e8 j0 ⊢;clear k9 d5 b7 i8 e7 g4 i1 h4 e9 h5 h9 y d3;have m9:(caps.length:Int)<8:=by omega
        have o2:=a6.ours;have o5:IntKind.u64.wrap (fu-x.ours)=fu-x.ours:=qdl (by omega) (by omega);have m5:¬fu<x.ours:=by omega
        go_upto_region 21 with fail;refine qay (fun w'=>w'.cell? ⟨AB,4,none⟩=some (.int .u64 x.ours)) [13,19] (.of [0,1,2,3,4,5,6,7,8,9,10,11,12,13,14,15,16,17,18,19,20,21,22]) (by kernel_rfl) (by kernel_rfl) (show wg.drew.cell? _=_ from d4) ?_;simp only[Plan.of];have d4:wg.drew.cell? ⟨AB,4,none⟩=some (.int .u64 x.ours):=d4;go_wp2_with ((with_reducible first|rfl|refine' ut ?_ ?_;rotate_left|refine' uu ?_)<;>intros);refine z.mono ?_;rintro e wh ⟨rfl,X⟩;have k4:=X.cell d4;have Z:=qj ((qg e8).new (((Upd.refl (fun _=>False) wg).drew).trans (X.upd _)));clear z d4 X e8;go_wp2_with (first | ((with_reducible first|rfl|refine' ut ?_ ?_;rotate_left|refine' uu ?_)<;>intros) | refine⟨k4,?_⟩);go_meet
        case rel=>exact⟨f9,false,rfl,⟨_,_,rfl⟩,qj ((qg Z).fund.mono (by omega))⟩
      ·as_aux_lemma =>
        have c8:(er==0)=false:=beq_eq_false_iff_ne.2 h0;have d3:wb.cell? ⟨AB,3,none⟩=some (.int .u64 x.cap):=n2.cell b3 (fun h=>h);have d4:wb.cell? ⟨AB,4,none⟩=some (.int .u64 x.ours):=n2.cell b4 (fun h=>h);have z:=c7.funds;have a7:=qj ((qg y).new n2);clear b1 b3 b4 f0 c7 n2 y;go_upto_region 23 with fail;cases dr with
        | true =>
         obtain rfl:=h1 rfl;clear h0 c8 h1 h2;go_wp2_with fail;refine z.mono ?_;rintro e wh ⟨rfl,X⟩;have d3:=X.cell d3;have d4:=X.cell d4;have Z:=qj ((qg a7).new (X.upd _));clear z X a7;go_wp2_with fail;go_meet
         case rel=>exact⟨caps,true,rfl,⟨_,_,rfl⟩,qj ((qg Z).fund.mono (by omega))⟩
        | false =>
         have h2:=h2 rfl;clear h0 h1;by_cases ho:x.ours≤x.cap
         ·have dh:decide (x.ours≤x.cap)=true:=decide_eq_true ho;by_cases hf:fu<x.ours
          ·have df:decide (fu<x.ours)=true:=decide_eq_true hf;obtain rfl:=h2 ho hf;clear h2 c8 ho hf;go_wp2_with fail;refine z.mono ?_;rintro e wh ⟨rfl,X⟩;have d3:=X.cell d3;have d4:=X.cell d4;have Z:=qj ((qg a7).new (X.upd _));clear z X a7;go_wp2_with fail;go_meet
           case rel=>exact⟨caps,false,rfl,⟨_,_,rfl⟩,qj ((qg Z).fund.mono (by omega))⟩
          ·have df:decide (fu<x.ours)=false:=decide_eq_false hf;clear h2 c8 ho hf;go_wp2_with fail;refine z.mono ?_;rintro e wh ⟨rfl,X⟩;have d3:=X.cell d3;have d4:=X.cell d4;have Z:=qj ((qg a7).new (X.upd _));clear z X a7;go_wp2_with fail;go_meet
           case rel=>exact⟨caps,false,rfl,⟨_,_,rfl⟩,qj ((qg Z).fund.mono (by omega))⟩
         ·have dh:decide (x.ours≤x.cap)=false:=decide_eq_false ho;clear h2 c8 ho;go_wp2_with fail;refine z.mono ?_;rintro e wh ⟨rfl,X⟩;have d3:=X.cell d3;have d4:=X.cell d4;have Z:=qj ((qg a7).new (X.upd _));clear z X a7;go_wp2_with fail;go_meet
          case rel=>exact⟨caps,false,rfl,⟨_,_,rfl⟩,qj ((qg Z).fund.mono (by omega))⟩
    clear g6 HU a1 a3;have g7:4*i≤100000:=by omega
    have J:=(qg E).nf;rcases (by omega:q=2∨q=3∨q=4∨q=5∨q=6∨q=7) with rfl | rfl | rfl | rfl | rfl | rfl
    ·as_aux_lemma =>
      have O:=J.close d8 g7 x.p;clear J hq V a4;have i6:∀(e0:Bool) (wa:World) (er:Int),True:=fun _ _ _=>trivial
      clear i6;by_cases C:0≤x.p
      ·have b2:decide (0≤x.p)=true:=decide_eq_true C;by_cases P:x.p<(caps.length:Int)
       ·have b5:decide (x.p<(caps.length:Int))=true:=decide_eq_true P;go_wp2_with fail;refine O.mono ?_;rintro e wa ⟨er,rfl,T,I,u⟩;have he:(er==180)=false:=beq_eq_false_iff_ne.2 (fun e=>T.1 e ⟨C,P⟩);have y:=qj ((qg E).op I u);clear O T I u E C P;go_wp2_with fail;go_meet
        case rel=>exact⟨caps,dr,rfl,⟨_,_,rfl⟩,qj ((qg y).fund.mono (by omega))⟩
       ·have b5:decide (x.p<(caps.length:Int))=false:=decide_eq_false P;go_wp2_with fail;refine O.mono ?_;rintro e wa ⟨er,rfl,T,I,u⟩;obtain rfl:=T.2 (by omega);have y:=qj ((qg E).op I u);clear O T I u E C P;go_wp2_with fail;go_meet
        case rel=>exact⟨caps,dr,rfl,⟨_,_,rfl⟩,qj ((qg y).fund.mono (by omega))⟩
      ·have b2:decide (0≤x.p)=false:=decide_eq_false C;go_wp2_with fail;refine O.mono ?_;rintro e wa ⟨er,rfl,T,I,u⟩;obtain rfl:=T.2 (by omega);have y:=qj ((qg E).op I u);clear O T I u E C;go_wp2_with fail;go_meet
       case rel=>exact⟨caps,dr,rfl,⟨_,_,rfl⟩,qj ((qg y).fund.mono (by omega))⟩
    ·as_aux_lemma =>
      have j7:=J.sweep;clear J hq V a4 a2;go_wp2_with fail;refine j7.mono ?_;rintro e wa ⟨⟨k,rfl⟩,I,u⟩;have y:=qj ((qg E).op I u);clear j7 I u E;go_wp2_with fail;go_meet
      case rel=>exact⟨caps,dr,rfl,⟨_,_,rfl⟩,qj ((qg y).fund.mono (by omega))⟩
    ·as_aux_lemma =>
      have i5:=J.drain;clear J hq V a4 a2;cases dr
      all_goals
       go_wp2_with fail;refine i5.mono ?_;rintro e wa ⟨rfl,I,u⟩;have y:=qj ((qg E).op I u);clear i5 I u E;go_wp2_with fail;go_meet
       case rel=>exact⟨caps,true,rfl,⟨_,_,rfl⟩,qj ((qg y).fund.mono (by omega))⟩
    ·as_aux_lemma =>
      have ho:=a6.ours;generalize x.ours=o at a4 ho;obtain⟨oa,rfl⟩:=Int.eq_ofNat_of_zero_le ho.1;have j2:=J.pay d8 g7 x.p oa (by omega);clear J hq V ho;go_wp2_with fail;refine j2.mono ?_;rintro e wa ⟨id,er,rfl,g5,I,u⟩;have y:=qj ((qg E).op I u);clear j2 I u E a2 a4;cases dr with
      | true =>
       obtain rfl:=g5 rfl;clear g5;go_wp2_with fail;go_meet
       case rel=>exact⟨caps,true,rfl,⟨_,_,rfl⟩,qj ((qg y).fund.mono (by omega))⟩
      | false =>
       clear g5;go_wp2_with fail;go_meet
       case rel=>exact⟨caps,false,rfl,⟨_,_,rfl⟩,qj ((qg y).fund.mono (by omega))⟩
    ·as_aux_lemma =>
      clear hq V a4;by_cases C:0≤x.p
      ·have b2:decide (0≤x.p)=true:=decide_eq_true C;by_cases P:x.p<(caps.length:Int)
       ·have b5:decide (x.p<(caps.length:Int))=true:=decide_eq_true P;obtain⟨pv,b8⟩:∃pv,pv=x.p:=⟨_,rfl⟩;rw[←b8] at a2 C P b2 b5;obtain⟨k,rfl⟩:=Int.eq_ofNat_of_zero_le C;have d7:=qj b8;clear b8;obtain⟨N,R',m,ps,hs⟩:=J;obtain⟨p,hp⟩:∃p,ps[k]? = some p:=⟨_,List.getElem?_eq_getElem (by rw[←hs.cl];omega)⟩;have Y:=qj hs;have HP:=qj hp;clear hs hp;go_upto_region 43 with fail;refine qay (fun w'=>w'.cell? ⟨AB,2,none⟩=some (.int .i64 (k:Int))) [3,8] (.of [0,1,2,3,4,5,6,7,8,9,10,11,12,13,14,15,16]) (by kernel_rfl) (by kernel_rfl) (show w6.drew.cell? _=_ from a2) ?_;simp only[Plan.of];have nd:qq w6 w6.drew:=(Upd.refl _ _).drew;have d0:w6.drew.cell? ⟨AB,2,none⟩=some (.int .i64 (k:Int)):=a2;have hrel:=((qg Y).new nd).relay;have ND:=qj nd;clear nd a2;go_wp2_with ((with_reducible first|rfl|refine' ut ?_ ?_;rotate_left|refine' uu ?_)<;>intros);refine hrel.mono ?_;rintro e wa ⟨rfl,qa⟩;have na:qq w6 wa:=(qg ND).trans (qa.upd _);have a8:=qa.cell d0;have d2:=((qg Y).new na).link (qg HP);have NA:=qj na;clear hrel qa na ND d0;go_wp2_with (first | ((with_reducible first|rfl|refine' ut ?_ ?_;rotate_left|refine' uu ?_)<;>intros) | refine⟨a8,?_⟩);refine d2.mono ?_;rintro e wb ⟨rfl,qb⟩;have nb:qq w6 wb:=(qg NA).trans (qb.upd _);have c6:=qb.cell a8;have d1:=((qg Y).new nb).list2 (qg HP);have NB:=qj nb;clear d2 qb nb NA a8;go_wp2_with (first | ((with_reducible first|rfl|refine' ut ?_ ?_;rotate_left|refine' uu ?_)<;>intros) | refine⟨c6,?_⟩);refine d1.mono ?_;rintro e wc ⟨K,cap,rfl,i4,nc⟩;have n3:qq w6 wc:=(qg NB).trans nc
        have b0:=nc.cell c6 (fun h=>h);obtain⟨cp,k8,hF⟩:=(qg Y).at (qg HP);have k7:=hF.c.chb;obtain⟨ch,d9⟩:∃ch:Int,ch=p.L.c.s.ch:=⟨_,rfl⟩;rw[←d9] at k7 i4;have o6:IntKind.u8.wrap ch=ch:=by rw[IntKind.wrap_u8];omega
        have e5:=qxo ch;have i2:=fun W (nW:qq wc W)=>((qg Y).new (n3.trans nW)).bytes d8 g7 (qg HP) ch.toNat (by rw[←d9];omega)
        have n4:qq wc (wc.alloc (.cells #[.int .u8 ch] 5)):=(Upd.refl _ _).alloc _;have i0:=n4.cell b0 (fun h=>h);have e6:=i2 _ n4;have N4:=qj (n3.trans n4);have m7:=qj d9;clear d1 nc NB c6 k8 hF i2 n3 n4 d9;go_wp2_with (first | ((with_reducible first|rfl|refine' ut ?_ ?_;rotate_left|refine' uu ?_)<;>intros) | refine⟨b0,?_⟩ | refine⟨i0,?_⟩);refine e6.mono ?_;rintro e wf ⟨⟨er,rfl⟩,I,u⟩;have uG:Upd G (wc.alloc (.cells #[.int .u8 ch] 5)) wf:=u.mono (fun b _ e=>(qg Y).nod.geS k p (qg HP) b e);have h7:=qj (((qg E).new (qg N4)).op I uG);have k2:wf.cell? ⟨AB,2,none⟩=some (.int .i64 (k:Int)):=by
         rw[qg d7];exact qk (qg h7).act 2
        clear e6 I u uG N4 Y HP E b0 i0 i4;go_wp2_with (first | ((with_reducible first|rfl|refine' ut ?_ ?_;rotate_left|refine' uu ?_)<;>intros) | refine⟨k2,?_⟩);go_meet
        case rel=>exact⟨caps,dr,rfl,⟨_,_,rfl⟩,qj ((qg h7).fund.mono (by omega))⟩
       ·have b5:decide (x.p<(caps.length:Int))=false:=decide_eq_false P;clear J;go_wp2_with fail;go_meet
        case rel=>exact⟨caps,dr,rfl,⟨_,_,rfl⟩,qj ((qg E).fund.mono (by omega))⟩
      ·have b2:decide (0≤x.p)=false:=decide_eq_false C;clear J;go_wp2_with fail;go_meet
       case rel=>exact⟨caps,dr,rfl,⟨_,_,rfl⟩,qj ((qg E).fund.mono (by omega))⟩
    ·as_aux_lemma =>
      clear hq V a4;by_cases C:0≤x.p
      ·have b2:decide (0≤x.p)=true:=decide_eq_true C;by_cases P:x.p<(caps.length:Int)
       ·have b5:decide (x.p<(caps.length:Int))=true:=decide_eq_true P;clear J;obtain⟨pv,b8⟩:∃pv,pv=x.p:=⟨_,rfl⟩;rw[←b8] at a2 C P b2 b5;obtain⟨k,rfl⟩:=Int.eq_ofNat_of_zero_le C;have d7:=qj b8;clear b8;go_wp2_with fail
        go_loopw [18] (fun kv wr=>∃j:Nat,kv = .int .i64 (j:Int)∧j≤3∧Hid (RdF G w1 wr g F (.slice ca caps.length cc) caps dr (4*i+j) x AB)) (fun kv _=>3-(intOf kv).toNat)
        case atStart=>exact⟨0,rfl,by omega,E⟩
        case round =>
         obtain⟨j,rfl,hj,HJ⟩:=hrel;obtain⟨ws,rfl⟩:∃ws:World,ws=wr:=⟨_,rfl⟩;by_cases o1:j<3
         ·have m2:(j:Int)<3:=by omega
          have f8:ws.cell? ⟨AB,2,none⟩=some (.int .i64 (k:Int)):=by
           rw[qg d7];exact qk (qg HJ).act 2
          obtain⟨N,R',m,ps,hs⟩:=(qg HJ).nf;obtain⟨p,hp⟩:∃p,ps[k]? = some p:=⟨_,List.getElem?_eq_getElem (by rw[←hs.cl];omega)⟩;have Y:=qj hs;have HP:=qj hp;clear hs hp a2 E;go_upto_region 49 with fail;refine qay (fun w'=>w'.cell? ⟨AB,2,none⟩=some (.int .i64 (k:Int))) [3] (.of [0,1,2,3,4,5]) (by kernel_rfl) (by kernel_rfl) (show ws.drew.cell? _=_ from f8) ?_;simp only[Plan.of];have nd:qq ws ws.drew:=(Upd.refl _ _).drew;have d0:ws.drew.cell? ⟨AB,2,none⟩=some (.int .i64 (k:Int)):=f8;have j5:=((qg Y).new nd).relay;have ND:=qj nd;clear nd f8;go_wp2_with ((with_reducible first|rfl|refine' ut ?_ ?_;rotate_left|refine' uu ?_)<;>intros);refine j5.mono ?_;rintro e wa ⟨rfl,qa⟩;have na:qq ws wa:=(qg ND).trans (qa.upd _);have a8:=qa.cell d0;have d2:=((qg Y).new na).link (qg HP);have NA:=qj na;clear j5 qa na ND d0;go_wp2_with (first | ((with_reducible first|rfl|refine' ut ?_ ?_;rotate_left|refine' uu ?_)<;>intros) | refine⟨a8,?_⟩);refine d2.mono ?_;rintro e wb ⟨rfl,qb⟩;have nb:qq ws wb:=(qg NA).trans (qb.upd _);have c6:=qb.cell a8;have j8:=((qg Y).new nb).tick d8 (by omega) (qg HP);have NB:=qj nb;clear d2 qb nb NA a8;go_wp2_with (first | ((with_reducible first|rfl|refine' ut ?_ ?_;rotate_left|refine' uu ?_)<;>intros) | refine⟨c6,?_⟩);refine j8.mono ?_;rintro e wc ⟨⟨er,rfl⟩,I,u⟩;have uG:Upd G wb wc:=u.mono (fun b _ e=>(qg Y).nod.geS k p (qg HP) b e);have h6:=qj (((qg HJ).new (qg NB)).op I uG);have b0:=((qg h6).act);have b0:wc.cell? ⟨AB,2,none⟩=some (.int .i64 (k:Int)):=by
           rw[qg d7];exact qk b0 2
          clear j8 I u uG NB c6 HJ Y HP;go_wp2_with (first | ((with_reducible first|rfl|refine' ut ?_ ?_;rotate_left|refine' uu ?_)<;>intros) | refine⟨b0,?_⟩);go_roundw
          case rel=>exact⟨j+1,by go_num,by omega,h6⟩
          case measure=>simp[intOf];omega
         ·obtain rfl:j=3:=by omega
          clear E a2;go_wp2_with fail;go_meet
          case rel=>exact⟨caps,dr,rfl,⟨_,_,rfl⟩,qj (qg HJ).fund⟩
       ·have b5:decide (x.p<(caps.length:Int))=false:=decide_eq_false P;clear J;go_wp2_with fail;go_meet
        case rel=>exact⟨caps,dr,rfl,⟨_,_,rfl⟩,qj ((qg E).fund.mono (by omega))⟩
      ·have b2:decide (0≤x.p)=false:=decide_eq_false C;clear J;go_wp2_with fail;go_meet
       case rel=>exact⟨caps,dr,rfl,⟨_,_,rfl⟩,qj ((qg E).fund.mono (by omega))⟩
   case rest =>
    obtain⟨t,dr',rfl,⟨k3,m8,rfl⟩,H⟩:=hcut;obtain⟨wd,rfl⟩:∃wd:World,wd=wc:=⟨_,rfl⟩;have h8:(t.length:Int)≤8:=by
     obtain⟨G,I,-⟩:=qg H;obtain⟨fu,hU⟩:=I.toU;have:=hU.few.1;omega
    have d1:=(qg H).list;clear E;go_wp2_with fail;refine d1.mono ?_;rintro e w7 ⟨rv,rfl,b9,n7⟩;obtain⟨ra,rc,rfl⟩:=b9.shape;have j9:=((qg H).new n7).total;have c0:=qj b9;have H7:=qj ((qg H).new n7);clear d1 b9 n7 H;go_wp2_with fail;refine j9.mono ?_;rintro e w8 ⟨rfl,n8⟩;have c0:=qj ((qg c0).new n8);have H8:=qj ((qg H7).new n8);clear j9 n8 H7;go_wp2_with fail
    go_loopw [20] (fun pv wr=>∃j:Nat,pv = .int .i64 (j:Int)∧j≤t.length∧Hid (qq w8 wr)) (fun pv _=>t.length-(intOf pv).toNat)
    case atStart=>exact⟨0,rfl,Nat.zero_le _,qj (Upd.refl _ _)⟩
    case round =>
     obtain⟨j,rfl,hj,NR⟩:=hrel;obtain⟨wp,rfl⟩:∃wp:World,wp=wr:=⟨_,rfl⟩;by_cases l2:j<t.length
     ·obtain⟨d,hd⟩:∃d,t[j]? = some d:=⟨_,List.getElem?_eq_getElem l2⟩;have m3:(j:Int)<(t.length:Int):=by omega
      obtain⟨RG,rv,rfl,k5,l6⟩:=((qg c0).new (qg NR)).at hd;have i3:∃cb,k3=some ⟨cb,0,none⟩∧wp.cell? ⟨cb,j,none⟩=some (.int .u64 d):=by
       obtain⟨G,-,hr,-⟩:=(qg H8).new (qg NR);exact q60 hr hd
      obtain⟨cb,rfl,b6⟩:=i3;clear hd;go_upto_region 56 with fail;have e5:=qol (ql wp (.cells RowV.zero.cells.toArray 87)) rv;go_upto_region 57 with fail;clear e5;have U:=qnr (ql wp (.cells RowV.zero.cells.toArray 87)) rv;have nA:qq wp ((wp.alloc (.cells RowV.zero.cells.toArray 87)).setCells wp.heap.size 0 rv.cells):=((Upd.refl _ _).alloc _).then ((Upd.refl (· = wp.heap.size) _).setCells 0 _) (fun i hi e=>by omega);have b6:=nA.cell b6 (fun h=>h);have f7:=qj ((qg NR).trans nA);generalize (wp.alloc (.cells RowV.zero.cells.toArray 87)).setCells wp.heap.size 0 rv.cells=wz at U b6 f7 ⊢;generalize wp.heap.size=RB at U ⊢;have e1:wz.cell? ⟨RB,1,none⟩=some (.int .u64 rv.loc):=qk U 1;have e2:wz.cell? ⟨RB,2,none⟩=some (.int .u64 rv.rem):=qk U 2;have e3:wz.cell? ⟨RB,3,none⟩=some (.int .u64 rv.pend):=qk U 3;have e4:wz.cell? ⟨RB,4,none⟩=some (.bool rv.closed):=qk U 4;obtain⟨-,f1,f2,f3,f4,f5,f6⟩:=k5;clear U nA l6 NR;generalize rv.loc=rl at *
      generalize rv.rem=rm at *
      generalize rv.pend=rp at *
      cases O:rv.closed with
      | false =>
       have hs:=f5 O;rw[O] at e4;have g1:IntKind.u64.wrap (rl+rm)=rl+rm:=qdl (by omega) (by omega);have g2:IntKind.u64.wrap (rl+rm+rp)=d:=by rw[qdl (by omega) (by omega)];exact hs
       clear f5 f6 O hs f1 f2 f3 f4;go_quiet (fail);go_wp2_with fail;go_roundw
       case rel=>exact⟨j+1,by go_num,by omega,qj ((qg f7).trans (Q.upd ⟨_,rfl⟩ _))⟩
       case measure=>simp[intOf];omega
      | true =>
       obtain⟨h1,h2,h3⟩:=f6 O;rw[O] at e4;have g1:IntKind.u64.wrap (rl+rm)=0:=by rw[h1,h2];rfl
       have g2:IntKind.u64.wrap rp=0:=by rw[h3];rfl
       have g3:IntKind.u64.wrap (0+rp)=0:=by rw[h3];rfl
       clear f5 f6 O f1 f2 f3 f4 h1 h2 h3;go_quiet (fail);go_wp2_with fail;go_roundw
       case rel=>exact⟨j+1,by go_num,by omega,qj ((qg f7).trans (Q.upd ⟨_,rfl⟩ _))⟩
       case measure=>simp[intOf];omega
     ·obtain rfl:j=t.length:=by omega
      have HF:=qj (((qg H8).new (qg NR)).mono (show 4*i+3≤4*(i+1) by omega));clear H8 c0 NR;go_wp2_with fail;go_roundw
      case rel=>exact⟨i+1,t,dr',by go_num,rfl,by omega,⟨_,_,rfl⟩,HF⟩
      case measure=>simp[intOf];omega
  ·obtain rfl:i=xs.length:=by omega
   obtain⟨G,I,-,-⟩:=qg H;have k0:=I.total;have k1:=qj ((qg c9).trans I.n0);clear I H HI;go_wp2_with fail;refine k0.mono ?_;rintro e w6 ⟨rfl,n6⟩;go_wp2_with fail;go_ret;exact⟨rfl,(qg k1).trans n6⟩
end Go.Proofs.YtfmkdoachjgjbaaGreatDoor
