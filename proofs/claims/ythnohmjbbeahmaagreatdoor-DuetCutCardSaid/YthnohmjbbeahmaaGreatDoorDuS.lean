/-
  Law 14: setups, preimages; a duet, as New makes it; begin.
-/
import Derived.Test.YthnohmjbbeahmaaGreatDoorMch
import Derived.Test.YthnohmjbbeahmaaGreatDoorMea
set_option linter.unusedVariables false
set_option linter.unusedSimpArgs false
namespace Go.Proofs.YthnohmjbbeahmaaGreatDoor
open Go.RowKit
def qb4(p:Int):List Int:=(p%4)::8::List.replicate 30 0
theorem qex(p:Int):(qb4 p).length=32:=rfl
theorem qh8(p:Int):qa7 (qb4 p):=by
 intro b g;unfold qb4 at g;simp only[List.mem_cons,List.mem_replicate] at g;rcases g with rfl | rfl | ⟨_,rfl⟩<;>omega
section
attribute [local go_sem ↓ high] qaw qan qar
attribute [local go_sem] qde qdn zb
set_option maxRecDepth 100000 in
set_option maxHeartbeats 1000000 in
theorem qf0(p:Int)(z:0≤p∧p≤255)(w:World):Calls Tryz.prog 12 #[.int .u8 p] w (qbf (.agg (qy (qb4 p)).toArray) w):=by
 go_enter Tryz.func12,Tryz.ntmps12;go_upto_region 1 with fail;have g:=qck w qaj qu;have q:qq w (w.alloc (.cells (qy qaj).toArray 33)):=(Upd.refl _ _).alloc _;generalize w.alloc (.cells (qy qaj).toArray 33)=w1 at g q ⊢;obtain⟨B,l⟩:∃B,B=w.heap.size:=⟨_,rfl⟩;rw[←l] at g ⊢;have y:w.heap.size≤B:=by omega
 clear l;have E:p.tmod 4=p%4:=Int.tmod_eq_emod_of_nonneg z.1;have o:=fun W=>zey (p%4) 8 W
 have C:=g.stOk _ (qex p);have v:=qb (g.put _ (qex p));have x:=qb (q.then (qac (w:=w1) (b:=B) (qy (qb4 p))) (fun i D e=>by omega));have m:(p%4::8::List.replicate 30 0)=qb4 p:=rfl;rw[m] at o;clear g q m;generalize qb4 p=K at *
 go_wp2_with fail;have t:=qa v;exact bodyPost_ret (results_cell_row rfl _ _ B _ _ _ _ rfl t.at_ Tryz.underlying33 rfl (by rw[List.size_toArray,qa1,t.len];exact Tryz.infoHsh)) rfl ⟨rfl,qa x⟩
end
theorem zh5(ours cap:Int)(w:World):(qy8 #[(0,.int .u32 3),(1,.int .u64 cap),(2,.int .u64 ours),(3,.agg (qy (qbd 5)).toArray),(4,.string ⟨#[120]⟩),(5,.string ⟨#[121,121]⟩)]).run Tryz.prog w = .ok (.agg (duA ours cap).cells.toArray) w:=run_build w _ _ _ (by kernel_rfl)
theorem zh6(o cap:Int)(w:World):(qy8 #[(0,.int .u32 3),(1,.int .u64 cap),(2,.int .u64 o),(3,.agg (qy (qbd 6)).toArray),(4,.string ⟨#[121,121]⟩),(5,.string ⟨#[120]⟩)]).run Tryz.prog w = .ok (.agg (SetupV.cells ⟨3,cap,o,qbd 6,⟨#[121,121]⟩,⟨#[120]⟩⟩).toArray) w:=run_build w _ _ _ (by kernel_rfl)
theorem zh4(l g m i:Int)(w:World):(zao #[(0,.agg (duA l g).cells.toArray),(1,.agg (SetupV.cells ⟨3,i,m,qbd 6,⟨#[121,121]⟩,⟨#[120]⟩⟩).toArray)]).run Tryz.prog w = .ok (.agg (qkz (duA l g) ⟨3,i,m,qbd 6,⟨#[121,121]⟩,⟨#[120]⟩⟩).toArray) w:=run_build w _ _ _ (by kernel_rfl)
section
attribute [local go_sem ↓ high] qle qlf qgv qgq qaw
attribute [local go_sem] zh4 qtr qro zh5 zh6
set_option maxRecDepth 100000 in
set_option maxHeartbeats 1000000 in
theorem qyp(ours cap:Int)(w:World):Calls Tryz.prog 26 #[.int .u64 ours,.int .u64 cap] w (qbf (.agg (qkz (duA ours cap) (duB ours cap)).toArray) w):=by
 go_enter Tryz.func26,Tryz.ntmps26;go_upto_region 1 with fail;have o:=qi w (.cells quq.toArray 67);have v:qq w (w.alloc (.cells quq.toArray 67)):=(Upd.refl _ _).alloc _;generalize w.alloc (.cells quq.toArray 67)=w1 at o v ⊢;obtain⟨B,m⟩:∃B,B=w.heap.size:=⟨_,rfl⟩;rw[←m] at o ⊢;have H:w.heap.size≤B:=by omega
 clear m;obtain⟨q,l⟩:=qv3 o (s:=duA ours cap) (t:=duB ours cap) rfl rfl;have g:duB ours cap=⟨3,cap,IntKind.u64.wrap (cap-ours),qbd 6,⟨#[121,121]⟩,⟨#[120]⟩⟩:=rfl;have E:=fun W=>q46 5 W
 have F:=fun W=>q46 6 W
 have z:(5:Int)::List.replicate 31 0=qbd 5:=rfl;have C:(6:Int)::List.replicate 31 0=qbd 6:=rfl;rw[z] at E;rw[C] at F;have x:=qb l;have y:=qb (v.then (qac (w:=w1) (b:=B) (qkz (duA ours cap) (duB ours cap))) (fun i I e=>by omega));clear l o v z C;rw[g] at q x y;have D:=qb g;clear g;go_wp2_with fail;have l:=qa x;refine bodyPost_ret (results_cell_row rfl _ _ B _ _ _ _ rfl l.at_ Tryz.underlying67 rfl (by rw[List.size_toArray,qms l.l1 l.l2];exact Tryz.infoSt2)) rfl ?_;rw[qa D];exact⟨rfl,qa y⟩
end
def qek(ours cap:Int):Pr:=⟨Ch.new (duA ours cap),Ch.new (duB ours cap),[],[],false⟩
def q99(cap ours:Int)(m o:SetupV)(A:Nat)(q:World)(l:Value)(wx:World):Prop :=
 ∃p,l = .pointer (some ⟨p,0,none⟩)∧qq q wx∧((∃g i,wx.heap[p]? = some (.cells #[.pointer (some ⟨g,0,none⟩),.pointer (some ⟨i,0,none⟩),.slice none 0 0,.slice none 0 0] 80 (0,0))∧(1≤cap∧cap≤1125899906842624∧ours≤cap)∧ChS wx g (· = g) (Ch.new m)∧ChS wx i (· = i) (Ch.new o)∧A≤g∧g<i∧i<p)∨(∃eb,wx.heap[p]? = some (.cells #[.pointer none,eb,.slice none 0 0,.slice none 0 0] 80 (0,0))∧¬(1≤cap∧cap≤1125899906842624∧ours≤cap)))
theorem zif{w0 w:World}{p l o:Nat}{v x:SetupV}(n:qq w0 w)(t:w.heap[p]? = some (.cells #[.pointer (some ⟨l,0,none⟩),.pointer (some ⟨o,0,none⟩),.slice none 0 0,.slice none 0 0] 80 (0,0)))
  (y:ChS w l (· = l) (Ch.new v)) (z:ChS w o (· = o) (Ch.new x)) (E:w0.heap.size≤l) (F:l<o) (H:o<p):DuD w0 w p (fun b=>b=p∨b=l∨b=o) ⟨Ch.new v,Ch.new x,[],[],false⟩:=by
 have D:=qad t
 refine⟨fun k=>if k=0 then l else o,fun k b=>if k=0 then b=l else b=o,fun _=>qcg,t,?_,fun k i=> ?_,fun k i m C=> ?_,fun b g q=> ?_,fun k i e=> ?_,fun j k I i b g=>by simp[qcg,Value.ownBlock] at g,fun b g=>by simp[qcg,Value.ownBlock] at g,.inl rfl,fun k i b g=> ?_,fun k i b g=>by simp[qcg,Value.ownBlock] at g,fun b g=>by omega,n⟩
 ·intro k i;rcases qbk i with rfl | rfl
  ·exact y
  ·exact z
 ·rcases qbk i with rfl | rfl<;>exact qfk.nil _ _
 ·rcases qbk i with rfl | rfl<;>cases C
 ·have g:b=l:=g;have q:b=o:=q;omega
 ·rcases qbk i with rfl | rfl
  ·have e:p=l:=e;omega
  ·have e:p=o:=e;omega
 ·rcases qbk i with rfl | rfl
  ·exact .inr (.inl g)
  ·exact .inr (.inr g)
section
attribute [local go_sem] zb qlt
attribute [local go_sem ↓ high] qfc
set_option maxRecDepth 100000 in
set_option maxHeartbeats 4000000 in
theorem za5(ours cap:Int)(ho:0≤ours∧ours<18446744073709551616)(hc:0≤cap∧cap<18446744073709551616)(w:World) :
  Calls Tryz.prog 27 #[.agg (duA ours cap).cells.toArray,.agg (duB ours cap).cells.toArray] w fun e w' =>
   (∃p,e = .returned (.pointer (some ⟨p,0,none⟩))∧(1≤cap∧cap≤1125899906842624∧ours≤cap)∧∃S,DuD w w' p S (qek ours cap)) ∨
   (e = .returned (.pointer none)∧¬(1≤cap∧cap≤1125899906842624∧ours≤cap)∧qq w w'):=by
 have o:=zid ho hc
 have q:=zie (ours:=ours) hc
 have I:=@zfe ours cap
 have T:=@zff ours cap ho.1
 have HO:=qb (And.intro ho hc)
 go_enter Tryz.func27,Tryz.ntmps27
 go_upto_region 1 with fail
 have n1:qq w (w.alloc (.cells (duA ours cap).cells.toArray 66)):=(Upd.refl _ _).alloc _
 obtain⟨F,z1⟩:=qc8 (W:=w) rfl (.cells (duA ours cap).cells.toArray 66)
 generalize w.alloc (.cells (duA ours cap).cells.toArray 66)=w1 at n1 F z1 ⊢
 have n2:qq w1 (w1.alloc (.cells (duB ours cap).cells.toArray 66)):=(Upd.refl _ _).alloc _
 obtain⟨y,z2⟩:=qc8 z1 (.cells (duB ours cap).cells.toArray 66)
 generalize w1.alloc (.cells (duB ours cap).cells.toArray 66)=E at n2 y z2 ⊢
 have O:=n2.old F (fun h=>h)
 have nw:=n1.trans n2
 have c5:=nw.size
 generalize w.heap.size+1=B at *
 generalize c2:w.heap.size=A at *
 have rA:=qag O 37 (by rw[List.size_toArray,(duA ours cap).len rfl])
 have rB:=qag y 37 (by rw[List.size_toArray,(duB ours cap).len rfl])
 have nd:qq E E.drew:=(Upd.refl _ _).drew
 have L:zu E.drew A 0 37=some (duA ours cap).cells.toArray∧zu E.drew B 0 37=some (duB ours cap).cells.toArray:=⟨qa6 rA nd (fun h=>h),qa6 rB nd (fun h=>h)⟩
 have NW:=qb nw
 have a5:=qb (And.intro O y)
 have ca:E.heap.size=E.drew.heap.size:=rfl
 have z:=q0v (duA ours cap) o E.drew
 have C:=fun W=>q0v (duB ours cap) q W
 generalize b7:duA ours cap=Y at z L o I rA
 generalize b8:duB ours cap=Z at C L q T rB
 have HS:=qb (And.intro b7 b8)
 have b9:=qb nd
 clear n1 n2 F y z1 z2 O nw b7 b8 nd ca rA rB ho hc
 go_cut [5] from 6 to 13 (fun dv wx=>q99 cap ours Y Z A E dv wx)
 case first =>
  refine qcq (fun w'=>zu w' A 0 37=some Y.cells.toArray∧zu w' B 0 37=some Z.cells.toArray) [2] (.of [0,1,2,3,4,5,6,7]) (by kernel_rfl) (by kernel_rfl) L ?_;simp only[Plan.of];go_wp2_with (with_reducible first|(first|refine' qw1 (qg ?_) ?_|refine' qw2 (qg ?_) ?_|refine' qw3 (qg ?_) ?_);rotate_left|refine' qw4 (qg ?_)|refine' qw5 (qg ?_)|rfl|apply qn);refine z.mono ?_;intro e i h3;have x:qq E.drew i:=by rcases h3 with ⟨-,g,-,-,-,n⟩ | ⟨-,-,n⟩<;>exact n
  have K:zu i A 0 37=some Y.cells.toArray∧zu i B 0 37=some Z.cells.toArray:=⟨qa6 L.1 x (fun h=>h),qa6 L.2 x (fun h=>h)⟩;have H:=C i;have N3:=qb ((qa b9).trans x);rcases h3 with ⟨D,M,rfl,a8,P,-⟩ | ⟨b5,rfl,-⟩
  ·have l:=I.1 D;have a8:E.heap.size≤M:=a8;have a6:=q5a P o D;have c6:M<i.heap.size:=qad P.at_;have HA:=qb a6;clear z C x P L a6;go_wp2_with (first | (with_reducible first|(first|refine' qw1 (qg ?_) ?_|refine' qw2 (qg ?_) ?_|refine' qw3 (qg ?_) ?_);rotate_left|refine' qw4 (qg ?_)|refine' qw5 (qg ?_)|rfl|apply qn) | refine⟨K,?_⟩);refine H.mono ?_;intro e v h4;rcases h4 with ⟨U,N,rfl,c7,R,t⟩ | ⟨b6,-,-⟩
   ·have c4:zu v A 0 37=some Y.cells.toArray∧zu v B 0 37=some Z.cells.toArray:=⟨qa6 K.1 t (fun h=>h),qa6 K.2 t (fun h=>h)⟩;have a7:=q5a R q U;have a9:N<v.heap.size:=qad R.at_;have X:qq v (v.alloc (.cells #[.pointer (some ⟨M,0,none⟩),.pointer (some ⟨N,0,none⟩),.slice none 0 0,.slice none 0 0] 80)):=(Upd.refl _ _).alloc _;have m:Hid (q99 cap ours Y Z A E (.pointer (some ⟨v.heap.size,0,none⟩)) (v.alloc (.cells #[.pointer (some ⟨M,0,none⟩),.pointer (some ⟨N,0,none⟩),.slice none 0 0,.slice none 0 0] 80))) :=
     qb ⟨_,rfl,((qa N3).trans t).trans X,.inl ⟨M,N,qi _ _,l,((qa HA).new t).new X,a7.new X,by omega,by omega,a9⟩⟩
    clear X a7 R t K H HA;go_wp2_with (first | (with_reducible first|(first|refine' qw1 (qg ?_) ?_|refine' qw2 (qg ?_) ?_|refine' qw3 (qg ?_) ?_);rotate_left|refine' qw4 (qg ?_)|refine' qw5 (qg ?_)|rfl|apply qn) | refine⟨c4,?_⟩);go_meet
    case rel=>exact qa m
   ·exact absurd (T l) b6
  ·have J:=fun h=>b5 (I.2 h)
   clear z C x L;go_wp2_with (first | (with_reducible first|(first|refine' qw1 (qg ?_) ?_|refine' qw2 (qg ?_) ?_|refine' qw3 (qg ?_) ?_);rotate_left|refine' qw4 (qg ?_)|refine' qw5 (qg ?_)|rfl|apply qn) | refine⟨K,?_⟩);refine H.mono ?_;intro e v h4;obtain⟨eb,rfl,t⟩:∃eb,e = .returned (.pointer eb)∧qq i v:=by
    rcases h4 with ⟨-,N,rfl,-,-,t⟩ | ⟨-,rfl,t⟩
    ·exact⟨_,rfl,t⟩
    ·exact⟨_,rfl,t⟩
   have c4:zu v A 0 37=some Y.cells.toArray∧zu v B 0 37=some Z.cells.toArray:=⟨qa6 K.1 t (fun h=>h),qa6 K.2 t (fun h=>h)⟩;have X:qq v (v.alloc (.cells #[.pointer none,.pointer eb,.slice none 0 0,.slice none 0 0] 80)):=(Upd.refl _ _).alloc _;have m:=qb (And.intro (((qa N3).trans t).trans X) (qi v (.cells #[.pointer none,.pointer eb,.slice none 0 0,.slice none 0 0] 80)));clear X t K H;go_wp2_with (first | (with_reducible first|(first|refine' qw1 (qg ?_) ?_|refine' qw2 (qg ?_) ?_|refine' qw3 (qg ?_) ?_);rotate_left|refine' qw4 (qg ?_)|refine' qw5 (qg ?_)|rfl|apply qn) | refine⟨c4,?_⟩);go_meet
   case rel=>exact⟨_,rfl,(qa m).1,.inr ⟨_,(qa m).2,J⟩⟩
 case rest =>
  obtain⟨p,rfl,x,hrel⟩:=hcut;obtain⟨i,rfl⟩:∃i:World,i=wc:=⟨_,rfl⟩;clear z C L I T o q;rcases hrel with ⟨M,N,V,l,hA,hB,z1,z2,z3⟩ | ⟨eb,V,J⟩
  ·have c0:i.cell? ⟨p,0,none⟩=some (.pointer (some ⟨M,0,none⟩)):=qh V 0;have c1:i.cell? ⟨p,1,none⟩=some (.pointer (some ⟨N,0,none⟩)):=qh V 1;have F:=x.old (qa a5).1 (fun h=>h);have y:=x.old (qa a5).2 (fun h=>h);have a0:i.cell? ⟨A,0,none⟩=some (.int .u32 3):=qh F 0;have a1:i.cell? ⟨A,1,none⟩=some (.int .u64 cap):=qh F 1;have a2:i.cell? ⟨A,2,none⟩=some (.int .u64 ours):=qh F 2;have a3:i.cell? ⟨A,35,none⟩=some (.string ⟨#[120]⟩):=qh F 35;have a4:i.cell? ⟨A,36,none⟩=some (.string ⟨#[121,121]⟩):=qh F 36;have b0:i.cell? ⟨B,0,none⟩=some (.int .u32 3):=qh y 0;have b1:i.cell? ⟨B,1,none⟩=some (.int .u64 cap):=qh y 1;have b2:i.cell? ⟨B,2,none⟩=some (.int .u64 (cap-ours)):=by
    have e:i.cell? ⟨B,2,none⟩=some (.int .u64 (IntKind.u64.wrap (cap-ours))):=qh y 2;rw[e,qdq (by omega) (by have:=(qa HO).1.1;omega)]
   have b3:i.cell? ⟨B,35,none⟩=some (.string ⟨#[121,121]⟩):=qh y 35;have b4:i.cell? ⟨B,36,none⟩=some (.string ⟨#[120]⟩):=qh y 36;have c8:IntKind.u64.wrap (ours+(cap-ours))=cap:=by rw[qdq (by omega) (by omega)];omega
   have HD:=qb (zif ((qa NW).trans x) V hA hB (by omega) z2 z3);have HY:=qb l;clear F y V hA hB x l z1 z2 z3 c5 c2;go_wp2_with (with_reducible first|(first|refine' zi (qg ?_) ?_|refine' zj (qg ?_) ?_);rotate_left|refine' zk (qg ?_)|rfl|apply tn|refine' zl ?_);go_ret;refine .inl ⟨p,rfl,qa HY,(fun b=>b=p∨b=M∨b=N),?_⟩;rw[←(qa HS).1,←(qa HS).2] at HD;exact qa HD
  ·have c0:i.cell? ⟨p,0,none⟩=some (.pointer none):=qh V 0;have HN:=qb (And.intro J ((qa NW).trans x));clear V J x;go_wp2_with (with_reducible first|(first|refine' zi (qg ?_) ?_|refine' zj (qg ?_) ?_);rotate_left|refine' zk (qg ?_)|rfl|apply tn|refine' zl ?_);go_ret;exact .inr ⟨rfl,(qa HN).1,(qa HN).2⟩
end
theorem qfk.le{w:World}{B l:Nat}{v:Value}{L:List MsgV}(h:qfk w B v L)(t:l≤B):qfk w l v L:=by
 rcases h with h | ⟨g,o,cap,i,e,q,m⟩
 ·exact .inl h
 ·exact .inr ⟨g,o,cap,i,e,by omega,m⟩
theorem DuD.base{w w1 w':World}{p:Nat}{S:Nat→Prop}{P:Pr}(h:DuD w1 w' p S P)(n:qq w w1):DuD w w' p S P:=by
 have z:=n.size;obtain⟨g,T,u,h⟩:=h;exact⟨g,T,u,h.at_,h.en,fun k l=>(h.row k l).le z,h.ok,h.sep,h.pT,h.uT,h.usep,h.pS,h.tS,h.uS,fun b i=>⟨by have:=(h.lt b i).1;omega,(h.lt b i).2⟩,n.trans h.n⟩
section
attribute [local go_sem ↓ high] qgv qgq qfc
attribute [local go_sem] zb qtr qro qlt
set_option maxRecDepth 100000 in
set_option maxHeartbeats 2000000 in
theorem qer(ours cap:Int)(N:0≤ours∧ours<18446744073709551616)(M:0≤cap∧cap<18446744073709551616)(w:World) :
  Calls Tryz.prog 9 #[.int .u64 ours,.int .u64 cap] w fun e w' =>
   (∃p,e = .returned (.pointer (some ⟨p,0,none⟩))∧(1≤cap∧cap≤1125899906842624∧ours≤cap)∧∃S,DuD w w' p S (qek ours cap)) ∨
   (e = .returned (.pointer none)∧¬(1≤cap∧cap≤1125899906842624∧ours≤cap)∧qq w w'):=by
 have q:=fun W=>za5 ours cap N M W
 have t:=qyp ours cap w
 obtain⟨m,o⟩:(duA ours cap).seed.length=32∧(duB ours cap).seed.length=32:=⟨rfl,rfl⟩
 generalize duA ours cap=I at q t m
 generalize duB ours cap=J at q t o
 go_enter Tryz.func9,Tryz.ntmps9
 go_wp2_with fail
 refine t.mono ?_
 rintro e w1 ⟨rfl,D⟩
 obtain⟨C,l⟩:=qv3 (qi w1 (.cells quq.toArray 67)) m o
 have E:qq w ((w1.alloc (.cells quq.toArray 67)).setCells w1.heap.size 0 (qkz I J)):=(D.alloc _).then (qac _) (fun i R e=>by have:=D.size;omega)
 clear D t
 go_upto_region 2 with fail
 generalize (w1.alloc (.cells quq.toArray 67)).setCells w1.heap.size 0 (qkz I J)=U at l E ⊢
 generalize w1.heap.size=T at l ⊢
 clear C w1
 have O:=l.row0
 have P:=l.row1
 have F:=qb E
 clear l E
 go_wp2_with fail
 refine(q _).mono ?_
 intro e K H
 have z:(∃p,e = .returned (.pointer (some ⟨p,0,none⟩))∧(1≤cap∧cap≤1125899906842624∧ours≤cap)∧∃S,DuD w K p S (qek ours cap))∨(e = .returned (.pointer none)∧¬(1≤cap∧cap≤1125899906842624∧ours≤cap)∧qq w K):=by
  rcases H with ⟨p,g,x,S,y⟩ | ⟨g,x,y⟩
  ·exact .inl ⟨p,g,x,S,y.base ((qa F).trans ((Upd.refl _ _)))⟩
  ·exact .inr ⟨g,x,(qa F).trans y⟩
 clear H q O P
 obtain⟨v,rfl⟩:∃v,e = .returned v:=by
  rcases z with ⟨p,g,-⟩ | ⟨g,-⟩
  ·exact⟨_,g⟩
  ·exact⟨_,g⟩
 have L:=qb z
 clear z
 go_wp2_with fail
 go_ret
 exact qa L
end
end Go.Proofs.YthnohmjbbeahmaaGreatDoor
