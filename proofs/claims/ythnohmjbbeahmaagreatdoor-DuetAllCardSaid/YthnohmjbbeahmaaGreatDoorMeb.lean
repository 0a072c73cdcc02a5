/-
  A duet: Offer.
-/
import Derived.Test.YthnohmjbbeahmaaGreatDoorMea
import Derived.Test.YthnohmjbbeahmaaGreatDoorMda
set_option linter.unusedVariables false
set_option linter.unusedSimpArgs false
namespace Go.Proofs.YthnohmjbbeahmaaGreatDoor
open Go.RowKit
attribute [local go_sem ↓ high] zy qak qaq qat zr zu zw zx
attribute [local go_sem] qcl qdb qdn zb qb3 qb9 qcf qbg
abbrev q41(g i l:Nat)(N:Int)(m:List Int)(ex:Int)(w:World):Prop:=w.cell? ⟨g,0,none⟩=some (.int .u64 N)∧zm w i 0 32=some (qx m).toArray∧w.cell? ⟨l,0,none⟩=some (.int .i64 ex)
set_option maxRecDepth 100000 in
set_option maxHeartbeats 2000000 in
theorem qyj{w0 w:World}{p:Nat}{S:Nat→Prop}{P:Pr}{g:Nat→Nat}{T:Nat→Nat→Prop}{u:Nat→Value}(hT:Tb w0)(R:DuP w0 w p S P g T u)(k:Int)(kk:Nat)(I:sd k=kk)(N ex:Int)(i:List Int)(b5 b6 v z C:Nat)
  (c5:w.cell? ⟨b5,0,none⟩=some (.pointer (some ⟨p,0,none⟩))) (c6:w.cell? ⟨b6,0,none⟩=some (.int .i64 k)) (K:q41 v z C N i ex w) (hl:i.length=32)
  (U:MsgOk ((P.en kk).offer N (qbm i) ex).2.1)
  (L:∀W,qu w W→Calls Tryz.prog 30 #[.pointer (some ⟨g kk,0,none⟩),.int .u64 N,.agg (qx i).toArray,.int .i64 ex] W fun e w' =>
   e = .returned (.tuple #[.agg ((P.en kk).offer N (qbm i) ex).2.1.cells.toArray,.int .i64 ((P.en kk).offer N (qbm i) ex).2.2])∧DSt w0 W p S w' (P.set kk ((P.en kk).offer N (qbm i) ex).1)) :
  Calls Tryz.prog 29 #[.pointer (some ⟨b5,0,none⟩),.pointer (some ⟨b6,0,none⟩),.pointer (some ⟨v,0,none⟩),.pointer (some ⟨z,0,none⟩),.pointer (some ⟨C,0,none⟩)] w fun e w' =>
   e = .returned (.tuple #[.agg ((P.en kk).offer N (qbm i) ex).2.1.cells.toArray,.int .i64 ((P.en kk).offer N (qbm i) ex).2.2])∧DSt w0 w p S w' (P.set kk ((P.en kk).offer N (qbm i) ex).1):=by
 have hk:kk<2:=I▸qkf k
 generalize hr:(P.en kk).offer N (qbm i) ex=r at *
 have o:=U.len
 have hs:=fun W (n:qu w W)=>qnb (R.new n) k kk I
 have H:=qb (show DuD w0 w p S P from⟨g,T,u,R⟩)
 have b0:=qbx w MsgV.zero qs
 have l:qu w (w.alloc (.cells MsgV.zero.cells.toArray 71)):=(Upd.refl _ _).alloc _
 go_enter Tryz.func29,Tryz.ntmps29
 go_upto_region 1 with (with_reducible first|(first|refine' tw1 (qg ?_) ?_|refine' tw2 (qg ?_) ?_);rotate_left|refine' tw3 (qg ?_)|rfl|apply tn|refine' tw4 ?_)
 generalize w.alloc (.cells MsgV.zero.cells.toArray 71)=w1 at b0 l ⊢
 obtain⟨B,hB⟩:∃B,B=w.heap.size:=⟨_,rfl⟩
 rw[←hB] at b0 ⊢
 have F:¬S B:=fun e=>by have:=((qa H).lt B e).2;omega
 have a5:=b0.lt
 have a6:w.heap.size≤B:=by omega
 have d5:=l.cell c5 (fun h=>h)
 have d6:=l.cell c6 (fun h=>h)
 have D:q41 v z C N i ex w1.drew:=⟨l.cell K.1 (fun h=>h),qa9 K.2.1 l.drew (fun h=>h),l.cell K.2.2 (fun h=>h)⟩
 have J:=hs w1.drew l.drew
 have N1:=qb l
 have B0:=qb b0
 generalize g kk=ge at *
 clear hs hB R c5 c6 K l b0 hr
 refine qc7 (q41 v z C N i ex) [3,4,5] (.of [0,1,2,3,4,5,6,7,8,9,10]) (by kernel_rfl) (by kernel_rfl) D ?_
 simp only[Plan.of]
 go_wp2_with (with_reducible first|(first|refine' qw1 (qg ?_) ?_|refine' qw2 (qg ?_) ?_|refine' qw3 (qg ?_) ?_);rotate_left|refine' qw4 (qg ?_)|refine' qw5 (qg ?_)|rfl|apply qn)
 refine J.mono ?_
 rintro e Y ⟨rfl,q⟩
 have c2:q41 v z C N i ex Y:=⟨q.cell D.1,qa9 D.2.1 (q.upd (fun _=>False)) (fun h=>h),q.cell D.2.2⟩
 have V:qu w Y:=((qa N1).drew).trans (q.upd _)
 have L:=L Y V
 have B2:=qb (((qa B0).new ((Upd.refl (fun _=>False) w1).drew)).new (q.upd _))
 have N2:=qb V
 have a4:=(qa B2).lt
 clear J q d5 d6 D V
 go_wp2_with (first | (with_reducible first|(first|refine' qw1 (qg ?_) ?_|refine' qw2 (qg ?_) ?_|refine' qw3 (qg ?_) ?_);rotate_left|refine' qw4 (qg ?_)|refine' qw5 (qg ?_)|rfl|apply qn) | refine⟨c2,?_⟩)
 refine L.mono ?_
 rintro e Z ⟨rfl,E⟩
 have M:=(qa B2).upd E.2 F
 have stB:=M.stOk o
 have BF:=M.put o
 have X:Upd (· = B) Z (Z.setCells B 0 r.2.1.cells):=zz _
 have a8:=E.2.size
 have m:DSt w0 w p S (Z.setCells B 0 r.2.1.cells) (P.set kk r.1):=by
  have a7:=(qa H).n.size;refine DSt.fin (qa H) (E.1.upd X (fun b e=> ?_)) ?_ ?_
  ·subst e;refine⟨?_,by omega⟩;rintro (e | e)
   ·exact F e
   ·omega
  ·rintro b (e | e)
   ·exact .inl e
   ·have:=(qa N2).size;exact .inr (by omega)
  ·refine((qa N2).mono (fun _ _ h=>h.elim)).trans ((E.2.mono (fun _ _ h=> .inl h)).trans (X.mono ?_));rintro b hb rfl;exact .inr (by omega)
 have t:=qb m
 have O:=qb BF
 clear L E M BF X m c2
 go_wp2_with (with_reducible first|(first|refine' qw1 (qg ?_) ?_|refine' qw2 (qg ?_) ?_|refine' qw3 (qg ?_) ?_);rotate_left|refine' qw4 (qg ?_)|refine' qw5 (qg ?_)|rfl|apply qn)
 refine bodyPost_ret (qq rfl _ _ B _ _ _ _ rfl (qa O).at_ Tryz.underlying71 rfl (by rw[List.size_toArray,r.2.1.len o];exact Tryz.infoMsg)) rfl ?_
 exact⟨rfl,qa t⟩
theorem qc3{W:World}{n:Nat}(g:W.heap.size=n)(o:Obj):(W.alloc o).heap[n]? = some o∧(W.alloc o).heap.size=n+1:=by
 subst g;exact⟨qi W o,World.size_alloc _ _⟩
set_option maxRecDepth 100000 in
set_option maxHeartbeats 2000000 in
theorem qq8{w0 w:World}{p:Nat}{S:Nat→Prop}{P:Pr}(hT:Tb w0)(h:DuD w0 w p S P)(k:Int)(kk:Nat)(I:sd k=kk)(N ex:Int)(i:List Int)(hl:i.length=32)(hb:qal i)(hn:0≤N∧N<18446744073709551616)(hx : -9223372036854775808≤ex∧ex≤9223372036854775807)
  (E:(P.en kk).news.length<1000000∧(P.en kk).xs.length<1000000) (m:MsgOk ((P.en kk).offer N (qbm i) ex).2.1) (V:(P.way (1-kk)).length<1000000) :
  Calls Tryz.prog 10 #[.pointer (some ⟨p,0,none⟩),.int .i64 k,.int .u64 N,.agg (qx i).toArray,.int .i64 ex] w fun e w' =>
   e = .returned (.tuple #[.int .u64 (qo2 ((P.en kk).offer N (qbm i) ex)).id,.int .i64 ((P.en kk).offer N (qbm i) ex).2.2])∧DSt w0 w p S w' (P.act kk ((P.en kk).offer N (qbm i) ex)):=by
 have hk:kk<2:=I▸qkf k
 have H:=qb h
 have a4:(qx i).length=32:=by rw[qa0,hl]
 obtain⟨g,T,u,hD⟩:=h
 have l:∀(W:World) (n:qu w W) (q t v C D:Nat) (R:W.cell? ⟨q,0,none⟩=some (.pointer (some ⟨p,0,none⟩))) (U:W.cell? ⟨t,0,none⟩=some (.int .i64 k)) (F:q41 v C D N i ex W),_:=fun W n q t v C D R U F=>qna ((qa H).new n) k kk I 29 #[] #[.pointer (some ⟨q,0,none⟩),.pointer (some ⟨t,0,none⟩),.pointer (some ⟨v,0,none⟩),.pointer (some ⟨C,0,none⟩),.pointer (some ⟨D,0,none⟩)] (enters_of Tryz.func29 (by kernel_rfl) rfl) ((P.en kk).offer N (qbm i) ex) m V (fun W' J=>qyj hT (hD.new (n.trans J)) k kk I N ex i q t v C D (J.cell R (fun h=>h)) (J.cell U (fun h=>h)) ⟨J.cell F.1 (fun h=>h),qa9 F.2.1 J (fun h=>h),J.cell F.2.2 (fun h=>h)⟩ hl m (fun W2 L=>by
  obtain⟨e1,e2,e3,e4⟩:=(hD.new ((n.trans J).trans L)).opE hT hk;exact(q2p _ _ _ N i ex W2 e1 hl hb hn hx E).mono fun e w' he=>⟨he.1,e4 _ _ he.2.1 he.2.2⟩))
 have hM:=qn6 m
 generalize P.act kk ((P.en kk).offer N (qbm i) ex)=P' at l ⊢
 generalize qo2 ((P.en kk).offer N (qbm i) ex)=M at l hM ⊢
 generalize (P.en kk).offer N (qbm i) ex=r at l ⊢
 have o:=qb l
 have a6:=qe4
 clear l hD m V E hb hn hx
 go_enter Tryz.func10,Tryz.ntmps10
 go_upto_region 1 with (with_reducible first|(first|refine' tw1 (qg ?_) ?_|refine' tw2 (qg ?_) ?_);rotate_left|refine' tw3 (qg ?_)|rfl|apply tn|refine' tw4 ?_)
 have n1:qu w (w.alloc (.cells #[.pointer (some ⟨p,0,none⟩)] 25)):=(Upd.refl _ _).alloc _
 obtain⟨q,z1⟩:=qc3 (W:=w) rfl (.cells #[.pointer (some ⟨p,0,none⟩)] 25)
 generalize w.alloc (.cells #[.pointer (some ⟨p,0,none⟩)] 25)=w1 at n1 q z1 ⊢
 have L:qu w1 (w1.alloc (.cells #[.int .i64 k] 3)):=(Upd.refl _ _).alloc _
 obtain⟨t,z2⟩:=qc3 z1 (.cells #[.int .i64 k] 3)
 generalize w1.alloc (.cells #[.int .i64 k] 3)=w2 at L t z2 ⊢
 have X:qu w2 (w2.alloc (.cells #[.int .u64 N] 27)):=(Upd.refl _ _).alloc _
 obtain⟨v,z3⟩:=qc3 z2 (.cells #[.int .u64 N] 27)
 generalize w2.alloc (.cells #[.int .u64 N] 27)=w3 at X v z3 ⊢
 have O:qu w3 (w3.alloc (.cells (qx i).toArray 33)):=(Upd.refl _ _).alloc _
 obtain⟨C,z4⟩:=qc3 z3 (.cells (qx i).toArray 33)
 generalize w3.alloc (.cells (qx i).toArray 33)=w4 at O C z4 ⊢
 have K:qu w4 (w4.alloc (.cells #[.int .i64 ex] 3)):=(Upd.refl _ _).alloc _
 obtain⟨D,z5⟩:=qc3 z4 (.cells #[.int .i64 ex] 3)
 generalize w4.alloc (.cells #[.int .i64 ex] 3)=Y at K D z5 ⊢
 have R:Y.cell? ⟨w.heap.size,0,none⟩=some (.pointer (some ⟨p,0,none⟩)):=(((L.trans X).trans O).trans K).cell (qh q 0) (fun h=>h)
 have U:Y.cell? ⟨w.heap.size+1,0,none⟩=some (.int .i64 k):=((X.trans O).trans K).cell (qh t 0) (fun h=>h)
 have F:q41 (w.heap.size+1+1) (w.heap.size+1+1+1) (w.heap.size+1+1+1+1) N i ex Y:=⟨(O.trans K).cell (qh v 0) (fun h=>h),qa9 (qad C 32 (by rw[List.size_toArray,a4])) K (fun h=>h),qh D 0⟩
 have nw:=(((n1.trans L).trans X).trans O).trans K
 have hs:=qa o Y nw _ _ _ _ _ R U F
 have NW:=qb nw
 clear n1 L X O K q t v C D z1 z2 z3 z4 z5 nw F o
 generalize w.heap.size=z at *
 go_wp2_with (with_reducible first|(first|refine' tw1 (qg ?_) ?_|refine' tw2 (qg ?_) ?_);rotate_left|refine' tw3 (qg ?_)|rfl|apply tn|refine' tw4 ?_)
 refine hs.mono ?_
 rintro e Z ⟨rfl,h2⟩
 obtain⟨a5,hA,nA⟩:=qhq Z M hM
 have HF:=qb ((DSt.after (qa H) (qa NW) h2).then (qa H).n.size (qa H).lt nA)
 have HA:=qb hA
 clear hs h2 hA nA NW R U
 go_upto_region 2 with (with_reducible first|(first|refine' tw1 (qg ?_) ?_|refine' tw2 (qg ?_) ?_);rotate_left|refine' tw3 (qg ?_)|rfl|apply tn|refine' tw4 ?_)
 change Code.wp _ _ _ _ (qh8 Z M)
 generalize qh8 Z M=wB at HF HA ⊢
 generalize Z.heap.size=A at HA ⊢
 have ci:=(qa HA).cells.2.2.1
 clear a5
 go_wp2_with (with_reducible first|(first|refine' tw1 (qg ?_) ?_|refine' tw2 (qg ?_) ?_);rotate_left|refine' tw3 (qg ?_)|rfl|apply tn|refine' tw4 ?_)
 go_ret2
 exact⟨rfl,qa HF⟩
end Go.Proofs.YthnohmjbbeahmaaGreatDoor
namespace Go.Proofs.YthnohmjbbeahmaaGreatDoor
open Go.RowKit
def qdt(p:Int):List Int:=(p%4)::8::List.replicate 30 0
theorem qfz(p:Int):(qdt p).length=32:=rfl
theorem qhs(p:Int):qal (qdt p):=by
 intro b g;unfold qdt at g;simp only[List.mem_cons,List.mem_replicate] at g;rcases g with rfl | rfl | ⟨_,rfl⟩<;>omega
section
attribute [local go_sem ↓ high] qat qak qaq
attribute [local go_sem] qdb qdn zb
set_option maxRecDepth 100000 in
set_option maxHeartbeats 1000000 in
theorem qld(p:Int)(D:0≤p∧p≤255)(w:World):Calls Tryz.prog 12 #[.int .u8 p] w (qbr (.agg (qx (qdt p)).toArray) w):=by
 go_enter Tryz.func12,Tryz.ntmps12;go_upto_region 1 with fail;have g:=qch w zv qs;have q:qu w (w.alloc (.cells (qx zv).toArray 33)):=(Upd.refl _ _).alloc _;generalize w.alloc (.cells (qx zv).toArray 33)=w1 at g q ⊢;obtain⟨B,l⟩:∃B,B=w.heap.size:=⟨_,rfl⟩;rw[←l] at g ⊢;have C:w.heap.size≤B:=by omega
 clear l;have H:p.tmod 4=p%4:=Int.tmod_eq_emod_of_nonneg D.1;have o:=fun W=>zc8 (p%4) 8 W
 have E:=g.stOk _ (qfz p);have v:=qb (g.put _ (qfz p));have z:=qb (q.then (zz (w:=w1) (b:=B) (qx (qdt p))) (fun i F e=>by omega));have m:(p%4::8::List.replicate 30 0)=qdt p:=rfl;rw[m] at o;clear g q m;generalize qdt p=K at *
 go_wp2_with fail;have t:=qa v;exact bodyPost_ret (results_cell_row rfl _ _ B _ _ _ _ rfl t.at_ Tryz.underlying33 rfl (by rw[List.size_toArray,qa0,t.len];exact Tryz.infoHsh)) rfl ⟨rfl,qa z⟩
end
theorem zgb(ours cap:Int)(w:World):(qx1 #[(0,.int .u32 3),(1,.int .u64 cap),(2,.int .u64 ours),(3,.agg (qx (zn 5)).toArray),(4,.string ⟨#[120]⟩),(5,.string ⟨#[121,121]⟩)]).run Tryz.prog w = .ok (.agg (duA ours cap).cells.toArray) w:=run_build w _ _ _ (by kernel_rfl)
theorem zgc(o cap:Int)(w:World):(qx1 #[(0,.int .u32 3),(1,.int .u64 cap),(2,.int .u64 o),(3,.agg (qx (zn 6)).toArray),(4,.string ⟨#[121,121]⟩),(5,.string ⟨#[120]⟩)]).run Tryz.prog w = .ok (.agg (SetupV.cells ⟨3,cap,o,zn 6,⟨#[121,121]⟩,⟨#[120]⟩⟩).toArray) w:=run_build w _ _ _ (by kernel_rfl)
theorem zga(l g m i:Int)(w:World):(q8y #[(0,.agg (duA l g).cells.toArray),(1,.agg (SetupV.cells ⟨3,i,m,zn 6,⟨#[121,121]⟩,⟨#[120]⟩⟩).toArray)]).run Tryz.prog w = .ok (.agg (qkg (duA l g) ⟨3,i,m,zn 6,⟨#[121,121]⟩,⟨#[120]⟩⟩).toArray) w:=run_build w _ _ _ (by kernel_rfl)
section
attribute [local go_sem ↓ high] qku qkv qgr qgp qat
attribute [local go_sem] zga qsz qqz zgb zgc
set_option maxRecDepth 100000 in
set_option maxHeartbeats 1000000 in
theorem qxh(ours cap:Int)(w:World):Calls Tryz.prog 26 #[.int .u64 ours,.int .u64 cap] w (qbr (.agg (qkg (duA ours cap) (duB ours cap)).toArray) w):=by
 go_enter Tryz.func26,Tryz.ntmps26;go_upto_region 1 with fail;have o:=qi w (.cells qts.toArray 67);have v:qu w (w.alloc (.cells qts.toArray 67)):=(Upd.refl _ _).alloc _;generalize w.alloc (.cells qts.toArray 67)=w1 at o v ⊢;obtain⟨B,m⟩:∃B,B=w.heap.size:=⟨_,rfl⟩;rw[←m] at o ⊢;have J:w.heap.size≤B:=by omega
 clear m;obtain⟨q,l⟩:=qu1 o (s:=duA ours cap) (t:=duB ours cap) rfl rfl;have g:duB ours cap=⟨3,cap,IntKind.u64.wrap (cap-ours),zn 6,⟨#[121,121]⟩,⟨#[120]⟩⟩:=rfl;have H:=fun W=>q3t 5 W
 have I:=fun W=>q3t 6 W
 have D:(5:Int)::List.replicate 31 0=zn 5:=rfl;have E:(6:Int)::List.replicate 31 0=zn 6:=rfl;rw[D] at H;rw[E] at I;have z:=qb l;have C:=qb (v.then (zz (w:=w1) (b:=B) (qkg (duA ours cap) (duB ours cap))) (fun i K e=>by omega));clear l o v D E;rw[g] at q z C;have F:=qb g;clear g;go_wp2_with fail;have l:=qa z;refine bodyPost_ret (results_cell_row rfl _ _ B _ _ _ _ rfl l.at_ Tryz.underlying67 rfl (by rw[List.size_toArray,ql2 l.l1 l.l2];exact Tryz.infoSt2)) rfl ?_;rw[qa F];exact⟨rfl,qa C⟩
end
def qws(ours cap:Int):Pr:=⟨Ch.new (duA ours cap),Ch.new (duB ours cap),[],[],false⟩
def q8j(cap ours:Int)(m o:SetupV)(A:Nat)(q:World)(l:Value)(wx:World):Prop :=
 ∃p,l = .pointer (some ⟨p,0,none⟩)∧qu q wx∧((∃g i,wx.heap[p]? = some (.cells #[.pointer (some ⟨g,0,none⟩),.pointer (some ⟨i,0,none⟩),.slice none 0 0,.slice none 0 0] 80 (0,0))∧(1≤cap∧cap≤1125899906842624∧ours≤cap)∧ChS wx g (· = g) (Ch.new m)∧ChS wx i (· = i) (Ch.new o)∧A≤g∧g<i∧i<p)∨(∃eb,wx.heap[p]? = some (.cells #[.pointer none,eb,.slice none 0 0,.slice none 0 0] 80 (0,0))∧¬(1≤cap∧cap≤1125899906842624∧ours≤cap)))
theorem zgl{w0 w:World}{p l o:Nat}{v z:SetupV}(n:qu w0 w)(t:w.heap[p]? = some (.cells #[.pointer (some ⟨l,0,none⟩),.pointer (some ⟨o,0,none⟩),.slice none 0 0,.slice none 0 0] 80 (0,0)))
  (C:ChS w l (· = l) (Ch.new v)) (D:ChS w o (· = o) (Ch.new z)) (H:w0.heap.size≤l) (I:l<o) (J:o<p):DuD w0 w p (fun b=>b=p∨b=l∨b=o) ⟨Ch.new v,Ch.new z,[],[],false⟩:=by
 have F:=z6 t
 refine⟨fun k=>if k=0 then l else o,fun k b=>if k=0 then b=l else b=o,fun _=>qcd,t,?_,fun k i=> ?_,fun k i m E=> ?_,fun b g q=> ?_,fun k i e=> ?_,fun j k K i b g=>by simp[qcd,Value.ownBlock] at g,fun b g=>by simp[qcd,Value.ownBlock] at g,.inl rfl,fun k i b g=> ?_,fun k i b g=>by simp[qcd,Value.ownBlock] at g,fun b g=>by omega,n⟩
 ·intro k i;rcases qb1 i with rfl | rfl
  ·exact C
  ·exact D
 ·rcases qb1 i with rfl | rfl<;>exact qfh.nil _ _
 ·rcases qb1 i with rfl | rfl<;>cases E
 ·have g:b=l:=g;have q:b=o:=q;omega
 ·rcases qb1 i with rfl | rfl
  ·have e:p=l:=e;omega
  ·have e:p=o:=e;omega
 ·rcases qb1 i with rfl | rfl
  ·exact .inr (.inl g)
  ·exact .inr (.inr g)
section
attribute [local go_sem] zb qk8
attribute [local go_sem ↓ high] qfa
set_option maxRecDepth 100000 in
set_option maxHeartbeats 4000000 in
theorem q9h(ours cap:Int)(ho:0≤ours∧ours<18446744073709551616)(hc:0≤cap∧cap<18446744073709551616)(w:World) :
  Calls Tryz.prog 27 #[.agg (duA ours cap).cells.toArray,.agg (duB ours cap).cells.toArray] w fun e w' =>
   (∃p,e = .returned (.pointer (some ⟨p,0,none⟩))∧(1≤cap∧cap≤1125899906842624∧ours≤cap)∧∃S,DuD w w' p S (qws ours cap)) ∨
   (e = .returned (.pointer none)∧¬(1≤cap∧cap≤1125899906842624∧ours≤cap)∧qu w w'):=by
 have o:=zgj ho hc
 have q:=zgk (ours:=ours) hc
 have K:=@zdn ours cap
 have V:=@zdo ours cap ho.1
 have HO:=qb (And.intro ho hc)
 go_enter Tryz.func27,Tryz.ntmps27
 go_upto_region 1 with fail
 have n1:qu w (w.alloc (.cells (duA ours cap).cells.toArray 66)):=(Upd.refl _ _).alloc _
 obtain⟨I,z1⟩:=qc3 (W:=w) rfl (.cells (duA ours cap).cells.toArray 66)
 generalize w.alloc (.cells (duA ours cap).cells.toArray 66)=w1 at n1 I z1 ⊢
 have n2:qu w1 (w1.alloc (.cells (duB ours cap).cells.toArray 66)):=(Upd.refl _ _).alloc _
 obtain⟨C,z2⟩:=qc3 z1 (.cells (duB ours cap).cells.toArray 66)
 generalize w1.alloc (.cells (duB ours cap).cells.toArray 66)=H at n2 C z2 ⊢
 have R:=n2.old I (fun h=>h)
 have nw:=n1.trans n2
 have c5:=nw.size
 generalize w.heap.size+1=B at *
 generalize c2:w.heap.size=A at *
 have rA:=qad R 37 (by rw[List.size_toArray,(duA ours cap).len rfl])
 have rB:=qad C 37 (by rw[List.size_toArray,(duB ours cap).len rfl])
 have nd:qu H H.drew:=(Upd.refl _ _).drew
 have N:zm H.drew A 0 37=some (duA ours cap).cells.toArray∧zm H.drew B 0 37=some (duB ours cap).cells.toArray:=⟨qa9 rA nd (fun h=>h),qa9 rB nd (fun h=>h)⟩
 have NW:=qb nw
 have a5:=qb (And.intro R C)
 have ca:H.heap.size=H.drew.heap.size:=rfl
 have D:=qzj (duA ours cap) o H.drew
 have E:=fun W=>qzj (duB ours cap) q W
 generalize b7:duA ours cap=sA at D N o K rA
 generalize b8:duB ours cap=sB at E N q V rB
 have HS:=qb (And.intro b7 b8)
 have b9:=qb nd
 clear n1 n2 I C z1 z2 R nw b7 b8 nd ca rA rB ho hc
 go_cut [5] from 6 to 13 (fun dv wx=>q8j cap ours sA sB A H dv wx)
 case first =>
  refine qc7 (fun w'=>zm w' A 0 37=some sA.cells.toArray∧zm w' B 0 37=some sB.cells.toArray) [2] (.of [0,1,2,3,4,5,6,7]) (by kernel_rfl) (by kernel_rfl) N ?_;simp only[Plan.of];go_wp2_with (with_reducible first|(first|refine' qw1 (qg ?_) ?_|refine' qw2 (qg ?_) ?_|refine' qw3 (qg ?_) ?_);rotate_left|refine' qw4 (qg ?_)|refine' qw5 (qg ?_)|rfl|apply qn);refine D.mono ?_;intro e i h3;have z:qu H.drew i:=by rcases h3 with ⟨-,g,-,-,-,n⟩ | ⟨-,-,n⟩<;>exact n
  have M:zm i A 0 37=some sA.cells.toArray∧zm i B 0 37=some sB.cells.toArray:=⟨qa9 N.1 z (fun h=>h),qa9 N.2 z (fun h=>h)⟩;have J:=E i;have N3:=qb ((qa b9).trans z);rcases h3 with ⟨F,O,rfl,a8,T,-⟩ | ⟨b5,rfl,-⟩
  ·have l:=K.1 F;have a8:H.heap.size≤O:=a8;have a6:=q3y T o F;have c6:O<i.heap.size:=z6 T.at_;have HA:=qb a6;clear D E z T N a6;go_wp2_with (first | (with_reducible first|(first|refine' qw1 (qg ?_) ?_|refine' qw2 (qg ?_) ?_|refine' qw3 (qg ?_) ?_);rotate_left|refine' qw4 (qg ?_)|refine' qw5 (qg ?_)|rfl|apply qn) | refine⟨M,?_⟩);refine J.mono ?_;intro e v h4;rcases h4 with ⟨X,P,rfl,c7,U,t⟩ | ⟨b6,-,-⟩
   ·have c4:zm v A 0 37=some sA.cells.toArray∧zm v B 0 37=some sB.cells.toArray:=⟨qa9 M.1 t (fun h=>h),qa9 M.2 t (fun h=>h)⟩;have a7:=q3y U q X;have a9:P<v.heap.size:=z6 U.at_;have Z:qu v (v.alloc (.cells #[.pointer (some ⟨O,0,none⟩),.pointer (some ⟨P,0,none⟩),.slice none 0 0,.slice none 0 0] 80)):=(Upd.refl _ _).alloc _;have m:Hid (q8j cap ours sA sB A H (.pointer (some ⟨v.heap.size,0,none⟩)) (v.alloc (.cells #[.pointer (some ⟨O,0,none⟩),.pointer (some ⟨P,0,none⟩),.slice none 0 0,.slice none 0 0] 80))) :=
     qb ⟨_,rfl,((qa N3).trans t).trans Z,.inl ⟨O,P,qi _ _,l,((qa HA).new t).new Z,a7.new Z,by omega,by omega,a9⟩⟩
    clear Z a7 U t M J HA;go_wp2_with (first | (with_reducible first|(first|refine' qw1 (qg ?_) ?_|refine' qw2 (qg ?_) ?_|refine' qw3 (qg ?_) ?_);rotate_left|refine' qw4 (qg ?_)|refine' qw5 (qg ?_)|rfl|apply qn) | refine⟨c4,?_⟩);go_meet
    case rel=>exact qa m
   ·exact absurd (V l) b6
  ·have L:=fun h=>b5 (K.2 h)
   clear D E z N;go_wp2_with (first | (with_reducible first|(first|refine' qw1 (qg ?_) ?_|refine' qw2 (qg ?_) ?_|refine' qw3 (qg ?_) ?_);rotate_left|refine' qw4 (qg ?_)|refine' qw5 (qg ?_)|rfl|apply qn) | refine⟨M,?_⟩);refine J.mono ?_;intro e v h4;obtain⟨eb,rfl,t⟩:∃eb,e = .returned (.pointer eb)∧qu i v:=by
    rcases h4 with ⟨-,P,rfl,-,-,t⟩ | ⟨-,rfl,t⟩
    ·exact⟨_,rfl,t⟩
    ·exact⟨_,rfl,t⟩
   have c4:zm v A 0 37=some sA.cells.toArray∧zm v B 0 37=some sB.cells.toArray:=⟨qa9 M.1 t (fun h=>h),qa9 M.2 t (fun h=>h)⟩;have Z:qu v (v.alloc (.cells #[.pointer none,.pointer eb,.slice none 0 0,.slice none 0 0] 80)):=(Upd.refl _ _).alloc _;have m:=qb (And.intro (((qa N3).trans t).trans Z) (qi v (.cells #[.pointer none,.pointer eb,.slice none 0 0,.slice none 0 0] 80)));clear Z t M J;go_wp2_with (first | (with_reducible first|(first|refine' qw1 (qg ?_) ?_|refine' qw2 (qg ?_) ?_|refine' qw3 (qg ?_) ?_);rotate_left|refine' qw4 (qg ?_)|refine' qw5 (qg ?_)|rfl|apply qn) | refine⟨c4,?_⟩);go_meet
   case rel=>exact⟨_,rfl,(qa m).1,.inr ⟨_,(qa m).2,L⟩⟩
 case rest =>
  obtain⟨p,rfl,z,hrel⟩:=hcut;obtain⟨i,rfl⟩:∃i:World,i=wc:=⟨_,rfl⟩;clear D E N K V o q;rcases hrel with ⟨O,P,Y,l,hA,hB,z1,z2,z3⟩ | ⟨eb,Y,L⟩
  ·have c0:i.cell? ⟨p,0,none⟩=some (.pointer (some ⟨O,0,none⟩)):=qh Y 0;have c1:i.cell? ⟨p,1,none⟩=some (.pointer (some ⟨P,0,none⟩)):=qh Y 1;have I:=z.old (qa a5).1 (fun h=>h);have C:=z.old (qa a5).2 (fun h=>h);have a0:i.cell? ⟨A,0,none⟩=some (.int .u32 3):=qh I 0;have a1:i.cell? ⟨A,1,none⟩=some (.int .u64 cap):=qh I 1;have a2:i.cell? ⟨A,2,none⟩=some (.int .u64 ours):=qh I 2;have a3:i.cell? ⟨A,35,none⟩=some (.string ⟨#[120]⟩):=qh I 35;have a4:i.cell? ⟨A,36,none⟩=some (.string ⟨#[121,121]⟩):=qh I 36;have b0:i.cell? ⟨B,0,none⟩=some (.int .u32 3):=qh C 0;have b1:i.cell? ⟨B,1,none⟩=some (.int .u64 cap):=qh C 1;have b2:i.cell? ⟨B,2,none⟩=some (.int .u64 (cap-ours)):=by
    have e:i.cell? ⟨B,2,none⟩=some (.int .u64 (IntKind.u64.wrap (cap-ours))):=qh C 2;rw[e,qaw (by omega) (by have:=(qa HO).1.1;omega)]
   have b3:i.cell? ⟨B,35,none⟩=some (.string ⟨#[121,121]⟩):=qh C 35;have b4:i.cell? ⟨B,36,none⟩=some (.string ⟨#[120]⟩):=qh C 36;have c8:IntKind.u64.wrap (ours+(cap-ours))=cap:=by rw[qaw (by omega) (by omega)];omega
   have HD:=qb (zgl ((qa NW).trans z) Y hA hB (by omega) z2 z3);have HY:=qb l;clear I C Y hA hB z l z1 z2 z3 c5 c2;go_wp2_with (with_reducible first|(first|refine' tw1 (qg ?_) ?_|refine' tw2 (qg ?_) ?_);rotate_left|refine' tw3 (qg ?_)|rfl|apply tn|refine' tw4 ?_);go_ret;refine .inl ⟨p,rfl,qa HY,(fun b=>b=p∨b=O∨b=P),?_⟩;rw[←(qa HS).1,←(qa HS).2] at HD;exact qa HD
  ·have c0:i.cell? ⟨p,0,none⟩=some (.pointer none):=qh Y 0;have HN:=qb (And.intro L ((qa NW).trans z));clear Y L z;go_wp2_with (with_reducible first|(first|refine' tw1 (qg ?_) ?_|refine' tw2 (qg ?_) ?_);rotate_left|refine' tw3 (qg ?_)|rfl|apply tn|refine' tw4 ?_);go_ret;exact .inr ⟨rfl,(qa HN).1,(qa HN).2⟩
end
theorem qfh.le{w:World}{B l:Nat}{v:Value}{L:List MsgV}(h:qfh w B v L)(t:l≤B):qfh w l v L:=by
 rcases h with h | ⟨g,o,cap,i,e,q,m⟩
 ·exact .inl h
 ·exact .inr ⟨g,o,cap,i,e,by omega,m⟩
theorem DuD.base{w w1 w':World}{p:Nat}{S:Nat→Prop}{P:Pr}(h:DuD w1 w' p S P)(n:qu w w1):DuD w w' p S P:=by
 have z:=n.size;obtain⟨g,T,u,h⟩:=h;exact⟨g,T,u,h.at_,h.en,fun k l=>(h.row k l).le z,h.ok,h.sep,h.pT,h.uT,h.usep,h.pS,h.tS,h.uS,fun b i=>⟨by have:=(h.lt b i).1;omega,(h.lt b i).2⟩,n.trans h.n⟩
section
attribute [local go_sem ↓ high] qgr qgp qfa
attribute [local go_sem] zb qsz qqz qk8
set_option maxRecDepth 100000 in
set_option maxHeartbeats 2000000 in
theorem qpe(ours cap:Int)(P:0≤ours∧ours<18446744073709551616)(O:0≤cap∧cap<18446744073709551616)(w:World) :
  Calls Tryz.prog 9 #[.int .u64 ours,.int .u64 cap] w fun e w' =>
   (∃p,e = .returned (.pointer (some ⟨p,0,none⟩))∧(1≤cap∧cap≤1125899906842624∧ours≤cap)∧∃S,DuD w w' p S (qws ours cap)) ∨
   (e = .returned (.pointer none)∧¬(1≤cap∧cap≤1125899906842624∧ours≤cap)∧qu w w'):=by
 have q:=fun W=>q9h ours cap P O W
 have t:=qxh ours cap w
 obtain⟨m,o⟩:(duA ours cap).seed.length=32∧(duB ours cap).seed.length=32:=⟨rfl,rfl⟩
 generalize duA ours cap=K at q t m
 generalize duB ours cap=L at q t o
 go_enter Tryz.func9,Tryz.ntmps9
 go_wp2_with fail
 refine t.mono ?_
 rintro e w1 ⟨rfl,F⟩
 obtain⟨E,l⟩:=qu1 (qi w1 (.cells qts.toArray 67)) m o
 have H:qu w ((w1.alloc (.cells qts.toArray 67)).setCells w1.heap.size 0 (qkg K L)):=(F.alloc _).then (zz _) (fun i V e=>by have:=F.size;omega)
 clear F t
 go_upto_region 2 with fail
 generalize (w1.alloc (.cells qts.toArray 67)).setCells w1.heap.size 0 (qkg K L)=X at l H ⊢
 generalize w1.heap.size=T at l ⊢
 clear E w1
 have R:=l.row0
 have U:=l.row1
 have I:=qb H
 clear l H
 go_wp2_with fail
 refine(q _).mono ?_
 intro e M J
 have D:(∃p,e = .returned (.pointer (some ⟨p,0,none⟩))∧(1≤cap∧cap≤1125899906842624∧ours≤cap)∧∃S,DuD w M p S (qws ours cap))∨(e = .returned (.pointer none)∧¬(1≤cap∧cap≤1125899906842624∧ours≤cap)∧qu w M):=by
  rcases J with ⟨p,g,z,S,C⟩ | ⟨g,z,C⟩
  ·exact .inl ⟨p,g,z,S,C.base ((qa I).trans ((Upd.refl _ _)))⟩
  ·exact .inr ⟨g,z,(qa I).trans C⟩
 clear J q R U
 obtain⟨v,rfl⟩:∃v,e = .returned v:=by
  rcases D with ⟨p,g,-⟩ | ⟨g,-⟩
  ·exact⟨_,g⟩
  ·exact⟨_,g⟩
 have N:=qb D
 clear D
 go_wp2_with fail
 go_ret
 exact qa N
end
end Go.Proofs.YthnohmjbbeahmaaGreatDoor
