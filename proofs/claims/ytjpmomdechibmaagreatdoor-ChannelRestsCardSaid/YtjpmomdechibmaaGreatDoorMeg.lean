/-
  Law 13: does, walked: both are cut, and say Again.
-/
import Derived.Test.YtjpmomdechibmaaGreatDoorDoV
import Derived.Test.YtjpmomdechibmaaGreatDoorMdh
import Derived.Test.YtjpmomdechibmaaGreatDoorMda
set_option linter.unusedVariables false
set_option linter.unusedSimpArgs false
namespace Go.Proofs.YtjpmomdechibmaaGreatDoor
open Go.RowKit
attribute [local go_sem ↓ high] qaa qap qar qa1 qab qac qag qah qe0
attribute [local go_sem] qcx qdn qdt zq qcy qc0 qc2 qbn qng
def Pr.setWay(P:Pr)(k:Nat)(w:List MsgV):Pr:=if k=0 then {P with wa:=w} else {P with wb:=w}
section
variable {w0 w:World}{p:Nat}{g:Nat→Nat}{P:Pr}{Ks:List Kp}{k:Nat}
theorem PrK.row(h:PrK w0 w p g P Ks)(hk:k<2):∃u,w.cell? ⟨p,2+k,none⟩=some u∧w.frozen? ⟨p,2+k,none⟩=false∧w.ownsRow w0.heap.size 30 38 u (P.way k).length ((P.way k).flatMap MsgV.cells)∧(∀m∈P.way k,MsgOk m) ∧
  ∀t v y,Upd (fun b=>u.ownBlock=some b) w t→t.ownsRow w0.heap.size 30 38 v y.length (y.flatMap MsgV.cells)→(∀b,v.ownBlock=some b→u.ownBlock=some b∨w.heap.size≤b)→(∀m∈y,MsgOk m) →
   PrK w0 (t.setCell ⟨p,2+k,none⟩ v) p g (P.setWay k y) Ks∧t.cell? ⟨p,2+k,none⟩=some u∧t.frozen? ⟨p,2+k,none⟩=false:=by
 obtain⟨S,U,V,K,L,x,z,X,h3,Y⟩:=h
 have a4:=x.two.n.size
 have key:∀(u:Value) (i:Nat),(∀b,u.ownBlock=some b→S b∧b≠p)→∀(t:World) (v:Value) (y:List MsgV),Upd (fun b=>u.ownBlock=some b) w t→t.ownsRow w0.heap.size 30 38 v y.length (y.flatMap MsgV.cells)→(∀b,v.ownBlock=some b→u.ownBlock=some b∨w.heap.size≤b) →
   (∀b,v.ownBlock=some b→Fr S w (t.setCell ⟨p,i,none⟩ v) b)∧(∀b,Fr S w (t.setCell ⟨p,i,none⟩ v) b→w0.heap.size≤b∧b<(t.setCell ⟨p,i,none⟩ v).heap.size)∧(∀q∈Ks,¬Fr S w (t.setCell ⟨p,i,none⟩ v) q.1∧qli (t.setCell ⟨p,i,none⟩ v) q∧w0.heap.size≤q.1)∧t.heap[p]? = some (.cells (prC (g 0) (g 1) K L P.bad).toArray 38 (0,0)):=by
  intro u i N t v y C o l
  have Z:Upd (· = p) t (t.setCell ⟨p,i,none⟩ v):=(Upd.refl _ _).set1 i _
  have z1:=C.size
  have z2:=Z.size
  refine⟨?_,?_,?_,C.old x.at_ (fun e=>(N p e).2 rfl)⟩
  ·intro b f
   rcases l b f with e | e
   ·exact .inl (N b e).1
   ·obtain⟨F,D⟩:=q8 o b f
    exact .inr ⟨e,Nat.lt_of_lt_of_le (zw D) z2⟩
  ·rintro b (e | e)
   ·exact⟨(X b e).1,by have:=(X b e).2;omega⟩
   ·exact⟨by omega,e.2⟩
  ·intro q hq
   obtain⟨M,W,e3⟩:=h3 q hq
   refine⟨?_,(W.upd C (fun e=>M (N _ e).1)).upd Z (fun e=>M (z _ (by rw[e];simp))),e3⟩
   rintro (e | e)
   ·exact M e
   ·have:=W.lt
    omega
 have H:∀b,K.ownBlock=some b→S b∧b≠p:=fun b f=>⟨z b (by simp[f]),fun e=>by
  obtain⟨F,D⟩:=q8 x.rowA b f
  rw[e] at D
  exact ze x.at_ D (by decide) rfl⟩
 have I:∀b,L.ownBlock=some b→S b∧b≠p:=fun b f=>⟨z b (by simp[f]),fun e=>by
  obtain⟨F,D⟩:=q8 x.rowB b f
  rw[e] at D
  exact ze x.at_ D (by decide) rfl⟩
 rcases (by omega:k=0∨k=1) with rfl | rfl
 ·refine⟨K,x.cell.2.2.1,qq x.at_ 2,x.rowA,x.okA,fun t v y C o l E=> ?_⟩
  obtain⟨O,R,T,J⟩:=key K 2 H t v y C o l
  refine⟨⟨_,U,V,v,L,x.putA C o l E,?_,R,T,Y⟩,qh J 2,qq J 2⟩
  rintro b (f | f | f | f | f)
  ·exact .inl (z b (.inl f))
  ·exact .inl (z b (.inr (.inl f)))
  ·exact .inl (z b (by simp[f]))
  ·exact O b f
  ·exact .inl (z b (by simp[f]))
 ·refine⟨L,x.cell.2.2.2.1,qq x.at_ 3,x.rowB,x.okB,fun t v y C o l E=> ?_⟩
  obtain⟨O,R,T,J⟩:=key L 3 I t v y C o l
  refine⟨⟨_,U,V,K,v,x.putB C o l E,?_,R,T,Y⟩,qh J 3,qq J 3⟩
  rintro b (f | f | f | f | f)
  ·exact .inl (z b (.inl f))
  ·exact .inl (z b (.inr (.inl f)))
  ·exact .inl (z b (by simp[f]))
  ·exact .inl (z b (by simp[f]))
  ·exact O b f
theorem PrK.clear(h:PrK w0 w p g P Ks):PrK w0 ((w.setCell ⟨p,2,none⟩ qbt).setCell ⟨p,3,none⟩ qbt) p g {P with wa:=[],wb:=[]} Ks:=by
 obtain⟨u,-,-,-,-,f⟩:=h.row (k:=0) (by decide)
 obtain⟨f,-⟩:=f w qbt [] (Upd.refl _ _) (World.ownsRow_nil _ _ _ _) (fun b i=>by simp[qbt,Value.ownBlock] at i) (fun m l=>by cases l)
 obtain⟨q,-,-,-,-,o⟩:=f.row (k:=1) (by decide)
 exact(o _ qbt [] (Upd.refl _ _) (World.ownsRow_nil _ _ _ _) (fun b i=>by simp[qbt,Value.ownBlock] at i) (fun m l=>by cases l)).1
end
def Pr.cutN(P:Pr)(i:Nat):Pr:=⟨if 0<i then P.a.cut else P.a,if 1<i then P.b.cut else P.b,[],[],P.bad⟩
def Pr.againN(P:Pr)(i:Nat):Pr:=⟨P.a.cut,P.b.cut,if 1<i then [P.b.cut.again] else [],if 0<i then [P.a.cut.again] else [],P.bad⟩
theorem q32(P:Pr){i:Nat}(h:i<2):(P.cutN i).set i ((P.cutN i).en i).cut=P.cutN (i+1):=by
 rcases (by omega:i=0∨i=1) with rfl | rfl<;>rfl
theorem qv7(P:Pr){i j:Nat}(h:i<2)(f:j=1-i):(P.againN i).setWay j ((P.againN i).way j++[((P.againN i).en i).again])=P.againN (i+1)∧((P.againN i).way j).length=0:=by
 subst f
 rcases (by omega:i=0∨i=1) with rfl | rfl<;>exact⟨rfl,rfl⟩
theorem q3h{P:Pr}(f:MsgOk P.a.cut.again)(l:MsgOk P.b.cut.again){i:Nat}(h:i<2):MsgOk ((P.againN i).en i).again:=by
 rcases (by omega:i=0∨i=1) with rfl | rfl
 ·exact f
 ·exact l
section
variable {w0 w:World}{p:Nat}{g:Nat→Nat}{P:Pr}
set_option maxRecDepth 100000 in
set_option maxHeartbeats 4000000 in
theorem q7f(hT:Tb w0)(H:PrK w0 w p g P [])(x:ActV)(c3:x.kind=11)(X:P.cuts.Hok 0)(Y:((P.cuts.heard 0).1).Hok 1)(oa:MsgOk P.a.cut.again)(ob:MsgOk P.b.cut.again)(R:Pr)(U:(((P.cuts.heard 0).1).heard 1).1=R) :
  Calls Tryz.prog 32 #[.pointer (some ⟨p,0,none⟩),.agg x.cells.toArray] w fun e w'=>e = .returned (.tuple #[])∧∃g',PrK w0 w' p g' R []:=by
 have a9:=qf6 x.side
 generalize (x.side%2).toNat=k at a9
 go_enter Tryz.func32,Tryz.ntmps32
 go_upto_region 1 with fail
 have H1:=H.alloc x.cells.toArray 75
 generalize w.alloc (.cells x.cells.toArray 75)=w1 at H1 ⊢
 generalize w.heap.size=B at H1 ⊢
 obtain⟨c0,c1,-,-,-,-⟩:=qei (x:=x) H1.one
 obtain⟨kd,sd,ex,N,id,pb,rest⟩:=x
 simp only at c3 c0 c1 a9
 subst c3
 obtain⟨ua,cu,fu,-⟩:=H1.row (k:=0) (by decide)
 obtain⟨ub,cv,fv,-⟩:=H1.row (k:=1) (by decide)
 have H2:=H1.drop.clear
 have b5:=qb (And.intro X (And.intro Y U))
 have HO:=qb (And.intro oa ob)
 have H2:=qb H2
 clear H H1 X Y U oa ob
 go_upto_region 26 with (with_reducible first|(first|refine' zr (qg ?_) ?_|refine' zt (qg ?_) ?_);rotate_left|refine' zu (qg ?_)|rfl|apply tn|refine' zv ?_)
 change Code.wp _ _ _ _ ((w1.setCell ⟨p,2,none⟩ qbt).setCell ⟨p,3,none⟩ qbt)
 generalize (w1.setCell ⟨p,2,none⟩ qbt).setCell ⟨p,3,none⟩ qbt=w2 at H2 ⊢
 have J:Hid (PrK w0 w2 p g (P.cutN 0) []):=H2
 clear H2 cu fu cv fv c0 c1 a9
 go_wp2_with fail
 go_loopw [15] (fun iv wr=>∃i:Nat,iv = .int .i64 (i:Int)∧i≤2∧Hid (PrK w0 wr p g (P.cutN i) [])) (fun iv _=>2-(intOf iv).toNat)
 case atStart=>exact⟨0,rfl,by decide,J⟩
 case round =>
  obtain⟨i,rfl,hi,C⟩:=hrel
  obtain⟨wq,rfl⟩:∃wq:World,wq=wr:=⟨_,rfl⟩
  clear J
  by_cases o:i<2
  ·have c6:(i:Int)<2:=by omega
   have cp:=(qa C).cell o
   have a8:=zfy hT (qa C) o
   rw[q32 P o] at a8
   go_wp2_with (with_reducible first|(first|refine' zr (qg ?_) ?_|refine' zt (qg ?_) ?_);rotate_left|refine' zu (qg ?_)|rfl|apply tn|refine' zv ?_)
   refine a8.mono ?_
   rintro ee w3 ⟨⟨ov,rv,rfl⟩,J⟩
   have J:=qb J
   clear a8
   go_wp2_with (with_reducible first|(first|refine' zr (qg ?_) ?_|refine' zt (qg ?_) ?_);rotate_left|refine' zu (qg ?_)|rfl|apply tn|refine' zv ?_)
   go_roundw
   case rel=>exact⟨i+1,by go_num,by omega,J⟩
   case measure=>simp[intOf];omega
  ·have d3:¬(i:Int)<2:=by omega
   have J:Hid (PrK w0 wq p g (P.againN 0) []):=by
    obtain rfl:i=2:=by omega
    exact C
   clear C
   generalize (i:Int)=i1 at d3 ⊢
   go_wp2_with (with_reducible first|(first|refine' zr (qg ?_) ?_|refine' zt (qg ?_) ?_);rotate_left|refine' zu (qg ?_)|rfl|apply tn|refine' zv ?_)
   go_loopw [16] (fun iv wr=>∃i:Nat,iv = .int .i64 (i:Int)∧i≤2∧Hid (PrK w0 wr p g (P.againN i) [])) (fun iv _=>2-(intOf iv).toNat)
   case atStart=>exact⟨0,rfl,by decide,J⟩
   case round =>
    obtain⟨i,rfl,hi,C⟩:=hrel
    obtain⟨wy,rfl⟩:∃wy:World,wy=wr:=⟨_,rfl⟩
    clear J
    by_cases o:i<2
    ·have c6:(i:Int)<2:=by omega
     obtain⟨j,hj⟩:∃j,j=1-i:=⟨_,rfl⟩
     have b9:j<2:=by omega
     have d1:(j:Int)<2:=by omega
     have d4:IntKind.i64.wrap (1-(i:Int))=(j:Int):=by rw[qiz (by omega) (by omega)];omega
     obtain⟨c9,q⟩:=qv7 P o hj
     have t:=q3h (qa HO).1 (qa HO).2 o
     have cp:=(qa C).cell o
     obtain⟨u,cu,-,f,-,-⟩:=(qa C).row b9
     rw[q] at f
     obtain⟨na,z,rfl⟩:=qx f
     have b7:∀W,PrK w0 W p g (P.againN i) []→Calls Tryz.prog 23 #[.pointer (some ⟨g i,0,none⟩)] W (qa7 (.agg ((P.againN i).en i).again.cells.toArray) W):=fun W hW=>zdv hT hW o
     have c8:=t.len
     have c5:=MsgV.len _ c8
     generalize hM:((P.againN i).en i).again=M at *
     have b6:wy.drew.cell? ⟨p,i,none⟩=some (.pointer (some ⟨g i,0,none⟩))∧wy.drew.cell? ⟨p,2+j,none⟩=some (.slice na 0 z):=⟨cp,cu⟩
     have HR:=qb (And.intro c9 (And.intro t q))
     clear hj c9 t f hM o q
     go_upto_region 33 with (with_reducible first|(first|refine' zr (qg ?_) ?_|refine' zt (qg ?_) ?_);rotate_left|refine' zu (qg ?_)|rfl|apply tn|refine' zv ?_)
     refine qb5 (fun w'=>w'.cell? ⟨p,i,none⟩=some (.pointer (some ⟨g i,0,none⟩))∧w'.cell? ⟨p,2+j,none⟩=some (.slice na 0 z)) [9,15] (.of [0,1,2,3,4,5,6,7,8,9,10,11,12,13,14,15,16,17,18,19,20,21,22]) (by kernel_rfl) (by kernel_rfl) b6 ?_
     simp only[Plan.of]
     go_wp2_with (with_reducible first|(first|refine' qw1 (qg ?_) ?_|refine' qw2 (qg ?_) ?_|refine' qw3 (qg ?_) ?_);rotate_left|refine' qw4 (qg ?_)|refine' qw5 (qg ?_)|rfl|apply qn)
     refine(b7 wy.drew ((qa C).new (Upd.refl _ _).drew)).mono ?_
     rintro ee I ⟨rfl,n4⟩
     have n4:qy wy I:=n4.ofDrew
     have c4:I.cell? ⟨p,i,none⟩=some (.pointer (some ⟨g i,0,none⟩))∧I.cell? ⟨p,2+j,none⟩=some (.slice na 0 z):=⟨n4.cell cp (fun h=>h),n4.cell cu (fun h=>h)⟩
     go_wp2_with (first | (with_reducible first|(first|refine' qw1 (qg ?_) ?_|refine' qw2 (qg ?_) ?_|refine' qw3 (qg ?_) ?_);rotate_left|refine' qw4 (qg ?_)|refine' qw5 (qg ?_)|rfl|apply qn) | refine⟨c4,?_⟩)
     have nC:qy I (I.alloc (.cells M.cells.toArray 30)):=(Upd.refl _ _).alloc _
     refine⟨⟨nC.cell c4.1 (fun h=>h),nC.cell c4.2 (fun h=>h)⟩,?_⟩
     have L:(I.alloc (.cells M.cells.toArray 30)).heap[I.heap.size]? = some (.cells M.cells.toArray 30 (0,0)):=qi I (.cells M.cells.toArray 30)
     have a6:=nC.cell c4.2 (fun h=>h)
     have K:=(qa C).new (n4.trans nC)
     generalize I.alloc (.cells M.cells.toArray 30)=wC at L K a6 ⊢
     generalize I.heap.size=D at L ⊢
     obtain⟨u2,a5,-,f,Z,a4⟩:=K.row b9
     rw[a6] at a5
     obtain rfl:_=u2:=Option.some.inj a5
     obtain⟨F,t,q⟩:=qa HR
     rw[q] at f
     have d2:=K.le
     have T:=qb f
     have HS:=qb a4
     have HW:=qb Z
     have b3:=qb L
     have c7:∀l∈[M],MsgOk l:=fun l hl=>by rw[List.mem_singleton.1 hl];exact t
     clear f a4 Z K a5 a6 c4 n4 b6 b7 C HR L nC
     go_wp2_with (first | (at_builtin;refine qb6 rfl (.tmp 163) (.tmp 171) rfl w0.heap.size (.slice na 0 z) 0 _ rfl (qa T) [M] c7 _ rfl (.inr ⟨⟨D,0,none⟩,1,rfl,?c1⟩) ?c2 d2 ?_) | (with_reducible first|(first|refine' qw1 (qg ?_) ?_|refine' qw2 (qg ?_) ?_|refine' qw3 (qg ?_) ?_);rotate_left|refine' qw4 (qg ?_)|refine' qw5 (qg ?_)|rfl|apply qn))
     case c1 =>
      intro i v hv
      rw[show ([M].flatMap MsgV.cells)=M.cells from by rw[List.flatMap_cons,List.flatMap_nil,List.append_nil]] at hv
      have e:(⟨D,0,none⟩:Addr).add i=⟨D,i,none⟩:=by simp[Addr.add];exact fun h=>h.symm
      rw[e,qh (qa b3) i]
      simpa using hv
     case c2=>show 0+1≤1000000;decide
     intro v' wD y uD V
     have E:wD.ownsRow w0.heap.size 30 38 v' ((P.againN i).way j++[M]).length (((P.againN i).way j++[M]).flatMap MsgV.cells):=by
      have e:(P.againN i).way j=[]:=List.eq_nil_of_length_eq_zero q
      rw[e] at y ⊢
      rw[show (([]:List MsgV)++[M]).flatMap MsgV.cells=List.flatMap MsgV.cells []++M.cells by simp]
      exact y
     obtain⟨a7,cD,fD⟩:=qa HS wD v' _ uD E (fun b hb=>by
      rcases V with e | e
      ·exact .inl (e▸hb)
      ·rw[e] at hb;injection hb with hb;exact .inr (by omega)) (fun m hm=>by
      rcases List.mem_append.1 hm with e | e
      ·exact qa HW m e
      ·rw[List.mem_singleton.1 e];exact t)
     rw[F] at a7
     obtain⟨a',d5,rfl⟩:=qx y
     have d0:=qb a7
     clear y E a7 V uD T HS HW b3 F t q c7
     go_wp2_with (with_reducible first|(first|refine' qw1 (qg ?_) ?_|refine' qw2 (qg ?_) ?_|refine' qw3 (qg ?_) ?_);rotate_left|refine' qw4 (qg ?_)|refine' qw5 (qg ?_)|rfl|apply qn)
     clear c5 c8 d4 d1
     go_roundw
     case rel=>exact⟨i+1,by go_num,by omega,d0⟩
     case measure=>simp[intOf];omega
    ·obtain rfl:i=2:=by omega
     have h5:PrK w0 wy p g P.cuts []:=qa C
     obtain⟨o0,o1,U⟩:=qa b5
     have b8:=qqi hT h5 (by decide) o0
     have b4:=qb o1
     have HR:=qb U
     clear C h5 o0 o1 U b5
     generalize P.cuts.heard 0=r0 at *
     obtain⟨P0,b0⟩:=r0
     go_wp2_with (with_reducible first|(first|refine' zr (qg ?_) ?_|refine' zt (qg ?_) ?_);rotate_left|refine' zu (qg ?_)|rfl|apply tn|refine' zv ?_)
     refine b8.mono ?_
     rintro ee I ⟨rfl,g4,H4⟩
     have O:=qqi hT H4 (by decide) (qa b4)
     have U:=qa HR
     clear H4 b8 b4 HR
     try simp only at O U
     rw[U] at O
     go_wp2_with (with_reducible first|(first|refine' zr (qg ?_) ?_|refine' zt (qg ?_) ?_);rotate_left|refine' zu (qg ?_)|rfl|apply tn|refine' zv ?_)
     refine O.mono ?_
     rintro ee w5 ⟨rfl,g5,H5⟩
     have H5:=qb H5
     clear O
     go_wp2_with (with_reducible first|(first|refine' zr (qg ?_) ?_|refine' zt (qg ?_) ?_);rotate_left|refine' zu (qg ?_)|rfl|apply tn|refine' zv ?_)
     first | go_end0 | go_ret
     exact⟨rfl,g5,qa H5⟩
end
end Go.Proofs.YtjpmomdechibmaaGreatDoor
namespace Go.Proofs.YtjpmomdechibmaaGreatDoor
open Go.RowKit
section
variable {w0 w:World}{p:Nat}{g:Nat→Nat}{K:Kon}{n:Nat}{P:Pr}
theorem qwt(l:Tb w0)(i:K.Ok)(y:n<60000)(H:PrK w0 w p g P [])(f:PInv K n P)(x:ActV)(q:x.Ok) :
  Calls Tryz.prog 32 #[.pointer (some ⟨p,0,none⟩),.agg x.cells.toArray] w fun e w'=>e = .returned (.tuple #[])∧∃g',PrK w0 w' p g' (P.does x) []:=by
 have m:=x.k_lt
 have t:=f.end i (by omega) m
 have F:=f.long
 have o:P.wa.length<1000000∧P.wb.length<1000000:=⟨by omega,by omega⟩
 have v:(P.en x.k).news.length<1000000∧(P.en x.k).xs.length<1000000:=⟨by have:=t.news;omega,by have:=t.xs;omega⟩
 unfold Pr.does
 split
 ·rename_i h
  exact qz1 l H x q h _ rfl _ rfl v (f.offer i y m q.n.1 (by rw[qfs (qns _)];exact qil _)).2 o
 split
 ·rename_i h
  exact quw l H x q h _ rfl _ rfl v (f.fulfill i m _ _ (qee _) (qq9 _)).2 o
 split
 ·rename_i h
  exact q35 l H x q h _ rfl _ rfl v (f.fail i m _ _).2 o
 split
 ·rename_i h
  exact q38 l H x h _ rfl _ rfl (t.sign i (by omega)) (f.sign i m).2 o
 split
 ·rename_i h
  exact qz0 l H x h _ rfl _ rfl (f.hok i (by omega) m)
 split
 ·rename_i h
  exact q37 l H x h _ rfl _ rfl (f.shut i m).2 o
 split
 ·rename_i h
  obtain⟨z,C,-,D,E⟩:=f.cut i y
  exact q7f l H x h z C D E _ rfl
 ·exact q36 H x (by omega)
theorem PrK.bad(h:PrK w0 w p g P []):w.cell? ⟨p,4,none⟩=some (.bool P.bad):=by
 obtain⟨S,i,l,m,o,f,-⟩:=h
 exact f.cell.2.2.2.2
end
def qo1(w:World)(v:Value)(xs:List ActV):Prop:=(∃a c,v = .slice a 0 c∧xs=[])∨∃g off cap,v = .slice (some ⟨g,off,none⟩) xs.length cap∧∀i x,xs[i]? = some x→zx w g (off+i*44) 44=some x.cells.toArray
theorem qo1.new{w w':World}{v:Value}{xs:List ActV}(h:qo1 w v xs)(u:qy w w'):qo1 w' v xs:=by
 rcases h with h | ⟨g,off,cap,e,h⟩
 ·exact .inl h
 ·exact .inr ⟨g,off,cap,e,fun i x f=>qis (h i x f) u (fun h=>h)⟩
theorem qo1.slice{w:World}{v:Value}{xs:List ActV}(h:qo1 w v xs):∃a c,v = .slice a xs.length c:=by
 rcases h with ⟨_,_,rfl,rfl⟩ | ⟨g,off,cap,rfl,_⟩
 ·exact⟨_,_,rfl⟩
 ·exact⟨_,_,rfl⟩
theorem qo1.at{w:World}{a:Option Addr}{n c:Nat}{xs:List ActV}(h:qo1 w (.slice a n c) xs){i:Nat}{x:ActV}(f:xs[i]? = some x):∃g off,a=some ⟨g,off,none⟩∧zx w g (off+i*44) 44=some x.cells.toArray:=by
 rcases h with ⟨_,_,e,rfl⟩ | ⟨g,off,cap,e,h⟩
 ·simp at f
 ·cases e
  exact⟨g,off,rfl,h i x f⟩
noncomputable def Pr.acts(P:Pr)(xs:List ActV):Pr:=xs.foldl Pr.does P
theorem qnf(P:Pr){xs:List ActV}{i:Nat}{x:ActV}(f:xs[i]? = some x):P.acts (xs.take (i+1))=(P.acts (xs.take i)).does x:=by
 unfold Pr.acts
 rw[List.take_add_one,f,List.foldl_append]
 rfl
def kon(o c:Int):Kon:=⟨fun s=>if s=true then qga o c else qjv o c,7,c⟩
theorem q0o{o c:Int}(l:0≤o)(h:1≤c∧c≤1125899906842624∧o≤c):(kon o c).Ok:=by
 have i:IntKind.u64.wrap (c-o)=c-o:=qeg (by omega) (by omega)
 have m:∀s,(kon o c).S s=if s=true then qga o c else qjv o c:=fun _=>rfl
 refine⟨?_,⟨by show (0:Int)≤7;decide,by show (7:Int)<4294967296;decide⟩,?_,?_,?_,?_,h.2.1,?_,?_⟩
 ·intro s;cases s<;>rfl
 ·intro s;cases s<;>rfl
 ·intro s;cases s<;>exact(show 1≤64 by decide)
 ·intro s
  cases s
  ·show 0≤IntKind.u64.wrap (c-o);rw[i];omega
  ·exact l
 ·intro s
  cases s
  ·show IntKind.u64.wrap (c-o)+o=c;rw[i];omega
  ·show o+IntKind.u64.wrap (c-o)=c;rw[i];omega
 ·intro s;cases s<;>rfl
 ·intro s
  have f:∀x:Int,0≤x∧x≤255→qa6 (qet x):=by
   intro x q b f
   unfold qet at f
   simp only[List.mem_cons,List.mem_replicate] at f
   rcases f with rfl | ⟨_,rfl⟩<;>omega
  cases s
  ·exact⟨rfl,f 2 ⟨by decide,by decide⟩⟩
  ·exact⟨rfl,f 1 ⟨by decide,by decide⟩⟩
def pr0(o c:Int):Pr:=⟨Ch.new (qga o c),Ch.new (qjv o c),[],[],false⟩
theorem q25{o c:Int}(f:0≤o)(h:1≤c∧c≤1125899906842624∧o≤c):PInv (kon o c) 0 (pr0 o c) :=
 ⟨qb2.new (q0o f h) true,rfl,Int.le_refl _,Int.le_refl _⟩
theorem qps{K:Kon}(l:K.Ok){P:Pr}(m:PInv K 0 P){xs:List ActV}(o:∀x∈xs,x.Ok):∀i,i≤xs.length→i<60000→PInv K i (P.acts (xs.take i))
 | 0,_,_=>m
 | i+1,h,q=>by
  have f:i<xs.length:=by omega
  rw[qnf P (List.getElem?_eq_getElem f)]
  exact(qps l m o i (by omega) (by omega)).does l (by omega) (o _ (List.getElem_mem f))
end Go.Proofs.YtjpmomdechibmaaGreatDoor
