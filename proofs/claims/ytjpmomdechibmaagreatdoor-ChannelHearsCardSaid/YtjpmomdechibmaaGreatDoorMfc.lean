/-
  Law 13: does, walked: both are cut, and say Again.
-/
import Derived.Test.YtjpmomdechibmaaGreatDoorDoV
import Derived.Test.YtjpmomdechibmaaGreatDoorMed
import Derived.Test.YtjpmomdechibmaaGreatDoorMdf
import Derived.Test.YtjpmomdechibmaaGreatDoorMbj
import Derived.LaidLaws
import Derived.Lib.LaidTab
import Derived.Test.YtjpmomdechibmaaGreatDoorMaa
import Derived.ProofKit
import Derived.OpenShut
import Derived.ShutString
import Derived.ChangeOld
import Derived.Test.YtjpmomdechibmaaGreatDoorMcd
import Derived.Test.YtjpmomdechibmaaGreatDoorRows
set_option linter.unusedVariables false
set_option linter.unusedSimpArgs false
namespace Go.Proofs.YtjpmomdechibmaaGreatDoor
open Go.RowKit
attribute [local go_sem ↓ high] z7 qal qan qa0 qab qac qag qaa qem
attribute [local go_sem] qcp qdl qdr zn qc2 qc3 qc6 qbm qms
def Pr.setWay(P:Pr)(k:Nat)(w:List MsgV):Pr:=if k=0 then {P with wa:=w} else {P with wb:=w}
section
variable {w0 w:World}{p:Nat}{g:Nat→Nat}{P:Pr}{Ks:List Kp}{k:Nat}
theorem PrK.row(h:PrK w0 w p g P Ks)(hk:k<2):∃u,w.cell? ⟨p,2+k,none⟩=some u∧w.frozen? ⟨p,2+k,none⟩=false∧w.ownsRow w0.heap.size 30 38 u (P.way k).length ((P.way k).flatMap MsgV.cells)∧(∀m∈P.way k,MsgOk m) ∧
  ∀o v x,Upd (fun b=>u.ownBlock=some b) w o→o.ownsRow w0.heap.size 30 38 v x.length (x.flatMap MsgV.cells)→(∀b,v.ownBlock=some b→u.ownBlock=some b∨w.heap.size≤b)→(∀m∈x,MsgOk m) →
   PrK w0 (o.setCell ⟨p,2+k,none⟩ v) p g (P.setWay k x) Ks∧o.cell? ⟨p,2+k,none⟩=some u∧o.frozen? ⟨p,2+k,none⟩=false:=by
 obtain⟨S,T,U,J,K,t,y,W,h3,X⟩:=h
 have a4:=t.two.n.size
 have key:∀(u:Value) (i:Nat),(∀b,u.ownBlock=some b→S b∧b≠p)→∀(o:World) (v:Value) (x:List MsgV),Upd (fun b=>u.ownBlock=some b) w o→o.ownsRow w0.heap.size 30 38 v x.length (x.flatMap MsgV.cells)→(∀b,v.ownBlock=some b→u.ownBlock=some b∨w.heap.size≤b) →
   (∀b,v.ownBlock=some b→Fr S w (o.setCell ⟨p,i,none⟩ v) b)∧(∀b,Fr S w (o.setCell ⟨p,i,none⟩ v) b→w0.heap.size≤b∧b<(o.setCell ⟨p,i,none⟩ v).heap.size)∧(∀q∈Ks,¬Fr S w (o.setCell ⟨p,i,none⟩ v) q.1∧qlh (o.setCell ⟨p,i,none⟩ v) q∧w0.heap.size≤q.1)∧o.heap[p]? = some (.cells (prC (g 0) (g 1) J K P.bad).toArray 38 (0,0)):=by
  intro u i M o v x z l j
  have Y:Upd (· = p) o (o.setCell ⟨p,i,none⟩ v):=(Upd.refl _ _).set1 i _
  have z1:=z.size
  have z2:=Y.size
  refine⟨?_,?_,?_,z.old t.at_ (fun e=>(M p e).2 rfl)⟩
  ·intro b f
   rcases j b f with e | e
   ·exact .inl (M b e).1
   ·obtain⟨E,C⟩:=qw l b f
    exact .inr ⟨e,Nat.lt_of_lt_of_le (zq C) z2⟩
  ·rintro b (e | e)
   ·exact⟨(W b e).1,by have:=(W b e).2;omega⟩
   ·exact⟨by omega,e.2⟩
  ·intro q hq
   obtain⟨L,V,Z⟩:=h3 q hq
   refine⟨?_,(V.upd z (fun e=>L (M _ e).1)).upd Y (fun e=>L (y _ (by rw[e];simp))),Z⟩
   rintro (e | e)
   ·exact L e
   ·have:=V.lt
    omega
 have F:∀b,J.ownBlock=some b→S b∧b≠p:=fun b f=>⟨y b (by simp[f]),fun e=>by
  obtain⟨E,C⟩:=qw t.rowA b f
  rw[e] at C
  exact za t.at_ C (by decide) rfl⟩
 have H:∀b,K.ownBlock=some b→S b∧b≠p:=fun b f=>⟨y b (by simp[f]),fun e=>by
  obtain⟨E,C⟩:=qw t.rowB b f
  rw[e] at C
  exact za t.at_ C (by decide) rfl⟩
 rcases (by omega:k=0∨k=1) with rfl | rfl
 ·refine⟨J,t.cell.2.2.1,qm t.at_ 2,t.rowA,t.okA,fun o v x z l j D=> ?_⟩
  obtain⟨N,O,R,I⟩:=key J 2 F o v x z l j
  refine⟨⟨_,T,U,v,K,t.putA z l j D,?_,O,R,X⟩,qg I 2,qm I 2⟩
  rintro b (f | f | f | f | f)
  ·exact .inl (y b (.inl f))
  ·exact .inl (y b (.inr (.inl f)))
  ·exact .inl (y b (by simp[f]))
  ·exact N b f
  ·exact .inl (y b (by simp[f]))
 ·refine⟨K,t.cell.2.2.2.1,qm t.at_ 3,t.rowB,t.okB,fun o v x z l j D=> ?_⟩
  obtain⟨N,O,R,I⟩:=key K 3 H o v x z l j
  refine⟨⟨_,T,U,J,v,t.putB z l j D,?_,O,R,X⟩,qg I 3,qm I 3⟩
  rintro b (f | f | f | f | f)
  ·exact .inl (y b (.inl f))
  ·exact .inl (y b (.inr (.inl f)))
  ·exact .inl (y b (by simp[f]))
  ·exact .inl (y b (by simp[f]))
  ·exact N b f
theorem PrK.clear(h:PrK w0 w p g P Ks):PrK w0 ((w.setCell ⟨p,2,none⟩ qbl).setCell ⟨p,3,none⟩ qbl) p g {P with wa:=[],wb:=[]} Ks:=by
 obtain⟨u,-,-,-,-,f⟩:=h.row (k:=0) (by decide)
 obtain⟨f,-⟩:=f w qbl [] (Upd.refl _ _) (World.ownsRow_nil _ _ _ _) (fun b i=>by simp[qbl,Value.ownBlock] at i) (fun m j=>by cases j)
 obtain⟨o,-,-,-,-,l⟩:=f.row (k:=1) (by decide)
 exact(l _ qbl [] (Upd.refl _ _) (World.ownsRow_nil _ _ _ _) (fun b i=>by simp[qbl,Value.ownBlock] at i) (fun m j=>by cases j)).1
end
def Pr.cutN(P:Pr)(i:Nat):Pr:=⟨if 0<i then P.a.cut else P.a,if 1<i then P.b.cut else P.b,[],[],P.bad⟩
def Pr.againN(P:Pr)(i:Nat):Pr:=⟨P.a.cut,P.b.cut,if 1<i then [P.b.cut.again] else [],if 0<i then [P.a.cut.again] else [],P.bad⟩
theorem q2e(P:Pr){i:Nat}(h:i<2):(P.cutN i).set i ((P.cutN i).en i).cut=P.cutN (i+1):=by
 rcases (by omega:i=0∨i=1) with rfl | rfl<;>rfl
theorem qu3(P:Pr){i j:Nat}(h:i<2)(f:j=1-i):(P.againN i).setWay j ((P.againN i).way j++[((P.againN i).en i).again])=P.againN (i+1)∧((P.againN i).way j).length=0:=by
 subst f
 rcases (by omega:i=0∨i=1) with rfl | rfl<;>exact⟨rfl,rfl⟩
theorem q1r{P:Pr}(f:MsgOk P.a.cut.again)(j:MsgOk P.b.cut.again){i:Nat}(h:i<2):MsgOk ((P.againN i).en i).again:=by
 rcases (by omega:i=0∨i=1) with rfl | rfl
 ·exact f
 ·exact j
section
variable {w0 w:World}{p:Nat}{g:Nat→Nat}{P:Pr}
set_option maxRecDepth 100000 in
set_option maxHeartbeats 4000000 in
theorem q5q(hT:Tb w0)(H:PrK w0 w p g P [])(x:ActV)(c3:x.kind=11)(X:P.cuts.Hok 0)(Y:((P.cuts.heard 0).1).Hok 1)(oa:MsgOk P.a.cut.again)(ob:MsgOk P.b.cut.again)(R:Pr)(U:(((P.cuts.heard 0).1).heard 1).1=R) :
  Calls Tryz.prog 32 #[.pointer (some ⟨p,0,none⟩),.agg x.cells.toArray] w fun e w'=>e = .returned (.tuple #[])∧∃g',PrK w0 w' p g' R []:=by
 have a9:=qfs x.side
 generalize (x.side%2).toNat=k at a9
 go_enter Tryz.func32,Tryz.ntmps32
 go_upto_region 1 with fail
 have H1:=H.alloc x.cells.toArray 75
 generalize w.alloc (.cells x.cells.toArray 75)=w1 at H1 ⊢
 generalize w.heap.size=B at H1 ⊢
 obtain⟨c0,c1,-,-,-,-⟩:=qd5 (x:=x) H1.one
 obtain⟨kd,sd,ex,N,id,pb,rest⟩:=x
 simp only at c3 c0 c1 a9
 subst c3
 obtain⟨ua,cu,fu,-⟩:=H1.row (k:=0) (by decide)
 obtain⟨ub,cv,fv,-⟩:=H1.row (k:=1) (by decide)
 have H2:=H1.drop.clear
 have b5:=qb (And.intro X (And.intro Y U))
 have HO:=qb (And.intro oa ob)
 have H2:=qb H2
 clear H H1 X Y U oa ob
 go_upto_region 26 with (with_reducible first|(first|refine' tw1 (qh ?_) ?_|refine' tw2 (qh ?_) ?_);rotate_left|refine' tw3 (qh ?_)|rfl|apply tn|refine' tw4 ?_)
 change Code.wp _ _ _ _ ((w1.setCell ⟨p,2,none⟩ qbl).setCell ⟨p,3,none⟩ qbl)
 generalize (w1.setCell ⟨p,2,none⟩ qbl).setCell ⟨p,3,none⟩ qbl=w2 at H2 ⊢
 have J:Hid (PrK w0 w2 p g (P.cutN 0) []):=H2
 clear H2 cu fu cv fv c0 c1 a9
 go_wp2_with fail
 go_loopw [15] (fun iv wr=>∃i:Nat,iv = .int .i64 (i:Int)∧i≤2∧Hid (PrK w0 wr p g (P.cutN i) [])) (fun iv _=>2-(intOf iv).toNat)
 case atStart=>exact⟨0,rfl,by decide,J⟩
 case round =>
  obtain⟨i,rfl,hi,C⟩:=hrel
  obtain⟨wq,rfl⟩:∃wq:World,wq=wr:=⟨_,rfl⟩
  clear J
  by_cases o:i<2
  ·have c6:(i:Int)<2:=by omega
   have cp:=(qa C).cell o
   have a8:=zd4 hT (qa C) o
   rw[q2e P o] at a8
   go_wp2_with (with_reducible first|(first|refine' tw1 (qh ?_) ?_|refine' tw2 (qh ?_) ?_);rotate_left|refine' tw3 (qh ?_)|rfl|apply tn|refine' tw4 ?_)
   refine a8.mono ?_
   rintro ee w3 ⟨⟨ov,rv,rfl⟩,J⟩
   have J:=qb J
   clear a8
   go_wp2_with (with_reducible first|(first|refine' tw1 (qh ?_) ?_|refine' tw2 (qh ?_) ?_);rotate_left|refine' tw3 (qh ?_)|rfl|apply tn|refine' tw4 ?_)
   go_roundw
   case rel=>exact⟨i+1,by go_num,by omega,J⟩
   case measure=>simp[intOf];omega
  ·have d3:¬(i:Int)<2:=by omega
   have J:Hid (PrK w0 wq p g (P.againN 0) []):=by
    obtain rfl:i=2:=by omega
    exact C
   clear C
   generalize (i:Int)=i1 at d3 ⊢
   go_wp2_with (with_reducible first|(first|refine' tw1 (qh ?_) ?_|refine' tw2 (qh ?_) ?_);rotate_left|refine' tw3 (qh ?_)|rfl|apply tn|refine' tw4 ?_)
   go_loopw [16] (fun iv wr=>∃i:Nat,iv = .int .i64 (i:Int)∧i≤2∧Hid (PrK w0 wr p g (P.againN i) [])) (fun iv _=>2-(intOf iv).toNat)
   case atStart=>exact⟨0,rfl,by decide,J⟩
   case round =>
    obtain⟨i,rfl,hi,C⟩:=hrel
    obtain⟨wy,rfl⟩:∃wy:World,wy=wr:=⟨_,rfl⟩
    clear J
    by_cases o:i<2
    ·have c6:(i:Int)<2:=by omega
     obtain⟨j,hj⟩:∃j,j=1-i:=⟨_,rfl⟩
     have b9:j<2:=by omega
     have d1:(j:Int)<2:=by omega
     have d4:IntKind.i64.wrap (1-(i:Int))=(j:Int):=by rw[qik (by omega) (by omega)];omega
     obtain⟨c9,q⟩:=qu3 P o hj
     have t:=q1r (qa HO).1 (qa HO).2 o
     have cp:=(qa C).cell o
     obtain⟨u,cu,-,f,-,-⟩:=(qa C).row b9
     rw[q] at f
     obtain⟨na,z,rfl⟩:=qv f
     have b7:∀W,PrK w0 W p g (P.againN i) []→Calls Tryz.prog 23 #[.pointer (some ⟨g i,0,none⟩)] W (qa5 (.agg ((P.againN i).en i).again.cells.toArray) W):=fun W hW=>zb0 hT hW o
     have c8:=t.len
     have c5:=MsgV.len _ c8
     generalize hM:((P.againN i).en i).again=M at *
     have b6:wy.drew.cell? ⟨p,i,none⟩=some (.pointer (some ⟨g i,0,none⟩))∧wy.drew.cell? ⟨p,2+j,none⟩=some (.slice na 0 z):=⟨cp,cu⟩
     have HR:=qb (And.intro c9 (And.intro t q))
     clear hj c9 t f hM o q
     go_upto_region 33 with (with_reducible first|(first|refine' tw1 (qh ?_) ?_|refine' tw2 (qh ?_) ?_);rotate_left|refine' tw3 (qh ?_)|rfl|apply tn|refine' tw4 ?_)
     refine qb2 (fun w'=>w'.cell? ⟨p,i,none⟩=some (.pointer (some ⟨g i,0,none⟩))∧w'.cell? ⟨p,2+j,none⟩=some (.slice na 0 z)) [9,15] (.of [0,1,2,3,4,5,6,7,8,9,10,11,12,13,14,15,16,17,18,19,20,21,22]) (by kernel_rfl) (by kernel_rfl) b6 ?_
     simp only[Plan.of]
     go_wp2_with (with_reducible first|(first|refine' qw1 (qh ?_) ?_|refine' qw2 (qh ?_) ?_|refine' qw3 (qh ?_) ?_);rotate_left|refine' qw4 (qh ?_)|refine' qw5 (qh ?_)|rfl|apply qn)
     refine(b7 wy.drew ((qa C).new (Upd.refl _ _).drew)).mono ?_
     rintro ee I ⟨rfl,n4⟩
     have n4:qx wy I:=n4.ofDrew
     have c4:I.cell? ⟨p,i,none⟩=some (.pointer (some ⟨g i,0,none⟩))∧I.cell? ⟨p,2+j,none⟩=some (.slice na 0 z):=⟨n4.cell cp (fun h=>h),n4.cell cu (fun h=>h)⟩
     go_wp2_with (first | (with_reducible first|(first|refine' qw1 (qh ?_) ?_|refine' qw2 (qh ?_) ?_|refine' qw3 (qh ?_) ?_);rotate_left|refine' qw4 (qh ?_)|refine' qw5 (qh ?_)|rfl|apply qn) | refine⟨c4,?_⟩)
     have nC:qx I (I.alloc (.cells M.cells.toArray 30)):=(Upd.refl _ _).alloc _
     refine⟨⟨nC.cell c4.1 (fun h=>h),nC.cell c4.2 (fun h=>h)⟩,?_⟩
     have L:(I.alloc (.cells M.cells.toArray 30)).heap[I.heap.size]? = some (.cells M.cells.toArray 30 (0,0)):=qi I (.cells M.cells.toArray 30)
     have a6:=nC.cell c4.2 (fun h=>h)
     have K:=(qa C).new (n4.trans nC)
     generalize I.alloc (.cells M.cells.toArray 30)=wC at L K a6 ⊢
     generalize I.heap.size=D at L ⊢
     obtain⟨u2,a5,-,f,Z,a4⟩:=K.row b9
     rw[a6] at a5
     obtain rfl:_=u2:=Option.some.inj a5
     obtain⟨F,t,q⟩:=qa HR
     rw[q] at f
     have d2:=K.le
     have T:=qb f
     have HS:=qb a4
     have HW:=qb Z
     have b3:=qb L
     have c7:∀l∈[M],MsgOk l:=fun l hl=>by rw[List.mem_singleton.1 hl];exact t
     clear f a4 Z K a5 a6 c4 n4 b6 b7 C HR L nC
     go_wp2_with (first | (at_builtin;refine qbx rfl (.tmp 163) (.tmp 171) rfl w0.heap.size (.slice na 0 z) 0 _ rfl (qa T) [M] c7 _ rfl (.inr ⟨⟨D,0,none⟩,1,rfl,?c1⟩) ?c2 d2 ?_) | (with_reducible first|(first|refine' qw1 (qh ?_) ?_|refine' qw2 (qh ?_) ?_|refine' qw3 (qh ?_) ?_);rotate_left|refine' qw4 (qh ?_)|refine' qw5 (qh ?_)|rfl|apply qn))
     case c1 =>
      intro i v hv
      rw[show ([M].flatMap MsgV.cells)=M.cells from by rw[List.flatMap_cons,List.flatMap_nil,List.append_nil]] at hv
      have e:(⟨D,0,none⟩:Addr).add i=⟨D,i,none⟩:=by simp[Addr.add];exact fun h=>h.symm
      rw[e,qg (qa b3) i]
      simpa using hv
     case c2=>show 0+1≤1000000;decide
     intro v' wD y uD V
     have E:wD.ownsRow w0.heap.size 30 38 v' ((P.againN i).way j++[M]).length (((P.againN i).way j++[M]).flatMap MsgV.cells):=by
      have e:(P.againN i).way j=[]:=List.eq_nil_of_length_eq_zero q
      rw[e] at y ⊢
      rw[show (([]:List MsgV)++[M]).flatMap MsgV.cells=List.flatMap MsgV.cells []++M.cells by simp]
      exact y
     obtain⟨a7,cD,fD⟩:=qa HS wD v' _ uD E (fun b hb=>by
      rcases V with e | e
      ·exact .inl (e▸hb)
      ·rw[e] at hb;injection hb with hb;exact .inr (by omega)) (fun m hm=>by
      rcases List.mem_append.1 hm with e | e
      ·exact qa HW m e
      ·rw[List.mem_singleton.1 e];exact t)
     rw[F] at a7
     obtain⟨a',d5,rfl⟩:=qv y
     have d0:=qb a7
     clear y E a7 V uD T HS HW b3 F t q c7
     go_wp2_with (with_reducible first|(first|refine' qw1 (qh ?_) ?_|refine' qw2 (qh ?_) ?_|refine' qw3 (qh ?_) ?_);rotate_left|refine' qw4 (qh ?_)|refine' qw5 (qh ?_)|rfl|apply qn)
     clear c5 c8 d4 d1
     go_roundw
     case rel=>exact⟨i+1,by go_num,by omega,d0⟩
     case measure=>simp[intOf];omega
    ·obtain rfl:i=2:=by omega
     have h5:PrK w0 wy p g P.cuts []:=qa C
     obtain⟨o0,o1,U⟩:=qa b5
     have b8:=qy7 hT h5 (by decide) o0
     have b4:=qb o1
     have HR:=qb U
     clear C h5 o0 o1 U b5
     generalize P.cuts.heard 0=r0 at *
     obtain⟨P0,b0⟩:=r0
     go_wp2_with (with_reducible first|(first|refine' tw1 (qh ?_) ?_|refine' tw2 (qh ?_) ?_);rotate_left|refine' tw3 (qh ?_)|rfl|apply tn|refine' tw4 ?_)
     refine b8.mono ?_
     rintro ee I ⟨rfl,g4,H4⟩
     have O:=qy7 hT H4 (by decide) (qa b4)
     have U:=qa HR
     clear H4 b8 b4 HR
     try simp only at O U
     rw[U] at O
     go_wp2_with (with_reducible first|(first|refine' tw1 (qh ?_) ?_|refine' tw2 (qh ?_) ?_);rotate_left|refine' tw3 (qh ?_)|rfl|apply tn|refine' tw4 ?_)
     refine O.mono ?_
     rintro ee w5 ⟨rfl,g5,H5⟩
     have H5:=qb H5
     clear O
     go_wp2_with (with_reducible first|(first|refine' tw1 (qh ?_) ?_|refine' tw2 (qh ?_) ?_);rotate_left|refine' tw3 (qh ?_)|rfl|apply tn|refine' tw4 ?_)
     first | go_end0 | go_ret
     exact⟨rfl,g5,qa H5⟩
end
end Go.Proofs.YtjpmomdechibmaaGreatDoor
namespace Go.Proofs.YtjpmomdechibmaaGreatDoor
open Go.RowKit
section
variable {w0 w:World}{p:Nat}{g:Nat→Nat}{K:Kon}{n:Nat}{P:Pr}
theorem q5p(j:Tb w0)(i:K.Ok)(v:n<60000)(H:PrK w0 w p g P [])(f:PInv K n P)(x:ActV)(o:x.Ok) :
  Calls Tryz.prog 32 #[.pointer (some ⟨p,0,none⟩),.agg x.cells.toArray] w fun e w'=>e = .returned (.tuple #[])∧∃g',PrK w0 w' p g' (P.does x) []:=by
 have l:=x.k_lt
 have q:=f.end i (by omega) l
 have E:=f.long
 have m:P.wa.length<1000000∧P.wb.length<1000000:=⟨by omega,by omega⟩
 have t:(P.en x.k).news.length<1000000∧(P.en x.k).xs.length<1000000:=⟨by have:=q.news;omega,by have:=q.xs;omega⟩
 unfold Pr.does
 split
 ·rename_i h
  exact qys j H x o h _ rfl _ rfl t (f.offer i v l o.n.1 (by rw[qfb (qm3 _)];exact qh6 _)).2 m
 split
 ·rename_i h
  exact qto j H x o h _ rfl _ rfl t (f.fulfill i l _ _ (qd1 _) (qp7 _)).2 m
 split
 ·rename_i h
  exact q2h j H x o h _ rfl _ rfl t (f.fail i l _ _).2 m
 split
 ·rename_i h
  exact q2k j H x h _ rfl _ rfl (q.sign i (by omega)) (f.sign i l).2 m
 split
 ·rename_i h
  exact qyr j H x h _ rfl _ rfl (f.hok i (by omega) l)
 split
 ·rename_i h
  exact q2j j H x h _ rfl _ rfl (f.shut i l).2 m
 split
 ·rename_i h
  obtain⟨y,z,-,C,D⟩:=f.cut i v
  exact q5q j H x h y z C D _ rfl
 ·exact q2i H x (by omega)
theorem q8l(j:Tb w0)(H:PrK w0 w p g P []){k:Nat}(l:k<2):Calls Tryz.prog 33 #[.pointer (some ⟨g k,0,none⟩)] w (qa5 (.int .u64 (P.en k).total) w):=by
 obtain⟨f,i,-⟩:=H.end j l
 exact qxz _ f _ w i
theorem PrK.bad(h:PrK w0 w p g P []):w.cell? ⟨p,4,none⟩=some (.bool P.bad):=by
 obtain⟨S,i,j,l,m,f,-⟩:=h
 exact f.cell.2.2.2.2
end
def qqw(w:World)(v:Value)(xs:List ActV):Prop:=(∃a c,v = .slice a 0 c∧xs=[])∨∃g off cap,v = .slice (some ⟨g,off,none⟩) xs.length cap∧∀i x,xs[i]? = some x→zr w g (off+i*44) 44=some x.cells.toArray
theorem qqw.new{w w':World}{v:Value}{xs:List ActV}(h:qqw w v xs)(u:qx w w'):qqw w' v xs:=by
 rcases h with h | ⟨g,off,cap,e,h⟩
 ·exact .inl h
 ·exact .inr ⟨g,off,cap,e,fun i x f=>qkb (h i x f) u (fun h=>h)⟩
theorem qqw.slice{w:World}{v:Value}{xs:List ActV}(h:qqw w v xs):∃a c,v = .slice a xs.length c:=by
 rcases h with ⟨_,_,rfl,rfl⟩ | ⟨g,off,cap,rfl,_⟩
 ·exact⟨_,_,rfl⟩
 ·exact⟨_,_,rfl⟩
theorem qqw.at{w:World}{a:Option Addr}{n c:Nat}{xs:List ActV}(h:qqw w (.slice a n c) xs){i:Nat}{x:ActV}(f:xs[i]? = some x):∃g off,a=some ⟨g,off,none⟩∧zr w g (off+i*44) 44=some x.cells.toArray:=by
 rcases h with ⟨_,_,e,rfl⟩ | ⟨g,off,cap,e,h⟩
 ·simp at f
 ·cases e
  exact⟨g,off,rfl,h i x f⟩
noncomputable def Pr.acts(P:Pr)(xs:List ActV):Pr:=xs.foldl Pr.does P
theorem qri(P:Pr){xs:List ActV}{i:Nat}{x:ActV}(f:xs[i]? = some x):P.acts (xs.take (i+1))=(P.acts (xs.take i)).does x:=by
 unfold Pr.acts
 rw[List.take_add_one,f,List.foldl_append]
 rfl
def kon(o c:Int):Kon:=⟨fun s=>if s=true then qfy o c else qjc o c,7,c⟩
theorem q6o{o c:Int}(j:0≤o)(h:1≤c∧c≤1125899906842624∧o≤c):(kon o c).Ok:=by
 have i:IntKind.u64.wrap (c-o)=c-o:=qd3 (by omega) (by omega)
 have l:∀s,(kon o c).S s=if s=true then qfy o c else qjc o c:=fun _=>rfl
 refine⟨?_,⟨by show (0:Int)≤7;decide,by show (7:Int)<4294967296;decide⟩,?_,?_,?_,?_,h.2.1,?_,?_⟩
 ·intro s;cases s<;>rfl
 ·intro s;cases s<;>rfl
 ·intro s;cases s<;>exact(show 1≤64 by decide)
 ·intro s
  cases s
  ·show 0≤IntKind.u64.wrap (c-o);rw[i];omega
  ·exact j
 ·intro s
  cases s
  ·show IntKind.u64.wrap (c-o)+o=c;rw[i];omega
  ·show o+IntKind.u64.wrap (c-o)=c;rw[i];omega
 ·intro s;cases s<;>rfl
 ·intro s
  have f:∀x:Int,0≤x∧x≤255→qaz (qef x):=by
   intro x m b f
   unfold qef at f
   simp only[List.mem_cons,List.mem_replicate] at f
   rcases f with rfl | ⟨_,rfl⟩<;>omega
  cases s
  ·exact⟨rfl,f 2 ⟨by decide,by decide⟩⟩
  ·exact⟨rfl,f 1 ⟨by decide,by decide⟩⟩
def pr0(o c:Int):Pr:=⟨Ch.new (qfy o c),Ch.new (qjc o c),[],[],false⟩
theorem zac{o c:Int}(f:0≤o)(h:1≤c∧c≤1125899906842624∧o≤c):PInv (kon o c) 0 (pr0 o c) :=
 ⟨qb9.new (q6o f h) true,rfl,Int.le_refl _,Int.le_refl _⟩
theorem qu2{K:Kon}(j:K.Ok){P:Pr}(l:PInv K 0 P){xs:List ActV}(m:∀x∈xs,x.Ok):∀i,i≤xs.length→i<60000→PInv K i (P.acts (xs.take i))
 | 0,_,_=>l
 | i+1,h,o=>by
  have f:i<xs.length:=by omega
  rw[qri P (List.getElem?_eq_getElem f)]
  exact(qu2 j l m i (by omega) (by omega)).does j (by omega) (m _ (List.getElem_mem f))
theorem Tryz.infoact:(Tryz.prog.info? 75).map (·.size)=some 44:=by kernel_rfl
def zbi(x:Value):Sem Value:=Instr.loadAt 75 x
theorem qwl(x:Value):Instr.loadAt 75 x=zbi x:=rfl
theorem zce(b o:Nat)(w:World):(zbi (.pointer (some ⟨b,o,none⟩))).run Tryz.prog w=match zr w b o 44 with | some A=> .ok (.agg A) w | none=>qdk Tryz.prog 75 w b o :=
 zt 75 44 _ Tryz.underlying75 rfl Tryz.infoact b o w
attribute [local go_sem ↓ high] qwl
attribute [local go_sem] zce zn
theorem zcq{o c:Int}(h:¬(1≤c∧c≤1125899906842624∧o≤c))(f:0≤c):c=0∨1125899906842624<c∨c<o:=by omega
set_option maxRecDepth 100000 in
set_option maxHeartbeats 4000000 in
theorem q25(o c:Int)(v:Value)(xs:List ActV)(w:World)(X:0≤o∧o<18446744073709551616)(hc:0≤c∧c<18446744073709551616)(P:qqw w v xs)(hx:∀x∈xs,x.Ok)(hT:Tb w) :
  Calls Tryz.prog 8 #[.int .u64 o,.int .u64 c,v] w (qa5 (.bool true) w):=by
 obtain⟨va,vc,rfl⟩:=P.slice
 have H:=fun W (n:qx w W)=>q39 W (hT.new n)
 have HV:=qb P
 by_cases a4:150<xs.length
 ·have hb:(150:Int)<(xs.length:Int):=by omega
  clear P
  go_enter Tryz.func8,Tryz.ntmps8
  go_wp2_with fail
  refine(H w (Upd.refl _ _)).mono ?_
  rintro e w1 ⟨rfl,K⟩
  go_wp2_with fail
  go_ret
  exact⟨rfl,K⟩
 ·have hb:¬(150:Int)<(xs.length:Int):=by omega
  clear P
  go_enter Tryz.func8,Tryz.ntmps8
  go_wp2_with fail
  refine(H w (Upd.refl _ _)).mono ?_
  rintro e w1 ⟨rfl,K⟩
  have E:=hT.new K
  have T:=qb ((qa HV).new K)
  have D:=qb K
  clear H HV K
  go_wp2_with fail
  refine(q1u o c X hc w1).mono ?_
  rintro e w2 (⟨p,gA,gB,rfl,C,hP⟩ | ⟨rfl,N,n2⟩)
  case inr =>
   have J:=qb ((qa D).trans n2)
   have M:=zcq N hc.1
   clear N n2 D
   by_cases U:c=0
   ·subst U
    go_wp2_with fail
    go_ret
    exact⟨rfl,qa J⟩
   ·by_cases h1:1125899906842624<c
    ·have d0:(c==0)=false:=beq_eq_false_iff_ne.2 U
     have d1:decide (1125899906842624<c)=true:=decide_eq_true h1
     clear M
     go_wp2_with fail
     go_ret
     exact⟨rfl,qa J⟩
    ·have h2:c<o:=by omega
     have d0:(c==0)=false:=beq_eq_false_iff_ne.2 U
     have d1:decide (1125899906842624<c)=false:=decide_eq_false h1
     have d2:decide (c<o)=true:=decide_eq_true h2
     clear M
     go_wp2_with fail
     go_ret
     exact⟨rfl,qa J⟩
  case inl =>
   obtain⟨g,z⟩:=PrK.start hP
   have f:=q6o X.1 C
   have hI:=fun i (h:i≤xs.length)=>qu2 f (zac X.1 C) hx i h (by omega)
   have HI:=qb hI
   have HG:Hid (∃g,PrK w1 w2 p g ((pr0 o c).acts (xs.take 0)) []):=qb ⟨g,z⟩
   clear hP z hI
   go_wp2_with fail
   go_loopw [8] (fun Y wr=>∃i:Nat,Y = .int .i64 (i:Int)∧i≤xs.length∧Hid (∃g,PrK w1 wr p g ((pr0 o c).acts (xs.take i)) [])) (fun Y _=>xs.length-(intOf Y).toNat)
   case atStart=>exact⟨0,rfl,Nat.zero_le _,HG⟩
   case round =>
    obtain⟨i,rfl,hi,HH⟩:=hrel
    obtain⟨wq,rfl⟩:∃wq:World,wq=wr:=⟨_,rfl⟩
    obtain⟨g,z⟩:=qa HH
    clear HH HG
    by_cases F:i<xs.length
    ·obtain⟨x,t⟩:∃x,xs[i]? = some x:=⟨_,List.getElem?_eq_getElem F⟩
     have a5:(i:Int)<(xs.length:Int):=by omega
     obtain⟨gv,off,rfl,O⟩:=((qa T).new z.n).at t
     have V:=q5p E f (by omega) z (qa HI i hi) x (hx x (List.mem_of_getElem? t))
     have q:=qa HI (i+1) F
     rw[←qri _ t] at V
     have j:=q.bad
     have l:=(q.end f (by omega) (show 0<2 by decide)).total
     have m:=(q.end f (by omega) (show 1<2 by decide)).total
     generalize L:(pr0 o c).acts (xs.take (i+1))=P' at *
     have R:=qb L
     have HD:=qb (And.intro j (And.intro l m))
     clear z t q j l m L
     go_wp2_with (with_reducible first|(first|refine' tw1 (qh ?_) ?_|refine' tw2 (qh ?_) ?_);rotate_left|refine' tw3 (qh ?_)|rfl|apply tn|refine' tw4 ?_)
     refine V.mono ?_
     rintro e w4 ⟨rfl,g',y⟩
     obtain⟨j,l,m⟩:=qa HD
     have cB:=y.bad
     rw[j] at cB
     have c0:=y.cell (show 0<2 by decide)
     have c1:=y.cell (show 1<2 by decide)
     have Z:=q8l E y (show 0<2 by decide)
     rw[l,show (kon o c).cap=c from rfl] at Z
     have y:=qb y
     clear V O j l
     go_wp2_with (with_reducible first|(first|refine' tw1 (qh ?_) ?_|refine' tw2 (qh ?_) ?_);rotate_left|refine' tw3 (qh ?_)|rfl|apply tn|refine' tw4 ?_)
     refine Z.mono ?_
     rintro e w5 ⟨rfl,n5⟩
     have I:=(qa y).new n5
     have c1:=I.cell (show 1<2 by decide)
     have q1:=q8l E I (show 1<2 by decide)
     rw[m,show (kon o c).cap=c from rfl] at q1
     have I:=qb I
     clear n5 Z y m cB c0
     go_wp2_with (with_reducible first|(first|refine' tw1 (qh ?_) ?_|refine' tw2 (qh ?_) ?_);rotate_left|refine' tw3 (qh ?_)|rfl|apply tn|refine' tw4 ?_)
     refine q1.mono ?_
     rintro e w6 ⟨rfl,n6⟩
     have H6:=qb ((qa I).new n6)
     clear n6 q1 I c1 HD
     go_wp2_with (with_reducible first|(first|refine' tw1 (qh ?_) ?_|refine' tw2 (qh ?_) ?_);rotate_left|refine' tw3 (qh ?_)|rfl|apply tn|refine' tw4 ?_)
     go_roundw
     case rel=>exact⟨i+1,by go_num,F,qb ⟨g',by rw[qa R];exact qa H6⟩⟩
     case measure=>simp[intOf];omega
    ·obtain rfl:i=xs.length:=by omega
     have J:=(qa D).trans z.n
     have HN:=qb J
     clear z J
     go_wp2_with (with_reducible first|(first|refine' tw1 (qh ?_) ?_|refine' tw2 (qh ?_) ?_);rotate_left|refine' tw3 (qh ?_)|rfl|apply tn|refine' tw4 ?_)
     go_ret
     exact⟨rfl,qa HN⟩
end Go.Proofs.YtjpmomdechibmaaGreatDoor
namespace Go.Proofs.YtjpmomdechibmaaGreatDoor
open Go.RowKit Go.ChangeShapes Go.WideShapes Go.ChangeAt Go.Deep
mutual
def qk{H:Type} : DataW H→List Value
 | .lit (.bool b)=>[.bool b]
 | .lit (.int k n)=>[.int k n]
 | .lit (.string b)=>[.string ⟨b.toArray⟩]
 | .agg ps=>qmm ps
 | _=>[]
def qmm{H:Type} : List (DataW H)→List Value
 | []=>[]
 | d::r=>qk d++qmm r
end
theorem qn5{H α:Type}(f:α→DataW H):∀l:List α,qmm (l.map f)=(l.map fun x=>qk (f x)).flatten
 | []=>rfl
 | x::l=>by rw[List.map_cons,List.map_cons,List.flatten_cons,←qn5 f l];rfl
section
variable {H:Type}{enc:TypeId × Value→H}{P:Program}{w:World}{base:Nat}{spare:Nat→Bool}{held:Bool}
theorem qnm{rec:TypeId→Option (List Leaf)}{cs:List Value}(m:∀t l c x j,rec t=some l→DataW.trod enc P w base spare held j t c=some x→c=qk x.1) :
  ∀(y:List Field) (o:Nat) (L:List Leaf) (xs:List (DataW H × List MemPlace)),qbj P rec o y=some L→cs.length=o+L.length→xs.length=y.length →
   (∀(i:Nat) f,y[i]? = some f→∃j,DataW.trod enc P w base spare held j f.type ((cs.drop f.offset).take (P.cellsOf f.type))=xs[i]?)→cs.drop o=qmm (xs.map (·.1))
 | [],o,L,xs,h,v,q,_=>by
  simp only[qbj,Option.some.injEq] at h
  subst h
  rw[List.length_eq_zero_iff.1 q]
  exact List.drop_eq_nil_of_le (by simp at v;omega)
 | f::r,o,L,[],h,v,q,_=>by simp at q
 | f::r,o,L,x::xs,h,v,q,E=>by
  unfold qbj at h
  cases z:rec f.type with
  | none=>rw[z] at h;cases h
  | some l =>
   rw[z] at h
   simp only at h
   split at h
   ·rename_i J
    obtain⟨O,N⟩:=J
    rw[Option.map_eq_some_iff] at h
    obtain⟨M,I,rfl⟩:=h
    obtain⟨j,C⟩:=E 0 f rfl
    have D:=m _ _ _ _ _ z (C.trans rfl)
    rw[O,N] at D
    rw[List.length_append] at v
    have F:=qnm m r (o+l.length) M xs I (by omega) (by simpa using q) (fun i g K=>E (i+1) g K)
    have e:cs.drop o=(cs.drop o).take l.length++cs.drop (o+l.length):=by
     rw[←List.drop_drop,List.take_append_drop]
    rw[e,D,F]
    rfl
   ·cases h
theorem qmw:∀(n:Nat) (t:TypeId) (l:List Leaf) (cs:List Value) (x:DataW H × List MemPlace) (g:Nat),qck P n t=some l→DataW.trod enc P w base spare held g t cs=some x→cs=qk x.1
 | 0,_,_,_,_,_,h,_=>by simp[qck] at h
 | n+1,t,l,cs,x,g,h,q=>by
  unfold qck at h
  split at h
  ·rename_i j
   obtain⟨b,rfl,rfl⟩:=DataW.trod_bool j q
   rfl
  ·rename_i k j
   obtain⟨z,rfl,rfl,N⟩:=DataW.trod_int j q
   rfl
  ·rename_i j
   obtain⟨s,rfl,rfl,N⟩:=DataW.trod_string j q
   rfl
  ·rename_i K j
   split at h
   ·rename_i L D
    split at h
    ·rename_i I
     simp only[Option.some.injEq] at h
     subst h
     obtain⟨xs,m,_,rfl,o,y,E⟩:=DataW.trod_struct j q
     have:=qnm (rec:=qck P n) (cs:=cs) (fun t l c x g C M=>qmw n t l c x g C M) K.toList 0 L xs D (by omega) (by simpa using y) fun i f F=>⟨m,E i f (by simpa using F)⟩
     exact this
    ·cases h
   ·cases h
  ·rename_i m e j
   split at h
   ·rename_i L D
    split at h
    ·rename_i I
     simp only[Option.some.injEq] at h
     subst h
     obtain⟨xs,k,_,rfl,o,y,E⟩:=DataW.trod_array j q
     show cs=qmm (xs.map (·.1))
     rw[qn5]
     refine(qo5 L.length m cs (by omega)).trans ?_
     congr 1
     apply List.ext_getElem?
     intro i
     by_cases J:i<m
     ·have C:=E i J
      rw[I.1] at C
      have v:xs[i]? = some (xs[i]'(by omega)):=List.getElem?_eq_getElem (by omega)
      rw[List.getElem?_map,List.getElem?_map,List.getElem?_range J,v]
      exact congrArg some (qmw n e _ _ _ k D (C.trans v))
     ·rw[List.getElem?_eq_none (by simp;omega),List.getElem?_eq_none (by simp;omega)]
    ·cases h
   ·cases h
  ·cases h
end
theorem qr5{P:Program}{w:World} : ∀ {f:List (String × DataW Unit)} {ps:List MemPlace},DataW.LaidVars P w f ps→∀ {n:String} {d:DataW Unit} {g:Nat} {t:TypeId} (k:Nat) {l:List Leaf},(n,d)∈f →
  P.globalNamed n=some g→(P.globals[g]?).map (·.type)=some t→qck P k t=some l→w.var? P n=some (qk d).toArray
 | [],_,_,_,_,_,_,_,_,j,_,_,_=>by simp at j
 | (F,E)::rest,_,h,n,d,g,t,k,l,j,z,C,y=>by
  obtain⟨g',I,cs,x,p,q,o,v,m,D,i,_⟩:=h
  rcases List.mem_cons.1 j with e | j
  ·cases e
   obtain rfl:=Option.some.inj (z.symm.trans o)
   obtain rfl:=Option.some.inj (C.symm.trans v)
   rw[m,←qmw k t l _ _ _ y D]
  ·exact qr5 i k j z C y
theorem qhz{P:Program}{w:World}{f:List (String × DataW Unit)}(h:laidMet P f w){n:String}{d:DataW Unit}{g:Nat}{t:TypeId}(k:Nat){l:List Leaf}(q:(n,d)∈f)
  (j:P.globalNamed n=some g) (v:(P.globals[g]?).map (·.type)=some t) (m:qck P k t=some l) (i:Nat):w.cell? ⟨g,i,none⟩=(qk d)[i]? := by
 obtain⟨ps,o,_⟩:=h
 have:=World.var?_cell j (qr5 o k q j v m) i
 simpa using this
end Go.Proofs.YtjpmomdechibmaaGreatDoor
namespace Go.Proofs.YtjpmomdechibmaaGreatDoor
open Go.ChangeShapes Go.WideShapes Go.ChangeAt Go.RowKit
section
variable {H:Type}{enc:TypeId × Value→H}{P:Program}{W:World}{base:Nat}{t e:TypeId}{v:Value}{d:DataW H}{p:List MemPlace}
end
end Go.Proofs.YtjpmomdechibmaaGreatDoor
namespace Go.Proofs.YtjpmomdechibmaaGreatDoor
open Go.RowKit Go.Sort Go.ChangeShapes Go.WideShapes Go.ChangeAt
section
variable {W:World}
set_option maxRecDepth 100000 in
theorem zd1{f:List (String × DataW Unit)}(h:laidMet Tryz.prog f W)(m1:("remitter/htlc.events",Rows.laid_remitter_htlc_events)∈f)(o:("remitter/htlc.spans",Rows.laid_remitter_htlc_spans)∈f)(q:("remitter/digest.table",Rows.laid_remitter_digest_table)∈f)(w:("remitter/digest.begin",Rows.laid_remitter_digest_begin)∈f)(x:("math/bits.deBruijn64tab",Rows.laid_math_bits_deBruijn64tab)∈f):Tb W:=by
 refine⟨⟨fun i j=> ?_⟩,⟨fun i j=> ?_⟩,⟨fun i j=> ?_,fun i j=> ?_⟩,⟨fun i j=> ?_⟩⟩
 ·rw[qhz h 5 m1 (g:=0) (by kernel_rfl) (t:=150) (by kernel_rfl) (l:=List.replicate 20 (.int .i64)) (by kernel_rfl)]
  have m:qk (H:=Unit) Rows.laid_remitter_htlc_events=qoj.map (Value.int .i64):=by rfl
  rw[m,List.getElem?_map,List.getD_eq_getElem?_getD,List.getElem?_eq_getElem (show i<qoj.length from j)]
  rfl
 ·rw[qhz h 5 o (g:=2) (by kernel_rfl) (t:=183) (by kernel_rfl) (l:=List.replicate 4 (.int .i64)) (by kernel_rfl)]
  have m:qk (H:=Unit) Rows.laid_remitter_htlc_spans=qqi.map (Value.int .i64):=by rfl
  rw[m,List.getElem?_map,List.getD_eq_getElem?_getD,List.getElem?_eq_getElem (show i<qqi.length from j)]
  rfl
 ·rw[qhz h 5 q (g:=3) (by kernel_rfl) (t:=215) (by kernel_rfl) (l:=List.replicate 64 (.int .u32)) (by kernel_rfl)]
  have m:qk (H:=Unit) Rows.laid_remitter_digest_table=qjm.map (Value.int .u32):=by rfl
  rw[m,List.getElem?_map,List.getD_eq_getElem?_getD,List.getElem?_eq_getElem (show i<qjm.length from j)]
  rfl
 ·rw[qhz h 5 w (g:=1) (by kernel_rfl) (t:=180) (by kernel_rfl) (l:=List.replicate 8 (.int .u32)) (by kernel_rfl)]
  have m:qk (H:=Unit) Rows.laid_remitter_digest_begin=qi0.map (Value.int .u32):=by rfl
  rw[m,List.getElem?_map,List.getD_eq_getElem?_getD,List.getElem?_eq_getElem (show i<qi0.length from j)]
  rfl
 ·rw[qhz h 5 x (g:=5) (by kernel_rfl) (t:=151) (by kernel_rfl) (l:=List.replicate 64 (.int .u8)) (by kernel_rfl)]
  have m:qk (H:=Unit) Rows.laid_math_bits_deBruijn64tab=Lib.deBruijn64tab.map (fun n:Nat=>Value.int .u8 n):=by rfl
  rw[m,List.getElem?_map,List.getD_eq_getElem?_getD,List.getElem?_eq_getElem (show i<Lib.deBruijn64tab.length from j)]
  rfl
end
section
variable {H:Type}{enc:TypeId × Value→H}{W:World}{base:Nat}{v:Value}{d:DataW H}{p:List MemPlace}
theorem q0t{n:Int}(h:(Lit.int .u64 n).wf=true):0≤n∧n<18446744073709551616:=by
 simp[Lit.wf,IntKind.min,IntKind.max,IntKind.signed,IntKind.bits] at h
 omega
end
end Go.Proofs.YtjpmomdechibmaaGreatDoor
namespace Go.Proofs.YtjpmomdechibmaaGreatDoor
open Go.RowKit Go.Sort Go.ChangeShapes Go.WideShapes Go.ChangeAt Go.Deep
def qmq:List Leaf:= .int .i64 :: .int .i64 :: .int .i64 :: .int .u64 :: .int .u64 :: .int .u8::(.int .i64 :: .int .u32 :: .int .u64 :: .int .u64::(List.replicate 32 (.int .u8)++[.int .i64,.int .i64]))
theorem qt0{n:Int}(h:(Lit.int .i64 n).wf=true) : -9223372036854775808≤n∧n≤9223372036854775807:=by
 simp[Lit.wf,IntKind.min,IntKind.max,IntKind.signed,IntKind.bits] at h
 omega
theorem zda{n:Int}(h:(Lit.int .u8 n).wf=true):0≤n∧n≤255:=by
 simp[Lit.wf,IntKind.min,IntKind.max,IntKind.signed,IntKind.bits] at h
 omega
theorem q4w{c:List Value}(h:qdg qmq c):∃x:ActV,c=x.cells∧x.Ok:=by
 obtain⟨_,_,rfl,⟨k,rfl,j⟩,_,_,rfl,⟨s,rfl,o⟩,_,_,rfl,⟨e,rfl,f⟩,_,_,rfl,⟨n,rfl,l⟩,_,_,rfl,⟨i,rfl,g⟩,_,_,rfl,⟨p,rfl,m⟩,h⟩:=h
 exact⟨⟨k,s,e,n,i,p,_⟩,rfl,qt0 j,qt0 o,qt0 f,q0t l,q0t g,zda m,by rw[qdg.len h];rfl⟩
theorem q0s:∀ {L:List (List Value)},(∀c∈L,∃x:ActV,c=x.cells∧x.Ok)→∃xs:List ActV,L=xs.map ActV.cells∧∀x∈xs,x.Ok
 | [],_=>⟨[],rfl,fun x h=>(by cases h)⟩
 | c::L,h=>by
  obtain⟨x,rfl,j⟩:=h c (List.mem_cons_self ..)
  obtain⟨xs,rfl,i⟩:=q0s fun c g=>h c (List.mem_cons_of_mem _ g)
  exact⟨x::xs,rfl,by intro y f;rcases List.mem_cons.1 f with rfl | f;exact j;exact i y f⟩
theorem Tryz.flatAct:qck Tryz.prog 5 75=some qmq:=by kernel_rfl
theorem Tryz.cellsAct:Tryz.prog.cellsOf 75=44:=by kernel_rfl
theorem qun{w:World}{g o n:Nat}{A:List Value}(y:A.length=n)(x:0<n)(h:∀j,j<n→w.cell? ⟨g,o+j,none⟩=A[j]?):zr w g o n=some A.toArray:=by
 have f:=h (n-1) (by omega)
 rw[List.getElem?_eq_getElem (by omega)] at f
 unfold World.cell? at f
 cases i:w.heap[g]? with
 | none=>simp[i] at f
 | some t =>
  rw[i] at f
  cases t with
  | cells C T l =>
   have q:o+(n-1)<C.size:=by
    by_cases e:o+(n-1)<C.size
    ·exact e
    ·rw[show (Obj.cells C T l) = .cells C T l from rfl] at f
     have:C[o+(n-1)]? = none:=by simp;omega
     simp[this] at f
   rw[qbz i o n (by omega)]
   congr 1
   apply Array.ext'
   apply List.ext_getElem?
   intro j
   rw[Array.getElem?_toList,Array.getElem?_extract]
   by_cases m:j<n
   ·rw[if_pos (by omega),←qg i,h j m]
   ·rw[if_neg (by omega),List.getElem?_eq_none (by simp;omega)]
  | _=>simp at f
section
variable {H:Type}{enc:TypeId × Value→H}{W:World}{base:Nat}{v:Value}{d:DataW H}{p:List MemPlace}
theorem ActV.cells_len{x:ActV}(h:x.Ok):x.cells.length=44:=by
 unfold ActV.cells
 simp only[List.length_cons,h.rest]
set_option maxRecDepth 100000 in
theorem q3q(y:Value.okWide Tryz.prog W .any base 72 v)(h:DataW.Trod enc Tryz.prog W 0 (fun _=>true) true 72 v d p) :
  ∃xs:List ActV,qqw W v xs∧∀x∈xs,x.Ok:=by
 have l:qmq.length=44:=rfl
 obtain⟨L,t,q⟩:=qoc 5 Tryz.underlying72 Tryz.flatAct (by rw[Tryz.cellsAct,l]) (by rw[l];decide) y h
 obtain⟨xs,rfl,f⟩:=q0s (fun c q=>q4w (t c q))
 rcases q with ⟨a,c,rfl,e⟩ | ⟨g,off,cap,e,z,C,D,_,o⟩
 ·obtain rfl:xs=[]:=by simpa using e
  exact⟨[],.inl ⟨_,_,rfl,rfl⟩,fun x m=>(by cases m)⟩
 ·rw[List.length_map] at e
  refine⟨xs,.inr ⟨g,off,cap,e,fun i x m=> ?_⟩,f⟩
  refine qun (ActV.cells_len (f x (List.mem_of_getElem? m))) (by decide) fun j w=> ?_
  have:=o i x.cells (by rw[List.getElem?_map,m];rfl) j (by rw[l];exact w)
  rw[l] at this
  rw[←this,Nat.add_assoc]
end
end Go.Proofs.YtjpmomdechibmaaGreatDoor
namespace Go.Proofs.YtjpmomdechibmaaGreatDoor
open Go.RowKit
theorem qy8(o c:Int)(v:Value)(xs:List ActV)(W:World)(f:(Lit.int .u64 o).wf=true)(g:(Lit.int .u64 c).wf=true)(l:∀x∈xs,x.Ok)(j:qqw W v xs)(i:Tb W):Calls Tryz.prog 8 #[.int .u64 o,.int .u64 c,v] W (qa5 (.bool true) W) :=
 q25 o c v xs W (q0t f) (q0t g) j l i
end Go.Proofs.YtjpmomdechibmaaGreatDoor
