/-
  Law 13: hears (printed by tools/mk_pr3.py).
-/
import Derived.Test.YtjpmomdechibmaaGreatDoorMda
import Derived.Laws.OwnMore
set_option linter.unusedVariables false
set_option linter.unusedSimpArgs false
namespace Go.Proofs.YtjpmomdechibmaaGreatDoor
open Go.RowKit
theorem qq5(ls:List MsgV)(h:∀l∈ls,l.hash.length=32):(ls.flatMap MsgV.cells).length=ls.length*38:=by
 induction ls with
 | nil=>rfl
 | cons x xs g =>
  rw[List.flatMap_cons,List.length_append,g (fun l f=>h l (List.mem_cons_of_mem _ f)),x.len (h x List.mem_cons_self),List.length_cons,Nat.succ_mul]
  omega
theorem q8y(ls:List MsgV):∀u∈ls.flatMap MsgV.cells,u.oneCell'=true:=by
 intro u g
 obtain⟨l,-,f⟩:=List.mem_flatMap.1 g
 exact l.one u f
theorem qb6{w:World}{z:Array Oper}{rest:List Oper}{o:Oper}{a:Act}{Q:Exit→Act→World→Prop}(q:o.guard=none)(s x:Operand)
  (M:o.op = .call {callee:= .builtin .append,args:=#[s,x],argTypes:=#[35,35]})
  (base:Nat) (v:Value) (n:Nat) (xs:List Value) (N:a.eval s=v) (f:w.ownsRow base 30 38 v n xs)
  (ls:List MsgV) (E:∀l∈ls,MsgOk l) (L:Value) (O:a.eval x=L)
  (y:(L = .slice none 0 0∧ls=[])∨∃C c,L = .slice (some C) ls.length c∧∀j u,(ls.flatMap MsgV.cells)[j]? = some u→w.cell? (C.add j)=some u)
  (m:n+ls.length≤1000000) (g:base≤w.heap.size)
  (h:∀i w',w'.ownsRow base 30 38 i (n+ls.length) (xs++ls.flatMap MsgV.cells)→Upd (fun k=>v.ownBlock=some k) w w'→(i.ownBlock=v.ownBlock∨i.ownBlock=some w.heap.size)→wpList Tryz.prog z Q rest (a.put o.dst i) w') :
  wpList Tryz.prog z Q (o::rest) a w:=by
 obtain⟨R,z9,T,t,J,F,H,I,D⟩:=qkp
 rcases y with ⟨rfl,rfl⟩ | ⟨C,c,rfl,Y⟩
 ·refine wpList_plain q fun K X=> ?_
  have hr:=run_append_owned_none (P:=Tryz.prog) (w:=w) base 35 o.type 30 R 38 Tryz.underlying35 t v n xs f
  unfold Oper.wp execOp
  simp only[M,resolve,invoke,builtin,Sem.run_bind,Sem.run_pure,Result.andThen_ok,List.map_toArray,List.map_cons,List.map_nil,N,O,hr]
  refine X _ _ (h v w ?_ (Upd.refl _ _) (.inl rfl))
  rw[List.length_nil,Nat.add_zero,List.flatMap_nil,List.append_nil]
  exact f
 ·refine wpList_append_own_at (P:=Tryz.prog) w q s x 35 M base 30 R _ 38 T Tryz.underlying35 t J F H I (by decide) v n xs N f C ls.length c (ls.flatMap MsgV.cells) O (qq5 ls (fun l hl=>(E l hl).len)) Y (q8y ls) (by unfold maxLen;omega) (by have:=Nat.mul_le_mul m D;omega) g ?_
  intro i w' U V _ W
  exact h i w' U ((Upd.refl _ _).grown V (fun k Z _=>Z)) W
theorem qhp{w:World}{ls:List MsgV}{base:Nat}{v:Value}(i:∀l∈ls,l.hash.length=32)(h:w.ownsRow base 30 38 v ls.length (ls.flatMap MsgV.cells)) :
  (v = .slice none 0 0∧ls=[])∨∃m c',v = .slice (some m) ls.length c'∧∀j u,(ls.flatMap MsgV.cells)[j]? = some u→w.cell? (m.add j)=some u:=by
 rcases h.2 with ⟨e,t⟩ | ⟨g,cap,q,e,y,C,z,_,D,E⟩
 ·exact .inl ⟨e,List.length_eq_zero_iff.1 t⟩
 ·refine .inr ⟨⟨g,0,none⟩,cap,e,?_⟩
  intro j u o
  rw[e] at h
  have f:=(List.getElem?_eq_some_iff.1 o).1
  rw[qq5 ls i] at f
  have:=World.ownsRow.cellAt h j f
  have x:(⟨g,0,none⟩:Addr).add j=⟨g,j,none⟩:=by cases j<;>simp[Addr.add]
  rw[x,this]
  exact o
theorem qyn{w:World}{base:Nat}{v:Value}{m:MsgV}{f:List MsgV}(h:w.ownsRow base 30 38 v (m::f).length ((m::f).flatMap MsgV.cells)):∃g cap,v = .slice (some ⟨g,0,none⟩) (f.length+1) cap∧f.length+1≤cap:=by
 rcases h.2 with ⟨e,l⟩ | ⟨g,cap,i,e,q,t,o,_,x,y⟩
 ·simp at l
 ·exact⟨g,cap,e,o⟩
theorem qyo{w:World}{base:Nat}{v:Value}{m:MsgV}{f:List MsgV}(h:w.ownsRow base 30 38 v (m::f).length ((m::f).flatMap MsgV.cells)){g cap:Nat}(y:v = .slice (some ⟨g,0,none⟩) (f.length+1) cap)(o:m.hash.length=32)(q:∀l∈f,l.hash.length=32) :
  zx w g 0 38=some m.cells.toArray∧∀j u,(f.flatMap MsgV.cells)[j]? = some u→w.cell? ((⟨g,38,none⟩:Addr).add j)=some u:=by
 obtain⟨g',t,e,-,z,-⟩:=qcu.row0 (base:=base) h o
 rw[y] at e
 injection e with e1 e2 e3
 injection e1 with e1
 injection e1 with e1
 subst e1
 refine⟨z,?_⟩
 intro j u x
 rw[y] at h
 have i:=(List.getElem?_eq_some_iff.1 x).1
 rw[qq5 f q] at i
 have:=World.ownsRow.cellAt h (38+j) (by omega)
 have e:(⟨g,38,none⟩:Addr).add j=⟨g,38+j,none⟩:=by simp[Addr.add]
 rw[e,this,List.flatMap_cons,List.getElem?_append_right (by rw[m.len o];omega),m.len o,Nat.add_sub_cancel_left]
 exact x
theorem zay(w:World):(q64 0 #[]).run Tryz.prog w = .ok (.slice (some ⟨w.heap.size,0,none⟩) 0 0) (w.alloc (.cells #[] 30)):=by
 obtain⟨i,z,g,l,m⟩:=qdy Tryz.zeroMsg
 have f:i.size=38:=by have:=Tryz.infoMsg;rw[g] at this;simpa using this
 show (Instr.buildSlice 35 0 #[]).run Tryz.prog w=_
 simp[Instr.buildSlice,run_underlying Tryz.underlying35,sizeOf,typeInfo,zeroValue,g,l,f,Instr.fill,newRow]
 rw[Array.eq_empty_of_size_eq_zero (xs:=Array.map _ (Array.range 0)) (by simp)]
section
variable {w0 w:World}{p gA gB:Nat}{SA SB:Nat→Prop}{a b:Ch}{wa wb:List MsgV}{ua ub:Value}{bad:Bool}
theorem PrP.putBad(h:PrP w0 w p gA gB SA SB a b wa wb ua ub bad)(c:Bool):PrP w0 (w.setCell ⟨p,4,none⟩ (.bool c)) p gA gB SA SB a b wa wb ua ub c:=by
 have g:Upd (· = p) w (w.setCell ⟨p,4,none⟩ (.bool c)):=(Upd.refl _ _).set1 4 _
 have o:¬(ua.ownBlock=some p):=fun e=>by
  obtain⟨i,l⟩:=q8 h.rowA p e
  exact ze h.at_ l (by decide) rfl
 have m:¬(ub.ownBlock=some p):=fun e=>by
  obtain⟨i,l⟩:=q8 h.rowB p e
  exact ze h.at_ l (by decide) rfl
 exact⟨h.two.put h.off h.ge g,zz h.at_ 4 (.bool c),h.off.new g.size,h.ge,qu h.rowA g (fun k f e=>o (e▸f)),qu h.rowB g (fun k f e=>m (e▸f)),fun k f=>(h.offA k f).new g.size,fun k f=>(h.offB k f).new g.size,h.sep,h.okA,h.okB⟩
end
attribute [local go_sem ↓ high] qab qac qag qah qe0
attribute [local go_sem] qcy qc0 qc2 qng zay zq
set_option maxRecDepth 100000 in
set_option maxHeartbeats 1000000 in
theorem qxl(w0:World)(p:Nat)(S:Nat→Prop)(a b:Ch)(wb:List MsgV)(bad:Bool)(w:World)(h:PrS w0 w p S a b [] wb bad) :
  Calls Tryz.prog 15 #[.pointer (some ⟨p,0,none⟩),.int .i64 0] w (qa7 (.bool false) w):=by
 obtain⟨gA,gB,SA,SB,ua,ub,l,g,f⟩:=h
 have o:w.cell? ⟨p,2,none⟩=some ua:=qh l.at_ 2
 obtain⟨q,m,i⟩:=qx l.rowA
 rw[i] at o
 clear l i g f
 go_enter Tryz.func15,Tryz.ntmps15
 go_wp2_with (with_reducible first|(first|refine' zr (qg ?_) ?_|refine' zt (qg ?_) ?_);rotate_left|refine' zu (qg ?_)|rfl|apply tn|refine' zv ?_)
 go_ret
 exact⟨rfl,Upd.refl _ _⟩
set_option maxRecDepth 100000 in
set_option maxHeartbeats 2000000 in
theorem q0f(w0:World)(hT:Tb w0)(p:Nat)(S:Nat→Prop)(a b:Ch)(m:MsgV)(ms wb:List MsgV)(bad:Bool)(w:World)(h:PrS w0 w p S a b (m::ms) wb bad)
  (c':Ch) (ls:List MsgV) (n:Int) (X:∀l∈ls,MsgOk l) (b5:ms.length<1000000∧wb.length+ls.length≤1000000)
  (hH:∀(W:World) (g:Nat) (S':Nat→Prop),ChS W g S' a→Apart S'→Tb W→Calls Tryz.prog 18 #[.pointer (some ⟨g,0,none⟩),.agg m.cells.toArray] W (qgc g S' W c' ls n)) :
  Calls Tryz.prog 15 #[.pointer (some ⟨p,0,none⟩),.int .i64 0] w fun e w'=>e = .returned (.bool true)∧PrS w0 w' p (Fr S w w') c' b ms (wb++ls) (bad || decide (n≠0))∧Upd S w w':=by
 have c1:=qb h.le
 obtain⟨gA,gB,SA,SB,ua,ub,hP,d2,d1⟩:=h
 have c2:w.cell? ⟨p,2,none⟩=some ua:=qh hP.at_ 2
 obtain⟨g,cap,d0,g6⟩:=qyn hP.rowA
 have hm:MsgOk m:=hP.okA m List.mem_cons_self
 have e3:∀l∈ms,MsgOk l:=fun l hl=>hP.okA l (List.mem_cons_of_mem _ hl)
 obtain⟨g9,b4⟩:=qyo hP.rowA d0 hm.len (fun l hl=>(e3 l hl).len)
 have HP:=qb hP
 have H1:=qb d2
 have H2:=qb d1
 have HC:=qb b4
 have f1:=qb d0
 have e2:(0:Int)<((ms.length+1:Nat):Int):=by omega
 have g7:ms.length+1≤9223372036854775807:=by omega
 rw[d0] at c2
 have h4:p<w.heap.size:=zw hP.at_
 clear hP d2 d1 b4 d0
 go_enter Tryz.func15,Tryz.ntmps15
 obtain⟨h1,hA,nA⟩:=qes w m hm.len
 go_upto_region 4 with (with_reducible first|(first|refine' zr (qg ?_) ?_|refine' zt (qg ?_) ?_);rotate_left|refine' zu (qg ?_)|rfl|apply tn|refine' zv ?_)
 change Code.wp _ _ _ _ (qea w m)
 have b6:=qb ((qa HP).new nA)
 have b8:=nA.cell c2 (fun h=>h)
 have e0:=qb (show ∀j u,(ms.flatMap MsgV.cells)[j]? = some u→(qea w m).cell? ((⟨g,38,none⟩:Addr).add j)=some u from fun j u hj=>nA.cell (qa HC j u hj) (fun h=>h))
 have NA:=qb nA
 have h0:=nA.size
 clear h1 c2 g9 HP HC nA
 generalize qea w m=w1 at hA b6 b8 e0 NA h0 ⊢
 obtain⟨A,f7⟩:∃A,A=w.heap.size:=⟨_,rfl⟩
 rw[←f7] at hA ⊢
 have g4:A≠p:=by omega
 have HA:=qb hA
 have h5:w.heap.size≤A:=by omega
 have d4:w0.heap.size≤w1.heap.size:=(qa b6).two.n.size
 have f2:w1.frozen? ⟨p,2,none⟩=false:=qq (qa b6).at_ 2
 have f5:w1.drew.cell? ⟨p,2,none⟩=some (.slice (some ⟨g,0,none⟩) (ms.length+1) cap):=b8
 clear hA f7
 refine qb5 (fun w'=>w'.cell? ⟨p,2,none⟩=some (.slice (some ⟨g,0,none⟩) (ms.length+1) cap)) [8] (.of [0,1,2,3,4,5,6,7,8,9,10,11,12,13,14]) (by kernel_rfl) (by kernel_rfl) f5 ?_
 simp only[Plan.of]
 go_wp2_with (with_reducible first|(first|refine' qw1 (qg ?_) ?_|refine' qw2 (qg ?_) ?_|refine' qw3 (qg ?_) ?_);rotate_left|refine' qw4 (qg ?_)|refine' qw5 (qg ?_)|rfl|apply qn)
 refine⟨((Upd.refl (fun _=>False) w1).alloc _).drew.cell b8 (fun h=>h),?_⟩
 have nB:qy w1 (w1.alloc (.cells #[] 30)).drew:=((Upd.refl _ _).alloc _).drew
 have hO:(w1.alloc (.cells #[] 30)).drew.ownsRow w0.heap.size 30 38 (.slice (some ⟨w1.heap.size,0,none⟩) 0 0) 0 []:=World.ownsRow_made (base:=w0.heap.size) (e:=30) (size:=38) w1 #[] 0 d4 (by decide) rfl
 have d9:=qb (show ∃ad,(if cap=1 then some (⟨g,0,none⟩:Addr) else some ⟨g,38,none⟩)=some ad∧∀j u,(ms.flatMap MsgV.cells)[j]? = some u→(w1.alloc (.cells #[] 30)).drew.cell? (ad.add j)=some u by
  by_cases g1:cap=1
  ·rw[if_pos g1]
   refine⟨_,rfl,?_⟩
   intro j u hj
   have g8:ms=[]:=List.length_eq_zero_iff.1 (by omega)
   rw[g8] at hj
   simp at hj
  ·rw[if_neg g1]
   exact⟨_,rfl,fun j u hj=>nB.cell (qa e0 j u hj) (fun h=>h)⟩)
 have f6:=nB.cell b8 (fun h=>h)
 have HO:=qb hO
 have NB:=qb nB
 have d5:w0.heap.size≤(w1.alloc (.cells #[] 30)).drew.heap.size:=Nat.le_trans d4 nB.size
 clear b8 f5 f2 nB hO e0
 generalize (w1.alloc (.cells #[] 30)).drew=w2 at HO NB d9 f6 d5 ⊢
 obtain⟨D,d8⟩:∃D,D=w1.heap.size:=⟨_,rfl⟩
 rw[←d8] at HO ⊢
 have f0:=qb d8
 clear d8
 go_wp2_with (first | (at_builtin;obtain⟨ad,g3,g2⟩:=qa d9;rw[g3];clear g3;refine qb6 rfl (.tmp 26) (.tmp 33) rfl w0.heap.size _ 0 [] rfl (qa HO) ms e3 _ rfl (.inr ⟨ad,_,rfl,g2⟩) ?c3 d5 ?_) | (with_reducible first|(first|refine' qw1 (qg ?_) ?_|refine' qw2 (qg ?_) ?_|refine' qw3 (qg ?_) ?_);rotate_left|refine' qw4 (qg ?_)|refine' qw5 (qg ?_)|rfl|apply qn))
 case c3=>omega
 intro v' w3 a5 u3 d3
 change w3.ownsRow w0.heap.size 30 38 v' ms.length (ms.flatMap MsgV.cells) at a5
 clear g2
 have hD:=qa f0
 have nb:=qa NB
 have b9:qy w1 w3:=nb.then u3 (fun i hi e=>by simp[Value.ownBlock] at e;omega)
 have e5:∀k,v'.ownBlock=some k→w1.heap.size≤k:=fun k f=>by
  have:=nb.size
  rcases d3 with e | e
  ·rw[e] at f;simp[Value.ownBlock] at f;omega
  ·rw[e] at f;injection f with f;omega
 have g0:=(qa b6).putA (b9.mono (fun _ _ h=>h.elim)) a5 (fun k f=> .inr (e5 k f)) e3
 have d7:=b9.old (qa b6).at_ (fun h=>h)
 have c3:w3.cell? ⟨p,2,none⟩=some ua:=qh d7 2
 rw[qa f1] at c3
 have f3:w3.frozen? ⟨p,2,none⟩=false:=qq d7 2
 have e8:Upd (· = p) w3 (w3.setCell ⟨p,2,none⟩ v'):=(Upd.refl _ _).set1 2 _
 have e9:=qb (((qa HA).new b9).upd e8 (fun e=>g4 e))
 have U4:=qb (((qa NA).mono (fun _ _ h=>h.elim):Upd (· = p) _ _).trans ((b9.mono (fun _ _ h=>h.elim):Upd (· = p) _ _).trans e8))
 have d6:=qb g0
 have c7:=qb e5
 obtain⟨va,vc,e4⟩:=qx a5
 have HV:=qb e4
 clear a5 u3 d3 hD nb b9 e5 g0 d7 e8 g6 e2 d9 f6 HO NB f0 b6 HA NA f1
 rw[e4]
 clear e4
 go_upto_region 5 with (with_reducible first|(first|refine' qw1 (qg ?_) ?_|refine' qw2 (qg ?_) ?_|refine' qw3 (qg ?_) ?_);rotate_left|refine' qw4 (qg ?_)|refine' qw5 (qg ?_)|rfl|apply qn)
 rw[←qa HV]
 generalize w3.setCell ⟨p,2,none⟩ v'=w4 at e9 U4 d6 ⊢
 clear c3 f3 HV
 clear va vc
 have a6:=qb ((qa d6).new ((Upd.refl (fun _=>False) w4).drew))
 have c0:w4.cell? ⟨p,0,none⟩=some (.pointer (some ⟨gA,0,none⟩)):=qh (qa d6).at_ 0
 have rA:=(qa e9).row
 have hh:=hH w4.drew gA SA (qa a6).two.A ((qa a6).two.apA hT) (hT.new (qa a6).two.n)
 clear hH
 go_wp2_with (with_reducible first|(first|refine' zr (qg ?_) ?_|refine' zt (qg ?_) ?_);rotate_left|refine' zu (qg ?_)|rfl|apply tn|refine' zv ?_)
 refine hh.mono ?_
 rintro e w6 ⟨v,rfl,hv,hc,hu⟩
 have a7:=qb ((qa a6).opA hc hu)
 have b7:=qb (((Upd.refl SA w4).drew).trans hu)
 have f9:¬(v.ownBlock=some p):=fun e=>by
  obtain⟨c9,g5⟩:=q8 hv p e
  exact ze (qa a7).at_ g5 (by decide) rfl
 have c6:=qb hv
 have c5:=qb f9
 have c4:w6.cell? ⟨p,4,none⟩=some (.bool bad):=qh (qa a7).at_ 4
 have f4:w6.frozen? ⟨p,4,none⟩=false:=qq (qa a7).at_ 4
 clear hh c0 rA hc hu hv f9 a6
 have h2:=(qa U4).size
 have h3:=(qa b7).size
 by_cases hn:n=0
 ·cases bad
  ·go_upto_region 7 with (with_reducible first|(first|refine' zr (qg ?_) ?_|refine' zt (qg ?_) ?_);rotate_left|refine' zu (qg ?_)|rfl|apply tn|refine' zv ?_)
   have E:=(qa a7).putBad false
   have J:Upd (· = p) w6 (w6.setCell ⟨p,4,none⟩ (.bool false)):=(Upd.refl _ _).set1 4 _
   have T:=qu (qa c6) J (fun k f e=>qa c5 (e▸f))
   generalize w6.setCell ⟨p,4,none⟩ (.bool false)=V at E J T ⊢
   have z:=E.new ((Upd.refl (fun _=>False) V).drew)
   have Y:V.cell? ⟨p,3,none⟩=some ub:=qh E.at_ 3
   obtain⟨ya,yc,hy⟩:=qx E.rowB
   rw[hy] at Y
   have H:=z.rowB
   rw[hy] at H
   have HN:=qb H
   have K:=qb (qhp (w:=V.drew) (fun l hl=>(X l hl).len) T)
   have Z:w0.heap.size≤V.drew.heap.size:=z.two.n.size
   have o:=qb z
   have HY:=qb hy
   have L:=qb J
   clear c4 f4 E z J T H hy
   go_wp2_with (first | (at_builtin;refine qb6 rfl (.tmp 69) (.tmp 70) rfl w0.heap.size _ wb.length _ rfl (qa HN) ls X _ rfl (qa K) ?c3 Z ?_) | (with_reducible first|(first|refine' zr (qg ?_) ?_|refine' zt (qg ?_) ?_);rotate_left|refine' zu (qg ?_)|rfl|apply tn|refine' zv ?_))
   case c3=>exact b5.2
   intro U O y N x
   rw[←qa HY] at N x
   have F:O.ownsRow w0.heap.size 30 38 U (wb++ls).length ((wb++ls).flatMap MsgV.cells):=by
    rw[List.length_append,List.flatMap_append]
    exact y
   have t:∀k,U.ownBlock=some k→ub.ownBlock=some k∨V.heap.size≤k:=fun k f=>by
    rcases x with e | e
    ·exact .inl (e▸f)
    ·rw[e] at f
     injection f with f
     exact .inr (Nat.le_of_eq f)
   have C:=(qa o).putB N F t (fun l hl=>by
    rcases List.mem_append.1 hl with e | e
    ·exact(qa o).okB l e
    ·exact X l e)
   have b3:¬(ub.ownBlock=some p):=fun e=>by
    obtain⟨c9,hc⟩:=q8 (qa o).rowB p e
    exact ze (qa o).at_ hc (by decide) rfl
   have P:=N.old (qa o).at_ b3
   have c8:O.cell? ⟨p,3,none⟩=some ub:=qh P 3
   have f8:O.frozen? ⟨p,3,none⟩=false:=qq P 3
   have I:Upd (· = p) O (O.setCell ⟨p,3,none⟩ U):=(Upd.refl _ _).set1 3 _
   obtain⟨va,vc,R⟩:=qx y
   rw[R]
   have a8:=qb R
   have HF:=qb (And.intro C (And.intro N (And.intro I t)))
   clear R C N I t y F x P Y HN K o
   rw[qa HY] at c8
   go_wp2_with (with_reducible first|(first|refine' zr (qg ?_) ?_|refine' zt (qg ?_) ?_);rotate_left|refine' zu (qg ?_)|rfl|apply tn|refine' zv ?_)
   go_ret
   have a9:(false || decide (n≠0))=false:=by simp[hn]
   rw[←qa a8,a9]
   obtain⟨C,N,I,t⟩:=qa HF
   have q:=qa H1
   have u4:=qa U4
   have e6:=(qa L).size
   have s8:V.heap.size≤O.heap.size:=N.size
   have e7:=I.size
   have e1:=qa c1
   have a4:Upd S w (O.setCell ⟨p,3,none⟩ U):=((((u4.mono (fun k _ e=>q k (by simp[e]))).trans ((qa b7).mono (fun k _ e=>q k (by simp[e])))).trans ((qa L).mono (fun k _ e=>q k (by simp[e])))).trans ((((Upd.refl S V).drew)).trans (N.mono (fun k _ e=>q k (by simp[e]))))).trans (I.mono (fun k _ e=>q k (by simp[e])))
   have M:∀k,(v'.ownBlock=some k∨U.ownBlock=some k)→k<(O.setCell ⟨p,3,none⟩ U).heap.size:=fun k f=>by
    rcases f with f | f
    ·exact(C.offA k f).lt
    ·exact(C.offB k f).lt
   refine⟨rfl,⟨gA,gB,(Fr SA w4.drew w6),SB,v',U,C,?_,?_⟩,a4⟩
   ·rintro k (f | f | f | f | f)
    ·rcases f with f | f
     ·exact .inl (q k (by simp[f]))
     ·exact .inr ⟨by have:=f.1;have e:w4.drew.heap.size=w4.heap.size:=rfl;omega,by omega⟩
    ·exact .inl (q k (by simp[f]))
    ·exact .inl (q k (by simp[f]))
    ·exact .inr ⟨by have:=qa c7 k f;omega,(M k (.inl f))⟩
    ·rcases t k f with e | e
     ·exact .inl (q k (by simp[e]))
     ·exact .inr ⟨by omega,(M k (.inr f))⟩
   ·rintro k (f | f)
    ·have:=qa H2 k f
     exact⟨this.1,by omega⟩
    ·exact⟨by omega,f.2⟩
  ·go_upto_region 7 with (with_reducible first|(first|refine' zr (qg ?_) ?_|refine' zt (qg ?_) ?_);rotate_left|refine' zu (qg ?_)|rfl|apply tn|refine' zv ?_)
   have E:=(qa a7).putBad true
   have J:Upd (· = p) w6 (w6.setCell ⟨p,4,none⟩ (.bool true)):=(Upd.refl _ _).set1 4 _
   have T:=qu (qa c6) J (fun k f e=>qa c5 (e▸f))
   generalize w6.setCell ⟨p,4,none⟩ (.bool true)=V at E J T ⊢
   have z:=E.new ((Upd.refl (fun _=>False) V).drew)
   have Y:V.cell? ⟨p,3,none⟩=some ub:=qh E.at_ 3
   obtain⟨ya,yc,hy⟩:=qx E.rowB
   rw[hy] at Y
   have H:=z.rowB
   rw[hy] at H
   have HN:=qb H
   have K:=qb (qhp (w:=V.drew) (fun l hl=>(X l hl).len) T)
   have Z:w0.heap.size≤V.drew.heap.size:=z.two.n.size
   have o:=qb z
   have HY:=qb hy
   have L:=qb J
   clear c4 f4 E z J T H hy
   go_wp2_with (first | (at_builtin;refine qb6 rfl (.tmp 69) (.tmp 70) rfl w0.heap.size _ wb.length _ rfl (qa HN) ls X _ rfl (qa K) ?c3 Z ?_) | (with_reducible first|(first|refine' zr (qg ?_) ?_|refine' zt (qg ?_) ?_);rotate_left|refine' zu (qg ?_)|rfl|apply tn|refine' zv ?_))
   case c3=>exact b5.2
   intro U O y N x
   rw[←qa HY] at N x
   have F:O.ownsRow w0.heap.size 30 38 U (wb++ls).length ((wb++ls).flatMap MsgV.cells):=by
    rw[List.length_append,List.flatMap_append]
    exact y
   have t:∀k,U.ownBlock=some k→ub.ownBlock=some k∨V.heap.size≤k:=fun k f=>by
    rcases x with e | e
    ·exact .inl (e▸f)
    ·rw[e] at f
     injection f with f
     exact .inr (Nat.le_of_eq f)
   have C:=(qa o).putB N F t (fun l hl=>by
    rcases List.mem_append.1 hl with e | e
    ·exact(qa o).okB l e
    ·exact X l e)
   have b3:¬(ub.ownBlock=some p):=fun e=>by
    obtain⟨c9,hc⟩:=q8 (qa o).rowB p e
    exact ze (qa o).at_ hc (by decide) rfl
   have P:=N.old (qa o).at_ b3
   have c8:O.cell? ⟨p,3,none⟩=some ub:=qh P 3
   have f8:O.frozen? ⟨p,3,none⟩=false:=qq P 3
   have I:Upd (· = p) O (O.setCell ⟨p,3,none⟩ U):=(Upd.refl _ _).set1 3 _
   obtain⟨va,vc,R⟩:=qx y
   rw[R]
   have a8:=qb R
   have HF:=qb (And.intro C (And.intro N (And.intro I t)))
   clear R C N I t y F x P Y HN K o
   rw[qa HY] at c8
   go_wp2_with (with_reducible first|(first|refine' zr (qg ?_) ?_|refine' zt (qg ?_) ?_);rotate_left|refine' zu (qg ?_)|rfl|apply tn|refine' zv ?_)
   go_ret
   have a9:(true || decide (n≠0))=true:=by simp[hn]
   rw[←qa a8,a9]
   obtain⟨C,N,I,t⟩:=qa HF
   have q:=qa H1
   have u4:=qa U4
   have e6:=(qa L).size
   have s8:V.heap.size≤O.heap.size:=N.size
   have e7:=I.size
   have e1:=qa c1
   have a4:Upd S w (O.setCell ⟨p,3,none⟩ U):=((((u4.mono (fun k _ e=>q k (by simp[e]))).trans ((qa b7).mono (fun k _ e=>q k (by simp[e])))).trans ((qa L).mono (fun k _ e=>q k (by simp[e])))).trans ((((Upd.refl S V).drew)).trans (N.mono (fun k _ e=>q k (by simp[e]))))).trans (I.mono (fun k _ e=>q k (by simp[e])))
   have M:∀k,(v'.ownBlock=some k∨U.ownBlock=some k)→k<(O.setCell ⟨p,3,none⟩ U).heap.size:=fun k f=>by
    rcases f with f | f
    ·exact(C.offA k f).lt
    ·exact(C.offB k f).lt
   refine⟨rfl,⟨gA,gB,(Fr SA w4.drew w6),SB,v',U,C,?_,?_⟩,a4⟩
   ·rintro k (f | f | f | f | f)
    ·rcases f with f | f
     ·exact .inl (q k (by simp[f]))
     ·exact .inr ⟨by have:=f.1;have e:w4.drew.heap.size=w4.heap.size:=rfl;omega,by omega⟩
    ·exact .inl (q k (by simp[f]))
    ·exact .inl (q k (by simp[f]))
    ·exact .inr ⟨by have:=qa c7 k f;omega,(M k (.inl f))⟩
    ·rcases t k f with e | e
     ·exact .inl (q k (by simp[e]))
     ·exact .inr ⟨by omega,(M k (.inr f))⟩
   ·rintro k (f | f)
    ·have:=qa H2 k f
     exact⟨this.1,by omega⟩
    ·exact⟨by omega,f.2⟩
 ·cases bad
  ·go_upto_region 7 with (with_reducible first|(first|refine' zr (qg ?_) ?_|refine' zt (qg ?_) ?_);rotate_left|refine' zu (qg ?_)|rfl|apply tn|refine' zv ?_)
   rw[show (n != 0)=true by simp[hn]]
   have E:=(qa a7).putBad true
   have J:Upd (· = p) w6 (w6.setCell ⟨p,4,none⟩ (.bool true)):=(Upd.refl _ _).set1 4 _
   have T:=qu (qa c6) J (fun k f e=>qa c5 (e▸f))
   generalize w6.setCell ⟨p,4,none⟩ (.bool true)=V at E J T ⊢
   have z:=E.new ((Upd.refl (fun _=>False) V).drew)
   have Y:V.cell? ⟨p,3,none⟩=some ub:=qh E.at_ 3
   obtain⟨ya,yc,hy⟩:=qx E.rowB
   rw[hy] at Y
   have H:=z.rowB
   rw[hy] at H
   have HN:=qb H
   have K:=qb (qhp (w:=V.drew) (fun l hl=>(X l hl).len) T)
   have Z:w0.heap.size≤V.drew.heap.size:=z.two.n.size
   have o:=qb z
   have HY:=qb hy
   have L:=qb J
   clear c4 f4 E z J T H hy
   go_wp2_with (first | (at_builtin;refine qb6 rfl (.tmp 69) (.tmp 70) rfl w0.heap.size _ wb.length _ rfl (qa HN) ls X _ rfl (qa K) ?c3 Z ?_) | (with_reducible first|(first|refine' zr (qg ?_) ?_|refine' zt (qg ?_) ?_);rotate_left|refine' zu (qg ?_)|rfl|apply tn|refine' zv ?_))
   case c3=>exact b5.2
   intro U O y N x
   rw[←qa HY] at N x
   have F:O.ownsRow w0.heap.size 30 38 U (wb++ls).length ((wb++ls).flatMap MsgV.cells):=by
    rw[List.length_append,List.flatMap_append]
    exact y
   have t:∀k,U.ownBlock=some k→ub.ownBlock=some k∨V.heap.size≤k:=fun k f=>by
    rcases x with e | e
    ·exact .inl (e▸f)
    ·rw[e] at f
     injection f with f
     exact .inr (Nat.le_of_eq f)
   have C:=(qa o).putB N F t (fun l hl=>by
    rcases List.mem_append.1 hl with e | e
    ·exact(qa o).okB l e
    ·exact X l e)
   have b3:¬(ub.ownBlock=some p):=fun e=>by
    obtain⟨c9,hc⟩:=q8 (qa o).rowB p e
    exact ze (qa o).at_ hc (by decide) rfl
   have P:=N.old (qa o).at_ b3
   have c8:O.cell? ⟨p,3,none⟩=some ub:=qh P 3
   have f8:O.frozen? ⟨p,3,none⟩=false:=qq P 3
   have I:Upd (· = p) O (O.setCell ⟨p,3,none⟩ U):=(Upd.refl _ _).set1 3 _
   obtain⟨va,vc,R⟩:=qx y
   rw[R]
   have a8:=qb R
   have HF:=qb (And.intro C (And.intro N (And.intro I t)))
   clear R C N I t y F x P Y HN K o
   rw[qa HY] at c8
   go_wp2_with (with_reducible first|(first|refine' zr (qg ?_) ?_|refine' zt (qg ?_) ?_);rotate_left|refine' zu (qg ?_)|rfl|apply tn|refine' zv ?_)
   go_ret
   have a9:(false || decide (n≠0))=true:=by simp[hn]
   rw[←qa a8,a9]
   obtain⟨C,N,I,t⟩:=qa HF
   have q:=qa H1
   have u4:=qa U4
   have e6:=(qa L).size
   have s8:V.heap.size≤O.heap.size:=N.size
   have e7:=I.size
   have e1:=qa c1
   have a4:Upd S w (O.setCell ⟨p,3,none⟩ U):=((((u4.mono (fun k _ e=>q k (by simp[e]))).trans ((qa b7).mono (fun k _ e=>q k (by simp[e])))).trans ((qa L).mono (fun k _ e=>q k (by simp[e])))).trans ((((Upd.refl S V).drew)).trans (N.mono (fun k _ e=>q k (by simp[e]))))).trans (I.mono (fun k _ e=>q k (by simp[e])))
   have M:∀k,(v'.ownBlock=some k∨U.ownBlock=some k)→k<(O.setCell ⟨p,3,none⟩ U).heap.size:=fun k f=>by
    rcases f with f | f
    ·exact(C.offA k f).lt
    ·exact(C.offB k f).lt
   refine⟨rfl,⟨gA,gB,(Fr SA w4.drew w6),SB,v',U,C,?_,?_⟩,a4⟩
   ·rintro k (f | f | f | f | f)
    ·rcases f with f | f
     ·exact .inl (q k (by simp[f]))
     ·exact .inr ⟨by have:=f.1;have e:w4.drew.heap.size=w4.heap.size:=rfl;omega,by omega⟩
    ·exact .inl (q k (by simp[f]))
    ·exact .inl (q k (by simp[f]))
    ·exact .inr ⟨by have:=qa c7 k f;omega,(M k (.inl f))⟩
    ·rcases t k f with e | e
     ·exact .inl (q k (by simp[e]))
     ·exact .inr ⟨by omega,(M k (.inr f))⟩
   ·rintro k (f | f)
    ·have:=qa H2 k f
     exact⟨this.1,by omega⟩
    ·exact⟨by omega,f.2⟩
  ·go_upto_region 7 with (with_reducible first|(first|refine' zr (qg ?_) ?_|refine' zt (qg ?_) ?_);rotate_left|refine' zu (qg ?_)|rfl|apply tn|refine' zv ?_)
   have E:=(qa a7).putBad true
   have J:Upd (· = p) w6 (w6.setCell ⟨p,4,none⟩ (.bool true)):=(Upd.refl _ _).set1 4 _
   have T:=qu (qa c6) J (fun k f e=>qa c5 (e▸f))
   generalize w6.setCell ⟨p,4,none⟩ (.bool true)=V at E J T ⊢
   have z:=E.new ((Upd.refl (fun _=>False) V).drew)
   have Y:V.cell? ⟨p,3,none⟩=some ub:=qh E.at_ 3
   obtain⟨ya,yc,hy⟩:=qx E.rowB
   rw[hy] at Y
   have H:=z.rowB
   rw[hy] at H
   have HN:=qb H
   have K:=qb (qhp (w:=V.drew) (fun l hl=>(X l hl).len) T)
   have Z:w0.heap.size≤V.drew.heap.size:=z.two.n.size
   have o:=qb z
   have HY:=qb hy
   have L:=qb J
   clear c4 f4 E z J T H hy
   go_wp2_with (first | (at_builtin;refine qb6 rfl (.tmp 69) (.tmp 70) rfl w0.heap.size _ wb.length _ rfl (qa HN) ls X _ rfl (qa K) ?c3 Z ?_) | (with_reducible first|(first|refine' zr (qg ?_) ?_|refine' zt (qg ?_) ?_);rotate_left|refine' zu (qg ?_)|rfl|apply tn|refine' zv ?_))
   case c3=>exact b5.2
   intro U O y N x
   rw[←qa HY] at N x
   have F:O.ownsRow w0.heap.size 30 38 U (wb++ls).length ((wb++ls).flatMap MsgV.cells):=by
    rw[List.length_append,List.flatMap_append]
    exact y
   have t:∀k,U.ownBlock=some k→ub.ownBlock=some k∨V.heap.size≤k:=fun k f=>by
    rcases x with e | e
    ·exact .inl (e▸f)
    ·rw[e] at f
     injection f with f
     exact .inr (Nat.le_of_eq f)
   have C:=(qa o).putB N F t (fun l hl=>by
    rcases List.mem_append.1 hl with e | e
    ·exact(qa o).okB l e
    ·exact X l e)
   have b3:¬(ub.ownBlock=some p):=fun e=>by
    obtain⟨c9,hc⟩:=q8 (qa o).rowB p e
    exact ze (qa o).at_ hc (by decide) rfl
   have P:=N.old (qa o).at_ b3
   have c8:O.cell? ⟨p,3,none⟩=some ub:=qh P 3
   have f8:O.frozen? ⟨p,3,none⟩=false:=qq P 3
   have I:Upd (· = p) O (O.setCell ⟨p,3,none⟩ U):=(Upd.refl _ _).set1 3 _
   obtain⟨va,vc,R⟩:=qx y
   rw[R]
   have a8:=qb R
   have HF:=qb (And.intro C (And.intro N (And.intro I t)))
   clear R C N I t y F x P Y HN K o
   rw[qa HY] at c8
   go_wp2_with (with_reducible first|(first|refine' zr (qg ?_) ?_|refine' zt (qg ?_) ?_);rotate_left|refine' zu (qg ?_)|rfl|apply tn|refine' zv ?_)
   go_ret
   have a9:(true || decide (n≠0))=true:=by simp[hn]
   rw[←qa a8,a9]
   obtain⟨C,N,I,t⟩:=qa HF
   have q:=qa H1
   have u4:=qa U4
   have e6:=(qa L).size
   have s8:V.heap.size≤O.heap.size:=N.size
   have e7:=I.size
   have e1:=qa c1
   have a4:Upd S w (O.setCell ⟨p,3,none⟩ U):=((((u4.mono (fun k _ e=>q k (by simp[e]))).trans ((qa b7).mono (fun k _ e=>q k (by simp[e])))).trans ((qa L).mono (fun k _ e=>q k (by simp[e])))).trans ((((Upd.refl S V).drew)).trans (N.mono (fun k _ e=>q k (by simp[e]))))).trans (I.mono (fun k _ e=>q k (by simp[e])))
   have M:∀k,(v'.ownBlock=some k∨U.ownBlock=some k)→k<(O.setCell ⟨p,3,none⟩ U).heap.size:=fun k f=>by
    rcases f with f | f
    ·exact(C.offA k f).lt
    ·exact(C.offB k f).lt
   refine⟨rfl,⟨gA,gB,(Fr SA w4.drew w6),SB,v',U,C,?_,?_⟩,a4⟩
   ·rintro k (f | f | f | f | f)
    ·rcases f with f | f
     ·exact .inl (q k (by simp[f]))
     ·exact .inr ⟨by have:=f.1;have e:w4.drew.heap.size=w4.heap.size:=rfl;omega,by omega⟩
    ·exact .inl (q k (by simp[f]))
    ·exact .inl (q k (by simp[f]))
    ·exact .inr ⟨by have:=qa c7 k f;omega,(M k (.inl f))⟩
    ·rcases t k f with e | e
     ·exact .inl (q k (by simp[e]))
     ·exact .inr ⟨by omega,(M k (.inr f))⟩
   ·rintro k (f | f)
    ·have:=qa H2 k f
     exact⟨this.1,by omega⟩
    ·exact⟨by omega,f.2⟩
set_option maxRecDepth 100000 in
set_option maxHeartbeats 1000000 in
theorem qxm(w0:World)(p:Nat)(S:Nat→Prop)(a b:Ch)(wa:List MsgV)(bad:Bool)(w:World)(h:PrS w0 w p S a b wa [] bad) :
  Calls Tryz.prog 15 #[.pointer (some ⟨p,0,none⟩),.int .i64 1] w (qa7 (.bool false) w):=by
 obtain⟨gA,gB,SA,SB,ua,ub,l,g,f⟩:=h
 have o:w.cell? ⟨p,3,none⟩=some ub:=qh l.at_ 3
 obtain⟨q,m,i⟩:=qx l.rowB
 rw[i] at o
 clear l i g f
 go_enter Tryz.func15,Tryz.ntmps15
 go_wp2_with (with_reducible first|(first|refine' zr (qg ?_) ?_|refine' zt (qg ?_) ?_);rotate_left|refine' zu (qg ?_)|rfl|apply tn|refine' zv ?_)
 go_ret
 exact⟨rfl,Upd.refl _ _⟩
set_option maxRecDepth 100000 in
set_option maxHeartbeats 2000000 in
theorem q0g(w0:World)(hT:Tb w0)(p:Nat)(S:Nat→Prop)(a b:Ch)(m:MsgV)(ms wa:List MsgV)(bad:Bool)(w:World)(h:PrS w0 w p S a b wa (m::ms) bad)
  (c':Ch) (ls:List MsgV) (n:Int) (X:∀l∈ls,MsgOk l) (b5:ms.length<1000000∧wa.length+ls.length≤1000000)
  (hH:∀(W:World) (g:Nat) (S':Nat→Prop),ChS W g S' b→Apart S'→Tb W→Calls Tryz.prog 18 #[.pointer (some ⟨g,0,none⟩),.agg m.cells.toArray] W (qgc g S' W c' ls n)) :
  Calls Tryz.prog 15 #[.pointer (some ⟨p,0,none⟩),.int .i64 1] w fun e w'=>e = .returned (.bool true)∧PrS w0 w' p (Fr S w w') a c' (wa++ls) ms (bad || decide (n≠0))∧Upd S w w':=by
 have c1:=qb h.le
 obtain⟨gA,gB,SA,SB,ua,ub,hP,d2,d1⟩:=h
 have c2:w.cell? ⟨p,3,none⟩=some ub:=qh hP.at_ 3
 obtain⟨g,cap,d0,g6⟩:=qyn hP.rowB
 have hm:MsgOk m:=hP.okB m List.mem_cons_self
 have e3:∀l∈ms,MsgOk l:=fun l hl=>hP.okB l (List.mem_cons_of_mem _ hl)
 obtain⟨g9,b4⟩:=qyo hP.rowB d0 hm.len (fun l hl=>(e3 l hl).len)
 have HP:=qb hP
 have H1:=qb d2
 have H2:=qb d1
 have HC:=qb b4
 have f1:=qb d0
 have e2:(0:Int)<((ms.length+1:Nat):Int):=by omega
 have g7:ms.length+1≤9223372036854775807:=by omega
 rw[d0] at c2
 have h4:p<w.heap.size:=zw hP.at_
 clear hP d2 d1 b4 d0
 go_enter Tryz.func15,Tryz.ntmps15
 obtain⟨h1,hA,nA⟩:=qes w m hm.len
 go_upto_region 4 with (with_reducible first|(first|refine' zr (qg ?_) ?_|refine' zt (qg ?_) ?_);rotate_left|refine' zu (qg ?_)|rfl|apply tn|refine' zv ?_)
 change Code.wp _ _ _ _ (qea w m)
 have b6:=qb ((qa HP).new nA)
 have b8:=nA.cell c2 (fun h=>h)
 have e0:=qb (show ∀j u,(ms.flatMap MsgV.cells)[j]? = some u→(qea w m).cell? ((⟨g,38,none⟩:Addr).add j)=some u from fun j u hj=>nA.cell (qa HC j u hj) (fun h=>h))
 have NA:=qb nA
 have h0:=nA.size
 clear h1 c2 g9 HP HC nA
 generalize qea w m=w1 at hA b6 b8 e0 NA h0 ⊢
 obtain⟨A,f7⟩:∃A,A=w.heap.size:=⟨_,rfl⟩
 rw[←f7] at hA ⊢
 have g4:A≠p:=by omega
 have HA:=qb hA
 have h5:w.heap.size≤A:=by omega
 have d4:w0.heap.size≤w1.heap.size:=(qa b6).two.n.size
 have f2:w1.frozen? ⟨p,3,none⟩=false:=qq (qa b6).at_ 3
 have f5:w1.drew.cell? ⟨p,3,none⟩=some (.slice (some ⟨g,0,none⟩) (ms.length+1) cap):=b8
 clear hA f7
 refine qb5 (fun w'=>w'.cell? ⟨p,3,none⟩=some (.slice (some ⟨g,0,none⟩) (ms.length+1) cap)) [8] (.of [0,1,2,3,4,5,6,7,8,9,10,11,12,13,14]) (by kernel_rfl) (by kernel_rfl) f5 ?_
 simp only[Plan.of]
 go_wp2_with (with_reducible first|(first|refine' qw1 (qg ?_) ?_|refine' qw2 (qg ?_) ?_|refine' qw3 (qg ?_) ?_);rotate_left|refine' qw4 (qg ?_)|refine' qw5 (qg ?_)|rfl|apply qn)
 refine⟨((Upd.refl (fun _=>False) w1).alloc _).drew.cell b8 (fun h=>h),?_⟩
 have nB:qy w1 (w1.alloc (.cells #[] 30)).drew:=((Upd.refl _ _).alloc _).drew
 have hO:(w1.alloc (.cells #[] 30)).drew.ownsRow w0.heap.size 30 38 (.slice (some ⟨w1.heap.size,0,none⟩) 0 0) 0 []:=World.ownsRow_made (base:=w0.heap.size) (e:=30) (size:=38) w1 #[] 0 d4 (by decide) rfl
 have d9:=qb (show ∃ad,(if cap=1 then some (⟨g,0,none⟩:Addr) else some ⟨g,38,none⟩)=some ad∧∀j u,(ms.flatMap MsgV.cells)[j]? = some u→(w1.alloc (.cells #[] 30)).drew.cell? (ad.add j)=some u by
  by_cases g1:cap=1
  ·rw[if_pos g1]
   refine⟨_,rfl,?_⟩
   intro j u hj
   have g8:ms=[]:=List.length_eq_zero_iff.1 (by omega)
   rw[g8] at hj
   simp at hj
  ·rw[if_neg g1]
   exact⟨_,rfl,fun j u hj=>nB.cell (qa e0 j u hj) (fun h=>h)⟩)
 have f6:=nB.cell b8 (fun h=>h)
 have HO:=qb hO
 have NB:=qb nB
 have d5:w0.heap.size≤(w1.alloc (.cells #[] 30)).drew.heap.size:=Nat.le_trans d4 nB.size
 clear b8 f5 f2 nB hO e0
 generalize (w1.alloc (.cells #[] 30)).drew=w2 at HO NB d9 f6 d5 ⊢
 obtain⟨D,d8⟩:∃D,D=w1.heap.size:=⟨_,rfl⟩
 rw[←d8] at HO ⊢
 have f0:=qb d8
 clear d8
 go_wp2_with (first | (at_builtin;obtain⟨ad,g3,g2⟩:=qa d9;rw[g3];clear g3;refine qb6 rfl (.tmp 26) (.tmp 33) rfl w0.heap.size _ 0 [] rfl (qa HO) ms e3 _ rfl (.inr ⟨ad,_,rfl,g2⟩) ?c3 d5 ?_) | (with_reducible first|(first|refine' qw1 (qg ?_) ?_|refine' qw2 (qg ?_) ?_|refine' qw3 (qg ?_) ?_);rotate_left|refine' qw4 (qg ?_)|refine' qw5 (qg ?_)|rfl|apply qn))
 case c3=>omega
 intro v' w3 a5 u3 d3
 change w3.ownsRow w0.heap.size 30 38 v' ms.length (ms.flatMap MsgV.cells) at a5
 clear g2
 have hD:=qa f0
 have nb:=qa NB
 have b9:qy w1 w3:=nb.then u3 (fun i hi e=>by simp[Value.ownBlock] at e;omega)
 have e5:∀k,v'.ownBlock=some k→w1.heap.size≤k:=fun k f=>by
  have:=nb.size
  rcases d3 with e | e
  ·rw[e] at f;simp[Value.ownBlock] at f;omega
  ·rw[e] at f;injection f with f;omega
 have g0:=(qa b6).putB (b9.mono (fun _ _ h=>h.elim)) a5 (fun k f=> .inr (e5 k f)) e3
 have d7:=b9.old (qa b6).at_ (fun h=>h)
 have c3:w3.cell? ⟨p,3,none⟩=some ub:=qh d7 3
 rw[qa f1] at c3
 have f3:w3.frozen? ⟨p,3,none⟩=false:=qq d7 3
 have e8:Upd (· = p) w3 (w3.setCell ⟨p,3,none⟩ v'):=(Upd.refl _ _).set1 3 _
 have e9:=qb (((qa HA).new b9).upd e8 (fun e=>g4 e))
 have U4:=qb (((qa NA).mono (fun _ _ h=>h.elim):Upd (· = p) _ _).trans ((b9.mono (fun _ _ h=>h.elim):Upd (· = p) _ _).trans e8))
 have d6:=qb g0
 have c7:=qb e5
 obtain⟨va,vc,e4⟩:=qx a5
 have HV:=qb e4
 clear a5 u3 d3 hD nb b9 e5 g0 d7 e8 g6 e2 d9 f6 HO NB f0 b6 HA NA f1
 rw[e4]
 clear e4
 go_upto_region 5 with (with_reducible first|(first|refine' qw1 (qg ?_) ?_|refine' qw2 (qg ?_) ?_|refine' qw3 (qg ?_) ?_);rotate_left|refine' qw4 (qg ?_)|refine' qw5 (qg ?_)|rfl|apply qn)
 rw[←qa HV]
 generalize w3.setCell ⟨p,3,none⟩ v'=w4 at e9 U4 d6 ⊢
 clear c3 f3 HV
 clear va vc
 have a6:=qb ((qa d6).new ((Upd.refl (fun _=>False) w4).drew))
 have c0:w4.cell? ⟨p,1,none⟩=some (.pointer (some ⟨gB,0,none⟩)):=qh (qa d6).at_ 1
 have rA:=(qa e9).row
 have hh:=hH w4.drew gB SB (qa a6).two.B ((qa a6).two.apB hT) (hT.new (qa a6).two.n)
 clear hH
 go_wp2_with (with_reducible first|(first|refine' zr (qg ?_) ?_|refine' zt (qg ?_) ?_);rotate_left|refine' zu (qg ?_)|rfl|apply tn|refine' zv ?_)
 refine hh.mono ?_
 rintro e w6 ⟨v,rfl,hv,hc,hu⟩
 have a7:=qb ((qa a6).opB hc hu)
 have b7:=qb (((Upd.refl SB w4).drew).trans hu)
 have f9:¬(v.ownBlock=some p):=fun e=>by
  obtain⟨c9,g5⟩:=q8 hv p e
  exact ze (qa a7).at_ g5 (by decide) rfl
 have c6:=qb hv
 have c5:=qb f9
 have c4:w6.cell? ⟨p,4,none⟩=some (.bool bad):=qh (qa a7).at_ 4
 have f4:w6.frozen? ⟨p,4,none⟩=false:=qq (qa a7).at_ 4
 clear hh c0 rA hc hu hv f9 a6
 have h2:=(qa U4).size
 have h3:=(qa b7).size
 by_cases hn:n=0
 ·cases bad
  ·go_upto_region 7 with (with_reducible first|(first|refine' zr (qg ?_) ?_|refine' zt (qg ?_) ?_);rotate_left|refine' zu (qg ?_)|rfl|apply tn|refine' zv ?_)
   have E:=(qa a7).putBad false
   have J:Upd (· = p) w6 (w6.setCell ⟨p,4,none⟩ (.bool false)):=(Upd.refl _ _).set1 4 _
   have T:=qu (qa c6) J (fun k f e=>qa c5 (e▸f))
   generalize w6.setCell ⟨p,4,none⟩ (.bool false)=V at E J T ⊢
   have z:=E.new ((Upd.refl (fun _=>False) V).drew)
   have Y:V.cell? ⟨p,2,none⟩=some ua:=qh E.at_ 2
   obtain⟨ya,yc,hy⟩:=qx E.rowA
   rw[hy] at Y
   have H:=z.rowA
   rw[hy] at H
   have HN:=qb H
   have K:=qb (qhp (w:=V.drew) (fun l hl=>(X l hl).len) T)
   have Z:w0.heap.size≤V.drew.heap.size:=z.two.n.size
   have o:=qb z
   have HY:=qb hy
   have L:=qb J
   clear c4 f4 E z J T H hy
   go_wp2_with (first | (at_builtin;refine qb6 rfl (.tmp 69) (.tmp 70) rfl w0.heap.size _ wa.length _ rfl (qa HN) ls X _ rfl (qa K) ?c3 Z ?_) | (with_reducible first|(first|refine' zr (qg ?_) ?_|refine' zt (qg ?_) ?_);rotate_left|refine' zu (qg ?_)|rfl|apply tn|refine' zv ?_))
   case c3=>exact b5.2
   intro U O y N x
   rw[←qa HY] at N x
   have F:O.ownsRow w0.heap.size 30 38 U (wa++ls).length ((wa++ls).flatMap MsgV.cells):=by
    rw[List.length_append,List.flatMap_append]
    exact y
   have t:∀k,U.ownBlock=some k→ua.ownBlock=some k∨V.heap.size≤k:=fun k f=>by
    rcases x with e | e
    ·exact .inl (e▸f)
    ·rw[e] at f
     injection f with f
     exact .inr (Nat.le_of_eq f)
   have C:=(qa o).putA N F t (fun l hl=>by
    rcases List.mem_append.1 hl with e | e
    ·exact(qa o).okA l e
    ·exact X l e)
   have b3:¬(ua.ownBlock=some p):=fun e=>by
    obtain⟨c9,hc⟩:=q8 (qa o).rowA p e
    exact ze (qa o).at_ hc (by decide) rfl
   have P:=N.old (qa o).at_ b3
   have c8:O.cell? ⟨p,2,none⟩=some ua:=qh P 2
   have f8:O.frozen? ⟨p,2,none⟩=false:=qq P 2
   have I:Upd (· = p) O (O.setCell ⟨p,2,none⟩ U):=(Upd.refl _ _).set1 2 _
   obtain⟨va,vc,R⟩:=qx y
   rw[R]
   have a8:=qb R
   have HF:=qb (And.intro C (And.intro N (And.intro I t)))
   clear R C N I t y F x P Y HN K o
   rw[qa HY] at c8
   go_wp2_with (with_reducible first|(first|refine' zr (qg ?_) ?_|refine' zt (qg ?_) ?_);rotate_left|refine' zu (qg ?_)|rfl|apply tn|refine' zv ?_)
   go_ret
   have a9:(false || decide (n≠0))=false:=by simp[hn]
   rw[←qa a8,a9]
   obtain⟨C,N,I,t⟩:=qa HF
   have q:=qa H1
   have u4:=qa U4
   have e6:=(qa L).size
   have s8:V.heap.size≤O.heap.size:=N.size
   have e7:=I.size
   have e1:=qa c1
   have a4:Upd S w (O.setCell ⟨p,2,none⟩ U):=((((u4.mono (fun k _ e=>q k (by simp[e]))).trans ((qa b7).mono (fun k _ e=>q k (by simp[e])))).trans ((qa L).mono (fun k _ e=>q k (by simp[e])))).trans ((((Upd.refl S V).drew)).trans (N.mono (fun k _ e=>q k (by simp[e]))))).trans (I.mono (fun k _ e=>q k (by simp[e])))
   have M:∀k,(v'.ownBlock=some k∨U.ownBlock=some k)→k<(O.setCell ⟨p,2,none⟩ U).heap.size:=fun k f=>by
    rcases f with f | f
    ·exact(C.offB k f).lt
    ·exact(C.offA k f).lt
   refine⟨rfl,⟨gA,gB,SA,(Fr SB w4.drew w6),U,v',C,?_,?_⟩,a4⟩
   ·rintro k (f | f | f | f | f)
    ·exact .inl (q k (by simp[f]))
    ·rcases f with f | f
     ·exact .inl (q k (by simp[f]))
     ·exact .inr ⟨by have:=f.1;have e:w4.drew.heap.size=w4.heap.size:=rfl;omega,by omega⟩
    ·exact .inl (q k (by simp[f]))
    ·rcases t k f with e | e
     ·exact .inl (q k (by simp[e]))
     ·exact .inr ⟨by omega,(M k (.inr f))⟩
    ·exact .inr ⟨by have:=qa c7 k f;omega,(M k (.inl f))⟩
   ·rintro k (f | f)
    ·have:=qa H2 k f
     exact⟨this.1,by omega⟩
    ·exact⟨by omega,f.2⟩
  ·go_upto_region 7 with (with_reducible first|(first|refine' zr (qg ?_) ?_|refine' zt (qg ?_) ?_);rotate_left|refine' zu (qg ?_)|rfl|apply tn|refine' zv ?_)
   have E:=(qa a7).putBad true
   have J:Upd (· = p) w6 (w6.setCell ⟨p,4,none⟩ (.bool true)):=(Upd.refl _ _).set1 4 _
   have T:=qu (qa c6) J (fun k f e=>qa c5 (e▸f))
   generalize w6.setCell ⟨p,4,none⟩ (.bool true)=V at E J T ⊢
   have z:=E.new ((Upd.refl (fun _=>False) V).drew)
   have Y:V.cell? ⟨p,2,none⟩=some ua:=qh E.at_ 2
   obtain⟨ya,yc,hy⟩:=qx E.rowA
   rw[hy] at Y
   have H:=z.rowA
   rw[hy] at H
   have HN:=qb H
   have K:=qb (qhp (w:=V.drew) (fun l hl=>(X l hl).len) T)
   have Z:w0.heap.size≤V.drew.heap.size:=z.two.n.size
   have o:=qb z
   have HY:=qb hy
   have L:=qb J
   clear c4 f4 E z J T H hy
   go_wp2_with (first | (at_builtin;refine qb6 rfl (.tmp 69) (.tmp 70) rfl w0.heap.size _ wa.length _ rfl (qa HN) ls X _ rfl (qa K) ?c3 Z ?_) | (with_reducible first|(first|refine' zr (qg ?_) ?_|refine' zt (qg ?_) ?_);rotate_left|refine' zu (qg ?_)|rfl|apply tn|refine' zv ?_))
   case c3=>exact b5.2
   intro U O y N x
   rw[←qa HY] at N x
   have F:O.ownsRow w0.heap.size 30 38 U (wa++ls).length ((wa++ls).flatMap MsgV.cells):=by
    rw[List.length_append,List.flatMap_append]
    exact y
   have t:∀k,U.ownBlock=some k→ua.ownBlock=some k∨V.heap.size≤k:=fun k f=>by
    rcases x with e | e
    ·exact .inl (e▸f)
    ·rw[e] at f
     injection f with f
     exact .inr (Nat.le_of_eq f)
   have C:=(qa o).putA N F t (fun l hl=>by
    rcases List.mem_append.1 hl with e | e
    ·exact(qa o).okA l e
    ·exact X l e)
   have b3:¬(ua.ownBlock=some p):=fun e=>by
    obtain⟨c9,hc⟩:=q8 (qa o).rowA p e
    exact ze (qa o).at_ hc (by decide) rfl
   have P:=N.old (qa o).at_ b3
   have c8:O.cell? ⟨p,2,none⟩=some ua:=qh P 2
   have f8:O.frozen? ⟨p,2,none⟩=false:=qq P 2
   have I:Upd (· = p) O (O.setCell ⟨p,2,none⟩ U):=(Upd.refl _ _).set1 2 _
   obtain⟨va,vc,R⟩:=qx y
   rw[R]
   have a8:=qb R
   have HF:=qb (And.intro C (And.intro N (And.intro I t)))
   clear R C N I t y F x P Y HN K o
   rw[qa HY] at c8
   go_wp2_with (with_reducible first|(first|refine' zr (qg ?_) ?_|refine' zt (qg ?_) ?_);rotate_left|refine' zu (qg ?_)|rfl|apply tn|refine' zv ?_)
   go_ret
   have a9:(true || decide (n≠0))=true:=by simp[hn]
   rw[←qa a8,a9]
   obtain⟨C,N,I,t⟩:=qa HF
   have q:=qa H1
   have u4:=qa U4
   have e6:=(qa L).size
   have s8:V.heap.size≤O.heap.size:=N.size
   have e7:=I.size
   have e1:=qa c1
   have a4:Upd S w (O.setCell ⟨p,2,none⟩ U):=((((u4.mono (fun k _ e=>q k (by simp[e]))).trans ((qa b7).mono (fun k _ e=>q k (by simp[e])))).trans ((qa L).mono (fun k _ e=>q k (by simp[e])))).trans ((((Upd.refl S V).drew)).trans (N.mono (fun k _ e=>q k (by simp[e]))))).trans (I.mono (fun k _ e=>q k (by simp[e])))
   have M:∀k,(v'.ownBlock=some k∨U.ownBlock=some k)→k<(O.setCell ⟨p,2,none⟩ U).heap.size:=fun k f=>by
    rcases f with f | f
    ·exact(C.offB k f).lt
    ·exact(C.offA k f).lt
   refine⟨rfl,⟨gA,gB,SA,(Fr SB w4.drew w6),U,v',C,?_,?_⟩,a4⟩
   ·rintro k (f | f | f | f | f)
    ·exact .inl (q k (by simp[f]))
    ·rcases f with f | f
     ·exact .inl (q k (by simp[f]))
     ·exact .inr ⟨by have:=f.1;have e:w4.drew.heap.size=w4.heap.size:=rfl;omega,by omega⟩
    ·exact .inl (q k (by simp[f]))
    ·rcases t k f with e | e
     ·exact .inl (q k (by simp[e]))
     ·exact .inr ⟨by omega,(M k (.inr f))⟩
    ·exact .inr ⟨by have:=qa c7 k f;omega,(M k (.inl f))⟩
   ·rintro k (f | f)
    ·have:=qa H2 k f
     exact⟨this.1,by omega⟩
    ·exact⟨by omega,f.2⟩
 ·cases bad
  ·go_upto_region 7 with (with_reducible first|(first|refine' zr (qg ?_) ?_|refine' zt (qg ?_) ?_);rotate_left|refine' zu (qg ?_)|rfl|apply tn|refine' zv ?_)
   rw[show (n != 0)=true by simp[hn]]
   have E:=(qa a7).putBad true
   have J:Upd (· = p) w6 (w6.setCell ⟨p,4,none⟩ (.bool true)):=(Upd.refl _ _).set1 4 _
   have T:=qu (qa c6) J (fun k f e=>qa c5 (e▸f))
   generalize w6.setCell ⟨p,4,none⟩ (.bool true)=V at E J T ⊢
   have z:=E.new ((Upd.refl (fun _=>False) V).drew)
   have Y:V.cell? ⟨p,2,none⟩=some ua:=qh E.at_ 2
   obtain⟨ya,yc,hy⟩:=qx E.rowA
   rw[hy] at Y
   have H:=z.rowA
   rw[hy] at H
   have HN:=qb H
   have K:=qb (qhp (w:=V.drew) (fun l hl=>(X l hl).len) T)
   have Z:w0.heap.size≤V.drew.heap.size:=z.two.n.size
   have o:=qb z
   have HY:=qb hy
   have L:=qb J
   clear c4 f4 E z J T H hy
   go_wp2_with (first | (at_builtin;refine qb6 rfl (.tmp 69) (.tmp 70) rfl w0.heap.size _ wa.length _ rfl (qa HN) ls X _ rfl (qa K) ?c3 Z ?_) | (with_reducible first|(first|refine' zr (qg ?_) ?_|refine' zt (qg ?_) ?_);rotate_left|refine' zu (qg ?_)|rfl|apply tn|refine' zv ?_))
   case c3=>exact b5.2
   intro U O y N x
   rw[←qa HY] at N x
   have F:O.ownsRow w0.heap.size 30 38 U (wa++ls).length ((wa++ls).flatMap MsgV.cells):=by
    rw[List.length_append,List.flatMap_append]
    exact y
   have t:∀k,U.ownBlock=some k→ua.ownBlock=some k∨V.heap.size≤k:=fun k f=>by
    rcases x with e | e
    ·exact .inl (e▸f)
    ·rw[e] at f
     injection f with f
     exact .inr (Nat.le_of_eq f)
   have C:=(qa o).putA N F t (fun l hl=>by
    rcases List.mem_append.1 hl with e | e
    ·exact(qa o).okA l e
    ·exact X l e)
   have b3:¬(ua.ownBlock=some p):=fun e=>by
    obtain⟨c9,hc⟩:=q8 (qa o).rowA p e
    exact ze (qa o).at_ hc (by decide) rfl
   have P:=N.old (qa o).at_ b3
   have c8:O.cell? ⟨p,2,none⟩=some ua:=qh P 2
   have f8:O.frozen? ⟨p,2,none⟩=false:=qq P 2
   have I:Upd (· = p) O (O.setCell ⟨p,2,none⟩ U):=(Upd.refl _ _).set1 2 _
   obtain⟨va,vc,R⟩:=qx y
   rw[R]
   have a8:=qb R
   have HF:=qb (And.intro C (And.intro N (And.intro I t)))
   clear R C N I t y F x P Y HN K o
   rw[qa HY] at c8
   go_wp2_with (with_reducible first|(first|refine' zr (qg ?_) ?_|refine' zt (qg ?_) ?_);rotate_left|refine' zu (qg ?_)|rfl|apply tn|refine' zv ?_)
   go_ret
   have a9:(false || decide (n≠0))=true:=by simp[hn]
   rw[←qa a8,a9]
   obtain⟨C,N,I,t⟩:=qa HF
   have q:=qa H1
   have u4:=qa U4
   have e6:=(qa L).size
   have s8:V.heap.size≤O.heap.size:=N.size
   have e7:=I.size
   have e1:=qa c1
   have a4:Upd S w (O.setCell ⟨p,2,none⟩ U):=((((u4.mono (fun k _ e=>q k (by simp[e]))).trans ((qa b7).mono (fun k _ e=>q k (by simp[e])))).trans ((qa L).mono (fun k _ e=>q k (by simp[e])))).trans ((((Upd.refl S V).drew)).trans (N.mono (fun k _ e=>q k (by simp[e]))))).trans (I.mono (fun k _ e=>q k (by simp[e])))
   have M:∀k,(v'.ownBlock=some k∨U.ownBlock=some k)→k<(O.setCell ⟨p,2,none⟩ U).heap.size:=fun k f=>by
    rcases f with f | f
    ·exact(C.offB k f).lt
    ·exact(C.offA k f).lt
   refine⟨rfl,⟨gA,gB,SA,(Fr SB w4.drew w6),U,v',C,?_,?_⟩,a4⟩
   ·rintro k (f | f | f | f | f)
    ·exact .inl (q k (by simp[f]))
    ·rcases f with f | f
     ·exact .inl (q k (by simp[f]))
     ·exact .inr ⟨by have:=f.1;have e:w4.drew.heap.size=w4.heap.size:=rfl;omega,by omega⟩
    ·exact .inl (q k (by simp[f]))
    ·rcases t k f with e | e
     ·exact .inl (q k (by simp[e]))
     ·exact .inr ⟨by omega,(M k (.inr f))⟩
    ·exact .inr ⟨by have:=qa c7 k f;omega,(M k (.inl f))⟩
   ·rintro k (f | f)
    ·have:=qa H2 k f
     exact⟨this.1,by omega⟩
    ·exact⟨by omega,f.2⟩
  ·go_upto_region 7 with (with_reducible first|(first|refine' zr (qg ?_) ?_|refine' zt (qg ?_) ?_);rotate_left|refine' zu (qg ?_)|rfl|apply tn|refine' zv ?_)
   have E:=(qa a7).putBad true
   have J:Upd (· = p) w6 (w6.setCell ⟨p,4,none⟩ (.bool true)):=(Upd.refl _ _).set1 4 _
   have T:=qu (qa c6) J (fun k f e=>qa c5 (e▸f))
   generalize w6.setCell ⟨p,4,none⟩ (.bool true)=V at E J T ⊢
   have z:=E.new ((Upd.refl (fun _=>False) V).drew)
   have Y:V.cell? ⟨p,2,none⟩=some ua:=qh E.at_ 2
   obtain⟨ya,yc,hy⟩:=qx E.rowA
   rw[hy] at Y
   have H:=z.rowA
   rw[hy] at H
   have HN:=qb H
   have K:=qb (qhp (w:=V.drew) (fun l hl=>(X l hl).len) T)
   have Z:w0.heap.size≤V.drew.heap.size:=z.two.n.size
   have o:=qb z
   have HY:=qb hy
   have L:=qb J
   clear c4 f4 E z J T H hy
   go_wp2_with (first | (at_builtin;refine qb6 rfl (.tmp 69) (.tmp 70) rfl w0.heap.size _ wa.length _ rfl (qa HN) ls X _ rfl (qa K) ?c3 Z ?_) | (with_reducible first|(first|refine' zr (qg ?_) ?_|refine' zt (qg ?_) ?_);rotate_left|refine' zu (qg ?_)|rfl|apply tn|refine' zv ?_))
   case c3=>exact b5.2
   intro U O y N x
   rw[←qa HY] at N x
   have F:O.ownsRow w0.heap.size 30 38 U (wa++ls).length ((wa++ls).flatMap MsgV.cells):=by
    rw[List.length_append,List.flatMap_append]
    exact y
   have t:∀k,U.ownBlock=some k→ua.ownBlock=some k∨V.heap.size≤k:=fun k f=>by
    rcases x with e | e
    ·exact .inl (e▸f)
    ·rw[e] at f
     injection f with f
     exact .inr (Nat.le_of_eq f)
   have C:=(qa o).putA N F t (fun l hl=>by
    rcases List.mem_append.1 hl with e | e
    ·exact(qa o).okA l e
    ·exact X l e)
   have b3:¬(ua.ownBlock=some p):=fun e=>by
    obtain⟨c9,hc⟩:=q8 (qa o).rowA p e
    exact ze (qa o).at_ hc (by decide) rfl
   have P:=N.old (qa o).at_ b3
   have c8:O.cell? ⟨p,2,none⟩=some ua:=qh P 2
   have f8:O.frozen? ⟨p,2,none⟩=false:=qq P 2
   have I:Upd (· = p) O (O.setCell ⟨p,2,none⟩ U):=(Upd.refl _ _).set1 2 _
   obtain⟨va,vc,R⟩:=qx y
   rw[R]
   have a8:=qb R
   have HF:=qb (And.intro C (And.intro N (And.intro I t)))
   clear R C N I t y F x P Y HN K o
   rw[qa HY] at c8
   go_wp2_with (with_reducible first|(first|refine' zr (qg ?_) ?_|refine' zt (qg ?_) ?_);rotate_left|refine' zu (qg ?_)|rfl|apply tn|refine' zv ?_)
   go_ret
   have a9:(true || decide (n≠0))=true:=by simp[hn]
   rw[←qa a8,a9]
   obtain⟨C,N,I,t⟩:=qa HF
   have q:=qa H1
   have u4:=qa U4
   have e6:=(qa L).size
   have s8:V.heap.size≤O.heap.size:=N.size
   have e7:=I.size
   have e1:=qa c1
   have a4:Upd S w (O.setCell ⟨p,2,none⟩ U):=((((u4.mono (fun k _ e=>q k (by simp[e]))).trans ((qa b7).mono (fun k _ e=>q k (by simp[e])))).trans ((qa L).mono (fun k _ e=>q k (by simp[e])))).trans ((((Upd.refl S V).drew)).trans (N.mono (fun k _ e=>q k (by simp[e]))))).trans (I.mono (fun k _ e=>q k (by simp[e])))
   have M:∀k,(v'.ownBlock=some k∨U.ownBlock=some k)→k<(O.setCell ⟨p,2,none⟩ U).heap.size:=fun k f=>by
    rcases f with f | f
    ·exact(C.offB k f).lt
    ·exact(C.offA k f).lt
   refine⟨rfl,⟨gA,gB,SA,(Fr SB w4.drew w6),U,v',C,?_,?_⟩,a4⟩
   ·rintro k (f | f | f | f | f)
    ·exact .inl (q k (by simp[f]))
    ·rcases f with f | f
     ·exact .inl (q k (by simp[f]))
     ·exact .inr ⟨by have:=f.1;have e:w4.drew.heap.size=w4.heap.size:=rfl;omega,by omega⟩
    ·exact .inl (q k (by simp[f]))
    ·rcases t k f with e | e
     ·exact .inl (q k (by simp[e]))
     ·exact .inr ⟨by omega,(M k (.inr f))⟩
    ·exact .inr ⟨by have:=qa c7 k f;omega,(M k (.inl f))⟩
   ·rintro k (f | f)
    ·have:=qa H2 k f
     exact⟨this.1,by omega⟩
    ·exact⟨by omega,f.2⟩
end Go.Proofs.YtjpmomdechibmaaGreatDoor
