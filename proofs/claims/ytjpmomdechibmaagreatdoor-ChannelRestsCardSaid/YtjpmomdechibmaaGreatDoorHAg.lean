/-
  hearAgain (printed by tools/mk_hag.py).
-/
import Derived.Test.YtjpmomdechibmaaGreatDoorMdc
import Derived.Laws.OwnMore
set_option linter.unusedVariables false
set_option linter.unusedSimpArgs false
namespace Go.Proofs.YtjpmomdechibmaaGreatDoor
open Go.RowKit
theorem qth(ls:List MsgV)(h:∀l∈ls,l.hash.length=32):(ls.flatMap MsgV.cells).length=ls.length*38:=by
 induction ls with
 | nil=>rfl
 | cons x xs g =>
  rw[List.flatMap_cons,List.length_append,g (fun l f=>h l (List.mem_cons_of_mem _ f)),x.len (h x List.mem_cons_self),List.length_cons,Nat.succ_mul]
  omega
theorem q47(ls:List MsgV):∀u∈ls.flatMap MsgV.cells,u.oneCell'=true:=by
 intro u g
 obtain⟨l,-,f⟩:=List.mem_flatMap.1 g
 exact l.one u f
theorem qhf{w:World}{y:Array Oper}{rest:List Oper}{o:Oper}{a:Act}{Q:Exit→Act→World→Prop}(m:o.guard=none)(s x:Operand)
  (N:o.op = .call {callee:= .builtin .append,args:=#[s,x],argTypes:=#[35,35]})
  (base:Nat) (v:Value) (L:List MsgV) (O:a.eval s=v) (f:qcu base w v L)
  (ls:List MsgV) (E:∀l∈ls,l.hash.length=32) (M:Value) (R:a.eval x=M)
  (t:(M = .slice none 0 0∧ls=[])∨∃z c,M = .slice (some z) ls.length c∧∀j u,(ls.flatMap MsgV.cells)[j]? = some u→w.cell? (z.add j)=some u)
  (i:L.length+ls.length≤1000000) (g:base≤w.heap.size)
  (h:∀C w',qcu base w' C (L++ls)→Upd (fun k=>base≤k) w w'→wpList Tryz.prog y Q rest (a.put o.dst C) w') :
  wpList Tryz.prog y Q (o::rest) a w:=by
 obtain⟨T,z9,U,q,J,F,H,I,D⟩:=qkp
 rcases t with ⟨rfl,rfl⟩ | ⟨z,c,rfl,Y⟩
 ·refine wpList_plain m fun K X=> ?_
  have hr:=run_append_owned_none (P:=Tryz.prog) (w:=w) base 35 o.type 30 T 38 Tryz.underlying35 q v L.length _ f
  unfold Oper.wp execOp
  simp only[N,resolve,invoke,builtin,Sem.run_bind,Sem.run_pure,Result.andThen_ok,List.map_toArray,List.map_cons,List.map_nil,O,R,hr]
  refine X _ _ (h v w ?_ (Upd.refl _ _))
  rw[List.append_nil]
  exact f
 ·refine wpList_append_own_at (P:=Tryz.prog) w m s x 35 N base 30 T _ 38 U Tryz.underlying35 q J F H I (by decide) v L.length _ O f z ls.length c (ls.flatMap MsgV.cells) R (qth ls E) Y (q47 ls) (by unfold maxLen;omega) (by have:=Nat.mul_le_mul i D;omega) g ?_
  intro C w' V W _ h4
  refine h C w' ?_ ((Upd.refl _ _).grown W (fun k Z _=>qjn f k Z))
  unfold qcu
  rw[List.length_append,List.flatMap_append]
  exact V
theorem qm4{w:World}{ls:List MsgV}{base:Nat}{v:Value}(i:∀l∈ls,l.hash.length=32)(h:w.ownsRow base 30 38 v ls.length (ls.flatMap MsgV.cells)) :
  (v = .slice none 0 0∧ls=[])∨∃m c',v = .slice (some m) ls.length c'∧∀j u,(ls.flatMap MsgV.cells)[j]? = some u→w.cell? (m.add j)=some u:=by
 rcases h.2 with ⟨e,t⟩ | ⟨g,cap,q,e,y,C,z,_,D,E⟩
 ·exact .inl ⟨e,List.length_eq_zero_iff.1 t⟩
 ·refine .inr ⟨⟨g,0,none⟩,cap,e,?_⟩
  intro j u o
  rw[e] at h
  have f:=(List.getElem?_eq_some_iff.1 o).1
  rw[qth ls i] at f
  have:=World.ownsRow.cellAt h j f
  have x:(⟨g,0,none⟩:Addr).add j=⟨g,j,none⟩:=by cases j<;>simp[Addr.add]
  rw[x,this]
  exact o
def qf9(c:Ch)(m:MsgV):Bool:=c.k.awaits&&decide (m.number=c.k.signed)
def qk1(c:Ch)(m:MsgV):Bool:=decide (0<c.k.heard)&&decide (m.id=c.k.heard-1)
def qeq(c:Ch)(m:MsgV):Int:=if qf9 c m=false∧m.number≠c.k.signed+1 then 140 else if qk1 c m=false∧m.id≠c.k.heard then 140 else 0
def Ch.resaid(c:Ch)(g f:Bool):List MsgV:=(if f && !c.k.revoked then [c.revocation] else [])++((if g then c.last else [])++((if f&&c.k.revoked then [c.revocation] else [])++(if c.k.shutSaid then [qbx c.s.ch] else [])))
def Ch.hearAgain(c:Ch)(m:MsgV):List MsgV × Int:=if qeq c m=0 then (c.resaid (qf9 c m) (qk1 c m),0) else ([],140)
attribute [local go_sem ↓ high] qaa qap qar qa1 qab qac qag qah qe0
attribute [local go_sem] qcx qdn qdt qfm zq qcy qc0 qc2 qbn qng
set_option maxRecDepth 100000 in
set_option maxHeartbeats 4000000 in
theorem qr3(g:Nat)(S:Nat→Prop)(c:Ch)(m:MsgV)(hm:MsgOk m)(w:World)(h:ChS w g S c)(hT:Tb w)(g0:c.last.length≤900000) :
  Calls Tryz.prog 72 #[.pointer (some ⟨g,0,none⟩),.agg m.cells.toArray] w (qgc g S w c (c.hearAgain m).1 (c.hearAgain m).2):=by
 have H:c.revocation.hash.length=32:=by
  obtain⟨_,_,_,hp⟩:=h
  exact Ch.secret_len hp.ok _
 have a5:(qbx c.s.ch).hash.length=32:=qo
 have HS:=qb h
 have g6:¬w.heap.size≤g:=by
  obtain⟨_,_,_,hp⟩:=h
  have:=hp.lt g hp.inG
  omega
 obtain⟨lv,nv,av,h⟩:=h
 have H0:=qb h
 have e9:=h.ok.last
 go_enter Tryz.func72,Tryz.ntmps72
 go_upto_region 1 with fail
 have hA:=qch w m hm.len
 have n1:qy w (w.alloc (.cells m.cells.toArray 30)):=(Upd.refl _ _).alloc _
 generalize w.alloc (.cells m.cells.toArray 30)=w1 at n1 hA ⊢
 generalize w.heap.size=A at hA ⊢
 have E:=h.new n1
 obtain⟨-,-,mi,-,-,mn,-⟩:=hA.cells
 have cS:w1.cell? ⟨g,37,none⟩=some (.int .i64 c.k.signed):=E.toR.signed
 have cH:w1.cell? ⟨g,38,none⟩=some (.int .i64 c.k.heard):=E.toR.heard
 have cW:w1.cell? ⟨g,39,none⟩=some (.bool c.k.awaits):=E.toR.awaits
 have cX:w1.cell? ⟨g,42,none⟩=some (.bool c.k.shutSaid):=E.toR.shutSaid
 have cR:w1.cell? ⟨g,44,none⟩=some (.bool c.k.revoked):=E.toR.revoked
 have cL:w1.cell? ⟨g,627,none⟩=some av:=by rw[qh E.at_ 627];exact qqb c lv nv av E.ok.s.seed E.ok.shelf
 have f6:=h.ok.signed
 have f5:=h.ok.heard
 have f9:IntKind.i64.wrap (c.k.signed+1)=c.k.signed+1:=qiz (by omega) (by omega)
 have f7:IntKind.u64.wrap c.k.heard=c.k.heard:=qeg (by omega) (by omega)
 have f8:IntKind.i64.wrap (c.k.heard-1)=c.k.heard-1:=qiz (by omega) (by omega)
 have f0:0<c.k.heard→IntKind.u64.wrap (c.k.heard-1)=c.k.heard-1:=fun _=>qeg (by omega) (by omega)
 have H1:=qb E
 have f1:=qb n1
 obtain⟨C,b8⟩:∃C,C=qf9 c m:=⟨_,rfl⟩
 obtain⟨t,b9⟩:∃t,t=qk1 c m:=⟨_,rfl⟩
 have b4:=qb b8
 have b5:=qb b9
 have e6:c.hearAgain m=if qeq c m=0 then (c.resaid C t,0) else ([],140):=by rw[b8,b9];rfl
 have e8:qeq c m=if C=false∧m.number≠c.k.signed+1 then 140 else if t=false∧m.id≠c.k.heard then 140 else 0:=by rw[b8,b9];rfl
 have d5:=qb e6
 have d6:=qb e8
 have HA:=qb hA
 clear h E n1 hA b8 b9 e6 e8
 go_cut [6] from 9 to 24 (fun uv wx=>uv = .bool C∧qy w1 wx)
 case first =>
  cases ha:c.k.awaits with
  | false =>
   rw[ha] at cW
   have e:C=false:=by rw[qa b4];unfold qf9;rw[ha];rfl
   subst e
   go_wp2_with (with_reducible first|(first|refine' zr (qg ?_) ?_|refine' zt (qg ?_) ?_);rotate_left|refine' zu (qg ?_)|rfl|apply tn|refine' zv ?_)
   go_meet
   case rel=>exact⟨rfl,(Upd.refl _ _).drew⟩
  | true =>
   rw[ha] at cW
   by_cases hn:m.number=c.k.signed
   ·have e:C=true:=by rw[qa b4];unfold qf9;rw[ha,decide_eq_true hn];rfl
    subst e
    rw[hn] at mn
    go_wp2_with (with_reducible first|(first|refine' zr (qg ?_) ?_|refine' zt (qg ?_) ?_);rotate_left|refine' zu (qg ?_)|rfl|apply tn|refine' zv ?_)
    go_meet
    case rel=>exact⟨rfl,(Upd.refl _ _).drew⟩
   ·have e:C=false:=by rw[qa b4];unfold qf9;rw[ha,decide_eq_false hn];rfl
    subst e
    have d:(m.number==c.k.signed)=false:=beq_eq_false_iff_ne.2 hn
    go_wp2_with (with_reducible first|(first|refine' zr (qg ?_) ?_|refine' zt (qg ?_) ?_);rotate_left|refine' zu (qg ?_)|rfl|apply tn|refine' zv ?_)
    go_meet
    case rel=>exact⟨rfl,(Upd.refl _ _).drew⟩
 case rest =>
  obtain⟨rfl,f⟩:=hcut
  obtain⟨w2,rfl⟩:∃w2:World,w2=wc:=⟨_,rfl⟩
  have mi:=f.cell mi (fun h=>h)
  have mn:=f.cell mn (fun h=>h)
  have cS:=f.cell cS (fun h=>h)
  have cH:=f.cell cH (fun h=>h)
  have cW:=f.cell cW (fun h=>h)
  have cX:=f.cell cX (fun h=>h)
  have cR:=f.cell cR (fun h=>h)
  have cL:=f.cell cL (fun h=>h)
  have d7:=qb ((qa f1).trans f)
  clear f HA
  go_upto_region 2 with fail
  go_cut [7] from 24 to 42 (fun rv wx=>rv = .bool t∧qy w2 wx)
  case first =>
   by_cases h0:0<c.k.heard
   ·have hw:=f0 h0
    by_cases hn:m.id=c.k.heard-1
    ·have e:t=true:=by rw[qa b5];unfold qk1;rw[decide_eq_true h0,decide_eq_true hn];rfl
     subst e
     rw[hn] at mi
     go_wp2_with (with_reducible first|(first|refine' zr (qg ?_) ?_|refine' zt (qg ?_) ?_);rotate_left|refine' zu (qg ?_)|rfl|apply tn|refine' zv ?_)
     go_meet
     case rel=>exact⟨rfl,(Upd.refl _ _).drew⟩
    ·have e:t=false:=by rw[qa b5];unfold qk1;rw[decide_eq_true h0,decide_eq_false hn];rfl
     subst e
     have d:(m.id==c.k.heard-1)=false:=beq_eq_false_iff_ne.2 hn
     go_wp2_with (with_reducible first|(first|refine' zr (qg ?_) ?_|refine' zt (qg ?_) ?_);rotate_left|refine' zu (qg ?_)|rfl|apply tn|refine' zv ?_)
     go_meet
     case rel=>exact⟨rfl,(Upd.refl _ _).drew⟩
   ·have e:t=false:=by rw[qa b5];unfold qk1;rw[decide_eq_false h0];rfl
    subst e
    have g5:decide (0<c.k.heard)=false:=decide_eq_false h0
    go_wp2_with (with_reducible first|(first|refine' zr (qg ?_) ?_|refine' zt (qg ?_) ?_);rotate_left|refine' zu (qg ?_)|rfl|apply tn|refine' zv ?_)
    go_meet
    case rel=>exact⟨rfl,(Upd.refl _ _).drew⟩
  case rest =>
   obtain⟨rfl,f⟩:=hcut
   obtain⟨w3,rfl⟩:∃w3:World,w3=wc:=⟨_,rfl⟩
   have mi:=f.cell mi (fun h=>h)
   have mn:=f.cell mn (fun h=>h)
   have cS:=f.cell cS (fun h=>h)
   have cH:=f.cell cH (fun h=>h)
   have cX:=f.cell cX (fun h=>h)
   have cR:=f.cell cR (fun h=>h)
   have cL:=f.cell cL (fun h=>h)
   have d8:=qb ((qa d7).trans f)
   clear f cW b4 b5
   obtain⟨J,b6⟩:∃J,J=c.revocation:=⟨_,rfl⟩
   rw[←b6] at H
   have c4:∀W,qy w W→Calls Tryz.prog 103 #[.pointer (some ⟨g,0,none⟩)] W (qa7 (.agg J.cells.toArray) W):=fun W n=>by
    rw[b6]
    exact qku g S c W ((qa HS).new n) (hT.new n).tabs
   have a4:∀W,qy w W→Calls Tryz.prog 54 #[.pointer (some ⟨g,0,none⟩)] W (qa7 (.agg (qbx c.s.ch).cells.toArray) W):=fun W n=>by
    obtain⟨a1,a2,a3,hp⟩:=(qa HS).new n
    exact qtt g _ W hp.toR
   have Z:∀W,qy w W→q19 W av c.last:=fun W n=>((qa H0).new n).last
   have c2:∀W,qy w W→qeq c m=140→qgc g S w c (c.hearAgain m).1 (c.hearAgain m).2 (.returned (.tuple #[.slice none 0 0,.int .i64 140])) W:=fun W n e=>by
    have e2:c.hearAgain m=([],140):=by rw[qa d5,e,if_neg (by decide)]
    rw[e2]
    exact⟨qbt,rfl,qcu.nil _ _,((qa HS).new n).frW,n.mono (fun _ _ h=>h.elim)⟩
   have X:∀W v l,qy w W→qeq c m=0→c.resaid C t=l→qcu w.heap.size W v l→qgc g S w c (c.hearAgain m).1 (c.hearAgain m).2 (.returned (.tuple #[v,.int .i64 0])) W:=fun W v l n e el hv=>by
    have e2:c.hearAgain m=(l,0):=by rw[qa d5,e,if_pos rfl,el]
    rw[e2]
    exact⟨v,rfl,hv,((qa HS).new n).frW,n.mono (fun _ _ h=>h.elim)⟩
   obtain⟨SM,c9⟩:∃SM,SM=qbx c.s.ch:=⟨_,rfl⟩
   rw[←c9] at a4 a5
   have f4:=qb c9
   clear c9
   have g7:=J.len H
   have g8:=SM.len a5
   have e4:=qb b6
   have c1:=qb c4
   have e5:=qb a4
   have c5:=qb Z
   have M:=qb c2
   have N:=qb X
   clear b6 c4 a4 Z c2 X
   obtain⟨t1,d2⟩:∃t1,t1=(!C && !(m.number==c.k.signed+1)):=⟨_,rfl⟩
   obtain⟨t2,d3⟩:∃t2,t2=(!t && !(m.id==c.k.heard)):=⟨_,rfl⟩
   have b3:=qb (show (t1=true→qeq c m=140)∧(t1=false→t2=true→qeq c m=140)∧(t1=false→t2=false→qeq c m=0) by
    rw[qa d6,d2,d3]
    cases C<;>cases t<;>by_cases E:m.number=c.k.signed+1<;>by_cases h2:m.id=c.k.heard<;>simp[E,h2])
   have c7:=qb d2
   have c8:=qb d3
   have e7:∀W,qy w W→W.cell? ⟨g,42,none⟩=some (.bool c.k.shutSaid)∧W.cell? ⟨g,44,none⟩=some (.bool c.k.revoked)∧W.cell? ⟨g,627,none⟩=some av:=fun W n=>by
    have E:=(qa H0).new n
    exact⟨E.toR.shutSaid,E.toR.revoked,by rw[qh E.at_ 627];exact qqb c lv nv av E.ok.s.seed E.ok.shelf⟩
   have a6:=qb e7
   clear d2 d3 e7 cX cR cL d6
   go_upto_region 3 with fail
   go_cut [54] from 42 to 54 (fun bv wx=>bv = .bool t1∧qy w3 wx)
   case first =>
    cases C with
    | true =>
     obtain rfl:t1=false:=qa c7
     go_wp2_with (with_reducible first|(first|refine' zr (qg ?_) ?_|refine' zt (qg ?_) ?_);rotate_left|refine' zu (qg ?_)|rfl|apply tn|refine' zv ?_)
     go_meet
     case rel=>exact⟨rfl,(Upd.refl _ _).drew⟩
    | false =>
     obtain rfl:t1 = !(m.number==c.k.signed+1):=qa c7
     go_wp2_with (with_reducible first|(first|refine' zr (qg ?_) ?_|refine' zt (qg ?_) ?_);rotate_left|refine' zu (qg ?_)|rfl|apply tn|refine' zv ?_)
     go_meet
     case rel=>exact⟨rfl,(Upd.refl _ _).drew⟩
   case rest =>
    obtain⟨rfl,f⟩:=hcut
    obtain⟨w4,rfl⟩:∃w4:World,w4=wc:=⟨_,rfl⟩
    have a7:=qb ((qa d8).trans f)
    have mi:=f.cell mi (fun h=>h)
    have cH:=f.cell cH (fun h=>h)
    clear f mn cS f9 f8 f0 f6 d8 d7 c7
    cases t1 with
    | true =>
     go_wp2_with (with_reducible first|(first|refine' zr (qg ?_) ?_|refine' zt (qg ?_) ?_);rotate_left|refine' zu (qg ?_)|rfl|apply tn|refine' zv ?_)
     go_ret2
     exact qa M _ (qa a7) ((qa b3).1 (by trivial))
    | false =>
     go_upto_region 5 with fail
     go_cut [67] from 55 to 67 (fun bv wx=>bv = .bool t2∧qy w wx)
     case first =>
      cases t with
      | true =>
       obtain rfl:t2=false:=qa c8
       go_wp2_with (with_reducible first|(first|refine' zr (qg ?_) ?_|refine' zt (qg ?_) ?_);rotate_left|refine' zu (qg ?_)|rfl|apply tn|refine' zv ?_)
       go_meet
       case rel=>exact⟨rfl,(qa a7).drew⟩
      | false =>
       obtain rfl:t2 = !(m.id==c.k.heard):=qa c8
       go_wp2_with (with_reducible first|(first|refine' zr (qg ?_) ?_|refine' zt (qg ?_) ?_);rotate_left|refine' zu (qg ?_)|rfl|apply tn|refine' zv ?_)
       go_meet
       case rel=>exact⟨rfl,(qa a7).drew⟩
     case rest =>
      obtain⟨rfl,f⟩:=hcut
      obtain⟨w5,rfl⟩:∃w5:World,w5=wc:=⟨_,rfl⟩
      have c6:=qb f
      clear f mi cH f7 f5 c8 HS H1 a7
      cases t2 with
      | true =>
       go_wp2_with (with_reducible first|(first|refine' zr (qg ?_) ?_|refine' zt (qg ?_) ?_);rotate_left|refine' zu (qg ?_)|rfl|apply tn|refine' zv ?_)
       go_ret2
       exact qa M _ (qa c6) ((qa b3).2.1 (by trivial) (by trivial))
      | false =>
       have c3:=(qa b3).2.2 (by trivial) (by trivial)
       have f2:Hid (qcu w.heap.size w5 (.slice none 0 0) []):=qb (qcu.nil _ _)
       clear M b3
       have g1:([]:List MsgV).length≤0:=Nat.le_refl _
       have cR:=(qa a6 _ (qa c6)).2.1
       go_upto_region 8 with fail
       go_cut [7,76] from 68 to 76 (fun rv bv wx=>rv = .bool t∧bv = .bool (t && !c.k.revoked)∧qy w5 wx)
       case first =>
        cases t with
        | true =>
         go_wp2_with (with_reducible first|(first|refine' zr (qg ?_) ?_|refine' zt (qg ?_) ?_);rotate_left|refine' zu (qg ?_)|rfl|apply tn|refine' zv ?_)
         go_meet
         case rel=>exact⟨rfl,rfl,by first | exact(Upd.refl _ _).drew | exact Upd.refl _ _⟩
        | false =>
         go_wp2_with (with_reducible first|(first|refine' zr (qg ?_) ?_|refine' zt (qg ?_) ?_);rotate_left|refine' zu (qg ?_)|rfl|apply tn|refine' zv ?_)
         go_meet
         case rel=>exact⟨rfl,rfl,by first | exact(Upd.refl _ _).drew | exact Upd.refl _ _⟩
       case rest =>
        obtain⟨rfl,rfl,f⟩:=hcut
        obtain⟨w6,rfl⟩:∃w6:World,w6=wc:=⟨_,rfl⟩
        have a8:=qb ((qa c6).trans f)
        have e0:=qb (qu (qa f2) f (fun _ _ h=>h))
        clear f cR
        go_upto_if 76 with fail
        go_cut [6,7,8] from 76 to 82 (fun uv rv v wx=>(uv = .bool C∧rv = .bool t)∧qcu w.heap.size wx v ([]++if t && !c.k.revoked then [J] else [])∧qy w wx)
        case first =>
         cases K:(t && !c.k.revoked) with
         | false =>
          go_wp2_with (with_reducible first|(first|refine' zr (qg ?_) ?_|refine' zt (qg ?_) ?_);rotate_left|refine' zu (qg ?_)|rfl|apply tn|refine' zv ?_)
          go_meet
          case rel=>exact⟨⟨by first | rfl | rw[K],rfl⟩,by rw[K,if_neg (by decide),List.append_nil];exact qa e0,qa a8⟩
         | true =>
          go_wp2_with (with_reducible first|(first|refine' zr (qg ?_) ?_|refine' zt (qg ?_) ?_);rotate_left|refine' zu (qg ?_)|rfl|apply tn|refine' zv ?_)
          refine(qa c1 w6 (qa a8)).mono ?_
          rintro e wa ⟨rfl,L⟩
          have y:w.heap.size≤wa.heap.size:=((qa a8).trans L).size
          have o:=qb (qm4 (ls:=[J]) (fun l Y=>by rw[List.mem_singleton.1 Y];exact H) (qm2 (w:=wa) H w.heap.size y))
          have q:qy wa (wa.alloc (.cells J.cells.toArray 30)):=(Upd.refl _ _).alloc _
          have R:Hid (qcu w.heap.size _ (.slice none 0 0) []):=qb (qu (qa e0) (L.trans q) (fun _ _ h=>h))
          have P:=qb (((qa a8).trans L).trans q)
          have x:=qb (Nat.le_trans y q.size)
          clear q L y
          go_wp2_with (first | (at_builtin;refine qhf rfl (.tmp 77) (.tmp 80) rfl w.heap.size (.slice none 0 0) _ (by go_simp) (qa R) [J] (fun l Y=>by rw[List.mem_singleton.1 Y];exact H) _ (by go_simp) (qa o) ?few (qa x) ?_) | (with_reducible first|(first|refine' zr (qg ?_) ?_|refine' zt (qg ?_) ?_);rotate_left|refine' zu (qg ?_)|rfl|apply tn|refine' zv ?_))
          case few=>simp only[List.length_cons,List.length_nil];omega
          intro va wb U V
          have z:=(qa P).then V (fun i hi e=>by omega)
          have HO:=qb U
          have I:=qb z
          clear U V z o x
          go_wp2_with (with_reducible first|(first|refine' zr (qg ?_) ?_|refine' zt (qg ?_) ?_);rotate_left|refine' zu (qg ?_)|rfl|apply tn|refine' zv ?_)
          go_meet
          case rel=>exact⟨⟨by first | rfl | rw[K],rfl⟩,by rw[K,if_pos rfl];exact qa HO,qa I⟩
        case rest =>
         obtain⟨⟨rfl,rfl⟩,ho,f⟩:=hcut
         obtain⟨w7,rfl⟩:∃w7:World,w7=wc:=⟨_,rfl⟩
         obtain⟨la,d0,g2⟩:∃l,l=[]++(if t && !c.k.revoked then [J] else [])∧l.length≤1:=⟨_,rfl,by rw[List.length_append];split<;>(try simp)<;>omega⟩
         rw[←d0] at ho
         have Hla:=qb d0
         have e1:=qb ho
         have O:=qb f
         clear ho f d0
         go_upto_if 82 with fail
         go_cut [6,7,8] from 82 to 89 (fun uv rv v wx=>(uv = .bool C∧rv = .bool t)∧qcu w.heap.size wx v (la++if C then c.last else [])∧qy w wx)
         case first =>
          cases K:(C) with
          | false =>
           go_wp2_with (with_reducible first|(first|refine' zr (qg ?_) ?_|refine' zt (qg ?_) ?_);rotate_left|refine' zu (qg ?_)|rfl|apply tn|refine' zv ?_)
           go_meet
           case rel=>exact⟨⟨by first | rfl | rw[K],rfl⟩,by rw[K,if_neg (by decide),List.append_nil];exact qa e1,qa O⟩
          | true =>
           have cL:=(qa a6 _ (qa O)).2.2
           have o:=qb (qm4 e9 (qa c5 w7 (qa O)))
           have x:=qb (qa O).size
           go_wp2_with (first | (at_builtin;refine qhf rfl (.tmp 83) (.tmp 87) rfl w.heap.size _ _ (by go_simp) (qa e1) c.last e9 _ (by go_simp) (qa o) ?few (qa x) ?_) | (with_reducible first|(first|refine' zr (qg ?_) ?_|refine' zt (qg ?_) ?_);rotate_left|refine' zu (qg ?_)|rfl|apply tn|refine' zv ?_))
           case few=>omega
           intro va wb U V
           have z:=(qa O).then V (fun i hi e=>by omega)
           have HO:=qb U
           have I:=qb z
           clear U V z o x
           go_wp2_with (with_reducible first|(first|refine' zr (qg ?_) ?_|refine' zt (qg ?_) ?_);rotate_left|refine' zu (qg ?_)|rfl|apply tn|refine' zv ?_)
           go_meet
           case rel=>exact⟨⟨by first | rfl | rw[K],rfl⟩,by rw[K,if_pos rfl];exact qa HO,qa I⟩
         case rest =>
          obtain⟨⟨rfl,rfl⟩,ho,f⟩:=hcut
          obtain⟨w8,rfl⟩:∃w8:World,w8=wc:=⟨_,rfl⟩
          obtain⟨lb,d1,g3⟩:∃l,l=la++(if C then c.last else [])∧l.length≤900001:=⟨_,rfl,by rw[List.length_append];split<;>(try simp)<;>omega⟩
          rw[←d1] at ho
          have Hlb:=qb d1
          have f3:=qb ho
          have d9:=qb f
          clear ho f d1
          have cR:=(qa a6 _ (qa d9)).2.1
          go_upto_region 12 with fail
          go_cut [7,96] from 89 to 96 (fun rv bv wx=>rv = .bool t∧bv = .bool (t&&c.k.revoked)∧qy w8 wx)
          case first =>
           cases t with
           | true =>
            go_wp2_with (with_reducible first|(first|refine' zr (qg ?_) ?_|refine' zt (qg ?_) ?_);rotate_left|refine' zu (qg ?_)|rfl|apply tn|refine' zv ?_)
            go_meet
            case rel=>exact⟨rfl,rfl,by first | exact(Upd.refl _ _).drew | exact Upd.refl _ _⟩
           | false =>
            go_wp2_with (with_reducible first|(first|refine' zr (qg ?_) ?_|refine' zt (qg ?_) ?_);rotate_left|refine' zu (qg ?_)|rfl|apply tn|refine' zv ?_)
            go_meet
            case rel=>exact⟨rfl,rfl,by first | exact(Upd.refl _ _).drew | exact Upd.refl _ _⟩
          case rest =>
           obtain⟨rfl,rfl,f⟩:=hcut
           obtain⟨w9,rfl⟩:∃w9:World,w9=wc:=⟨_,rfl⟩
           have a9:=qb ((qa d9).trans f)
           have e3:=qb (qu (qa f3) f (fun _ _ h=>h))
           clear f cR
           go_upto_if 96 with fail
           go_cut [6,7,8] from 96 to 102 (fun uv rv v wx=>(uv = .bool C∧rv = .bool t)∧qcu w.heap.size wx v (lb++if t&&c.k.revoked then [J] else [])∧qy w wx)
           case first =>
            cases K:(t&&c.k.revoked) with
            | false =>
             go_wp2_with (with_reducible first|(first|refine' zr (qg ?_) ?_|refine' zt (qg ?_) ?_);rotate_left|refine' zu (qg ?_)|rfl|apply tn|refine' zv ?_)
             go_meet
             case rel=>exact⟨⟨by first | rfl | rw[K],rfl⟩,by rw[K,if_neg (by decide),List.append_nil];exact qa e3,qa a9⟩
            | true =>
             go_wp2_with (with_reducible first|(first|refine' zr (qg ?_) ?_|refine' zt (qg ?_) ?_);rotate_left|refine' zu (qg ?_)|rfl|apply tn|refine' zv ?_)
             refine(qa c1 w9 (qa a9)).mono ?_
             rintro e wa ⟨rfl,L⟩
             have y:w.heap.size≤wa.heap.size:=((qa a9).trans L).size
             have o:=qb (qm4 (ls:=[J]) (fun l Y=>by rw[List.mem_singleton.1 Y];exact H) (qm2 (w:=wa) H w.heap.size y))
             have q:qy wa (wa.alloc (.cells J.cells.toArray 30)):=(Upd.refl _ _).alloc _
             have R:Hid (qcu w.heap.size _ _ lb):=qb (qu (qa e3) (L.trans q) (fun _ _ h=>h))
             have P:=qb (((qa a9).trans L).trans q)
             have x:=qb (Nat.le_trans y q.size)
             clear q L y
             go_wp2_with (first | (at_builtin;refine qhf rfl (.tmp 97) (.tmp 100) rfl w.heap.size _ _ (by go_simp) (qa R) [J] (fun l Y=>by rw[List.mem_singleton.1 Y];exact H) _ (by go_simp) (qa o) ?few (qa x) ?_) | (with_reducible first|(first|refine' zr (qg ?_) ?_|refine' zt (qg ?_) ?_);rotate_left|refine' zu (qg ?_)|rfl|apply tn|refine' zv ?_))
             case few=>simp only[List.length_cons,List.length_nil];omega
             intro va wb U V
             have z:=(qa P).then V (fun i hi e=>by omega)
             have HO:=qb U
             have I:=qb z
             clear U V z o x
             go_wp2_with (with_reducible first|(first|refine' zr (qg ?_) ?_|refine' zt (qg ?_) ?_);rotate_left|refine' zu (qg ?_)|rfl|apply tn|refine' zv ?_)
             go_meet
             case rel=>exact⟨⟨by first | rfl | rw[K],rfl⟩,by rw[K,if_pos rfl];exact qa HO,qa I⟩
           case rest =>
            obtain⟨⟨rfl,rfl⟩,ho,f⟩:=hcut
            obtain⟨d4,rfl⟩:∃d4:World,d4=wc:=⟨_,rfl⟩
            obtain⟨lc,D,g4⟩:∃l,l=lb++(if t&&c.k.revoked then [J] else [])∧l.length≤900002:=⟨_,rfl,by rw[List.length_append];split<;>(try simp)<;>omega⟩
            rw[←D] at ho
            have Hlc:=qb D
            have c0:=qb ho
            have F:=qb f
            clear ho f D
            have cX:=(qa a6 _ (qa F)).1
            have D:=qa Hlc
            rw[qa Hlb,qa Hla] at D
            cases b7:c.k.shutSaid with
            | false =>
             rw[b7] at cX
             have T:=qb (show c.resaid C t=lc by
              unfold Ch.resaid
              rw[b7,←qa e4,D]
              simp)
             clear D
             go_wp2_with (with_reducible first|(first|refine' zr (qg ?_) ?_|refine' zt (qg ?_) ?_);rotate_left|refine' zu (qg ?_)|rfl|apply tn|refine' zv ?_)
             go_ret2
             exact qa N _ _ _ (qa F) c3 (qa T) (qa c0)
            | true =>
             rw[b7] at cX
             have T:=qb (show c.resaid C t=lc++[SM] by
              unfold Ch.resaid
              rw[b7,←qa e4,←qa f4,D]
              simp)
             clear D
             go_wp2_with (with_reducible first|(first|refine' zr (qg ?_) ?_|refine' zt (qg ?_) ?_);rotate_left|refine' zu (qg ?_)|rfl|apply tn|refine' zv ?_)
             refine(qa e5 d4 (qa F)).mono ?_
             rintro e wa ⟨rfl,L⟩
             have y:w.heap.size≤wa.heap.size:=((qa F).trans L).size
             have o:=qb (qm4 (ls:=[SM]) (fun l Y=>by rw[List.mem_singleton.1 Y];exact a5) (qm2 (w:=wa) a5 w.heap.size y))
             have q:qy wa (wa.alloc (.cells SM.cells.toArray 30)):=(Upd.refl _ _).alloc _
             have R:Hid (qcu w.heap.size _ _ lc):=qb (qu (qa c0) (L.trans q) (fun _ _ h=>h))
             have P:=qb (((qa F).trans L).trans q)
             have x:=qb (Nat.le_trans y q.size)
             clear q L y
             go_wp2_with (first | (at_builtin;refine qhf rfl (.tmp 107) (.tmp 110) rfl w.heap.size _ _ (by go_simp) (qa R) [SM] (fun l Y=>by rw[List.mem_singleton.1 Y];exact a5) _ (by go_simp) (qa o) ?few (qa x) ?_) | (with_reducible first|(first|refine' zr (qg ?_) ?_|refine' zt (qg ?_) ?_);rotate_left|refine' zu (qg ?_)|rfl|apply tn|refine' zv ?_))
             case few=>simp only[List.length_cons,List.length_nil];omega
             intro va wb U V
             have z:=(qa P).then V (fun i hi e=>by omega)
             have HO:=qb U
             have I:=qb z
             clear U V z o x
             go_wp2_with (with_reducible first|(first|refine' zr (qg ?_) ?_|refine' zt (qg ?_) ?_);rotate_left|refine' zu (qg ?_)|rfl|apply tn|refine' zv ?_)
             go_ret2
             exact qa N _ _ _ (qa I) c3 (qa T) (qa HO)
end Go.Proofs.YtjpmomdechibmaaGreatDoor
