/-
  hearAgain (printed by tools/mk_hag.py).
-/
import Derived.Test.YtjpmomdechibmaaGreatDoorMdh
import Derived.Laws.OwnMore
set_option linter.unusedVariables false
set_option linter.unusedSimpArgs false
namespace Go.Proofs.YtjpmomdechibmaaGreatDoor
open Go.RowKit
theorem qsc(ls:List MsgV)(h:∀l∈ls,l.hash.length=32):(ls.flatMap MsgV.cells).length=ls.length*38:=by
 induction ls with
 | nil=>rfl
 | cons x xs g =>
  rw[List.flatMap_cons,List.length_append,g (fun l f=>h l (List.mem_cons_of_mem _ f)),x.len (h x List.mem_cons_self),List.length_cons,Nat.succ_mul]
  omega
theorem q3k(ls:List MsgV):∀u∈ls.flatMap MsgV.cells,u.oneCell'=true:=by
 intro u g
 obtain⟨l,-,f⟩:=List.mem_flatMap.1 g
 exact l.one u f
theorem qg2{w:World}{y:Array Oper}{rest:List Oper}{o:Oper}{a:Act}{Q:Exit→Act→World→Prop}(m:o.guard=none)(s x:Operand)
  (N:o.op = .call {callee:= .builtin .append,args:=#[s,x],argTypes:=#[35,35]})
  (base:Nat) (v:Value) (L:List MsgV) (O:a.eval s=v) (f:qcj base w v L)
  (ls:List MsgV) (E:∀l∈ls,l.hash.length=32) (M:Value) (R:a.eval x=M)
  (t:(M = .slice none 0 0∧ls=[])∨∃z c,M = .slice (some z) ls.length c∧∀j u,(ls.flatMap MsgV.cells)[j]? = some u→w.cell? (z.add j)=some u)
  (i:L.length+ls.length≤1000000) (g:base≤w.heap.size)
  (h:∀C w',qcj base w' C (L++ls)→Upd (fun k=>base≤k) w w'→wpList Tryz.prog y Q rest (a.put o.dst C) w') :
  wpList Tryz.prog y Q (o::rest) a w:=by
 obtain⟨T,z9,U,q,J,F,H,I,D⟩:=qj5
 rcases t with ⟨rfl,rfl⟩ | ⟨z,c,rfl,Y⟩
 ·refine wpList_plain m fun K X=> ?_
  have hr:=run_append_owned_none (P:=Tryz.prog) (w:=w) base 35 o.type 30 T 38 Tryz.underlying35 q v L.length _ f
  unfold Oper.wp execOp
  simp only[N,resolve,invoke,builtin,Sem.run_bind,Sem.run_pure,Result.andThen_ok,List.map_toArray,List.map_cons,List.map_nil,O,R,hr]
  refine X _ _ (h v w ?_ (Upd.refl _ _))
  rw[List.append_nil]
  exact f
 ·refine wpList_append_own_at (P:=Tryz.prog) w m s x 35 N base 30 T _ 38 U Tryz.underlying35 q J F H I (by decide) v L.length _ O f z ls.length c (ls.flatMap MsgV.cells) R (qsc ls E) Y (q3k ls) (by unfold maxLen;omega) (by have:=Nat.mul_le_mul i D;omega) g ?_
  intro C w' V W _ h4
  refine h C w' ?_ ((Upd.refl _ _).grown W (fun k Z _=>qi6 f k Z))
  unfold qcj
  rw[List.length_append,List.flatMap_append]
  exact V
theorem qmg{w:World}{ls:List MsgV}{base:Nat}{v:Value}(i:∀l∈ls,l.hash.length=32)(h:w.ownsRow base 30 38 v ls.length (ls.flatMap MsgV.cells)) :
  (v = .slice none 0 0∧ls=[])∨∃m c',v = .slice (some m) ls.length c'∧∀j u,(ls.flatMap MsgV.cells)[j]? = some u→w.cell? (m.add j)=some u:=by
 rcases h.2 with ⟨e,t⟩ | ⟨g,cap,q,e,y,C,z,_,D,E⟩
 ·exact .inl ⟨e,List.length_eq_zero_iff.1 t⟩
 ·refine .inr ⟨⟨g,0,none⟩,cap,e,?_⟩
  intro j u o
  rw[e] at h
  have f:=(List.getElem?_eq_some_iff.1 o).1
  rw[qsc ls i] at f
  have:=World.ownsRow.cellAt h j f
  have x:(⟨g,0,none⟩:Addr).add j=⟨g,j,none⟩:=by cases j<;>simp[Addr.add]
  rw[x,this]
  exact o
def qfv(c:Ch)(m:MsgV):Bool:=c.k.awaits&&decide (m.number=c.k.signed)
def qki(c:Ch)(m:MsgV):Bool:=decide (0<c.k.heard)&&decide (m.id=c.k.heard-1)
def qed(c:Ch)(m:MsgV):Int:=if qfv c m=false∧m.number≠c.k.signed+1 then 140 else if qki c m=false∧m.id≠c.k.heard then 140 else 0
def Ch.resaid(c:Ch)(g f:Bool):List MsgV:=(if f && !c.k.revoked then [c.revocation] else [])++((if g then c.last else [])++((if f&&c.k.revoked then [c.revocation] else [])++(if c.k.shutSaid then [qbp c.s.ch] else [])))
def Ch.hearAgain(c:Ch)(m:MsgV):List MsgV × Int:=if qed c m=0 then (c.resaid (qfv c m) (qki c m),0) else ([],140)
attribute [local go_sem ↓ high] z7 qal qan qa0 qab qac qag qaa qem
attribute [local go_sem] qcp qdl qdr qfx zn qc2 qc3 qc6 qbm qms
set_option maxRecDepth 100000 in
set_option maxHeartbeats 4000000 in
theorem qq0(g:Nat)(S:Nat→Prop)(c:Ch)(m:MsgV)(hm:MsgOk m)(w:World)(h:ChS w g S c)(hT:Tb w)(g0:c.last.length≤900000) :
  Calls Tryz.prog 72 #[.pointer (some ⟨g,0,none⟩),.agg m.cells.toArray] w (qf0 g S w c (c.hearAgain m).1 (c.hearAgain m).2):=by
 have F:c.revocation.hash.length=32:=by
  obtain⟨_,_,_,hp⟩:=h
  exact Ch.secret_len hp.ok _
 have a5:(qbp c.s.ch).hash.length=32:=qo
 have HS:=qb h
 have g6:¬w.heap.size≤g:=by
  obtain⟨_,_,_,hp⟩:=h
  have:=hp.lt g hp.inG
  omega
 obtain⟨lv,nv,av,h⟩:=h
 have H0:=qb h
 have e9:=h.ok.last
 go_enter Tryz.func72,Tryz.ntmps72
 go_upto_region 1 with fail
 have hA:=qb6 w m hm.len
 have n1:qx w (w.alloc (.cells m.cells.toArray 30)):=(Upd.refl _ _).alloc _
 generalize w.alloc (.cells m.cells.toArray 30)=w1 at n1 hA ⊢
 generalize w.heap.size=A at hA ⊢
 have D:=h.new n1
 obtain⟨-,-,mi,-,-,mn,-⟩:=hA.cells
 have cS:w1.cell? ⟨g,37,none⟩=some (.int .i64 c.k.signed):=D.toR.signed
 have cH:w1.cell? ⟨g,38,none⟩=some (.int .i64 c.k.heard):=D.toR.heard
 have cW:w1.cell? ⟨g,39,none⟩=some (.bool c.k.awaits):=D.toR.awaits
 have cX:w1.cell? ⟨g,42,none⟩=some (.bool c.k.shutSaid):=D.toR.shutSaid
 have cR:w1.cell? ⟨g,44,none⟩=some (.bool c.k.revoked):=D.toR.revoked
 have cL:w1.cell? ⟨g,627,none⟩=some av:=by rw[qg D.at_ 627];exact qpd c lv nv av D.ok.s.seed D.ok.shelf
 have f6:=h.ok.signed
 have f5:=h.ok.heard
 have f9:IntKind.i64.wrap (c.k.signed+1)=c.k.signed+1:=qik (by omega) (by omega)
 have f7:IntKind.u64.wrap c.k.heard=c.k.heard:=qd3 (by omega) (by omega)
 have f8:IntKind.i64.wrap (c.k.heard-1)=c.k.heard-1:=qik (by omega) (by omega)
 have f0:0<c.k.heard→IntKind.u64.wrap (c.k.heard-1)=c.k.heard-1:=fun _=>qd3 (by omega) (by omega)
 have H1:=qb D
 have f1:=qb n1
 obtain⟨z,b8⟩:∃z,z=qfv c m:=⟨_,rfl⟩
 obtain⟨q,b9⟩:∃q,q=qki c m:=⟨_,rfl⟩
 have b4:=qb b8
 have b5:=qb b9
 have e6:c.hearAgain m=if qed c m=0 then (c.resaid z q,0) else ([],140):=by rw[b8,b9];rfl
 have e8:qed c m=if z=false∧m.number≠c.k.signed+1 then 140 else if q=false∧m.id≠c.k.heard then 140 else 0:=by rw[b8,b9];rfl
 have d5:=qb e6
 have d6:=qb e8
 have HA:=qb hA
 clear h D n1 hA b8 b9 e6 e8
 go_cut [6] from 9 to 24 (fun uv wx=>uv = .bool z∧qx w1 wx)
 case first =>
  cases ha:c.k.awaits with
  | false =>
   rw[ha] at cW
   have e:z=false:=by rw[qa b4];unfold qfv;rw[ha];rfl
   subst e
   go_wp2_with (with_reducible first|(first|refine' tw1 (qh ?_) ?_|refine' tw2 (qh ?_) ?_);rotate_left|refine' tw3 (qh ?_)|rfl|apply tn|refine' tw4 ?_)
   go_meet
   case rel=>exact⟨rfl,(Upd.refl _ _).drew⟩
  | true =>
   rw[ha] at cW
   by_cases hn:m.number=c.k.signed
   ·have e:z=true:=by rw[qa b4];unfold qfv;rw[ha,decide_eq_true hn];rfl
    subst e
    rw[hn] at mn
    go_wp2_with (with_reducible first|(first|refine' tw1 (qh ?_) ?_|refine' tw2 (qh ?_) ?_);rotate_left|refine' tw3 (qh ?_)|rfl|apply tn|refine' tw4 ?_)
    go_meet
    case rel=>exact⟨rfl,(Upd.refl _ _).drew⟩
   ·have e:z=false:=by rw[qa b4];unfold qfv;rw[ha,decide_eq_false hn];rfl
    subst e
    have d:(m.number==c.k.signed)=false:=beq_eq_false_iff_ne.2 hn
    go_wp2_with (with_reducible first|(first|refine' tw1 (qh ?_) ?_|refine' tw2 (qh ?_) ?_);rotate_left|refine' tw3 (qh ?_)|rfl|apply tn|refine' tw4 ?_)
    go_meet
    case rel=>exact⟨rfl,(Upd.refl _ _).drew⟩
 case rest =>
  obtain⟨rfl,f⟩:=hcut
  obtain⟨w2,rfl⟩:∃w2:World,w2=wc:=⟨_,rfl⟩
  have mi:=f.cell mi (fun h=>h)
  have mn:=f.cell mn (fun h=>h)
  have cS:=f.cell cS (fun h=>h)
  have cH:=f.cell cH (fun h=>h)
  have cW:=f.cell cW (fun h=>h)
  have cX:=f.cell cX (fun h=>h)
  have cR:=f.cell cR (fun h=>h)
  have cL:=f.cell cL (fun h=>h)
  have d7:=qb ((qa f1).trans f)
  clear f HA
  go_upto_region 2 with fail
  go_cut [7] from 24 to 42 (fun rv wx=>rv = .bool q∧qx w2 wx)
  case first =>
   by_cases h0:0<c.k.heard
   ·have hw:=f0 h0
    by_cases hn:m.id=c.k.heard-1
    ·have e:q=true:=by rw[qa b5];unfold qki;rw[decide_eq_true h0,decide_eq_true hn];rfl
     subst e
     rw[hn] at mi
     go_wp2_with (with_reducible first|(first|refine' tw1 (qh ?_) ?_|refine' tw2 (qh ?_) ?_);rotate_left|refine' tw3 (qh ?_)|rfl|apply tn|refine' tw4 ?_)
     go_meet
     case rel=>exact⟨rfl,(Upd.refl _ _).drew⟩
    ·have e:q=false:=by rw[qa b5];unfold qki;rw[decide_eq_true h0,decide_eq_false hn];rfl
     subst e
     have d:(m.id==c.k.heard-1)=false:=beq_eq_false_iff_ne.2 hn
     go_wp2_with (with_reducible first|(first|refine' tw1 (qh ?_) ?_|refine' tw2 (qh ?_) ?_);rotate_left|refine' tw3 (qh ?_)|rfl|apply tn|refine' tw4 ?_)
     go_meet
     case rel=>exact⟨rfl,(Upd.refl _ _).drew⟩
   ·have e:q=false:=by rw[qa b5];unfold qki;rw[decide_eq_false h0];rfl
    subst e
    have g5:decide (0<c.k.heard)=false:=decide_eq_false h0
    go_wp2_with (with_reducible first|(first|refine' tw1 (qh ?_) ?_|refine' tw2 (qh ?_) ?_);rotate_left|refine' tw3 (qh ?_)|rfl|apply tn|refine' tw4 ?_)
    go_meet
    case rel=>exact⟨rfl,(Upd.refl _ _).drew⟩
  case rest =>
   obtain⟨rfl,f⟩:=hcut
   obtain⟨w3,rfl⟩:∃w3:World,w3=wc:=⟨_,rfl⟩
   have mi:=f.cell mi (fun h=>h)
   have mn:=f.cell mn (fun h=>h)
   have cS:=f.cell cS (fun h=>h)
   have cH:=f.cell cH (fun h=>h)
   have cX:=f.cell cX (fun h=>h)
   have cR:=f.cell cR (fun h=>h)
   have cL:=f.cell cL (fun h=>h)
   have d8:=qb ((qa d7).trans f)
   clear f cW b4 b5
   obtain⟨I,b6⟩:∃I,I=c.revocation:=⟨_,rfl⟩
   rw[←b6] at F
   have c4:∀W,qx w W→Calls Tryz.prog 103 #[.pointer (some ⟨g,0,none⟩)] W (qa5 (.agg I.cells.toArray) W):=fun W n=>by
    rw[b6]
    exact qka g S c W ((qa HS).new n) (hT.new n).tabs
   have a4:∀W,qx w W→Calls Tryz.prog 54 #[.pointer (some ⟨g,0,none⟩)] W (qa5 (.agg (qbp c.s.ch).cells.toArray) W):=fun W n=>by
    obtain⟨a1,a2,a3,hp⟩:=(qa HS).new n
    exact qsl g _ W hp.toR
   have Y:∀W,qx w W→q0r W av c.last:=fun W n=>((qa H0).new n).last
   have c2:∀W,qx w W→qed c m=140→qf0 g S w c (c.hearAgain m).1 (c.hearAgain m).2 (.returned (.tuple #[.slice none 0 0,.int .i64 140])) W:=fun W n e=>by
    have e2:c.hearAgain m=([],140):=by rw[qa d5,e,if_neg (by decide)]
    rw[e2]
    exact⟨qbl,rfl,qcj.nil _ _,((qa HS).new n).frW,n.mono (fun _ _ h=>h.elim)⟩
   have V:∀W v l,qx w W→qed c m=0→c.resaid z q=l→qcj w.heap.size W v l→qf0 g S w c (c.hearAgain m).1 (c.hearAgain m).2 (.returned (.tuple #[v,.int .i64 0])) W:=fun W v l n e el hv=>by
    have e2:c.hearAgain m=(l,0):=by rw[qa d5,e,if_pos rfl,el]
    rw[e2]
    exact⟨v,rfl,hv,((qa HS).new n).frW,n.mono (fun _ _ h=>h.elim)⟩
   obtain⟨SM,c9⟩:∃SM,SM=qbp c.s.ch:=⟨_,rfl⟩
   rw[←c9] at a4 a5
   have f4:=qb c9
   clear c9
   have g7:=I.len F
   have g8:=SM.len a5
   have e4:=qb b6
   have c1:=qb c4
   have e5:=qb a4
   have c5:=qb Y
   have L:=qb c2
   have M:=qb V
   clear b6 c4 a4 Y c2 V
   obtain⟨t1,d2⟩:∃t1,t1=(!z && !(m.number==c.k.signed+1)):=⟨_,rfl⟩
   obtain⟨t2,d3⟩:∃t2,t2=(!q && !(m.id==c.k.heard)):=⟨_,rfl⟩
   have b3:=qb (show (t1=true→qed c m=140)∧(t1=false→t2=true→qed c m=140)∧(t1=false→t2=false→qed c m=0) by
    rw[qa d6,d2,d3]
    cases z<;>cases q<;>by_cases D:m.number=c.k.signed+1<;>by_cases h2:m.id=c.k.heard<;>simp[D,h2])
   have c7:=qb d2
   have c8:=qb d3
   have e7:∀W,qx w W→W.cell? ⟨g,42,none⟩=some (.bool c.k.shutSaid)∧W.cell? ⟨g,44,none⟩=some (.bool c.k.revoked)∧W.cell? ⟨g,627,none⟩=some av:=fun W n=>by
    have D:=(qa H0).new n
    exact⟨D.toR.shutSaid,D.toR.revoked,by rw[qg D.at_ 627];exact qpd c lv nv av D.ok.s.seed D.ok.shelf⟩
   have a6:=qb e7
   clear d2 d3 e7 cX cR cL d6
   go_upto_region 3 with fail
   go_cut [54] from 42 to 54 (fun bv wx=>bv = .bool t1∧qx w3 wx)
   case first =>
    cases z with
    | true =>
     obtain rfl:t1=false:=qa c7
     go_wp2_with (with_reducible first|(first|refine' tw1 (qh ?_) ?_|refine' tw2 (qh ?_) ?_);rotate_left|refine' tw3 (qh ?_)|rfl|apply tn|refine' tw4 ?_)
     go_meet
     case rel=>exact⟨rfl,(Upd.refl _ _).drew⟩
    | false =>
     obtain rfl:t1 = !(m.number==c.k.signed+1):=qa c7
     go_wp2_with (with_reducible first|(first|refine' tw1 (qh ?_) ?_|refine' tw2 (qh ?_) ?_);rotate_left|refine' tw3 (qh ?_)|rfl|apply tn|refine' tw4 ?_)
     go_meet
     case rel=>exact⟨rfl,(Upd.refl _ _).drew⟩
   case rest =>
    obtain⟨rfl,f⟩:=hcut
    obtain⟨w4,rfl⟩:∃w4:World,w4=wc:=⟨_,rfl⟩
    have a7:=qb ((qa d8).trans f)
    have mi:=f.cell mi (fun h=>h)
    have cH:=f.cell cH (fun h=>h)
    clear f mn cS f9 f8 f0 f6 d8 d7 c7
    cases t1 with
    | true =>
     go_wp2_with (with_reducible first|(first|refine' tw1 (qh ?_) ?_|refine' tw2 (qh ?_) ?_);rotate_left|refine' tw3 (qh ?_)|rfl|apply tn|refine' tw4 ?_)
     go_ret2
     exact qa L _ (qa a7) ((qa b3).1 (by trivial))
    | false =>
     go_upto_region 5 with fail
     go_cut [67] from 55 to 67 (fun bv wx=>bv = .bool t2∧qx w wx)
     case first =>
      cases q with
      | true =>
       obtain rfl:t2=false:=qa c8
       go_wp2_with (with_reducible first|(first|refine' tw1 (qh ?_) ?_|refine' tw2 (qh ?_) ?_);rotate_left|refine' tw3 (qh ?_)|rfl|apply tn|refine' tw4 ?_)
       go_meet
       case rel=>exact⟨rfl,(qa a7).drew⟩
      | false =>
       obtain rfl:t2 = !(m.id==c.k.heard):=qa c8
       go_wp2_with (with_reducible first|(first|refine' tw1 (qh ?_) ?_|refine' tw2 (qh ?_) ?_);rotate_left|refine' tw3 (qh ?_)|rfl|apply tn|refine' tw4 ?_)
       go_meet
       case rel=>exact⟨rfl,(qa a7).drew⟩
     case rest =>
      obtain⟨rfl,f⟩:=hcut
      obtain⟨w5,rfl⟩:∃w5:World,w5=wc:=⟨_,rfl⟩
      have c6:=qb f
      clear f mi cH f7 f5 c8 HS H1 a7
      cases t2 with
      | true =>
       go_wp2_with (with_reducible first|(first|refine' tw1 (qh ?_) ?_|refine' tw2 (qh ?_) ?_);rotate_left|refine' tw3 (qh ?_)|rfl|apply tn|refine' tw4 ?_)
       go_ret2
       exact qa L _ (qa c6) ((qa b3).2.1 (by trivial) (by trivial))
      | false =>
       have c3:=(qa b3).2.2 (by trivial) (by trivial)
       have f2:Hid (qcj w.heap.size w5 (.slice none 0 0) []):=qb (qcj.nil _ _)
       clear L b3
       have g1:([]:List MsgV).length≤0:=Nat.le_refl _
       have cR:=(qa a6 _ (qa c6)).2.1
       go_upto_region 8 with fail
       go_cut [7,76] from 68 to 76 (fun rv bv wx=>rv = .bool q∧bv = .bool (q && !c.k.revoked)∧qx w5 wx)
       case first =>
        cases q with
        | true =>
         go_wp2_with (with_reducible first|(first|refine' tw1 (qh ?_) ?_|refine' tw2 (qh ?_) ?_);rotate_left|refine' tw3 (qh ?_)|rfl|apply tn|refine' tw4 ?_)
         go_meet
         case rel=>exact⟨rfl,rfl,by first | exact(Upd.refl _ _).drew | exact Upd.refl _ _⟩
        | false =>
         go_wp2_with (with_reducible first|(first|refine' tw1 (qh ?_) ?_|refine' tw2 (qh ?_) ?_);rotate_left|refine' tw3 (qh ?_)|rfl|apply tn|refine' tw4 ?_)
         go_meet
         case rel=>exact⟨rfl,rfl,by first | exact(Upd.refl _ _).drew | exact Upd.refl _ _⟩
       case rest =>
        obtain⟨rfl,rfl,f⟩:=hcut
        obtain⟨w6,rfl⟩:∃w6:World,w6=wc:=⟨_,rfl⟩
        have a8:=qb ((qa c6).trans f)
        have e0:=qb (qq (qa f2) f (fun _ _ h=>h))
        clear f cR
        go_upto_if 76 with fail
        go_cut [6,7,8] from 76 to 82 (fun uv rv v wx=>(uv = .bool z∧rv = .bool q)∧qcj w.heap.size wx v ([]++if q && !c.k.revoked then [I] else [])∧qx w wx)
        case first =>
         cases J:(q && !c.k.revoked) with
         | false =>
          go_wp2_with (with_reducible first|(first|refine' tw1 (qh ?_) ?_|refine' tw2 (qh ?_) ?_);rotate_left|refine' tw3 (qh ?_)|rfl|apply tn|refine' tw4 ?_)
          go_meet
          case rel=>exact⟨⟨by first | rfl | rw[J],rfl⟩,by rw[J,if_neg (by decide),List.append_nil];exact qa e0,qa a8⟩
         | true =>
          go_wp2_with (with_reducible first|(first|refine' tw1 (qh ?_) ?_|refine' tw2 (qh ?_) ?_);rotate_left|refine' tw3 (qh ?_)|rfl|apply tn|refine' tw4 ?_)
          refine(qa c1 w6 (qa a8)).mono ?_
          rintro e wa ⟨rfl,K⟩
          have x:w.heap.size≤wa.heap.size:=((qa a8).trans K).size
          have j:=qb (qmg (ls:=[I]) (fun l X=>by rw[List.mem_singleton.1 X];exact F) (qme (w:=wa) F w.heap.size x))
          have o:qx wa (wa.alloc (.cells I.cells.toArray 30)):=(Upd.refl _ _).alloc _
          have P:Hid (qcj w.heap.size _ (.slice none 0 0) []):=qb (qq (qa e0) (K.trans o) (fun _ _ h=>h))
          have O:=qb (((qa a8).trans K).trans o)
          have t:=qb (Nat.le_trans x o.size)
          clear o K x
          go_wp2_with (first | (at_builtin;refine qg2 rfl (.tmp 77) (.tmp 80) rfl w.heap.size (.slice none 0 0) _ (by go_simp) (qa P) [I] (fun l X=>by rw[List.mem_singleton.1 X];exact F) _ (by go_simp) (qa j) ?few (qa t) ?_) | (with_reducible first|(first|refine' tw1 (qh ?_) ?_|refine' tw2 (qh ?_) ?_);rotate_left|refine' tw3 (qh ?_)|rfl|apply tn|refine' tw4 ?_))
          case few=>simp only[List.length_cons,List.length_nil];omega
          intro va wb T U
          have y:=(qa O).then U (fun i hi e=>by omega)
          have HO:=qb T
          have H:=qb y
          clear T U y j t
          go_wp2_with (with_reducible first|(first|refine' tw1 (qh ?_) ?_|refine' tw2 (qh ?_) ?_);rotate_left|refine' tw3 (qh ?_)|rfl|apply tn|refine' tw4 ?_)
          go_meet
          case rel=>exact⟨⟨by first | rfl | rw[J],rfl⟩,by rw[J,if_pos rfl];exact qa HO,qa H⟩
        case rest =>
         obtain⟨⟨rfl,rfl⟩,Z,f⟩:=hcut
         obtain⟨w7,rfl⟩:∃w7:World,w7=wc:=⟨_,rfl⟩
         obtain⟨la,d0,g2⟩:∃l,l=[]++(if q && !c.k.revoked then [I] else [])∧l.length≤1:=⟨_,rfl,by rw[List.length_append];split<;>(try simp)<;>omega⟩
         rw[←d0] at Z
         have Hla:=qb d0
         have e1:=qb Z
         have N:=qb f
         clear Z f d0
         go_upto_if 82 with fail
         go_cut [6,7,8] from 82 to 89 (fun uv rv v wx=>(uv = .bool z∧rv = .bool q)∧qcj w.heap.size wx v (la++if z then c.last else [])∧qx w wx)
         case first =>
          cases J:(z) with
          | false =>
           go_wp2_with (with_reducible first|(first|refine' tw1 (qh ?_) ?_|refine' tw2 (qh ?_) ?_);rotate_left|refine' tw3 (qh ?_)|rfl|apply tn|refine' tw4 ?_)
           go_meet
           case rel=>exact⟨⟨by first | rfl | rw[J],rfl⟩,by rw[J,if_neg (by decide),List.append_nil];exact qa e1,qa N⟩
          | true =>
           have cL:=(qa a6 _ (qa N)).2.2
           have j:=qb (qmg e9 (qa c5 w7 (qa N)))
           have t:=qb (qa N).size
           go_wp2_with (first | (at_builtin;refine qg2 rfl (.tmp 83) (.tmp 87) rfl w.heap.size _ _ (by go_simp) (qa e1) c.last e9 _ (by go_simp) (qa j) ?few (qa t) ?_) | (with_reducible first|(first|refine' tw1 (qh ?_) ?_|refine' tw2 (qh ?_) ?_);rotate_left|refine' tw3 (qh ?_)|rfl|apply tn|refine' tw4 ?_))
           case few=>omega
           intro va wb T U
           have y:=(qa N).then U (fun i hi e=>by omega)
           have HO:=qb T
           have H:=qb y
           clear T U y j t
           go_wp2_with (with_reducible first|(first|refine' tw1 (qh ?_) ?_|refine' tw2 (qh ?_) ?_);rotate_left|refine' tw3 (qh ?_)|rfl|apply tn|refine' tw4 ?_)
           go_meet
           case rel=>exact⟨⟨by first | rfl | rw[J],rfl⟩,by rw[J,if_pos rfl];exact qa HO,qa H⟩
         case rest =>
          obtain⟨⟨rfl,rfl⟩,Z,f⟩:=hcut
          obtain⟨w8,rfl⟩:∃w8:World,w8=wc:=⟨_,rfl⟩
          obtain⟨lb,d1,g3⟩:∃l,l=la++(if z then c.last else [])∧l.length≤900001:=⟨_,rfl,by rw[List.length_append];split<;>(try simp)<;>omega⟩
          rw[←d1] at Z
          have Hlb:=qb d1
          have f3:=qb Z
          have d9:=qb f
          clear Z f d1
          have cR:=(qa a6 _ (qa d9)).2.1
          go_upto_region 12 with fail
          go_cut [7,96] from 89 to 96 (fun rv bv wx=>rv = .bool q∧bv = .bool (q&&c.k.revoked)∧qx w8 wx)
          case first =>
           cases q with
           | true =>
            go_wp2_with (with_reducible first|(first|refine' tw1 (qh ?_) ?_|refine' tw2 (qh ?_) ?_);rotate_left|refine' tw3 (qh ?_)|rfl|apply tn|refine' tw4 ?_)
            go_meet
            case rel=>exact⟨rfl,rfl,by first | exact(Upd.refl _ _).drew | exact Upd.refl _ _⟩
           | false =>
            go_wp2_with (with_reducible first|(first|refine' tw1 (qh ?_) ?_|refine' tw2 (qh ?_) ?_);rotate_left|refine' tw3 (qh ?_)|rfl|apply tn|refine' tw4 ?_)
            go_meet
            case rel=>exact⟨rfl,rfl,by first | exact(Upd.refl _ _).drew | exact Upd.refl _ _⟩
          case rest =>
           obtain⟨rfl,rfl,f⟩:=hcut
           obtain⟨w9,rfl⟩:∃w9:World,w9=wc:=⟨_,rfl⟩
           have a9:=qb ((qa d9).trans f)
           have e3:=qb (qq (qa f3) f (fun _ _ h=>h))
           clear f cR
           go_upto_if 96 with fail
           go_cut [6,7,8] from 96 to 102 (fun uv rv v wx=>(uv = .bool z∧rv = .bool q)∧qcj w.heap.size wx v (lb++if q&&c.k.revoked then [I] else [])∧qx w wx)
           case first =>
            cases J:(q&&c.k.revoked) with
            | false =>
             go_wp2_with (with_reducible first|(first|refine' tw1 (qh ?_) ?_|refine' tw2 (qh ?_) ?_);rotate_left|refine' tw3 (qh ?_)|rfl|apply tn|refine' tw4 ?_)
             go_meet
             case rel=>exact⟨⟨by first | rfl | rw[J],rfl⟩,by rw[J,if_neg (by decide),List.append_nil];exact qa e3,qa a9⟩
            | true =>
             go_wp2_with (with_reducible first|(first|refine' tw1 (qh ?_) ?_|refine' tw2 (qh ?_) ?_);rotate_left|refine' tw3 (qh ?_)|rfl|apply tn|refine' tw4 ?_)
             refine(qa c1 w9 (qa a9)).mono ?_
             rintro e wa ⟨rfl,K⟩
             have x:w.heap.size≤wa.heap.size:=((qa a9).trans K).size
             have j:=qb (qmg (ls:=[I]) (fun l X=>by rw[List.mem_singleton.1 X];exact F) (qme (w:=wa) F w.heap.size x))
             have o:qx wa (wa.alloc (.cells I.cells.toArray 30)):=(Upd.refl _ _).alloc _
             have P:Hid (qcj w.heap.size _ _ lb):=qb (qq (qa e3) (K.trans o) (fun _ _ h=>h))
             have O:=qb (((qa a9).trans K).trans o)
             have t:=qb (Nat.le_trans x o.size)
             clear o K x
             go_wp2_with (first | (at_builtin;refine qg2 rfl (.tmp 97) (.tmp 100) rfl w.heap.size _ _ (by go_simp) (qa P) [I] (fun l X=>by rw[List.mem_singleton.1 X];exact F) _ (by go_simp) (qa j) ?few (qa t) ?_) | (with_reducible first|(first|refine' tw1 (qh ?_) ?_|refine' tw2 (qh ?_) ?_);rotate_left|refine' tw3 (qh ?_)|rfl|apply tn|refine' tw4 ?_))
             case few=>simp only[List.length_cons,List.length_nil];omega
             intro va wb T U
             have y:=(qa O).then U (fun i hi e=>by omega)
             have HO:=qb T
             have H:=qb y
             clear T U y j t
             go_wp2_with (with_reducible first|(first|refine' tw1 (qh ?_) ?_|refine' tw2 (qh ?_) ?_);rotate_left|refine' tw3 (qh ?_)|rfl|apply tn|refine' tw4 ?_)
             go_meet
             case rel=>exact⟨⟨by first | rfl | rw[J],rfl⟩,by rw[J,if_pos rfl];exact qa HO,qa H⟩
           case rest =>
            obtain⟨⟨rfl,rfl⟩,Z,f⟩:=hcut
            obtain⟨d4,rfl⟩:∃d4:World,d4=wc:=⟨_,rfl⟩
            obtain⟨lc,C,g4⟩:∃l,l=lb++(if q&&c.k.revoked then [I] else [])∧l.length≤900002:=⟨_,rfl,by rw[List.length_append];split<;>(try simp)<;>omega⟩
            rw[←C] at Z
            have Hlc:=qb C
            have c0:=qb Z
            have E:=qb f
            clear Z f C
            have cX:=(qa a6 _ (qa E)).1
            have C:=qa Hlc
            rw[qa Hlb,qa Hla] at C
            cases b7:c.k.shutSaid with
            | false =>
             rw[b7] at cX
             have R:=qb (show c.resaid z q=lc by
              unfold Ch.resaid
              rw[b7,←qa e4,C]
              simp)
             clear C
             go_wp2_with (with_reducible first|(first|refine' tw1 (qh ?_) ?_|refine' tw2 (qh ?_) ?_);rotate_left|refine' tw3 (qh ?_)|rfl|apply tn|refine' tw4 ?_)
             go_ret2
             exact qa M _ _ _ (qa E) c3 (qa R) (qa c0)
            | true =>
             rw[b7] at cX
             have R:=qb (show c.resaid z q=lc++[SM] by
              unfold Ch.resaid
              rw[b7,←qa e4,←qa f4,C]
              simp)
             clear C
             go_wp2_with (with_reducible first|(first|refine' tw1 (qh ?_) ?_|refine' tw2 (qh ?_) ?_);rotate_left|refine' tw3 (qh ?_)|rfl|apply tn|refine' tw4 ?_)
             refine(qa e5 d4 (qa E)).mono ?_
             rintro e wa ⟨rfl,K⟩
             have x:w.heap.size≤wa.heap.size:=((qa E).trans K).size
             have j:=qb (qmg (ls:=[SM]) (fun l X=>by rw[List.mem_singleton.1 X];exact a5) (qme (w:=wa) a5 w.heap.size x))
             have o:qx wa (wa.alloc (.cells SM.cells.toArray 30)):=(Upd.refl _ _).alloc _
             have P:Hid (qcj w.heap.size _ _ lc):=qb (qq (qa c0) (K.trans o) (fun _ _ h=>h))
             have O:=qb (((qa E).trans K).trans o)
             have t:=qb (Nat.le_trans x o.size)
             clear o K x
             go_wp2_with (first | (at_builtin;refine qg2 rfl (.tmp 107) (.tmp 110) rfl w.heap.size _ _ (by go_simp) (qa P) [SM] (fun l X=>by rw[List.mem_singleton.1 X];exact a5) _ (by go_simp) (qa j) ?few (qa t) ?_) | (with_reducible first|(first|refine' tw1 (qh ?_) ?_|refine' tw2 (qh ?_) ?_);rotate_left|refine' tw3 (qh ?_)|rfl|apply tn|refine' tw4 ?_))
             case few=>simp only[List.length_cons,List.length_nil];omega
             intro va wb T U
             have y:=(qa O).then U (fun i hi e=>by omega)
             have HO:=qb T
             have H:=qb y
             clear T U y j t
             go_wp2_with (with_reducible first|(first|refine' tw1 (qh ?_) ?_|refine' tw2 (qh ?_) ?_);rotate_left|refine' tw3 (qh ?_)|rfl|apply tn|refine' tw4 ?_)
             go_ret2
             exact qa M _ _ _ (qa H) c3 (qa R) (qa HO)
end Go.Proofs.YtjpmomdechibmaaGreatDoor
