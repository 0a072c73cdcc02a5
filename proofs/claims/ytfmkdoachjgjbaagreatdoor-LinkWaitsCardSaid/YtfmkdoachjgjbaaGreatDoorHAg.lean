/-
  hearAgain (printed by tools/mk_hag.py).
-/
import Derived.Test.YtfmkdoachjgjbaaGreatDoorMcc
import Derived.Laws.OwnMore
set_option maxRecDepth 100000
set_option maxHeartbeats 4000000
set_option linter.unusedVariables false
set_option linter.unusedSimpArgs false
namespace Go.Proofs.YtfmkdoachjgjbaaGreatDoor
open Go.RowKit
theorem qqv(ls:List MsgV)(h:∀l∈ls,l.hash.length=32):(ls.flatMap MsgV.cells).length=ls.length*38:=by
 induction ls with
 | nil=>rfl
 | cons x xs i =>
  rw[List.flatMap_cons,List.length_append,i (fun l f=>h l (List.mem_cons_of_mem _ f)),x.len (h x List.mem_cons_self),List.length_cons,Nat.succ_mul];omega
theorem q2a(ls:List MsgV):∀u∈ls.flatMap MsgV.cells,u.oneCell'=true:=by
 intro u i;obtain⟨l,-,f⟩:=List.mem_flatMap.1 i;exact l.one u f
theorem qgf{w:World}{C:Array Oper}{rest:List Oper}{o:Oper}{a:Act}{Q:Exit→Act→World→Prop}(p:o.guard=none)(s x:Operand)
  (S:o.op = .call {callee:= .builtin .append,args:=#[s,x],argTypes:=#[124,124]})
  (base:Nat) (v:Value) (L:List MsgV) (T:a.eval s=v) (f:qb3 base w v L)
  (ls:List MsgV) (I:∀l∈ls,l.hash.length=32) (R:Value) (U:a.eval x=R)
  (z:(R = .slice none 0 0∧ls=[])∨∃E c,R = .slice (some E) ls.length c∧∀j u,(ls.flatMap MsgV.cells)[j]? = some u→w.cell? (E.add j)=some u)
  (m:L.length+ls.length≤1000000) (i:base≤w.heap.size)
  (h:∀F w',qb3 base w' F (L++ls)→Upd (fun k=>base≤k) w w'→wpList Tryz.prog C Q rest (a.put o.dst F) w') :
  wpList Tryz.prog C Q (o::rest) a w:=by
 obtain⟨V,z9,W,q,O,J,M,N,H⟩:=quu
 rcases z with ⟨rfl,rfl⟩ | ⟨E,c,rfl,hc⟩
 ·refine wpList_plain p fun K Z=> ?_
  have hr:=run_append_owned_none (P:=Tryz.prog) (w:=w) base 124 o.type 101 V 38 Tryz.underlying124 q v L.length _ f;unfold Oper.wp execOp;simp only[S,resolve,invoke,builtin,Sem.run_bind,Sem.run_pure,Result.andThen_ok,List.map_toArray,List.map_cons,List.map_nil,T,U,hr];refine Z _ _ (h v w ?_ (Upd.refl _ _));rw[List.append_nil];exact f
 ·refine wpList_append_own_at (P:=Tryz.prog) w p s x 124 S base 101 V _ 38 W Tryz.underlying124 q O J M N (by decide) v L.length _ T f E ls.length c (ls.flatMap MsgV.cells) U (qqv ls I) hc (q2a ls) (by unfold maxLen;omega) (by have:=Nat.mul_le_mul m H;omega) i ?_;intro F w' X Y _ h4;refine h F w' ?_ ((Upd.refl _ _).grown Y (fun k hk _=>qlx f k hk));unfold qb3;rw[List.length_append,List.flatMap_append];exact X
theorem qld{w:World}{ls:List MsgV}{base:Nat}{v:Value}(i:∀l∈ls,l.hash.length=32)(h:w.ownsRow base 101 38 v ls.length (ls.flatMap MsgV.cells)) :
  (v = .slice none 0 0∧ls=[])∨∃m c',v = .slice (some m) ls.length c'∧∀j u,(ls.flatMap MsgV.cells)[j]? = some u→w.cell? (m.add j)=some u:=by
 rcases h.2 with ⟨e,z⟩ | ⟨g,cap,q,e,E,H,F,_,I,J⟩
 ·exact .inl ⟨e,List.length_eq_zero_iff.1 z⟩
 ·refine .inr ⟨⟨g,0,none⟩,cap,e,?_⟩;intro j u p;rw[e] at h;have f:=(List.getElem?_eq_some_iff.1 p).1;rw[qqv ls i] at f;have:=World.ownsRow.cellAt h j f;have C:(⟨g,0,none⟩:Addr).add j=⟨g,j,none⟩:=by cases j<;>simp[Addr.add]
  rw[C,this];exact p
def qga(c:Ch)(m:MsgV):Bool:=c.k.awaits&&decide (m.number=c.k.signed)
def qkf(c:Ch)(m:MsgV):Bool:=decide (0<c.k.heard)&&decide (m.id=c.k.heard-1)
def qdz(c:Ch)(m:MsgV):Int:=if qga c m=false∧m.number≠c.k.signed+1 then 140 else if qkf c m=false∧m.id≠c.k.heard then 140 else 0
def Ch.resaid(c:Ch)(f ur:Bool):List MsgV:=(if ur && !c.k.revoked then [c.revocation] else [])++((if f then c.last else [])++((if ur&&c.k.revoked then [c.revocation] else [])++(if c.k.shutSaid then [qnq c.s.ch] else [])))
def Ch.hearAgain(c:Ch)(m:MsgV):List MsgV × Int:=if qdz c m=0 then (c.resaid (qga c m) (qkf c m),0) else ([],140)
attribute [local go_sem ↓ high] zl qaa qad qam qy qz zb zf qae
attribute [local go_sem] qbf qci qcj qdh qv qas qat qax zx qck
theorem qpp(g:Nat)(S:Nat→Prop)(c:Ch)(m:MsgV)(hm:MsgOk m)(w:World)(h:ChS w g S c)(hT:Tb w)(g5:c.last.length≤900000) :
  Calls Tryz.prog 182 #[.pointer (some ⟨g,0,none⟩),.agg m.cells.toArray] w (qe4 g S w c (c.hearAgain m).1 (c.hearAgain m).2):=by
 have K:c.revocation.hash.length=32:=by
  obtain⟨_,_,_,hp⟩:=h;exact Ch.secret_len hp.ok _
 have b3:(qnq c.s.ch).hash.length=32:=ql
 have HS:=qb h
 have h4:¬w.heap.size≤g:=by
  obtain⟨_,_,_,hp⟩:=h;have:=hp.lt g hp.inG;omega
 obtain⟨lv,nv,av,h⟩:=h
 have H0:=qb h
 have f4:=h.ok.last
 go_enter Tryz.func182,Tryz.ntmps182
 go_upto_region 1 with fail
 have hA:=qan w m hm.len
 have n1:qu w (w.alloc (.cells m.cells.toArray 101)):=(Upd.refl _ _).alloc _
 generalize w.alloc (.cells m.cells.toArray 101)=w1 at n1 hA ⊢
 generalize w.heap.size=A at hA ⊢
 have I:=h.new n1
 obtain⟨-,-,mi,-,-,mn,-⟩:=hA.cells
 have cS:w1.cell? ⟨g,37,none⟩=some (.int .i64 c.k.signed):=I.toR.signed
 have cH:w1.cell? ⟨g,38,none⟩=some (.int .i64 c.k.heard):=I.toR.heard
 have cW:w1.cell? ⟨g,39,none⟩=some (.bool c.k.awaits):=I.toR.awaits
 have cX:w1.cell? ⟨g,42,none⟩=some (.bool c.k.shutSaid):=I.toR.shutSaid
 have cR:w1.cell? ⟨g,44,none⟩=some (.bool c.k.revoked):=I.toR.revoked
 have cL:w1.cell? ⟨g,627,none⟩=some av:=by rw[qg I.at_ 627];exact qog c lv nv av I.ok.s.seed I.ok.shelf
 have g1:=h.ok.signed
 have g0:=h.ok.heard
 have g4:IntKind.i64.wrap (c.k.signed+1)=c.k.signed+1:=qhl (by omega) (by omega)
 have g2:IntKind.u64.wrap c.k.heard=c.k.heard:=qel (by omega) (by omega)
 have g3:IntKind.i64.wrap (c.k.heard-1)=c.k.heard-1:=qhl (by omega) (by omega)
 have f5:0<c.k.heard→IntKind.u64.wrap (c.k.heard-1)=c.k.heard-1:=fun _=>qel (by omega) (by omega)
 have H1:=qb I
 have f6:=qb n1
 obtain⟨F,c3⟩:∃F,F=qga c m:=⟨_,rfl⟩
 obtain⟨ur,c4⟩:∃ur,ur=qkf c m:=⟨_,rfl⟩
 have b9:=qb c3
 have c0:=qb c4
 have f1:c.hearAgain m=if qdz c m=0 then (c.resaid F ur,0) else ([],140):=by rw[c3,c4];rfl
 have f3:qdz c m=if F=false∧m.number≠c.k.signed+1 then 140 else if ur=false∧m.id≠c.k.heard then 140 else 0:=by rw[c3,c4];rfl
 have e0:=qb f1
 have e1:=qb f3
 have HA:=qb hA
 clear h I n1 hA c3 c4 f1 f3
 go_cut [6] from 9 to 24 (fun uv wx=>uv = .bool F∧qu w1 wx)
 case first =>
  cases ha:c.k.awaits with
  | false =>
   rw[ha] at cW;have e:F=false:=by rw[qa b9];unfold qga;rw[ha];rfl
   subst e;go_wp2_with ((with_reducible first|rfl|refine' ut ?_ ?_;rotate_left|refine' uu ?_)<;>intros);go_meet
   case rel=>exact⟨rfl,(Upd.refl _ _).drew⟩
  | true =>
   rw[ha] at cW;by_cases hn:m.number=c.k.signed
   ·have e:F=true:=by rw[qa b9];unfold qga;rw[ha,decide_eq_true hn];rfl
    subst e;rw[hn] at mn;go_wp2_with ((with_reducible first|rfl|refine' ut ?_ ?_;rotate_left|refine' uu ?_)<;>intros);go_meet
    case rel=>exact⟨rfl,(Upd.refl _ _).drew⟩
   ·have e:F=false:=by rw[qa b9];unfold qga;rw[ha,decide_eq_false hn];rfl
    subst e;have d:(m.number==c.k.signed)=false:=beq_eq_false_iff_ne.2 hn;go_wp2_with ((with_reducible first|rfl|refine' ut ?_ ?_;rotate_left|refine' uu ?_)<;>intros);go_meet
    case rel=>exact⟨rfl,(Upd.refl _ _).drew⟩
 case rest =>
  obtain⟨rfl,f⟩:=hcut;obtain⟨w2,rfl⟩:∃w2:World,w2=wc:=⟨_,rfl⟩;have mi:=f.cell mi (fun h=>h);have mn:=f.cell mn (fun h=>h);have cS:=f.cell cS (fun h=>h);have cH:=f.cell cH (fun h=>h);have cW:=f.cell cW (fun h=>h);have cX:=f.cell cX (fun h=>h);have cR:=f.cell cR (fun h=>h);have cL:=f.cell cL (fun h=>h);have e3:=qb ((qa f6).trans f);clear f HA;go_upto_region 2 with fail
  go_cut [7] from 24 to 42 (fun rv wx=>rv = .bool ur∧qu w2 wx)
  case first =>
   by_cases h0:0<c.k.heard
   ·have hw:=f5 h0;by_cases hn:m.id=c.k.heard-1
    ·have e:ur=true:=by rw[qa c0];unfold qkf;rw[decide_eq_true h0,decide_eq_true hn];rfl
     subst e;rw[hn] at mi;go_wp2_with ((with_reducible first|rfl|refine' ut ?_ ?_;rotate_left|refine' uu ?_)<;>intros);go_meet
     case rel=>exact⟨rfl,(Upd.refl _ _).drew⟩
    ·have e:ur=false:=by rw[qa c0];unfold qkf;rw[decide_eq_true h0,decide_eq_false hn];rfl
     subst e;have d:(m.id==c.k.heard-1)=false:=beq_eq_false_iff_ne.2 hn;go_wp2_with ((with_reducible first|rfl|refine' ut ?_ ?_;rotate_left|refine' uu ?_)<;>intros);go_meet
     case rel=>exact⟨rfl,(Upd.refl _ _).drew⟩
   ·have e:ur=false:=by rw[qa c0];unfold qkf;rw[decide_eq_false h0];rfl
    subst e;have h3:decide (0<c.k.heard)=false:=decide_eq_false h0;go_wp2_with ((with_reducible first|rfl|refine' ut ?_ ?_;rotate_left|refine' uu ?_)<;>intros);go_meet
    case rel=>exact⟨rfl,(Upd.refl _ _).drew⟩
  case rest =>
   obtain⟨rfl,f⟩:=hcut;obtain⟨w3,rfl⟩:∃w3:World,w3=wc:=⟨_,rfl⟩;have mi:=f.cell mi (fun h=>h);have mn:=f.cell mn (fun h=>h);have cS:=f.cell cS (fun h=>h);have cH:=f.cell cH (fun h=>h);have cX:=f.cell cX (fun h=>h);have cR:=f.cell cR (fun h=>h);have cL:=f.cell cL (fun h=>h);have e4:=qb ((qa e3).trans f);clear f cW b9 c0;obtain⟨M,c1⟩:∃M,M=c.revocation:=⟨_,rfl⟩;rw[←c1] at K;have c9:∀W,qu w W→Calls Tryz.prog 205 #[.pointer (some ⟨g,0,none⟩)] W (qa1 (.agg M.cells.toArray) W):=fun W n=>by
    rw[c1];exact qi6 g S c W ((qa HS).new n) (hT.new n).tabs
   have a8:∀W,qu w W→Calls Tryz.prog 117 #[.pointer (some ⟨g,0,none⟩)] W (qa1 (.agg (qnq c.s.ch).cells.toArray) W):=fun W n=>by
    obtain⟨a1,a2,a3,hp⟩:=(qa HS).new n;exact q3e g _ W hp.toR
   have a7:∀W,qu w W→qyv W av c.last:=fun W n=>((qa H0).new n).last
   have c7:∀W,qu w W→qdz c m=140→qe4 g S w c (c.hearAgain m).1 (c.hearAgain m).2 (.returned (.tuple #[.slice none 0 0,.int .i64 140])) W:=fun W n e=>by
    have e2:c.hearAgain m=([],140):=by rw[qa e0,e,if_neg (by decide)]
    rw[e2];exact⟨qbw,rfl,qb3.nil _ _,((qa HS).new n).frW,n.mono (fun _ _ h=>h.elim)⟩
   have a6:∀W v l,qu w W→qdz c m=0→c.resaid F ur=l→qb3 w.heap.size W v l→qe4 g S w c (c.hearAgain m).1 (c.hearAgain m).2 (.returned (.tuple #[v,.int .i64 0])) W:=fun W v l n e el hv=>by
    have e2:c.hearAgain m=(l,0):=by rw[qa e0,e,if_pos rfl,el]
    rw[e2];exact⟨v,rfl,hv,((qa HS).new n).frW,n.mono (fun _ _ h=>h.elim)⟩
   obtain⟨SM,d4⟩:∃SM,SM=qnq c.s.ch:=⟨_,rfl⟩;rw[←d4] at a8 b3;have f9:=qb d4;clear d4;have h5:=M.len K;have h6:=SM.len b3;have e9:=qb c1;have c6:=qb c9;have f0:=qb a8;have d0:=qb a7;have P:=qb c7;have R:=qb a6;clear c1 c9 a8 a7 c7 a6;obtain⟨t1,d7⟩:∃t1,t1=(!F && !(m.number==c.k.signed+1)):=⟨_,rfl⟩;obtain⟨t2,d8⟩:∃t2,t2=(!ur && !(m.id==c.k.heard)):=⟨_,rfl⟩;have b8:=qb (show (t1=true→qdz c m=140)∧(t1=false→t2=true→qdz c m=140)∧(t1=false→t2=false→qdz c m=0) by
    rw[qa e1,d7,d8];cases F<;>cases ur<;>by_cases I:m.number=c.k.signed+1<;>by_cases h2:m.id=c.k.heard<;>simp[I,h2])
   have d2:=qb d7;have d3:=qb d8;have f2:∀W,qu w W→W.cell? ⟨g,42,none⟩=some (.bool c.k.shutSaid)∧W.cell? ⟨g,44,none⟩=some (.bool c.k.revoked)∧W.cell? ⟨g,627,none⟩=some av:=fun W n=>by
    have I:=(qa H0).new n;exact⟨I.toR.shutSaid,I.toR.revoked,by rw[qg I.at_ 627];exact qog c lv nv av I.ok.s.seed I.ok.shelf⟩
   have b4:=qb f2;clear d7 d8 f2 cX cR cL e1;go_upto_region 3 with fail
   go_cut [54] from 42 to 54 (fun bv wx=>bv = .bool t1∧qu w3 wx)
   case first =>
    cases F with
    | true =>
     obtain rfl:t1=false:=qa d2;go_wp2_with ((with_reducible first|rfl|refine' ut ?_ ?_;rotate_left|refine' uu ?_)<;>intros);go_meet
     case rel=>exact⟨rfl,(Upd.refl _ _).drew⟩
    | false =>
     obtain rfl:t1 = !(m.number==c.k.signed+1):=qa d2;go_wp2_with ((with_reducible first|rfl|refine' ut ?_ ?_;rotate_left|refine' uu ?_)<;>intros);go_meet
     case rel=>exact⟨rfl,(Upd.refl _ _).drew⟩
   case rest =>
    obtain⟨rfl,f⟩:=hcut;obtain⟨w4,rfl⟩:∃w4:World,w4=wc:=⟨_,rfl⟩;have b5:=qb ((qa e4).trans f);have mi:=f.cell mi (fun h=>h);have cH:=f.cell cH (fun h=>h);clear f mn cS g4 g3 f5 g1 e4 e3 d2;cases t1 with
    | true =>
     go_wp2_with ((with_reducible first|rfl|refine' ut ?_ ?_;rotate_left|refine' uu ?_)<;>intros);go_ret2;exact qa P _ (qa b5) ((qa b8).1 (by trivial))
    | false =>
     go_upto_region 5 with fail
     go_cut [67] from 55 to 67 (fun bv wx=>bv = .bool t2∧qu w wx)
     case first =>
      cases ur with
      | true =>
       obtain rfl:t2=false:=qa d3;go_wp2_with ((with_reducible first|rfl|refine' ut ?_ ?_;rotate_left|refine' uu ?_)<;>intros);go_meet
       case rel=>exact⟨rfl,(qa b5).drew⟩
      | false =>
       obtain rfl:t2 = !(m.id==c.k.heard):=qa d3;go_wp2_with ((with_reducible first|rfl|refine' ut ?_ ?_;rotate_left|refine' uu ?_)<;>intros);go_meet
       case rel=>exact⟨rfl,(qa b5).drew⟩
     case rest =>
      obtain⟨rfl,f⟩:=hcut;obtain⟨w5,rfl⟩:∃w5:World,w5=wc:=⟨_,rfl⟩;have d1:=qb f;clear f mi cH g2 g0 d3 HS H1 b5;cases t2 with
      | true =>
       go_wp2_with ((with_reducible first|rfl|refine' ut ?_ ?_;rotate_left|refine' uu ?_)<;>intros);go_ret2;exact qa P _ (qa d1) ((qa b8).2.1 (by trivial) (by trivial))
      | false =>
       have c8:=(qa b8).2.2 (by trivial) (by trivial);have f7:Hid (qb3 w.heap.size w5 (.slice none 0 0) []):=qb (qb3.nil _ _);clear P b8;have g6:([]:List MsgV).length≤0:=Nat.le_refl _;have cR:=(qa b4 _ (qa d1)).2.1;go_upto_region 8 with fail
       go_cut [7,76] from 68 to 76 (fun rv bv wx=>rv = .bool ur∧bv = .bool (ur && !c.k.revoked)∧qu w5 wx)
       case first =>
        cases ur with
        | true =>
         go_wp2_with ((with_reducible first|rfl|refine' ut ?_ ?_;rotate_left|refine' uu ?_)<;>intros);go_meet
         case rel=>exact⟨rfl,rfl,by first | exact(Upd.refl _ _).drew | exact Upd.refl _ _⟩
        | false =>
         go_wp2_with ((with_reducible first|rfl|refine' ut ?_ ?_;rotate_left|refine' uu ?_)<;>intros);go_meet
         case rel=>exact⟨rfl,rfl,by first | exact(Upd.refl _ _).drew | exact Upd.refl _ _⟩
       case rest =>
        obtain⟨rfl,rfl,f⟩:=hcut;obtain⟨w6,rfl⟩:∃w6:World,w6=wc:=⟨_,rfl⟩;have b6:=qb ((qa d1).trans f);have e6:=qb (zq (qa f7) f (fun _ _ h=>h));clear f cR;go_upto_if 76 with fail
        go_cut [6,7,8] from 76 to 82 (fun uv rv v wx=>(uv = .bool F∧rv = .bool ur)∧qb3 w.heap.size wx v ([]++if ur && !c.k.revoked then [M] else [])∧qu w wx)
        case first =>
         cases N:(ur && !c.k.revoked) with
         | false =>
          go_wp2_with ((with_reducible first|rfl|refine' ut ?_ ?_;rotate_left|refine' uu ?_)<;>intros);go_meet
          case rel=>exact⟨⟨by first | rfl | rw[N],rfl⟩,by rw[N,if_neg (by decide),List.append_nil];exact qa e6,qa b6⟩
         | true =>
          go_wp2_with ((with_reducible first|rfl|refine' ut ?_ ?_;rotate_left|refine' uu ?_)<;>intros);refine(qa c6 w6 (qa b6)).mono ?_;rintro e wa ⟨rfl,O⟩;have C:w.heap.size≤wa.heap.size:=((qa b6).trans O).size;have p:=qb (qld (ls:=[M]) (fun l hl=>by rw[List.mem_singleton.1 hl];exact K) (qlc (w:=wa) K w.heap.size C));have q:qu wa (wa.alloc (.cells M.cells.toArray 101)):=(Upd.refl _ _).alloc _;have V:Hid (qb3 w.heap.size _ (.slice none 0 0) []):=qb (zq (qa e6) (O.trans q) (fun _ _ h=>h));have U:=qb (((qa b6).trans O).trans q);have z:=qb (Nat.le_trans C q.size);clear q O C;go_wp2_with (first | (at_builtin;refine qgf rfl (.tmp 77) (.tmp 80) rfl w.heap.size (.slice none 0 0) _ (by go_simp) (qa V) [M] (fun l hl=>by rw[List.mem_singleton.1 hl];exact K) _ (by go_simp) (qa p) ?few (qa z) ?_) | ((with_reducible first|rfl|refine' ut ?_ ?_;rotate_left|refine' uu ?_)<;>intros))
          case few=>simp only[List.length_cons,List.length_nil];omega
          intro va wb Y Z;have E:=(qa U).then Z (fun i hi e=>by omega);have HO:=qb Y;have L:=qb E;clear Y Z E p z;go_wp2_with ((with_reducible first|rfl|refine' ut ?_ ?_;rotate_left|refine' uu ?_)<;>intros);go_meet
          case rel=>exact⟨⟨by first | rfl | rw[N],rfl⟩,by rw[N,if_pos rfl];exact qa HO,qa L⟩
        case rest =>
         obtain⟨⟨rfl,rfl⟩,ho,f⟩:=hcut;obtain⟨w7,rfl⟩:∃w7:World,w7=wc:=⟨_,rfl⟩;obtain⟨la,d5,g7⟩:∃l,l=[]++(if ur && !c.k.revoked then [M] else [])∧l.length≤1:=⟨_,rfl,by rw[List.length_append];split<;>(try simp)<;>omega⟩;rw[←d5] at ho;have Hla:=qb d5;have e7:=qb ho;have T:=qb f;clear ho f d5;go_upto_if 82 with fail
         go_cut [6,7,8] from 82 to 89 (fun uv rv v wx=>(uv = .bool F∧rv = .bool ur)∧qb3 w.heap.size wx v (la++if F then c.last else [])∧qu w wx)
         case first =>
          cases N:(F) with
          | false =>
           go_wp2_with ((with_reducible first|rfl|refine' ut ?_ ?_;rotate_left|refine' uu ?_)<;>intros);go_meet
           case rel=>exact⟨⟨by first | rfl | rw[N],rfl⟩,by rw[N,if_neg (by decide),List.append_nil];exact qa e7,qa T⟩
          | true =>
           have cL:=(qa b4 _ (qa T)).2.2;have p:=qb (qld f4 (qa d0 w7 (qa T)));have z:=qb (qa T).size;go_wp2_with (first | (at_builtin;refine qgf rfl (.tmp 83) (.tmp 87) rfl w.heap.size _ _ (by go_simp) (qa e7) c.last f4 _ (by go_simp) (qa p) ?few (qa z) ?_) | ((with_reducible first|rfl|refine' ut ?_ ?_;rotate_left|refine' uu ?_)<;>intros))
           case few=>omega
           intro va wb Y Z;have E:=(qa T).then Z (fun i hi e=>by omega);have HO:=qb Y;have L:=qb E;clear Y Z E p z;go_wp2_with ((with_reducible first|rfl|refine' ut ?_ ?_;rotate_left|refine' uu ?_)<;>intros);go_meet
           case rel=>exact⟨⟨by first | rfl | rw[N],rfl⟩,by rw[N,if_pos rfl];exact qa HO,qa L⟩
         case rest =>
          obtain⟨⟨rfl,rfl⟩,ho,f⟩:=hcut;obtain⟨w8,rfl⟩:∃w8:World,w8=wc:=⟨_,rfl⟩;obtain⟨lb,d6,g8⟩:∃l,l=la++(if F then c.last else [])∧l.length≤900001:=⟨_,rfl,by rw[List.length_append];split<;>(try simp)<;>omega⟩;rw[←d6] at ho;have Hlb:=qb d6;have f8:=qb ho;have e5:=qb f;clear ho f d6;have cR:=(qa b4 _ (qa e5)).2.1;go_upto_region 12 with fail
          go_cut [7,96] from 89 to 96 (fun rv bv wx=>rv = .bool ur∧bv = .bool (ur&&c.k.revoked)∧qu w8 wx)
          case first =>
           cases ur with
           | true =>
            go_wp2_with ((with_reducible first|rfl|refine' ut ?_ ?_;rotate_left|refine' uu ?_)<;>intros);go_meet
            case rel=>exact⟨rfl,rfl,by first | exact(Upd.refl _ _).drew | exact Upd.refl _ _⟩
           | false =>
            go_wp2_with ((with_reducible first|rfl|refine' ut ?_ ?_;rotate_left|refine' uu ?_)<;>intros);go_meet
            case rel=>exact⟨rfl,rfl,by first | exact(Upd.refl _ _).drew | exact Upd.refl _ _⟩
          case rest =>
           obtain⟨rfl,rfl,f⟩:=hcut;obtain⟨w9,rfl⟩:∃w9:World,w9=wc:=⟨_,rfl⟩;have b7:=qb ((qa e5).trans f);have e8:=qb (zq (qa f8) f (fun _ _ h=>h));clear f cR;go_upto_if 96 with fail
           go_cut [6,7,8] from 96 to 102 (fun uv rv v wx=>(uv = .bool F∧rv = .bool ur)∧qb3 w.heap.size wx v (lb++if ur&&c.k.revoked then [M] else [])∧qu w wx)
           case first =>
            cases N:(ur&&c.k.revoked) with
            | false =>
             go_wp2_with ((with_reducible first|rfl|refine' ut ?_ ?_;rotate_left|refine' uu ?_)<;>intros);go_meet
             case rel=>exact⟨⟨by first | rfl | rw[N],rfl⟩,by rw[N,if_neg (by decide),List.append_nil];exact qa e8,qa b7⟩
            | true =>
             go_wp2_with ((with_reducible first|rfl|refine' ut ?_ ?_;rotate_left|refine' uu ?_)<;>intros);refine(qa c6 w9 (qa b7)).mono ?_;rintro e wa ⟨rfl,O⟩;have C:w.heap.size≤wa.heap.size:=((qa b7).trans O).size;have p:=qb (qld (ls:=[M]) (fun l hl=>by rw[List.mem_singleton.1 hl];exact K) (qlc (w:=wa) K w.heap.size C));have q:qu wa (wa.alloc (.cells M.cells.toArray 101)):=(Upd.refl _ _).alloc _;have V:Hid (qb3 w.heap.size _ _ lb):=qb (zq (qa e8) (O.trans q) (fun _ _ h=>h));have U:=qb (((qa b7).trans O).trans q);have z:=qb (Nat.le_trans C q.size);clear q O C;go_wp2_with (first | (at_builtin;refine qgf rfl (.tmp 97) (.tmp 100) rfl w.heap.size _ _ (by go_simp) (qa V) [M] (fun l hl=>by rw[List.mem_singleton.1 hl];exact K) _ (by go_simp) (qa p) ?few (qa z) ?_) | ((with_reducible first|rfl|refine' ut ?_ ?_;rotate_left|refine' uu ?_)<;>intros))
             case few=>simp only[List.length_cons,List.length_nil];omega
             intro va wb Y Z;have E:=(qa U).then Z (fun i hi e=>by omega);have HO:=qb Y;have L:=qb E;clear Y Z E p z;go_wp2_with ((with_reducible first|rfl|refine' ut ?_ ?_;rotate_left|refine' uu ?_)<;>intros);go_meet
             case rel=>exact⟨⟨by first | rfl | rw[N],rfl⟩,by rw[N,if_pos rfl];exact qa HO,qa L⟩
           case rest =>
            obtain⟨⟨rfl,rfl⟩,ho,f⟩:=hcut;obtain⟨d9,rfl⟩:∃d9:World,d9=wc:=⟨_,rfl⟩;obtain⟨lc,H,g9⟩:∃l,l=lb++(if ur&&c.k.revoked then [M] else [])∧l.length≤900002:=⟨_,rfl,by rw[List.length_append];split<;>(try simp)<;>omega⟩;rw[←H] at ho;have Hlc:=qb H;have c5:=qb ho;have J:=qb f;clear ho f H;have cX:=(qa b4 _ (qa J)).1;have H:=qa Hlc;rw[qa Hlb,qa Hla] at H;cases c2:c.k.shutSaid with
            | false =>
             rw[c2] at cX;have X:=qb (show c.resaid F ur=lc by
              unfold Ch.resaid;rw[c2,←qa e9,H];simp)
             clear H;go_wp2_with ((with_reducible first|rfl|refine' ut ?_ ?_;rotate_left|refine' uu ?_)<;>intros);go_ret2;exact qa R _ _ _ (qa J) c8 (qa X) (qa c5)
            | true =>
             rw[c2] at cX;have X:=qb (show c.resaid F ur=lc++[SM] by
              unfold Ch.resaid;rw[c2,←qa e9,←qa f9,H];simp)
             clear H;go_wp2_with ((with_reducible first|rfl|refine' ut ?_ ?_;rotate_left|refine' uu ?_)<;>intros);refine(qa f0 d9 (qa J)).mono ?_;rintro e wa ⟨rfl,O⟩;have C:w.heap.size≤wa.heap.size:=((qa J).trans O).size;have p:=qb (qld (ls:=[SM]) (fun l hl=>by rw[List.mem_singleton.1 hl];exact b3) (qlc (w:=wa) b3 w.heap.size C));have q:qu wa (wa.alloc (.cells SM.cells.toArray 101)):=(Upd.refl _ _).alloc _;have V:Hid (qb3 w.heap.size _ _ lc):=qb (zq (qa c5) (O.trans q) (fun _ _ h=>h));have U:=qb (((qa J).trans O).trans q);have z:=qb (Nat.le_trans C q.size);clear q O C;go_wp2_with (first | (at_builtin;refine qgf rfl (.tmp 107) (.tmp 110) rfl w.heap.size _ _ (by go_simp) (qa V) [SM] (fun l hl=>by rw[List.mem_singleton.1 hl];exact b3) _ (by go_simp) (qa p) ?few (qa z) ?_) | ((with_reducible first|rfl|refine' ut ?_ ?_;rotate_left|refine' uu ?_)<;>intros))
             case few=>simp only[List.length_cons,List.length_nil];omega
             intro va wb Y Z;have E:=(qa U).then Z (fun i hi e=>by omega);have HO:=qb Y;have L:=qb E;clear Y Z E p z;go_wp2_with ((with_reducible first|rfl|refine' ut ?_ ?_;rotate_left|refine' uu ?_)<;>intros);go_ret2;exact qa R _ _ _ (qa L) c8 (qa X) (qa HO)
end Go.Proofs.YtfmkdoachjgjbaaGreatDoor
