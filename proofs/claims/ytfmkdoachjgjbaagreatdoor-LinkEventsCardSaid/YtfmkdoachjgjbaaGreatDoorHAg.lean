/-
  hearAgain (printed by tools/mk_hag.py).
-/
import Derived.Test.YtfmkdoachjgjbaaGreatDoorMda
import Derived.Laws.OwnMore
set_option maxRecDepth 100000
set_option maxHeartbeats 4000000
set_option linter.unusedVariables false
set_option linter.unusedSimpArgs false
namespace Go.Proofs.YtfmkdoachjgjbaaGreatDoor
open Go.RowKit
theorem qqx(ls:List MsgV)(h:∀l∈ls,l.hash.length=32):(ls.flatMap MsgV.cells).length=ls.length*38:=by
 induction ls with
 | nil=>rfl
 | cons x xs i =>
  rw[List.flatMap_cons,List.length_append,i (fun l f=>h l (List.mem_cons_of_mem _ f)),x.len (h x List.mem_cons_self),List.length_cons,Nat.succ_mul];omega
theorem q1v(ls:List MsgV):∀u∈ls.flatMap MsgV.cells,u.oneCell'=true:=by
 intro u i;obtain⟨l,-,f⟩:=List.mem_flatMap.1 i;exact l.one u f
theorem qgj{w:World}{C:Array Oper}{rest:List Oper}{o:Oper}{a:Act}{Q:Exit→Act→World→Prop}(q:o.guard=none)(s x:Operand)
  (S:o.op = .call {callee:= .builtin .append,args:=#[s,x],argTypes:=#[124,124]})
  (base:Nat) (v:Value) (L:List MsgV) (T:a.eval s=v) (f:qb6 base w v L)
  (ls:List MsgV) (I:∀l∈ls,l.hash.length=32) (R:Value) (U:a.eval x=R)
  (z:(R = .slice none 0 0∧ls=[])∨∃E c,R = .slice (some E) ls.length c∧∀j u,(ls.flatMap MsgV.cells)[j]? = some u→w.cell? (E.add j)=some u)
  (m:L.length+ls.length≤1000000) (i:base≤w.heap.size)
  (h:∀F w',qb6 base w' F (L++ls)→Upd (fun k=>base≤k) w w'→wpList Tryz.prog C Q rest (a.put o.dst F) w') :
  wpList Tryz.prog C Q (o::rest) a w:=by
 obtain⟨V,z9,W,r,O,J,M,N,H⟩:=qut
 rcases z with ⟨rfl,rfl⟩ | ⟨E,c,rfl,hc⟩
 ·refine wpList_plain q fun K Z=> ?_
  have hr:=run_append_owned_none (P:=Tryz.prog) (w:=w) base 124 o.type 101 V 38 Tryz.underlying124 r v L.length _ f;unfold Oper.wp execOp;simp only[S,resolve,invoke,builtin,Sem.run_bind,Sem.run_pure,Result.andThen_ok,List.map_toArray,List.map_cons,List.map_nil,T,U,hr];refine Z _ _ (h v w ?_ (Upd.refl _ _));rw[List.append_nil];exact f
 ·refine wpList_append_own_at (P:=Tryz.prog) w q s x 124 S base 101 V _ 38 W Tryz.underlying124 r O J M N (by decide) v L.length _ T f E ls.length c (ls.flatMap MsgV.cells) U (qqx ls I) hc (q1v ls) (by unfold maxLen;omega) (by have:=Nat.mul_le_mul m H;omega) i ?_;intro F w' X Y _ h4;refine h F w' ?_ ((Upd.refl _ _).grown Y (fun k hk _=>qx2 f k hk));unfold qb6;rw[List.length_append,List.flatMap_append];exact X
theorem qli{w:World}{ls:List MsgV}{base:Nat}{v:Value}(i:∀l∈ls,l.hash.length=32)(h:w.ownsRow base 101 38 v ls.length (ls.flatMap MsgV.cells)) :
  (v = .slice none 0 0∧ls=[])∨∃m c',v = .slice (some m) ls.length c'∧∀j u,(ls.flatMap MsgV.cells)[j]? = some u→w.cell? (m.add j)=some u:=by
 rcases h.2 with ⟨e,z⟩ | ⟨g,cap,r,e,E,H,F,_,I,J⟩
 ·exact .inl ⟨e,List.length_eq_zero_iff.1 z⟩
 ·refine .inr ⟨⟨g,0,none⟩,cap,e,?_⟩;intro j u q;rw[e] at h;have f:=(List.getElem?_eq_some_iff.1 q).1;rw[qqx ls i] at f;have:=World.ownsRow.cellAt h j f;have C:(⟨g,0,none⟩:Addr).add j=⟨g,j,none⟩:=by cases j<;>simp[Addr.add]
  rw[C,this];exact q
def qhn(c:Ch)(m:MsgV):Bool:=c.k.awaits&&decide (m.number=c.k.signed)
def ql8(c:Ch)(m:MsgV):Bool:=decide (0<c.k.heard)&&decide (m.id=c.k.heard-1)
def qe8(c:Ch)(m:MsgV):Int:=if qhn c m=false∧m.number≠c.k.signed+1 then 140 else if ql8 c m=false∧m.id≠c.k.heard then 140 else 0
def Ch.resaid(c:Ch)(i f:Bool):List MsgV:=(if f && !c.k.revoked then [c.revocation] else [])++((if i then c.last else [])++((if f&&c.k.revoked then [c.revocation] else [])++(if c.k.shutSaid then [qny c.s.ch] else [])))
def Ch.hearAgain(c:Ch)(m:MsgV):List MsgV × Int:=if qe8 c m=0 then (c.resaid (qhn c m) (ql8 c m),0) else ([],140)
attribute [local go_sem ↓ high] zl qag qaj qar qz zb ze zi qak
attribute [local go_sem] qbl qcl qcn qdm qx qax qay qa4 qab qco
theorem qpt(g:Nat)(S:Nat→Prop)(c:Ch)(m:MsgV)(hm:MsgOk m)(w:World)(h:ChS w g S c)(hT:Tb w)(g5:c.last.length≤900000) :
  Calls Tryz.prog 182 #[.pointer (some ⟨g,0,none⟩),.agg m.cells.toArray] w (qe7 g S w c (c.hearAgain m).1 (c.hearAgain m).2):=by
 have L:c.revocation.hash.length=32:=by
  obtain⟨_,_,_,hp⟩:=h;exact Ch.secret_len hp.ok _
 have b3:(qny c.s.ch).hash.length=32:=qm
 have HS:=qb h
 have h4:¬w.heap.size≤g:=by
  obtain⟨_,_,_,hp⟩:=h;have:=hp.lt g hp.inG;omega
 obtain⟨lv,nv,av,h⟩:=h
 have H0:=qb h
 have f4:=h.ok.last
 go_enter Tryz.func182,Tryz.ntmps182
 go_upto_region 1 with fail
 have hA:=zt w m hm.len
 have n1:qq w (w.alloc (.cells m.cells.toArray 101)):=(Upd.refl _ _).alloc _
 generalize w.alloc (.cells m.cells.toArray 101)=w1 at n1 hA ⊢
 generalize w.heap.size=A at hA ⊢
 have J:=h.new n1
 obtain⟨-,-,mi,-,-,mn,-⟩:=hA.cells
 have cS:w1.cell? ⟨g,37,none⟩=some (.int .i64 c.k.signed):=J.toR.signed
 have cH:w1.cell? ⟨g,38,none⟩=some (.int .i64 c.k.heard):=J.toR.heard
 have cW:w1.cell? ⟨g,39,none⟩=some (.bool c.k.awaits):=J.toR.awaits
 have cX:w1.cell? ⟨g,42,none⟩=some (.bool c.k.shutSaid):=J.toR.shutSaid
 have cR:w1.cell? ⟨g,44,none⟩=some (.bool c.k.revoked):=J.toR.revoked
 have cL:w1.cell? ⟨g,627,none⟩=some av:=by rw[qg J.at_ 627];exact qom c lv nv av J.ok.s.seed J.ok.shelf
 have g1:=h.ok.signed
 have g0:=h.ok.heard
 have g4:IntKind.i64.wrap (c.k.signed+1)=c.k.signed+1:=qjj (by omega) (by omega)
 have g2:IntKind.u64.wrap c.k.heard=c.k.heard:=qgs (by omega) (by omega)
 have g3:IntKind.i64.wrap (c.k.heard-1)=c.k.heard-1:=qjj (by omega) (by omega)
 have f5:0<c.k.heard→IntKind.u64.wrap (c.k.heard-1)=c.k.heard-1:=fun _=>qgs (by omega) (by omega)
 have H1:=qb J
 have f6:=qb n1
 obtain⟨H,c3⟩:∃H,H=qhn c m:=⟨_,rfl⟩
 obtain⟨z,c4⟩:∃z,z=ql8 c m:=⟨_,rfl⟩
 have b9:=qb c3
 have c0:=qb c4
 have f1:c.hearAgain m=if qe8 c m=0 then (c.resaid H z,0) else ([],140):=by rw[c3,c4];rfl
 have f3:qe8 c m=if H=false∧m.number≠c.k.signed+1 then 140 else if z=false∧m.id≠c.k.heard then 140 else 0:=by rw[c3,c4];rfl
 have e0:=qb f1
 have e1:=qb f3
 have HA:=qb hA
 clear h J n1 hA c3 c4 f1 f3
 go_cut [6] from 9 to 24 (fun uv wx=>uv = .bool H∧qq w1 wx)
 case first =>
  cases ha:c.k.awaits with
  | false =>
   rw[ha] at cW;have e:H=false:=by rw[qa b9];unfold qhn;rw[ha];rfl
   subst e;go_wp2_with (with_reducible first|(first|refine' tw1 (qh ?_) ?_|refine' tw2 (qh ?_) ?_);rotate_left|refine' tw3 (qh ?_)|rfl|apply tn|refine' tw4 ?_);go_meet
   case rel=>exact⟨rfl,(Upd.refl _ _).drew⟩
  | true =>
   rw[ha] at cW;by_cases hn:m.number=c.k.signed
   ·have e:H=true:=by rw[qa b9];unfold qhn;rw[ha,decide_eq_true hn];rfl
    subst e;rw[hn] at mn;go_wp2_with (with_reducible first|(first|refine' tw1 (qh ?_) ?_|refine' tw2 (qh ?_) ?_);rotate_left|refine' tw3 (qh ?_)|rfl|apply tn|refine' tw4 ?_);go_meet
    case rel=>exact⟨rfl,(Upd.refl _ _).drew⟩
   ·have e:H=false:=by rw[qa b9];unfold qhn;rw[ha,decide_eq_false hn];rfl
    subst e;have d:(m.number==c.k.signed)=false:=beq_eq_false_iff_ne.2 hn;go_wp2_with (with_reducible first|(first|refine' tw1 (qh ?_) ?_|refine' tw2 (qh ?_) ?_);rotate_left|refine' tw3 (qh ?_)|rfl|apply tn|refine' tw4 ?_);go_meet
    case rel=>exact⟨rfl,(Upd.refl _ _).drew⟩
 case rest =>
  obtain⟨rfl,f⟩:=hcut;obtain⟨w2,rfl⟩:∃w2:World,w2=wc:=⟨_,rfl⟩;have mi:=f.cell mi (fun h=>h);have mn:=f.cell mn (fun h=>h);have cS:=f.cell cS (fun h=>h);have cH:=f.cell cH (fun h=>h);have cW:=f.cell cW (fun h=>h);have cX:=f.cell cX (fun h=>h);have cR:=f.cell cR (fun h=>h);have cL:=f.cell cL (fun h=>h);have e3:=qb ((qa f6).trans f);clear f HA;go_upto_region 2 with fail
  go_cut [7] from 24 to 42 (fun rv wx=>rv = .bool z∧qq w2 wx)
  case first =>
   by_cases h0:0<c.k.heard
   ·have hw:=f5 h0;by_cases hn:m.id=c.k.heard-1
    ·have e:z=true:=by rw[qa c0];unfold ql8;rw[decide_eq_true h0,decide_eq_true hn];rfl
     subst e;rw[hn] at mi;go_wp2_with (with_reducible first|(first|refine' tw1 (qh ?_) ?_|refine' tw2 (qh ?_) ?_);rotate_left|refine' tw3 (qh ?_)|rfl|apply tn|refine' tw4 ?_);go_meet
     case rel=>exact⟨rfl,(Upd.refl _ _).drew⟩
    ·have e:z=false:=by rw[qa c0];unfold ql8;rw[decide_eq_true h0,decide_eq_false hn];rfl
     subst e;have d:(m.id==c.k.heard-1)=false:=beq_eq_false_iff_ne.2 hn;go_wp2_with (with_reducible first|(first|refine' tw1 (qh ?_) ?_|refine' tw2 (qh ?_) ?_);rotate_left|refine' tw3 (qh ?_)|rfl|apply tn|refine' tw4 ?_);go_meet
     case rel=>exact⟨rfl,(Upd.refl _ _).drew⟩
   ·have e:z=false:=by rw[qa c0];unfold ql8;rw[decide_eq_false h0];rfl
    subst e;have h3:decide (0<c.k.heard)=false:=decide_eq_false h0;go_wp2_with (with_reducible first|(first|refine' tw1 (qh ?_) ?_|refine' tw2 (qh ?_) ?_);rotate_left|refine' tw3 (qh ?_)|rfl|apply tn|refine' tw4 ?_);go_meet
    case rel=>exact⟨rfl,(Upd.refl _ _).drew⟩
  case rest =>
   obtain⟨rfl,f⟩:=hcut;obtain⟨w3,rfl⟩:∃w3:World,w3=wc:=⟨_,rfl⟩;have mi:=f.cell mi (fun h=>h);have mn:=f.cell mn (fun h=>h);have cS:=f.cell cS (fun h=>h);have cH:=f.cell cH (fun h=>h);have cX:=f.cell cX (fun h=>h);have cR:=f.cell cR (fun h=>h);have cL:=f.cell cL (fun h=>h);have e4:=qb ((qa e3).trans f);clear f cW b9 c0;obtain⟨N,c1⟩:∃N,N=c.revocation:=⟨_,rfl⟩;rw[←c1] at L;have c9:∀W,qq w W→Calls Tryz.prog 205 #[.pointer (some ⟨g,0,none⟩)] W (qa7 (.agg N.cells.toArray) W):=fun W n=>by
    rw[c1];exact qja g S c W ((qa HS).new n) (hT.new n).tabs
   have a8:∀W,qq w W→Calls Tryz.prog 117 #[.pointer (some ⟨g,0,none⟩)] W (qa7 (.agg (qny c.s.ch).cells.toArray) W):=fun W n=>by
    obtain⟨a1,a2,a3,hp⟩:=(qa HS).new n;exact q28 g _ W hp.toR
   have a7:∀W,qq w W→qyz W av c.last:=fun W n=>((qa H0).new n).last
   have c7:∀W,qq w W→qe8 c m=140→qe7 g S w c (c.hearAgain m).1 (c.hearAgain m).2 (.returned (.tuple #[.slice none 0 0,.int .i64 140])) W:=fun W n e=>by
    have e2:c.hearAgain m=([],140):=by rw[qa e0,e,if_neg (by decide)]
    rw[e2];exact⟨qcu,rfl,qb6.nil _ _,((qa HS).new n).frW,n.mono (fun _ _ h=>h.elim)⟩
   have a6:∀W v l,qq w W→qe8 c m=0→c.resaid H z=l→qb6 w.heap.size W v l→qe7 g S w c (c.hearAgain m).1 (c.hearAgain m).2 (.returned (.tuple #[v,.int .i64 0])) W:=fun W v l n e el hv=>by
    have e2:c.hearAgain m=(l,0):=by rw[qa e0,e,if_pos rfl,el]
    rw[e2];exact⟨v,rfl,hv,((qa HS).new n).frW,n.mono (fun _ _ h=>h.elim)⟩
   obtain⟨SM,d4⟩:∃SM,SM=qny c.s.ch:=⟨_,rfl⟩;rw[←d4] at a8 b3;have f9:=qb d4;clear d4;have h5:=N.len L;have h6:=SM.len b3;have e9:=qb c1;have c6:=qb c9;have f0:=qb a8;have d0:=qb a7;have R:=qb c7;have T:=qb a6;clear c1 c9 a8 a7 c7 a6;obtain⟨t1,d7⟩:∃t1,t1=(!H && !(m.number==c.k.signed+1)):=⟨_,rfl⟩;obtain⟨t2,d8⟩:∃t2,t2=(!z && !(m.id==c.k.heard)):=⟨_,rfl⟩;have b8:=qb (show (t1=true→qe8 c m=140)∧(t1=false→t2=true→qe8 c m=140)∧(t1=false→t2=false→qe8 c m=0) by
    rw[qa e1,d7,d8];cases H<;>cases z<;>by_cases J:m.number=c.k.signed+1<;>by_cases h2:m.id=c.k.heard<;>simp[J,h2])
   have d2:=qb d7;have d3:=qb d8;have f2:∀W,qq w W→W.cell? ⟨g,42,none⟩=some (.bool c.k.shutSaid)∧W.cell? ⟨g,44,none⟩=some (.bool c.k.revoked)∧W.cell? ⟨g,627,none⟩=some av:=fun W n=>by
    have J:=(qa H0).new n;exact⟨J.toR.shutSaid,J.toR.revoked,by rw[qg J.at_ 627];exact qom c lv nv av J.ok.s.seed J.ok.shelf⟩
   have b4:=qb f2;clear d7 d8 f2 cX cR cL e1;go_upto_region 3 with fail
   go_cut [54] from 42 to 54 (fun bv wx=>bv = .bool t1∧qq w3 wx)
   case first =>
    cases H with
    | true =>
     obtain rfl:t1=false:=qa d2;go_wp2_with (with_reducible first|(first|refine' tw1 (qh ?_) ?_|refine' tw2 (qh ?_) ?_);rotate_left|refine' tw3 (qh ?_)|rfl|apply tn|refine' tw4 ?_);go_meet
     case rel=>exact⟨rfl,(Upd.refl _ _).drew⟩
    | false =>
     obtain rfl:t1 = !(m.number==c.k.signed+1):=qa d2;go_wp2_with (with_reducible first|(first|refine' tw1 (qh ?_) ?_|refine' tw2 (qh ?_) ?_);rotate_left|refine' tw3 (qh ?_)|rfl|apply tn|refine' tw4 ?_);go_meet
     case rel=>exact⟨rfl,(Upd.refl _ _).drew⟩
   case rest =>
    obtain⟨rfl,f⟩:=hcut;obtain⟨w4,rfl⟩:∃w4:World,w4=wc:=⟨_,rfl⟩;have b5:=qb ((qa e4).trans f);have mi:=f.cell mi (fun h=>h);have cH:=f.cell cH (fun h=>h);clear f mn cS g4 g3 f5 g1 e4 e3 d2;cases t1 with
    | true =>
     go_wp2_with (with_reducible first|(first|refine' tw1 (qh ?_) ?_|refine' tw2 (qh ?_) ?_);rotate_left|refine' tw3 (qh ?_)|rfl|apply tn|refine' tw4 ?_);go_ret2;exact qa R _ (qa b5) ((qa b8).1 (by trivial))
    | false =>
     go_upto_region 5 with fail
     go_cut [67] from 55 to 67 (fun bv wx=>bv = .bool t2∧qq w wx)
     case first =>
      cases z with
      | true =>
       obtain rfl:t2=false:=qa d3;go_wp2_with (with_reducible first|(first|refine' tw1 (qh ?_) ?_|refine' tw2 (qh ?_) ?_);rotate_left|refine' tw3 (qh ?_)|rfl|apply tn|refine' tw4 ?_);go_meet
       case rel=>exact⟨rfl,(qa b5).drew⟩
      | false =>
       obtain rfl:t2 = !(m.id==c.k.heard):=qa d3;go_wp2_with (with_reducible first|(first|refine' tw1 (qh ?_) ?_|refine' tw2 (qh ?_) ?_);rotate_left|refine' tw3 (qh ?_)|rfl|apply tn|refine' tw4 ?_);go_meet
       case rel=>exact⟨rfl,(qa b5).drew⟩
     case rest =>
      obtain⟨rfl,f⟩:=hcut;obtain⟨w5,rfl⟩:∃w5:World,w5=wc:=⟨_,rfl⟩;have d1:=qb f;clear f mi cH g2 g0 d3 HS H1 b5;cases t2 with
      | true =>
       go_wp2_with (with_reducible first|(first|refine' tw1 (qh ?_) ?_|refine' tw2 (qh ?_) ?_);rotate_left|refine' tw3 (qh ?_)|rfl|apply tn|refine' tw4 ?_);go_ret2;exact qa R _ (qa d1) ((qa b8).2.1 (by trivial) (by trivial))
      | false =>
       have c8:=(qa b8).2.2 (by trivial) (by trivial);have f7:Hid (qb6 w.heap.size w5 (.slice none 0 0) []):=qb (qb6.nil _ _);clear R b8;have g6:([]:List MsgV).length≤0:=Nat.le_refl _;have cR:=(qa b4 _ (qa d1)).2.1;go_upto_region 8 with fail
       go_cut [7,76] from 68 to 76 (fun rv bv wx=>rv = .bool z∧bv = .bool (z && !c.k.revoked)∧qq w5 wx)
       case first =>
        cases z with
        | true =>
         go_wp2_with (with_reducible first|(first|refine' tw1 (qh ?_) ?_|refine' tw2 (qh ?_) ?_);rotate_left|refine' tw3 (qh ?_)|rfl|apply tn|refine' tw4 ?_);go_meet
         case rel=>exact⟨rfl,rfl,by first | exact(Upd.refl _ _).drew | exact Upd.refl _ _⟩
        | false =>
         go_wp2_with (with_reducible first|(first|refine' tw1 (qh ?_) ?_|refine' tw2 (qh ?_) ?_);rotate_left|refine' tw3 (qh ?_)|rfl|apply tn|refine' tw4 ?_);go_meet
         case rel=>exact⟨rfl,rfl,by first | exact(Upd.refl _ _).drew | exact Upd.refl _ _⟩
       case rest =>
        obtain⟨rfl,rfl,f⟩:=hcut;obtain⟨w6,rfl⟩:∃w6:World,w6=wc:=⟨_,rfl⟩;have b6:=qb ((qa d1).trans f);have e6:=qb (qac (qa f7) f (fun _ _ h=>h));clear f cR;go_upto_if 76 with fail
        go_cut [6,7,8] from 76 to 82 (fun uv rv v wx=>(uv = .bool H∧rv = .bool z)∧qb6 w.heap.size wx v ([]++if z && !c.k.revoked then [N] else [])∧qq w wx)
        case first =>
         cases O:(z && !c.k.revoked) with
         | false =>
          go_wp2_with (with_reducible first|(first|refine' tw1 (qh ?_) ?_|refine' tw2 (qh ?_) ?_);rotate_left|refine' tw3 (qh ?_)|rfl|apply tn|refine' tw4 ?_);go_meet
          case rel=>exact⟨⟨by first | rfl | rw[O],rfl⟩,by rw[O,if_neg (by decide),List.append_nil];exact qa e6,qa b6⟩
         | true =>
          go_wp2_with (with_reducible first|(first|refine' tw1 (qh ?_) ?_|refine' tw2 (qh ?_) ?_);rotate_left|refine' tw3 (qh ?_)|rfl|apply tn|refine' tw4 ?_);refine(qa c6 w6 (qa b6)).mono ?_;rintro e wa ⟨rfl,P⟩;have E:w.heap.size≤wa.heap.size:=((qa b6).trans P).size;have q:=qb (qli (ls:=[N]) (fun l hl=>by rw[List.mem_singleton.1 hl];exact L) (qlh (w:=wa) L w.heap.size E));have r:qq wa (wa.alloc (.cells N.cells.toArray 101)):=(Upd.refl _ _).alloc _;have X:Hid (qb6 w.heap.size _ (.slice none 0 0) []):=qb (qac (qa e6) (P.trans r) (fun _ _ h=>h));have V:=qb (((qa b6).trans P).trans r);have C:=qb (Nat.le_trans E r.size);clear r P E;go_wp2_with (first | (at_builtin;refine qgj rfl (.tmp 77) (.tmp 80) rfl w.heap.size (.slice none 0 0) _ (by go_simp) (qa X) [N] (fun l hl=>by rw[List.mem_singleton.1 hl];exact L) _ (by go_simp) (qa q) ?few (qa C) ?_) | (with_reducible first|(first|refine' tw1 (qh ?_) ?_|refine' tw2 (qh ?_) ?_);rotate_left|refine' tw3 (qh ?_)|rfl|apply tn|refine' tw4 ?_))
          case few=>simp only[List.length_cons,List.length_nil];omega
          intro va wb Z hU;have F:=(qa V).then hU (fun i hi e=>by omega);have HO:=qb Z;have M:=qb F;clear Z hU F q C;go_wp2_with (with_reducible first|(first|refine' tw1 (qh ?_) ?_|refine' tw2 (qh ?_) ?_);rotate_left|refine' tw3 (qh ?_)|rfl|apply tn|refine' tw4 ?_);go_meet
          case rel=>exact⟨⟨by first | rfl | rw[O],rfl⟩,by rw[O,if_pos rfl];exact qa HO,qa M⟩
        case rest =>
         obtain⟨⟨rfl,rfl⟩,ho,f⟩:=hcut;obtain⟨w7,rfl⟩:∃w7:World,w7=wc:=⟨_,rfl⟩;obtain⟨la,d5,g7⟩:∃l,l=[]++(if z && !c.k.revoked then [N] else [])∧l.length≤1:=⟨_,rfl,by rw[List.length_append];split<;>(try simp)<;>omega⟩;rw[←d5] at ho;have Hla:=qb d5;have e7:=qb ho;have U:=qb f;clear ho f d5;go_upto_if 82 with fail
         go_cut [6,7,8] from 82 to 89 (fun uv rv v wx=>(uv = .bool H∧rv = .bool z)∧qb6 w.heap.size wx v (la++if H then c.last else [])∧qq w wx)
         case first =>
          cases O:(H) with
          | false =>
           go_wp2_with (with_reducible first|(first|refine' tw1 (qh ?_) ?_|refine' tw2 (qh ?_) ?_);rotate_left|refine' tw3 (qh ?_)|rfl|apply tn|refine' tw4 ?_);go_meet
           case rel=>exact⟨⟨by first | rfl | rw[O],rfl⟩,by rw[O,if_neg (by decide),List.append_nil];exact qa e7,qa U⟩
          | true =>
           have cL:=(qa b4 _ (qa U)).2.2;have q:=qb (qli f4 (qa d0 w7 (qa U)));have C:=qb (qa U).size;go_wp2_with (first | (at_builtin;refine qgj rfl (.tmp 83) (.tmp 87) rfl w.heap.size _ _ (by go_simp) (qa e7) c.last f4 _ (by go_simp) (qa q) ?few (qa C) ?_) | (with_reducible first|(first|refine' tw1 (qh ?_) ?_|refine' tw2 (qh ?_) ?_);rotate_left|refine' tw3 (qh ?_)|rfl|apply tn|refine' tw4 ?_))
           case few=>omega
           intro va wb Z hU;have F:=(qa U).then hU (fun i hi e=>by omega);have HO:=qb Z;have M:=qb F;clear Z hU F q C;go_wp2_with (with_reducible first|(first|refine' tw1 (qh ?_) ?_|refine' tw2 (qh ?_) ?_);rotate_left|refine' tw3 (qh ?_)|rfl|apply tn|refine' tw4 ?_);go_meet
           case rel=>exact⟨⟨by first | rfl | rw[O],rfl⟩,by rw[O,if_pos rfl];exact qa HO,qa M⟩
         case rest =>
          obtain⟨⟨rfl,rfl⟩,ho,f⟩:=hcut;obtain⟨w8,rfl⟩:∃w8:World,w8=wc:=⟨_,rfl⟩;obtain⟨lb,d6,g8⟩:∃l,l=la++(if H then c.last else [])∧l.length≤900001:=⟨_,rfl,by rw[List.length_append];split<;>(try simp)<;>omega⟩;rw[←d6] at ho;have Hlb:=qb d6;have f8:=qb ho;have e5:=qb f;clear ho f d6;have cR:=(qa b4 _ (qa e5)).2.1;go_upto_region 12 with fail
          go_cut [7,96] from 89 to 96 (fun rv bv wx=>rv = .bool z∧bv = .bool (z&&c.k.revoked)∧qq w8 wx)
          case first =>
           cases z with
           | true =>
            go_wp2_with (with_reducible first|(first|refine' tw1 (qh ?_) ?_|refine' tw2 (qh ?_) ?_);rotate_left|refine' tw3 (qh ?_)|rfl|apply tn|refine' tw4 ?_);go_meet
            case rel=>exact⟨rfl,rfl,by first | exact(Upd.refl _ _).drew | exact Upd.refl _ _⟩
           | false =>
            go_wp2_with (with_reducible first|(first|refine' tw1 (qh ?_) ?_|refine' tw2 (qh ?_) ?_);rotate_left|refine' tw3 (qh ?_)|rfl|apply tn|refine' tw4 ?_);go_meet
            case rel=>exact⟨rfl,rfl,by first | exact(Upd.refl _ _).drew | exact Upd.refl _ _⟩
          case rest =>
           obtain⟨rfl,rfl,f⟩:=hcut;obtain⟨w9,rfl⟩:∃w9:World,w9=wc:=⟨_,rfl⟩;have b7:=qb ((qa e5).trans f);have e8:=qb (qac (qa f8) f (fun _ _ h=>h));clear f cR;go_upto_if 96 with fail
           go_cut [6,7,8] from 96 to 102 (fun uv rv v wx=>(uv = .bool H∧rv = .bool z)∧qb6 w.heap.size wx v (lb++if z&&c.k.revoked then [N] else [])∧qq w wx)
           case first =>
            cases O:(z&&c.k.revoked) with
            | false =>
             go_wp2_with (with_reducible first|(first|refine' tw1 (qh ?_) ?_|refine' tw2 (qh ?_) ?_);rotate_left|refine' tw3 (qh ?_)|rfl|apply tn|refine' tw4 ?_);go_meet
             case rel=>exact⟨⟨by first | rfl | rw[O],rfl⟩,by rw[O,if_neg (by decide),List.append_nil];exact qa e8,qa b7⟩
            | true =>
             go_wp2_with (with_reducible first|(first|refine' tw1 (qh ?_) ?_|refine' tw2 (qh ?_) ?_);rotate_left|refine' tw3 (qh ?_)|rfl|apply tn|refine' tw4 ?_);refine(qa c6 w9 (qa b7)).mono ?_;rintro e wa ⟨rfl,P⟩;have E:w.heap.size≤wa.heap.size:=((qa b7).trans P).size;have q:=qb (qli (ls:=[N]) (fun l hl=>by rw[List.mem_singleton.1 hl];exact L) (qlh (w:=wa) L w.heap.size E));have r:qq wa (wa.alloc (.cells N.cells.toArray 101)):=(Upd.refl _ _).alloc _;have X:Hid (qb6 w.heap.size _ _ lb):=qb (qac (qa e8) (P.trans r) (fun _ _ h=>h));have V:=qb (((qa b7).trans P).trans r);have C:=qb (Nat.le_trans E r.size);clear r P E;go_wp2_with (first | (at_builtin;refine qgj rfl (.tmp 97) (.tmp 100) rfl w.heap.size _ _ (by go_simp) (qa X) [N] (fun l hl=>by rw[List.mem_singleton.1 hl];exact L) _ (by go_simp) (qa q) ?few (qa C) ?_) | (with_reducible first|(first|refine' tw1 (qh ?_) ?_|refine' tw2 (qh ?_) ?_);rotate_left|refine' tw3 (qh ?_)|rfl|apply tn|refine' tw4 ?_))
             case few=>simp only[List.length_cons,List.length_nil];omega
             intro va wb Z hU;have F:=(qa V).then hU (fun i hi e=>by omega);have HO:=qb Z;have M:=qb F;clear Z hU F q C;go_wp2_with (with_reducible first|(first|refine' tw1 (qh ?_) ?_|refine' tw2 (qh ?_) ?_);rotate_left|refine' tw3 (qh ?_)|rfl|apply tn|refine' tw4 ?_);go_meet
             case rel=>exact⟨⟨by first | rfl | rw[O],rfl⟩,by rw[O,if_pos rfl];exact qa HO,qa M⟩
           case rest =>
            obtain⟨⟨rfl,rfl⟩,ho,f⟩:=hcut;obtain⟨d9,rfl⟩:∃d9:World,d9=wc:=⟨_,rfl⟩;obtain⟨lc,I,g9⟩:∃l,l=lb++(if z&&c.k.revoked then [N] else [])∧l.length≤900002:=⟨_,rfl,by rw[List.length_append];split<;>(try simp)<;>omega⟩;rw[←I] at ho;have Hlc:=qb I;have c5:=qb ho;have K:=qb f;clear ho f I;have cX:=(qa b4 _ (qa K)).1;have I:=qa Hlc;rw[qa Hlb,qa Hla] at I;cases c2:c.k.shutSaid with
            | false =>
             rw[c2] at cX;have Y:=qb (show c.resaid H z=lc by
              unfold Ch.resaid;rw[c2,←qa e9,I];simp)
             clear I;go_wp2_with (with_reducible first|(first|refine' tw1 (qh ?_) ?_|refine' tw2 (qh ?_) ?_);rotate_left|refine' tw3 (qh ?_)|rfl|apply tn|refine' tw4 ?_);go_ret2;exact qa T _ _ _ (qa K) c8 (qa Y) (qa c5)
            | true =>
             rw[c2] at cX;have Y:=qb (show c.resaid H z=lc++[SM] by
              unfold Ch.resaid;rw[c2,←qa e9,←qa f9,I];simp)
             clear I;go_wp2_with (with_reducible first|(first|refine' tw1 (qh ?_) ?_|refine' tw2 (qh ?_) ?_);rotate_left|refine' tw3 (qh ?_)|rfl|apply tn|refine' tw4 ?_);refine(qa f0 d9 (qa K)).mono ?_;rintro e wa ⟨rfl,P⟩;have E:w.heap.size≤wa.heap.size:=((qa K).trans P).size;have q:=qb (qli (ls:=[SM]) (fun l hl=>by rw[List.mem_singleton.1 hl];exact b3) (qlh (w:=wa) b3 w.heap.size E));have r:qq wa (wa.alloc (.cells SM.cells.toArray 101)):=(Upd.refl _ _).alloc _;have X:Hid (qb6 w.heap.size _ _ lc):=qb (qac (qa c5) (P.trans r) (fun _ _ h=>h));have V:=qb (((qa K).trans P).trans r);have C:=qb (Nat.le_trans E r.size);clear r P E;go_wp2_with (first | (at_builtin;refine qgj rfl (.tmp 107) (.tmp 110) rfl w.heap.size _ _ (by go_simp) (qa X) [SM] (fun l hl=>by rw[List.mem_singleton.1 hl];exact b3) _ (by go_simp) (qa q) ?few (qa C) ?_) | (with_reducible first|(first|refine' tw1 (qh ?_) ?_|refine' tw2 (qh ?_) ?_);rotate_left|refine' tw3 (qh ?_)|rfl|apply tn|refine' tw4 ?_))
             case few=>simp only[List.length_cons,List.length_nil];omega
             intro va wb Z hU;have F:=(qa V).then hU (fun i hi e=>by omega);have HO:=qb Z;have M:=qb F;clear Z hU F q C;go_wp2_with (with_reducible first|(first|refine' tw1 (qh ?_) ?_|refine' tw2 (qh ?_) ?_);rotate_left|refine' tw3 (qh ?_)|rfl|apply tn|refine' tw4 ?_);go_ret2;exact qa T _ _ _ (qa M) c8 (qa Y) (qa HO)
end Go.Proofs.YtfmkdoachjgjbaaGreatDoor
