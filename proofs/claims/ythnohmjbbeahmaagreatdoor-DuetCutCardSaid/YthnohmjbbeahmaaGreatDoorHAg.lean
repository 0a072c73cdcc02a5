/-
  hearAgain (printed by tools/mk_hag.py).
-/
import Derived.Test.YthnohmjbbeahmaaGreatDoorMcj
import Derived.Laws.OwnMore
set_option linter.unusedVariables false
set_option linter.unusedSimpArgs false
namespace Go.Proofs.YthnohmjbbeahmaaGreatDoor
open Go.RowKit
theorem qvp(ls:List MsgV)(h:∀l∈ls,l.hash.length=32):(ls.flatMap MsgV.cells).length=ls.length*38:=by
 induction ls with
 | nil=>rfl
 | cons x xs i =>
  rw[List.flatMap_cons,List.length_append,i (fun l g=>h l (List.mem_cons_of_mem _ g)),x.len (h x List.mem_cons_self),List.length_cons,Nat.succ_mul];omega
theorem q8v(ls:List MsgV):∀u∈ls.flatMap MsgV.cells,u.oneCell'=true:=by
 intro u i;obtain⟨l,-,g⟩:=List.mem_flatMap.1 i;exact l.one u g
theorem qih{w:World}{z:Array Oper}{rest:List Oper}{o:Oper}{a:Act}{Q:Exit→Act→World→Prop}(q:o.guard=none)(s x:Operand)
  (O:o.op = .call {callee:= .builtin .append,args:=#[s,x],argTypes:=#[58,58]})
  (base:Nat) (v:Value) (L:List MsgV) (R:a.eval s=v) (g:qc5 base w v L)
  (ls:List MsgV) (F:∀l∈ls,l.hash.length=32) (N:Value) (T:a.eval x=N)
  (y:(N = .slice none 0 0∧ls=[])∨∃C c,N = .slice (some C) ls.length c∧∀j u,(ls.flatMap MsgV.cells)[j]? = some u→w.cell? (C.add j)=some u)
  (m:L.length+ls.length≤1000000) (i:base≤w.heap.size)
  (h:∀D w',qc5 base w' D (L++ls)→Upd (fun k=>base≤k) w w'→wpList Tryz.prog z Q rest (a.put o.dst D) w') :
  wpList Tryz.prog z Q (o::rest) a w:=by
 obtain⟨U,z9,V,t,M,H,I,J,E⟩:=qok
 rcases y with ⟨rfl,rfl⟩ | ⟨C,c,rfl,Z⟩
 ·refine wpList_plain q fun K Y=> ?_
  have hr:=run_append_owned_none (P:=Tryz.prog) (w:=w) base 58 o.type 71 U 38 Tryz.underlying58 t v L.length _ g;unfold Oper.wp execOp;simp only[O,resolve,invoke,builtin,Sem.run_bind,Sem.run_pure,Result.andThen_ok,List.map_toArray,List.map_cons,List.map_nil,R,T,hr];refine Y _ _ (h v w ?_ (Upd.refl _ _));rw[List.append_nil];exact g
 ·refine wpList_append_own_at (P:=Tryz.prog) w q s x 58 O base 71 U _ 38 V Tryz.underlying58 t M H I J (by decide) v L.length _ R g C ls.length c (ls.flatMap MsgV.cells) T (qvp ls F) Z (q8v ls) (by unfold maxLen;omega) (by have:=Nat.mul_le_mul m E;omega) i ?_;intro D w' W X _ h4;refine h D w' ?_ ((Upd.refl _ _).grown X (fun k hk _=>qs9 g k hk));unfold qc5;rw[List.length_append,List.flatMap_append];exact W
theorem qoz{w:World}{ls:List MsgV}{base:Nat}{v:Value}(m:∀l∈ls,l.hash.length=32)(h:w.ownsRow base 71 38 v ls.length (ls.flatMap MsgV.cells)) :
  (v = .slice none 0 0∧ls=[])∨∃o c',v = .slice (some o) ls.length c'∧∀j u,(ls.flatMap MsgV.cells)[j]? = some u→w.cell? (o.add j)=some u:=by
 rcases h.2 with ⟨e,x⟩ | ⟨g,cap,t,e,z,D,C,_,E,F⟩
 ·exact .inl ⟨e,List.length_eq_zero_iff.1 x⟩
 ·refine .inr ⟨⟨g,0,none⟩,cap,e,?_⟩;intro j u q;rw[e] at h;have i:=(List.getElem?_eq_some_iff.1 q).1;rw[qvp ls m] at i;have:=World.ownsRow.cellAt h j i;have y:(⟨g,0,none⟩:Addr).add j=⟨g,j,none⟩:=by cases j<;>simp[Addr.add]
  rw[y,this];exact q
def qgy(c:Ch)(m:MsgV):Bool:=c.k.awaits&&decide (m.number=c.k.signed)
def ql9(c:Ch)(m:MsgV):Bool:=decide (0<c.k.heard)&&decide (m.id=c.k.heard-1)
def qe9(c:Ch)(m:MsgV):Int:=if qgy c m=false∧m.number≠c.k.signed+1 then 140 else if ql9 c m=false∧m.id≠c.k.heard then 140 else 0
def Ch.resaid(c:Ch)(i g:Bool):List MsgV:=(if g && !c.k.revoked then [c.revocation] else [])++((if i then c.last else [])++((if g&&c.k.revoked then [c.revocation] else [])++(if c.k.shutSaid then [qb6 c.s.ch] else [])))
def Ch.hearAgain(c:Ch)(m:MsgV):List MsgV × Int:=if qe9 c m=0 then (c.resaid (qgy c m) (ql9 c m),0) else ([],140)
attribute [local go_sem ↓ high] qab qan qar qaw zy zz z7 qaa qd3
attribute [local go_sem] qcr qde qdn qg2 zb qb2 qcb qci qbi qlg
set_option maxRecDepth 100000 in
set_option maxHeartbeats 4000000 in
theorem qt9(g:Nat)(S:Nat→Prop)(c:Ch)(m:MsgV)(hm:MsgOk m)(w:World)(h:ChS w g S c)(hT:Tb w)(g1:c.last.length≤900000) :
  Calls Tryz.prog 87 #[.pointer (some ⟨g,0,none⟩),.agg m.cells.toArray] w (qhp g S w c (c.hearAgain m).1 (c.hearAgain m).2):=by
 have I:c.revocation.hash.length=32:=by
  obtain⟨_,_,_,hp⟩:=h;exact Ch.secret_len hp.ok _
 have a6:(qb6 c.s.ch).hash.length=32:=qu
 have HS:=qb h
 have g7:¬w.heap.size≤g:=by
  obtain⟨_,_,_,hp⟩:=h;have:=hp.lt g hp.inG;omega
 obtain⟨lv,nv,av,h⟩:=h
 have H0:=qb h
 have f0:=h.ok.last
 go_enter Tryz.func87,Tryz.ntmps87
 go_upto_region 1 with fail
 have hA:=qbz w m hm.len
 have n1:qq w (w.alloc (.cells m.cells.toArray 71)):=(Upd.refl _ _).alloc _
 generalize w.alloc (.cells m.cells.toArray 71)=w1 at n1 hA ⊢
 generalize w.heap.size=A at hA ⊢
 have F:=h.new n1
 obtain⟨-,-,mi,-,-,mn,-⟩:=hA.cells
 have cS:w1.cell? ⟨g,37,none⟩=some (.int .i64 c.k.signed):=F.toR.signed
 have cH:w1.cell? ⟨g,38,none⟩=some (.int .i64 c.k.heard):=F.toR.heard
 have cW:w1.cell? ⟨g,39,none⟩=some (.bool c.k.awaits):=F.toR.awaits
 have cX:w1.cell? ⟨g,42,none⟩=some (.bool c.k.shutSaid):=F.toR.shutSaid
 have cR:w1.cell? ⟨g,44,none⟩=some (.bool c.k.revoked):=F.toR.revoked
 have cL:w1.cell? ⟨g,627,none⟩=some av:=by rw[qh F.at_ 627];exact qr9 c lv nv av F.ok.s.seed F.ok.shelf
 have f7:=h.ok.signed
 have f6:=h.ok.heard
 have g0:IntKind.i64.wrap (c.k.signed+1)=c.k.signed+1:=qk2 (by omega) (by omega)
 have f8:IntKind.u64.wrap c.k.heard=c.k.heard:=qdq (by omega) (by omega)
 have f9:IntKind.i64.wrap (c.k.heard-1)=c.k.heard-1:=qk2 (by omega) (by omega)
 have f1:0<c.k.heard→IntKind.u64.wrap (c.k.heard-1)=c.k.heard-1:=fun _=>qdq (by omega) (by omega)
 have H1:=qb F
 have f2:=qb n1
 obtain⟨D,b9⟩:∃D,D=qgy c m:=⟨_,rfl⟩
 obtain⟨x,c0⟩:∃x,x=ql9 c m:=⟨_,rfl⟩
 have b5:=qb b9
 have b6:=qb c0
 have e7:c.hearAgain m=if qe9 c m=0 then (c.resaid D x,0) else ([],140):=by rw[b9,c0];rfl
 have e9:qe9 c m=if D=false∧m.number≠c.k.signed+1 then 140 else if x=false∧m.id≠c.k.heard then 140 else 0:=by rw[b9,c0];rfl
 have d6:=qb e7
 have d7:=qb e9
 have HA:=qb hA
 clear h F n1 hA b9 c0 e7 e9
 go_cut [6] from 9 to 24 (fun uv wx=>uv = .bool D∧qq w1 wx)
 case first =>
  cases ha:c.k.awaits with
  | false =>
   rw[ha] at cW;have e:D=false:=by rw[qa b5];unfold qgy;rw[ha];rfl
   subst e;go_wp2_with (with_reducible first|(first|refine' zi (qg ?_) ?_|refine' zj (qg ?_) ?_);rotate_left|refine' zk (qg ?_)|rfl|apply tn|refine' zl ?_);go_meet
   case rel=>exact⟨rfl,(Upd.refl _ _).drew⟩
  | true =>
   rw[ha] at cW;by_cases hn:m.number=c.k.signed
   ·have e:D=true:=by rw[qa b5];unfold qgy;rw[ha,decide_eq_true hn];rfl
    subst e;rw[hn] at mn;go_wp2_with (with_reducible first|(first|refine' zi (qg ?_) ?_|refine' zj (qg ?_) ?_);rotate_left|refine' zk (qg ?_)|rfl|apply tn|refine' zl ?_);go_meet
    case rel=>exact⟨rfl,(Upd.refl _ _).drew⟩
   ·have e:D=false:=by rw[qa b5];unfold qgy;rw[ha,decide_eq_false hn];rfl
    subst e;have d:(m.number==c.k.signed)=false:=beq_eq_false_iff_ne.2 hn;go_wp2_with (with_reducible first|(first|refine' zi (qg ?_) ?_|refine' zj (qg ?_) ?_);rotate_left|refine' zk (qg ?_)|rfl|apply tn|refine' zl ?_);go_meet
    case rel=>exact⟨rfl,(Upd.refl _ _).drew⟩
 case rest =>
  obtain⟨rfl,o⟩:=hcut;obtain⟨w2,rfl⟩:∃w2:World,w2=wc:=⟨_,rfl⟩;have mi:=o.cell mi (fun h=>h);have mn:=o.cell mn (fun h=>h);have cS:=o.cell cS (fun h=>h);have cH:=o.cell cH (fun h=>h);have cW:=o.cell cW (fun h=>h);have cX:=o.cell cX (fun h=>h);have cR:=o.cell cR (fun h=>h);have cL:=o.cell cL (fun h=>h);have d8:=qb ((qa f2).trans o);clear o HA;go_upto_region 2 with fail
  go_cut [7] from 24 to 42 (fun rv wx=>rv = .bool x∧qq w2 wx)
  case first =>
   by_cases h0:0<c.k.heard
   ·have hw:=f1 h0;by_cases hn:m.id=c.k.heard-1
    ·have e:x=true:=by rw[qa b6];unfold ql9;rw[decide_eq_true h0,decide_eq_true hn];rfl
     subst e;rw[hn] at mi;go_wp2_with (with_reducible first|(first|refine' zi (qg ?_) ?_|refine' zj (qg ?_) ?_);rotate_left|refine' zk (qg ?_)|rfl|apply tn|refine' zl ?_);go_meet
     case rel=>exact⟨rfl,(Upd.refl _ _).drew⟩
    ·have e:x=false:=by rw[qa b6];unfold ql9;rw[decide_eq_true h0,decide_eq_false hn];rfl
     subst e;have d:(m.id==c.k.heard-1)=false:=beq_eq_false_iff_ne.2 hn;go_wp2_with (with_reducible first|(first|refine' zi (qg ?_) ?_|refine' zj (qg ?_) ?_);rotate_left|refine' zk (qg ?_)|rfl|apply tn|refine' zl ?_);go_meet
     case rel=>exact⟨rfl,(Upd.refl _ _).drew⟩
   ·have e:x=false:=by rw[qa b6];unfold ql9;rw[decide_eq_false h0];rfl
    subst e;have g6:decide (0<c.k.heard)=false:=decide_eq_false h0;go_wp2_with (with_reducible first|(first|refine' zi (qg ?_) ?_|refine' zj (qg ?_) ?_);rotate_left|refine' zk (qg ?_)|rfl|apply tn|refine' zl ?_);go_meet
    case rel=>exact⟨rfl,(Upd.refl _ _).drew⟩
  case rest =>
   obtain⟨rfl,o⟩:=hcut;obtain⟨w3,rfl⟩:∃w3:World,w3=wc:=⟨_,rfl⟩;have mi:=o.cell mi (fun h=>h);have mn:=o.cell mn (fun h=>h);have cS:=o.cell cS (fun h=>h);have cH:=o.cell cH (fun h=>h);have cX:=o.cell cX (fun h=>h);have cR:=o.cell cR (fun h=>h);have cL:=o.cell cL (fun h=>h);have d9:=qb ((qa d8).trans o);clear o cW b5 b6;obtain⟨K,b7⟩:∃K,K=c.revocation:=⟨_,rfl⟩;rw[←b7] at I;have c5:∀W,qq w W→Calls Tryz.prog 110 #[.pointer (some ⟨g,0,none⟩)] W (qbf (.agg K.cells.toArray) W):=fun W n=>by
    rw[b7];exact qlz g S c W ((qa HS).new n) (hT.new n).tabs
   have a5:∀W,qq w W→Calls Tryz.prog 88 #[.pointer (some ⟨g,0,none⟩)] W (qbf (.agg (qb6 c.s.ch).cells.toArray) W):=fun W n=>by
    obtain⟨a1,a2,a3,hp⟩:=(qa HS).new n;exact qv1 g _ W hp.toR
   have a4:∀W,qq w W→q44 W av c.last:=fun W n=>((qa H0).new n).last
   have c3:∀W,qq w W→qe9 c m=140→qhp g S w c (c.hearAgain m).1 (c.hearAgain m).2 (.returned (.tuple #[.slice none 0 0,.int .i64 140])) W:=fun W n e=>by
    have e2:c.hearAgain m=([],140):=by rw[qa d6,e,if_neg (by decide)]
    rw[e2];exact⟨qcg,rfl,qc5.nil _ _,((qa HS).new n).frW,n.mono (fun _ _ h=>h.elim)⟩
   have Y:∀W v l,qq w W→qe9 c m=0→c.resaid D x=l→qc5 w.heap.size W v l→qhp g S w c (c.hearAgain m).1 (c.hearAgain m).2 (.returned (.tuple #[v,.int .i64 0])) W:=fun W v l n e el hv=>by
    have e2:c.hearAgain m=(l,0):=by rw[qa d6,e,if_pos rfl,el]
    rw[e2];exact⟨v,rfl,hv,((qa HS).new n).frW,n.mono (fun _ _ h=>h.elim)⟩
   obtain⟨SM,d0⟩:∃SM,SM=qb6 c.s.ch:=⟨_,rfl⟩;rw[←d0] at a5 a6;have f5:=qb d0;clear d0;have g8:=K.len I;have g9:=SM.len a6;have e5:=qb b7;have c2:=qb c5;have e6:=qb a5;have c6:=qb a4;have N:=qb c3;have O:=qb Y;clear b7 c5 a5 a4 c3 Y;obtain⟨t1,d3⟩:∃t1,t1=(!D && !(m.number==c.k.signed+1)):=⟨_,rfl⟩;obtain⟨t2,d4⟩:∃t2,t2=(!x && !(m.id==c.k.heard)):=⟨_,rfl⟩;have b4:=qb (show (t1=true→qe9 c m=140)∧(t1=false→t2=true→qe9 c m=140)∧(t1=false→t2=false→qe9 c m=0) by
    rw[qa d7,d3,d4];cases D<;>cases x<;>by_cases F:m.number=c.k.signed+1<;>by_cases h2:m.id=c.k.heard<;>simp[F,h2])
   have c8:=qb d3;have c9:=qb d4;have e8:∀W,qq w W→W.cell? ⟨g,42,none⟩=some (.bool c.k.shutSaid)∧W.cell? ⟨g,44,none⟩=some (.bool c.k.revoked)∧W.cell? ⟨g,627,none⟩=some av:=fun W n=>by
    have F:=(qa H0).new n;exact⟨F.toR.shutSaid,F.toR.revoked,by rw[qh F.at_ 627];exact qr9 c lv nv av F.ok.s.seed F.ok.shelf⟩
   have a7:=qb e8;clear d3 d4 e8 cX cR cL d7;go_upto_region 3 with fail
   go_cut [54] from 42 to 54 (fun bv wx=>bv = .bool t1∧qq w3 wx)
   case first =>
    cases D with
    | true =>
     obtain rfl:t1=false:=qa c8;go_wp2_with (with_reducible first|(first|refine' zi (qg ?_) ?_|refine' zj (qg ?_) ?_);rotate_left|refine' zk (qg ?_)|rfl|apply tn|refine' zl ?_);go_meet
     case rel=>exact⟨rfl,(Upd.refl _ _).drew⟩
    | false =>
     obtain rfl:t1 = !(m.number==c.k.signed+1):=qa c8;go_wp2_with (with_reducible first|(first|refine' zi (qg ?_) ?_|refine' zj (qg ?_) ?_);rotate_left|refine' zk (qg ?_)|rfl|apply tn|refine' zl ?_);go_meet
     case rel=>exact⟨rfl,(Upd.refl _ _).drew⟩
   case rest =>
    obtain⟨rfl,o⟩:=hcut;obtain⟨w4,rfl⟩:∃w4:World,w4=wc:=⟨_,rfl⟩;have a8:=qb ((qa d9).trans o);have mi:=o.cell mi (fun h=>h);have cH:=o.cell cH (fun h=>h);clear o mn cS g0 f9 f1 f7 d9 d8 c8;cases t1 with
    | true =>
     go_wp2_with (with_reducible first|(first|refine' zi (qg ?_) ?_|refine' zj (qg ?_) ?_);rotate_left|refine' zk (qg ?_)|rfl|apply tn|refine' zl ?_);go_ret2;exact qa N _ (qa a8) ((qa b4).1 (by trivial))
    | false =>
     go_upto_region 5 with fail
     go_cut [67] from 55 to 67 (fun bv wx=>bv = .bool t2∧qq w wx)
     case first =>
      cases x with
      | true =>
       obtain rfl:t2=false:=qa c9;go_wp2_with (with_reducible first|(first|refine' zi (qg ?_) ?_|refine' zj (qg ?_) ?_);rotate_left|refine' zk (qg ?_)|rfl|apply tn|refine' zl ?_);go_meet
       case rel=>exact⟨rfl,(qa a8).drew⟩
      | false =>
       obtain rfl:t2 = !(m.id==c.k.heard):=qa c9;go_wp2_with (with_reducible first|(first|refine' zi (qg ?_) ?_|refine' zj (qg ?_) ?_);rotate_left|refine' zk (qg ?_)|rfl|apply tn|refine' zl ?_);go_meet
       case rel=>exact⟨rfl,(qa a8).drew⟩
     case rest =>
      obtain⟨rfl,o⟩:=hcut;obtain⟨w5,rfl⟩:∃w5:World,w5=wc:=⟨_,rfl⟩;have c7:=qb o;clear o mi cH f8 f6 c9 HS H1 a8;cases t2 with
      | true =>
       go_wp2_with (with_reducible first|(first|refine' zi (qg ?_) ?_|refine' zj (qg ?_) ?_);rotate_left|refine' zk (qg ?_)|rfl|apply tn|refine' zl ?_);go_ret2;exact qa N _ (qa c7) ((qa b4).2.1 (by trivial) (by trivial))
      | false =>
       have c4:=(qa b4).2.2 (by trivial) (by trivial);have f3:Hid (qc5 w.heap.size w5 (.slice none 0 0) []):=qb (qc5.nil _ _);clear N b4;have g2:([]:List MsgV).length≤0:=Nat.le_refl _;have cR:=(qa a7 _ (qa c7)).2.1;go_upto_region 8 with fail
       go_cut [7,76] from 68 to 76 (fun rv bv wx=>rv = .bool x∧bv = .bool (x && !c.k.revoked)∧qq w5 wx)
       case first =>
        cases x with
        | true =>
         go_wp2_with (with_reducible first|(first|refine' zi (qg ?_) ?_|refine' zj (qg ?_) ?_);rotate_left|refine' zk (qg ?_)|rfl|apply tn|refine' zl ?_);go_meet
         case rel=>exact⟨rfl,rfl,by first | exact(Upd.refl _ _).drew | exact Upd.refl _ _⟩
        | false =>
         go_wp2_with (with_reducible first|(first|refine' zi (qg ?_) ?_|refine' zj (qg ?_) ?_);rotate_left|refine' zk (qg ?_)|rfl|apply tn|refine' zl ?_);go_meet
         case rel=>exact⟨rfl,rfl,by first | exact(Upd.refl _ _).drew | exact Upd.refl _ _⟩
       case rest =>
        obtain⟨rfl,rfl,o⟩:=hcut;obtain⟨w6,rfl⟩:∃w6:World,w6=wc:=⟨_,rfl⟩;have a9:=qb ((qa c7).trans o);have e1:=qb (zg (qa f3) o (fun _ _ h=>h));clear o cR;go_upto_if 76 with fail
        go_cut [6,7,8] from 76 to 82 (fun uv rv v wx=>(uv = .bool D∧rv = .bool x)∧qc5 w.heap.size wx v ([]++if x && !c.k.revoked then [K] else [])∧qq w wx)
        case first =>
         cases L:(x && !c.k.revoked) with
         | false =>
          go_wp2_with (with_reducible first|(first|refine' zi (qg ?_) ?_|refine' zj (qg ?_) ?_);rotate_left|refine' zk (qg ?_)|rfl|apply tn|refine' zl ?_);go_meet
          case rel=>exact⟨⟨by first | rfl | rw[L],rfl⟩,by rw[L,if_neg (by decide),List.append_nil];exact qa e1,qa a9⟩
         | true =>
          go_wp2_with (with_reducible first|(first|refine' zi (qg ?_) ?_|refine' zj (qg ?_) ?_);rotate_left|refine' zk (qg ?_)|rfl|apply tn|refine' zl ?_);refine(qa c2 w6 (qa a9)).mono ?_;rintro e wa ⟨rfl,M⟩;have z:w.heap.size≤wa.heap.size:=((qa a9).trans M).size;have q:=qb (qoz (ls:=[K]) (fun l Z=>by rw[List.mem_singleton.1 Z];exact I) (qow (w:=wa) I w.heap.size z));have t:qq wa (wa.alloc (.cells K.cells.toArray 71)):=(Upd.refl _ _).alloc _;have T:Hid (qc5 w.heap.size _ (.slice none 0 0) []):=qb (zg (qa e1) (M.trans t) (fun _ _ h=>h));have R:=qb (((qa a9).trans M).trans t);have y:=qb (Nat.le_trans z t.size);clear t M z;go_wp2_with (first | (at_builtin;refine qih rfl (.tmp 77) (.tmp 80) rfl w.heap.size (.slice none 0 0) _ (by go_simp) (qa T) [K] (fun l Z=>by rw[List.mem_singleton.1 Z];exact I) _ (by go_simp) (qa q) ?few (qa y) ?_) | (with_reducible first|(first|refine' zi (qg ?_) ?_|refine' zj (qg ?_) ?_);rotate_left|refine' zk (qg ?_)|rfl|apply tn|refine' zl ?_))
          case few=>simp only[List.length_cons,List.length_nil];omega
          intro va wb V X;have C:=(qa R).then X (fun i hi e=>by omega);have HO:=qb V;have J:=qb C;clear V X C q y;go_wp2_with (with_reducible first|(first|refine' zi (qg ?_) ?_|refine' zj (qg ?_) ?_);rotate_left|refine' zk (qg ?_)|rfl|apply tn|refine' zl ?_);go_meet
          case rel=>exact⟨⟨by first | rfl | rw[L],rfl⟩,by rw[L,if_pos rfl];exact qa HO,qa J⟩
        case rest =>
         obtain⟨⟨rfl,rfl⟩,ho,o⟩:=hcut;obtain⟨w7,rfl⟩:∃w7:World,w7=wc:=⟨_,rfl⟩;obtain⟨la,d1,g3⟩:∃l,l=[]++(if x && !c.k.revoked then [K] else [])∧l.length≤1:=⟨_,rfl,by rw[List.length_append];split<;>(try simp)<;>omega⟩;rw[←d1] at ho;have Hla:=qb d1;have e3:=qb ho;have P:=qb o;clear ho o d1;go_upto_if 82 with fail
         go_cut [6,7,8] from 82 to 89 (fun uv rv v wx=>(uv = .bool D∧rv = .bool x)∧qc5 w.heap.size wx v (la++if D then c.last else [])∧qq w wx)
         case first =>
          cases L:(D) with
          | false =>
           go_wp2_with (with_reducible first|(first|refine' zi (qg ?_) ?_|refine' zj (qg ?_) ?_);rotate_left|refine' zk (qg ?_)|rfl|apply tn|refine' zl ?_);go_meet
           case rel=>exact⟨⟨by first | rfl | rw[L],rfl⟩,by rw[L,if_neg (by decide),List.append_nil];exact qa e3,qa P⟩
          | true =>
           have cL:=(qa a7 _ (qa P)).2.2;have q:=qb (qoz f0 (qa c6 w7 (qa P)));have y:=qb (qa P).size;go_wp2_with (first | (at_builtin;refine qih rfl (.tmp 83) (.tmp 87) rfl w.heap.size _ _ (by go_simp) (qa e3) c.last f0 _ (by go_simp) (qa q) ?few (qa y) ?_) | (with_reducible first|(first|refine' zi (qg ?_) ?_|refine' zj (qg ?_) ?_);rotate_left|refine' zk (qg ?_)|rfl|apply tn|refine' zl ?_))
           case few=>omega
           intro va wb V X;have C:=(qa P).then X (fun i hi e=>by omega);have HO:=qb V;have J:=qb C;clear V X C q y;go_wp2_with (with_reducible first|(first|refine' zi (qg ?_) ?_|refine' zj (qg ?_) ?_);rotate_left|refine' zk (qg ?_)|rfl|apply tn|refine' zl ?_);go_meet
           case rel=>exact⟨⟨by first | rfl | rw[L],rfl⟩,by rw[L,if_pos rfl];exact qa HO,qa J⟩
         case rest =>
          obtain⟨⟨rfl,rfl⟩,ho,o⟩:=hcut;obtain⟨w8,rfl⟩:∃w8:World,w8=wc:=⟨_,rfl⟩;obtain⟨lb,d2,g4⟩:∃l,l=la++(if D then c.last else [])∧l.length≤900001:=⟨_,rfl,by rw[List.length_append];split<;>(try simp)<;>omega⟩;rw[←d2] at ho;have Hlb:=qb d2;have f4:=qb ho;have e0:=qb o;clear ho o d2;have cR:=(qa a7 _ (qa e0)).2.1;go_upto_region 12 with fail
          go_cut [7,96] from 89 to 96 (fun rv bv wx=>rv = .bool x∧bv = .bool (x&&c.k.revoked)∧qq w8 wx)
          case first =>
           cases x with
           | true =>
            go_wp2_with (with_reducible first|(first|refine' zi (qg ?_) ?_|refine' zj (qg ?_) ?_);rotate_left|refine' zk (qg ?_)|rfl|apply tn|refine' zl ?_);go_meet
            case rel=>exact⟨rfl,rfl,by first | exact(Upd.refl _ _).drew | exact Upd.refl _ _⟩
           | false =>
            go_wp2_with (with_reducible first|(first|refine' zi (qg ?_) ?_|refine' zj (qg ?_) ?_);rotate_left|refine' zk (qg ?_)|rfl|apply tn|refine' zl ?_);go_meet
            case rel=>exact⟨rfl,rfl,by first | exact(Upd.refl _ _).drew | exact Upd.refl _ _⟩
          case rest =>
           obtain⟨rfl,rfl,o⟩:=hcut;obtain⟨w9,rfl⟩:∃w9:World,w9=wc:=⟨_,rfl⟩;have b3:=qb ((qa e0).trans o);have e4:=qb (zg (qa f4) o (fun _ _ h=>h));clear o cR;go_upto_if 96 with fail
           go_cut [6,7,8] from 96 to 102 (fun uv rv v wx=>(uv = .bool D∧rv = .bool x)∧qc5 w.heap.size wx v (lb++if x&&c.k.revoked then [K] else [])∧qq w wx)
           case first =>
            cases L:(x&&c.k.revoked) with
            | false =>
             go_wp2_with (with_reducible first|(first|refine' zi (qg ?_) ?_|refine' zj (qg ?_) ?_);rotate_left|refine' zk (qg ?_)|rfl|apply tn|refine' zl ?_);go_meet
             case rel=>exact⟨⟨by first | rfl | rw[L],rfl⟩,by rw[L,if_neg (by decide),List.append_nil];exact qa e4,qa b3⟩
            | true =>
             go_wp2_with (with_reducible first|(first|refine' zi (qg ?_) ?_|refine' zj (qg ?_) ?_);rotate_left|refine' zk (qg ?_)|rfl|apply tn|refine' zl ?_);refine(qa c2 w9 (qa b3)).mono ?_;rintro e wa ⟨rfl,M⟩;have z:w.heap.size≤wa.heap.size:=((qa b3).trans M).size;have q:=qb (qoz (ls:=[K]) (fun l Z=>by rw[List.mem_singleton.1 Z];exact I) (qow (w:=wa) I w.heap.size z));have t:qq wa (wa.alloc (.cells K.cells.toArray 71)):=(Upd.refl _ _).alloc _;have T:Hid (qc5 w.heap.size _ _ lb):=qb (zg (qa e4) (M.trans t) (fun _ _ h=>h));have R:=qb (((qa b3).trans M).trans t);have y:=qb (Nat.le_trans z t.size);clear t M z;go_wp2_with (first | (at_builtin;refine qih rfl (.tmp 97) (.tmp 100) rfl w.heap.size _ _ (by go_simp) (qa T) [K] (fun l Z=>by rw[List.mem_singleton.1 Z];exact I) _ (by go_simp) (qa q) ?few (qa y) ?_) | (with_reducible first|(first|refine' zi (qg ?_) ?_|refine' zj (qg ?_) ?_);rotate_left|refine' zk (qg ?_)|rfl|apply tn|refine' zl ?_))
             case few=>simp only[List.length_cons,List.length_nil];omega
             intro va wb V X;have C:=(qa R).then X (fun i hi e=>by omega);have HO:=qb V;have J:=qb C;clear V X C q y;go_wp2_with (with_reducible first|(first|refine' zi (qg ?_) ?_|refine' zj (qg ?_) ?_);rotate_left|refine' zk (qg ?_)|rfl|apply tn|refine' zl ?_);go_meet
             case rel=>exact⟨⟨by first | rfl | rw[L],rfl⟩,by rw[L,if_pos rfl];exact qa HO,qa J⟩
           case rest =>
            obtain⟨⟨rfl,rfl⟩,ho,o⟩:=hcut;obtain⟨d5,rfl⟩:∃d5:World,d5=wc:=⟨_,rfl⟩;obtain⟨lc,E,g5⟩:∃l,l=lb++(if x&&c.k.revoked then [K] else [])∧l.length≤900002:=⟨_,rfl,by rw[List.length_append];split<;>(try simp)<;>omega⟩;rw[←E] at ho;have Hlc:=qb E;have c1:=qb ho;have H:=qb o;clear ho o E;have cX:=(qa a7 _ (qa H)).1;have E:=qa Hlc;rw[qa Hlb,qa Hla] at E;cases b8:c.k.shutSaid with
            | false =>
             rw[b8] at cX;have U:=qb (show c.resaid D x=lc by
              unfold Ch.resaid;rw[b8,←qa e5,E];simp)
             clear E;go_wp2_with (with_reducible first|(first|refine' zi (qg ?_) ?_|refine' zj (qg ?_) ?_);rotate_left|refine' zk (qg ?_)|rfl|apply tn|refine' zl ?_);go_ret2;exact qa O _ _ _ (qa H) c4 (qa U) (qa c1)
            | true =>
             rw[b8] at cX;have U:=qb (show c.resaid D x=lc++[SM] by
              unfold Ch.resaid;rw[b8,←qa e5,←qa f5,E];simp)
             clear E;go_wp2_with (with_reducible first|(first|refine' zi (qg ?_) ?_|refine' zj (qg ?_) ?_);rotate_left|refine' zk (qg ?_)|rfl|apply tn|refine' zl ?_);refine(qa e6 d5 (qa H)).mono ?_;rintro e wa ⟨rfl,M⟩;have z:w.heap.size≤wa.heap.size:=((qa H).trans M).size;have q:=qb (qoz (ls:=[SM]) (fun l Z=>by rw[List.mem_singleton.1 Z];exact a6) (qow (w:=wa) a6 w.heap.size z));have t:qq wa (wa.alloc (.cells SM.cells.toArray 71)):=(Upd.refl _ _).alloc _;have T:Hid (qc5 w.heap.size _ _ lc):=qb (zg (qa c1) (M.trans t) (fun _ _ h=>h));have R:=qb (((qa H).trans M).trans t);have y:=qb (Nat.le_trans z t.size);clear t M z;go_wp2_with (first | (at_builtin;refine qih rfl (.tmp 107) (.tmp 110) rfl w.heap.size _ _ (by go_simp) (qa T) [SM] (fun l Z=>by rw[List.mem_singleton.1 Z];exact a6) _ (by go_simp) (qa q) ?few (qa y) ?_) | (with_reducible first|(first|refine' zi (qg ?_) ?_|refine' zj (qg ?_) ?_);rotate_left|refine' zk (qg ?_)|rfl|apply tn|refine' zl ?_))
             case few=>simp only[List.length_cons,List.length_nil];omega
             intro va wb V X;have C:=(qa R).then X (fun i hi e=>by omega);have HO:=qb V;have J:=qb C;clear V X C q y;go_wp2_with (with_reducible first|(first|refine' zi (qg ?_) ?_|refine' zj (qg ?_) ?_);rotate_left|refine' zk (qg ?_)|rfl|apply tn|refine' zl ?_);go_ret2;exact qa O _ _ _ (qa J) c4 (qa U) (qa HO)
end Go.Proofs.YthnohmjbbeahmaaGreatDoor
