/-
  hearAgain (printed by tools/mk_hag.py).
-/
import Derived.Test.YthnohmjbbeahmaaGreatDoorMcj
import Derived.Laws.OwnMore
set_option linter.unusedVariables false
set_option linter.unusedSimpArgs false
namespace Go.Proofs.YthnohmjbbeahmaaGreatDoor
open Go.RowKit
theorem quo(ls:List MsgV)(h:∀l∈ls,l.hash.length=32):(ls.flatMap MsgV.cells).length=ls.length*38:=by
 induction ls with
 | nil=>rfl
 | cons x xs i =>
  rw[List.flatMap_cons,List.length_append,i (fun l g=>h l (List.mem_cons_of_mem _ g)),x.len (h x List.mem_cons_self),List.length_cons,Nat.succ_mul];omega
theorem q67(ls:List MsgV):∀u∈ls.flatMap MsgV.cells,u.oneCell'=true:=by
 intro u i;obtain⟨l,-,g⟩:=List.mem_flatMap.1 i;exact l.one u g
theorem qh0{w:World}{C:Array Oper}{rest:List Oper}{o:Oper}{a:Act}{Q:Exit→Act→World→Prop}(q:o.guard=none)(s x:Operand)
  (R:o.op = .call {callee:= .builtin .append,args:=#[s,x],argTypes:=#[58,58]})
  (base:Nat) (v:Value) (L:List MsgV) (T:a.eval s=v) (g:qc0 base w v L)
  (ls:List MsgV) (H:∀l∈ls,l.hash.length=32) (O:Value) (U:a.eval x=O)
  (z:(O = .slice none 0 0∧ls=[])∨∃D c,O = .slice (some D) ls.length c∧∀j u,(ls.flatMap MsgV.cells)[j]? = some u→w.cell? (D.add j)=some u)
  (m:L.length+ls.length≤1000000) (i:base≤w.heap.size)
  (h:∀E w',qc0 base w' E (L++ls)→Upd (fun k=>base≤k) w w'→wpList Tryz.prog C Q rest (a.put o.dst E) w') :
  wpList Tryz.prog C Q (o::rest) a w:=by
 obtain⟨V,z9,W,t,N,I,J,M,F⟩:=qsd
 rcases z with ⟨rfl,rfl⟩ | ⟨D,c,rfl,hc⟩
 ·refine wpList_plain q fun K Z=> ?_
  have hr:=run_append_owned_none (P:=Tryz.prog) (w:=w) base 58 o.type 71 V 38 Tryz.underlying58 t v L.length _ g;unfold Oper.wp execOp;simp only[R,resolve,invoke,builtin,Sem.run_bind,Sem.run_pure,Result.andThen_ok,List.map_toArray,List.map_cons,List.map_nil,T,U,hr];refine Z _ _ (h v w ?_ (Upd.refl _ _));rw[List.append_nil];exact g
 ·refine wpList_append_own_at (P:=Tryz.prog) w q s x 58 R base 71 V _ 38 W Tryz.underlying58 t N I J M (by decide) v L.length _ T g D ls.length c (ls.flatMap MsgV.cells) U (quo ls H) hc (q67 ls) (by unfold maxLen;omega) (by have:=Nat.mul_le_mul m F;omega) i ?_;intro E w' X Y _ h4;refine h E w' ?_ ((Upd.refl _ _).grown Y (fun k hk _=>qsh g k hk));unfold qc0;rw[List.length_append,List.flatMap_append];exact X
theorem qn8{w:World}{ls:List MsgV}{base:Nat}{v:Value}(m:∀l∈ls,l.hash.length=32)(h:w.ownsRow base 71 38 v ls.length (ls.flatMap MsgV.cells)) :
  (v = .slice none 0 0∧ls=[])∨∃o c',v = .slice (some o) ls.length c'∧∀j u,(ls.flatMap MsgV.cells)[j]? = some u→w.cell? (o.add j)=some u:=by
 rcases h.2 with ⟨e,e0⟩ | ⟨g,cap,t,e,C,E,D,_,F,H⟩
 ·exact .inl ⟨e,List.length_eq_zero_iff.1 e0⟩
 ·refine .inr ⟨⟨g,0,none⟩,cap,e,?_⟩;intro j u q;rw[e] at h;have i:=(List.getElem?_eq_some_iff.1 q).1;rw[quo ls m] at i;have:=World.ownsRow.cellAt h j i;have z:(⟨g,0,none⟩:Addr).add j=⟨g,j,none⟩:=by cases j<;>simp[Addr.add]
  rw[z,this];exact q
def qc5(c:Ch)(m:MsgV):Bool:=c.k.awaits&&decide (m.number=c.k.signed)
def qfj(c:Ch)(m:MsgV):Bool:=decide (0<c.k.heard)&&decide (m.id=c.k.heard-1)
def qcm(c:Ch)(m:MsgV):Int:=if qc5 c m=false∧m.number≠c.k.signed+1 then 140 else if qfj c m=false∧m.id≠c.k.heard then 140 else 0
def Ch.resaid(c:Ch)(i g:Bool):List MsgV:=(if g && !c.k.revoked then [c.revocation] else [])++((if i then c.last else [])++((if g&&c.k.revoked then [c.revocation] else [])++(if c.k.shutSaid then [qdl c.s.ch] else [])))
def Ch.hearAgain(c:Ch)(m:MsgV):List MsgV × Int:=if qcm c m=0 then (c.resaid (qc5 c m) (qfj c m),0) else ([],140)
attribute [local go_sem ↓ high] zy qak qaq qat zr zu zw zx qd4
attribute [local go_sem] qcl qdb qdn qgw zb qb3 qb9 qcf qbg qkw
set_option maxRecDepth 100000 in
set_option maxHeartbeats 4000000 in
theorem qte(g:Nat)(S:Nat→Prop)(c:Ch)(m:MsgV)(hm:MsgOk m)(w:World)(h:ChS w g S c)(hT:Tb w)(g2:c.last.length≤900000) :
  Calls Tryz.prog 87 #[.pointer (some ⟨g,0,none⟩),.agg m.cells.toArray] w (qhd g S w c (c.hearAgain m).1 (c.hearAgain m).2):=by
 have K:c.revocation.hash.length=32:=by
  obtain⟨_,_,_,hp⟩:=h;exact Ch.secret_len hp.ok _
 have a7:(qdl c.s.ch).hash.length=32:=qs
 have HS:=qb h
 have g8:¬w.heap.size≤g:=by
  obtain⟨_,_,_,hp⟩:=h;have:=hp.lt g hp.inG;omega
 obtain⟨lv,nv,av,h⟩:=h
 have H0:=qb h
 have f1:=h.ok.last
 go_enter Tryz.func87,Tryz.ntmps87
 go_upto_region 1 with fail
 have hA:=qbx w m hm.len
 have n1:qu w (w.alloc (.cells m.cells.toArray 71)):=(Upd.refl _ _).alloc _
 generalize w.alloc (.cells m.cells.toArray 71)=w1 at n1 hA ⊢
 generalize w.heap.size=A at hA ⊢
 have I:=h.new n1
 obtain⟨-,-,mi,-,-,mn,-⟩:=hA.cells
 have cS:w1.cell? ⟨g,37,none⟩=some (.int .i64 c.k.signed):=I.toR.signed
 have cH:w1.cell? ⟨g,38,none⟩=some (.int .i64 c.k.heard):=I.toR.heard
 have cW:w1.cell? ⟨g,39,none⟩=some (.bool c.k.awaits):=I.toR.awaits
 have cX:w1.cell? ⟨g,42,none⟩=some (.bool c.k.shutSaid):=I.toR.shutSaid
 have cR:w1.cell? ⟨g,44,none⟩=some (.bool c.k.revoked):=I.toR.revoked
 have cL:w1.cell? ⟨g,627,none⟩=some av:=by rw[qh I.at_ 627];exact qrf c lv nv av I.ok.s.seed I.ok.shelf
 have f8:=h.ok.signed
 have f7:=h.ok.heard
 have g1:IntKind.i64.wrap (c.k.signed+1)=c.k.signed+1:=qkj (by omega) (by omega)
 have f9:IntKind.u64.wrap c.k.heard=c.k.heard:=qaw (by omega) (by omega)
 have g0:IntKind.i64.wrap (c.k.heard-1)=c.k.heard-1:=qkj (by omega) (by omega)
 have f2:0<c.k.heard→IntKind.u64.wrap (c.k.heard-1)=c.k.heard-1:=fun _=>qaw (by omega) (by omega)
 have H1:=qb I
 have f3:=qb n1
 obtain⟨F,c0⟩:∃F,F=qc5 c m:=⟨_,rfl⟩
 obtain⟨z,c1⟩:∃z,z=qfj c m:=⟨_,rfl⟩
 have b6:=qb c0
 have b7:=qb c1
 have e8:c.hearAgain m=if qcm c m=0 then (c.resaid F z,0) else ([],140):=by rw[c0,c1];rfl
 have f0:qcm c m=if F=false∧m.number≠c.k.signed+1 then 140 else if z=false∧m.id≠c.k.heard then 140 else 0:=by rw[c0,c1];rfl
 have d7:=qb e8
 have d8:=qb f0
 have HA:=qb hA
 clear h I n1 hA c0 c1 e8 f0
 go_cut [6] from 9 to 24 (fun uv wx=>uv = .bool F∧qu w1 wx)
 case first =>
  cases ha:c.k.awaits with
  | false =>
   rw[ha] at cW;have e:F=false:=by rw[qa b6];unfold qc5;rw[ha];rfl
   subst e;go_wp2_with (with_reducible first|(first|refine' tw1 (qg ?_) ?_|refine' tw2 (qg ?_) ?_);rotate_left|refine' tw3 (qg ?_)|rfl|apply tn|refine' tw4 ?_);go_meet
   case rel=>exact⟨rfl,(Upd.refl _ _).drew⟩
  | true =>
   rw[ha] at cW;by_cases hn:m.number=c.k.signed
   ·have e:F=true:=by rw[qa b6];unfold qc5;rw[ha,decide_eq_true hn];rfl
    subst e;rw[hn] at mn;go_wp2_with (with_reducible first|(first|refine' tw1 (qg ?_) ?_|refine' tw2 (qg ?_) ?_);rotate_left|refine' tw3 (qg ?_)|rfl|apply tn|refine' tw4 ?_);go_meet
    case rel=>exact⟨rfl,(Upd.refl _ _).drew⟩
   ·have e:F=false:=by rw[qa b6];unfold qc5;rw[ha,decide_eq_false hn];rfl
    subst e;have d:(m.number==c.k.signed)=false:=beq_eq_false_iff_ne.2 hn;go_wp2_with (with_reducible first|(first|refine' tw1 (qg ?_) ?_|refine' tw2 (qg ?_) ?_);rotate_left|refine' tw3 (qg ?_)|rfl|apply tn|refine' tw4 ?_);go_meet
    case rel=>exact⟨rfl,(Upd.refl _ _).drew⟩
 case rest =>
  obtain⟨rfl,o⟩:=hcut;obtain⟨w2,rfl⟩:∃w2:World,w2=wc:=⟨_,rfl⟩;have mi:=o.cell mi (fun h=>h);have mn:=o.cell mn (fun h=>h);have cS:=o.cell cS (fun h=>h);have cH:=o.cell cH (fun h=>h);have cW:=o.cell cW (fun h=>h);have cX:=o.cell cX (fun h=>h);have cR:=o.cell cR (fun h=>h);have cL:=o.cell cL (fun h=>h);have d9:=qb ((qa f3).trans o);clear o HA;go_upto_region 2 with fail
  go_cut [7] from 24 to 42 (fun rv wx=>rv = .bool z∧qu w2 wx)
  case first =>
   by_cases h0:0<c.k.heard
   ·have hw:=f2 h0;by_cases hn:m.id=c.k.heard-1
    ·have e:z=true:=by rw[qa b7];unfold qfj;rw[decide_eq_true h0,decide_eq_true hn];rfl
     subst e;rw[hn] at mi;go_wp2_with (with_reducible first|(first|refine' tw1 (qg ?_) ?_|refine' tw2 (qg ?_) ?_);rotate_left|refine' tw3 (qg ?_)|rfl|apply tn|refine' tw4 ?_);go_meet
     case rel=>exact⟨rfl,(Upd.refl _ _).drew⟩
    ·have e:z=false:=by rw[qa b7];unfold qfj;rw[decide_eq_true h0,decide_eq_false hn];rfl
     subst e;have d:(m.id==c.k.heard-1)=false:=beq_eq_false_iff_ne.2 hn;go_wp2_with (with_reducible first|(first|refine' tw1 (qg ?_) ?_|refine' tw2 (qg ?_) ?_);rotate_left|refine' tw3 (qg ?_)|rfl|apply tn|refine' tw4 ?_);go_meet
     case rel=>exact⟨rfl,(Upd.refl _ _).drew⟩
   ·have e:z=false:=by rw[qa b7];unfold qfj;rw[decide_eq_false h0];rfl
    subst e;have g7:decide (0<c.k.heard)=false:=decide_eq_false h0;go_wp2_with (with_reducible first|(first|refine' tw1 (qg ?_) ?_|refine' tw2 (qg ?_) ?_);rotate_left|refine' tw3 (qg ?_)|rfl|apply tn|refine' tw4 ?_);go_meet
    case rel=>exact⟨rfl,(Upd.refl _ _).drew⟩
  case rest =>
   obtain⟨rfl,o⟩:=hcut;obtain⟨w3,rfl⟩:∃w3:World,w3=wc:=⟨_,rfl⟩;have mi:=o.cell mi (fun h=>h);have mn:=o.cell mn (fun h=>h);have cS:=o.cell cS (fun h=>h);have cH:=o.cell cH (fun h=>h);have cX:=o.cell cX (fun h=>h);have cR:=o.cell cR (fun h=>h);have cL:=o.cell cL (fun h=>h);have e0:=qb ((qa d9).trans o);clear o cW b6 b7;obtain⟨M,b8⟩:∃M,M=c.revocation:=⟨_,rfl⟩;rw[←b8] at K;have c6:∀W,qu w W→Calls Tryz.prog 110 #[.pointer (some ⟨g,0,none⟩)] W (qbr (.agg M.cells.toArray) W):=fun W n=>by
    rw[b8];exact qle g S c W ((qa HS).new n) (hT.new n).tabs
   have a6:∀W,qu w W→Calls Tryz.prog 88 #[.pointer (some ⟨g,0,none⟩)] W (qbr (.agg (qdl c.s.ch).cells.toArray) W):=fun W n=>by
    obtain⟨a1,a2,a3,hp⟩:=(qa HS).new n;exact q7v g _ W hp.toR
   have a5:∀W,qu w W→q3r W av c.last:=fun W n=>((qa H0).new n).last
   have c4:∀W,qu w W→qcm c m=140→qhd g S w c (c.hearAgain m).1 (c.hearAgain m).2 (.returned (.tuple #[.slice none 0 0,.int .i64 140])) W:=fun W n e=>by
    have e2:c.hearAgain m=([],140):=by rw[qa d7,e,if_neg (by decide)]
    rw[e2];exact⟨qcd,rfl,qc0.nil _ _,((qa HS).new n).frW,n.mono (fun _ _ h=>h.elim)⟩
   have a4:∀W v l,qu w W→qcm c m=0→c.resaid F z=l→qc0 w.heap.size W v l→qhd g S w c (c.hearAgain m).1 (c.hearAgain m).2 (.returned (.tuple #[v,.int .i64 0])) W:=fun W v l n e el hv=>by
    have e2:c.hearAgain m=(l,0):=by rw[qa d7,e,if_pos rfl,el]
    rw[e2];exact⟨v,rfl,hv,((qa HS).new n).frW,n.mono (fun _ _ h=>h.elim)⟩
   obtain⟨SM,d1⟩:∃SM,SM=qdl c.s.ch:=⟨_,rfl⟩;rw[←d1] at a6 a7;have f6:=qb d1;clear d1;have g9:=M.len K;have h3:=SM.len a7;have e6:=qb b8;have c3:=qb c6;have e7:=qb a6;have c7:=qb a5;have P:=qb c4;have R:=qb a4;clear b8 c6 a6 a5 c4 a4;obtain⟨t1,d4⟩:∃t1,t1=(!F && !(m.number==c.k.signed+1)):=⟨_,rfl⟩;obtain⟨t2,d5⟩:∃t2,t2=(!z && !(m.id==c.k.heard)):=⟨_,rfl⟩;have b5:=qb (show (t1=true→qcm c m=140)∧(t1=false→t2=true→qcm c m=140)∧(t1=false→t2=false→qcm c m=0) by
    rw[qa d8,d4,d5];cases F<;>cases z<;>by_cases I:m.number=c.k.signed+1<;>by_cases h2:m.id=c.k.heard<;>simp[I,h2])
   have c9:=qb d4;have d0:=qb d5;have e9:∀W,qu w W→W.cell? ⟨g,42,none⟩=some (.bool c.k.shutSaid)∧W.cell? ⟨g,44,none⟩=some (.bool c.k.revoked)∧W.cell? ⟨g,627,none⟩=some av:=fun W n=>by
    have I:=(qa H0).new n;exact⟨I.toR.shutSaid,I.toR.revoked,by rw[qh I.at_ 627];exact qrf c lv nv av I.ok.s.seed I.ok.shelf⟩
   have a8:=qb e9;clear d4 d5 e9 cX cR cL d8;go_upto_region 3 with fail
   go_cut [54] from 42 to 54 (fun bv wx=>bv = .bool t1∧qu w3 wx)
   case first =>
    cases F with
    | true =>
     obtain rfl:t1=false:=qa c9;go_wp2_with (with_reducible first|(first|refine' tw1 (qg ?_) ?_|refine' tw2 (qg ?_) ?_);rotate_left|refine' tw3 (qg ?_)|rfl|apply tn|refine' tw4 ?_);go_meet
     case rel=>exact⟨rfl,(Upd.refl _ _).drew⟩
    | false =>
     obtain rfl:t1 = !(m.number==c.k.signed+1):=qa c9;go_wp2_with (with_reducible first|(first|refine' tw1 (qg ?_) ?_|refine' tw2 (qg ?_) ?_);rotate_left|refine' tw3 (qg ?_)|rfl|apply tn|refine' tw4 ?_);go_meet
     case rel=>exact⟨rfl,(Upd.refl _ _).drew⟩
   case rest =>
    obtain⟨rfl,o⟩:=hcut;obtain⟨w4,rfl⟩:∃w4:World,w4=wc:=⟨_,rfl⟩;have a9:=qb ((qa e0).trans o);have mi:=o.cell mi (fun h=>h);have cH:=o.cell cH (fun h=>h);clear o mn cS g1 g0 f2 f8 e0 d9 c9;cases t1 with
    | true =>
     go_wp2_with (with_reducible first|(first|refine' tw1 (qg ?_) ?_|refine' tw2 (qg ?_) ?_);rotate_left|refine' tw3 (qg ?_)|rfl|apply tn|refine' tw4 ?_);go_ret2;exact qa P _ (qa a9) ((qa b5).1 (by trivial))
    | false =>
     go_upto_region 5 with fail
     go_cut [67] from 55 to 67 (fun bv wx=>bv = .bool t2∧qu w wx)
     case first =>
      cases z with
      | true =>
       obtain rfl:t2=false:=qa d0;go_wp2_with (with_reducible first|(first|refine' tw1 (qg ?_) ?_|refine' tw2 (qg ?_) ?_);rotate_left|refine' tw3 (qg ?_)|rfl|apply tn|refine' tw4 ?_);go_meet
       case rel=>exact⟨rfl,(qa a9).drew⟩
      | false =>
       obtain rfl:t2 = !(m.id==c.k.heard):=qa d0;go_wp2_with (with_reducible first|(first|refine' tw1 (qg ?_) ?_|refine' tw2 (qg ?_) ?_);rotate_left|refine' tw3 (qg ?_)|rfl|apply tn|refine' tw4 ?_);go_meet
       case rel=>exact⟨rfl,(qa a9).drew⟩
     case rest =>
      obtain⟨rfl,o⟩:=hcut;obtain⟨w5,rfl⟩:∃w5:World,w5=wc:=⟨_,rfl⟩;have c8:=qb o;clear o mi cH f9 f7 d0 HS H1 a9;cases t2 with
      | true =>
       go_wp2_with (with_reducible first|(first|refine' tw1 (qg ?_) ?_|refine' tw2 (qg ?_) ?_);rotate_left|refine' tw3 (qg ?_)|rfl|apply tn|refine' tw4 ?_);go_ret2;exact qa P _ (qa c8) ((qa b5).2.1 (by trivial) (by trivial))
      | false =>
       have c5:=(qa b5).2.2 (by trivial) (by trivial);have f4:Hid (qc0 w.heap.size w5 (.slice none 0 0) []):=qb (qc0.nil _ _);clear P b5;have g3:([]:List MsgV).length≤0:=Nat.le_refl _;have cR:=(qa a8 _ (qa c8)).2.1;go_upto_region 8 with fail
       go_cut [7,76] from 68 to 76 (fun rv bv wx=>rv = .bool z∧bv = .bool (z && !c.k.revoked)∧qu w5 wx)
       case first =>
        cases z with
        | true =>
         go_wp2_with (with_reducible first|(first|refine' tw1 (qg ?_) ?_|refine' tw2 (qg ?_) ?_);rotate_left|refine' tw3 (qg ?_)|rfl|apply tn|refine' tw4 ?_);go_meet
         case rel=>exact⟨rfl,rfl,by first | exact(Upd.refl _ _).drew | exact Upd.refl _ _⟩
        | false =>
         go_wp2_with (with_reducible first|(first|refine' tw1 (qg ?_) ?_|refine' tw2 (qg ?_) ?_);rotate_left|refine' tw3 (qg ?_)|rfl|apply tn|refine' tw4 ?_);go_meet
         case rel=>exact⟨rfl,rfl,by first | exact(Upd.refl _ _).drew | exact Upd.refl _ _⟩
       case rest =>
        obtain⟨rfl,rfl,o⟩:=hcut;obtain⟨w6,rfl⟩:∃w6:World,w6=wc:=⟨_,rfl⟩;have b3:=qb ((qa c8).trans o);have e3:=qb (zc (qa f4) o (fun _ _ h=>h));clear o cR;go_upto_if 76 with fail
        go_cut [6,7,8] from 76 to 82 (fun uv rv v wx=>(uv = .bool F∧rv = .bool z)∧qc0 w.heap.size wx v ([]++if z && !c.k.revoked then [M] else [])∧qu w wx)
        case first =>
         cases N:(z && !c.k.revoked) with
         | false =>
          go_wp2_with (with_reducible first|(first|refine' tw1 (qg ?_) ?_|refine' tw2 (qg ?_) ?_);rotate_left|refine' tw3 (qg ?_)|rfl|apply tn|refine' tw4 ?_);go_meet
          case rel=>exact⟨⟨by first | rfl | rw[N],rfl⟩,by rw[N,if_neg (by decide),List.append_nil];exact qa e3,qa b3⟩
         | true =>
          go_wp2_with (with_reducible first|(first|refine' tw1 (qg ?_) ?_|refine' tw2 (qg ?_) ?_);rotate_left|refine' tw3 (qg ?_)|rfl|apply tn|refine' tw4 ?_);refine(qa c3 w6 (qa b3)).mono ?_;rintro e wa ⟨rfl,O⟩;have D:w.heap.size≤wa.heap.size:=((qa b3).trans O).size;have q:=qb (qn8 (ls:=[M]) (fun l hl=>by rw[List.mem_singleton.1 hl];exact K) (qn5 (w:=wa) K w.heap.size D));have t:qu wa (wa.alloc (.cells M.cells.toArray 71)):=(Upd.refl _ _).alloc _;have V:Hid (qc0 w.heap.size _ (.slice none 0 0) []):=qb (zc (qa e3) (O.trans t) (fun _ _ h=>h));have U:=qb (((qa b3).trans O).trans t);have C:=qb (Nat.le_trans D t.size);clear t O D;go_wp2_with (first | (at_builtin;refine qh0 rfl (.tmp 77) (.tmp 80) rfl w.heap.size (.slice none 0 0) _ (by go_simp) (qa V) [M] (fun l hl=>by rw[List.mem_singleton.1 hl];exact K) _ (by go_simp) (qa q) ?few (qa C) ?_) | (with_reducible first|(first|refine' tw1 (qg ?_) ?_|refine' tw2 (qg ?_) ?_);rotate_left|refine' tw3 (qg ?_)|rfl|apply tn|refine' tw4 ?_))
          case few=>simp only[List.length_cons,List.length_nil];omega
          intro va wb Y Z;have E:=(qa U).then Z (fun i hi e=>by omega);have HO:=qb Y;have L:=qb E;clear Y Z E q C;go_wp2_with (with_reducible first|(first|refine' tw1 (qg ?_) ?_|refine' tw2 (qg ?_) ?_);rotate_left|refine' tw3 (qg ?_)|rfl|apply tn|refine' tw4 ?_);go_meet
          case rel=>exact⟨⟨by first | rfl | rw[N],rfl⟩,by rw[N,if_pos rfl];exact qa HO,qa L⟩
        case rest =>
         obtain⟨⟨rfl,rfl⟩,ho,o⟩:=hcut;obtain⟨w7,rfl⟩:∃w7:World,w7=wc:=⟨_,rfl⟩;obtain⟨la,d2,g4⟩:∃l,l=[]++(if z && !c.k.revoked then [M] else [])∧l.length≤1:=⟨_,rfl,by rw[List.length_append];split<;>(try simp)<;>omega⟩;rw[←d2] at ho;have Hla:=qb d2;have e4:=qb ho;have T:=qb o;clear ho o d2;go_upto_if 82 with fail
         go_cut [6,7,8] from 82 to 89 (fun uv rv v wx=>(uv = .bool F∧rv = .bool z)∧qc0 w.heap.size wx v (la++if F then c.last else [])∧qu w wx)
         case first =>
          cases N:(F) with
          | false =>
           go_wp2_with (with_reducible first|(first|refine' tw1 (qg ?_) ?_|refine' tw2 (qg ?_) ?_);rotate_left|refine' tw3 (qg ?_)|rfl|apply tn|refine' tw4 ?_);go_meet
           case rel=>exact⟨⟨by first | rfl | rw[N],rfl⟩,by rw[N,if_neg (by decide),List.append_nil];exact qa e4,qa T⟩
          | true =>
           have cL:=(qa a8 _ (qa T)).2.2;have q:=qb (qn8 f1 (qa c7 w7 (qa T)));have C:=qb (qa T).size;go_wp2_with (first | (at_builtin;refine qh0 rfl (.tmp 83) (.tmp 87) rfl w.heap.size _ _ (by go_simp) (qa e4) c.last f1 _ (by go_simp) (qa q) ?few (qa C) ?_) | (with_reducible first|(first|refine' tw1 (qg ?_) ?_|refine' tw2 (qg ?_) ?_);rotate_left|refine' tw3 (qg ?_)|rfl|apply tn|refine' tw4 ?_))
           case few=>omega
           intro va wb Y Z;have E:=(qa T).then Z (fun i hi e=>by omega);have HO:=qb Y;have L:=qb E;clear Y Z E q C;go_wp2_with (with_reducible first|(first|refine' tw1 (qg ?_) ?_|refine' tw2 (qg ?_) ?_);rotate_left|refine' tw3 (qg ?_)|rfl|apply tn|refine' tw4 ?_);go_meet
           case rel=>exact⟨⟨by first | rfl | rw[N],rfl⟩,by rw[N,if_pos rfl];exact qa HO,qa L⟩
         case rest =>
          obtain⟨⟨rfl,rfl⟩,ho,o⟩:=hcut;obtain⟨w8,rfl⟩:∃w8:World,w8=wc:=⟨_,rfl⟩;obtain⟨lb,d3,g5⟩:∃l,l=la++(if F then c.last else [])∧l.length≤900001:=⟨_,rfl,by rw[List.length_append];split<;>(try simp)<;>omega⟩;rw[←d3] at ho;have Hlb:=qb d3;have f5:=qb ho;have e1:=qb o;clear ho o d3;have cR:=(qa a8 _ (qa e1)).2.1;go_upto_region 12 with fail
          go_cut [7,96] from 89 to 96 (fun rv bv wx=>rv = .bool z∧bv = .bool (z&&c.k.revoked)∧qu w8 wx)
          case first =>
           cases z with
           | true =>
            go_wp2_with (with_reducible first|(first|refine' tw1 (qg ?_) ?_|refine' tw2 (qg ?_) ?_);rotate_left|refine' tw3 (qg ?_)|rfl|apply tn|refine' tw4 ?_);go_meet
            case rel=>exact⟨rfl,rfl,by first | exact(Upd.refl _ _).drew | exact Upd.refl _ _⟩
           | false =>
            go_wp2_with (with_reducible first|(first|refine' tw1 (qg ?_) ?_|refine' tw2 (qg ?_) ?_);rotate_left|refine' tw3 (qg ?_)|rfl|apply tn|refine' tw4 ?_);go_meet
            case rel=>exact⟨rfl,rfl,by first | exact(Upd.refl _ _).drew | exact Upd.refl _ _⟩
          case rest =>
           obtain⟨rfl,rfl,o⟩:=hcut;obtain⟨w9,rfl⟩:∃w9:World,w9=wc:=⟨_,rfl⟩;have b4:=qb ((qa e1).trans o);have e5:=qb (zc (qa f5) o (fun _ _ h=>h));clear o cR;go_upto_if 96 with fail
           go_cut [6,7,8] from 96 to 102 (fun uv rv v wx=>(uv = .bool F∧rv = .bool z)∧qc0 w.heap.size wx v (lb++if z&&c.k.revoked then [M] else [])∧qu w wx)
           case first =>
            cases N:(z&&c.k.revoked) with
            | false =>
             go_wp2_with (with_reducible first|(first|refine' tw1 (qg ?_) ?_|refine' tw2 (qg ?_) ?_);rotate_left|refine' tw3 (qg ?_)|rfl|apply tn|refine' tw4 ?_);go_meet
             case rel=>exact⟨⟨by first | rfl | rw[N],rfl⟩,by rw[N,if_neg (by decide),List.append_nil];exact qa e5,qa b4⟩
            | true =>
             go_wp2_with (with_reducible first|(first|refine' tw1 (qg ?_) ?_|refine' tw2 (qg ?_) ?_);rotate_left|refine' tw3 (qg ?_)|rfl|apply tn|refine' tw4 ?_);refine(qa c3 w9 (qa b4)).mono ?_;rintro e wa ⟨rfl,O⟩;have D:w.heap.size≤wa.heap.size:=((qa b4).trans O).size;have q:=qb (qn8 (ls:=[M]) (fun l hl=>by rw[List.mem_singleton.1 hl];exact K) (qn5 (w:=wa) K w.heap.size D));have t:qu wa (wa.alloc (.cells M.cells.toArray 71)):=(Upd.refl _ _).alloc _;have V:Hid (qc0 w.heap.size _ _ lb):=qb (zc (qa e5) (O.trans t) (fun _ _ h=>h));have U:=qb (((qa b4).trans O).trans t);have C:=qb (Nat.le_trans D t.size);clear t O D;go_wp2_with (first | (at_builtin;refine qh0 rfl (.tmp 97) (.tmp 100) rfl w.heap.size _ _ (by go_simp) (qa V) [M] (fun l hl=>by rw[List.mem_singleton.1 hl];exact K) _ (by go_simp) (qa q) ?few (qa C) ?_) | (with_reducible first|(first|refine' tw1 (qg ?_) ?_|refine' tw2 (qg ?_) ?_);rotate_left|refine' tw3 (qg ?_)|rfl|apply tn|refine' tw4 ?_))
             case few=>simp only[List.length_cons,List.length_nil];omega
             intro va wb Y Z;have E:=(qa U).then Z (fun i hi e=>by omega);have HO:=qb Y;have L:=qb E;clear Y Z E q C;go_wp2_with (with_reducible first|(first|refine' tw1 (qg ?_) ?_|refine' tw2 (qg ?_) ?_);rotate_left|refine' tw3 (qg ?_)|rfl|apply tn|refine' tw4 ?_);go_meet
             case rel=>exact⟨⟨by first | rfl | rw[N],rfl⟩,by rw[N,if_pos rfl];exact qa HO,qa L⟩
           case rest =>
            obtain⟨⟨rfl,rfl⟩,ho,o⟩:=hcut;obtain⟨d6,rfl⟩:∃d6:World,d6=wc:=⟨_,rfl⟩;obtain⟨lc,H,g6⟩:∃l,l=lb++(if z&&c.k.revoked then [M] else [])∧l.length≤900002:=⟨_,rfl,by rw[List.length_append];split<;>(try simp)<;>omega⟩;rw[←H] at ho;have Hlc:=qb H;have c2:=qb ho;have J:=qb o;clear ho o H;have cX:=(qa a8 _ (qa J)).1;have H:=qa Hlc;rw[qa Hlb,qa Hla] at H;cases b9:c.k.shutSaid with
            | false =>
             rw[b9] at cX;have X:=qb (show c.resaid F z=lc by
              unfold Ch.resaid;rw[b9,←qa e6,H];simp)
             clear H;go_wp2_with (with_reducible first|(first|refine' tw1 (qg ?_) ?_|refine' tw2 (qg ?_) ?_);rotate_left|refine' tw3 (qg ?_)|rfl|apply tn|refine' tw4 ?_);go_ret2;exact qa R _ _ _ (qa J) c5 (qa X) (qa c2)
            | true =>
             rw[b9] at cX;have X:=qb (show c.resaid F z=lc++[SM] by
              unfold Ch.resaid;rw[b9,←qa e6,←qa f6,H];simp)
             clear H;go_wp2_with (with_reducible first|(first|refine' tw1 (qg ?_) ?_|refine' tw2 (qg ?_) ?_);rotate_left|refine' tw3 (qg ?_)|rfl|apply tn|refine' tw4 ?_);refine(qa e7 d6 (qa J)).mono ?_;rintro e wa ⟨rfl,O⟩;have D:w.heap.size≤wa.heap.size:=((qa J).trans O).size;have q:=qb (qn8 (ls:=[SM]) (fun l hl=>by rw[List.mem_singleton.1 hl];exact a7) (qn5 (w:=wa) a7 w.heap.size D));have t:qu wa (wa.alloc (.cells SM.cells.toArray 71)):=(Upd.refl _ _).alloc _;have V:Hid (qc0 w.heap.size _ _ lc):=qb (zc (qa c2) (O.trans t) (fun _ _ h=>h));have U:=qb (((qa J).trans O).trans t);have C:=qb (Nat.le_trans D t.size);clear t O D;go_wp2_with (first | (at_builtin;refine qh0 rfl (.tmp 107) (.tmp 110) rfl w.heap.size _ _ (by go_simp) (qa V) [SM] (fun l hl=>by rw[List.mem_singleton.1 hl];exact a7) _ (by go_simp) (qa q) ?few (qa C) ?_) | (with_reducible first|(first|refine' tw1 (qg ?_) ?_|refine' tw2 (qg ?_) ?_);rotate_left|refine' tw3 (qg ?_)|rfl|apply tn|refine' tw4 ?_))
             case few=>simp only[List.length_cons,List.length_nil];omega
             intro va wb Y Z;have E:=(qa U).then Z (fun i hi e=>by omega);have HO:=qb Y;have L:=qb E;clear Y Z E q C;go_wp2_with (with_reducible first|(first|refine' tw1 (qg ?_) ?_|refine' tw2 (qg ?_) ?_);rotate_left|refine' tw3 (qg ?_)|rfl|apply tn|refine' tw4 ?_);go_ret2;exact qa R _ _ _ (qa L) c5 (qa X) (qa HO)
end Go.Proofs.YthnohmjbbeahmaaGreatDoor
