/-
  hearAgain (printed by tools/mk_hag.py).
-/
import Derived.Test.YtfmkdoachjgjbaaGreatDoorMdc
import Derived.Laws.OwnMore
set_option maxRecDepth 100000
set_option maxHeartbeats 4000000
set_option linter.unusedVariables false
set_option linter.unusedSimpArgs false
namespace Go.Proofs.YtfmkdoachjgjbaaGreatDoor
open Go.RowKit
theorem qqa(ls:List MsgV)(h:∀l∈ls,l.hash.length=32):(ls.flatMap MsgV.cells).length=ls.length*38:=by
 induction ls with
 | nil=>rfl
 | cons x xs m =>
  rw[List.flatMap_cons,List.length_append,m (fun l i=>h l (List.mem_cons_of_mem _ i)),x.len (h x List.mem_cons_self),List.length_cons,Nat.succ_mul];omega
theorem q0n(ls:List MsgV):∀u∈ls.flatMap MsgV.cells,u.oneCell'=true:=by
 intro u m;obtain⟨l,-,i⟩:=List.mem_flatMap.1 m;exact l.one u i
theorem qfm{w:World}{C:Array Oper}{rest:List Oper}{o:Oper}{a:Act}{Q:Exit→Act→World→Prop}(t:o.guard=none)(s x:Operand)
  (T:o.op = .call {callee:= .builtin .append,args:=#[s,x],argTypes:=#[124,124]})
  (base:Nat) (v:Value) (L:List MsgV) (U:a.eval s=v) (i:qbp base w v L)
  (ls:List MsgV) (I:∀l∈ls,l.hash.length=32) (R:Value) (V:a.eval x=R)
  (z:(R = .slice none 0 0∧ls=[])∨∃D c,R = .slice (some D) ls.length c∧∀j u,(ls.flatMap MsgV.cells)[j]? = some u→w.cell? (D.add j)=some u)
  (q:L.length+ls.length≤1000000) (m:base≤w.heap.size)
  (h:∀E w',qbp base w' E (L++ls)→Upd (fun k=>base≤k) w w'→wpList Tryz.prog C Q rest (a.put o.dst E) w') :
  wpList Tryz.prog C Q (o::rest) a w:=by
 obtain⟨W,z9,X,y,O,J,M,N,H⟩:=qua
 rcases z with ⟨rfl,rfl⟩ | ⟨D,c,rfl,hc⟩
 ·refine wpList_plain t fun K hK=> ?_
  have hr:=run_append_owned_none (P:=Tryz.prog) (w:=w) base 124 o.type 101 W 38 Tryz.underlying124 y v L.length _ i;unfold Oper.wp execOp;simp only[T,resolve,invoke,builtin,Sem.run_bind,Sem.run_pure,Result.andThen_ok,List.map_toArray,List.map_cons,List.map_nil,U,V,hr];refine hK _ _ (h v w ?_ (Upd.refl _ _));rw[List.append_nil];exact i
 ·refine wpList_append_own_at (P:=Tryz.prog) w t s x 124 T base 101 W _ 38 X Tryz.underlying124 y O J M N (by decide) v L.length _ U i D ls.length c (ls.flatMap MsgV.cells) V (qqa ls I) hc (q0n ls) (by unfold maxLen;omega) (by have:=Nat.mul_le_mul q H;omega) m ?_;intro E w' Y Z _ h4;refine h E w' ?_ ((Upd.refl _ _).grown Z (fun k hk _=>qkp i k hk));unfold qbp;rw[List.length_append,List.flatMap_append];exact Y
theorem qj4{w:World}{ls:List MsgV}{base:Nat}{v:Value}(m:∀l∈ls,l.hash.length=32)(h:w.ownsRow base 101 38 v ls.length (ls.flatMap MsgV.cells)) :
  (v = .slice none 0 0∧ls=[])∨∃o c',v = .slice (some o) ls.length c'∧∀j u,(ls.flatMap MsgV.cells)[j]? = some u→w.cell? (o.add j)=some u:=by
 rcases h.2 with ⟨e,e0⟩ | ⟨g,cap,t,e,y,C,z,_,D,E⟩
 ·exact .inl ⟨e,List.length_eq_zero_iff.1 e0⟩
 ·refine .inr ⟨⟨g,0,none⟩,cap,e,?_⟩;intro j u q;rw[e] at h;have i:=(List.getElem?_eq_some_iff.1 q).1;rw[qqa ls m] at i;have:=World.ownsRow.cellAt h j i;have x:(⟨g,0,none⟩:Addr).add j=⟨g,j,none⟩:=by cases j<;>simp[Addr.add]
  rw[x,this];exact q
def qgp(c:Ch)(m:MsgV):Bool:=c.k.awaits&&decide (m.number=c.k.signed)
def qkz(c:Ch)(m:MsgV):Bool:=decide (0<c.k.heard)&&decide (m.id=c.k.heard-1)
def qek(c:Ch)(m:MsgV):Int:=if qgp c m=false∧m.number≠c.k.signed+1 then 140 else if qkz c m=false∧m.id≠c.k.heard then 140 else 0
def Ch.resaid(c:Ch)(i ur:Bool):List MsgV:=(if ur && !c.k.revoked then [c.revocation] else [])++((if i then c.last else [])++((if ur&&c.k.revoked then [c.revocation] else [])++(if c.k.shutSaid then [qbo c.s.ch] else [])))
def Ch.hearAgain(c:Ch)(m:MsgV):List MsgV × Int:=if qek c m=0 then (c.resaid (qgp c m) (qkz c m),0) else ([],140)
attribute [local go_sem ↓ high] zl qaf qah qa1 ze zf zg zj qak
attribute [local go_sem] qa9 qb3 qb7 qdp qy qau qav qaw zz qck
theorem qoz(g:Nat)(S:Nat→Prop)(c:Ch)(m:MsgV)(hm:MsgOk m)(w:World)(h:ChS w g S c)(hT:Tb w)(g3:c.last.length≤900000) :
  Calls Tryz.prog 182 #[.pointer (some ⟨g,0,none⟩),.agg m.cells.toArray] w (qdx g S w c (c.hearAgain m).1 (c.hearAgain m).2):=by
 have I:c.revocation.hash.length=32:=by
  obtain⟨_,_,_,hp⟩:=h;exact Ch.secret_len hp.ok _
 have b0:(qbo c.s.ch).hash.length=32:=qu
 have HS:=qj h
 have g9:¬w.heap.size≤g:=by
  obtain⟨_,_,_,hp⟩:=h;have:=hp.lt g hp.inG;omega
 obtain⟨lv,nv,av,h⟩:=h
 have H0:=qj h
 have f2:=h.ok.last
 go_enter Tryz.func182,Tryz.ntmps182
 go_upto_region 1 with fail
 have hA:=qa6 w m hm.len
 have n1:qq w (w.alloc (.cells m.cells.toArray 101)):=(Upd.refl _ _).alloc _
 generalize w.alloc (.cells m.cells.toArray 101)=w1 at n1 hA ⊢
 generalize w.heap.size=A at hA ⊢
 have E:=h.new n1
 obtain⟨-,-,mi,-,-,mn,-⟩:=hA.cells
 have cS:w1.cell? ⟨g,37,none⟩=some (.int .i64 c.k.signed):=E.toR.signed
 have cH:w1.cell? ⟨g,38,none⟩=some (.int .i64 c.k.heard):=E.toR.heard
 have cW:w1.cell? ⟨g,39,none⟩=some (.bool c.k.awaits):=E.toR.awaits
 have cX:w1.cell? ⟨g,42,none⟩=some (.bool c.k.shutSaid):=E.toR.shutSaid
 have cR:w1.cell? ⟨g,44,none⟩=some (.bool c.k.revoked):=E.toR.revoked
 have cL:w1.cell? ⟨g,627,none⟩=some av:=by rw[qk E.at_ 627];exact qne c lv nv av E.ok.s.seed E.ok.shelf
 have f9:=h.ok.signed
 have f8:=h.ok.heard
 have g2:IntKind.i64.wrap (c.k.signed+1)=c.k.signed+1:=qgq (by omega) (by omega)
 have g0:IntKind.u64.wrap c.k.heard=c.k.heard:=qdl (by omega) (by omega)
 have g1:IntKind.i64.wrap (c.k.heard-1)=c.k.heard-1:=qgq (by omega) (by omega)
 have f3:0<c.k.heard→IntKind.u64.wrap (c.k.heard-1)=c.k.heard-1:=fun _=>qdl (by omega) (by omega)
 have H1:=qj E
 have f4:=qj n1
 obtain⟨C,c0⟩:∃C,C=qgp c m:=⟨_,rfl⟩
 obtain⟨ur,c1⟩:∃ur,ur=qkz c m:=⟨_,rfl⟩
 have b6:=qj c0
 have b7:=qj c1
 have e9:c.hearAgain m=if qek c m=0 then (c.resaid C ur,0) else ([],140):=by rw[c0,c1];rfl
 have f1:qek c m=if C=false∧m.number≠c.k.signed+1 then 140 else if ur=false∧m.id≠c.k.heard then 140 else 0:=by rw[c0,c1];rfl
 have d7:=qj e9
 have d8:=qj f1
 have HA:=qj hA
 clear h E n1 hA c0 c1 e9 f1
 go_cut [6] from 9 to 24 (fun uv wx=>uv = .bool C∧qq w1 wx)
 case first =>
  cases ha:c.k.awaits with
  | false =>
   rw[ha] at cW;have e:C=false:=by rw[qg b6];unfold qgp;rw[ha];rfl
   subst e;go_wp2_with ((with_reducible first|rfl|refine' ut ?_ ?_;rotate_left|refine' uu ?_)<;>intros);go_meet
   case rel=>exact⟨rfl,(Upd.refl _ _).drew⟩
  | true =>
   rw[ha] at cW;by_cases hn:m.number=c.k.signed
   ·have e:C=true:=by rw[qg b6];unfold qgp;rw[ha,decide_eq_true hn];rfl
    subst e;rw[hn] at mn;go_wp2_with ((with_reducible first|rfl|refine' ut ?_ ?_;rotate_left|refine' uu ?_)<;>intros);go_meet
    case rel=>exact⟨rfl,(Upd.refl _ _).drew⟩
   ·have e:C=false:=by rw[qg b6];unfold qgp;rw[ha,decide_eq_false hn];rfl
    subst e;have d:(m.number==c.k.signed)=false:=beq_eq_false_iff_ne.2 hn;go_wp2_with ((with_reducible first|rfl|refine' ut ?_ ?_;rotate_left|refine' uu ?_)<;>intros);go_meet
    case rel=>exact⟨rfl,(Upd.refl _ _).drew⟩
 case rest =>
  obtain⟨rfl,o⟩:=hcut;obtain⟨w2,rfl⟩:∃w2:World,w2=wc:=⟨_,rfl⟩;have mi:=o.cell mi (fun h=>h);have mn:=o.cell mn (fun h=>h);have cS:=o.cell cS (fun h=>h);have cH:=o.cell cH (fun h=>h);have cW:=o.cell cW (fun h=>h);have cX:=o.cell cX (fun h=>h);have cR:=o.cell cR (fun h=>h);have cL:=o.cell cL (fun h=>h);have d9:=qj ((qg f4).trans o);clear o HA;go_upto_region 2 with fail
  go_cut [7] from 24 to 42 (fun rv wx=>rv = .bool ur∧qq w2 wx)
  case first =>
   by_cases h0:0<c.k.heard
   ·have hw:=f3 h0;by_cases hn:m.id=c.k.heard-1
    ·have e:ur=true:=by rw[qg b7];unfold qkz;rw[decide_eq_true h0,decide_eq_true hn];rfl
     subst e;rw[hn] at mi;go_wp2_with ((with_reducible first|rfl|refine' ut ?_ ?_;rotate_left|refine' uu ?_)<;>intros);go_meet
     case rel=>exact⟨rfl,(Upd.refl _ _).drew⟩
    ·have e:ur=false:=by rw[qg b7];unfold qkz;rw[decide_eq_true h0,decide_eq_false hn];rfl
     subst e;have d:(m.id==c.k.heard-1)=false:=beq_eq_false_iff_ne.2 hn;go_wp2_with ((with_reducible first|rfl|refine' ut ?_ ?_;rotate_left|refine' uu ?_)<;>intros);go_meet
     case rel=>exact⟨rfl,(Upd.refl _ _).drew⟩
   ·have e:ur=false:=by rw[qg b7];unfold qkz;rw[decide_eq_false h0];rfl
    subst e;have g8:decide (0<c.k.heard)=false:=decide_eq_false h0;go_wp2_with ((with_reducible first|rfl|refine' ut ?_ ?_;rotate_left|refine' uu ?_)<;>intros);go_meet
    case rel=>exact⟨rfl,(Upd.refl _ _).drew⟩
  case rest =>
   obtain⟨rfl,o⟩:=hcut;obtain⟨w3,rfl⟩:∃w3:World,w3=wc:=⟨_,rfl⟩;have mi:=o.cell mi (fun h=>h);have mn:=o.cell mn (fun h=>h);have cS:=o.cell cS (fun h=>h);have cH:=o.cell cH (fun h=>h);have cX:=o.cell cX (fun h=>h);have cR:=o.cell cR (fun h=>h);have cL:=o.cell cL (fun h=>h);have e1:=qj ((qg d9).trans o);clear o cW b6 b7;obtain⟨K,b8⟩:∃K,K=c.revocation:=⟨_,rfl⟩;rw[←b8] at I;have c6:∀W,qq w W→Calls Tryz.prog 205 #[.pointer (some ⟨g,0,none⟩)] W (qar (.agg K.cells.toArray) W):=fun W n=>by
    rw[b8];exact qh5 g S c W ((qg HS).new n) (hT.new n).tabs
   have a8:∀W,qq w W→Calls Tryz.prog 117 #[.pointer (some ⟨g,0,none⟩)] W (qar (.agg (qbo c.s.ch).cells.toArray) W):=fun W n=>by
    obtain⟨a1,a2,a3,hp⟩:=(qg HS).new n;exact qql g _ W hp.toR
   have a7:∀W,qq w W→qxy W av c.last:=fun W n=>((qg H0).new n).last
   have c4:∀W,qq w W→qek c m=140→qdx g S w c (c.hearAgain m).1 (c.hearAgain m).2 (.returned (.tuple #[.slice none 0 0,.int .i64 140])) W:=fun W n e=>by
    have e2:c.hearAgain m=([],140):=by rw[qg d7,e,if_neg (by decide)]
    rw[e2];exact⟨qcb,rfl,qbp.nil _ _,((qg HS).new n).frW,n.mono (fun _ _ h=>h.elim)⟩
   have a6:∀W v l,qq w W→qek c m=0→c.resaid C ur=l→qbp w.heap.size W v l→qdx g S w c (c.hearAgain m).1 (c.hearAgain m).2 (.returned (.tuple #[v,.int .i64 0])) W:=fun W v l n e el hv=>by
    have e2:c.hearAgain m=(l,0):=by rw[qg d7,e,if_pos rfl,el]
    rw[e2];exact⟨v,rfl,hv,((qg HS).new n).frW,n.mono (fun _ _ h=>h.elim)⟩
   obtain⟨SM,d1⟩:∃SM,SM=qbo c.s.ch:=⟨_,rfl⟩;rw[←d1] at a8 b0;have f7:=qj d1;clear d1;have h3:=K.len I;have h4:=SM.len b0;have e7:=qj b8;have c3:=qj c6;have e8:=qj a8;have c7:=qj a7;have P:=qj c4;have R:=qj a6;clear b8 c6 a8 a7 c4 a6;obtain⟨t1,d4⟩:∃t1,t1=(!C && !(m.number==c.k.signed+1)):=⟨_,rfl⟩;obtain⟨t2,d5⟩:∃t2,t2=(!ur && !(m.id==c.k.heard)):=⟨_,rfl⟩;have b5:=qj (show (t1=true→qek c m=140)∧(t1=false→t2=true→qek c m=140)∧(t1=false→t2=false→qek c m=0) by
    rw[qg d8,d4,d5];cases C<;>cases ur<;>by_cases E:m.number=c.k.signed+1<;>by_cases h2:m.id=c.k.heard<;>simp[E,h2])
   have c9:=qj d4;have d0:=qj d5;have f0:∀W,qq w W→W.cell? ⟨g,42,none⟩=some (.bool c.k.shutSaid)∧W.cell? ⟨g,44,none⟩=some (.bool c.k.revoked)∧W.cell? ⟨g,627,none⟩=some av:=fun W n=>by
    have E:=(qg H0).new n;exact⟨E.toR.shutSaid,E.toR.revoked,by rw[qk E.at_ 627];exact qne c lv nv av E.ok.s.seed E.ok.shelf⟩
   have b1:=qj f0;clear d4 d5 f0 cX cR cL d8;go_upto_region 3 with fail
   go_cut [54] from 42 to 54 (fun bv wx=>bv = .bool t1∧qq w3 wx)
   case first =>
    cases C with
    | true =>
     obtain rfl:t1=false:=qg c9;go_wp2_with ((with_reducible first|rfl|refine' ut ?_ ?_;rotate_left|refine' uu ?_)<;>intros);go_meet
     case rel=>exact⟨rfl,(Upd.refl _ _).drew⟩
    | false =>
     obtain rfl:t1 = !(m.number==c.k.signed+1):=qg c9;go_wp2_with ((with_reducible first|rfl|refine' ut ?_ ?_;rotate_left|refine' uu ?_)<;>intros);go_meet
     case rel=>exact⟨rfl,(Upd.refl _ _).drew⟩
   case rest =>
    obtain⟨rfl,o⟩:=hcut;obtain⟨w4,rfl⟩:∃w4:World,w4=wc:=⟨_,rfl⟩;have b2:=qj ((qg e1).trans o);have mi:=o.cell mi (fun h=>h);have cH:=o.cell cH (fun h=>h);clear o mn cS g2 g1 f3 f9 e1 d9 c9;cases t1 with
    | true =>
     go_wp2_with ((with_reducible first|rfl|refine' ut ?_ ?_;rotate_left|refine' uu ?_)<;>intros);go_ret2;exact qg P _ (qg b2) ((qg b5).1 (by trivial))
    | false =>
     go_upto_region 5 with fail
     go_cut [67] from 55 to 67 (fun bv wx=>bv = .bool t2∧qq w wx)
     case first =>
      cases ur with
      | true =>
       obtain rfl:t2=false:=qg d0;go_wp2_with ((with_reducible first|rfl|refine' ut ?_ ?_;rotate_left|refine' uu ?_)<;>intros);go_meet
       case rel=>exact⟨rfl,(qg b2).drew⟩
      | false =>
       obtain rfl:t2 = !(m.id==c.k.heard):=qg d0;go_wp2_with ((with_reducible first|rfl|refine' ut ?_ ?_;rotate_left|refine' uu ?_)<;>intros);go_meet
       case rel=>exact⟨rfl,(qg b2).drew⟩
     case rest =>
      obtain⟨rfl,o⟩:=hcut;obtain⟨w5,rfl⟩:∃w5:World,w5=wc:=⟨_,rfl⟩;have c8:=qj o;clear o mi cH g0 f8 d0 HS H1 b2;cases t2 with
      | true =>
       go_wp2_with ((with_reducible first|rfl|refine' ut ?_ ?_;rotate_left|refine' uu ?_)<;>intros);go_ret2;exact qg P _ (qg c8) ((qg b5).2.1 (by trivial) (by trivial))
      | false =>
       have c5:=(qg b5).2.2 (by trivial) (by trivial);have f5:Hid (qbp w.heap.size w5 (.slice none 0 0) []):=qj (qbp.nil _ _);clear P b5;have g4:([]:List MsgV).length≤0:=Nat.le_refl _;have cR:=(qg b1 _ (qg c8)).2.1;go_upto_region 8 with fail
       go_cut [7,76] from 68 to 76 (fun rv bv wx=>rv = .bool ur∧bv = .bool (ur && !c.k.revoked)∧qq w5 wx)
       case first =>
        cases ur with
        | true =>
         go_wp2_with ((with_reducible first|rfl|refine' ut ?_ ?_;rotate_left|refine' uu ?_)<;>intros);go_meet
         case rel=>exact⟨rfl,rfl,by first | exact(Upd.refl _ _).drew | exact Upd.refl _ _⟩
        | false =>
         go_wp2_with ((with_reducible first|rfl|refine' ut ?_ ?_;rotate_left|refine' uu ?_)<;>intros);go_meet
         case rel=>exact⟨rfl,rfl,by first | exact(Upd.refl _ _).drew | exact Upd.refl _ _⟩
       case rest =>
        obtain⟨rfl,rfl,o⟩:=hcut;obtain⟨w6,rfl⟩:∃w6:World,w6=wc:=⟨_,rfl⟩;have b3:=qj ((qg c8).trans o);have e4:=qj (zc (qg f5) o (fun _ _ h=>h));clear o cR;go_upto_if 76 with fail
        go_cut [6,7,8] from 76 to 82 (fun uv rv v wx=>(uv = .bool C∧rv = .bool ur)∧qbp w.heap.size wx v ([]++if ur && !c.k.revoked then [K] else [])∧qq w wx)
        case first =>
         cases M:(ur && !c.k.revoked) with
         | false =>
          go_wp2_with ((with_reducible first|rfl|refine' ut ?_ ?_;rotate_left|refine' uu ?_)<;>intros);go_meet
          case rel=>exact⟨⟨by first | rfl | rw[M],rfl⟩,by rw[M,if_neg (by decide),List.append_nil];exact qg e4,qg b3⟩
         | true =>
          go_wp2_with ((with_reducible first|rfl|refine' ut ?_ ?_;rotate_left|refine' uu ?_)<;>intros);refine(qg c3 w6 (qg b3)).mono ?_;rintro e O ⟨rfl,N⟩;have y:w.heap.size≤O.heap.size:=((qg b3).trans N).size;have q:=qj (qj4 (ls:=[K]) (fun l hl=>by rw[List.mem_singleton.1 hl];exact I) (qj1 (w:=O) I w.heap.size y));have t:qq O (O.alloc (.cells K.cells.toArray 101)):=(Upd.refl _ _).alloc _;have V:Hid (qbp w.heap.size _ (.slice none 0 0) []):=qj (zc (qg e4) (N.trans t) (fun _ _ h=>h));have U:=qj (((qg b3).trans N).trans t);have x:=qj (Nat.le_trans y t.size);clear t N y;go_wp2_with (first | (at_builtin;refine qfm rfl (.tmp 77) (.tmp 80) rfl w.heap.size (.slice none 0 0) _ (by go_simp) (qg V) [K] (fun l hl=>by rw[List.mem_singleton.1 hl];exact I) _ (by go_simp) (qg q) ?few (qg x) ?_) | ((with_reducible first|rfl|refine' ut ?_ ?_;rotate_left|refine' uu ?_)<;>intros))
          case few=>simp only[List.length_cons,List.length_nil];omega
          intro va wb Y Z;have z:=(qg U).then Z (fun i hi e=>by omega);have HO:=qj Y;have J:=qj z;clear Y Z z q x;go_wp2_with ((with_reducible first|rfl|refine' ut ?_ ?_;rotate_left|refine' uu ?_)<;>intros);go_meet
          case rel=>exact⟨⟨by first | rfl | rw[M],rfl⟩,by rw[M,if_pos rfl];exact qg HO,qg J⟩
        case rest =>
         obtain⟨⟨rfl,rfl⟩,ho,o⟩:=hcut;obtain⟨w7,rfl⟩:∃w7:World,w7=wc:=⟨_,rfl⟩;obtain⟨la,d2,g5⟩:∃l,l=[]++(if ur && !c.k.revoked then [K] else [])∧l.length≤1:=⟨_,rfl,by rw[List.length_append];split<;>(try simp)<;>omega⟩;rw[←d2] at ho;have Hla:=qj d2;have e5:=qj ho;have T:=qj o;clear ho o d2;go_upto_if 82 with fail
         go_cut [6,7,8] from 82 to 89 (fun uv rv v wx=>(uv = .bool C∧rv = .bool ur)∧qbp w.heap.size wx v (la++if C then c.last else [])∧qq w wx)
         case first =>
          cases M:(C) with
          | false =>
           go_wp2_with ((with_reducible first|rfl|refine' ut ?_ ?_;rotate_left|refine' uu ?_)<;>intros);go_meet
           case rel=>exact⟨⟨by first | rfl | rw[M],rfl⟩,by rw[M,if_neg (by decide),List.append_nil];exact qg e5,qg T⟩
          | true =>
           have cL:=(qg b1 _ (qg T)).2.2;have q:=qj (qj4 f2 (qg c7 w7 (qg T)));have x:=qj (qg T).size;go_wp2_with (first | (at_builtin;refine qfm rfl (.tmp 83) (.tmp 87) rfl w.heap.size _ _ (by go_simp) (qg e5) c.last f2 _ (by go_simp) (qg q) ?few (qg x) ?_) | ((with_reducible first|rfl|refine' ut ?_ ?_;rotate_left|refine' uu ?_)<;>intros))
           case few=>omega
           intro va wb Y Z;have z:=(qg T).then Z (fun i hi e=>by omega);have HO:=qj Y;have J:=qj z;clear Y Z z q x;go_wp2_with ((with_reducible first|rfl|refine' ut ?_ ?_;rotate_left|refine' uu ?_)<;>intros);go_meet
           case rel=>exact⟨⟨by first | rfl | rw[M],rfl⟩,by rw[M,if_pos rfl];exact qg HO,qg J⟩
         case rest =>
          obtain⟨⟨rfl,rfl⟩,ho,o⟩:=hcut;obtain⟨w8,rfl⟩:∃w8:World,w8=wc:=⟨_,rfl⟩;obtain⟨lb,d3,g6⟩:∃l,l=la++(if C then c.last else [])∧l.length≤900001:=⟨_,rfl,by rw[List.length_append];split<;>(try simp)<;>omega⟩;rw[←d3] at ho;have Hlb:=qj d3;have f6:=qj ho;have e3:=qj o;clear ho o d3;have cR:=(qg b1 _ (qg e3)).2.1;go_upto_region 12 with fail
          go_cut [7,96] from 89 to 96 (fun rv bv wx=>rv = .bool ur∧bv = .bool (ur&&c.k.revoked)∧qq w8 wx)
          case first =>
           cases ur with
           | true =>
            go_wp2_with ((with_reducible first|rfl|refine' ut ?_ ?_;rotate_left|refine' uu ?_)<;>intros);go_meet
            case rel=>exact⟨rfl,rfl,by first | exact(Upd.refl _ _).drew | exact Upd.refl _ _⟩
           | false =>
            go_wp2_with ((with_reducible first|rfl|refine' ut ?_ ?_;rotate_left|refine' uu ?_)<;>intros);go_meet
            case rel=>exact⟨rfl,rfl,by first | exact(Upd.refl _ _).drew | exact Upd.refl _ _⟩
          case rest =>
           obtain⟨rfl,rfl,o⟩:=hcut;obtain⟨w9,rfl⟩:∃w9:World,w9=wc:=⟨_,rfl⟩;have b4:=qj ((qg e3).trans o);have e6:=qj (zc (qg f6) o (fun _ _ h=>h));clear o cR;go_upto_if 96 with fail
           go_cut [6,7,8] from 96 to 102 (fun uv rv v wx=>(uv = .bool C∧rv = .bool ur)∧qbp w.heap.size wx v (lb++if ur&&c.k.revoked then [K] else [])∧qq w wx)
           case first =>
            cases M:(ur&&c.k.revoked) with
            | false =>
             go_wp2_with ((with_reducible first|rfl|refine' ut ?_ ?_;rotate_left|refine' uu ?_)<;>intros);go_meet
             case rel=>exact⟨⟨by first | rfl | rw[M],rfl⟩,by rw[M,if_neg (by decide),List.append_nil];exact qg e6,qg b4⟩
            | true =>
             go_wp2_with ((with_reducible first|rfl|refine' ut ?_ ?_;rotate_left|refine' uu ?_)<;>intros);refine(qg c3 w9 (qg b4)).mono ?_;rintro e O ⟨rfl,N⟩;have y:w.heap.size≤O.heap.size:=((qg b4).trans N).size;have q:=qj (qj4 (ls:=[K]) (fun l hl=>by rw[List.mem_singleton.1 hl];exact I) (qj1 (w:=O) I w.heap.size y));have t:qq O (O.alloc (.cells K.cells.toArray 101)):=(Upd.refl _ _).alloc _;have V:Hid (qbp w.heap.size _ _ lb):=qj (zc (qg e6) (N.trans t) (fun _ _ h=>h));have U:=qj (((qg b4).trans N).trans t);have x:=qj (Nat.le_trans y t.size);clear t N y;go_wp2_with (first | (at_builtin;refine qfm rfl (.tmp 97) (.tmp 100) rfl w.heap.size _ _ (by go_simp) (qg V) [K] (fun l hl=>by rw[List.mem_singleton.1 hl];exact I) _ (by go_simp) (qg q) ?few (qg x) ?_) | ((with_reducible first|rfl|refine' ut ?_ ?_;rotate_left|refine' uu ?_)<;>intros))
             case few=>simp only[List.length_cons,List.length_nil];omega
             intro va wb Y Z;have z:=(qg U).then Z (fun i hi e=>by omega);have HO:=qj Y;have J:=qj z;clear Y Z z q x;go_wp2_with ((with_reducible first|rfl|refine' ut ?_ ?_;rotate_left|refine' uu ?_)<;>intros);go_meet
             case rel=>exact⟨⟨by first | rfl | rw[M],rfl⟩,by rw[M,if_pos rfl];exact qg HO,qg J⟩
           case rest =>
            obtain⟨⟨rfl,rfl⟩,ho,o⟩:=hcut;obtain⟨d6,rfl⟩:∃d6:World,d6=wc:=⟨_,rfl⟩;obtain⟨lc,D,g7⟩:∃l,l=lb++(if ur&&c.k.revoked then [K] else [])∧l.length≤900002:=⟨_,rfl,by rw[List.length_append];split<;>(try simp)<;>omega⟩;rw[←D] at ho;have Hlc:=qj D;have c2:=qj ho;have H:=qj o;clear ho o D;have cX:=(qg b1 _ (qg H)).1;have D:=qg Hlc;rw[qg Hlb,qg Hla] at D;cases b9:c.k.shutSaid with
            | false =>
             rw[b9] at cX;have X:=qj (show c.resaid C ur=lc by
              unfold Ch.resaid;rw[b9,←qg e7,D];simp)
             clear D;go_wp2_with ((with_reducible first|rfl|refine' ut ?_ ?_;rotate_left|refine' uu ?_)<;>intros);go_ret2;exact qg R _ _ _ (qg H) c5 (qg X) (qg c2)
            | true =>
             rw[b9] at cX;have X:=qj (show c.resaid C ur=lc++[SM] by
              unfold Ch.resaid;rw[b9,←qg e7,←qg f7,D];simp)
             clear D;go_wp2_with ((with_reducible first|rfl|refine' ut ?_ ?_;rotate_left|refine' uu ?_)<;>intros);refine(qg e8 d6 (qg H)).mono ?_;rintro e O ⟨rfl,N⟩;have y:w.heap.size≤O.heap.size:=((qg H).trans N).size;have q:=qj (qj4 (ls:=[SM]) (fun l hl=>by rw[List.mem_singleton.1 hl];exact b0) (qj1 (w:=O) b0 w.heap.size y));have t:qq O (O.alloc (.cells SM.cells.toArray 101)):=(Upd.refl _ _).alloc _;have V:Hid (qbp w.heap.size _ _ lc):=qj (zc (qg c2) (N.trans t) (fun _ _ h=>h));have U:=qj (((qg H).trans N).trans t);have x:=qj (Nat.le_trans y t.size);clear t N y;go_wp2_with (first | (at_builtin;refine qfm rfl (.tmp 107) (.tmp 110) rfl w.heap.size _ _ (by go_simp) (qg V) [SM] (fun l hl=>by rw[List.mem_singleton.1 hl];exact b0) _ (by go_simp) (qg q) ?few (qg x) ?_) | ((with_reducible first|rfl|refine' ut ?_ ?_;rotate_left|refine' uu ?_)<;>intros))
             case few=>simp only[List.length_cons,List.length_nil];omega
             intro va wb Y Z;have z:=(qg U).then Z (fun i hi e=>by omega);have HO:=qj Y;have J:=qj z;clear Y Z z q x;go_wp2_with ((with_reducible first|rfl|refine' ut ?_ ?_;rotate_left|refine' uu ?_)<;>intros);go_ret2;exact qg R _ _ _ (qg J) c5 (qg X) (qg HO)
end Go.Proofs.YtfmkdoachjgjbaaGreatDoor
