/-
  A link's events: failed, any many.
-/
import Derived.Test.YtfmkdoachjgjbaaGreatDoorMdd
import Derived.Test.YtfmkdoachjgjbaaGreatDoorMcf
set_option maxRecDepth 100000
set_option maxHeartbeats 2000000
set_option linter.unusedVariables false
set_option linter.unusedSimpArgs false
namespace Go.Proofs.YtfmkdoachjgjbaaGreatDoor
section
open Go.RowKit
attribute [local go_sem ↓ high] qa5 qbd qb1 qds zl qiv qiw
attribute [local go_sem] qc5 qdo qeu qkk qa9 q2n qvg q2q qy
theorem qvx(T:Nat→Prop)(g:Nat)(S:Nat→Prop)(l:Lk)(sp en lo:Nat)(SC SJ:Nat→Prop)(es:List EvV)(a7:Value)(va vb:Value)(q m:List Live)(w0 w:World)(h:EvSt T w0 w g S l sp en lo SC SJ es a7)(d1:T g)
  (hv:∀W,Upd T w0 W→LvO W vb q) (b3:∀W,Upd T w0 W→LvO W va m) (hl:q.length≤100000) (e6:m.length≤100000) (b8:es.length≤200000) :
  Calls Tryz.prog 147 #[.pointer (some ⟨g,0,none⟩),vb,va] w fun e w'=>e = .returned (.tuple #[])∧∃ev,EvSt T w0 w' g S l sp en lo SC SJ (es++qi0 q m) ev:=by
 obtain⟨a,cap,rfl,C⟩:=(hv w h.u).shape
 have hf:=fun own id W (n:Upd T w0 W)=>qnc own id _ m W (b3 W n) (by omega)
 obtain⟨ab,capb,rfl,b2⟩:=(b3 w h.u).shape
 have J:∀W,Upd T w0 W→∀(i:Nat) (x:Live),q[i]? = some x→∃g',a=some ⟨g',0,none⟩∧qdy W g' 0 q:=by
  intro W u i x hi;have P:=(List.getElem?_eq_some_iff.1 hi).1;rcases hv W u with ⟨a',k,e,e0⟩ | ⟨g',k,e,hh⟩
  ·rw[e0] at P;simp at P
  ·injection e with e1;exact⟨g',e1,hh.toL⟩
 have HC:=qj J
 have HF:=qj hf
 have H0:=qj h
 clear J hf C b2 hv b3 h
 have e7:(q.length:Int)≤1000000:=by omega
 go_enter Tryz.func147,Tryz.ntmps147
 go_wp2_with fail
 go_loopw [10] (fun iv wr=>∃i:Nat,iv = .int .i64 (i:Int)∧i≤q.length∧Hid (∃ev,EvSt T w0 wr g S l sp en lo SC SJ (es++qi0 (q.take i) m) ev)) (fun iv _=>q.length-(intOf iv).toNat)
 case atStart=>exact⟨0,rfl,Nat.zero_le _,qj ⟨a7,by rw[List.take_zero];show EvSt T w0 w g S l sp en lo SC SJ (es++[]) a7;rw[List.append_nil];exact qg H0⟩⟩
 case round =>
  obtain⟨i,rfl,hi,hrel⟩:=hrel;obtain⟨Z,rfl⟩:∃Z:World,Z=wr:=⟨_,rfl⟩;clear H0;by_cases P:i<q.length
  ·obtain⟨x,R⟩:∃x,q[i]? = some x:=⟨_,List.getElem?_eq_getElem P⟩;obtain⟨ev,V⟩:=qg hrel;have c6:=qzo m R;have b6:=q3g (q.take i) m;rw[List.length_take] at b6;have d3:(es++qi0 (q.take i) m).length≤300000:=by rw[List.length_append];omega
   have K:es++qi0 (q.take (i+1)) m=(es++qi0 (q.take i) m)++(if qio m x=true then [evF x] else []):=by rw[c6,List.append_assoc]
   have I:=qj K;clear c6 b6 K hrel;generalize es++qi0 (q.take i) m=c9 at V d3 I;obtain⟨g',rfl,hh⟩:=qg HC Z V.u i x R;have C:=hh.row R;rw[Nat.zero_add] at C;have U:=qj V;have e4:(i:Int)<(q.length:Int):=by omega
   have d5:=qgn Z x;have b1:=qgb Z x;clear V;go_upto_region 3 with fail;obtain⟨hb,nb⟩:=b1;generalize (Z.alloc (.cells (qm Live.zero).toArray 69)).setCells Z.heap.size 0 (qm x)=wb at hb nb ⊢;generalize Z.heap.size=X at hb ⊢;have a2:wb.cell? ⟨X,35,none⟩=some (.bool x.own):=by rw[qk hb,List.getElem?_toArray];exact qee x
   have a6:wb.cell? ⟨X,37,none⟩=some (.bool x.paid):=by rw[qk hb,List.getElem?_toArray];exact qjk x
   have d0:wb.cell? ⟨X,0,none⟩=some (.int .u64 x.h.id):=by rw[qk hb,List.getElem?_toArray];exact qr1 x
   have c8:zt wb X 0 35=some (qv x.h).toArray:=by
    have:=qij (qaj hb 38 (by rw[List.size_toArray,qbb])) 0 35 (by omega);rw[qnt] at this;exact this
   have a1:=qj c8;have y:=qj ((qg U).new nb);have t:=qg HF true x.h.id wb (qg y).u;have c0:qf4 true x.h.id m = -1∧m.findIdx? (qcx true x.h.id)=none∨∃(j:Nat),qf4 true x.h.id m=(j:Int)∧m.findIdx? (qcx true x.h.id)=some j:=by
    unfold qf4;cases hc:m.findIdx? (qcx true x.h.id) with
    | none=>exact .inl ⟨rfl,rfl⟩
    | some j=>exact .inr ⟨j,rfl,rfl⟩
   have H:=qj c0;have b7:qio m x=(x.own&&(!x.paid&&(m.findIdx? (qcx true x.h.id)).isNone)):=rfl;have E:=qj b7;clear hb nb C d5 HF HC hh R c0 b7 U c8;obtain⟨p,hp⟩:∃p,x.paid=p:=⟨_,rfl⟩;obtain⟨o,ho⟩:∃o,x.own=o:=⟨_,rfl⟩;rw[ho] at a2;rw[hp] at a6;have M:=qj (And.intro hp ho);clear hp ho;cases o with
   | false =>
    clear t H;go_wp2_with ((with_reducible first|rfl|refine' ut ?_ ?_;rotate_left|refine' uu ?_)<;>intros);go_roundw
    case rel =>
     have e:qio m x=false:=by rw[qg E,(qg M).2];rfl
     refine⟨i+1,by go_num,by omega,qj ⟨ev,?_⟩⟩;rw[qg I,e];simp only[Bool.false_eq_true,if_false,List.append_nil];exact qg y
    case measure=>simp[intOf];omega
   | true =>
    cases p with
    | true =>
     clear t H;go_wp2_with ((with_reducible first|rfl|refine' ut ?_ ?_;rotate_left|refine' uu ?_)<;>intros);go_roundw
     case rel =>
      have e:qio m x=false:=by rw[qg E,(qg M).1,(qg M).2];rfl
      refine⟨i+1,by go_num,by omega,qj ⟨ev,?_⟩⟩;rw[qg I,e];simp only[Bool.false_eq_true,if_false,List.append_nil];exact qg y
     case measure=>simp[intOf];omega
    | false =>
     rcases qg H with ⟨hj,hn⟩ | ⟨j,hj,hn⟩
     ·have b4:Hid (qio m x=true):=qj (by rw[qg E,(qg M).1,(qg M).2,hn];rfl);rw[hj] at t;clear H hj hn E M;go_wp2_with ((with_reducible first|rfl|refine' ut ?_ ?_;rotate_left|refine' uu ?_)<;>intros);refine t.mono ?_;rintro e wc ⟨rfl,nc⟩;have U:=qj ((qg y).new nc);have rX:zt wc X 0 35=some (qv x.h).toArray:=qbg (qg a1) nc (fun h=>h);clear t nc y d0 a2 a6 a1;go_upto_region 4 with fail;have hC:wc.drew.cell? ⟨g,4,none⟩=some ev∧zt wc.drew X 0 35=some (qv x.h).toArray:=⟨qk (qg U).lk.at_ 4,rX⟩;obtain⟨i9,z9,b9,d4,d9,d6,d7,d8,d2⟩:=qme;have b8:(evW 3 (qv x.h) (qw zm)).length=68:=EvV.len (evF x) qu;have e3:=qba x.h;refine qay (fun w'=>w'.cell? ⟨g,4,none⟩=some ev∧zt w' X 0 35=some (qv x.h).toArray) [4,6] (.of [0,1,2,3,4,5,6,7,8,9,10,11,12]) (by kernel_rfl) (by kernel_rfl) hC ?_;simp only[Plan.of];go_wp2_with ((with_reducible first|rfl|refine' ut ?_ ?_;rotate_left|refine' uu ?_)<;>intros);have nC:qq wc (wc.alloc (.cells (evW 3 (qv x.h) (qw zm)).toArray 43)).drew:=((Upd.refl _ _).alloc _).drew;have O:(wc.alloc (.cells (evW 3 (qv x.h) (qw zm)).toArray 43)).drew.heap[wc.heap.size]? = some (.cells (evW 3 (qv x.h) (qw zm)).toArray 43 (0,0)):=ql wc _;have v:=qj ((qg U).new nC);have N:=And.intro (nC.cell hC.1 (fun h=>h)) (qbg rX nC (fun h=>h));refine⟨N,?_⟩;generalize (wc.alloc (.cells (evW 3 (qv x.h) (qw zm)).toArray 43)).drew=wC at v O N nC ⊢;generalize wc.heap.size=D at O ⊢;clear U hC;go_wp2_with (first | (at_builtin;refine wpList_append_own_at _ rfl (.tmp 33) (.tmp 37) 38 rfl 0 43 i9 _ 68 b9 Tryz.underlying38 d4 d9 d6 d7 d8 (by decide) _ _ _ rfl (qg v).row ⟨D,0,none⟩ 1 1 (evW 3 (qv x.h) (qw zm)) rfl (by rw[b8]) ?c1 ?c2 ?c3 ?c4 ?c5 ?_) | ((with_reducible first|rfl|refine' ut ?_ ?_;rotate_left|refine' uu ?_)<;>intros))
      case c1=>exact World.news_of_block (cs:=(evW 3 (qv x.h) (qw zm)).toArray) (fr:=(0,0)) O
      case c2=>exact EvV.one (evF x)
      case c3=>unfold maxLen;omega
      case c4=>have:=Nat.mul_le_mul (show c9.length+1≤1000000 by omega) d2;omega
      case c5=>omega
      intro v' wD z b0 _ Y;obtain⟨a',e2,c7⟩:=qaa z;have uD:Upd (fun k=>ev.ownBlock=some k) wC wD:=(Upd.refl _ _).grown b0 (fun k hk _=>hk);have a8:¬(ev.ownBlock=some g):=fun e=>(qg v).out g e (qg v).lk.inG
      have f4:wD.frozen? ⟨g,4,none⟩=false:=qo (uD.old (qg v).lk.at_ a8) 4;have c4:wD.cell? ⟨g,4,none⟩=some ev:=uD.cell N.1 a8;have b5:=qj ((qg v).push (e:=(evF x)) d1 z b0 Y);rw[c7] at b5 ⊢;clear z Y b0 uD O v N a8 nC c7;go_wp2_with (first | ((with_reducible first|rfl|refine' ut ?_ ?_;rotate_left|refine' uu ?_)<;>intros) | refine⟨trivial,?_⟩);go_roundw
      case rel =>
       refine⟨i+1,by go_num,by omega,?_⟩;rw[qg I,if_pos (qg b4)];exact qj ⟨_,qg b5⟩
      case measure=>simp[intOf];omega
     ·rw[hj] at t;have e5:(0:Int)≤(j:Int):=by omega
      have e:Hid (qio m x=false):=qj (by rw[qg E,(qg M).1,(qg M).2,hn];rfl);clear H hj hn E M;go_wp2_with ((with_reducible first|rfl|refine' ut ?_ ?_;rotate_left|refine' uu ?_)<;>intros);refine t.mono ?_;rintro e' wc ⟨rfl,nc⟩;have U:=qj ((qg y).new nc);clear t nc y d0 a2 a6 a1;go_wp2_with ((with_reducible first|rfl|refine' ut ?_ ?_;rotate_left|refine' uu ?_)<;>intros);go_roundw
      case rel =>
       refine⟨i+1,by go_num,by omega,qj ⟨ev,?_⟩⟩;rw[qg I,qg e];simp only[Bool.false_eq_true,if_false,List.append_nil];exact qg U
      case measure=>simp[intOf];omega
  ·obtain rfl:i=q.length:=by omega
   obtain⟨ev,V⟩:=qg hrel;rw[List.take_length] at V;have HR:=qj V;clear V hrel;go_wp2_with fail;go_end0;exact⟨rfl,ev,qg HR⟩
end
section
open Go.RowKit
attribute [local go_sem ↓ high] qa5 qbd qb1 qds zl qiv qiw ze zf zg
attribute [local go_sem] qc5 qdo qeu qkk qa9 q2n qvg q2q qy qau qav qaw
def qqg(m:MsgV)(o:List Live):List EvV:=match o.findIdx? (qcx true m.id) with | some i=>(o[i]?).toList.map (fun x=>evP x m.hash) | none=>[]
def qfe(m:MsgV)(waits:Bool)(i o:List Live):List EvV :=
 if m.kind=4 then qqg m i else if m.kind=9 then (if waits=true then qgw [] o else []) else qgw i o++qi0 i o
def Lk.heard(l:Lk)(m:MsgV):Lk:= {l with waits:=if m.kind=9 then false else l.waits}
section
variable {T:Nat→Prop}{w w1 w':World}{g:Nat}{S:Nat→Prop}{l:Lk}{sp en lo:Nat}{SC SJ:Nat→Prop}{es:List EvV}{ev:Value}
theorem EvSt.back(h:EvSt T w1 w' g S l sp en lo SC SJ es ev)(n:qq w w1):EvSt T w w' g S l sp en lo SC SJ es ev :=
 ⟨h.lk,h.row,(n.mono (fun _ _ h=>h.elim)).trans h.u,h.out,fun k e=>(h.from_ k e).imp id (fun e=>by have:=n.size;omega)⟩
theorem EvSt.unwait(h:EvSt T w w' g S l sp en lo SC SJ es ev)(i:T g):EvSt T w (w'.setCell ⟨g,8,none⟩ (.bool false)) g S {l with waits:=false} sp en lo SC SJ es ev:=by
 have m:Upd (· = g) w' (w'.setCell ⟨g,8,none⟩ (.bool false)):=(Upd.refl _ _).set1 _ _;exact⟨h.lk.put rfl rfl rfl rfl,h.row.upd m (fun k o e=>h.out k o (e▸h.lk.inG)),h.u.trans (m.mono (fun k _ e=>by have e:k=g:=e;rw[e];exact i)),h.out,h.from_⟩
end
theorem q53(T:Nat→Prop)(g:Nat)(S:Nat→Prop)(l:Lk)(sp en lo:Nat)(SC SJ:Nat→Prop)(es:List EvV)(ev:Value)(m:MsgV)(vb:Value)(bs:List Live)(w:World)(h:EvSt T w w g S l sp en lo SC SJ es ev)(E:T g)(a8:∀k,T k→k<w.heap.size)
  (hv:∀W,Upd T w W→LvO W vb bs) (hl:bs.length≤1000) (e5:l.c.xs.length≤1000) (b0:es.length≤10000) (Z:m.hash.length=32) :
  Calls Tryz.prog 110 #[.pointer (some ⟨g,0,none⟩),.agg m.cells.toArray,vb] w fun e w'=>e = .returned (.int .i64 0)∧∃U,EvSt T w w' g S (l.heard m) sp en lo SC SJ (es++qfe m l.waits bs l.c.xs) U:=by
 have b3:=fun W (n:qq w W)=>qt7 ((h.lk.new n).chn)
 have c1:w.cell? ⟨g,1,none⟩=some (.pointer (some ⟨en,0,none⟩)):=qk h.lk.at_ 1
 have i:=qj h
 have HV:=qj hv
 have a2:=qj a8
 have a6:=qj (show ∀k,ev.ownBlock=some k→T k from fun k e=>(h.from_ k e).elim id (fun e'=>by have:=h.row.lt k e;omega))
 clear h hv a8
 go_enter Tryz.func110,Tryz.ntmps110
 go_upto_region 1 with fail
 have hB:=qa6 w m Z
 have n1:qq w (w.alloc (.cells m.cells.toArray 101)):=(Upd.refl _ _).alloc _
 generalize w.alloc (.cells m.cells.toArray 101)=w1 at hB n1 ⊢
 generalize w.heap.size=B at hB ⊢
 replace c1:=n1.cell c1 (fun h=>h)
 have b5:=b3 w1 n1
 have HB:=qj hB
 have N1:=qj n1
 clear hB n1 b3
 go_wp2_with fail
 refine b5.mono ?_
 rintro e v ⟨u,rfl,n2,hu⟩
 have c0:=((qg HB).new n2).cells.1
 have d2:=((qg HB).new n2).cells.2.2.1
 have I:=qj ((qg HB).new n2)
 have N2:=qj ((qg N1).trans n2)
 have i:=qj ((qg i).new (qg N2))
 have a1:=(qg N1).size
 have HU:=qj (show ∀W,Upd T v W→LvO W u l.c.xs from fun W uW=>(hu.upd uW (fun k h1 _ e=>by have:=qg a2 k e;omega)).toO)
 have q:=qj (show ∀W,Upd T v W→LvO W vb bs from fun W uW=>qg HV W (((qg N2).mono (fun _ _ h=>h.elim)).trans uW))
 clear b5 N1 n2 c1 hu HB HV a2 a1
 by_cases C:m.kind=4
 ·have z:Hid (l.heard m=l∧qfe m l.waits bs l.c.xs=qqg m bs):=qj ⟨by unfold Lk.heard;rw[if_neg (by omega)],by unfold qfe;rw[if_pos C]⟩;rw[C] at c0;have x:=qnc true m.id vb bs v (qg q v (Upd.refl _ _)) (by omega);have d1:qf4 true m.id bs = -1∧bs.findIdx? (qcx true m.id)=none∨∃(j:Nat) (y:Live),qf4 true m.id bs=(j:Int)∧bs[j]? = some y∧bs.findIdx? (qcx true m.id)=some j:=by
   unfold qf4;cases hc:bs.findIdx? (qcx true m.id) with
   | none=>exact .inl ⟨rfl,rfl⟩
   | some j =>
    obtain⟨Y,-⟩:=List.findIdx?_eq_some_iff_getElem.1 hc;exact .inr ⟨j,bs[j],rfl,List.getElem?_eq_getElem Y,rfl⟩
  rcases d1 with ⟨Y,hn⟩ | ⟨j,y,Y,hy,hn⟩
  ·have HP:Hid (qqg m bs=[]):=qj (by unfold qqg;rw[hn]);rw[Y] at x;clear Y hn C;go_wp2_with fail;refine x.mono ?_;rintro e w3 ⟨rfl,n3⟩;have i:=qj ((qg i).new n3);clear x n3 c0 d2 I HU q;go_wp2_with fail;go_ret;refine⟨rfl,ev,?_⟩;rw[(qg z).1,(qg z).2,qg HP,List.append_nil];exact qg i
  ·have HP:Hid (qqg m bs=[evP y m.hash]):=qj (by unfold qqg;rw[hn];show (bs[j]?).toList.map _=_;rw[hy];rfl);rw[Y] at x;have e3:(0:Int)≤(j:Int):=by omega
   clear Y hn C;go_wp2_with fail;refine x.mono ?_;rintro e wc ⟨rfl,nc⟩;have i:=qj ((qg i).new nc);obtain⟨N,cb,rfl,b2⟩:∃N cb,vb = .slice (some ⟨N,0,none⟩) bs.length cb∧qdf wc N 0 bs:=by
    rcases qg q wc (nc.mono (fun _ _ h=>h.elim)) with ⟨a',k,e,e0⟩ | ⟨N,k,e,hh⟩
    ·rw[e0] at hy;simp at hy
    ·exact⟨N,k,e,hh⟩
   have e4:=(List.getElem?_eq_some_iff.1 hy).1;have d9:(j:Int)<(bs.length:Int):=by omega
   have rX:zt wc N (j*38) 35=some (qv y.h).toArray:=by
    have hr:=b2.row hy;rw[Nat.zero_add] at hr;have:=qij hr 0 35 (by omega);rw[qnt] at this;exact this
   have rM:zt wc B 4 32=some (qw m.hash).toArray:=((qg I).new nc).cells.2.2.2.2.2.2;have e2:(qw m.hash).length=32:=by rw[qal,Z]
   have d0:es.length≤300000:=by omega
   clear x nc c0 d2 I HU q b2 hy;generalize R:es=b8 at i d0;have b7:=qj R;clear R;go_upto_region 8 with fail;have hC:wc.drew.cell? ⟨g,4,none⟩=some ev∧zt wc.drew N (j*38) 35=some (qv y.h).toArray∧zt wc.drew B 4 32=some (qw m.hash).toArray:=⟨qk (qg i).lk.at_ 4,⟨rX,rM⟩⟩;obtain⟨i9,z9,b9,d3,d7,d5,a1,d6,c9⟩:=qme;have b0:(evW 2 (qv y.h) (qw m.hash)).length=68:=EvV.len (evP y m.hash) Z;have e1:=qba y.h;refine qay (fun w'=>w'.cell? ⟨g,4,none⟩=some ev∧zt w' N (j*38) 35=some (qv y.h).toArray∧zt w' B 4 32=some (qw m.hash).toArray) [4,9,11] (.of [0,1,2,3,4,5,6,7,8,9,10,11,12,13,14,15,16,17]) (by kernel_rfl) (by kernel_rfl) hC ?_;simp only[Plan.of];go_wp2_with ((with_reducible first|rfl|refine' ut ?_ ?_;rotate_left|refine' uu ?_)<;>intros);have nC:qq wc (wc.alloc (.cells (evW 2 (qv y.h) (qw m.hash)).toArray 43)).drew:=((Upd.refl _ _).alloc _).drew;have M:(wc.alloc (.cells (evW 2 (qv y.h) (qw m.hash)).toArray 43)).drew.heap[wc.heap.size]? = some (.cells (evW 2 (qv y.h) (qw m.hash)).toArray 43 (0,0)):=ql wc _;have o:=qj ((qg i).new nC);have K:=And.intro (nC.cell hC.1 (fun h=>h)) (And.intro (qbg rX nC (fun h=>h)) (qbg rM nC (fun h=>h)));refine⟨K,?_⟩;generalize (wc.alloc (.cells (evW 2 (qv y.h) (qw m.hash)).toArray 43)).drew=wC at o M K nC ⊢;generalize wc.heap.size=D at M ⊢;clear i hC;go_wp2_with (first | (at_builtin;refine wpList_append_own_at _ rfl (.tmp 36) (.tmp 45) 38 rfl 0 43 i9 _ 68 b9 Tryz.underlying38 d3 d7 d5 a1 d6 (by decide) _ _ _ rfl (qg o).row ⟨D,0,none⟩ 1 1 (evW 2 (qv y.h) (qw m.hash)) rfl (by rw[b0]) ?c1 ?c2 ?c3 ?c4 ?c5 ?_) | ((with_reducible first|rfl|refine' ut ?_ ?_;rotate_left|refine' uu ?_)<;>intros))
   case c1=>exact World.news_of_block (cs:=(evW 2 (qv y.h) (qw m.hash)).toArray) (fr:=(0,0)) M
   case c2=>exact EvV.one (evP y m.hash)
   case c3=>unfold maxLen;omega
   case c4=>have:=Nat.mul_le_mul (show b8.length+1≤1000000 by omega) c9;omega
   case c5=>omega
   intro v' wD t X _ P;obtain⟨a',d8,b6⟩:=qaa t;have uD:Upd (fun k=>ev.ownBlock=some k) wC wD:=(Upd.refl _ _).grown X (fun k hk _=>hk);have V:¬(ev.ownBlock=some g):=fun e=>(qg o).out g e (qg o).lk.inG
   have f4:wD.frozen? ⟨g,4,none⟩=false:=qo (uD.old (qg o).lk.at_ V) 4;have c4:wD.cell? ⟨g,4,none⟩=some ev:=uD.cell K.1 V;have J:=qj ((qg o).push (e:=(evP y m.hash)) E t X P);rw[b6] at J ⊢;clear t P X uD M o K V nC b6;go_wp2_with (first | ((with_reducible first|rfl|refine' ut ?_ ?_;rotate_left|refine' uu ?_)<;>intros) | refine⟨trivial,?_⟩);go_ret;refine⟨rfl,?_⟩;rw[(qg z).1,(qg z).2,qg HP,qg b7];exact⟨_,qg J⟩
 ·have b4:(m.kind==4)=false:=by simpa using C
  by_cases O:m.kind=9
  ·have z:Hid (l.heard m = {l with waits:=false} ∧ qfe m l.waits bs l.c.xs=if l.waits=true then qgw [] l.c.xs else []):=qj ⟨by unfold Lk.heard;rw[if_pos O],by unfold qfe;rw[if_neg C,if_pos O]⟩;rw[O] at c0;have c8:v.cell? ⟨g,8,none⟩=some (.bool l.waits):=qk (qg i).lk.at_ 8;have f8:=qo (qg i).lk.at_ 8;clear O C b4 I q d2;cases hw:l.waits with
   | false =>
    rw[hw] at c8;have HW:=qj hw;clear hw HU f8;go_wp2_with fail;go_ret;refine⟨rfl,ev,?_⟩;rw[(qg z).1,(qg z).2];have e:({l with waits:=false} : Lk)=l:=by rw[←qg HW]
    rw[e,qg HW];simp only[Bool.false_eq_true,if_false,List.append_nil];exact qg i
   | true =>
    rw[hw] at c8;have HW:=qj hw;have J:=qj ((show EvSt T v v g S l sp en lo SC SJ es ev from⟨(qg i).lk,(qg i).row,Upd.refl _ _,(qg i).out,fun k e=> .inl (qg a6 k e)⟩).unwait E);have H:=qs9 T g S {l with waits:=false} sp en lo SC SJ es ev u (.slice none 0 0) [] l.c.xs v (v.setCell ⟨g,8,none⟩ (.bool false)) (qg J) E (fun W _=> .inl ⟨none,0,rfl,rfl⟩) (qg HU) (by simp) (by show l.c.xs.length≤_;omega) (by omega);clear hw i;go_wp2_with fail;refine H.mono ?_;rintro e w3 ⟨rfl,U,h3⟩;have H3:=qj h3;clear H h3;go_wp2_with fail;go_ret;refine⟨rfl,U,?_⟩;rw[(qg z).1,(qg z).2,if_pos (qg HW)];exact(qg H3).back (qg N2)
  ·have z:Hid (l.heard m=l∧qfe m l.waits bs l.c.xs=qgw bs l.c.xs++qi0 bs l.c.xs):=qj ⟨by unfold Lk.heard;rw[if_neg O],by unfold qfe;rw[if_neg C,if_neg O]⟩;have b9:(m.kind==9)=false:=by simpa using O
   have a7:EvSt T v v g S l sp en lo SC SJ es ev:=by
    have h:=qg i;exact⟨h.lk,h.row,Upd.refl _ _,h.out,fun k e=> .inl (qg a6 k e)⟩
   have H:=qs9 T g S l sp en lo SC SJ es ev u vb bs l.c.xs v v a7 E (qg q) (qg HU) (by omega) (by omega) (by omega);clear C O a7 i;go_wp2_with fail;refine H.mono ?_;rintro e w3 ⟨rfl,c6,h3⟩;have d4:(es++qgw bs l.c.xs).length≤200000:=by
    have:=qs8 bs l.c.xs;rw[List.length_append];omega
   have b1:=qvx T g S l sp en lo SC SJ (es++qgw bs l.c.xs) c6 u vb bs l.c.xs v w3 h3 E (qg q) (qg HU) (by omega) (by omega) d4;clear H h3;go_wp2_with fail;refine b1.mono ?_;rintro e w4 ⟨rfl,c7,C⟩;have H4:=qj C;clear b1 C;go_wp2_with fail;go_ret;refine⟨rfl,c7,?_⟩;rw[(qg z).1,(qg z).2,←List.append_assoc];exact(qg H4).back (qg N2)
end
section
open Go.RowKit
structure LkOkW(l:Lk):Prop where
 dead:l.dead=false
 fused:l.j.fused=false
 off:l.j.off=false
 many:0≤l.j.many∧l.j.many<1000000000000
 len:l.j.bs.size≤1000000000000
 out:l.out.size≤1000000000000
theorem LkOk.toW{l:Lk}(h:LkOk l):LkOkW l:=⟨h.dead,h.fused,h.off,h.many,h.len,h.out⟩
theorem qpp:∀(X:List MsgV) (i j:Nat) (m:MsgV),(∀m∈X,m.hash.length=32)→X[i]? = some m→j<38→(X.flatMap MsgV.cells)[i*38+j]? = m.cells[j]?
 | [],i,j,m,_,o,_=>by simp at o
 | y::X,i,j,m,h,o,t=>by
  have q:=y.len (h y (List.mem_cons_self ..));rw[List.flatMap_cons];cases i with
  | zero =>
   simp only[List.getElem?_cons_zero,Option.some.injEq] at o;subst o;rw[List.getElem?_append_left (by rw[q];omega),Nat.zero_mul,Nat.zero_add]
  | succ i =>
   rw[List.getElem?_append_right (by rw[q];omega),q,show (i+1)*38+j-38=i*38+j by omega];exact qpp X i j m (fun m v=>h m (List.mem_cons_of_mem _ v)) (by simpa using o) t
theorem qbp.rows{base:Nat}{w:World}{v:Value}{o:List MsgV}(h:qbp base w v o)(C:∀m∈o,m.hash.length=32):(o=[]∧v = .slice none 0 0)∨∃g cap,v = .slice (some ⟨g,0,none⟩) o.length cap∧base≤g∧g<w.heap.size∧∀i m,o[i]? = some m→zt w g (i*38) 38=some m.cells.toArray:=by
 rcases h.2 with ⟨e,e0⟩ | ⟨g,cap,q,e,D,z,M,_,I,K⟩
 ·exact .inl ⟨List.length_eq_zero_iff.1 e0,e⟩
 ·refine .inr ⟨g,cap,e,D,zi z,fun i m t=> ?_⟩;have x:=(List.getElem?_eq_some_iff.1 t).1;have J:i*38+38≤q.size:=by
   rw[I];have:=Nat.mul_le_mul_right 38 (show i+1≤cap by omega);omega
  rw[qby z (i*38) 38 (by omega)];congr 1;apply Array.ext';rw[Array.toList_extract];show List.extract q.toList (i*38) (i*38+38)=m.cells;have H:=m.len (C m (List.mem_of_getElem? t));apply List.ext_getElem?;intro j;rw[List.extract_eq_take_drop,List.getElem?_take];by_cases E:j<38
  ·rw[if_pos (by omega),List.getElem?_drop];have y:=qpp o i j m C t E;rw[←K,List.getElem?_take,if_pos (by have:=Nat.mul_le_mul_right 38 (show i+1≤o.length from x);omega)] at y;exact y
  ·rw[if_neg (by omega),List.getElem?_eq_none (by omega)]
theorem qz2(t y g base:Nat)(S:Nat→Prop)(l:Lk)(sp en lo:Nat)(x z:Nat→Prop)(o:List MsgV)(v:Value)(w:World)(h:LkP w g S l sp en lo x z)(E:∀m∈o,SayOk m)(O:o.length≤1000)(M:l.out.size≤1099511627776)(C:w.cell? ⟨t,0,none⟩=some (.pointer (some ⟨g,0,none⟩)))(D:w.cell? ⟨y,0,none⟩=some v)(K:qbp base w v o)(R:g<base) :
  Calls Tryz.prog 108 #[.pointer (some ⟨t,0,none⟩),.pointer (some ⟨y,0,none⟩)] w fun e w'=>e = .returned (.int .i64 0)∧LkP w' g S {l with out:=qdg o l.out} sp en lo x z∧Upd (· = g) w w':=by
 rcases K.rows (fun m h=>(E m h).put.ok.len) with ⟨rfl,rfl⟩ | ⟨B,cap,rfl,P,-,J⟩
 ·refine(qnh t y g none 0 w C D).mono ?_;rintro e w' ⟨rfl,q⟩;exact⟨rfl,h.new (q.upd _),q.upd _⟩
 ·have i:=q5h g B cap S l sp en lo x z o w h E O M J (by omega);clear h K J E M;go_enter Tryz.func108,Tryz.ntmps108;go_wp2_with fail;refine i.mono ?_;rintro e w1 ⟨rfl,I,N⟩;have H:=qj (And.intro I N);clear i I N;go_wp2_with fail;go_ret;exact⟨rfl,(qg H).1,(qg H).2⟩
attribute [local go_sem ↓ high] ze zf zg zj qak
attribute [local go_sem] qau qav qaw qy zz qck
theorem qz3(T:Nat→Prop)(E M D g:Nat)(S:Nat→Prop)(l:Lk)(sp en lo:Nat)(o q:Nat→Prop)(es:List EvV)(ev:Value)(m:MsgV)(C:Value)(bs:List Live)(w:World)(h:EvSt T w w g S l sp en lo o q es ev)(v:T g)(x:∀k,T k→k<w.heap.size)(J:∀W,Upd T w W→LvO W C bs)(P:bs.length≤1000)(y:l.c.xs.length≤1000)(z:es.length≤10000)(O:w.cell? ⟨E,0,none⟩=some (.pointer (some ⟨g,0,none⟩)))(t:MsB w M m)(N:w.cell? ⟨D,0,none⟩=some C) :
  Calls Tryz.prog 109 #[.pointer (some ⟨E,0,none⟩),.pointer (some ⟨M,0,none⟩),.pointer (some ⟨D,0,none⟩)] w fun e w'=>e = .returned (.int .i64 0)∧∃i,EvSt T w w' g S (l.heard m) sp en lo o q (es++qfe m l.waits bs l.c.xs) i:=by
 have R:=t.row
 have I:=q53 T g S l sp en lo o q es ev m C bs w h v x J P y z t.len
 clear h t J
 go_enter Tryz.func109,Tryz.ntmps109
 go_wp2_with fail
 refine I.mono ?_
 rintro e w1 ⟨rfl,i,H⟩
 have K:=qj H
 clear I H
 go_wp2_with fail
 go_ret
 exact⟨rfl,i,qg K⟩
structure HFin(W:World)(g:Nat)(S0:Nat→Prop)(S:Nat→Prop)(sp en lo SD:Nat)(L:Lk)(es:List EvV)(a:World):Prop where
 upd:Upd (fun k=>S k∨k=SD) W a
 lk:∃S1 SC SJ ev,LkP a g S1 {L with ev:=ev} sp en lo SC SJ∧qka a ev es∧(∀k,ev.ownBlock=some k→¬S1 k)∧(∀k,ev.ownBlock=some k→S k∨W.heap.size≤k)∧(∀k,S1 k→S0 k∨W.heap.size≤k)
def zaz(W:World)(g:Nat)(o S:Nat→Prop)(sp en lo q:Nat)(v:Nat→Prop)(l:Lk)(ev:Value)(es:List EvV)(m:MsgV)(c':Ch)(t:List MsgV)(w:Int)(rec:ByteArray)(i:Nat)(a:World):Prop :=
 if i=0 then qq W a else w=0∧(if i=1 then GSt W g o sp en lo q v t {l with c:=c',ev:=ev} a else if i=2 then GS2 W g o sp en lo q t {l with c:=c',j:=l.j.app rec,ev:=ev} a else if i=3 then GS3 W g o sp en lo q {l with c:=c',j:=l.j.app rec,out:=qdg t l.out,ev:=ev} a else HFin W g o S sp en lo q (Lk.heard {l with c:=c',j:=l.j.app rec,out:=qdg t l.out} m) (es++qfe m l.waits l.c.xs c'.xs) a)
def za0(W:World)(g:Nat)(i:Nat→Prop)(sp en lo m:Nat)(o:Nat→Prop)(l:Lk)(ev:Value)(c':Ch)(t:List MsgV)(q:Int)(x:Int)(a:World):Prop:=x=q∧GSt W g i sp en lo m o t {l with c:=c',ev:=ev} a
theorem qtv(g b P M o BF P0 P1 B:Nat)(w S:Nat→Prop)(l:Lk)(ev:Value)(es:List EvV)(sp en lo:Nat)(SC R:Nat→Prop)(m:MsgV)(c':Ch)(C:List MsgV)(K:Int)(xs:List ByteArray)(v0:Value)(vb:Value)(W:World)
  (h:LkP W g w {l with ev:=ev} sp en lo SC R) (hE:qka W ev es) (a7:∀k,ev.ownBlock=some k→¬w k) (a6:∀k,ev.ownBlock=some k→S k) (t:∀k,w k→S k) (c7:∀k,S k→k<W.heap.size) (q:LkOkW l) (hT:Tabs W) (hA:ApD S) (d1:∀m∈C,SayOk m) (d0:C.length≤1000) (b2:l.c.xs.length≤1000) (b3:c'.xs.length≤1000) (c9:es.length≤10000) (d4:∀a,Upd (fun k=>S k∨k=o) W a→LvO a vb l.c.xs)
  (hF:∀a,qq W a→Calls Tryz.prog 107 #[.pointer (some ⟨en,0,none⟩),.agg m.cells.toArray] a (qdx en SC a c' C K))
  (cL:W.cell? ⟨P,0,none⟩=some (.pointer (some ⟨g,0,none⟩))) (hM:MsB W M m) (Y:W.heap[o]? = some (.cells #[v0] 124 (0,0))) (b8:W.cell? ⟨BF,0,none⟩=some vb)
  (c0:W.cell? ⟨P0,0,none⟩=some (.pointer (some ⟨g,0,none⟩))) (c1:W.cell? ⟨P1,0,none⟩=some (.slice (some ⟨B,0,none⟩) xs.length xs.length)) (hx:∀j x,xs[j]? = some x→W.cell? ⟨B,j,none⟩=some (.string x))
  (hn:xs.length≤1000) (d2:(qab xs).size≤1024) (b5:qhm W b 4 qpv (fun _=>#[]) (qf6 P M o BF P0 P1))
  (E:¬S P∧¬S M∧¬S P0∧¬S P1∧¬S b∧¬S B∧¬S o∧¬S BF) (z:P≠o∧M≠o∧P0≠o∧P1≠o∧b≠o∧B≠o∧BF≠o) (d9:B<W.heap.size) (e2:b<W.heap.size) (b1:o≠4∧o≠1) :
  Calls Tryz.prog 66 #[.pointer (some ⟨g,0,none⟩),.slice (some ⟨b,0,none⟩) 4 4] W fun e w'=>Upd (fun k=>S k∨k=o∨W.heap.size≤k) W w'∧qsv 4 (zaz W g w S sp en lo o R l ev es m c' C K (qab xs)) (za0 W g w sp en lo o R l ev c' C K) e w':=by
 have y:=h.lt
 have e1:=hM.lt
 have d7:=zi Y
 have c5:∀ {a:World} {k:Nat},k<W.heap.size→¬S k→¬Fr w W a k:=fun q V e=>e.elim (fun e=>V (t _ e)) (fun e=>by omega)
 have d6:∀ {a:World},Upd (fun k=>w k∨k=o) W a→Tabs a:=fun u=>hT.upd u (fun e=>e.elim (fun e=>hA.c (t _ e)) (fun e=>b1.1 e.symm)) (fun e=>e.elim (fun e=>hA.d (t _ e)) (fun e=>b1.2 e.symm))
 have n0:∀k,¬S k→¬w k:=fun k h e=>h (t k e)
 refine qrn g b 4 qpv (fun _=>#[]) (qf6 P M o BF P0 P1) (fun k=>S k∨k=o∨W.heap.size≤k) _ _ W (by decide) (by have:=qk h.at_ 6;rw[show W.cell? ⟨g,6,none⟩=some (.bool l.dead) from this,q.dead]) b5 ?_ ?_ ?_
 ·rintro (e | e | e)
  ·exact E.2.2.2.2.1 e
  ·exact z.2.2.2.2.1 e
  ·omega
 ·intro i hi a hC;rcases (by omega:i=0∨i=1∨i=2∨i=3) with rfl | rfl | rfl | rfl
  ·refine⟨enters_of Tryz.func106 (by kernel_rfl) rfl,?_⟩;have nA:qq W a:=hC;have U:¬SC o:=fun e=>E.2.2.2.2.2.2.1 (t _ (h.inC _ e))
   refine(qpu P M o g w {l with ev:=ev} sp en lo SC R m c' C K v0 a (h.new nA) (nA.cell cL (fun h=>h)) (hM.new nA) (nA.old Y (fun h=>h)) U (fun W' n=>hF W' (nA.trans n))).mono ?_;rintro e J ⟨rfl,a0,a1,v,b6,u1,c8,X,rfl⟩;have d5:=qkp X;have e3:=zv X;have nB:=nA.trans b6;have h1:=(h.new nB).chan u1 c8;have z0:=nB.size;have z1:=u1.size;have c6:=u1.old (nB.old Y (fun h=>h)) U;have b0:=zq c6 0 v;have H:Upd (· = o) a1 (a1.setCell ⟨o,0,none⟩ v):=(Upd.refl _ _).set1 _ _;generalize a1.setCell ⟨o,0,none⟩ v=a2 at b0 H ⊢;have z2:=H.size;have h2:=h1.upd H (fun k q e=>by
    rcases q with q | q
    ·exact E.2.2.2.2.2.2.1 (t _ (e▸q))
    ·omega)
   have h3:LkP a2 g (Fr w W a2) {l with c:=c',ev:=ev} sp en lo (Fr SC a0 a1) R:=h2.wider (fun k q=>q.elim .inl (fun e=> .inr ⟨by omega,by omega⟩)) (fun k q=>q.elim (fun e=>by have:=y k e;omega) (fun e=>e.2));have u:Upd (fun k=>w k∨k=o) W a2:=((nB.mono (fun _ _ h=>h.elim)).trans (u1.mono (fun k _ e=> .inl (h.inC k e)))).trans (H.mono (fun k _ e=> .inr e));have st:GSt W g w sp en lo o R C {l with c:=c',ev:=ev} a2:=by
    refine⟨u,⟨v,qk b0 0,?_⟩,_,h3⟩;have d3:=zc X H (fun k q e=>by have:=d5 k q;omega);exact qw3 d3 z0
   refine⟨((b6.mono (fun _ _ h=>h.elim)).trans (u1.mono (fun k _ e=> .inl (t _ (h.inC k e))))).trans (H.mono (fun k _ e=> .inr (.inl e))),?_⟩;by_cases T:K=0
   ·subst T;exact .inl ⟨rfl,rfl,st⟩
   ·exact .inr ⟨K,T,rfl,rfl,st⟩
  ·refine⟨enters_of Tryz.func112 (by kernel_rfl) rfl,?_⟩;obtain⟨T,u,⟨v,Z,X⟩,D,hl⟩:K=0∧GSt W g w sp en lo o R C {l with c:=c',ev:=ev} a:=hC;have z0:=u.size;have a8:=World.block_lt_of_cell? W _ c0;refine(qww P0 P1 B g (Fr w W a) {l with c:=c',ev:=ev} sp en lo D R xs a hl q.dead q.fused q.off ⟨q.many.1,by have:=q.many.2;show l.j.many<_;omega⟩ (by have:=q.len;show l.j.bs.size≤_;omega) (d6 u) hn d2
    (u.cell c0 (fun e=>e.elim (n0 _ E.2.2.1) z.2.2.1)) (u.cell c1 (fun e=>e.elim (n0 _ E.2.2.2.1) z.2.2.2.1)) (fun j x e=>u.cell (hx j x e) (fun e=>e.elim (n0 _ E.2.2.2.2.2.1) z.2.2.2.2.2.1)) (by omega) (c5 a8 E.2.2.1)).mono ?_
   rintro e J ⟨rfl,⟨d8,h2⟩,H⟩;have z2:=H.size;have O:=h.inG;have u3:Upd w a J:=H.mono (fun k _ e=>e.elim (h.inJ k) (fun e=>by rw[e];exact O));refine⟨u3.mono (fun k q e=> .inl (t _ e)),.inl ⟨rfl,T,?_⟩⟩;show GS2 W g w sp en lo o C {l with c:=c',j:=l.j.app (qab xs),ev:=ev} J;refine⟨?_,⟨v,u3.cell Z (n0 _ E.2.2.2.2.2.2.1),zc X u3 (fun k q e=>by have:=qkp X k q;have:=y k e;omega)⟩,?_⟩
   ·exact u.trans (u3.mono (fun k _ e=> .inl e))
   ·exact⟨_,_,h2.wider (fun k q=>q.elim (fun e=>e.elim .inl (fun e=> .inr ⟨e.1,by omega⟩)) (fun e=> .inr ⟨by omega,e.2⟩)) (fun k q=>q.elim (fun e=>by have:=y k e;omega) (fun e=>e.2))⟩
  ·refine⟨enters_of Tryz.func108 (by kernel_rfl) rfl,?_⟩;obtain⟨T,u,⟨v,Z,X⟩,D,I,hl⟩:K=0∧GS2 W g w sp en lo o C {l with c:=c',j:=l.j.app (qab xs),ev:=ev} a:=hC;have O:=h.inG;have b4:=y g O;refine(qz2 P o g W.heap.size _ _ sp en lo D I C v a hl d1 d0 (by have:=q.out;show l.out.size≤_;omega) (u.cell cL (fun e=>e.elim (n0 _ E.1) z.1)) Z X b4).mono ?_;rintro e J ⟨rfl,h2,H⟩;have z2:=H.size;have u3:Upd w a J:=H.mono (fun k _ e=>by have e:k=g:=e;rw[e];exact O);refine⟨u3.mono (fun k q e=> .inl (t _ e)),.inl ⟨rfl,T,?_⟩⟩;show GS3 W g w sp en lo o {l with c:=c',j:=l.j.app (qab xs),out:=qdg C l.out,ev:=ev} J;exact⟨u.trans (u3.mono (fun k _ e=> .inl e)),_,_,LkP.wider h2 (fun k q=>q.elim .inl (fun e=> .inr ⟨e.1,by omega⟩)) (fun k q=>q.elim (fun e=>by have:=y k e;have:=u.size;omega) (fun e=>e.2))⟩
  ·refine⟨enters_of Tryz.func109 (by kernel_rfl) rfl,?_⟩;obtain⟨T,u,D,I,hl⟩:K=0∧GS3 W g w sp en lo o {l with c:=c',j:=l.j.app (qab xs),out:=qdg C l.out,ev:=ev} a:=hC;have za:=u.size;have c4:=hE.lt;have b4:=y g h.inG;have b9:∀k,ev.ownBlock=some k→k≠o:=fun k e e'=>by rw[e'] at e;exact E.2.2.2.2.2.2.1 (a6 _ e)
   have c3:qka a ev es:=hE.upd u (fun k e e'=>e'.elim (a7 k e) (b9 k e));have c2:∀k,ev.ownBlock=some k→¬Fr w W a k:=fun k e e'=>e'.elim (a7 k e) (fun e'=>by have:=c4 k e;omega)
   have N:∀k,(k=g∨ev.ownBlock=some k)→S k:=fun k e=>e.elim (fun e=>by rw[e];exact t _ h.inG) (a6 k)
   refine(qz3 (fun k=>k=g∨ev.ownBlock=some k) P M BF g _ {l with c:=c',j:=l.j.app (qab xs),out:=qdg C l.out} sp en lo D I es ev m vb l.c.xs a ⟨hl,c3,Upd.refl _ _,c2,fun k e=> .inl (.inr e)⟩ (.inl rfl) (fun k e=>by have:=c7 k (N k e);omega)
    (fun W' uW=>d4 W' ((u.mono (fun k _ e=>e.imp (t k) id)).trans (uW.mono (fun k _ e=> .inl (N k e))))) b2 b3 c9 (u.cell cL (fun e=>e.elim (n0 _ E.1) z.1)) (hM.upd u (fun e=>e.elim (n0 _ E.2.1) z.2.1)) (u.cell b8 (fun e=>e.elim (n0 _ E.2.2.2.2.2.2.2) z.2.2.2.2.2.2))).mono ?_
   rintro e J ⟨rfl,b7,V⟩;have zn:=V.u.size;have uS:Upd S a J:=V.u.mono (fun k _ e=>N k e);refine⟨uS.mono (fun k _ e=> .inl e),.inl ⟨rfl,T,?_⟩⟩;show HFin W g w S sp en lo o (Lk.heard {l with c:=c',j:=l.j.app (qab xs),out:=qdg C l.out} m) (es++qfe m l.waits l.c.xs c'.xs) J;exact⟨(u.mono (fun k _ e=>e.imp (t k) id)).trans (uS.mono (fun k _ e=> .inl e)),_,D,I,b7,V.lk,V.row,V.out,fun k e=>(V.from_ k e).imp (N k) (fun e=>by omega),fun k e=>e.imp id (fun e=>e.1)⟩
 ·exact Upd.refl _ _
end
end Go.Proofs.YtfmkdoachjgjbaaGreatDoor
