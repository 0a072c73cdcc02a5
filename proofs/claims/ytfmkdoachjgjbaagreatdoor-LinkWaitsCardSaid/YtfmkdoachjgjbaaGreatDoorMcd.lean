/-
  A link's events: failed, any many.
-/
import Derived.Test.YtfmkdoachjgjbaaGreatDoorMcc
import Derived.Test.YtfmkdoachjgjbaaGreatDoorMbj
import Derived.Test.YtfmkdoachjgjbaaGreatDoorMbc
import Derived.Test.YtfmkdoachjgjbaaGreatDoorMac
import Derived.Defers
import Derived.Test.YtfmkdoachjgjbaaGreatDoorMbi
set_option maxRecDepth 100000
set_option maxHeartbeats 2000000
set_option linter.unusedVariables false
set_option linter.unusedSimpArgs false
namespace Go.Proofs.YtfmkdoachjgjbaaGreatDoor
section
open Go.RowKit
attribute [local go_sem ↓ high] qba qbn qcf qd7 zl qj3 qj4
attribute [local go_sem] qdk qd2 qfi qlt qbf q4d qwb q4k qv
theorem qwr(T:Nat→Prop)(g:Nat)(S:Nat→Prop)(l:Lk)(sp en lo:Nat)(SC SJ:Nat→Prop)(es:List EvV)(a8:Value)(va vb:Value)(m f:List Live)(w0 w:World)(h:EvSt T w0 w g S l sp en lo SC SJ es a8)(d4:T g)
  (hv:∀W,Upd T w0 W→LvO W vb m) (b7:∀W,Upd T w0 W→LvO W va f) (hl:m.length≤100000) (f0:f.length≤100000) (c8:es.length≤200000) :
  Calls Tryz.prog 147 #[.pointer (some ⟨g,0,none⟩),vb,va] w fun e w'=>e = .returned (.tuple #[])∧∃ev,EvSt T w0 w' g S l sp en lo SC SJ (es++qiu m f) ev:=by
 obtain⟨a,cap,rfl,E⟩:=(hv w h.u).shape
 have hf:=fun own id W (n:Upd T w0 W)=>qob own id _ f W (b7 W n) (by omega)
 obtain⟨ab,e6,rfl,b6⟩:=(b7 w h.u).shape
 have J:∀W,Upd T w0 W→∀(i:Nat) (x:Live),m[i]? = some x→∃g',a=some ⟨g',0,none⟩∧qd4 W g' 0 m:=by
  intro W u i x hi;have O:=(List.getElem?_eq_some_iff.1 hi).1;rcases hv W u with ⟨a',k,e,e0⟩ | ⟨g',k,e,hh⟩
  ·rw[e0] at O;simp at O
  ·injection e with e1;exact⟨g',e1,hh.toL⟩
 have HC:=qb J
 have HF:=qb hf
 have H0:=qb h
 clear J hf E b6 hv b7 h
 have f1:(m.length:Int)≤1000000:=by omega
 go_enter Tryz.func147,Tryz.ntmps147
 go_wp2_with fail
 go_loopw [10] (fun iv wr=>∃i:Nat,iv = .int .i64 (i:Int)∧i≤m.length∧Hid (∃ev,EvSt T w0 wr g S l sp en lo SC SJ (es++qiu (m.take i) f) ev)) (fun iv _=>m.length-(intOf iv).toNat)
 case atStart=>exact⟨0,rfl,Nat.zero_le _,qb ⟨a8,by rw[List.take_zero];show EvSt T w0 w g S l sp en lo SC SJ (es++[]) a8;rw[List.append_nil];exact qa H0⟩⟩
 case round =>
  obtain⟨i,rfl,hi,hrel⟩:=hrel;obtain⟨Y,rfl⟩:∃Y:World,Y=wr:=⟨_,rfl⟩;clear H0;by_cases O:i<m.length
  ·obtain⟨x,P⟩:∃x,m[i]? = some x:=⟨_,List.getElem?_eq_getElem O⟩;obtain⟨ev,U⟩:=qa hrel;have d1:=q0r f P;have c6:=q5c (m.take i) f;rw[List.length_take] at c6;have d6:(es++qiu (m.take i) f).length≤300000:=by rw[List.length_append];omega
   have K:es++qiu (m.take (i+1)) f=(es++qiu (m.take i) f)++(if qiv f x=true then [evF x] else []):=by rw[d1,List.append_assoc]
   have I:=qb K;clear d1 c6 K hrel;generalize es++qiu (m.take i) f=es' at U d6 I;obtain⟨g',rfl,hh⟩:=qa HC Y U.u i x P;have E:=hh.row P;rw[Nat.zero_add] at E;have R:=qb U;have e8:(i:Int)<(m.length:Int):=by omega
   have d8:=qhh Y x;have b5:=qg4 Y x;clear U;go_upto_region 3 with fail;obtain⟨hb,nb⟩:=b5;generalize (Y.alloc (.cells (qk Live.zero).toArray 69)).setCells Y.heap.size 0 (qk x)=wb at hb nb ⊢;generalize Y.heap.size=X at hb ⊢;have a6:wb.cell? ⟨X,35,none⟩=some (.bool x.own):=by rw[qg hb,List.getElem?_toArray];exact qez x
   have a7:wb.cell? ⟨X,37,none⟩=some (.bool x.paid):=by rw[qg hb,List.getElem?_toArray];exact qnk x
   have d0:wb.cell? ⟨X,0,none⟩=some (.int .u64 x.h.id):=by rw[qg hb,List.getElem?_toArray];exact qsn x
   have d3:zj wb X 0 35=some (qm x.h).toArray:=by
    have:=qjq (qai hb 38 (by rw[List.size_toArray,qbb])) 0 35 (by omega);rw[qov] at this;exact this
   have Z:=qb d3;have z:=qb ((qa R).new nb);have q:=qa HF true x.h.id wb (qa z).u;have c9:qgy true x.h.id f = -1∧f.findIdx? (qcz true x.h.id)=none∨∃(j:Nat),qgy true x.h.id f=(j:Int)∧f.findIdx? (qcz true x.h.id)=some j:=by
    unfold qgy;cases hc:f.findIdx? (qcz true x.h.id) with
    | none=>exact .inl ⟨rfl,rfl⟩
    | some j=>exact .inr ⟨j,rfl,rfl⟩
   have H:=qb c9;have c7:qiv f x=(x.own&&(!x.paid&&(f.findIdx? (qcz true x.h.id)).isNone)):=rfl;have F:=qb c7;clear hb nb E d8 HF HC hh P c9 c7 R d3;obtain⟨p,hp⟩:∃p,x.paid=p:=⟨_,rfl⟩;obtain⟨o,ho⟩:∃o,x.own=o:=⟨_,rfl⟩;rw[ho] at a6;rw[hp] at a7;have L:=qb (And.intro hp ho);clear hp ho;cases o with
   | false =>
    clear q H;go_wp2_with ((with_reducible first|rfl|refine' ut ?_ ?_;rotate_left|refine' uu ?_)<;>intros);go_roundw
    case rel =>
     have e:qiv f x=false:=by rw[qa F,(qa L).2];rfl
     refine⟨i+1,by go_num,by omega,qb ⟨ev,?_⟩⟩;rw[qa I,e];simp only[Bool.false_eq_true,if_false,List.append_nil];exact qa z
    case measure=>simp[intOf];omega
   | true =>
    cases p with
    | true =>
     clear q H;go_wp2_with ((with_reducible first|rfl|refine' ut ?_ ?_;rotate_left|refine' uu ?_)<;>intros);go_roundw
     case rel =>
      have e:qiv f x=false:=by rw[qa F,(qa L).1,(qa L).2];rfl
      refine⟨i+1,by go_num,by omega,qb ⟨ev,?_⟩⟩;rw[qa I,e];simp only[Bool.false_eq_true,if_false,List.append_nil];exact qa z
     case measure=>simp[intOf];omega
    | false =>
     rcases qa H with ⟨hj,hn⟩ | ⟨j,hj,hn⟩
     ·have b8:Hid (qiv f x=true):=qb (by rw[qa F,(qa L).1,(qa L).2,hn];rfl);rw[hj] at q;clear H hj hn F L;go_wp2_with ((with_reducible first|rfl|refine' ut ?_ ?_;rotate_left|refine' uu ?_)<;>intros);refine q.mono ?_;rintro e wc ⟨rfl,nc⟩;have R:=qb ((qa z).new nc);have rX:zj wc X 0 35=some (qm x.h).toArray:=qbc (qa Z) nc (fun h=>h);clear q nc z d0 a6 a7 Z;go_upto_region 4 with fail;have hC:wc.drew.cell? ⟨g,4,none⟩=some ev∧zj wc.drew X 0 35=some (qm x.h).toArray:=⟨qg (qa R).lk.at_ 4,rX⟩;obtain⟨i9,z9,b9,d7,e4,d9,e2,e3,d5⟩:=qna;have c8:(evW 3 (qm x.h) (qs ze)).length=68:=EvV.len (evF x) ql;have e7:=qbh x.h;refine qaw (fun w'=>w'.cell? ⟨g,4,none⟩=some ev∧zj w' X 0 35=some (qm x.h).toArray) [4,6] (.of [0,1,2,3,4,5,6,7,8,9,10,11,12]) (by kernel_rfl) (by kernel_rfl) hC ?_;simp only[Plan.of];go_wp2_with ((with_reducible first|rfl|refine' ut ?_ ?_;rotate_left|refine' uu ?_)<;>intros);have nC:qu wc (wc.alloc (.cells (evW 3 (qm x.h) (qs ze)).toArray 43)).drew:=((Upd.refl _ _).alloc _).drew;have N:(wc.alloc (.cells (evW 3 (qm x.h) (qs ze)).toArray 43)).drew.heap[wc.heap.size]? = some (.cells (evW 3 (qm x.h) (qs ze)).toArray 43 (0,0)):=qh wc _;have v:=qb ((qa R).new nC);have M:=And.intro (nC.cell hC.1 (fun h=>h)) (qbc rX nC (fun h=>h));refine⟨M,?_⟩;generalize (wc.alloc (.cells (evW 3 (qm x.h) (qs ze)).toArray 43)).drew=wC at v N M nC ⊢;generalize wc.heap.size=D at N ⊢;clear R hC;go_wp2_with (first | (at_builtin;refine wpList_append_own_at _ rfl (.tmp 33) (.tmp 37) 38 rfl 0 43 i9 _ 68 b9 Tryz.underlying38 d7 e4 d9 e2 e3 (by decide) _ _ _ rfl (qa v).row ⟨D,0,none⟩ 1 1 (evW 3 (qm x.h) (qs ze)) rfl (by rw[c8]) ?c1 ?c2 ?c3 ?c4 ?c5 ?_) | ((with_reducible first|rfl|refine' ut ?_ ?_;rotate_left|refine' uu ?_)<;>intros))
      case c1=>exact World.news_of_block (cs:=(evW 3 (qm x.h) (qs ze)).toArray) (fr:=(0,0)) N
      case c2=>exact EvV.one (evF x)
      case c3=>unfold maxLen;omega
      case c4=>have:=Nat.mul_le_mul (show es'.length+1≤1000000 by omega) d5;omega
      case c5=>omega
      intro v' wD C b4 _ V;obtain⟨a',e5,d2⟩:=zv C;have uD:Upd (fun k=>ev.ownBlock=some k) wC wD:=(Upd.refl _ _).grown b4 (fun k hk _=>hk);have b3:¬(ev.ownBlock=some g):=fun e=>(qa v).out g e (qa v).lk.inG
      have f4:wD.frozen? ⟨g,4,none⟩=false:=qo (uD.old (qa v).lk.at_ b3) 4;have c4:wD.cell? ⟨g,4,none⟩=some ev:=uD.cell M.1 b3;have c0:=qb ((qa v).push (e:=(evF x)) d4 C b4 V);rw[d2] at c0 ⊢;clear C V b4 uD N v M b3 nC d2;go_wp2_with (first | ((with_reducible first|rfl|refine' ut ?_ ?_;rotate_left|refine' uu ?_)<;>intros) | refine⟨trivial,?_⟩);go_roundw
      case rel =>
       refine⟨i+1,by go_num,by omega,?_⟩;rw[qa I,if_pos (qa b8)];exact qb ⟨_,qa c0⟩
      case measure=>simp[intOf];omega
     ·rw[hj] at q;have e9:(0:Int)≤(j:Int):=by omega
      have e:Hid (qiv f x=false):=qb (by rw[qa F,(qa L).1,(qa L).2,hn];rfl);clear H hj hn F L;go_wp2_with ((with_reducible first|rfl|refine' ut ?_ ?_;rotate_left|refine' uu ?_)<;>intros);refine q.mono ?_;rintro e' wc ⟨rfl,nc⟩;have R:=qb ((qa z).new nc);clear q nc z d0 a6 a7 Z;go_wp2_with ((with_reducible first|rfl|refine' ut ?_ ?_;rotate_left|refine' uu ?_)<;>intros);go_roundw
      case rel =>
       refine⟨i+1,by go_num,by omega,qb ⟨ev,?_⟩⟩;rw[qa I,qa e];simp only[Bool.false_eq_true,if_false,List.append_nil];exact qa R
      case measure=>simp[intOf];omega
  ·obtain rfl:i=m.length:=by omega
   obtain⟨ev,U⟩:=qa hrel;rw[List.take_length] at U;have HR:=qb U;clear U hrel;go_wp2_with fail;go_end0;exact⟨rfl,ev,qa HR⟩
end
section
open Go.RowKit
attribute [local go_sem ↓ high] qba qbn qcf qd7 zl qj3 qj4 qy qz zb
attribute [local go_sem] qdk qd2 qfi qlt qbf q4d qwb q4k qv qas qat qax
def qqz(m:MsgV)(f:List Live):List EvV:=match f.findIdx? (qcz true m.id) with | some i=>(f[i]?).toList.map (fun x=>evP x m.hash) | none=>[]
def qdg(m:MsgV)(waits:Bool)(f i:List Live):List EvV :=
 if m.kind=4 then qqz m f else if m.kind=9 then (if waits=true then qfb [] i else []) else qfb f i++qiu f i
def Lk.heard(l:Lk)(m:MsgV):Lk:= {l with waits:=if m.kind=9 then false else l.waits}
section
variable {T:Nat→Prop}{w w1 w':World}{g:Nat}{S:Nat→Prop}{l:Lk}{sp en lo:Nat}{SC SJ:Nat→Prop}{es:List EvV}{ev:Value}
theorem EvSt.back(h:EvSt T w1 w' g S l sp en lo SC SJ es ev)(n:qu w w1):EvSt T w w' g S l sp en lo SC SJ es ev :=
 ⟨h.lk,h.row,(n.mono (fun _ _ h=>h.elim)).trans h.u,h.out,fun k e=>(h.from_ k e).imp id (fun e=>by have:=n.size;omega)⟩
theorem EvSt.unwait(h:EvSt T w w' g S l sp en lo SC SJ es ev)(f:T g):EvSt T w (w'.setCell ⟨g,8,none⟩ (.bool false)) g S {l with waits:=false} sp en lo SC SJ es ev:=by
 have i:Upd (· = g) w' (w'.setCell ⟨g,8,none⟩ (.bool false)):=(Upd.refl _ _).set1 _ _;exact⟨h.lk.put rfl rfl rfl rfl,h.row.upd i (fun k m e=>h.out k m (e▸h.lk.inG)),h.u.trans (i.mono (fun k _ e=>by have e:k=g:=e;rw[e];exact f)),h.out,h.from_⟩
end
theorem q8b(T:Nat→Prop)(g:Nat)(S:Nat→Prop)(l:Lk)(sp en lo:Nat)(SC SJ:Nat→Prop)(es:List EvV)(ev:Value)(m:MsgV)(vb:Value)(bs:List Live)(w:World)(h:EvSt T w w g S l sp en lo SC SJ es ev)(F:T g)(b3:∀k,T k→k<w.heap.size)
  (hv:∀W,Upd T w W→LvO W vb bs) (hl:bs.length≤1000) (e8:l.c.xs.length≤1000) (b5:es.length≤10000) (Y:m.hash.length=32) :
  Calls Tryz.prog 110 #[.pointer (some ⟨g,0,none⟩),.agg m.cells.toArray,vb] w fun e w'=>e = .returned (.int .i64 0)∧∃R,EvSt T w w' g S (l.heard m) sp en lo SC SJ (es++qdg m l.waits bs l.c.xs) R:=by
 have b8:=fun W (n:qu w W)=>qur ((h.lk.new n).chn)
 have c1:w.cell? ⟨g,1,none⟩=some (.pointer (some ⟨en,0,none⟩)):=qg h.lk.at_ 1
 have f:=qb h
 have HV:=qb hv
 have a6:=qb b3
 have a7:=qb (show ∀k,ev.ownBlock=some k→T k from fun k e=>(h.from_ k e).elim id (fun e'=>by have:=h.row.lt k e;omega))
 clear h hv b3
 go_enter Tryz.func110,Tryz.ntmps110
 go_upto_region 1 with fail
 have hB:=qan w m Y
 have n1:qu w (w.alloc (.cells m.cells.toArray 101)):=(Upd.refl _ _).alloc _
 generalize w.alloc (.cells m.cells.toArray 101)=w1 at hB n1 ⊢
 generalize w.heap.size=B at hB ⊢
 replace c1:=n1.cell c1 (fun h=>h)
 have c6:=b8 w1 n1
 have HB:=qb hB
 have N1:=qb n1
 clear hB n1 b8
 go_wp2_with fail
 refine c6.mono ?_
 rintro e v ⟨u,rfl,n2,hu⟩
 have c0:=((qa HB).new n2).cells.1
 have d2:=((qa HB).new n2).cells.2.2.1
 have I:=qb ((qa HB).new n2)
 have N2:=qb ((qa N1).trans n2)
 have f:=qb ((qa f).new (qa N2))
 have Z:=(qa N1).size
 have HU:=qb (show ∀W,Upd T v W→LvO W u l.c.xs from fun W uW=>(hu.upd uW (fun k h1 _ e=>by have:=qa a6 k e;omega)).toO)
 have p:=qb (show ∀W,Upd T v W→LvO W vb bs from fun W uW=>qa HV W (((qa N2).mono (fun _ _ h=>h.elim)).trans uW))
 clear c6 N1 n2 c1 hu HB HV a6 Z
 by_cases E:m.kind=4
 ·have C:Hid (l.heard m=l∧qdg m l.waits bs l.c.xs=qqz m bs):=qb ⟨by unfold Lk.heard;rw[if_neg (by omega)],by unfold qdg;rw[if_pos E]⟩;rw[E] at c0;have z:=qob true m.id vb bs v (qa p v (Upd.refl _ _)) (by omega);have d5:qgy true m.id bs = -1∧bs.findIdx? (qcz true m.id)=none∨∃(j:Nat) (y:Live),qgy true m.id bs=(j:Int)∧bs[j]? = some y∧bs.findIdx? (qcz true m.id)=some j:=by
   unfold qgy;cases hc:bs.findIdx? (qcz true m.id) with
   | none=>exact .inl ⟨rfl,rfl⟩
   | some j =>
    obtain⟨X,-⟩:=List.findIdx?_eq_some_iff_getElem.1 hc;exact .inr ⟨j,bs[j],rfl,List.getElem?_eq_getElem X,rfl⟩
  rcases d5 with ⟨X,hn⟩ | ⟨j,y,X,hy,hn⟩
  ·have HP:Hid (qqz m bs=[]):=qb (by unfold qqz;rw[hn]);rw[X] at z;clear X hn E;go_wp2_with fail;refine z.mono ?_;rintro e w3 ⟨rfl,n3⟩;have f:=qb ((qa f).new n3);clear z n3 c0 d2 I HU p;go_wp2_with fail;go_ret;refine⟨rfl,ev,?_⟩;rw[(qa C).1,(qa C).2,qa HP,List.append_nil];exact qa f
  ·have HP:Hid (qqz m bs=[evP y m.hash]):=qb (by unfold qqz;rw[hn];show (bs[j]?).toList.map _=_;rw[hy];rfl);rw[X] at z;have e6:(0:Int)≤(j:Int):=by omega
   clear X hn E;go_wp2_with fail;refine z.mono ?_;rintro e wc ⟨rfl,nc⟩;have f:=qb ((qa f).new nc);obtain⟨M,cb,rfl,b7⟩:∃M cb,vb = .slice (some ⟨M,0,none⟩) bs.length cb∧qdy wc M 0 bs:=by
    rcases qa p wc (nc.mono (fun _ _ h=>h.elim)) with ⟨a',k,e,e0⟩ | ⟨M,k,e,hh⟩
    ·rw[e0] at hy;simp at hy
    ·exact⟨M,k,e,hh⟩
   have e7:=(List.getElem?_eq_some_iff.1 hy).1;have e3:(j:Int)<(bs.length:Int):=by omega
   have rX:zj wc M (j*38) 35=some (qm y.h).toArray:=by
    have hr:=b7.row hy;rw[Nat.zero_add] at hr;have:=qjq hr 0 35 (by omega);rw[qov] at this;exact this
   have rM:zj wc B 4 32=some (qs m.hash).toArray:=((qa I).new nc).cells.2.2.2.2.2.2;have e5:(qs m.hash).length=32:=by rw[qaj,Y]
   have d4:es.length≤300000:=by omega
   clear z nc c0 d2 I HU p b7 hy;generalize P:es=es' at f d4;have c9:=qb P;clear P;go_upto_region 8 with fail;have hC:wc.drew.cell? ⟨g,4,none⟩=some ev∧zj wc.drew M (j*38) 35=some (qm y.h).toArray∧zj wc.drew B 4 32=some (qs m.hash).toArray:=⟨qg (qa f).lk.at_ 4,⟨rX,rM⟩⟩;obtain⟨i9,z9,b9,d6,e1,d8,Z,d9,d3⟩:=qna;have b5:(evW 2 (qm y.h) (qs m.hash)).length=68:=EvV.len (evP y m.hash) Y;have e4:=qbh y.h;refine qaw (fun w'=>w'.cell? ⟨g,4,none⟩=some ev∧zj w' M (j*38) 35=some (qm y.h).toArray∧zj w' B 4 32=some (qs m.hash).toArray) [4,9,11] (.of [0,1,2,3,4,5,6,7,8,9,10,11,12,13,14,15,16,17]) (by kernel_rfl) (by kernel_rfl) hC ?_;simp only[Plan.of];go_wp2_with ((with_reducible first|rfl|refine' ut ?_ ?_;rotate_left|refine' uu ?_)<;>intros);have nC:qu wc (wc.alloc (.cells (evW 2 (qm y.h) (qs m.hash)).toArray 43)).drew:=((Upd.refl _ _).alloc _).drew;have L:(wc.alloc (.cells (evW 2 (qm y.h) (qs m.hash)).toArray 43)).drew.heap[wc.heap.size]? = some (.cells (evW 2 (qm y.h) (qs m.hash)).toArray 43 (0,0)):=qh wc _;have i:=qb ((qa f).new nC);have K:=And.intro (nC.cell hC.1 (fun h=>h)) (And.intro (qbc rX nC (fun h=>h)) (qbc rM nC (fun h=>h)));refine⟨K,?_⟩;generalize (wc.alloc (.cells (evW 2 (qm y.h) (qs m.hash)).toArray 43)).drew=wC at i L K nC ⊢;generalize wc.heap.size=D at L ⊢;clear f hC;go_wp2_with (first | (at_builtin;refine wpList_append_own_at _ rfl (.tmp 36) (.tmp 45) 38 rfl 0 43 i9 _ 68 b9 Tryz.underlying38 d6 e1 d8 Z d9 (by decide) _ _ _ rfl (qa i).row ⟨D,0,none⟩ 1 1 (evW 2 (qm y.h) (qs m.hash)) rfl (by rw[b5]) ?c1 ?c2 ?c3 ?c4 ?c5 ?_) | ((with_reducible first|rfl|refine' ut ?_ ?_;rotate_left|refine' uu ?_)<;>intros))
   case c1=>exact World.news_of_block (cs:=(evW 2 (qm y.h) (qs m.hash)).toArray) (fr:=(0,0)) L
   case c2=>exact EvV.one (evP y m.hash)
   case c3=>unfold maxLen;omega
   case c4=>have:=Nat.mul_le_mul (show es'.length+1≤1000000 by omega) d3;omega
   case c5=>omega
   intro v' wD q V _ O;obtain⟨a',e2,c7⟩:=zv q;have uD:Upd (fun k=>ev.ownBlock=some k) wC wD:=(Upd.refl _ _).grown V (fun k hk _=>hk);have U:¬(ev.ownBlock=some g):=fun e=>(qa i).out g e (qa i).lk.inG
   have f4:wD.frozen? ⟨g,4,none⟩=false:=qo (uD.old (qa i).lk.at_ U) 4;have c4:wD.cell? ⟨g,4,none⟩=some ev:=uD.cell K.1 U;have J:=qb ((qa i).push (e:=(evP y m.hash)) F q V O);rw[c7] at J ⊢;clear q O V uD L i K U nC c7;go_wp2_with (first | ((with_reducible first|rfl|refine' ut ?_ ?_;rotate_left|refine' uu ?_)<;>intros) | refine⟨trivial,?_⟩);go_ret;refine⟨rfl,?_⟩;rw[(qa C).1,(qa C).2,qa HP,qa c9];exact⟨_,qa J⟩
 ·have b4:(m.kind==4)=false:=by simpa using E
  by_cases N:m.kind=9
  ·have C:Hid (l.heard m = {l with waits:=false} ∧ qdg m l.waits bs l.c.xs=if l.waits=true then qfb [] l.c.xs else []):=qb ⟨by unfold Lk.heard;rw[if_pos N],by unfold qdg;rw[if_neg E,if_pos N]⟩;rw[N] at c0;have c8:v.cell? ⟨g,8,none⟩=some (.bool l.waits):=qg (qa f).lk.at_ 8;have f8:=qo (qa f).lk.at_ 8;clear N E b4 I p d2;cases hw:l.waits with
   | false =>
    rw[hw] at c8;have HW:=qb hw;clear hw HU f8;go_wp2_with fail;go_ret;refine⟨rfl,ev,?_⟩;rw[(qa C).1,(qa C).2];have e:({l with waits:=false} : Lk)=l:=by rw[←qa HW]
    rw[e,qa HW];simp only[Bool.false_eq_true,if_false,List.append_nil];exact qa f
   | true =>
    rw[hw] at c8;have HW:=qb hw;have J:=qb ((show EvSt T v v g S l sp en lo SC SJ es ev from⟨(qa f).lk,(qa f).row,Upd.refl _ _,(qa f).out,fun k e=> .inl (qa a7 k e)⟩).unwait F);have H:=qtq T g S {l with waits:=false} sp en lo SC SJ es ev u (.slice none 0 0) [] l.c.xs v (v.setCell ⟨g,8,none⟩ (.bool false)) (qa J) F (fun W _=> .inl ⟨none,0,rfl,rfl⟩) (qa HU) (by simp) (by show l.c.xs.length≤_;omega) (by omega);clear hw f;go_wp2_with fail;refine H.mono ?_;rintro e w3 ⟨rfl,R,h3⟩;have H3:=qb h3;clear H h3;go_wp2_with fail;go_ret;refine⟨rfl,R,?_⟩;rw[(qa C).1,(qa C).2,if_pos (qa HW)];exact(qa H3).back (qa N2)
  ·have C:Hid (l.heard m=l∧qdg m l.waits bs l.c.xs=qfb bs l.c.xs++qiu bs l.c.xs):=qb ⟨by unfold Lk.heard;rw[if_neg N],by unfold qdg;rw[if_neg E,if_neg N]⟩;have b9:(m.kind==9)=false:=by simpa using N
   have a8:EvSt T v v g S l sp en lo SC SJ es ev:=by
    have h:=qa f;exact⟨h.lk,h.row,Upd.refl _ _,h.out,fun k e=> .inl (qa a7 k e)⟩
   have H:=qtq T g S l sp en lo SC SJ es ev u vb bs l.c.xs v v a8 F (qa p) (qa HU) (by omega) (by omega) (by omega);clear E N a8 f;go_wp2_with fail;refine H.mono ?_;rintro e w3 ⟨rfl,d0,h3⟩;have d7:(es++qfb bs l.c.xs).length≤200000:=by
    have:=qtp bs l.c.xs;rw[List.length_append];omega
   have b6:=qwr T g S l sp en lo SC SJ (es++qfb bs l.c.xs) d0 u vb bs l.c.xs v w3 h3 F (qa p) (qa HU) (by omega) (by omega) d7;clear H h3;go_wp2_with fail;refine b6.mono ?_;rintro e w4 ⟨rfl,d1,E⟩;have H4:=qb E;clear b6 E;go_wp2_with fail;go_ret;refine⟨rfl,d1,?_⟩;rw[(qa C).1,(qa C).2,←List.append_assoc];exact(qa H4).back (qa N2)
end
section
open Go.RowKit
structure LkOkW(l:Lk):Prop where
 dead:l.dead=false
 fused:l.j.fused=false
 off:l.j.off=false
 many:0≤l.j.many∧l.j.many<1000000000000
 len:l.j.bs.size≤1000000000000
 out:l.out.size≤1000000000000
theorem qqe:∀(X:List MsgV) (i j:Nat) (m:MsgV),(∀m∈X,m.hash.length=32)→X[i]? = some m→j<38→(X.flatMap MsgV.cells)[i*38+j]? = m.cells[j]?
 | [],i,j,m,_,f,_=>by simp at f
 | y::X,i,j,m,h,f,q=>by
  have p:=y.len (h y (List.mem_cons_self ..));rw[List.flatMap_cons];cases i with
  | zero =>
   simp only[List.getElem?_cons_zero,Option.some.injEq] at f;subst f;rw[List.getElem?_append_left (by rw[p];omega),Nat.zero_mul,Nat.zero_add]
  | succ i =>
   rw[List.getElem?_append_right (by rw[p];omega),p,show (i+1)*38+j-38=i*38+j by omega];exact qqe X i j m (fun m v=>h m (List.mem_cons_of_mem _ v)) (by simpa using f) q
theorem qb3.rows{base:Nat}{w:World}{v:Value}{f:List MsgV}(h:qb3 base w v f)(F:∀m∈f,m.hash.length=32):(f=[]∧v = .slice none 0 0)∨∃g cap,v = .slice (some ⟨g,0,none⟩) f.length cap∧base≤g∧g<w.heap.size∧∀i m,f[i]? = some m→zj w g (i*38) 38=some m.cells.toArray:=by
 rcases h.2 with ⟨e,H⟩ | ⟨g,cap,p,e,I,E,O,_,L,N⟩
 ·exact .inl ⟨List.length_eq_zero_iff.1 H,e⟩
 ·refine .inr ⟨g,cap,e,I,zr E,fun i m q=> ?_⟩;have z:=(List.getElem?_eq_some_iff.1 q).1;have M:i*38+38≤p.size:=by
   rw[L];have:=Nat.mul_le_mul_right 38 (show i+1≤cap by omega);omega
  rw[qbx E (i*38) 38 (by omega)];congr 1;apply Array.ext';rw[Array.toList_extract];show List.extract p.toList (i*38) (i*38+38)=m.cells;have K:=m.len (F m (List.mem_of_getElem? q));apply List.ext_getElem?;intro j;rw[List.extract_eq_take_drop,List.getElem?_take];by_cases J:j<38
  ·rw[if_pos (by omega),List.getElem?_drop];have C:=qqe f i j m F q J;rw[←N,List.getElem?_take,if_pos (by have:=Nat.mul_le_mul_right 38 (show i+1≤f.length from z);omega)] at C;exact C
  ·rw[if_neg (by omega),List.getElem?_eq_none (by omega)]
theorem q1d(p C g base:Nat)(S:Nat→Prop)(l:Lk)(sp en lo:Nat)(z E:Nat→Prop)(i:List MsgV)(v:Value)(w:World)(h:LkP w g S l sp en lo z E)(I:∀m∈i,SayOk m)(P:i.length≤1000)(N:l.out.size≤1099511627776)(F:w.cell? ⟨p,0,none⟩=some (.pointer (some ⟨g,0,none⟩)))(H:w.cell? ⟨C,0,none⟩=some v)(M:qb3 base w v i)(T:g<base) :
  Calls Tryz.prog 108 #[.pointer (some ⟨p,0,none⟩),.pointer (some ⟨C,0,none⟩)] w fun e w'=>e = .returned (.int .i64 0)∧LkP w' g S {l with out:=zz i l.out} sp en lo z E∧Upd (· = g) w w':=by
 rcases M.rows (fun m h=>(I m h).put.ok.len) with ⟨rfl,rfl⟩ | ⟨B,cap,rfl,R,-,L⟩
 ·refine(qw3 p C g none 0 w F H).mono ?_;rintro e w' ⟨rfl,q⟩;exact⟨rfl,h.new (q.upd _),q.upd _⟩
 ·have f:=q7n g B cap S l sp en lo z E i w h I P N L (by omega);clear h M L I N;go_enter Tryz.func108,Tryz.ntmps108;go_wp2_with fail;refine f.mono ?_;rintro e w1 ⟨rfl,K,O⟩;have J:=qb (And.intro K O);clear f K O;go_wp2_with fail;go_ret;exact⟨rfl,(qa J).1,(qa J).2⟩
attribute [local go_sem ↓ high] qy qz zb zf qae
attribute [local go_sem] qas qat qax qv zx qck
theorem q1e(T:Nat→Prop)(I M H g:Nat)(S:Nat→Prop)(l:Lk)(sp en lo:Nat)(i p:Nat→Prop)(es:List EvV)(ev:Value)(m:MsgV)(F:Value)(bs:List Live)(w:World)(h:EvSt T w w g S l sp en lo i p es ev)(v:T g)(z:∀k,T k→k<w.heap.size)(L:∀W,Upd T w W→LvO W F bs)(R:bs.length≤1000)(C:l.c.xs.length≤1000)(E:es.length≤10000)(P:w.cell? ⟨I,0,none⟩=some (.pointer (some ⟨g,0,none⟩)))(q:MsB w M m)(O:w.cell? ⟨H,0,none⟩=some F) :
  Calls Tryz.prog 109 #[.pointer (some ⟨I,0,none⟩),.pointer (some ⟨M,0,none⟩),.pointer (some ⟨H,0,none⟩)] w fun e w'=>e = .returned (.int .i64 0)∧∃f,EvSt T w w' g S (l.heard m) sp en lo i p (es++qdg m l.waits bs l.c.xs) f:=by
 have U:=q.row
 have K:=q8b T g S l sp en lo i p es ev m F bs w h v z L R C E q.len
 clear h q L
 go_enter Tryz.func109,Tryz.ntmps109
 go_wp2_with fail
 refine K.mono ?_
 rintro e w1 ⟨rfl,f,J⟩
 have N:=qb J
 clear K J
 go_wp2_with fail
 go_ret
 exact⟨rfl,f,qa N⟩
structure HFin(W:World)(g:Nat)(S0:Nat→Prop)(S:Nat→Prop)(sp en lo SD:Nat)(L:Lk)(es:List EvV)(a:World):Prop where
 upd:Upd (fun k=>S k∨k=SD) W a
 lk:∃S1 SC SJ ev,LkP a g S1 {L with ev:=ev} sp en lo SC SJ∧qin a ev es∧(∀k,ev.ownBlock=some k→¬S1 k)∧(∀k,ev.ownBlock=some k→S k∨W.heap.size≤k)∧(∀k,S1 k→S0 k∨W.heap.size≤k)
def zdk(W:World)(g:Nat)(f S:Nat→Prop)(sp en lo p:Nat)(v:Nat→Prop)(l:Lk)(ev:Value)(es:List EvV)(m:MsgV)(c':Ch)(q:List MsgV)(er:Int)(rec:ByteArray)(i:Nat)(a:World):Prop :=
 if i=0 then qu W a else er=0∧(if i=1 then GSt W g f sp en lo p v q {l with c:=c',ev:=ev} a else if i=2 then GS2 W g f sp en lo p q {l with c:=c',j:=l.j.app rec,ev:=ev} a else if i=3 then GS3 W g f sp en lo p {l with c:=c',j:=l.j.app rec,out:=zz q l.out,ev:=ev} a else HFin W g f S sp en lo p (Lk.heard {l with c:=c',j:=l.j.app rec,out:=zz q l.out} m) (es++qdg m l.waits l.c.xs c'.xs) a)
def zdl(W:World)(g:Nat)(f:Nat→Prop)(sp en lo i:Nat)(m:Nat→Prop)(l:Lk)(ev:Value)(c':Ch)(p:List MsgV)(er:Int)(x:Int)(a:World):Prop:=x=er∧GSt W g f sp en lo i m p {l with c:=c',ev:=ev} a
theorem quf(g b P M f BF P0 P1 B:Nat)(z S:Nat→Prop)(l:Lk)(ev:Value)(es:List EvV)(sp en lo:Nat)(SC R:Nat→Prop)(m:MsgV)(c':Ch)(F:List MsgV)(er:Int)(xs:List ByteArray)(v0:Value)(vb:Value)(W:World)
  (h:LkP W g z {l with ev:=ev} sp en lo SC R) (hE:qin W ev es) (a8:∀k,ev.ownBlock=some k→¬z k) (a7:∀k,ev.ownBlock=some k→S k) (q:∀k,z k→S k) (d1:∀k,S k→k<W.heap.size) (p:LkOkW l) (hT:Tabs W) (hA:ApD S) (d5:∀m∈F,SayOk m) (d4:F.length≤1000) (b6:l.c.xs.length≤1000) (b7:c'.xs.length≤1000) (d3:es.length≤10000) (d8:∀a,Upd (fun k=>S k∨k=f) W a→LvO a vb l.c.xs)
  (hF:∀a,qu W a→Calls Tryz.prog 107 #[.pointer (some ⟨en,0,none⟩),.agg m.cells.toArray] a (qe4 en SC a c' F er))
  (cL:W.cell? ⟨P,0,none⟩=some (.pointer (some ⟨g,0,none⟩))) (hM:MsB W M m) (Z:W.heap[f]? = some (.cells #[v0] 124 (0,0))) (c4:W.cell? ⟨BF,0,none⟩=some vb)
  (c0:W.cell? ⟨P0,0,none⟩=some (.pointer (some ⟨g,0,none⟩))) (c1:W.cell? ⟨P1,0,none⟩=some (.slice (some ⟨B,0,none⟩) xs.length xs.length)) (hx:∀j x,xs[j]? = some x→W.cell? ⟨B,j,none⟩=some (.string x))
  (hn:xs.length≤1000) (d6:(zk xs).size≤1024) (b9:qio W b 4 q54 (fun _=>#[]) (qoj P M f BF P0 P1))
  (I:¬S P∧¬S M∧¬S P0∧¬S P1∧¬S b∧¬S B∧¬S f∧¬S BF) (E:P≠f∧M≠f∧P0≠f∧P1≠f∧b≠f∧B≠f∧BF≠f) (e3:B<W.heap.size) (e5:b<W.heap.size) (b5:f≠4∧f≠1) :
  Calls Tryz.prog 66 #[.pointer (some ⟨g,0,none⟩),.slice (some ⟨b,0,none⟩) 4 4] W fun e w'=>Upd (fun k=>S k∨k=f∨W.heap.size≤k) W w'∧qtc 4 (zdk W g z S sp en lo f R l ev es m c' F er (zk xs)) (zdl W g z sp en lo f R l ev c' F er) e w':=by
 have C:=h.lt
 have e4:=hM.lt
 have e1:=zr Z
 have c9:∀ {a:World} {k:Nat},k<W.heap.size→¬S k→¬Fr z W a k:=fun p V e=>e.elim (fun e=>V (q _ e)) (fun e=>by omega)
 have e0:∀ {a:World},Upd (fun k=>z k∨k=f) W a→Tabs a:=fun u=>hT.upd u (fun e=>e.elim (fun e=>hA.c (q _ e)) (fun e=>b5.1 e.symm)) (fun e=>e.elim (fun e=>hA.d (q _ e)) (fun e=>b5.2 e.symm))
 have Y:∀k,¬S k→¬z k:=fun k h e=>h (q k e)
 refine qsa g b 4 q54 (fun _=>#[]) (qoj P M f BF P0 P1) (fun k=>S k∨k=f∨W.heap.size≤k) _ _ W (by decide) (by have:=qg h.at_ 6;rw[show W.cell? ⟨g,6,none⟩=some (.bool l.dead) from this,p.dead]) b9 ?_ ?_ ?_
 ·rintro (e | e | e)
  ·exact I.2.2.2.2.1 e
  ·exact E.2.2.2.2.1 e
  ·omega
 ·intro i hi a hC;rcases (by omega:i=0∨i=1∨i=2∨i=3) with rfl | rfl | rfl | rfl
  ·refine⟨enters_of Tryz.func106 (by kernel_rfl) rfl,?_⟩;have nA:qu W a:=hC;have U:¬SC f:=fun e=>I.2.2.2.2.2.2.1 (q _ (h.inC _ e))
   refine(q1c P M f g z {l with ev:=ev} sp en lo SC R m c' F er v0 a (h.new nA) (nA.cell cL (fun h=>h)) (hM.new nA) (nA.old Z (fun h=>h)) U (fun W' n=>hF W' (nA.trans n))).mono ?_;rintro e L ⟨rfl,a0,a1,v,c2,u1,d2,X,rfl⟩;have d9:=qlx X;have e6:=qab X;have nB:=nA.trans c2;have h1:=(h.new nB).chan u1 d2;have z0:=nB.size;have z1:=u1.size;have d0:=u1.old (nB.old Z (fun h=>h)) U;have b4:=zt d0 0 v;have J:Upd (· = f) a1 (a1.setCell ⟨f,0,none⟩ v):=(Upd.refl _ _).set1 _ _;generalize a1.setCell ⟨f,0,none⟩ v=a2 at b4 J ⊢;have z2:=J.size;have h2:=h1.upd J (fun k p e=>by
    rcases p with p | p
    ·exact I.2.2.2.2.2.2.1 (q _ (e▸p))
    ·omega)
   have h3:LkP a2 g (Fr z W a2) {l with c:=c',ev:=ev} sp en lo (Fr SC a0 a1) R:=h2.wider (fun k p=>p.elim .inl (fun e=> .inr ⟨by omega,by omega⟩)) (fun k p=>p.elim (fun e=>by have:=C k e;omega) (fun e=>e.2));have u:Upd (fun k=>z k∨k=f) W a2:=((nB.mono (fun _ _ h=>h.elim)).trans (u1.mono (fun k _ e=> .inl (h.inC k e)))).trans (J.mono (fun k _ e=> .inr e));have st:GSt W g z sp en lo f R F {l with c:=c',ev:=ev} a2:=by
    refine⟨u,⟨v,qg b4 0,?_⟩,_,h3⟩;have d7:=zq X J (fun k p e=>by have:=d9 k p;omega);exact qxy d7 z0
   refine⟨((c2.mono (fun _ _ h=>h.elim)).trans (u1.mono (fun k _ e=> .inl (q _ (h.inC k e))))).trans (J.mono (fun k _ e=> .inr (.inl e))),?_⟩;by_cases T:er=0
   ·subst T;exact .inl ⟨rfl,rfl,st⟩
   ·exact .inr ⟨er,T,rfl,rfl,st⟩
  ·refine⟨enters_of Tryz.func112 (by kernel_rfl) rfl,?_⟩;obtain⟨T,u,⟨v,a6,X⟩,H,hl⟩:er=0∧GSt W g z sp en lo f R F {l with c:=c',ev:=ev} a:=hC;have z0:=u.size;have b3:=World.block_lt_of_cell? W _ c0;refine(qxt P0 P1 B g (Fr z W a) {l with c:=c',ev:=ev} sp en lo H R xs a hl p.dead p.fused p.off ⟨p.many.1,by have:=p.many.2;show l.j.many<_;omega⟩ (by have:=p.len;show l.j.bs.size≤_;omega) (e0 u) hn d6
    (u.cell c0 (fun e=>e.elim (Y _ I.2.2.1) E.2.2.1)) (u.cell c1 (fun e=>e.elim (Y _ I.2.2.2.1) E.2.2.2.1)) (fun j x e=>u.cell (hx j x e) (fun e=>e.elim (Y _ I.2.2.2.2.2.1) E.2.2.2.2.2.1)) (by omega) (c9 b3 I.2.2.1)).mono ?_
   rintro e L ⟨rfl,⟨e2,h2⟩,J⟩;have z2:=J.size;have O:=h.inG;have u3:Upd z a L:=J.mono (fun k _ e=>e.elim (h.inJ k) (fun e=>by rw[e];exact O));refine⟨u3.mono (fun k p e=> .inl (q _ e)),.inl ⟨rfl,T,?_⟩⟩;show GS2 W g z sp en lo f F {l with c:=c',j:=l.j.app (zk xs),ev:=ev} L;refine⟨?_,⟨v,u3.cell a6 (Y _ I.2.2.2.2.2.2.1),zq X u3 (fun k p e=>by have:=qlx X k p;have:=C k e;omega)⟩,?_⟩
   ·exact u.trans (u3.mono (fun k _ e=> .inl e))
   ·exact⟨_,_,h2.wider (fun k p=>p.elim (fun e=>e.elim .inl (fun e=> .inr ⟨e.1,by omega⟩)) (fun e=> .inr ⟨by omega,e.2⟩)) (fun k p=>p.elim (fun e=>by have:=C k e;omega) (fun e=>e.2))⟩
  ·refine⟨enters_of Tryz.func108 (by kernel_rfl) rfl,?_⟩;obtain⟨T,u,⟨v,a6,X⟩,H,K,hl⟩:er=0∧GS2 W g z sp en lo f F {l with c:=c',j:=l.j.app (zk xs),ev:=ev} a:=hC;have O:=h.inG;have b8:=C g O;refine(q1d P f g W.heap.size _ _ sp en lo H K F v a hl d5 d4 (by have:=p.out;show l.out.size≤_;omega) (u.cell cL (fun e=>e.elim (Y _ I.1) E.1)) a6 X b8).mono ?_;rintro e L ⟨rfl,h2,J⟩;have z2:=J.size;have u3:Upd z a L:=J.mono (fun k _ e=>by have e:k=g:=e;rw[e];exact O);refine⟨u3.mono (fun k p e=> .inl (q _ e)),.inl ⟨rfl,T,?_⟩⟩;show GS3 W g z sp en lo f {l with c:=c',j:=l.j.app (zk xs),out:=zz F l.out,ev:=ev} L;exact⟨u.trans (u3.mono (fun k _ e=> .inl e)),_,_,LkP.wider h2 (fun k p=>p.elim .inl (fun e=> .inr ⟨e.1,by omega⟩)) (fun k p=>p.elim (fun e=>by have:=C k e;have:=u.size;omega) (fun e=>e.2))⟩
  ·refine⟨enters_of Tryz.func109 (by kernel_rfl) rfl,?_⟩;obtain⟨T,u,H,K,hl⟩:er=0∧GS3 W g z sp en lo f {l with c:=c',j:=l.j.app (zk xs),out:=zz F l.out,ev:=ev} a:=hC;have za:=u.size;have c8:=hE.lt;have b8:=C g h.inG;have c5:∀k,ev.ownBlock=some k→k≠f:=fun k e e'=>by rw[e'] at e;exact I.2.2.2.2.2.2.1 (a7 _ e)
   have c7:qin a ev es:=hE.upd u (fun k e e'=>e'.elim (a8 k e) (c5 k e));have c6:∀k,ev.ownBlock=some k→¬Fr z W a k:=fun k e e'=>e'.elim (a8 k e) (fun e'=>by have:=c8 k e;omega)
   have N:∀k,(k=g∨ev.ownBlock=some k)→S k:=fun k e=>e.elim (fun e=>by rw[e];exact q _ h.inG) (a7 k)
   refine(q1e (fun k=>k=g∨ev.ownBlock=some k) P M BF g _ {l with c:=c',j:=l.j.app (zk xs),out:=zz F l.out} sp en lo H K es ev m vb l.c.xs a ⟨hl,c7,Upd.refl _ _,c6,fun k e=> .inl (.inr e)⟩ (.inl rfl) (fun k e=>by have:=d1 k (N k e);omega)
    (fun W' uW=>d8 W' ((u.mono (fun k _ e=>e.imp (q k) id)).trans (uW.mono (fun k _ e=> .inl (N k e))))) b6 b7 d3 (u.cell cL (fun e=>e.elim (Y _ I.1) E.1)) (hM.upd u (fun e=>e.elim (Y _ I.2.1) E.2.1)) (u.cell c4 (fun e=>e.elim (Y _ I.2.2.2.2.2.2.2) E.2.2.2.2.2.2))).mono ?_
   rintro e L ⟨rfl,c3,V⟩;have zn:=V.u.size;have uS:Upd S a L:=V.u.mono (fun k _ e=>N k e);refine⟨uS.mono (fun k _ e=> .inl e),.inl ⟨rfl,T,?_⟩⟩;show HFin W g z S sp en lo f (Lk.heard {l with c:=c',j:=l.j.app (zk xs),out:=zz F l.out} m) (es++qdg m l.waits l.c.xs c'.xs) L;exact⟨(u.mono (fun k _ e=>e.imp (q k) id)).trans (uS.mono (fun k _ e=> .inl e)),_,H,K,c3,V.lk,V.row,V.out,fun k e=>(V.from_ k e).imp (N k) (fun e=>by omega),fun k e=>e.imp id (fun e=>e.1)⟩
 ·exact Upd.refl _ _
end
section
open Go.RowKit
structure LvP(w:World)(g:Nat)(S S0:Nat→Prop)(l:Lk)(ev:Value)(es:List EvV)(sp en lo:Nat)(SC SJ:Nat→Prop):Prop where
 lk:LkP w g S0 {l with ev:=ev} sp en lo SC SJ
 row:qin w ev es
 out:∀k,ev.ownBlock=some k→¬S0 k
 inE:∀k,ev.ownBlock=some k→S k
 in0:∀k,S0 k→S k
 lt:∀k,S k→k<w.heap.size
def qcp(w:World)(g:Nat)(S:Nat→Prop)(l:Lk)(es:List EvV)(sp en lo:Nat):Prop:=∃f i m ev,LvP w g S f l ev es sp en lo i m
def Lk.hearR(l:Lk)(c':Ch)(i:List MsgV)(m:MsgV)(f:ByteArray)(er:Int):Lk:=if er=0 then Lk.heard {l with c:=c',j:=l.j.app (zk [zc 6 1,f]),out:=zz i l.out} m else {l with c:=c'}
def qlp(es:List EvV)(m:MsgV)(waits:Bool)(f i:List Live)(er:Int):List EvV:=if er=0 then es++qdg m waits f i else es
def LkV(w:World)(g:Nat)(S:Nat→Prop)(l:Lk)(es:List EvV):Prop:=∃sp en lo,qcp w g S l es sp en lo
attribute [local go_sem ↓ high] qy qz zb zf qae
attribute [local go_sem] qas qat qax qv zx qck
theorem q1t(g:Nat)(S S0:Nat→Prop)(l:Lk)(ev:Value)(es:List EvV)(sp en lo:Nat)(SC SJ:Nat→Prop)(m:MsgV)(c':Ch)(ms:List MsgV)(er:Int)(f:ByteArray)(w:World)(h:LvP w g S S0 l ev es sp en lo SC SJ)(hk:LkOkW l)(hT:Tabs w)(hA:ApD S)(N:∀m∈ms,SayOk m)(L:ms.length≤1000)(p:l.c.xs.length≤1000)(q:c'.xs.length≤1000)(v:es.length≤10000)(f4:m.hash.length=32)(f9:f.size≤1000)
  (hD:∀W,Calls Tryz.prog 105 #[.string f] W (qa1 (.tuple #[.agg m.cells.toArray,.int .i64 0]) W))
  (hF:∀a,qu w a→Calls Tryz.prog 107 #[.pointer (some ⟨en,0,none⟩),.agg m.cells.toArray] a (qe4 en SC a c' ms er)) :
  Calls Tryz.prog 65 #[.pointer (some ⟨g,0,none⟩),.string f] w fun e w'=>e = .returned (.int .i64 er)∧Upd S w w'∧qcp w' g (Fr S w w') (l.hearR c' ms m f er) (qlp es m l.waits l.c.xs c'.xs er) sp en lo:=by
 have f8:∀(fn:Fn) (first cap:Array Value) (w:World),(Instr.makeFunc fn first cap).run Tryz.prog w = .ok (.func fn first cap) w:=fun _ _ _ _=>rfl
 have c1:w.cell? ⟨g,1,none⟩=some (.pointer (some ⟨en,0,none⟩)):=qg h.lk.at_ 1
 have HX:=qb (And.intro h (And.intro hk (And.intro hF (And.intro hT hA))))
 have f2:=qb h.lt
 have d1:=fun W (n:qu w W)=>qur ((h.lk.new n).chn)
 have e6:=qb (And.intro N (And.intro L (And.intro p (And.intro q v))))
 clear N L p q v
 clear h hk hF hT hA
 go_enter Tryz.func65,Tryz.ntmps65
 go_upto_region 1 with fail
 have b0:=qh w (.cells #[.pointer (some ⟨g,0,none⟩)] 28)
 have n0:qu w (w.alloc (.cells #[.pointer (some ⟨g,0,none⟩)] 28)):=(Upd.refl _ _).alloc _
 have z0:(w.alloc (.cells #[.pointer (some ⟨g,0,none⟩)] 28)).heap.size=w.heap.size+1:=World.size_alloc _ _
 generalize w.alloc (.cells #[.pointer (some ⟨g,0,none⟩)] 28)=w0 at b0 n0 z0 ⊢
 generalize c7:w.heap.size=C at b0 z0 ⊢
 have e7:=qb c7
 have Z0:=qb z0
 have B0:=qb b0
 have N0:=qb n0
 clear c7 b0 n0 z0
 go_wp2_with fail
 refine(hD w0).mono ?_
 rintro e w1 ⟨rfl,n1⟩
 have N1:=qb ((qa N0).trans n1)
 have B1:=qb (n1.old (qa B0) (fun h=>h))
 have Z1:=qb n1.size
 clear n1 hD N0 B0
 obtain⟨E,X,O⟩:=qi3 w1 m f4
 go_upto_region 2 with fail
 change Code.wp _ _ _ _ (qjz w1 m)
 generalize qjz w1 m=w2 at X O ⊢
 generalize Y:w1.heap.size=M at X E ⊢
 have c2:=O.cell ((qa N1).cell c1 (fun h=>h)) (fun h=>h)
 have d0:=d1 w2 ((qa N1).trans O)
 have d2:w2.cell? ⟨C,0,none⟩=some (.pointer (some ⟨g,0,none⟩)):=O.cell (qg (qa B1) 0) (fun h=>h)
 have H2:=qb (And.intro X (And.intro O Y))
 clear E X O Y d1 c1
 go_wp2_with fail
 refine d0.mono ?_
 rintro e w3 ⟨lu,rfl,n3,c0⟩
 obtain⟨la,ln,lk,rfl⟩:∃a n k,lu = .slice a n k:=c0.elim (fun⟨a,k,e,_⟩=>⟨a,0,k,e⟩) (fun⟨g,cap,e,_,_⟩=>⟨_,_,_,e⟩)
 have c6:=qb c0
 clear c0
 have d3:=n3.cell d2 (fun h=>h)
 have H3:=qb n3
 clear d0 n3 c2 d2
 go_upto_region 5 with fail
 have b4:=qh w3 (.cells #[.slice la ln lk] 46)
 have n4:qu w3 (w3.alloc (.cells #[.slice la ln lk] 46)):=(Upd.refl _ _).alloc _
 have z4:(w3.alloc (.cells #[.slice la ln lk] 46)).heap.size=w3.heap.size+1:=World.size_alloc _ _
 generalize w3.alloc (.cells #[.slice la ln lk] 46)=w4 at b4 n4 z4 ⊢
 generalize F:w3.heap.size=BF at b4 z4 ⊢
 have H4:=qb (And.intro b4 (And.intro n4 (And.intro z4 F)))
 have d4:=n4.cell d3 (fun h=>h)
 clear b4 n4 z4 F d3
 go_upto_region 6 with fail
 have b5:=qh w4 (.cells #[.slice none 0 0] 124)
 have n5:qu w4 (w4.alloc (.cells #[.slice none 0 0] 124)):=(Upd.refl _ _).alloc _
 have z5:(w4.alloc (.cells #[.slice none 0 0] 124)).heap.size=w4.heap.size+1:=World.size_alloc _ _
 generalize w4.alloc (.cells #[.slice none 0 0] 124)=w5 at b5 n5 z5 ⊢
 generalize H:w4.heap.size=J at b5 z5 ⊢
 have H5:=qb (And.intro b5 (And.intro n5 (And.intro z5 H)))
 have d5:w5.drew.cell? ⟨C,0,none⟩=some (.pointer (some ⟨g,0,none⟩)):=n5.cell d4 (fun h=>h)
 clear b5 n5 z5 H d4
 refine qaw (fun w'=>w'.cell? ⟨C,0,none⟩=some (.pointer (some ⟨g,0,none⟩))) [0,2] (.of [0,1,2,3,4,5,6,7,8,9,10,11]) (by kernel_rfl) (by kernel_rfl) d5 ?_
 simp only[Plan.of]
 go_wp2_with ((with_reducible first|rfl|refine' ut ?_ ?_;rotate_left|refine' uu ?_)<;>intros)
 refine(qbi 6 1 w5.drew (by decide) (by decide) (by decide)).mono ?_
 rintro e P ⟨rfl,n6⟩
 have n6:=n6.ofDrew
 have d6:P.cell? ⟨C,0,none⟩=some (.pointer (some ⟨g,0,none⟩)):=n6.cell d5 (fun h=>h)
 have H6:=qb n6
 clear n6 d5
 go_wp2_with (first | ((with_reducible first|rfl|refine' ut ?_ ?_;rotate_left|refine' uu ?_)<;>intros) | refine⟨d6,?_⟩)
 have b7:=qh P (.cells #[.string (zc 6 1),.string f] 9)
 have n7:qu P (P.alloc (.cells #[.string (zc 6 1),.string f] 9)):=(Upd.refl _ _).alloc _
 have z7:(P.alloc (.cells #[.string (zc 6 1),.string f] 9)).heap.size=P.heap.size+1:=World.size_alloc _ _
 generalize P.alloc (.cells #[.string (zc 6 1),.string f] 9)=w7 at b7 n7 z7 ⊢
 generalize V:P.heap.size=B at b7 z7 ⊢
 have d7:=n7.cell d6 (fun h=>h)
 have H7:=qb (And.intro b7 (And.intro n7 (And.intro z7 V)))
 clear b7 n7 z7 V d6
 refine⟨d7,?_⟩
 go_wp2_with ((with_reducible first|rfl|refine' ut ?_ ?_;rotate_left|refine' uu ?_)<;>intros)
 refine(qk3 g _ _ _ w7).mono ?_
 rintro e w8 ⟨P0,P1,rfl,n8,T,U,Z,a6,p0,p1⟩
 have d8:=n8.cell d7 (fun h=>h)
 have H8:=qb (And.intro n8 (And.intro T (And.intro U (And.intro Z (And.intro a6 (And.intro p0 p1))))))
 clear n8 T U Z a6 p0 p1 d7
 go_wp2_with (first | ((with_reducible first|rfl|refine' ut ?_ ?_;rotate_left|refine' uu ?_)<;>intros) | refine⟨d8,?_⟩)
 have b9:=qh w8 (.cells #[.func (.func 106) #[] #[.pointer (some ⟨C,0,none⟩),.pointer (some ⟨M,0,none⟩),.pointer (some ⟨J,0,none⟩)],.func (.func 112) #[] #[.pointer (some ⟨P0,0,none⟩),.pointer (some ⟨P1,0,none⟩)],.func (.func 108) #[] #[.pointer (some ⟨C,0,none⟩),.pointer (some ⟨J,0,none⟩)],.func (.func 109) #[] #[.pointer (some ⟨C,0,none⟩),.pointer (some ⟨M,0,none⟩),.pointer (some ⟨BF,0,none⟩)]] 62)
 have n9:qu w8 (w8.alloc (.cells #[.func (.func 106) #[] #[.pointer (some ⟨C,0,none⟩),.pointer (some ⟨M,0,none⟩),.pointer (some ⟨J,0,none⟩)],.func (.func 112) #[] #[.pointer (some ⟨P0,0,none⟩),.pointer (some ⟨P1,0,none⟩)],.func (.func 108) #[] #[.pointer (some ⟨C,0,none⟩),.pointer (some ⟨J,0,none⟩)],.func (.func 109) #[] #[.pointer (some ⟨C,0,none⟩),.pointer (some ⟨M,0,none⟩),.pointer (some ⟨BF,0,none⟩)]] 62)):=(Upd.refl _ _).alloc _
 generalize w8.alloc (.cells #[.func (.func 106) #[] #[.pointer (some ⟨C,0,none⟩),.pointer (some ⟨M,0,none⟩),.pointer (some ⟨J,0,none⟩)],.func (.func 112) #[] #[.pointer (some ⟨P0,0,none⟩),.pointer (some ⟨P1,0,none⟩)],.func (.func 108) #[] #[.pointer (some ⟨C,0,none⟩),.pointer (some ⟨J,0,none⟩)],.func (.func 109) #[] #[.pointer (some ⟨C,0,none⟩),.pointer (some ⟨M,0,none⟩),.pointer (some ⟨BF,0,none⟩)]] 62)=W at b9 n9 ⊢
 have d9:=n9.cell d8 (fun h=>h)
 refine⟨d9,?_⟩
 obtain⟨h,hk,hF,hT,hA⟩:=qa HX
 obtain⟨hM,O,Y⟩:=qa H2
 obtain⟨b4,n4,z4,F⟩:=qa H4
 obtain⟨b5,n5,z5,H⟩:=qa H5
 obtain⟨b7,n7,z7,V⟩:=qa H7
 obtain⟨n8,T,U,Z,a6,p0,p1⟩:=qa H8
 have c8:=qa e7
 have a8:=n8.trans n9
 have e5:=n7.trans a8
 have c5:=(qa H6).trans e5
 have c4:=n5.trans c5
 have a7:=n4.trans c4
 have c3:=(qa H3).trans a7
 have e4:=O.trans c3
 have I:qu w W:=(qa N1).trans e4
 have s1:=(qa N1).size
 have s0:=qa Z0
 have f7:=qa Z1
 have s2:=O.size
 have s3:=(qa H3).size
 have s6:=(qa H6).size
 have s8:=n8.size
 have f1:=hM.lt
 have R:∀k,w.heap.size≤k→¬S k:=fun k hk e=>by have:=qa f2 k e;omega
 have f6:=hT.lt
 have b3:qio W w8.heap.size 4 q54 (fun _=>#[]) (qoj C M J BF P0 P1):=by
  intro i hi;rcases (by omega:i=0∨i=1∨i=2∨i=3) with rfl | rfl | rfl | rfl
  ·exact qg b9 0
  ·exact qg b9 1
  ·exact qg b9 2
  ·exact qg b9 3
 have e3:∀j x,[zc 6 1,f][j]? = some x→W.cell? ⟨B,j,none⟩=some (.string x):=by
  intro j x e;rw[qg (a8.old b7 (fun h=>h)) j]
  match j,e with
  | 0,e=>cases e;rfl
  | 1,e=>cases e;rfl
 have c9:(zk [zc 6 1,f]).size≤1024:=by
  have e0:(⟨#[]⟩:ByteArray).size=0:=rfl;unfold zk zk zk;simp only[ByteArray.size_append,qak];omega
 obtain⟨N,L,p,q,v⟩:=qa e6
 have f5:=O.size
 have e1:∀a,Upd (fun k=>S k∨k=J) W a→LvO a (.slice la ln lk) l.c.xs:=fun a u=>(((qa c6).upd a7 (fun _ _ _ h=>h)).upd2 (a7.size:w3.heap.size≤W.heap.size) (qa c6) u (fun k h1 h2 e=>e.elim (R k (by omega)) (fun e=>by omega))).toO
 have K:=quf g w8.heap.size C M J BF P0 P1 B S0 S l ev es sp en lo SC SJ m c' ms er [zc 6 1,f] (.slice none 0 0) (.slice la ln lk) W (h.lk.new I) (h.row.upd I (fun _ _ h=>h)) h.out h.inE h.in0 (fun k e=>Nat.lt_of_lt_of_le (h.lt k e) I.size) hk (hT.new I) hA N L p q v e1 (fun a na=>hF a (I.trans na)) d9 (hM.new c3) (c5.old b5 (fun h=>h)) (qg (c4.old b4 (fun h=>h)) 0)
  (n9.cell p0 (fun h=>h)) (n9.cell p1 (fun h=>h)) e3 (by simp) c9 b3
  ⟨R _ (by omega),R _ (by omega),R _ (by omega),R _ (by omega),R _ (by omega),R _ (by omega),R _ (by omega),R _ (by omega)⟩ ⟨by omega,by omega,by omega,by omega,by omega,by omega,by omega⟩ (by have:=a8.size;omega) (by have:=zr b9;omega) ⟨by omega,by omega⟩
 have HH:=qb h
 have NN:=qb (And.intro I (by have:=zr b5;omega:w.heap.size≤J))
 have HC:=qb K
 clear K b3 e3 c9 f6 R a8 e5 c5 c4 a7 c3 e4 I s1 s0 f7 s2 s3 s6 s8 f1 h hk hF hT hA hM O Y b4 n4 z4 F b5 n5 z5 H b7 n7 z7 V n8 T U Z a6 p0 p1 c8 b9 n9 d8 d9 H2 H3 H4 H5 H6 H7 H8 e1 N L p q v f5
 go_wp2_with ((with_reducible first|rfl|refine' ut ?_ ?_;rotate_left|refine' uu ?_)<;>intros)
 refine(qa HC).mono ?_
 rintro e P ⟨u6,(⟨rfl,E⟩ | ⟨x,e2,rfl,hf⟩)⟩
 ·have HQ:=qb (And.intro u6 E);clear u6 E HC;go_wp2_with ((with_reducible first|rfl|refine' ut ?_ ?_;rotate_left|refine' uu ?_)<;>intros);go_ret;obtain⟨u6,E⟩:=qa HQ;obtain⟨I,f3⟩:=qa NN;obtain⟨he,u,S1,b6,e9,f0,hl,hr,ho,hi,h1⟩:er=0∧HFin W g S0 S sp en lo J (Lk.heard {l with c:=c',j:=l.j.app (zk [zc 6 1,f]),out:=zz ms l.out} m) (es++qdg m l.waits l.c.xs c'.xs) P:=E;have h:=qa HH;have z:=I.size;have zu:=u.size;unfold Lk.hearR qlp;rw[if_pos he,if_pos he];refine⟨by rw[he];rfl,I.mono (fun _ _ h=>h.elim) |>.then u (fun k hk e=>e.elim id (fun e=>by omega)),S1,b6,e9,f0,hl,hr,ho,?_,?_,?_⟩
  ·intro k e;have b8:=hr.lt k e;exact(hi k e).imp id (fun e=>⟨by omega,b8⟩)
  ·intro k e;have b8:=hl.lt k e;exact(h1 k e).imp (h.in0 k) (fun e=>⟨by omega,b8⟩)
  ·rintro k (e | e)
   ·have:=h.lt k e;omega
   ·exact e.2
 ·have HQ:=qb (And.intro u6 hf);have e8:=qb e2;clear u6 hf HC e2;go_wp2_with ((with_reducible first|rfl|refine' ut ?_ ?_;rotate_left|refine' uu ?_)<;>intros);go_ret;obtain⟨u6,hx,u,-,b6,hl⟩:_∧x=er∧GSt W g S0 sp en lo J SJ ms {l with c:=c',ev:=ev} P:=qa HQ;obtain⟨I,f3⟩:=qa NN;have he:¬er=0:=by rw[←hx];exact qa e8
  have h:=qa HH;have z:=I.size;have zu:=u.size;have v:=h.row.lt;unfold Lk.hearR qlp;rw[if_neg he,if_neg he];refine⟨by rw[hx];rfl,I.mono (fun _ _ h=>h.elim) |>.then u (fun k hk e=>e.elim (h.in0 k) (fun e=>by omega)),_,b6,SJ,ev,hl,?_,?_,?_,?_,?_⟩
  ·exact(h.row.upd I (fun _ _ h=>h)).upd u (fun k e e'=>e'.elim (h.out k e) (fun e'=>by have:=v k e;omega))
  ·intro k e e';have:=v k e;exact e'.elim (h.out k e) (fun e'=>by omega)
  ·exact fun k e=> .inl (h.inE k e)
  ·exact fun k e=>e.imp (h.in0 k) (fun e=>⟨by omega,e.2⟩)
  ·rintro k (e | e)
   ·have:=h.lt k e;omega
   ·exact e.2
end
section
open Go.RowKit
section
variable {w w':World}{g:Nat}{S T:Nat→Prop}{l:Lk}{sp en lo:Nat}{SC SJ:Nat→Prop}
theorem LkP.split(h:LkP w g S l sp en lo SC SJ)(u:Upd (fun k=>k=sp) w w'){r:ByteArray}(i:Spl w' sp r):LkP w' g S {l with rest:=r} sp en lo SC SJ :=
 ⟨u.old h.at_ h.ne,i,h.chn.upd u (fun k f e=>h.sC (e▸f)),h.jou.upd u (fun k f e=>h.sJ (e▸f)),h.inG,h.inS,h.inC,h.inJ,h.gC,h.gJ,h.sC,h.sJ,h.cJ,fun k f=>Nat.lt_of_lt_of_le (h.lt k f) u.size⟩
end
def rdN(s:ByteArray):Nat→Int
 | 0=>0
 | n+1=>rdN s n*256+bt s n
theorem qeg(s:ByteArray):∀n,0≤rdN s n∧rdN s n<256 ^ n
 | 0=>⟨Int.le_refl _,by show (0:Int)<1;decide⟩
 | n+1=>by
  have h:=qeg s n;have b:=qfe s n;rw[Int.pow_succ];unfold rdN;omega
theorem qn4(s:ByteArray)(n i:Nat)(m:i<n)(p:n≤s.size):bt (s.extract 0 n) i=bt s i:=by
 have f:i<(s.extract 0 n).size:=by rw[ByteArray.size_extract];omega
 rw[←q4l _ i f,←q4l s i (by omega),ByteArray.getElem_extract];simp
def rdH(s:ByteArray):List Int:=(List.range 32).map (bt s)
theorem qfl(s:ByteArray):(rdH s).length=32:=by unfold rdH;simp
theorem q2p(s:ByteArray):∀b∈rdH s,0≤b∧b≤255:=by
 intro b f;obtain⟨i,-,rfl⟩:=List.mem_map.1 f;exact qfe s i
def Fld.wid:Fld→Nat
 | .ch=>4
 | .id=>8
 | .amount=>8
 | .hash=>32
 | .expiry=>4
 | .number=>2
def Fld.get(x:Fld)(s:ByteArray)(m:MsgV):MsgV :=
 match x with
 | .ch=> {m with ch:=rdN s 4}
 | .id=> {m with id:=rdN s 8}
 | .amount=> {m with amount:=rdN s 8}
 | .hash=> {m with hash:=rdH s}
 | .expiry=> {m with expiry:=rdN s 4}
 | .number=> {m with number:=rdN s 2}
theorem zb5{m:MsgV}(h:MsgOk m)(x:Fld)(s:ByteArray):MsgOk (x.get s m):=by
 have p:0≤rdN s 2∧rdN s 2<65536:=qeg s 2;have i:0≤rdN s 4∧rdN s 4<4294967296:=qeg s 4;have f:0≤rdN s 8∧rdN s 8<18446744073709551616:=qeg s 8;cases x
 ·exact⟨h.kind,i,h.id,h.amount,h.len,h.hash,h.expiry,h.number⟩
 ·exact⟨h.kind,h.ch,f,h.amount,h.len,h.hash,h.expiry,h.number⟩
 ·exact⟨h.kind,h.ch,h.id,f,h.len,h.hash,h.expiry,h.number⟩
 ·exact⟨h.kind,h.ch,h.id,h.amount,qfl s,q2p s,h.expiry,h.number⟩
 ·exact⟨h.kind,h.ch,h.id,h.amount,h.len,h.hash,⟨show -9223372036854775808≤rdN s 4 by omega,show rdN s 4≤9223372036854775807 by omega⟩,h.number⟩
 ·exact⟨h.kind,h.ch,h.id,h.amount,h.len,h.hash,h.expiry,⟨show -9223372036854775808≤rdN s 2 by omega,show rdN s 2≤9223372036854775807 by omega⟩⟩
theorem q50(x:Fld)(s:ByteArray)(m:MsgV):(x.get s m).kind=m.kind:=by cases x<;>rfl
def qdt:List Fld→ByteArray→MsgV→Option (MsgV × ByteArray)
 | [],s,m=>some (m,s)
 | x::xs,s,m=>if s.size<x.wid then none else qdt xs (s.extract x.wid s.size) (x.get s m)
theorem qqh(x:Fld):∀(xs:List Fld) (s:ByteArray) (m:MsgV),qdt (xs++[x]) s m=(qdt xs s m).bind fun p=>if p.2.size<x.wid then none else some (x.get p.2 p.1,p.2.extract x.wid p.2.size)
 | [],s,m=>rfl
 | y::ys,s,m=>by
  show (if s.size<y.wid then none else qdt (ys++[x]) _ _)=_;rw[qdt];split
  ·rfl
  ·exact qqh x ys _ _
theorem q06{xs:List Fld}{i:Nat}{x:Fld}(h:xs[i]? = some x){s r:ByteArray}{m n:MsgV}(f:qdt (xs.take i) s m=some (n,r)):qdt (xs.take (i+1)) s m=if r.size<x.wid then none else some (x.get r n,r.extract x.wid r.size):=by
 rw[List.take_add_one,h];show qdt (xs.take i++[x]) s m=_;rw[qqh,f];rfl
theorem q05{s:ByteArray}{m:MsgV} : ∀(xs f:List Fld),qdt xs s m=none→qdt (xs++f) s m=none:=by
 intro xs
 induction xs generalizing s m with
 | nil=>intro f h;cases h
 | cons x xs p =>
  intro f h;show (if s.size<x.wid then none else qdt (xs++f) _ _)=none;rw[qdt] at h;split
  ·rfl
  ·rename_i i;rw[if_neg i] at h;exact p f h
theorem qnh{r:ByteArray}{n:MsgV} : ∀(xs:List Fld) (s:ByteArray) (m:MsgV),MsgOk m→qdt xs s m=some (n,r)→MsgOk n∧n.kind=m.kind∧r.size≤s.size
 | [],s,m,h,e=>by
  cases e;exact⟨h,rfl,Nat.le_refl _⟩
 | x::xs,s,m,h,e=>by
  rw[qdt] at e;split at e
  ·cases e
  ·obtain⟨f,i,p⟩:=qnh xs _ _ (zb5 h x s) e;rw[ByteArray.size_extract] at p;exact⟨f,i.trans (q50 x s m),by omega⟩
def qco(s:ByteArray):MsgV × Int :=
 if s.size=0 then (MsgV.zero,10) else
 match fieldsOf (bt s 0) with
 | none=>(MsgV.zero,70)
 | some xs=>match qdt xs (s.extract 1 s.size) (qa9 (bt s 0)) with
  | none=>(MsgV.zero,10)
  | some (m,r)=>if r.size≠0 then (MsgV.zero,11) else if qaf m=true then (m,0) else (MsgV.zero,1)
theorem q0l{s:ByteArray}(h:s.size=0):qco s=(MsgV.zero,10):=by unfold qco;rw[if_pos h]
theorem q45{s:ByteArray}(h:s.size≠0)(f:fieldsOf (bt s 0)=none):qco s=(MsgV.zero,70):=by unfold qco;rw[if_neg h,f]
theorem q0m{s:ByteArray}{xs:List Fld}(h:s.size≠0)(f:fieldsOf (bt s 0)=some xs)(i:qdt xs (s.extract 1 s.size) (qa9 (bt s 0))=none):qco s=(MsgV.zero,10):=by unfold qco;rw[if_neg h,f];simp only[];rw[i]
theorem q46{s r:ByteArray}{m:MsgV}{xs:List Fld}(h:s.size≠0)(f:fieldsOf (bt s 0)=some xs)(i:qdt xs (s.extract 1 s.size) (qa9 (bt s 0))=some (m,r))(p:r.size≠0):qco s=(MsgV.zero,11):=by unfold qco;rw[if_neg h,f];simp only[];rw[i];simp only[];rw[if_pos p]
theorem qy2{s r:ByteArray}{m:MsgV}{xs:List Fld}(h:s.size≠0)(f:fieldsOf (bt s 0)=some xs)(i:qdt xs (s.extract 1 s.size) (qa9 (bt s 0))=some (m,r))(q:r.size=0)(p:qaf m=true):qco s=(m,0):=by unfold qco;rw[if_neg h,f];simp only[];rw[i];simp only[];rw[if_neg (by omega),if_pos p]
theorem q9e{s r:ByteArray}{m:MsgV}{xs:List Fld}(h:s.size≠0)(f:fieldsOf (bt s 0)=some xs)(i:qdt xs (s.extract 1 s.size) (qa9 (bt s 0))=some (m,r))(q:r.size=0)(p:qaf m=false):qco s=(MsgV.zero,1):=by unfold qco;rw[if_neg h,f];simp only[];rw[i];simp only[];rw[if_neg (by omega),if_neg (by rw[p];decide)]
def Rd(w:World)(g:Nat)(s:ByteArray):Prop:=w.heap[g]? = some (.cells #[.string s] 262 (0,0))
theorem Rd.new{w w':World}{g:Nat}{s:ByteArray}(h:Rd w g s)(n:qu w w'):Rd w' g s:=n.old h (fun h=>h)
theorem Rd.lt{w:World}{g:Nat}{s:ByteArray}(h:Rd w g s):g<w.heap.size:=zr h
theorem Rd.cell{w:World}{g:Nat}{s:ByteArray}(h:Rd w g s):w.cell? ⟨g,0,none⟩=some (.string s):=qg h 0
theorem Rd.free{w:World}{g:Nat}{s:ByteArray}(h:Rd w g s):w.frozen? ⟨g,0,none⟩=false:=qo h 0
theorem Rd.set{w:World}{g:Nat}{s:ByteArray}(h:Rd w g s)(r:ByteArray):Rd (w.setCell ⟨g,0,none⟩ (.string r)) g r:=zt h 0 _
theorem Rd.upd{w w':World}{g:Nat}{s:ByteArray}{T:Nat→Prop}(h:Rd w g s)(u:Upd T w w')(f:¬T g):Rd w' g s:=u.old h f
theorem q2b(s:ByteArray)(w:World):Calls Tryz.prog 131 #[.string s] w fun e w'=>e = .returned (.pointer (some ⟨w.heap.size,0,none⟩))∧Rd w' w.heap.size s∧qu w w'∧w'.heap.size=w.heap.size+1:=by
 go_enter Tryz.func131,Tryz.ntmps131;go_wp2_with fail;go_ret;exact⟨rfl,qh _ _,(Upd.refl _ _).alloc _,World.size_alloc _ _⟩
theorem qpf(g n:Nat)(s:ByteArray)(w:World)(h:Rd w g s)(m:s.size<n) :
  Calls Tryz.prog 167 #[.pointer (some ⟨g,0,none⟩),.int .i64 n] w (qay (.tuple #[.string ⟨#[]⟩,.int .i64 10]) w):=by
 have i:=h.cell
 have f:(s.size:Int)<(n:Int):=by omega
 clear h
 go_enter Tryz.func167,Tryz.ntmps167
 go_wp2_with fail
 go_ret2
 exact⟨rfl,Q.refl _⟩
theorem qzs(g n:Nat)(s:ByteArray)(w:World)(h:Rd w g s)(q:n≤s.size) :
  Calls Tryz.prog 167 #[.pointer (some ⟨g,0,none⟩),.int .i64 n] w fun e w'=>e = .returned (.tuple #[.string (s.extract 0 n),.int .i64 0])∧w.setCell ⟨g,0,none⟩ (.string (s.extract n s.size))=w':=by
 have m:=h.cell
 have p:=h.free
 have f:¬(s.size:Int)<(n:Int):=by omega
 have i:(n:Int)≤(s.size:Int):=by omega
 clear h
 go_enter Tryz.func167,Tryz.ntmps167
 go_wp2
 go_ret2
 exact⟨rfl,rfl⟩
theorem zbz(g:Nat)(s:ByteArray)(w:World)(h:Rd w g s)(f:s.size=0) :
  Calls Tryz.prog 141 #[.pointer (some ⟨g,0,none⟩)] w (qay (.int .i64 0) w):=by
 have i:=h.cell
 obtain rfl:s=⟨#[]⟩:=by
  cases s with | mk d=>simpa [ByteArray.size] using f
 clear h
 go_enter Tryz.func141,Tryz.ntmps141
 go_wp2
 go_ret
 exact⟨rfl,Q.refl _⟩
theorem q5a(g:Nat)(s:ByteArray)(w:World)(h:Rd w g s)(i:0<s.size) :
  Calls Tryz.prog 141 #[.pointer (some ⟨g,0,none⟩)] w (qay (.int .i64 11) w):=by
 have m:=h.cell
 have f:=q75 i
 clear h
 go_enter Tryz.func141,Tryz.ntmps141
 go_wp2
 go_ret
 exact⟨rfl,Q.refl _⟩
structure BackV(w:World)(g E:Nat)(s:ByteArray)(p q r:Nat):Prop where
 e:w.cell? ⟨p,0,none⟩=some (.pointer (some ⟨E,0,none⟩))
 s:w.cell? ⟨q,0,none⟩=some (.string s)
 g:w.cell? ⟨r,0,none⟩=some (.pointer (some ⟨g,0,none⟩))
theorem BackV.upd{w w':World}{g E:Nat}{s:ByteArray}{p q r:Nat}{T:Nat→Prop}(h:BackV w g E s p q r)(u:Upd T w w')(f:¬T p)(i:¬T q)(m:¬T r):BackV w' g E s p q r:=⟨u.cell h.e f,u.cell h.s i,u.cell h.g m⟩
theorem qkj(g E:Nat)(s:ByteArray)(w:World)(h:Rd w g s):Calls Tryz.prog 166 #[.pointer (some ⟨g,0,none⟩),.pointer (some ⟨E,0,none⟩)] w fun e w'=>∃p q r,e = .returned (.func (.func 199) #[] #[.pointer (some ⟨p,0,none⟩),.pointer (some ⟨q,0,none⟩),.pointer (some ⟨r,0,none⟩)])∧qu w w'∧BackV w' g E s p q r∧w.heap.size≤p∧w.heap.size≤q∧w.heap.size≤r:=by
 have O:∀(I:Fn) (first cap:Array Value) (w:World),(Instr.makeFunc I first cap).run Tryz.prog w = .ok (.func I first cap) w:=fun _ _ _ _=>rfl
 have J:=h.cell;go_enter Tryz.func166,Tryz.ntmps166;go_upto_region 1 with fail;have b1:=qh w (.cells #[.pointer (some ⟨g,0,none⟩)] 227);have v:qu w (w.alloc (.cells #[.pointer (some ⟨g,0,none⟩)] 227)):=(Upd.refl _ _).alloc _;have C:(w.alloc (.cells #[.pointer (some ⟨g,0,none⟩)] 227)).heap.size=w.heap.size+1:=World.size_alloc _ _;generalize w.alloc (.cells #[.pointer (some ⟨g,0,none⟩)] 227)=w1 at b1 v C ⊢;have b2:=qh w1 (.cells #[.pointer (some ⟨E,0,none⟩)] 268);have f:qu w1 (w1.alloc (.cells #[.pointer (some ⟨E,0,none⟩)] 268)):=(Upd.refl _ _).alloc _;have F:(w1.alloc (.cells #[.pointer (some ⟨E,0,none⟩)] 268)).heap.size=w1.heap.size+1:=World.size_alloc _ _;generalize w1.alloc (.cells #[.pointer (some ⟨E,0,none⟩)] 268)=z at b2 f F ⊢;rw[C] at b2 F;have M:z.cell? ⟨w.heap.size,0,none⟩=some (.pointer (some ⟨g,0,none⟩)):=f.cell (qg b1 0) (fun h=>h);have N:=f.cell (v.cell J (fun h=>h)) (fun h=>h);have K:=qb (And.intro b1 (And.intro b2 (And.intro C (And.intro F (And.intro v f)))));clear b1 b2 C F v f J h;go_upto_region 2 with fail;have i:qu z (z.alloc (.cells #[.string s] 9)):=(Upd.refl _ _).alloc _;have m:=qh z (.cells #[.string s] 9);generalize z.alloc (.cells #[.string s] 9)=P at i m ⊢;generalize H:z.heap.size=q at m ⊢;have L:=qb (And.intro i (And.intro m H));clear i m H M N;go_wp2_with fail;go_ret;obtain⟨b1,b2,C,F,v,f⟩:=qa K;obtain⟨i,m,H⟩:=qa L;exact⟨_,_,_,rfl,(v.trans f).trans i,⟨i.cell (qg b2 0) (fun h=>h),qg m 0,i.cell (f.cell (qg b1 0) (fun h=>h)) (fun h=>h)⟩,by omega,by omega,by omega⟩
theorem qp4(g E p q r:Nat)(s:ByteArray)(u:FrameMode)(w:World)(h:BackV w g E s p q r)(z:w.cell? ⟨E,0,none⟩=some (.int .i64 0)) :
  CallsD Tryz.prog 199 #[.pointer (some ⟨p,0,none⟩),.pointer (some ⟨q,0,none⟩),.pointer (some ⟨r,0,none⟩)] u w fun e f w'=>f=u∧(e = .returned (.tuple #[])∧w=w'):=by
 obtain⟨i,m,v⟩:=h
 go_enter_d Tryz.func199,Tryz.ntmps199
 go_wp2
 go_end0
 exact⟨rfl,rfl⟩
theorem qth(g E p q r:Nat)(s t:ByteArray)(er:Int)(u:FrameMode)(w:World)(h:BackV w g E s p q r)(F:w.cell? ⟨E,0,none⟩=some (.int .i64 er))(i:(er != 0)=true)(f:Rd w g t) :
  CallsD Tryz.prog 199 #[.pointer (some ⟨p,0,none⟩),.pointer (some ⟨q,0,none⟩),.pointer (some ⟨r,0,none⟩)] u w fun e m w'=>m=u∧(e = .returned (.tuple #[])∧w'=w.setCell ⟨g,0,none⟩ (.string s)):=by
 obtain⟨v,z,C⟩:=h
 have H:=f.cell
 have I:=f.free
 go_enter_d Tryz.func199,Tryz.ntmps199
 go_wp2
 go_end0
 exact⟨rfl,rfl⟩
theorem zel(x y:Int)(f:0≤x)(p:x<72057594037927936)(m:0≤y)(q:y≤255):bits .or .u64 (x*256) y=x*256+y:=by
 obtain⟨a,rfl⟩:=Int.eq_ofNat_of_zero_le f;obtain⟨b,rfl⟩:=Int.eq_ofNat_of_zero_le m;have e:(a:Int)*256=((a*256:Nat):Int):=by omega
 rw[e];show IntKind.u64.wrap ((BitVec.ofInt 64 ((a*256:Nat):Int) ||| BitVec.ofInt 64 (b:Int)).toNat:Int)=_;rw[BitVec.toNat_or,qe9 _ (by omega),qe9 _ (by omega)];have h:=Nat.shiftLeft_add_eq_or_of_lt (b:=b) (i:=8) (by omega) a;rw[Nat.shiftLeft_eq] at h;rw[show a*256=a*2 ^ 8 from rfl,←h,IntKind.wrap_u64];omega
theorem q7i(s:ByteArray)(i:Nat)(f:i<8):IntKind.u64.wrap (rdN s i*256)=rdN s i*256∧0≤rdN s i∧rdN s i<72057594037927936:=by
 have h:0≤rdN s i∧rdN s i<72057594037927936:=by
  rcases (by omega:i=0∨i=1∨i=2∨i=3∨i=4∨i=5∨i=6∨i=7) with rfl | rfl | rfl | rfl | rfl | rfl | rfl | rfl
  ·have h:0≤rdN s 0∧rdN s 0<1:=qeg s 0;omega
  ·have h:0≤rdN s 1∧rdN s 1<256:=qeg s 1;omega
  ·have h:0≤rdN s 2∧rdN s 2<65536:=qeg s 2;omega
  ·have h:0≤rdN s 3∧rdN s 3<16777216:=qeg s 3;omega
  ·have h:0≤rdN s 4∧rdN s 4<4294967296:=qeg s 4;omega
  ·have h:0≤rdN s 5∧rdN s 5<1099511627776:=qeg s 5;omega
  ·have h:0≤rdN s 6∧rdN s 6<281474976710656:=qeg s 6;omega
  ·exact qeg s 7
 exact⟨qel (by omega) (by omega),h.1,h.2⟩
theorem qno(g n:Nat)(s:ByteArray)(w:World)(h:Rd w g s)(h1:1≤n)(h8:n≤8)(hs:n≤s.size) :
  Calls Tryz.prog 134 #[.pointer (some ⟨g,0,none⟩),.int .i64 n] w fun e w'=>e = .returned (.tuple #[.int .u64 (rdN s n),.int .i64 0])∧Upd (fun k=>k=g) w w'∧Rd w' g (s.extract n s.size):=by
 have c2:∀(fn:Fn) (first cap:Array Value) (w:World),(Instr.makeFunc fn first cap).run Tryz.prog w = .ok (.func fn first cap) w:=fun _ _ _ _=>rfl
 have b8:=h.lt
 have b5:(1:Int)≤n:=by omega
 have b6:(n:Int)≤8:=by omega
 have N:decide ((n:Int)<1)=false:=by simp;omega
 have a8:decide ((8:Int)<(n:Int))=false:=by simp;omega
 go_enter_defers Tryz.func134,Tryz.ntmps134
 go_upto_region 1 with fail
 have n1:qu w (w.alloc (.cells #[.int .i64 0] 26)):=(Upd.refl _ _).alloc _
 have hE:=qh w (.cells #[.int .i64 0] 26)
 have hH:=h.new n1
 generalize w.alloc (.cells #[.int .i64 0] 26)=w1 at n1 hE hH ⊢
 have F:g≠w.heap.size:=by omega
 generalize W:w.heap.size=E at hE F ⊢
 have a6:=qb W
 have R:=qb hE
 have N1:=qb n1
 clear W hE n1 h
 go_wp2_with fail
 refine(qkj g E s w1 hH).mono ?_
 rintro e w2 ⟨p,q,r,rfl,n2,hB,I,J,K⟩
 have HB:=qb (And.intro hB (And.intro I (And.intro J K)))
 have T:=n2.old (qa R) (fun h=>h)
 have L:=hH.new n2
 have N2:=qb ((qa N1).trans n2)
 have b7:=zr (qa R)
 clear hB hH I J K n2
 go_wp2_with fail
 refine(qzs g n s w2 L hs).mono ?_
 rintro e w3 ⟨rfl,rfl⟩
 have M:=L.set (s.extract n s.size)
 have P:Upd (fun k=>k=g) w2 (w2.setCell ⟨g,0,none⟩ (.string (s.extract n s.size))):=(Upd.refl _ _).set1 _ _
 have m:=P.old T (fun e=>F e.symm)
 generalize w2.setCell ⟨g,0,none⟩ (.string (s.extract n s.size))=w3 at M P m ⊢
 have c3:=qg m 0
 have f3:=qo m 0
 have U:=zt m 0 (.int .i64 0)
 have Z:Upd (fun k=>k=E) w3 (w3.setCell ⟨E,0,none⟩ (.int .i64 0)):=(Upd.refl _ _).set1 _ _
 have b4:(s.extract 0 n).size=n:=by rw[ByteArray.size_extract];omega
 have O:∀i,i<n→bt (s.extract 0 n) i=bt s i:=fun i hi=>qn4 s n i hi hs
 generalize s.extract 0 n=x at b4 O ⊢
 have HR:=qb M
 have HU:=qb (And.intro P (And.intro Z U))
 have HQ:=qb O
 clear T L M P m Z U O N a8
 go_upto_region 5 with fail
 generalize w3.setCell ⟨E,0,none⟩ (.int .i64 0)=w4 at HU ⊢
 have c4:w4.cell? ⟨E,0,none⟩=some (.int .i64 0):=qg (qa HU).2.2 0
 go_wp2_with fail
 go_loopw [4,27] (fun nv iv wr=>∃i:Nat,nv = .int .u64 (rdN s i)∧iv = .int .i64 (i:Int)∧i≤n∧Q w4 wr) (fun _ iv _=>n-(intOf iv).toNat)
 case atStart=>exact⟨0,rfl,rfl,Nat.zero_le _,Q.refl _⟩
 case round =>
  obtain⟨i,rfl,rfl,hi,qi⟩:=hrel;obtain⟨H,rfl⟩:∃H:World,H=wr:=⟨_,rfl⟩;clear c3 f3 c4;by_cases N:i<n
  ·have b9:(i:Int)<(n:Int):=by omega
   obtain⟨c1,d1,d2⟩:=q7i s i (by omega);obtain⟨b1,b2⟩:=qfe s i;have c0:∀w,(Instr.index 9 (.string x) (.int .i64 (i:Int))).run Tryz.prog w = .ok (.int .u8 (bt s i)) w:=fun w=>by
    rw[←qa HQ i N];exact qeh 9 x .i64 i i Tryz.underlying9 rfl (by omega) w
   have b3:=zel (rdN s i) (bt s i) d1 d2 b1 b2;have v:rdN s (i+1)=rdN s i*256+bt s i:=rfl;generalize hy:rdN s i=y at *
   generalize hb:bt s i=b at *
   have HS:=qb v;clear v hy hb;go_wp2_with fail;go_roundw
   case rel=>exact⟨i+1,by rw[qa HS,←b3],by go_num,by omega,qi⟩
   case measure=>simp[intOf];omega
  ·obtain rfl:i=n:=by omega
   have z:=qi.old (qa HU).2.2;have f5:=qo z 0;have d5:=qg z 0;have C:=zt z 0 (.int .i64 0);have u6:Upd (fun k=>k=E) H (H.setCell ⟨E,0,none⟩ (.int .i64 0)):=(Upd.refl _ _).set1 _ _;have a7:=qb (And.intro C (And.intro u6 qi));clear z C u6 qi;generalize hV:rdN s i=V;have HV:=qb hV;clear hV;go_wp2_with fail;obtain⟨C,u6,q6⟩:=qa a7;obtain⟨P,Z,-⟩:=qa HU;obtain⟨hB,I,J,K⟩:=qa HB;have c5:=(qa N1).size;have hz:=qa a6;have Y:Upd (fun k=>k=g∨k=E) w2 (H.setCell ⟨E,0,none⟩ (.int .i64 0)):=(((P.mono (fun k _ e=>Or.inl (a:=k=g) (b:=k=E) e)).trans (Z.mono (fun k _ e=>Or.inr (a:=k=g) (b:=k=E) e))).trans (q6.upd _)).trans (u6.mono (fun k _ e=> .inr e));have S:=hB.upd Y (by omega) (by omega) (by omega);have c6:(H.setCell ⟨E,0,none⟩ (.int .i64 0)).cell? ⟨E,0,none⟩=some (.int .i64 0):=qg C 0;have X:Rd (H.setCell ⟨E,0,none⟩ (.int .i64 0)) g (s.extract i s.size):=(((qa HR).upd Z F).upd (q6.upd (fun _=>False)) (fun h=>h)).upd u6 F;have hU:Upd (fun k=>k=g) w (H.setCell ⟨E,0,none⟩ (.int .i64 0)):=((qa N2).mono (fun _ _ h=>h.elim)).then Y (fun k hk e=>e.elim id (fun e=>by omega));generalize H.setCell ⟨E,0,none⟩ (.int .i64 0)=w6 at S c6 X hU ⊢;refine leaves_cons (f:=199) (args:=#[.pointer (some ⟨p,0,none⟩),.pointer (some ⟨q,0,none⟩),.pointer (some ⟨r,0,none⟩)]) (by simp) (by simp[go_sem]) ?_;refine(qp4 g E p q r s _ w6 S c6).mono ?_;rintro e u' c7 ⟨rfl,rfl,rfl⟩;simp[Go.Leaves,settle,results,Tryz.results134,go_sem,c6];exact⟨(qa HV).symm,hU,X⟩
theorem qh6(g n:Nat)(s:ByteArray)(w:World)(h:Rd w g s)(h1:1≤n)(h8:n≤8)(hs:s.size<n) :
  Calls Tryz.prog 134 #[.pointer (some ⟨g,0,none⟩),.int .i64 n] w fun e w'=>e = .returned (.tuple #[.int .u64 0,.int .i64 10])∧Upd (fun k=>k=g) w w'∧Rd w' g s:=by
 have c2:∀(fn:Fn) (first cap:Array Value) (w:World),(Instr.makeFunc fn first cap).run Tryz.prog w = .ok (.func fn first cap) w:=fun _ _ _ _=>rfl
 have c1:=h.lt
 have b8:(1:Int)≤n:=by omega
 have b9:(n:Int)≤8:=by omega
 have b4:decide ((n:Int)<1)=false:=by simp;omega
 have b3:decide ((8:Int)<(n:Int))=false:=by simp;omega
 go_enter_defers Tryz.func134,Tryz.ntmps134
 go_upto_region 1 with fail
 have X:qu w (w.alloc (.cells #[.int .i64 0] 26)):=(Upd.refl _ _).alloc _
 have V:=qh w (.cells #[.int .i64 0] 26)
 have W:=h.new X
 generalize w.alloc (.cells #[.int .i64 0] 26)=w1 at X V W ⊢
 have v:g≠w.heap.size:=by omega
 generalize N:w.heap.size=E at V v ⊢
 have a6:=qb N
 have K:=qb V
 have N1:=qb X
 clear N V X h
 go_wp2_with fail
 refine(qkj g E s w1 W).mono ?_
 rintro e w2 ⟨p,q,r,rfl,Y,U,C,F,H⟩
 have HB:=qb (And.intro U (And.intro C (And.intro F H)))
 have L:=Y.old (qa K) (fun h=>h)
 have I:=W.new Y
 have N2:=qb ((qa N1).trans Y)
 have c0:=zr (qa K)
 clear U W C F H Y
 go_wp2_with fail
 refine(qpf g n s w2 I hs).mono ?_
 rintro e w3 ⟨rfl,Z⟩
 have O:=I.new (Z.upd _)
 have i:=Z.old L
 have c3:=qg i 0
 have f3:=qo i 0
 have m:=zt i 0 (.int .i64 10)
 have u4:Upd (fun k=>k=E) w3 (w3.setCell ⟨E,0,none⟩ (.int .i64 10)):=(Upd.refl _ _).set1 _ _
 have T:=qb (And.intro (O.upd u4 v) (And.intro ((Z.upd (fun k=>k=E)).trans u4) m))
 clear L I O Z i u4 m b4 b3
 go_upto_region 5 with fail
 generalize w3.setCell ⟨E,0,none⟩ (.int .i64 10)=z at T ⊢
 have c4:z.cell? ⟨E,0,none⟩=some (.int .i64 10):=qg (qa T).2.2 0
 have f4:z.frozen? ⟨E,0,none⟩=false:=qo (qa T).2.2 0
 have b6:z.drew.cell? ⟨E,0,none⟩=some (.int .i64 10):=c4
 have b7:z.drew.frozen? ⟨E,0,none⟩=false:=f4
 clear c3 f3
 go_wp2_with ((with_reducible first|rfl|refine' ut ?_ ?_;rotate_left|refine' uu ?_)<;>intros)
 obtain⟨a8,b5,m⟩:=qa T
 obtain⟨U,C,F,H⟩:=qa HB
 have c7:=(qa N1).size
 have hz:=qa a6
 have M:(z.setCell ⟨E,0,none⟩ (.int .i64 10)).drew.heap[E]? = _:=zt m 0 (.int .i64 10)
 have u5:Upd (fun k=>k=E) z (z.setCell ⟨E,0,none⟩ (.int .i64 10)).drew:=((Upd.refl _ _).set1 _ _).drew
 generalize (z.setCell ⟨E,0,none⟩ (.int .i64 10)).drew=J at u5 M ⊢
 have P:=a8.upd u5 v
 have S:=b5.trans u5
 have a7:=U.upd S (by omega) (by omega) (by omega)
 have c5:J.cell? ⟨E,0,none⟩=some (.int .i64 10):=qg M 0
 have u6:Upd (fun k=>k=g) J (J.setCell ⟨g,0,none⟩ (.string s)):=(Upd.refl _ _).set1 _ _
 have c6:=u6.cell c5 (fun e=>v e.symm)
 have hU:Upd (fun k=>k=g) w (J.setCell ⟨g,0,none⟩ (.string s)):=(((qa N2).mono (fun _ _ h=>h.elim)).then S (fun k hk e=>by omega)).trans u6
 refine leaves_cons (f:=199) (args:=#[.pointer (some ⟨p,0,none⟩),.pointer (some ⟨q,0,none⟩),.pointer (some ⟨r,0,none⟩)]) (by simp) (by simp[go_sem]) ?_
 refine(qth g E p q r s s 10 _ J a7 c5 (by decide) P).mono ?_
 rintro e u' c8 ⟨rfl,rfl,rfl⟩
 have R:=P.set s
 generalize J.setCell ⟨g,0,none⟩ (.string s)=w6 at c6 hU R ⊢
 simp[Go.Leaves,settle,results,Tryz.results134,go_sem,c6]
 exact⟨hU,R⟩
theorem qw2(s:ByteArray)(q:32≤s.size):((s.extract 0 32).data.toList.map fun x=>Value.int .u8 (x.toNat:Int))=qs (rdH s):=by
 have v:(s.extract 0 32).size=32:=by rw[ByteArray.size_extract];omega
 have f:(s.extract 0 32).data.toList.length=32:=by rw[←Lib.size_eq];exact v
 unfold qs rdH;rw[List.map_map];refine List.ext_getElem (by simp;omega) ?_;intro i m z;have p:i<32:=by rw[List.length_map,f] at m;exact m
 rw[List.getElem_map,List.getElem_map,List.getElem_range];show Value.int .u8 _=Value.int .u8 (bt s i);rw[←qn4 s 32 i p q];unfold bt;rw[List.getD_eq_getElem?_getD,List.getElem?_eq_getElem (by omega)];rfl
def qd0(G:Nat):Value:= .agg #[.pointer none,.pointer (some ⟨G,0,none⟩)]
def qsb(er:Int):Value:= .iface 265 (.agg #[.int .i64 er])
def qec(er:Int)(e:Ending):Prop:=e = .panicked [{v:=qsb er,recovered:=false}]
theorem qe8(er:Int)(h:(er != 0)=true)(w:World):Calls Tryz.prog 135 #[.int .i64 er] w fun e w'=>qec er e∧w=w':=by
 go_enter Tryz.func135,Tryz.ntmps135;go_wp2_with fail;exact⟨rfl,rfl,rfl⟩
attribute [local go_sem ↓ high] zl qaa qad qam
attribute [local go_sem] qbf qci qcj qdh qv
theorem qva(F:FuncId)(o A p q G n:Nat)(c:Value)(m R:MsgV)(s:ByteArray)(w:World)(hE:∀args w,(callFunc F args).run Tryz.prog w = .ok (.enter F args) w)(hF:∀w,Calls Tryz.prog F #[.pointer (some ⟨A,0,none⟩)] w (qay (.pointer (some ⟨A,o,none⟩)) w))(hp:w.cell? ⟨p,0,none⟩=some (.func (.func F) #[] #[]))(hq:w.cell? ⟨q,0,none⟩=some (.int .i64 (n:Int)))(hA:MsB w A m)(ho:m.cells[o]? = some c)(hG:Rd w G s)(K:A≠G)(hn:1≤n∧n≤8)(hs:n≤s.size)(W:m.cells.toArray.setIfInBounds o (.int .u64 (rdN s n))=R.cells.toArray)(V:R.hash.length=32) :
  Calls Tryz.prog 200 #[qd0 G,.pointer (some ⟨A,0,none⟩),.pointer (some ⟨p,0,none⟩),.pointer (some ⟨q,0,none⟩)] w fun e w'=>e = .returned (.tuple #[])∧Upd (fun k=>k=A∨k=G) w w'∧MsB w' A R∧Rd w' G (s.extract n s.size):=by
 skip
 unfold qd0
 go_enter Tryz.func200,Tryz.ntmps200
 go_upto_region 1 with fail
 have z:qu w (w.alloc (.cells #[.pointer none,.pointer (some ⟨G,0,none⟩)] 234)):=(Upd.refl _ _).alloc _
 have P:=qh w (.cells #[.pointer none,.pointer (some ⟨G,0,none⟩)] 234)
 generalize w.alloc (.cells #[.pointer none,.pointer (some ⟨G,0,none⟩)] 234)=w1 at z P ⊢
 generalize w.heap.size=B at P ⊢
 have X:=z.cell hp (fun h=>h)
 have N:=z.cell hq (fun h=>h)
 have HA:=qb (hA.new z)
 have U:=qb P
 have E:=qb (hG.new z)
 have N1:=qb z
 clear P hp hA hG hq z
 go_wp2_with fail
 refine(hF w1).mono ?_
 rintro e Z ⟨rfl,C⟩
 have J:=(qa HA).new (C.upd _)
 have d0:Z.cell? ⟨B,0,none⟩=some (.pointer none):=C.cell (qg (qa U) 0)
 have d1:Z.cell? ⟨B,1,none⟩=some (.pointer (some ⟨G,0,none⟩)):=C.cell (qg (qa U) 1)
 have a6:=C.cell N
 have L:=(qa E).new (C.upd _)
 have N2:=qb ((qa N1).trans (C.upd _))
 have H:=qb J
 have f:=qno G n s Z L hn.1 hn.2 hs
 clear J C X U HA E N1 L N
 go_wp2_with fail
 refine f.mono ?_
 rintro e w3 ⟨rfl,Y,M⟩
 have U3:=qb (((qa N2).mono (fun _ _ h=>h.elim)).trans (Y.mono (fun k _ e=>(Or.inr e:k=A∨k=G))))
 have I:=qb ((qa H).upd Y K)
 have E:=qb M
 clear f N2 Y M H
 go_wp2_with fail
 refine(qe1 _).mono ?_
 rintro e T ⟨rfl,S⟩
 have U4:=qb ((qa U3).trans (S.upd _))
 have E:=qb ((qa E).new (S.upd _))
 have i:=(qa I).new (S.upd _)
 have co:T.cell? ⟨A,o,none⟩=some c:=by rw[qg i.at_,List.getElem?_toArray];exact ho
 have fo:T.frozen? ⟨A,o,none⟩=false:=qo i.at_ o
 have v:=zt i.at_ o (.int .u64 (rdN s n))
 rw[W] at v
 have O:Upd (fun k=>k=A) T (T.setCell ⟨A,o,none⟩ (.int .u64 (rdN s n))):=(Upd.refl _ _).set1 _ _
 have HX:=qb (And.intro (show MsB _ A R from⟨v,V⟩) O)
 clear U3 S i I v O
 go_wp2_with fail
 go_end0
 obtain⟨h1,O⟩:=qa HX
 exact⟨rfl,(qa U4).trans (O.mono (fun k _ e=> .inl e)),h1,(qa E).upd O (fun e=>K e.symm)⟩
theorem qq1(F:FuncId)(o A p q G n:Nat)(c:Value)(m:MsgV)(s:ByteArray)(w:World)(hE:∀args w,(callFunc F args).run Tryz.prog w = .ok (.enter F args) w)(hF:∀w,Calls Tryz.prog F #[.pointer (some ⟨A,0,none⟩)] w (qay (.pointer (some ⟨A,o,none⟩)) w))(V:w.cell? ⟨p,0,none⟩=some (.func (.func F) #[] #[]))(W:w.cell? ⟨q,0,none⟩=some (.int .i64 (n:Int)))(S:MsB w A m)(ho:m.cells[o]? = some c)(T:Rd w G s)(Z:A≠G)(U:1≤n∧n≤8)(hs:s.size<n) :
  Calls Tryz.prog 200 #[qd0 G,.pointer (some ⟨A,0,none⟩),.pointer (some ⟨p,0,none⟩),.pointer (some ⟨q,0,none⟩)] w fun e w'=>qec 10 e∧Upd (fun k=>k=A∨k=G) w w':=by
 unfold qd0
 go_enter Tryz.func200,Tryz.ntmps200
 go_upto_region 1 with fail
 have i:qu w (w.alloc (.cells #[.pointer none,.pointer (some ⟨G,0,none⟩)] 234)):=(Upd.refl _ _).alloc _
 have H:=qh w (.cells #[.pointer none,.pointer (some ⟨G,0,none⟩)] 234)
 generalize w.alloc (.cells #[.pointer none,.pointer (some ⟨G,0,none⟩)] 234)=w1 at i H ⊢
 generalize w.heap.size=B at H ⊢
 have L:=i.cell V (fun h=>h)
 have E:=i.cell W (fun h=>h)
 have N:=qb (S.new i)
 have J:=qb H
 have O:=qb (T.new i)
 have P:=qb i
 clear H V S T W i
 go_wp2_with fail
 refine(hF w1).mono ?_
 rintro e M ⟨rfl,v⟩
 have z:=(qa N).new (v.upd _)
 have d0:M.cell? ⟨B,0,none⟩=some (.pointer none):=v.cell (qg (qa J) 0)
 have d1:M.cell? ⟨B,1,none⟩=some (.pointer (some ⟨G,0,none⟩)):=v.cell (qg (qa J) 1)
 have a6:=v.cell E
 have C:=(qa O).new (v.upd _)
 have R:=qb ((qa P).trans (v.upd _))
 have I:=qb z
 have f:=qh6 G n s M C U.1 U.2 hs
 clear z v L J N O P C E
 go_wp2_with fail
 refine f.mono ?_
 rintro e w3 ⟨rfl,X,K⟩
 have Y:=qb (((qa R).mono (fun _ _ h=>h.elim)).trans (X.mono (fun k _ e=>(Or.inr e:k=A∨k=G))))
 clear f R X K I
 go_wp2_with fail
 refine(qe8 10 (by decide) _).mono ?_
 rintro e w4 ⟨rfl,rfl⟩
 exact⟨rfl,rfl,qa Y⟩
theorem qu9(F:FuncId)(o A p q G n:Nat)(c:Value)(m R:MsgV)(s:ByteArray)(w:World)(hE:∀args w,(callFunc F args).run Tryz.prog w = .ok (.enter F args) w)(hF:∀w,Calls Tryz.prog F #[.pointer (some ⟨A,0,none⟩)] w (qay (.pointer (some ⟨A,o,none⟩)) w))(hp:w.cell? ⟨p,0,none⟩=some (.func (.func F) #[] #[]))(hq:w.cell? ⟨q,0,none⟩=some (.int .i64 (n:Int)))(hA:MsB w A m)(ho:m.cells[o]? = some c)(hG:Rd w G s)(K:A≠G)(hn:1≤n∧n≤8)(hs:n≤s.size)(N:0≤rdN s n∧rdN s n<4294967296)(W:m.cells.toArray.setIfInBounds o (.int .i64 (rdN s n))=R.cells.toArray)(V:R.hash.length=32) :
  Calls Tryz.prog 201 #[qd0 G,.pointer (some ⟨A,0,none⟩),.pointer (some ⟨p,0,none⟩),.pointer (some ⟨q,0,none⟩)] w fun e w'=>e = .returned (.tuple #[])∧Upd (fun k=>k=A∨k=G) w w'∧MsB w' A R∧Rd w' G (s.extract n s.size):=by
 have a6:IntKind.i64.wrap (rdN s n)=rdN s n:=qhl (by omega) (by omega)
 unfold qd0
 go_enter Tryz.func201,Tryz.ntmps201
 go_upto_region 1 with fail
 have z:qu w (w.alloc (.cells #[.pointer none,.pointer (some ⟨G,0,none⟩)] 234)):=(Upd.refl _ _).alloc _
 have N:=qh w (.cells #[.pointer none,.pointer (some ⟨G,0,none⟩)] 234)
 generalize w.alloc (.cells #[.pointer none,.pointer (some ⟨G,0,none⟩)] 234)=w1 at z N ⊢
 generalize w.heap.size=B at N ⊢
 have X:=z.cell hp (fun h=>h)
 have O:=z.cell hq (fun h=>h)
 have HA:=qb (hA.new z)
 have U:=qb N
 have E:=qb (hG.new z)
 have N1:=qb z
 clear N hp hA hG hq z
 go_wp2_with fail
 refine(hF w1).mono ?_
 rintro e Z ⟨rfl,C⟩
 have J:=(qa HA).new (C.upd _)
 have d0:Z.cell? ⟨B,0,none⟩=some (.pointer none):=C.cell (qg (qa U) 0)
 have d1:Z.cell? ⟨B,1,none⟩=some (.pointer (some ⟨G,0,none⟩)):=C.cell (qg (qa U) 1)
 have a7:=C.cell O
 have L:=(qa E).new (C.upd _)
 have N2:=qb ((qa N1).trans (C.upd _))
 have H:=qb J
 have f:=qno G n s Z L hn.1 hn.2 hs
 clear J C X U HA E N1 L O
 go_wp2_with fail
 refine f.mono ?_
 rintro e w3 ⟨rfl,Y,M⟩
 have U3:=qb (((qa N2).mono (fun _ _ h=>h.elim)).trans (Y.mono (fun k _ e=>(Or.inr e:k=A∨k=G))))
 have I:=qb ((qa H).upd Y K)
 have E:=qb M
 clear f N2 Y M H
 go_wp2_with fail
 refine(qe1 _).mono ?_
 rintro e T ⟨rfl,S⟩
 have U4:=qb ((qa U3).trans (S.upd _))
 have E:=qb ((qa E).new (S.upd _))
 have i:=(qa I).new (S.upd _)
 have co:T.cell? ⟨A,o,none⟩=some c:=by rw[qg i.at_,List.getElem?_toArray];exact ho
 have fo:T.frozen? ⟨A,o,none⟩=false:=qo i.at_ o
 have v:=zt i.at_ o (.int .i64 (rdN s n))
 rw[W] at v
 have P:Upd (fun k=>k=A) T (T.setCell ⟨A,o,none⟩ (.int .i64 (rdN s n))):=(Upd.refl _ _).set1 _ _
 have HX:=qb (And.intro (show MsB _ A R from⟨v,V⟩) P)
 clear U3 S i I v P
 go_wp2_with fail
 go_end0
 obtain⟨h1,P⟩:=qa HX
 exact⟨rfl,(qa U4).trans (P.mono (fun k _ e=> .inl e)),h1,(qa E).upd P (fun e=>K e.symm)⟩
theorem qq0(F:FuncId)(o A p q G n:Nat)(c:Value)(m:MsgV)(s:ByteArray)(w:World)(hE:∀args w,(callFunc F args).run Tryz.prog w = .ok (.enter F args) w)(hF:∀w,Calls Tryz.prog F #[.pointer (some ⟨A,0,none⟩)] w (qay (.pointer (some ⟨A,o,none⟩)) w))(V:w.cell? ⟨p,0,none⟩=some (.func (.func F) #[] #[]))(W:w.cell? ⟨q,0,none⟩=some (.int .i64 (n:Int)))(S:MsB w A m)(ho:m.cells[o]? = some c)(T:Rd w G s)(Z:A≠G)(U:1≤n∧n≤8)(hs:s.size<n) :
  Calls Tryz.prog 201 #[qd0 G,.pointer (some ⟨A,0,none⟩),.pointer (some ⟨p,0,none⟩),.pointer (some ⟨q,0,none⟩)] w fun e w'=>qec 10 e∧Upd (fun k=>k=A∨k=G) w w':=by
 unfold qd0
 go_enter Tryz.func201,Tryz.ntmps201
 go_upto_region 1 with fail
 have i:qu w (w.alloc (.cells #[.pointer none,.pointer (some ⟨G,0,none⟩)] 234)):=(Upd.refl _ _).alloc _
 have H:=qh w (.cells #[.pointer none,.pointer (some ⟨G,0,none⟩)] 234)
 generalize w.alloc (.cells #[.pointer none,.pointer (some ⟨G,0,none⟩)] 234)=w1 at i H ⊢
 generalize w.heap.size=B at H ⊢
 have L:=i.cell V (fun h=>h)
 have E:=i.cell W (fun h=>h)
 have N:=qb (S.new i)
 have J:=qb H
 have O:=qb (T.new i)
 have P:=qb i
 clear H V S T W i
 go_wp2_with fail
 refine(hF w1).mono ?_
 rintro e M ⟨rfl,v⟩
 have z:=(qa N).new (v.upd _)
 have d0:M.cell? ⟨B,0,none⟩=some (.pointer none):=v.cell (qg (qa J) 0)
 have d1:M.cell? ⟨B,1,none⟩=some (.pointer (some ⟨G,0,none⟩)):=v.cell (qg (qa J) 1)
 have a6:=v.cell E
 have C:=(qa O).new (v.upd _)
 have R:=qb ((qa P).trans (v.upd _))
 have I:=qb z
 have f:=qh6 G n s M C U.1 U.2 hs
 clear z v L J N O P C E
 go_wp2_with fail
 refine f.mono ?_
 rintro e w3 ⟨rfl,X,K⟩
 have Y:=qb (((qa R).mono (fun _ _ h=>h.elim)).trans (X.mono (fun k _ e=>(Or.inr e:k=A∨k=G))))
 clear f R X K I
 go_wp2_with fail
 refine(qe8 10 (by decide) _).mono ?_
 rintro e w4 ⟨rfl,rfl⟩
 exact⟨rfl,rfl,qa Y⟩
theorem q7j(F:FuncId)(o A p q G n:Nat)(c:Value)(m R:MsgV)(s:ByteArray)(w:World)(hE:∀args w,(callFunc F args).run Tryz.prog w = .ok (.enter F args) w)(hF:∀w,Calls Tryz.prog F #[.pointer (some ⟨A,0,none⟩)] w (qay (.pointer (some ⟨A,o,none⟩)) w))(hp:w.cell? ⟨p,0,none⟩=some (.func (.func F) #[] #[]))(hq:w.cell? ⟨q,0,none⟩=some (.int .i64 (n:Int)))(hA:MsB w A m)(ho:m.cells[o]? = some c)(hG:Rd w G s)(K:A≠G)(hn:1≤n∧n≤8)(hs:n≤s.size)(N:0≤rdN s n∧rdN s n<4294967296)(W:m.cells.toArray.setIfInBounds o (.int .u32 (rdN s n))=R.cells.toArray)(V:R.hash.length=32) :
  Calls Tryz.prog 214 #[qd0 G,.pointer (some ⟨A,0,none⟩),.pointer (some ⟨p,0,none⟩),.pointer (some ⟨q,0,none⟩)] w fun e w'=>e = .returned (.tuple #[])∧Upd (fun k=>k=A∨k=G) w w'∧MsB w' A R∧Rd w' G (s.extract n s.size):=by
 have a6:IntKind.u32.wrap (rdN s n)=rdN s n:=by rw[IntKind.wrap_u32];omega
 unfold qd0
 go_enter Tryz.func214,Tryz.ntmps214
 go_upto_region 1 with fail
 have z:qu w (w.alloc (.cells #[.pointer none,.pointer (some ⟨G,0,none⟩)] 234)):=(Upd.refl _ _).alloc _
 have N:=qh w (.cells #[.pointer none,.pointer (some ⟨G,0,none⟩)] 234)
 generalize w.alloc (.cells #[.pointer none,.pointer (some ⟨G,0,none⟩)] 234)=w1 at z N ⊢
 generalize w.heap.size=B at N ⊢
 have X:=z.cell hp (fun h=>h)
 have O:=z.cell hq (fun h=>h)
 have HA:=qb (hA.new z)
 have U:=qb N
 have E:=qb (hG.new z)
 have N1:=qb z
 clear N hp hA hG hq z
 go_wp2_with fail
 refine(hF w1).mono ?_
 rintro e Z ⟨rfl,C⟩
 have J:=(qa HA).new (C.upd _)
 have d0:Z.cell? ⟨B,0,none⟩=some (.pointer none):=C.cell (qg (qa U) 0)
 have d1:Z.cell? ⟨B,1,none⟩=some (.pointer (some ⟨G,0,none⟩)):=C.cell (qg (qa U) 1)
 have a7:=C.cell O
 have L:=(qa E).new (C.upd _)
 have N2:=qb ((qa N1).trans (C.upd _))
 have H:=qb J
 have f:=qno G n s Z L hn.1 hn.2 hs
 clear J C X U HA E N1 L O
 go_wp2_with fail
 refine f.mono ?_
 rintro e w3 ⟨rfl,Y,M⟩
 have U3:=qb (((qa N2).mono (fun _ _ h=>h.elim)).trans (Y.mono (fun k _ e=>(Or.inr e:k=A∨k=G))))
 have I:=qb ((qa H).upd Y K)
 have E:=qb M
 clear f N2 Y M H
 go_wp2_with fail
 refine(qe1 _).mono ?_
 rintro e T ⟨rfl,S⟩
 have U4:=qb ((qa U3).trans (S.upd _))
 have E:=qb ((qa E).new (S.upd _))
 have i:=(qa I).new (S.upd _)
 have co:T.cell? ⟨A,o,none⟩=some c:=by rw[qg i.at_,List.getElem?_toArray];exact ho
 have fo:T.frozen? ⟨A,o,none⟩=false:=qo i.at_ o
 have v:=zt i.at_ o (.int .u32 (rdN s n))
 rw[W] at v
 have P:Upd (fun k=>k=A) T (T.setCell ⟨A,o,none⟩ (.int .u32 (rdN s n))):=(Upd.refl _ _).set1 _ _
 have HX:=qb (And.intro (show MsB _ A R from⟨v,V⟩) P)
 clear U3 S i I v P
 go_wp2_with fail
 go_end0
 obtain⟨h1,P⟩:=qa HX
 exact⟨rfl,(qa U4).trans (P.mono (fun k _ e=> .inl e)),h1,(qa E).upd P (fun e=>K e.symm)⟩
theorem q2s(F:FuncId)(o A p q G n:Nat)(c:Value)(m:MsgV)(s:ByteArray)(w:World)(hE:∀args w,(callFunc F args).run Tryz.prog w = .ok (.enter F args) w)(hF:∀w,Calls Tryz.prog F #[.pointer (some ⟨A,0,none⟩)] w (qay (.pointer (some ⟨A,o,none⟩)) w))(V:w.cell? ⟨p,0,none⟩=some (.func (.func F) #[] #[]))(W:w.cell? ⟨q,0,none⟩=some (.int .i64 (n:Int)))(S:MsB w A m)(ho:m.cells[o]? = some c)(T:Rd w G s)(Z:A≠G)(U:1≤n∧n≤8)(hs:s.size<n) :
  Calls Tryz.prog 214 #[qd0 G,.pointer (some ⟨A,0,none⟩),.pointer (some ⟨p,0,none⟩),.pointer (some ⟨q,0,none⟩)] w fun e w'=>qec 10 e∧Upd (fun k=>k=A∨k=G) w w':=by
 unfold qd0
 go_enter Tryz.func214,Tryz.ntmps214
 go_upto_region 1 with fail
 have i:qu w (w.alloc (.cells #[.pointer none,.pointer (some ⟨G,0,none⟩)] 234)):=(Upd.refl _ _).alloc _
 have H:=qh w (.cells #[.pointer none,.pointer (some ⟨G,0,none⟩)] 234)
 generalize w.alloc (.cells #[.pointer none,.pointer (some ⟨G,0,none⟩)] 234)=w1 at i H ⊢
 generalize w.heap.size=B at H ⊢
 have L:=i.cell V (fun h=>h)
 have E:=i.cell W (fun h=>h)
 have N:=qb (S.new i)
 have J:=qb H
 have O:=qb (T.new i)
 have P:=qb i
 clear H V S T W i
 go_wp2_with fail
 refine(hF w1).mono ?_
 rintro e M ⟨rfl,v⟩
 have z:=(qa N).new (v.upd _)
 have d0:M.cell? ⟨B,0,none⟩=some (.pointer none):=v.cell (qg (qa J) 0)
 have d1:M.cell? ⟨B,1,none⟩=some (.pointer (some ⟨G,0,none⟩)):=v.cell (qg (qa J) 1)
 have a6:=v.cell E
 have C:=(qa O).new (v.upd _)
 have R:=qb ((qa P).trans (v.upd _))
 have I:=qb z
 have f:=qh6 G n s M C U.1 U.2 hs
 clear z v L J N O P C E
 go_wp2_with fail
 refine f.mono ?_
 rintro e w3 ⟨rfl,X,K⟩
 have Y:=qb (((qa R).mono (fun _ _ h=>h.elim)).trans (X.mono (fun k _ e=>(Or.inr e:k=A∨k=G))))
 clear f R X K I
 go_wp2_with fail
 refine(qe8 10 (by decide) _).mono ?_
 rintro e w4 ⟨rfl,rfl⟩
 exact⟨rfl,rfl,qa Y⟩
end
end Go.Proofs.YtfmkdoachjgjbaaGreatDoor
