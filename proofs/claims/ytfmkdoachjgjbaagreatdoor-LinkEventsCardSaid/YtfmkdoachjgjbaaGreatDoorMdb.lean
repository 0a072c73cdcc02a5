/-
  A link's events: failed, any many.
-/
import Derived.Test.YtfmkdoachjgjbaaGreatDoorMda
import Derived.Test.YtfmkdoachjgjbaaGreatDoorMcg
set_option maxRecDepth 100000
set_option maxHeartbeats 2000000
set_option linter.unusedVariables false
set_option linter.unusedSimpArgs false
namespace Go.Proofs.YtfmkdoachjgjbaaGreatDoor
section
open Go.RowKit
attribute [local go_sem ↓ high] qbf qbs qci qdr zl qj6 qj7
attribute [local go_sem] qdo qd2 qfl qkb qbl q37 qwa q4e qx
theorem qwr(T:Nat→Prop)(g:Nat)(S:Nat→Prop)(l:Lk)(sp en lo:Nat)(SC SJ:Nat→Prop)(es:List EvV)(a7:Value)(va vb:Value)(m f:List Live)(w0 w:World)(h:EvSt T w0 w g S l sp en lo SC SJ es a7)(d3:T g)
  (hv:∀W,Upd T w0 W→LvO W vb m) (b6:∀W,Upd T w0 W→LvO W va f) (hl:m.length≤100000) (e9:f.length≤100000) (c7:es.length≤200000) :
  Calls Tryz.prog 147 #[.pointer (some ⟨g,0,none⟩),vb,va] w fun e w'=>e = .returned (.tuple #[])∧∃ev,EvSt T w0 w' g S l sp en lo SC SJ (es++qg0 m f) ev:=by
 obtain⟨a,cap,rfl,C⟩:=(hv w h.u).shape
 have hf:=fun own id W (n:Upd T w0 W)=>qoi own id _ f W (b6 W n) (by omega)
 obtain⟨ab,e5,rfl,b5⟩:=(b6 w h.u).shape
 have I:∀W,Upd T w0 W→∀(i:Nat) (x:Live),m[i]? = some x→∃g',a=some ⟨g',0,none⟩∧qd9 W g' 0 m:=by
  intro W u i x hi;have N:=(List.getElem?_eq_some_iff.1 hi).1;rcases hv W u with ⟨a',k,e,e0⟩ | ⟨g',k,e,hh⟩
  ·rw[e0] at N;simp at N
  ·injection e with e1;exact⟨g',e1,hh.toL⟩
 have HC:=qb I
 have HF:=qb hf
 have H0:=qb h
 clear I hf C b5 hv b6 h
 have f0:(m.length:Int)≤1000000:=by omega
 go_enter Tryz.func147,Tryz.ntmps147
 go_wp2_with fail
 go_loopw [10] (fun iv wr=>∃i:Nat,iv = .int .i64 (i:Int)∧i≤m.length∧Hid (∃ev,EvSt T w0 wr g S l sp en lo SC SJ (es++qg0 (m.take i) f) ev)) (fun iv _=>m.length-(intOf iv).toNat)
 case atStart=>exact⟨0,rfl,Nat.zero_le _,qb ⟨a7,by rw[List.take_zero];show EvSt T w0 w g S l sp en lo SC SJ (es++[]) a7;rw[List.append_nil];exact qa H0⟩⟩
 case round =>
  obtain⟨i,rfl,hi,hrel⟩:=hrel;obtain⟨V,rfl⟩:∃V:World,V=wr:=⟨_,rfl⟩;clear H0;by_cases N:i<m.length
  ·obtain⟨x,O⟩:∃x,m[i]? = some x:=⟨_,List.getElem?_eq_getElem N⟩;obtain⟨ev,R⟩:=qa hrel;have c9:=q0n f O;have c0:=q41 (m.take i) f;rw[List.length_take] at c0;have d5:(es++qg0 (m.take i) f).length≤300000:=by rw[List.length_append];omega
   have J:es++qg0 (m.take (i+1)) f=(es++qg0 (m.take i) f)++(if qiy f x=true then [evF x] else []):=by rw[c9,List.append_assoc]
   have H:=qb J;clear c9 c0 J hrel;generalize es++qg0 (m.take i) f=es' at R d5 H;obtain⟨g',rfl,hh⟩:=qa HC V R.u i x O;have C:=hh.row O;rw[Nat.zero_add] at C;have P:=qb R;have e7:(i:Int)<(m.length:Int):=by omega
   have d7:=qjw V x;have b4:=qjq V x;clear R;go_upto_region 3 with fail;obtain⟨hb,nb⟩:=b4;generalize (V.alloc (.cells (qo Live.zero).toArray 69)).setCells V.heap.size 0 (qo x)=wb at hb nb ⊢;generalize V.heap.size=X at hb ⊢;have Z:wb.cell? ⟨X,35,none⟩=some (.bool x.own):=by rw[qg hb,List.getElem?_toArray];exact qfo x
   have a6:wb.cell? ⟨X,37,none⟩=some (.bool x.paid):=by rw[qg hb,List.getElem?_toArray];exact qns x
   have d0:wb.cell? ⟨X,0,none⟩=some (.int .u64 x.h.id):=by rw[qg hb,List.getElem?_toArray];exact qsn x
   have d2:zf wb X 0 35=some (qk x.h).toArray:=by
    have:=qfy (qas hb 38 (by rw[List.size_toArray,qbo])) 0 35 (by omega);rw[qoz] at this;exact this
   have Y:=qb d2;have v:=qb ((qa P).new nb);have q:=qa HF true x.h.id wb (qa v).u;have c8:qg1 true x.h.id f = -1∧f.findIdx? (qcp true x.h.id)=none∨∃(j:Nat),qg1 true x.h.id f=(j:Int)∧f.findIdx? (qcp true x.h.id)=some j:=by
    unfold qg1;cases hc:f.findIdx? (qcp true x.h.id) with
    | none=>exact .inl ⟨rfl,rfl⟩
    | some j=>exact .inr ⟨j,rfl,rfl⟩
   have F:=qb c8;have c6:qiy f x=(x.own&&(!x.paid&&(f.findIdx? (qcp true x.h.id)).isNone)):=rfl;have E:=qb c6;clear hb nb C d7 HF HC hh O c8 c6 P d2;obtain⟨p,hp⟩:∃p,x.paid=p:=⟨_,rfl⟩;obtain⟨o,ho⟩:∃o,x.own=o:=⟨_,rfl⟩;rw[ho] at Z;rw[hp] at a6;have K:=qb (And.intro hp ho);clear hp ho;cases o with
   | false =>
    clear q F;go_wp2_with (with_reducible first|(first|refine' tw1 (qh ?_) ?_|refine' tw2 (qh ?_) ?_);rotate_left|refine' tw3 (qh ?_)|rfl|apply tn|refine' tw4 ?_);go_roundw
    case rel =>
     have e:qiy f x=false:=by rw[qa E,(qa K).2];rfl
     refine⟨i+1,by go_num,by omega,qb ⟨ev,?_⟩⟩;rw[qa H,e];simp only[Bool.false_eq_true,if_false,List.append_nil];exact qa v
    case measure=>simp[intOf];omega
   | true =>
    cases p with
    | true =>
     clear q F;go_wp2_with (with_reducible first|(first|refine' tw1 (qh ?_) ?_|refine' tw2 (qh ?_) ?_);rotate_left|refine' tw3 (qh ?_)|rfl|apply tn|refine' tw4 ?_);go_roundw
     case rel =>
      have e:qiy f x=false:=by rw[qa E,(qa K).1,(qa K).2];rfl
      refine⟨i+1,by go_num,by omega,qb ⟨ev,?_⟩⟩;rw[qa H,e];simp only[Bool.false_eq_true,if_false,List.append_nil];exact qa v
     case measure=>simp[intOf];omega
    | false =>
     rcases qa F with ⟨hj,hn⟩ | ⟨j,hj,hn⟩
     ·have b7:Hid (qiy f x=true):=qb (by rw[qa E,(qa K).1,(qa K).2,hn];rfl);rw[hj] at q;clear F hj hn E K;go_wp2_with (with_reducible first|(first|refine' tw1 (qh ?_) ?_|refine' tw2 (qh ?_) ?_);rotate_left|refine' tw3 (qh ?_)|rfl|apply tn|refine' tw4 ?_);refine q.mono ?_;rintro e wc ⟨rfl,nc⟩;have P:=qb ((qa v).new nc);have rX:zf wc X 0 35=some (qk x.h).toArray:=qap (qa Y) nc (fun h=>h);clear q nc v d0 Z a6 Y;go_upto_region 4 with fail;have hC:wc.drew.cell? ⟨g,4,none⟩=some ev∧zf wc.drew X 0 35=some (qk x.h).toArray:=⟨qg (qa P).lk.at_ 4,rX⟩;obtain⟨i9,z9,b9,d6,e3,d8,d9,e2,d4⟩:=qni;have c7:(evW 3 (qk x.h) (qu zg)).length=68:=EvV.len (evF x) qm;have e6:=qbj x.h;refine qa1 (fun w'=>w'.cell? ⟨g,4,none⟩=some ev∧zf w' X 0 35=some (qk x.h).toArray) [4,6] (.of [0,1,2,3,4,5,6,7,8,9,10,11,12]) (by kernel_rfl) (by kernel_rfl) hC ?_;simp only[Plan.of];go_wp2_with (with_reducible first|(first|refine' zv (qh ?_) ?_|refine' zx (qh ?_) ?_|refine' zy (qh ?_) ?_);rotate_left|refine' zz (qh ?_)|refine' qw5 (qh ?_)|rfl|apply qn);have nC:qq wc (wc.alloc (.cells (evW 3 (qk x.h) (qu zg)).toArray 43)).drew:=((Upd.refl _ _).alloc _).drew;have M:(wc.alloc (.cells (evW 3 (qk x.h) (qu zg)).toArray 43)).drew.heap[wc.heap.size]? = some (.cells (evW 3 (qk x.h) (qu zg)).toArray 43 (0,0)):=qj wc _;have r:=qb ((qa P).new nC);have L:=And.intro (nC.cell hC.1 (fun h=>h)) (qap rX nC (fun h=>h));refine⟨L,?_⟩;generalize (wc.alloc (.cells (evW 3 (qk x.h) (qu zg)).toArray 43)).drew=wC at r M L nC ⊢;generalize wc.heap.size=D at M ⊢
      clear P hC;go_wp2_with (first | (at_builtin;refine wpList_append_own_at _ rfl (.tmp 33) (.tmp 37) 38 rfl 0 43 i9 _ 68 b9 Tryz.underlying38 d6 e3 d8 d9 e2 (by decide) _ _ _ rfl (qa r).row ⟨D,0,none⟩ 1 1 (evW 3 (qk x.h) (qu zg)) rfl (by rw[c7]) ?c1 ?c2 ?c3 ?c4 ?c5 ?_) | (with_reducible first|(first|refine' zv (qh ?_) ?_|refine' zx (qh ?_) ?_|refine' zy (qh ?_) ?_);rotate_left|refine' zz (qh ?_)|refine' qw5 (qh ?_)|rfl|apply qn))
      case c1=>exact World.news_of_block (cs:=(evW 3 (qk x.h) (qu zg)).toArray) (fr:=(0,0)) M
      case c2=>exact EvV.one (evF x)
      case c3=>unfold maxLen;omega
      case c4=>have:=Nat.mul_le_mul (show es'.length+1≤1000000 by omega) d4;omega
      case c5=>omega
      intro v' wD z b3 _ U;obtain⟨a',e4,d1⟩:=qaf z;have uD:Upd (fun k=>ev.ownBlock=some k) wC wD:=(Upd.refl _ _).grown b3 (fun k hk _=>hk);have a8:¬(ev.ownBlock=some g):=fun e=>(qa r).out g e (qa r).lk.inG
      have f4:wD.frozen? ⟨g,4,none⟩=false:=qv (uD.old (qa r).lk.at_ a8) 4;have c4:wD.cell? ⟨g,4,none⟩=some ev:=uD.cell L.1 a8;have b8:=qb ((qa r).push (e:=(evF x)) d3 z b3 U);rw[d1] at b8 ⊢;clear z U b3 uD M r L a8 nC d1;go_wp2_with (first | (with_reducible first|(first|refine' zv (qh ?_) ?_|refine' zx (qh ?_) ?_|refine' zy (qh ?_) ?_);rotate_left|refine' zz (qh ?_)|refine' qw5 (qh ?_)|rfl|apply qn) | refine⟨trivial,?_⟩);go_roundw
      case rel =>
       refine⟨i+1,by go_num,by omega,?_⟩;rw[qa H,if_pos (qa b7)];exact qb ⟨_,qa b8⟩
      case measure=>simp[intOf];omega
     ·rw[hj] at q;have e8:(0:Int)≤(j:Int):=by omega
      have e:Hid (qiy f x=false):=qb (by rw[qa E,(qa K).1,(qa K).2,hn];rfl);clear F hj hn E K;go_wp2_with (with_reducible first|(first|refine' tw1 (qh ?_) ?_|refine' tw2 (qh ?_) ?_);rotate_left|refine' tw3 (qh ?_)|rfl|apply tn|refine' tw4 ?_);refine q.mono ?_;rintro e' wc ⟨rfl,nc⟩;have P:=qb ((qa v).new nc);clear q nc v d0 Z a6 Y;go_wp2_with (with_reducible first|(first|refine' tw1 (qh ?_) ?_|refine' tw2 (qh ?_) ?_);rotate_left|refine' tw3 (qh ?_)|rfl|apply tn|refine' tw4 ?_);go_roundw
      case rel =>
       refine⟨i+1,by go_num,by omega,qb ⟨ev,?_⟩⟩;rw[qa H,qa e];simp only[Bool.false_eq_true,if_false,List.append_nil];exact qa P
      case measure=>simp[intOf];omega
  ·obtain rfl:i=m.length:=by omega
   obtain⟨ev,R⟩:=qa hrel;rw[List.take_length] at R;have HR:=qb R;clear R hrel;go_wp2_with fail;go_end0;exact⟨rfl,ev,qa HR⟩
end
section
open Go.RowKit
attribute [local go_sem ↓ high] qbf qbs qci qdr zl qj6 qj7 qz zb ze
attribute [local go_sem] qdo qd2 qfl qkb qbl q37 qwa q4e qx qax qay qa4
def qmw(m:MsgV)(f:List Live):List EvV:=match f.findIdx? (qcp true m.id) with | some i=>(f[i]?).toList.map (fun x=>evP x m.hash) | none=>[]
def qdk(m:MsgV)(waits:Bool)(f i:List Live):List EvV :=
 if m.kind=4 then qmw m f else if m.kind=9 then (if waits=true then qfg [] i else []) else qfg f i++qg0 f i
def Lk.heard(l:Lk)(m:MsgV):Lk:= {l with waits:=if m.kind=9 then false else l.waits}
section
variable {T:Nat→Prop}{w w1 w':World}{g:Nat}{S:Nat→Prop}{l:Lk}{sp en lo:Nat}{SC SJ:Nat→Prop}{es:List EvV}{ev:Value}
theorem EvSt.back(h:EvSt T w1 w' g S l sp en lo SC SJ es ev)(n:qq w w1):EvSt T w w' g S l sp en lo SC SJ es ev :=
 ⟨h.lk,h.row,(n.mono (fun _ _ h=>h.elim)).trans h.u,h.out,fun k e=>(h.from_ k e).imp id (fun e=>by have:=n.size;omega)⟩
theorem EvSt.unwait(h:EvSt T w w' g S l sp en lo SC SJ es ev)(f:T g):EvSt T w (w'.setCell ⟨g,8,none⟩ (.bool false)) g S {l with waits:=false} sp en lo SC SJ es ev:=by
 have i:Upd (· = g) w' (w'.setCell ⟨g,8,none⟩ (.bool false)):=(Upd.refl _ _).set1 _ _;exact⟨h.lk.put rfl rfl rfl rfl,h.row.upd i (fun k m e=>h.out k m (e▸h.lk.inG)),h.u.trans (i.mono (fun k _ e=>by have e:k=g:=e;rw[e];exact f)),h.out,h.from_⟩
end
theorem q7y(T:Nat→Prop)(g:Nat)(S:Nat→Prop)(l:Lk)(sp en lo:Nat)(SC SJ:Nat→Prop)(es:List EvV)(ev:Value)(m:MsgV)(vb:Value)(bs:List Live)(w:World)(h:EvSt T w w g S l sp en lo SC SJ es ev)(F:T g)(b3:∀k,T k→k<w.heap.size)
  (hv:∀W,Upd T w W→LvO W vb bs) (hl:bs.length≤1000) (e8:l.c.xs.length≤1000) (b5:es.length≤10000) (Y:m.hash.length=32) :
  Calls Tryz.prog 110 #[.pointer (some ⟨g,0,none⟩),.agg m.cells.toArray,vb] w fun e w'=>e = .returned (.int .i64 0)∧∃R,EvSt T w w' g S (l.heard m) sp en lo SC SJ (es++qdk m l.waits bs l.c.xs) R:=by
 have b8:=fun W (n:qq w W)=>quq ((h.lk.new n).chn)
 have c1:w.cell? ⟨g,1,none⟩=some (.pointer (some ⟨en,0,none⟩)):=qg h.lk.at_ 1
 have f:=qb h
 have HV:=qb hv
 have a6:=qb b3
 have a7:=qb (show ∀k,ev.ownBlock=some k→T k from fun k e=>(h.from_ k e).elim id (fun e'=>by have:=h.row.lt k e;omega))
 clear h hv b3
 go_enter Tryz.func110,Tryz.ntmps110
 go_upto_region 1 with fail
 have hB:=zt w m Y
 have n1:qq w (w.alloc (.cells m.cells.toArray 101)):=(Upd.refl _ _).alloc _
 generalize w.alloc (.cells m.cells.toArray 101)=w1 at hB n1 ⊢
 generalize w.heap.size=B at hB ⊢
 replace c1:=n1.cell c1 (fun h=>h)
 have c6:=b8 w1 n1
 have HB:=qb hB
 have N1:=qb n1
 clear hB n1 b8
 go_wp2_with fail
 refine c6.mono ?_
 rintro e v ⟨u,rfl,n2,hu⟩
 have c0:=((qa HB).new n2).cells.1
 have d2:=((qa HB).new n2).cells.2.2.1
 have I:=qb ((qa HB).new n2)
 have N2:=qb ((qa N1).trans n2)
 have f:=qb ((qa f).new (qa N2))
 have Z:=(qa N1).size
 have HU:=qb (show ∀W,Upd T v W→LvO W u l.c.xs from fun W uW=>(hu.upd uW (fun k h1 _ e=>by have:=qa a6 k e;omega)).toO)
 have q:=qb (show ∀W,Upd T v W→LvO W vb bs from fun W uW=>qa HV W (((qa N2).mono (fun _ _ h=>h.elim)).trans uW))
 clear c6 N1 n2 c1 hu HB HV a6 Z
 by_cases E:m.kind=4
 ·have C:Hid (l.heard m=l∧qdk m l.waits bs l.c.xs=qmw m bs):=qb ⟨by unfold Lk.heard;rw[if_neg (by omega)],by unfold qdk;rw[if_pos E]⟩;rw[E] at c0;have z:=qoi true m.id vb bs v (qa q v (Upd.refl _ _)) (by omega);have d5:qg1 true m.id bs = -1∧bs.findIdx? (qcp true m.id)=none∨∃(j:Nat) (y:Live),qg1 true m.id bs=(j:Int)∧bs[j]? = some y∧bs.findIdx? (qcp true m.id)=some j:=by
   unfold qg1;cases hc:bs.findIdx? (qcp true m.id) with
   | none=>exact .inl ⟨rfl,rfl⟩
   | some j =>
    obtain⟨X,-⟩:=List.findIdx?_eq_some_iff_getElem.1 hc;exact .inr ⟨j,bs[j],rfl,List.getElem?_eq_getElem X,rfl⟩
  rcases d5 with ⟨X,hn⟩ | ⟨j,y,X,hy,hn⟩
  ·have HP:Hid (qmw m bs=[]):=qb (by unfold qmw;rw[hn]);rw[X] at z;clear X hn E;go_wp2_with fail;refine z.mono ?_;rintro e w3 ⟨rfl,n3⟩;have f:=qb ((qa f).new n3);clear z n3 c0 d2 I HU q;go_wp2_with fail;go_ret;refine⟨rfl,ev,?_⟩;rw[(qa C).1,(qa C).2,qa HP,List.append_nil];exact qa f
  ·have HP:Hid (qmw m bs=[evP y m.hash]):=qb (by unfold qmw;rw[hn];show (bs[j]?).toList.map _=_;rw[hy];rfl);rw[X] at z;have e6:(0:Int)≤(j:Int):=by omega
   clear X hn E;go_wp2_with fail;refine z.mono ?_;rintro e wc ⟨rfl,nc⟩;have f:=qb ((qa f).new nc);obtain⟨M,cb,rfl,b7⟩:∃M cb,vb = .slice (some ⟨M,0,none⟩) bs.length cb∧qdy wc M 0 bs:=by
    rcases qa q wc (nc.mono (fun _ _ h=>h.elim)) with ⟨a',k,e,e0⟩ | ⟨M,k,e,hh⟩
    ·rw[e0] at hy;simp at hy
    ·exact⟨M,k,e,hh⟩
   have e7:=(List.getElem?_eq_some_iff.1 hy).1;have e3:(j:Int)<(bs.length:Int):=by omega
   have rX:zf wc M (j*38) 35=some (qk y.h).toArray:=by
    have hr:=b7.row hy;rw[Nat.zero_add] at hr;have:=qfy hr 0 35 (by omega);rw[qoz] at this;exact this
   have rM:zf wc B 4 32=some (qu m.hash).toArray:=((qa I).new nc).cells.2.2.2.2.2.2;have e5:(qu m.hash).length=32:=by rw[qal,Y]
   have d4:es.length≤300000:=by omega
   clear z nc c0 d2 I HU q b7 hy;generalize P:es=es' at f d4;have c9:=qb P;clear P;go_upto_region 8 with fail;have hC:wc.drew.cell? ⟨g,4,none⟩=some ev∧zf wc.drew M (j*38) 35=some (qk y.h).toArray∧zf wc.drew B 4 32=some (qu m.hash).toArray:=⟨qg (qa f).lk.at_ 4,⟨rX,rM⟩⟩;obtain⟨i9,z9,b9,d6,e1,d8,Z,d9,d3⟩:=qni;have b5:(evW 2 (qk y.h) (qu m.hash)).length=68:=EvV.len (evP y m.hash) Y;have e4:=qbj y.h;refine qa1 (fun w'=>w'.cell? ⟨g,4,none⟩=some ev∧zf w' M (j*38) 35=some (qk y.h).toArray∧zf w' B 4 32=some (qu m.hash).toArray) [4,9,11] (.of [0,1,2,3,4,5,6,7,8,9,10,11,12,13,14,15,16,17]) (by kernel_rfl) (by kernel_rfl) hC ?_;simp only[Plan.of];go_wp2_with (with_reducible first|(first|refine' zv (qh ?_) ?_|refine' zx (qh ?_) ?_|refine' zy (qh ?_) ?_);rotate_left|refine' zz (qh ?_)|refine' qw5 (qh ?_)|rfl|apply qn);have nC:qq wc (wc.alloc (.cells (evW 2 (qk y.h) (qu m.hash)).toArray 43)).drew:=((Upd.refl _ _).alloc _).drew;have L:(wc.alloc (.cells (evW 2 (qk y.h) (qu m.hash)).toArray 43)).drew.heap[wc.heap.size]? = some (.cells (evW 2 (qk y.h) (qu m.hash)).toArray 43 (0,0)):=qj wc _;have i:=qb ((qa f).new nC);have K:=And.intro (nC.cell hC.1 (fun h=>h)) (And.intro (qap rX nC (fun h=>h)) (qap rM nC (fun h=>h)));refine⟨K,?_⟩;generalize (wc.alloc (.cells (evW 2 (qk y.h) (qu m.hash)).toArray 43)).drew=wC at i L K nC ⊢;generalize wc.heap.size=D at L ⊢;clear f hC;go_wp2_with (first | (at_builtin;refine wpList_append_own_at _ rfl (.tmp 36) (.tmp 45) 38 rfl 0 43 i9 _ 68 b9 Tryz.underlying38 d6 e1 d8 Z d9 (by decide) _ _ _ rfl (qa i).row ⟨D,0,none⟩ 1 1 (evW 2 (qk y.h) (qu m.hash)) rfl (by rw[b5]) ?c1 ?c2 ?c3 ?c4 ?c5 ?_) | (with_reducible first|(first|refine' zv (qh ?_) ?_|refine' zx (qh ?_) ?_|refine' zy (qh ?_) ?_);rotate_left|refine' zz (qh ?_)|refine' qw5 (qh ?_)|rfl|apply qn))
   case c1=>exact World.news_of_block (cs:=(evW 2 (qk y.h) (qu m.hash)).toArray) (fr:=(0,0)) L
   case c2=>exact EvV.one (evP y m.hash)
   case c3=>unfold maxLen;omega
   case c4=>have:=Nat.mul_le_mul (show es'.length+1≤1000000 by omega) d3;omega
   case c5=>omega
   intro v' wD r V _ O;obtain⟨a',e2,c7⟩:=qaf r;have uD:Upd (fun k=>ev.ownBlock=some k) wC wD:=(Upd.refl _ _).grown V (fun k hk _=>hk);have U:¬(ev.ownBlock=some g):=fun e=>(qa i).out g e (qa i).lk.inG
   have f4:wD.frozen? ⟨g,4,none⟩=false:=qv (uD.old (qa i).lk.at_ U) 4;have c4:wD.cell? ⟨g,4,none⟩=some ev:=uD.cell K.1 U;have J:=qb ((qa i).push (e:=(evP y m.hash)) F r V O);rw[c7] at J ⊢;clear r O V uD L i K U nC c7;go_wp2_with (first | (with_reducible first|(first|refine' zv (qh ?_) ?_|refine' zx (qh ?_) ?_|refine' zy (qh ?_) ?_);rotate_left|refine' zz (qh ?_)|refine' qw5 (qh ?_)|rfl|apply qn) | refine⟨trivial,?_⟩);go_ret;refine⟨rfl,?_⟩;rw[(qa C).1,(qa C).2,qa HP,qa c9];exact⟨_,qa J⟩
 ·have b4:(m.kind==4)=false:=by simpa using E
  by_cases N:m.kind=9
  ·have C:Hid (l.heard m = {l with waits:=false} ∧ qdk m l.waits bs l.c.xs=if l.waits=true then qfg [] l.c.xs else []):=qb ⟨by unfold Lk.heard;rw[if_pos N],by unfold qdk;rw[if_neg E,if_pos N]⟩;rw[N] at c0;have c8:v.cell? ⟨g,8,none⟩=some (.bool l.waits):=qg (qa f).lk.at_ 8;have f8:=qv (qa f).lk.at_ 8;clear N E b4 I q d2;cases hw:l.waits with
   | false =>
    rw[hw] at c8;have HW:=qb hw;clear hw HU f8;go_wp2_with fail;go_ret;refine⟨rfl,ev,?_⟩;rw[(qa C).1,(qa C).2];have e:({l with waits:=false} : Lk)=l:=by rw[←qa HW]
    rw[e,qa HW];simp only[Bool.false_eq_true,if_false,List.append_nil];exact qa f
   | true =>
    rw[hw] at c8;have HW:=qb hw;have J:=qb ((show EvSt T v v g S l sp en lo SC SJ es ev from⟨(qa f).lk,(qa f).row,Upd.refl _ _,(qa f).out,fun k e=> .inl (qa a7 k e)⟩).unwait F);have H:=qtp T g S {l with waits:=false} sp en lo SC SJ es ev u (.slice none 0 0) [] l.c.xs v (v.setCell ⟨g,8,none⟩ (.bool false)) (qa J) F (fun W _=> .inl ⟨none,0,rfl,rfl⟩) (qa HU) (by simp) (by show l.c.xs.length≤_;omega) (by omega);clear hw f;go_wp2_with fail;refine H.mono ?_;rintro e w3 ⟨rfl,R,h3⟩;have H3:=qb h3;clear H h3;go_wp2_with fail;go_ret;refine⟨rfl,R,?_⟩;rw[(qa C).1,(qa C).2,if_pos (qa HW)];exact(qa H3).back (qa N2)
  ·have C:Hid (l.heard m=l∧qdk m l.waits bs l.c.xs=qfg bs l.c.xs++qg0 bs l.c.xs):=qb ⟨by unfold Lk.heard;rw[if_neg N],by unfold qdk;rw[if_neg E,if_neg N]⟩;have b9:(m.kind==9)=false:=by simpa using N
   have a8:EvSt T v v g S l sp en lo SC SJ es ev:=by
    have h:=qa f;exact⟨h.lk,h.row,Upd.refl _ _,h.out,fun k e=> .inl (qa a7 k e)⟩
   have H:=qtp T g S l sp en lo SC SJ es ev u vb bs l.c.xs v v a8 F (qa q) (qa HU) (by omega) (by omega) (by omega);clear E N a8 f;go_wp2_with fail;refine H.mono ?_;rintro e w3 ⟨rfl,d0,h3⟩;have d7:(es++qfg bs l.c.xs).length≤200000:=by
    have:=qto bs l.c.xs;rw[List.length_append];omega
   have b6:=qwr T g S l sp en lo SC SJ (es++qfg bs l.c.xs) d0 u vb bs l.c.xs v w3 h3 F (qa q) (qa HU) (by omega) (by omega) d7;clear H h3;go_wp2_with fail;refine b6.mono ?_;rintro e w4 ⟨rfl,d1,E⟩;have H4:=qb E;clear b6 E;go_wp2_with fail;go_ret;refine⟨rfl,d1,?_⟩;rw[(qa C).1,(qa C).2,←List.append_assoc];exact(qa H4).back (qa N2)
end
section
open Go.RowKit
structure LkOkW(l:Lk):Prop where
 dead:l.dead=false
 fused:l.j.fused=false
 off:l.j.off=false
 many:0≤l.j.many∧l.j.many<1000000000000
 len:l.j.bs.size≤1000000000000
 out:l.out.size≤1000000000000
theorem qqe:∀(X:List MsgV) (i j:Nat) (m:MsgV),(∀m∈X,m.hash.length=32)→X[i]? = some m→j<38→(X.flatMap MsgV.cells)[i*38+j]? = m.cells[j]?
 | [],i,j,m,_,f,_=>by simp at f
 | y::X,i,j,m,h,f,r=>by
  have q:=y.len (h y (List.mem_cons_self ..));rw[List.flatMap_cons];cases i with
  | zero =>
   simp only[List.getElem?_cons_zero,Option.some.injEq] at f;subst f;rw[List.getElem?_append_left (by rw[q];omega),Nat.zero_mul,Nat.zero_add]
  | succ i =>
   rw[List.getElem?_append_right (by rw[q];omega),q,show (i+1)*38+j-38=i*38+j by omega];exact qqe X i j m (fun m v=>h m (List.mem_cons_of_mem _ v)) (by simpa using f) r
theorem qb6.rows{base:Nat}{w:World}{v:Value}{f:List MsgV}(h:qb6 base w v f)(F:∀m∈f,m.hash.length=32):(f=[]∧v = .slice none 0 0)∨∃g cap,v = .slice (some ⟨g,0,none⟩) f.length cap∧base≤g∧g<w.heap.size∧∀i m,f[i]? = some m→zf w g (i*38) 38=some m.cells.toArray:=by
 rcases h.2 with ⟨e,H⟩ | ⟨g,cap,q,e,I,E,O,_,L,N⟩
 ·exact .inl ⟨List.length_eq_zero_iff.1 H,e⟩
 ·refine .inr ⟨g,cap,e,I,zr E,fun i m r=> ?_⟩;have z:=(List.getElem?_eq_some_iff.1 r).1;have M:i*38+38≤q.size:=by
   rw[L];have:=Nat.mul_le_mul_right 38 (show i+1≤cap by omega);omega
  rw[qb8 E (i*38) 38 (by omega)];congr 1;apply Array.ext';rw[Array.toList_extract];show List.extract q.toList (i*38) (i*38+38)=m.cells;have K:=m.len (F m (List.mem_of_getElem? r));apply List.ext_getElem?;intro j;rw[List.extract_eq_take_drop,List.getElem?_take];by_cases J:j<38
  ·rw[if_pos (by omega),List.getElem?_drop];have C:=qqe f i j m F r J;rw[←N,List.getElem?_take,if_pos (by have:=Nat.mul_le_mul_right 38 (show i+1≤f.length from z);omega)] at C;exact C
  ·rw[if_neg (by omega),List.getElem?_eq_none (by omega)]
theorem q1a(r C g base:Nat)(S:Nat→Prop)(l:Lk)(sp en lo:Nat)(z E:Nat→Prop)(i:List MsgV)(v:Value)(w:World)(h:LkP w g S l sp en lo z E)(I:∀m∈i,SayOk m)(P:i.length≤1000)(N:l.out.size≤1099511627776)(F:w.cell? ⟨r,0,none⟩=some (.pointer (some ⟨g,0,none⟩)))(H:w.cell? ⟨C,0,none⟩=some v)(M:qb6 base w v i)(T:g<base) :
  Calls Tryz.prog 108 #[.pointer (some ⟨r,0,none⟩),.pointer (some ⟨C,0,none⟩)] w fun e w'=>e = .returned (.int .i64 0)∧LkP w' g S {l with out:=qaq i l.out} sp en lo z E∧Upd (· = g) w w':=by
 rcases M.rows (fun m h=>(I m h).put.ok.len) with ⟨rfl,rfl⟩ | ⟨B,cap,rfl,R,-,L⟩
 ·refine(qw9 r C g none 0 w F H).mono ?_;rintro e w' ⟨rfl,q⟩;exact⟨rfl,h.new (q.upd _),q.upd _⟩
 ·have f:=q7d g B cap S l sp en lo z E i w h I P N L (by omega);clear h M L I N;go_enter Tryz.func108,Tryz.ntmps108;go_wp2_with fail;refine f.mono ?_;rintro e w1 ⟨rfl,K,O⟩;have J:=qb (And.intro K O);clear f K O;go_wp2_with fail;go_ret;exact⟨rfl,(qa J).1,(qa J).2⟩
attribute [local go_sem ↓ high] qz zb ze zi qak
attribute [local go_sem] qax qay qa4 qx qab qco
theorem q1b(T:Nat→Prop)(I M H g:Nat)(S:Nat→Prop)(l:Lk)(sp en lo:Nat)(i q:Nat→Prop)(es:List EvV)(ev:Value)(m:MsgV)(F:Value)(bs:List Live)(w:World)(h:EvSt T w w g S l sp en lo i q es ev)(v:T g)(z:∀k,T k→k<w.heap.size)(L:∀W,Upd T w W→LvO W F bs)(R:bs.length≤1000)(C:l.c.xs.length≤1000)(E:es.length≤10000)(P:w.cell? ⟨I,0,none⟩=some (.pointer (some ⟨g,0,none⟩)))(r:MsB w M m)(O:w.cell? ⟨H,0,none⟩=some F) :
  Calls Tryz.prog 109 #[.pointer (some ⟨I,0,none⟩),.pointer (some ⟨M,0,none⟩),.pointer (some ⟨H,0,none⟩)] w fun e w'=>e = .returned (.int .i64 0)∧∃f,EvSt T w w' g S (l.heard m) sp en lo i q (es++qdk m l.waits bs l.c.xs) f:=by
 have U:=r.row
 have K:=q7y T g S l sp en lo i q es ev m F bs w h v z L R C E r.len
 clear h r L
 go_enter Tryz.func109,Tryz.ntmps109
 go_wp2_with fail
 refine K.mono ?_
 rintro e w1 ⟨rfl,f,J⟩
 have N:=qb J
 clear K J
 go_wp2_with fail
 go_ret
 exact⟨rfl,f,qa N⟩
structure HFin(W:World)(g:Nat)(S0:Nat→Prop)(S:Nat→Prop)(sp en lo SD:Nat)(L:Lk)(es:List EvV)(a:World):Prop where
 upd:Upd (fun k=>S k∨k=SD) W a
 lk:∃S1 SC SJ ev,LkP a g S1 {L with ev:=ev} sp en lo SC SJ∧qir a ev es∧(∀k,ev.ownBlock=some k→¬S1 k)∧(∀k,ev.ownBlock=some k→S k∨W.heap.size≤k)∧(∀k,S1 k→S0 k∨W.heap.size≤k)
def zc1(W:World)(g:Nat)(f S:Nat→Prop)(sp en lo q:Nat)(v:Nat→Prop)(l:Lk)(ev:Value)(es:List EvV)(m:MsgV)(c':Ch)(r:List MsgV)(er:Int)(rec:ByteArray)(i:Nat)(a:World):Prop :=
 if i=0 then qq W a else er=0∧(if i=1 then GSt W g f sp en lo q v r {l with c:=c',ev:=ev} a else if i=2 then GS2 W g f sp en lo q r {l with c:=c',j:=l.j.app rec,ev:=ev} a else if i=3 then GS3 W g f sp en lo q {l with c:=c',j:=l.j.app rec,out:=qaq r l.out,ev:=ev} a else HFin W g f S sp en lo q (Lk.heard {l with c:=c',j:=l.j.app rec,out:=qaq r l.out} m) (es++qdk m l.waits l.c.xs c'.xs) a)
def zc2(W:World)(g:Nat)(f:Nat→Prop)(sp en lo i:Nat)(m:Nat→Prop)(l:Lk)(ev:Value)(c':Ch)(q:List MsgV)(er:Int)(x:Int)(a:World):Prop:=x=er∧GSt W g f sp en lo i m q {l with c:=c',ev:=ev} a
theorem que(g b P M f BF P0 P1 B:Nat)(z S:Nat→Prop)(l:Lk)(ev:Value)(es:List EvV)(sp en lo:Nat)(SC R:Nat→Prop)(m:MsgV)(c':Ch)(F:List MsgV)(er:Int)(xs:List ByteArray)(v0:Value)(vb:Value)(W:World)
  (h:LkP W g z {l with ev:=ev} sp en lo SC R) (hE:qir W ev es) (a8:∀k,ev.ownBlock=some k→¬z k) (a7:∀k,ev.ownBlock=some k→S k) (r:∀k,z k→S k) (d1:∀k,S k→k<W.heap.size) (q:LkOkW l) (hT:Tabs W) (hA:ApD S) (d5:∀m∈F,SayOk m) (d4:F.length≤1000) (b6:l.c.xs.length≤1000) (b7:c'.xs.length≤1000) (d3:es.length≤10000) (d8:∀a,Upd (fun k=>S k∨k=f) W a→LvO a vb l.c.xs)
  (hF:∀a,qq W a→Calls Tryz.prog 107 #[.pointer (some ⟨en,0,none⟩),.agg m.cells.toArray] a (qe7 en SC a c' F er))
  (cL:W.cell? ⟨P,0,none⟩=some (.pointer (some ⟨g,0,none⟩))) (hM:MsB W M m) (Z:W.heap[f]? = some (.cells #[v0] 124 (0,0))) (c4:W.cell? ⟨BF,0,none⟩=some vb)
  (c0:W.cell? ⟨P0,0,none⟩=some (.pointer (some ⟨g,0,none⟩))) (c1:W.cell? ⟨P1,0,none⟩=some (.slice (some ⟨B,0,none⟩) xs.length xs.length)) (hx:∀j x,xs[j]? = some x→W.cell? ⟨B,j,none⟩=some (.string x))
  (hn:xs.length≤1000) (d6:(zq xs).size≤1024) (b9:qlr W b 4 q5q (fun _=>#[]) (qoo P M f BF P0 P1))
  (I:¬S P∧¬S M∧¬S P0∧¬S P1∧¬S b∧¬S B∧¬S f∧¬S BF) (E:P≠f∧M≠f∧P0≠f∧P1≠f∧b≠f∧B≠f∧BF≠f) (e3:B<W.heap.size) (e5:b<W.heap.size) (b5:f≠4∧f≠1) :
  Calls Tryz.prog 66 #[.pointer (some ⟨g,0,none⟩),.slice (some ⟨b,0,none⟩) 4 4] W fun e w'=>Upd (fun k=>S k∨k=f∨W.heap.size≤k) W w'∧qyv 4 (zc1 W g z S sp en lo f R l ev es m c' F er (zq xs)) (zc2 W g z sp en lo f R l ev c' F er) e w':=by
 have C:=h.lt
 have e4:=hM.lt
 have e1:=zr Z
 have c9:∀ {a:World} {k:Nat},k<W.heap.size→¬S k→¬Fr z W a k:=fun q V e=>e.elim (fun e=>V (r _ e)) (fun e=>by omega)
 have e0:∀ {a:World},Upd (fun k=>z k∨k=f) W a→Tabs a:=fun u=>hT.upd u (fun e=>e.elim (fun e=>hA.c (r _ e)) (fun e=>b5.1 e.symm)) (fun e=>e.elim (fun e=>hA.d (r _ e)) (fun e=>b5.2 e.symm))
 have Y:∀k,¬S k→¬z k:=fun k h e=>h (r k e)
 refine qwl g b 4 q5q (fun _=>#[]) (qoo P M f BF P0 P1) (fun k=>S k∨k=f∨W.heap.size≤k) _ _ W (by decide) (by have:=qg h.at_ 6;rw[show W.cell? ⟨g,6,none⟩=some (.bool l.dead) from this,q.dead]) b9 ?_ ?_ ?_
 ·rintro (e | e | e)
  ·exact I.2.2.2.2.1 e
  ·exact E.2.2.2.2.1 e
  ·omega
 ·intro i hi a hC;rcases (by omega:i=0∨i=1∨i=2∨i=3) with rfl | rfl | rfl | rfl
  ·refine⟨enters_of Tryz.func106 (by kernel_rfl) rfl,?_⟩;have nA:qq W a:=hC;have U:¬SC f:=fun e=>I.2.2.2.2.2.2.1 (r _ (h.inC _ e))
   refine(q09 P M f g z {l with ev:=ev} sp en lo SC R m c' F er v0 a (h.new nA) (nA.cell cL (fun h=>h)) (hM.new nA) (nA.old Z (fun h=>h)) U (fun W' n=>hF W' (nA.trans n))).mono ?_;rintro e L ⟨rfl,a0,a1,v,c2,u1,d2,X,rfl⟩;have d9:=qx2 X;have e6:=qa3 X;have nB:=nA.trans c2;have h1:=(h.new nB).chan u1 d2;have z0:=nB.size;have z1:=u1.size;have d0:=u1.old (nB.old Z (fun h=>h)) U;have b4:=qad d0 0 v;have J:Upd (· = f) a1 (a1.setCell ⟨f,0,none⟩ v):=(Upd.refl _ _).set1 _ _;generalize a1.setCell ⟨f,0,none⟩ v=a2 at b4 J ⊢;have z2:=J.size;have h2:=h1.upd J (fun k q e=>by
    rcases q with q | q
    ·exact I.2.2.2.2.2.2.1 (r _ (e▸q))
    ·omega)
   have h3:LkP a2 g (Fr z W a2) {l with c:=c',ev:=ev} sp en lo (Fr SC a0 a1) R:=h2.wider (fun k q=>q.elim .inl (fun e=> .inr ⟨by omega,by omega⟩)) (fun k q=>q.elim (fun e=>by have:=C k e;omega) (fun e=>e.2));have u:Upd (fun k=>z k∨k=f) W a2:=((nB.mono (fun _ _ h=>h.elim)).trans (u1.mono (fun k _ e=> .inl (h.inC k e)))).trans (J.mono (fun k _ e=> .inr e));have st:GSt W g z sp en lo f R F {l with c:=c',ev:=ev} a2:=by
    refine⟨u,⟨v,qg b4 0,?_⟩,_,h3⟩;have d7:=qac X J (fun k q e=>by have:=d9 k q;omega);exact qx3 d7 z0
   refine⟨((c2.mono (fun _ _ h=>h.elim)).trans (u1.mono (fun k _ e=> .inl (r _ (h.inC k e))))).trans (J.mono (fun k _ e=> .inr (.inl e))),?_⟩;by_cases T:er=0
   ·subst T;exact .inl ⟨rfl,rfl,st⟩
   ·exact .inr ⟨er,T,rfl,rfl,st⟩
  ·refine⟨enters_of Tryz.func112 (by kernel_rfl) rfl,?_⟩;obtain⟨T,u,⟨v,a6,X⟩,H,hl⟩:er=0∧GSt W g z sp en lo f R F {l with c:=c',ev:=ev} a:=hC;have z0:=u.size;have b3:=World.block_lt_of_cell? W _ c0;refine(qxx P0 P1 B g (Fr z W a) {l with c:=c',ev:=ev} sp en lo H R xs a hl q.dead q.fused q.off ⟨q.many.1,by have:=q.many.2;show l.j.many<_;omega⟩ (by have:=q.len;show l.j.bs.size≤_;omega) (e0 u) hn d6
    (u.cell c0 (fun e=>e.elim (Y _ I.2.2.1) E.2.2.1)) (u.cell c1 (fun e=>e.elim (Y _ I.2.2.2.1) E.2.2.2.1)) (fun j x e=>u.cell (hx j x e) (fun e=>e.elim (Y _ I.2.2.2.2.2.1) E.2.2.2.2.2.1)) (by omega) (c9 b3 I.2.2.1)).mono ?_
   rintro e L ⟨rfl,⟨e2,h2⟩,J⟩;have z2:=J.size;have O:=h.inG;have u3:Upd z a L:=J.mono (fun k _ e=>e.elim (h.inJ k) (fun e=>by rw[e];exact O));refine⟨u3.mono (fun k q e=> .inl (r _ e)),.inl ⟨rfl,T,?_⟩⟩;show GS2 W g z sp en lo f F {l with c:=c',j:=l.j.app (zq xs),ev:=ev} L;refine⟨?_,⟨v,u3.cell a6 (Y _ I.2.2.2.2.2.2.1),qac X u3 (fun k q e=>by have:=qx2 X k q;have:=C k e;omega)⟩,?_⟩
   ·exact u.trans (u3.mono (fun k _ e=> .inl e))
   ·exact⟨_,_,h2.wider (fun k q=>q.elim (fun e=>e.elim .inl (fun e=> .inr ⟨e.1,by omega⟩)) (fun e=> .inr ⟨by omega,e.2⟩)) (fun k q=>q.elim (fun e=>by have:=C k e;omega) (fun e=>e.2))⟩
  ·refine⟨enters_of Tryz.func108 (by kernel_rfl) rfl,?_⟩;obtain⟨T,u,⟨v,a6,X⟩,H,K,hl⟩:er=0∧GS2 W g z sp en lo f F {l with c:=c',j:=l.j.app (zq xs),ev:=ev} a:=hC;have O:=h.inG;have b8:=C g O;refine(q1a P f g W.heap.size _ _ sp en lo H K F v a hl d5 d4 (by have:=q.out;show l.out.size≤_;omega) (u.cell cL (fun e=>e.elim (Y _ I.1) E.1)) a6 X b8).mono ?_;rintro e L ⟨rfl,h2,J⟩;have z2:=J.size;have u3:Upd z a L:=J.mono (fun k _ e=>by have e:k=g:=e;rw[e];exact O);refine⟨u3.mono (fun k q e=> .inl (r _ e)),.inl ⟨rfl,T,?_⟩⟩;show GS3 W g z sp en lo f {l with c:=c',j:=l.j.app (zq xs),out:=qaq F l.out,ev:=ev} L;exact⟨u.trans (u3.mono (fun k _ e=> .inl e)),_,_,LkP.wider h2 (fun k q=>q.elim .inl (fun e=> .inr ⟨e.1,by omega⟩)) (fun k q=>q.elim (fun e=>by have:=C k e;have:=u.size;omega) (fun e=>e.2))⟩
  ·refine⟨enters_of Tryz.func109 (by kernel_rfl) rfl,?_⟩;obtain⟨T,u,H,K,hl⟩:er=0∧GS3 W g z sp en lo f {l with c:=c',j:=l.j.app (zq xs),out:=qaq F l.out,ev:=ev} a:=hC;have za:=u.size;have c8:=hE.lt;have b8:=C g h.inG;have c5:∀k,ev.ownBlock=some k→k≠f:=fun k e e'=>by rw[e'] at e;exact I.2.2.2.2.2.2.1 (a7 _ e)
   have c7:qir a ev es:=hE.upd u (fun k e e'=>e'.elim (a8 k e) (c5 k e));have c6:∀k,ev.ownBlock=some k→¬Fr z W a k:=fun k e e'=>e'.elim (a8 k e) (fun e'=>by have:=c8 k e;omega)
   have N:∀k,(k=g∨ev.ownBlock=some k)→S k:=fun k e=>e.elim (fun e=>by rw[e];exact r _ h.inG) (a7 k)
   refine(q1b (fun k=>k=g∨ev.ownBlock=some k) P M BF g _ {l with c:=c',j:=l.j.app (zq xs),out:=qaq F l.out} sp en lo H K es ev m vb l.c.xs a ⟨hl,c7,Upd.refl _ _,c6,fun k e=> .inl (.inr e)⟩ (.inl rfl) (fun k e=>by have:=d1 k (N k e);omega)
    (fun W' uW=>d8 W' ((u.mono (fun k _ e=>e.imp (r k) id)).trans (uW.mono (fun k _ e=> .inl (N k e))))) b6 b7 d3 (u.cell cL (fun e=>e.elim (Y _ I.1) E.1)) (hM.upd u (fun e=>e.elim (Y _ I.2.1) E.2.1)) (u.cell c4 (fun e=>e.elim (Y _ I.2.2.2.2.2.2.2) E.2.2.2.2.2.2))).mono ?_
   rintro e L ⟨rfl,c3,V⟩;have zn:=V.u.size;have uS:Upd S a L:=V.u.mono (fun k _ e=>N k e);refine⟨uS.mono (fun k _ e=> .inl e),.inl ⟨rfl,T,?_⟩⟩;show HFin W g z S sp en lo f (Lk.heard {l with c:=c',j:=l.j.app (zq xs),out:=qaq F l.out} m) (es++qdk m l.waits l.c.xs c'.xs) L;exact⟨(u.mono (fun k _ e=>e.imp (r k) id)).trans (uS.mono (fun k _ e=> .inl e)),_,H,K,c3,V.lk,V.row,V.out,fun k e=>(V.from_ k e).imp (N k) (fun e=>by omega),fun k e=>e.imp id (fun e=>e.1)⟩
 ·exact Upd.refl _ _
end
section
open Go.RowKit
structure LvP(w:World)(g:Nat)(S S0:Nat→Prop)(l:Lk)(ev:Value)(es:List EvV)(sp en lo:Nat)(SC SJ:Nat→Prop):Prop where
 lk:LkP w g S0 {l with ev:=ev} sp en lo SC SJ
 row:qir w ev es
 out:∀k,ev.ownBlock=some k→¬S0 k
 inE:∀k,ev.ownBlock=some k→S k
 in0:∀k,S0 k→S k
 lt:∀k,S k→k<w.heap.size
def qcv(w:World)(g:Nat)(S:Nat→Prop)(l:Lk)(es:List EvV)(sp en lo:Nat):Prop:=∃f i m ev,LvP w g S f l ev es sp en lo i m
def Lk.hearR(l:Lk)(c':Ch)(i:List MsgV)(m:MsgV)(f:ByteArray)(er:Int):Lk:=if er=0 then Lk.heard {l with c:=c',j:=l.j.app (zq [qw 6 1,f]),out:=qaq i l.out} m else {l with c:=c'}
def qlv(es:List EvV)(m:MsgV)(waits:Bool)(f i:List Live)(er:Int):List EvV:=if er=0 then es++qdk m waits f i else es
def LkV(w:World)(g:Nat)(S:Nat→Prop)(l:Lk)(es:List EvV):Prop:=∃sp en lo,qcv w g S l es sp en lo
attribute [local go_sem ↓ high] qz zb ze zi qak
attribute [local go_sem] qax qay qa4 qx qab qco
theorem q1o(g:Nat)(S S0:Nat→Prop)(l:Lk)(ev:Value)(es:List EvV)(sp en lo:Nat)(SC SJ:Nat→Prop)(m:MsgV)(c':Ch)(ms:List MsgV)(er:Int)(f:ByteArray)(w:World)(h:LvP w g S S0 l ev es sp en lo SC SJ)(hk:LkOkW l)(hT:Tabs w)(hA:ApD S)(N:∀m∈ms,SayOk m)(L:ms.length≤1000)(q:l.c.xs.length≤1000)(r:c'.xs.length≤1000)(v:es.length≤10000)(f4:m.hash.length=32)(f9:f.size≤1000)
  (hD:∀W,Calls Tryz.prog 105 #[.string f] W (qa7 (.tuple #[.agg m.cells.toArray,.int .i64 0]) W))
  (hF:∀a,qq w a→Calls Tryz.prog 107 #[.pointer (some ⟨en,0,none⟩),.agg m.cells.toArray] a (qe7 en SC a c' ms er)) :
  Calls Tryz.prog 65 #[.pointer (some ⟨g,0,none⟩),.string f] w fun e w'=>e = .returned (.int .i64 er)∧Upd S w w'∧qcv w' g (Fr S w w') (l.hearR c' ms m f er) (qlv es m l.waits l.c.xs c'.xs er) sp en lo:=by
 have f8:∀(fn:Fn) (first cap:Array Value) (w:World),(Instr.makeFunc fn first cap).run Tryz.prog w = .ok (.func fn first cap) w:=fun _ _ _ _=>rfl
 have c1:w.cell? ⟨g,1,none⟩=some (.pointer (some ⟨en,0,none⟩)):=qg h.lk.at_ 1
 have HX:=qb (And.intro h (And.intro hk (And.intro hF (And.intro hT hA))))
 have f2:=qb h.lt
 have d1:=fun W (n:qq w W)=>quq ((h.lk.new n).chn)
 have e6:=qb (And.intro N (And.intro L (And.intro q (And.intro r v))))
 clear N L q r v
 clear h hk hF hT hA
 go_enter Tryz.func65,Tryz.ntmps65
 go_upto_region 1 with fail
 have b0:=qj w (.cells #[.pointer (some ⟨g,0,none⟩)] 28)
 have n0:qq w (w.alloc (.cells #[.pointer (some ⟨g,0,none⟩)] 28)):=(Upd.refl _ _).alloc _
 have z0:(w.alloc (.cells #[.pointer (some ⟨g,0,none⟩)] 28)).heap.size=w.heap.size+1:=World.size_alloc _ _
 generalize w.alloc (.cells #[.pointer (some ⟨g,0,none⟩)] 28)=w0 at b0 n0 z0 ⊢
 generalize c7:w.heap.size=C at b0 z0 ⊢
 have e7:=qb c7
 have Z0:=qb z0
 have B0:=qb b0
 have N0:=qb n0
 clear c7 b0 n0 z0
 go_wp2_with fail
 refine(hD w0).mono ?_
 rintro e w1 ⟨rfl,n1⟩
 have N1:=qb ((qa N0).trans n1)
 have B1:=qb (n1.old (qa B0) (fun h=>h))
 have Z1:=qb n1.size
 clear n1 hD N0 B0
 obtain⟨E,X,O⟩:=qi7 w1 m f4
 go_upto_region 2 with fail
 change Code.wp _ _ _ _ (qj4 w1 m)
 generalize qj4 w1 m=w2 at X O ⊢
 generalize Y:w1.heap.size=M at X E ⊢
 have c2:=O.cell ((qa N1).cell c1 (fun h=>h)) (fun h=>h)
 have d0:=d1 w2 ((qa N1).trans O)
 have d2:w2.cell? ⟨C,0,none⟩=some (.pointer (some ⟨g,0,none⟩)):=O.cell (qg (qa B1) 0) (fun h=>h)
 have H2:=qb (And.intro X (And.intro O Y))
 clear E X O Y d1 c1
 go_wp2_with fail
 refine d0.mono ?_
 rintro e w3 ⟨lu,rfl,n3,c0⟩
 obtain⟨la,ln,lk,rfl⟩:∃a n k,lu = .slice a n k:=c0.elim (fun⟨a,k,e,_⟩=>⟨a,0,k,e⟩) (fun⟨g,cap,e,_,_⟩=>⟨_,_,_,e⟩)
 have c6:=qb c0
 clear c0
 have d3:=n3.cell d2 (fun h=>h)
 have H3:=qb n3
 clear d0 n3 c2 d2
 go_upto_region 5 with fail
 have b4:=qj w3 (.cells #[.slice la ln lk] 46)
 have n4:qq w3 (w3.alloc (.cells #[.slice la ln lk] 46)):=(Upd.refl _ _).alloc _
 have z4:(w3.alloc (.cells #[.slice la ln lk] 46)).heap.size=w3.heap.size+1:=World.size_alloc _ _
 generalize w3.alloc (.cells #[.slice la ln lk] 46)=w4 at b4 n4 z4 ⊢
 generalize F:w3.heap.size=BF at b4 z4 ⊢
 have H4:=qb (And.intro b4 (And.intro n4 (And.intro z4 F)))
 have d4:=n4.cell d3 (fun h=>h)
 clear b4 n4 z4 F d3
 go_upto_region 6 with fail
 have b5:=qj w4 (.cells #[.slice none 0 0] 124)
 have n5:qq w4 (w4.alloc (.cells #[.slice none 0 0] 124)):=(Upd.refl _ _).alloc _
 have z5:(w4.alloc (.cells #[.slice none 0 0] 124)).heap.size=w4.heap.size+1:=World.size_alloc _ _
 generalize w4.alloc (.cells #[.slice none 0 0] 124)=w5 at b5 n5 z5 ⊢
 generalize H:w4.heap.size=J at b5 z5 ⊢
 have H5:=qb (And.intro b5 (And.intro n5 (And.intro z5 H)))
 have d5:w5.drew.cell? ⟨C,0,none⟩=some (.pointer (some ⟨g,0,none⟩)):=n5.cell d4 (fun h=>h)
 clear b5 n5 z5 H d4
 refine qa1 (fun w'=>w'.cell? ⟨C,0,none⟩=some (.pointer (some ⟨g,0,none⟩))) [0,2] (.of [0,1,2,3,4,5,6,7,8,9,10,11]) (by kernel_rfl) (by kernel_rfl) d5 ?_
 simp only[Plan.of]
 go_wp2_with (with_reducible first|(first|refine' zv (qh ?_) ?_|refine' zx (qh ?_) ?_|refine' zy (qh ?_) ?_);rotate_left|refine' zz (qh ?_)|refine' qw5 (qh ?_)|rfl|apply qn)
 refine(qbv 6 1 w5.drew (by decide) (by decide) (by decide)).mono ?_
 rintro e P ⟨rfl,n6⟩
 have n6:=n6.ofDrew
 have d6:P.cell? ⟨C,0,none⟩=some (.pointer (some ⟨g,0,none⟩)):=n6.cell d5 (fun h=>h)
 have H6:=qb n6
 clear n6 d5
 go_wp2_with (first | (with_reducible first|(first|refine' zv (qh ?_) ?_|refine' zx (qh ?_) ?_|refine' zy (qh ?_) ?_);rotate_left|refine' zz (qh ?_)|refine' qw5 (qh ?_)|rfl|apply qn) | refine⟨d6,?_⟩)
 have b7:=qj P (.cells #[.string (qw 6 1),.string f] 9)
 have n7:qq P (P.alloc (.cells #[.string (qw 6 1),.string f] 9)):=(Upd.refl _ _).alloc _
 have z7:(P.alloc (.cells #[.string (qw 6 1),.string f] 9)).heap.size=P.heap.size+1:=World.size_alloc _ _
 generalize P.alloc (.cells #[.string (qw 6 1),.string f] 9)=w7 at b7 n7 z7 ⊢
 generalize V:P.heap.size=B at b7 z7 ⊢
 have d7:=n7.cell d6 (fun h=>h)
 have H7:=qb (And.intro b7 (And.intro n7 (And.intro z7 V)))
 clear b7 n7 z7 V d6
 refine⟨d7,?_⟩
 go_wp2_with (with_reducible first|(first|refine' zv (qh ?_) ?_|refine' zx (qh ?_) ?_|refine' zy (qh ?_) ?_);rotate_left|refine' zz (qh ?_)|refine' qw5 (qh ?_)|rfl|apply qn)
 refine(qo1 g _ _ _ w7).mono ?_
 rintro e w8 ⟨P0,P1,rfl,n8,T,U,Z,a6,p0,p1⟩
 have d8:=n8.cell d7 (fun h=>h)
 have H8:=qb (And.intro n8 (And.intro T (And.intro U (And.intro Z (And.intro a6 (And.intro p0 p1))))))
 clear n8 T U Z a6 p0 p1 d7
 go_wp2_with (first | (with_reducible first|(first|refine' zv (qh ?_) ?_|refine' zx (qh ?_) ?_|refine' zy (qh ?_) ?_);rotate_left|refine' zz (qh ?_)|refine' qw5 (qh ?_)|rfl|apply qn) | refine⟨d8,?_⟩)
 have b9:=qj w8 (.cells #[.func (.func 106) #[] #[.pointer (some ⟨C,0,none⟩),.pointer (some ⟨M,0,none⟩),.pointer (some ⟨J,0,none⟩)],.func (.func 112) #[] #[.pointer (some ⟨P0,0,none⟩),.pointer (some ⟨P1,0,none⟩)],.func (.func 108) #[] #[.pointer (some ⟨C,0,none⟩),.pointer (some ⟨J,0,none⟩)],.func (.func 109) #[] #[.pointer (some ⟨C,0,none⟩),.pointer (some ⟨M,0,none⟩),.pointer (some ⟨BF,0,none⟩)]] 62)
 have n9:qq w8 (w8.alloc (.cells #[.func (.func 106) #[] #[.pointer (some ⟨C,0,none⟩),.pointer (some ⟨M,0,none⟩),.pointer (some ⟨J,0,none⟩)],.func (.func 112) #[] #[.pointer (some ⟨P0,0,none⟩),.pointer (some ⟨P1,0,none⟩)],.func (.func 108) #[] #[.pointer (some ⟨C,0,none⟩),.pointer (some ⟨J,0,none⟩)],.func (.func 109) #[] #[.pointer (some ⟨C,0,none⟩),.pointer (some ⟨M,0,none⟩),.pointer (some ⟨BF,0,none⟩)]] 62)):=(Upd.refl _ _).alloc _
 generalize w8.alloc (.cells #[.func (.func 106) #[] #[.pointer (some ⟨C,0,none⟩),.pointer (some ⟨M,0,none⟩),.pointer (some ⟨J,0,none⟩)],.func (.func 112) #[] #[.pointer (some ⟨P0,0,none⟩),.pointer (some ⟨P1,0,none⟩)],.func (.func 108) #[] #[.pointer (some ⟨C,0,none⟩),.pointer (some ⟨J,0,none⟩)],.func (.func 109) #[] #[.pointer (some ⟨C,0,none⟩),.pointer (some ⟨M,0,none⟩),.pointer (some ⟨BF,0,none⟩)]] 62)=W at b9 n9 ⊢
 have d9:=n9.cell d8 (fun h=>h)
 refine⟨d9,?_⟩
 obtain⟨h,hk,hF,hT,hA⟩:=qa HX
 obtain⟨hM,O,Y⟩:=qa H2
 obtain⟨b4,n4,z4,F⟩:=qa H4
 obtain⟨b5,n5,z5,H⟩:=qa H5
 obtain⟨b7,n7,z7,V⟩:=qa H7
 obtain⟨n8,T,U,Z,a6,p0,p1⟩:=qa H8
 have c8:=qa e7
 have a8:=n8.trans n9
 have e5:=n7.trans a8
 have c5:=(qa H6).trans e5
 have c4:=n5.trans c5
 have a7:=n4.trans c4
 have c3:=(qa H3).trans a7
 have e4:=O.trans c3
 have I:qq w W:=(qa N1).trans e4
 have s1:=(qa N1).size
 have s0:=qa Z0
 have f7:=qa Z1
 have s2:=O.size
 have s3:=(qa H3).size
 have s6:=(qa H6).size
 have s8:=n8.size
 have f1:=hM.lt
 have R:∀k,w.heap.size≤k→¬S k:=fun k hk e=>by have:=qa f2 k e;omega
 have f6:=hT.lt
 have b3:qlr W w8.heap.size 4 q5q (fun _=>#[]) (qoo C M J BF P0 P1):=by
  intro i hi;rcases (by omega:i=0∨i=1∨i=2∨i=3) with rfl | rfl | rfl | rfl
  ·exact qg b9 0
  ·exact qg b9 1
  ·exact qg b9 2
  ·exact qg b9 3
 have e3:∀j x,[qw 6 1,f][j]? = some x→W.cell? ⟨B,j,none⟩=some (.string x):=by
  intro j x e;rw[qg (a8.old b7 (fun h=>h)) j]
  match j,e with
  | 0,e=>cases e;rfl
  | 1,e=>cases e;rfl
 have c9:(zq [qw 6 1,f]).size≤1024:=by
  have e0:(⟨#[]⟩:ByteArray).size=0:=rfl;unfold zq zq zq;simp only[ByteArray.size_append,qat];omega
 obtain⟨N,L,q,r,v⟩:=qa e6
 have f5:=O.size
 have e1:∀a,Upd (fun k=>S k∨k=J) W a→LvO a (.slice la ln lk) l.c.xs:=fun a u=>(((qa c6).upd a7 (fun _ _ _ h=>h)).upd2 (a7.size:w3.heap.size≤W.heap.size) (qa c6) u (fun k h1 h2 e=>e.elim (R k (by omega)) (fun e=>by omega))).toO
 have K:=que g w8.heap.size C M J BF P0 P1 B S0 S l ev es sp en lo SC SJ m c' ms er [qw 6 1,f] (.slice none 0 0) (.slice la ln lk) W (h.lk.new I) (h.row.upd I (fun _ _ h=>h)) h.out h.inE h.in0 (fun k e=>Nat.lt_of_lt_of_le (h.lt k e) I.size) hk (hT.new I) hA N L q r v e1 (fun a na=>hF a (I.trans na)) d9 (hM.new c3) (c5.old b5 (fun h=>h)) (qg (c4.old b4 (fun h=>h)) 0)
  (n9.cell p0 (fun h=>h)) (n9.cell p1 (fun h=>h)) e3 (by simp) c9 b3
  ⟨R _ (by omega),R _ (by omega),R _ (by omega),R _ (by omega),R _ (by omega),R _ (by omega),R _ (by omega),R _ (by omega)⟩ ⟨by omega,by omega,by omega,by omega,by omega,by omega,by omega⟩ (by have:=a8.size;omega) (by have:=zr b9;omega) ⟨by omega,by omega⟩
 have HH:=qb h
 have NN:=qb (And.intro I (by have:=zr b5;omega:w.heap.size≤J))
 have HC:=qb K
 clear K b3 e3 c9 f6 R a8 e5 c5 c4 a7 c3 e4 I s1 s0 f7 s2 s3 s6 s8 f1 h hk hF hT hA hM O Y b4 n4 z4 F b5 n5 z5 H b7 n7 z7 V n8 T U Z a6 p0 p1 c8 b9 n9 d8 d9 H2 H3 H4 H5 H6 H7 H8 e1 N L q r v f5
 go_wp2_with (with_reducible first|(first|refine' zv (qh ?_) ?_|refine' zx (qh ?_) ?_|refine' zy (qh ?_) ?_);rotate_left|refine' zz (qh ?_)|refine' qw5 (qh ?_)|rfl|apply qn)
 refine(qa HC).mono ?_
 rintro e P ⟨u6,(⟨rfl,E⟩ | ⟨x,e2,rfl,hf⟩)⟩
 ·have HQ:=qb (And.intro u6 E);clear u6 E HC;go_wp2_with (with_reducible first|(first|refine' zv (qh ?_) ?_|refine' zx (qh ?_) ?_|refine' zy (qh ?_) ?_);rotate_left|refine' zz (qh ?_)|refine' qw5 (qh ?_)|rfl|apply qn);go_ret;obtain⟨u6,E⟩:=qa HQ;obtain⟨I,f3⟩:=qa NN;obtain⟨he,u,S1,b6,e9,f0,hl,hr,ho,hi,h1⟩:er=0∧HFin W g S0 S sp en lo J (Lk.heard {l with c:=c',j:=l.j.app (zq [qw 6 1,f]),out:=qaq ms l.out} m) (es++qdk m l.waits l.c.xs c'.xs) P:=E;have h:=qa HH;have z:=I.size;have zu:=u.size;unfold Lk.hearR qlv;rw[if_pos he,if_pos he];refine⟨by rw[he];rfl,I.mono (fun _ _ h=>h.elim) |>.then u (fun k hk e=>e.elim id (fun e=>by omega)),S1,b6,e9,f0,hl,hr,ho,?_,?_,?_⟩
  ·intro k e;have b8:=hr.lt k e;exact(hi k e).imp id (fun e=>⟨by omega,b8⟩)
  ·intro k e;have b8:=hl.lt k e;exact(h1 k e).imp (h.in0 k) (fun e=>⟨by omega,b8⟩)
  ·rintro k (e | e)
   ·have:=h.lt k e;omega
   ·exact e.2
 ·have HQ:=qb (And.intro u6 hf);have e8:=qb e2;clear u6 hf HC e2;go_wp2_with (with_reducible first|(first|refine' zv (qh ?_) ?_|refine' zx (qh ?_) ?_|refine' zy (qh ?_) ?_);rotate_left|refine' zz (qh ?_)|refine' qw5 (qh ?_)|rfl|apply qn);go_ret;obtain⟨u6,hx,u,-,b6,hl⟩:_∧x=er∧GSt W g S0 sp en lo J SJ ms {l with c:=c',ev:=ev} P:=qa HQ;obtain⟨I,f3⟩:=qa NN;have he:¬er=0:=by rw[←hx];exact qa e8
  have h:=qa HH;have z:=I.size;have zu:=u.size;have v:=h.row.lt;unfold Lk.hearR qlv;rw[if_neg he,if_neg he];refine⟨by rw[hx];rfl,I.mono (fun _ _ h=>h.elim) |>.then u (fun k hk e=>e.elim (h.in0 k) (fun e=>by omega)),_,b6,SJ,ev,hl,?_,?_,?_,?_,?_⟩
  ·exact(h.row.upd I (fun _ _ h=>h)).upd u (fun k e e'=>e'.elim (h.out k e) (fun e'=>by have:=v k e;omega))
  ·intro k e e';have:=v k e;exact e'.elim (h.out k e) (fun e'=>by omega)
  ·exact fun k e=> .inl (h.inE k e)
  ·exact fun k e=>e.imp (h.in0 k) (fun e=>⟨by omega,e.2⟩)
  ·rintro k (e | e)
   ·have:=h.lt k e;omega
   ·exact e.2
end
end Go.Proofs.YtfmkdoachjgjbaaGreatDoor
