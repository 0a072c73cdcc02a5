/-
  A link's events: failed, any many.
-/
import Derived.Test.YtfmkdoachjgjbaaGreatDoorMda
import Derived.Test.YtfmkdoachjgjbaaGreatDoorMcf
set_option linter.unusedVariables false
set_option linter.unusedSimpArgs false
namespace Go.Proofs.YtfmkdoachjgjbaaGreatDoor
open Go.RowKit
attribute [local go_sem ↓ high] qbc qbo qce qdm zq qjy qj1
attribute [local go_sem] qdi qdx qfb qj8 qbi q3q qv0 q3x qw
set_option maxRecDepth 100000 in
set_option maxHeartbeats 2000000 in
theorem qwg(T:Nat→Prop)(g:Nat)(S:Nat→Prop)(l:Lk)(sp en lo:Nat)(SC SJ:Nat→Prop)(es:List EvV)(a8:Value)(va vb:Value)(m f:List Live)(w0 w:World)(h:EvSt T w0 w g S l sp en lo SC SJ es a8)(d4:T g)
  (hv:∀W,Upd T w0 W→LvO W vb m) (b7:∀W,Upd T w0 W→LvO W va f) (hl:m.length≤100000) (f0:f.length≤100000) (c8:es.length≤200000) :
  Calls Tryz.prog 147 #[.pointer (some ⟨g,0,none⟩),vb,va] w fun e w'=>e = .returned (.tuple #[])∧∃ev,EvSt T w0 w' g S l sp en lo SC SJ (es++qim m f) ev:=by
 obtain⟨a,cap,rfl,E⟩:=(hv w h.u).shape
 have hf:=fun own id W (n:Upd T w0 W)=>qoa own id _ f W (b7 W n) (by omega)
 obtain⟨ab,e6,rfl,b6⟩:=(b7 w h.u).shape
 have J:∀W,Upd T w0 W→∀(i:Nat) (x:Live),m[i]? = some x→∃g',a=some ⟨g',0,none⟩∧qd3 W g' 0 m:=by
  intro W u i x hi;have O:=(List.getElem?_eq_some_iff.1 hi).1;rcases hv W u with ⟨a',k,e,e0⟩ | ⟨g',k,e,hh⟩
  ·rw[e0] at O;simp at O
  ·injection e with e1;exact⟨g',e1,hh.toL⟩
 have HC:=qb J
 have HF:=qb hf
 have H0:=qb h
 clear J hf E b6 hv b7 h
 have f1:(m.length:Int)≤1000000:=by omega
 go_enter Tryz.func147,Tryz.ntmps147
 go_wp2_with fail
 go_loopw [10] (fun iv wr=>∃i:Nat,iv = .int .i64 (i:Int)∧i≤m.length∧Hid (∃ev,EvSt T w0 wr g S l sp en lo SC SJ (es++qim (m.take i) f) ev)) (fun iv _=>m.length-(intOf iv).toNat)
 case atStart=>exact⟨0,rfl,Nat.zero_le _,qb ⟨a8,by rw[List.take_zero];show EvSt T w0 w g S l sp en lo SC SJ (es++[]) a8;rw[List.append_nil];exact qa H0⟩⟩
 case round =>
  obtain⟨i,rfl,hi,hrel⟩:=hrel;obtain⟨Y,rfl⟩:∃Y:World,Y=wr:=⟨_,rfl⟩;clear H0;by_cases O:i<m.length
  ·obtain⟨x,P⟩:∃x,m[i]? = some x:=⟨_,List.getElem?_eq_getElem O⟩;obtain⟨ev,U⟩:=qa hrel;have d1:=q0b f P;have c6:=q4q (m.take i) f;rw[List.length_take] at c6;have d6:(es++qim (m.take i) f).length≤300000:=by rw[List.length_append];omega
   have K:es++qim (m.take (i+1)) f=(es++qim (m.take i) f)++(if qin f x=true then [evF x] else []):=by rw[d1,List.append_assoc]
   have I:=qb K;clear d1 c6 K hrel;generalize es++qim (m.take i) f=es' at U d6 I;obtain⟨g',rfl,hh⟩:=qa HC Y U.u i x P;have E:=hh.row P;rw[Nat.zero_add] at E;have R:=qb U;have e8:(i:Int)<(m.length:Int):=by omega
   have d8:=qjo Y x;have b5:=qjg Y x;clear U;go_upto_region 3 with fail;obtain⟨hb,nb⟩:=b5;generalize (Y.alloc (.cells (qm Live.zero).toArray 69)).setCells Y.heap.size 0 (qm x)=wb at hb nb ⊢;generalize Y.heap.size=X at hb ⊢;have a6:wb.cell? ⟨X,35,none⟩=some (.bool x.own):=by rw[qg hb,List.getElem?_toArray];exact qfe x
   have a7:wb.cell? ⟨X,37,none⟩=some (.bool x.paid):=by rw[qg hb,List.getElem?_toArray];exact qnp x
   have d0:wb.cell? ⟨X,0,none⟩=some (.int .u64 x.h.id):=by rw[qg hb,List.getElem?_toArray];exact qsf x
   have d3:zg wb X 0 35=some (qk x.h).toArray:=by
    have:=qfo (qat hb 38 (by rw[List.size_toArray,qbj])) 0 35 (by omega);rw[qor] at this;exact this
   have Z:=qb d3;have z:=qb ((qa R).new nb);have q:=qa HF true x.h.id wb (qa z).u;have c9:qgr true x.h.id f = -1∧f.findIdx? (qcy true x.h.id)=none∨∃(j:Nat),qgr true x.h.id f=(j:Int)∧f.findIdx? (qcy true x.h.id)=some j:=by
    unfold qgr;cases hc:f.findIdx? (qcy true x.h.id) with
    | none=>exact .inl ⟨rfl,rfl⟩
    | some j=>exact .inr ⟨j,rfl,rfl⟩
   have H:=qb c9;have c7:qin f x=(x.own&&(!x.paid&&(f.findIdx? (qcy true x.h.id)).isNone)):=rfl;have F:=qb c7;clear hb nb E d8 HF HC hh P c9 c7 R d3;obtain⟨p,hp⟩:∃p,x.paid=p:=⟨_,rfl⟩;obtain⟨o,ho⟩:∃o,x.own=o:=⟨_,rfl⟩;rw[ho] at a6;rw[hp] at a7;have L:=qb (And.intro hp ho);clear hp ho;cases o with
   | false =>
    clear q H;go_wp2_with (with_reducible first|(first|refine' tw1 (qh ?_) ?_|refine' tw2 (qh ?_) ?_);rotate_left|refine' tw3 (qh ?_)|rfl|apply tn|refine' tw4 ?_);go_roundw
    case rel =>
     have e:qin f x=false:=by rw[qa F,(qa L).2];rfl
     refine⟨i+1,by go_num,by omega,qb ⟨ev,?_⟩⟩;rw[qa I,e];simp only[Bool.false_eq_true,if_false,List.append_nil];exact qa z
    case measure=>simp[intOf];omega
   | true =>
    cases p with
    | true =>
     clear q H;go_wp2_with (with_reducible first|(first|refine' tw1 (qh ?_) ?_|refine' tw2 (qh ?_) ?_);rotate_left|refine' tw3 (qh ?_)|rfl|apply tn|refine' tw4 ?_);go_roundw
     case rel =>
      have e:qin f x=false:=by rw[qa F,(qa L).1,(qa L).2];rfl
      refine⟨i+1,by go_num,by omega,qb ⟨ev,?_⟩⟩;rw[qa I,e];simp only[Bool.false_eq_true,if_false,List.append_nil];exact qa z
     case measure=>simp[intOf];omega
    | false =>
     rcases qa H with ⟨hj,hn⟩ | ⟨j,hj,hn⟩
     ·have b8:Hid (qin f x=true):=qb (by rw[qa F,(qa L).1,(qa L).2,hn];rfl);rw[hj] at q;clear H hj hn F L;go_wp2_with (with_reducible first|(first|refine' tw1 (qh ?_) ?_|refine' tw2 (qh ?_) ?_);rotate_left|refine' tw3 (qh ?_)|rfl|apply tn|refine' tw4 ?_);refine q.mono ?_;rintro e wc ⟨rfl,nc⟩;have R:=qb ((qa z).new nc);have rX:zg wc X 0 35=some (qk x.h).toArray:=qav (qa Z) nc (fun h=>h);clear q nc z d0 a6 a7 Z;go_upto_region 4 with fail;have hC:wc.drew.cell? ⟨g,4,none⟩=some ev∧zg wc.drew X 0 35=some (qk x.h).toArray:=⟨qg (qa R).lk.at_ 4,rX⟩;obtain⟨i9,z9,b9,d7,e4,d9,e2,e3,d5⟩:=qnf;have c8:(evW 3 (qk x.h) (qv ze)).length=68:=EvV.len (evF x) qo;have e7:=qbf x.h;refine qa2 (fun w'=>w'.cell? ⟨g,4,none⟩=some ev∧zg w' X 0 35=some (qk x.h).toArray) [4,6] (.of [0,1,2,3,4,5,6,7,8,9,10,11,12]) (by kernel_rfl) (by kernel_rfl) hC ?_;simp only[Plan.of];go_wp2_with (with_reducible first|(first|refine' zy (qh ?_) ?_|refine' zz (qh ?_) ?_|refine' qw3 (qh ?_) ?_);rotate_left|refine' qw4 (qh ?_)|refine' qw5 (qh ?_)|rfl|apply qn);have nC:qq wc (wc.alloc (.cells (evW 3 (qk x.h) (qv ze)).toArray 43)).drew:=((Upd.refl _ _).alloc _).drew;have N:(wc.alloc (.cells (evW 3 (qk x.h) (qv ze)).toArray 43)).drew.heap[wc.heap.size]? = some (.cells (evW 3 (qk x.h) (qv ze)).toArray 43 (0,0)):=qj wc _;have v:=qb ((qa R).new nC);have M:=And.intro (nC.cell hC.1 (fun h=>h)) (qav rX nC (fun h=>h));refine⟨M,?_⟩;generalize (wc.alloc (.cells (evW 3 (qk x.h) (qv ze)).toArray 43)).drew=wC at v N M nC ⊢
      generalize wc.heap.size=D at N ⊢;clear R hC;go_wp2_with (first | (at_builtin;refine wpList_append_own_at _ rfl (.tmp 33) (.tmp 37) 38 rfl 0 43 i9 _ 68 b9 Tryz.underlying38 d7 e4 d9 e2 e3 (by decide) _ _ _ rfl (qa v).row ⟨D,0,none⟩ 1 1 (evW 3 (qk x.h) (qv ze)) rfl (by rw[c8]) ?c1 ?c2 ?c3 ?c4 ?c5 ?_) | (with_reducible first|(first|refine' zy (qh ?_) ?_|refine' zz (qh ?_) ?_|refine' qw3 (qh ?_) ?_);rotate_left|refine' qw4 (qh ?_)|refine' qw5 (qh ?_)|rfl|apply qn))
      case c1=>exact World.news_of_block (cs:=(evW 3 (qk x.h) (qv ze)).toArray) (fr:=(0,0)) N
      case c2=>exact EvV.one (evF x)
      case c3=>unfold maxLen;omega
      case c4=>have:=Nat.mul_le_mul (show es'.length+1≤1000000 by omega) d5;omega
      case c5=>omega
      intro v' wD C b4 _ V;obtain⟨a',e5,d2⟩:=qaa C;have uD:Upd (fun k=>ev.ownBlock=some k) wC wD:=(Upd.refl _ _).grown b4 (fun k hk _=>hk);have b3:¬(ev.ownBlock=some g):=fun e=>(qa v).out g e (qa v).lk.inG
      have f4:wD.frozen? ⟨g,4,none⟩=false:=qu (uD.old (qa v).lk.at_ b3) 4;have c4:wD.cell? ⟨g,4,none⟩=some ev:=uD.cell M.1 b3;have c0:=qb ((qa v).push (e:=(evF x)) d4 C b4 V);rw[d2] at c0 ⊢;clear C V b4 uD N v M b3 nC d2;go_wp2_with (first | (with_reducible first|(first|refine' zy (qh ?_) ?_|refine' zz (qh ?_) ?_|refine' qw3 (qh ?_) ?_);rotate_left|refine' qw4 (qh ?_)|refine' qw5 (qh ?_)|rfl|apply qn) | refine⟨trivial,?_⟩);go_roundw
      case rel =>
       refine⟨i+1,by go_num,by omega,?_⟩;rw[qa I,if_pos (qa b8)];exact qb ⟨_,qa c0⟩
      case measure=>simp[intOf];omega
     ·rw[hj] at q;have e9:(0:Int)≤(j:Int):=by omega
      have e:Hid (qin f x=false):=qb (by rw[qa F,(qa L).1,(qa L).2,hn];rfl);clear H hj hn F L;go_wp2_with (with_reducible first|(first|refine' tw1 (qh ?_) ?_|refine' tw2 (qh ?_) ?_);rotate_left|refine' tw3 (qh ?_)|rfl|apply tn|refine' tw4 ?_);refine q.mono ?_;rintro e' wc ⟨rfl,nc⟩;have R:=qb ((qa z).new nc);clear q nc z d0 a6 a7 Z;go_wp2_with (with_reducible first|(first|refine' tw1 (qh ?_) ?_|refine' tw2 (qh ?_) ?_);rotate_left|refine' tw3 (qh ?_)|rfl|apply tn|refine' tw4 ?_);go_roundw
      case rel =>
       refine⟨i+1,by go_num,by omega,qb ⟨ev,?_⟩⟩;rw[qa I,qa e];simp only[Bool.false_eq_true,if_false,List.append_nil];exact qa R
      case measure=>simp[intOf];omega
  ·obtain rfl:i=m.length:=by omega
   obtain⟨ev,U⟩:=qa hrel;rw[List.take_length] at U;have HR:=qb U;clear U hrel;go_wp2_with fail;go_end0;exact⟨rfl,ev,qa HR⟩
end Go.Proofs.YtfmkdoachjgjbaaGreatDoor
namespace Go.Proofs.YtfmkdoachjgjbaaGreatDoor
open Go.RowKit
attribute [local go_sem ↓ high] qbc qbo qce qdm zq qjy qj1 qz zb zc
attribute [local go_sem] qdi qdx qfb qj8 qbi q3q qv0 q3x qw qaw qax qa1
def qqs(m:MsgV)(f:List Live):List EvV:=match f.findIdx? (qcy true m.id) with | some i=>(f[i]?).toList.map (fun x=>evP x m.hash) | none=>[]
def qdv(m:MsgV)(waits:Bool)(f i:List Live):List EvV :=
 if m.kind=4 then qqs m f else if m.kind=9 then (if waits=true then qfu [] i else []) else qfu f i++qim f i
def Lk.heard(l:Lk)(m:MsgV):Lk:= {l with waits:=if m.kind=9 then false else l.waits}
section
variable {T:Nat→Prop}{w w1 w':World}{g:Nat}{S:Nat→Prop}{l:Lk}{sp en lo:Nat}{SC SJ:Nat→Prop}{es:List EvV}{ev:Value}
theorem EvSt.back(h:EvSt T w1 w' g S l sp en lo SC SJ es ev)(n:qq w w1):EvSt T w w' g S l sp en lo SC SJ es ev :=
 ⟨h.lk,h.row,(n.mono (fun _ _ h=>h.elim)).trans h.u,h.out,fun k e=>(h.from_ k e).imp id (fun e=>by have:=n.size;omega)⟩
theorem EvSt.unwait(h:EvSt T w w' g S l sp en lo SC SJ es ev)(f:T g):EvSt T w (w'.setCell ⟨g,8,none⟩ (.bool false)) g S {l with waits:=false} sp en lo SC SJ es ev:=by
 have i:Upd (· = g) w' (w'.setCell ⟨g,8,none⟩ (.bool false)):=(Upd.refl _ _).set1 _ _;exact⟨h.lk.put rfl rfl rfl rfl,h.row.upd i (fun k m e=>h.out k m (e▸h.lk.inG)),h.u.trans (i.mono (fun k _ e=>by have e:k=g:=e;rw[e];exact f)),h.out,h.from_⟩
end
set_option maxRecDepth 100000 in
set_option maxHeartbeats 2000000 in
theorem q7m(T:Nat→Prop)(g:Nat)(S:Nat→Prop)(l:Lk)(sp en lo:Nat)(SC SJ:Nat→Prop)(es:List EvV)(ev:Value)(m:MsgV)(vb:Value)(bs:List Live)(w:World)(h:EvSt T w w g S l sp en lo SC SJ es ev)(H:T g)(b5:∀k,T k→k<w.heap.size)
  (hv:∀W,Upd T w W→LvO W vb bs) (hl:bs.length≤1000) (e9:l.c.xs.length≤1000) (b6:es.length≤10000) (Z:m.hash.length=32) :
  Calls Tryz.prog 110 #[.pointer (some ⟨g,0,none⟩),.agg m.cells.toArray,vb] w fun e w'=>e = .returned (.int .i64 0)∧∃U,EvSt T w w' g S (l.heard m) sp en lo SC SJ (es++qdv m l.waits bs l.c.xs) U:=by
 have c6:=fun W (n:qq w W)=>quf ((h.lk.new n).chn)
 have c1:w.cell? ⟨g,1,none⟩=some (.pointer (some ⟨en,0,none⟩)):=qg h.lk.at_ 1
 have f:=qb h
 have HV:=qb hv
 have a7:=qb b5
 have a8:=qb (show ∀k,ev.ownBlock=some k→T k from fun k e=>(h.from_ k e).elim id (fun e'=>by have:=h.row.lt k e;omega))
 clear h hv b5
 go_enter Tryz.func110,Tryz.ntmps110
 go_upto_region 1 with fail
 have hB:=qai w m Z
 have n1:qq w (w.alloc (.cells m.cells.toArray 101)):=(Upd.refl _ _).alloc _
 generalize w.alloc (.cells m.cells.toArray 101)=w1 at hB n1 ⊢
 generalize w.heap.size=B at hB ⊢
 replace c1:=n1.cell c1 (fun h=>h)
 have c7:=c6 w1 n1
 have HB:=qb hB
 have N1:=qb n1
 clear hB n1 c6
 go_wp2_with fail
 refine c7.mono ?_
 rintro e z ⟨u,rfl,n2,hu⟩
 have c0:=((qa HB).new n2).cells.1
 have d2:=((qa HB).new n2).cells.2.2.1
 have J:=qb ((qa HB).new n2)
 have N2:=qb ((qa N1).trans n2)
 have f:=qb ((qa f).new (qa N2))
 have a6:=(qa N1).size
 have HU:=qb (show ∀W,Upd T z W→LvO W u l.c.xs from fun W uW=>(hu.upd uW (fun k h1 _ e=>by have:=qa a7 k e;omega)).toO)
 have q:=qb (show ∀W,Upd T z W→LvO W vb bs from fun W uW=>qa HV W (((qa N2).mono (fun _ _ h=>h.elim)).trans uW))
 clear c7 N1 n2 c1 hu HB HV a7 a6
 by_cases F:m.kind=4
 ·have E:Hid (l.heard m=l∧qdv m l.waits bs l.c.xs=qqs m bs):=qb ⟨by unfold Lk.heard;rw[if_neg (by omega)],by unfold qdv;rw[if_pos F]⟩;rw[F] at c0;have C:=qoa true m.id vb bs z (qa q z (Upd.refl _ _)) (by omega);have d6:qgr true m.id bs = -1∧bs.findIdx? (qcy true m.id)=none∨∃(j:Nat) (y:Live),qgr true m.id bs=(j:Int)∧bs[j]? = some y∧bs.findIdx? (qcy true m.id)=some j:=by
   unfold qgr;cases hc:bs.findIdx? (qcy true m.id) with
   | none=>exact .inl ⟨rfl,rfl⟩
   | some j =>
    obtain⟨Y,-⟩:=List.findIdx?_eq_some_iff_getElem.1 hc;exact .inr ⟨j,bs[j],rfl,List.getElem?_eq_getElem Y,rfl⟩
  rcases d6 with ⟨Y,hn⟩ | ⟨j,y,Y,hy,hn⟩
  ·have HP:Hid (qqs m bs=[]):=qb (by unfold qqs;rw[hn]);rw[Y] at C;clear Y hn F;go_wp2_with fail;refine C.mono ?_;rintro e w3 ⟨rfl,n3⟩;have f:=qb ((qa f).new n3);clear C n3 c0 d2 J HU q;go_wp2_with fail;go_ret;refine⟨rfl,ev,?_⟩;rw[(qa E).1,(qa E).2,qa HP,List.append_nil];exact qa f
  ·have HP:Hid (qqs m bs=[evP y m.hash]):=qb (by unfold qqs;rw[hn];show (bs[j]?).toList.map _=_;rw[hy];rfl);rw[Y] at C;have e7:(0:Int)≤(j:Int):=by omega
   clear Y hn F;go_wp2_with fail;refine C.mono ?_;rintro e wc ⟨rfl,nc⟩;have f:=qb ((qa f).new nc);obtain⟨N,cb,rfl,b8⟩:∃N cb,vb = .slice (some ⟨N,0,none⟩) bs.length cb∧qds wc N 0 bs:=by
    rcases qa q wc (nc.mono (fun _ _ h=>h.elim)) with ⟨a',k,e,e0⟩ | ⟨N,k,e,hh⟩
    ·rw[e0] at hy;simp at hy
    ·exact⟨N,k,e,hh⟩
   have e8:=(List.getElem?_eq_some_iff.1 hy).1;have e4:(j:Int)<(bs.length:Int):=by omega
   have rX:zg wc N (j*38) 35=some (qk y.h).toArray:=by
    have hr:=b8.row hy;rw[Nat.zero_add] at hr;have:=qfo hr 0 35 (by omega);rw[qor] at this;exact this
   have rM:zg wc B 4 32=some (qv m.hash).toArray:=((qa J).new nc).cells.2.2.2.2.2.2;have e6:(qv m.hash).length=32:=by rw[qaj,Z]
   have d5:es.length≤300000:=by omega
   clear C nc c0 d2 J HU q b8 hy;generalize R:es=es' at f d5;have d0:=qb R;clear R;go_upto_region 8 with fail;have hC:wc.drew.cell? ⟨g,4,none⟩=some ev∧zg wc.drew N (j*38) 35=some (qk y.h).toArray∧zg wc.drew B 4 32=some (qv m.hash).toArray:=⟨qg (qa f).lk.at_ 4,⟨rX,rM⟩⟩;obtain⟨i9,z9,b9,d7,e2,d9,a6,e1,d4⟩:=qnf;have b6:(evW 2 (qk y.h) (qv m.hash)).length=68:=EvV.len (evP y m.hash) Z;have e5:=qbf y.h;refine qa2 (fun w'=>w'.cell? ⟨g,4,none⟩=some ev∧zg w' N (j*38) 35=some (qk y.h).toArray∧zg w' B 4 32=some (qv m.hash).toArray) [4,9,11] (.of [0,1,2,3,4,5,6,7,8,9,10,11,12,13,14,15,16,17]) (by kernel_rfl) (by kernel_rfl) hC ?_;simp only[Plan.of];go_wp2_with (with_reducible first|(first|refine' zy (qh ?_) ?_|refine' zz (qh ?_) ?_|refine' qw3 (qh ?_) ?_);rotate_left|refine' qw4 (qh ?_)|refine' qw5 (qh ?_)|rfl|apply qn);have nC:qq wc (wc.alloc (.cells (evW 2 (qk y.h) (qv m.hash)).toArray 43)).drew:=((Upd.refl _ _).alloc _).drew;have M:(wc.alloc (.cells (evW 2 (qk y.h) (qv m.hash)).toArray 43)).drew.heap[wc.heap.size]? = some (.cells (evW 2 (qk y.h) (qv m.hash)).toArray 43 (0,0)):=qj wc _;have i:=qb ((qa f).new nC);have L:=And.intro (nC.cell hC.1 (fun h=>h)) (And.intro (qav rX nC (fun h=>h)) (qav rM nC (fun h=>h)));refine⟨L,?_⟩;generalize (wc.alloc (.cells (evW 2 (qk y.h) (qv m.hash)).toArray 43)).drew=wC at i M L nC ⊢;generalize wc.heap.size=D at M ⊢;clear f hC;go_wp2_with (first | (at_builtin;refine wpList_append_own_at _ rfl (.tmp 36) (.tmp 45) 38 rfl 0 43 i9 _ 68 b9 Tryz.underlying38 d7 e2 d9 a6 e1 (by decide) _ _ _ rfl (qa i).row ⟨D,0,none⟩ 1 1 (evW 2 (qk y.h) (qv m.hash)) rfl (by rw[b6]) ?c1 ?c2 ?c3 ?c4 ?c5 ?_) | (with_reducible first|(first|refine' zy (qh ?_) ?_|refine' zz (qh ?_) ?_|refine' qw3 (qh ?_) ?_);rotate_left|refine' qw4 (qh ?_)|refine' qw5 (qh ?_)|rfl|apply qn))
   case c1=>exact World.news_of_block (cs:=(evW 2 (qk y.h) (qv m.hash)).toArray) (fr:=(0,0)) M
   case c2=>exact EvV.one (evP y m.hash)
   case c3=>unfold maxLen;omega
   case c4=>have:=Nat.mul_le_mul (show es'.length+1≤1000000 by omega) d4;omega
   case c5=>omega
   intro v' wD v X _ P;obtain⟨a',e3,c9⟩:=qaa v;have uD:Upd (fun k=>ev.ownBlock=some k) wC wD:=(Upd.refl _ _).grown X (fun k hk _=>hk);have V:¬(ev.ownBlock=some g):=fun e=>(qa i).out g e (qa i).lk.inG
   have f4:wD.frozen? ⟨g,4,none⟩=false:=qu (uD.old (qa i).lk.at_ V) 4;have c4:wD.cell? ⟨g,4,none⟩=some ev:=uD.cell L.1 V;have K:=qb ((qa i).push (e:=(evP y m.hash)) H v X P);rw[c9] at K ⊢;clear v P X uD M i L V nC c9;go_wp2_with (first | (with_reducible first|(first|refine' zy (qh ?_) ?_|refine' zz (qh ?_) ?_|refine' qw3 (qh ?_) ?_);rotate_left|refine' qw4 (qh ?_)|refine' qw5 (qh ?_)|rfl|apply qn) | refine⟨trivial,?_⟩);go_ret;refine⟨rfl,?_⟩;rw[(qa E).1,(qa E).2,qa HP,qa d0];exact⟨_,qa K⟩
 ·have b4:(m.kind==4)=false:=by simpa using F
  by_cases O:m.kind=9
  ·have E:Hid (l.heard m = {l with waits:=false} ∧ qdv m l.waits bs l.c.xs=if l.waits=true then qfu [] l.c.xs else []):=qb ⟨by unfold Lk.heard;rw[if_pos O],by unfold qdv;rw[if_neg F,if_pos O]⟩;rw[O] at c0;have c8:z.cell? ⟨g,8,none⟩=some (.bool l.waits):=qg (qa f).lk.at_ 8;have f8:=qu (qa f).lk.at_ 8;clear O F b4 J q d2;cases hw:l.waits with
   | false =>
    rw[hw] at c8;have HW:=qb hw;clear hw HU f8;go_wp2_with fail;go_ret;refine⟨rfl,ev,?_⟩;rw[(qa E).1,(qa E).2];have e:({l with waits:=false} : Lk)=l:=by rw[←qa HW]
    rw[e,qa HW];simp only[Bool.false_eq_true,if_false,List.append_nil];exact qa f
   | true =>
    rw[hw] at c8;have HW:=qb hw;have K:=qb ((show EvSt T z z g S l sp en lo SC SJ es ev from⟨(qa f).lk,(qa f).row,Upd.refl _ _,(qa f).out,fun k e=> .inl (qa a8 k e)⟩).unwait H);have I:=qth T g S {l with waits:=false} sp en lo SC SJ es ev u (.slice none 0 0) [] l.c.xs z (z.setCell ⟨g,8,none⟩ (.bool false)) (qa K) H (fun W _=> .inl ⟨none,0,rfl,rfl⟩) (qa HU) (by simp) (by show l.c.xs.length≤_;omega) (by omega);clear hw f;go_wp2_with fail;refine I.mono ?_;rintro e w3 ⟨rfl,U,h3⟩;have H3:=qb h3;clear I h3;go_wp2_with fail;go_ret;refine⟨rfl,U,?_⟩;rw[(qa E).1,(qa E).2,if_pos (qa HW)];exact(qa H3).back (qa N2)
  ·have E:Hid (l.heard m=l∧qdv m l.waits bs l.c.xs=qfu bs l.c.xs++qim bs l.c.xs):=qb ⟨by unfold Lk.heard;rw[if_neg O],by unfold qdv;rw[if_neg F,if_neg O]⟩;have b9:(m.kind==9)=false:=by simpa using O
   have b3:EvSt T z z g S l sp en lo SC SJ es ev:=by
    have h:=qa f;exact⟨h.lk,h.row,Upd.refl _ _,h.out,fun k e=> .inl (qa a8 k e)⟩
   have I:=qth T g S l sp en lo SC SJ es ev u vb bs l.c.xs z z b3 H (qa q) (qa HU) (by omega) (by omega) (by omega);clear F O b3 f;go_wp2_with fail;refine I.mono ?_;rintro e w3 ⟨rfl,d1,h3⟩;have d8:(es++qfu bs l.c.xs).length≤200000:=by
    have:=qtg bs l.c.xs;rw[List.length_append];omega
   have b7:=qwg T g S l sp en lo SC SJ (es++qfu bs l.c.xs) d1 u vb bs l.c.xs z w3 h3 H (qa q) (qa HU) (by omega) (by omega) d8;clear I h3;go_wp2_with fail;refine b7.mono ?_;rintro e w4 ⟨rfl,d3,F⟩;have H4:=qb F;clear b7 F;go_wp2_with fail;go_ret;refine⟨rfl,d3,?_⟩;rw[(qa E).1,(qa E).2,←List.append_assoc];exact(qa H4).back (qa N2)
end Go.Proofs.YtfmkdoachjgjbaaGreatDoor
namespace Go.Proofs.YtfmkdoachjgjbaaGreatDoor
open Go.RowKit
structure LkOkW(l:Lk):Prop where
 dead:l.dead=false
 fused:l.j.fused=false
 off:l.j.off=false
 many:0≤l.j.many∧l.j.many<1000000000000
 len:l.j.bs.size≤1000000000000
 out:l.out.size≤1000000000000
theorem qp7:∀(X:List MsgV) (i j:Nat) (m:MsgV),(∀m∈X,m.hash.length=32)→X[i]? = some m→j<38→(X.flatMap MsgV.cells)[i*38+j]? = m.cells[j]?
 | [],i,j,m,_,f,_=>by simp at f
 | y::X,i,j,m,h,f,v=>by
  have q:=y.len (h y (List.mem_cons_self ..));rw[List.flatMap_cons];cases i with
  | zero =>
   simp only[List.getElem?_cons_zero,Option.some.injEq] at f;subst f;rw[List.getElem?_append_left (by rw[q];omega),Nat.zero_mul,Nat.zero_add]
  | succ i =>
   rw[List.getElem?_append_right (by rw[q];omega),q,show (i+1)*38+j-38=i*38+j by omega];exact qp7 X i j m (fun m z=>h m (List.mem_cons_of_mem _ z)) (by simpa using f) v
theorem qbx.rows{base:Nat}{w:World}{v:Value}{f:List MsgV}(h:qbx base w v f)(H:∀m∈f,m.hash.length=32):(f=[]∧v = .slice none 0 0)∨∃g cap,v = .slice (some ⟨g,0,none⟩) f.length cap∧base≤g∧g<w.heap.size∧∀i m,f[i]? = some m→zg w g (i*38) 38=some m.cells.toArray:=by
 rcases h.2 with ⟨e,I⟩ | ⟨g,cap,q,e,J,F,P,_,M,O⟩
 ·exact .inl ⟨List.length_eq_zero_iff.1 I,e⟩
 ·refine .inr ⟨g,cap,e,J,zr F,fun i m z=> ?_⟩;have C:=(List.getElem?_eq_some_iff.1 z).1;have N:i*38+38≤q.size:=by
   rw[M];have:=Nat.mul_le_mul_right 38 (show i+1≤cap by omega);omega
  rw[qbt F (i*38) 38 (by omega)];congr 1;apply Array.ext';rw[Array.toList_extract];show List.extract q.toList (i*38) (i*38+38)=m.cells;have L:=m.len (H m (List.mem_of_getElem? z));apply List.ext_getElem?;intro j;rw[List.extract_eq_take_drop,List.getElem?_take];by_cases K:j<38
  ·rw[if_pos (by omega),List.getElem?_drop];have E:=qp7 f i j m H z K;rw[←O,List.getElem?_take,if_pos (by have:=Nat.mul_le_mul_right 38 (show i+1≤f.length from C);omega)] at E;exact E
  ·rw[if_neg (by omega),List.getElem?_eq_none (by omega)]
set_option maxRecDepth 100000 in
set_option maxHeartbeats 1000000 in
theorem q0y(z E g base:Nat)(S:Nat→Prop)(l:Lk)(sp en lo:Nat)(C F:Nat→Prop)(i:List MsgV)(v:Value)(w:World)(h:LkP w g S l sp en lo C F)(J:∀m∈i,SayOk m)(R:i.length≤1000)(O:l.out.size≤1099511627776)(H:w.cell? ⟨z,0,none⟩=some (.pointer (some ⟨g,0,none⟩)))(I:w.cell? ⟨E,0,none⟩=some v)(N:qbx base w v i)(U:g<base) :
  Calls Tryz.prog 108 #[.pointer (some ⟨z,0,none⟩),.pointer (some ⟨E,0,none⟩)] w fun e w'=>e = .returned (.int .i64 0)∧LkP w' g S {l with out:=qam i l.out} sp en lo C F∧Upd (· = g) w w':=by
 rcases N.rows (fun m h=>(J m h).put.ok.len) with ⟨rfl,rfl⟩ | ⟨B,cap,rfl,T,-,M⟩
 ·refine(qwr z E g none 0 w H I).mono ?_;rintro e w' ⟨rfl,q⟩;exact⟨rfl,h.new (q.upd _),q.upd _⟩
 ·have f:=q61 g B cap S l sp en lo C F i w h J R O M (by omega);clear h N M J O;go_enter Tryz.func108,Tryz.ntmps108;go_wp2_with fail;refine f.mono ?_;rintro e w1 ⟨rfl,L,P⟩;have K:=qb (And.intro L P);clear f L P;go_wp2_with fail;go_ret;exact⟨rfl,(qa K).1,(qa K).2⟩
attribute [local go_sem ↓ high] qz zb zc zf qah
attribute [local go_sem] qaw qax qa1 qw zt qcl
set_option maxRecDepth 100000 in
set_option maxHeartbeats 1000000 in
theorem q0z(T:Nat→Prop)(J M I g:Nat)(S:Nat→Prop)(l:Lk)(sp en lo:Nat)(i q:Nat→Prop)(es:List EvV)(ev:Value)(m:MsgV)(H:Value)(bs:List Live)(w:World)(h:EvSt T w w g S l sp en lo i q es ev)(z:T g)(C:∀k,T k→k<w.heap.size)(N:∀W,Upd T w W→LvO W H bs)(U:bs.length≤1000)(E:l.c.xs.length≤1000)(F:es.length≤10000)(R:w.cell? ⟨J,0,none⟩=some (.pointer (some ⟨g,0,none⟩)))(v:MsB w M m)(P:w.cell? ⟨I,0,none⟩=some H) :
  Calls Tryz.prog 109 #[.pointer (some ⟨J,0,none⟩),.pointer (some ⟨M,0,none⟩),.pointer (some ⟨I,0,none⟩)] w fun e w'=>e = .returned (.int .i64 0)∧∃f,EvSt T w w' g S (l.heard m) sp en lo i q (es++qdv m l.waits bs l.c.xs) f:=by
 have V:=v.row
 have L:=q7m T g S l sp en lo i q es ev m H bs w h z C N U E F v.len
 clear h v N
 go_enter Tryz.func109,Tryz.ntmps109
 go_wp2_with fail
 refine L.mono ?_
 rintro e w1 ⟨rfl,f,K⟩
 have O:=qb K
 clear L K
 go_wp2_with fail
 go_ret
 exact⟨rfl,f,qa O⟩
structure HFin(W:World)(g:Nat)(S0:Nat→Prop)(S:Nat→Prop)(sp en lo SD:Nat)(L:Lk)(es:List EvV)(a:World):Prop where
 upd:Upd (fun k=>S k∨k=SD) W a
 lk:∃S1 SC SJ ev,LkP a g S1 {L with ev:=ev} sp en lo SC SJ∧qid a ev es∧(∀k,ev.ownBlock=some k→¬S1 k)∧(∀k,ev.ownBlock=some k→S k∨W.heap.size≤k)∧(∀k,S1 k→S0 k∨W.heap.size≤k)
def zcp(W:World)(g:Nat)(f S:Nat→Prop)(sp en lo q:Nat)(z:Nat→Prop)(l:Lk)(ev:Value)(es:List EvV)(m:MsgV)(c':Ch)(v:List MsgV)(er:Int)(rec:ByteArray)(i:Nat)(a:World):Prop :=
 if i=0 then qq W a else er=0∧(if i=1 then GSt W g f sp en lo q z v {l with c:=c',ev:=ev} a else if i=2 then GS2 W g f sp en lo q v {l with c:=c',j:=l.j.app rec,ev:=ev} a else if i=3 then GS3 W g f sp en lo q {l with c:=c',j:=l.j.app rec,out:=qam v l.out,ev:=ev} a else HFin W g f S sp en lo q (Lk.heard {l with c:=c',j:=l.j.app rec,out:=qam v l.out} m) (es++qdv m l.waits l.c.xs c'.xs) a)
def zcq(W:World)(g:Nat)(f:Nat→Prop)(sp en lo i:Nat)(m:Nat→Prop)(l:Lk)(ev:Value)(c':Ch)(q:List MsgV)(er:Int)(x:Int)(a:World):Prop:=x=er∧GSt W g f sp en lo i m q {l with c:=c',ev:=ev} a
theorem qt3(g b R M f BF P0 P1 B:Nat)(C S:Nat→Prop)(l:Lk)(ev:Value)(es:List EvV)(sp en lo:Nat)(SC T:Nat→Prop)(m:MsgV)(c':Ch)(H:List MsgV)(er:Int)(xs:List ByteArray)(v0:Value)(vb:Value)(W:World)
  (h:LkP W g C {l with ev:=ev} sp en lo SC T) (hE:qid W ev es) (b3:∀k,ev.ownBlock=some k→¬C k) (a8:∀k,ev.ownBlock=some k→S k) (z:∀k,C k→S k) (d2:∀k,S k→k<W.heap.size) (q:LkOkW l) (hT:Tabs W) (hA:ApD S) (d6:∀m∈H,SayOk m) (d5:H.length≤1000) (b7:l.c.xs.length≤1000) (b8:c'.xs.length≤1000) (d4:es.length≤10000) (d9:∀a,Upd (fun k=>S k∨k=f) W a→LvO a vb l.c.xs)
  (hF:∀a,qq W a→Calls Tryz.prog 107 #[.pointer (some ⟨en,0,none⟩),.agg m.cells.toArray] a (qey en SC a c' H er))
  (cL:W.cell? ⟨R,0,none⟩=some (.pointer (some ⟨g,0,none⟩))) (hM:MsB W M m) (a6:W.heap[f]? = some (.cells #[v0] 124 (0,0))) (c5:W.cell? ⟨BF,0,none⟩=some vb)
  (c0:W.cell? ⟨P0,0,none⟩=some (.pointer (some ⟨g,0,none⟩))) (c1:W.cell? ⟨P1,0,none⟩=some (.slice (some ⟨B,0,none⟩) xs.length xs.length)) (hx:∀j x,xs[j]? = some x→W.cell? ⟨B,j,none⟩=some (.string x))
  (hn:xs.length≤1000) (d7:(zx xs).size≤1024) (c2:qlq W b 4 q5h (fun _=>#[]) (qog R M f BF P0 P1))
  (J:¬S R∧¬S M∧¬S P0∧¬S P1∧¬S b∧¬S B∧¬S f∧¬S BF) (F:R≠f∧M≠f∧P0≠f∧P1≠f∧b≠f∧B≠f∧BF≠f) (e4:B<W.heap.size) (e6:b<W.heap.size) (b6:f≠4∧f≠1) :
  Calls Tryz.prog 66 #[.pointer (some ⟨g,0,none⟩),.slice (some ⟨b,0,none⟩) 4 4] W fun e w'=>Upd (fun k=>S k∨k=f∨W.heap.size≤k) W w'∧qyg 4 (zcp W g C S sp en lo f T l ev es m c' H er (zx xs)) (zcq W g C sp en lo f T l ev c' H er) e w':=by
 have E:=h.lt
 have e5:=hM.lt
 have e2:=zr a6
 have d0:∀ {a:World} {k:Nat},k<W.heap.size→¬S k→¬Fr C W a k:=fun q X e=>e.elim (fun e=>X (z _ e)) (fun e=>by omega)
 have e1:∀ {a:World},Upd (fun k=>C k∨k=f) W a→Tabs a:=fun u=>hT.upd u (fun e=>e.elim (fun e=>hA.c (z _ e)) (fun e=>b6.1 e.symm)) (fun e=>e.elim (fun e=>hA.d (z _ e)) (fun e=>b6.2 e.symm))
 have Z:∀k,¬S k→¬C k:=fun k h e=>h (z k e)
 refine qwb g b 4 q5h (fun _=>#[]) (qog R M f BF P0 P1) (fun k=>S k∨k=f∨W.heap.size≤k) _ _ W (by decide) (by have:=qg h.at_ 6;rw[show W.cell? ⟨g,6,none⟩=some (.bool l.dead) from this,q.dead]) c2 ?_ ?_ ?_
 ·rintro (e | e | e)
  ·exact J.2.2.2.2.1 e
  ·exact F.2.2.2.2.1 e
  ·omega
 ·intro i hi a hC;rcases (by omega:i=0∨i=1∨i=2∨i=3) with rfl | rfl | rfl | rfl
  ·refine⟨enters_of Tryz.func106 (by kernel_rfl) rfl,?_⟩;have nA:qq W a:=hC;have V:¬SC f:=fun e=>J.2.2.2.2.2.2.1 (z _ (h.inC _ e))
   refine(q0x R M f g C {l with ev:=ev} sp en lo SC T m c' H er v0 a (h.new nA) (nA.cell cL (fun h=>h)) (hM.new nA) (nA.old a6 (fun h=>h)) V (fun W' n=>hF W' (nA.trans n))).mono ?_;rintro e N ⟨rfl,a0,a1,v,c3,u1,d3,Y,rfl⟩;have e0:=ql0 Y;have e7:=qal Y;have nB:=nA.trans c3;have h1:=(h.new nB).chan u1 d3;have z0:=nB.size;have z1:=u1.size;have d1:=u1.old (nB.old a6 (fun h=>h)) V;have b5:=zv d1 0 v;have K:Upd (· = f) a1 (a1.setCell ⟨f,0,none⟩ v):=(Upd.refl _ _).set1 _ _;generalize a1.setCell ⟨f,0,none⟩ v=a2 at b5 K ⊢;have z2:=K.size;have h2:=h1.upd K (fun k q e=>by
    rcases q with q | q
    ·exact J.2.2.2.2.2.2.1 (z _ (e▸q))
    ·omega)
   have h3:LkP a2 g (Fr C W a2) {l with c:=c',ev:=ev} sp en lo (Fr SC a0 a1) T:=h2.wider (fun k q=>q.elim .inl (fun e=> .inr ⟨by omega,by omega⟩)) (fun k q=>q.elim (fun e=>by have:=E k e;omega) (fun e=>e.2));have u:Upd (fun k=>C k∨k=f) W a2:=((nB.mono (fun _ _ h=>h.elim)).trans (u1.mono (fun k _ e=> .inl (h.inC k e)))).trans (K.mono (fun k _ e=> .inr e));have st:GSt W g C sp en lo f T H {l with c:=c',ev:=ev} a2:=by
    refine⟨u,⟨v,qg b5 0,?_⟩,_,h3⟩;have d8:=zk Y K (fun k q e=>by have:=e0 k q;omega);exact qxp d8 z0
   refine⟨((c3.mono (fun _ _ h=>h.elim)).trans (u1.mono (fun k _ e=> .inl (z _ (h.inC k e))))).trans (K.mono (fun k _ e=> .inr (.inl e))),?_⟩;by_cases U:er=0
   ·subst U;exact .inl ⟨rfl,rfl,st⟩
   ·exact .inr ⟨er,U,rfl,rfl,st⟩
  ·refine⟨enters_of Tryz.func112 (by kernel_rfl) rfl,?_⟩;obtain⟨U,u,⟨v,a7,Y⟩,I,hl⟩:er=0∧GSt W g C sp en lo f T H {l with c:=c',ev:=ev} a:=hC;have z0:=u.size;have b4:=World.block_lt_of_cell? W _ c0;refine(qxk P0 P1 B g (Fr C W a) {l with c:=c',ev:=ev} sp en lo I T xs a hl q.dead q.fused q.off ⟨q.many.1,by have:=q.many.2;show l.j.many<_;omega⟩ (by have:=q.len;show l.j.bs.size≤_;omega) (e1 u) hn d7
    (u.cell c0 (fun e=>e.elim (Z _ J.2.2.1) F.2.2.1)) (u.cell c1 (fun e=>e.elim (Z _ J.2.2.2.1) F.2.2.2.1)) (fun j x e=>u.cell (hx j x e) (fun e=>e.elim (Z _ J.2.2.2.2.2.1) F.2.2.2.2.2.1)) (by omega) (d0 b4 J.2.2.1)).mono ?_
   rintro e N ⟨rfl,⟨e3,h2⟩,K⟩;have z2:=K.size;have P:=h.inG;have u3:Upd C a N:=K.mono (fun k _ e=>e.elim (h.inJ k) (fun e=>by rw[e];exact P));refine⟨u3.mono (fun k q e=> .inl (z _ e)),.inl ⟨rfl,U,?_⟩⟩;show GS2 W g C sp en lo f H {l with c:=c',j:=l.j.app (zx xs),ev:=ev} N;refine⟨?_,⟨v,u3.cell a7 (Z _ J.2.2.2.2.2.2.1),zk Y u3 (fun k q e=>by have:=ql0 Y k q;have:=E k e;omega)⟩,?_⟩
   ·exact u.trans (u3.mono (fun k _ e=> .inl e))
   ·exact⟨_,_,h2.wider (fun k q=>q.elim (fun e=>e.elim .inl (fun e=> .inr ⟨e.1,by omega⟩)) (fun e=> .inr ⟨by omega,e.2⟩)) (fun k q=>q.elim (fun e=>by have:=E k e;omega) (fun e=>e.2))⟩
  ·refine⟨enters_of Tryz.func108 (by kernel_rfl) rfl,?_⟩;obtain⟨U,u,⟨v,a7,Y⟩,I,L,hl⟩:er=0∧GS2 W g C sp en lo f H {l with c:=c',j:=l.j.app (zx xs),ev:=ev} a:=hC;have P:=h.inG;have b9:=E g P;refine(q0y R f g W.heap.size _ _ sp en lo I L H v a hl d6 d5 (by have:=q.out;show l.out.size≤_;omega) (u.cell cL (fun e=>e.elim (Z _ J.1) F.1)) a7 Y b9).mono ?_;rintro e N ⟨rfl,h2,K⟩;have z2:=K.size;have u3:Upd C a N:=K.mono (fun k _ e=>by have e:k=g:=e;rw[e];exact P);refine⟨u3.mono (fun k q e=> .inl (z _ e)),.inl ⟨rfl,U,?_⟩⟩;show GS3 W g C sp en lo f {l with c:=c',j:=l.j.app (zx xs),out:=qam H l.out,ev:=ev} N;exact⟨u.trans (u3.mono (fun k _ e=> .inl e)),_,_,LkP.wider h2 (fun k q=>q.elim .inl (fun e=> .inr ⟨e.1,by omega⟩)) (fun k q=>q.elim (fun e=>by have:=E k e;have:=u.size;omega) (fun e=>e.2))⟩
  ·refine⟨enters_of Tryz.func109 (by kernel_rfl) rfl,?_⟩;obtain⟨U,u,I,L,hl⟩:er=0∧GS3 W g C sp en lo f {l with c:=c',j:=l.j.app (zx xs),out:=qam H l.out,ev:=ev} a:=hC;have za:=u.size;have c9:=hE.lt;have b9:=E g h.inG;have c6:∀k,ev.ownBlock=some k→k≠f:=fun k e e'=>by rw[e'] at e;exact J.2.2.2.2.2.2.1 (a8 _ e)
   have c8:qid a ev es:=hE.upd u (fun k e e'=>e'.elim (b3 k e) (c6 k e));have c7:∀k,ev.ownBlock=some k→¬Fr C W a k:=fun k e e'=>e'.elim (b3 k e) (fun e'=>by have:=c9 k e;omega)
   have O:∀k,(k=g∨ev.ownBlock=some k)→S k:=fun k e=>e.elim (fun e=>by rw[e];exact z _ h.inG) (a8 k)
   refine(q0z (fun k=>k=g∨ev.ownBlock=some k) R M BF g _ {l with c:=c',j:=l.j.app (zx xs),out:=qam H l.out} sp en lo I L es ev m vb l.c.xs a ⟨hl,c8,Upd.refl _ _,c7,fun k e=> .inl (.inr e)⟩ (.inl rfl) (fun k e=>by have:=d2 k (O k e);omega)
    (fun W' uW=>d9 W' ((u.mono (fun k _ e=>e.imp (z k) id)).trans (uW.mono (fun k _ e=> .inl (O k e))))) b7 b8 d4 (u.cell cL (fun e=>e.elim (Z _ J.1) F.1)) (hM.upd u (fun e=>e.elim (Z _ J.2.1) F.2.1)) (u.cell c5 (fun e=>e.elim (Z _ J.2.2.2.2.2.2.2) F.2.2.2.2.2.2))).mono ?_
   rintro e N ⟨rfl,c4,X⟩;have zn:=X.u.size;have uS:Upd S a N:=X.u.mono (fun k _ e=>O k e);refine⟨uS.mono (fun k _ e=> .inl e),.inl ⟨rfl,U,?_⟩⟩;show HFin W g C S sp en lo f (Lk.heard {l with c:=c',j:=l.j.app (zx xs),out:=qam H l.out} m) (es++qdv m l.waits l.c.xs c'.xs) N;exact⟨(u.mono (fun k _ e=>e.imp (z k) id)).trans (uS.mono (fun k _ e=> .inl e)),_,I,L,c4,X.lk,X.row,X.out,fun k e=>(X.from_ k e).imp (O k) (fun e=>by omega),fun k e=>e.imp id (fun e=>e.1)⟩
 ·exact Upd.refl _ _
end Go.Proofs.YtfmkdoachjgjbaaGreatDoor
namespace Go.Proofs.YtfmkdoachjgjbaaGreatDoor
open Go.RowKit
structure LvP(w:World)(g:Nat)(S S0:Nat→Prop)(l:Lk)(ev:Value)(es:List EvV)(sp en lo:Nat)(SC SJ:Nat→Prop):Prop where
 lk:LkP w g S0 {l with ev:=ev} sp en lo SC SJ
 row:qid w ev es
 out:∀k,ev.ownBlock=some k→¬S0 k
 inE:∀k,ev.ownBlock=some k→S k
 in0:∀k,S0 k→S k
 lt:∀k,S k→k<w.heap.size
def qcj(w:World)(g:Nat)(S:Nat→Prop)(l:Lk)(es:List EvV)(sp en lo:Nat):Prop:=∃f i m ev,LvP w g S f l ev es sp en lo i m
def Lk.hearR(l:Lk)(c':Ch)(i:List MsgV)(m:MsgV)(f:ByteArray)(er:Int):Lk:=if er=0 then Lk.heard {l with c:=c',j:=l.j.app (zx [qx 6 1,f]),out:=qam i l.out} m else {l with c:=c'}
def qlu(es:List EvV)(m:MsgV)(waits:Bool)(f i:List Live)(er:Int):List EvV:=if er=0 then es++qdv m waits f i else es
def LkV(w:World)(g:Nat)(S:Nat→Prop)(l:Lk)(es:List EvV):Prop:=∃sp en lo,qcj w g S l es sp en lo
attribute [local go_sem ↓ high] qz zb zc zf qah
attribute [local go_sem] qaw qax qa1 qw zt qcl
set_option maxRecDepth 100000 in
set_option maxHeartbeats 2000000 in
theorem q1c(g:Nat)(S S0:Nat→Prop)(l:Lk)(ev:Value)(es:List EvV)(sp en lo:Nat)(SC SJ:Nat→Prop)(m:MsgV)(c':Ch)(ms:List MsgV)(er:Int)(f:ByteArray)(w:World)(h:LvP w g S S0 l ev es sp en lo SC SJ)(hk:LkOkW l)(hT:Tabs w)(hA:ApD S)(O:∀m∈ms,SayOk m)(N:ms.length≤1000)(q:l.c.xs.length≤1000)(v:c'.xs.length≤1000)(C:es.length≤10000)(f5:m.hash.length=32)(g0:f.size≤1000)
  (hD:∀W,Calls Tryz.prog 105 #[.string f] W (qa5 (.tuple #[.agg m.cells.toArray,.int .i64 0]) W))
  (hF:∀a,qq w a→Calls Tryz.prog 107 #[.pointer (some ⟨en,0,none⟩),.agg m.cells.toArray] a (qey en SC a c' ms er)) :
  Calls Tryz.prog 65 #[.pointer (some ⟨g,0,none⟩),.string f] w fun e w'=>e = .returned (.int .i64 er)∧Upd S w w'∧qcj w' g (Fr S w w') (l.hearR c' ms m f er) (qlu es m l.waits l.c.xs c'.xs er) sp en lo:=by
 have f9:∀(fn:Fn) (first cap:Array Value) (w:World),(Instr.makeFunc fn first cap).run Tryz.prog w = .ok (.func fn first cap) w:=fun _ _ _ _=>rfl
 have c1:w.cell? ⟨g,1,none⟩=some (.pointer (some ⟨en,0,none⟩)):=qg h.lk.at_ 1
 have HX:=qb (And.intro h (And.intro hk (And.intro hF (And.intro hT hA))))
 have f3:=qb h.lt
 have e1:=fun W (n:qq w W)=>quf ((h.lk.new n).chn)
 have e7:=qb (And.intro O (And.intro N (And.intro q (And.intro v C))))
 clear O N q v C
 clear h hk hF hT hA
 go_enter Tryz.func65,Tryz.ntmps65
 go_upto_region 1 with fail
 have b0:=qj w (.cells #[.pointer (some ⟨g,0,none⟩)] 28)
 have n0:qq w (w.alloc (.cells #[.pointer (some ⟨g,0,none⟩)] 28)):=(Upd.refl _ _).alloc _
 have z0:(w.alloc (.cells #[.pointer (some ⟨g,0,none⟩)] 28)).heap.size=w.heap.size+1:=World.size_alloc _ _
 generalize w.alloc (.cells #[.pointer (some ⟨g,0,none⟩)] 28)=w0 at b0 n0 z0 ⊢
 generalize c8:w.heap.size=E at b0 z0 ⊢
 have e8:=qb c8
 have Z0:=qb z0
 have B0:=qb b0
 have N0:=qb n0
 clear c8 b0 n0 z0
 go_wp2_with fail
 refine(hD w0).mono ?_
 rintro e w1 ⟨rfl,n1⟩
 have N1:=qb ((qa N0).trans n1)
 have B1:=qb (n1.old (qa B0) (fun h=>h))
 have Z1:=qb n1.size
 clear n1 hD N0 B0
 obtain⟨F,Y,P⟩:=qix w1 m f5
 go_upto_region 2 with fail
 change Code.wp _ _ _ _ (qjw w1 m)
 generalize qjw w1 m=w2 at Y P ⊢
 generalize Z:w1.heap.size=M at Y F ⊢
 have c2:=P.cell ((qa N1).cell c1 (fun h=>h)) (fun h=>h)
 have d1:=e1 w2 ((qa N1).trans P)
 have d2:w2.cell? ⟨E,0,none⟩=some (.pointer (some ⟨g,0,none⟩)):=P.cell (qg (qa B1) 0) (fun h=>h)
 have H2:=qb (And.intro Y (And.intro P Z))
 clear F Y P Z e1 c1
 go_wp2_with fail
 refine d1.mono ?_
 rintro e w3 ⟨lu,rfl,n3,c3⟩
 obtain⟨la,ln,lk,rfl⟩:∃a n k,lu = .slice a n k:=c3.elim (fun⟨a,k,e,_⟩=>⟨a,0,k,e⟩) (fun⟨g,cap,e,_,_⟩=>⟨_,_,_,e⟩)
 have c7:=qb c3
 clear c3
 have d3:=n3.cell d2 (fun h=>h)
 have H3:=qb n3
 clear d1 n3 c2 d2
 go_upto_region 5 with fail
 have b4:=qj w3 (.cells #[.slice la ln lk] 46)
 have n4:qq w3 (w3.alloc (.cells #[.slice la ln lk] 46)):=(Upd.refl _ _).alloc _
 have z4:(w3.alloc (.cells #[.slice la ln lk] 46)).heap.size=w3.heap.size+1:=World.size_alloc _ _
 generalize w3.alloc (.cells #[.slice la ln lk] 46)=w4 at b4 n4 z4 ⊢
 generalize H:w3.heap.size=BF at b4 z4 ⊢
 have H4:=qb (And.intro b4 (And.intro n4 (And.intro z4 H)))
 have d4:=n4.cell d3 (fun h=>h)
 clear b4 n4 z4 H d3
 go_upto_region 6 with fail
 have b5:=qj w4 (.cells #[.slice none 0 0] 124)
 have n5:qq w4 (w4.alloc (.cells #[.slice none 0 0] 124)):=(Upd.refl _ _).alloc _
 have z5:(w4.alloc (.cells #[.slice none 0 0] 124)).heap.size=w4.heap.size+1:=World.size_alloc _ _
 generalize w4.alloc (.cells #[.slice none 0 0] 124)=w5 at b5 n5 z5 ⊢
 generalize I:w4.heap.size=K at b5 z5 ⊢
 have H5:=qb (And.intro b5 (And.intro n5 (And.intro z5 I)))
 have d5:w5.drew.cell? ⟨E,0,none⟩=some (.pointer (some ⟨g,0,none⟩)):=n5.cell d4 (fun h=>h)
 clear b5 n5 z5 I d4
 refine qa2 (fun w'=>w'.cell? ⟨E,0,none⟩=some (.pointer (some ⟨g,0,none⟩))) [0,2] (.of [0,1,2,3,4,5,6,7,8,9,10,11]) (by kernel_rfl) (by kernel_rfl) d5 ?_
 simp only[Plan.of]
 go_wp2_with (with_reducible first|(first|refine' zy (qh ?_) ?_|refine' zz (qh ?_) ?_|refine' qw3 (qh ?_) ?_);rotate_left|refine' qw4 (qh ?_)|refine' qw5 (qh ?_)|rfl|apply qn)
 refine(qcv 6 1 w5.drew (by decide) (by decide) (by decide)).mono ?_
 rintro e R ⟨rfl,n6⟩
 have n6:=n6.ofDrew
 have d6:R.cell? ⟨E,0,none⟩=some (.pointer (some ⟨g,0,none⟩)):=n6.cell d5 (fun h=>h)
 have H6:=qb n6
 clear n6 d5
 go_wp2_with (first | (with_reducible first|(first|refine' zy (qh ?_) ?_|refine' zz (qh ?_) ?_|refine' qw3 (qh ?_) ?_);rotate_left|refine' qw4 (qh ?_)|refine' qw5 (qh ?_)|rfl|apply qn) | refine⟨d6,?_⟩)
 have b7:=qj R (.cells #[.string (qx 6 1),.string f] 9)
 have n7:qq R (R.alloc (.cells #[.string (qx 6 1),.string f] 9)):=(Upd.refl _ _).alloc _
 have z7:(R.alloc (.cells #[.string (qx 6 1),.string f] 9)).heap.size=R.heap.size+1:=World.size_alloc _ _
 generalize R.alloc (.cells #[.string (qx 6 1),.string f] 9)=w7 at b7 n7 z7 ⊢
 generalize X:R.heap.size=B at b7 z7 ⊢
 have d7:=n7.cell d6 (fun h=>h)
 have H7:=qb (And.intro b7 (And.intro n7 (And.intro z7 X)))
 clear b7 n7 z7 X d6
 refine⟨d7,?_⟩
 go_wp2_with (with_reducible first|(first|refine' zy (qh ?_) ?_|refine' zz (qh ?_) ?_|refine' qw3 (qh ?_) ?_);rotate_left|refine' qw4 (qh ?_)|refine' qw5 (qh ?_)|rfl|apply qn)
 refine(qot g _ _ _ w7).mono ?_
 rintro e w8 ⟨P0,P1,rfl,n8,U,V,a6,a7,p0,p1⟩
 have d8:=n8.cell d7 (fun h=>h)
 have H8:=qb (And.intro n8 (And.intro U (And.intro V (And.intro a6 (And.intro a7 (And.intro p0 p1))))))
 clear n8 U V a6 a7 p0 p1 d7
 go_wp2_with (first | (with_reducible first|(first|refine' zy (qh ?_) ?_|refine' zz (qh ?_) ?_|refine' qw3 (qh ?_) ?_);rotate_left|refine' qw4 (qh ?_)|refine' qw5 (qh ?_)|rfl|apply qn) | refine⟨d8,?_⟩)
 have b9:=qj w8 (.cells #[.func (.func 106) #[] #[.pointer (some ⟨E,0,none⟩),.pointer (some ⟨M,0,none⟩),.pointer (some ⟨K,0,none⟩)],.func (.func 112) #[] #[.pointer (some ⟨P0,0,none⟩),.pointer (some ⟨P1,0,none⟩)],.func (.func 108) #[] #[.pointer (some ⟨E,0,none⟩),.pointer (some ⟨K,0,none⟩)],.func (.func 109) #[] #[.pointer (some ⟨E,0,none⟩),.pointer (some ⟨M,0,none⟩),.pointer (some ⟨BF,0,none⟩)]] 62)
 have n9:qq w8 (w8.alloc (.cells #[.func (.func 106) #[] #[.pointer (some ⟨E,0,none⟩),.pointer (some ⟨M,0,none⟩),.pointer (some ⟨K,0,none⟩)],.func (.func 112) #[] #[.pointer (some ⟨P0,0,none⟩),.pointer (some ⟨P1,0,none⟩)],.func (.func 108) #[] #[.pointer (some ⟨E,0,none⟩),.pointer (some ⟨K,0,none⟩)],.func (.func 109) #[] #[.pointer (some ⟨E,0,none⟩),.pointer (some ⟨M,0,none⟩),.pointer (some ⟨BF,0,none⟩)]] 62)):=(Upd.refl _ _).alloc _
 generalize w8.alloc (.cells #[.func (.func 106) #[] #[.pointer (some ⟨E,0,none⟩),.pointer (some ⟨M,0,none⟩),.pointer (some ⟨K,0,none⟩)],.func (.func 112) #[] #[.pointer (some ⟨P0,0,none⟩),.pointer (some ⟨P1,0,none⟩)],.func (.func 108) #[] #[.pointer (some ⟨E,0,none⟩),.pointer (some ⟨K,0,none⟩)],.func (.func 109) #[] #[.pointer (some ⟨E,0,none⟩),.pointer (some ⟨M,0,none⟩),.pointer (some ⟨BF,0,none⟩)]] 62)=W at b9 n9 ⊢
 have d9:=n9.cell d8 (fun h=>h)
 refine⟨d9,?_⟩
 obtain⟨h,hk,hF,hT,hA⟩:=qa HX
 obtain⟨hM,P,Z⟩:=qa H2
 obtain⟨b4,n4,z4,H⟩:=qa H4
 obtain⟨b5,n5,z5,I⟩:=qa H5
 obtain⟨b7,n7,z7,X⟩:=qa H7
 obtain⟨n8,U,V,a6,a7,p0,p1⟩:=qa H8
 have c9:=qa e8
 have b3:=n8.trans n9
 have e6:=n7.trans b3
 have c6:=(qa H6).trans e6
 have c5:=n5.trans c6
 have a8:=n4.trans c5
 have c4:=(qa H3).trans a8
 have e5:=P.trans c4
 have J:qq w W:=(qa N1).trans e5
 have s1:=(qa N1).size
 have s0:=qa Z0
 have f8:=qa Z1
 have s2:=P.size
 have s3:=(qa H3).size
 have s6:=(qa H6).size
 have s8:=n8.size
 have f2:=hM.lt
 have T:∀k,w.heap.size≤k→¬S k:=fun k hk e=>by have:=qa f3 k e;omega
 have f7:=hT.lt
 have b6:qlq W w8.heap.size 4 q5h (fun _=>#[]) (qog E M K BF P0 P1):=by
  intro i hi;rcases (by omega:i=0∨i=1∨i=2∨i=3) with rfl | rfl | rfl | rfl
  ·exact qg b9 0
  ·exact qg b9 1
  ·exact qg b9 2
  ·exact qg b9 3
 have e4:∀j x,[qx 6 1,f][j]? = some x→W.cell? ⟨B,j,none⟩=some (.string x):=by
  intro j x e;rw[qg (b3.old b7 (fun h=>h)) j]
  match j,e with
  | 0,e=>cases e;rfl
  | 1,e=>cases e;rfl
 have d0:(zx [qx 6 1,f]).size≤1024:=by
  have e0:(⟨#[]⟩:ByteArray).size=0:=rfl;unfold zx zx zx;simp only[ByteArray.size_append,qaq];omega
 obtain⟨O,N,q,v,C⟩:=qa e7
 have f6:=P.size
 have e2:∀a,Upd (fun k=>S k∨k=K) W a→LvO a (.slice la ln lk) l.c.xs:=fun a u=>(((qa c7).upd a8 (fun _ _ _ h=>h)).upd2 (a8.size:w3.heap.size≤W.heap.size) (qa c7) u (fun k h1 h2 e=>e.elim (T k (by omega)) (fun e=>by omega))).toO
 have L:=qt3 g w8.heap.size E M K BF P0 P1 B S0 S l ev es sp en lo SC SJ m c' ms er [qx 6 1,f] (.slice none 0 0) (.slice la ln lk) W (h.lk.new J) (h.row.upd J (fun _ _ h=>h)) h.out h.inE h.in0 (fun k e=>Nat.lt_of_lt_of_le (h.lt k e) J.size) hk (hT.new J) hA O N q v C e2 (fun a na=>hF a (J.trans na)) d9 (hM.new c4) (c6.old b5 (fun h=>h)) (qg (c5.old b4 (fun h=>h)) 0)
  (n9.cell p0 (fun h=>h)) (n9.cell p1 (fun h=>h)) e4 (by simp) d0 b6
  ⟨T _ (by omega),T _ (by omega),T _ (by omega),T _ (by omega),T _ (by omega),T _ (by omega),T _ (by omega),T _ (by omega)⟩ ⟨by omega,by omega,by omega,by omega,by omega,by omega,by omega⟩ (by have:=b3.size;omega) (by have:=zr b9;omega) ⟨by omega,by omega⟩
 have HH:=qb h
 have NN:=qb (And.intro J (by have:=zr b5;omega:w.heap.size≤K))
 have HC:=qb L
 clear L b6 e4 d0 f7 T b3 e6 c6 c5 a8 c4 e5 J s1 s0 f8 s2 s3 s6 s8 f2 h hk hF hT hA hM P Z b4 n4 z4 H b5 n5 z5 I b7 n7 z7 X n8 U V a6 a7 p0 p1 c9 b9 n9 d8 d9 H2 H3 H4 H5 H6 H7 H8 e2 O N q v C f6
 go_wp2_with (with_reducible first|(first|refine' zy (qh ?_) ?_|refine' zz (qh ?_) ?_|refine' qw3 (qh ?_) ?_);rotate_left|refine' qw4 (qh ?_)|refine' qw5 (qh ?_)|rfl|apply qn)
 refine(qa HC).mono ?_
 rintro e R ⟨u6,(⟨rfl,F⟩ | ⟨x,e3,rfl,hf⟩)⟩
 ·have HQ:=qb (And.intro u6 F);clear u6 F HC;go_wp2_with (with_reducible first|(first|refine' zy (qh ?_) ?_|refine' zz (qh ?_) ?_|refine' qw3 (qh ?_) ?_);rotate_left|refine' qw4 (qh ?_)|refine' qw5 (qh ?_)|rfl|apply qn);go_ret;obtain⟨u6,F⟩:=qa HQ;obtain⟨J,f4⟩:=qa NN;obtain⟨he,u,S1,b8,f0,f1,hl,hr,ho,hi,h1⟩:er=0∧HFin W g S0 S sp en lo K (Lk.heard {l with c:=c',j:=l.j.app (zx [qx 6 1,f]),out:=qam ms l.out} m) (es++qdv m l.waits l.c.xs c'.xs) R:=F;have h:=qa HH;have z:=J.size;have zu:=u.size;unfold Lk.hearR qlu;rw[if_pos he,if_pos he];refine⟨by rw[he];rfl,J.mono (fun _ _ h=>h.elim) |>.then u (fun k hk e=>e.elim id (fun e=>by omega)),S1,b8,f0,f1,hl,hr,ho,?_,?_,?_⟩
  ·intro k e;have c0:=hr.lt k e;exact(hi k e).imp id (fun e=>⟨by omega,c0⟩)
  ·intro k e;have c0:=hl.lt k e;exact(h1 k e).imp (h.in0 k) (fun e=>⟨by omega,c0⟩)
  ·rintro k (e | e)
   ·have:=h.lt k e;omega
   ·exact e.2
 ·have HQ:=qb (And.intro u6 hf);have e9:=qb e3;clear u6 hf HC e3;go_wp2_with (with_reducible first|(first|refine' zy (qh ?_) ?_|refine' zz (qh ?_) ?_|refine' qw3 (qh ?_) ?_);rotate_left|refine' qw4 (qh ?_)|refine' qw5 (qh ?_)|rfl|apply qn);go_ret;obtain⟨u6,hx,u,-,b8,hl⟩:_∧x=er∧GSt W g S0 sp en lo K SJ ms {l with c:=c',ev:=ev} R:=qa HQ;obtain⟨J,f4⟩:=qa NN;have he:¬er=0:=by rw[←hx];exact qa e9
  have h:=qa HH;have z:=J.size;have zu:=u.size;have C:=h.row.lt;unfold Lk.hearR qlu;rw[if_neg he,if_neg he];refine⟨by rw[hx];rfl,J.mono (fun _ _ h=>h.elim) |>.then u (fun k hk e=>e.elim (h.in0 k) (fun e=>by omega)),_,b8,SJ,ev,hl,?_,?_,?_,?_,?_⟩
  ·exact(h.row.upd J (fun _ _ h=>h)).upd u (fun k e e'=>e'.elim (h.out k e) (fun e'=>by have:=C k e;omega))
  ·intro k e e';have:=C k e;exact e'.elim (h.out k e) (fun e'=>by omega)
  ·exact fun k e=> .inl (h.inE k e)
  ·exact fun k e=>e.imp (h.in0 k) (fun e=>⟨by omega,e.2⟩)
  ·rintro k (e | e)
   ·have:=h.lt k e;omega
   ·exact e.2
end Go.Proofs.YtfmkdoachjgjbaaGreatDoor
