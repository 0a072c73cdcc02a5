/-
  A link hears: the steps, where nothing is live.
-/
import Derived.Test.YtfmkdoachjgjbaaGreatDoorMbj
import Derived.Test.YtfmkdoachjgjbaaGreatDoorMbi
import Derived.Test.YtfmkdoachjgjbaaGreatDoorMba
set_option maxRecDepth 100000
set_option maxHeartbeats 2000000
set_option linter.unusedVariables false
set_option linter.unusedSimpArgs false
namespace Go.Proofs.YtfmkdoachjgjbaaGreatDoor
section
open Go.RowKit
theorem q28(g:Nat)(a:Option Addr)(k:Nat)(w:World):Calls Tryz.prog 72 #[.pointer (some ⟨g,0,none⟩),.slice a 0 k] w (qay (.int .i64 0) w):=by
 go_enter Tryz.func72,Tryz.ntmps72;go_wp2_with fail
 go_loopw [13] (fun f wr=>f = .int .i64 0∧wr=w) (fun _ _=>0)
 case atStart=>exact⟨rfl,rfl⟩
 case round =>
  obtain⟨rfl,rfl⟩:=hrel;go_wp2_with fail;go_ret;exact⟨rfl,Q.refl _⟩
attribute [local go_sem ↓ high] qy qz zb zf qae
attribute [local go_sem] qas qat qax qv zx qck
theorem q1c(H M C g:Nat)(S:Nat→Prop)(l:Lk)(sp en lo:Nat)(i L:Nat→Prop)(m:MsgV)(c':Ch)(F:List MsgV)(er:Int)(v0:Value)(w:World)(h:LkP w g S l sp en lo i L)(N:w.cell? ⟨H,0,none⟩=some (.pointer (some ⟨g,0,none⟩)))(J:MsB w M m)(q:w.heap[C]? = some (.cells #[v0] 124 (0,0)))(O:¬i C)
  (I:∀a,qu w a→Calls Tryz.prog 107 #[.pointer (some ⟨en,0,none⟩),.agg m.cells.toArray] a (qe4 en i a c' F er)) :
  Calls Tryz.prog 106 #[.pointer (some ⟨H,0,none⟩),.pointer (some ⟨M,0,none⟩),.pointer (some ⟨C,0,none⟩)] w fun e w'=>e = .returned (.int .i64 er)∧∃a a1 v,qu w a∧Upd i a a1∧ChS a1 en (Fr i a a1) c'∧qb3 a.heap.size a1 v F∧w'=a1.setCell ⟨C,0,none⟩ v:=by
 have P:w.cell? ⟨g,1,none⟩=some (.pointer (some ⟨en,0,none⟩)):=qg h.at_ 1
 have T:=J.row
 have p:=I _ ((Upd.refl (fun _=>False) w).drew)
 clear h I J
 go_enter Tryz.func106,Tryz.ntmps106
 go_wp2_with ((with_reducible first|rfl|refine' ut ?_ ?_;rotate_left|refine' uu ?_)<;>intros)
 refine p.mono ?_
 rintro e w1 ⟨v,rfl,z,E,u⟩
 obtain⟨U,V,rfl⟩:∃a c,v = .slice a F.length c:=zv z
 have f:=u.old (((Upd.refl (fun _=>False) w).drew).old q (fun h=>h)) O
 have f1:=qo f 0
 have R:=qg f 0
 have K:=qb (And.intro z (And.intro E u))
 clear z E u f p q
 go_wp2_with ((with_reducible first|rfl|refine' ut ?_ ?_;rotate_left|refine' uu ?_)<;>intros)
 go_ret
 obtain⟨z,E,u⟩:=qa K
 exact⟨rfl,_,_,_,(Upd.refl (fun _=>False) w).drew,u,E,z,rfl⟩
theorem qw3(f i g:Nat)(a:Option Addr)(k:Nat)(w:World)(m:w.cell? ⟨f,0,none⟩=some (.pointer (some ⟨g,0,none⟩)))(p:w.cell? ⟨i,0,none⟩=some (.slice a 0 k)) :
  Calls Tryz.prog 108 #[.pointer (some ⟨f,0,none⟩),.pointer (some ⟨i,0,none⟩)] w (qay (.int .i64 0) w):=by
 go_enter Tryz.func108,Tryz.ntmps108
 go_wp2_with fail
 refine(q28 g a k w).mono ?_
 rintro e w1 ⟨rfl,q⟩
 go_wp2_with fail
 go_ret
 exact⟨rfl,q⟩
end
section
open Go.RowKit
attribute [local go_sem ↓ high] qba
attribute [local go_sem] qdk qv
def LvO(w:World)(v:Value)(xs:List Live):Prop:=(∃a k,v = .slice a 0 k∧xs=[])∨∃g cap,v = .slice (some ⟨g,0,none⟩) xs.length cap∧qdy w g 0 xs
theorem LvO.new{w w':World}{v:Value}{xs:List Live}(h:LvO w v xs)(n:qu w w'):LvO w' v xs:=h.imp id (fun⟨g,cap,e,f⟩=>⟨g,cap,e,f.upd n (fun h=>h)⟩)
theorem LvO.shape{w:World}{v:Value}{xs:List Live}(h:LvO w v xs):∃a cap,v = .slice a xs.length cap∧(xs=[]∨∃g,a=some ⟨g,0,none⟩∧qdy w g 0 xs):=by
 rcases h with ⟨a,k,rfl,rfl⟩ | ⟨g,cap,rfl,f⟩
 ·exact⟨a,k,rfl,.inl rfl⟩
 ·exact⟨_,cap,rfl,.inr ⟨g,rfl,f⟩⟩
def qcz(own:Bool)(id:Int)(x:Live):Bool:=x.own==own&&x.h.id==id
theorem q0w(own:Bool)(id:Int)(x:Live)(v z:Nat)(w:World)(p:w.cell? ⟨v,0,none⟩=some (.bool own))(q:w.cell? ⟨z,0,none⟩=some (.int .u64 id)) :
  Calls Tryz.prog 183 #[.agg (qk x).toArray,.pointer (some ⟨v,0,none⟩),.pointer (some ⟨z,0,none⟩)] w (qa1 (.bool (qcz own id x)) w):=by
 go_enter Tryz.func183,Tryz.ntmps183
 go_upto_region 1 with fail
 have i:(w.alloc (.cells (qk x).toArray 69)).heap[w.heap.size]? = some (.cells (qk x).toArray 69 (0,0)):=qh _ _
 have f:qu w (w.alloc (.cells (qk x).toArray 69)):=(Upd.refl _ _).alloc _
 generalize w.alloc (.cells (qk x).toArray 69)=w1 at i f ⊢
 replace p:=f.cell p (fun h=>h)
 replace q:=f.cell q (fun h=>h)
 have C:w1.cell? ⟨w.heap.size,35,none⟩=some (.bool x.own):=by rw[qg i,List.getElem?_toArray];exact qez x
 have E:w1.cell? ⟨w.heap.size,0,none⟩=some (.int .u64 x.h.id):=by rw[qg i,List.getElem?_toArray];exact qsn x
 clear i
 cases m:x.own==own with
 | false =>
  go_wp2_with ((with_reducible first|rfl|refine' ut ?_ ?_;rotate_left|refine' uu ?_)<;>intros);go_ret;exact⟨by unfold qcz;rw[m];rfl,f⟩
 | true =>
  go_wp2_with ((with_reducible first|rfl|refine' ut ?_ ?_;rotate_left|refine' uu ?_)<;>intros);go_ret;exact⟨by unfold qcz;rw[m];rfl,f⟩
def qgy(own:Bool)(id:Int)(xs:List Live):Int:=match xs.findIdx? (qcz own id) with | some i=>i | none=> -1
theorem qw9(own:Bool)(id:Int)(M N:Nat)(v:Value)(xs:List Live)(w:World)(hv:LvO w v xs)(hl:xs.length≤1000000)(X:w.cell? ⟨M,0,none⟩=some (.bool own))(Y:w.cell? ⟨N,0,none⟩=some (.int .u64 id)) :
  Calls Tryz.prog 128 #[v,.func (.func 183) #[] #[.pointer (some ⟨M,0,none⟩),.pointer (some ⟨N,0,none⟩)]] w (qa1 (.int .i64 (qgy own id xs)) w):=by
 obtain⟨a,cap,rfl,f⟩:=hv.shape
 have m:∀(i:Nat) (x:Live),xs[i]? = some x→∃C,a=some ⟨C,0,none⟩∧qd4 w C 0 xs:=by
  intro i x T;have p:=(List.getElem?_eq_some_iff.1 T).1;rcases f with W | ⟨C,e,H⟩
  ·rw[W] at p;simp at p
  ·exact⟨C,e,H.toL⟩
 clear f
 have a6:(xs.length:Int)≤1000000:=by omega
 go_enter Tryz.func128,Tryz.ntmps128
 go_wp2_with fail
 go_loopw [5,8] (fun _ L wr=>∃i:Nat,L = .int .i64 (i:Int)∧i≤xs.length∧(∀j x,j<i→xs[j]? = some x→qcz own id x=false)∧qu w wr) (fun _ L _=>xs.length-(intOf L).toNat)
 case atStart=>exact⟨0,rfl,Nat.zero_le _,fun j x h=>by omega,Upd.refl _ _⟩
 case round =>
  obtain⟨i,rfl,T,R,z⟩:=hrel;obtain⟨O,rfl⟩:∃O:World,O=wr:=⟨_,rfl⟩;have I:=qb R;clear R;by_cases p:i<xs.length
  ·obtain⟨x,q⟩:∃x,xs[i]? = some x:=⟨_,List.getElem?_eq_getElem p⟩;obtain⟨C,rfl,H⟩:=m i x q;have f:=(H.upd z (fun h=>h)).row q;rw[Nat.zero_add] at f;have Z:(i:Int)<(xs.length:Int):=by omega
   have S:=q0w own id x M N O (z.cell X (fun h=>h)) (z.cell Y (fun h=>h));have P:=qb q;clear H m q;go_wp2_with fail;refine S.mono ?_;rintro e w2 ⟨rfl,U⟩;have V:=z.trans U;clear S f z U;cases E:qcz own id x with
   | true =>
    go_wp2_with fail;go_ret;have J:xs.findIdx? (qcz own id)=some i:=by
     rw[List.findIdx?_eq_some_iff_getElem];refine⟨p,?_,fun j F=> ?_⟩
     ·have:=qa P;rw[List.getElem?_eq_getElem p] at this;rw[Option.some.inj this,E]
     ·have:=qa I j _ F (List.getElem?_eq_getElem (by omega));rw[this];decide
    exact⟨by unfold qgy;rw[J];rfl,V⟩
   | false =>
    go_wp2_with fail;go_roundw
    case rel =>
     refine⟨i+1,by go_num,by omega,fun j y F K=> ?_,V⟩;by_cases e:j<i
     ·exact qa I j y e K
     ·obtain rfl:j=i:=by omega
      rw[qa P] at K;rw[←Option.some.inj K];exact E
    case measure=>simp[intOf];omega
  ·obtain rfl:i=xs.length:=by omega
   clear m;go_wp2_with fail;go_ret;have J:xs.findIdx? (qcz own id)=none:=by
    rw[List.findIdx?_eq_none_iff];intro x hx;obtain⟨j,F,rfl⟩:=List.mem_iff_getElem.1 hx;exact qa I j _ F (List.getElem?_eq_getElem F)
   exact⟨by unfold qgy;rw[J];rfl,z⟩
theorem qob(own:Bool)(id:Int)(v:Value)(xs:List Live)(w:World)(C:LvO w v xs)(z:xs.length≤1000000) :
  Calls Tryz.prog 145 #[v,.bool own,.int .u64 id] w (qa1 (.int .i64 (qgy own id xs)) w):=by
 have I:∀(q:Fn) (first cap:Array Value) (w:World),(Instr.makeFunc q first cap).run Tryz.prog w = .ok (.func q first cap) w:=fun _ _ _ _=>rfl
 go_enter Tryz.func145,Tryz.ntmps145
 go_upto_region 1 with fail
 have m:qu w ((w.alloc (.cells #[.bool own] 4)).alloc (.cells #[.int .u64 id] 22)):=((Upd.refl _ _).alloc _).alloc _
 have f:((w.alloc (.cells #[.bool own] 4)).alloc (.cells #[.int .u64 id] 22)).heap[w.heap.size]? = some (.cells #[.bool own] 4 (0,0)):=qq (qh _ _) _
 have i:((w.alloc (.cells #[.bool own] 4)).alloc (.cells #[.int .u64 id] 22)).heap[w.heap.size+1]? = some (.cells #[.int .u64 id] 22 (0,0)):=by
  have:=qh (w.alloc (.cells #[.bool own] 4)) (.cells #[.int .u64 id] 22);rwa [World.size_alloc] at this
 generalize (w.alloc (.cells #[.bool own] 4)).alloc (.cells #[.int .u64 id] 22)=J at m f i ⊢
 have E:=qw9 own id w.heap.size (w.heap.size+1) v xs J (C.new m) z (qg f 0) (qg i 0)
 have p:=qb m
 clear f i m C z
 go_wp2_with fail
 refine E.mono ?_
 rintro e K ⟨rfl,F⟩
 have H:=qb ((qa p).trans F)
 clear E F p
 go_wp2_with fail
 go_ret
 exact⟨rfl,qa H⟩
end
section
open Go.RowKit
attribute [local go_sem ↓ high] qba qbn qcf
attribute [local go_sem] qdk qd2 qfi qv
def qgh(f:List Live)(x:Live):Bool:= !x.own&&(x.state==4&&(match f.findIdx? (qcz false x.h.id) with | some i=>(f.getD i x).state != 4 | none=>true))
def qiv(f:List Live)(x:Live):Bool:=x.own&&(!x.paid&&(f.findIdx? (qcz true x.h.id)).isNone)
end
section
open Go.RowKit
attribute [local go_sem ↓ high] qy qz zb
attribute [local go_sem] qas qat qax qv
theorem q7n(g B cap:Nat)(S:Nat→Prop)(l:Lk)(sp en lo:Nat)(Z SJ:Nat→Prop)(f:List MsgV)(w:World)(h:LkP w g S l sp en lo Z SJ)(U:∀m∈f,SayOk m)(hn:f.length≤1000)(hz:l.out.size≤1099511627776)
  (hr:∀i m,f[i]? = some m→zj w B (i*38) 38=some m.cells.toArray) (hB:B≠g) :
  Calls Tryz.prog 72 #[.pointer (some ⟨g,0,none⟩),.slice (some ⟨B,0,none⟩) f.length cap] w fun e w'=>e = .returned (.int .i64 0)∧LkP w' g S {l with out:=zz f l.out} sp en lo Z SJ∧Upd (· = g) w w':=by
 have b7:(f.length:Int)≤1000:=by omega
 have b5:=h.lt g h.inG
 have H:=qb h
 have HR:=qb hr
 have HM:=qb U
 clear h hr U
 go_enter Tryz.func72,Tryz.ntmps72
 go_wp2_with fail
 go_loopw [13] (fun iv wr=>∃i:Nat,iv = .int .i64 (i:Int)∧i≤f.length∧Hid (LkP wr g S {l with out:=zz (f.take i) l.out} sp en lo Z SJ)∧Upd (· = g) w wr) (fun iv _=>f.length-(intOf iv).toNat)
 case atStart=>exact⟨0,rfl,Nat.zero_le _,H,Upd.refl _ _⟩
 case round =>
  obtain⟨i,rfl,hi,hC,u⟩:=hrel;obtain⟨E,rfl⟩:∃E:World,E=wr:=⟨_,rfl⟩;by_cases J:i<f.length
  ·have b6:(i:Int)<(f.length:Int):=by omega
   have R:f[i]? = some f[i]:=List.getElem?_eq_getElem J;generalize f[i]=m at R;have p:=qa HM m (List.mem_of_getElem? R);have rB:=qbc (qa HR i m R) u hB;have a7:=p.put.ok.len;have T:=qb u;have HX:=qb R;have W:=qb p;clear u R p;obtain⟨N,v,V⟩:=qi3 E m a7;go_upto_region 4 with fail;change Code.wp _ _ _ _ (qjz E m);generalize qjz E m=w1 at v V ⊢;generalize E.heap.size=K at v N ⊢;have rK:=v.row;obtain⟨t,a8,b3,P,C⟩:=qmf m (qa W) w1;have q:=fun w'=>qu7 t w' a8 b3
   have hP:=(qa hC).new V;have U1:=qb ((qa T).trans (V.mono (fun _ _ h=>h.elim)));have L:=qhg ⟨#[]⟩ (f.take i) (fun m U=>qa HM m (List.mem_of_mem_take U)) l.out;have M:(zz (f.take i) l.out).size≤1099512653776:=by
    rw[List.length_take] at L;omega
   have a6:(qcw t).size≤1026:=by rw[qd5];omega
   generalize hO:zz (f.take i) l.out=O at hP M;have HO:=qb hO;have X:=qb hP;have F:=qb P;generalize qcw t=ft at q a6 F;clear N v V hC T hP L hO P;go_wp2_with fail;refine C.mono ?_;rintro e w2 ⟨rfl,n2⟩;have X:=qb ((qa X).new n2);have U2:=qb ((qa U1).trans (n2.mono (fun _ _ h=>h.elim)));clear C rK n2;go_wp2_with fail;refine(q w2).mono ?_;rintro e w3 ⟨rfl,n3⟩;have z:=(qa X).new n3;have U3:=qb ((qa U2).trans (n3.mono (fun _ _ h=>h.elim)));have c3:w3.cell? ⟨g,3,none⟩=some (.string O):=qg z.at_ 3;have f3:=qo z.at_ 3;have I:=z.put_out (O++ft);have u4:Upd (· = g) w3 (w3.setCell ⟨g,3,none⟩ (.string (O++ft))):=(Upd.refl _ _).set1 _ _;have Y:=qb I;have U4:=qb ((qa U3).trans u4);have b4:O.size+ft.size≤9223372036854775807:=by omega
   clear q n3 z I u4;go_wp2_with fail;go_roundw
   case rel =>
    refine⟨i+1,by go_num,J,?_,qa U4⟩;have e1:=qq4 (qa HX) l.out;rw[qa HO,qa F] at e1;rw[e1];exact Y
   case measure=>simp[intOf];omega
  ·obtain rfl:i=f.length:=by omega
   have T:=qb u;clear u;go_wp2_with fail;go_ret;refine⟨rfl,?_,qa T⟩;have:=qa hC;rw[List.take_length] at this;exact this
end
section
open Go.RowKit
attribute [local go_sem ↓ high] qy qz zb zf qae
attribute [local go_sem] qas qat qax qv zx qck
end
section
open Go.RowKit
theorem qxt(E O F g:Nat)(S:Nat→Prop)(l:Lk)(sp en lo:Nat)(SC K:Nat→Prop)(xs:List ByteArray)(w:World)(h:LkP w g S l sp en lo SC K)(hd:l.dead=false)(hf:l.j.fused=false)(ho:l.j.off=false)
  (hm:0≤l.j.many∧l.j.many<1099511627776) (z:l.j.bs.size≤1099511627776) (hT:Tabs w) (hn:xs.length≤1000) (U:(zk xs).size≤1024)
  (c0:w.cell? ⟨E,0,none⟩=some (.pointer (some ⟨g,0,none⟩))) (c1:w.cell? ⟨O,0,none⟩=some (.slice (some ⟨F,0,none⟩) xs.length xs.length)) (hx:∀j x,xs[j]? = some x→w.cell? ⟨F,j,none⟩=some (.string x)) (T:F<w.heap.size) (hP:¬S E) :
  Calls Tryz.prog 112 #[.pointer (some ⟨E,0,none⟩),.pointer (some ⟨O,0,none⟩)] w fun e w'=>e = .returned (.int .i64 0)∧(∃a6,LkP w' g (Fr S w w') {l with j:=l.j.app (zk xs)} sp en lo SC a6)∧Upd (fun k=>K k∨k=g) w w':=by
 have c2:w.cell? ⟨g,2,none⟩=some (.pointer (some ⟨lo,0,none⟩)):=qg h.at_ 2
 have i:=fun w' (q:qu w w')=>quk F xs w' (fun j x e=>q.cell (hx j x e) (fun h=>h)) (Nat.lt_of_lt_of_le T q.size) hn (by omega)
 have v:=fun b w' (q:qu w w') hb hS=>qmj lo b K l.j (zk xs) w' (h.jou.new q) hf ho U hm z (hT.new q) hb hS
 have L:(w.cell? ⟨E,0,none⟩=some (.pointer (some ⟨g,0,none⟩)))∧(w.cell? ⟨g,2,none⟩=some (.pointer (some ⟨lo,0,none⟩)))∧w.cell? ⟨O,0,none⟩=some (.slice (some ⟨F,0,none⟩) xs.length xs.length):=⟨c0,c2,c1⟩
 have HC:=qb L
 have H:=qb h
 have m:∀w',qu w w'→(w'.cell? ⟨E,0,none⟩=some (.pointer (some ⟨g,0,none⟩)))∧(w'.cell? ⟨g,2,none⟩=some (.pointer (some ⟨lo,0,none⟩)))∧w'.cell? ⟨O,0,none⟩=some (.slice (some ⟨F,0,none⟩) xs.length xs.length):=fun w' q=>⟨q.cell L.1 (fun h=>h),q.cell L.2.1 (fun h=>h),q.cell L.2.2 (fun h=>h)⟩
 have Y:=qb h.jou.lt
 generalize hJ:zk xs=J at *
 clear h c0 c1 c2 hx hn U T hm z hT hJ
 go_enter Tryz.func112,Tryz.ntmps112
 go_upto_region 1 with fail
 refine qaw (fun w'=>(w'.cell? ⟨E,0,none⟩=some (.pointer (some ⟨g,0,none⟩)))∧(w'.cell? ⟨g,2,none⟩=some (.pointer (some ⟨lo,0,none⟩)))∧w'.cell? ⟨O,0,none⟩=some (.slice (some ⟨F,0,none⟩) xs.length xs.length)) [0,3,4] (.of [0,1,2,3,4,5,6,7,8]) (by kernel_rfl) (by kernel_rfl) L ?_
 simp only[Plan.of]
 have k0:=m _ ((Upd.refl (fun _=>False) w).drew)
 clear L
 go_wp2_with ((with_reducible first|rfl|refine' ut ?_ ?_;rotate_left|refine' uu ?_)<;>intros)
 refine(i _ ((Upd.refl (fun _=>False) w).drew)).mono ?_
 rintro e w1 ⟨rfl,M⟩
 have M:=M.ofDrew
 have k1:=m _ M
 clear i k0
 go_wp2_with (first | ((with_reducible first|rfl|refine' ut ?_ ?_;rotate_left|refine' uu ?_)<;>intros) | refine⟨k1,?_⟩)
 have C:qu w (w1.alloc (.cells #[.string J] 9)):=M.alloc _
 have V:qu w1 (w1.alloc (.cells #[.string J] 9)):=(Upd.refl _ _).alloc _
 have b2:=qg (qh w1 (.cells #[.string J] 9)) 0
 have k2:=m _ C
 have a8:=M.size
 generalize w1.alloc (.cells #[.string J] 9)=w2 at C V b2 k2 ⊢
 refine⟨k2,?_⟩
 generalize hB:w1.heap.size=B at b2 ⊢
 have f:=v B w2 C b2 (fun e=>by have:=(qa Y) B e;omega)
 have N2:=qb C
 clear v M C V k1 b2 hB a8
 go_wp2_with (first | ((with_reducible first|rfl|refine' ut ?_ ?_;rotate_left|refine' uu ?_)<;>intros) | refine⟨k2,?_⟩)
 refine f.mono ?_
 rintro e X ⟨rfl,P,I⟩
 have N:=(qa N2)
 have p:=((qa H).new N).jour I P
 have d0:X.cell? ⟨E,0,none⟩=some (.pointer (some ⟨g,0,none⟩)):=I.cell k2.1 (fun e=>hP ((qa H).inJ _ e))
 have d6:=qo p.at_ 6
 have b3:X.cell? ⟨g,6,none⟩=some (.bool false):=hd▸qg p.at_ 6
 have R:=p.put_dead false
 have W:Upd (· = g) X (X.setCell ⟨g,6,none⟩ (.bool false)):=(Upd.refl _ _).set1 _ _
 have Z:=qb R
 have U3:=qb I
 have U4:=qb W
 have K2:=qb k2
 clear f P N p R I W k2 m
 go_wp2_with (first | ((with_reducible first|rfl|refine' ut ?_ ?_;rotate_left|refine' uu ?_)<;>intros) | ((with_reducible first|rfl|refine' ut ?_ ?_;rotate_left|refine' uu ?_)<;>intros) | refine⟨trivial,?_⟩)
 go_ret
 have C:=qa N2
 have I:=qa U3
 have W:=qa U4
 have z2:=C.size
 have z3:=I.size
 have z4:=W.size
 have h:=qa H
 have a7:=h.lt
 have e:({l with j:=l.j.app J} : Lk)=⟨l.c,l.j.app J,l.rest,l.out,l.ev,l.ticks,false,l.broken,l.waits⟩:=by rw[←hd]
 refine⟨rfl,⟨Fr K w2 X,?_⟩,?_⟩
 ·rw[e];refine(qa Z).wider ?_ ?_
  ·rintro k (m | m)
   ·exact .inl m
   ·exact .inr ⟨by omega,by omega⟩
  ·rintro k (m | m)
   ·have:=a7 k m;omega
   ·exact m.2
 ·exact((C.mono (fun _ _ h=>h.elim)).trans (I.mono (fun k _ e=>(Or.inl e:K k∨k=g)))).trans (W.mono (fun k _ e=>(Or.inr e:K k∨k=g)))
def q54(i:Nat):Nat:=if i=0 then 106 else if i=1 then 112 else if i=2 then 108 else 109
def qoj(f M m p q v:Nat)(i:Nat):Array Value :=
 if i=0 then #[.pointer (some ⟨f,0,none⟩),.pointer (some ⟨M,0,none⟩),.pointer (some ⟨m,0,none⟩)] else if i=1 then #[.pointer (some ⟨q,0,none⟩),.pointer (some ⟨v,0,none⟩)] else if i=2 then #[.pointer (some ⟨f,0,none⟩),.pointer (some ⟨m,0,none⟩)] else #[.pointer (some ⟨f,0,none⟩),.pointer (some ⟨M,0,none⟩),.pointer (some ⟨p,0,none⟩)]
attribute [local go_sem ↓ high] qy qz zb zf qae
attribute [local go_sem] qas qat qax qv zx qck
end
section
open Go.RowKit
attribute [local go_sem ↓ high] qy qz zb zf qae
attribute [local go_sem] qas qat qax qv zx qck
theorem qxy{w:World}{base f:Nat}{e:TypeId}{size:Nat}{v:Value}{n:Nat}{xs:List Value}(h:w.ownsRow base e size v n xs)(q:f≤base):w.ownsRow f e size v n xs:=by
 refine⟨h.1,?_⟩;rcases h.2 with h | ⟨g,cap,i,m,p,r⟩
 ·exact .inl h
 ·exact .inr ⟨g,cap,i,m,Nat.le_trans q p,r⟩
structure GSt(W:World)(g:Nat)(S:Nat→Prop)(sp en lo SD:Nat)(SJ:Nat→Prop)(ms:List MsgV)(L:Lk)(a:World):Prop where
 upd:Upd (fun k=>S k∨k=SD) W a
 said:∃v,a.cell? ⟨SD,0,none⟩=some v∧qb3 W.heap.size a v ms
 lk:∃SC,LkP a g (Fr S W a) L sp en lo SC SJ
structure GS2(W:World)(g:Nat)(S:Nat→Prop)(sp en lo SD:Nat)(ms:List MsgV)(L:Lk)(a:World):Prop where
 upd:Upd (fun k=>S k∨k=SD) W a
 said:∃v,a.cell? ⟨SD,0,none⟩=some v∧qb3 W.heap.size a v ms
 lk:∃SC SJ,LkP a g (Fr S W a) L sp en lo SC SJ
structure GS3(W:World)(g:Nat)(S:Nat→Prop)(sp en lo SD:Nat)(L:Lk)(a:World):Prop where
 upd:Upd (fun k=>S k∨k=SD) W a
 lk:∃SC SJ,LkP a g (Fr S W a) L sp en lo SC SJ
end
section
open Go.RowKit
def LvB(w:World)(base:Nat)(v:Value)(xs:List Live):Prop:=(∃a k,v = .slice a 0 k∧xs=[])∨∃g cap,v = .slice (some ⟨g,0,none⟩) xs.length cap∧base≤g∧qdy w g 0 xs
theorem LvB.toO{w:World}{base:Nat}{v:Value}{xs:List Live}(h:LvB w base v xs):LvO w v xs:=h.imp id (fun⟨g,cap,e,_,f⟩=>⟨g,cap,e,f⟩)
theorem LvB.upd{T:Nat→Prop}{w w':World}{base:Nat}{v:Value}{xs:List Live}(h:LvB w base v xs)(u:Upd T w w')(m:∀k,base≤k→k<w.heap.size→¬T k):LvB w' base v xs :=
 h.imp id (fun⟨g,cap,e,f,i⟩=>⟨g,cap,e,f,i.upd u (m g f i.toL.lt)⟩)
theorem LvB.upd2{T:Nat→Prop}{w0 w w':World}{base:Nat}{v:Value}{xs:List Live}(h:LvB w base v xs)(_:w0.heap.size≤w.heap.size)(i:LvB w0 base v xs)(u:Upd T w w')(C:∀k,base≤k→k<w0.heap.size→¬T k):LvB w' base v xs:=by
 rcases h with h | ⟨g,cap,e,q,H⟩
 ·exact .inl h
 ·rcases i with i | ⟨f,p,z,E,m⟩
  ·exact .inl i
  ·have F:f=g:=by
    rw[z] at e;injection e with e1;injection e1 with e1;injection e1
   subst F;exact .inr ⟨f,cap,e,q,H.upd u (C f q m.toL.lt)⟩
theorem qur{en:Nat}{f:Nat→Prop}{c:Ch}{w:World}(h:ChS w en f c):Calls Tryz.prog 20 #[.pointer (some ⟨en,0,none⟩)] w fun e w'=>∃u,e = .returned u∧qu w w'∧LvB w' w.heap.size u c.xs:=by
 refine(q1u en f c w h).mono ?_;rintro e w' ⟨u,rfl,n,(⟨a,k,rfl,q⟩ | ⟨i,cap,rfl,m,p⟩)⟩
 ·exact⟨_,rfl,n,.inl ⟨a,k,rfl,q⟩⟩
 ·exact⟨_,rfl,n,.inr ⟨i,cap,rfl,m,p⟩⟩
attribute [local go_sem ↓ high] qy qz zb zf qae
attribute [local go_sem] qas qat qax qv zx qck
end
section
open Go.RowKit
theorem quq(g:Nat)(S:Nat→Prop)(l:Lk)(w:World)(a:Option Addr)(n k:Nat)(h:LkS w g S l)(hd:l.dead=false)(q:l.ev = .slice a n k) :
  Calls Tryz.prog 16 #[.pointer (some ⟨g,0,none⟩)] w fun e w'=>e = .returned (.slice a n k)∧LkS w' g S {l with ev:=qbw} ∧ Upd (· = g) w w':=by
 obtain⟨sp,en,lo,i,m,h⟩:=h
 have z:w.cell? ⟨g,6,none⟩=some (.bool false):=hd▸qg h.at_ 6
 have v:w.cell? ⟨g,4,none⟩=some (.slice a n k):=q▸qg h.at_ 4
 have C:=qo h.at_ 4
 have u:Upd (· = g) w (w.setCell ⟨g,4,none⟩ (.slice none 0 0)):=(Upd.refl _ _).set1 _ _
 have p:LkP (w.setCell ⟨g,4,none⟩ (.slice none 0 0)) g S {l with ev:=qbw} sp en lo i m:=h.put rfl rfl rfl rfl
 have f:=qb (And.intro p u)
 clear h u p hd q
 go_enter Tryz.func16,Tryz.ntmps16
 go_wp2_with fail
 go_ret
 exact⟨rfl,⟨sp,en,lo,i,m,(qa f).1⟩,(qa f).2⟩
theorem qvc(g:Nat)(w:World)(f:w.cell? ⟨g,8,none⟩=some (.bool true)):Calls Tryz.prog 87 #[.pointer (some ⟨g,0,none⟩)] w fun e w'=>e = .returned (.int .i64 5)∧w=w':=by
 go_enter Tryz.func87,Tryz.ntmps87;go_wp2_with fail;go_ret;exact⟨rfl,rfl⟩
attribute [local go_sem ↓ high] qy qz zb zf
attribute [local go_sem] qas qat qax zx qtk qv
def qgi(id r:Int):MsgV:=⟨5,0,id,0,ze,0,r⟩
def Ch.fail(c:Ch)(id r:Int):Ch × MsgV × Int:=match qdc false id c.xs with
 | none=>(c,MsgV.zero,3)
 | some p=>if r<0∨65535<r then (c,MsgV.zero,1) else ((c.removed p.1 p.2 false).say (qgi id r),(qgi id r).on c.s.ch,0)
theorem q0u{c:Ch}{id r:Int}(h:qdc false id c.xs=none):c.fail id r=(c,MsgV.zero,3):=by unfold Ch.fail;rw[h]
theorem q5e{c:Ch}{id r:Int}{p:Nat × Live}(h:qdc false id c.xs=some p)(f:r<0∨65535<r):c.fail id r=(c,MsgV.zero,1):=by unfold Ch.fail;rw[h];simp only;rw[if_pos f]
theorem qqb{c:Ch}{id r:Int}{i:Nat}{x:Live}(h:qdc false id c.xs=some (i,x))(f:¬(r<0∨65535<r)):c.fail id r=((c.removed i x false).say (qgi id r),(qgi id r).on c.s.ch,0):=by unfold Ch.fail;rw[h];simp only;rw[if_neg f]
theorem q5d(g:Nat)(S:Nat→Prop)(c:Ch)(id r:Int)(w:World)(h:ChS w g S c)(Z:c.news.length<1000000) :
  Calls Tryz.prog 53 #[.pointer (some ⟨g,0,none⟩),.int .u64 id,.int .i64 r] w fun e w' =>
   e = .returned (.tuple #[.agg (c.fail id r).2.1.cells.toArray,.int .i64 (c.fail id r).2.2])∧ChS w' g (Fr S w w') (c.fail id r).1∧Upd S w w':=by
 obtain⟨lv,nv,av,h⟩:=h
 go_enter Tryz.func53,Tryz.ntmps53
 go_upto_region 1 with fail
 have U:=qan w MsgV.zero ql
 have n1:qu w (w.alloc (.cells MsgV.zero.cells.toArray 101)):=(Upd.refl _ _).alloc _
 generalize w.alloc (.cells MsgV.zero.cells.toArray 101)=w1 at U n1 ⊢
 obtain⟨B,V⟩:∃B,B=w.heap.size:=⟨_,rfl⟩
 rw[←V] at U ⊢
 have b4:w.heap.size≤B:=by omega
 have b5:g≠B:=by have:=h.lt g h.inG;omega
 have p:¬S B:=fun e=>by have:=h.lt B e;omega
 clear V
 have h1:=h.new n1
 have Y:=qkk g S c false id w1 ⟨lv,nv,av,h1⟩
 have bad:∀(W:World),qu w1 W →
   stOk W B 0 38 MsgV.zero.cells.toArray=true∧MsB (W.setCells B 0 MsgV.zero.cells) B MsgV.zero∧ChS (W.setCells B 0 MsgV.zero.cells) g (Fr S w (W.setCells B 0 MsgV.zero.cells)) c∧Upd S w (W.setCells B 0 MsgV.zero.cells):=by
  intro W nW
  have Y:=U.new nW
  have u:=qx (w:=W) (b:=B) MsgV.zero.cells
  exact⟨Y.stOk ql,Y.put ql,ChS.frW (w1:=w) ⟨lv,nv,av,((h1.new nW).upd u (fun k I e=>by rw[e] at I;exact p I))⟩,((n1.trans nW).mono (T:=S) (fun _ _ h=>h.elim)).then u (fun i z e=>by omega)⟩
 have q:=qb bad
 have HB:=qb U
 have HI:=qb h.inL
 have H1:=qb h1
 have b3:=qb h.lt
 have N1:=qb n1
 clear h h1 U n1 bad
 go_wp2_with fail
 refine Y.mono ?_
 rintro e w2 ⟨rfl,K⟩
 clear Y
 cases E:qdc false id c.xs with
 | none =>
  have z:=qhr E;obtain⟨J,f,v,X⟩:=qa q w2 K;have M:=qb (q0u (r:=r) E);have N:=qb f;have L:=qb v;have O:=qb X;rw[z];clear f v X K E z;go_wp2_with ((with_reducible first|rfl|refine' ut ?_ ?_;rotate_left|refine' uu ?_)<;>intros);have f:=qa N;refine bodyPost_ret (qw rfl _ _ B _ _ _ _ rfl f.at_ Tryz.underlying101 rfl (by rw[f.agg];exact Tryz.infoMsg)) rfl ?_;rw[qa M];exact⟨rfl,qa L,qa O⟩
 | some pr =>
  obtain⟨i,x⟩:=pr;obtain⟨z,H,-⟩:=qhs E;have h2:=(qa H1).new K;rw[z];by_cases P:r<0∨65535<r
  ·obtain⟨J,f,v,X⟩:=qa q w2 K;have M:=qb (q5e E P);have N:=qb f;have L:=qb v;have O:=qb X;clear f v X K E z H h2;rcases P with P | P
   ·go_wp2_with ((with_reducible first|rfl|refine' ut ?_ ?_;rotate_left|refine' uu ?_)<;>intros);have f:=qa N;refine bodyPost_ret (qw rfl _ _ B _ _ _ _ rfl f.at_ Tryz.underlying101 rfl (by rw[f.agg];exact Tryz.infoMsg)) rfl ?_;rw[qa M];exact⟨rfl,qa L,qa O⟩
   ·have a7:¬r<0:=by omega
    go_wp2_with ((with_reducible first|rfl|refine' ut ?_ ?_;rotate_left|refine' uu ?_)<;>intros);have f:=qa N;refine bodyPost_ret (qw rfl _ _ B _ _ _ _ rfl f.at_ Tryz.underlying101 rfl (by rw[f.agg];exact Tryz.infoMsg)) rfl ?_;rw[qa M];exact⟨rfl,qa L,qa O⟩
  ·have a6:=qh5 g S c lv nv av i x false w2 h2 H;have M:=qb (qqb E P);have a7:¬r<0:=by omega
   have b6:¬65535<r:=by omega
   have N2:=qb K;clear K E z H h2 P;go_wp2_with fail;refine a6.mono ?_;rintro e w3 ⟨rfl,h3,u3⟩;have C:=fun W (hW:ChS W g S (c.removed i x false))=>qnp g S (c.removed i x false) (qgi id r) ql W hW Z
   have m:=C w3 ⟨lv,nv,av,h3⟩;have U3:=qb ((((qa N1).trans (qa N2)).mono (T:=S) (fun _ _ h=>h.elim)).trans (u3.mono (T:=S) (fun k _ e=>qa HI k e)));have R:=qb (((qa HB).new (qa N2)).upd u3 (fun e=>p (qa HI B e)));clear a6 h3 u3 C;unfold qgi at m;go_wp2_with ((with_reducible first|rfl|refine' ut ?_ ?_;rotate_left|refine' uu ?_)<;>intros);refine m.mono ?_;rintro e w4 ⟨rfl,h4,u4⟩;have hl:((qgi id r).on (c.removed i x false).s.ch).hash.length=32:=ql;have F:=(qa R).upd u4 p;have J:=F.stOk hl;have f:=F.put hl;have u5:=qx (w:=w4) (b:=B) ((qgi id r).on (c.removed i x false).s.ch).cells;have N:=qb f;have a8:=(qa U3).size;have v:=h4.upd u5 (fun k I e=>by
    rcases I with I | I
    ·exact p (e▸I)
    ·have:=(qa R).lt;omega)
   have L:=qb ((v.grow u5.size).later a8);have O:=qb (((qa U3).trans u4).then u5 (fun i z e=>by omega));change stOk w4 B 0 38 ((⟨5,0,id,0,ze,0,r⟩:MsgV).on (c.removed i x false).s.ch).cells.toArray=true at J;clear m h4 u4 F f u5 v hl;go_wp2_with ((with_reducible first|rfl|refine' ut ?_ ?_;rotate_left|refine' uu ?_)<;>intros);have f:=qa N;refine bodyPost_ret (qw rfl _ _ B _ _ _ _ rfl f.at_ Tryz.underlying101 rfl (by rw[f.agg];exact Tryz.infoMsg)) rfl ?_;rw[qa M];exact⟨rfl,qa L,qa O⟩
end
section
open Go.RowKit
attribute [local go_sem ↓ high] zl qaa qad qam qtz
attribute [local go_sem] qbf qci qcj qdh qv
def ofI(p:List Int):List Int:=qek (strOfNums p)
def qfc(p h:List Int):Bool:=ofI p==h
theorem qx5(p:List Int)(I:p.length=32)(w:World)(R:Tabs w) :
  Calls Tryz.prog 130 #[.agg (qs p).toArray] w (qa1 (.agg (qs (ofI p)).toArray) w):=by
 have H:(ofI p).length=32:=qb5 _
 go_enter Tryz.func130,Tryz.ntmps130
 go_upto_region 1 with fail
 have E:=(qb4 w p I).new ((Upd.refl _ _).alloc (.cells (qs ze).toArray 35))
 have z:=qb4 (w.alloc (.cells (qs p).toArray 35)) ze ql
 rw[World.size_alloc] at z
 have F:qu w ((w.alloc (.cells (qs p).toArray 35)).alloc (.cells (qs ze).toArray 35)):=((Upd.refl _ _).alloc _).alloc _
 generalize (w.alloc (.cells (qs p).toArray 35)).alloc (.cells (qs ze).toArray 35)=w1 at E z F ⊢
 obtain⟨A,v⟩:∃A,A=w.heap.size:=⟨_,rfl⟩
 obtain⟨B,C⟩:∃B,B=w.heap.size+1:=⟨_,rfl⟩
 rw[←C] at z ⊢
 rw[←v] at E ⊢
 have O:w.heap.size≤B:=by omega
 clear v C
 have q:(convert 95 9 (.slice (some ⟨A,0,none⟩) 32 32)).run Tryz.prog w1 = .ok (.string (strOfNums p)) w1 :=
  qc5 w1 _ _ _ Tryz.underlying95 Tryz.underlying5 Tryz.underlying9 A 32 _ _ _ 32 I E.at_
 have f:Calls Tryz.prog 164 #[.string (strOfNums p)] w1 (fun e w'=>e = .returned (.agg (qs (ofI p)).toArray)∧qu w1 w'):=qgn (strOfNums p) w1 (by rw[strOfNums_size,I];omega) (R.new F)
 have L:=qb z
 clear E z
 generalize ofI p=K at *
 go_wp2_with fail
 refine f.mono ?_
 rintro e T ⟨rfl,J⟩
 have m:=(qa L).new J
 have S:=m.stOk K H
 have M:=qb (m.put K H)
 have N:=qb ((F.trans J).then (qx (w:=T) (b:=B) (qs K)) (fun i U e=>by omega))
 clear m F J f q
 go_wp2_with fail
 have P:=qa M
 exact bodyPost_ret (results_cell_row rfl _ _ B _ _ _ _ rfl P.at_ Tryz.underlying35 rfl (by rw[List.size_toArray,qaj,H];exact Tryz.infoHsh)) rfl ⟨rfl,qa N⟩
theorem qqx(p h:List Int)(J:p.length=32)(H:h.length=32)(T:qbg h)(w:World)(R:Tabs w) :
  Calls Tryz.prog 99 #[.agg (qs p).toArray,.agg (qs h).toArray] w (qa1 (.bool (qfc p h)) w):=by
 have V:(ofI p).length=32:=qb5 _
 have E:qbg (ofI p):=qf9 _
 go_enter Tryz.func99,Tryz.ntmps99
 go_upto_region 1 with fail
 have z:=(qb4 w p J).new ((Upd.refl _ _).alloc (.cells (qs h).toArray 35))
 have i:=qb4 (w.alloc (.cells (qs p).toArray 35)) h H
 rw[World.size_alloc] at i
 have C:qu w ((w.alloc (.cells (qs p).toArray 35)).alloc (.cells (qs h).toArray 35)):=((Upd.refl _ _).alloc _).alloc _
 generalize (w.alloc (.cells (qs p).toArray 35)).alloc (.cells (qs h).toArray 35)=w1 at z i C ⊢
 obtain⟨A,m⟩:∃A,A=w.heap.size:=⟨_,rfl⟩
 obtain⟨B,q⟩:∃B,B=w.heap.size+1:=⟨_,rfl⟩
 rw[←q] at i ⊢
 rw[←m] at z ⊢
 clear m q
 have U:=fun W=>zb1 V H E T W
 have v:=fun W (S:Tabs W)=>qx5 p J W S
 have I:qfc p h=(ofI p==h):=rfl
 have P:=qb I
 clear I
 generalize ofI p=K at *
 have X:zj w1.drew A 0 32=some (qs p).toArray:=z.row
 have M:zj w1.drew B 0 32=some (qs h).toArray:=i.row
 have N:=qb i
 refine qaw (fun w'=>zj w' B 0 32=some (qs h).toArray) [2] (.of [0,1,2,3,4]) (by kernel_rfl) (by kernel_rfl) M ?_
 simp only[Plan.of]
 clear z i
 go_wp2_with ((with_reducible first|rfl|refine' ut ?_ ?_;rotate_left|refine' uu ?_)<;>intros)
 refine(v w1.drew (R.new (C.drew))).mono ?_
 rintro e Y ⟨rfl,L⟩
 have f:qu w1 Y:=L.ofDrew
 have F:=((qa N).new f).row
 have O:=qb (C.trans f)
 clear v X M L f C
 go_wp2_with ((with_reducible first|rfl|refine' ut ?_ ?_;rotate_left|refine' uu ?_)<;>intros)
 refine⟨F,?_⟩
 go_wp2_with ((with_reducible first|rfl|refine' ut ?_ ?_;rotate_left|refine' uu ?_)<;>intros)
 go_ret
 exact⟨by rw[qa P];rfl,qa O⟩
end
section
open Go.RowKit
theorem qjq{w:World}{b o n:Nat}{A:Array Value}(h:zj w b o n=some A)(i k:Nat)(m:i+k≤n):zj w b (o+i) k=some (A.extract i (i+k)):=by
 unfold zj at h ⊢;cases f:w.heap[b]? with
 | none=>rw[f] at h;cases h
 | some ob =>
  rw[f] at h;cases ob with
  | cells C T p =>
   simp only at h ⊢;split at h
   ·injection h with h;subst h;rw[if_pos (by omega),Array.extract_extract];congr 2;omega
   ·cases h
  | _=>simp at h
theorem q1v(x:Live):(qk x).toArray.extract 2 (2+32)=(qs x.h.hash.toList).toArray:=by
 apply Array.ext';rw[Array.toList_extract];unfold qk qm qs;simp
theorem ChP.hash{w:World}{g:Nat}{S:Nat→Prop}{c:Ch}{v H z:Value}(h:ChP w g S c v H z){i:Nat}{x:Live}(q:c.xs[i]? = some x):∃p cap,v = .slice (some ⟨p,0,none⟩) c.xs.length cap∧zj w p (i*38+2) 32=some (qs x.h.hash.toList).toArray:=by
 have m:=(List.getElem?_eq_some_iff.1 q).1;rcases (qcx h.live).2 with ⟨e,C⟩ | ⟨E,f,e,-,F⟩
 ·rw[C] at m;simp at m
 ·refine⟨E,f,e,?_⟩;have:=qjq (F.row q) 2 32 (by omega);rw[q1v,Nat.zero_add] at this;exact this
def Ch.hearFulfill(c:Ch)(m:MsgV):Ch × Int:=match qdc true m.id c.xs with
 | none=>(c,3)
 | some p=>if qfc m.hash p.2.h.hash.toList=true then (c.removed p.1 p.2 true,0) else (c,132)
theorem qse{c:Ch}{m:MsgV}(h:qdc true m.id c.xs=none):c.hearFulfill m=(c,3):=by unfold Ch.hearFulfill;rw[h]
theorem qsf{c:Ch}{m:MsgV}{i:Nat}{x:Live}(h:qdc true m.id c.xs=some (i,x)):c.hearFulfill m=if qfc m.hash x.h.hash.toList=true then (c.removed i x true,0) else (c,132):=by unfold Ch.hearFulfill;rw[h]
attribute [local go_sem ↓ high] qy qz zb zf zl qaa qad
attribute [local go_sem] qas qat qax zx qbf qci qcj qv
theorem qm2(g:Nat)(S:Nat→Prop)(c:Ch)(m:MsgV)(hm:MsgOk m)(w:World)(h:ChS w g S c)(hT:Tb w) :
  Calls Tryz.prog 177 #[.pointer (some ⟨g,0,none⟩),.agg m.cells.toArray] w fun e w' =>
   e = .returned (.tuple #[qbw,.int .i64 (c.hearFulfill m).2])∧ChS w' g (Fr S w w') (c.hearFulfill m).1∧Upd S w w':=by
 obtain⟨Y,nv,av,h⟩:=h
 go_enter Tryz.func177,Tryz.ntmps177
 go_upto_region 1 with fail
 have N:=qan w m hm.len
 have U:qu w (w.alloc (.cells m.cells.toArray 101)):=(Upd.refl _ _).alloc _
 generalize w.alloc (.cells m.cells.toArray 101)=w1 at U N ⊢
 generalize w.heap.size=A at N ⊢
 have h1:=h.new U
 obtain⟨-,-,m2,-,-,-,-⟩:=N.cells
 have hb:=qkk g S c true m.id w1 ⟨Y,nv,av,h1⟩
 have HA:=qb N
 have P:=hT.new U
 clear N hT
 go_wp2_with fail
 refine hb.mono ?_
 rintro e w2 ⟨rfl,V⟩
 have H:=h1.new V
 have E:=(qa HA).new V
 have C:=U.trans V
 have F:=P.new V
 clear hb m2 h1 V U P HA
 cases J:qdc true m.id c.xs with
 | none =>
  have R:=qhr J;have K:=qb (qse J);have H2:=qb (H.fr w);have HU:=qb (C.mono (T:=S) (fun _ _ h=>h.elim));rw[R];clear h H C J R E F;go_wp2_with fail;go_ret2;rw[qa K];exact⟨rfl,qa H2,qa HU⟩
 | some p =>
  obtain⟨i,x⟩:=p;obtain⟨R,q,-⟩:=qhs J;have I:=qsf J;have b8:=(List.getElem?_eq_some_iff.1 q).1;have b5:=h.ok.few;obtain⟨gl,cap,b3,rh⟩:=H.hash q;have M:w2.cell? ⟨g,47,none⟩=some Y:=H.toR.live;rw[b3] at M;obtain⟨-,-,-,-,-,-,Z⟩:=E.cells;have b4:=(h.ok.xs x (List.mem_of_getElem? q)).h.hash;have f:=fun W (nW:qu w2 W)=>qqx m.hash x.h.hash.toList hm.len (by simp) b4 W (F.new nW).tabs
  have v:=fun W (hW:ChP W g S c Y nv av)=>qh5 g S c Y nv av i x true W hW q
  have HI:=qb h.inL;have HU:=qb (C.mono (T:=S) (fun _ _ h=>h.elim));have H2:=qb H;have b7:(i:Int)<(c.xs.length:Int):=by omega
  have K:=qb I;have b6:(c.xs.length:Int)≤1000000:=by omega
  rw[R];clear h H C J R E F q I;generalize hO:qfc m.hash x.h.hash.toList=O at f K;have RA:=qb Z;have RH:=qb rh;have a6:=qb f;have a7:=qb v;clear Z rh f v hO;go_upto_region 4 with ((with_reducible first|rfl|refine' ut ?_ ?_;rotate_left|refine' uu ?_)<;>intros);have Z:=qa RA;have rh:=qa RH;clear RA RH;go_wp2_with ((with_reducible first|rfl|refine' ut ?_ ?_;rotate_left|refine' uu ?_)<;>intros);have f:=qa a6;have v:=qa a7;refine(f _ ((Upd.refl _ _).drew)).mono ?_;rintro e w3 ⟨rfl,n3⟩;have h3:=((qa H2).new ((Upd.refl (fun _=>False) w2).drew)).new n3;have X:qu w2 w3:=n3.ofDrew;have z:=v w3 h3;have H3:=qb (h3.fr w);have L:=qb ((qa HU).trans (X.mono (T:=S) (fun _ _ h=>h.elim)));clear f v M Z rh h3 n3 X;cases O with
  | false =>
   clear z;go_wp2_with ((with_reducible first|rfl|refine' ut ?_ ?_;rotate_left|refine' uu ?_)<;>intros);go_ret2;have I:c.hearFulfill m=(c,132):=by rw[qa K];simp
   rw[I];exact⟨rfl,qa H3,qa L⟩
  | true =>
   go_wp2_with ((with_reducible first|rfl|refine' ut ?_ ?_;rotate_left|refine' uu ?_)<;>intros);refine z.mono ?_;rintro e w4 ⟨rfl,h4,u4⟩;have H4:=qb (h4.fr w);have a8:=qb ((qa L).trans (u4.mono (T:=S) (fun k _ e=>qa HI k e)));clear z h4 u4;go_wp2_with ((with_reducible first|rfl|refine' ut ?_ ?_;rotate_left|refine' uu ?_)<;>intros);go_ret2;have I:c.hearFulfill m=(c.removed i x true,0):=by rw[qa K];simp
   rw[I];exact⟨rfl,qa H4,qa a8⟩
theorem qsj(g:Nat)(S:Nat→Prop)(c:Ch)(m:MsgV)(p:MsgOk m)(w:World)(h:ChS w g S c)(i:qaf m=true)(f:m.ch=c.s.ch)(F:m.kind=4)(z:Tb w) :
  Calls Tryz.prog 107 #[.pointer (some ⟨g,0,none⟩),.agg m.cells.toArray] w (qe4 g S w (c.hearFulfill m).1 [] (c.hearFulfill m).2) :=
 qh0 _ g S c _ _ _ m p w h i f (enters_of Tryz.func177 (by kernel_rfl) rfl) (fun v=>by rw[F];exact zcf v) (fun W q=>(qm2 g S c m p W (h.new q) (z.new q)).mono (by
  rintro e w' ⟨E,C,H⟩;exact⟨_,E,qb3.nil _ _,C,H⟩))
end
section
open Go.RowKit
structure Ch.Inv(c:Ch):Prop where
 shelf:qv1 c
 peer:c.s.peer.size≤100000000
 ch:0≤c.s.ch∧c.s.ch<4294967296
 heard:c.k.heard<4294967295
 few:c.xs.length≤16
noncomputable def Ch.hear(c:Ch)(m:MsgV):Ch × List MsgV × Int :=
 if qaf m=false∨m.ch≠c.s.ch then (c,[],1)
 else if m.kind=3 then ((c.hearAdd m).1,[],(c.hearAdd m).2)
 else if m.kind=4 then ((c.hearFulfill m).1,[],(c.hearFulfill m).2)
 else if m.kind=5 then ((c.hearFail m).1,[],(c.hearFail m).2)
 else if m.kind=6 then c.hearSign m
 else if m.kind=7 then ((c.hearRevoke m).1,[],(c.hearRevoke m).2)
 else (c.hearShut.1,[],c.hearShut.2)
theorem q56(g:Nat)(S:Nat→Prop)(c:Ch)(m:MsgV)(q:MsgOk m)(w:World)(h:ChS w g S c)(v:c.Inv)(C:Tb w)(E:Apart S)(f:m.kind=3∨m.kind=4∨m.kind=5∨m.kind=6∨m.kind=7∨m.kind=8) :
  Calls Tryz.prog 107 #[.pointer (some ⟨g,0,none⟩),.agg m.cells.toArray] w (qe4 g S w (c.hear m).1 (c.hear m).2.1 (c.hear m).2.2):=by
 by_cases z:qaf m=false∨m.ch≠c.s.ch
 ·have e:c.hear m=(c,[],1):=by unfold Ch.hear;rw[if_pos z]
  rw[e];refine(qud g S c m q w h z).mono ?_;rintro e w' ⟨H,F⟩;exact⟨_,H,qb3.nil _ _,(h.new F).frW,F.mono (fun _ _ h=>h.elim)⟩
 ·have p:qaf m=true:=by
   cases I:qaf m with
   | true=>rfl
   | false=>exact absurd (.inl I) z
  have i:m.ch=c.s.ch:=Decidable.of_not_not (fun e=>z (.inr e));have e:c.hear m=if m.kind=3 then ((c.hearAdd m).1,[],(c.hearAdd m).2) else if m.kind=4 then ((c.hearFulfill m).1,[],(c.hearFulfill m).2) else if m.kind=5 then ((c.hearFail m).1,[],(c.hearFail m).2) else if m.kind=6 then c.hearSign m else if m.kind=7 then ((c.hearRevoke m).1,[],(c.hearRevoke m).2) else (c.hearShut.1,[],c.hearShut.2):=by unfold Ch.hear;rw[if_neg z]
  rcases f with f | f | f | f | f | f
  ·rw[e,if_pos f];exact q55 g S c m q w h p i f (by have:=v.few;omega)
  ·rw[e,if_neg (by omega),if_pos f];exact qsj g S c m q w h p i f C
  ·rw[e,if_neg (by omega),if_neg (by omega),if_pos f];exact q1f g S c m q w h p i f
  ·rw[e,if_neg (by omega),if_neg (by omega),if_neg (by omega),if_pos f];exact q1h g S c m q w h p i f C E v.peer v.ch v.heard v.few
  ·rw[e,if_neg (by omega),if_neg (by omega),if_neg (by omega),if_neg (by omega),if_pos f];exact que g S c m q w h p i f v.shelf C E
  ·rw[e,if_neg (by omega),if_neg (by omega),if_neg (by omega),if_neg (by omega),if_neg (by omega)];exact q1g g S c m q w h p i f
def qex(c:Ch)(x:Live):Ch :=
 if x.state=0 then (if x.own=true then {c.give true x.h.amount with k:= {c.k with nextOwn:=IntKind.u64.wrap (c.k.nextOwn-1)}} else {c.give false x.h.amount with k:= {c.k with nextTheirs:=IntKind.u64.wrap (c.k.nextTheirs-1)}}) else c
def qdr(x:Live):Live:=if x.state=5 then {x with state:=4,paid:=false} else x
def qgx(xs:List Live):List Live:=(xs.filter fun x=> !(x.state==0)).map qdr
def qdj(xs:List Live):List Htlc:=(xs.filter fun x=>x.state==0&&x.own).map (·.h)
def qds(xs:List Live):List Int:=(xs.filter fun x=>x.state==5 && !x.own).map (·.h.id)
def Ch.unsaid(c:Ch)(xs:List Live):Ch:= {c with xs:=xs,news:=[],k:= {c.k with shutHeard:=false}}
def Ch.cut(c:Ch):Ch:=(c.xs.foldl qex c).unsaid (qgx c.xs)
theorem q0i{xs:List Live}{i:Nat}{x:Live}(f:xs[i]? = some x):qgx (xs.take (i+1))=qgx (xs.take i)++(if x.state=0 then [] else [qdr x]):=by
 unfold qgx;rw[List.take_add_one,f,List.filter_append,List.map_append];by_cases h:x.state=0<;>simp[h]
theorem q0h{xs:List Live}{i:Nat}{x:Live}(c:Ch)(f:xs[i]? = some x):(xs.take (i+1)).foldl qex c=qex ((xs.take i).foldl qex c) x:=by
 rw[List.take_add_one,f,List.foldl_append];rfl
theorem q0j{xs:List Live}{i:Nat}{x:Live}(f:xs[i]? = some x):qdj (xs.take (i+1))=qdj (xs.take i)++(if x.state=0∧x.own=true then [x.h] else []):=by
 unfold qdj;rw[List.take_add_one,f,List.filter_append,List.map_append];by_cases h:x.state=0<;>cases m:x.own<;>simp[h,m]
theorem q0k{xs:List Live}{i:Nat}{x:Live}(f:xs[i]? = some x):qds (xs.take (i+1))=qds (xs.take i)++(if x.state=5∧x.own=false then [x.h.id] else []):=by
 unfold qds;rw[List.take_add_one,f,List.filter_append,List.map_append];by_cases h:x.state=5<;>cases m:x.own<;>simp[h,m]
theorem qtt(xs:List Live):(qgx xs).length≤xs.length:=by
 unfold qgx;rw[List.length_map];exact List.length_filter_le _ _
theorem q4u(xs:List Live):(qdj xs).length≤xs.length:=by
 unfold qdj;rw[List.length_map];exact List.length_filter_le _ _
theorem q4v(xs:List Live):(qds xs).length≤xs.length:=by
 unfold qds;rw[List.length_map];exact List.length_filter_le _ _
theorem qwm{x:Live}(h:LiveOk x):LiveOk (qdr x):=by
 unfold qdr;split
 ·exact⟨h.h,by show _≤(4:Int)∧(4:Int)≤_;decide⟩
 ·exact h
section
variable {w:World}{g:Nat}{S:Nat→Prop}{c:Ch}{lv nv av:Value}
end
theorem q6b:∃i z b,Tryz.prog.info? 41=some i∧i.zero=some z∧i.size=35∧i.bytes=b∧z.cells.size=35∧b≤1000:=by
 obtain⟨i,z,m,C,q⟩:=qcn Tryz.zeroHtlc';have f:(Tryz.prog.info? 41).map (fun i=>decide (i.bytes≤1000))=some true:=by kernel_rfl
 have p:=Tryz.infoHtl;rw[m,Option.map_some,Option.some.injEq] at f p;exact⟨i,z,i.bytes,m,C,p,rfl,by rw[q];rfl,of_decide_eq_true f⟩
theorem Tryz.zeroU64:((Tryz.prog.info? 22).map fun i=>i.zero.map fun z=>z.cells.toList)=some (some [.int .u64 0]):=by kernel_rfl
theorem Tryz.infoU64c:(Tryz.prog.info? 22).map (·.size)=some 1:=by kernel_rfl
theorem q3p:∃i z b,Tryz.prog.info? 22=some i∧i.zero=some z∧i.size=1∧i.bytes=b∧z.cells.size=1∧b≤1000:=by
 obtain⟨i,z,m,C,q⟩:=qcn Tryz.zeroU64;have f:(Tryz.prog.info? 22).map (fun i=>decide (i.bytes≤1000))=some true:=by kernel_rfl
 have p:=Tryz.infoU64c;rw[m,Option.map_some,Option.some.injEq] at f p;exact⟨i,z,i.bytes,m,C,p,rfl,by rw[q];rfl,of_decide_eq_true f⟩
def zaw(n:Nat)(p:Array (Nat × Value)):Sem Value:=Instr.buildSlice 139 n p
theorem qtn(n:Nat)(p:Array (Nat × Value)):Instr.buildSlice 139 n p=zaw n p:=rfl
theorem zbv(A:List Value)(w:World):(zaw 1 #[(0,.agg A.toArray)]).run Tryz.prog w=if A.length=35 then .ok (.slice (some ⟨w.heap.size,0,none⟩) 1 1) (w.alloc (.cells A.toArray 41)) else (Instr.buildSlice 139 1 #[(0,.agg A.toArray)]).run Tryz.prog w:=by
 by_cases h:A.length=35
 ·rw[if_pos h];exact qsz Tryz.underlying139 Tryz.zeroHtlc' Tryz.infoHtl rfl (by decide) (by decide) A h w
 ·rw[if_neg h];rfl
theorem qov(x:Live):(qk x).toArray.extract 0 (0+35)=(qm x.h).toArray:=by
 apply Array.ext';rw[Array.toList_extract];unfold qk;rw[List.extract_eq_take_drop];simp[qbh]
structure CutS(w0 w:World)(g K R:Nat)(S:Nat→Prop)(ci:Ch)(lv nv av kv ov rv:Value)(ks:List Live)(os:List Htlc)(rs:List Int):Prop where
 ch:ChP w g S ci lv nv av
 k:w.heap[K]? = some (.cells #[ov,rv] 141 (0,0))
 r:w.heap[R]? = some (.cells #[.slice none 0 0,.slice none 0 0] 141 (0,0))
 ko:w.ownsRow w0.heap.size 69 38 kv ks.length (ks.flatMap qk)
 oo:w.ownsRow w0.heap.size 41 35 ov os.length (os.flatMap qm)
 ro:w.ownsRow w0.heap.size 22 1 rv rs.length (rs.map (Value.int .u64))
 u:Upd (· = g) w0 w
 lt:∀k,S k→k<w0.heap.size
 kge:w0.heap.size≤K
 rge:w0.heap.size≤R
 ne:R≠K
section
variable {w0 w w':World}{g K R:Nat}{S:Nat→Prop}{ci cj:Ch}{lv nv av kv ov rv v:Value}{ks ks':List Live}{os os':List Htlc}{rs rs':List Int}
theorem CutS.glt(h:CutS w0 w g K R S ci lv nv av kv ov rv ks os rs):g<w0.heap.size:=h.lt g h.ch.inG
theorem CutS.new(h:CutS w0 w g K R S ci lv nv av kv ov rv ks os rs)(n:qu w w'):CutS w0 w' g K R S ci lv nv av kv ov rv ks os rs :=
 ⟨h.ch.new n,n.old h.k (fun h=>h),n.old h.r (fun h=>h),zq h.ko n (fun _ _ h=>h),zq h.oo n (fun _ _ h=>h),zq h.ro n (fun _ _ h=>h),h.u.trans (n.mono (fun _ _ h=>h.elim)),h.lt,h.kge,h.rge,h.ne⟩
theorem CutS.grow(h:CutS w0 w g K R S ci lv nv av kv ov rv ks os rs){T:TypeId}{N n:Nat}{l:List Value}(p:w.ownsRow w0.heap.size T N v n l)(u:Upd (fun k=>v.ownBlock=some k) w w')(J:T≠141) :
  ChP w' g S ci lv nv av∧w'.heap[K]? = some (.cells #[ov,rv] 141 (0,0))∧w'.heap[R]? = some (.cells #[.slice none 0 0,.slice none 0 0] 141 (0,0)) ∧
  (T≠69→w'.ownsRow w0.heap.size 69 38 kv ks.length (ks.flatMap qk))∧(T≠41→w'.ownsRow w0.heap.size 41 35 ov os.length (os.flatMap qm))∧(T≠22→w'.ownsRow w0.heap.size 22 1 rv rs.length (rs.map (Value.int .u64)))∧Upd (· = g) w0 w':=by
 have F:∀ {U:TypeId} {q L:Nat} {H:Value} {l2:List Value},T≠U→w.ownsRow w0.heap.size U q H L l2→∀k,H.ownBlock=some k→¬v.ownBlock=some k:=by
  intro U q L H l2 E M k C e;obtain⟨I,f⟩:=qab p k e;obtain⟨O,z⟩:=qab M k C;exact qao f z E rfl
 refine⟨h.ch.upd u (fun k C e=>by have:=h.lt k C;have:=qlx p k e;omega),u.old h.k ?_,u.old h.r ?_,fun m=>zq h.ko u (F m h.ko),fun m=>zq h.oo u (F m h.oo),fun m=>zq h.ro u (F m h.ro),h.u.then u (fun i P e=>by have:=qlx p i e;omega)⟩
 ·intro e;obtain⟨I,f⟩:=qab p K e;exact qao f h.k J rfl
 ·intro e;obtain⟨I,f⟩:=qab p R e;exact qao f h.r J rfl
theorem CutS.putL(h:CutS w0 w g K R S ci lv nv av kv ov rv ks os rs)(u:Upd (fun k=>kv.ownBlock=some k) w w')(m:w'.ownsRow w0.heap.size 69 38 v ks'.length (ks'.flatMap qk)):CutS w0 w' g K R S ci lv nv av v ov rv ks' os rs:=by
 obtain⟨a1,a2,a3,-,a5,f,i⟩:=h.grow h.ko u (by decide);exact⟨a1,a2,a3,m,a5 (by decide),f (by decide),i,h.lt,h.kge,h.rge,h.ne⟩
end
theorem ChP.noNews{w:World}{g:Nat}{S:Nat→Prop}{c:Ch}{lv nv av:Value}(h:ChP w g S c lv nv av):ChP (w.setCell ⟨g,626,none⟩ qbw) g S {c with news:=[]} lv qbw av:=by
 have u:Upd (· = g) w (w.setCell ⟨g,626,none⟩ qbw):=(Upd.refl _ _).set1 626 _;have f:=zt h.at_ 626 qbw;rw[qo7 c lv nv av h.ok.s.seed h.ok.shelf [] qbw] at f;have q:∀ {T:TypeId} {p n:Nat} {v:Value} {l:List Value},T≠126→w.ownsRow 0 T p v n l→∀k,v.ownBlock=some k→¬k=g:=by
  intro T p n v l C H k i e;obtain⟨z,E⟩:=qab H k i;exact qao E h.at_ C e
 exact⟨f,⟨h.ok.s,h.ok.signed,h.ok.heard,h.ok.nextOwn,h.ok.nextTheirs,h.ok.loc,h.ok.rem,h.ok.xs,h.ok.few,h.ok.shelf,(fun m F=>by cases F),h.ok.last,⟨Nat.zero_le _,h.ok.many.2⟩⟩,zq h.live u (q (by decide) h.live),World.ownsRow_nil _ _ _ _,zq h.last u (q (by decide) h.last),h.inG,h.inL,(fun k e=>by cases e),h.inA,(fun k e=>by cases e),fun k i=>Nat.lt_of_lt_of_le (h.lt k i) u.size⟩
structure EvV where
 kind:Int
 h:Htlc
 pre:List Int
def evW(k:Int)(H P:List Value):List Value:= .int .i64 k::(H++P)
def EvV.cells(e:EvV):List Value:=evW e.kind (qm e.h) (qs e.pre)
theorem EvV.len(e:EvV)(h:e.pre.length=32):e.cells.length=68:=by simp[EvV.cells,evW,qaj,h,qbh]
theorem EvV.one(e:EvV):∀v∈e.cells,v.oneCell'=true:=by
 intro v f;rcases List.mem_cons.1 f with rfl | f
 ·rfl
 ·rcases List.mem_append.1 f with f | f
  ·exact qix _ v f
  ·obtain⟨n,-,rfl⟩:=List.mem_map.1 f;rfl
def EvV.zero:EvV:=⟨0,Htlc.zero,ze⟩
def evC(x:Live):EvV:=⟨1,x.h,ze⟩
def evP(x:Live)(p:List Int):EvV:=⟨2,x.h,p⟩
def evF(x:Live):EvV:=⟨3,x.h,ze⟩
theorem Tryz.infoEv:(Tryz.prog.info? 43).map (·.size)=some 68:=by kernel_rfl
def zdo(x:Value):Sem Value:=Instr.loadAt 43 x
theorem qxg(x:Value):Instr.loadAt 43 x=zdo x:=rfl
theorem zdt(b o:Nat)(w:World):(zdo (.pointer (some ⟨b,o,none⟩))).run Tryz.prog w=match zj w b o 68 with | some A=> .ok (.agg A) w | none=>qc6 Tryz.prog 43 w b o :=
 zy 43 68 _ Tryz.underlying43 rfl Tryz.infoEv b o w
theorem Tryz.zeroEv:((Tryz.prog.info? 43).map fun i=>i.zero.map fun z=>z.cells.toList)=some (some EvV.zero.cells):=by kernel_rfl
theorem Tryz.placesEv:∃m,Tryz.prog.underlying 43=some (.struct m)∧m.toList.mapM (fun f=>(Tryz.prog.info? f.type).map fun i=>(f.offset,i.size))=some [(0,1),(1,35),(36,32)]:=⟨_,Tryz.underlying43,by kernel_rfl⟩
theorem qna:∃i z b,Tryz.prog.info? 43=some i∧i.zero=some z∧i.size=68∧i.bytes=b∧z.cells.size=68∧b≤1000:=by
 obtain⟨i,z,m,v,q⟩:=qcn Tryz.zeroEv;have f:(Tryz.prog.info? 43).map (fun i=>decide (i.bytes≤1000))=some true:=by kernel_rfl
 have p:=Tryz.infoEv;rw[m,Option.map_some,Option.some.injEq] at f p;exact⟨i,z,i.bytes,m,v,p,rfl,by rw[q];rfl,of_decide_eq_true f⟩
def zbs(p:Array (Nat × Value)):Sem Value:=Instr.build 43 p
theorem qj3(p:Array (Nat × Value)):Instr.build 43 p=zbs p:=rfl
theorem qri:EvV.zero.cells.toArray=(([]:List Value)++(Value.int .i64 0::(qm Htlc.zero++ze.map (Value.int .u8)))).toArray:=rfl
theorem q4n(k:Int)(H:List Value)(h:H.length=35):Tryz.prog.built 43 [(0,.int .i64 k),(1,.agg H.toArray)]=some (evW k H (qs ze)).toArray:=by
 obtain⟨i,z,m,v,f⟩:=qcn Tryz.zeroEv;obtain⟨C,q,p⟩:=Tryz.placesEv;rw[qbl m q v p];rw[qb1 (P:=[]) (z:= .int .i64 0) (R:=qm Htlc.zero++ze.map (Value.int .u8)) (off:=0) rfl rfl rfl (f.trans qri)];rw[qc3 (P:=[.int .i64 k]) (A:=H) (Z:=qm Htlc.zero) (R:=ze.map (Value.int .u8)) (off:=1) (by rw[h];rfl) rfl (by rw[h];rfl) (by rfl)];rw[Instr.fill];simp[evW,qs]
theorem q4d(k:Int)(H:List Value)(w:World):(zbs #[(0,.int .i64 k),(1,.agg H.toArray)]).run Tryz.prog w=if H.length=35 then .ok (.agg (evW k H (qs ze)).toArray) w else (Instr.build 43 #[(0,.int .i64 k),(1,.agg H.toArray)]).run Tryz.prog w:=by
 by_cases h:H.length=35
 ·rw[if_pos h];exact run_build w _ _ _ (q4n k H h)
 ·rw[if_neg h];rfl
theorem qz2(k:Int)(H P:List Value)(h:H.length=35)(f:P.length=32):Tryz.prog.built 43 [(0,.int .i64 k),(1,.agg H.toArray),(2,.agg P.toArray)]=some (evW k H P).toArray:=by
 obtain⟨i,z,p,C,m⟩:=qcn Tryz.zeroEv;obtain⟨E,v,q⟩:=Tryz.placesEv;rw[qbl p v C q];rw[qb1 (P:=[]) (z:= .int .i64 0) (R:=qm Htlc.zero++ze.map (Value.int .u8)) (off:=0) rfl rfl rfl (m.trans qri)];rw[qc3 (P:=[.int .i64 k]) (A:=H) (Z:=qm Htlc.zero) (R:=ze.map (Value.int .u8)) (off:=1) (by rw[h];rfl) rfl (by rw[h];rfl) (by rfl)];rw[qc3 (P:= .int .i64 k::H) (A:=P) (Z:=ze.map (Value.int .u8)) (R:=[]) (off:=36) (by rw[f];rfl) (by simp[h]) (by rw[f];rfl) (by simp)];rw[Instr.fill];simp[evW,qs]
theorem qwb(k:Int)(H P:List Value)(w:World):(zbs #[(0,.int .i64 k),(1,.agg H.toArray),(2,.agg P.toArray)]).run Tryz.prog w=if H.length=35∧P.length=32 then .ok (.agg (evW k H P).toArray) w else (Instr.build 43 #[(0,.int .i64 k),(1,.agg H.toArray),(2,.agg P.toArray)]).run Tryz.prog w:=by
 by_cases h:H.length=35∧P.length=32
 ·rw[if_pos h];exact run_build w _ _ _ (qz2 k H P h.1 h.2)
 ·rw[if_neg h];rfl
def zde(n:Nat)(p:Array (Nat × Value)):Sem Value:=Instr.buildSlice 38 n p
theorem qj4(n:Nat)(p:Array (Nat × Value)):Instr.buildSlice 38 n p=zde n p:=rfl
theorem q4k(A:List Value)(w:World):(zde 1 #[(0,.agg A.toArray)]).run Tryz.prog w=if A.length=68 then .ok (.slice (some ⟨w.heap.size,0,none⟩) 1 1) (w.alloc (.cells A.toArray 43)) else (Instr.buildSlice 38 1 #[(0,.agg A.toArray)]).run Tryz.prog w:=by
 by_cases h:A.length=68
 ·rw[if_pos h];exact qsz Tryz.underlying38 Tryz.zeroEv Tryz.infoEv rfl (by decide) (by decide) A h w
 ·rw[if_neg h];rfl
def qin(w:World)(v:Value)(es:List EvV):Prop:=w.ownsRow 0 43 68 v es.length (es.flatMap EvV.cells)
theorem qin.nil(w:World):qin w qbw []:=World.ownsRow_nil _ _ _ _
theorem qin.upd{S:Nat→Prop}{w w':World}{v:Value}{es:List EvV}(h:qin w v es)(u:Upd S w w')(f:∀k,v.ownBlock=some k→¬S k):qin w' v es:=zq h u f
theorem qin.lt{w:World}{v:Value}{es:List EvV}(h:qin w v es):∀k,v.ownBlock=some k→k<w.heap.size:=fun k e=>by
 obtain⟨f,i⟩:=qab h k e;exact zr i
def qfb(f i:List Live):List EvV:=(i.filter (qgh f)).map evC
def qiu(f i:List Live):List EvV:=(f.filter (qiv i)).map evF
theorem qz9(f:List Live){m:List Live}{i:Nat}{x:Live}(h:m[i]? = some x):qfb f (m.take (i+1))=qfb f (m.take i)++(if qgh f x=true then [evC x] else []):=by
 unfold qfb;rw[List.take_add_one,h,List.filter_append,List.map_append];cases p:qgh f x<;>simp[p]
theorem q0r(f:List Live){m:List Live}{i:Nat}{x:Live}(h:m[i]? = some x):qiu (m.take (i+1)) f=qiu (m.take i) f++(if qiv f x=true then [evF x] else []):=by
 unfold qiu;rw[List.take_add_one,h,List.filter_append,List.map_append];cases p:qiv f x<;>simp[p]
theorem qtp(i f:List Live):(qfb i f).length≤f.length:=by
 unfold qfb;rw[List.length_map];exact List.length_filter_le _ _
theorem q5c(f i:List Live):(qiu f i).length≤f.length:=by
 unfold qiu;rw[List.length_map];exact List.length_filter_le _ _
attribute [local go_sem ↓ high] qba qbn qcf qd7 zl qj3 qj4
attribute [local go_sem] qdk qd2 qfi qlt qbf q4d qwb q4k qv
structure EvSt(T:Nat→Prop)(w w':World)(g:Nat)(S:Nat→Prop)(l:Lk)(sp en lo:Nat)(SC SJ:Nat→Prop)(es:List EvV)(ev:Value):Prop where
 lk:LkP w' g S {l with ev:=ev} sp en lo SC SJ
 row:qin w' ev es
 u:Upd T w w'
 out:∀k,ev.ownBlock=some k→¬S k
 from_:∀k,ev.ownBlock=some k→T k∨w.heap.size≤k
section
variable {T:Nat→Prop}{w w' w'':World}{g:Nat}{S:Nat→Prop}{l:Lk}{sp en lo:Nat}{SC SJ:Nat→Prop}{es:List EvV}{ev:Value}
theorem EvSt.new(h:EvSt T w w' g S l sp en lo SC SJ es ev)(n:qu w' w''):EvSt T w w'' g S l sp en lo SC SJ es ev :=
 ⟨h.lk.new n,h.row.upd n (fun _ _ h=>h),h.u.trans (n.mono (fun _ _ h=>h.elim)),h.out,h.from_⟩
theorem EvSt.push(h:EvSt T w w' g S l sp en lo SC SJ es ev)(q:T g){m:Value}{e:EvV}(K:w''.ownsRow 0 43 68 m (es.length+1) (es.flatMap EvV.cells++e.cells))(I:World.grownBy w' w'' ev.ownBlock)(v:m.ownBlock=ev.ownBlock∨m.ownBlock=some w'.heap.size) :
  EvSt T w (w''.setCell ⟨g,4,none⟩ m) g S l sp en lo SC SJ (es++[e]) m:=by
 have C:Upd (fun k=>ev.ownBlock=some k) w' w'':=(Upd.refl _ _).grown I (fun k f _=>f)
 have J:¬(ev.ownBlock=some g):=fun e=>h.out g e h.lk.inG
 have F:=h.lk.upd C (fun k f e=>h.out k e f)
 have H:=F.put (i:=4) (x:=m) (l':= {l with ev:=m}) rfl rfl rfl rfl
 have E:Upd (· = g) w'' (w''.setCell ⟨g,4,none⟩ m):=(Upd.refl _ _).set1 _ _
 have L:=h.u.size
 have p:∀k,m.ownBlock=some k→¬S k:=by
  intro k f z;rcases v with e | e
  ·rw[e] at f;exact h.out k f z
  ·rw[e] at f;injection f with f;have:=h.lk.lt k z;omega
 refine⟨H,?_,?_,p,?_⟩
 ·show (w''.setCell ⟨g,4,none⟩ m).ownsRow 0 _ 68 m (es++[e]).length ((es++[e]).flatMap EvV.cells);rw[List.length_append,List.flatMap_append];have:[e].flatMap EvV.cells=e.cells:=by simp
  rw[this];exact zq K E (fun k f e=>p k f (e▸h.lk.inG))
 ·refine(h.u.then C (fun k f e=>(h.from_ k e).elim id (fun e=>by omega))).trans (E.mono (fun k _ e=>by have e:k=g:=e;rw[e];exact q))
 ·intro k f;rcases v with e | e
  ·rw[e] at f;exact h.from_ k f
  ·rw[e] at f;injection f with f;exact .inr (by omega)
end
theorem qtq(T:Nat→Prop)(g:Nat)(S:Nat→Prop)(l:Lk)(sp en lo:Nat)(SC SJ:Nat→Prop)(es:List EvV)(b7:Value)(va vb:Value)(f m:List Live)(w0 w:World)(h:EvSt T w0 w g S l sp en lo SC SJ es b7)(d7:T g)
  (hv:∀W,Upd T w0 W→LvO W vb f) (c9:∀W,Upd T w0 W→LvO W va m) (hl:f.length≤100000) (f7:m.length≤100000) (a7:es.length≤100000) :
  Calls Tryz.prog 146 #[.pointer (some ⟨g,0,none⟩),vb,va] w fun e w'=>e = .returned (.tuple #[])∧∃ev,EvSt T w0 w' g S l sp en lo SC SJ (es++qfb f m) ev:=by
 obtain⟨a,cap,rfl,M⟩:=(c9 w h.u).shape
 have hf:=fun own id W (n:Upd T w0 W)=>qob own id _ f W (hv W n) (by omega)
 obtain⟨ab,f1,rfl,c8⟩:=(hv w h.u).shape
 have V:∀W,Upd T w0 W→∀(i:Nat) (x:Live),m[i]? = some x→∃g',a=some ⟨g',0,none⟩∧qd4 W g' 0 m:=by
  intro W u i x hi;have J:=(List.getElem?_eq_some_iff.1 hi).1;rcases c9 W u with ⟨a',k,e,e0⟩ | ⟨g',k,e,hh⟩
  ·rw[e0] at J;simp at J
  ·injection e with e1;exact⟨g',e1,hh.toL⟩
 have L:∀W,Upd T w0 W→∀(i:Nat) (x:Live),f[i]? = some x→∃g',ab=some ⟨g',0,none⟩∧qd4 W g' 0 f:=by
  intro W u i x hi;have J:=(List.getElem?_eq_some_iff.1 hi).1;rcases hv W u with ⟨a',k,e,e0⟩ | ⟨g',k,e,hh⟩
  ·rw[e0] at J;simp at J
  ·injection e with e1;exact⟨g',e1,hh.toL⟩
 have HC:=qb V
 have b3:=qb L
 have HF:=qb hf
 have H0:=qb h
 clear V L hf M c8 hv c9 h
 have f9:(m.length:Int)≤1000000:=by omega
 have f8:(f.length:Int)≤1000000:=by omega
 go_enter Tryz.func146,Tryz.ntmps146
 go_wp2_with fail
 go_loopw [11] (fun iv wr=>∃i:Nat,iv = .int .i64 (i:Int)∧i≤m.length∧Hid (∃ev,EvSt T w0 wr g S l sp en lo SC SJ (es++qfb f (m.take i)) ev)) (fun iv _=>m.length-(intOf iv).toNat)
 case atStart=>exact⟨0,rfl,Nat.zero_le _,qb ⟨b7,by rw[List.take_zero];show EvSt T w0 w g S l sp en lo SC SJ (es++[]) b7;rw[List.append_nil];exact qa H0⟩⟩
 case round =>
  obtain⟨i,rfl,hi,hrel⟩:=hrel;obtain⟨wq,rfl⟩:∃wq:World,wq=wr:=⟨_,rfl⟩;clear H0;by_cases J:i<m.length
  ·obtain⟨x,a8⟩:∃x,m[i]? = some x:=⟨_,List.getElem?_eq_getElem J⟩;obtain⟨ev,hE⟩:=qa hrel;have e5:=qz9 f a8;have d8:=qtp f (m.take i);rw[List.length_take] at d8;have e8:(es++qfb f (m.take i)).length≤200000:=by rw[List.length_append];omega
   have Y:es++qfb f (m.take (i+1))=(es++qfb f (m.take i))++(if qgh f x=true then [evC x] else []):=by rw[e5,List.append_assoc]
   have O:=qb Y;clear e5 d8 Y hrel;generalize es++qfb f (m.take i)=es' at hE e8 O;obtain⟨g',rfl,hh⟩:=qa HC wq hE.u i x a8;have M:=hh.row a8;rw[Nat.zero_add] at M;have P:=qb hE;have f3:(i:Int)<(m.length:Int):=by omega
   have f0:=qhh wq x;have c7:=qg4 wq x;clear hE;go_upto_region 3 with fail;obtain⟨hb,nb⟩:=c7;generalize (wq.alloc (.cells (qk Live.zero).toArray 69)).setCells wq.heap.size 0 (qk x)=wb at hb nb ⊢;generalize wq.heap.size=X at hb ⊢;have b5:wb.cell? ⟨X,35,none⟩=some (.bool x.own):=by rw[qg hb,List.getElem?_toArray];exact qez x
   have d6:wb.cell? ⟨X,36,none⟩=some (.int .i64 x.state):=by rw[qg hb,List.getElem?_toArray];exact qe0 x
   have d0:wb.cell? ⟨X,0,none⟩=some (.int .u64 x.h.id):=by rw[qg hb,List.getElem?_toArray];exact qsn x
   have e6:zj wb X 0 35=some (qm x.h).toArray:=by
    have:=qjq (qai hb 38 (by rw[List.size_toArray,qbb])) 0 35 (by omega);rw[qov] at this;exact this
   have a6:=qb e6;have F:=qb ((qa P).new nb);have E:=qa HF false x.h.id wb (qa F).u;have e2:qgy false x.h.id f = -1∧f.findIdx? (qcz false x.h.id)=none∨∃(j:Nat) (y:Live),qgy false x.h.id f=(j:Int)∧f[j]? = some y∧f.findIdx? (qcz false x.h.id)=some j:=by
    unfold qgy;cases hc:f.findIdx? (qcz false x.h.id) with
    | none=>exact .inl ⟨rfl,rfl⟩
    | some j =>
     obtain⟨hj,-⟩:=List.findIdx?_eq_some_iff_getElem.1 hc;exact .inr ⟨j,f[j],rfl,List.getElem?_eq_getElem hj,rfl⟩
   have U:=qb e2;have d9:qgh f x=(!x.own&&(x.state==4&&(match f.findIdx? (qcz false x.h.id) with | some i=>(f.getD i x).state != 4 | none=>true))):=rfl;have N:=qb d9;clear hb nb M f0 HF HC hh a8 e2 d9 P e6;obtain⟨b4,b8⟩:∃b4,(x.state==4)=b4:=⟨_,rfl⟩;have f2:(x.state != 4) = !b4:=by rw[←b8];rfl
   obtain⟨o,ho⟩:∃o,x.own=o:=⟨_,rfl⟩;rw[ho] at b5;have HB:=qb (And.intro b8 ho);clear b8 ho;cases o with
   | true =>
    clear E U;go_wp2_with ((with_reducible first|rfl|refine' ut ?_ ?_;rotate_left|refine' uu ?_)<;>intros);go_roundw
    case rel =>
     have e:qgh f x=false:=by rw[qa N,(qa HB).2];rfl
     refine⟨i+1,by go_num,by omega,qb ⟨ev,?_⟩⟩;rw[qa O,e];simp only[Bool.false_eq_true,if_false,List.append_nil];exact qa F
    case measure=>simp[intOf];omega
   | false =>
    cases b4 with
    | false =>
     clear E U;go_wp2_with ((with_reducible first|rfl|refine' ut ?_ ?_;rotate_left|refine' uu ?_)<;>intros);go_roundw
     case rel =>
      have e:qgh f x=false:=by rw[qa N,(qa HB).1,Bool.false_and,Bool.and_false]
      refine⟨i+1,by go_num,by omega,qb ⟨ev,?_⟩⟩;rw[qa O,e];simp only[Bool.false_eq_true,if_false,List.append_nil];exact qa F
     case measure=>simp[intOf];omega
    | true =>
     rcases qa U with ⟨hj,hn⟩ | ⟨j,y,hj,hy,hn⟩
     ·have K:Hid (qgh f x=true):=qb (by rw[qa N,(qa HB).1,(qa HB).2,hn];rfl);rw[hj] at E;clear U hj hn N HB;go_wp2_with ((with_reducible first|rfl|refine' ut ?_ ?_;rotate_left|refine' uu ?_)<;>intros);refine E.mono ?_;rintro e wc ⟨rfl,nc⟩;have P:=qb ((qa F).new nc);have rX:zj wc X 0 35=some (qm x.h).toArray:=qbc (qa a6) nc (fun h=>h);clear E nc F d0 b5 d6 a6 b3;go_upto_region 6 with fail;have hC:wc.drew.cell? ⟨g,4,none⟩=some ev∧zj wc.drew X 0 35=some (qm x.h).toArray:=⟨qg (qa P).lk.at_ 4,rX⟩;obtain⟨i9,z9,b9,c6,d4,d1,d2,d3,c0⟩:=qna;have a7:(evW 1 (qm x.h) (qs ze)).length=68:=EvV.len (evC x) ql;have e9:=qbh x.h;refine qaw (fun w'=>w'.cell? ⟨g,4,none⟩=some ev∧zj w' X 0 35=some (qm x.h).toArray) [4,6] (.of [0,1,2,3,4,5,6,7,8,9,10,11,12]) (by kernel_rfl) (by kernel_rfl) hC ?_;simp only[Plan.of];go_wp2_with ((with_reducible first|rfl|refine' ut ?_ ?_;rotate_left|refine' uu ?_)<;>intros);have nC:qu wc (wc.alloc (.cells (evW 1 (qm x.h) (qs ze)).toArray 43)).drew:=((Upd.refl _ _).alloc _).drew;have z:(wc.alloc (.cells (evW 1 (qm x.h) (qs ze)).toArray 43)).drew.heap[wc.heap.size]? = some (.cells (evW 1 (qm x.h) (qs ze)).toArray 43 (0,0)):=qh wc _;have p:=qb ((qa P).new nC);have v:=And.intro (nC.cell hC.1 (fun h=>h)) (qbc rX nC (fun h=>h));refine⟨v,?_⟩;generalize (wc.alloc (.cells (evW 1 (qm x.h) (qs ze)).toArray 43)).drew=wC at p z v nC ⊢;generalize wc.heap.size=D at z ⊢;clear P hC;go_wp2_with (first | (at_builtin;refine wpList_append_own_at _ rfl (.tmp 41) (.tmp 45) 38 rfl 0 43 i9 _ 68 b9 Tryz.underlying38 c6 d4 d1 d2 d3 (by decide) _ _ _ rfl (qa p).row ⟨D,0,none⟩ 1 1 (evW 1 (qm x.h) (qs ze)) rfl (by rw[a7]) ?c1 ?c2 ?c3 ?c4 ?c5 ?_) | ((with_reducible first|rfl|refine' ut ?_ ?_;rotate_left|refine' uu ?_)<;>intros))
      case c1=>exact World.news_of_block (cs:=(evW 1 (qm x.h) (qs ze)).toArray) (fr:=(0,0)) z
      case c2=>exact EvV.one (evC x)
      case c3=>unfold maxLen;omega
      case c4=>have:=Nat.mul_le_mul (show es'.length+1≤1000000 by omega) c0;omega
      case c5=>omega
      intro v' wD q I _ C;obtain⟨a',d5,Z⟩:=zv q;have uD:Upd (fun k=>ev.ownBlock=some k) wC wD:=(Upd.refl _ _).grown I (fun k hk _=>hk);have H:¬(ev.ownBlock=some g):=fun e=>(qa p).out g e (qa p).lk.inG
      have f4:wD.frozen? ⟨g,4,none⟩=false:=qo (uD.old (qa p).lk.at_ H) 4;have c4:wD.cell? ⟨g,4,none⟩=some ev:=uD.cell v.1 H;have R:=qb ((qa p).push (e:=(evC x)) d7 q I C);rw[Z] at R ⊢;clear q C I uD z p v H nC Z;go_wp2_with (first | ((with_reducible first|rfl|refine' ut ?_ ?_;rotate_left|refine' uu ?_)<;>intros) | refine⟨trivial,?_⟩);go_roundw
      case rel =>
       refine⟨i+1,by go_num,by omega,?_⟩;rw[qa O,if_pos (qa K)];exact qb ⟨_,qa R⟩
      case measure=>simp[intOf];omega
     ·rw[hj] at E;go_wp2_with ((with_reducible first|rfl|refine' ut ?_ ?_;rotate_left|refine' uu ?_)<;>intros);refine E.mono ?_;rintro e wc ⟨rfl,nc⟩;have P:=qb ((qa F).new nc);obtain⟨gb,rfl,e4⟩:=qa b3 wc (qa P).u j y hy;have f6:=(List.getElem?_eq_some_iff.1 hy).1;have f5:(j:Int)<(f.length:Int):=by omega
      have cy:wc.cell? ⟨gb,j*38+36,none⟩=some (.int .i64 y.state):=by
       have hr:=e4.row hy;rw[Nat.zero_add] at hr;rw[(qhf hr).2 36 (by decide),List.getElem?_toArray,qe0]
      have rX:zj wc X 0 35=some (qm x.h).toArray:=qbc (qa a6) nc (fun h=>h);have e3:(f.getD j x).state=y.state:=by rw[List.getD_eq_getElem?_getD,hy];rfl
      obtain⟨b6,e7⟩:∃b6,(y.state != 4)=b6:=⟨_,rfl⟩;have K:Hid (qgh f x=b6):=qb (by rw[qa N,(qa HB).1,(qa HB).2,hn];simp only[e3,e7];cases b6<;>rfl);clear E nc F d0 b5 d6 a6 b3 U hj hn e4 hy e3 N HB;cases b6 with
      | false =>
       clear rX;go_wp2_with fail;go_roundw
       case rel =>
        refine⟨i+1,by go_num,by omega,qb ⟨ev,?_⟩⟩;rw[qa O,qa K];simp only[Bool.false_eq_true,if_false,List.append_nil];exact qa P
       case measure=>simp[intOf];omega
      | true =>
       go_upto_region 6 with fail;have hC:wc.drew.cell? ⟨g,4,none⟩=some ev∧zj wc.drew X 0 35=some (qm x.h).toArray:=⟨qg (qa P).lk.at_ 4,rX⟩;obtain⟨i9,z9,b9,c6,d4,d1,d2,d3,c0⟩:=qna;have a7:(evW 1 (qm x.h) (qs ze)).length=68:=EvV.len (evC x) ql;have e9:=qbh x.h;refine qaw (fun w'=>w'.cell? ⟨g,4,none⟩=some ev∧zj w' X 0 35=some (qm x.h).toArray) [4,6] (.of [0,1,2,3,4,5,6,7,8,9,10,11,12]) (by kernel_rfl) (by kernel_rfl) hC ?_;simp only[Plan.of];go_wp2_with ((with_reducible first|rfl|refine' ut ?_ ?_;rotate_left|refine' uu ?_)<;>intros);have nC:qu wc (wc.alloc (.cells (evW 1 (qm x.h) (qs ze)).toArray 43)).drew:=((Upd.refl _ _).alloc _).drew;have z:(wc.alloc (.cells (evW 1 (qm x.h) (qs ze)).toArray 43)).drew.heap[wc.heap.size]? = some (.cells (evW 1 (qm x.h) (qs ze)).toArray 43 (0,0)):=qh wc _;have p:=qb ((qa P).new nC);have v:=And.intro (nC.cell hC.1 (fun h=>h)) (qbc rX nC (fun h=>h));refine⟨v,?_⟩;generalize (wc.alloc (.cells (evW 1 (qm x.h) (qs ze)).toArray 43)).drew=wC at p z v nC ⊢;generalize wc.heap.size=D at z ⊢;clear P hC;go_wp2_with (first | (at_builtin;refine wpList_append_own_at _ rfl (.tmp 41) (.tmp 45) 38 rfl 0 43 i9 _ 68 b9 Tryz.underlying38 c6 d4 d1 d2 d3 (by decide) _ _ _ rfl (qa p).row ⟨D,0,none⟩ 1 1 (evW 1 (qm x.h) (qs ze)) rfl (by rw[a7]) ?c1 ?c2 ?c3 ?c4 ?c5 ?_) | ((with_reducible first|rfl|refine' ut ?_ ?_;rotate_left|refine' uu ?_)<;>intros))
       case c1=>exact World.news_of_block (cs:=(evW 1 (qm x.h) (qs ze)).toArray) (fr:=(0,0)) z
       case c2=>exact EvV.one (evC x)
       case c3=>unfold maxLen;omega
       case c4=>have:=Nat.mul_le_mul (show es'.length+1≤1000000 by omega) c0;omega
       case c5=>omega
       intro v' wD q I _ C;obtain⟨a',d5,Z⟩:=zv q;have uD:Upd (fun k=>ev.ownBlock=some k) wC wD:=(Upd.refl _ _).grown I (fun k hk _=>hk);have H:¬(ev.ownBlock=some g):=fun e=>(qa p).out g e (qa p).lk.inG
       have f4:wD.frozen? ⟨g,4,none⟩=false:=qo (uD.old (qa p).lk.at_ H) 4;have c4:wD.cell? ⟨g,4,none⟩=some ev:=uD.cell v.1 H;have R:=qb ((qa p).push (e:=(evC x)) d7 q I C);rw[Z] at R ⊢;clear q C I uD z p v H nC Z;go_wp2_with (first | ((with_reducible first|rfl|refine' ut ?_ ?_;rotate_left|refine' uu ?_)<;>intros) | refine⟨trivial,?_⟩);go_roundw
       case rel =>
        refine⟨i+1,by go_num,by omega,?_⟩;rw[qa O,if_pos (qa K)];exact qb ⟨_,qa R⟩
       case measure=>simp[intOf];omega
  ·obtain rfl:i=m.length:=by omega
   obtain⟨ev,hE⟩:=qa hrel;rw[List.take_length] at hE;have HR:=qb hE;clear hE hrel;go_wp2_with fail;go_end0;exact⟨rfl,ev,qa HR⟩
end
end Go.Proofs.YtfmkdoachjgjbaaGreatDoor
