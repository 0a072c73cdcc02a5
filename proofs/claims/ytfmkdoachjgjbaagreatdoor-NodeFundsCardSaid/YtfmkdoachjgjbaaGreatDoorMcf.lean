/-
  A link: ready, note, send.
-/
import Derived.Test.YtfmkdoachjgjbaaGreatDoorMce
set_option maxRecDepth 100000
set_option maxHeartbeats 2000000
set_option linter.unusedVariables false
set_option linter.unusedSimpArgs false
namespace Go.Proofs.YtfmkdoachjgjbaaGreatDoor
section
open Go.RowKit
theorem q09(g:Nat)(w:World)(i:w.cell? ⟨g,8,none⟩=some (.bool false)):Calls Tryz.prog 87 #[.pointer (some ⟨g,0,none⟩)] w fun e w'=>e = .returned (.int .i64 0)∧w=w':=by
 go_enter Tryz.func87,Tryz.ntmps87;go_wp2_with fail;go_ret;exact⟨rfl,rfl⟩
theorem qjn(g:Nat)(o:Option Addr)(t q:Nat)(w:World):Calls Tryz.prog 69 #[.pointer (some ⟨g,0,none⟩),.slice o t q] w fun e w'=>∃z C,e = .returned (.func (.func 112) #[] #[.pointer (some ⟨z,0,none⟩),.pointer (some ⟨C,0,none⟩)])∧qq w w'∧w.heap.size≤z∧w.heap.size≤C∧z<w'.heap.size∧C<w'.heap.size∧w'.cell? ⟨z,0,none⟩=some (.pointer (some ⟨g,0,none⟩))∧w'.cell? ⟨C,0,none⟩=some (.slice o t q):=by
 have E:∀(fn:Fn) (first cap:Array Value) (w:World),(Instr.makeFunc fn first cap).run Tryz.prog w = .ok (.func fn first cap) w:=fun _ _ _ _=>rfl
 go_enter Tryz.func69,Tryz.ntmps69;go_upto_region 1 with fail;have x:qq w (w.alloc (.cells #[.pointer (some ⟨g,0,none⟩)] 28)):=(Upd.refl _ _).alloc _;have v:=ql w (.cells #[.pointer (some ⟨g,0,none⟩)] 28);have y:(w.alloc (.cells #[.pointer (some ⟨g,0,none⟩)] 28)).heap.size=w.heap.size+1:=World.size_alloc _ _;generalize w.alloc (.cells #[.pointer (some ⟨g,0,none⟩)] 28)=w1 at x v y ⊢;have m:qq w1 (w1.alloc (.cells #[.slice o t q] 163)):=(Upd.refl _ _).alloc _;have i:=ql w1 (.cells #[.slice o t q] 163);have D:(w1.alloc (.cells #[.slice o t q] 163)).heap.size=w1.heap.size+1:=World.size_alloc _ _;generalize w1.alloc (.cells #[.slice o t q] 163)=H at m i D ⊢;rw[y] at i;have N:=qj (And.intro x (And.intro m (And.intro v (And.intro i (And.intro y D)))));clear x m v i y D;go_wp2_with fail;go_ret;obtain⟨x,m,v,i,y,D⟩:=qg N;exact⟨_,_,rfl,x.trans m,Nat.le_refl _,by omega,by omega,by omega,qk (m.old v (fun h=>h)) 0,qk i 0⟩
theorem qqd(C O D g:Nat)(S:Nat→Prop)(l:Lk)(sp en lo:Nat)(SC SJ:Nat→Prop)(xs:List ByteArray)(w:World)(h:LkP w g S l sp en lo SC SJ)(hd:l.dead=false)(hf:l.j.fused=false)(ho:l.j.off=false)
  (hm:0≤l.j.many∧l.j.many<1099511627776) (y:l.j.bs.size≤1099511627776) (hT:Tabs w) (hn:xs.length≤1000) (U:(qab xs).size≤1024)
  (c0:w.cell? ⟨C,0,none⟩=some (.pointer (some ⟨g,0,none⟩))) (c1:w.cell? ⟨O,0,none⟩=some (.slice (some ⟨D,0,none⟩) xs.length xs.length)) (hx:∀j x,xs[j]? = some x→w.cell? ⟨D,j,none⟩=some (.string x)) (T:D<w.heap.size) (hP:¬S C) :
  Calls Tryz.prog 112 #[.pointer (some ⟨C,0,none⟩),.pointer (some ⟨O,0,none⟩)] w fun e w'=>e = .returned (.int .i64 0)∧(∃a2,LkP w' g (Fr S w w') {l with j:=l.j.app (qab xs)} sp en lo SC a2)∧Upd S w w':=by
 have c2:w.cell? ⟨g,2,none⟩=some (.pointer (some ⟨lo,0,none⟩)):=qk h.at_ 2
 have m:=fun w' (t:qq w w')=>qt0 D xs w' (fun j x e=>t.cell (hx j x e) (fun h=>h)) (Nat.lt_of_lt_of_le T t.size) hn (by omega)
 have v:=fun b w' (t:qq w w') hb hS=>qlh lo b SJ l.j (qab xs) w' (h.jou.new t) hf ho U hm y (hT.new t) hb hS
 have I:(w.cell? ⟨C,0,none⟩=some (.pointer (some ⟨g,0,none⟩)))∧(w.cell? ⟨g,2,none⟩=some (.pointer (some ⟨lo,0,none⟩)))∧w.cell? ⟨O,0,none⟩=some (.slice (some ⟨D,0,none⟩) xs.length xs.length):=⟨c0,c2,c1⟩
 have HC:=qj I
 have H:=qj h
 have o:∀w',qq w w'→(w'.cell? ⟨C,0,none⟩=some (.pointer (some ⟨g,0,none⟩)))∧(w'.cell? ⟨g,2,none⟩=some (.pointer (some ⟨lo,0,none⟩)))∧w'.cell? ⟨O,0,none⟩=some (.slice (some ⟨D,0,none⟩) xs.length xs.length):=fun w' t=>⟨t.cell I.1 (fun h=>h),t.cell I.2.1 (fun h=>h),t.cell I.2.2 (fun h=>h)⟩
 have Z:=qj h.jou.lt
 generalize hJ:qab xs=J at *
 clear h c0 c1 c2 hx hn U T hm y hT hJ
 go_enter Tryz.func112,Tryz.ntmps112
 go_upto_region 1 with fail
 refine qay (fun w'=>(w'.cell? ⟨C,0,none⟩=some (.pointer (some ⟨g,0,none⟩)))∧(w'.cell? ⟨g,2,none⟩=some (.pointer (some ⟨lo,0,none⟩)))∧w'.cell? ⟨O,0,none⟩=some (.slice (some ⟨D,0,none⟩) xs.length xs.length)) [0,3,4] (.of [0,1,2,3,4,5,6,7,8]) (by kernel_rfl) (by kernel_rfl) I ?_
 simp only[Plan.of]
 have k0:=o _ ((Upd.refl (fun _=>False) w).drew)
 clear I
 go_wp2_with ((with_reducible first|rfl|refine' ut ?_ ?_;rotate_left|refine' uu ?_)<;>intros)
 refine(m _ ((Upd.refl (fun _=>False) w).drew)).mono ?_
 rintro e w1 ⟨rfl,M⟩
 have M:=M.ofDrew
 have k1:=o _ M
 clear m k0
 go_wp2_with (first | ((with_reducible first|rfl|refine' ut ?_ ?_;rotate_left|refine' uu ?_)<;>intros) | refine⟨k1,?_⟩)
 have z:qq w (w1.alloc (.cells #[.string J] 9)):=M.alloc _
 have V:qq w1 (w1.alloc (.cells #[.string J] 9)):=(Upd.refl _ _).alloc _
 have Y:=qk (ql w1 (.cells #[.string J] 9)) 0
 have K:=o _ z
 have a7:=M.size
 generalize w1.alloc (.cells #[.string J] 9)=w2 at z V Y K ⊢
 refine⟨K,?_⟩
 generalize hB:w1.heap.size=B at Y ⊢
 have i:=v B w2 z Y (fun e=>by have:=(qg Z) B e;omega)
 have N2:=qj z
 clear v M z V k1 Y hB a7
 go_wp2_with (first | ((with_reducible first|rfl|refine' ut ?_ ?_;rotate_left|refine' uu ?_)<;>intros) | refine⟨K,?_⟩)
 refine i.mono ?_
 rintro e X ⟨rfl,P,E⟩
 have N:=(qg N2)
 have q:=((qg H).new N).jour E P
 have d0:X.cell? ⟨C,0,none⟩=some (.pointer (some ⟨g,0,none⟩)):=E.cell K.1 (fun e=>hP ((qg H).inJ _ e))
 have d6:=qo q.at_ 6
 have a8:X.cell? ⟨g,6,none⟩=some (.bool false):=hd▸qk q.at_ 6
 have R:=q.put_dead false
 have W:Upd (· = g) X (X.setCell ⟨g,6,none⟩ (.bool false)):=(Upd.refl _ _).set1 _ _
 have a1:=qj R
 have U3:=qj E
 have U4:=qj W
 have K2:=qj K
 clear i P N q R E W K o
 go_wp2_with (first | ((with_reducible first|rfl|refine' ut ?_ ?_;rotate_left|refine' uu ?_)<;>intros) | ((with_reducible first|rfl|refine' ut ?_ ?_;rotate_left|refine' uu ?_)<;>intros) | refine⟨trivial,?_⟩)
 go_ret
 have z:=qg N2
 have E:=qg U3
 have W:=qg U4
 have z2:=z.size
 have z3:=E.size
 have z4:=W.size
 have h:=qg H
 have a6:=h.lt
 have e:({l with j:=l.j.app J} : Lk)=⟨l.c,l.j.app J,l.rest,l.out,l.ev,l.ticks,false,l.broken,l.waits⟩:=by rw[←hd]
 refine⟨rfl,⟨Fr SJ w2 X,?_⟩,?_⟩
 ·rw[e];refine(qg a1).wider ?_ ?_
  ·rintro k (o | o)
   ·exact .inl o
   ·exact .inr ⟨by omega,by omega⟩
  ·rintro k (o | o)
   ·have:=a6 k o;omega
   ·exact o.2
 ·exact((z.mono (fun _ _ h=>h.elim)).trans (E.mono (fun k _ e=>h.inJ k e))).trans (W.mono (fun k _ e=>by rw[e];exact h.inG))
def qkw(m:MsgV):ByteArray:=match fieldsOf m.kind with | some xs=>qfx (qtg xs m) | none=>⟨#[]⟩
structure SayOk(m:MsgV):Prop where
 put:PutOk m
 may:qap m=true
 kind:0≤m.kind∧m.kind<256
theorem q7y(xs:List Fld)(m:MsgV)(s:ByteArray):s.size≤(qfp xs m s).size:=by
 induction xs generalizing s with
 | nil=>exact Nat.le_refl _
 | cons x xs i =>
  have:=i (s++x.put m);rw[ByteArray.size_append] at this;show s.size≤(qfp xs m (s++x.put m)).size;omega
theorem qoy{k:Int}{xs:List Fld}(h:fieldsOf k=some xs):xs.length≤5:=by
 unfold fieldsOf at h
 repeat' (split at h)
 all_goals first
  | (injection h with h;subst h;decide)
  | cases h
theorem SayOk.say{m:MsgV}(h:SayOk m):∃xs,fieldsOf m.kind=some xs∧qkw m=qfx (qtg xs m)∧0<(qtg xs m).size∧(qtg xs m).size≤1024:=by
 cases e:fieldsOf m.kind with
 | none=>have:=h.may;rw[qt8 e] at this;cases this
 | some xs =>
  have q:=qoy e;have i:=qku m h.put.ok.len xs (zr m.kind.toNat 1);have o:=q7y xs m (zr m.kind.toNat 1);rw[qaq] at i o;refine⟨xs,rfl,by unfold qkw;rw[e],?_,?_⟩
  ·show 0<(qfp xs m (zr m.kind.toNat 1)).size;omega
  ·show (qfp xs m (zr m.kind.toNat 1)).size≤1024;omega
theorem qhu(s:ByteArray):(qfx s).size=2+s.size:=by
 unfold qfx;rw[ByteArray.size_append,strOfNums_size];rfl
theorem SayOk.size{m:MsgV}(h:SayOk m):2<(qkw m).size∧(qkw m).size≤1026:=by
 obtain⟨xs,-,e,i,o⟩:=h.say;rw[e,qhu];omega
def qdg(i:List MsgV)(out:ByteArray):ByteArray:=i.foldl (fun s m=>s++qkw m) out
theorem qqk{o:List MsgV}{i:Nat}{m:MsgV}(h:o[i]? = some m)(out:ByteArray):qdg (o.take (i+1)) out=qdg (o.take i) out++qkw m:=by
 unfold qdg;rw[List.take_add_one,h,List.foldl_append];rfl
theorem qkx(out:ByteArray):∀(i:List MsgV),(∀m∈i,SayOk m)→∀out:ByteArray,(qdg i out).size≤out.size+1026*i.length
 | [],_,out=>Nat.le_refl _
 | m::i,h,o=>by
  have q:=qkx out i (fun m t=>h m (List.mem_cons_of_mem _ t)) (o++qkw m);have v:=(h m (List.mem_cons_self ..)).size;rw[ByteArray.size_append] at q;show (qdg i (o++qkw m)).size≤_;rw[List.length_cons];omega
theorem qlc(m:MsgV)(h:SayOk m)(w:World):∃t,0<t.size∧t.size≤1024∧qkw m=qfx t∧Calls Tryz.prog 115 #[.agg m.cells.toArray] w (qar (.tuple #[.string t,.int .i64 0]) w):=by
 obtain⟨xs,i,e,o,q⟩:=h.say;exact⟨_,o,q,e,qvv m xs h.put i h.kind (qgz i) h.may w⟩
attribute [local go_sem ↓ high] ze zf zg
attribute [local go_sem] qau qav qaw qy
theorem q5g(g B:Nat)(S:Nat→Prop)(l:Lk)(sp en lo:Nat)(Z SJ:Nat→Prop)(o:List MsgV)(w:World)(h:LkP w g S l sp en lo Z SJ)(U:∀m∈o,SayOk m)(hn:o.length≤1000)(hz:l.out.size≤1099511627776)
  (hr:∀i m,o[i]? = some m→zt w B (i*38) 38=some m.cells.toArray) (hB:B≠g) :
  Calls Tryz.prog 72 #[.pointer (some ⟨g,0,none⟩),.slice (some ⟨B,0,none⟩) o.length o.length] w fun e w'=>e = .returned (.int .i64 0)∧LkP w' g S {l with out:=qdg o l.out} sp en lo Z SJ∧Upd (· = g) w w':=by
 have b2:(o.length:Int)≤1000:=by omega
 have b0:=h.lt g h.inG
 have H:=qj h
 have HR:=qj hr
 have HM:=qj U
 clear h hr U
 go_enter Tryz.func72,Tryz.ntmps72
 go_wp2_with fail
 go_loopw [13] (fun iv wr=>∃i:Nat,iv = .int .i64 (i:Int)∧i≤o.length∧Hid (LkP wr g S {l with out:=qdg (o.take i) l.out} sp en lo Z SJ)∧Upd (· = g) w wr) (fun iv _=>o.length-(intOf iv).toNat)
 case atStart=>exact⟨0,rfl,Nat.zero_le _,H,Upd.refl _ _⟩
 case round =>
  obtain⟨i,rfl,hi,hC,u⟩:=hrel;obtain⟨C,rfl⟩:∃C:World,C=wr:=⟨_,rfl⟩;by_cases I:i<o.length
  ·have b1:(i:Int)<(o.length:Int):=by omega
   have R:o[i]? = some o[i]:=List.getElem?_eq_getElem I;generalize o[i]=m at R;have q:=qg HM m (List.mem_of_getElem? R);have rB:=qbg (qg HR i m R) u hB;have a2:=q.put.ok.len;have T:=qj u;have HX:=qj R;have W:=qj q;clear u R q;obtain⟨N,x,V⟩:=qgg C m a2;go_upto_region 4 with fail;change Code.wp _ _ _ _ (qhi C m);generalize qhi C m=w1 at x V ⊢;generalize C.heap.size=K at x N ⊢;have rK:=x.row;obtain⟨t,a6,a7,P,z⟩:=qlc m (qg W) w1;have v:=fun w'=>qul t w' a6 a7
   have hP:=(qg hC).new V;have U1:=qj ((qg T).trans (V.mono (fun _ _ h=>h.elim)));have J:=qkx ⟨#[]⟩ (o.take i) (fun m U=>qg HM m (List.mem_of_mem_take U)) l.out;have M:(qdg (o.take i) l.out).size≤1099512653776:=by
    rw[List.length_take] at J;omega
   have a1:(qfx t).size≤1026:=by rw[qhu];omega
   generalize hO:qdg (o.take i) l.out=O at hP M;have HO:=qj hO;have X:=qj hP;have D:=qj P;generalize qfx t=ft at v a1 D;clear N x V hC T hP J hO P;go_wp2_with fail;refine z.mono ?_;rintro e w2 ⟨rfl,n2⟩;have X:=qj ((qg X).new n2);have U2:=qj ((qg U1).trans (n2.mono (fun _ _ h=>h.elim)));clear z rK n2;go_wp2_with fail;refine(v w2).mono ?_;rintro e w3 ⟨rfl,n3⟩;have y:=(qg X).new n3;have U3:=qj ((qg U2).trans (n3.mono (fun _ _ h=>h.elim)));have c3:w3.cell? ⟨g,3,none⟩=some (.string O):=qk y.at_ 3;have f3:=qo y.at_ 3;have E:=y.put_out (O++ft);have u4:Upd (· = g) w3 (w3.setCell ⟨g,3,none⟩ (.string (O++ft))):=(Upd.refl _ _).set1 _ _;have Y:=qj E;have U4:=qj ((qg U3).trans u4);have a8:O.size+ft.size≤9223372036854775807:=by omega
   clear v n3 y E u4;go_wp2_with fail;go_roundw
   case rel =>
    refine⟨i+1,by go_num,I,?_,qg U4⟩;have e1:=qqk (qg HX) l.out;rw[qg HO,qg D] at e1;rw[e1];exact Y
   case measure=>simp[intOf];omega
  ·obtain rfl:i=o.length:=by omega
   have T:=qj u;clear u;go_wp2_with fail;go_ret;refine⟨rfl,?_,qg T⟩;have:=qg hC;rw[List.take_length] at this;exact this
end
section
open Go.RowKit
attribute [local go_sem ↓ high] ze zf zg zj qak
attribute [local go_sem] qau qav qaw qy zz qck
structure SaysIt(en:Nat)(SC:Nat→Prop)(m:MsgV)(er:Int)(c':Ch)(e:Ending)(a a':World):Prop where
 ret:e = .returned (.tuple #[.agg m.cells.toArray,.int .i64 er])
 chn:ChS a' en (Fr SC a a') c'
 upd:Upd SC a a'
theorem q1u(C M en:Nat)(v:Nat→Prop)(F:FuncId)(E o:Array Value)(m:MsgV)(D:Int)(c':Ch)(R:MsgV)(w:World)(t:m.hash.length=32)
  (N:w.cell? ⟨C,0,none⟩=some (.func (.func F) E o)) (I:MsB w M R) (z:¬v M) (O:∀args w,(callFunc F args).run Tryz.prog w = .ok (.enter F args) w)
  (H:Calls Tryz.prog F (E++o) w fun e w'=>SaysIt en v m D c' e w w') :
  Calls Tryz.prog 88 #[.pointer (some ⟨C,0,none⟩),.pointer (some ⟨M,0,none⟩)] w fun e w'=>e = .returned (.int .i64 D)∧MsB w' M m∧∃a,Upd v w a∧ChS a en (Fr v w a) c'∧Upd (· = M) a w':=by
 have J:=qj I
 clear I
 go_enter Tryz.func88,Tryz.ntmps88
 go_wp2_with ((with_reducible first|rfl|refine' ut ?_ ?_;rotate_left|refine' uu ?_)<;>intros)
 refine H.mono ?_
 rintro e w1 ⟨rfl,x,u⟩
 have q:=(qg J).upd u z
 have P:=q.stOk t
 have i:=q.put t
 have y:Upd (· = M) w1 (w1.setCells M 0 m.cells):=zy _
 have K:=qj (And.intro x (And.intro u (And.intro i y)))
 clear x u q i y H
 go_wp2_with ((with_reducible first|rfl|refine' ut ?_ ?_;rotate_left|refine' uu ?_)<;>intros)
 go_ret
 obtain⟨x,u,i,y⟩:=qg K
 exact⟨rfl,i,w1,u,x,y⟩
theorem q1v(I M g:Nat)(S:Nat→Prop)(l:Lk)(sp en lo:Nat)(t v:Nat→Prop)(m:MsgV)(w:World)(h:LkP w g S l sp en lo t v)(z:SayOk m)(X:l.out.size≤1099511627776)
  (Z:w.cell? ⟨I,0,none⟩=some (.pointer (some ⟨g,0,none⟩))) (y:MsB w M m) :
  Calls Tryz.prog 89 #[.pointer (some ⟨I,0,none⟩),.pointer (some ⟨M,0,none⟩)] w fun e w'=>e = .returned (.int .i64 0)∧LkP w' g S {l with out:=l.out++qkw m} sp en lo t v∧Upd (· = g) w w':=by
 have rM:=y.row
 have U:=h.lt g h.inG
 have N:=fun w' (Y:qq w w') B T W=>q5g g B S l sp en lo t v [m] w' (h.new Y) (fun x q=>by rw[List.mem_singleton.1 q];exact z) (by simp) X W T
 have H:=qj h
 have o:=z.put.ok.len
 have V:=m.len o
 have P:=qj y
 have J:=qa6 w m o
 have C:qq w (w.alloc (.cells m.cells.toArray 101)):=(Upd.refl _ _).alloc _
 have D:=qj (N _ C w.heap.size (by omega) (fun i x q=>by
  cases i with
  | zero =>
   obtain rfl:m=x:=by simpa using q
   exact J.row
  | succ i=>simp at q))
 have R:=qj C
 clear h y z N J C
 go_enter Tryz.func89,Tryz.ntmps89
 go_wp2_with ((with_reducible first|rfl|refine' ut ?_ ?_;rotate_left|refine' uu ?_)<;>intros)
 refine(qg D).mono ?_
 rintro e w2 ⟨rfl,K,O⟩
 have E:=qj (And.intro K O)
 clear K O D
 go_wp2_with ((with_reducible first|rfl|refine' ut ?_ ?_;rotate_left|refine' uu ?_)<;>intros)
 go_ret
 exact⟨rfl,(qg E).1,((qg R).mono (fun _ _ h=>h.elim)).trans (qg E).2⟩
end
section
open Go.RowKit
structure ActSt(W:World)(g:Nat)(S:Nat→Prop)(sp en lo M:Nat)(m:MsgV)(L:Lk)(a:World):Prop where
 upd:Upd (fun k=>S k∨k=M) W a
 msb:MsB a M m
 lk:∃SC SJ,LkP a g (Fr S W a) L sp en lo SC SJ
structure LkOk(l:Lk):Prop where
 dead:l.dead=false
 waits:l.waits=false
 fused:l.j.fused=false
 off:l.j.off=false
 many:0≤l.j.many∧l.j.many<1000000000000
 len:l.j.bs.size≤1000000000000
 out:l.out.size≤1000000000000
def Lk.says(l:Lk)(c':Ch)(rec:ByteArray)(m:MsgV):Lk:= {l with c:=c',j:=l.j.app rec,out:=l.out++qkw m}
def q1w(i:Nat):Nat:=if i=0 then 87 else if i=1 then 88 else if i=2 then 112 else 89
def qsw(g:Nat)(i:Nat):Array Value:=if i=0 then #[.pointer (some ⟨g,0,none⟩)] else #[]
def qi9(t q M m o:Nat)(i:Nat):Array Value :=
 if i=0 then #[] else if i=1 then #[.pointer (some ⟨q,0,none⟩),.pointer (some ⟨M,0,none⟩)] else if i=2 then #[.pointer (some ⟨m,0,none⟩),.pointer (some ⟨o,0,none⟩)] else #[.pointer (some ⟨t,0,none⟩),.pointer (some ⟨M,0,none⟩)]
def zbk(W:World)(g:Nat)(S:Nat→Prop)(sp en lo M:Nat)(m:MsgV)(l:Lk)(c':Ch)(rec:ByteArray)(o:Int)(i:Nat)(a:World):Prop :=
 if i≤1 then qq W a else o=0∧ActSt W g S sp en lo M m (if i=2 then {l with c:=c'} else if i=3 then {l with c:=c',j:=l.j.app rec} else l.says c' rec m) a
def zbl(W:World)(g:Nat)(S:Nat→Prop)(sp en lo M:Nat)(m:MsgV)(l:Lk)(c':Ch)(i:Int)(x:Int)(a:World):Prop:=x=i∧ActSt W g S sp en lo M m {l with c:=c'} a
theorem qyv(g b R U M O P B:Nat)(S:Nat→Prop)(l:Lk)(sp en lo:Nat)(SC SJ:Nat→Prop)(F:FuncId)(fs v:Array Value)(m:MsgV)(D:Int)(c':Ch)(xs:List ByteArray)(W:World)
  (h:LkP W g S l sp en lo SC SJ) (o:LkOk l) (b2:m.hash.length=32) (a6:D=0→SayOk m) (hT:Tabs W) (hA:ApD S)
  (b1:∀args w,(callFunc F args).run Tryz.prog w = .ok (.enter F args) w) (hF:∀a,qq W a→Calls Tryz.prog F (fs++v) a fun e C=>SaysIt en SC m D c' e a C)
  (cL:W.cell? ⟨R,0,none⟩=some (.pointer (some ⟨g,0,none⟩))) (cC:W.cell? ⟨U,0,none⟩=some (.func (.func F) fs v)) (hM:MsB W M MsgV.zero)
  (c0:W.cell? ⟨O,0,none⟩=some (.pointer (some ⟨g,0,none⟩))) (c1:W.cell? ⟨P,0,none⟩=some (.slice (some ⟨B,0,none⟩) xs.length xs.length)) (hx:∀j x,xs[j]? = some x→W.cell? ⟨B,j,none⟩=some (.string x))
  (hn:xs.length≤1000) (b3:(qab xs).size≤1024)
  (a2:qhm W b 4 q1w (qsw g) (qi9 R U M O P))
  (z:¬S R∧¬S M∧¬S O∧¬S P∧¬S b∧¬S B) (y:R≠M∧U≠M∧O≠M∧P≠M∧b≠M∧B≠M) (b6:B<W.heap.size) (b7:b<W.heap.size) (X:M≠4∧M≠1) :
  Calls Tryz.prog 66 #[.pointer (some ⟨g,0,none⟩),.slice (some ⟨b,0,none⟩) 4 4] W fun e w'=>Upd (fun k=>S k∨k=M∨W.heap.size≤k) W w'∧qsv 4 (zbk W g S sp en lo M m l c' (qab xs) D) (zbl W g S sp en lo M m l c' D) e w':=by
 have K:=h.lt
 have a8:=hM.lt
 have V:∀ {a:World} {k:Nat},k<W.heap.size→¬S k→¬Fr S W a k:=fun o hs e=>e.elim hs (fun e=>by omega)
 have b4:∀ {a:World} {T:Nat→Prop},Upd T W a→(∀k,T k→S k∨k=M)→Tabs a:=fun u Z=>hT.upd u (fun e=>(Z _ e).elim hA.c (fun e=>X.1 e.symm)) (fun e=>(Z _ e).elim hA.d (fun e=>X.2 e.symm))
 refine qrn g b 4 q1w (qsw g) (qi9 R U M O P) (fun k=>S k∨k=M∨W.heap.size≤k) _ _ W (by decide) (o.dead▸qk h.at_ 6) a2 ?_ ?_ ?_
 ·rintro (e | e | e)
  ·exact z.2.2.2.2.1 e
  ·exact y.2.2.2.2.1 e
  ·omega
 ·intro i hi a hC;rcases (by omega:i=0∨i=1∨i=2∨i=3) with rfl | rfl | rfl | rfl
  ·refine⟨enters_of Tryz.func87 (by kernel_rfl) rfl,?_⟩;have E:qq W a:=hC;refine(q09 g a (o.waits▸qk (h.new E).at_ 8)).mono ?_;rintro e C ⟨rfl,rfl⟩;exact⟨Upd.refl _ _,.inl ⟨rfl,E⟩⟩
  ·refine⟨enters_of Tryz.func88 (by kernel_rfl) rfl,?_⟩;have E:qq W a:=hC;have t:=hM.new E;refine(q1u U M en SC F fs v m D c' MsgV.zero a b2 (E.cell cC (fun h=>h)) t (fun e=>z.2.1 (h.inC _ e)) b1 (hF a E)).mono ?_;rintro e C ⟨rfl,a7,a1,u1,b0,q⟩;have h1:=(h.new E).chan u1 b0;have z0:=E.size;have z1:=u1.size;have z2:=q.size;have J:=h1.upd q (fun k o e=>by
    rcases o with o | o
    ·exact z.2.1 (e▸o)
    ·omega)
   have h3:LkP C g (Fr S W C) {l with c:=c'} sp en lo (Fr SC a a1) SJ:=J.wider (fun k o=>o.elim .inl (fun e=> .inr ⟨by omega,by omega⟩)) (fun k o=>o.elim (fun e=>by have:=K k e;omega) (fun e=>e.2));have u:Upd (fun k=>S k∨k=M) W C:=((E.mono (fun _ _ h=>h.elim)).trans (u1.mono (fun k _ e=> .inl (h.inC k e)))).trans (q.mono (fun k _ e=> .inr e));have st:ActSt W g S sp en lo M m {l with c:=c'} C:=⟨u,a7,_,_,h3⟩;refine⟨(u1.mono (fun k _ e=> .inl (h.inC k e))).trans (q.mono (fun k _ e=> .inr (.inl e))),?_⟩;by_cases N:D=0
   ·subst N;exact .inl ⟨rfl,rfl,st⟩
   ·exact .inr ⟨D,N,rfl,rfl,st⟩
  ·refine⟨enters_of Tryz.func112 (by kernel_rfl) rfl,?_⟩;obtain⟨N,u,t,H,I,hl⟩:D=0∧ActSt W g S sp en lo M m {l with c:=c'} a:=hC;have z0:=u.size;have nT:∀k,k<W.heap.size→¬S k→k≠M→¬(S k∨k=M):=fun k _ h1 J e=>e.elim h1 J
   have Y:=World.block_lt_of_cell? W _ c0;refine(qqd O P B g (Fr S W a) {l with c:=c'} sp en lo H I xs a hl o.dead o.fused o.off ⟨o.many.1,by have:=o.many.2;show l.j.many<_;omega⟩ (by have:=o.len;show l.j.bs.size≤_;omega) (b4 u (fun k h=>h)) hn b3
    (u.cell c0 (fun e=>e.elim z.2.2.1 y.2.2.1)) (u.cell c1 (fun e=>e.elim z.2.2.2.1 y.2.2.2.1)) (fun j x e=>u.cell (hx j x e) (fun e=>e.elim z.2.2.2.2.2 y.2.2.2.2.2)) (by omega) (V Y z.2.2.1)).mono ?_
   rintro e C ⟨rfl,⟨b5,J⟩,q⟩;have z2:=q.size;refine⟨q.mono (fun k o e=>e.elim .inl (fun e=> .inr (.inr e.1))),.inl ⟨rfl,N,⟨?_,?_,?_⟩⟩⟩
   ·exact u.then q (fun k o e=>e.elim .inl (fun e=>by omega))
   ·exact t.upd q (V a8 z.2.1)
   ·exact⟨_,_,J.wider (fun k o=>o.elim (fun e=>e.elim .inl (fun e=> .inr ⟨e.1,by omega⟩)) (fun e=> .inr ⟨by omega,e.2⟩)) (fun k o=>o.elim (fun e=>by have:=K k e;omega) (fun e=>e.2))⟩
  ·refine⟨enters_of Tryz.func89 (by kernel_rfl) rfl,?_⟩;obtain⟨N,u,t,H,I,hl⟩:D=0∧ActSt W g S sp en lo M m {l with c:=c',j:=l.j.app (qab xs)} a:=hC;have z0:=u.size;have hg:=hl.inG;refine(q1v R M g (Fr S W a) _ sp en lo H I m a hl (a6 N) (by have:=o.out;show l.out.size≤_;omega) (u.cell cL (fun e=>e.elim z.1 y.1)) t).mono ?_;rintro e C ⟨rfl,J,q⟩;have z2:=q.size;refine⟨q.mono (fun k o e=> .inl (e▸h.inG)),.inl ⟨rfl,N,⟨?_,?_,?_⟩⟩⟩
   ·exact u.trans (q.mono (fun k o e=> .inl (e▸h.inG)))
   ·exact t.upd q (fun e=>z.2.1 (e▸h.inG))
   ·exact⟨_,_,J.wider (fun k o=>o.elim .inl (fun e=> .inr ⟨e.1,by omega⟩)) (fun k o=>o.elim (fun e=>by have:=K k e;omega) (fun e=>e.2))⟩
 ·exact Upd.refl _ _
attribute [local go_sem ↓ high] ze zf zg zj qak
attribute [local go_sem] qau qav qaw qy zz qck
def LkE(w:World)(g:Nat)(S:Nat→Prop)(sp en lo:Nat)(l:Lk):Prop:=∃i m,LkP w g S l sp en lo i m
theorem LkE.upd{w w':World}{g:Nat}{S T:Nat→Prop}{sp en lo:Nat}{l:Lk}(h:LkE w g S sp en lo l)(u:Upd T w w')(hd:∀k,S k→¬T k):LkE w' g S sp en lo l:=by
 obtain⟨i,m,h⟩:=h;exact⟨i,m,h.upd u hd⟩
theorem LkE.new{w w':World}{g:Nat}{S:Nat→Prop}{sp en lo:Nat}{l:Lk}(h:LkE w g S sp en lo l)(u:qq w w'):LkE w' g S sp en lo l:=h.upd u (fun _ _ h=>h)
theorem LkE.wider{w:World}{g:Nat}{S T:Nat→Prop}{sp en lo:Nat}{l:Lk}(h:LkE w g S sp en lo l)(q:∀k,S k→T k)(o:∀k,T k→k<w.heap.size):LkE w g T sp en lo l:=by
 obtain⟨i,m,h⟩:=h;exact⟨i,m,h.wider q o⟩
theorem qdm{S:Nat→Prop}{o m W wx:World}{g K sp en lo:Nat}{L:Lk}(l:LkE W g (Fr S m W) sp en lo L)(x:Upd (· = K) W wx)(q:∀k,S k→k<o.heap.size)(t:o.heap.size≤K)(v:K<m.heap.size)(w:m.heap.size≤W.heap.size):LkE wx g (Fr S o wx) sp en lo L:=by
 have y:=x.size;refine(l.upd x (fun k i e=> ?_)).wider (fun k i=> ?_) (fun k i=> ?_)
 ·rcases i with i | i
  ·have:=q k i;omega
  ·omega
 ·rcases i with i | i
  ·exact .inl i
  ·exact .inr ⟨by omega,by omega⟩
 ·rcases i with i | i
  ·have:=q k i;omega
  ·exact i.2
theorem qnu{S:Nat→Prop}{m q o W wx:World}{g K sp en lo:Nat}{L:Lk}(l:LkE W g (Fr S q o) sp en lo L)(x:Upd (· = K) W wx)(t:∀k,S k→k<m.heap.size)(v:m.heap.size≤q.heap.size)(w:o.heap.size≤K∧m.heap.size≤K)(y:o.heap.size≤W.heap.size∧m.heap.size≤W.heap.size):LkE wx g (Fr S m wx) sp en lo L:=by
 have z:=x.size;refine(l.upd x (fun k i e=> ?_)).wider (fun k i=> ?_) (fun k i=> ?_)
 ·rcases i with i | i
  ·have:=t k i;omega
  ·omega
 ·rcases i with i | i
  ·exact .inl i
  ·exact .inr ⟨by omega,by omega⟩
 ·rcases i with i | i
  ·have:=t k i;omega
  ·exact i.2
theorem qgv(z:World):∃K W,z.alloc (.cells MsgV.zero.cells.toArray 101)=W∧z.heap.size=K∧qq z W∧MsB W K MsgV.zero:=⟨_,_,rfl,rfl,(Upd.refl _ _).alloc _,qa6 z MsgV.zero qu⟩
theorem qer(z:World)(C:Array Value):∃B W,z.alloc (.cells C 9)=W∧z.heap.size=B∧qq z W∧W.heap[B]? = some (.cells C 9 (0,0))∧B<W.heap.size:=⟨_,_,rfl,rfl,(Upd.refl _ _).alloc _,ql z _,by rw[World.size_alloc];omega⟩
theorem LkE.end_{w:World}{g:Nat}{S:Nat→Prop}{sp en lo:Nat}{l:Lk}(h:LkE w g S sp en lo l):w.cell? ⟨g,1,none⟩=some (.pointer (some ⟨en,0,none⟩)):=by
 obtain⟨i,m,h⟩:=h;exact qk h.at_ 1
theorem LkE.s{w:World}{g:Nat}{S:Nat→Prop}{sp en lo:Nat}{l:Lk}(h:LkE w g S sp en lo l):LkS w g S l:=by
 obtain⟨i,m,h⟩:=h;exact⟨sp,en,lo,i,m,h⟩
def q9g(sp en lo:Nat)(g:Nat)(S:Nat→Prop)(l:Lk)(m:MsgV)(i:Int)(c':Ch)(rec:ByteArray)(w:World)(e:Ending)(w':World):Prop :=
 Upd S w w'∧((i≠0∧e = .returned (.tuple #[.agg MsgV.zero.cells.toArray,.int .i64 i])∧LkE w' g (Fr S w w') sp en lo {l with c:=c'}) ∨
  (i=0∧e = .returned (.tuple #[.agg m.cells.toArray,.int .i64 0])∧LkE w' g (Fr S w w') sp en lo (l.says c' rec m)))
theorem q6l(g B:Nat)(S:Nat→Prop)(l:Lk)(sp en lo:Nat)(SC SJ:Nat→Prop)(F:FuncId)(fs q:Array Value)(m:MsgV)(er:Int)(c':Ch)(xs:List ByteArray)(w:World)
  (h:LkP w g S l sp en lo SC SJ) (o:LkOk l) (a1:m.hash.length=32) (y:er=0→SayOk m) (hT:Tabs w) (hA:ApD S)
  (c4:∀args w,(callFunc F args).run Tryz.prog w = .ok (.enter F args) w) (U:∀a,qq w a→Calls Tryz.prog F (fs++q) a fun e a'=>SaysIt en SC m er c' e a a')
  (hx:∀j x,xs[j]? = some x→w.cell? ⟨B,j,none⟩=some (.string x)) (hn:xs.length≤1000) (c5:(qab xs).size≤1024) (c7:B<w.heap.size) (c3:¬S B) :
  Calls Tryz.prog 45 #[.pointer (some ⟨g,0,none⟩),.func (.func F) fs q,.slice (some ⟨B,0,none⟩) xs.length xs.length] w fun e w'=>q9g sp en lo g S l m er c' (qab xs) w e w':=by
 have d2:∀(fn:Fn) (first cap:Array Value) (w:World),(Instr.makeFunc fn first cap).run Tryz.prog w = .ok (.func fn first cap) w:=fun _ _ _ _=>rfl
 have b5:=qj h.lt
 have c9:=h.lt g h.inG
 obtain⟨I,C⟩:∃I,I=(((w.alloc (.cells #[.pointer (some ⟨g,0,none⟩)] 28)).alloc (.cells #[.func (.func F) fs q] 109)).alloc (.cells MsgV.zero.cells.toArray 101)).alloc (.cells MsgV.zero.cells.toArray 101):=⟨_,rfl⟩
 have n4:qq w I:=by rw[C];exact((((Upd.refl _ _).alloc _).alloc _).alloc _).alloc _
 have z4:I.heap.size=w.heap.size+4:=by rw[C];simp only[World.size_alloc]
 have bL:I.cell? ⟨w.heap.size,0,none⟩=some (.pointer (some ⟨g,0,none⟩)):=by
  rw[C];exact qk (qx (qx (qx (ql _ _) _) _) _) 0
 have bC:I.cell? ⟨w.heap.size+1,0,none⟩=some (.func (.func F) fs q):=by
  rw[C];have:=ql (w.alloc (.cells #[.pointer (some ⟨g,0,none⟩)] 28)) (.cells #[.func (.func F) fs q] 109);rw[World.size_alloc] at this;exact qk (qx (qx this _) _) 0
 have bR:MsB I (w.heap.size+2) MsgV.zero:=by
  rw[C];have:=ql ((w.alloc (.cells #[.pointer (some ⟨g,0,none⟩)] 28)).alloc (.cells #[.func (.func F) fs q] 109)) (.cells MsgV.zero.cells.toArray 101);rw[World.size_alloc,World.size_alloc] at this;exact⟨qx this _,qu⟩
 have bM:MsB I (w.heap.size+3) MsgV.zero:=by
  rw[C];have:=ql (((w.alloc (.cells #[.pointer (some ⟨g,0,none⟩)] 28)).alloc (.cells #[.func (.func F) fs q] 109)).alloc (.cells MsgV.zero.cells.toArray 101)) (.cells MsgV.zero.cells.toArray 101);rw[World.size_alloc,World.size_alloc,World.size_alloc] at this;exact⟨this,qu⟩
 have HX:=qj (And.intro h (And.intro o (And.intro y (And.intro U hx))))
 have a8:=qj (And.intro hT hA)
 clear h o y U hx hT hA
 go_enter Tryz.func45,Tryz.ntmps45
 go_upto_region 2 with fail
 rw[←C]
 have bR:MsB I (w.heap.size+1+1) MsgV.zero:=bR
 have bM:MsB I (w.heap.size+1+1+1) MsgV.zero:=bM
 have HW:=qj z4
 clear C z4
 generalize hZ:w.heap.size=Z at *
 have HZ:=qj hZ
 clear hZ
 have b7:I.drew.cell? ⟨Z,0,none⟩=some (.pointer (some ⟨g,0,none⟩)):=bL
 have HB:=qj (And.intro bL (And.intro bC (And.intro bR bM)))
 have N4:=qj n4
 clear bL bC bR bM n4
 refine qay (fun w'=>w'.cell? ⟨Z,0,none⟩=some (.pointer (some ⟨g,0,none⟩))) [0,1,4] (.of [0,1,2,3,4,5,6,7,8,9,10]) (by kernel_rfl) (by kernel_rfl) b7 ?_
 simp only[Plan.of]
 go_wp2_with ((with_reducible first|rfl|refine' ut ?_ ?_;rotate_left|refine' uu ?_)<;>intros)
 refine(qjn g _ _ _ I.drew).mono ?_
 rintro e w5 ⟨P0,P1,rfl,n5,J,K,a2,a6,d0,d1⟩
 have n5:=n5.ofDrew
 have b3:=n5.cell (qg HB).1 (fun h=>h)
 have HD:=qj (And.intro n5 (And.intro J (And.intro K (And.intro a2 (And.intro a6 (And.intro d0 d1))))))
 clear n5 J K a2 a6 d0 d1 b7
 go_wp2_with (first | ((with_reducible first|rfl|refine' ut ?_ ?_;rotate_left|refine' uu ?_)<;>intros) | refine⟨b3,?_⟩)
 have nW:qq w5 (w5.alloc (.cells #[.func (.func 87) #[.pointer (some ⟨g,0,none⟩)] #[],.func (.func 88) #[] #[.pointer (some ⟨Z+1,0,none⟩),.pointer (some ⟨Z+1+1+1,0,none⟩)],.func (.func 112) #[] #[.pointer (some ⟨P0,0,none⟩),.pointer (some ⟨P1,0,none⟩)],.func (.func 89) #[] #[.pointer (some ⟨Z,0,none⟩),.pointer (some ⟨Z+1+1+1,0,none⟩)]] 62)):=(Upd.refl _ _).alloc _
 have bW:=ql w5 (.cells #[.func (.func 87) #[.pointer (some ⟨g,0,none⟩)] #[],.func (.func 88) #[] #[.pointer (some ⟨Z+1,0,none⟩),.pointer (some ⟨Z+1+1+1,0,none⟩)],.func (.func 112) #[] #[.pointer (some ⟨P0,0,none⟩),.pointer (some ⟨P1,0,none⟩)],.func (.func 89) #[] #[.pointer (some ⟨Z,0,none⟩),.pointer (some ⟨Z+1+1+1,0,none⟩)]] 62)
 have zW:(w5.alloc (.cells #[.func (.func 87) #[.pointer (some ⟨g,0,none⟩)] #[],.func (.func 88) #[] #[.pointer (some ⟨Z+1,0,none⟩),.pointer (some ⟨Z+1+1+1,0,none⟩)],.func (.func 112) #[] #[.pointer (some ⟨P0,0,none⟩),.pointer (some ⟨P1,0,none⟩)],.func (.func 89) #[] #[.pointer (some ⟨Z,0,none⟩),.pointer (some ⟨Z+1+1+1,0,none⟩)]] 62)).heap.size=w5.heap.size+1:=World.size_alloc _ _
 generalize w5.alloc (.cells #[.func (.func 87) #[.pointer (some ⟨g,0,none⟩)] #[],.func (.func 88) #[] #[.pointer (some ⟨Z+1,0,none⟩),.pointer (some ⟨Z+1+1+1,0,none⟩)],.func (.func 112) #[] #[.pointer (some ⟨P0,0,none⟩),.pointer (some ⟨P1,0,none⟩)],.func (.func 89) #[] #[.pointer (some ⟨Z,0,none⟩),.pointer (some ⟨Z+1+1+1,0,none⟩)]] 62)=W at nW bW zW ⊢
 have b4:=nW.cell b3 (fun h=>h)
 refine⟨b4,?_⟩
 obtain⟨M,J,K,a2,a6,d0,d1⟩:=qg HD
 obtain⟨h,o,y,U,hx⟩:=qg HX
 obtain⟨hT,hA⟩:=qg a8
 have O:qq w W:=((qg N4).trans M).trans nW
 have z4:=qg HW
 have z5:=M.size
 have J:I.heap.size≤P0:=J
 have K:I.heap.size≤P1:=K
 have a7:qhm W w5.heap.size 4 q1w (qsw g) (qi9 Z (Z+1) (Z+1+1+1) P0 P1):=by
  intro i hi;rcases (by omega:i=0∨i=1∨i=2∨i=3) with rfl | rfl | rfl | rfl
  ·exact qk bW 0
  ·exact qk bW 1
  ·exact qk bW 2
  ·exact qk bW 3
 have hS:∀k,Z≤k→¬S k:=fun k o e=>by have:=qg b5 k e;omega
 have c6:=hT.lt
 have c8:=qg HZ
 have b8:=((qg HB).2.2.2.new M).new nW
 have b9:=((qg HB).2.2.1.new M).new nW
 have E:=qyv g w5.heap.size Z (Z+1) (Z+1+1+1) P0 P1 B S l sp en lo SC SJ F fs q m er c' xs W (h.new O) o a1 y (hT.new O) hA c4 (fun a na=>U a (O.trans na)) b4
  (nW.cell (M.cell (qg HB).2.1 (fun h=>h)) (fun h=>h)) b8 (nW.cell d0 (fun h=>h)) (nW.cell d1 (fun h=>h)) (fun j x e=>O.cell (hx j x e) (fun h=>h)) hn c5 a7
  ⟨hS _ (by omega),hS _ (by omega),hS _ (by omega),hS _ (by omega),hS _ (by omega),c3⟩ ⟨by omega,by omega,by omega,by omega,by omega,by omega⟩ (by omega) (by omega) ⟨by omega,by omega⟩
 have NN:=qj O
 have V:=qj b9
 have Y:=qj (And.intro z4 (And.intro z5 zW))
 have X:=qj hS
 clear a7 bW c6 b8 b9 hS O nW M J K a2 a6 d0 d1 h o y U hx hT hA z4 z5 zW HD HB b3 b4 bR bM
 generalize w5.heap.size=bb at *
 go_wp2_with ((with_reducible first|rfl|refine' ut ?_ ?_;rotate_left|refine' uu ?_)<;>intros)
 refine E.mono ?_
 rintro e w6 ⟨P,(⟨rfl,he,t⟩ | ⟨x,c0,rfl,he,t⟩)⟩
 ·have t:ActSt W g S sp en lo (Z+1+1+1) m (l.says c' (qab xs) m) w6:=t;have v:=he;have b2:=trivial;clear he;have D:=(qg V).upd P (fun e=>by
   have z:=qg Y;rcases e with e | e | e
   ·exact qg X _ (by omega) e
   ·omega
   ·omega)
  have H:=D.stOk a1;have R:=D.put a1;have N:Upd (· = Z+1+1) w6 (w6.setCells (Z+1+1) 0 m.cells):=zy _;have U:=R.at_;have rM:=t.msb.row;have HQ:=qj (And.intro P (And.intro t (And.intro N v)));clear D R N P t v E V HX a8 N4 b2;go_wp2_with ((with_reducible first|rfl|refine' ut ?_ ?_;rotate_left|refine' uu ?_)<;>intros);refine bodyPost_ret (zb rfl _ _ (Z+1+1) _ _ _ _ rfl U Tryz.underlying101 rfl (by rw[List.size_toArray,MsgV.len _ a1];exact Tryz.infoMsg)) rfl ?_;obtain⟨P,t,N,v⟩:=qg HQ;have O:=qg NN;have z:=qg Y;have zw:=qg HZ;have zn:=O.size;have z6:=P.size;have z7:=N.size;have hs:=qg X;refine⟨?_,.inr ⟨v,rfl,?_⟩⟩
  ·refine((O.mono (T:=S) (fun _ _ h=>h.elim)).then P (fun k o e=> ?_)).then N (fun k o e=>by omega);rcases e with e | e | e
   ·exact e
   ·omega
   ·omega
  ·obtain⟨b0,b1,hl⟩:=t.lk;have b6:=hl.upd N (fun k o e=>by
    rcases o with o | o
    ·exact hs _ (by omega) (e▸o)
    ·omega)
   exact⟨b0,b1,b6.wider (fun k o=>o.elim .inl (fun e=> .inr ⟨by omega,by omega⟩)) (fun k o=>o.elim (fun e=>by have:=qg b5 k e;omega) (fun e=>e.2))⟩
 ·have he:x=er:=he;subst he;have v:=c0;have b2:=trivial;have D:=(qg V).upd P (fun e=>by
   have z:=qg Y;rcases e with e | e | e
   ·exact qg X _ (by omega) e
   ·omega
   ·omega)
  have H:=D.stOk (k:=MsgV.zero) qu;have R:=D.put (k:=MsgV.zero) qu;have N:Upd (· = Z+1+1) w6 (w6.setCells (Z+1+1) 0 MsgV.zero.cells):=zy _;have U:=R.at_;have HQ:=qj (And.intro P (And.intro t (And.intro N v)));clear D R N P t v E V HX a8 N4 b2;have c2:=qj H;have c1:=qj U;clear H U;go_upto_if 21 with ((with_reducible first|rfl|refine' ut ?_ ?_;rotate_left|refine' uu ?_)<;>intros);refine wp_cond_true (show _=Value.bool true from congrArg Value.bool (show (x != 0)=true by simpa using c0)) ?_;have H:=qg c2;go_wp2_with ((with_reducible first|rfl|refine' ut ?_ ?_;rotate_left|refine' uu ?_)<;>intros);refine bodyPost_ret (zb rfl _ _ (Z+1+1) _ _ _ _ rfl (qg c1) Tryz.underlying101 rfl (by rw[List.size_toArray,MsgV.len _ qu];exact Tryz.infoMsg)) rfl ?_;obtain⟨P,t,N,v⟩:=qg HQ;have O:=qg NN;have z:=qg Y;have zw:=qg HZ;have zn:=O.size;have z6:=P.size;have z7:=N.size;have hs:=qg X;refine⟨?_,.inl ⟨v,rfl,?_⟩⟩
  ·refine((O.mono (T:=S) (fun _ _ h=>h.elim)).then P (fun k o e=> ?_)).then N (fun k o e=>by omega);rcases e with e | e | e
   ·exact e
   ·omega
   ·omega
  ·obtain⟨b0,b1,hl⟩:=t.lk;have b6:=hl.upd N (fun k o e=>by
    rcases o with o | o
    ·exact hs _ (by omega) (e▸o)
    ·omega)
   exact⟨b0,b1,b6.wider (fun k o=>o.elim .inl (fun e=> .inr ⟨by omega,by omega⟩)) (fun k o=>o.elim (fun e=>by have:=qg b5 k e;omega) (fun e=>e.2))⟩
end
end Go.Proofs.YtfmkdoachjgjbaaGreatDoor
