/-
  A link: ready, note, send.
-/
import Derived.Test.YtfmkdoachjgjbaaGreatDoorMce
import Derived.Test.YtfmkdoachjgjbaaGreatDoorSgn
set_option linter.unusedVariables false
set_option linter.unusedSimpArgs false
namespace Go.Proofs.YtfmkdoachjgjbaaGreatDoor
open Go.RowKit
set_option maxHeartbeats 1000000 in
theorem q2f(g:Nat)(w:World)(f:w.cell? ⟨g,8,none⟩=some (.bool false)):Calls Tryz.prog 87 #[.pointer (some ⟨g,0,none⟩)] w fun e w'=>e = .returned (.int .i64 0)∧w=w':=by
 go_enter Tryz.func87,Tryz.ntmps87;go_wp2_with fail;go_ret;exact⟨rfl,rfl⟩
set_option maxHeartbeats 1000000 in
theorem qot(g:Nat)(i:Option Addr)(q m:Nat)(w:World):Calls Tryz.prog 69 #[.pointer (some ⟨g,0,none⟩),.slice i q m] w fun e w'=>∃C E,e = .returned (.func (.func 112) #[] #[.pointer (some ⟨C,0,none⟩),.pointer (some ⟨E,0,none⟩)])∧qq w w'∧w.heap.size≤C∧w.heap.size≤E∧C<w'.heap.size∧E<w'.heap.size∧w'.cell? ⟨C,0,none⟩=some (.pointer (some ⟨g,0,none⟩))∧w'.cell? ⟨E,0,none⟩=some (.slice i q m):=by
 have I:∀(H:Fn) (first cap:Array Value) (w:World),(Instr.makeFunc H first cap).run Tryz.prog w = .ok (.func H first cap) w:=fun _ _ _ _=>rfl
 go_enter Tryz.func69,Tryz.ntmps69;go_upto_region 1 with fail;have v:qq w (w.alloc (.cells #[.pointer (some ⟨g,0,none⟩)] 28)):=(Upd.refl _ _).alloc _;have b1:=qj w (.cells #[.pointer (some ⟨g,0,none⟩)] 28);have z:(w.alloc (.cells #[.pointer (some ⟨g,0,none⟩)] 28)).heap.size=w.heap.size+1:=World.size_alloc _ _;generalize w.alloc (.cells #[.pointer (some ⟨g,0,none⟩)] 28)=w1 at v b1 z ⊢;have f:qq w1 (w1.alloc (.cells #[.slice i q m] 163)):=(Upd.refl _ _).alloc _;have b2:=qj w1 (.cells #[.slice i q m] 163);have F:(w1.alloc (.cells #[.slice i q m] 163)).heap.size=w1.heap.size+1:=World.size_alloc _ _;generalize w1.alloc (.cells #[.slice i q m] 163)=J at f b2 F ⊢;rw[z] at b2;have N:=qb (And.intro v (And.intro f (And.intro b1 (And.intro b2 (And.intro z F)))));clear v f b1 b2 z F;go_wp2_with fail;go_ret;obtain⟨v,f,b1,b2,z,F⟩:=qa N;exact⟨_,_,rfl,v.trans f,Nat.le_refl _,by omega,by omega,by omega,qg (f.old b1 (fun h=>h)) 0,qg b2 0⟩
set_option maxRecDepth 100000 in
set_option maxHeartbeats 2000000 in
theorem q1o(F O I g:Nat)(S:Nat→Prop)(l:Lk)(sp en lo:Nat)(SC SJ:Nat→Prop)(xs:List ByteArray)(w:World)(h:LkP w g S l sp en lo SC SJ)(hd:l.dead=false)(hf:l.j.fused=false)(ho:l.j.off=false)
  (hm:0≤l.j.many∧l.j.many<1099511627776) (C:l.j.bs.size≤1099511627776) (hT:Tabs w) (hn:xs.length≤1000) (U:(zx xs).size≤1024)
  (c0:w.cell? ⟨F,0,none⟩=some (.pointer (some ⟨g,0,none⟩))) (c1:w.cell? ⟨O,0,none⟩=some (.slice (some ⟨I,0,none⟩) xs.length xs.length)) (hx:∀j x,xs[j]? = some x→w.cell? ⟨I,j,none⟩=some (.string x)) (T:I<w.heap.size) (hP:¬S F) :
  Calls Tryz.prog 112 #[.pointer (some ⟨F,0,none⟩),.pointer (some ⟨O,0,none⟩)] w fun e w'=>e = .returned (.int .i64 0)∧(∃a6,LkP w' g (Fr S w w') {l with j:=l.j.app (zx xs)} sp en lo SC a6)∧Upd S w w':=by
 have c2:w.cell? ⟨g,2,none⟩=some (.pointer (some ⟨lo,0,none⟩)):=qg h.at_ 2
 have i:=fun w' (v:qq w w')=>qt8 I xs w' (fun j x e=>v.cell (hx j x e) (fun h=>h)) (Nat.lt_of_lt_of_le T v.size) hn (by omega)
 have z:=fun b w' (v:qq w w') hb hS=>qmn lo b SJ l.j (zx xs) w' (h.jou.new v) hf ho U hm C (hT.new v) hb hS
 have L:(w.cell? ⟨F,0,none⟩=some (.pointer (some ⟨g,0,none⟩)))∧(w.cell? ⟨g,2,none⟩=some (.pointer (some ⟨lo,0,none⟩)))∧w.cell? ⟨O,0,none⟩=some (.slice (some ⟨I,0,none⟩) xs.length xs.length):=⟨c0,c2,c1⟩
 have HC:=qb L
 have H:=qb h
 have m:∀w',qq w w'→(w'.cell? ⟨F,0,none⟩=some (.pointer (some ⟨g,0,none⟩)))∧(w'.cell? ⟨g,2,none⟩=some (.pointer (some ⟨lo,0,none⟩)))∧w'.cell? ⟨O,0,none⟩=some (.slice (some ⟨I,0,none⟩) xs.length xs.length):=fun w' v=>⟨v.cell L.1 (fun h=>h),v.cell L.2.1 (fun h=>h),v.cell L.2.2 (fun h=>h)⟩
 have Y:=qb h.jou.lt
 generalize hJ:zx xs=J at *
 clear h c0 c1 c2 hx hn U T hm C hT hJ
 go_enter Tryz.func112,Tryz.ntmps112
 go_upto_region 1 with fail
 refine qa2 (fun w'=>(w'.cell? ⟨F,0,none⟩=some (.pointer (some ⟨g,0,none⟩)))∧(w'.cell? ⟨g,2,none⟩=some (.pointer (some ⟨lo,0,none⟩)))∧w'.cell? ⟨O,0,none⟩=some (.slice (some ⟨I,0,none⟩) xs.length xs.length)) [0,3,4] (.of [0,1,2,3,4,5,6,7,8]) (by kernel_rfl) (by kernel_rfl) L ?_
 simp only[Plan.of]
 have k0:=m _ ((Upd.refl (fun _=>False) w).drew)
 clear L
 go_wp2_with (with_reducible first|(first|refine' zy (qh ?_) ?_|refine' zz (qh ?_) ?_|refine' qw3 (qh ?_) ?_);rotate_left|refine' qw4 (qh ?_)|refine' qw5 (qh ?_)|rfl|apply qn)
 refine(i _ ((Upd.refl (fun _=>False) w).drew)).mono ?_
 rintro e w1 ⟨rfl,M⟩
 have M:=M.ofDrew
 have k1:=m _ M
 clear i k0
 go_wp2_with (first | (with_reducible first|(first|refine' zy (qh ?_) ?_|refine' zz (qh ?_) ?_|refine' qw3 (qh ?_) ?_);rotate_left|refine' qw4 (qh ?_)|refine' qw5 (qh ?_)|rfl|apply qn) | refine⟨k1,?_⟩)
 have E:qq w (w1.alloc (.cells #[.string J] 9)):=M.alloc _
 have V:qq w1 (w1.alloc (.cells #[.string J] 9)):=(Upd.refl _ _).alloc _
 have b2:=qg (qj w1 (.cells #[.string J] 9)) 0
 have k2:=m _ E
 have a8:=M.size
 generalize w1.alloc (.cells #[.string J] 9)=w2 at E V b2 k2 ⊢
 refine⟨k2,?_⟩
 generalize hB:w1.heap.size=B at b2 ⊢
 have f:=z B w2 E b2 (fun e=>by have:=(qa Y) B e;omega)
 have N2:=qb E
 clear z M E V k1 b2 hB a8
 go_wp2_with (first | (with_reducible first|(first|refine' zy (qh ?_) ?_|refine' zz (qh ?_) ?_|refine' qw3 (qh ?_) ?_);rotate_left|refine' qw4 (qh ?_)|refine' qw5 (qh ?_)|rfl|apply qn) | refine⟨k2,?_⟩)
 refine f.mono ?_
 rintro e X ⟨rfl,P,K⟩
 have N:=(qa N2)
 have q:=((qa H).new N).jour K P
 have d0:X.cell? ⟨F,0,none⟩=some (.pointer (some ⟨g,0,none⟩)):=K.cell k2.1 (fun e=>hP ((qa H).inJ _ e))
 have d6:=qu q.at_ 6
 have b3:X.cell? ⟨g,6,none⟩=some (.bool false):=hd▸qg q.at_ 6
 have R:=q.put_dead false
 have W:Upd (· = g) X (X.setCell ⟨g,6,none⟩ (.bool false)):=(Upd.refl _ _).set1 _ _
 have Z:=qb R
 have U3:=qb K
 have U4:=qb W
 have K2:=qb k2
 clear f P N q R K W k2 m
 go_wp2_with (first | (with_reducible first|(first|refine' zy (qh ?_) ?_|refine' zz (qh ?_) ?_|refine' qw3 (qh ?_) ?_);rotate_left|refine' qw4 (qh ?_)|refine' qw5 (qh ?_)|rfl|apply qn) | (with_reducible first|(first|refine' tw1 (qh ?_) ?_|refine' tw2 (qh ?_) ?_);rotate_left|refine' tw3 (qh ?_)|rfl|apply tn|refine' tw4 ?_) | refine⟨trivial,?_⟩)
 go_ret
 have E:=qa N2
 have K:=qa U3
 have W:=qa U4
 have z2:=E.size
 have z3:=K.size
 have z4:=W.size
 have h:=qa H
 have a7:=h.lt
 have e:({l with j:=l.j.app J} : Lk)=⟨l.c,l.j.app J,l.rest,l.out,l.ev,l.ticks,false,l.broken,l.waits⟩:=by rw[←hd]
 refine⟨rfl,⟨Fr SJ w2 X,?_⟩,?_⟩
 ·rw[e];refine(qa Z).wider ?_ ?_
  ·rintro k (m | m)
   ·exact .inl m
   ·exact .inr ⟨by omega,by omega⟩
  ·rintro k (m | m)
   ·have:=a7 k m;omega
   ·exact m.2
 ·exact((E.mono (fun _ _ h=>h.elim)).trans (K.mono (fun k _ e=>h.inJ k e))).trans (W.mono (fun k _ e=>by rw[e];exact h.inG))
def qeb(m:MsgV):ByteArray:=match fieldsOf m.kind with | some xs=>qcw (qia xs m) | none=>⟨#[]⟩
structure SayOk(m:MsgV):Prop where
 put:PutOk m
 may:qap m=true
 kind:0≤m.kind∧m.kind<256
theorem q9h(xs:List Fld)(m:MsgV)(s:ByteArray):s.size≤(qen xs m s).size:=by
 induction xs generalizing s with
 | nil=>exact Nat.le_refl _
 | cons x xs f =>
  have:=f (s++x.put m);rw[ByteArray.size_append] at this;show s.size≤(qen xs m (s++x.put m)).size;omega
theorem qjt{k:Int}{xs:List Fld}(h:fieldsOf k=some xs):xs.length≤5:=by
 unfold fieldsOf at h
 repeat' (split at h)
 all_goals first
  | (injection h with h;subst h;decide)
  | cases h
theorem SayOk.say{m:MsgV}(h:SayOk m):∃xs,fieldsOf m.kind=some xs∧qeb m=qcw (qia xs m)∧0<(qia xs m).size∧(qia xs m).size≤1024:=by
 cases e:fieldsOf m.kind with
 | none=>have:=h.may;rw[qug e] at this;cases this
 | some xs =>
  have q:=qjt e;have f:=qjl m h.put.ok.len xs (qx m.kind.toNat 1);have i:=q9h xs m (qx m.kind.toNat 1);rw[qaq] at f i;refine⟨xs,rfl,by unfold qeb;rw[e],?_,?_⟩
  ·show 0<(qen xs m (qx m.kind.toNat 1)).size;omega
  ·show (qen xs m (qx m.kind.toNat 1)).size≤1024;omega
theorem qdy(s:ByteArray):(qcw s).size=2+s.size:=by
 unfold qcw;rw[ByteArray.size_append,strOfNums_size];rfl
theorem SayOk.size{m:MsgV}(h:SayOk m):2<(qeb m).size∧(qeb m).size≤1026:=by
 obtain⟨xs,-,e,f,i⟩:=h.say;rw[e,qdy];omega
def qam(f:List MsgV)(out:ByteArray):ByteArray:=f.foldl (fun s m=>s++qeb m) out
theorem qqy{f:List MsgV}{i:Nat}{m:MsgV}(h:f[i]? = some m)(out:ByteArray):qam (f.take (i+1)) out=qam (f.take i) out++qeb m:=by
 unfold qam;rw[List.take_add_one,h,List.foldl_append];rfl
theorem qg8(out:ByteArray):∀(f:List MsgV),(∀m∈f,SayOk m)→∀out:ByteArray,(qam f out).size≤out.size+1026*f.length
 | [],_,out=>Nat.le_refl _
 | m::f,h,o=>by
  have i:=qg8 out f (fun m q=>h m (List.mem_cons_of_mem _ q)) (o++qeb m);have v:=(h m (List.mem_cons_self ..)).size;rw[ByteArray.size_append] at i;show (qam f (o++qeb m)).size≤_;rw[List.length_cons];omega
set_option maxRecDepth 100000 in
set_option maxHeartbeats 2000000 in
theorem qmi(m:MsgV)(h:SayOk m)(w:World):∃t,0<t.size∧t.size≤1024∧qeb m=qcw t∧Calls Tryz.prog 115 #[.agg m.cells.toArray] w (qa5 (.tuple #[.string t,.int .i64 0]) w):=by
 obtain⟨xs,f,e,i,q⟩:=h.say;exact⟨_,i,q,e,qwc m xs h.put f h.kind (qhn f) h.may w⟩
attribute [local go_sem ↓ high] qz zb zc
attribute [local go_sem] qaw qax qa1 qw
set_option maxRecDepth 100000 in
set_option maxHeartbeats 2000000 in
theorem q60(g B:Nat)(S:Nat→Prop)(l:Lk)(sp en lo:Nat)(SC SJ:Nat→Prop)(f:List MsgV)(w:World)(h:LkP w g S l sp en lo SC SJ)(V:∀m∈f,SayOk m)(hn:f.length≤1000)(hz:l.out.size≤1099511627776)
  (hr:∀i m,f[i]? = some m→zg w B (i*38) 38=some m.cells.toArray) (hB:B≠g) :
  Calls Tryz.prog 72 #[.pointer (some ⟨g,0,none⟩),.slice (some ⟨B,0,none⟩) f.length f.length] w fun e w'=>e = .returned (.int .i64 0)∧LkP w' g S {l with out:=qam f l.out} sp en lo SC SJ∧Upd (· = g) w w':=by
 have b7:(f.length:Int)≤1000:=by omega
 have b5:=h.lt g h.inG
 have H:=qb h
 have HR:=qb hr
 have HM:=qb V
 clear h hr V
 go_enter Tryz.func72,Tryz.ntmps72
 go_wp2_with fail
 go_loopw [13] (fun iv wr=>∃i:Nat,iv = .int .i64 (i:Int)∧i≤f.length∧Hid (LkP wr g S {l with out:=qam (f.take i) l.out} sp en lo SC SJ)∧Upd (· = g) w wr) (fun iv _=>f.length-(intOf iv).toNat)
 case atStart=>exact⟨0,rfl,Nat.zero_le _,H,Upd.refl _ _⟩
 case round =>
  obtain⟨i,rfl,hi,hC,u⟩:=hrel;obtain⟨F,rfl⟩:∃F:World,F=wr:=⟨_,rfl⟩;by_cases L:i<f.length
  ·have b6:(i:Int)<(f.length:Int):=by omega
   have T:f[i]? = some f[i]:=List.getElem?_eq_getElem L;generalize f[i]=m at T;have q:=qa HM m (List.mem_of_getElem? T);have rB:=qav (qa HR i m T) u hB;have a7:=q.put.ok.len;have U:=qb u;have HX:=qb T;have X:=qb q;clear u T q;obtain⟨P,z,W⟩:=qix F m a7;go_upto_region 4 with fail;change Code.wp _ _ _ _ (qjw F m);generalize qjw F m=w1 at z W ⊢;generalize F.heap.size=K at z P ⊢;have rK:=z.row;obtain⟨t,a8,b3,R,E⟩:=qmi m (qa X) w1;have v:=fun w'=>quw t w' a8 b3
   have hP:=(qa hC).new W;have U1:=qb ((qa U).trans (W.mono (fun _ _ h=>h.elim)));have M:=qg8 ⟨#[]⟩ (f.take i) (fun m V=>qa HM m (List.mem_of_mem_take V)) l.out;have N:(qam (f.take i) l.out).size≤1099512653776:=by
    rw[List.length_take] at M;omega
   have a6:(qcw t).size≤1026:=by rw[qdy];omega
   generalize hO:qam (f.take i) l.out=O at hP N;have HO:=qb hO;have Y:=qb hP;have I:=qb R;generalize qcw t=ft at v a6 I;clear P z W hC U hP M hO R;go_wp2_with fail;refine E.mono ?_;rintro e w2 ⟨rfl,n2⟩;have Y:=qb ((qa Y).new n2);have U2:=qb ((qa U1).trans (n2.mono (fun _ _ h=>h.elim)));clear E rK n2;go_wp2_with fail;refine(v w2).mono ?_;rintro e w3 ⟨rfl,n3⟩;have C:=(qa Y).new n3;have U3:=qb ((qa U2).trans (n3.mono (fun _ _ h=>h.elim)));have c3:w3.cell? ⟨g,3,none⟩=some (.string O):=qg C.at_ 3;have f3:=qu C.at_ 3;have J:=C.put_out (O++ft);have u4:Upd (· = g) w3 (w3.setCell ⟨g,3,none⟩ (.string (O++ft))):=(Upd.refl _ _).set1 _ _;have Z:=qb J;have U4:=qb ((qa U3).trans u4);have b4:O.size+ft.size≤9223372036854775807:=by omega
   clear v n3 C J u4;go_wp2_with fail;go_roundw
   case rel =>
    refine⟨i+1,by go_num,L,?_,qa U4⟩;have e1:=qqy (qa HX) l.out;rw[qa HO,qa I] at e1;rw[e1];exact Z
   case measure=>simp[intOf];omega
  ·obtain rfl:i=f.length:=by omega
   have U:=qb u;clear u;go_wp2_with fail;go_ret;refine⟨rfl,?_,qa U⟩;have:=qa hC;rw[List.take_length] at this;exact this
end Go.Proofs.YtfmkdoachjgjbaaGreatDoor
namespace Go.Proofs.YtfmkdoachjgjbaaGreatDoor
open Go.RowKit
attribute [local go_sem ↓ high] qz zb zc zf qah
attribute [local go_sem] qaw qax qa1 qw zt qcl
structure SaysIt(en:Nat)(SC:Nat→Prop)(m:MsgV)(er:Int)(c':Ch)(e:Ending)(a a':World):Prop where
 ret:e = .returned (.tuple #[.agg m.cells.toArray,.int .i64 er])
 chn:ChS a' en (Fr SC a a') c'
 upd:Upd SC a a'
set_option maxRecDepth 100000 in
set_option maxHeartbeats 2000000 in
theorem q3b(I M en:Nat)(z:Nat→Prop)(F:FuncId)(J i:Array Value)(m:MsgV)(er:Int)(c':Ch)(T:MsgV)(w:World)(v:m.hash.length=32)
  (P:w.cell? ⟨I,0,none⟩=some (.func (.func F) J i)) (L:MsB w M T) (H:¬z M) (R:∀args w,(callFunc F args).run Tryz.prog w = .ok (.enter F args) w)
  (K:Calls Tryz.prog F (J++i) w fun e w'=>SaysIt en z m er c' e w w') :
  Calls Tryz.prog 88 #[.pointer (some ⟨I,0,none⟩),.pointer (some ⟨M,0,none⟩)] w fun e w'=>e = .returned (.int .i64 er)∧MsB w' M m∧∃a,Upd z w a∧ChS a en (Fr z w a) c'∧Upd (· = M) a w':=by
 have N:=qb L
 clear L
 go_enter Tryz.func88,Tryz.ntmps88
 go_wp2_with (with_reducible first|(first|refine' tw1 (qh ?_) ?_|refine' tw2 (qh ?_) ?_);rotate_left|refine' tw3 (qh ?_)|rfl|apply tn|refine' tw4 ?_)
 refine K.mono ?_
 rintro e w1 ⟨rfl,C,u⟩
 have q:=(qa N).upd u H
 have S:=q.stOk v
 have f:=q.put v
 have E:Upd (· = M) w1 (w1.setCells M 0 m.cells):=zj _
 have O:=qb (And.intro C (And.intro u (And.intro f E)))
 clear C u q f E K
 go_wp2_with (with_reducible first|(first|refine' tw1 (qh ?_) ?_|refine' tw2 (qh ?_) ?_);rotate_left|refine' tw3 (qh ?_)|rfl|apply tn|refine' tw4 ?_)
 go_ret
 obtain⟨C,u,f,E⟩:=qa O
 exact⟨rfl,f,w1,u,C,E⟩
set_option maxRecDepth 100000 in
set_option maxHeartbeats 2000000 in
theorem q3c(K M g:Nat)(S:Nat→Prop)(l:Lk)(sp en lo:Nat)(v z:Nat→Prop)(m:MsgV)(w:World)(h:LkP w g S l sp en lo v z)(E:SayOk m)(X:l.out.size≤1099511627776)
  (Z:w.cell? ⟨K,0,none⟩=some (.pointer (some ⟨g,0,none⟩))) (C:MsB w M m) :
  Calls Tryz.prog 89 #[.pointer (some ⟨K,0,none⟩),.pointer (some ⟨M,0,none⟩)] w fun e w'=>e = .returned (.int .i64 0)∧LkP w' g S {l with out:=l.out++qeb m} sp en lo v z∧Upd (· = g) w w':=by
 have rM:=C.row
 have U:=h.lt g h.inG
 have N:=fun w' (Y:qq w w') B T W=>q60 g B S l sp en lo v z [m] w' (h.new Y) (fun x q=>by rw[List.mem_singleton.1 q];exact E) (by simp) X W T
 have H:=qb h
 have f:=E.put.ok.len
 have V:=m.len f
 have P:=qb C
 have b1:=qai w m f
 have F:qq w (w.alloc (.cells m.cells.toArray 101)):=(Upd.refl _ _).alloc _
 have I:=qb (N _ F w.heap.size (by omega) (fun i x q=>by
  cases i with
  | zero =>
   obtain rfl:m=x:=by simpa using q
   exact b1.row
  | succ i=>simp at q))
 have R:=qb F
 clear h C E N b1 F
 go_enter Tryz.func89,Tryz.ntmps89
 go_wp2_with (with_reducible first|(first|refine' tw1 (qh ?_) ?_|refine' tw2 (qh ?_) ?_);rotate_left|refine' tw3 (qh ?_)|rfl|apply tn|refine' tw4 ?_)
 refine(qa I).mono ?_
 rintro e w2 ⟨rfl,L,O⟩
 have J:=qb (And.intro L O)
 clear L O I
 go_wp2_with (with_reducible first|(first|refine' tw1 (qh ?_) ?_|refine' tw2 (qh ?_) ?_);rotate_left|refine' tw3 (qh ?_)|rfl|apply tn|refine' tw4 ?_)
 go_ret
 exact⟨rfl,(qa J).1,((qa R).mono (fun _ _ h=>h.elim)).trans (qa J).2⟩
end Go.Proofs.YtfmkdoachjgjbaaGreatDoor
namespace Go.Proofs.YtfmkdoachjgjbaaGreatDoor
open Go.RowKit
structure ActSt(W:World)(g:Nat)(S:Nat→Prop)(sp en lo M:Nat)(m:MsgV)(L:Lk)(a:World):Prop where
 upd:Upd (fun k=>S k∨k=M) W a
 msb:MsB a M m
 lk:∃SC SJ,LkP a g (Fr S W a) L sp en lo SC SJ
structure LkOk(l:Lk):Prop where
 dead:l.dead=false
 waits:l.waits=false
 fused:l.j.fused=false
 off:l.j.off=false
 many:0≤l.j.many∧l.j.many<1000000000000
 len:l.j.bs.size≤1000000000000
 out:l.out.size≤1000000000000
def Lk.says(l:Lk)(c':Ch)(rec:ByteArray)(m:MsgV):Lk:= {l with c:=c',j:=l.j.app rec,out:=l.out++qeb m}
def q3d(i:Nat):Nat:=if i=0 then 87 else if i=1 then 88 else if i=2 then 112 else 89
def qs4(g:Nat)(i:Nat):Array Value:=if i=0 then #[.pointer (some ⟨g,0,none⟩)] else #[]
def qkj(v q M f m:Nat)(i:Nat):Array Value :=
 if i=0 then #[] else if i=1 then #[.pointer (some ⟨q,0,none⟩),.pointer (some ⟨M,0,none⟩)] else if i=2 then #[.pointer (some ⟨f,0,none⟩),.pointer (some ⟨m,0,none⟩)] else #[.pointer (some ⟨v,0,none⟩),.pointer (some ⟨M,0,none⟩)]
def zc7(W:World)(g:Nat)(S:Nat→Prop)(sp en lo M:Nat)(m:MsgV)(l:Lk)(c':Ch)(rec:ByteArray)(er:Int)(i:Nat)(a:World):Prop :=
 if i≤1 then qq W a else er=0∧ActSt W g S sp en lo M m (if i=2 then {l with c:=c'} else if i=3 then {l with c:=c',j:=l.j.app rec} else l.says c' rec m) a
def zc8(W:World)(g:Nat)(S:Nat→Prop)(sp en lo M:Nat)(m:MsgV)(l:Lk)(c':Ch)(er:Int)(x:Int)(a:World):Prop:=x=er∧ActSt W g S sp en lo M m {l with c:=c'} a
theorem qzk(g b U V M P R B:Nat)(S:Nat→Prop)(l:Lk)(sp en lo:Nat)(SC SJ:Nat→Prop)(F:FuncId)(fs z:Array Value)(m:MsgV)(er:Int)(c':Ch)(xs:List ByteArray)(W:World)
  (h:LkP W g S l sp en lo SC SJ) (f:LkOk l) (b7:m.hash.length=32) (a8:er=0→SayOk m) (hT:Tabs W) (hA:ApD S)
  (b6:∀args w,(callFunc F args).run Tryz.prog w = .ok (.enter F args) w) (hF:∀a,qq W a→Calls Tryz.prog F (fs++z) a fun e H=>SaysIt en SC m er c' e a H)
  (cL:W.cell? ⟨U,0,none⟩=some (.pointer (some ⟨g,0,none⟩))) (cC:W.cell? ⟨V,0,none⟩=some (.func (.func F) fs z)) (hM:MsB W M MsgV.zero)
  (c0:W.cell? ⟨P,0,none⟩=some (.pointer (some ⟨g,0,none⟩))) (c1:W.cell? ⟨R,0,none⟩=some (.slice (some ⟨B,0,none⟩) xs.length xs.length)) (hx:∀j x,xs[j]? = some x→W.cell? ⟨B,j,none⟩=some (.string x))
  (hn:xs.length≤1000) (b8:(zx xs).size≤1024)
  (a7:qlq W b 4 q3d (qs4 g) (qkj U V M P R))
  (E:¬S U∧¬S M∧¬S P∧¬S R∧¬S b∧¬S B) (C:U≠M∧V≠M∧P≠M∧R≠M∧b≠M∧B≠M) (c3:B<W.heap.size) (c4:b<W.heap.size) (Y:M≠4∧M≠1) :
  Calls Tryz.prog 66 #[.pointer (some ⟨g,0,none⟩),.slice (some ⟨b,0,none⟩) 4 4] W fun e w'=>Upd (fun k=>S k∨k=M∨W.heap.size≤k) W w'∧qyg 4 (zc7 W g S sp en lo M m l c' (zx xs) er) (zc8 W g S sp en lo M m l c' er) e w':=by
 have N:=h.lt
 have b4:=hM.lt
 have X:∀ {a:World} {k:Nat},k<W.heap.size→¬S k→¬Fr S W a k:=fun f hs e=>e.elim hs (fun e=>by omega)
 have b9:∀ {a:World} {T:Nat→Prop},Upd T W a→(∀k,T k→S k∨k=M)→Tabs a:=fun u a6=>hT.upd u (fun e=>(a6 _ e).elim hA.c (fun e=>Y.1 e.symm)) (fun e=>(a6 _ e).elim hA.d (fun e=>Y.2 e.symm))
 refine qwb g b 4 q3d (qs4 g) (qkj U V M P R) (fun k=>S k∨k=M∨W.heap.size≤k) _ _ W (by decide) (f.dead▸qg h.at_ 6) a7 ?_ ?_ ?_
 ·rintro (e | e | e)
  ·exact E.2.2.2.2.1 e
  ·exact C.2.2.2.2.1 e
  ·omega
 ·intro i hi a hC;rcases (by omega:i=0∨i=1∨i=2∨i=3) with rfl | rfl | rfl | rfl
  ·refine⟨enters_of Tryz.func87 (by kernel_rfl) rfl,?_⟩;have I:qq W a:=hC;refine(q2f g a (f.waits▸qg (h.new I).at_ 8)).mono ?_;rintro e H ⟨rfl,rfl⟩;exact⟨Upd.refl _ _,.inl ⟨rfl,I⟩⟩
  ·refine⟨enters_of Tryz.func88 (by kernel_rfl) rfl,?_⟩;have I:qq W a:=hC;have v:=hM.new I;refine(q3b V M en SC F fs z m er c' MsgV.zero a b7 (I.cell cC (fun h=>h)) v (fun e=>E.2.1 (h.inC _ e)) b6 (hF a I)).mono ?_;rintro e H ⟨rfl,b3,a1,u1,b5,q⟩;have h1:=(h.new I).chan u1 b5;have z0:=I.size;have z1:=u1.size;have z2:=q.size;have L:=h1.upd q (fun k f e=>by
    rcases f with f | f
    ·exact E.2.1 (e▸f)
    ·omega)
   have h3:LkP H g (Fr S W H) {l with c:=c'} sp en lo (Fr SC a a1) SJ:=L.wider (fun k f=>f.elim .inl (fun e=> .inr ⟨by omega,by omega⟩)) (fun k f=>f.elim (fun e=>by have:=N k e;omega) (fun e=>e.2));have u:Upd (fun k=>S k∨k=M) W H:=((I.mono (fun _ _ h=>h.elim)).trans (u1.mono (fun k _ e=> .inl (h.inC k e)))).trans (q.mono (fun k _ e=> .inr e));have st:ActSt W g S sp en lo M m {l with c:=c'} H:=⟨u,b3,_,_,h3⟩;refine⟨(u1.mono (fun k _ e=> .inl (h.inC k e))).trans (q.mono (fun k _ e=> .inr (.inl e))),?_⟩;by_cases O:er=0
   ·subst O;exact .inl ⟨rfl,rfl,st⟩
   ·exact .inr ⟨er,O,rfl,rfl,st⟩
  ·refine⟨enters_of Tryz.func112 (by kernel_rfl) rfl,?_⟩;obtain⟨O,u,v,J,K,hl⟩:er=0∧ActSt W g S sp en lo M m {l with c:=c'} a:=hC;have z0:=u.size;have nT:∀k,k<W.heap.size→¬S k→k≠M→¬(S k∨k=M):=fun k _ h1 L e=>e.elim h1 L
   have Z:=World.block_lt_of_cell? W _ c0;refine(q1o P R B g (Fr S W a) {l with c:=c'} sp en lo J K xs a hl f.dead f.fused f.off ⟨f.many.1,by have:=f.many.2;show l.j.many<_;omega⟩ (by have:=f.len;show l.j.bs.size≤_;omega) (b9 u (fun k h=>h)) hn b8
    (u.cell c0 (fun e=>e.elim E.2.2.1 C.2.2.1)) (u.cell c1 (fun e=>e.elim E.2.2.2.1 C.2.2.2.1)) (fun j x e=>u.cell (hx j x e) (fun e=>e.elim E.2.2.2.2.2 C.2.2.2.2.2)) (by omega) (X Z E.2.2.1)).mono ?_
   rintro e H ⟨rfl,⟨c2,L⟩,q⟩;have z2:=q.size;refine⟨q.mono (fun k f e=>e.elim .inl (fun e=> .inr (.inr e.1))),.inl ⟨rfl,O,⟨?_,?_,?_⟩⟩⟩
   ·exact u.then q (fun k f e=>e.elim .inl (fun e=>by omega))
   ·exact v.upd q (X b4 E.2.1)
   ·exact⟨_,_,L.wider (fun k f=>f.elim (fun e=>e.elim .inl (fun e=> .inr ⟨e.1,by omega⟩)) (fun e=> .inr ⟨by omega,e.2⟩)) (fun k f=>f.elim (fun e=>by have:=N k e;omega) (fun e=>e.2))⟩
  ·refine⟨enters_of Tryz.func89 (by kernel_rfl) rfl,?_⟩;obtain⟨O,u,v,J,K,hl⟩:er=0∧ActSt W g S sp en lo M m {l with c:=c',j:=l.j.app (zx xs)} a:=hC;have z0:=u.size;have hg:=hl.inG;refine(q3c U M g (Fr S W a) _ sp en lo J K m a hl (a8 O) (by have:=f.out;show l.out.size≤_;omega) (u.cell cL (fun e=>e.elim E.1 C.1)) v).mono ?_;rintro e H ⟨rfl,L,q⟩;have z2:=q.size;refine⟨q.mono (fun k f e=> .inl (e▸h.inG)),.inl ⟨rfl,O,⟨?_,?_,?_⟩⟩⟩
   ·exact u.trans (q.mono (fun k f e=> .inl (e▸h.inG)))
   ·exact v.upd q (fun e=>E.2.1 (e▸h.inG))
   ·exact⟨_,_,L.wider (fun k f=>f.elim .inl (fun e=> .inr ⟨e.1,by omega⟩)) (fun k f=>f.elim (fun e=>by have:=N k e;omega) (fun e=>e.2))⟩
 ·exact Upd.refl _ _
attribute [local go_sem ↓ high] qz zb zc zf qah
attribute [local go_sem] qaw qax qa1 qw zt qcl
def LkE(w:World)(g:Nat)(S:Nat→Prop)(sp en lo:Nat)(l:Lk):Prop:=∃f i,LkP w g S l sp en lo f i
theorem LkE.upd{w w':World}{g:Nat}{S T:Nat→Prop}{sp en lo:Nat}{l:Lk}(h:LkE w g S sp en lo l)(u:Upd T w w')(hd:∀k,S k→¬T k):LkE w' g S sp en lo l:=by
 obtain⟨f,i,h⟩:=h;exact⟨f,i,h.upd u hd⟩
theorem LkE.new{w w':World}{g:Nat}{S:Nat→Prop}{sp en lo:Nat}{l:Lk}(h:LkE w g S sp en lo l)(u:qq w w'):LkE w' g S sp en lo l:=h.upd u (fun _ _ h=>h)
theorem LkE.wider{w:World}{g:Nat}{S T:Nat→Prop}{sp en lo:Nat}{l:Lk}(h:LkE w g S sp en lo l)(q:∀k,S k→T k)(m:∀k,T k→k<w.heap.size):LkE w g T sp en lo l:=by
 obtain⟨f,i,h⟩:=h;exact⟨f,i,h.wider q m⟩
theorem LkE.end_{w:World}{g:Nat}{S:Nat→Prop}{sp en lo:Nat}{l:Lk}(h:LkE w g S sp en lo l):w.cell? ⟨g,1,none⟩=some (.pointer (some ⟨en,0,none⟩)):=by
 obtain⟨f,i,h⟩:=h;exact qg h.at_ 1
theorem LkE.s{w:World}{g:Nat}{S:Nat→Prop}{sp en lo:Nat}{l:Lk}(h:LkE w g S sp en lo l):LkS w g S l:=by
 obtain⟨f,i,h⟩:=h;exact⟨sp,en,lo,f,i,h⟩
def zaz(sp en lo:Nat)(g:Nat)(S:Nat→Prop)(l:Lk)(m:MsgV)(er:Int)(c':Ch)(rec:ByteArray)(w:World)(e:Ending)(w':World):Prop :=
 Upd S w w'∧((er≠0∧e = .returned (.tuple #[.agg MsgV.zero.cells.toArray,.int .i64 er])∧LkE w' g (Fr S w w') sp en lo {l with c:=c'}) ∨
  (er=0∧e = .returned (.tuple #[.agg m.cells.toArray,.int .i64 0])∧LkE w' g (Fr S w w') sp en lo (l.says c' rec m)))
set_option maxRecDepth 100000 in
set_option maxHeartbeats 1000000 in
theorem q71(g B:Nat)(S:Nat→Prop)(l:Lk)(sp en lo:Nat)(SC SJ:Nat→Prop)(F:FuncId)(fs q:Array Value)(m:MsgV)(er:Int)(c':Ch)(xs:List ByteArray)(w:World)
  (h:LkP w g S l sp en lo SC SJ) (f:LkOk l) (a8:m.hash.length=32) (E:er=0→SayOk m) (hT:Tabs w) (hA:ApD S)
  (d3:∀args w,(callFunc F args).run Tryz.prog w = .ok (.enter F args) w) (X:∀a,qq w a→Calls Tryz.prog F (fs++q) a fun e a'=>SaysIt en SC m er c' e a a')
  (hx:∀j x,xs[j]? = some x→w.cell? ⟨B,j,none⟩=some (.string x)) (hn:xs.length≤1000) (d4:(zx xs).size≤1024) (d6:B<w.heap.size) (d2:¬S B) :
  Calls Tryz.prog 45 #[.pointer (some ⟨g,0,none⟩),.func (.func F) fs q,.slice (some ⟨B,0,none⟩) xs.length xs.length] w fun e w'=>zaz sp en lo g S l m er c' (zx xs) w e w':=by
 have d9:∀(fn:Fn) (first cap:Array Value) (w:World),(Instr.makeFunc fn first cap).run Tryz.prog w = .ok (.func fn first cap) w:=fun _ _ _ _=>rfl
 have c2:=qb h.lt
 have d8:=h.lt g h.inG
 obtain⟨L,H⟩:∃L,L=(((w.alloc (.cells #[.pointer (some ⟨g,0,none⟩)] 28)).alloc (.cells #[.func (.func F) fs q] 109)).alloc (.cells MsgV.zero.cells.toArray 101)).alloc (.cells MsgV.zero.cells.toArray 101):=⟨_,rfl⟩
 have n4:qq w L:=by rw[H];exact((((Upd.refl _ _).alloc _).alloc _).alloc _).alloc _
 have z4:L.heap.size=w.heap.size+4:=by rw[H];simp only[World.size_alloc]
 have bL:L.cell? ⟨w.heap.size,0,none⟩=some (.pointer (some ⟨g,0,none⟩)):=by
  rw[H];exact qg (qs (qs (qs (qj _ _) _) _) _) 0
 have bC:L.cell? ⟨w.heap.size+1,0,none⟩=some (.func (.func F) fs q):=by
  rw[H];have:=qj (w.alloc (.cells #[.pointer (some ⟨g,0,none⟩)] 28)) (.cells #[.func (.func F) fs q] 109);rw[World.size_alloc] at this;exact qg (qs (qs this _) _) 0
 have bR:MsB L (w.heap.size+2) MsgV.zero:=by
  rw[H];have:=qj ((w.alloc (.cells #[.pointer (some ⟨g,0,none⟩)] 28)).alloc (.cells #[.func (.func F) fs q] 109)) (.cells MsgV.zero.cells.toArray 101);rw[World.size_alloc,World.size_alloc] at this;exact⟨qs this _,qo⟩
 have bM:MsB L (w.heap.size+3) MsgV.zero:=by
  rw[H];have:=qj (((w.alloc (.cells #[.pointer (some ⟨g,0,none⟩)] 28)).alloc (.cells #[.func (.func F) fs q] 109)).alloc (.cells MsgV.zero.cells.toArray 101)) (.cells MsgV.zero.cells.toArray 101);rw[World.size_alloc,World.size_alloc,World.size_alloc] at this;exact⟨this,qo⟩
 have HX:=qb (And.intro h (And.intro f (And.intro E (And.intro X hx))))
 have b6:=qb (And.intro hT hA)
 clear h f E X hx hT hA
 go_enter Tryz.func45,Tryz.ntmps45
 go_upto_region 2 with fail
 rw[←H]
 have bR:MsB L (w.heap.size+1+1) MsgV.zero:=bR
 have bM:MsB L (w.heap.size+1+1+1) MsgV.zero:=bM
 have HW:=qb z4
 clear H z4
 generalize hZ:w.heap.size=Z at *
 have HZ:=qb hZ
 clear hZ
 have c4:L.drew.cell? ⟨Z,0,none⟩=some (.pointer (some ⟨g,0,none⟩)):=bL
 have HB:=qb (And.intro bL (And.intro bC (And.intro bR bM)))
 have N4:=qb n4
 clear bL bC bR bM n4
 refine qa2 (fun w'=>w'.cell? ⟨Z,0,none⟩=some (.pointer (some ⟨g,0,none⟩))) [0,1,4] (.of [0,1,2,3,4,5,6,7,8,9,10]) (by kernel_rfl) (by kernel_rfl) c4 ?_
 simp only[Plan.of]
 go_wp2_with (with_reducible first|(first|refine' zy (qh ?_) ?_|refine' zz (qh ?_) ?_|refine' qw3 (qh ?_) ?_);rotate_left|refine' qw4 (qh ?_)|refine' qw5 (qh ?_)|rfl|apply qn)
 refine(qot g _ _ _ L.drew).mono ?_
 rintro e w5 ⟨P0,P1,rfl,n5,M,N,b3,b4,d0,d1⟩
 have n5:=n5.ofDrew
 have c0:=n5.cell (qa HB).1 (fun h=>h)
 have HD:=qb (And.intro n5 (And.intro M (And.intro N (And.intro b3 (And.intro b4 (And.intro d0 d1))))))
 clear n5 M N b3 b4 d0 d1 c4
 go_wp2_with (first | (with_reducible first|(first|refine' zy (qh ?_) ?_|refine' zz (qh ?_) ?_|refine' qw3 (qh ?_) ?_);rotate_left|refine' qw4 (qh ?_)|refine' qw5 (qh ?_)|rfl|apply qn) | refine⟨c0,?_⟩)
 have nW:qq w5 (w5.alloc (.cells #[.func (.func 87) #[.pointer (some ⟨g,0,none⟩)] #[],.func (.func 88) #[] #[.pointer (some ⟨Z+1,0,none⟩),.pointer (some ⟨Z+1+1+1,0,none⟩)],.func (.func 112) #[] #[.pointer (some ⟨P0,0,none⟩),.pointer (some ⟨P1,0,none⟩)],.func (.func 89) #[] #[.pointer (some ⟨Z,0,none⟩),.pointer (some ⟨Z+1+1+1,0,none⟩)]] 62)):=(Upd.refl _ _).alloc _
 have bW:=qj w5 (.cells #[.func (.func 87) #[.pointer (some ⟨g,0,none⟩)] #[],.func (.func 88) #[] #[.pointer (some ⟨Z+1,0,none⟩),.pointer (some ⟨Z+1+1+1,0,none⟩)],.func (.func 112) #[] #[.pointer (some ⟨P0,0,none⟩),.pointer (some ⟨P1,0,none⟩)],.func (.func 89) #[] #[.pointer (some ⟨Z,0,none⟩),.pointer (some ⟨Z+1+1+1,0,none⟩)]] 62)
 have zW:(w5.alloc (.cells #[.func (.func 87) #[.pointer (some ⟨g,0,none⟩)] #[],.func (.func 88) #[] #[.pointer (some ⟨Z+1,0,none⟩),.pointer (some ⟨Z+1+1+1,0,none⟩)],.func (.func 112) #[] #[.pointer (some ⟨P0,0,none⟩),.pointer (some ⟨P1,0,none⟩)],.func (.func 89) #[] #[.pointer (some ⟨Z,0,none⟩),.pointer (some ⟨Z+1+1+1,0,none⟩)]] 62)).heap.size=w5.heap.size+1:=World.size_alloc _ _
 generalize w5.alloc (.cells #[.func (.func 87) #[.pointer (some ⟨g,0,none⟩)] #[],.func (.func 88) #[] #[.pointer (some ⟨Z+1,0,none⟩),.pointer (some ⟨Z+1+1+1,0,none⟩)],.func (.func 112) #[] #[.pointer (some ⟨P0,0,none⟩),.pointer (some ⟨P1,0,none⟩)],.func (.func 89) #[] #[.pointer (some ⟨Z,0,none⟩),.pointer (some ⟨Z+1+1+1,0,none⟩)]] 62)=W at nW bW zW ⊢
 have c1:=nW.cell c0 (fun h=>h)
 refine⟨c1,?_⟩
 obtain⟨O,M,N,b3,b4,d0,d1⟩:=qa HD
 obtain⟨h,f,E,X,hx⟩:=qa HX
 obtain⟨hT,hA⟩:=qa b6
 have R:qq w W:=((qa N4).trans O).trans nW
 have z4:=qa HW
 have z5:=O.size
 have M:L.heap.size≤P0:=M
 have N:L.heap.size≤P1:=N
 have b5:qlq W w5.heap.size 4 q3d (qs4 g) (qkj Z (Z+1) (Z+1+1+1) P0 P1):=by
  intro i hi;rcases (by omega:i=0∨i=1∨i=2∨i=3) with rfl | rfl | rfl | rfl
  ·exact qg bW 0
  ·exact qg bW 1
  ·exact qg bW 2
  ·exact qg bW 3
 have hS:∀k,Z≤k→¬S k:=fun k f e=>by have:=qa c2 k e;omega
 have d5:=hT.lt
 have d7:=qa HZ
 have c5:=((qa HB).2.2.2.new O).new nW
 have c6:=((qa HB).2.2.1.new O).new nW
 have J:=qzk g w5.heap.size Z (Z+1) (Z+1+1+1) P0 P1 B S l sp en lo SC SJ F fs q m er c' xs W (h.new R) f a8 E (hT.new R) hA d3 (fun a na=>X a (R.trans na)) c1
  (nW.cell (O.cell (qa HB).2.1 (fun h=>h)) (fun h=>h)) c5 (nW.cell d0 (fun h=>h)) (nW.cell d1 (fun h=>h)) (fun j x e=>R.cell (hx j x e) (fun h=>h)) hn d4 b5
  ⟨hS _ (by omega),hS _ (by omega),hS _ (by omega),hS _ (by omega),hS _ (by omega),d2⟩ ⟨by omega,by omega,by omega,by omega,by omega,by omega⟩ (by omega) (by omega) ⟨by omega,by omega⟩
 have NN:=qb R
 have Y:=qb c6
 have a7:=qb (And.intro z4 (And.intro z5 zW))
 have a6:=qb hS
 clear b5 bW d5 c5 c6 hS R nW O M N b3 b4 d0 d1 h f E X hx hT hA z4 z5 zW HD HB c0 c1 bR bM
 generalize w5.heap.size=bb at *
 go_wp2_with (with_reducible first|(first|refine' zy (qh ?_) ?_|refine' zz (qh ?_) ?_|refine' qw3 (qh ?_) ?_);rotate_left|refine' qw4 (qh ?_)|refine' qw5 (qh ?_)|rfl|apply qn)
 refine J.mono ?_
 rintro e w6 ⟨U,(⟨rfl,he,v⟩ | ⟨x,c7,rfl,he,v⟩)⟩
 ·have v:ActSt W g S sp en lo (Z+1+1+1) m (l.says c' (zx xs) m) w6:=v;have C:=he;have b9:=trivial;clear he;have I:=(qa Y).upd U (fun e=>by
   have z:=qa a7;rcases e with e | e | e
   ·exact qa a6 _ (by omega) e
   ·omega
   ·omega)
  have K:=I.stOk a8;have V:=I.put a8;have P:Upd (· = Z+1+1) w6 (w6.setCells (Z+1+1) 0 m.cells):=zj _;have X:=V.at_;have rM:=v.msb.row;have HQ:=qb (And.intro U (And.intro v (And.intro P C)));clear I V P U v C J Y HX b6 N4 b9;go_wp2_with (first | (with_reducible first|(first|refine' zy (qh ?_) ?_|refine' zz (qh ?_) ?_|refine' qw3 (qh ?_) ?_);rotate_left|refine' qw4 (qh ?_)|refine' qw5 (qh ?_)|rfl|apply qn) | (with_reducible first|(first|refine' tw1 (qh ?_) ?_|refine' tw2 (qh ?_) ?_);rotate_left|refine' tw3 (qh ?_)|rfl|apply tn|refine' tw4 ?_));refine bodyPost_ret (qy rfl _ _ (Z+1+1) _ _ _ _ rfl X Tryz.underlying101 rfl (by rw[List.size_toArray,MsgV.len _ a8];exact Tryz.infoMsg)) rfl ?_;obtain⟨U,v,P,C⟩:=qa HQ;have R:=qa NN;have z:=qa a7;have zw:=qa HZ;have zn:=R.size;have z6:=U.size;have z7:=P.size;have hs:=qa a6;refine⟨?_,.inr ⟨C,rfl,?_⟩⟩
  ·refine((R.mono (T:=S) (fun _ _ h=>h.elim)).then U (fun k f e=> ?_)).then P (fun k f e=>by omega);rcases e with e | e | e
   ·exact e
   ·omega
   ·omega
  ·obtain⟨b7,b8,hl⟩:=v.lk;have c3:=hl.upd P (fun k f e=>by
    rcases f with f | f
    ·exact hs _ (by omega) (e▸f)
    ·omega)
   exact⟨b7,b8,c3.wider (fun k f=>f.elim .inl (fun e=> .inr ⟨by omega,by omega⟩)) (fun k f=>f.elim (fun e=>by have:=qa c2 k e;omega) (fun e=>e.2))⟩
 ·have he:x=er:=he;subst he;have C:=c7;have b9:=trivial;have I:=(qa Y).upd U (fun e=>by
   have z:=qa a7;rcases e with e | e | e
   ·exact qa a6 _ (by omega) e
   ·omega
   ·omega)
  have K:=I.stOk (k:=MsgV.zero) qo;have V:=I.put (k:=MsgV.zero) qo;have P:Upd (· = Z+1+1) w6 (w6.setCells (Z+1+1) 0 MsgV.zero.cells):=zj _;have X:=V.at_;have HQ:=qb (And.intro U (And.intro v (And.intro P C)));clear I V P U v C J Y HX b6 N4 b9;have c9:=qb K;have c8:=qb X;clear K X;go_upto_if 21 with (first | (with_reducible first|(first|refine' zy (qh ?_) ?_|refine' zz (qh ?_) ?_|refine' qw3 (qh ?_) ?_);rotate_left|refine' qw4 (qh ?_)|refine' qw5 (qh ?_)|rfl|apply qn) | (with_reducible first|(first|refine' tw1 (qh ?_) ?_|refine' tw2 (qh ?_) ?_);rotate_left|refine' tw3 (qh ?_)|rfl|apply tn|refine' tw4 ?_));refine wp_cond_true (show _=Value.bool true from congrArg Value.bool (show (x != 0)=true by simpa using c7)) ?_;have K:=qa c9;go_wp2_with (first | (with_reducible first|(first|refine' zy (qh ?_) ?_|refine' zz (qh ?_) ?_|refine' qw3 (qh ?_) ?_);rotate_left|refine' qw4 (qh ?_)|refine' qw5 (qh ?_)|rfl|apply qn) | (with_reducible first|(first|refine' tw1 (qh ?_) ?_|refine' tw2 (qh ?_) ?_);rotate_left|refine' tw3 (qh ?_)|rfl|apply tn|refine' tw4 ?_));refine bodyPost_ret (qy rfl _ _ (Z+1+1) _ _ _ _ rfl (qa c8) Tryz.underlying101 rfl (by rw[List.size_toArray,MsgV.len _ qo];exact Tryz.infoMsg)) rfl ?_;obtain⟨U,v,P,C⟩:=qa HQ;have R:=qa NN;have z:=qa a7;have zw:=qa HZ;have zn:=R.size;have z6:=U.size;have z7:=P.size;have hs:=qa a6;refine⟨?_,.inl ⟨C,rfl,?_⟩⟩
  ·refine((R.mono (T:=S) (fun _ _ h=>h.elim)).then U (fun k f e=> ?_)).then P (fun k f e=>by omega);rcases e with e | e | e
   ·exact e
   ·omega
   ·omega
  ·obtain⟨b7,b8,hl⟩:=v.lk;have c3:=hl.upd P (fun k f e=>by
    rcases f with f | f
    ·exact hs _ (by omega) (e▸f)
    ·omega)
   exact⟨b7,b8,c3.wider (fun k f=>f.elim .inl (fun e=> .inr ⟨by omega,by omega⟩)) (fun k f=>f.elim (fun e=>by have:=qa c2 k e;omega) (fun e=>e.2))⟩
end Go.Proofs.YtfmkdoachjgjbaaGreatDoor
namespace Go.Proofs.YtfmkdoachjgjbaaGreatDoor
open Go.RowKit
theorem LkS.wider{w:World}{g:Nat}{S T:Nat→Prop}{l:Lk}(h:LkS w g S l)(q:∀k,S k→T k)(m:∀k,T k→k<w.heap.size):LkS w g T l:=by
 obtain⟨sp,en,lo,f,i,h⟩:=h;exact⟨sp,en,lo,f,i,h.wider q m⟩
theorem LkS.later{S:Nat→Prop}{w1 m f:World}{g:Nat}{l:Lk}(h:LkS f g (Fr S m f) l)(q:w1.heap.size≤m.heap.size):LkS f g (Fr S w1 f) l :=
 h.wider (fun k i=>i.elim .inl (fun e=> .inr ⟨by omega,e.2⟩)) (fun k i=>i.elim (fun e=>h.lt k (.inl e)) (fun e=>e.2))
def qri(m:MsgV)(er:Int):MsgV:=if er=0 then m else MsgV.zero
def Lk.acts(l:Lk)(c':Ch)(rec:ByteArray)(m:MsgV)(er:Int):Lk:=if er=0 then l.says c' rec m else {l with c:=c'}
theorem qs5{m:MsgV}{er:Int}(h:m.hash.length=32):(qri m er).hash.length=32:=by
 unfold qri;split
 ·exact h
 ·exact qo
theorem qnw(g B:Nat)(S:Nat→Prop)(l:Lk)(sp en lo:Nat)(v L:Nat→Prop)(F:FuncId)(z f:Array Value)(m:MsgV)(er:Int)(c':Ch)(xs:List ByteArray)(w:World)
  (h:LkP w g S l sp en lo v L) (R:LkOk l) (J:m.hash.length=32) (i:er=0→SayOk m) (P:Tabs w) (N:ApD S)
  (H:∀args w,(callFunc F args).run Tryz.prog w = .ok (.enter F args) w) (O:∀a,qq w a→Calls Tryz.prog F (z++f) a fun e M=>SaysIt en v m er c' e a M)
  (U:∀j x,xs[j]? = some x→w.cell? ⟨B,j,none⟩=some (.string x)) (T:xs.length≤1000) (K:(zx xs).size≤1024) (E:B<w.heap.size) (C:¬S B) :
  Calls Tryz.prog 45 #[.pointer (some ⟨g,0,none⟩),.func (.func F) z f,.slice (some ⟨B,0,none⟩) xs.length xs.length] w fun e w'=>e = .returned (.tuple #[.agg (qri m er).cells.toArray,.int .i64 er])∧LkE w' g (Fr S w w') sp en lo (l.acts c' (zx xs) m er)∧Upd S w w':=by
 refine(q71 g B S l sp en lo v L F z f m er c' xs w h R J i P N H O U T K E C).mono ?_
 rintro e w' ⟨u,(⟨q,rfl,I⟩ | ⟨q,rfl,I⟩)⟩
 ·unfold qri Lk.acts;rw[if_neg q,if_neg q];exact⟨rfl,I,u⟩
 ·subst q;exact⟨rfl,I,u⟩
theorem zaa(a:ByteArray):zx [a]=a:=by
 show a++(⟨#[]⟩:ByteArray)=a;exact ByteArray.append_empty
attribute [local go_sem ↓ high] qz zb zc zf qah
attribute [local go_sem] qaw qax qa1 qw zt qcl
def Lk.shut(l:Lk):Lk:=l.acts l.c.shut.1 (qx 5 1) l.c.shut.2.1 l.c.shut.2.2
end Go.Proofs.YtfmkdoachjgjbaaGreatDoor
