/-
  A link: ready, note, send.
-/
import Derived.Test.YtfmkdoachjgjbaaGreatDoorMcf
import Derived.Test.YtfmkdoachjgjbaaGreatDoorSgn
set_option maxRecDepth 100000
set_option maxHeartbeats 2000000
set_option linter.unusedVariables false
set_option linter.unusedSimpArgs false
namespace Go.Proofs.YtfmkdoachjgjbaaGreatDoor
section
open Go.RowKit
theorem q2p(g:Nat)(w:World)(f:w.cell? ⟨g,8,none⟩=some (.bool false)):Calls Tryz.prog 87 #[.pointer (some ⟨g,0,none⟩)] w fun e w'=>e = .returned (.int .i64 0)∧w=w':=by
 go_enter Tryz.func87,Tryz.ntmps87;go_wp2_with fail;go_ret;exact⟨rfl,rfl⟩
theorem qo1(g:Nat)(i:Option Addr)(q m:Nat)(w:World):Calls Tryz.prog 69 #[.pointer (some ⟨g,0,none⟩),.slice i q m] w fun e w'=>∃z C,e = .returned (.func (.func 112) #[] #[.pointer (some ⟨z,0,none⟩),.pointer (some ⟨C,0,none⟩)])∧qq w w'∧w.heap.size≤z∧w.heap.size≤C∧z<w'.heap.size∧C<w'.heap.size∧w'.cell? ⟨z,0,none⟩=some (.pointer (some ⟨g,0,none⟩))∧w'.cell? ⟨C,0,none⟩=some (.slice i q m):=by
 have H:∀(F:Fn) (first cap:Array Value) (w:World),(Instr.makeFunc F first cap).run Tryz.prog w = .ok (.func F first cap) w:=fun _ _ _ _=>rfl
 go_enter Tryz.func69,Tryz.ntmps69;go_upto_region 1 with fail;have r:qq w (w.alloc (.cells #[.pointer (some ⟨g,0,none⟩)] 28)):=(Upd.refl _ _).alloc _;have b1:=qj w (.cells #[.pointer (some ⟨g,0,none⟩)] 28);have v:(w.alloc (.cells #[.pointer (some ⟨g,0,none⟩)] 28)).heap.size=w.heap.size+1:=World.size_alloc _ _;generalize w.alloc (.cells #[.pointer (some ⟨g,0,none⟩)] 28)=w1 at r b1 v ⊢;have f:qq w1 (w1.alloc (.cells #[.slice i q m] 163)):=(Upd.refl _ _).alloc _;have b2:=qj w1 (.cells #[.slice i q m] 163);have E:(w1.alloc (.cells #[.slice i q m] 163)).heap.size=w1.heap.size+1:=World.size_alloc _ _;generalize w1.alloc (.cells #[.slice i q m] 163)=I at f b2 E ⊢;rw[v] at b2;have N:=qb (And.intro r (And.intro f (And.intro b1 (And.intro b2 (And.intro v E)))));clear r f b1 b2 v E;go_wp2_with fail;go_ret;obtain⟨r,f,b1,b2,v,E⟩:=qa N;exact⟨_,_,rfl,r.trans f,Nat.le_refl _,by omega,by omega,by omega,qg (f.old b1 (fun h=>h)) 0,qg b2 0⟩
theorem q2a(E N F g:Nat)(S:Nat→Prop)(l:Lk)(sp en lo:Nat)(SC Z:Nat→Prop)(xs:List ByteArray)(w:World)(h:LkP w g S l sp en lo SC Z)(hd:l.dead=false)(hf:l.j.fused=false)(ho:l.j.off=false)
  (hm:0≤l.j.many∧l.j.many<1099511627776) (z:l.j.bs.size≤1099511627776) (hT:Tabs w) (hn:xs.length≤1000) (T:(zq xs).size≤1024)
  (c0:w.cell? ⟨E,0,none⟩=some (.pointer (some ⟨g,0,none⟩))) (c1:w.cell? ⟨N,0,none⟩=some (.slice (some ⟨F,0,none⟩) xs.length xs.length)) (hx:∀j x,xs[j]? = some x→w.cell? ⟨F,j,none⟩=some (.string x)) (R:F<w.heap.size) (hP:¬S E) :
  Calls Tryz.prog 112 #[.pointer (some ⟨E,0,none⟩),.pointer (some ⟨N,0,none⟩)] w fun e w'=>e = .returned (.int .i64 0)∧(∃a6,LkP w' g (Fr S w w') {l with j:=l.j.app (zq xs)} sp en lo SC a6)∧Upd S w w':=by
 have c2:w.cell? ⟨g,2,none⟩=some (.pointer (some ⟨lo,0,none⟩)):=qg h.at_ 2
 have i:=fun w' (r:qq w w')=>quj F xs w' (fun j x e=>r.cell (hx j x e) (fun h=>h)) (Nat.lt_of_lt_of_le R r.size) hn (by omega)
 have v:=fun b w' (r:qq w w') hb hS=>qmp lo b Z l.j (zq xs) w' (h.jou.new r) hf ho T hm z (hT.new r) hb hS
 have K:(w.cell? ⟨E,0,none⟩=some (.pointer (some ⟨g,0,none⟩)))∧(w.cell? ⟨g,2,none⟩=some (.pointer (some ⟨lo,0,none⟩)))∧w.cell? ⟨N,0,none⟩=some (.slice (some ⟨F,0,none⟩) xs.length xs.length):=⟨c0,c2,c1⟩
 have HC:=qb K
 have H:=qb h
 have m:∀w',qq w w'→(w'.cell? ⟨E,0,none⟩=some (.pointer (some ⟨g,0,none⟩)))∧(w'.cell? ⟨g,2,none⟩=some (.pointer (some ⟨lo,0,none⟩)))∧w'.cell? ⟨N,0,none⟩=some (.slice (some ⟨F,0,none⟩) xs.length xs.length):=fun w' r=>⟨r.cell K.1 (fun h=>h),r.cell K.2.1 (fun h=>h),r.cell K.2.2 (fun h=>h)⟩
 have X:=qb h.jou.lt
 generalize hJ:zq xs=J at *
 clear h c0 c1 c2 hx hn T R hm z hT hJ
 go_enter Tryz.func112,Tryz.ntmps112
 go_upto_region 1 with fail
 refine qa1 (fun w'=>(w'.cell? ⟨E,0,none⟩=some (.pointer (some ⟨g,0,none⟩)))∧(w'.cell? ⟨g,2,none⟩=some (.pointer (some ⟨lo,0,none⟩)))∧w'.cell? ⟨N,0,none⟩=some (.slice (some ⟨F,0,none⟩) xs.length xs.length)) [0,3,4] (.of [0,1,2,3,4,5,6,7,8]) (by kernel_rfl) (by kernel_rfl) K ?_
 simp only[Plan.of]
 have k0:=m _ ((Upd.refl (fun _=>False) w).drew)
 clear K
 go_wp2_with (with_reducible first|(first|refine' zv (qh ?_) ?_|refine' zx (qh ?_) ?_|refine' zy (qh ?_) ?_);rotate_left|refine' zz (qh ?_)|refine' qw5 (qh ?_)|rfl|apply qn)
 refine(i _ ((Upd.refl (fun _=>False) w).drew)).mono ?_
 rintro e w1 ⟨rfl,L⟩
 have L:=L.ofDrew
 have k1:=m _ L
 clear i k0
 go_wp2_with (first | (with_reducible first|(first|refine' zv (qh ?_) ?_|refine' zx (qh ?_) ?_|refine' zy (qh ?_) ?_);rotate_left|refine' zz (qh ?_)|refine' qw5 (qh ?_)|rfl|apply qn) | refine⟨k1,?_⟩)
 have C:qq w (w1.alloc (.cells #[.string J] 9)):=L.alloc _
 have U:qq w1 (w1.alloc (.cells #[.string J] 9)):=(Upd.refl _ _).alloc _
 have b2:=qg (qj w1 (.cells #[.string J] 9)) 0
 have k2:=m _ C
 have a8:=L.size
 generalize w1.alloc (.cells #[.string J] 9)=w2 at C U b2 k2 ⊢
 refine⟨k2,?_⟩
 generalize hB:w1.heap.size=B at b2 ⊢
 have f:=v B w2 C b2 (fun e=>by have:=(qa X) B e;omega)
 have N2:=qb C
 clear v L C U k1 b2 hB a8
 go_wp2_with (first | (with_reducible first|(first|refine' zv (qh ?_) ?_|refine' zx (qh ?_) ?_|refine' zy (qh ?_) ?_);rotate_left|refine' zz (qh ?_)|refine' qw5 (qh ?_)|rfl|apply qn) | refine⟨k2,?_⟩)
 refine f.mono ?_
 rintro e W ⟨rfl,O,I⟩
 have M:=(qa N2)
 have q:=((qa H).new M).jour I O
 have d0:W.cell? ⟨E,0,none⟩=some (.pointer (some ⟨g,0,none⟩)):=I.cell k2.1 (fun e=>hP ((qa H).inJ _ e))
 have d6:=qv q.at_ 6
 have b3:W.cell? ⟨g,6,none⟩=some (.bool false):=hd▸qg q.at_ 6
 have P:=q.put_dead false
 have V:Upd (· = g) W (W.setCell ⟨g,6,none⟩ (.bool false)):=(Upd.refl _ _).set1 _ _
 have Y:=qb P
 have U3:=qb I
 have U4:=qb V
 have K2:=qb k2
 clear f O M q P I V k2 m
 go_wp2_with (first | (with_reducible first|(first|refine' zv (qh ?_) ?_|refine' zx (qh ?_) ?_|refine' zy (qh ?_) ?_);rotate_left|refine' zz (qh ?_)|refine' qw5 (qh ?_)|rfl|apply qn) | (with_reducible first|(first|refine' tw1 (qh ?_) ?_|refine' tw2 (qh ?_) ?_);rotate_left|refine' tw3 (qh ?_)|rfl|apply tn|refine' tw4 ?_) | refine⟨trivial,?_⟩)
 go_ret
 have C:=qa N2
 have I:=qa U3
 have V:=qa U4
 have z2:=C.size
 have z3:=I.size
 have z4:=V.size
 have h:=qa H
 have a7:=h.lt
 have e:({l with j:=l.j.app J} : Lk)=⟨l.c,l.j.app J,l.rest,l.out,l.ev,l.ticks,false,l.broken,l.waits⟩:=by rw[←hd]
 refine⟨rfl,⟨Fr Z w2 W,?_⟩,?_⟩
 ·rw[e];refine(qa Y).wider ?_ ?_
  ·rintro k (m | m)
   ·exact .inl m
   ·exact .inr ⟨by omega,by omega⟩
  ·rintro k (m | m)
   ·have:=a7 k m;omega
   ·exact m.2
 ·exact((C.mono (fun _ _ h=>h.elim)).trans (I.mono (fun k _ e=>h.inJ k e))).trans (V.mono (fun k _ e=>by rw[e];exact h.inG))
def qez(m:MsgV):ByteArray:=match fieldsOf m.kind with | some xs=>qc0 (qio xs m) | none=>⟨#[]⟩
structure SayOk(m:MsgV):Prop where
 put:PutOk m
 may:qam m=true
 kind:0≤m.kind∧m.kind<256
theorem q9s(xs:List Fld)(m:MsgV)(s:ByteArray):s.size≤(qev xs m s).size:=by
 induction xs generalizing s with
 | nil=>exact Nat.le_refl _
 | cons x xs f =>
  have:=f (s++x.put m);rw[ByteArray.size_append] at this;show s.size≤(qev xs m (s++x.put m)).size;omega
theorem qj1{k:Int}{xs:List Fld}(h:fieldsOf k=some xs):xs.length≤5:=by
 unfold fieldsOf at h
 repeat' (split at h)
 all_goals first
  | (injection h with h;subst h;decide)
  | cases h
theorem SayOk.say{m:MsgV}(h:SayOk m):∃xs,fieldsOf m.kind=some xs∧qez m=qc0 (qio xs m)∧0<(qio xs m).size∧(qio xs m).size≤1024:=by
 cases e:fieldsOf m.kind with
 | none=>have:=h.may;rw[qur e] at this;cases this
 | some xs =>
  have q:=qj1 e;have f:=qjt m h.put.ok.len xs (qw m.kind.toNat 1);have i:=q9s xs m (qw m.kind.toNat 1);rw[qat] at f i;refine⟨xs,rfl,by unfold qez;rw[e],?_,?_⟩
  ·show 0<(qev xs m (qw m.kind.toNat 1)).size;omega
  ·show (qev xs m (qw m.kind.toNat 1)).size≤1024;omega
theorem qd3(s:ByteArray):(qc0 s).size=2+s.size:=by
 unfold qc0;rw[ByteArray.size_append,strOfNums_size];rfl
theorem SayOk.size{m:MsgV}(h:SayOk m):2<(qez m).size∧(qez m).size≤1026:=by
 obtain⟨xs,-,e,f,i⟩:=h.say;rw[e,qd3];omega
def qaq(f:List MsgV)(out:ByteArray):ByteArray:=f.foldl (fun s m=>s++qez m) out
theorem qq6{f:List MsgV}{i:Nat}{m:MsgV}(h:f[i]? = some m)(out:ByteArray):qaq (f.take (i+1)) out=qaq (f.take i) out++qez m:=by
 unfold qaq;rw[List.take_add_one,h,List.foldl_append];rfl
theorem qhk(out:ByteArray):∀(f:List MsgV),(∀m∈f,SayOk m)→∀out:ByteArray,(qaq f out).size≤out.size+1026*f.length
 | [],_,out=>Nat.le_refl _
 | m::f,h,o=>by
  have i:=qhk out f (fun m q=>h m (List.mem_cons_of_mem _ q)) (o++qez m);have r:=(h m (List.mem_cons_self ..)).size;rw[ByteArray.size_append] at i;show (qaq f (o++qez m)).size≤_;rw[List.length_cons];omega
theorem qmk(m:MsgV)(h:SayOk m)(w:World):∃t,0<t.size∧t.size≤1024∧qez m=qc0 t∧Calls Tryz.prog 115 #[.agg m.cells.toArray] w (qa7 (.tuple #[.string t,.int .i64 0]) w):=by
 obtain⟨xs,f,e,i,q⟩:=h.say;exact⟨_,i,q,e,qwm m xs h.put f h.kind (qh1 f) h.may w⟩
attribute [local go_sem ↓ high] qz zb ze
attribute [local go_sem] qax qay qa4 qx
theorem q7c(g B:Nat)(S:Nat→Prop)(l:Lk)(sp en lo:Nat)(Z SJ:Nat→Prop)(f:List MsgV)(w:World)(h:LkP w g S l sp en lo Z SJ)(U:∀m∈f,SayOk m)(hn:f.length≤1000)(hz:l.out.size≤1099511627776)
  (hr:∀i m,f[i]? = some m→zf w B (i*38) 38=some m.cells.toArray) (hB:B≠g) :
  Calls Tryz.prog 72 #[.pointer (some ⟨g,0,none⟩),.slice (some ⟨B,0,none⟩) f.length f.length] w fun e w'=>e = .returned (.int .i64 0)∧LkP w' g S {l with out:=qaq f l.out} sp en lo Z SJ∧Upd (· = g) w w':=by
 have b7:(f.length:Int)≤1000:=by omega
 have b5:=h.lt g h.inG
 have H:=qb h
 have HR:=qb hr
 have HM:=qb U
 clear h hr U
 go_enter Tryz.func72,Tryz.ntmps72
 go_wp2_with fail
 go_loopw [13] (fun iv wr=>∃i:Nat,iv = .int .i64 (i:Int)∧i≤f.length∧Hid (LkP wr g S {l with out:=qaq (f.take i) l.out} sp en lo Z SJ)∧Upd (· = g) w wr) (fun iv _=>f.length-(intOf iv).toNat)
 case atStart=>exact⟨0,rfl,Nat.zero_le _,H,Upd.refl _ _⟩
 case round =>
  obtain⟨i,rfl,hi,hC,u⟩:=hrel;obtain⟨E,rfl⟩:∃E:World,E=wr:=⟨_,rfl⟩;by_cases J:i<f.length
  ·have b6:(i:Int)<(f.length:Int):=by omega
   have R:f[i]? = some f[i]:=List.getElem?_eq_getElem J;generalize f[i]=m at R;have q:=qa HM m (List.mem_of_getElem? R);have rB:=qap (qa HR i m R) u hB;have a7:=q.put.ok.len;have T:=qb u;have HX:=qb R;have W:=qb q;clear u R q;obtain⟨N,v,V⟩:=qi7 E m a7;go_upto_region 4 with fail;change Code.wp _ _ _ _ (qj4 E m);generalize qj4 E m=w1 at v V ⊢;generalize E.heap.size=K at v N ⊢;have rK:=v.row;obtain⟨t,a8,b3,P,C⟩:=qmk m (qa W) w1;have r:=fun w'=>qu6 t w' a8 b3
   have hP:=(qa hC).new V;have U1:=qb ((qa T).trans (V.mono (fun _ _ h=>h.elim)));have L:=qhk ⟨#[]⟩ (f.take i) (fun m U=>qa HM m (List.mem_of_mem_take U)) l.out;have M:(qaq (f.take i) l.out).size≤1099512653776:=by
    rw[List.length_take] at L;omega
   have a6:(qc0 t).size≤1026:=by rw[qd3];omega
   generalize hO:qaq (f.take i) l.out=O at hP M;have HO:=qb hO;have X:=qb hP;have F:=qb P;generalize qc0 t=ft at r a6 F;clear N v V hC T hP L hO P;go_wp2_with fail;refine C.mono ?_;rintro e w2 ⟨rfl,n2⟩;have X:=qb ((qa X).new n2);have U2:=qb ((qa U1).trans (n2.mono (fun _ _ h=>h.elim)));clear C rK n2;go_wp2_with fail;refine(r w2).mono ?_;rintro e w3 ⟨rfl,n3⟩;have z:=(qa X).new n3;have U3:=qb ((qa U2).trans (n3.mono (fun _ _ h=>h.elim)));have c3:w3.cell? ⟨g,3,none⟩=some (.string O):=qg z.at_ 3;have f3:=qv z.at_ 3;have I:=z.put_out (O++ft);have u4:Upd (· = g) w3 (w3.setCell ⟨g,3,none⟩ (.string (O++ft))):=(Upd.refl _ _).set1 _ _;have Y:=qb I;have U4:=qb ((qa U3).trans u4);have b4:O.size+ft.size≤9223372036854775807:=by omega
   clear r n3 z I u4;go_wp2_with fail;go_roundw
   case rel =>
    refine⟨i+1,by go_num,J,?_,qa U4⟩;have e1:=qq6 (qa HX) l.out;rw[qa HO,qa F] at e1;rw[e1];exact Y
   case measure=>simp[intOf];omega
  ·obtain rfl:i=f.length:=by omega
   have T:=qb u;clear u;go_wp2_with fail;go_ret;refine⟨rfl,?_,qa T⟩;have:=qa hC;rw[List.take_length] at this;exact this
end
section
open Go.RowKit
attribute [local go_sem ↓ high] qz zb ze zi qak
attribute [local go_sem] qax qay qa4 qx qab qco
structure SaysIt(en:Nat)(SC:Nat→Prop)(m:MsgV)(er:Int)(c':Ch)(e:Ending)(a a':World):Prop where
 ret:e = .returned (.tuple #[.agg m.cells.toArray,.int .i64 er])
 chn:ChS a' en (Fr SC a a') c'
 upd:Upd SC a a'
theorem q3n(H M en:Nat)(v:Nat→Prop)(F:FuncId)(I i:Array Value)(m:MsgV)(er:Int)(c':Ch)(S:MsgV)(w:World)(r:m.hash.length=32)
  (O:w.cell? ⟨H,0,none⟩=some (.func (.func F) I i)) (K:MsB w M S) (E:¬v M) (P:∀args w,(callFunc F args).run Tryz.prog w = .ok (.enter F args) w)
  (J:Calls Tryz.prog F (I++i) w fun e w'=>SaysIt en v m er c' e w w') :
  Calls Tryz.prog 88 #[.pointer (some ⟨H,0,none⟩),.pointer (some ⟨M,0,none⟩)] w fun e w'=>e = .returned (.int .i64 er)∧MsB w' M m∧∃a,Upd v w a∧ChS a en (Fr v w a) c'∧Upd (· = M) a w':=by
 have L:=qb K
 clear K
 go_enter Tryz.func88,Tryz.ntmps88
 go_wp2_with (with_reducible first|(first|refine' tw1 (qh ?_) ?_|refine' tw2 (qh ?_) ?_);rotate_left|refine' tw3 (qh ?_)|rfl|apply tn|refine' tw4 ?_)
 refine J.mono ?_
 rintro e w1 ⟨rfl,z,u⟩
 have q:=(qa L).upd u E
 have R:=q.stOk r
 have f:=q.put r
 have C:Upd (· = M) w1 (w1.setCells M 0 m.cells):=zc _
 have N:=qb (And.intro z (And.intro u (And.intro f C)))
 clear z u q f C J
 go_wp2_with (with_reducible first|(first|refine' tw1 (qh ?_) ?_|refine' tw2 (qh ?_) ?_);rotate_left|refine' tw3 (qh ?_)|rfl|apply tn|refine' tw4 ?_)
 go_ret
 obtain⟨z,u,f,C⟩:=qa N
 exact⟨rfl,f,w1,u,z,C⟩
theorem q3o(J M g:Nat)(S:Nat→Prop)(l:Lk)(sp en lo:Nat)(r v:Nat→Prop)(m:MsgV)(w:World)(h:LkP w g S l sp en lo r v)(C:SayOk m)(W:l.out.size≤1099511627776)
  (Y:w.cell? ⟨J,0,none⟩=some (.pointer (some ⟨g,0,none⟩))) (z:MsB w M m) :
  Calls Tryz.prog 89 #[.pointer (some ⟨J,0,none⟩),.pointer (some ⟨M,0,none⟩)] w fun e w'=>e = .returned (.int .i64 0)∧LkP w' g S {l with out:=l.out++qez m} sp en lo r v∧Upd (· = g) w w':=by
 have Z:=z.row
 have T:=h.lt g h.inG
 have L:=fun w' (X:qq w w') B R V=>q7c g B S l sp en lo r v [m] w' (h.new X) (fun x q=>by rw[List.mem_singleton.1 q];exact C) (by simp) W V R
 have H:=qb h
 have f:=C.put.ok.len
 have U:=m.len f
 have O:=qb z
 have b1:=zt w m f
 have E:qq w (w.alloc (.cells m.cells.toArray 101)):=(Upd.refl _ _).alloc _
 have F:=qb (L _ E w.heap.size (by omega) (fun i x q=>by
  cases i with
  | zero =>
   obtain rfl:m=x:=by simpa using q
   exact b1.row
  | succ i=>simp at q))
 have P:=qb E
 clear h z C L b1 E
 go_enter Tryz.func89,Tryz.ntmps89
 go_wp2_with (with_reducible first|(first|refine' tw1 (qh ?_) ?_|refine' tw2 (qh ?_) ?_);rotate_left|refine' tw3 (qh ?_)|rfl|apply tn|refine' tw4 ?_)
 refine(qa F).mono ?_
 rintro e w2 ⟨rfl,K,N⟩
 have I:=qb (And.intro K N)
 clear K N F
 go_wp2_with (with_reducible first|(first|refine' tw1 (qh ?_) ?_|refine' tw2 (qh ?_) ?_);rotate_left|refine' tw3 (qh ?_)|rfl|apply tn|refine' tw4 ?_)
 go_ret
 exact⟨rfl,(qa I).1,((qa P).mono (fun _ _ h=>h.elim)).trans (qa I).2⟩
end
section
open Go.RowKit
structure ActSt(W:World)(g:Nat)(S:Nat→Prop)(sp en lo M:Nat)(m:MsgV)(L:Lk)(a:World):Prop where
 upd:Upd (fun k=>S k∨k=M) W a
 msb:MsB a M m
 lk:∃SC SJ,LkP a g (Fr S W a) L sp en lo SC SJ
structure LkOk(l:Lk):Prop where
 dead:l.dead=false
 waits:l.waits=false
 fused:l.j.fused=false
 off:l.j.off=false
 many:0≤l.j.many∧l.j.many<1000000000000
 len:l.j.bs.size≤1000000000000
 out:l.out.size≤1000000000000
def Lk.says(l:Lk)(c':Ch)(rec:ByteArray)(m:MsgV):Lk:= {l with c:=c',j:=l.j.app rec,out:=l.out++qez m}
def q3p(i:Nat):Nat:=if i=0 then 87 else if i=1 then 88 else if i=2 then 112 else 89
def qte(g:Nat)(i:Nat):Array Value:=if i=0 then #[.pointer (some ⟨g,0,none⟩)] else #[]
def qkk(r q M f m:Nat)(i:Nat):Array Value :=
 if i=0 then #[] else if i=1 then #[.pointer (some ⟨q,0,none⟩),.pointer (some ⟨M,0,none⟩)] else if i=2 then #[.pointer (some ⟨f,0,none⟩),.pointer (some ⟨m,0,none⟩)] else #[.pointer (some ⟨r,0,none⟩),.pointer (some ⟨M,0,none⟩)]
def zdl(W:World)(g:Nat)(S:Nat→Prop)(sp en lo M:Nat)(m:MsgV)(l:Lk)(c':Ch)(rec:ByteArray)(er:Int)(i:Nat)(a:World):Prop :=
 if i≤1 then qq W a else er=0∧ActSt W g S sp en lo M m (if i=2 then {l with c:=c'} else if i=3 then {l with c:=c',j:=l.j.app rec} else l.says c' rec m) a
def zdm(W:World)(g:Nat)(S:Nat→Prop)(sp en lo M:Nat)(m:MsgV)(l:Lk)(c':Ch)(er:Int)(x:Int)(a:World):Prop:=x=er∧ActSt W g S sp en lo M m {l with c:=c'} a
theorem qzw(g b R U M O P B:Nat)(S:Nat→Prop)(l:Lk)(sp en lo:Nat)(SC SJ:Nat→Prop)(F:FuncId)(fs v:Array Value)(m:MsgV)(er:Int)(c':Ch)(xs:List ByteArray)(W:World)
  (h:LkP W g S l sp en lo SC SJ) (f:LkOk l) (b6:m.hash.length=32) (a7:er=0→SayOk m) (hT:Tabs W) (hA:ApD S)
  (b5:∀args w,(callFunc F args).run Tryz.prog w = .ok (.enter F args) w) (hF:∀a,qq W a→Calls Tryz.prog F (fs++v) a fun e E=>SaysIt en SC m er c' e a E)
  (cL:W.cell? ⟨R,0,none⟩=some (.pointer (some ⟨g,0,none⟩))) (cC:W.cell? ⟨U,0,none⟩=some (.func (.func F) fs v)) (hM:MsB W M MsgV.zero)
  (c0:W.cell? ⟨O,0,none⟩=some (.pointer (some ⟨g,0,none⟩))) (c1:W.cell? ⟨P,0,none⟩=some (.slice (some ⟨B,0,none⟩) xs.length xs.length)) (hx:∀j x,xs[j]? = some x→W.cell? ⟨B,j,none⟩=some (.string x))
  (hn:xs.length≤1000) (b7:(zq xs).size≤1024)
  (a6:qlr W b 4 q3p (qte g) (qkk R U M O P))
  (C:¬S R∧¬S M∧¬S O∧¬S P∧¬S b∧¬S B) (z:R≠M∧U≠M∧O≠M∧P≠M∧b≠M∧B≠M) (c2:B<W.heap.size) (c3:b<W.heap.size) (X:M≠4∧M≠1) :
  Calls Tryz.prog 66 #[.pointer (some ⟨g,0,none⟩),.slice (some ⟨b,0,none⟩) 4 4] W fun e w'=>Upd (fun k=>S k∨k=M∨W.heap.size≤k) W w'∧qyv 4 (zdl W g S sp en lo M m l c' (zq xs) er) (zdm W g S sp en lo M m l c' er) e w':=by
 have L:=h.lt
 have b3:=hM.lt
 have V:∀ {a:World} {k:Nat},k<W.heap.size→¬S k→¬Fr S W a k:=fun f hs e=>e.elim hs (fun e=>by omega)
 have b8:∀ {a:World} {T:Nat→Prop},Upd T W a→(∀k,T k→S k∨k=M)→Tabs a:=fun u Z=>hT.upd u (fun e=>(Z _ e).elim hA.c (fun e=>X.1 e.symm)) (fun e=>(Z _ e).elim hA.d (fun e=>X.2 e.symm))
 refine qwl g b 4 q3p (qte g) (qkk R U M O P) (fun k=>S k∨k=M∨W.heap.size≤k) _ _ W (by decide) (f.dead▸qg h.at_ 6) a6 ?_ ?_ ?_
 ·rintro (e | e | e)
  ·exact C.2.2.2.2.1 e
  ·exact z.2.2.2.2.1 e
  ·omega
 ·intro i hi a hC;rcases (by omega:i=0∨i=1∨i=2∨i=3) with rfl | rfl | rfl | rfl
  ·refine⟨enters_of Tryz.func87 (by kernel_rfl) rfl,?_⟩;have H:qq W a:=hC;refine(q2p g a (f.waits▸qg (h.new H).at_ 8)).mono ?_;rintro e E ⟨rfl,rfl⟩;exact⟨Upd.refl _ _,.inl ⟨rfl,H⟩⟩
  ·refine⟨enters_of Tryz.func88 (by kernel_rfl) rfl,?_⟩;have H:qq W a:=hC;have r:=hM.new H;refine(q3n U M en SC F fs v m er c' MsgV.zero a b6 (H.cell cC (fun h=>h)) r (fun e=>C.2.1 (h.inC _ e)) b5 (hF a H)).mono ?_;rintro e E ⟨rfl,a8,a1,u1,b4,q⟩;have h1:=(h.new H).chan u1 b4;have z0:=H.size;have z1:=u1.size;have z2:=q.size;have K:=h1.upd q (fun k f e=>by
    rcases f with f | f
    ·exact C.2.1 (e▸f)
    ·omega)
   have h3:LkP E g (Fr S W E) {l with c:=c'} sp en lo (Fr SC a a1) SJ:=K.wider (fun k f=>f.elim .inl (fun e=> .inr ⟨by omega,by omega⟩)) (fun k f=>f.elim (fun e=>by have:=L k e;omega) (fun e=>e.2));have u:Upd (fun k=>S k∨k=M) W E:=((H.mono (fun _ _ h=>h.elim)).trans (u1.mono (fun k _ e=> .inl (h.inC k e)))).trans (q.mono (fun k _ e=> .inr e));have st:ActSt W g S sp en lo M m {l with c:=c'} E:=⟨u,a8,_,_,h3⟩;refine⟨(u1.mono (fun k _ e=> .inl (h.inC k e))).trans (q.mono (fun k _ e=> .inr (.inl e))),?_⟩;by_cases N:er=0
   ·subst N;exact .inl ⟨rfl,rfl,st⟩
   ·exact .inr ⟨er,N,rfl,rfl,st⟩
  ·refine⟨enters_of Tryz.func112 (by kernel_rfl) rfl,?_⟩;obtain⟨N,u,r,I,J,hl⟩:er=0∧ActSt W g S sp en lo M m {l with c:=c'} a:=hC;have z0:=u.size;have nT:∀k,k<W.heap.size→¬S k→k≠M→¬(S k∨k=M):=fun k _ h1 K e=>e.elim h1 K
   have Y:=World.block_lt_of_cell? W _ c0;refine(q2a O P B g (Fr S W a) {l with c:=c'} sp en lo I J xs a hl f.dead f.fused f.off ⟨f.many.1,by have:=f.many.2;show l.j.many<_;omega⟩ (by have:=f.len;show l.j.bs.size≤_;omega) (b8 u (fun k h=>h)) hn b7
    (u.cell c0 (fun e=>e.elim C.2.2.1 z.2.2.1)) (u.cell c1 (fun e=>e.elim C.2.2.2.1 z.2.2.2.1)) (fun j x e=>u.cell (hx j x e) (fun e=>e.elim C.2.2.2.2.2 z.2.2.2.2.2)) (by omega) (V Y C.2.2.1)).mono ?_
   rintro e E ⟨rfl,⟨b9,K⟩,q⟩;have z2:=q.size;refine⟨q.mono (fun k f e=>e.elim .inl (fun e=> .inr (.inr e.1))),.inl ⟨rfl,N,⟨?_,?_,?_⟩⟩⟩
   ·exact u.then q (fun k f e=>e.elim .inl (fun e=>by omega))
   ·exact r.upd q (V b3 C.2.1)
   ·exact⟨_,_,K.wider (fun k f=>f.elim (fun e=>e.elim .inl (fun e=> .inr ⟨e.1,by omega⟩)) (fun e=> .inr ⟨by omega,e.2⟩)) (fun k f=>f.elim (fun e=>by have:=L k e;omega) (fun e=>e.2))⟩
  ·refine⟨enters_of Tryz.func89 (by kernel_rfl) rfl,?_⟩;obtain⟨N,u,r,I,J,hl⟩:er=0∧ActSt W g S sp en lo M m {l with c:=c',j:=l.j.app (zq xs)} a:=hC;have z0:=u.size;have hg:=hl.inG;refine(q3o R M g (Fr S W a) _ sp en lo I J m a hl (a7 N) (by have:=f.out;show l.out.size≤_;omega) (u.cell cL (fun e=>e.elim C.1 z.1)) r).mono ?_;rintro e E ⟨rfl,K,q⟩;have z2:=q.size;refine⟨q.mono (fun k f e=> .inl (e▸h.inG)),.inl ⟨rfl,N,⟨?_,?_,?_⟩⟩⟩
   ·exact u.trans (q.mono (fun k f e=> .inl (e▸h.inG)))
   ·exact r.upd q (fun e=>C.2.1 (e▸h.inG))
   ·exact⟨_,_,K.wider (fun k f=>f.elim .inl (fun e=> .inr ⟨e.1,by omega⟩)) (fun k f=>f.elim (fun e=>by have:=L k e;omega) (fun e=>e.2))⟩
 ·exact Upd.refl _ _
attribute [local go_sem ↓ high] qz zb ze zi qak
attribute [local go_sem] qax qay qa4 qx qab qco
def LkE(w:World)(g:Nat)(S:Nat→Prop)(sp en lo:Nat)(l:Lk):Prop:=∃f i,LkP w g S l sp en lo f i
theorem LkE.upd{w w':World}{g:Nat}{S T:Nat→Prop}{sp en lo:Nat}{l:Lk}(h:LkE w g S sp en lo l)(u:Upd T w w')(hd:∀k,S k→¬T k):LkE w' g S sp en lo l:=by
 obtain⟨f,i,h⟩:=h;exact⟨f,i,h.upd u hd⟩
theorem LkE.new{w w':World}{g:Nat}{S:Nat→Prop}{sp en lo:Nat}{l:Lk}(h:LkE w g S sp en lo l)(u:qq w w'):LkE w' g S sp en lo l:=h.upd u (fun _ _ h=>h)
theorem LkE.wider{w:World}{g:Nat}{S T:Nat→Prop}{sp en lo:Nat}{l:Lk}(h:LkE w g S sp en lo l)(q:∀k,S k→T k)(m:∀k,T k→k<w.heap.size):LkE w g T sp en lo l:=by
 obtain⟨f,i,h⟩:=h;exact⟨f,i,h.wider q m⟩
theorem LkE.end_{w:World}{g:Nat}{S:Nat→Prop}{sp en lo:Nat}{l:Lk}(h:LkE w g S sp en lo l):w.cell? ⟨g,1,none⟩=some (.pointer (some ⟨en,0,none⟩)):=by
 obtain⟨f,i,h⟩:=h;exact qg h.at_ 1
theorem LkE.s{w:World}{g:Nat}{S:Nat→Prop}{sp en lo:Nat}{l:Lk}(h:LkE w g S sp en lo l):LkS w g S l:=by
 obtain⟨f,i,h⟩:=h;exact⟨sp,en,lo,f,i,h⟩
def za9(sp en lo:Nat)(g:Nat)(S:Nat→Prop)(l:Lk)(m:MsgV)(er:Int)(c':Ch)(rec:ByteArray)(w:World)(e:Ending)(w':World):Prop :=
 Upd S w w'∧((er≠0∧e = .returned (.tuple #[.agg MsgV.zero.cells.toArray,.int .i64 er])∧LkE w' g (Fr S w w') sp en lo {l with c:=c'}) ∨
  (er=0∧e = .returned (.tuple #[.agg m.cells.toArray,.int .i64 0])∧LkE w' g (Fr S w w') sp en lo (l.says c' rec m)))
theorem q8d(g B:Nat)(S:Nat→Prop)(l:Lk)(sp en lo:Nat)(SC SJ:Nat→Prop)(F:FuncId)(fs q:Array Value)(m:MsgV)(er:Int)(c':Ch)(xs:List ByteArray)(w:World)
  (h:LkP w g S l sp en lo SC SJ) (f:LkOk l) (a7:m.hash.length=32) (C:er=0→SayOk m) (hT:Tabs w) (hA:ApD S)
  (d2:∀args w,(callFunc F args).run Tryz.prog w = .ok (.enter F args) w) (V:∀a,qq w a→Calls Tryz.prog F (fs++q) a fun e a'=>SaysIt en SC m er c' e a a')
  (hx:∀j x,xs[j]? = some x→w.cell? ⟨B,j,none⟩=some (.string x)) (hn:xs.length≤1000) (d3:(zq xs).size≤1024) (d5:B<w.heap.size) (c9:¬S B) :
  Calls Tryz.prog 45 #[.pointer (some ⟨g,0,none⟩),.func (.func F) fs q,.slice (some ⟨B,0,none⟩) xs.length xs.length] w fun e w'=>za9 sp en lo g S l m er c' (zq xs) w e w':=by
 have d8:∀(fn:Fn) (first cap:Array Value) (w:World),(Instr.makeFunc fn first cap).run Tryz.prog w = .ok (.func fn first cap) w:=fun _ _ _ _=>rfl
 have c1:=qb h.lt
 have d7:=h.lt g h.inG
 obtain⟨K,E⟩:∃K,K=(((w.alloc (.cells #[.pointer (some ⟨g,0,none⟩)] 28)).alloc (.cells #[.func (.func F) fs q] 109)).alloc (.cells MsgV.zero.cells.toArray 101)).alloc (.cells MsgV.zero.cells.toArray 101):=⟨_,rfl⟩
 have n4:qq w K:=by rw[E];exact((((Upd.refl _ _).alloc _).alloc _).alloc _).alloc _
 have z4:K.heap.size=w.heap.size+4:=by rw[E];simp only[World.size_alloc]
 have bL:K.cell? ⟨w.heap.size,0,none⟩=some (.pointer (some ⟨g,0,none⟩)):=by
  rw[E];exact qg (qs (qs (qs (qj _ _) _) _) _) 0
 have bC:K.cell? ⟨w.heap.size+1,0,none⟩=some (.func (.func F) fs q):=by
  rw[E];have:=qj (w.alloc (.cells #[.pointer (some ⟨g,0,none⟩)] 28)) (.cells #[.func (.func F) fs q] 109);rw[World.size_alloc] at this;exact qg (qs (qs this _) _) 0
 have bR:MsB K (w.heap.size+2) MsgV.zero:=by
  rw[E];have:=qj ((w.alloc (.cells #[.pointer (some ⟨g,0,none⟩)] 28)).alloc (.cells #[.func (.func F) fs q] 109)) (.cells MsgV.zero.cells.toArray 101);rw[World.size_alloc,World.size_alloc] at this;exact⟨qs this _,qm⟩
 have bM:MsB K (w.heap.size+3) MsgV.zero:=by
  rw[E];have:=qj (((w.alloc (.cells #[.pointer (some ⟨g,0,none⟩)] 28)).alloc (.cells #[.func (.func F) fs q] 109)).alloc (.cells MsgV.zero.cells.toArray 101)) (.cells MsgV.zero.cells.toArray 101);rw[World.size_alloc,World.size_alloc,World.size_alloc] at this;exact⟨this,qm⟩
 have HX:=qb (And.intro h (And.intro f (And.intro C (And.intro V hx))))
 have b5:=qb (And.intro hT hA)
 clear h f C V hx hT hA
 go_enter Tryz.func45,Tryz.ntmps45
 go_upto_region 2 with fail
 rw[←E]
 have bR:MsB K (w.heap.size+1+1) MsgV.zero:=bR
 have bM:MsB K (w.heap.size+1+1+1) MsgV.zero:=bM
 have HW:=qb z4
 clear E z4
 generalize hZ:w.heap.size=Z at *
 have HZ:=qb hZ
 clear hZ
 have c3:K.drew.cell? ⟨Z,0,none⟩=some (.pointer (some ⟨g,0,none⟩)):=bL
 have HB:=qb (And.intro bL (And.intro bC (And.intro bR bM)))
 have N4:=qb n4
 clear bL bC bR bM n4
 refine qa1 (fun w'=>w'.cell? ⟨Z,0,none⟩=some (.pointer (some ⟨g,0,none⟩))) [0,1,4] (.of [0,1,2,3,4,5,6,7,8,9,10]) (by kernel_rfl) (by kernel_rfl) c3 ?_
 simp only[Plan.of]
 go_wp2_with (with_reducible first|(first|refine' zv (qh ?_) ?_|refine' zx (qh ?_) ?_|refine' zy (qh ?_) ?_);rotate_left|refine' zz (qh ?_)|refine' qw5 (qh ?_)|rfl|apply qn)
 refine(qo1 g _ _ _ K.drew).mono ?_
 rintro e w5 ⟨P0,P1,rfl,n5,L,M,a8,b3,d0,d1⟩
 have n5:=n5.ofDrew
 have b9:=n5.cell (qa HB).1 (fun h=>h)
 have HD:=qb (And.intro n5 (And.intro L (And.intro M (And.intro a8 (And.intro b3 (And.intro d0 d1))))))
 clear n5 L M a8 b3 d0 d1 c3
 go_wp2_with (first | (with_reducible first|(first|refine' zv (qh ?_) ?_|refine' zx (qh ?_) ?_|refine' zy (qh ?_) ?_);rotate_left|refine' zz (qh ?_)|refine' qw5 (qh ?_)|rfl|apply qn) | refine⟨b9,?_⟩)
 have nW:qq w5 (w5.alloc (.cells #[.func (.func 87) #[.pointer (some ⟨g,0,none⟩)] #[],.func (.func 88) #[] #[.pointer (some ⟨Z+1,0,none⟩),.pointer (some ⟨Z+1+1+1,0,none⟩)],.func (.func 112) #[] #[.pointer (some ⟨P0,0,none⟩),.pointer (some ⟨P1,0,none⟩)],.func (.func 89) #[] #[.pointer (some ⟨Z,0,none⟩),.pointer (some ⟨Z+1+1+1,0,none⟩)]] 62)):=(Upd.refl _ _).alloc _
 have bW:=qj w5 (.cells #[.func (.func 87) #[.pointer (some ⟨g,0,none⟩)] #[],.func (.func 88) #[] #[.pointer (some ⟨Z+1,0,none⟩),.pointer (some ⟨Z+1+1+1,0,none⟩)],.func (.func 112) #[] #[.pointer (some ⟨P0,0,none⟩),.pointer (some ⟨P1,0,none⟩)],.func (.func 89) #[] #[.pointer (some ⟨Z,0,none⟩),.pointer (some ⟨Z+1+1+1,0,none⟩)]] 62)
 have zW:(w5.alloc (.cells #[.func (.func 87) #[.pointer (some ⟨g,0,none⟩)] #[],.func (.func 88) #[] #[.pointer (some ⟨Z+1,0,none⟩),.pointer (some ⟨Z+1+1+1,0,none⟩)],.func (.func 112) #[] #[.pointer (some ⟨P0,0,none⟩),.pointer (some ⟨P1,0,none⟩)],.func (.func 89) #[] #[.pointer (some ⟨Z,0,none⟩),.pointer (some ⟨Z+1+1+1,0,none⟩)]] 62)).heap.size=w5.heap.size+1:=World.size_alloc _ _
 generalize w5.alloc (.cells #[.func (.func 87) #[.pointer (some ⟨g,0,none⟩)] #[],.func (.func 88) #[] #[.pointer (some ⟨Z+1,0,none⟩),.pointer (some ⟨Z+1+1+1,0,none⟩)],.func (.func 112) #[] #[.pointer (some ⟨P0,0,none⟩),.pointer (some ⟨P1,0,none⟩)],.func (.func 89) #[] #[.pointer (some ⟨Z,0,none⟩),.pointer (some ⟨Z+1+1+1,0,none⟩)]] 62)=W at nW bW zW ⊢
 have c0:=nW.cell b9 (fun h=>h)
 refine⟨c0,?_⟩
 obtain⟨N,L,M,a8,b3,d0,d1⟩:=qa HD
 obtain⟨h,f,C,V,hx⟩:=qa HX
 obtain⟨hT,hA⟩:=qa b5
 have P:qq w W:=((qa N4).trans N).trans nW
 have z4:=qa HW
 have z5:=N.size
 have L:K.heap.size≤P0:=L
 have M:K.heap.size≤P1:=M
 have b4:qlr W w5.heap.size 4 q3p (qte g) (qkk Z (Z+1) (Z+1+1+1) P0 P1):=by
  intro i hi;rcases (by omega:i=0∨i=1∨i=2∨i=3) with rfl | rfl | rfl | rfl
  ·exact qg bW 0
  ·exact qg bW 1
  ·exact qg bW 2
  ·exact qg bW 3
 have hS:∀k,Z≤k→¬S k:=fun k f e=>by have:=qa c1 k e;omega
 have d4:=hT.lt
 have d6:=qa HZ
 have c4:=((qa HB).2.2.2.new N).new nW
 have c5:=((qa HB).2.2.1.new N).new nW
 have I:=qzw g w5.heap.size Z (Z+1) (Z+1+1+1) P0 P1 B S l sp en lo SC SJ F fs q m er c' xs W (h.new P) f a7 C (hT.new P) hA d2 (fun a na=>V a (P.trans na)) c0
  (nW.cell (N.cell (qa HB).2.1 (fun h=>h)) (fun h=>h)) c4 (nW.cell d0 (fun h=>h)) (nW.cell d1 (fun h=>h)) (fun j x e=>P.cell (hx j x e) (fun h=>h)) hn d3 b4
  ⟨hS _ (by omega),hS _ (by omega),hS _ (by omega),hS _ (by omega),hS _ (by omega),c9⟩ ⟨by omega,by omega,by omega,by omega,by omega,by omega⟩ (by omega) (by omega) ⟨by omega,by omega⟩
 have NN:=qb P
 have X:=qb c5
 have a6:=qb (And.intro z4 (And.intro z5 zW))
 have Y:=qb hS
 clear b4 bW d4 c4 c5 hS P nW N L M a8 b3 d0 d1 h f C V hx hT hA z4 z5 zW HD HB b9 c0 bR bM
 generalize w5.heap.size=bb at *
 go_wp2_with (with_reducible first|(first|refine' zv (qh ?_) ?_|refine' zx (qh ?_) ?_|refine' zy (qh ?_) ?_);rotate_left|refine' zz (qh ?_)|refine' qw5 (qh ?_)|rfl|apply qn)
 refine I.mono ?_
 rintro e w6 ⟨R,(⟨rfl,he,r⟩ | ⟨x,c6,rfl,he,r⟩)⟩
 ·have r:ActSt W g S sp en lo (Z+1+1+1) m (l.says c' (zq xs) m) w6:=r;have v:=he;have b8:=trivial;clear he;have H:=(qa X).upd R (fun e=>by
   have z:=qa a6;rcases e with e | e | e
   ·exact qa Y _ (by omega) e
   ·omega
   ·omega)
  have J:=H.stOk a7;have U:=H.put a7;have O:Upd (· = Z+1+1) w6 (w6.setCells (Z+1+1) 0 m.cells):=zc _;have V:=U.at_;have rM:=r.msb.row;have HQ:=qb (And.intro R (And.intro r (And.intro O v)));clear H U O R r v I X HX b5 N4 b8;go_wp2_with (first | (with_reducible first|(first|refine' zv (qh ?_) ?_|refine' zx (qh ?_) ?_|refine' zy (qh ?_) ?_);rotate_left|refine' zz (qh ?_)|refine' qw5 (qh ?_)|rfl|apply qn) | (with_reducible first|(first|refine' tw1 (qh ?_) ?_|refine' tw2 (qh ?_) ?_);rotate_left|refine' tw3 (qh ?_)|rfl|apply tn|refine' tw4 ?_));refine bodyPost_ret (qy rfl _ _ (Z+1+1) _ _ _ _ rfl V Tryz.underlying101 rfl (by rw[List.size_toArray,MsgV.len _ a7];exact Tryz.infoMsg)) rfl ?_;obtain⟨R,r,O,v⟩:=qa HQ;have P:=qa NN;have z:=qa a6;have zw:=qa HZ;have zn:=P.size;have z6:=R.size;have z7:=O.size;have hs:=qa Y;refine⟨?_,.inr ⟨v,rfl,?_⟩⟩
  ·refine((P.mono (T:=S) (fun _ _ h=>h.elim)).then R (fun k f e=> ?_)).then O (fun k f e=>by omega);rcases e with e | e | e
   ·exact e
   ·omega
   ·omega
  ·obtain⟨b6,b7,hl⟩:=r.lk;have c2:=hl.upd O (fun k f e=>by
    rcases f with f | f
    ·exact hs _ (by omega) (e▸f)
    ·omega)
   exact⟨b6,b7,c2.wider (fun k f=>f.elim .inl (fun e=> .inr ⟨by omega,by omega⟩)) (fun k f=>f.elim (fun e=>by have:=qa c1 k e;omega) (fun e=>e.2))⟩
 ·have he:x=er:=he;subst he;have v:=c6;have b8:=trivial;have H:=(qa X).upd R (fun e=>by
   have z:=qa a6;rcases e with e | e | e
   ·exact qa Y _ (by omega) e
   ·omega
   ·omega)
  have J:=H.stOk (k:=MsgV.zero) qm;have U:=H.put (k:=MsgV.zero) qm;have O:Upd (· = Z+1+1) w6 (w6.setCells (Z+1+1) 0 MsgV.zero.cells):=zc _;have V:=U.at_;have HQ:=qb (And.intro R (And.intro r (And.intro O v)));clear H U O R r v I X HX b5 N4 b8;have c8:=qb J;have c7:=qb V;clear J V;go_upto_if 21 with (first | (with_reducible first|(first|refine' zv (qh ?_) ?_|refine' zx (qh ?_) ?_|refine' zy (qh ?_) ?_);rotate_left|refine' zz (qh ?_)|refine' qw5 (qh ?_)|rfl|apply qn) | (with_reducible first|(first|refine' tw1 (qh ?_) ?_|refine' tw2 (qh ?_) ?_);rotate_left|refine' tw3 (qh ?_)|rfl|apply tn|refine' tw4 ?_));refine wp_cond_true (show _=Value.bool true from congrArg Value.bool (show (x != 0)=true by simpa using c6)) ?_;have J:=qa c8;go_wp2_with (first | (with_reducible first|(first|refine' zv (qh ?_) ?_|refine' zx (qh ?_) ?_|refine' zy (qh ?_) ?_);rotate_left|refine' zz (qh ?_)|refine' qw5 (qh ?_)|rfl|apply qn) | (with_reducible first|(first|refine' tw1 (qh ?_) ?_|refine' tw2 (qh ?_) ?_);rotate_left|refine' tw3 (qh ?_)|rfl|apply tn|refine' tw4 ?_));refine bodyPost_ret (qy rfl _ _ (Z+1+1) _ _ _ _ rfl (qa c7) Tryz.underlying101 rfl (by rw[List.size_toArray,MsgV.len _ qm];exact Tryz.infoMsg)) rfl ?_;obtain⟨R,r,O,v⟩:=qa HQ;have P:=qa NN;have z:=qa a6;have zw:=qa HZ;have zn:=P.size;have z6:=R.size;have z7:=O.size;have hs:=qa Y;refine⟨?_,.inl ⟨v,rfl,?_⟩⟩
  ·refine((P.mono (T:=S) (fun _ _ h=>h.elim)).then R (fun k f e=> ?_)).then O (fun k f e=>by omega);rcases e with e | e | e
   ·exact e
   ·omega
   ·omega
  ·obtain⟨b6,b7,hl⟩:=r.lk;have c2:=hl.upd O (fun k f e=>by
    rcases f with f | f
    ·exact hs _ (by omega) (e▸f)
    ·omega)
   exact⟨b6,b7,c2.wider (fun k f=>f.elim .inl (fun e=> .inr ⟨by omega,by omega⟩)) (fun k f=>f.elim (fun e=>by have:=qa c1 k e;omega) (fun e=>e.2))⟩
end
section
open Go.RowKit
theorem LkS.wider{w:World}{g:Nat}{S T:Nat→Prop}{l:Lk}(h:LkS w g S l)(q:∀k,S k→T k)(m:∀k,T k→k<w.heap.size):LkS w g T l:=by
 obtain⟨sp,en,lo,f,i,h⟩:=h;exact⟨sp,en,lo,f,i,h.wider q m⟩
theorem LkS.later{S:Nat→Prop}{w1 m f:World}{g:Nat}{l:Lk}(h:LkS f g (Fr S m f) l)(q:w1.heap.size≤m.heap.size):LkS f g (Fr S w1 f) l :=
 h.wider (fun k i=>i.elim .inl (fun e=> .inr ⟨by omega,e.2⟩)) (fun k i=>i.elim (fun e=>h.lt k (.inl e)) (fun e=>e.2))
def qro(m:MsgV)(er:Int):MsgV:=if er=0 then m else MsgV.zero
def Lk.acts(l:Lk)(c':Ch)(rec:ByteArray)(m:MsgV)(er:Int):Lk:=if er=0 then l.says c' rec m else {l with c:=c'}
theorem qtf{m:MsgV}{er:Int}(h:m.hash.length=32):(qro m er).hash.length=32:=by
 unfold qro;split
 ·exact h
 ·exact qm
theorem qn3(g B:Nat)(S:Nat→Prop)(l:Lk)(sp en lo:Nat)(r K:Nat→Prop)(F:FuncId)(v f:Array Value)(m:MsgV)(er:Int)(c':Ch)(xs:List ByteArray)(w:World)
  (h:LkP w g S l sp en lo r K) (P:LkOk l) (I:m.hash.length=32) (i:er=0→SayOk m) (O:Tabs w) (M:ApD S)
  (E:∀args w,(callFunc F args).run Tryz.prog w = .ok (.enter F args) w) (N:∀a,qq w a→Calls Tryz.prog F (v++f) a fun e L=>SaysIt en r m er c' e a L)
  (T:∀j x,xs[j]? = some x→w.cell? ⟨B,j,none⟩=some (.string x)) (R:xs.length≤1000) (J:(zq xs).size≤1024) (C:B<w.heap.size) (z:¬S B) :
  Calls Tryz.prog 45 #[.pointer (some ⟨g,0,none⟩),.func (.func F) v f,.slice (some ⟨B,0,none⟩) xs.length xs.length] w fun e w'=>e = .returned (.tuple #[.agg (qro m er).cells.toArray,.int .i64 er])∧LkE w' g (Fr S w w') sp en lo (l.acts c' (zq xs) m er)∧Upd S w w':=by
 refine(q8d g B S l sp en lo r K F v f m er c' xs w h P I i O M E N T R J C z).mono ?_
 rintro e w' ⟨u,(⟨q,rfl,H⟩ | ⟨q,rfl,H⟩)⟩
 ·unfold qro Lk.acts;rw[if_neg q,if_neg q];exact⟨rfl,H,u⟩
 ·subst q;exact⟨rfl,H,u⟩
theorem zak(a:ByteArray):zq [a]=a:=by
 show a++(⟨#[]⟩:ByteArray)=a;exact ByteArray.append_empty
attribute [local go_sem ↓ high] qz zb ze zi qak
attribute [local go_sem] qax qay qa4 qx qab qco
end
end Go.Proofs.YtfmkdoachjgjbaaGreatDoor
