/-
  Package digest: bytes (the bytes of eight letters).
-/
import Derived.Test.YthnohmjbbeahmaaGreatDoorSha2
import Derived.Test.YthnohmjbbeahmaaGreatDoorMaa
import Derived.Test.YthnohmjbbeahmaaGreatDoorRows
import Derived.OpenShut
set_option linter.unusedVariables false
set_option linter.unusedSimpArgs false
namespace Go.Proofs.YthnohmjbbeahmaaGreatDoor
open Go.RowKit
def byI(h:List Int)(i:Nat):Int:=wd h (i / 4) / 2 ^ (24-8*(i%4))%256
def qhv(h:List Int)(n:Nat):List Int:=(List.range n).foldl (fun g i=>g.set i (byI h i)) (List.replicate 32 0)
theorem qj5(h:List Int):qhv h 0=List.replicate 32 0:=by unfold qhv;simp only[List.range_zero,List.foldl_nil]
theorem qj4(h:List Int)(n:Nat):qhv h (n+1)=(qhv h n).set n (byI h n):=by simp[qhv,List.range_succ]
theorem qi7(h:List Int)(n:Nat):(qhv h n).length=32:=by
 induction n with
 | zero=>rw[qj5];simp
 | succ n g=>rw[qj4];simp[g]
theorem Tryz.infoHash:(Tryz.prog.info? 33).map (·.size)=some 32:=by kernel_rfl
set_option maxRecDepth 100000 in
set_option maxHeartbeats 1000000 in
theorem q62(h:List Int)(w:World)(hh:h.length=8)(hu:qf5 h) :
  Calls Tryz.prog 112 #[.agg (h.map (Value.int .u32)).toArray] w fun e w'=>e = .returned (.agg ((qhv h 32).map (Value.int .u8)).toArray)∧qq w w':=by
 obtain⟨t,x,y,z,C,D,E,F,rfl⟩:=qce hh
 simp only[List.map_cons,List.map_nil]
 go_enter Tryz.func112,Tryz.ntmps112
 go_upto_region 2 with fail
 obtain⟨o,l⟩:∃o:World,o=((w.alloc (.cells #[.int .u32 t,.int .u32 x,.int .u32 y,.int .u32 z,.int .u32 C,.int .u32 D,.int .u32 E,.int .u32 F] 184)).alloc (.cells #[.int .u8 0,.int .u8 0,.int .u8 0,.int .u8 0,.int .u8 0,.int .u8 0,.int .u8 0,.int .u8 0,.int .u8 0,.int .u8 0,.int .u8 0,.int .u8 0,.int .u8 0,.int .u8 0,.int .u8 0,.int .u8 0,.int .u8 0,.int .u8 0,.int .u8 0,.int .u8 0,.int .u8 0,.int .u8 0,.int .u8 0,.int .u8 0,.int .u8 0,.int .u8 0,.int .u8 0,.int .u8 0,.int .u8 0,.int .u8 0,.int .u8 0,.int .u8 0] 33)).alloc (.cells #[.int .u8 0,.int .u8 0,.int .u8 0,.int .u8 0,.int .u8 0,.int .u8 0,.int .u8 0,.int .u8 0,.int .u8 0,.int .u8 0,.int .u8 0,.int .u8 0,.int .u8 0,.int .u8 0,.int .u8 0,.int .u8 0,.int .u8 0,.int .u8 0,.int .u8 0,.int .u8 0,.int .u8 0,.int .u8 0,.int .u8 0,.int .u8 0,.int .u8 0,.int .u8 0,.int .u8 0,.int .u8 0,.int .u8 0,.int .u8 0,.int .u8 0,.int .u8 0] 33):=⟨_,rfl⟩
 have sA:o.heap.size=w.heap.size+3:=by rw[l];simp
 have nA:qq w o:=by rw[l];exact(((Upd.refl _ _).alloc _).alloc _).alloc _
 have X:qbg .u32 o w.heap.size [t,x,y,z,C,D,E,F]:=by rw[l];exact⟨_,zr (zr (qi _ _) _) _⟩
 have vB:qbg .u8 o (w.heap.size+1+1) (List.replicate 32 0):=by
  rw[l];have:=qi ((w.alloc (.cells #[.int .u32 t,.int .u32 x,.int .u32 y,.int .u32 z,.int .u32 C,.int .u32 D,.int .u32 E,.int .u32 F] 184)).alloc (.cells #[.int .u8 0,.int .u8 0,.int .u8 0,.int .u8 0,.int .u8 0,.int .u8 0,.int .u8 0,.int .u8 0,.int .u8 0,.int .u8 0,.int .u8 0,.int .u8 0,.int .u8 0,.int .u8 0,.int .u8 0,.int .u8 0,.int .u8 0,.int .u8 0,.int .u8 0,.int .u8 0,.int .u8 0,.int .u8 0,.int .u8 0,.int .u8 0,.int .u8 0,.int .u8 0,.int .u8 0,.int .u8 0,.int .u8 0,.int .u8 0,.int .u8 0,.int .u8 0] 33)) (.cells #[.int .u8 0,.int .u8 0,.int .u8 0,.int .u8 0,.int .u8 0,.int .u8 0,.int .u8 0,.int .u8 0,.int .u8 0,.int .u8 0,.int .u8 0,.int .u8 0,.int .u8 0,.int .u8 0,.int .u8 0,.int .u8 0,.int .u8 0,.int .u8 0,.int .u8 0,.int .u8 0,.int .u8 0,.int .u8 0,.int .u8 0,.int .u8 0,.int .u8 0,.int .u8 0,.int .u8 0,.int .u8 0,.int .u8 0,.int .u8 0,.int .u8 0,.int .u8 0] 33);rw[World.size_alloc,World.size_alloc] at this;exact⟨_,this⟩
 have vR:qbg .u8 o (w.heap.size+1) (List.replicate 32 0):=by
  rw[l];have:=qi (w.alloc (.cells #[.int .u32 t,.int .u32 x,.int .u32 y,.int .u32 z,.int .u32 C,.int .u32 D,.int .u32 E,.int .u32 F] 184)) (.cells #[.int .u8 0,.int .u8 0,.int .u8 0,.int .u8 0,.int .u8 0,.int .u8 0,.int .u8 0,.int .u8 0,.int .u8 0,.int .u8 0,.int .u8 0,.int .u8 0,.int .u8 0,.int .u8 0,.int .u8 0,.int .u8 0,.int .u8 0,.int .u8 0,.int .u8 0,.int .u8 0,.int .u8 0,.int .u8 0,.int .u8 0,.int .u8 0,.int .u8 0,.int .u8 0,.int .u8 0,.int .u8 0,.int .u8 0,.int .u8 0,.int .u8 0,.int .u8 0] 33);rw[World.size_alloc] at this;exact⟨_,zr this _⟩
 rw[←l]
 clear l
 generalize K:w.heap.size=A at *
 have J:=qb K
 clear K
 obtain⟨Z,rfl⟩:∃Z:World,Z=o:=⟨_,rfl⟩
 have hok:qf5 [t,x,y,z,C,D,E,F]:=hu
 generalize M:[t,x,y,z,C,D,E,F]=I at X hok
 have b3:I.length=8:=by rw[←M];rfl
 go_wp2_with fail
 go_loopw [4,5] (fun _ W wr=>∃i:Nat,W = .int .i64 (i:Int)∧i≤32∧qbg .u8 wr (A+1+1) (qhv I i)∧Upd (fun k=>k=A+1+1) Z wr) (fun _ W _=>32-(intOf W).toNat)
 case atStart=>exact⟨0,rfl,by omega,by rw[qj5];exact vB,Upd.refl _ _⟩
 case round =>
  obtain⟨i,rfl,hi,m,N⟩:=hrel;by_cases b4:i<32
  ·have c0:wr.cell? ⟨A,i / 4,none⟩=some (.int .u32 (wd I (i / 4))):=(X.upd N (by omega)).cell (by omega);obtain⟨a0,a4⟩:=hok.at (i / 4);obtain⟨v1,c1⟩:∃v,wr.cell? ⟨A+1+1,i,none⟩=some v:=⟨_,m.cell (by rw[qi7];omega)⟩;have z1:=m.free i;have a5:(i:Int)<32:=by omega
   have a6:IntKind.i64.wrap ((i:Int) / 4)=(i:Int) / 4:=IntWalk.i64_in _ (by omega);have a7:((i:Int) / 4).toNat=i / 4:=by omega
   have a8:(0:Int)≤(i:Int) / 4:=by omega
   have a9:(i:Int) / 4<8:=by omega
   have H:=m.set i (byI I i);rw[←qj4] at H;have R:=qb H;clear H;go_wp2;have us:=N.set1 i (.int .u8 (byI I i));go_roundw
   case rel=>exact⟨i+1,by go_num,by omega,qa R,us⟩
   case measure=>simp[intOf];omega
  ·obtain rfl:i=32:=by omega
   rw[show ((32:Nat):Int)=32 from rfl];have Y:=vR.upd N (by omega);have nn:=nA.then N (by intro q V h;rw[qa J] at V;omega);have g:=qi7 I 32;subst M;generalize L:qhv [t,x,y,z,C,D,E,F] 32=O at m g;have P:=qb L;clear L X vB vR N;obtain⟨TB,m⟩:=m;obtain⟨T,U⟩:=Y;go_upto_region 7 with fail;refine wp_region_lit ?_;refine wpList_load_row rfl _ _ rfl (A+1+1) rfl TB _ _ _ m Tryz.underlying33 rfl (by rw[List.size_toArray,List.length_map,g];exact Tryz.infoHash) ?_;refine wpList_store_row rfl _ _ _ rfl (A+1) (O.map (Value.int .u8)).toArray rfl rfl T _ U (by rw[List.size_toArray,List.length_map,g];exact Tryz.infoHash) (by simp[g]) (by simp[Value.oneCell']) ?_;have hF:=setRow_heap wr (A+1) _ (O.map (Value.int .u8)).toArray T (0,0) U;have uF:Upd (fun k=>k=A+1) wr (wr.setRow (A+1) (O.map (Value.int .u8)).toArray):=⟨rfl,rfl,rfl,by simp,fun i _ hn=>setRow_other _ _ _ _ hn⟩;have nE:=nn.then uF (by intro q V h;rw[qa J] at V;omega);generalize wr.setRow (A+1) (O.map (Value.int .u8)).toArray=wF at hF nE ⊢;clear uF nn m U;go_wp2_with fail;refine bodyPost_ret (results_cell_row rfl _ _ (A+1) T _ _ _ rfl hF Tryz.underlying33 rfl (by rw[List.size_toArray,List.length_map,g];exact Tryz.infoHash)) rfl ?_;exact⟨by rw[qa P],nE⟩
def qbt(_ _:World):Prop:=True
theorem qbt.all(w w':World):qbt w w':=trivial
def isV(xs:List Value)(i:Nat)(v:Value)(_:World):Prop:=v=xs.getD i undef
def QS(g:World)(_:Nat)(w:World):Prop:=Q g w
section
variable {P:Program}{l:List Oper}{A:List (List Nat)}{L:List (List (Nat × Nat))}{n:Nat}
def qgo(st:List Nat)(g:Array Bool):Nat:=st.countP fun s=>g.getD s false
def stB(l:List Oper)(st:List Nat):Bool:=decide st.Nodup&&st.all fun s=>decide (s<l.length)
def qo4(A:List (List Nat))(st:List Nat)(i:Nat):List (Nat × Nat) :=
 (List.range (st.countP (fun s=>s != i && !(A.getD s []).contains i)+1)).filterMap fun k =>
  if st.countP (fun s=>(A.getD i []).contains s)≤k then some (k,k+if st.contains i then 1 else 0) else none
theorem q9z{st:List Nat}{i:Nat}{g:Array Bool}(x:stB l st=true)(q:g.getD i false=false)(t:∀k∈A.getD i [],g.getD k false=true)(v:∀s,s∈st→i∈A.getD s []→g.getD s false=false) :
  (qgo st g,qgo st g+if st.contains i then 1 else 0)∈qo4 A st i:=by
 unfold qo4
 rw[List.mem_filterMap]
 refine⟨qgo st g,List.mem_range.2 ?_,?_⟩
 ·refine Nat.lt_succ_of_le (List.countP_mono_left fun s o m=> ?_);simp only[Bool.and_eq_true,bne_iff_ne,ne_eq,Bool.not_eq_true'];refine⟨?_,?_⟩
  ·rintro rfl;rw[q] at m;cases m
  ·cases w:(A.getD s []).contains i with
   | false=>rfl
   | true =>
    have:=v s o (List.contains_iff_mem.1 w);rw[this] at m;cases m
 ·rw[if_pos];exact List.countP_mono_left fun s _ o=>t s (List.contains_iff_mem.1 o)
theorem q83{st:List Nat}{g:Array Bool}(m:stB l st=true)(o:∀i,i<l.length→g.getD i false=true):qgo st g=st.length:=by
 unfold stB at m;simp only[Bool.and_eq_true,List.all_eq_true,decide_eq_true_eq] at m;exact List.countP_eq_length.2 fun s q=>o s (m.2 s q)
theorem q84{st:List Nat}{g:Array Bool}{i:Nat}(m:stB l st=true)(z:i<g.size)(t:g.getD i false=false):qgo st (g.setIfInBounds i true)=qgo st g+if st.contains i then 1 else 0:=by
 unfold stB at m;simp only[Bool.and_eq_true,decide_eq_true_eq] at m;have w:=m.1;clear m;unfold qgo
 induction st with
 | nil=>rfl
 | cons s st v =>
  have v:=v w.tail;rw[List.countP_cons,List.countP_cons,v];by_cases h:s=i
  ·subst h;have q:st.contains s=false:=by
    cases y:st.contains s with
    | false=>rfl
    | true=>exact absurd (List.contains_iff_mem.1 y) (List.nodup_cons.1 w).1
   have o:(g.setIfInBounds s true).getD s false=true:=qgk z;rw[o,t,q];simp
  ·have o:(g.setIfInBounds i true).getD s false=g.getD s false:=getD_set_ne false (fun e=>h e.symm);rw[o];have x:(s::st).contains i=st.contains i:=by
    rw[List.contains_cons];have:(i==s)=false:=by simpa using fun e=>h e.symm
    rw[this,Bool.false_or]
   rw[x];omega
def qyz(P:Program)(a0:Act)(S:Nat→World→Prop)(R:World→World→Prop)(Φ:Nat→Value→World→Prop)(i:Nat)(o:Oper)(Li:List (Nat × Nat))(Ti:List (Nat × Nat)):Prop :=
 ∀t∈Ti,∀(qm:Nat→Value) (w:World),S t.1 w→(∀p∈Li,Φ p.1 (qm p.1) w) →
  match o.guard with
  | none=>zq P o (putL a0 qm Li).eval w fun v w'=>R w w'∧S t.2 w'∧Φ i v w'
  | some (g,b)=>Φ g (qm g) w→(qm g = .bool b→zq P o (putL a0 qm Li).eval w fun v w'=>R w w'∧S t.2 w'∧Φ i v w')∧(qm g ≠ .bool b→S t.2 w∧Φ i undef w)
def qbu(P:Program)(a0:Act)(S:Nat→World→Prop)(R:World→World→Prop)(Φ:Nat→Value→World→Prop):Nat→List Oper→List (List (Nat × Nat))→List (List (Nat × Nat))→Prop
 | _,[],_,_=>True
 | i,o::os,L,T=>qyz P a0 S R Φ i o (L.headD []) (T.headD [])∧qbu P a0 S R Φ (i+1) os L.tail T.tail
theorem qbu.nil{a0:Act}{S:Nat→World→Prop}{R:World→World→Prop}{Φ:Nat→Value→World→Prop}{i:Nat}{L T:List (List (Nat × Nat))} : qbu P a0 S R Φ i [] L T:=trivial
theorem qbu.at{a0:Act}{S:Nat→World→Prop}{R:World→World→Prop}{Φ:Nat→Value→World→Prop} : ∀ {os:List Oper} {L T:List (List (Nat × Nat))} {k:Nat},qbu P a0 S R Φ k os L T→∀(i:Nat) o,os[i]? = some o→qyz P a0 S R Φ (k+i) o (L.getD i []) (T.getD i [])
 | [],_,_,_,_,_,_,h=>by simp at h
 | o::os,L,T,k,h,0,m,g=>by
  simp only[List.getElem?_cons_zero,Option.some.injEq] at g;subst g;have:=h.1;cases L<;>cases T<;>exact this
 | o::os,L,T,k,h,i+1,m,g=>by
  have:=qbu.at h.2 i m (by simpa using g);rw[show k+(i+1)=k+1+i by omega];cases L<;>cases T<;>exact this
theorem qnp{o:Oper}{ρ:Operand→Value}{w:World}{K g:Value→World→Prop}(h:zq P o ρ w K)(k:∀v w',K v w'→g v w'):zq P o ρ w g:=by
 unfold zq at h ⊢;generalize (execOp ρ o).run P w=r at h ⊢;cases r with
 | ok n w' =>
  cases n<;>simp only at h ⊢
  ·exact k _ _ h
  ·exact k _ _ h
  ·refine h.mono fun e q i=> ?_
   obtain⟨v,hv,m⟩:=i;exact⟨v,hv,k _ _ m⟩
 | halt x w'=>simp only at h
theorem qbu.one{a0:Act}{S:Nat→World→Prop}{R:World→World→Prop}{Φ:Nat→Value→World→Prop}{i:Nat}{o:Oper}{os:List Oper}{Li:List (Nat × Nat)}{L T:List (List (Nat × Nat))}{k g:Nat}(q:o.guard=none)
  (h:∀(qm:Nat→Value) (w:World),S k w→q6o Φ qm w Li→zq P o (putL a0 qm Li).eval w fun v w'=>R w w'∧S g w'∧Φ i v w')
  (r:qbu P a0 S R Φ (i+1) os L T):qbu P a0 S R Φ i (o::os) (Li::L) ([(k,g)]::T) :=
 ⟨fun t y qm w m x=>by
  obtain rfl:=List.mem_singleton.1 y;rw[q];exact h qm w m (qor x),r⟩
theorem qbu.any{a0:Act}{S:Nat→World→Prop}{R:World→World→Prop}{Φ:Nat→Value→World→Prop}{i:Nat}{o:Oper}{os:List Oper}{Li Ti:List (Nat × Nat)}{L T:List (List (Nat × Nat))}(m:o.guard=none)
  (h:∀t∈Ti,∀(qm:Nat→Value) (w:World),S t.1 w→q6o Φ qm w Li→zq P o (putL a0 qm Li).eval w fun v w'=>R w w'∧S t.2 w'∧Φ i v w')
  (r:qbu P a0 S R Φ (i+1) os L T):qbu P a0 S R Φ i (o::os) (Li::L) (Ti::T) :=
 ⟨fun t x qm w g q=>by
  rw[m];exact h t x qm w g (qor q),r⟩
theorem qbu.pure{a0:Act}{S:Nat→World→Prop}{R:World→World→Prop}{Φ:Nat→Value→World→Prop}{i:Nat}{o:Oper}{os:List Oper}{Li Ti:List (Nat × Nat)}{L T:List (List (Nat × Nat))}(y:o.guard=none)(g:∀w,R w w)(q:(Ti.all fun t=>t.1==t.2)=true)
  (h:∀(qm:Nat→Value) (w:World),q6o Φ qm w Li→zq P o (putL a0 qm Li).eval w fun v w'=>w'=w∧Φ i v w)
  (r:qbu P a0 S R Φ (i+1) os L T):qbu P a0 S R Φ i (o::os) (Li::L) (Ti::T) :=
 ⟨fun t C qm w m z=>by
  rw[y];have e:t.1=t.2:=by simpa using List.all_eq_true.1 q t C
  rw[e] at m;exact qnp (h qm w (qor z)) fun v w' x=>by
   obtain⟨rfl,hv⟩:=x;exact⟨g _,m,hv⟩,r⟩
structure DagInvP(l:List Oper)(A:List (List Nat))(st:List Nat)(a0:Act)(S:Nat→World→Prop)(Φ:Nat→Value→World→Prop)(listed:Array Bool)(a:Act)(w:World)(qm:Nat→Value):Prop where
 size:listed.size=l.length
 s:S (qgo st listed) w
 phi:∀i,listed.getD i false=true→Φ i (qm i) w
 shut:∀i,listed.getD i false=true→∀k∈A.getD i [],listed.getD k false=true
 defers:a.defers=a0.defers
 tmps:a.tmps.size=a0.tmps.size
 other:∀t,(∀i,listed.getD i false=true→qbp l i≠some t)→a.tmps[t]? = a0.tmps[t]?
 at_:∀i t,listed.getD i false=true→qbp l i=some t→a.tmps[t]? = some (qm i)
theorem za3(D:Dag l A L n){st:List Nat}(a7:stB l st=true){TS:List (List (Nat × Nat))}(c2:(List.range l.length).map (qo4 A st)=TS){a0:Act}(hn:a0.tmps.size=n){S:Nat→World→Prop}{R:World→World→Prop}{Φ:Nat→Value→World→Prop}{Q:Exit→Act→World→Prop}
  (c0:∀w,R w w) (a4:∀i v w w' k k',S k w→S k' w'→R w w'→Φ i v w→Φ i v w') (a9:qbu P a0 S R Φ 0 l L TS)
  (c1:∀qm w,S st.length w→(∀i,i<l.length→Φ i (qm i) w)→Q .normal (putL a0 qm (qbc l)) w) :
  ∀(E:Nat) (y:Array Bool) (a:Act) (w:World) (qm:Nat→Value),DagInvP l A st a0 S Φ y a w qm→(List.range l.length).countP (fun i=> !y.getD i false)≤E→wpAny P .any l.toArray Q E y a w:=by
 have Y:∀(y:Array Bool) (a:Act) (w:World) (qm:Nat→Value),DagInvP l A st a0 S Φ y a w qm→Region.ready .any l.toArray y=[]→Q .normal a w:=by
  intro y a w qm I hr;have a5:∀(i:Nat),i<l.length→y.getD i false=true:=by
   intro i
   induction i using Nat.strongRecOn with
   | _ i ih =>
    intro N;cases hl:y.getD i false with
    | true=>rfl
    | false =>
     exfalso;have:i∈Region.ready .any l.toArray y:=by
      rw[mem_ready];have ho:l[i]? = some l[i]:=List.getElem?_eq_getElem N;refine⟨?_,l[i],by simp[N],fun e he hb=> ?_⟩
      ·rw[Array.getD_eq_getD_getElem?] at hl ⊢;have:i<y.size:=by rw[I.size];exact N
       rw[Array.getElem?_eq_getElem this] at hl ⊢;simpa using hl
      ·have T:=(D.edge i _ ho e he hb).1;have h2:=(D.anc i _ ho _ T).1;exact ih _ h2 (by omega)
     rw[hr] at this;cases this
  have ha:a=putL a0 qm (qbc l):=by
   refine q2h (by rw[qip];exact I.defers) fun t=> ?_
   by_cases h:∃i,qbp l i=some t
   ·obtain⟨i,N⟩:=h;have F:=(qmw N).1;rw[I.at_ i t (a5 i F) N];have hm:(i,t)∈qbc l:=by
     unfold qbc;rw[List.mem_filterMap];exact⟨i,List.mem_range.2 F,by rw[N];rfl⟩
    refine(qkj qm (qbc l) a0 (i,t) hm (fun q hq e=> ?_) (by rw[hn];exact(D.slot i t N).1)).symm;unfold qbc at hq;rw[List.mem_filterMap] at hq;obtain⟨j,_,z⟩:=hq;rw[Option.map_eq_some_iff] at z;obtain⟨t',a8,rfl⟩:=z;simp only at e;subst e;exact(D.slot i _ N).2 j a8
   ·rw[I.other t fun i _ O=>h ⟨i,O⟩,qey];intro p hp e;unfold qbc at hp;rw[List.mem_filterMap] at hp;obtain⟨j,_,z⟩:=hp;rw[Option.map_eq_some_iff] at z;obtain⟨t',a8,rfl⟩:=z;exact h ⟨j,by rw[a8,←e]⟩
  rw[ha];exact c1 qm w (by have:=I.s;rwa [q83 a7 a5] at this) fun i N=>I.phi i (a5 i N)
 intro E
 induction E with
 | zero =>
  intro y a w qm I hc;have hr:Region.ready .any l.toArray y=[]:=by
   rw[List.eq_nil_iff_forall_not_mem];intro i N;obtain⟨h0,o,ho,_⟩:=mem_ready.1 N;have F:i<l.length:=by simpa using (Array.getElem?_eq_some_iff.1 ho).1
   have:(List.range l.length).countP (fun i=> !y.getD i false)=0:=by omega
   rw[List.countP_eq_zero] at this;have:=this i (List.mem_range.2 F);rw[Array.getD_eq_getD_getElem?] at h0 this;have O:i<y.size:=by rw[I.size];exact F
   rw[Array.getElem?_eq_getElem O] at h0 this;simp at h0 this;rw[h0] at this;cases this
  exact⟨hr,Y y a w qm I hr⟩
 | succ E ih =>
  intro y a w qm I hc;refine⟨fun hr=>Y y a w qm I hr,fun i N=> ?_⟩;obtain⟨h0,o,ho,b4⟩:=mem_ready.1 N;have F:i<l.length:=by simpa using (Array.getElem?_eq_some_iff.1 ho).1
  have O:i<y.size:=by rw[I.size];exact F
  have J:l[i]? = some o:=by simpa using ho
  have U:y.getD i false=false:=by
   rw[Array.getD_eq_getD_getElem?] at h0 ⊢;rw[Array.getElem?_eq_getElem O] at h0 ⊢;simpa using h0
  have M:∀k∈A.getD i [],y.getD k false=true:=by
   intro k hk;obtain⟨_,e,he,hb,h⟩:=D.anc i o J k hk;have T:=b4 e he hb;rcases h with rfl | h
   ·exact T
   ·exact I.shut _ T k h
  have a6:∀t∈o.looksAt l.toArray,a.tmps[t]? = (putL a0 qm (L.getD i [])).tmps[t]? := by
   intro t ht;by_cases h:∃j,y.getD j false=true∧qbp l j=some t
   ·obtain⟨j,z,C⟩:=h;rcases D.look i o J t ht j C with T | ⟨T,h2⟩
    ·have:=I.shut j z i T;rw[U] at this;cases this
    ·rw[I.at_ j t z C];refine(qkj qm _ a0 (j,t) h2 (fun q hq e=> ?_) (by rw[hn];exact(D.slot j t C).1)).symm;have:=(D.lis i o J q hq).2;rw[e] at this;exact(D.slot j t C).2 _ this
   ·rw[I.other t fun j z O=>h ⟨j,z,O⟩,qey];intro p hp e;obtain⟨T,h2⟩:=D.lis i o J p hp;exact h ⟨p.1,M _ T,by rw[h2,e]⟩
  have V:execOp a.eval o=execOp (putL a0 qm (L.getD i [])).eval o:=by
   refine execOp_congr o (D.sel i o J) fun x hx=> ?_
   cases x with
   | tmp t =>
    have:=a6 t (List.mem_append_left _ (List.mem_filterMap.2 ⟨.tmp t,by simpa using hx,rfl⟩));simp only[Act.eval,Array.getD_eq_getD_getElem?,this]
   | _=>rfl
  have X:=a9.at i o J;rw[Nat.zero_add] at X;have c3:=q9z (A:=A) (st:=st) a7 U (fun k hk=>M k hk) (fun s O N=>by
   cases hl:y.getD s false with
   | false=>rfl
   | true=>have:=I.shut s hl i N;rw[U] at this;cases this)
  have b3:TS.getD i []=qo4 A st i:=by
   rw[←c2,List.getD_eq_getElem?_getD,List.getElem?_map,List.getElem?_range F];rfl
  have K:=X _ (by rw[b3];exact c3) qm w I.s fun p hp=>I.phi _ (M _ (D.lis i o J p hp).1)
  have next:∀v w',R w w'→S (qgo st y+if st.contains i then 1 else 0) w'→Φ i v w'→wpAny P .any l.toArray Q E (y.setIfInBounds i true) (a.put o.dst v) w':=by
   intro v w' hR hS hΦ;have Z:qbp l i=o.dst:=by unfold qbp;rw[J];rfl
   refine ih (y.setIfInBounds i true) (a.put o.dst v) w' (fun j=>if j=i then v else qm j) ⟨?_,by rw[q84 a7 O U];exact hS,?_,?_,?_,?_,?_,?_⟩ ?_
   ·rw[Array.size_setIfInBounds];exact I.size
   ·intro j z;rcases (qai O).1 z with rfl | H
    ·simpa using hΦ
    ·have W:j≠i:=by rintro rfl;rw[U] at H;cases H
     simp only[if_neg W];exact a4 j _ w w' _ _ I.s hS hR (I.phi j H)
   ·intro j z k hk;refine(qai O).2 ?_;rcases (qai O).1 z with rfl | H
    ·exact .inr (M k hk)
    ·exact .inr (I.shut j H k hk)
   ·cases o.dst<;>exact I.defers
   ·cases hd:o.dst with
    | none=>exact I.tmps
    | some d=>simpa [Act.put] using I.tmps
   ·intro t ht;have T:=I.other t fun j z=>ht j ((qai O).2 (.inr z))
    have h2:=ht i ((qai O).2 (.inl rfl));rw[Z] at h2;cases hd:o.dst with
    | none=>exact T
    | some d =>
     have W:d≠t:=by rintro rfl;exact h2 hd
     simpa [Act.put,Array.getElem?_setIfInBounds_ne W] using T
   ·intro j t z C;rcases (qai O).1 z with rfl | H
    ·rw[Z] at C;rw[C,if_pos rfl];have:t<a.tmps.size:=by rw[I.tmps,hn];exact(D.slot j t (by rw[Z,C])).1
     simp[Act.put,this]
    ·have W:j≠i:=by rintro rfl;rw[U] at H;cases H
     rw[if_neg W];have T:=I.at_ j t H C;cases hd:o.dst with
     | none=>exact T
     | some d =>
      have b9:d≠t:=by
       rintro rfl;exact W ((D.slot i d (by rw[Z,hd])).2 j C)
      simpa [Act.put,Array.getElem?_setIfInBounds_ne b9] using T
   ·have T:(List.range l.length).countP (fun j=> !(y.setIfInBounds i true).getD j false)<(List.range l.length).countP (fun j=> !y.getD j false):=by
     have b8:i∈List.range l.length:=List.mem_range.2 F;obtain⟨s,r,c6⟩:=List.append_of_mem b8;rw[c6,List.countP_append,List.countP_append,List.countP_cons,List.countP_cons];have m:∀xs:List Nat,xs.countP (fun j=> !(y.setIfInBounds i true).getD j false)≤xs.countP (fun j=> !y.getD j false):=by
      intro xs;refine List.countP_mono_left fun j _ z=> ?_
      cases h:y.getD j false with
      | false=>rfl
      | true=>rw[(qai O).2 (.inr h)] at z;cases z
     have m1:=m s;have m2:=m r;rw[qgk O,U];simp only[Bool.not_true,Bool.not_false,Bool.false_eq_true,if_false,if_true];omega
    omega
  unfold wpOp;rw[ho];simp only;cases hg:o.guard with
  | none =>
   rw[hg] at K;rw[if_pos (by unfold Region.wanted;rw[hg])];exact .inl (qjl V K fun v w' h=>next v w' h.1 h.2.1 h.2.2)
  | some gb =>
   obtain⟨g,b⟩:=gb;rw[hg] at K;obtain⟨c5,t,b7⟩:=D.guard i o J g b hg;have b6:=M g c5;have c4:=I.at_ g t b6 b7;obtain⟨p1,p2⟩:=K (I.phi g b6);have hy:Region.wanted o (yielded l.toArray a.tmps)=true↔qm g = .bool b:=by
    unfold Region.wanted yielded;rw[hg];have e1:(l.toArray[g]?).bind (·.dst)=some t:=by simpa [qbp] using b7
    simp only[e1,Option.bind_some,c4];constructor
    ·intro h;split at h
     ·rename_i b' b5;simp only[Option.some.injEq] at b5;simp at h;rw[b5,h]
     ·simp at h
    ·intro h;rw[h];simp
   by_cases hw:Region.wanted o (yielded l.toArray a.tmps)=true
   ·rw[if_pos hw];exact .inl (qjl V (p1 (hy.1 hw)) fun v w' h=>next v w' h.1 h.2.1 h.2.2)
   ·rw[if_neg hw];obtain⟨q1,q2⟩:=p2 fun h=>hw (hy.2 h)
    exact next undef w (c0 w) q1 q2
theorem qo8{id:Nat}{a:Act}{w:World}{Q:Exit→Act→World→Prop}(I:P.follows .mixedOrders=true)(L:List (List (Nat × Nat)))(n:Nat)(J:a.tmps.size=n)(F:za1 l (qwp l []) L n=true)(A:List (Nat × Nat))(E:qbc l=A)
  (st:List Nat) (z:stB l st=true) (C:List (List (Nat × Nat))) (y:(List.range l.length).map (qo4 (qwp l []) st)=C)
  (S:Nat→World→Prop) (R:World→World→Prop) (Φ:Nat→Value→World→Prop) (H:S 0 w.drew) (q:∀w,R w w) (g:∀i v w w' k K,S k w→S K w'→R w w'→Φ i v w→Φ i v w')
  (o:qbu P a S R Φ 0 l L C) (x:∀qm w,S st.length w→(∀i,i<l.length→Φ i (qm i) w)→Q .normal (putL a qm A) w) :
  (Code.region id l.toArray true).wp P Q a w:=by
 subst E
 refine wp_region_any I ?_
 have D:qgo st (Array.replicate l.length false)=0:=List.countP_eq_zero.2 fun s _ h=>by rw[qb1] at h;cases h
 refine za3 (q2w F) z y J q g o x _ _ a _ (fun _=>undef) ⟨by simp,by rw[List.size_toArray,D];exact H,?_,?_,rfl,rfl,fun _ _=>rfl,?_⟩ ?_
 ·intro i m;rw[qb1] at m;cases m
 ·intro i m;rw[qb1] at m;cases m
 ·intro i t m;rw[qb1] at m;cases m
 ·refine Nat.le_trans List.countP_le_length ?_;simp
end
def qk4:Nat→List Int→ByteArray→List Int
 | 0,h,_=>h
 | n+1,h,s=>qk4 n (qn5 h (s.extract 0 64)) (s.extract 64 s.size)
def zht:Value→Nat
 | .string b=>b.size
 | _=>0
theorem q48(n:Nat):∀(h:List Int) (s:ByteArray),h.length=8∧qf5 h→(qk4 n h s).length=8∧qf5 (qk4 n h s):=by
 induction n with
 | zero=>intro h s g;exact g
 | succ n i=>intro h s g;exact i _ _ (qxd _ _ g)
def zki(g:World)(A:Nat)(r:List Int):Nat→World→Prop
 | 0,w=>qq g w
 | _,w=>Upd (fun k=>k=A) g w∧qbg .u32 w A r
theorem q8k{C:Array Value}{g:List Value}(h:C.size=g.length):qkx C 0 g=g.toArray:=by
 refine Array.ext_getElem? fun i=> ?_
 rw[qhm C 0 g i (by omega)];by_cases o:i<g.length
 ·rw[if_pos (by omega)];simp
 ·have l:C[i]? = none:=Array.getElem?_eq_none (by omega);have m:g.toArray[i]? = none:=Array.getElem?_eq_none (by simp;omega);rw[if_neg (by omega),l,m]
theorem qbg.setAll{k:IntKind}{w:World}{b:Nat}{ws:List Int}(h:qbg k w b ws){r:List Int}(g:r.length=ws.length):qbg k (w.setCells b 0 (r.map (Value.int k))) b r:=by
 obtain⟨T,h⟩:=h;refine⟨T,(qa4 h 0 _).trans ?_⟩;rw[q8k (by simp[g])]
theorem qbg.stOk{k:IntKind}{w:World}{b:Nat}{ws:List Int}(h:qbg k w b ws){r:List Int}{n:Nat}(i:r.length=ws.length)(g:r.length=n):stOk w b 0 n (r.map (Value.int k)).toArray=true:=by
 obtain⟨T,h⟩:=h;refine qf3 h (by simp;omega) (by simp;omega) ?_;rw[List.all_toArray,List.all_map,List.all_eq_true];intro x _;rfl
def zj4(x:Value):Sem Value:=Instr.loadAt 184 x
theorem qsx(x:Value):Instr.loadAt 184 x=zj4 x:=rfl
theorem zhg(b o:Nat)(w:World):(zj4 (.pointer (some ⟨b,o,none⟩))).run Tryz.prog w=match zu w b o 8 with | some A=> .ok (.agg A) w | none=>qdz Tryz.prog 184 w b o :=
 z6 184 8 _ Tryz.underlying184 rfl Tryz.infoW8 b o w
def zkd(x v:Value):Sem Unit:=Instr.storeAt 184 x v
theorem qts(x v:Value):Instr.storeAt 184 x v=zkd x v:=rfl
theorem zhs(b o:Nat)(A:Array Value)(w:World):(zkd (.pointer (some ⟨b,o,none⟩)) (.agg A)).run Tryz.prog w=if stOk w b o 8 A=true then .ok () (w.setCells b o A.toList) else qfn Tryz.prog 184 w b o A :=
 qat 184 8 Tryz.infoW8 b o A w
attribute [local go_sem ↓ high] qsx qts
attribute [local go_sem] zhg zhs
set_option maxRecDepth 100000 in
set_option maxHeartbeats 1000000 in
theorem q2n(h:List Int)(s:ByteArray)(w:World)(hh:h.length=8)(hu:qf5 h)(hs:s.size≤1073741824)(a7:Tabs w) :
  Calls Tryz.prog 113 #[.agg (h.map (Value.int .u32)).toArray,.string s] w fun e w'=>e = .returned (.agg ((qk4 (s.size / 64) h s).map (Value.int .u32)).toArray)∧qq w w':=by
 have hw:=a7.lt
 obtain⟨h0,h1,h2,h3,h4,h5,h6,h7,rfl⟩:=qce hh
 simp only[List.map_cons,List.map_nil]
 go_enter Tryz.func113,Tryz.ntmps113
 go_upto_region 1 with fail
 obtain⟨wA,E⟩:∃wA:World,wA=(w.alloc (.cells #[.int .u32 h0,.int .u32 h1,.int .u32 h2,.int .u32 h3,.int .u32 h4,.int .u32 h5,.int .u32 h6,.int .u32 h7] 184)).alloc (.cells #[.int .u32 0,.int .u32 0,.int .u32 0,.int .u32 0,.int .u32 0,.int .u32 0,.int .u32 0,.int .u32 0] 184):=⟨_,rfl⟩
 have sA:wA.heap.size=w.heap.size+2:=by rw[E];simp
 have nA:qq w wA:=by rw[E];exact((Upd.refl _ _).alloc _).alloc _
 have vA:qbg .u32 wA w.heap.size [h0,h1,h2,h3,h4,h5,h6,h7]:=by rw[E];exact⟨_,zr (qi _ _) _⟩
 have vR:qbg .u32 wA (w.heap.size+1) [0,0,0,0,0,0,0,0]:=by
  rw[E];have:=qi (w.alloc (.cells #[.int .u32 h0,.int .u32 h1,.int .u32 h2,.int .u32 h3,.int .u32 h4,.int .u32 h5,.int .u32 h6,.int .u32 h7] 184)) (.cells #[.int .u32 0,.int .u32 0,.int .u32 0,.int .u32 0,.int .u32 0,.int .u32 0,.int .u32 0,.int .u32 0] 184);rw[World.size_alloc] at this;exact⟨_,this⟩
 rw[←E]
 clear E
 have TA:=a7.new nA
 generalize a6:w.heap.size=A at *
 have a5:=qb a6
 clear a6
 obtain⟨wo,rfl⟩:∃wo:World,wo=wA:=⟨_,rfl⟩
 generalize a8:[h0,h1,h2,h3,h4,h5,h6,h7]=R at vA hu
 have a9:R.length=8:=by rw[←a8];rfl
 go_wp2_with fail
 go_loopw [1,10] (fun sv _ wr=>∃(t:ByteArray) (hc:List Int),sv = .string t∧t.size≤s.size∧hc.length=8∧qf5 hc∧Hid (qk4 (t.size / 64) hc t=qk4 (s.size / 64) R s)∧qbg .u32 wr A hc∧Upd (fun k=>k=A) wo wr) (fun sv _ _=>zht sv)
 case atStart=>exact⟨s,R,rfl,Nat.le_refl _,a9,hu,qb rfl,vA,Upd.refl _ _⟩
 case round =>
  obtain⟨t,hc,rfl,c1,Y,P,HE,hA,ur⟩:=hrel;obtain⟨F,H,I,J,K,L,M,N,rfl⟩:=qce Y;obtain⟨V,rfl⟩:∃V:World,V=wr:=⟨_,rfl⟩;by_cases b9:64≤t.size
  ·have c0:=ur.size;have b3:(t.extract 0 64).size=64:=by rw[ByteArray.size_extract];omega
   have b6:=TA.upd ur (by omega) (by omega);have hC:∀W,qq V W→_:=fun W n=>qw6 [F,H,I,J,K,L,M,N] (t.extract 0 64) W rfl P b3 (b6.new n)
   have hok:=qxd [F,H,I,J,K,L,M,N] (t.extract 0 64) ⟨rfl,P⟩;have l:qk4 (t.size / 64) [F,H,I,J,K,L,M,N] t=qk4 ((t.extract 64 t.size).size / 64) (qn5 [F,H,I,J,K,L,M,N] (t.extract 0 64)) (t.extract 64 t.size):=by
    obtain⟨n,hn⟩:∃n,t.size / 64=n+1:=⟨t.size / 64-1,by omega⟩;have:(t.extract 64 t.size).size / 64=n:=by rw[ByteArray.size_extract];omega
    rw[hn,this];rfl
   simp only[List.map_cons,List.map_nil] at hC;generalize qn5 [F,H,I,J,K,L,M,N] (t.extract 0 64)=r at hC hok l;obtain⟨r8,b7⟩:=hok;obtain⟨m,o,v,x,y,z,C,D,rfl⟩:=qce r8;simp only[List.map_cons,List.map_nil] at hC;have HC:=qb hC;have HN:=qb (l.symm.trans (qa HE));clear hC l HE r8;have HA:=qb hA;clear hA P Y;have t1:(64:Int)≤(t.size:Int):=by omega
   have t2:¬(t.size:Int)<64:=by omega
   go_wp2_with fail;refine qo8 (by kernel_rfl) [[],[],[(1,12)],[(0,11),(2,13)],[(3,14)],[(4,10)],[(4,10)],[(5,15)]] 18 rfl (by kernel_rfl) [(0,11),(1,12),(2,13),(3,14),(4,10),(5,15),(6,16)] (by kernel_rfl) [7] (by kernel_rfl) [[(0,0)],[(0,0)],[(0,0)],[(0,0)],[(0,0)],[(0,0)],[(0,0),(1,1)],[(0,1)]] (by kernel_rfl)
    (zki V A [m,o,v,x,y,z,C,D]) qbt
    (isV [.agg #[.int .u32 F,.int .u32 H,.int .u32 I,.int .u32 J,.int .u32 K,.int .u32 L,.int .u32 M,.int .u32 N],.string t,.string (t.extract 0 64),
     .tuple #[.agg #[.int .u32 m,.int .u32 o,.int .u32 v,.int .u32 x,.int .u32 y,.int .u32 z,.int .u32 C,.int .u32 D],.bool true],.tuple #[.agg #[.int .u32 m,.int .u32 o,.int .u32 v,.int .u32 x,.int .u32 y,.int .u32 z,.int .u32 C,.int .u32 D],.bool true],
     .agg #[.int .u32 m,.int .u32 o,.int .u32 v,.int .u32 x,.int .u32 y,.int .u32 z,.int .u32 C,.int .u32 D],.bool true,undef])
    ((Upd.refl _ _).drew) (fun _=>qbt.all _ _) (fun _ _ _ _ _ _ _ _ _ h=>h) ?_ ?_
   ·refine .one rfl ?_ <| .pure rfl (fun _=>qbt.all _ _) rfl ?_ <| .pure rfl (fun _=>qbt.all _ _) rfl ?_ <| .one rfl ?_ <| .pure rfl (fun _=>qbt.all _ _) rfl ?_ <| .pure rfl (fun _=>qbt.all _ _) rfl ?_ <| .pure rfl (fun _=>qbt.all _ _) rfl ?_ <| .one rfl ?_ <| .nil
    ·intro qm w1 i _;replace i:qq V w1:=i;have hr:=((qa HA).upd i (fun h=>h)).row (n:=8) rfl;simp only[List.map_cons,List.map_nil] at hr;unfold zq;simp only[putL];go_simp;exact⟨qbt.all _ _,i,rfl⟩
    ·intro qm w1 _;unfold zq;simp only[putL];go_simp
     first | exact⟨rfl,rfl⟩ | rfl
    ·rintro qm w1 ⟨g,-⟩;replace g:qm 1 = .string t:=g;unfold zq;simp only[putL];go_simp
     first | exact⟨rfl,rfl⟩ | rfl
    ·rintro qm w1 i ⟨g,p1,-⟩;replace g:qm 0 = .agg #[.int .u32 F,.int .u32 H,.int .u32 I,.int .u32 J,.int .u32 K,.int .u32 L,.int .u32 M,.int .u32 N]:=g;replace p1:qm 2 = .string (t.extract 0 64):=p1;unfold zq;simp only[putL];go_simp;refine(qa HC w1 i).mono ?_;rintro e w2 ⟨rfl,n2⟩;exact⟨_,rfl,qbt.all _ _,Upd.trans i n2,rfl⟩
    ·rintro qm w1 ⟨g,-⟩;replace g:qm 3 = .tuple #[.agg #[.int .u32 m,.int .u32 o,.int .u32 v,.int .u32 x,.int .u32 y,.int .u32 z,.int .u32 C,.int .u32 D],.bool true]:=g;unfold zq;simp only[putL];go_simp
     first | exact⟨rfl,rfl⟩ | rfl
    ·rintro qm w1 ⟨g,-⟩;replace g:qm 4 = .tuple #[.agg #[.int .u32 m,.int .u32 o,.int .u32 v,.int .u32 x,.int .u32 y,.int .u32 z,.int .u32 C,.int .u32 D],.bool true]:=g;unfold zq;simp only[putL];go_simp
     first | exact⟨rfl,rfl⟩ | rfl
    ·rintro qm w1 ⟨g,-⟩;replace g:qm 4 = .tuple #[.agg #[.int .u32 m,.int .u32 o,.int .u32 v,.int .u32 x,.int .u32 y,.int .u32 z,.int .u32 C,.int .u32 D],.bool true]:=g;unfold zq;simp only[putL];go_simp
     first | exact⟨rfl,rfl⟩ | rfl
    ·rintro qm w1 i ⟨g,-⟩;replace i:qq V w1:=i;replace g:qm 5 = .agg #[.int .u32 m,.int .u32 o,.int .u32 v,.int .u32 x,.int .u32 y,.int .u32 z,.int .u32 C,.int .u32 D]:=g;have hI:=(qa HA).upd i (fun h=>h);have Z:=hI.stOk (r:=[m,o,v,x,y,z,C,D]) (n:=8) rfl rfl;have X:=hI.setAll (r:=[m,o,v,x,y,z,C,D]) rfl;simp only[List.map_cons,List.map_nil] at Z X;have b4:=qb X;have U:=((i.mono (T:=fun k=>k=A) (fun _ _ h=>h.elim)).then ((Upd.refl (· = A) w1).setCells 0 [.int .u32 m,.int .u32 o,.int .u32 v,.int .u32 x,.int .u32 y,.int .u32 z,.int .u32 C,.int .u32 D]) (fun _ _ h=>h));have b5:=qb U;clear X U hI;unfold zq;simp only[putL];go_simp
     first | exact⟨qbt.all _ _,⟨qa b5,qa b4⟩,rfl⟩ | (trace_state;sorry)
   ·intro qm w1 i hv;have v0:=hv 0 (by decide);have v1:=hv 1 (by decide);have v2:=hv 2 (by decide);have v3:=hv 3 (by decide);have v4:=hv 4 (by decide);have v5:=hv 5 (by decide);have v6:=hv 6 (by decide);clear hv;replace i:Upd (fun k=>k=A) V w1∧qbg .u32 w1 A [m,o,v,x,y,z,C,D]:=i;obtain⟨U,hI⟩:=i;have us:=ur.trans U;simp only[putL,v0,v1,v2,v3,v4,v5,v6];clear HC HA U ur v0 v1 v2 v3 v4 v5 v6;obtain⟨wz,rfl⟩:∃wz:World,wz=w1:=⟨_,rfl⟩;have HI:=qb hI;clear hI;go_simp;go_wp2;go_roundw
    case rel=>exact⟨t.extract 64 t.size,[m,o,v,x,y,z,C,D],rfl,by rw[ByteArray.size_extract];omega,rfl,b7,HN,qa HI,us⟩
    case measure=>simp[zht];omega
  ·have b8:t.size<64:=by omega
   have hz:t.size / 64=0:=by omega
   have O:=qa HE;rw[hz] at O;replace O:=qb (show qk4 (s.size / 64) R s=[F,H,I,J,K,L,M,N] from O.symm);clear HE hz;have t1:(t.size:Int)<64:=by omega
   have t2:¬(64:Int)≤(t.size:Int):=by omega
   have a4:=vR.upd ur (by omega);have nn:=nA.then ur (by intro q hq h;rw[qa a5] at hq;omega);subst a8;clear vR ur P Y TA a9 vA;have hr:=hA.row (n:=8) rfl;have Z:=a4.stOk (r:=[F,H,I,J,K,L,M,N]) (n:=8) rfl rfl;have hR:=a4.setAll (r:=[F,H,I,J,K,L,M,N]) rfl;simp only[List.map_cons,List.map_nil] at hr Z hR;have HR:=qb hR;have U:=nn.then ((Upd.refl (· = A+1) V).setCells 0 [.int .u32 F,.int .u32 H,.int .u32 I,.int .u32 J,.int .u32 K,.int .u32 L,.int .u32 M,.int .u32 N]) (by intro q hq h;rw[qa a5] at hq;omega);have HU:=qb U;clear hA a4 nn hR U;go_wp2;obtain⟨TF,hF⟩:=qa HR;refine bodyPost_ret (results_cell_row rfl _ _ (A+1) TF _ _ _ rfl hF Tryz.underlying184 rfl (by exact Tryz.infoW8)) rfl ?_;refine⟨?_,qa HU⟩;rw[qa O]
end Go.Proofs.YthnohmjbbeahmaaGreatDoor
namespace Go.Proofs.YthnohmjbbeahmaaGreatDoor
open Go.RowKit
theorem Tryz.infoU8:(Tryz.prog.info? 5).map (fun i=>(i.zero,i.size,i.bytes))=some (some (.int .u8 0),1,1):=by kernel_rfl
def qb9(w:World)(base:Nat)(v:Value)(xs:List Int):Prop:=w.ownsRow base 5 1 v xs.length (xs.map (Value.int .u8))
theorem qb9.shape{w:World}{base:Nat}{v:Value}{xs:List Int}(h:qb9 w base v xs):∃a c,v = .slice a xs.length c:=by
 rcases h.2 with ⟨rfl,e⟩ | ⟨g,cap,i,rfl,_⟩
 ·exact⟨none,0,by rw[e]⟩
 ·exact⟨_,_,rfl⟩
theorem qb9.ge{w:World}{base:Nat}{v:Value}{xs:List Int}(h:qb9 w base v xs){k:Nat}(i:v.ownBlock=some k):base≤k∧k<w.heap.size:=by
 rcases h.2 with ⟨rfl,_⟩ | ⟨g,cap,l,rfl,m,o,_⟩
 ·simp[Value.ownBlock] at i
 ·simp[Value.ownBlock] at i;subst i;exact⟨m,qad o⟩
theorem qb9.upd{S:Nat→Prop}{w w':World}{base:Nat}{v:Value}{xs:List Int}(h:qb9 w base v xs)(u:Upd S w w')(o:∀k,v.ownBlock=some k→¬S k):qb9 w' base v xs:=by
 refine⟨h.1,?_⟩;rcases h.2 with h | ⟨g,cap,i,l,m,q,r⟩
 ·exact .inl h
 ·exact .inr ⟨g,cap,i,l,m,u.old q (o g (by rw[l];rfl)),r⟩
theorem qb9.new{w w':World}{base:Nat}{v:Value}{xs:List Int}(h:qb9 w base v xs)(u:qq w w'):qb9 w' base v xs:=h.upd u (fun _ _ h=>h)
theorem qb9.nil(w:World)(base:Nat):qb9 w base (.slice none 0 0) []:=⟨rfl,.inl ⟨rfl,rfl⟩⟩
theorem qb9.made(w:World)(base:Nat)(xs:List Int)(g:base≤w.heap.size)(i:xs.length≤1073741824):qb9 (w.alloc (.cells (xs.map (Value.int .u8)).toArray 5)) base (.slice (some ⟨w.heap.size,0,none⟩) xs.length xs.length) xs:=by
 refine⟨by simp,.inr ⟨w.heap.size,xs.length,_,rfl,g,qi _ _,Nat.le_refl _,by unfold maxLen;omega,by simp,?_⟩⟩;simp;exact List.take_of_length_le (by simp)
theorem qlc{m:Array Oper}{rest:List Oper}{o:Oper}{a:Act}{Q:Exit→Act→World→Prop}(t:o.guard=none)(s x:Operand)
  (J:o.op = .call {callee:= .builtin .append,args:=#[s,x],argTypes:=#[22,22]})
  (base:Nat) (v:Value) (xs:List Int) (K:a.eval s=v) (c:Int) (T:TypeId) (w:World) (M:a.eval x = .slice (some ⟨w.heap.size,0,none⟩) 1 1) (l:qb9 w base v xs) (O:xs.length≤1073741824) (N:base≤w.heap.size)
  (h:∀q w',qb9 w' base q (xs++[c])→Upd (fun k=>v.ownBlock=some k) w w'→wpList Tryz.prog m Q rest (a.put o.dst q) w') :
  wpList Tryz.prog m Q (o::rest) a (w.alloc (.cells #[.int .u8 c] T)):=by
 obtain⟨i,H,z,C,D⟩:=info_parts Tryz.infoU8
 have E:(w.alloc (.cells #[.int .u8 c] T)).ownsRow base 5 1 v xs.length (xs.map (Value.int .u8)):=l.new ((Upd.refl _ _).alloc _)
 refine wpList_append_own _ t s x 22 J base 5 i (.int .u8 0) 1 1 Tryz.underlying22 H z C D rfl (by decide) v xs.length _ K E ⟨w.heap.size,0,none⟩ 1 1 [.int .u8 c] M rfl ?_ ?_ (by unfold maxLen;omega) (by omega) (by simp;omega) ?_
 ·intro j u I;have g:(⟨w.heap.size,0,none⟩:Addr).add j=⟨w.heap.size,j,none⟩:=by unfold Addr.add;split<;>simp_all
  rw[g,qh (qi _ _)];simpa using I
 ·intro u L;obtain rfl:=List.mem_singleton.1 L;rfl
 ·intro q w' y F _;refine h q w' ?_ ((((Upd.refl _ w).alloc _)).grown F (fun k e _=>e));unfold qb9;rw[List.length_append,List.map_append];exact y
theorem ql1{w:World}{base:Nat}{v:Value}{xs:List Int}(h:qb9 w base v xs):(convert 22 9 v).run Tryz.prog w = .ok (.string (strOfNums xs)) w:=by
 rcases h.2 with ⟨rfl,e⟩ | ⟨g,cap,l,rfl,x,t,y,z,C,o⟩
 ·rw[List.eq_nil_of_length_eq_zero e];exact run_convert_bytes_nil w 22 5 Tryz.underlying22 Tryz.underlying5 0 0 9 Tryz.underlying9
 ·refine run_convert_bytes_arg w 22 5 Tryz.underlying22 Tryz.underlying5 g 0 xs.length cap xs rfl (fun i m=> ?_) 9 Tryz.underlying9;have q:l.toList[i]? = (xs.map (Value.int .u8))[i]? := by rw[←o,List.getElem?_take_of_lt (by omega)]
  rw[Nat.zero_add,qh t i,←Array.getElem?_toList,q,List.getElem?_map,List.getElem?_eq_getElem m];simp[List.getD,List.getElem?_eq_getElem m]
end Go.Proofs.YthnohmjbbeahmaaGreatDoor
