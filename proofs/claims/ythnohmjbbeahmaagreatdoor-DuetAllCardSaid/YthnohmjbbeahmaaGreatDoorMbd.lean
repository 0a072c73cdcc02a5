/-
  Package digest: bytes (the bytes of eight letters).
-/
import Derived.Test.YthnohmjbbeahmaaGreatDoorSha2
import Derived.Test.YthnohmjbbeahmaaGreatDoorDag
import Derived.Test.YthnohmjbbeahmaaGreatDoorRows
import Derived.Test.YthnohmjbbeahmaaGreatDoorMaa
import Derived.OpenShut
set_option linter.unusedVariables false
set_option linter.unusedSimpArgs false
namespace Go.Proofs.YthnohmjbbeahmaaGreatDoor
open Go.RowKit
def byI(h:List Int)(i:Nat):Int:=wd h (i / 4) / 2 ^ (24-8*(i%4))%256
def qhh(h:List Int)(n:Nat):List Int:=(List.range n).foldl (fun g i=>g.set i (byI h i)) (List.replicate 32 0)
theorem qjp(h:List Int):qhh h 0=List.replicate 32 0:=by unfold qhh;simp only[List.range_zero,List.foldl_nil]
theorem qjo(h:List Int)(n:Nat):qhh h (n+1)=(qhh h n).set n (byI h n):=by simp[qhh,List.range_succ]
theorem qir(h:List Int)(n:Nat):(qhh h n).length=32:=by
 induction n with
 | zero=>rw[qjp];simp
 | succ n g=>rw[qjo];simp[g]
theorem Tryz.infoHash:(Tryz.prog.info? 33).map (·.size)=some 32:=by kernel_rfl
set_option maxRecDepth 100000 in
set_option maxHeartbeats 1000000 in
theorem q5j(h:List Int)(w:World)(hh:h.length=8)(hu:qf6 h) :
  Calls Tryz.prog 112 #[.agg (h.map (Value.int .u32)).toArray] w fun e w'=>e = .returned (.agg ((qhh h 32).map (Value.int .u8)).toArray)∧qu w w':=by
 obtain⟨t,z,C,D,E,F,H,I,rfl⟩:=qcc hh
 simp only[List.map_cons,List.map_nil]
 go_enter Tryz.func112,Tryz.ntmps112
 go_upto_region 2 with fail
 obtain⟨o,l⟩:∃o:World,o=((w.alloc (.cells #[.int .u32 t,.int .u32 z,.int .u32 C,.int .u32 D,.int .u32 E,.int .u32 F,.int .u32 H,.int .u32 I] 184)).alloc (.cells #[.int .u8 0,.int .u8 0,.int .u8 0,.int .u8 0,.int .u8 0,.int .u8 0,.int .u8 0,.int .u8 0,.int .u8 0,.int .u8 0,.int .u8 0,.int .u8 0,.int .u8 0,.int .u8 0,.int .u8 0,.int .u8 0,.int .u8 0,.int .u8 0,.int .u8 0,.int .u8 0,.int .u8 0,.int .u8 0,.int .u8 0,.int .u8 0,.int .u8 0,.int .u8 0,.int .u8 0,.int .u8 0,.int .u8 0,.int .u8 0,.int .u8 0,.int .u8 0] 33)).alloc (.cells #[.int .u8 0,.int .u8 0,.int .u8 0,.int .u8 0,.int .u8 0,.int .u8 0,.int .u8 0,.int .u8 0,.int .u8 0,.int .u8 0,.int .u8 0,.int .u8 0,.int .u8 0,.int .u8 0,.int .u8 0,.int .u8 0,.int .u8 0,.int .u8 0,.int .u8 0,.int .u8 0,.int .u8 0,.int .u8 0,.int .u8 0,.int .u8 0,.int .u8 0,.int .u8 0,.int .u8 0,.int .u8 0,.int .u8 0,.int .u8 0,.int .u8 0,.int .u8 0] 33):=⟨_,rfl⟩
 have sA:o.heap.size=w.heap.size+3:=by rw[l];simp
 have nA:qu w o:=by rw[l];exact(((Upd.refl _ _).alloc _).alloc _).alloc _
 have Z:qbd .u32 o w.heap.size [t,z,C,D,E,F,H,I]:=by rw[l];exact⟨_,zj (zj (qi _ _) _) _⟩
 have vB:qbd .u8 o (w.heap.size+1+1) (List.replicate 32 0):=by
  rw[l];have:=qi ((w.alloc (.cells #[.int .u32 t,.int .u32 z,.int .u32 C,.int .u32 D,.int .u32 E,.int .u32 F,.int .u32 H,.int .u32 I] 184)).alloc (.cells #[.int .u8 0,.int .u8 0,.int .u8 0,.int .u8 0,.int .u8 0,.int .u8 0,.int .u8 0,.int .u8 0,.int .u8 0,.int .u8 0,.int .u8 0,.int .u8 0,.int .u8 0,.int .u8 0,.int .u8 0,.int .u8 0,.int .u8 0,.int .u8 0,.int .u8 0,.int .u8 0,.int .u8 0,.int .u8 0,.int .u8 0,.int .u8 0,.int .u8 0,.int .u8 0,.int .u8 0,.int .u8 0,.int .u8 0,.int .u8 0,.int .u8 0,.int .u8 0] 33)) (.cells #[.int .u8 0,.int .u8 0,.int .u8 0,.int .u8 0,.int .u8 0,.int .u8 0,.int .u8 0,.int .u8 0,.int .u8 0,.int .u8 0,.int .u8 0,.int .u8 0,.int .u8 0,.int .u8 0,.int .u8 0,.int .u8 0,.int .u8 0,.int .u8 0,.int .u8 0,.int .u8 0,.int .u8 0,.int .u8 0,.int .u8 0,.int .u8 0,.int .u8 0,.int .u8 0,.int .u8 0,.int .u8 0,.int .u8 0,.int .u8 0,.int .u8 0,.int .u8 0] 33);rw[World.size_alloc,World.size_alloc] at this;exact⟨_,this⟩
 have vR:qbd .u8 o (w.heap.size+1) (List.replicate 32 0):=by
  rw[l];have:=qi (w.alloc (.cells #[.int .u32 t,.int .u32 z,.int .u32 C,.int .u32 D,.int .u32 E,.int .u32 F,.int .u32 H,.int .u32 I] 184)) (.cells #[.int .u8 0,.int .u8 0,.int .u8 0,.int .u8 0,.int .u8 0,.int .u8 0,.int .u8 0,.int .u8 0,.int .u8 0,.int .u8 0,.int .u8 0,.int .u8 0,.int .u8 0,.int .u8 0,.int .u8 0,.int .u8 0,.int .u8 0,.int .u8 0,.int .u8 0,.int .u8 0,.int .u8 0,.int .u8 0,.int .u8 0,.int .u8 0,.int .u8 0,.int .u8 0,.int .u8 0,.int .u8 0,.int .u8 0,.int .u8 0,.int .u8 0,.int .u8 0] 33);rw[World.size_alloc] at this;exact⟨_,zj this _⟩
 rw[←l]
 clear l
 generalize M:w.heap.size=A at *
 have L:=qb M
 clear M
 obtain⟨wo,rfl⟩:∃wo:World,wo=o:=⟨_,rfl⟩
 have hok:qf6 [t,z,C,D,E,F,H,I]:=hu
 generalize O:[t,z,C,D,E,F,H,I]=K at Z hok
 have b4:K.length=8:=by rw[←O];rfl
 go_wp2_with fail
 go_loopw [4,5] (fun _ Y wr=>∃i:Nat,Y = .int .i64 (i:Int)∧i≤32∧qbd .u8 wr (A+1+1) (qhh K i)∧Upd (fun k=>k=A+1+1) wo wr) (fun _ Y _=>32-(intOf Y).toNat)
 case atStart=>exact⟨0,rfl,by omega,by rw[qjp];exact vB,Upd.refl _ _⟩
 case round =>
  obtain⟨i,rfl,hi,m,P⟩:=hrel;by_cases b5:i<32
  ·have c0:wr.cell? ⟨A,i / 4,none⟩=some (.int .u32 (wd K (i / 4))):=(Z.upd P (by omega)).cell (by omega);obtain⟨a0,a5⟩:=hok.at (i / 4);obtain⟨v1,c1⟩:∃v,wr.cell? ⟨A+1+1,i,none⟩=some v:=⟨_,m.cell (by rw[qir];omega)⟩;have z1:=m.free i;have a6:(i:Int)<32:=by omega
   have a7:IntKind.i64.wrap ((i:Int) / 4)=(i:Int) / 4:=IntWalk.i64_in _ (by omega);have a8:((i:Int) / 4).toNat=i / 4:=by omega
   have a9:(0:Int)≤(i:Int) / 4:=by omega
   have b3:(i:Int) / 4<8:=by omega
   have J:=m.set i (byI K i);rw[←qjo] at J;have U:=qb J;clear J;go_wp2;have us:=P.set1 i (.int .u8 (byI K i));go_roundw
   case rel=>exact⟨i+1,by go_num,by omega,qa U,us⟩
   case measure=>simp[intOf];omega
  ·obtain rfl:i=32:=by omega
   rw[show ((32:Nat):Int)=32 from rfl];have a4:=vR.upd P (by omega);have nn:=nA.then P (by intro q X h;rw[qa L] at X;omega);have g:=qir K 32;subst O;generalize N:qhh [t,z,C,D,E,F,H,I] 32=R at m g;have T:=qb N;clear N Z vB vR P;obtain⟨TB,m⟩:=m;obtain⟨V,W⟩:=a4;go_upto_region 7 with fail;refine wp_region_lit ?_;refine wpList_load_row rfl _ _ rfl (A+1+1) rfl TB _ _ _ m Tryz.underlying33 rfl (by rw[List.size_toArray,List.length_map,g];exact Tryz.infoHash) ?_;refine wpList_store_row rfl _ _ _ rfl (A+1) (R.map (Value.int .u8)).toArray rfl rfl V _ W (by rw[List.size_toArray,List.length_map,g];exact Tryz.infoHash) (by simp[g]) (by simp[Value.oneCell']) ?_;have hF:=setRow_heap wr (A+1) _ (R.map (Value.int .u8)).toArray V (0,0) W;have uF:Upd (fun k=>k=A+1) wr (wr.setRow (A+1) (R.map (Value.int .u8)).toArray):=⟨rfl,rfl,rfl,by simp,fun i _ hn=>setRow_other _ _ _ _ hn⟩;have nE:=nn.then uF (by intro q X h;rw[qa L] at X;omega);generalize wr.setRow (A+1) (R.map (Value.int .u8)).toArray=wF at hF nE ⊢;clear uF nn m W;go_wp2_with fail;refine bodyPost_ret (results_cell_row rfl _ _ (A+1) V _ _ _ rfl hF Tryz.underlying33 rfl (by rw[List.size_toArray,List.length_map,g];exact Tryz.infoHash)) rfl ?_;exact⟨by rw[qa T],nE⟩
def qbs(_ _:World):Prop:=True
theorem qbs.all(w w':World):qbs w w':=trivial
def isV(xs:List Value)(i:Nat)(v:Value)(_:World):Prop:=v=xs.getD i undef
def QS(g:World)(_:Nat)(w:World):Prop:=Q g w
section
variable {P:Program}{l:List Oper}{A:List (List Nat)}{L:List (List (Nat × Nat))}{n:Nat}
def qgo(st:List Nat)(g:Array Bool):Nat:=st.countP fun s=>g.getD s false
def stB(l:List Oper)(st:List Nat):Bool:=decide st.Nodup&&st.all fun s=>decide (s<l.length)
def qod(A:List (List Nat))(st:List Nat)(i:Nat):List (Nat × Nat) :=
 (List.range (st.countP (fun s=>s != i && !(A.getD s []).contains i)+1)).filterMap fun k =>
  if st.countP (fun s=>(A.getD i []).contains s)≤k then some (k,k+if st.contains i then 1 else 0) else none
theorem q79{st:List Nat}{i:Nat}{g:Array Bool}(z:stB l st=true)(q:g.getD i false=false)(t:∀k∈A.getD i [],g.getD k false=true)(v:∀s,s∈st→i∈A.getD s []→g.getD s false=false) :
  (qgo st g,qgo st g+if st.contains i then 1 else 0)∈qod A st i:=by
 unfold qod
 rw[List.mem_filterMap]
 refine⟨qgo st g,List.mem_range.2 ?_,?_⟩
 ·refine Nat.lt_succ_of_le (List.countP_mono_left fun s o m=> ?_);simp only[Bool.and_eq_true,bne_iff_ne,ne_eq,Bool.not_eq_true'];refine⟨?_,?_⟩
  ·rintro rfl;rw[q] at m;cases m
  ·cases w:(A.getD s []).contains i with
   | false=>rfl
   | true =>
    have:=v s o (List.contains_iff_mem.1 w);rw[this] at m;cases m
 ·rw[if_pos];exact List.countP_mono_left fun s _ o=>t s (List.contains_iff_mem.1 o)
theorem q7g{st:List Nat}{g:Array Bool}(m:stB l st=true)(o:∀i,i<l.length→g.getD i false=true):qgo st g=st.length:=by
 unfold stB at m;simp only[Bool.and_eq_true,List.all_eq_true,decide_eq_true_eq] at m;exact List.countP_eq_length.2 fun s q=>o s (m.2 s q)
theorem q7h{st:List Nat}{g:Array Bool}{i:Nat}(m:stB l st=true)(D:i<g.size)(t:g.getD i false=false):qgo st (g.setIfInBounds i true)=qgo st g+if st.contains i then 1 else 0:=by
 unfold stB at m;simp only[Bool.and_eq_true,decide_eq_true_eq] at m;have w:=m.1;clear m;unfold qgo
 induction st with
 | nil=>rfl
 | cons s st v =>
  have v:=v w.tail;rw[List.countP_cons,List.countP_cons,v];by_cases h:s=i
  ·subst h;have q:st.contains s=false:=by
    cases C:st.contains s with
    | false=>rfl
    | true=>exact absurd (List.contains_iff_mem.1 C) (List.nodup_cons.1 w).1
   have o:(g.setIfInBounds s true).getD s false=true:=qgl D;rw[o,t,q];simp
  ·have o:(g.setIfInBounds i true).getD s false=g.getD s false:=getD_set_ne false (fun e=>h e.symm);rw[o];have z:(s::st).contains i=st.contains i:=by
    rw[List.contains_cons];have:(i==s)=false:=by simpa using fun e=>h e.symm
    rw[this,Bool.false_or]
   rw[z];omega
def qxr(P:Program)(a0:Act)(S:Nat→World→Prop)(R:World→World→Prop)(Φ:Nat→Value→World→Prop)(i:Nat)(o:Oper)(Li:List (Nat × Nat))(Ti:List (Nat × Nat)):Prop :=
 ∀t∈Ti,∀(qk:Nat→Value) (w:World),S t.1 w→(∀p∈Li,Φ p.1 (qk p.1) w) →
  match o.guard with
  | none=>zi P o (putL a0 qk Li).eval w fun v w'=>R w w'∧S t.2 w'∧Φ i v w'
  | some (g,b)=>Φ g (qk g) w→(qk g = .bool b→zi P o (putL a0 qk Li).eval w fun v w'=>R w w'∧S t.2 w'∧Φ i v w')∧(qk g ≠ .bool b→S t.2 w∧Φ i undef w)
def qbt(P:Program)(a0:Act)(S:Nat→World→Prop)(R:World→World→Prop)(Φ:Nat→Value→World→Prop):Nat→List Oper→List (List (Nat × Nat))→List (List (Nat × Nat))→Prop
 | _,[],_,_=>True
 | i,o::os,L,T=>qxr P a0 S R Φ i o (L.headD []) (T.headD [])∧qbt P a0 S R Φ (i+1) os L.tail T.tail
theorem qbt.nil{a0:Act}{S:Nat→World→Prop}{R:World→World→Prop}{Φ:Nat→Value→World→Prop}{i:Nat}{L T:List (List (Nat × Nat))} : qbt P a0 S R Φ i [] L T:=trivial
theorem qbt.at{a0:Act}{S:Nat→World→Prop}{R:World→World→Prop}{Φ:Nat→Value→World→Prop} : ∀ {os:List Oper} {L T:List (List (Nat × Nat))} {k:Nat},qbt P a0 S R Φ k os L T→∀(i:Nat) o,os[i]? = some o→qxr P a0 S R Φ (k+i) o (L.getD i []) (T.getD i [])
 | [],_,_,_,_,_,_,h=>by simp at h
 | o::os,L,T,k,h,0,m,g=>by
  simp only[List.getElem?_cons_zero,Option.some.injEq] at g;subst g;have:=h.1;cases L<;>cases T<;>exact this
 | o::os,L,T,k,h,i+1,m,g=>by
  have:=qbt.at h.2 i m (by simpa using g);rw[show k+(i+1)=k+1+i by omega];cases L<;>cases T<;>exact this
theorem qmv{o:Oper}{ρ:Operand→Value}{w:World}{K g:Value→World→Prop}(h:zi P o ρ w K)(k:∀v w',K v w'→g v w'):zi P o ρ w g:=by
 unfold zi at h ⊢;generalize (execOp ρ o).run P w=r at h ⊢;cases r with
 | ok n w' =>
  cases n<;>simp only at h ⊢
  ·exact k _ _ h
  ·exact k _ _ h
  ·refine h.mono fun e q i=> ?_
   obtain⟨v,hv,m⟩:=i;exact⟨v,hv,k _ _ m⟩
 | halt x w'=>simp only at h
theorem qbt.one{a0:Act}{S:Nat→World→Prop}{R:World→World→Prop}{Φ:Nat→Value→World→Prop}{i:Nat}{o:Oper}{os:List Oper}{Li:List (Nat × Nat)}{L T:List (List (Nat × Nat))}{k g:Nat}(q:o.guard=none)
  (h:∀(qk:Nat→Value) (w:World),S k w→q42 Φ qk w Li→zi P o (putL a0 qk Li).eval w fun v w'=>R w w'∧S g w'∧Φ i v w')
  (r:qbt P a0 S R Φ (i+1) os L T):qbt P a0 S R Φ i (o::os) (Li::L) ([(k,g)]::T) :=
 ⟨fun t C qk w m z=>by
  obtain rfl:=List.mem_singleton.1 C;rw[q];exact h qk w m (qnz z),r⟩
theorem qbt.any{a0:Act}{S:Nat→World→Prop}{R:World→World→Prop}{Φ:Nat→Value→World→Prop}{i:Nat}{o:Oper}{os:List Oper}{Li Ti:List (Nat × Nat)}{L T:List (List (Nat × Nat))}(m:o.guard=none)
  (h:∀t∈Ti,∀(qk:Nat→Value) (w:World),S t.1 w→q42 Φ qk w Li→zi P o (putL a0 qk Li).eval w fun v w'=>R w w'∧S t.2 w'∧Φ i v w')
  (r:qbt P a0 S R Φ (i+1) os L T):qbt P a0 S R Φ i (o::os) (Li::L) (Ti::T) :=
 ⟨fun t z qk w g q=>by
  rw[m];exact h t z qk w g (qnz q),r⟩
theorem qbt.pure{a0:Act}{S:Nat→World→Prop}{R:World→World→Prop}{Φ:Nat→Value→World→Prop}{i:Nat}{o:Oper}{os:List Oper}{Li Ti:List (Nat × Nat)}{L T:List (List (Nat × Nat))}(C:o.guard=none)(g:∀w,R w w)(q:(Ti.all fun t=>t.1==t.2)=true)
  (h:∀(qk:Nat→Value) (w:World),q42 Φ qk w Li→zi P o (putL a0 qk Li).eval w fun v w'=>w'=w∧Φ i v w)
  (r:qbt P a0 S R Φ (i+1) os L T):qbt P a0 S R Φ i (o::os) (Li::L) (Ti::T) :=
 ⟨fun t E qk w m D=>by
  rw[C];have e:t.1=t.2:=by simpa using List.all_eq_true.1 q t E
  rw[e] at m;exact qmv (h qk w (qnz D)) fun v w' z=>by
   obtain⟨rfl,hv⟩:=z;exact⟨g _,m,hv⟩,r⟩
structure DagInvP(l:List Oper)(A:List (List Nat))(st:List Nat)(a0:Act)(S:Nat→World→Prop)(Φ:Nat→Value→World→Prop)(listed:Array Bool)(a:Act)(w:World)(qk:Nat→Value):Prop where
 size:listed.size=l.length
 s:S (qgo st listed) w
 phi:∀i,listed.getD i false=true→Φ i (qk i) w
 shut:∀i,listed.getD i false=true→∀k∈A.getD i [],listed.getD k false=true
 defers:a.defers=a0.defers
 tmps:a.tmps.size=a0.tmps.size
 other:∀t,(∀i,listed.getD i false=true→qbn l i≠some t)→a.tmps[t]? = a0.tmps[t]?
 at_:∀i t,listed.getD i false=true→qbn l i=some t→a.tmps[t]? = some (qk i)
theorem q9d(D:Dag l A L n){st:List Nat}(a8:stB l st=true){TS:List (List (Nat × Nat))}(c3:(List.range l.length).map (qod A st)=TS){a0:Act}(hn:a0.tmps.size=n){S:Nat→World→Prop}{R:World→World→Prop}{Φ:Nat→Value→World→Prop}{Q:Exit→Act→World→Prop}
  (c1:∀w,R w w) (a5:∀i v w w' k k',S k w→S k' w'→R w w'→Φ i v w→Φ i v w') (b3:qbt P a0 S R Φ 0 l L TS)
  (c2:∀qk w,S st.length w→(∀i,i<l.length→Φ i (qk i) w)→Q .normal (putL a0 qk (qbc l)) w) :
  ∀(F:Nat) (z:Array Bool) (a:Act) (w:World) (qk:Nat→Value),DagInvP l A st a0 S Φ z a w qk→(List.range l.length).countP (fun i=> !z.getD i false)≤F→wpAny P .any l.toArray Q F z a w:=by
 have Z:∀(z:Array Bool) (a:Act) (w:World) (qk:Nat→Value),DagInvP l A st a0 S Φ z a w qk→Region.ready .any l.toArray z=[]→Q .normal a w:=by
  intro z a w qk I hr;have a6:∀(i:Nat),i<l.length→z.getD i false=true:=by
   intro i
   induction i using Nat.strongRecOn with
   | _ i ih =>
    intro O;cases hl:z.getD i false with
    | true=>rfl
    | false =>
     exfalso;have:i∈Region.ready .any l.toArray z:=by
      rw[mem_ready];have ho:l[i]? = some l[i]:=List.getElem?_eq_getElem O;refine⟨?_,l[i],by simp[O],fun e he hb=> ?_⟩
      ·rw[Array.getD_eq_getD_getElem?] at hl ⊢;have:i<z.size:=by rw[I.size];exact O
       rw[Array.getElem?_eq_getElem this] at hl ⊢;simpa using hl
      ·have U:=(D.edge i _ ho e he hb).1;have h2:=(D.anc i _ ho _ U).1;exact ih _ h2 (by omega)
     rw[hr] at this;cases this
  have ha:a=putL a0 qk (qbc l):=by
   refine q00 (by rw[qh9];exact I.defers) fun t=> ?_
   by_cases h:∃i,qbn l i=some t
   ·obtain⟨i,O⟩:=h;have H:=(ql6 O).1;rw[I.at_ i t (a6 i H) O];have hm:(i,t)∈qbc l:=by
     unfold qbc;rw[List.mem_filterMap];exact⟨i,List.mem_range.2 H,by rw[O];rfl⟩
    refine(qj2 qk (qbc l) a0 (i,t) hm (fun q hq e=> ?_) (by rw[hn];exact(D.slot i t O).1)).symm;unfold qbc at hq;rw[List.mem_filterMap] at hq;obtain⟨j,_,C⟩:=hq;rw[Option.map_eq_some_iff] at C;obtain⟨t',a9,rfl⟩:=C;simp only at e;subst e;exact(D.slot i _ O).2 j a9
   ·rw[I.other t fun i _ T=>h ⟨i,T⟩,qew];intro p hp e;unfold qbc at hp;rw[List.mem_filterMap] at hp;obtain⟨j,_,C⟩:=hp;rw[Option.map_eq_some_iff] at C;obtain⟨t',a9,rfl⟩:=C;exact h ⟨j,by rw[a9,←e]⟩
  rw[ha];exact c2 qk w (by have:=I.s;rwa [q7g a8 a6] at this) fun i O=>I.phi i (a6 i O)
 intro F
 induction F with
 | zero =>
  intro z a w qk I hc;have hr:Region.ready .any l.toArray z=[]:=by
   rw[List.eq_nil_iff_forall_not_mem];intro i O;obtain⟨h0,o,ho,_⟩:=mem_ready.1 O;have H:i<l.length:=by simpa using (Array.getElem?_eq_some_iff.1 ho).1
   have:(List.range l.length).countP (fun i=> !z.getD i false)=0:=by omega
   rw[List.countP_eq_zero] at this;have:=this i (List.mem_range.2 H);rw[Array.getD_eq_getD_getElem?] at h0 this;have T:i<z.size:=by rw[I.size];exact H
   rw[Array.getElem?_eq_getElem T] at h0 this;simp at h0 this;rw[h0] at this;cases this
  exact⟨hr,Z z a w qk I hr⟩
 | succ F ih =>
  intro z a w qk I hc;refine⟨fun hr=>Z z a w qk I hr,fun i O=> ?_⟩;obtain⟨h0,o,ho,b5⟩:=mem_ready.1 O;have H:i<l.length:=by simpa using (Array.getElem?_eq_some_iff.1 ho).1
  have T:i<z.size:=by rw[I.size];exact H
  have K:l[i]? = some o:=by simpa using ho
  have V:z.getD i false=false:=by
   rw[Array.getD_eq_getD_getElem?] at h0 ⊢;rw[Array.getElem?_eq_getElem T] at h0 ⊢;simpa using h0
  have N:∀k∈A.getD i [],z.getD k false=true:=by
   intro k hk;obtain⟨_,e,he,hb,h⟩:=D.anc i o K k hk;have U:=b5 e he hb;rcases h with rfl | h
   ·exact U
   ·exact I.shut _ U k h
  have a7:∀t∈o.looksAt l.toArray,a.tmps[t]? = (putL a0 qk (L.getD i [])).tmps[t]? := by
   intro t ht;by_cases h:∃j,z.getD j false=true∧qbn l j=some t
   ·obtain⟨j,C,E⟩:=h;rcases D.look i o K t ht j E with U | ⟨U,h2⟩
    ·have:=I.shut j C i U;rw[V] at this;cases this
    ·rw[I.at_ j t C E];refine(qj2 qk _ a0 (j,t) h2 (fun q hq e=> ?_) (by rw[hn];exact(D.slot j t E).1)).symm;have:=(D.lis i o K q hq).2;rw[e] at this;exact(D.slot j t E).2 _ this
   ·rw[I.other t fun j C T=>h ⟨j,C,T⟩,qew];intro p hp e;obtain⟨U,h2⟩:=D.lis i o K p hp;exact h ⟨p.1,N _ U,by rw[h2,e]⟩
  have W:execOp a.eval o=execOp (putL a0 qk (L.getD i [])).eval o:=by
   refine execOp_congr o (D.sel i o K) fun x hx=> ?_
   cases x with
   | tmp t =>
    have:=a7 t (List.mem_append_left _ (List.mem_filterMap.2 ⟨.tmp t,by simpa using hx,rfl⟩));simp only[Act.eval,Array.getD_eq_getD_getElem?,this]
   | _=>rfl
  have Y:=b3.at i o K;rw[Nat.zero_add] at Y;have c4:=q79 (A:=A) (st:=st) a8 V (fun k hk=>N k hk) (fun s T O=>by
   cases hl:z.getD s false with
   | false=>rfl
   | true=>have:=I.shut s hl i O;rw[V] at this;cases this)
  have b4:TS.getD i []=qod A st i:=by
   rw[←c3,List.getD_eq_getElem?_getD,List.getElem?_map,List.getElem?_range H];rfl
  have M:=Y _ (by rw[b4];exact c4) qk w I.s fun p hp=>I.phi _ (N _ (D.lis i o K p hp).1)
  have next:∀v w',R w w'→S (qgo st z+if st.contains i then 1 else 0) w'→Φ i v w'→wpAny P .any l.toArray Q F (z.setIfInBounds i true) (a.put o.dst v) w':=by
   intro v w' hR hS hΦ;have a4:qbn l i=o.dst:=by unfold qbn;rw[K];rfl
   refine ih (z.setIfInBounds i true) (a.put o.dst v) w' (fun j=>if j=i then v else qk j) ⟨?_,by rw[q7h a8 T V];exact hS,?_,?_,?_,?_,?_,?_⟩ ?_
   ·rw[Array.size_setIfInBounds];exact I.size
   ·intro j C;rcases (qaf T).1 C with rfl | J
    ·simpa using hΦ
    ·have X:j≠i:=by rintro rfl;rw[V] at J;cases J
     simp only[if_neg X];exact a5 j _ w w' _ _ I.s hS hR (I.phi j J)
   ·intro j C k hk;refine(qaf T).2 ?_;rcases (qaf T).1 C with rfl | J
    ·exact .inr (N k hk)
    ·exact .inr (I.shut j J k hk)
   ·cases o.dst<;>exact I.defers
   ·cases hd:o.dst with
    | none=>exact I.tmps
    | some d=>simpa [Act.put] using I.tmps
   ·intro t ht;have U:=I.other t fun j C=>ht j ((qaf T).2 (.inr C))
    have h2:=ht i ((qaf T).2 (.inl rfl));rw[a4] at h2;cases hd:o.dst with
    | none=>exact U
    | some d =>
     have X:d≠t:=by rintro rfl;exact h2 hd
     simpa [Act.put,Array.getElem?_setIfInBounds_ne X] using U
   ·intro j t C E;rcases (qaf T).1 C with rfl | J
    ·rw[a4] at E;rw[E,if_pos rfl];have:t<a.tmps.size:=by rw[I.tmps,hn];exact(D.slot j t (by rw[a4,E])).1
     simp[Act.put,this]
    ·have X:j≠i:=by rintro rfl;rw[V] at J;cases J
     rw[if_neg X];have U:=I.at_ j t J E;cases hd:o.dst with
     | none=>exact U
     | some d =>
      have c0:d≠t:=by
       rintro rfl;exact X ((D.slot i d (by rw[a4,hd])).2 j E)
      simpa [Act.put,Array.getElem?_setIfInBounds_ne c0] using U
   ·have U:(List.range l.length).countP (fun j=> !(z.setIfInBounds i true).getD j false)<(List.range l.length).countP (fun j=> !z.getD j false):=by
     have b9:i∈List.range l.length:=List.mem_range.2 H;obtain⟨s,r,c7⟩:=List.append_of_mem b9;rw[c7,List.countP_append,List.countP_append,List.countP_cons,List.countP_cons];have m:∀xs:List Nat,xs.countP (fun j=> !(z.setIfInBounds i true).getD j false)≤xs.countP (fun j=> !z.getD j false):=by
      intro xs;refine List.countP_mono_left fun j _ C=> ?_
      cases h:z.getD j false with
      | false=>rfl
      | true=>rw[(qaf T).2 (.inr h)] at C;cases C
     have m1:=m s;have m2:=m r;rw[qgl T,V];simp only[Bool.not_true,Bool.not_false,Bool.false_eq_true,if_false,if_true];omega
    omega
  unfold wpOp;rw[ho];simp only;cases hg:o.guard with
  | none =>
   rw[hg] at M;rw[if_pos (by unfold Region.wanted;rw[hg])];exact .inl (qi4 W M fun v w' h=>next v w' h.1 h.2.1 h.2.2)
  | some gb =>
   obtain⟨g,b⟩:=gb;rw[hg] at M;obtain⟨c6,t,b8⟩:=D.guard i o K g b hg;have b7:=N g c6;have c5:=I.at_ g t b7 b8;obtain⟨p1,p2⟩:=M (I.phi g b7);have hy:Region.wanted o (yielded l.toArray a.tmps)=true↔qk g = .bool b:=by
    unfold Region.wanted yielded;rw[hg];have e1:(l.toArray[g]?).bind (·.dst)=some t:=by simpa [qbn] using b8
    simp only[e1,Option.bind_some,c5];constructor
    ·intro h;split at h
     ·rename_i b' b6;simp only[Option.some.injEq] at b6;simp at h;rw[b6,h]
     ·simp at h
    ·intro h;rw[h];simp
   by_cases hw:Region.wanted o (yielded l.toArray a.tmps)=true
   ·rw[if_pos hw];exact .inl (qi4 W (p1 (hy.1 hw)) fun v w' h=>next v w' h.1 h.2.1 h.2.2)
   ·rw[if_neg hw];obtain⟨q1,q2⟩:=p2 fun h=>hw (hy.2 h)
    exact next undef w (c1 w) q1 q2
theorem qoh{id:Nat}{a:Act}{w:World}{Q:Exit→Act→World→Prop}(K:P.follows .mixedOrders=true)(L:List (List (Nat × Nat)))(n:Nat)(M:a.tmps.size=n)(I:q9b l (qvm l []) L n=true)(A:List (Nat × Nat))(H:qbc l=A)
  (st:List Nat) (D:stB l st=true) (E:List (List (Nat × Nat))) (C:(List.range l.length).map (qod (qvm l []) st)=E)
  (S:Nat→World→Prop) (R:World→World→Prop) (Φ:Nat→Value→World→Prop) (J:S 0 w.drew) (q:∀w,R w w) (g:∀i v w w' k N,S k w→S N w'→R w w'→Φ i v w→Φ i v w')
  (o:qbt P a S R Φ 0 l L E) (z:∀qk w,S st.length w→(∀i,i<l.length→Φ i (qk i) w)→Q .normal (putL a qk A) w) :
  (Code.region id l.toArray true).wp P Q a w:=by
 subst H
 refine wp_region_any K ?_
 have F:qgo st (Array.replicate l.length false)=0:=List.countP_eq_zero.2 fun s _ h=>by rw[qb2] at h;cases h
 refine q9d (q1g I) D C M q g o z _ _ a _ (fun _=>undef) ⟨by simp,by rw[List.size_toArray,F];exact J,?_,?_,rfl,rfl,fun _ _=>rfl,?_⟩ ?_
 ·intro i m;rw[qb2] at m;cases m
 ·intro i m;rw[qb2] at m;cases m
 ·intro i t m;rw[qb2] at m;cases m
 ·refine Nat.le_trans List.countP_le_length ?_;simp
end
def qkk:Nat→List Int→ByteArray→List Int
 | 0,h,_=>h
 | n+1,h,s=>qkk n (qm9 h (s.extract 0 64)) (s.extract 64 s.size)
def zfz:Value→Nat
 | .string b=>b.size
 | _=>0
theorem q3v(n:Nat):∀(h:List Int) (s:ByteArray),h.length=8∧qf6 h→(qkk n h s).length=8∧qf6 (qkk n h s):=by
 induction n with
 | zero=>intro h s g;exact g
 | succ n i=>intro h s g;exact i _ _ (qv3 _ _ g)
def ziz(g:World)(A:Nat)(r:List Int):Nat→World→Prop
 | 0,w=>qu g w
 | _,w=>Upd (fun k=>k=A) g w∧qbd .u32 w A r
theorem q6w{C:Array Value}{g:List Value}(h:C.size=g.length):qkd C 0 g=g.toArray:=by
 refine Array.ext_getElem? fun i=> ?_
 rw[qha C 0 g i (by omega)];by_cases o:i<g.length
 ·rw[if_pos (by omega)];simp
 ·have l:C[i]? = none:=Array.getElem?_eq_none (by omega);have m:g.toArray[i]? = none:=Array.getElem?_eq_none (by simp;omega);rw[if_neg (by omega),l,m]
theorem qbd.setAll{k:IntKind}{w:World}{b:Nat}{ws:List Int}(h:qbd k w b ws){r:List Int}(g:r.length=ws.length):qbd k (w.setCells b 0 (r.map (Value.int k))) b r:=by
 obtain⟨T,h⟩:=h;refine⟨T,(qa2 h 0 _).trans ?_⟩;rw[q6w (by simp[g])]
theorem qbd.stOk{k:IntKind}{w:World}{b:Nat}{ws:List Int}(h:qbd k w b ws){r:List Int}{n:Nat}(i:r.length=ws.length)(g:r.length=n):stOk w b 0 n (r.map (Value.int k)).toArray=true:=by
 obtain⟨T,h⟩:=h;refine qf3 h (by simp;omega) (by simp;omega) ?_;rw[List.all_toArray,List.all_map,List.all_eq_true];intro x _;rfl
def zif(x:Value):Sem Value:=Instr.loadAt 184 x
theorem qr6(x:Value):Instr.loadAt 184 x=zif x:=rfl
theorem zfm(b o:Nat)(w:World):(zif (.pointer (some ⟨b,o,none⟩))).run Tryz.prog w=match zm w b o 8 with | some A=> .ok (.agg A) w | none=>qek Tryz.prog 184 w b o :=
 qae 184 8 _ Tryz.underlying184 rfl Tryz.infoW8 b o w
def ziu(x v:Value):Sem Unit:=Instr.storeAt 184 x v
theorem qs0(x v:Value):Instr.storeAt 184 x v=ziu x v:=rfl
theorem zfy(b o:Nat)(A:Array Value)(w:World):(ziu (.pointer (some ⟨b,o,none⟩)) (.agg A)).run Tryz.prog w=if stOk w b o 8 A=true then .ok () (w.setCells b o A.toList) else qf2 Tryz.prog 184 w b o A :=
 qax 184 8 Tryz.infoW8 b o A w
attribute [local go_sem ↓ high] qr6 qs0
attribute [local go_sem] zfm zfy
set_option maxRecDepth 100000 in
set_option maxHeartbeats 1000000 in
theorem q08(h:List Int)(s:ByteArray)(w:World)(hh:h.length=8)(hu:qf6 h)(hs:s.size≤1073741824)(a9:Tabs w) :
  Calls Tryz.prog 113 #[.agg (h.map (Value.int .u32)).toArray,.string s] w fun e w'=>e = .returned (.agg ((qkk (s.size / 64) h s).map (Value.int .u32)).toArray)∧qu w w':=by
 have hw:=a9.lt
 obtain⟨h0,h1,h2,h3,h4,h5,h6,h7,rfl⟩:=qcc hh
 simp only[List.map_cons,List.map_nil]
 go_enter Tryz.func113,Tryz.ntmps113
 go_upto_region 1 with fail
 obtain⟨wA,H⟩:∃wA:World,wA=(w.alloc (.cells #[.int .u32 h0,.int .u32 h1,.int .u32 h2,.int .u32 h3,.int .u32 h4,.int .u32 h5,.int .u32 h6,.int .u32 h7] 184)).alloc (.cells #[.int .u32 0,.int .u32 0,.int .u32 0,.int .u32 0,.int .u32 0,.int .u32 0,.int .u32 0,.int .u32 0] 184):=⟨_,rfl⟩
 have sA:wA.heap.size=w.heap.size+2:=by rw[H];simp
 have nA:qu w wA:=by rw[H];exact((Upd.refl _ _).alloc _).alloc _
 have vA:qbd .u32 wA w.heap.size [h0,h1,h2,h3,h4,h5,h6,h7]:=by rw[H];exact⟨_,zj (qi _ _) _⟩
 have vR:qbd .u32 wA (w.heap.size+1) [0,0,0,0,0,0,0,0]:=by
  rw[H];have:=qi (w.alloc (.cells #[.int .u32 h0,.int .u32 h1,.int .u32 h2,.int .u32 h3,.int .u32 h4,.int .u32 h5,.int .u32 h6,.int .u32 h7] 184)) (.cells #[.int .u32 0,.int .u32 0,.int .u32 0,.int .u32 0,.int .u32 0,.int .u32 0,.int .u32 0,.int .u32 0] 184);rw[World.size_alloc] at this;exact⟨_,this⟩
 rw[←H]
 clear H
 have TA:=a9.new nA
 generalize a8:w.heap.size=A at *
 have a7:=qb a8
 clear a8
 obtain⟨wo,rfl⟩:∃wo:World,wo=wA:=⟨_,rfl⟩
 generalize b3:[h0,h1,h2,h3,h4,h5,h6,h7]=V at vA hu
 have b4:V.length=8:=by rw[←b3];rfl
 go_wp2_with fail
 go_loopw [1,10] (fun sv _ wr=>∃(t:ByteArray) (hc:List Int),sv = .string t∧t.size≤s.size∧hc.length=8∧qf6 hc∧Hid (qkk (t.size / 64) hc t=qkk (s.size / 64) V s)∧qbd .u32 wr A hc∧Upd (fun k=>k=A) wo wr) (fun sv _ _=>zfz sv)
 case atStart=>exact⟨s,V,rfl,Nat.le_refl _,b4,hu,qb rfl,vA,Upd.refl _ _⟩
 case round =>
  obtain⟨t,hc,rfl,c3,a4,U,HE,hA,ur⟩:=hrel;obtain⟨I,J,K,L,M,N,O,P,rfl⟩:=qcc a4;obtain⟨Y,rfl⟩:∃Y:World,Y=wr:=⟨_,rfl⟩;by_cases c1:64≤t.size
  ·have c2:=ur.size;have b5:(t.extract 0 64).size=64:=by rw[ByteArray.size_extract];omega
   have b8:=TA.upd ur (by omega) (by omega);have hC:∀W,qu Y W→_:=fun W n=>qvx [I,J,K,L,M,N,O,P] (t.extract 0 64) W rfl U b5 (b8.new n)
   have hok:=qv3 [I,J,K,L,M,N,O,P] (t.extract 0 64) ⟨rfl,U⟩;have l:qkk (t.size / 64) [I,J,K,L,M,N,O,P] t=qkk ((t.extract 64 t.size).size / 64) (qm9 [I,J,K,L,M,N,O,P] (t.extract 0 64)) (t.extract 64 t.size):=by
    obtain⟨n,hn⟩:∃n,t.size / 64=n+1:=⟨t.size / 64-1,by omega⟩;have:(t.extract 64 t.size).size / 64=n:=by rw[ByteArray.size_extract];omega
    rw[hn,this];rfl
   simp only[List.map_cons,List.map_nil] at hC;generalize qm9 [I,J,K,L,M,N,O,P] (t.extract 0 64)=r at hC hok l;obtain⟨r8,b9⟩:=hok;obtain⟨m,o,v,z,C,D,E,F,rfl⟩:=qcc r8;simp only[List.map_cons,List.map_nil] at hC;have HC:=qb hC;have HN:=qb (l.symm.trans (qa HE));clear hC l HE r8;have HA:=qb hA;clear hA U a4;have t1:(64:Int)≤(t.size:Int):=by omega
   have t2:¬(t.size:Int)<64:=by omega
   go_wp2_with fail;refine qoh (by kernel_rfl) [[],[],[(1,12)],[(0,11),(2,13)],[(3,14)],[(4,10)],[(4,10)],[(5,15)]] 18 rfl (by kernel_rfl) [(0,11),(1,12),(2,13),(3,14),(4,10),(5,15),(6,16)] (by kernel_rfl) [7] (by kernel_rfl) [[(0,0)],[(0,0)],[(0,0)],[(0,0)],[(0,0)],[(0,0)],[(0,0),(1,1)],[(0,1)]] (by kernel_rfl)
    (ziz Y A [m,o,v,z,C,D,E,F]) qbs
    (isV [.agg #[.int .u32 I,.int .u32 J,.int .u32 K,.int .u32 L,.int .u32 M,.int .u32 N,.int .u32 O,.int .u32 P],.string t,.string (t.extract 0 64),
     .tuple #[.agg #[.int .u32 m,.int .u32 o,.int .u32 v,.int .u32 z,.int .u32 C,.int .u32 D,.int .u32 E,.int .u32 F],.bool true],.tuple #[.agg #[.int .u32 m,.int .u32 o,.int .u32 v,.int .u32 z,.int .u32 C,.int .u32 D,.int .u32 E,.int .u32 F],.bool true],
     .agg #[.int .u32 m,.int .u32 o,.int .u32 v,.int .u32 z,.int .u32 C,.int .u32 D,.int .u32 E,.int .u32 F],.bool true,undef])
    ((Upd.refl _ _).drew) (fun _=>qbs.all _ _) (fun _ _ _ _ _ _ _ _ _ h=>h) ?_ ?_
   ·refine .one rfl ?_ <| .pure rfl (fun _=>qbs.all _ _) rfl ?_ <| .pure rfl (fun _=>qbs.all _ _) rfl ?_ <| .one rfl ?_ <| .pure rfl (fun _=>qbs.all _ _) rfl ?_ <| .pure rfl (fun _=>qbs.all _ _) rfl ?_ <| .pure rfl (fun _=>qbs.all _ _) rfl ?_ <| .one rfl ?_ <| .nil
    ·intro qk w1 i _;replace i:qu Y w1:=i;have hr:=((qa HA).upd i (fun h=>h)).row (n:=8) rfl;simp only[List.map_cons,List.map_nil] at hr;unfold zi;simp only[putL];go_simp;exact⟨qbs.all _ _,i,rfl⟩
    ·intro qk w1 _;unfold zi;simp only[putL];go_simp
     first | exact⟨rfl,rfl⟩ | rfl
    ·rintro qk w1 ⟨g,-⟩;replace g:qk 1 = .string t:=g;unfold zi;simp only[putL];go_simp
     first | exact⟨rfl,rfl⟩ | rfl
    ·rintro qk w1 i ⟨g,p1,-⟩;replace g:qk 0 = .agg #[.int .u32 I,.int .u32 J,.int .u32 K,.int .u32 L,.int .u32 M,.int .u32 N,.int .u32 O,.int .u32 P]:=g;replace p1:qk 2 = .string (t.extract 0 64):=p1;unfold zi;simp only[putL];go_simp;refine(qa HC w1 i).mono ?_;rintro e w2 ⟨rfl,n2⟩;exact⟨_,rfl,qbs.all _ _,Upd.trans i n2,rfl⟩
    ·rintro qk w1 ⟨g,-⟩;replace g:qk 3 = .tuple #[.agg #[.int .u32 m,.int .u32 o,.int .u32 v,.int .u32 z,.int .u32 C,.int .u32 D,.int .u32 E,.int .u32 F],.bool true]:=g;unfold zi;simp only[putL];go_simp
     first | exact⟨rfl,rfl⟩ | rfl
    ·rintro qk w1 ⟨g,-⟩;replace g:qk 4 = .tuple #[.agg #[.int .u32 m,.int .u32 o,.int .u32 v,.int .u32 z,.int .u32 C,.int .u32 D,.int .u32 E,.int .u32 F],.bool true]:=g;unfold zi;simp only[putL];go_simp
     first | exact⟨rfl,rfl⟩ | rfl
    ·rintro qk w1 ⟨g,-⟩;replace g:qk 4 = .tuple #[.agg #[.int .u32 m,.int .u32 o,.int .u32 v,.int .u32 z,.int .u32 C,.int .u32 D,.int .u32 E,.int .u32 F],.bool true]:=g;unfold zi;simp only[putL];go_simp
     first | exact⟨rfl,rfl⟩ | rfl
    ·rintro qk w1 i ⟨g,-⟩;replace i:qu Y w1:=i;replace g:qk 5 = .agg #[.int .u32 m,.int .u32 o,.int .u32 v,.int .u32 z,.int .u32 C,.int .u32 D,.int .u32 E,.int .u32 F]:=g;have hI:=(qa HA).upd i (fun h=>h);have a5:=hI.stOk (r:=[m,o,v,z,C,D,E,F]) (n:=8) rfl rfl;have Z:=hI.setAll (r:=[m,o,v,z,C,D,E,F]) rfl;simp only[List.map_cons,List.map_nil] at a5 Z;have b6:=qb Z;have X:=((i.mono (T:=fun k=>k=A) (fun _ _ h=>h.elim)).then ((Upd.refl (· = A) w1).setCells 0 [.int .u32 m,.int .u32 o,.int .u32 v,.int .u32 z,.int .u32 C,.int .u32 D,.int .u32 E,.int .u32 F]) (fun _ _ h=>h));have b7:=qb X;clear Z X hI;unfold zi;simp only[putL];go_simp
     first | exact⟨qbs.all _ _,⟨qa b7,qa b6⟩,rfl⟩ | (trace_state;sorry)
   ·intro qk w1 i hv;have v0:=hv 0 (by decide);have v1:=hv 1 (by decide);have v2:=hv 2 (by decide);have v3:=hv 3 (by decide);have v4:=hv 4 (by decide);have v5:=hv 5 (by decide);have v6:=hv 6 (by decide);clear hv;replace i:Upd (fun k=>k=A) Y w1∧qbd .u32 w1 A [m,o,v,z,C,D,E,F]:=i;obtain⟨X,hI⟩:=i;have us:=ur.trans X;simp only[putL,v0,v1,v2,v3,v4,v5,v6];clear HC HA X ur v0 v1 v2 v3 v4 v5 v6;obtain⟨wz,rfl⟩:∃wz:World,wz=w1:=⟨_,rfl⟩;have HI:=qb hI;clear hI;go_simp;go_wp2;go_roundw
    case rel=>exact⟨t.extract 64 t.size,[m,o,v,z,C,D,E,F],rfl,by rw[ByteArray.size_extract];omega,rfl,b9,HN,qa HI,us⟩
    case measure=>simp[zfz];omega
  ·have c0:t.size<64:=by omega
   have hz:t.size / 64=0:=by omega
   have R:=qa HE;rw[hz] at R;replace R:=qb (show qkk (s.size / 64) V s=[I,J,K,L,M,N,O,P] from R.symm);clear HE hz;have t1:(t.size:Int)<64:=by omega
   have t2:¬(64:Int)≤(t.size:Int):=by omega
   have a6:=vR.upd ur (by omega);have nn:=nA.then ur (by intro q hq h;rw[qa a7] at hq;omega);subst b3;clear vR ur U a4 TA b4 vA;have hr:=hA.row (n:=8) rfl;have a5:=a6.stOk (r:=[I,J,K,L,M,N,O,P]) (n:=8) rfl rfl;have hR:=a6.setAll (r:=[I,J,K,L,M,N,O,P]) rfl;simp only[List.map_cons,List.map_nil] at hr a5 hR;have HR:=qb hR;have X:=nn.then ((Upd.refl (· = A+1) Y).setCells 0 [.int .u32 I,.int .u32 J,.int .u32 K,.int .u32 L,.int .u32 M,.int .u32 N,.int .u32 O,.int .u32 P]) (by intro q hq h;rw[qa a7] at hq;omega);have HU:=qb X;clear hA a6 nn hR X;go_wp2;obtain⟨TF,hF⟩:=qa HR;refine bodyPost_ret (results_cell_row rfl _ _ (A+1) TF _ _ _ rfl hF Tryz.underlying184 rfl (by exact Tryz.infoW8)) rfl ?_;refine⟨?_,qa HU⟩;rw[qa R]
end Go.Proofs.YthnohmjbbeahmaaGreatDoor
namespace Go.Proofs.YthnohmjbbeahmaaGreatDoor
open Go.RowKit
theorem Tryz.infoU8:(Tryz.prog.info? 5).map (fun i=>(i.zero,i.size,i.bytes))=some (some (.int .u8 0),1,1):=by kernel_rfl
def qb8(w:World)(base:Nat)(v:Value)(xs:List Int):Prop:=w.ownsRow base 5 1 v xs.length (xs.map (Value.int .u8))
theorem qb8.shape{w:World}{base:Nat}{v:Value}{xs:List Int}(h:qb8 w base v xs):∃a c,v = .slice a xs.length c:=by
 rcases h.2 with ⟨rfl,e⟩ | ⟨g,cap,i,rfl,_⟩
 ·exact⟨none,0,by rw[e]⟩
 ·exact⟨_,_,rfl⟩
theorem qb8.ge{w:World}{base:Nat}{v:Value}{xs:List Int}(h:qb8 w base v xs){k:Nat}(i:v.ownBlock=some k):base≤k∧k<w.heap.size:=by
 rcases h.2 with ⟨rfl,_⟩ | ⟨g,cap,l,rfl,m,o,_⟩
 ·simp[Value.ownBlock] at i
 ·simp[Value.ownBlock] at i;subst i;exact⟨m,z6 o⟩
theorem qb8.upd{S:Nat→Prop}{w w':World}{base:Nat}{v:Value}{xs:List Int}(h:qb8 w base v xs)(u:Upd S w w')(o:∀k,v.ownBlock=some k→¬S k):qb8 w' base v xs:=by
 refine⟨h.1,?_⟩;rcases h.2 with h | ⟨g,cap,i,l,m,q,r⟩
 ·exact .inl h
 ·exact .inr ⟨g,cap,i,l,m,u.old q (o g (by rw[l];rfl)),r⟩
theorem qb8.new{w w':World}{base:Nat}{v:Value}{xs:List Int}(h:qb8 w base v xs)(u:qu w w'):qb8 w' base v xs:=h.upd u (fun _ _ h=>h)
theorem qb8.nil(w:World)(base:Nat):qb8 w base (.slice none 0 0) []:=⟨rfl,.inl ⟨rfl,rfl⟩⟩
theorem qb8.made(w:World)(base:Nat)(xs:List Int)(g:base≤w.heap.size)(i:xs.length≤1073741824):qb8 (w.alloc (.cells (xs.map (Value.int .u8)).toArray 5)) base (.slice (some ⟨w.heap.size,0,none⟩) xs.length xs.length) xs:=by
 refine⟨by simp,.inr ⟨w.heap.size,xs.length,_,rfl,g,qi _ _,Nat.le_refl _,by unfold maxLen;omega,by simp,?_⟩⟩;simp;exact List.take_of_length_le (by simp)
theorem qks{m:Array Oper}{rest:List Oper}{o:Oper}{a:Act}{Q:Exit→Act→World→Prop}(t:o.guard=none)(s x:Operand)
  (K:o.op = .call {callee:= .builtin .append,args:=#[s,x],argTypes:=#[22,22]})
  (base:Nat) (v:Value) (xs:List Int) (L:a.eval s=v) (c:Int) (T:TypeId) (w:World) (N:a.eval x = .slice (some ⟨w.heap.size,0,none⟩) 1 1) (l:qb8 w base v xs) (P:xs.length≤1073741824) (O:base≤w.heap.size)
  (h:∀q w',qb8 w' base q (xs++[c])→Upd (fun k=>v.ownBlock=some k) w w'→wpList Tryz.prog m Q rest (a.put o.dst q) w') :
  wpList Tryz.prog m Q (o::rest) a (w.alloc (.cells #[.int .u8 c] T)):=by
 obtain⟨i,I,C,D,E⟩:=info_parts Tryz.infoU8
 have F:(w.alloc (.cells #[.int .u8 c] T)).ownsRow base 5 1 v xs.length (xs.map (Value.int .u8)):=l.new ((Upd.refl _ _).alloc _)
 refine wpList_append_own _ t s x 22 K base 5 i (.int .u8 0) 1 1 Tryz.underlying22 I C D E rfl (by decide) v xs.length _ L F ⟨w.heap.size,0,none⟩ 1 1 [.int .u8 c] N rfl ?_ ?_ (by unfold maxLen;omega) (by omega) (by simp;omega) ?_
 ·intro j u J;have g:(⟨w.heap.size,0,none⟩:Addr).add j=⟨w.heap.size,j,none⟩:=by unfold Addr.add;split<;>simp_all
  rw[g,qh (qi _ _)];simpa using J
 ·intro u M;obtain rfl:=List.mem_singleton.1 M;rfl
 ·intro q w' z H _;refine h q w' ?_ ((((Upd.refl _ w).alloc _)).grown H (fun k e _=>e));unfold qb8;rw[List.length_append,List.map_append];exact z
theorem qlg{w:World}{base:Nat}{v:Value}{xs:List Int}(h:qb8 w base v xs):(convert 22 9 v).run Tryz.prog w = .ok (.string (strOfNums xs)) w:=by
 rcases h.2 with ⟨rfl,e⟩ | ⟨g,cap,l,rfl,z,t,C,D,E,o⟩
 ·rw[List.eq_nil_of_length_eq_zero e];exact run_convert_bytes_nil w 22 5 Tryz.underlying22 Tryz.underlying5 0 0 9 Tryz.underlying9
 ·refine run_convert_bytes_arg w 22 5 Tryz.underlying22 Tryz.underlying5 g 0 xs.length cap xs rfl (fun i m=> ?_) 9 Tryz.underlying9;have q:l.toList[i]? = (xs.map (Value.int .u8))[i]? := by rw[←o,List.getElem?_take_of_lt (by omega)]
  rw[Nat.zero_add,qh t i,←Array.getElem?_toList,q,List.getElem?_map,List.getElem?_eq_getElem m];simp[List.getD,List.getElem?_eq_getElem m]
end Go.Proofs.YthnohmjbbeahmaaGreatDoor
