/-
  Package digest: bytes (the bytes of eight letters).
-/
import Derived.Test.YtfmkdoachjgjbaaGreatDoorSha2
import Derived.Test.YtfmkdoachjgjbaaGreatDoorMab
set_option maxRecDepth 100000
set_option maxHeartbeats 1000000
set_option linter.unusedVariables false
set_option linter.unusedSimpArgs false
namespace Go.Proofs.YtfmkdoachjgjbaaGreatDoor
open Go.RowKit
def byI(h:List Int)(i:Nat):Int:=wd h (i / 4) / 2 ^ (24-8*(i%4))%256
def qhs(h:List Int)(n:Nat):List Int:=(List.range n).foldl (fun bs i=>bs.set i (byI h i)) (List.replicate 32 0)
theorem qiy(h:List Int):qhs h 0=List.replicate 32 0:=by unfold qhs;simp only[List.range_zero,List.foldl_nil]
theorem qix(h:List Int)(n:Nat):qhs h (n+1)=(qhs h n).set n (byI h n):=by simp[qhs,List.range_succ]
theorem qkb(h:List Int)(n:Nat):(qhs h n).length=32:=by
 induction n with
 | zero=>rw[qiy];simp
 | succ n i=>rw[qix];simp[i]
theorem Tryz.infoHash:(Tryz.prog.info? 35).map (·.size)=some 32:=by kernel_rfl
theorem qy9(h:List Int)(w:World)(hh:h.length=8)(hu:qej h) :
  Calls Tryz.prog 196 #[.agg (h.map (Value.int .u32)).toArray] w fun e w'=>e = .returned (.agg ((qhs h 32).map (Value.int .u8)).toArray)∧qq w w':=by
 obtain⟨y,z,C,D,E,H,I,J,rfl⟩:=qcl hh
 simp only[List.map_cons,List.map_nil]
 go_enter Tryz.func196,Tryz.ntmps196
 go_upto_region 2 with fail
 obtain⟨x,o⟩:∃x:World,x=((w.alloc (.cells #[.int .u32 y,.int .u32 z,.int .u32 C,.int .u32 D,.int .u32 E,.int .u32 H,.int .u32 I,.int .u32 J] 295)).alloc (.cells #[.int .u8 0,.int .u8 0,.int .u8 0,.int .u8 0,.int .u8 0,.int .u8 0,.int .u8 0,.int .u8 0,.int .u8 0,.int .u8 0,.int .u8 0,.int .u8 0,.int .u8 0,.int .u8 0,.int .u8 0,.int .u8 0,.int .u8 0,.int .u8 0,.int .u8 0,.int .u8 0,.int .u8 0,.int .u8 0,.int .u8 0,.int .u8 0,.int .u8 0,.int .u8 0,.int .u8 0,.int .u8 0,.int .u8 0,.int .u8 0,.int .u8 0,.int .u8 0] 35)).alloc (.cells #[.int .u8 0,.int .u8 0,.int .u8 0,.int .u8 0,.int .u8 0,.int .u8 0,.int .u8 0,.int .u8 0,.int .u8 0,.int .u8 0,.int .u8 0,.int .u8 0,.int .u8 0,.int .u8 0,.int .u8 0,.int .u8 0,.int .u8 0,.int .u8 0,.int .u8 0,.int .u8 0,.int .u8 0,.int .u8 0,.int .u8 0,.int .u8 0,.int .u8 0,.int .u8 0,.int .u8 0,.int .u8 0,.int .u8 0,.int .u8 0,.int .u8 0,.int .u8 0] 35):=⟨_,rfl⟩
 have sA:x.heap.size=w.heap.size+3:=by rw[o];simp
 have nA:qq w x:=by rw[o];exact(((Upd.refl _ _).alloc _).alloc _).alloc _
 have vA:qbl .u32 x w.heap.size [y,z,C,D,E,H,I,J]:=by rw[o];exact⟨_,qx (qx (ql _ _) _) _⟩
 have vB:qbl .u8 x (w.heap.size+1+1) (List.replicate 32 0):=by
  rw[o];have:=ql ((w.alloc (.cells #[.int .u32 y,.int .u32 z,.int .u32 C,.int .u32 D,.int .u32 E,.int .u32 H,.int .u32 I,.int .u32 J] 295)).alloc (.cells #[.int .u8 0,.int .u8 0,.int .u8 0,.int .u8 0,.int .u8 0,.int .u8 0,.int .u8 0,.int .u8 0,.int .u8 0,.int .u8 0,.int .u8 0,.int .u8 0,.int .u8 0,.int .u8 0,.int .u8 0,.int .u8 0,.int .u8 0,.int .u8 0,.int .u8 0,.int .u8 0,.int .u8 0,.int .u8 0,.int .u8 0,.int .u8 0,.int .u8 0,.int .u8 0,.int .u8 0,.int .u8 0,.int .u8 0,.int .u8 0,.int .u8 0,.int .u8 0] 35)) (.cells #[.int .u8 0,.int .u8 0,.int .u8 0,.int .u8 0,.int .u8 0,.int .u8 0,.int .u8 0,.int .u8 0,.int .u8 0,.int .u8 0,.int .u8 0,.int .u8 0,.int .u8 0,.int .u8 0,.int .u8 0,.int .u8 0,.int .u8 0,.int .u8 0,.int .u8 0,.int .u8 0,.int .u8 0,.int .u8 0,.int .u8 0,.int .u8 0,.int .u8 0,.int .u8 0,.int .u8 0,.int .u8 0,.int .u8 0,.int .u8 0,.int .u8 0,.int .u8 0] 35);rw[World.size_alloc,World.size_alloc] at this;exact⟨_,this⟩
 have vR:qbl .u8 x (w.heap.size+1) (List.replicate 32 0):=by
  rw[o];have:=ql (w.alloc (.cells #[.int .u32 y,.int .u32 z,.int .u32 C,.int .u32 D,.int .u32 E,.int .u32 H,.int .u32 I,.int .u32 J] 295)) (.cells #[.int .u8 0,.int .u8 0,.int .u8 0,.int .u8 0,.int .u8 0,.int .u8 0,.int .u8 0,.int .u8 0,.int .u8 0,.int .u8 0,.int .u8 0,.int .u8 0,.int .u8 0,.int .u8 0,.int .u8 0,.int .u8 0,.int .u8 0,.int .u8 0,.int .u8 0,.int .u8 0,.int .u8 0,.int .u8 0,.int .u8 0,.int .u8 0,.int .u8 0,.int .u8 0,.int .u8 0,.int .u8 0,.int .u8 0,.int .u8 0,.int .u8 0,.int .u8 0] 35);rw[World.size_alloc] at this;exact⟨_,qx this _⟩
 rw[←o]
 clear o
 generalize O:w.heap.size=A at *
 have N:=qj O
 clear O
 obtain⟨wo,rfl⟩:∃wo:World,wo=x:=⟨_,rfl⟩
 have T:qej [y,z,C,D,E,H,I,J]:=hu
 generalize R:[y,z,C,D,E,H,I,J]=M at vA T
 have b2:M.length=8:=by rw[←R];rfl
 go_wp2_with fail
 go_loopw [4,5] (fun _ Z wr=>∃i:Nat,Z = .int .i64 (i:Int)∧i≤32∧qbl .u8 wr (A+1+1) (qhs M i)∧Upd (fun k=>k=A+1+1) wo wr) (fun _ Z _=>32-(intOf Z).toNat)
 case atStart=>exact⟨0,rfl,by omega,by rw[qiy];exact vB,Upd.refl _ _⟩
 case round =>
  obtain⟨i,rfl,hi,t,ur⟩:=hrel;by_cases b3:i<32
  ·have c0:wr.cell? ⟨A,i / 4,none⟩=some (.int .u32 (wd M (i / 4))):=(vA.upd ur (by omega)).cell (by omega);obtain⟨a0,a2⟩:=T.at (i / 4);obtain⟨v1,c1⟩:∃v,wr.cell? ⟨A+1+1,i,none⟩=some v:=⟨_,t.cell (by rw[qkb];omega)⟩;have z1:=t.free i;have a6:(i:Int)<32:=by omega
   have a7:IntKind.i64.wrap ((i:Int) / 4)=(i:Int) / 4:=IntWalk.i64_in _ (by omega);have a8:((i:Int) / 4).toNat=i / 4:=by omega
   have b0:(0:Int)≤(i:Int) / 4:=by omega
   have b1:(i:Int) / 4<8:=by omega
   have K:=t.set i (byI M i);rw[←qix] at K;have V:=qj K;clear K;go_wp2;have us:=ur.set1 i (.int .u8 (byI M i));go_roundw
   case rel=>exact⟨i+1,by go_num,by omega,qg V,us⟩
   case measure=>simp[intOf];omega
  ·obtain rfl:i=32:=by omega
   rw[show ((32:Nat):Int)=32 from rfl];have a1:=vR.upd ur (by omega);have nn:=nA.then ur (by intro q Y h;rw[qg N] at Y;omega);have m:=qkb M 32;subst R;generalize P:qhs [y,z,C,D,E,H,I,J] 32=bs at t m;have U:=qj P;clear P vA vB vR ur;obtain⟨TB,t⟩:=t;obtain⟨W,X⟩:=a1;go_upto_region 7 with fail;refine wp_region_lit ?_;refine wpList_load_row rfl _ _ rfl (A+1+1) rfl TB _ _ _ t Tryz.underlying35 rfl (by rw[List.size_toArray,List.length_map,m];exact Tryz.infoHash) ?_;refine wpList_store_row rfl _ _ _ rfl (A+1) (bs.map (Value.int .u8)).toArray rfl rfl W _ X (by rw[List.size_toArray,List.length_map,m];exact Tryz.infoHash) (by simp[m]) (by simp[Value.oneCell']) ?_;have hF:=setRow_heap wr (A+1) _ (bs.map (Value.int .u8)).toArray W (0,0) X;have uF:Upd (fun k=>k=A+1) wr (wr.setRow (A+1) (bs.map (Value.int .u8)).toArray):=⟨rfl,rfl,rfl,by simp,fun i _ hn=>setRow_other _ _ _ _ hn⟩;have nE:=nn.then uF (by intro q Y h;rw[qg N] at Y;omega);generalize wr.setRow (A+1) (bs.map (Value.int .u8)).toArray=wF at hF nE ⊢;clear uF nn t X;go_wp2_with fail;refine bodyPost_ret (results_cell_row rfl _ _ (A+1) W _ _ _ rfl hF Tryz.underlying35 rfl (by rw[List.size_toArray,List.length_map,m];exact Tryz.infoHash)) rfl ?_;exact⟨by rw[qg U],nE⟩
def qcw(_ _:World):Prop:=True
theorem qcw.all(w w':World):qcw w w':=trivial
def isV(xs:List Value)(i:Nat)(v:Value)(_:World):Prop:=v=xs.getD i undef
section
variable {P:Program}{l:List Oper}{A:List (List Nat)}{L:List (List (Nat × Nat))}{n:Nat}
def qeh(st:List Nat)(i:Array Bool):Nat:=st.countP fun s=>i.getD s false
def stB(l:List Oper)(st:List Nat):Bool:=decide st.Nodup&&st.all fun s=>decide (s<l.length)
def qj8(A:List (List Nat))(st:List Nat)(i:Nat):List (Nat × Nat) :=
 (List.range (st.countP (fun s=>s != i && !(A.getD s []).contains i)+1)).filterMap fun k =>
  if st.countP (fun s=>(A.getD i []).contains s)≤k then some (k,k+if st.contains i then 1 else 0) else none
theorem q1o{st:List Nat}{i:Nat}{m:Array Bool}(y:stB l st=true)(t:m.getD i false=false)(v:∀k∈A.getD i [],m.getD k false=true)(w:∀s,s∈st→i∈A.getD s []→m.getD s false=false) :
  (qeh st m,qeh st m+if st.contains i then 1 else 0)∈qj8 A st i:=by
 unfold qj8
 rw[List.mem_filterMap]
 refine⟨qeh st m,List.mem_range.2 ?_,?_⟩
 ·refine Nat.lt_succ_of_le (List.countP_mono_left fun s q o=> ?_);simp only[Bool.and_eq_true,bne_iff_ne,ne_eq,Bool.not_eq_true'];refine⟨?_,?_⟩
  ·rintro rfl;rw[t] at o;cases o
  ·cases x:(A.getD s []).contains i with
   | false=>rfl
   | true =>
    have:=w s q (List.contains_iff_mem.1 x);rw[this] at o;cases o
 ·rw[if_pos];exact List.countP_mono_left fun s _ q=>v s (List.contains_iff_mem.1 q)
theorem q01{st:List Nat}{m:Array Bool}(o:stB l st=true)(q:∀i,i<l.length→m.getD i false=true):qeh st m=st.length:=by
 unfold stB at o;simp only[Bool.and_eq_true,List.all_eq_true,decide_eq_true_eq] at o;exact List.countP_eq_length.2 fun s t=>q s (o.2 s t)
theorem q02{st:List Nat}{m:Array Bool}{i:Nat}(o:stB l st=true)(C:i<m.size)(v:m.getD i false=false):qeh st (m.setIfInBounds i true)=qeh st m+if st.contains i then 1 else 0:=by
 unfold stB at o;simp only[Bool.and_eq_true,decide_eq_true_eq] at o;have x:=o.1;clear o;unfold qeh
 induction st with
 | nil=>rfl
 | cons s st w =>
  have w:=w x.tail;rw[List.countP_cons,List.countP_cons,w];by_cases h:s=i
  ·subst h;have t:st.contains s=false:=by
    cases z:st.contains s with
    | false=>rfl
    | true=>exact absurd (List.contains_iff_mem.1 z) (List.nodup_cons.1 x).1
   have q:(m.setIfInBounds s true).getD s false=true:=qfy C;rw[q,v,t];simp
  ·have q:(m.setIfInBounds i true).getD s false=m.getD s false:=getD_set_ne false (fun e=>h e.symm);rw[q];have y:(s::st).contains i=st.contains i:=by
    rw[List.contains_cons];have:(i==s)=false:=by simpa using fun e=>h e.symm
    rw[this,Bool.false_or]
   rw[y];omega
def qsu(P:Program)(a0:Act)(S:Nat→World→Prop)(R:World→World→Prop)(Φ:Nat→Value→World→Prop)(i:Nat)(o:Oper)(Li:List (Nat × Nat))(Ti:List (Nat × Nat)):Prop :=
 ∀t∈Ti,∀(qz:Nat→Value) (w:World),S t.1 w→(∀p∈Li,Φ p.1 (qz p.1) w) →
  match o.guard with
  | none=>qam P o (putL a0 qz Li).eval w fun v w'=>R w w'∧S t.2 w'∧Φ i v w'
  | some (g,b)=>Φ g (qz g) w→(qz g = .bool b→qam P o (putL a0 qz Li).eval w fun v w'=>R w w'∧S t.2 w'∧Φ i v w')∧(qz g ≠ .bool b→S t.2 w∧Φ i undef w)
def qbe(P:Program)(a0:Act)(S:Nat→World→Prop)(R:World→World→Prop)(Φ:Nat→Value→World→Prop):Nat→List Oper→List (List (Nat × Nat))→List (List (Nat × Nat))→Prop
 | _,[],_,_=>True
 | i,o::os,L,T=>qsu P a0 S R Φ i o (L.headD []) (T.headD [])∧qbe P a0 S R Φ (i+1) os L.tail T.tail
theorem qbe.nil{a0:Act}{S:Nat→World→Prop}{R:World→World→Prop}{Φ:Nat→Value→World→Prop}{i:Nat}{L T:List (List (Nat × Nat))} : qbe P a0 S R Φ i [] L T:=trivial
theorem qbe.at{a0:Act}{S:Nat→World→Prop}{R:World→World→Prop}{Φ:Nat→Value→World→Prop} : ∀ {os:List Oper} {L T:List (List (Nat × Nat))} {k:Nat},qbe P a0 S R Φ k os L T→∀(i:Nat) o,os[i]? = some o→qsu P a0 S R Φ (k+i) o (L.getD i []) (T.getD i [])
 | [],_,_,_,_,_,_,h=>by simp at h
 | o::os,L,T,k,h,0,q,m=>by
  simp only[List.getElem?_cons_zero,Option.some.injEq] at m;subst m;have:=h.1;cases L<;>cases T<;>exact this
 | o::os,L,T,k,h,i+1,q,m=>by
  have:=qbe.at h.2 i q (by simpa using m);rw[show k+(i+1)=k+1+i by omega];cases L<;>cases T<;>exact this
theorem qw0{o:Oper}{ρ:Operand→Value}{w:World}{K i:Value→World→Prop}(h:qam P o ρ w K)(k:∀v w',K v w'→i v w'):qam P o ρ w i:=by
 unfold qam at h ⊢;generalize (execOp ρ o).run P w=r at h ⊢;cases r with
 | ok n w' =>
  cases n<;>simp only at h ⊢
  ·exact k _ _ h
  ·exact k _ _ h
  ·refine h.mono fun e y m=> ?_
   obtain⟨v,t,q⟩:=m;exact⟨v,t,k _ _ q⟩
 | halt x w'=>simp only at h
theorem qbe.one{a0:Act}{S:Nat→World→Prop}{R:World→World→Prop}{Φ:Nat→Value→World→Prop}{i:Nat}{o:Oper}{os:List Oper}{Li:List (Nat × Nat)}{L T:List (List (Nat × Nat))}{k m:Nat}(x:o.guard=none)
  (h:∀(qz:Nat→Value) (w:World),S k w→qyt Φ qz w Li→qam P o (putL a0 qz Li).eval w fun v w'=>R w w'∧S m w'∧Φ i v w')
  (r:qbe P a0 S R Φ (i+1) os L T):qbe P a0 S R Φ i (o::os) (Li::L) ([(k,m)]::T) :=
 ⟨fun t z qz w q y=>by
  obtain rfl:=List.mem_singleton.1 z;rw[x];exact h qz w q (qju y),r⟩
theorem qbe.any{a0:Act}{S:Nat→World→Prop}{R:World→World→Prop}{Φ:Nat→Value→World→Prop}{i:Nat}{o:Oper}{os:List Oper}{Li Ti:List (Nat × Nat)}{L T:List (List (Nat × Nat))}(q:o.guard=none)
  (h:∀t∈Ti,∀(qz:Nat→Value) (w:World),S t.1 w→qyt Φ qz w Li→qam P o (putL a0 qz Li).eval w fun v w'=>R w w'∧S t.2 w'∧Φ i v w')
  (r:qbe P a0 S R Φ (i+1) os L T):qbe P a0 S R Φ i (o::os) (Li::L) (Ti::T) :=
 ⟨fun t y qz w m x=>by
  rw[q];exact h t y qz w m (qju x),r⟩
theorem qbe.pure{a0:Act}{S:Nat→World→Prop}{R:World→World→Prop}{Φ:Nat→Value→World→Prop}{i:Nat}{o:Oper}{os:List Oper}{Li Ti:List (Nat × Nat)}{L T:List (List (Nat × Nat))}(z:o.guard=none)(m:∀w,R w w)(x:(Ti.all fun t=>t.1==t.2)=true)
  (h:∀(qz:Nat→Value) (w:World),qyt Φ qz w Li→qam P o (putL a0 qz Li).eval w fun v w'=>w'=w∧Φ i v w)
  (r:qbe P a0 S R Φ (i+1) os L T):qbe P a0 S R Φ i (o::os) (Li::L) (Ti::T) :=
 ⟨fun t D qz w q C=>by
  rw[z];have e:t.1=t.2:=by simpa using List.all_eq_true.1 x t D
  rw[e] at q;exact qw0 (h qz w (qju C)) fun v w' y=>by
   obtain⟨rfl,E⟩:=y;exact⟨m _,q,E⟩,r⟩
structure DagInvP(l:List Oper)(A:List (List Nat))(st:List Nat)(a0:Act)(S:Nat→World→Prop)(Φ:Nat→Value→World→Prop)(listed:Array Bool)(a:Act)(w:World)(qz:Nat→Value):Prop where
 size:listed.size=l.length
 s:S (qeh st listed) w
 phi:∀i,listed.getD i false=true→Φ i (qz i) w
 shut:∀i,listed.getD i false=true→∀k∈A.getD i [],listed.getD k false=true
 defers:a.defers=a0.defers
 tmps:a.tmps.size=a0.tmps.size
 other:∀t,(∀i,listed.getD i false=true→qbr l i≠some t)→a.tmps[t]? = a0.tmps[t]?
 at_:∀i t,listed.getD i false=true→qbr l i=some t→a.tmps[t]? = some (qz i)
theorem q2x(D:Dag l A L n){st:List Nat}(a8:stB l st=true){TS:List (List (Nat × Nat))}(c1:(List.range l.length).map (qj8 A st)=TS){a0:Act}(hn:a0.tmps.size=n){S:Nat→World→Prop}{R:World→World→Prop}{Φ:Nat→Value→World→Prop}{Q:Exit→Act→World→Prop}
  (b9:∀w,R w w) (a2:∀i v w w' k k',S k w→S k' w'→R w w'→Φ i v w→Φ i v w') (b1:qbe P a0 S R Φ 0 l L TS)
  (c0:∀qz w,S st.length w→(∀i,i<l.length→Φ i (qz i) w)→Q .normal (putL a0 qz (qbu l)) w) :
  ∀(E:Nat) (y:Array Bool) (a:Act) (w:World) (qz:Nat→Value),DagInvP l A st a0 S Φ y a w qz→(List.range l.length).countP (fun i=> !y.getD i false)≤E→wpAny P .any l.toArray Q E y a w:=by
 have Z:∀(y:Array Bool) (a:Act) (w:World) (qz:Nat→Value),DagInvP l A st a0 S Φ y a w qz→Region.ready .any l.toArray y=[]→Q .normal a w:=by
  intro y a w qz I hr;have a6:∀(i:Nat),i<l.length→y.getD i false=true:=by
   intro i
   induction i using Nat.strongRecOn with
   | _ i ih =>
    intro O;cases hl:y.getD i false with
    | true=>rfl
    | false =>
     exfalso;have:i∈Region.ready .any l.toArray y:=by
      rw[mem_ready];have ho:l[i]? = some l[i]:=List.getElem?_eq_getElem O;refine⟨?_,l[i],by simp[O],fun e he hb=> ?_⟩
      ·rw[Array.getD_eq_getD_getElem?] at hl ⊢;have:i<y.size:=by rw[I.size];exact O
       rw[Array.getElem?_eq_getElem this] at hl ⊢;simpa using hl
      ·have U:=(D.edge i _ ho e he hb).1;have h2:=(D.anc i _ ho _ U).1;exact ih _ h2 (by omega)
     rw[hr] at this;cases this
  have ha:a=putL a0 qz (qbu l):=by
   refine q1y (by rw[qh4];exact I.defers) fun t=> ?_
   by_cases h:∃i,qbr l i=some t
   ·obtain⟨i,O⟩:=h;have H:=(qj3 O).1;rw[I.at_ i t (a6 i H) O];have hm:(i,t)∈qbu l:=by
     unfold qbu;rw[List.mem_filterMap];exact⟨i,List.mem_range.2 H,by rw[O];rfl⟩
    refine(qjv qz (qbu l) a0 (i,t) hm (fun q hq e=> ?_) (by rw[hn];exact(D.slot i t O).1)).symm;unfold qbu at hq;rw[List.mem_filterMap] at hq;obtain⟨j,_,z⟩:=hq;rw[Option.map_eq_some_iff] at z;obtain⟨t',b0,rfl⟩:=z;simp only at e;subst e;exact(D.slot i _ O).2 j b0
   ·rw[I.other t fun i _ T=>h ⟨i,T⟩,qeb];intro p hp e;unfold qbu at hp;rw[List.mem_filterMap] at hp;obtain⟨j,_,z⟩:=hp;rw[Option.map_eq_some_iff] at z;obtain⟨t',b0,rfl⟩:=z;exact h ⟨j,by rw[b0,←e]⟩
  rw[ha];exact c0 qz w (by have:=I.s;rwa [q01 a8 a6] at this) fun i O=>I.phi i (a6 i O)
 intro E
 induction E with
 | zero =>
  intro y a w qz I hc;have hr:Region.ready .any l.toArray y=[]:=by
   rw[List.eq_nil_iff_forall_not_mem];intro i O;obtain⟨h0,o,ho,_⟩:=mem_ready.1 O;have H:i<l.length:=by simpa using (Array.getElem?_eq_some_iff.1 ho).1
   have:(List.range l.length).countP (fun i=> !y.getD i false)=0:=by omega
   rw[List.countP_eq_zero] at this;have:=this i (List.mem_range.2 H);rw[Array.getD_eq_getD_getElem?] at h0 this;have T:i<y.size:=by rw[I.size];exact H
   rw[Array.getElem?_eq_getElem T] at h0 this;simp at h0 this;rw[h0] at this;cases this
  exact⟨hr,Z y a w qz I hr⟩
 | succ E ih =>
  intro y a w qz I hc;refine⟨fun hr=>Z y a w qz I hr,fun i O=> ?_⟩;obtain⟨h0,o,ho,b3⟩:=mem_ready.1 O;have H:i<l.length:=by simpa using (Array.getElem?_eq_some_iff.1 ho).1
  have T:i<y.size:=by rw[I.size];exact H
  have K:l[i]? = some o:=by simpa using ho
  have V:y.getD i false=false:=by
   rw[Array.getD_eq_getD_getElem?] at h0 ⊢;rw[Array.getElem?_eq_getElem T] at h0 ⊢;simpa using h0
  have N:∀k∈A.getD i [],y.getD k false=true:=by
   intro k hk;obtain⟨_,e,he,hb,h⟩:=D.anc i o K k hk;have U:=b3 e he hb;rcases h with rfl | h
   ·exact U
   ·exact I.shut _ U k h
  have a7:∀t∈o.looksAt l.toArray,a.tmps[t]? = (putL a0 qz (L.getD i [])).tmps[t]? := by
   intro t ht;by_cases h:∃j,y.getD j false=true∧qbr l j=some t
   ·obtain⟨j,z,C⟩:=h;rcases D.look i o K t ht j C with U | ⟨U,h2⟩
    ·have:=I.shut j z i U;rw[V] at this;cases this
    ·rw[I.at_ j t z C];refine(qjv qz _ a0 (j,t) h2 (fun q hq e=> ?_) (by rw[hn];exact(D.slot j t C).1)).symm;have:=(D.lis i o K q hq).2;rw[e] at this;exact(D.slot j t C).2 _ this
   ·rw[I.other t fun j z T=>h ⟨j,z,T⟩,qeb];intro p hp e;obtain⟨U,h2⟩:=D.lis i o K p hp;exact h ⟨p.1,N _ U,by rw[h2,e]⟩
  have W:execOp a.eval o=execOp (putL a0 qz (L.getD i [])).eval o:=by
   refine execOp_congr o (D.sel i o K) fun x hx=> ?_
   cases x with
   | tmp t =>
    have:=a7 t (List.mem_append_left _ (List.mem_filterMap.2 ⟨.tmp t,by simpa using hx,rfl⟩));simp only[Act.eval,Array.getD_eq_getD_getElem?,this]
   | _=>rfl
  have Y:=b1.at i o K;rw[Nat.zero_add] at Y;have c2:=q1o (A:=A) (st:=st) a8 V (fun k hk=>N k hk) (fun s T O=>by
   cases hl:y.getD s false with
   | false=>rfl
   | true=>have:=I.shut s hl i O;rw[V] at this;cases this)
  have b2:TS.getD i []=qj8 A st i:=by
   rw[←c1,List.getD_eq_getElem?_getD,List.getElem?_map,List.getElem?_range H];rfl
  have M:=Y _ (by rw[b2];exact c2) qz w I.s fun p hp=>I.phi _ (N _ (D.lis i o K p hp).1)
  have next:∀v w',R w w'→S (qeh st y+if st.contains i then 1 else 0) w'→Φ i v w'→wpAny P .any l.toArray Q E (y.setIfInBounds i true) (a.put o.dst v) w':=by
   intro v w' hR hS hΦ;have a1:qbr l i=o.dst:=by unfold qbr;rw[K];rfl
   refine ih (y.setIfInBounds i true) (a.put o.dst v) w' (fun j=>if j=i then v else qz j) ⟨?_,by rw[q02 a8 T V];exact hS,?_,?_,?_,?_,?_,?_⟩ ?_
   ·rw[Array.size_setIfInBounds];exact I.size
   ·intro j z;rcases (qa4 T).1 z with rfl | J
    ·simpa using hΦ
    ·have X:j≠i:=by rintro rfl;rw[V] at J;cases J
     simp only[if_neg X];exact a2 j _ w w' _ _ I.s hS hR (I.phi j J)
   ·intro j z k hk;refine(qa4 T).2 ?_;rcases (qa4 T).1 z with rfl | J
    ·exact .inr (N k hk)
    ·exact .inr (I.shut j J k hk)
   ·cases o.dst<;>exact I.defers
   ·cases hd:o.dst with
    | none=>exact I.tmps
    | some d=>simpa [Act.put] using I.tmps
   ·intro t ht;have U:=I.other t fun j z=>ht j ((qa4 T).2 (.inr z))
    have h2:=ht i ((qa4 T).2 (.inl rfl));rw[a1] at h2;cases hd:o.dst with
    | none=>exact U
    | some d =>
     have X:d≠t:=by rintro rfl;exact h2 hd
     simpa [Act.put,Array.getElem?_setIfInBounds_ne X] using U
   ·intro j t z C;rcases (qa4 T).1 z with rfl | J
    ·rw[a1] at C;rw[C,if_pos rfl];have:t<a.tmps.size:=by rw[I.tmps,hn];exact(D.slot j t (by rw[a1,C])).1
     simp[Act.put,this]
    ·have X:j≠i:=by rintro rfl;rw[V] at J;cases J
     rw[if_neg X];have U:=I.at_ j t J C;cases hd:o.dst with
     | none=>exact U
     | some d =>
      have b8:d≠t:=by
       rintro rfl;exact X ((D.slot i d (by rw[a1,hd])).2 j C)
      simpa [Act.put,Array.getElem?_setIfInBounds_ne b8] using U
   ·have U:(List.range l.length).countP (fun j=> !(y.setIfInBounds i true).getD j false)<(List.range l.length).countP (fun j=> !y.getD j false):=by
     have b7:i∈List.range l.length:=List.mem_range.2 H;obtain⟨s,r,c5⟩:=List.append_of_mem b7;rw[c5,List.countP_append,List.countP_append,List.countP_cons,List.countP_cons];have m:∀xs:List Nat,xs.countP (fun j=> !(y.setIfInBounds i true).getD j false)≤xs.countP (fun j=> !y.getD j false):=by
      intro xs;refine List.countP_mono_left fun j _ z=> ?_
      cases h:y.getD j false with
      | false=>rfl
      | true=>rw[(qa4 T).2 (.inr h)] at z;cases z
     have m1:=m s;have m2:=m r;rw[qfy T,V];simp only[Bool.not_true,Bool.not_false,Bool.false_eq_true,if_false,if_true];omega
    omega
  unfold wpOp;rw[ho];simp only;cases hg:o.guard with
  | none =>
   rw[hg] at M;rw[if_pos (by unfold Region.wanted;rw[hg])];exact .inl (qjq W M fun v w' h=>next v w' h.1 h.2.1 h.2.2)
  | some gb =>
   obtain⟨g,b⟩:=gb;rw[hg] at M;obtain⟨c4,t,b6⟩:=D.guard i o K g b hg;have b5:=N g c4;have c3:=I.at_ g t b5 b6;obtain⟨p1,p2⟩:=M (I.phi g b5);have hy:Region.wanted o (yielded l.toArray a.tmps)=true↔qz g = .bool b:=by
    unfold Region.wanted yielded;rw[hg];have e1:(l.toArray[g]?).bind (·.dst)=some t:=by simpa [qbr] using b6
    simp only[e1,Option.bind_some,c3];constructor
    ·intro h;split at h
     ·rename_i b' b4;simp only[Option.some.injEq] at b4;simp at h;rw[b4,h]
     ·simp at h
    ·intro h;rw[h];simp
   by_cases hw:Region.wanted o (yielded l.toArray a.tmps)=true
   ·rw[if_pos hw];exact .inl (qjq W (p1 (hy.1 hw)) fun v w' h=>next v w' h.1 h.2.1 h.2.2)
   ·rw[if_neg hw];obtain⟨q1,q2⟩:=p2 fun h=>hw (hy.2 h)
    exact next undef w (b9 w) q1 q2
theorem qms{id:Nat}{a:Act}{w:World}{Q:Exit→Act→World→Prop}(K:P.follows .mixedOrders=true)(L:List (List (Nat × Nat)))(n:Nat)(M:a.tmps.size=n)(I:q9p l (qvc l []) L n=true)(A:List (Nat × Nat))(H:qbu l=A)
  (st:List Nat) (C:stB l st=true) (D:List (List (Nat × Nat))) (z:(List.range l.length).map (qj8 (qvc l []) st)=D)
  (S:Nat→World→Prop) (R:World→World→Prop) (Φ:Nat→Value→World→Prop) (J:S 0 w.drew) (x:∀w,R w w) (m:∀i v w w' k N,S k w→S N w'→R w w'→Φ i v w→Φ i v w')
  (q:qbe P a S R Φ 0 l L D) (y:∀qz w,S st.length w→(∀i,i<l.length→Φ i (qz i) w)→Q .normal (putL a qz A) w) :
  (Code.region id l.toArray true).wp P Q a w:=by
 subst H
 refine wp_region_any K ?_
 have E:qeh st (Array.replicate l.length false)=0:=List.countP_eq_zero.2 fun s _ h=>by rw[qcf] at h;cases h
 refine q2x (q2y I) C z M x m q y _ _ a _ (fun _=>undef) ⟨by simp,by rw[List.size_toArray,E];exact J,?_,?_,rfl,rfl,fun _ _=>rfl,?_⟩ ?_
 ·intro i o;rw[qcf] at o;cases o
 ·intro i o;rw[qcf] at o;cases o
 ·intro i t o;rw[qcf] at o;cases o
 ·refine Nat.le_trans List.countP_le_length ?_;simp
end
end Go.Proofs.YtfmkdoachjgjbaaGreatDoor
