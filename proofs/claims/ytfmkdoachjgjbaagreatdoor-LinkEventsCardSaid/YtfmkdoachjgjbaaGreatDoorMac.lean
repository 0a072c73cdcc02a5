/-
  Package digest: bytes (the bytes of eight letters).
-/
import Derived.Test.YtfmkdoachjgjbaaGreatDoorSha2
import Derived.Test.YtfmkdoachjgjbaaGreatDoorMaa
import Derived.Test.YtfmkdoachjgjbaaGreatDoorRows
import Derived.OpenShut
set_option maxRecDepth 100000
set_option maxHeartbeats 1000000
set_option linter.unusedVariables false
set_option linter.unusedSimpArgs false
namespace Go.Proofs.YtfmkdoachjgjbaaGreatDoor
section
open Go.RowKit
def byI(h:List Int)(i:Nat):Int:=wd h (i / 4) / 2 ^ (24-8*(i%4))%256
def qf2(h:List Int)(n:Nat):List Int:=(List.range n).foldl (fun bs i=>bs.set i (byI h i)) (List.replicate 32 0)
theorem qhy(h:List Int):qf2 h 0=List.replicate 32 0:=by unfold qf2;simp only[List.range_zero,List.foldl_nil]
theorem qhx(h:List Int)(n:Nat):qf2 h (n+1)=(qf2 h n).set n (byI h n):=by simp[qf2,List.range_succ]
theorem qgy(h:List Int)(n:Nat):(qf2 h n).length=32:=by
 induction n with
 | zero=>rw[qhy];simp
 | succ n f=>rw[qhx];simp[f]
theorem Tryz.infoHash:(Tryz.prog.info? 35).map (·.size)=some 32:=by kernel_rfl
theorem qz9(h:List Int)(w:World)(hh:h.length=8)(hu:qep h) :
  Calls Tryz.prog 196 #[.agg (h.map (Value.int .u32)).toArray] w fun e w'=>e = .returned (.agg ((qf2 h 32).map (Value.int .u8)).toArray)∧qq w w':=by
 obtain⟨C,E,F,H,I,J,K,L,rfl⟩:=qb3 hh
 simp only[List.map_cons,List.map_nil]
 go_enter Tryz.func196,Tryz.ntmps196
 go_upto_region 2 with fail
 obtain⟨z,m⟩:∃z:World,z=((w.alloc (.cells #[.int .u32 C,.int .u32 E,.int .u32 F,.int .u32 H,.int .u32 I,.int .u32 J,.int .u32 K,.int .u32 L] 295)).alloc (.cells #[.int .u8 0,.int .u8 0,.int .u8 0,.int .u8 0,.int .u8 0,.int .u8 0,.int .u8 0,.int .u8 0,.int .u8 0,.int .u8 0,.int .u8 0,.int .u8 0,.int .u8 0,.int .u8 0,.int .u8 0,.int .u8 0,.int .u8 0,.int .u8 0,.int .u8 0,.int .u8 0,.int .u8 0,.int .u8 0,.int .u8 0,.int .u8 0,.int .u8 0,.int .u8 0,.int .u8 0,.int .u8 0,.int .u8 0,.int .u8 0,.int .u8 0,.int .u8 0] 35)).alloc (.cells #[.int .u8 0,.int .u8 0,.int .u8 0,.int .u8 0,.int .u8 0,.int .u8 0,.int .u8 0,.int .u8 0,.int .u8 0,.int .u8 0,.int .u8 0,.int .u8 0,.int .u8 0,.int .u8 0,.int .u8 0,.int .u8 0,.int .u8 0,.int .u8 0,.int .u8 0,.int .u8 0,.int .u8 0,.int .u8 0,.int .u8 0,.int .u8 0,.int .u8 0,.int .u8 0,.int .u8 0,.int .u8 0,.int .u8 0,.int .u8 0,.int .u8 0,.int .u8 0] 35):=⟨_,rfl⟩
 have sA:z.heap.size=w.heap.size+3:=by rw[m];simp
 have nA:qq w z:=by rw[m];exact(((Upd.refl _ _).alloc _).alloc _).alloc _
 have vA:qbg .u32 z w.heap.size [C,E,F,H,I,J,K,L]:=by rw[m];exact⟨_,qs (qs (qj _ _) _) _⟩
 have vB:qbg .u8 z (w.heap.size+1+1) (List.replicate 32 0):=by
  rw[m];have:=qj ((w.alloc (.cells #[.int .u32 C,.int .u32 E,.int .u32 F,.int .u32 H,.int .u32 I,.int .u32 J,.int .u32 K,.int .u32 L] 295)).alloc (.cells #[.int .u8 0,.int .u8 0,.int .u8 0,.int .u8 0,.int .u8 0,.int .u8 0,.int .u8 0,.int .u8 0,.int .u8 0,.int .u8 0,.int .u8 0,.int .u8 0,.int .u8 0,.int .u8 0,.int .u8 0,.int .u8 0,.int .u8 0,.int .u8 0,.int .u8 0,.int .u8 0,.int .u8 0,.int .u8 0,.int .u8 0,.int .u8 0,.int .u8 0,.int .u8 0,.int .u8 0,.int .u8 0,.int .u8 0,.int .u8 0,.int .u8 0,.int .u8 0] 35)) (.cells #[.int .u8 0,.int .u8 0,.int .u8 0,.int .u8 0,.int .u8 0,.int .u8 0,.int .u8 0,.int .u8 0,.int .u8 0,.int .u8 0,.int .u8 0,.int .u8 0,.int .u8 0,.int .u8 0,.int .u8 0,.int .u8 0,.int .u8 0,.int .u8 0,.int .u8 0,.int .u8 0,.int .u8 0,.int .u8 0,.int .u8 0,.int .u8 0,.int .u8 0,.int .u8 0,.int .u8 0,.int .u8 0,.int .u8 0,.int .u8 0,.int .u8 0,.int .u8 0] 35);rw[World.size_alloc,World.size_alloc] at this;exact⟨_,this⟩
 have vR:qbg .u8 z (w.heap.size+1) (List.replicate 32 0):=by
  rw[m];have:=qj (w.alloc (.cells #[.int .u32 C,.int .u32 E,.int .u32 F,.int .u32 H,.int .u32 I,.int .u32 J,.int .u32 K,.int .u32 L] 295)) (.cells #[.int .u8 0,.int .u8 0,.int .u8 0,.int .u8 0,.int .u8 0,.int .u8 0,.int .u8 0,.int .u8 0,.int .u8 0,.int .u8 0,.int .u8 0,.int .u8 0,.int .u8 0,.int .u8 0,.int .u8 0,.int .u8 0,.int .u8 0,.int .u8 0,.int .u8 0,.int .u8 0,.int .u8 0,.int .u8 0,.int .u8 0,.int .u8 0,.int .u8 0,.int .u8 0,.int .u8 0,.int .u8 0,.int .u8 0,.int .u8 0,.int .u8 0,.int .u8 0] 35);rw[World.size_alloc] at this;exact⟨_,qs this _⟩
 rw[←m]
 clear m
 generalize P:w.heap.size=A at *
 have O:=qb P
 clear P
 obtain⟨wo,rfl⟩:∃wo:World,wo=z:=⟨_,rfl⟩
 have T:qep [C,E,F,H,I,J,K,L]:=hu
 generalize S:[C,E,F,H,I,J,K,L]=N at vA T
 have b7:N.length=8:=by rw[←S];rfl
 go_wp2_with fail
 go_loopw [4,5] (fun _ iv wr=>∃i:Nat,iv = .int .i64 (i:Int)∧i≤32∧qbg .u8 wr (A+1+1) (qf2 N i)∧Upd (fun k=>k=A+1+1) wo wr) (fun _ iv _=>32-(intOf iv).toNat)
 case atStart=>exact⟨0,rfl,by omega,by rw[qhy];exact vB,Upd.refl _ _⟩
 case round =>
  obtain⟨i,rfl,hi,r,U⟩:=hrel;by_cases b8:i<32
  ·have c0:wr.cell? ⟨A,i / 4,none⟩=some (.int .u32 (wd N (i / 4))):=(vA.upd U (by omega)).cell (by omega);obtain⟨a0,a7⟩:=T.at (i / 4);obtain⟨v1,c1⟩:∃v,wr.cell? ⟨A+1+1,i,none⟩=some v:=⟨_,r.cell (by rw[qgy];omega)⟩;have z1:=r.free i;have a8:(i:Int)<32:=by omega
   have b3:IntKind.i64.wrap ((i:Int) / 4)=(i:Int) / 4:=IntWalk.i64_in _ (by omega);have b4:((i:Int) / 4).toNat=i / 4:=by omega
   have b5:(0:Int)≤(i:Int) / 4:=by omega
   have b6:(i:Int) / 4<8:=by omega
   have M:=r.set i (byI N i);rw[←qhx] at M;have W:=qb M;clear M;go_wp2;have us:=U.set1 i (.int .u8 (byI N i));go_roundw
   case rel=>exact⟨i+1,by go_num,by omega,qa W,us⟩
   case measure=>simp[intOf];omega
  ·obtain rfl:i=32:=by omega
   rw[show ((32:Nat):Int)=32 from rfl];have a6:=vR.upd U (by omega);have nn:=nA.then U (by intro q Z h;rw[qa O] at Z;omega);have f:=qgy N 32;subst S;generalize R:qf2 [C,E,F,H,I,J,K,L] 32=bs at r f;have V:=qb R;clear R vA vB vR U;obtain⟨TB,r⟩:=r;obtain⟨X,Y⟩:=a6;go_upto_region 7 with fail;refine wp_region_lit ?_;refine wpList_load_row rfl _ _ rfl (A+1+1) rfl TB _ _ _ r Tryz.underlying35 rfl (by rw[List.size_toArray,List.length_map,f];exact Tryz.infoHash) ?_;refine wpList_store_row rfl _ _ _ rfl (A+1) (bs.map (Value.int .u8)).toArray rfl rfl X _ Y (by rw[List.size_toArray,List.length_map,f];exact Tryz.infoHash) (by simp[f]) (by simp[Value.oneCell']) ?_;have hF:=setRow_heap wr (A+1) _ (bs.map (Value.int .u8)).toArray X (0,0) Y;have uF:Upd (fun k=>k=A+1) wr (wr.setRow (A+1) (bs.map (Value.int .u8)).toArray):=⟨rfl,rfl,rfl,by simp,fun i _ hn=>setRow_other _ _ _ _ hn⟩;have nE:=nn.then uF (by intro q Z h;rw[qa O] at Z;omega);generalize wr.setRow (A+1) (bs.map (Value.int .u8)).toArray=wF at hF nE ⊢;clear uF nn r Y;go_wp2_with fail;refine bodyPost_ret (results_cell_row rfl _ _ (A+1) X _ _ _ rfl hF Tryz.underlying35 rfl (by rw[List.size_toArray,List.length_map,f];exact Tryz.infoHash)) rfl ?_;exact⟨by rw[qa V],nE⟩
def qbt(_ _:World):Prop:=True
theorem qbt.all(w w':World):qbt w w':=trivial
def isV(xs:List Value)(i:Nat)(v:Value)(_:World):Prop:=v=xs.getD i undef
def QS(f:World)(_:Nat)(w:World):Prop:=Q f w
section
variable {P:Program}{l:List Oper}{A:List (List Nat)}{L:List (List (Nat × Nat))}{n:Nat}
def qe5(st:List Nat)(f:Array Bool):Nat:=st.countP fun s=>f.getD s false
def stB(l:List Oper)(st:List Nat):Bool:=decide st.Nodup&&st.all fun s=>decide (s<l.length)
def qlo(A:List (List Nat))(st:List Nat)(i:Nat):List (Nat × Nat) :=
 (List.range (st.countP (fun s=>s != i && !(A.getD s []).contains i)+1)).filterMap fun k =>
  if st.countP (fun s=>(A.getD i []).contains s)≤k then some (k,k+if st.contains i then 1 else 0) else none
theorem q3g{st:List Nat}{i:Nat}{f:Array Bool}(E:stB l st=true)(r:f.getD i false=false)(v:∀k∈A.getD i [],f.getD k false=true)(z:∀s,s∈st→i∈A.getD s []→f.getD s false=false) :
  (qe5 st f,qe5 st f+if st.contains i then 1 else 0)∈qlo A st i:=by
 unfold qlo
 rw[List.mem_filterMap]
 refine⟨qe5 st f,List.mem_range.2 ?_,?_⟩
 ·refine Nat.lt_succ_of_le (List.countP_mono_left fun s q m=> ?_);simp only[Bool.and_eq_true,bne_iff_ne,ne_eq,Bool.not_eq_true'];refine⟨?_,?_⟩
  ·rintro rfl;rw[r] at m;cases m
  ·cases C:(A.getD s []).contains i with
   | false=>rfl
   | true =>
    have:=z s q (List.contains_iff_mem.1 C);rw[this] at m;cases m
 ·rw[if_pos];exact List.countP_mono_left fun s _ q=>v s (List.contains_iff_mem.1 q)
theorem q2g{st:List Nat}{f:Array Bool}(m:stB l st=true)(q:∀i,i<l.length→f.getD i false=true):qe5 st f=st.length:=by
 unfold stB at m;simp only[Bool.and_eq_true,List.all_eq_true,decide_eq_true_eq] at m;exact List.countP_eq_length.2 fun s r=>q s (m.2 s r)
theorem q2h{st:List Nat}{f:Array Bool}{i:Nat}(m:stB l st=true)(H:i<f.size)(v:f.getD i false=false):qe5 st (f.setIfInBounds i true)=qe5 st f+if st.contains i then 1 else 0:=by
 unfold stB at m;simp only[Bool.and_eq_true,decide_eq_true_eq] at m;have C:=m.1;clear m;unfold qe5
 induction st with
 | nil=>rfl
 | cons s st z =>
  have z:=z C.tail;rw[List.countP_cons,List.countP_cons,z];by_cases h:s=i
  ·subst h;have r:st.contains s=false:=by
    cases F:st.contains s with
    | false=>rfl
    | true=>exact absurd (List.contains_iff_mem.1 F) (List.nodup_cons.1 C).1
   have q:(f.setIfInBounds s true).getD s false=true:=qe2 H;rw[q,v,r];simp
  ·have q:(f.setIfInBounds i true).getD s false=f.getD s false:=getD_set_ne false (fun e=>h e.symm);rw[q];have E:(s::st).contains i=st.contains i:=by
    rw[List.contains_cons];have:(i==s)=false:=by simpa using fun e=>h e.symm
    rw[this,Bool.false_or]
   rw[E];omega
def qtc(P:Program)(a0:Act)(S:Nat→World→Prop)(R:World→World→Prop)(Φ:Nat→Value→World→Prop)(i:Nat)(o:Oper)(Li:List (Nat × Nat))(Ti:List (Nat × Nat)):Prop :=
 ∀t∈Ti,∀(ql:Nat→Value) (w:World),S t.1 w→(∀p∈Li,Φ p.1 (ql p.1) w) →
  match o.guard with
  | none=>zm P o (qaa a0 ql Li).eval w fun v w'=>R w w'∧S t.2 w'∧Φ i v w'
  | some (g,b)=>Φ g (ql g) w→(ql g = .bool b→zm P o (qaa a0 ql Li).eval w fun v w'=>R w w'∧S t.2 w'∧Φ i v w')∧(ql g ≠ .bool b→S t.2 w∧Φ i undef w)
def qcb(P:Program)(a0:Act)(S:Nat→World→Prop)(R:World→World→Prop)(Φ:Nat→Value→World→Prop):Nat→List Oper→List (List (Nat × Nat))→List (List (Nat × Nat))→Prop
 | _,[],_,_=>True
 | i,o::os,L,T=>qtc P a0 S R Φ i o (L.headD []) (T.headD [])∧qcb P a0 S R Φ (i+1) os L.tail T.tail
theorem qcb.nil{a0:Act}{S:Nat→World→Prop}{R:World→World→Prop}{Φ:Nat→Value→World→Prop}{i:Nat}{L T:List (List (Nat × Nat))} : qcb P a0 S R Φ i [] L T:=trivial
theorem qcb.at{a0:Act}{S:Nat→World→Prop}{R:World→World→Prop}{Φ:Nat→Value→World→Prop} : ∀ {os:List Oper} {L T:List (List (Nat × Nat))} {k:Nat},qcb P a0 S R Φ k os L T→∀(i:Nat) o,os[i]? = some o→qtc P a0 S R Φ (k+i) o (L.getD i []) (T.getD i [])
 | [],_,_,_,_,_,_,h=>by simp at h
 | o::os,L,T,k,h,0,m,f=>by
  simp only[List.getElem?_cons_zero,Option.some.injEq] at f;subst f;have:=h.1;cases L<;>cases T<;>exact this
 | o::os,L,T,k,h,i+1,m,f=>by
  have:=qcb.at h.2 i m (by simpa using f);rw[show k+(i+1)=k+1+i by omega];cases L<;>cases T<;>exact this
theorem qke{o:Oper}{ρ:Operand→Value}{w:World}{K f:Value→World→Prop}(h:zm P o ρ w K)(k:∀v w',K v w'→f v w'):zm P o ρ w f:=by
 unfold zm at h ⊢;generalize (execOp ρ o).run P w=r at h ⊢;cases r with
 | ok n w' =>
  cases n<;>simp only at h ⊢
  ·exact k _ _ h
  ·exact k _ _ h
  ·refine h.mono fun e z i=> ?_
   obtain⟨v,q,m⟩:=i;exact⟨v,q,k _ _ m⟩
 | halt x w'=>simp only at h
theorem qcb.one{a0:Act}{S:Nat→World→Prop}{R:World→World→Prop}{Φ:Nat→Value→World→Prop}{i:Nat}{o:Oper}{os:List Oper}{Li:List (Nat × Nat)}{L T:List (List (Nat × Nat))}{k f:Nat}(q:o.guard=none)
  (h:∀(ql:Nat→Value) (w:World),S k w→q3m Φ ql w Li→zm P o (qaa a0 ql Li).eval w fun v w'=>R w w'∧S f w'∧Φ i v w')
  (r:qcb P a0 S R Φ (i+1) os L T):qcb P a0 S R Φ i (o::os) (Li::L) ([(k,f)]::T) :=
 ⟨fun t C ql w m z=>by
  obtain rfl:=List.mem_singleton.1 C;rw[q];exact h ql w m (qnu z),r⟩
theorem qcb.pure{a0:Act}{S:Nat→World→Prop}{R:World→World→Prop}{Φ:Nat→Value→World→Prop}{i:Nat}{o:Oper}{os:List Oper}{Li Ti:List (Nat × Nat)}{L T:List (List (Nat × Nat))}(C:o.guard=none)(f:∀w,R w w)(q:(Ti.all fun t=>t.1==t.2)=true)
  (h:∀(ql:Nat→Value) (w:World),q3m Φ ql w Li→zm P o (qaa a0 ql Li).eval w fun v w'=>w'=w∧Φ i v w)
  (r:qcb P a0 S R Φ (i+1) os L T):qcb P a0 S R Φ i (o::os) (Li::L) (Ti::T) :=
 ⟨fun t F ql w m E=>by
  rw[C];have e:t.1=t.2:=by simpa using List.all_eq_true.1 q t F
  rw[e] at m;exact qke (h ql w (qnu E)) fun v w' z=>by
   obtain⟨rfl,H⟩:=z;exact⟨f _,m,H⟩,r⟩
structure DagInvP(l:List Oper)(A:List (List Nat))(st:List Nat)(a0:Act)(S:Nat→World→Prop)(Φ:Nat→Value→World→Prop)(listed:Array Bool)(a:Act)(w:World)(ql:Nat→Value):Prop where
 size:listed.size=l.length
 s:S (qe5 st listed) w
 phi:∀i,listed.getD i false=true→Φ i (ql i) w
 shut:∀i,listed.getD i false=true→∀k∈A.getD i [],listed.getD k false=true
 defers:a.defers=a0.defers
 tmps:a.tmps.size=a0.tmps.size
 other:∀t,(∀i,listed.getD i false=true→qbp l i≠some t)→a.tmps[t]? = a0.tmps[t]?
 at_:∀i t,listed.getD i false=true→qbp l i=some t→a.tmps[t]? = some (ql i)
theorem q4o(D:Dag l A L n){st:List Nat}(b3:stB l st=true){TS:List (List (Nat × Nat))}(c5:(List.range l.length).map (qlo A st)=TS){a0:Act}(hn:a0.tmps.size=n){S:Nat→World→Prop}{R:World→World→Prop}{Φ:Nat→Value→World→Prop}{Q:Exit→Act→World→Prop}
  (c3:∀w,R w w) (a6:∀i v w w' k k',S k w→S k' w'→R w w'→Φ i v w→Φ i v w') (b5:qcb P a0 S R Φ 0 l L TS)
  (c4:∀ql w,S st.length w→(∀i,i<l.length→Φ i (ql i) w)→Q .normal (qaa a0 ql (qbc l)) w) :
  ∀(E:Nat) (f:Array Bool) (a:Act) (w:World) (ql:Nat→Value),DagInvP l A st a0 S Φ f a w ql→(List.range l.length).countP (fun i=> !f.getD i false)≤E→wpAny P .any l.toArray Q E f a w:=by
 have Y:∀(f:Array Bool) (a:Act) (w:World) (ql:Nat→Value),DagInvP l A st a0 S Φ f a w ql→Region.ready .any l.toArray f=[]→Q .normal a w:=by
  intro f a w ql I hr;have a7:∀(i:Nat),i<l.length→f.getD i false=true:=by
   intro i
   induction i using Nat.strongRecOn with
   | _ i ih =>
    intro N;cases hl:f.getD i false with
    | true=>rfl
    | false =>
     exfalso;have:i∈Region.ready .any l.toArray f:=by
      rw[mem_ready];have ho:l[i]? = some l[i]:=List.getElem?_eq_getElem N;refine⟨?_,l[i],by simp[N],fun e he hb=> ?_⟩
      ·rw[Array.getD_eq_getD_getElem?] at hl ⊢;have:i<f.size:=by rw[I.size];exact N
       rw[Array.getElem?_eq_getElem this] at hl ⊢;simpa using hl
      ·have T:=(D.edge i _ ho e he hb).1;have h2:=(D.anc i _ ho _ T).1;exact ih _ h2 (by omega)
     rw[hr] at this;cases this
  have ha:a=qaa a0 ql (qbc l):=by
   refine qv3 (by rw[qgn];exact I.defers) fun t=> ?_
   by_cases h:∃i,qbp l i=some t
   ·obtain⟨i,N⟩:=h;have F:=(qjv N).1;rw[I.at_ i t (a7 i F) N];have hm:(i,t)∈qbc l:=by
     unfold qbc;rw[List.mem_filterMap];exact⟨i,List.mem_range.2 F,by rw[N];rfl⟩
    refine(qh8 ql (qbc l) a0 (i,t) hm (fun q hq e=> ?_) (by rw[hn];exact(D.slot i t N).1)).symm;unfold qbc at hq;rw[List.mem_filterMap] at hq;obtain⟨j,_,z⟩:=hq;rw[Option.map_eq_some_iff] at z;obtain⟨t',b4,rfl⟩:=z;simp only at e;subst e;exact(D.slot i _ N).2 j b4
   ·rw[I.other t fun i _ O=>h ⟨i,O⟩,qdt];intro p hp e;unfold qbc at hp;rw[List.mem_filterMap] at hp;obtain⟨j,_,z⟩:=hp;rw[Option.map_eq_some_iff] at z;obtain⟨t',b4,rfl⟩:=z;exact h ⟨j,by rw[b4,←e]⟩
  rw[ha];exact c4 ql w (by have:=I.s;rwa [q2g b3 a7] at this) fun i N=>I.phi i (a7 i N)
 intro E
 induction E with
 | zero =>
  intro f a w ql I hc;have hr:Region.ready .any l.toArray f=[]:=by
   rw[List.eq_nil_iff_forall_not_mem];intro i N;obtain⟨h0,o,ho,_⟩:=mem_ready.1 N;have F:i<l.length:=by simpa using (Array.getElem?_eq_some_iff.1 ho).1
   have:(List.range l.length).countP (fun i=> !f.getD i false)=0:=by omega
   rw[List.countP_eq_zero] at this;have:=this i (List.mem_range.2 F);rw[Array.getD_eq_getD_getElem?] at h0 this;have O:i<f.size:=by rw[I.size];exact F
   rw[Array.getElem?_eq_getElem O] at h0 this;simp at h0 this;rw[h0] at this;cases this
  exact⟨hr,Y f a w ql I hr⟩
 | succ E ih =>
  intro f a w ql I hc;refine⟨fun hr=>Y f a w ql I hr,fun i N=> ?_⟩;obtain⟨h0,o,ho,b7⟩:=mem_ready.1 N;have F:i<l.length:=by simpa using (Array.getElem?_eq_some_iff.1 ho).1
  have O:i<f.size:=by rw[I.size];exact F
  have J:l[i]? = some o:=by simpa using ho
  have U:f.getD i false=false:=by
   rw[Array.getD_eq_getD_getElem?] at h0 ⊢;rw[Array.getElem?_eq_getElem O] at h0 ⊢;simpa using h0
  have M:∀k∈A.getD i [],f.getD k false=true:=by
   intro k hk;obtain⟨_,e,he,hb,h⟩:=D.anc i o J k hk;have T:=b7 e he hb;rcases h with rfl | h
   ·exact T
   ·exact I.shut _ T k h
  have a8:∀t∈o.looksAt l.toArray,a.tmps[t]? = (qaa a0 ql (L.getD i [])).tmps[t]? := by
   intro t ht;by_cases h:∃j,f.getD j false=true∧qbp l j=some t
   ·obtain⟨j,z,C⟩:=h;rcases D.look i o J t ht j C with T | ⟨T,h2⟩
    ·have:=I.shut j z i T;rw[U] at this;cases this
    ·rw[I.at_ j t z C];refine(qh8 ql _ a0 (j,t) h2 (fun q hq e=> ?_) (by rw[hn];exact(D.slot j t C).1)).symm;have:=(D.lis i o J q hq).2;rw[e] at this;exact(D.slot j t C).2 _ this
   ·rw[I.other t fun j z O=>h ⟨j,z,O⟩,qdt];intro p hp e;obtain⟨T,h2⟩:=D.lis i o J p hp;exact h ⟨p.1,M _ T,by rw[h2,e]⟩
  have V:execOp a.eval o=execOp (qaa a0 ql (L.getD i [])).eval o:=by
   refine execOp_congr o (D.sel i o J) fun x hx=> ?_
   cases x with
   | tmp t =>
    have:=a8 t (List.mem_append_left _ (List.mem_filterMap.2 ⟨.tmp t,by simpa using hx,rfl⟩));simp only[Act.eval,Array.getD_eq_getD_getElem?,this]
   | _=>rfl
  have X:=b5.at i o J;rw[Nat.zero_add] at X;have c6:=q3g (A:=A) (st:=st) b3 U (fun k hk=>M k hk) (fun s O N=>by
   cases hl:f.getD s false with
   | false=>rfl
   | true=>have:=I.shut s hl i N;rw[U] at this;cases this)
  have b6:TS.getD i []=qlo A st i:=by
   rw[←c5,List.getD_eq_getElem?_getD,List.getElem?_map,List.getElem?_range F];rfl
  have K:=X _ (by rw[b6];exact c6) ql w I.s fun p hp=>I.phi _ (M _ (D.lis i o J p hp).1)
  have next:∀v w',R w w'→S (qe5 st f+if st.contains i then 1 else 0) w'→Φ i v w'→wpAny P .any l.toArray Q E (f.setIfInBounds i true) (a.put o.dst v) w':=by
   intro v w' hR hS hΦ;have Z:qbp l i=o.dst:=by unfold qbp;rw[J];rfl
   refine ih (f.setIfInBounds i true) (a.put o.dst v) w' (fun j=>if j=i then v else ql j) ⟨?_,by rw[q2h b3 O U];exact hS,?_,?_,?_,?_,?_,?_⟩ ?_
   ·rw[Array.size_setIfInBounds];exact I.size
   ·intro j z;rcases (qai O).1 z with rfl | H
    ·simpa using hΦ
    ·have W:j≠i:=by rintro rfl;rw[U] at H;cases H
     simp only[if_neg W];exact a6 j _ w w' _ _ I.s hS hR (I.phi j H)
   ·intro j z k hk;refine(qai O).2 ?_;rcases (qai O).1 z with rfl | H
    ·exact .inr (M k hk)
    ·exact .inr (I.shut j H k hk)
   ·cases o.dst<;>exact I.defers
   ·cases hd:o.dst with
    | none=>exact I.tmps
    | some d=>simpa [Act.put] using I.tmps
   ·intro t ht;have T:=I.other t fun j z=>ht j ((qai O).2 (.inr z))
    have h2:=ht i ((qai O).2 (.inl rfl));rw[Z] at h2;cases hd:o.dst with
    | none=>exact T
    | some d =>
     have W:d≠t:=by rintro rfl;exact h2 hd
     simpa [Act.put,Array.getElem?_setIfInBounds_ne W] using T
   ·intro j t z C;rcases (qai O).1 z with rfl | H
    ·rw[Z] at C;rw[C,if_pos rfl];have:t<a.tmps.size:=by rw[I.tmps,hn];exact(D.slot j t (by rw[Z,C])).1
     simp[Act.put,this]
    ·have W:j≠i:=by rintro rfl;rw[U] at H;cases H
     rw[if_neg W];have T:=I.at_ j t H C;cases hd:o.dst with
     | none=>exact T
     | some d =>
      have c2:d≠t:=by
       rintro rfl;exact W ((D.slot i d (by rw[Z,hd])).2 j C)
      simpa [Act.put,Array.getElem?_setIfInBounds_ne c2] using T
   ·have T:(List.range l.length).countP (fun j=> !(f.setIfInBounds i true).getD j false)<(List.range l.length).countP (fun j=> !f.getD j false):=by
     have c1:i∈List.range l.length:=List.mem_range.2 F;obtain⟨s,r,c9⟩:=List.append_of_mem c1;rw[c9,List.countP_append,List.countP_append,List.countP_cons,List.countP_cons];have m:∀xs:List Nat,xs.countP (fun j=> !(f.setIfInBounds i true).getD j false)≤xs.countP (fun j=> !f.getD j false):=by
      intro xs;refine List.countP_mono_left fun j _ z=> ?_
      cases h:f.getD j false with
      | false=>rfl
      | true=>rw[(qai O).2 (.inr h)] at z;cases z
     have m1:=m s;have m2:=m r;rw[qe2 O,U];simp only[Bool.not_true,Bool.not_false,Bool.false_eq_true,if_false,if_true];omega
    omega
  unfold wpOp;rw[ho];simp only;cases hg:o.guard with
  | none =>
   rw[hg] at K;rw[if_pos (by unfold Region.wanted;rw[hg])];exact .inl (qhf V K fun v w' h=>next v w' h.1 h.2.1 h.2.2)
  | some gb =>
   obtain⟨g,b⟩:=gb;rw[hg] at K;obtain⟨c8,t,c0⟩:=D.guard i o J g b hg;have b9:=M g c8;have c7:=I.at_ g t b9 c0;obtain⟨p1,p2⟩:=K (I.phi g b9);have hy:Region.wanted o (yielded l.toArray a.tmps)=true↔ql g = .bool b:=by
    unfold Region.wanted yielded;rw[hg];have e1:(l.toArray[g]?).bind (·.dst)=some t:=by simpa [qbp] using c0
    simp only[e1,Option.bind_some,c7];constructor
    ·intro h;split at h
     ·rename_i b' b8;simp only[Option.some.injEq] at b8;simp at h;rw[b8,h]
     ·simp at h
    ·intro h;rw[h];simp
   by_cases hw:Region.wanted o (yielded l.toArray a.tmps)=true
   ·rw[if_pos hw];exact .inl (qhf V (p1 (hy.1 hw)) fun v w' h=>next v w' h.1 h.2.1 h.2.2)
   ·rw[if_neg hw];obtain⟨q1,q2⟩:=p2 fun h=>hw (hy.2 h)
    exact next undef w (c3 w) q1 q2
theorem qlq{id:Nat}{a:Act}{w:World}{Q:Exit→Act→World→Prop}(M:P.follows .mixedOrders=true)(L:List (List (Nat × Nat)))(n:Nat)(N:a.tmps.size=n)(J:q4m l (qrr l []) L n=true)(A:List (Nat × Nat))(I:qbc l=A)
  (st:List Nat) (E:stB l st=true) (F:List (List (Nat × Nat))) (C:(List.range l.length).map (qlo (qrr l []) st)=F)
  (S:Nat→World→Prop) (R:World→World→Prop) (Φ:Nat→Value→World→Prop) (K:S 0 w.drew) (r:∀w,R w w) (f:∀i v w w' k O,S k w→S O w'→R w w'→Φ i v w→Φ i v w')
  (q:qcb P a S R Φ 0 l L F) (z:∀ql w,S st.length w→(∀i,i<l.length→Φ i (ql i) w)→Q .normal (qaa a ql A) w) :
  (Code.region id l.toArray true).wp P Q a w:=by
 subst I
 refine wp_region_any M ?_
 have H:qe5 st (Array.replicate l.length false)=0:=List.countP_eq_zero.2 fun s _ h=>by rw[qby] at h;cases h
 refine q4o (qwj J) E C N r f q z _ _ a _ (fun _=>undef) ⟨by simp,by rw[List.size_toArray,H];exact K,?_,?_,rfl,rfl,fun _ _=>rfl,?_⟩ ?_
 ·intro i m;rw[qby] at m;cases m
 ·intro i m;rw[qby] at m;cases m
 ·intro i t m;rw[qby] at m;cases m
 ·refine Nat.le_trans List.countP_le_length ?_;simp
end
def qin:Nat→List Int→ByteArray→List Int
 | 0,h,_=>h
 | n+1,h,s=>qin n (qks h (s.extract 0 64)) (s.extract 64 s.size)
def za6:Value→Nat
 | .string b=>b.size
 | _=>0
theorem qy2(n:Nat):∀(h:List Int) (s:ByteArray),h.length=8∧qep h→(qin n h s).length=8∧qep (qin n h s):=by
 induction n with
 | zero=>intro h s f;exact f
 | succ n i=>intro h s f;exact i _ _ (qsb _ _ f)
def zdn(f:World)(A:Nat)(r:List Int):Nat→World→Prop
 | 0,w=>qq f w
 | _,w=>Upd (fun k=>k=A) f w∧qbg .u32 w A r
theorem q1l{C:Array Value}{f:List Value}(h:C.size=f.length):qi4 C 0 f=f.toArray:=by
 refine Array.ext_getElem? fun i=> ?_
 rw[qg9 C 0 f i (by omega)];by_cases r:i<f.length
 ·rw[if_pos (by omega)];simp
 ·have m:C[i]? = none:=Array.getElem?_eq_none (by omega);have q:f.toArray[i]? = none:=Array.getElem?_eq_none (by simp;omega);rw[if_neg (by omega),m,q]
theorem qbg.setAll{k:IntKind}{w:World}{b:Nat}{ws:List Int}(h:qbg k w b ws){r:List Int}(f:r.length=ws.length):qbg k (w.setCells b 0 (r.map (Value.int k))) b r:=by
 obtain⟨T,h⟩:=h;refine⟨T,(qba h 0 _).trans ?_⟩;rw[q1l (by simp[f])]
theorem qbg.stOk{k:IntKind}{w:World}{b:Nat}{ws:List Int}(h:qbg k w b ws){r:List Int}{n:Nat}(i:r.length=ws.length)(f:r.length=n):stOk w b 0 n (r.map (Value.int k)).toArray=true:=by
 obtain⟨T,h⟩:=h;refine qd0 h (by simp;omega) (by simp;omega) ?_;rw[List.all_toArray,List.all_map,List.all_eq_true];intro x _;rfl
def zc7(x:Value):Sem Value:=Instr.loadAt 295 x
theorem qoy(x:Value):Instr.loadAt 295 x=zc7 x:=rfl
theorem zau(b o:Nat)(w:World):(zc7 (.pointer (some ⟨b,o,none⟩))).run Tryz.prog w=match zf w b o 8 with | some A=> .ok (.agg A) w | none=>qdn Tryz.prog 295 w b o :=
 qah 295 8 _ Tryz.underlying295 rfl Tryz.infoW8 b o w
def zdf(x v:Value):Sem Unit:=Instr.storeAt 295 x v
theorem qpi(x v:Value):Instr.storeAt 295 x v=zdf x v:=rfl
theorem za5(b o:Nat)(A:Array Value)(w:World):(zdf (.pointer (some ⟨b,o,none⟩)) (.agg A)).run Tryz.prog w=if stOk w b o 8 A=true then .ok () (w.setCells b o A.toList) else qel Tryz.prog 295 w b o A :=
 qaw 295 8 Tryz.infoW8 b o A w
attribute [local go_sem ↓ high] qoy qpi
attribute [local go_sem] zau za5
theorem qwd(h:List Int)(s:ByteArray)(w:World)(hh:h.length=8)(hu:qep h)(hs:s.size≤1073741824)(b6:Tabs w) :
  Calls Tryz.prog 197 #[.agg (h.map (Value.int .u32)).toArray,.string s] w fun e w'=>e = .returned (.agg ((qin (s.size / 64) h s).map (Value.int .u32)).toArray)∧qq w w':=by
 have hw:=b6.lt
 obtain⟨h0,h1,h2,h3,h4,h5,h6,h7,rfl⟩:=qb3 hh
 simp only[List.map_cons,List.map_nil]
 go_enter Tryz.func197,Tryz.ntmps197
 go_upto_region 1 with fail
 obtain⟨wA,K⟩:∃wA:World,wA=(w.alloc (.cells #[.int .u32 h0,.int .u32 h1,.int .u32 h2,.int .u32 h3,.int .u32 h4,.int .u32 h5,.int .u32 h6,.int .u32 h7] 295)).alloc (.cells #[.int .u32 0,.int .u32 0,.int .u32 0,.int .u32 0,.int .u32 0,.int .u32 0,.int .u32 0,.int .u32 0] 295):=⟨_,rfl⟩
 have sA:wA.heap.size=w.heap.size+2:=by rw[K];simp
 have nA:qq w wA:=by rw[K];exact((Upd.refl _ _).alloc _).alloc _
 have vA:qbg .u32 wA w.heap.size [h0,h1,h2,h3,h4,h5,h6,h7]:=by rw[K];exact⟨_,qs (qj _ _) _⟩
 have vR:qbg .u32 wA (w.heap.size+1) [0,0,0,0,0,0,0,0]:=by
  rw[K];have:=qj (w.alloc (.cells #[.int .u32 h0,.int .u32 h1,.int .u32 h2,.int .u32 h3,.int .u32 h4,.int .u32 h5,.int .u32 h6,.int .u32 h7] 295)) (.cells #[.int .u32 0,.int .u32 0,.int .u32 0,.int .u32 0,.int .u32 0,.int .u32 0,.int .u32 0,.int .u32 0] 295);rw[World.size_alloc] at this;exact⟨_,this⟩
 rw[←K]
 clear K
 have TA:=b6.new nA
 generalize b5:w.heap.size=A at *
 have b4:=qb b5
 clear b5
 obtain⟨wo,rfl⟩:∃wo:World,wo=wA:=⟨_,rfl⟩
 generalize b7:[h0,h1,h2,h3,h4,h5,h6,h7]=Y at vA hu
 have b8:Y.length=8:=by rw[←b7];rfl
 go_wp2_with fail
 go_loopw [1,10] (fun sv _ wr=>∃(t:ByteArray) (hc:List Int),sv = .string t∧t.size≤s.size∧hc.length=8∧qep hc∧Hid (qin (t.size / 64) hc t=qin (s.size / 64) Y s)∧qbg .u32 wr A hc∧Upd (fun k=>k=A) wo wr) (fun sv _ _=>za6 sv)
 case atStart=>exact⟨s,Y,rfl,Nat.le_refl _,b8,hu,qb rfl,vA,Upd.refl _ _⟩
 case round =>
  obtain⟨t,hc,rfl,c8,a7,X,HE,hA,ur⟩:=hrel;obtain⟨L,M,N,O,P,R,S,U,rfl⟩:=qb3 a7;obtain⟨wq,rfl⟩:∃wq:World,wq=wr:=⟨_,rfl⟩;by_cases c6:64≤t.size
  ·have c7:=ur.size;have c0:(t.extract 0 64).size=64:=by rw[ByteArray.size_extract];omega
   have c3:=TA.upd ur (by omega) (by omega);have hC:∀W,qq wq W→_:=fun W n=>qr9 [L,M,N,O,P,R,S,U] (t.extract 0 64) W rfl X c0 (c3.new n)
   have b9:=qsb [L,M,N,O,P,R,S,U] (t.extract 0 64) ⟨rfl,X⟩;have m:qin (t.size / 64) [L,M,N,O,P,R,S,U] t=qin ((t.extract 64 t.size).size / 64) (qks [L,M,N,O,P,R,S,U] (t.extract 0 64)) (t.extract 64 t.size):=by
    obtain⟨n,hn⟩:∃n,t.size / 64=n+1:=⟨t.size / 64-1,by omega⟩;have:(t.extract 64 t.size).size / 64=n:=by rw[ByteArray.size_extract];omega
    rw[hn,this];rfl
   simp only[List.map_cons,List.map_nil] at hC;generalize qks [L,M,N,O,P,R,S,U] (t.extract 0 64)=r at hC b9 m;obtain⟨r8,c4⟩:=b9;obtain⟨v,z,C,E,F,H,I,J,rfl⟩:=qb3 r8;simp only[List.map_cons,List.map_nil] at hC;have HC:=qb hC;have HN:=qb (m.symm.trans (qa HE));clear hC m HE r8;have HA:=qb hA;clear hA X a7;have t1:(64:Int)≤(t.size:Int):=by omega
   have t2:¬(t.size:Int)<64:=by omega
   go_wp2_with fail;refine qlq (by kernel_rfl) [[],[],[(1,12)],[(0,11),(2,13)],[(3,14)],[(4,10)],[(4,10)],[(5,15)]] 18 rfl (by kernel_rfl) [(0,11),(1,12),(2,13),(3,14),(4,10),(5,15),(6,16)] (by kernel_rfl) [7] (by kernel_rfl) [[(0,0)],[(0,0)],[(0,0)],[(0,0)],[(0,0)],[(0,0)],[(0,0),(1,1)],[(0,1)]] (by kernel_rfl)
    (zdn wq A [v,z,C,E,F,H,I,J]) qbt
    (isV [.agg #[.int .u32 L,.int .u32 M,.int .u32 N,.int .u32 O,.int .u32 P,.int .u32 R,.int .u32 S,.int .u32 U],.string t,.string (t.extract 0 64),
     .tuple #[.agg #[.int .u32 v,.int .u32 z,.int .u32 C,.int .u32 E,.int .u32 F,.int .u32 H,.int .u32 I,.int .u32 J],.bool true],.tuple #[.agg #[.int .u32 v,.int .u32 z,.int .u32 C,.int .u32 E,.int .u32 F,.int .u32 H,.int .u32 I,.int .u32 J],.bool true],
     .agg #[.int .u32 v,.int .u32 z,.int .u32 C,.int .u32 E,.int .u32 F,.int .u32 H,.int .u32 I,.int .u32 J],.bool true,undef])
    ((Upd.refl _ _).drew) (fun _=>qbt.all _ _) (fun _ _ _ _ _ _ _ _ _ h=>h) ?_ ?_
   ·refine .one rfl ?_ <| .pure rfl (fun _=>qbt.all _ _) rfl ?_ <| .pure rfl (fun _=>qbt.all _ _) rfl ?_ <| .one rfl ?_ <| .pure rfl (fun _=>qbt.all _ _) rfl ?_ <| .pure rfl (fun _=>qbt.all _ _) rfl ?_ <| .pure rfl (fun _=>qbt.all _ _) rfl ?_ <| .one rfl ?_ <| .nil
    ·intro ql w1 i _;replace i:qq wq w1:=i;have hr:=((qa HA).upd i (fun h=>h)).row (n:=8) rfl;simp only[List.map_cons,List.map_nil] at hr;unfold zm;simp only[qaa];go_simp;exact⟨qbt.all _ _,i,rfl⟩
    ·intro ql w1 _;unfold zm;simp only[qaa];go_simp
     first | exact⟨rfl,rfl⟩ | rfl
    ·rintro ql w1 ⟨f,-⟩;replace f:ql 1 = .string t:=f;unfold zm;simp only[qaa];go_simp
     first | exact⟨rfl,rfl⟩ | rfl
    ·rintro ql w1 i ⟨f,p1,-⟩;replace f:ql 0 = .agg #[.int .u32 L,.int .u32 M,.int .u32 N,.int .u32 O,.int .u32 P,.int .u32 R,.int .u32 S,.int .u32 U]:=f;replace p1:ql 2 = .string (t.extract 0 64):=p1;unfold zm;simp only[qaa];go_simp;refine(qa HC w1 i).mono ?_;rintro e w2 ⟨rfl,n2⟩;exact⟨_,rfl,qbt.all _ _,Upd.trans i n2,rfl⟩
    ·rintro ql w1 ⟨f,-⟩;replace f:ql 3 = .tuple #[.agg #[.int .u32 v,.int .u32 z,.int .u32 C,.int .u32 E,.int .u32 F,.int .u32 H,.int .u32 I,.int .u32 J],.bool true]:=f;unfold zm;simp only[qaa];go_simp
     first | exact⟨rfl,rfl⟩ | rfl
    ·rintro ql w1 ⟨f,-⟩;replace f:ql 4 = .tuple #[.agg #[.int .u32 v,.int .u32 z,.int .u32 C,.int .u32 E,.int .u32 F,.int .u32 H,.int .u32 I,.int .u32 J],.bool true]:=f;unfold zm;simp only[qaa];go_simp
     first | exact⟨rfl,rfl⟩ | rfl
    ·rintro ql w1 ⟨f,-⟩;replace f:ql 4 = .tuple #[.agg #[.int .u32 v,.int .u32 z,.int .u32 C,.int .u32 E,.int .u32 F,.int .u32 H,.int .u32 I,.int .u32 J],.bool true]:=f;unfold zm;simp only[qaa];go_simp
     first | exact⟨rfl,rfl⟩ | rfl
    ·rintro ql w1 i ⟨f,-⟩;replace i:qq wq w1:=i;replace f:ql 5 = .agg #[.int .u32 v,.int .u32 z,.int .u32 C,.int .u32 E,.int .u32 F,.int .u32 H,.int .u32 I,.int .u32 J]:=f;have hI:=(qa HA).upd i (fun h=>h);have a8:=hI.stOk (r:=[v,z,C,E,F,H,I,J]) (n:=8) rfl rfl;have a6:=hI.setAll (r:=[v,z,C,E,F,H,I,J]) rfl;simp only[List.map_cons,List.map_nil] at a8 a6;have c1:=qb a6;have u1:=((i.mono (T:=fun k=>k=A) (fun _ _ h=>h.elim)).then ((Upd.refl (· = A) w1).setCells 0 [.int .u32 v,.int .u32 z,.int .u32 C,.int .u32 E,.int .u32 F,.int .u32 H,.int .u32 I,.int .u32 J]) (fun _ _ h=>h));have c2:=qb u1;clear a6 u1 hI;unfold zm;simp only[qaa];go_simp
     first | exact⟨qbt.all _ _,⟨qa c2,qa c1⟩,rfl⟩ | (trace_state;sorry)
   ·intro ql w1 i Z;have v0:=Z 0 (by decide);have v1:=Z 1 (by decide);have v2:=Z 2 (by decide);have v3:=Z 3 (by decide);have v4:=Z 4 (by decide);have v5:=Z 5 (by decide);have v6:=Z 6 (by decide);clear Z;replace i:Upd (fun k=>k=A) wq w1∧qbg .u32 w1 A [v,z,C,E,F,H,I,J]:=i;obtain⟨u1,hI⟩:=i;have us:=ur.trans u1;simp only[qaa,v0,v1,v2,v3,v4,v5,v6];clear HC HA u1 ur v0 v1 v2 v3 v4 v5 v6;obtain⟨wz,rfl⟩:∃wz:World,wz=w1:=⟨_,rfl⟩;have HI:=qb hI;clear hI;go_simp;go_wp2;go_roundw
    case rel=>exact⟨t.extract 64 t.size,[v,z,C,E,F,H,I,J],rfl,by rw[ByteArray.size_extract];omega,rfl,c4,HN,qa HI,us⟩
    case measure=>simp[za6];omega
  ·have c5:t.size<64:=by omega
   have hz:t.size / 64=0:=by omega
   have V:=qa HE;rw[hz] at V;replace V:=qb (show qin (s.size / 64) Y s=[L,M,N,O,P,R,S,U] from V.symm);clear HE hz;have t1:(t.size:Int)<64:=by omega
   have t2:¬(64:Int)≤(t.size:Int):=by omega
   have b3:=vR.upd ur (by omega);have nn:=nA.then ur (by intro q hq h;rw[qa b4] at hq;omega);subst b7;clear vR ur X a7 TA b8 vA;have hr:=hA.row (n:=8) rfl;have a8:=b3.stOk (r:=[L,M,N,O,P,R,S,U]) (n:=8) rfl rfl;have hR:=b3.setAll (r:=[L,M,N,O,P,R,S,U]) rfl;simp only[List.map_cons,List.map_nil] at hr a8 hR;have HR:=qb hR;have u1:=nn.then ((Upd.refl (· = A+1) wq).setCells 0 [.int .u32 L,.int .u32 M,.int .u32 N,.int .u32 O,.int .u32 P,.int .u32 R,.int .u32 S,.int .u32 U]) (by intro q hq h;rw[qa b4] at hq;omega);have HU:=qb u1;clear hA b3 nn hR u1;go_wp2;obtain⟨TF,hF⟩:=qa HR;refine bodyPost_ret (results_cell_row rfl _ _ (A+1) TF _ _ _ rfl hF Tryz.underlying295 rfl (by exact Tryz.infoW8)) rfl ?_;refine⟨?_,qa HU⟩;rw[qa V]
end
section
open Go.RowKit
theorem Tryz.infoU8:(Tryz.prog.info? 5).map (fun i=>(i.zero,i.size,i.bytes))=some (some (.int .u8 0),1,1):=by kernel_rfl
def qb1(w:World)(base:Nat)(v:Value)(xs:List Int):Prop:=w.ownsRow base 5 1 v xs.length (xs.map (Value.int .u8))
theorem qb1.shape{w:World}{base:Nat}{v:Value}{xs:List Int}(h:qb1 w base v xs):∃a c,v = .slice a xs.length c:=by
 rcases h.2 with ⟨rfl,e⟩ | ⟨g,cap,f,rfl,_⟩
 ·exact⟨none,0,by rw[e]⟩
 ·exact⟨_,_,rfl⟩
theorem qb1.ge{w:World}{base:Nat}{v:Value}{xs:List Int}(h:qb1 w base v xs){k:Nat}(f:v.ownBlock=some k):base≤k∧k<w.heap.size:=by
 rcases h.2 with ⟨rfl,_⟩ | ⟨g,cap,i,rfl,m,q,_⟩
 ·simp[Value.ownBlock] at f
 ·simp[Value.ownBlock] at f;subst f;exact⟨m,zr q⟩
theorem qb1.upd{S:Nat→Prop}{w w':World}{base:Nat}{v:Value}{xs:List Int}(h:qb1 w base v xs)(u:Upd S w w')(q:∀k,v.ownBlock=some k→¬S k):qb1 w' base v xs:=by
 refine⟨h.1,?_⟩;rcases h.2 with h | ⟨g,cap,f,i,m,z,r⟩
 ·exact .inl h
 ·exact .inr ⟨g,cap,f,i,m,u.old z (q g (by rw[i];rfl)),r⟩
theorem qb1.new{w w':World}{base:Nat}{v:Value}{xs:List Int}(h:qb1 w base v xs)(u:qq w w'):qb1 w' base v xs:=h.upd u (fun _ _ h=>h)
theorem qb1.nil(w:World)(base:Nat):qb1 w base (.slice none 0 0) []:=⟨rfl,.inl ⟨rfl,rfl⟩⟩
theorem qb1.made(w:World)(base:Nat)(xs:List Int)(f:base≤w.heap.size)(i:xs.length≤1073741824):qb1 (w.alloc (.cells (xs.map (Value.int .u8)).toArray 5)) base (.slice (some ⟨w.heap.size,0,none⟩) xs.length xs.length) xs:=by
 refine⟨by simp,.inr ⟨w.heap.size,xs.length,_,rfl,f,qj _ _,Nat.le_refl _,by unfold maxLen;omega,by simp,?_⟩⟩;simp;exact List.take_of_length_le (by simp)
theorem qiu{q:Array Oper}{rest:List Oper}{o:Oper}{a:Act}{Q:Exit→Act→World→Prop}(z:o.guard=none)(s x:Operand)
  (M:o.op = .call {callee:= .builtin .append,args:=#[s,x],argTypes:=#[95,95]})
  (base:Nat) (v:Value) (xs:List Int) (N:a.eval s=v) (c:Int) (T:TypeId) (w:World) (P:a.eval x = .slice (some ⟨w.heap.size,0,none⟩) 1 1) (m:qb1 w base v xs) (S:xs.length≤1073741824) (R:base≤w.heap.size)
  (h:∀r w',qb1 w' base r (xs++[c])→Upd (fun k=>v.ownBlock=some k) w w'→wpList Tryz.prog q Q rest (a.put o.dst r) w') :
  wpList Tryz.prog q Q (o::rest) a (w.alloc (.cells #[.int .u8 c] T)):=by
 obtain⟨i,K,E,F,H⟩:=info_parts Tryz.infoU8
 have I:(w.alloc (.cells #[.int .u8 c] T)).ownsRow base 5 1 v xs.length (xs.map (Value.int .u8)):=m.new ((Upd.refl _ _).alloc _)
 refine wpList_append_own _ z s x 95 M base 5 i (.int .u8 0) 1 1 Tryz.underlying95 K E F H rfl (by decide) v xs.length _ N I ⟨w.heap.size,0,none⟩ 1 1 [.int .u8 c] P rfl ?_ ?_ (by unfold maxLen;omega) (by omega) (by simp;omega) ?_
 ·intro j u L;have f:(⟨w.heap.size,0,none⟩:Addr).add j=⟨w.heap.size,j,none⟩:=by unfold Addr.add;split<;>simp_all
  rw[f,qg (qj _ _)];simpa using L
 ·intro u O;obtain rfl:=List.mem_singleton.1 O;rfl
 ·intro r w' C J _;refine h r w' ?_ ((((Upd.refl _ w).alloc _)).grown J (fun k e _=>e));unfold qb1;rw[List.length_append,List.map_append];exact C
theorem qjb{w:World}{base:Nat}{v:Value}{xs:List Int}(h:qb1 w base v xs):(convert 95 9 v).run Tryz.prog w = .ok (.string (strOfNums xs)) w:=by
 rcases h.2 with ⟨rfl,e⟩ | ⟨g,cap,f,rfl,C,z,E,F,H,q⟩
 ·rw[List.eq_nil_of_length_eq_zero e];exact run_convert_bytes_nil w 95 5 Tryz.underlying95 Tryz.underlying5 0 0 9 Tryz.underlying9
 ·refine run_convert_bytes_arg w 95 5 Tryz.underlying95 Tryz.underlying5 g 0 xs.length cap xs rfl (fun i m=> ?_) 9 Tryz.underlying9;have r:f.toList[i]? = (xs.map (Value.int .u8))[i]? := by rw[←q,List.getElem?_take_of_lt (by omega)]
  rw[Nat.zero_add,qg z i,←Array.getElem?_toList,r,List.getElem?_map,List.getElem?_eq_getElem m];simp[List.getD,List.getElem?_eq_getElem m]
end
end Go.Proofs.YtfmkdoachjgjbaaGreatDoor
