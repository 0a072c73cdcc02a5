/-
  Package digest: bytes (the bytes of eight letters).
-/
import Derived.Test.YtjpmomdechibmaaGreatDoorSha2
import Derived.Test.YtjpmomdechibmaaGreatDoorDag
import Derived.Test.YtjpmomdechibmaaGreatDoorRows
import Derived.Test.YtjpmomdechibmaaGreatDoorMaa
import Derived.OpenShut
set_option linter.unusedVariables false
set_option linter.unusedSimpArgs false
namespace Go.Proofs.YtjpmomdechibmaaGreatDoor
open Go.RowKit
def byI(h:List Int)(i:Nat):Int:=wd h (i / 4) / 2 ^ (24-8*(i%4))%256
def qgj(h:List Int)(n:Nat):List Int:=(List.range n).foldl (fun f i=>f.set i (byI h i)) (List.replicate 32 0)
theorem qit(h:List Int):qgj h 0=List.replicate 32 0:=by unfold qgj;simp only[List.range_zero,List.foldl_nil]
theorem qis(h:List Int)(n:Nat):qgj h (n+1)=(qgj h n).set n (byI h n):=by simp[qgj,List.range_succ]
theorem qhs(h:List Int)(n:Nat):(qgj h n).length=32:=by
 induction n with
 | zero=>rw[qit];simp
 | succ n f=>rw[qis];simp[f]
theorem Tryz.infoHash:(Tryz.prog.info? 28).map (·.size)=some 32:=by kernel_rfl
set_option maxRecDepth 100000 in
set_option maxHeartbeats 1000000 in
theorem q14(h:List Int)(w:World)(hh:h.length=8)(hu:qe3 h) :
  Calls Tryz.prog 108 #[.agg (h.map (Value.int .u32)).toArray] w fun e w'=>e = .returned (.agg ((qgj h 32).map (Value.int .u8)).toArray)∧qx w w':=by
 obtain⟨m,o,t,x,y,z,C,D,rfl⟩:=qbw hh
 simp only[List.map_cons,List.map_nil]
 go_enter Tryz.func108,Tryz.ntmps108
 go_upto_region 2 with fail
 obtain⟨l,g⟩:∃l:World,l=((w.alloc (.cells #[.int .u32 m,.int .u32 o,.int .u32 t,.int .u32 x,.int .u32 y,.int .u32 z,.int .u32 C,.int .u32 D] 180)).alloc (.cells #[.int .u8 0,.int .u8 0,.int .u8 0,.int .u8 0,.int .u8 0,.int .u8 0,.int .u8 0,.int .u8 0,.int .u8 0,.int .u8 0,.int .u8 0,.int .u8 0,.int .u8 0,.int .u8 0,.int .u8 0,.int .u8 0,.int .u8 0,.int .u8 0,.int .u8 0,.int .u8 0,.int .u8 0,.int .u8 0,.int .u8 0,.int .u8 0,.int .u8 0,.int .u8 0,.int .u8 0,.int .u8 0,.int .u8 0,.int .u8 0,.int .u8 0,.int .u8 0] 28)).alloc (.cells #[.int .u8 0,.int .u8 0,.int .u8 0,.int .u8 0,.int .u8 0,.int .u8 0,.int .u8 0,.int .u8 0,.int .u8 0,.int .u8 0,.int .u8 0,.int .u8 0,.int .u8 0,.int .u8 0,.int .u8 0,.int .u8 0,.int .u8 0,.int .u8 0,.int .u8 0,.int .u8 0,.int .u8 0,.int .u8 0,.int .u8 0,.int .u8 0,.int .u8 0,.int .u8 0,.int .u8 0,.int .u8 0,.int .u8 0,.int .u8 0,.int .u8 0,.int .u8 0] 28):=⟨_,rfl⟩
 have sA:l.heap.size=w.heap.size+3:=by rw[g];simp
 have nA:qx w l:=by rw[g];exact(((Upd.refl _ _).alloc _).alloc _).alloc _
 have W:qa2 .u32 l w.heap.size [m,o,t,x,y,z,C,D]:=by rw[g];exact⟨_,zj (zj (qi _ _) _) _⟩
 have vB:qa2 .u8 l (w.heap.size+1+1) (List.replicate 32 0):=by
  rw[g]
  have:=qi ((w.alloc (.cells #[.int .u32 m,.int .u32 o,.int .u32 t,.int .u32 x,.int .u32 y,.int .u32 z,.int .u32 C,.int .u32 D] 180)).alloc (.cells #[.int .u8 0,.int .u8 0,.int .u8 0,.int .u8 0,.int .u8 0,.int .u8 0,.int .u8 0,.int .u8 0,.int .u8 0,.int .u8 0,.int .u8 0,.int .u8 0,.int .u8 0,.int .u8 0,.int .u8 0,.int .u8 0,.int .u8 0,.int .u8 0,.int .u8 0,.int .u8 0,.int .u8 0,.int .u8 0,.int .u8 0,.int .u8 0,.int .u8 0,.int .u8 0,.int .u8 0,.int .u8 0,.int .u8 0,.int .u8 0,.int .u8 0,.int .u8 0] 28)) (.cells #[.int .u8 0,.int .u8 0,.int .u8 0,.int .u8 0,.int .u8 0,.int .u8 0,.int .u8 0,.int .u8 0,.int .u8 0,.int .u8 0,.int .u8 0,.int .u8 0,.int .u8 0,.int .u8 0,.int .u8 0,.int .u8 0,.int .u8 0,.int .u8 0,.int .u8 0,.int .u8 0,.int .u8 0,.int .u8 0,.int .u8 0,.int .u8 0,.int .u8 0,.int .u8 0,.int .u8 0,.int .u8 0,.int .u8 0,.int .u8 0,.int .u8 0,.int .u8 0] 28)
  rw[World.size_alloc,World.size_alloc] at this
  exact⟨_,this⟩
 have vR:qa2 .u8 l (w.heap.size+1) (List.replicate 32 0):=by
  rw[g]
  have:=qi (w.alloc (.cells #[.int .u32 m,.int .u32 o,.int .u32 t,.int .u32 x,.int .u32 y,.int .u32 z,.int .u32 C,.int .u32 D] 180)) (.cells #[.int .u8 0,.int .u8 0,.int .u8 0,.int .u8 0,.int .u8 0,.int .u8 0,.int .u8 0,.int .u8 0,.int .u8 0,.int .u8 0,.int .u8 0,.int .u8 0,.int .u8 0,.int .u8 0,.int .u8 0,.int .u8 0,.int .u8 0,.int .u8 0,.int .u8 0,.int .u8 0,.int .u8 0,.int .u8 0,.int .u8 0,.int .u8 0,.int .u8 0,.int .u8 0,.int .u8 0,.int .u8 0,.int .u8 0,.int .u8 0,.int .u8 0,.int .u8 0] 28)
  rw[World.size_alloc] at this
  exact⟨_,zj this _⟩
 rw[←g]
 clear g
 generalize I:w.heap.size=A at *
 have H:=qb I
 clear I
 obtain⟨Y,rfl⟩:∃Y:World,Y=l:=⟨_,rfl⟩
 have L:qe3 [m,o,t,x,y,z,C,D]:=hu
 generalize K:[m,o,t,x,y,z,C,D]=F at W L
 have b3:F.length=8:=by rw[←K];rfl
 go_wp2_with fail
 go_loopw [4,5] (fun _ V wr=>∃i:Nat,V = .int .i64 (i:Int)∧i≤32∧qa2 .u8 wr (A+1+1) (qgj F i)∧Upd (fun k=>k=A+1+1) Y wr) (fun _ V _=>32-(intOf V).toNat)
 case atStart=>exact⟨0,rfl,by omega,by rw[qit];exact vB,Upd.refl _ _⟩
 case round =>
  obtain⟨i,rfl,hi,j,M⟩:=hrel
  by_cases b4:i<32
  ·have c0:wr.cell? ⟨A,i / 4,none⟩=some (.int .u32 (wd F (i / 4))):=(W.upd M (by omega)).cell (by omega)
   obtain⟨a0,a4⟩:=L.at (i / 4)
   obtain⟨v1,c1⟩:∃v,wr.cell? ⟨A+1+1,i,none⟩=some v:=⟨_,j.cell (by rw[qhs];omega)⟩
   have z1:=j.free i
   have a5:(i:Int)<32:=by omega
   have a6:IntKind.i64.wrap ((i:Int) / 4)=(i:Int) / 4:=IntWalk.i64_in _ (by omega)
   have a7:((i:Int) / 4).toNat=i / 4:=by omega
   have a8:(0:Int)≤(i:Int) / 4:=by omega
   have a9:(i:Int) / 4<8:=by omega
   have E:=j.set i (byI F i)
   rw[←qis] at E
   have P:=qb E
   clear E
   go_wp2
   have us:=M.set1 i (.int .u8 (byI F i))
   go_roundw
   case rel=>exact⟨i+1,by go_num,by omega,qa P,us⟩
   case measure=>simp[intOf];omega
  ·obtain rfl:i=32:=by omega
   rw[show ((32:Nat):Int)=32 from rfl]
   have X:=vR.upd M (by omega)
   have nn:=nA.then M (by intro q U h;rw[qa H] at U;omega)
   have f:=qhs F 32
   subst K
   generalize J:qgj [m,o,t,x,y,z,C,D] 32=N at j f
   have O:=qb J
   clear J W vB vR M
   obtain⟨TB,j⟩:=j
   obtain⟨R,T⟩:=X
   go_upto_region 7 with fail
   refine wp_region_lit ?_
   refine wpList_load_row rfl _ _ rfl (A+1+1) rfl TB _ _ _ j Tryz.underlying28 rfl (by rw[List.size_toArray,List.length_map,f];exact Tryz.infoHash) ?_
   refine wpList_store_row rfl _ _ _ rfl (A+1) (N.map (Value.int .u8)).toArray rfl rfl R _ T (by rw[List.size_toArray,List.length_map,f];exact Tryz.infoHash) (by simp[f]) (by simp[Value.oneCell']) ?_
   have Z:=setRow_heap wr (A+1) _ (N.map (Value.int .u8)).toArray R (0,0) T
   have uF:Upd (fun k=>k=A+1) wr (wr.setRow (A+1) (N.map (Value.int .u8)).toArray):=⟨rfl,rfl,rfl,by simp,fun i _ hn=>setRow_other _ _ _ _ hn⟩
   have nE:=nn.then uF (by intro q U h;rw[qa H] at U;omega)
   generalize wr.setRow (A+1) (N.map (Value.int .u8)).toArray=wF at Z nE ⊢
   clear uF nn j T
   go_wp2_with fail
   refine bodyPost_ret (results_cell_row rfl _ _ (A+1) R _ _ _ rfl Z Tryz.underlying28 rfl (by rw[List.size_toArray,List.length_map,f];exact Tryz.infoHash)) rfl ?_
   exact⟨by rw[qa O],nE⟩
def qbc(_ _:World):Prop:=True
theorem qbc.all(w w':World):qbc w w':=trivial
def isV(xs:List Value)(i:Nat)(v:Value)(_:World):Prop:=v=xs.getD i undef
def QS(f:World)(_:Nat)(w:World):Prop:=Q f w
section
variable {P:Program}{l:List Oper}{A:List (List Nat)}{L:List (List (Nat × Nat))}{n:Nat}
def qfm(st:List Nat)(f:Array Bool):Nat:=st.countP fun s=>f.getD s false
def stB(l:List Oper)(st:List Nat):Bool:=decide st.Nodup&&st.all fun s=>decide (s<l.length)
def qml(A:List (List Nat))(st:List Nat)(i:Nat):List (Nat × Nat) :=
 (List.range (st.countP (fun s=>s != i && !(A.getD s []).contains i)+1)).filterMap fun k =>
  if st.countP (fun s=>(A.getD i []).contains s)≤k then some (k,k+if st.contains i then 1 else 0) else none
theorem q4m{st:List Nat}{i:Nat}{f:Array Bool}(v:stB l st=true)(m:f.getD i false=false)(o:∀k∈A.getD i [],f.getD k false=true)(q:∀s,s∈st→i∈A.getD s []→f.getD s false=false) :
  (qfm st f,qfm st f+if st.contains i then 1 else 0)∈qml A st i:=by
 unfold qml
 rw[List.mem_filterMap]
 refine⟨qfm st f,List.mem_range.2 ?_,?_⟩
 ·refine Nat.lt_succ_of_le (List.countP_mono_left fun s j g=> ?_)
  simp only[Bool.and_eq_true,bne_iff_ne,ne_eq,Bool.not_eq_true']
  refine⟨?_,?_⟩
  ·rintro rfl
   rw[m] at g
   cases g
  ·cases t:(A.getD s []).contains i with
   | false=>rfl
   | true =>
    have:=q s j (List.contains_iff_mem.1 t)
    rw[this] at g
    cases g
 ·rw[if_pos]
  exact List.countP_mono_left fun s _ j=>o s (List.contains_iff_mem.1 j)
theorem q3t{st:List Nat}{f:Array Bool}(g:stB l st=true)(j:∀i,i<l.length→f.getD i false=true):qfm st f=st.length:=by
 unfold stB at g
 simp only[Bool.and_eq_true,List.all_eq_true,decide_eq_true_eq] at g
 exact List.countP_eq_length.2 fun s m=>j s (g.2 s m)
theorem q3u{st:List Nat}{f:Array Bool}{i:Nat}(g:stB l st=true)(x:i<f.size)(o:f.getD i false=false):qfm st (f.setIfInBounds i true)=qfm st f+if st.contains i then 1 else 0:=by
 unfold stB at g
 simp only[Bool.and_eq_true,decide_eq_true_eq] at g
 have t:=g.1
 clear g
 unfold qfm
 induction st with
 | nil=>rfl
 | cons s st q =>
  have q:=q t.tail
  rw[List.countP_cons,List.countP_cons,q]
  by_cases h:s=i
  ·subst h
   have m:st.contains s=false:=by
    cases w:st.contains s with
    | false=>rfl
    | true=>exact absurd (List.contains_iff_mem.1 w) (List.nodup_cons.1 t).1
   have j:(f.setIfInBounds s true).getD s false=true:=qfj x
   rw[j,o,m]
   simp
  ·have j:(f.setIfInBounds i true).getD s false=f.getD s false:=getD_set_ne false (fun e=>h e.symm)
   rw[j]
   have v:(s::st).contains i=st.contains i:=by
    rw[List.contains_cons]
    have:(i==s)=false:=by simpa using fun e=>h e.symm
    rw[this,Bool.false_or]
   rw[v]
   omega
def qu0(P:Program)(a0:Act)(S:Nat→World→Prop)(R:World→World→Prop)(Φ:Nat→Value→World→Prop)(i:Nat)(o:Oper)(Li:List (Nat × Nat))(Ti:List (Nat × Nat)):Prop :=
 ∀t∈Ti,∀(qk:Nat→Value) (w:World),S t.1 w→(∀p∈Li,Φ p.1 (qk p.1) w) →
  match o.guard with
  | none=>zg P o (putL a0 qk Li).eval w fun v w'=>R w w'∧S t.2 w'∧Φ i v w'
  | some (g,b)=>Φ g (qk g) w→(qk g = .bool b→zg P o (putL a0 qk Li).eval w fun v w'=>R w w'∧S t.2 w'∧Φ i v w')∧(qk g ≠ .bool b→S t.2 w∧Φ i undef w)
def qbd(P:Program)(a0:Act)(S:Nat→World→Prop)(R:World→World→Prop)(Φ:Nat→Value→World→Prop):Nat→List Oper→List (List (Nat × Nat))→List (List (Nat × Nat))→Prop
 | _,[],_,_=>True
 | i,o::os,L,T=>qu0 P a0 S R Φ i o (L.headD []) (T.headD [])∧qbd P a0 S R Φ (i+1) os L.tail T.tail
theorem qbd.nil{a0:Act}{S:Nat→World→Prop}{R:World→World→Prop}{Φ:Nat→Value→World→Prop}{i:Nat}{L T:List (List (Nat × Nat))} : qbd P a0 S R Φ i [] L T:=trivial
theorem qbd.at{a0:Act}{S:Nat→World→Prop}{R:World→World→Prop}{Φ:Nat→Value→World→Prop} : ∀ {os:List Oper} {L T:List (List (Nat × Nat))} {k:Nat},qbd P a0 S R Φ k os L T→∀(i:Nat) o,os[i]? = some o→qu0 P a0 S R Φ (k+i) o (L.getD i []) (T.getD i [])
 | [],_,_,_,_,_,_,h=>by simp at h
 | o::os,L,T,k,h,0,g,f=>by
  simp only[List.getElem?_cons_zero,Option.some.injEq] at f
  subst f
  have:=h.1
  cases L<;>cases T<;>exact this
 | o::os,L,T,k,h,i+1,g,f=>by
  have:=qbd.at h.2 i g (by simpa using f)
  rw[show k+(i+1)=k+1+i by omega]
  cases L<;>cases T<;>exact this
theorem qlb{o:Oper}{ρ:Operand→Value}{w:World}{K f:Value→World→Prop}(h:zg P o ρ w K)(k:∀v w',K v w'→f v w'):zg P o ρ w f:=by
 unfold zg at h ⊢
 generalize (execOp ρ o).run P w=r at h ⊢
 cases r with
 | ok n w' =>
  cases n<;>simp only at h ⊢
  ·exact k _ _ h
  ·exact k _ _ h
  ·refine h.mono fun e m g=> ?_
   obtain⟨v,j,i⟩:=g
   exact⟨v,j,k _ _ i⟩
 | halt x w'=>simp only at h
theorem qbd.one{a0:Act}{S:Nat→World→Prop}{R:World→World→Prop}{Φ:Nat→Value→World→Prop}{i:Nat}{o:Oper}{os:List Oper}{Li:List (Nat × Nat)}{L T:List (List (Nat × Nat))}{k f:Nat}(j:o.guard=none)
  (h:∀(qk:Nat→Value) (w:World),S k w→q1q Φ qk w Li→zg P o (putL a0 qk Li).eval w fun v w'=>R w w'∧S f w'∧Φ i v w')
  (r:qbd P a0 S R Φ (i+1) os L T):qbd P a0 S R Φ i (o::os) (Li::L) ([(k,f)]::T) :=
 ⟨fun t q qk w g m=>by
  obtain rfl:=List.mem_singleton.1 q
  rw[j]
  exact h qk w g (ql8 m),r⟩
theorem qbd.any{a0:Act}{S:Nat→World→Prop}{R:World→World→Prop}{Φ:Nat→Value→World→Prop}{i:Nat}{o:Oper}{os:List Oper}{Li Ti:List (Nat × Nat)}{L T:List (List (Nat × Nat))}(g:o.guard=none)
  (h:∀t∈Ti,∀(qk:Nat→Value) (w:World),S t.1 w→q1q Φ qk w Li→zg P o (putL a0 qk Li).eval w fun v w'=>R w w'∧S t.2 w'∧Φ i v w')
  (r:qbd P a0 S R Φ (i+1) os L T):qbd P a0 S R Φ i (o::os) (Li::L) (Ti::T) :=
 ⟨fun t m qk w f j=>by
  rw[g]
  exact h t m qk w f (ql8 j),r⟩
theorem qbd.pure{a0:Act}{S:Nat→World→Prop}{R:World→World→Prop}{Φ:Nat→Value→World→Prop}{i:Nat}{o:Oper}{os:List Oper}{Li Ti:List (Nat × Nat)}{L T:List (List (Nat × Nat))}(q:o.guard=none)(f:∀w,R w w)(j:(Ti.all fun t=>t.1==t.2)=true)
  (h:∀(qk:Nat→Value) (w:World),q1q Φ qk w Li→zg P o (putL a0 qk Li).eval w fun v w'=>w'=w∧Φ i v w)
  (r:qbd P a0 S R Φ (i+1) os L T):qbd P a0 S R Φ i (o::os) (Li::L) (Ti::T) :=
 ⟨fun t y qk w g x=>by
  rw[q]
  have e:t.1=t.2:=by simpa using List.all_eq_true.1 j t y
  rw[e] at g
  exact qlb (h qk w (ql8 x)) fun v w' m=>by
   obtain⟨rfl,z⟩:=m
   exact⟨f _,g,z⟩,r⟩
structure DagInvP(l:List Oper)(A:List (List Nat))(st:List Nat)(a0:Act)(S:Nat→World→Prop)(Φ:Nat→Value→World→Prop)(listed:Array Bool)(a:Act)(w:World)(qk:Nat→Value):Prop where
 size:listed.size=l.length
 s:S (qfm st listed) w
 phi:∀i,listed.getD i false=true→Φ i (qk i) w
 shut:∀i,listed.getD i false=true→∀k∈A.getD i [],listed.getD k false=true
 defers:a.defers=a0.defers
 tmps:a.tmps.size=a0.tmps.size
 other:∀t,(∀i,listed.getD i false=true→qa8 l i≠some t)→a.tmps[t]? = a0.tmps[t]?
 at_:∀i t,listed.getD i false=true→qa8 l i=some t→a.tmps[t]? = some (qk i)
theorem q5o(D:Dag l A L n){st:List Nat}(a6:stB l st=true){TS:List (List (Nat × Nat))}(c1:(List.range l.length).map (qml A st)=TS){a0:Act}(hn:a0.tmps.size=n){S:Nat→World→Prop}{R:World→World→Prop}{Φ:Nat→Value→World→Prop}{Q:Exit→Act→World→Prop}
  (b9:∀w,R w w) (Z:∀i v w w' k k',S k w→S k' w'→R w w'→Φ i v w→Φ i v w') (a8:qbd P a0 S R Φ 0 l L TS)
  (c0:∀qk w,S st.length w→(∀i,i<l.length→Φ i (qk i) w)→Q .normal (putL a0 qk (qav l)) w) :
  ∀(C:Nat) (f:Array Bool) (a:Act) (w:World) (qk:Nat→Value),DagInvP l A st a0 S Φ f a w qk→(List.range l.length).countP (fun i=> !f.getD i false)≤C→wpAny P .any l.toArray Q C f a w:=by
 have X:∀(f:Array Bool) (a:Act) (w:World) (qk:Nat→Value),DagInvP l A st a0 S Φ f a w qk→Region.ready .any l.toArray f=[]→Q .normal a w:=by
  intro f a w qk I hr
  have a4:∀(i:Nat),i<l.length→f.getD i false=true:=by
   intro i
   induction i using Nat.strongRecOn with
   | _ i ih =>
    intro M
    cases hl:f.getD i false with
    | true=>rfl
    | false =>
     exfalso
     have:i∈Region.ready .any l.toArray f:=by
      rw[mem_ready]
      have ho:l[i]? = some l[i]:=List.getElem?_eq_getElem M
      refine⟨?_,l[i],by simp[M],fun e he hb=> ?_⟩
      ·rw[Array.getD_eq_getD_getElem?] at hl ⊢
       have:i<f.size:=by rw[I.size];exact M
       rw[Array.getElem?_eq_getElem this] at hl ⊢
       simpa using hl
      ·have O:=(D.edge i _ ho e he hb).1
       have h2:=(D.anc i _ ho _ O).1
       exact ih _ h2 (by omega)
     rw[hr] at this
     cases this
  have ha:a=putL a0 qk (qav l):=by
   refine qya (by rw[qg7];exact I.defers) fun t=> ?_
   by_cases h:∃i,qa8 l i=some t
   ·obtain⟨i,M⟩:=h
    have E:=(qkw M).1
    rw[I.at_ i t (a4 i E) M]
    have hm:(i,t)∈qav l:=by
     unfold qav
     rw[List.mem_filterMap]
     exact⟨i,List.mem_range.2 E,by rw[M];rfl⟩
    refine(qi7 qk (qav l) a0 (i,t) hm (fun q hq e=> ?_) (by rw[hn];exact(D.slot i t M).1)).symm
    unfold qav at hq
    rw[List.mem_filterMap] at hq
    obtain⟨j,_,y⟩:=hq
    rw[Option.map_eq_some_iff] at y
    obtain⟨t',a7,rfl⟩:=y
    simp only at e
    subst e
    exact(D.slot i _ M).2 j a7
   ·rw[I.other t fun i _ N=>h ⟨i,N⟩,qd2]
    intro p hp e
    unfold qav at hp
    rw[List.mem_filterMap] at hp
    obtain⟨j,_,y⟩:=hp
    rw[Option.map_eq_some_iff] at y
    obtain⟨t',a7,rfl⟩:=y
    exact h ⟨j,by rw[a7,←e]⟩
  rw[ha]
  exact c0 qk w (by have:=I.s;rwa [q3t a6 a4] at this) fun i M=>I.phi i (a4 i M)
 intro C
 induction C with
 | zero =>
  intro f a w qk I hc
  have hr:Region.ready .any l.toArray f=[]:=by
   rw[List.eq_nil_iff_forall_not_mem]
   intro i M
   obtain⟨h0,o,ho,_⟩:=mem_ready.1 M
   have E:i<l.length:=by simpa using (Array.getElem?_eq_some_iff.1 ho).1
   have:(List.range l.length).countP (fun i=> !f.getD i false)=0:=by omega
   rw[List.countP_eq_zero] at this
   have:=this i (List.mem_range.2 E)
   rw[Array.getD_eq_getD_getElem?] at h0 this
   have N:i<f.size:=by rw[I.size];exact E
   rw[Array.getElem?_eq_getElem N] at h0 this
   simp at h0 this
   rw[h0] at this
   cases this
  exact⟨hr,X f a w qk I hr⟩
 | succ C ih =>
  intro f a w qk I hc
  refine⟨fun hr=>X f a w qk I hr,fun i M=> ?_⟩
  obtain⟨h0,o,ho,b3⟩:=mem_ready.1 M
  have E:i<l.length:=by simpa using (Array.getElem?_eq_some_iff.1 ho).1
  have N:i<f.size:=by rw[I.size];exact E
  have H:l[i]? = some o:=by simpa using ho
  have T:f.getD i false=false:=by
   rw[Array.getD_eq_getD_getElem?] at h0 ⊢
   rw[Array.getElem?_eq_getElem N] at h0 ⊢
   simpa using h0
  have K:∀k∈A.getD i [],f.getD k false=true:=by
   intro k hk
   obtain⟨_,e,he,hb,h⟩:=D.anc i o H k hk
   have O:=b3 e he hb
   rcases h with rfl | h
   ·exact O
   ·exact I.shut _ O k h
  have a5:∀t∈o.looksAt l.toArray,a.tmps[t]? = (putL a0 qk (L.getD i [])).tmps[t]? := by
   intro t ht
   by_cases h:∃j,f.getD j false=true∧qa8 l j=some t
   ·obtain⟨j,y,z⟩:=h
    rcases D.look i o H t ht j z with O | ⟨O,h2⟩
    ·have:=I.shut j y i O
     rw[T] at this
     cases this
    ·rw[I.at_ j t y z]
     refine(qi7 qk _ a0 (j,t) h2 (fun q hq e=> ?_) (by rw[hn];exact(D.slot j t z).1)).symm
     have:=(D.lis i o H q hq).2
     rw[e] at this
     exact(D.slot j t z).2 _ this
   ·rw[I.other t fun j y N=>h ⟨j,y,N⟩,qd2]
    intro p hp e
    obtain⟨O,h2⟩:=D.lis i o H p hp
    exact h ⟨p.1,K _ O,by rw[h2,e]⟩
  have U:execOp a.eval o=execOp (putL a0 qk (L.getD i [])).eval o:=by
   refine execOp_congr o (D.sel i o H) fun x hx=> ?_
   cases x with
   | tmp t =>
    have:=a5 t (List.mem_append_left _ (List.mem_filterMap.2 ⟨.tmp t,by simpa using hx,rfl⟩))
    simp only[Act.eval,Array.getD_eq_getD_getElem?,this]
   | _=>rfl
  have W:=a8.at i o H
  rw[Nat.zero_add] at W
  have c2:=q4m (A:=A) (st:=st) a6 T (fun k hk=>K k hk) (fun s N M=>by
   cases hl:f.getD s false with
   | false=>rfl
   | true=>have:=I.shut s hl i M;rw[T] at this;cases this)
  have a9:TS.getD i []=qml A st i:=by
   rw[←c1,List.getD_eq_getElem?_getD,List.getElem?_map,List.getElem?_range E]
   rfl
  have J:=W _ (by rw[a9];exact c2) qk w I.s fun p hp=>I.phi _ (K _ (D.lis i o H p hp).1)
  have next:∀v w',R w w'→S (qfm st f+if st.contains i then 1 else 0) w'→Φ i v w'→wpAny P .any l.toArray Q C (f.setIfInBounds i true) (a.put o.dst v) w':=by
   intro v w' hR hS hΦ
   have Y:qa8 l i=o.dst:=by unfold qa8;rw[H];rfl
   refine ih (f.setIfInBounds i true) (a.put o.dst v) w' (fun j=>if j=i then v else qk j) ⟨?_,by rw[q3u a6 N T];exact hS,?_,?_,?_,?_,?_,?_⟩ ?_
   ·rw[Array.size_setIfInBounds];exact I.size
   ·intro j y
    rcases (zw N).1 y with rfl | F
    ·simpa using hΦ
    ·have V:j≠i:=by rintro rfl;rw[T] at F;cases F
     simp only[if_neg V]
     exact Z j _ w w' _ _ I.s hS hR (I.phi j F)
   ·intro j y k hk
    refine(zw N).2 ?_
    rcases (zw N).1 y with rfl | F
    ·exact .inr (K k hk)
    ·exact .inr (I.shut j F k hk)
   ·cases o.dst<;>exact I.defers
   ·cases hd:o.dst with
    | none=>exact I.tmps
    | some d=>simpa [Act.put] using I.tmps
   ·intro t ht
    have O:=I.other t fun j y=>ht j ((zw N).2 (.inr y))
    have h2:=ht i ((zw N).2 (.inl rfl))
    rw[Y] at h2
    cases hd:o.dst with
    | none=>exact O
    | some d =>
     have V:d≠t:=by rintro rfl;exact h2 hd
     simpa [Act.put,Array.getElem?_setIfInBounds_ne V] using O
   ·intro j t y z
    rcases (zw N).1 y with rfl | F
    ·rw[Y] at z
     rw[z,if_pos rfl]
     have:t<a.tmps.size:=by rw[I.tmps,hn];exact(D.slot j t (by rw[Y,z])).1
     simp[Act.put,this]
    ·have V:j≠i:=by rintro rfl;rw[T] at F;cases F
     rw[if_neg V]
     have O:=I.at_ j t F z
     cases hd:o.dst with
     | none=>exact O
     | some d =>
      have b8:d≠t:=by
       rintro rfl
       exact V ((D.slot i d (by rw[Y,hd])).2 j z)
      simpa [Act.put,Array.getElem?_setIfInBounds_ne b8] using O
   ·have O:(List.range l.length).countP (fun j=> !(f.setIfInBounds i true).getD j false)<(List.range l.length).countP (fun j=> !f.getD j false):=by
     have b7:i∈List.range l.length:=List.mem_range.2 E
     obtain⟨s,r,c5⟩:=List.append_of_mem b7
     rw[c5,List.countP_append,List.countP_append,List.countP_cons,List.countP_cons]
     have m:∀xs:List Nat,xs.countP (fun j=> !(f.setIfInBounds i true).getD j false)≤xs.countP (fun j=> !f.getD j false):=by
      intro xs
      refine List.countP_mono_left fun j _ y=> ?_
      cases h:f.getD j false with
      | false=>rfl
      | true=>rw[(zw N).2 (.inr h)] at y;cases y
     have m1:=m s
     have m2:=m r
     rw[qfj N,T]
     simp only[Bool.not_true,Bool.not_false,Bool.false_eq_true,if_false,if_true]
     omega
    omega
  unfold wpOp
  rw[ho]
  simp only
  cases hg:o.guard with
  | none =>
   rw[hg] at J
   rw[if_pos (by unfold Region.wanted;rw[hg])]
   exact .inl (qh8 U J fun v w' h=>next v w' h.1 h.2.1 h.2.2)
  | some gb =>
   obtain⟨g,b⟩:=gb
   rw[hg] at J
   obtain⟨c4,t,b6⟩:=D.guard i o H g b hg
   have b5:=K g c4
   have c3:=I.at_ g t b5 b6
   obtain⟨p1,p2⟩:=J (I.phi g b5)
   have hy:Region.wanted o (yielded l.toArray a.tmps)=true↔qk g = .bool b:=by
    unfold Region.wanted yielded
    rw[hg]
    have e1:(l.toArray[g]?).bind (·.dst)=some t:=by simpa [qa8] using b6
    simp only[e1,Option.bind_some,c3]
    constructor
    ·intro h
     split at h
     ·rename_i b' b4
      simp only[Option.some.injEq] at b4
      simp at h
      rw[b4,h]
     ·simp at h
    ·intro h
     rw[h]
     simp
   by_cases hw:Region.wanted o (yielded l.toArray a.tmps)=true
   ·rw[if_pos hw]
    exact .inl (qh8 U (p1 (hy.1 hw)) fun v w' h=>next v w' h.1 h.2.1 h.2.2)
   ·rw[if_neg hw]
    obtain⟨q1,q2⟩:=p2 fun h=>hw (hy.2 h)
    exact next undef w (b9 w) q1 q2
theorem qmp{id:Nat}{a:Act}{w:World}{Q:Exit→Act→World→Prop}(F:P.follows .mixedOrders=true)(L:List (List (Nat × Nat)))(n:Nat)(H:a.tmps.size=n)(D:q5m l (qs6 l []) L n=true)(A:List (Nat × Nat))(C:qav l=A)
  (st:List Nat) (x:stB l st=true) (y:List (List (Nat × Nat))) (q:(List.range l.length).map (qml (qs6 l []) st)=y)
  (S:Nat→World→Prop) (R:World→World→Prop) (Φ:Nat→Value→World→Prop) (E:S 0 w.drew) (m:∀w,R w w) (f:∀i v w w' k I,S k w→S I w'→R w w'→Φ i v w→Φ i v w')
  (j:qbd P a S R Φ 0 l L y) (o:∀qk w,S st.length w→(∀i,i<l.length→Φ i (qk i) w)→Q .normal (putL a qk A) w) :
  (Code.region id l.toArray true).wp P Q a w:=by
 subst C
 refine wp_region_any F ?_
 have z:qfm st (Array.replicate l.length false)=0:=List.countP_eq_zero.2 fun s _ h=>by rw[qbn] at h;cases h
 refine q5o (qyp D) x q H m f j o _ _ a _ (fun _=>undef) ⟨by simp,by rw[List.size_toArray,z];exact E,?_,?_,rfl,rfl,fun _ _=>rfl,?_⟩ ?_
 ·intro i g;rw[qbn] at g;cases g
 ·intro i g;rw[qbn] at g;cases g
 ·intro i t g;rw[qbn] at g;cases g
 ·refine Nat.le_trans List.countP_le_length ?_
  simp
end
def qjl:Nat→List Int→ByteArray→List Int
 | 0,h,_=>h
 | n+1,h,s=>qjl n (qln h (s.extract 0 64)) (s.extract 64 s.size)
def zbu:Value→Nat
 | .string b=>b.size
 | _=>0
theorem q0x(n:Nat):∀(h:List Int) (s:ByteArray),h.length=8∧qe3 h→(qjl n h s).length=8∧qe3 (qjl n h s):=by
 induction n with
 | zero=>intro h s f;exact f
 | succ n g=>intro h s f;exact g _ _ (qtn _ _ f)
def zd3(f:World)(A:Nat)(r:List Int):Nat→World→Prop
 | 0,w=>qx f w
 | _,w=>Upd (fun k=>k=A) f w∧qa2 .u32 w A r
theorem q3d{C:Array Value}{f:List Value}(h:C.size=f.length):qj1 C 0 f=f.toArray:=by
 refine Array.ext_getElem? fun i=> ?_
 rw[qh0 C 0 f i (by omega)]
 by_cases l:i<f.length
 ·rw[if_pos (by omega)];simp
 ·have g:C[i]? = none:=Array.getElem?_eq_none (by omega)
  have j:f.toArray[i]? = none:=Array.getElem?_eq_none (by simp;omega)
  rw[if_neg (by omega),g,j]
theorem qa2.setAll{k:IntKind}{w:World}{b:Nat}{ws:List Int}(h:qa2 k w b ws){r:List Int}(f:r.length=ws.length):qa2 k (w.setCells b 0 (r.map (Value.int k))) b r:=by
 obtain⟨T,h⟩:=h
 refine⟨T,(qa1 h 0 _).trans ?_⟩
 rw[q3d (by simp[f])]
theorem qa2.stOk{k:IntKind}{w:World}{b:Nat}{ws:List Int}(h:qa2 k w b ws){r:List Int}{n:Nat}(g:r.length=ws.length)(f:r.length=n):stOk w b 0 n (r.map (Value.int k)).toArray=true:=by
 obtain⟨T,h⟩:=h
 refine qe0 h (by simp;omega) (by simp;omega) ?_
 rw[List.all_toArray,List.all_map,List.all_eq_true]
 intro x _
 rfl
def zdq(x:Value):Sem Value:=Instr.loadAt 180 x
theorem qpy(x:Value):Instr.loadAt 180 x=zdq x:=rfl
theorem zbh(b o:Nat)(w:World):(zdq (.pointer (some ⟨b,o,none⟩))).run Tryz.prog w=match zr w b o 8 with | some A=> .ok (.agg A) w | none=>qdk Tryz.prog 180 w b o :=
 zt 180 8 _ Tryz.underlying180 rfl Tryz.infoW8 b o w
def zdy(x v:Value):Sem Unit:=Instr.storeAt 180 x v
theorem qql(x v:Value):Instr.storeAt 180 x v=zdy x v:=rfl
theorem zbt(b o:Nat)(A:Array Value)(w:World):(zdy (.pointer (some ⟨b,o,none⟩)) (.agg A)).run Tryz.prog w=if stOk w b o 8 A=true then .ok () (w.setCells b o A.toList) else qfe Tryz.prog 180 w b o A :=
 qap 180 8 Tryz.infoW8 b o A w
attribute [local go_sem ↓ high] qpy qql
attribute [local go_sem] zbh zbt
set_option maxRecDepth 100000 in
set_option maxHeartbeats 1000000 in
theorem qyh(h:List Int)(s:ByteArray)(w:World)(hh:h.length=8)(hu:qe3 h)(hs:s.size≤1073741824)(a7:Tabs w) :
  Calls Tryz.prog 109 #[.agg (h.map (Value.int .u32)).toArray,.string s] w fun e w'=>e = .returned (.agg ((qjl (s.size / 64) h s).map (Value.int .u32)).toArray)∧qx w w':=by
 have hw:=a7.lt
 obtain⟨h0,h1,h2,h3,h4,h5,h6,h7,rfl⟩:=qbw hh
 simp only[List.map_cons,List.map_nil]
 go_enter Tryz.func109,Tryz.ntmps109
 go_upto_region 1 with fail
 obtain⟨wA,C⟩:∃wA:World,wA=(w.alloc (.cells #[.int .u32 h0,.int .u32 h1,.int .u32 h2,.int .u32 h3,.int .u32 h4,.int .u32 h5,.int .u32 h6,.int .u32 h7] 180)).alloc (.cells #[.int .u32 0,.int .u32 0,.int .u32 0,.int .u32 0,.int .u32 0,.int .u32 0,.int .u32 0,.int .u32 0] 180):=⟨_,rfl⟩
 have sA:wA.heap.size=w.heap.size+2:=by rw[C];simp
 have nA:qx w wA:=by rw[C];exact((Upd.refl _ _).alloc _).alloc _
 have vA:qa2 .u32 wA w.heap.size [h0,h1,h2,h3,h4,h5,h6,h7]:=by rw[C];exact⟨_,zj (qi _ _) _⟩
 have vR:qa2 .u32 wA (w.heap.size+1) [0,0,0,0,0,0,0,0]:=by
  rw[C]
  have:=qi (w.alloc (.cells #[.int .u32 h0,.int .u32 h1,.int .u32 h2,.int .u32 h3,.int .u32 h4,.int .u32 h5,.int .u32 h6,.int .u32 h7] 180)) (.cells #[.int .u32 0,.int .u32 0,.int .u32 0,.int .u32 0,.int .u32 0,.int .u32 0,.int .u32 0,.int .u32 0] 180)
  rw[World.size_alloc] at this
  exact⟨_,this⟩
 rw[←C]
 clear C
 have TA:=a7.new nA
 generalize a6:w.heap.size=A at *
 have a5:=qb a6
 clear a6
 obtain⟨wo,rfl⟩:∃wo:World,wo=wA:=⟨_,rfl⟩
 generalize a8:[h0,h1,h2,h3,h4,h5,h6,h7]=O at vA hu
 have a9:O.length=8:=by rw[←a8];rfl
 go_wp2_with fail
 go_loopw [1,10] (fun sv _ wr=>∃(t:ByteArray) (hc:List Int),sv = .string t∧t.size≤s.size∧hc.length=8∧qe3 hc∧Hid (qjl (t.size / 64) hc t=qjl (s.size / 64) O s)∧qa2 .u32 wr A hc∧Upd (fun k=>k=A) wo wr) (fun sv _ _=>zbu sv)
 case atStart=>exact⟨s,O,rfl,Nat.le_refl _,a9,hu,qb rfl,vA,Upd.refl _ _⟩
 case round =>
  obtain⟨t,hc,rfl,c2,X,N,HE,hA,Z⟩:=hrel
  obtain⟨D,E,F,H,I,J,K,L,rfl⟩:=qbw X
  obtain⟨U,rfl⟩:∃U:World,U=wr:=⟨_,rfl⟩
  by_cases c0:64≤t.size
  ·have c1:=Z.size
   have b4:(t.extract 0 64).size=64:=by rw[ByteArray.size_extract];omega
   have b7:=TA.upd Z (by omega) (by omega)
   have hC:∀W,qx U W→_:=fun W n=>qth [D,E,F,H,I,J,K,L] (t.extract 0 64) W rfl N b4 (b7.new n)
   have b3:=qtn [D,E,F,H,I,J,K,L] (t.extract 0 64) ⟨rfl,N⟩
   have i:qjl (t.size / 64) [D,E,F,H,I,J,K,L] t=qjl ((t.extract 64 t.size).size / 64) (qln [D,E,F,H,I,J,K,L] (t.extract 0 64)) (t.extract 64 t.size):=by
    obtain⟨n,hn⟩:∃n,t.size / 64=n+1:=⟨t.size / 64-1,by omega⟩
    have:(t.extract 64 t.size).size / 64=n:=by rw[ByteArray.size_extract];omega
    rw[hn,this]
    rfl
   simp only[List.map_cons,List.map_nil] at hC
   generalize qln [D,E,F,H,I,J,K,L] (t.extract 0 64)=r at hC b3 i
   obtain⟨r8,b8⟩:=b3
   obtain⟨j,l,m,o,v,x,y,z,rfl⟩:=qbw r8
   simp only[List.map_cons,List.map_nil] at hC
   have HC:=qb hC
   have HN:=qb (i.symm.trans (qa HE))
   clear hC i HE r8
   have HA:=qb hA
   clear hA N X
   have t1:(64:Int)≤(t.size:Int):=by omega
   have t2:¬(t.size:Int)<64:=by omega
   go_wp2_with fail
   refine qmp (by kernel_rfl) [[],[],[(1,12)],[(0,11),(2,13)],[(3,14)],[(4,10)],[(4,10)],[(5,15)]] 18 rfl (by kernel_rfl) [(0,11),(1,12),(2,13),(3,14),(4,10),(5,15),(6,16)] (by kernel_rfl) [7] (by kernel_rfl) [[(0,0)],[(0,0)],[(0,0)],[(0,0)],[(0,0)],[(0,0)],[(0,0),(1,1)],[(0,1)]] (by kernel_rfl)
    (zd3 U A [j,l,m,o,v,x,y,z]) qbc
    (isV [.agg #[.int .u32 D,.int .u32 E,.int .u32 F,.int .u32 H,.int .u32 I,.int .u32 J,.int .u32 K,.int .u32 L],.string t,.string (t.extract 0 64),
     .tuple #[.agg #[.int .u32 j,.int .u32 l,.int .u32 m,.int .u32 o,.int .u32 v,.int .u32 x,.int .u32 y,.int .u32 z],.bool true],.tuple #[.agg #[.int .u32 j,.int .u32 l,.int .u32 m,.int .u32 o,.int .u32 v,.int .u32 x,.int .u32 y,.int .u32 z],.bool true],
     .agg #[.int .u32 j,.int .u32 l,.int .u32 m,.int .u32 o,.int .u32 v,.int .u32 x,.int .u32 y,.int .u32 z],.bool true,undef])
    ((Upd.refl _ _).drew) (fun _=>qbc.all _ _) (fun _ _ _ _ _ _ _ _ _ h=>h) ?_ ?_
   ·refine .one rfl ?_ <| .pure rfl (fun _=>qbc.all _ _) rfl ?_ <| .pure rfl (fun _=>qbc.all _ _) rfl ?_ <| .one rfl ?_ <| .pure rfl (fun _=>qbc.all _ _) rfl ?_ <| .pure rfl (fun _=>qbc.all _ _) rfl ?_ <| .pure rfl (fun _=>qbc.all _ _) rfl ?_ <| .one rfl ?_ <| .nil
    ·intro qk w1 g _
     replace g:qx U w1:=g
     have hr:=((qa HA).upd g (fun h=>h)).row (n:=8) rfl
     simp only[List.map_cons,List.map_nil] at hr
     unfold zg;simp only[putL];go_simp
     exact⟨qbc.all _ _,g,rfl⟩
    ·intro qk w1 _
     unfold zg;simp only[putL];go_simp
     first | exact⟨rfl,rfl⟩ | rfl
    ·rintro qk w1 ⟨f,-⟩
     replace f:qk 1 = .string t:=f
     unfold zg;simp only[putL];go_simp
     first | exact⟨rfl,rfl⟩ | rfl
    ·rintro qk w1 g ⟨f,p1,-⟩
     replace f:qk 0 = .agg #[.int .u32 D,.int .u32 E,.int .u32 F,.int .u32 H,.int .u32 I,.int .u32 J,.int .u32 K,.int .u32 L]:=f
     replace p1:qk 2 = .string (t.extract 0 64):=p1
     unfold zg;simp only[putL];go_simp
     refine(qa HC w1 g).mono ?_
     rintro e w2 ⟨rfl,n2⟩
     exact⟨_,rfl,qbc.all _ _,Upd.trans g n2,rfl⟩
    ·rintro qk w1 ⟨f,-⟩
     replace f:qk 3 = .tuple #[.agg #[.int .u32 j,.int .u32 l,.int .u32 m,.int .u32 o,.int .u32 v,.int .u32 x,.int .u32 y,.int .u32 z],.bool true]:=f
     unfold zg;simp only[putL];go_simp
     first | exact⟨rfl,rfl⟩ | rfl
    ·rintro qk w1 ⟨f,-⟩
     replace f:qk 4 = .tuple #[.agg #[.int .u32 j,.int .u32 l,.int .u32 m,.int .u32 o,.int .u32 v,.int .u32 x,.int .u32 y,.int .u32 z],.bool true]:=f
     unfold zg;simp only[putL];go_simp
     first | exact⟨rfl,rfl⟩ | rfl
    ·rintro qk w1 ⟨f,-⟩
     replace f:qk 4 = .tuple #[.agg #[.int .u32 j,.int .u32 l,.int .u32 m,.int .u32 o,.int .u32 v,.int .u32 x,.int .u32 y,.int .u32 z],.bool true]:=f
     unfold zg;simp only[putL];go_simp
     first | exact⟨rfl,rfl⟩ | rfl
    ·rintro qk w1 g ⟨f,-⟩
     replace g:qx U w1:=g
     replace f:qk 5 = .agg #[.int .u32 j,.int .u32 l,.int .u32 m,.int .u32 o,.int .u32 v,.int .u32 x,.int .u32 y,.int .u32 z]:=f
     have hI:=(qa HA).upd g (fun h=>h)
     have Y:=hI.stOk (r:=[j,l,m,o,v,x,y,z]) (n:=8) rfl rfl
     have V:=hI.setAll (r:=[j,l,m,o,v,x,y,z]) rfl
     simp only[List.map_cons,List.map_nil] at Y V
     have b5:=qb V
     have R:=((g.mono (T:=fun k=>k=A) (fun _ _ h=>h.elim)).then ((Upd.refl (· = A) w1).setCells 0 [.int .u32 j,.int .u32 l,.int .u32 m,.int .u32 o,.int .u32 v,.int .u32 x,.int .u32 y,.int .u32 z]) (fun _ _ h=>h))
     have b6:=qb R
     clear V R hI
     unfold zg;simp only[putL];go_simp
     first | exact⟨qbc.all _ _,⟨qa b6,qa b5⟩,rfl⟩ | (trace_state;sorry)
   ·intro qk w1 g P
    have v0:=P 0 (by decide)
    have v1:=P 1 (by decide)
    have v2:=P 2 (by decide)
    have v3:=P 3 (by decide)
    have v4:=P 4 (by decide)
    have v5:=P 5 (by decide)
    have v6:=P 6 (by decide)
    clear P
    replace g:Upd (fun k=>k=A) U w1∧qa2 .u32 w1 A [j,l,m,o,v,x,y,z]:=g
    obtain⟨R,hI⟩:=g
    have us:=Z.trans R
    simp only[putL,v0,v1,v2,v3,v4,v5,v6]
    clear HC HA R Z v0 v1 v2 v3 v4 v5 v6
    obtain⟨wz,rfl⟩:∃wz:World,wz=w1:=⟨_,rfl⟩
    have HI:=qb hI
    clear hI
    go_simp
    go_wp2
    go_roundw
    case rel=>exact⟨t.extract 64 t.size,[j,l,m,o,v,x,y,z],rfl,by rw[ByteArray.size_extract];omega,rfl,b8,HN,qa HI,us⟩
    case measure=>simp[zbu];omega
  ·have b9:t.size<64:=by omega
   have hz:t.size / 64=0:=by omega
   have M:=qa HE
   rw[hz] at M
   replace M:=qb (show qjl (s.size / 64) O s=[D,E,F,H,I,J,K,L] from M.symm)
   clear HE hz
   have t1:(t.size:Int)<64:=by omega
   have t2:¬(64:Int)≤(t.size:Int):=by omega
   have a4:=vR.upd Z (by omega)
   have nn:=nA.then Z (by intro q hq h;rw[qa a5] at hq;omega)
   subst a8
   clear vR Z N X TA a9 vA
   have hr:=hA.row (n:=8) rfl
   have Y:=a4.stOk (r:=[D,E,F,H,I,J,K,L]) (n:=8) rfl rfl
   have hR:=a4.setAll (r:=[D,E,F,H,I,J,K,L]) rfl
   simp only[List.map_cons,List.map_nil] at hr Y hR
   have HR:=qb hR
   have R:=nn.then ((Upd.refl (· = A+1) U).setCells 0 [.int .u32 D,.int .u32 E,.int .u32 F,.int .u32 H,.int .u32 I,.int .u32 J,.int .u32 K,.int .u32 L]) (by intro q hq h;rw[qa a5] at hq;omega)
   have HU:=qb R
   clear hA a4 nn hR R
   go_wp2
   obtain⟨TF,hF⟩:=qa HR
   refine bodyPost_ret (results_cell_row rfl _ _ (A+1) TF _ _ _ rfl hF Tryz.underlying180 rfl (by exact Tryz.infoW8)) rfl ?_
   refine⟨?_,qa HU⟩
   rw[qa M]
end Go.Proofs.YtjpmomdechibmaaGreatDoor
namespace Go.Proofs.YtjpmomdechibmaaGreatDoor
open Go.RowKit
theorem Tryz.infoU8:(Tryz.prog.info? 5).map (fun i=>(i.zero,i.size,i.bytes))=some (some (.int .u8 0),1,1):=by kernel_rfl
def qbs(w:World)(base:Nat)(v:Value)(xs:List Int):Prop:=w.ownsRow base 5 1 v xs.length (xs.map (Value.int .u8))
theorem qbs.shape{w:World}{base:Nat}{v:Value}{xs:List Int}(h:qbs w base v xs):∃a c,v = .slice a xs.length c:=by
 rcases h.2 with ⟨rfl,e⟩ | ⟨g,cap,f,rfl,_⟩
 ·exact⟨none,0,by rw[e]⟩
 ·exact⟨_,_,rfl⟩
theorem qbs.ge{w:World}{base:Nat}{v:Value}{xs:List Int}(h:qbs w base v xs){k:Nat}(f:v.ownBlock=some k):base≤k∧k<w.heap.size:=by
 rcases h.2 with ⟨rfl,_⟩ | ⟨g,cap,i,rfl,j,l,_⟩
 ·simp[Value.ownBlock] at f
 ·simp[Value.ownBlock] at f;subst f;exact⟨j,zq l⟩
theorem qbs.upd{S:Nat→Prop}{w w':World}{base:Nat}{v:Value}{xs:List Int}(h:qbs w base v xs)(u:Upd S w w')(l:∀k,v.ownBlock=some k→¬S k):qbs w' base v xs:=by
 refine⟨h.1,?_⟩
 rcases h.2 with h | ⟨g,cap,f,i,j,m,r⟩
 ·exact .inl h
 ·exact .inr ⟨g,cap,f,i,j,u.old m (l g (by rw[i];rfl)),r⟩
theorem qbs.new{w w':World}{base:Nat}{v:Value}{xs:List Int}(h:qbs w base v xs)(u:qx w w'):qbs w' base v xs:=h.upd u (fun _ _ h=>h)
theorem qbs.nil(w:World)(base:Nat):qbs w base (.slice none 0 0) []:=⟨rfl,.inl ⟨rfl,rfl⟩⟩
theorem qbs.made(w:World)(base:Nat)(xs:List Int)(f:base≤w.heap.size)(g:xs.length≤1073741824):qbs (w.alloc (.cells (xs.map (Value.int .u8)).toArray 5)) base (.slice (some ⟨w.heap.size,0,none⟩) xs.length xs.length) xs:=by
 refine⟨by simp,.inr ⟨w.heap.size,xs.length,_,rfl,f,qi _ _,Nat.le_refl _,by unfold maxLen;omega,by simp,?_⟩⟩
 simp
 exact List.take_of_length_le (by simp)
theorem qjt{l:Array Oper}{rest:List Oper}{o:Oper}{a:Act}{Q:Exit→Act→World→Prop}(q:o.guard=none)(s x:Operand)
  (I:o.op = .call {callee:= .builtin .append,args:=#[s,x],argTypes:=#[111,111]})
  (base:Nat) (v:Value) (xs:List Int) (J:a.eval s=v) (c:Int) (T:TypeId) (w:World) (L:a.eval x = .slice (some ⟨w.heap.size,0,none⟩) 1 1) (g:qbs w base v xs) (N:xs.length≤1073741824) (M:base≤w.heap.size)
  (h:∀m w',qbs w' base m (xs++[c])→Upd (fun k=>v.ownBlock=some k) w w'→wpList Tryz.prog l Q rest (a.put o.dst m) w') :
  wpList Tryz.prog l Q (o::rest) a (w.alloc (.cells #[.int .u8 c] T)):=by
 obtain⟨i,F,y,z,C⟩:=info_parts Tryz.infoU8
 have D:(w.alloc (.cells #[.int .u8 c] T)).ownsRow base 5 1 v xs.length (xs.map (Value.int .u8)):=g.new ((Upd.refl _ _).alloc _)
 refine wpList_append_own _ q s x 111 I base 5 i (.int .u8 0) 1 1 Tryz.underlying111 F y z C rfl (by decide) v xs.length _ J D ⟨w.heap.size,0,none⟩ 1 1 [.int .u8 c] L rfl ?_ ?_ (by unfold maxLen;omega) (by omega) (by simp;omega) ?_
 ·intro j u H
  have f:(⟨w.heap.size,0,none⟩:Addr).add j=⟨w.heap.size,j,none⟩:=by unfold Addr.add;split<;>simp_all
  rw[f,qg (qi _ _)]
  simpa using H
 ·intro u K
  obtain rfl:=List.mem_singleton.1 K
  rfl
 ·intro m w' t E _
  refine h m w' ?_ ((((Upd.refl _ w).alloc _)).grown E (fun k e _=>e))
  unfold qbs
  rw[List.length_append,List.map_append]
  exact t
theorem qkc{w:World}{base:Nat}{v:Value}{xs:List Int}(h:qbs w base v xs):(convert 111 9 v).run Tryz.prog w = .ok (.string (strOfNums xs)) w:=by
 rcases h.2 with ⟨rfl,e⟩ | ⟨g,cap,f,rfl,q,o,t,x,y,l⟩
 ·rw[List.eq_nil_of_length_eq_zero e]
  exact run_convert_bytes_nil w 111 5 Tryz.underlying111 Tryz.underlying5 0 0 9 Tryz.underlying9
 ·refine run_convert_bytes_arg w 111 5 Tryz.underlying111 Tryz.underlying5 g 0 xs.length cap xs rfl (fun i j=> ?_) 9 Tryz.underlying9
  have m:f.toList[i]? = (xs.map (Value.int .u8))[i]? := by rw[←l,List.getElem?_take_of_lt (by omega)]
  rw[Nat.zero_add,qg o i,←Array.getElem?_toList,m,List.getElem?_map,List.getElem?_eq_getElem j]
  simp[List.getD,List.getElem?_eq_getElem j]
end Go.Proofs.YtjpmomdechibmaaGreatDoor
