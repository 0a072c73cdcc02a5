/-
  Package digest: bytes (the bytes of eight letters).
-/
import Derived.Test.YtjpmomdechibmaaGreatDoorSha2
import Derived.Test.YtjpmomdechibmaaGreatDoorDag
import Derived.Test.YtjpmomdechibmaaGreatDoorRows
import Derived.Test.YtjpmomdechibmaaGreatDoorMaa
import Derived.OpenShut
set_option linter.unusedVariables false
set_option linter.unusedSimpArgs false
namespace Go.Proofs.YtjpmomdechibmaaGreatDoor
open Go.RowKit
def byI(h:List Int)(i:Nat):Int:=wd h (i / 4) / 2 ^ (24-8*(i%4))%256
def qgv(h:List Int)(n:Nat):List Int:=(List.range n).foldl (fun f i=>f.set i (byI h i)) (List.replicate 32 0)
theorem qi8(h:List Int):qgv h 0=List.replicate 32 0:=by unfold qgv;simp only[List.range_zero,List.foldl_nil]
theorem qi7(h:List Int)(n:Nat):qgv h (n+1)=(qgv h n).set n (byI h n):=by simp[qgv,List.range_succ]
theorem qh7(h:List Int)(n:Nat):(qgv h n).length=32:=by
 induction n with
 | zero=>rw[qi8];simp
 | succ n f=>rw[qi7];simp[f]
theorem Tryz.infoHash:(Tryz.prog.info? 28).map (·.size)=some 32:=by kernel_rfl
set_option maxRecDepth 100000 in
set_option maxHeartbeats 1000000 in
theorem q3s(h:List Int)(w:World)(hh:h.length=8)(hu:qfh h) :
  Calls Tryz.prog 108 #[.agg (h.map (Value.int .u32)).toArray] w fun e w'=>e = .returned (.agg ((qgv h 32).map (Value.int .u8)).toArray)∧qy w w':=by
 obtain⟨o,t,x,y,z,C,D,E,rfl⟩:=qb4 hh
 simp only[List.map_cons,List.map_nil]
 go_enter Tryz.func108,Tryz.ntmps108
 go_upto_region 2 with fail
 obtain⟨m,g⟩:∃m:World,m=((w.alloc (.cells #[.int .u32 o,.int .u32 t,.int .u32 x,.int .u32 y,.int .u32 z,.int .u32 C,.int .u32 D,.int .u32 E] 180)).alloc (.cells #[.int .u8 0,.int .u8 0,.int .u8 0,.int .u8 0,.int .u8 0,.int .u8 0,.int .u8 0,.int .u8 0,.int .u8 0,.int .u8 0,.int .u8 0,.int .u8 0,.int .u8 0,.int .u8 0,.int .u8 0,.int .u8 0,.int .u8 0,.int .u8 0,.int .u8 0,.int .u8 0,.int .u8 0,.int .u8 0,.int .u8 0,.int .u8 0,.int .u8 0,.int .u8 0,.int .u8 0,.int .u8 0,.int .u8 0,.int .u8 0,.int .u8 0,.int .u8 0] 28)).alloc (.cells #[.int .u8 0,.int .u8 0,.int .u8 0,.int .u8 0,.int .u8 0,.int .u8 0,.int .u8 0,.int .u8 0,.int .u8 0,.int .u8 0,.int .u8 0,.int .u8 0,.int .u8 0,.int .u8 0,.int .u8 0,.int .u8 0,.int .u8 0,.int .u8 0,.int .u8 0,.int .u8 0,.int .u8 0,.int .u8 0,.int .u8 0,.int .u8 0,.int .u8 0,.int .u8 0,.int .u8 0,.int .u8 0,.int .u8 0,.int .u8 0,.int .u8 0,.int .u8 0] 28):=⟨_,rfl⟩
 have sA:m.heap.size=w.heap.size+3:=by rw[g];simp
 have nA:qy w m:=by rw[g];exact(((Upd.refl _ _).alloc _).alloc _).alloc _
 have X:qba .u32 m w.heap.size [o,t,x,y,z,C,D,E]:=by rw[g];exact⟨_,zl (zl (qi _ _) _) _⟩
 have vB:qba .u8 m (w.heap.size+1+1) (List.replicate 32 0):=by
  rw[g]
  have:=qi ((w.alloc (.cells #[.int .u32 o,.int .u32 t,.int .u32 x,.int .u32 y,.int .u32 z,.int .u32 C,.int .u32 D,.int .u32 E] 180)).alloc (.cells #[.int .u8 0,.int .u8 0,.int .u8 0,.int .u8 0,.int .u8 0,.int .u8 0,.int .u8 0,.int .u8 0,.int .u8 0,.int .u8 0,.int .u8 0,.int .u8 0,.int .u8 0,.int .u8 0,.int .u8 0,.int .u8 0,.int .u8 0,.int .u8 0,.int .u8 0,.int .u8 0,.int .u8 0,.int .u8 0,.int .u8 0,.int .u8 0,.int .u8 0,.int .u8 0,.int .u8 0,.int .u8 0,.int .u8 0,.int .u8 0,.int .u8 0,.int .u8 0] 28)) (.cells #[.int .u8 0,.int .u8 0,.int .u8 0,.int .u8 0,.int .u8 0,.int .u8 0,.int .u8 0,.int .u8 0,.int .u8 0,.int .u8 0,.int .u8 0,.int .u8 0,.int .u8 0,.int .u8 0,.int .u8 0,.int .u8 0,.int .u8 0,.int .u8 0,.int .u8 0,.int .u8 0,.int .u8 0,.int .u8 0,.int .u8 0,.int .u8 0,.int .u8 0,.int .u8 0,.int .u8 0,.int .u8 0,.int .u8 0,.int .u8 0,.int .u8 0,.int .u8 0] 28)
  rw[World.size_alloc,World.size_alloc] at this
  exact⟨_,this⟩
 have vR:qba .u8 m (w.heap.size+1) (List.replicate 32 0):=by
  rw[g]
  have:=qi (w.alloc (.cells #[.int .u32 o,.int .u32 t,.int .u32 x,.int .u32 y,.int .u32 z,.int .u32 C,.int .u32 D,.int .u32 E] 180)) (.cells #[.int .u8 0,.int .u8 0,.int .u8 0,.int .u8 0,.int .u8 0,.int .u8 0,.int .u8 0,.int .u8 0,.int .u8 0,.int .u8 0,.int .u8 0,.int .u8 0,.int .u8 0,.int .u8 0,.int .u8 0,.int .u8 0,.int .u8 0,.int .u8 0,.int .u8 0,.int .u8 0,.int .u8 0,.int .u8 0,.int .u8 0,.int .u8 0,.int .u8 0,.int .u8 0,.int .u8 0,.int .u8 0,.int .u8 0,.int .u8 0,.int .u8 0,.int .u8 0] 28)
  rw[World.size_alloc] at this
  exact⟨_,zl this _⟩
 rw[←g]
 clear g
 generalize J:w.heap.size=A at *
 have I:=qb J
 clear J
 obtain⟨Z,rfl⟩:∃Z:World,Z=m:=⟨_,rfl⟩
 have M:qfh [o,t,x,y,z,C,D,E]:=hu
 generalize L:[o,t,x,y,z,C,D,E]=H at X M
 have b3:H.length=8:=by rw[←L];rfl
 go_wp2_with fail
 go_loopw [4,5] (fun _ W wr=>∃i:Nat,W = .int .i64 (i:Int)∧i≤32∧qba .u8 wr (A+1+1) (qgv H i)∧Upd (fun k=>k=A+1+1) Z wr) (fun _ W _=>32-(intOf W).toNat)
 case atStart=>exact⟨0,rfl,by omega,by rw[qi8];exact vB,Upd.refl _ _⟩
 case round =>
  obtain⟨i,rfl,hi,l,N⟩:=hrel
  by_cases b4:i<32
  ·have c0:wr.cell? ⟨A,i / 4,none⟩=some (.int .u32 (wd H (i / 4))):=(X.upd N (by omega)).cell (by omega)
   obtain⟨a0,a4⟩:=M.at (i / 4)
   obtain⟨v1,c1⟩:∃v,wr.cell? ⟨A+1+1,i,none⟩=some v:=⟨_,l.cell (by rw[qh7];omega)⟩
   have z1:=l.free i
   have a5:(i:Int)<32:=by omega
   have a6:IntKind.i64.wrap ((i:Int) / 4)=(i:Int) / 4:=IntWalk.i64_in _ (by omega)
   have a7:((i:Int) / 4).toNat=i / 4:=by omega
   have a8:(0:Int)≤(i:Int) / 4:=by omega
   have a9:(i:Int) / 4<8:=by omega
   have F:=l.set i (byI H i)
   rw[←qi7] at F
   have R:=qb F
   clear F
   go_wp2
   have us:=N.set1 i (.int .u8 (byI H i))
   go_roundw
   case rel=>exact⟨i+1,by go_num,by omega,qa R,us⟩
   case measure=>simp[intOf];omega
  ·obtain rfl:i=32:=by omega
   rw[show ((32:Nat):Int)=32 from rfl]
   have Y:=vR.upd N (by omega)
   have nn:=nA.then N (by intro q V h;rw[qa I] at V;omega)
   have f:=qh7 H 32
   subst L
   generalize K:qgv [o,t,x,y,z,C,D,E] 32=O at l f
   have P:=qb K
   clear K X vB vR N
   obtain⟨TB,l⟩:=l
   obtain⟨T,U⟩:=Y
   go_upto_region 7 with fail
   refine wp_region_lit ?_
   refine wpList_load_row rfl _ _ rfl (A+1+1) rfl TB _ _ _ l Tryz.underlying28 rfl (by rw[List.size_toArray,List.length_map,f];exact Tryz.infoHash) ?_
   refine wpList_store_row rfl _ _ _ rfl (A+1) (O.map (Value.int .u8)).toArray rfl rfl T _ U (by rw[List.size_toArray,List.length_map,f];exact Tryz.infoHash) (by simp[f]) (by simp[Value.oneCell']) ?_
   have hF:=setRow_heap wr (A+1) _ (O.map (Value.int .u8)).toArray T (0,0) U
   have uF:Upd (fun k=>k=A+1) wr (wr.setRow (A+1) (O.map (Value.int .u8)).toArray):=⟨rfl,rfl,rfl,by simp,fun i _ hn=>setRow_other _ _ _ _ hn⟩
   have nE:=nn.then uF (by intro q V h;rw[qa I] at V;omega)
   generalize wr.setRow (A+1) (O.map (Value.int .u8)).toArray=wF at hF nE ⊢
   clear uF nn l U
   go_wp2_with fail
   refine bodyPost_ret (results_cell_row rfl _ _ (A+1) T _ _ _ rfl hF Tryz.underlying28 rfl (by rw[List.size_toArray,List.length_map,f];exact Tryz.infoHash)) rfl ?_
   exact⟨by rw[qa P],nE⟩
def qbl(_ _:World):Prop:=True
theorem qbl.all(w w':World):qbl w w':=trivial
def isV(xs:List Value)(i:Nat)(v:Value)(_:World):Prop:=v=xs.getD i undef
def QS(f:World)(_:Nat)(w:World):Prop:=Q f w
section
variable {P:Program}{l:List Oper}{A:List (List Nat)}{L:List (List (Nat × Nat))}{n:Nat}
def qf4(st:List Nat)(f:Array Bool):Nat:=st.countP fun s=>f.getD s false
def stB(l:List Oper)(st:List Nat):Bool:=decide st.Nodup&&st.all fun s=>decide (s<l.length)
def qm9(A:List (List Nat))(st:List Nat)(i:Nat):List (Nat × Nat) :=
 (List.range (st.countP (fun s=>s != i && !(A.getD s []).contains i)+1)).filterMap fun k =>
  if st.countP (fun s=>(A.getD i []).contains s)≤k then some (k,k+if st.contains i then 1 else 0) else none
theorem q6a{st:List Nat}{i:Nat}{f:Array Bool}(w:stB l st=true)(o:f.getD i false=false)(q:∀k∈A.getD i [],f.getD k false=true)(t:∀s,s∈st→i∈A.getD s []→f.getD s false=false) :
  (qf4 st f,qf4 st f+if st.contains i then 1 else 0)∈qm9 A st i:=by
 unfold qm9
 rw[List.mem_filterMap]
 refine⟨qf4 st f,List.mem_range.2 ?_,?_⟩
 ·refine Nat.lt_succ_of_le (List.countP_mono_left fun s m g=> ?_)
  simp only[Bool.and_eq_true,bne_iff_ne,ne_eq,Bool.not_eq_true']
  refine⟨?_,?_⟩
  ·rintro rfl
   rw[o] at g
   cases g
  ·cases v:(A.getD s []).contains i with
   | false=>rfl
   | true =>
    have:=t s m (List.contains_iff_mem.1 v)
    rw[this] at g
    cases g
 ·rw[if_pos]
  exact List.countP_mono_left fun s _ m=>q s (List.contains_iff_mem.1 m)
theorem q5f{st:List Nat}{f:Array Bool}(g:stB l st=true)(all:∀i,i<l.length→f.getD i false=true):qf4 st f=st.length:=by
 unfold stB at g
 simp only[Bool.and_eq_true,List.all_eq_true,decide_eq_true_eq] at g
 exact List.countP_eq_length.2 fun s m=>all s (g.2 s m)
theorem q5g{st:List Nat}{f:Array Bool}{i:Nat}(g:stB l st=true)(y:i<f.size)(q:f.getD i false=false):qf4 st (f.setIfInBounds i true)=qf4 st f+if st.contains i then 1 else 0:=by
 unfold stB at g
 simp only[Bool.and_eq_true,decide_eq_true_eq] at g
 have v:=g.1
 clear g
 unfold qf4
 induction st with
 | nil=>rfl
 | cons s st t =>
  have t:=t v.tail
  rw[List.countP_cons,List.countP_cons,t]
  by_cases h:s=i
  ·subst h
   have o:st.contains s=false:=by
    cases x:st.contains s with
    | false=>rfl
    | true=>exact absurd (List.contains_iff_mem.1 x) (List.nodup_cons.1 v).1
   have m:(f.setIfInBounds s true).getD s false=true:=qf2 y
   rw[m,q,o]
   simp
  ·have m:(f.setIfInBounds i true).getD s false=f.getD s false:=getD_set_ne false (fun e=>h e.symm)
   rw[m]
   have w:(s::st).contains i=st.contains i:=by
    rw[List.contains_cons]
    have:(i==s)=false:=by simpa using fun e=>h e.symm
    rw[this,Bool.false_or]
   rw[w]
   omega
def qv5(P:Program)(a0:Act)(S:Nat→World→Prop)(R:World→World→Prop)(Φ:Nat→Value→World→Prop)(i:Nat)(o:Oper)(Li:List (Nat × Nat))(Ti:List (Nat × Nat)):Prop :=
 ∀t∈Ti,∀(ql:Nat→Value) (w:World),S t.1 w→(∀p∈Li,Φ p.1 (ql p.1) w) →
  match o.guard with
  | none=>zk P o (putL a0 ql Li).eval w fun v w'=>R w w'∧S t.2 w'∧Φ i v w'
  | some (g,b)=>Φ g (ql g) w→(ql g = .bool b→zk P o (putL a0 ql Li).eval w fun v w'=>R w w'∧S t.2 w'∧Φ i v w')∧(ql g ≠ .bool b→S t.2 w∧Φ i undef w)
def qbm(P:Program)(a0:Act)(S:Nat→World→Prop)(R:World→World→Prop)(Φ:Nat→Value→World→Prop):Nat→List Oper→List (List (Nat × Nat))→List (List (Nat × Nat))→Prop
 | _,[],_,_=>True
 | i,o::os,L,T=>qv5 P a0 S R Φ i o (L.headD []) (T.headD [])∧qbm P a0 S R Φ (i+1) os L.tail T.tail
theorem qbm.nil{a0:Act}{S:Nat→World→Prop}{R:World→World→Prop}{Φ:Nat→Value→World→Prop}{i:Nat}{L T:List (List (Nat × Nat))} : qbm P a0 S R Φ i [] L T:=trivial
theorem qbm.at{a0:Act}{S:Nat→World→Prop}{R:World→World→Prop}{Φ:Nat→Value→World→Prop} : ∀ {os:List Oper} {L T:List (List (Nat × Nat))} {k:Nat},qbm P a0 S R Φ k os L T→∀(i:Nat) o,os[i]? = some o→qv5 P a0 S R Φ (k+i) o (L.getD i []) (T.getD i [])
 | [],_,_,_,_,_,_,h=>by simp at h
 | o::os,L,T,k,h,0,g,f=>by
  simp only[List.getElem?_cons_zero,Option.some.injEq] at f
  subst f
  have:=h.1
  cases L<;>cases T<;>exact this
 | o::os,L,T,k,h,i+1,g,f=>by
  have:=qbm.at h.2 i g (by simpa using f)
  rw[show k+(i+1)=k+1+i by omega]
  cases L<;>cases T<;>exact this
theorem qlz{o:Oper}{ρ:Operand→Value}{w:World}{K f:Value→World→Prop}(h:zk P o ρ w K)(k:∀v w',K v w'→f v w'):zk P o ρ w f:=by
 unfold zk at h ⊢
 generalize (execOp ρ o).run P w=r at h ⊢
 cases r with
 | ok n w' =>
  cases n<;>simp only at h ⊢
  ·exact k _ _ h
  ·exact k _ _ h
  ·refine h.mono fun e q g=> ?_
   obtain⟨v,m,i⟩:=g
   exact⟨v,m,k _ _ i⟩
 | halt x w'=>simp only at h
theorem qbm.one{a0:Act}{S:Nat→World→Prop}{R:World→World→Prop}{Φ:Nat→Value→World→Prop}{i:Nat}{o:Oper}{os:List Oper}{Li:List (Nat × Nat)}{L T:List (List (Nat × Nat))}{k f:Nat}(m:o.guard=none)
  (h:∀(ql:Nat→Value) (w:World),S k w→q3g Φ ql w Li→zk P o (putL a0 ql Li).eval w fun v w'=>R w w'∧S f w'∧Φ i v w')
  (r:qbm P a0 S R Φ (i+1) os L T):qbm P a0 S R Φ i (o::os) (Li::L) ([(k,f)]::T) :=
 ⟨fun t x ql w g q=>by
  obtain rfl:=List.mem_singleton.1 x
  rw[m]
  exact h ql w g (qmx q),r⟩
theorem qbm.any{a0:Act}{S:Nat→World→Prop}{R:World→World→Prop}{Φ:Nat→Value→World→Prop}{i:Nat}{o:Oper}{os:List Oper}{Li Ti:List (Nat × Nat)}{L T:List (List (Nat × Nat))}(g:o.guard=none)
  (h:∀t∈Ti,∀(ql:Nat→Value) (w:World),S t.1 w→q3g Φ ql w Li→zk P o (putL a0 ql Li).eval w fun v w'=>R w w'∧S t.2 w'∧Φ i v w')
  (r:qbm P a0 S R Φ (i+1) os L T):qbm P a0 S R Φ i (o::os) (Li::L) (Ti::T) :=
 ⟨fun t q ql w f m=>by
  rw[g]
  exact h t q ql w f (qmx m),r⟩
theorem qbm.pure{a0:Act}{S:Nat→World→Prop}{R:World→World→Prop}{Φ:Nat→Value→World→Prop}{i:Nat}{o:Oper}{os:List Oper}{Li Ti:List (Nat × Nat)}{L T:List (List (Nat × Nat))}(x:o.guard=none)(f:∀w,R w w)(m:(Ti.all fun t=>t.1==t.2)=true)
  (h:∀(ql:Nat→Value) (w:World),q3g Φ ql w Li→zk P o (putL a0 ql Li).eval w fun v w'=>w'=w∧Φ i v w)
  (r:qbm P a0 S R Φ (i+1) os L T):qbm P a0 S R Φ i (o::os) (Li::L) (Ti::T) :=
 ⟨fun t z ql w g y=>by
  rw[x]
  have e:t.1=t.2:=by simpa using List.all_eq_true.1 m t z
  rw[e] at g
  exact qlz (h ql w (qmx y)) fun v w' q=>by
   obtain⟨rfl,C⟩:=q
   exact⟨f _,g,C⟩,r⟩
structure DagInvP(l:List Oper)(A:List (List Nat))(st:List Nat)(a0:Act)(S:Nat→World→Prop)(Φ:Nat→Value→World→Prop)(listed:Array Bool)(a:Act)(w:World)(ql:Nat→Value):Prop where
 size:listed.size=l.length
 s:S (qf4 st listed) w
 phi:∀i,listed.getD i false=true→Φ i (ql i) w
 shut:∀i,listed.getD i false=true→∀k∈A.getD i [],listed.getD k false=true
 defers:a.defers=a0.defers
 tmps:a.tmps.size=a0.tmps.size
 other:∀t,(∀i,listed.getD i false=true→qbh l i≠some t)→a.tmps[t]? = a0.tmps[t]?
 at_:∀i t,listed.getD i false=true→qbh l i=some t→a.tmps[t]? = some (ql i)
theorem q7e(D:Dag l A L n){st:List Nat}(a5:stB l st=true){TS:List (List (Nat × Nat))}(c0:(List.range l.length).map (qm9 A st)=TS){a0:Act}(hn:a0.tmps.size=n){S:Nat→World→Prop}{R:World→World→Prop}{Φ:Nat→Value→World→Prop}{Q:Exit→Act→World→Prop}
  (b8:∀w,R w w) (Z:∀i v w w' k k',S k w→S k' w'→R w w'→Φ i v w→Φ i v w') (a7:qbm P a0 S R Φ 0 l L TS)
  (b9:∀ql w,S st.length w→(∀i,i<l.length→Φ i (ql i) w)→Q .normal (putL a0 ql (qa3 l)) w) :
  ∀(C:Nat) (f:Array Bool) (a:Act) (w:World) (ql:Nat→Value),DagInvP l A st a0 S Φ f a w ql→(List.range l.length).countP (fun i=> !f.getD i false)≤C→wpAny P .any l.toArray Q C f a w:=by
 have X:∀(f:Array Bool) (a:Act) (w:World) (ql:Nat→Value),DagInvP l A st a0 S Φ f a w ql→Region.ready .any l.toArray f=[]→Q .normal a w:=by
  intro f a w ql I hr
  have all:∀(i:Nat),i<l.length→f.getD i false=true:=by
   intro i
   induction i using Nat.strongRecOn with
   | _ i ih =>
    intro M
    cases hl:f.getD i false with
    | true=>rfl
    | false =>
     exfalso
     have:i∈Region.ready .any l.toArray f:=by
      rw[mem_ready]
      have ho:l[i]? = some l[i]:=List.getElem?_eq_getElem M
      refine⟨?_,l[i],by simp[M],fun e he hb=> ?_⟩
      ·rw[Array.getD_eq_getD_getElem?] at hl ⊢
       have:i<f.size:=by rw[I.size];exact M
       rw[Array.getElem?_eq_getElem this] at hl ⊢
       simpa using hl
      ·have O:=(D.edge i _ ho e he hb).1
       have h2:=(D.anc i _ ho _ O).1
       exact ih _ h2 (by omega)
     rw[hr] at this
     cases this
  have ha:a=putL a0 ql (qa3 l):=by
   refine qzh (by rw[qhm];exact I.defers) fun t=> ?_
   by_cases h:∃i,qbh l i=some t
   ·obtain⟨i,M⟩:=h
    have E:=(qlg M).1
    rw[I.at_ i t (all i E) M]
    have hm:(i,t)∈qa3 l:=by
     unfold qa3
     rw[List.mem_filterMap]
     exact⟨i,List.mem_range.2 E,by rw[M];rfl⟩
    refine(qjo ql (qa3 l) a0 (i,t) hm (fun q hq e=> ?_) (by rw[hn];exact(D.slot i t M).1)).symm
    unfold qa3 at hq
    rw[List.mem_filterMap] at hq
    obtain⟨j,_,y⟩:=hq
    rw[Option.map_eq_some_iff] at y
    obtain⟨t',a6,rfl⟩:=y
    simp only at e
    subst e
    exact(D.slot i _ M).2 j a6
   ·rw[I.other t fun i _ N=>h ⟨i,N⟩,qef]
    intro p hp e
    unfold qa3 at hp
    rw[List.mem_filterMap] at hp
    obtain⟨j,_,y⟩:=hp
    rw[Option.map_eq_some_iff] at y
    obtain⟨t',a6,rfl⟩:=y
    exact h ⟨j,by rw[a6,←e]⟩
  rw[ha]
  exact b9 ql w (by have:=I.s;rwa [q5f a5 all] at this) fun i M=>I.phi i (all i M)
 intro C
 induction C with
 | zero =>
  intro f a w ql I hc
  have hr:Region.ready .any l.toArray f=[]:=by
   rw[List.eq_nil_iff_forall_not_mem]
   intro i M
   obtain⟨h0,o,ho,_⟩:=mem_ready.1 M
   have E:i<l.length:=by simpa using (Array.getElem?_eq_some_iff.1 ho).1
   have:(List.range l.length).countP (fun i=> !f.getD i false)=0:=by omega
   rw[List.countP_eq_zero] at this
   have:=this i (List.mem_range.2 E)
   rw[Array.getD_eq_getD_getElem?] at h0 this
   have N:i<f.size:=by rw[I.size];exact E
   rw[Array.getElem?_eq_getElem N] at h0 this
   simp at h0 this
   rw[h0] at this
   cases this
  exact⟨hr,X f a w ql I hr⟩
 | succ C ih =>
  intro f a w ql I hc
  refine⟨fun hr=>X f a w ql I hr,fun i M=> ?_⟩
  obtain⟨h0,o,ho,a9⟩:=mem_ready.1 M
  have E:i<l.length:=by simpa using (Array.getElem?_eq_some_iff.1 ho).1
  have N:i<f.size:=by rw[I.size];exact E
  have H:l[i]? = some o:=by simpa using ho
  have T:f.getD i false=false:=by
   rw[Array.getD_eq_getD_getElem?] at h0 ⊢
   rw[Array.getElem?_eq_getElem N] at h0 ⊢
   simpa using h0
  have K:∀k∈A.getD i [],f.getD k false=true:=by
   intro k hk
   obtain⟨_,e,he,hb,h⟩:=D.anc i o H k hk
   have O:=a9 e he hb
   rcases h with rfl | h
   ·exact O
   ·exact I.shut _ O k h
  have a4:∀t∈o.looksAt l.toArray,a.tmps[t]? = (putL a0 ql (L.getD i [])).tmps[t]? := by
   intro t ht
   by_cases h:∃j,f.getD j false=true∧qbh l j=some t
   ·obtain⟨j,y,z⟩:=h
    rcases D.look i o H t ht j z with O | ⟨O,h2⟩
    ·have:=I.shut j y i O
     rw[T] at this
     cases this
    ·rw[I.at_ j t y z]
     refine(qjo ql _ a0 (j,t) h2 (fun q hq e=> ?_) (by rw[hn];exact(D.slot j t z).1)).symm
     have:=(D.lis i o H q hq).2
     rw[e] at this
     exact(D.slot j t z).2 _ this
   ·rw[I.other t fun j y N=>h ⟨j,y,N⟩,qef]
    intro p hp e
    obtain⟨O,h2⟩:=D.lis i o H p hp
    exact h ⟨p.1,K _ O,by rw[h2,e]⟩
  have U:execOp a.eval o=execOp (putL a0 ql (L.getD i [])).eval o:=by
   refine execOp_congr o (D.sel i o H) fun x hx=> ?_
   cases x with
   | tmp t =>
    have:=a4 t (List.mem_append_left _ (List.mem_filterMap.2 ⟨.tmp t,by simpa using hx,rfl⟩))
    simp only[Act.eval,Array.getD_eq_getD_getElem?,this]
   | _=>rfl
  have W:=a7.at i o H
  rw[Nat.zero_add] at W
  have c1:=q6a (A:=A) (st:=st) a5 T (fun k hk=>K k hk) (fun s N M=>by
   cases hl:f.getD s false with
   | false=>rfl
   | true=>have:=I.shut s hl i M;rw[T] at this;cases this)
  have a8:TS.getD i []=qm9 A st i:=by
   rw[←c0,List.getD_eq_getElem?_getD,List.getElem?_map,List.getElem?_range E]
   rfl
  have J:=W _ (by rw[a8];exact c1) ql w I.s fun p hp=>I.phi _ (K _ (D.lis i o H p hp).1)
  have next:∀v w',R w w'→S (qf4 st f+if st.contains i then 1 else 0) w'→Φ i v w'→wpAny P .any l.toArray Q C (f.setIfInBounds i true) (a.put o.dst v) w':=by
   intro v w' hR hS hΦ
   have Y:qbh l i=o.dst:=by unfold qbh;rw[H];rfl
   refine ih (f.setIfInBounds i true) (a.put o.dst v) w' (fun j=>if j=i then v else ql j) ⟨?_,by rw[q5g a5 N T];exact hS,?_,?_,?_,?_,?_,?_⟩ ?_
   ·rw[Array.size_setIfInBounds];exact I.size
   ·intro j y
    rcases (z7 N).1 y with rfl | F
    ·simpa using hΦ
    ·have V:j≠i:=by rintro rfl;rw[T] at F;cases F
     simp only[if_neg V]
     exact Z j _ w w' _ _ I.s hS hR (I.phi j F)
   ·intro j y k hk
    refine(z7 N).2 ?_
    rcases (z7 N).1 y with rfl | F
    ·exact .inr (K k hk)
    ·exact .inr (I.shut j F k hk)
   ·cases o.dst<;>exact I.defers
   ·cases hd:o.dst with
    | none=>exact I.tmps
    | some d=>simpa [Act.put] using I.tmps
   ·intro t ht
    have O:=I.other t fun j y=>ht j ((z7 N).2 (.inr y))
    have h2:=ht i ((z7 N).2 (.inl rfl))
    rw[Y] at h2
    cases hd:o.dst with
    | none=>exact O
    | some d =>
     have V:d≠t:=by rintro rfl;exact h2 hd
     simpa [Act.put,Array.getElem?_setIfInBounds_ne V] using O
   ·intro j t y z
    rcases (z7 N).1 y with rfl | F
    ·rw[Y] at z
     rw[z,if_pos rfl]
     have:t<a.tmps.size:=by rw[I.tmps,hn];exact(D.slot j t (by rw[Y,z])).1
     simp[Act.put,this]
    ·have V:j≠i:=by rintro rfl;rw[T] at F;cases F
     rw[if_neg V]
     have O:=I.at_ j t F z
     cases hd:o.dst with
     | none=>exact O
     | some d =>
      have b7:d≠t:=by
       rintro rfl
       exact V ((D.slot i d (by rw[Y,hd])).2 j z)
      simpa [Act.put,Array.getElem?_setIfInBounds_ne b7] using O
   ·have O:(List.range l.length).countP (fun j=> !(f.setIfInBounds i true).getD j false)<(List.range l.length).countP (fun j=> !f.getD j false):=by
     have b6:i∈List.range l.length:=List.mem_range.2 E
     obtain⟨s,r,c4⟩:=List.append_of_mem b6
     rw[c4,List.countP_append,List.countP_append,List.countP_cons,List.countP_cons]
     have m:∀xs:List Nat,xs.countP (fun j=> !(f.setIfInBounds i true).getD j false)≤xs.countP (fun j=> !f.getD j false):=by
      intro xs
      refine List.countP_mono_left fun j _ y=> ?_
      cases h:f.getD j false with
      | false=>rfl
      | true=>rw[(z7 N).2 (.inr h)] at y;cases y
     have m1:=m s
     have m2:=m r
     rw[qf2 N,T]
     simp only[Bool.not_true,Bool.not_false,Bool.false_eq_true,if_false,if_true]
     omega
    omega
  unfold wpOp
  rw[ho]
  simp only
  cases hg:o.guard with
  | none =>
   rw[hg] at J
   rw[if_pos (by unfold Region.wanted;rw[hg])]
   exact .inl (qim U J fun v w' h=>next v w' h.1 h.2.1 h.2.2)
  | some gb =>
   obtain⟨g,b⟩:=gb
   rw[hg] at J
   obtain⟨c3,t,b5⟩:=D.guard i o H g b hg
   have b4:=K g c3
   have c2:=I.at_ g t b4 b5
   obtain⟨p1,p2⟩:=J (I.phi g b4)
   have hy:Region.wanted o (yielded l.toArray a.tmps)=true↔ql g = .bool b:=by
    unfold Region.wanted yielded
    rw[hg]
    have e1:(l.toArray[g]?).bind (·.dst)=some t:=by simpa [qbh] using b5
    simp only[e1,Option.bind_some,c2]
    constructor
    ·intro h
     split at h
     ·rename_i b' b3
      simp only[Option.some.injEq] at b3
      simp at h
      rw[b3,h]
     ·simp at h
    ·intro h
     rw[h]
     simp
   by_cases hw:Region.wanted o (yielded l.toArray a.tmps)=true
   ·rw[if_pos hw]
    exact .inl (qim U (p1 (hy.1 hw)) fun v w' h=>next v w' h.1 h.2.1 h.2.2)
   ·rw[if_neg hw]
    obtain⟨q1,q2⟩:=p2 fun h=>hw (hy.2 h)
    exact next undef w (b8 w) q1 q2
theorem qnd{id:Nat}{a:Act}{w:World}{Q:Exit→Act→World→Prop}(H:P.follows .mixedOrders=true)(L:List (List (Nat × Nat)))(n:Nat)(I:a.tmps.size=n)(E:q7c l (que l []) L n=true)(A:List (Nat × Nat))(D:qa3 l=A)
  (st:List Nat) (y:stB l st=true) (z:List (List (Nat × Nat))) (x:(List.range l.length).map (qm9 (que l []) st)=z)
  (S:Nat→World→Prop) (R:World→World→Prop) (Φ:Nat→Value→World→Prop) (F:S 0 w.drew) (o:∀w,R w w) (f:∀i v w w' k J,S k w→S J w'→R w w'→Φ i v w→Φ i v w')
  (m:qbm P a S R Φ 0 l L z) (q:∀ql w,S st.length w→(∀i,i<l.length→Φ i (ql i) w)→Q .normal (putL a ql A) w) :
  (Code.region id l.toArray true).wp P Q a w:=by
 subst D
 refine wp_region_any H ?_
 have C:qf4 st (Array.replicate l.length false)=0:=List.countP_eq_zero.2 fun s _ h=>by rw[qbu] at h;cases h
 refine q7e (qzy E) y x I o f m q _ _ a _ (fun _=>undef) ⟨by simp,by rw[List.size_toArray,C];exact F,?_,?_,rfl,rfl,fun _ _=>rfl,?_⟩ ?_
 ·intro i g;rw[qbu] at g;cases g
 ·intro i g;rw[qbu] at g;cases g
 ·intro i t g;rw[qbu] at g;cases g
 ·refine Nat.le_trans List.countP_le_length ?_
  simp
end
def qj4:Nat→List Int→ByteArray→List Int
 | 0,h,_=>h
 | n+1,h,s=>qj4 n (qmb h (s.extract 0 64)) (s.extract 64 s.size)
def zdo:Value→Nat
 | .string b=>b.size
 | _=>0
theorem q2f(n:Nat):∀(h:List Int) (s:ByteArray),h.length=8∧qfh h→(qj4 n h s).length=8∧qfh (qj4 n h s):=by
 induction n with
 | zero=>intro h s f;exact f
 | succ n g=>intro h s f;exact g _ _ (quv _ _ f)
def zfx(f:World)(A:Nat)(r:List Int):Nat→World→Prop
 | 0,w=>qy f w
 | _,w=>Upd (fun k=>k=A) f w∧qba .u32 w A r
theorem q40{C:Array Value}{f:List Value}(h:C.size=f.length):qkl C 0 f=f.toArray:=by
 refine Array.ext_getElem? fun i=> ?_
 rw[qif C 0 f i (by omega)]
 by_cases m:i<f.length
 ·rw[if_pos (by omega)];simp
 ·have g:C[i]? = none:=Array.getElem?_eq_none (by omega)
  have l:f.toArray[i]? = none:=Array.getElem?_eq_none (by simp;omega)
  rw[if_neg (by omega),g,l]
theorem qba.setAll{k:IntKind}{w:World}{b:Nat}{ws:List Int}(h:qba k w b ws){r:List Int}(f:r.length=ws.length):qba k (w.setCells b 0 (r.map (Value.int k))) b r:=by
 obtain⟨T,h⟩:=h
 refine⟨T,(qa9 h 0 _).trans ?_⟩
 rw[q40 (by simp[f])]
theorem qba.stOk{k:IntKind}{w:World}{b:Nat}{ws:List Int}(h:qba k w b ws){r:List Int}{n:Nat}(g:r.length=ws.length)(f:r.length=n):stOk w b 0 n (r.map (Value.int k)).toArray=true:=by
 obtain⟨T,h⟩:=h
 refine qff h (by simp;omega) (by simp;omega) ?_
 rw[List.all_toArray,List.all_map,List.all_eq_true]
 intro x _
 rfl
def zfo(x:Value):Sem Value:=Instr.loadAt 180 x
theorem qqy(x:Value):Instr.loadAt 180 x=zfo x:=rfl
theorem zc8(b o:Nat)(w:World):(zfo (.pointer (some ⟨b,o,none⟩))).run Tryz.prog w=match zx w b o 8 with | some A=> .ok (.agg A) w | none=>qdw Tryz.prog 180 w b o :=
 zy 180 8 _ Tryz.underlying180 rfl Tryz.infoW8 b o w
def zft(x v:Value):Sem Unit:=Instr.storeAt 180 x v
theorem qrp(x v:Value):Instr.storeAt 180 x v=zft x v:=rfl
theorem zdn(b o:Nat)(A:Array Value)(w:World):(zft (.pointer (some ⟨b,o,none⟩)) (.agg A)).run Tryz.prog w=if stOk w b o 8 A=true then .ok () (w.setCells b o A.toList) else qfx Tryz.prog 180 w b o A :=
 qay 180 8 Tryz.infoW8 b o A w
attribute [local go_sem ↓ high] qqy qrp
attribute [local go_sem] zc8 zdn
set_option maxRecDepth 100000 in
set_option maxHeartbeats 1000000 in
theorem qzo(h:List Int)(s:ByteArray)(w:World)(hh:h.length=8)(hu:qfh h)(hs:s.size≤1073741824)(a7:Tabs w) :
  Calls Tryz.prog 109 #[.agg (h.map (Value.int .u32)).toArray,.string s] w fun e w'=>e = .returned (.agg ((qj4 (s.size / 64) h s).map (Value.int .u32)).toArray)∧qy w w':=by
 have hw:=a7.lt
 obtain⟨h0,h1,h2,h3,h4,h5,h6,h7,rfl⟩:=qb4 hh
 simp only[List.map_cons,List.map_nil]
 go_enter Tryz.func109,Tryz.ntmps109
 go_upto_region 1 with fail
 obtain⟨wA,D⟩:∃wA:World,wA=(w.alloc (.cells #[.int .u32 h0,.int .u32 h1,.int .u32 h2,.int .u32 h3,.int .u32 h4,.int .u32 h5,.int .u32 h6,.int .u32 h7] 180)).alloc (.cells #[.int .u32 0,.int .u32 0,.int .u32 0,.int .u32 0,.int .u32 0,.int .u32 0,.int .u32 0,.int .u32 0] 180):=⟨_,rfl⟩
 have sA:wA.heap.size=w.heap.size+2:=by rw[D];simp
 have nA:qy w wA:=by rw[D];exact((Upd.refl _ _).alloc _).alloc _
 have vA:qba .u32 wA w.heap.size [h0,h1,h2,h3,h4,h5,h6,h7]:=by rw[D];exact⟨_,zl (qi _ _) _⟩
 have vR:qba .u32 wA (w.heap.size+1) [0,0,0,0,0,0,0,0]:=by
  rw[D]
  have:=qi (w.alloc (.cells #[.int .u32 h0,.int .u32 h1,.int .u32 h2,.int .u32 h3,.int .u32 h4,.int .u32 h5,.int .u32 h6,.int .u32 h7] 180)) (.cells #[.int .u32 0,.int .u32 0,.int .u32 0,.int .u32 0,.int .u32 0,.int .u32 0,.int .u32 0,.int .u32 0] 180)
  rw[World.size_alloc] at this
  exact⟨_,this⟩
 rw[←D]
 clear D
 have TA:=a7.new nA
 generalize a6:w.heap.size=A at *
 have a5:=qb a6
 clear a6
 obtain⟨wo,rfl⟩:∃wo:World,wo=wA:=⟨_,rfl⟩
 generalize a8:[h0,h1,h2,h3,h4,h5,h6,h7]=P at vA hu
 have a9:P.length=8:=by rw[←a8];rfl
 go_wp2_with fail
 go_loopw [1,10] (fun sv _ wr=>∃(t:ByteArray) (hc:List Int),sv = .string t∧t.size≤s.size∧hc.length=8∧qfh hc∧Hid (qj4 (t.size / 64) hc t=qj4 (s.size / 64) P s)∧qba .u32 wr A hc∧Upd (fun k=>k=A) wo wr) (fun sv _ _=>zdo sv)
 case atStart=>exact⟨s,P,rfl,Nat.le_refl _,a9,hu,qb rfl,vA,Upd.refl _ _⟩
 case round =>
  obtain⟨t,hc,rfl,c2,Y,O,HE,hA,ur⟩:=hrel
  obtain⟨E,F,H,I,J,K,L,M,rfl⟩:=qb4 Y
  obtain⟨V,rfl⟩:∃V:World,V=wr:=⟨_,rfl⟩
  by_cases c0:64≤t.size
  ·have c1:=ur.size
   have b4:(t.extract 0 64).size=64:=by rw[ByteArray.size_extract];omega
   have b7:=TA.upd ur (by omega) (by omega)
   have hC:∀W,qy V W→_:=fun W n=>qup [E,F,H,I,J,K,L,M] (t.extract 0 64) W rfl O b4 (b7.new n)
   have b3:=quv [E,F,H,I,J,K,L,M] (t.extract 0 64) ⟨rfl,O⟩
   have i:qj4 (t.size / 64) [E,F,H,I,J,K,L,M] t=qj4 ((t.extract 64 t.size).size / 64) (qmb [E,F,H,I,J,K,L,M] (t.extract 0 64)) (t.extract 64 t.size):=by
    obtain⟨n,hn⟩:∃n,t.size / 64=n+1:=⟨t.size / 64-1,by omega⟩
    have:(t.extract 64 t.size).size / 64=n:=by rw[ByteArray.size_extract];omega
    rw[hn,this]
    rfl
   simp only[List.map_cons,List.map_nil] at hC
   generalize qmb [E,F,H,I,J,K,L,M] (t.extract 0 64)=r at hC b3 i
   obtain⟨r8,b8⟩:=b3
   obtain⟨l,m,o,v,x,y,z,C,rfl⟩:=qb4 r8
   simp only[List.map_cons,List.map_nil] at hC
   have HC:=qb hC
   have HN:=qb (i.symm.trans (qa HE))
   clear hC i HE r8
   have HA:=qb hA
   clear hA O Y
   have t1:(64:Int)≤(t.size:Int):=by omega
   have t2:¬(t.size:Int)<64:=by omega
   go_wp2_with fail
   refine qnd (by kernel_rfl) [[],[],[(1,12)],[(0,11),(2,13)],[(3,14)],[(4,10)],[(4,10)],[(5,15)]] 18 rfl (by kernel_rfl) [(0,11),(1,12),(2,13),(3,14),(4,10),(5,15),(6,16)] (by kernel_rfl) [7] (by kernel_rfl) [[(0,0)],[(0,0)],[(0,0)],[(0,0)],[(0,0)],[(0,0)],[(0,0),(1,1)],[(0,1)]] (by kernel_rfl)
    (zfx V A [l,m,o,v,x,y,z,C]) qbl
    (isV [.agg #[.int .u32 E,.int .u32 F,.int .u32 H,.int .u32 I,.int .u32 J,.int .u32 K,.int .u32 L,.int .u32 M],.string t,.string (t.extract 0 64),
     .tuple #[.agg #[.int .u32 l,.int .u32 m,.int .u32 o,.int .u32 v,.int .u32 x,.int .u32 y,.int .u32 z,.int .u32 C],.bool true],.tuple #[.agg #[.int .u32 l,.int .u32 m,.int .u32 o,.int .u32 v,.int .u32 x,.int .u32 y,.int .u32 z,.int .u32 C],.bool true],
     .agg #[.int .u32 l,.int .u32 m,.int .u32 o,.int .u32 v,.int .u32 x,.int .u32 y,.int .u32 z,.int .u32 C],.bool true,undef])
    ((Upd.refl _ _).drew) (fun _=>qbl.all _ _) (fun _ _ _ _ _ _ _ _ _ h=>h) ?_ ?_
   ·refine .one rfl ?_ <| .pure rfl (fun _=>qbl.all _ _) rfl ?_ <| .pure rfl (fun _=>qbl.all _ _) rfl ?_ <| .one rfl ?_ <| .pure rfl (fun _=>qbl.all _ _) rfl ?_ <| .pure rfl (fun _=>qbl.all _ _) rfl ?_ <| .pure rfl (fun _=>qbl.all _ _) rfl ?_ <| .one rfl ?_ <| .nil
    ·intro ql w1 g _
     replace g:qy V w1:=g
     have hr:=((qa HA).upd g (fun h=>h)).row (n:=8) rfl
     simp only[List.map_cons,List.map_nil] at hr
     unfold zk;simp only[putL];go_simp
     exact⟨qbl.all _ _,g,rfl⟩
    ·intro ql w1 _
     unfold zk;simp only[putL];go_simp
     first | exact⟨rfl,rfl⟩ | rfl
    ·rintro ql w1 ⟨f,-⟩
     replace f:ql 1 = .string t:=f
     unfold zk;simp only[putL];go_simp
     first | exact⟨rfl,rfl⟩ | rfl
    ·rintro ql w1 g ⟨f,p1,-⟩
     replace f:ql 0 = .agg #[.int .u32 E,.int .u32 F,.int .u32 H,.int .u32 I,.int .u32 J,.int .u32 K,.int .u32 L,.int .u32 M]:=f
     replace p1:ql 2 = .string (t.extract 0 64):=p1
     unfold zk;simp only[putL];go_simp
     refine(qa HC w1 g).mono ?_
     rintro e w2 ⟨rfl,n2⟩
     exact⟨_,rfl,qbl.all _ _,Upd.trans g n2,rfl⟩
    ·rintro ql w1 ⟨f,-⟩
     replace f:ql 3 = .tuple #[.agg #[.int .u32 l,.int .u32 m,.int .u32 o,.int .u32 v,.int .u32 x,.int .u32 y,.int .u32 z,.int .u32 C],.bool true]:=f
     unfold zk;simp only[putL];go_simp
     first | exact⟨rfl,rfl⟩ | rfl
    ·rintro ql w1 ⟨f,-⟩
     replace f:ql 4 = .tuple #[.agg #[.int .u32 l,.int .u32 m,.int .u32 o,.int .u32 v,.int .u32 x,.int .u32 y,.int .u32 z,.int .u32 C],.bool true]:=f
     unfold zk;simp only[putL];go_simp
     first | exact⟨rfl,rfl⟩ | rfl
    ·rintro ql w1 ⟨f,-⟩
     replace f:ql 4 = .tuple #[.agg #[.int .u32 l,.int .u32 m,.int .u32 o,.int .u32 v,.int .u32 x,.int .u32 y,.int .u32 z,.int .u32 C],.bool true]:=f
     unfold zk;simp only[putL];go_simp
     first | exact⟨rfl,rfl⟩ | rfl
    ·rintro ql w1 g ⟨f,-⟩
     replace g:qy V w1:=g
     replace f:ql 5 = .agg #[.int .u32 l,.int .u32 m,.int .u32 o,.int .u32 v,.int .u32 x,.int .u32 y,.int .u32 z,.int .u32 C]:=f
     have hI:=(qa HA).upd g (fun h=>h)
     have Z:=hI.stOk (r:=[l,m,o,v,x,y,z,C]) (n:=8) rfl rfl
     have X:=hI.setAll (r:=[l,m,o,v,x,y,z,C]) rfl
     simp only[List.map_cons,List.map_nil] at Z X
     have b5:=qb X
     have U:=((g.mono (T:=fun k=>k=A) (fun _ _ h=>h.elim)).then ((Upd.refl (· = A) w1).setCells 0 [.int .u32 l,.int .u32 m,.int .u32 o,.int .u32 v,.int .u32 x,.int .u32 y,.int .u32 z,.int .u32 C]) (fun _ _ h=>h))
     have b6:=qb U
     clear X U hI
     unfold zk;simp only[putL];go_simp
     first | exact⟨qbl.all _ _,⟨qa b6,qa b5⟩,rfl⟩ | (trace_state;sorry)
   ·intro ql w1 g R
    have v0:=R 0 (by decide)
    have v1:=R 1 (by decide)
    have v2:=R 2 (by decide)
    have v3:=R 3 (by decide)
    have v4:=R 4 (by decide)
    have v5:=R 5 (by decide)
    have v6:=R 6 (by decide)
    clear R
    replace g:Upd (fun k=>k=A) V w1∧qba .u32 w1 A [l,m,o,v,x,y,z,C]:=g
    obtain⟨U,hI⟩:=g
    have us:=ur.trans U
    simp only[putL,v0,v1,v2,v3,v4,v5,v6]
    clear HC HA U ur v0 v1 v2 v3 v4 v5 v6
    obtain⟨wz,rfl⟩:∃wz:World,wz=w1:=⟨_,rfl⟩
    have HI:=qb hI
    clear hI
    go_simp
    go_wp2
    go_roundw
    case rel=>exact⟨t.extract 64 t.size,[l,m,o,v,x,y,z,C],rfl,by rw[ByteArray.size_extract];omega,rfl,b8,HN,qa HI,us⟩
    case measure=>simp[zdo];omega
  ·have b9:t.size<64:=by omega
   have hz:t.size / 64=0:=by omega
   have N:=qa HE
   rw[hz] at N
   replace N:=qb (show qj4 (s.size / 64) P s=[E,F,H,I,J,K,L,M] from N.symm)
   clear HE hz
   have t1:(t.size:Int)<64:=by omega
   have t2:¬(64:Int)≤(t.size:Int):=by omega
   have a4:=vR.upd ur (by omega)
   have nn:=nA.then ur (by intro q hq h;rw[qa a5] at hq;omega)
   subst a8
   clear vR ur O Y TA a9 vA
   have hr:=hA.row (n:=8) rfl
   have Z:=a4.stOk (r:=[E,F,H,I,J,K,L,M]) (n:=8) rfl rfl
   have hR:=a4.setAll (r:=[E,F,H,I,J,K,L,M]) rfl
   simp only[List.map_cons,List.map_nil] at hr Z hR
   have HR:=qb hR
   have U:=nn.then ((Upd.refl (· = A+1) V).setCells 0 [.int .u32 E,.int .u32 F,.int .u32 H,.int .u32 I,.int .u32 J,.int .u32 K,.int .u32 L,.int .u32 M]) (by intro q hq h;rw[qa a5] at hq;omega)
   have HU:=qb U
   clear hA a4 nn hR U
   go_wp2
   obtain⟨TF,hF⟩:=qa HR
   refine bodyPost_ret (results_cell_row rfl _ _ (A+1) TF _ _ _ rfl hF Tryz.underlying180 rfl (by exact Tryz.infoW8)) rfl ?_
   refine⟨?_,qa HU⟩
   rw[qa N]
end Go.Proofs.YtjpmomdechibmaaGreatDoor
namespace Go.Proofs.YtjpmomdechibmaaGreatDoor
open Go.RowKit
theorem Tryz.infoU8:(Tryz.prog.info? 5).map (fun i=>(i.zero,i.size,i.bytes))=some (some (.int .u8 0),1,1):=by kernel_rfl
def qb0(w:World)(base:Nat)(v:Value)(xs:List Int):Prop:=w.ownsRow base 5 1 v xs.length (xs.map (Value.int .u8))
theorem qb0.shape{w:World}{base:Nat}{v:Value}{xs:List Int}(h:qb0 w base v xs):∃a c,v = .slice a xs.length c:=by
 rcases h.2 with ⟨rfl,e⟩ | ⟨g,cap,f,rfl,_⟩
 ·exact⟨none,0,by rw[e]⟩
 ·exact⟨_,_,rfl⟩
theorem qb0.ge{w:World}{base:Nat}{v:Value}{xs:List Int}(h:qb0 w base v xs){k:Nat}(f:v.ownBlock=some k):base≤k∧k<w.heap.size:=by
 rcases h.2 with ⟨rfl,_⟩ | ⟨g,cap,i,rfl,l,m,_⟩
 ·simp[Value.ownBlock] at f
 ·simp[Value.ownBlock] at f;subst f;exact⟨l,zw m⟩
theorem qb0.upd{S:Nat→Prop}{w w':World}{base:Nat}{v:Value}{xs:List Int}(h:qb0 w base v xs)(u:Upd S w w')(m:∀k,v.ownBlock=some k→¬S k):qb0 w' base v xs:=by
 refine⟨h.1,?_⟩
 rcases h.2 with h | ⟨g,cap,f,i,l,o,r⟩
 ·exact .inl h
 ·exact .inr ⟨g,cap,f,i,l,u.old o (m g (by rw[i];rfl)),r⟩
theorem qb0.new{w w':World}{base:Nat}{v:Value}{xs:List Int}(h:qb0 w base v xs)(u:qy w w'):qb0 w' base v xs:=h.upd u (fun _ _ h=>h)
theorem qb0.nil(w:World)(base:Nat):qb0 w base (.slice none 0 0) []:=⟨rfl,.inl ⟨rfl,rfl⟩⟩
theorem qb0.made(w:World)(base:Nat)(xs:List Int)(f:base≤w.heap.size)(g:xs.length≤1073741824):qb0 (w.alloc (.cells (xs.map (Value.int .u8)).toArray 5)) base (.slice (some ⟨w.heap.size,0,none⟩) xs.length xs.length) xs:=by
 refine⟨by simp,.inr ⟨w.heap.size,xs.length,_,rfl,f,qi _ _,Nat.le_refl _,by unfold maxLen;omega,by simp,?_⟩⟩
 simp
 exact List.take_of_length_le (by simp)
theorem qkc{l:Array Oper}{rest:List Oper}{o:Oper}{a:Act}{Q:Exit→Act→World→Prop}(q:o.guard=none)(s x:Operand)
  (I:o.op = .call {callee:= .builtin .append,args:=#[s,x],argTypes:=#[111,111]})
  (base:Nat) (v:Value) (xs:List Int) (J:a.eval s=v) (c:Int) (T:TypeId) (w:World) (L:a.eval x = .slice (some ⟨w.heap.size,0,none⟩) 1 1) (g:qb0 w base v xs) (N:xs.length≤1073741824) (M:base≤w.heap.size)
  (h:∀m w',qb0 w' base m (xs++[c])→Upd (fun k=>v.ownBlock=some k) w w'→wpList Tryz.prog l Q rest (a.put o.dst m) w') :
  wpList Tryz.prog l Q (o::rest) a (w.alloc (.cells #[.int .u8 c] T)):=by
 obtain⟨i,F,y,z,C⟩:=info_parts Tryz.infoU8
 have D:(w.alloc (.cells #[.int .u8 c] T)).ownsRow base 5 1 v xs.length (xs.map (Value.int .u8)):=g.new ((Upd.refl _ _).alloc _)
 refine wpList_append_own _ q s x 111 I base 5 i (.int .u8 0) 1 1 Tryz.underlying111 F y z C rfl (by decide) v xs.length _ J D ⟨w.heap.size,0,none⟩ 1 1 [.int .u8 c] L rfl ?_ ?_ (by unfold maxLen;omega) (by omega) (by simp;omega) ?_
 ·intro j u H
  have f:(⟨w.heap.size,0,none⟩:Addr).add j=⟨w.heap.size,j,none⟩:=by unfold Addr.add;split<;>simp_all
  rw[f,qh (qi _ _)]
  simpa using H
 ·intro u K
  obtain rfl:=List.mem_singleton.1 K
  rfl
 ·intro m w' t E _
  refine h m w' ?_ ((((Upd.refl _ w).alloc _)).grown E (fun k e _=>e))
  unfold qb0
  rw[List.length_append,List.map_append]
  exact t
theorem qkv{w:World}{base:Nat}{v:Value}{xs:List Int}(h:qb0 w base v xs):(convert 111 9 v).run Tryz.prog w = .ok (.string (strOfNums xs)) w:=by
 rcases h.2 with ⟨rfl,e⟩ | ⟨g,cap,f,rfl,t,q,x,y,z,m⟩
 ·rw[List.eq_nil_of_length_eq_zero e]
  exact run_convert_bytes_nil w 111 5 Tryz.underlying111 Tryz.underlying5 0 0 9 Tryz.underlying9
 ·refine run_convert_bytes_arg w 111 5 Tryz.underlying111 Tryz.underlying5 g 0 xs.length cap xs rfl (fun i l=> ?_) 9 Tryz.underlying9
  have o:f.toList[i]? = (xs.map (Value.int .u8))[i]? := by rw[←m,List.getElem?_take_of_lt (by omega)]
  rw[Nat.zero_add,qh q i,←Array.getElem?_toList,o,List.getElem?_map,List.getElem?_eq_getElem l]
  simp[List.getD,List.getElem?_eq_getElem l]
end Go.Proofs.YtjpmomdechibmaaGreatDoor
