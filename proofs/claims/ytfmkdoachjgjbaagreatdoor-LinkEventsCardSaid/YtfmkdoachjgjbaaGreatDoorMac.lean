/-
  Package digest: bytes (the bytes of eight letters).
-/
import Derived.Test.YtfmkdoachjgjbaaGreatDoorSha2
import Derived.Test.YtfmkdoachjgjbaaGreatDoorMaa
set_option linter.unusedVariables false
set_option linter.unusedSimpArgs false
namespace Go.Proofs.YtfmkdoachjgjbaaGreatDoor
open Go.RowKit
def byI(h:List Int)(i:Nat):Int:=wd h (i / 4) / 2 ^ (24-8*(i%4))%256
def qfs(h:List Int)(n:Nat):List Int:=(List.range n).foldl (fun bs i=>bs.set i (byI h i)) (List.replicate 32 0)
theorem qhk(h:List Int):qfs h 0=List.replicate 32 0:=by unfold qfs;simp only[List.range_zero,List.foldl_nil]
theorem qhj(h:List Int)(n:Nat):qfs h (n+1)=(qfs h n).set n (byI h n):=by simp[qfs,List.range_succ]
theorem qgp(h:List Int)(n:Nat):(qfs h n).length=32:=by
 induction n with
 | zero=>rw[qhk];simp
 | succ n f=>rw[qhj];simp[f]
theorem Tryz.infoHash:(Tryz.prog.info? 35).map (·.size)=some 32:=by kernel_rfl
set_option maxRecDepth 100000 in
set_option maxHeartbeats 1000000 in
theorem qzx(h:List Int)(w:World)(hh:h.length=8)(hu:qeh h) :
  Calls Tryz.prog 196 #[.agg (h.map (Value.int .u32)).toArray] w fun e w'=>e = .returned (.agg ((qfs h 32).map (Value.int .u8)).toArray)∧qq w w':=by
 obtain⟨E,F,H,I,J,K,L,M,rfl⟩:=qb2 hh
 simp only[List.map_cons,List.map_nil]
 go_enter Tryz.func196,Tryz.ntmps196
 go_upto_region 2 with fail
 obtain⟨C,m⟩:∃C:World,C=((w.alloc (.cells #[.int .u32 E,.int .u32 F,.int .u32 H,.int .u32 I,.int .u32 J,.int .u32 K,.int .u32 L,.int .u32 M] 295)).alloc (.cells #[.int .u8 0,.int .u8 0,.int .u8 0,.int .u8 0,.int .u8 0,.int .u8 0,.int .u8 0,.int .u8 0,.int .u8 0,.int .u8 0,.int .u8 0,.int .u8 0,.int .u8 0,.int .u8 0,.int .u8 0,.int .u8 0,.int .u8 0,.int .u8 0,.int .u8 0,.int .u8 0,.int .u8 0,.int .u8 0,.int .u8 0,.int .u8 0,.int .u8 0,.int .u8 0,.int .u8 0,.int .u8 0,.int .u8 0,.int .u8 0,.int .u8 0,.int .u8 0] 35)).alloc (.cells #[.int .u8 0,.int .u8 0,.int .u8 0,.int .u8 0,.int .u8 0,.int .u8 0,.int .u8 0,.int .u8 0,.int .u8 0,.int .u8 0,.int .u8 0,.int .u8 0,.int .u8 0,.int .u8 0,.int .u8 0,.int .u8 0,.int .u8 0,.int .u8 0,.int .u8 0,.int .u8 0,.int .u8 0,.int .u8 0,.int .u8 0,.int .u8 0,.int .u8 0,.int .u8 0,.int .u8 0,.int .u8 0,.int .u8 0,.int .u8 0,.int .u8 0,.int .u8 0] 35):=⟨_,rfl⟩
 have sA:C.heap.size=w.heap.size+3:=by rw[m];simp
 have nA:qq w C:=by rw[m];exact(((Upd.refl _ _).alloc _).alloc _).alloc _
 have vA:qbd .u32 C w.heap.size [E,F,H,I,J,K,L,M]:=by rw[m];exact⟨_,qs (qs (qj _ _) _) _⟩
 have vB:qbd .u8 C (w.heap.size+1+1) (List.replicate 32 0):=by
  rw[m];have:=qj ((w.alloc (.cells #[.int .u32 E,.int .u32 F,.int .u32 H,.int .u32 I,.int .u32 J,.int .u32 K,.int .u32 L,.int .u32 M] 295)).alloc (.cells #[.int .u8 0,.int .u8 0,.int .u8 0,.int .u8 0,.int .u8 0,.int .u8 0,.int .u8 0,.int .u8 0,.int .u8 0,.int .u8 0,.int .u8 0,.int .u8 0,.int .u8 0,.int .u8 0,.int .u8 0,.int .u8 0,.int .u8 0,.int .u8 0,.int .u8 0,.int .u8 0,.int .u8 0,.int .u8 0,.int .u8 0,.int .u8 0,.int .u8 0,.int .u8 0,.int .u8 0,.int .u8 0,.int .u8 0,.int .u8 0,.int .u8 0,.int .u8 0] 35)) (.cells #[.int .u8 0,.int .u8 0,.int .u8 0,.int .u8 0,.int .u8 0,.int .u8 0,.int .u8 0,.int .u8 0,.int .u8 0,.int .u8 0,.int .u8 0,.int .u8 0,.int .u8 0,.int .u8 0,.int .u8 0,.int .u8 0,.int .u8 0,.int .u8 0,.int .u8 0,.int .u8 0,.int .u8 0,.int .u8 0,.int .u8 0,.int .u8 0,.int .u8 0,.int .u8 0,.int .u8 0,.int .u8 0,.int .u8 0,.int .u8 0,.int .u8 0,.int .u8 0] 35);rw[World.size_alloc,World.size_alloc] at this;exact⟨_,this⟩
 have vR:qbd .u8 C (w.heap.size+1) (List.replicate 32 0):=by
  rw[m];have:=qj (w.alloc (.cells #[.int .u32 E,.int .u32 F,.int .u32 H,.int .u32 I,.int .u32 J,.int .u32 K,.int .u32 L,.int .u32 M] 295)) (.cells #[.int .u8 0,.int .u8 0,.int .u8 0,.int .u8 0,.int .u8 0,.int .u8 0,.int .u8 0,.int .u8 0,.int .u8 0,.int .u8 0,.int .u8 0,.int .u8 0,.int .u8 0,.int .u8 0,.int .u8 0,.int .u8 0,.int .u8 0,.int .u8 0,.int .u8 0,.int .u8 0,.int .u8 0,.int .u8 0,.int .u8 0,.int .u8 0,.int .u8 0,.int .u8 0,.int .u8 0,.int .u8 0,.int .u8 0,.int .u8 0,.int .u8 0,.int .u8 0] 35);rw[World.size_alloc] at this;exact⟨_,qs this _⟩
 rw[←m]
 clear m
 generalize R:w.heap.size=A at *
 have P:=qb R
 clear R
 obtain⟨wo,rfl⟩:∃wo:World,wo=C:=⟨_,rfl⟩
 have U:qeh [E,F,H,I,J,K,L,M]:=hu
 generalize T:[E,F,H,I,J,K,L,M]=O at vA U
 have b7:O.length=8:=by rw[←T];rfl
 go_wp2_with fail
 go_loopw [4,5] (fun _ iv wr=>∃i:Nat,iv = .int .i64 (i:Int)∧i≤32∧qbd .u8 wr (A+1+1) (qfs O i)∧Upd (fun k=>k=A+1+1) wo wr) (fun _ iv _=>32-(intOf iv).toNat)
 case atStart=>exact⟨0,rfl,by omega,by rw[qhk];exact vB,Upd.refl _ _⟩
 case round =>
  obtain⟨i,rfl,hi,z,V⟩:=hrel;by_cases b8:i<32
  ·have c0:wr.cell? ⟨A,i / 4,none⟩=some (.int .u32 (wd O (i / 4))):=(vA.upd V (by omega)).cell (by omega);obtain⟨a0,a7⟩:=U.at (i / 4);obtain⟨v1,c1⟩:∃v,wr.cell? ⟨A+1+1,i,none⟩=some v:=⟨_,z.cell (by rw[qgp];omega)⟩;have z1:=z.free i;have a8:(i:Int)<32:=by omega
   have b3:IntKind.i64.wrap ((i:Int) / 4)=(i:Int) / 4:=IntWalk.i64_in _ (by omega);have b4:((i:Int) / 4).toNat=i / 4:=by omega
   have b5:(0:Int)≤(i:Int) / 4:=by omega
   have b6:(i:Int) / 4<8:=by omega
   have N:=z.set i (byI O i);rw[←qhj] at N;have X:=qb N;clear N;go_wp2;have us:=V.set1 i (.int .u8 (byI O i));go_roundw
   case rel=>exact⟨i+1,by go_num,by omega,qa X,us⟩
   case measure=>simp[intOf];omega
  ·obtain rfl:i=32:=by omega
   rw[show ((32:Nat):Int)=32 from rfl];have a6:=vR.upd V (by omega);have nn:=nA.then V (by intro q hq h;rw[qa P] at hq;omega);have f:=qgp O 32;subst T;generalize S:qfs [E,F,H,I,J,K,L,M] 32=bs at z f;have W:=qb S;clear S vA vB vR V;obtain⟨TB,z⟩:=z;obtain⟨Y,Z⟩:=a6;go_upto_region 7 with fail;refine wp_region_lit ?_;refine wpList_load_row rfl _ _ rfl (A+1+1) rfl TB _ _ _ z Tryz.underlying35 rfl (by rw[List.size_toArray,List.length_map,f];exact Tryz.infoHash) ?_;refine wpList_store_row rfl _ _ _ rfl (A+1) (bs.map (Value.int .u8)).toArray rfl rfl Y _ Z (by rw[List.size_toArray,List.length_map,f];exact Tryz.infoHash) (by simp[f]) (by simp[Value.oneCell']) ?_;have hF:=setRow_heap wr (A+1) _ (bs.map (Value.int .u8)).toArray Y (0,0) Z;have uF:Upd (fun k=>k=A+1) wr (wr.setRow (A+1) (bs.map (Value.int .u8)).toArray):=⟨rfl,rfl,rfl,by simp,fun i _ hn=>setRow_other _ _ _ _ hn⟩;have nE:=nn.then uF (by intro q hq h;rw[qa P] at hq;omega);generalize wr.setRow (A+1) (bs.map (Value.int .u8)).toArray=wF at hF nE ⊢;clear uF nn z Z;go_wp2_with fail;refine bodyPost_ret (results_cell_row rfl _ _ (A+1) Y _ _ _ rfl hF Tryz.underlying35 rfl (by rw[List.size_toArray,List.length_map,f];exact Tryz.infoHash)) rfl ?_;exact⟨by rw[qa W],nE⟩
def qbq(_ _:World):Prop:=True
theorem qbq.all(w w':World):qbq w w':=trivial
def isV(xs:List Value)(i:Nat)(v:Value)(_:World):Prop:=v=xs.getD i undef
def QS(f:World)(_:Nat)(w:World):Prop:=Q f w
section
variable {P:Program}{l:List Oper}{A:List (List Nat)}{L:List (List (Nat × Nat))}{n:Nat}
def qex(st:List Nat)(f:Array Bool):Nat:=st.countP fun s=>f.getD s false
def stB(l:List Oper)(st:List Nat):Bool:=decide st.Nodup&&st.all fun s=>decide (s<l.length)
def qln(A:List (List Nat))(st:List Nat)(i:Nat):List (Nat × Nat) :=
 (List.range (st.countP (fun s=>s != i && !(A.getD s []).contains i)+1)).filterMap fun k =>
  if st.countP (fun s=>(A.getD i []).contains s)≤k then some (k,k+if st.contains i then 1 else 0) else none
theorem q2x{st:List Nat}{i:Nat}{f:Array Bool}(F:stB l st=true)(v:f.getD i false=false)(z:∀k∈A.getD i [],f.getD k false=true)(C:∀s,s∈st→i∈A.getD s []→f.getD s false=false) :
  (qex st f,qex st f+if st.contains i then 1 else 0)∈qln A st i:=by
 unfold qln
 rw[List.mem_filterMap]
 refine⟨qex st f,List.mem_range.2 ?_,?_⟩
 ·refine Nat.lt_succ_of_le (List.countP_mono_left fun s q m=> ?_);simp only[Bool.and_eq_true,bne_iff_ne,ne_eq,Bool.not_eq_true'];refine⟨?_,?_⟩
  ·rintro rfl;rw[v] at m;cases m
  ·cases E:(A.getD s []).contains i with
   | false=>rfl
   | true =>
    have:=C s q (List.contains_iff_mem.1 E);rw[this] at m;cases m
 ·rw[if_pos];exact List.countP_mono_left fun s _ q=>z s (List.contains_iff_mem.1 q)
theorem q1v{st:List Nat}{f:Array Bool}(m:stB l st=true)(q:∀i,i<l.length→f.getD i false=true):qex st f=st.length:=by
 unfold stB at m;simp only[Bool.and_eq_true,List.all_eq_true,decide_eq_true_eq] at m;exact List.countP_eq_length.2 fun s v=>q s (m.2 s v)
theorem q1w{st:List Nat}{f:Array Bool}{i:Nat}(m:stB l st=true)(I:i<f.size)(z:f.getD i false=false):qex st (f.setIfInBounds i true)=qex st f+if st.contains i then 1 else 0:=by
 unfold stB at m;simp only[Bool.and_eq_true,decide_eq_true_eq] at m;have E:=m.1;clear m;unfold qex
 induction st with
 | nil=>rfl
 | cons s st C =>
  have C:=C E.tail;rw[List.countP_cons,List.countP_cons,C];by_cases h:s=i
  ·subst h;have v:st.contains s=false:=by
    cases H:st.contains s with
    | false=>rfl
    | true=>exact absurd (List.contains_iff_mem.1 H) (List.nodup_cons.1 E).1
   have q:(f.setIfInBounds s true).getD s false=true:=qeu I;rw[q,z,v];simp
  ·have q:(f.setIfInBounds i true).getD s false=f.getD s false:=getD_set_ne false (fun e=>h e.symm);rw[q];have F:(s::st).contains i=st.contains i:=by
    rw[List.contains_cons];have:(i==s)=false:=by simpa using fun e=>h e.symm
    rw[this,Bool.false_or]
   rw[F];omega
def qs3(P:Program)(a0:Act)(S:Nat→World→Prop)(R:World→World→Prop)(Φ:Nat→Value→World→Prop)(i:Nat)(o:Oper)(Li:List (Nat × Nat))(Ti:List (Nat × Nat)):Prop :=
 ∀t∈Ti,∀(ql:Nat→Value) (w:World),S t.1 w→(∀p∈Li,Φ p.1 (ql p.1) w) →
  match o.guard with
  | none=>zm P o (putL a0 ql Li).eval w fun v w'=>R w w'∧S t.2 w'∧Φ i v w'
  | some (g,b)=>Φ g (ql g) w→(ql g = .bool b→zm P o (putL a0 ql Li).eval w fun v w'=>R w w'∧S t.2 w'∧Φ i v w')∧(ql g ≠ .bool b→S t.2 w∧Φ i undef w)
def qbr(P:Program)(a0:Act)(S:Nat→World→Prop)(R:World→World→Prop)(Φ:Nat→Value→World→Prop):Nat→List Oper→List (List (Nat × Nat))→List (List (Nat × Nat))→Prop
 | _,[],_,_=>True
 | i,o::os,L,T=>qs3 P a0 S R Φ i o (L.headD []) (T.headD [])∧qbr P a0 S R Φ (i+1) os L.tail T.tail
theorem qbr.nil{a0:Act}{S:Nat→World→Prop}{R:World→World→Prop}{Φ:Nat→Value→World→Prop}{i:Nat}{L T:List (List (Nat × Nat))} : qbr P a0 S R Φ i [] L T:=trivial
theorem qbr.at{a0:Act}{S:Nat→World→Prop}{R:World→World→Prop}{Φ:Nat→Value→World→Prop} : ∀ {os:List Oper} {L T:List (List (Nat × Nat))} {k:Nat},qbr P a0 S R Φ k os L T→∀(i:Nat) o,os[i]? = some o→qs3 P a0 S R Φ (k+i) o (L.getD i []) (T.getD i [])
 | [],_,_,_,_,_,_,h=>by simp at h
 | o::os,L,T,k,h,0,m,f=>by
  simp only[List.getElem?_cons_zero,Option.some.injEq] at f;subst f;have:=h.1;cases L<;>cases T<;>exact this
 | o::os,L,T,k,h,i+1,m,f=>by
  have:=qbr.at h.2 i m (by simpa using f);rw[show k+(i+1)=k+1+i by omega];cases L<;>cases T<;>exact this
theorem qkb{o:Oper}{ρ:Operand→Value}{w:World}{K f:Value→World→Prop}(h:zm P o ρ w K)(k:∀v w',K v w'→f v w'):zm P o ρ w f:=by
 unfold zm at h ⊢;generalize (execOp ρ o).run P w=r at h ⊢;cases r with
 | ok n w' =>
  cases n<;>simp only at h ⊢
  ·exact k _ _ h
  ·exact k _ _ h
  ·refine h.mono fun e z i=> ?_
   obtain⟨v,q,m⟩:=i;exact⟨v,q,k _ _ m⟩
 | halt x w'=>simp only at h
theorem qbr.one{a0:Act}{S:Nat→World→Prop}{R:World→World→Prop}{Φ:Nat→Value→World→Prop}{i:Nat}{o:Oper}{os:List Oper}{Li:List (Nat × Nat)}{L T:List (List (Nat × Nat))}{k f:Nat}(q:o.guard=none)
  (h:∀(ql:Nat→Value) (w:World),S k w→qzj Φ ql w Li→zm P o (putL a0 ql Li).eval w fun v w'=>R w w'∧S f w'∧Φ i v w')
  (r:qbr P a0 S R Φ (i+1) os L T):qbr P a0 S R Φ i (o::os) (Li::L) ([(k,f)]::T) :=
 ⟨fun t C ql w m z=>by
  obtain rfl:=List.mem_singleton.1 C;rw[q];exact h ql w m (qk9 z),r⟩
theorem qbr.any{a0:Act}{S:Nat→World→Prop}{R:World→World→Prop}{Φ:Nat→Value→World→Prop}{i:Nat}{o:Oper}{os:List Oper}{Li Ti:List (Nat × Nat)}{L T:List (List (Nat × Nat))}(m:o.guard=none)
  (h:∀t∈Ti,∀(ql:Nat→Value) (w:World),S t.1 w→qzj Φ ql w Li→zm P o (putL a0 ql Li).eval w fun v w'=>R w w'∧S t.2 w'∧Φ i v w')
  (r:qbr P a0 S R Φ (i+1) os L T):qbr P a0 S R Φ i (o::os) (Li::L) (Ti::T) :=
 ⟨fun t z ql w f q=>by
  rw[m];exact h t z ql w f (qk9 q),r⟩
theorem qbr.pure{a0:Act}{S:Nat→World→Prop}{R:World→World→Prop}{Φ:Nat→Value→World→Prop}{i:Nat}{o:Oper}{os:List Oper}{Li Ti:List (Nat × Nat)}{L T:List (List (Nat × Nat))}(C:o.guard=none)(f:∀w,R w w)(q:(Ti.all fun t=>t.1==t.2)=true)
  (h:∀(ql:Nat→Value) (w:World),qzj Φ ql w Li→zm P o (putL a0 ql Li).eval w fun v w'=>w'=w∧Φ i v w)
  (r:qbr P a0 S R Φ (i+1) os L T):qbr P a0 S R Φ i (o::os) (Li::L) (Ti::T) :=
 ⟨fun t F ql w m E=>by
  rw[C];have e:t.1=t.2:=by simpa using List.all_eq_true.1 q t F
  rw[e] at m;exact qkb (h ql w (qk9 E)) fun v w' z=>by
   obtain⟨rfl,H⟩:=z;exact⟨f _,m,H⟩,r⟩
structure DagInvP(l:List Oper)(A:List (List Nat))(st:List Nat)(a0:Act)(S:Nat→World→Prop)(Φ:Nat→Value→World→Prop)(listed:Array Bool)(a:Act)(w:World)(ql:Nat→Value):Prop where
 size:listed.size=l.length
 s:S (qex st listed) w
 phi:∀i,listed.getD i false=true→Φ i (ql i) w
 shut:∀i,listed.getD i false=true→∀k∈A.getD i [],listed.getD k false=true
 defers:a.defers=a0.defers
 tmps:a.tmps.size=a0.tmps.size
 other:∀t,(∀i,listed.getD i false=true→qbl l i≠some t)→a.tmps[t]? = a0.tmps[t]?
 at_:∀i t,listed.getD i false=true→qbl l i=some t→a.tmps[t]? = some (ql i)
theorem q4d(D:Dag l A L n){st:List Nat}(b3:stB l st=true){TS:List (List (Nat × Nat))}(c5:(List.range l.length).map (qln A st)=TS){a0:Act}(hn:a0.tmps.size=n){S:Nat→World→Prop}{R:World→World→Prop}{Φ:Nat→Value→World→Prop}{Q:Exit→Act→World→Prop}
  (c3:∀w,R w w) (a6:∀i v w w' k k',S k w→S k' w'→R w w'→Φ i v w→Φ i v w') (b5:qbr P a0 S R Φ 0 l L TS)
  (c4:∀ql w,S st.length w→(∀i,i<l.length→Φ i (ql i) w)→Q .normal (putL a0 ql (qba l)) w) :
  ∀(E:Nat) (f:Array Bool) (a:Act) (w:World) (ql:Nat→Value),DagInvP l A st a0 S Φ f a w ql→(List.range l.length).countP (fun i=> !f.getD i false)≤E→wpAny P .any l.toArray Q E f a w:=by
 have Y:∀(f:Array Bool) (a:Act) (w:World) (ql:Nat→Value),DagInvP l A st a0 S Φ f a w ql→Region.ready .any l.toArray f=[]→Q .normal a w:=by
  intro f a w ql I hr;have a7:∀(i:Nat),i<l.length→f.getD i false=true:=by
   intro i
   induction i using Nat.strongRecOn with
   | _ i ih =>
    intro N;cases hl:f.getD i false with
    | true=>rfl
    | false =>
     exfalso;have:i∈Region.ready .any l.toArray f:=by
      rw[mem_ready];have ho:l[i]? = some l[i]:=List.getElem?_eq_getElem N;refine⟨?_,l[i],by simp[N],fun e he hb=> ?_⟩
      ·rw[Array.getD_eq_getD_getElem?] at hl ⊢;have:i<f.size:=by rw[I.size];exact N
       rw[Array.getElem?_eq_getElem this] at hl ⊢;simpa using hl
      ·have T:=(D.edge i _ ho e he hb).1;have h2:=(D.anc i _ ho _ T).1;exact ih _ h2 (by omega)
     rw[hr] at this;cases this
  have ha:a=putL a0 ql (qba l):=by
   refine qvt (by rw[qgd];exact I.defers) fun t=> ?_
   by_cases h:∃i,qbl l i=some t
   ·obtain⟨i,N⟩:=h;have F:=(qjn N).1;rw[I.at_ i t (a7 i F) N];have hm:(i,t)∈qba l:=by
     unfold qba;rw[List.mem_filterMap];exact⟨i,List.mem_range.2 F,by rw[N];rfl⟩
    refine(qhv ql (qba l) a0 (i,t) hm (fun q hq e=> ?_) (by rw[hn];exact(D.slot i t N).1)).symm;unfold qba at hq;rw[List.mem_filterMap] at hq;obtain⟨j,_,z⟩:=hq;rw[Option.map_eq_some_iff] at z;obtain⟨t',b4,rfl⟩:=z;simp only at e;subst e;exact(D.slot i _ N).2 j b4
   ·rw[I.other t fun i _ O=>h ⟨i,O⟩,qdo];intro p hp e;unfold qba at hp;rw[List.mem_filterMap] at hp;obtain⟨j,_,z⟩:=hp;rw[Option.map_eq_some_iff] at z;obtain⟨t',b4,rfl⟩:=z;exact h ⟨j,by rw[b4,←e]⟩
  rw[ha];exact c4 ql w (by have:=I.s;rwa [q1v b3 a7] at this) fun i N=>I.phi i (a7 i N)
 intro E
 induction E with
 | zero =>
  intro f a w ql I hc;have hr:Region.ready .any l.toArray f=[]:=by
   rw[List.eq_nil_iff_forall_not_mem];intro i N;obtain⟨h0,o,ho,_⟩:=mem_ready.1 N;have F:i<l.length:=by simpa using (Array.getElem?_eq_some_iff.1 ho).1
   have:(List.range l.length).countP (fun i=> !f.getD i false)=0:=by omega
   rw[List.countP_eq_zero] at this;have:=this i (List.mem_range.2 F);rw[Array.getD_eq_getD_getElem?] at h0 this;have O:i<f.size:=by rw[I.size];exact F
   rw[Array.getElem?_eq_getElem O] at h0 this;simp at h0 this;rw[h0] at this;cases this
  exact⟨hr,Y f a w ql I hr⟩
 | succ E ih =>
  intro f a w ql I hc;refine⟨fun hr=>Y f a w ql I hr,fun i N=> ?_⟩;obtain⟨h0,o,ho,b7⟩:=mem_ready.1 N;have F:i<l.length:=by simpa using (Array.getElem?_eq_some_iff.1 ho).1
  have O:i<f.size:=by rw[I.size];exact F
  have J:l[i]? = some o:=by simpa using ho
  have U:f.getD i false=false:=by
   rw[Array.getD_eq_getD_getElem?] at h0 ⊢;rw[Array.getElem?_eq_getElem O] at h0 ⊢;simpa using h0
  have M:∀k∈A.getD i [],f.getD k false=true:=by
   intro k hk;obtain⟨_,e,he,hb,h⟩:=D.anc i o J k hk;have T:=b7 e he hb;rcases h with rfl | h
   ·exact T
   ·exact I.shut _ T k h
  have a8:∀t∈o.looksAt l.toArray,a.tmps[t]? = (putL a0 ql (L.getD i [])).tmps[t]? := by
   intro t ht;by_cases h:∃j,f.getD j false=true∧qbl l j=some t
   ·obtain⟨j,z,C⟩:=h;rcases D.look i o J t ht j C with T | ⟨T,h2⟩
    ·have:=I.shut j z i T;rw[U] at this;cases this
    ·rw[I.at_ j t z C];refine(qhv ql _ a0 (j,t) h2 (fun q hq e=> ?_) (by rw[hn];exact(D.slot j t C).1)).symm;have:=(D.lis i o J q hq).2;rw[e] at this;exact(D.slot j t C).2 _ this
   ·rw[I.other t fun j z O=>h ⟨j,z,O⟩,qdo];intro p hp e;obtain⟨T,h2⟩:=D.lis i o J p hp;exact h ⟨p.1,M _ T,by rw[h2,e]⟩
  have V:execOp a.eval o=execOp (putL a0 ql (L.getD i [])).eval o:=by
   refine execOp_congr o (D.sel i o J) fun x hx=> ?_
   cases x with
   | tmp t =>
    have:=a8 t (List.mem_append_left _ (List.mem_filterMap.2 ⟨.tmp t,by simpa using hx,rfl⟩));simp only[Act.eval,Array.getD_eq_getD_getElem?,this]
   | _=>rfl
  have X:=b5.at i o J;rw[Nat.zero_add] at X;have c6:=q2x (A:=A) (st:=st) b3 U (fun k hk=>M k hk) (fun s O N=>by
   cases hl:f.getD s false with
   | false=>rfl
   | true=>have:=I.shut s hl i N;rw[U] at this;cases this)
  have b6:TS.getD i []=qln A st i:=by
   rw[←c5,List.getD_eq_getElem?_getD,List.getElem?_map,List.getElem?_range F];rfl
  have K:=X _ (by rw[b6];exact c6) ql w I.s fun p hp=>I.phi _ (M _ (D.lis i o J p hp).1)
  have next:∀v w',R w w'→S (qex st f+if st.contains i then 1 else 0) w'→Φ i v w'→wpAny P .any l.toArray Q E (f.setIfInBounds i true) (a.put o.dst v) w':=by
   intro v w' hR hS hΦ;have Z:qbl l i=o.dst:=by unfold qbl;rw[J];rfl
   refine ih (f.setIfInBounds i true) (a.put o.dst v) w' (fun j=>if j=i then v else ql j) ⟨?_,by rw[q1w b3 O U];exact hS,?_,?_,?_,?_,?_,?_⟩ ?_
   ·rw[Array.size_setIfInBounds];exact I.size
   ·intro j z;rcases (qaf O).1 z with rfl | H
    ·simpa using hΦ
    ·have W:j≠i:=by rintro rfl;rw[U] at H;cases H
     simp only[if_neg W];exact a6 j _ w w' _ _ I.s hS hR (I.phi j H)
   ·intro j z k hk;refine(qaf O).2 ?_;rcases (qaf O).1 z with rfl | H
    ·exact .inr (M k hk)
    ·exact .inr (I.shut j H k hk)
   ·cases o.dst<;>exact I.defers
   ·cases hd:o.dst with
    | none=>exact I.tmps
    | some d=>simpa [Act.put] using I.tmps
   ·intro t ht;have T:=I.other t fun j z=>ht j ((qaf O).2 (.inr z))
    have h2:=ht i ((qaf O).2 (.inl rfl));rw[Z] at h2;cases hd:o.dst with
    | none=>exact T
    | some d =>
     have W:d≠t:=by rintro rfl;exact h2 hd
     simpa [Act.put,Array.getElem?_setIfInBounds_ne W] using T
   ·intro j t z C;rcases (qaf O).1 z with rfl | H
    ·rw[Z] at C;rw[C,if_pos rfl];have:t<a.tmps.size:=by rw[I.tmps,hn];exact(D.slot j t (by rw[Z,C])).1
     simp[Act.put,this]
    ·have W:j≠i:=by rintro rfl;rw[U] at H;cases H
     rw[if_neg W];have T:=I.at_ j t H C;cases hd:o.dst with
     | none=>exact T
     | some d =>
      have c2:d≠t:=by
       rintro rfl;exact W ((D.slot i d (by rw[Z,hd])).2 j C)
      simpa [Act.put,Array.getElem?_setIfInBounds_ne c2] using T
   ·have T:(List.range l.length).countP (fun j=> !(f.setIfInBounds i true).getD j false)<(List.range l.length).countP (fun j=> !f.getD j false):=by
     have c1:i∈List.range l.length:=List.mem_range.2 F;obtain⟨s,r,c9⟩:=List.append_of_mem c1;rw[c9,List.countP_append,List.countP_append,List.countP_cons,List.countP_cons];have m:∀xs:List Nat,xs.countP (fun j=> !(f.setIfInBounds i true).getD j false)≤xs.countP (fun j=> !f.getD j false):=by
      intro xs;refine List.countP_mono_left fun j _ z=> ?_
      cases h:f.getD j false with
      | false=>rfl
      | true=>rw[(qaf O).2 (.inr h)] at z;cases z
     have m1:=m s;have m2:=m r;rw[qeu O,U];simp only[Bool.not_true,Bool.not_false,Bool.false_eq_true,if_false,if_true];omega
    omega
  unfold wpOp;rw[ho];simp only;cases hg:o.guard with
  | none =>
   rw[hg] at K;rw[if_pos (by unfold Region.wanted;rw[hg])];exact .inl (qg4 V K fun v w' h=>next v w' h.1 h.2.1 h.2.2)
  | some gb =>
   obtain⟨g,b⟩:=gb;rw[hg] at K;obtain⟨c8,t,c0⟩:=D.guard i o J g b hg;have b9:=M g c8;have c7:=I.at_ g t b9 c0;obtain⟨p1,p2⟩:=K (I.phi g b9);have hy:Region.wanted o (yielded l.toArray a.tmps)=true↔ql g = .bool b:=by
    unfold Region.wanted yielded;rw[hg];have e1:(l.toArray[g]?).bind (·.dst)=some t:=by simpa [qbl] using c0
    simp only[e1,Option.bind_some,c7];constructor
    ·intro h;split at h
     ·rename_i b' b8;simp only[Option.some.injEq] at b8;simp at h;rw[b8,h]
     ·simp at h
    ·intro h;rw[h];simp
   by_cases hw:Region.wanted o (yielded l.toArray a.tmps)=true
   ·rw[if_pos hw];exact .inl (qg4 V (p1 (hy.1 hw)) fun v w' h=>next v w' h.1 h.2.1 h.2.2)
   ·rw[if_neg hw];obtain⟨q1,q2⟩:=p2 fun h=>hw (hy.2 h)
    exact next undef w (c3 w) q1 q2
theorem qlp{id:Nat}{a:Act}{w:World}{Q:Exit→Act→World→Prop}(N:P.follows .mixedOrders=true)(L:List (List (Nat × Nat)))(n:Nat)(O:a.tmps.size=n)(K:q4b l (qrj l []) L n=true)(A:List (Nat × Nat))(J:qba l=A)
  (st:List Nat) (F:stB l st=true) (H:List (List (Nat × Nat))) (E:(List.range l.length).map (qln (qrj l []) st)=H)
  (S:Nat→World→Prop) (R:World→World→Prop) (Φ:Nat→Value→World→Prop) (M:S 0 w.drew) (z:∀w,R w w) (f:∀i v w w' k T,S k w→S T w'→R w w'→Φ i v w→Φ i v w')
  (q:qbr P a S R Φ 0 l L H) (C:∀ql w,S st.length w→(∀i,i<l.length→Φ i (ql i) w)→Q .normal (putL a ql A) w) :
  (Code.region id l.toArray true).wp P Q a w:=by
 subst J
 refine wp_region_any N ?_
 have I:qex st (Array.replicate l.length false)=0:=List.countP_eq_zero.2 fun s _ h=>by rw[qbw] at h;cases h
 refine q4d (qv9 K) F E O z f q C _ _ a _ (fun _=>undef) ⟨by simp,by rw[List.size_toArray,I];exact M,?_,?_,rfl,rfl,fun _ _=>rfl,?_⟩ ?_
 ·intro i m;rw[qbw] at m;cases m
 ·intro i m;rw[qbw] at m;cases m
 ·intro i t m;rw[qbw] at m;cases m
 ·refine Nat.le_trans List.countP_le_length ?_;simp
end
end Go.Proofs.YtfmkdoachjgjbaaGreatDoor
