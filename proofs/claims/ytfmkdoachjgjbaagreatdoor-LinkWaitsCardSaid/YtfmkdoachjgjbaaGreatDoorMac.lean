/-
  Package digest: bytes (the bytes of eight letters).
-/
import Derived.Test.YtfmkdoachjgjbaaGreatDoorSha2
import Derived.Test.YtfmkdoachjgjbaaGreatDoorMaa
import Derived.Test.YtfmkdoachjgjbaaGreatDoorRows
import Derived.OpenShut
import Derived.Outline
import Derived.Lib.JoinLaws
import Derived.ArgAppend
import Derived.Laws.IdiomStrings
import Derived.Laws.Tables
import Derived.Laws.BitsAllLaws
import Derived.Laws.Bits64
import Derived.IntWalk
import Derived.Deep.CutRange
import Derived.BigRegion
import Derived.Deep.RegionLaw
set_option maxRecDepth 100000
set_option maxHeartbeats 1000000
set_option linter.unusedVariables false
set_option linter.unusedSimpArgs false
namespace Go.Proofs.YtfmkdoachjgjbaaGreatDoor
section
open Go.RowKit
def byI(h:List Int)(i:Nat):Int:=wd h (i / 4) / 2 ^ (24-8*(i%4))%256
def qfw(h:List Int)(n:Nat):List Int:=(List.range n).foldl (fun bs i=>bs.set i (byI h i)) (List.replicate 32 0)
theorem qhu(h:List Int):qfw h 0=List.replicate 32 0:=by unfold qfw;simp only[List.range_zero,List.foldl_nil]
theorem qht(h:List Int)(n:Nat):qfw h (n+1)=(qfw h n).set n (byI h n):=by simp[qfw,List.range_succ]
theorem qgw(h:List Int)(n:Nat):(qfw h n).length=32:=by
 induction n with
 | zero=>rw[qhu];simp
 | succ n f=>rw[qht];simp[f]
theorem Tryz.infoHash:(Tryz.prog.info? 35).map (·.size)=some 32:=by kernel_rfl
theorem qz8(h:List Int)(w:World)(hh:h.length=8)(hu:qen h) :
  Calls Tryz.prog 196 #[.agg (h.map (Value.int .u32)).toArray] w fun e w'=>e = .returned (.agg ((qfw h 32).map (Value.int .u8)).toArray)∧qu w w':=by
 obtain⟨C,E,F,H,I,J,K,L,rfl⟩:=qb0 hh
 simp only[List.map_cons,List.map_nil]
 go_enter Tryz.func196,Tryz.ntmps196
 go_upto_region 2 with fail
 obtain⟨z,m⟩:∃z:World,z=((w.alloc (.cells #[.int .u32 C,.int .u32 E,.int .u32 F,.int .u32 H,.int .u32 I,.int .u32 J,.int .u32 K,.int .u32 L] 295)).alloc (.cells #[.int .u8 0,.int .u8 0,.int .u8 0,.int .u8 0,.int .u8 0,.int .u8 0,.int .u8 0,.int .u8 0,.int .u8 0,.int .u8 0,.int .u8 0,.int .u8 0,.int .u8 0,.int .u8 0,.int .u8 0,.int .u8 0,.int .u8 0,.int .u8 0,.int .u8 0,.int .u8 0,.int .u8 0,.int .u8 0,.int .u8 0,.int .u8 0,.int .u8 0,.int .u8 0,.int .u8 0,.int .u8 0,.int .u8 0,.int .u8 0,.int .u8 0,.int .u8 0] 35)).alloc (.cells #[.int .u8 0,.int .u8 0,.int .u8 0,.int .u8 0,.int .u8 0,.int .u8 0,.int .u8 0,.int .u8 0,.int .u8 0,.int .u8 0,.int .u8 0,.int .u8 0,.int .u8 0,.int .u8 0,.int .u8 0,.int .u8 0,.int .u8 0,.int .u8 0,.int .u8 0,.int .u8 0,.int .u8 0,.int .u8 0,.int .u8 0,.int .u8 0,.int .u8 0,.int .u8 0,.int .u8 0,.int .u8 0,.int .u8 0,.int .u8 0,.int .u8 0,.int .u8 0] 35):=⟨_,rfl⟩
 have sA:z.heap.size=w.heap.size+3:=by rw[m];simp
 have nA:qu w z:=by rw[m];exact(((Upd.refl _ _).alloc _).alloc _).alloc _
 have vA:qbd .u32 z w.heap.size [C,E,F,H,I,J,K,L]:=by rw[m];exact⟨_,qq (qq (qh _ _) _) _⟩
 have vB:qbd .u8 z (w.heap.size+1+1) (List.replicate 32 0):=by
  rw[m];have:=qh ((w.alloc (.cells #[.int .u32 C,.int .u32 E,.int .u32 F,.int .u32 H,.int .u32 I,.int .u32 J,.int .u32 K,.int .u32 L] 295)).alloc (.cells #[.int .u8 0,.int .u8 0,.int .u8 0,.int .u8 0,.int .u8 0,.int .u8 0,.int .u8 0,.int .u8 0,.int .u8 0,.int .u8 0,.int .u8 0,.int .u8 0,.int .u8 0,.int .u8 0,.int .u8 0,.int .u8 0,.int .u8 0,.int .u8 0,.int .u8 0,.int .u8 0,.int .u8 0,.int .u8 0,.int .u8 0,.int .u8 0,.int .u8 0,.int .u8 0,.int .u8 0,.int .u8 0,.int .u8 0,.int .u8 0,.int .u8 0,.int .u8 0] 35)) (.cells #[.int .u8 0,.int .u8 0,.int .u8 0,.int .u8 0,.int .u8 0,.int .u8 0,.int .u8 0,.int .u8 0,.int .u8 0,.int .u8 0,.int .u8 0,.int .u8 0,.int .u8 0,.int .u8 0,.int .u8 0,.int .u8 0,.int .u8 0,.int .u8 0,.int .u8 0,.int .u8 0,.int .u8 0,.int .u8 0,.int .u8 0,.int .u8 0,.int .u8 0,.int .u8 0,.int .u8 0,.int .u8 0,.int .u8 0,.int .u8 0,.int .u8 0,.int .u8 0] 35);rw[World.size_alloc,World.size_alloc] at this;exact⟨_,this⟩
 have vR:qbd .u8 z (w.heap.size+1) (List.replicate 32 0):=by
  rw[m];have:=qh (w.alloc (.cells #[.int .u32 C,.int .u32 E,.int .u32 F,.int .u32 H,.int .u32 I,.int .u32 J,.int .u32 K,.int .u32 L] 295)) (.cells #[.int .u8 0,.int .u8 0,.int .u8 0,.int .u8 0,.int .u8 0,.int .u8 0,.int .u8 0,.int .u8 0,.int .u8 0,.int .u8 0,.int .u8 0,.int .u8 0,.int .u8 0,.int .u8 0,.int .u8 0,.int .u8 0,.int .u8 0,.int .u8 0,.int .u8 0,.int .u8 0,.int .u8 0,.int .u8 0,.int .u8 0,.int .u8 0,.int .u8 0,.int .u8 0,.int .u8 0,.int .u8 0,.int .u8 0,.int .u8 0,.int .u8 0,.int .u8 0] 35);rw[World.size_alloc] at this;exact⟨_,qq this _⟩
 rw[←m]
 clear m
 generalize P:w.heap.size=A at *
 have O:=qb P
 clear P
 obtain⟨wo,rfl⟩:∃wo:World,wo=z:=⟨_,rfl⟩
 have T:qen [C,E,F,H,I,J,K,L]:=hu
 generalize S:[C,E,F,H,I,J,K,L]=N at vA T
 have b7:N.length=8:=by rw[←S];rfl
 go_wp2_with fail
 go_loopw [4,5] (fun _ Z wr=>∃i:Nat,Z = .int .i64 (i:Int)∧i≤32∧qbd .u8 wr (A+1+1) (qfw N i)∧Upd (fun k=>k=A+1+1) wo wr) (fun _ Z _=>32-(intOf Z).toNat)
 case atStart=>exact⟨0,rfl,by omega,by rw[qhu];exact vB,Upd.refl _ _⟩
 case round =>
  obtain⟨i,rfl,hi,p,ur⟩:=hrel;by_cases b8:i<32
  ·have c0:wr.cell? ⟨A,i / 4,none⟩=some (.int .u32 (wd N (i / 4))):=(vA.upd ur (by omega)).cell (by omega);obtain⟨a0,a7⟩:=T.at (i / 4);obtain⟨v1,c1⟩:∃v,wr.cell? ⟨A+1+1,i,none⟩=some v:=⟨_,p.cell (by rw[qgw];omega)⟩;have z1:=p.free i;have a8:(i:Int)<32:=by omega
   have b3:IntKind.i64.wrap ((i:Int) / 4)=(i:Int) / 4:=IntWalk.i64_in _ (by omega);have b4:((i:Int) / 4).toNat=i / 4:=by omega
   have b5:(0:Int)≤(i:Int) / 4:=by omega
   have b6:(i:Int) / 4<8:=by omega
   have M:=p.set i (byI N i);rw[←qht] at M;have V:=qb M;clear M;go_wp2;have us:=ur.set1 i (.int .u8 (byI N i));go_roundw
   case rel=>exact⟨i+1,by go_num,by omega,qa V,us⟩
   case measure=>simp[intOf];omega
  ·obtain rfl:i=32:=by omega
   rw[show ((32:Nat):Int)=32 from rfl];have a6:=vR.upd ur (by omega);have nn:=nA.then ur (by intro q Y h;rw[qa O] at Y;omega);have f:=qgw N 32;subst S;generalize R:qfw [C,E,F,H,I,J,K,L] 32=bs at p f;have U:=qb R;clear R vA vB vR ur;obtain⟨TB,p⟩:=p;obtain⟨W,X⟩:=a6;go_upto_region 7 with fail;refine wp_region_lit ?_;refine wpList_load_row rfl _ _ rfl (A+1+1) rfl TB _ _ _ p Tryz.underlying35 rfl (by rw[List.size_toArray,List.length_map,f];exact Tryz.infoHash) ?_;refine wpList_store_row rfl _ _ _ rfl (A+1) (bs.map (Value.int .u8)).toArray rfl rfl W _ X (by rw[List.size_toArray,List.length_map,f];exact Tryz.infoHash) (by simp[f]) (by simp[Value.oneCell']) ?_;have hF:=setRow_heap wr (A+1) _ (bs.map (Value.int .u8)).toArray W (0,0) X;have uF:Upd (fun k=>k=A+1) wr (wr.setRow (A+1) (bs.map (Value.int .u8)).toArray):=⟨rfl,rfl,rfl,by simp,fun i _ hn=>setRow_other _ _ _ _ hn⟩;have nE:=nn.then uF (by intro q Y h;rw[qa O] at Y;omega);generalize wr.setRow (A+1) (bs.map (Value.int .u8)).toArray=wF at hF nE ⊢;clear uF nn p X;go_wp2_with fail;refine bodyPost_ret (results_cell_row rfl _ _ (A+1) W _ _ _ rfl hF Tryz.underlying35 rfl (by rw[List.size_toArray,List.length_map,f];exact Tryz.infoHash)) rfl ?_;exact⟨by rw[qa U],nE⟩
def qbp(_ _:World):Prop:=True
theorem qbp.all(w w':World):qbp w w':=trivial
def isV(xs:List Value)(i:Nat)(v:Value)(_:World):Prop:=v=xs.getD i undef
def QS(f:World)(_:Nat)(w:World):Prop:=Q f w
section
variable {P:Program}{l:List Oper}{A:List (List Nat)}{L:List (List (Nat × Nat))}{n:Nat}
def qe3(st:List Nat)(f:Array Bool):Nat:=st.countP fun s=>f.getD s false
def stB(l:List Oper)(st:List Nat):Bool:=decide st.Nodup&&st.all fun s=>decide (s<l.length)
def qlh(A:List (List Nat))(st:List Nat)(i:Nat):List (Nat × Nat) :=
 (List.range (st.countP (fun s=>s != i && !(A.getD s []).contains i)+1)).filterMap fun k =>
  if st.countP (fun s=>(A.getD i []).contains s)≤k then some (k,k+if st.contains i then 1 else 0) else none
theorem q3l{st:List Nat}{i:Nat}{f:Array Bool}(E:stB l st=true)(q:f.getD i false=false)(v:∀k∈A.getD i [],f.getD k false=true)(z:∀s,s∈st→i∈A.getD s []→f.getD s false=false) :
  (qe3 st f,qe3 st f+if st.contains i then 1 else 0)∈qlh A st i:=by
 unfold qlh
 rw[List.mem_filterMap]
 refine⟨qe3 st f,List.mem_range.2 ?_,?_⟩
 ·refine Nat.lt_succ_of_le (List.countP_mono_left fun s p m=> ?_);simp only[Bool.and_eq_true,bne_iff_ne,ne_eq,Bool.not_eq_true'];refine⟨?_,?_⟩
  ·rintro rfl;rw[q] at m;cases m
  ·cases C:(A.getD s []).contains i with
   | false=>rfl
   | true =>
    have:=z s p (List.contains_iff_mem.1 C);rw[this] at m;cases m
 ·rw[if_pos];exact List.countP_mono_left fun s _ p=>v s (List.contains_iff_mem.1 p)
theorem q2k{st:List Nat}{f:Array Bool}(m:stB l st=true)(p:∀i,i<l.length→f.getD i false=true):qe3 st f=st.length:=by
 unfold stB at m;simp only[Bool.and_eq_true,List.all_eq_true,decide_eq_true_eq] at m;exact List.countP_eq_length.2 fun s q=>p s (m.2 s q)
theorem q2l{st:List Nat}{f:Array Bool}{i:Nat}(m:stB l st=true)(H:i<f.size)(v:f.getD i false=false):qe3 st (f.setIfInBounds i true)=qe3 st f+if st.contains i then 1 else 0:=by
 unfold stB at m;simp only[Bool.and_eq_true,decide_eq_true_eq] at m;have C:=m.1;clear m;unfold qe3
 induction st with
 | nil=>rfl
 | cons s st z =>
  have z:=z C.tail;rw[List.countP_cons,List.countP_cons,z];by_cases h:s=i
  ·subst h;have q:st.contains s=false:=by
    cases F:st.contains s with
    | false=>rfl
    | true=>exact absurd (List.contains_iff_mem.1 F) (List.nodup_cons.1 C).1
   have p:(f.setIfInBounds s true).getD s false=true:=qey H;rw[p,v,q];simp
  ·have p:(f.setIfInBounds i true).getD s false=f.getD s false:=getD_set_ne false (fun e=>h e.symm);rw[p];have E:(s::st).contains i=st.contains i:=by
    rw[List.contains_cons];have:(i==s)=false:=by simpa using fun e=>h e.symm
    rw[this,Bool.false_or]
   rw[E];omega
def qtb(P:Program)(a0:Act)(S:Nat→World→Prop)(R:World→World→Prop)(Φ:Nat→Value→World→Prop)(i:Nat)(o:Oper)(Li:List (Nat × Nat))(Ti:List (Nat × Nat)):Prop :=
 ∀t∈Ti,∀(qj:Nat→Value) (w:World),S t.1 w→(∀p∈Li,Φ p.1 (qj p.1) w) →
  match o.guard with
  | none=>zm P o (putL a0 qj Li).eval w fun v w'=>R w w'∧S t.2 w'∧Φ i v w'
  | some (g,b)=>Φ g (qj g) w→(qj g = .bool b→zm P o (putL a0 qj Li).eval w fun v w'=>R w w'∧S t.2 w'∧Φ i v w')∧(qj g ≠ .bool b→S t.2 w∧Φ i undef w)
def qb7(P:Program)(a0:Act)(S:Nat→World→Prop)(R:World→World→Prop)(Φ:Nat→Value→World→Prop):Nat→List Oper→List (List (Nat × Nat))→List (List (Nat × Nat))→Prop
 | _,[],_,_=>True
 | i,o::os,L,T=>qtb P a0 S R Φ i o (L.headD []) (T.headD [])∧qb7 P a0 S R Φ (i+1) os L.tail T.tail
theorem qb7.nil{a0:Act}{S:Nat→World→Prop}{R:World→World→Prop}{Φ:Nat→Value→World→Prop}{i:Nat}{L T:List (List (Nat × Nat))} : qb7 P a0 S R Φ i [] L T:=trivial
theorem qb7.at{a0:Act}{S:Nat→World→Prop}{R:World→World→Prop}{Φ:Nat→Value→World→Prop} : ∀ {os:List Oper} {L T:List (List (Nat × Nat))} {k:Nat},qb7 P a0 S R Φ k os L T→∀(i:Nat) o,os[i]? = some o→qtb P a0 S R Φ (k+i) o (L.getD i []) (T.getD i [])
 | [],_,_,_,_,_,_,h=>by simp at h
 | o::os,L,T,k,h,0,m,f=>by
  simp only[List.getElem?_cons_zero,Option.some.injEq] at f;subst f;have:=h.1;cases L<;>cases T<;>exact this
 | o::os,L,T,k,h,i+1,m,f=>by
  have:=qb7.at h.2 i m (by simpa using f);rw[show k+(i+1)=k+1+i by omega];cases L<;>cases T<;>exact this
theorem qkb{o:Oper}{ρ:Operand→Value}{w:World}{K f:Value→World→Prop}(h:zm P o ρ w K)(k:∀v w',K v w'→f v w'):zm P o ρ w f:=by
 unfold zm at h ⊢;generalize (execOp ρ o).run P w=r at h ⊢;cases r with
 | ok n w' =>
  cases n<;>simp only at h ⊢
  ·exact k _ _ h
  ·exact k _ _ h
  ·refine h.mono fun e q i=> ?_
   obtain⟨v,p,m⟩:=i;exact⟨v,p,k _ _ m⟩
 | halt x w'=>simp only at h
theorem qb7.one{a0:Act}{S:Nat→World→Prop}{R:World→World→Prop}{Φ:Nat→Value→World→Prop}{i:Nat}{o:Oper}{os:List Oper}{Li:List (Nat × Nat)}{L T:List (List (Nat × Nat))}{k f:Nat}(p:o.guard=none)
  (h:∀(qj:Nat→Value) (w:World),S k w→q3s Φ qj w Li→zm P o (putL a0 qj Li).eval w fun v w'=>R w w'∧S f w'∧Φ i v w')
  (r:qb7 P a0 S R Φ (i+1) os L T):qb7 P a0 S R Φ i (o::os) (Li::L) ([(k,f)]::T) :=
 ⟨fun t z qj w m q=>by
  obtain rfl:=List.mem_singleton.1 z;rw[p];exact h qj w m (qnm q),r⟩
theorem qb7.pure{a0:Act}{S:Nat→World→Prop}{R:World→World→Prop}{Φ:Nat→Value→World→Prop}{i:Nat}{o:Oper}{os:List Oper}{Li Ti:List (Nat × Nat)}{L T:List (List (Nat × Nat))}(z:o.guard=none)(f:∀w,R w w)(p:(Ti.all fun t=>t.1==t.2)=true)
  (h:∀(qj:Nat→Value) (w:World),q3s Φ qj w Li→zm P o (putL a0 qj Li).eval w fun v w'=>w'=w∧Φ i v w)
  (r:qb7 P a0 S R Φ (i+1) os L T):qb7 P a0 S R Φ i (o::os) (Li::L) (Ti::T) :=
 ⟨fun t E qj w m C=>by
  rw[z];have e:t.1=t.2:=by simpa using List.all_eq_true.1 p t E
  rw[e] at m;exact qkb (h qj w (qnm C)) fun v w' q=>by
   obtain⟨rfl,F⟩:=q;exact⟨f _,m,F⟩,r⟩
structure DagInvP(l:List Oper)(A:List (List Nat))(st:List Nat)(a0:Act)(S:Nat→World→Prop)(Φ:Nat→Value→World→Prop)(listed:Array Bool)(a:Act)(w:World)(qj:Nat→Value):Prop where
 size:listed.size=l.length
 s:S (qe3 st listed) w
 phi:∀i,listed.getD i false=true→Φ i (qj i) w
 shut:∀i,listed.getD i false=true→∀k∈A.getD i [],listed.getD k false=true
 defers:a.defers=a0.defers
 tmps:a.tmps.size=a0.tmps.size
 other:∀t,(∀i,listed.getD i false=true→qbj l i≠some t)→a.tmps[t]? = a0.tmps[t]?
 at_:∀i t,listed.getD i false=true→qbj l i=some t→a.tmps[t]? = some (qj i)
theorem q4y(D:Dag l A L n){st:List Nat}(b3:stB l st=true){TS:List (List (Nat × Nat))}(c5:(List.range l.length).map (qlh A st)=TS){a0:Act}(hn:a0.tmps.size=n){S:Nat→World→Prop}{R:World→World→Prop}{Φ:Nat→Value→World→Prop}{Q:Exit→Act→World→Prop}
  (c3:∀w,R w w) (a6:∀i v w w' k k',S k w→S k' w'→R w w'→Φ i v w→Φ i v w') (b5:qb7 P a0 S R Φ 0 l L TS)
  (c4:∀qj w,S st.length w→(∀i,i<l.length→Φ i (qj i) w)→Q .normal (putL a0 qj (qa6 l)) w) :
  ∀(E:Nat) (f:Array Bool) (a:Act) (w:World) (qj:Nat→Value),DagInvP l A st a0 S Φ f a w qj→(List.range l.length).countP (fun i=> !f.getD i false)≤E→wpAny P .any l.toArray Q E f a w:=by
 have Y:∀(f:Array Bool) (a:Act) (w:World) (qj:Nat→Value),DagInvP l A st a0 S Φ f a w qj→Region.ready .any l.toArray f=[]→Q .normal a w:=by
  intro f a w qj I hr;have a7:∀(i:Nat),i<l.length→f.getD i false=true:=by
   intro i
   induction i using Nat.strongRecOn with
   | _ i ih =>
    intro N;cases hl:f.getD i false with
    | true=>rfl
    | false =>
     exfalso;have:i∈Region.ready .any l.toArray f:=by
      rw[mem_ready];have ho:l[i]? = some l[i]:=List.getElem?_eq_getElem N;refine⟨?_,l[i],by simp[N],fun e he hb=> ?_⟩
      ·rw[Array.getD_eq_getD_getElem?] at hl ⊢;have:i<f.size:=by rw[I.size];exact N
       rw[Array.getElem?_eq_getElem this] at hl ⊢;simpa using hl
      ·have T:=(D.edge i _ ho e he hb).1;have h2:=(D.anc i _ ho _ T).1;exact ih _ h2 (by omega)
     rw[hr] at this;cases this
  have ha:a=putL a0 qj (qa6 l):=by
   refine qv2 (by rw[qgk];exact I.defers) fun t=> ?_
   by_cases h:∃i,qbj l i=some t
   ·obtain⟨i,N⟩:=h;have F:=(qjs N).1;rw[I.at_ i t (a7 i F) N];have hm:(i,t)∈qa6 l:=by
     unfold qa6;rw[List.mem_filterMap];exact⟨i,List.mem_range.2 F,by rw[N];rfl⟩
    refine(qh4 qj (qa6 l) a0 (i,t) hm (fun q hq e=> ?_) (by rw[hn];exact(D.slot i t N).1)).symm;unfold qa6 at hq;rw[List.mem_filterMap] at hq;obtain⟨j,_,z⟩:=hq;rw[Option.map_eq_some_iff] at z;obtain⟨t',b4,rfl⟩:=z;simp only at e;subst e;exact(D.slot i _ N).2 j b4
   ·rw[I.other t fun i _ O=>h ⟨i,O⟩,qdp];intro p hp e;unfold qa6 at hp;rw[List.mem_filterMap] at hp;obtain⟨j,_,z⟩:=hp;rw[Option.map_eq_some_iff] at z;obtain⟨t',b4,rfl⟩:=z;exact h ⟨j,by rw[b4,←e]⟩
  rw[ha];exact c4 qj w (by have:=I.s;rwa [q2k b3 a7] at this) fun i N=>I.phi i (a7 i N)
 intro E
 induction E with
 | zero =>
  intro f a w qj I hc;have hr:Region.ready .any l.toArray f=[]:=by
   rw[List.eq_nil_iff_forall_not_mem];intro i N;obtain⟨h0,o,ho,_⟩:=mem_ready.1 N;have F:i<l.length:=by simpa using (Array.getElem?_eq_some_iff.1 ho).1
   have:(List.range l.length).countP (fun i=> !f.getD i false)=0:=by omega
   rw[List.countP_eq_zero] at this;have:=this i (List.mem_range.2 F);rw[Array.getD_eq_getD_getElem?] at h0 this;have O:i<f.size:=by rw[I.size];exact F
   rw[Array.getElem?_eq_getElem O] at h0 this;simp at h0 this;rw[h0] at this;cases this
  exact⟨hr,Y f a w qj I hr⟩
 | succ E ih =>
  intro f a w qj I hc;refine⟨fun hr=>Y f a w qj I hr,fun i N=> ?_⟩;obtain⟨h0,o,ho,b7⟩:=mem_ready.1 N;have F:i<l.length:=by simpa using (Array.getElem?_eq_some_iff.1 ho).1
  have O:i<f.size:=by rw[I.size];exact F
  have J:l[i]? = some o:=by simpa using ho
  have U:f.getD i false=false:=by
   rw[Array.getD_eq_getD_getElem?] at h0 ⊢;rw[Array.getElem?_eq_getElem O] at h0 ⊢;simpa using h0
  have M:∀k∈A.getD i [],f.getD k false=true:=by
   intro k hk;obtain⟨_,e,he,hb,h⟩:=D.anc i o J k hk;have T:=b7 e he hb;rcases h with rfl | h
   ·exact T
   ·exact I.shut _ T k h
  have a8:∀t∈o.looksAt l.toArray,a.tmps[t]? = (putL a0 qj (L.getD i [])).tmps[t]? := by
   intro t ht;by_cases h:∃j,f.getD j false=true∧qbj l j=some t
   ·obtain⟨j,z,C⟩:=h;rcases D.look i o J t ht j C with T | ⟨T,h2⟩
    ·have:=I.shut j z i T;rw[U] at this;cases this
    ·rw[I.at_ j t z C];refine(qh4 qj _ a0 (j,t) h2 (fun q hq e=> ?_) (by rw[hn];exact(D.slot j t C).1)).symm;have:=(D.lis i o J q hq).2;rw[e] at this;exact(D.slot j t C).2 _ this
   ·rw[I.other t fun j z O=>h ⟨j,z,O⟩,qdp];intro p hp e;obtain⟨T,h2⟩:=D.lis i o J p hp;exact h ⟨p.1,M _ T,by rw[h2,e]⟩
  have V:execOp a.eval o=execOp (putL a0 qj (L.getD i [])).eval o:=by
   refine execOp_congr o (D.sel i o J) fun x hx=> ?_
   cases x with
   | tmp t =>
    have:=a8 t (List.mem_append_left _ (List.mem_filterMap.2 ⟨.tmp t,by simpa using hx,rfl⟩));simp only[Act.eval,Array.getD_eq_getD_getElem?,this]
   | _=>rfl
  have X:=b5.at i o J;rw[Nat.zero_add] at X;have c6:=q3l (A:=A) (st:=st) b3 U (fun k hk=>M k hk) (fun s O N=>by
   cases hl:f.getD s false with
   | false=>rfl
   | true=>have:=I.shut s hl i N;rw[U] at this;cases this)
  have b6:TS.getD i []=qlh A st i:=by
   rw[←c5,List.getD_eq_getElem?_getD,List.getElem?_map,List.getElem?_range F];rfl
  have K:=X _ (by rw[b6];exact c6) qj w I.s fun p hp=>I.phi _ (M _ (D.lis i o J p hp).1)
  have next:∀v w',R w w'→S (qe3 st f+if st.contains i then 1 else 0) w'→Φ i v w'→wpAny P .any l.toArray Q E (f.setIfInBounds i true) (a.put o.dst v) w':=by
   intro v w' hR hS hΦ;have Z:qbj l i=o.dst:=by unfold qbj;rw[J];rfl
   refine ih (f.setIfInBounds i true) (a.put o.dst v) w' (fun j=>if j=i then v else qj j) ⟨?_,by rw[q2l b3 O U];exact hS,?_,?_,?_,?_,?_,?_⟩ ?_
   ·rw[Array.size_setIfInBounds];exact I.size
   ·intro j z;rcases (qac O).1 z with rfl | H
    ·simpa using hΦ
    ·have W:j≠i:=by rintro rfl;rw[U] at H;cases H
     simp only[if_neg W];exact a6 j _ w w' _ _ I.s hS hR (I.phi j H)
   ·intro j z k hk;refine(qac O).2 ?_;rcases (qac O).1 z with rfl | H
    ·exact .inr (M k hk)
    ·exact .inr (I.shut j H k hk)
   ·cases o.dst<;>exact I.defers
   ·cases hd:o.dst with
    | none=>exact I.tmps
    | some d=>simpa [Act.put] using I.tmps
   ·intro t ht;have T:=I.other t fun j z=>ht j ((qac O).2 (.inr z))
    have h2:=ht i ((qac O).2 (.inl rfl));rw[Z] at h2;cases hd:o.dst with
    | none=>exact T
    | some d =>
     have W:d≠t:=by rintro rfl;exact h2 hd
     simpa [Act.put,Array.getElem?_setIfInBounds_ne W] using T
   ·intro j t z C;rcases (qac O).1 z with rfl | H
    ·rw[Z] at C;rw[C,if_pos rfl];have:t<a.tmps.size:=by rw[I.tmps,hn];exact(D.slot j t (by rw[Z,C])).1
     simp[Act.put,this]
    ·have W:j≠i:=by rintro rfl;rw[U] at H;cases H
     rw[if_neg W];have T:=I.at_ j t H C;cases hd:o.dst with
     | none=>exact T
     | some d =>
      have c2:d≠t:=by
       rintro rfl;exact W ((D.slot i d (by rw[Z,hd])).2 j C)
      simpa [Act.put,Array.getElem?_setIfInBounds_ne c2] using T
   ·have T:(List.range l.length).countP (fun j=> !(f.setIfInBounds i true).getD j false)<(List.range l.length).countP (fun j=> !f.getD j false):=by
     have c1:i∈List.range l.length:=List.mem_range.2 F;obtain⟨s,r,c9⟩:=List.append_of_mem c1;rw[c9,List.countP_append,List.countP_append,List.countP_cons,List.countP_cons];have m:∀xs:List Nat,xs.countP (fun j=> !(f.setIfInBounds i true).getD j false)≤xs.countP (fun j=> !f.getD j false):=by
      intro xs;refine List.countP_mono_left fun j _ z=> ?_
      cases h:f.getD j false with
      | false=>rfl
      | true=>rw[(qac O).2 (.inr h)] at z;cases z
     have m1:=m s;have m2:=m r;rw[qey O,U];simp only[Bool.not_true,Bool.not_false,Bool.false_eq_true,if_false,if_true];omega
    omega
  unfold wpOp;rw[ho];simp only;cases hg:o.guard with
  | none =>
   rw[hg] at K;rw[if_pos (by unfold Region.wanted;rw[hg])];exact .inl (qhb V K fun v w' h=>next v w' h.1 h.2.1 h.2.2)
  | some gb =>
   obtain⟨g,b⟩:=gb;rw[hg] at K;obtain⟨c8,t,c0⟩:=D.guard i o J g b hg;have b9:=M g c8;have c7:=I.at_ g t b9 c0;obtain⟨p1,p2⟩:=K (I.phi g b9);have hy:Region.wanted o (yielded l.toArray a.tmps)=true↔qj g = .bool b:=by
    unfold Region.wanted yielded;rw[hg];have e1:(l.toArray[g]?).bind (·.dst)=some t:=by simpa [qbj] using c0
    simp only[e1,Option.bind_some,c7];constructor
    ·intro h;split at h
     ·rename_i b' b8;simp only[Option.some.injEq] at b8;simp at h;rw[b8,h]
     ·simp at h
    ·intro h;rw[h];simp
   by_cases hw:Region.wanted o (yielded l.toArray a.tmps)=true
   ·rw[if_pos hw];exact .inl (qhb V (p1 (hy.1 hw)) fun v w' h=>next v w' h.1 h.2.1 h.2.2)
   ·rw[if_neg hw];obtain⟨q1,q2⟩:=p2 fun h=>hw (hy.2 h)
    exact next undef w (c3 w) q1 q2
theorem qlj{id:Nat}{a:Act}{w:World}{Q:Exit→Act→World→Prop}(M:P.follows .mixedOrders=true)(L:List (List (Nat × Nat)))(n:Nat)(N:a.tmps.size=n)(J:q4w l (qrp l []) L n=true)(A:List (Nat × Nat))(I:qa6 l=A)
  (st:List Nat) (E:stB l st=true) (F:List (List (Nat × Nat))) (C:(List.range l.length).map (qlh (qrp l []) st)=F)
  (S:Nat→World→Prop) (R:World→World→Prop) (Φ:Nat→Value→World→Prop) (K:S 0 w.drew) (q:∀w,R w w) (f:∀i v w w' k O,S k w→S O w'→R w w'→Φ i v w→Φ i v w')
  (p:qb7 P a S R Φ 0 l L F) (z:∀qj w,S st.length w→(∀i,i<l.length→Φ i (qj i) w)→Q .normal (putL a qj A) w) :
  (Code.region id l.toArray true).wp P Q a w:=by
 subst I
 refine wp_region_any M ?_
 have H:qe3 st (Array.replicate l.length false)=0:=List.countP_eq_zero.2 fun s _ h=>by rw[qbt] at h;cases h
 refine q4y (qwn J) E C N q f p z _ _ a _ (fun _=>undef) ⟨by simp,by rw[List.size_toArray,H];exact K,?_,?_,rfl,rfl,fun _ _=>rfl,?_⟩ ?_
 ·intro i m;rw[qbt] at m;cases m
 ·intro i m;rw[qbt] at m;cases m
 ·intro i t m;rw[qbt] at m;cases m
 ·refine Nat.le_trans List.countP_le_length ?_;simp
end
def qij:Nat→List Int→ByteArray→List Int
 | 0,h,_=>h
 | n+1,h,s=>qij n (qkq h (s.extract 0 64)) (s.extract 64 s.size)
def zbn:Value→Nat
 | .string b=>b.size
 | _=>0
theorem qyz(n:Nat):∀(h:List Int) (s:ByteArray),h.length=8∧qen h→(qij n h s).length=8∧qen (qij n h s):=by
 induction n with
 | zero=>intro h s f;exact f
 | succ n i=>intro h s f;exact i _ _ (qr9 _ _ f)
def zee(f:World)(A:Nat)(r:List Int):Nat→World→Prop
 | 0,w=>qu f w
 | _,w=>Upd (fun k=>k=A) f w∧qbd .u32 w A r
theorem q1o{C:Array Value}{f:List Value}(h:C.size=f.length):qiz C 0 f=f.toArray:=by
 refine Array.ext_getElem? fun i=> ?_
 rw[qg5 C 0 f i (by omega)];by_cases q:i<f.length
 ·rw[if_pos (by omega)];simp
 ·have m:C[i]? = none:=Array.getElem?_eq_none (by omega);have p:f.toArray[i]? = none:=Array.getElem?_eq_none (by simp;omega);rw[if_neg (by omega),m,p]
theorem qbd.setAll{k:IntKind}{w:World}{b:Nat}{ws:List Int}(h:qbd k w b ws){r:List Int}(f:r.length=ws.length):qbd k (w.setCells b 0 (r.map (Value.int k))) b r:=by
 obtain⟨T,h⟩:=h;refine⟨T,(qa3 h 0 _).trans ?_⟩;rw[q1o (by simp[f])]
theorem qbd.stOk{k:IntKind}{w:World}{b:Nat}{ws:List Int}(h:qbd k w b ws){r:List Int}{n:Nat}(i:r.length=ws.length)(f:r.length=n):stOk w b 0 n (r.map (Value.int k)).toArray=true:=by
 obtain⟨T,h⟩:=h;refine qdf h (by simp;omega) (by simp;omega) ?_;rw[List.all_toArray,List.all_map,List.all_eq_true];intro x _;rfl
def zds(x:Value):Sem Value:=Instr.loadAt 295 x
theorem qou(x:Value):Instr.loadAt 295 x=zds x:=rfl
theorem zbb(b o:Nat)(w:World):(zds (.pointer (some ⟨b,o,none⟩))).run Tryz.prog w=match zj w b o 8 with | some A=> .ok (.agg A) w | none=>qc6 Tryz.prog 295 w b o :=
 zy 295 8 _ Tryz.underlying295 rfl Tryz.infoW8 b o w
def zd3(x v:Value):Sem Unit:=Instr.storeAt 295 x v
theorem qpe(x v:Value):Instr.storeAt 295 x v=zd3 x v:=rfl
theorem zbm(b o:Nat)(A:Array Value)(w:World):(zd3 (.pointer (some ⟨b,o,none⟩)) (.agg A)).run Tryz.prog w=if stOk w b o 8 A=true then .ok () (w.setCells b o A.toList) else qd3 Tryz.prog 295 w b o A :=
 qap 295 8 Tryz.infoW8 b o A w
attribute [local go_sem ↓ high] qou qpe
attribute [local go_sem] zbb zbm
theorem qwg(h:List Int)(s:ByteArray)(w:World)(hh:h.length=8)(hu:qen h)(hs:s.size≤1073741824)(b6:Tabs w) :
  Calls Tryz.prog 197 #[.agg (h.map (Value.int .u32)).toArray,.string s] w fun e w'=>e = .returned (.agg ((qij (s.size / 64) h s).map (Value.int .u32)).toArray)∧qu w w':=by
 have hw:=b6.lt
 obtain⟨h0,h1,h2,h3,h4,h5,h6,h7,rfl⟩:=qb0 hh
 simp only[List.map_cons,List.map_nil]
 go_enter Tryz.func197,Tryz.ntmps197
 go_upto_region 1 with fail
 obtain⟨wA,J⟩:∃wA:World,wA=(w.alloc (.cells #[.int .u32 h0,.int .u32 h1,.int .u32 h2,.int .u32 h3,.int .u32 h4,.int .u32 h5,.int .u32 h6,.int .u32 h7] 295)).alloc (.cells #[.int .u32 0,.int .u32 0,.int .u32 0,.int .u32 0,.int .u32 0,.int .u32 0,.int .u32 0,.int .u32 0] 295):=⟨_,rfl⟩
 have sA:wA.heap.size=w.heap.size+2:=by rw[J];simp
 have nA:qu w wA:=by rw[J];exact((Upd.refl _ _).alloc _).alloc _
 have vA:qbd .u32 wA w.heap.size [h0,h1,h2,h3,h4,h5,h6,h7]:=by rw[J];exact⟨_,qq (qh _ _) _⟩
 have vR:qbd .u32 wA (w.heap.size+1) [0,0,0,0,0,0,0,0]:=by
  rw[J];have:=qh (w.alloc (.cells #[.int .u32 h0,.int .u32 h1,.int .u32 h2,.int .u32 h3,.int .u32 h4,.int .u32 h5,.int .u32 h6,.int .u32 h7] 295)) (.cells #[.int .u32 0,.int .u32 0,.int .u32 0,.int .u32 0,.int .u32 0,.int .u32 0,.int .u32 0,.int .u32 0] 295);rw[World.size_alloc] at this;exact⟨_,this⟩
 rw[←J]
 clear J
 have TA:=b6.new nA
 generalize b5:w.heap.size=A at *
 have b4:=qb b5
 clear b5
 obtain⟨wo,rfl⟩:∃wo:World,wo=wA:=⟨_,rfl⟩
 generalize b7:[h0,h1,h2,h3,h4,h5,h6,h7]=X at vA hu
 have b8:X.length=8:=by rw[←b7];rfl
 go_wp2_with fail
 go_loopw [1,10] (fun sv _ wr=>∃(t:ByteArray) (hc:List Int),sv = .string t∧t.size≤s.size∧hc.length=8∧qen hc∧Hid (qij (t.size / 64) hc t=qij (s.size / 64) X s)∧qbd .u32 wr A hc∧Upd (fun k=>k=A) wo wr) (fun sv _ _=>zbn sv)
 case atStart=>exact⟨s,X,rfl,Nat.le_refl _,b8,hu,qb rfl,vA,Upd.refl _ _⟩
 case round =>
  obtain⟨t,hc,rfl,c8,a7,V,HE,hA,ur⟩:=hrel;obtain⟨K,L,M,N,O,P,R,S,rfl⟩:=qb0 a7;obtain⟨wq,rfl⟩:∃wq:World,wq=wr:=⟨_,rfl⟩;by_cases c6:64≤t.size
  ·have c7:=ur.size;have c0:(t.extract 0 64).size=64:=by rw[ByteArray.size_extract];omega
   have c3:=TA.upd ur (by omega) (by omega);have hC:∀W,qu wq W→_:=fun W n=>qr6 [K,L,M,N,O,P,R,S] (t.extract 0 64) W rfl V c0 (c3.new n)
   have b9:=qr9 [K,L,M,N,O,P,R,S] (t.extract 0 64) ⟨rfl,V⟩;have m:qij (t.size / 64) [K,L,M,N,O,P,R,S] t=qij ((t.extract 64 t.size).size / 64) (qkq [K,L,M,N,O,P,R,S] (t.extract 0 64)) (t.extract 64 t.size):=by
    obtain⟨n,hn⟩:∃n,t.size / 64=n+1:=⟨t.size / 64-1,by omega⟩;have:(t.extract 64 t.size).size / 64=n:=by rw[ByteArray.size_extract];omega
    rw[hn,this];rfl
   simp only[List.map_cons,List.map_nil] at hC;generalize qkq [K,L,M,N,O,P,R,S] (t.extract 0 64)=r at hC b9 m;obtain⟨r8,c4⟩:=b9;obtain⟨p,v,z,C,E,F,H,I,rfl⟩:=qb0 r8;simp only[List.map_cons,List.map_nil] at hC;have HC:=qb hC;have HN:=qb (m.symm.trans (qa HE));clear hC m HE r8;have HA:=qb hA;clear hA V a7;have t1:(64:Int)≤(t.size:Int):=by omega
   have t2:¬(t.size:Int)<64:=by omega
   go_wp2_with fail;refine qlj (by kernel_rfl) [[],[],[(1,12)],[(0,11),(2,13)],[(3,14)],[(4,10)],[(4,10)],[(5,15)]] 18 rfl (by kernel_rfl) [(0,11),(1,12),(2,13),(3,14),(4,10),(5,15),(6,16)] (by kernel_rfl) [7] (by kernel_rfl) [[(0,0)],[(0,0)],[(0,0)],[(0,0)],[(0,0)],[(0,0)],[(0,0),(1,1)],[(0,1)]] (by kernel_rfl)
    (zee wq A [p,v,z,C,E,F,H,I]) qbp
    (isV [.agg #[.int .u32 K,.int .u32 L,.int .u32 M,.int .u32 N,.int .u32 O,.int .u32 P,.int .u32 R,.int .u32 S],.string t,.string (t.extract 0 64),
     .tuple #[.agg #[.int .u32 p,.int .u32 v,.int .u32 z,.int .u32 C,.int .u32 E,.int .u32 F,.int .u32 H,.int .u32 I],.bool true],.tuple #[.agg #[.int .u32 p,.int .u32 v,.int .u32 z,.int .u32 C,.int .u32 E,.int .u32 F,.int .u32 H,.int .u32 I],.bool true],
     .agg #[.int .u32 p,.int .u32 v,.int .u32 z,.int .u32 C,.int .u32 E,.int .u32 F,.int .u32 H,.int .u32 I],.bool true,undef])
    ((Upd.refl _ _).drew) (fun _=>qbp.all _ _) (fun _ _ _ _ _ _ _ _ _ h=>h) ?_ ?_
   ·refine .one rfl ?_ <| .pure rfl (fun _=>qbp.all _ _) rfl ?_ <| .pure rfl (fun _=>qbp.all _ _) rfl ?_ <| .one rfl ?_ <| .pure rfl (fun _=>qbp.all _ _) rfl ?_ <| .pure rfl (fun _=>qbp.all _ _) rfl ?_ <| .pure rfl (fun _=>qbp.all _ _) rfl ?_ <| .one rfl ?_ <| .nil
    ·intro qj w1 i _;replace i:qu wq w1:=i;have hr:=((qa HA).upd i (fun h=>h)).row (n:=8) rfl;simp only[List.map_cons,List.map_nil] at hr;unfold zm;simp only[putL];go_simp;exact⟨qbp.all _ _,i,rfl⟩
    ·intro qj w1 _;unfold zm;simp only[putL];go_simp
     first | exact⟨rfl,rfl⟩ | rfl
    ·rintro qj w1 ⟨f,-⟩;replace f:qj 1 = .string t:=f;unfold zm;simp only[putL];go_simp
     first | exact⟨rfl,rfl⟩ | rfl
    ·rintro qj w1 i ⟨f,p1,-⟩;replace f:qj 0 = .agg #[.int .u32 K,.int .u32 L,.int .u32 M,.int .u32 N,.int .u32 O,.int .u32 P,.int .u32 R,.int .u32 S]:=f;replace p1:qj 2 = .string (t.extract 0 64):=p1;unfold zm;simp only[putL];go_simp;refine(qa HC w1 i).mono ?_;rintro e w2 ⟨rfl,n2⟩;exact⟨_,rfl,qbp.all _ _,Upd.trans i n2,rfl⟩
    ·rintro qj w1 ⟨f,-⟩;replace f:qj 3 = .tuple #[.agg #[.int .u32 p,.int .u32 v,.int .u32 z,.int .u32 C,.int .u32 E,.int .u32 F,.int .u32 H,.int .u32 I],.bool true]:=f;unfold zm;simp only[putL];go_simp
     first | exact⟨rfl,rfl⟩ | rfl
    ·rintro qj w1 ⟨f,-⟩;replace f:qj 4 = .tuple #[.agg #[.int .u32 p,.int .u32 v,.int .u32 z,.int .u32 C,.int .u32 E,.int .u32 F,.int .u32 H,.int .u32 I],.bool true]:=f;unfold zm;simp only[putL];go_simp
     first | exact⟨rfl,rfl⟩ | rfl
    ·rintro qj w1 ⟨f,-⟩;replace f:qj 4 = .tuple #[.agg #[.int .u32 p,.int .u32 v,.int .u32 z,.int .u32 C,.int .u32 E,.int .u32 F,.int .u32 H,.int .u32 I],.bool true]:=f;unfold zm;simp only[putL];go_simp
     first | exact⟨rfl,rfl⟩ | rfl
    ·rintro qj w1 i ⟨f,-⟩;replace i:qu wq w1:=i;replace f:qj 5 = .agg #[.int .u32 p,.int .u32 v,.int .u32 z,.int .u32 C,.int .u32 E,.int .u32 F,.int .u32 H,.int .u32 I]:=f;have hI:=(qa HA).upd i (fun h=>h);have a8:=hI.stOk (r:=[p,v,z,C,E,F,H,I]) (n:=8) rfl rfl;have a6:=hI.setAll (r:=[p,v,z,C,E,F,H,I]) rfl;simp only[List.map_cons,List.map_nil] at a8 a6;have c1:=qb a6;have Z:=((i.mono (T:=fun k=>k=A) (fun _ _ h=>h.elim)).then ((Upd.refl (· = A) w1).setCells 0 [.int .u32 p,.int .u32 v,.int .u32 z,.int .u32 C,.int .u32 E,.int .u32 F,.int .u32 H,.int .u32 I]) (fun _ _ h=>h));have c2:=qb Z;clear a6 Z hI;unfold zm;simp only[putL];go_simp
     first | exact⟨qbp.all _ _,⟨qa c2,qa c1⟩,rfl⟩ | (trace_state;sorry)
   ·intro qj w1 i Y;have v0:=Y 0 (by decide);have v1:=Y 1 (by decide);have v2:=Y 2 (by decide);have v3:=Y 3 (by decide);have v4:=Y 4 (by decide);have v5:=Y 5 (by decide);have v6:=Y 6 (by decide);clear Y;replace i:Upd (fun k=>k=A) wq w1∧qbd .u32 w1 A [p,v,z,C,E,F,H,I]:=i;obtain⟨Z,hI⟩:=i;have us:=ur.trans Z;simp only[putL,v0,v1,v2,v3,v4,v5,v6];clear HC HA Z ur v0 v1 v2 v3 v4 v5 v6;obtain⟨wz,rfl⟩:∃wz:World,wz=w1:=⟨_,rfl⟩;have HI:=qb hI;clear hI;go_simp;go_wp2;go_roundw
    case rel=>exact⟨t.extract 64 t.size,[p,v,z,C,E,F,H,I],rfl,by rw[ByteArray.size_extract];omega,rfl,c4,HN,qa HI,us⟩
    case measure=>simp[zbn];omega
  ·have c5:t.size<64:=by omega
   have hz:t.size / 64=0:=by omega
   have U:=qa HE;rw[hz] at U;replace U:=qb (show qij (s.size / 64) X s=[K,L,M,N,O,P,R,S] from U.symm);clear HE hz;have t1:(t.size:Int)<64:=by omega
   have t2:¬(64:Int)≤(t.size:Int):=by omega
   have b3:=vR.upd ur (by omega);have nn:=nA.then ur (by intro q hq h;rw[qa b4] at hq;omega);subst b7;clear vR ur V a7 TA b8 vA;have hr:=hA.row (n:=8) rfl;have a8:=b3.stOk (r:=[K,L,M,N,O,P,R,S]) (n:=8) rfl rfl;have hR:=b3.setAll (r:=[K,L,M,N,O,P,R,S]) rfl;simp only[List.map_cons,List.map_nil] at hr a8 hR;have HR:=qb hR;have Z:=nn.then ((Upd.refl (· = A+1) wq).setCells 0 [.int .u32 K,.int .u32 L,.int .u32 M,.int .u32 N,.int .u32 O,.int .u32 P,.int .u32 R,.int .u32 S]) (by intro q hq h;rw[qa b4] at hq;omega);have HU:=qb Z;clear hA b3 nn hR Z;go_wp2;obtain⟨TF,hF⟩:=qa HR;refine bodyPost_ret (results_cell_row rfl _ _ (A+1) TF _ _ _ rfl hF Tryz.underlying295 rfl (by exact Tryz.infoW8)) rfl ?_;refine⟨?_,qa HU⟩;rw[qa U]
end
section
open Go.RowKit
theorem Tryz.infoU8:(Tryz.prog.info? 5).map (fun i=>(i.zero,i.size,i.bytes))=some (some (.int .u8 0),1,1):=by kernel_rfl
def qby(w:World)(base:Nat)(v:Value)(xs:List Int):Prop:=w.ownsRow base 5 1 v xs.length (xs.map (Value.int .u8))
theorem qby.shape{w:World}{base:Nat}{v:Value}{xs:List Int}(h:qby w base v xs):∃a c,v = .slice a xs.length c:=by
 rcases h.2 with ⟨rfl,e⟩ | ⟨g,cap,f,rfl,_⟩
 ·exact⟨none,0,by rw[e]⟩
 ·exact⟨_,_,rfl⟩
theorem qby.ge{w:World}{base:Nat}{v:Value}{xs:List Int}(h:qby w base v xs){k:Nat}(f:v.ownBlock=some k):base≤k∧k<w.heap.size:=by
 rcases h.2 with ⟨rfl,_⟩ | ⟨g,cap,i,rfl,m,p,_⟩
 ·simp[Value.ownBlock] at f
 ·simp[Value.ownBlock] at f;subst f;exact⟨m,zr p⟩
theorem qby.upd{S:Nat→Prop}{w w':World}{base:Nat}{v:Value}{xs:List Int}(h:qby w base v xs)(u:Upd S w w')(p:∀k,v.ownBlock=some k→¬S k):qby w' base v xs:=by
 refine⟨h.1,?_⟩;rcases h.2 with h | ⟨g,cap,f,i,m,q,r⟩
 ·exact .inl h
 ·exact .inr ⟨g,cap,f,i,m,u.old q (p g (by rw[i];rfl)),r⟩
theorem qby.new{w w':World}{base:Nat}{v:Value}{xs:List Int}(h:qby w base v xs)(u:qu w w'):qby w' base v xs:=h.upd u (fun _ _ h=>h)
theorem qby.nil(w:World)(base:Nat):qby w base (.slice none 0 0) []:=⟨rfl,.inl ⟨rfl,rfl⟩⟩
theorem qby.made(w:World)(base:Nat)(xs:List Int)(f:base≤w.heap.size)(i:xs.length≤1073741824):qby (w.alloc (.cells (xs.map (Value.int .u8)).toArray 5)) base (.slice (some ⟨w.heap.size,0,none⟩) xs.length xs.length) xs:=by
 refine⟨by simp,.inr ⟨w.heap.size,xs.length,_,rfl,f,qh _ _,Nat.le_refl _,by unfold maxLen;omega,by simp,?_⟩⟩;simp;exact List.take_of_length_le (by simp)
theorem qir{p:Array Oper}{rest:List Oper}{o:Oper}{a:Act}{Q:Exit→Act→World→Prop}(z:o.guard=none)(s x:Operand)
  (M:o.op = .call {callee:= .builtin .append,args:=#[s,x],argTypes:=#[95,95]})
  (base:Nat) (v:Value) (xs:List Int) (N:a.eval s=v) (c:Int) (T:TypeId) (w:World) (P:a.eval x = .slice (some ⟨w.heap.size,0,none⟩) 1 1) (m:qby w base v xs) (S:xs.length≤1073741824) (R:base≤w.heap.size)
  (h:∀q w',qby w' base q (xs++[c])→Upd (fun k=>v.ownBlock=some k) w w'→wpList Tryz.prog p Q rest (a.put o.dst q) w') :
  wpList Tryz.prog p Q (o::rest) a (w.alloc (.cells #[.int .u8 c] T)):=by
 obtain⟨i,K,E,F,H⟩:=info_parts Tryz.infoU8
 have I:(w.alloc (.cells #[.int .u8 c] T)).ownsRow base 5 1 v xs.length (xs.map (Value.int .u8)):=m.new ((Upd.refl _ _).alloc _)
 refine wpList_append_own _ z s x 95 M base 5 i (.int .u8 0) 1 1 Tryz.underlying95 K E F H rfl (by decide) v xs.length _ N I ⟨w.heap.size,0,none⟩ 1 1 [.int .u8 c] P rfl ?_ ?_ (by unfold maxLen;omega) (by omega) (by simp;omega) ?_
 ·intro j u L;have f:(⟨w.heap.size,0,none⟩:Addr).add j=⟨w.heap.size,j,none⟩:=by unfold Addr.add;split<;>simp_all
  rw[f,qg (qh _ _)];simpa using L
 ·intro u O;obtain rfl:=List.mem_singleton.1 O;rfl
 ·intro q w' C J _;refine h q w' ?_ ((((Upd.refl _ w).alloc _)).grown J (fun k e _=>e));unfold qby;rw[List.length_append,List.map_append];exact C
theorem qi7{w:World}{base:Nat}{v:Value}{xs:List Int}(h:qby w base v xs):(convert 95 9 v).run Tryz.prog w = .ok (.string (strOfNums xs)) w:=by
 rcases h.2 with ⟨rfl,e⟩ | ⟨g,cap,f,rfl,C,z,E,F,H,p⟩
 ·rw[List.eq_nil_of_length_eq_zero e];exact run_convert_bytes_nil w 95 5 Tryz.underlying95 Tryz.underlying5 0 0 9 Tryz.underlying9
 ·refine run_convert_bytes_arg w 95 5 Tryz.underlying95 Tryz.underlying5 g 0 xs.length cap xs rfl (fun i m=> ?_) 9 Tryz.underlying9;have q:f.toList[i]? = (xs.map (Value.int .u8))[i]? := by rw[←p,List.getElem?_take_of_lt (by omega)]
  rw[Nat.zero_add,qg z i,←Array.getElem?_toList,q,List.getElem?_map,List.getElem?_eq_getElem m];simp[List.getD,List.getElem?_eq_getElem m]
def qc8(n:Nat):Nat:=(119-n%64)%64
theorem qk7(n:Nat):qc8 n<64:=Nat.mod_lt _ (by decide)
theorem q93(n k:Nat)(h:k<qc8 n):(n+(k+1)+8)%64≠0:=by unfold qc8 at h;omega
theorem qzi(n:Nat):(n+(qc8 n+1)+8)%64=0:=by unfold qc8;omega
def qi1(n i:Nat):Int:=(8*n:Int) / 2 ^ (56-8*i)%256
def qmt(n:Nat):List Int:=(128::List.replicate (qc8 n) 0)++(List.range 8).map (qi1 n)
theorem ql2(n:Nat):(qmt n).length=qc8 n+9:=by simp[qmt]
theorem q8a(n:Nat)(w:World)(Y:n≤1073741824) :
  Calls Tryz.prog 213 #[.int .u64 n] w (qa1 (.string (strOfNums (qmt n))) w):=by
 have Z:=qk7 n
 go_enter Tryz.func213,Tryz.ntmps213
 go_wp2_with fail
 have I:=qby.made w w.heap.size [128] (Nat.le_refl _) (by decide)
 have P:Upd (fun k=>w.heap.size≤k) w (w.alloc (.cells #[.int .u8 128] 5)):=(Upd.refl _ _).alloc _
 simp only[List.map_cons,List.map_nil,List.length_cons,List.length_nil,Nat.zero_add] at I
 generalize w.alloc (.cells #[.int .u8 128] 5)=wa at I P ⊢
 have m:=qb I
 clear I
 go_loopw [3] (fun z wr=>∃(k:Nat) (a:Option Addr) (c:Nat),z = .slice a (k+1) c∧k≤qc8 n∧Hid (qby wr w.heap.size z (128::List.replicate k 0))∧Upd (fun k=>w.heap.size≤k) w wr) (fun z _=>100-(match z with | .slice _ l _=>l | _=>0))
 case atStart=>exact⟨0,_,_,rfl,Nat.zero_le _,m,P⟩
 case round =>
  obtain⟨k,a,c,rfl,X,m,ur⟩:=hrel;by_cases F:k<qc8 n
  ·have C:=q93 n k F;have S:((((n:Int)+((k:Int)+1))+8)%64 != 0)=true:=by rw[bne_iff_ne];omega
   have K:(k:Int)<64:=by omega
   have L:(n:Int)≤1073741824:=by omega
   have J:=ur.size;clear C;go_wp2_with (at_builtin;refine qir rfl (.tmp 14) (.tmp 15) rfl w.heap.size _ _ rfl 0 _ _ rfl (qa m) (by simp;omega) J ?_);intro V O f H;have N:=ur.then H (fun q _ h=>((qa m).ge h).1);obtain⟨a5,E,rfl⟩:=f.shape;replace f:qby O w.heap.size (Value.slice a5 (128::(List.replicate k (0:Int)++[0])).length E) (128::(List.replicate k 0++[0])):=f
   rw[←List.replicate_succ'] at f;simp only[List.length_append,List.length_cons,List.length_replicate,List.length_nil,Nat.zero_add] at f ⊢;have v:=qb f;clear f H m;go_wp2;go_roundw
   case rel=>exact⟨k+1,a5,E,rfl,by omega,v,N⟩
   case measure=>simp;omega
  ·obtain rfl:k=qc8 n:=by omega
   have C:=qzi n;have S:((((n:Int)+((qc8 n:Int)+1))+8)%64 != 0)=false:=by rw[bne_eq_false_iff_eq];omega
   have K:(qc8 n:Int)<64:=by omega
   have L:(n:Int)≤1073741824:=by omega
   obtain⟨R,rfl⟩:∃R:World,R=wr:=⟨_,rfl⟩;clear C;go_wp2_with fail
   go_loopw [3,4,17] (fun z _ M wr=>∃(i:Nat) (a:Option Addr) (c:Nat),M = .int .i64 (i:Int)∧i≤8∧z = .slice a (qc8 n+1+i) c∧Hid (qby wr w.heap.size z ((128::List.replicate (qc8 n) 0)++(List.range i).map (qi1 n)))∧Upd (fun k=>w.heap.size≤k) w wr) (fun _ _ M _=>8-(intOf M).toNat)
   case atStart=>exact⟨0,_,_,rfl,by omega,rfl,by simpa using m,ur⟩
   case round =>
    obtain⟨i,a,c,rfl,W,rfl,m,ur⟩:=hrel;by_cases F:i<8
    ·have T:(i:Int)<8:=by omega
     have J:=ur.size;go_wp2_with (at_builtin;refine qir rfl (.tmp 20) (.tmp 28) rfl w.heap.size _ _ rfl _ _ _ rfl (qa m) (by simp;omega) J ?_);intro V O f H;have N:=ur.then H (fun q _ h=>((qa m).ge h).1);obtain⟨a5,E,rfl⟩:=f.shape;have p:(128::(List.replicate (qc8 n) (0:Int)++((List.range i).map (qi1 n)++[8*(n:Int) / 2 ^ (56-8*i)%256]))).length=qc8 n+1+(i+1):=by simp;omega
     rw[p] at f ⊢;replace f:qby O w.heap.size (.slice a5 (qc8 n+1+(i+1)) E) ((128::List.replicate (qc8 n) 0)++(List.range (i+1)).map (qi1 n)):=by
      rw[List.range_succ,List.map_append,←List.append_assoc];have e:(128::List.replicate (qc8 n) (0:Int))++(List.range i).map (qi1 n)++[qi1 n i]=128::(List.replicate (qc8 n) 0++((List.range i).map (qi1 n)++[8*(n:Int) / 2 ^ (56-8*i)%256])):=by simp[qi1]
      exact e▸f
     clear p;have v:=qb f;clear f H m;go_wp2;go_roundw
     case rel=>exact⟨i+1,a5,E,by go_num,by omega,rfl,v,N⟩
     case measure=>simp[intOf];omega
    ·obtain rfl:i=8:=by omega
     rw[show ((8:Nat):Int)=8 from rfl];have U:=qi7 (qa m);go_wp2;go_ret;exact⟨rfl,ur.below' (Nat.le_refl _) (fun _ h=>h) |> fun h=>Upd.of_below h (Nat.le_refl _)⟩
theorem q94(s:ByteArray)(w:World)(q:s.size≤1073741824) :
  Calls Tryz.prog 198 #[.string s] w (qa1 (.string (s++strOfNums (qmt s.size))) w):=by
 have p:(s.size:Int)≤1073741824:=by omega
 have v:=qk7 s.size
 have f:(strOfNums (qmt s.size)).size=qc8 s.size+9:=by rw[strOfNums_size,ql2]
 generalize qc8 s.size=z at v f
 go_enter Tryz.func198,Tryz.ntmps198
 go_wp2_with fail
 refine(q8a s.size w q).mono ?_
 rintro e w1 ⟨rfl,C⟩
 generalize i:strOfNums (qmt s.size)=t at f ⊢
 have m:=qb i
 clear i
 go_wp2
 go_ret
 exact⟨by rw[qa m];rfl,C⟩
theorem qpz{w:World}{b n:Nat}{A:Array Value}(z:0<n)(v:A.size=n)(h:∀j,j<n→w.cell? ⟨b,j,none⟩=A[j]?):zj w b 0 n=some A:=by
 have f:=h (n-1) (by omega);rw[Array.getElem?_eq_getElem (by omega)] at f;unfold zj;unfold World.cell? at h f;cases m:w.heap[b]? with
 | none=>rw[m] at f;cases f
 | some ob =>
  simp only[m] at h f;cases ob with
  | cells C T q =>
   simp only at h f ⊢;have E:=(Array.getElem?_eq_some_iff.1 f).1;rw[if_pos (by omega)];congr 1;refine Array.ext_getElem? fun i=> ?_
   rw[Array.getElem?_extract];by_cases p:i<n
   ·rw[if_pos (by omega),Nat.zero_add];exact h i p
   ·rw[if_neg (by omega),Array.getElem?_eq_none (by omega)]
  | _=>cases f
theorem Tabs.row{w:World}(h:Tabs w):zj w 1 0 8=some (qhz.map (Value.int .u32)).toArray:=by
 refine qpz (by decide) rfl fun j f=> ?_
 rw[h.start j f]
 match j,f with
 | 0,_=>rfl
 | 1,_=>rfl
 | 2,_=>rfl
 | 3,_=>rfl
 | 4,_=>rfl
 | 5,_=>rfl
 | 6,_=>rfl
 | 7,_=>rfl
theorem qkv:qen qhz:=by unfold qen qhz;decide
def qhc(s:ByteArray):ByteArray:=s++strOfNums (qmt s.size)
def qek(s:ByteArray):List Int:=qfw (qij ((qhc s).size / 64) qhz (qhc s)) 32
theorem qb5(s:ByteArray):(qek s).length=32:=qgw _ _
def za3(x:Value):Sem Value:=Instr.loadAt 35 x
theorem qi0(x:Value):Instr.loadAt 35 x=za3 x:=rfl
theorem qxh(b o:Nat)(w:World):(za3 (.pointer (some ⟨b,o,none⟩))).run Tryz.prog w=match zj w b o 32 with | some A=> .ok (.agg A) w | none=>qc6 Tryz.prog 35 w b o :=
 zy 35 32 _ Tryz.underlying35 rfl Tryz.infoHash b o w
def zbe(x v:Value):Sem Unit:=Instr.storeAt 35 x v
theorem qja(x v:Value):Instr.storeAt 35 x v=zbe x v:=rfl
theorem qyc(b o:Nat)(A:Array Value)(w:World):(zbe (.pointer (some ⟨b,o,none⟩)) (.agg A)).run Tryz.prog w=if stOk w b o 32 A=true then .ok () (w.setCells b o A.toList) else qd3 Tryz.prog 35 w b o A :=
 qap 35 32 Tryz.infoHash b o A w
attribute [local go_sem ↓ high] qou qpe qi0 qja
attribute [local go_sem] zbb zbm qxh qyc
def zcw(f:World)(A:Nat)(r:List Int):Nat→World→Prop
 | 0,w=>qu f w
 | _,w=>Upd (fun k=>k=A) f w∧qbd .u8 w A r
theorem qgn(s:ByteArray)(w:World)(hs:s.size≤1000000000)(hT:Tabs w) :
  Calls Tryz.prog 164 #[.string s] w fun e w'=>e = .returned (.agg ((qek s).map (Value.int .u8)).toArray)∧qu w w':=by
 have hl:(qhc s).size≤1073741824:=by
  unfold qhc;rw[ByteArray.size_append,strOfNums_size,ql2];have:=qk7 s.size;omega
 have N:=fun W=>q94 s W (by omega)
 have M:=fun W h1=>qwg qhz (qhc s) W rfl qkv hl h1
 have J:=fun W=>qz8 (qij ((qhc s).size / 64) qhz (qhc s)) W (qyz _ _ _ ⟨rfl,qkv⟩).1 (qyz _ _ _ ⟨rfl,qkv⟩).2
 have i:=qb5 s
 change ∀W,Calls _ _ _ _ (qa1 (.string (qhc s)) W) at N
 change ∀W,Calls _ _ _ _ (fun e w'=>e = .returned (.agg ((qek s).map (Value.int .u8)).toArray)∧qu W w') at J
 have HF:=qb (rfl:qek s=qek s)
 go_enter Tryz.func164,Tryz.ntmps164
 go_upto_region 1 with fail
 obtain⟨T0,S⟩:∃T,(w.alloc (.cells #[.int .u8 0,.int .u8 0,.int .u8 0,.int .u8 0,.int .u8 0,.int .u8 0,.int .u8 0,.int .u8 0,.int .u8 0,.int .u8 0,.int .u8 0,.int .u8 0,.int .u8 0,.int .u8 0,.int .u8 0,.int .u8 0,.int .u8 0,.int .u8 0,.int .u8 0,.int .u8 0,.int .u8 0,.int .u8 0,.int .u8 0,.int .u8 0,.int .u8 0,.int .u8 0,.int .u8 0,.int .u8 0,.int .u8 0,.int .u8 0,.int .u8 0,.int .u8 0] 35)).heap[w.heap.size]? = some (.cells ((List.replicate 32 0).map (Value.int .u8)).toArray T (0,0)):=⟨_,qh _ _⟩
 have Z:qu w (w.alloc (.cells #[.int .u8 0,.int .u8 0,.int .u8 0,.int .u8 0,.int .u8 0,.int .u8 0,.int .u8 0,.int .u8 0,.int .u8 0,.int .u8 0,.int .u8 0,.int .u8 0,.int .u8 0,.int .u8 0,.int .u8 0,.int .u8 0,.int .u8 0,.int .u8 0,.int .u8 0,.int .u8 0,.int .u8 0,.int .u8 0,.int .u8 0,.int .u8 0,.int .u8 0,.int .u8 0,.int .u8 0,.int .u8 0,.int .u8 0,.int .u8 0,.int .u8 0,.int .u8 0] 35)):=(Upd.refl _ _).alloc _
 generalize w.alloc (.cells #[.int .u8 0,.int .u8 0,.int .u8 0,.int .u8 0,.int .u8 0,.int .u8 0,.int .u8 0,.int .u8 0,.int .u8 0,.int .u8 0,.int .u8 0,.int .u8 0,.int .u8 0,.int .u8 0,.int .u8 0,.int .u8 0,.int .u8 0,.int .u8 0,.int .u8 0,.int .u8 0,.int .u8 0,.int .u8 0,.int .u8 0,.int .u8 0,.int .u8 0,.int .u8 0,.int .u8 0,.int .u8 0,.int .u8 0,.int .u8 0,.int .u8 0,.int .u8 0] 35)=v at S Z ⊢
 have z:=i
 have H0:qbd .u8 v w.heap.size (List.replicate 32 0):=⟨T0,S⟩
 have HT:=qb (hT.new Z)
 generalize U:qij ((qhc s).size / 64) qhz (qhc s)=R at M J
 generalize H:qek s=p at J i z
 generalize Y:qhc s=ps at N M hl
 have HP:=qb N
 have HB:=qb M
 have HY:=qb J
 have P:=qb H
 have L:=qb i
 have I:=H0.stOk (r:=p) (n:=32) (by simpa using z) z
 clear N M J U H Y z S hT i HF
 refine qlj (by kernel_rfl) [[],[],[(1,4)],[(0,3),(2,5)],[(3,6)],[(4,7)]] 8 rfl (by kernel_rfl) [(0,3),(1,4),(2,5),(3,6),(4,7)] (by kernel_rfl) [5] (by kernel_rfl) [[(0,0)],[(0,0)],[(0,0)],[(0,0)],[(0,0)],[(0,1)]] (by kernel_rfl)
  (zcw v w.heap.size p) qbp (isV [.agg (qhz.map (Value.int .u32)).toArray,.string s,.string ps,.agg (R.map (Value.int .u32)).toArray,.agg (p.map (Value.int .u8)).toArray,undef])
  ((Upd.refl _ _).drew) (fun _=>qbp.all _ _) (fun _ _ _ _ _ _ _ _ _ h=>h) ?_ ?_
 ·refine .one rfl ?_ <| .pure rfl (fun _=>qbp.all _ _) rfl ?_ <| .one rfl ?_ <| .one rfl ?_ <| .one rfl ?_ <| .one rfl ?_ <| .nil
  ·intro qj w1 f _;replace f:qu v w1:=f;have z:=((qa HT).new f).row;generalize (qhz.map (Value.int .u32)).toArray=hB at z ⊢;unfold zm;simp only[putL];go_simp;exact⟨qbp.all _ _,f,rfl⟩
  ·intro qj w1 _;unfold zm;simp only[putL];go_simp
   first | exact⟨rfl,rfl⟩ | rfl
  ·rintro qj w1 f ⟨m,-⟩;replace f:qu v w1:=f;replace m:qj 1 = .string s:=m;unfold zm;simp only[putL];go_simp;refine(qa HP w1).mono ?_;rintro e w2 ⟨rfl,K⟩;exact⟨_,rfl,qbp.all _ _,f.trans K,rfl⟩
  ·rintro qj w1 f ⟨m,p1,-⟩;replace f:qu v w1:=f;replace m:qj 0 = .agg (qhz.map (Value.int .u32)).toArray:=m;replace p1:qj 2 = .string ps:=p1;have C:=qb (qa HB w1 ((qa HT).new f));generalize (qhz.map (Value.int .u32)).toArray=hB at m C;unfold zm;simp only[putL];go_simp;refine(qa C).mono ?_;rintro e w2 ⟨rfl,K⟩;exact⟨_,rfl,qbp.all _ _,f.trans K,rfl⟩
  ·rintro qj w1 f ⟨m,-⟩;replace f:qu v w1:=f;replace m:qj 3 = .agg (R.map (Value.int .u32)).toArray:=m;have C:=qb (qa HY w1);generalize (R.map (Value.int .u32)).toArray=hB at m C;unfold zm;simp only[putL];go_simp;refine(qa C).mono ?_;rintro e w2 ⟨rfl,K⟩;exact⟨_,rfl,qbp.all _ _,f.trans K,rfl⟩
  ·rintro qj w1 f ⟨m,-⟩;replace f:qu v w1:=f;replace m:qj 4 = .agg (p.map (Value.int .u8)).toArray:=m;have E:=H0.upd f (fun h=>h);have I:=E.stOk (r:=p) (n:=32) (by simpa using qa L) (qa L);have F:=qb (E.setAll (r:=p) (by simpa using qa L));have O:=qb ((f.mono (T:=fun k=>k=w.heap.size) (fun _ _ h=>h.elim)).then ((Upd.refl (· = w.heap.size) w1).setCells 0 (p.map (Value.int .u8))) (fun _ _ h=>h));have e0:(p.map (Value.int .u8)).toArray.toList=p.map (Value.int .u8):=rfl;generalize X:(p.map (Value.int .u8)).toArray=cs at m I e0;generalize V:p.map (Value.int .u8)=cl at e0 F O;clear X V E;unfold zm;simp only[putL];go_simp;exact⟨qbp.all _ _,⟨qa O,qa F⟩,rfl⟩
 ·intro qj w1 f hv;clear hv;replace f:Upd (fun k=>k=w.heap.size) v w1∧qbd .u8 w1 w.heap.size p:=f;obtain⟨O,T1,E⟩:=f;simp only[putL];have nE:=Z.then O (by intro q hq h;omega);go_wp2_with fail;refine bodyPost_ret (results_cell_row rfl _ _ w.heap.size T1 _ _ _ rfl E Tryz.underlying35 rfl (by rw[List.size_toArray,List.length_map,qa L];exact Tryz.infoHash)) rfl ?_;exact⟨by rw[qa P],nE⟩
end
section
open Go.RowKit
def qdv(w:World)(base:Nat)(v:Value)(xs:List Int):Prop :=
 ∃g cap f i,v = .slice (some ⟨g,0,none⟩) xs.length cap∧base≤g∧w.heap[g]? = some (.cells f 5 i)∧(i=(0,0)∨f.size≤i.1)∧xs.length≤cap∧f.size=cap∧f.toList.take xs.length=xs.map (Value.int .u8)
theorem qdv.shape{w:World}{base:Nat}{v:Value}{xs:List Int}(h:qdv w base v xs):∃a c,v = .slice (some a) xs.length c:=by
 obtain⟨g,cap,f,i,rfl,_⟩:=h;exact⟨_,_,rfl⟩
theorem qdv.ge{w:World}{base:Nat}{v:Value}{xs:List Int}(h:qdv w base v xs){k:Nat}(f:v.ownBlock=some k):base≤k∧k<w.heap.size:=by
 obtain⟨g,cap,i,q,rfl,m,p,_⟩:=h;simp[Value.ownBlock] at f;subst f;exact⟨m,zr p⟩
theorem qdv.ofO{w:World}{base:Nat}{v:Value}{xs:List Int}(h:qby w base v xs)(E:0<xs.length):qdv w base v xs:=by
 rcases h.2 with ⟨rfl,e⟩ | ⟨g,cap,f,rfl,i,q,m,z,C,p⟩
 ·omega
 ·exact⟨g,cap,f,(0,0),rfl,i,q,.inl rfl,m,by omega,by simpa using p⟩
def qc1(s:ByteArray):List Int:=s.data.toList.map fun c=>(c.toNat:Int)
theorem qj5(s:ByteArray):(qc1 s).length=s.size:=by
 unfold qc1;rw[List.length_map,Array.length_toList];rfl
theorem qdv.ofS(w:World)(s:ByteArray)(cap base:Nat)(i:base≤w.heap.size)(m:s.size≤cap) :
  qdv (w.drew.alloc (.cells (bytesRow s cap) 5 ((bytesRow s cap).size,(bytesRow s cap).size+1))) base (.slice (some ⟨w.heap.size,0,none⟩) s.size cap) (qc1 s):=by
 have f:(bytesRow s cap).size=cap:=by
  unfold bytesRow;have:s.data.size=s.size:=rfl;simp;omega
 refine⟨w.heap.size,cap,bytesRow s cap,((bytesRow s cap).size,(bytesRow s cap).size+1),by rw[qj5],i,?_,.inr (Nat.le_refl _),by rw[qj5];exact m,f,?_⟩
 ·exact qh w.drew _
 ·unfold bytesRow qc1;rw[Array.toList_append,List.take_append_of_le_length (by simp)];simp;rw[List.take_of_length_le (by simp)];rfl
theorem qhq{N:Array Oper}{rest:List Oper}{o:Oper}{a:Act}{Q:Exit→Act→World→Prop}(K:o.guard=none)(s x:Operand)
  (ho:o.op = .call {callee:= .builtin .append,args:=#[s,x],argTypes:=#[95,95]})
  (base:Nat) (v:Value) (xs:List Int) (hs:a.eval s=v) (c:Int) (T:TypeId) (w:World) (hx:a.eval x = .slice (some ⟨w.heap.size,0,none⟩) 1 1) (M:qdv w base v xs) (hl:xs.length≤1073741824) (hb:base≤w.heap.size)
  (h:∀P w',qdv w' base P (xs++[c])→Upd (fun k=>v.ownBlock=some k) w w'→wpList Tryz.prog N Q rest (a.put o.dst P) w') :
  wpList Tryz.prog N Q (o::rest) a (w.alloc (.cells #[.int .u8 c] T)):=by
 obtain⟨i,hi,Y,m,Z⟩:=info_parts Tryz.infoU8
 obtain⟨g,cap,f,R,rfl,e2,hg,O,e3,e4,e6⟩:=M
 have C:(w.alloc (.cells #[.int .u8 c] T)).heap[g]? = some (.cells f 5 R):=qq hg _
 have F:∀j u,[Value.int .u8 c][j]? = some u→(w.alloc (.cells #[.int .u8 c] T)).cell? ((⟨w.heap.size,0,none⟩:Addr).add j)=some u:=by
  intro j u E;have q:(⟨w.heap.size,0,none⟩:Addr).add j=⟨w.heap.size,j,none⟩:=by unfold Addr.add;split<;>simp_all
  rw[q,qg (qh _ _)];simpa using E
 have H:∀u∈[Value.int .u8 c],u.oneCell'=true:=by
  intro u hu;obtain rfl:=List.mem_singleton.1 hu;rfl
 by_cases z:xs.length+1≤cap
 ·refine wpList_append_room_src _ K s x 95 95 ho 5 i Tryz.underlying95 hi g 0 xs.length cap hs _ hx 1 [.int .u8 c] (Src.ofSlice _ Tryz.underlying95 ⟨w.heap.size,0,none⟩ 1 1 _ (by rw[m];rfl) F H) z ?_ ?_ ?_
  ·intro j E;rw[qg C];simp only[List.length_cons,List.length_nil] at E;rw[Array.getElem?_eq_getElem (by rw[m];omega)];rfl
  ·intro j E;simp only[List.length_cons,List.length_nil] at E;have a7:0+xs.length*i.size+j<f.size:=by rw[m];omega
   unfold World.frozen?;rw[C];rcases O with rfl | O
   ·simp
   ·obtain⟨lo,a6⟩:=R;simp only at O ⊢;rw[show decide (lo≤0+xs.length*i.size+j)=false by simpa using by omega];rfl
  ·refine h _ _ ⟨g,cap,f.setIfInBounds xs.length (.int .u8 c),R,by simp,e2,?_,by simpa using O,by simpa using z,by simpa using e4,?_⟩ ?_
   ·have:=zt C (0+xs.length*i.size) (.int .u8 c);rw[show 0+xs.length*i.size=xs.length by rw[m];omega] at this;simpa [World.setCells,m] using this
   ·rw[List.length_append,List.map_append,Array.toList_setIfInBounds];simp only[List.length_cons,List.length_nil,List.map_cons,List.map_nil,Nat.zero_add];have X:xs.length<f.toList.length:=by
     have h9:f.toList.length=f.size:=Array.length_toList;omega
    rw[List.take_add_one,List.take_set_of_le (Nat.le_refl _),e6,List.getElem?_set_self X];rfl
   ·have u0:Upd (fun k=>(Value.slice (some ⟨g,0,none⟩) xs.length cap).ownBlock=some k) w (w.alloc (.cells #[.int .u8 c] T)):=(Upd.refl _ _).alloc _;simp only[World.setCells];exact u0.setCell (p:=⟨g,0+xs.length*i.size,none⟩) (fun _=>rfl) _
 ·refine wpList_append_grows _ K s x 95 ho 5 i (.int .u8 0) 1 1 Tryz.underlying95 hi Y m Z rfl (by decide) (some ⟨g,0,none⟩) xs.length cap (xs.map (Value.int .u8)) hs (fun h=>by cases h) (by simp) ?_ ⟨w.heap.size,0,none⟩ 1 1 [.int .u8 c] hx rfl F H (by omega) (by unfold maxLen;omega) (by omega) ?_
  ·intro b U j u E;obtain rfl:(⟨g,0,none⟩:Addr)=b:=Option.some.inj U;have W:j<xs.length:=by
    have:=(List.getElem?_eq_some_iff.1 E).1;simpa using this
   have q:(⟨g,0,none⟩:Addr).add j=⟨g,j,none⟩:=by unfold Addr.add;split<;>simp_all
   rw[q,qg C,←Array.getElem?_toList];rw[←e6,List.getElem?_take_of_lt W] at E;exact E
  ·intro P w' L V;refine h P w' (qdv.ofO (xs:=xs++[c]) ?_ (by simp)) ((((Upd.refl _ w).alloc _)).grown V (fun k e _=>by cases e));unfold qby;rw[List.length_append,List.map_append];refine⟨L.1,?_⟩;rcases L.2 with S | ⟨g2,I,J,h1,S,h3⟩
   ·exact .inl S
   ·exact .inr ⟨g2,I,J,h1,by simp at S;omega,h3⟩
theorem qs1{w:World}{base:Nat}{v:Value}{xs:List Int}(h:qdv w base v xs):(convert 95 9 v).run Tryz.prog w = .ok (.string (strOfNums xs)) w:=by
 obtain⟨g,cap,f,H,rfl,C,z,I,E,F,p⟩:=h;refine run_convert_bytes_arg w 95 5 Tryz.underlying95 Tryz.underlying5 g 0 xs.length cap xs rfl (fun i m=> ?_) 9 Tryz.underlying9;have q:f.toList[i]? = (xs.map (Value.int .u8))[i]? := by rw[←p,List.getElem?_take_of_lt (by omega)]
 rw[Nat.zero_add,qg z i,←Array.getElem?_toList,q,List.getElem?_map,List.getElem?_eq_getElem m];simp[List.getD,List.getElem?_eq_getElem m]
section
variable {P:Program}{ops:Array Oper}{rest:List Oper}{o:Oper}{a:Act}{w w':World}{Q:Exit→Act→World→Prop}
theorem zg{v:Value}(i:o.guard=none)(h:(execOp a.eval o).run P w = .ok (.value v) w')(k:wpList P ops Q rest (a.put o.dst v) w'):wpList P ops Q (o::rest) a w :=
 wpList_plain i fun K f=>by
  unfold Oper.wp;rw[h];exact f _ _ k
theorem qdb{f:FuncId}{args:Array Value}(q:o.guard=none)(h:(execOp a.eval o).run P w = .ok (.enter f args) w')
  (k:Calls P f args w' fun e i=>∃v,e = .returned v∧wpList P ops Q rest (a.put o.dst v) i):wpList P ops Q (o::rest) a w :=
 wpList_plain q fun K m=>by
  unfold Oper.wp;rw[h];simp only[Oper.upon];refine k.mono fun e i p=> ?_
  obtain⟨v,rfl,z⟩:=p;exact m _ _ z
end
theorem Upd.setRow{S:Nat→Prop}{a w:World}(h:Upd S a w){g:Nat}(p:g<a.heap.size→S g)(cs:Array Value):Upd S a (w.setRow g cs) :=
 ⟨h.os,h.tape,h.output,by simpa using h.size,fun i f m=>by
  rw[setRow_other _ _ _ _ (show i≠g from fun e=>m (e▸p (e▸f)))];exact h.block i f m⟩
def q9y(n:Nat)(f:Nat):List Int:=(List.range f).map fun k=>(n:Int) / 2 ^ (8*(f-1-k))%256
theorem q64(n f:Nat):(q9y n f).length=f:=by simp[q9y]
def zc(n f:Nat):ByteArray:=strOfNums (q9y n f)
theorem qak(n f:Nat):(zc n f).size=f:=by unfold zc;rw[strOfNums_size,q64]
def Wr(w:World)(g:Nat)(s:ByteArray):Prop:=w.heap[g]? = some (.cells #[.string s] 174 (0,0))
theorem Wr.new{w w':World}{g:Nat}{s:ByteArray}(h:Wr w g s)(n:qu w w'):Wr w' g s:=n.old h (fun h=>h)
theorem Wr.lt{w:World}{g:Nat}{s:ByteArray}(h:Wr w g s):g<w.heap.size:=zr h
def qge(w:World)(b:Nat)(ws:List Int):Prop:=∃T,w.heap[b]? = some (.cells (ws.map (Value.int .u8)).toArray T (0,0))
def qsr(n f m:Nat):List Int:=(List.range m).map fun k=>(n:Int) / 2 ^ (8*(f-1-k))%256
theorem qdo(g n f:Nat)(s:ByteArray)(w:World)(hg:Wr w g s)(b9:1≤f)(c1:f≤8)(hn:n<2 ^ (8*f))(hs:s.size≤1073741824) :
  Calls Tryz.prog 92 #[.pointer (some ⟨g,0,none⟩),.int .u64 n,.int .i64 f] w fun e w'=>e = .returned (.int .i64 0)∧Upd (fun k=>k=g) w w'∧Wr w' g (s++zc n f):=by
 have p:n<18446744073709551616:=Nat.lt_of_lt_of_le hn (by
  have:(2:Nat) ^ (8*f)≤2 ^ 64:=Nat.pow_le_pow_right (by decide) (by omega);exact this)
 have a6:(n:Int) / 2 ^ (8*f)=0:=by
  refine Int.ediv_eq_zero_of_lt (by omega) ?_;exact_mod_cast hn
 have b5:(1:Int)≤f:=by omega
 have b6:(f:Int)≤8:=by omega
 have a8:(8*(f:Int)).toNat=8*f:=by omega
 have J:decide ((f:Int)<1)=false:=by simp;omega
 have X:decide ((8:Int)<(f:Int))=false:=by simp;omega
 have K:¬(f:Int)<1:=by omega
 have I:¬(8:Int)<(f:Int):=by omega
 have C:(n:Int)<18446744073709551616:=by omega
 go_enter Tryz.func92,Tryz.ntmps92
 go_wp2_with fail
 clear a6 a8 J X K I
 have b7:=hg.lt
 go_loopw [7,8] (fun bv iv wr=>∃(m:Nat) (a:Option Addr) (c:Nat),iv = .int .i64 ((f:Int)-1-(m:Int))∧m≤f∧bv = .slice a m c∧Hid (qby wr w.heap.size bv (qsr n f m))∧Upd (fun k=>w.heap.size≤k) w wr) (fun _ iv _=>(intOf iv+1).toNat)
 case atStart=>exact⟨0,_,_,by simp,Nat.zero_le _,rfl,qb (qby.nil _ _),Upd.refl _ _⟩
 case round =>
  obtain⟨m,a,c,rfl,hm,rfl,R,ur⟩:=hrel;by_cases J:m<f
  ·have b8:(m:Int)<(f:Int):=by omega
   have hb:=ur.size;have ht:(8*((f:Int)-1-(m:Int))).toNat=8*(f-1-m):=by omega
   have Z:∀k:Nat,(n:Int) / 2 ^ k<18446744073709551616∧0≤(n:Int) / 2 ^ k:=fun k=>by
    have Z:(1:Int)≤2 ^ k:=Int.pow_pos (by decide);exact⟨Int.lt_of_le_of_lt (Int.ediv_le_self _ (by omega)) C,Int.ediv_nonneg (by omega) (by omega)⟩
   obtain⟨q1,q0⟩:=Z (8*(f-1-m));have a7:IntKind.u64.wrap ((n:Int) / 2 ^ (8*(f-1-m)))=(n:Int) / 2 ^ (8*(f-1-m)):=by rw[IntKind.wrap_u64];omega
   have b3:=qb (And.intro p C);have M:(qsr n f m).length≤1073741824:=by simp[qsr];omega
   have N:qsr n f (m+1)=qsr n f m++[(n:Int) / 2 ^ (8*(f-1-m))%256]:=by unfold qsr;rw[List.range_succ,List.map_append];rfl
   have v:(qsr n f (m+1)).length=m+1:=by simp[qsr]
   have E:=qb N;have V:=qb v;have Y:0≤(f:Int)-1-(m:Int):=by omega
   clear Z N v q1 p C;go_wp2_with (at_builtin;refine qir rfl (.tmp 28) (.tmp 34) rfl w.heap.size _ _ rfl _ _ _ rfl (qa R) M hb ?_);intro v' w5 i u5;have u6:=ur.then u5 (fun q _ h=>((qa R).ge h).1);rw[←qa E] at i;obtain⟨a5,c5,rfl⟩:=i.shape;rw[qa V] at i ⊢;have U:=qb i;clear i u5 R E q0 M ht Y a7;go_wp2;go_roundw
   case rel=>exact⟨m+1,a5,c5,by congr 1;omega,by omega,rfl,U,u6⟩
   case measure=>simp[intOf];omega
  ·obtain rfl:m=f:=by omega
   rw[show (m:Int)-1-(m:Int) = -1 by omega];have P:=qi7 (((qa R).upd ((Upd.refl (fun _=>False) wr).drew) (fun _ _ h=>h)));have z:=ur.old hg (fun h=>by omega);have c0:=qg z 0;have z0:=qo z 0;simp at c0;have L:strOfNums (qsr n m m)=zc n m:=rfl;rw[L] at P;have hq:=qak n m;generalize O:zc n m=q at P hq ⊢;have W:=qb O;clear O;have F:=zt z 0 (.string (s++q));have nW:qu w wr:=Upd.of_below (ur.below' (Nat.le_refl _) (fun _ h=>h)) (Nat.le_refl _);have uW:Upd (fun k=>k=g) w (wr.setCell ⟨g,0,none⟩ (.string (s++q))):=(nW.mono (T:=fun k=>k=g) (fun _ _ h=>h.elim)).set1 0 _;have S:=qb F;clear F nW ur;clear L;have b4:¬9223372036854775807<s.size+m:=by omega
   go_wp2_with fail;go_region_law (fail)
   all_goals
    have H:=qa S;generalize wr.setCell ⟨g,0,none⟩ (.string (s++q))=wS at H uW ⊢;go_wp2;go_ret;exact⟨rfl,uW.drew,by rw[qa W];exact H⟩
theorem qge.drew{w:World}{b:Nat}{ws:List Int}(h:qge w b ws):qge w.drew b ws:=h
theorem qdd{w:World}{b:Nat}{xs:List Int}(h:qge w b xs)(n:Nat)(f:xs.length=n):(convert 95 9 (.slice (some ⟨b,0,none⟩) n n)).run Tryz.prog w = .ok (.string (strOfNums xs)) w:=by
 obtain⟨T,h⟩:=h;exact qc5 w 95 9 5 Tryz.underlying95 Tryz.underlying5 Tryz.underlying9 b n xs T (0,0) n f h
theorem qua(g:Nat)(h:List Int)(s:ByteArray)(w:World)(H:Wr w g s)(I:h.length=32)(R:s.size≤1073741824) :
  Calls Tryz.prog 189 #[.pointer (some ⟨g,0,none⟩),.agg (h.map (Value.int .u8)).toArray] w fun e w'=>e = .returned (.tuple #[])∧Upd (fun k=>k=g) w w'∧Wr w' g (s++strOfNums h):=by
 have P:(strOfNums h).size=32:=by rw[strOfNums_size,I]
 generalize p:(h.map (Value.int .u8)).toArray=K
 go_enter Tryz.func189,Tryz.ntmps189
 go_upto_region 1 with fail
 have F:qge (w.alloc (.cells K 35)) w.heap.size h:=⟨_,by rw[p];exact qh _ _⟩
 have z:qu w (w.alloc (.cells K 35)):=(Upd.refl _ _).alloc _
 have O:=H.lt
 have f:=H.new z
 generalize w.alloc (.cells K 35)=w1 at F z f ⊢
 have J:=qdd (F.drew) 32 I
 have N:=qg f 0
 have z0:=qo f 0
 simp at N
 generalize v:strOfNums h=q at J P
 have E:=qb v
 have i:=zt f 0 (.string (s++q))
 have M:Upd (fun k=>k=g) w (w1.setCell ⟨g,0,none⟩ (.string (s++q))):=(z.mono (T:=fun k=>k=g) (fun _ _ h=>h.elim)).set1 0 _
 have C:=qb i
 have L:¬9223372036854775807<s.size+32:=by omega
 clear v i z F p f H I
 go_region_law (fail)
 all_goals
  have m:=qa C;generalize w1.setCell ⟨g,0,none⟩ (.string (s++q))=S at m M ⊢;go_end0;exact⟨rfl,M.drew,by rw[qa E];exact m⟩
theorem qfx(g:Nat)(s:ByteArray)(w:World)(f:Wr w g s) :
  Calls Tryz.prog 93 #[.pointer (some ⟨g,0,none⟩)] w fun e w'=>e = .returned (.string s)∧w=w':=by
 have i:=qg f 0
 simp at i
 clear f
 go_enter Tryz.func93,Tryz.ntmps93
 go_wp2
 go_ret
 exact⟨rfl,rfl⟩
end
end Go.Proofs.YtfmkdoachjgjbaaGreatDoor
