/-
  view.Tag.
-/
import Derived.Test.YtfmkdoachjgjbaaGreatDoorMbh
import Derived.Test.YtfmkdoachjgjbaaGreatDoorSl1
import Derived.Test.YtfmkdoachjgjbaaGreatDoorMba
import Derived.Test.YtfmkdoachjgjbaaGreatDoorVw5
import Derived.Test.YtfmkdoachjgjbaaGreatDoorMag
set_option linter.unusedVariables false
set_option linter.unusedSimpArgs false
namespace Go.Proofs.YtfmkdoachjgjbaaGreatDoor
open Go.RowKit Go.Sort
theorem qx9(ch n A B:Int)(X:List Item):(qh8 ch n A B X).size=30+57*X.length:=by
 unfold qh8;rw[qp9,qof]
set_option maxRecDepth 100000 in
set_option maxHeartbeats 2000000 in
theorem q7u(key:ByteArray)(ch n A B:Int)(u:Value)(X:List Item)(hl:X.length≤1000000)(H:∀x∈X,HtlcOk x.h)(w:World)(hT:Tabs w)(hk:key.size≤100000000)(V:0≤ch∧ch<4294967296)(Y : -9223372036854775808≤n∧n≤9223372036854775807)
  (S:0≤A∧A<18446744073709551616) (T:0≤B∧B<18446744073709551616) (hu:qd4 w u X) :
  Calls Tryz.prog 120 #[.string key,.int .u32 ch,.int .i64 n,.agg #[.int .u64 A,.int .u64 B,u]] w fun e w'=>e = .returned (.agg ((qpv key (qh8 ch n A B X)).map (Value.int .u8)).toArray)∧qq w w':=by
 have E:=qb (fun W (m:qq w W)=>q7n ch n A B u X (by omega) H W V Y S T (hu.new m))
 have J:(qh8 ch n A B X).size≤100000000:=by rw[qx9];omega
 have C:=qb (fun W h=>q9p key (qh8 ch n A B X) W hk J h)
 have i:(qpv key (qh8 ch n A B X)).length=32:=by unfold qpv;exact qb5 _
 generalize U:qpv key (qh8 ch n A B X)=out at C i
 have HO:=qb U
 generalize qh8 ch n A B X=tx at E C HO
 clear S T Y V H J U
 go_enter Tryz.func120,Tryz.ntmps120
 go_upto_region 0 with fail
 refine wp_region_lit ?_
 refine zi rfl (v:= .pointer (some ⟨w.heap.size,0,none⟩)) (w':=w.alloc (.cells #[.int .u64 A,.int .u64 B,u] 201)) (by simp only[execOp];go_simp) ?_
 have F:=qj w (.cells #[.int .u64 A,.int .u64 B,u] 201)
 have L:qq w (w.alloc (.cells #[.int .u64 A,.int .u64 B,u] 201)):=(Upd.refl _ _).alloc _
 generalize w.alloc (.cells #[.int .u64 A,.int .u64 B,u] 201)=w1 at F L ⊢
 refine zi rfl (v:= .pointer (some ⟨w1.heap.size,0,none⟩)) (w':=w1.alloc (.cells qej 35)) (by kernel_rfl) ?_
 have M:qq w1 (w1.alloc (.cells qej 35)):=(Upd.refl _ _).alloc _
 have q:=qj w1 (.cells qej 35)
 generalize w1.alloc (.cells qej 35)=K at M q ⊢
 replace F:=M.old F (fun h=>h)
 have z:=L.trans M
 have I:=L.size
 go_upto_region 1 with fail
 refine wp_region_lit ?_
 refine zi rfl (v:= .string key) (w':=K) (by kernel_rfl) ?_
 refine zi rfl (v:= .int .u32 ch) (w':=K) (by kernel_rfl) ?_
 refine zi rfl (v:= .int .i64 n) (w':=K) (by kernel_rfl) ?_
 refine wpList_load_row rfl _ _ rfl w.heap.size (by kernel_rfl) 201 _ _ _ F Tryz.underlying201 rfl (by kernel_rfl) ?_
 refine qdb rfl (f:=157) (args:=#[.int .u32 ch,.int .i64 n,.agg #[.int .u64 A,.int .u64 B,u]]) (w':=K) (by kernel_rfl) ?_
 refine(qa E K z).mono ?_
 rintro e w3 ⟨rfl,O⟩
 refine⟨_,rfl,?_⟩
 replace q:=O.old q (fun h=>h)
 replace z:=z.trans O
 refine qdb rfl (f:=156) (args:=#[.string key,.string tx]) (w':=w3) (by kernel_rfl) ?_
 refine(qa C w3 (hT.new z)).mono ?_
 rintro e w4 ⟨rfl,P⟩
 refine⟨_,rfl,?_⟩
 replace q:=P.old q (fun h=>h)
 replace z:=z.trans P
 refine wpList_store_row rfl _ _ _ rfl w1.heap.size (out.map (Value.int .u8)).toArray (by kernel_rfl) (by kernel_rfl) 35 _ q (by rw[List.size_toArray,List.length_map,i];exact Tryz.infoHash) (by have h9:qej.size=32:=rfl;rw[h9];simp[i]) (by simp[Value.oneCell']) ?_
 have N:=setRow_heap w4 w1.heap.size _ (out.map (Value.int .u8)).toArray 35 (0,0) q
 have Z:=z.setRow (g:=w1.heap.size) (fun h=>by omega) (out.map (Value.int .u8)).toArray
 generalize w4.setRow w1.heap.size (out.map (Value.int .u8)).toArray=wF at N Z ⊢
 generalize w1.heap.size=R at N ⊢
 clear O P q F L M z I
 go_wp2_with fail
 refine bodyPost_ret (results_cell_row rfl _ _ R 35 _ _ _ (by kernel_rfl) N Tryz.underlying35 rfl (by rw[List.size_toArray,List.length_map,i];exact Tryz.infoHash)) rfl ?_
 exact⟨rfl,Z⟩
attribute [local go_sem ↓ high] qbc qbo
attribute [local go_sem] qdi qdx
def chg(ev:Int)(x:Live):Bool:=qcr x.state x.own ev != x.state
def qa7(ev:Int)(xs:List Live):Bool:=xs.any (chg ev)
set_option maxRecDepth 100000 in
set_option maxHeartbeats 4000000 in
theorem qmh(v:Value)(xs:List Live)(ev:Int)(hl:xs.length≤1048576)(w:World)(hG:Glob w)(Z:qgo w v xs) :
  Calls Tryz.prog 118 #[v,.int .i64 ev] w (qa5 (.bool (qa7 ev xs)) w):=by
 have P:∃a c,v = .slice a xs.length c:=by
  rcases Z with ⟨_,_,rfl,rfl⟩ | ⟨g,off,cap,rfl,_⟩
  ·exact⟨_,_,rfl⟩
  ·exact⟨_,_,rfl⟩
 obtain⟨va,vc,rfl⟩:=P
 go_enter Tryz.func118,Tryz.ntmps118
 go_wp2_with fail
 go_loopw [9] (fun S wr=>∃n:Nat,S = .int .i64 (n:Int)∧n≤xs.length∧Hid (qa7 ev (xs.take n)=false)∧qq w wr) (fun S _=>xs.length-(intOf S).toNat)
 case atStart=>exact⟨0,rfl,Nat.zero_le _,qb rfl,Upd.refl _ _⟩
 case round =>
  obtain⟨n,rfl,hn,U,F⟩:=hrel;by_cases E:n<xs.length
  ·obtain⟨x,N⟩:∃x,xs[n]? = some x:=⟨_,List.getElem?_eq_getElem E⟩;rcases Z.new F with ⟨_,_,e,e2⟩ | ⟨g,off,cap,e,X⟩
   ·rw[e2] at E;simp at E
   ·cases e;have q:=X.row N;have a6:(n:Int)<(xs.length:Int):=by omega
    have J:stOk (wr.alloc (.cells #[.int .u64 0,.int .u64 0,.int .u8 0,.int .u8 0,.int .u8 0,.int .u8 0,.int .u8 0,.int .u8 0,.int .u8 0,.int .u8 0,.int .u8 0,.int .u8 0,.int .u8 0,.int .u8 0,.int .u8 0,.int .u8 0,.int .u8 0,.int .u8 0,.int .u8 0,.int .u8 0,.int .u8 0,.int .u8 0,.int .u8 0,.int .u8 0,.int .u8 0,.int .u8 0,.int .u8 0,.int .u8 0,.int .u8 0,.int .u8 0,.int .u8 0,.int .u8 0,.int .u8 0,.int .u8 0,.int .i64 0,.bool false,.int .i64 0,.bool false] 69)) wr.heap.size 0 38 (qm x).toArray=true:=qdu (qj _ _) (by decide) (by rw[List.size_toArray,qbj]) (by rw[List.all_toArray,List.all_eq_true];exact qe3 x);have i:=qkz wr #[.int .u64 0,.int .u64 0,.int .u8 0,.int .u8 0,.int .u8 0,.int .u8 0,.int .u8 0,.int .u8 0,.int .u8 0,.int .u8 0,.int .u8 0,.int .u8 0,.int .u8 0,.int .u8 0,.int .u8 0,.int .u8 0,.int .u8 0,.int .u8 0,.int .u8 0,.int .u8 0,.int .u8 0,.int .u8 0,.int .u8 0,.int .u8 0,.int .u8 0,.int .u8 0,.int .u8 0,.int .u8 0,.int .u8 0,.int .u8 0,.int .u8 0,.int .u8 0,.int .u8 0,.int .u8 0,.int .i64 0,.bool false,.int .i64 0,.bool false] 69 (qm x) (by rw[qbj];rfl);have K:=qfe x;have L:=qff x;have Y:qa7 ev (xs.take (n+1))=chg ev x:=by
     have:=qa U;unfold qa7 at this ⊢;rw[List.take_add_one,N,List.any_append,this];simp
    have V:=qb Y;have HX:=qb N;clear Y X N;generalize qm x=C at q J i K L;go_upto_region 4 with fail;obtain⟨z,I⟩:=i;generalize (wr.alloc (.cells #[.int .u64 0,.int .u64 0,.int .u8 0,.int .u8 0,.int .u8 0,.int .u8 0,.int .u8 0,.int .u8 0,.int .u8 0,.int .u8 0,.int .u8 0,.int .u8 0,.int .u8 0,.int .u8 0,.int .u8 0,.int .u8 0,.int .u8 0,.int .u8 0,.int .u8 0,.int .u8 0,.int .u8 0,.int .u8 0,.int .u8 0,.int .u8 0,.int .u8 0,.int .u8 0,.int .u8 0,.int .u8 0,.int .u8 0,.int .u8 0,.int .u8 0,.int .u8 0,.int .u8 0,.int .u8 0,.int .i64 0,.bool false,.int .i64 0,.bool false] 69)).setCells wr.heap.size 0 C=T at z I ⊢;have a7:T.cell? ⟨wr.heap.size,35,none⟩=some (.bool x.own):=by rw[qg z,List.getElem?_toArray];exact K
    have a8:T.cell? ⟨wr.heap.size,36,none⟩=some (.int .i64 x.state):=by rw[qg z,List.getElem?_toArray];exact L
    have m:Glob T:=hG.new (F.trans I);clear J q;have f:∀W,Glob W→Calls Tryz.prog 154 #[.int .i64 x.state,.bool x.own,.int .i64 ev] W (qa0 (.int .i64 (qcr x.state x.own ev)) W):=fun W h=>qum x.state ev x.own W h
    cases M:chg ev x with
    | true =>
     have hd:(qcr x.state x.own ev != x.state)=true:=M;have H:qa7 ev xs=true:=by
      have O:qa7 ev (xs.take (n+1))=true:=by rw[qa V,M]
      unfold qa7 at O ⊢;rw[List.any_eq_true] at O ⊢;obtain⟨y,hy,R⟩:=O;exact⟨y,List.mem_of_mem_take hy,R⟩
     generalize qcr x.state x.own ev=y at f hd;go_quiet ((go_at_call 154;first | exact Calls.quiet_of (f _ m) | exact Calls.quiet_of (f _ (m.new ((Upd.refl _ _).drewN _)))));go_wp2
     first | go_ret2 | go_ret
     exact⟨by rw[H];rfl,by first | exact F.trans I | exact(F.trans I).drewN _⟩
    | false =>
     have hd:(qcr x.state x.own ev != x.state)=false:=M;have H:qa7 ev (xs.take (n+1))=false:=by rw[qa V,M]
     have HF:=qb H;clear H;generalize qcr x.state x.own ev=y at f hd;go_quiet ((go_at_call 154;first | exact Calls.quiet_of (f _ m) | exact Calls.quiet_of (f _ (m.new ((Upd.refl _ _).drewN _)))));go_wp2;go_roundw
     case rel=>exact⟨n+1,by go_num,by omega,HF,by first | exact F.trans I | exact(F.trans I).drewN _⟩
     case measure=>simp[intOf];omega
  ·obtain rfl:n=xs.length:=by omega
   have H:qa7 ev xs=false:=by have:=qa U;rwa [List.take_length] at this
   go_wp2
   first | go_ret2 | go_ret
   exact⟨by rw[H];rfl,F⟩
end Go.Proofs.YtfmkdoachjgjbaaGreatDoor
namespace Go.Proofs.YtfmkdoachjgjbaaGreatDoor
open Go.RowKit Go.Sort
theorem q07(ours:Bool)(xs:List Live):(qas ours xs).length≤xs.length:=by
 unfold qas;rw[List.length_map];exact List.length_filter_le _ _
def qgl(I X:List Item):Prop:=∃M:List (Item × Nat),M.Perm I.zipIdx∧Srt M∧X=its M
theorem qx2{M N:List (Item × Nat)}(h:M.Perm N)(q:Srt M)(v:Srt N):M=N:=by
 induction M generalizing N with
 | nil=>exact(List.Perm.nil_eq h)
 | cons x M z =>
  cases N with
  | nil=>exact absurd h.length_eq (by simp)
  | cons y N =>
   have m:x=y:=by
    have f:x∈y::N:=h.subset (List.mem_cons_self ..);have i:y∈x::M:=h.symm.subset (List.mem_cons_self ..);rcases List.mem_cons.1 f with e | f
    ·exact e
    ·rcases List.mem_cons.1 i with e | i
     ·exact e.symm
     ·have a:=(List.pairwise_cons.1 q).1 y i;have b:=(List.pairwise_cons.1 v).1 x f;exact absurd (qgz a b) (qxf x)
   subst m;rw[z (List.Perm.cons_inv h) (List.pairwise_cons.1 q).2 (List.pairwise_cons.1 v).2]
theorem qpp{I X Y:List Item}(h:qgl I X)(k:qgl I Y):X=Y:=by
 obtain⟨M,f,m,rfl⟩:=h;obtain⟨N,i,q,rfl⟩:=k;rw[qx2 (f.trans i.symm) m q]
open Classical in
noncomputable def qf4(I:List Item):List Item:=if h:∃X,qgl I X then h.choose else []
theorem q7t{I X:List Item}(h:qgl I X):X=qf4 I:=by
 have f:∃X,qgl I X:=⟨X,h⟩;unfold qf4;rw[dif_pos f];exact qpp h f.choose_spec
theorem qpe{I:List Item}(h:qgl I (qf4 I)):(qf4 I).Perm I:=by
 obtain⟨M,f,_,e⟩:=h;rw[e];have:=f.map (·.1);simpa [its,List.zipIdx_map_fst] using this
theorem q89(ours:Bool)(l r:Int)(v:Value)(xs:List Live)(E:xs.length≤19)(w:World)(q:Spans w)(H:qgo w v xs) :
  Calls Tryz.prog 121 #[.bool ours,.agg #[.int .u64 l,.int .u64 r],v] w fun e w'=>∃u,e = .returned (.agg #[.int .u64 (if ours then (qbb ours l r xs).1 else (qbb ours l r xs).2),.int .u64 (if ours then (qbb ours l r xs).2 else (qbb ours l r xs).1),u]) ∧
   qq w w'∧qnv w' u (qf4 (qas ours xs))∧qgl (qas ours xs) (qf4 (qas ours xs)):=by
 refine(zbx ours l r v xs E w q H).mono ?_
 rintro e w' ⟨u,X,z,F,C,f⟩
 have i:=q7t (I:=qas ours xs) f
 have m:qgl (qas ours xs) X:=f
 rw[←i]
 exact⟨u,z,F,C,m⟩
def qek(x:Live):Live:= {x with own:= !x.own}
def qjx(p:Int × Int):Int × Int:=(p.2,p.1)
theorem qtx(ours own:Bool)(st:Int):qm7 (!ours) (!own) st=qm7 ours own st:=by cases ours<;>simp[qm7]
theorem q0u(ours own:Bool)(st:Int):qku (!ours) (!own) st=qku ours own st:=by cases ours<;>simp[qku]
theorem qw0(ours:Bool)(xs:List Live):qas (!ours) (xs.map qek)=qas ours xs:=by
 unfold qas;rw[List.filter_map,List.map_map];have f:((fun x:Live=>qm7 (!ours) x.own x.state) ∘ qek)=fun x:Live=>qm7 ours x.own x.state:=by
  funext x;exact qtx ours x.own x.state
 have i:((fun x:Live=>(⟨x.own == !ours,x.h⟩:Item)) ∘ qek)=fun x:Live=>⟨x.own==ours,x.h⟩:=by
  funext x;cases ours<;>cases h:x.own<;>simp[qek,h]
 rw[f,i]
theorem qqb(f:Bool)(n:Int)(p:Int × Int):qe2 (!f) n (qjx p)=qjx (qe2 f n p):=by cases f<;>rfl
theorem q2t(ours:Bool)(p:Int × Int)(x:Live):qfa (!ours) (qjx p) (qek x)=qjx (qfa ours p x):=by
 unfold qfa;have f:qm7 (!ours) (qek x).own (qek x).state=qm7 ours x.own x.state:=qtx ours x.own x.state;have i:qku (!ours) (qek x).own (qek x).state=qku ours x.own x.state:=q0u ours x.own x.state;rw[f,i];show (if qm7 ours x.own x.state=true then qjx p else if (qku ours x.own x.state&&x.paid)=true then qe2 (!!x.own) x.h.amount (qjx p) else qe2 (!x.own) x.h.amount (qjx p))=_;split
 ·rfl
 ·split
  ·exact qqb (!x.own) _ _
  ·exact qqb x.own _ _
theorem q2u(ours:Bool)(l r:Int)(xs:List Live):qbb (!ours) r l (xs.map qek)=qjx (qbb ours l r xs):=by
 unfold qbb;have key:∀(xs:List Live) (p:Int × Int),(xs.map qek).foldl (qfa (!ours)) (qjx p)=qjx (xs.foldl (qfa ours) p):=by
  intro xs
  induction xs with
  | nil=>intro p;rfl
  | cons x xs f=>intro p;rw[List.map_cons,List.foldl_cons,List.foldl_cons,q2t,f]
 exact key xs (l,r)
theorem q5s{ours:Bool}{xs:List Live}(h:∀x∈xs,LiveOk x):∀x∈qas ours xs,HtlcOk x.h:=by
 intro x f;unfold qas at f;rw[List.mem_map] at f;obtain⟨y,i,rfl⟩:=f;exact(h y (List.mem_filter.1 i).1).h
theorem q9u{I:List Item}(f:qgl I (qf4 I))(h:∀x∈I,HtlcOk x.h):∀x∈qf4 I,HtlcOk x.h:=fun x i=>h x ((qpe f).subset i)
def qi6(ours:Bool)(l r:Int)(xs:List Live):Int:=if ours then (qbb ours l r xs).1 else (qbb ours l r xs).2
def qi7(ours:Bool)(l r:Int)(xs:List Live):Int:=if ours then (qbb ours l r xs).2 else (qbb ours l r xs).1
theorem qsz(x:Int):0≤IntKind.u64.wrap x∧IntKind.u64.wrap x<18446744073709551616:=by rw[IntKind.wrap_u64];omega
theorem qze(ours:Bool)(xs:List Live):∀(l r:Int),(0≤l∧l<18446744073709551616)→(0≤r∧r<18446744073709551616)→(0≤(qbb ours l r xs).1∧(qbb ours l r xs).1<18446744073709551616)∧(0≤(qbb ours l r xs).2∧(qbb ours l r xs).2<18446744073709551616):=by
 unfold qbb
 induction xs with
 | nil=>intro l r i m;exact⟨i,m⟩
 | cons x xs z =>
  intro l r i m;rw[List.foldl_cons];have v:(0≤(qfa ours (l,r) x).1∧(qfa ours (l,r) x).1<18446744073709551616)∧(0≤(qfa ours (l,r) x).2∧(qfa ours (l,r) x).2<18446744073709551616):=by
   have q:∀f n,(0≤(qe2 f n (l,r)).1∧(qe2 f n (l,r)).1<18446744073709551616)∧(0≤(qe2 f n (l,r)).2∧(qe2 f n (l,r)).2<18446744073709551616):=by
    intro f n;unfold qe2;split
    ·exact⟨qsz _,m⟩
    ·exact⟨i,qsz _⟩
   unfold qfa;split
   ·exact⟨i,m⟩
   ·split
    ·exact q _ _
    ·exact q _ _
  exact z _ _ v.1 v.2
theorem q7r(ours:Bool)(l r:Int)(xs:List Live)(f:0≤l∧l<18446744073709551616)(i:0≤r∧r<18446744073709551616):0≤qi6 ours l r xs∧qi6 ours l r xs<18446744073709551616:=by
 have:=qze ours xs l r f i;unfold qi6;split
 ·exact this.1
 ·exact this.2
theorem q7s(ours:Bool)(l r:Int)(xs:List Live)(f:0≤l∧l<18446744073709551616)(i:0≤r∧r<18446744073709551616):0≤qi7 ours l r xs∧qi7 ours l r xs<18446744073709551616:=by
 have:=qze ours xs l r f i;unfold qi7;split
 ·exact this.2
 ·exact this.1
noncomputable def qbe(ours:Bool)(key:ByteArray)(ch n l r:Int)(xs:List Live):List Int:=qpv key (qh8 ch n (qi6 ours l r xs) (qi7 ours l r xs) (qf4 (qas ours xs)))
theorem qgh(ours:Bool)(key:ByteArray)(ch n l r:Int)(xs:List Live):(qbe ours key ch n l r xs).length=32:=by unfold qbe qpv;exact qb5 _
structure ViewO(ours:Bool)(l r:Int)(xs:List Live)(w:World)(v:Value):Prop where
 u:∃u,v = .agg #[.int .u64 (qi6 ours l r xs),.int .u64 (qi7 ours l r xs),u]∧qd4 w u (qf4 (qas ours xs))
 is:qgl (qas ours xs) (qf4 (qas ours xs))
theorem ViewO.new{ours:Bool}{l r:Int}{xs:List Live}{w w':World}{v:Value}(h:ViewO ours l r xs w v)(n:qq w w'):ViewO ours l r xs w' v:=by
 obtain⟨⟨u,e,i⟩,f⟩:=h;exact⟨⟨u,e,i.new n⟩,f⟩
theorem qup(ours:Bool)(l r:Int)(v:Value)(xs:List Live)(E:xs.length≤19)(w:World)(f:Spans w)(C:qgo w v xs) :
  Calls Tryz.prog 121 #[.bool ours,.agg #[.int .u64 l,.int .u64 r],v] w fun e w'=>∃V,e = .returned V∧qq w w'∧ViewO ours l r xs w' V:=by
 refine(q89 ours l r v xs (by omega) w f C).mono ?_
 rintro e w' ⟨u,m,z,q,i⟩
 exact⟨_,m,z,⟨⟨u,rfl,q.toR⟩,i⟩⟩
theorem qq2(ours:Bool)(l r:Int)(V:Value)(xs:List Live)(key:ByteArray)(ch n:Int)(F:xs.length≤1000000)(w:World)(v:Tabs w)(z:ViewO ours l r xs w V)(J:∀x∈xs,LiveOk x)(E:key.size≤100000000)(C:0≤ch∧ch<4294967296)(H : -9223372036854775808≤n∧n≤9223372036854775807)(i:0≤l∧l<18446744073709551616)(m:0≤r∧r<18446744073709551616) :
  Calls Tryz.prog 120 #[.string key,.int .u32 ch,.int .i64 n,V] w (qa5 (.agg (qv (qbe ours key ch n l r xs)).toArray) w):=by
 obtain⟨⟨u,rfl,I⟩,q⟩:=z
 have f:(qf4 (qas ours xs)).length≤1000000:=by
  rw[(qpe q).length_eq];exact Nat.le_trans (q07 ours xs) F
 exact q7u key ch n _ _ u _ f (q9u q (q5s J)) w v E C H (q7r ours l r xs i m) (q7s ours l r xs i m) I
end Go.Proofs.YtfmkdoachjgjbaaGreatDoor
