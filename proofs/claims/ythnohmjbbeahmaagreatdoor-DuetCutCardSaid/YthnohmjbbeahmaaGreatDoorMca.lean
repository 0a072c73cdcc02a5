/-
  view.Tag.
-/
import Derived.Test.YthnohmjbbeahmaaGreatDoorMbi
import Derived.Test.YthnohmjbbeahmaaGreatDoorSl1
import Derived.Test.YthnohmjbbeahmaaGreatDoorMai
import Derived.Test.YthnohmjbbeahmaaGreatDoorVw5
import Derived.Test.YthnohmjbbeahmaaGreatDoorMba
set_option linter.unusedVariables false
set_option linter.unusedSimpArgs false
namespace Go.Proofs.YthnohmjbbeahmaaGreatDoor
open Go.RowKit Go.Sort
theorem q4w(ch n A B:Int)(X:List Item):(qk1 ch n A B X).size=30+57*X.length:=by
 unfold qk1;rw[qu6,qsd]
set_option maxRecDepth 100000 in
set_option maxHeartbeats 2000000 in
theorem zep(key:ByteArray)(ch n A B:Int)(u:Value)(X:List Item)(hl:X.length≤1000000)(hok:∀x∈X,HtlcOk x.h)(w:World)(Z:Tabs w)(hk:key.size≤100000000)(N:0≤ch∧ch<4294967296)(O : -9223372036854775808≤n∧n≤9223372036854775807)
  (K:0≤A∧A<18446744073709551616) (L:0≤B∧B<18446744073709551616) (hu:qft w u X) :
  Calls Tryz.prog 60 #[.string key,.int .u32 ch,.int .i64 n,.agg #[.int .u64 A,.int .u64 B,u]] w fun e w'=>e = .returned (.agg ((qtt key (qk1 ch n A B X)).map (Value.int .u8)).toArray)∧qq w w':=by
 have t:=qb (fun W (m:qq w W)=>zei ch n A B u X (by omega) hok W N O K L (hu.new m))
 have C:(qk1 ch n A B X).size≤100000000:=by rw[q4w];omega
 have q:=qb (fun W h=>zgl key (qk1 ch n A B X) W hk C h)
 have i:(qtt key (qk1 ch n A B X)).length=32:=by unfold qtt;exact qc9 _
 generalize M:qtt key (qk1 ch n A B X)=out at q i
 have V:=qb M
 generalize qk1 ch n A B X=tx at t q V
 clear K L O N hok C M
 go_enter Tryz.func60,Tryz.ntmps60
 go_upto_region 0 with fail
 refine wp_region_lit ?_
 refine zf rfl (v:= .pointer (some ⟨w.heap.size,0,none⟩)) (w':=w.alloc (.cells #[.int .u64 A,.int .u64 B,u] 126)) (by simp only[execOp];go_simp) ?_
 have y:=qi w (.cells #[.int .u64 A,.int .u64 B,u] 126)
 have E:qq w (w.alloc (.cells #[.int .u64 A,.int .u64 B,u] 126)):=(Upd.refl _ _).alloc _
 generalize w.alloc (.cells #[.int .u64 A,.int .u64 B,u] 126)=w1 at y E ⊢
 refine zf rfl (v:= .pointer (some ⟨w1.heap.size,0,none⟩)) (w':=w1.alloc (.cells qf6 33)) (by kernel_rfl) ?_
 have F:qq w1 (w1.alloc (.cells qf6 33)):=(Upd.refl _ _).alloc _
 have l:=qi w1 (.cells qf6 33)
 generalize w1.alloc (.cells qf6 33)=D at F l ⊢
 replace y:=F.old y (fun h=>h)
 have o:=E.trans F
 have z:=E.size
 go_upto_region 1 with fail
 refine wp_region_lit ?_
 refine zf rfl (v:= .string key) (w':=D) (by kernel_rfl) ?_
 refine zf rfl (v:= .int .u32 ch) (w':=D) (by kernel_rfl) ?_
 refine zf rfl (v:= .int .i64 n) (w':=D) (by kernel_rfl) ?_
 refine wpList_load_row rfl _ _ rfl w.heap.size (by kernel_rfl) 126 _ _ _ y Tryz.underlying126 rfl (by kernel_rfl) ?_
 refine qd6 rfl (f:=74) (args:=#[.int .u32 ch,.int .i64 n,.agg #[.int .u64 A,.int .u64 B,u]]) (w':=D) (by kernel_rfl) ?_
 refine(qa t D o).mono ?_
 rintro e T ⟨rfl,I⟩
 refine⟨_,rfl,?_⟩
 replace l:=I.old l (fun h=>h)
 replace o:=o.trans I
 refine qd6 rfl (f:=73) (args:=#[.string key,.string tx]) (w':=T) (by kernel_rfl) ?_
 refine(qa q T (Z.new o)).mono ?_
 rintro e U ⟨rfl,J⟩
 refine⟨_,rfl,?_⟩
 replace l:=J.old l (fun h=>h)
 replace o:=o.trans J
 refine wpList_store_row rfl _ _ _ rfl w1.heap.size (out.map (Value.int .u8)).toArray (by kernel_rfl) (by kernel_rfl) 33 _ l (by rw[List.size_toArray,List.length_map,i];exact Tryz.infoHash) (by have Y:qf6.size=32:=rfl;rw[Y];simp[i]) (by simp[Value.oneCell']) ?_
 have H:=setRow_heap U w1.heap.size _ (out.map (Value.int .u8)).toArray 33 (0,0) l
 have P:=o.setRow (g:=w1.heap.size) (fun h=>by omega) (out.map (Value.int .u8)).toArray
 generalize U.setRow w1.heap.size (out.map (Value.int .u8)).toArray=wF at H P ⊢
 generalize w1.heap.size=R at H ⊢
 clear I J l y E F o z
 go_wp2_with fail
 refine bodyPost_ret (results_cell_row rfl _ _ R 33 _ _ _ (by kernel_rfl) H Tryz.underlying33 rfl (by rw[List.size_toArray,List.length_map,i];exact Tryz.infoHash)) rfl ?_
 exact⟨rfl,P⟩
attribute [local go_sem ↓ high] qcf qeb
attribute [local go_sem] qgl qkr
def chg(ev:Int)(x:Live):Bool:=qx x.state x.own ev != x.state
def zv(ev:Int)(xs:List Live):Bool:=xs.any (chg ev)
set_option maxRecDepth 100000 in
set_option maxHeartbeats 4000000 in
theorem qp0(v:Value)(xs:List Live)(ev:Int)(hl:xs.length≤1048576)(w:World)(Z:Glob w)(hv:qe6 w v xs) :
  Calls Tryz.prog 58 #[v,.int .i64 ev] w (qbf (.bool (zv ev xs)) w):=by
 have M:∃a c,v = .slice a xs.length c:=by
  rcases hv with ⟨_,_,rfl,rfl⟩ | ⟨g,off,cap,rfl,_⟩
  ·exact⟨_,_,rfl⟩
  ·exact⟨_,_,rfl⟩
 obtain⟨va,vc,rfl⟩:=M
 go_enter Tryz.func58,Tryz.ntmps58
 go_wp2_with fail
 go_loopw [9] (fun O wr=>∃n:Nat,O = .int .i64 (n:Int)∧n≤xs.length∧Hid (zv ev (xs.take n)=false)∧qq w wr) (fun O _=>xs.length-(intOf O).toNat)
 case atStart=>exact⟨0,rfl,Nat.zero_le _,qb rfl,Upd.refl _ _⟩
 case round =>
  obtain⟨n,rfl,hn,R,z⟩:=hrel;by_cases t:n<xs.length
  ·obtain⟨x,K⟩:∃x,xs[n]? = some x:=⟨_,List.getElem?_eq_getElem t⟩;rcases hv.new z with ⟨_,_,e,Y⟩ | ⟨g,off,cap,e,U⟩
   ·rw[Y] at t;simp at t
   ·cases e;have o:=U.row K;have a4:(n:Int)<(xs.length:Int):=by omega
    have F:stOk (wr.alloc (.cells #[.int .u64 0,.int .u64 0,.int .u8 0,.int .u8 0,.int .u8 0,.int .u8 0,.int .u8 0,.int .u8 0,.int .u8 0,.int .u8 0,.int .u8 0,.int .u8 0,.int .u8 0,.int .u8 0,.int .u8 0,.int .u8 0,.int .u8 0,.int .u8 0,.int .u8 0,.int .u8 0,.int .u8 0,.int .u8 0,.int .u8 0,.int .u8 0,.int .u8 0,.int .u8 0,.int .u8 0,.int .u8 0,.int .u8 0,.int .u8 0,.int .u8 0,.int .u8 0,.int .u8 0,.int .u8 0,.int .i64 0,.bool false,.int .i64 0,.bool false] 56)) wr.heap.size 0 38 (qk x).toArray=true:=qf3 (qi _ _) (by decide) (by rw[List.size_toArray,qa2]) (by rw[List.all_toArray,List.all_eq_true];exact qee x);have l:=qoe wr #[.int .u64 0,.int .u64 0,.int .u8 0,.int .u8 0,.int .u8 0,.int .u8 0,.int .u8 0,.int .u8 0,.int .u8 0,.int .u8 0,.int .u8 0,.int .u8 0,.int .u8 0,.int .u8 0,.int .u8 0,.int .u8 0,.int .u8 0,.int .u8 0,.int .u8 0,.int .u8 0,.int .u8 0,.int .u8 0,.int .u8 0,.int .u8 0,.int .u8 0,.int .u8 0,.int .u8 0,.int .u8 0,.int .u8 0,.int .u8 0,.int .u8 0,.int .u8 0,.int .u8 0,.int .u8 0,.int .i64 0,.bool false,.int .i64 0,.bool false] 56 (qk x) (by rw[qa2];rfl);have H:=qim x;have I:=qgm x;have V:zv ev (xs.take (n+1))=chg ev x:=by
     have:=qa R;unfold zv at this ⊢;rw[List.take_add_one,K,List.any_append,this];simp
    have T:=qb V;have HX:=qb K;clear V U K;generalize qk x=C at o F l H I;go_upto_region 4 with fail;obtain⟨q,E⟩:=l;generalize (wr.alloc (.cells #[.int .u64 0,.int .u64 0,.int .u8 0,.int .u8 0,.int .u8 0,.int .u8 0,.int .u8 0,.int .u8 0,.int .u8 0,.int .u8 0,.int .u8 0,.int .u8 0,.int .u8 0,.int .u8 0,.int .u8 0,.int .u8 0,.int .u8 0,.int .u8 0,.int .u8 0,.int .u8 0,.int .u8 0,.int .u8 0,.int .u8 0,.int .u8 0,.int .u8 0,.int .u8 0,.int .u8 0,.int .u8 0,.int .u8 0,.int .u8 0,.int .u8 0,.int .u8 0,.int .u8 0,.int .u8 0,.int .i64 0,.bool false,.int .i64 0,.bool false] 56)).setCells wr.heap.size 0 C=P at q E ⊢;have a5:P.cell? ⟨wr.heap.size,35,none⟩=some (.bool x.own):=by rw[qh q,List.getElem?_toArray];exact H
    have a6:P.cell? ⟨wr.heap.size,36,none⟩=some (.int .i64 x.state):=by rw[qh q,List.getElem?_toArray];exact I
    have m:Glob P:=Z.new (z.trans E);clear F o;have i:∀W,Glob W→Calls Tryz.prog 71 #[.int .i64 x.state,.bool x.own,.int .i64 ev] W (qch (.int .i64 (qx x.state x.own ev)) W):=fun W h=>q0w x.state ev x.own W h
    cases J:chg ev x with
    | true =>
     have hd:(qx x.state x.own ev != x.state)=true:=J;have D:zv ev xs=true:=by
      have L:zv ev (xs.take (n+1))=true:=by rw[qa T,J]
      unfold zv at L ⊢;rw[List.any_eq_true] at L ⊢;obtain⟨y,hy,N⟩:=L;exact⟨y,List.mem_of_mem_take hy,N⟩
     generalize qx x.state x.own ev=y at i hd;go_quiet ((go_at_call 71;first | exact Calls.quiet_of (i _ m) | exact Calls.quiet_of (i _ (m.new ((Upd.refl _ _).drewN _)))));go_wp2
     first | go_ret2 | go_ret
     exact⟨by rw[D];rfl,by first | exact z.trans E | exact(z.trans E).drewN _⟩
    | false =>
     have hd:(qx x.state x.own ev != x.state)=false:=J;have D:zv ev (xs.take (n+1))=false:=by rw[qa T,J]
     have X:=qb D;clear D;generalize qx x.state x.own ev=y at i hd;go_quiet ((go_at_call 71;first | exact Calls.quiet_of (i _ m) | exact Calls.quiet_of (i _ (m.new ((Upd.refl _ _).drewN _)))));go_wp2;go_roundw
     case rel=>exact⟨n+1,by go_num,by omega,X,by first | exact z.trans E | exact(z.trans E).drewN _⟩
     case measure=>simp[intOf];omega
  ·obtain rfl:n=xs.length:=by omega
   have D:zv ev xs=false:=by have:=qa R;rwa [List.take_length] at this
   go_wp2
   first | go_ret2 | go_ret
   exact⟨by rw[D];rfl,z⟩
end Go.Proofs.YthnohmjbbeahmaaGreatDoor
namespace Go.Proofs.YthnohmjbbeahmaaGreatDoor
open Go.RowKit Go.Sort
theorem q8h(ours:Bool)(xs:List Live):(ze ours xs).length≤xs.length:=by
 unfold ze;rw[List.length_map];exact List.length_filter_le _ _
def qfs(I X:List Item):Prop:=∃M:List (Item × Nat),M.Perm I.zipIdx∧Srt M∧X=its M
theorem q4q{M N:List (Item × Nat)}(h:M.Perm N)(m:Srt M)(o:Srt N):M=N:=by
 induction M generalizing N with
 | nil=>exact(List.Perm.nil_eq h)
 | cons x M q =>
  cases N with
  | nil=>exact absurd h.length_eq (by simp)
  | cons y N =>
   have l:x=y:=by
    have g:x∈y::N:=h.subset (List.mem_cons_self ..);have i:y∈x::M:=h.symm.subset (List.mem_cons_self ..);rcases List.mem_cons.1 g with e | g
    ·exact e
    ·rcases List.mem_cons.1 i with e | i
     ·exact e.symm
     ·have a:=(List.pairwise_cons.1 m).1 y i;have b:=(List.pairwise_cons.1 o).1 x g;exact absurd (qjf a b) (q3v x)
   subst l;rw[q (List.Perm.cons_inv h) (List.pairwise_cons.1 m).2 (List.pairwise_cons.1 o).2]
theorem que{I X Y:List Item}(h:qfs I X)(k:qfs I Y):X=Y:=by
 obtain⟨M,pM,i,rfl⟩:=h;obtain⟨N,g,l,rfl⟩:=k;rw[q4q (pM.trans g.symm) i l]
open Classical in
noncomputable def qfr(I:List Item):List Item:=if h:∃X,qfs I X then h.choose else []
theorem qtw{I X:List Item}(h:qfs I X):X=qfr I:=by
 have g:∃X,qfs I X:=⟨X,h⟩;unfold qfr;rw[dif_pos g];exact que h g.choose_spec
theorem qtx{I:List Item}(h:qfs I (qfr I)):(qfr I).Perm I:=by
 obtain⟨M,pM,_,e⟩:=h;rw[e];have:=pM.map (·.1);simpa [its,List.zipIdx_map_fst] using this
theorem zf5(ours:Bool)(l r:Int)(v:Value)(xs:List Live)(x:xs.length≤19)(w:World)(o:Spans w)(hv:qe6 w v xs) :
  Calls Tryz.prog 61 #[.bool ours,.agg #[.int .u64 l,.int .u64 r],v] w fun e w'=>∃u,e = .returned (.agg #[.int .u64 (if ours then (zw ours l r xs).1 else (zw ours l r xs).2),.int .u64 (if ours then (zw ours l r xs).2 else (zw ours l r xs).1),u]) ∧
   qq w w'∧qrl w' u (qfr (ze ours xs))∧qfs (ze ours xs) (qfr (ze ours xs)):=by
 refine(zi3 ours l r v xs x w o hv).mono ?_
 rintro e w' ⟨u,X,q,y,t,g⟩
 have i:=qtw (I:=ze ours xs) g
 have m:qfs (ze ours xs) X:=g
 rw[←i]
 exact⟨u,q,y,t,m⟩
def qfb(x:Live):Live:= {x with own:= !x.own}
def qm4(p:Int × Int):Int × Int:=(p.2,p.1)
theorem qz6(ours own:Bool)(st:Int):qc2 (!ours) (!own) st=qc2 ours own st:=by cases ours<;>simp[qc2]
theorem q73(ours own:Bool)(st:Int):qen (!ours) (!own) st=qen ours own st:=by cases ours<;>simp[qen]
theorem q3l(ours:Bool)(xs:List Live):ze (!ours) (xs.map qfb)=ze ours xs:=by
 unfold ze;rw[List.filter_map,List.map_map];have g:((fun x:Live=>qc2 (!ours) x.own x.state) ∘ qfb)=fun x:Live=>qc2 ours x.own x.state:=by
  funext x;exact qz6 ours x.own x.state
 have i:((fun x:Live=>(⟨x.own == !ours,x.h⟩:Item)) ∘ qfb)=fun x:Live=>⟨x.own==ours,x.h⟩:=by
  funext x;cases ours<;>cases h:x.own<;>simp[qfb,h]
 rw[g,i]
theorem qu9(g:Bool)(n:Int)(p:Int × Int):qdc (!g) n (qm4 p)=qm4 (qdc g n p):=by cases g<;>rfl
theorem q9p(ours:Bool)(p:Int × Int)(x:Live):qbr (!ours) (qm4 p) (qfb x)=qm4 (qbr ours p x):=by
 unfold qbr;have g:qc2 (!ours) (qfb x).own (qfb x).state=qc2 ours x.own x.state:=qz6 ours x.own x.state;have i:qen (!ours) (qfb x).own (qfb x).state=qen ours x.own x.state:=q73 ours x.own x.state;rw[g,i];show (if qc2 ours x.own x.state=true then qm4 p else if (qen ours x.own x.state&&x.paid)=true then qdc (!!x.own) x.h.amount (qm4 p) else qdc (!x.own) x.h.amount (qm4 p))=_;split
 ·rfl
 ·split
  ·exact qu9 (!x.own) _ _
  ·exact qu9 x.own _ _
theorem q9r(ours:Bool)(l r:Int)(xs:List Live):zw (!ours) r l (xs.map qfb)=qm4 (zw ours l r xs):=by
 unfold zw;have key:∀(xs:List Live) (p:Int × Int),(xs.map qfb).foldl (qbr (!ours)) (qm4 p)=qm4 (xs.foldl (qbr ours) p):=by
  intro xs
  induction xs with
  | nil=>intro p;rfl
  | cons x xs g=>intro p;rw[List.map_cons,List.foldl_cons,List.foldl_cons,q9p,g]
 exact key xs (l,r)
theorem zb7{ours:Bool}{xs:List Live}(h:∀x∈xs,LiveOk x):∀x∈ze ours xs,HtlcOk x.h:=by
 intro x g;unfold ze at g;rw[List.mem_map] at g;obtain⟨y,i,rfl⟩:=g;exact(h y (List.mem_filter.1 i).1).h
theorem zgr{I:List Item}(hv:qfs I (qfr I))(h:∀x∈I,HtlcOk x.h):∀x∈qfr I,HtlcOk x.h:=fun x g=>h x ((qtx hv).subset g)
def qiv(ours:Bool)(l r:Int)(xs:List Live):Int:=if ours then (zw ours l r xs).1 else (zw ours l r xs).2
def qiw(ours:Bool)(l r:Int)(xs:List Live):Int:=if ours then (zw ours l r xs).2 else (zw ours l r xs).1
theorem qrh(x:Int):0≤IntKind.u64.wrap x∧IntKind.u64.wrap x<18446744073709551616:=by rw[IntKind.wrap_u64];omega
theorem q6h(ours:Bool)(xs:List Live):∀(l r:Int),(0≤l∧l<18446744073709551616)→(0≤r∧r<18446744073709551616)→(0≤(zw ours l r xs).1∧(zw ours l r xs).1<18446744073709551616)∧(0≤(zw ours l r xs).2∧(zw ours l r xs).2<18446744073709551616):=by
 unfold zw
 induction xs with
 | nil=>intro l r i m;exact⟨i,m⟩
 | cons x xs t =>
  intro l r i m;rw[List.foldl_cons];have q:(0≤(qbr ours (l,r) x).1∧(qbr ours (l,r) x).1<18446744073709551616)∧(0≤(qbr ours (l,r) x).2∧(qbr ours (l,r) x).2<18446744073709551616):=by
   have o:∀g n,(0≤(qdc g n (l,r)).1∧(qdc g n (l,r)).1<18446744073709551616)∧(0≤(qdc g n (l,r)).2∧(qdc g n (l,r)).2<18446744073709551616):=by
    intro g n;unfold qdc;split
    ·exact⟨qrh _,m⟩
    ·exact⟨i,qrh _⟩
   unfold qbr;split
   ·exact⟨i,m⟩
   ·split
    ·exact o _ _
    ·exact o _ _
  exact t _ _ q.1 q.2
theorem zen(ours:Bool)(l r:Int)(xs:List Live)(g:0≤l∧l<18446744073709551616)(i:0≤r∧r<18446744073709551616):0≤qiv ours l r xs∧qiv ours l r xs<18446744073709551616:=by
 have:=q6h ours xs l r g i;unfold qiv;split
 ·exact this.1
 ·exact this.2
theorem zeo(ours:Bool)(l r:Int)(xs:List Live)(g:0≤l∧l<18446744073709551616)(i:0≤r∧r<18446744073709551616):0≤qiw ours l r xs∧qiw ours l r xs<18446744073709551616:=by
 have:=q6h ours xs l r g i;unfold qiw;split
 ·exact this.2
 ·exact this.1
noncomputable def zx(ours:Bool)(key:ByteArray)(ch n l r:Int)(xs:List Live):List Int:=qtt key (qk1 ch n (qiv ours l r xs) (qiw ours l r xs) (qfr (ze ours xs)))
theorem qgz(ours:Bool)(key:ByteArray)(ch n l r:Int)(xs:List Live):(zx ours key ch n l r xs).length=32:=by unfold zx qtt;exact qc9 _
structure ViewO(ours:Bool)(l r:Int)(xs:List Live)(w:World)(v:Value):Prop where
 u:∃u,v = .agg #[.int .u64 (qiv ours l r xs),.int .u64 (qiw ours l r xs),u]∧qft w u (qfr (ze ours xs))
 is:qfs (ze ours xs) (qfr (ze ours xs))
theorem ViewO.new{ours:Bool}{l r:Int}{xs:List Live}{w w':World}{v:Value}(h:ViewO ours l r xs w v)(n:qq w w'):ViewO ours l r xs w' v:=by
 obtain⟨⟨u,e,i⟩,g⟩:=h;exact⟨⟨u,e,i.new n⟩,g⟩
theorem q0z(ours:Bool)(l r:Int)(v:Value)(xs:List Live)(t:xs.length≤19)(w:World)(g:Spans w)(hv:qe6 w v xs) :
  Calls Tryz.prog 61 #[.bool ours,.agg #[.int .u64 l,.int .u64 r],v] w fun e w'=>∃V,e = .returned V∧qq w w'∧ViewO ours l r xs w' V:=by
 refine(zf5 ours l r v xs (by omega) w g hv).mono ?_
 rintro e w' ⟨u,m,q,o,i⟩
 exact⟨_,m,q,⟨⟨u,rfl,o.toR⟩,i⟩⟩
theorem qv7(ours:Bool)(l r:Int)(V:Value)(xs:List Live)(key:ByteArray)(ch n:Int)(y:xs.length≤1000000)(w:World)(o:Tabs w)(q:ViewO ours l r xs w V)(D:∀x∈xs,LiveOk x)(v:key.size≤100000000)(t:0≤ch∧ch<4294967296)(z : -9223372036854775808≤n∧n≤9223372036854775807)(bl:0≤l∧l<18446744073709551616)(i:0≤r∧r<18446744073709551616) :
  Calls Tryz.prog 60 #[.string key,.int .u32 ch,.int .i64 n,V] w (qbf (.agg (qy (zx ours key ch n l r xs)).toArray) w):=by
 obtain⟨⟨u,rfl,C⟩,m⟩:=q
 have g:(qfr (ze ours xs)).length≤1000000:=by
  rw[(qtx m).length_eq];exact Nat.le_trans (q8h ours xs) y
 exact zep key ch n _ _ u _ g (zgr m (zb7 D)) w o v t z (zen ours l r xs bl i) (zeo ours l r xs bl i) C
end Go.Proofs.YthnohmjbbeahmaaGreatDoor
