/-
  view.Tag.
-/
import Derived.Test.YthnohmjbbeahmaaGreatDoorMbj
import Derived.Test.YthnohmjbbeahmaaGreatDoorSl1
import Derived.Test.YthnohmjbbeahmaaGreatDoorMaj
import Derived.Test.YthnohmjbbeahmaaGreatDoorVw5
import Derived.Test.YthnohmjbbeahmaaGreatDoorMbb
set_option linter.unusedVariables false
set_option linter.unusedSimpArgs false
namespace Go.Proofs.YthnohmjbbeahmaaGreatDoor
open Go.RowKit Go.Sort
theorem q3k(ch n A B:Int)(X:List Item):(qki ch n A B X).size=30+57*X.length:=by
 unfold qki;rw[qt6,qrj]
set_option maxRecDepth 100000 in
set_option maxHeartbeats 2000000 in
theorem zc0(key:ByteArray)(ch n A B:Int)(u:Value)(X:List Item)(hl:X.length≤1000000)(hok:∀x∈X,HtlcOk x.h)(w:World)(hT:Tabs w)(hk:key.size≤100000000)(O:0≤ch∧ch<4294967296)(P : -9223372036854775808≤n∧n≤9223372036854775807)
  (L:0≤A∧A<18446744073709551616) (M:0≤B∧B<18446744073709551616) (hu:qfp w u X) :
  Calls Tryz.prog 60 #[.string key,.int .u32 ch,.int .i64 n,.agg #[.int .u64 A,.int .u64 B,u]] w fun e w'=>e = .returned (.agg ((qtr key (qki ch n A B X)).map (Value.int .u8)).toArray)∧qu w w':=by
 have t:=qb (fun W (m:qu w W)=>zct ch n A B u X (by omega) hok W O P L M (hu.new m))
 have D:(qki ch n A B X).size≤100000000:=by rw[q3k];omega
 have q:=qb (fun W h=>zeq key (qki ch n A B X) W hk D h)
 have i:(qtr key (qki ch n A B X)).length=32:=by unfold qtr;exact qc4 _
 generalize N:qtr key (qki ch n A B X)=out at q i
 have Y:=qb N
 generalize qki ch n A B X=tx at t q Y
 clear L M P O hok D N
 go_enter Tryz.func60,Tryz.ntmps60
 go_upto_region 0 with fail
 refine wp_region_lit ?_
 refine q8 rfl (v:= .pointer (some ⟨w.heap.size,0,none⟩)) (w':=w.alloc (.cells #[.int .u64 A,.int .u64 B,u] 126)) (by simp only[execOp];go_simp) ?_
 have z:=qi w (.cells #[.int .u64 A,.int .u64 B,u] 126)
 have F:qu w (w.alloc (.cells #[.int .u64 A,.int .u64 B,u] 126)):=(Upd.refl _ _).alloc _
 generalize w.alloc (.cells #[.int .u64 A,.int .u64 B,u] 126)=w1 at z F ⊢
 refine q8 rfl (v:= .pointer (some ⟨w1.heap.size,0,none⟩)) (w':=w1.alloc (.cells qf7 33)) (by kernel_rfl) ?_
 have H:qu w1 (w1.alloc (.cells qf7 33)):=(Upd.refl _ _).alloc _
 have l:=qi w1 (.cells qf7 33)
 generalize w1.alloc (.cells qf7 33)=E at H l ⊢
 replace z:=H.old z (fun h=>h)
 have o:=F.trans H
 have C:=F.size
 go_upto_region 1 with fail
 refine wp_region_lit ?_
 refine q8 rfl (v:= .string key) (w':=E) (by kernel_rfl) ?_
 refine q8 rfl (v:= .int .u32 ch) (w':=E) (by kernel_rfl) ?_
 refine q8 rfl (v:= .int .i64 n) (w':=E) (by kernel_rfl) ?_
 refine wpList_load_row rfl _ _ rfl w.heap.size (by kernel_rfl) 126 _ _ _ z Tryz.underlying126 rfl (by kernel_rfl) ?_
 refine qd7 rfl (f:=74) (args:=#[.int .u32 ch,.int .i64 n,.agg #[.int .u64 A,.int .u64 B,u]]) (w':=E) (by kernel_rfl) ?_
 refine(qa t E o).mono ?_
 rintro e U ⟨rfl,J⟩
 refine⟨_,rfl,?_⟩
 replace l:=J.old l (fun h=>h)
 replace o:=o.trans J
 refine qd7 rfl (f:=73) (args:=#[.string key,.string tx]) (w':=U) (by kernel_rfl) ?_
 refine(qa q U (hT.new o)).mono ?_
 rintro e V ⟨rfl,K⟩
 refine⟨_,rfl,?_⟩
 replace l:=K.old l (fun h=>h)
 replace o:=o.trans K
 refine wpList_store_row rfl _ _ _ rfl w1.heap.size (out.map (Value.int .u8)).toArray (by kernel_rfl) (by kernel_rfl) 33 _ l (by rw[List.size_toArray,List.length_map,i];exact Tryz.infoHash) (by have Z:qf7.size=32:=rfl;rw[Z];simp[i]) (by simp[Value.oneCell']) ?_
 have I:=setRow_heap V w1.heap.size _ (out.map (Value.int .u8)).toArray 33 (0,0) l
 have T:=o.setRow (g:=w1.heap.size) (fun h=>by omega) (out.map (Value.int .u8)).toArray
 generalize V.setRow w1.heap.size (out.map (Value.int .u8)).toArray=wF at I T ⊢
 generalize w1.heap.size=R at I ⊢
 clear J K l z F H o C
 go_wp2_with fail
 refine bodyPost_ret (results_cell_row rfl _ _ R 33 _ _ _ (by kernel_rfl) I Tryz.underlying33 rfl (by rw[List.size_toArray,List.length_map,i];exact Tryz.infoHash)) rfl ?_
 exact⟨rfl,T⟩
attribute [local go_sem ↓ high] qdf qeb
attribute [local go_sem] qh5 qj8
def chg(ev:Int)(x:Live):Bool:=qw x.state x.own ev != x.state
def zl(ev:Int)(xs:List Live):Bool:=xs.any (chg ev)
set_option maxRecDepth 100000 in
set_option maxHeartbeats 4000000 in
theorem qpg(v:Value)(xs:List Live)(ev:Int)(hl:xs.length≤1048576)(w:World)(Z:Glob w)(hv:qio w v xs) :
  Calls Tryz.prog 58 #[v,.int .i64 ev] w (qbr (.bool (zl ev xs)) w):=by
 have M:∃a c,v = .slice a xs.length c:=by
  rcases hv with ⟨_,_,rfl,rfl⟩ | ⟨g,off,cap,rfl,_⟩
  ·exact⟨_,_,rfl⟩
  ·exact⟨_,_,rfl⟩
 obtain⟨va,vc,rfl⟩:=M
 go_enter Tryz.func58,Tryz.ntmps58
 go_wp2_with fail
 go_loopw [9] (fun O wr=>∃n:Nat,O = .int .i64 (n:Int)∧n≤xs.length∧Hid (zl ev (xs.take n)=false)∧qu w wr) (fun O _=>xs.length-(intOf O).toNat)
 case atStart=>exact⟨0,rfl,Nat.zero_le _,qb rfl,Upd.refl _ _⟩
 case round =>
  obtain⟨n,rfl,hn,R,z⟩:=hrel;by_cases t:n<xs.length
  ·obtain⟨x,K⟩:∃x,xs[n]? = some x:=⟨_,List.getElem?_eq_getElem t⟩;rcases hv.new z with ⟨_,_,e,Y⟩ | ⟨g,off,cap,e,U⟩
   ·rw[Y] at t;simp at t
   ·cases e;have o:=U.row K;have a4:(n:Int)<(xs.length:Int):=by omega
    have F:stOk (wr.alloc (.cells #[.int .u64 0,.int .u64 0,.int .u8 0,.int .u8 0,.int .u8 0,.int .u8 0,.int .u8 0,.int .u8 0,.int .u8 0,.int .u8 0,.int .u8 0,.int .u8 0,.int .u8 0,.int .u8 0,.int .u8 0,.int .u8 0,.int .u8 0,.int .u8 0,.int .u8 0,.int .u8 0,.int .u8 0,.int .u8 0,.int .u8 0,.int .u8 0,.int .u8 0,.int .u8 0,.int .u8 0,.int .u8 0,.int .u8 0,.int .u8 0,.int .u8 0,.int .u8 0,.int .u8 0,.int .u8 0,.int .i64 0,.bool false,.int .i64 0,.bool false] 56)) wr.heap.size 0 38 (ql x).toArray=true:=qf3 (qi _ _) (by decide) (by rw[List.size_toArray,qa5]) (by rw[List.all_toArray,List.all_eq_true];exact qet x);have l:=qnl wr #[.int .u64 0,.int .u64 0,.int .u8 0,.int .u8 0,.int .u8 0,.int .u8 0,.int .u8 0,.int .u8 0,.int .u8 0,.int .u8 0,.int .u8 0,.int .u8 0,.int .u8 0,.int .u8 0,.int .u8 0,.int .u8 0,.int .u8 0,.int .u8 0,.int .u8 0,.int .u8 0,.int .u8 0,.int .u8 0,.int .u8 0,.int .u8 0,.int .u8 0,.int .u8 0,.int .u8 0,.int .u8 0,.int .u8 0,.int .u8 0,.int .u8 0,.int .u8 0,.int .u8 0,.int .u8 0,.int .i64 0,.bool false,.int .i64 0,.bool false] 56 (ql x) (by rw[qa5];rfl);have H:=qh6 x;have I:=qgm x;have V:zl ev (xs.take (n+1))=chg ev x:=by
     have:=qa R;unfold zl at this ⊢;rw[List.take_add_one,K,List.any_append,this];simp
    have T:=qb V;have HX:=qb K;clear V U K;generalize ql x=C at o F l H I;go_upto_region 4 with fail;obtain⟨q,E⟩:=l;generalize (wr.alloc (.cells #[.int .u64 0,.int .u64 0,.int .u8 0,.int .u8 0,.int .u8 0,.int .u8 0,.int .u8 0,.int .u8 0,.int .u8 0,.int .u8 0,.int .u8 0,.int .u8 0,.int .u8 0,.int .u8 0,.int .u8 0,.int .u8 0,.int .u8 0,.int .u8 0,.int .u8 0,.int .u8 0,.int .u8 0,.int .u8 0,.int .u8 0,.int .u8 0,.int .u8 0,.int .u8 0,.int .u8 0,.int .u8 0,.int .u8 0,.int .u8 0,.int .u8 0,.int .u8 0,.int .u8 0,.int .u8 0,.int .i64 0,.bool false,.int .i64 0,.bool false] 56)).setCells wr.heap.size 0 C=P at q E ⊢;have a5:P.cell? ⟨wr.heap.size,35,none⟩=some (.bool x.own):=by rw[qh q,List.getElem?_toArray];exact H
    have a6:P.cell? ⟨wr.heap.size,36,none⟩=some (.int .i64 x.state):=by rw[qh q,List.getElem?_toArray];exact I
    have m:Glob P:=Z.new (z.trans E);clear F o;have i:∀W,Glob W→Calls Tryz.prog 71 #[.int .i64 x.state,.bool x.own,.int .i64 ev] W (qce (.int .i64 (qw x.state x.own ev)) W):=fun W h=>qzk x.state ev x.own W h
    cases J:chg ev x with
    | true =>
     have hd:(qw x.state x.own ev != x.state)=true:=J;have D:zl ev xs=true:=by
      have L:zl ev (xs.take (n+1))=true:=by rw[qa T,J]
      unfold zl at L ⊢;rw[List.any_eq_true] at L ⊢;obtain⟨y,hy,N⟩:=L;exact⟨y,List.mem_of_mem_take hy,N⟩
     generalize qw x.state x.own ev=y at i hd;go_quiet ((go_at_call 71;first | exact Calls.quiet_of (i _ m) | exact Calls.quiet_of (i _ (m.new ((Upd.refl _ _).drewN _)))));go_wp2
     first | go_ret2 | go_ret
     exact⟨by rw[D];rfl,by first | exact z.trans E | exact(z.trans E).drewN _⟩
    | false =>
     have hd:(qw x.state x.own ev != x.state)=false:=J;have D:zl ev (xs.take (n+1))=false:=by rw[qa T,J]
     have X:=qb D;clear D;generalize qw x.state x.own ev=y at i hd;go_quiet ((go_at_call 71;first | exact Calls.quiet_of (i _ m) | exact Calls.quiet_of (i _ (m.new ((Upd.refl _ _).drewN _)))));go_wp2;go_roundw
     case rel=>exact⟨n+1,by go_num,by omega,X,by first | exact z.trans E | exact(z.trans E).drewN _⟩
     case measure=>simp[intOf];omega
  ·obtain rfl:n=xs.length:=by omega
   have D:zl ev xs=false:=by have:=qa R;rwa [List.take_length] at this
   go_wp2
   first | go_ret2 | go_ret
   exact⟨by rw[D];rfl,z⟩
end Go.Proofs.YthnohmjbbeahmaaGreatDoor
namespace Go.Proofs.YthnohmjbbeahmaaGreatDoor
open Go.RowKit Go.Sort
theorem q6t(ours:Bool)(xs:List Live):(qz ours xs).length≤xs.length:=by
 unfold qz;rw[List.length_map];exact List.length_filter_le _ _
def qfo(I X:List Item):Prop:=∃M:List (Item × Nat),M.Perm I.zipIdx∧Srt M∧X=its M
theorem q3e{M N:List (Item × Nat)}(h:M.Perm N)(m:Srt M)(o:Srt N):M=N:=by
 induction M generalizing N with
 | nil=>exact(List.Perm.nil_eq h)
 | cons x M q =>
  cases N with
  | nil=>exact absurd h.length_eq (by simp)
  | cons y N =>
   have l:x=y:=by
    have g:x∈y::N:=h.subset (List.mem_cons_self ..);have i:y∈x::M:=h.symm.subset (List.mem_cons_self ..);rcases List.mem_cons.1 g with e | g
    ·exact e
    ·rcases List.mem_cons.1 i with e | i
     ·exact e.symm
     ·have a:=(List.pairwise_cons.1 m).1 y i;have b:=(List.pairwise_cons.1 o).1 x g;exact absurd (qiy a b) (q2h x)
   subst l;rw[q (List.Perm.cons_inv h) (List.pairwise_cons.1 m).2 (List.pairwise_cons.1 o).2]
theorem qtj{I X Y:List Item}(h:qfo I X)(k:qfo I Y):X=Y:=by
 obtain⟨M,pM,g,rfl⟩:=h;obtain⟨N,pN,i,rfl⟩:=k;rw[q3e (pM.trans pN.symm) g i]
open Classical in
noncomputable def qfn(I:List Item):List Item:=if h:∃X,qfo I X then h.choose else []
theorem qs3{I X:List Item}(h:qfo I X):X=qfn I:=by
 have g:∃X,qfo I X:=⟨X,h⟩;unfold qfn;rw[dif_pos g];exact qtj h g.choose_spec
theorem qs4{I:List Item}(h:qfo I (qfn I)):(qfn I).Perm I:=by
 obtain⟨M,pM,_,e⟩:=h;rw[e];have:=pM.map (·.1);simpa [its,List.zipIdx_map_fst] using this
theorem zea(ours:Bool)(l r:Int)(v:Value)(xs:List Live)(z:xs.length≤19)(w:World)(o:Spans w)(hv:qio w v xs) :
  Calls Tryz.prog 61 #[.bool ours,.agg #[.int .u64 l,.int .u64 r],v] w fun e w'=>∃u,e = .returned (.agg #[.int .u64 (if ours then (zq ours l r xs).1 else (zq ours l r xs).2),.int .u64 (if ours then (zq ours l r xs).2 else (zq ours l r xs).1),u]) ∧
   qu w w'∧qqv w' u (qfn (qz ours xs))∧qfo (qz ours xs) (qfn (qz ours xs)):=by
 refine(zhg ours l r v xs z w o hv).mono ?_
 rintro e w' ⟨u,X,q,C,t,g⟩
 have i:=qs3 (I:=qz ours xs) g
 have m:qfo (qz ours xs) X:=g
 rw[←i]
 exact⟨u,q,C,t,m⟩
def qdw(x:Live):Live:= {x with own:= !x.own}
def qmf(p:Int × Int):Int × Int:=(p.2,p.1)
theorem qyu(ours own:Bool)(st:Int):qcx (!ours) (!own) st=qcx ours own st:=by cases ours<;>simp[qcx]
theorem q6f(ours own:Bool)(st:Int):qen (!ours) (!own) st=qen ours own st:=by cases ours<;>simp[qen]
theorem q17(ours:Bool)(xs:List Live):qz (!ours) (xs.map qdw)=qz ours xs:=by
 unfold qz;rw[List.filter_map,List.map_map];have g:((fun x:Live=>qcx (!ours) x.own x.state) ∘ qdw)=fun x:Live=>qcx ours x.own x.state:=by
  funext x;exact qyu ours x.own x.state
 have i:((fun x:Live=>(⟨x.own == !ours,x.h⟩:Item)) ∘ qdw)=fun x:Live=>⟨x.own==ours,x.h⟩:=by
  funext x;cases ours<;>cases h:x.own<;>simp[qdw,h]
 rw[g,i]
theorem qt9(g:Bool)(n:Int)(p:Int × Int):qc9 (!g) n (qmf p)=qmf (qc9 g n p):=by cases g<;>rfl
theorem q71(ours:Bool)(p:Int × Int)(x:Live):qbp (!ours) (qmf p) (qdw x)=qmf (qbp ours p x):=by
 unfold qbp;have g:qcx (!ours) (qdw x).own (qdw x).state=qcx ours x.own x.state:=qyu ours x.own x.state;have i:qen (!ours) (qdw x).own (qdw x).state=qen ours x.own x.state:=q6f ours x.own x.state;rw[g,i];show (if qcx ours x.own x.state=true then qmf p else if (qen ours x.own x.state&&x.paid)=true then qc9 (!!x.own) x.h.amount (qmf p) else qc9 (!x.own) x.h.amount (qmf p))=_;split
 ·rfl
 ·split
  ·exact qt9 (!x.own) _ _
  ·exact qt9 x.own _ _
theorem q73(ours:Bool)(l r:Int)(xs:List Live):zq (!ours) r l (xs.map qdw)=qmf (zq ours l r xs):=by
 unfold zq;have key:∀(xs:List Live) (p:Int × Int),(xs.map qdw).foldl (qbp (!ours)) (qmf p)=qmf (xs.foldl (qbp ours) p):=by
  intro xs
  induction xs with
  | nil=>intro p;rfl
  | cons x xs g=>intro p;rw[List.map_cons,List.foldl_cons,List.foldl_cons,q71,g]
 exact key xs (l,r)
theorem zam{ours:Bool}{xs:List Live}(h:∀x∈xs,LiveOk x):∀x∈qz ours xs,HtlcOk x.h:=by
 intro x g;unfold qz at g;rw[List.mem_map] at g;obtain⟨y,i,rfl⟩:=g;exact(h y (List.mem_filter.1 i).1).h
theorem zew{I:List Item}(hv:qfo I (qfn I))(h:∀x∈I,HtlcOk x.h):∀x∈qfn I,HtlcOk x.h:=fun x g=>h x ((qs4 hv).subset g)
def qie(ours:Bool)(l r:Int)(xs:List Live):Int:=if ours then (zq ours l r xs).1 else (zq ours l r xs).2
def qif(ours:Bool)(l r:Int)(xs:List Live):Int:=if ours then (zq ours l r xs).2 else (zq ours l r xs).1
theorem qqo(x:Int):0≤IntKind.u64.wrap x∧IntKind.u64.wrap x<18446744073709551616:=by rw[IntKind.wrap_u64];omega
theorem q4z(ours:Bool)(xs:List Live):∀(l r:Int),(0≤l∧l<18446744073709551616)→(0≤r∧r<18446744073709551616)→(0≤(zq ours l r xs).1∧(zq ours l r xs).1<18446744073709551616)∧(0≤(zq ours l r xs).2∧(zq ours l r xs).2<18446744073709551616):=by
 unfold zq
 induction xs with
 | nil=>intro l r i m;exact⟨i,m⟩
 | cons x xs t =>
  intro l r i m;rw[List.foldl_cons];have q:(0≤(qbp ours (l,r) x).1∧(qbp ours (l,r) x).1<18446744073709551616)∧(0≤(qbp ours (l,r) x).2∧(qbp ours (l,r) x).2<18446744073709551616):=by
   have o:∀g n,(0≤(qc9 g n (l,r)).1∧(qc9 g n (l,r)).1<18446744073709551616)∧(0≤(qc9 g n (l,r)).2∧(qc9 g n (l,r)).2<18446744073709551616):=by
    intro g n;unfold qc9;split
    ·exact⟨qqo _,m⟩
    ·exact⟨i,qqo _⟩
   unfold qbp;split
   ·exact⟨i,m⟩
   ·split
    ·exact o _ _
    ·exact o _ _
  exact t _ _ q.1 q.2
theorem zcy(ours:Bool)(l r:Int)(xs:List Live)(g:0≤l∧l<18446744073709551616)(i:0≤r∧r<18446744073709551616):0≤qie ours l r xs∧qie ours l r xs<18446744073709551616:=by
 have:=q4z ours xs l r g i;unfold qie;split
 ·exact this.1
 ·exact this.2
theorem zcz(ours:Bool)(l r:Int)(xs:List Live)(g:0≤l∧l<18446744073709551616)(i:0≤r∧r<18446744073709551616):0≤qif ours l r xs∧qif ours l r xs<18446744073709551616:=by
 have:=q4z ours xs l r g i;unfold qif;split
 ·exact this.2
 ·exact this.1
noncomputable def zt(ours:Bool)(key:ByteArray)(ch n l r:Int)(xs:List Live):List Int:=qtr key (qki ch n (qie ours l r xs) (qif ours l r xs) (qfn (qz ours xs)))
theorem qgu(ours:Bool)(key:ByteArray)(ch n l r:Int)(xs:List Live):(zt ours key ch n l r xs).length=32:=by unfold zt qtr;exact qc4 _
structure ViewO(ours:Bool)(l r:Int)(xs:List Live)(w:World)(v:Value):Prop where
 u:∃u,v = .agg #[.int .u64 (qie ours l r xs),.int .u64 (qif ours l r xs),u]∧qfp w u (qfn (qz ours xs))
 is:qfo (qz ours xs) (qfn (qz ours xs))
theorem ViewO.new{ours:Bool}{l r:Int}{xs:List Live}{w w':World}{v:Value}(h:ViewO ours l r xs w v)(n:qu w w'):ViewO ours l r xs w' v:=by
 obtain⟨⟨u,e,i⟩,g⟩:=h;exact⟨⟨u,e,i.new n⟩,g⟩
theorem qzn(ours:Bool)(l r:Int)(v:Value)(xs:List Live)(t:xs.length≤19)(w:World)(g:Spans w)(hv:qio w v xs) :
  Calls Tryz.prog 61 #[.bool ours,.agg #[.int .u64 l,.int .u64 r],v] w fun e w'=>∃V,e = .returned V∧qu w w'∧ViewO ours l r xs w' V:=by
 refine(zea ours l r v xs (by omega) w g hv).mono ?_
 rintro e w' ⟨u,m,q,o,i⟩
 exact⟨_,m,q,⟨⟨u,rfl,o.toR⟩,i⟩⟩
theorem qu5(ours:Bool)(l r:Int)(V:Value)(xs:List Live)(key:ByteArray)(ch n:Int)(z:xs.length≤1000000)(w:World)(o:Tabs w)(q:ViewO ours l r xs w V)(E:∀x∈xs,LiveOk x)(v:key.size≤100000000)(t:0≤ch∧ch<4294967296)(C : -9223372036854775808≤n∧n≤9223372036854775807)(bl:0≤l∧l<18446744073709551616)(i:0≤r∧r<18446744073709551616) :
  Calls Tryz.prog 60 #[.string key,.int .u32 ch,.int .i64 n,V] w (qbr (.agg (qx (zt ours key ch n l r xs)).toArray) w):=by
 obtain⟨⟨u,rfl,D⟩,m⟩:=q
 have g:(qfn (qz ours xs)).length≤1000000:=by
  rw[(qs4 m).length_eq];exact Nat.le_trans (q6t ours xs) z
 exact zc0 key ch n _ _ u _ g (zew m (zam E)) w o v t C (zcy ours l r xs bl i) (zcz ours l r xs bl i) D
end Go.Proofs.YthnohmjbbeahmaaGreatDoor
