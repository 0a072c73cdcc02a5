/-
  view.Tag.
-/
import Derived.Test.YtfmkdoachjgjbaaGreatDoorMbi
import Derived.Test.YtfmkdoachjgjbaaGreatDoorSl1
import Derived.Test.YtfmkdoachjgjbaaGreatDoorMbb
import Derived.Test.YtfmkdoachjgjbaaGreatDoorVw5
import Derived.Test.YtfmkdoachjgjbaaGreatDoorMah
set_option maxRecDepth 100000
set_option maxHeartbeats 4000000
set_option linter.unusedVariables false
set_option linter.unusedSimpArgs false
namespace Go.Proofs.YtfmkdoachjgjbaaGreatDoor
section
open Go.RowKit Go.Sort
theorem qyn(ch n A B:Int)(X:List Item):(qim ch n A B X).size=30+57*X.length:=by
 unfold qim;rw[qqg,qon]
theorem q76(key:ByteArray)(ch n A B:Int)(u:Value)(X:List Item)(hl:X.length≤1000000)(F:∀x∈X,HtlcOk x.h)(w:World)(hT:Tabs w)(hk:key.size≤100000000)(U:0≤ch∧ch<4294967296)(V : -9223372036854775808≤n∧n≤9223372036854775807)
  (P:0≤A∧A<18446744073709551616) (S:0≤B∧B<18446744073709551616) (hu:qea w u X) :
  Calls Tryz.prog 120 #[.string key,.int .u32 ch,.int .i64 n,.agg #[.int .u64 A,.int .u64 B,u]] w fun e w'=>e = .returned (.agg ((qp2 key (qim ch n A B X)).map (Value.int .u8)).toArray)∧qq w w':=by
 have C:=qb (fun W (m:qq w W)=>q7z ch n A B u X (by omega) F W U V P S (hu.new m))
 have I:(qim ch n A B X).size≤100000000:=by rw[qyn];omega
 have z:=qb (fun W h=>q9z key (qim ch n A B X) W hk I h)
 have i:(qp2 key (qim ch n A B X)).length=32:=by unfold qp2;exact qb9 _
 generalize T:qp2 key (qim ch n A B X)=out at z i
 have HO:=qb T
 generalize qim ch n A B X=tx at C z HO
 clear P S V U F I T
 go_enter Tryz.func120,Tryz.ntmps120
 go_upto_region 0 with fail
 refine wp_region_lit ?_
 refine zj rfl (v:= .pointer (some ⟨w.heap.size,0,none⟩)) (w':=w.alloc (.cells #[.int .u64 A,.int .u64 B,u] 201)) (by simp only[execOp];go_simp) ?_
 have E:=qj w (.cells #[.int .u64 A,.int .u64 B,u] 201)
 have K:qq w (w.alloc (.cells #[.int .u64 A,.int .u64 B,u] 201)):=(Upd.refl _ _).alloc _
 generalize w.alloc (.cells #[.int .u64 A,.int .u64 B,u] 201)=w1 at E K ⊢
 refine zj rfl (v:= .pointer (some ⟨w1.heap.size,0,none⟩)) (w':=w1.alloc (.cells qer 35)) (by kernel_rfl) ?_
 have L:qq w1 (w1.alloc (.cells qer 35)):=(Upd.refl _ _).alloc _
 have q:=qj w1 (.cells qer 35)
 generalize w1.alloc (.cells qer 35)=J at L q ⊢
 replace E:=L.old E (fun h=>h)
 have r:=K.trans L
 have H:=K.size
 go_upto_region 1 with fail
 refine wp_region_lit ?_
 refine zj rfl (v:= .string key) (w':=J) (by kernel_rfl) ?_
 refine zj rfl (v:= .int .u32 ch) (w':=J) (by kernel_rfl) ?_
 refine zj rfl (v:= .int .i64 n) (w':=J) (by kernel_rfl) ?_
 refine wpList_load_row rfl _ _ rfl w.heap.size (by kernel_rfl) 201 _ _ _ E Tryz.underlying201 rfl (by kernel_rfl) ?_
 refine qdi rfl (f:=157) (args:=#[.int .u32 ch,.int .i64 n,.agg #[.int .u64 A,.int .u64 B,u]]) (w':=J) (by kernel_rfl) ?_
 refine(qa C J r).mono ?_
 rintro e Z ⟨rfl,N⟩
 refine⟨_,rfl,?_⟩
 replace q:=N.old q (fun h=>h)
 replace r:=r.trans N
 refine qdi rfl (f:=156) (args:=#[.string key,.string tx]) (w':=Z) (by kernel_rfl) ?_
 refine(qa z Z (hT.new r)).mono ?_
 rintro e w4 ⟨rfl,O⟩
 refine⟨_,rfl,?_⟩
 replace q:=O.old q (fun h=>h)
 replace r:=r.trans O
 refine wpList_store_row rfl _ _ _ rfl w1.heap.size (out.map (Value.int .u8)).toArray (by kernel_rfl) (by kernel_rfl) 35 _ q (by rw[List.size_toArray,List.length_map,i];exact Tryz.infoHash) (by have h9:qer.size=32:=rfl;rw[h9];simp[i]) (by simp[Value.oneCell']) ?_
 have M:=setRow_heap w4 w1.heap.size _ (out.map (Value.int .u8)).toArray 35 (0,0) q
 have Y:=r.setRow (g:=w1.heap.size) (fun h=>by omega) (out.map (Value.int .u8)).toArray
 generalize w4.setRow w1.heap.size (out.map (Value.int .u8)).toArray=wF at M Y ⊢
 generalize w1.heap.size=R at M ⊢
 clear N O q E K L r H
 go_wp2_with fail
 refine bodyPost_ret (results_cell_row rfl _ _ R 35 _ _ _ (by kernel_rfl) M Tryz.underlying35 rfl (by rw[List.size_toArray,List.length_map,i];exact Tryz.infoHash)) rfl ?_
 exact⟨rfl,Y⟩
attribute [local go_sem ↓ high] qbf qbs
attribute [local go_sem] qdo qd2
def chg(ev:Int)(x:Live):Bool:=qcw x.state x.own ev != x.state
def qa9(ev:Int)(xs:List Live):Bool:=xs.any (chg ev)
theorem qmj(v:Value)(xs:List Live)(ev:Int)(hl:xs.length≤1048576)(w:World)(hG:Glob w)(Y:qgx w v xs) :
  Calls Tryz.prog 118 #[v,.int .i64 ev] w (qa7 (.bool (qa9 ev xs)) w):=by
 have O:∃a c,v = .slice a xs.length c:=by
  rcases Y with ⟨_,_,rfl,rfl⟩ | ⟨g,off,cap,rfl,_⟩
  ·exact⟨_,_,rfl⟩
  ·exact⟨_,_,rfl⟩
 obtain⟨va,vc,rfl⟩:=O
 go_enter Tryz.func118,Tryz.ntmps118
 go_wp2_with fail
 go_loopw [9] (fun R wr=>∃n:Nat,R = .int .i64 (n:Int)∧n≤xs.length∧Hid (qa9 ev (xs.take n)=false)∧qq w wr) (fun R _=>xs.length-(intOf R).toNat)
 case atStart=>exact⟨0,rfl,Nat.zero_le _,qb rfl,Upd.refl _ _⟩
 case round =>
  obtain⟨n,rfl,hn,T,E⟩:=hrel;by_cases z:n<xs.length
  ·obtain⟨x,M⟩:∃x,xs[n]? = some x:=⟨_,List.getElem?_eq_getElem z⟩;rcases Y.new E with ⟨_,_,e,e2⟩ | ⟨g,off,cap,e,V⟩
   ·rw[e2] at z;simp at z
   ·cases e;have q:=V.row M;have a6:(n:Int)<(xs.length:Int):=by omega
    have I:stOk (wr.alloc (.cells #[.int .u64 0,.int .u64 0,.int .u8 0,.int .u8 0,.int .u8 0,.int .u8 0,.int .u8 0,.int .u8 0,.int .u8 0,.int .u8 0,.int .u8 0,.int .u8 0,.int .u8 0,.int .u8 0,.int .u8 0,.int .u8 0,.int .u8 0,.int .u8 0,.int .u8 0,.int .u8 0,.int .u8 0,.int .u8 0,.int .u8 0,.int .u8 0,.int .u8 0,.int .u8 0,.int .u8 0,.int .u8 0,.int .u8 0,.int .u8 0,.int .u8 0,.int .u8 0,.int .u8 0,.int .u8 0,.int .i64 0,.bool false,.int .i64 0,.bool false] 69)) wr.heap.size 0 38 (qo x).toArray=true:=qd0 (qj _ _) (by decide) (by rw[List.size_toArray,qbo]) (by rw[List.all_toArray,List.all_eq_true];exact qfc x);have i:=qk2 wr #[.int .u64 0,.int .u64 0,.int .u8 0,.int .u8 0,.int .u8 0,.int .u8 0,.int .u8 0,.int .u8 0,.int .u8 0,.int .u8 0,.int .u8 0,.int .u8 0,.int .u8 0,.int .u8 0,.int .u8 0,.int .u8 0,.int .u8 0,.int .u8 0,.int .u8 0,.int .u8 0,.int .u8 0,.int .u8 0,.int .u8 0,.int .u8 0,.int .u8 0,.int .u8 0,.int .u8 0,.int .u8 0,.int .u8 0,.int .u8 0,.int .u8 0,.int .u8 0,.int .u8 0,.int .u8 0,.int .i64 0,.bool false,.int .i64 0,.bool false] 69 (qo x) (by rw[qbo];rfl);have J:=qfo x;have K:=qfp x;have X:qa9 ev (xs.take (n+1))=chg ev x:=by
     have:=qa T;unfold qa9 at this ⊢;rw[List.take_add_one,M,List.any_append,this];simp
    have U:=qb X;have HX:=qb M;clear X V M;generalize qo x=C at q I i J K;go_upto_region 4 with fail;obtain⟨r,H⟩:=i;generalize (wr.alloc (.cells #[.int .u64 0,.int .u64 0,.int .u8 0,.int .u8 0,.int .u8 0,.int .u8 0,.int .u8 0,.int .u8 0,.int .u8 0,.int .u8 0,.int .u8 0,.int .u8 0,.int .u8 0,.int .u8 0,.int .u8 0,.int .u8 0,.int .u8 0,.int .u8 0,.int .u8 0,.int .u8 0,.int .u8 0,.int .u8 0,.int .u8 0,.int .u8 0,.int .u8 0,.int .u8 0,.int .u8 0,.int .u8 0,.int .u8 0,.int .u8 0,.int .u8 0,.int .u8 0,.int .u8 0,.int .u8 0,.int .i64 0,.bool false,.int .i64 0,.bool false] 69)).setCells wr.heap.size 0 C=S at r H ⊢;have a7:S.cell? ⟨wr.heap.size,35,none⟩=some (.bool x.own):=by rw[qg r,List.getElem?_toArray];exact J
    have a8:S.cell? ⟨wr.heap.size,36,none⟩=some (.int .i64 x.state):=by rw[qg r,List.getElem?_toArray];exact K
    have m:Glob S:=hG.new (E.trans H);clear I q;have f:∀W,Glob W→Calls Tryz.prog 154 #[.int .i64 x.state,.bool x.own,.int .i64 ev] W (qa2 (.int .i64 (qcw x.state x.own ev)) W):=fun W h=>qux x.state ev x.own W h
    cases L:chg ev x with
    | true =>
     have hd:(qcw x.state x.own ev != x.state)=true:=L;have F:qa9 ev xs=true:=by
      have N:qa9 ev (xs.take (n+1))=true:=by rw[qa U,L]
      unfold qa9 at N ⊢;rw[List.any_eq_true] at N ⊢;obtain⟨y,hy,P⟩:=N;exact⟨y,List.mem_of_mem_take hy,P⟩
     generalize qcw x.state x.own ev=y at f hd;go_quiet ((go_at_call 154;first | exact Calls.quiet_of (f _ m) | exact Calls.quiet_of (f _ (m.new ((Upd.refl _ _).drewN _)))));go_wp2
     first | go_ret2 | go_ret
     exact⟨by rw[F];rfl,by first | exact E.trans H | exact(E.trans H).drewN _⟩
    | false =>
     have hd:(qcw x.state x.own ev != x.state)=false:=L;have F:qa9 ev (xs.take (n+1))=false:=by rw[qa U,L]
     have Z:=qb F;clear F;generalize qcw x.state x.own ev=y at f hd;go_quiet ((go_at_call 154;first | exact Calls.quiet_of (f _ m) | exact Calls.quiet_of (f _ (m.new ((Upd.refl _ _).drewN _)))));go_wp2;go_roundw
     case rel=>exact⟨n+1,by go_num,by omega,Z,by first | exact E.trans H | exact(E.trans H).drewN _⟩
     case measure=>simp[intOf];omega
  ·obtain rfl:n=xs.length:=by omega
   have F:qa9 ev xs=false:=by have:=qa T;rwa [List.take_length] at this
   go_wp2
   first | go_ret2 | go_ret
   exact⟨by rw[F];rfl,E⟩
end
section
open Go.RowKit Go.Sort
theorem q1j(ours:Bool)(xs:List Live):(qav ours xs).length≤xs.length:=by
 unfold qav;rw[List.length_map];exact List.length_filter_le _ _
def qgt(I X:List Item):Prop:=∃M:List (Item × Nat),M.Perm I.zipIdx∧Srt M∧X=its M
theorem qyg{M N:List (Item × Nat)}(h:M.Perm N)(q:Srt M)(r:Srt N):M=N:=by
 induction M generalizing N with
 | nil=>exact(List.Perm.nil_eq h)
 | cons x M v =>
  cases N with
  | nil=>exact absurd h.length_eq (by simp)
  | cons y N =>
   have m:x=y:=by
    have f:x∈y::N:=h.subset (List.mem_cons_self ..);have i:y∈x::M:=h.symm.subset (List.mem_cons_self ..);rcases List.mem_cons.1 f with e | f
    ·exact e
    ·rcases List.mem_cons.1 i with e | i
     ·exact e.symm
     ·have a:=(List.pairwise_cons.1 q).1 y i;have b:=(List.pairwise_cons.1 r).1 x f;exact absurd (qha a b) (qxs x)
   subst m;rw[v (List.Perm.cons_inv h) (List.pairwise_cons.1 q).2 (List.pairwise_cons.1 r).2]
theorem qpx{I X Y:List Item}(h:qgt I X)(k:qgt I Y):X=Y:=by
 obtain⟨M,f,m,rfl⟩:=h;obtain⟨N,i,q,rfl⟩:=k;rw[qyg (f.trans i.symm) m q]
open Classical in
noncomputable def qgd(I:List Item):List Item:=if h:∃X,qgt I X then h.choose else []
theorem q75{I X:List Item}(h:qgt I X):X=qgd I:=by
 have f:∃X,qgt I X:=⟨X,h⟩;unfold qgd;rw[dif_pos f];exact qpx h f.choose_spec
theorem qpm{I:List Item}(h:qgt I (qgd I)):(qgd I).Perm I:=by
 obtain⟨M,f,_,e⟩:=h;rw[e];have:=f.map (·.1);simpa [its,List.zipIdx_map_fst] using this
theorem q9k(ours:Bool)(l r:Int)(v:Value)(xs:List Live)(E:xs.length≤19)(w:World)(q:Spans w)(H:qgx w v xs) :
  Calls Tryz.prog 121 #[.bool ours,.agg #[.int .u64 l,.int .u64 r],v] w fun e w'=>∃u,e = .returned (.agg #[.int .u64 (if ours then (qbd ours l r xs).1 else (qbd ours l r xs).2),.int .u64 (if ours then (qbd ours l r xs).2 else (qbd ours l r xs).1),u]) ∧
   qq w w'∧qyy w' u (qgd (qav ours xs))∧qgt (qav ours xs) (qgd (qav ours xs)):=by
 refine(zb6 ours l r v xs E w q H).mono ?_
 rintro e w' ⟨u,X,z,F,C,f⟩
 have i:=q75 (I:=qav ours xs) f
 have m:qgt (qav ours xs) X:=f
 rw[←i]
 exact⟨u,z,F,C,m⟩
def qes(x:Live):Live:= {x with own:= !x.own}
def qj5(p:Int × Int):Int × Int:=(p.2,p.1)
theorem qt8(ours own:Bool)(st:Int):qna (!ours) (!own) st=qna ours own st:=by cases ours<;>simp[qna]
theorem q06(ours own:Bool)(st:Int):qkw (!ours) (!own) st=qkw ours own st:=by cases ours<;>simp[qkw]
theorem qxi(ours:Bool)(xs:List Live):qav (!ours) (xs.map qes)=qav ours xs:=by
 unfold qav;rw[List.filter_map,List.map_map];have f:((fun x:Live=>qna (!ours) x.own x.state) ∘ qes)=fun x:Live=>qna ours x.own x.state:=by
  funext x;exact qt8 ours x.own x.state
 have i:((fun x:Live=>(⟨x.own == !ours,x.h⟩:Item)) ∘ qes)=fun x:Live=>⟨x.own==ours,x.h⟩:=by
  funext x;cases ours<;>cases h:x.own<;>simp[qes,h]
 rw[f,i]
theorem qqi(f:Bool)(n:Int)(p:Int × Int):qfb (!f) n (qj5 p)=qj5 (qfb f n p):=by cases f<;>rfl
theorem q3b(ours:Bool)(p:Int × Int)(x:Live):qfk (!ours) (qj5 p) (qes x)=qj5 (qfk ours p x):=by
 unfold qfk;have f:qna (!ours) (qes x).own (qes x).state=qna ours x.own x.state:=qt8 ours x.own x.state;have i:qkw (!ours) (qes x).own (qes x).state=qkw ours x.own x.state:=q06 ours x.own x.state;rw[f,i];show (if qna ours x.own x.state=true then qj5 p else if (qkw ours x.own x.state&&x.paid)=true then qfb (!!x.own) x.h.amount (qj5 p) else qfb (!x.own) x.h.amount (qj5 p))=_;split
 ·rfl
 ·split
  ·exact qqi (!x.own) _ _
  ·exact qqi x.own _ _
theorem q3c(ours:Bool)(l r:Int)(xs:List Live):qbd (!ours) r l (xs.map qes)=qj5 (qbd ours l r xs):=by
 unfold qbd;have key:∀(xs:List Live) (p:Int × Int),(xs.map qes).foldl (qfk (!ours)) (qj5 p)=qj5 (xs.foldl (qfk ours) p):=by
  intro xs
  induction xs with
  | nil=>intro p;rfl
  | cons x xs f=>intro p;rw[List.map_cons,List.foldl_cons,List.foldl_cons,q3b,f]
 exact key xs (l,r)
theorem q51{ours:Bool}{xs:List Live}(h:∀x∈xs,LiveOk x):∀x∈qav ours xs,HtlcOk x.h:=by
 intro x f;unfold qav at f;rw[List.mem_map] at f;obtain⟨y,i,rfl⟩:=f;exact(h y (List.mem_filter.1 i).1).h
theorem q94{I:List Item}(f:qgt I (qgd I))(h:∀x∈I,HtlcOk x.h):∀x∈qgd I,HtlcOk x.h:=fun x i=>h x ((qpm f).subset i)
def qjg(ours:Bool)(l r:Int)(xs:List Live):Int:=if ours then (qbd ours l r xs).1 else (qbd ours l r xs).2
def qjh(ours:Bool)(l r:Int)(xs:List Live):Int:=if ours then (qbd ours l r xs).2 else (qbd ours l r xs).1
theorem qs7(x:Int):0≤IntKind.u64.wrap x∧IntKind.u64.wrap x<18446744073709551616:=by rw[IntKind.wrap_u64];omega
theorem qzr(ours:Bool)(xs:List Live):∀(l r:Int),(0≤l∧l<18446744073709551616)→(0≤r∧r<18446744073709551616)→(0≤(qbd ours l r xs).1∧(qbd ours l r xs).1<18446744073709551616)∧(0≤(qbd ours l r xs).2∧(qbd ours l r xs).2<18446744073709551616):=by
 unfold qbd
 induction xs with
 | nil=>intro l r i m;exact⟨i,m⟩
 | cons x xs z =>
  intro l r i m;rw[List.foldl_cons];have v:(0≤(qfk ours (l,r) x).1∧(qfk ours (l,r) x).1<18446744073709551616)∧(0≤(qfk ours (l,r) x).2∧(qfk ours (l,r) x).2<18446744073709551616):=by
   have q:∀f n,(0≤(qfb f n (l,r)).1∧(qfb f n (l,r)).1<18446744073709551616)∧(0≤(qfb f n (l,r)).2∧(qfb f n (l,r)).2<18446744073709551616):=by
    intro f n;unfold qfb;split
    ·exact⟨qs7 _,m⟩
    ·exact⟨i,qs7 _⟩
   unfold qfk;split
   ·exact⟨i,m⟩
   ·split
    ·exact q _ _
    ·exact q _ _
  exact z _ _ v.1 v.2
theorem q73(ours:Bool)(l r:Int)(xs:List Live)(f:0≤l∧l<18446744073709551616)(i:0≤r∧r<18446744073709551616):0≤qjg ours l r xs∧qjg ours l r xs<18446744073709551616:=by
 have:=qzr ours xs l r f i;unfold qjg;split
 ·exact this.1
 ·exact this.2
theorem q74(ours:Bool)(l r:Int)(xs:List Live)(f:0≤l∧l<18446744073709551616)(i:0≤r∧r<18446744073709551616):0≤qjh ours l r xs∧qjh ours l r xs<18446744073709551616:=by
 have:=qzr ours xs l r f i;unfold qjh;split
 ·exact this.2
 ·exact this.1
noncomputable def qbi(ours:Bool)(key:ByteArray)(ch n l r:Int)(xs:List Live):List Int:=qp2 key (qim ch n (qjg ours l r xs) (qjh ours l r xs) (qgd (qav ours xs)))
theorem qgr(ours:Bool)(key:ByteArray)(ch n l r:Int)(xs:List Live):(qbi ours key ch n l r xs).length=32:=by unfold qbi qp2;exact qb9 _
structure ViewO(ours:Bool)(l r:Int)(xs:List Live)(w:World)(v:Value):Prop where
 u:∃u,v = .agg #[.int .u64 (qjg ours l r xs),.int .u64 (qjh ours l r xs),u]∧qea w u (qgd (qav ours xs))
 is:qgt (qav ours xs) (qgd (qav ours xs))
theorem ViewO.new{ours:Bool}{l r:Int}{xs:List Live}{w w':World}{v:Value}(h:ViewO ours l r xs w v)(n:qq w w'):ViewO ours l r xs w' v:=by
 obtain⟨⟨u,e,i⟩,f⟩:=h;exact⟨⟨u,e,i.new n⟩,f⟩
theorem qu0(ours:Bool)(l r:Int)(v:Value)(xs:List Live)(E:xs.length≤19)(w:World)(f:Spans w)(C:qgx w v xs) :
  Calls Tryz.prog 121 #[.bool ours,.agg #[.int .u64 l,.int .u64 r],v] w fun e w'=>∃V,e = .returned V∧qq w w'∧ViewO ours l r xs w' V:=by
 refine(q9k ours l r v xs (by omega) w f C).mono ?_
 rintro e w' ⟨u,m,z,q,i⟩
 exact⟨_,m,z,⟨⟨u,rfl,q.toR⟩,i⟩⟩
theorem qq9(ours:Bool)(l r:Int)(V:Value)(xs:List Live)(key:ByteArray)(ch n:Int)(F:xs.length≤1000000)(w:World)(v:Tabs w)(z:ViewO ours l r xs w V)(J:∀x∈xs,LiveOk x)(E:key.size≤100000000)(C:0≤ch∧ch<4294967296)(H : -9223372036854775808≤n∧n≤9223372036854775807)(i:0≤l∧l<18446744073709551616)(m:0≤r∧r<18446744073709551616) :
  Calls Tryz.prog 120 #[.string key,.int .u32 ch,.int .i64 n,V] w (qa7 (.agg (qu (qbi ours key ch n l r xs)).toArray) w):=by
 obtain⟨⟨u,rfl,I⟩,q⟩:=z
 have f:(qgd (qav ours xs)).length≤1000000:=by
  rw[(qpm q).length_eq];exact Nat.le_trans (q1j ours xs) F
 exact q76 key ch n _ _ u _ f (q94 q (q51 J)) w v E C H (q73 ours l r xs i m) (q74 ours l r xs i m) I
end
end Go.Proofs.YtfmkdoachjgjbaaGreatDoor
