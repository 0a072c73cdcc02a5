/-
  view.Tag.
-/
import Derived.Test.YtfmkdoachjgjbaaGreatDoorMbc
import Derived.Test.YtfmkdoachjgjbaaGreatDoorSl1
import Derived.Test.YtfmkdoachjgjbaaGreatDoorMai
import Derived.Test.YtfmkdoachjgjbaaGreatDoorVw5
import Derived.Test.YtfmkdoachjgjbaaGreatDoorMaf
set_option maxRecDepth 100000
set_option maxHeartbeats 4000000
set_option linter.unusedVariables false
set_option linter.unusedSimpArgs false
namespace Go.Proofs.YtfmkdoachjgjbaaGreatDoor
section
open Go.RowKit Go.Sort
theorem qyi(ch n A B:Int)(X:List Item):(qii ch n A B X).size=30+57*X.length:=by
 unfold qii;rw[qqg,qoi]
theorem q8j(key:ByteArray)(ch n A B:Int)(u:Value)(X:List Item)(hl:X.length≤1000000)(F:∀x∈X,HtlcOk x.h)(w:World)(hT:Tabs w)(hk:key.size≤100000000)(U:0≤ch∧ch<4294967296)(V : -9223372036854775808≤n∧n≤9223372036854775807)
  (P:0≤A∧A<18446744073709551616) (S:0≤B∧B<18446744073709551616) (hu:qeb w u X) :
  Calls Tryz.prog 120 #[.string key,.int .u32 ch,.int .i64 n,.agg #[.int .u64 A,.int .u64 B,u]] w fun e w'=>e = .returned (.agg ((qp1 key (qii ch n A B X)).map (Value.int .u8)).toArray)∧qu w w':=by
 have C:=qb (fun W (m:qu w W)=>q8c ch n A B u X (by omega) F W U V P S (hu.new m))
 have I:(qii ch n A B X).size≤100000000:=by rw[qyi];omega
 have z:=qb (fun W h=>zae key (qii ch n A B X) W hk I h)
 have i:(qp1 key (qii ch n A B X)).length=32:=by unfold qp1;exact qb5 _
 generalize T:qp1 key (qii ch n A B X)=out at z i
 have HO:=qb T
 generalize qii ch n A B X=tx at C z HO
 clear P S V U F I T
 go_enter Tryz.func120,Tryz.ntmps120
 go_upto_region 0 with fail
 refine wp_region_lit ?_
 refine zg rfl (v:= .pointer (some ⟨w.heap.size,0,none⟩)) (w':=w.alloc (.cells #[.int .u64 A,.int .u64 B,u] 201)) (by simp only[execOp];go_simp) ?_
 have E:=qh w (.cells #[.int .u64 A,.int .u64 B,u] 201)
 have K:qu w (w.alloc (.cells #[.int .u64 A,.int .u64 B,u] 201)):=(Upd.refl _ _).alloc _
 generalize w.alloc (.cells #[.int .u64 A,.int .u64 B,u] 201)=w1 at E K ⊢
 refine zg rfl (v:= .pointer (some ⟨w1.heap.size,0,none⟩)) (w':=w1.alloc (.cells qep 35)) (by kernel_rfl) ?_
 have L:qu w1 (w1.alloc (.cells qep 35)):=(Upd.refl _ _).alloc _
 have p:=qh w1 (.cells qep 35)
 generalize w1.alloc (.cells qep 35)=J at L p ⊢
 replace E:=L.old E (fun h=>h)
 have q:=K.trans L
 have H:=K.size
 go_upto_region 1 with fail
 refine wp_region_lit ?_
 refine zg rfl (v:= .string key) (w':=J) (by kernel_rfl) ?_
 refine zg rfl (v:= .int .u32 ch) (w':=J) (by kernel_rfl) ?_
 refine zg rfl (v:= .int .i64 n) (w':=J) (by kernel_rfl) ?_
 refine wpList_load_row rfl _ _ rfl w.heap.size (by kernel_rfl) 201 _ _ _ E Tryz.underlying201 rfl (by kernel_rfl) ?_
 refine qdb rfl (f:=157) (args:=#[.int .u32 ch,.int .i64 n,.agg #[.int .u64 A,.int .u64 B,u]]) (w':=J) (by kernel_rfl) ?_
 refine(qa C J q).mono ?_
 rintro e Z ⟨rfl,N⟩
 refine⟨_,rfl,?_⟩
 replace p:=N.old p (fun h=>h)
 replace q:=q.trans N
 refine qdb rfl (f:=156) (args:=#[.string key,.string tx]) (w':=Z) (by kernel_rfl) ?_
 refine(qa z Z (hT.new q)).mono ?_
 rintro e w4 ⟨rfl,O⟩
 refine⟨_,rfl,?_⟩
 replace p:=O.old p (fun h=>h)
 replace q:=q.trans O
 refine wpList_store_row rfl _ _ _ rfl w1.heap.size (out.map (Value.int .u8)).toArray (by kernel_rfl) (by kernel_rfl) 35 _ p (by rw[List.size_toArray,List.length_map,i];exact Tryz.infoHash) (by have h9:qep.size=32:=rfl;rw[h9];simp[i]) (by simp[Value.oneCell']) ?_
 have M:=setRow_heap w4 w1.heap.size _ (out.map (Value.int .u8)).toArray 35 (0,0) p
 have Y:=q.setRow (g:=w1.heap.size) (fun h=>by omega) (out.map (Value.int .u8)).toArray
 generalize w4.setRow w1.heap.size (out.map (Value.int .u8)).toArray=wF at M Y ⊢
 generalize w1.heap.size=R at M ⊢
 clear N O p E K L q H
 go_wp2_with fail
 refine bodyPost_ret (results_cell_row rfl _ _ R 35 _ _ _ (by kernel_rfl) M Tryz.underlying35 rfl (by rw[List.size_toArray,List.length_map,i];exact Tryz.infoHash)) rfl ?_
 exact⟨rfl,Y⟩
attribute [local go_sem ↓ high] qba qbn
attribute [local go_sem] qdk qd2
def chg(ev:Int)(x:Live):Bool:=qcr x.state x.own ev != x.state
def qa8(ev:Int)(xs:List Live):Bool:=xs.any (chg ev)
theorem qme(v:Value)(xs:List Live)(ev:Int)(hl:xs.length≤1048576)(w:World)(hG:Glob w)(Y:qgu w v xs) :
  Calls Tryz.prog 118 #[v,.int .i64 ev] w (qa1 (.bool (qa8 ev xs)) w):=by
 have O:∃a c,v = .slice a xs.length c:=by
  rcases Y with ⟨_,_,rfl,rfl⟩ | ⟨g,off,cap,rfl,_⟩
  ·exact⟨_,_,rfl⟩
  ·exact⟨_,_,rfl⟩
 obtain⟨va,vc,rfl⟩:=O
 go_enter Tryz.func118,Tryz.ntmps118
 go_wp2_with fail
 go_loopw [9] (fun R wr=>∃n:Nat,R = .int .i64 (n:Int)∧n≤xs.length∧Hid (qa8 ev (xs.take n)=false)∧qu w wr) (fun R _=>xs.length-(intOf R).toNat)
 case atStart=>exact⟨0,rfl,Nat.zero_le _,qb rfl,Upd.refl _ _⟩
 case round =>
  obtain⟨n,rfl,hn,T,E⟩:=hrel;by_cases z:n<xs.length
  ·obtain⟨x,M⟩:∃x,xs[n]? = some x:=⟨_,List.getElem?_eq_getElem z⟩;rcases Y.new E with ⟨_,_,e,e2⟩ | ⟨g,off,cap,e,V⟩
   ·rw[e2] at z;simp at z
   ·cases e;have p:=V.row M;have a6:(n:Int)<(xs.length:Int):=by omega
    have I:stOk (wr.alloc (.cells #[.int .u64 0,.int .u64 0,.int .u8 0,.int .u8 0,.int .u8 0,.int .u8 0,.int .u8 0,.int .u8 0,.int .u8 0,.int .u8 0,.int .u8 0,.int .u8 0,.int .u8 0,.int .u8 0,.int .u8 0,.int .u8 0,.int .u8 0,.int .u8 0,.int .u8 0,.int .u8 0,.int .u8 0,.int .u8 0,.int .u8 0,.int .u8 0,.int .u8 0,.int .u8 0,.int .u8 0,.int .u8 0,.int .u8 0,.int .u8 0,.int .u8 0,.int .u8 0,.int .u8 0,.int .u8 0,.int .i64 0,.bool false,.int .i64 0,.bool false] 69)) wr.heap.size 0 38 (qk x).toArray=true:=qdf (qh _ _) (by decide) (by rw[List.size_toArray,qbb]) (by rw[List.all_toArray,List.all_eq_true];exact qef x);have i:=qky wr #[.int .u64 0,.int .u64 0,.int .u8 0,.int .u8 0,.int .u8 0,.int .u8 0,.int .u8 0,.int .u8 0,.int .u8 0,.int .u8 0,.int .u8 0,.int .u8 0,.int .u8 0,.int .u8 0,.int .u8 0,.int .u8 0,.int .u8 0,.int .u8 0,.int .u8 0,.int .u8 0,.int .u8 0,.int .u8 0,.int .u8 0,.int .u8 0,.int .u8 0,.int .u8 0,.int .u8 0,.int .u8 0,.int .u8 0,.int .u8 0,.int .u8 0,.int .u8 0,.int .u8 0,.int .u8 0,.int .i64 0,.bool false,.int .i64 0,.bool false] 69 (qk x) (by rw[qbb];rfl);have J:=qez x;have K:=qe0 x;have X:qa8 ev (xs.take (n+1))=chg ev x:=by
     have:=qa T;unfold qa8 at this ⊢;rw[List.take_add_one,M,List.any_append,this];simp
    have U:=qb X;have HX:=qb M;clear X V M;generalize qk x=C at p I i J K;go_upto_region 4 with fail;obtain⟨q,H⟩:=i;generalize (wr.alloc (.cells #[.int .u64 0,.int .u64 0,.int .u8 0,.int .u8 0,.int .u8 0,.int .u8 0,.int .u8 0,.int .u8 0,.int .u8 0,.int .u8 0,.int .u8 0,.int .u8 0,.int .u8 0,.int .u8 0,.int .u8 0,.int .u8 0,.int .u8 0,.int .u8 0,.int .u8 0,.int .u8 0,.int .u8 0,.int .u8 0,.int .u8 0,.int .u8 0,.int .u8 0,.int .u8 0,.int .u8 0,.int .u8 0,.int .u8 0,.int .u8 0,.int .u8 0,.int .u8 0,.int .u8 0,.int .u8 0,.int .i64 0,.bool false,.int .i64 0,.bool false] 69)).setCells wr.heap.size 0 C=S at q H ⊢;have a7:S.cell? ⟨wr.heap.size,35,none⟩=some (.bool x.own):=by rw[qg q,List.getElem?_toArray];exact J
    have a8:S.cell? ⟨wr.heap.size,36,none⟩=some (.int .i64 x.state):=by rw[qg q,List.getElem?_toArray];exact K
    have m:Glob S:=hG.new (E.trans H);clear I p;have f:∀W,Glob W→Calls Tryz.prog 154 #[.int .i64 x.state,.bool x.own,.int .i64 ev] W (qay (.int .i64 (qcr x.state x.own ev)) W):=fun W h=>qux x.state ev x.own W h
    cases L:chg ev x with
    | true =>
     have hd:(qcr x.state x.own ev != x.state)=true:=L;have F:qa8 ev xs=true:=by
      have N:qa8 ev (xs.take (n+1))=true:=by rw[qa U,L]
      unfold qa8 at N ⊢;rw[List.any_eq_true] at N ⊢;obtain⟨y,hy,P⟩:=N;exact⟨y,List.mem_of_mem_take hy,P⟩
     generalize qcr x.state x.own ev=y at f hd;go_quiet ((go_at_call 154;first | exact Calls.quiet_of (f _ m) | exact Calls.quiet_of (f _ (m.new ((Upd.refl _ _).drewN _)))));go_wp2
     first | go_ret2 | go_ret
     exact⟨by rw[F];rfl,by first | exact E.trans H | exact(E.trans H).drewN _⟩
    | false =>
     have hd:(qcr x.state x.own ev != x.state)=false:=L;have F:qa8 ev (xs.take (n+1))=false:=by rw[qa U,L]
     have Z:=qb F;clear F;generalize qcr x.state x.own ev=y at f hd;go_quiet ((go_at_call 154;first | exact Calls.quiet_of (f _ m) | exact Calls.quiet_of (f _ (m.new ((Upd.refl _ _).drewN _)))));go_wp2;go_roundw
     case rel=>exact⟨n+1,by go_num,by omega,Z,by first | exact E.trans H | exact(E.trans H).drewN _⟩
     case measure=>simp[intOf];omega
  ·obtain rfl:n=xs.length:=by omega
   have F:qa8 ev xs=false:=by have:=qa T;rwa [List.take_length] at this
   go_wp2
   first | go_ret2 | go_ret
   exact⟨by rw[F];rfl,E⟩
end
section
open Go.RowKit Go.Sort
theorem q1m(ours:Bool)(xs:List Live):(qar ours xs).length≤xs.length:=by
 unfold qar;rw[List.length_map];exact List.length_filter_le _ _
def qgq(I X:List Item):Prop:=∃M:List (Item × Nat),M.Perm I.zipIdx∧Srt M∧X=its M
theorem qya{M N:List (Item × Nat)}(h:M.Perm N)(p:Srt M)(q:Srt N):M=N:=by
 induction M generalizing N with
 | nil=>exact(List.Perm.nil_eq h)
 | cons x M v =>
  cases N with
  | nil=>exact absurd h.length_eq (by simp)
  | cons y N =>
   have m:x=y:=by
    have f:x∈y::N:=h.subset (List.mem_cons_self ..);have i:y∈x::M:=h.symm.subset (List.mem_cons_self ..);rcases List.mem_cons.1 f with e | f
    ·exact e
    ·rcases List.mem_cons.1 i with e | i
     ·exact e.symm
     ·have a:=(List.pairwise_cons.1 p).1 y i;have b:=(List.pairwise_cons.1 q).1 x f;exact absurd (qg6 a b) (qxo x)
   subst m;rw[v (List.Perm.cons_inv h) (List.pairwise_cons.1 p).2 (List.pairwise_cons.1 q).2]
theorem qpu{I X Y:List Item}(h:qgq I X)(k:qgq I Y):X=Y:=by
 obtain⟨M,f,m,rfl⟩:=h;obtain⟨N,i,p,rfl⟩:=k;rw[qya (f.trans i.symm) m p]
open Classical in
noncomputable def qgb(I:List Item):List Item:=if h:∃X,qgq I X then h.choose else []
theorem q8i{I X:List Item}(h:qgq I X):X=qgb I:=by
 have f:∃X,qgq I X:=⟨X,h⟩;unfold qgb;rw[dif_pos f];exact qpu h f.choose_spec
theorem qph{I:List Item}(h:qgq I (qgb I)):(qgb I).Perm I:=by
 obtain⟨M,f,_,e⟩:=h;rw[e];have:=f.map (·.1);simpa [its,List.zipIdx_map_fst] using this
theorem q9z(ours:Bool)(l r:Int)(v:Value)(xs:List Live)(C:xs.length≤19)(w:World)(p:Spans w)(F:qgu w v xs) :
  Calls Tryz.prog 121 #[.bool ours,.agg #[.int .u64 l,.int .u64 r],v] w fun e w'=>∃u,e = .returned (.agg #[.int .u64 (if ours then (qa7 ours l r xs).1 else (qa7 ours l r xs).2),.int .u64 (if ours then (qa7 ours l r xs).2 else (qa7 ours l r xs).1),u]) ∧
   qu w w'∧qyu w' u (qgb (qar ours xs))∧qgq (qar ours xs) (qgb (qar ours xs)):=by
 refine(zcm ours l r v xs C w p F).mono ?_
 rintro e w' ⟨u,X,q,E,z,f⟩
 have i:=q8i (I:=qar ours xs) f
 have m:qgq (qar ours xs) X:=f
 rw[←i]
 exact⟨u,q,E,z,m⟩
def qfz(x:Live):Live:= {x with own:= !x.own}
def qj0(p:Int × Int):Int × Int:=(p.2,p.1)
theorem qt9(ours own:Bool)(st:Int):qm1 (!ours) (!own) st=qm1 ours own st:=by cases ours<;>simp[qm1]
theorem q09(ours own:Bool)(st:Int):qku (!ours) (!own) st=qku ours own st:=by cases ours<;>simp[qku]
theorem qxb(ours:Bool)(xs:List Live):qar (!ours) (xs.map qfz)=qar ours xs:=by
 unfold qar;rw[List.filter_map,List.map_map];have f:((fun x:Live=>qm1 (!ours) x.own x.state) ∘ qfz)=fun x:Live=>qm1 ours x.own x.state:=by
  funext x;exact qt9 ours x.own x.state
 have i:((fun x:Live=>(⟨x.own == !ours,x.h⟩:Item)) ∘ qfz)=fun x:Live=>⟨x.own==ours,x.h⟩:=by
  funext x;cases ours<;>cases h:x.own<;>simp[qfz,h]
 rw[f,i]
theorem qqi(f:Bool)(n:Int)(p:Int × Int):qe6 (!f) n (qj0 p)=qj0 (qe6 f n p):=by cases f<;>rfl
theorem q3h(ours:Bool)(p:Int × Int)(x:Live):qfg (!ours) (qj0 p) (qfz x)=qj0 (qfg ours p x):=by
 unfold qfg;have f:qm1 (!ours) (qfz x).own (qfz x).state=qm1 ours x.own x.state:=qt9 ours x.own x.state;have i:qku (!ours) (qfz x).own (qfz x).state=qku ours x.own x.state:=q09 ours x.own x.state;rw[f,i];show (if qm1 ours x.own x.state=true then qj0 p else if (qku ours x.own x.state&&x.paid)=true then qe6 (!!x.own) x.h.amount (qj0 p) else qe6 (!x.own) x.h.amount (qj0 p))=_;split
 ·rfl
 ·split
  ·exact qqi (!x.own) _ _
  ·exact qqi x.own _ _
theorem q3i(ours:Bool)(l r:Int)(xs:List Live):qa7 (!ours) r l (xs.map qfz)=qj0 (qa7 ours l r xs):=by
 unfold qa7;have key:∀(xs:List Live) (p:Int × Int),(xs.map qfz).foldl (qfg (!ours)) (qj0 p)=qj0 (xs.foldl (qfg ours) p):=by
  intro xs
  induction xs with
  | nil=>intro p;rfl
  | cons x xs f=>intro p;rw[List.map_cons,List.foldl_cons,List.foldl_cons,q3h,f]
 exact key xs (l,r)
theorem q6d{ours:Bool}{xs:List Live}(h:∀x∈xs,LiveOk x):∀x∈qar ours xs,HtlcOk x.h:=by
 intro x f;unfold qar at f;rw[List.mem_map] at f;obtain⟨y,i,rfl⟩:=f;exact(h y (List.mem_filter.1 i).1).h
theorem zaj{I:List Item}(f:qgq I (qgb I))(h:∀x∈I,HtlcOk x.h):∀x∈qgb I,HtlcOk x.h:=fun x i=>h x ((qph f).subset i)
def qjd(ours:Bool)(l r:Int)(xs:List Live):Int:=if ours then (qa7 ours l r xs).1 else (qa7 ours l r xs).2
def qje(ours:Bool)(l r:Int)(xs:List Live):Int:=if ours then (qa7 ours l r xs).2 else (qa7 ours l r xs).1
theorem qs6(x:Int):0≤IntKind.u64.wrap x∧IntKind.u64.wrap x<18446744073709551616:=by rw[IntKind.wrap_u64];omega
theorem qzq(ours:Bool)(xs:List Live):∀(l r:Int),(0≤l∧l<18446744073709551616)→(0≤r∧r<18446744073709551616)→(0≤(qa7 ours l r xs).1∧(qa7 ours l r xs).1<18446744073709551616)∧(0≤(qa7 ours l r xs).2∧(qa7 ours l r xs).2<18446744073709551616):=by
 unfold qa7
 induction xs with
 | nil=>intro l r i m;exact⟨i,m⟩
 | cons x xs v =>
  intro l r i m;rw[List.foldl_cons];have q:(0≤(qfg ours (l,r) x).1∧(qfg ours (l,r) x).1<18446744073709551616)∧(0≤(qfg ours (l,r) x).2∧(qfg ours (l,r) x).2<18446744073709551616):=by
   have p:∀f n,(0≤(qe6 f n (l,r)).1∧(qe6 f n (l,r)).1<18446744073709551616)∧(0≤(qe6 f n (l,r)).2∧(qe6 f n (l,r)).2<18446744073709551616):=by
    intro f n;unfold qe6;split
    ·exact⟨qs6 _,m⟩
    ·exact⟨i,qs6 _⟩
   unfold qfg;split
   ·exact⟨i,m⟩
   ·split
    ·exact p _ _
    ·exact p _ _
  exact v _ _ q.1 q.2
theorem q8g(ours:Bool)(l r:Int)(xs:List Live)(f:0≤l∧l<18446744073709551616)(i:0≤r∧r<18446744073709551616):0≤qjd ours l r xs∧qjd ours l r xs<18446744073709551616:=by
 have:=qzq ours xs l r f i;unfold qjd;split
 ·exact this.1
 ·exact this.2
theorem q8h(ours:Bool)(l r:Int)(xs:List Live)(f:0≤l∧l<18446744073709551616)(i:0≤r∧r<18446744073709551616):0≤qje ours l r xs∧qje ours l r xs<18446744073709551616:=by
 have:=qzq ours xs l r f i;unfold qje;split
 ·exact this.2
 ·exact this.1
noncomputable def qbo(ours:Bool)(key:ByteArray)(ch n l r:Int)(xs:List Live):List Int:=qp1 key (qii ch n (qjd ours l r xs) (qje ours l r xs) (qgb (qar ours xs)))
theorem qgp(ours:Bool)(key:ByteArray)(ch n l r:Int)(xs:List Live):(qbo ours key ch n l r xs).length=32:=by unfold qbo qp1;exact qb5 _
structure ViewO(ours:Bool)(l r:Int)(xs:List Live)(w:World)(v:Value):Prop where
 u:∃u,v = .agg #[.int .u64 (qjd ours l r xs),.int .u64 (qje ours l r xs),u]∧qeb w u (qgb (qar ours xs))
 is:qgq (qar ours xs) (qgb (qar ours xs))
theorem ViewO.new{ours:Bool}{l r:Int}{xs:List Live}{w w':World}{v:Value}(h:ViewO ours l r xs w v)(n:qu w w'):ViewO ours l r xs w' v:=by
 obtain⟨⟨u,e,i⟩,f⟩:=h;exact⟨⟨u,e,i.new n⟩,f⟩
theorem qu0(ours:Bool)(l r:Int)(v:Value)(xs:List Live)(C:xs.length≤19)(w:World)(f:Spans w)(z:qgu w v xs) :
  Calls Tryz.prog 121 #[.bool ours,.agg #[.int .u64 l,.int .u64 r],v] w fun e w'=>∃V,e = .returned V∧qu w w'∧ViewO ours l r xs w' V:=by
 refine(q9z ours l r v xs (by omega) w f z).mono ?_
 rintro e w' ⟨u,m,q,p,i⟩
 exact⟨_,m,q,⟨⟨u,rfl,p.toR⟩,i⟩⟩
theorem qq7(ours:Bool)(l r:Int)(V:Value)(xs:List Live)(key:ByteArray)(ch n:Int)(E:xs.length≤1000000)(w:World)(q:Tabs w)(v:ViewO ours l r xs w V)(I:∀x∈xs,LiveOk x)(C:key.size≤100000000)(z:0≤ch∧ch<4294967296)(F : -9223372036854775808≤n∧n≤9223372036854775807)(i:0≤l∧l<18446744073709551616)(m:0≤r∧r<18446744073709551616) :
  Calls Tryz.prog 120 #[.string key,.int .u32 ch,.int .i64 n,V] w (qa1 (.agg (qs (qbo ours key ch n l r xs)).toArray) w):=by
 obtain⟨⟨u,rfl,H⟩,p⟩:=v
 have f:(qgb (qar ours xs)).length≤1000000:=by
  rw[(qph p).length_eq];exact Nat.le_trans (q1m ours xs) E
 exact q8j key ch n _ _ u _ f (zaj p (q6d I)) w q C z F (q8g ours l r xs i m) (q8h ours l r xs i m) H
end
end Go.Proofs.YtfmkdoachjgjbaaGreatDoor
