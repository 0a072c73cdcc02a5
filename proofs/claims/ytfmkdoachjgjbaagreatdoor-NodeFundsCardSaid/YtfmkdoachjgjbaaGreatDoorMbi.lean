/-
  view.Tag.
-/
import Derived.Test.YtfmkdoachjgjbaaGreatDoorMbg
import Derived.Test.YtfmkdoachjgjbaaGreatDoorSl1
import Derived.Test.YtfmkdoachjgjbaaGreatDoorMbb
import Derived.Test.YtfmkdoachjgjbaaGreatDoorVw5
import Derived.Test.YtfmkdoachjgjbaaGreatDoorMai
set_option maxRecDepth 100000
set_option maxHeartbeats 4000000
set_option linter.unusedVariables false
set_option linter.unusedSimpArgs false
namespace Go.Proofs.YtfmkdoachjgjbaaGreatDoor
section
open Go.RowKit Go.Sort
theorem qxm(ch n A B:Int)(X:List Item):(qhk ch n A B X).size=30+57*X.length:=by
 unfold qhk;rw[qpr,qng]
theorem q6c(key:ByteArray)(ch n A B:Int)(u:Value)(X:List Item)(hl:X.length≤1000000)(C:∀x∈X,HtlcOk x.h)(w:World)(hT:Tabs w)(hk:key.size≤100000000)(T:0≤ch∧ch<4294967296)(U : -9223372036854775808≤n∧n≤9223372036854775807)
  (N:0≤A∧A<18446744073709551616) (O:0≤B∧B<18446744073709551616) (hu:qdz w u X) :
  Calls Tryz.prog 120 #[.string key,.int .u32 ch,.int .i64 n,.agg #[.int .u64 A,.int .u64 B,u]] w fun e w'=>e = .returned (.agg ((qpa key (qhk ch n A B X)).map (Value.int .u8)).toArray)∧qq w w':=by
 have y:=qj (fun W (m:qq w W)=>q54 ch n A B u X (by omega) C W T U N O (hu.new m))
 have E:(qhk ch n A B X).size≤100000000:=by rw[qxm];omega
 have t:=qj (fun W h=>q74 key (qhk ch n A B X) W hk E h)
 have i:(qpa key (qhk ch n A B X)).length=32:=by unfold qpa;exact qb9 _
 generalize P:qpa key (qhk ch n A B X)=out at t i
 have HO:=qj P
 generalize qhk ch n A B X=tx at y t HO
 clear N O U T C E P
 go_enter Tryz.func120,Tryz.ntmps120
 go_upto_region 0 with fail
 refine wp_region_lit ?_
 refine qac rfl (v:= .pointer (some ⟨w.heap.size,0,none⟩)) (w':=w.alloc (.cells #[.int .u64 A,.int .u64 B,u] 201)) (by simp only[execOp];go_simp) ?_
 have z:=ql w (.cells #[.int .u64 A,.int .u64 B,u] 201)
 have n0:qq w (w.alloc (.cells #[.int .u64 A,.int .u64 B,u] 201)):=(Upd.refl _ _).alloc _
 generalize w.alloc (.cells #[.int .u64 A,.int .u64 B,u] 201)=w1 at z n0 ⊢
 refine qac rfl (v:= .pointer (some ⟨w1.heap.size,0,none⟩)) (w':=w1.alloc (.cells qd5 35)) (by kernel_rfl) ?_
 have I:qq w1 (w1.alloc (.cells qd5 35)):=(Upd.refl _ _).alloc _
 have o:=ql w1 (.cells qd5 35)
 generalize w1.alloc (.cells qd5 35)=H at I o ⊢
 replace z:=I.old z (fun h=>h)
 have q:=n0.trans I
 have D:=n0.size
 go_upto_region 1 with fail
 refine wp_region_lit ?_
 refine qac rfl (v:= .string key) (w':=H) (by kernel_rfl) ?_
 refine qac rfl (v:= .int .u32 ch) (w':=H) (by kernel_rfl) ?_
 refine qac rfl (v:= .int .i64 n) (w':=H) (by kernel_rfl) ?_
 refine wpList_load_row rfl _ _ rfl w.heap.size (by kernel_rfl) 201 _ _ _ z Tryz.underlying201 rfl (by kernel_rfl) ?_
 refine qdb rfl (f:=157) (args:=#[.int .u32 ch,.int .i64 n,.agg #[.int .u64 A,.int .u64 B,u]]) (w':=H) (by kernel_rfl) ?_
 refine(qg y H q).mono ?_
 rintro e Y ⟨rfl,K⟩
 refine⟨_,rfl,?_⟩
 replace o:=K.old o (fun h=>h)
 replace q:=q.trans K
 refine qdb rfl (f:=156) (args:=#[.string key,.string tx]) (w':=Y) (by kernel_rfl) ?_
 refine(qg t Y (hT.new q)).mono ?_
 rintro e Z ⟨rfl,M⟩
 refine⟨_,rfl,?_⟩
 replace o:=M.old o (fun h=>h)
 replace q:=q.trans M
 refine wpList_store_row rfl _ _ _ rfl w1.heap.size (out.map (Value.int .u8)).toArray (by kernel_rfl) (by kernel_rfl) 35 _ o (by rw[List.size_toArray,List.length_map,i];exact Tryz.infoHash) (by have h9:qd5.size=32:=rfl;rw[h9];simp[i]) (by simp[Value.oneCell']) ?_
 have J:=setRow_heap Z w1.heap.size _ (out.map (Value.int .u8)).toArray 35 (0,0) o
 have V:=q.setRow (g:=w1.heap.size) (fun h=>by omega) (out.map (Value.int .u8)).toArray
 generalize Z.setRow w1.heap.size (out.map (Value.int .u8)).toArray=wF at J V ⊢
 generalize w1.heap.size=R at J ⊢
 clear K M o z n0 I q D
 go_wp2_with fail
 refine bodyPost_ret (results_cell_row rfl _ _ R 35 _ _ _ (by kernel_rfl) J Tryz.underlying35 rfl (by rw[List.size_toArray,List.length_map,i];exact Tryz.infoHash)) rfl ?_
 exact⟨rfl,V⟩
attribute [local go_sem ↓ high] qa5 qbd
attribute [local go_sem] qc5 qdo
def chg(ev:Int)(x:Live):Bool:=qb8 x.state x.own ev != x.state
def qbv(ev:Int)(xs:List Live):Bool:=xs.any (chg ev)
theorem qlb(v:Value)(xs:List Live)(ev:Int)(hl:xs.length≤1048576)(w:World)(hG:Glob w)(hv:qf0 w v xs) :
  Calls Tryz.prog 118 #[v,.int .i64 ev] w (qar (.bool (qbv ev xs)) w):=by
 have P:∃a c,v = .slice a xs.length c:=by
  rcases hv with ⟨_,_,rfl,rfl⟩ | ⟨g,off,cap,rfl,_⟩
  ·exact⟨_,_,rfl⟩
  ·exact⟨_,_,rfl⟩
 obtain⟨va,vc,rfl⟩:=P
 go_enter Tryz.func118,Tryz.ntmps118
 go_wp2_with fail
 go_loopw [9] (fun T wr=>∃n:Nat,T = .int .i64 (n:Int)∧n≤xs.length∧Hid (qbv ev (xs.take n)=false)∧qq w wr) (fun T _=>xs.length-(intOf T).toNat)
 case atStart=>exact⟨0,rfl,Nat.zero_le _,qj rfl,Upd.refl _ _⟩
 case round =>
  obtain⟨n,rfl,hn,V,D⟩:=hrel;by_cases z:n<xs.length
  ·obtain⟨x,N⟩:∃x,xs[n]? = some x:=⟨_,List.getElem?_eq_getElem z⟩;rcases hv.new D with ⟨_,_,e,e2⟩ | ⟨g,off,cap,e,Y⟩
   ·rw[e2] at z;simp at z
   ·cases e;have q:=Y.row N;have a1:(n:Int)<(xs.length:Int):=by omega
    have I:stOk (wr.alloc (.cells #[.int .u64 0,.int .u64 0,.int .u8 0,.int .u8 0,.int .u8 0,.int .u8 0,.int .u8 0,.int .u8 0,.int .u8 0,.int .u8 0,.int .u8 0,.int .u8 0,.int .u8 0,.int .u8 0,.int .u8 0,.int .u8 0,.int .u8 0,.int .u8 0,.int .u8 0,.int .u8 0,.int .u8 0,.int .u8 0,.int .u8 0,.int .u8 0,.int .u8 0,.int .u8 0,.int .u8 0,.int .u8 0,.int .u8 0,.int .u8 0,.int .u8 0,.int .u8 0,.int .u8 0,.int .u8 0,.int .i64 0,.bool false,.int .i64 0,.bool false] 69)) wr.heap.size 0 38 (qm x).toArray=true:=qd4 (ql _ _) (by decide) (by rw[List.size_toArray,qbb]) (by rw[List.all_toArray,List.all_eq_true];exact qem x);have m:=qjh wr #[.int .u64 0,.int .u64 0,.int .u8 0,.int .u8 0,.int .u8 0,.int .u8 0,.int .u8 0,.int .u8 0,.int .u8 0,.int .u8 0,.int .u8 0,.int .u8 0,.int .u8 0,.int .u8 0,.int .u8 0,.int .u8 0,.int .u8 0,.int .u8 0,.int .u8 0,.int .u8 0,.int .u8 0,.int .u8 0,.int .u8 0,.int .u8 0,.int .u8 0,.int .u8 0,.int .u8 0,.int .u8 0,.int .u8 0,.int .u8 0,.int .u8 0,.int .u8 0,.int .u8 0,.int .u8 0,.int .i64 0,.bool false,.int .i64 0,.bool false] 69 (qm x) (by rw[qbb];rfl);have J:=qee x;have K:=qew x;have Z:qbv ev (xs.take (n+1))=chg ev x:=by
     have:=qg V;unfold qbv at this ⊢;rw[List.take_add_one,N,List.any_append,this];simp
    have X:=qj Z;have HX:=qj N;clear Z Y N;generalize qm x=C at q I m J K;go_upto_region 4 with fail;obtain⟨t,H⟩:=m;generalize (wr.alloc (.cells #[.int .u64 0,.int .u64 0,.int .u8 0,.int .u8 0,.int .u8 0,.int .u8 0,.int .u8 0,.int .u8 0,.int .u8 0,.int .u8 0,.int .u8 0,.int .u8 0,.int .u8 0,.int .u8 0,.int .u8 0,.int .u8 0,.int .u8 0,.int .u8 0,.int .u8 0,.int .u8 0,.int .u8 0,.int .u8 0,.int .u8 0,.int .u8 0,.int .u8 0,.int .u8 0,.int .u8 0,.int .u8 0,.int .u8 0,.int .u8 0,.int .u8 0,.int .u8 0,.int .u8 0,.int .u8 0,.int .i64 0,.bool false,.int .i64 0,.bool false] 69)).setCells wr.heap.size 0 C=U at t H ⊢;have a2:U.cell? ⟨wr.heap.size,35,none⟩=some (.bool x.own):=by rw[qk t,List.getElem?_toArray];exact J
    have a6:U.cell? ⟨wr.heap.size,36,none⟩=some (.int .i64 x.state):=by rw[qk t,List.getElem?_toArray];exact K
    have o:Glob U:=hG.new (D.trans H);clear I q;have i:∀W,Glob W→Calls Tryz.prog 154 #[.int .i64 x.state,.bool x.own,.int .i64 ev] W (qae (.int .i64 (qb8 x.state x.own ev)) W):=fun W h=>qud x.state ev x.own W h
    cases M:chg ev x with
    | true =>
     have hd:(qb8 x.state x.own ev != x.state)=true:=M;have E:qbv ev xs=true:=by
      have O:qbv ev (xs.take (n+1))=true:=by rw[qg X,M]
      unfold qbv at O ⊢;rw[List.any_eq_true] at O ⊢;obtain⟨y,hy,R⟩:=O;exact⟨y,List.mem_of_mem_take hy,R⟩
     generalize qb8 x.state x.own ev=y at i hd;go_quiet ((go_at_call 154;first | exact Calls.quiet_of (i _ o) | exact Calls.quiet_of (i _ (o.new ((Upd.refl _ _).drewN _)))));go_wp2
     first | go_ret2 | go_ret
     exact⟨by rw[E];rfl,by first | exact D.trans H | exact(D.trans H).drewN _⟩
    | false =>
     have hd:(qb8 x.state x.own ev != x.state)=false:=M;have E:qbv ev (xs.take (n+1))=false:=by rw[qg X,M]
     have HF:=qj E;clear E;generalize qb8 x.state x.own ev=y at i hd;go_quiet ((go_at_call 154;first | exact Calls.quiet_of (i _ o) | exact Calls.quiet_of (i _ (o.new ((Upd.refl _ _).drewN _)))));go_wp2;go_roundw
     case rel=>exact⟨n+1,by go_num,by omega,HF,by first | exact D.trans H | exact(D.trans H).drewN _⟩
     case measure=>simp[intOf];omega
  ·obtain rfl:n=xs.length:=by omega
   have E:qbv ev xs=false:=by have:=qg V;rwa [List.take_length] at this
   go_wp2
   first | go_ret2 | go_ret
   exact⟨by rw[E];rfl,D⟩
end
section
open Go.RowKit Go.Sort
theorem q0b(ours:Bool)(xs:List Live):(qas ours xs).length≤xs.length:=by
 unfold qas;rw[List.length_map];exact List.length_filter_le _ _
def qfv(I X:List Item):Prop:=∃M:List (Item × Nat),M.Perm I.zipIdx∧Srt M∧X=its M
theorem qxg{M N:List (Item × Nat)}(h:M.Perm N)(q:Srt M)(t:Srt N):M=N:=by
 induction M generalizing N with
 | nil=>exact(List.Perm.nil_eq h)
 | cons x M v =>
  cases N with
  | nil=>exact absurd h.length_eq (by simp)
  | cons y N =>
   have o:x=y:=by
    have i:x∈y::N:=h.subset (List.mem_cons_self ..);have m:y∈x::M:=h.symm.subset (List.mem_cons_self ..);rcases List.mem_cons.1 i with e | i
    ·exact e
    ·rcases List.mem_cons.1 m with e | m
     ·exact e.symm
     ·have a:=(List.pairwise_cons.1 q).1 y m;have b:=(List.pairwise_cons.1 t).1 x i;exact absurd (qgd a b) (qws x)
   subst o;rw[v (List.Perm.cons_inv h) (List.pairwise_cons.1 q).2 (List.pairwise_cons.1 t).2]
theorem qo3{I X Y:List Item}(h:qfv I X)(k:qfv I Y):X=Y:=by
 obtain⟨M,i,o,rfl⟩:=h;obtain⟨N,m,q,rfl⟩:=k;rw[qxg (i.trans m.symm) o q]
open Classical in
noncomputable def qff(I:List Item):List Item:=if h:∃X,qfv I X then h.choose else []
theorem q6b{I X:List Item}(h:qfv I X):X=qff I:=by
 have i:∃X,qfv I X:=⟨X,h⟩;unfold qff;rw[dif_pos i];exact qo3 h i.choose_spec
theorem qot{I:List Item}(h:qfv I (qff I)):(qff I).Perm I:=by
 obtain⟨M,i,_,e⟩:=h;rw[e];have:=i.map (·.1);simpa [its,List.zipIdx_map_fst] using this
theorem q7q(ours:Bool)(l r:Int)(v:Value)(xs:List Live)(y:xs.length≤19)(w:World)(q:Spans w)(C:qf0 w v xs) :
  Calls Tryz.prog 121 #[.bool ours,.agg #[.int .u64 l,.int .u64 r],v] w fun e w'=>∃u,e = .returned (.agg #[.int .u64 (if ours then (qa8 ours l r xs).1 else (qa8 ours l r xs).2),.int .u64 (if ours then (qa8 ours l r xs).2 else (qa8 ours l r xs).1),u]) ∧
   qq w w'∧qmt w' u (qff (qas ours xs))∧qfv (qas ours xs) (qff (qas ours xs)):=by
 refine(q98 ours l r v xs y w q C).mono ?_
 rintro e w' ⟨u,X,t,z,x,i⟩
 have m:=q6b (I:=qas ours xs) i
 have o:qfv (qas ours xs) X:=i
 rw[←m]
 exact⟨u,t,z,x,o⟩
theorem q39{ours:Bool}{xs:List Live}(h:∀x∈xs,LiveOk x):∀x∈qas ours xs,HtlcOk x.h:=by
 intro x i;unfold qas at i;rw[List.mem_map] at i;obtain⟨y,m,rfl⟩:=i;exact(h y (List.mem_filter.1 m).1).h
theorem q79{I:List Item}(i:qfv I (qff I))(h:∀x∈I,HtlcOk x.h):∀x∈qff I,HtlcOk x.h:=fun x m=>h x ((qot i).subset m)
def qip(ours:Bool)(l r:Int)(xs:List Live):Int:=if ours then (qa8 ours l r xs).1 else (qa8 ours l r xs).2
def qiq(ours:Bool)(l r:Int)(xs:List Live):Int:=if ours then (qa8 ours l r xs).2 else (qa8 ours l r xs).1
theorem qys(x:Int):0≤IntKind.u64.wrap x∧IntKind.u64.wrap x<18446744073709551616:=by rw[IntKind.wrap_u64];omega
theorem qyp(ours:Bool)(xs:List Live):∀(l r:Int),(0≤l∧l<18446744073709551616)→(0≤r∧r<18446744073709551616)→(0≤(qa8 ours l r xs).1∧(qa8 ours l r xs).1<18446744073709551616)∧(0≤(qa8 ours l r xs).2∧(qa8 ours l r xs).2<18446744073709551616):=by
 unfold qa8
 induction xs with
 | nil=>intro l r m o;exact⟨m,o⟩
 | cons x xs v =>
  intro l r m o;rw[List.foldl_cons];have t:(0≤(qh7 ours (l,r) x).1∧(qh7 ours (l,r) x).1<18446744073709551616)∧(0≤(qh7 ours (l,r) x).2∧(qh7 ours (l,r) x).2<18446744073709551616):=by
   have q:∀i n,(0≤(qf5 i n (l,r)).1∧(qf5 i n (l,r)).1<18446744073709551616)∧(0≤(qf5 i n (l,r)).2∧(qf5 i n (l,r)).2<18446744073709551616):=by
    intro i n;unfold qf5;split
    ·exact⟨qys _,o⟩
    ·exact⟨m,qys _⟩
   unfold qh7;split
   ·exact⟨m,o⟩
   ·split
    ·exact q _ _
    ·exact q _ _
  exact v _ _ t.1 t.2
theorem q59(ours:Bool)(l r:Int)(xs:List Live)(i:0≤l∧l<18446744073709551616)(m:0≤r∧r<18446744073709551616):0≤qip ours l r xs∧qip ours l r xs<18446744073709551616:=by
 have:=qyp ours xs l r i m;unfold qip;split
 ·exact this.1
 ·exact this.2
theorem q6a(ours:Bool)(l r:Int)(xs:List Live)(i:0≤l∧l<18446744073709551616)(m:0≤r∧r<18446744073709551616):0≤qiq ours l r xs∧qiq ours l r xs<18446744073709551616:=by
 have:=qyp ours xs l r i m;unfold qiq;split
 ·exact this.2
 ·exact this.1
noncomputable def qc6(ours:Bool)(key:ByteArray)(ch n l r:Int)(xs:List Live):List Int:=qpa key (qhk ch n (qip ours l r xs) (qiq ours l r xs) (qff (qas ours xs)))
theorem qia(ours:Bool)(key:ByteArray)(ch n l r:Int)(xs:List Live):(qc6 ours key ch n l r xs).length=32:=by unfold qc6 qpa;exact qb9 _
structure ViewO(ours:Bool)(l r:Int)(xs:List Live)(w:World)(v:Value):Prop where
 u:∃u,v = .agg #[.int .u64 (qip ours l r xs),.int .u64 (qiq ours l r xs),u]∧qdz w u (qff (qas ours xs))
 is:qfv (qas ours xs) (qff (qas ours xs))
theorem ViewO.new{ours:Bool}{l r:Int}{xs:List Live}{w w':World}{v:Value}(h:ViewO ours l r xs w v)(n:qq w w'):ViewO ours l r xs w' v:=by
 obtain⟨⟨u,e,m⟩,i⟩:=h;exact⟨⟨u,e,m.new n⟩,i⟩
theorem quh(ours:Bool)(l r:Int)(v:Value)(xs:List Live)(y:xs.length≤19)(w:World)(i:Spans w)(x:qf0 w v xs) :
  Calls Tryz.prog 121 #[.bool ours,.agg #[.int .u64 l,.int .u64 r],v] w fun e w'=>∃V,e = .returned V∧qq w w'∧ViewO ours l r xs w' V:=by
 refine(q7q ours l r v xs (by omega) w i x).mono ?_
 rintro e w' ⟨u,o,t,q,m⟩
 exact⟨_,o,t,⟨⟨u,rfl,q.toR⟩,m⟩⟩
theorem qqq(ours:Bool)(l r:Int)(V:Value)(xs:List Live)(key:ByteArray)(ch n:Int)(C:xs.length≤1000000)(w:World)(t:Tabs w)(v:ViewO ours l r xs w V)(H:∀x∈xs,LiveOk x)(z:key.size≤100000000)(y:0≤ch∧ch<4294967296)(D : -9223372036854775808≤n∧n≤9223372036854775807)(m:0≤l∧l<18446744073709551616)(o:0≤r∧r<18446744073709551616) :
  Calls Tryz.prog 120 #[.string key,.int .u32 ch,.int .i64 n,V] w (qar (.agg (qw (qc6 ours key ch n l r xs)).toArray) w):=by
 obtain⟨⟨u,rfl,E⟩,q⟩:=v
 have i:(qff (qas ours xs)).length≤1000000:=by
  rw[(qot q).length_eq];exact Nat.le_trans (q0b ours xs) C
 exact q6c key ch n _ _ u _ i (q79 q (q39 H)) w t z y D (q59 ours l r xs m o) (q6a ours l r xs m o) E
end
end Go.Proofs.YtfmkdoachjgjbaaGreatDoor
