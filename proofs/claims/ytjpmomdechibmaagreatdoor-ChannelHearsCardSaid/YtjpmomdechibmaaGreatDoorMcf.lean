/-
  view.Tag.
-/
import Derived.Test.YtjpmomdechibmaaGreatDoorMcd
import Derived.Test.YtjpmomdechibmaaGreatDoorSl1
import Derived.Test.YtjpmomdechibmaaGreatDoorMbb
import Derived.Test.YtjpmomdechibmaaGreatDoorVw5
import Derived.Test.YtjpmomdechibmaaGreatDoorMbd
set_option linter.unusedVariables false
set_option linter.unusedSimpArgs false
namespace Go.Proofs.YtjpmomdechibmaaGreatDoor
open Go.RowKit Go.Sort
theorem q0k(ch n A B:Int)(X:List Item):(qjk ch n A B X).size=30+57*X.length:=by
 unfold qjk
 rw[qrt,qph]
set_option maxRecDepth 100000 in
set_option maxHeartbeats 2000000 in
theorem q8s(key:ByteArray)(ch n A B:Int)(u:Value)(X:List Item)(hl:X.length≤1000000)(y:∀x∈X,HtlcOk x.h)(w:World)(Z:Tabs w)(hk:key.size≤100000000)(N:0≤ch∧ch<4294967296)(O : -9223372036854775808≤n∧n≤9223372036854775807)
  (K:0≤A∧A<18446744073709551616) (L:0≤B∧B<18446744073709551616) (hu:qer w u X) :
  Calls Tryz.prog 41 #[.string key,.int .u32 ch,.int .i64 n,.agg #[.int .u64 A,.int .u64 B,u]] w fun e w'=>e = .returned (.agg ((qqm key (qjk ch n A B X)).map (Value.int .u8)).toArray)∧qx w w':=by
 have q:=qb (fun W (m:qx w W)=>q8k ch n A B u X (by omega) y W N O K L (hu.new m))
 have C:(qjk ch n A B X).size≤100000000:=by rw[q0k];omega
 have o:=qb (fun W h=>zal key (qjk ch n A B X) W hk C h)
 have i:(qqm key (qjk ch n A B X)).length=32:=by unfold qqm;exact qb8 _
 generalize M:qqm key (qjk ch n A B X)=out at o i
 have V:=qb M
 generalize qjk ch n A B X=tx at q o V
 clear K L O N y C M
 go_enter Tryz.func41,Tryz.ntmps41
 go_upto_region 0 with fail
 refine wp_region_lit ?_
 refine q9 rfl (v:= .pointer (some ⟨w.heap.size,0,none⟩)) (w':=w.alloc (.cells #[.int .u64 A,.int .u64 B,u] 100)) (by simp only[execOp];go_simp) ?_
 have t:=qi w (.cells #[.int .u64 A,.int .u64 B,u] 100)
 have E:qx w (w.alloc (.cells #[.int .u64 A,.int .u64 B,u] 100)):=(Upd.refl _ _).alloc _
 generalize w.alloc (.cells #[.int .u64 A,.int .u64 B,u] 100)=w1 at t E ⊢
 refine q9 rfl (v:= .pointer (some ⟨w1.heap.size,0,none⟩)) (w':=w1.alloc (.cells qe4 28)) (by kernel_rfl) ?_
 have F:qx w1 (w1.alloc (.cells qe4 28)):=(Upd.refl _ _).alloc _
 have j:=qi w1 (.cells qe4 28)
 generalize w1.alloc (.cells qe4 28)=D at F j ⊢
 replace t:=F.old t (fun h=>h)
 have l:=E.trans F
 have z:=E.size
 go_upto_region 1 with fail
 refine wp_region_lit ?_
 refine q9 rfl (v:= .string key) (w':=D) (by kernel_rfl) ?_
 refine q9 rfl (v:= .int .u32 ch) (w':=D) (by kernel_rfl) ?_
 refine q9 rfl (v:= .int .i64 n) (w':=D) (by kernel_rfl) ?_
 refine wpList_load_row rfl _ _ rfl w.heap.size (by kernel_rfl) 100 _ _ _ t Tryz.underlying100 rfl (by kernel_rfl) ?_
 refine qde rfl (f:=59) (args:=#[.int .u32 ch,.int .i64 n,.agg #[.int .u64 A,.int .u64 B,u]]) (w':=D) (by kernel_rfl) ?_
 refine(qa q D l).mono ?_
 rintro e T ⟨rfl,I⟩
 refine⟨_,rfl,?_⟩
 replace j:=I.old j (fun h=>h)
 replace l:=l.trans I
 refine qde rfl (f:=58) (args:=#[.string key,.string tx]) (w':=T) (by kernel_rfl) ?_
 refine(qa o T (Z.new l)).mono ?_
 rintro e U ⟨rfl,J⟩
 refine⟨_,rfl,?_⟩
 replace j:=J.old j (fun h=>h)
 replace l:=l.trans J
 refine wpList_store_row rfl _ _ _ rfl w1.heap.size (out.map (Value.int .u8)).toArray (by kernel_rfl) (by kernel_rfl) 28 _ j (by rw[List.size_toArray,List.length_map,i];exact Tryz.infoHash) (by have Y:qe4.size=32:=rfl;rw[Y];simp[i]) (by simp[Value.oneCell']) ?_
 have H:=setRow_heap U w1.heap.size _ (out.map (Value.int .u8)).toArray 28 (0,0) j
 have P:=l.setRow (g:=w1.heap.size) (fun h=>by omega) (out.map (Value.int .u8)).toArray
 generalize U.setRow w1.heap.size (out.map (Value.int .u8)).toArray=wF at H P ⊢
 generalize w1.heap.size=R at H ⊢
 clear I J j t E F l z
 go_wp2_with fail
 refine bodyPost_ret (results_cell_row rfl _ _ R 28 _ _ _ (by kernel_rfl) H Tryz.underlying28 rfl (by rw[List.size_toArray,List.length_map,i];exact Tryz.infoHash)) rfl ?_
 exact⟨rfl,P⟩
attribute [local go_sem ↓ high] qcv qdm
attribute [local go_sem] qg6 qjd
def chg(ev:Int)(x:Live):Bool:=q8 x.state x.own ev != x.state
def qbe(ev:Int)(xs:List Live):Bool:=xs.any (chg ev)
set_option maxRecDepth 100000 in
set_option maxHeartbeats 4000000 in
theorem qnl(v:Value)(xs:List Live)(ev:Int)(hl:xs.length≤1048576)(w:World)(Z:Glob w)(V:qhq w v xs) :
  Calls Tryz.prog 39 #[v,.int .i64 ev] w (qa5 (.bool (qbe ev xs)) w):=by
 have L:∃a c,v = .slice a xs.length c:=by
  rcases V with ⟨_,_,rfl,rfl⟩ | ⟨g,off,cap,rfl,_⟩
  ·exact⟨_,_,rfl⟩
  ·exact⟨_,_,rfl⟩
 obtain⟨va,vc,rfl⟩:=L
 go_enter Tryz.func39,Tryz.ntmps39
 go_wp2_with fail
 go_loopw [9] (fun N wr=>∃n:Nat,N = .int .i64 (n:Int)∧n≤xs.length∧Hid (qbe ev (xs.take n)=false)∧qx w wr) (fun N _=>xs.length-(intOf N).toNat)
 case atStart=>exact⟨0,rfl,Nat.zero_le _,qb rfl,Upd.refl _ _⟩
 case round =>
  obtain⟨n,rfl,hn,P,q⟩:=hrel
  by_cases o:n<xs.length
  ·obtain⟨x,I⟩:∃x,xs[n]? = some x:=⟨_,List.getElem?_eq_getElem o⟩
   rcases V.new q with ⟨_,_,e,Y⟩ | ⟨g,off,cap,e,T⟩
   ·rw[Y] at o;simp at o
   ·cases e
    have l:=T.row I
    have a4:(n:Int)<(xs.length:Int):=by omega
    have D:stOk (wr.alloc (.cells #[.int .u64 0,.int .u64 0,.int .u8 0,.int .u8 0,.int .u8 0,.int .u8 0,.int .u8 0,.int .u8 0,.int .u8 0,.int .u8 0,.int .u8 0,.int .u8 0,.int .u8 0,.int .u8 0,.int .u8 0,.int .u8 0,.int .u8 0,.int .u8 0,.int .u8 0,.int .u8 0,.int .u8 0,.int .u8 0,.int .u8 0,.int .u8 0,.int .u8 0,.int .u8 0,.int .u8 0,.int .u8 0,.int .u8 0,.int .u8 0,.int .u8 0,.int .u8 0,.int .u8 0,.int .u8 0,.int .i64 0,.bool false,.int .i64 0,.bool false] 81)) wr.heap.size 0 38 (ql x).toArray=true:=qe0 (qi _ _) (by decide) (by rw[List.size_toArray,qas]) (by rw[List.all_toArray,List.all_eq_true];exact qdy x)
    have i:=qlv wr #[.int .u64 0,.int .u64 0,.int .u8 0,.int .u8 0,.int .u8 0,.int .u8 0,.int .u8 0,.int .u8 0,.int .u8 0,.int .u8 0,.int .u8 0,.int .u8 0,.int .u8 0,.int .u8 0,.int .u8 0,.int .u8 0,.int .u8 0,.int .u8 0,.int .u8 0,.int .u8 0,.int .u8 0,.int .u8 0,.int .u8 0,.int .u8 0,.int .u8 0,.int .u8 0,.int .u8 0,.int .u8 0,.int .u8 0,.int .u8 0,.int .u8 0,.int .u8 0,.int .u8 0,.int .u8 0,.int .i64 0,.bool false,.int .i64 0,.bool false] 81 (ql x) (by rw[qas];rfl)
    have E:=qi3 x
    have F:=qfk x
    have U:qbe ev (xs.take (n+1))=chg ev x:=by
     have:=qa P
     unfold qbe at this ⊢
     rw[List.take_add_one,I,List.any_append,this];simp
    have R:=qb U
    have HX:=qb I
    clear U T I
    generalize ql x=C at l D i E F
    go_upto_region 4 with fail
    obtain⟨m,z⟩:=i
    generalize (wr.alloc (.cells #[.int .u64 0,.int .u64 0,.int .u8 0,.int .u8 0,.int .u8 0,.int .u8 0,.int .u8 0,.int .u8 0,.int .u8 0,.int .u8 0,.int .u8 0,.int .u8 0,.int .u8 0,.int .u8 0,.int .u8 0,.int .u8 0,.int .u8 0,.int .u8 0,.int .u8 0,.int .u8 0,.int .u8 0,.int .u8 0,.int .u8 0,.int .u8 0,.int .u8 0,.int .u8 0,.int .u8 0,.int .u8 0,.int .u8 0,.int .u8 0,.int .u8 0,.int .u8 0,.int .u8 0,.int .u8 0,.int .i64 0,.bool false,.int .i64 0,.bool false] 81)).setCells wr.heap.size 0 C=O at m z ⊢
    have a5:O.cell? ⟨wr.heap.size,35,none⟩=some (.bool x.own):=by rw[qg m,List.getElem?_toArray];exact E
    have a6:O.cell? ⟨wr.heap.size,36,none⟩=some (.int .i64 x.state):=by rw[qg m,List.getElem?_toArray];exact F
    have j:Glob O:=Z.new (q.trans z)
    clear D l
    have f:∀W,Glob W→Calls Tryz.prog 55 #[.int .i64 x.state,.bool x.own,.int .i64 ev] W (qci (.int .i64 (q8 x.state x.own ev)) W):=fun W h=>qwr x.state ev x.own W h
    cases H:chg ev x with
    | true =>
     have K:(q8 x.state x.own ev != x.state)=true:=H
     have t:qbe ev xs=true:=by
      have J:qbe ev (xs.take (n+1))=true:=by rw[qa R,H]
      unfold qbe at J ⊢
      rw[List.any_eq_true] at J ⊢
      obtain⟨y,hy,M⟩:=J
      exact⟨y,List.mem_of_mem_take hy,M⟩
     generalize q8 x.state x.own ev=y at f K
     go_quiet ((go_at_call 55;first | exact Calls.quiet_of (f _ j) | exact Calls.quiet_of (f _ (j.new ((Upd.refl _ _).drewN _)))))
     go_wp2
     first | go_ret2 | go_ret
     exact⟨by rw[t];rfl,by first | exact q.trans z | exact(q.trans z).drewN _⟩
    | false =>
     have K:(q8 x.state x.own ev != x.state)=false:=H
     have t:qbe ev (xs.take (n+1))=false:=by rw[qa R,H]
     have X:=qb t
     clear t
     generalize q8 x.state x.own ev=y at f K
     go_quiet ((go_at_call 55;first | exact Calls.quiet_of (f _ j) | exact Calls.quiet_of (f _ (j.new ((Upd.refl _ _).drewN _)))))
     go_wp2
     go_roundw
     case rel=>exact⟨n+1,by go_num,by omega,X,by first | exact q.trans z | exact(q.trans z).drewN _⟩
     case measure=>simp[intOf];omega
  ·obtain rfl:n=xs.length:=by omega
   have t:qbe ev xs=false:=by have:=qa P;rwa [List.take_length] at this
   go_wp2
   first | go_ret2 | go_ret
   exact⟨by rw[t];rfl,q⟩
end Go.Proofs.YtjpmomdechibmaaGreatDoor
namespace Go.Proofs.YtjpmomdechibmaaGreatDoor
open Go.RowKit Go.Sort
theorem q3a(ours:Bool)(xs:List Live):(qz ours xs).length≤xs.length:=by
 unfold qz
 rw[List.length_map]
 exact List.length_filter_le _ _
def qeq(I X:List Item):Prop:=∃M:List (Item × Nat),M.Perm I.zipIdx∧Srt M∧X=its M
theorem q0c{M N:List (Item × Nat)}(h:M.Perm N)(j:Srt M)(l:Srt N):M=N:=by
 induction M generalizing N with
 | nil=>exact(List.Perm.nil_eq h)
 | cons x M m =>
  cases N with
  | nil=>exact absurd h.length_eq (by simp)
  | cons y N =>
   have i:x=y:=by
    have f:x∈y::N:=h.subset (List.mem_cons_self ..)
    have g:y∈x::M:=h.symm.subset (List.mem_cons_self ..)
    rcases List.mem_cons.1 f with e | f
    ·exact e
    ·rcases List.mem_cons.1 g with e | g
     ·exact e.symm
     ·have a:=(List.pairwise_cons.1 j).1 y g
      have b:=(List.pairwise_cons.1 l).1 x f
      exact absurd (qh1 a b) (qzl x)
   subst i
   rw[m (List.Perm.cons_inv h) (List.pairwise_cons.1 j).2 (List.pairwise_cons.1 l).2]
theorem qq7{I X Y:List Item}(h:qeq I X)(k:qeq I Y):X=Y:=by
 obtain⟨M,f,i,rfl⟩:=h
 obtain⟨N,g,j,rfl⟩:=k
 rw[q0c (f.trans g.symm) i j]
open Classical in
noncomputable def qep(I:List Item):List Item:=if h:∃X,qeq I X then h.choose else []
theorem qqp{I X:List Item}(h:qeq I X):X=qep I:=by
 have f:∃X,qeq I X:=⟨X,h⟩
 unfold qep
 rw[dif_pos f]
 exact qq7 h f.choose_spec
theorem qqq{I:List Item}(h:qeq I (qep I)):(qep I).Perm I:=by
 obtain⟨M,f,_,e⟩:=h
 rw[e]
 have:=f.map (·.1)
 simpa [its,List.zipIdx_map_fst] using this
theorem q94(ours:Bool)(l r:Int)(v:Value)(xs:List Live)(q:xs.length≤19)(w:World)(j:Spans w)(x:qhq w v xs) :
  Calls Tryz.prog 42 #[.bool ours,.agg #[.int .u64 l,.int .u64 r],v] w fun e w'=>∃u,e = .returned (.agg #[.int .u64 (if ours then (zm ours l r xs).1 else (zm ours l r xs).2),.int .u64 (if ours then (zm ours l r xs).2 else (zm ours l r xs).1),u]) ∧
   qx w w'∧qou w' u (qep (qz ours xs))∧qeq (qz ours xs) (qep (qz ours xs)):=by
 refine(zct ours l r v xs q w j x).mono ?_
 rintro e w' ⟨u,X,m,t,o,f⟩
 have g:=qqp (I:=qz ours xs) f
 have i:qeq (qz ours xs) X:=f
 rw[←g]
 exact⟨u,m,t,o,i⟩
def qhu(x:Live):Live:= {x with own:= !x.own}
def qk3(p:Int × Int):Int × Int:=(p.2,p.1)
theorem qv1(ours own:Bool)(st:Int):qcg (!ours) (!own) st=qcg ours own st:=by cases ours<;>simp[qcg]
theorem q21(ours own:Bool)(st:Int):qdu (!ours) (!own) st=qdu ours own st:=by cases ours<;>simp[qdu]
theorem qzc(ours:Bool)(xs:List Live):qz (!ours) (xs.map qhu)=qz ours xs:=by
 unfold qz
 rw[List.filter_map,List.map_map]
 have f:((fun x:Live=>qcg (!ours) x.own x.state) ∘ qhu)=fun x:Live=>qcg ours x.own x.state:=by
  funext x;exact qv1 ours x.own x.state
 have g:((fun x:Live=>(⟨x.own == !ours,x.h⟩:Item)) ∘ qhu)=fun x:Live=>⟨x.own==ours,x.h⟩:=by
  funext x;cases ours<;>cases h:x.own<;>simp[qhu,h]
 rw[f,g]
theorem qrw(f:Bool)(n:Int)(p:Int × Int):qcn (!f) n (qk3 p)=qk3 (qcn f n p):=by cases f<;>rfl
theorem q4d(ours:Bool)(p:Int × Int)(x:Live):qa9 (!ours) (qk3 p) (qhu x)=qk3 (qa9 ours p x):=by
 unfold qa9
 have f:qcg (!ours) (qhu x).own (qhu x).state=qcg ours x.own x.state:=qv1 ours x.own x.state
 have g:qdu (!ours) (qhu x).own (qhu x).state=qdu ours x.own x.state:=q21 ours x.own x.state
 rw[f,g]
 show (if qcg ours x.own x.state=true then qk3 p else if (qdu ours x.own x.state&&x.paid)=true then qcn (!!x.own) x.h.amount (qk3 p) else qcn (!x.own) x.h.amount (qk3 p))=_
 split
 ·rfl
 ·split
  ·exact qrw (!x.own) _ _
  ·exact qrw x.own _ _
theorem q4f(ours:Bool)(l r:Int)(xs:List Live):zm (!ours) r l (xs.map qhu)=qk3 (zm ours l r xs):=by
 unfold zm
 have key:∀(xs:List Live) (p:Int × Int),(xs.map qhu).foldl (qa9 (!ours)) (qk3 p)=qk3 (xs.foldl (qa9 ours) p):=by
  intro xs
  induction xs with
  | nil=>intro p;rfl
  | cons x xs f=>intro p;rw[List.map_cons,List.foldl_cons,List.foldl_cons,q4d,f]
 exact key xs (l,r)
theorem q6n{ours:Bool}{xs:List Live}(h:∀x∈xs,LiveOk x):∀x∈qz ours xs,HtlcOk x.h:=by
 intro x f
 unfold qz at f
 rw[List.mem_map] at f
 obtain⟨y,g,rfl⟩:=f
 exact(h y (List.mem_filter.1 g).1).h
theorem zaq{I:List Item}(f:qeq I (qep I))(h:∀x∈I,HtlcOk x.h):∀x∈qep I,HtlcOk x.h:=fun x g=>h x ((qqq f).subset g)
def qhb(ours:Bool)(l r:Int)(xs:List Live):Int:=if ours then (zm ours l r xs).1 else (zm ours l r xs).2
def qhc(ours:Bool)(l r:Int)(xs:List Live):Int:=if ours then (zm ours l r xs).2 else (zm ours l r xs).1
theorem qoq(x:Int):0≤IntKind.u64.wrap x∧IntKind.u64.wrap x<18446744073709551616:=by rw[IntKind.wrap_u64];omega
theorem q1o(ours:Bool)(xs:List Live):∀(l r:Int),(0≤l∧l<18446744073709551616)→(0≤r∧r<18446744073709551616)→(0≤(zm ours l r xs).1∧(zm ours l r xs).1<18446744073709551616)∧(0≤(zm ours l r xs).2∧(zm ours l r xs).2<18446744073709551616):=by
 unfold zm
 induction xs with
 | nil=>intro l r g i;exact⟨g,i⟩
 | cons x xs o =>
  intro l r g i
  rw[List.foldl_cons]
  have m:(0≤(qa9 ours (l,r) x).1∧(qa9 ours (l,r) x).1<18446744073709551616)∧(0≤(qa9 ours (l,r) x).2∧(qa9 ours (l,r) x).2<18446744073709551616):=by
   have j:∀f n,(0≤(qcn f n (l,r)).1∧(qcn f n (l,r)).1<18446744073709551616)∧(0≤(qcn f n (l,r)).2∧(qcn f n (l,r)).2<18446744073709551616):=by
    intro f n
    unfold qcn
    split
    ·exact⟨qoq _,i⟩
    ·exact⟨g,qoq _⟩
   unfold qa9
   split
   ·exact⟨g,i⟩
   ·split
    ·exact j _ _
    ·exact j _ _
  exact o _ _ m.1 m.2
theorem q8q(ours:Bool)(l r:Int)(xs:List Live)(f:0≤l∧l<18446744073709551616)(g:0≤r∧r<18446744073709551616):0≤qhb ours l r xs∧qhb ours l r xs<18446744073709551616:=by
 have:=q1o ours xs l r f g
 unfold qhb
 split
 ·exact this.1
 ·exact this.2
theorem q8r(ours:Bool)(l r:Int)(xs:List Live)(f:0≤l∧l<18446744073709551616)(g:0≤r∧r<18446744073709551616):0≤qhc ours l r xs∧qhc ours l r xs<18446744073709551616:=by
 have:=q1o ours xs l r f g
 unfold qhc
 split
 ·exact this.2
 ·exact this.1
noncomputable def zx(ours:Bool)(key:ByteArray)(ch n l r:Int)(xs:List Live):List Int:=qqm key (qjk ch n (qhb ours l r xs) (qhc ours l r xs) (qep (qz ours xs)))
theorem qhd(ours:Bool)(key:ByteArray)(ch n l r:Int)(xs:List Live):(zx ours key ch n l r xs).length=32:=by unfold zx qqm;exact qb8 _
structure ViewO(ours:Bool)(l r:Int)(xs:List Live)(w:World)(v:Value):Prop where
 u:∃u,v = .agg #[.int .u64 (qhb ours l r xs),.int .u64 (qhc ours l r xs),u]∧qer w u (qep (qz ours xs))
 is:qeq (qz ours xs) (qep (qz ours xs))
theorem ViewO.new{ours:Bool}{l r:Int}{xs:List Live}{w w':World}{v:Value}(h:ViewO ours l r xs w v)(n:qx w w'):ViewO ours l r xs w' v:=by
 obtain⟨⟨u,e,g⟩,f⟩:=h
 exact⟨⟨u,e,g.new n⟩,f⟩
theorem qwt(ours:Bool)(l r:Int)(v:Value)(xs:List Live)(q:xs.length≤19)(w:World)(f:Spans w)(o:qhq w v xs) :
  Calls Tryz.prog 42 #[.bool ours,.agg #[.int .u64 l,.int .u64 r],v] w fun e w'=>∃V,e = .returned V∧qx w w'∧ViewO ours l r xs w' V:=by
 refine(q94 ours l r v xs (by omega) w f o).mono ?_
 rintro e w' ⟨u,i,m,j,g⟩
 exact⟨_,i,m,⟨⟨u,rfl,j.toR⟩,g⟩⟩
theorem qsq(ours:Bool)(l r:Int)(V:Value)(xs:List Live)(key:ByteArray)(ch n:Int)(v:xs.length≤1000000)(w:World)(m:Tabs w)(o:ViewO ours l r xs w V)(C:∀x∈xs,LiveOk x)(t:key.size≤100000000)(q:0≤ch∧ch<4294967296)(y : -9223372036854775808≤n∧n≤9223372036854775807)(g:0≤l∧l<18446744073709551616)(i:0≤r∧r<18446744073709551616) :
  Calls Tryz.prog 41 #[.string key,.int .u32 ch,.int .i64 n,V] w (qa5 (.agg (zb (zx ours key ch n l r xs)).toArray) w):=by
 obtain⟨⟨u,rfl,z⟩,j⟩:=o
 have f:(qep (qz ours xs)).length≤1000000:=by
  rw[(qqq j).length_eq]
  exact Nat.le_trans (q3a ours xs) v
 exact q8s key ch n _ _ u _ f (zaq j (q6n C)) w m t q y (q8q ours l r xs g i) (q8r ours l r xs g i) z
end Go.Proofs.YtjpmomdechibmaaGreatDoor
