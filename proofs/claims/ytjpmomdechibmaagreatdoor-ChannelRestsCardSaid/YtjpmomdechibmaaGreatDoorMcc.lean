/-
  view.Tag.
-/
import Derived.Test.YtjpmomdechibmaaGreatDoorMca
import Derived.Test.YtjpmomdechibmaaGreatDoorSl1
import Derived.Test.YtjpmomdechibmaaGreatDoorMba
import Derived.Test.YtjpmomdechibmaaGreatDoorVw5
import Derived.Test.YtjpmomdechibmaaGreatDoorMbc
set_option linter.unusedVariables false
set_option linter.unusedSimpArgs false
namespace Go.Proofs.YtjpmomdechibmaaGreatDoor
open Go.RowKit Go.Sort
theorem q12(ch n A B:Int)(X:List Item):(qj3 ch n A B X).size=30+57*X.length:=by
 unfold qj3
 rw[qsx,qqe]
set_option maxRecDepth 100000 in
set_option maxHeartbeats 2000000 in
theorem zaj(key:ByteArray)(ch n A B:Int)(u:Value)(X:List Item)(hl:X.length≤1000000)(z:∀x∈X,HtlcOk x.h)(w:World)(hT:Tabs w)(hk:key.size≤100000000)(O:0≤ch∧ch<4294967296)(P : -9223372036854775808≤n∧n≤9223372036854775807)
  (L:0≤A∧A<18446744073709551616) (M:0≤B∧B<18446744073709551616) (hu:qe5 w u X) :
  Calls Tryz.prog 41 #[.string key,.int .u32 ch,.int .i64 n,.agg #[.int .u64 A,.int .u64 B,u]] w fun e w'=>e = .returned (.agg ((qrq key (qj3 ch n A B X)).map (Value.int .u8)).toArray)∧qy w w':=by
 have t:=qb (fun W (m:qy w W)=>zac ch n A B u X (by omega) z W O P L M (hu.new m))
 have D:(qj3 ch n A B X).size≤100000000:=by rw[q12];omega
 have q:=qb (fun W h=>zcb key (qj3 ch n A B X) W hk D h)
 have i:(qrq key (qj3 ch n A B X)).length=32:=by unfold qrq;exact qck _
 generalize N:qrq key (qj3 ch n A B X)=out at q i
 have Y:=qb N
 generalize qj3 ch n A B X=tx at t q Y
 clear L M P O z D N
 go_enter Tryz.func41,Tryz.ntmps41
 go_upto_region 0 with fail
 refine wp_region_lit ?_
 refine zc rfl (v:= .pointer (some ⟨w.heap.size,0,none⟩)) (w':=w.alloc (.cells #[.int .u64 A,.int .u64 B,u] 100)) (by simp only[execOp];go_simp) ?_
 have y:=qi w (.cells #[.int .u64 A,.int .u64 B,u] 100)
 have F:qy w (w.alloc (.cells #[.int .u64 A,.int .u64 B,u] 100)):=(Upd.refl _ _).alloc _
 generalize w.alloc (.cells #[.int .u64 A,.int .u64 B,u] 100)=w1 at y F ⊢
 refine zc rfl (v:= .pointer (some ⟨w1.heap.size,0,none⟩)) (w':=w1.alloc (.cells qfi 28)) (by kernel_rfl) ?_
 have H:qy w1 (w1.alloc (.cells qfi 28)):=(Upd.refl _ _).alloc _
 have l:=qi w1 (.cells qfi 28)
 generalize w1.alloc (.cells qfi 28)=E at H l ⊢
 replace y:=H.old y (fun h=>h)
 have o:=F.trans H
 have C:=F.size
 go_upto_region 1 with fail
 refine wp_region_lit ?_
 refine zc rfl (v:= .string key) (w':=E) (by kernel_rfl) ?_
 refine zc rfl (v:= .int .u32 ch) (w':=E) (by kernel_rfl) ?_
 refine zc rfl (v:= .int .i64 n) (w':=E) (by kernel_rfl) ?_
 refine wpList_load_row rfl _ _ rfl w.heap.size (by kernel_rfl) 100 _ _ _ y Tryz.underlying100 rfl (by kernel_rfl) ?_
 refine qdr rfl (f:=59) (args:=#[.int .u32 ch,.int .i64 n,.agg #[.int .u64 A,.int .u64 B,u]]) (w':=E) (by kernel_rfl) ?_
 refine(qa t E o).mono ?_
 rintro e U ⟨rfl,J⟩
 refine⟨_,rfl,?_⟩
 replace l:=J.old l (fun h=>h)
 replace o:=o.trans J
 refine qdr rfl (f:=58) (args:=#[.string key,.string tx]) (w':=U) (by kernel_rfl) ?_
 refine(qa q U (hT.new o)).mono ?_
 rintro e V ⟨rfl,K⟩
 refine⟨_,rfl,?_⟩
 replace l:=K.old l (fun h=>h)
 replace o:=o.trans K
 refine wpList_store_row rfl _ _ _ rfl w1.heap.size (out.map (Value.int .u8)).toArray (by kernel_rfl) (by kernel_rfl) 28 _ l (by rw[List.size_toArray,List.length_map,i];exact Tryz.infoHash) (by have Z:qfi.size=32:=rfl;rw[Z];simp[i]) (by simp[Value.oneCell']) ?_
 have I:=setRow_heap V w1.heap.size _ (out.map (Value.int .u8)).toArray 28 (0,0) l
 have T:=o.setRow (g:=w1.heap.size) (fun h=>by omega) (out.map (Value.int .u8)).toArray
 generalize V.setRow w1.heap.size (out.map (Value.int .u8)).toArray=wF at I T ⊢
 generalize w1.heap.size=R at I ⊢
 clear J K l y F H o C
 go_wp2_with fail
 refine bodyPost_ret (results_cell_row rfl _ _ R 28 _ _ _ (by kernel_rfl) I Tryz.underlying28 rfl (by rw[List.size_toArray,List.length_map,i];exact Tryz.infoHash)) rfl ?_
 exact⟨rfl,T⟩
attribute [local go_sem ↓ high] qc6 qdx
attribute [local go_sem] qhk qjw
def chg(ev:Int)(x:Live):Bool:=qv x.state x.own ev != x.state
def qaj(ev:Int)(xs:List Live):Bool:=xs.any (chg ev)
set_option maxRecDepth 100000 in
set_option maxHeartbeats 4000000 in
theorem qod(v:Value)(xs:List Live)(ev:Int)(hl:xs.length≤1048576)(w:World)(hG:Glob w)(X:qh6 w v xs) :
  Calls Tryz.prog 39 #[v,.int .i64 ev] w (qa7 (.bool (qaj ev xs)) w):=by
 have M:∃a c,v = .slice a xs.length c:=by
  rcases X with ⟨_,_,rfl,rfl⟩ | ⟨g,off,cap,rfl,_⟩
  ·exact⟨_,_,rfl⟩
  ·exact⟨_,_,rfl⟩
 obtain⟨va,vc,rfl⟩:=M
 go_enter Tryz.func39,Tryz.ntmps39
 go_wp2_with fail
 go_loopw [9] (fun O wr=>∃n:Nat,O = .int .i64 (n:Int)∧n≤xs.length∧Hid (qaj ev (xs.take n)=false)∧qy w wr) (fun O _=>xs.length-(intOf O).toNat)
 case atStart=>exact⟨0,rfl,Nat.zero_le _,qb rfl,Upd.refl _ _⟩
 case round =>
  obtain⟨n,rfl,hn,R,t⟩:=hrel
  by_cases q:n<xs.length
  ·obtain⟨x,J⟩:∃x,xs[n]? = some x:=⟨_,List.getElem?_eq_getElem q⟩
   rcases X.new t with ⟨_,_,e,Z⟩ | ⟨g,off,cap,e,U⟩
   ·rw[Z] at q;simp at q
   ·cases e
    have m:=U.row J
    have a4:(n:Int)<(xs.length:Int):=by omega
    have E:stOk (wr.alloc (.cells #[.int .u64 0,.int .u64 0,.int .u8 0,.int .u8 0,.int .u8 0,.int .u8 0,.int .u8 0,.int .u8 0,.int .u8 0,.int .u8 0,.int .u8 0,.int .u8 0,.int .u8 0,.int .u8 0,.int .u8 0,.int .u8 0,.int .u8 0,.int .u8 0,.int .u8 0,.int .u8 0,.int .u8 0,.int .u8 0,.int .u8 0,.int .u8 0,.int .u8 0,.int .u8 0,.int .u8 0,.int .u8 0,.int .u8 0,.int .u8 0,.int .u8 0,.int .u8 0,.int .u8 0,.int .u8 0,.int .i64 0,.bool false,.int .i64 0,.bool false] 81)) wr.heap.size 0 38 (qm x).toArray=true:=qff (qi _ _) (by decide) (by rw[List.size_toArray,qa0]) (by rw[List.all_toArray,List.all_eq_true];exact qd9 x)
    have i:=qmk wr #[.int .u64 0,.int .u64 0,.int .u8 0,.int .u8 0,.int .u8 0,.int .u8 0,.int .u8 0,.int .u8 0,.int .u8 0,.int .u8 0,.int .u8 0,.int .u8 0,.int .u8 0,.int .u8 0,.int .u8 0,.int .u8 0,.int .u8 0,.int .u8 0,.int .u8 0,.int .u8 0,.int .u8 0,.int .u8 0,.int .u8 0,.int .u8 0,.int .u8 0,.int .u8 0,.int .u8 0,.int .u8 0,.int .u8 0,.int .u8 0,.int .u8 0,.int .u8 0,.int .u8 0,.int .u8 0,.int .i64 0,.bool false,.int .i64 0,.bool false] 81 (qm x) (by rw[qa0];rfl)
    have F:=qhl x
    have H:=qfa x
    have V:qaj ev (xs.take (n+1))=chg ev x:=by
     have:=qa R
     unfold qaj at this ⊢
     rw[List.take_add_one,J,List.any_append,this];simp
    have T:=qb V
    have HX:=qb J
    clear V U J
    generalize qm x=C at m E i F H
    go_upto_region 4 with fail
    obtain⟨o,D⟩:=i
    generalize (wr.alloc (.cells #[.int .u64 0,.int .u64 0,.int .u8 0,.int .u8 0,.int .u8 0,.int .u8 0,.int .u8 0,.int .u8 0,.int .u8 0,.int .u8 0,.int .u8 0,.int .u8 0,.int .u8 0,.int .u8 0,.int .u8 0,.int .u8 0,.int .u8 0,.int .u8 0,.int .u8 0,.int .u8 0,.int .u8 0,.int .u8 0,.int .u8 0,.int .u8 0,.int .u8 0,.int .u8 0,.int .u8 0,.int .u8 0,.int .u8 0,.int .u8 0,.int .u8 0,.int .u8 0,.int .u8 0,.int .u8 0,.int .i64 0,.bool false,.int .i64 0,.bool false] 81)).setCells wr.heap.size 0 C=P at o D ⊢
    have a5:P.cell? ⟨wr.heap.size,35,none⟩=some (.bool x.own):=by rw[qh o,List.getElem?_toArray];exact F
    have a6:P.cell? ⟨wr.heap.size,36,none⟩=some (.int .i64 x.state):=by rw[qh o,List.getElem?_toArray];exact H
    have l:Glob P:=hG.new (t.trans D)
    clear E m
    have f:∀W,Glob W→Calls Tryz.prog 55 #[.int .i64 x.state,.bool x.own,.int .i64 ev] W (qcc (.int .i64 (qv x.state x.own ev)) W):=fun W h=>qx4 x.state ev x.own W h
    cases I:chg ev x with
    | true =>
     have L:(qv x.state x.own ev != x.state)=true:=I
     have z:qaj ev xs=true:=by
      have K:qaj ev (xs.take (n+1))=true:=by rw[qa T,I]
      unfold qaj at K ⊢
      rw[List.any_eq_true] at K ⊢
      obtain⟨y,hy,N⟩:=K
      exact⟨y,List.mem_of_mem_take hy,N⟩
     generalize qv x.state x.own ev=y at f L
     go_quiet ((go_at_call 55;first | exact Calls.quiet_of (f _ l) | exact Calls.quiet_of (f _ (l.new ((Upd.refl _ _).drewN _)))))
     go_wp2
     first | go_ret2 | go_ret
     exact⟨by rw[z];rfl,by first | exact t.trans D | exact(t.trans D).drewN _⟩
    | false =>
     have L:(qv x.state x.own ev != x.state)=false:=I
     have z:qaj ev (xs.take (n+1))=false:=by rw[qa T,I]
     have Y:=qb z
     clear z
     generalize qv x.state x.own ev=y at f L
     go_quiet ((go_at_call 55;first | exact Calls.quiet_of (f _ l) | exact Calls.quiet_of (f _ (l.new ((Upd.refl _ _).drewN _)))))
     go_wp2
     go_roundw
     case rel=>exact⟨n+1,by go_num,by omega,Y,by first | exact t.trans D | exact(t.trans D).drewN _⟩
     case measure=>simp[intOf];omega
  ·obtain rfl:n=xs.length:=by omega
   have z:qaj ev xs=false:=by have:=qa R;rwa [List.take_length] at this
   go_wp2
   first | go_ret2 | go_ret
   exact⟨by rw[z];rfl,t⟩
end Go.Proofs.YtjpmomdechibmaaGreatDoor
namespace Go.Proofs.YtjpmomdechibmaaGreatDoor
open Go.RowKit Go.Sort
theorem q4x(ours:Bool)(xs:List Live):(zb ours xs).length≤xs.length:=by
 unfold zb
 rw[List.length_map]
 exact List.length_filter_le _ _
def qe4(I X:List Item):Prop:=∃M:List (Item × Nat),M.Perm I.zipIdx∧Srt M∧X=its M
theorem q1t{M N:List (Item × Nat)}(h:M.Perm N)(l:Srt M)(m:Srt N):M=N:=by
 induction M generalizing N with
 | nil=>exact(List.Perm.nil_eq h)
 | cons x M o =>
  cases N with
  | nil=>exact absurd h.length_eq (by simp)
  | cons y N =>
   have i:x=y:=by
    have f:x∈y::N:=h.subset (List.mem_cons_self ..)
    have g:y∈x::M:=h.symm.subset (List.mem_cons_self ..)
    rcases List.mem_cons.1 f with e | f
    ·exact e
    ·rcases List.mem_cons.1 g with e | g
     ·exact e.symm
     ·have a:=(List.pairwise_cons.1 l).1 y g
      have b:=(List.pairwise_cons.1 m).1 x f
      exact absurd (qig a b) (q0x x)
   subst i
   rw[o (List.Perm.cons_inv h) (List.pairwise_cons.1 l).2 (List.pairwise_cons.1 m).2]
theorem qr8{I X Y:List Item}(h:qe4 I X)(k:qe4 I Y):X=Y:=by
 obtain⟨M,f,i,rfl⟩:=h
 obtain⟨N,g,l,rfl⟩:=k
 rw[q1t (f.trans g.symm) i l]
open Classical in
noncomputable def qe3(I:List Item):List Item:=if h:∃X,qe4 I X then h.choose else []
theorem qrt{I X:List Item}(h:qe4 I X):X=qe3 I:=by
 have f:∃X,qe4 I X:=⟨X,h⟩
 unfold qe3
 rw[dif_pos f]
 exact qr8 h f.choose_spec
theorem qru{I:List Item}(h:qe4 I (qe3 I)):(qe3 I).Perm I:=by
 obtain⟨M,f,_,e⟩:=h
 rw[e]
 have:=f.map (·.1)
 simpa [its,List.zipIdx_map_fst] using this
theorem zbv(ours:Bool)(l r:Int)(v:Value)(xs:List Live)(t:xs.length≤19)(w:World)(m:Spans w)(y:qh6 w v xs) :
  Calls Tryz.prog 42 #[.bool ours,.agg #[.int .u64 l,.int .u64 r],v] w fun e w'=>∃u,e = .returned (.agg #[.int .u64 (if ours then (zn ours l r xs).1 else (zn ours l r xs).2),.int .u64 (if ours then (zn ours l r xs).2 else (zn ours l r xs).1),u]) ∧
   qy w w'∧qpp w' u (qe3 (zb ours xs))∧qe4 (zb ours xs) (qe3 (zb ours xs)):=by
 refine(zep ours l r v xs t w m y).mono ?_
 rintro e w' ⟨u,X,o,x,q,f⟩
 have g:=qrt (I:=zb ours xs) f
 have i:qe4 (zb ours xs) X:=f
 rw[←g]
 exact⟨u,o,x,q,i⟩
def qh9(x:Live):Live:= {x with own:= !x.own}
def qlp(p:Int × Int):Int × Int:=(p.2,p.1)
theorem qxd(ours own:Bool)(st:Int):qcs (!ours) (!own) st=qcs ours own st:=by cases ours<;>simp[qcs]
theorem q4o(ours own:Bool)(st:Int):qd5 (!ours) (!own) st=qd5 ours own st:=by cases ours<;>simp[qd5]
theorem q0l(ours:Bool)(xs:List Live):zb (!ours) (xs.map qh9)=zb ours xs:=by
 unfold zb
 rw[List.filter_map,List.map_map]
 have f:((fun x:Live=>qcs (!ours) x.own x.state) ∘ qh9)=fun x:Live=>qcs ours x.own x.state:=by
  funext x;exact qxd ours x.own x.state
 have g:((fun x:Live=>(⟨x.own == !ours,x.h⟩:Item)) ∘ qh9)=fun x:Live=>⟨x.own==ours,x.h⟩:=by
  funext x;cases ours<;>cases h:x.own<;>simp[qh9,h]
 rw[f,g]
theorem qs0(f:Bool)(n:Int)(p:Int × Int):qc1 (!f) n (qlp p)=qlp (qc1 f n p):=by cases f<;>rfl
theorem q52(ours:Bool)(p:Int × Int)(x:Live):qbj (!ours) (qlp p) (qh9 x)=qlp (qbj ours p x):=by
 unfold qbj
 have f:qcs (!ours) (qh9 x).own (qh9 x).state=qcs ours x.own x.state:=qxd ours x.own x.state
 have g:qd5 (!ours) (qh9 x).own (qh9 x).state=qd5 ours x.own x.state:=q4o ours x.own x.state
 rw[f,g]
 show (if qcs ours x.own x.state=true then qlp p else if (qd5 ours x.own x.state&&x.paid)=true then qc1 (!!x.own) x.h.amount (qlp p) else qc1 (!x.own) x.h.amount (qlp p))=_
 split
 ·rfl
 ·split
  ·exact qs0 (!x.own) _ _
  ·exact qs0 x.own _ _
theorem q54(ours:Bool)(l r:Int)(xs:List Live):zn (!ours) r l (xs.map qh9)=qlp (zn ours l r xs):=by
 unfold zn
 have key:∀(xs:List Live) (p:Int × Int),(xs.map qh9).foldl (qbj (!ours)) (qlp p)=qlp (xs.foldl (qbj ours) p):=by
  intro xs
  induction xs with
  | nil=>intro p;rfl
  | cons x xs f=>intro p;rw[List.map_cons,List.foldl_cons,List.foldl_cons,q52,f]
 exact key xs (l,r)
theorem q8d{ours:Bool}{xs:List Live}(h:∀x∈xs,LiveOk x):∀x∈zb ours xs,HtlcOk x.h:=by
 intro x f
 unfold zb at f
 rw[List.mem_map] at f
 obtain⟨y,g,rfl⟩:=f
 exact(h y (List.mem_filter.1 g).1).h
theorem zch{I:List Item}(f:qe4 I (qe3 I))(h:∀x∈I,HtlcOk x.h):∀x∈qe3 I,HtlcOk x.h:=fun x g=>h x ((qru f).subset g)
def qhr(ours:Bool)(l r:Int)(xs:List Live):Int:=if ours then (zn ours l r xs).1 else (zn ours l r xs).2
def qhs(ours:Bool)(l r:Int)(xs:List Live):Int:=if ours then (zn ours l r xs).2 else (zn ours l r xs).1
theorem qpl(x:Int):0≤IntKind.u64.wrap x∧IntKind.u64.wrap x<18446744073709551616:=by rw[IntKind.wrap_u64];omega
theorem q3d(ours:Bool)(xs:List Live):∀(l r:Int),(0≤l∧l<18446744073709551616)→(0≤r∧r<18446744073709551616)→(0≤(zn ours l r xs).1∧(zn ours l r xs).1<18446744073709551616)∧(0≤(zn ours l r xs).2∧(zn ours l r xs).2<18446744073709551616):=by
 unfold zn
 induction xs with
 | nil=>intro l r g i;exact⟨g,i⟩
 | cons x xs q =>
  intro l r g i
  rw[List.foldl_cons]
  have o:(0≤(qbj ours (l,r) x).1∧(qbj ours (l,r) x).1<18446744073709551616)∧(0≤(qbj ours (l,r) x).2∧(qbj ours (l,r) x).2<18446744073709551616):=by
   have m:∀f n,(0≤(qc1 f n (l,r)).1∧(qc1 f n (l,r)).1<18446744073709551616)∧(0≤(qc1 f n (l,r)).2∧(qc1 f n (l,r)).2<18446744073709551616):=by
    intro f n
    unfold qc1
    split
    ·exact⟨qpl _,i⟩
    ·exact⟨g,qpl _⟩
   unfold qbj
   split
   ·exact⟨g,i⟩
   ·split
    ·exact m _ _
    ·exact m _ _
  exact q _ _ o.1 o.2
theorem zah(ours:Bool)(l r:Int)(xs:List Live)(f:0≤l∧l<18446744073709551616)(g:0≤r∧r<18446744073709551616):0≤qhr ours l r xs∧qhr ours l r xs<18446744073709551616:=by
 have:=q3d ours xs l r f g
 unfold qhr
 split
 ·exact this.1
 ·exact this.2
theorem zai(ours:Bool)(l r:Int)(xs:List Live)(f:0≤l∧l<18446744073709551616)(g:0≤r∧r<18446744073709551616):0≤qhs ours l r xs∧qhs ours l r xs<18446744073709551616:=by
 have:=q3d ours xs l r f g
 unfold qhs
 split
 ·exact this.2
 ·exact this.1
noncomputable def z8(ours:Bool)(key:ByteArray)(ch n l r:Int)(xs:List Live):List Int:=qrq key (qj3 ch n (qhr ours l r xs) (qhs ours l r xs) (qe3 (zb ours xs)))
theorem qht(ours:Bool)(key:ByteArray)(ch n l r:Int)(xs:List Live):(z8 ours key ch n l r xs).length=32:=by unfold z8 qrq;exact qck _
structure ViewO(ours:Bool)(l r:Int)(xs:List Live)(w:World)(v:Value):Prop where
 u:∃u,v = .agg #[.int .u64 (qhr ours l r xs),.int .u64 (qhs ours l r xs),u]∧qe5 w u (qe3 (zb ours xs))
 is:qe4 (zb ours xs) (qe3 (zb ours xs))
theorem ViewO.new{ours:Bool}{l r:Int}{xs:List Live}{w w':World}{v:Value}(h:ViewO ours l r xs w v)(n:qy w w'):ViewO ours l r xs w' v:=by
 obtain⟨⟨u,e,g⟩,f⟩:=h
 exact⟨⟨u,e,g.new n⟩,f⟩
theorem qx7(ours:Bool)(l r:Int)(v:Value)(xs:List Live)(t:xs.length≤19)(w:World)(f:Spans w)(q:qh6 w v xs) :
  Calls Tryz.prog 42 #[.bool ours,.agg #[.int .u64 l,.int .u64 r],v] w fun e w'=>∃V,e = .returned V∧qy w w'∧ViewO ours l r xs w' V:=by
 refine(zbv ours l r v xs (by omega) w f q).mono ?_
 rintro e w' ⟨u,i,o,m,g⟩
 exact⟨_,i,o,⟨⟨u,rfl,m.toR⟩,g⟩⟩
theorem qty(ours:Bool)(l r:Int)(V:Value)(xs:List Live)(key:ByteArray)(ch n:Int)(y:xs.length≤1000000)(w:World)(o:Tabs w)(q:ViewO ours l r xs w V)(D:∀x∈xs,LiveOk x)(v:key.size≤100000000)(t:0≤ch∧ch<4294967296)(z : -9223372036854775808≤n∧n≤9223372036854775807)(g:0≤l∧l<18446744073709551616)(i:0≤r∧r<18446744073709551616) :
  Calls Tryz.prog 41 #[.string key,.int .u32 ch,.int .i64 n,V] w (qa7 (.agg (zf (z8 ours key ch n l r xs)).toArray) w):=by
 obtain⟨⟨u,rfl,C⟩,m⟩:=q
 have f:(qe3 (zb ours xs)).length≤1000000:=by
  rw[(qru m).length_eq]
  exact Nat.le_trans (q4x ours xs) y
 exact zaj key ch n _ _ u _ f (zch m (q8d D)) w o v t z (zah ours l r xs g i) (zai ours l r xs g i) C
end Go.Proofs.YtjpmomdechibmaaGreatDoor
