/-
  Package octet: the reader's Hash.
-/
import Derived.Test.YtfmkdoachjgjbaaGreatDoorMcd
import Derived.Test.YtfmkdoachjgjbaaGreatDoorMba
import Derived.Lib.LazyBuf
import Derived.Test.YtfmkdoachjgjbaaGreatDoorMbj
set_option maxRecDepth 100000
set_option maxHeartbeats 2000000
set_option linter.unusedVariables false
set_option linter.unusedSimpArgs false
namespace Go.Proofs.YtfmkdoachjgjbaaGreatDoor
section
open Go.RowKit
attribute [local go_sem ↓ high] zl qaa qad qam
attribute [local go_sem] qbf qci qcj qdh qv
theorem q7k(g:Nat)(s:ByteArray)(w:World)(h:Rd w g s)(hs:32≤s.size) :
  Calls Tryz.prog 204 #[.pointer (some ⟨g,0,none⟩)] w fun e w'=>e = .returned (.tuple #[.agg (qs (rdH s)).toArray,.int .i64 0])∧Upd (fun k=>k=g) w w'∧Rd w' g (s.extract 32 s.size):=by
 have d2:∀(fn:Fn) (first cap:Array Value) (w:World),(Instr.makeFunc fn first cap).run Tryz.prog w = .ok (.func fn first cap) w:=fun _ _ _ _=>rfl
 have d1:=h.lt
 go_enter_defers Tryz.func204,Tryz.ntmps204
 go_upto_region 1 with fail
 have n0:qu w (w.alloc (.cells (qs ze).toArray 35)):=(Upd.refl _ _).alloc _
 have S:=qh w (.cells (qs ze).toArray 35)
 have z0:(w.alloc (.cells (qs ze).toArray 35)).heap.size=w.heap.size+1:=World.size_alloc _ _
 have Y:=h.new n0
 generalize w.alloc (.cells (qs ze).toArray 35)=w0 at n0 S z0 Y ⊢
 have n1:qu w0 (w0.alloc (.cells #[.int .i64 0] 26)):=(Upd.refl _ _).alloc _
 have hE:=qh w0 (.cells #[.int .i64 0] 26)
 replace S:=n1.old S (fun h=>h)
 replace Y:=Y.new n1
 rw[z0] at hE
 generalize w0.alloc (.cells #[.int .i64 0] 26)=w1 at n1 hE S Y ⊢
 have J:g≠w.heap.size:=by omega
 have H:g≠w.heap.size+1:=by omega
 have m:w.heap.size≠w.heap.size+1:=by omega
 obtain⟨A,V⟩:∃A,A=w.heap.size:=⟨_,rfl⟩
 obtain⟨E,X⟩:∃E,E=A+1:=⟨_,rfl⟩
 rw[←V] at S hE J H m ⊢
 rw[←X] at hE H m ⊢
 have c2:=qb (And.intro V X)
 have HA:=qb S
 have b3:=qb hE
 have N1:=qb (n0.trans n1)
 clear V X hE S n0 n1 h z0
 go_wp2_with fail
 refine(qkj g E s w1 Y).mono ?_
 rintro e w2 ⟨p,q,r,rfl,n2,hB,N,O,R⟩
 have HB:=qb (And.intro hB (And.intro N (And.intro O R)))
 have b5:=n2.old (qa b3) (fun h=>h)
 have b4:=n2.old (qa HA) (fun h=>h)
 have Z:=Y.new n2
 have N2:=qb ((qa N1).trans n2)
 have d0:=zr (qa b3)
 clear hB Y N O R n2
 go_wp2_with fail
 refine(qzs g 32 s w2 Z hs).mono ?_
 rintro e w3 ⟨rfl,rfl⟩
 have a6:=Z.set (s.extract 32 s.size)
 have K:Upd (fun k=>k=g) w2 (w2.setCell ⟨g,0,none⟩ (.string (s.extract 32 s.size))):=(Upd.refl _ _).set1 _ _
 have C:=K.old b5 (fun e=>H e.symm)
 have T:=K.old b4 (fun e=>J e.symm)
 generalize w2.setCell ⟨g,0,none⟩ (.string (s.extract 32 s.size))=w3 at a6 K C T ⊢
 have c3:=qg C 0
 have f3:=qo C 0
 have F:=zt C 0 (.int .i64 0)
 have M:Upd (fun k=>k=E) w3 (w3.setCell ⟨E,0,none⟩ (.int .i64 0)):=(Upd.refl _ _).set1 _ _
 have i:=M.old T m
 have a7:=qw2 s hs
 have c0:(s.extract 0 32).size=32:=by rw[ByteArray.size_extract];omega
 generalize s.extract 0 32=x at c0 a7 ⊢
 have HU:=qb (And.intro K (And.intro M (And.intro F i)))
 have HR:=qb a6
 clear b5 Z a6 K C M F b4 T i
 go_upto_region 3 with fail
 generalize w3.setCell ⟨E,0,none⟩ (.int .i64 0)=w4 at HU ⊢
 have c4:w4.cell? ⟨E,0,none⟩=some (.int .i64 0):=qg (qa HU).2.2.1 0
 clear c3 f3
 obtain⟨K,M,F,i⟩:=qa HU
 have b8:∀j,j<x.size→(w4.cell? ⟨A,0+j,none⟩).isSome=true:=fun j hj=>by
  rw[Nat.zero_add,qg i j,List.getElem?_toArray,List.getElem?_eq_getElem (by rw[qaj,ql];omega)];rfl
 have b9:∀j,j<x.size→w4.frozen? ⟨A,0+j,none⟩=false:=fun j hj=>qo i _
 have z:=(HsB.mk i ql).put (rdH s) (qfl s)
 have u5:Upd (· = A) w4 (w4.setCells A 0 (qs (rdH s))):=qx _
 have W:=u5.old F (fun e=>m e.symm)
 have c1:=run_copy_string (P:=Tryz.prog) w4 95 9 3 5 A 0 32 32 x Tryz.underlying95 (fun w=>by kernel_rfl) (by omega) b8 b9
 rw[a7] at c1
 clear K M F i
 go_upto_region 6 with fail
 generalize w4.setCells A 0 (qs (rdH s))=L at z u5 W ⊢
 have rA:=z.row
 have d6:=z.stOk (rdH s) (qfl s)
 have I:=z.put (rdH s) (qfl s)
 have u6:Upd (· = A) L (L.setCells A 0 (qs (rdH s))):=qx _
 have v:=u6.old W (fun e=>m e.symm)
 have e6:(L.setCells A 0 (qs (rdH s))).cell? ⟨E,0,none⟩=some (.int .i64 0):=qg v 0
 have f6:(L.setCells A 0 (qs (rdH s))).frozen? ⟨E,0,none⟩=false:=qo v 0
 have HV:=qb (And.intro u5 (And.intro u6 (And.intro I v)))
 clear b8 b9 z u5 W I u6 v c4 a7 c0
 go_wp2_with fail
 obtain⟨u5,u6,I,v⟩:=qa HV
 obtain⟨K,M,-,-⟩:=qa HU
 obtain⟨hB,N,O,R⟩:=qa HB
 obtain⟨d3,d4⟩:=qa c2
 have c9:=zr (qa HA)
 have b6:=zt v 0 (.int .i64 0)
 have u7:Upd (· = E) (L.setCells A 0 (qs (rdH s))) ((L.setCells A 0 (qs (rdH s))).setCell ⟨E,0,none⟩ (.int .i64 0)):=(Upd.refl _ _).set1 _ _
 have U:=I.upd u7 m
 have b7:Rd ((L.setCells A 0 (qs (rdH s))).setCell ⟨E,0,none⟩ (.int .i64 0)) g (s.extract 32 s.size):=((((qa HR).upd M H).upd u5 J).upd u6 J).upd u7 H
 have a8:Upd (fun k=>k=g∨k=A∨k=E) w2 ((L.setCells A 0 (qs (rdH s))).setCell ⟨E,0,none⟩ (.int .i64 0)):=((((K.mono (fun k _ e=>(Or.inl e:k=g∨k=A∨k=E))).trans (M.mono (fun k _ e=> .inr (.inr e)))).trans (u5.mono (fun k _ e=> .inr (.inl e)))).trans (u6.mono (fun k _ e=> .inr (.inl e)))).trans (u7.mono (fun k _ e=> .inr (.inr e)))
 generalize (L.setCells A 0 (qs (rdH s))).setCell ⟨E,0,none⟩ (.int .i64 0)=w7 at b6 U b7 a8 ⊢
 have c7:w7.cell? ⟨E,0,none⟩=some (.int .i64 0):=qg b6 0
 have d5:=U.row
 have c5:=hB.upd a8 (by omega) (by omega) (by omega)
 have hU:Upd (fun k=>k=g) w w7:=((qa N2).mono (fun _ _ h=>h.elim)).then a8 (fun k hk e=>by omega)
 refine leaves_cons (f:=199) (args:=#[.pointer (some ⟨p,0,none⟩),.pointer (some ⟨q,0,none⟩),.pointer (some ⟨r,0,none⟩)]) (by simp) (by simp[go_sem]) ?_
 refine(qp4 g E p q r s _ w7 c5 c7).mono ?_
 rintro e u' d7 ⟨rfl,rfl,rfl⟩
 have c8:=run_loadVar_row (P:=Tryz.prog) w7 A 35 35 (qs (rdH s)).toArray (0,0) _ U.at_ Tryz.underlying35 rfl (by rw[List.size_toArray,qaj,qfl];exact Tryz.infoHsh)
 refine⟨.tuple #[.agg (qs (rdH s)).toArray,.int .i64 0],?_,rfl,hU,b7⟩
 have c6:(loadVar 26 ⟨E,0,none⟩).run Tryz.prog w7 = .ok (.int .i64 0) w7:=by
  simp[go_sem,loadVar,c7]
 simp[results,Tryz.results204,asAddr,c8,c6,Result.andThen]
theorem qve(g:Nat)(s:ByteArray)(w:World)(h:Rd w g s)(hs:s.size<32) :
  Calls Tryz.prog 204 #[.pointer (some ⟨g,0,none⟩)] w fun e w'=>e = .returned (.tuple #[.agg (qs ze).toArray,.int .i64 10])∧Upd (fun k=>k=g) w w'∧Rd w' g s:=by
 have d1:∀(fn:Fn) (first cap:Array Value) (w:World),(Instr.makeFunc fn first cap).run Tryz.prog w = .ok (.func fn first cap) w:=fun _ _ _ _=>rfl
 have d0:=h.lt
 go_enter_defers Tryz.func204,Tryz.ntmps204
 go_upto_region 1 with fail
 have n0:qu w (w.alloc (.cells (qs ze).toArray 35)):=(Upd.refl _ _).alloc _
 have N:=qh w (.cells (qs ze).toArray 35)
 have z0:(w.alloc (.cells (qs ze).toArray 35)).heap.size=w.heap.size+1:=World.size_alloc _ _
 have S:=h.new n0
 generalize w.alloc (.cells (qs ze).toArray 35)=w0 at n0 N z0 S ⊢
 have n1:qu w0 (w0.alloc (.cells #[.int .i64 0] 26)):=(Upd.refl _ _).alloc _
 have X:=qh w0 (.cells #[.int .i64 0] 26)
 replace N:=n1.old N (fun h=>h)
 replace S:=S.new n1
 rw[z0] at X
 generalize w0.alloc (.cells #[.int .i64 0] 26)=w1 at n1 X N S ⊢
 have V:g≠w.heap.size:=by omega
 have C:g≠w.heap.size+1:=by omega
 have z:w.heap.size≠w.heap.size+1:=by omega
 obtain⟨A,O⟩:∃A,A=w.heap.size:=⟨_,rfl⟩
 obtain⟨E,R⟩:∃E,E=A+1:=⟨_,rfl⟩
 rw[←O] at N X V C z ⊢
 rw[←R] at X C z ⊢
 have c0:=qb (And.intro O R)
 have HA:=qb N
 have a6:=qb X
 have N1:=qb (n0.trans n1)
 clear O R X N n0 n1 h z0
 go_wp2_with fail
 refine(qkj g E s w1 S).mono ?_
 rintro e w2 ⟨p,q,r,rfl,n2,hB,K,L,M⟩
 have HB:=qb (And.intro hB (And.intro K (And.intro L M)))
 have b6:=n2.old (qa a6) (fun h=>h)
 have a7:=n2.old (qa HA) (fun h=>h)
 have T:=S.new n2
 have N2:=qb ((qa N1).trans n2)
 have c9:=zr (qa a6)
 clear hB S K L M n2
 go_wp2_with fail
 refine(qpf g 32 s w2 T hs).mono ?_
 rintro e w3 ⟨rfl,q3⟩
 have b8:=T.new (q3.upd _)
 have I:=q3.old b6
 have a8:=q3.old a7
 have c3:=qg I 0
 have f3:=qo I 0
 have i:=zt I 0 (.int .i64 10)
 have J:Upd (fun k=>k=E) w3 (w3.setCell ⟨E,0,none⟩ (.int .i64 10)):=(Upd.refl _ _).set1 _ _
 have HU:=qb (And.intro (q3.upd (fun _=>False)) (And.intro J (And.intro i (J.old a8 z))))
 have HR:=qb b8
 clear b6 T b8 q3 I J i a7 a8
 go_upto_region 3 with fail
 generalize w3.setCell ⟨E,0,none⟩ (.int .i64 10)=F at HU ⊢
 obtain⟨u3,J,i,b3⟩:=qa HU
 have c4:F.cell? ⟨E,0,none⟩=some (.int .i64 10):=qg i 0
 have v:=HsB.mk b3 ql
 have d4:=v.stOk ze ql
 have H:=v.put ze ql
 have Y:Upd (· = A) F (F.setCells A 0 (qs ze)):=qx _
 have m:=Y.old i (fun e=>z e.symm)
 have e5:(F.setCells A 0 (qs ze)).cell? ⟨E,0,none⟩=some (.int .i64 10):=qg m 0
 have f5:(F.setCells A 0 (qs ze)).frozen? ⟨E,0,none⟩=false:=qo m 0
 have HV:=qb (And.intro Y (And.intro H m))
 clear u3 J i b3 v H Y m c3 f3
 go_wp2_with fail
 obtain⟨Y,H,m⟩:=qa HV
 obtain⟨u3,J,-,-⟩:=qa HU
 obtain⟨hB,K,L,M⟩:=qa HB
 obtain⟨d2,d3⟩:=qa c0
 have c6:=zr (qa HA)
 have b7:=zt m 0 (.int .i64 10)
 have u7:Upd (· = E) (F.setCells A 0 (qs ze)) ((F.setCells A 0 (qs ze)).setCell ⟨E,0,none⟩ (.int .i64 10)):=(Upd.refl _ _).set1 _ _
 have b4:=H.upd u7 z
 have U:Rd ((F.setCells A 0 (qs ze)).setCell ⟨E,0,none⟩ (.int .i64 10)) g s:=((((qa HR).upd J C).upd Y V)).upd u7 C
 have W:Upd (fun k=>k=g∨k=A∨k=E) w2 ((F.setCells A 0 (qs ze)).setCell ⟨E,0,none⟩ (.int .i64 10)):=(((u3.mono (fun _ _ h=>h.elim)).trans (J.mono (fun k _ e=>(.inr (.inr e):k=g∨k=A∨k=E)))).trans (Y.mono (fun k _ e=> .inr (.inl e)))).trans (u7.mono (fun k _ e=> .inr (.inr e)))
 generalize (F.setCells A 0 (qs ze)).setCell ⟨E,0,none⟩ (.int .i64 10)=Z at b7 b4 U W ⊢
 have c7:Z.cell? ⟨E,0,none⟩=some (.int .i64 10):=qg b7 0
 have c1:=hB.upd W (by omega) (by omega) (by omega)
 have u8:Upd (fun k=>k=g) Z (Z.setCell ⟨g,0,none⟩ (.string s)):=(Upd.refl _ _).set1 _ _
 have hU:Upd (fun k=>k=g) w (Z.setCell ⟨g,0,none⟩ (.string s)):=(((qa N2).mono (fun _ _ h=>h.elim)).then W (fun k hk e=>by omega)).trans u8
 have b5:=b4.upd u8 (fun e=>V e.symm)
 have c8:=u8.cell c7 (fun e=>C e.symm)
 have b9:=U.set s
 refine leaves_cons (f:=199) (args:=#[.pointer (some ⟨p,0,none⟩),.pointer (some ⟨q,0,none⟩),.pointer (some ⟨r,0,none⟩)]) (by simp) (by simp[go_sem]) ?_
 refine(qth g E p q r s s 10 _ Z c1 c7 (by decide) U).mono ?_
 rintro e u' d5 ⟨rfl,rfl,rfl⟩
 generalize Z.setCell ⟨g,0,none⟩ (.string s)=w8 at hU b5 c8 b9 ⊢
 have c5:=run_loadVar_row (P:=Tryz.prog) w8 A 35 35 (qs ze).toArray (0,0) _ b5.at_ Tryz.underlying35 rfl (by rw[List.size_toArray,qaj,ql];exact Tryz.infoHsh)
 refine⟨.tuple #[.agg (qs ze).toArray,.int .i64 10],?_,rfl,hU,b9⟩
 have c2:(loadVar 26 ⟨E,0,none⟩).run Tryz.prog w8 = .ok (.int .i64 10) w8:=by
  simp[go_sem,loadVar,c8]
 simp[results,Tryz.results204,asAddr,c5,c2,Result.andThen]
end
section
open Go.RowKit
attribute [local go_sem ↓ high] zl qaa qad qam
attribute [local go_sem] qbf qci qcj qdh qv
theorem q2q(A G:Nat)(m:MsgV)(s:ByteArray)(w:World)(X:MsB w A m)(Y:Rd w G s)(E:A≠G)(hs:32≤s.size) :
  Calls Tryz.prog 175 #[qd0 G,.pointer (some ⟨A,0,none⟩)] w fun e w'=>e = .returned (.tuple #[])∧Upd (fun k=>k=A∨k=G) w w'∧MsB w' A {m with hash:=rdH s} ∧ Rd w' G (s.extract 32 s.size):=by
 unfold qd0
 go_enter Tryz.func175,Tryz.ntmps175
 go_upto_region 2 with fail
 have J:qu w (w.alloc (.cells #[.pointer none,.pointer (some ⟨G,0,none⟩)] 234)):=(Upd.refl _ _).alloc _
 have I:=qh w (.cells #[.pointer none,.pointer (some ⟨G,0,none⟩)] 234)
 generalize w.alloc (.cells #[.pointer none,.pointer (some ⟨G,0,none⟩)] 234)=w1 at J I ⊢
 generalize w.heap.size=B at I ⊢
 have d0:w1.cell? ⟨B,0,none⟩=some (.pointer none):=qg I 0
 have d1:w1.cell? ⟨B,1,none⟩=some (.pointer (some ⟨G,0,none⟩)):=qg I 1
 have U:=qb (X.new J)
 have i:=q7k G s w1 (Y.new J) hs
 have W:=qb J
 clear I X Y J
 go_wp2_with fail
 refine i.mono ?_
 rintro e N ⟨rfl,S,F⟩
 obtain⟨z,p,L⟩:=qg0 N (rdH s) (qfl s)
 have R:=qb ((((qa W).mono (fun _ _ h=>h.elim)).trans (S.mono (fun k _ e=>(Or.inr e:k=A∨k=G)))).trans (L.mono (fun _ _ h=>h.elim)))
 have q:=qb (((qa U).upd S E).new L)
 have P:=qb (F.new L)
 clear i W S F U d0 d1
 go_upto_region 6 with fail
 change Code.wp _ _ _ _ (qif N (rdH s))
 generalize qif N (rdH s)=w4 at p L R q P ⊢
 generalize N.heap.size=K at p z ⊢
 have V:=qb p
 clear z p L
 go_wp2_with fail
 refine(qe1 _).mono ?_
 rintro e O ⟨rfl,M⟩
 have rK:=((qa V).new (M.upd _)).row
 have f:=(qa q).new (M.upd _)
 have H:=(qa P).new (M.upd _)
 have z:stOk O A 4 32 (qs (rdH s)).toArray=true:=qdf f.at_ (by rw[List.size_toArray,m.len f.len];omega) (by rw[List.size_toArray,qaj];exact qfl s) (by rw[Array.all_eq_true_iff_forall_mem];intro v hv;exact qon _ v (by simpa using hv))
 have C:MsB (O.setCells A 4 (qs (rdH s))) A {m with hash:=rdH s} := ⟨by rw[qa3 f.at_ 4 _,qvh m f.len _ (qfl s)],qfl s⟩
 have T:Upd (· = A) O (O.setCells A 4 (qs (rdH s))):=(Upd.refl _ _).setCells 4 _
 have Z:=qb (And.intro C (And.intro (H.upd T (fun e=>E e.symm)) (((qa R).trans (M.upd _)).trans (T.mono (fun k _ e=> .inl e)))))
 clear R q P M f H C T V
 go_wp2_with fail
 go_end0
 obtain⟨h1,h2,h3⟩:=qa Z
 exact⟨rfl,h3,h1,h2⟩
theorem qx2(A G:Nat)(m:MsgV)(s:ByteArray)(w:World)(M:MsB w A m)(I:Rd w G s)(N:A≠G)(O:s.size<32) :
  Calls Tryz.prog 175 #[qd0 G,.pointer (some ⟨A,0,none⟩)] w fun e w'=>qec 10 e∧Upd (fun k=>k=A∨k=G) w w':=by
 unfold qd0
 go_enter Tryz.func175,Tryz.ntmps175
 go_upto_region 2 with fail
 have q:qu w (w.alloc (.cells #[.pointer none,.pointer (some ⟨G,0,none⟩)] 234)):=(Upd.refl _ _).alloc _
 have p:=qh w (.cells #[.pointer none,.pointer (some ⟨G,0,none⟩)] 234)
 generalize w.alloc (.cells #[.pointer none,.pointer (some ⟨G,0,none⟩)] 234)=w1 at q p ⊢
 generalize w.heap.size=B at p ⊢
 have K:w1.cell? ⟨B,0,none⟩=some (.pointer none):=qg p 0
 have L:w1.cell? ⟨B,1,none⟩=some (.pointer (some ⟨G,0,none⟩)):=qg p 1
 have f:=qve G s w1 (I.new q) O
 have F:=qb q
 clear p M I q
 go_wp2_with fail
 refine f.mono ?_
 rintro e E ⟨rfl,J,v⟩
 obtain⟨z,i,C⟩:=qg0 E ze ql
 have H:=qb ((((qa F).mono (fun _ _ h=>h.elim)).trans (J.mono (fun k _ e=>(Or.inr e:k=A∨k=G)))).trans (C.mono (fun _ _ h=>h.elim)))
 clear f F J v K L
 go_upto_region 6 with fail
 change Code.wp _ _ _ _ (qif E ze)
 generalize qif E ze=P at i C H ⊢
 clear z i C
 go_wp2_with fail
 refine(qe8 10 (by decide) _).mono ?_
 rintro e R ⟨rfl,rfl⟩
 exact⟨rfl,rfl,qa H⟩
def qrl(x:Fld)(A G:Nat)(m:MsgV)(s:ByteArray)(w:World)(e:Ending)(w':World):Prop :=
 Upd (fun k=>k=A∨k=G) w w'∧((x.wid≤s.size∧e = .returned (.tuple #[])∧MsB w' A (x.get s m)∧Rd w' G (s.extract x.wid s.size))∨(s.size<x.wid∧qec 10 e))
theorem qpy(x:Fld)(base A G:Nat)(m:MsgV)(v:Value)(s:ByteArray)(w:World)(J:qhm base w v x)(z:MsB w A m)(H:Rd w G s)(f:A≠G) :
  ∃F I,v = .func (.func F) #[] I∧(∀args w,(callFunc F args).run Tryz.prog w = .ok (.enter F args) w)∧Calls Tryz.prog F (#[qd0 G,.pointer (some ⟨A,0,none⟩)]++I) w (qrl x A G m s w):=by
 have K:=z.len
 have M:0≤rdN s 2∧rdN s 2<65536:=qeg s 2
 have N:0≤rdN s 4∧rdN s 4<4294967296:=qeg s 4
 have ok:∀ {e w'},x.wid≤s.size→(e = .returned (.tuple #[])∧Upd (fun k=>k=A∨k=G) w w'∧MsB w' A (x.get s m)∧Rd w' G (s.extract x.wid s.size))→qrl x A G m s w e w':=fun i ⟨R,M,S,N⟩=>⟨M,.inl ⟨i,R,S,N⟩⟩
 have bad:∀ {e w'},s.size<x.wid→(qec 10 e∧Upd (fun k=>k=A∨k=G) w w')→qrl x A G m s w e w':=fun i ⟨R,M⟩=>⟨M,.inr ⟨i,R⟩⟩
 cases x with
 | ch =>
  obtain⟨p,q,rfl,O,P,C,E⟩:=J;refine⟨_,_,rfl,enters_of Tryz.func214 (by kernel_rfl) rfl,?_⟩;by_cases i:(4:Nat)≤s.size
  ·exact(q7j 203 1 A p q G 4 _ m _ s w (enters_of Tryz.func203 (by kernel_rfl) rfl) (qng A) C E z rfl H f (by decide) i N (q7q m _) K).mono fun e w' h=>ok i h
  ·exact(q2s 203 1 A p q G 4 _ m s w (enters_of Tryz.func203 (by kernel_rfl) rfl) (qng A) C E z rfl H f (by decide) (by omega)).mono fun e w' h=>bad (show s.size<4 by omega) h
 | id =>
  obtain⟨p,q,rfl,O,P,C,E⟩:=J;refine⟨_,_,rfl,enters_of Tryz.func200 (by kernel_rfl) rfl,?_⟩;by_cases i:(8:Nat)≤s.size
  ·exact(qva 169 2 A p q G 8 _ m _ s w (enters_of Tryz.func169 (by kernel_rfl) rfl) (qnc A) C E z rfl H f (by decide) i (q7r m _) K).mono fun e w' h=>ok i h
  ·exact(qq1 169 2 A p q G 8 _ m s w (enters_of Tryz.func169 (by kernel_rfl) rfl) (qnc A) C E z rfl H f (by decide) (by omega)).mono fun e w' h=>bad (show s.size<8 by omega) h
 | amount =>
  obtain⟨p,q,rfl,O,P,C,E⟩:=J;refine⟨_,_,rfl,enters_of Tryz.func200 (by kernel_rfl) rfl,?_⟩;by_cases i:(8:Nat)≤s.size
  ·exact(qva 170 3 A p q G 8 _ m _ s w (enters_of Tryz.func170 (by kernel_rfl) rfl) (qnd A) C E z rfl H f (by decide) i (qo5 m _) K).mono fun e w' h=>ok i h
  ·exact(qq1 170 3 A p q G 8 _ m s w (enters_of Tryz.func170 (by kernel_rfl) rfl) (qnd A) C E z rfl H f (by decide) (by omega)).mono fun e w' h=>bad (show s.size<8 by omega) h
 | expiry =>
  obtain⟨p,q,rfl,O,P,C,E⟩:=J;refine⟨_,_,rfl,enters_of Tryz.func201 (by kernel_rfl) rfl,?_⟩;have L:m.cells[36]? = some (.int .i64 m.expiry):=by
   have:=z.cells.2.2.2.2.1;rwa [qg z.at_,List.getElem?_toArray] at this
  by_cases i:(4:Nat)≤s.size
  ·exact(qu9 172 36 A p q G 4 _ m _ s w (enters_of Tryz.func172 (by kernel_rfl) rfl) (qne A) C E z L H f (by decide) i N (qo6 m K _) K).mono fun e w' h=>ok i h
  ·exact(qq0 172 36 A p q G 4 _ m s w (enters_of Tryz.func172 (by kernel_rfl) rfl) (qne A) C E z L H f (by decide) (by omega)).mono fun e w' h=>bad (show s.size<4 by omega) h
 | number =>
  obtain⟨p,q,rfl,O,P,C,E⟩:=J;refine⟨_,_,rfl,enters_of Tryz.func201 (by kernel_rfl) rfl,?_⟩;have L:m.cells[37]? = some (.int .i64 m.number):=by
   have:=z.cells.2.2.2.2.2.1;rwa [qg z.at_,List.getElem?_toArray] at this
  by_cases i:(2:Nat)≤s.size
  ·exact(qu9 173 37 A p q G 2 _ m _ s w (enters_of Tryz.func173 (by kernel_rfl) rfl) (qnf A) C E z L H f (by decide) i (by omega) (qo9 m K _) K).mono fun e w' h=>ok i h
  ·exact(qq0 173 37 A p q G 2 _ m s w (enters_of Tryz.func173 (by kernel_rfl) rfl) (qnf A) C E z L H f (by decide) (by omega)).mono fun e w' h=>bad (show s.size<2 by omega) h
 | hash =>
  have J:v=_:=J;subst J;refine⟨_,_,rfl,enters_of Tryz.func175 (by kernel_rfl) rfl,?_⟩;by_cases i:(32:Nat)≤s.size
  ·exact(q2q A G m s w z H f i).mono fun e w' h=>ok i h
  ·exact(qx2 A G m s w z H f (by omega)).mono fun e w' h=>bad (show s.size<32 by omega) h
theorem qs3(base A G:Nat)(v:Value)(xs:List Fld)(m:MsgV)(s:ByteArray)(w:World)(hv:FldsO base w v xs)(hA:MsB w A m)(hG:Rd w G s)(b5:A≠G)(c1:A<base)(c2:G<base)(c7:xs.length≤100) :
  Calls Tryz.prog 139 #[qd0 G,v,.pointer (some ⟨A,0,none⟩)] w fun e w'=>Upd (fun k=>k=A∨k=G) w w'∧((∃p r,qdt xs s m=some (p,r)∧e = .returned (.tuple #[])∧MsB w' A p∧Rd w' G r)∨(qdt xs s m=none∧qec 10 e)):=by
 obtain⟨vs,E,c5,W⟩:=hv
 obtain⟨va,c0,a7⟩:=zv E
 have q:∀(i:Nat) (u:Value),vs[i]? = some u→∃g,va=some ⟨g,0,none⟩∧base≤g∧w.cell? ⟨g,i,none⟩=some u:=by
  intro i u S;have a6:=(List.getElem?_eq_some_iff.1 S).1;rcases E.2 with ⟨e,e0⟩ | ⟨g,cap,b4,e,R,hg,_,_,hs,ht⟩
  ·omega
  ·rw[a7] at e;injection e with e1;refine⟨g,e1,R,?_⟩;rw[qg hg];have:b4.toList[i]? = some u:=by
    rw[←S,←ht,List.getElem?_take_of_lt (by omega)]
   rwa [Array.getElem?_toList] at this
 subst a7
 clear E
 have K:=qb q
 have a8:=qb W
 clear q W
 unfold qd0
 go_enter Tryz.func139,Tryz.ntmps139
 go_upto_region 1 with fail
 have n1:qu w (w.alloc (.cells #[.pointer none,.pointer (some ⟨G,0,none⟩)] 234)):=(Upd.refl _ _).alloc _
 have R:=qh w (.cells #[.pointer none,.pointer (some ⟨G,0,none⟩)] 234)
 have b7:=hG.lt
 have b6:=hA.lt
 generalize w.alloc (.cells #[.pointer none,.pointer (some ⟨G,0,none⟩)] 234)=w1 at n1 R ⊢
 have M:G≠w.heap.size∧A≠w.heap.size:=⟨by omega,by omega⟩
 generalize w.heap.size=B at R M ⊢
 have HB:=qb R
 have T:=qb (show ∃p r,qdt (xs.take 0) s m=some (p,r)∧MsB w1 A p∧Rd w1 G r from⟨m,s,rfl,hA.new n1,hG.new n1⟩)
 have N1:=qb n1
 have c6:(xs.length:Int)≤100:=by omega
 clear R hA hG n1 b7 b6
 go_wp2_with fail
 go_loopw [7,10] (fun _ iv wr=>∃i:Nat,iv = .int .i64 (i:Int)∧i≤xs.length∧Hid (∃p r,qdt (xs.take i) s m=some (p,r)∧MsB wr A p∧Rd wr G r)∧Upd (fun k=>k=A∨k=G) w1 wr) (fun _ iv _=>xs.length-(intOf iv).toNat)
 case atStart=>exact⟨0,rfl,Nat.zero_le _,T,Upd.refl _ _⟩
 case round =>
  obtain⟨i,rfl,hi,hM,O⟩:=hrel;obtain⟨P,rfl⟩:∃P:World,P=wr:=⟨_,rfl⟩;obtain⟨p,r,z,J,I⟩:=qa hM;clear T;by_cases a6:i<xs.length
  ·obtain⟨x,hx⟩:∃x,xs[i]? = some x:=⟨_,List.getElem?_eq_getElem a6⟩;obtain⟨u,S⟩:∃u,vs[i]? = some u:=⟨_,List.getElem?_eq_getElem (by omega)⟩;obtain⟨g,rfl,c3,hc⟩:=qa K i u S;have hf:=qa a8 i x u hx S;have Y:qhm base P u x:=(hf.new (qa N1)).upd O (fun k hk e=>by omega);have b8:P.cell? ⟨g,i,none⟩=some u:=O.cell ((qa N1).cell hc (fun h=>h)) (fun e=>e.elim (fun e=>by have e:g=A:=e;omega) (fun e=>by have e:g=G:=e;omega));have H:=O.old (qa HB) (fun e=>e.elim (fun e=>M.2 e.symm) (fun e=>M.1 e.symm));have rP:=qai H 2 rfl;have d0:P.cell? ⟨B,0,none⟩=some (.pointer none):=qg H 0;have d1:P.cell? ⟨B,1,none⟩=some (.pointer (some ⟨G,0,none⟩)):=qg H 1;obtain⟨F,b9,rfl,hE,f⟩:=qpy x base A G p u r P Y J I b5;have Z:=q06 hx z;have C:=fun(h:qdt (xs.take (i+1)) s m=none)=>(show qdt xs s m=none by rw[←List.take_append_drop (i+1) xs];exact q05 _ _ h)
   have L:=qb (And.intro Z C);have c4:(i:Int)<(xs.length:Int):=by omega
   unfold qd0 at f;clear hf Y hc H hx S Z C hM J I z;go_wp2_with fail;refine f.mono ?_;rintro e w3 ⟨u3,(⟨hs,rfl,V,U⟩ | ⟨hs,rfl⟩)⟩
   ·have N:=O.trans u3;have b3:Hid (∃p r,qdt (xs.take (i+1)) s m=some (p,r)∧MsB w3 A p∧Rd w3 G r):=qb ⟨_,_,by rw[(qa L).1,if_neg (by omega)],V,U⟩;clear f rP d0 d1 b8 hE V U u3 O hs;go_wp2_with fail;go_roundw
    case rel=>exact⟨i+1,by go_num,by omega,b3,N⟩
    case measure=>simp[intOf];omega
   ·have N:=O.trans u3;have X:qdt xs s m=none:=(qa L).2 (by rw[(qa L).1,if_pos hs]);exact⟨rfl,((qa N1).mono (fun _ _ h=>h.elim)).trans N,.inr ⟨X,rfl⟩⟩
  ·obtain rfl:i=xs.length:=by omega
   rw[List.take_length] at z;have HX:=qb (And.intro z (And.intro J I));clear hM J I z;go_wp2_with fail;go_end0;obtain⟨h1,h2,h3⟩:=qa HX;exact⟨((qa N1).mono (fun _ _ h=>h.elim)).trans O,.inl ⟨_,_,h1,rfl,h2,h3⟩⟩
end
section
open Go.RowKit
theorem q78(er:Int)(w:World):(taF (qsb er)).run Tryz.prog w = .ok (.tuple #[.agg #[.int .i64 er],.bool true]) w:=by
 unfold qsb taF;kernel_rfl
attribute [local go_sem ↓ high] qzr
attribute [local go_sem] q78
def qn6(er:Int)(b:Bool):FrameMode:= .panicking [{v:=qsb er,recovered:=b}]
theorem qym(E:Nat)(er:Int)(w:World)(F:w.heap[E]? = some (.cells #[.int .i64 0] 26 (0,0))) :
  CallsD Tryz.prog 165 #[.pointer (some ⟨E,0,none⟩)] (qn6 er false) w fun e H w'=>e = .returned (.tuple #[])∧H=qn6 er true∧∃w1,qu w w1∧w'=w1.setCell ⟨E,0,none⟩ (.int .i64 er):=by
 refine callsD_of_wpS Tryz.func165 rfl fun z cs q=> ?_
 unfold qn6 at q
 apply wpS_seq
 apply wpS_region
 simp[wpOpsS,go_sem,recoverD,q,Tryz.ntmps165,Exit.thenS]
 have m:qu w (w.alloc (.cells #[.int .i64 er] 265)):=(Upd.refl _ _).alloc _
 have i:=qh w (.cells #[.int .i64 er] 265)
 generalize w.alloc (.cells #[.int .i64 er] 265)=w1 at m i ⊢
 have f:=m.old F (fun h=>h)
 have v:w1.cell? ⟨E,0,none⟩=some (.int .i64 0):=qg f 0
 have C:w1.frozen? ⟨E,0,none⟩=false:=qo f 0
 have p:w1.cell? ⟨w.heap.size,0,none⟩=some (.int .i64 er):=qg i 0
 generalize w.heap.size=B at i p ⊢
 apply wpS_seq
 apply wpS_region
 simp[wpOpsS,go_sem,Exit.thenS]
 refine wpS_cond (t:=true) (by simp[Act.eval,Array.replicate]) ?_
 simp only[if_true]
 apply wpS_region
 simp[wpOpsS,go_sem,p,v,C]
 cases z
 simp[bodyPostS,results,Tryz.results165,qn6]
 exact⟨w1,m,rfl⟩
def q8p(f:World→Prop)(D:Int→World→Prop)(e:Ending)(w':World):Prop:=(e = .returned (.tuple #[])∧f w')∨∃er:Int,(er != 0)=true∧qec er e∧D er w'
theorem zag(b n base:Nat)(F:Nat→FuncId)(p:Nat→Array Value)(T:Nat→Prop)(C:Nat→World→Prop)(D:Int→World→Prop)(w:World)(hn:n≤100)
  (z:qys w b n F p) (hT:∀k,T k→k<base) (hb:base≤b) (b3:base≤w.heap.size) (b7:b<w.heap.size)
  (N:∀w',qu w w'→C 0 w') (U:∀w w',C n w→Upd (fun k=>base≤k) w w'→C n w') (b6:∀er w w',D er w→Upd (fun k=>base≤k) w w'→D er w')
  (hs:∀i,i<n→∀w',C i w'→(∀args w,(callFunc (F i) args).run Tryz.prog w = .ok (.enter (F i) args) w)∧Calls Tryz.prog (F i) (p i) w' fun e v=>Upd T w' v∧q8p (C (i+1)) D e v) :
  Calls Tryz.prog 132 #[.slice (some ⟨b,0,none⟩) n n] w fun e w'=>Upd T w w'∧((e = .returned (.int .i64 0)∧C n w')∨∃er:Int,(er != 0)=true∧e = .returned (.int .i64 er)∧D er w'):=by
 have b9:∀(fn:Fn) (first cap:Array Value) (w:World),(Instr.makeFunc fn first cap).run Tryz.prog w = .ok (.func fn first cap) w:=fun _ _ _ _=>rfl
 have c1:(n:Int)≤100:=by omega
 go_enter_defers Tryz.func132,Tryz.ntmps132
 go_upto_region 1 with fail
 have W:qu w (w.alloc (.cells #[.int .i64 0] 26)):=(Upd.refl _ _).alloc _
 have m:=qh w (.cells #[.int .i64 0] 26)
 have h1:C 0 (w.alloc (.cells #[.int .i64 0] 26)):=N _ W
 generalize w.alloc (.cells #[.int .i64 0] 26)=w1 at W m h1 ⊢
 have J:base≤w.heap.size∧b≠w.heap.size:=⟨b3,by omega⟩
 generalize P:w.heap.size=E at m J ⊢
 have M:=qb P
 clear P
 have HE:=qb m
 have H1:=qb h1
 have HR:=qb z
 have Y:=qb W
 clear m h1 z W N
 go_wp2_with fail
 go_loopw [8] (fun iv wr=>∃i:Nat,iv = .int .i64 (i:Int)∧i≤n∧Hid (C i wr)∧Upd T w1 wr) (fun iv _=>n-(intOf iv).toNat)
 case atStart=>exact⟨0,rfl,Nat.zero_le _,H1,Upd.refl _ _⟩
 case round =>
  obtain⟨i,rfl,hi,hC,u⟩:=hrel;obtain⟨H,rfl⟩:∃H:World,H=wr:=⟨_,rfl⟩;by_cases K:i<n
  ·have b8:(i:Int)<(n:Int):=by omega
   obtain⟨b4,q⟩:=hs i K H (qa hC);have hc:=u.cell ((qa Y).cell (qa HR i K) (fun h=>h)) (fun h=>by have h:T b:=h;have:=hT b h;omega);generalize F i=Fi at *
   generalize p i=ci at *
   clear hC;go_wp2_with fail;refine q.mono ?_;rintro e w3 ⟨u3,S⟩;have u4:=u.trans u3;rcases S with ⟨rfl,I⟩ | ⟨er,b5,rfl,hD⟩
   ·have I:=qb I;clear hc b4 q u u3;go_wp2_with fail;go_roundw
    case rel=>exact⟨i+1,by go_num,K,I,u4⟩
    case measure=>simp[intOf];omega
   ·have m:=u4.old (qa HE) (fun h=>by have h:T E:=h;have:=hT E h;omega);have hz:=qa M;refine leaves_cons (f:=165) (args:=#[.pointer (some ⟨E,0,none⟩)]) (by simp) (by simp[go_sem]) ?_;refine(qym E er w3 m).mono ?_;rintro e u' v ⟨rfl,rfl,X,n5,rfl⟩;have R:=zt (n5.old m (fun h=>h)) 0 (.int .i64 er);have L:Upd (fun k=>k=E) w3 (X.setCell ⟨E,0,none⟩ (.int .i64 er)):=(n5.mono (fun _ _ h=>h.elim)).set1 _ _;have O:=b6 _ _ _ hD (L.mono (fun k _ e=>by rw[e];exact J.1));have V:Upd T w (X.setCell ⟨E,0,none⟩ (.int .i64 er)):=(((qa Y).mono (fun _ _ h=>h.elim)).trans u4).then L (fun k hk e=>by omega);generalize X.setCell ⟨E,0,none⟩ (.int .i64 er)=w6 at R L O V ⊢;have Z:w6.cell? ⟨E,0,none⟩=some (.int .i64 er):=qg R 0;simp[Go.Leaves,settle,qn6,results,Tryz.results132,go_sem,Z];exact⟨V,.inr ⟨er,by simpa using b5,rfl,O⟩⟩
  ·obtain rfl:i=n:=by omega
   have m:=u.old (qa HE) (fun h=>by have h:T E:=h;have:=hT E h;omega);have a8:=m;have f0:=qo m 0;have c0:=qg m 0;have hU:=qb u;clear u m;go_wp2_with fail;have L:Upd (fun k=>k=E) H (H.setCell ⟨E,0,none⟩ (.int .i64 0)):=(Upd.refl _ _).set1 _ _;have c5:(H.setCell ⟨E,0,none⟩ (.int .i64 0)).cell? ⟨E,0,none⟩=some (.int .i64 0):=qg (zt (a8) 0 (.int .i64 0)) 0;have a6:=U _ _ (qa hC) (L.mono (fun k _ e=>by rw[e];exact J.1));have V:Upd T w (H.setCell ⟨E,0,none⟩ (.int .i64 0)):=(((qa Y).mono (fun _ _ h=>h.elim)).trans (qa hU)).then L (fun k hk e=>by have:=qa M;omega);generalize H.setCell ⟨E,0,none⟩ (.int .i64 0)=X at *
   refine leaves_cons (f:=165) (args:=#[.pointer (some ⟨E,0,none⟩)]) (by simp) (by simp[go_sem]) ?_;refine(qvu ⟨E,0,none⟩ _).mono ?_;rintro e u' v ⟨rfl,rfl,n⟩;have Z:=n.cell c5 (fun h=>h);have a7:=U _ _ a6 (n.mono (fun _ _ h=>h.elim));have U6:Upd T w v:=V.trans (n.mono (fun _ _ h=>h.elim));refine⟨.int .i64 0,?_,U6,.inl ⟨rfl,a7⟩⟩;simp[results,Tryz.results132,go_sem,Z]
end
section
open Go.RowKit
attribute [local go_sem ↓ high] qy qz zb
attribute [local go_sem] qas qat qax qv
theorem q98(s:ByteArray):rdN s 1=bt s 0:=by
 show 0*256+bt s 0=_;omega
theorem q7s(m:MsgV)(k:Int):m.cells.toArray.setIfInBounds 0 (.int .i64 k)=({m with kind:=k} : MsgV).cells.toArray:=rfl
def AtR(w:World)(p g:Nat):Prop:=w.cell? ⟨p,0,none⟩=some (.pointer (some ⟨g,0,none⟩))
theorem q4z(M A G:Nat)(s:ByteArray)(w:World)(N:AtR w M G)(I:MsB w A MsgV.zero)(F:Rd w G s)(v:A≠G) :
  Calls Tryz.prog 133 #[.pointer (some ⟨M,0,none⟩),.pointer (some ⟨A,0,none⟩)] w fun e w'=>Upd (fun k=>k=A∨k=G) w w'∧((s.size≠0∧e = .returned (.tuple #[])∧MsB w' A (qa9 (bt s 0))∧Rd w' G (s.extract 1 s.size))∨(s.size=0∧qec 10 e)):=by
 have W:=qfe s 0
 by_cases O:s.size=0
 ·have m:=qh6 G 1 s w F (by decide) (by decide) (by omega);unfold AtR at N;clear I F;go_enter Tryz.func133,Tryz.ntmps133;go_wp2_with fail;refine m.mono ?_;rintro e w1 ⟨rfl,p,-⟩;have E:=qb (p.mono (fun k _ e=>(Or.inr e:k=A∨k=G)));clear m p;go_wp2_with fail;refine(qe8 10 (by decide) _).mono ?_;rintro e C ⟨rfl,rfl⟩;exact⟨rfl,qa E,.inr ⟨O,rfl⟩⟩
 ·have m:=qno G 1 s w F (by decide) (by decide) (by omega);rw[q98] at m;have U:IntKind.i64.wrap (bt s 0)=bt s 0:=qhl (by omega) (by omega);unfold AtR at N;have K:=qb I;clear I F;go_enter Tryz.func133,Tryz.ntmps133;go_wp2_with fail;refine m.mono ?_;rintro e w1 ⟨rfl,p,z⟩;have E:=qb (p.mono (fun k _ e=>(Or.inr e:k=A∨k=G)));have q:=qb ((qa K).upd p v);have L:=qb z;clear m p z K;go_wp2_with fail;refine(qe1 _).mono ?_;rintro e C ⟨rfl,H⟩;have f:=(qa q).new (H.upd _);have V:C.cell? ⟨A,0,none⟩=some (.int .i64 0):=f.cells.1;have f2:C.frozen? ⟨A,0,none⟩=false:=qo f.at_ 0;have i:=zt f.at_ 0 (.int .i64 (bt s 0));rw[q7s] at i;have J:Upd (· = A) C (C.setCell ⟨A,0,none⟩ (.int .i64 (bt s 0))):=(Upd.refl _ _).set1 _ _;have P:=qb (And.intro (show MsB _ A (qa9 (bt s 0)) from⟨i,ql⟩) (And.intro (((qa L).new (H.upd _)).upd J (fun e=>v e.symm)) (((qa E).trans (H.upd _)).trans (J.mono (fun k _ e=> .inl e)))));clear i J f H E L q;go_wp2_with fail;go_end0;obtain⟨R,S,T⟩:=qa P;exact⟨T,.inl ⟨O,rfl,R,S⟩⟩
theorem q40(A L:Nat)(k:Int)(v0:Value)(w:World)(I:MsB w A (qa9 k))(C:w.heap[L]? = some (.cells #[v0] 226 (0,0))) :
  Calls Tryz.prog 136 #[.pointer (some ⟨A,0,none⟩),.pointer (some ⟨L,0,none⟩)] w fun e w'=>Upd (fun k=>k=L) w w'∧((∃xs v,fieldsOf k=some xs∧e = .returned (.tuple #[])∧w'.cell? ⟨L,0,none⟩=some v∧FldsO w.heap.size w' v xs)∨(fieldsOf k=none∧qec 70 e)):=by
 have V:w.cell? ⟨A,0,none⟩=some (.int .i64 k):=I.cells.1
 have U:=zr C
 cases J:fieldsOf k with
 | none =>
  have q:=qmg k J w;unfold qbw at q;have H:=qb C;clear I C;go_enter Tryz.func136,Tryz.ntmps136;go_wp2_with fail;refine q.mono ?_;rintro e w1 ⟨rfl,p⟩;have f:=p.old (qa H) (fun h=>h);have P:=qg f 0;have f1:=qo f 0;have z:Upd (fun k=>k=L) w (w1.setCell ⟨L,0,none⟩ (.slice none 0 0)):=(p.mono (fun _ _ h=>h.elim)).set1 _ _;have O:=qb z;clear q p f z;go_wp2_with fail;refine(qe8 70 (by decide) _).mono ?_;rintro e Y ⟨rfl,rfl⟩;exact⟨rfl,qa O,.inr ⟨by trivial,rfl⟩⟩
 | some xs =>
  have q:=qj6 k xs J w;have H:=qb C;clear I C;go_enter Tryz.func136,Tryz.ntmps136;go_wp2_with fail;refine q.mono ?_;rintro e w1 ⟨v,rfl,p,m⟩;obtain⟨K,M,rfl⟩:∃a c,v = .slice a xs.length c:=by
   obtain⟨X,F,-⟩:=m;exact zv F
  have f:=p.old (qa H) (fun h=>h);have P:=qg f 0;have f1:=qo f 0;have E:=zt f 0 (.slice K xs.length M);have z:Upd (fun k=>k=L) w1 (w1.setCell ⟨L,0,none⟩ (.slice K xs.length M)):=(Upd.refl _ _).set1 _ _;have N:=qb (And.intro ((p.mono (fun _ _ h=>h.elim)).trans z) (And.intro E (m.upd z (fun i W e=>by omega))));clear q p f z E m;go_wp2_with fail;go_end0;obtain⟨R,S,T⟩:=qa N;exact⟨R,.inl ⟨_,_,rfl,rfl,qg S 0,T⟩⟩
theorem q41(base J L A G:Nat)(v:Value)(xs:List Fld)(m:MsgV)(s:ByteArray)(w:World)(U:AtR w J G)(V:w.cell? ⟨L,0,none⟩=some v)(E:FldsO base w v xs)(K:MsB w A m)(M:Rd w G s)(i:A≠G)(p:A<base)(q:G<base)(F:xs.length≤100) :
  Calls Tryz.prog 138 #[.pointer (some ⟨J,0,none⟩),.pointer (some ⟨L,0,none⟩),.pointer (some ⟨A,0,none⟩)] w fun e w'=>Upd (fun k=>k=A∨k=G) w w'∧((∃H r,qdt xs s m=some (H,r)∧e = .returned (.tuple #[])∧MsB w' A H∧Rd w' G r)∨(qdt xs s m=none∧qec 10 e)):=by
 obtain⟨W,X,rfl⟩:∃a c,v = .slice a xs.length c:=by
  obtain⟨Y,f,-⟩:=E;exact zv f
 have z:=qs3 base A G _ xs m s w E K M i p q F
 unfold qd0 at z
 unfold AtR at U
 clear E K M
 go_enter Tryz.func138,Tryz.ntmps138
 go_wp2_with fail
 refine z.mono ?_
 rintro e w1 ⟨I,(⟨H,r,C,rfl,N,O⟩ | ⟨C,rfl⟩)⟩
 ·have P:=qb (And.intro I (And.intro N O));clear z I N O;go_wp2_with fail;go_end0;obtain⟨R,S,T⟩:=qa P;exact⟨R,.inl ⟨_,_,C,rfl,S,T⟩⟩
 ·exact⟨rfl,I,.inr ⟨C,rfl⟩⟩
theorem q42(v G:Nat)(s:ByteArray)(w:World)(E:AtR w v G)(m:Rd w G s) :
  Calls Tryz.prog 140 #[.pointer (some ⟨v,0,none⟩)] w fun e w'=>qu w w'∧((s.size=0∧e = .returned (.tuple #[]))∨(s.size≠0∧qec 11 e)):=by
 unfold AtR at E
 by_cases q:s.size=0
 ·have f:=zbz G s w m q;clear m;go_enter Tryz.func140,Tryz.ntmps140;go_wp2_with fail;refine f.mono ?_;rintro e w1 ⟨rfl,i⟩;have p:=qb (i.upd (fun _=>False));clear f i;go_wp2_with fail;refine(qe1 _).mono ?_;rintro e F ⟨rfl,z⟩;have C:=qb ((qa p).trans (z.upd _));clear z;go_wp2_with fail;go_end0;exact⟨qa C,.inl ⟨q,rfl⟩⟩
 ·have f:=q5a G s w m (by omega);clear m;go_enter Tryz.func140,Tryz.ntmps140;go_wp2_with fail;refine f.mono ?_;rintro e w1 ⟨rfl,i⟩;have p:=qb (i.upd (fun _=>False));clear f i;go_wp2_with fail;refine(qe8 11 (by decide) _).mono ?_;rintro e F ⟨rfl,rfl⟩;exact⟨rfl,qa p,.inr ⟨q,rfl⟩⟩
theorem q43(A:Nat)(m:MsgV)(w:World)(q:MsB w A m)(v:MsgOk m) :
  Calls Tryz.prog 142 #[.pointer (some ⟨A,0,none⟩)] w fun e w'=>qu w w'∧((qaf m=true∧e = .returned (.tuple #[]))∨(qaf m=false∧qec 1 e)):=by
 have z:=q.row
 have f:=qh2 m v w
 clear q v
 cases i:qaf m with
 | true =>
  rw[i] at f;clear i;go_enter Tryz.func142,Tryz.ntmps142;go_wp2_with fail;refine f.mono ?_;rintro e w1 ⟨rfl,p⟩;clear f z;go_wp2_with fail;go_end0;exact⟨p,.inl ⟨by trivial,rfl⟩⟩
 | false =>
  rw[i] at f;clear i;go_enter Tryz.func142,Tryz.ntmps142;go_wp2_with fail;refine f.mono ?_;rintro e w1 ⟨rfl,p⟩;clear f z;go_wp2_with fail;refine(qe8 1 (by decide) _).mono ?_;rintro e C ⟨rfl,rfl⟩;exact⟨rfl,p,.inr ⟨by trivial,rfl⟩⟩
end
section
open Go.RowKit
def q9b(w0:World)(A L G:Nat)(v0:Value)(s:ByteArray)(i:Nat)(a:World):Prop :=
 (i<5→Upd (fun k=>k=A∨k=G∨k=L) w0 a) ∧
 (if i=0 then MsB a A MsgV.zero∧Rd a G s∧a.heap[L]? = some (.cells #[v0] 226 (0,0))
 else if i=1 then s.size≠0∧MsB a A (qa9 (bt s 0))∧Rd a G (s.extract 1 s.size)∧a.heap[L]? = some (.cells #[v0] 226 (0,0))
 else if i=2 then s.size≠0∧MsB a A (qa9 (bt s 0))∧Rd a G (s.extract 1 s.size)∧∃xs v base,w0.heap.size≤base∧fieldsOf (bt s 0)=some xs∧a.cell? ⟨L,0,none⟩=some v∧FldsO base a v xs
 else ∃xs m r,s.size≠0∧fieldsOf (bt s 0)=some xs∧qdt xs (s.extract 1 s.size) (qa9 (bt s 0))=some (m,r)∧MsB a A m∧Rd a G r∧(4≤i→r.size=0)∧(5≤i→qaf m=true))
def zby(i:Nat):Nat:=if i=0 then 133 else if i=1 then 136 else if i=2 then 138 else if i=3 then 140 else 142
def qr8(f A L:Nat)(i:Nat):Array Value :=
 if i=0 then #[.pointer (some ⟨f,0,none⟩),.pointer (some ⟨A,0,none⟩)] else if i=1 then #[.pointer (some ⟨A,0,none⟩),.pointer (some ⟨L,0,none⟩)] else if i=2 then #[.pointer (some ⟨f,0,none⟩),.pointer (some ⟨L,0,none⟩),.pointer (some ⟨A,0,none⟩)] else if i=3 then #[.pointer (some ⟨f,0,none⟩)] else #[.pointer (some ⟨A,0,none⟩)]
theorem q0n(F A L G b:Nat)(s:ByteArray)(v0:Value)(w:World)(hR:AtR w F G)(hA:MsB w A MsgV.zero)(hG:Rd w G s)(hL:w.heap[L]? = some (.cells #[v0] 226 (0,0)))(V:qys w b 5 zby (qr8 F A L))(S:A≠G)(T:A≠L)(U:G≠L)(O:F≠A∧F≠G∧F≠L)(hb:A<b∧G<b∧L<b)(X:b<w.heap.size) :
  Calls Tryz.prog 132 #[.slice (some ⟨b,0,none⟩) 5 5] w fun e w'=>Upd (fun k=>k=A∨k=G∨k=L) w w'∧((e = .returned (.int .i64 0)∧q9b w A L G v0 s 5 w')∨∃er:Int,(er != 0)=true∧e = .returned (.int .i64 er)∧qco s=(MsgV.zero,er)):=by
 have hz:=hA.lt
 have a7:=qfe s 0
 have Z:∀w1 w2:World,q9b w A L G v0 s 5 w1→Upd (fun k=>b≤k) w1 w2→q9b w A L G v0 s 5 w2:=by
  rintro w1 w2 ⟨-,xs,m,r,f,p,q,z,E,I,W⟩ u2;exact⟨fun h=>absurd h (by decide),xs,m,r,f,p,q,z.upd u2 (by omega),E.upd u2 (by omega),I,W⟩
 refine zag b 5 b zby (qr8 F A L) (fun k=>k=A∨k=G∨k=L) (q9b w A L G v0 s) (fun er _=>qco s=(MsgV.zero,er)) w (by decide) V (fun k hk=>by omega) (Nat.le_refl _) (by omega) X ?_ Z (fun _ _ _ h _=>h) ?_
 ·intro w' n;exact⟨fun _=>n.mono (fun _ _ h=>h.elim),hA.new n,hG.new n,n.old hL (fun h=>h)⟩
 ·intro i hi a M;obtain⟨u0,M⟩:=M;have u:=u0 hi;clear u0;have P:AtR a F G:=u.cell hR (fun e=>e.elim O.1 (fun e=>e.elim O.2.1 O.2.2));have R:∀ {K:World},Upd (fun k=>k=A∨k=G) a K→Upd (fun k=>k=A∨k=G∨k=L) a K:=fun h=>h.mono (fun k _ e=>e.elim .inl (fun e=> .inr (.inl e)))
  rcases (by omega:i=0∨i=1∨i=2∨i=3∨i=4) with rfl | rfl | rfl | rfl | rfl
  ·refine⟨enters_of Tryz.func133 (by kernel_rfl) rfl,?_⟩;obtain⟨z,E,N⟩:MsB a A MsgV.zero∧Rd a G s∧a.heap[L]? = some (.cells #[v0] 226 (0,0)):=M;refine(q4z F A G s a P z E S).mono ?_;rintro e K ⟨C,(⟨f,rfl,p,q⟩ | ⟨f,J⟩)⟩
   ·exact⟨R C,.inl ⟨rfl,fun _=>u.trans (R C),f,p,q,C.old N (fun e=>e.elim (fun e=>T e.symm) (fun e=>U e.symm))⟩⟩
   ·exact⟨R C,.inr ⟨10,by decide,J,q0l f⟩⟩
  ·refine⟨enters_of Tryz.func136 (by kernel_rfl) rfl,?_⟩;obtain⟨f,z,E,N⟩:s.size≠0∧MsB a A (qa9 (bt s 0))∧Rd a G (s.extract 1 s.size)∧a.heap[L]? = some (.cells #[v0] 226 (0,0)):=M;refine(q40 A L (bt s 0) v0 a z N).mono ?_;rintro e K ⟨C,(⟨xs,v,p,rfl,q,H⟩ | ⟨p,J⟩)⟩
   ·have uu:Upd (fun k=>k=A∨k=G∨k=L) a K:=C.mono (fun k _ e=> .inr (.inr e));exact⟨uu,.inl ⟨rfl,fun _=>u.trans uu,f,z.upd C T,E.upd C U,xs,v,_,u.size,p,q,H⟩⟩
   ·exact⟨C.mono (fun k _ e=> .inr (.inr e)),.inr ⟨70,by decide,J,q45 f p⟩⟩
  ·refine⟨enters_of Tryz.func138 (by kernel_rfl) rfl,?_⟩;obtain⟨f,z,E,xs,v,base,a6,p,q,H⟩:s.size≠0∧MsB a A (qa9 (bt s 0))∧Rd a G (s.extract 1 s.size)∧∃xs v base,w.heap.size≤base∧fieldsOf (bt s 0)=some xs∧a.cell? ⟨L,0,none⟩=some v∧FldsO base a v xs:=M;refine(q41 base F L A G v xs _ _ a P q H z E S (by omega) (by omega) (qhx p)).mono ?_;rintro e K ⟨C,(⟨m,r,I,rfl,W,h6⟩ | ⟨I,J⟩)⟩
   ·exact⟨R C,.inl ⟨rfl,fun _=>u.trans (R C),xs,m,r,f,p,I,W,h6,fun h=>absurd h (by decide),fun h=>absurd h (by decide)⟩⟩
   ·exact⟨R C,.inr ⟨10,by decide,J,q0m f p I⟩⟩
  ·refine⟨enters_of Tryz.func140 (by kernel_rfl) rfl,?_⟩;obtain⟨xs,m,r,f,p,q,z,E,-,-⟩:∃xs m r,s.size≠0∧fieldsOf (bt s 0)=some xs∧qdt xs (s.extract 1 s.size) (qa9 (bt s 0))=some (m,r)∧MsB a A m∧Rd a G r∧(4≤3→r.size=0)∧(5≤3→qaf m=true):=M;refine(q42 F G r a P E).mono ?_;rintro e K ⟨n,(⟨H,rfl⟩ | ⟨H,J⟩)⟩
   ·exact⟨n.mono (fun _ _ h=>h.elim),.inl ⟨rfl,fun _=>u.trans (n.mono (fun _ _ h=>h.elim)),xs,m,r,f,p,q,z.new n,E.new n,fun _=>H,fun h=>absurd h (by decide)⟩⟩
   ·exact⟨n.mono (fun _ _ h=>h.elim),.inr ⟨11,by decide,J,q46 f p q H⟩⟩
  ·refine⟨enters_of Tryz.func142 (by kernel_rfl) rfl,?_⟩;obtain⟨xs,m,r,f,p,q,z,E,H,-⟩:∃xs m r,s.size≠0∧fieldsOf (bt s 0)=some xs∧qdt xs (s.extract 1 s.size) (qa9 (bt s 0))=some (m,r)∧MsB a A m∧Rd a G r∧(4≤4→r.size=0)∧(5≤4→qaf m=true):=M;have Y:=(qnh xs _ _ (qf3 ⟨by omega,by omega⟩) q).1;refine(q43 A m a z Y).mono ?_;rintro e K ⟨n,(⟨I,rfl⟩ | ⟨I,J⟩)⟩
   ·exact⟨n.mono (fun _ _ h=>h.elim),.inl ⟨rfl,fun h=>absurd h (by decide),xs,m,r,f,p,q,z.new n,E.new n,fun _=>H (by decide),fun _=>I⟩⟩
   ·exact⟨n.mono (fun _ _ h=>h.elim),.inr ⟨1,by decide,J,q9e f p q (H (by decide)) I⟩⟩
attribute [local go_sem ↓ high] qy qz zb zf
attribute [local go_sem] qas qat qax qv zx
theorem qn9(s:ByteArray)(w:World):Calls Tryz.prog 105 #[.string s] w (qa1 (.tuple #[.agg (qco s).1.cells.toArray,.int .i64 (qco s).2]) w):=by
 have a7:∀(fn:Fn) (first cap:Array Value) (w:World),(Instr.makeFunc fn first cap).run Tryz.prog w = .ok (.func fn first cap) w:=fun _ _ _ _=>rfl
 go_enter Tryz.func105,Tryz.ntmps105;go_upto_region 3 with fail;obtain⟨C,z⟩:∃C,C=((w.alloc (.cells MsgV.zero.cells.toArray 101)).alloc (.cells MsgV.zero.cells.toArray 101)).alloc (.cells #[.slice none 0 0] 226):=⟨_,rfl⟩;have n3:qu w C:=by rw[z];exact(((Upd.refl _ _).alloc _).alloc _).alloc _
 have z3:C.heap.size=w.heap.size+3:=by rw[z];simp only[World.size_alloc]
 have F:C.heap[w.heap.size+1+1]? = some (.cells #[.slice none 0 0] 226 (0,0)):=by
  rw[z];have:=qh ((w.alloc (.cells MsgV.zero.cells.toArray 101)).alloc (.cells MsgV.zero.cells.toArray 101)) (.cells #[.slice none 0 0] 226);rwa [World.size_alloc,World.size_alloc] at this
 have E:MsB C (w.heap.size+1) MsgV.zero:=by
  rw[z];have:=qh (w.alloc (.cells MsgV.zero.cells.toArray 101)) (.cells MsgV.zero.cells.toArray 101);rw[World.size_alloc] at this;exact⟨qq this _,ql⟩
 have H:MsB C w.heap.size MsgV.zero:=by
  rw[z];exact⟨qq (qq (qh _ _) _) _,ql⟩
 rw[←z];clear z;generalize hZ:w.heap.size=Z at *
 have HZ:=qb (And.intro hZ z3);have H3:=qb (And.intro n3 (And.intro F (And.intro E H)));clear hZ z3 n3 F E H;go_wp2_with fail;refine(q2b s C).mono ?_;rintro e N ⟨rfl,S,n4,z4⟩;have H4:=qb (And.intro S (And.intro n4 z4));clear S n4 z4;go_upto_region 4 with fail;have W:=qh N (.cells #[.pointer (some ⟨C.heap.size,0,none⟩)] 227);have n5:qu N (N.alloc (.cells #[.pointer (some ⟨C.heap.size,0,none⟩)] 227)):=(Upd.refl _ _).alloc _;have z5:(N.alloc (.cells #[.pointer (some ⟨C.heap.size,0,none⟩)] 227)).heap.size=N.heap.size+1:=World.size_alloc _ _;generalize N.alloc (.cells #[.pointer (some ⟨C.heap.size,0,none⟩)] 227)=J at W n5 z5 ⊢;obtain⟨hz,z3⟩:=qa HZ;obtain⟨n3,F,E,H⟩:=qa H3;obtain⟨S,n4,z4⟩:=qa H4;have R:N.heap.size=Z+1+1+1+1:=by omega
 have P:C.heap.size=Z+1+1+1:=by omega
 have X:J.heap.size=Z+5:=by omega
 rw[R] at W ⊢;rw[P] at W S;have O:=qh J (.cells #[.func (.func 133) #[] #[.pointer (some ⟨Z+1+1+1+1,0,none⟩),.pointer (some ⟨Z+1,0,none⟩)],.func (.func 136) #[] #[.pointer (some ⟨Z+1,0,none⟩),.pointer (some ⟨Z+1+1,0,none⟩)],.func (.func 138) #[] #[.pointer (some ⟨Z+1+1+1+1,0,none⟩),.pointer (some ⟨Z+1+1,0,none⟩),.pointer (some ⟨Z+1,0,none⟩)],.func (.func 140) #[] #[.pointer (some ⟨Z+1+1+1+1,0,none⟩)],.func (.func 142) #[] #[.pointer (some ⟨Z+1,0,none⟩)]] 1);have n6:qu J (J.alloc (.cells #[.func (.func 133) #[] #[.pointer (some ⟨Z+1+1+1+1,0,none⟩),.pointer (some ⟨Z+1,0,none⟩)],.func (.func 136) #[] #[.pointer (some ⟨Z+1,0,none⟩),.pointer (some ⟨Z+1+1,0,none⟩)],.func (.func 138) #[] #[.pointer (some ⟨Z+1+1+1+1,0,none⟩),.pointer (some ⟨Z+1+1,0,none⟩),.pointer (some ⟨Z+1,0,none⟩)],.func (.func 140) #[] #[.pointer (some ⟨Z+1+1+1+1,0,none⟩)],.func (.func 142) #[] #[.pointer (some ⟨Z+1,0,none⟩)]] 1)):=(Upd.refl _ _).alloc _;have z6:(J.alloc (.cells #[.func (.func 133) #[] #[.pointer (some ⟨Z+1+1+1+1,0,none⟩),.pointer (some ⟨Z+1,0,none⟩)],.func (.func 136) #[] #[.pointer (some ⟨Z+1,0,none⟩),.pointer (some ⟨Z+1+1,0,none⟩)],.func (.func 138) #[] #[.pointer (some ⟨Z+1+1+1+1,0,none⟩),.pointer (some ⟨Z+1+1,0,none⟩),.pointer (some ⟨Z+1,0,none⟩)],.func (.func 140) #[] #[.pointer (some ⟨Z+1+1+1+1,0,none⟩)],.func (.func 142) #[] #[.pointer (some ⟨Z+1,0,none⟩)]] 1)).heap.size=J.heap.size+1:=World.size_alloc _ _;have M:=n5.trans n6
 have I:=n4.trans M;have K:qys (J.alloc (.cells #[.func (.func 133) #[] #[.pointer (some ⟨Z+1+1+1+1,0,none⟩),.pointer (some ⟨Z+1,0,none⟩)],.func (.func 136) #[] #[.pointer (some ⟨Z+1,0,none⟩),.pointer (some ⟨Z+1+1,0,none⟩)],.func (.func 138) #[] #[.pointer (some ⟨Z+1+1+1+1,0,none⟩),.pointer (some ⟨Z+1+1,0,none⟩),.pointer (some ⟨Z+1,0,none⟩)],.func (.func 140) #[] #[.pointer (some ⟨Z+1+1+1+1,0,none⟩)],.func (.func 142) #[] #[.pointer (some ⟨Z+1,0,none⟩)]] 1)) J.heap.size 5 zby (qr8 (Z+1+1+1+1) (Z+1) (Z+1+1)):=by
  intro i hi;rcases (by omega:i=0∨i=1∨i=2∨i=3∨i=4) with rfl | rfl | rfl | rfl | rfl
  ·exact qg O 0
  ·exact qg O 1
  ·exact qg O 2
  ·exact qg O 3
  ·exact qg O 4
 have f:=q0n (Z+1+1+1+1) (Z+1) (Z+1+1) (Z+1+1+1) J.heap.size s (.slice none 0 0) (J.alloc (.cells #[.func (.func 133) #[] #[.pointer (some ⟨Z+1+1+1+1,0,none⟩),.pointer (some ⟨Z+1,0,none⟩)],.func (.func 136) #[] #[.pointer (some ⟨Z+1,0,none⟩),.pointer (some ⟨Z+1+1,0,none⟩)],.func (.func 138) #[] #[.pointer (some ⟨Z+1+1+1+1,0,none⟩),.pointer (some ⟨Z+1+1,0,none⟩),.pointer (some ⟨Z+1,0,none⟩)],.func (.func 140) #[] #[.pointer (some ⟨Z+1+1+1+1,0,none⟩)],.func (.func 142) #[] #[.pointer (some ⟨Z+1,0,none⟩)]] 1)) (n6.cell (qg W 0) (fun h=>h)) (E.new I) (S.new M) (I.old F (fun h=>h)) K (by omega) (by omega) (by omega) ⟨by omega,by omega,by omega⟩ ⟨by omega,by omega,by omega⟩ (by omega);have L:=qb (And.intro (H.new I) (n3.trans I));have HE:=qb (And.intro hz (And.intro P (And.intro R (And.intro X (And.intro z6 ((qa L).2.size))))));have f:=qb f;clear W n5 z5 F E H S n4 n3 O n6 M I K z4 hz z3 P R X z6;go_wp2_with fail;refine(qa f).mono ?_;obtain⟨Y,P,R,X,z6,zM⟩:=qa HE;rintro e U ⟨T,(⟨rfl,hC⟩ | ⟨er,a6,rfl,hd⟩)⟩
 ·obtain⟨-,xs,m,r,h0,h1,h2,hM,-,h3,h4⟩:=hC;have hd:=qy2 h0 h1 h2 (h3 (by decide)) (h4 (by decide));have q:=(qa L).1.upd T (by omega);have V:qu w U:=(qa L).2.then T (fun k hk e=>by omega);have rA:=hM.row;have v:=hM.len;have st:=q.stOk v;have p:=q.put v;have u8:Upd (· = Z) U (U.setCells Z 0 m.cells):=qx _;have HX:=qb (And.intro p (V.then u8 (fun k hk e=>by omega)));have HD:=qb hd;clear f hd h0 h1 h2 hM h3 h4 q V p u8 T L H3 H4 HZ Y P R X z6 zM;go_wp2_with fail;obtain⟨p,N8⟩:=qa HX;refine bodyPost_ret (qw rfl _ _ Z _ _ _ _ rfl p.at_ Tryz.underlying101 rfl (by rw[List.size_toArray,MsgV.len _ v];exact Tryz.infoMsg)) rfl ?_;exact⟨by rw[qa HD];rfl,N8⟩
 ·have q:=(qa L).1.upd T (by omega);have V:qu w U:=(qa L).2.then T (fun k hk e=>by omega);have v:MsgV.zero.hash.length=32:=ql;have st:=q.stOk v;have p:=q.put v;have u8:Upd (· = Z) U (U.setCells Z 0 MsgV.zero.cells):=qx _;have HX:=qb (And.intro p (V.then u8 (fun k hk e=>by omega)));have HD:=qb hd;clear f hd q V p u8 T L H3 H4 HZ Y P R X z6 zM;go_wp2_with fail;obtain⟨p,N8⟩:=qa HX;refine bodyPost_ret (qw rfl _ _ Z _ _ _ _ rfl p.at_ Tryz.underlying101 rfl (by rw[List.size_toArray,MsgV.len _ v];exact Tryz.infoMsg)) rfl ?_;exact⟨by rw[qa HD];rfl,N8⟩
end
section
open Go.RowKit
theorem q44(s:ByteArray):(qco s).1.hash.length=32:=by
 have f:=qfe s 0;unfold qco;split
 ·exact ql
 ·split
  ·exact ql
  ·split
   ·exact ql
   ·rename_i h;split
    ·exact ql
    ·split
     ·exact(qnh _ _ _ (qf3 ⟨by omega,by omega⟩) h).1.len
     ·exact ql
attribute [local go_sem ↓ high] qy qz zb zf
attribute [local go_sem] qas qat qax qv
theorem q1s(g:Nat)(f:ByteArray)(w:World)(J:((qco f).2 != 0)=true) :
  Calls Tryz.prog 65 #[.pointer (some ⟨g,0,none⟩),.string f] w fun e w'=>e = .returned (.int .i64 (qco f).2)∧qu w w':=by
 have K:∀(E:Fn) (first cap:Array Value) (w:World),(Instr.makeFunc E first cap).run Tryz.prog w = .ok (.func E first cap) w:=fun _ _ _ _=>rfl
 have F:=fun W=>qn9 f W
 have q:=q44 f
 generalize (qco f).2=er at *
 generalize (qco f).1=m at *
 go_enter Tryz.func65,Tryz.ntmps65
 go_upto_region 1 with fail
 have v:qu w (w.alloc (.cells #[.pointer (some ⟨g,0,none⟩)] 28)):=(Upd.refl _ _).alloc _
 generalize w.alloc (.cells #[.pointer (some ⟨g,0,none⟩)] 28)=w0 at v ⊢
 generalize w.heap.size=L
 have z:=qb v
 clear v
 go_wp2_with fail
 refine(F w0).mono ?_
 rintro e w1 ⟨rfl,H⟩
 obtain⟨i,p,I⟩:=qi3 w1 m q
 have C:=qb (((qa z).trans H).trans I)
 clear H F z I p
 go_upto_region 2 with fail
 change Code.wp _ _ _ _ (qjz w1 m)
 generalize qjz w1 m=N at C ⊢
 generalize w1.heap.size=M at i ⊢
 clear i
 go_wp2_with fail
 go_ret
 exact⟨rfl,qa C⟩
end
end Go.Proofs.YtfmkdoachjgjbaaGreatDoor
