/-
  Package octet: the reader's Hash.
-/
import Derived.Test.YtfmkdoachjgjbaaGreatDoorMdc
import Derived.Test.YtfmkdoachjgjbaaGreatDoorMbf
import Derived.Lib.LazyBuf
import Derived.Test.YtfmkdoachjgjbaaGreatDoorMcf
set_option maxRecDepth 100000
set_option maxHeartbeats 2000000
set_option linter.unusedVariables false
set_option linter.unusedSimpArgs false
namespace Go.Proofs.YtfmkdoachjgjbaaGreatDoor
section
open Go.RowKit
attribute [local go_sem ↓ high] zl qag qaj qar
attribute [local go_sem] qbl qcl qcn qdm qx
theorem q67(g:Nat)(s:ByteArray)(w:World)(h:Rd w g s)(hs:32≤s.size) :
  Calls Tryz.prog 204 #[.pointer (some ⟨g,0,none⟩)] w fun e w'=>e = .returned (.tuple #[.agg (qu (rdH s)).toArray,.int .i64 0])∧Upd (fun k=>k=g) w w'∧Rd w' g (s.extract 32 s.size):=by
 have d2:∀(fn:Fn) (first cap:Array Value) (w:World),(Instr.makeFunc fn first cap).run Tryz.prog w = .ok (.func fn first cap) w:=fun _ _ _ _=>rfl
 have d1:=h.lt
 go_enter_defers Tryz.func204,Tryz.ntmps204
 go_upto_region 1 with fail
 have n0:qq w (w.alloc (.cells (qu zg).toArray 35)):=(Upd.refl _ _).alloc _
 have S:=qj w (.cells (qu zg).toArray 35)
 have z0:(w.alloc (.cells (qu zg).toArray 35)).heap.size=w.heap.size+1:=World.size_alloc _ _
 have Y:=h.new n0
 generalize w.alloc (.cells (qu zg).toArray 35)=w0 at n0 S z0 Y ⊢
 have n1:qq w0 (w0.alloc (.cells #[.int .i64 0] 26)):=(Upd.refl _ _).alloc _
 have hE:=qj w0 (.cells #[.int .i64 0] 26)
 replace S:=n1.old S (fun h=>h)
 replace Y:=Y.new n1
 rw[z0] at hE
 generalize w0.alloc (.cells #[.int .i64 0] 26)=w1 at n1 hE S Y ⊢
 have J:g≠w.heap.size:=by omega
 have H:g≠w.heap.size+1:=by omega
 have m:w.heap.size≠w.heap.size+1:=by omega
 obtain⟨A,V⟩:∃A,A=w.heap.size:=⟨_,rfl⟩
 obtain⟨E,X⟩:∃E,E=A+1:=⟨_,rfl⟩
 rw[←V] at S hE J H m ⊢
 rw[←X] at hE H m ⊢
 have c2:=qb (And.intro V X)
 have HA:=qb S
 have b3:=qb hE
 have N1:=qb (n0.trans n1)
 clear V X hE S n0 n1 h z0
 go_wp2_with fail
 refine(qkl g E s w1 Y).mono ?_
 rintro e w2 ⟨p,q,r,rfl,n2,hB,N,O,R⟩
 have HB:=qb (And.intro hB (And.intro N (And.intro O R)))
 have b5:=n2.old (qa b3) (fun h=>h)
 have b4:=n2.old (qa HA) (fun h=>h)
 have Z:=Y.new n2
 have N2:=qb ((qa N1).trans n2)
 have d0:=zr (qa b3)
 clear hB Y N O R n2
 go_wp2_with fail
 refine(qzt g 32 s w2 Z hs).mono ?_
 rintro e w3 ⟨rfl,rfl⟩
 have a6:=Z.set (s.extract 32 s.size)
 have K:Upd (fun k=>k=g) w2 (w2.setCell ⟨g,0,none⟩ (.string (s.extract 32 s.size))):=(Upd.refl _ _).set1 _ _
 have C:=K.old b5 (fun e=>H e.symm)
 have T:=K.old b4 (fun e=>J e.symm)
 generalize w2.setCell ⟨g,0,none⟩ (.string (s.extract 32 s.size))=w3 at a6 K C T ⊢
 have c3:=qg C 0
 have f3:=qv C 0
 have F:=qad C 0 (.int .i64 0)
 have M:Upd (fun k=>k=E) w3 (w3.setCell ⟨E,0,none⟩ (.int .i64 0)):=(Upd.refl _ _).set1 _ _
 have i:=M.old T m
 have a7:=qw8 s hs
 have c0:(s.extract 0 32).size=32:=by rw[ByteArray.size_extract];omega
 generalize s.extract 0 32=x at c0 a7 ⊢
 have HU:=qb (And.intro K (And.intro M (And.intro F i)))
 have HR:=qb a6
 clear b5 Z a6 K C M F b4 T i
 go_upto_region 3 with fail
 generalize w3.setCell ⟨E,0,none⟩ (.int .i64 0)=w4 at HU ⊢
 have c4:w4.cell? ⟨E,0,none⟩=some (.int .i64 0):=qg (qa HU).2.2.1 0
 clear c3 f3
 obtain⟨K,M,F,i⟩:=qa HU
 have b8:∀j,j<x.size→(w4.cell? ⟨A,0+j,none⟩).isSome=true:=fun j hj=>by
  rw[Nat.zero_add,qg i j,List.getElem?_toArray,List.getElem?_eq_getElem (by rw[qal,qm];omega)];rfl
 have b9:∀j,j<x.size→w4.frozen? ⟨A,0+j,none⟩=false:=fun j hj=>qv i _
 have z:=(HsB.mk i qm).put (rdH s) (qfq s)
 have u5:Upd (· = A) w4 (w4.setCells A 0 (qu (rdH s))):=zc _
 have W:=u5.old F (fun e=>m e.symm)
 have c1:=run_copy_string (P:=Tryz.prog) w4 95 9 3 5 A 0 32 32 x Tryz.underlying95 (fun w=>by kernel_rfl) (by omega) b8 b9
 rw[a7] at c1
 clear K M F i
 go_upto_region 6 with fail
 generalize w4.setCells A 0 (qu (rdH s))=L at z u5 W ⊢
 have rA:=z.row
 have d6:=z.stOk (rdH s) (qfq s)
 have I:=z.put (rdH s) (qfq s)
 have u6:Upd (· = A) L (L.setCells A 0 (qu (rdH s))):=zc _
 have v:=u6.old W (fun e=>m e.symm)
 have e6:(L.setCells A 0 (qu (rdH s))).cell? ⟨E,0,none⟩=some (.int .i64 0):=qg v 0
 have f6:(L.setCells A 0 (qu (rdH s))).frozen? ⟨E,0,none⟩=false:=qv v 0
 have HV:=qb (And.intro u5 (And.intro u6 (And.intro I v)))
 clear b8 b9 z u5 W I u6 v c4 a7 c0
 go_wp2_with fail
 obtain⟨u5,u6,I,v⟩:=qa HV
 obtain⟨K,M,-,-⟩:=qa HU
 obtain⟨hB,N,O,R⟩:=qa HB
 obtain⟨d3,d4⟩:=qa c2
 have c9:=zr (qa HA)
 have b6:=qad v 0 (.int .i64 0)
 have u7:Upd (· = E) (L.setCells A 0 (qu (rdH s))) ((L.setCells A 0 (qu (rdH s))).setCell ⟨E,0,none⟩ (.int .i64 0)):=(Upd.refl _ _).set1 _ _
 have U:=I.upd u7 m
 have b7:Rd ((L.setCells A 0 (qu (rdH s))).setCell ⟨E,0,none⟩ (.int .i64 0)) g (s.extract 32 s.size):=((((qa HR).upd M H).upd u5 J).upd u6 J).upd u7 H
 have a8:Upd (fun k=>k=g∨k=A∨k=E) w2 ((L.setCells A 0 (qu (rdH s))).setCell ⟨E,0,none⟩ (.int .i64 0)):=((((K.mono (fun k _ e=>(Or.inl e:k=g∨k=A∨k=E))).trans (M.mono (fun k _ e=> .inr (.inr e)))).trans (u5.mono (fun k _ e=> .inr (.inl e)))).trans (u6.mono (fun k _ e=> .inr (.inl e)))).trans (u7.mono (fun k _ e=> .inr (.inr e)))
 generalize (L.setCells A 0 (qu (rdH s))).setCell ⟨E,0,none⟩ (.int .i64 0)=w7 at b6 U b7 a8 ⊢
 have c7:w7.cell? ⟨E,0,none⟩=some (.int .i64 0):=qg b6 0
 have d5:=U.row
 have c5:=hB.upd a8 (by omega) (by omega) (by omega)
 have hU:Upd (fun k=>k=g) w w7:=((qa N2).mono (fun _ _ h=>h.elim)).then a8 (fun k hk e=>by omega)
 refine leaves_cons (f:=199) (args:=#[.pointer (some ⟨p,0,none⟩),.pointer (some ⟨q,0,none⟩),.pointer (some ⟨r,0,none⟩)]) (by simp) (by simp[go_sem]) ?_
 refine(qp5 g E p q r s _ w7 c5 c7).mono ?_
 rintro e u' d7 ⟨rfl,rfl,rfl⟩
 have c8:=run_loadVar_row (P:=Tryz.prog) w7 A 35 35 (qu (rdH s)).toArray (0,0) _ U.at_ Tryz.underlying35 rfl (by rw[List.size_toArray,qal,qfq];exact Tryz.infoHsh)
 refine⟨.tuple #[.agg (qu (rdH s)).toArray,.int .i64 0],?_,rfl,hU,b7⟩
 have c6:(loadVar 26 ⟨E,0,none⟩).run Tryz.prog w7 = .ok (.int .i64 0) w7:=by
  simp[go_sem,loadVar,c7]
 simp[results,Tryz.results204,asAddr,c8,c6,Result.andThen]
theorem qvd(g:Nat)(s:ByteArray)(w:World)(h:Rd w g s)(hs:s.size<32) :
  Calls Tryz.prog 204 #[.pointer (some ⟨g,0,none⟩)] w fun e w'=>e = .returned (.tuple #[.agg (qu zg).toArray,.int .i64 10])∧Upd (fun k=>k=g) w w'∧Rd w' g s:=by
 have d1:∀(fn:Fn) (first cap:Array Value) (w:World),(Instr.makeFunc fn first cap).run Tryz.prog w = .ok (.func fn first cap) w:=fun _ _ _ _=>rfl
 have d0:=h.lt
 go_enter_defers Tryz.func204,Tryz.ntmps204
 go_upto_region 1 with fail
 have n0:qq w (w.alloc (.cells (qu zg).toArray 35)):=(Upd.refl _ _).alloc _
 have N:=qj w (.cells (qu zg).toArray 35)
 have z0:(w.alloc (.cells (qu zg).toArray 35)).heap.size=w.heap.size+1:=World.size_alloc _ _
 have S:=h.new n0
 generalize w.alloc (.cells (qu zg).toArray 35)=w0 at n0 N z0 S ⊢
 have n1:qq w0 (w0.alloc (.cells #[.int .i64 0] 26)):=(Upd.refl _ _).alloc _
 have X:=qj w0 (.cells #[.int .i64 0] 26)
 replace N:=n1.old N (fun h=>h)
 replace S:=S.new n1
 rw[z0] at X
 generalize w0.alloc (.cells #[.int .i64 0] 26)=w1 at n1 X N S ⊢
 have V:g≠w.heap.size:=by omega
 have C:g≠w.heap.size+1:=by omega
 have z:w.heap.size≠w.heap.size+1:=by omega
 obtain⟨A,O⟩:∃A,A=w.heap.size:=⟨_,rfl⟩
 obtain⟨E,R⟩:∃E,E=A+1:=⟨_,rfl⟩
 rw[←O] at N X V C z ⊢
 rw[←R] at X C z ⊢
 have c0:=qb (And.intro O R)
 have HA:=qb N
 have a6:=qb X
 have N1:=qb (n0.trans n1)
 clear O R X N n0 n1 h z0
 go_wp2_with fail
 refine(qkl g E s w1 S).mono ?_
 rintro e w2 ⟨p,q,r,rfl,n2,hB,K,L,M⟩
 have HB:=qb (And.intro hB (And.intro K (And.intro L M)))
 have b6:=n2.old (qa a6) (fun h=>h)
 have a7:=n2.old (qa HA) (fun h=>h)
 have T:=S.new n2
 have N2:=qb ((qa N1).trans n2)
 have c9:=zr (qa a6)
 clear hB S K L M n2
 go_wp2_with fail
 refine(qpj g 32 s w2 T hs).mono ?_
 rintro e w3 ⟨rfl,q3⟩
 have b8:=T.new (q3.upd _)
 have I:=q3.old b6
 have a8:=q3.old a7
 have c3:=qg I 0
 have f3:=qv I 0
 have i:=qad I 0 (.int .i64 10)
 have J:Upd (fun k=>k=E) w3 (w3.setCell ⟨E,0,none⟩ (.int .i64 10)):=(Upd.refl _ _).set1 _ _
 have HU:=qb (And.intro (q3.upd (fun _=>False)) (And.intro J (And.intro i (J.old a8 z))))
 have HR:=qb b8
 clear b6 T b8 q3 I J i a7 a8
 go_upto_region 3 with fail
 generalize w3.setCell ⟨E,0,none⟩ (.int .i64 10)=F at HU ⊢
 obtain⟨u3,J,i,b3⟩:=qa HU
 have c4:F.cell? ⟨E,0,none⟩=some (.int .i64 10):=qg i 0
 have v:=HsB.mk b3 qm
 have d4:=v.stOk zg qm
 have H:=v.put zg qm
 have Y:Upd (· = A) F (F.setCells A 0 (qu zg)):=zc _
 have m:=Y.old i (fun e=>z e.symm)
 have e5:(F.setCells A 0 (qu zg)).cell? ⟨E,0,none⟩=some (.int .i64 10):=qg m 0
 have f5:(F.setCells A 0 (qu zg)).frozen? ⟨E,0,none⟩=false:=qv m 0
 have HV:=qb (And.intro Y (And.intro H m))
 clear u3 J i b3 v H Y m c3 f3
 go_wp2_with fail
 obtain⟨Y,H,m⟩:=qa HV
 obtain⟨u3,J,-,-⟩:=qa HU
 obtain⟨hB,K,L,M⟩:=qa HB
 obtain⟨d2,d3⟩:=qa c0
 have c6:=zr (qa HA)
 have b7:=qad m 0 (.int .i64 10)
 have u7:Upd (· = E) (F.setCells A 0 (qu zg)) ((F.setCells A 0 (qu zg)).setCell ⟨E,0,none⟩ (.int .i64 10)):=(Upd.refl _ _).set1 _ _
 have b4:=H.upd u7 z
 have U:Rd ((F.setCells A 0 (qu zg)).setCell ⟨E,0,none⟩ (.int .i64 10)) g s:=((((qa HR).upd J C).upd Y V)).upd u7 C
 have W:Upd (fun k=>k=g∨k=A∨k=E) w2 ((F.setCells A 0 (qu zg)).setCell ⟨E,0,none⟩ (.int .i64 10)):=(((u3.mono (fun _ _ h=>h.elim)).trans (J.mono (fun k _ e=>(.inr (.inr e):k=g∨k=A∨k=E)))).trans (Y.mono (fun k _ e=> .inr (.inl e)))).trans (u7.mono (fun k _ e=> .inr (.inr e)))
 generalize (F.setCells A 0 (qu zg)).setCell ⟨E,0,none⟩ (.int .i64 10)=Z at b7 b4 U W ⊢
 have c7:Z.cell? ⟨E,0,none⟩=some (.int .i64 10):=qg b7 0
 have c1:=hB.upd W (by omega) (by omega) (by omega)
 have u8:Upd (fun k=>k=g) Z (Z.setCell ⟨g,0,none⟩ (.string s)):=(Upd.refl _ _).set1 _ _
 have hU:Upd (fun k=>k=g) w (Z.setCell ⟨g,0,none⟩ (.string s)):=(((qa N2).mono (fun _ _ h=>h.elim)).then W (fun k hk e=>by omega)).trans u8
 have b5:=b4.upd u8 (fun e=>V e.symm)
 have c8:=u8.cell c7 (fun e=>C e.symm)
 have b9:=U.set s
 refine leaves_cons (f:=199) (args:=#[.pointer (some ⟨p,0,none⟩),.pointer (some ⟨q,0,none⟩),.pointer (some ⟨r,0,none⟩)]) (by simp) (by simp[go_sem]) ?_
 refine(qth g E p q r s s 10 _ Z c1 c7 (by decide) U).mono ?_
 rintro e u' d5 ⟨rfl,rfl,rfl⟩
 generalize Z.setCell ⟨g,0,none⟩ (.string s)=w8 at hU b5 c8 b9 ⊢
 have c5:=run_loadVar_row (P:=Tryz.prog) w8 A 35 35 (qu zg).toArray (0,0) _ b5.at_ Tryz.underlying35 rfl (by rw[List.size_toArray,qal,qm];exact Tryz.infoHsh)
 refine⟨.tuple #[.agg (qu zg).toArray,.int .i64 10],?_,rfl,hU,b9⟩
 have c2:(loadVar 26 ⟨E,0,none⟩).run Tryz.prog w8 = .ok (.int .i64 10) w8:=by
  simp[go_sem,loadVar,c8]
 simp[results,Tryz.results204,asAddr,c5,c2,Result.andThen]
end
section
open Go.RowKit
attribute [local go_sem ↓ high] zl qag qaj qar
attribute [local go_sem] qbl qcl qcn qdm qx
theorem q2m(A G:Nat)(m:MsgV)(s:ByteArray)(w:World)(X:MsB w A m)(Y:Rd w G s)(E:A≠G)(hs:32≤s.size) :
  Calls Tryz.prog 175 #[qdz G,.pointer (some ⟨A,0,none⟩)] w fun e w'=>e = .returned (.tuple #[])∧Upd (fun k=>k=A∨k=G) w w'∧MsB w' A {m with hash:=rdH s} ∧ Rd w' G (s.extract 32 s.size):=by
 unfold qdz
 go_enter Tryz.func175,Tryz.ntmps175
 go_upto_region 2 with fail
 have J:qq w (w.alloc (.cells #[.pointer none,.pointer (some ⟨G,0,none⟩)] 234)):=(Upd.refl _ _).alloc _
 have I:=qj w (.cells #[.pointer none,.pointer (some ⟨G,0,none⟩)] 234)
 generalize w.alloc (.cells #[.pointer none,.pointer (some ⟨G,0,none⟩)] 234)=w1 at J I ⊢
 generalize w.heap.size=B at I ⊢
 have d0:w1.cell? ⟨B,0,none⟩=some (.pointer none):=qg I 0
 have d1:w1.cell? ⟨B,1,none⟩=some (.pointer (some ⟨G,0,none⟩)):=qg I 1
 have U:=qb (X.new J)
 have i:=q67 G s w1 (Y.new J) hs
 have W:=qb J
 clear I X Y J
 go_wp2_with fail
 refine i.mono ?_
 rintro e N ⟨rfl,S,F⟩
 obtain⟨z,q,L⟩:=qg6 N (rdH s) (qfq s)
 have R:=qb ((((qa W).mono (fun _ _ h=>h.elim)).trans (S.mono (fun k _ e=>(Or.inr e:k=A∨k=G)))).trans (L.mono (fun _ _ h=>h.elim)))
 have r:=qb (((qa U).upd S E).new L)
 have P:=qb (F.new L)
 clear i W S F U d0 d1
 go_upto_region 6 with fail
 change Code.wp _ _ _ _ (qij N (rdH s))
 generalize qij N (rdH s)=w4 at q L R r P ⊢
 generalize N.heap.size=K at q z ⊢
 have V:=qb q
 clear z q L
 go_wp2_with fail
 refine(qe3 _).mono ?_
 rintro e O ⟨rfl,M⟩
 have rK:=((qa V).new (M.upd _)).row
 have f:=(qa r).new (M.upd _)
 have H:=(qa P).new (M.upd _)
 have z:stOk O A 4 32 (qu (rdH s)).toArray=true:=qd0 f.at_ (by rw[List.size_toArray,m.len f.len];omega) (by rw[List.size_toArray,qal];exact qfq s) (by rw[Array.all_eq_true_iff_forall_mem];intro v hv;exact qor _ v (by simpa using hv))
 have C:MsB (O.setCells A 4 (qu (rdH s))) A {m with hash:=rdH s} := ⟨by rw[qba f.at_ 4 _,qvh m f.len _ (qfq s)],qfq s⟩
 have T:Upd (· = A) O (O.setCells A 4 (qu (rdH s))):=(Upd.refl _ _).setCells 4 _
 have Z:=qb (And.intro C (And.intro (H.upd T (fun e=>E e.symm)) (((qa R).trans (M.upd _)).trans (T.mono (fun k _ e=> .inl e)))))
 clear R r P M f H C T V
 go_wp2_with fail
 go_end0
 obtain⟨h1,h2,h3⟩:=qa Z
 exact⟨rfl,h3,h1,h2⟩
theorem qx8(A G:Nat)(m:MsgV)(s:ByteArray)(w:World)(M:MsB w A m)(I:Rd w G s)(N:A≠G)(O:s.size<32) :
  Calls Tryz.prog 175 #[qdz G,.pointer (some ⟨A,0,none⟩)] w fun e w'=>qeb 10 e∧Upd (fun k=>k=A∨k=G) w w':=by
 unfold qdz
 go_enter Tryz.func175,Tryz.ntmps175
 go_upto_region 2 with fail
 have r:qq w (w.alloc (.cells #[.pointer none,.pointer (some ⟨G,0,none⟩)] 234)):=(Upd.refl _ _).alloc _
 have q:=qj w (.cells #[.pointer none,.pointer (some ⟨G,0,none⟩)] 234)
 generalize w.alloc (.cells #[.pointer none,.pointer (some ⟨G,0,none⟩)] 234)=w1 at r q ⊢
 generalize w.heap.size=B at q ⊢
 have K:w1.cell? ⟨B,0,none⟩=some (.pointer none):=qg q 0
 have L:w1.cell? ⟨B,1,none⟩=some (.pointer (some ⟨G,0,none⟩)):=qg q 1
 have f:=qvd G s w1 (I.new r) O
 have F:=qb r
 clear q M I r
 go_wp2_with fail
 refine f.mono ?_
 rintro e E ⟨rfl,J,v⟩
 obtain⟨z,i,C⟩:=qg6 E zg qm
 have H:=qb ((((qa F).mono (fun _ _ h=>h.elim)).trans (J.mono (fun k _ e=>(Or.inr e:k=A∨k=G)))).trans (C.mono (fun _ _ h=>h.elim)))
 clear f F J v K L
 go_upto_region 6 with fail
 change Code.wp _ _ _ _ (qij E zg)
 generalize qij E zg=P at i C H ⊢
 clear z i C
 go_wp2_with fail
 refine(qfd 10 (by decide) _).mono ?_
 rintro e R ⟨rfl,rfl⟩
 exact⟨rfl,rfl,qa H⟩
def qrn(x:Fld)(A G:Nat)(m:MsgV)(s:ByteArray)(w:World)(e:Ending)(w':World):Prop :=
 Upd (fun k=>k=A∨k=G) w w'∧((x.wid≤s.size∧e = .returned (.tuple #[])∧MsB w' A (x.get s m)∧Rd w' G (s.extract x.wid s.size))∨(s.size<x.wid∧qeb 10 e))
theorem qpz(x:Fld)(base A G:Nat)(m:MsgV)(v:Value)(s:ByteArray)(w:World)(I:qhq base w v x)(r:MsB w A m)(E:Rd w G s)(f:A≠G) :
  ∃F H,v = .func (.func F) #[] H∧(∀args w,(callFunc F args).run Tryz.prog w = .ok (.enter F args) w)∧Calls Tryz.prog F (#[qdz G,.pointer (some ⟨A,0,none⟩)]++H) w (qrn x A G m s w):=by
 have J:=r.len
 have L:0≤rdN s 2∧rdN s 2<65536:=qei s 2
 have M:0≤rdN s 4∧rdN s 4<4294967296:=qei s 4
 have ok:∀ {e w'},x.wid≤s.size→(e = .returned (.tuple #[])∧Upd (fun k=>k=A∨k=G) w w'∧MsB w' A (x.get s m)∧Rd w' G (s.extract x.wid s.size))→qrn x A G m s w e w':=fun i ⟨P,L,R,M⟩=>⟨L,.inl ⟨i,P,R,M⟩⟩
 have bad:∀ {e w'},s.size<x.wid→(qeb 10 e∧Upd (fun k=>k=A∨k=G) w w')→qrn x A G m s w e w':=fun i ⟨P,L⟩=>⟨L,.inr ⟨i,P⟩⟩
 cases x with
 | ch =>
  obtain⟨p,q,rfl,N,O,z,C⟩:=I;refine⟨_,_,rfl,enters_of Tryz.func214 (by kernel_rfl) rfl,?_⟩;by_cases i:(4:Nat)≤s.size
  ·exact(q66 203 1 A p q G 4 _ m _ s w (enters_of Tryz.func203 (by kernel_rfl) rfl) (qno A) z C r rfl E f (by decide) i M (q7e m _) J).mono fun e w' h=>ok i h
  ·exact(q2o 203 1 A p q G 4 _ m s w (enters_of Tryz.func203 (by kernel_rfl) rfl) (qno A) z C r rfl E f (by decide) (by omega)).mono fun e w' h=>bad (show s.size<4 by omega) h
 | id =>
  obtain⟨p,q,rfl,N,O,z,C⟩:=I;refine⟨_,_,rfl,enters_of Tryz.func200 (by kernel_rfl) rfl,?_⟩;by_cases i:(8:Nat)≤s.size
  ·exact(qu9 169 2 A p q G 8 _ m _ s w (enters_of Tryz.func169 (by kernel_rfl) rfl) (qnk A) z C r rfl E f (by decide) i (q7f m _) J).mono fun e w' h=>ok i h
  ·exact(qq2 169 2 A p q G 8 _ m s w (enters_of Tryz.func169 (by kernel_rfl) rfl) (qnk A) z C r rfl E f (by decide) (by omega)).mono fun e w' h=>bad (show s.size<8 by omega) h
 | amount =>
  obtain⟨p,q,rfl,N,O,z,C⟩:=I;refine⟨_,_,rfl,enters_of Tryz.func200 (by kernel_rfl) rfl,?_⟩;by_cases i:(8:Nat)≤s.size
  ·exact(qu9 170 3 A p q G 8 _ m _ s w (enters_of Tryz.func170 (by kernel_rfl) rfl) (qnl A) z C r rfl E f (by decide) i (qpb m _) J).mono fun e w' h=>ok i h
  ·exact(qq2 170 3 A p q G 8 _ m s w (enters_of Tryz.func170 (by kernel_rfl) rfl) (qnl A) z C r rfl E f (by decide) (by omega)).mono fun e w' h=>bad (show s.size<8 by omega) h
 | expiry =>
  obtain⟨p,q,rfl,N,O,z,C⟩:=I;refine⟨_,_,rfl,enters_of Tryz.func201 (by kernel_rfl) rfl,?_⟩;have K:m.cells[36]? = some (.int .i64 m.expiry):=by
   have:=r.cells.2.2.2.2.1;rwa [qg r.at_,List.getElem?_toArray] at this
  by_cases i:(4:Nat)≤s.size
  ·exact(qu8 172 36 A p q G 4 _ m _ s w (enters_of Tryz.func172 (by kernel_rfl) rfl) (qnm A) z C r K E f (by decide) i M (qpc m J _) J).mono fun e w' h=>ok i h
  ·exact(qq1 172 36 A p q G 4 _ m s w (enters_of Tryz.func172 (by kernel_rfl) rfl) (qnm A) z C r K E f (by decide) (by omega)).mono fun e w' h=>bad (show s.size<4 by omega) h
 | number =>
  obtain⟨p,q,rfl,N,O,z,C⟩:=I;refine⟨_,_,rfl,enters_of Tryz.func201 (by kernel_rfl) rfl,?_⟩;have K:m.cells[37]? = some (.int .i64 m.number):=by
   have:=r.cells.2.2.2.2.2.1;rwa [qg r.at_,List.getElem?_toArray] at this
  by_cases i:(2:Nat)≤s.size
  ·exact(qu8 173 37 A p q G 2 _ m _ s w (enters_of Tryz.func173 (by kernel_rfl) rfl) (qnn A) z C r K E f (by decide) i (by omega) (qpe m J _) J).mono fun e w' h=>ok i h
  ·exact(qq1 173 37 A p q G 2 _ m s w (enters_of Tryz.func173 (by kernel_rfl) rfl) (qnn A) z C r K E f (by decide) (by omega)).mono fun e w' h=>bad (show s.size<2 by omega) h
 | hash =>
  have I:v=_:=I;subst I;refine⟨_,_,rfl,enters_of Tryz.func175 (by kernel_rfl) rfl,?_⟩;by_cases i:(32:Nat)≤s.size
  ·exact(q2m A G m s w r E f i).mono fun e w' h=>ok i h
  ·exact(qx8 A G m s w r E f (by omega)).mono fun e w' h=>bad (show s.size<32 by omega) h
theorem qs4(base A G:Nat)(v:Value)(xs:List Fld)(m:MsgV)(s:ByteArray)(w:World)(hv:FldsO base w v xs)(hA:MsB w A m)(hG:Rd w G s)(b6:A≠G)(c2:A<base)(c3:G<base)(c8:xs.length≤100) :
  Calls Tryz.prog 139 #[qdz G,v,.pointer (some ⟨A,0,none⟩)] w fun e w'=>Upd (fun k=>k=A∨k=G) w w'∧((∃q r,qdv xs s m=some (q,r)∧e = .returned (.tuple #[])∧MsB w' A q∧Rd w' G r)∨(qdv xs s m=none∧qeb 10 e)):=by
 obtain⟨vs,H,c6,X⟩:=hv
 obtain⟨va,c1,a8⟩:=qaf H
 have z:∀(i:Nat) (u:Value),vs[i]? = some u→∃g,va=some ⟨g,0,none⟩∧base≤g∧w.cell? ⟨g,i,none⟩=some u:=by
  intro i u T;have a7:=(List.getElem?_eq_some_iff.1 T).1;rcases H.2 with ⟨e,e0⟩ | ⟨g,cap,b5,e,S,hg,_,_,hs,ht⟩
  ·omega
  ·rw[a8] at e;injection e with e1;refine⟨g,e1,S,?_⟩;rw[qg hg];have:b5.toList[i]? = some u:=by
    rw[←T,←ht,List.getElem?_take_of_lt (by omega)]
   rwa [Array.getElem?_toList] at this
 subst a8
 clear H
 have L:=qb z
 have b3:=qb X
 clear z X
 unfold qdz
 go_enter Tryz.func139,Tryz.ntmps139
 go_upto_region 1 with fail
 have n1:qq w (w.alloc (.cells #[.pointer none,.pointer (some ⟨G,0,none⟩)] 234)):=(Upd.refl _ _).alloc _
 have S:=qj w (.cells #[.pointer none,.pointer (some ⟨G,0,none⟩)] 234)
 have b8:=hG.lt
 have b7:=hA.lt
 generalize w.alloc (.cells #[.pointer none,.pointer (some ⟨G,0,none⟩)] 234)=w1 at n1 S ⊢
 have N:G≠w.heap.size∧A≠w.heap.size:=⟨by omega,by omega⟩
 generalize w.heap.size=B at S N ⊢
 have HB:=qb S
 have U:=qb (show ∃q r,qdv (xs.take 0) s m=some (q,r)∧MsB w1 A q∧Rd w1 G r from⟨m,s,rfl,hA.new n1,hG.new n1⟩)
 have N1:=qb n1
 have c7:(xs.length:Int)≤100:=by omega
 clear S hA hG n1 b8 b7
 go_wp2_with fail
 go_loopw [7,10] (fun _ iv wr=>∃i:Nat,iv = .int .i64 (i:Int)∧i≤xs.length∧Hid (∃q r,qdv (xs.take i) s m=some (q,r)∧MsB wr A q∧Rd wr G r)∧Upd (fun k=>k=A∨k=G) w1 wr) (fun _ iv _=>xs.length-(intOf iv).toNat)
 case atStart=>exact⟨0,rfl,Nat.zero_le _,U,Upd.refl _ _⟩
 case round =>
  obtain⟨i,rfl,hi,hM,P⟩:=hrel;obtain⟨R,rfl⟩:∃R:World,R=wr:=⟨_,rfl⟩;obtain⟨q,r,C,K,J⟩:=qa hM;clear U;by_cases a7:i<xs.length
  ·obtain⟨x,hx⟩:∃x,xs[i]? = some x:=⟨_,List.getElem?_eq_getElem a7⟩;obtain⟨u,T⟩:∃u,vs[i]? = some u:=⟨_,List.getElem?_eq_getElem (by omega)⟩;obtain⟨g,rfl,c4,hc⟩:=qa L i u T;have hf:=qa b3 i x u hx T;have Z:qhq base R u x:=(hf.new (qa N1)).upd P (fun k hk e=>by omega);have b9:R.cell? ⟨g,i,none⟩=some u:=P.cell ((qa N1).cell hc (fun h=>h)) (fun e=>e.elim (fun e=>by have e:g=A:=e;omega) (fun e=>by have e:g=G:=e;omega));have I:=P.old (qa HB) (fun e=>e.elim (fun e=>N.2 e.symm) (fun e=>N.1 e.symm));have rP:=qas I 2 rfl;have d0:R.cell? ⟨B,0,none⟩=some (.pointer none):=qg I 0;have d1:R.cell? ⟨B,1,none⟩=some (.pointer (some ⟨G,0,none⟩)):=qg I 1;obtain⟨F,c0,rfl,hE,f⟩:=qpz x base A G q u r R Z K J b6;have a6:=q03 hx C;have E:=fun(h:qdv (xs.take (i+1)) s m=none)=>(show qdv xs s m=none by rw[←List.take_append_drop (i+1) xs];exact q02 _ _ h)
   have M:=qb (And.intro a6 E);have c5:(i:Int)<(xs.length:Int):=by omega
   unfold qdz at f;clear hf Z hc I hx T a6 E hM K J C;go_wp2_with fail;refine f.mono ?_;rintro e w3 ⟨u3,(⟨hs,rfl,W,V⟩ | ⟨hs,rfl⟩)⟩
   ·have O:=P.trans u3;have b4:Hid (∃q r,qdv (xs.take (i+1)) s m=some (q,r)∧MsB w3 A q∧Rd w3 G r):=qb ⟨_,_,by rw[(qa M).1,if_neg (by omega)],W,V⟩;clear f rP d0 d1 b9 hE W V u3 P hs;go_wp2_with fail;go_roundw
    case rel=>exact⟨i+1,by go_num,by omega,b4,O⟩
    case measure=>simp[intOf];omega
   ·have O:=P.trans u3;have Y:qdv xs s m=none:=(qa M).2 (by rw[(qa M).1,if_pos hs]);exact⟨rfl,((qa N1).mono (fun _ _ h=>h.elim)).trans O,.inr ⟨Y,rfl⟩⟩
  ·obtain rfl:i=xs.length:=by omega
   rw[List.take_length] at C;have HX:=qb (And.intro C (And.intro K J));clear hM K J C;go_wp2_with fail;go_end0;obtain⟨h1,h2,h3⟩:=qa HX;exact⟨((qa N1).mono (fun _ _ h=>h.elim)).trans P,.inl ⟨_,_,h1,rfl,h2,h3⟩⟩
end
section
open Go.RowKit
theorem q7v(er:Int)(w:World):(taF (qsc er)).run Tryz.prog w = .ok (.tuple #[.agg #[.int .i64 er],.bool true]) w:=by
 unfold qsc taF;kernel_rfl
attribute [local go_sem ↓ high] qzs
attribute [local go_sem] q7v
def qod(er:Int)(b:Bool):FrameMode:= .panicking [{v:=qsc er,recovered:=b}]
theorem qyr(E:Nat)(er:Int)(w:World)(F:w.heap[E]? = some (.cells #[.int .i64 0] 26 (0,0))) :
  CallsD Tryz.prog 165 #[.pointer (some ⟨E,0,none⟩)] (qod er false) w fun e H w'=>e = .returned (.tuple #[])∧H=qod er true∧∃w1,qq w w1∧w'=w1.setCell ⟨E,0,none⟩ (.int .i64 er):=by
 refine callsD_of_wpS Tryz.func165 rfl fun z cs r=> ?_
 unfold qod at r
 apply wpS_seq
 apply wpS_region
 simp[wpOpsS,go_sem,recoverD,r,Tryz.ntmps165,Exit.thenS]
 have m:qq w (w.alloc (.cells #[.int .i64 er] 265)):=(Upd.refl _ _).alloc _
 have i:=qj w (.cells #[.int .i64 er] 265)
 generalize w.alloc (.cells #[.int .i64 er] 265)=w1 at m i ⊢
 have f:=m.old F (fun h=>h)
 have v:w1.cell? ⟨E,0,none⟩=some (.int .i64 0):=qg f 0
 have C:w1.frozen? ⟨E,0,none⟩=false:=qv f 0
 have q:w1.cell? ⟨w.heap.size,0,none⟩=some (.int .i64 er):=qg i 0
 generalize w.heap.size=B at i q ⊢
 apply wpS_seq
 apply wpS_region
 simp[wpOpsS,go_sem,Exit.thenS]
 refine wpS_cond (t:=true) (by simp[Act.eval,Array.replicate]) ?_
 simp only[if_true]
 apply wpS_region
 simp[wpOpsS,go_sem,q,v,C]
 cases z
 simp[bodyPostS,results,Tryz.results165,qod]
 exact⟨w1,m,rfl⟩
def q8c(f:World→Prop)(D:Int→World→Prop)(e:Ending)(w':World):Prop:=(e = .returned (.tuple #[])∧f w')∨∃er:Int,(er != 0)=true∧qeb er e∧D er w'
theorem q91(b n base:Nat)(F:Nat→FuncId)(q:Nat→Array Value)(T:Nat→Prop)(C:Nat→World→Prop)(D:Int→World→Prop)(w:World)(hn:n≤100)
  (z:qyw w b n F q) (hT:∀k,T k→k<base) (hb:base≤b) (b3:base≤w.heap.size) (b7:b<w.heap.size)
  (N:∀w',qq w w'→C 0 w') (U:∀w w',C n w→Upd (fun k=>base≤k) w w'→C n w') (b6:∀er w w',D er w→Upd (fun k=>base≤k) w w'→D er w')
  (hs:∀i,i<n→∀w',C i w'→(∀args w,(callFunc (F i) args).run Tryz.prog w = .ok (.enter (F i) args) w)∧Calls Tryz.prog (F i) (q i) w' fun e v=>Upd T w' v∧q8c (C (i+1)) D e v) :
  Calls Tryz.prog 132 #[.slice (some ⟨b,0,none⟩) n n] w fun e w'=>Upd T w w'∧((e = .returned (.int .i64 0)∧C n w')∨∃er:Int,(er != 0)=true∧e = .returned (.int .i64 er)∧D er w'):=by
 have b9:∀(fn:Fn) (first cap:Array Value) (w:World),(Instr.makeFunc fn first cap).run Tryz.prog w = .ok (.func fn first cap) w:=fun _ _ _ _=>rfl
 have c1:(n:Int)≤100:=by omega
 go_enter_defers Tryz.func132,Tryz.ntmps132
 go_upto_region 1 with fail
 have W:qq w (w.alloc (.cells #[.int .i64 0] 26)):=(Upd.refl _ _).alloc _
 have m:=qj w (.cells #[.int .i64 0] 26)
 have h1:C 0 (w.alloc (.cells #[.int .i64 0] 26)):=N _ W
 generalize w.alloc (.cells #[.int .i64 0] 26)=w1 at W m h1 ⊢
 have J:base≤w.heap.size∧b≠w.heap.size:=⟨b3,by omega⟩
 generalize P:w.heap.size=E at m J ⊢
 have M:=qb P
 clear P
 have HE:=qb m
 have H1:=qb h1
 have HR:=qb z
 have Y:=qb W
 clear m h1 z W N
 go_wp2_with fail
 go_loopw [8] (fun iv wr=>∃i:Nat,iv = .int .i64 (i:Int)∧i≤n∧Hid (C i wr)∧Upd T w1 wr) (fun iv _=>n-(intOf iv).toNat)
 case atStart=>exact⟨0,rfl,Nat.zero_le _,H1,Upd.refl _ _⟩
 case round =>
  obtain⟨i,rfl,hi,hC,u⟩:=hrel;obtain⟨H,rfl⟩:∃H:World,H=wr:=⟨_,rfl⟩;by_cases K:i<n
  ·have b8:(i:Int)<(n:Int):=by omega
   obtain⟨b4,r⟩:=hs i K H (qa hC);have hc:=u.cell ((qa Y).cell (qa HR i K) (fun h=>h)) (fun h=>by have h:T b:=h;have:=hT b h;omega);generalize F i=Fi at *
   generalize q i=ci at *
   clear hC;go_wp2_with fail;refine r.mono ?_;rintro e w3 ⟨u3,S⟩;have u4:=u.trans u3;rcases S with ⟨rfl,I⟩ | ⟨er,b5,rfl,hD⟩
   ·have I:=qb I;clear hc b4 r u u3;go_wp2_with fail;go_roundw
    case rel=>exact⟨i+1,by go_num,K,I,u4⟩
    case measure=>simp[intOf];omega
   ·have m:=u4.old (qa HE) (fun h=>by have h:T E:=h;have:=hT E h;omega);have hz:=qa M;refine leaves_cons (f:=165) (args:=#[.pointer (some ⟨E,0,none⟩)]) (by simp) (by simp[go_sem]) ?_;refine(qyr E er w3 m).mono ?_;rintro e u' v ⟨rfl,rfl,X,n5,rfl⟩;have R:=qad (n5.old m (fun h=>h)) 0 (.int .i64 er);have L:Upd (fun k=>k=E) w3 (X.setCell ⟨E,0,none⟩ (.int .i64 er)):=(n5.mono (fun _ _ h=>h.elim)).set1 _ _;have O:=b6 _ _ _ hD (L.mono (fun k _ e=>by rw[e];exact J.1));have V:Upd T w (X.setCell ⟨E,0,none⟩ (.int .i64 er)):=(((qa Y).mono (fun _ _ h=>h.elim)).trans u4).then L (fun k hk e=>by omega);generalize X.setCell ⟨E,0,none⟩ (.int .i64 er)=w6 at R L O V ⊢;have Z:w6.cell? ⟨E,0,none⟩=some (.int .i64 er):=qg R 0;simp[Go.Leaves,settle,qod,results,Tryz.results132,go_sem,Z];exact⟨V,.inr ⟨er,by simpa using b5,rfl,O⟩⟩
  ·obtain rfl:i=n:=by omega
   have m:=u.old (qa HE) (fun h=>by have h:T E:=h;have:=hT E h;omega);have a8:=m;have f0:=qv m 0;have c0:=qg m 0;have hU:=qb u;clear u m;go_wp2_with fail;have L:Upd (fun k=>k=E) H (H.setCell ⟨E,0,none⟩ (.int .i64 0)):=(Upd.refl _ _).set1 _ _;have c5:(H.setCell ⟨E,0,none⟩ (.int .i64 0)).cell? ⟨E,0,none⟩=some (.int .i64 0):=qg (qad (a8) 0 (.int .i64 0)) 0;have a6:=U _ _ (qa hC) (L.mono (fun k _ e=>by rw[e];exact J.1));have V:Upd T w (H.setCell ⟨E,0,none⟩ (.int .i64 0)):=(((qa Y).mono (fun _ _ h=>h.elim)).trans (qa hU)).then L (fun k hk e=>by have:=qa M;omega);generalize H.setCell ⟨E,0,none⟩ (.int .i64 0)=X at *
   refine leaves_cons (f:=165) (args:=#[.pointer (some ⟨E,0,none⟩)]) (by simp) (by simp[go_sem]) ?_;refine(qvv ⟨E,0,none⟩ _).mono ?_;rintro e u' v ⟨rfl,rfl,n⟩;have Z:=n.cell c5 (fun h=>h);have a7:=U _ _ a6 (n.mono (fun _ _ h=>h.elim));have U6:Upd T w v:=V.trans (n.mono (fun _ _ h=>h.elim));refine⟨.int .i64 0,?_,U6,.inl ⟨rfl,a7⟩⟩;simp[results,Tryz.results132,go_sem,Z]
end
section
open Go.RowKit
attribute [local go_sem ↓ high] qz zb ze
attribute [local go_sem] qax qay qa4 qx
theorem q9t(s:ByteArray):rdN s 1=bt s 0:=by
 show 0*256+bt s 0=_;omega
theorem q7g(m:MsgV)(k:Int):m.cells.toArray.setIfInBounds 0 (.int .i64 k)=({m with kind:=k} : MsgV).cells.toArray:=rfl
def AtR(w:World)(p g:Nat):Prop:=w.cell? ⟨p,0,none⟩=some (.pointer (some ⟨g,0,none⟩))
theorem q4p(M A G:Nat)(s:ByteArray)(w:World)(N:AtR w M G)(I:MsB w A MsgV.zero)(F:Rd w G s)(v:A≠G) :
  Calls Tryz.prog 133 #[.pointer (some ⟨M,0,none⟩),.pointer (some ⟨A,0,none⟩)] w fun e w'=>Upd (fun k=>k=A∨k=G) w w'∧((s.size≠0∧e = .returned (.tuple #[])∧MsB w' A (qbh (bt s 0))∧Rd w' G (s.extract 1 s.size))∨(s.size=0∧qeb 10 e)):=by
 have W:=qfj s 0
 by_cases O:s.size=0
 ·have m:=qia G 1 s w F (by decide) (by decide) (by omega);unfold AtR at N;clear I F;go_enter Tryz.func133,Tryz.ntmps133;go_wp2_with fail;refine m.mono ?_;rintro e w1 ⟨rfl,q,-⟩;have E:=qb (q.mono (fun k _ e=>(Or.inr e:k=A∨k=G)));clear m q;go_wp2_with fail;refine(qfd 10 (by decide) _).mono ?_;rintro e C ⟨rfl,rfl⟩;exact⟨rfl,qa E,.inr ⟨O,rfl⟩⟩
 ·have m:=qnw G 1 s w F (by decide) (by decide) (by omega);rw[q9t] at m;have U:IntKind.i64.wrap (bt s 0)=bt s 0:=qjj (by omega) (by omega);unfold AtR at N;have K:=qb I;clear I F;go_enter Tryz.func133,Tryz.ntmps133;go_wp2_with fail;refine m.mono ?_;rintro e w1 ⟨rfl,q,z⟩;have E:=qb (q.mono (fun k _ e=>(Or.inr e:k=A∨k=G)));have r:=qb ((qa K).upd q v);have L:=qb z;clear m q z K;go_wp2_with fail;refine(qe3 _).mono ?_;rintro e C ⟨rfl,H⟩;have f:=(qa r).new (H.upd _);have V:C.cell? ⟨A,0,none⟩=some (.int .i64 0):=f.cells.1;have f2:C.frozen? ⟨A,0,none⟩=false:=qv f.at_ 0;have i:=qad f.at_ 0 (.int .i64 (bt s 0));rw[q7g] at i;have J:Upd (· = A) C (C.setCell ⟨A,0,none⟩ (.int .i64 (bt s 0))):=(Upd.refl _ _).set1 _ _;have P:=qb (And.intro (show MsB _ A (qbh (bt s 0)) from⟨i,qm⟩) (And.intro (((qa L).new (H.upd _)).upd J (fun e=>v e.symm)) (((qa E).trans (H.upd _)).trans (J.mono (fun k _ e=> .inl e)))));clear i J f H E L r;go_wp2_with fail;go_end0;obtain⟨R,S,T⟩:=qa P;exact⟨T,.inl ⟨O,rfl,R,S⟩⟩
theorem q4q(A L:Nat)(k:Int)(v0:Value)(w:World)(I:MsB w A (qbh k))(C:w.heap[L]? = some (.cells #[v0] 226 (0,0))) :
  Calls Tryz.prog 136 #[.pointer (some ⟨A,0,none⟩),.pointer (some ⟨L,0,none⟩)] w fun e w'=>Upd (fun k=>k=L) w w'∧((∃xs v,fieldsOf k=some xs∧e = .returned (.tuple #[])∧w'.cell? ⟨L,0,none⟩=some v∧FldsO w.heap.size w' v xs)∨(fieldsOf k=none∧qeb 70 e)):=by
 have V:w.cell? ⟨A,0,none⟩=some (.int .i64 k):=I.cells.1
 have U:=zr C
 cases J:fieldsOf k with
 | none =>
  have r:=qmm k J w;unfold qcu at r;have H:=qb C;clear I C;go_enter Tryz.func136,Tryz.ntmps136;go_wp2_with fail;refine r.mono ?_;rintro e w1 ⟨rfl,q⟩;have f:=q.old (qa H) (fun h=>h);have P:=qg f 0;have f1:=qv f 0;have z:Upd (fun k=>k=L) w (w1.setCell ⟨L,0,none⟩ (.slice none 0 0)):=(q.mono (fun _ _ h=>h.elim)).set1 _ _;have O:=qb z;clear r q f z;go_wp2_with fail;refine(qfd 70 (by decide) _).mono ?_;rintro e Y ⟨rfl,rfl⟩;exact⟨rfl,qa O,.inr ⟨by trivial,rfl⟩⟩
 | some xs =>
  have r:=qj9 k xs J w;have H:=qb C;clear I C;go_enter Tryz.func136,Tryz.ntmps136;go_wp2_with fail;refine r.mono ?_;rintro e w1 ⟨v,rfl,q,m⟩;obtain⟨K,M,rfl⟩:∃a c,v = .slice a xs.length c:=by
   obtain⟨X,F,-⟩:=m;exact qaf F
  have f:=q.old (qa H) (fun h=>h);have P:=qg f 0;have f1:=qv f 0;have E:=qad f 0 (.slice K xs.length M);have z:Upd (fun k=>k=L) w1 (w1.setCell ⟨L,0,none⟩ (.slice K xs.length M)):=(Upd.refl _ _).set1 _ _;have N:=qb (And.intro ((q.mono (fun _ _ h=>h.elim)).trans z) (And.intro E (m.upd z (fun i W e=>by omega))));clear r q f z E m;go_wp2_with fail;go_end0;obtain⟨R,S,T⟩:=qa N;exact⟨R,.inl ⟨_,_,rfl,rfl,qg S 0,T⟩⟩
theorem q4r(base K L A G:Nat)(v:Value)(xs:List Fld)(m:MsgV)(s:ByteArray)(w:World)(V:AtR w K G)(W:w.cell? ⟨L,0,none⟩=some v)(F:FldsO base w v xs)(M:MsB w A m)(N:Rd w G s)(i:A≠G)(q:A<base)(z:G<base)(H:xs.length≤100) :
  Calls Tryz.prog 138 #[.pointer (some ⟨K,0,none⟩),.pointer (some ⟨L,0,none⟩),.pointer (some ⟨A,0,none⟩)] w fun e w'=>Upd (fun k=>k=A∨k=G) w w'∧((∃I r,qdv xs s m=some (I,r)∧e = .returned (.tuple #[])∧MsB w' A I∧Rd w' G r)∨(qdv xs s m=none∧qeb 10 e)):=by
 obtain⟨X,Y,rfl⟩:∃a c,v = .slice a xs.length c:=by
  obtain⟨Z,f,-⟩:=F;exact qaf f
 have C:=qs4 base A G _ xs m s w F M N i q z H
 unfold qdz at C
 unfold AtR at V
 clear F M N
 go_enter Tryz.func138,Tryz.ntmps138
 go_wp2_with fail
 refine C.mono ?_
 rintro e w1 ⟨J,(⟨I,r,E,rfl,O,P⟩ | ⟨E,rfl⟩)⟩
 ·have R:=qb (And.intro J (And.intro O P));clear C J O P;go_wp2_with fail;go_end0;obtain⟨S,T,U⟩:=qa R;exact⟨S,.inl ⟨_,_,E,rfl,T,U⟩⟩
 ·exact⟨rfl,J,.inr ⟨E,rfl⟩⟩
theorem q4s(v G:Nat)(s:ByteArray)(w:World)(E:AtR w v G)(m:Rd w G s) :
  Calls Tryz.prog 140 #[.pointer (some ⟨v,0,none⟩)] w fun e w'=>qq w w'∧((s.size=0∧e = .returned (.tuple #[]))∨(s.size≠0∧qeb 11 e)):=by
 unfold AtR at E
 by_cases r:s.size=0
 ·have f:=zbi G s w m r;clear m;go_enter Tryz.func140,Tryz.ntmps140;go_wp2_with fail;refine f.mono ?_;rintro e w1 ⟨rfl,i⟩;have q:=qb (i.upd (fun _=>False));clear f i;go_wp2_with fail;refine(qe3 _).mono ?_;rintro e F ⟨rfl,z⟩;have C:=qb ((qa q).trans (z.upd _));clear z;go_wp2_with fail;go_end0;exact⟨qa C,.inl ⟨r,rfl⟩⟩
 ·have f:=q4z G s w m (by omega);clear m;go_enter Tryz.func140,Tryz.ntmps140;go_wp2_with fail;refine f.mono ?_;rintro e w1 ⟨rfl,i⟩;have q:=qb (i.upd (fun _=>False));clear f i;go_wp2_with fail;refine(qfd 11 (by decide) _).mono ?_;rintro e F ⟨rfl,rfl⟩;exact⟨rfl,qa q,.inr ⟨r,rfl⟩⟩
theorem q4t(A:Nat)(m:MsgV)(w:World)(r:MsB w A m)(v:MsgOk m) :
  Calls Tryz.prog 142 #[.pointer (some ⟨A,0,none⟩)] w fun e w'=>qq w w'∧((qam m=true∧e = .returned (.tuple #[]))∨(qam m=false∧qeb 1 e)):=by
 have z:=r.row
 have f:=qh6 m v w
 clear r v
 cases i:qam m with
 | true =>
  rw[i] at f;clear i;go_enter Tryz.func142,Tryz.ntmps142;go_wp2_with fail;refine f.mono ?_;rintro e w1 ⟨rfl,q⟩;clear f z;go_wp2_with fail;go_end0;exact⟨q,.inl ⟨by trivial,rfl⟩⟩
 | false =>
  rw[i] at f;clear i;go_enter Tryz.func142,Tryz.ntmps142;go_wp2_with fail;refine f.mono ?_;rintro e w1 ⟨rfl,q⟩;clear f z;go_wp2_with fail;refine(qfd 1 (by decide) _).mono ?_;rintro e C ⟨rfl,rfl⟩;exact⟨rfl,q,.inr ⟨by trivial,rfl⟩⟩
end
section
open Go.RowKit
def q8z(w0:World)(A L G:Nat)(v0:Value)(s:ByteArray)(i:Nat)(a:World):Prop :=
 (i<5→Upd (fun k=>k=A∨k=G∨k=L) w0 a) ∧
 (if i=0 then MsB a A MsgV.zero∧Rd a G s∧a.heap[L]? = some (.cells #[v0] 226 (0,0))
 else if i=1 then s.size≠0∧MsB a A (qbh (bt s 0))∧Rd a G (s.extract 1 s.size)∧a.heap[L]? = some (.cells #[v0] 226 (0,0))
 else if i=2 then s.size≠0∧MsB a A (qbh (bt s 0))∧Rd a G (s.extract 1 s.size)∧∃xs v base,w0.heap.size≤base∧fieldsOf (bt s 0)=some xs∧a.cell? ⟨L,0,none⟩=some v∧FldsO base a v xs
 else ∃xs m r,s.size≠0∧fieldsOf (bt s 0)=some xs∧qdv xs (s.extract 1 s.size) (qbh (bt s 0))=some (m,r)∧MsB a A m∧Rd a G r∧(4≤i→r.size=0)∧(5≤i→qam m=true))
def zbh(i:Nat):Nat:=if i=0 then 133 else if i=1 then 136 else if i=2 then 138 else if i=3 then 140 else 142
def qsa(f A L:Nat)(i:Nat):Array Value :=
 if i=0 then #[.pointer (some ⟨f,0,none⟩),.pointer (some ⟨A,0,none⟩)] else if i=1 then #[.pointer (some ⟨A,0,none⟩),.pointer (some ⟨L,0,none⟩)] else if i=2 then #[.pointer (some ⟨f,0,none⟩),.pointer (some ⟨L,0,none⟩),.pointer (some ⟨A,0,none⟩)] else if i=3 then #[.pointer (some ⟨f,0,none⟩)] else #[.pointer (some ⟨A,0,none⟩)]
theorem q0j(H A L G b:Nat)(s:ByteArray)(v0:Value)(w:World)(hR:AtR w H G)(hA:MsB w A MsgV.zero)(hG:Rd w G s)(hL:w.heap[L]? = some (.cells #[v0] 226 (0,0)))(W:qyw w b 5 zbh (qsa H A L))(T:A≠G)(U:A≠L)(V:G≠L)(P:H≠A∧H≠G∧H≠L)(hb:A<b∧G<b∧L<b)(Y:b<w.heap.size) :
  Calls Tryz.prog 132 #[.slice (some ⟨b,0,none⟩) 5 5] w fun e w'=>Upd (fun k=>k=A∨k=G∨k=L) w w'∧((e = .returned (.int .i64 0)∧q8z w A L G v0 s 5 w')∨∃er:Int,(er != 0)=true∧e = .returned (.int .i64 er)∧qct s=(MsgV.zero,er)):=by
 have hz:=hA.lt
 have a8:=qfj s 0
 have a6:∀w1 w2:World,q8z w A L G v0 s 5 w1→Upd (fun k=>b≤k) w1 w2→q8z w A L G v0 s 5 w2:=by
  rintro w1 w2 ⟨-,xs,m,r,f,q,z,C,F,J,X⟩ u2;exact⟨fun h=>absurd h (by decide),xs,m,r,f,q,z,C.upd u2 (by omega),F.upd u2 (by omega),J,X⟩
 refine q91 b 5 b zbh (qsa H A L) (fun k=>k=A∨k=G∨k=L) (q8z w A L G v0 s) (fun er _=>qct s=(MsgV.zero,er)) w (by decide) W (fun k hk=>by omega) (Nat.le_refl _) (by omega) Y ?_ a6 (fun _ _ _ h _=>h) ?_
 ·intro w' n;exact⟨fun _=>n.mono (fun _ _ h=>h.elim),hA.new n,hG.new n,n.old hL (fun h=>h)⟩
 ·intro i hi a N;obtain⟨u0,N⟩:=N;have u:=u0 hi;clear u0;have R:AtR a H G:=u.cell hR (fun e=>e.elim P.1 (fun e=>e.elim P.2.1 P.2.2));have S:∀ {M:World},Upd (fun k=>k=A∨k=G) a M→Upd (fun k=>k=A∨k=G∨k=L) a M:=fun h=>h.mono (fun k _ e=>e.elim .inl (fun e=> .inr (.inl e)))
  rcases (by omega:i=0∨i=1∨i=2∨i=3∨i=4) with rfl | rfl | rfl | rfl | rfl
  ·refine⟨enters_of Tryz.func133 (by kernel_rfl) rfl,?_⟩;obtain⟨C,F,O⟩:MsB a A MsgV.zero∧Rd a G s∧a.heap[L]? = some (.cells #[v0] 226 (0,0)):=N;refine(q4p H A G s a R C F T).mono ?_;rintro e M ⟨E,(⟨f,rfl,q,z⟩ | ⟨f,K⟩)⟩
   ·exact⟨S E,.inl ⟨rfl,fun _=>u.trans (S E),f,q,z,E.old O (fun e=>e.elim (fun e=>U e.symm) (fun e=>V e.symm))⟩⟩
   ·exact⟨S E,.inr ⟨10,by decide,K,q0h f⟩⟩
  ·refine⟨enters_of Tryz.func136 (by kernel_rfl) rfl,?_⟩;obtain⟨f,C,F,O⟩:s.size≠0∧MsB a A (qbh (bt s 0))∧Rd a G (s.extract 1 s.size)∧a.heap[L]? = some (.cells #[v0] 226 (0,0)):=N;refine(q4q A L (bt s 0) v0 a C O).mono ?_;rintro e M ⟨E,(⟨xs,v,q,rfl,z,I⟩ | ⟨q,K⟩)⟩
   ·have uu:Upd (fun k=>k=A∨k=G∨k=L) a M:=E.mono (fun k _ e=> .inr (.inr e));exact⟨uu,.inl ⟨rfl,fun _=>u.trans uu,f,C.upd E U,F.upd E V,xs,v,_,u.size,q,z,I⟩⟩
   ·exact⟨E.mono (fun k _ e=> .inr (.inr e)),.inr ⟨70,by decide,K,q4v f q⟩⟩
  ·refine⟨enters_of Tryz.func138 (by kernel_rfl) rfl,?_⟩;obtain⟨f,C,F,xs,v,base,a7,q,z,I⟩:s.size≠0∧MsB a A (qbh (bt s 0))∧Rd a G (s.extract 1 s.size)∧∃xs v base,w.heap.size≤base∧fieldsOf (bt s 0)=some xs∧a.cell? ⟨L,0,none⟩=some v∧FldsO base a v xs:=N;refine(q4r base H L A G v xs _ _ a R z I C F T (by omega) (by omega) (qh1 q)).mono ?_;rintro e M ⟨E,(⟨m,r,J,rfl,X,h6⟩ | ⟨J,K⟩)⟩
   ·exact⟨S E,.inl ⟨rfl,fun _=>u.trans (S E),xs,m,r,f,q,J,X,h6,fun h=>absurd h (by decide),fun h=>absurd h (by decide)⟩⟩
   ·exact⟨S E,.inr ⟨10,by decide,K,q0i f q J⟩⟩
  ·refine⟨enters_of Tryz.func140 (by kernel_rfl) rfl,?_⟩;obtain⟨xs,m,r,f,q,z,C,F,-,-⟩:∃xs m r,s.size≠0∧fieldsOf (bt s 0)=some xs∧qdv xs (s.extract 1 s.size) (qbh (bt s 0))=some (m,r)∧MsB a A m∧Rd a G r∧(4≤3→r.size=0)∧(5≤3→qam m=true):=N;refine(q4s H G r a R F).mono ?_;rintro e M ⟨n,(⟨I,rfl⟩ | ⟨I,K⟩)⟩
   ·exact⟨n.mono (fun _ _ h=>h.elim),.inl ⟨rfl,fun _=>u.trans (n.mono (fun _ _ h=>h.elim)),xs,m,r,f,q,z,C.new n,F.new n,fun _=>I,fun h=>absurd h (by decide)⟩⟩
   ·exact⟨n.mono (fun _ _ h=>h.elim),.inr ⟨11,by decide,K,q4w f q z I⟩⟩
  ·refine⟨enters_of Tryz.func142 (by kernel_rfl) rfl,?_⟩;obtain⟨xs,m,r,f,q,z,C,F,I,-⟩:∃xs m r,s.size≠0∧fieldsOf (bt s 0)=some xs∧qdv xs (s.extract 1 s.size) (qbh (bt s 0))=some (m,r)∧MsB a A m∧Rd a G r∧(4≤4→r.size=0)∧(5≤4→qam m=true):=N;have Z:=(qnp xs _ _ (qf9 ⟨by omega,by omega⟩) z).1;refine(q4t A m a C Z).mono ?_;rintro e M ⟨n,(⟨J,rfl⟩ | ⟨J,K⟩)⟩
   ·exact⟨n.mono (fun _ _ h=>h.elim),.inl ⟨rfl,fun h=>absurd h (by decide),xs,m,r,f,q,z,C.new n,F.new n,fun _=>I (by decide),fun _=>J⟩⟩
   ·exact⟨n.mono (fun _ _ h=>h.elim),.inr ⟨1,by decide,K,q82 f q z (I (by decide)) J⟩⟩
attribute [local go_sem ↓ high] qz zb ze zi
attribute [local go_sem] qax qay qa4 qx qab
theorem qog(s:ByteArray)(w:World):Calls Tryz.prog 105 #[.string s] w (qa7 (.tuple #[.agg (qct s).1.cells.toArray,.int .i64 (qct s).2]) w):=by
 have a8:∀(fn:Fn) (first cap:Array Value) (w:World),(Instr.makeFunc fn first cap).run Tryz.prog w = .ok (.func fn first cap) w:=fun _ _ _ _=>rfl
 go_enter Tryz.func105,Tryz.ntmps105;go_upto_region 3 with fail;obtain⟨E,C⟩:∃E,E=((w.alloc (.cells MsgV.zero.cells.toArray 101)).alloc (.cells MsgV.zero.cells.toArray 101)).alloc (.cells #[.slice none 0 0] 226):=⟨_,rfl⟩;have n3:qq w E:=by rw[C];exact(((Upd.refl _ _).alloc _).alloc _).alloc _
 have z3:E.heap.size=w.heap.size+3:=by rw[C];simp only[World.size_alloc]
 have H:E.heap[w.heap.size+1+1]? = some (.cells #[.slice none 0 0] 226 (0,0)):=by
  rw[C];have:=qj ((w.alloc (.cells MsgV.zero.cells.toArray 101)).alloc (.cells MsgV.zero.cells.toArray 101)) (.cells #[.slice none 0 0] 226);rwa [World.size_alloc,World.size_alloc] at this
 have F:MsB E (w.heap.size+1) MsgV.zero:=by
  rw[C];have:=qj (w.alloc (.cells MsgV.zero.cells.toArray 101)) (.cells MsgV.zero.cells.toArray 101);rw[World.size_alloc] at this;exact⟨qs this _,qm⟩
 have I:MsB E w.heap.size MsgV.zero:=by
  rw[C];exact⟨qs (qs (qj _ _) _) _,qm⟩
 rw[←C];clear C;generalize hZ:w.heap.size=Z at *
 have HZ:=qb (And.intro hZ z3);have H3:=qb (And.intro n3 (And.intro H (And.intro F I)));clear hZ z3 n3 H F I;go_wp2_with fail;refine(q1w s E).mono ?_;rintro e O ⟨rfl,T,n4,z4⟩;have H4:=qb (And.intro T (And.intro n4 z4));clear T n4 z4;go_upto_region 4 with fail;have X:=qj O (.cells #[.pointer (some ⟨E.heap.size,0,none⟩)] 227);have n5:qq O (O.alloc (.cells #[.pointer (some ⟨E.heap.size,0,none⟩)] 227)):=(Upd.refl _ _).alloc _;have z5:(O.alloc (.cells #[.pointer (some ⟨E.heap.size,0,none⟩)] 227)).heap.size=O.heap.size+1:=World.size_alloc _ _;generalize O.alloc (.cells #[.pointer (some ⟨E.heap.size,0,none⟩)] 227)=K at X n5 z5 ⊢;obtain⟨hz,z3⟩:=qa HZ;obtain⟨n3,H,F,I⟩:=qa H3;obtain⟨T,n4,z4⟩:=qa H4;have S:O.heap.size=Z+1+1+1+1:=by omega
 have R:E.heap.size=Z+1+1+1:=by omega
 have Y:K.heap.size=Z+5:=by omega
 rw[S] at X ⊢;rw[R] at X T;have P:=qj K (.cells #[.func (.func 133) #[] #[.pointer (some ⟨Z+1+1+1+1,0,none⟩),.pointer (some ⟨Z+1,0,none⟩)],.func (.func 136) #[] #[.pointer (some ⟨Z+1,0,none⟩),.pointer (some ⟨Z+1+1,0,none⟩)],.func (.func 138) #[] #[.pointer (some ⟨Z+1+1+1+1,0,none⟩),.pointer (some ⟨Z+1+1,0,none⟩),.pointer (some ⟨Z+1,0,none⟩)],.func (.func 140) #[] #[.pointer (some ⟨Z+1+1+1+1,0,none⟩)],.func (.func 142) #[] #[.pointer (some ⟨Z+1,0,none⟩)]] 1);have n6:qq K (K.alloc (.cells #[.func (.func 133) #[] #[.pointer (some ⟨Z+1+1+1+1,0,none⟩),.pointer (some ⟨Z+1,0,none⟩)],.func (.func 136) #[] #[.pointer (some ⟨Z+1,0,none⟩),.pointer (some ⟨Z+1+1,0,none⟩)],.func (.func 138) #[] #[.pointer (some ⟨Z+1+1+1+1,0,none⟩),.pointer (some ⟨Z+1+1,0,none⟩),.pointer (some ⟨Z+1,0,none⟩)],.func (.func 140) #[] #[.pointer (some ⟨Z+1+1+1+1,0,none⟩)],.func (.func 142) #[] #[.pointer (some ⟨Z+1,0,none⟩)]] 1)):=(Upd.refl _ _).alloc _;have z6:(K.alloc (.cells #[.func (.func 133) #[] #[.pointer (some ⟨Z+1+1+1+1,0,none⟩),.pointer (some ⟨Z+1,0,none⟩)],.func (.func 136) #[] #[.pointer (some ⟨Z+1,0,none⟩),.pointer (some ⟨Z+1+1,0,none⟩)],.func (.func 138) #[] #[.pointer (some ⟨Z+1+1+1+1,0,none⟩),.pointer (some ⟨Z+1+1,0,none⟩),.pointer (some ⟨Z+1,0,none⟩)],.func (.func 140) #[] #[.pointer (some ⟨Z+1+1+1+1,0,none⟩)],.func (.func 142) #[] #[.pointer (some ⟨Z+1,0,none⟩)]] 1)).heap.size=K.heap.size+1:=World.size_alloc _ _;have N:=n5.trans n6
 have J:=n4.trans N;have L:qyw (K.alloc (.cells #[.func (.func 133) #[] #[.pointer (some ⟨Z+1+1+1+1,0,none⟩),.pointer (some ⟨Z+1,0,none⟩)],.func (.func 136) #[] #[.pointer (some ⟨Z+1,0,none⟩),.pointer (some ⟨Z+1+1,0,none⟩)],.func (.func 138) #[] #[.pointer (some ⟨Z+1+1+1+1,0,none⟩),.pointer (some ⟨Z+1+1,0,none⟩),.pointer (some ⟨Z+1,0,none⟩)],.func (.func 140) #[] #[.pointer (some ⟨Z+1+1+1+1,0,none⟩)],.func (.func 142) #[] #[.pointer (some ⟨Z+1,0,none⟩)]] 1)) K.heap.size 5 zbh (qsa (Z+1+1+1+1) (Z+1) (Z+1+1)):=by
  intro i hi;rcases (by omega:i=0∨i=1∨i=2∨i=3∨i=4) with rfl | rfl | rfl | rfl | rfl
  ·exact qg P 0
  ·exact qg P 1
  ·exact qg P 2
  ·exact qg P 3
  ·exact qg P 4
 have f:=q0j (Z+1+1+1+1) (Z+1) (Z+1+1) (Z+1+1+1) K.heap.size s (.slice none 0 0) (K.alloc (.cells #[.func (.func 133) #[] #[.pointer (some ⟨Z+1+1+1+1,0,none⟩),.pointer (some ⟨Z+1,0,none⟩)],.func (.func 136) #[] #[.pointer (some ⟨Z+1,0,none⟩),.pointer (some ⟨Z+1+1,0,none⟩)],.func (.func 138) #[] #[.pointer (some ⟨Z+1+1+1+1,0,none⟩),.pointer (some ⟨Z+1+1,0,none⟩),.pointer (some ⟨Z+1,0,none⟩)],.func (.func 140) #[] #[.pointer (some ⟨Z+1+1+1+1,0,none⟩)],.func (.func 142) #[] #[.pointer (some ⟨Z+1,0,none⟩)]] 1)) (n6.cell (qg X 0) (fun h=>h)) (F.new J) (T.new N) (J.old H (fun h=>h)) L (by omega) (by omega) (by omega) ⟨by omega,by omega,by omega⟩ ⟨by omega,by omega,by omega⟩ (by omega);have M:=qb (And.intro (I.new J) (n3.trans J));have HE:=qb (And.intro hz (And.intro R (And.intro S (And.intro Y (And.intro z6 ((qa M).2.size))))));have f:=qb f;clear X n5 z5 H F I T n4 n3 P n6 N J L z4 hz z3 R S Y z6;go_wp2_with fail;refine(qa f).mono ?_;obtain⟨a6,R,S,Y,z6,zM⟩:=qa HE;rintro e V ⟨U,(⟨rfl,hC⟩ | ⟨er,a7,rfl,hd⟩)⟩
 ·obtain⟨-,xs,m,r,h0,h1,h2,hM,-,h3,h4⟩:=hC;have hd:=qy5 h0 h1 h2 (h3 (by decide)) (h4 (by decide));have v:=(qa M).1.upd U (by omega);have W:qq w V:=(qa M).2.then U (fun k hk e=>by omega);have rA:=hM.row;have z:=hM.len;have st:=v.stOk z;have q:=v.put z;have u8:Upd (· = Z) V (V.setCells Z 0 m.cells):=zc _;have HX:=qb (And.intro q (W.then u8 (fun k hk e=>by omega)));have HD:=qb hd;clear f hd h0 h1 h2 hM h3 h4 v W q u8 U M H3 H4 HZ a6 R S Y z6 zM;go_wp2_with fail;obtain⟨q,N8⟩:=qa HX;refine bodyPost_ret (qy rfl _ _ Z _ _ _ _ rfl q.at_ Tryz.underlying101 rfl (by rw[List.size_toArray,MsgV.len _ z];exact Tryz.infoMsg)) rfl ?_;exact⟨by rw[qa HD];rfl,N8⟩
 ·have v:=(qa M).1.upd U (by omega);have W:qq w V:=(qa M).2.then U (fun k hk e=>by omega);have z:MsgV.zero.hash.length=32:=qm;have st:=v.stOk z;have q:=v.put z;have u8:Upd (· = Z) V (V.setCells Z 0 MsgV.zero.cells):=zc _;have HX:=qb (And.intro q (W.then u8 (fun k hk e=>by omega)));have HD:=qb hd;clear f hd v W q u8 U M H3 H4 HZ a6 R S Y z6 zM;go_wp2_with fail;obtain⟨q,N8⟩:=qa HX;refine bodyPost_ret (qy rfl _ _ Z _ _ _ _ rfl q.at_ Tryz.underlying101 rfl (by rw[List.size_toArray,MsgV.len _ z];exact Tryz.infoMsg)) rfl ?_;exact⟨by rw[qa HD];rfl,N8⟩
end
section
open Go.RowKit
theorem q4u(s:ByteArray):(qct s).1.hash.length=32:=by
 have f:=qfj s 0;unfold qct;split
 ·exact qm
 ·split
  ·exact qm
  ·split
   ·exact qm
   ·rename_i h;split
    ·exact qm
    ·split
     ·exact(qnp _ _ _ (qf9 ⟨by omega,by omega⟩) h).1.len
     ·exact qm
attribute [local go_sem ↓ high] qz zb ze zi
attribute [local go_sem] qax qay qa4 qx
theorem q1n(g:Nat)(f:ByteArray)(w:World)(J:((qct f).2 != 0)=true) :
  Calls Tryz.prog 65 #[.pointer (some ⟨g,0,none⟩),.string f] w fun e w'=>e = .returned (.int .i64 (qct f).2)∧qq w w':=by
 have K:∀(E:Fn) (first cap:Array Value) (w:World),(Instr.makeFunc E first cap).run Tryz.prog w = .ok (.func E first cap) w:=fun _ _ _ _=>rfl
 have F:=fun W=>qog f W
 have r:=q4u f
 generalize (qct f).2=er at *
 generalize (qct f).1=m at *
 go_enter Tryz.func65,Tryz.ntmps65
 go_upto_region 1 with fail
 have v:qq w (w.alloc (.cells #[.pointer (some ⟨g,0,none⟩)] 28)):=(Upd.refl _ _).alloc _
 generalize w.alloc (.cells #[.pointer (some ⟨g,0,none⟩)] 28)=w0 at v ⊢
 generalize w.heap.size=L
 have z:=qb v
 clear v
 go_wp2_with fail
 refine(F w0).mono ?_
 rintro e w1 ⟨rfl,H⟩
 obtain⟨i,q,I⟩:=qi7 w1 m r
 have C:=qb (((qa z).trans H).trans I)
 clear H F z I q
 go_upto_region 2 with fail
 change Code.wp _ _ _ _ (qj4 w1 m)
 generalize qj4 w1 m=N at C ⊢
 generalize w1.heap.size=M at i ⊢
 clear i
 go_wp2_with fail
 go_ret
 exact⟨rfl,qa C⟩
end
end Go.Proofs.YtfmkdoachjgjbaaGreatDoor
