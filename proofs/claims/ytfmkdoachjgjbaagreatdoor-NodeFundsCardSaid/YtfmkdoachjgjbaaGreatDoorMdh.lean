/-
  Package octet: the reader's Hash.
-/
import Derived.Test.YtfmkdoachjgjbaaGreatDoorMdg
import Derived.Test.YtfmkdoachjgjbaaGreatDoorMbc
import Derived.Lib.LazyBuf
import Derived.Test.YtfmkdoachjgjbaaGreatDoorMce
import Derived.Test.YtfmkdoachjgjbaaGreatDoorMdf
set_option maxRecDepth 100000
set_option maxHeartbeats 2000000
set_option linter.unusedVariables false
set_option linter.unusedSimpArgs false
namespace Go.Proofs.YtfmkdoachjgjbaaGreatDoor
section
open Go.RowKit
attribute [local go_sem ↓ high] zl qaf qah qa1
attribute [local go_sem] qa9 qb3 qb7 qdp qy
theorem q49(g:Nat)(s:ByteArray)(w:World)(h:Rd w g s)(hs:32≤s.size) :
  Calls Tryz.prog 204 #[.pointer (some ⟨g,0,none⟩)] w fun e w'=>e = .returned (.tuple #[.agg (qw (rdH s)).toArray,.int .i64 0])∧Upd (fun k=>k=g) w w'∧Rd w' g (s.extract 32 s.size):=by
 have c5:∀(fn:Fn) (first cap:Array Value) (w:World),(Instr.makeFunc fn first cap).run Tryz.prog w = .ok (.func fn first cap) w:=fun _ _ _ _=>rfl
 have c2:=h.lt
 go_enter_defers Tryz.func204,Tryz.ntmps204
 go_upto_region 1 with fail
 have n0:qq w (w.alloc (.cells (qw zm).toArray 35)):=(Upd.refl _ _).alloc _
 have O:=ql w (.cells (qw zm).toArray 35)
 have z0:(w.alloc (.cells (qw zm).toArray 35)).heap.size=w.heap.size+1:=World.size_alloc _ _
 have X:=h.new n0
 generalize w.alloc (.cells (qw zm).toArray 35)=w0 at n0 O z0 X ⊢
 have n1:qq w0 (w0.alloc (.cells #[.int .i64 0] 26)):=(Upd.refl _ _).alloc _
 have hE:=ql w0 (.cells #[.int .i64 0] 26)
 replace O:=n1.old O (fun h=>h)
 replace X:=X.new n1
 rw[z0] at hE
 generalize w0.alloc (.cells #[.int .i64 0] 26)=w1 at n1 hE O X ⊢
 have D:g≠w.heap.size:=by omega
 have z:g≠w.heap.size+1:=by omega
 have m:w.heap.size≠w.heap.size+1:=by omega
 obtain⟨A,U⟩:∃A,A=w.heap.size:=⟨_,rfl⟩
 obtain⟨E,W⟩:∃E,E=A+1:=⟨_,rfl⟩
 rw[←U] at O hE D z m ⊢
 rw[←W] at hE z m ⊢
 have b6:=qj (And.intro U W)
 have HA:=qj O
 have a6:=qj hE
 have N1:=qj (n0.trans n1)
 clear U W hE O n0 n1 h z0
 go_wp2_with fail
 refine(qjc g E s w1 X).mono ?_
 rintro e w2 ⟨p,q,r,rfl,n2,hB,K,M,N⟩
 have HB:=qj (And.intro hB (And.intro K (And.intro M N)))
 have a8:=n2.old (qg a6) (fun h=>h)
 have a7:=n2.old (qg HA) (fun h=>h)
 have Y:=X.new n2
 have N2:=qj ((qg N1).trans n2)
 have c1:=zi (qg a6)
 clear hB X K M N n2
 go_wp2_with fail
 refine(qyr g 32 s w2 Y hs).mono ?_
 rintro e w3 ⟨rfl,rfl⟩
 have Z:=Y.set (s.extract 32 s.size)
 have H:Upd (fun k=>k=g) w2 (w2.setCell ⟨g,0,none⟩ (.string (s.extract 32 s.size))):=(Upd.refl _ _).set1 _ _
 have v:=H.old a8 (fun e=>z e.symm)
 have R:=H.old a7 (fun e=>D e.symm)
 generalize w2.setCell ⟨g,0,none⟩ (.string (s.extract 32 s.size))=w3 at Z H v R ⊢
 have c3:=qk v 0
 have f3:=qo v 0
 have y:=zq v 0 (.int .i64 0)
 have J:Upd (fun k=>k=E) w3 (w3.setCell ⟨E,0,none⟩ (.int .i64 0)):=(Upd.refl _ _).set1 _ _
 have i:=J.old R m
 have a1:=qv7 s hs
 have b4:(s.extract 0 32).size=32:=by rw[ByteArray.size_extract];omega
 generalize s.extract 0 32=x at b4 a1 ⊢
 have HU:=qj (And.intro H (And.intro J (And.intro y i)))
 have HR:=qj Z
 clear a8 Y Z H v J y a7 R i
 go_upto_region 3 with fail
 generalize w3.setCell ⟨E,0,none⟩ (.int .i64 0)=w4 at HU ⊢
 have c4:w4.cell? ⟨E,0,none⟩=some (.int .i64 0):=qk (qg HU).2.2.1 0
 clear c3 f3
 obtain⟨H,J,y,i⟩:=qg HU
 have b2:∀j,j<x.size→(w4.cell? ⟨A,0+j,none⟩).isSome=true:=fun j hj=>by
  rw[Nat.zero_add,qk i j,List.getElem?_toArray,List.getElem?_eq_getElem (by rw[qal,qu];omega)];rfl
 have b3:∀j,j<x.size→w4.frozen? ⟨A,0+j,none⟩=false:=fun j hj=>qo i _
 have t:=(HsB.mk i qu).put (rdH s) (qex s)
 have u5:Upd (· = A) w4 (w4.setCells A 0 (qw (rdH s))):=zy _
 have V:=u5.old y (fun e=>m e.symm)
 have b5:=run_copy_string (P:=Tryz.prog) w4 95 9 3 5 A 0 32 32 x Tryz.underlying95 (fun w=>by kernel_rfl) (by omega) b2 b3
 rw[a1] at b5
 clear H J y i
 go_upto_region 6 with fail
 generalize w4.setCells A 0 (qw (rdH s))=I at t u5 V ⊢
 have rA:=t.row
 have d0:=t.stOk (rdH s) (qex s)
 have C:=t.put (rdH s) (qex s)
 have u6:Upd (· = A) I (I.setCells A 0 (qw (rdH s))):=zy _
 have o:=u6.old V (fun e=>m e.symm)
 have e6:(I.setCells A 0 (qw (rdH s))).cell? ⟨E,0,none⟩=some (.int .i64 0):=qk o 0
 have f6:(I.setCells A 0 (qw (rdH s))).frozen? ⟨E,0,none⟩=false:=qo o 0
 have HV:=qj (And.intro u5 (And.intro u6 (And.intro C o)))
 clear b2 b3 t u5 V C u6 o c4 a1 b4
 go_wp2_with fail
 obtain⟨u5,u6,C,o⟩:=qg HV
 obtain⟨H,J,-,-⟩:=qg HU
 obtain⟨hB,K,M,N⟩:=qg HB
 obtain⟨c6,c8⟩:=qg b6
 have c0:=zi (qg HA)
 have b0:=zq o 0 (.int .i64 0)
 have u7:Upd (· = E) (I.setCells A 0 (qw (rdH s))) ((I.setCells A 0 (qw (rdH s))).setCell ⟨E,0,none⟩ (.int .i64 0)):=(Upd.refl _ _).set1 _ _
 have T:=C.upd u7 m
 have b1:Rd ((I.setCells A 0 (qw (rdH s))).setCell ⟨E,0,none⟩ (.int .i64 0)) g (s.extract 32 s.size):=((((qg HR).upd J z).upd u5 D).upd u6 D).upd u7 z
 have a2:Upd (fun k=>k=g∨k=A∨k=E) w2 ((I.setCells A 0 (qw (rdH s))).setCell ⟨E,0,none⟩ (.int .i64 0)):=((((H.mono (fun k _ e=>(Or.inl e:k=g∨k=A∨k=E))).trans (J.mono (fun k _ e=> .inr (.inr e)))).trans (u5.mono (fun k _ e=> .inr (.inl e)))).trans (u6.mono (fun k _ e=> .inr (.inl e)))).trans (u7.mono (fun k _ e=> .inr (.inr e)))
 generalize (I.setCells A 0 (qw (rdH s))).setCell ⟨E,0,none⟩ (.int .i64 0)=w7 at b0 T b1 a2 ⊢
 have c7:w7.cell? ⟨E,0,none⟩=some (.int .i64 0):=qk b0 0
 have c9:=T.row
 have b7:=hB.upd a2 (by omega) (by omega) (by omega)
 have hU:Upd (fun k=>k=g) w w7:=((qg N2).mono (fun _ _ h=>h.elim)).then a2 (fun k hk e=>by omega)
 refine leaves_cons (f:=199) (args:=#[.pointer (some ⟨p,0,none⟩),.pointer (some ⟨q,0,none⟩),.pointer (some ⟨r,0,none⟩)]) (by simp) (by simp[go_sem]) ?_
 refine(qpi g E p q r s _ w7 b7 c7).mono ?_
 rintro e u' d1 ⟨rfl,rfl,rfl⟩
 have b9:=run_loadVar_row (P:=Tryz.prog) w7 A 35 35 (qw (rdH s)).toArray (0,0) _ T.at_ Tryz.underlying35 rfl (by rw[List.size_toArray,qal,qex];exact Tryz.infoHsh)
 refine⟨.tuple #[.agg (qw (rdH s)).toArray,.int .i64 0],?_,rfl,hU,b1⟩
 have b8:(loadVar 26 ⟨E,0,none⟩).run Tryz.prog w7 = .ok (.int .i64 0) w7:=by
  simp[go_sem,loadVar,c7]
 simp[results,Tryz.results204,asAddr,b9,b8,Result.andThen]
theorem qus(g:Nat)(s:ByteArray)(w:World)(h:Rd w g s)(hs:s.size<32) :
  Calls Tryz.prog 204 #[.pointer (some ⟨g,0,none⟩)] w fun e w'=>e = .returned (.tuple #[.agg (qw zm).toArray,.int .i64 10])∧Upd (fun k=>k=g) w w'∧Rd w' g s:=by
 have c0:∀(fn:Fn) (first cap:Array Value) (w:World),(Instr.makeFunc fn first cap).run Tryz.prog w = .ok (.func fn first cap) w:=fun _ _ _ _=>rfl
 have b9:=h.lt
 go_enter_defers Tryz.func204,Tryz.ntmps204
 go_upto_region 1 with fail
 have n0:qq w (w.alloc (.cells (qw zm).toArray 35)):=(Upd.refl _ _).alloc _
 have J:=ql w (.cells (qw zm).toArray 35)
 have z0:(w.alloc (.cells (qw zm).toArray 35)).heap.size=w.heap.size+1:=World.size_alloc _ _
 have N:=h.new n0
 generalize w.alloc (.cells (qw zm).toArray 35)=w0 at n0 J z0 N ⊢
 have n1:qq w0 (w0.alloc (.cells #[.int .i64 0] 26)):=(Upd.refl _ _).alloc _
 have V:=ql w0 (.cells #[.int .i64 0] 26)
 replace J:=n1.old J (fun h=>h)
 replace N:=N.new n1
 rw[z0] at V
 generalize w0.alloc (.cells #[.int .i64 0] 26)=w1 at n1 V J N ⊢
 have T:g≠w.heap.size:=by omega
 have v:g≠w.heap.size+1:=by omega
 have t:w.heap.size≠w.heap.size+1:=by omega
 obtain⟨A,K⟩:∃A,A=w.heap.size:=⟨_,rfl⟩
 obtain⟨E,M⟩:∃E,E=A+1:=⟨_,rfl⟩
 rw[←K] at J V T v t ⊢
 rw[←M] at V v t ⊢
 have b3:=qj (And.intro K M)
 have HA:=qj J
 have Y:=qj V
 have N1:=qj (n0.trans n1)
 clear K M V J n0 n1 h z0
 go_wp2_with fail
 refine(qjc g E s w1 N).mono ?_
 rintro e w2 ⟨p,q,r,rfl,n2,hB,D,H,I⟩
 have HB:=qj (And.intro hB (And.intro D (And.intro H I)))
 have a8:=n2.old (qg Y) (fun h=>h)
 have Z:=n2.old (qg HA) (fun h=>h)
 have O:=N.new n2
 have N2:=qj ((qg N1).trans n2)
 have b8:=zi (qg Y)
 clear hB N D H I n2
 go_wp2_with fail
 refine(qop g 32 s w2 O hs).mono ?_
 rintro e w3 ⟨rfl,q3⟩
 have b1:=O.new (q3.upd _)
 have z:=q3.old a8
 have a1:=q3.old Z
 have c3:=qk z 0
 have f3:=qo z 0
 have i:=zq z 0 (.int .i64 10)
 have C:Upd (fun k=>k=E) w3 (w3.setCell ⟨E,0,none⟩ (.int .i64 10)):=(Upd.refl _ _).set1 _ _
 have HU:=qj (And.intro (q3.upd (fun _=>False)) (And.intro C (And.intro i (C.old a1 t))))
 have HR:=qj b1
 clear a8 O b1 q3 z C i Z a1
 go_upto_region 3 with fail
 generalize w3.setCell ⟨E,0,none⟩ (.int .i64 10)=x at HU ⊢
 obtain⟨u3,C,i,a2⟩:=qg HU
 have c4:x.cell? ⟨E,0,none⟩=some (.int .i64 10):=qk i 0
 have o:=HsB.mk a2 qu
 have c5:=o.stOk zm qu
 have y:=o.put zm qu
 have W:Upd (· = A) x (x.setCells A 0 (qw zm)):=zy _
 have m:=W.old i (fun e=>t e.symm)
 have e5:(x.setCells A 0 (qw zm)).cell? ⟨E,0,none⟩=some (.int .i64 10):=qk m 0
 have f5:(x.setCells A 0 (qw zm)).frozen? ⟨E,0,none⟩=false:=qo m 0
 have HV:=qj (And.intro W (And.intro y m))
 clear u3 C i a2 o y W m c3 f3
 go_wp2_with fail
 obtain⟨W,y,m⟩:=qg HV
 obtain⟨u3,C,-,-⟩:=qg HU
 obtain⟨hB,D,H,I⟩:=qg HB
 obtain⟨c1,c2⟩:=qg b3
 have b7:=zi (qg HA)
 have b0:=zq m 0 (.int .i64 10)
 have u7:Upd (· = E) (x.setCells A 0 (qw zm)) ((x.setCells A 0 (qw zm)).setCell ⟨E,0,none⟩ (.int .i64 10)):=(Upd.refl _ _).set1 _ _
 have a6:=y.upd u7 t
 have R:Rd ((x.setCells A 0 (qw zm)).setCell ⟨E,0,none⟩ (.int .i64 10)) g s:=((((qg HR).upd C v).upd W T)).upd u7 v
 have U:Upd (fun k=>k=g∨k=A∨k=E) w2 ((x.setCells A 0 (qw zm)).setCell ⟨E,0,none⟩ (.int .i64 10)):=(((u3.mono (fun _ _ h=>h.elim)).trans (C.mono (fun k _ e=>(.inr (.inr e):k=g∨k=A∨k=E)))).trans (W.mono (fun k _ e=> .inr (.inl e)))).trans (u7.mono (fun k _ e=> .inr (.inr e)))
 generalize (x.setCells A 0 (qw zm)).setCell ⟨E,0,none⟩ (.int .i64 10)=X at b0 a6 R U ⊢
 have c7:X.cell? ⟨E,0,none⟩=some (.int .i64 10):=qk b0 0
 have b4:=hB.upd U (by omega) (by omega) (by omega)
 have u8:Upd (fun k=>k=g) X (X.setCell ⟨g,0,none⟩ (.string s)):=(Upd.refl _ _).set1 _ _
 have hU:Upd (fun k=>k=g) w (X.setCell ⟨g,0,none⟩ (.string s)):=(((qg N2).mono (fun _ _ h=>h.elim)).then U (fun k hk e=>by omega)).trans u8
 have a7:=a6.upd u8 (fun e=>T e.symm)
 have c8:=u8.cell c7 (fun e=>v e.symm)
 have b2:=R.set s
 refine leaves_cons (f:=199) (args:=#[.pointer (some ⟨p,0,none⟩),.pointer (some ⟨q,0,none⟩),.pointer (some ⟨r,0,none⟩)]) (by simp) (by simp[go_sem]) ?_
 refine(qsz g E p q r s s 10 _ X b4 c7 (by decide) R).mono ?_
 rintro e u' c6 ⟨rfl,rfl,rfl⟩
 generalize X.setCell ⟨g,0,none⟩ (.string s)=w8 at hU a7 c8 b2 ⊢
 have b6:=run_loadVar_row (P:=Tryz.prog) w8 A 35 35 (qw zm).toArray (0,0) _ a7.at_ Tryz.underlying35 rfl (by rw[List.size_toArray,qal,qu];exact Tryz.infoHsh)
 refine⟨.tuple #[.agg (qw zm).toArray,.int .i64 10],?_,rfl,hU,b2⟩
 have b5:(loadVar 26 ⟨E,0,none⟩).run Tryz.prog w8 = .ok (.int .i64 10) w8:=by
  simp[go_sem,loadVar,c8]
 simp[results,Tryz.results204,asAddr,b6,b5,Result.andThen]
end
section
open Go.RowKit
attribute [local go_sem ↓ high] zl qaf qah qa1
attribute [local go_sem] qa9 qb3 qb7 qdp qy
theorem q06(A G:Nat)(m:MsgV)(s:ByteArray)(w:World)(X:MsB w A m)(Y:Rd w G s)(z:A≠G)(hs:32≤s.size) :
  Calls Tryz.prog 175 #[qdj G,.pointer (some ⟨A,0,none⟩)] w fun e w'=>e = .returned (.tuple #[])∧Upd (fun k=>k=A∨k=G) w w'∧MsB w' A {m with hash:=rdH s} ∧ Rd w' G (s.extract 32 s.size):=by
 unfold qdj
 go_enter Tryz.func175,Tryz.ntmps175
 go_upto_region 2 with fail
 have H:qq w (w.alloc (.cells #[.pointer none,.pointer (some ⟨G,0,none⟩)] 234)):=(Upd.refl _ _).alloc _
 have E:=ql w (.cells #[.pointer none,.pointer (some ⟨G,0,none⟩)] 234)
 generalize w.alloc (.cells #[.pointer none,.pointer (some ⟨G,0,none⟩)] 234)=w1 at H E ⊢
 generalize w.heap.size=B at E ⊢
 have d0:w1.cell? ⟨B,0,none⟩=some (.pointer none):=qk E 0
 have d1:w1.cell? ⟨B,1,none⟩=some (.pointer (some ⟨G,0,none⟩)):=qk E 1
 have U:=qj (X.new H)
 have o:=q49 G s w1 (Y.new H) hs
 have W:=qj H
 clear E X Y H
 go_wp2_with fail
 refine o.mono ?_
 rintro e M ⟨rfl,R,C⟩
 obtain⟨x,q,I⟩:=qf7 M (rdH s) (qex s)
 have P:=qj ((((qg W).mono (fun _ _ h=>h.elim)).trans (R.mono (fun k _ e=>(Or.inr e:k=A∨k=G)))).trans (I.mono (fun _ _ h=>h.elim)))
 have t:=qj (((qg U).upd R z).new I)
 have O:=qj (C.new I)
 clear o W R C U d0 d1
 go_upto_region 6 with fail
 change Code.wp _ _ _ _ (qhh M (rdH s))
 generalize qhh M (rdH s)=w4 at q I P t O ⊢
 generalize M.heap.size=K at q x ⊢
 have V:=qj q
 clear x q I
 go_wp2_with fail
 refine(qef _).mono ?_
 rintro e N ⟨rfl,J⟩
 have rK:=((qg V).new (J.upd _)).row
 have i:=(qg t).new (J.upd _)
 have D:=(qg O).new (J.upd _)
 have x:stOk N A 4 32 (qw (rdH s)).toArray=true:=qd4 i.at_ (by rw[List.size_toArray,m.len i.len];omega) (by rw[List.size_toArray,qal];exact qex s) (by rw[Array.all_eq_true_iff_forall_mem];intro v hv;exact qnl _ v (by simpa using hv))
 have y:MsB (N.setCells A 4 (qw (rdH s))) A {m with hash:=rdH s} := ⟨by rw[qax i.at_ 4 _,qut m i.len _ (qex s)],qex s⟩
 have T:Upd (· = A) N (N.setCells A 4 (qw (rdH s))):=(Upd.refl _ _).setCells 4 _
 have Z:=qj (And.intro y (And.intro (D.upd T (fun e=>z e.symm)) (((qg P).trans (J.upd _)).trans (T.mono (fun k _ e=> .inl e)))))
 clear P t O J i D y T V
 go_wp2_with fail
 go_end0
 obtain⟨h1,h2,h3⟩:=qg Z
 exact⟨rfl,h3,h1,h2⟩
theorem qw5(A G:Nat)(m:MsgV)(s:ByteArray)(w:World)(K:MsB w A m)(E:Rd w G s)(M:A≠G)(N:s.size<32) :
  Calls Tryz.prog 175 #[qdj G,.pointer (some ⟨A,0,none⟩)] w fun e w'=>qd0 10 e∧Upd (fun k=>k=A∨k=G) w w':=by
 unfold qdj
 go_enter Tryz.func175,Tryz.ntmps175
 go_upto_region 2 with fail
 have t:qq w (w.alloc (.cells #[.pointer none,.pointer (some ⟨G,0,none⟩)] 234)):=(Upd.refl _ _).alloc _
 have q:=ql w (.cells #[.pointer none,.pointer (some ⟨G,0,none⟩)] 234)
 generalize w.alloc (.cells #[.pointer none,.pointer (some ⟨G,0,none⟩)] 234)=w1 at t q ⊢
 generalize w.heap.size=B at q ⊢
 have I:w1.cell? ⟨B,0,none⟩=some (.pointer none):=qk q 0
 have J:w1.cell? ⟨B,1,none⟩=some (.pointer (some ⟨G,0,none⟩)):=qk q 1
 have i:=qus G s w1 (E.new t) N
 have C:=qj t
 clear q K E t
 go_wp2_with fail
 refine i.mono ?_
 rintro e z ⟨rfl,H,v⟩
 obtain⟨x,o,y⟩:=qf7 z zm qu
 have D:=qj ((((qg C).mono (fun _ _ h=>h.elim)).trans (H.mono (fun k _ e=>(Or.inr e:k=A∨k=G)))).trans (y.mono (fun _ _ h=>h.elim)))
 clear i C H v I J
 go_upto_region 6 with fail
 change Code.wp _ _ _ _ (qhh z zm)
 generalize qhh z zm=O at o y D ⊢
 clear x o y
 go_wp2_with fail
 refine(qen 10 (by decide) _).mono ?_
 rintro e P ⟨rfl,rfl⟩
 exact⟨rfl,rfl,qg D⟩
def qq2(x:Fld)(A G:Nat)(m:MsgV)(s:ByteArray)(w:World)(e:Ending)(w':World):Prop :=
 Upd (fun k=>k=A∨k=G) w w'∧((x.wid≤s.size∧e = .returned (.tuple #[])∧MsB w' A (x.get s m)∧Rd w' G (s.extract x.wid s.size))∨(s.size<x.wid∧qd0 10 e))
theorem qo7(x:Fld)(base A G:Nat)(m:MsgV)(v:Value)(s:ByteArray)(w:World)(H:qfu base w v x)(t:MsB w A m)(D:Rd w G s)(i:A≠G) :
  ∃F E,v = .func (.func F) #[] E∧(∀args w,(callFunc F args).run Tryz.prog w = .ok (.enter F args) w)∧Calls Tryz.prog F (#[qdj G,.pointer (some ⟨A,0,none⟩)]++E) w (qq2 x A G m s w):=by
 have I:=t.len
 have K:0≤rdN s 2∧rdN s 2<65536:=qd2 s 2
 have M:0≤rdN s 4∧rdN s 4<4294967296:=qd2 s 4
 have ok:∀ {e w'},x.wid≤s.size→(e = .returned (.tuple #[])∧Upd (fun k=>k=A∨k=G) w w'∧MsB w' A (x.get s m)∧Rd w' G (s.extract x.wid s.size))→qq2 x A G m s w e w':=fun o ⟨P,K,R,M⟩=>⟨K,.inl ⟨o,P,R,M⟩⟩
 have C:∀ {e w'},s.size<x.wid→(qd0 10 e∧Upd (fun k=>k=A∨k=G) w w')→qq2 x A G m s w e w':=fun o ⟨P,K⟩=>⟨K,.inr ⟨o,P⟩⟩
 cases x with
 | ch =>
  obtain⟨p,q,rfl,N,O,y,z⟩:=H;refine⟨_,_,rfl,enters_of Tryz.func214 (by kernel_rfl) rfl,?_⟩;by_cases o:(4:Nat)≤s.size
  ·exact(q48 203 1 A p q G 4 _ m _ s w (enters_of Tryz.func203 (by kernel_rfl) rfl) (qmk A) y z t rfl D i (by decide) o M (q5i m _) I).mono fun e w' h=>ok o h
  ·exact(q08 203 1 A p q G 4 _ m s w (enters_of Tryz.func203 (by kernel_rfl) rfl) (qmk A) y z t rfl D i (by decide) (by omega)).mono fun e w' h=>C (show s.size<4 by omega) h
 | id =>
  obtain⟨p,q,rfl,N,O,y,z⟩:=H;refine⟨_,_,rfl,enters_of Tryz.func200 (by kernel_rfl) rfl,?_⟩;by_cases o:(8:Nat)≤s.size
  ·exact(quo 169 2 A p q G 8 _ m _ s w (enters_of Tryz.func169 (by kernel_rfl) rfl) (qmg A) y z t rfl D i (by decide) o (q5j m _) I).mono fun e w' h=>ok o h
  ·exact(qqi 169 2 A p q G 8 _ m s w (enters_of Tryz.func169 (by kernel_rfl) rfl) (qmg A) y z t rfl D i (by decide) (by omega)).mono fun e w' h=>C (show s.size<8 by omega) h
 | amount =>
  obtain⟨p,q,rfl,N,O,y,z⟩:=H;refine⟨_,_,rfl,enters_of Tryz.func200 (by kernel_rfl) rfl,?_⟩;by_cases o:(8:Nat)≤s.size
  ·exact(quo 170 3 A p q G 8 _ m _ s w (enters_of Tryz.func170 (by kernel_rfl) rfl) (qmh A) y z t rfl D i (by decide) o (qof m _) I).mono fun e w' h=>ok o h
  ·exact(qqi 170 3 A p q G 8 _ m s w (enters_of Tryz.func170 (by kernel_rfl) rfl) (qmh A) y z t rfl D i (by decide) (by omega)).mono fun e w' h=>C (show s.size<8 by omega) h
 | expiry =>
  obtain⟨p,q,rfl,N,O,y,z⟩:=H;refine⟨_,_,rfl,enters_of Tryz.func201 (by kernel_rfl) rfl,?_⟩;have J:m.cells[36]? = some (.int .i64 m.expiry):=by
   have:=t.cells.2.2.2.2.1;rwa [qk t.at_,List.getElem?_toArray] at this
  by_cases o:(4:Nat)≤s.size
  ·exact(qun 172 36 A p q G 4 _ m _ s w (enters_of Tryz.func172 (by kernel_rfl) rfl) (qmi A) y z t J D i (by decide) o M (qog m I _) I).mono fun e w' h=>ok o h
  ·exact(qqh 172 36 A p q G 4 _ m s w (enters_of Tryz.func172 (by kernel_rfl) rfl) (qmi A) y z t J D i (by decide) (by omega)).mono fun e w' h=>C (show s.size<4 by omega) h
 | number =>
  obtain⟨p,q,rfl,N,O,y,z⟩:=H;refine⟨_,_,rfl,enters_of Tryz.func201 (by kernel_rfl) rfl,?_⟩;have J:m.cells[37]? = some (.int .i64 m.number):=by
   have:=t.cells.2.2.2.2.2.1;rwa [qk t.at_,List.getElem?_toArray] at this
  by_cases o:(2:Nat)≤s.size
  ·exact(qun 173 37 A p q G 2 _ m _ s w (enters_of Tryz.func173 (by kernel_rfl) rfl) (qmj A) y z t J D i (by decide) o (by omega) (qoi m I _) I).mono fun e w' h=>ok o h
  ·exact(qqh 173 37 A p q G 2 _ m s w (enters_of Tryz.func173 (by kernel_rfl) rfl) (qmj A) y z t J D i (by decide) (by omega)).mono fun e w' h=>C (show s.size<2 by omega) h
 | hash =>
  have H:v=_:=H;subst H;refine⟨_,_,rfl,enters_of Tryz.func175 (by kernel_rfl) rfl,?_⟩;by_cases o:(32:Nat)≤s.size
  ·exact(q06 A G m s w t D i o).mono fun e w' h=>ok o h
  ·exact(qw5 A G m s w t D i (by omega)).mono fun e w' h=>C (show s.size<32 by omega) h
theorem qsp(base A G:Nat)(v:Value)(xs:List Fld)(m:MsgV)(s:ByteArray)(w:World)(hv:FldsO base w v xs)(hA:MsB w A m)(hG:Rd w G s)(b0:A≠G)(b6:A<base)(b7:G<base)(c2:xs.length≤100) :
  Calls Tryz.prog 139 #[qdj G,v,.pointer (some ⟨A,0,none⟩)] w fun e w'=>Upd (fun k=>k=A∨k=G) w w'∧((∃q r,qdi xs s m=some (q,r)∧e = .returned (.tuple #[])∧MsB w' A q∧Rd w' G r)∨(qdi xs s m=none∧qd0 10 e)):=by
 obtain⟨vs,C,c0,W⟩:=hv
 obtain⟨va,b5,a2⟩:=qaa C
 have t:∀(i:Nat) (u:Value),vs[i]? = some u→∃g,va=some ⟨g,0,none⟩∧base≤g∧w.cell? ⟨g,i,none⟩=some u:=by
  intro i u R;have a1:=(List.getElem?_eq_some_iff.1 R).1;rcases C.2 with ⟨e,e0⟩ | ⟨g,cap,a8,e,P,hg,_,_,hs,ht⟩
  ·omega
  ·rw[a2] at e;injection e with e1;refine⟨g,e1,P,?_⟩;rw[qk hg];have:a8.toList[i]? = some u:=by
    rw[←R,←ht,List.getElem?_take_of_lt (by omega)]
   rwa [Array.getElem?_toList] at this
 subst a2
 clear C
 have I:=qj t
 have a6:=qj W
 clear t W
 unfold qdj
 go_enter Tryz.func139,Tryz.ntmps139
 go_upto_region 1 with fail
 have n1:qq w (w.alloc (.cells #[.pointer none,.pointer (some ⟨G,0,none⟩)] 234)):=(Upd.refl _ _).alloc _
 have P:=ql w (.cells #[.pointer none,.pointer (some ⟨G,0,none⟩)] 234)
 have b2:=hG.lt
 have b1:=hA.lt
 generalize w.alloc (.cells #[.pointer none,.pointer (some ⟨G,0,none⟩)] 234)=w1 at n1 P ⊢
 have K:G≠w.heap.size∧A≠w.heap.size:=⟨by omega,by omega⟩
 generalize w.heap.size=B at P K ⊢
 have HB:=qj P
 have T:=qj (show ∃q r,qdi (xs.take 0) s m=some (q,r)∧MsB w1 A q∧Rd w1 G r from⟨m,s,rfl,hA.new n1,hG.new n1⟩)
 have N1:=qj n1
 have c1:(xs.length:Int)≤100:=by omega
 clear P hA hG n1 b2 b1
 go_wp2_with fail
 go_loopw [7,10] (fun _ iv wr=>∃i:Nat,iv = .int .i64 (i:Int)∧i≤xs.length∧Hid (∃q r,qdi (xs.take i) s m=some (q,r)∧MsB wr A q∧Rd wr G r)∧Upd (fun k=>k=A∨k=G) w1 wr) (fun _ iv _=>xs.length-(intOf iv).toNat)
 case atStart=>exact⟨0,rfl,Nat.zero_le _,T,Upd.refl _ _⟩
 case round =>
  obtain⟨i,rfl,hi,hM,N⟩:=hrel;obtain⟨O,rfl⟩:∃O:World,O=wr:=⟨_,rfl⟩;obtain⟨q,r,y,H,E⟩:=qg hM;clear T;by_cases a1:i<xs.length
  ·obtain⟨x,hx⟩:∃x,xs[i]? = some x:=⟨_,List.getElem?_eq_getElem a1⟩;obtain⟨u,R⟩:∃u,vs[i]? = some u:=⟨_,List.getElem?_eq_getElem (by omega)⟩;obtain⟨g,rfl,b8,hc⟩:=qg I i u R;have hf:=qg a6 i x u hx R;have Y:qfu base O u x:=(hf.new (qg N1)).upd N (fun k hk e=>by omega);have b3:O.cell? ⟨g,i,none⟩=some u:=N.cell ((qg N1).cell hc (fun h=>h)) (fun e=>e.elim (fun e=>by have e:g=A:=e;omega) (fun e=>by have e:g=G:=e;omega));have D:=N.old (qg HB) (fun e=>e.elim (fun e=>K.2 e.symm) (fun e=>K.1 e.symm));have rP:=qaj D 2 rfl;have d0:O.cell? ⟨B,0,none⟩=some (.pointer none):=qk D 0;have d1:O.cell? ⟨B,1,none⟩=some (.pointer (some ⟨G,0,none⟩)):=qk D 1;obtain⟨F,b4,rfl,hE,o⟩:=qo7 x base A G q u r O Y H E b0;have Z:=qzz hx y;have z:=fun(h:qdi (xs.take (i+1)) s m=none)=>(show qdi xs s m=none by rw[←List.take_append_drop (i+1) xs];exact qzy _ _ h)
   have J:=qj (And.intro Z z);have b9:(i:Int)<(xs.length:Int):=by omega
   unfold qdj at o;clear hf Y hc D hx R Z z hM H E y;go_wp2_with fail;refine o.mono ?_;rintro e w3 ⟨u3,(⟨hs,rfl,V,U⟩ | ⟨hs,rfl⟩)⟩
   ·have M:=N.trans u3;have a7:Hid (∃q r,qdi (xs.take (i+1)) s m=some (q,r)∧MsB w3 A q∧Rd w3 G r):=qj ⟨_,_,by rw[(qg J).1,if_neg (by omega)],V,U⟩;clear o rP d0 d1 b3 hE V U u3 N hs;go_wp2_with fail;go_roundw
    case rel=>exact⟨i+1,by go_num,by omega,a7,M⟩
    case measure=>simp[intOf];omega
   ·have M:=N.trans u3;have X:qdi xs s m=none:=(qg J).2 (by rw[(qg J).1,if_pos hs]);exact⟨rfl,((qg N1).mono (fun _ _ h=>h.elim)).trans M,.inr ⟨X,rfl⟩⟩
  ·obtain rfl:i=xs.length:=by omega
   rw[List.take_length] at y;have HX:=qj (And.intro y (And.intro H E));clear hM H E y;go_wp2_with fail;go_end0;obtain⟨h1,h2,h3⟩:=qg HX;exact⟨((qg N1).mono (fun _ _ h=>h.elim)).trans N,.inl ⟨_,_,h1,rfl,h2,h3⟩⟩
end
section
open Go.RowKit
theorem q50(i:Int)(w:World):(taF (qrp i)).run Tryz.prog w = .ok (.tuple #[.agg #[.int .i64 i],.bool true]) w:=by
 unfold qrp taF;kernel_rfl
attribute [local go_sem ↓ high] qyq
attribute [local go_sem] q50
def qm5(i:Int)(b:Bool):FrameMode:= .panicking [{v:=qrp i,recovered:=b}]
theorem qxr(E:Nat)(i:Int)(w:World)(D:w.heap[E]? = some (.cells #[.int .i64 0] 26 (0,0))) :
  CallsD Tryz.prog 165 #[.pointer (some ⟨E,0,none⟩)] (qm5 i false) w fun e H w'=>e = .returned (.tuple #[])∧H=qm5 i true∧∃w1,qq w w1∧w'=w1.setCell ⟨E,0,none⟩ (.int .i64 i):=by
 refine callsD_of_wpS Tryz.func165 rfl fun z cs x=> ?_
 unfold qm5 at x
 apply wpS_seq
 apply wpS_region
 simp[wpOpsS,go_sem,recoverD,x,Tryz.ntmps165,Exit.thenS]
 have q:qq w (w.alloc (.cells #[.int .i64 i] 265)):=(Upd.refl _ _).alloc _
 have o:=ql w (.cells #[.int .i64 i] 265)
 generalize w.alloc (.cells #[.int .i64 i] 265)=w1 at q o ⊢
 have m:=q.old D (fun h=>h)
 have y:w1.cell? ⟨E,0,none⟩=some (.int .i64 0):=qk m 0
 have C:w1.frozen? ⟨E,0,none⟩=false:=qo m 0
 have v:w1.cell? ⟨w.heap.size,0,none⟩=some (.int .i64 i):=qk o 0
 generalize w.heap.size=B at o v ⊢
 apply wpS_seq
 apply wpS_region
 simp[wpOpsS,go_sem,Exit.thenS]
 refine wpS_cond (t:=true) (by simp[Act.eval,Array.replicate]) ?_
 simp only[if_true]
 apply wpS_region
 simp[wpOpsS,go_sem,v,y,C]
 cases z
 simp[bodyPostS,results,Tryz.results165,qm5]
 exact⟨w1,q,rfl⟩
def q6j(m:World→Prop)(D:Int→World→Prop)(e:Ending)(w':World):Prop:=(e = .returned (.tuple #[])∧m w')∨∃i:Int,(i != 0)=true∧qd0 i e∧D i w'
theorem q76(b n base:Nat)(F:Nat→FuncId)(q:Nat→Array Value)(T:Nat→Prop)(C:Nat→World→Prop)(D:Int→World→Prop)(w:World)(hn:n≤100)
  (x:qxw w b n F q) (hT:∀k,T k→k<base) (hb:base≤b) (a7:base≤w.heap.size) (b2:b<w.heap.size)
  (M:∀w',qq w w'→C 0 w') (U:∀w w',C n w→Upd (fun k=>base≤k) w w'→C n w') (b1:∀m w w',D m w→Upd (fun k=>base≤k) w w'→D m w')
  (hs:∀i,i<n→∀w',C i w'→(∀args w,(callFunc (F i) args).run Tryz.prog w = .ok (.enter (F i) args) w)∧Calls Tryz.prog (F i) (q i) w' fun e v=>Upd T w' v∧q6j (C (i+1)) D e v) :
  Calls Tryz.prog 132 #[.slice (some ⟨b,0,none⟩) n n] w fun e w'=>Upd T w w'∧((e = .returned (.int .i64 0)∧C n w')∨∃m:Int,(m != 0)=true∧e = .returned (.int .i64 m)∧D m w'):=by
 have b4:∀(fn:Fn) (first cap:Array Value) (w:World),(Instr.makeFunc fn first cap).run Tryz.prog w = .ok (.func fn first cap) w:=fun _ _ _ _=>rfl
 have b5:(n:Int)≤100:=by omega
 go_enter_defers Tryz.func132,Tryz.ntmps132
 go_upto_region 1 with fail
 have W:qq w (w.alloc (.cells #[.int .i64 0] 26)):=(Upd.refl _ _).alloc _
 have o:=ql w (.cells #[.int .i64 0] 26)
 have h1:C 0 (w.alloc (.cells #[.int .i64 0] 26)):=M _ W
 generalize w.alloc (.cells #[.int .i64 0] 26)=w1 at W o h1 ⊢
 have H:base≤w.heap.size∧b≠w.heap.size:=⟨a7,by omega⟩
 generalize O:w.heap.size=E at o H ⊢
 have K:=qj O
 clear O
 have HE:=qj o
 have H1:=qj h1
 have HR:=qj x
 have Y:=qj W
 clear o h1 x W M
 go_wp2_with fail
 go_loopw [8] (fun iv wr=>∃i:Nat,iv = .int .i64 (i:Int)∧i≤n∧Hid (C i wr)∧Upd T w1 wr) (fun iv _=>n-(intOf iv).toNat)
 case atStart=>exact⟨0,rfl,Nat.zero_le _,H1,Upd.refl _ _⟩
 case round =>
  obtain⟨i,rfl,hi,hC,u⟩:=hrel;obtain⟨y,rfl⟩:∃y:World,y=wr:=⟨_,rfl⟩;by_cases I:i<n
  ·have b3:(i:Int)<(n:Int):=by omega
   obtain⟨a8,t⟩:=hs i I y (qg hC);have hc:=u.cell ((qg Y).cell (qg HR i I) (fun h=>h)) (fun h=>by have h:T b:=h;have:=hT b h;omega);generalize F i=Fi at *
   generalize q i=ci at *
   clear hC;go_wp2_with fail;refine t.mono ?_;rintro e w3 ⟨u3,R⟩;have u4:=u.trans u3;rcases R with ⟨rfl,z⟩ | ⟨m,b0,rfl,hD⟩
   ·have z:=qj z;clear hc a8 t u u3;go_wp2_with fail;go_roundw
    case rel=>exact⟨i+1,by go_num,I,z,u4⟩
    case measure=>simp[intOf];omega
   ·have o:=u4.old (qg HE) (fun h=>by have h:T E:=h;have:=hT E h;omega);have hz:=qg K;refine leaves_cons (f:=165) (args:=#[.pointer (some ⟨E,0,none⟩)]) (by simp) (by simp[go_sem]) ?_;refine(qxr E m w3 o).mono ?_;rintro e u' v ⟨rfl,rfl,X,n5,rfl⟩;have P:=zq (n5.old o (fun h=>h)) 0 (.int .i64 m);have J:Upd (fun k=>k=E) w3 (X.setCell ⟨E,0,none⟩ (.int .i64 m)):=(n5.mono (fun _ _ h=>h.elim)).set1 _ _;have N:=b1 _ _ _ hD (J.mono (fun k _ e=>by rw[e];exact H.1));have V:Upd T w (X.setCell ⟨E,0,none⟩ (.int .i64 m)):=(((qg Y).mono (fun _ _ h=>h.elim)).trans u4).then J (fun k hk e=>by omega);generalize X.setCell ⟨E,0,none⟩ (.int .i64 m)=w6 at P J N V ⊢;have Z:w6.cell? ⟨E,0,none⟩=some (.int .i64 m):=qk P 0;simp[Go.Leaves,settle,qm5,results,Tryz.results132,go_sem,Z];exact⟨V,.inr ⟨m,by simpa using b0,rfl,N⟩⟩
  ·obtain rfl:i=n:=by omega
   have o:=u.old (qg HE) (fun h=>by have h:T E:=h;have:=hT E h;omega);have a6:=o;have f0:=qo o 0;have c0:=qk o 0;have hU:=qj u;clear u o;go_wp2_with fail;have J:Upd (fun k=>k=E) y (y.setCell ⟨E,0,none⟩ (.int .i64 0)):=(Upd.refl _ _).set1 _ _;have c5:(y.setCell ⟨E,0,none⟩ (.int .i64 0)).cell? ⟨E,0,none⟩=some (.int .i64 0):=qk (zq (a6) 0 (.int .i64 0)) 0;have a1:=U _ _ (qg hC) (J.mono (fun k _ e=>by rw[e];exact H.1));have V:Upd T w (y.setCell ⟨E,0,none⟩ (.int .i64 0)):=(((qg Y).mono (fun _ _ h=>h.elim)).trans (qg hU)).then J (fun k hk e=>by have:=qg K;omega);generalize y.setCell ⟨E,0,none⟩ (.int .i64 0)=X at *
   refine leaves_cons (f:=165) (args:=#[.pointer (some ⟨E,0,none⟩)]) (by simp) (by simp[go_sem]) ?_;refine(qu5 ⟨E,0,none⟩ _).mono ?_;rintro e u' v ⟨rfl,rfl,n⟩;have Z:=n.cell c5 (fun h=>h);have a2:=U _ _ a1 (n.mono (fun _ _ h=>h.elim));have U6:Upd T w v:=V.trans (n.mono (fun _ _ h=>h.elim));refine⟨.int .i64 0,?_,U6,.inl ⟨rfl,a2⟩⟩;simp[results,Tryz.results132,go_sem,Z]
end
section
open Go.RowKit
attribute [local go_sem ↓ high] ze zf zg
attribute [local go_sem] qau qav qaw qy
theorem q7z(s:ByteArray):rdN s 1=bt s 0:=by
 show 0*256+bt s 0=_;omega
theorem q5k(m:MsgV)(k:Int):m.cells.toArray.setIfInBounds 0 (.int .i64 k)=({m with kind:=k} : MsgV).cells.toArray:=rfl
def AtR(w:World)(p g:Nat):Prop:=w.cell? ⟨p,0,none⟩=some (.pointer (some ⟨g,0,none⟩))
theorem q2z(K A G:Nat)(s:ByteArray)(w:World)(M:AtR w K G)(E:MsB w A MsgV.zero)(C:Rd w G s)(v:A≠G) :
  Calls Tryz.prog 133 #[.pointer (some ⟨K,0,none⟩),.pointer (some ⟨A,0,none⟩)] w fun e w'=>Upd (fun k=>k=A∨k=G) w w'∧((s.size≠0∧e = .returned (.tuple #[])∧MsB w' A (qbn (bt s 0))∧Rd w' G (s.extract 1 s.size))∨(s.size=0∧qd0 10 e)):=by
 have X:=qf3 s 0
 by_cases N:s.size=0
 ·have o:=qg9 G 1 s w C (by decide) (by decide) (by omega);unfold AtR at M;clear E C;go_enter Tryz.func133,Tryz.ntmps133;go_wp2_with fail;refine o.mono ?_;rintro e w1 ⟨rfl,q,-⟩;have z:=qj (q.mono (fun k _ e=>(Or.inr e:k=A∨k=G)));clear o q;go_wp2_with fail;refine(qen 10 (by decide) _).mono ?_;rintro e y ⟨rfl,rfl⟩;exact⟨rfl,qg z,.inr ⟨N,rfl⟩⟩
 ·have o:=qmq G 1 s w C (by decide) (by decide) (by omega);rw[q7z] at o;have U:IntKind.i64.wrap (bt s 0)=bt s 0:=qgq (by omega) (by omega);unfold AtR at M;have I:=qj E;clear E C;go_enter Tryz.func133,Tryz.ntmps133;go_wp2_with fail;refine o.mono ?_;rintro e w1 ⟨rfl,q,x⟩;have z:=qj (q.mono (fun k _ e=>(Or.inr e:k=A∨k=G)));have t:=qj ((qg I).upd q v);have J:=qj x;clear o q x I;go_wp2_with fail;refine(qef _).mono ?_;rintro e y ⟨rfl,D⟩;have i:=(qg t).new (D.upd _);have V:y.cell? ⟨A,0,none⟩=some (.int .i64 0):=i.cells.1;have W:y.frozen? ⟨A,0,none⟩=false:=qo i.at_ 0;have m:=zq i.at_ 0 (.int .i64 (bt s 0));rw[q5k] at m;have H:Upd (· = A) y (y.setCell ⟨A,0,none⟩ (.int .i64 (bt s 0))):=(Upd.refl _ _).set1 _ _;have O:=qj (And.intro (show MsB _ A (qbn (bt s 0)) from⟨m,qu⟩) (And.intro (((qg J).new (D.upd _)).upd H (fun e=>v e.symm)) (((qg z).trans (D.upd _)).trans (H.mono (fun k _ e=> .inl e)))));clear m H i D z J t;go_wp2_with fail;go_end0;obtain⟨P,R,T⟩:=qg O;exact⟨T,.inl ⟨N,rfl,P,R⟩⟩
theorem q22(A L:Nat)(k:Int)(v0:Value)(w:World)(E:MsB w A (qbn k))(y:w.heap[L]? = some (.cells #[v0] 226 (0,0))) :
  Calls Tryz.prog 136 #[.pointer (some ⟨A,0,none⟩),.pointer (some ⟨L,0,none⟩)] w fun e w'=>Upd (fun k=>k=L) w w'∧((∃xs v,fieldsOf k=some xs∧e = .returned (.tuple #[])∧w'.cell? ⟨L,0,none⟩=some v∧FldsO w.heap.size w' v xs)∨(fieldsOf k=none∧qd0 70 e)):=by
 have V:w.cell? ⟨A,0,none⟩=some (.int .i64 k):=E.cells.1
 have U:=zi y
 cases H:fieldsOf k with
 | none =>
  have t:=qld k H w;unfold qcb at t;have D:=qj y;clear E y;go_enter Tryz.func136,Tryz.ntmps136;go_wp2_with fail;refine t.mono ?_;rintro e w1 ⟨rfl,q⟩;have m:=q.old (qg D) (fun h=>h);have N:=qk m 0;have O:=qo m 0;have x:Upd (fun k=>k=L) w (w1.setCell ⟨L,0,none⟩ (.slice none 0 0)):=(q.mono (fun _ _ h=>h.elim)).set1 _ _;have M:=qj x;clear t q m x;go_wp2_with fail;refine(qen 70 (by decide) _).mono ?_;rintro e Y ⟨rfl,rfl⟩;exact⟨rfl,qg M,.inr ⟨by trivial,rfl⟩⟩
 | some xs =>
  have t:=qi1 k xs H w;have D:=qj y;clear E y;go_enter Tryz.func136,Tryz.ntmps136;go_wp2_with fail;refine t.mono ?_;rintro e w1 ⟨v,rfl,q,o⟩;obtain⟨I,J,rfl⟩:∃a c,v = .slice a xs.length c:=by
   obtain⟨X,C,-⟩:=o;exact qaa C
  have m:=q.old (qg D) (fun h=>h);have N:=qk m 0;have O:=qo m 0;have z:=zq m 0 (.slice I xs.length J);have x:Upd (fun k=>k=L) w1 (w1.setCell ⟨L,0,none⟩ (.slice I xs.length J)):=(Upd.refl _ _).set1 _ _;have K:=qj (And.intro ((q.mono (fun _ _ h=>h.elim)).trans x) (And.intro z (o.upd x (fun i W e=>by omega))));clear t q m x z o;go_wp2_with fail;go_end0;obtain⟨P,R,T⟩:=qg K;exact⟨P,.inl ⟨_,_,rfl,rfl,qk R 0,T⟩⟩
theorem q23(base H L A G:Nat)(v:Value)(xs:List Fld)(m:MsgV)(s:ByteArray)(w:World)(T:AtR w H G)(U:w.cell? ⟨L,0,none⟩=some v)(z:FldsO base w v xs)(I:MsB w A m)(J:Rd w G s)(o:A≠G)(q:A<base)(t:G<base)(C:xs.length≤100) :
  Calls Tryz.prog 138 #[.pointer (some ⟨H,0,none⟩),.pointer (some ⟨L,0,none⟩),.pointer (some ⟨A,0,none⟩)] w fun e w'=>Upd (fun k=>k=A∨k=G) w w'∧((∃D r,qdi xs s m=some (D,r)∧e = .returned (.tuple #[])∧MsB w' A D∧Rd w' G r)∨(qdi xs s m=none∧qd0 10 e)):=by
 obtain⟨V,W,rfl⟩:∃a c,v = .slice a xs.length c:=by
  obtain⟨X,i,-⟩:=z;exact qaa i
 have x:=qsp base A G _ xs m s w z I J o q t C
 unfold qdj at x
 unfold AtR at T
 clear z I J
 go_enter Tryz.func138,Tryz.ntmps138
 go_wp2_with fail
 refine x.mono ?_
 rintro e w1 ⟨E,(⟨D,r,y,rfl,K,M⟩ | ⟨y,rfl⟩)⟩
 ·have N:=qj (And.intro E (And.intro K M));clear x E K M;go_wp2_with fail;go_end0;obtain⟨O,P,R⟩:=qg N;exact⟨O,.inl ⟨_,_,y,rfl,P,R⟩⟩
 ·exact⟨rfl,E,.inr ⟨y,rfl⟩⟩
theorem q28(v G:Nat)(s:ByteArray)(w:World)(z:AtR w v G)(o:Rd w G s) :
  Calls Tryz.prog 140 #[.pointer (some ⟨v,0,none⟩)] w fun e w'=>qq w w'∧((s.size=0∧e = .returned (.tuple #[]))∨(s.size≠0∧qd0 11 e)):=by
 unfold AtR at z
 by_cases t:s.size=0
 ·have i:=q9s G s w o t;clear o;go_enter Tryz.func140,Tryz.ntmps140;go_wp2_with fail;refine i.mono ?_;rintro e w1 ⟨rfl,m⟩;have q:=qj (m.upd (fun _=>False));clear i m;go_wp2_with fail;refine(qef _).mono ?_;rintro e C ⟨rfl,x⟩;have y:=qj ((qg q).trans (x.upd _));clear x;go_wp2_with fail;go_end0;exact⟨qg y,.inl ⟨t,rfl⟩⟩
 ·have i:=q3f G s w o (by omega);clear o;go_enter Tryz.func140,Tryz.ntmps140;go_wp2_with fail;refine i.mono ?_;rintro e w1 ⟨rfl,m⟩;have q:=qj (m.upd (fun _=>False));clear i m;go_wp2_with fail;refine(qen 11 (by decide) _).mono ?_;rintro e C ⟨rfl,rfl⟩;exact⟨rfl,qg q,.inr ⟨t,rfl⟩⟩
theorem q29(A:Nat)(m:MsgV)(w:World)(t:MsB w A m)(v:MsgOk m) :
  Calls Tryz.prog 142 #[.pointer (some ⟨A,0,none⟩)] w fun e w'=>qq w w'∧((qap m=true∧e = .returned (.tuple #[]))∨(qap m=false∧qd0 1 e)):=by
 have x:=t.row
 have i:=qg6 m v w
 clear t v
 cases o:qap m with
 | true =>
  rw[o] at i;clear o;go_enter Tryz.func142,Tryz.ntmps142;go_wp2_with fail;refine i.mono ?_;rintro e w1 ⟨rfl,q⟩;clear i x;go_wp2_with fail;go_end0;exact⟨q,.inl ⟨by trivial,rfl⟩⟩
 | false =>
  rw[o] at i;clear o;go_enter Tryz.func142,Tryz.ntmps142;go_wp2_with fail;refine i.mono ?_;rintro e w1 ⟨rfl,q⟩;clear i x;go_wp2_with fail;refine(qen 1 (by decide) _).mono ?_;rintro e y ⟨rfl,rfl⟩;exact⟨rfl,q,.inr ⟨by trivial,rfl⟩⟩
end
section
open Go.RowKit
def q69(w0:World)(A L G:Nat)(v0:Value)(s:ByteArray)(i:Nat)(a:World):Prop :=
 (i<5→Upd (fun k=>k=A∨k=G∨k=L) w0 a) ∧
 (if i=0 then MsB a A MsgV.zero∧Rd a G s∧a.heap[L]? = some (.cells #[v0] 226 (0,0))
 else if i=1 then s.size≠0∧MsB a A (qbn (bt s 0))∧Rd a G (s.extract 1 s.size)∧a.heap[L]? = some (.cells #[v0] 226 (0,0))
 else if i=2 then s.size≠0∧MsB a A (qbn (bt s 0))∧Rd a G (s.extract 1 s.size)∧∃xs v base,w0.heap.size≤base∧fieldsOf (bt s 0)=some xs∧a.cell? ⟨L,0,none⟩=some v∧FldsO base a v xs
 else ∃xs m r,s.size≠0∧fieldsOf (bt s 0)=some xs∧qdi xs (s.extract 1 s.size) (qbn (bt s 0))=some (m,r)∧MsB a A m∧Rd a G r∧(4≤i→r.size=0)∧(5≤i→qap m=true))
def q9q(i:Nat):Nat:=if i=0 then 133 else if i=1 then 136 else if i=2 then 138 else if i=3 then 140 else 142
def qrm(m A L:Nat)(i:Nat):Array Value :=
 if i=0 then #[.pointer (some ⟨m,0,none⟩),.pointer (some ⟨A,0,none⟩)] else if i=1 then #[.pointer (some ⟨A,0,none⟩),.pointer (some ⟨L,0,none⟩)] else if i=2 then #[.pointer (some ⟨m,0,none⟩),.pointer (some ⟨L,0,none⟩),.pointer (some ⟨A,0,none⟩)] else if i=3 then #[.pointer (some ⟨m,0,none⟩)] else #[.pointer (some ⟨A,0,none⟩)]
theorem qzl(C A L G b:Nat)(s:ByteArray)(v0:Value)(w:World)(hR:AtR w C G)(hA:MsB w A MsgV.zero)(hG:Rd w G s)(hL:w.heap[L]? = some (.cells #[v0] 226 (0,0)))(V:qxw w b 5 q9q (qrm C A L))(R:A≠G)(T:A≠L)(U:G≠L)(M:C≠A∧C≠G∧C≠L)(hb:A<b∧G<b∧L<b)(X:b<w.heap.size) :
  Calls Tryz.prog 132 #[.slice (some ⟨b,0,none⟩) 5 5] w fun e w'=>Upd (fun k=>k=A∨k=G∨k=L) w w'∧((e = .returned (.int .i64 0)∧q69 w A L G v0 s 5 w')∨∃P:Int,(P != 0)=true∧e = .returned (.int .i64 P)∧qcc s=(MsgV.zero,P)):=by
 have hz:=hA.lt
 have a2:=qf3 s 0
 have Z:∀w1 w2:World,q69 w A L G v0 s 5 w1→Upd (fun k=>b≤k) w1 w2→q69 w A L G v0 s 5 w2:=by
  rintro w1 w2 ⟨-,xs,m,r,o,q,t,x,z,E,W⟩ u2;exact⟨fun h=>absurd h (by decide),xs,m,r,o,q,t,x.upd u2 (by omega),z.upd u2 (by omega),E,W⟩
 refine q76 b 5 b q9q (qrm C A L) (fun k=>k=A∨k=G∨k=L) (q69 w A L G v0 s) (fun P _=>qcc s=(MsgV.zero,P)) w (by decide) V (fun k hk=>by omega) (Nat.le_refl _) (by omega) X ?_ Z (fun _ _ _ h _=>h) ?_
 ·intro w' n;exact⟨fun _=>n.mono (fun _ _ h=>h.elim),hA.new n,hG.new n,n.old hL (fun h=>h)⟩
 ·intro i hi a J;obtain⟨u0,J⟩:=J;have u:=u0 hi;clear u0;have N:AtR a C G:=u.cell hR (fun e=>e.elim M.1 (fun e=>e.elim M.2.1 M.2.2));have O:∀ {I:World},Upd (fun k=>k=A∨k=G) a I→Upd (fun k=>k=A∨k=G∨k=L) a I:=fun h=>h.mono (fun k _ e=>e.elim .inl (fun e=> .inr (.inl e)))
  rcases (by omega:i=0∨i=1∨i=2∨i=3∨i=4) with rfl | rfl | rfl | rfl | rfl
  ·refine⟨enters_of Tryz.func133 (by kernel_rfl) rfl,?_⟩;obtain⟨x,z,K⟩:MsB a A MsgV.zero∧Rd a G s∧a.heap[L]? = some (.cells #[v0] 226 (0,0)):=J;refine(q2z C A G s a N x z R).mono ?_;rintro e I ⟨y,(⟨o,rfl,q,t⟩ | ⟨o,H⟩)⟩
   ·exact⟨O y,.inl ⟨rfl,fun _=>u.trans (O y),o,q,t,y.old K (fun e=>e.elim (fun e=>T e.symm) (fun e=>U e.symm))⟩⟩
   ·exact⟨O y,.inr ⟨10,by decide,H,qzj o⟩⟩
  ·refine⟨enters_of Tryz.func136 (by kernel_rfl) rfl,?_⟩;obtain⟨o,x,z,K⟩:s.size≠0∧MsB a A (qbn (bt s 0))∧Rd a G (s.extract 1 s.size)∧a.heap[L]? = some (.cells #[v0] 226 (0,0)):=J;refine(q22 A L (bt s 0) v0 a x K).mono ?_;rintro e I ⟨y,(⟨xs,v,q,rfl,t,D⟩ | ⟨q,H⟩)⟩
   ·have uu:Upd (fun k=>k=A∨k=G∨k=L) a I:=y.mono (fun k _ e=> .inr (.inr e));exact⟨uu,.inl ⟨rfl,fun _=>u.trans uu,o,x.upd y T,z.upd y U,xs,v,_,u.size,q,t,D⟩⟩
   ·exact⟨y.mono (fun k _ e=> .inr (.inr e)),.inr ⟨70,by decide,H,q3b o q⟩⟩
  ·refine⟨enters_of Tryz.func138 (by kernel_rfl) rfl,?_⟩;obtain⟨o,x,z,xs,v,base,a1,q,t,D⟩:s.size≠0∧MsB a A (qbn (bt s 0))∧Rd a G (s.extract 1 s.size)∧∃xs v base,w.heap.size≤base∧fieldsOf (bt s 0)=some xs∧a.cell? ⟨L,0,none⟩=some v∧FldsO base a v xs:=J;refine(q23 base C L A G v xs _ _ a N t D x z R (by omega) (by omega) (qgz q)).mono ?_;rintro e I ⟨y,(⟨m,r,E,rfl,W,h6⟩ | ⟨E,H⟩)⟩
   ·exact⟨O y,.inl ⟨rfl,fun _=>u.trans (O y),xs,m,r,o,q,E,W,h6,fun h=>absurd h (by decide),fun h=>absurd h (by decide)⟩⟩
   ·exact⟨O y,.inr ⟨10,by decide,H,qzk o q E⟩⟩
  ·refine⟨enters_of Tryz.func140 (by kernel_rfl) rfl,?_⟩;obtain⟨xs,m,r,o,q,t,x,z,-,-⟩:∃xs m r,s.size≠0∧fieldsOf (bt s 0)=some xs∧qdi xs (s.extract 1 s.size) (qbn (bt s 0))=some (m,r)∧MsB a A m∧Rd a G r∧(4≤3→r.size=0)∧(5≤3→qap m=true):=J;refine(q28 C G r a N z).mono ?_;rintro e I ⟨n,(⟨D,rfl⟩ | ⟨D,H⟩)⟩
   ·exact⟨n.mono (fun _ _ h=>h.elim),.inl ⟨rfl,fun _=>u.trans (n.mono (fun _ _ h=>h.elim)),xs,m,r,o,q,t,x.new n,z.new n,fun _=>D,fun h=>absurd h (by decide)⟩⟩
   ·exact⟨n.mono (fun _ _ h=>h.elim),.inr ⟨11,by decide,H,q3c o q t D⟩⟩
  ·refine⟨enters_of Tryz.func142 (by kernel_rfl) rfl,?_⟩;obtain⟨xs,m,r,o,q,t,x,z,D,-⟩:∃xs m r,s.size≠0∧fieldsOf (bt s 0)=some xs∧qdi xs (s.extract 1 s.size) (qbn (bt s 0))=some (m,r)∧MsB a A m∧Rd a G r∧(4≤4→r.size=0)∧(5≤4→qap m=true):=J;have Y:=(qml xs _ _ (qe8 ⟨by omega,by omega⟩) t).1;refine(q29 A m a x Y).mono ?_;rintro e I ⟨n,(⟨E,rfl⟩ | ⟨E,H⟩)⟩
   ·exact⟨n.mono (fun _ _ h=>h.elim),.inl ⟨rfl,fun h=>absurd h (by decide),xs,m,r,o,q,t,x.new n,z.new n,fun _=>D (by decide),fun _=>E⟩⟩
   ·exact⟨n.mono (fun _ _ h=>h.elim),.inr ⟨1,by decide,H,q7c o q t (D (by decide)) E⟩⟩
attribute [local go_sem ↓ high] ze zf zg zj
attribute [local go_sem] qau qav qaw qy zz
theorem qiz(s:ByteArray)(w:World):Calls Tryz.prog 105 #[.string s] w (qar (.tuple #[.agg (qcc s).1.cells.toArray,.int .i64 (qcc s).2]) w):=by
 have a2:∀(fn:Fn) (first cap:Array Value) (w:World),(Instr.makeFunc fn first cap).run Tryz.prog w = .ok (.func fn first cap) w:=fun _ _ _ _=>rfl
 go_enter Tryz.func105,Tryz.ntmps105;go_upto_region 3 with fail;obtain⟨y,x⟩:∃y,y=((w.alloc (.cells MsgV.zero.cells.toArray 101)).alloc (.cells MsgV.zero.cells.toArray 101)).alloc (.cells #[.slice none 0 0] 226):=⟨_,rfl⟩;have n3:qq w y:=by rw[x];exact(((Upd.refl _ _).alloc _).alloc _).alloc _
 have z3:y.heap.size=w.heap.size+3:=by rw[x];simp only[World.size_alloc]
 have C:y.heap[w.heap.size+1+1]? = some (.cells #[.slice none 0 0] 226 (0,0)):=by
  rw[x];have:=ql ((w.alloc (.cells MsgV.zero.cells.toArray 101)).alloc (.cells MsgV.zero.cells.toArray 101)) (.cells #[.slice none 0 0] 226);rwa [World.size_alloc,World.size_alloc] at this
 have z:MsB y (w.heap.size+1) MsgV.zero:=by
  rw[x];have:=ql (w.alloc (.cells MsgV.zero.cells.toArray 101)) (.cells MsgV.zero.cells.toArray 101);rw[World.size_alloc] at this;exact⟨qx this _,qu⟩
 have D:MsB y w.heap.size MsgV.zero:=by
  rw[x];exact⟨qx (qx (ql _ _) _) _,qu⟩
 rw[←x];clear x;generalize hZ:w.heap.size=Z at *
 have HZ:=qj (And.intro hZ z3);have H3:=qj (And.intro n3 (And.intro C (And.intro z D)));clear hZ z3 n3 C z D;go_wp2_with fail;refine(q0p s y).mono ?_;rintro e M ⟨rfl,R,n4,z4⟩;have H4:=qj (And.intro R (And.intro n4 z4));clear R n4 z4;go_upto_region 4 with fail;have W:=ql M (.cells #[.pointer (some ⟨y.heap.size,0,none⟩)] 227);have n5:qq M (M.alloc (.cells #[.pointer (some ⟨y.heap.size,0,none⟩)] 227)):=(Upd.refl _ _).alloc _;have z5:(M.alloc (.cells #[.pointer (some ⟨y.heap.size,0,none⟩)] 227)).heap.size=M.heap.size+1:=World.size_alloc _ _;generalize M.alloc (.cells #[.pointer (some ⟨y.heap.size,0,none⟩)] 227)=H at W n5 z5 ⊢;obtain⟨hz,z3⟩:=qg HZ;obtain⟨n3,C,z,D⟩:=qg H3;obtain⟨R,n4,z4⟩:=qg H4;have P:M.heap.size=Z+1+1+1+1:=by omega
 have O:y.heap.size=Z+1+1+1:=by omega
 have X:H.heap.size=Z+5:=by omega
 rw[P] at W ⊢;rw[O] at W R;have N:=ql H (.cells #[.func (.func 133) #[] #[.pointer (some ⟨Z+1+1+1+1,0,none⟩),.pointer (some ⟨Z+1,0,none⟩)],.func (.func 136) #[] #[.pointer (some ⟨Z+1,0,none⟩),.pointer (some ⟨Z+1+1,0,none⟩)],.func (.func 138) #[] #[.pointer (some ⟨Z+1+1+1+1,0,none⟩),.pointer (some ⟨Z+1+1,0,none⟩),.pointer (some ⟨Z+1,0,none⟩)],.func (.func 140) #[] #[.pointer (some ⟨Z+1+1+1+1,0,none⟩)],.func (.func 142) #[] #[.pointer (some ⟨Z+1,0,none⟩)]] 1);have n6:qq H (H.alloc (.cells #[.func (.func 133) #[] #[.pointer (some ⟨Z+1+1+1+1,0,none⟩),.pointer (some ⟨Z+1,0,none⟩)],.func (.func 136) #[] #[.pointer (some ⟨Z+1,0,none⟩),.pointer (some ⟨Z+1+1,0,none⟩)],.func (.func 138) #[] #[.pointer (some ⟨Z+1+1+1+1,0,none⟩),.pointer (some ⟨Z+1+1,0,none⟩),.pointer (some ⟨Z+1,0,none⟩)],.func (.func 140) #[] #[.pointer (some ⟨Z+1+1+1+1,0,none⟩)],.func (.func 142) #[] #[.pointer (some ⟨Z+1,0,none⟩)]] 1)):=(Upd.refl _ _).alloc _;have z6:(H.alloc (.cells #[.func (.func 133) #[] #[.pointer (some ⟨Z+1+1+1+1,0,none⟩),.pointer (some ⟨Z+1,0,none⟩)],.func (.func 136) #[] #[.pointer (some ⟨Z+1,0,none⟩),.pointer (some ⟨Z+1+1,0,none⟩)],.func (.func 138) #[] #[.pointer (some ⟨Z+1+1+1+1,0,none⟩),.pointer (some ⟨Z+1+1,0,none⟩),.pointer (some ⟨Z+1,0,none⟩)],.func (.func 140) #[] #[.pointer (some ⟨Z+1+1+1+1,0,none⟩)],.func (.func 142) #[] #[.pointer (some ⟨Z+1,0,none⟩)]] 1)).heap.size=H.heap.size+1:=World.size_alloc _ _;have K:=n5.trans n6
 have E:=n4.trans K;have I:qxw (H.alloc (.cells #[.func (.func 133) #[] #[.pointer (some ⟨Z+1+1+1+1,0,none⟩),.pointer (some ⟨Z+1,0,none⟩)],.func (.func 136) #[] #[.pointer (some ⟨Z+1,0,none⟩),.pointer (some ⟨Z+1+1,0,none⟩)],.func (.func 138) #[] #[.pointer (some ⟨Z+1+1+1+1,0,none⟩),.pointer (some ⟨Z+1+1,0,none⟩),.pointer (some ⟨Z+1,0,none⟩)],.func (.func 140) #[] #[.pointer (some ⟨Z+1+1+1+1,0,none⟩)],.func (.func 142) #[] #[.pointer (some ⟨Z+1,0,none⟩)]] 1)) H.heap.size 5 q9q (qrm (Z+1+1+1+1) (Z+1) (Z+1+1)):=by
  intro i hi;rcases (by omega:i=0∨i=1∨i=2∨i=3∨i=4) with rfl | rfl | rfl | rfl | rfl
  ·exact qk N 0
  ·exact qk N 1
  ·exact qk N 2
  ·exact qk N 3
  ·exact qk N 4
 have o:=qzl (Z+1+1+1+1) (Z+1) (Z+1+1) (Z+1+1+1) H.heap.size s (.slice none 0 0) (H.alloc (.cells #[.func (.func 133) #[] #[.pointer (some ⟨Z+1+1+1+1,0,none⟩),.pointer (some ⟨Z+1,0,none⟩)],.func (.func 136) #[] #[.pointer (some ⟨Z+1,0,none⟩),.pointer (some ⟨Z+1+1,0,none⟩)],.func (.func 138) #[] #[.pointer (some ⟨Z+1+1+1+1,0,none⟩),.pointer (some ⟨Z+1+1,0,none⟩),.pointer (some ⟨Z+1,0,none⟩)],.func (.func 140) #[] #[.pointer (some ⟨Z+1+1+1+1,0,none⟩)],.func (.func 142) #[] #[.pointer (some ⟨Z+1,0,none⟩)]] 1)) (n6.cell (qk W 0) (fun h=>h)) (z.new E) (R.new K) (E.old C (fun h=>h)) I (by omega) (by omega) (by omega) ⟨by omega,by omega,by omega⟩ ⟨by omega,by omega,by omega⟩ (by omega);have J:=qj (And.intro (D.new E) (n3.trans E));have HE:=qj (And.intro hz (And.intro O (And.intro P (And.intro X (And.intro z6 ((qg J).2.size))))));have o:=qj o;clear W n5 z5 C z D R n4 n3 N n6 K E I z4 hz z3 O P X z6;go_wp2_with fail;refine(qg o).mono ?_;obtain⟨Y,O,P,X,z6,zM⟩:=qg HE;rintro e U ⟨T,(⟨rfl,hC⟩ | ⟨er,a1,rfl,hd⟩)⟩
 ·obtain⟨-,xs,m,r,h0,h1,h2,hM,-,h3,h4⟩:=hC;have hd:=q7b h0 h1 h2 (h3 (by decide)) (h4 (by decide));have t:=(qg J).1.upd T (by omega);have V:qq w U:=(qg J).2.then T (fun k hk e=>by omega);have rA:=hM.row;have v:=hM.len;have st:=t.stOk v;have q:=t.put v;have u8:Upd (· = Z) U (U.setCells Z 0 m.cells):=zy _;have HX:=qj (And.intro q (V.then u8 (fun k hk e=>by omega)));have HD:=qj hd;clear o hd h0 h1 h2 hM h3 h4 t V q u8 T J H3 H4 HZ Y O P X z6 zM;go_wp2_with fail;obtain⟨q,N8⟩:=qg HX;refine bodyPost_ret (zb rfl _ _ Z _ _ _ _ rfl q.at_ Tryz.underlying101 rfl (by rw[List.size_toArray,MsgV.len _ v];exact Tryz.infoMsg)) rfl ?_;exact⟨by rw[qg HD];rfl,N8⟩
 ·have t:=(qg J).1.upd T (by omega);have V:qq w U:=(qg J).2.then T (fun k hk e=>by omega);have v:MsgV.zero.hash.length=32:=qu;have st:=t.stOk v;have q:=t.put v;have u8:Upd (· = Z) U (U.setCells Z 0 MsgV.zero.cells):=zy _;have HX:=qj (And.intro q (V.then u8 (fun k hk e=>by omega)));have HD:=qj hd;clear o hd t V q u8 T J H3 H4 HZ Y O P X z6 zM;go_wp2_with fail;obtain⟨q,N8⟩:=qg HX;refine bodyPost_ret (zb rfl _ _ Z _ _ _ _ rfl q.at_ Tryz.underlying101 rfl (by rw[List.size_toArray,MsgV.len _ v];exact Tryz.infoMsg)) rfl ?_;exact⟨by rw[qg HD];rfl,N8⟩
end
section
open Go.RowKit
theorem q3a(s:ByteArray):(qcc s).1.hash.length=32:=by
 have i:=qf3 s 0;unfold qcc;split
 ·exact qu
 ·split
  ·exact qu
  ·split
   ·exact qu
   ·rename_i h;split
    ·exact qu
    ·split
     ·exact(qml _ _ _ (qe8 ⟨by omega,by omega⟩) h).1.len
     ·exact qu
attribute [local go_sem ↓ high] ze zf zg zj
attribute [local go_sem] qau qav qaw qy
theorem q0f(g:Nat)(i:ByteArray)(w:World)(D:((qcc i).2 != 0)=true) :
  Calls Tryz.prog 65 #[.pointer (some ⟨g,0,none⟩),.string i] w fun e w'=>e = .returned (.int .i64 (qcc i).2)∧qq w w':=by
 have E:∀(fn:Fn) (first cap:Array Value) (w:World),(Instr.makeFunc fn first cap).run Tryz.prog w = .ok (.func fn first cap) w:=fun _ _ _ _=>rfl
 have y:=fun W=>qiz i W
 have t:=q3a i
 generalize (qcc i).2=I at *
 generalize (qcc i).1=m at *
 go_enter Tryz.func65,Tryz.ntmps65
 go_upto_region 1 with fail
 have n0:qq w (w.alloc (.cells #[.pointer (some ⟨g,0,none⟩)] 28)):=(Upd.refl _ _).alloc _
 generalize w.alloc (.cells #[.pointer (some ⟨g,0,none⟩)] 28)=w0 at n0 ⊢
 generalize w.heap.size=H
 have v:=qj n0
 clear n0
 go_wp2_with fail
 refine(y w0).mono ?_
 rintro e w1 ⟨rfl,z⟩
 obtain⟨o,q,C⟩:=qgg w1 m t
 have x:=qj (((qg v).trans z).trans C)
 clear z y v C q
 go_upto_region 2 with fail
 change Code.wp _ _ _ _ (qhi w1 m)
 generalize qhi w1 m=J at x ⊢
 generalize w1.heap.size=M at o ⊢
 clear o
 go_wp2_with fail
 go_ret
 exact⟨rfl,qg x⟩
theorem qo4(g:Nat)(S:Nat→Prop)(l:Lk)(s:ByteArray)(w:World)(h:LkS w g S l)(i:l.dead=false)(m:l.broken=true) :
  Calls Tryz.prog 24 #[.pointer (some ⟨g,0,none⟩),.string s] w (qae (.int .i64 5) w):=by
 obtain⟨sp,en,lo,o,q,h⟩:=h
 have t:w.cell? ⟨g,6,none⟩=some (.bool false):=i▸qk h.at_ 6
 have v:w.cell? ⟨g,7,none⟩=some (.bool true):=m▸qk h.at_ 7
 clear h
 go_enter Tryz.func24,Tryz.ntmps24
 go_wp2_with fail
 go_ret
 exact⟨rfl,Q.refl _⟩
end
end Go.Proofs.YtfmkdoachjgjbaaGreatDoor
