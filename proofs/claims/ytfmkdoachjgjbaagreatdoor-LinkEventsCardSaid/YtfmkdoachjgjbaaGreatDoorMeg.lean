/-
  Law 18: preimages; '!=' of offers; a pair's events asked for, offers and settlements by an end.
-/
import Derived.Test.YtfmkdoachjgjbaaGreatDoorGn3
import Derived.Test.YtfmkdoachjgjbaaGreatDoorMed
import Derived.Test.YtfmkdoachjgjbaaGreatDoorMeb
import Derived.Test.YtfmkdoachjgjbaaGreatDoorMdh
set_option maxRecDepth 100000
set_option maxHeartbeats 4000000
set_option linter.unusedVariables false
set_option linter.unusedSimpArgs false
namespace Go.Proofs.YtfmkdoachjgjbaaGreatDoor
section
open Go.RowKit
def qiq(p:Int):List Int:=(p%4)::7::List.replicate 30 0
theorem qlb(p:Int):(qiq p).length=32:=rfl
theorem qx5(p:Int):qbm (qiq p):=by
 intro b f;unfold qiq at f;simp only[List.mem_cons,List.mem_replicate] at f;rcases f with rfl | rfl | ⟨_,rfl⟩<;>omega
section
attribute [local go_sem ↓ high] qar qag qaj
attribute [local go_sem] qcl qcn qx
theorem qx6(p:Int)(H:0≤p∧p≤255)(w:World):Calls Tryz.prog 13 #[.int .u8 p] w (qa7 (.agg (qu (qiq p)).toArray) w):=by
 go_enter Tryz.func13,Tryz.ntmps13;go_upto_region 1 with fail;have f:=qb7 w zg qm;have v:qq w (w.alloc (.cells (qu zg).toArray 35)):=(Upd.refl _ _).alloc _;generalize w.alloc (.cells (qu zg).toArray 35)=w1 at f v ⊢;obtain⟨B,m⟩:∃B,B=w.heap.size:=⟨_,rfl⟩;rw[←m] at f ⊢;have F:w.heap.size≤B:=by omega
 clear m;have L:p.tmod 4=p%4:=Int.tmod_eq_emod_of_nonneg H.1;have r:=fun W=>q8h (p%4) 7 W
 have I:=f.stOk _ (qlb p);have C:=qb (f.put _ (qlb p));have E:=qb (v.then (zc (w:=w1) (b:=B) (qu (qiq p))) (fun i J e=>by omega));have q:(p%4::7::List.replicate 30 0)=qiq p:=rfl;rw[q] at r;clear f v q;generalize qiq p=K at *
 go_wp2_with fail;have z:=qa C;exact bodyPost_ret (results_cell_row rfl _ _ B _ _ _ _ rfl z.at_ Tryz.underlying35 rfl (by rw[List.size_toArray,qal,z.len];exact Tryz.infoHsh)) rfl ⟨rfl,qa E⟩
end
def qqm:List Leaf:= .int .u64 :: .int .u64::(List.replicate 32 (.int .u8)++[.int .i64])
theorem qt1{x:Htlc}(h:HtlcOk x):qd8 qqm (qk x):=by
 have e:∀ {n:Int},0≤n∧n≤18446744073709551615→(Lit.int .u64 n).wf=true:=fun h=>by
  simp[Lit.wf,IntKind.min,IntKind.max,IntKind.signed,IntKind.bits];omega
 have f:(Lit.int .i64 x.expiry).wf=true:=by
  have:=h.expiry;simp[Lit.wf,IntKind.min,IntKind.max,IntKind.signed,IntKind.bits];omega
 refine⟨_,_,rfl,⟨_,rfl,e h.id⟩,_,_,rfl,⟨_,rfl,e h.amount⟩,qd8.app ?_ ⟨_,_,rfl,⟨_,rfl,f⟩,rfl⟩⟩;have:=qka .u8 x.hash.toList fun n i=>qzv (h.hash n i)
 simpa using this
theorem Tryz.flatHtl:qdf Tryz.prog 5 41=some qqm:=by kernel_rfl
theorem Tryz.eqHtl:eqB Tryz.prog 5 41=true:=by kernel_rfl
theorem Tryz.aggHtl:qgu Tryz.prog 41=true:=by kernel_rfl
def q6n(x y:Value):Sem Value:=binOp .neq 41 x y
theorem quv(x y:Value):binOp .neq 41 x y=q6n x y:=rfl
theorem quw{x:Htlc}(f:HtlcOk x)(w:World):(q6n (.agg (qk x).toArray) (.agg (qk x).toArray)).run Tryz.prog w = .ok (.bool false) w :=
 qlf 5 (by decide) Tryz.eqHtl Tryz.flatHtl Tryz.aggHtl (qt1 f) (qt1 f) true (by simp) w
theorem qir.one{w:World}{v:Value}{e:EvV}(h:qir w v [e])(F:e.pre.length=32):∃B cap o,v = .slice (some ⟨B,0,none⟩) 1 cap∧w.heap[B]? = some o∧(∀w',w'.heap[B]? = some o→zf w' B 0 68=some e.cells.toArray)∧v.ownBlock=some B:=by
 have M:=e.len F;rcases h.2 with ⟨i,r⟩ | ⟨B,cap,f,i,L,E,q,_,H,J⟩
 ·simp at r
 ·have q:1≤cap:=q;refine⟨B,cap,_,i,E,fun w' z=> ?_,by rw[i];rfl⟩;have I:68≤f.size:=by rw[H];omega
  rw[qb8 z 0 68 (by omega)];congr 1;apply Array.ext';rw[Array.toList_extract,List.extract_eq_take_drop,List.drop_zero];have m:f.toList.take (1*68)=[e].flatMap EvV.cells:=J;have C:[e].flatMap EvV.cells=e.cells:=by simp
  rw[C] at m;exact m
section
variable {K:Nat→Obj→Prop}{w0 w w':World}{p:Nat}{g:Nat→Nat}{S:Nat→Nat→Prop}{P:Pw}{k:Nat}
theorem PwS.events0(h:PwS K w0 w p g S P)(f:k<2)(hd:(P.l k).dead=false)(r:P.es k=[]) :
  Calls Tryz.prog 16 #[.pointer (some ⟨g k,0,none⟩)] w fun e w'=>∃a c,e = .returned (.slice a 0 c)∧PwS K w0 w' p g (qbn S k (Fr (S k) w w')) {P with l:=qbn P.l k (P.l k),es:=qbn P.es k []} := by
 refine(qzu (g k) (S k) (P.l k) (P.es k) w (h.lk k f) hd).mono ?_
 rintro e w' ⟨ev,rfl,q,m,u,-,-⟩
 rw[r] at q
 obtain⟨a,c,rfl⟩:=qaf q
 exact⟨a,c,rfl,h.op f u (m.wider (fun i e=> .inl e) (fun i e=>e.elim (m.lt i) (fun e=>e.2)))⟩
theorem PwS.events1(h:PwS K w0 w p g S P)(z:k<2)(hd:(P.l k).dead=false){x:EvV}(U:P.es k=[x])(W:x.pre.length=32) :
  Calls Tryz.prog 16 #[.pointer (some ⟨g k,0,none⟩)] w fun e w'=>∃B c o C,e = .returned (.slice (some ⟨B,0,none⟩) 1 c)∧(∀w',w'.heap[B]? = some o→zf w' B 0 68=some x.cells.toArray) ∧
   PwS (fun b v=>K b v∨(b=B∧v=o)) w0 w' p g C {P with l:=qbn P.l k (P.l k),es:=qbn P.es k []} := by
 refine(qzu (g k) (S k) (P.l k) (P.es k) w (h.lk k z) hd).mono ?_
 rintro e w' ⟨ev,rfl,R,O,u,L,C,M,m,H⟩
 rw[U] at R
 obtain⟨B,c,o,rfl,V,I,r⟩:=R.one W
 have E:=L B r
 have F:=H B r
 have N:=h.op z u (O.wider (T:=Fr (S k) w w') (fun i e=> .inl e) (fun i e=>e.elim (O.lt i) (fun e=>e.2)))
 refine⟨B,c,o,qbn S k C,rfl,I,N.at_,?_,?_,?_,h.pge,?_,N.new,?_⟩
 ·intro j q;by_cases e:j=k
  ·subst e;show LkV w' (g j) (qbn S j C j) (qbn P.l j (P.l j) j) (qbn P.es j [] j);rw[qbx,qbx,qbx];exact M
  ·show LkV w' (g j) (qbn S k C j) (qbn P.l k (P.l k) j) (qbn P.es k [] j);rw[qc5 _ _ e,qc5 _ _ e,qc5 _ _ e];exact(h.lk j q).upd u (h.apart z q e)
 ·intro i f J;have a0:S 0 i:=by
   by_cases e:0=k
   ·subst e;rw[qbx] at f;exact m i f
   ·rw[qc5 _ _ e] at f;exact f
  have a1:S 1 i:=by
   by_cases e:1=k
   ·subst e;rw[qbx] at J;exact m i J
   ·rw[qc5 _ _ e] at J;exact J
  exact h.sep i a0 a1
 ·intro j q i f;have a0:S j i:=by
   by_cases e:j=k
   ·subst e;rw[qbx] at f;exact m i f
   ·rw[qc5 _ _ e] at f;exact f
  exact h.ge j q i a0
 ·intro j q f;have a0:S j p:=by
   by_cases e:j=k
   ·subst e;rw[qbx] at f;exact m p f
   ·rw[qc5 _ _ e] at f;exact f
  exact h.pS j q a0
 ·rintro b v (e | ⟨rfl,rfl⟩)
  ·refine⟨u.old (h.keep b v e).1 ((h.keep b v e).2.2 k z),(h.keep b v e).2.1,fun j q f=> ?_⟩;have a0:S j b:=by
    by_cases e:j=k
    ·subst e;rw[qbx] at f;exact m b f
    ·rw[qc5 _ _ e] at f;exact f
   exact(h.keep b v e).2.2 j q a0
  ·refine⟨V,fun e=>h.pS k z (e▸E),fun j q f=> ?_⟩;by_cases e:j=k
   ·subst e;rw[qbx] at f;exact F f
   ·rw[qc5 _ _ e] at f;exact h.apart z q e b f E
end
end
section
open Go.RowKit
def Pw.acted(P:Pw)(k:Nat)(L:Lk):Pw:= {P with l:=qbn P.l k L,es:=qbn P.es k (P.es k)}
section
variable {K:Nat→Obj→Prop}{w0 w w':World}{p:Nat}{g:Nat→Nat}{S:Nat→Nat→Prop}{P:Pw}{k:Nat}
theorem PwS.ofer(h:PwS K w0 w p g S P)(v:k<2)(z:Tb w0)(F:LkOkW (P.l k))(n r:Nat)(x:Int)(f:List Int)(L:f.length=32)(J:qbm f)(E:n<2 ^ (8*8))(m:r<18446744073709551616)(H:IntKind.u64.wrap x=(r:Int))(M : -9223372036854775808≤x∧x≤9223372036854775807)
  (q:((P.l k).c.offer n (qa8 f) x).2.2=0→SayOk ((P.l k).c.offer n (qa8 f) x).2.1) (C:((P.l k).c.offer n (qa8 f) x).2.1.hash.length=32) (i:(P.l k).c.news.length<1000000∧(P.l k).c.xs.length<1000000) :
  Calls Tryz.prog 11 #[.pointer (some ⟨g k,0,none⟩),.int .u64 (n:Int),.agg (qu f).toArray,.int .i64 x] w fun e w'=>e = .returned (.tuple #[.int .u64 ((P.l k).actW ((P.l k).c.offer n (qa8 f) x) (zq (qgb n r f))).2.1.id,.int .i64 ((P.l k).actW ((P.l k).c.offer n (qa8 f) x) (zq (qgb n r f))).2.2]) ∧
   PwS K w0 w' p g (qbn S k (Fr (S k) w w')) (P.acted k ((P.l k).actW ((P.l k).c.offer n (qa8 f) x) (zq (qgb n r f))).1):=by
 refine(zck (g k) (S k) (P.l k) (P.es k) n r f x w (h.lk k v) F L J E m H M q C i (h.tb z).tabs ⟨(h.ap z v).c,(h.ap z v).d⟩).mono ?_
 rintro e w' ⟨rfl,I,u⟩
 exact⟨rfl,h.op v u I⟩
theorem PwS.pays(h:PwS K w0 w p g S P)(q:k<2)(r:Tb w0)(C:LkOkW (P.l k))(n:Nat)(f:List Int)(F:f.length=32)(z:n<2 ^ (8*8))
  (m:((P.l k).c.fulfill n f).2.2=0→SayOk ((P.l k).c.fulfill n f).2.1) (v:((P.l k).c.fulfill n f).2.1.hash.length=32) (i:(P.l k).c.news.length<1000000∧(P.l k).c.xs.length<1000000) :
  Calls Tryz.prog 18 #[.pointer (some ⟨g k,0,none⟩),.int .u64 (n:Int),.agg (qu f).toArray] w fun e w'=>e = .returned (.int .i64 ((P.l k).actW ((P.l k).c.fulfill n f) (zq (ql4 n f))).2.2) ∧
   PwS K w0 w' p g (qbn S k (Fr (S k) w w')) (P.acted k ((P.l k).actW ((P.l k).c.fulfill n f) (zq (ql4 n f))).1):=by
 refine(zdw (g k) (S k) (P.l k) (P.es k) n f w (h.lk k q) C F z m v i (h.tb r) ⟨(h.ap r q).c,(h.ap r q).d⟩).mono ?_
 rintro e w' ⟨rfl,E,u⟩
 exact⟨rfl,h.op q u E⟩
theorem PwS.fails(h:PwS K w0 w p g S P)(q:k<2)(v:Tb w0)(E:LkOkW (P.l k))(n r:Nat)(x:Int)(C:n<2 ^ (8*8))(i:r<18446744073709551616)(F:IntKind.u64.wrap x=(r:Int))
  (m:((P.l k).c.fail n x).2.2=0→SayOk ((P.l k).c.fail n x).2.1) (z:((P.l k).c.fail n x).2.1.hash.length=32) (f:(P.l k).c.news.length<1000000∧(P.l k).c.xs.length<1000000) :
  Calls Tryz.prog 17 #[.pointer (some ⟨g k,0,none⟩),.int .u64 (n:Int),.int .i64 x] w fun e w'=>e = .returned (.int .i64 ((P.l k).actW ((P.l k).c.fail n x) (zq (ql5 n r))).2.2) ∧
   PwS K w0 w' p g (qbn S k (Fr (S k) w w')) (P.acted k ((P.l k).actW ((P.l k).c.fail n x) (zq (ql5 n r))).1):=by
 refine(zdi (g k) (S k) (P.l k) (P.es k) n r x w (h.lk k q) E C i F m z f (h.tb v).tabs ⟨(h.ap v q).c,(h.ap v q).d⟩).mono ?_
 rintro e w' ⟨rfl,H,u⟩
 exact⟨rfl,h.op q u H⟩
end
def En.says(A:En)(c:Ch)(m:MsgV):En:= {A with c:=c,o:=A.o++[m]}
theorem StE.acts{A:En}{n:Nat}{l:Lk}{way:ByteArray}{es:List EvV}(h:StE A n l way es)(E:A.wt=false){r:Ch × MsgV × Int}{rec:ByteArray}(f:rec.size≤1024)(i:r.2.2=0)(v:SayOk r.2.1)(z:A.o.length≤150) :
  StE (A.says r.1 r.2.1) (n+1) (l.actW r rec).1 way es∧(l.actW r rec).2=(r.2.1,0):=by
 have e:l.actW r rec=(l.acts r.1 rec r.2.1 r.2.2,qro r.2.1 r.2.2,r.2.2):=by
  unfold Lk.actW;rw[if_neg (by rw[h.l.waits,E];decide)]
 have q:=h.l.acts (c':=r.1) (m:=r.2.1) (er:=r.2.2) f (fun _=>v)
 rw[if_pos i] at q
 rw[e]
 refine⟨⟨?_,h.way,h.es,h.sw,?_,h.lw,?_⟩,?_⟩
 ·show LkC _ r.1 A.t A.wt (qaq (A.o++[r.2.1]) ⟨#[]⟩) ⟨#[]⟩ (n+1);rw[qfz];exact q
 ·exact fun m C=>(List.mem_append.1 C).elim (h.so m) (fun e=>by rw[List.mem_singleton.1 e];exact v)
 ·show (A.o++[r.2.1]).length≤_;rw[List.length_append,List.length_singleton];omega
 ·show (qro r.2.1 r.2.2,r.2.2)=_;unfold qro;rw[if_pos i,i]
theorem StP.acts0{A B:En}{n:Nat}{P:Pw}(h:StP A B n P)(C:A.wt=false){r:Ch × MsgV × Int}{rec:ByteArray}(f:rec.size≤1024)(v:r.2.2=0)(z:SayOk r.2.1)(i:A.o.length≤150)(E:n≤800000) :
  StP (A.says r.1 r.2.1) B (n+1) (P.acted 0 ((P.l 0).actW r rec).1)∧((P.l 0).actW r rec).2=(r.2.1,0):=by
 obtain⟨m,q⟩:=h.a.acts C f v z i
 exact⟨⟨m,h.b.mono (by omega),h.bad,by omega⟩,q⟩
theorem StP.acts1{A B:En}{n:Nat}{P:Pw}(h:StP A B n P)(C:B.wt=false){r:Ch × MsgV × Int}{rec:ByteArray}(f:rec.size≤1024)(v:r.2.2=0)(z:SayOk r.2.1)(i:B.o.length≤150)(E:n≤800000) :
  StP A (B.says r.1 r.2.1) (n+1) (P.acted 1 ((P.l 1).actW r rec).1)∧((P.l 1).actW r rec).2=(r.2.1,0):=by
 obtain⟨m,q⟩:=h.b.acts C f v z i
 exact⟨⟨h.a.mono (by omega),m,h.bad,by omega⟩,q⟩
def qdd(ours cap n:Int)(h:Vector Int 32)(e:Int):Pay:=⟨qcm ours cap,qcd ours cap,0,0,0,n,h,e,ours-n,cap-ours,List.replicate 17 .zero,List.replicate 17 .zero,[],[],0,0,false,false⟩
theorem zcu(ours cap:Int):Duo (qcm ours cap) (qcd ours cap) :=
 ⟨rfl,by show (0:Int)≤9∧(9:Int)<4294967296;decide,rfl,rfl,by show (ByteArray.size ⟨#[107]⟩)≤1000;decide,by show (ByteArray.size ⟨#[108]⟩)≤1000;decide,rfl,rfl,by intro b f;unfold qcm qfi at f;simp only[List.mem_cons,List.mem_replicate] at f;rcases f with rfl | ⟨_,rfl⟩<;>decide,by intro b f;unfold qcd qfi at f;simp only[List.mem_cons,List.mem_replicate] at f;rcases f with rfl | ⟨_,rfl⟩<;>decide⟩
theorem qsr{ours cap n e:Int}{h:Vector Int 32}(q:0≤ours∧ours≤cap∧cap≤1125899906842624)(m:1≤n∧n≤ours)(f:1≤e∧e≤1073741824)(i:∀b∈h.toList,0≤b∧b≤255):PayOk (qdd ours cap n h e) :=
 ⟨zcu ours cap,⟨by show (0:Int)≤0;decide,by show (0:Int)≤50000;decide⟩,⟨by show (0:Int)≤0;decide,by show (0:Int)≤50000;decide⟩,⟨by show (0:Int)≤0;decide,by show (0:Int)≤50000;decide⟩,⟨m.1,by show n≤_;omega⟩,
  i,f,by show 0≤ours-n;omega,qrb _,qrb _,Nat.zero_le _,Nat.zero_le _⟩
theorem qxy(p:Int):(ofI (qiq p)).length=32:=qb9 _
theorem quz(p:Int):qbm (ofI (qiq p)):=qgc _
theorem q07(p:Int):∀b∈(qa8 (ofI (qiq p))).toList,0≤b∧b≤255:=by
 rw[qd4 (qxy p)];exact quz p
theorem q08(p:Int):qeh (qiq p) (qa8 (ofI (qiq p))).toList=true:=by
 rw[qd4 (qxy p)];show (ofI (qiq p)==ofI (qiq p))=true;generalize ofI (qiq p)=x;simp
theorem qk8{ours cap n e:Int}{h:Vector Int 32}(m:1≤n∧n≤ours)(i:1≤e∧e≤1073741824):(Ch.new (qcm ours cap)).offer n h e=((qdd ours cap n h e).a0,(qdd ours cap n h e).add,0):=by
 have f:qbu (Ch.new (qcm ours cap)) n e=0:=by
  unfold qbu;rw[if_neg (by show ¬(false=true);decide),if_neg (by omega),if_neg (by omega),if_neg (by show ¬(8≤qeu true []);decide),if_neg (by show ¬(ours<n);omega)]
 unfold Ch.offer;rw[if_pos f];rfl
theorem qmv{ours cap n e:Int}{h:Vector Int 32}(q:n=0∨ours<n)(m:1≤e∧e≤1073741824):((Ch.new (qcm ours cap)).offer n h e).2.2≠0∧((Ch.new (qcm ours cap)).offer n h e).2.1=MsgV.zero:=by
 have f:qbu (Ch.new (qcm ours cap)) n e≠0:=by
  unfold qbu;rw[if_neg (by show ¬(false=true);decide)];by_cases i:n=0
  ·rw[if_pos i];decide
  ·rw[if_neg i,if_neg (by omega),if_neg (by show ¬(8≤qeu true []);decide),if_pos (by show ours<n;omega)];decide
 unfold Ch.offer;rw[if_neg f];exact⟨f,rfl⟩
theorem zcv{ours cap n e:Int}{h:Vector Int 32}{p:List Int}(i:qeh p h.toList=true):(qdd ours cap n h e).b4.fulfill 0 p=((qdd ours cap n h e).b5 true (qfa (qcd ours cap) 0 p),qfa (qcd ours cap) 0 p,0):=by
 have f:qde false 0 (qdd ours cap n h e).b4.xs=some (0,qfh 0 n h e false 4 false):=qkn;rw[qt2 f,if_pos (show qeh p (qfh 0 n h e false 4 false).h.hash.toList=true from i)];rfl
theorem zbl{ours cap n e:Int}{h:Vector Int 32} : (qdd ours cap n h e).b4.fail 0 2=((qdd ours cap n h e).b5 false (qg3 (qcd ours cap) 0 2),qg3 (qcd ours cap) 0 2,0):=by
 have f:qde false 0 (qdd ours cap n h e).b4.xs=some (0,qfh 0 n h e false 4 false):=qkn;rw[qqb f (by decide)];rfl
theorem zaw(ours cap:Int):StP ⟨Ch.new (qcm ours cap),0,false,[],[],[]⟩ ⟨Ch.new (qcd ours cap),0,false,[],[],[]⟩ 0 (Pw.new ours cap) :=
 ⟨⟨LkC.new _,rfl,rfl,(fun m f=>by cases f),(fun m f=>by cases f),Nat.zero_le _,Nat.zero_le _⟩,⟨LkC.new _,rfl,rfl,(fun m f=>by cases f),(fun m f=>by cases f),Nat.zero_le _,Nat.zero_le _⟩,rfl,Nat.zero_le _⟩
theorem zbb{ours cap n e:Int}{h:Vector Int 32}(m:0≤ours∧ours≤cap∧cap≤1125899906842624):(qdd ours cap n h e).b0=Ch.new (qcd ours cap):=by
 have f:IntKind.u64.wrap (cap-ours)=cap-ours:=qgs (by omega) (by omega);have i:(qcd ours cap).ours=cap-ours:=f;unfold Ch.new Pay.b0;rw[i];show (⟨qcd ours cap,_,cap-ours,ours-n+n,_,_,_,_⟩:Ch)=⟨qcd ours cap,_,cap-ours,cap-(cap-ours),_,_,_,_⟩;rw[show ours-n+n=cap-(cap-ours) by omega];rfl
structure EvAt(w:World)(B:Nat)(x:EvV):Prop where
 k:w.cell? ⟨B,0,none⟩=some (.int .i64 x.kind)
 h:zf w B 1 35=some (qk x.h).toArray
 p:zf w B 36 32=some (qu x.pre).toArray
theorem qxd(x:Htlc):(qk x).length=35:=qbj x
theorem EvAt.of{w:World}{B:Nat}{x:EvV}(m:x.pre.length=32)(h:zf w B 0 68=some x.cells.toArray):EvAt w B x:=by
 have f:=qxd x.h;have i:(qu x.pre).length=32:=by rw[qal];exact m
 refine⟨?_,?_,?_⟩
 ·have:=(qfx h).2 0 (by decide);rw[Nat.zero_add] at this;exact this
 ·have:=qfy h 1 35 (by decide);rw[Nat.zero_add] at this;rw[this];congr 1;apply Array.ext';rw[Array.toList_extract,List.extract_eq_take_drop];show ((qk x.h++qu x.pre).take 35)=qk x.h;rw[←f,List.take_left]
 ·have:=qfy h 36 32 (by decide);rw[Nat.zero_add] at this;rw[this];congr 1;apply Array.ext';rw[Array.toList_extract,List.extract_eq_take_drop];show (((qk x.h++qu x.pre).drop 35).take 32)=qu x.pre;rw[←f,List.drop_left,←i,List.take_length]
def DP(K:Nat→Obj→Prop)(w0 w:World)(p:Nat)(g:Nat→Nat)(A B:En)(n:Nat):Prop:=∃S P,PwS K w0 w p g S P∧StP A B n P
def En.noEs(A:En):En:= {A with es:=[]}
section
variable {K:Nat→Obj→Prop}{w0 w w':World}{p:Nat}{g:Nat→Nat}{A B:En}{n:Nat}
theorem DP.nw(h:DP K w0 w p g A B n)(u:qq w w'):DP K w0 w' p g A B n:=by
 obtain⟨S,P,f,i⟩:=h;exact⟨S,P,f.nw u,i⟩
theorem DP.new(h:DP K w0 w p g A B n):qq w0 w:=by
 obtain⟨S,P,f,i⟩:=h;exact f.new
theorem DP.cl(h:DP K w0 w p g A B n):w.cell? ⟨p,0,none⟩=some (.pointer (some ⟨g 0,0,none⟩))∧w.cell? ⟨p,1,none⟩=some (.pointer (some ⟨g 1,0,none⟩)):=by
 obtain⟨S,P,f,i⟩:=h;exact⟨f.cl (k:=0) (by decide),f.cl (k:=1) (by decide)⟩
theorem DP.bad(h:DP K w0 w p g A B n):w.cell? ⟨p,4,none⟩=some (.bool false):=by
 obtain⟨S,P,f,i⟩:=h;have:=f.cb.1;rwa [i.bad] at this
theorem DP.keep(h:DP K w0 w p g A B n){b:Nat}{o:Obj}(i:K b o):w.heap[b]? = some o:=by
 obtain⟨S,P,f,m⟩:=h;exact(f.keep b o i).1
theorem DP.flow(h:DP K w0 w p g A B n)(z:A.w.length+B.o.length≤200∧B.w.length+A.o.length≤200) :
  Calls Tryz.prog 14 #[.pointer (some ⟨p,0,none⟩)] w fun e w'=>e = .returned (.tuple #[])∧∃g,DP K w0 w' p g (A.goes B) (B.goes A) n:=by
 obtain⟨S,P,r,i⟩:=h
 have f:=i.flowOk
 refine(qg2 K w0 w p P ⟨g,S,r⟩ f.dead f.size).mono ?_
 rintro e w' ⟨rfl,q,m,v⟩
 exact⟨rfl,q,m,_,v,i.flow z⟩
theorem DP.rests{FA FB:Nat→En}(h:DP K w0 w p g (FA 0) (FB 0) n)(E:Tb w0)(I:∀i,i<200→RoundG (FA i) (FB i) (FA (i+1)) (FB (i+1)))(L:n≤490000) :
  Calls Tryz.prog 15 #[.pointer (some ⟨p,0,none⟩)] w fun e w'=>e = .returned (.tuple #[])∧∃g,DP K w0 w' p g (FA 200) (FB 200) (n+202000):=by
 obtain⟨S,P,q,r⟩:=h
 refine(q2r K w0 w p P (fun i P=>StP (FA i) (FB i) (n+1010*i) P) ⟨g,S,q⟩ E r ?_).mono ?_
 ·intro i P F z;obtain⟨Q,H,J⟩:=z.round (I i F) (by omega);exact⟨Q,H,by rw[show n+1010*(i+1)=n+1010*i+1010 by omega];exact J⟩
 ·rintro e w' ⟨rfl,Q,C,m,f,v⟩;exact⟨rfl,m,f,Q,v,C⟩
theorem StP.ev0{P:Pw}(h:StP A B n P):StP A.noEs B n {P with l:=qbn P.l 0 (P.l 0),es:=qbn P.es 0 []} := ⟨⟨h.a.l,h.a.way,rfl,h.a.sw,h.a.so,h.a.lw,h.a.lo⟩,h.b,h.bad,h.n⟩
theorem StP.ev1{P:Pw}(h:StP A B n P):StP A B.noEs n {P with l:=qbn P.l 1 (P.l 1),es:=qbn P.es 1 []} := ⟨h.a,⟨h.b.l,h.b.way,rfl,h.b.sw,h.b.so,h.b.lw,h.b.lo⟩,h.bad,h.n⟩
theorem DP.ev0(h:DP K w0 w p g A B n)(q:A.es=[]):Calls Tryz.prog 16 #[.pointer (some ⟨g 0,0,none⟩)] w fun e w'=>∃a c,e = .returned (.slice a 0 c)∧DP K w0 w' p g A.noEs B n:=by
 obtain⟨S,P,i,f⟩:=h;refine(i.events0 (k:=0) (by decide) f.a.l.dead (by rw[f.a.es,q])).mono ?_;rintro e w' ⟨a,c,rfl,m⟩;exact⟨a,c,rfl,_,_,m,f.ev0⟩
theorem DP.ev1(h:DP K w0 w p g A B n)(q:B.es=[]):Calls Tryz.prog 16 #[.pointer (some ⟨g 1,0,none⟩)] w fun e w'=>∃a c,e = .returned (.slice a 0 c)∧DP K w0 w' p g A B.noEs n:=by
 obtain⟨S,P,i,f⟩:=h;refine(i.events0 (k:=1) (by decide) f.b.l.dead (by rw[f.b.es,q])).mono ?_;rintro e w' ⟨a,c,rfl,m⟩;exact⟨a,c,rfl,_,_,m,f.ev1⟩
theorem DP.ev0x(h:DP K w0 w p g A B n){x:EvV}(z:A.es=[x])(m:x.pre.length=32):Calls Tryz.prog 16 #[.pointer (some ⟨g 0,0,none⟩)] w fun e w'=>∃b c o,e = .returned (.slice (some ⟨b,0,none⟩) 1 c)∧(∀w',w'.heap[b]? = some o→EvAt w' b x)∧DP (fun i q=>K i q∨(i=b∧q=o)) w0 w' p g A.noEs B n:=by
 obtain⟨S,P,r,f⟩:=h;refine(r.events1 (k:=0) (by decide) f.a.l.dead (by rw[f.a.es,z]) m).mono ?_;rintro e w' ⟨b,c,o,F,rfl,C,v⟩;exact⟨b,c,o,rfl,fun w' E=> .of m (C w' E),_,_,v,f.ev0⟩
theorem DP.ev1x(h:DP K w0 w p g A B n){x:EvV}(z:B.es=[x])(m:x.pre.length=32):Calls Tryz.prog 16 #[.pointer (some ⟨g 1,0,none⟩)] w fun e w'=>∃b c o,e = .returned (.slice (some ⟨b,0,none⟩) 1 c)∧(∀w',w'.heap[b]? = some o→EvAt w' b x)∧DP (fun i q=>K i q∨(i=b∧q=o)) w0 w' p g A B.noEs n:=by
 obtain⟨S,P,r,f⟩:=h;refine(r.events1 (k:=1) (by decide) f.b.l.dead (by rw[f.b.es,z]) m).mono ?_;rintro e w' ⟨b,c,o,F,rfl,C,v⟩;exact⟨b,c,o,rfl,fun w' E=> .of m (C w' E),_,_,v,f.ev1⟩
theorem DP.chan(h:DP K w0 w p g A B n)(z:A.c.xs=[]):∃en,Calls Tryz.prog 19 #[.pointer (some ⟨g 0,0,none⟩)] w (qa2 (.pointer (some ⟨en,0,none⟩)) w)∧∀w',qq w w'→Calls Tryz.prog 20 #[.pointer (some ⟨en,0,none⟩)] w' fun e i=>∃a k,e = .returned (.slice a 0 k)∧qq w' i:=by
 obtain⟨S,P,m,q⟩:=h;obtain⟨en,C,r,-,f⟩:=za8 (g 0) _ _ _ w (m.lk 0 (by decide));exact⟨en,f,fun w' v=>q1r (r.new v) (by rw[q.a.l.c];exact z)⟩
theorem DP.offer(h:DP K w0 w p g A B n)(R:Tb w0)(W:A.wt=false)(N r:Nat)(x:Int)(f:List Int)(I:f.length=32)(T:qbm f)(C:N<2 ^ (8*8))(m:r<18446744073709551616)(F:IntKind.u64.wrap x=(r:Int))(X : -9223372036854775808≤x∧x≤9223372036854775807)
  (V:(A.c.offer N (qa8 f) x).2.2=0) (E:SayOk (A.c.offer N (qa8 f) x).2.1) (i:A.c.news.length<1000000∧A.c.xs.length<1000000) (z:A.o.length≤150) (U:n≤800000) :
  Calls Tryz.prog 11 #[.pointer (some ⟨g 0,0,none⟩),.int .u64 (N:Int),.agg (qu f).toArray,.int .i64 x] w fun e w'=>e = .returned (.tuple #[.int .u64 (A.c.offer N (qa8 f) x).2.1.id,.int .i64 0]) ∧
   DP K w0 w' p g (A.says (A.c.offer N (qa8 f) x).1 (A.c.offer N (qa8 f) x).2.1) B (n+1):=by
 obtain⟨S,P,J,v⟩:=h
 have q:=v.a.l.c
 obtain⟨L,M⟩:=v.acts0 W (r:=A.c.offer N (qa8 f) x) (rec:=zq (qgb N r f)) (qo6 I) V E z U
 have H:=J.ofer (k:=0) (by decide) R (v.a.l.ok (by omega)) N r x f I T C m F X (by rw[q];exact fun _=>E) (by rw[q];exact E.put.ok.len) (by rw[q];exact i)
 rw[q,M] at H
 refine H.mono ?_
 rintro e w' ⟨rfl,O⟩
 exact⟨rfl,_,_,O,L⟩
theorem DP.offerBad(h:DP K w0 w p g A B n)(I:Tb w0)(R:A.wt=false)(N r:Nat)(x:Int)(f:List Int)(M:f.length=32)(J:qbm f)(z:N<2 ^ (8*8))(m:r<18446744073709551616)(C:IntKind.u64.wrap x=(r:Int))(T : -9223372036854775808≤x∧x≤9223372036854775807)
  (E:(A.c.offer N (qa8 f) x).2.2≠0) (U:(A.c.offer N (qa8 f) x).2.1=MsgV.zero) (i:A.c.news.length<1000000∧A.c.xs.length<1000000) :
  Calls Tryz.prog 11 #[.pointer (some ⟨g 0,0,none⟩),.int .u64 (N:Int),.agg (qu f).toArray,.int .i64 x] w fun e w'=>∃id er,e = .returned (.tuple #[.int .u64 id,.int .i64 er])∧er≠0∧qq w0 w':=by
 obtain⟨S,P,F,q⟩:=h
 have v:=q.a.l.c
 have O:=q.n
 have L:=F.ofer (k:=0) (by decide) I (q.a.l.ok (by omega)) N r x f M J z m C T (by rw[v];exact fun e=>absurd e E) (by rw[v,U];exact qm) (by rw[v];exact i)
 refine L.mono ?_
 rintro e w' ⟨rfl,H⟩
 refine⟨_,_,rfl,?_,H.new⟩
 rw[v]
 unfold Lk.actW
 rw[if_neg (by rw[q.a.l.waits,R];decide)]
 exact E
theorem DP.pays(h:DP K w0 w p g A B n)(M:Tb w0)(T:B.wt=false)(N:Nat)(f:List Int)(F:f.length=32)(z:N<2 ^ (8*8))
  (R:(B.c.fulfill N f).2.2=0) (C:SayOk (B.c.fulfill N f).2.1) (i:B.c.news.length<1000000∧B.c.xs.length<1000000) (v:B.o.length≤150) (O:n≤800000) :
  Calls Tryz.prog 18 #[.pointer (some ⟨g 1,0,none⟩),.int .u64 (N:Int),.agg (qu f).toArray] w fun e w'=>e = .returned (.int .i64 0) ∧
   DP K w0 w' p g A (B.says (B.c.fulfill N f).1 (B.c.fulfill N f).2.1) (n+1):=by
 obtain⟨S,P,H,q⟩:=h
 have m:=q.b.l.c
 obtain⟨I,J⟩:=q.acts1 T (r:=B.c.fulfill N f) (rec:=zq (ql4 N f)) (qq3 F) R C v O
 have E:=H.pays (k:=1) (by decide) M (q.b.l.ok (by omega)) N f F z (by rw[m];exact fun _=>C) (by rw[m];exact C.put.ok.len) (by rw[m];exact i)
 rw[m,J] at E
 refine E.mono ?_
 rintro e w' ⟨rfl,L⟩
 exact⟨rfl,_,_,L,I⟩
theorem DP.fails(h:DP K w0 w p g A B n)(M:Tb w0)(T:B.wt=false)(N r:Nat)(x:Int)(z:N<2 ^ (8*8))(i:r<18446744073709551616)(E:IntKind.u64.wrap x=(r:Int))
  (R:(B.c.fail N x).2.2=0) (C:SayOk (B.c.fail N x).2.1) (f:B.c.news.length<1000000∧B.c.xs.length<1000000) (v:B.o.length≤150) (O:n≤800000) :
  Calls Tryz.prog 17 #[.pointer (some ⟨g 1,0,none⟩),.int .u64 (N:Int),.int .i64 x] w fun e w'=>e = .returned (.int .i64 0) ∧
   DP K w0 w' p g A (B.says (B.c.fail N x).1 (B.c.fail N x).2.1) (n+1):=by
 obtain⟨S,P,H,q⟩:=h
 have m:=q.b.l.c
 obtain⟨I,J⟩:=q.acts1 T (r:=B.c.fail N x) (rec:=zq (ql5 N r)) qq4 R C v O
 have F:=H.fails (k:=1) (by decide) M (q.b.l.ok (by omega)) N r x z i E (by rw[m];exact fun _=>C) (by rw[m];exact C.put.ok.len) (by rw[m];exact f)
 rw[m,J] at F
 refine F.mono ?_
 rintro e w' ⟨rfl,L⟩
 exact⟨rfl,_,_,L,I⟩
end
section
variable {K:Nat→Obj→Prop}{w0 w w':World}{p:Nat}{g:Nat→Nat}{A B:En}{n:Nat}
def En.outs(A:En):En:= {A with o:=[]}
theorem DP.out(h:DP K w0 w p g A B n):Calls Tryz.prog 44 #[.pointer (some ⟨g 0,0,none⟩)] w fun e w'=>e = .returned (.string (qaq A.o ⟨#[]⟩))∧DP K w0 w' p g A.outs B n:=by
 obtain⟨S,P,i,f⟩:=h;refine(zcl (g 0) (S 0) (P.l 0) (P.es 0) w (i.lk 0 (by decide)) f.a.l.dead).mono ?_;rintro e w' ⟨rfl,q,u⟩;exact⟨by rw[f.a.l.out],_,_,i.op (k:=0) (by decide) u q,⟨f.a.l.outs,f.a.way,f.a.es,f.a.sw,(fun m r=>by cases r),f.a.lw,Nat.zero_le _⟩,f.b,f.bad,f.n⟩
theorem DP.tick(h:DP K w0 w p g A B n)(C:Tb w0){c':Ch}{M:List MsgV}(F:qih A.t A.wt A.c c' M)(E:A.o.length≤150)(H:n≤800000)(i:A.t<900000) :
  Calls Tryz.prog 28 #[.pointer (some ⟨g 0,0,none⟩)] w fun e w'=>e = .returned (.int .i64 0)∧DP K w0 w' p g (A.ticks c' M) B (n+1):=by
 obtain⟨S,P,r,f⟩:=h
 obtain⟨t0,q,v⟩:=f.a.ticks F E (by omega) i
 have m:=r.tick (k:=0) (by decide) t0 C
 rw[q] at m
 refine m.mono ?_
 rintro e w' ⟨rfl,z⟩
 exact⟨rfl,_,_,z,v,f.b.mono (by omega),f.bad,by omega⟩
theorem DP.chn(h:DP K w0 w p g A B n):∃en,Calls Tryz.prog 19 #[.pointer (some ⟨g 0,0,none⟩)] w (qa2 (.pointer (some ⟨en,0,none⟩)) w):=by
 obtain⟨S,P,i,q⟩:=h;obtain⟨en,m,r,-,f⟩:=za8 (g 0) _ _ _ w (i.lk 0 (by decide));exact⟨en,f⟩
end
theorem qve{m:MsgV}(h:SayOk m):(0:Int)<((qaq [m] ⟨#[]⟩).size:Int):=by
 have:=h.size;have e:qaq [m] ⟨#[]⟩=(⟨#[]⟩:ByteArray)++qez m:=rfl;rw[e,ByteArray.size_append];omega
attribute [local go_sem ↓ high] qar
attribute [local go_sem] qdm qx
theorem qvm(w:World)(O:Tb w):Calls Tryz.prog 10 #[] w (qa7 (.bool true) w):=by
 have hb:=q4a 10 10 (by decide) (by decide) (by decide) w;have M:∀b∈(qa8 zg).toList,0≤b∧b≤255:=by
  rw[qd4 qm];exact qc3
 have f:=qsr (ours:=10) (cap:=10) (n:=4) (e:=9) (h:=qa8 zg) (by decide) (by decide) (by decide) M;have C:=qk8 (ours:=10) (cap:=10) (n:=4) (h:=qa8 zg) (e:=9) (by decide) (by decide);have r:SayOk (qdd 10 10 4 (qa8 zg) 9).add:=qok f.D.chb ⟨f.j.1,by have:=f.j.2;omega⟩ ⟨by have:=f.n.1;omega,f.n.2⟩ f.h ⟨by have:=f.e.1;omega,f.e.2⟩;have hg:=Pay.g1 f;have L:SayOk (qdd 10 10 4 (qa8 zg) 9).s1:=by
  rcases hg.eq with ⟨m,-,e,hm⟩ | ⟨-,e,-⟩
  ·rw[List.cons.injEq] at e;rw[e.1];exact hm
  ·cases e
 have t1:qih 0 false (qdd 10 10 4 (qa8 zg) 9).a0 (qdd 10 10 4 (qa8 zg) 9).a0 []:=qc2 (f.ea (by decide) (by show (1:Nat)≤_;decide) (by show (1:Nat)≤_;decide)) (by decide);have t2:qih 1 false (qdd 10 10 4 (qa8 zg) 9).a0 (qdd 10 10 4 (qa8 zg) 9).a0 []:=qc2 (f.ea (by decide) (by show (1:Nat)≤_;decide) (by show (1:Nat)≤_;decide)) (by decide);have t3:qih 2 false (qdd 10 10 4 (qa8 zg) 9).a0 (qdd 10 10 4 (qa8 zg) 9).a1 [(qdd 10 10 4 (qa8 zg) 9).s1]:=qe6 (f.ea (by decide) (by show (1:Nat)≤_;decide) (by show (1:Nat)≤_;decide)) (by decide) hg;have I:=qb (And.intro t1 (And.intro t2 (And.intro t3 (And.intro r L))));have z:(qdd 10 10 4 (qa8 zg) 9).add.id=0:=rfl;clear f hg L t1 t2 t3 M;generalize qdd 10 10 4 (qa8 zg) 9=q at *
 have P:=qb (And.intro C (And.intro z r));clear C z r;go_enter Tryz.func10,Tryz.ntmps10;go_wp2_with fail;refine hb.mono ?_;rintro e w1 ⟨b,rfl,g,S,hP⟩;have U:DP (fun _ _=>False) w w1 b g ⟨Ch.new (qcm 10 10),0,false,[],[],[]⟩ ⟨Ch.new (qcd 10 10),0,false,[],[],[]⟩ 0:=⟨S,_,hP,zaw 10 10⟩;have ho:Calls Tryz.prog 11 #[.pointer (some ⟨g 0,0,none⟩),.int .u64 4,.agg (qu zg).toArray,.int .i64 9] w1 fun e w'=>e = .returned (.tuple #[.int .u64 0,.int .i64 0])∧DP (fun _ _=>False) w w' b g ⟨q.a0,0,false,[],[q.add],[]⟩ ⟨Ch.new (qcd 10 10),0,false,[],[],[]⟩ 1:=by
  obtain⟨C,z,r⟩:=qa P;have i:(Ch.new (qcm 10 10)).offer ((4:Nat):Int) (qa8 zg) 9=(q.a0,q.add,0):=C;have:=U.offer O rfl 4 9 9 zg qm qc3 (by decide) (by decide) (by decide) (by decide) (by show ((Ch.new (qcm 10 10)).offer ((4:Nat):Int) (qa8 zg) 9).2.2=0;rw[i]) (by show SayOk ((Ch.new (qcm 10 10)).offer ((4:Nat):Int) (qa8 zg) 9).2.1;rw[i];exact r) ⟨by show (0:Nat)<_;decide,by show (0:Nat)<_;decide⟩ (by show (0:Nat)≤_;decide) (by decide);rw[show (⟨Ch.new (qcm 10 10),0,false,[],[],[]⟩:En).c.offer ((4:Nat):Int) (qa8 zg) 9=_ from i] at this;refine this.mono ?_;rintro e w' ⟨rfl,h⟩;exact⟨by rw[z],h⟩
 have c:=U.cl.1;clear hb U hP;go_wp2_with fail;refine ho.mono ?_;rintro e w2 ⟨rfl,V⟩;replace c:=V.cl.1;have v:Calls Tryz.prog 44 #[.pointer (some ⟨g 0,0,none⟩)] w2 fun e w'=>e = .returned (.string (qaq [q.add] ⟨#[]⟩))∧DP (fun _ _=>False) w w' b g (⟨q.a0,0,false,[],[],[]⟩:En) ⟨Ch.new (qcd 10 10),0,false,[],[],[]⟩ 1:=V.out
 obtain⟨sa,E⟩:∃sa,sa=qaq [q.add] ⟨#[]⟩:=⟨_,rfl⟩;rw[←E] at v;have R:=qb E;clear E;clear ho V;go_wp2_with fail;refine v.mono ?_;rintro e w3 ⟨rfl,W⟩;replace c:=W.cl.1;have H:Calls Tryz.prog 28 #[.pointer (some ⟨g 0,0,none⟩)] w3 fun e w'=>e = .returned (.int .i64 0)∧DP (fun _ _=>False) w w' b g (⟨q.a0,1,false,[],[],[]⟩:En) ⟨Ch.new (qcd 10 10),0,false,[],[],[]⟩ 2:=W.tick O (qa I).1 (by show (0:Nat)≤_;decide) (by decide) (by show (0:Nat)<_;decide)
 clear v W;go_wp2_with fail;refine H.mono ?_;rintro e w4 ⟨rfl,X⟩;replace c:=X.cl.1;have H:Calls Tryz.prog 28 #[.pointer (some ⟨g 0,0,none⟩)] w4 fun e w'=>e = .returned (.int .i64 0)∧DP (fun _ _=>False) w w' b g (⟨q.a0,2,false,[],[],[]⟩:En) ⟨Ch.new (qcd 10 10),0,false,[],[],[]⟩ 3:=X.tick O (qa I).2.1 (by show (0:Nat)≤_;decide) (by decide) (by show (1:Nat)<_;decide)
 clear X;go_wp2_with fail;refine H.mono ?_;rintro e w5 ⟨rfl,Y⟩;replace c:=Y.cl.1;have v:Calls Tryz.prog 44 #[.pointer (some ⟨g 0,0,none⟩)] w5 fun e w'=>e = .returned (.string ⟨#[]⟩)∧DP (fun _ _=>False) w w' b g (⟨q.a0,2,false,[],[],[]⟩:En) ⟨Ch.new (qcd 10 10),0,false,[],[],[]⟩ 3:=Y.out
 clear H Y;go_wp2_with fail;refine v.mono ?_;rintro e w6 ⟨rfl,Z⟩;replace c:=Z.cl.1;have H:Calls Tryz.prog 28 #[.pointer (some ⟨g 0,0,none⟩)] w6 fun e w'=>e = .returned (.int .i64 0)∧DP (fun _ _=>False) w w' b g (⟨q.a1,3,false,[],[q.s1],[]⟩:En) ⟨Ch.new (qcd 10 10),0,false,[],[],[]⟩ 4:=Z.tick O (qa I).2.2.1 (by show (0:Nat)≤_;decide) (by decide) (by show (2:Nat)<_;decide)
 clear v Z;go_wp2_with fail;refine H.mono ?_;rintro e w7 ⟨rfl,h7⟩;replace c:=h7.cl.1;have v:Calls Tryz.prog 44 #[.pointer (some ⟨g 0,0,none⟩)] w7 fun e w'=>e = .returned (.string (qaq [q.s1] ⟨#[]⟩))∧DP (fun _ _=>False) w w' b g (⟨q.a1,3,false,[],[],[]⟩:En) ⟨Ch.new (qcd 10 10),0,false,[],[],[]⟩ 4:=h7.out
 obtain⟨sc,F⟩:∃sc,sc=qaq [q.s1] ⟨#[]⟩:=⟨_,rfl⟩;rw[←F] at v;have T:=qb F;clear F;clear H h7;go_wp2_with fail;refine v.mono ?_;rintro e w8 ⟨rfl,N⟩;replace c:=N.cl.1;obtain⟨en,J⟩:=N.chn;have N8:=qb N.new;have E:(0:Int)<(sa.size:Int):=by rw[qa R];exact qve (qa I).2.2.2.1
 have F:(0:Int)<(sc.size:Int):=by rw[qa T];exact qve (qa I).2.2.2.2
 clear v N;go_wp2_with fail;refine J.mono ?_;rintro e w9 ⟨rfl,q9⟩;have N9:=qb ((qa N8).trans (q9.upd _));clear J q9 c;go_wp2_with fail;go_ret;exact⟨rfl,qa N9⟩
end
end Go.Proofs.YtfmkdoachjgjbaaGreatDoor
