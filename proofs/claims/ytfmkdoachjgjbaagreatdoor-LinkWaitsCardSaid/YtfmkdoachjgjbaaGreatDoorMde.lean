/-
  Law 18: preimages; '!=' of offers; a pair's events asked for, offers and settlements by an end.
-/
import Derived.Test.YtfmkdoachjgjbaaGreatDoorGn3
import Derived.Test.YtfmkdoachjgjbaaGreatDoorMdc
import Derived.Test.YtfmkdoachjgjbaaGreatDoorMda
import Derived.Test.YtfmkdoachjgjbaaGreatDoorMch
set_option maxRecDepth 100000
set_option maxHeartbeats 4000000
set_option linter.unusedVariables false
set_option linter.unusedSimpArgs false
namespace Go.Proofs.YtfmkdoachjgjbaaGreatDoor
section
open Go.RowKit
def qim(p:Int):List Int:=(p%4)::7::List.replicate 30 0
theorem qk8(p:Int):(qim p).length=32:=rfl
theorem qxz(p:Int):qbg (qim p):=by
 intro b f;unfold qim at f;simp only[List.mem_cons,List.mem_replicate] at f;rcases f with rfl | rfl | ⟨_,rfl⟩<;>omega
section
attribute [local go_sem ↓ high] qam qaa qad
attribute [local go_sem] qci qcj qv
theorem qx0(p:Int)(I:0≤p∧p≤255)(w:World):Calls Tryz.prog 13 #[.int .u8 p] w (qa1 (.agg (qs (qim p)).toArray) w):=by
 go_enter Tryz.func13,Tryz.ntmps13;go_upto_region 1 with fail;have f:=qb4 w ze ql;have z:qu w (w.alloc (.cells (qs ze).toArray 35)):=(Upd.refl _ _).alloc _;generalize w.alloc (.cells (qs ze).toArray 35)=w1 at f z ⊢;obtain⟨B,m⟩:∃B,B=w.heap.size:=⟨_,rfl⟩;rw[←m] at f ⊢;have H:w.heap.size≤B:=by omega
 clear m;have M:p.tmod 4=p%4:=Int.tmod_eq_emod_of_nonneg I.1;have v:=fun W=>q8t (p%4) 7 W
 have J:=f.stOk _ (qk8 p);have E:=qb (f.put _ (qk8 p));have F:=qb (z.then (qx (w:=w1) (b:=B) (qs (qim p))) (fun i L e=>by omega));have q:(p%4::7::List.replicate 30 0)=qim p:=rfl;rw[q] at v;clear f z q;generalize qim p=K at *
 go_wp2_with fail;have C:=qa E;exact bodyPost_ret (results_cell_row rfl _ _ B _ _ _ _ rfl C.at_ Tryz.underlying35 rfl (by rw[List.size_toArray,qaj,C.len];exact Tryz.infoHsh)) rfl ⟨rfl,qa F⟩
end
def qql:List Leaf:= .int .u64 :: .int .u64::(List.replicate 32 (.int .u8)++[.int .i64])
theorem q5o{x:Htlc}(h:HtlcOk x):qdx qql (qm x):=by
 have e:∀ {n:Int},0≤n∧n≤18446744073709551615→(Lit.int .u64 n).wf=true:=fun h=>by
  simp[Lit.wf,IntKind.min,IntKind.max,IntKind.signed,IntKind.bits];omega
 have f:(Lit.int .i64 x.expiry).wf=true:=by
  have:=h.expiry;simp[Lit.wf,IntKind.min,IntKind.max,IntKind.signed,IntKind.bits];omega
 refine⟨_,_,rfl,⟨_,rfl,e h.id⟩,_,_,rfl,⟨_,rfl,e h.amount⟩,qdx.app ?_ ⟨_,_,rfl,⟨_,rfl,f⟩,rfl⟩⟩;have:=qj9 .u8 x.hash.toList fun n i=>qzu (h.hash n i)
 simpa using this
theorem qin.one{w:World}{v:Value}{e:EvV}(h:qin w v [e])(H:e.pre.length=32):∃B cap o,v = .slice (some ⟨B,0,none⟩) 1 cap∧w.heap[B]? = some o∧(∀w',w'.heap[B]? = some o→zj w' B 0 68=some e.cells.toArray)∧v.ownBlock=some B:=by
 have N:=e.len H;rcases h.2 with ⟨i,z⟩ | ⟨B,cap,f,i,M,F,q,_,I,L⟩
 ·simp at z
 ·have q:1≤cap:=q;refine⟨B,cap,_,i,F,fun w' C=> ?_,by rw[i];rfl⟩;have J:68≤f.size:=by rw[I];omega
  rw[qbx C 0 68 (by omega)];congr 1;apply Array.ext';rw[Array.toList_extract,List.extract_eq_take_drop,List.drop_zero];have m:f.toList.take (1*68)=[e].flatMap EvV.cells:=L;have E:[e].flatMap EvV.cells=e.cells:=by simp
  rw[E] at m;exact m
section
variable {K:Nat→Obj→Prop}{w0 w w':World}{p:Nat}{g:Nat→Nat}{S:Nat→Nat→Prop}{P:Pw}{k:Nat}
theorem PwS.events0(h:PwS K w0 w p g S P)(f:k<2)(hd:(P.l k).dead=false)(v:P.es k=[]) :
  Calls Tryz.prog 16 #[.pointer (some ⟨g k,0,none⟩)] w fun e w'=>∃a c,e = .returned (.slice a 0 c)∧PwS K w0 w' p g (qbk S k (Fr (S k) w w')) {P with l:=qbk P.l k (P.l k),es:=qbk P.es k []} := by
 refine(qzt (g k) (S k) (P.l k) (P.es k) w (h.lk k f) hd).mono ?_
 rintro e w' ⟨ev,rfl,q,m,u,-,-⟩
 rw[v] at q
 obtain⟨a,c,rfl⟩:=zv q
 exact⟨a,c,rfl,h.op f u (m.wider (fun i e=> .inl e) (fun i e=>e.elim (m.lt i) (fun e=>e.2)))⟩
theorem PwS.events1(h:PwS K w0 w p g S P)(C:k<2)(hd:(P.l k).dead=false){x:EvV}(V:P.es k=[x])(X:x.pre.length=32) :
  Calls Tryz.prog 16 #[.pointer (some ⟨g k,0,none⟩)] w fun e w'=>∃B c o E,e = .returned (.slice (some ⟨B,0,none⟩) 1 c)∧(∀w',w'.heap[B]? = some o→zj w' B 0 68=some x.cells.toArray) ∧
   PwS (fun b z=>K b z∨(b=B∧z=o)) w0 w' p g E {P with l:=qbk P.l k (P.l k),es:=qbk P.es k []} := by
 refine(qzt (g k) (S k) (P.l k) (P.es k) w (h.lk k C) hd).mono ?_
 rintro e w' ⟨ev,rfl,U,R,u,M,E,N,m,I⟩
 rw[V] at U
 obtain⟨B,c,o,rfl,W,J,v⟩:=U.one X
 have F:=M B v
 have H:=I B v
 have O:=h.op C u (R.wider (T:=Fr (S k) w w') (fun i e=> .inl e) (fun i e=>e.elim (R.lt i) (fun e=>e.2)))
 refine⟨B,c,o,qbk S k E,rfl,J,O.at_,?_,?_,?_,h.pge,?_,O.new,?_⟩
 ·intro j q;by_cases e:j=k
  ·subst e;show LkV w' (g j) (qbk S j E j) (qbk P.l j (P.l j) j) (qbk P.es j [] j);rw[qbs,qbs,qbs];exact N
  ·show LkV w' (g j) (qbk S k E j) (qbk P.l k (P.l k) j) (qbk P.es k [] j);rw[qc0 _ _ e,qc0 _ _ e,qc0 _ _ e];exact(h.lk j q).upd u (h.apart C q e)
 ·intro i f L;have a0:S 0 i:=by
   by_cases e:0=k
   ·subst e;rw[qbs] at f;exact m i f
   ·rw[qc0 _ _ e] at f;exact f
  have a1:S 1 i:=by
   by_cases e:1=k
   ·subst e;rw[qbs] at L;exact m i L
   ·rw[qc0 _ _ e] at L;exact L
  exact h.sep i a0 a1
 ·intro j q i f;have a0:S j i:=by
   by_cases e:j=k
   ·subst e;rw[qbs] at f;exact m i f
   ·rw[qc0 _ _ e] at f;exact f
  exact h.ge j q i a0
 ·intro j q f;have a0:S j p:=by
   by_cases e:j=k
   ·subst e;rw[qbs] at f;exact m p f
   ·rw[qc0 _ _ e] at f;exact f
  exact h.pS j q a0
 ·rintro b z (e | ⟨rfl,rfl⟩)
  ·refine⟨u.old (h.keep b z e).1 ((h.keep b z e).2.2 k C),(h.keep b z e).2.1,fun j q f=> ?_⟩;have a0:S j b:=by
    by_cases e:j=k
    ·subst e;rw[qbs] at f;exact m b f
    ·rw[qc0 _ _ e] at f;exact f
   exact(h.keep b z e).2.2 j q a0
  ·refine⟨W,fun e=>h.pS k C (e▸F),fun j q f=> ?_⟩;by_cases e:j=k
   ·subst e;rw[qbs] at f;exact H f
   ·rw[qc0 _ _ e] at f;exact h.apart C q e b f F
end
end
section
open Go.RowKit
def Pw.acted(P:Pw)(k:Nat)(L:Lk):Pw:= {P with l:=qbk P.l k L,es:=qbk P.es k (P.es k)}
section
variable {K:Nat→Obj→Prop}{w0 w w':World}{p:Nat}{g:Nat→Nat}{S:Nat→Nat→Prop}{P:Pw}{k:Nat}
theorem PwS.ofer(h:PwS K w0 w p g S P)(v:k<2)(z:Tb w0)(F:LkOkW (P.l k))(n r:Nat)(x:Int)(f:List Int)(L:f.length=32)(J:qbg f)(E:n<2 ^ (8*8))(m:r<18446744073709551616)(H:IntKind.u64.wrap x=(r:Int))(M : -9223372036854775808≤x∧x≤9223372036854775807)
  (q:((P.l k).c.offer n (qa5 f) x).2.2=0→SayOk ((P.l k).c.offer n (qa5 f) x).2.1) (C:((P.l k).c.offer n (qa5 f) x).2.1.hash.length=32) (i:(P.l k).c.news.length<1000000∧(P.l k).c.xs.length<1000000) :
  Calls Tryz.prog 11 #[.pointer (some ⟨g k,0,none⟩),.int .u64 (n:Int),.agg (qs f).toArray,.int .i64 x] w fun e w'=>e = .returned (.tuple #[.int .u64 ((P.l k).actW ((P.l k).c.offer n (qa5 f) x) (zk (qf6 n r f))).2.1.id,.int .i64 ((P.l k).actW ((P.l k).c.offer n (qa5 f) x) (zk (qf6 n r f))).2.2]) ∧
   PwS K w0 w' p g (qbk S k (Fr (S k) w w')) (P.acted k ((P.l k).actW ((P.l k).c.offer n (qa5 f) x) (zk (qf6 n r f))).1):=by
 refine(zc1 (g k) (S k) (P.l k) (P.es k) n r f x w (h.lk k v) F L J E m H M q C i (h.tb z).tabs ⟨(h.ap z v).c,(h.ap z v).d⟩).mono ?_
 rintro e w' ⟨rfl,I,u⟩
 exact⟨rfl,h.op v u I⟩
theorem PwS.pays(h:PwS K w0 w p g S P)(q:k<2)(v:Tb w0)(E:LkOkW (P.l k))(n:Nat)(f:List Int)(H:f.length=32)(C:n<2 ^ (8*8))
  (m:((P.l k).c.fulfill n f).2.2=0→SayOk ((P.l k).c.fulfill n f).2.1) (z:((P.l k).c.fulfill n f).2.1.hash.length=32) (i:(P.l k).c.news.length<1000000∧(P.l k).c.xs.length<1000000) :
  Calls Tryz.prog 18 #[.pointer (some ⟨g k,0,none⟩),.int .u64 (n:Int),.agg (qs f).toArray] w fun e w'=>e = .returned (.int .i64 ((P.l k).actW ((P.l k).c.fulfill n f) (zk (ql0 n f))).2.2) ∧
   PwS K w0 w' p g (qbk S k (Fr (S k) w w')) (P.acted k ((P.l k).actW ((P.l k).c.fulfill n f) (zk (ql0 n f))).1):=by
 refine(zen (g k) (S k) (P.l k) (P.es k) n f w (h.lk k q) E H C m z i (h.tb v) ⟨(h.ap v q).c,(h.ap v q).d⟩).mono ?_
 rintro e w' ⟨rfl,F,u⟩
 exact⟨rfl,h.op q u F⟩
theorem PwS.fails(h:PwS K w0 w p g S P)(q:k<2)(v:Tb w0)(E:LkOkW (P.l k))(n r:Nat)(x:Int)(C:n<2 ^ (8*8))(i:r<18446744073709551616)(F:IntKind.u64.wrap x=(r:Int))
  (m:((P.l k).c.fail n x).2.2=0→SayOk ((P.l k).c.fail n x).2.1) (z:((P.l k).c.fail n x).2.1.hash.length=32) (f:(P.l k).c.news.length<1000000∧(P.l k).c.xs.length<1000000) :
  Calls Tryz.prog 17 #[.pointer (some ⟨g k,0,none⟩),.int .u64 (n:Int),.int .i64 x] w fun e w'=>e = .returned (.int .i64 ((P.l k).actW ((P.l k).c.fail n x) (zk (qm4 n r))).2.2) ∧
   PwS K w0 w' p g (qbk S k (Fr (S k) w w')) (P.acted k ((P.l k).actW ((P.l k).c.fail n x) (zk (qm4 n r))).1):=by
 refine(zd9 (g k) (S k) (P.l k) (P.es k) n r x w (h.lk k q) E C i F m z f (h.tb v).tabs ⟨(h.ap v q).c,(h.ap v q).d⟩).mono ?_
 rintro e w' ⟨rfl,H,u⟩
 exact⟨rfl,h.op q u H⟩
end
def En.says(A:En)(c:Ch)(m:MsgV):En:= {A with c:=c,o:=A.o++[m]}
theorem StE.acts{A:En}{n:Nat}{l:Lk}{way:ByteArray}{es:List EvV}(h:StE A n l way es)(E:A.wt=false){r:Ch × MsgV × Int}{rec:ByteArray}(f:rec.size≤1024)(i:r.2.2=0)(v:SayOk r.2.1)(z:A.o.length≤150) :
  StE (A.says r.1 r.2.1) (n+1) (l.actW r rec).1 way es∧(l.actW r rec).2=(r.2.1,0):=by
 have e:l.actW r rec=(l.acts r.1 rec r.2.1 r.2.2,qrm r.2.1 r.2.2,r.2.2):=by
  unfold Lk.actW;rw[if_neg (by rw[h.l.waits,E];decide)]
 have q:=h.l.acts (c':=r.1) (m:=r.2.1) (er:=r.2.2) f (fun _=>v)
 rw[if_pos i] at q
 rw[e]
 refine⟨⟨?_,h.way,h.es,h.sw,?_,h.lw,?_⟩,?_⟩
 ·show LkC _ r.1 A.t A.wt (zz (A.o++[r.2.1]) ⟨#[]⟩) ⟨#[]⟩ (n+1);rw[qfs];exact q
 ·exact fun m C=>(List.mem_append.1 C).elim (h.so m) (fun e=>by rw[List.mem_singleton.1 e];exact v)
 ·show (A.o++[r.2.1]).length≤_;rw[List.length_append,List.length_singleton];omega
 ·show (qrm r.2.1 r.2.2,r.2.2)=_;unfold qrm;rw[if_pos i,i]
theorem StP.acts0{A B:En}{n:Nat}{P:Pw}(h:StP A B n P)(C:A.wt=false){r:Ch × MsgV × Int}{rec:ByteArray}(f:rec.size≤1024)(v:r.2.2=0)(z:SayOk r.2.1)(i:A.o.length≤150)(E:n≤800000) :
  StP (A.says r.1 r.2.1) B (n+1) (P.acted 0 ((P.l 0).actW r rec).1)∧((P.l 0).actW r rec).2=(r.2.1,0):=by
 obtain⟨m,q⟩:=h.a.acts C f v z i
 exact⟨⟨m,h.b.mono (by omega),h.bad,by omega⟩,q⟩
theorem StP.acts1{A B:En}{n:Nat}{P:Pw}(h:StP A B n P)(C:B.wt=false){r:Ch × MsgV × Int}{rec:ByteArray}(f:rec.size≤1024)(v:r.2.2=0)(z:SayOk r.2.1)(i:B.o.length≤150)(E:n≤800000) :
  StP A (B.says r.1 r.2.1) (n+1) (P.acted 1 ((P.l 1).actW r rec).1)∧((P.l 1).actW r rec).2=(r.2.1,0):=by
 obtain⟨m,q⟩:=h.b.acts C f v z i
 exact⟨⟨h.a.mono (by omega),m,h.bad,by omega⟩,q⟩
def qdi(ours cap n:Int)(h:Vector Int 32)(e:Int):Pay:=⟨qde ours cap,qb9 ours cap,0,0,0,n,h,e,ours-n,cap-ours,List.replicate 17 .zero,List.replicate 17 .zero,[],[],0,0,false,false⟩
theorem q47(ours cap:Int):Duo (qde ours cap) (qb9 ours cap) :=
 ⟨rfl,by show (0:Int)≤9∧(9:Int)<4294967296;decide,rfl,rfl,by show (ByteArray.size ⟨#[107]⟩)≤1000;decide,by show (ByteArray.size ⟨#[108]⟩)≤1000;decide,rfl,rfl,by intro b f;unfold qde qfd at f;simp only[List.mem_cons,List.mem_replicate] at f;rcases f with rfl | ⟨_,rfl⟩<;>decide,by intro b f;unfold qb9 qfd at f;simp only[List.mem_cons,List.mem_replicate] at f;rcases f with rfl | ⟨_,rfl⟩<;>decide⟩
theorem qsq{ours cap n e:Int}{h:Vector Int 32}(q:0≤ours∧ours≤cap∧cap≤1125899906842624)(m:1≤n∧n≤ours)(f:1≤e∧e≤1073741824)(i:∀b∈h.toList,0≤b∧b≤255):PayOk (qdi ours cap n h e) :=
 ⟨q47 ours cap,⟨by show (0:Int)≤0;decide,by show (0:Int)≤50000;decide⟩,⟨by show (0:Int)≤0;decide,by show (0:Int)≤50000;decide⟩,⟨by show (0:Int)≤0;decide,by show (0:Int)≤50000;decide⟩,⟨m.1,by show n≤_;omega⟩,
  i,f,by show 0≤ours-n;omega,qq9 _,qq9 _,Nat.zero_le _,Nat.zero_le _⟩
theorem qxu(p:Int):(ofI (qim p)).length=32:=qb5 _
theorem quz(p:Int):qbg (ofI (qim p)):=qf9 _
theorem q1a(p:Int):∀b∈(qa5 (ofI (qim p))).toList,0≤b∧b≤255:=by
 rw[qd6 (qxu p)];exact quz p
theorem q1b(p:Int):qfc (qim p) (qa5 (ofI (qim p))).toList=true:=by
 rw[qd6 (qxu p)];show (ofI (qim p)==ofI (qim p))=true;generalize ofI (qim p)=x;simp
theorem qk5{ours cap n e:Int}{h:Vector Int 32}(m:1≤n∧n≤ours)(i:1≤e∧e≤1073741824):(Ch.new (qde ours cap)).offer n h e=((qdi ours cap n h e).a0,(qdi ours cap n h e).add,0):=by
 have f:qbq (Ch.new (qde ours cap)) n e=0:=by
  unfold qbq;rw[if_neg (by show ¬(false=true);decide),if_neg (by omega),if_neg (by omega),if_neg (by show ¬(8≤qe7 true []);decide),if_neg (by show ¬(ours<n);omega)]
 unfold Ch.offer;rw[if_pos f];rfl
theorem zdg{ours cap n e:Int}{h:Vector Int 32}{p:List Int}(i:qfc p h.toList=true):(qdi ours cap n h e).b4.fulfill 0 p=((qdi ours cap n h e).b5 true (qt6 (qb9 ours cap) 0 p),qt6 (qb9 ours cap) 0 p,0):=by
 have f:qdc false 0 (qdi ours cap n h e).b4.xs=some (0,qlo 0 n h e false 4 false):=qtm;rw[qt4 f,if_pos (show qfc p (qlo 0 n h e false 4 false).h.hash.toList=true from i)];rfl
theorem zbd(ours cap:Int):StP ⟨Ch.new (qde ours cap),0,false,[],[],[]⟩ ⟨Ch.new (qb9 ours cap),0,false,[],[],[]⟩ 0 (Pw.new ours cap) :=
 ⟨⟨LkC.new _,rfl,rfl,(fun m f=>by cases f),(fun m f=>by cases f),Nat.zero_le _,Nat.zero_le _⟩,⟨LkC.new _,rfl,rfl,(fun m f=>by cases f),(fun m f=>by cases f),Nat.zero_le _,Nat.zero_le _⟩,rfl,Nat.zero_le _⟩
theorem zbr{ours cap n e:Int}{h:Vector Int 32}(m:0≤ours∧ours≤cap∧cap≤1125899906842624):(qdi ours cap n h e).b0=Ch.new (qb9 ours cap):=by
 have f:IntKind.u64.wrap (cap-ours)=cap-ours:=qel (by omega) (by omega);have i:(qb9 ours cap).ours=cap-ours:=f;unfold Ch.new Pay.b0;rw[i];show (⟨qb9 ours cap,_,cap-ours,ours-n+n,_,_,_,_⟩:Ch)=⟨qb9 ours cap,_,cap-ours,cap-(cap-ours),_,_,_,_⟩;rw[show ours-n+n=cap-(cap-ours) by omega];rfl
def DP(K:Nat→Obj→Prop)(w0 w:World)(p:Nat)(g:Nat→Nat)(A B:En)(n:Nat):Prop:=∃S P,PwS K w0 w p g S P∧StP A B n P
def En.noEs(A:En):En:= {A with es:=[]}
section
variable {K:Nat→Obj→Prop}{w0 w w':World}{p:Nat}{g:Nat→Nat}{A B:En}{n:Nat}
theorem DP.nw(h:DP K w0 w p g A B n)(u:qu w w'):DP K w0 w' p g A B n:=by
 obtain⟨S,P,f,i⟩:=h;exact⟨S,P,f.nw u,i⟩
theorem DP.new(h:DP K w0 w p g A B n):qu w0 w:=by
 obtain⟨S,P,f,i⟩:=h;exact f.new
theorem DP.cl(h:DP K w0 w p g A B n):w.cell? ⟨p,0,none⟩=some (.pointer (some ⟨g 0,0,none⟩))∧w.cell? ⟨p,1,none⟩=some (.pointer (some ⟨g 1,0,none⟩)):=by
 obtain⟨S,P,f,i⟩:=h;exact⟨f.cl (k:=0) (by decide),f.cl (k:=1) (by decide)⟩
theorem DP.bad(h:DP K w0 w p g A B n):w.cell? ⟨p,4,none⟩=some (.bool false):=by
 obtain⟨S,P,f,i⟩:=h;have:=f.cb.1;rwa [i.bad] at this
theorem DP.keep(h:DP K w0 w p g A B n){b:Nat}{o:Obj}(i:K b o):w.heap[b]? = some o:=by
 obtain⟨S,P,f,m⟩:=h;exact(f.keep b o i).1
theorem DP.flow(h:DP K w0 w p g A B n)(C:A.w.length+B.o.length≤200∧B.w.length+A.o.length≤200) :
  Calls Tryz.prog 14 #[.pointer (some ⟨p,0,none⟩)] w fun e w'=>e = .returned (.tuple #[])∧∃g,DP K w0 w' p g (A.goes B) (B.goes A) n:=by
 obtain⟨S,P,v,i⟩:=h
 have f:=i.flowOk
 refine(qgz K w0 w p P ⟨g,S,v⟩ f.dead f.size).mono ?_
 rintro e w' ⟨rfl,q,m,z⟩
 exact⟨rfl,q,m,_,z,i.flow C⟩
theorem DP.rests{FA FB:Nat→En}(h:DP K w0 w p g (FA 0) (FB 0) n)(F:Tb w0)(J:∀i,i<200→RoundG (FA i) (FB i) (FA (i+1)) (FB (i+1)))(M:n≤490000) :
  Calls Tryz.prog 15 #[.pointer (some ⟨p,0,none⟩)] w fun e w'=>e = .returned (.tuple #[])∧∃g,DP K w0 w' p g (FA 200) (FB 200) (n+202000):=by
 obtain⟨S,P,q,v⟩:=h
 refine(q2x K w0 w p P (fun i P=>StP (FA i) (FB i) (n+1010*i) P) ⟨g,S,q⟩ F v ?_).mono ?_
 ·intro i P H C;obtain⟨Q,I,L⟩:=C.round (J i H) (by omega);exact⟨Q,I,by rw[show n+1010*(i+1)=n+1010*i+1010 by omega];exact L⟩
 ·rintro e w' ⟨rfl,Q,E,m,f,z⟩;exact⟨rfl,m,f,Q,z,E⟩
theorem StP.ev1{P:Pw}(h:StP A B n P):StP A B.noEs n {P with l:=qbk P.l 1 (P.l 1),es:=qbk P.es 1 []} := ⟨h.a,⟨h.b.l,h.b.way,rfl,h.b.sw,h.b.so,h.b.lw,h.b.lo⟩,h.bad,h.n⟩
theorem DP.ev1(h:DP K w0 w p g A B n)(q:B.es=[]):Calls Tryz.prog 16 #[.pointer (some ⟨g 1,0,none⟩)] w fun e w'=>∃a c,e = .returned (.slice a 0 c)∧DP K w0 w' p g A B.noEs n:=by
 obtain⟨S,P,i,f⟩:=h;refine(i.events0 (k:=1) (by decide) f.b.l.dead (by rw[f.b.es,q])).mono ?_;rintro e w' ⟨a,c,rfl,m⟩;exact⟨a,c,rfl,_,_,m,f.ev1⟩
theorem DP.offer(h:DP K w0 w p g A B n)(R:Tb w0)(W:A.wt=false)(N r:Nat)(x:Int)(f:List Int)(I:f.length=32)(T:qbg f)(C:N<2 ^ (8*8))(m:r<18446744073709551616)(F:IntKind.u64.wrap x=(r:Int))(X : -9223372036854775808≤x∧x≤9223372036854775807)
  (V:(A.c.offer N (qa5 f) x).2.2=0) (E:SayOk (A.c.offer N (qa5 f) x).2.1) (i:A.c.news.length<1000000∧A.c.xs.length<1000000) (z:A.o.length≤150) (U:n≤800000) :
  Calls Tryz.prog 11 #[.pointer (some ⟨g 0,0,none⟩),.int .u64 (N:Int),.agg (qs f).toArray,.int .i64 x] w fun e w'=>e = .returned (.tuple #[.int .u64 (A.c.offer N (qa5 f) x).2.1.id,.int .i64 0]) ∧
   DP K w0 w' p g (A.says (A.c.offer N (qa5 f) x).1 (A.c.offer N (qa5 f) x).2.1) B (n+1):=by
 obtain⟨S,P,J,v⟩:=h
 have q:=v.a.l.c
 obtain⟨L,M⟩:=v.acts0 W (r:=A.c.offer N (qa5 f) x) (rec:=zk (qf6 N r f)) (qo0 I) V E z U
 have H:=J.ofer (k:=0) (by decide) R (v.a.l.ok (by omega)) N r x f I T C m F X (by rw[q];exact fun _=>E) (by rw[q];exact E.put.ok.len) (by rw[q];exact i)
 rw[q,M] at H
 refine H.mono ?_
 rintro e w' ⟨rfl,O⟩
 exact⟨rfl,_,_,O,L⟩
theorem DP.pays(h:DP K w0 w p g A B n)(M:Tb w0)(T:B.wt=false)(N:Nat)(f:List Int)(F:f.length=32)(z:N<2 ^ (8*8))
  (R:(B.c.fulfill N f).2.2=0) (C:SayOk (B.c.fulfill N f).2.1) (i:B.c.news.length<1000000∧B.c.xs.length<1000000) (v:B.o.length≤150) (O:n≤800000) :
  Calls Tryz.prog 18 #[.pointer (some ⟨g 1,0,none⟩),.int .u64 (N:Int),.agg (qs f).toArray] w fun e w'=>e = .returned (.int .i64 0) ∧
   DP K w0 w' p g A (B.says (B.c.fulfill N f).1 (B.c.fulfill N f).2.1) (n+1):=by
 obtain⟨S,P,H,q⟩:=h
 have m:=q.b.l.c
 obtain⟨I,J⟩:=q.acts1 T (r:=B.c.fulfill N f) (rec:=zk (ql0 N f)) (qq2 F) R C v O
 have E:=H.pays (k:=1) (by decide) M (q.b.l.ok (by omega)) N f F z (by rw[m];exact fun _=>C) (by rw[m];exact C.put.ok.len) (by rw[m];exact i)
 rw[m,J] at E
 refine E.mono ?_
 rintro e w' ⟨rfl,L⟩
 exact⟨rfl,_,_,L,I⟩
end
section
variable {K:Nat→Obj→Prop}{w0 w w':World}{p:Nat}{g:Nat→Nat}{A B:En}{n:Nat}
def En.outs(A:En):En:= {A with o:=[]}
theorem DP.out(h:DP K w0 w p g A B n):Calls Tryz.prog 44 #[.pointer (some ⟨g 0,0,none⟩)] w fun e w'=>e = .returned (.string (zz A.o ⟨#[]⟩))∧DP K w0 w' p g A.outs B n:=by
 obtain⟨S,P,i,f⟩:=h;refine(zc2 (g 0) (S 0) (P.l 0) (P.es 0) w (i.lk 0 (by decide)) f.a.l.dead).mono ?_;rintro e w' ⟨rfl,q,u⟩;exact⟨by rw[f.a.l.out],_,_,i.op (k:=0) (by decide) u q,⟨f.a.l.outs,f.a.way,f.a.es,f.a.sw,(fun m v=>by cases v),f.a.lw,Nat.zero_le _⟩,f.b,f.bad,f.n⟩
theorem DP.tick(h:DP K w0 w p g A B n)(E:Tb w0){c':Ch}{M:List MsgV}(H:qgv A.t A.wt A.c c' M)(F:A.o.length≤150)(I:n≤800000)(i:A.t<900000) :
  Calls Tryz.prog 28 #[.pointer (some ⟨g 0,0,none⟩)] w fun e w'=>e = .returned (.int .i64 0)∧DP K w0 w' p g (A.ticks c' M) B (n+1):=by
 obtain⟨S,P,v,f⟩:=h
 obtain⟨t0,q,z⟩:=f.a.ticks H F (by omega) i
 have m:=v.tick (k:=0) (by decide) t0 E
 rw[q] at m
 refine m.mono ?_
 rintro e w' ⟨rfl,C⟩
 exact⟨rfl,_,_,C,z,f.b.mono (by omega),f.bad,by omega⟩
theorem DP.chn(h:DP K w0 w p g A B n):∃en,Calls Tryz.prog 19 #[.pointer (some ⟨g 0,0,none⟩)] w (qay (.pointer (some ⟨en,0,none⟩)) w):=by
 obtain⟨S,P,i,q⟩:=h;obtain⟨en,m,v,-,f⟩:=zd7 (g 0) _ _ _ w (i.lk 0 (by decide));exact⟨en,f⟩
end
theorem qvg{m:MsgV}(h:SayOk m):(0:Int)<((zz [m] ⟨#[]⟩).size:Int):=by
 have:=h.size;have e:zz [m] ⟨#[]⟩=(⟨#[]⟩:ByteArray)++qdw m:=rfl;rw[e,ByteArray.size_append];omega
attribute [local go_sem ↓ high] qam
attribute [local go_sem] qdh qv
theorem q7x(w:World)(P:Tb w):Calls Tryz.prog 10 #[] w (qa1 (.bool true) w):=by
 have hb:=q4g 10 10 (by decide) (by decide) (by decide) w;have N:∀b∈(qa5 ze).toList,0≤b∧b≤255:=by
  rw[qd6 ql];exact qca
 have f:=qsq (ours:=10) (cap:=10) (n:=4) (e:=9) (h:=qa5 ze) (by decide) (by decide) (by decide) N;have E:=qk5 (ours:=10) (cap:=10) (n:=4) (h:=qa5 ze) (e:=9) (by decide) (by decide);have v:SayOk (qdi 10 10 4 (qa5 ze) 9).add:=qkr f.D.chb ⟨f.j.1,by have:=f.j.2;omega⟩ ⟨by have:=f.n.1;omega,f.n.2⟩ f.h ⟨by have:=f.e.1;omega,f.e.2⟩;have hg:=Pay.g1 f;have M:SayOk (qdi 10 10 4 (qa5 ze) 9).s1:=by
  rcases hg.eq with ⟨m,-,e,hm⟩ | ⟨-,e,-⟩
  ·rw[List.cons.injEq] at e;rw[e.1];exact hm
  ·cases e
 have t1:qgv 0 false (qdi 10 10 4 (qa5 ze) 9).a0 (qdi 10 10 4 (qa5 ze) 9).a0 []:=qev (f.ea (by decide) (by show (1:Nat)≤_;decide) (by show (1:Nat)≤_;decide)) (by decide);have t2:qgv 1 false (qdi 10 10 4 (qa5 ze) 9).a0 (qdi 10 10 4 (qa5 ze) 9).a0 []:=qev (f.ea (by decide) (by show (1:Nat)≤_;decide) (by show (1:Nat)≤_;decide)) (by decide);have t3:qgv 2 false (qdi 10 10 4 (qa5 ze) 9).a0 (qdi 10 10 4 (qa5 ze) 9).a1 [(qdi 10 10 4 (qa5 ze) 9).s1]:=qjt (f.ea (by decide) (by show (1:Nat)≤_;decide) (by show (1:Nat)≤_;decide)) (by decide) hg;have J:=qb (And.intro t1 (And.intro t2 (And.intro t3 (And.intro v M))));have C:(qdi 10 10 4 (qa5 ze) 9).add.id=0:=rfl;clear f hg M t1 t2 t3 N;generalize qdi 10 10 4 (qa5 ze) 9=q at *
 have R:=qb (And.intro E (And.intro C v));clear E C v;go_enter Tryz.func10,Tryz.ntmps10;go_wp2_with fail;refine hb.mono ?_;rintro e w1 ⟨b,rfl,g,S,hP⟩;have V:DP (fun _ _=>False) w w1 b g ⟨Ch.new (qde 10 10),0,false,[],[],[]⟩ ⟨Ch.new (qb9 10 10),0,false,[],[],[]⟩ 0:=⟨S,_,hP,zbd 10 10⟩;have ho:Calls Tryz.prog 11 #[.pointer (some ⟨g 0,0,none⟩),.int .u64 4,.agg (qs ze).toArray,.int .i64 9] w1 fun e w'=>e = .returned (.tuple #[.int .u64 0,.int .i64 0])∧DP (fun _ _=>False) w w' b g ⟨q.a0,0,false,[],[q.add],[]⟩ ⟨Ch.new (qb9 10 10),0,false,[],[],[]⟩ 1:=by
  obtain⟨E,C,v⟩:=qa R;have i:(Ch.new (qde 10 10)).offer ((4:Nat):Int) (qa5 ze) 9=(q.a0,q.add,0):=E;have:=V.offer P rfl 4 9 9 ze ql qca (by decide) (by decide) (by decide) (by decide) (by show ((Ch.new (qde 10 10)).offer ((4:Nat):Int) (qa5 ze) 9).2.2=0;rw[i]) (by show SayOk ((Ch.new (qde 10 10)).offer ((4:Nat):Int) (qa5 ze) 9).2.1;rw[i];exact v) ⟨by show (0:Nat)<_;decide,by show (0:Nat)<_;decide⟩ (by show (0:Nat)≤_;decide) (by decide);rw[show (⟨Ch.new (qde 10 10),0,false,[],[],[]⟩:En).c.offer ((4:Nat):Int) (qa5 ze) 9=_ from i] at this;refine this.mono ?_;rintro e w' ⟨rfl,h⟩;exact⟨by rw[C],h⟩
 have c:=V.cl.1;clear hb V hP;go_wp2_with fail;refine ho.mono ?_;rintro e w2 ⟨rfl,W⟩;replace c:=W.cl.1;have z:Calls Tryz.prog 44 #[.pointer (some ⟨g 0,0,none⟩)] w2 fun e w'=>e = .returned (.string (zz [q.add] ⟨#[]⟩))∧DP (fun _ _=>False) w w' b g (⟨q.a0,0,false,[],[],[]⟩:En) ⟨Ch.new (qb9 10 10),0,false,[],[],[]⟩ 1:=W.out
 obtain⟨sa,F⟩:∃sa,sa=zz [q.add] ⟨#[]⟩:=⟨_,rfl⟩;rw[←F] at z;have T:=qb F;clear F;clear ho W;go_wp2_with fail;refine z.mono ?_;rintro e w3 ⟨rfl,X⟩;replace c:=X.cl.1;have I:Calls Tryz.prog 28 #[.pointer (some ⟨g 0,0,none⟩)] w3 fun e w'=>e = .returned (.int .i64 0)∧DP (fun _ _=>False) w w' b g (⟨q.a0,1,false,[],[],[]⟩:En) ⟨Ch.new (qb9 10 10),0,false,[],[],[]⟩ 2:=X.tick P (qa J).1 (by show (0:Nat)≤_;decide) (by decide) (by show (0:Nat)<_;decide)
 clear z X;go_wp2_with fail;refine I.mono ?_;rintro e w4 ⟨rfl,Y⟩;replace c:=Y.cl.1;have I:Calls Tryz.prog 28 #[.pointer (some ⟨g 0,0,none⟩)] w4 fun e w'=>e = .returned (.int .i64 0)∧DP (fun _ _=>False) w w' b g (⟨q.a0,2,false,[],[],[]⟩:En) ⟨Ch.new (qb9 10 10),0,false,[],[],[]⟩ 3:=Y.tick P (qa J).2.1 (by show (0:Nat)≤_;decide) (by decide) (by show (1:Nat)<_;decide)
 clear Y;go_wp2_with fail;refine I.mono ?_;rintro e w5 ⟨rfl,Z⟩;replace c:=Z.cl.1;have z:Calls Tryz.prog 44 #[.pointer (some ⟨g 0,0,none⟩)] w5 fun e w'=>e = .returned (.string ⟨#[]⟩)∧DP (fun _ _=>False) w w' b g (⟨q.a0,2,false,[],[],[]⟩:En) ⟨Ch.new (qb9 10 10),0,false,[],[],[]⟩ 3:=Z.out
 clear I Z;go_wp2_with fail;refine z.mono ?_;rintro e w6 ⟨rfl,h6⟩;replace c:=h6.cl.1;have I:Calls Tryz.prog 28 #[.pointer (some ⟨g 0,0,none⟩)] w6 fun e w'=>e = .returned (.int .i64 0)∧DP (fun _ _=>False) w w' b g (⟨q.a1,3,false,[],[q.s1],[]⟩:En) ⟨Ch.new (qb9 10 10),0,false,[],[],[]⟩ 4:=h6.tick P (qa J).2.2.1 (by show (0:Nat)≤_;decide) (by decide) (by show (2:Nat)<_;decide)
 clear z h6;go_wp2_with fail;refine I.mono ?_;rintro e w7 ⟨rfl,h7⟩;replace c:=h7.cl.1;have z:Calls Tryz.prog 44 #[.pointer (some ⟨g 0,0,none⟩)] w7 fun e w'=>e = .returned (.string (zz [q.s1] ⟨#[]⟩))∧DP (fun _ _=>False) w w' b g (⟨q.a1,3,false,[],[],[]⟩:En) ⟨Ch.new (qb9 10 10),0,false,[],[],[]⟩ 4:=h7.out
 obtain⟨sc,H⟩:∃sc,sc=zz [q.s1] ⟨#[]⟩:=⟨_,rfl⟩;rw[←H] at z;have U:=qb H;clear H;clear I h7;go_wp2_with fail;refine z.mono ?_;rintro e w8 ⟨rfl,O⟩;replace c:=O.cl.1;obtain⟨en,L⟩:=O.chn;have N8:=qb O.new;have F:(0:Int)<(sa.size:Int):=by rw[qa T];exact qvg (qa J).2.2.2.1
 have H:(0:Int)<(sc.size:Int):=by rw[qa U];exact qvg (qa J).2.2.2.2
 clear z O;go_wp2_with fail;refine L.mono ?_;rintro e w9 ⟨rfl,q9⟩;have N9:=qb ((qa N8).trans (q9.upd _));clear L q9 c;go_wp2_with fail;go_ret;exact⟨rfl,qa N9⟩
end
section
open Go.RowKit
def En.cuts(A:En):En:=⟨A.c.cut,0,true,A.w,[qa2 A.c.cut],A.es⟩
theorem StE.cuts{A:En}{n:Nat}{l:Lk}{way:ByteArray}{es:List EvV}(h:StE A n l way es)(f:SayOk (qa2 A.c.cut)):StE A.cuts (n+1) (l.cut (zc 7 1)) way es:=by
 have H:=f.size;have F:=qjo l.j.many.toNat (zc 7 1);have i:(zc 7 1).size≤1024:=by rw[qak];decide
 have C:=h.l.len;have E:=h.l.many;refine⟨⟨?_,rfl,rfl,?_,rfl,h.l.dead,rfl,h.l.fused,h.l.off,⟨?_,?_⟩,?_,?_⟩,h.way,h.es,h.sw,?_,h.lw,Nat.le_trans (Nat.le_refl 1) (by decide)⟩
 ·show l.c.cut=_;rw[h.l.c];rfl
 ·show qdw (qa2 l.c.cut)=zz [qa2 A.c.cut] ⟨#[]⟩;rw[h.l.c];exact(ByteArray.empty_append).symm
 ·show 0≤l.j.many+1;omega
 ·show l.j.many+1≤((n+1:Nat):Int);omega
 ·show (l.j.bs++qpx l.j.many.toNat (zc 7 1)).size≤_;rw[ByteArray.size_append];omega
 ·show ((⟨#[]⟩:ByteArray)++qdw (qa2 A.c.cut)).size≤_;have z:(⟨#[]⟩:ByteArray).size=0:=rfl;rw[ByteArray.size_append];omega
 ·intro m v;rw[List.mem_singleton.1 v];exact f
section
variable {K:Nat→Obj→Prop}{w0 w w':World}{p:Nat}{g:Nat→Nat}{A B:En}{n:Nat}
theorem DP.cut0(h:DP K w0 w p g A B n)(v:qns A.c)(m:Tb w0)(z:SayOk (qa2 A.c.cut))(E:n≤800000):Calls Tryz.prog 25 #[.pointer (some ⟨g 0,0,none⟩)] w fun e w'=>e = .returned (.int .i64 0)∧DP K w0 w' p g A.cuts B (n+1):=by
 obtain⟨S,P,i,f⟩:=h;refine(zd8 (g 0) (S 0) (P.l 0) (by rw[f.a.l.c];exact v) (P.es 0) w (i.lk 0 (by decide)) (f.a.l.ok (by omega)) (by rw[f.a.l.c];exact z) (i.tb m).tabs ⟨(i.ap m (by decide)).c,(i.ap m (by decide)).d⟩).mono ?_;rintro e w' ⟨rfl,C,u⟩;exact⟨rfl,_,_,i.op (k:=0) (by decide) u C,f.a.cuts z,f.b.mono (by omega),f.bad,by omega⟩
theorem DP.cut1(h:DP K w0 w p g A B n)(v:qns B.c)(m:Tb w0)(z:SayOk (qa2 B.c.cut))(E:n≤800000):Calls Tryz.prog 25 #[.pointer (some ⟨g 1,0,none⟩)] w fun e w'=>e = .returned (.int .i64 0)∧DP K w0 w' p g A B.cuts (n+1):=by
 obtain⟨S,P,i,f⟩:=h;refine(zd8 (g 1) (S 1) (P.l 1) (by rw[f.b.l.c];exact v) (P.es 1) w (i.lk 1 (by decide)) (f.b.l.ok (by omega)) (by rw[f.b.l.c];exact z) (i.tb m).tabs ⟨(i.ap m (by decide)).c,(i.ap m (by decide)).d⟩).mono ?_;rintro e w' ⟨rfl,C,u⟩;exact⟨rfl,_,_,i.op (k:=1) (by decide) u C,f.a.mono (by omega),f.b.cuts z,f.bad,by omega⟩
theorem DP.tick1(h:DP K w0 w p g A B n)(F:Tb w0){c':Ch}{M:List MsgV}(I:qgv B.t B.wt B.c c' M)(H:B.o.length≤150)(J:n≤800000)(i:B.t<900000) :
  Calls Tryz.prog 28 #[.pointer (some ⟨g 1,0,none⟩)] w fun e w'=>e = .returned (.int .i64 0)∧DP K w0 w' p g A (B.ticks c' M) (n+1):=by
 obtain⟨S,P,z,f⟩:=h
 obtain⟨t0,v,C⟩:=f.b.ticks I H (by omega) i
 have m:=z.tick (k:=1) (by decide) t0 F
 rw[v] at m
 refine m.mono ?_
 rintro e w' ⟨rfl,E⟩
 exact⟨rfl,_,_,E,f.a.mono (by omega),C,f.bad,by omega⟩
theorem StP.same{P:Pw}(h:StP A B n P):StP A B n (P.acted 1 (P.l 1)):=⟨h.a,h.b,h.bad,h.n⟩
theorem qlk{l:Lk}(h:l.waits=true)(r:Ch × MsgV × Int)(rec:ByteArray):l.actW r rec=(l,MsgV.zero,5):=by
 unfold Lk.actW;rw[if_pos h]
theorem DP.offerW(h:DP K w0 w p g A B n)(L:Tb w0)(T:B.wt=true)(N r:Nat)(x:Int)(m:List Int)(O:m.length=32)(M:qbg m)(C:N<2 ^ (8*8))(v:r<18446744073709551616)(E:IntKind.u64.wrap x=(r:Int))(U : -9223372036854775808≤x∧x≤9223372036854775807)
  (H:SayOk (B.c.offer N (qa5 m) x).2.1) (i:B.c.news.length<1000000∧B.c.xs.length<1000000) :
  Calls Tryz.prog 11 #[.pointer (some ⟨g 1,0,none⟩),.int .u64 (N:Int),.agg (qs m).toArray,.int .i64 x] w fun e w'=>e = .returned (.tuple #[.int .u64 0,.int .i64 5])∧DP K w0 w' p g A B n:=by
 obtain⟨S,P,I,f⟩:=h
 have z:=f.b.l.c
 have R:=f.n
 have F:=I.ofer (k:=1) (by decide) L (f.b.l.ok (by omega)) N r x m O M C v E U (by rw[z];exact fun _=>H) (by rw[z];exact H.put.ok.len) (by rw[z];exact i)
 rw[qlk (by rw[f.b.l.waits];exact T)] at F
 refine F.mono ?_
 rintro e w' ⟨rfl,J⟩
 exact⟨rfl,_,_,J,f.same⟩
theorem DP.paysW(h:DP K w0 w p g A B n)(I:Tb w0)(M:B.wt=true)(N:Nat)(m:List Int)(J:m.length=32)(z:N<2 ^ (8*8))
  (E:SayOk (B.c.fulfill N m).2.1) (i:B.c.news.length<1000000∧B.c.xs.length<1000000) :
  Calls Tryz.prog 18 #[.pointer (some ⟨g 1,0,none⟩),.int .u64 (N:Int),.agg (qs m).toArray] w fun e w'=>e = .returned (.int .i64 5)∧DP K w0 w' p g A B n:=by
 obtain⟨S,P,F,f⟩:=h
 have v:=f.b.l.c
 have L:=f.n
 have C:=F.pays (k:=1) (by decide) I (f.b.l.ok (by omega)) N m J z (by rw[v];exact fun _=>E) (by rw[v];exact E.put.ok.len) (by rw[v];exact i)
 rw[qlk (by rw[f.b.l.waits];exact M)] at C
 refine C.mono ?_
 rintro e w' ⟨rfl,H⟩
 exact⟨rfl,_,_,H,f.same⟩
theorem DP.failsW(h:DP K w0 w p g A B n)(J:Tb w0)(M:B.wt=true)(N r:Nat)(x:Int)(z:N<2 ^ (8*8))(m:r<18446744073709551616)(C:IntKind.u64.wrap x=(r:Int))
  (F:SayOk (B.c.fail N x).2.1) (i:B.c.news.length<1000000∧B.c.xs.length<1000000) :
  Calls Tryz.prog 17 #[.pointer (some ⟨g 1,0,none⟩),.int .u64 (N:Int),.int .i64 x] w fun e w'=>e = .returned (.int .i64 5)∧DP K w0 w' p g A B n:=by
 obtain⟨S,P,H,f⟩:=h
 have v:=f.b.l.c
 have L:=f.n
 have E:=H.fails (k:=1) (by decide) J (f.b.l.ok (by omega)) N r x z m C (by rw[v];exact fun _=>F) (by rw[v];exact F.put.ok.len) (by rw[v];exact i)
 rw[qlk (by rw[f.b.l.waits];exact M)] at E
 refine E.mono ?_
 rintro e w' ⟨rfl,I⟩
 exact⟨rfl,_,_,I,f.same⟩
theorem zc3(g:Nat)(S:Nat→Prop)(l:Lk)(es:List EvV)(w:World)(h:LkV w g S l es)(hd:l.dead=false)(z:l.waits=true) :
  Calls Tryz.prog 27 #[.pointer (some ⟨g,0,none⟩)] w fun e w'=>e = .returned (.int .i64 5)∧LkV w' g (Fr S w w') l es∧Upd S w w':=by
 obtain⟨sp,en,lo,f,i,m,ev,h⟩:=h
 refine(qpw g f {l with ev:=ev} w ⟨sp,en,lo,i,m,h.lk⟩ ⟨hd,z⟩).mono ?_
 rintro e w' ⟨rfl,v,u⟩
 have:=LkV.lift (L:=l) h u v
 exact⟨rfl,this.1,this.2⟩
theorem DP.shutW(h:DP K w0 w p g A B n)(v:B.wt=true):Calls Tryz.prog 27 #[.pointer (some ⟨g 1,0,none⟩)] w fun e w'=>e = .returned (.int .i64 5)∧DP K w0 w' p g A B n:=by
 obtain⟨S,P,i,f⟩:=h;refine(zc3 (g 1) (S 1) (P.l 1) (P.es 1) w (i.lk 1 (by decide)) f.b.l.dead (by rw[f.b.l.waits];exact v)).mono ?_;rintro e w' ⟨rfl,m,u⟩;exact⟨rfl,_,_,i.op (k:=1) (by decide) u m,f.same⟩
end
theorem q6u(c i:Int){n:Int}(f:0≤n∧n≤65535):qaf ⟨9,c,i,0,ze,0,n⟩=true:=by
 unfold qaf;show (if (0:Int)<0∨1073741824<(0:Int)∨n<0∨65535<n∨1125899906842624<(0:Int) then false else decide (qfh _ _=qa9 9))=true;rw[if_neg (by omega)];kernel_rfl
def qj7(s:SetupV)(i n:Int):MsgV:=⟨9,s.ch,i,0,ze,0,n⟩
theorem qod{s:SetupV}{i n:Int}(m:0≤s.ch∧s.ch<4294967296)(v:0≤i∧i<18446744073709551616)(f:0≤n∧n≤65535):SayOk (qj7 s i n) :=
 qf7 (by decide) m v (by decide) ql qca (by decide) f (q6u _ _ f)
theorem qy6{s t:SetupV}(D:Duo s t){sg hd:Int}{no nt x y:Int}{rv:Bool}{L:List Live}{sh:List KeptV}{la:List MsgV}(J:0≤sg∧sg≤60000)(z:0≤hd∧hd≤60000)(i:qft t.seed sh)(m:L.length≤16)(E:la.length≤1000) :
  HearC (Ch.mk s ⟨sg,hd,false,no,nt,false,false,rv⟩ x y L sh [] la) (qj7 t hd (sg+1)) (Ch.mk s ⟨sg,hd,false,no,nt,false,false,rv⟩ x y L sh [] la) []:=by
 have f:SayOk (qj7 t hd (sg+1)):=qod D.symm.chb ⟨z.1,by omega⟩ ⟨by omega,by omega⟩
 refine⟨f,⟨by show (3:Int)≤9;decide,by show (9:Int)≤9;decide⟩,?_,q9j D i (by omega) m,by show la.length≤_;omega,(fun l C=>by cases C),Nat.zero_le _,by show L.length≤_;omega⟩
 have F:=f.may
 unfold Ch.hears
 rw[if_pos (show (qj7 t hd (sg+1)).kind=9 from rfl),if_neg (fun e=>e.elim (fun e=>by rw[F] at e;cases e) (fun e=>e D.ch.symm))]
 have I:qga (Ch.mk s ⟨sg,hd,false,no,nt,false,false,rv⟩ x y L sh [] la) (qj7 t hd (sg+1))=false:=rfl
 have H:qkf (Ch.mk s ⟨sg,hd,false,no,nt,false,false,rv⟩ x y L sh [] la) (qj7 t hd (sg+1))=false:=by
  show (decide (0<hd)&&decide (hd=hd-1))=false;rw[decide_eq_false (show ¬hd=hd-1 by omega),Bool.and_false]
 have v:qdz (Ch.mk s ⟨sg,hd,false,no,nt,false,false,rv⟩ x y L sh [] la) (qj7 t hd (sg+1))=0:=by
  unfold qdz;rw[if_neg (fun e=>e.2 rfl),if_neg (fun e=>e.2 rfl)]
 unfold Ch.hearAgain
 rw[if_pos v,I,H]
 rfl
section
variable {q:Pay}
theorem Pay.cutA:qns q.a3:=qp9 fun x f=>by rw[show q.a3.xs=[q.I true 4 false] from rfl] at f;rw[List.mem_singleton.1 f];exact⟨by show (4:Int)≠0;decide,by show (4:Int)≠5;decide⟩
theorem Pay.cutB:qns q.b4:=qp9 fun x f=>by rw[show q.b4.xs=[q.I false 4 false] from rfl] at f;rw[List.mem_singleton.1 f];exact⟨by show (4:Int)≠0;decide,by show (4:Int)≠5;decide⟩
theorem Pay.agA(k:PayOk q):qa2 q.a3=qj7 q.s (q.sa+1) (q.sb+1+1):=by
 show MsgV.mk 9 q.s.ch (IntKind.u64.wrap (q.sa+1)) 0 ze 0 (q.sb+1+1)=_;rw[qel (by have:=k.sa.1;omega) (by have:=k.sa.2;omega)];rfl
theorem Pay.agB(k:PayOk q):qa2 q.b4=qj7 q.t (q.sb+1) (q.sa+1+1):=by
 show MsgV.mk 9 q.t.ch (IntKind.u64.wrap (q.sb+1)) 0 ze 0 (q.sa+1+1)=_;rw[qel (by have:=k.sb.1;omega) (by have:=k.sb.2;omega)];rfl
theorem Pay.agA_say(k:PayOk q):SayOk (qa2 q.a3):=by
 rw[Pay.agA k];exact qod k.D.chb ⟨by have:=k.sa.1;omega,by have:=k.sa.2;omega⟩ ⟨by have:=k.sb.1;omega,by have:=k.sb.2;omega⟩
theorem Pay.agB_say(k:PayOk q):SayOk (qa2 q.b4):=by
 rw[Pay.agB k];exact qod k.D.symm.chb ⟨by have:=k.sb.1;omega,by have:=k.sb.2;omega⟩ ⟨by have:=k.sa.1;omega,by have:=k.sa.2;omega⟩
theorem qwl:qfb [] [q.I false 4 false]=[evC (q.I false 4 false)]:=by
 unfold qfb;have e:qgh [] (q.I false 4 false)=true:=rfl;simp[e]
theorem Pay.hAgA(k:PayOk q):HearL q.a3 true [] [qa2 q.b4] q.a3 false [] []:=by
 rw[Pay.agB k];have h:=HearL.one (wt:=true) (es:=[]) (qy6 (rv:=true) (no:=q.j+1) (nt:=q.nt) (x:=q.x) (y:=q.y) (L:=[q.I true 4 false]) (la:=q.la1) (sg:=q.sa+1) (hd:=q.sb+1) k.D ⟨by have:=k.sa.1;omega,by have:=k.sa.2;omega⟩ ⟨by have:=k.sb.1;omega,by have:=k.sb.2;omega⟩ k.ta (by show (1:Nat)≤_;decide) (by show (2:Nat)≤_;decide)) (by decide);have e:([]:List EvV)++qdg (qj7 q.t (q.sb+1) (q.sa+1+1)) true [q.I true 4 false] [q.I true 4 false]=[]:=by
  unfold qdg;rw[if_neg (show ¬(qj7 q.t (q.sb+1) (q.sa+1+1)).kind=4 from(by show ¬(9:Int)=4;decide)),if_pos (show (qj7 q.t (q.sb+1) (q.sa+1+1)).kind=9 from rfl),if_pos rfl,q4p (.inl rfl)];rfl
 rw[show ((Ch.mk q.s ⟨q.sa+1,q.sb+1,false,q.j+1,q.nt,false,false,true⟩ q.x q.y [q.I true 4 false] q.ha1 [] q.la1).xs)=[q.I true 4 false] from rfl,e] at h;exact h
theorem Pay.hAgB(k:PayOk q):HearL q.b4 true [] [qa2 q.a3] q.b4 false [evC (q.I false 4 false)] []:=by
 rw[Pay.agA k];have h:=HearL.one (wt:=true) (es:=[]) (qy6 (rv:=false) (no:=q.no) (nt:=q.j+1) (x:=q.y) (y:=q.x) (L:=[q.I false 4 false]) (la:=q.lb1) (sg:=q.sb+1) (hd:=q.sa+1) k.D.symm ⟨by have:=k.sb.1;omega,by have:=k.sb.2;omega⟩ ⟨by have:=k.sa.1;omega,by have:=k.sa.2;omega⟩ k.tb (by show (1:Nat)≤_;decide) (by show (1:Nat)≤_;decide)) (by decide);have e:([]:List EvV)++qdg (qj7 q.s (q.sa+1) (q.sb+1+1)) true [q.I false 4 false] [q.I false 4 false]=[evC (q.I false 4 false)]:=by
  unfold qdg;rw[if_neg (show ¬(qj7 q.s (q.sa+1) (q.sb+1+1)).kind=4 from(by show ¬(9:Int)=4;decide)),if_pos (show (qj7 q.s (q.sa+1) (q.sb+1+1)).kind=9 from rfl),if_pos rfl,qwl];rfl
 rw[show ((Ch.mk q.t ⟨q.sb+1,q.sa+1,false,q.no,q.j+1,false,false,false⟩ q.y q.x [q.I false 4 false] q.hb1 [] q.lb1).xs)=[q.I false 4 false] from rfl,e] at h;exact h
end
theorem q0s{ours cap n e:Int}{h:Vector Int 32} : (qdi ours cap n h e).b4.fail 0 1=((qdi ours cap n h e).b5 false (q5x (qb9 ours cap) 0 1),q5x (qb9 ours cap) 0 1,0):=by
 have f:qdc false 0 (qdi ours cap n h e).b4.xs=some (0,qlo 0 n h e false 4 false):=qtm;rw[qqb f (by decide)];rfl
theorem q69{ours cap n e:Int}{h:Vector Int 32}(i:1≤cap-ours):SayOk ((qdi ours cap n h e).b4.offer 1 (qa5 ze) 9).2.1:=by
 have f:qbq (qdi ours cap n h e).b4 1 9=0:=by
  unfold qbq;rw[if_neg (by show ¬(false=true);decide),if_neg (by decide),if_neg (by decide),if_neg (by show ¬((8:Nat)≤0);decide),if_neg (by show ¬(cap-ours<1);omega)]
 unfold Ch.offer;rw[if_pos f];exact qkr (s:=qb9 ours cap) (j:=0) (n:=1) (h:=qa5 ze) (e:=9) (q47 ours cap).symm.chb (by decide) (by decide) (by rw[qd6 ql];exact qca) (by decide)
theorem Tryz.infoS2:(Tryz.prog.info? 30).map (·.size)=some 2:=by kernel_rfl
def zdq(x:Value):Sem Value:=Instr.loadAt 30 x
theorem qxi(x:Value):Instr.loadAt 30 x=zdq x:=rfl
theorem zdu(b o:Nat)(w:World):(zdq (.pointer (some ⟨b,o,none⟩))).run Tryz.prog w=match zj w b o 2 with | some A=> .ok (.agg A) w | none=>qc6 Tryz.prog 30 w b o :=
 zy 30 2 _ Tryz.underlying30 rfl Tryz.infoS2 b o w
def zd1(x v:Value):Sem Unit:=Instr.storeAt 30 x v
theorem qyd(x v:Value):Instr.storeAt 30 x v=zd1 x v:=rfl
theorem zd4(b o:Nat)(A:Array Value)(w:World):(zd1 (.pointer (some ⟨b,o,none⟩)) (.agg A)).run Tryz.prog w=if stOk w b o 2 A=true then .ok () (w.setCells b o A.toList) else qd3 Tryz.prog 30 w b o A :=
 qap 30 2 Tryz.infoS2 b o A w
def zc8:Sem Value:=Instr.alloc 30 true (.tuple #[])
theorem qv4:Instr.alloc 30 true (.tuple #[])=zc8:=rfl
theorem zda(w:World):zc8.run Tryz.prog w = .ok (.pointer (some ⟨w.heap.size,0,none⟩)) (w.alloc (.cells #[.string ⟨#[]⟩,.string ⟨#[]⟩] 30)):=by kernel_rfl
def zdc(p:Array (Nat × Value)):Sem Value:=Instr.build 30 p
theorem qwf(p:Array (Nat × Value)):Instr.build 30 p=zdc p:=rfl
theorem zdd(w:World):(zdc #[]).run Tryz.prog w = .ok (.agg #[.string ⟨#[]⟩,.string ⟨#[]⟩]) w:=run_build w _ _ _ (by kernel_rfl)
section
variable {K:Nat→Obj→Prop}{w0 w w':World}{p:Nat}{g:Nat→Nat}{A B:En}{n:Nat}
theorem DP.beside(h:DP K w0 w p g A B n)(u:qu w w'){X:Nat}{o:Obj}(E:w.heap.size≤X)(C:w'.heap[X]? = some o):DP (fun i m=>K i m∨(i=X∧m=o)) w0 w' p g A B n:=by
 obtain⟨S,P,q,v⟩:=h;have f:=q.nw u;have F:=zr q.at_;exact⟨S,P,⟨f.at_,f.lk,f.sep,f.ge,f.pge,f.pS,f.new,fun i m e=>e.elim (fun e=>f.keep i m e) (fun e=>by
  obtain⟨rfl,rfl⟩:=e;exact⟨C,fun e=>by omega,fun k z e=>by have:=q.lkp z _ e;omega⟩)⟩,v⟩
theorem DP.less{i:Nat→Obj→Prop}(h:DP K w0 w p g A B n)(z:∀b o,i b o→K b o):DP i w0 w p g A B n:=by
 obtain⟨S,P,f,v⟩:=h;exact⟨S,P,⟨f.at_,f.lk,f.sep,f.ge,f.pge,f.pS,f.new,fun m q e=>f.keep m q (z m q e)⟩,v⟩
def En.lost(A:En):En:= {A with w:=[]}
theorem DP.lose(h:DP K w0 w p g A B n):stOk w p 2 2 #[.string ⟨#[]⟩,.string ⟨#[]⟩]=true∧DP K w0 (w.setCells p 2 [.string ⟨#[]⟩,.string ⟨#[]⟩]) p g A.lost B.lost n:=by
 obtain⟨S,P,q,f⟩:=h;refine⟨qdf q.at_ (show 2+2≤5 by decide) rfl (by simp[Value.oneCell']),S,_,(q.putWay (k:=0) (by decide) ⟨#[]⟩).putWay (k:=1) (by decide) ⟨#[]⟩,⟨f.a.l,rfl,f.a.es,(fun m i=>by cases i),f.a.so,Nat.zero_le _,f.a.lo⟩,⟨f.b.l,rfl,f.b.es,(fun m i=>by cases i),f.b.so,Nat.zero_le _,f.b.lo⟩,f.bad,f.n⟩
theorem DP.row(h:DP K w0 w p g A B n):zj w p 2 2=some #[.string (zz A.w ⟨#[]⟩),.string (zz B.w ⟨#[]⟩)]:=by
 obtain⟨S,P,i,f⟩:=h;rw[qbx i.at_ 2 2 (show 2+2≤5 by decide)];show some #[Value.string (P.way 0),Value.string (P.way 1)]=_;rw[f.a.way,f.b.way]
theorem DP.come0(h:DP K w0 w p g A B n)(C:Tb w0){c:Ch}{wt:Bool}{es':List EvV}{s:List MsgV}(F:HearL A.c A.wt A.es A.w c wt es' s)(J:A.o.length+s.length≤100∧B.o.length≤100∧B.w.length≤100)(I:n≤800000) :
  Calls Tryz.prog 51 #[.pointer (some ⟨p,0,none⟩),.int .i64 0,.int .i64 ((zz A.w ⟨#[]⟩).size:Int)] w fun e w'=>e = .returned (.tuple #[])∧∃g,DP K w0 w' p g ((A.heard c wt es' s).goes B) (B.goes (A.heard c wt es' s)) (n+500):=by
 obtain⟨S,P,q,f⟩:=h
 obtain⟨L,E,v⟩:=f.come0 F J I
 have H:=qkp K w0 w p P 0 (P.way 0).size ((zz A.w ⟨#[]⟩).size:Int) L es' 0 ⟨g,S,q⟩ (by decide) (by rw[f.a.way];omega) C E
 refine H.mono ?_
 rintro e w' ⟨rfl,m,i,z⟩
 exact⟨rfl,m,i,_,z,v⟩
theorem DP.come1(h:DP K w0 w p g A B n)(C:Tb w0){c:Ch}{wt:Bool}{es':List EvV}{s:List MsgV}(F:HearL B.c B.wt B.es B.w c wt es' s)(J:B.o.length+s.length≤100∧A.o.length≤100∧A.w.length≤100)(I:n≤800000) :
  Calls Tryz.prog 51 #[.pointer (some ⟨p,0,none⟩),.int .i64 1,.int .i64 ((zz B.w ⟨#[]⟩).size:Int)] w fun e w'=>e = .returned (.tuple #[])∧∃g,DP K w0 w' p g (A.goes (B.heard c wt es' s)) ((B.heard c wt es' s).goes A) (n+500):=by
 obtain⟨S,P,q,f⟩:=h
 obtain⟨L,E,v⟩:=f.come1 F J I
 have H:=qkp K w0 w p P 1 (P.way 1).size ((zz B.w ⟨#[]⟩).size:Int) L es' 0 ⟨g,S,q⟩ (by decide) (by rw[f.b.way];omega) C E
 refine H.mono ?_
 rintro e w' ⟨rfl,m,i,z⟩
 exact⟨rfl,m,i,_,z,v⟩
end
attribute [local go_sem ↓ high] qxi qyd qv4 qwf
attribute [local go_sem] zdu zd4 zda zdd qv
theorem DP.cutAll(K:Nat→Obj→Prop)(w0 w:World)(p:Nat)(g:Nat→Nat)(A B:En)(n:Nat)(a C:Ch)(W Z:List EvV)(sb:List MsgV)(h:DP K w0 w p g A B n)(N:qns A.c)(O:qns B.c)(hT:Tb w0)(q:SayOk (qa2 A.c.cut))(v:SayOk (qa2 B.c.cut))
  (hA:HearL A.c.cut true A.es [qa2 B.c.cut] a false W []) (hB:HearL B.c.cut true B.es [qa2 A.c.cut] C false Z sb) (hl:sb.length≤30) (hn:n≤700000) :
  Calls Tryz.prog 29 #[.pointer (some ⟨p,0,none⟩)] w fun e w'=>e = .returned (.tuple #[])∧∃g,DP K w0 w' p g ⟨a,0,false,sb,[],W⟩ ⟨C,0,false,[],[],Z⟩ (n+1002):=by
 have H0:=qb h
 have L:=qb (And.intro N O)
 clear N O
 have U:=qb (And.intro q (And.intro v (And.intro hA hB)))
 have V:=qb hT
 clear h q v hA hB hT
 go_enter Tryz.func29,Tryz.ntmps29
 go_wp2_with fail
 go_loopw [2] (fun iv wr=>∃i:Nat,iv = .int .i64 (i:Int)∧i≤2∧Hid (DP K w0 wr p g (if i=0 then A else A.cuts) (if i≤1 then B else B.cuts) (n+i))) (fun iv _=>2-(intOf iv).toNat)
 case atStart=>exact⟨0,rfl,by omega,H0⟩
 case round =>
  obtain⟨i,rfl,hi,hrel⟩:=hrel;obtain⟨J,rfl⟩:∃J:World,J=wr:=⟨_,rfl⟩;clear H0;rcases (by omega:i=0∨i=1∨i=2) with rfl | rfl | rfl
  ·have h:DP K w0 J p g A B n:=qa hrel;have cl:=h.cl.1;have z:=h.cut0 (qa L).1 (qa V) (qa U).1 (by omega);clear h hrel;go_wp2_with fail;refine z.mono ?_;rintro e w1 ⟨rfl,H⟩;have Y:=qb H;clear z H cl;go_wp2_with fail;go_roundw
   case rel=>exact⟨1,rfl,by omega,Y⟩
   case measure=>decide
  ·have h:DP K w0 J p g A.cuts B (n+1):=qa hrel;have cl:=h.cl.2;have z:=h.cut1 (qa L).2 (qa V) (qa U).2.1 (by omega);clear h hrel;go_wp2_with fail;refine z.mono ?_;rintro e w1 ⟨rfl,H⟩;have Y:=qb H;clear z H cl;go_wp2_with fail;go_roundw
   case rel=>exact⟨2,rfl,by omega,Y⟩
   case measure=>decide
  ·have h:DP K w0 J p g A.cuts B.cuts (n+2):=qa hrel;obtain⟨a6,H⟩:=h.lose;have R:=H.flow ⟨by show (0:Nat)+1≤_;decide,by show (0:Nat)+1≤_;decide⟩;have P:Calls Tryz.prog 14 #[.pointer (some ⟨p,0,none⟩)] (J.setCells p 2 [.string ⟨#[]⟩,.string ⟨#[]⟩]) fun e w'=>e = .returned (.tuple #[])∧∃g,DP K w0 w' p g ⟨A.c.cut,0,true,[qa2 B.c.cut],[],A.es⟩ ⟨B.c.cut,0,true,[qa2 A.c.cut],[],B.es⟩ (n+2):=R
   clear h hrel H R;go_wp2_with fail;refine P.mono ?_;rintro e m ⟨rfl,g2,h2⟩;have hr:zj m p 2 2=some #[.string (zz [qa2 B.c.cut] ⟨#[]⟩),.string (zz [qa2 A.c.cut] ⟨#[]⟩)]:=h2.row;obtain⟨E,q⟩:∃s,s=zz [qa2 B.c.cut] ⟨#[]⟩:=⟨_,rfl⟩;obtain⟨F,v⟩:∃s,s=zz [qa2 A.c.cut] ⟨#[]⟩:=⟨_,rfl⟩;rw[←q,←v] at hr;have M:=qb (And.intro q v);have hX:=qh m (.cells #[.string ⟨#[]⟩,.string ⟨#[]⟩] 30);have S:stOk (m.alloc (.cells #[.string ⟨#[]⟩,.string ⟨#[]⟩] 30)) m.heap.size 0 2 #[.string E,.string F]=true:=qdf hX (show 0+2≤2 by decide) rfl (by simp[Value.oneCell']);have f:((m.alloc (.cells #[.string ⟨#[]⟩,.string ⟨#[]⟩] 30)).setCells m.heap.size 0 [.string E,.string F]).heap[m.heap.size]? = some (.cells #[.string E,.string F] 30 (0,0)):=zt (zt hX 0 (.string E)) 1 (.string F);have n3:qu m ((m.alloc (.cells #[.string ⟨#[]⟩,.string ⟨#[]⟩] 30)).setCells m.heap.size 0 [.string E,.string F]):=((Upd.refl _ _).alloc _:qu m _).then (qx _) (fun i hi e=>by omega);have I:=h2.beside n3 (Nat.le_refl _) f;have H3:=qb (And.intro I f);clear P h2 q v hX f n3 I a6;go_upto_region 8 with fail;obtain⟨I,f⟩:=qa H3;clear H3 S hr;generalize (m.alloc (.cells #[.string ⟨#[]⟩,.string ⟨#[]⟩] 30)).setCells m.heap.size 0 [.string E,.string F]=w3 at I f ⊢;generalize m.heap.size=X at I f ⊢;have x0:w3.cell? ⟨X,0,none⟩=some (.string E):=qg f 0;have z:Calls Tryz.prog 51 #[.pointer (some ⟨p,0,none⟩),.int .i64 0,.int .i64 ((zz [qa2 B.c.cut] ⟨#[]⟩).size:Int)] w3 fun e w'=>e = .returned (.tuple #[])∧∃g,DP (fun C T=>K C T∨(C=X∧T = .cells #[.string E,.string F] 30 (0,0))) w0 w' p g ⟨a,0,false,[],[],W⟩ ⟨B.c.cut,0,true,[qa2 A.c.cut],[],B.es⟩ (n+502) :=
    I.come0 (qa V) (qa U).2.2.1 ⟨by show (0:Nat)+0≤_;decide,by show (0:Nat)≤_;decide,by show (1:Nat)≤_;decide⟩ (by omega)
   rw[←(qa M).1] at z;clear I f;go_wp2_with fail;refine z.mono ?_;rintro e w4 ⟨rfl,g4,h4⟩;have x1:w4.cell? ⟨X,1,none⟩=some (.string F):=qg (h4.keep (.inr ⟨rfl,rfl⟩)) 1;have z:Calls Tryz.prog 51 #[.pointer (some ⟨p,0,none⟩),.int .i64 1,.int .i64 ((zz [qa2 A.c.cut] ⟨#[]⟩).size:Int)] w4 fun e w'=>e = .returned (.tuple #[])∧∃g,DP (fun C T=>K C T∨(C=X∧T = .cells #[.string E,.string F] 30 (0,0))) w0 w' p g ⟨a,0,false,sb,[],W⟩ ⟨C,0,false,[],[],Z⟩ (n+1002) :=
    h4.come1 (qa V) (qa U).2.2.2 ⟨by show (0:Nat)+sb.length≤_;omega,by show (0:Nat)≤_;decide,by show (0:Nat)≤_;decide⟩ (by omega)
   rw[←(qa M).2] at z;clear h4 x0;go_wp2_with fail;refine z.mono ?_;rintro e w5 ⟨rfl,g5,h5⟩;have H5:=qb h5;clear z h5 x1;go_wp2_with fail;go_end0;exact⟨rfl,g5,(qa H5).less (fun b o e=> .inl e)⟩
end
end Go.Proofs.YtfmkdoachjgjbaaGreatDoor
