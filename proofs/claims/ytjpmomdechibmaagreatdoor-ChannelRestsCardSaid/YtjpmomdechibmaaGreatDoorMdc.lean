/-
  Law 13: the pair beside a message in a block of its own.
-/
import Derived.Test.YtjpmomdechibmaaGreatDoorPr3
import Derived.Test.YtjpmomdechibmaaGreatDoorMcg
import Derived.Test.YtjpmomdechibmaaGreatDoorMca
import Derived.Test.YtjpmomdechibmaaGreatDoorMcj
set_option linter.unusedVariables false
set_option linter.unusedSimpArgs false
namespace Go.Proofs.YtjpmomdechibmaaGreatDoor
open Go.RowKit
section
variable {w0 w w':World}{p K:Nat}{S T:Nat→Prop}{a b a' b':Ch}{wa wb wa' wb':List MsgV}{bad bad':Bool}{m m':MsgV}
theorem PrS.put(h:PrS w0 w p S a b wa wb bad)(l:¬S K)(C:K<w.heap.size)(o:w0.heap.size≤K)(u:Upd (· = K) w w'):PrS w0 w' p S a b wa wb bad:=by
 obtain⟨y,z,v,x,D,E,g,i,t⟩:=h
 have q:∀k,S k→k≠K:=fun k f e=>l (e▸f)
 refine⟨y,z,v,x,D,E,⟨g.two.put ⟨C,fun k=>l (i K (.inl k)),fun k=>l (i K (.inr (.inl k)))⟩ o u,u.old g.at_ (q p (i p (by simp))),g.off.new u.size,g.ge,qu g.rowA u (fun k f=>q k (i k (by simp[f]))),qu g.rowB u (fun k f=>q k (i k (by simp[f]))),fun k f=>(g.offA k f).new u.size,fun k f=>(g.offB k f).new u.size,g.sep,g.okA,g.okB⟩,i,fun k f=>⟨(t k f).1,Nat.lt_of_lt_of_le (t k f).2 u.size⟩⟩
theorem PrS.endA(h:PrS w0 w p S a b wa wb bad)(y:Tb w0):∃g l,w.cell? ⟨p,0,none⟩=some (.pointer (some ⟨g,0,none⟩))∧ChS w g l a∧Apart l∧qy w0 w∧∀w' a',ChS w' g (Fr l w w') a'→Upd l w w'→PrS w0 w' p (Fr S w w') a' b wa wb bad∧Upd S w w':=by
 obtain⟨q,x,v,E,C,D,i,o,t⟩:=h
 refine⟨q,v,i.cell.1,i.two.A,i.two.apA y,i.two.n,fun w' a' z u=>⟨⟨q,x,_,_,C,D,i.opA z u,?_,?_⟩,u.mono fun k _ f=>o k (.inl f)⟩⟩
 ·rintro k ((f | f) | f)
  ·exact .inl (o k (.inl f))
  ·exact .inr f
  ·exact .inl (o k (.inr f))
 ·have:=i.two.n.size
  have:=u.size
  rintro k (f | f)
  ·exact⟨(t k f).1,by have:=(t k f).2;omega⟩
  ·exact⟨by omega,f.2⟩
theorem PrS.endB(h:PrS w0 w p S a b wa wb bad)(y:Tb w0):∃g l,w.cell? ⟨p,1,none⟩=some (.pointer (some ⟨g,0,none⟩))∧ChS w g l b∧Apart l∧qy w0 w∧∀w' b',ChS w' g (Fr l w w') b'→Upd l w w'→PrS w0 w' p (Fr S w w') a b' wa wb bad∧Upd S w w':=by
 obtain⟨x,q,E,v,C,D,i,o,t⟩:=h
 refine⟨q,v,i.cell.2.1,i.two.B,i.two.apB y,i.two.n,fun w' a' z u=>⟨⟨x,q,_,_,C,D,i.opB z u,?_,?_⟩,u.mono fun k _ f=>o k (.inr (.inl f))⟩⟩
 ·rintro k (f | (f | f) | f)
  ·exact .inl (o k (.inl f))
  ·exact .inl (o k (.inr (.inl f)))
  ·exact .inr f
  ·exact .inl (o k (.inr (.inr f)))
 ·have:=i.two.n.size
  have:=u.size
  rintro k (f | f)
  ·exact⟨(t k f).1,by have:=(t k f).2;omega⟩
  ·exact⟨by omega,f.2⟩
def PrX(w0 w:World)(p:Nat)(a b:Ch)(wa wb:List MsgV)(bad:Bool)(K:Nat)(m:MsgV):Prop:=∃S,PrS w0 w p S a b wa wb bad∧¬S K∧MsB w K m∧w0.heap.size≤K
theorem PrX.of(g:¬S K)(i:MsB w K m)(f:w0.heap.size≤K)(h:PrS w0 w' p (Fr S w w') a' b' wa' wb' bad'∧Upd S w w'):PrX w0 w' p a' b' wa' wb' bad' K m:=by
 refine⟨_,h.1,?_,i.upd h.2 g,f⟩
 rintro (l | l)
 ·exact g l
 ·have:=i.lt
  omega
theorem PrX.new(h:PrX w0 w p a b wa wb bad K m)(u:qy w w'):PrX w0 w' p a b wa wb bad K m:=by
 obtain⟨S,l,g,i,f⟩:=h
 exact⟨S,l.new u,g,i.new u,f⟩
theorem PrX.put(h:PrX w0 w p a b wa wb bad K m)(o:m'.hash.length=32):PrX w0 (w.setCells K 0 m'.cells) p a b wa wb bad K m':=by
 obtain⟨S,l,g,i,f⟩:=h
 exact⟨S,l.put g i.lt f (qak _),g,i.put o,f⟩
theorem PrX.endA(h:PrX w0 w p a b wa wb bad K m)(C:Tb w0):∃g f,w.cell? ⟨p,0,none⟩=some (.pointer (some ⟨g,0,none⟩))∧ChS w g f a∧Apart f∧qy w0 w∧∀w' a',ChS w' g (Fr f w w') a'→Upd f w w'→PrX w0 w' p a' b wa wb bad K m:=by
 obtain⟨S,z,x,y,i⟩:=h
 obtain⟨g,f,l,o,q,t,v⟩:=z.endA C
 exact⟨g,f,l,o,q,t,fun w' a' D u=> .of x y i (v w' a' D u)⟩
theorem PrX.endB(h:PrX w0 w p a b wa wb bad K m)(C:Tb w0):∃g f,w.cell? ⟨p,1,none⟩=some (.pointer (some ⟨g,0,none⟩))∧ChS w g f b∧Apart f∧qy w0 w∧∀w' b',ChS w' g (Fr f w w') b'→Upd f w w'→PrX w0 w' p a b' wa wb bad K m:=by
 obtain⟨S,z,x,y,i⟩:=h
 obtain⟨g,f,l,o,q,t,v⟩:=z.endB C
 exact⟨g,f,l,o,q,t,fun w' a' D u=> .of x y i (v w' a' D u)⟩
theorem PrX.row(h:PrX w0 w p a b wa wb bad K m):zx w K 0 38=some m.cells.toArray:=by
 obtain⟨S,l,i,f,g⟩:=h
 exact f.row
end
theorem PrP.toS{w0 w:World}{p l o:Nat}{g i:Nat→Prop}{a b:Ch}{wa wb:List MsgV}{q t:Value}{bad:Bool}(h:PrP w0 w p l o g i a b wa wb q t bad):PrS w0 w p (fun k=>w0.heap.size≤k∧k<w.heap.size) a b wa wb bad:=by
 refine⟨l,o,g,i,q,t,h,?_,fun k f=>f⟩
 rintro k (f | f | rfl | f | f)
 ·exact⟨h.two.geA k f,h.two.A.lt k f⟩
 ·exact⟨h.two.geB k f,h.two.B.lt k f⟩
 ·exact⟨h.ge,h.off.lt⟩
 ·exact⟨qjn h.rowA k f,(h.offA k f).lt⟩
 ·exact⟨qjn h.rowB k f,(h.offB k f).lt⟩
attribute [local go_sem ↓ high] qab qac qag qah
attribute [local go_sem] qcy qc0 qc2 qbn qwf zq
def qcq(id r:Int):MsgV:=⟨5,0,id,0,qad,0,r⟩
def Ch.fail(c:Ch)(id r:Int):Ch × MsgV × Int:=match qb7 false id c.xs with
 | none=>(c,MsgV.zero,3)
 | some p=>if r<0∨65535<r then (c,MsgV.zero,1) else ((c.removed p.1 p.2 false).say (qcq id r),(qcq id r).on c.s.ch,0)
theorem qsr{c:Ch}{id r:Int}(h:qb7 false id c.xs=none):c.fail id r=(c,MsgV.zero,3):=by unfold Ch.fail;rw[h]
theorem qwy{c:Ch}{id r:Int}{p:Nat × Live}(h:qb7 false id c.xs=some p)(f:r<0∨65535<r):c.fail id r=(c,MsgV.zero,1):=by unfold Ch.fail;rw[h];simp only;rw[if_pos f]
theorem qni{c:Ch}{id r:Int}{i:Nat}{x:Live}(h:qb7 false id c.xs=some (i,x))(f:¬(r<0∨65535<r)):c.fail id r=((c.removed i x false).say (qcq id r),(qcq id r).on c.s.ch,0):=by unfold Ch.fail;rw[h];simp only;rw[if_neg f]
set_option maxRecDepth 100000 in
set_option maxHeartbeats 1000000 in
theorem q7i(g:Nat)(S:Nat→Prop)(c:Ch)(id r:Int)(w:World)(h:ChS w g S c)(U:c.news.length<1000000) :
  Calls Tryz.prog 31 #[.pointer (some ⟨g,0,none⟩),.int .u64 id,.int .i64 r] w fun e w' =>
   e = .returned (.tuple #[.agg (c.fail id r).2.1.cells.toArray,.int .i64 (c.fail id r).2.2])∧ChS w' g (Fr S w w') (c.fail id r).1∧Upd S w w':=by
 obtain⟨lv,nv,Y,h⟩:=h
 go_enter Tryz.func31,Tryz.ntmps31
 go_upto_region 1 with fail
 have N:=qch w MsgV.zero qo
 have X:qy w (w.alloc (.cells MsgV.zero.cells.toArray 30)):=(Upd.refl _ _).alloc _
 generalize w.alloc (.cells MsgV.zero.cells.toArray 30)=w1 at N X ⊢
 obtain⟨B,O⟩:∃B,B=w.heap.size:=⟨_,rfl⟩
 rw[←O] at N ⊢
 have a7:w.heap.size≤B:=by omega
 have a8:g≠B:=by have:=h.lt g h.inG;omega
 have m:¬S B:=fun e=>by have:=h.lt B e;omega
 clear O
 have Z:=h.new X
 have R:=ql9 g S c false id w1 ⟨lv,nv,Y,Z⟩
 have bad:∀(W:World),qy w1 W →
   stOk W B 0 38 MsgV.zero.cells.toArray=true∧MsB (W.setCells B 0 MsgV.zero.cells) B MsgV.zero∧ChS (W.setCells B 0 MsgV.zero.cells) g (Fr S w (W.setCells B 0 MsgV.zero.cells)) c∧Upd S w (W.setCells B 0 MsgV.zero.cells):=by
  intro W nW
  have R:=N.new nW
  have u:=qak (w:=W) (b:=B) MsgV.zero.cells
  exact⟨R.stOk qo,R.put qo,ChS.frW (w1:=w) ⟨lv,nv,Y,((Z.new nW).upd u (fun k D e=>by rw[e] at D;exact m D))⟩,((X.trans nW).mono (T:=S) (fun _ _ h=>h.elim)).then u (fun i t e=>by omega)⟩
 have o:=qb bad
 have HB:=qb N
 have HI:=qb h.inL
 have H1:=qb Z
 have a6:=qb h.lt
 have N1:=qb X
 clear h Z N X bad
 go_wp2_with fail
 refine R.mono ?_
 rintro e w2 ⟨rfl,F⟩
 clear R
 cases y:qb7 false id c.xs with
 | none =>
  have t:=qi6 y
  obtain⟨E,f,q,P⟩:=qa o w2 F
  have I:=qb (qsr (r:=r) y)
  have J:=qb f
  have H:=qb q
  have K:=qb P
  rw[t]
  clear f q P F y t
  go_wp2_with (with_reducible first|(first|refine' zr (qg ?_) ?_|refine' zt (qg ?_) ?_);rotate_left|refine' zu (qg ?_)|rfl|apply tn|refine' zv ?_)
  have f:=qa J
  refine bodyPost_ret (qw rfl _ _ B _ _ _ _ rfl f.at_ Tryz.underlying30 rfl (by rw[f.agg];exact Tryz.infoMsg)) rfl ?_
  rw[qa I]
  exact⟨rfl,qa H,qa K⟩
 | some pr =>
  obtain⟨i,x⟩:=pr
  obtain⟨t,C,-⟩:=qgu y
  have h2:=(qa H1).new F
  rw[t]
  by_cases L:r<0∨65535<r
  ·obtain⟨E,f,q,P⟩:=qa o w2 F
   have I:=qb (qwy y L)
   have J:=qb f
   have H:=qb q
   have K:=qb P
   clear f q P F y t C h2
   rcases L with L | L
   ·go_wp2_with (with_reducible first|(first|refine' zr (qg ?_) ?_|refine' zt (qg ?_) ?_);rotate_left|refine' zu (qg ?_)|rfl|apply tn|refine' zv ?_)
    have f:=qa J
    refine bodyPost_ret (qw rfl _ _ B _ _ _ _ rfl f.at_ Tryz.underlying30 rfl (by rw[f.agg];exact Tryz.infoMsg)) rfl ?_
    rw[qa I]
    exact⟨rfl,qa H,qa K⟩
   ·have a4:¬r<0:=by omega
    go_wp2_with (with_reducible first|(first|refine' zr (qg ?_) ?_|refine' zt (qg ?_) ?_);rotate_left|refine' zu (qg ?_)|rfl|apply tn|refine' zv ?_)
    have f:=qa J
    refine bodyPost_ret (qw rfl _ _ B _ _ _ _ rfl f.at_ Tryz.underlying30 rfl (by rw[f.agg];exact Tryz.infoMsg)) rfl ?_
    rw[qa I]
    exact⟨rfl,qa H,qa K⟩
  ·have V:=qjq g S c lv nv Y i x false w2 h2 C
   have I:=qb (qni y L)
   have a4:¬r<0:=by omega
   have a9:¬65535<r:=by omega
   have N2:=qb F
   clear F y t C h2 L
   go_wp2_with fail
   refine V.mono ?_
   rintro e w3 ⟨rfl,h3,u3⟩
   have v:=fun W (hW:ChS W g S (c.removed i x false))=>qpj g S (c.removed i x false) (qcq id r) qo W hW U
   have l:=v w3 ⟨lv,nv,Y,h3⟩
   have U3:=qb ((((qa N1).trans (qa N2)).mono (T:=S) (fun _ _ h=>h.elim)).trans (u3.mono (T:=S) (fun k _ e=>qa HI k e)))
   have M:=qb (((qa HB).new (qa N2)).upd u3 (fun e=>m (qa HI B e)))
   clear V h3 u3 v
   unfold qcq at l
   go_wp2_with (with_reducible first|(first|refine' zr (qg ?_) ?_|refine' zt (qg ?_) ?_);rotate_left|refine' zu (qg ?_)|rfl|apply tn|refine' zv ?_)
   refine l.mono ?_
   rintro e w4 ⟨rfl,h4,u4⟩
   have hl:((qcq id r).on (c.removed i x false).s.ch).hash.length=32:=qo
   have z:=(qa M).upd u4 m
   have E:=z.stOk hl
   have f:=z.put hl
   have u5:=qak (w:=w4) (b:=B) ((qcq id r).on (c.removed i x false).s.ch).cells
   have J:=qb f
   have a5:=(qa U3).size
   have q:=h4.upd u5 (fun k D e=>by
    rcases D with D | D
    ·exact m (e▸D)
    ·have:=(qa M).lt
     omega)
   have H:=qb ((q.grow u5.size).later a5)
   have K:=qb (((qa U3).trans u4).then u5 (fun i t e=>by omega))
   change stOk w4 B 0 38 ((⟨5,0,id,0,qad,0,r⟩:MsgV).on (c.removed i x false).s.ch).cells.toArray=true at E
   clear l h4 u4 z f u5 q hl
   go_wp2_with (with_reducible first|(first|refine' zr (qg ?_) ?_|refine' zt (qg ?_) ?_);rotate_left|refine' zu (qg ?_)|rfl|apply tn|refine' zv ?_)
   have f:=qa J
   refine bodyPost_ret (qw rfl _ _ B _ _ _ _ rfl f.at_ Tryz.underlying30 rfl (by rw[f.agg];exact Tryz.infoMsg)) rfl ?_
   rw[qa I]
   exact⟨rfl,qa H,qa K⟩
end Go.Proofs.YtjpmomdechibmaaGreatDoor
namespace Go.Proofs.YtjpmomdechibmaaGreatDoor
open Go.RowKit
theorem qnu{w:World}{b o n:Nat}{A:Array Value}(h:zx w b o n=some A)(i k:Nat)(g:i+k≤n):zx w b (o+i) k=some (A.extract i (i+k)):=by
 unfold zx at h ⊢
 cases f:w.heap[b]? with
 | none=>rw[f] at h;cases h
 | some l =>
  rw[f] at h
  cases l with
  | cells C T m =>
   simp only at h ⊢
   split at h
   ·injection h with h
    subst h
    rw[if_pos (by omega),Array.extract_extract]
    congr 2
    omega
   ·cases h
  | _=>simp at h
theorem q41(x:Live):(qm x).toArray.extract 2 (2+32)=(zf x.h.hash.toList).toArray:=by
 apply Array.ext'
 rw[Array.toList_extract]
 unfold qm q9 zf
 simp
theorem ChP.hash{w:World}{g:Nat}{S:Nat→Prop}{c:Ch}{q nv t:Value}(h:ChP w g S c q nv t){i:Nat}{x:Live}(o:c.xs[i]? = some x):∃m cap,q = .slice (some ⟨m,0,none⟩) c.xs.length cap∧zx w m (i*38+2) 32=some (zf x.h.hash.toList).toArray:=by
 have l:=(List.getElem?_eq_some_iff.1 o).1
 rcases (qdc h.live).2 with ⟨e,v⟩ | ⟨g',f,e,-,y⟩
 ·rw[v] at l;simp at l
 ·refine⟨g',f,e,?_⟩
  have:=qnu (y.row o) 2 32 (by omega)
  rw[q41,Nat.zero_add] at this
  exact this
def Ch.hearFulfill(c:Ch)(m:MsgV):Ch × Int:=match qb7 true m.id c.xs with
 | none=>(c,3)
 | some p=>if qg7 m.hash p.2.h.hash.toList=true then (c.removed p.1 p.2 true,0) else (c,132)
theorem qjg{c:Ch}{m:MsgV}(h:qb7 true m.id c.xs=none):c.hearFulfill m=(c,3):=by unfold Ch.hearFulfill;rw[h]
theorem qjh{c:Ch}{m:MsgV}{i:Nat}{x:Live}(h:qb7 true m.id c.xs=some (i,x)):c.hearFulfill m=if qg7 m.hash x.h.hash.toList=true then (c.removed i x true,0) else (c,132):=by unfold Ch.hearFulfill;rw[h]
attribute [local go_sem ↓ high] qab qac qag qah qaa qap qar
attribute [local go_sem] qcy qc0 qc2 qbn qcx qdn qdt zq
set_option maxRecDepth 100000 in
set_option maxHeartbeats 1000000 in
theorem qo3(g:Nat)(S:Nat→Prop)(c:Ch)(m:MsgV)(hm:MsgOk m)(w:World)(h:ChS w g S c)(hT:Tb w) :
  Calls Tryz.prog 67 #[.pointer (some ⟨g,0,none⟩),.agg m.cells.toArray] w fun e w' =>
   e = .returned (.tuple #[qbt,.int .i64 (c.hearFulfill m).2])∧ChS w' g (Fr S w w') (c.hearFulfill m).1∧Upd S w w':=by
 obtain⟨P,nv,av,h⟩:=h
 go_enter Tryz.func67,Tryz.ntmps67
 go_upto_region 1 with fail
 have I:=qch w m hm.len
 have L:qy w (w.alloc (.cells m.cells.toArray 30)):=(Upd.refl _ _).alloc _
 generalize w.alloc (.cells m.cells.toArray 30)=w1 at L I ⊢
 generalize w.heap.size=A at I ⊢
 have h1:=h.new L
 obtain⟨-,-,m2,-,-,-,-⟩:=I.cells
 have hb:=ql9 g S c true m.id w1 ⟨P,nv,av,h1⟩
 have HA:=qb I
 have J:=hT.new L
 clear I hT
 go_wp2_with fail
 refine hb.mono ?_
 rintro e V ⟨rfl,M⟩
 have z:=h1.new M
 have v:=(qa HA).new M
 have t:=L.trans M
 have y:=J.new M
 clear hb m2 h1 M L J HA
 cases D:qb7 true m.id c.xs with
 | none =>
  have K:=qi6 D
  have E:=qb (qjg D)
  have X:=qb (z.fr w)
  have HU:=qb (t.mono (T:=S) (fun _ _ h=>h.elim))
  rw[K]
  clear h z t D K v y
  go_wp2_with fail
  go_ret2
  rw[qa E]
  exact⟨rfl,qa X,qa HU⟩
 | some p =>
  obtain⟨i,x⟩:=p
  obtain⟨K,l,-⟩:=qgu D
  have C:=qjh D
  have b3:=(List.getElem?_eq_some_iff.1 l).1
  have a7:=h.ok.few
  obtain⟨gl,cap,a5,U⟩:=z.hash l
  have H:V.cell? ⟨g,47,none⟩=some P:=z.toR.live
  rw[a5] at H
  obtain⟨-,-,-,-,-,-,R⟩:=v.cells
  have a6:=(h.ok.xs x (List.mem_of_getElem? l)).h.hash
  have f:=fun W (nW:qy V W)=>qtl m.hash x.h.hash.toList hm.len (by simp) a6 W (y.new nW).tabs
  have o:=fun W (hW:ChP W g S c P nv av)=>qjq g S c P nv av i x true W hW l
  have HI:=qb h.inL
  have HU:=qb (t.mono (T:=S) (fun _ _ h=>h.elim))
  have X:=qb z
  have a9:(i:Int)<(c.xs.length:Int):=by omega
  have E:=qb C
  have a8:(c.xs.length:Int)≤1000000:=by omega
  rw[K]
  clear h z t D K v y l C
  generalize hO:qg7 m.hash x.h.hash.toList=O at f E
  have RA:=qb R
  have RH:=qb U
  have Y:=qb f
  have Z:=qb o
  clear R U f o hO
  go_upto_region 4 with (with_reducible first|(first|refine' zr (qg ?_) ?_|refine' zt (qg ?_) ?_);rotate_left|refine' zu (qg ?_)|rfl|apply tn|refine' zv ?_)
  have R:=qa RA
  have U:=qa RH
  clear RA RH
  go_wp2_with (with_reducible first|(first|refine' zr (qg ?_) ?_|refine' zt (qg ?_) ?_);rotate_left|refine' zu (qg ?_)|rfl|apply tn|refine' zv ?_)
  have f:=qa Y
  have o:=qa Z
  refine(f _ ((Upd.refl _ _).drew)).mono ?_
  rintro e w3 ⟨rfl,n3⟩
  have h3:=((qa X).new ((Upd.refl (fun _=>False) V).drew)).new n3
  have N:qy V w3:=n3.ofDrew
  have q:=o w3 h3
  have H3:=qb (h3.fr w)
  have F:=qb ((qa HU).trans (N.mono (T:=S) (fun _ _ h=>h.elim)))
  clear f o H R U h3 n3 N
  cases O with
  | false =>
   clear q
   go_wp2_with (with_reducible first|(first|refine' zr (qg ?_) ?_|refine' zt (qg ?_) ?_);rotate_left|refine' zu (qg ?_)|rfl|apply tn|refine' zv ?_)
   go_ret2
   have C:c.hearFulfill m=(c,132):=by rw[qa E];simp
   rw[C]
   exact⟨rfl,qa H3,qa F⟩
  | true =>
   go_wp2_with (with_reducible first|(first|refine' zr (qg ?_) ?_|refine' zt (qg ?_) ?_);rotate_left|refine' zu (qg ?_)|rfl|apply tn|refine' zv ?_)
   refine q.mono ?_
   rintro e w4 ⟨rfl,h4,u4⟩
   have H4:=qb (h4.fr w)
   have a4:=qb ((qa F).trans (u4.mono (T:=S) (fun k _ e=>qa HI k e)))
   clear q h4 u4
   go_wp2_with (with_reducible first|(first|refine' zr (qg ?_) ?_|refine' zt (qg ?_) ?_);rotate_left|refine' zu (qg ?_)|rfl|apply tn|refine' zv ?_)
   go_ret2
   have C:c.hearFulfill m=(c.removed i x true,0):=by rw[qa E];simp
   rw[C]
   exact⟨rfl,qa H4,qa a4⟩
theorem qu4(g:Nat)(S:Nat→Prop)(c:Ch)(m:MsgV)(l:MsgOk m)(w:World)(h:ChS w g S c)(i:qam m=true)(f:m.ch=c.s.ch)(y:m.kind=4)(t:Tb w) :
  Calls Tryz.prog 18 #[.pointer (some ⟨g,0,none⟩),.agg m.cells.toArray] w (qgc g S w (c.hearFulfill m).1 [] (c.hearFulfill m).2) :=
 qji _ g S c _ _ _ m l w h i f (enters_of Tryz.func67 (by kernel_rfl) rfl) (fun q=>by rw[y];exact zef q) (fun W o=>(qo3 g S c m l W (h.new o) (t.new o)).mono (by
  rintro e w' ⟨x,v,z⟩
  exact⟨_,x,qcu.nil _ _,v,z⟩))
end Go.Proofs.YtjpmomdechibmaaGreatDoor
namespace Go.Proofs.YtjpmomdechibmaaGreatDoor
open Go.RowKit
structure Ch.Inv(c:Ch):Prop where
 shelf:qpq c
 peer:c.s.peer.size≤100000000
 ch:0≤c.s.ch∧c.s.ch<4294967296
 heard:c.k.heard<4294967295
 few:c.xs.length≤16
noncomputable def Ch.hear(c:Ch)(m:MsgV):Ch × List MsgV × Int :=
 if qam m=false∨m.ch≠c.s.ch then (c,[],1)
 else if m.kind=3 then ((c.hearAdd m).1,[],(c.hearAdd m).2)
 else if m.kind=4 then ((c.hearFulfill m).1,[],(c.hearFulfill m).2)
 else if m.kind=5 then ((c.hearFail m).1,[],(c.hearFail m).2)
 else if m.kind=6 then c.hearSign m
 else if m.kind=7 then ((c.hearRevoke m).1,[],(c.hearRevoke m).2)
 else (c.hearShut.1,[],c.hearShut.2)
theorem q74(g:Nat)(S:Nat→Prop)(c:Ch)(m:MsgV)(o:MsgOk m)(w:World)(h:ChS w g S c)(q:c.Inv)(v:Tb w)(x:Apart S)(f:m.kind=3∨m.kind=4∨m.kind=5∨m.kind=6∨m.kind=7∨m.kind=8) :
  Calls Tryz.prog 18 #[.pointer (some ⟨g,0,none⟩),.agg m.cells.toArray] w (qgc g S w (c.hear m).1 (c.hear m).2.1 (c.hear m).2.2):=by
 by_cases t:qam m=false∨m.ch≠c.s.ch
 ·have e:c.hear m=(c,[],1):=by unfold Ch.hear;rw[if_pos t]
  rw[e]
  refine(qxj g S c m o w h t).mono ?_
  rintro e w' ⟨z,y⟩
  exact⟨_,z,qcu.nil _ _,(h.new y).frW,y.mono (fun _ _ h=>h.elim)⟩
 ·have l:qam m=true:=by
   cases C:qam m with
   | true=>rfl
   | false=>exact absurd (.inl C) t
  have i:m.ch=c.s.ch:=Decidable.of_not_not (fun e=>t (.inr e))
  have e:c.hear m=if m.kind=3 then ((c.hearAdd m).1,[],(c.hearAdd m).2) else if m.kind=4 then ((c.hearFulfill m).1,[],(c.hearFulfill m).2) else if m.kind=5 then ((c.hearFail m).1,[],(c.hearFail m).2) else if m.kind=6 then c.hearSign m else if m.kind=7 then ((c.hearRevoke m).1,[],(c.hearRevoke m).2) else (c.hearShut.1,[],c.hearShut.2):=by unfold Ch.hear;rw[if_neg t]
  rcases f with f | f | f | f | f | f
  ·rw[e,if_pos f]
   exact qxi g S c m o w h l i f (by have:=q.few;omega)
  ·rw[e,if_neg (by omega),if_pos f]
   exact qu4 g S c m o w h l i f v
  ·rw[e,if_neg (by omega),if_neg (by omega),if_pos f]
   exact q4p g S c m o w h l i f
  ·rw[e,if_neg (by omega),if_neg (by omega),if_neg (by omega),if_pos f]
   exact qs2 g S c m o w h l i f v x q.peer q.ch q.heard q.few
  ·rw[e,if_neg (by omega),if_neg (by omega),if_neg (by omega),if_neg (by omega),if_pos f]
   exact qoh g S c m o w h l i f q.shelf v x
  ·rw[e,if_neg (by omega),if_neg (by omega),if_neg (by omega),if_neg (by omega),if_neg (by omega)]
   exact q4s g S c m o w h l i f
structure Pr where
 a:Ch
 b:Ch
 wa:List MsgV
 wb:List MsgV
 bad:Bool
def PrD(w0 w:World)(p:Nat)(S:Nat→Prop)(P:Pr):Prop:=PrS w0 w p S P.a P.b P.wa P.wb P.bad
noncomputable def Pr.hears0(P:Pr):Pr × Bool:=match P.wa with
 | []=>(P,false)
 | m::ms=>(⟨(P.a.hear m).1,P.b,ms,P.wb++(P.a.hear m).2.1,P.bad || decide ((P.a.hear m).2.2≠0)⟩,true)
noncomputable def Pr.hears1(P:Pr):Pr × Bool:=match P.wb with
 | []=>(P,false)
 | m::ms=>(⟨P.a,(P.b.hear m).1,P.wa++(P.b.hear m).2.1,ms,P.bad || decide ((P.b.hear m).2.2≠0)⟩,true)
structure HearOk(c:Ch)(m:MsgV)(other:List MsgV):Prop where
 inv:c.Inv
 kind:m.kind=3∨m.kind=4∨m.kind=5∨m.kind=6∨m.kind=7∨m.kind=8
 says:∀l∈(c.hear m).2.1,MsgOk l
 few:other.length+(c.hear m).2.1.length≤1000000
def Pr.Ok0(P:Pr):Prop:=match P.wa with | []=>True | m::ms=>MsgOk m∧HearOk P.a m P.wb∧ms.length<1000000
def Pr.Ok1(P:Pr):Prop:=match P.wb with | []=>True | m::ms=>MsgOk m∧HearOk P.b m P.wa∧ms.length<1000000
structure SignOk(c:Ch):Prop where
 key:c.s.key.size≤100000000
 ch:0≤c.s.ch∧c.s.ch<4294967296
 few:c.news.length<1000000
 xs:c.xs.length≤16
attribute [local go_sem ↓ high] qab qac qag qah qaa qap qar
attribute [local go_sem] qcy qc0 qc2 qbn qpx qcx qdn qdt zq
def qfp(id:Int)(p:List Int):MsgV:=⟨4,0,id,0,p,0,0⟩
def Ch.fulfill(c:Ch)(id:Int)(p:List Int):Ch × MsgV × Int:=match qb7 false id c.xs with
 | none=>(c,MsgV.zero,3)
 | some q=>if qg7 p q.2.h.hash.toList=true then ((c.removed q.1 q.2 true).say (qfp id p),(qfp id p).on c.s.ch,0) else (c,MsgV.zero,132)
theorem qxa{c:Ch}{id:Int}{p:List Int}(h:qb7 false id c.xs=none):c.fulfill id p=(c,MsgV.zero,3):=by unfold Ch.fulfill;rw[h]
theorem qxb{c:Ch}{id:Int}{p:List Int}{i:Nat}{x:Live}(h:qb7 false id c.xs=some (i,x)):c.fulfill id p=if qg7 p x.h.hash.toList=true then ((c.removed i x true).say (qfp id p),(qfp id p).on c.s.ch,0) else (c,MsgV.zero,132):=by unfold Ch.fulfill;rw[h]
set_option maxRecDepth 100000 in
set_option maxHeartbeats 1000000 in
theorem qxc(g:Nat)(S:Nat→Prop)(c:Ch)(id:Int)(pre:List Int)(o:pre.length=32)(w:World)(h:ChS w g S c)(hT:Tb w)(a7:c.news.length<1000000) :
  Calls Tryz.prog 27 #[.pointer (some ⟨g,0,none⟩),.int .u64 id,.agg (zf pre).toArray] w fun e w' =>
   e = .returned (.tuple #[.agg (c.fulfill id pre).2.1.cells.toArray,.int .i64 (c.fulfill id pre).2.2])∧ChS w' g (Fr S w w') (c.fulfill id pre).1∧Upd S w w':=by
 obtain⟨M,nv,Z,h⟩:=h
 go_enter Tryz.func27,Tryz.ntmps27
 go_upto_region 1 with fail
 have hD:=(qb9 w pre o).new ((Upd.refl _ _).alloc (.cells MsgV.zero.cells.toArray 30))
 have K:=qch (w.alloc (.cells (zf pre).toArray 28)) MsgV.zero qo
 rw[World.size_alloc] at K
 have N:qy w ((w.alloc (.cells (zf pre).toArray 28)).alloc (.cells MsgV.zero.cells.toArray 30)):=((Upd.refl _ _).alloc _).alloc _
 generalize (w.alloc (.cells (zf pre).toArray 28)).alloc (.cells MsgV.zero.cells.toArray 30)=w1 at hD K N ⊢
 obtain⟨D,a6⟩:∃D,D=w.heap.size:=⟨_,rfl⟩
 obtain⟨B,a5⟩:∃B,B=w.heap.size+1:=⟨_,rfl⟩
 rw[←a5] at K ⊢
 rw[←a6] at hD ⊢
 have b9:w.heap.size≤B:=by omega
 have c0:w.heap.size≤D:=by omega
 have c2:g≠B:=by have:=h.lt g h.inG;omega
 have t:¬S B:=fun e=>by have:=h.lt B e;omega
 have b5:¬S D:=fun e=>by have:=h.lt D e;omega
 clear a5 a6
 have h1:=h.new N
 have E:=hT.new N
 have hb:=ql9 g S c false id w1 ⟨M,nv,Z,h1⟩
 have bad:∀(W:World),qy w1 W →
   stOk W B 0 38 MsgV.zero.cells.toArray=true∧MsB (W.setCells B 0 MsgV.zero.cells) B MsgV.zero∧ChS (W.setCells B 0 MsgV.zero.cells) g (Fr S w (W.setCells B 0 MsgV.zero.cells)) c∧Upd S w (W.setCells B 0 MsgV.zero.cells):=by
  intro W nW
  have hb:=K.new nW
  have u:=qak (w:=W) (b:=B) MsgV.zero.cells
  exact⟨hb.stOk qo,hb.put qo,ChS.frW (w1:=w) ⟨M,nv,Z,((h1.new nW).upd u (fun k H e=>by rw[e] at H;exact t H))⟩,((N.trans nW).mono (T:=S) (fun _ _ h=>h.elim)).then u (fun i F e=>by omega)⟩
 have v:=qb bad
 have HB:=qb K
 have HD:=qb hD
 have HI:=qb h.inL
 have H1:=qb h1
 have b8:=qb h.lt
 have N1:=qb N
 have b4:=qb h.ok
 have c1:(c.xs.length:Int)≤1000000:=by have:=h.ok.few;omega
 clear h h1 K N bad hD hT
 go_wp2_with fail
 refine hb.mono ?_
 rintro e w2 ⟨rfl,J⟩
 clear hb
 cases L:qb7 false id c.xs with
 | none =>
  have F:=qi6 L
  obtain⟨I,f,y,hU⟩:=qa v w2 J
  have R:=qb (qxa (p:=pre) L)
  have U:=qb f
  have P:=qb y
  have Y:=qb hU
  rw[F]
  clear f y hU J L F E
  go_wp2_with (with_reducible first|(first|refine' zr (qg ?_) ?_|refine' zt (qg ?_) ?_);rotate_left|refine' zu (qg ?_)|rfl|apply tn|refine' zv ?_)
  have f:=qa U
  refine bodyPost_ret (qw rfl _ _ B _ _ _ _ rfl f.at_ Tryz.underlying30 rfl (by rw[f.agg];exact Tryz.infoMsg)) rfl ?_
  rw[qa R]
  exact⟨rfl,qa P,qa Y⟩
 | some pr =>
  obtain⟨i,x⟩:=pr
  obtain⟨F,m,-⟩:=qgu L
  have h2:=(qa H1).new J
  rw[F]
  have c4:=(List.getElem?_eq_some_iff.1 m).1
  obtain⟨gl,cap,b6,rh⟩:=h2.hash m
  have a4:w2.cell? ⟨g,47,none⟩=some M:=h2.toR.live
  rw[b6] at a4
  have c3:(i:Int)<(c.xs.length:Int):=by omega
  have a8:=((qa b4).xs x (List.mem_of_getElem? m)).h.hash
  have V:=qb (fun W (nW:qy w2 W)=>qtl pre x.h.hash.toList o (by simp) a8 W ((E.new J).new nW).tabs)
  have X:=qb (fun W (hW:ChP W g S c M nv Z)=>qjq g S c M nv Z i x true W hW m)
  have R:=qb (qxb (p:=pre) L)
  have RA:=qb (((qa HD).new J).row)
  have RH:=qb rh
  have N2:=qb J
  have H2:=qb h2
  clear J L F m h2 rh a8 E
  go_upto_region 4 with (with_reducible first|(first|refine' zr (qg ?_) ?_|refine' zt (qg ?_) ?_);rotate_left|refine' zu (qg ?_)|rfl|apply tn|refine' zv ?_)
  have rA:=qa RA
  have rh:=qa RH
  clear RA RH
  go_wp2_with (with_reducible first|(first|refine' zr (qg ?_) ?_|refine' zt (qg ?_) ?_);rotate_left|refine' zu (qg ?_)|rfl|apply tn|refine' zv ?_)
  refine(qa V _ ((Upd.refl _ _).drew)).mono ?_
  rintro e w3 ⟨rfl,n3⟩
  have h3:=((qa H2).new ((Upd.refl (fun _=>False) w2).drew)).new n3
  have a9:qy w2 w3:=n3.ofDrew
  have q:=qa X w3 h3
  have N3:=qb ((qa N2).trans a9)
  clear a4 rA rh h3 n3 a9 V X
  cases hO:qg7 pre x.h.hash.toList with
  | false =>
   obtain⟨I,f,y,hU⟩:=qa v w3 (qa N3)
   have z:Hid (c.fulfill id pre=(c,MsgV.zero,132)):=qb (by rw[qa R,hO];simp)
   have U:=qb f
   have P:=qb y
   have Y:=qb hU
   clear q f y hU hO
   go_wp2_with (with_reducible first|(first|refine' zr (qg ?_) ?_|refine' zt (qg ?_) ?_);rotate_left|refine' zu (qg ?_)|rfl|apply tn|refine' zv ?_)
   have f:=qa U
   refine bodyPost_ret (qw rfl _ _ B _ _ _ _ rfl f.at_ Tryz.underlying30 rfl (by rw[f.agg];exact Tryz.infoMsg)) rfl ?_
   rw[qa z]
   exact⟨rfl,qa P,qa Y⟩
  | true =>
   have z:Hid (c.fulfill id pre=((c.removed i x true).say (qfp id pre),(qfp id pre).on c.s.ch,0)):=qb (by rw[qa R,hO];simp)
   clear hO R
   go_wp2_with (with_reducible first|(first|refine' zr (qg ?_) ?_|refine' zt (qg ?_) ?_);rotate_left|refine' zu (qg ?_)|rfl|apply tn|refine' zv ?_)
   refine q.mono ?_
   rintro e w4 ⟨rfl,h4,u4⟩
   have l:=qpj g S (c.removed i x true) (qfp id pre) o w4 ⟨M,nv,Z,h4⟩ a7
   have U4:=qb ((((qa N1).trans (qa N3)).mono (T:=S) (fun _ _ h=>h.elim)).trans (u4.mono (T:=S) (fun k _ e=>qa HI k e)))
   have O:=qb (((qa HB).new (qa N3)).upd u4 (fun e=>t (qa HI B e)))
   have b3:=qb (((qa HD).new (qa N3)).upd u4 (fun e=>b5 (qa HI D e)))
   have bf:=fun W=>qpx 4 id pre o W
   clear q h4 u4
   unfold qfp at l
   go_upto_region 7 with (with_reducible first|(first|refine' zr (qg ?_) ?_|refine' zt (qg ?_) ?_);rotate_left|refine' zu (qg ?_)|rfl|apply tn|refine' zv ?_)
   have rD:=(qa b3).row
   go_wp2_with (with_reducible first|(first|refine' zr (qg ?_) ?_|refine' zt (qg ?_) ?_);rotate_left|refine' zu (qg ?_)|rfl|apply tn|refine' zv ?_)
   refine l.mono ?_
   rintro e w5 ⟨rfl,h5,u5⟩
   have hl:((qfp id pre).on (c.removed i x true).s.ch).hash.length=32:=o
   have C:=(qa O).upd u5 t
   have I:=C.stOk hl
   have f:=C.put hl
   have u6:=qak (w:=w5) (b:=B) ((qfp id pre).on (c.removed i x true).s.ch).cells
   have U:=qb f
   have b7:=(qa U4).size
   have y:=h5.upd u6 (fun k H e=>by
    rcases H with H | H
    ·exact t (e▸H)
    ·have:=(qa O).lt
     omega)
   have P:=qb ((y.grow u6.size).later b7)
   have Y:=qb (((qa U4).trans u5).then u6 (fun i F e=>by omega))
   change stOk w5 B 0 38 ((⟨4,0,id,0,pre,0,0⟩:MsgV).on (c.removed i x true).s.ch).cells.toArray=true at I
   clear l h5 u5 C f u6 y hl rD bf
   go_wp2_with (with_reducible first|(first|refine' zr (qg ?_) ?_|refine' zt (qg ?_) ?_);rotate_left|refine' zu (qg ?_)|rfl|apply tn|refine' zv ?_)
   have f:=qa U
   refine bodyPost_ret (qw rfl _ _ B _ _ _ _ rfl f.at_ Tryz.underlying30 rfl (by rw[f.agg];exact Tryz.infoMsg)) rfl ?_
   rw[qa z]
   exact⟨rfl,qa P,qa Y⟩
end Go.Proofs.YtjpmomdechibmaaGreatDoor
namespace Go.Proofs.YtjpmomdechibmaaGreatDoor
open Go.RowKit
def zg(c:Ch)(x:Live):Ch :=
 if x.state=0 then (if x.own=true then {c.give true x.h.amount with k:= {c.k with nextOwn:=IntKind.u64.wrap (c.k.nextOwn-1)}} else {c.give false x.h.amount with k:= {c.k with nextTheirs:=IntKind.u64.wrap (c.k.nextTheirs-1)}}) else c
def qae(x:Live):Live:=if x.state=5 then {x with state:=4,paid:=false} else x
def qek(xs:List Live):List Live:=(xs.filter fun x=> !(x.state==0)).map qae
def qd4(xs:List Live):List Htlc:=(xs.filter fun x=>x.state==0&&x.own).map (·.h)
def qdu(xs:List Live):List Int:=(xs.filter fun x=>x.state==5 && !x.own).map (·.h.id)
def Ch.unsaid(c:Ch)(xs:List Live):Ch:= {c with xs:=xs,news:=[],k:= {c.k with shutHeard:=false}}
def Ch.cut(c:Ch):Ch:=(c.xs.foldl zg c).unsaid (qek c.xs)
theorem q31{xs:List Live}{i:Nat}{x:Live}(f:xs[i]? = some x):qek (xs.take (i+1))=qek (xs.take i)++(if x.state=0 then [] else [qae x]):=by
 unfold qek
 rw[List.take_add_one,f,List.filter_append,List.map_append]
 by_cases h:x.state=0<;>simp[h]
theorem q30{xs:List Live}{i:Nat}{x:Live}(c:Ch)(f:xs[i]? = some x):(xs.take (i+1)).foldl zg c=zg ((xs.take i).foldl zg c) x:=by
 rw[List.take_add_one,f,List.foldl_append]
 rfl
theorem q33{xs:List Live}{i:Nat}{x:Live}(f:xs[i]? = some x):qd4 (xs.take (i+1))=qd4 (xs.take i)++(if x.state=0∧x.own=true then [x.h] else []):=by
 unfold qd4
 rw[List.take_add_one,f,List.filter_append,List.map_append]
 by_cases h:x.state=0<;>cases l:x.own<;>simp[h,l]
theorem q34{xs:List Live}{i:Nat}{x:Live}(f:xs[i]? = some x):qdu (xs.take (i+1))=qdu (xs.take i)++(if x.state=5∧x.own=false then [x.h.id] else []):=by
 unfold qdu
 rw[List.take_add_one,f,List.filter_append,List.map_append]
 by_cases h:x.state=5<;>cases l:x.own<;>simp[h,l]
theorem qwq(xs:List Live):(qek xs).length≤xs.length:=by
 unfold qek
 rw[List.length_map]
 exact List.length_filter_le _ _
theorem q67(xs:List Live):(qd4 xs).length≤xs.length:=by
 unfold qd4
 rw[List.length_map]
 exact List.length_filter_le _ _
theorem q68(xs:List Live):(qdu xs).length≤xs.length:=by
 unfold qdu
 rw[List.length_map]
 exact List.length_filter_le _ _
theorem qzx{x:Live}(h:LiveOk x):LiveOk (qae x):=by
 unfold qae
 split
 ·exact⟨h.h,by show _≤(4:Int)∧(4:Int)≤_;decide⟩
 ·exact h
section
variable {w:World}{g:Nat}{S:Nat→Prop}{c:Ch}{lv nv av:Value}
theorem ChP.putNextOwn(h:ChP w g S c lv nv av)(n:Int)(f:0≤n∧n<18446744073709551616):ChP (w.setCell ⟨g,40,none⟩ (.int .u64 n)) g S {c with k:= {c.k with nextOwn:=n}} lv nv av :=
 h.put (qoq c lv nv av h.ok.s.seed n) ⟨h.ok.s,h.ok.signed,h.ok.heard,f,h.ok.nextTheirs,h.ok.loc,h.ok.rem,h.ok.xs,h.ok.few,h.ok.shelf,h.ok.news,h.ok.last,h.ok.many⟩ rfl rfl rfl
theorem ChP.putNextTheirs(h:ChP w g S c lv nv av)(n:Int)(f:0≤n∧n<18446744073709551616):ChP (w.setCell ⟨g,41,none⟩ (.int .u64 n)) g S {c with k:= {c.k with nextTheirs:=n}} lv nv av :=
 h.put (qkx c lv nv av h.ok.s.seed n) ⟨h.ok.s,h.ok.signed,h.ok.heard,h.ok.nextOwn,f,h.ok.loc,h.ok.rem,h.ok.xs,h.ok.few,h.ok.shelf,h.ok.news,h.ok.last,h.ok.many⟩ rfl rfl rfl
end
theorem q8a:∃i z b,Tryz.prog.info? 79=some i∧i.zero=some z∧i.size=35∧i.bytes=b∧z.cells.size=35∧b≤1000:=by
 obtain⟨i,z,l,q,o⟩:=qdy Tryz.zeroHtlc'
 have f:(Tryz.prog.info? 79).map (fun i=>decide (i.bytes≤1000))=some true:=by kernel_rfl
 have m:=Tryz.infoHtl
 rw[l,Option.map_some,Option.some.injEq] at f m
 exact⟨i,z,i.bytes,l,q,m,rfl,by rw[o];rfl,of_decide_eq_true f⟩
theorem Tryz.zeroU64:((Tryz.prog.info? 22).map fun i=>i.zero.map fun z=>z.cells.toList)=some (some [.int .u64 0]):=by kernel_rfl
theorem Tryz.infoU64:(Tryz.prog.info? 22).map (·.size)=some 1:=by kernel_rfl
theorem zag:∃i z b,Tryz.prog.info? 22=some i∧i.zero=some z∧i.size=1∧i.bytes=b∧z.cells.size=1∧b≤1000:=by
 obtain⟨i,z,l,q,o⟩:=qdy Tryz.zeroU64
 have f:(Tryz.prog.info? 22).map (fun i=>decide (i.bytes≤1000))=some true:=by kernel_rfl
 have m:=Tryz.infoU64
 rw[l,Option.map_some,Option.some.injEq] at f m
 exact⟨i,z,i.bytes,l,q,m,rfl,by rw[o];rfl,of_decide_eq_true f⟩
def zcx(n:Nat)(p:Array (Nat × Value)):Sem Value:=Instr.buildSlice 116 n p
theorem qwh(n:Nat)(p:Array (Nat × Value)):Instr.buildSlice 116 n p=zcx n p:=rfl
theorem zdy(A:List Value)(w:World):(zcx 1 #[(0,.agg A.toArray)]).run Tryz.prog w=if A.length=35 then .ok (.slice (some ⟨w.heap.size,0,none⟩) 1 1) (w.alloc (.cells A.toArray 79)) else (Instr.buildSlice 116 1 #[(0,.agg A.toArray)]).run Tryz.prog w:=by
 by_cases h:A.length=35
 ·rw[if_pos h];exact q1h Tryz.underlying116 Tryz.zeroHtlc' Tryz.infoHtl rfl (by decide) (by decide) A h w
 ·rw[if_neg h];rfl
theorem q8m(x:Live):(qm x).toArray.extract 0 (0+35)=(q9 x.h).toArray:=by
 apply Array.ext'
 rw[Array.toList_extract]
 unfold qm
 rw[List.extract_eq_take_drop]
 simp[qbd]
structure CutS(w0 w:World)(g K R:Nat)(S:Nat→Prop)(ci:Ch)(lv nv av kv ov rv:Value)(ks:List Live)(os:List Htlc)(rs:List Int):Prop where
 ch:ChP w g S ci lv nv av
 k:w.heap[K]? = some (.cells #[ov,rv] 119 (0,0))
 r:w.heap[R]? = some (.cells #[.slice none 0 0,.slice none 0 0] 119 (0,0))
 ko:w.ownsRow w0.heap.size 81 38 kv ks.length (ks.flatMap qm)
 oo:w.ownsRow w0.heap.size 79 35 ov os.length (os.flatMap q9)
 ro:w.ownsRow w0.heap.size 22 1 rv rs.length (rs.map (Value.int .u64))
 u:Upd (· = g) w0 w
 lt:∀k,S k→k<w0.heap.size
 kge:w0.heap.size≤K
 rge:w0.heap.size≤R
 ne:R≠K
section
variable {w0 w w':World}{g K R:Nat}{S:Nat→Prop}{ci cj:Ch}{lv nv av kv ov rv v:Value}{ks ks':List Live}{os os':List Htlc}{rs rs':List Int}
theorem CutS.glt(h:CutS w0 w g K R S ci lv nv av kv ov rv ks os rs):g<w0.heap.size:=h.lt g h.ch.inG
theorem CutS.new(h:CutS w0 w g K R S ci lv nv av kv ov rv ks os rs)(n:qy w w'):CutS w0 w' g K R S ci lv nv av kv ov rv ks os rs :=
 ⟨h.ch.new n,n.old h.k (fun h=>h),n.old h.r (fun h=>h),qu h.ko n (fun _ _ h=>h),qu h.oo n (fun _ _ h=>h),qu h.ro n (fun _ _ h=>h),h.u.trans (n.mono (fun _ _ h=>h.elim)),h.lt,h.kge,h.rge,h.ne⟩
theorem CutS.op(h:CutS w0 w g K R S ci lv nv av kv ov rv ks os rs)(i:ChP w' g S cj lv nv av)(u:Upd (· = g) w w'):CutS w0 w' g K R S cj lv nv av kv ov rv ks os rs:=by
 have t:=h.glt
 have f:∀ {T:TypeId} {q n:Nat} {v:Value} {l:List Value},w.ownsRow w0.heap.size T q v n l→∀k,v.ownBlock=some k→¬k=g:=fun o k m e=>by have:=qjn o k m;omega
 have:=h.kge
 have:=h.rge
 exact⟨i,u.old h.k (fun e=>by omega),u.old h.r (fun e=>by omega),qu h.ko u (f h.ko),qu h.oo u (f h.oo),qu h.ro u (f h.ro),h.u.trans u,h.lt,h.kge,h.rge,h.ne⟩
theorem CutS.grow(h:CutS w0 w g K R S ci lv nv av kv ov rv ks os rs){T:TypeId}{I n:Nat}{l:List Value}(o:w.ownsRow w0.heap.size T I v n l)(u:Upd (fun k=>v.ownBlock=some k) w w')(E:T≠119) :
  ChP w' g S ci lv nv av∧w'.heap[K]? = some (.cells #[ov,rv] 119 (0,0))∧w'.heap[R]? = some (.cells #[.slice none 0 0,.slice none 0 0] 119 (0,0)) ∧
  (T≠81→w'.ownsRow w0.heap.size 81 38 kv ks.length (ks.flatMap qm))∧(T≠79→w'.ownsRow w0.heap.size 79 35 ov os.length (os.flatMap q9))∧(T≠22→w'.ownsRow w0.heap.size 22 1 rv rs.length (rs.map (Value.int .u64)))∧Upd (· = g) w0 w':=by
 have z:∀ {U:TypeId} {q F:Nat} {C:Value} {l2:List Value},T≠U→w.ownsRow w0.heap.size U q C F l2→∀k,C.ownBlock=some k→¬v.ownBlock=some k:=by
  intro U q F C l2 y H k x e
  obtain⟨D,f⟩:=q8 o k e
  obtain⟨J,t⟩:=q8 H k x
  exact ze f t y rfl
 refine⟨h.ch.upd u (fun k x e=>by have:=h.lt k x;have:=qjn o k e;omega),u.old h.k ?_,u.old h.r ?_,fun m=>qu h.ko u (z m h.ko),fun m=>qu h.oo u (z m h.oo),fun m=>qu h.ro u (z m h.ro),h.u.then u (fun i L e=>by have:=qjn o i e;omega)⟩
 ·intro e
  obtain⟨D,f⟩:=q8 o K e
  exact ze f h.k E rfl
 ·intro e
  obtain⟨D,f⟩:=q8 o R e
  exact ze f h.r E rfl
theorem CutS.putO(h:CutS w0 w g K R S ci lv nv av kv ov rv ks os rs)(u:Upd (fun k=>ov.ownBlock=some k) w w')(D:w'.ownsRow w0.heap.size 79 35 v os'.length (os'.flatMap q9)):CutS w0 (w'.setCell ⟨K,0,none⟩ v) g K R S ci lv nv av kv v rv ks os' rs:=by
 obtain⟨a1,a2,a3,z,-,C,F⟩:=h.grow h.oo u (by decide)
 have J:CutS w0 w' g K R S ci lv nv av kv ov rv ks [] rs→True:=fun _=>trivial
 have f:Upd (· = K) w' (w'.setCell ⟨K,0,none⟩ v):=(Upd.refl _ _).set1 0 v
 have L:=h.glt
 have I:=h.kge
 have m:=h.ne
 have x:∀ {U:TypeId} {l E:Nat} {y:Value} {l2:List Value},U≠119→w'.ownsRow w0.heap.size U l y E l2→∀k,y.ownBlock=some k→¬k=K:=by
  intro U l E y l2 t m k q e
  obtain⟨H,o⟩:=q8 m k q
  exact ze o a2 t e
 exact⟨a1.upd f (fun k q e=>by have:=h.lt k q;omega),by rw[zz a2];rfl,f.old a3 m,qu (z (by decide)) f (x (by decide) (z (by decide))),qu D f (x (by decide) D),qu (C (by decide)) f (x (by decide) (C (by decide))),F.then f (fun i M e=>by omega),h.lt,h.kge,h.rge,h.ne⟩
theorem CutS.putR(h:CutS w0 w g K R S ci lv nv av kv ov rv ks os rs)(u:Upd (fun k=>rv.ownBlock=some k) w w')(D:w'.ownsRow w0.heap.size 22 1 v rs'.length (rs'.map (Value.int .u64))):CutS w0 (w'.setCell ⟨K,1,none⟩ v) g K R S ci lv nv av kv ov v ks os rs':=by
 obtain⟨a1,a2,a3,z,C,-,F⟩:=h.grow h.ro u (by decide)
 have f:Upd (· = K) w' (w'.setCell ⟨K,1,none⟩ v):=(Upd.refl _ _).set1 1 v
 have J:=h.glt
 have I:=h.kge
 have m:=h.ne
 have x:∀ {U:TypeId} {l E:Nat} {y:Value} {l2:List Value},U≠119→w'.ownsRow w0.heap.size U l y E l2→∀k,y.ownBlock=some k→¬k=K:=by
  intro U l E y l2 t m k q e
  obtain⟨H,o⟩:=q8 m k q
  exact ze o a2 t e
 exact⟨a1.upd f (fun k q e=>by have:=h.lt k q;omega),by rw[zz a2];rfl,f.old a3 m,qu (z (by decide)) f (x (by decide) (z (by decide))),qu (C (by decide)) f (x (by decide) (C (by decide))),qu D f (x (by decide) D),F.then f (fun i L e=>by omega),h.lt,h.kge,h.rge,h.ne⟩
theorem CutS.putL(h:CutS w0 w g K R S ci lv nv av kv ov rv ks os rs)(u:Upd (fun k=>kv.ownBlock=some k) w w')(m:w'.ownsRow w0.heap.size 81 38 v ks'.length (ks'.flatMap qm)):CutS w0 w' g K R S ci lv nv av v ov rv ks' os rs:=by
 obtain⟨a1,a2,a3,-,f,i,l⟩:=h.grow h.ko u (by decide)
 exact⟨a1,a2,a3,m,f (by decide),i (by decide),l,h.lt,h.kge,h.rge,h.ne⟩
theorem CutS.other(h:CutS w0 w g K R S ci lv nv av kv ov rv ks os rs){X:Nat}(u:Upd (· = X) w w')(m:w.heap.size≤X∨(w0.heap.size≤X∧X≠K∧X≠R∧(∀k,kv.ownBlock=some k→k≠X)∧(∀k,ov.ownBlock=some k→k≠X)∧(∀k,rv.ownBlock=some k→k≠X))):CutS w0 w' g K R S ci lv nv av kv ov rv ks os rs:=by
 have H:=h.glt
 have J:=h.u.size
 have t:∀ {U:TypeId} {o y:Nat} {x:Value} {l2:List Value},w.ownsRow w0.heap.size U o x y l2→∀k,x.ownBlock=some k→k<w.heap.size:=by
  intro U o y x l2 z k l
  obtain⟨F,q⟩:=q8 z k l
  exact zw q
 have C:=zw h.k
 have D:=zw h.r
 have E:w0.heap.size≤X:=by rcases m with e | e<;>omega
 refine⟨h.ch.upd u (fun k l e=>by have:=h.lt k l;omega),u.old h.k (fun e=>by rcases m with f | f<;>omega),u.old h.r (fun e=>by rcases m with f | f<;>omega),qu h.ko u (fun k l e=> ?_),qu h.oo u (fun k l e=> ?_),qu h.ro u (fun k l e=> ?_),h.u.then u (fun i I e=>by omega),h.lt,h.kge,h.rge,h.ne⟩
 ·have:=t h.ko k l
  rcases m with f | f
  ·omega
  ·exact f.2.2.2.1 k l e
 ·have:=t h.oo k l
  rcases m with f | f
  ·omega
  ·exact f.2.2.2.2.1 k l e
 ·have:=t h.ro k l
  rcases m with f | f
  ·omega
  ·exact f.2.2.2.2.2 k l e
end
theorem ChP.noNews{w:World}{g:Nat}{S:Nat→Prop}{c:Ch}{lv nv av:Value}(h:ChP w g S c lv nv av):ChP (w.setCell ⟨g,626,none⟩ qbt) g S {c with news:=[]} lv qbt av:=by
 have u:Upd (· = g) w (w.setCell ⟨g,626,none⟩ qbt):=(Upd.refl _ _).set1 626 _
 have f:=zz h.at_ 626 qbt
 rw[qrj c lv nv av h.ok.s.seed h.ok.shelf [] qbt] at f
 have q:∀ {T:TypeId} {o n:Nat} {v:Value} {l:List Value},T≠92→w.ownsRow 0 T o v n l→∀k,v.ownBlock=some k→¬k=g:=by
  intro T o n v l x C k i e
  obtain⟨t,y⟩:=q8 C k i
  exact ze y h.at_ x e
 exact⟨f,⟨h.ok.s,h.ok.signed,h.ok.heard,h.ok.nextOwn,h.ok.nextTheirs,h.ok.loc,h.ok.rem,h.ok.xs,h.ok.few,h.ok.shelf,(fun m z=>by cases z),h.ok.last,⟨Nat.zero_le _,h.ok.many.2⟩⟩,qu h.live u (q (by decide) h.live),World.ownsRow_nil _ _ _ _,qu h.last u (q (by decide) h.last),h.inG,h.inL,(fun k e=>by cases e),h.inA,(fun k e=>by cases e),fun k i=>Nat.lt_of_lt_of_le (h.lt k i) u.size⟩
theorem qx1(x:Live):(((qm x).toArray.setIfInBounds 36 (.int .i64 4)).setIfInBounds 37 (.bool false))=(qm {x with state:=4,paid:=false}).toArray:=by
 unfold qm
 rw[List.setIfInBounds_toArray,List.setIfInBounds_toArray,List.set_append_right _ _ (by rw[qbd];omega),List.set_append_right _ _ (by rw[qbd];omega),qbd]
 rfl
end Go.Proofs.YtjpmomdechibmaaGreatDoor
