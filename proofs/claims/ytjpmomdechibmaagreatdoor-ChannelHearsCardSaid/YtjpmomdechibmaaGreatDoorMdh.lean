/-
  Law 13: the pair beside a message in a block of its own.
-/
import Derived.Test.YtjpmomdechibmaaGreatDoorPr3
import Derived.Test.YtjpmomdechibmaaGreatDoorMcj
import Derived.Test.YtjpmomdechibmaaGreatDoorMcd
import Derived.Test.YtjpmomdechibmaaGreatDoorMde
import Derived.Test.YtjpmomdechibmaaGreatDoorMda
set_option linter.unusedVariables false
set_option linter.unusedSimpArgs false
namespace Go.Proofs.YtjpmomdechibmaaGreatDoor
open Go.RowKit
section
variable {w0 w w':World}{p K:Nat}{S T:Nat→Prop}{a b a' b':Ch}{wa wb wa' wb':List MsgV}{bad bad':Bool}{m m':MsgV}
theorem PrS.put(h:PrS w0 w p S a b wa wb bad)(j:¬S K)(z:K<w.heap.size)(l:w0.heap.size≤K)(u:Upd (· = K) w w'):PrS w0 w' p S a b wa wb bad:=by
 obtain⟨x,y,t,v,C,D,g,i,q⟩:=h
 have o:∀k,S k→k≠K:=fun k f e=>j (e▸f)
 refine⟨x,y,t,v,C,D,⟨g.two.put ⟨z,fun k=>j (i K (.inl k)),fun k=>j (i K (.inr (.inl k)))⟩ l u,u.old g.at_ (o p (i p (by simp))),g.off.new u.size,g.ge,qq g.rowA u (fun k f=>o k (i k (by simp[f]))),qq g.rowB u (fun k f=>o k (i k (by simp[f]))),fun k f=>(g.offA k f).new u.size,fun k f=>(g.offB k f).new u.size,g.sep,g.okA,g.okB⟩,i,fun k f=>⟨(q k f).1,Nat.lt_of_lt_of_le (q k f).2 u.size⟩⟩
theorem PrS.endA(h:PrS w0 w p S a b wa wb bad)(x:Tb w0):∃g j,w.cell? ⟨p,0,none⟩=some (.pointer (some ⟨g,0,none⟩))∧ChS w g j a∧Apart j∧qx w0 w∧∀w' a',ChS w' g (Fr j w w') a'→Upd j w w'→PrS w0 w' p (Fr S w w') a' b wa wb bad∧Upd S w w':=by
 obtain⟨o,v,t,D,z,C,i,l,q⟩:=h
 refine⟨o,t,i.cell.1,i.two.A,i.two.apA x,i.two.n,fun w' a' y u=>⟨⟨o,v,_,_,z,C,i.opA y u,?_,?_⟩,u.mono fun k _ f=>l k (.inl f)⟩⟩
 ·rintro k ((f | f) | f)
  ·exact .inl (l k (.inl f))
  ·exact .inr f
  ·exact .inl (l k (.inr f))
 ·have:=i.two.n.size
  have:=u.size
  rintro k (f | f)
  ·exact⟨(q k f).1,by have:=(q k f).2;omega⟩
  ·exact⟨by omega,f.2⟩
theorem PrS.endB(h:PrS w0 w p S a b wa wb bad)(x:Tb w0):∃g j,w.cell? ⟨p,1,none⟩=some (.pointer (some ⟨g,0,none⟩))∧ChS w g j b∧Apart j∧qx w0 w∧∀w' b',ChS w' g (Fr j w w') b'→Upd j w w'→PrS w0 w' p (Fr S w w') a b' wa wb bad∧Upd S w w':=by
 obtain⟨v,o,D,t,z,C,i,l,q⟩:=h
 refine⟨o,t,i.cell.2.1,i.two.B,i.two.apB x,i.two.n,fun w' a' y u=>⟨⟨v,o,_,_,z,C,i.opB y u,?_,?_⟩,u.mono fun k _ f=>l k (.inr (.inl f))⟩⟩
 ·rintro k (f | (f | f) | f)
  ·exact .inl (l k (.inl f))
  ·exact .inl (l k (.inr (.inl f)))
  ·exact .inr f
  ·exact .inl (l k (.inr (.inr f)))
 ·have:=i.two.n.size
  have:=u.size
  rintro k (f | f)
  ·exact⟨(q k f).1,by have:=(q k f).2;omega⟩
  ·exact⟨by omega,f.2⟩
def PrX(w0 w:World)(p:Nat)(a b:Ch)(wa wb:List MsgV)(bad:Bool)(K:Nat)(m:MsgV):Prop:=∃S,PrS w0 w p S a b wa wb bad∧¬S K∧MsB w K m∧w0.heap.size≤K
theorem PrX.of(g:¬S K)(i:MsB w K m)(f:w0.heap.size≤K)(h:PrS w0 w' p (Fr S w w') a' b' wa' wb' bad'∧Upd S w w'):PrX w0 w' p a' b' wa' wb' bad' K m:=by
 refine⟨_,h.1,?_,i.upd h.2 g,f⟩
 rintro (j | j)
 ·exact g j
 ·have:=i.lt
  omega
theorem PrX.new(h:PrX w0 w p a b wa wb bad K m)(u:qx w w'):PrX w0 w' p a b wa wb bad K m:=by
 obtain⟨S,j,g,i,f⟩:=h
 exact⟨S,j.new u,g,i.new u,f⟩
theorem PrX.put(h:PrX w0 w p a b wa wb bad K m)(l:m'.hash.length=32):PrX w0 (w.setCells K 0 m'.cells) p a b wa wb bad K m':=by
 obtain⟨S,j,g,i,f⟩:=h
 exact⟨S,j.put g i.lt f (qad _),g,i.put l,f⟩
theorem PrX.endA(h:PrX w0 w p a b wa wb bad K m)(z:Tb w0):∃g f,w.cell? ⟨p,0,none⟩=some (.pointer (some ⟨g,0,none⟩))∧ChS w g f a∧Apart f∧qx w0 w∧∀w' a',ChS w' g (Fr f w w') a'→Upd f w w'→PrX w0 w' p a' b wa wb bad K m:=by
 obtain⟨S,y,v,x,i⟩:=h
 obtain⟨g,f,j,l,o,q,t⟩:=y.endA z
 exact⟨g,f,j,l,o,q,fun w' a' C u=> .of v x i (t w' a' C u)⟩
theorem PrX.endB(h:PrX w0 w p a b wa wb bad K m)(z:Tb w0):∃g f,w.cell? ⟨p,1,none⟩=some (.pointer (some ⟨g,0,none⟩))∧ChS w g f b∧Apart f∧qx w0 w∧∀w' b',ChS w' g (Fr f w w') b'→Upd f w w'→PrX w0 w' p a b' wa wb bad K m:=by
 obtain⟨S,y,v,x,i⟩:=h
 obtain⟨g,f,j,l,o,q,t⟩:=y.endB z
 exact⟨g,f,j,l,o,q,fun w' a' C u=> .of v x i (t w' a' C u)⟩
theorem PrX.row(h:PrX w0 w p a b wa wb bad K m):zr w K 0 38=some m.cells.toArray:=by
 obtain⟨S,j,i,f,g⟩:=h
 exact f.row
end
theorem PrP.toS{w0 w:World}{p j l:Nat}{g i:Nat→Prop}{a b:Ch}{wa wb:List MsgV}{o q:Value}{bad:Bool}(h:PrP w0 w p j l g i a b wa wb o q bad):PrS w0 w p (fun k=>w0.heap.size≤k∧k<w.heap.size) a b wa wb bad:=by
 refine⟨j,l,g,i,o,q,h,?_,fun k f=>f⟩
 rintro k (f | f | rfl | f | f)
 ·exact⟨h.two.geA k f,h.two.A.lt k f⟩
 ·exact⟨h.two.geB k f,h.two.B.lt k f⟩
 ·exact⟨h.ge,h.off.lt⟩
 ·exact⟨qi6 h.rowA k f,(h.offA k f).lt⟩
 ·exact⟨qi6 h.rowB k f,(h.offB k f).lt⟩
attribute [local go_sem ↓ high] qab qac qag qaa
attribute [local go_sem] qc2 qc3 qc6 qbm qvb zn
def qd8(id r:Int):MsgV:=⟨5,0,id,0,zz,0,r⟩
def Ch.fail(c:Ch)(id r:Int):Ch × MsgV × Int:=match qcr false id c.xs with
 | none=>(c,MsgV.zero,3)
 | some p=>if r<0∨65535<r then (c,MsgV.zero,1) else ((c.removed p.1 p.2 false).say (qd8 id r),(qd8 id r).on c.s.ch,0)
theorem qrn{c:Ch}{id r:Int}(h:qcr false id c.xs=none):c.fail id r=(c,MsgV.zero,3):=by unfold Ch.fail;rw[h]
theorem qvt{c:Ch}{id r:Int}{p:Nat × Live}(h:qcr false id c.xs=some p)(f:r<0∨65535<r):c.fail id r=(c,MsgV.zero,1):=by unfold Ch.fail;rw[h];simp only;rw[if_pos f]
theorem q2o{c:Ch}{id r:Int}{i:Nat}{x:Live}(h:qcr false id c.xs=some (i,x))(f:¬(r<0∨65535<r)):c.fail id r=((c.removed i x false).say (qd8 id r),(qd8 id r).on c.s.ch,0):=by unfold Ch.fail;rw[h];simp only;rw[if_neg f]
set_option maxRecDepth 100000 in
set_option maxHeartbeats 1000000 in
theorem q5t(g:Nat)(S:Nat→Prop)(c:Ch)(id r:Int)(w:World)(h:ChS w g S c)(R:c.news.length<1000000) :
  Calls Tryz.prog 31 #[.pointer (some ⟨g,0,none⟩),.int .u64 id,.int .i64 r] w fun e w' =>
   e = .returned (.tuple #[.agg (c.fail id r).2.1.cells.toArray,.int .i64 (c.fail id r).2.2])∧ChS w' g (Fr S w w') (c.fail id r).1∧Upd S w w':=by
 obtain⟨Z,nv,X,h⟩:=h
 go_enter Tryz.func31,Tryz.ntmps31
 go_upto_region 1 with fail
 have M:=qb6 w MsgV.zero qo
 have V:qx w (w.alloc (.cells MsgV.zero.cells.toArray 30)):=(Upd.refl _ _).alloc _
 generalize w.alloc (.cells MsgV.zero.cells.toArray 30)=w1 at M V ⊢
 obtain⟨B,N⟩:∃B,B=w.heap.size:=⟨_,rfl⟩
 rw[←N] at M ⊢
 have a7:w.heap.size≤B:=by omega
 have a8:g≠B:=by have:=h.lt g h.inG;omega
 have l:¬S B:=fun e=>by have:=h.lt B e;omega
 clear N
 have Y:=h.new V
 have P:=qll g S c false id w1 ⟨Z,nv,X,Y⟩
 have bad:∀(W:World),qx w1 W →
   stOk W B 0 38 MsgV.zero.cells.toArray=true∧MsB (W.setCells B 0 MsgV.zero.cells) B MsgV.zero∧ChS (W.setCells B 0 MsgV.zero.cells) g (Fr S w (W.setCells B 0 MsgV.zero.cells)) c∧Upd S w (W.setCells B 0 MsgV.zero.cells):=by
  intro W nW
  have P:=M.new nW
  have u:=qad (w:=W) (b:=B) MsgV.zero.cells
  exact⟨P.stOk qo,P.put qo,ChS.frW (w1:=w) ⟨Z,nv,X,((Y.new nW).upd u (fun k C e=>by rw[e] at C;exact l C))⟩,((V.trans nW).mono (T:=S) (fun _ _ h=>h.elim)).then u (fun i q e=>by omega)⟩
 have m:=qb bad
 have HB:=qb M
 have HI:=qb h.inL
 have H1:=qb Y
 have a6:=qb h.lt
 have N1:=qb V
 clear h Y M V bad
 go_wp2_with fail
 refine P.mono ?_
 rintro e w2 ⟨rfl,E⟩
 clear P
 cases v:qcr false id c.xs with
 | none =>
  have q:=qir v
  obtain⟨D,f,o,O⟩:=qa m w2 E
  have H:=qb (qrn (r:=r) v)
  have I:=qb f
  have F:=qb o
  have J:=qb O
  rw[q]
  clear f o O E v q
  go_wp2_with (with_reducible first|(first|refine' tw1 (qh ?_) ?_|refine' tw2 (qh ?_) ?_);rotate_left|refine' tw3 (qh ?_)|rfl|apply tn|refine' tw4 ?_)
  have f:=qa I
  refine bodyPost_ret (qu rfl _ _ B _ _ _ _ rfl f.at_ Tryz.underlying30 rfl (by rw[f.agg];exact Tryz.infoMsg)) rfl ?_
  rw[qa H]
  exact⟨rfl,qa F,qa J⟩
 | some pr =>
  obtain⟨i,x⟩:=pr
  obtain⟨q,z,-⟩:=qgh v
  have h2:=(qa H1).new E
  rw[q]
  by_cases K:r<0∨65535<r
  ·obtain⟨D,f,o,O⟩:=qa m w2 E
   have H:=qb (qvt v K)
   have I:=qb f
   have F:=qb o
   have J:=qb O
   clear f o O E v q z h2
   rcases K with K | K
   ·go_wp2_with (with_reducible first|(first|refine' tw1 (qh ?_) ?_|refine' tw2 (qh ?_) ?_);rotate_left|refine' tw3 (qh ?_)|rfl|apply tn|refine' tw4 ?_)
    have f:=qa I
    refine bodyPost_ret (qu rfl _ _ B _ _ _ _ rfl f.at_ Tryz.underlying30 rfl (by rw[f.agg];exact Tryz.infoMsg)) rfl ?_
    rw[qa H]
    exact⟨rfl,qa F,qa J⟩
   ·have a4:¬r<0:=by omega
    go_wp2_with (with_reducible first|(first|refine' tw1 (qh ?_) ?_|refine' tw2 (qh ?_) ?_);rotate_left|refine' tw3 (qh ?_)|rfl|apply tn|refine' tw4 ?_)
    have f:=qa I
    refine bodyPost_ret (qu rfl _ _ B _ _ _ _ rfl f.at_ Tryz.underlying30 rfl (by rw[f.agg];exact Tryz.infoMsg)) rfl ?_
    rw[qa H]
    exact⟨rfl,qa F,qa J⟩
  ·have U:=qi9 g S c Z nv X i x false w2 h2 z
   have H:=qb (q2o v K)
   have a4:¬r<0:=by omega
   have a9:¬65535<r:=by omega
   have N2:=qb E
   clear E v q z h2 K
   go_wp2_with fail
   refine U.mono ?_
   rintro e w3 ⟨rfl,h3,u3⟩
   have t:=fun W (hW:ChS W g S (c.removed i x false))=>qoo g S (c.removed i x false) (qd8 id r) qo W hW R
   have j:=t w3 ⟨Z,nv,X,h3⟩
   have U3:=qb ((((qa N1).trans (qa N2)).mono (T:=S) (fun _ _ h=>h.elim)).trans (u3.mono (T:=S) (fun k _ e=>qa HI k e)))
   have L:=qb (((qa HB).new (qa N2)).upd u3 (fun e=>l (qa HI B e)))
   clear U h3 u3 t
   unfold qd8 at j
   go_wp2_with (with_reducible first|(first|refine' tw1 (qh ?_) ?_|refine' tw2 (qh ?_) ?_);rotate_left|refine' tw3 (qh ?_)|rfl|apply tn|refine' tw4 ?_)
   refine j.mono ?_
   rintro e w4 ⟨rfl,h4,u4⟩
   have hl:((qd8 id r).on (c.removed i x false).s.ch).hash.length=32:=qo
   have y:=(qa L).upd u4 l
   have D:=y.stOk hl
   have f:=y.put hl
   have u5:=qad (w:=w4) (b:=B) ((qd8 id r).on (c.removed i x false).s.ch).cells
   have I:=qb f
   have a5:=(qa U3).size
   have o:=h4.upd u5 (fun k C e=>by
    rcases C with C | C
    ·exact l (e▸C)
    ·have:=(qa L).lt
     omega)
   have F:=qb ((o.grow u5.size).later a5)
   have J:=qb (((qa U3).trans u4).then u5 (fun i q e=>by omega))
   change stOk w4 B 0 38 ((⟨5,0,id,0,zz,0,r⟩:MsgV).on (c.removed i x false).s.ch).cells.toArray=true at D
   clear j h4 u4 y f u5 o hl
   go_wp2_with (with_reducible first|(first|refine' tw1 (qh ?_) ?_|refine' tw2 (qh ?_) ?_);rotate_left|refine' tw3 (qh ?_)|rfl|apply tn|refine' tw4 ?_)
   have f:=qa I
   refine bodyPost_ret (qu rfl _ _ B _ _ _ _ rfl f.at_ Tryz.underlying30 rfl (by rw[f.agg];exact Tryz.infoMsg)) rfl ?_
   rw[qa H]
   exact⟨rfl,qa F,qa J⟩
end Go.Proofs.YtjpmomdechibmaaGreatDoor
namespace Go.Proofs.YtjpmomdechibmaaGreatDoor
open Go.RowKit
theorem qsi{w:World}{b o n:Nat}{A:Array Value}(h:zr w b o n=some A)(i k:Nat)(g:i+k≤n):zr w b (o+i) k=some (A.extract i (i+k)):=by
 unfold zr at h ⊢
 cases f:w.heap[b]? with
 | none=>rw[f] at h;cases h
 | some j =>
  rw[f] at h
  cases j with
  | cells C T l =>
   simp only at h ⊢
   split at h
   ·injection h with h
    subst h
    rw[if_pos (by omega),Array.extract_extract]
    congr 2
    omega
   ·cases h
  | _=>simp at h
theorem q3e(x:Live):(ql x).toArray.extract 2 (2+32)=(zb x.h.hash.toList).toArray:=by
 apply Array.ext'
 rw[Array.toList_extract]
 unfold ql zi zb
 simp
theorem ChP.hash{w:World}{g:Nat}{S:Nat→Prop}{c:Ch}{o nv q:Value}(h:ChP w g S c o nv q){i:Nat}{x:Live}(m:c.xs[i]? = some x):∃l cap,o = .slice (some ⟨l,0,none⟩) c.xs.length cap∧zr w l (i*38+2) 32=some (zb x.h.hash.toList).toArray:=by
 have j:=(List.getElem?_eq_some_iff.1 m).1
 rcases (qc1 h.live).2 with ⟨e,t⟩ | ⟨g',f,e,-,v⟩
 ·rw[t] at j;simp at j
 ·refine⟨g',f,e,?_⟩
  have:=qsi (v.row m) 2 32 (by omega)
  rw[q3e,Nat.zero_add] at this
  exact this
def Ch.hearFulfill(c:Ch)(m:MsgV):Ch × Int:=match qcr true m.id c.xs with
 | none=>(c,3)
 | some p=>if qhn m.hash p.2.h.hash.toList=true then (c.removed p.1 p.2 true,0) else (c,132)
theorem qtt{c:Ch}{m:MsgV}(h:qcr true m.id c.xs=none):c.hearFulfill m=(c,3):=by unfold Ch.hearFulfill;rw[h]
theorem qtu{c:Ch}{m:MsgV}{i:Nat}{x:Live}(h:qcr true m.id c.xs=some (i,x)):c.hearFulfill m=if qhn m.hash x.h.hash.toList=true then (c.removed i x true,0) else (c,132):=by unfold Ch.hearFulfill;rw[h]
attribute [local go_sem ↓ high] qab qac qag qaa z7 qal qan
attribute [local go_sem] qc2 qc3 qc6 qbm qcp qdl qdr zn
set_option maxRecDepth 100000 in
set_option maxHeartbeats 1000000 in
theorem qoa(g:Nat)(S:Nat→Prop)(c:Ch)(m:MsgV)(hm:MsgOk m)(w:World)(h:ChS w g S c)(hT:Tb w) :
  Calls Tryz.prog 67 #[.pointer (some ⟨g,0,none⟩),.agg m.cells.toArray] w fun e w' =>
   e = .returned (.tuple #[qbl,.int .i64 (c.hearFulfill m).2])∧ChS w' g (Fr S w w') (c.hearFulfill m).1∧Upd S w w':=by
 obtain⟨N,nv,av,h⟩:=h
 go_enter Tryz.func67,Tryz.ntmps67
 go_upto_region 1 with fail
 have H:=qb6 w m hm.len
 have K:qx w (w.alloc (.cells m.cells.toArray 30)):=(Upd.refl _ _).alloc _
 generalize w.alloc (.cells m.cells.toArray 30)=w1 at K H ⊢
 generalize w.heap.size=A at H ⊢
 have h1:=h.new K
 obtain⟨-,-,m2,-,-,-,-⟩:=H.cells
 have hb:=qll g S c true m.id w1 ⟨N,nv,av,h1⟩
 have HA:=qb H
 have I:=hT.new K
 clear H hT
 go_wp2_with fail
 refine hb.mono ?_
 rintro e U ⟨rfl,L⟩
 have y:=h1.new L
 have t:=(qa HA).new L
 have q:=K.trans L
 have v:=I.new L
 clear hb m2 h1 L K I HA
 cases C:qcr true m.id c.xs with
 | none =>
  have J:=qir C
  have D:=qb (qtt C)
  have V:=qb (y.fr w)
  have Z:=qb (q.mono (T:=S) (fun _ _ h=>h.elim))
  rw[J]
  clear h y q C J t v
  go_wp2_with fail
  go_ret2
  rw[qa D]
  exact⟨rfl,qa V,qa Z⟩
 | some p =>
  obtain⟨i,x⟩:=p
  obtain⟨J,j,-⟩:=qgh C
  have z:=qtu C
  have b3:=(List.getElem?_eq_some_iff.1 j).1
  have a7:=h.ok.few
  obtain⟨gl,cap,a5,R⟩:=y.hash j
  have F:U.cell? ⟨g,47,none⟩=some N:=y.toR.live
  rw[a5] at F
  obtain⟨-,-,-,-,-,-,P⟩:=t.cells
  have a6:=(h.ok.xs x (List.mem_of_getElem? j)).h.hash
  have f:=fun W (nW:qx U W)=>qsf m.hash x.h.hash.toList hm.len (by simp) a6 W (v.new nW).tabs
  have l:=fun W (hW:ChP W g S c N nv av)=>qi9 g S c N nv av i x true W hW j
  have HI:=qb h.inL
  have Z:=qb (q.mono (T:=S) (fun _ _ h=>h.elim))
  have V:=qb y
  have a9:(i:Int)<(c.xs.length:Int):=by omega
  have D:=qb z
  have a8:(c.xs.length:Int)≤1000000:=by omega
  rw[J]
  clear h y q C J t v j z
  generalize hO:qhn m.hash x.h.hash.toList=O at f D
  have RA:=qb P
  have RH:=qb R
  have X:=qb f
  have Y:=qb l
  clear P R f l hO
  go_upto_region 4 with (with_reducible first|(first|refine' tw1 (qh ?_) ?_|refine' tw2 (qh ?_) ?_);rotate_left|refine' tw3 (qh ?_)|rfl|apply tn|refine' tw4 ?_)
  have P:=qa RA
  have R:=qa RH
  clear RA RH
  go_wp2_with (with_reducible first|(first|refine' tw1 (qh ?_) ?_|refine' tw2 (qh ?_) ?_);rotate_left|refine' tw3 (qh ?_)|rfl|apply tn|refine' tw4 ?_)
  have f:=qa X
  have l:=qa Y
  refine(f _ ((Upd.refl _ _).drew)).mono ?_
  rintro e w3 ⟨rfl,n3⟩
  have h3:=((qa V).new ((Upd.refl (fun _=>False) U).drew)).new n3
  have M:qx U w3:=n3.ofDrew
  have o:=l w3 h3
  have H3:=qb (h3.fr w)
  have E:=qb ((qa Z).trans (M.mono (T:=S) (fun _ _ h=>h.elim)))
  clear f l F P R h3 n3 M
  cases O with
  | false =>
   clear o
   go_wp2_with (with_reducible first|(first|refine' tw1 (qh ?_) ?_|refine' tw2 (qh ?_) ?_);rotate_left|refine' tw3 (qh ?_)|rfl|apply tn|refine' tw4 ?_)
   go_ret2
   have z:c.hearFulfill m=(c,132):=by rw[qa D];simp
   rw[z]
   exact⟨rfl,qa H3,qa E⟩
  | true =>
   go_wp2_with (with_reducible first|(first|refine' tw1 (qh ?_) ?_|refine' tw2 (qh ?_) ?_);rotate_left|refine' tw3 (qh ?_)|rfl|apply tn|refine' tw4 ?_)
   refine o.mono ?_
   rintro e w4 ⟨rfl,h4,u4⟩
   have H4:=qb (h4.fr w)
   have a4:=qb ((qa E).trans (u4.mono (T:=S) (fun k _ e=>qa HI k e)))
   clear o h4 u4
   go_wp2_with (with_reducible first|(first|refine' tw1 (qh ?_) ?_|refine' tw2 (qh ?_) ?_);rotate_left|refine' tw3 (qh ?_)|rfl|apply tn|refine' tw4 ?_)
   go_ret2
   have z:c.hearFulfill m=(c.removed i x true,0):=by rw[qa D];simp
   rw[z]
   exact⟨rfl,qa H4,qa a4⟩
theorem qty(g:Nat)(S:Nat→Prop)(c:Ch)(m:MsgV)(j:MsgOk m)(w:World)(h:ChS w g S c)(i:qai m=true)(f:m.ch=c.s.ch)(x:m.kind=4)(q:Tb w) :
  Calls Tryz.prog 18 #[.pointer (some ⟨g,0,none⟩),.agg m.cells.toArray] w (qf0 g S w (c.hearFulfill m).1 [] (c.hearFulfill m).2) :=
 qi1 _ g S c _ _ _ m j w h i f (enters_of Tryz.func67 (by kernel_rfl) rfl) (fun o=>by rw[x];exact zcj o) (fun W l=>(qoa g S c m j W (h.new l) (q.new l)).mono (by
  rintro e w' ⟨v,t,y⟩
  exact⟨_,v,qcj.nil _ _,t,y⟩))
end Go.Proofs.YtjpmomdechibmaaGreatDoor
namespace Go.Proofs.YtjpmomdechibmaaGreatDoor
open Go.RowKit
structure Ch.Inv(c:Ch):Prop where
 shelf:qov c
 peer:c.s.peer.size≤100000000
 ch:0≤c.s.ch∧c.s.ch<4294967296
 heard:c.k.heard<4294967295
 few:c.xs.length≤16
noncomputable def Ch.hear(c:Ch)(m:MsgV):Ch × List MsgV × Int :=
 if qai m=false∨m.ch≠c.s.ch then (c,[],1)
 else if m.kind=3 then ((c.hearAdd m).1,[],(c.hearAdd m).2)
 else if m.kind=4 then ((c.hearFulfill m).1,[],(c.hearFulfill m).2)
 else if m.kind=5 then ((c.hearFail m).1,[],(c.hearFail m).2)
 else if m.kind=6 then c.hearSign m
 else if m.kind=7 then ((c.hearRevoke m).1,[],(c.hearRevoke m).2)
 else (c.hearShut.1,[],c.hearShut.2)
theorem q6e(g:Nat)(S:Nat→Prop)(c:Ch)(m:MsgV)(l:MsgOk m)(w:World)(h:ChS w g S c)(o:c.Inv)(t:Tb w)(v:Apart S)(f:m.kind=3∨m.kind=4∨m.kind=5∨m.kind=6∨m.kind=7∨m.kind=8) :
  Calls Tryz.prog 18 #[.pointer (some ⟨g,0,none⟩),.agg m.cells.toArray] w (qf0 g S w (c.hear m).1 (c.hear m).2.1 (c.hear m).2.2):=by
 by_cases q:qai m=false∨m.ch≠c.s.ch
 ·have e:c.hear m=(c,[],1):=by unfold Ch.hear;rw[if_pos q]
  rw[e]
  refine(qv7 g S c m l w h q).mono ?_
  rintro e w' ⟨y,x⟩
  exact⟨_,y,qcj.nil _ _,(h.new x).frW,x.mono (fun _ _ h=>h.elim)⟩
 ·have j:qai m=true:=by
   cases z:qai m with
   | true=>rfl
   | false=>exact absurd (.inl z) q
  have i:m.ch=c.s.ch:=Decidable.of_not_not (fun e=>q (.inr e))
  have e:c.hear m=if m.kind=3 then ((c.hearAdd m).1,[],(c.hearAdd m).2) else if m.kind=4 then ((c.hearFulfill m).1,[],(c.hearFulfill m).2) else if m.kind=5 then ((c.hearFail m).1,[],(c.hearFail m).2) else if m.kind=6 then c.hearSign m else if m.kind=7 then ((c.hearRevoke m).1,[],(c.hearRevoke m).2) else (c.hearShut.1,[],c.hearShut.2):=by unfold Ch.hear;rw[if_neg q]
  rcases f with f | f | f | f | f | f
  ·rw[e,if_pos f]
   exact qv6 g S c m l w h j i f (by have:=o.few;omega)
  ·rw[e,if_neg (by omega),if_pos f]
   exact qty g S c m l w h j i f t
  ·rw[e,if_neg (by omega),if_neg (by omega),if_pos f]
   exact q22 g S c m l w h j i f
  ·rw[e,if_neg (by omega),if_neg (by omega),if_neg (by omega),if_pos f]
   exact qry g S c m l w h j i f t v o.peer o.ch o.heard o.few
  ·rw[e,if_neg (by omega),if_neg (by omega),if_neg (by omega),if_neg (by omega),if_pos f]
   exact qnp g S c m l w h j i f o.shelf t v
  ·rw[e,if_neg (by omega),if_neg (by omega),if_neg (by omega),if_neg (by omega),if_neg (by omega)]
   exact q24 g S c m l w h j i f
structure Pr where
 a:Ch
 b:Ch
 wa:List MsgV
 wb:List MsgV
 bad:Bool
def PrD(w0 w:World)(p:Nat)(S:Nat→Prop)(P:Pr):Prop:=PrS w0 w p S P.a P.b P.wa P.wb P.bad
noncomputable def Pr.hears0(P:Pr):Pr × Bool:=match P.wa with
 | []=>(P,false)
 | m::ms=>(⟨(P.a.hear m).1,P.b,ms,P.wb++(P.a.hear m).2.1,P.bad || decide ((P.a.hear m).2.2≠0)⟩,true)
noncomputable def Pr.hears1(P:Pr):Pr × Bool:=match P.wb with
 | []=>(P,false)
 | m::ms=>(⟨P.a,(P.b.hear m).1,P.wa++(P.b.hear m).2.1,ms,P.bad || decide ((P.b.hear m).2.2≠0)⟩,true)
structure HearOk(c:Ch)(m:MsgV)(other:List MsgV):Prop where
 inv:c.Inv
 kind:m.kind=3∨m.kind=4∨m.kind=5∨m.kind=6∨m.kind=7∨m.kind=8
 says:∀l∈(c.hear m).2.1,MsgOk l
 few:other.length+(c.hear m).2.1.length≤1000000
def Pr.Ok0(P:Pr):Prop:=match P.wa with | []=>True | m::ms=>MsgOk m∧HearOk P.a m P.wb∧ms.length<1000000
def Pr.Ok1(P:Pr):Prop:=match P.wb with | []=>True | m::ms=>MsgOk m∧HearOk P.b m P.wa∧ms.length<1000000
structure SignOk(c:Ch):Prop where
 key:c.s.key.size≤100000000
 ch:0≤c.s.ch∧c.s.ch<4294967296
 few:c.news.length<1000000
 xs:c.xs.length≤16
attribute [local go_sem ↓ high] qab qac qag qaa z7 qal qan
attribute [local go_sem] qc2 qc3 qc6 qbm qo1 qcp qdl qdr zn
def qe9(id:Int)(p:List Int):MsgV:=⟨4,0,id,0,p,0,0⟩
def Ch.fulfill(c:Ch)(id:Int)(p:List Int):Ch × MsgV × Int:=match qcr false id c.xs with
 | none=>(c,MsgV.zero,3)
 | some q=>if qhn p q.2.h.hash.toList=true then ((c.removed q.1 q.2 true).say (qe9 id p),(qe9 id p).on c.s.ch,0) else (c,MsgV.zero,132)
theorem qvy{c:Ch}{id:Int}{p:List Int}(h:qcr false id c.xs=none):c.fulfill id p=(c,MsgV.zero,3):=by unfold Ch.fulfill;rw[h]
theorem qvz{c:Ch}{id:Int}{p:List Int}{i:Nat}{x:Live}(h:qcr false id c.xs=some (i,x)):c.fulfill id p=if qhn p x.h.hash.toList=true then ((c.removed i x true).say (qe9 id p),(qe9 id p).on c.s.ch,0) else (c,MsgV.zero,132):=by unfold Ch.fulfill;rw[h]
set_option maxRecDepth 100000 in
set_option maxHeartbeats 1000000 in
theorem qv0(g:Nat)(S:Nat→Prop)(c:Ch)(id:Int)(pre:List Int)(m:pre.length=32)(w:World)(h:ChS w g S c)(hT:Tb w)(a6:c.news.length<1000000) :
  Calls Tryz.prog 27 #[.pointer (some ⟨g,0,none⟩),.int .u64 id,.agg (zb pre).toArray] w fun e w' =>
   e = .returned (.tuple #[.agg (c.fulfill id pre).2.1.cells.toArray,.int .i64 (c.fulfill id pre).2.2])∧ChS w' g (Fr S w w') (c.fulfill id pre).1∧Upd S w w':=by
 obtain⟨L,nv,Y,h⟩:=h
 go_enter Tryz.func27,Tryz.ntmps27
 go_upto_region 1 with fail
 have hD:=(qby w pre m).new ((Upd.refl _ _).alloc (.cells MsgV.zero.cells.toArray 30))
 have J:=qb6 (w.alloc (.cells (zb pre).toArray 28)) MsgV.zero qo
 rw[World.size_alloc] at J
 have M:qx w ((w.alloc (.cells (zb pre).toArray 28)).alloc (.cells MsgV.zero.cells.toArray 30)):=((Upd.refl _ _).alloc _).alloc _
 generalize (w.alloc (.cells (zb pre).toArray 28)).alloc (.cells MsgV.zero.cells.toArray 30)=w1 at hD J M ⊢
 obtain⟨D,a5⟩:∃D,D=w.heap.size:=⟨_,rfl⟩
 obtain⟨B,a4⟩:∃B,B=w.heap.size+1:=⟨_,rfl⟩
 rw[←a4] at J ⊢
 rw[←a5] at hD ⊢
 have b8:w.heap.size≤B:=by omega
 have b9:w.heap.size≤D:=by omega
 have c1:g≠B:=by have:=h.lt g h.inG;omega
 have q:¬S B:=fun e=>by have:=h.lt B e;omega
 have b4:¬S D:=fun e=>by have:=h.lt D e;omega
 clear a4 a5
 have h1:=h.new M
 have C:=hT.new M
 have hb:=qll g S c false id w1 ⟨L,nv,Y,h1⟩
 have bad:∀(W:World),qx w1 W →
   stOk W B 0 38 MsgV.zero.cells.toArray=true∧MsB (W.setCells B 0 MsgV.zero.cells) B MsgV.zero∧ChS (W.setCells B 0 MsgV.zero.cells) g (Fr S w (W.setCells B 0 MsgV.zero.cells)) c∧Upd S w (W.setCells B 0 MsgV.zero.cells):=by
  intro W nW
  have hb:=J.new nW
  have u:=qad (w:=W) (b:=B) MsgV.zero.cells
  exact⟨hb.stOk qo,hb.put qo,ChS.frW (w1:=w) ⟨L,nv,Y,((h1.new nW).upd u (fun k F e=>by rw[e] at F;exact q F))⟩,((M.trans nW).mono (T:=S) (fun _ _ h=>h.elim)).then u (fun i E e=>by omega)⟩
 have t:=qb bad
 have HB:=qb J
 have HD:=qb hD
 have HI:=qb h.inL
 have H1:=qb h1
 have b7:=qb h.lt
 have N1:=qb M
 have b3:=qb h.ok
 have c0:(c.xs.length:Int)≤1000000:=by have:=h.ok.few;omega
 clear h h1 J M bad hD hT
 go_wp2_with fail
 refine hb.mono ?_
 rintro e w2 ⟨rfl,I⟩
 clear hb
 cases K:qcr false id c.xs with
 | none =>
  have E:=qir K
  obtain⟨H,f,v,hU⟩:=qa t w2 I
  have P:=qb (qvy (p:=pre) K)
  have R:=qb f
  have O:=qb v
  have X:=qb hU
  rw[E]
  clear f v hU I K E C
  go_wp2_with (with_reducible first|(first|refine' tw1 (qh ?_) ?_|refine' tw2 (qh ?_) ?_);rotate_left|refine' tw3 (qh ?_)|rfl|apply tn|refine' tw4 ?_)
  have f:=qa R
  refine bodyPost_ret (qu rfl _ _ B _ _ _ _ rfl f.at_ Tryz.underlying30 rfl (by rw[f.agg];exact Tryz.infoMsg)) rfl ?_
  rw[qa P]
  exact⟨rfl,qa O,qa X⟩
 | some pr =>
  obtain⟨i,x⟩:=pr
  obtain⟨E,l,-⟩:=qgh K
  have h2:=(qa H1).new I
  rw[E]
  have c3:=(List.getElem?_eq_some_iff.1 l).1
  obtain⟨gl,cap,b5,rh⟩:=h2.hash l
  have Z:w2.cell? ⟨g,47,none⟩=some L:=h2.toR.live
  rw[b5] at Z
  have c2:(i:Int)<(c.xs.length:Int):=by omega
  have a7:=((qa b3).xs x (List.mem_of_getElem? l)).h.hash
  have U:=qb (fun W (nW:qx w2 W)=>qsf pre x.h.hash.toList m (by simp) a7 W ((C.new I).new nW).tabs)
  have V:=qb (fun W (hW:ChP W g S c L nv Y)=>qi9 g S c L nv Y i x true W hW l)
  have P:=qb (qvz (p:=pre) K)
  have RA:=qb (((qa HD).new I).row)
  have RH:=qb rh
  have N2:=qb I
  have H2:=qb h2
  clear I K E l h2 rh a7 C
  go_upto_region 4 with (with_reducible first|(first|refine' tw1 (qh ?_) ?_|refine' tw2 (qh ?_) ?_);rotate_left|refine' tw3 (qh ?_)|rfl|apply tn|refine' tw4 ?_)
  have rA:=qa RA
  have rh:=qa RH
  clear RA RH
  go_wp2_with (with_reducible first|(first|refine' tw1 (qh ?_) ?_|refine' tw2 (qh ?_) ?_);rotate_left|refine' tw3 (qh ?_)|rfl|apply tn|refine' tw4 ?_)
  refine(qa U _ ((Upd.refl _ _).drew)).mono ?_
  rintro e w3 ⟨rfl,n3⟩
  have h3:=((qa H2).new ((Upd.refl (fun _=>False) w2).drew)).new n3
  have a8:qx w2 w3:=n3.ofDrew
  have o:=qa V w3 h3
  have N3:=qb ((qa N2).trans a8)
  clear Z rA rh h3 n3 a8 U V
  cases hO:qhn pre x.h.hash.toList with
  | false =>
   obtain⟨H,f,v,hU⟩:=qa t w3 (qa N3)
   have y:Hid (c.fulfill id pre=(c,MsgV.zero,132)):=qb (by rw[qa P,hO];simp)
   have R:=qb f
   have O:=qb v
   have X:=qb hU
   clear o f v hU hO
   go_wp2_with (with_reducible first|(first|refine' tw1 (qh ?_) ?_|refine' tw2 (qh ?_) ?_);rotate_left|refine' tw3 (qh ?_)|rfl|apply tn|refine' tw4 ?_)
   have f:=qa R
   refine bodyPost_ret (qu rfl _ _ B _ _ _ _ rfl f.at_ Tryz.underlying30 rfl (by rw[f.agg];exact Tryz.infoMsg)) rfl ?_
   rw[qa y]
   exact⟨rfl,qa O,qa X⟩
  | true =>
   have y:Hid (c.fulfill id pre=((c.removed i x true).say (qe9 id pre),(qe9 id pre).on c.s.ch,0)):=qb (by rw[qa P,hO];simp)
   clear hO P
   go_wp2_with (with_reducible first|(first|refine' tw1 (qh ?_) ?_|refine' tw2 (qh ?_) ?_);rotate_left|refine' tw3 (qh ?_)|rfl|apply tn|refine' tw4 ?_)
   refine o.mono ?_
   rintro e w4 ⟨rfl,h4,u4⟩
   have j:=qoo g S (c.removed i x true) (qe9 id pre) m w4 ⟨L,nv,Y,h4⟩ a6
   have U4:=qb ((((qa N1).trans (qa N3)).mono (T:=S) (fun _ _ h=>h.elim)).trans (u4.mono (T:=S) (fun k _ e=>qa HI k e)))
   have N:=qb (((qa HB).new (qa N3)).upd u4 (fun e=>q (qa HI B e)))
   have a9:=qb (((qa HD).new (qa N3)).upd u4 (fun e=>b4 (qa HI D e)))
   have bf:=fun W=>qo1 4 id pre m W
   clear o h4 u4
   unfold qe9 at j
   go_upto_region 7 with (with_reducible first|(first|refine' tw1 (qh ?_) ?_|refine' tw2 (qh ?_) ?_);rotate_left|refine' tw3 (qh ?_)|rfl|apply tn|refine' tw4 ?_)
   have rD:=(qa a9).row
   go_wp2_with (with_reducible first|(first|refine' tw1 (qh ?_) ?_|refine' tw2 (qh ?_) ?_);rotate_left|refine' tw3 (qh ?_)|rfl|apply tn|refine' tw4 ?_)
   refine j.mono ?_
   rintro e w5 ⟨rfl,h5,u5⟩
   have hl:((qe9 id pre).on (c.removed i x true).s.ch).hash.length=32:=m
   have z:=(qa N).upd u5 q
   have H:=z.stOk hl
   have f:=z.put hl
   have u6:=qad (w:=w5) (b:=B) ((qe9 id pre).on (c.removed i x true).s.ch).cells
   have R:=qb f
   have b6:=(qa U4).size
   have v:=h5.upd u6 (fun k F e=>by
    rcases F with F | F
    ·exact q (e▸F)
    ·have:=(qa N).lt
     omega)
   have O:=qb ((v.grow u6.size).later b6)
   have X:=qb (((qa U4).trans u5).then u6 (fun i E e=>by omega))
   change stOk w5 B 0 38 ((⟨4,0,id,0,pre,0,0⟩:MsgV).on (c.removed i x true).s.ch).cells.toArray=true at H
   clear j h5 u5 z f u6 v hl rD bf
   go_wp2_with (with_reducible first|(first|refine' tw1 (qh ?_) ?_|refine' tw2 (qh ?_) ?_);rotate_left|refine' tw3 (qh ?_)|rfl|apply tn|refine' tw4 ?_)
   have f:=qa R
   refine bodyPost_ret (qu rfl _ _ B _ _ _ _ rfl f.at_ Tryz.underlying30 rfl (by rw[f.agg];exact Tryz.infoMsg)) rfl ?_
   rw[qa y]
   exact⟨rfl,qa O,qa X⟩
end Go.Proofs.YtjpmomdechibmaaGreatDoor
