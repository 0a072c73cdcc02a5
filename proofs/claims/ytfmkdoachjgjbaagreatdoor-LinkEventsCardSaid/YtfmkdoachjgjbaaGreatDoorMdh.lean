/-
  Cut.
-/
import Derived.Test.YtfmkdoachjgjbaaGreatDoorMda
import Derived.Test.YtfmkdoachjgjbaaGreatDoorMcj
import Derived.Test.YtfmkdoachjgjbaaGreatDoorMdb
import Derived.Test.YtfmkdoachjgjbaaGreatDoorMbf
import Derived.Deep.AppendLies
import Derived.Test.YtfmkdoachjgjbaaGreatDoorTxt
import Derived.Test.YtfmkdoachjgjbaaGreatDoorMag
import Derived.Deep.Onto
import Derived.Test.YtfmkdoachjgjbaaGreatDoorMdg
import Derived.Test.YtfmkdoachjgjbaaGreatDoorMbj
set_option linter.unusedVariables false
set_option linter.unusedSimpArgs false
namespace Go.Proofs.YtfmkdoachjgjbaaGreatDoor
open Go.RowKit
attribute [local go_sem ↓ high] qbc qbo qce qga qdm qte
attribute [local go_sem] qdi qdx qfb qrt qj8 za6 qw
end Go.Proofs.YtfmkdoachjgjbaaGreatDoor
namespace Go.Proofs.YtfmkdoachjgjbaaGreatDoor
open Go.RowKit
def za1(c:Ch):MsgV:=⟨9,c.s.ch,IntKind.u64.wrap c.k.told,0,ze,0,c.k.heard+1⟩
section
variable {w w1:World}{g:Nat}{S:Nat→Prop}{l:Lk}{sp en lo B:Nat}{SC SJ:Nat→Prop}
end
def Lk.renewed(l:Lk):Lk:= {l with rest:=⟨#[]⟩,out:=⟨#[]⟩,ticks:=0,broken:=false,waits:=true}
attribute [local go_sem ↓ high] qz zb zc zf qah
attribute [local go_sem] qaw qax qa1 qw qcl
end Go.Proofs.YtfmkdoachjgjbaaGreatDoor
namespace Go.Proofs.YtfmkdoachjgjbaaGreatDoor
open Go.RowKit
def Lk.cut(l:Lk)(rec:ByteArray):Lk:= {({l with c:=l.c.cut,j:=l.j.app rec} : Lk).renewed with out:=qeb (za1 l.c.cut)}
structure RelV where
 ci:Nat
 peers:Value
 invoices:Value
 known:Value
 routes:Value
 payments:Value
 drains:Bool
  bs:Nat
def RelV.cells(r:RelV):List Value:=[q1z r.ci,r.peers,r.invoices,r.known,r.routes,r.payments,.bool r.drains]
def ReR(w:World)(g:Nat)(r:RelV):Prop:=w.heap[g]? = some (.cells r.cells.toArray 157 (0,0))
structure NodeV where
 re:Nat
 funds:Int
 drains:Bool
 shut:List Bool
 swept:List Bool
def NodeV.cells(n:NodeV):List Value:=q1z n.re :: .int .u64 n.funds :: .bool n.drains::(n.shut.map Value.bool++n.swept.map Value.bool)
def NoR(w:World)(g:Nat)(n:NodeV):Prop:=w.heap[g]? = some (.cells n.cells.toArray 149 (0,0))
def q86(b:Nat):Value:= .map (some b)
def EmM(w:World)(b:Nat):Prop:=w.heap[b]? = some (.map #[] 0)
structure NewR(w:World)(B g:Nat)(r:RelV):Prop where
 at_:ReR w g r
 peers:r.peers=qco
 drains:r.drains=false
 bs:r.bs=B
 maps:∃m1 m2 m3 m4,r.invoices=q86 m1∧r.known=q86 m2∧r.routes=q86 m3∧r.payments=q86 m4∧EmM w m1∧EmM w m2∧EmM w m3∧EmM w m4∧B≤m1∧m1<m2∧m2<m3∧m3<m4∧m4<g
theorem NewR.lt{w:World}{B g:Nat}{r:RelV}(h:NewR w B g r):g<w.heap.size:=zr h.at_
theorem NewR.new{w w':World}{B g:Nat}{r:RelV}(h:NewR w B g r)(n:qq w w'):NewR w' B g r:=by
 obtain⟨a,p,d,i,m1,I,J,K,C,E,F,H,m,q,v,z,l⟩:=h;have f (x:False):False:=x;exact⟨n.old a f,p,d,i,m1,I,J,K,C,E,F,H,n.old m f,n.old q f,n.old v f,n.old z f,l⟩
def NodeV.new(re:Nat)(funds:Int):NodeV:=⟨re,funds,false,List.replicate 8 false,List.replicate 8 false⟩
theorem qtu{α:Type}(f:α→List Value)(k:Nat)(m:∀x,(f x).length=k):∀(X:List α) (i j:Nat) (x:α),X[i]? = some x→j<k→(X.flatMap f)[i*k+j]? = (f x)[j]? := by
 intro X
 induction X with
 | nil=>intro i j x h;simp at h
 | cons y X z =>
  intro i j x q v;rw[List.flatMap_cons];cases i with
  | zero =>
   rw[List.getElem?_append_left (by rw[m];omega),Nat.zero_mul,Nat.zero_add];have:y=x:=by simpa using q
   rw[this]
  | succ i =>
   rw[List.getElem?_append_right (by rw[m,Nat.succ_mul];omega),m,show (i+1)*k+j-k=i*k+j by rw[Nat.succ_mul];omega];exact z i j x (by simpa using q) v
theorem q6p{α:Type}(f:α→List Value)(k:Nat)(E:∀x,(f x).length=k){w:World}{base:Nat}{T:TypeId}{v:Value}{n:Nat}{X:List α}(h:w.ownsRow base T k v n (X.flatMap f))(L:n=X.length) :
  (v = .slice none 0 0∧X=[])∨∃g cap,v = .slice (some ⟨g,0,none⟩) n cap∧base≤g∧(∃m,w.heap[g]? = some (.cells m T (0,0)))∧∀i j x,X[i]? = some x→j<k→w.cell? ⟨g,i*k+j,none⟩=(f x)[j]? := by
 rcases h.2 with ⟨e,I⟩ | ⟨g,cap,m,e,C,q,J,N,M,H⟩
 ·exact .inl ⟨e,List.length_eq_zero_iff.1 (by omega)⟩
 ·refine .inr ⟨g,cap,e,C,⟨m,q⟩,fun i j x z F=> ?_⟩;have K:=(List.getElem?_eq_some_iff.1 z).1;rw[qg q,←Array.getElem?_toList,←qtu f k E X i j x z F,←H,List.getElem?_take_of_lt];have:=Nat.mul_le_mul_right k (show i+1≤n from by omega);rw[Nat.succ_mul] at this;omega
structure PeerV where
 ch:Int
 lk:Nat
 l:LinkV
 c:ChanV
def PeerV.cells(p:PeerV):List Value:=[.int .u32 p.ch,q1z p.lk]
theorem PeerV.len(p:PeerV):p.cells.length=2:=rfl
structure RelI(w:World)(r:Nat)(R:RelV)(ps:List PeerV):Prop where
 at_:ReR w r R
 row:w.ownsRow R.bs 159 2 R.peers ps.length (ps.flatMap PeerV.cells)
 links:∀p∈ps,LkR w p.lk p.l∧ChR w p.l.en p.c
 bsle:R.bs≤w.heap.size
theorem RelI.shape{w:World}{r:Nat}{R:RelV}{ps:List PeerV}(h:RelI w r R ps):∃a cap,R.peers = .slice a ps.length cap:=by
 rcases q6p PeerV.cells 2 PeerV.len h.row rfl with ⟨e,f⟩ | ⟨g,cap,e,-⟩
 ·exact⟨none,0,by rw[e,f];rfl⟩
 ·exact⟨_,cap,e⟩
theorem q9k{S:Nat→Prop}{w w':World}{base:Nat}{e:TypeId}{size:Nat}{v:Value}{n:Nat}{xs:List Value}(h:w.ownsRow base e size v n xs)(u:Upd S w w')(q:∀k,v.ownBlock=some k→¬S k):w'.ownsRow base e size v n xs:=by
 refine⟨h.1,?_⟩;rcases h.2 with h | ⟨g,cap,f,i,m,z,r⟩
 ·exact .inl h
 ·exact .inr ⟨g,cap,f,i,m,u.old z (q g (by rw[i];rfl)),r⟩
theorem RelI.upd{S:Nat→Prop}{w w':World}{r:Nat}{R:RelV}{ps:List PeerV}(h:RelI w r R ps)(u:Upd S w w')(q:¬S r)(m:∀k,R.peers.ownBlock=some k→¬S k)(i:∀p∈ps,¬S p.lk∧¬S p.l.en):RelI w' r R ps:=by
 refine⟨u.old h.at_ q,q9k h.row u m,fun p f=>⟨u.old (h.links p f).1 (i p f).1,(h.links p f).2.upd u (i p f).2⟩,Nat.le_trans h.bsle u.size⟩
theorem RelI.new{w w':World}{r:Nat}{R:RelV}{ps:List PeerV}(h:RelI w r R ps)(u:qq w w'):RelI w' r R ps:=h.upd u (fun h=>h) (fun _ _ h=>h) (fun _ _=>⟨fun h=>h,fun h=>h⟩)
theorem RelI.own{w:World}{r:Nat}{R:RelV}{ps:List PeerV}(h:RelI w r R ps){k:Nat}(f:R.peers.ownBlock=some k):R.bs≤k:=by
 rcases h.row.2 with ⟨e,_⟩ | ⟨g,cap,i,e,m,_⟩
 ·rw[e] at f;simp[Value.ownBlock] at f
 ·rw[e] at f;simp[Value.ownBlock] at f;omega
theorem NewL.upd{S:Nat→Prop}{w w':World}{B A g:Nat}{s:SetupV}{l:LinkV}(h:NewL w B g s l)(u:Upd S w w')(f:A≤B)(n:¬S g∧¬S l.sp∧¬S l.en∧¬S l.lo):NewL w' A g s l :=
 ⟨h.isNew,u.old h.lk n.1,u.old h.sp n.2.1,h.ch.upd u n.2.2.1,u.old h.jo n.2.2.2,⟨by have:=h.ge.1;omega,by have:=h.ge.2.1;omega,by have:=h.ge.2.2.1;omega,by have:=h.ge.2.2.2;omega⟩,h.ne⟩
theorem NewL.new{w w':World}{B g:Nat}{s:SetupV}{l:LinkV}(h:NewL w B g s l)(u:qq w w'):NewL w' B g s l :=
 ⟨h.isNew,u.old h.lk (fun h=>h),u.old h.sp (fun h=>h),h.ch.new u,u.old h.jo (fun h=>h),h.ge,h.ne⟩
attribute [local go_sem ↓ high] qb4
attribute [local go_sem] qd8
end Go.Proofs.YtfmkdoachjgjbaaGreatDoor
namespace Go.Proofs.YtfmkdoachjgjbaaGreatDoor
open Go.RowKit
structure NodI(w:World)(g:Nat)(N:NodeV)(R:RelV)(ps:List PeerV):Prop where
 at_:NoR w g N
 re:RelI w N.re R ps
theorem NodI.new{w w':World}{g:Nat}{N:NodeV}{R:RelV}{ps:List PeerV}(h:NodI w g N R ps)(u:qq w w'):NodI w' g N R ps:=⟨u.old h.at_ (fun h=>h),h.re.new u⟩
attribute [local go_sem ↓ high] qb4
attribute [local go_sem] qd8 qw
end Go.Proofs.YtfmkdoachjgjbaaGreatDoor
namespace Go.Proofs.YtfmkdoachjgjbaaGreatDoor
open Go.RowKit
set_option maxHeartbeats 1000000 in
theorem q39(g:Nat)(l:LinkV)(w:World)(h:LkR w g l) :
  Calls Tryz.prog 19 #[.pointer (some ⟨g,0,none⟩)] w (qa0 (.pointer (some ⟨l.en,0,none⟩)) w):=by
 have f:w.cell? ⟨g,1,none⟩=some (.pointer (some ⟨l.en,0,none⟩)):=qg h 1
 clear h
 go_enter Tryz.func19,Tryz.ntmps19
 go_wp2_with fail
 go_ret
 exact⟨rfl,Q.refl _⟩
attribute [local go_sem ↓ high] qbc qbo qce
attribute [local go_sem] qdi qdx qfb qw
end Go.Proofs.YtfmkdoachjgjbaaGreatDoor
namespace Go.Proofs.YtfmkdoachjgjbaaGreatDoor
open Go.RowKit
section
variable {w w':World}{g:Nat}{S T:Nat→Prop}{l:Lk}{es:List EvV}
theorem LkV.lt(h:LkV w g S l es):∀k,S k→k<w.heap.size:=by
 obtain⟨sp,en,lo,h⟩:=h;exact h.lt
theorem LkV.inG(h:LkV w g S l es):S g:=by
 obtain⟨sp,en,lo,h⟩:=h;exact h.inG
theorem LkV.new(h:LkV w g S l es)(n:qq w w'):LkV w' g S l es:=by
 obtain⟨sp,en,lo,h⟩:=h;exact⟨sp,en,lo,h.new n⟩
theorem LkV.upd(h:LkV w g S l es)(u:Upd T w w')(hd:∀k,S k→¬T k):LkV w' g S l es:=by
 obtain⟨sp,en,lo,h⟩:=h;exact⟨sp,en,lo,h.upd u hd⟩
theorem LkV.wider(h:LkV w g S l es)(i:∀k,S k→T k)(f:∀k,T k→k<w.heap.size):LkV w g T l es:=by
 obtain⟨sp,en,lo,h⟩:=h;exact⟨sp,en,lo,h.wider i f⟩
theorem LkV.ev{v:Value}(h:LkV w g S {l with ev:=v} es):LkV w g S l es:=by
 obtain⟨sp,en,lo,f,i,m,ev,h⟩:=h;exact⟨sp,en,lo,f,i,m,ev,h.lk,h.row,h.out,h.inE,h.in0,h.lt⟩
theorem LkS.toV(h:LkS w g S l)(m:l.ev=qco):LkV w g S l []:=by
 obtain⟨sp,en,lo,f,i,h⟩:=h;have e:({l with ev:=qco} : Lk)=l:=by rw[←m]
 refine⟨sp,en,lo,S,f,i,qco,⟨?_,qid.nil _,(fun k e=>by cases e),(fun k e=>by cases e),(fun k e=>e),h.lt⟩⟩;rw[e];exact h
end
theorem zcb(g:Nat)(S:Nat→Prop)(l:Lk)(es:List EvV)(w:World)(h:LkV w g S l es)(hd:l.dead=false) :
  Calls Tryz.prog 44 #[.pointer (some ⟨g,0,none⟩)] w fun e w'=>e = .returned (.string l.out)∧LkV w' g (Fr S w w') {l with out:=⟨#[]⟩} es∧Upd S w w':=by
 obtain⟨sp,en,lo,i,m,q,ev,h⟩:=h
 refine(q9c g i {l with ev:=ev} w ⟨sp,en,lo,m,q,h.lk⟩ hd).mono ?_
 rintro e w' ⟨rfl,f,u⟩
 have:=LkV.lift (L:= {l with out:=⟨#[]⟩}) h u (f.wider (fun k e=> .inl e) (fun k e=>e.elim (fun e=>f.lt k e) (fun e=>e.2)))
 exact⟨rfl,this.1,this.2⟩
theorem qzh(g:Nat)(S:Nat→Prop)(l:Lk)(es:List EvV)(w:World)(h:LkV w g S l es)(hd:l.dead=false) :
  Calls Tryz.prog 16 #[.pointer (some ⟨g,0,none⟩)] w fun e w'=>∃ev,e = .returned ev∧qid w' ev es∧LkV w' g S l []∧Upd S w w'∧(∀k,ev.ownBlock=some k→S k)∧(∃f,LkV w' g f l []∧(∀k,f k→S k)∧∀k,ev.ownBlock=some k→¬f k):=by
 obtain⟨sp,en,lo,i,C,E,ev,h⟩:=h
 obtain⟨a,cap,z⟩:=qaa h.row
 refine(que g i {l with ev:=ev} w a es.length cap ⟨sp,en,lo,C,E,h.lk⟩ hd z).mono ?_
 rintro e w' ⟨rfl,F,u⟩
 have v:=h.lk.inG
 have H:qid w' ev es:=h.row.upd u (fun k e m=>h.out k e (by have m:k=g:=m;rw[m];exact v))
 have q:LkV w' g i l []:=by
  have:=F.toV rfl;exact this.ev.ev
 refine⟨ev,by rw[z],H,q.wider h.in0 (fun k e=>Nat.lt_of_lt_of_le (h.lt k e) u.size),u.mono (fun k _ e=>by have e:k=g:=e;rw[e];exact h.in0 g v),h.inE,i,q,h.in0,h.out⟩
noncomputable def Lk.tick(l:Lk)(n:Nat):Lk:=if l.waits=true∨(n+1)%3≠0 then {l with ticks:=(n:Int)+1} else ({l with ticks:=(n:Int)+1} : Lk).signs
noncomputable def Lk.tickE(l:Lk)(n:Nat):Int:=if l.waits=true∨(n+1)%3≠0 then 0 else qlm l.c.sign.2.2
theorem zc5(g:Nat)(S:Nat→Prop)(l:Lk)(es:List EvV)(n:Nat)(w:World)(h:LkV w g S l es)(i:LkOkW l)(R:l.ticks=n)(q:n<1000000)(J:l.c.sign.2.2=0→SayOk l.c.sign.2.1)(P:l.c.sign.2.1.hash.length=32)(Z:Tc w)(Y:ApC S)
  (I:l.c.s.key.size≤100000000) (O:0≤l.c.s.ch∧l.c.s.ch<4294967296) (F:l.c.news.length<1000000) (V:l.c.xs.length≤16) :
  Calls Tryz.prog 28 #[.pointer (some ⟨g,0,none⟩)] w fun e w'=>e = .returned (.int .i64 (l.tickE n))∧LkV w' g (Fr S w w') (l.tick n) es∧Upd S w w':=by
 obtain⟨sp,en,lo,K,W,X,ev,h⟩:=h
 have U:LkS w g K {l with ev:=ev} := ⟨sp,en,lo,W,X,h.lk⟩
 by_cases N:l.waits=true
 ·have C:l.tick n = {l with ticks:=(n:Int)+1} := by unfold Lk.tick;rw[if_pos (.inl N)]
  have E:l.tickE n=0:=by unfold Lk.tickE;rw[if_pos (.inl N)]
  rw[C,E];refine(qyc g K {l with ev:=ev} n w U i.dead N R q).mono ?_;rintro e w' ⟨rfl,f,u⟩;have:=LkV.lift (L:= {l with ticks:=(n:Int)+1}) h u (f.wider (fun k e=> .inl e) (fun k e=>e.elim (fun e=>f.lt k e) (fun e=>e.2)));exact⟨rfl,this.1,this.2⟩
 ·have v:l.waits=false:=by simpa using N
  have H:LkOk {l with ev:=ev} := ⟨i.dead,v,i.fused,i.off,i.many,i.len,i.out⟩;by_cases z:(n+1)%3=0
  ·have C:l.tick n=({l with ticks:=(n:Int)+1} : Lk).signs:=by unfold Lk.tick;rw[if_neg (by simp[v,z])]
   have E:l.tickE n=qlm l.c.sign.2.2:=by unfold Lk.tickE;rw[if_neg (by simp[v,z])]
   rw[C,E];refine(qyb g K {l with ev:=ev} n w U H R q z J P Z (Y.mono h.in0) I O F V).mono ?_;rintro e w' ⟨rfl,f,u⟩;have he:Lk.signs {l with ev:=ev,ticks:=(n:Int)+1} = {(({l with ticks:=(n:Int)+1} : Lk).signs) with ev:=ev} := by
    show Lk.acts _ l.c.sign.1 _ l.c.sign.2.1 l.c.sign.2.2 = {(Lk.acts _ l.c.sign.1 _ l.c.sign.2.1 l.c.sign.2.2:Lk) with ev:=ev};generalize l.c.sign.1=c';generalize l.c.sign.2.1=m;generalize l.c.sign.2.2=er;unfold Lk.acts;by_cases M:er=0
    ·rw[if_pos M,if_pos M];rfl
    ·rw[if_neg M,if_neg M]
   rw[he] at f;have:=LkV.lift h u f;exact⟨rfl,this.1,this.2⟩
  ·have C:l.tick n = {l with ticks:=(n:Int)+1} := by unfold Lk.tick;rw[if_pos (.inr z)]
   have E:l.tickE n=0:=by unfold Lk.tickE;rw[if_pos (.inr z)]
   rw[C,E];refine(qsy g K {l with ev:=ev} n w U H R q z).mono ?_;rintro e w' ⟨rfl,f,u⟩;have:=LkV.lift (L:= {l with ticks:=(n:Int)+1}) h u (f.wider (fun k e=> .inl e) (fun k e=>e.elim (fun e=>f.lt k e) (fun e=>e.2)));exact⟨rfl,this.1,this.2⟩
theorem zb9(g:Nat)(S:Nat→Prop)(l L:Lk)(es f:List EvV)(E:Int)(s:ByteArray)(w:World)(h:LkV w g S l es)(i:l.dead=false)(F:l.broken=false)(m:qei l.rest=false)(q:l.rest.size+s.size≤1000000000)(C:Tb w)(v:Apart S)(z:Bts {l with rest:=l.rest++s} es L f E) :
  Calls Tryz.prog 24 #[.pointer (some ⟨g,0,none⟩),.string s] w fun e w'=>e = .returned (.int .i64 E)∧LkV w' g (Fr S w w') L f∧Upd S w w':=by
 obtain⟨sp,en,lo,h⟩:=h
 refine(qw8 g S l L es f E s sp en lo w h i F m q C v z).mono ?_
 rintro e w' ⟨rfl,u,h⟩
 exact⟨rfl,⟨sp,en,lo,h⟩,u⟩
theorem zay(g:Nat)(S:Nat→Prop)(l:Lk)(es:List EvV)(w:World)(h:LkV w g S l es):∃en f,ChS w en f l.c∧(∀k,f k→S k)∧Calls Tryz.prog 19 #[.pointer (some ⟨g,0,none⟩)] w (qa0 (.pointer (some ⟨en,0,none⟩)) w):=by
 obtain⟨sp,en,lo,i,f,m,ev,h⟩:=h;exact⟨en,f,h.lk.chn,fun k e=>h.in0 k (h.lk.inC k e),q39 g _ w h.lk.at_⟩
theorem bx{a b:ByteArray}(h:a.data.toList=b.data.toList):a=b:=by
 cases a;cases b;simp only at h;rw[ByteArray.mk.injEq];exact Array.ext' h
theorem qn5(a b:ByteArray):(a++b).data.toList=a.data.toList++b.data.toList:=by simp
theorem qkl(a b c:ByteArray):(a++b)++c=a++(b++c):=bx (by simp only[qn5,List.append_assoc])
theorem qrw(s:ByteArray)(i j:Nat):(s.extract i j).data.toList=(s.data.toList.drop i).take (j-i):=by
 rw[ByteArray.data_extract,Array.toList_extract,List.extract_eq_take_drop]
theorem qjc(s:ByteArray):s.data.toList.length=s.size:=by rw[Array.length_toList];rfl
theorem qnc(a b:ByteArray):(a++b).extract a.size (a++b).size=b:=bx (by
 rw[qrw,qn5,List.drop_append,List.drop_of_length_le (by rw[qjc];exact Nat.le_refl _),qjc,List.nil_append,Nat.sub_self,List.drop_zero,ByteArray.size_append,List.take_of_length_le (by rw[qjc];omega)])
theorem q34(a b:ByteArray):(a++b).extract 0 a.size=a:=bx (by
 rw[qrw,qn5,List.drop_zero,Nat.sub_zero,List.take_append_of_le_length (by rw[qjc];exact Nat.le_refl _),List.take_of_length_le (by rw[qjc];exact Nat.le_refl _)])
theorem qru(l:List Int)(r:ByteArray)(i:Nat)(x:Int)(m:l[i]? = some x)(q:0≤x∧x≤255):bt (strOfNums l++r) i=x:=by
 have f:=(List.getElem?_eq_some_iff.1 m).1;unfold bt;rw[qn5,strOfNums_data,List.getD_eq_getElem?_getD,List.getElem?_append_left (by simpa using f),List.getElem?_map,m];show ((UInt8.ofNat x.toNat).toNat:Int)=x;rw[UInt8.toNat_ofNat_of_lt' (by show x.toNat<256;omega)];omega
theorem qy8(n w:Nat)(r:ByteArray)(f:n<2 ^ (8*w)):∀i,i≤w→rdN (qx n w++r) i=(n:Int) / 2 ^ (8*(w-i))
 | 0,_=>by
  symm;refine Int.ediv_eq_zero_of_lt (by omega) ?_;exact_mod_cast f
 | i+1,h=>by
  have z:=qy8 n w r f i (by omega);have v:bt (qx n w++r) i=(n:Int) / 2 ^ (8*(w-1-i))%256:=by
   refine qru _ r i _ ?_ (by omega);unfold q88;rw[List.getElem?_map,List.getElem?_range (by omega)];rfl
  show rdN (qx n w++r) i*256+bt (qx n w++r) i=_;rw[z,v];have m:8*(w-i)=8*(w-1-i)+8:=by omega
  have q:w-(i+1)=w-1-i:=by omega
  rw[m,q,Int.pow_add,←Int.ediv_ediv_of_nonneg (Int.le_of_lt (Int.pow_pos (by decide)))];show ((n:Int) / 2 ^ (8*(w-1-i))) / 256*256+((n:Int) / 2 ^ (8*(w-1-i)))%256=_;omega
theorem ql2{n:Int}{w:Nat}(r:ByteArray)(f:0≤n)(m:n<2 ^ (8*w)):rdN (qx n.toNat w++r) w=n:=by
 have i:n.toNat<2 ^ (8*w):=by
  have:((n.toNat:Nat):Int)<((2 ^ (8*w):Nat):Int):=by
   rw[Int.toNat_of_nonneg f];exact_mod_cast m
  exact_mod_cast this
 rw[qy8 _ _ r i w (Nat.le_refl _),Nat.sub_self];show ((n.toNat:Nat):Int) / 1=n;omega
theorem zbz{h:List Int}(v:h.length=32)(m:qbp h)(r:ByteArray):rdH (strOfNums h++r)=h:=by
 unfold rdH;apply List.ext_getElem?;intro i;by_cases q:i<32
 ·obtain⟨x,f⟩:∃x,h[i]? = some x:=⟨_,List.getElem?_eq_getElem (by omega)⟩;rw[List.getElem?_map,List.getElem?_range q,Option.map_some,f,qru h r i x f (m x (List.mem_of_getElem? f))]
 ·rw[List.getElem?_eq_none (by simp;omega),List.getElem?_eq_none (by omega)]
def Fld.set(x:Fld)(m k:MsgV):MsgV :=
 match x with
 | .ch=> {k with ch:=m.ch}
 | .id=> {k with id:=m.id}
 | .amount=> {k with amount:=m.amount}
 | .hash=> {k with hash:=m.hash}
 | .expiry=> {k with expiry:=m.expiry}
 | .number=> {k with number:=m.number}
theorem qy7{m:MsgV}(h:PutOk m)(x:Fld):(x.put m).size=x.wid:=by
 cases x
 case hash=>show (strOfNums m.hash).size=32;rw[strOfNums_size,h.ok.len]
 all_goals exact qaq _ _
theorem q8x{m:MsgV}(h:PutOk m)(x:Fld)(r:ByteArray)(k:MsgV):x.get (x.put m++r) k=x.set m k:=by
 cases x
 case ch=>show ({k with ch:=rdN (qx m.ch.toNat 4++r) 4} : MsgV)=_;rw[ql2 r h.ok.ch.1 h.ok.ch.2];rfl
 case id=>show ({k with id:=rdN (qx m.id.toNat 8++r) 8} : MsgV)=_;rw[ql2 r h.ok.id.1 h.ok.id.2];rfl
 case amount=>show ({k with amount:=rdN (qx m.amount.toNat 8++r) 8} : MsgV)=_;rw[ql2 r h.ok.amount.1 h.ok.amount.2];rfl
 case hash=>show ({k with hash:=rdH (strOfNums m.hash++r)} : MsgV)=_;rw[zbz h.ok.len h.ok.hash];rfl
 case expiry=>show ({k with expiry:=rdN (qx m.expiry.toNat 4++r) 4} : MsgV)=_;rw[ql2 r h.expiry.1 h.expiry.2];rfl
 case number=>show ({k with number:=rdN (qx m.number.toNat 2++r) 2} : MsgV)=_;rw[ql2 r h.number.1 h.number.2];rfl
def q67(xs:List Fld)(m k:MsgV):MsgV:=xs.foldl (fun k x=>x.set m k) k
def qkn:List Fld→MsgV→ByteArray
 | [],_=>⟨#[]⟩
 | x::xs,m=>x.put m++qkn xs m
theorem qux(m:MsgV):∀(xs:List Fld) (s:ByteArray),qen xs m s=s++qkn xs m
 | [],s=>bx (by rw[qn5];simp[qen,qkn])
 | x::xs,s=>by
  show qen xs m (s++x.put m)=s++(x.put m++qkn xs m);rw[qux m xs,qkl]
theorem qtv{m:MsgV}(h:PutOk m):∀(xs:List Fld) (r:ByteArray) (k:MsgV),qdq xs (qkn xs m++r) k=some (q67 xs m k,r)
 | [],r,k=>by
  have e:(⟨#[]⟩:ByteArray)++r=r:=ByteArray.empty_append;show some (k,(⟨#[]⟩:ByteArray)++r)=_;rw[e];rfl
 | x::xs,r,k=>by
  have e:qkn (x::xs) m++r=x.put m++(qkn xs m++r):=qkl _ _ _;rw[e,qdq,if_neg (by rw[ByteArray.size_append,qy7 h];omega),q8x h];have f:=qnc (x.put m) (qkn xs m++r);rw[qy7 h] at f;rw[f,qtv h xs];rfl
theorem q2p{m:MsgV}{xs:List Fld}(q:fieldsOf m.kind=some xs)(f:qap m=true):q67 xs m (qbh m.kind)=m:=by
 unfold qap at f;rw[q] at f;simp only at f;split at f
 ·cases f
 ·have v:qgj xs m=qbh m.kind:=of_decide_eq_true f;clear f;obtain⟨k,c,i,a,h,e,n⟩:=m;unfold fieldsOf at q
  repeat' (split at q)
  all_goals cases q
  all_goals
   simp only[qgj,List.foldl,Fld.zero,qbh,MsgV.mk.injEq,true_and,and_true] at v;simp only[q67,List.foldl,Fld.set,qbh,MsgV.mk.injEq,true_and,and_true];simp[v]
theorem q8r{m:MsgV}{xs:List Fld}(h:SayOk m)(i:fieldsOf m.kind=some xs):qcq (qia xs m)=(m,0):=by
 have f:qia xs m=qx m.kind.toNat 1++qkn xs m:=qux m xs _;have v:bt (qia xs m) 0=m.kind:=by
  have:=ql2 (w:=1) (qkn xs m) h.kind.1 h.kind.2;rw[←f] at this;have e:rdN (qia xs m) 1=0*256+bt (qia xs m) 0:=rfl;rw[e] at this;omega
 have z:(qia xs m).extract 1 (qia xs m).size=qkn xs m:=by
  have:=qnc (qx m.kind.toNat 1) (qkn xs m);rw[qaq] at this;rw[f];exact this
 have C:(qia xs m).size≠0:=by rw[f,ByteArray.size_append,qaq];omega
 have q:=qtv h.put xs ⟨#[]⟩ (qbh m.kind);rw[show qkn xs m++(⟨#[]⟩:ByteArray)=qkn xs m from ByteArray.append_empty,q2p i h.may] at q;refine qyr (r:=⟨#[]⟩) C (by rw[v];exact i) (by rw[z,v];exact q) rfl h.may
theorem q5g(g r:ByteArray)(f:g.size≤1024):hd (qcw g++r)=g.size:=by
 unfold qcw hd;rw[qkl,qru _ _ 0 ((g.size:Int) / 256) rfl (by omega),qru _ _ 1 ((g.size:Int)%256) rfl (by omega)];omega
theorem q49(g r:ByteArray)(i:0<g.size)(f:g.size≤1024):qh2 (qcw g++r):=by
 have m:=q5g g r f;have q:(qcw g++r).size=2+g.size+r.size:=by rw[ByteArray.size_append,qdy]
 exact⟨by omega,qpz (by omega) (by omega),by omega⟩
theorem zbe(g r:ByteArray)(f:g.size≤1024):frT (qcw g++r)=g:=by
 have i:=q5g g r f;have e:(2+hd (qcw g++r)).toNat=(qcw g).size:=by rw[i,qdy];omega
 unfold frT;rw[e,q34];unfold qcw;have:=qnc (strOfNums [(g.size:Int) / 256,(g.size:Int)%256]) g;rw[strOfNums_size] at this;exact this
theorem zbd(g r:ByteArray)(f:g.size≤1024):frR (qcw g++r)=r:=by
 have i:=q5g g r f;have e:(2+hd (qcw g++r)).toNat=(qcw g).size:=by rw[i,qdy];omega
 unfold frR;rw[e,qnc]
theorem SayOk.dec{m:MsgV}(h:SayOk m)(r:ByteArray):∃t,t.size≤1000∧qcq t=(m,0)∧qh2 (qeb m++r)∧frT (qeb m++r)=t∧frR (qeb m++r)=r:=by
 obtain⟨xs,q,C,v,f⟩:=h.say;have E:=qjt q;have z:=qjl m h.put.ok.len xs (qx m.kind.toNat 1);rw[qaq] at z;have i:(qia xs m).size≤1000:=by
  show (qen xs m (qx m.kind.toNat 1)).size≤_;omega
 rw[C];exact⟨qia xs m,i,q8r h q,q49 _ r v f,zbe _ r f,zbd _ r f⟩
structure LkC(l:Lk)(c:Ch)(t:Int)(wt:Bool)(o r:ByteArray)(n:Nat):Prop where
 c:l.c=c
 ticks:l.ticks=t
 waits:l.waits=wt
 out:l.out=o
 rest:l.rest=r
 dead:l.dead=false
 broken:l.broken=false
 fused:l.j.fused=false
 off:l.j.off=false
 many:0≤l.j.many∧l.j.many≤n
 len:l.j.bs.size≤2000*n
 outn:o.size≤2000*n
section
variable {l:Lk}{c c':Ch}{t:Int}{wt:Bool}{o r:ByteArray}{n m:Nat}
theorem LkC.ok(h:LkC l c t wt o r n)(f:n≤100000000):LkOkW l:=⟨h.dead,h.fused,h.off,⟨h.many.1,by have:=h.many.2;omega⟩,by have:=h.len;omega,by have:=h.outn;rw[h.out];omega⟩
theorem LkC.mono(h:LkC l c t wt o r n)(f:n≤m):LkC l c t wt o r m:=⟨h.c,h.ticks,h.waits,h.out,h.rest,h.dead,h.broken,h.fused,h.off,⟨h.many.1,by have:=h.many.2;omega⟩,by have:=h.len;omega,by have:=h.outn;omega⟩
theorem LkC.outs(h:LkC l c t wt o r n):LkC {l with out:=⟨#[]⟩} c t wt ⟨#[]⟩ r n:=⟨h.c,h.ticks,h.waits,rfl,h.rest,h.dead,h.broken,h.fused,h.off,h.many,h.len,Nat.zero_le _⟩
theorem LkC.comes(h:LkC l c t wt o r n)(s:ByteArray):LkC {l with rest:=l.rest++s} c t wt o (r++s) n:=⟨h.c,h.ticks,h.waits,h.out,by show l.rest++s=_;rw[h.rest],h.dead,h.broken,h.fused,h.off,h.many,h.len,h.outn⟩
theorem LkC.new(c:Ch):LkC (.new c) c 0 false ⟨#[]⟩ ⟨#[]⟩ 0:=⟨rfl,rfl,rfl,rfl,rfl,rfl,rfl,rfl,rfl,⟨Int.le_refl _,Int.le_refl _⟩,Nat.le_refl _,Nat.le_refl _⟩
theorem LkC.acts(h:LkC l c t wt o r n){rec:ByteArray}{m:MsgV}{er:Int}(F:rec.size≤1024)(i:er=0→SayOk m):LkC (l.acts c' rec m er) c' t wt (if er=0 then o++qeb m else o) r (n+1):=by
 unfold Lk.acts;by_cases f:er=0
 ·rw[if_pos f,if_pos f];have H:=(i f).size;have C:=qjk l.j.many.toNat rec;have q:=h.len;have v:=h.outn;have z:=h.many;refine⟨rfl,h.ticks,h.waits,?_,h.rest,h.dead,h.broken,h.fused,h.off,⟨?_,?_⟩,?_,?_⟩
  ·show l.out++qeb m=_;rw[h.out]
  ·show 0≤l.j.many+1;omega
  ·show l.j.many+1≤((n+1:Nat):Int);omega
  ·show (l.j.bs++qpr l.j.many.toNat rec).size≤_;rw[ByteArray.size_append];omega
  ·rw[ByteArray.size_append];omega
 ·rw[if_neg f,if_neg f];have:=h.mono (Nat.le_succ n);exact⟨rfl,this.ticks,this.waits,this.out,this.rest,this.dead,this.broken,this.fused,this.off,this.many,this.len,this.outn⟩
end
structure HearC(c:Ch)(m:MsgV)(c':Ch)(ms:List MsgV):Prop where
 say:SayOk m
 kind:3≤m.kind∧m.kind≤9
 eq:c.hears m=(c',ms,0)
 inv:c.Inv
 last:c.last.length≤900000
 says:∀m∈ms,SayOk m
 few:ms.length≤1000
 xs:c'.xs.length≤1000
def qq9(m:MsgV)(wt:Bool):Bool:=if m.kind=9 then false else wt
section
variable {l L:Lk}{c c':Ch}{t:Int}{wt:Bool}{o r:ByteArray}{n:Nat}{m:MsgV}{ms:List MsgV}{es ES:List EvV}{E:Int}
theorem q3z(h:LkC l c t wt o (qeb m++r) n)(f:HearC c m c' ms)(W:n+ms.length≤1000000)(N:es.length≤10000) :
  ∃C,LkC C c' t (qq9 m wt) (qam ms o) r (n+1+ms.length)∧∀L ES E,Bts C (es++qdv m wt c.xs c'.xs) L ES E→Bts l es L ES E:=by
 obtain⟨i,O,hd,F,v,H⟩:=f.say.dec r
 have q:(qcq i).1=m:=by rw[hd]
 have z:(qcq i).2=0:=by rw[hd]
 rw[←h.rest] at F v H
 have J:({l with rest:=frR l.rest} : Lk).hears es i=(Lk.heard {l with rest:=r,c:=c',j:=l.j.app (zx [qx 6 1,i]),out:=qam ms l.out} m,es++qdv m wt c.xs c'.xs,0):=by
  unfold Lk.hears;rw[if_pos z,q];show Lk.hearD _ es m i (l.c.hears m)=_;rw[h.c,f.eq];show (Lk.hearR _ c' ms m i 0,qlu es m l.waits c.xs c'.xs 0,(0:Int))=_;rw[h.waits];unfold Lk.hearR qlu;rw[if_pos rfl,if_pos rfl,H]
 have K:LkC (Lk.heard {l with rest:=r,c:=c',j:=l.j.app (zx [qx 6 1,i]),out:=qam ms l.out} m) c' t (qq9 m wt) (qam ms o) r (n+1+ms.length):=by
  have I:(zx [qx 6 1,i]).size≤1024:=by
   have R:(⟨#[]⟩:ByteArray).size=0:=rfl;unfold zx zx zx;simp only[ByteArray.size_append,qaq];omega
  have X:=qjk l.j.many.toNat (zx [qx 6 1,i]);have S:=h.len;have U:=h.many;have T:=h.outn;have V:=qg8 ⟨#[]⟩ ms f.says o;refine⟨rfl,h.ticks,?_,?_,rfl,h.dead,h.broken,h.fused,h.off,⟨?_,?_⟩,?_,by omega⟩
  ·show (if m.kind=9 then false else l.waits)=_;rw[h.waits];rfl
  ·show qam ms l.out=_;rw[h.out]
  ·show 0≤l.j.many+1;omega
  ·show l.j.many+1≤((n+1+ms.length:Nat):Int);omega
  ·show (l.j.bs++qpr l.j.many.toNat (zx [qx 6 1,i])).size≤_;rw[ByteArray.size_append];omega
 have M:LHearOk {l with rest:=frR l.rest} es (frT l.rest):=by
  rw[v];have ok:=h.ok (show n≤100000000 by omega);refine⟨⟨ok.dead,ok.fused,ok.off,ok.many,ok.len,ok.out⟩,N,O,fun _=> ?_⟩;rw[q];show (3≤m.kind∧m.kind≤9)∧l.c.Inv∧l.c.last.length≤900000∧(∀P∈(l.c.hears m).2.1,SayOk P)∧(l.c.hears m).2.1.length≤1000∧l.c.xs.length≤1000∧(l.c.hears m).1.xs.length≤1000;rw[h.c,f.eq];exact⟨f.kind,f.inv,f.last,f.says,f.few,by have:=f.inv.few;omega,f.xs⟩
 refine⟨_,K,fun L ES E next=> .step l es F M (by rw[v,J]) L ES E ?_⟩
 rw[v,J]
 exact next
theorem q8f(h:LkC l c t wt o ⟨#[]⟩ n):Bts l es l es 0:=by
 have i:¬qh2 l.rest:=by rw[h.rest];exact fun e=>absurd e.1 (by decide)
 have f:qei l.rest=false:=by rw[h.rest];rfl
 have:=Bts.stop l es i;rw[f] at this;exact this
end
attribute [local go_sem ↓ high] zq qad qag qan
attribute [local go_sem] qbi qch qck qw
theorem qta(x:Int)(w:World):(qym #[(0,.int .u8 x)]).run Tryz.prog w = .ok (.agg (qv (x::List.replicate 31 0)).toArray) w:=run_build w _ _ _ (by kernel_rfl)
def qe8(x:Int):List Int:=x::List.replicate 31 0
def qci(ours cap:Int):SetupV:=⟨9,cap,ours,qe8 3,⟨#[107]⟩,⟨#[108]⟩⟩
def qb8(ours cap:Int):SetupV:=⟨9,cap,IntKind.u64.wrap (cap-ours),qe8 4,⟨#[108]⟩,⟨#[107]⟩⟩
theorem qu5{ours cap:Int}(f:0≤ours∧ours<18446744073709551616)(i:0≤cap∧cap<18446744073709551616):(qci ours cap).Ok:=⟨by show (0:Int)≤9∧(9:Int)<4294967296;decide,i,f,rfl⟩
theorem qu6{ours cap:Int}(f:0≤cap∧cap<18446744073709551616):(qb8 ours cap).Ok:=⟨by show (0:Int)≤9∧(9:Int)<4294967296;decide,f,qsz _,rfl⟩
def qvz(p:Array (Nat × Value)):Sem Value:=Instr.build 78 p
theorem qrq(p:Array (Nat × Value)):Instr.build 78 p=qvz p:=rfl
theorem q3r(ours cap:Int)(w:World):(qvz #[(0,.int .u32 9),(1,.int .u64 cap),(2,.int .u64 ours),(3,.agg (qv (qe8 3)).toArray),(4,.string ⟨#[107]⟩),(5,.string ⟨#[108]⟩)]).run Tryz.prog w = .ok (.agg (qci ours cap).cells.toArray) w:=run_build w _ _ _ (by kernel_rfl)
theorem q3s(o cap:Int)(w:World):(qvz #[(0,.int .u32 9),(1,.int .u64 cap),(2,.int .u64 o),(3,.agg (qv (qe8 4)).toArray),(4,.string ⟨#[108]⟩),(5,.string ⟨#[107]⟩)]).run Tryz.prog w = .ok (.agg (SetupV.cells ⟨9,cap,o,qe8 4,⟨#[108]⟩,⟨#[107]⟩⟩).toArray) w:=run_build w _ _ _ (by kernel_rfl)
def q3p(p:Array (Nat × Value)):Sem Value:=Instr.build 97 p
theorem qrr(p:Array (Nat × Value)):Instr.build 97 p=q3p p:=rfl
def qer(a b:SetupV):List Value:=a.cells++b.cells
theorem Tryz.infoSt2T:(Tryz.prog.info? 97).map (·.size)=some 74:=by kernel_rfl
def q7d(x v:Value):Sem Unit:=Instr.storeAt 97 x v
theorem qfj(x v:Value):Instr.storeAt 97 x v=q7d x v:=rfl
theorem qnt(b o:Nat)(A:Array Value)(w:World):(q7d (.pointer (some ⟨b,o,none⟩)) (.agg A)).run Tryz.prog w=if stOk w b o 74 A=true then .ok () (w.setCells b o A.toList) else qed Tryz.prog 97 w b o A :=
 qau 97 74 Tryz.infoSt2T b o A w
def qhd:List Value:=ql7++ql7
def q3g:Sem Value:=Instr.alloc 97 true (.tuple #[])
theorem qfc:Instr.alloc 97 true (.tuple #[])=q3g:=rfl
theorem qnb(w:World):q3g.run Tryz.prog w = .ok (.pointer (some ⟨w.heap.size,0,none⟩)) (w.alloc (.cells qhd.toArray 97)):=by kernel_rfl
theorem q8a(m f q i:Int)(w:World):(q3p #[(0,.agg (qci m f).cells.toArray),(1,.agg (SetupV.cells ⟨9,i,q,qe8 4,⟨#[108]⟩,⟨#[107]⟩⟩).toArray)]).run Tryz.prog w = .ok (.agg (qer (qci m f) ⟨9,i,q,qe8 4,⟨#[108]⟩,⟨#[107]⟩⟩).toArray) w:=run_build w _ _ _ (by kernel_rfl)
theorem SetupV.oneT(s:SetupV):∀v∈s.cells,v.oneCell'=true:=by
 intro v f;simp only[SetupV.cells,List.mem_cons,List.mem_append,List.mem_map,List.not_mem_nil,or_false] at f;rcases f with rfl | rfl | rfl | ⟨n,_,rfl⟩ | rfl | rfl<;>rfl
structure St2T(w:World)(b:Nat)(s t:SetupV):Prop where
 at_:w.heap[b]? = some (.cells (qer s t).toArray 97 (0,0))
 l1:s.seed.length=32
 l2:t.seed.length=32
theorem qhz{s t:SetupV}(f:s.seed.length=32)(i:t.seed.length=32):(qer s t).length=74:=by unfold qer;rw[List.length_append,s.len f,t.len i]
theorem St2T.upd{S:Nat→Prop}{w w':World}{b:Nat}{s t:SetupV}(a:St2T w b s t)(u:Upd S w w')(n:¬S b):St2T w' b s t:=⟨u.old a.at_ n,a.l1,a.l2⟩
theorem St2T.new{w w':World}{b:Nat}{s t:SetupV}(a:St2T w b s t)(u:qq w w'):St2T w' b s t:=a.upd u (fun h=>h)
theorem St2T.row0{w:World}{b:Nat}{s t:SetupV}(a:St2T w b s t):zg w b 0 37=some s.cells.toArray:=by
 rw[qbt a.at_ 0 37 (by rw[List.size_toArray,qhz a.l1 a.l2];omega)];congr 1;apply Array.ext';rw[Array.toList_extract];show List.extract (s.cells++t.cells) 0 37=s.cells;rw[List.extract_eq_take_drop,List.drop_zero,List.take_append_of_le_length (by rw[s.len a.l1];exact Nat.le_refl _),List.take_of_length_le (by rw[s.len a.l1];exact Nat.le_refl _)]
theorem St2T.row1{w:World}{b:Nat}{s t:SetupV}(a:St2T w b s t):zg w b 37 37=some t.cells.toArray:=by
 rw[qbt a.at_ 37 37 (by rw[List.size_toArray,qhz a.l1 a.l2];omega)];congr 1;apply Array.ext';rw[Array.toList_extract];show List.extract (s.cells++t.cells) 37 74=t.cells;rw[List.extract_eq_take_drop,qkq (s.len a.l1),List.take_of_length_le (by rw[t.len a.l2];exact Nat.le_refl _)]
theorem qkg{w:World}{b:Nat}(h:w.heap[b]? = some (.cells qhd.toArray 97 (0,0))){s t:SetupV}(f:s.seed.length=32)(i:t.seed.length=32) :
  stOk w b 0 74 (qer s t).toArray=true∧St2T (w.setCells b 0 (qer s t)) b s t:=by
 have m:=qhz f i
 refine⟨qee (C:=qhd.toArray) h (by rw[m];rfl) (fun v q=>(List.mem_append.1 q).elim (s.oneT v) (t.oneT v)),⟨?_,f,i⟩⟩
 rw[qa8 h 0 _]
 exact congrArg (fun z=>some (Obj.cells z 97 (0,0))) (qcu qhd.toArray (qer s t) (by rw[m];rfl))
attribute [local go_sem ↓ high] qrq qrr qfj qfc
attribute [local go_sem] q8a qnt qnb q3r q3s
set_option maxRecDepth 100000 in
set_option maxHeartbeats 1000000 in
theorem qmw(ours cap:Int)(w:World):Calls Tryz.prog 42 #[.int .u64 ours,.int .u64 cap] w (qa5 (.agg (qer (qci ours cap) (qb8 ours cap)).toArray) w):=by
 go_enter Tryz.func42,Tryz.ntmps42;go_upto_region 1 with fail;have v:=qj w (.cells qhd.toArray 97);have C:qq w (w.alloc (.cells qhd.toArray 97)):=(Upd.refl _ _).alloc _;generalize w.alloc (.cells qhd.toArray 97)=w1 at v C ⊢;obtain⟨B,q⟩:∃B,B=w.heap.size:=⟨_,rfl⟩;rw[←q] at v ⊢;have M:w.heap.size≤B:=by omega
 clear q;obtain⟨z,m⟩:=qkg v (s:=qci ours cap) (t:=qb8 ours cap) rfl rfl;have f:qb8 ours cap=⟨9,cap,IntKind.u64.wrap (cap-ours),qe8 4,⟨#[108]⟩,⟨#[107]⟩⟩:=rfl;have K:=fun W=>qta 3 W
 have L:=fun W=>qta 4 W
 have H:(3:Int)::List.replicate 31 0=qe8 3:=rfl;have I:(4:Int)::List.replicate 31 0=qe8 4:=rfl;rw[H] at K;rw[I] at L;have E:=qb m;have F:=qb (C.then (zj (w:=w1) (b:=B) (qer (qci ours cap) (qb8 ours cap))) (fun i N e=>by omega));clear m v C H I;rw[f] at z E F;have J:=qb f;clear f;go_wp2_with fail;have m:=qa E;rw[qa J];exact bodyPost_ret (results_cell_row rfl _ _ B _ _ _ _ rfl m.at_ Tryz.underlying97 rfl (by rw[List.size_toArray,qhz m.l1 m.l2];exact Tryz.infoSt2T)) rfl ⟨rfl,qa F⟩
end Go.Proofs.YtfmkdoachjgjbaaGreatDoor
namespace Go.Proofs.YtfmkdoachjgjbaaGreatDoor
open Go.RowKit
theorem q2m{ours cap:Int}(h:1≤cap∧cap≤1125899906842624∧ours≤cap):(qci ours cap).may:=⟨h.1,h.2.1,h.2.2,by show 1≤64;decide,by show 1≤64;decide⟩
theorem q2n{ours cap:Int}(f:0≤ours)(h:1≤cap∧cap≤1125899906842624∧ours≤cap):(qb8 ours cap).may:=by
 refine⟨h.1,h.2.1,?_,by show 1≤64;decide,by show 1≤64;decide⟩;show IntKind.u64.wrap (cap-ours)≤cap;rw[qgi (by omega) (by omega)];omega
def qqt(x y:Value):List Value:=[x,y,.string ⟨#[]⟩,.string ⟨#[]⟩,.bool false]
structure Lt(w0 w:World)(p g:Nat)(S:Nat→Prop)(L:Lk):Prop where
 cell:w.cell? ⟨p,0,none⟩=some (.pointer (some ⟨g,0,none⟩))
 lk:LkS w g S L
 ge:∀i,S i→w0.heap.size≤i
 pge:w0.heap.size≤p
 pS:¬S p
 plt:p<w.heap.size
 new:qq w0 w
theorem Lt.op{w0 w w':World}{p g:Nat}{S:Nat→Prop}{L f:Lk}(h:Lt w0 w p g S L)(u:Upd S w w')(q:LkS w' g (Fr S w w') f):Lt w0 w' p g (Fr S w w') f:=by
 have z:=h.new.size;have v:=h.plt;exact⟨u.cell h.cell h.pS,q,fun i m=>m.elim (h.ge i) (fun e=>by omega),h.pge,fun e=>e.elim h.pS (fun e=>by omega),Nat.lt_of_lt_of_le v u.size,h.new.then u (fun i m e=>by have:=h.ge i e;omega)⟩
theorem Lt.nw{w0 w w':World}{p g:Nat}{S:Nat→Prop}{L:Lk}(h:Lt w0 w p g S L)(u:qq w w'):Lt w0 w' p g S L :=
 ⟨u.cell h.cell (fun h=>h),h.lk.new u,h.ge,h.pge,h.pS,Nat.lt_of_lt_of_le h.plt u.size,h.new.trans u⟩
attribute [local go_sem ↓ high] qfj qfc qb4
attribute [local go_sem] qw qnt qnb qd8
end Go.Proofs.YtfmkdoachjgjbaaGreatDoor
namespace Go.Proofs.YtfmkdoachjgjbaaGreatDoor
open Go.RowKit
def qbk{α:Type}(f:Nat→α)(k:Nat)(x:α):Nat→α:=fun i=>if i=k then x else f i
theorem qbv{α:Type}(f:Nat→α)(k:Nat)(x:α):qbk f k x k=x:=if_pos rfl
theorem qc1{α:Type}(f:Nat→α){k i:Nat}(x:α)(h:i≠k):qbk f k x i=f i:=if_neg h
structure Pw where
 l:Nat→Lk
 es:Nat→List EvV
 way:Nat→ByteArray
 bad:Bool
def qsm(g:Nat→Nat)(P:Pw):List Value:=[.pointer (some ⟨g 0,0,none⟩),.pointer (some ⟨g 1,0,none⟩),.string (P.way 0),.string (P.way 1),.bool P.bad]
structure PwS(K:Nat→Obj→Prop)(w0 w:World)(p:Nat)(g:Nat→Nat)(S:Nat→Nat→Prop)(P:Pw):Prop where
 at_:w.heap[p]? = some (.cells (qsm g P).toArray 32 (0,0))
 lk:∀k,k<2→LkV w (g k) (S k) (P.l k) (P.es k)
 sep:∀i,S 0 i→¬S 1 i
 ge:∀k,k<2→∀i,S k i→w0.heap.size≤i
 pge:w0.heap.size≤p
 pS:∀k,k<2→¬S k p
 new:qq w0 w
 keep:∀B o,K B o→w.heap[B]? = some o∧B≠p∧∀k,k<2→¬S k B
def PwD(K:Nat→Obj→Prop)(w0 w:World)(p:Nat)(P:Pw):Prop:=∃g S,PwS K w0 w p g S P
theorem q8b{w:World}{B:Nat}{o:Obj}(h:w.heap[B]? = some o):B<w.heap.size:=by
 by_cases e:B<w.heap.size
 ·exact e
 ·rw[Array.getElem?_eq_none (by omega)] at h;cases h
section
variable {K:Nat→Obj→Prop}{w0 w w':World}{p:Nat}{g:Nat→Nat}{S:Nat→Nat→Prop}{P:Pw}{k:Nat}
theorem PwS.cl(h:PwS K w0 w p g S P)(f:k<2):w.cell? ⟨p,k,none⟩=some (.pointer (some ⟨g k,0,none⟩)):=by
 rcases (by omega:k=0∨k=1) with rfl | rfl
 ·exact qg h.at_ 0
 ·exact qg h.at_ 1
theorem PwS.cw(h:PwS K w0 w p g S P)(f:k<2):w.cell? ⟨p,2+k,none⟩=some (.string (P.way k))∧w.frozen? ⟨p,2+k,none⟩=false:=by
 rcases (by omega:k=0∨k=1) with rfl | rfl
 ·exact⟨qg h.at_ 2,qu h.at_ 2⟩
 ·exact⟨qg h.at_ 3,qu h.at_ 3⟩
theorem PwS.cb(h:PwS K w0 w p g S P):w.cell? ⟨p,4,none⟩=some (.bool P.bad)∧w.frozen? ⟨p,4,none⟩=false:=⟨qg h.at_ 4,qu h.at_ 4⟩
theorem PwS.nw(h:PwS K w0 w p g S P)(n:qq w w'):PwS K w0 w' p g S P :=
 ⟨n.old h.at_ (fun h=>h),fun k f=>(h.lk k f).new n,h.sep,h.ge,h.pge,h.pS,h.new.trans n,fun B o e=>⟨n.old (h.keep B o e).1 (fun h=>h),(h.keep B o e).2⟩⟩
theorem PwS.apart(h:PwS K w0 w p g S P)(z:k<2){j:Nat}(v:j<2)(q:j≠k):∀i,S j i→¬S k i:=by
 rcases (by omega:k=0∨k=1) with rfl | rfl
 ·obtain rfl:j=1:=by omega
  exact fun i m f=>h.sep i f m
 ·obtain rfl:j=0:=by omega
  exact fun i f m=>h.sep i f m
theorem PwS.op(h:PwS K w0 w p g S P)(m:k<2)(u:Upd (S k) w w'){L:Lk}{z:List EvV}(J:LkV w' (g k) (Fr (S k) w w') L z) :
  PwS K w0 w' p g (qbk S k (Fr (S k) w w')) {P with l:=qbk P.l k L,es:=qbk P.es k z} := by
 have R:=h.new.size
 have v:∀j,j<2→∀i,S j i→i<w.heap.size:=fun j f=>(h.lk j f).lt
 have M:=zr h.at_
 have q:∀j i,qbk S k (Fr (S k) w w') j i→(j≠k∧S j i)∨(j=k∧Fr (S k) w w' i):=by
  intro j i e;by_cases f:j=k
  ·subst f;rw[qbv] at e;exact .inr ⟨rfl,e⟩
  ·rw[qc1 _ _ f] at e;exact .inl ⟨f,e⟩
 refine⟨u.old h.at_ (h.pS k m),?_,?_,?_,h.pge,?_,h.new.then u (fun i O e=>by have:=h.ge k m i e;omega),fun B o e=>⟨u.old (h.keep B o e).1 ((h.keep B o e).2.2 k m),(h.keep B o e).2.1,fun j f H=>by
  have N:=q8b (h.keep B o e).1;rcases q j B H with ⟨-,a⟩ | ⟨-,a⟩
  ·exact(h.keep B o e).2.2 j f a
  ·exact a.elim ((h.keep B o e).2.2 k m) (fun a=>by omega)⟩⟩
 ·intro j f;by_cases e:j=k
  ·subst e;show LkV w' (g j) (qbk S j _ j) (qbk P.l j L j) (qbk P.es j z j);rw[qbv,qbv,qbv];exact J
  ·show LkV w' (g j) (qbk S k _ j) (qbk P.l k L j) (qbk P.es k z j);rw[qc1 _ _ e,qc1 _ _ e,qc1 _ _ e];exact(h.lk j f).upd u (h.apart m f e)
 ·intro i I E;rcases q 0 i I with ⟨F,a⟩ | ⟨F,a⟩
  ·rcases q 1 i E with ⟨C,b⟩ | ⟨C,b⟩
   ·exact h.sep i a b
   ·subst C;exact b.elim (fun b=>h.sep i a b) (fun b=>by have:=v 0 (by decide) i a;omega)
  ·subst F;rcases q 1 i E with ⟨C,b⟩ | ⟨C,b⟩
   ·exact a.elim (fun a=>h.sep i a b) (fun a=>by have:=v 1 (by decide) i b;omega)
   ·omega
 ·intro j f i e;rcases q j i e with ⟨-,a⟩ | ⟨-,a⟩
  ·exact h.ge j f i a
  ·exact a.elim (h.ge k m i) (fun a=>by omega)
 ·intro j f e;rcases q j p e with ⟨-,a⟩ | ⟨-,a⟩
  ·exact h.pS j f a
  ·exact a.elim (h.pS k m) (fun a=>by omega)
theorem PwS.put(h:PwS K w0 w p g S P){i:Nat}{v:Value}{f:Pw}(C:(qsm g P).toArray.setIfInBounds i v=(qsm g f).toArray)(E:f.l=P.l)(F:f.es=P.es):PwS K w0 (w.setCell ⟨p,i,none⟩ v) p g S f:=by
 have u:Upd (· = p) w (w.setCell ⟨p,i,none⟩ v):=(Upd.refl _ _).set1 _ _;refine⟨?_,fun k q=> ?_,h.sep,h.ge,h.pge,h.pS,h.new.then u (fun j m e=>by have e:j=p:=e;have:=h.pge;omega),fun B o e=>⟨u.old (h.keep B o e).1 (fun z=>(h.keep B o e).2.1 z),(h.keep B o e).2⟩⟩
 ·have:=zv h.at_ i v;rw[C] at this;exact this
 ·rw[E,F];exact(h.lk k q).upd u (fun j m e=>by have e:j=p:=e;rw[e] at m;exact h.pS k q m)
theorem PwS.putWay(h:PwS K w0 w p g S P)(f:k<2)(s:ByteArray):PwS K w0 (w.setCell ⟨p,2+k,none⟩ (.string s)) p g S {P with way:=qbk P.way k s} := by
 rcases (by omega:k=0∨k=1) with rfl | rfl
 ·exact h.put rfl rfl rfl
 ·exact h.put rfl rfl rfl
theorem PwS.putBad(h:PwS K w0 w p g S P)(b:Bool):PwS K w0 (w.setCell ⟨p,4,none⟩ (.bool b)) p g S {P with bad:=b} := h.put rfl rfl rfl
theorem PwS.tb(h:PwS K w0 w p g S P)(f:Tb w0):Tb w:=f.new h.new
theorem PwS.ap(h:PwS K w0 w p g S P)(i:Tb w0)(f:k<2):Apart (S k):=by
 obtain⟨a,b,c,d,e⟩:=i.lt;exact⟨fun x=>by have:=h.ge k f _ x;omega,fun x=>by have:=h.ge k f _ x;omega,fun x=>by have:=h.ge k f _ x;omega,fun x=>by have:=h.ge k f _ x;omega,fun x=>by have:=h.ge k f _ x;omega⟩
end
def Pw.flow1(P:Pw)(k:Nat):Pw:= {P with l:=qbk P.l k {P.l k with out:=⟨#[]⟩},es:=qbk P.es k (P.es k),way:=qbk P.way (1-k) (P.way (1-k)++(P.l k).out)}
def Pw.flow(P:Pw):Pw:=(P.flow1 0).flow1 1
set_option maxRecDepth 100000 in
set_option maxHeartbeats 2000000 in
theorem qgs(K:Nat→Obj→Prop)(w0 w:World)(p:Nat)(P:Pw)(h:PwD K w0 w p P)(hd:∀k,k<2→(P.l k).dead=false)(Y:∀k,k<2→(P.way k).size≤1000000000∧(P.l k).out.size≤1000000000) :
  Calls Tryz.prog 14 #[.pointer (some ⟨p,0,none⟩)] w fun e w'=>e = .returned (.tuple #[])∧PwD K w0 w' p P.flow:=by
 have U:=qb h
 have z:=qb (And.intro hd Y)
 clear h hd Y
 go_enter Tryz.func14,Tryz.ntmps14
 go_wp2_with fail
 go_loopw [2] (fun T wr=>∃i:Nat,T = .int .i64 (i:Int)∧i≤2∧Hid (PwD K w0 wr p (if i=0 then P else if i=1 then P.flow1 0 else P.flow))) (fun T _=>2-(intOf T).toNat)
 case atStart=>exact⟨0,rfl,by omega,U⟩
 case round =>
  obtain⟨i,rfl,hi,hrel⟩:=hrel;obtain⟨f,rfl⟩:∃f:World,f=wr:=⟨_,rfl⟩;clear U;rcases (by omega:i=0∨i=1∨i=2) with rfl | rfl | rfl
  ·obtain⟨g,S,h⟩:PwD K w0 f p P:=qa hrel;have cl:=h.cl (k:=0) (by decide);have F:=(h.cw (k:=1) (by decide)).1;have L:=zcb (g 0) (S 0) (P.l 0) (P.es 0) f.drew (h.lk 0 (by decide) |>.new (Upd.drew (Upd.refl _ _))) ((qa z).1 0 (by decide));have I:f.drew.cell? ⟨p,0,none⟩=some (.pointer (some ⟨g 0,0,none⟩))∧f.drew.cell? ⟨p,3,none⟩=some (.string (P.way 1)):=⟨cl,F⟩;have R:(P.way 1).size+(P.l 0).out.size≤9223372036854775807:=by have:=(qa z).2 1 (by decide);have:=(qa z).2 0 (by decide);omega
   have N:=qb h;clear h cl F hrel;go_upto_region 3 with fail;refine qa2 (fun w'=>w'.cell? ⟨p,0,none⟩=some (.pointer (some ⟨g 0,0,none⟩))∧w'.cell? ⟨p,3,none⟩=some (.string (P.way 1))) [9,15] (.of [0,1,2,3,4,5,6,7,8,9,10,11,12,13,14,15,16,17,18,19,20,21]) (by kernel_rfl) (by kernel_rfl) I ?_;simp only[Plan.of];go_wp2_with (with_reducible first|(first|refine' zy (qh ?_) ?_|refine' zz (qh ?_) ?_|refine' qw3 (qh ?_) ?_);rotate_left|refine' qw4 (qh ?_)|refine' qw5 (qh ?_)|rfl|apply qn);refine L.mono ?_;rintro e w1 ⟨rfl,J,u⟩;have m:=((qa N).nw (Upd.drew (Upd.refl _ _))).op (by decide) u J;have O:w1.cell? ⟨p,0,none⟩=some (.pointer (some ⟨g 0,0,none⟩)):=m.cl (k:=0) (by decide);obtain⟨q,H⟩:=m.cw (k:=1) (by decide);have q:w1.cell? ⟨p,3,none⟩=some (.string (P.way 1)):=q;have H:w1.frozen? ⟨p,3,none⟩=false:=H;have E:PwS K w0 (w1.setCell ⟨p,3,none⟩ (.string (P.way 1++(P.l 0).out))) p g (qbk S 0 (Fr (S 0) f.drew w1)) (P.flow1 0):=m.putWay (k:=1) (by decide) _;have M:=qb E;have v:=And.intro O q;clear L m E J u I;go_wp2_with (first | (with_reducible first|(first|refine' zy (qh ?_) ?_|refine' zz (qh ?_) ?_|refine' qw3 (qh ?_) ?_);rotate_left|refine' qw4 (qh ?_)|refine' qw5 (qh ?_)|rfl|apply qn) | refine⟨v,?_⟩ | refine⟨trivial,?_⟩);go_roundw
   case rel=>exact⟨1,rfl,by omega,qb ⟨g,_,qa M⟩⟩
   case measure=>decide
  ·obtain⟨g,S,h⟩:PwD K w0 f p (P.flow1 0):=qa hrel;have cl:=h.cl (k:=1) (by decide);have F:=(h.cw (k:=0) (by decide)).1;have W:(P.flow1 0).l 1=P.l 1:=rfl;have V:(P.flow1 0).way 0=P.way 0:=rfl;have L:=zcb (g 1) (S 1) ((P.flow1 0).l 1) ((P.flow1 0).es 1) f.drew (h.lk 1 (by decide) |>.new (Upd.drew (Upd.refl _ _))) ((qa z).1 1 (by decide));have R:((P.flow1 0).way 0).size+((P.flow1 0).l 1).out.size≤9223372036854775807:=by rw[W,V];have:=(qa z).2 1 (by decide);have:=(qa z).2 0 (by decide);omega
   clear V W;have X:(P.flow1 0).flow1 1=P.flow:=rfl;have Z:=qb X;clear X;generalize P.flow1 0=C at *
   have I:f.drew.cell? ⟨p,1,none⟩=some (.pointer (some ⟨g 1,0,none⟩))∧f.drew.cell? ⟨p,2,none⟩=some (.string (C.way 0)):=⟨cl,F⟩;have N:=qb h;clear h cl F hrel;go_upto_region 3 with fail;refine qa2 (fun w'=>w'.cell? ⟨p,1,none⟩=some (.pointer (some ⟨g 1,0,none⟩))∧w'.cell? ⟨p,2,none⟩=some (.string (C.way 0))) [9,15] (.of [0,1,2,3,4,5,6,7,8,9,10,11,12,13,14,15,16,17,18,19,20,21]) (by kernel_rfl) (by kernel_rfl) I ?_;simp only[Plan.of];go_wp2_with (with_reducible first|(first|refine' zy (qh ?_) ?_|refine' zz (qh ?_) ?_|refine' qw3 (qh ?_) ?_);rotate_left|refine' qw4 (qh ?_)|refine' qw5 (qh ?_)|rfl|apply qn);refine L.mono ?_;rintro e w1 ⟨rfl,J,u⟩;have m:=((qa N).nw (Upd.drew (Upd.refl _ _))).op (by decide) u J;have O:w1.cell? ⟨p,1,none⟩=some (.pointer (some ⟨g 1,0,none⟩)):=m.cl (k:=1) (by decide);obtain⟨q,H⟩:=m.cw (k:=0) (by decide);have q:w1.cell? ⟨p,2,none⟩=some (.string (C.way 0)):=q;have H:w1.frozen? ⟨p,2,none⟩=false:=H;have E:PwS K w0 (w1.setCell ⟨p,2,none⟩ (.string (C.way 0++(C.l 1).out))) p g (qbk S 1 (Fr (S 1) f.drew w1)) (C.flow1 1):=m.putWay (k:=0) (by decide) _;rw[qa Z] at E;have M:=qb E;have v:=And.intro O q;clear L m E J u I;go_wp2_with (first | (with_reducible first|(first|refine' zy (qh ?_) ?_|refine' zz (qh ?_) ?_|refine' qw3 (qh ?_) ?_);rotate_left|refine' qw4 (qh ?_)|refine' qw5 (qh ?_)|rfl|apply qn) | refine⟨v,?_⟩ | refine⟨trivial,?_⟩);go_roundw
   case rel=>exact⟨2,rfl,by omega,qb ⟨g,_,qa M⟩⟩
   case measure=>decide
  ·go_wp2_with fail;go_end0;exact⟨rfl,qa hrel⟩
end Go.Proofs.YtfmkdoachjgjbaaGreatDoor
