/-
  What a link can bear behind what it says; messages that may be.
-/
import Derived.Test.YtfmkdoachjgjbaaGreatDoorMcg
import Derived.Test.YtfmkdoachjgjbaaGreatDoorMci
import Derived.Test.YtfmkdoachjgjbaaGreatDoorMbc
import Derived.Test.YtfmkdoachjgjbaaGreatDoorMcd
set_option maxRecDepth 100000
set_option maxHeartbeats 2000000
set_option linter.unusedVariables false
set_option linter.unusedSimpArgs false
namespace Go.Proofs.YtfmkdoachjgjbaaGreatDoor
section
open Go.RowKit
theorem q4p{c i a e:Int}(h:List Int)(m:a≤1125899906842624)(o:0≤e∧e≤1073741824):qap ⟨3,c,i,a,h,e,0⟩=true:=by
 unfold qap;show (if e<0∨1073741824<e∨(0:Int)<0∨65535<(0:Int)∨1125899906842624<a then false else decide (qib _ _=qbn 3))=true;rw[if_neg (by omega)];kernel_rfl
theorem qkm(c:Int):qap ⟨8,c,0,0,zm,0,0⟩=true:=by kernel_rfl
theorem q0k(c:Int)(T:List Int){n:Int}(i:0≤n∧n≤65535):qap ⟨6,c,0,0,T,0,n⟩=true:=by
 unfold qap;show (if (0:Int)<0∨1073741824<(0:Int)∨n<0∨65535<n∨1125899906842624<(0:Int) then false else decide (qib _ _=qbn 6))=true;rw[if_neg (by omega)];kernel_rfl
theorem qoe{k c i a e n:Int}{h:List Int}(w:0≤k∧k<256)(q:0≤c∧c<4294967296)(v:0≤i∧i<18446744073709551616)(m:0≤a∧a≤1125899906842624)(x:h.length=32)(o:∀b∈h,0≤b∧b≤255)(t:0≤e∧e≤1073741824)(z:0≤n∧n≤65535)(y:qap ⟨k,c,i,a,h,e,n⟩=true):SayOk ⟨k,c,i,a,h,e,n⟩:=by
 refine⟨⟨⟨?_,q,v,⟨m.1,?_⟩,x,o,?_,?_⟩,⟨t.1,?_⟩,⟨z.1,?_⟩⟩,y,w⟩
 ·show -9223372036854775808≤k∧k≤9223372036854775807;omega
 ·show a<18446744073709551616;omega
 ·show -9223372036854775808≤e∧e≤9223372036854775807;omega
 ·show -9223372036854775808≤n∧n≤9223372036854775807;omega
 ·show e<4294967296;omega
 ·show n<65536;omega
theorem qwz(c:Ch)(n:Int)(h:Vector Int 32)(x:Int):(c.offer n h x).2.1.hash.length=32:=by
 unfold Ch.offer;split
 ·show h.toList.length=32;simp
 ·exact qu
theorem q0x{c:Ch}{n x:Int}{h:List Int}(t:h.length=32)(y:qbt h)(m:0≤c.s.ch∧c.s.ch<4294967296)(q:0≤c.k.nextOwn∧c.k.nextOwn<18446744073709551616)(v:0≤n∧n≤1125899906842624)(w:0≤x∧x≤1073741824)(i:(c.offer n (qbq h) x).2.2=0):SayOk (c.offer n (qbq h) x).2.1:=by
 unfold Ch.offer at i ⊢;split at i
 ·rename_i o;rw[if_pos o];have e:((qd1 c n (qbq h) x).on c.s.ch:MsgV)=⟨3,c.s.ch,c.k.nextOwn,n,h,x,0⟩:=by
   unfold qd1 MsgV.on;rw[qf8 t]
  show SayOk ((qd1 c n (qbq h) x).on c.s.ch);rw[e];exact qoe (by decide) m q v t y w (by decide) (q4p h v.2 w)
 ·rename_i o;exact absurd i o
theorem q0w(c:Ch)(n:Int)(h:Vector Int 32)(x:Int):(c.offer n h x).2.2=qbf c n x:=by
 unfold Ch.offer;split
 ·rename_i i;exact i.symm
 ·rfl
theorem qqn(c:Ch):c.shut.2.1.hash.length=32:=by
 unfold Ch.shut;split<;>exact qu
theorem qj2{c:Ch}(o:0≤c.s.ch∧c.s.ch<4294967296)(m:c.shut.2.2=0):SayOk c.shut.2.1:=by
 unfold Ch.shut at m ⊢;split at m
 ·cases m
 ·rename_i q;rw[if_neg q];exact qoe (k:=8) (i:=0) (a:=0) (e:=0) (n:=0) (by decide) o (by decide) (by decide) qu qfg (by decide) (by decide) (qkm _)
structure LkB(l:Lk)(n:Nat):Prop where
 dead:l.dead=false
 waits:l.waits=false
 fused:l.j.fused=false
 off:l.j.off=false
 many:0≤l.j.many∧l.j.many≤n
 len:l.j.bs.size≤2000*n
 out:l.out.size≤2000*n
theorem LkB.ok{l:Lk}{n:Nat}(h:LkB l n)(i:n≤100000000):LkOk l:=⟨h.dead,h.waits,h.fused,h.off,⟨h.many.1,by have:=h.many.2;omega⟩,by have:=h.len;omega,by have:=h.out;omega⟩
theorem LkB.mono{l:Lk}{n m:Nat}(h:LkB l n)(i:n≤m):LkB l m:=⟨h.dead,h.waits,h.fused,h.off,⟨h.many.1,by have:=h.many.2;omega⟩,by have:=h.len;omega,by have:=h.out;omega⟩
theorem LkB.new(c:Ch):LkB (.new c) 0:=⟨rfl,rfl,rfl,rfl,⟨Int.le_refl _,Int.le_refl _⟩,Nat.le_refl _,Nat.le_refl _⟩
theorem LkB.acts{l:Lk}{n:Nat}(h:LkB l n){c':Ch}{rec:ByteArray}{m:MsgV}{i:Int}(y:rec.size≤1024)(q:i=0→SayOk m):LkB (l.acts c' rec m i) (n+1):=by
 unfold Lk.acts;split
 ·rename_i o;have z:=(q o).size;have x:=qkt l.j.many.toNat rec;have t:=h.len;have v:=h.out;have w:=h.many;refine⟨h.dead,h.waits,h.fused,h.off,⟨?_,?_⟩,?_,?_⟩
  ·show 0≤l.j.many+1;omega
  ·show l.j.many+1≤((n+1:Nat):Int);omega
  ·show (l.j.bs++qsa l.j.many.toNat rec).size≤_;rw[ByteArray.size_append];omega
  ·show (l.out++qkw m).size≤_;rw[ByteArray.size_append];omega
 ·have:=h.mono (Nat.le_succ n);exact⟨this.dead,this.waits,this.fused,this.off,this.many,this.len,this.out⟩
theorem LkB.shut{l:Lk}{n:Nat}(h:LkB l n)(i:l.c.shut.2.2=0→SayOk l.c.shut.2.1):LkB l.shut (n+1):=h.acts (by rw[qaq];decide) i
theorem qmv{l:Lk}{c':Ch}{rec:ByteArray}{m:MsgV}{i:Int} : (l.acts c' rec m i).c=c':=by
 unfold Lk.acts;split<;>rfl
theorem zab(l:Lk):l.shut.c=l.c.shut.1:=qmv
theorem NewL.whole{w:World}{B g:Nat}{s:SetupV}{l:LinkV}(h:NewL w B g s l)(E:s.Ok)(D:s.may):LkS w g (fun i=>i=g∨i=l.sp∨i=l.en∨i=l.lo) (.new (Ch.new s)):=by
 have z:=q61 h.ch E D;have C:=JoS.fresh h.jo;have m:LkR w g ((Lk.new (Ch.new s)).v l.sp l.en l.lo):=by
  have:=h.lk;rw[h.isNew] at this;exact this
 have H:=h.ne;refine⟨l.sp,l.en,l.lo,_,_,⟨m,h.sp,z,C,.inl rfl,.inr (.inl rfl),fun k e=> .inr (.inr (.inl e)),fun k e=> .inr (.inr (.inr e)),?_,?_,?_,?_,?_,?_⟩⟩
 ·show ¬g=l.en;omega
 ·show ¬g=l.lo;omega
 ·show ¬l.sp=l.en;omega
 ·show ¬l.sp=l.lo;omega
 ·intro k e o;have e:k=l.en:=e;have o:k=l.lo:=o;omega
 ·have q:=zi h.lk;have t:=zi h.sp;have x:=zi h.ch.at_;have y:=zi h.jo;rintro k (e | e | e | e)<;>rw[e]
  ·exact q
  ·exact t
  ·exact x
  ·exact y
theorem qzb(g:Nat)(v:Value)(a:Option Addr)(k:Nat)(w:World):Calls Tryz.prog 146 #[.pointer (some ⟨g,0,none⟩),v,.slice a 0 k] w (qae (.tuple #[]) w):=by
 go_enter Tryz.func146,Tryz.ntmps146;go_wp2_with fail
 go_loopw [11] (fun i wr=>i = .int .i64 0∧wr=w) (fun _ _=>0)
 case atStart=>exact⟨rfl,rfl⟩
 case round =>
  obtain⟨rfl,rfl⟩:=hrel;go_wp2_with fail;go_end0;exact⟨rfl,Q.refl _⟩
theorem qtl(g:Nat)(v:Value)(a:Option Addr)(k:Nat)(w:World):Calls Tryz.prog 147 #[.pointer (some ⟨g,0,none⟩),.slice a 0 k,v] w (qae (.tuple #[]) w):=by
 go_enter Tryz.func147,Tryz.ntmps147;go_wp2_with fail
 go_loopw [10] (fun i wr=>i = .int .i64 0∧wr=w) (fun _ _=>0)
 case atStart=>exact⟨rfl,rfl⟩
 case round =>
  obtain⟨rfl,rfl⟩:=hrel;go_wp2_with fail;go_end0;exact⟨rfl,Q.refl _⟩
theorem q1f(g:Nat)(a:Option Addr)(k:Nat)(w:World):Calls Tryz.prog 72 #[.pointer (some ⟨g,0,none⟩),.slice a 0 k] w (qae (.int .i64 0) w):=by
 go_enter Tryz.func72,Tryz.ntmps72;go_wp2_with fail
 go_loopw [13] (fun i wr=>i = .int .i64 0∧wr=w) (fun _ _=>0)
 case atStart=>exact⟨rfl,rfl⟩
 case round =>
  obtain⟨rfl,rfl⟩:=hrel;go_wp2_with fail;go_ret;exact⟨rfl,Q.refl _⟩
theorem qp4{en:Nat}{i:Nat→Prop}{c:Ch}{w:World}(h:ChS w en i c)(m:c.xs=[]):Calls Tryz.prog 20 #[.pointer (some ⟨en,0,none⟩)] w fun e w'=>∃a k,e = .returned (.slice a 0 k)∧qq w w':=by
 refine(qp3 en i c w h).mono ?_;rintro e w' ⟨u,rfl,n,(⟨a,k,rfl,-⟩ | ⟨o,cap,rfl,-,-⟩)⟩
 ·exact⟨a,k,rfl,n⟩
 ·rw[m];exact⟨_,cap,rfl,n⟩
attribute [local go_sem ↓ high] ze zf zg zj qak
attribute [local go_sem] qau qav qaw qy zz qck
theorem qxl(g:Nat)(S:Nat→Prop)(l:Lk)(sp en lo:Nat)(N O:Nat→Prop)(m:MsgV)(I:Option Addr)(J:Nat)(w:World)(h:LkP w g S l sp en lo N O)(R:l.c.xs=[])(x:m.hash.length=32)(V:(m.kind==4)=false)(X:(m.kind==9)=false) :
  Calls Tryz.prog 110 #[.pointer (some ⟨g,0,none⟩),.agg m.cells.toArray,.slice I 0 J] w fun e w'=>e = .returned (.int .i64 0)∧qq w w':=by
 have i:=fun W (n:qq w W)=>qp4 ((h.new n).chn) R
 have v:w.cell? ⟨g,1,none⟩=some (.pointer (some ⟨en,0,none⟩)):=qk h.at_ 1
 clear h
 go_enter Tryz.func110,Tryz.ntmps110
 go_upto_region 1 with fail
 have t:=qa6 w m x
 have q:qq w (w.alloc (.cells m.cells.toArray 101)):=(Upd.refl _ _).alloc _
 generalize w.alloc (.cells m.cells.toArray 101)=w1 at t q ⊢
 generalize w.heap.size=B at t ⊢
 replace v:=q.cell v (fun h=>h)
 have o:=i w1 q
 have K:=qj t
 have z:=qj q
 clear t q i
 go_wp2_with fail
 refine o.mono ?_
 rintro e T ⟨a,k,rfl,y⟩
 have P:=((qg K).new y).cells.1
 have C:=qj ((qg z).trans y)
 clear o z y v
 go_wp2_with fail
 refine(qzb g _ a k T).mono ?_
 rintro e U ⟨rfl,E⟩
 have D:=qj ((qg C).trans (E.upd _))
 clear E C P
 go_wp2_with fail
 refine(qtl g _ I J U).mono ?_
 rintro e Y ⟨rfl,H⟩
 have M:=qj ((qg D).trans (H.upd _))
 clear H D
 go_wp2_with fail
 go_ret
 exact⟨rfl,qg M⟩
theorem qpu(E M z g:Nat)(S:Nat→Prop)(l:Lk)(sp en lo:Nat)(o N:Nat→Prop)(m:MsgV)(c':Ch)(D:List MsgV)(H:Int)(v0:Value)(w:World)(h:LkP w g S l sp en lo o N)(O:w.cell? ⟨E,0,none⟩=some (.pointer (some ⟨g,0,none⟩)))(J:MsB w M m)(x:w.heap[z]? = some (.cells #[v0] 124 (0,0)))(P:¬o z)
  (I:∀a,qq w a→Calls Tryz.prog 107 #[.pointer (some ⟨en,0,none⟩),.agg m.cells.toArray] a (qdx en o a c' D H)) :
  Calls Tryz.prog 106 #[.pointer (some ⟨E,0,none⟩),.pointer (some ⟨M,0,none⟩),.pointer (some ⟨z,0,none⟩)] w fun e w'=>e = .returned (.int .i64 H)∧∃a q v,qq w a∧Upd o a q∧ChS q en (Fr o a q) c'∧qbp a.heap.size q v D∧w'=q.setCell ⟨z,0,none⟩ v:=by
 have R:w.cell? ⟨g,1,none⟩=some (.pointer (some ⟨en,0,none⟩)):=qk h.at_ 1
 have V:=J.row
 have t:=I _ ((Upd.refl (fun _=>False) w).drew)
 clear h I J
 go_enter Tryz.func106,Tryz.ntmps106
 go_wp2_with ((with_reducible first|rfl|refine' ut ?_ ?_;rotate_left|refine' uu ?_)<;>intros)
 refine t.mono ?_
 rintro e w1 ⟨v,rfl,y,C,u⟩
 obtain⟨W,X,rfl⟩:∃a c,v = .slice a D.length c:=qaa y
 have i:=u.old (((Upd.refl (fun _=>False) w).drew).old x (fun h=>h)) P
 have U:=qo i 0
 have T:=qk i 0
 have K:=qj (And.intro y (And.intro C u))
 clear y C u i t x
 go_wp2_with ((with_reducible first|rfl|refine' ut ?_ ?_;rotate_left|refine' uu ?_)<;>intros)
 go_ret
 obtain⟨y,C,u⟩:=qg K
 exact⟨rfl,_,_,_,(Upd.refl (fun _=>False) w).drew,u,C,y,rfl⟩
theorem qnh(i m g:Nat)(a:Option Addr)(k:Nat)(w:World)(o:w.cell? ⟨i,0,none⟩=some (.pointer (some ⟨g,0,none⟩)))(t:w.cell? ⟨m,0,none⟩=some (.slice a 0 k)) :
  Calls Tryz.prog 108 #[.pointer (some ⟨i,0,none⟩),.pointer (some ⟨m,0,none⟩)] w (qae (.int .i64 0) w):=by
 go_enter Tryz.func108,Tryz.ntmps108
 go_wp2_with fail
 refine(q1f g a k w).mono ?_
 rintro e w1 ⟨rfl,q⟩
 go_wp2_with fail
 go_ret
 exact⟨rfl,q⟩
theorem qtr(q M o g:Nat)(S:Nat→Prop)(l:Lk)(sp en lo:Nat)(t v:Nat→Prop)(m:MsgV)(x:Option Addr)(y:Nat)(w:World)(h:LkP w g S l sp en lo t v)(I:l.c.xs=[])(z:(m.kind==4)=false)(C:(m.kind==9)=false)(E:w.cell? ⟨q,0,none⟩=some (.pointer (some ⟨g,0,none⟩)))(i:MsB w M m)(D:w.cell? ⟨o,0,none⟩=some (.slice x 0 y)) :
  Calls Tryz.prog 109 #[.pointer (some ⟨q,0,none⟩),.pointer (some ⟨M,0,none⟩),.pointer (some ⟨o,0,none⟩)] w fun e w'=>e = .returned (.int .i64 0)∧qq w w':=by
 have K:=i.row
 have H:=qxl g S l sp en lo t v m x y w h I i.len z C
 clear h i
 go_enter Tryz.func109,Tryz.ntmps109
 go_wp2_with fail
 refine H.mono ?_
 rintro e w1 ⟨rfl,J⟩
 go_wp2_with fail
 go_ret
 exact⟨rfl,J⟩
end
section
open Go.RowKit
attribute [local go_sem ↓ high] qa5
attribute [local go_sem] qc5 qy
def LvO(w:World)(v:Value)(xs:List Live):Prop:=(∃a k,v = .slice a 0 k∧xs=[])∨∃g cap,v = .slice (some ⟨g,0,none⟩) xs.length cap∧qdf w g 0 xs
theorem LvO.new{w w':World}{v:Value}{xs:List Live}(h:LvO w v xs)(n:qq w w'):LvO w' v xs:=h.imp id (fun⟨g,cap,e,i⟩=>⟨g,cap,e,i.upd n (fun h=>h)⟩)
theorem LvO.shape{w:World}{v:Value}{xs:List Live}(h:LvO w v xs):∃a cap,v = .slice a xs.length cap∧(xs=[]∨∃g,a=some ⟨g,0,none⟩∧qdf w g 0 xs):=by
 rcases h with ⟨a,k,rfl,rfl⟩ | ⟨g,cap,rfl,i⟩
 ·exact⟨a,k,rfl,.inl rfl⟩
 ·exact⟨_,cap,rfl,.inr ⟨g,rfl,i⟩⟩
def qcx(own:Bool)(id:Int)(x:Live):Bool:=x.own==own&&x.h.id==id
theorem qzr(own:Bool)(id:Int)(x:Live)(t v:Nat)(w:World)(o:w.cell? ⟨t,0,none⟩=some (.bool own))(q:w.cell? ⟨v,0,none⟩=some (.int .u64 id)) :
  Calls Tryz.prog 183 #[.agg (qm x).toArray,.pointer (some ⟨t,0,none⟩),.pointer (some ⟨v,0,none⟩)] w (qar (.bool (qcx own id x)) w):=by
 go_enter Tryz.func183,Tryz.ntmps183
 go_upto_region 1 with fail
 have i:(w.alloc (.cells (qm x).toArray 69)).heap[w.heap.size]? = some (.cells (qm x).toArray 69 (0,0)):=ql _ _
 have n0:qq w (w.alloc (.cells (qm x).toArray 69)):=(Upd.refl _ _).alloc _
 generalize w.alloc (.cells (qm x).toArray 69)=w1 at i n0 ⊢
 replace o:=n0.cell o (fun h=>h)
 replace q:=n0.cell q (fun h=>h)
 have y:w1.cell? ⟨w.heap.size,35,none⟩=some (.bool x.own):=by rw[qk i,List.getElem?_toArray];exact qee x
 have z:w1.cell? ⟨w.heap.size,0,none⟩=some (.int .u64 x.h.id):=by rw[qk i,List.getElem?_toArray];exact qr1 x
 clear i
 cases m:x.own==own with
 | false =>
  go_wp2_with ((with_reducible first|rfl|refine' ut ?_ ?_;rotate_left|refine' uu ?_)<;>intros);go_ret;exact⟨by unfold qcx;rw[m];rfl,n0⟩
 | true =>
  go_wp2_with ((with_reducible first|rfl|refine' ut ?_ ?_;rotate_left|refine' uu ?_)<;>intros);go_ret;exact⟨by unfold qcx;rw[m];rfl,n0⟩
def qf4(own:Bool)(id:Int)(xs:List Live):Int:=match xs.findIdx? (qcx own id) with | some i=>i | none=> -1
theorem qwd(own:Bool)(id:Int)(N O:Nat)(v:Value)(xs:List Live)(w:World)(hv:LvO w v xs)(hl:xs.length≤1000000)(Y:w.cell? ⟨N,0,none⟩=some (.bool own))(Z:w.cell? ⟨O,0,none⟩=some (.int .u64 id)) :
  Calls Tryz.prog 128 #[v,.func (.func 183) #[] #[.pointer (some ⟨N,0,none⟩),.pointer (some ⟨O,0,none⟩)]] w (qar (.int .i64 (qf4 own id xs)) w):=by
 obtain⟨a,cap,rfl,m⟩:=hv.shape
 have o:∀(i:Nat) (x:Live),xs[i]? = some x→∃C,a=some ⟨C,0,none⟩∧qdy w C 0 xs:=by
  intro i x V;have q:=(List.getElem?_eq_some_iff.1 V).1;rcases m with e0 | ⟨C,e,H⟩
  ·rw[e0] at q;simp at q
  ·exact⟨C,e,H.toL⟩
 clear m
 have a2:(xs.length:Int)≤1000000:=by omega
 go_enter Tryz.func128,Tryz.ntmps128
 go_wp2_with fail
 go_loopw [5,8] (fun _ M wr=>∃i:Nat,M = .int .i64 (i:Int)∧i≤xs.length∧(∀j x,j<i→xs[j]? = some x→qcx own id x=false)∧qq w wr) (fun _ M _=>xs.length-(intOf M).toNat)
 case atStart=>exact⟨0,rfl,Nat.zero_le _,fun j x h=>by omega,Upd.refl _ _⟩
 case round =>
  obtain⟨i,rfl,V,T,z⟩:=hrel;obtain⟨P,rfl⟩:∃P:World,P=wr:=⟨_,rfl⟩;have I:=qj T;clear T;by_cases q:i<xs.length
  ·obtain⟨x,t⟩:∃x,xs[i]? = some x:=⟨_,List.getElem?_eq_getElem q⟩;obtain⟨C,rfl,H⟩:=o i x t;have m:=(H.upd z (fun h=>h)).row t;rw[Nat.zero_add] at m;have a1:(i:Int)<(xs.length:Int):=by omega
   have U:=qzr own id x N O P (z.cell Y (fun h=>h)) (z.cell Z (fun h=>h));have R:=qj t;clear H o t;go_wp2_with fail;refine U.mono ?_;rintro e w2 ⟨rfl,W⟩;have X:=z.trans W;clear U m z W;cases D:qcx own id x with
   | true =>
    go_wp2_with fail;go_ret;have J:xs.findIdx? (qcx own id)=some i:=by
     rw[List.findIdx?_eq_some_iff_getElem];refine⟨q,?_,fun j E=> ?_⟩
     ·have:=qg R;rw[List.getElem?_eq_getElem q] at this;rw[Option.some.inj this,D]
     ·have:=qg I j _ E (List.getElem?_eq_getElem (by omega));rw[this];decide
    exact⟨by unfold qf4;rw[J];rfl,X⟩
   | false =>
    go_wp2_with fail;go_roundw
    case rel =>
     refine⟨i+1,by go_num,by omega,fun j y E K=> ?_,X⟩;by_cases e:j<i
     ·exact qg I j y e K
     ·obtain rfl:j=i:=by omega
      rw[qg R] at K;rw[←Option.some.inj K];exact D
    case measure=>simp[intOf];omega
  ·obtain rfl:i=xs.length:=by omega
   clear o;go_wp2_with fail;go_ret;have J:xs.findIdx? (qcx own id)=none:=by
    rw[List.findIdx?_eq_none_iff];intro x hx;obtain⟨j,E,rfl⟩:=List.mem_iff_getElem.1 hx;exact qg I j _ E (List.getElem?_eq_getElem E)
   exact⟨by unfold qf4;rw[J];rfl,z⟩
theorem qnc(own:Bool)(id:Int)(v:Value)(xs:List Live)(w:World)(x:LvO w v xs)(t:xs.length≤1000000) :
  Calls Tryz.prog 145 #[v,.bool own,.int .u64 id] w (qar (.int .i64 (qf4 own id xs)) w):=by
 have D:∀(fn:Fn) (first cap:Array Value) (w:World),(Instr.makeFunc fn first cap).run Tryz.prog w = .ok (.func fn first cap) w:=fun _ _ _ _=>rfl
 go_enter Tryz.func145,Tryz.ntmps145
 go_upto_region 1 with fail
 have o:qq w ((w.alloc (.cells #[.bool own] 4)).alloc (.cells #[.int .u64 id] 22)):=((Upd.refl _ _).alloc _).alloc _
 have i:((w.alloc (.cells #[.bool own] 4)).alloc (.cells #[.int .u64 id] 22)).heap[w.heap.size]? = some (.cells #[.bool own] 4 (0,0)):=qx (ql _ _) _
 have m:((w.alloc (.cells #[.bool own] 4)).alloc (.cells #[.int .u64 id] 22)).heap[w.heap.size+1]? = some (.cells #[.int .u64 id] 22 (0,0)):=by
  have:=ql (w.alloc (.cells #[.bool own] 4)) (.cells #[.int .u64 id] 22);rwa [World.size_alloc] at this
 generalize (w.alloc (.cells #[.bool own] 4)).alloc (.cells #[.int .u64 id] 22)=E at o i m ⊢
 have y:=qwd own id w.heap.size (w.heap.size+1) v xs E (x.new o) t (qk i 0) (qk m 0)
 have q:=qj o
 clear i m o x t
 go_wp2_with fail
 refine y.mono ?_
 rintro e H ⟨rfl,z⟩
 have C:=qj ((qg q).trans z)
 clear y z q
 go_wp2_with fail
 go_ret
 exact⟨rfl,qg C⟩
end
section
open Go.RowKit
attribute [local go_sem ↓ high] qa5 qbd qb1
attribute [local go_sem] qc5 qdo qeu qy
def qim(m:List Live)(x:Live):Bool:= !x.own&&(x.state==4&&(match m.findIdx? (qcx false x.h.id) with | some i=>(m.getD i x).state != 4 | none=>true))
def qio(i:List Live)(x:Live):Bool:=x.own&&(!x.paid&&(i.findIdx? (qcx true x.h.id)).isNone)
end
section
open Go.RowKit
attribute [local go_sem ↓ high] ze zf zg
attribute [local go_sem] qau qav qaw qy
theorem q5h(g B cap:Nat)(S:Nat→Prop)(l:Lk)(sp en lo:Nat)(Z SJ:Nat→Prop)(o:List MsgV)(w:World)(h:LkP w g S l sp en lo Z SJ)(U:∀m∈o,SayOk m)(hn:o.length≤1000)(hz:l.out.size≤1099511627776)
  (hr:∀i m,o[i]? = some m→zt w B (i*38) 38=some m.cells.toArray) (hB:B≠g) :
  Calls Tryz.prog 72 #[.pointer (some ⟨g,0,none⟩),.slice (some ⟨B,0,none⟩) o.length cap] w fun e w'=>e = .returned (.int .i64 0)∧LkP w' g S {l with out:=qdg o l.out} sp en lo Z SJ∧Upd (· = g) w w':=by
 have b2:(o.length:Int)≤1000:=by omega
 have b0:=h.lt g h.inG
 have H:=qj h
 have HR:=qj hr
 have HM:=qj U
 clear h hr U
 go_enter Tryz.func72,Tryz.ntmps72
 go_wp2_with fail
 go_loopw [13] (fun iv wr=>∃i:Nat,iv = .int .i64 (i:Int)∧i≤o.length∧Hid (LkP wr g S {l with out:=qdg (o.take i) l.out} sp en lo Z SJ)∧Upd (· = g) w wr) (fun iv _=>o.length-(intOf iv).toNat)
 case atStart=>exact⟨0,rfl,Nat.zero_le _,H,Upd.refl _ _⟩
 case round =>
  obtain⟨i,rfl,hi,hC,u⟩:=hrel;obtain⟨C,rfl⟩:∃C:World,C=wr:=⟨_,rfl⟩;by_cases I:i<o.length
  ·have b1:(i:Int)<(o.length:Int):=by omega
   have R:o[i]? = some o[i]:=List.getElem?_eq_getElem I;generalize o[i]=m at R;have q:=qg HM m (List.mem_of_getElem? R);have rB:=qbg (qg HR i m R) u hB;have a2:=q.put.ok.len;have T:=qj u;have HX:=qj R;have W:=qj q;clear u R q;obtain⟨N,x,V⟩:=qgg C m a2;go_upto_region 4 with fail;change Code.wp _ _ _ _ (qhi C m);generalize qhi C m=w1 at x V ⊢;generalize C.heap.size=K at x N ⊢;have rK:=x.row;obtain⟨t,a6,a7,P,z⟩:=qlc m (qg W) w1;have v:=fun w'=>qul t w' a6 a7
   have hP:=(qg hC).new V;have U1:=qj ((qg T).trans (V.mono (fun _ _ h=>h.elim)));have J:=qkx ⟨#[]⟩ (o.take i) (fun m U=>qg HM m (List.mem_of_mem_take U)) l.out;have M:(qdg (o.take i) l.out).size≤1099512653776:=by
    rw[List.length_take] at J;omega
   have a1:(qfx t).size≤1026:=by rw[qhu];omega
   generalize hO:qdg (o.take i) l.out=O at hP M;have HO:=qj hO;have X:=qj hP;have D:=qj P;generalize qfx t=ft at v a1 D;clear N x V hC T hP J hO P;go_wp2_with fail;refine z.mono ?_;rintro e w2 ⟨rfl,n2⟩;have X:=qj ((qg X).new n2);have U2:=qj ((qg U1).trans (n2.mono (fun _ _ h=>h.elim)));clear z rK n2;go_wp2_with fail;refine(v w2).mono ?_;rintro e w3 ⟨rfl,n3⟩;have y:=(qg X).new n3;have U3:=qj ((qg U2).trans (n3.mono (fun _ _ h=>h.elim)));have c3:w3.cell? ⟨g,3,none⟩=some (.string O):=qk y.at_ 3;have f3:=qo y.at_ 3;have E:=y.put_out (O++ft);have u4:Upd (· = g) w3 (w3.setCell ⟨g,3,none⟩ (.string (O++ft))):=(Upd.refl _ _).set1 _ _;have Y:=qj E;have U4:=qj ((qg U3).trans u4);have a8:O.size+ft.size≤9223372036854775807:=by omega
   clear v n3 y E u4;go_wp2_with fail;go_roundw
   case rel =>
    refine⟨i+1,by go_num,I,?_,qg U4⟩;have e1:=qqk (qg HX) l.out;rw[qg HO,qg D] at e1;rw[e1];exact Y
   case measure=>simp[intOf];omega
  ·obtain rfl:i=o.length:=by omega
   have T:=qj u;clear u;go_wp2_with fail;go_ret;refine⟨rfl,?_,qg T⟩;have:=qg hC;rw[List.take_length] at this;exact this
end
section
open Go.RowKit
attribute [local go_sem ↓ high] ze zf zg zj qak
attribute [local go_sem] qau qav qaw qy zz qck
end
section
open Go.RowKit
theorem qww(C P D g:Nat)(S:Nat→Prop)(l:Lk)(sp en lo:Nat)(SC I:Nat→Prop)(xs:List ByteArray)(w:World)(h:LkP w g S l sp en lo SC I)(hd:l.dead=false)(hf:l.j.fused=false)(ho:l.j.off=false)
  (hm:0≤l.j.many∧l.j.many<1099511627776) (y:l.j.bs.size≤1099511627776) (hT:Tabs w) (hn:xs.length≤1000) (V:(qab xs).size≤1024)
  (c0:w.cell? ⟨C,0,none⟩=some (.pointer (some ⟨g,0,none⟩))) (c1:w.cell? ⟨P,0,none⟩=some (.slice (some ⟨D,0,none⟩) xs.length xs.length)) (hx:∀j x,xs[j]? = some x→w.cell? ⟨D,j,none⟩=some (.string x)) (U:D<w.heap.size) (hP:¬S C) :
  Calls Tryz.prog 112 #[.pointer (some ⟨C,0,none⟩),.pointer (some ⟨P,0,none⟩)] w fun e w'=>e = .returned (.int .i64 0)∧(∃a6,LkP w' g (Fr S w w') {l with j:=l.j.app (qab xs)} sp en lo SC a6)∧Upd (fun k=>I k∨k=g) w w':=by
 have c2:w.cell? ⟨g,2,none⟩=some (.pointer (some ⟨lo,0,none⟩)):=qk h.at_ 2
 have m:=fun w' (t:qq w w')=>qt0 D xs w' (fun j x e=>t.cell (hx j x e) (fun h=>h)) (Nat.lt_of_lt_of_le U t.size) hn (by omega)
 have v:=fun b w' (t:qq w w') hb hS=>qlh lo b I l.j (qab xs) w' (h.jou.new t) hf ho V hm y (hT.new t) hb hS
 have K:(w.cell? ⟨C,0,none⟩=some (.pointer (some ⟨g,0,none⟩)))∧(w.cell? ⟨g,2,none⟩=some (.pointer (some ⟨lo,0,none⟩)))∧w.cell? ⟨P,0,none⟩=some (.slice (some ⟨D,0,none⟩) xs.length xs.length):=⟨c0,c2,c1⟩
 have HC:=qj K
 have H:=qj h
 have o:∀w',qq w w'→(w'.cell? ⟨C,0,none⟩=some (.pointer (some ⟨g,0,none⟩)))∧(w'.cell? ⟨g,2,none⟩=some (.pointer (some ⟨lo,0,none⟩)))∧w'.cell? ⟨P,0,none⟩=some (.slice (some ⟨D,0,none⟩) xs.length xs.length):=fun w' t=>⟨t.cell K.1 (fun h=>h),t.cell K.2.1 (fun h=>h),t.cell K.2.2 (fun h=>h)⟩
 have a1:=qj h.jou.lt
 generalize hJ:qab xs=J at *
 clear h c0 c1 c2 hx hn V U hm y hT hJ
 go_enter Tryz.func112,Tryz.ntmps112
 go_upto_region 1 with fail
 refine qay (fun w'=>(w'.cell? ⟨C,0,none⟩=some (.pointer (some ⟨g,0,none⟩)))∧(w'.cell? ⟨g,2,none⟩=some (.pointer (some ⟨lo,0,none⟩)))∧w'.cell? ⟨P,0,none⟩=some (.slice (some ⟨D,0,none⟩) xs.length xs.length)) [0,3,4] (.of [0,1,2,3,4,5,6,7,8]) (by kernel_rfl) (by kernel_rfl) K ?_
 simp only[Plan.of]
 have k0:=o _ ((Upd.refl (fun _=>False) w).drew)
 clear K
 go_wp2_with ((with_reducible first|rfl|refine' ut ?_ ?_;rotate_left|refine' uu ?_)<;>intros)
 refine(m _ ((Upd.refl (fun _=>False) w).drew)).mono ?_
 rintro e w1 ⟨rfl,N⟩
 have N:=N.ofDrew
 have k1:=o _ N
 clear m k0
 go_wp2_with (first | ((with_reducible first|rfl|refine' ut ?_ ?_;rotate_left|refine' uu ?_)<;>intros) | refine⟨k1,?_⟩)
 have z:qq w (w1.alloc (.cells #[.string J] 9)):=N.alloc _
 have W:qq w1 (w1.alloc (.cells #[.string J] 9)):=(Upd.refl _ _).alloc _
 have Z:=qk (ql w1 (.cells #[.string J] 9)) 0
 have M:=o _ z
 have a8:=N.size
 generalize w1.alloc (.cells #[.string J] 9)=w2 at z W Z M ⊢
 refine⟨M,?_⟩
 generalize hB:w1.heap.size=B at Z ⊢
 have i:=v B w2 z Z (fun e=>by have:=(qg a1) B e;omega)
 have N2:=qj z
 clear v N z W k1 Z hB a8
 go_wp2_with (first | ((with_reducible first|rfl|refine' ut ?_ ?_;rotate_left|refine' uu ?_)<;>intros) | refine⟨M,?_⟩)
 refine i.mono ?_
 rintro e Y ⟨rfl,R,E⟩
 have O:=(qg N2)
 have q:=((qg H).new O).jour E R
 have d0:Y.cell? ⟨C,0,none⟩=some (.pointer (some ⟨g,0,none⟩)):=E.cell M.1 (fun e=>hP ((qg H).inJ _ e))
 have d6:=qo q.at_ 6
 have b0:Y.cell? ⟨g,6,none⟩=some (.bool false):=hd▸qk q.at_ 6
 have T:=q.put_dead false
 have X:Upd (· = g) Y (Y.setCell ⟨g,6,none⟩ (.bool false)):=(Upd.refl _ _).set1 _ _
 have a2:=qj T
 have U3:=qj E
 have U4:=qj X
 have K2:=qj M
 clear i R O q T E X M o
 go_wp2_with (first | ((with_reducible first|rfl|refine' ut ?_ ?_;rotate_left|refine' uu ?_)<;>intros) | ((with_reducible first|rfl|refine' ut ?_ ?_;rotate_left|refine' uu ?_)<;>intros) | refine⟨trivial,?_⟩)
 go_ret
 have z:=qg N2
 have E:=qg U3
 have X:=qg U4
 have z2:=z.size
 have z3:=E.size
 have z4:=X.size
 have h:=qg H
 have a7:=h.lt
 have e:({l with j:=l.j.app J} : Lk)=⟨l.c,l.j.app J,l.rest,l.out,l.ev,l.ticks,false,l.broken,l.waits⟩:=by rw[←hd]
 refine⟨rfl,⟨Fr I w2 Y,?_⟩,?_⟩
 ·rw[e];refine(qg a2).wider ?_ ?_
  ·rintro k (o | o)
   ·exact .inl o
   ·exact .inr ⟨by omega,by omega⟩
  ·rintro k (o | o)
   ·have:=a7 k o;omega
   ·exact o.2
 ·exact((z.mono (fun _ _ h=>h.elim)).trans (E.mono (fun k _ e=>(Or.inl e:I k∨k=g)))).trans (X.mono (fun k _ e=>(Or.inr e:I k∨k=g)))
end
end Go.Proofs.YtfmkdoachjgjbaaGreatDoor
