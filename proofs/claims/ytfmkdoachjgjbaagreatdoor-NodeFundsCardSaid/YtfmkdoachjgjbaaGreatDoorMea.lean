/-
  A link that waits ticks.
-/
import Derived.Test.YtfmkdoachjgjbaaGreatDoorMdj
import Derived.Test.YtfmkdoachjgjbaaGreatDoorMdc
import Derived.Test.YtfmkdoachjgjbaaGreatDoorLw2
import Derived.Test.YtfmkdoachjgjbaaGreatDoorMdd
import Derived.Test.YtfmkdoachjgjbaaGreatDoorMdb
import Derived.Test.YtfmkdoachjgjbaaGreatDoorMde
import Derived.Test.YtfmkdoachjgjbaaGreatDoorMch
import Derived.Test.YtfmkdoachjgjbaaGreatDoorMci
import Derived.Test.YtfmkdoachjgjbaaGreatDoorMbc
import Derived.Laws.IdiomRangeMap
set_option maxRecDepth 100000
set_option maxHeartbeats 2000000
set_option linter.unusedVariables false
set_option linter.unusedSimpArgs false
namespace Go.Proofs.YtfmkdoachjgjbaaGreatDoor
section
open Go.RowKit
theorem qxq(g:Nat)(S:Nat→Prop)(l:Lk)(n:Nat)(w:World)(h:LkS w g S l)(i:l.dead=false)(m:l.waits=true)(v:l.ticks=n)(t:n<1000000) :
  Calls Tryz.prog 28 #[.pointer (some ⟨g,0,none⟩)] w fun e w'=>e = .returned (.int .i64 0)∧LkS w' g S {l with ticks:=(n:Int)+1} ∧ Upd S w w':=by
 obtain⟨sp,en,lo,x,y,h⟩:=h
 have C:w.cell? ⟨g,6,none⟩=some (.bool false):=i▸qk h.at_ 6
 have z:w.cell? ⟨g,5,none⟩=some (.int .i64 (n:Int)):=by rw[←v];exact qk h.at_ 5
 have H:=qo h.at_ 5
 have u:Upd (· = g) w (w.setCell ⟨g,5,none⟩ (.int .i64 ((n:Int)+1))):=(Upd.refl _ _).set1 _ _
 have o:=h.put_ticks ((n:Int)+1)
 have D:(w.setCell ⟨g,5,none⟩ (.int .i64 ((n:Int)+1))).cell? ⟨g,5,none⟩=some (.int .i64 ((n:Int)+1)):=qk o.at_ 5
 have E:(w.setCell ⟨g,5,none⟩ (.int .i64 ((n:Int)+1))).cell? ⟨g,8,none⟩=some (.bool true):=m▸qk o.at_ 8
 have q:=qj (And.intro o (u.mono (T:=S) (fun k _ e=>by rw[e];exact h.inG)))
 have I:(n:Int)<1000000:=by omega
 clear h o u v t i m
 go_enter Tryz.func28,Tryz.ntmps28
 go_upto_region 4 with fail
 generalize w.setCell ⟨g,5,none⟩ (.int .i64 ((n:Int)+1))=w1 at D E q ⊢
 clear C z H
 go_wp2_with fail
 go_ret
 exact⟨rfl,⟨sp,en,lo,x,y,(qg q).1⟩,(qg q).2⟩
theorem q6m(g B:Nat)(S:Nat→Prop)(l:Lk)(sp en lo:Nat)(o q:Nat→Prop)(F:FuncId)(t i:Array Value)(xs:List ByteArray)(w:World)(h:LkP w g S l sp en lo o q)(m:l.dead=false∧l.waits=true) :
  Calls Tryz.prog 45 #[.pointer (some ⟨g,0,none⟩),.func (.func F) t i,.slice (some ⟨B,0,none⟩) xs.length xs.length] w fun e w'=>e = .returned (.tuple #[.agg MsgV.zero.cells.toArray,.int .i64 5])∧LkE w' g (Fr S w w') sp en lo l∧Upd S w w':=by
 refine(qsx g S l sp en lo o q F t i _ _ _ w h m.1 m.2).mono ?_
 rintro e w' ⟨rfl,n⟩
 have x:=n.size
 have v:=h.lt
 exact⟨rfl,⟨o,q,(h.new n).wider (fun k m=> .inl m) (fun k m=>m.elim (fun e=>by have:=v k e;omega) (fun e=>e.2))⟩,n.mono (fun _ _ h=>h.elim)⟩
attribute [local go_sem ↓ high] ze zf zg zj qak
attribute [local go_sem] qau qav qaw qy zz qck
end
section
open Go.RowKit
attribute [local go_sem ↓ high] ze zf zg zj zl qaf qah
attribute [local go_sem] qau qav qaw zz qvi qa9 qb3 qb7 qy
end
section
open Go.RowKit
attribute [local go_sem ↓ high] ze zf zg zj qak zl
attribute [local go_sem] qau qav qaw qy zz qck qa9
theorem qwx(N O J P g en:Nat)(C:Nat→Prop)(c c':Ch)(M:MsgV)(er:Int)(n x:Int)(h:List Int)(w:World)(H:∀k,C k→k<w.heap.size)(q:M.hash.length=32)
  (i:∀w',qq w w'→Calls Tryz.prog 47 #[.pointer (some ⟨en,0,none⟩),.int .u64 n,.agg (qw h).toArray,.int .i64 x] w' fun e t=>e = .returned (.tuple #[.agg M.cells.toArray,.int .i64 er])∧ChS t en (Fr C w' t) c'∧Upd C w' t)
  (V:w.cell? ⟨N,0,none⟩=some (.pointer (some ⟨g,0,none⟩))) (T:w.cell? ⟨g,1,none⟩=some (.pointer (some ⟨en,0,none⟩))) (W:w.cell? ⟨O,0,none⟩=some (.int .u64 n)) (U:zt w J 0 32=some (qw h).toArray) (X:w.cell? ⟨P,0,none⟩=some (.int .i64 x)) :
  Calls Tryz.prog 46 (#[]++#[.pointer (some ⟨N,0,none⟩),.pointer (some ⟨O,0,none⟩),.pointer (some ⟨J,0,none⟩),.pointer (some ⟨P,0,none⟩)]) w fun e w'=>SaysIt en C M er c' e w w':=by
 have o:qq w (w.alloc (.cells MsgV.zero.cells.toArray 101)):=(Upd.refl _ _).alloc _
 have I:=qa6 w MsgV.zero qu
 have hK:w.heap.size<(w.alloc (.cells MsgV.zero.cells.toArray 101)).heap.size:=by rw[World.size_alloc];omega
 have HS:=qj H
 clear H
 show Calls Tryz.prog 46 #[.pointer (some ⟨N,0,none⟩),.pointer (some ⟨O,0,none⟩),.pointer (some ⟨J,0,none⟩),.pointer (some ⟨P,0,none⟩)] w _
 go_enter Tryz.func46,Tryz.ntmps46
 go_upto_region 1 with fail
 generalize w.alloc (.cells MsgV.zero.cells.toArray 101)=w1 at o I hK ⊢
 replace V:=o.cell V (fun h=>h)
 replace T:=o.cell T (fun h=>h)
 replace W:=o.cell W (fun h=>h)
 replace U:=qbg U o (fun h=>h)
 replace X:=o.cell X (fun h=>h)
 replace i:=i w1.drew o.drew
 obtain⟨K,e⟩:∃K,K=w.heap.size:=⟨_,rfl⟩
 rw[←e] at I hK ⊢
 have E:=qj e
 clear e
 go_wp2_with ((with_reducible first|rfl|refine' ut ?_ ?_;rotate_left|refine' uu ?_)<;>intros)
 refine i.mono ?_
 rintro e Y ⟨rfl,m,y⟩
 have z2:=y.size
 have z1:=o.size
 have D:¬C K:=fun e=>by have:=qg HS K e;have:=qg E;omega
 have R:=I.upd y.ofDrew D
 have a1:=R.stOk q
 have Z:=R.put q
 have z:Upd (· = K) Y (Y.setCells K 0 M.cells):=zy _
 have hF:=Z.at_
 have HE:=qj (And.intro m (And.intro y z))
 have z3:=z.size
 clear i m y R Z z V T W U X I
 go_wp2_with ((with_reducible first|rfl|refine' ut ?_ ?_;rotate_left|refine' uu ?_)<;>intros)
 refine bodyPost_ret (zb rfl _ _ K _ _ _ _ rfl hF Tryz.underlying101 rfl (by rw[List.size_toArray,M.len q];exact Tryz.infoMsg)) rfl ?_
 obtain⟨m,y,z⟩:=qg HE
 have e:=qg E
 have z2:w1.heap.size≤Y.heap.size:=z2
 refine⟨rfl,?_,((o.mono (fun _ _ h=>h.elim)).trans y.ofDrew).then z (fun k v e=>by omega)⟩
 have h3:=m.upd z (fun k v e=>by
  rcases v with v | v
  ·exact D (e▸v)
  ·have:w1.heap.size≤k:=v.1;omega)
 exact ChS.later (ChS.grow (w0:=w1) h3 z3) z1
def Lk.actW(l:Lk)(r:Ch × MsgV × Int)(rec:ByteArray):Lk × MsgV × Int:=if l.waits=true then (l,MsgV.zero,5) else (l.acts r.1 rec r.2.1 r.2.2,ql3 r.2.1 r.2.2,r.2.2)
theorem q1x{l:Lk}{r:Ch × MsgV × Int}{rec:ByteArray}(h:r.2.1.hash.length=32):(l.actW r rec).2.1.hash.length=32:=by
 unfold Lk.actW;split
 ·exact qu
 ·exact qmu h
theorem q6k(l:Lk)(ev:Value)(r:Ch × MsgV × Int)(rec:ByteArray):Lk.actW {l with ev:=ev} r rec=({(l.actW r rec).1 with ev:=ev},(l.actW r rec).2):=by
 unfold Lk.actW;by_cases h:l.waits=true
 ·rw[if_pos h,if_pos h]
 ·rw[if_neg h,if_neg h];unfold Lk.acts;by_cases i:r.2.2=0
  ·rw[if_pos i,if_pos i];rfl
  ·rw[if_neg i,if_neg i]
theorem q6n(g B:Nat)(S:Nat→Prop)(l:Lk)(sp en lo:Nat)(q v:Nat→Prop)(F:FuncId)(t i:Array Value)(r:Ch × MsgV × Int)(xs:List ByteArray)(w:World)
  (h:LkP w g S l sp en lo q v) (m:LkOkW l) (D:r.2.1.hash.length=32) (o:r.2.2=0→SayOk r.2.1) (M:Tabs w) (J:ApD S)
  (C:∀args w,(callFunc F args).run Tryz.prog w = .ok (.enter F args) w) (K:∀a,qq w a→Calls Tryz.prog F (t++i) a fun e I=>SaysIt en q r.2.1 r.2.2 r.1 e a I)
  (O:∀j x,xs[j]? = some x→w.cell? ⟨B,j,none⟩=some (.string x)) (N:xs.length≤1000) (E:(qab xs).size≤1024) (z:B<w.heap.size) (y:¬S B) :
  Calls Tryz.prog 45 #[.pointer (some ⟨g,0,none⟩),.func (.func F) t i,.slice (some ⟨B,0,none⟩) xs.length xs.length] w fun e w'=>e = .returned (.tuple #[.agg (l.actW r (qab xs)).2.1.cells.toArray,.int .i64 (l.actW r (qab xs)).2.2])∧LkE w' g (Fr S w w') sp en lo (l.actW r (qab xs)).1∧Upd S w w':=by
 unfold Lk.actW
 cases H:l.waits with
 | true =>
  rw[if_pos rfl];exact q6m g B S l sp en lo q v F t i xs w h ⟨m.dead,H⟩
 | false =>
  rw[if_neg (by decide)];exact qgt g B S l sp en lo q v F t i r.2.1 r.2.2 r.1 xs w h ⟨m.dead,H,m.fused,m.off,m.many,m.len,m.out⟩ D o M J C K O N E z y
theorem zbb{a b c d x:ByteArray}{w:World}{B j:Nat}(i:[a,b,c,d][j]? = some x)(m:w.heap[B]? = some (.cells #[.string a,.string b,.string c,.string d] 9 (0,0))):w.cell? ⟨B,j,none⟩=some (.string x):=by
 rw[qk m]
 match j,i with
 | 0,i=>exact congrArg (fun y=>some (Value.string y)) (show a=x from by simpa using i)
 | 1,i=>exact congrArg (fun y=>some (Value.string y)) (show b=x from by simpa using i)
 | 2,i=>exact congrArg (fun y=>some (Value.string y)) (show c=x from by simpa using i)
 | 3,i=>exact congrArg (fun y=>some (Value.string y)) (show d=x from by simpa using i)
 | j+4,i=>simp at i
theorem q7o(n i:Nat)(h:i≤8):(qi4 n i).size≤8:=Nat.le_trans (q0u n i) h
def qgl(n r:Nat)(h:List Int):List ByteArray:=[zr 1 1,zr n 8,strOfNums h,qi4 r 4]
theorem qn8{n r:Nat}{h:List Int}(i:h.length=32):(qab (qgl n r h)).size≤1024:=by
 have:=q7o r 4 (by decide);have e0:(⟨#[]⟩:ByteArray).size=0:=rfl;unfold qgl qab qab qab qab qab;simp only[ByteArray.size_append,qaq,strOfNums_size,i];omega
theorem LkV.lift{w w':World}{g:Nat}{S i:Nat→Prop}{l L:Lk}{ev:Value}{es:List EvV}{sp en lo:Nat}{C D:Nat→Prop}(h:LvP w g S i l ev es sp en lo C D)(u:Upd i w w')(v:LkS w' g (Fr i w w') {L with ev:=ev}):LkV w' g (Fr S w w') L es∧Upd S w w':=by
 obtain⟨y,q,x,m,o,v⟩:=v;have E:=u.size;have t:=h.row.lt;refine⟨⟨y,q,x,_,m,o,ev,v,h.row.upd u h.out,?_,fun k e=> .inl (h.inE k e),fun k e=>e.imp (h.in0 k) id,?_⟩,u.mono (fun k _ e=>h.in0 k e)⟩
 ·intro k e z;have:=t k e;exact z.elim (h.out k e) (fun z=>by omega)
 ·rintro k (e | e)
  ·have:=h.lt k e;omega
  ·exact e.2
theorem zak(g:Nat)(S:Nat→Prop)(l:Lk)(es:List EvV)(n r:Nat)(p:List Int)(x:Int)(w:World)(h:LkV w g S l es)(v:LkOkW l)(C:p.length=32)(hb:qbt p)(O:n<2 ^ (8*8))(E:r<18446744073709551616)(R:IntKind.u64.wrap x=(r:Int))(T : -9223372036854775808≤x∧x≤9223372036854775807)(H:(l.c.offer n (qbq p) x).2.2=0→SayOk (l.c.offer n (qbq p) x).2.1)(q:(l.c.offer n (qbq p) x).2.1.hash.length=32)(z:l.c.news.length<1000000∧l.c.xs.length<1000000)(hT:Tabs w)(Z:ApD S) :
  Calls Tryz.prog 11 #[.pointer (some ⟨g,0,none⟩),.int .u64 (n:Int),.agg (qw p).toArray,.int .i64 x] w fun e w'=>e = .returned (.tuple #[.int .u64 (l.actW (l.c.offer n (qbq p) x) (qab (qgl n r p))).2.1.id,.int .i64 (l.actW (l.c.offer n (qbq p) x) (qab (qgl n r p))).2.2])∧LkV w' g (Fr S w w') (l.actW (l.c.offer n (qbq p) x) (qab (qgl n r p))).1 es∧Upd S w w':=by
 obtain⟨sp,en,lo,I,J,SJ,ev,h⟩:=h
 have i:=h.lk
 have D:=i.lt
 have M:=i.chn.lt
 have cE:w.cell? ⟨g,1,none⟩=some (.pointer (some ⟨en,0,none⟩)):=qk i.at_ 1
 have K:ApD I:=⟨fun e=>Z.c (h.in0 _ e),fun e=>Z.d (h.in0 _ e)⟩
 have N:=q6k l ev (l.c.offer n (qbq p) x) (qab (qgl n r p))
 refine(qwq g I n r p x (l.actW (l.c.offer n (qbq p) x) (qab (qgl n r p))).2.1 (l.actW (l.c.offer n (qbq p) x) (qab (qgl n r p))).2.2 {(l.actW (l.c.offer n (qbq p) x) (qab (qgl n r p))).1 with ev:=ev} sp en lo w D C O E R (q1x q) ?_).mono ?_
 ·intro V X U Y w3 y gL gN gH gX cL cN cH cX B W m hB hr;have P:=@zbb (zr 1 1) (zr n 8) (strOfNums p) (qi4 r 4);have o:=q6n g B I {l with ev:=ev} sp en lo J SJ 46 #[] #[.pointer (some ⟨V,0,none⟩),.pointer (some ⟨X,0,none⟩),.pointer (some ⟨U,0,none⟩),.pointer (some ⟨Y,0,none⟩)] (l.c.offer n (qbq p) x) (qgl n r p) W ((i.new y).new m) ⟨v.dead,v.fused,v.off,v.many,v.len,v.out⟩ q H ((hT.new y).new m) K (enters_of Tryz.func46 (by kernel_rfl) rfl)
   (fun a t=>qwx V X U Y g en J l.c (l.c.offer n (qbq p) x).1 (l.c.offer n (qbq p) x).2.1 (l.c.offer n (qbq p) x).2.2 n x p a (fun k e=>by have:=M k e;have:=y.size;have:=m.size;have:=t.size;omega) q (fun w' n'=>qwy en J l.c n p x w' (i.chn.new (((y.trans m).trans t).trans n')) C hb ⟨by omega,by omega⟩ T z) ((m.trans t).cell cL (fun h=>h)) (((y.trans m).trans t).cell cE (fun h=>h)) ((m.trans t).cell cN (fun h=>h)) (qbg cH (m.trans t) (fun h=>h)) ((m.trans t).cell cX (fun h=>h))) (fun j x T=>P T hr) (by simp[qgl]) (qn8 C) (zi hr) (fun e=>by have:=D _ e;have:=y.size;omega)
  rw[N] at o;exact o
 ·rintro e w' ⟨rfl,C,u⟩;have:=LkV.lift h u C;exact⟨rfl,this.1,this.2⟩
end
section
open Go.RowKit
attribute [local go_sem ↓ high] qa5 qbd qb1 qfn qds qs5
attribute [local go_sem] qc5 qdo qeu qre qkk q9m qy
end
section
open Go.RowKit
def q9i(c:Ch):MsgV:=⟨9,c.s.ch,IntKind.u64.wrap c.k.told,0,zm,0,c.k.heard+1⟩
section
variable {w w1:World}{g:Nat}{S:Nat→Prop}{l:Lk}{sp en lo B:Nat}{SC SJ:Nat→Prop}
end
def Lk.renewed(l:Lk):Lk:= {l with rest:=⟨#[]⟩,out:=⟨#[]⟩,ticks:=0,broken:=false,waits:=true}
attribute [local go_sem ↓ high] ze zf zg zj qak
attribute [local go_sem] qau qav qaw qy qck
end
section
open Go.RowKit
def Lk.cut(l:Lk)(rec:ByteArray):Lk:= {({l with c:=l.c.cut,j:=l.j.app rec} : Lk).renewed with out:=qkw (q9i l.c.cut)}
section
variable {w w':World}{g:Nat}{S T:Nat→Prop}{l:Lk}{es:List EvV}
theorem LkV.lt(h:LkV w g S l es):∀k,S k→k<w.heap.size:=by
 obtain⟨sp,en,lo,h⟩:=h;exact h.lt
theorem LkV.inG(h:LkV w g S l es):S g:=by
 obtain⟨sp,en,lo,h⟩:=h;exact h.inG
theorem LkV.new(h:LkV w g S l es)(n:qq w w'):LkV w' g S l es:=by
 obtain⟨sp,en,lo,h⟩:=h;exact⟨sp,en,lo,h.new n⟩
theorem LkV.upd(h:LkV w g S l es)(u:Upd T w w')(hd:∀k,S k→¬T k):LkV w' g S l es:=by
 obtain⟨sp,en,lo,h⟩:=h;exact⟨sp,en,lo,h.upd u hd⟩
theorem LkV.wider(h:LkV w g S l es)(m:∀k,S k→T k)(i:∀k,T k→k<w.heap.size):LkV w g T l es:=by
 obtain⟨sp,en,lo,h⟩:=h;exact⟨sp,en,lo,h.wider m i⟩
theorem LkV.ev{v:Value}(h:LkV w g S {l with ev:=v} es):LkV w g S l es:=by
 obtain⟨sp,en,lo,i,m,o,ev,h⟩:=h;exact⟨sp,en,lo,i,m,o,ev,h.lk,h.row,h.out,h.inE,h.in0,h.lt⟩
theorem LkS.toV(h:LkS w g S l)(o:l.ev=qcb):LkV w g S l []:=by
 obtain⟨sp,en,lo,i,m,h⟩:=h;have e:({l with ev:=qcb} : Lk)=l:=by rw[←o]
 refine⟨sp,en,lo,S,i,m,qcb,⟨?_,qka.nil _,(fun k e=>by cases e),(fun k e=>by cases e),(fun k e=>e),h.lt⟩⟩;rw[e];exact h
end
noncomputable def Lk.tick(l:Lk)(n:Nat):Lk:=if l.waits=true∨(n+1)%3≠0 then {l with ticks:=(n:Int)+1} else ({l with ticks:=(n:Int)+1} : Lk).signs
noncomputable def Lk.tickE(l:Lk)(n:Nat):Int:=if l.waits=true∨(n+1)%3≠0 then 0 else qmr l.c.sign.2.2
theorem zbj(g:Nat)(S:Nat→Prop)(l:Lk)(es:List EvV)(n:Nat)(w:World)(h:LkV w g S l es)(o:LkOkW l)(N:l.ticks=n)(q:n<1000000)(E:l.c.sign.2.2=0→SayOk l.c.sign.2.1)(M:l.c.sign.2.1.hash.length=32)(X:Tc w)(W:ApC S)
  (D:l.c.s.key.size≤100000000) (K:0≤l.c.s.ch∧l.c.s.ch<4294967296) (z:l.c.news.length<1000000) (P:l.c.xs.length≤16) :
  Calls Tryz.prog 28 #[.pointer (some ⟨g,0,none⟩)] w fun e w'=>e = .returned (.int .i64 (l.tickE n))∧LkV w' g (Fr S w w') (l.tick n) es∧Upd S w w':=by
 obtain⟨sp,en,lo,H,R,U,ev,h⟩:=h
 have O:LkS w g H {l with ev:=ev} := ⟨sp,en,lo,R,U,h.lk⟩
 by_cases J:l.waits=true
 ·have x:l.tick n = {l with ticks:=(n:Int)+1} := by unfold Lk.tick;rw[if_pos (.inl J)]
  have y:l.tickE n=0:=by unfold Lk.tickE;rw[if_pos (.inl J)]
  rw[x,y];refine(qxq g H {l with ev:=ev} n w O o.dead J N q).mono ?_;rintro e w' ⟨rfl,i,u⟩;have:=LkV.lift (L:= {l with ticks:=(n:Int)+1}) h u (i.wider (fun k e=> .inl e) (fun k e=>e.elim (fun e=>i.lt k e) (fun e=>e.2)));exact⟨rfl,this.1,this.2⟩
 ·have t:l.waits=false:=by simpa using J
  have C:LkOk {l with ev:=ev} := ⟨o.dead,t,o.fused,o.off,o.many,o.len,o.out⟩;by_cases v:(n+1)%3=0
  ·have x:l.tick n=({l with ticks:=(n:Int)+1} : Lk).signs:=by unfold Lk.tick;rw[if_neg (by simp[t,v])]
   have y:l.tickE n=qmr l.c.sign.2.2:=by unfold Lk.tickE;rw[if_neg (by simp[t,v])]
   rw[x,y];refine(qxp g H {l with ev:=ev} n w O C N q v E M X (W.mono h.in0) D K z P).mono ?_;rintro e w' ⟨rfl,i,u⟩;have Y:Lk.signs {l with ev:=ev,ticks:=(n:Int)+1} = {(({l with ticks:=(n:Int)+1} : Lk).signs) with ev:=ev} := by
    show Lk.acts _ l.c.sign.1 _ l.c.sign.2.1 l.c.sign.2.2 = {(Lk.acts _ l.c.sign.1 _ l.c.sign.2.1 l.c.sign.2.2:Lk) with ev:=ev};generalize l.c.sign.1=c';generalize l.c.sign.2.1=m;generalize l.c.sign.2.2=V;unfold Lk.acts;by_cases I:V=0
    ·rw[if_pos I,if_pos I];rfl
    ·rw[if_neg I,if_neg I]
   rw[Y] at i;have:=LkV.lift h u i;exact⟨rfl,this.1,this.2⟩
  ·have x:l.tick n = {l with ticks:=(n:Int)+1} := by unfold Lk.tick;rw[if_pos (.inr v)]
   have y:l.tickE n=0:=by unfold Lk.tickE;rw[if_pos (.inr v)]
   rw[x,y];refine(qsr g H {l with ev:=ev} n w O C N q v).mono ?_;rintro e w' ⟨rfl,i,u⟩;have:=LkV.lift (L:= {l with ticks:=(n:Int)+1}) h u (i.wider (fun k e=> .inl e) (fun k e=>e.elim (fun e=>i.lt k e) (fun e=>e.2)));exact⟨rfl,this.1,this.2⟩
theorem zaj(g:Nat)(S:Nat→Prop)(l L:Lk)(es i:List EvV)(E:Int)(s:ByteArray)(w:World)(h:LkV w g S l es)(m:l.dead=false)(y:l.broken=false)(o:qdv l.rest=false)(q:l.rest.size+s.size≤1000000000)(x:Tb w)(t:Apart S)(v:Bts {l with rest:=l.rest++s} es L i E) :
  Calls Tryz.prog 24 #[.pointer (some ⟨g,0,none⟩),.string s] w fun e w'=>e = .returned (.int .i64 E)∧LkV w' g (Fr S w w') L i∧Upd S w w':=by
 obtain⟨sp,en,lo,h⟩:=h
 refine(qwi g S l L es i E s sp en lo w h m y o q x t v).mono ?_
 rintro e w' ⟨rfl,u,h⟩
 exact⟨rfl,⟨sp,en,lo,h⟩,u⟩
theorem q9e(g:Nat)(S:Nat→Prop)(l:Lk)(es:List EvV)(w:World)(h:LkV w g S l es):∃en i,ChS w en i l.c∧(∀k,i k→S k)∧Calls Tryz.prog 19 #[.pointer (some ⟨g,0,none⟩)] w (qae (.pointer (some ⟨en,0,none⟩)) w):=by
 obtain⟨sp,en,lo,m,i,o,ev,h⟩:=h;exact⟨en,i,h.lk.chn,fun k e=>h.in0 k (h.lk.inC k e),qm7 g _ w h.lk.at_⟩
structure PeL where
 ch:Int
 k:Nat
 S:Nat→Prop
 L:Lk
def PeL.cells(p:PeL):List Value:=[.int .u32 p.ch,qr8 p.k]
structure NodM(G:Nat→Prop)(w:World)(g:Nat)(N:NodeV)(R:RelV)(m:Nat)(ps:List PeL):Prop where
 no:NoR w g N
 re:ReR w N.re R
 row:w.ownsRow R.bs 159 2 R.peers ps.length (ps.flatMap PeL.cells)
 bsle:R.bs≤w.heap.size
 lk:∀(i:Nat) (p:PeL),ps[i]? = some p→LkV w p.k p.S p.L []
 apart:∀(i j:Nat) (p q:PeL),ps[i]? = some p→ps[j]? = some q→i≠j→∀b,p.S b→¬q.S b
 pay:R.payments=qo6 m
 map:qis w m
 own:∀(i:Nat) (p:PeL),ps[i]? = some p→¬p.S g∧¬p.S N.re∧¬p.S m∧∀b,R.peers.ownBlock=some b→¬p.S b
 ge:G g∧G N.re∧G m∧(∀b,R.peers.ownBlock=some b→G b)∧∀b,w.heap.size≤b→G b
 geS:∀(i:Nat) (p:PeL),ps[i]? = some p→∀b,p.S b→G b
theorem qg5{w:World}{i m:Nat}{cs:Array Value}{T:TypeId}{z:Nat × Nat}(h:w.heap[i]? = some (.cells cs T z))(o:qis w m):i≠m:=by
 obtain⟨es,cl,o,-⟩:=o;exact qr4 h o
section
variable {G:Nat→Prop}{w w':World}{g:Nat}{N N':NodeV}{R:RelV}{m:Nat}{ps:List PeL}
theorem NodM.new(h:NodM G w g N R m ps)(u:qq w w'):NodM G w' g N R m ps :=
 ⟨u.old h.no (fun h=>h),u.old h.re (fun h=>h),qcg h.row u,Nat.le_trans h.bsle u.size,fun i p q=>(h.lk i p q).new u,h.apart,h.pay,h.map.new u,h.own,⟨h.ge.1,h.ge.2.1,h.ge.2.2.1,h.ge.2.2.2.1,fun b o=>h.ge.2.2.2.2 b (Nat.le_trans u.size o)⟩,h.geS⟩
theorem NodM.lts(h:NodM G w g N R m ps):g<w.heap.size∧N.re<w.heap.size∧m<w.heap.size∧∀b,R.peers.ownBlock=some b→b<w.heap.size :=
 ⟨zi h.no,zi h.re,h.map.lt,fun b o=>by obtain⟨i,q⟩:=zv h.row b o;exact zi q⟩
theorem qvr{ps:List PeL}(i:Nat)(p q:PeL)(o:ps[i]? = some p)(t:q.cells=p.cells):(ps.set i q).flatMap PeL.cells=ps.flatMap PeL.cells:=by
 induction ps generalizing i with
 | nil=>rfl
 | cons x ps v =>
  cases i with
  | zero =>
   obtain rfl:x=p:=by simpa using o
   rw[List.set_cons_zero,List.flatMap_cons,List.flatMap_cons,t]
  | succ i=>rw[List.set_cons_succ,List.flatMap_cons,List.flatMap_cons,v i (by simpa using o)]
theorem NodM.link(h:NodM G w g N R m ps){i:Nat}{p:PeL}(D:ps[i]? = some p)(u:Upd p.S w w'){E:Lk}(Y:LkV w' p.k (Fr p.S w w') E []):NodM G w' g N R m (ps.set i ⟨p.ch,p.k,Fr p.S w w',E⟩):=by
 obtain⟨O,P,T,U⟩:=h.own i p D;obtain⟨l1,l2,l3,l4⟩:=h.lts;have W:=(List.getElem?_eq_some_iff.1 D).1;have o:∀(j:Nat) (q:PeL),(ps.set i ⟨p.ch,p.k,Fr p.S w w',E⟩)[j]? = some q→(j=i∧q=⟨p.ch,p.k,Fr p.S w w',E⟩)∨(j≠i∧ps[j]? = some q):=by
  intro j q t;by_cases e:j=i
  ·subst e;rw[List.getElem?_set_self W] at t;exact .inl ⟨rfl,(Option.some.inj t).symm⟩
  ·rw[List.getElem?_set_ne (fun V=>e V.symm)] at t;exact .inr ⟨e,t⟩
 have z:∀b,b<w.heap.size→¬p.S b→¬Fr p.S w w' b:=fun b v Z e=>e.elim Z (fun e=>by omega)
 refine⟨u.old h.no O,u.old h.re P,?_,Nat.le_trans h.bsle u.size,?_,?_,h.pay,h.map.upd u T,?_,⟨h.ge.1,h.ge.2.1,h.ge.2.2.1,h.ge.2.2.2.1,fun b v=>h.ge.2.2.2.2 b (Nat.le_trans u.size v)⟩,?_⟩
 ·rw[List.length_set,qvr i p (⟨p.ch,p.k,Fr p.S w w',E⟩:PeL) D rfl];exact zc h.row u U
 ·intro j q t;rcases o j q t with ⟨-,rfl⟩ | ⟨X,t⟩
  ·exact Y
  ·exact(h.lk j q t).upd u (fun b v=>h.apart j i q p t D X b v)
 ·intro a b x y H I J c C;rcases o a x H with ⟨M,rfl⟩ | ⟨M,H⟩<;>rcases o b y I with ⟨v,rfl⟩ | ⟨v,I⟩
  ·omega
  ·have K:=(h.lk b y I).lt;rcases C with C | C
   ·exact h.apart i b p y D I (fun e=>v e.symm) c C
   ·intro e;have:=K c e;omega
  ·exact z c ((h.lk a x H).lt c C) (h.apart a i x p H D M c C)
  ·exact h.apart a b x y H I J c C
 ·intro j q t;rcases o j q t with ⟨-,rfl⟩ | ⟨-,t⟩
  ·exact⟨z g l1 O,z N.re l2 P,z m l3 T,fun b v=>z b (l4 b v) (U b v)⟩
  ·exact h.own j q t
 ·intro j q t b v;rcases o j q t with ⟨-,rfl⟩ | ⟨-,t⟩
  ·exact v.elim (h.geS i p D b) (fun e=>h.ge.2.2.2.2 b e.1)
  ·exact h.geS j q t b v
theorem NodM.self(h:NodM G w g N R m ps)(u:Upd (· = g) w w')(C:NoR w' g N')(t:N'.re=N.re):NodM G w' g N' R m ps:=by
 have q:g≠N.re:=zx h.no h.re (by decide);refine⟨C,by rw[t];exact u.old h.re (fun e=>q e.symm),zc h.row u (fun i z e=> ?_),Nat.le_trans h.bsle u.size,fun i p v=>(h.lk i p v).upd u (fun b o e=>(h.own i p v).1 (e▸o)),h.apart,h.pay,h.map.upd u (fun e=>qg5 h.no h.map e.symm),by rw[t];exact h.own,by rw[t];exact⟨h.ge.1,h.ge.2.1,h.ge.2.2.1,h.ge.2.2.2.1,fun b o=>h.ge.2.2.2.2 b (Nat.le_trans u.size o)⟩,h.geS⟩;obtain⟨x,y⟩:=zv h.row i z;exact zx y h.no (by decide) e
theorem NodM.drains(h:NodM G w g N R m ps)(u:Upd (fun i=>i=g∨i=N.re) w w')(D:NoR w' g N')(v:N'.re=N.re){t:RelV}(z:ReR w' N.re t)(q:t.peers=R.peers)(o:t.bs=R.bs)(E:t.payments=R.payments):NodM G w' g N' t m ps:=by
 refine⟨D,by rw[v];exact z,?_,by rw[o];exact Nat.le_trans h.bsle u.size,fun i p q=>(h.lk i p q).upd u (fun b o e=> ?_),h.apart,by rw[E];exact h.pay,h.map.upd u (fun e=> ?_),by rw[v,q];exact h.own,by rw[v,q];exact⟨h.ge.1,h.ge.2.1,h.ge.2.2.1,h.ge.2.2.2.1,fun b o=>h.ge.2.2.2.2 b (Nat.le_trans u.size o)⟩,h.geS⟩
 ·rw[o,q];refine zc h.row u (fun i C e=> ?_);obtain⟨y,x⟩:=zv h.row i C;rcases e with e | e
  ·exact zx x h.no (by decide) e
  ·exact zx x h.re (by decide) e
 ·obtain⟨H,I,-⟩:=h.own i p q;rcases e with e | e
  ·exact H (e▸o)
  ·exact I (e▸o)
 ·rcases e with e | e
  ·exact qg5 h.no h.map e.symm
  ·exact qg5 h.re h.map e.symm
theorem NodM.paid(h:NodM G w g N R m ps){o:Obj}(y:qis (ql8 w m o) m):NodM G (ql8 w m o) g N R m ps:=by
 have u:=qnw w m o;refine⟨u.old h.no (qg5 h.no h.map),u.old h.re (qg5 h.re h.map),zc h.row u (fun b e=> ?_),Nat.le_trans h.bsle u.size,fun i p t=>(h.lk i p t).upd u (fun b q e=>(h.own i p t).2.2.1 (e▸q)),h.apart,h.pay,y,h.own,⟨h.ge.1,h.ge.2.1,h.ge.2.2.1,h.ge.2.2.2.1,fun b q=>h.ge.2.2.2.2 b (Nat.le_trans u.size q)⟩,h.geS⟩;obtain⟨v,x⟩:=zv h.row b e;exact qg5 x h.map
end
structure PeQ(w:World)(p:PeL)(q:PeerV):Prop where
 ch:q.ch=p.ch
 lk:q.lk=p.k
 link:LkR w q.lk q.l
 chan:ChI w q.l.en q.c p.L.c.xs
 setup:q.c.setup=p.L.c.s
 loc:q.c.loc=p.L.c.loc
 rem:q.c.rem=p.L.c.rem
 k:q.c.k=p.L.c.k
 ok:p.L.c.Ok
 own:∃SC,ChS w q.l.en SC p.L.c
theorem q46{w:World}{p:PeL}(h:LkV w p.k p.S p.L []):∃q,PeQ w p q:=by
 obtain⟨sp,en,lo,t,o,x,ev,h⟩:=h;obtain⟨a,b,d,i⟩:=h.lk.chn;exact⟨⟨p.ch,p.k,({p.L with ev:=ev} : Lk).v sp en lo,p.L.c.v a b d⟩,rfl,rfl,h.lk.at_,i.toI,rfl,rfl,rfl,rfl,i.ok,o,a,b,d,i⟩
theorem qt5{α β:Type}{G:α→β→Prop} : ∀ {l:List α},(∀(i:Nat) x,l[i]? = some x→∃y,G x y)→∃r:List β,r.length=l.length∧∀(i:Nat) x,l[i]? = some x→∃y,r[i]? = some y∧G x y
 | [],_=>⟨[],rfl,fun i x e=>by simp at e⟩
 | x::l,h=>by
  obtain⟨y,t⟩:=h 0 x rfl;obtain⟨r,q,o⟩:=qt5 (l:=l) (fun i x e=>h (i+1) x (by rw[List.getElem?_cons_succ];exact e));refine⟨y::r,by rw[List.length_cons,List.length_cons,q],fun i z e=> ?_⟩;cases i with
  | zero =>
   obtain rfl:x=z:=by simpa using e
   exact⟨y,rfl,t⟩
  | succ i=>exact o i z (by rw[List.getElem?_cons_succ] at e;exact e)
theorem qi2{w:World} : ∀ {ps:List PeL} {o:List PeerV},o.length=ps.length→(∀(i:Nat) (p:PeL),ps[i]? = some p→∃q,o[i]? = some q∧PeQ w p q)→o.flatMap PeerV.cells=ps.flatMap PeL.cells
 | [],[],_,_=>rfl
 | [],_::_,h,_=>by simp at h
 | _::_,[],h,_=>by simp at h
 | p::ps,q::o,h,k=>by
  obtain⟨v,e,t⟩:=k 0 p rfl;obtain rfl:q=v:=by simpa using e
  rw[List.flatMap_cons,List.flatMap_cons,qi2 (by simpa using h) (fun i p e=>k (i+1) p (by rw[List.getElem?_cons_succ];exact e))];unfold PeerV.cells PeL.cells;rw[t.ch,t.lk]
theorem NodM.toI{G:Nat→Prop}{w:World}{g:Nat}{N:NodeV}{R:RelV}{m:Nat}{ps:List PeL}(h:NodM G w g N R m ps):∃o:List PeerV,o.length=ps.length∧NodI w g N R o∧∀(i:Nat) (p:PeL),ps[i]? = some p→∃q,o[i]? = some q∧PeQ w p q:=by
 obtain⟨o,t,v⟩:=qt5 (G:=PeQ w) (fun i p C=>q46 (h.lk i p C));refine⟨o,t,⟨h.no,h.re,?_,?_,h.bsle⟩,v⟩
 ·rw[t,qi2 t v];exact h.row
 ·intro q z;obtain⟨i,y,rfl⟩:=List.mem_iff_getElem.1 z;obtain⟨D,e,x⟩:=v i (ps[i]'(by omega)) (List.getElem?_eq_getElem (by omega));rw[List.getElem?_eq_getElem y] at e;obtain rfl:=Option.some.inj e;exact⟨x.link,x.chan.toChR⟩
theorem NodM.opens{G:Nat→Prop}{w w':World}{g:Nat}{N N':NodeV}{R:RelV}{m:Nat}{ps:List PeL}(h:NodM G w g N R m ps){Z:List PeerV}(J:Z.length=ps.length)(hq:∀(i:Nat) (p:PeL),ps[i]? = some p→∃q,Z[i]? = some q∧PeQ w p q){v:Value}{k:Nat}{l:LinkV}{s:SetupV}(hs:s.Ok)(hm:s.may)(V:N'.re=N.re)(E:NewL w' w.heap.size k s l)(H:NodI w' g N' {R with peers:=v} (Z++[⟨s.ch,k,l,.new s⟩]))(u:Upd (fun k=>k=g∨k=N.re∨R.peers.ownBlock=some k) w w')(hv:∀k,v.ownBlock=some k→R.peers.ownBlock=some k∨w.heap.size≤k) :
  NodM G w' g N' {R with peers:=v} m (ps++[⟨s.ch,k,fun i=>i=k∨i=l.sp∨i=l.en∨i=l.lo,.new (Ch.new s)⟩]):=by
 have I:=(E.whole hs hm).toV rfl
 obtain⟨l1,l2,l3,l4⟩:=h.lts
 have U:¬(m=g∨m=N.re∨R.peers.ownBlock=some m):=by
  rintro (e | e | e)
  ·exact qg5 h.no h.map e.symm
  ·exact qg5 h.re h.map e.symm
  ·obtain⟨O,o⟩:=zv h.row m e;exact qg5 o h.map rfl
 have a1:=E.ge
 have z:∀(j:Nat) (q:PeL),(ps++[⟨s.ch,k,fun i=>i=k∨i=l.sp∨i=l.en∨i=l.lo,.new (Ch.new s)⟩])[j]? = some q→ps[j]? = some q∨(j=ps.length∧q=⟨s.ch,k,fun i=>i=k∨i=l.sp∨i=l.en∨i=l.lo,.new (Ch.new s)⟩):=by
  intro j q e;by_cases hj:j<ps.length
  ·rw[List.getElem?_append_left hj] at e;exact .inl e
  ·rw[List.getElem?_append_right (by omega)] at e;have T:j-ps.length=0:=by
    have:=(List.getElem?_eq_some_iff.1 e).1;simpa using this
   rw[T] at e;exact .inr ⟨by omega,(by simpa using e:_=q).symm⟩
 refine⟨H.at_,H.re.at_,?_,H.re.bsle,?_,?_,h.pay,h.map.upd u U,?_,⟨h.ge.1,by rw[V];exact h.ge.2.1,h.ge.2.2.1,fun b t=>(hv b t).elim (h.ge.2.2.2.1 b) (fun e=>h.ge.2.2.2.2 b e),fun b t=>h.ge.2.2.2.2 b (Nat.le_trans u.size t)⟩,?_⟩
 ·have D:=H.re.row;rw[List.flatMap_append,qi2 J hq,List.length_append,J] at D;rw[List.flatMap_append,List.length_append];exact D
 ·intro j q e;rcases z j q e with e | ⟨-,rfl⟩
  ·obtain⟨W,X,o3,Y⟩:=h.own j q e;refine(h.lk j q e).upd u (fun b t o=> ?_);rcases o with o | o | o
   ·exact W (o▸t)
   ·exact X (o▸t)
   ·exact Y b o t
  ·exact I
 ·intro a b x y K M P c o;have C:∀i,(i=k∨i=l.sp∨i=l.en∨i=l.lo)→w.heap.size≤i:=by
   rintro i (e | e | e | e)<;>omega
  rcases z a x K with K | ⟨ha,rfl⟩<;>rcases z b y M with M | ⟨t,rfl⟩
  ·exact h.apart a b x y K M P c o
  ·intro e;have:=(h.lk a x K).lt c o;have:=C c e;omega
  ·intro e;have:=(h.lk b y M).lt c e;have:=C c o;omega
  ·omega
 ·intro j q e;rcases z j q e with e | ⟨-,rfl⟩
  ·obtain⟨W,X,o3,Y⟩:=h.own j q e;refine⟨W,by rw[V];exact X,o3,fun b t o=> ?_⟩;rcases hv b t with t | t
   ·exact Y b t o
   ·have:=(h.lk j q e).lt b o;omega
  ·refine⟨?_,?_,?_,?_⟩
   ·rintro (e | e | e | e)<;>omega
   ·rw[V];rintro (e | e | e | e)<;>omega
   ·rintro (e | e | e | e)<;>omega
   ·intro b t;obtain⟨O,o⟩:=zv H.re.row b t;rintro (e | e | e | e)
    ·exact zx o E.lk (by decide) e
    ·exact zx o E.sp (by decide) e
    ·exact zx o E.ch.at_ (by decide) e
    ·exact zx o E.jo (by decide) e
 ·intro j q e b t;rcases z j q e with e | ⟨-,rfl⟩
  ·exact h.geS j q e b t
  ·exact h.ge.2.2.2.2 b (by rcases t with e | e | e | e<;>omega)
theorem NodM.start{w:World}{B g r:Nat}{f:Int}{R:RelV}(G:Nat→Prop)(z:NoR w g (.new r f))(t:NewR w B r R)(D:B≤g)(o:∀b,B≤b→G b):∃m,NodM G w g (.new r f) R m []:=by
 have y:=qqb z t;have x:=t.le;have E:=t.lt;obtain⟨a,H,d,K,W,X,Y,J,T,U,V,I,M,O,P,C,l⟩:=t;refine⟨J,z,a,y.re.row,y.re.bsle,(fun i p e=>by simp at e),(fun i j p q e=>by simp at e),I,.of_em C,(fun i p e=>by simp at e),⟨o _ D,o _ x,o _ (by omega),(fun b v=> ?_),fun b v=>o b (by omega)⟩,(fun i p e=>by simp at e)⟩;rw[H] at v;cases v
theorem NodM.skip{G G' T:Nat→Prop}{w w':World}{g:Nat}{N:NodeV}{R:RelV}{m:Nat}{ps:List PeL}(h:NodM G w g N R m ps)(u:Upd T w w')(D:∀b,T b→¬G b)(v:∀b,b<w.heap.size→G b→G' b)(H:∀b,w'.heap.size≤b→G' b):NodM G' w' g N R m ps:=by
 obtain⟨I,J,K,M⟩:=h.lts;obtain⟨x,y,z,C,-⟩:=h.ge;have q:∀b,G b→¬T b:=fun b o E=>D b E o
 exact⟨u.old h.no (q _ x),u.old h.re (q _ y),zc h.row u (fun b o=>q b (C b o)),Nat.le_trans h.bsle u.size,fun i p t=>(h.lk i p t).upd u (fun b o=>q b (h.geS i p t b o)),h.apart,h.pay,h.map.upd u (q _ z),h.own,⟨v _ I x,v _ J y,v _ K z,fun b o=>v b (M b o) (C b o),H⟩,fun i p t b o=>v b ((h.lk i p t).lt b o) (h.geS i p t b o)⟩
attribute [local go_sem ↓ high] zl qaf qah
attribute [local go_sem] qa9 qb3 qb7 qy
theorem qkn(N:NodeV)(i:Nat)(b:Bool)(m:N.shut[i]? = some b):N.cells[3+i]? = some (.bool b):=by
 unfold NodeV.cells;rw[show 3+i=i+1+1+1 by omega,List.getElem?_cons_succ,List.getElem?_cons_succ,List.getElem?_cons_succ,List.getElem?_append_left (by rw[List.length_map];exact(List.getElem?_eq_some_iff.1 m).1),List.getElem?_map,m];rfl
def NodeV.shutAt0(N:NodeV):NodeV:= {N with shut:=N.shut.set 0 true}
def NodeV.closes(N:NodeV)(i:Int):NodeV:=if i=0 then N.shutAt0 else N
theorem q5o(N:NodeV)(b:Bool)(t:List Bool)(h:N.shut=b::t):N.cells.toArray.setIfInBounds 3 (.bool true)=N.shutAt0.cells.toArray:=by
 unfold NodeV.shutAt0 NodeV.cells;rw[h];rfl
theorem qzf(g:Nat)(N:NodeV)(R:RelV)(ch:Int)(k:Nat)(S:Nat→Prop)(L:Lk)(m:Nat)(b:Bool)(t:List Bool)(w:World)(v:NodS w g N R ch k S L m)(hb:N.shut=b::t)(hk:LkOk L)(x:L.c.shut.2.2=0→SayOk L.c.shut.2.1)(H:L.c.shut.2.1.hash.length=32)(hT:Tabs w)(hA:ApD S) :
  Calls Tryz.prog 36 #[.pointer (some ⟨g,0,none⟩),.int .i64 0] w fun e w'=>e = .returned (.int .i64 L.c.shut.2.2)∧NodS w' g (N.closes L.c.shut.2.2) R ch k (Fr S w w') L.shut m∧Upd (fun i=>S i∨i=g) w w':=by
 obtain⟨lv,V,Z,-⟩:=v.toI
 have c0:w.cell? ⟨g,0,none⟩=some (.pointer (some ⟨N.re,0,none⟩)):=qk v.no 0
 have E:=qg3 N.re R [⟨ch,k,lv,V⟩] w Z.re (by simp) 0 ⟨ch,k,lv,V⟩ rfl
 have T:g≠N.re:=zx v.no v.re (by decide)
 clear Z
 go_enter Tryz.func36,Tryz.ntmps36
 go_wp2_with fail
 refine E.mono ?_
 rintro e w1 ⟨rfl,q1⟩
 have M:qq w w1:=q1.upd _
 have I:=qp6 k S L w1 (v.lk.new M) hk x H (hT.new M) hA
 have K:=qj M
 clear E c0 q1 M
 go_wp2_with fail
 refine I.mono ?_
 rintro e J ⟨rfl,hL,z⟩
 have o:=(v.new (qg K)).link z hL
 have f3:=qo o.no 3
 have d3:J.cell? ⟨g,3,none⟩=some (.bool b):=by
  rw[qk o.no 3,List.getElem?_toArray];exact qkn N 0 b (by rw[hb];rfl)
 have y:=zq o.no 3 (.bool true)
 rw[q5o N b t hb] at y
 have q:Upd (· = g) J (J.setCell ⟨g,3,none⟩ (.bool true)):=(Upd.refl _ _).set1 _ _
 have D:NodS (J.setCell ⟨g,3,none⟩ (.bool true)) g N.shutAt0 R ch k (Fr S w1 J) L.shut m:=by
  refine⟨y,q.old o.re (fun e=>T e.symm),zc o.row q (fun i P e=> ?_),o.lk.upd q (fun i P e=>o.gS (e▸P)),Nat.le_trans o.bsle q.size,o.pay,o.gS,o.rS,o.bS,o.mS,Nat.lt_of_lt_of_le o.mlt q.size⟩;obtain⟨a1,hc⟩:=zv o.row i P;exact zx hc o.no (by decide) e
 have z1:=(qg K).size
 have U:=qj (And.intro (v.later D rfl z1 q.size) (And.intro (v.later o rfl z1 (Nat.le_refl _)) (And.intro z q)))
 clear o hL z y q D I x H hk
 generalize he:L.c.shut.2.2=W
 have C:=qj he
 clear he
 by_cases O:W=0
 ·subst O;go_wp2_with fail;go_ret;obtain⟨X,Y,z,q⟩:=qg U;rw[qg C];exact⟨rfl,X,(((qg K).mono (fun _ _ h=>h.elim)).trans (z.mono (fun i _ e=> .inl e))).trans (q.mono (fun i _ e=> .inr e))⟩
 ·go_upto_if 18 with fail;refine wp_cond_true (congrArg Value.bool (show (W != 0)=true by simpa using O)) ?_;go_wp2_with fail;go_ret;obtain⟨X,Y,z,q⟩:=qg U;rw[qg C];unfold NodeV.closes;rw[if_neg O];exact⟨rfl,Y,((qg K).mono (fun _ _ h=>h.elim)).trans (z.mono (fun i _ e=> .inl e))⟩
end
section
open Go.RowKit
structure CiE(w:World)(c m:Nat):Prop where
 at_:∃a b m2,w.heap[c]? = some (.cells #[.int .u64 a,.int .u64 b,.map (some m),.map (some m2)] 260 (0,0))
 em:EmM w m
theorem CiE.upd{T:Nat→Prop}{w w':World}{c m:Nat}(h:CiE w c m)(u:Upd T w w')(q:¬T c)(t:¬T m):CiE w' c m:=by
 obtain⟨⟨a,b,v,i⟩,o⟩:=h;exact⟨⟨a,b,v,u.old i q⟩,u.old o t⟩
theorem CiE.new{w w':World}{c m:Nat}(h:CiE w c m)(u:qq w w'):CiE w' c m:=h.upd u (fun h=>h) (fun h=>h)
theorem CiE.lt{w:World}{c m:Nat}(h:CiE w c m):c<w.heap.size∧m<w.heap.size:=by
 obtain⟨⟨a,b,q,i⟩,o⟩:=h;exact⟨zi i,zi o⟩
theorem CiE.cell{w:World}{c m:Nat}(h:CiE w c m):w.cell? ⟨c,2,none⟩=some (.map (some m)):=by
 obtain⟨⟨a,b,q,i⟩,o⟩:=h;exact qk i 2
def RelV.drain(R:RelV):RelV:= {R with drains:=true}
def NodeV.drain(N:NodeV):NodeV:= {N with drains:=true}
theorem qw6(r:Nat)(R:RelV)(w:World)(m:ReR w r R):Calls Tryz.prog 84 #[.pointer (some ⟨r,0,none⟩)] w fun e w'=>e = .returned (.tuple #[])∧ReR w' r R.drain∧Upd (· = r) w w':=by
 have t:=qo m 6;have q:=qk m 6;have i:ReR (w.setCell ⟨r,6,none⟩ (.bool true)) r R.drain:=zq m 6 (.bool true);have u:Upd (· = r) w (w.setCell ⟨r,6,none⟩ (.bool true)):=(Upd.refl _ _).set1 _ _;have o:=qj (And.intro i u);clear m i u;simp[RelV.cells] at q;go_enter Tryz.func84,Tryz.ntmps84;go_wp2_with fail;go_end0;exact⟨rfl,(qg o).1,(qg o).2⟩
theorem qr3(g:Nat)(N:NodeV)(w:World)(i:NoR w g N)(hd:N.drains=true):Calls Tryz.prog 41 #[.pointer (some ⟨g,0,none⟩)] w (qae (.int .i64 4) w):=by
 have m:w.cell? ⟨g,2,none⟩=some (.bool true):=hd▸qk i 2;clear i;go_enter Tryz.func41,Tryz.ntmps41;go_wp2_with fail;go_ret;exact⟨rfl,Q.refl _⟩
theorem qwv(g:Nat)(N:NodeV)(R:RelV)(w:World)(m:NoR w g N)(y:ReR w N.re R)(hd:N.drains=false):Calls Tryz.prog 41 #[.pointer (some ⟨g,0,none⟩)] w fun e w'=>e = .returned (.int .i64 0)∧NoR w' g N.drain∧ReR w' N.re R.drain∧Upd (fun i=>i=g∨i=N.re) w w':=by
 have v:g≠N.re:=zx m y (by decide);have J:w.cell? ⟨g,0,none⟩=some (.pointer (some ⟨N.re,0,none⟩)):=qk m 0;have K:w.cell? ⟨g,2,none⟩=some (.bool false):=hd▸qk m 2;have M:=qo m 2;have x:NoR (w.setCell ⟨g,2,none⟩ (.bool true)) g N.drain:=zq m 2 (.bool true);have u:Upd (· = g) w (w.setCell ⟨g,2,none⟩ (.bool true)):=(Upd.refl _ _).set1 _ _;have q:ReR (w.setCell ⟨g,2,none⟩ (.bool true)) N.re R:=u.old y (fun e=>v e.symm);have E:=qw6 N.re R _ q;have D:=qj (And.intro x u);clear m x u y q;go_enter Tryz.func41,Tryz.ntmps41;go_wp2_with fail;refine E.mono ?_;rintro e w1 ⟨rfl,t,C⟩;have z:=qg D;have o:NoR w1 g N.drain:=C.old z.1 v;have H:=(z.2.mono (fun i _ (e:i=g)=>Or.inl (b:=i=N.re) e)).trans (C.mono (fun i _ (e:i=N.re)=>Or.inr e));have I:=qj (And.intro o (And.intro t H));clear E D z o C t H J K M;go_wp2_with fail;go_ret;exact⟨rfl,qg I⟩
section
variable {w w':World}{g:Nat}{N:NodeV}{R:RelV}{ch:Int}{k:Nat}{S:Nat→Prop}{L:Lk}{m:Nat}
theorem NodS.drained(h:NodS w g N R ch k S L m)(v:NoR w' g N.drain)(x:ReR w' N.re R.drain)(u:Upd (fun i=>i=g∨i=N.re) w w'):NodS w' g N.drain R.drain ch k S L m:=by
 refine⟨v,x,zc h.row u (fun b y e=> ?_),h.lk.upd u (fun i q e=>e.elim (fun e=>h.gS (e▸q)) (fun e=>h.rS (e▸q))),Nat.le_trans h.bsle u.size,h.pay,h.gS,h.rS,h.bS,h.mS,Nat.lt_of_lt_of_le h.mlt u.size⟩;obtain⟨t,o⟩:=zv h.row b y;rcases e with e | e
 ·exact zx o h.no (by decide) e
 ·exact zx o h.re (by decide) e
end
attribute [local go_sem ↓ high] zl qaf qah
attribute [local go_sem] qa9 qb3 qb7 qy
theorem qsi(r:Nat)(R:RelV)(v n x:Int)(h:List Int)(w:World)(q:ReR w r R)(hd:R.drains=true)(y:h.length=32) :
  Calls Tryz.prog 81 #[.pointer (some ⟨r,0,none⟩),.int .i64 v,.int .u64 n,.agg (qw h).toArray,.int .i64 x] w fun e w'=>e = .returned (.tuple #[.int .u64 0,.int .i64 200])∧qq w w':=by
 have o:w.cell? ⟨r,6,none⟩=some (.bool true):=hd▸qk q 6
 clear q
 go_enter Tryz.func81,Tryz.ntmps81
 go_upto_region 1 with fail
 have i:qq w (w.alloc (.cells (qw h).toArray 35)):=(Upd.refl _ _).alloc _
 generalize w.alloc (.cells (qw h).toArray 35)=w1 at i ⊢
 generalize w.heap.size=B
 replace o:=i.cell o (fun h=>h)
 have t:=qj i
 clear i
 go_wp2_with fail
 go_ret2
 exact⟨rfl,qg t⟩
end
section
open Go.RowKit
def zar(ps o:List PeL)(G:Lk→Lk→Prop):Prop:=o=ps∨∃i p t q,ps[i]? = some p∧o=ps.set i ⟨p.ch,p.k,t,q⟩∧G p.L q
structure OfferOk(L:Lk)(n r:Nat)(x:Int)(h:List Int):Prop where
 ok:LkOkW L
 waits:L.waits=false
 few:L.c.news.length<1000000∧L.c.xs.length<1000000
 say:(L.c.offer n (qbq h) x).2.2=0→SayOk (L.c.offer n (qbq h) x).2.1
def Lk.offerW(L:Lk)(n r:Nat)(x:Int)(h:List Int):Lk:=L.acts (L.c.offer n (qbq h) x).1 (qab (qgl n r h)) (L.c.offer n (qbq h) x).2.1 (L.c.offer n (qbq h) x).2.2
attribute [local go_sem ↓ high] zl qaf qah
attribute [local go_sem] qa9 qb3 qb7 qy
section
variable (G:Nat→Prop)(g:Nat)(N:NodeV)(R:RelV)(m:Nat)(ps:List PeL)(n r:Nat)(x:Int)(h:List Int)
def qpd(w:World)(w':World):Prop:=∃i,NodM G w' g N R m i∧zar ps i (fun L o=>o=L.offerW n r x h)∧Upd G w w'
theorem q5e(w:World)(H:NodM G w g N R m ps)(hd:R.drains=false)(i:Nat)(p:PeL)(E:ps[i]? = some p)(a8:ps.length≤8)(I:OfferOk p.L n r x h)(hl:h.length=32)(hb:qbt h)(a2:n<2 ^ (8*8))(J:r<18446744073709551616)(a7:IntKind.u64.wrap x=(r:Int))(hx : -9223372036854775808≤x∧x≤9223372036854775807)(hT:Tabs w)(hA:ApD p.S) :
  Calls Tryz.prog 81 #[.pointer (some ⟨N.re,0,none⟩),.int .i64 (i:Int),.int .u64 (n:Int),.agg (qw h).toArray,.int .i64 x] w fun e w'=>∃id O:Int,e = .returned (.tuple #[.int .u64 id,.int .i64 O])∧qpd G g N R m ps n r x h w w':=by
 obtain⟨qs,b3,hI,hq⟩:=H.toI
 obtain⟨q,a6,hQ⟩:=hq i p E
 have b1:i<8:=by have:=(List.getElem?_eq_some_iff.1 E).1;omega
 have Y:w.cell? ⟨N.re,6,none⟩=some (.bool false):=hd▸qk H.re 6
 have C:=fun W (n:qq w W)=>qg3 N.re R qs W (hI.re.new n) (by omega) i q a6
 rw[hQ.lk] at C
 clear hI hq hQ
 go_enter Tryz.func81,Tryz.ntmps81
 go_upto_region 1 with fail
 have M:qq w (w.alloc (.cells (qw h).toArray 35)):=(Upd.refl _ _).alloc _
 have T:zt (w.alloc (.cells (qw h).toArray 35)) w.heap.size 0 32=some (qw h).toArray:=qaj (ql _ _) 32 (by rw[List.size_toArray,qal,hl])
 generalize w.alloc (.cells (qw h).toArray 35)=w1 at M T ⊢
 generalize w.heap.size=D at T ⊢
 replace Y:=M.cell Y (fun h=>h)
 have z:=C w1 M
 have N1:=qj M
 clear M C
 go_wp2_with fail
 refine z.mono ?_
 rintro e w2 ⟨rfl,q2⟩
 have P:=(qg N1).trans (q2.upd _)
 have r2:=qbg T (q2.upd (fun _=>False)) (fun h=>h)
 have X:=qj P
 have y:=zak p.k p.S p.L [] n r h x w2 ((H.lk i p E).new P) I.ok hl hb a2 J a7 hx I.say (qwz _ _ _ _) I.few (hT.new P) hA
 have hw:p.L.actW (p.L.c.offer n (qbq h) x) (qab (qgl n r h))=(p.L.offerW n r x h,ql3 (p.L.c.offer n (qbq h) x).2.1 (p.L.c.offer n (qbq h) x).2.2,(p.L.c.offer n (qbq h) x).2.2):=by
  unfold Lk.actW;rw[if_neg (by rw[I.waits];decide)];rfl
 rw[hw] at y
 clear z q2 P T N1 Y hw
 go_wp2_with fail
 refine y.mono ?_
 rintro e w3 ⟨rfl,hL,u3⟩
 have t:=(H.new (qg X)).link E u3 hL
 have c5:w3.cell? ⟨N.re,5,none⟩=some (.map (some m)):=by
  have:=qk t.re 5;rw[this];show some R.payments=_;rw[H.pay];rfl
 have o:(p.L.c.offer n (qbq h) x).2.2=0→PkOk (i:Int) (ql3 (p.L.c.offer n (qbq h) x).2.1 (p.L.c.offer n (qbq h) x).2.2).id:=fun e0=>by
  obtain⟨-,-,b2,-,-,-,-,-⟩:=(I.say e0).put.ok;have e:ql3 (p.L.c.offer n (qbq h) x).2.1 (p.L.c.offer n (qbq h) x).2.2=(p.L.c.offer n (qbq h) x).2.1:=by unfold ql3;rw[if_pos e0]
  rw[e];refine⟨?_,?_⟩
  ·simp[Lit.wf,IntKind.min,IntKind.max,IntKind.signed,IntKind.bits];omega
  ·simp[Lit.wf,IntKind.min,IntKind.max,IntKind.signed,IntKind.bits];omega
 have K:Upd G w w3:=((qg X).mono (fun _ _ h=>h.elim)).trans (u3.mono (fun b _ e=>H.geS i p E b e))
 have V:=qj K
 clear y hL u3 r2 K
 generalize (ql3 (p.L.c.offer n (qbq h) x).2.1 (p.L.c.offer n (qbq h) x).2.2).id=id at o ⊢
 generalize Z:(p.L.c.offer n (qbq h) x).2.2=O at o ⊢
 clear Z
 have a1:=t.ge.2.2.1
 by_cases h0:O=0
 ·subst h0;obtain⟨f,hf⟩:=q1e t.map (o rfl);have b0:=fun v=>(hf v).1
  have U:=qj (fun v=>t.paid (hf v).2);have HU:=qj (fun v=>(qg V).trans ((qnw w3 m (f v)).mono (fun i _ e=>by rw[e];exact a1)));clear t hf o X V;go_wp2_with fail;go_ret2;exact⟨_,_,rfl,_,qg U _,.inr ⟨i,p,_,_,E,rfl,rfl⟩,qg HU _⟩
 ·have U:=qj t;clear t o c5;go_upto_if 33 with fail;refine wp_cond_true (congrArg Value.bool (show (O != 0)=true by simpa using h0)) ?_;go_wp2_with fail;go_ret2;exact⟨_,_,rfl,_,qg U,.inr ⟨i,p,_,_,E,rfl,rfl⟩,qg V⟩
theorem q1c(w:World)(y:NodM G w g N R m ps)(hd:R.drains=false)(t:Int)(E:t<0∨(ps.length:Int)≤t)(K:Int)(O:h.length=32) :
  Calls Tryz.prog 81 #[.pointer (some ⟨N.re,0,none⟩),.int .i64 t,.int .u64 K,.agg (qw h).toArray,.int .i64 x] w fun e w'=>e = .returned (.tuple #[.int .u64 0,.int .i64 180])∧qq w w':=by
 obtain⟨M,z,C,-⟩:=y.toI
 have v:w.cell? ⟨N.re,6,none⟩=some (.bool false):=hd▸qk y.re 6
 have o:=fun W (n:qq w W)=>qt4 N.re R M W (C.re.new n) t (by rw[z];exact E)
 clear C
 go_enter Tryz.func81,Tryz.ntmps81
 go_upto_region 1 with fail
 have q:qq w (w.alloc (.cells (qw h).toArray 35)):=(Upd.refl _ _).alloc _
 generalize w.alloc (.cells (qw h).toArray 35)=w1 at q ⊢
 generalize w.heap.size=D
 replace v:=q.cell v (fun h=>h)
 have i:=o w1 q
 have I:=qj q
 clear q o y E
 go_wp2_with fail
 refine i.mono ?_
 rintro e P ⟨rfl,H⟩
 have J:=qj ((qg I).trans (H.upd _))
 clear i H v
 go_wp2_with fail
 go_ret2
 exact⟨rfl,qg J⟩
theorem q0t(w:World)(Y:NodM G w g N R m ps)(a2:N.shut.length=8)(E:Int)(nn:Int)(hl:h.length=32)
  (q:∀W,qq w W→Calls Tryz.prog 81 #[.pointer (some ⟨N.re,0,none⟩),.int .i64 E,.int .u64 nn,.agg (qw h).toArray,.int .i64 x] W fun e w'=>∃id t:Int,e = .returned (.tuple #[.int .u64 id,.int .i64 t])∧(R.drains=true→t=200)∧qpd G g N R m ps n r x h W w') :
  Calls Tryz.prog 37 #[.pointer (some ⟨g,0,none⟩),.int .i64 E,.int .u64 nn,.agg (qw h).toArray,.int .i64 x] w fun e w'=>∃id t:Int,e = .returned (.tuple #[.int .u64 id,.int .i64 t])∧(R.drains=true→t=200)∧qpd G g N R m ps n r x h w w':=by
 have O:w.cell? ⟨g,0,none⟩=some (.pointer (some ⟨N.re,0,none⟩)):=qk Y.no 0
 go_enter Tryz.func37,Tryz.ntmps37
 go_upto_region 1 with fail
 have K:qq w (w.alloc (.cells (qw h).toArray 35)):=(Upd.refl _ _).alloc _
 have U:zt (w.alloc (.cells (qw h).toArray 35)) w.heap.size 0 32=some (qw h).toArray:=qaj (ql _ _) 32 (by rw[List.size_toArray,qal,hl])
 generalize w.alloc (.cells (qw h).toArray 35)=w1 at K U ⊢
 generalize w.heap.size=D at U ⊢
 replace O:=K.cell O (fun h=>h)
 have Z:=q w1.drew (K.trans (Upd.refl _ _).drew)
 have X:=qj K
 clear K q
 go_wp2_with ((with_reducible first|rfl|refine' ut ?_ ?_;rotate_left|refine' uu ?_)<;>intros)
 refine Z.mono ?_
 rintro e w2 ⟨id,t,rfl,H,T,y,J,u2⟩
 have o:∀i:Nat,i<8→∃b,w2.cell? ⟨g,3+i,none⟩=some (.bool b):=fun i hi=>by
  obtain⟨b,hb⟩:∃b,N.shut[i]? = some b:=⟨_,List.getElem?_eq_getElem (by omega)⟩;exact⟨b,by rw[qk y.no (3+i),List.getElem?_toArray];exact qkn N i b hb⟩
 have C:Hid (qpd G g N R m ps n r x h w w2):=qj ⟨T,y,J,((qg X).mono (fun _ _ h=>h.elim)).trans u2.ofDrew⟩
 have V:=qj H
 clear Z y J u2 H U O X Y
 by_cases M:t=200
 ·subst M;by_cases z:0≤E
  ·by_cases P:E<8
   ·obtain⟨i,rfl⟩:=Int.eq_ofNat_of_zero_le z;obtain⟨b,c3⟩:=o i (by omega);clear o;cases b
    all_goals
     go_wp2_with ((with_reducible first|rfl|refine' ut ?_ ?_;rotate_left|refine' uu ?_)<;>intros);go_ret2;exact⟨_,_,rfl,fun _=>rfl,qg C⟩
   ·clear o;go_wp2_with ((with_reducible first|rfl|refine' ut ?_ ?_;rotate_left|refine' uu ?_)<;>intros);go_ret2;exact⟨_,_,rfl,fun _=>rfl,qg C⟩
  ·clear o;go_wp2_with ((with_reducible first|rfl|refine' ut ?_ ?_;rotate_left|refine' uu ?_)<;>intros);go_ret2;exact⟨_,_,rfl,fun _=>rfl,qg C⟩
 ·have I:¬R.drains=true:=fun e=>M (qg V e)
  have v:=qj I;have a1:(t != 200)=true:=by simpa using M
  clear I M V;by_cases z:0≤E
  ·by_cases P:E<8
   ·obtain⟨i,rfl⟩:=Int.eq_ofNat_of_zero_le z;obtain⟨b,c3⟩:=o i (by omega);clear o;cases b
    all_goals
     go_wp2_with ((with_reducible first|rfl|refine' ut ?_ ?_;rotate_left|refine' uu ?_)<;>intros);go_ret2;exact⟨_,_,rfl,fun e=>absurd e (qg v),qg C⟩
   ·clear o;go_wp2_with ((with_reducible first|rfl|refine' ut ?_ ?_;rotate_left|refine' uu ?_)<;>intros);go_ret2;exact⟨_,_,rfl,fun e=>absurd e (qg v),qg C⟩
  ·clear o;go_wp2_with ((with_reducible first|rfl|refine' ut ?_ ?_;rotate_left|refine' uu ?_)<;>intros);go_ret2;exact⟨_,_,rfl,fun e=>absurd e (qg v),qg C⟩
theorem za7(w:World)(v:NodM G w g N R m ps)(K:N.shut.length=8)(q:Int)(y:ps.length≤8)(U:∀(i:Nat) p,ps[i]? = some p→OfferOk p.L n r x h)(D:h.length=32)(T:qbt h)(I:n<2 ^ (8*8))(z:r<18446744073709551616)(M:IntKind.u64.wrap x=(r:Int))(Y : -9223372036854775808≤x∧x≤9223372036854775807)(P:Tabs w)(O:∀(i:Nat) p,ps[i]? = some p→ApD p.S) :
  Calls Tryz.prog 37 #[.pointer (some ⟨g,0,none⟩),.int .i64 q,.int .u64 (n:Int),.agg (qw h).toArray,.int .i64 x] w fun e w'=>∃id H:Int,e = .returned (.tuple #[.int .u64 id,.int .i64 H])∧(R.drains=true→H=200)∧qpd G g N R m ps n r x h w w':=by
 refine q0t G g N R m ps n r x h w v K q n D (fun W C=> ?_)
 have o:∀E,qq W E→qpd G g N R m ps n r x h W E:=fun E t=>⟨ps,(v.new C).new t,.inl rfl,t.mono (fun _ _ h=>h.elim)⟩
 cases hd:R.drains with
 | true =>
  refine(qsi N.re R q n x h W (v.new C).re hd D).mono ?_;rintro e w' ⟨rfl,t⟩;exact⟨_,_,rfl,fun _=>rfl,o _ t⟩
 | false =>
  by_cases X:q<0∨(ps.length:Int)≤q
  ·refine(q1c G g N R m ps x h W (v.new C) hd q X n D).mono ?_;rintro e w' ⟨rfl,t⟩;exact⟨_,_,rfl,(fun e=>by cases e),o _ t⟩
  ·obtain⟨i,rfl⟩:=Int.eq_ofNat_of_zero_le (show 0≤q by omega);obtain⟨p,J⟩:∃p,ps[i]? = some p:=⟨_,List.getElem?_eq_getElem (by omega)⟩;refine(q5e G g N R m ps n r x h W (v.new C) hd i p J y (U i p J) D T I z M Y (P.new C) (O i p J)).mono ?_;rintro e w' ⟨id,H,rfl,V⟩;exact⟨_,_,rfl,(fun e=>by cases e),V⟩
end
end
end Go.Proofs.YtfmkdoachjgjbaaGreatDoor
