/-
  Hear, by the kind's own hearer.
-/
import Derived.Test.YtfmkdoachjgjbaaGreatDoorMbg
import Derived.Test.YtfmkdoachjgjbaaGreatDoorHsg
import Derived.Test.YtfmkdoachjgjbaaGreatDoorMcc
import Derived.Test.YtfmkdoachjgjbaaGreatDoorMbd
import Derived.Test.YtfmkdoachjgjbaaGreatDoorRows
import Derived.Test.YtfmkdoachjgjbaaGreatDoorMaa
import Derived.Shelf.Strings.OnBuilder
import Derived.Test.YtfmkdoachjgjbaaGreatDoorMae
set_option maxRecDepth 100000
set_option maxHeartbeats 1000000
set_option linter.unusedVariables false
set_option linter.unusedSimpArgs false
namespace Go.Proofs.YtfmkdoachjgjbaaGreatDoor
section
open Go.RowKit
attribute [local go_sem ↓ high] ze zf zg zj
attribute [local go_sem] qau qav qaw qy
theorem qtt(g:Nat)(S:Nat→Prop)(c:Ch)(m:MsgV)(y:MsgOk m)(w:World)(h:ChS w g S c)(q:qap m=false∨m.ch≠c.s.ch) :
  Calls Tryz.prog 107 #[.pointer (some ⟨g,0,none⟩),.agg m.cells.toArray] w (qar (.tuple #[qcb,.int .i64 1]) w):=by
 obtain⟨N,O,J,h⟩:=h
 go_enter Tryz.func107,Tryz.ntmps107
 go_upto_region 1 with fail
 have t:=qa6 w m y.len
 have v:qq w (w.alloc (.cells m.cells.toArray 101)):=(Upd.refl _ _).alloc _
 generalize w.alloc (.cells m.cells.toArray 101)=w1 at v t ⊢
 generalize w.heap.size=A at t ⊢
 have D:=t.row
 have i:=fun W=>qg6 m y W
 have H:=qj t
 have E:=qj (h.new v)
 have C:=qj v
 clear h t v y
 cases z:qap m with
 | false =>
  rw[z] at i;go_wp2_with ((with_reducible first|rfl|refine' ut ?_ ?_;rotate_left|refine' uu ?_)<;>intros);refine(i _).mono ?_;rintro e x ⟨rfl,o⟩;have o:qq w1 x:=o.ofDrew;clear D;go_wp2_with ((with_reducible first|rfl|refine' ut ?_ ?_;rotate_left|refine' uu ?_)<;>intros);go_ret2;exact⟨rfl,(qg C).trans o⟩
 | true =>
  rw[z] at i;have I:¬m.ch=c.s.ch:=by
   rcases q with e | e
   ·rw[z] at e;cases e
   ·exact e
  clear q;go_wp2_with ((with_reducible first|rfl|refine' ut ?_ ?_;rotate_left|refine' uu ?_)<;>intros);refine(i _).mono ?_;rintro e x ⟨rfl,o⟩;have o:qq w1 x:=o.ofDrew;have M:=((qg H).new o).cells.2.1;have K:x.cell? ⟨g,0,none⟩=some (.int .u32 c.s.ch):=((qg E).new o).toR.ch;clear D i;go_wp2_with ((with_reducible first|rfl|refine' ut ?_ ?_;rotate_left|refine' uu ?_)<;>intros);go_ret2;exact⟨rfl,(qg C).trans o⟩
theorem q37(F:FuncId)(g:Nat)(S:Nat→Prop)(c:Ch)(m:MsgV)(J:MsgOk m)(w:World)(h:ChS w g S c)(K:qap m=true)(I:m.ch=c.s.ch)(R:Value→Int→World→World→Prop)
  (hE:∀args w,(callFunc F args).run Tryz.prog w = .ok (.enter F args) w)
  (y:∀ {w:World} {b:Nat},qhf w b→(Instr.lookup 241 (.map (some b)) (.int .i64 m.kind) true).run Tryz.prog w = .ok (.tuple #[.func (.func F) #[] #[],.bool true]) w)
  (hF:∀W,qq w W→Calls Tryz.prog F #[.pointer (some ⟨g,0,none⟩),.agg m.cells.toArray] W fun e w'=>∃v n,e = .returned (.tuple #[v,.int .i64 n])∧R v n W w') :
  Calls Tryz.prog 107 #[.pointer (some ⟨g,0,none⟩),.agg m.cells.toArray] w fun e w'=>∃v n W,e = .returned (.tuple #[v,.int .i64 n])∧qq w W∧R v n W w':=by
 obtain⟨lv,nv,av,h⟩:=h
 go_enter Tryz.func107,Tryz.ntmps107
 go_upto_region 1 with fail
 have x:=qa6 w m J.len
 have C:qq w (w.alloc (.cells m.cells.toArray 101)):=(Upd.refl _ _).alloc _
 generalize w.alloc (.cells m.cells.toArray 101)=w1 at C x ⊢
 generalize w.heap.size=A at x ⊢
 have rA:=x.row
 have i:=fun W=>qg6 m J W
 rw[K] at i
 have E:=qj x
 have Y:=qj (h.new C)
 have N1:=qj C
 clear h x C J
 go_wp2_with ((with_reducible first|rfl|refine' ut ?_ ?_;rotate_left|refine' uu ?_)<;>intros)
 refine(i _).mono ?_
 rintro e D ⟨rfl,q⟩
 have q:qq w1 D:=q.ofDrew
 have T:=((qg E).new q).cells.2.1
 rw[I] at T
 have d0:D.cell? ⟨g,0,none⟩=some (.int .u32 c.s.ch):=((qg Y).new q).toR.ch
 have H:=qj q
 clear rA i q
 go_upto_region 3 with ((with_reducible first|rfl|refine' ut ?_ ?_;rotate_left|refine' uu ?_)<;>intros)
 have U:D.drew.cell? ⟨A,0,none⟩=some (.int .i64 m.kind):=((qg E).new (qg H)).cells.1
 have O:=@y
 clear T d0 y
 refine qay (fun w'=>w'.cell? ⟨A,0,none⟩=some (.int .i64 m.kind)) [2] (.of [0,1,2,3,4,5,6,7,8]) (by kernel_rfl) (by kernel_rfl) U ?_
 simp only[Plan.of]
 go_wp2_with ((with_reducible first|rfl|refine' ut ?_ ?_;rotate_left|refine' uu ?_)<;>intros)
 refine(qtw _).mono ?_
 rintro e N ⟨b,rfl,z,V⟩
 have z:qq D N:=z.ofDrew
 have hl:=O V
 have o:=((qg E).new (qg H)).new z
 have t:=o.cells.1
 have M:=o.row
 have P:=qj (((qg N1).trans (qg H)).trans z)
 clear U z V o O
 go_wp2_with ((with_reducible first|rfl|refine' ut ?_ ?_;rotate_left|refine' uu ?_)<;>intros)
 refine⟨t,?_⟩
 go_wp2_with ((with_reducible first|rfl|refine' ut ?_ ?_;rotate_left|refine' uu ?_)<;>intros)
 refine(hF N (qg P)).mono ?_
 rintro e w4 ⟨v,n,rfl,X⟩
 have Z:=qj X
 clear M t hl X
 go_wp2_with ((with_reducible first|rfl|refine' ut ?_ ?_;rotate_left|refine' uu ?_)<;>intros)
 go_ret2
 exact⟨v,n,N,rfl,qg P,qg Z⟩
def qdx(g:Nat)(S:Nat→Prop)(w:World)(c':Ch)(i:List MsgV)(n:Int)(e:Ending)(w':World):Prop :=
 ∃v,e = .returned (.tuple #[v,.int .i64 n])∧qbp w.heap.size w' v i∧ChS w' g (Fr S w w') c'∧Upd S w w'
theorem qg1(F:FuncId)(g:Nat)(S:Nat→Prop)(c c':Ch)(y:List MsgV)(n:Int)(m:MsgV)(E:MsgOk m)(w:World)(h:ChS w g S c)(x:qap m=true)(o:m.ch=c.s.ch)
  (z:∀args w,(callFunc F args).run Tryz.prog w = .ok (.enter F args) w)
  (t:∀ {w:World} {b:Nat},qhf w b→(Instr.lookup 241 (.map (some b)) (.int .i64 m.kind) true).run Tryz.prog w = .ok (.tuple #[.func (.func F) #[] #[],.bool true]) w)
  (C:∀W,qq w W→Calls Tryz.prog F #[.pointer (some ⟨g,0,none⟩),.agg m.cells.toArray] W (qdx g S W c' y n)) :
  Calls Tryz.prog 107 #[.pointer (some ⟨g,0,none⟩),.agg m.cells.toArray] w (qdx g S w c' y n):=by
 refine(q37 F g S c m E w h x o (fun v k W w'=>k=n∧qbp W.heap.size w' v y∧ChS w' g (Fr S W w') c'∧Upd S W w') z t (fun W i=>(C W i).mono ?_)).mono ?_
 ·rintro e w' ⟨v,q,H⟩;exact⟨v,n,q,rfl,H⟩
 ·rintro e w' ⟨v,k,W,q,i,rfl,I,D,J⟩;exact⟨v,q,qeg I i.size,D.later i.size,(i.mono (T:=S) (fun _ _ h=>h.elim)).trans J⟩
theorem q33(g:Nat)(S:Nat→Prop)(c:Ch)(m:MsgV)(t:MsgOk m)(w:World)(h:ChS w g S c)(q:qap m=true)(o:m.ch=c.s.ch)(z:m.kind=3)(i:c.xs.length<1000000) :
  Calls Tryz.prog 107 #[.pointer (some ⟨g,0,none⟩),.agg m.cells.toArray] w (qdx g S w (c.hearAdd m).1 [] (c.hearAdd m).2) :=
 qg1 _ g S c _ _ _ m t w h q o (enters_of Tryz.func176 (by kernel_rfl) rfl) (fun v=>by rw[z];exact q90 v) (fun W D=>(qts g S c m t W (h.new D) i).mono (by
  rintro e w' ⟨y,x,C⟩;exact⟨_,y,qbp.nil _ _,x,C⟩))
theorem qz4(g:Nat)(S:Nat→Prop)(c:Ch)(m:MsgV)(q:MsgOk m)(w:World)(h:ChS w g S c)(o:qap m=true)(i:m.ch=c.s.ch)(y:m.kind=5) :
  Calls Tryz.prog 107 #[.pointer (some ⟨g,0,none⟩),.agg m.cells.toArray] w (qdx g S w (c.hearFail m).1 [] (c.hearFail m).2) :=
 qg1 _ g S c _ _ _ m q w h o i (enters_of Tryz.func178 (by kernel_rfl) rfl) (fun t=>by rw[y];exact q92 t) (fun W C=>(qrq g S c m q.len W (h.new C)).mono (by
  rintro e w' ⟨x,v,z⟩;exact⟨_,x,qbp.nil _ _,v,z⟩))
theorem qpw(g:Nat)(S:Nat→Prop)(c:Ch)(m:MsgV)(q:MsgOk m)(w:World)(h:ChS w g S c)(o:qap m=true)(i:m.ch=c.s.ch)(y:m.kind=8) :
  Calls Tryz.prog 107 #[.pointer (some ⟨g,0,none⟩),.agg m.cells.toArray] w (qdx g S w c.hearShut.1 [] c.hearShut.2) :=
 qg1 _ g S c _ _ _ m q w h o i (enters_of Tryz.func181 (by kernel_rfl) rfl) (fun t=>by rw[y];exact q95 t) (fun W C=>(qrt g S c m q.len W (h.new C)).mono (by
  rintro e w' ⟨x,v,z⟩;exact⟨_,x,qbp.nil _ _,v,z⟩))
theorem qtu(g:Nat)(S:Nat→Prop)(c:Ch)(m:MsgV)(t:MsgOk m)(w:World)(h:ChS w g S c)(q:qap m=true)(o:m.ch=c.s.ch)(E:m.kind=7)(i:qq3 c)(z:Tb w)(y:Apart S) :
  Calls Tryz.prog 107 #[.pointer (some ⟨g,0,none⟩),.agg m.cells.toArray] w (qdx g S w (c.hearRevoke m).1 [] (c.hearRevoke m).2) :=
 qg1 _ g S c _ _ _ m t w h q o (enters_of Tryz.func180 (by kernel_rfl) rfl) (fun x=>by rw[E];exact q94 x) (fun W v=>(qni g S c m t W (h.new v) i (z.new v) y).mono (by
  rintro e w' ⟨D,C,H⟩;exact⟨_,D,qbp.nil _ _,C,H⟩))
theorem qz5(g:Nat)(S:Nat→Prop)(c:Ch)(m:MsgV)(z:MsgOk m)(w:World)(h:ChS w g S c)(x:qap m=true)(o:m.ch=c.s.ch)(K:m.kind=6)(H:Tb w)(E:Apart S)(t:c.s.peer.size≤100000000)(i:0≤c.s.ch∧c.s.ch<4294967296)(q:c.k.heard<4294967295)(y:c.xs.length≤16) :
  Calls Tryz.prog 107 #[.pointer (some ⟨g,0,none⟩),.agg m.cells.toArray] w (qdx g S w (c.hearSign m).1 (c.hearSign m).2.1 (c.hearSign m).2.2) :=
 qg1 _ g S c _ _ _ m z w h x o (enters_of Tryz.func179 (by kernel_rfl) rfl) (fun D=>by rw[K];exact q93 D) (fun W C=>(qru g S c m z W (h.new C) (H.new C) E t i q y).mono (by
  rintro e w' ⟨v,J,M,I,N⟩;exact⟨v,J,M,I,N⟩))
end
section
open Go.RowKit
structure Two(w0 w:World)(gA gB:Nat)(SA SB:Nat→Prop)(a b:Ch):Prop where
 A:ChS w gA SA a
 B:ChS w gB SB b
 geA:∀k,SA k→w0.heap.size≤k
 geB:∀k,SB k→w0.heap.size≤k
 sep:∀k,SA k→¬SB k
 n:qq w0 w
section
variable {w0 w w':World}{gA gB:Nat}{SA SB:Nat→Prop}{a b a' b':Ch}
theorem Two.new(h:Two w0 w gA gB SA SB a b)(u:qq w w'):Two w0 w' gA gB SA SB a b:=⟨h.A.new u,h.B.new u,h.geA,h.geB,h.sep,h.n.trans u⟩
theorem Two.swap(h:Two w0 w gA gB SA SB a b):Two w0 w gB gA SB SA b a:=⟨h.B,h.A,h.geB,h.geA,fun k m i=>h.sep k i m,h.n⟩
structure Off(w:World)(SA SB:Nat→Prop)(K:Nat):Prop where
 lt:K<w.heap.size
 a:¬SA K
 b:¬SB K
theorem Off.new{K:Nat}(h:Off w SA SB K)(u:w.heap.size≤w'.heap.size):Off w' SA SB K:=⟨by have:=h.lt;omega,h.a,h.b⟩
theorem Off.fresh{K:Nat}(h:Two w0 w gA gB SA SB a b)(m:w.heap.size≤K)(i:K<w'.heap.size):Off w' SA SB K :=
 ⟨i,fun k=>by have:=h.A.lt K k;omega,fun k=>by have:=h.B.lt K k;omega⟩
theorem Two.put{K:Nat}(h:Two w0 w gA gB SA SB a b)(o:Off w SA SB K)(q:w0.heap.size≤K)(u:Upd (· = K) w w'):Two w0 w' gA gB SA SB a b :=
 ⟨h.A.upd u (fun k m e=>o.a (e▸m)),h.B.upd u (fun k m e=>o.b (e▸m)),h.geA,h.geB,h.sep,h.n.then u (fun i t e=>by omega)⟩
end
theorem qwy(g:Nat)(S:Nat→Prop)(c:Ch)(n:Int)(h:List Int)(i:Int)(w:World)(t:ChS w g S c)(o:h.length=32)(q:qbt h)(v:0≤n∧n<18446744073709551616)(x : -9223372036854775808≤i∧i≤9223372036854775807)(m:c.news.length<1000000∧c.xs.length<1000000) :
  Calls Tryz.prog 47 #[.pointer (some ⟨g,0,none⟩),.int .u64 n,.agg (qw h).toArray,.int .i64 i] w fun e w' =>
   e = .returned (.tuple #[.agg (c.offer n (qbq h) i).2.1.cells.toArray,.int .i64 (c.offer n (qbq h) i).2.2])∧ChS w' g (Fr S w w') (c.offer n (qbq h) i).1∧Upd S w w':=by
 have:=q0v g S c n (qbq h) i w t v x (by rw[qf8 o];exact q) m
 rw[qf8 o] at this
 exact this
theorem qy0(g:Nat)(S:Nat→Prop)(c:Ch)(w:World)(h:ChS w g S c):Calls Tryz.prog 23 #[.pointer (some ⟨g,0,none⟩)] w (qar (.agg #[.int .u64 c.loc,.int .u64 c.rem]) w):=by
 obtain⟨m,o,i,h⟩:=h;exact qmy g _ w h.toR
theorem qp3(g:Nat)(S:Nat→Prop)(c:Ch)(w:World)(h:ChS w g S c):Calls Tryz.prog 20 #[.pointer (some ⟨g,0,none⟩)] w fun e w'=>∃u,e = .returned u∧qq w w'∧((∃a k,u = .slice a 0 k∧c.xs=[])∨∃i cap,u = .slice (some ⟨i,0,none⟩) c.xs.length cap∧w.heap.size≤i∧qdf w' i 0 c.xs):=by
 obtain⟨o,q,m,h⟩:=h;exact qt6 g _ c.xs (by have:=h.ok.few;omega) w h.toI
structure Lk where
 c:Ch
 j:Jo
 rest:ByteArray
 out:ByteArray
 ev:Value
 ticks:Int
 dead:Bool
 broken:Bool
 waits:Bool
def Lk.v(l:Lk)(sp en lo:Nat):LinkV:=⟨sp,en,lo,l.out,l.ev,l.ticks,l.dead,l.broken,l.waits⟩
structure LkP(w:World)(g:Nat)(S:Nat→Prop)(l:Lk)(sp en lo:Nat)(SC SJ:Nat→Prop):Prop where
 at_:LkR w g (l.v sp en lo)
 spl:SpR w sp l.rest
 chn:ChS w en SC l.c
 jou:JoS w lo SJ l.j
 inG:S g
 inS:S sp
 inC:∀k,SC k→S k
 inJ:∀k,SJ k→S k
 gC:¬SC g
 gJ:¬SJ g
 sC:¬SC sp
 sJ:¬SJ sp
 cJ:∀k,SC k→¬SJ k
 lt:∀k,S k→k<w.heap.size
def LkS(w:World)(g:Nat)(S:Nat→Prop)(l:Lk):Prop:=∃sp en lo SC SJ,LkP w g S l sp en lo SC SJ
section
variable {w w':World}{g:Nat}{S T:Nat→Prop}{l:Lk}{sp en lo:Nat}{SC SJ:Nat→Prop}
theorem LkP.upd(h:LkP w g S l sp en lo SC SJ)(u:Upd T w w')(hd:∀k,S k→¬T k):LkP w' g S l sp en lo SC SJ :=
 ⟨u.old h.at_ (hd g h.inG),u.old h.spl (hd sp h.inS),h.chn.upd u (fun k i=>hd k (h.inC k i)),h.jou.upd u (fun k i=>hd k (h.inJ k i)),h.inG,h.inS,h.inC,h.inJ,h.gC,h.gJ,h.sC,h.sJ,h.cJ,fun k i=>Nat.lt_of_lt_of_le (h.lt k i) u.size⟩
theorem LkS.upd(h:LkS w g S l)(u:Upd T w w')(hd:∀k,S k→¬T k):LkS w' g S l:=by
 obtain⟨sp,en,lo,SC,SJ,h⟩:=h;exact⟨sp,en,lo,SC,SJ,h.upd u hd⟩
theorem LkS.new(h:LkS w g S l)(u:qq w w'):LkS w' g S l:=h.upd u (fun _ _ h=>h)
theorem LkP.new(h:LkP w g S l sp en lo SC SJ)(u:qq w w'):LkP w' g S l sp en lo SC SJ:=h.upd u (fun _ _ h=>h)
theorem LkS.lt(h:LkS w g S l):∀k,S k→k<w.heap.size:=by
 obtain⟨sp,en,lo,SC,SJ,h⟩:=h;exact h.lt
theorem LkP.ne(h:LkP w g S l sp en lo SC SJ):g≠sp:=zx h.at_ h.spl (by decide)
theorem LkP.wider(h:LkP w g S l sp en lo SC SJ)(i:∀k,S k→T k)(m:∀k,T k→k<w.heap.size):LkP w g T l sp en lo SC SJ :=
 ⟨h.at_,h.spl,h.chn,h.jou,i g h.inG,i sp h.inS,fun k e=>i k (h.inC k e),fun k e=>i k (h.inJ k e),h.gC,h.gJ,h.sC,h.sJ,h.cJ,m⟩
theorem LkP.chan(h:LkP w g S l sp en lo SC SJ)(u:Upd SC w w'){c':Ch}(q:ChS w' en (Fr SC w w') c'):LkP w' g (Fr S w w') {l with c:=c'} sp en lo (Fr SC w w') SJ:=by
 have m:∀k,Fr SC w w' k→k<w.heap.size→SC k:=fun k i t=>i.elim id (fun e=>by omega)
 refine⟨u.old h.at_ h.gC,u.old h.spl h.sC,q,h.jou.upd u (fun k i e=>h.cJ k e i),.inl h.inG,.inl h.inS,?_,fun k i=> .inl (h.inJ k i),?_,h.gJ,?_,h.sJ,?_,?_⟩
 ·rintro k (i | i)
  ·exact .inl (h.inC k i)
  ·exact .inr i
 ·exact fun e=>h.gC (m g e (h.lt g h.inG))
 ·exact fun e=>h.sC (m sp e (h.lt sp h.inS))
 ·exact fun k i o=>h.cJ k (m k i (h.jou.lt k o)) o
 ·rintro k (i | i)
  ·exact Nat.lt_of_lt_of_le (h.lt k i) u.size
  ·exact i.2
theorem LkP.jour(h:LkP w g S l sp en lo SC SJ)(u:Upd SJ w w'){o:Jo}(q:JoS w' lo (Fr SJ w w') o):LkP w' g (Fr S w w') {l with j:=o} sp en lo SC (Fr SJ w w'):=by
 have m:∀k,Fr SJ w w' k→k<w.heap.size→SJ k:=fun k i v=>i.elim id (fun e=>by omega)
 refine⟨u.old h.at_ h.gJ,u.old h.spl h.sJ,h.chn.upd u (fun k i e=>h.cJ k i e),q,.inl h.inG,.inl h.inS,fun k i=> .inl (h.inC k i),?_,h.gC,?_,h.sC,?_,?_,?_⟩
 ·rintro k (i | i)
  ·exact .inl (h.inJ k i)
  ·exact .inr i
 ·exact fun e=>h.gJ (m g e (h.lt g h.inG))
 ·exact fun e=>h.sJ (m sp e (h.lt sp h.inS))
 ·exact fun k i t=>h.cJ k i (m k t (h.chn.lt k i))
 ·rintro k (i | i)
  ·exact Nat.lt_of_lt_of_le (h.lt k i) u.size
  ·exact i.2
theorem LkP.put(h:LkP w g S l sp en lo SC SJ){i:Nat}{x:Value}{l':Lk}(q:(l.v sp en lo).cells.toArray.setIfInBounds i x=(l'.v sp en lo).cells.toArray)(y:l'.rest=l.rest)(o:l'.c=l.c)(t:l'.j=l.j) :
  LkP (w.setCell ⟨g,i,none⟩ x) g S l' sp en lo SC SJ:=by
 have u:Upd (· = g) w (w.setCell ⟨g,i,none⟩ x):=(Upd.refl _ _).set1 i x
 refine⟨?_,?_,?_,?_,h.inG,h.inS,h.inC,h.inJ,h.gC,h.gJ,h.sC,h.sJ,h.cJ,fun k m=>Nat.lt_of_lt_of_le (h.lt k m) u.size⟩
 ·have:=zq h.at_ i x;rw[q] at this;exact this
 ·rw[y];exact u.old h.spl (fun e=>h.ne e.symm)
 ·rw[o];exact h.chn.upd u (fun k m e=>h.gC (e▸m))
 ·rw[t];exact h.jou.upd u (fun k m e=>h.gJ (e▸m))
end
theorem LkP.put_out{w:World}{g:Nat}{S:Nat→Prop}{l:Lk}{sp en lo:Nat}{SC SJ:Nat→Prop}(h:LkP w g S l sp en lo SC SJ)(s:ByteArray):LkP (w.setCell ⟨g,3,none⟩ (.string s)) g S {l with out:=s} sp en lo SC SJ:=h.put rfl rfl rfl rfl
theorem LkP.put_ticks{w:World}{g:Nat}{S:Nat→Prop}{l:Lk}{sp en lo:Nat}{SC SJ:Nat→Prop}(h:LkP w g S l sp en lo SC SJ)(n:Int):LkP (w.setCell ⟨g,5,none⟩ (.int .i64 n)) g S {l with ticks:=n} sp en lo SC SJ:=h.put rfl rfl rfl rfl
theorem LkP.put_dead{w:World}{g:Nat}{S:Nat→Prop}{l:Lk}{sp en lo:Nat}{SC SJ:Nat→Prop}(h:LkP w g S l sp en lo SC SJ)(b:Bool):LkP (w.setCell ⟨g,6,none⟩ (.bool b)) g S {l with dead:=b} sp en lo SC SJ:=h.put rfl rfl rfl rfl
def Lk.new(c:Ch):Lk:=⟨c,.new,⟨#[]⟩,⟨#[]⟩,qcb,0,false,false,false⟩
theorem qcy(n i:Nat)(w:World)(o:1≤i)(q:i≤8)(z:n<2 ^ (8*i)) :
  Calls Tryz.prog 48 #[.int .u64 n,.int .i64 i] w (qar (.string (zr n i)) w):=by
 go_enter Tryz.func48,Tryz.ntmps48
 go_upto_region 2 with fail
 have t:Wr (w.alloc (.cells #[.string ⟨#[]⟩] 174)) w.heap.size ⟨#[]⟩:=ql _ _
 have x:qq w (w.alloc (.cells #[.string ⟨#[]⟩] 174)):=(Upd.refl _ _).alloc _
 have D:¬w.heap.size<w.heap.size:=Nat.lt_irrefl _
 generalize w.alloc (.cells #[.string ⟨#[]⟩] 174)=w1 at t x ⊢
 have K:=qj x
 have J:=qj D
 generalize y:w.heap.size=B at t J ⊢
 have H:=qj y
 clear x y D
 have e0:(⟨#[]⟩:ByteArray)++zr n i=zr n i:=ByteArray.empty_append
 have m:=qda B n i ⟨#[]⟩ w1 t o q z (by show (0:Nat)≤_;omega)
 rw[e0] at m
 generalize C:zr n i=v at m
 have I:=qj C
 clear e0 t z o q C
 go_wp2_with fail
 refine m.mono ?_
 rintro e P ⟨rfl,E,N⟩
 have M:=qj ((qg K).then E (fun k O e=>by have:=qg H;omega))
 clear m E
 go_wp2_with fail
 refine(qe3 _ _ _ N).mono ?_
 rintro e R ⟨rfl,rfl⟩
 go_wp2_with fail
 go_ret
 exact⟨by rw[qg I];rfl,qg M⟩
attribute [local go_sem ↓ high] zl qaf qah
attribute [local go_sem] qa9 qb3 qb7 qy
theorem qih(h:List Int)(w:World)(C:h.length=32) :
  Calls Tryz.prog 49 #[.agg (qw h).toArray] w (qar (.string (strOfNums h)) w):=by
 go_enter Tryz.func49,Tryz.ntmps49
 go_upto_region 1 with fail
 have v:=ql w (.cells (qw h).toArray 35)
 have y:qq w (w.alloc (.cells (qw h).toArray 35)):=(Upd.refl _ _).alloc _
 generalize w.alloc (.cells (qw h).toArray 35)=w1 at v y ⊢
 generalize w.heap.size=B at v ⊢
 have x:(convert 95 9 (.slice (some ⟨B,0,none⟩) 32 32)).run Tryz.prog w1 = .ok (.string (strOfNums h)) w1:=by
  refine run_convert_bytes_arg w1 95 5 Tryz.underlying95 Tryz.underlying5 B 0 32 32 h C (fun i D=> ?_) 9 Tryz.underlying9;have m:i<h.length:=by omega
  rw[Nat.zero_add,qk v i,List.getElem?_toArray];unfold qw;rw[List.getElem?_map,List.getElem?_eq_getElem m];simp[List.getD,List.getElem?_eq_getElem m]
 generalize o:strOfNums h=q at x
 have t:=qj o
 clear o
 have z:=qj y
 clear y
 go_wp2_with fail
 go_ret
 exact⟨by rw[qg t];rfl,qg z⟩
end
section
open Go.RowKit
def zbp(n:Nat):Nat:=if n=156 then 114 else if n=165 then 150 else if n=166 then 125 else if n=169 then 151 else if n=240 then 163 else if n=241 then 184 else if n=276 then 195 else if n=277 then 207 else n
def zbr(n:Nat):Nat:=if n=0 then 0 else if n=3 then 3 else if n=4 then 4 else if n=5 then 5 else if n=9 then 9 else if n=20 then 20 else if n=31 then 163 else if n=37 then 95 else if n=70 then 209 else if n=72 then 211 else if n=75 then 217 else if n=76 then 218 else if n=80 then 100 else if n=127 then 279 else if n=164 then 292 else n
def za1:Go.Shelf.Ren:=⟨zbp,zbr,fun n=>n⟩
theorem zbq:Lays.n156 Tryz.prog za1 where
 mixed:=by kernel_rfl
 f156:=by kernel_rfl
 f165:=by kernel_rfl
 f166:=by kernel_rfl
 f169:=by kernel_rfl
 f240:=by kernel_rfl
 f241:=by kernel_rfl
 f276:=by kernel_rfl
 f277:=by kernel_rfl
 t0:=Tryz.underlying0
 a0:=Tryz.isAgg0
 z0:=Tryz.sizeOf0
 v0:=Tryz.zeroValue0
 t3:=Tryz.underlying3
 a3:=Tryz.isAgg3
 z3:=Tryz.sizeOf3
 v3:=Tryz.zeroValue3
 t4:=Tryz.underlying4
 a4:=Tryz.isAgg4
 z4:=Tryz.sizeOf4
 v4:=Tryz.zeroValue4
 t9:=Tryz.underlying9
 a9:=Tryz.isAgg9
 z9:=Tryz.sizeOf9
 v9:=Tryz.zeroValue9
 t20:=Tryz.underlying20
 a20:=Tryz.isAgg20
 z20:=Tryz.sizeOf20
 v20:=Tryz.zeroValue20
 t31:=Tryz.underlying163
 a31:=Tryz.isAgg163
 z31:=Tryz.sizeOf163
 v31:=Tryz.zeroValue163
 t37:=Tryz.underlying95
 a37:=Tryz.isAgg95
 z37:=Tryz.sizeOf95
 v37:=Tryz.zeroValue95
 t70:=Tryz.underlying209
 a70:=Tryz.isAgg209
 z70:=Tryz.sizeOf209
 v70:=Tryz.zeroValue209
 t72:=Tryz.underlying211
 a72:=Tryz.isAgg211
 z72:=Tryz.sizeOf211
 v72:=Tryz.zeroValue211
 t75:=Tryz.underlying217
 a75:=Tryz.isAgg217
 z75:=Tryz.sizeOf217
 v75:=Tryz.zeroValue217
 t76:=Tryz.underlying218
 a76:=Tryz.isAgg218
 z76:=Tryz.sizeOf218
 v76:=Tryz.zeroValue218
 t127:=Tryz.underlying279
 a127:=Tryz.isAgg279
 z127:=Tryz.sizeOf279
 v127:=Tryz.zeroValue279
 t164:=Tryz.underlying292
 a164:=Tryz.isAgg292
 z164:=Tryz.sizeOf292
 v164:=Tryz.zeroValue292
theorem zbs:Builder.Extra Tryz.prog za1 where
 sizeBuilder:=by kernel_rfl
 liesBuilder:=by kernel_rfl
 t5:=Tryz.underlying5
 a5:=Tryz.isAgg5
 z5:=Tryz.sizeOf5
 v5:=Tryz.zeroValue5
 infoByte:=by kernel_rfl
 cellsByte:=by kernel_rfl
 sizeByte:=by kernel_rfl
 neB5:=by decide
def qab:List ByteArray→ByteArray
 | []=>⟨#[]⟩
 | x::r=>x++qab r
theorem qpx{α:Type} : ∀i:List (List α),([]:List α).intercalate i=i.flatten
 | []=>rfl
 | [x]=>by rw[List.intercalate_singleton];simp
 | x::y::r=>by rw[List.intercalate_cons_cons,qpx (y::r)];simp
theorem q4a(xs:List ByteArray):(⟨(Lib.join (xs.map (·.data.toList)) []).toArray⟩:ByteArray)=qab xs:=by
 unfold Lib.join;rw[qpx]
 induction xs with
 | nil=>rfl
 | cons x r i =>
  rw[List.map_cons,List.flatten_cons,qab,←i];apply ByteArray.ext;simp[ByteArray.data_append]
theorem qt0(b:Nat)(xs:List ByteArray)(w:World)(m:∀j x,xs[j]? = some x→w.cell? ⟨b,j,none⟩=some (.string x))(i:b<w.heap.size)(t:xs.length≤1000)(q:(qab xs).size≤1000000000) :
  Calls Tryz.prog 114 #[.slice (some ⟨b,0,none⟩) xs.length xs.length,.string ⟨#[]⟩] w (qar (.string (qab xs)) w):=by
 have e:=q4a xs
 refine(Any.strings_Join zbq zbs b 0 xs.length xs ⟨#[]⟩ w (fun j x h=>by rw[Nat.zero_add];exact m j x h) i (by omega) (Nat.le_refl _) ?_).mono ?_
 ·have:(Lib.join (xs.map (·.data.toList)) []).length=(qab xs).size:=by rw[←e];simp[ByteArray.size]
  show (Lib.join (xs.map (·.data.toList)) []).length≤_;omega
 ·rintro r w' ⟨rfl,o⟩;exact⟨congrArg (fun s=>Ending.returned (Value.string s)) e,Upd.of_below o (Nat.le_refl _)⟩
def Fld.put(x:Fld)(m:MsgV):ByteArray :=
 match x with
 | .ch=>zr m.ch.toNat 4
 | .id=>zr m.id.toNat 8
 | .amount=>zr m.amount.toNat 8
 | .hash=>strOfNums m.hash
 | .expiry=>zr m.expiry.toNat 4
 | .number=>zr m.number.toNat 2
theorem Fld.put_size(x:Fld)(m:MsgV)(h:m.hash.length=32):(x.put m).size≤32:=by
 cases x
 case hash=>show (strOfNums m.hash).size≤32;rw[strOfNums_size,h];exact Nat.le_refl _
 all_goals (unfold Fld.put;simp only[qaq];decide)
def qfp(xs:List Fld)(m:MsgV)(s:ByteArray):ByteArray:=xs.foldl (fun s x=>s++x.put m) s
theorem q04{xs:List Fld}{i:Nat}{x:Fld}(h:xs[i]? = some x)(m:MsgV)(s:ByteArray):qfp (xs.take (i+1)) m s=qfp (xs.take i) m s++x.put m:=by
 unfold qfp;rw[List.take_add_one,h,List.foldl_append];rfl
theorem qku(m:MsgV)(h:m.hash.length=32):∀(xs:List Fld) (s:ByteArray),(qfp xs m s).size≤s.size+32*xs.length
 | [],s=>Nat.le_refl _
 | x::xs,s=>by
  have i:=qku m h xs (s++x.put m);have o:=x.put_size m h;have e:qfp (x::xs) m s=qfp xs m (s++x.put m):=rfl;rw[ByteArray.size_append] at i;rw[e,List.length_cons];omega
def qgk(W:Nat):Value:= .agg #[.pointer (some ⟨W,0,none⟩),.pointer none]
theorem qef(w:World):Calls Tryz.prog 135 #[.int .i64 0] w (qae (.tuple #[]) w):=by
 go_enter Tryz.func135,Tryz.ntmps135;go_wp2_with fail;go_end0;exact⟨rfl,Q.refl _⟩
attribute [local go_sem ↓ high] zl qaf qah qa1
attribute [local go_sem] qa9 qb3 qb7 qdp qy
theorem qn3(F:FuncId)(o A p q W n:Nat)(x:Nat)(m:MsgV)(s:ByteArray)(w:World)(hE:∀args w,(callFunc F args).run Tryz.prog w = .ok (.enter F args) w)(hF:∀w,Calls Tryz.prog F #[.pointer (some ⟨A,0,none⟩)] w (qae (.pointer (some ⟨A,o,none⟩)) w))(X:w.cell? ⟨p,0,none⟩=some (.func (.func F) #[] #[]))(Y:w.cell? ⟨q,0,none⟩=some (.int .i64 (n:Int)))(T:MsB w A m)(ho:m.cells[o]? = some (.int .u64 (x:Int)))(U:Wr w W s)(V:1≤n∧n≤8)(hx:x<2 ^ (8*n))(a6:x<18446744073709551616)(hs:s.size≤1073741824) :
  Calls Tryz.prog 200 #[qgk W,.pointer (some ⟨A,0,none⟩),.pointer (some ⟨p,0,none⟩),.pointer (some ⟨q,0,none⟩)] w fun e w'=>e = .returned (.tuple #[])∧Upd (fun k=>k=W) w w'∧Wr w' W (s++zr x n):=by
 unfold qgk
 have a7:(x:Int)<18446744073709551616:=by omega
 have a2:IntKind.u64.wrap (x:Int)=x:=qdl (by omega) (by omega)
 go_enter Tryz.func200,Tryz.ntmps200
 go_upto_region 1 with fail
 have t:qq w (w.alloc (.cells #[.pointer (some ⟨W,0,none⟩),.pointer none] 234)):=(Upd.refl _ _).alloc _
 have H:=ql w (.cells #[.pointer (some ⟨W,0,none⟩),.pointer none] 234)
 generalize w.alloc (.cells #[.pointer (some ⟨W,0,none⟩),.pointer none] 234)=w1 at t H ⊢
 generalize w.heap.size=B at H ⊢
 have K:=t.cell X (fun h=>h)
 have E:=t.cell Y (fun h=>h)
 have N:=qj (T.new t)
 have J:=qj H
 have y:=qj (U.new t)
 have O:=qj t
 clear H X T U Y t
 go_wp2_with fail
 refine(hF w1).mono ?_
 rintro e I ⟨rfl,v⟩
 have z:=(qg N).new (v.upd _)
 have d0:I.cell? ⟨B,0,none⟩=some (.pointer (some ⟨W,0,none⟩)):=v.cell (qk (qg J) 0)
 have d1:I.cell? ⟨B,1,none⟩=some (.pointer none):=v.cell (qk (qg J) 1)
 have co:I.cell? ⟨A,o,none⟩=some (.int .u64 (x:Int)):=by rw[qk z.at_,List.getElem?_toArray];exact ho
 have a1:=v.cell E
 have C:=(qg y).new (v.upd _)
 have P:=qj ((qg O).trans (v.upd _))
 have i:=fun w' (n':qq I w')=>qda W x n s w' (C.new n') V.1 V.2 hx hs
 clear z v K J N y O C E
 go_wp2_with ((with_reducible first|rfl|refine' ut ?_ ?_;rotate_left|refine' uu ?_)<;>intros)
 refine(i _ ((Upd.refl _ _).drew)).mono ?_
 rintro e w3 ⟨rfl,Z,D⟩
 have R:=qj (((qg P).drew.mono (fun _ _ h=>h.elim)).trans Z)
 have y:=qj D
 clear i P Z D
 go_wp2_with ((with_reducible first|rfl|refine' ut ?_ ?_;rotate_left|refine' uu ?_)<;>intros)
 refine(qef _).mono ?_
 rintro e w4 ⟨rfl,M⟩
 have U4:=qj ((qg R).trans (M.upd _))
 have y:=qj ((qg y).new (M.upd _))
 clear R M
 go_wp2_with ((with_reducible first|rfl|refine' ut ?_ ?_;rotate_left|refine' uu ?_)<;>intros)
 go_end0
 exact⟨rfl,qg U4,qg y⟩
theorem qn2(F:FuncId)(o A p q W n:Nat)(x:Nat)(m:MsgV)(s:ByteArray)(w:World)(hE:∀args w,(callFunc F args).run Tryz.prog w = .ok (.enter F args) w)(hF:∀w,Calls Tryz.prog F #[.pointer (some ⟨A,0,none⟩)] w (qae (.pointer (some ⟨A,o,none⟩)) w))(X:w.cell? ⟨p,0,none⟩=some (.func (.func F) #[] #[]))(Y:w.cell? ⟨q,0,none⟩=some (.int .i64 (n:Int)))(T:MsB w A m)(ho:m.cells[o]? = some (.int .i64 (x:Int)))(U:Wr w W s)(V:1≤n∧n≤8)(hx:x<2 ^ (8*n))(a6:x<18446744073709551616)(hs:s.size≤1073741824) :
  Calls Tryz.prog 201 #[qgk W,.pointer (some ⟨A,0,none⟩),.pointer (some ⟨p,0,none⟩),.pointer (some ⟨q,0,none⟩)] w fun e w'=>e = .returned (.tuple #[])∧Upd (fun k=>k=W) w w'∧Wr w' W (s++zr x n):=by
 unfold qgk
 have a7:(x:Int)<18446744073709551616:=by omega
 have a2:IntKind.u64.wrap (x:Int)=x:=qdl (by omega) (by omega)
 go_enter Tryz.func201,Tryz.ntmps201
 go_upto_region 1 with fail
 have t:qq w (w.alloc (.cells #[.pointer (some ⟨W,0,none⟩),.pointer none] 234)):=(Upd.refl _ _).alloc _
 have H:=ql w (.cells #[.pointer (some ⟨W,0,none⟩),.pointer none] 234)
 generalize w.alloc (.cells #[.pointer (some ⟨W,0,none⟩),.pointer none] 234)=w1 at t H ⊢
 generalize w.heap.size=B at H ⊢
 have K:=t.cell X (fun h=>h)
 have E:=t.cell Y (fun h=>h)
 have N:=qj (T.new t)
 have J:=qj H
 have y:=qj (U.new t)
 have O:=qj t
 clear H X T U Y t
 go_wp2_with fail
 refine(hF w1).mono ?_
 rintro e I ⟨rfl,v⟩
 have z:=(qg N).new (v.upd _)
 have d0:I.cell? ⟨B,0,none⟩=some (.pointer (some ⟨W,0,none⟩)):=v.cell (qk (qg J) 0)
 have d1:I.cell? ⟨B,1,none⟩=some (.pointer none):=v.cell (qk (qg J) 1)
 have co:I.cell? ⟨A,o,none⟩=some (.int .i64 (x:Int)):=by rw[qk z.at_,List.getElem?_toArray];exact ho
 have a1:=v.cell E
 have C:=(qg y).new (v.upd _)
 have P:=qj ((qg O).trans (v.upd _))
 have i:=fun w' (n':qq I w')=>qda W x n s w' (C.new n') V.1 V.2 hx hs
 clear z v K J N y O C E
 go_wp2_with ((with_reducible first|rfl|refine' ut ?_ ?_;rotate_left|refine' uu ?_)<;>intros)
 refine(i _ ((Upd.refl _ _).drew)).mono ?_
 rintro e w3 ⟨rfl,Z,D⟩
 have R:=qj (((qg P).drew.mono (fun _ _ h=>h.elim)).trans Z)
 have y:=qj D
 clear i P Z D
 go_wp2_with ((with_reducible first|rfl|refine' ut ?_ ?_;rotate_left|refine' uu ?_)<;>intros)
 refine(qef _).mono ?_
 rintro e w4 ⟨rfl,M⟩
 have U4:=qj ((qg R).trans (M.upd _))
 have y:=qj ((qg y).new (M.upd _))
 clear R M
 go_wp2_with ((with_reducible first|rfl|refine' ut ?_ ?_;rotate_left|refine' uu ?_)<;>intros)
 go_end0
 exact⟨rfl,qg U4,qg y⟩
theorem qw4(F:FuncId)(o A p q W n:Nat)(x:Nat)(m:MsgV)(s:ByteArray)(w:World)(hE:∀args w,(callFunc F args).run Tryz.prog w = .ok (.enter F args) w)(hF:∀w,Calls Tryz.prog F #[.pointer (some ⟨A,0,none⟩)] w (qae (.pointer (some ⟨A,o,none⟩)) w))(X:w.cell? ⟨p,0,none⟩=some (.func (.func F) #[] #[]))(Y:w.cell? ⟨q,0,none⟩=some (.int .i64 (n:Int)))(T:MsB w A m)(ho:m.cells[o]? = some (.int .u32 (x:Int)))(U:Wr w W s)(V:1≤n∧n≤8)(hx:x<2 ^ (8*n))(a6:x<18446744073709551616)(hs:s.size≤1073741824) :
  Calls Tryz.prog 214 #[qgk W,.pointer (some ⟨A,0,none⟩),.pointer (some ⟨p,0,none⟩),.pointer (some ⟨q,0,none⟩)] w fun e w'=>e = .returned (.tuple #[])∧Upd (fun k=>k=W) w w'∧Wr w' W (s++zr x n):=by
 unfold qgk
 have a7:(x:Int)<18446744073709551616:=by omega
 have a2:IntKind.u64.wrap (x:Int)=x:=qdl (by omega) (by omega)
 go_enter Tryz.func214,Tryz.ntmps214
 go_upto_region 1 with fail
 have t:qq w (w.alloc (.cells #[.pointer (some ⟨W,0,none⟩),.pointer none] 234)):=(Upd.refl _ _).alloc _
 have H:=ql w (.cells #[.pointer (some ⟨W,0,none⟩),.pointer none] 234)
 generalize w.alloc (.cells #[.pointer (some ⟨W,0,none⟩),.pointer none] 234)=w1 at t H ⊢
 generalize w.heap.size=B at H ⊢
 have K:=t.cell X (fun h=>h)
 have E:=t.cell Y (fun h=>h)
 have N:=qj (T.new t)
 have J:=qj H
 have y:=qj (U.new t)
 have O:=qj t
 clear H X T U Y t
 go_wp2_with fail
 refine(hF w1).mono ?_
 rintro e I ⟨rfl,v⟩
 have z:=(qg N).new (v.upd _)
 have d0:I.cell? ⟨B,0,none⟩=some (.pointer (some ⟨W,0,none⟩)):=v.cell (qk (qg J) 0)
 have d1:I.cell? ⟨B,1,none⟩=some (.pointer none):=v.cell (qk (qg J) 1)
 have co:I.cell? ⟨A,o,none⟩=some (.int .u32 (x:Int)):=by rw[qk z.at_,List.getElem?_toArray];exact ho
 have a1:=v.cell E
 have C:=(qg y).new (v.upd _)
 have P:=qj ((qg O).trans (v.upd _))
 have i:=fun w' (n':qq I w')=>qda W x n s w' (C.new n') V.1 V.2 hx hs
 clear z v K J N y O C E
 go_wp2_with ((with_reducible first|rfl|refine' ut ?_ ?_;rotate_left|refine' uu ?_)<;>intros)
 refine(i _ ((Upd.refl _ _).drew)).mono ?_
 rintro e w3 ⟨rfl,Z,D⟩
 have R:=qj (((qg P).drew.mono (fun _ _ h=>h.elim)).trans Z)
 have y:=qj D
 clear i P Z D
 go_wp2_with ((with_reducible first|rfl|refine' ut ?_ ?_;rotate_left|refine' uu ?_)<;>intros)
 refine(qef _).mono ?_
 rintro e w4 ⟨rfl,M⟩
 have U4:=qj ((qg R).trans (M.upd _))
 have y:=qj ((qg y).new (M.upd _))
 clear R M
 go_wp2_with ((with_reducible first|rfl|refine' ut ?_ ?_;rotate_left|refine' uu ?_)<;>intros)
 go_end0
 exact⟨rfl,qg U4,qg y⟩
theorem quk(A W:Nat)(m:MsgV)(s:ByteArray)(w:World)(z:MsB w A m)(C:Wr w W s)(J:s.size≤1073741824) :
  Calls Tryz.prog 175 #[qgk W,.pointer (some ⟨A,0,none⟩)] w fun e w'=>e = .returned (.tuple #[])∧Upd (fun k=>k=W) w w'∧Wr w' W (s++strOfNums m.hash):=by
 unfold qgk
 go_enter Tryz.func175,Tryz.ntmps175
 go_upto_region 2 with fail
 have x:qq w (w.alloc (.cells #[.pointer (some ⟨W,0,none⟩),.pointer none] 234)):=(Upd.refl _ _).alloc _
 have v:=ql w (.cells #[.pointer (some ⟨W,0,none⟩),.pointer none] 234)
 generalize w.alloc (.cells #[.pointer (some ⟨W,0,none⟩),.pointer none] 234)=w1 at x v ⊢
 generalize w.heap.size=B at v ⊢
 have M:w1.cell? ⟨B,0,none⟩=some (.pointer (some ⟨W,0,none⟩)):=qk v 0
 have N:w1.cell? ⟨B,1,none⟩=some (.pointer none):=qk v 1
 have o:=z.new x
 have q:=C.new x
 obtain⟨-,-,-,-,-,-,P⟩:=o.cells
 have I:=o.len
 have y:=qj x
 have i:=fun w' (K:qq w1 w')=>qtp W m.hash s w' (q.new K) I J
 have e:(m.hash.map (Value.int .u8)).toArray=(qw m.hash).toArray:=rfl
 rw[e] at i
 clear v z C o q x e
 generalize qw m.hash=O at *
 go_wp2_with ((with_reducible first|rfl|refine' ut ?_ ?_;rotate_left|refine' uu ?_)<;>intros)
 refine(i _ ((Upd.refl _ _).drew)).mono ?_
 rintro e R ⟨rfl,D,t⟩
 have H:=qj (((qg y).drew.mono (fun _ _ h=>h.elim)).trans D)
 have E:=qj t
 clear i y D t
 go_wp2_with ((with_reducible first|rfl|refine' ut ?_ ?_;rotate_left|refine' uu ?_)<;>intros)
 go_end0
 exact⟨rfl,qg H,qg E⟩
structure PutOk(m:MsgV):Prop where
 ok:MsgOk m
 expiry:0≤m.expiry∧m.expiry<4294967296
 number:0≤m.number∧m.number<65536
theorem qr9(x:Fld)(base A W:Nat)(m:MsgV)(v:Value)(s:ByteArray)(w:World)(z:qfu base w v x)(i:MsB w A m)(N:PutOk m)(C:Wr w W s)(D:s.size≤1073741824) :
  ∃F y,v = .func (.func F) #[] y∧(∀args w,(callFunc F args).run Tryz.prog w = .ok (.enter F args) w)∧Calls Tryz.prog F (#[qgk W,.pointer (some ⟨A,0,none⟩)]++y) w fun e w'=>e = .returned (.tuple #[])∧Upd (fun k=>k=W) w w'∧Wr w' W (s++x.put m):=by
 obtain⟨T,J,M,I,U,R,-,-⟩:=N.ok
 have K:=N.expiry
 have O:=N.number
 cases x with
 | ch =>
  obtain⟨p,q,rfl,E,H,o,t⟩:=z;refine⟨_,_,rfl,enters_of Tryz.func214 (by kernel_rfl) rfl,?_⟩;exact qw4 203 1 A p q W 4 m.ch.toNat m s w (enters_of Tryz.func203 (by kernel_rfl) rfl) (qmk A) o t i (by rw[Int.toNat_of_nonneg J.1];rfl) C (by decide) (by show m.ch.toNat<4294967296;omega) (by omega) D
 | id =>
  obtain⟨p,q,rfl,E,H,o,t⟩:=z;refine⟨_,_,rfl,enters_of Tryz.func200 (by kernel_rfl) rfl,?_⟩;exact qn3 169 2 A p q W 8 m.id.toNat m s w (enters_of Tryz.func169 (by kernel_rfl) rfl) (qmg A) o t i (by rw[Int.toNat_of_nonneg M.1];rfl) C (by decide) (by show m.id.toNat<18446744073709551616;omega) (by omega) D
 | amount =>
  obtain⟨p,q,rfl,E,H,o,t⟩:=z;refine⟨_,_,rfl,enters_of Tryz.func200 (by kernel_rfl) rfl,?_⟩;exact qn3 170 3 A p q W 8 m.amount.toNat m s w (enters_of Tryz.func170 (by kernel_rfl) rfl) (qmh A) o t i (by rw[Int.toNat_of_nonneg I.1];rfl) C (by decide) (by show m.amount.toNat<18446744073709551616;omega) (by omega) D
 | expiry =>
  obtain⟨p,q,rfl,E,H,o,t⟩:=z;refine⟨_,_,rfl,enters_of Tryz.func201 (by kernel_rfl) rfl,?_⟩;have P:m.cells[36]? = some (.int .i64 m.expiry):=by
   have:=i.cells.2.2.2.2.1;rwa [qk i.at_,List.getElem?_toArray] at this
  exact qn2 172 36 A p q W 4 m.expiry.toNat m s w (enters_of Tryz.func172 (by kernel_rfl) rfl) (qmi A) o t i (by rw[Int.toNat_of_nonneg K.1];exact P) C (by decide) (by show m.expiry.toNat<4294967296;omega) (by omega) D
 | number =>
  obtain⟨p,q,rfl,E,H,o,t⟩:=z;refine⟨_,_,rfl,enters_of Tryz.func201 (by kernel_rfl) rfl,?_⟩;have P:m.cells[37]? = some (.int .i64 m.number):=by
   have:=i.cells.2.2.2.2.2.1;rwa [qk i.at_,List.getElem?_toArray] at this
  exact qn2 173 37 A p q W 2 m.number.toNat m s w (enters_of Tryz.func173 (by kernel_rfl) rfl) (qmj A) o t i (by rw[Int.toNat_of_nonneg O.1];exact P) C (by decide) (by show m.number.toNat<65536;omega) (by omega) D
 | hash =>
  have z:v=_:=z;subst z;exact⟨_,_,rfl,enters_of Tryz.func175 (by kernel_rfl) rfl,quk A W m s w i C D⟩
theorem qsq(base A W:Nat)(v:Value)(xs:List Fld)(m:MsgV)(s:ByteArray)(w0 w:World)(hv:FldsO base w0 v xs)(h0:qq w0 w)(hA:MsB w A m)(hm:PutOk m)(hW:Wr w W s)(Z:A≠W)(b0:w0.heap.size≤W)(b5:xs.length≤100)(hs:s.size≤1000000) :
  Calls Tryz.prog 139 #[qgk W,v,.pointer (some ⟨A,0,none⟩)] w fun e w'=>e = .returned (.tuple #[])∧Upd (fun k=>k=W) w w'∧Wr w' W (qfp xs m s):=by
 obtain⟨vs,t,b3,M⟩:=hv
 obtain⟨va,a8,R⟩:=qaa t
 have q:∀(i:Nat) (u:Value),vs[i]? = some u→∃g,va=some ⟨g,0,none⟩∧base≤g∧w0.cell? ⟨g,i,none⟩=some u:=by
  intro i u E;have O:=(List.getElem?_eq_some_iff.1 E).1;rcases t.2 with ⟨e,e0⟩ | ⟨g,cap,Y,e,D,hg,_,_,hs,ht⟩
  ·omega
  ·rw[R] at e;injection e with e1;refine⟨g,e1,D,?_⟩;rw[qk hg];have:Y.toList[i]? = some u:=by
    rw[←E,←ht,List.getElem?_take_of_lt (by omega)]
   rwa [Array.getElem?_toList] at this
 subst R
 clear t
 have C:=qj q
 have U:=qj M
 clear q M
 unfold qgk
 go_enter Tryz.func139,Tryz.ntmps139
 go_upto_region 1 with fail
 have H:qq w (w.alloc (.cells #[.pointer (some ⟨W,0,none⟩),.pointer none] 234)):=(Upd.refl _ _).alloc _
 have D:=ql w (.cells #[.pointer (some ⟨W,0,none⟩),.pointer none] 234)
 have a1:=hW.lt
 generalize w.alloc (.cells #[.pointer (some ⟨W,0,none⟩),.pointer none] 234)=w1 at H D ⊢
 have J:W≠w.heap.size:=by omega
 generalize w.heap.size=B at D J ⊢
 have HB:=qj D
 have T:=qj (hA.new H)
 have X:=qj (hW.new H)
 have N1:=qj H
 have N0:=qj (h0.trans H)
 have b4:(xs.length:Int)≤100:=by omega
 clear D hA hW H a1 h0
 go_wp2_with fail
 go_loopw [7,10] (fun _ iv wr=>∃i:Nat,iv = .int .i64 (i:Int)∧i≤xs.length∧Hid (Wr wr W (qfp (xs.take i) m s))∧Upd (fun k=>k=W) w1 wr) (fun _ iv _=>xs.length-(intOf iv).toNat)
 case atStart=>exact⟨0,rfl,Nat.zero_le _,X,Upd.refl _ _⟩
 case round =>
  obtain⟨i,rfl,hi,hM,I⟩:=hrel;obtain⟨z,rfl⟩:∃z:World,z=wr:=⟨_,rfl⟩;by_cases O:i<xs.length
  ·obtain⟨x,hx⟩:∃x,xs[i]? = some x:=⟨_,List.getElem?_eq_getElem O⟩;obtain⟨u,E⟩:∃u,vs[i]? = some u:=⟨_,List.getElem?_eq_getElem (by omega)⟩;obtain⟨g,rfl,b1,hc⟩:=qg C i u E;have hf:=qg U i x u hx E;have nq:qq w0 z:=(qg N0).then I (fun k hk e=>by omega);have N:qfu base z u x:=hf.new nq;have a2:z.cell? ⟨g,i,none⟩=some u:=nq.cell hc (fun h=>h);have y:=I.old (qg HB) (fun e=>J e.symm);have rP:=qaj y 2 rfl;have d0:z.cell? ⟨B,0,none⟩=some (.pointer (some ⟨W,0,none⟩)):=qk y 0;have d1:z.cell? ⟨B,1,none⟩=some (.pointer none):=qk y 1;have P:=qku m hm.ok.len (xs.take i) s;rw[List.length_take] at P;obtain⟨F,a7,rfl,hE,o⟩:=qr9 x base A W m u _ z N ((qg T).upd I Z) hm (qg hM) (by omega);rw[←q04 hx] at o;have b2:(i:Int)<(xs.length:Int):=by omega
   unfold qgk at o;clear hf N hc y hx E P nq;go_wp2_with fail;refine o.mono ?_;rintro e w3 ⟨rfl,u3,K⟩;have a6:=I.trans u3;have V:=qj K;clear o rP d0 d1 a2 hE K u3 I;go_wp2_with fail;go_roundw
   case rel=>exact⟨i+1,by go_num,by omega,V,a6⟩
   case measure=>simp[intOf];omega
  ·obtain rfl:i=xs.length:=by omega
   rw[List.take_length] at hM;go_wp2_with fail;go_end0;exact⟨rfl,((qg N1).mono (fun _ _ h=>h.elim)).trans I,qg hM⟩
end
end Go.Proofs.YtfmkdoachjgjbaaGreatDoor
