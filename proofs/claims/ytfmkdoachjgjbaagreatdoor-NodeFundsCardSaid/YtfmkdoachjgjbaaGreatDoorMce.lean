/-
  wire.try, where no step goes wrong.
-/
import Derived.Test.YtfmkdoachjgjbaaGreatDoorMcd
import Derived.Defers
import Derived.Recover
import Derived.Test.YtfmkdoachjgjbaaGreatDoorRows
import Derived.Test.YtfmkdoachjgjbaaGreatDoorMaa
set_option maxRecDepth 100000
set_option maxHeartbeats 2000000
set_option linter.unusedVariables false
set_option linter.unusedSimpArgs false
namespace Go.Proofs.YtfmkdoachjgjbaaGreatDoor
section
open Go.RowKit
def taF(x:Value):Sem Value:=Instr.typeAssert x 20 265 true
theorem qyq(x:Value):Instr.typeAssert x 20 265 true=taF x:=rfl
theorem zae(w:World):(taF .nilIface).run Tryz.prog w = .ok (.tuple #[.agg #[.int .i64 0],.bool false]) w:=by kernel_rfl
attribute [local go_sem ↓ high] qyq
attribute [local go_sem] zae
theorem qu5(p:Addr)(w:World) :
  CallsD Tryz.prog 165 #[.pointer (some p)] .returning w fun e q w'=>e = .returned (.tuple #[])∧q = .returning∧qq w w':=by
 refine callsD_of_wpS Tryz.func165 rfl fun i cs m=> ?_
 apply wpS_seq
 apply wpS_region
 simp[wpOpsS,go_sem,recoverD,m,Tryz.ntmps165,Exit.thenS]
 have o:qq w (w.alloc (.cells #[.int .i64 0] 265)):=(Upd.refl _ _).alloc _
 generalize w.alloc (.cells #[.int .i64 0] 265)=w1 at o ⊢
 generalize w.heap.size=B
 apply wpS_seq
 apply wpS_region
 simp[wpOpsS,go_sem,Exit.thenS]
 refine wpS_cond (t:=false) (by simp[Act.eval,Array.replicate]) ?_
 simp only[Bool.false_eq_true,if_false]
 refine wpS_of_wp (wp_skip ?_)
 cases i
 simp_all [bodyPostS,results,Tryz.results165]
def qxw(w:World)(b n:Nat)(F:Nat→FuncId)(m:Nat→Array Value):Prop:=∀i,i<n→w.cell? ⟨b,i,none⟩=some (.func (.func (F i)) #[] (m i))
theorem q75(b n base:Nat)(F:Nat→FuncId)(m:Nat→Array Value)(T:Nat→Prop)(C:Nat→World→Prop)(w:World)(hn:n≤100)
  (v:qxw w b n F m) (Z:∀k,T k→k<base) (hb:base≤b) (U:base≤w.heap.size) (a1:b<w.heap.size)
  (D:∀i w w',C i w→Upd (fun k=>base≤k) w w'→C i w')
  (hs:∀i,i<n→∀w',C i w'→(∀args w,(callFunc (F i) args).run Tryz.prog w = .ok (.enter (F i) args) w)∧Calls Tryz.prog (F i) (m i) w' fun e t=>e = .returned (.tuple #[])∧Upd T w' t∧C (i+1) t)
  (Y:C 0 w) :
  Calls Tryz.prog 132 #[.slice (some ⟨b,0,none⟩) n n] w fun e w'=>e = .returned (.int .i64 0)∧Upd T w w'∧C n w':=by
 have a6:∀(fn:Fn) (first cap:Array Value) (w:World),(Instr.makeFunc fn first cap).run Tryz.prog w = .ok (.func fn first cap) w:=fun _ _ _ _=>rfl
 have a7:(n:Int)≤100:=by omega
 go_enter_defers Tryz.func132,Tryz.ntmps132
 go_upto_region 1 with fail
 have J:qq w (w.alloc (.cells #[.int .i64 0] 26)):=(Upd.refl _ _).alloc _
 have q:=ql w (.cells #[.int .i64 0] 26)
 have M:C 0 (w.alloc (.cells #[.int .i64 0] 26)):=D 0 w _ Y (J.mono (fun _ _ h=>h.elim))
 generalize w.alloc (.cells #[.int .i64 0] 26)=w1 at J q M ⊢
 have I:base≤w.heap.size∧b≠w.heap.size:=⟨U,by omega⟩
 generalize H:w.heap.size=E at q I ⊢
 have K:=qj H
 clear H
 have HE:=qj q
 have H1:=qj M
 have HR:=qj v
 have X:=qj J
 clear q M v J Y
 go_wp2_with fail
 go_loopw [8] (fun W wr=>∃i:Nat,W = .int .i64 (i:Int)∧i≤n∧Hid (C i wr)∧Upd T w1 wr) (fun W _=>n-(intOf W).toNat)
 case atStart=>exact⟨0,rfl,Nat.zero_le _,H1,Upd.refl _ _⟩
 case round =>
  obtain⟨i,rfl,hi,N,u⟩:=hrel;obtain⟨x,rfl⟩:∃x:World,x=wr:=⟨_,rfl⟩;by_cases z:i<n
  ·have a2:(i:Int)<(n:Int):=by omega
   obtain⟨V,o⟩:=hs i z x (qg N);have hc:=u.cell ((qg X).cell (qg HR i z) (fun h=>h)) (fun h=>by have h:T b:=h;have:=Z b h;omega);generalize F i=Fi at *
   generalize m i=ci at *
   clear N;go_wp2_with fail;refine o.mono ?_;rintro e w3 ⟨rfl,u3,y⟩;have y:=qj y;have u4:=u.trans u3;clear hc V o u u3;go_wp2_with fail;go_roundw
   case rel=>exact⟨i+1,by go_num,z,y,u4⟩
   case measure=>simp[intOf];omega
  ·obtain rfl:i=n:=by omega
   have q:=u.old (qg HE) (fun h=>by have h:T E:=h;have:=Z E h;omega);have R:=q;have f0:=qo q 0;have c0:=qk q 0;have hU:=qj u;clear u q;go_wp2_with fail;have u5:Upd (fun k=>k=E) x (x.setCell ⟨E,0,none⟩ (.int .i64 0)):=(Upd.refl _ _).set1 _ _;have c5:(x.setCell ⟨E,0,none⟩ (.int .i64 0)).cell? ⟨E,0,none⟩=some (.int .i64 0):=qk (zq (R) 0 (.int .i64 0)) 0;have O:=D _ _ _ (qg N) (u5.mono (fun k _ e=>by rw[e];exact I.1));have U5:Upd T w (x.setCell ⟨E,0,none⟩ (.int .i64 0)):=(((qg X).mono (fun _ _ h=>h.elim)).trans (qg hU)).then u5 (fun k hk e=>by have:=qg K;omega);generalize x.setCell ⟨E,0,none⟩ (.int .i64 0)=w5 at *
   refine leaves_cons (f:=165) (args:=#[.pointer (some ⟨E,0,none⟩)]) (by simp) (by simp[go_sem]) ?_;refine(qu5 ⟨E,0,none⟩ _).mono ?_;rintro e u' t ⟨rfl,rfl,n⟩;have c6:=n.cell c5 (fun h=>h);have P:=D _ _ _ O (n.mono (fun _ _ h=>h.elim));have U6:Upd T w t:=U5.trans (n.mono (fun _ _ h=>h.elim));simp[Leaves,settle,results,Tryz.results132,go_sem,c6];exact⟨U6,P⟩
end
section
open Go.RowKit
theorem FldsO.upd{base:Nat}{w w':World}{v:Value}{xs:List Fld}{S:Nat→Prop}(h:FldsO base w v xs)(u:Upd S w w')(t:∀k,base≤k→¬S k):FldsO base w' v xs:=by
 obtain⟨I,m,H,D⟩:=h;refine⟨I,⟨m.1,?_⟩,H,fun i x a z C=>(D i x a z C).upd u t⟩;rcases m.2 with h | ⟨g,cap,o,y,q,E,r⟩
 ·exact .inl h
 ·exact .inr ⟨g,cap,o,y,q,u.old E (t g q),r⟩
theorem FldsO.new{base:Nat}{w w':World}{v:Value}{xs:List Fld}(h:FldsO base w v xs)(u:qq w w'):FldsO base w' v xs:=h.upd u (fun _ _ h=>h)
theorem q3d(V A W:Nat)(m:MsgV)(s:ByteArray)(w:World)(M:w.cell? ⟨V,0,none⟩=some (.pointer (some ⟨W,0,none⟩)))(y:MsB w A m)(C:0≤m.kind∧m.kind<256)(z:Wr w W s)(I:s.size≤1073741824) :
  Calls Tryz.prog 152 #[.pointer (some ⟨V,0,none⟩),.pointer (some ⟨A,0,none⟩)] w fun e w'=>e = .returned (.tuple #[])∧Upd (fun k=>k=W) w w'∧Wr w' W (s++zr m.kind.toNat 1):=by
 have H:=y.cells.1
 obtain⟨k,o⟩:=Int.eq_ofNat_of_zero_le C.1
 rw[o] at H
 have J:IntKind.u64.wrap (k:Int)=k:=qdl (by omega) (by omega)
 have i:=fun w' (K:qq w w')=>qda W k 1 s w' (z.new K) (by decide) (by decide) (by show k<256;omega) I
 rw[o,Int.toNat_natCast]
 clear y z o C
 go_enter Tryz.func152,Tryz.ntmps152
 go_wp2_with ((with_reducible first|rfl|refine' ut ?_ ?_;rotate_left|refine' uu ?_)<;>intros)
 refine(i _ (Upd.refl _ _)).mono ?_
 rintro e N ⟨rfl,D,q⟩
 have x:=qj D
 have t:=qj q
 clear i D q
 go_wp2_with ((with_reducible first|rfl|refine' ut ?_ ?_;rotate_left|refine' uu ?_)<;>intros)
 refine(qef _).mono ?_
 rintro e O ⟨rfl,v⟩
 have E:=qj ((qg x).trans (v.upd _))
 have t:=qj ((qg t).new (v.upd _))
 clear x v
 go_wp2_with ((with_reducible first|rfl|refine' ut ?_ ?_;rotate_left|refine' uu ?_)<;>intros)
 go_end0
 exact⟨rfl,qg E,qg t⟩
theorem q3e(base V L A W:Nat)(v:Value)(xs:List Fld)(m:MsgV)(s:ByteArray)(w0 w:World)(T:w.cell? ⟨V,0,none⟩=some (.pointer (some ⟨W,0,none⟩)))(R:w.cell? ⟨L,0,none⟩=some v)(y:FldsO base w0 v xs)(E:qq w0 w)(H:MsB w A m)(O:PutOk m)(I:Wr w W s)(t:A≠W)(x:w0.heap.size≤W)(C:xs.length≤100)(P:s.size≤1000000) :
  Calls Tryz.prog 153 #[.pointer (some ⟨V,0,none⟩),.pointer (some ⟨L,0,none⟩),.pointer (some ⟨A,0,none⟩)] w fun e w'=>e = .returned (.tuple #[])∧Upd (fun k=>k=W) w w'∧Wr w' W (qfp xs m s):=by
 obtain⟨U,K,z⟩:∃a c,v = .slice a xs.length c:=by
  obtain⟨X,q,-⟩:=y;exact qaa q
 subst z
 have i:=fun w' (D:qq w w')=>qsq base A W _ xs m s w0 w' y (E.trans D) (H.new D) O (I.new D) t x C P
 unfold qgk at i
 clear y H I E
 go_enter Tryz.func153,Tryz.ntmps153
 go_wp2_with ((with_reducible first|rfl|refine' ut ?_ ?_;rotate_left|refine' uu ?_)<;>intros)
 refine(i _ (Upd.refl _ _)).mono ?_
 rintro e Y ⟨rfl,J,o⟩
 have N:=qj J
 have M:=qj o
 clear i J o
 go_wp2_with ((with_reducible first|rfl|refine' ut ?_ ?_;rotate_left|refine' uu ?_)<;>intros)
 go_end0
 exact⟨rfl,qg N,qg M⟩
def qtg(xs:List Fld)(m:MsgV):ByteArray:=qfp xs m (zr m.kind.toNat 1)
attribute [local go_sem ↓ high] ze zf zg
attribute [local go_sem] qau qav qaw qy
theorem qvv(m:MsgV)(xs:List Fld)(hm:PutOk m)(hk:fieldsOf m.kind=some xs)(b0:0≤m.kind∧m.kind<256)(b2:xs.length≤100)(a2:qap m=true)(w:World) :
  Calls Tryz.prog 115 #[.agg m.cells.toArray] w (qar (.tuple #[.string (qtg xs m),.int .i64 0]) w):=by
 have b8:∀(fn:Fn) (first cap:Array Value) (w:World),(Instr.makeFunc fn first cap).run Tryz.prog w = .ok (.func fn first cap) w:=fun _ _ _ _=>rfl
 have I:=fun w'=>qg6 m hm.ok w'
 rw[a2] at I
 have a1:=fun w'=>qi1 m.kind xs hk w'
 go_enter Tryz.func115,Tryz.ntmps115
 go_upto_region 1 with fail
 have O:=qa6 w m hm.ok.len
 have n1:qq w (w.alloc (.cells m.cells.toArray 101)):=(Upd.refl _ _).alloc _
 generalize w.alloc (.cells m.cells.toArray 101)=w1 at n1 O ⊢
 generalize w.heap.size=A at O ⊢
 have rA:=O.row
 have C:=qj O
 have N1:=qj n1
 clear O n1
 go_wp2_with fail
 refine(I w1).mono ?_
 rintro e w2 ⟨rfl,n2⟩
 have D:=(qg C).new n2
 have c0:=D.cells.1
 have C:=qj D
 have N2:=qj ((qg N1).trans n2)
 clear rA I n2 D N1
 go_wp2_with fail
 refine(a1 w2).mono ?_
 rintro e o ⟨v,rfl,n3,M⟩
 obtain⟨va,vc,rfl⟩:∃a c,v = .slice a xs.length c:=by
  obtain⟨vs,a6,-⟩:=M;exact qaa a6
 have P:=(qg C).new n3
 have HF:=qj M
 have b1:=n3.size
 have C:=qj P
 have N3:=qj ((qg N2).trans n3)
 clear a1 n3 M P N2 c0
 go_upto_region 5 with fail
 have n4:qq o (o.alloc (.cells #[.slice va xs.length vc] 226)):=(Upd.refl _ _).alloc _
 have b4:=ql o (.cells #[.slice va xs.length vc] 226)
 have z4:(o.alloc (.cells #[.slice va xs.length vc] 226)).heap.size=o.heap.size+1:=World.size_alloc _ _
 generalize o.alloc (.cells #[.slice va xs.length vc] 226)=w4 at n4 b4 z4 ⊢
 have n5:qq w4 (w4.alloc (.cells #[.string ⟨#[]⟩] 174)):=(Upd.refl _ _).alloc _
 have b5:=ql w4 (.cells #[.string ⟨#[]⟩] 174)
 have z5:(w4.alloc (.cells #[.string ⟨#[]⟩] 174)).heap.size=o.heap.size+2:=by rw[World.size_alloc,z4]
 rw[z4] at b5
 generalize w4.alloc (.cells #[.string ⟨#[]⟩] 174)=w5 at n5 b5 z5 ⊢
 have N:qq w5 (w5.alloc (.cells #[.pointer (some ⟨o.heap.size+1,0,none⟩)] 172)):=(Upd.refl _ _).alloc _
 have b6:=ql w5 (.cells #[.pointer (some ⟨o.heap.size+1,0,none⟩)] 172)
 have z6:(w5.alloc (.cells #[.pointer (some ⟨o.heap.size+1,0,none⟩)] 172)).heap.size=o.heap.size+3:=by rw[World.size_alloc,z5]
 rw[z5] at b6
 generalize w5.alloc (.cells #[.pointer (some ⟨o.heap.size+1,0,none⟩)] 172)=y at N b6 z6 ⊢
 have U:=(qg C).lt
 have b7:=ql y (.cells #[.func (.func 152) #[] #[.pointer (some ⟨o.heap.size+1+1,0,none⟩),.pointer (some ⟨A,0,none⟩)],.func (.func 153) #[] #[.pointer (some ⟨o.heap.size+1+1,0,none⟩),.pointer (some ⟨o.heap.size,0,none⟩),.pointer (some ⟨A,0,none⟩)]] 1)
 have n7:qq y (y.alloc (.cells #[.func (.func 152) #[] #[.pointer (some ⟨o.heap.size+1+1,0,none⟩),.pointer (some ⟨A,0,none⟩)],.func (.func 153) #[] #[.pointer (some ⟨o.heap.size+1+1,0,none⟩),.pointer (some ⟨o.heap.size,0,none⟩),.pointer (some ⟨A,0,none⟩)]] 1)):=(Upd.refl _ _).alloc _
 have z7:(y.alloc (.cells #[.func (.func 152) #[] #[.pointer (some ⟨o.heap.size+1+1,0,none⟩),.pointer (some ⟨A,0,none⟩)],.func (.func 153) #[] #[.pointer (some ⟨o.heap.size+1+1,0,none⟩),.pointer (some ⟨o.heap.size,0,none⟩),.pointer (some ⟨A,0,none⟩)]] 1)).heap.size=o.heap.size+4:=by rw[World.size_alloc,z6]
 rw[z6] at b7
 have E:y.cell? ⟨o.heap.size,0,none⟩=some (.slice va xs.length vc):=N.cell (n5.cell (qk b4 0) (fun h=>h)) (fun h=>h)
 have H:y.cell? ⟨o.heap.size+1+1,0,none⟩=some (.pointer (some ⟨o.heap.size+1,0,none⟩)):=qk b6 0
 have Z:Wr y (o.heap.size+1) ⟨#[]⟩:=N.old b5 (fun h=>h)
 have R:=(((qg C).new n4).new n5).new N
 have J:qq o y:=(n4.trans n5).trans N
 have M:=qg HF
 have N6:=qj ((qg N3).trans J)
 have q:=q75 (o.heap.size+3) 2 (o.heap.size+3) (fun i=>if i=0 then 152 else 153)
  (fun i=>if i=0 then #[.pointer (some ⟨o.heap.size+1+1,0,none⟩),.pointer (some ⟨A,0,none⟩)] else #[.pointer (some ⟨o.heap.size+1+1,0,none⟩),.pointer (some ⟨o.heap.size,0,none⟩),.pointer (some ⟨A,0,none⟩)])
  (fun k=>k=o.heap.size+1) (fun i w'=>Upd (fun k=>k=o.heap.size+1) y w'∧Wr w' (o.heap.size+1) (if i=0 then ⟨#[]⟩ else if i=1 then zr m.kind.toNat 1 else qtg xs m)) _ (by decide)
  (by
   intro i hi;rcases (by omega:i=0∨i=1) with rfl | rfl
   ·exact qk b7 0
   ·exact qk b7 1)
  (fun k hk=>by omega) (Nat.le_refl _) (by rw[z7];omega) (by rw[z7];omega)
  (by
   rintro i a b ⟨z,h2⟩ u;exact⟨z.then u (fun k hk t=>by have t:o.heap.size+3≤k:=t;omega),u.old h2 (fun t=>by have t:o.heap.size+3≤o.heap.size+1:=t;omega)⟩)
  (by
   rintro i hi a ⟨z,h2⟩;have Y:=z.cell H (fun h=>by have h:o.heap.size+1+1=o.heap.size+1:=h;omega);have a7:=z.cell E (fun h=>by have h:o.heap.size=o.heap.size+1:=h;omega);have T:=R.upd z (fun h=>by have h:A=o.heap.size+1:=h;omega);have b3:qq o a:=J.then z (fun k hk t=>by omega);rcases (by omega:i=0∨i=1) with rfl | rfl
   ·refine⟨enters_of Tryz.func152 (by kernel_rfl) rfl,?_⟩;refine(q3d _ A _ m _ a Y T b0 h2 (by show (0:Nat)≤_;omega)).mono ?_;rintro e b ⟨rfl,u,hb⟩;refine⟨rfl,u,z.trans u,?_⟩;have e0:(⟨#[]⟩:ByteArray)++zr m.kind.toNat 1=zr m.kind.toNat 1:=ByteArray.empty_append;exact e0▸hb
   ·refine⟨enters_of Tryz.func153 (by kernel_rfl) rfl,?_⟩;refine(q3e _ _ _ A _ _ xs m _ o a Y a7 M b3 T hm h2 (by omega) (by omega) b2 (by show (zr m.kind.toNat 1).size≤1000000;rw[qaq];decide)).mono ?_;rintro e b ⟨rfl,u,hb⟩;exact⟨rfl,u,z.trans u,hb⟩)
  ⟨n7.mono (fun _ _ h=>h.elim),n7.old Z (fun h=>h)⟩
 have X:=qj E
 clear b4 b5 b6 b7 E M R n4 n5 N z4 z5 C HF
 go_wp2_with fail
 refine q.mono ?_
 rintro e w8 ⟨rfl,u8,K,x⟩
 have a8:=K.cell H (fun h=>by have h:o.heap.size+1+1=o.heap.size+1:=h;omega)
 have x:Wr w8 (o.heap.size+1) (qtg xs m):=x
 have N8:=qj ((qg N6).then K (fun k hk t=>by have:=(qg N3).size;omega))
 clear q u8 K n7 z7 H Z J N6 N3 z6 X U b1
 generalize o.heap.size+1=W at *
 generalize qtg xs m=s at *
 generalize W+1=V at *
 go_wp2_with fail
 refine(qe3 _ _ _ x).mono ?_
 rintro e w9 ⟨rfl,rfl⟩
 clear x a8
 go_wp2_with fail
 go_ret2
 exact⟨rfl,qg N8⟩
end
section
open Go.RowKit
def hd(r:ByteArray):Int:=bt r 0*256+bt r 1
theorem qx7(r:ByteArray):0≤hd r∧hd r≤65535:=by
 have i:=qf3 r 0;have m:=qf3 r 1;unfold hd;omega
def qdv(r:ByteArray):Bool:=decide (2≤r.size)&&(decide (hd r=0) || decide (1024<hd r))
theorem qvf{r:ByteArray}(h:r.size<2):qdv r=false:=by unfold qdv;simp;omega
theorem qyz{r:ByteArray}(h:2≤r.size)(i:hd r=0):qdv r=true:=by unfold qdv;simp;omega
theorem qve{r:ByteArray}(h:2≤r.size)(i:1024<hd r):qdv r=true:=by unfold qdv;simp;omega
theorem qyy{r:ByteArray}(i:1≤hd r)(m:hd r≤1024):qdv r=false:=by unfold qdv;simp;omega
def Spl(w:World)(b:Nat)(r:ByteArray):Prop:=w.heap[b]? = some (.cells #[.string r] 169 (0,0))
theorem Spl.cell{w:World}{b:Nat}{r:ByteArray}(h:Spl w b r):w.cell? ⟨b,0,none⟩=some (.string r):=(qk h 0)
theorem Spl.free{w:World}{b:Nat}{r:ByteArray}(h:Spl w b r):w.frozen? ⟨b,0,none⟩=false:=(qo h 0)
theorem Spl.set{w:World}{b:Nat}{r:ByteArray}(h:Spl w b r)(s:ByteArray):Spl (w.setCell ⟨b,0,none⟩ (.string s)) b s:=(zq h 0 _)
theorem Spl.drewN{w:World}{b:Nat}{r:ByteArray}(h:Spl w b r)(n:Nat):Spl (w.drewN n) b r:=h
theorem Spl.q{w w':World}{b:Nat}{r:ByteArray}(h:Spl w b r)(q:Q w w'):Spl w' b r:=q.old h
theorem Spl.upd{S:Nat→Prop}{w w':World}{b:Nat}{r:ByteArray}(h:Spl w b r)(u:Upd S w w')(i:¬S b):Spl w' b r:=u.old h i
def Leaves(v:Value)(b:Nat)(r:ByteArray)(w:World)(e:Ending)(w':World):Prop:=e = .returned v∧Upd (· = b) w w'∧Spl w' b r
theorem quz(b:Nat)(r:ByteArray)(w:World)(i:w.cell? ⟨b,0,none⟩=some (.string r)) :
  Calls Tryz.prog 103 #[.pointer (some ⟨b,0,none⟩)] w fun e w'=>e = .returned (.int .i64 r.size)∧w=w':=by
 go_enter Tryz.func103,Tryz.ntmps103
 go_wp2
 go_ret
 exact⟨rfl,rfl⟩
theorem q7x(b:Nat)(r s:ByteArray)(w:World)(i:w.cell? ⟨b,0,none⟩=some (.string r))(m:w.frozen? ⟨b,0,none⟩=false)(o:r.size+s.size≤9223372036854775807) :
  Calls Tryz.prog 102 #[.pointer (some ⟨b,0,none⟩),.string s] w fun e w'=>e = .returned (.tuple #[])∧w.setCell ⟨b,0,none⟩ (.string (r++s))=w':=by
 go_enter Tryz.func102,Tryz.ntmps102
 go_wp2
 go_end0
 exact⟨rfl,rfl⟩
theorem qjj(b:Nat)(r:ByteArray)(w:World)(i:w.cell? ⟨b,0,none⟩=some (.string r))(h:r.size<2) :
  Calls Tryz.prog 101 #[.pointer (some ⟨b,0,none⟩)] w (qae (.tuple #[.int .i64 0,.bool false]) w):=by
 go_enter Tryz.func101,Tryz.ntmps101
 go_wp2
 go_ret2
 exact⟨rfl,Q.refl _⟩
theorem qdt(b:Nat)(r:ByteArray)(w:World)(x:w.cell? ⟨b,0,none⟩=some (.string r))(h:2≤r.size) :
  Calls Tryz.prog 101 #[.pointer (some ⟨b,0,none⟩)] w (qae (.tuple #[.int .i64 (hd r),.bool true]) w):=by
 have t:∀w,(Instr.index 9 (.string r) (.int .i64 0)).run Tryz.prog w = .ok (.int .u8 (bt r 0)) w:=qey 9 r .i64 0 0 Tryz.underlying9 rfl (by omega)
 have v:∀w,(Instr.index 9 (.string r) (.int .i64 1)).run Tryz.prog w = .ok (.int .u8 (bt r 1)) w:=qey 9 r .i64 1 1 Tryz.underlying9 rfl (by omega)
 obtain⟨i,m⟩:=qf3 r 0
 obtain⟨o,q⟩:=qf3 r 1
 go_enter Tryz.func101,Tryz.ntmps101
 go_wp2
 go_quiet (fail)
 go_wp2
 go_ret2
 refine⟨?_,Q.drewN _ _⟩
 show Ending.returned (.tuple #[.int .i64 (bits .or .i64 (bt r 0*256) (bt r 1)),.bool true])=_
 rw[or8 _ _ i m o q]
 rfl
theorem q67(b:Nat)(r:ByteArray)(n:Int)(w:World)(m:w.cell? ⟨b,0,none⟩=some (.string r))(o:w.frozen? ⟨b,0,none⟩=false)(i:0≤n)(q:n≤r.size) :
  Calls Tryz.prog 104 #[.pointer (some ⟨b,0,none⟩),.int .i64 n] w fun e w'=>e = .returned (.string (r.extract 0 n.toNat))∧w.setCell ⟨b,0,none⟩ (.string (r.extract n.toNat r.size))=w':=by
 obtain⟨k,rfl⟩:=Int.eq_ofNat_of_zero_le i
 go_enter Tryz.func104,Tryz.ntmps104
 go_wp2
 go_ret
 exact⟨rfl,rfl⟩
theorem qq8(b:Nat)(r:ByteArray)(w:World)(o:w.cell? ⟨b,0,none⟩=some (.string r)) :
  Calls Tryz.prog 62 #[.pointer (some ⟨b,0,none⟩)] w (qae (.bool (qdv r)) w):=by
 obtain⟨x,y⟩:=qx7 r
 by_cases h:r.size<2
 ·rw[qvf h];go_enter Tryz.func62,Tryz.ntmps62;go_wp2_with fail;refine(qjj b r _ o h).mono ?_;rintro e w1 ⟨rfl,i⟩;go_wp2;go_ret;exact⟨rfl,i⟩
 ·by_cases m:hd r=0
  ·rw[qyz (by omega) m];have H:=Lib.hid m;clear m;go_enter Tryz.func62,Tryz.ntmps62;go_wp2_with fail;refine(qdt b r _ o (by omega)).mono ?_;rintro e w1 ⟨rfl,i⟩;have v:(hd r==0)=true:=by rw[H.out];rfl
   go_wp2;go_ret;exact⟨rfl,i⟩
  ·have v:(hd r==0)=false:=by simpa using m
   by_cases q:1024<hd r
   ·rw[qve (by omega) q];go_enter Tryz.func62,Tryz.ntmps62;go_wp2_with fail;refine(qdt b r _ o (by omega)).mono ?_;rintro e w1 ⟨rfl,i⟩;go_wp2;go_ret;exact⟨rfl,i⟩
   ·rw[qyy (by omega) (by omega)];have t:decide (1024<hd r)=false:=by simpa using q
    go_enter Tryz.func62,Tryz.ntmps62;go_wp2_with fail;refine(qdt b r _ o (by omega)).mono ?_;rintro e w1 ⟨rfl,i⟩;go_wp2;go_ret;exact⟨rfl,i⟩
theorem q2f(b:Nat)(r:ByteArray)(w:World)(i:w.cell? ⟨b,0,none⟩=some (.string r))(h:qdv r=true) :
  Calls Tryz.prog 62 #[.pointer (some ⟨b,0,none⟩)] w (qae (.bool true) w):=h▸qq8 b r w i
theorem qez(b:Nat)(r:ByteArray)(w:World)(i:w.cell? ⟨b,0,none⟩=some (.string r))(h:qdv r=false) :
  Calls Tryz.prog 62 #[.pointer (some ⟨b,0,none⟩)] w (qae (.bool false) w):=h▸qq8 b r w i
theorem qyh(b:Nat)(r s:ByteArray)(w:World)(i:Spl w b r)(h:qdv r=false)(o:r.size+s.size≤9223372036854775807) :
  Calls Tryz.prog 63 #[.pointer (some ⟨b,0,none⟩),.string s] w (Leaves (.int .i64 0) b (r++s) w):=by
 go_enter Tryz.func63,Tryz.ntmps63
 go_wp2_with fail
 refine(qez b r _ i.cell h).mono ?_
 rintro e w1 ⟨rfl,m⟩
 go_wp2_with fail
 refine(q7x b r s _ (i.q m).cell (i.q m).free o).mono ?_
 rintro e w' ⟨rfl,rfl⟩
 go_wp2
 go_ret
 exact⟨rfl,(m.upd _).set1 _ _,(i.q m).set _⟩
def qfl(r:ByteArray):Prop:=2≤r.size∧qdv r=false∧2+hd r≤r.size
theorem qnx(b:Nat)(r:ByteArray)(w:World)(i:Spl w b r)(h:qfl r) :
  Calls Tryz.prog 64 #[.pointer (some ⟨b,0,none⟩)] w (Leaves (.tuple #[.string ((r.extract 0 (2+hd r).toNat).extract 2 (2+hd r).toNat),.bool true]) b (r.extract (2+hd r).toNat r.size) w):=by
 obtain⟨x,o,v⟩:=h
 obtain⟨z,C⟩:=qx7 r
 have y:decide ((r.size:Int)<2+hd r)=false:=by simp;omega
 go_enter Tryz.func64,Tryz.ntmps64
 go_wp2_with fail
 refine(qdt b r _ i.cell x).mono ?_
 rintro e w1 ⟨rfl,m⟩
 go_wp2_with fail
 refine(qez b r _ (i.q m).cell o).mono ?_
 rintro e D ⟨rfl,t⟩
 go_wp2_with fail
 refine(quz b r _ ((i.q m).q t).cell).mono ?_
 rintro e w' ⟨rfl,rfl⟩
 go_wp2_with fail
 refine(q67 b r (2+hd r) _ ((i.q m).q t).cell ((i.q m).q t).free (by omega) v).mono ?_
 rintro e w' ⟨rfl,rfl⟩
 go_wp2
 go_ret2
 exact⟨rfl,((m.trans t).upd _).set1 _ _,((i.q m).q t).set _⟩
theorem q0s{r:ByteArray}(h:¬qfl r):r.size<2∨(2≤r.size∧qdv r=true)∨(2≤r.size∧qdv r=false∧r.size<2+hd r):=by
 by_cases i:r.size<2
 ·exact .inl i
 ·cases o:qdv r with
  | true=>exact .inr (.inl ⟨by omega,rfl⟩)
  | false=>exact .inr (.inr ⟨by omega,rfl,by
    refine Int.not_le.1 fun m=>h ⟨by omega,o,m⟩⟩)
theorem que(b:Nat)(r:ByteArray)(w:World)(o:Spl w b r)(h:¬qfl r) :
  Calls Tryz.prog 64 #[.pointer (some ⟨b,0,none⟩)] w (Leaves (.tuple #[.string ⟨#[]⟩,.bool false]) b r w):=by
 obtain⟨D,E⟩:=qx7 r
 rcases q0s h with y | ⟨v,i⟩ | ⟨v,i,x⟩
 ·clear h;go_enter Tryz.func64,Tryz.ntmps64;go_wp2_with fail;refine(qjj b r _ o.cell y).mono ?_;rintro e w1 ⟨rfl,m⟩;go_wp2;go_ret2;exact⟨rfl,m.upd _,o.q m⟩
 ·clear h;go_enter Tryz.func64,Tryz.ntmps64;go_wp2_with fail;refine(qdt b r _ o.cell v).mono ?_;rintro e w1 ⟨rfl,m⟩;go_wp2_with fail;refine(q2f b r _ (o.q m).cell i).mono ?_;rintro e C ⟨rfl,t⟩;go_wp2;go_ret2;exact⟨rfl,(m.trans t).upd _,(o.q m).q t⟩
 ·have z:decide ((r.size:Int)<2+hd r)=true:=by simpa using x
  clear h;go_enter Tryz.func64,Tryz.ntmps64;go_wp2_with fail;refine(qdt b r _ o.cell v).mono ?_;rintro e w1 ⟨rfl,m⟩;go_wp2_with fail;refine(qez b r _ (o.q m).cell i).mono ?_;rintro e C ⟨rfl,t⟩;go_wp2_with fail;refine(quz b r _ ((o.q m).q t).cell).mono ?_;rintro e w' ⟨rfl,rfl⟩;go_wp2;go_ret2;exact⟨rfl,(m.trans t).upd _,(o.q m).q t⟩
def qfx(s:ByteArray):ByteArray:=strOfNums [(s.size:Int) / 256,(s.size:Int)%256]++s
theorem qul(s:ByteArray)(w:World)(o:0<s.size)(v:s.size≤1024) :
  Calls Tryz.prog 116 #[.string s] w (qar (.tuple #[.string (qfx s),.int .i64 0]) w):=by
 have t:=q5x o
 have q:=@qod Tryz.prog 95 9 5 Tryz.underlying95 Tryz.underlying5 Tryz.underlying9 5
 have i:(strOfNums [(s.size:Int) / 256,(s.size:Int)%256]).size=2:=strOfNums_size _
 have m:(strOfNums [(s.size:Int) / 256,(s.size:Int)%256]).size+s.size≤9223372036854775807:=by omega
 clear i
 go_enter Tryz.func116,Tryz.ntmps116
 go_wp2
 go_ret2
 exact⟨rfl,(Upd.refl _ _).alloc _⟩
def ready(r:ByteArray):Bool:=decide (2≤r.size) && !qdv r&&decide (2+hd r≤r.size)
def qhm(w:World)(b n:Nat)(F:Nat→FuncId)(o m:Nat→Array Value):Prop:=∀i,i<n→w.cell? ⟨b,i,none⟩=some (.func (.func (F i)) (o i) (m i))
def qsv(n:Nat)(C:Nat→World→Prop)(D:Int→World→Prop)(e:Ending)(w':World):Prop :=
 (e = .returned (.int .i64 0)∧C n w')∨∃i:Int,i≠0∧e = .returned (.int .i64 i)∧D i w'
theorem qrn(g b n:Nat)(F:Nat→FuncId)(z o:Nat→Array Value)(T:Nat→Prop)(C:Nat→World→Prop)(D:Int→World→Prop)(w:World)(hn:n≤100)
  (hd:w.cell? ⟨g,6,none⟩=some (.bool false)) (q:qhm w b n F z o) (Z:¬T b)
  (hs:∀i,i<n→∀w',C i w'→(∀args w,(callFunc (F i) args).run Tryz.prog w = .ok (.enter (F i) args) w)∧Calls Tryz.prog (F i) (z i++o i) w' fun e y=>Upd T w' y∧qsv (i+1) C D e y)
  (K:C 0 w) :
  Calls Tryz.prog 66 #[.pointer (some ⟨g,0,none⟩),.slice (some ⟨b,0,none⟩) n n] w fun e w'=>Upd T w w'∧qsv n C D e w':=by
 have a2:(n:Int)≤100:=by omega
 have P:=qj K
 have V:=qj q
 clear K q
 go_enter Tryz.func66,Tryz.ntmps66
 go_wp2_with fail
 go_loopw [14] (fun H wr=>∃i:Nat,H = .int .i64 (i:Int)∧i≤n∧Hid (C i wr)∧Upd T w wr) (fun H _=>n-(intOf H).toNat)
 case atStart=>exact⟨0,rfl,Nat.zero_le _,P,Upd.refl _ _⟩
 case round =>
  obtain⟨i,rfl,hi,E,u⟩:=hrel;obtain⟨J,rfl⟩:∃J:World,J=wr:=⟨_,rfl⟩;by_cases v:i<n
  ·have a1:(i:Int)<(n:Int):=by omega
   obtain⟨x,m⟩:=hs i v J (qg E);have N:=u.cell (qg V i v) Z;generalize F i=Fi at *
   generalize z i=fi at *
   generalize o i=ci at *
   clear E hd;go_wp2_with fail;refine m.mono ?_;rintro e w3 ⟨I,Y⟩;have O:=u.trans I;rcases Y with ⟨rfl,t⟩ | ⟨X,he,rfl,M⟩
   ·have t:=qj t;clear N x m u I;go_wp2_with fail;go_roundw
    case rel=>exact⟨i+1,by go_num,v,t,O⟩
    case measure=>simp[intOf];omega
   ·have R:=qj M;have U:=qj he;clear N x m u I M;go_wp2_with fail;go_ret;exact⟨O,.inr ⟨X,qg U,rfl,qg R⟩⟩
  ·obtain rfl:i=n:=by omega
   have W:=qj u;clear hd u;go_wp2_with fail;go_ret;exact⟨qg W,.inl ⟨rfl,qg E⟩⟩
end
end Go.Proofs.YtfmkdoachjgjbaaGreatDoor
