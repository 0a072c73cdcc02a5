/-
  wire.try, where no step goes wrong.
-/
import Derived.Test.YtfmkdoachjgjbaaGreatDoorMbi
import Derived.Defers
import Derived.Recover
import Derived.Test.YtfmkdoachjgjbaaGreatDoorRows
import Derived.Test.YtfmkdoachjgjbaaGreatDoorMaa
import Derived.Test.YtfmkdoachjgjbaaGreatDoorSgn
import Derived.Test.YtfmkdoachjgjbaaGreatDoorMae
import Derived.Test.YtfmkdoachjgjbaaGreatDoorMba
set_option maxRecDepth 100000
set_option maxHeartbeats 2000000
set_option linter.unusedVariables false
set_option linter.unusedSimpArgs false
namespace Go.Proofs.YtfmkdoachjgjbaaGreatDoor
section
open Go.RowKit
def taF(x:Value):Sem Value:=Instr.typeAssert x 20 265 true
theorem qzr(x:Value):Instr.typeAssert x 20 265 true=taF x:=rfl
theorem zcx(w:World):(taF .nilIface).run Tryz.prog w = .ok (.tuple #[.agg #[.int .i64 0],.bool false]) w:=by kernel_rfl
attribute [local go_sem ↓ high] qzr
attribute [local go_sem] zcx
theorem qvu(p:Addr)(w:World) :
  CallsD Tryz.prog 165 #[.pointer (some p)] .returning w fun e q w'=>e = .returned (.tuple #[])∧q = .returning∧qu w w':=by
 refine callsD_of_wpS Tryz.func165 rfl fun f cs i=> ?_
 apply wpS_seq
 apply wpS_region
 simp[wpOpsS,go_sem,recoverD,i,Tryz.ntmps165,Exit.thenS]
 have m:qu w (w.alloc (.cells #[.int .i64 0] 265)):=(Upd.refl _ _).alloc _
 generalize w.alloc (.cells #[.int .i64 0] 265)=w1 at m ⊢
 generalize w.heap.size=B
 apply wpS_seq
 apply wpS_region
 simp[wpOpsS,go_sem,Exit.thenS]
 refine wpS_cond (t:=false) (by simp[Act.eval,Array.replicate]) ?_
 simp only[Bool.false_eq_true,if_false]
 refine wpS_of_wp (wp_skip ?_)
 cases f
 simp_all [bodyPostS,results,Tryz.results165]
def qys(w:World)(b n:Nat)(F:Nat→FuncId)(f:Nat→Array Value):Prop:=∀i,i<n→w.cell? ⟨b,i,none⟩=some (.func (.func (F i)) #[] (f i))
theorem zaf(b n base:Nat)(F:Nat→FuncId)(m:Nat→Array Value)(T:Nat→Prop)(C:Nat→World→Prop)(w:World)(hn:n≤100)
  (z:qys w b n F m) (hT:∀k,T k→k<base) (hb:base≤b) (W:base≤w.heap.size) (a6:b<w.heap.size)
  (K:∀i w w',C i w→Upd (fun k=>base≤k) w w'→C i w')
  (hs:∀i,i<n→∀w',C i w'→(∀args w,(callFunc (F i) args).run Tryz.prog w = .ok (.enter (F i) args) w)∧Calls Tryz.prog (F i) (m i) w' fun e v=>e = .returned (.tuple #[])∧Upd T w' v∧C (i+1) v)
  (h0:C 0 w) :
  Calls Tryz.prog 132 #[.slice (some ⟨b,0,none⟩) n n] w fun e w'=>e = .returned (.int .i64 0)∧Upd T w w'∧C n w':=by
 have a8:∀(fn:Fn) (first cap:Array Value) (w:World),(Instr.makeFunc fn first cap).run Tryz.prog w = .ok (.func fn first cap) w:=fun _ _ _ _=>rfl
 have b3:(n:Int)≤100:=by omega
 go_enter_defers Tryz.func132,Tryz.ntmps132
 go_upto_region 1 with fail
 have N:qu w (w.alloc (.cells #[.int .i64 0] 26)):=(Upd.refl _ _).alloc _
 have q:=qh w (.cells #[.int .i64 0] 26)
 have P:C 0 (w.alloc (.cells #[.int .i64 0] 26)):=K 0 w _ h0 (N.mono (fun _ _ h=>h.elim))
 generalize w.alloc (.cells #[.int .i64 0] 26)=w1 at N q P ⊢
 have M:base≤w.heap.size∧b≠w.heap.size:=⟨W,by omega⟩
 generalize L:w.heap.size=E at q M ⊢
 have O:=qb L
 clear L
 have HE:=qb q
 have H1:=qb P
 have HR:=qb z
 have Z:=qb N
 clear q P z N h0
 go_wp2_with fail
 go_loopw [8] (fun Y wr=>∃i:Nat,Y = .int .i64 (i:Int)∧i≤n∧Hid (C i wr)∧Upd T w1 wr) (fun Y _=>n-(intOf Y).toNat)
 case atStart=>exact⟨0,rfl,Nat.zero_le _,H1,Upd.refl _ _⟩
 case round =>
  obtain⟨i,rfl,hi,R,u⟩:=hrel;obtain⟨H,rfl⟩:∃H:World,H=wr:=⟨_,rfl⟩;by_cases J:i<n
  ·have a7:(i:Int)<(n:Int):=by omega
   obtain⟨X,p⟩:=hs i J H (qa R);have hc:=u.cell ((qa Z).cell (qa HR i J) (fun h=>h)) (fun h=>by have h:T b:=h;have:=hT b h;omega);generalize F i=Fi at *
   generalize m i=ci at *
   clear R;go_wp2_with fail;refine p.mono ?_;rintro e w3 ⟨rfl,u3,I⟩;have I:=qb I;have u4:=u.trans u3;clear hc X p u u3;go_wp2_with fail;go_roundw
   case rel=>exact⟨i+1,by go_num,J,I,u4⟩
   case measure=>simp[intOf];omega
  ·obtain rfl:i=n:=by omega
   have q:=u.old (qa HE) (fun h=>by have h:T E:=h;have:=hT E h;omega);have V:=q;have f0:=qo q 0;have c0:=qg q 0;have hU:=qb u;clear u q;go_wp2_with fail;have u5:Upd (fun k=>k=E) H (H.setCell ⟨E,0,none⟩ (.int .i64 0)):=(Upd.refl _ _).set1 _ _;have c5:(H.setCell ⟨E,0,none⟩ (.int .i64 0)).cell? ⟨E,0,none⟩=some (.int .i64 0):=qg (zt (V) 0 (.int .i64 0)) 0;have S:=K _ _ _ (qa R) (u5.mono (fun k _ e=>by rw[e];exact M.1));have U5:Upd T w (H.setCell ⟨E,0,none⟩ (.int .i64 0)):=(((qa Z).mono (fun _ _ h=>h.elim)).trans (qa hU)).then u5 (fun k hk e=>by have:=qa O;omega);generalize H.setCell ⟨E,0,none⟩ (.int .i64 0)=w5 at *
   refine leaves_cons (f:=165) (args:=#[.pointer (some ⟨E,0,none⟩)]) (by simp) (by simp[go_sem]) ?_;refine(qvu ⟨E,0,none⟩ _).mono ?_;rintro e u' v ⟨rfl,rfl,n⟩;have c6:=n.cell c5 (fun h=>h);have U:=K _ _ _ S (n.mono (fun _ _ h=>h.elim));have U6:Upd T w v:=U5.trans (n.mono (fun _ _ h=>h.elim));simp[Leaves,settle,results,Tryz.results132,go_sem,c6];exact⟨U6,U⟩
end
section
open Go.RowKit
theorem FldsO.upd{base:Nat}{w w':World}{v:Value}{xs:List Fld}{S:Nat→Prop}(h:FldsO base w v xs)(u:Upd S w w')(q:∀k,base≤k→¬S k):FldsO base w' v xs:=by
 obtain⟨J,f,I,F⟩:=h;refine⟨J,⟨f.1,?_⟩,I,fun i x a C E=>(F i x a C E).upd u q⟩;rcases f.2 with h | ⟨g,cap,m,z,p,H,r⟩
 ·exact .inl h
 ·exact .inr ⟨g,cap,m,z,p,u.old H (q g p),r⟩
theorem q48(V A W:Nat)(m:MsgV)(s:ByteArray)(w:World)(N:w.cell? ⟨V,0,none⟩=some (.pointer (some ⟨W,0,none⟩)))(C:MsB w A m)(F:0≤m.kind∧m.kind<256)(E:Wr w W s)(K:s.size≤1073741824) :
  Calls Tryz.prog 152 #[.pointer (some ⟨V,0,none⟩),.pointer (some ⟨A,0,none⟩)] w fun e w'=>e = .returned (.tuple #[])∧Upd (fun k=>k=W) w w'∧Wr w' W (s++zc m.kind.toNat 1):=by
 have J:=C.cells.1
 obtain⟨k,i⟩:=Int.eq_ofNat_of_zero_le F.1
 rw[i] at J
 have L:IntKind.u64.wrap (k:Int)=k:=qel (by omega) (by omega)
 have f:=fun w' (M:qu w w')=>qdo W k 1 s w' (E.new M) (by decide) (by decide) (by show k<256;omega) K
 rw[i,Int.toNat_natCast]
 clear C E i F
 go_enter Tryz.func152,Tryz.ntmps152
 go_wp2_with ((with_reducible first|rfl|refine' ut ?_ ?_;rotate_left|refine' uu ?_)<;>intros)
 refine(f _ (Upd.refl _ _)).mono ?_
 rintro e O ⟨rfl,H,p⟩
 have z:=qb H
 have q:=qb p
 clear f H p
 go_wp2_with ((with_reducible first|rfl|refine' ut ?_ ?_;rotate_left|refine' uu ?_)<;>intros)
 refine(qe1 _).mono ?_
 rintro e P ⟨rfl,v⟩
 have I:=qb ((qa z).trans (v.upd _))
 have q:=qb ((qa q).new (v.upd _))
 clear z v
 go_wp2_with ((with_reducible first|rfl|refine' ut ?_ ?_;rotate_left|refine' uu ?_)<;>intros)
 go_end0
 exact⟨rfl,qa I,qa q⟩
theorem q49(base V L A W:Nat)(v:Value)(xs:List Fld)(m:MsgV)(s:ByteArray)(w0 w:World)(U:w.cell? ⟨V,0,none⟩=some (.pointer (some ⟨W,0,none⟩)))(T:w.cell? ⟨L,0,none⟩=some v)(C:FldsO base w0 v xs)(I:qu w0 w)(J:MsB w A m)(R:PutOk m)(K:Wr w W s)(q:A≠W)(z:w0.heap.size≤W)(F:xs.length≤100)(S:s.size≤1000000) :
  Calls Tryz.prog 153 #[.pointer (some ⟨V,0,none⟩),.pointer (some ⟨L,0,none⟩),.pointer (some ⟨A,0,none⟩)] w fun e w'=>e = .returned (.tuple #[])∧Upd (fun k=>k=W) w w'∧Wr w' W (qeq xs m s):=by
 obtain⟨X,N,E⟩:∃a c,v = .slice a xs.length c:=by
  obtain⟨Y,p,-⟩:=C;exact zv p
 subst E
 have f:=fun w' (H:qu w w')=>qs4 base A W _ xs m s w0 w' C (I.trans H) (J.new H) R (K.new H) q z F S
 unfold qhe at f
 clear C J K I
 go_enter Tryz.func153,Tryz.ntmps153
 go_wp2_with ((with_reducible first|rfl|refine' ut ?_ ?_;rotate_left|refine' uu ?_)<;>intros)
 refine(f _ (Upd.refl _ _)).mono ?_
 rintro e Z ⟨rfl,M,i⟩
 have P:=qb M
 have O:=qb i
 clear f M i
 go_wp2_with ((with_reducible first|rfl|refine' ut ?_ ?_;rotate_left|refine' uu ?_)<;>intros)
 go_end0
 exact⟨rfl,qa P,qa O⟩
def qik(xs:List Fld)(m:MsgV):ByteArray:=qeq xs m (zc m.kind.toNat 1)
attribute [local go_sem ↓ high] qy qz zb
attribute [local go_sem] qas qat qax qv
theorem qwp(m:MsgV)(xs:List Fld)(hm:PutOk m)(hk:fieldsOf m.kind=some xs)(b8:0≤m.kind∧m.kind<256)(c1:xs.length≤100)(a6:qaf m=true)(w:World) :
  Calls Tryz.prog 115 #[.agg m.cells.toArray] w (qa1 (.tuple #[.string (qik xs m),.int .i64 0]) w):=by
 have c3:∀(fn:Fn) (first cap:Array Value) (w:World),(Instr.makeFunc fn first cap).run Tryz.prog w = .ok (.func fn first cap) w:=fun _ _ _ _=>rfl
 have J:=fun w'=>qh2 m hm.ok w'
 rw[a6] at J
 have Z:=fun w'=>qj6 m.kind xs hk w'
 go_enter Tryz.func115,Tryz.ntmps115
 go_upto_region 1 with fail
 have O:=qan w m hm.ok.len
 have n1:qu w (w.alloc (.cells m.cells.toArray 101)):=(Upd.refl _ _).alloc _
 generalize w.alloc (.cells m.cells.toArray 101)=w1 at n1 O ⊢
 generalize w.heap.size=A at O ⊢
 have rA:=O.row
 have E:=qb O
 have N1:=qb n1
 clear O n1
 go_wp2_with fail
 refine(J w1).mono ?_
 rintro e w2 ⟨rfl,n2⟩
 have F:=(qa E).new n2
 have c0:=F.cells.1
 have E:=qb F
 have N2:=qb ((qa N1).trans n2)
 clear rA J n2 F N1
 go_wp2_with fail
 refine(Z w2).mono ?_
 rintro e f ⟨v,rfl,n3,M⟩
 obtain⟨va,vc,rfl⟩:∃a c,v = .slice a xs.length c:=by
  obtain⟨vs,a7,-⟩:=M;exact zv a7
 have P:=(qa E).new n3
 have HF:=qb M
 have b9:=n3.size
 have E:=qb P
 have N3:=qb ((qa N2).trans n3)
 clear Z n3 M P N2 c0
 go_upto_region 5 with fail
 have n4:qu f (f.alloc (.cells #[.slice va xs.length vc] 226)):=(Upd.refl _ _).alloc _
 have b4:=qh f (.cells #[.slice va xs.length vc] 226)
 have z4:(f.alloc (.cells #[.slice va xs.length vc] 226)).heap.size=f.heap.size+1:=World.size_alloc _ _
 generalize f.alloc (.cells #[.slice va xs.length vc] 226)=w4 at n4 b4 z4 ⊢
 have n5:qu w4 (w4.alloc (.cells #[.string ⟨#[]⟩] 174)):=(Upd.refl _ _).alloc _
 have b5:=qh w4 (.cells #[.string ⟨#[]⟩] 174)
 have z5:(w4.alloc (.cells #[.string ⟨#[]⟩] 174)).heap.size=f.heap.size+2:=by rw[World.size_alloc,z4]
 rw[z4] at b5
 generalize w4.alloc (.cells #[.string ⟨#[]⟩] 174)=w5 at n5 b5 z5 ⊢
 have N:qu w5 (w5.alloc (.cells #[.pointer (some ⟨f.heap.size+1,0,none⟩)] 172)):=(Upd.refl _ _).alloc _
 have b6:=qh w5 (.cells #[.pointer (some ⟨f.heap.size+1,0,none⟩)] 172)
 have z6:(w5.alloc (.cells #[.pointer (some ⟨f.heap.size+1,0,none⟩)] 172)).heap.size=f.heap.size+3:=by rw[World.size_alloc,z5]
 rw[z5] at b6
 generalize w5.alloc (.cells #[.pointer (some ⟨f.heap.size+1,0,none⟩)] 172)=z at N b6 z6 ⊢
 have T:=(qa E).lt
 have b7:=qh z (.cells #[.func (.func 152) #[] #[.pointer (some ⟨f.heap.size+1+1,0,none⟩),.pointer (some ⟨A,0,none⟩)],.func (.func 153) #[] #[.pointer (some ⟨f.heap.size+1+1,0,none⟩),.pointer (some ⟨f.heap.size,0,none⟩),.pointer (some ⟨A,0,none⟩)]] 1)
 have n7:qu z (z.alloc (.cells #[.func (.func 152) #[] #[.pointer (some ⟨f.heap.size+1+1,0,none⟩),.pointer (some ⟨A,0,none⟩)],.func (.func 153) #[] #[.pointer (some ⟨f.heap.size+1+1,0,none⟩),.pointer (some ⟨f.heap.size,0,none⟩),.pointer (some ⟨A,0,none⟩)]] 1)):=(Upd.refl _ _).alloc _
 have z7:(z.alloc (.cells #[.func (.func 152) #[] #[.pointer (some ⟨f.heap.size+1+1,0,none⟩),.pointer (some ⟨A,0,none⟩)],.func (.func 153) #[] #[.pointer (some ⟨f.heap.size+1+1,0,none⟩),.pointer (some ⟨f.heap.size,0,none⟩),.pointer (some ⟨A,0,none⟩)]] 1)).heap.size=f.heap.size+4:=by rw[World.size_alloc,z6]
 rw[z6] at b7
 have H:z.cell? ⟨f.heap.size,0,none⟩=some (.slice va xs.length vc):=N.cell (n5.cell (qg b4 0) (fun h=>h)) (fun h=>h)
 have I:z.cell? ⟨f.heap.size+1+1,0,none⟩=some (.pointer (some ⟨f.heap.size+1,0,none⟩)):=qg b6 0
 have Y:Wr z (f.heap.size+1) ⟨#[]⟩:=N.old b5 (fun h=>h)
 have R:=(((qa E).new n4).new n5).new N
 have K:qu f z:=(n4.trans n5).trans N
 have M:=qa HF
 have N6:=qb ((qa N3).trans K)
 have p:=zaf (f.heap.size+3) 2 (f.heap.size+3) (fun i=>if i=0 then 152 else 153)
  (fun i=>if i=0 then #[.pointer (some ⟨f.heap.size+1+1,0,none⟩),.pointer (some ⟨A,0,none⟩)] else #[.pointer (some ⟨f.heap.size+1+1,0,none⟩),.pointer (some ⟨f.heap.size,0,none⟩),.pointer (some ⟨A,0,none⟩)])
  (fun k=>k=f.heap.size+1) (fun i w'=>Upd (fun k=>k=f.heap.size+1) z w'∧Wr w' (f.heap.size+1) (if i=0 then ⟨#[]⟩ else if i=1 then zc m.kind.toNat 1 else qik xs m)) _ (by decide)
  (by
   intro i hi;rcases (by omega:i=0∨i=1) with rfl | rfl
   ·exact qg b7 0
   ·exact qg b7 1)
  (fun k hk=>by omega) (Nat.le_refl _) (by rw[z7];omega) (by rw[z7];omega)
  (by
   rintro i a b ⟨C,h2⟩ u;exact⟨C.then u (fun k hk t=>by have t:f.heap.size+3≤k:=t;omega),u.old h2 (fun t=>by have t:f.heap.size+3≤f.heap.size+1:=t;omega)⟩)
  (by
   rintro i hi a ⟨C,h2⟩;have X:=C.cell I (fun h=>by have h:f.heap.size+1+1=f.heap.size+1:=h;omega);have a8:=C.cell H (fun h=>by have h:f.heap.size=f.heap.size+1:=h;omega);have S:=R.upd C (fun h=>by have h:A=f.heap.size+1:=h;omega);have c2:qu f a:=K.then C (fun k hk t=>by omega);rcases (by omega:i=0∨i=1) with rfl | rfl
   ·refine⟨enters_of Tryz.func152 (by kernel_rfl) rfl,?_⟩;refine(q48 _ A _ m _ a X S b8 h2 (by show (0:Nat)≤_;omega)).mono ?_;rintro e b ⟨rfl,u,hb⟩;refine⟨rfl,u,C.trans u,?_⟩;have e0:(⟨#[]⟩:ByteArray)++zc m.kind.toNat 1=zc m.kind.toNat 1:=ByteArray.empty_append;exact e0▸hb
   ·refine⟨enters_of Tryz.func153 (by kernel_rfl) rfl,?_⟩;refine(q49 _ _ _ A _ _ xs m _ f a X a8 M c2 S hm h2 (by omega) (by omega) c1 (by show (zc m.kind.toNat 1).size≤1000000;rw[qak];decide)).mono ?_;rintro e b ⟨rfl,u,hb⟩;exact⟨rfl,u,C.trans u,hb⟩)
  ⟨n7.mono (fun _ _ h=>h.elim),n7.old Y (fun h=>h)⟩
 have U:=qb H
 clear b4 b5 b6 b7 H M R n4 n5 N z4 z5 E HF
 go_wp2_with fail
 refine p.mono ?_
 rintro e w8 ⟨rfl,u8,L,q⟩
 have b3:=L.cell I (fun h=>by have h:f.heap.size+1+1=f.heap.size+1:=h;omega)
 have q:Wr w8 (f.heap.size+1) (qik xs m):=q
 have N8:=qb ((qa N6).then L (fun k hk t=>by have:=(qa N3).size;omega))
 clear p u8 L n7 z7 I Y K N6 N3 z6 U T b9
 generalize f.heap.size+1=W at *
 generalize qik xs m=s at *
 generalize W+1=V at *
 go_wp2_with fail
 refine(qfx _ _ _ q).mono ?_
 rintro e w9 ⟨rfl,rfl⟩
 clear q b3
 go_wp2_with fail
 go_ret2
 exact⟨rfl,qa N8⟩
end
section
open Go.RowKit
def hd(r:ByteArray):Int:=bt r 0*256+bt r 1
theorem qy7(r:ByteArray):0≤hd r∧hd r≤65535:=by
 have f:=qfe r 0;have i:=qfe r 1;unfold hd;omega
def qeo(r:ByteArray):Bool:=decide (2≤r.size)&&(decide (hd r=0) || decide (1024<hd r))
theorem qv9{r:ByteArray}(h:r.size<2):qeo r=false:=by unfold qeo;simp;omega
theorem qzy{r:ByteArray}(h:2≤r.size)(f:hd r=0):qeo r=true:=by unfold qeo;simp;omega
theorem qv8{r:ByteArray}(h:2≤r.size)(f:1024<hd r):qeo r=true:=by unfold qeo;simp;omega
theorem qp5{r:ByteArray}(f:1≤hd r)(i:hd r≤1024):qeo r=false:=by unfold qeo;simp;omega
def Spl(w:World)(b:Nat)(r:ByteArray):Prop:=w.heap[b]? = some (.cells #[.string r] 169 (0,0))
theorem Spl.cell{w:World}{b:Nat}{r:ByteArray}(h:Spl w b r):w.cell? ⟨b,0,none⟩=some (.string r):=(qg h 0)
theorem Spl.free{w:World}{b:Nat}{r:ByteArray}(h:Spl w b r):w.frozen? ⟨b,0,none⟩=false:=(qo h 0)
theorem Spl.set{w:World}{b:Nat}{r:ByteArray}(h:Spl w b r)(s:ByteArray):Spl (w.setCell ⟨b,0,none⟩ (.string s)) b s:=(zt h 0 _)
theorem Spl.q{w w':World}{b:Nat}{r:ByteArray}(h:Spl w b r)(q:Q w w'):Spl w' b r:=q.old h
def Leaves(v:Value)(b:Nat)(r:ByteArray)(w:World)(e:Ending)(w':World):Prop:=e = .returned v∧Upd (· = b) w w'∧Spl w' b r
theorem qvp(b:Nat)(r:ByteArray)(w:World)(f:w.cell? ⟨b,0,none⟩=some (.string r)) :
  Calls Tryz.prog 103 #[.pointer (some ⟨b,0,none⟩)] w fun e w'=>e = .returned (.int .i64 r.size)∧w=w':=by
 go_enter Tryz.func103,Tryz.ntmps103
 go_wp2
 go_ret
 exact⟨rfl,rfl⟩
theorem q96(b:Nat)(r s:ByteArray)(w:World)(f:w.cell? ⟨b,0,none⟩=some (.string r))(i:w.frozen? ⟨b,0,none⟩=false)(m:r.size+s.size≤9223372036854775807) :
  Calls Tryz.prog 102 #[.pointer (some ⟨b,0,none⟩),.string s] w fun e w'=>e = .returned (.tuple #[])∧w.setCell ⟨b,0,none⟩ (.string (r++s))=w':=by
 go_enter Tryz.func102,Tryz.ntmps102
 go_wp2
 go_end0
 exact⟨rfl,rfl⟩
theorem qkz(b:Nat)(r:ByteArray)(w:World)(f:w.cell? ⟨b,0,none⟩=some (.string r))(h:r.size<2) :
  Calls Tryz.prog 101 #[.pointer (some ⟨b,0,none⟩)] w (qay (.tuple #[.int .i64 0,.bool false]) w):=by
 go_enter Tryz.func101,Tryz.ntmps101
 go_wp2
 go_ret2
 exact⟨rfl,Q.refl _⟩
theorem qd8(b:Nat)(r:ByteArray)(w:World)(z:w.cell? ⟨b,0,none⟩=some (.string r))(h:2≤r.size) :
  Calls Tryz.prog 101 #[.pointer (some ⟨b,0,none⟩)] w (qay (.tuple #[.int .i64 (hd r),.bool true]) w):=by
 have q:∀w,(Instr.index 9 (.string r) (.int .i64 0)).run Tryz.prog w = .ok (.int .u8 (bt r 0)) w:=qeh 9 r .i64 0 0 Tryz.underlying9 rfl (by omega)
 have v:∀w,(Instr.index 9 (.string r) (.int .i64 1)).run Tryz.prog w = .ok (.int .u8 (bt r 1)) w:=qeh 9 r .i64 1 1 Tryz.underlying9 rfl (by omega)
 obtain⟨f,i⟩:=qfe r 0
 obtain⟨m,p⟩:=qfe r 1
 go_enter Tryz.func101,Tryz.ntmps101
 go_wp2
 go_quiet (fail)
 go_wp2
 go_ret2
 refine⟨?_,Q.drewN _ _⟩
 show Ending.returned (.tuple #[.int .i64 (bits .or .i64 (bt r 0*256) (bt r 1)),.bool true])=_
 rw[or8 _ _ f i m p]
 rfl
theorem q89(b:Nat)(r:ByteArray)(n:Int)(w:World)(i:w.cell? ⟨b,0,none⟩=some (.string r))(m:w.frozen? ⟨b,0,none⟩=false)(f:0≤n)(p:n≤r.size) :
  Calls Tryz.prog 104 #[.pointer (some ⟨b,0,none⟩),.int .i64 n] w fun e w'=>e = .returned (.string (r.extract 0 n.toNat))∧w.setCell ⟨b,0,none⟩ (.string (r.extract n.toNat r.size))=w':=by
 obtain⟨k,rfl⟩:=Int.eq_ofNat_of_zero_le f
 go_enter Tryz.func104,Tryz.ntmps104
 go_wp2
 go_ret
 exact⟨rfl,rfl⟩
theorem qrr(b:Nat)(r:ByteArray)(w:World)(m:w.cell? ⟨b,0,none⟩=some (.string r)) :
  Calls Tryz.prog 62 #[.pointer (some ⟨b,0,none⟩)] w (qay (.bool (qeo r)) w):=by
 obtain⟨z,C⟩:=qy7 r
 by_cases h:r.size<2
 ·rw[qv9 h];go_enter Tryz.func62,Tryz.ntmps62;go_wp2_with fail;refine(qkz b r _ m h).mono ?_;rintro e w1 ⟨rfl,f⟩;go_wp2;go_ret;exact⟨rfl,f⟩
 ·by_cases i:hd r=0
  ·rw[qzy (by omega) i];have H:=Lib.hid i;clear i;go_enter Tryz.func62,Tryz.ntmps62;go_wp2_with fail;refine(qd8 b r _ m (by omega)).mono ?_;rintro e w1 ⟨rfl,f⟩;have v:(hd r==0)=true:=by rw[H.out];rfl
   go_wp2;go_ret;exact⟨rfl,f⟩
  ·have v:(hd r==0)=false:=by simpa using i
   by_cases p:1024<hd r
   ·rw[qv8 (by omega) p];go_enter Tryz.func62,Tryz.ntmps62;go_wp2_with fail;refine(qd8 b r _ m (by omega)).mono ?_;rintro e w1 ⟨rfl,f⟩;go_wp2;go_ret;exact⟨rfl,f⟩
   ·rw[qp5 (by omega) (by omega)];have q:decide (1024<hd r)=false:=by simpa using p
    go_enter Tryz.func62,Tryz.ntmps62;go_wp2_with fail;refine(qd8 b r _ m (by omega)).mono ?_;rintro e w1 ⟨rfl,f⟩;go_wp2;go_ret;exact⟨rfl,f⟩
theorem q34(b:Nat)(r:ByteArray)(w:World)(f:w.cell? ⟨b,0,none⟩=some (.string r))(h:qeo r=true) :
  Calls Tryz.prog 62 #[.pointer (some ⟨b,0,none⟩)] w (qay (.bool true) w):=h▸qrr b r w f
theorem qjg(b:Nat)(r:ByteArray)(w:World)(f:w.cell? ⟨b,0,none⟩=some (.string r))(h:qeo r=false) :
  Calls Tryz.prog 62 #[.pointer (some ⟨b,0,none⟩)] w (qay (.bool false) w):=h▸qrr b r w f
theorem q95(b:Nat)(r s:ByteArray)(w:World)(f:Spl w b r)(h:qeo r=false)(m:r.size+s.size≤9223372036854775807) :
  Calls Tryz.prog 63 #[.pointer (some ⟨b,0,none⟩),.string s] w (Leaves (.int .i64 0) b (r++s) w):=by
 go_enter Tryz.func63,Tryz.ntmps63
 go_wp2_with fail
 refine(qjg b r _ f.cell h).mono ?_
 rintro e w1 ⟨rfl,i⟩
 go_wp2_with fail
 refine(q96 b r s _ (f.q i).cell (f.q i).free m).mono ?_
 rintro e w' ⟨rfl,rfl⟩
 go_wp2
 go_ret
 exact⟨rfl,(i.upd _).set1 _ _,(f.q i).set _⟩
def qid(r:ByteArray):Prop:=2≤r.size∧qeo r=false∧2+hd r≤r.size
theorem qxs(b:Nat)(r:ByteArray)(w:World)(f:Spl w b r)(h:qid r) :
  Calls Tryz.prog 64 #[.pointer (some ⟨b,0,none⟩)] w (Leaves (.tuple #[.string ((r.extract 0 (2+hd r).toNat).extract 2 (2+hd r).toNat),.bool true]) b (r.extract (2+hd r).toNat r.size) w):=by
 obtain⟨z,m,v⟩:=h
 obtain⟨E,F⟩:=qy7 r
 have C:decide ((r.size:Int)<2+hd r)=false:=by simp;omega
 go_enter Tryz.func64,Tryz.ntmps64
 go_wp2_with fail
 refine(qd8 b r _ f.cell z).mono ?_
 rintro e w1 ⟨rfl,i⟩
 go_wp2_with fail
 refine(qjg b r _ (f.q i).cell m).mono ?_
 rintro e H ⟨rfl,p⟩
 go_wp2_with fail
 refine(qvp b r _ ((f.q i).q p).cell).mono ?_
 rintro e w' ⟨rfl,rfl⟩
 go_wp2_with fail
 refine(q89 b r (2+hd r) _ ((f.q i).q p).cell ((f.q i).q p).free (by omega) v).mono ?_
 rintro e w' ⟨rfl,rfl⟩
 go_wp2
 go_ret2
 exact⟨rfl,((i.trans p).upd _).set1 _ _,((f.q i).q p).set _⟩
theorem q2e{r:ByteArray}(h:¬qid r):r.size<2∨(2≤r.size∧qeo r=true)∨(2≤r.size∧qeo r=false∧r.size<2+hd r):=by
 by_cases f:r.size<2
 ·exact .inl f
 ·cases m:qeo r with
  | true=>exact .inr (.inl ⟨by omega,rfl⟩)
  | false=>exact .inr (.inr ⟨by omega,rfl,by
    refine Int.not_le.1 fun i=>h ⟨by omega,m,i⟩⟩)
theorem q63(b:Nat)(r:ByteArray)(w:World)(m:Spl w b r)(h:¬qid r) :
  Calls Tryz.prog 64 #[.pointer (some ⟨b,0,none⟩)] w (Leaves (.tuple #[.string ⟨#[]⟩,.bool false]) b r w):=by
 obtain⟨H,I⟩:=qy7 r
 rcases q2e h with C | ⟨v,f⟩ | ⟨v,f,z⟩
 ·clear h;go_enter Tryz.func64,Tryz.ntmps64;go_wp2_with fail;refine(qkz b r _ m.cell C).mono ?_;rintro e w1 ⟨rfl,i⟩;go_wp2;go_ret2;exact⟨rfl,i.upd _,m.q i⟩
 ·clear h;go_enter Tryz.func64,Tryz.ntmps64;go_wp2_with fail;refine(qd8 b r _ m.cell v).mono ?_;rintro e w1 ⟨rfl,i⟩;go_wp2_with fail;refine(q34 b r _ (m.q i).cell f).mono ?_;rintro e F ⟨rfl,p⟩;go_wp2;go_ret2;exact⟨rfl,(i.trans p).upd _,(m.q i).q p⟩
 ·have E:decide ((r.size:Int)<2+hd r)=true:=by simpa using z
  clear h;go_enter Tryz.func64,Tryz.ntmps64;go_wp2_with fail;refine(qd8 b r _ m.cell v).mono ?_;rintro e w1 ⟨rfl,i⟩;go_wp2_with fail;refine(qjg b r _ (m.q i).cell f).mono ?_;rintro e F ⟨rfl,p⟩;go_wp2_with fail;refine(qvp b r _ ((m.q i).q p).cell).mono ?_;rintro e w' ⟨rfl,rfl⟩;go_wp2;go_ret2;exact⟨rfl,(i.trans p).upd _,(m.q i).q p⟩
def qcw(s:ByteArray):ByteArray:=strOfNums [(s.size:Int) / 256,(s.size:Int)%256]++s
theorem qu7(s:ByteArray)(w:World)(m:0<s.size)(v:s.size≤1024) :
  Calls Tryz.prog 116 #[.string s] w (qa1 (.tuple #[.string (qcw s),.int .i64 0]) w):=by
 have q:=q75 m
 have p:=@qo3 Tryz.prog 95 9 5 Tryz.underlying95 Tryz.underlying5 Tryz.underlying9 5
 have f:(strOfNums [(s.size:Int) / 256,(s.size:Int)%256]).size=2:=strOfNums_size _
 have i:(strOfNums [(s.size:Int) / 256,(s.size:Int)%256]).size+s.size≤9223372036854775807:=by omega
 clear f
 go_enter Tryz.func116,Tryz.ntmps116
 go_wp2
 go_ret2
 exact⟨rfl,(Upd.refl _ _).alloc _⟩
def ready(r:ByteArray):Bool:=decide (2≤r.size) && !qeo r&&decide (2+hd r≤r.size)
def qio(w:World)(b n:Nat)(F:Nat→FuncId)(m f:Nat→Array Value):Prop:=∀i,i<n→w.cell? ⟨b,i,none⟩=some (.func (.func (F i)) (m i) (f i))
def qtc(n:Nat)(C:Nat→World→Prop)(D:Int→World→Prop)(e:Ending)(w':World):Prop :=
 (e = .returned (.int .i64 0)∧C n w')∨∃er:Int,er≠0∧e = .returned (.int .i64 er)∧D er w'
theorem qsa(g b n:Nat)(F:Nat→FuncId)(H m:Nat→Array Value)(T:Nat→Prop)(C:Nat→World→Prop)(D:Int→World→Prop)(w:World)(hn:n≤100)
  (hd:w.cell? ⟨g,6,none⟩=some (.bool false)) (p:qio w b n F H m) (Y:¬T b)
  (hs:∀i,i<n→∀w',C i w'→(∀args w,(callFunc (F i) args).run Tryz.prog w = .ok (.enter (F i) args) w)∧Calls Tryz.prog (F i) (H i++m i) w' fun e E=>Upd T w' E∧qtc (i+1) C D e E)
  (M:C 0 w) :
  Calls Tryz.prog 66 #[.pointer (some ⟨g,0,none⟩),.slice (some ⟨b,0,none⟩) n n] w fun e w'=>Upd T w w'∧qtc n C D e w':=by
 have a7:(n:Int)≤100:=by omega
 have R:=qb M
 have V:=qb p
 clear M p
 go_enter Tryz.func66,Tryz.ntmps66
 go_wp2_with fail
 go_loopw [14] (fun J wr=>∃i:Nat,J = .int .i64 (i:Int)∧i≤n∧Hid (C i wr)∧Upd T w wr) (fun J _=>n-(intOf J).toNat)
 case atStart=>exact⟨0,rfl,Nat.zero_le _,R,Upd.refl _ _⟩
 case round =>
  obtain⟨i,rfl,hi,I,u⟩:=hrel;obtain⟨L,rfl⟩:∃L:World,L=wr:=⟨_,rfl⟩;by_cases v:i<n
  ·have a6:(i:Int)<(n:Int):=by omega
   obtain⟨z,f⟩:=hs i v L (qa I);have O:=u.cell (qa V i v) Y;generalize F i=Fi at *
   generalize H i=fi at *
   generalize m i=ci at *
   clear I hd;go_wp2_with fail;refine f.mono ?_;rintro e w3 ⟨K,X⟩;have P:=u.trans K;rcases X with ⟨rfl,q⟩ | ⟨er,Z,rfl,N⟩
   ·have q:=qb q;clear O z f u K;go_wp2_with fail;go_roundw
    case rel=>exact⟨i+1,by go_num,v,q,P⟩
    case measure=>simp[intOf];omega
   ·have S:=qb N;have U:=qb Z;clear O z f u K N;go_wp2_with fail;go_ret;exact⟨P,.inr ⟨er,qa U,rfl,qa S⟩⟩
  ·obtain rfl:i=n:=by omega
   have W:=qb u;clear hd u;go_wp2_with fail;go_ret;exact⟨qa W,.inl ⟨rfl,qa I⟩⟩
theorem q2t(g:Nat)(w:World)(f:w.cell? ⟨g,8,none⟩=some (.bool false)):Calls Tryz.prog 87 #[.pointer (some ⟨g,0,none⟩)] w fun e w'=>e = .returned (.int .i64 0)∧w=w':=by
 go_enter Tryz.func87,Tryz.ntmps87;go_wp2_with fail;go_ret;exact⟨rfl,rfl⟩
theorem qk3(g:Nat)(i:Option Addr)(p m:Nat)(w:World):Calls Tryz.prog 69 #[.pointer (some ⟨g,0,none⟩),.slice i p m] w fun e w'=>∃z C,e = .returned (.func (.func 112) #[] #[.pointer (some ⟨z,0,none⟩),.pointer (some ⟨C,0,none⟩)])∧qu w w'∧w.heap.size≤z∧w.heap.size≤C∧z<w'.heap.size∧C<w'.heap.size∧w'.cell? ⟨z,0,none⟩=some (.pointer (some ⟨g,0,none⟩))∧w'.cell? ⟨C,0,none⟩=some (.slice i p m):=by
 have H:∀(F:Fn) (first cap:Array Value) (w:World),(Instr.makeFunc F first cap).run Tryz.prog w = .ok (.func F first cap) w:=fun _ _ _ _=>rfl
 go_enter Tryz.func69,Tryz.ntmps69;go_upto_region 1 with fail;have q:qu w (w.alloc (.cells #[.pointer (some ⟨g,0,none⟩)] 28)):=(Upd.refl _ _).alloc _;have b1:=qh w (.cells #[.pointer (some ⟨g,0,none⟩)] 28);have v:(w.alloc (.cells #[.pointer (some ⟨g,0,none⟩)] 28)).heap.size=w.heap.size+1:=World.size_alloc _ _;generalize w.alloc (.cells #[.pointer (some ⟨g,0,none⟩)] 28)=w1 at q b1 v ⊢;have f:qu w1 (w1.alloc (.cells #[.slice i p m] 163)):=(Upd.refl _ _).alloc _;have b2:=qh w1 (.cells #[.slice i p m] 163);have E:(w1.alloc (.cells #[.slice i p m] 163)).heap.size=w1.heap.size+1:=World.size_alloc _ _;generalize w1.alloc (.cells #[.slice i p m] 163)=I at f b2 E ⊢;rw[v] at b2;have N:=qb (And.intro q (And.intro f (And.intro b1 (And.intro b2 (And.intro v E)))));clear q f b1 b2 v E;go_wp2_with fail;go_ret;obtain⟨q,f,b1,b2,v,E⟩:=qa N;exact⟨_,_,rfl,q.trans f,Nat.le_refl _,by omega,by omega,by omega,qg (f.old b1 (fun h=>h)) 0,qg b2 0⟩
theorem qqw(E N F g:Nat)(S:Nat→Prop)(l:Lk)(sp en lo:Nat)(SC Z:Nat→Prop)(xs:List ByteArray)(w:World)(h:LkP w g S l sp en lo SC Z)(hd:l.dead=false)(hf:l.j.fused=false)(ho:l.j.off=false)
  (hm:0≤l.j.many∧l.j.many<1099511627776) (z:l.j.bs.size≤1099511627776) (hT:Tabs w) (hn:xs.length≤1000) (T:(zk xs).size≤1024)
  (c0:w.cell? ⟨E,0,none⟩=some (.pointer (some ⟨g,0,none⟩))) (c1:w.cell? ⟨N,0,none⟩=some (.slice (some ⟨F,0,none⟩) xs.length xs.length)) (hx:∀j x,xs[j]? = some x→w.cell? ⟨F,j,none⟩=some (.string x)) (R:F<w.heap.size) (hP:¬S E) :
  Calls Tryz.prog 112 #[.pointer (some ⟨E,0,none⟩),.pointer (some ⟨N,0,none⟩)] w fun e w'=>e = .returned (.int .i64 0)∧(∃a6,LkP w' g (Fr S w w') {l with j:=l.j.app (zk xs)} sp en lo SC a6)∧Upd S w w':=by
 have c2:w.cell? ⟨g,2,none⟩=some (.pointer (some ⟨lo,0,none⟩)):=qg h.at_ 2
 have i:=fun w' (q:qu w w')=>quk F xs w' (fun j x e=>q.cell (hx j x e) (fun h=>h)) (Nat.lt_of_lt_of_le R q.size) hn (by omega)
 have v:=fun b w' (q:qu w w') hb hS=>qmj lo b Z l.j (zk xs) w' (h.jou.new q) hf ho T hm z (hT.new q) hb hS
 have K:(w.cell? ⟨E,0,none⟩=some (.pointer (some ⟨g,0,none⟩)))∧(w.cell? ⟨g,2,none⟩=some (.pointer (some ⟨lo,0,none⟩)))∧w.cell? ⟨N,0,none⟩=some (.slice (some ⟨F,0,none⟩) xs.length xs.length):=⟨c0,c2,c1⟩
 have HC:=qb K
 have H:=qb h
 have m:∀w',qu w w'→(w'.cell? ⟨E,0,none⟩=some (.pointer (some ⟨g,0,none⟩)))∧(w'.cell? ⟨g,2,none⟩=some (.pointer (some ⟨lo,0,none⟩)))∧w'.cell? ⟨N,0,none⟩=some (.slice (some ⟨F,0,none⟩) xs.length xs.length):=fun w' q=>⟨q.cell K.1 (fun h=>h),q.cell K.2.1 (fun h=>h),q.cell K.2.2 (fun h=>h)⟩
 have X:=qb h.jou.lt
 generalize hJ:zk xs=J at *
 clear h c0 c1 c2 hx hn T R hm z hT hJ
 go_enter Tryz.func112,Tryz.ntmps112
 go_upto_region 1 with fail
 refine qaw (fun w'=>(w'.cell? ⟨E,0,none⟩=some (.pointer (some ⟨g,0,none⟩)))∧(w'.cell? ⟨g,2,none⟩=some (.pointer (some ⟨lo,0,none⟩)))∧w'.cell? ⟨N,0,none⟩=some (.slice (some ⟨F,0,none⟩) xs.length xs.length)) [0,3,4] (.of [0,1,2,3,4,5,6,7,8]) (by kernel_rfl) (by kernel_rfl) K ?_
 simp only[Plan.of]
 have k0:=m _ ((Upd.refl (fun _=>False) w).drew)
 clear K
 go_wp2_with ((with_reducible first|rfl|refine' ut ?_ ?_;rotate_left|refine' uu ?_)<;>intros)
 refine(i _ ((Upd.refl (fun _=>False) w).drew)).mono ?_
 rintro e w1 ⟨rfl,L⟩
 have L:=L.ofDrew
 have k1:=m _ L
 clear i k0
 go_wp2_with (first | ((with_reducible first|rfl|refine' ut ?_ ?_;rotate_left|refine' uu ?_)<;>intros) | refine⟨k1,?_⟩)
 have C:qu w (w1.alloc (.cells #[.string J] 9)):=L.alloc _
 have U:qu w1 (w1.alloc (.cells #[.string J] 9)):=(Upd.refl _ _).alloc _
 have b2:=qg (qh w1 (.cells #[.string J] 9)) 0
 have k2:=m _ C
 have a8:=L.size
 generalize w1.alloc (.cells #[.string J] 9)=w2 at C U b2 k2 ⊢
 refine⟨k2,?_⟩
 generalize hB:w1.heap.size=B at b2 ⊢
 have f:=v B w2 C b2 (fun e=>by have:=(qa X) B e;omega)
 have N2:=qb C
 clear v L C U k1 b2 hB a8
 go_wp2_with (first | ((with_reducible first|rfl|refine' ut ?_ ?_;rotate_left|refine' uu ?_)<;>intros) | refine⟨k2,?_⟩)
 refine f.mono ?_
 rintro e W ⟨rfl,O,I⟩
 have M:=(qa N2)
 have p:=((qa H).new M).jour I O
 have d0:W.cell? ⟨E,0,none⟩=some (.pointer (some ⟨g,0,none⟩)):=I.cell k2.1 (fun e=>hP ((qa H).inJ _ e))
 have d6:=qo p.at_ 6
 have b3:W.cell? ⟨g,6,none⟩=some (.bool false):=hd▸qg p.at_ 6
 have P:=p.put_dead false
 have V:Upd (· = g) W (W.setCell ⟨g,6,none⟩ (.bool false)):=(Upd.refl _ _).set1 _ _
 have Y:=qb P
 have U3:=qb I
 have U4:=qb V
 have K2:=qb k2
 clear f O M p P I V k2 m
 go_wp2_with (first | ((with_reducible first|rfl|refine' ut ?_ ?_;rotate_left|refine' uu ?_)<;>intros) | ((with_reducible first|rfl|refine' ut ?_ ?_;rotate_left|refine' uu ?_)<;>intros) | refine⟨trivial,?_⟩)
 go_ret
 have C:=qa N2
 have I:=qa U3
 have V:=qa U4
 have z2:=C.size
 have z3:=I.size
 have z4:=V.size
 have h:=qa H
 have a7:=h.lt
 have e:({l with j:=l.j.app J} : Lk)=⟨l.c,l.j.app J,l.rest,l.out,l.ev,l.ticks,false,l.broken,l.waits⟩:=by rw[←hd]
 refine⟨rfl,⟨Fr Z w2 W,?_⟩,?_⟩
 ·rw[e];refine(qa Y).wider ?_ ?_
  ·rintro k (m | m)
   ·exact .inl m
   ·exact .inr ⟨by omega,by omega⟩
  ·rintro k (m | m)
   ·have:=a7 k m;omega
   ·exact m.2
 ·exact((C.mono (fun _ _ h=>h.elim)).trans (I.mono (fun k _ e=>h.inJ k e))).trans (V.mono (fun k _ e=>by rw[e];exact h.inG))
def qdw(m:MsgV):ByteArray:=match fieldsOf m.kind with | some xs=>qcw (qik xs m) | none=>⟨#[]⟩
structure SayOk(m:MsgV):Prop where
 put:PutOk m
 may:qaf m=true
 kind:0≤m.kind∧m.kind<256
theorem q97(xs:List Fld)(m:MsgV)(s:ByteArray):s.size≤(qeq xs m s).size:=by
 induction xs generalizing s with
 | nil=>exact Nat.le_refl _
 | cons x xs f =>
  have:=f (s++x.put m);rw[ByteArray.size_append] at this;show s.size≤(qeq xs m (s++x.put m)).size;omega
theorem qjy{k:Int}{xs:List Fld}(h:fieldsOf k=some xs):xs.length≤5:=by
 unfold fieldsOf at h
 repeat' (split at h)
 all_goals first
  | (injection h with h;subst h;decide)
  | cases h
theorem SayOk.say{m:MsgV}(h:SayOk m):∃xs,fieldsOf m.kind=some xs∧qdw m=qcw (qik xs m)∧0<(qik xs m).size∧(qik xs m).size≤1024:=by
 cases e:fieldsOf m.kind with
 | none=>have:=h.may;rw[qus e] at this;cases this
 | some xs =>
  have p:=qjy e;have f:=qjp m h.put.ok.len xs (zc m.kind.toNat 1);have i:=q97 xs m (zc m.kind.toNat 1);rw[qak] at f i;refine⟨xs,rfl,by unfold qdw;rw[e],?_,?_⟩
  ·show 0<(qeq xs m (zc m.kind.toNat 1)).size;omega
  ·show (qeq xs m (zc m.kind.toNat 1)).size≤1024;omega
theorem qd5(s:ByteArray):(qcw s).size=2+s.size:=by
 unfold qcw;rw[ByteArray.size_append,strOfNums_size];rfl
theorem SayOk.size{m:MsgV}(h:SayOk m):2<(qdw m).size∧(qdw m).size≤1026:=by
 obtain⟨xs,-,e,f,i⟩:=h.say;rw[e,qd5];omega
def zz(f:List MsgV)(out:ByteArray):ByteArray:=f.foldl (fun s m=>s++qdw m) out
theorem qq4{f:List MsgV}{i:Nat}{m:MsgV}(h:f[i]? = some m)(out:ByteArray):zz (f.take (i+1)) out=zz (f.take i) out++qdw m:=by
 unfold zz;rw[List.take_add_one,h,List.foldl_append];rfl
theorem qhg(out:ByteArray):∀(f:List MsgV),(∀m∈f,SayOk m)→∀out:ByteArray,(zz f out).size≤out.size+1026*f.length
 | [],_,out=>Nat.le_refl _
 | m::f,h,o=>by
  have i:=qhg out f (fun m p=>h m (List.mem_cons_of_mem _ p)) (o++qdw m);have q:=(h m (List.mem_cons_self ..)).size;rw[ByteArray.size_append] at i;show (zz f (o++qdw m)).size≤_;rw[List.length_cons];omega
theorem qmf(m:MsgV)(h:SayOk m)(w:World):∃t,0<t.size∧t.size≤1024∧qdw m=qcw t∧Calls Tryz.prog 115 #[.agg m.cells.toArray] w (qa1 (.tuple #[.string t,.int .i64 0]) w):=by
 obtain⟨xs,f,e,i,p⟩:=h.say;exact⟨_,i,p,e,qwp m xs h.put f h.kind (qhx f) h.may w⟩
attribute [local go_sem ↓ high] qy qz zb
attribute [local go_sem] qas qat qax qv
theorem qvf(g B:Nat)(S:Nat→Prop)(l:Lk)(sp en lo:Nat)(Z SJ:Nat→Prop)(f:List MsgV)(w:World)(h:LkP w g S l sp en lo Z SJ)(U:∀m∈f,SayOk m)(hn:f.length≤1000)(hz:l.out.size≤1099511627776)
  (hr:∀i m,f[i]? = some m→zj w B (i*38) 38=some m.cells.toArray) (hB:B≠g) :
  Calls Tryz.prog 72 #[.pointer (some ⟨g,0,none⟩),.slice (some ⟨B,0,none⟩) f.length f.length] w fun e w'=>e = .returned (.int .i64 0)∧LkP w' g S {l with out:=zz f l.out} sp en lo Z SJ∧Upd (· = g) w w':=by
 have b7:(f.length:Int)≤1000:=by omega
 have b5:=h.lt g h.inG
 have H:=qb h
 have HR:=qb hr
 have HM:=qb U
 clear h hr U
 go_enter Tryz.func72,Tryz.ntmps72
 go_wp2_with fail
 go_loopw [13] (fun iv wr=>∃i:Nat,iv = .int .i64 (i:Int)∧i≤f.length∧Hid (LkP wr g S {l with out:=zz (f.take i) l.out} sp en lo Z SJ)∧Upd (· = g) w wr) (fun iv _=>f.length-(intOf iv).toNat)
 case atStart=>exact⟨0,rfl,Nat.zero_le _,H,Upd.refl _ _⟩
 case round =>
  obtain⟨i,rfl,hi,hC,u⟩:=hrel;obtain⟨E,rfl⟩:∃E:World,E=wr:=⟨_,rfl⟩;by_cases J:i<f.length
  ·have b6:(i:Int)<(f.length:Int):=by omega
   have R:f[i]? = some f[i]:=List.getElem?_eq_getElem J;generalize f[i]=m at R;have p:=qa HM m (List.mem_of_getElem? R);have rB:=qbc (qa HR i m R) u hB;have a7:=p.put.ok.len;have T:=qb u;have HX:=qb R;have W:=qb p;clear u R p;obtain⟨N,v,V⟩:=qi3 E m a7;go_upto_region 4 with fail;change Code.wp _ _ _ _ (qjz E m);generalize qjz E m=w1 at v V ⊢;generalize E.heap.size=K at v N ⊢;have rK:=v.row;obtain⟨t,a8,b3,P,C⟩:=qmf m (qa W) w1;have q:=fun w'=>qu7 t w' a8 b3
   have hP:=(qa hC).new V;have U1:=qb ((qa T).trans (V.mono (fun _ _ h=>h.elim)));have L:=qhg ⟨#[]⟩ (f.take i) (fun m U=>qa HM m (List.mem_of_mem_take U)) l.out;have M:(zz (f.take i) l.out).size≤1099512653776:=by
    rw[List.length_take] at L;omega
   have a6:(qcw t).size≤1026:=by rw[qd5];omega
   generalize hO:zz (f.take i) l.out=O at hP M;have HO:=qb hO;have X:=qb hP;have F:=qb P;generalize qcw t=ft at q a6 F;clear N v V hC T hP L hO P;go_wp2_with fail;refine C.mono ?_;rintro e w2 ⟨rfl,n2⟩;have X:=qb ((qa X).new n2);have U2:=qb ((qa U1).trans (n2.mono (fun _ _ h=>h.elim)));clear C rK n2;go_wp2_with fail;refine(q w2).mono ?_;rintro e w3 ⟨rfl,n3⟩;have z:=(qa X).new n3;have U3:=qb ((qa U2).trans (n3.mono (fun _ _ h=>h.elim)));have c3:w3.cell? ⟨g,3,none⟩=some (.string O):=qg z.at_ 3;have f3:=qo z.at_ 3;have I:=z.put_out (O++ft);have u4:Upd (· = g) w3 (w3.setCell ⟨g,3,none⟩ (.string (O++ft))):=(Upd.refl _ _).set1 _ _;have Y:=qb I;have U4:=qb ((qa U3).trans u4);have b4:O.size+ft.size≤9223372036854775807:=by omega
   clear q n3 z I u4;go_wp2_with fail;go_roundw
   case rel =>
    refine⟨i+1,by go_num,J,?_,qa U4⟩;have e1:=qq4 (qa HX) l.out;rw[qa HO,qa F] at e1;rw[e1];exact Y
   case measure=>simp[intOf];omega
  ·obtain rfl:i=f.length:=by omega
   have T:=qb u;clear u;go_wp2_with fail;go_ret;refine⟨rfl,?_,qa T⟩;have:=qa hC;rw[List.take_length] at this;exact this
end
section
open Go.RowKit
attribute [local go_sem ↓ high] qy qz zb zf qae
attribute [local go_sem] qas qat qax qv zx qck
structure SaysIt(en:Nat)(SC:Nat→Prop)(m:MsgV)(er:Int)(c':Ch)(e:Ending)(a a':World):Prop where
 ret:e = .returned (.tuple #[.agg m.cells.toArray,.int .i64 er])
 chn:ChS a' en (Fr SC a a') c'
 upd:Upd SC a a'
theorem q3t(H M en:Nat)(v:Nat→Prop)(F:FuncId)(I i:Array Value)(m:MsgV)(er:Int)(c':Ch)(S:MsgV)(w:World)(q:m.hash.length=32)
  (O:w.cell? ⟨H,0,none⟩=some (.func (.func F) I i)) (K:MsB w M S) (E:¬v M) (P:∀args w,(callFunc F args).run Tryz.prog w = .ok (.enter F args) w)
  (J:Calls Tryz.prog F (I++i) w fun e w'=>SaysIt en v m er c' e w w') :
  Calls Tryz.prog 88 #[.pointer (some ⟨H,0,none⟩),.pointer (some ⟨M,0,none⟩)] w fun e w'=>e = .returned (.int .i64 er)∧MsB w' M m∧∃a,Upd v w a∧ChS a en (Fr v w a) c'∧Upd (· = M) a w':=by
 have L:=qb K
 clear K
 go_enter Tryz.func88,Tryz.ntmps88
 go_wp2_with ((with_reducible first|rfl|refine' ut ?_ ?_;rotate_left|refine' uu ?_)<;>intros)
 refine J.mono ?_
 rintro e w1 ⟨rfl,z,u⟩
 have p:=(qa L).upd u E
 have R:=p.stOk q
 have f:=p.put q
 have C:Upd (· = M) w1 (w1.setCells M 0 m.cells):=qx _
 have N:=qb (And.intro z (And.intro u (And.intro f C)))
 clear z u p f C J
 go_wp2_with ((with_reducible first|rfl|refine' ut ?_ ?_;rotate_left|refine' uu ?_)<;>intros)
 go_ret
 obtain⟨z,u,f,C⟩:=qa N
 exact⟨rfl,f,w1,u,z,C⟩
theorem q3u(J M g:Nat)(S:Nat→Prop)(l:Lk)(sp en lo:Nat)(q v:Nat→Prop)(m:MsgV)(w:World)(h:LkP w g S l sp en lo q v)(C:SayOk m)(W:l.out.size≤1099511627776)
  (Y:w.cell? ⟨J,0,none⟩=some (.pointer (some ⟨g,0,none⟩))) (z:MsB w M m) :
  Calls Tryz.prog 89 #[.pointer (some ⟨J,0,none⟩),.pointer (some ⟨M,0,none⟩)] w fun e w'=>e = .returned (.int .i64 0)∧LkP w' g S {l with out:=l.out++qdw m} sp en lo q v∧Upd (· = g) w w':=by
 have Z:=z.row
 have T:=h.lt g h.inG
 have L:=fun w' (X:qu w w') B R V=>qvf g B S l sp en lo q v [m] w' (h.new X) (fun x p=>by rw[List.mem_singleton.1 p];exact C) (by simp) W V R
 have H:=qb h
 have f:=C.put.ok.len
 have U:=m.len f
 have O:=qb z
 have b1:=qan w m f
 have E:qu w (w.alloc (.cells m.cells.toArray 101)):=(Upd.refl _ _).alloc _
 have F:=qb (L _ E w.heap.size (by omega) (fun i x p=>by
  cases i with
  | zero =>
   obtain rfl:m=x:=by simpa using p
   exact b1.row
  | succ i=>simp at p))
 have P:=qb E
 clear h z C L b1 E
 go_enter Tryz.func89,Tryz.ntmps89
 go_wp2_with ((with_reducible first|rfl|refine' ut ?_ ?_;rotate_left|refine' uu ?_)<;>intros)
 refine(qa F).mono ?_
 rintro e w2 ⟨rfl,K,N⟩
 have I:=qb (And.intro K N)
 clear K N F
 go_wp2_with ((with_reducible first|rfl|refine' ut ?_ ?_;rotate_left|refine' uu ?_)<;>intros)
 go_ret
 exact⟨rfl,(qa I).1,((qa P).mono (fun _ _ h=>h.elim)).trans (qa I).2⟩
end
section
open Go.RowKit
structure ActSt(W:World)(g:Nat)(S:Nat→Prop)(sp en lo M:Nat)(m:MsgV)(L:Lk)(a:World):Prop where
 upd:Upd (fun k=>S k∨k=M) W a
 msb:MsB a M m
 lk:∃SC SJ,LkP a g (Fr S W a) L sp en lo SC SJ
structure LkOk(l:Lk):Prop where
 dead:l.dead=false
 waits:l.waits=false
 fused:l.j.fused=false
 off:l.j.off=false
 many:0≤l.j.many∧l.j.many<1000000000000
 len:l.j.bs.size≤1000000000000
 out:l.out.size≤1000000000000
def Lk.says(l:Lk)(c':Ch)(rec:ByteArray)(m:MsgV):Lk:= {l with c:=c',j:=l.j.app rec,out:=l.out++qdw m}
def q3v(i:Nat):Nat:=if i=0 then 87 else if i=1 then 88 else if i=2 then 112 else 89
def qte(g:Nat)(i:Nat):Array Value:=if i=0 then #[.pointer (some ⟨g,0,none⟩)] else #[]
def qkh(q p M f m:Nat)(i:Nat):Array Value :=
 if i=0 then #[] else if i=1 then #[.pointer (some ⟨p,0,none⟩),.pointer (some ⟨M,0,none⟩)] else if i=2 then #[.pointer (some ⟨f,0,none⟩),.pointer (some ⟨m,0,none⟩)] else #[.pointer (some ⟨q,0,none⟩),.pointer (some ⟨M,0,none⟩)]
def zec(W:World)(g:Nat)(S:Nat→Prop)(sp en lo M:Nat)(m:MsgV)(l:Lk)(c':Ch)(rec:ByteArray)(er:Int)(i:Nat)(a:World):Prop :=
 if i≤1 then qu W a else er=0∧ActSt W g S sp en lo M m (if i=2 then {l with c:=c'} else if i=3 then {l with c:=c',j:=l.j.app rec} else l.says c' rec m) a
def zed(W:World)(g:Nat)(S:Nat→Prop)(sp en lo M:Nat)(m:MsgV)(l:Lk)(c':Ch)(er:Int)(x:Int)(a:World):Prop:=x=er∧ActSt W g S sp en lo M m {l with c:=c'} a
theorem qzv(g b R U M O P B:Nat)(S:Nat→Prop)(l:Lk)(sp en lo:Nat)(SC SJ:Nat→Prop)(F:FuncId)(fs v:Array Value)(m:MsgV)(er:Int)(c':Ch)(xs:List ByteArray)(W:World)
  (h:LkP W g S l sp en lo SC SJ) (f:LkOk l) (b6:m.hash.length=32) (a7:er=0→SayOk m) (hT:Tabs W) (hA:ApD S)
  (b5:∀args w,(callFunc F args).run Tryz.prog w = .ok (.enter F args) w) (hF:∀a,qu W a→Calls Tryz.prog F (fs++v) a fun e E=>SaysIt en SC m er c' e a E)
  (cL:W.cell? ⟨R,0,none⟩=some (.pointer (some ⟨g,0,none⟩))) (cC:W.cell? ⟨U,0,none⟩=some (.func (.func F) fs v)) (hM:MsB W M MsgV.zero)
  (c0:W.cell? ⟨O,0,none⟩=some (.pointer (some ⟨g,0,none⟩))) (c1:W.cell? ⟨P,0,none⟩=some (.slice (some ⟨B,0,none⟩) xs.length xs.length)) (hx:∀j x,xs[j]? = some x→W.cell? ⟨B,j,none⟩=some (.string x))
  (hn:xs.length≤1000) (b7:(zk xs).size≤1024)
  (a6:qio W b 4 q3v (qte g) (qkh R U M O P))
  (C:¬S R∧¬S M∧¬S O∧¬S P∧¬S b∧¬S B) (z:R≠M∧U≠M∧O≠M∧P≠M∧b≠M∧B≠M) (c2:B<W.heap.size) (c3:b<W.heap.size) (X:M≠4∧M≠1) :
  Calls Tryz.prog 66 #[.pointer (some ⟨g,0,none⟩),.slice (some ⟨b,0,none⟩) 4 4] W fun e w'=>Upd (fun k=>S k∨k=M∨W.heap.size≤k) W w'∧qtc 4 (zec W g S sp en lo M m l c' (zk xs) er) (zed W g S sp en lo M m l c' er) e w':=by
 have L:=h.lt
 have b3:=hM.lt
 have V:∀ {a:World} {k:Nat},k<W.heap.size→¬S k→¬Fr S W a k:=fun f hs e=>e.elim hs (fun e=>by omega)
 have b8:∀ {a:World} {T:Nat→Prop},Upd T W a→(∀k,T k→S k∨k=M)→Tabs a:=fun u Z=>hT.upd u (fun e=>(Z _ e).elim hA.c (fun e=>X.1 e.symm)) (fun e=>(Z _ e).elim hA.d (fun e=>X.2 e.symm))
 refine qsa g b 4 q3v (qte g) (qkh R U M O P) (fun k=>S k∨k=M∨W.heap.size≤k) _ _ W (by decide) (f.dead▸qg h.at_ 6) a6 ?_ ?_ ?_
 ·rintro (e | e | e)
  ·exact C.2.2.2.2.1 e
  ·exact z.2.2.2.2.1 e
  ·omega
 ·intro i hi a hC;rcases (by omega:i=0∨i=1∨i=2∨i=3) with rfl | rfl | rfl | rfl
  ·refine⟨enters_of Tryz.func87 (by kernel_rfl) rfl,?_⟩;have H:qu W a:=hC;refine(q2t g a (f.waits▸qg (h.new H).at_ 8)).mono ?_;rintro e E ⟨rfl,rfl⟩;exact⟨Upd.refl _ _,.inl ⟨rfl,H⟩⟩
  ·refine⟨enters_of Tryz.func88 (by kernel_rfl) rfl,?_⟩;have H:qu W a:=hC;have q:=hM.new H;refine(q3t U M en SC F fs v m er c' MsgV.zero a b6 (H.cell cC (fun h=>h)) q (fun e=>C.2.1 (h.inC _ e)) b5 (hF a H)).mono ?_;rintro e E ⟨rfl,a8,a1,u1,b4,p⟩;have h1:=(h.new H).chan u1 b4;have z0:=H.size;have z1:=u1.size;have z2:=p.size;have K:=h1.upd p (fun k f e=>by
    rcases f with f | f
    ·exact C.2.1 (e▸f)
    ·omega)
   have h3:LkP E g (Fr S W E) {l with c:=c'} sp en lo (Fr SC a a1) SJ:=K.wider (fun k f=>f.elim .inl (fun e=> .inr ⟨by omega,by omega⟩)) (fun k f=>f.elim (fun e=>by have:=L k e;omega) (fun e=>e.2));have u:Upd (fun k=>S k∨k=M) W E:=((H.mono (fun _ _ h=>h.elim)).trans (u1.mono (fun k _ e=> .inl (h.inC k e)))).trans (p.mono (fun k _ e=> .inr e));have st:ActSt W g S sp en lo M m {l with c:=c'} E:=⟨u,a8,_,_,h3⟩;refine⟨(u1.mono (fun k _ e=> .inl (h.inC k e))).trans (p.mono (fun k _ e=> .inr (.inl e))),?_⟩;by_cases N:er=0
   ·subst N;exact .inl ⟨rfl,rfl,st⟩
   ·exact .inr ⟨er,N,rfl,rfl,st⟩
  ·refine⟨enters_of Tryz.func112 (by kernel_rfl) rfl,?_⟩;obtain⟨N,u,q,I,J,hl⟩:er=0∧ActSt W g S sp en lo M m {l with c:=c'} a:=hC;have z0:=u.size;have nT:∀k,k<W.heap.size→¬S k→k≠M→¬(S k∨k=M):=fun k _ h1 K e=>e.elim h1 K
   have Y:=World.block_lt_of_cell? W _ c0;refine(qqw O P B g (Fr S W a) {l with c:=c'} sp en lo I J xs a hl f.dead f.fused f.off ⟨f.many.1,by have:=f.many.2;show l.j.many<_;omega⟩ (by have:=f.len;show l.j.bs.size≤_;omega) (b8 u (fun k h=>h)) hn b7
    (u.cell c0 (fun e=>e.elim C.2.2.1 z.2.2.1)) (u.cell c1 (fun e=>e.elim C.2.2.2.1 z.2.2.2.1)) (fun j x e=>u.cell (hx j x e) (fun e=>e.elim C.2.2.2.2.2 z.2.2.2.2.2)) (by omega) (V Y C.2.2.1)).mono ?_
   rintro e E ⟨rfl,⟨b9,K⟩,p⟩;have z2:=p.size;refine⟨p.mono (fun k f e=>e.elim .inl (fun e=> .inr (.inr e.1))),.inl ⟨rfl,N,⟨?_,?_,?_⟩⟩⟩
   ·exact u.then p (fun k f e=>e.elim .inl (fun e=>by omega))
   ·exact q.upd p (V b3 C.2.1)
   ·exact⟨_,_,K.wider (fun k f=>f.elim (fun e=>e.elim .inl (fun e=> .inr ⟨e.1,by omega⟩)) (fun e=> .inr ⟨by omega,e.2⟩)) (fun k f=>f.elim (fun e=>by have:=L k e;omega) (fun e=>e.2))⟩
  ·refine⟨enters_of Tryz.func89 (by kernel_rfl) rfl,?_⟩;obtain⟨N,u,q,I,J,hl⟩:er=0∧ActSt W g S sp en lo M m {l with c:=c',j:=l.j.app (zk xs)} a:=hC;have z0:=u.size;have hg:=hl.inG;refine(q3u R M g (Fr S W a) _ sp en lo I J m a hl (a7 N) (by have:=f.out;show l.out.size≤_;omega) (u.cell cL (fun e=>e.elim C.1 z.1)) q).mono ?_;rintro e E ⟨rfl,K,p⟩;have z2:=p.size;refine⟨p.mono (fun k f e=> .inl (e▸h.inG)),.inl ⟨rfl,N,⟨?_,?_,?_⟩⟩⟩
   ·exact u.trans (p.mono (fun k f e=> .inl (e▸h.inG)))
   ·exact q.upd p (fun e=>C.2.1 (e▸h.inG))
   ·exact⟨_,_,K.wider (fun k f=>f.elim .inl (fun e=> .inr ⟨e.1,by omega⟩)) (fun k f=>f.elim (fun e=>by have:=L k e;omega) (fun e=>e.2))⟩
 ·exact Upd.refl _ _
attribute [local go_sem ↓ high] qy qz zb zf qae
attribute [local go_sem] qas qat qax qv zx qck
def LkE(w:World)(g:Nat)(S:Nat→Prop)(sp en lo:Nat)(l:Lk):Prop:=∃f i,LkP w g S l sp en lo f i
theorem LkE.upd{w w':World}{g:Nat}{S T:Nat→Prop}{sp en lo:Nat}{l:Lk}(h:LkE w g S sp en lo l)(u:Upd T w w')(hd:∀k,S k→¬T k):LkE w' g S sp en lo l:=by
 obtain⟨f,i,h⟩:=h;exact⟨f,i,h.upd u hd⟩
theorem LkE.new{w w':World}{g:Nat}{S:Nat→Prop}{sp en lo:Nat}{l:Lk}(h:LkE w g S sp en lo l)(u:qu w w'):LkE w' g S sp en lo l:=h.upd u (fun _ _ h=>h)
theorem LkE.wider{w:World}{g:Nat}{S T:Nat→Prop}{sp en lo:Nat}{l:Lk}(h:LkE w g S sp en lo l)(p:∀k,S k→T k)(m:∀k,T k→k<w.heap.size):LkE w g T sp en lo l:=by
 obtain⟨f,i,h⟩:=h;exact⟨f,i,h.wider p m⟩
theorem qbu{S:Nat→Prop}{m i W wx:World}{g K sp en lo:Nat}{L:Lk}(l:LkE W g (Fr S i W) sp en lo L)(x:Upd (· = K) W wx)(p:∀k,S k→k<m.heap.size)(q:m.heap.size≤K)(v:K<i.heap.size)(z:i.heap.size≤W.heap.size):LkE wx g (Fr S m wx) sp en lo L:=by
 have C:=x.size;refine(l.upd x (fun k f e=> ?_)).wider (fun k f=> ?_) (fun k f=> ?_)
 ·rcases f with f | f
  ·have:=p k f;omega
  ·omega
 ·rcases f with f | f
  ·exact .inl f
  ·exact .inr ⟨by omega,by omega⟩
 ·rcases f with f | f
  ·have:=p k f;omega
  ·exact f.2
theorem qi2{S:Nat→Prop}{i p m W wx:World}{g K sp en lo:Nat}{L:Lk}(l:LkE W g (Fr S p m) sp en lo L)(x:Upd (· = K) W wx)(q:∀k,S k→k<i.heap.size)(v:i.heap.size≤p.heap.size)(z:m.heap.size≤K∧i.heap.size≤K)(C:m.heap.size≤W.heap.size∧i.heap.size≤W.heap.size):LkE wx g (Fr S i wx) sp en lo L:=by
 have E:=x.size;refine(l.upd x (fun k f e=> ?_)).wider (fun k f=> ?_) (fun k f=> ?_)
 ·rcases f with f | f
  ·have:=q k f;omega
  ·omega
 ·rcases f with f | f
  ·exact .inl f
  ·exact .inr ⟨by omega,by omega⟩
 ·rcases f with f | f
  ·have:=q k f;omega
  ·exact f.2
theorem qdn(z:World):∃K W,z.alloc (.cells MsgV.zero.cells.toArray 101)=W∧z.heap.size=K∧qu z W∧MsB W K MsgV.zero:=⟨_,_,rfl,rfl,(Upd.refl _ _).alloc _,qan z MsgV.zero ql⟩
theorem qcq(z:World)(C:Array Value):∃B W,z.alloc (.cells C 9)=W∧z.heap.size=B∧qu z W∧W.heap[B]? = some (.cells C 9 (0,0))∧B<W.heap.size:=⟨_,_,rfl,rfl,(Upd.refl _ _).alloc _,qh z _,by rw[World.size_alloc];omega⟩
theorem LkE.end_{w:World}{g:Nat}{S:Nat→Prop}{sp en lo:Nat}{l:Lk}(h:LkE w g S sp en lo l):w.cell? ⟨g,1,none⟩=some (.pointer (some ⟨en,0,none⟩)):=by
 obtain⟨f,i,h⟩:=h;exact qg h.at_ 1
theorem LkE.s{w:World}{g:Nat}{S:Nat→Prop}{sp en lo:Nat}{l:Lk}(h:LkE w g S sp en lo l):LkS w g S l:=by
 obtain⟨f,i,h⟩:=h;exact⟨sp,en,lo,f,i,h⟩
def zbp(sp en lo:Nat)(g:Nat)(S:Nat→Prop)(l:Lk)(m:MsgV)(er:Int)(c':Ch)(rec:ByteArray)(w:World)(e:Ending)(w':World):Prop :=
 Upd S w w'∧((er≠0∧e = .returned (.tuple #[.agg MsgV.zero.cells.toArray,.int .i64 er])∧LkE w' g (Fr S w w') sp en lo {l with c:=c'}) ∨
  (er=0∧e = .returned (.tuple #[.agg m.cells.toArray,.int .i64 0])∧LkE w' g (Fr S w w') sp en lo (l.says c' rec m)))
theorem q8q(g B:Nat)(S:Nat→Prop)(l:Lk)(sp en lo:Nat)(SC SJ:Nat→Prop)(F:FuncId)(fs p:Array Value)(m:MsgV)(er:Int)(c':Ch)(xs:List ByteArray)(w:World)
  (h:LkP w g S l sp en lo SC SJ) (f:LkOk l) (a7:m.hash.length=32) (C:er=0→SayOk m) (hT:Tabs w) (hA:ApD S)
  (d2:∀args w,(callFunc F args).run Tryz.prog w = .ok (.enter F args) w) (V:∀a,qu w a→Calls Tryz.prog F (fs++p) a fun e a'=>SaysIt en SC m er c' e a a')
  (hx:∀j x,xs[j]? = some x→w.cell? ⟨B,j,none⟩=some (.string x)) (hn:xs.length≤1000) (d3:(zk xs).size≤1024) (d5:B<w.heap.size) (c9:¬S B) :
  Calls Tryz.prog 45 #[.pointer (some ⟨g,0,none⟩),.func (.func F) fs p,.slice (some ⟨B,0,none⟩) xs.length xs.length] w fun e w'=>zbp sp en lo g S l m er c' (zk xs) w e w':=by
 have d8:∀(fn:Fn) (first cap:Array Value) (w:World),(Instr.makeFunc fn first cap).run Tryz.prog w = .ok (.func fn first cap) w:=fun _ _ _ _=>rfl
 have c1:=qb h.lt
 have d7:=h.lt g h.inG
 obtain⟨K,E⟩:∃K,K=(((w.alloc (.cells #[.pointer (some ⟨g,0,none⟩)] 28)).alloc (.cells #[.func (.func F) fs p] 109)).alloc (.cells MsgV.zero.cells.toArray 101)).alloc (.cells MsgV.zero.cells.toArray 101):=⟨_,rfl⟩
 have n4:qu w K:=by rw[E];exact((((Upd.refl _ _).alloc _).alloc _).alloc _).alloc _
 have z4:K.heap.size=w.heap.size+4:=by rw[E];simp only[World.size_alloc]
 have bL:K.cell? ⟨w.heap.size,0,none⟩=some (.pointer (some ⟨g,0,none⟩)):=by
  rw[E];exact qg (qq (qq (qq (qh _ _) _) _) _) 0
 have bC:K.cell? ⟨w.heap.size+1,0,none⟩=some (.func (.func F) fs p):=by
  rw[E];have:=qh (w.alloc (.cells #[.pointer (some ⟨g,0,none⟩)] 28)) (.cells #[.func (.func F) fs p] 109);rw[World.size_alloc] at this;exact qg (qq (qq this _) _) 0
 have bR:MsB K (w.heap.size+2) MsgV.zero:=by
  rw[E];have:=qh ((w.alloc (.cells #[.pointer (some ⟨g,0,none⟩)] 28)).alloc (.cells #[.func (.func F) fs p] 109)) (.cells MsgV.zero.cells.toArray 101);rw[World.size_alloc,World.size_alloc] at this;exact⟨qq this _,ql⟩
 have bM:MsB K (w.heap.size+3) MsgV.zero:=by
  rw[E];have:=qh (((w.alloc (.cells #[.pointer (some ⟨g,0,none⟩)] 28)).alloc (.cells #[.func (.func F) fs p] 109)).alloc (.cells MsgV.zero.cells.toArray 101)) (.cells MsgV.zero.cells.toArray 101);rw[World.size_alloc,World.size_alloc,World.size_alloc] at this;exact⟨this,ql⟩
 have HX:=qb (And.intro h (And.intro f (And.intro C (And.intro V hx))))
 have b5:=qb (And.intro hT hA)
 clear h f C V hx hT hA
 go_enter Tryz.func45,Tryz.ntmps45
 go_upto_region 2 with fail
 rw[←E]
 have bR:MsB K (w.heap.size+1+1) MsgV.zero:=bR
 have bM:MsB K (w.heap.size+1+1+1) MsgV.zero:=bM
 have HW:=qb z4
 clear E z4
 generalize hZ:w.heap.size=Z at *
 have HZ:=qb hZ
 clear hZ
 have c3:K.drew.cell? ⟨Z,0,none⟩=some (.pointer (some ⟨g,0,none⟩)):=bL
 have HB:=qb (And.intro bL (And.intro bC (And.intro bR bM)))
 have N4:=qb n4
 clear bL bC bR bM n4
 refine qaw (fun w'=>w'.cell? ⟨Z,0,none⟩=some (.pointer (some ⟨g,0,none⟩))) [0,1,4] (.of [0,1,2,3,4,5,6,7,8,9,10]) (by kernel_rfl) (by kernel_rfl) c3 ?_
 simp only[Plan.of]
 go_wp2_with ((with_reducible first|rfl|refine' ut ?_ ?_;rotate_left|refine' uu ?_)<;>intros)
 refine(qk3 g _ _ _ K.drew).mono ?_
 rintro e w5 ⟨P0,P1,rfl,n5,L,M,a8,b3,d0,d1⟩
 have n5:=n5.ofDrew
 have b9:=n5.cell (qa HB).1 (fun h=>h)
 have HD:=qb (And.intro n5 (And.intro L (And.intro M (And.intro a8 (And.intro b3 (And.intro d0 d1))))))
 clear n5 L M a8 b3 d0 d1 c3
 go_wp2_with (first | ((with_reducible first|rfl|refine' ut ?_ ?_;rotate_left|refine' uu ?_)<;>intros) | refine⟨b9,?_⟩)
 have nW:qu w5 (w5.alloc (.cells #[.func (.func 87) #[.pointer (some ⟨g,0,none⟩)] #[],.func (.func 88) #[] #[.pointer (some ⟨Z+1,0,none⟩),.pointer (some ⟨Z+1+1+1,0,none⟩)],.func (.func 112) #[] #[.pointer (some ⟨P0,0,none⟩),.pointer (some ⟨P1,0,none⟩)],.func (.func 89) #[] #[.pointer (some ⟨Z,0,none⟩),.pointer (some ⟨Z+1+1+1,0,none⟩)]] 62)):=(Upd.refl _ _).alloc _
 have bW:=qh w5 (.cells #[.func (.func 87) #[.pointer (some ⟨g,0,none⟩)] #[],.func (.func 88) #[] #[.pointer (some ⟨Z+1,0,none⟩),.pointer (some ⟨Z+1+1+1,0,none⟩)],.func (.func 112) #[] #[.pointer (some ⟨P0,0,none⟩),.pointer (some ⟨P1,0,none⟩)],.func (.func 89) #[] #[.pointer (some ⟨Z,0,none⟩),.pointer (some ⟨Z+1+1+1,0,none⟩)]] 62)
 have zW:(w5.alloc (.cells #[.func (.func 87) #[.pointer (some ⟨g,0,none⟩)] #[],.func (.func 88) #[] #[.pointer (some ⟨Z+1,0,none⟩),.pointer (some ⟨Z+1+1+1,0,none⟩)],.func (.func 112) #[] #[.pointer (some ⟨P0,0,none⟩),.pointer (some ⟨P1,0,none⟩)],.func (.func 89) #[] #[.pointer (some ⟨Z,0,none⟩),.pointer (some ⟨Z+1+1+1,0,none⟩)]] 62)).heap.size=w5.heap.size+1:=World.size_alloc _ _
 generalize w5.alloc (.cells #[.func (.func 87) #[.pointer (some ⟨g,0,none⟩)] #[],.func (.func 88) #[] #[.pointer (some ⟨Z+1,0,none⟩),.pointer (some ⟨Z+1+1+1,0,none⟩)],.func (.func 112) #[] #[.pointer (some ⟨P0,0,none⟩),.pointer (some ⟨P1,0,none⟩)],.func (.func 89) #[] #[.pointer (some ⟨Z,0,none⟩),.pointer (some ⟨Z+1+1+1,0,none⟩)]] 62)=W at nW bW zW ⊢
 have c0:=nW.cell b9 (fun h=>h)
 refine⟨c0,?_⟩
 obtain⟨N,L,M,a8,b3,d0,d1⟩:=qa HD
 obtain⟨h,f,C,V,hx⟩:=qa HX
 obtain⟨hT,hA⟩:=qa b5
 have P:qu w W:=((qa N4).trans N).trans nW
 have z4:=qa HW
 have z5:=N.size
 have L:K.heap.size≤P0:=L
 have M:K.heap.size≤P1:=M
 have b4:qio W w5.heap.size 4 q3v (qte g) (qkh Z (Z+1) (Z+1+1+1) P0 P1):=by
  intro i hi;rcases (by omega:i=0∨i=1∨i=2∨i=3) with rfl | rfl | rfl | rfl
  ·exact qg bW 0
  ·exact qg bW 1
  ·exact qg bW 2
  ·exact qg bW 3
 have hS:∀k,Z≤k→¬S k:=fun k f e=>by have:=qa c1 k e;omega
 have d4:=hT.lt
 have d6:=qa HZ
 have c4:=((qa HB).2.2.2.new N).new nW
 have c5:=((qa HB).2.2.1.new N).new nW
 have I:=qzv g w5.heap.size Z (Z+1) (Z+1+1+1) P0 P1 B S l sp en lo SC SJ F fs p m er c' xs W (h.new P) f a7 C (hT.new P) hA d2 (fun a na=>V a (P.trans na)) c0
  (nW.cell (N.cell (qa HB).2.1 (fun h=>h)) (fun h=>h)) c4 (nW.cell d0 (fun h=>h)) (nW.cell d1 (fun h=>h)) (fun j x e=>P.cell (hx j x e) (fun h=>h)) hn d3 b4
  ⟨hS _ (by omega),hS _ (by omega),hS _ (by omega),hS _ (by omega),hS _ (by omega),c9⟩ ⟨by omega,by omega,by omega,by omega,by omega,by omega⟩ (by omega) (by omega) ⟨by omega,by omega⟩
 have NN:=qb P
 have X:=qb c5
 have a6:=qb (And.intro z4 (And.intro z5 zW))
 have Y:=qb hS
 clear b4 bW d4 c4 c5 hS P nW N L M a8 b3 d0 d1 h f C V hx hT hA z4 z5 zW HD HB b9 c0 bR bM
 generalize w5.heap.size=bb at *
 go_wp2_with ((with_reducible first|rfl|refine' ut ?_ ?_;rotate_left|refine' uu ?_)<;>intros)
 refine I.mono ?_
 rintro e w6 ⟨R,(⟨rfl,he,q⟩ | ⟨x,c6,rfl,he,q⟩)⟩
 ·have q:ActSt W g S sp en lo (Z+1+1+1) m (l.says c' (zk xs) m) w6:=q;have v:=he;have b8:=trivial;clear he;have H:=(qa X).upd R (fun e=>by
   have z:=qa a6;rcases e with e | e | e
   ·exact qa Y _ (by omega) e
   ·omega
   ·omega)
  have J:=H.stOk a7;have U:=H.put a7;have O:Upd (· = Z+1+1) w6 (w6.setCells (Z+1+1) 0 m.cells):=qx _;have V:=U.at_;have rM:=q.msb.row;have HQ:=qb (And.intro R (And.intro q (And.intro O v)));clear H U O R q v I X HX b5 N4 b8;go_wp2_with ((with_reducible first|rfl|refine' ut ?_ ?_;rotate_left|refine' uu ?_)<;>intros);refine bodyPost_ret (qw rfl _ _ (Z+1+1) _ _ _ _ rfl V Tryz.underlying101 rfl (by rw[List.size_toArray,MsgV.len _ a7];exact Tryz.infoMsg)) rfl ?_;obtain⟨R,q,O,v⟩:=qa HQ;have P:=qa NN;have z:=qa a6;have zw:=qa HZ;have zn:=P.size;have z6:=R.size;have z7:=O.size;have hs:=qa Y;refine⟨?_,.inr ⟨v,rfl,?_⟩⟩
  ·refine((P.mono (T:=S) (fun _ _ h=>h.elim)).then R (fun k f e=> ?_)).then O (fun k f e=>by omega);rcases e with e | e | e
   ·exact e
   ·omega
   ·omega
  ·obtain⟨b6,b7,hl⟩:=q.lk;have c2:=hl.upd O (fun k f e=>by
    rcases f with f | f
    ·exact hs _ (by omega) (e▸f)
    ·omega)
   exact⟨b6,b7,c2.wider (fun k f=>f.elim .inl (fun e=> .inr ⟨by omega,by omega⟩)) (fun k f=>f.elim (fun e=>by have:=qa c1 k e;omega) (fun e=>e.2))⟩
 ·have he:x=er:=he;subst he;have v:=c6;have b8:=trivial;have H:=(qa X).upd R (fun e=>by
   have z:=qa a6;rcases e with e | e | e
   ·exact qa Y _ (by omega) e
   ·omega
   ·omega)
  have J:=H.stOk (k:=MsgV.zero) ql;have U:=H.put (k:=MsgV.zero) ql;have O:Upd (· = Z+1+1) w6 (w6.setCells (Z+1+1) 0 MsgV.zero.cells):=qx _;have V:=U.at_;have HQ:=qb (And.intro R (And.intro q (And.intro O v)));clear H U O R q v I X HX b5 N4 b8;have c8:=qb J;have c7:=qb V;clear J V;go_upto_if 21 with ((with_reducible first|rfl|refine' ut ?_ ?_;rotate_left|refine' uu ?_)<;>intros);refine wp_cond_true (show _=Value.bool true from congrArg Value.bool (show (x != 0)=true by simpa using c6)) ?_;have J:=qa c8;go_wp2_with ((with_reducible first|rfl|refine' ut ?_ ?_;rotate_left|refine' uu ?_)<;>intros);refine bodyPost_ret (qw rfl _ _ (Z+1+1) _ _ _ _ rfl (qa c7) Tryz.underlying101 rfl (by rw[List.size_toArray,MsgV.len _ ql];exact Tryz.infoMsg)) rfl ?_;obtain⟨R,q,O,v⟩:=qa HQ;have P:=qa NN;have z:=qa a6;have zw:=qa HZ;have zn:=P.size;have z6:=R.size;have z7:=O.size;have hs:=qa Y;refine⟨?_,.inl ⟨v,rfl,?_⟩⟩
  ·refine((P.mono (T:=S) (fun _ _ h=>h.elim)).then R (fun k f e=> ?_)).then O (fun k f e=>by omega);rcases e with e | e | e
   ·exact e
   ·omega
   ·omega
  ·obtain⟨b6,b7,hl⟩:=q.lk;have c2:=hl.upd O (fun k f e=>by
    rcases f with f | f
    ·exact hs _ (by omega) (e▸f)
    ·omega)
   exact⟨b6,b7,c2.wider (fun k f=>f.elim .inl (fun e=> .inr ⟨by omega,by omega⟩)) (fun k f=>f.elim (fun e=>by have:=qa c1 k e;omega) (fun e=>e.2))⟩
end
section
open Go.RowKit
theorem LkS.wider{w:World}{g:Nat}{S T:Nat→Prop}{l:Lk}(h:LkS w g S l)(p:∀k,S k→T k)(m:∀k,T k→k<w.heap.size):LkS w g T l:=by
 obtain⟨sp,en,lo,f,i,h⟩:=h;exact⟨sp,en,lo,f,i,h.wider p m⟩
theorem LkS.later{S:Nat→Prop}{w1 m f:World}{g:Nat}{l:Lk}(h:LkS f g (Fr S m f) l)(p:w1.heap.size≤m.heap.size):LkS f g (Fr S w1 f) l :=
 h.wider (fun k i=>i.elim .inl (fun e=> .inr ⟨by omega,e.2⟩)) (fun k i=>i.elim (fun e=>h.lt k (.inl e)) (fun e=>e.2))
def qrm(m:MsgV)(er:Int):MsgV:=if er=0 then m else MsgV.zero
def Lk.acts(l:Lk)(c':Ch)(rec:ByteArray)(m:MsgV)(er:Int):Lk:=if er=0 then l.says c' rec m else {l with c:=c'}
theorem qtf{m:MsgV}{er:Int}(h:m.hash.length=32):(qrm m er).hash.length=32:=by
 unfold qrm;split
 ·exact h
 ·exact ql
theorem qnw(g B:Nat)(S:Nat→Prop)(l:Lk)(sp en lo:Nat)(q K:Nat→Prop)(F:FuncId)(v f:Array Value)(m:MsgV)(er:Int)(c':Ch)(xs:List ByteArray)(w:World)
  (h:LkP w g S l sp en lo q K) (P:LkOk l) (I:m.hash.length=32) (i:er=0→SayOk m) (O:Tabs w) (M:ApD S)
  (E:∀args w,(callFunc F args).run Tryz.prog w = .ok (.enter F args) w) (N:∀a,qu w a→Calls Tryz.prog F (v++f) a fun e L=>SaysIt en q m er c' e a L)
  (T:∀j x,xs[j]? = some x→w.cell? ⟨B,j,none⟩=some (.string x)) (R:xs.length≤1000) (J:(zk xs).size≤1024) (C:B<w.heap.size) (z:¬S B) :
  Calls Tryz.prog 45 #[.pointer (some ⟨g,0,none⟩),.func (.func F) v f,.slice (some ⟨B,0,none⟩) xs.length xs.length] w fun e w'=>e = .returned (.tuple #[.agg (qrm m er).cells.toArray,.int .i64 er])∧LkE w' g (Fr S w w') sp en lo (l.acts c' (zk xs) m er)∧Upd S w w':=by
 refine(q8q g B S l sp en lo q K F v f m er c' xs w h P I i O M E N T R J C z).mono ?_
 rintro e w' ⟨u,(⟨p,rfl,H⟩ | ⟨p,rfl,H⟩)⟩
 ·unfold qrm Lk.acts;rw[if_neg p,if_neg p];exact⟨rfl,H,u⟩
 ·subst p;exact⟨rfl,H,u⟩
theorem qy9(a:ByteArray):zk [a]=a:=by
 show a++(⟨#[]⟩:ByteArray)=a;exact ByteArray.append_empty
attribute [local go_sem ↓ high] qy qz zb zf qae
attribute [local go_sem] qas qat qax qv zx qck
end
section
open Go.RowKit
attribute [local go_sem ↓ high] qy qz zb zf qae zl
attribute [local go_sem] qas qat qax qv zx qck qbf
end
section
open Go.RowKit
def Ch.new(s:SetupV):Ch:=⟨s,.zero,s.ours,s.cap-s.ours,[],List.replicate 17 .zero,[],[]⟩
theorem Ch.new_ok{s:SetupV}(h:s.Ok)(m:s.may):(Ch.new s).Ok:=by
 obtain⟨m1,z,C,_,_⟩:=m;have i:=h.ours;have v:=h.cap;refine⟨h,⟨Int.le_refl _,show (0:Int)≤65535 by decide⟩,⟨Int.le_refl _,show (0:Int)<4294967296 by decide⟩,⟨Int.le_refl _,show (0:Int)<18446744073709551616 by decide⟩,⟨Int.le_refl _,show (0:Int)<18446744073709551616 by decide⟩,i,?_,?_,Nat.zero_le _,⟨rfl,?_⟩,?_,?_,⟨Nat.zero_le _,Nat.zero_le _⟩⟩
 ·show 0≤s.cap-s.ours∧s.cap-s.ours<_;omega
 ·intro x f;cases f
 ·intro p q;rw[List.eq_of_mem_replicate q];rfl
 ·intro x f;cases f
 ·intro x f;cases f
theorem q85{w:World}{g:Nat}{s:SetupV}(h:ChR w g (.new s))(i:s.Ok)(m:s.may):ChS w g (· = g) (Ch.new s):=by
 refine⟨qbw,qbw,qbw,h.at_,Ch.new_ok i m,World.ownsRow_nil _ _ _ _,World.ownsRow_nil _ _ _ _,World.ownsRow_nil _ _ _ _,rfl,?_,?_,?_,?_,?_⟩
 ·intro k f;simp[qbw,Value.ownBlock] at f
 ·intro k f;simp[qbw,Value.ownBlock] at f
 ·intro k f;simp[qbw,Value.ownBlock] at f
 ·intro k f;simp[qbw,Value.ownBlock] at f
 ·intro k f;rw[f];exact zr h.at_
theorem q6t{c i a e:Int}(h:List Int)(f:a≤1125899906842624)(m:0≤e∧e≤1073741824):qaf ⟨3,c,i,a,h,e,0⟩=true:=by
 unfold qaf;show (if e<0∨1073741824<e∨(0:Int)<0∨65535<(0:Int)∨1125899906842624<a then false else decide (qfh _ _=qa9 3))=true;rw[if_neg (by omega)];kernel_rfl
theorem qqu(c:Int)(T:List Int){n:Int}(f:0≤n∧n≤65535):qaf ⟨6,c,0,0,T,0,n⟩=true:=by
 unfold qaf;show (if (0:Int)<0∨1073741824<(0:Int)∨n<0∨65535<n∨1125899906842624<(0:Int) then false else decide (qfh _ _=qa9 6))=true;rw[if_neg (by omega)];kernel_rfl
theorem qf7{k c i a e n:Int}{h:List Int}(z:0≤k∧k<256)(p:0≤c∧c<4294967296)(v:0≤i∧i<18446744073709551616)(f:0≤a∧a≤1125899906842624)(C:h.length=32)(m:∀b∈h,0≤b∧b≤255)(q:0≤e∧e≤1073741824)(F:0≤n∧n≤65535)(E:qaf ⟨k,c,i,a,h,e,n⟩=true):SayOk ⟨k,c,i,a,h,e,n⟩:=by
 refine⟨⟨⟨?_,p,v,⟨f.1,?_⟩,C,m,?_,?_⟩,⟨q.1,?_⟩,⟨F.1,?_⟩⟩,E,z⟩
 ·show -9223372036854775808≤k∧k≤9223372036854775807;omega
 ·show a<18446744073709551616;omega
 ·show -9223372036854775808≤e∧e≤9223372036854775807;omega
 ·show -9223372036854775808≤n∧n≤9223372036854775807;omega
 ·show e<4294967296;omega
 ·show n<65536;omega
theorem NewL.whole{w:World}{B g:Nat}{s:SetupV}{l:LinkV}(h:NewL w B g s l)(I:s.Ok)(H:s.may):LkS w g (fun i=>i=g∨i=l.sp∨i=l.en∨i=l.lo) (.new (Ch.new s)):=by
 have E:=q85 h.ch I H;have F:=JoS.fresh h.jo;have f:LkR w g ((Lk.new (Ch.new s)).v l.sp l.en l.lo):=by
  have:=h.lk;rw[h.isNew] at this;exact this
 have J:=h.ne;refine⟨l.sp,l.en,l.lo,_,_,⟨f,h.sp,E,F,.inl rfl,.inr (.inl rfl),fun k e=> .inr (.inr (.inl e)),fun k e=> .inr (.inr (.inr e)),?_,?_,?_,?_,?_,?_⟩⟩
 ·show ¬g=l.en;omega
 ·show ¬g=l.lo;omega
 ·show ¬l.sp=l.en;omega
 ·show ¬l.sp=l.lo;omega
 ·intro k e m;have e:k=l.en:=e;have m:k=l.lo:=m;omega
 ·have p:=zr h.lk;have q:=zr h.sp;have z:=zr h.ch.at_;have C:=zr h.jo;rintro k (e | e | e | e)<;>rw[e]
  ·exact p
  ·exact q
  ·exact z
  ·exact C
theorem qpj(b:Bool)(key:ByteArray)(ch n l r:Int)(xs:List Live):qbg (qbo b key ch n l r xs):=by unfold qbo qp1;exact qf9 _
theorem zab{c:Ch}(z:0≤c.s.ch∧c.s.ch<4294967296)(E:0≤c.k.signed∧c.k.signed≤65535):(c.sign.2.2=0→SayOk c.sign.2.1)∧c.sign.2.1.hash.length=32:=by
 unfold Ch.sign;by_cases h:qei c=0
 ·rw[if_pos h];have C:c.k.signed≠65535:=by
   intro e;unfold qei at h;rw[if_pos e] at h;split at h
   ·omega
   ·split at h<;>omega
  have f:=qgp false c.s.key c.s.ch (c.k.signed+1) c.signing.loc c.signing.rem c.signing.xs;have i:=qpj false c.s.key c.s.ch (c.k.signed+1) c.signing.loc c.signing.rem c.signing.xs;have p:∃T:List Int,T.length=32∧qbg T∧(qcm c).on c.s.ch=⟨6,c.s.ch,0,0,T,0,c.k.signed+1⟩:=by
   unfold qcm;generalize qbo false c.s.key c.s.ch (c.k.signed+1) c.signing.loc c.signing.rem c.signing.xs=T at f i;exact⟨T,f,i,rfl⟩
  clear f i;obtain⟨T,f,i,p⟩:=p;have q:((qcm c).on c.s.ch).hash.length=32:=by
   rw[p];exact f
  have v:SayOk ((qcm c).on c.s.ch):=by
   rw[p];exact qf7 (by decide) z (by decide) (by decide) f i (by decide) ⟨by omega,by omega⟩ (qqu _ _ ⟨by omega,by omega⟩)
  clear p;generalize (qcm c).on c.s.ch=m at q v;exact⟨fun _=>v,q⟩
 ·rw[if_neg h];exact⟨fun e=>absurd e h,ql⟩
end
end Go.Proofs.YtfmkdoachjgjbaaGreatDoor
