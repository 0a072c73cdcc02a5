/-
  wire.May.
-/
import Derived.Test.YthnohmjbbeahmaaGreatDoorFld3
import Derived.Test.YthnohmjbbeahmaaGreatDoorMbg
import Derived.Maps.OwnSet
import Derived.Test.YthnohmjbbeahmaaGreatDoorMaj
import Derived.Test.YthnohmjbbeahmaaGreatDoorMbh
import Derived.Test.YthnohmjbbeahmaaGreatDoorMbe
import Derived.Test.YthnohmjbbeahmaaGreatDoorTxt
set_option linter.unusedVariables false
set_option linter.unusedSimpArgs false
namespace Go.Proofs.YthnohmjbbeahmaaGreatDoor
open Go.RowKit
def qf5(xs:List Fld)(m:MsgV):MsgV:=xs.foldl (fun m x=>x.zero m) m
theorem zero_len(x:Fld)(m:MsgV)(h:m.hash.length=32):(x.zero m).hash.length=32:=by cases x<;>first | exact h | exact qs
theorem q3p{xs:List Fld}{i:Nat}{x:Fld}(h:xs[i]? = some x)(m:MsgV):qf5 (xs.take (i+1)) m=x.zero (qf5 (xs.take i) m):=by
 unfold qf5;rw[List.take_add_one,h,List.foldl_append];rfl
set_option maxRecDepth 100000 in
set_option maxHeartbeats 1000000 in
theorem q0m(base A:Nat)(v:Value)(xs:List Fld)(m:MsgV)(w:World)(hv:FldsO base w v xs)(X:MsB w A m)(Y:A<base)(b5:xs.length≤100) :
  Calls Tryz.prog 80 #[qi6,v,.pointer (some ⟨A,0,none⟩)] w fun e w'=>e = .returned (.tuple #[])∧MsB w' A (qf5 xs m)∧Upd (· = A) w w':=by
 obtain⟨vs,q,b3,K⟩:=hv
 obtain⟨va,a7,N⟩:=qap q
 have o:∀(i:Nat) (u:Value),vs[i]? = some u→∃g,va=some ⟨g,0,none⟩∧base≤g∧w.cell? ⟨g,i,none⟩=some u:=by
  intro i u E;have M:=(List.getElem?_eq_some_iff.1 E).1;rcases q.2 with ⟨e,e0⟩ | ⟨g,cap,W,e,D,hg,_,_,hs,ht⟩
  ·omega
  ·rw[N] at e;injection e with e1;refine⟨g,e1,D,?_⟩;rw[qh hg];have:W.toList[i]? = some u:=by
    rw[←E,←ht,List.getElem?_take_of_lt (by omega)]
   rwa [Array.getElem?_toList] at this
 subst N
 clear q
 have z:=qb o
 have T:=qb K
 clear o K
 unfold qi6
 go_enter Tryz.func80,Tryz.ntmps80
 go_upto_region 1 with fail
 have P:qu w (w.alloc (.cells #[.pointer none,.pointer none] 155)):=(Upd.refl _ _).alloc _
 have D:=qi w (.cells #[.pointer none,.pointer none] 155)
 have Z:=X.lt
 generalize w.alloc (.cells #[.pointer none,.pointer none] 155)=w1 at P D ⊢
 have I:A≠w.heap.size:=by omega
 generalize w.heap.size=B at D I ⊢
 have HB:=qb D
 have R:=qb (X.new P)
 have V:=qb P
 have b4:(xs.length:Int)≤100:=by omega
 clear D X P Z
 go_wp2_with fail
 go_loopw [7,10] (fun _ iv wr=>∃i:Nat,iv = .int .i64 (i:Int)∧i≤xs.length∧Hid (MsB wr A (qf5 (xs.take i) m))∧Upd (· = A) w1 wr) (fun _ iv _=>xs.length-(intOf iv).toNat)
 case atStart=>exact⟨0,rfl,Nat.zero_le _,R,Upd.refl _ _⟩
 case round =>
  obtain⟨i,rfl,hi,hM,H⟩:=hrel;obtain⟨C,rfl⟩:∃C:World,C=wr:=⟨_,rfl⟩;by_cases M:i<xs.length
  ·obtain⟨x,hx⟩:∃x,xs[i]? = some x:=⟨_,List.getElem?_eq_getElem M⟩;obtain⟨u,E⟩:∃u,vs[i]? = some u:=⟨_,List.getElem?_eq_getElem (by omega)⟩;obtain⟨g,rfl,a8,hc⟩:=qa z i u E;have hf:=qa T i x u hx E;have L:qkn base C u x:=(hf.new (qa V)).upd H (fun k hk e=>by omega);have a4:C.cell? ⟨g,i,none⟩=some u:=H.cell ((qa V).cell hc (fun h=>h)) (by show ¬g=A;omega);have t:=H.old (qa HB) (fun e=>I e.symm);have rP:=qad t 2 rfl;have d0:C.cell? ⟨B,0,none⟩=some (.pointer none):=qh t 0;have d1:C.cell? ⟨B,1,none⟩=some (.pointer none):=qh t 1;obtain⟨F,a6,rfl,hE,l⟩:=q50 x base A _ u C L (qa hM) Y;have O:=q3p hx m;have HZ:=qb O;have a9:(i:Int)<(xs.length:Int):=by omega
   unfold qi6 at l;clear hf L hc t O hx E;go_wp2_with fail;refine l.mono ?_;rintro e w3 ⟨rfl,J,u3⟩;have a5:=H.trans u3;have U:=qb J;clear l rP d0 d1 a4 hE J u3 H;go_wp2_with fail;go_roundw
   case rel=>exact⟨i+1,by go_num,by omega,by rw[qa HZ];exact U,a5⟩
   case measure=>simp[intOf];omega
  ·obtain rfl:i=xs.length:=by omega
   rw[List.take_length] at hM;go_wp2_with fail;go_end0;exact⟨rfl,qa hM,((qa V).mono (fun _ _ h=>h.elim)).trans H⟩
theorem Tryz.flatMsg:qde Tryz.prog 5 71=some (.int .i64 :: .int .u32 :: .int .u64 :: .int .u64::(List.replicate 32 (.int .u8)++[.int .i64,.int .i64])):=by kernel_rfl
theorem Tryz.eqMsg:eqB Tryz.prog 5 71=true:=by kernel_rfl
theorem Tryz.aggMsg:qiq Tryz.prog 71=true:=by kernel_rfl
theorem wfI{n:Int}(h : -9223372036854775808≤n∧n≤9223372036854775807):(Lit.int .i64 n).wf=true:=by
 simp[Lit.wf,IntKind.min,IntKind.max,IntKind.signed,IntKind.bits];omega
theorem wfU{n:Int}(h:0≤n∧n<18446744073709551616):(Lit.int .u64 n).wf=true:=by
 simp[Lit.wf,IntKind.min,IntKind.max,IntKind.signed,IntKind.bits];omega
theorem wfW{n:Int}(h:0≤n∧n<4294967296):(Lit.int .u32 n).wf=true:=by
 simp[Lit.wf,IntKind.min,IntKind.max,IntKind.signed,IntKind.bits];omega
theorem qzg{m:MsgV}(h:MsgOk m):qeq (.int .i64 :: .int .u32 :: .int .u64 :: .int .u64::(List.replicate 32 (.int .u8)++[.int .i64,.int .i64])) m.cells :=
 ⟨_,_,rfl,⟨_,rfl,wfI h.kind⟩,_,_,rfl,⟨_,rfl,wfW h.ch⟩,_,_,rfl,⟨_,rfl,wfU h.id⟩,_,_,rfl,⟨_,rfl,wfU h.amount⟩,qeq.app (qk2 h.len h.hash) ⟨_,_,rfl,⟨_,rfl,wfI h.expiry⟩,_,_,rfl,⟨_,rfl,wfI h.number⟩,rfl⟩⟩
def eqMsg(x y:Value):Sem Value:=binOp .eql 71 x y
theorem qym(x y:Value):binOp .eql 71 x y=eqMsg x y:=rfl
theorem q5l{a b:MsgV}(v:a.hash.length=32)(w:b.hash.length=32)(h:a.cells=b.cells):a=b:=by
 obtain⟨a1,a2,a3,z,l,C,D⟩:=a;obtain⟨b1,b2,E,F,m,H,I⟩:=b;unfold MsgV.cells at h;simp only[List.cons.injEq,Value.int.injEq,true_and] at h;obtain⟨rfl,rfl,rfl,rfl,h⟩:=h;have g:l.length=32:=v;have i:m.length=32:=w;have:=List.append_inj h (by simp[g,i]);obtain⟨q,o⟩:=this;have t:l=m:=qk1 q;simp only[List.cons.injEq,Value.int.injEq,true_and,and_true] at o;obtain⟨rfl,rfl⟩:=o;rw[t]
instance:DecidableEq MsgV:=fun a b =>
 decidable_of_iff (a.kind=b.kind∧a.ch=b.ch∧a.id=b.id∧a.amount=b.amount∧a.hash=b.hash∧a.expiry=b.expiry∧a.number=b.number)
  ⟨by rintro ⟨h1,h2,h3,h4,h5,h6,h7⟩;cases a;cases b;simp_all,by rintro rfl;exact⟨rfl,rfl,rfl,rfl,rfl,rfl,rfl⟩⟩
theorem zgo{a b:MsgV}(g:MsgOk a)(i:MsgOk b)(w:World):(eqMsg (.agg a.cells.toArray) (.agg b.cells.toArray)).run Tryz.prog w = .ok (.bool (decide (a=b))) w:=by
 refine qn2 5 (by decide) Tryz.eqMsg Tryz.flatMsg Tryz.aggMsg (qzg g) (qzg i) (decide (a=b)) ?_ w;constructor
 ·intro e;rw[of_decide_eq_true e]
 ·intro e;exact decide_eq_true (q5l g.len i.len e)
theorem ze2{m:MsgV}(h:MsgOk m)(x:Fld):MsgOk (x.zero m):=by
 have z:∀b∈zv,0≤b∧b≤255:=qc6;cases x
 ·exact⟨h.kind,show (0:Int)≤0∧(0:Int)<4294967296 by decide,h.id,h.amount,h.len,h.hash,h.expiry,h.number⟩
 ·exact⟨h.kind,h.ch,show (0:Int)≤0∧(0:Int)<18446744073709551616 by decide,h.amount,h.len,h.hash,h.expiry,h.number⟩
 ·exact⟨h.kind,h.ch,h.id,show (0:Int)≤0∧(0:Int)<18446744073709551616 by decide,h.len,h.hash,h.expiry,h.number⟩
 ·exact⟨h.kind,h.ch,h.id,h.amount,qs,z,h.expiry,h.number⟩
 ·exact⟨h.kind,h.ch,h.id,h.amount,h.len,h.hash,show (-9223372036854775808:Int)≤0∧(0:Int)≤9223372036854775807 by decide,h.number⟩
 ·exact⟨h.kind,h.ch,h.id,h.amount,h.len,h.hash,h.expiry,show (-9223372036854775808:Int)≤0∧(0:Int)≤9223372036854775807 by decide⟩
theorem zc4(xs:List Fld):∀ {m:MsgV},MsgOk m→MsgOk (qf5 xs m):=by
 induction xs with
 | nil=>intro m h;exact h
 | cons x xs g=>intro m h;exact g (ze2 h x)
def qeo(k:Int):MsgV:=⟨k,0,0,0,zv,0,0⟩
theorem q19{k:Int}(h : -9223372036854775808≤k∧k≤9223372036854775807):MsgOk (qeo k) :=
 ⟨h,show (0:Int)≤0∧(0:Int)<4294967296 by decide,show (0:Int)≤0∧(0:Int)<18446744073709551616 by decide,show (0:Int)≤0∧(0:Int)<18446744073709551616 by decide,qs,qc6,show (-9223372036854775808:Int)≤0∧(0:Int)≤9223372036854775807 by decide,show (-9223372036854775808:Int)≤0∧(0:Int)≤9223372036854775807 by decide⟩
theorem q3o(xs:List Fld):∀m:MsgV,(qf5 xs m).kind=m.kind:=by
 induction xs with
 | nil=>intro m;rfl
 | cons x xs g=>intro m;exact(g _).trans (by cases x<;>rfl)
def qac(m:MsgV):Bool :=
 match fieldsOf m.kind with
 | none=>false
 | some xs=>if m.expiry<0∨1073741824<m.expiry∨m.number<0∨65535<m.number∨1125899906842624<m.amount then false else decide (qf5 xs m=qeo m.kind)
theorem za5{m:MsgV}(h:fieldsOf m.kind=none):qac m=false:=by unfold qac;rw[h]
theorem za8{m:MsgV}{xs:List Fld}(h:fieldsOf m.kind=some xs):qac m=if m.expiry<0∨1073741824<m.expiry∨m.number<0∨65535<m.number∨1125899906842624<m.amount then false else decide (qf5 xs m=qeo m.kind):=by unfold qac;rw[h]
theorem qv5{k:Int}{xs:List Fld}(h:fieldsOf k=some xs):xs.length≤100:=by
 unfold fieldsOf at h
 repeat' (split at h)
 all_goals first
  | (injection h with h;subst h;decide)
  | cases h
attribute [local go_sem ↓ high] zr zu zw zx qym
attribute [local go_sem] qb3 qb9 qcf zb
theorem qx4(k:Int)(w:World):(qkt #[(0,.int .i64 k)]).run Tryz.prog w = .ok (.agg (qeo k).cells.toArray) w:=run_build w _ _ _ (by kernel_rfl)
set_option maxRecDepth 100000 in
set_option maxHeartbeats 1000000 in
theorem qsa(m:MsgV)(I:MsgOk m)(w:World):Calls Tryz.prog 63 #[.agg m.cells.toArray] w (qbr (.bool (qac m)) w):=by
 go_enter Tryz.func63,Tryz.ntmps63;go_upto_region 1 with fail;have D:=qbx w m I.len;have K:qu w (w.alloc (.cells m.cells.toArray 71)):=(Upd.refl _ _).alloc _;generalize w.alloc (.cells m.cells.toArray 71)=w1 at K D ⊢;obtain⟨A,E⟩:∃A,A=w.heap.size:=⟨_,rfl⟩;rw[←E] at D ⊢;have a4:w.heap.size≤A:=by omega
 clear E;obtain⟨U,-,-,-,-,-,-⟩:=D.cells;have T:=qb D;clear D;cases z:fieldsOf m.kind with
 | none =>
  have o:=qb (za5 z);have F:=qyp m.kind z w1;clear z I;go_wp2_with fail;refine F.mono ?_;rintro e X ⟨rfl,J⟩;have l:=K.trans J;clear F U;go_wp2_with fail;go_ret;exact⟨by rw[qa o];rfl,l⟩
 | some xs =>
  have o:=qb (za8 z);have N:=qv5 z;have F:=q1p m.kind xs z w1;have M:=I.kind;have Y:=qb I;clear z I;go_wp2_with fail;refine F.mono ?_;rintro e X ⟨v,rfl,J,H⟩;have g:=(qa T).new J;obtain⟨-,-,-,m3,O,P,-⟩:=g.cells;have l:=K.trans J;have L:=qb H;have q:=(qa T).lt;clear F U H K J;by_cases Z:m.expiry<0
  ·rw[if_pos (.inl Z)] at o;clear g;go_wp2_with fail;go_ret;exact⟨by rw[qa o];rfl,l⟩
  by_cases e2:1073741824<m.expiry
  ·rw[if_pos (.inr (.inl e2))] at o;clear g;go_wp2_with fail;go_ret;exact⟨by rw[qa o];rfl,l⟩
  by_cases e3:m.number<0
  ·rw[if_pos (.inr (.inr (.inl e3)))] at o;clear g;go_wp2_with fail;go_ret;exact⟨by rw[qa o];rfl,l⟩
  by_cases e4:65535<m.number
  ·rw[if_pos (.inr (.inr (.inr (.inl e4))))] at o;clear g;go_wp2_with fail;go_ret;exact⟨by rw[qa o];rfl,l⟩
  by_cases e5:1125899906842624<m.amount
  ·rw[if_pos (.inr (.inr (.inr (.inr e5))))] at o;clear g;go_wp2_with fail;go_ret;exact⟨by rw[qa o];rfl,l⟩
  rw[if_neg (by omega)] at o;have C:=q0m w1.heap.size A v xs m X (qa L) g q N;unfold qi6 at C;clear g;go_wp2_with fail;refine C.mono ?_;rintro e w3 ⟨rfl,t,V⟩;have R:qu w w3:=l.then V (fun i hi e=>by omega);have hz:=q3o xs m;have hok:=zc4 xs (qa Y);obtain⟨z0,-,-,-,-,-,-⟩:=t.cells;rw[hz] at z0;have rM:=t.row;have a5:=fun W=>qx4 m.kind W
  have a6:=fun W=>zgo hok (q19 M) W
  clear C V m3 O P t;go_wp2_with fail;go_ret;exact⟨by rw[qa o];rfl,R⟩
end Go.Proofs.YthnohmjbbeahmaaGreatDoor
namespace Go.Proofs.YthnohmjbbeahmaaGreatDoor
open Go.RowKit
def fnR(v:Value):Option (DataW Unit × List MemPlace) :=
 match v with
 | .func (.func F) a b=>if a.size=0∧b.size=0 then some (.lit (.int .i64 F),[]) else none
 | .nilFunc=>some (.lit (.int .i64 (-1)),[])
 | _=>none
theorem zds{v:Value}{F:Nat}{ps:List MemPlace}(h:fnR v=some (.lit (.int .i64 F),ps)):v = .func (.func F) #[] #[]:=by
 unfold fnR at h;split at h
 ·split at h
  ·rename_i g;simp only[Option.some.injEq,Prod.mk.injEq,DataW.lit.injEq,Lit.int.injEq,true_and] at h;have e:_=F:=Int.ofNat.inj h.1;rw[Array.eq_empty_of_size_eq_zero g.1,Array.eq_empty_of_size_eq_zero g.2,e]
  ·cases h
 ·simp only[Option.some.injEq,Prod.mk.injEq,DataW.lit.injEq,Lit.int.injEq,true_and] at h;omega
 ·cases h
def q94:DataW Unit:=((((((((DataW.map []).put (.int .i64 3) (.lit (.int .i64 81))).put (.int .i64 4) (.lit (.int .i64 82))).put (.int .i64 5) (.lit (.int .i64 83))).put (.int .i64 6) (.lit (.int .i64 84))).put (.int .i64 7) (.lit (.int .i64 85))).put (.int .i64 8) (.lit (.int .i64 86))).put (.int .i64 9) (.lit (.int .i64 87)))
def qkb(w:World)(b:Nat):Prop:=w.ownsMap Tryz.prog 3 fnR b 7 q94
set_option maxRecDepth 100000 in
set_option maxHeartbeats 1000000 in
theorem qy0(w:World):Calls Tryz.prog 64 #[] w fun e w'=>∃b,e = .returned (.map (some b))∧qu w w'∧qkb w' b:=by
 have K:=Maps.int_keyed Tryz.underlying3;have D:=World.ownsMap_made w Tryz.prog 3 fnR;have N:qu w (w.alloc (.map #[] 0)):=(Upd.refl _ _).alloc _;have key:∀k:Int,(Lit.int .i64 k).wf=true→keyOf Tryz.prog 3 (.int .i64 k)=some (.int .i64 k):=fun k l=>Maps.keyOf_int_mk Tryz.underlying3 l
 have T:=@run_makeMap Tryz.prog;obtain⟨w1,V,E,m⟩:=D.update K Tryz.underlying133 (by decide) (key 3 (by decide)) (val:= .func (.func 81) #[] #[]) (d:= .lit (.int .i64 81)) (ps:=[]) rfl;obtain⟨w2,W,F,o⟩:=E.update K Tryz.underlying133 (by decide) (key 4 (by decide)) (val:= .func (.func 82) #[] #[]) (d:= .lit (.int .i64 82)) (ps:=[]) rfl;obtain⟨w3,X,H,q⟩:=F.update K Tryz.underlying133 (by decide) (key 5 (by decide)) (val:= .func (.func 83) #[] #[]) (d:= .lit (.int .i64 83)) (ps:=[]) rfl;obtain⟨w4,Y,I,t⟩:=H.update K Tryz.underlying133 (by decide) (key 6 (by decide)) (val:= .func (.func 84) #[] #[]) (d:= .lit (.int .i64 84)) (ps:=[]) rfl;obtain⟨w5,Z,J,v⟩:=I.update K Tryz.underlying133 (by decide) (key 7 (by decide)) (val:= .func (.func 85) #[] #[]) (d:= .lit (.int .i64 85)) (ps:=[]) rfl;obtain⟨w6,r6,L,z⟩:=J.update K Tryz.underlying133 (by decide) (key 8 (by decide)) (val:= .func (.func 86) #[] #[]) (d:= .lit (.int .i64 86)) (ps:=[]) rfl;obtain⟨O,r7,M,C⟩:=L.update K Tryz.underlying133 (by decide) (key 9 (by decide)) (val:= .func (.func 87) #[] #[]) (d:= .lit (.int .i64 87)) (ps:=[]) rfl;have U:qu w O:=by
  have i:∀ {a b:World},a.grownBy b (some w.heap.size)→qu w a→qu w b:=fun g n=>n.grown g (fun k l R=>by injection l with l;omega)
  exact i C (i z (i v (i t (i q (i o (i m N))))))
 have P:qkb O w.heap.size:=M;clear key K D E F H I J L M m o q t v z C N;go_enter Tryz.func64,Tryz.ntmps64;go_wp2_with fail;go_ret;exact⟨_,rfl,U,P⟩
theorem qge{w:World}{b:Nat}(h:qkb w b)(k:Int)(F:Nat)(i:(Lit.int .i64 k).wf=true)(g:Maps.has q94 (.int .i64 k)=true)(hd:q94.atKey (.int .i64 k) (.lit (.int .i64 (-1))) = .lit (.int .i64 F)) :
  (Instr.lookup 133 (.map (some b)) (.int .i64 k) true).run Tryz.prog w = .ok (.tuple #[.func (.func F) #[] #[],.bool true]) w:=by
 obtain⟨v,ps,l,hv⟩:=h.look_ok (Maps.int_keyed Tryz.underlying3) Tryz.underlying133 (z:= .nilFunc) (zd:= .lit (.int .i64 (-1))) (zp:=[]) (by kernel_rfl) rfl (Maps.keyOf_int_mk Tryz.underlying3 i)
 rw[hd] at hv
 rw[l,zds hv,g]
theorem zg5{w:World}{b:Nat}(h:qkb w b):(Instr.lookup 133 (.map (some b)) (.int .i64 3) true).run Tryz.prog w = .ok (.tuple #[.func (.func 81) #[] #[],.bool true]) w:=qge h 3 _ (by decide) (by decide +kernel) rfl
theorem zg6{w:World}{b:Nat}(h:qkb w b):(Instr.lookup 133 (.map (some b)) (.int .i64 4) true).run Tryz.prog w = .ok (.tuple #[.func (.func 82) #[] #[],.bool true]) w:=qge h 4 _ (by decide) (by decide +kernel) rfl
theorem zg7{w:World}{b:Nat}(h:qkb w b):(Instr.lookup 133 (.map (some b)) (.int .i64 5) true).run Tryz.prog w = .ok (.tuple #[.func (.func 83) #[] #[],.bool true]) w:=qge h 5 _ (by decide) (by decide +kernel) rfl
theorem zg8{w:World}{b:Nat}(h:qkb w b):(Instr.lookup 133 (.map (some b)) (.int .i64 6) true).run Tryz.prog w = .ok (.tuple #[.func (.func 84) #[] #[],.bool true]) w:=qge h 6 _ (by decide) (by decide +kernel) rfl
theorem zg9{w:World}{b:Nat}(h:qkb w b):(Instr.lookup 133 (.map (some b)) (.int .i64 7) true).run Tryz.prog w = .ok (.tuple #[.func (.func 85) #[] #[],.bool true]) w:=qge h 7 _ (by decide) (by decide +kernel) rfl
theorem zha{w:World}{b:Nat}(h:qkb w b):(Instr.lookup 133 (.map (some b)) (.int .i64 8) true).run Tryz.prog w = .ok (.tuple #[.func (.func 86) #[] #[],.bool true]) w:=qge h 8 _ (by decide) (by decide +kernel) rfl
theorem zhb{w:World}{b:Nat}(h:qkb w b):(Instr.lookup 133 (.map (some b)) (.int .i64 9) true).run Tryz.prog w = .ok (.tuple #[.func (.func 87) #[] #[],.bool true]) w:=qge h 9 _ (by decide) (by decide +kernel) rfl
structure Tb(w:World):Prop where
 glob:Glob w
 spans:Spans w
 tabs:Tabs w
 deb:Deb w
structure Apart(S:Nat→Prop):Prop where
 a:¬S 0
 b:¬S 2
 c:¬S 3
 d:¬S 1
 e:¬S 5
theorem Tb.upd{S:Nat→Prop}{w w':World}(h:Tb w)(u:Upd S w w')(a:Apart S):Tb w':=⟨h.glob.upd u a.a,h.spans.upd u a.b,h.tabs.upd u a.c a.d,h.deb.upd u a.e⟩
theorem Tb.new{w w':World}(h:Tb w)(u:qu w w'):Tb w':=⟨h.glob.new u,h.spans.new u,h.tabs.new u,h.deb.new u⟩
theorem Tb.lt{w:World}(h:Tb w):0<w.heap.size∧2<w.heap.size∧3<w.heap.size∧1<w.heap.size∧5<w.heap.size :=
 ⟨World.block_lt_of_cell? w _ (h.glob.events 0 (by decide)),World.block_lt_of_cell? w _ (h.spans.spans 0 (by decide)),h.tabs.lt.1,h.tabs.lt.2,World.block_lt_of_cell? w _ (h.deb.tab 0 (by decide))⟩
theorem Apart.fr{S:Nat→Prop}{w:World}(h:Apart S)(t:Tb w)(w':World):Apart (Fr S w w'):=by
 obtain⟨a,b,c,d,e⟩:=t.lt;refine⟨?_,?_,?_,?_,?_⟩
 ·rintro (k | k)
  ·exact h.a k
  ·omega
 ·rintro (k | k)
  ·exact h.b k
  ·omega
 ·rintro (k | k)
  ·exact h.c k
  ·omega
 ·rintro (k | k)
  ·exact h.d k
  ·omega
 ·rintro (k | k)
  ·exact h.e k
  ·omega
theorem Apart.mono{S T:Nat→Prop}(h:Apart S)(st:∀k,T k→S k):Apart T:=⟨fun k=>h.a (st _ k),fun k=>h.b (st _ k),fun k=>h.c (st _ k),fun k=>h.d (st _ k),fun k=>h.e (st _ k)⟩
structure Tc(w:World):Prop where
 glob:Glob w
 spans:Spans w
 tabs:Tabs w
structure ApC(S:Nat→Prop):Prop where
 a:¬S 0
 b:¬S 2
 c:¬S 3
 d:¬S 1
theorem Tb.c{w:World}(h:Tb w):Tc w:=⟨h.glob,h.spans,h.tabs⟩
theorem Apart.cc{S:Nat→Prop}(h:Apart S):ApC S:=⟨h.a,h.b,h.c,h.d⟩
theorem Tc.upd{S:Nat→Prop}{w w':World}(h:Tc w)(u:Upd S w w')(a:ApC S):Tc w':=⟨h.glob.upd u a.a,h.spans.upd u a.b,h.tabs.upd u a.c a.d⟩
theorem Tc.new{w w':World}(h:Tc w)(u:qu w w'):Tc w':=⟨h.glob.new u,h.spans.new u,h.tabs.new u⟩
theorem Tc.lt{w:World}(h:Tc w):0<w.heap.size∧2<w.heap.size∧3<w.heap.size∧1<w.heap.size :=
 ⟨World.block_lt_of_cell? w _ (h.glob.events 0 (by decide)),World.block_lt_of_cell? w _ (h.spans.spans 0 (by decide)),h.tabs.lt.1,h.tabs.lt.2⟩
theorem ApC.mono{S T:Nat→Prop}(h:ApC S)(st:∀k,T k→S k):ApC T:=⟨fun k=>h.a (st _ k),fun k=>h.b (st _ k),fun k=>h.c (st _ k),fun k=>h.d (st _ k)⟩
theorem Fr.comp{S:Nat→Prop}{w1 g i:World}(h:w1.heap.size≤g.heap.size)(l:g.heap.size≤i.heap.size):∀k,Fr (Fr S w1 g) g i k→Fr S w1 i k:=by
 rintro k ((h | h) | h)
 ·exact .inl h
 ·exact .inr ⟨h.1,by omega⟩
 ·exact .inr ⟨by omega,h.2⟩
theorem Upd.fr{S:Nat→Prop}{w1 g l:World}(u:Upd S w1 g)(v:Upd (Fr S w1 g) g l):Upd S w1 l:=u.then v fun i m h=>by
 rcases h with h | h
 ·exact h
 ·omega
theorem ChS.comp{S:Nat→Prop}{w1 m l:World}{g:Nat}{c:Ch}(h:ChS l g (Fr (Fr S w1 m) m l) c)(o:w1.heap.size≤m.heap.size)(q:m.heap.size≤l.heap.size):ChS l g (Fr S w1 l) c:=by
 obtain⟨a,b,d,h⟩:=h;refine⟨a,b,d,h.wider (Fr.comp o q) (fun k i=> ?_)⟩;have:=h.lt g h.inG;rcases i with i | i
 ·exact h.lt k (.inl (.inl i))
 ·exact i.2
theorem ChS.frW{S:Nat→Prop}{w1 i:World}{g:Nat}{c:Ch}(h:ChS i g S c):ChS i g (Fr S w1 i) c:=by
 obtain⟨a,b,d,h⟩:=h;exact h.fr w1
theorem ChS.later{S:Nat→Prop}{w1 m l:World}{g:Nat}{c:Ch}(h:ChS l g (Fr S m l) c)(o:w1.heap.size≤m.heap.size):ChS l g (Fr S w1 l) c:=by
 obtain⟨a,b,d,h⟩:=h;refine⟨a,b,d,h.wider (fun k i=> ?_) (fun k i=> ?_)⟩
 ·rcases i with i | i
  ·exact .inl i
  ·exact .inr ⟨by omega,i.2⟩
 ·rcases i with i | i
  ·exact h.lt k (.inl i)
  ·exact i.2
theorem ChS.grow{S:Nat→Prop}{w0 w1 l:World}{g:Nat}{c:Ch}(h:ChS l g (Fr S w0 w1) c)(m:w1.heap.size≤l.heap.size):ChS l g (Fr S w0 l) c:=by
 obtain⟨a,b,d,h⟩:=h;refine⟨a,b,d,h.wider (fun k i=> ?_) (fun k i=> ?_)⟩
 ·rcases i with i | i
  ·exact .inl i
  ·exact .inr ⟨i.1,by omega⟩
 ·rcases i with i | i
  ·exact h.lt k (.inl i)
  ·exact i.2
end Go.Proofs.YthnohmjbbeahmaaGreatDoor
namespace Go.Proofs.YthnohmjbbeahmaaGreatDoor
open Go.RowKit Go.Sort
theorem get!_of{X:List Item}{n:Nat}{x:Item}(h:X[n]? = some x):X[n]! = x:=by rw[List.getElem!_eq_getElem?_getD,h];rfl
def qm2(w:World)(g off:Nat)(X:List Item):Prop :=
 ∃C T l,w.heap[g]? = some (.cells C T l)∧off+X.length*36≤C.size∧∀i x,X[i]? = some x→∀j,j<36→C[off+i*36+j]? = (zf x)[j]?
theorem qm2.row{w:World}{g off:Nat}{xs:List Item}(h:qm2 w g off xs){i:Nat}{x:Item}(o:xs[i]? = some x):zm w g (off+i*36) 36=some (zf x).toArray:=by
 obtain⟨C,T,z,q,D,t⟩:=h;have m:i<xs.length:=(List.getElem?_eq_some_iff.1 o).1;have l:off+i*36+36≤C.size:=by have:=Nat.mul_le_mul_right 36 (show i+1≤xs.length from m);omega
 rw[qbz q _ _ l];congr 1;apply Array.ext';apply List.ext_getElem?;intro j;rw[Array.getElem?_toList,Array.getElem?_extract];by_cases v:j<36
 ·rw[if_pos (by omega),t i x o j v]
 ·rw[if_neg (by omega),List.getElem?_eq_none (by rw[qco];omega)]
theorem qm2.upd{S:Nat→Prop}{w w':World}{b off:Nat}{xs:List Item}(h:qm2 w b off xs)(u:Upd S w w')(l:¬S b):qm2 w' b off xs:=by
 obtain⟨C,T,g,i,r⟩:=h;exact⟨C,T,g,u.old i l,r⟩
theorem qm2.lt{w:World}{g off:Nat}{xs:List Item}(h:qm2 w g off xs):g<w.heap.size:=by
 obtain⟨C,T,l,i,r⟩:=h;exact z6 i
theorem qdr.toR{w:World}{g off:Nat}{xs:List Item}(h:qdr w g off xs):qm2 w g off xs:=by
 obtain⟨C,T,m,t,o⟩:=h;refine⟨C,T,_,m,t,fun i x l j q=> ?_⟩;rw[o i (List.getElem?_eq_some_iff.1 l).1 j q,get!_of l]
def qfp(w:World)(v:Value)(X:List Item):Prop:=(∃a c,v = .slice a 0 c∧X=[])∨∃g off cap,v = .slice (some ⟨g,off,none⟩) X.length cap∧qm2 w g off X
theorem qfp.new{w w':World}{v:Value}{X:List Item}(h:qfp w v X)(u:qu w w'):qfp w' v X:=by
 rcases h with h | ⟨g,off,cap,e,h⟩
 ·exact .inl h
 ·exact .inr ⟨g,off,cap,e,h.upd u (fun h=>h)⟩
theorem qqv.toR{w:World}{v:Value}{X:List Item}(h:qqv w v X):qfp w v X:=by
 rcases h with h | ⟨g,cap,e,h⟩
 ·exact .inl h
 ·exact .inr ⟨g,0,cap,e,h.toR⟩
theorem qfp.slice{w:World}{v:Value}{X:List Item}(h:qfp w v X):∃a c,v = .slice a X.length c:=by
 rcases h with ⟨_,_,rfl,rfl⟩ | ⟨g,off,cap,rfl,_⟩
 ·exact⟨_,_,rfl⟩
 ·exact⟨_,_,rfl⟩
theorem qsh{w:World}{base:Nat}{e:TypeId}{size:Nat}{v:Value}{n:Nat}{xs:List Value}(h:w.ownsRow base e size v n xs):∀k,v.ownBlock=some k→base≤k:=by
 intro k i;rcases h.2 with ⟨rfl,_⟩ | ⟨g,cap,l,rfl,m,_⟩
 ·simp[Value.ownBlock] at i
 ·simp[Value.ownBlock] at i;omega
theorem qfp.at{w:World}{a:Option Addr}{n c:Nat}{X:List Item}(h:qfp w (.slice a n c) X){i:Nat}{x:Item}(g:X[i]? = some x) :
  ∃b off,a=some ⟨b,off,none⟩∧n=X.length∧zm w b (off+i*36) 36=some (zf x).toArray:=by
 rcases h with ⟨_,_,e,rfl⟩ | ⟨b,off,cap,e,l⟩
 ·simp at g
 ·cases e;exact⟨b,off,rfl,rfl,l.row g⟩
end Go.Proofs.YthnohmjbbeahmaaGreatDoor
namespace Go.Proofs.YthnohmjbbeahmaaGreatDoor
open Go.RowKit
theorem qj1(g:Nat)(x:Int)(i:Nat)(wi:Int)(s:ByteArray)(w:World)(o:wi=i)(t:Wr w g s)(l:1≤i)(m:i≤8)(q:0≤x)(v:x<2 ^ (8*i))(z:s.size≤1073741824) :
  Calls Tryz.prog 93 #[.pointer (some ⟨g,0,none⟩),.int .u64 x,.int .i64 wi] w fun e w'=>e = .returned (.int .i64 0)∧Upd (fun k=>k=g) w w'∧Wr w' g (s++qea x.toNat i):=by
 subst o
 obtain⟨n,rfl⟩:=Int.eq_ofNat_of_zero_le q
 rw[Int.toNat_natCast]
 exact q2l g n i s w t l m (by exact_mod_cast v) z
theorem qi3(g:Nat)(x:Int)(s:ByteArray)(w:World)(l:Wr w g s)(i:0≤x)(m:x<18446744073709551616)(o:s.size≤1073741824) :
  Calls Tryz.prog 93 #[.pointer (some ⟨g,0,none⟩),.int .u64 x,.int .i64 8] w fun e w'=>e = .returned (.int .i64 0)∧Upd (fun k=>k=g) w w'∧Wr w' g (s++qea x.toNat 8) :=
 qj1 g x 8 8 s w rfl l (by decide) (by decide) i m o
theorem zbf(g:Nat)(x:Int)(s:ByteArray)(w:World)(l:Wr w g s)(i:0≤x)(m:x<4294967296)(o:s.size≤1073741824) :
  Calls Tryz.prog 93 #[.pointer (some ⟨g,0,none⟩),.int .u64 x,.int .i64 4] w fun e w'=>e = .returned (.int .i64 0)∧Upd (fun k=>k=g) w w'∧Wr w' g (s++qea x.toNat 4) :=
 qj1 g x 4 4 s w rfl l (by decide) (by decide) i m o
theorem zbe(g:Nat)(x:Int)(s:ByteArray)(w:World)(l:Wr w g s)(i:0≤x)(m:x<65536)(o:s.size≤1073741824) :
  Calls Tryz.prog 93 #[.pointer (some ⟨g,0,none⟩),.int .u64 x,.int .i64 2] w fun e w'=>e = .returned (.int .i64 0)∧Upd (fun k=>k=g) w w'∧Wr w' g (s++qea x.toNat 2) :=
 qj1 g x 2 2 s w rfl l (by decide) (by decide) i m o
theorem zbd(g:Nat)(x:Int)(s:ByteArray)(w:World)(l:Wr w g s)(i:0≤x)(m:x<256)(o:s.size≤1073741824) :
  Calls Tryz.prog 93 #[.pointer (some ⟨g,0,none⟩),.int .u64 x,.int .i64 1] w fun e w'=>e = .returned (.int .i64 0)∧Upd (fun k=>k=g) w w'∧Wr w' g (s++qea x.toNat 1) :=
 qj1 g x 1 1 s w rfl l (by decide) (by decide) i m o
end Go.Proofs.YthnohmjbbeahmaaGreatDoor
namespace Go.Proofs.YthnohmjbbeahmaaGreatDoor
open Go.RowKit Go.Sort
def qho(s:ByteArray)(x:Item):ByteArray:=s++qea (if x.offered then 1 else 0) 1++qea x.h.id.toNat 8++qea x.h.amount.toNat 8++strOfNums x.h.hash.toList++qea (x.h.expiry%18446744073709551616).toNat 8
def qub(ch n A B:Int)(m:Nat):ByteArray:=qea ch.toNat 4++qea (n%18446744073709551616).toNat 8++qea A.toNat 8++qea B.toNat 8++qea (m%65536) 2
def qki(ch n A B:Int)(X:List Item):ByteArray:=X.foldl qho (qub ch n A B X.length)
theorem qy7(s:ByteArray)(x:Item):(qho s x).size=s.size+57:=by
 unfold qho;simp only[ByteArray.size_append,qhc,strOfNums_size];simp
theorem qrj(ch n A B:Int)(m:Nat):(qub ch n A B m).size=30:=by
 unfold qub;simp only[ByteArray.size_append,qhc]
theorem qt6(X:List Item):∀s:ByteArray,(X.foldl qho s).size=s.size+57*X.length:=by
 induction X with
 | nil=>intro s;simp
 | cons x X g=>intro s;rw[List.foldl_cons,g,qy7,List.length_cons];omega
theorem q57(X:List Item)(s:ByteArray){k:Nat}{x:Item}(h:X[k]? = some x):(X.take (k+1)).foldl qho s=qho ((X.take k).foldl qho s) x:=by
 rw[List.take_add_one,h];simp
def qvh:Array Value:=(.bool false :: .int .u64 0 :: .int .u64 0::(List.replicate 32 (.int .u8 0)++[.int .i64 0]):List Value).toArray
theorem q5x(s:ByteArray):(ByteArray.mk #[])++s=s:=by
 apply ByteArray.ext;simp
theorem qiw(x:Item)(i:Nat)(l:i<36){w:World}{b:Nat}{T:TypeId}{g:Nat × Nat}(h:w.heap[b]? = some (.cells (zf x).toArray T g)):w.cell? ⟨b,i,none⟩=(zf x)[i]? := by
 rw[qh h,List.getElem?_toArray]
theorem qyw(x:Item){w:World}{b:Nat}{T:TypeId}{g:Nat × Nat}(h:w.heap[b]? = some (.cells (zf x).toArray T g)):zm w b 3 32=some (x.h.hash.toList.map (Value.int .u8)).toArray:=by
 rw[qbz h 3 32 (by simp[qco])];congr 1;apply Array.ext';rw[Array.toList_extract];unfold zf ze;simp
theorem q4e(x:Item):(zf x)[35]? = some (.int .i64 x.h.expiry):=by
 unfold zf ze;rw[List.getElem?_cons_succ,List.getElem?_cons_succ,List.getElem?_cons_succ,List.getElem?_append_right (by simp)];simp
theorem Tryz.infoHashT:(Tryz.prog.info? 33).map (·.size)=some 32:=by kernel_rfl
def q4i(x:Value):Sem Value:=Instr.loadAt 33 x
theorem qtk(x:Value):Instr.loadAt 33 x=q4i x:=rfl
theorem zas(b o:Nat)(w:World):(q4i (.pointer (some ⟨b,o,none⟩))).run Tryz.prog w=match zm w b o 32 with | some A=> .ok (.agg A) w | none=>qek Tryz.prog 33 w b o :=
 qae 33 32 _ Tryz.underlying33 rfl Tryz.infoHashT b o w
attribute [local go_sem ↓ high] qg2 qtk
attribute [local go_sem] qqh zas
set_option maxRecDepth 100000 in
set_option maxHeartbeats 4000000 in
theorem zct(ch n A B:Int)(u:Value)(X:List Item)(hl:X.length≤1048576)(hok:∀x∈X,HtlcOk x.h)(w:World)(hc:0≤ch∧ch<4294967296)(hn : -9223372036854775808≤n∧n≤9223372036854775807)
  (hA:0≤A∧A<18446744073709551616) (hB:0≤B∧B<18446744073709551616) (hu:qfp w u X) :
  Calls Tryz.prog 74 #[.int .u32 ch,.int .i64 n,.agg #[.int .u64 A,.int .u64 B,u]] w (qbr (.string (qki ch n A B X)) w):=by
 obtain⟨a,c,rfl⟩:=hu.slice
 go_enter Tryz.func74,Tryz.ntmps74
 go_upto_region 2 with fail
 have C:qu w ((w.alloc (.cells #[.int .u64 A,.int .u64 B,.slice a X.length c] 126)).alloc (.cells #[.string ⟨#[]⟩] 164)):=((Upd.refl _ _).alloc _).alloc _
 have i:((w.alloc (.cells #[.int .u64 A,.int .u64 B,.slice a X.length c] 126)).alloc (.cells #[.string ⟨#[]⟩] 164)).heap[w.heap.size]? = some (.cells #[.int .u64 A,.int .u64 B,.slice a X.length c] 126 (0,0)):=zj (qi _ _) _
 have hg:Wr ((w.alloc (.cells #[.int .u64 A,.int .u64 B,.slice a X.length c] 126)).alloc (.cells #[.string ⟨#[]⟩] 164)) (w.heap.size+1) ⟨#[]⟩:=by
  have:=qi (w.alloc (.cells #[.int .u64 A,.int .u64 B,.slice a X.length c] 126)) (.cells #[.string ⟨#[]⟩] 164);rwa [World.size_alloc] at this
 generalize (w.alloc (.cells #[.int .u64 A,.int .u64 B,.slice a X.length c] 126)).alloc (.cells #[.string ⟨#[]⟩] 164)=w1 at C i hg ⊢
 have HA:=qb hA
 have HB:=qb hB
 obtain⟨P,a6⟩:∃P:Int,P=n%18446744073709551616:=⟨_,rfl⟩
 have U:=qb (show 0≤P∧P<18446744073709551616 by omega)
 have e8:IntKind.u64.wrap n=P:=by rw[IntKind.wrap_u64,a6]
 have J:qub ch n A B X.length=qea ch.toNat 4++qea P.toNat 8++qea A.toNat 8++qea B.toNat 8++qea (X.length%65536) 2:=by rw[a6];rfl
 have g:=qb J
 obtain⟨b9,c0⟩:=hc
 have s4:=fun x=>qhc x 4
 have s8:=fun x=>qhc x 8
 have b4:=qb s4
 have D:=qb s8
 clear a6 J hA hB hn s4 s8
 have e4:w.heap.size+1<w1.heap.size:=hg.lt
 have f7:(X.length:Int)≤1048576:=by omega
 obtain⟨G,hG⟩:∃G,G=w.heap.size+1:=⟨_,rfl⟩
 rw[←hG] at hg e4 ⊢
 have f5:w.heap.size<G:=by omega
 clear hG
 go_wp2_with fail
 refine(zbf G ch ⟨#[]⟩ w1 hg b9 c0 (by decide)).mono ?_
 rintro e w2 ⟨rfl,u2,g2⟩
 rw[q5x] at g2
 replace i:=u2.old i (by omega)
 replace C:=C.then u2 (fun q O h=>by omega)
 clear hg u2 b9 c0
 have z2:(qea ch.toNat 4).size=4:=qa b4 _
 generalize qea ch.toNat 4=t4 at g2 z2 g
 have e0:=qh i 0
 have F:=qh i 1
 have z:=qh i 2
 simp at e0 F z
 go_wp2_with fail
 refine(qi3 G P t4 w2 g2 (qa U).1 (qa U).2 (by omega)).mono ?_
 rintro e w3 ⟨rfl,u3,g3⟩
 replace i:=u3.old i (by omega)
 replace C:=C.then u3 (fun q O h=>by omega)
 clear e0 F z g2 u3
 have z3:(t4++qea P.toNat 8).size=12:=by rw[ByteArray.size_append,z2,qa D]
 generalize t4++qea P.toNat 8=t5 at g3 z3 g
 have e0:=qh i 0
 have F:=qh i 1
 have z:=qh i 2
 simp at e0 F z
 go_wp2_with fail
 refine(qi3 G A t5 w3 g3 (qa HA).1 (qa HA).2 (by omega)).mono ?_
 rintro e w4 ⟨rfl,u4,g4⟩
 replace i:=u4.old i (by omega)
 replace C:=C.then u4 (fun q O h=>by omega)
 clear e0 F z g3 u4
 have z4:(t5++qea A.toNat 8).size=20:=by rw[ByteArray.size_append,z3,qa D]
 generalize t5++qea A.toNat 8=t6 at g4 z4 g
 have e0:=qh i 0
 have F:=qh i 1
 have z:=qh i 2
 simp at e0 F z
 go_wp2_with fail
 refine(qi3 G B t6 w4 g4 (qa HB).1 (qa HB).2 (by omega)).mono ?_
 rintro e w5 ⟨rfl,u5,g5⟩
 replace i:=u5.old i (by omega)
 replace C:=C.then u5 (fun q O h=>by omega)
 clear e0 F z g4 u5
 have z5:(t6++qea B.toNat 8).size=28:=by rw[ByteArray.size_append,z4,qa D]
 generalize t6++qea B.toNat 8=t7 at g5 z5 g
 have e0:=qh i 0
 have F:=qh i 1
 have z:=qh i 2
 simp at e0 F z
 go_wp2_with fail
 refine(zbe G _ t7 w5 g5 (by omega) (by omega) (by omega)).mono ?_
 rintro e w6 ⟨rfl,u6,g6⟩
 replace i:=u6.old i (by omega)
 replace C:=C.then u6 (fun q O h=>by omega)
 clear e0 F z g5 u6
 have d4:((X.length:Int)%65536).toNat=X.length%65536:=by omega
 rw[d4,←qa g] at g6
 have zh:=qrj ch n A B X.length
 have a8:qki ch n A B X=X.foldl qho (qub ch n A B X.length):=rfl
 generalize qub ch n A B X.length=hd at g6 zh a8
 have b5:=qb a8
 clear d4 a8 z2 z3 z4 z5 g b4 e8 U HA HB
 have z:=qh i 2
 simp at z
 go_wp2_with fail
 clear z
 obtain⟨wo,rfl⟩:∃wo:World,wo=w6:=⟨_,rfl⟩
 have HU:=qb hu
 clear hu
 go_loopw [9,38] (fun _ iv wr=>∃k:Nat,iv = .int .i64 (k:Int)∧k≤X.length∧Wr wr G ((X.take k).foldl qho hd)∧qu w wr) (fun _ iv _=>X.length-(intOf iv).toNat)
 case atStart=>exact⟨0,rfl,Nat.zero_le _,g6,C⟩
 case round =>
  clear g6 C;obtain⟨k,rfl,hk,gk,o⟩:=hrel;obtain⟨m,rfl⟩:∃m:World,m=wr:=⟨_,rfl⟩;by_cases e5:k<X.length
  ·obtain⟨x,hx⟩:∃x,X[k]? = some x:=⟨_,List.getElem?_eq_getElem e5⟩;obtain⟨b,off,rfl,-,c8⟩:=((qa HU).new o).at hx;have T:=hok x (List.mem_of_getElem? hx);have t:=q57 X hd hx;have a7:=qt6 (X.take k) hd;rw[zh,List.length_take,Nat.min_eq_left hk] at a7;have f6:(k:Int)<(X.length:Int):=by omega
   have d8:=gk.lt;generalize (X.take k).foldl qho hd=s0 at gk t a7;have HF:=qb t;have K:=qb T;clear hx t T;go_upto_region 9 with fail;refine wp_region_lit ?_;refine q8 rfl (v:= .pointer (some ⟨b,off+k*36,none⟩)) (w':=m) (by simp only[execOp];go_simp) ?_;refine q8 rfl (v:= .agg (zf x).toArray) (w':=m) (by simp only[execOp];go_simp) ?_;refine q8 rfl (v:= .pointer (some ⟨m.heap.size,0,none⟩)) (w':=m.alloc (.cells qvh 146)) (by kernel_rfl) ?_;have n1:qu m (m.alloc (.cells qvh 146)):=(Upd.refl _ _).alloc _;have M:(m.alloc (.cells qvh 146)).heap[m.heap.size]? = some (.cells qvh 146 (0,0)):=qi _ _;generalize m.alloc (.cells qvh 146)=a9 at n1 M ⊢;refine wpList_store_row rfl _ _ _ rfl m.heap.size (zf x).toArray (by kernel_rfl) (by kernel_rfl) 146 _ M (by rw[List.size_toArray,qco];exact Tryz.infoItem) (by have h9:qvh.size=36:=rfl;rw[h9];simp[qco]) (by rw[List.all_toArray,List.all_eq_true];exact qrz x) ?_;have l:=setRow_heap a9 m.heap.size _ (zf x).toArray 146 (0,0) M;have n2:qu m (a9.setRow m.heap.size (zf x).toArray):=n1.setRow (fun h=>by omega) _;generalize a9.setRow m.heap.size (zf x).toArray=e9 at l n2 ⊢;replace gk:=gk.new n2;replace o:=o.trans n2;have d9:G<m.heap.size:=d8;have e3:w.heap.size≤m.heap.size:=by omega
   generalize m.heap.size=I at l d9 e3 ⊢;clear n1 M n2 c8;have c9:=qad l 36 (by simp[qco]);have c1:(zf x)[0]? = some (.bool x.offered):=rfl;have c7:=qsj x.offered (zf x).toArray e9 (by rw[List.getElem?_toArray];exact c1);have e6:(1-qf8 x.offered).toNat=(if x.offered then 1 else 0)∧0≤1-qf8 x.offered∧1-qf8 x.offered≤1∧0≤qf8 x.offered∧qf8 x.offered≤1:=by cases x.offered<;>decide
   obtain⟨R,c6,f1,f2,f3⟩:=e6;have d6:=qb R;have V:=qb c7;clear c1 c7 R;generalize b8:(zf x).toArray=IC at c9 V;have f4:=qb b8;clear b8;go_wp2_with fail;refine(qa V).mono ?_;rintro e f0 ⟨rfl,n3⟩;have m3:=_root_.Go.Proofs.YthnohmjbbeahmaaGreatDoor.G.new n3;replace l:=m3.old l (fun h=>h);replace gk:=gk.new m3;replace o:=o.trans m3;clear m3 n3 c9 V;go_wp2_with fail;refine(zbd G (1-qf8 x.offered) s0 f0 gk c6 (by omega) (by omega)).mono ?_;rintro e w4 ⟨rfl,u4,L⟩;replace l:=u4.old l (by omega);replace o:=o.then u4 (fun q O h=>by omega);clear u4;rw[qa d6] at L;have y4:(s0++qea (if x.offered then 1 else 0) 1).size=31+57*k:=by rw[ByteArray.size_append,a7,qhc];omega
   generalize c2:s0++qea (if x.offered then 1 else 0) 1=p4 at L y4;have d1:=qiw x 1 (by decide) l;have d2:=qiw x 2 (by decide) l;have E:=qiw x 35 (by decide) l;rw[q4e] at E;have dh:=qyw x l;replace d1:w4.cell? ⟨I,1,none⟩=some (.int .u64 x.h.id):=d1;clear d2 E dh gk;go_wp2_with fail;refine(qi3 G x.h.id p4 w4 L (qa K).id.1 (by have:=(qa K).id.2;omega) (by omega)).mono ?_;rintro e w5 ⟨rfl,u5,Y⟩;replace l:=u5.old l (by omega);replace o:=o.then u5 (fun q O h=>by omega);clear u5;have y5:(p4++qea x.h.id.toNat 8).size=39+57*k:=by rw[ByteArray.size_append,y4,qa D];omega
   generalize c3:p4++qea x.h.id.toNat 8=p5 at Y y5;have d2:w5.cell? ⟨I,2,none⟩=some (.int .u64 x.h.amount):=qiw x 2 (by decide) l;clear d1 L;go_wp2_with fail;refine(qi3 G x.h.amount p5 w5 Y (qa K).amount.1 (by have:=(qa K).amount.2;omega) (by omega)).mono ?_;rintro e w6 ⟨rfl,u6,Z⟩;replace l:=u6.old l (by omega);replace o:=o.then u6 (fun q O h=>by omega);clear u6;have y6:(p5++qea x.h.amount.toNat 8).size=47+57*k:=by rw[ByteArray.size_append,y5,qa D];omega
   generalize c4:p5++qea x.h.amount.toNat 8=p6 at Z y6;have dh:=qyw x l;generalize b7:(x.h.hash.toList.map (Value.int .u8)).toArray=HC at dh;have H:=qb (q93 G x.h.hash.toList p6 w6 Z (by simp) (by omega));rw[b7] at H;clear d2 Y b7 Z;go_wp2_with fail;refine(qa H).mono ?_;rintro e w7 ⟨rfl,u7,a4⟩;replace l:=u7.old l (by omega);replace o:=o.then u7 (fun q O h=>by omega);clear u7 H dh;have y7:(p6++strOfNums x.h.hash.toList).size=79+57*k:=by rw[ByteArray.size_append,y6,strOfNums_size];simp;omega
   generalize c5:p6++strOfNums x.h.hash.toList=p7 at a4 y7;have E:=qiw x 35 (by decide) l;rw[q4e] at E;obtain⟨W,a5⟩:∃W:Int,W=x.h.expiry%18446744073709551616:=⟨_,rfl⟩;have b3:=qb (show 0≤W∧W<18446744073709551616 by omega);have e7:IntKind.u64.wrap x.h.expiry=W:=by rw[IntKind.wrap_u64,a5]
   have d5:=qb a5;clear a5;go_wp2_with fail;refine(qi3 G W p7 w7 a4 (qa b3).1 (qa b3).2 (by omega)).mono ?_;rintro e w8 ⟨rfl,u8,b6⟩;replace l:=u8.old l (by omega);replace o:=o.then u8 (fun q O h=>by omega);clear u8;have d0:p7++qea W.toNat 8=(X.take (k+1)).foldl qho hd:=by
    rw[qa HF,←c5,←c4,←c3,←c2,qa d5];rfl
   rw[d0] at b6;clear E e7 c2 c3 c4 c5 d0 a4;go_wp2;go_roundw
   case rel=>exact⟨k+1,by go_num,by omega,b6,o⟩
   case measure=>simp[intOf];omega
  ·obtain rfl:k=X.length:=by omega
   rw[List.take_length,←qa b5] at gk;generalize d3:qki ch n A B X=tt at gk b5;have d7:=qb d3;clear d3;go_wp2_with fail;refine(q1d G tt m gk).mono ?_;rintro e w9 ⟨rfl,rfl⟩;go_wp2;go_ret;exact⟨by rw[qa d7];rfl,o⟩
end Go.Proofs.YthnohmjbbeahmaaGreatDoor
