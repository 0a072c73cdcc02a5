/-
  wire.May.
-/
import Derived.Test.YtfmkdoachjgjbaaGreatDoorFld3
import Derived.Test.YtfmkdoachjgjbaaGreatDoorMbc
import Derived.Maps.OwnSet
import Derived.Test.YtfmkdoachjgjbaaGreatDoorMbb
import Derived.Test.YtfmkdoachjgjbaaGreatDoorMae
import Derived.Test.YtfmkdoachjgjbaaGreatDoorTxt
set_option maxRecDepth 100000
set_option maxHeartbeats 4000000
set_option linter.unusedVariables false
set_option linter.unusedSimpArgs false
namespace Go.Proofs.YtfmkdoachjgjbaaGreatDoor
section
open Go.RowKit
def qib(xs:List Fld)(m:MsgV):MsgV:=xs.foldl (fun m x=>x.zero m) m
theorem zero_len(x:Fld)(m:MsgV)(h:m.hash.length=32):(x.zero m).hash.length=32:=by cases x<;>first | exact h | exact qu
theorem qxv{xs:List Fld}{i:Nat}{x:Fld}(h:xs[i]? = some x)(m:MsgV):qib (xs.take (i+1)) m=x.zero (qib (xs.take i) m):=by
 unfold qib;rw[List.take_add_one,h,List.foldl_append];rfl
theorem qu4(base A:Nat)(v:Value)(xs:List Fld)(m:MsgV)(w:World)(hv:FldsO base w v xs)(Y:MsB w A m)(Z:A<base)(b4:xs.length≤100) :
  Calls Tryz.prog 139 #[qgj,v,.pointer (some ⟨A,0,none⟩)] w fun e w'=>e = .returned (.tuple #[])∧MsB w' A (qib xs m)∧Upd (· = A) w w':=by
 obtain⟨vs,t,b2,K⟩:=hv
 obtain⟨va,a8,O⟩:=qaa t
 have q:∀(i:Nat) (u:Value),vs[i]? = some u→∃g,va=some ⟨g,0,none⟩∧base≤g∧w.cell? ⟨g,i,none⟩=some u:=by
  intro i u E;have N:=(List.getElem?_eq_some_iff.1 E).1;rcases t.2 with ⟨e,e0⟩ | ⟨g,cap,X,e,D,hg,_,_,hs,ht⟩
  ·omega
  ·rw[O] at e;injection e with e1;refine⟨g,e1,D,?_⟩;rw[qk hg];have:X.toList[i]? = some u:=by
    rw[←E,←ht,List.getElem?_take_of_lt (by omega)]
   rwa [Array.getElem?_toList] at this
 subst O
 clear t
 have z:=qj q
 have U:=qj K
 clear q K
 unfold qgj
 go_enter Tryz.func139,Tryz.ntmps139
 go_upto_region 1 with fail
 have R:qq w (w.alloc (.cells #[.pointer none,.pointer none] 234)):=(Upd.refl _ _).alloc _
 have D:=ql w (.cells #[.pointer none,.pointer none] 234)
 have a1:=Y.lt
 generalize w.alloc (.cells #[.pointer none,.pointer none] 234)=w1 at R D ⊢
 have I:A≠w.heap.size:=by omega
 generalize w.heap.size=B at D I ⊢
 have HB:=qj D
 have T:=qj (Y.new R)
 have W:=qj R
 have b3:(xs.length:Int)≤100:=by omega
 clear D Y R a1
 go_wp2_with fail
 go_loopw [7,10] (fun _ iv wr=>∃i:Nat,iv = .int .i64 (i:Int)∧i≤xs.length∧Hid (MsB wr A (qib (xs.take i) m))∧Upd (· = A) w1 wr) (fun _ iv _=>xs.length-(intOf iv).toNat)
 case atStart=>exact⟨0,rfl,Nat.zero_le _,T,Upd.refl _ _⟩
 case round =>
  obtain⟨i,rfl,hi,hM,H⟩:=hrel;obtain⟨C,rfl⟩:∃C:World,C=wr:=⟨_,rfl⟩;by_cases N:i<xs.length
  ·obtain⟨x,hx⟩:∃x,xs[i]? = some x:=⟨_,List.getElem?_eq_getElem N⟩;obtain⟨u,E⟩:∃u,vs[i]? = some u:=⟨_,List.getElem?_eq_getElem (by omega)⟩;obtain⟨g,rfl,b0,hc⟩:=qg z i u E;have hf:=qg U i x u hx E;have M:qfu base C u x:=(hf.new (qg W)).upd H (fun k hk e=>by omega);have a2:C.cell? ⟨g,i,none⟩=some u:=H.cell ((qg W).cell hc (fun h=>h)) (by show ¬g=A;omega);have y:=H.old (qg HB) (fun e=>I e.symm);have rP:=qaj y 2 rfl;have d0:C.cell? ⟨B,0,none⟩=some (.pointer none):=qk y 0;have d1:C.cell? ⟨B,1,none⟩=some (.pointer none):=qk y 1;obtain⟨F,a7,rfl,hE,o⟩:=qzq x base A _ u C M (qg hM) Z;have P:=qxv hx m;have HZ:=qj P;have b1:(i:Int)<(xs.length:Int):=by omega
   unfold qgj at o;clear hf M hc y P hx E;go_wp2_with fail;refine o.mono ?_;rintro e w3 ⟨rfl,J,u3⟩;have a6:=H.trans u3;have V:=qj J;clear o rP d0 d1 a2 hE J u3 H;go_wp2_with fail;go_roundw
   case rel=>exact⟨i+1,by go_num,by omega,by rw[qg HZ];exact V,a6⟩
   case measure=>simp[intOf];omega
  ·obtain rfl:i=xs.length:=by omega
   rw[List.take_length] at hM;go_wp2_with fail;go_end0;exact⟨rfl,qg hM,((qg W).mono (fun _ _ h=>h.elim)).trans H⟩
theorem Tryz.flatMsg:qb4 Tryz.prog 5 101=some (.int .i64 :: .int .u32 :: .int .u64 :: .int .u64::(List.replicate 32 (.int .u8)++[.int .i64,.int .i64])):=by kernel_rfl
theorem Tryz.eqMsg:eqB Tryz.prog 5 101=true:=by kernel_rfl
theorem Tryz.aggMsg:qfw Tryz.prog 101=true:=by kernel_rfl
theorem wfI{n:Int}(h : -9223372036854775808≤n∧n≤9223372036854775807):(Lit.int .i64 n).wf=true:=by
 simp[Lit.wf,IntKind.min,IntKind.max,IntKind.signed,IntKind.bits];omega
theorem wfU{n:Int}(h:0≤n∧n<18446744073709551616):(Lit.int .u64 n).wf=true:=by
 simp[Lit.wf,IntKind.min,IntKind.max,IntKind.signed,IntKind.bits];omega
theorem wfW{n:Int}(h:0≤n∧n<4294967296):(Lit.int .u32 n).wf=true:=by
 simp[Lit.wf,IntKind.min,IntKind.max,IntKind.signed,IntKind.bits];omega
theorem qt9{m:MsgV}(h:MsgOk m):qcs (.int .i64 :: .int .u32 :: .int .u64 :: .int .u64::(List.replicate 32 (.int .u8)++[.int .i64,.int .i64])) m.cells :=
 ⟨_,_,rfl,⟨_,rfl,wfI h.kind⟩,_,_,rfl,⟨_,rfl,wfW h.ch⟩,_,_,rfl,⟨_,rfl,wfU h.id⟩,_,_,rfl,⟨_,rfl,wfU h.amount⟩,qcs.app (qhw h.len h.hash) ⟨_,_,rfl,⟨_,rfl,wfI h.expiry⟩,_,_,rfl,⟨_,rfl,wfI h.number⟩,rfl⟩⟩
def eqMsg(x y:Value):Sem Value:=binOp .eql 101 x y
theorem qtj(x y:Value):binOp .eql 101 x y=eqMsg x y:=rfl
theorem qzc{a b:MsgV}(w:a.hash.length=32)(x:b.hash.length=32)(h:a.cells=b.cells):a=b:=by
 obtain⟨y,z,a3,a4,a5,C,D⟩:=a;obtain⟨E,H,I,J,o,K,M⟩:=b;unfold MsgV.cells at h;simp only[List.cons.injEq,Value.int.injEq,true_and] at h;obtain⟨rfl,rfl,rfl,rfl,h⟩:=h;have i:a5.length=32:=w;have m:o.length=32:=x;have:=List.append_inj h (by simp[i,m]);obtain⟨t,q⟩:=this;have v:a5=o:=qhv t;simp only[List.cons.injEq,Value.int.injEq,true_and,and_true] at q;obtain⟨rfl,rfl⟩:=q;rw[v]
instance:DecidableEq MsgV:=fun a b =>
 decidable_of_iff (a.kind=b.kind∧a.ch=b.ch∧a.id=b.id∧a.amount=b.amount∧a.hash=b.hash∧a.expiry=b.expiry∧a.number=b.number)
  ⟨by rintro ⟨h1,h2,h3,h4,h5,h6,h7⟩;cases a;cases b;simp_all,by rintro rfl;exact⟨rfl,rfl,rfl,rfl,rfl,rfl,rfl⟩⟩
theorem q9v{a b:MsgV}(i:MsgOk a)(m:MsgOk b)(w:World):(eqMsg (.agg a.cells.toArray) (.agg b.cells.toArray)).run Tryz.prog w = .ok (.bool (decide (a=b))) w:=by
 refine qjz 5 (by decide) Tryz.eqMsg Tryz.flatMsg Tryz.aggMsg (qt9 i) (qt9 m) (decide (a=b)) ?_ w;constructor
 ·intro e;rw[of_decide_eq_true e]
 ·intro e;exact decide_eq_true (qzc i.len m.len e)
theorem q8d{m:MsgV}(h:MsgOk m)(x:Fld):MsgOk (x.zero m):=by
 have z:∀b∈zm,0≤b∧b≤255:=qfg;cases x
 ·exact⟨h.kind,show (0:Int)≤0∧(0:Int)<4294967296 by decide,h.id,h.amount,h.len,h.hash,h.expiry,h.number⟩
 ·exact⟨h.kind,h.ch,show (0:Int)≤0∧(0:Int)<18446744073709551616 by decide,h.amount,h.len,h.hash,h.expiry,h.number⟩
 ·exact⟨h.kind,h.ch,h.id,show (0:Int)≤0∧(0:Int)<18446744073709551616 by decide,h.len,h.hash,h.expiry,h.number⟩
 ·exact⟨h.kind,h.ch,h.id,h.amount,qu,z,h.expiry,h.number⟩
 ·exact⟨h.kind,h.ch,h.id,h.amount,h.len,h.hash,show (-9223372036854775808:Int)≤0∧(0:Int)≤9223372036854775807 by decide,h.number⟩
 ·exact⟨h.kind,h.ch,h.id,h.amount,h.len,h.hash,h.expiry,show (-9223372036854775808:Int)≤0∧(0:Int)≤9223372036854775807 by decide⟩
theorem q6i(xs:List Fld):∀ {m:MsgV},MsgOk m→MsgOk (qib xs m):=by
 induction xs with
 | nil=>intro m h;exact h
 | cons x xs i=>intro m h;exact i (q8d h x)
def qbn(k:Int):MsgV:=⟨k,0,0,0,zm,0,0⟩
theorem qe8{k:Int}(h : -9223372036854775808≤k∧k≤9223372036854775807):MsgOk (qbn k) :=
 ⟨h,show (0:Int)≤0∧(0:Int)<4294967296 by decide,show (0:Int)≤0∧(0:Int)<18446744073709551616 by decide,show (0:Int)≤0∧(0:Int)<18446744073709551616 by decide,qu,qfg,show (-9223372036854775808:Int)≤0∧(0:Int)≤9223372036854775807 by decide,show (-9223372036854775808:Int)≤0∧(0:Int)≤9223372036854775807 by decide⟩
theorem qxu(xs:List Fld):∀m:MsgV,(qib xs m).kind=m.kind:=by
 induction xs with
 | nil=>intro m;rfl
 | cons x xs i=>intro m;exact(i _).trans (by cases x<;>rfl)
def qap(m:MsgV):Bool :=
 match fieldsOf m.kind with
 | none=>false
 | some xs=>if m.expiry<0∨1073741824<m.expiry∨m.number<0∨65535<m.number∨1125899906842624<m.amount then false else decide (qib xs m=qbn m.kind)
theorem qt8{m:MsgV}(h:fieldsOf m.kind=none):qap m=false:=by unfold qap;rw[h]
theorem q4r{m:MsgV}{xs:List Fld}(h:fieldsOf m.kind=some xs):qap m=if m.expiry<0∨1073741824<m.expiry∨m.number<0∨65535<m.number∨1125899906842624<m.amount then false else decide (qib xs m=qbn m.kind):=by unfold qap;rw[h]
theorem qgz{k:Int}{xs:List Fld}(h:fieldsOf k=some xs):xs.length≤100:=by
 unfold fieldsOf at h
 repeat' (split at h)
 all_goals first
  | (injection h with h;subst h;decide)
  | cases h
attribute [local go_sem ↓ high] ze zf zg zj qtj
attribute [local go_sem] qau qav qaw qy
theorem qs2(k:Int)(w:World):(qhq #[(0,.int .i64 k)]).run Tryz.prog w = .ok (.agg (qbn k).cells.toArray) w:=run_build w _ _ _ (by kernel_rfl)
theorem qg6(m:MsgV)(J:MsgOk m)(w:World):Calls Tryz.prog 143 #[.agg m.cells.toArray] w (qar (.bool (qap m)) w):=by
 go_enter Tryz.func143,Tryz.ntmps143;go_upto_region 1 with fail;have D:=qa6 w m J.len;have M:qq w (w.alloc (.cells m.cells.toArray 101)):=(Upd.refl _ _).alloc _;generalize w.alloc (.cells m.cells.toArray 101)=w1 at M D ⊢;obtain⟨A,E⟩:∃A,A=w.heap.size:=⟨_,rfl⟩;rw[←E] at D ⊢;have a1:w.heap.size≤A:=by omega
 clear E;obtain⟨Y,-,-,-,-,-,-⟩:=D.cells;have X:=qj D;clear D;cases z:fieldsOf m.kind with
 | none =>
  have t:=qj (qt8 z);have H:=qld m.kind z w1;clear z J;go_wp2_with fail;refine H.mono ?_;rintro e w2 ⟨rfl,K⟩;have q:=M.trans K;clear H Y;go_wp2_with fail;go_ret;exact⟨by rw[qg t];rfl,q⟩
 | some xs =>
  have t:=qj (q4r z);have R:=qgz z;have H:=qi1 m.kind xs z w1;have O:=J.kind;have HM:=qj J;clear z J;go_wp2_with fail;refine H.mono ?_;rintro e w2 ⟨v,rfl,K,I⟩;have o:=(qg X).new K;obtain⟨-,-,-,m3,T,U,-⟩:=o.cells;have q:=M.trans K;have N:=qj I;have x:=(qg X).lt;clear H Y I M K;by_cases e1:m.expiry<0
  ·rw[if_pos (.inl e1)] at t;clear o;go_wp2_with fail;go_ret;exact⟨by rw[qg t];rfl,q⟩
  by_cases e2:1073741824<m.expiry
  ·rw[if_pos (.inr (.inl e2))] at t;clear o;go_wp2_with fail;go_ret;exact⟨by rw[qg t];rfl,q⟩
  by_cases e3:m.number<0
  ·rw[if_pos (.inr (.inr (.inl e3)))] at t;clear o;go_wp2_with fail;go_ret;exact⟨by rw[qg t];rfl,q⟩
  by_cases e4:65535<m.number
  ·rw[if_pos (.inr (.inr (.inr (.inl e4))))] at t;clear o;go_wp2_with fail;go_ret;exact⟨by rw[qg t];rfl,q⟩
  by_cases e5:1125899906842624<m.amount
  ·rw[if_pos (.inr (.inr (.inr (.inr e5))))] at t;clear o;go_wp2_with fail;go_ret;exact⟨by rw[qg t];rfl,q⟩
  rw[if_neg (by omega)] at t;have C:=qu4 w1.heap.size A v xs m w2 (qg N) o x R;unfold qgj at C;clear o;go_wp2_with fail;refine C.mono ?_;rintro e w3 ⟨rfl,y,Z⟩;have V:qq w w3:=q.then Z (fun i hi e=>by omega);have hz:=qxu xs m;have P:=q6i xs (qg HM);obtain⟨z0,-,-,-,-,-,-⟩:=y.cells;rw[hz] at z0;have rM:=y.row;have a2:=fun W=>qs2 m.kind W
  have a6:=fun W=>q9v P (qe8 O) W
  clear C Z m3 T U y;go_wp2_with fail;go_ret;exact⟨by rw[qg t];rfl,V⟩
end
section
open Go.RowKit
def fnR(v:Value):Option (DataW Unit × List MemPlace) :=
 match v with
 | .func (.func F) a b=>if a.size=0∧b.size=0 then some (.lit (.int .i64 F),[]) else none
 | .nilFunc=>some (.lit (.int .i64 (-1)),[])
 | _=>none
theorem q7d{v:Value}{F:Nat}{ps:List MemPlace}(h:fnR v=some (.lit (.int .i64 F),ps)):v = .func (.func F) #[] #[]:=by
 unfold fnR at h;split at h
 ·split at h
  ·rename_i i;simp only[Option.some.injEq,Prod.mk.injEq,DataW.lit.injEq,Lit.int.injEq,true_and] at h;have e:_=F:=Int.ofNat.inj h.1;rw[Array.eq_empty_of_size_eq_zero i.1,Array.eq_empty_of_size_eq_zero i.2,e]
  ·cases h
 ·simp only[Option.some.injEq,Prod.mk.injEq,DataW.lit.injEq,Lit.int.injEq,true_and] at h;omega
 ·cases h
def hearD:DataW Unit:=((((((((DataW.map []).put (.int .i64 3) (.lit (.int .i64 176))).put (.int .i64 4) (.lit (.int .i64 177))).put (.int .i64 5) (.lit (.int .i64 178))).put (.int .i64 6) (.lit (.int .i64 179))).put (.int .i64 7) (.lit (.int .i64 180))).put (.int .i64 8) (.lit (.int .i64 181))).put (.int .i64 9) (.lit (.int .i64 182)))
def qhf(w:World)(b:Nat):Prop:=w.ownsMap Tryz.prog 3 fnR b 7 hearD
theorem qtw(w:World):Calls Tryz.prog 144 #[] w fun e w'=>∃b,e = .returned (.map (some b))∧qq w w'∧qhf w' b:=by
 have K:=Maps.int_keyed Tryz.underlying3;have C:=World.ownsMap_made w Tryz.prog 3 fnR;have n0:qq w (w.alloc (.map #[] 0)):=(Upd.refl _ _).alloc _;have key:∀k:Int,(Lit.int .i64 k).wf=true→keyOf Tryz.prog 3 (.int .i64 k)=some (.int .i64 k):=fun k m=>Maps.keyOf_int_mk Tryz.underlying3 m
 have T:=@run_makeMap Tryz.prog;obtain⟨w1,V,D,o⟩:=C.update K Tryz.underlying241 (by decide) (key 3 (by decide)) (val:= .func (.func 176) #[] #[]) (d:= .lit (.int .i64 176)) (ps:=[]) rfl;obtain⟨w2,W,E,q⟩:=D.update K Tryz.underlying241 (by decide) (key 4 (by decide)) (val:= .func (.func 177) #[] #[]) (d:= .lit (.int .i64 177)) (ps:=[]) rfl;obtain⟨w3,X,H,t⟩:=E.update K Tryz.underlying241 (by decide) (key 5 (by decide)) (val:= .func (.func 178) #[] #[]) (d:= .lit (.int .i64 178)) (ps:=[]) rfl;obtain⟨w4,Y,I,v⟩:=H.update K Tryz.underlying241 (by decide) (key 6 (by decide)) (val:= .func (.func 179) #[] #[]) (d:= .lit (.int .i64 179)) (ps:=[]) rfl;obtain⟨w5,Z,J,x⟩:=I.update K Tryz.underlying241 (by decide) (key 7 (by decide)) (val:= .func (.func 180) #[] #[]) (d:= .lit (.int .i64 180)) (ps:=[]) rfl;obtain⟨w6,r6,M,y⟩:=J.update K Tryz.underlying241 (by decide) (key 8 (by decide)) (val:= .func (.func 181) #[] #[]) (d:= .lit (.int .i64 181)) (ps:=[]) rfl;obtain⟨O,r7,N,z⟩:=M.update K Tryz.underlying241 (by decide) (key 9 (by decide)) (val:= .func (.func 182) #[] #[]) (d:= .lit (.int .i64 182)) (ps:=[]) rfl;have U:qq w O:=by
  have i:∀ {a b:World},a.grownBy b (some w.heap.size)→qq w a→qq w b:=fun g n=>n.grown g (fun k m R=>by injection m with m;omega)
  exact i z (i y (i x (i v (i t (i q (i o n0))))))
 have P:qhf O w.heap.size:=N;clear key K C D E H I J M N o q t v x y z n0;go_enter Tryz.func144,Tryz.ntmps144;go_wp2_with fail;go_ret;exact⟨_,rfl,U,P⟩
theorem qea{w:World}{b:Nat}(h:qhf w b)(k:Int)(F:Nat)(o:(Lit.int .i64 k).wf=true)(m:Maps.has hearD (.int .i64 k)=true)(hd:hearD.atKey (.int .i64 k) (.lit (.int .i64 (-1))) = .lit (.int .i64 F)) :
  (Instr.lookup 241 (.map (some b)) (.int .i64 k) true).run Tryz.prog w = .ok (.tuple #[.func (.func F) #[] #[],.bool true]) w:=by
 obtain⟨v,ps,q,i⟩:=h.look_ok (Maps.int_keyed Tryz.underlying3) Tryz.underlying241 (z:= .nilFunc) (zd:= .lit (.int .i64 (-1))) (zp:=[]) (by kernel_rfl) rfl (Maps.keyOf_int_mk Tryz.underlying3 o)
 rw[hd] at i
 rw[q,q7d i,m]
theorem q90{w:World}{b:Nat}(h:qhf w b):(Instr.lookup 241 (.map (some b)) (.int .i64 3) true).run Tryz.prog w = .ok (.tuple #[.func (.func 176) #[] #[],.bool true]) w:=qea h 3 _ (by decide) (by decide +kernel) rfl
theorem q91{w:World}{b:Nat}(h:qhf w b):(Instr.lookup 241 (.map (some b)) (.int .i64 4) true).run Tryz.prog w = .ok (.tuple #[.func (.func 177) #[] #[],.bool true]) w:=qea h 4 _ (by decide) (by decide +kernel) rfl
theorem q92{w:World}{b:Nat}(h:qhf w b):(Instr.lookup 241 (.map (some b)) (.int .i64 5) true).run Tryz.prog w = .ok (.tuple #[.func (.func 178) #[] #[],.bool true]) w:=qea h 5 _ (by decide) (by decide +kernel) rfl
theorem q93{w:World}{b:Nat}(h:qhf w b):(Instr.lookup 241 (.map (some b)) (.int .i64 6) true).run Tryz.prog w = .ok (.tuple #[.func (.func 179) #[] #[],.bool true]) w:=qea h 6 _ (by decide) (by decide +kernel) rfl
theorem q94{w:World}{b:Nat}(h:qhf w b):(Instr.lookup 241 (.map (some b)) (.int .i64 7) true).run Tryz.prog w = .ok (.tuple #[.func (.func 180) #[] #[],.bool true]) w:=qea h 7 _ (by decide) (by decide +kernel) rfl
theorem q95{w:World}{b:Nat}(h:qhf w b):(Instr.lookup 241 (.map (some b)) (.int .i64 8) true).run Tryz.prog w = .ok (.tuple #[.func (.func 181) #[] #[],.bool true]) w:=qea h 8 _ (by decide) (by decide +kernel) rfl
theorem q96{w:World}{b:Nat}(h:qhf w b):(Instr.lookup 241 (.map (some b)) (.int .i64 9) true).run Tryz.prog w = .ok (.tuple #[.func (.func 182) #[] #[],.bool true]) w:=qea h 9 _ (by decide) (by decide +kernel) rfl
end
section
open Go.RowKit Go.Sort
theorem get!_of{X:List Item}{n:Nat}{x:Item}(h:X[n]? = some x):X[n]! = x:=by rw[List.getElem!_eq_getElem?_getD,h];rfl
def qi7(w:World)(g off:Nat)(X:List Item):Prop :=
 ∃C T m,w.heap[g]? = some (.cells C T m)∧off+X.length*36≤C.size∧∀i x,X[i]? = some x→∀j,j<36→C[off+i*36+j]? = (zk x)[j]?
theorem qi7.row{w:World}{g off:Nat}{xs:List Item}(h:qi7 w g off xs){i:Nat}{x:Item}(q:xs[i]? = some x):zt w g (off+i*36) 36=some (zk x).toArray:=by
 obtain⟨C,T,z,t,D,v⟩:=h;have o:i<xs.length:=(List.getElem?_eq_some_iff.1 q).1;have m:off+i*36+36≤C.size:=by have:=Nat.mul_le_mul_right 36 (show i+1≤xs.length from o);omega
 rw[qby t _ _ m];congr 1;apply Array.ext';apply List.ext_getElem?;intro j;rw[Array.getElem?_toList,Array.getElem?_extract];by_cases y:j<36
 ·rw[if_pos (by omega),v i x q j y]
 ·rw[if_neg (by omega),List.getElem?_eq_none (by rw[qbx];omega)]
theorem qi7.upd{S:Nat→Prop}{w w':World}{b off:Nat}{xs:List Item}(h:qi7 w b off xs)(u:Upd S w w')(o:¬S b):qi7 w' b off xs:=by
 obtain⟨C,T,i,m,r⟩:=h;exact⟨C,T,i,u.old m o,r⟩
theorem qi7.lt{w:World}{g off:Nat}{xs:List Item}(h:qi7 w g off xs):g<w.heap.size:=by
 obtain⟨C,T,m,i,r⟩:=h;exact zi i
theorem qco.toR{w:World}{g off:Nat}{xs:List Item}(h:qco w g off xs):qi7 w g off xs:=by
 obtain⟨C,T,o,v,q⟩:=h;refine⟨C,T,_,o,v,fun i x m j t=> ?_⟩;rw[q i (List.getElem?_eq_some_iff.1 m).1 j t,get!_of m]
def qdz(w:World)(v:Value)(X:List Item):Prop:=(∃a c,v = .slice a 0 c∧X=[])∨∃g off cap,v = .slice (some ⟨g,off,none⟩) X.length cap∧qi7 w g off X
theorem qdz.new{w w':World}{v:Value}{X:List Item}(h:qdz w v X)(u:qq w w'):qdz w' v X:=by
 rcases h with h | ⟨g,off,cap,e,h⟩
 ·exact .inl h
 ·exact .inr ⟨g,off,cap,e,h.upd u (fun h=>h)⟩
theorem qmt.toR{w:World}{v:Value}{X:List Item}(h:qmt w v X):qdz w v X:=by
 rcases h with h | ⟨g,cap,e,h⟩
 ·exact .inl h
 ·exact .inr ⟨g,0,cap,e,h.toR⟩
theorem qdz.slice{w:World}{v:Value}{X:List Item}(h:qdz w v X):∃a c,v = .slice a X.length c:=by
 rcases h with ⟨_,_,rfl,rfl⟩ | ⟨g,off,cap,rfl,_⟩
 ·exact⟨_,_,rfl⟩
 ·exact⟨_,_,rfl⟩
theorem qkp{w:World}{base:Nat}{e:TypeId}{size:Nat}{v:Value}{n:Nat}{xs:List Value}(h:w.ownsRow base e size v n xs):∀k,v.ownBlock=some k→base≤k:=by
 intro k i;rcases h.2 with ⟨rfl,_⟩ | ⟨g,cap,m,rfl,o,_⟩
 ·simp[Value.ownBlock] at i
 ·simp[Value.ownBlock] at i;omega
theorem qdz.at{w:World}{a:Option Addr}{n c:Nat}{X:List Item}(h:qdz w (.slice a n c) X){i:Nat}{x:Item}(m:X[i]? = some x) :
  ∃b off,a=some ⟨b,off,none⟩∧n=X.length∧zt w b (off+i*36) 36=some (zk x).toArray:=by
 rcases h with ⟨_,_,e,rfl⟩ | ⟨b,off,cap,e,o⟩
 ·simp at m
 ·cases e;exact⟨b,off,rfl,rfl,o.row m⟩
end
section
open Go.RowKit
theorem qg8(g:Nat)(x:Int)(i:Nat)(t:Int)(s:ByteArray)(w:World)(q:t=i)(y:Wr w g s)(m:1≤i)(o:i≤8)(v:0≤x)(z:x<2 ^ (8*i))(C:s.size≤1073741824) :
  Calls Tryz.prog 92 #[.pointer (some ⟨g,0,none⟩),.int .u64 x,.int .i64 t] w fun e w'=>e = .returned (.int .i64 0)∧Upd (fun k=>k=g) w w'∧Wr w' g (s++zr x.toNat i):=by
 subst q
 obtain⟨n,rfl⟩:=Int.eq_ofNat_of_zero_le v
 rw[Int.toNat_natCast]
 exact qda g n i s w y m o (by exact_mod_cast z) C
theorem qgi(g:Nat)(x:Int)(s:ByteArray)(w:World)(m:Wr w g s)(i:0≤x)(o:x<18446744073709551616)(q:s.size≤1073741824) :
  Calls Tryz.prog 92 #[.pointer (some ⟨g,0,none⟩),.int .u64 x,.int .i64 8] w fun e w'=>e = .returned (.int .i64 0)∧Upd (fun k=>k=g) w w'∧Wr w' g (s++zr x.toNat 8) :=
 qg8 g x 8 8 s w rfl m (by decide) (by decide) i o q
theorem q41(g:Nat)(x:Int)(s:ByteArray)(w:World)(m:Wr w g s)(i:0≤x)(o:x<4294967296)(q:s.size≤1073741824) :
  Calls Tryz.prog 92 #[.pointer (some ⟨g,0,none⟩),.int .u64 x,.int .i64 4] w fun e w'=>e = .returned (.int .i64 0)∧Upd (fun k=>k=g) w w'∧Wr w' g (s++zr x.toNat 4) :=
 qg8 g x 4 4 s w rfl m (by decide) (by decide) i o q
theorem q40(g:Nat)(x:Int)(s:ByteArray)(w:World)(m:Wr w g s)(i:0≤x)(o:x<65536)(q:s.size≤1073741824) :
  Calls Tryz.prog 92 #[.pointer (some ⟨g,0,none⟩),.int .u64 x,.int .i64 2] w fun e w'=>e = .returned (.int .i64 0)∧Upd (fun k=>k=g) w w'∧Wr w' g (s++zr x.toNat 2) :=
 qg8 g x 2 2 s w rfl m (by decide) (by decide) i o q
theorem q4z(g:Nat)(x:Int)(s:ByteArray)(w:World)(m:Wr w g s)(i:0≤x)(o:x<256)(q:s.size≤1073741824) :
  Calls Tryz.prog 92 #[.pointer (some ⟨g,0,none⟩),.int .u64 x,.int .i64 1] w fun e w'=>e = .returned (.int .i64 0)∧Upd (fun k=>k=g) w w'∧Wr w' g (s++zr x.toNat 1) :=
 qg8 g x 1 1 s w rfl m (by decide) (by decide) i o q
end
section
open Go.RowKit Go.Sort
def qe6(s:ByteArray)(x:Item):ByteArray:=s++zr (if x.offered then 1 else 0) 1++zr x.h.id.toNat 8++zr x.h.amount.toNat 8++strOfNums x.h.hash.toList++zr (x.h.expiry%18446744073709551616).toNat 8
def qpt(ch n A B:Int)(m:Nat):ByteArray:=zr ch.toNat 4++zr (n%18446744073709551616).toNat 8++zr A.toNat 8++zr B.toNat 8++zr (m%65536) 2
def qhk(ch n A B:Int)(X:List Item):ByteArray:=X.foldl qe6 (qpt ch n A B X.length)
theorem qtz(s:ByteArray)(x:Item):(qe6 s x).size=s.size+57:=by
 unfold qe6;simp only[ByteArray.size_append,qaq,strOfNums_size];simp
theorem qng(ch n A B:Int)(m:Nat):(qpt ch n A B m).size=30:=by
 unfold qpt;simp only[ByteArray.size_append,qaq]
theorem qpr(X:List Item):∀s:ByteArray,(X.foldl qe6 s).size=s.size+57*X.length:=by
 induction X with
 | nil=>intro s;simp
 | cons x X i=>intro s;rw[List.foldl_cons,i,qtz,List.length_cons];omega
theorem qzw(X:List Item)(s:ByteArray){k:Nat}{x:Item}(h:X[k]? = some x):(X.take (k+1)).foldl qe6 s=qe6 ((X.take k).foldl qe6 s) x:=by
 rw[List.take_add_one,h];simp
def qqy:Array Value:=(.bool false :: .int .u64 0 :: .int .u64 0::(List.replicate 32 (.int .u8 0)++[.int .i64 0]):List Value).toArray
theorem qzm(s:ByteArray):(ByteArray.mk #[])++s=s:=by
 apply ByteArray.ext;simp
theorem qf9(x:Item)(i:Nat)(o:i<36){w:World}{b:Nat}{T:TypeId}{m:Nat × Nat}(h:w.heap[b]? = some (.cells (zk x).toArray T m)):w.cell? ⟨b,i,none⟩=(zk x)[i]? := by
 rw[qk h,List.getElem?_toArray]
theorem qtq(x:Item){w:World}{b:Nat}{T:TypeId}{i:Nat × Nat}(h:w.heap[b]? = some (.cells (zk x).toArray T i)):zt w b 3 32=some (x.h.hash.toList.map (Value.int .u8)).toArray:=by
 rw[qby h 3 32 (by simp[qbx])];congr 1;apply Array.ext';rw[Array.toList_extract];unfold zk qv;simp
theorem qx8(x:Item):(zk x)[35]? = some (.int .i64 x.h.expiry):=by
 unfold zk qv;rw[List.getElem?_cons_succ,List.getElem?_cons_succ,List.getElem?_cons_succ,List.getElem?_append_right (by simp)];simp
theorem Tryz.infoHashT:(Tryz.prog.info? 35).map (·.size)=some 32:=by kernel_rfl
def qyc(x:Value):Sem Value:=Instr.loadAt 35 x
theorem qo5(x:Value):Instr.loadAt 35 x=qyc x:=rfl
theorem q4l(b o:Nat)(w:World):(qyc (.pointer (some ⟨b,o,none⟩))).run Tryz.prog w=match zt w b o 32 with | some A=> .ok (.agg A) w | none=>qc3 Tryz.prog 35 w b o :=
 qag 35 32 _ Tryz.underlying35 rfl Tryz.infoHashT b o w
attribute [local go_sem ↓ high] qev qo5
attribute [local go_sem] qmn q4l
theorem q54(ch n A B:Int)(u:Value)(X:List Item)(hl:X.length≤1048576)(e6:∀x∈X,HtlcOk x.h)(w:World)(hc:0≤ch∧ch<4294967296)(hn : -9223372036854775808≤n∧n≤9223372036854775807)
  (hA:0≤A∧A<18446744073709551616) (hB:0≤B∧B<18446744073709551616) (hu:qdz w u X) :
  Calls Tryz.prog 157 #[.int .u32 ch,.int .i64 n,.agg #[.int .u64 A,.int .u64 B,u]] w (qar (.string (qhk ch n A B X)) w):=by
 obtain⟨a,c,rfl⟩:=hu.slice
 go_enter Tryz.func157,Tryz.ntmps157
 go_upto_region 2 with fail
 have n0:qq w ((w.alloc (.cells #[.int .u64 A,.int .u64 B,.slice a X.length c] 201)).alloc (.cells #[.string ⟨#[]⟩] 174)):=((Upd.refl _ _).alloc _).alloc _
 have m:((w.alloc (.cells #[.int .u64 A,.int .u64 B,.slice a X.length c] 201)).alloc (.cells #[.string ⟨#[]⟩] 174)).heap[w.heap.size]? = some (.cells #[.int .u64 A,.int .u64 B,.slice a X.length c] 201 (0,0)):=qx (ql _ _) _
 have hg:Wr ((w.alloc (.cells #[.int .u64 A,.int .u64 B,.slice a X.length c] 201)).alloc (.cells #[.string ⟨#[]⟩] 174)) (w.heap.size+1) ⟨#[]⟩:=by
  have:=ql (w.alloc (.cells #[.int .u64 A,.int .u64 B,.slice a X.length c] 201)) (.cells #[.string ⟨#[]⟩] 174);rwa [World.size_alloc] at this
 generalize (w.alloc (.cells #[.int .u64 A,.int .u64 B,.slice a X.length c] 201)).alloc (.cells #[.string ⟨#[]⟩] 174)=w1 at n0 m hg ⊢
 have HA:=qj hA
 have HB:=qj hB
 obtain⟨T,a8⟩:∃T:Int,T=n%18446744073709551616:=⟨_,rfl⟩
 have W:=qj (show 0≤T∧T<18446744073709551616 by omega)
 have e9:IntKind.u64.wrap n=T:=by rw[IntKind.wrap_u64,a8]
 have K:qpt ch n A B X.length=zr ch.toNat 4++zr T.toNat 8++zr A.toNat 8++zr B.toNat 8++zr (X.length%65536) 2:=by rw[a8];rfl
 have i:=qj K
 obtain⟨b9,c0⟩:=hc
 have s4:=fun x=>qaq x 4
 have s8:=fun x=>qaq x 8
 have b4:=qj s4
 have D:=qj s8
 clear a8 K hA hB hn s4 s8
 have e4:w.heap.size+1<w1.heap.size:=hg.lt
 have f8:(X.length:Int)≤1048576:=by omega
 obtain⟨G,hG⟩:∃G,G=w.heap.size+1:=⟨_,rfl⟩
 rw[←hG] at hg e4 ⊢
 have f6:w.heap.size<G:=by omega
 clear hG
 go_wp2_with fail
 refine(q41 G ch ⟨#[]⟩ w1 hg b9 c0 (by decide)).mono ?_
 rintro e w2 ⟨rfl,u2,g2⟩
 rw[qzm] at g2
 replace m:=u2.old m (by omega)
 replace n0:=n0.then u2 (fun q R h=>by omega)
 clear hg u2 b9 c0
 have z2:(zr ch.toNat 4).size=4:=qg b4 _
 generalize zr ch.toNat 4=t4 at g2 z2 i
 have e0:=qk m 0
 have H:=qk m 1
 have C:=qk m 2
 simp at e0 H C
 go_wp2_with fail
 refine(qgi G T t4 w2 g2 (qg W).1 (qg W).2 (by omega)).mono ?_
 rintro e w3 ⟨rfl,u3,g3⟩
 replace m:=u3.old m (by omega)
 replace n0:=n0.then u3 (fun q R h=>by omega)
 clear e0 H C g2 u3
 have z3:(t4++zr T.toNat 8).size=12:=by rw[ByteArray.size_append,z2,qg D]
 generalize t4++zr T.toNat 8=t5 at g3 z3 i
 have e0:=qk m 0
 have H:=qk m 1
 have C:=qk m 2
 simp at e0 H C
 go_wp2_with fail
 refine(qgi G A t5 w3 g3 (qg HA).1 (qg HA).2 (by omega)).mono ?_
 rintro e w4 ⟨rfl,u4,g4⟩
 replace m:=u4.old m (by omega)
 replace n0:=n0.then u4 (fun q R h=>by omega)
 clear e0 H C g3 u4
 have z4:(t5++zr A.toNat 8).size=20:=by rw[ByteArray.size_append,z3,qg D]
 generalize t5++zr A.toNat 8=t6 at g4 z4 i
 have e0:=qk m 0
 have H:=qk m 1
 have C:=qk m 2
 simp at e0 H C
 go_wp2_with fail
 refine(qgi G B t6 w4 g4 (qg HB).1 (qg HB).2 (by omega)).mono ?_
 rintro e w5 ⟨rfl,u5,g5⟩
 replace m:=u5.old m (by omega)
 replace n0:=n0.then u5 (fun q R h=>by omega)
 clear e0 H C g4 u5
 have z5:(t6++zr B.toNat 8).size=28:=by rw[ByteArray.size_append,z4,qg D]
 generalize t6++zr B.toNat 8=t7 at g5 z5 i
 have e0:=qk m 0
 have H:=qk m 1
 have C:=qk m 2
 simp at e0 H C
 go_wp2_with fail
 refine(q40 G _ t7 w5 g5 (by omega) (by omega) (by omega)).mono ?_
 rintro e w6 ⟨rfl,u6,g6⟩
 replace m:=u6.old m (by omega)
 replace n0:=n0.then u6 (fun q R h=>by omega)
 clear e0 H C g5 u6
 have d4:((X.length:Int)%65536).toNat=X.length%65536:=by omega
 rw[d4,←qg i] at g6
 have zh:=qng ch n A B X.length
 have b1:qhk ch n A B X=X.foldl qe6 (qpt ch n A B X.length):=rfl
 generalize qpt ch n A B X.length=hd at g6 zh b1
 have b5:=qj b1
 clear d4 b1 z2 z3 z4 z5 i b4 e9 W HA HB
 have C:=qk m 2
 simp at C
 go_wp2_with fail
 clear C
 obtain⟨wo,rfl⟩:∃wo:World,wo=w6:=⟨_,rfl⟩
 have HU:=qj hu
 clear hu
 go_loopw [9,38] (fun _ iv wr=>∃k:Nat,iv = .int .i64 (k:Int)∧k≤X.length∧Wr wr G ((X.take k).foldl qe6 hd)∧qq w wr) (fun _ iv _=>X.length-(intOf iv).toNat)
 case atStart=>exact⟨0,rfl,Nat.zero_le _,g6,n0⟩
 case round =>
  clear g6 n0;obtain⟨k,rfl,hk,gk,y⟩:=hrel;obtain⟨t,rfl⟩:∃t:World,t=wr:=⟨_,rfl⟩;by_cases e5:k<X.length
  ·obtain⟨x,hx⟩:∃x,X[k]? = some x:=⟨_,List.getElem?_eq_getElem e5⟩;obtain⟨b,off,rfl,-,c8⟩:=((qg HU).new y).at hx;have V:=e6 x (List.mem_of_getElem? hx);have z:=qzw X hd hx;have b0:=qpr (X.take k) hd;rw[zh,List.length_take,Nat.min_eq_left hk] at b0;have f7:(k:Int)<(X.length:Int):=by omega
   have d8:=gk.lt;generalize (X.take k).foldl qe6 hd=s0 at gk z b0;have HF:=qj z;have M:=qj V;clear hx z V;go_upto_region 9 with fail;refine wp_region_lit ?_;refine qac rfl (v:= .pointer (some ⟨b,off+k*36,none⟩)) (w':=t) (by simp only[execOp];go_simp) ?_;refine qac rfl (v:= .agg (zk x).toArray) (w':=t) (by simp only[execOp];go_simp) ?_;refine qac rfl (v:= .pointer (some ⟨t.heap.size,0,none⟩)) (w':=t.alloc (.cells qqy 254)) (by kernel_rfl) ?_;have n1:qq t (t.alloc (.cells qqy 254)):=(Upd.refl _ _).alloc _;have P:(t.alloc (.cells qqy 254)).heap[t.heap.size]? = some (.cells qqy 254 (0,0)):=ql _ _;generalize t.alloc (.cells qqy 254)=b2 at n1 P ⊢;refine wpList_store_row rfl _ _ _ rfl t.heap.size (zk x).toArray (by kernel_rfl) (by kernel_rfl) 254 _ P (by rw[List.size_toArray,qbx];exact Tryz.infoItem) (by have h9:qqy.size=36:=rfl;rw[h9];simp[qbx]) (by rw[List.all_toArray,List.all_eq_true];exact qno x) ?_;have o:=setRow_heap b2 t.heap.size _ (zk x).toArray 254 (0,0) P;have n2:qq t (b2.setRow t.heap.size (zk x).toArray):=n1.setRow (fun h=>by omega) _;generalize b2.setRow t.heap.size (zk x).toArray=f0 at o n2 ⊢;replace gk:=gk.new n2;replace y:=y.trans n2;have d9:G<t.heap.size:=d8;have e3:w.heap.size≤t.heap.size:=by omega
   generalize t.heap.size=I at o d9 e3 ⊢;clear n1 P n2 c8;have c9:=qaj o 36 (by simp[qbx]);have c1:(zk x)[0]? = some (.bool x.offered):=rfl;have c7:=qn4 x.offered (zk x).toArray f0 (by rw[List.getElem?_toArray];exact c1);have e7:(1-qep x.offered).toNat=(if x.offered then 1 else 0)∧0≤1-qep x.offered∧1-qep x.offered≤1∧0≤qep x.offered∧qep x.offered≤1:=by cases x.offered<;>decide
   obtain⟨U,c6,f2,f3,f4⟩:=e7;have d6:=qj U;have Y:=qj c7;clear c1 c7 U;generalize b8:(zk x).toArray=IC at c9 Y;have f5:=qj b8;clear b8;go_wp2_with fail;refine(qg Y).mono ?_;rintro e f1 ⟨rfl,n3⟩;have m3:=_root_.Go.Proofs.YtfmkdoachjgjbaaGreatDoor.G.new n3;replace o:=m3.old o (fun h=>h);replace gk:=gk.new m3;replace y:=y.trans m3;clear m3 n3 c9 Y;go_wp2_with fail;refine(q4z G (1-qep x.offered) s0 f1 gk c6 (by omega) (by omega)).mono ?_;rintro e w4 ⟨rfl,u4,O⟩;replace o:=u4.old o (by omega);replace y:=y.then u4 (fun q R h=>by omega);clear u4;rw[qg d6] at O;have y4:(s0++zr (if x.offered then 1 else 0) 1).size=31+57*k:=by rw[ByteArray.size_append,b0,qaq];omega
   generalize c2:s0++zr (if x.offered then 1 else 0) 1=p4 at O y4;have d1:=qf9 x 1 (by decide) o;have d2:=qf9 x 2 (by decide) o;have E:=qf9 x 35 (by decide) o;rw[qx8] at E;have dh:=qtq x o;replace d1:w4.cell? ⟨I,1,none⟩=some (.int .u64 x.h.id):=d1;clear d2 E dh gk;go_wp2_with fail;refine(qgi G x.h.id p4 w4 O (qg M).id.1 (by have:=(qg M).id.2;omega) (by omega)).mono ?_;rintro e w5 ⟨rfl,u5,a1⟩;replace o:=u5.old o (by omega);replace y:=y.then u5 (fun q R h=>by omega);clear u5;have y5:(p4++zr x.h.id.toNat 8).size=39+57*k:=by rw[ByteArray.size_append,y4,qg D];omega
   generalize c3:p4++zr x.h.id.toNat 8=p5 at a1 y5;have d2:w5.cell? ⟨I,2,none⟩=some (.int .u64 x.h.amount):=qf9 x 2 (by decide) o;clear d1 O;go_wp2_with fail;refine(qgi G x.h.amount p5 w5 a1 (qg M).amount.1 (by have:=(qg M).amount.2;omega) (by omega)).mono ?_;rintro e w6 ⟨rfl,u6,a2⟩;replace o:=u6.old o (by omega);replace y:=y.then u6 (fun q R h=>by omega);clear u6;have y6:(p5++zr x.h.amount.toNat 8).size=47+57*k:=by rw[ByteArray.size_append,y5,qg D];omega
   generalize c4:p5++zr x.h.amount.toNat 8=p6 at a2 y6;have dh:=qtq x o;generalize b7:(x.h.hash.toList.map (Value.int .u8)).toArray=HC at dh;have J:=qj (qtp G x.h.hash.toList p6 w6 a2 (by simp) (by omega));rw[b7] at J;clear d2 a1 b7 a2;go_wp2_with fail;refine(qg J).mono ?_;rintro e w7 ⟨rfl,u7,a6⟩;replace o:=u7.old o (by omega);replace y:=y.then u7 (fun q R h=>by omega);clear u7 J dh;have y7:(p6++strOfNums x.h.hash.toList).size=79+57*k:=by rw[ByteArray.size_append,y6,strOfNums_size];simp;omega
   generalize c5:p6++strOfNums x.h.hash.toList=p7 at a6 y7;have E:=qf9 x 35 (by decide) o;rw[qx8] at E;obtain⟨Z,a7⟩:∃Z:Int,Z=x.h.expiry%18446744073709551616:=⟨_,rfl⟩;have b3:=qj (show 0≤Z∧Z<18446744073709551616 by omega);have e8:IntKind.u64.wrap x.h.expiry=Z:=by rw[IntKind.wrap_u64,a7]
   have d5:=qj a7;clear a7;go_wp2_with fail;refine(qgi G Z p7 w7 a6 (qg b3).1 (qg b3).2 (by omega)).mono ?_;rintro e w8 ⟨rfl,u8,b6⟩;replace o:=u8.old o (by omega);replace y:=y.then u8 (fun q R h=>by omega);clear u8;have d0:p7++zr Z.toNat 8=(X.take (k+1)).foldl qe6 hd:=by
    rw[qg HF,←c5,←c4,←c3,←c2,qg d5];rfl
   rw[d0] at b6;clear E e8 c2 c3 c4 c5 d0 a6;go_wp2;go_roundw
   case rel=>exact⟨k+1,by go_num,by omega,b6,y⟩
   case measure=>simp[intOf];omega
  ·obtain rfl:k=X.length:=by omega
   rw[List.take_length,←qg b5] at gk;generalize d3:qhk ch n A B X=tt at gk b5;have d7:=qj d3;clear d3;go_wp2_with fail;refine(qe3 G tt t gk).mono ?_;rintro e w9 ⟨rfl,rfl⟩;go_wp2;go_ret;exact⟨by rw[qg d7];rfl,y⟩
end
end Go.Proofs.YtfmkdoachjgjbaaGreatDoor
